/- Parts of the proof: lemmas, and the steps through the program. -/
import Derived.Test.YtmnbfgeljmhekaaGreatK4
set_option linter.unusedVariables false
set_option linter.unusedSimpArgs false
set_option maxRecDepth 100000
namespace Go.Proofs.YtmnbfgeljmhekaaGreat
open Go.SX Go.SW Go.Dt
theorem aGo {P : Int → Int → Bool → Bool} {w0 : Int × Int × Bool → Option Bool} (hw : ∀ x, w0 x = some (P x.1 x.2.1 x.2.2)) {once : Bool} {a b : List Int} (suf : List Int) : ∀ (pre pre' suf' : List Int) (k : Nat), a = pre ++ suf → b = pre' ++ suf' → pre.length = pre'.length → suf.length = suf'.length → suf.length < k → pre.length + suf.length ≤ 3000000 →
  lE a b once w0 k pre.length = some (if (suf.zip suf').all (fun q => P q.1 q.2 once) = true then .inl () else .inr false) := by
 induction suf with
 | nil =>
  intro pre pre' suf' k ha hb hl hs hk hB
  obtain _ | k := k
  ·omega
  rw [lE, if_neg (show ¬ (pre.length : Int) < (a.length : Int) from by rw [ha]; simp)]; rfl
 | cons y suf ih =>
  intro pre pre' suf' k ha hb hl hs hk hB
  obtain _ | k := k
  ·omega
  obtain _ | ⟨z, suf'⟩ := suf'
  ·cases hs
  simp only [List.length_cons] at hk hB hs
  rw [lE, if_pos (show (pre.length : Int) < (a.length : Int) from by rw [ha]; exact cJ pre suf y), show idx a (pre.length : Int) = some y from by rw [ha]; exact cG pre suf y, bsm, show idx b (pre.length : Int) = some z from by rw [hb, hl]; exact cG pre' suf' z, bsm, hw, bsm]
  dsimp only
  rw [List.zip_cons_cons, List.all_cons]
  dsimp only
  cases P y z once with
  | false => rfl
  | true =>
   rw [cond_true, Bool.true_and, bH (by omega), bsm, cD pre y]
   exact ih (pre ++ [y]) (pre' ++ [z]) suf' k (by rw [ha]; exact cK pre suf y) (by rw [hb]; exact cK pre' suf' z) (by simp; omega) (by omega) (by omega) (by simp; omega)
theorem yC {P : Int → Int → Bool → Bool} {w0 : Int × Int × Bool → Option Bool} (hw : ∀ x, w0 x = some (P x.1 x.2.1 x.2.2)) {once : Bool} {a b : List Int} {fuel : Nat} (h : a.length = b.length) (hf : a.length < fuel) (hB : a.length ≤ 3000000) : oL fuel a b once w0 = some ((a.zip b).all fun q => P q.1 q.2 once) := by
 have e := aGo hw (once := once) (a := a) (b := b) a [] [] b fuel rfl rfl rfl h hf (by simp; omega)
 rw [oL, show lE a b once w0 fuel 0 = _ from e, bsm]
 cases (a.zip b).all fun q => P q.1 q.2 once <;> rfl
structure Sh2 (x y : UsageDef) : Prop where
 chans : x.Chans.length = y.Chans.length
 rules : x.Rules.length = y.Rules.length
 args : x.Args.length = y.Args.length
 each : ∀ q ∈ x.Args.zip y.Args, q.1.length = q.2.length
structure SmU (x : UsageDef) : Prop where
 chans : x.Chans.length ≤ 2000000
 rules : x.Rules.length ≤ 2000000
 args : x.Args.length ≤ 2000000
 each : ∀ a ∈ x.Args, a.length ≤ 2000000
def kz (P : Int → Int → Bool → Bool) (x y : UsageDef) : Bool := (x.Chans.zip y.Chans).all (fun q => P q.1 q.2 true) && ((x.Rules.zip y.Rules).all (fun q => P q.1 q.2 false) && (x.Args.zip y.Args).all fun q => (q.1.zip q.2).all fun q => P q.1 q.2 false)
theorem aFz {P : Int → Int → Bool → Bool} {w0 : Int × Int × Bool → Option Bool} (hw : ∀ x, w0 x = some (P x.1 x.2.1 x.2.2)) {A B : List UsageDef} {i : Int} {x y : UsageDef} (hx : idx A i = some x) (hy : idx B i = some y) (suf : List (List Int)) : ∀ (pre pre' suf' : List (List Int)) (k : Nat), x.Args = pre ++ suf → y.Args = pre' ++ suf' → pre.length = pre'.length → suf.length = suf'.length → suf.length < k → pre.length + suf.length ≤ 3000000 → (∀ q ∈ suf.zip suf', q.1.length = q.2.length) → (∀ a ∈ suf, a.length ≤ 2000000) →
  lN F A B w0 i x k pre.length = some (if (suf.zip suf').all (fun q => (q.1.zip q.2).all fun q => P q.1 q.2 false) = true then .inl () else .inr (.inr false)) := by
 induction suf with
 | nil =>
  intro pre pre' suf' k ha hb hl hs hk hB _ _
  obtain _ | k := k
  ·omega
  rw [lN, if_neg (show ¬ (pre.length : Int) < (x.Args.length : Int) from by rw [ha]; simp)]; rfl
 | cons a suf ih =>
  intro pre pre' suf' k ha hb hl hs hk hB he hm
  obtain _ | k := k
  ·omega
  obtain _ | ⟨b, suf'⟩ := suf'
  ·cases hs
  simp only [List.length_cons] at hk hB hs
  have hab : a.length = b.length := he (a, b) (List.mem_cons_self ..)
  have hma := hm a (List.mem_cons_self ..)
  rw [lN, if_pos (show (pre.length : Int) < (x.Args.length : Int) from by rw [ha]; exact cJ pre suf a), hx, bsm, show idx x.Args (pre.length : Int) = some a from by rw [ha]; exact cG pre suf a, bsm, hy, bsm, show idx y.Args (pre.length : Int) = some b from by rw [hb, hl]; exact cG pre' suf' b, bsm, yC hw hab (by show _ < 4000000; omega) (by omega), bsm, List.zip_cons_cons, List.all_cons]
  dsimp only
  cases (a.zip b).all fun q => P q.1 q.2 false with
  | false => rfl
  | true =>
   rw [cond_true, Bool.true_and, bH (by omega), bsm, cD pre a]
   exact ih (pre ++ [a]) (pre' ++ [b]) suf' k (by rw [ha]; exact cK pre suf a) (by rw [hb]; exact cK pre' suf' b) (by simp; omega) (by omega) (by omega) (by simp; omega) (fun q hq => he q (List.mem_cons_of_mem _ hq)) (fun q hq => hm q (List.mem_cons_of_mem _ hq))
theorem aFA {P : Int → Int → Bool → Bool} {w0 : Int × Int × Bool → Option Bool} (hw : ∀ x, w0 x = some (P x.1 x.2.1 x.2.2)) {A B : List UsageDef} (suf : List UsageDef) : ∀ (pre pre' suf' : List UsageDef) (k : Nat), A = pre ++ suf → B = pre' ++ suf' → pre.length = pre'.length → suf.length = suf'.length → suf.length < k → pre.length + suf.length ≤ 3000000 → (∀ q ∈ suf.zip suf', Sh2 q.1 q.2) → (∀ a ∈ suf, SmU a) →
  kW F A B w0 k pre.length = some (if (suf.zip suf').all (fun q => kz P q.1 q.2) = true then .inl () else .inr false) := by
 induction suf with
 | nil =>
  intro pre pre' suf' k ha hb hl hs hk hB _ _
  obtain _ | k := k
  ·omega
  rw [kW, if_neg (show ¬ (pre.length : Int) < (A.length : Int) from by rw [ha]; simp)]; rfl
 | cons a suf ih =>
  intro pre pre' suf' k ha hb hl hs hk hB he hm
  obtain _ | k := k
  ·omega
  obtain _ | ⟨b, suf'⟩ := suf'
  ·cases hs
  simp only [List.length_cons] at hk hB hs
  have s2 := he (a, b) (List.mem_cons_self ..)
  have sm := hm a (List.mem_cons_self ..)
  have s1 := s2.chans; have s3 := s2.rules
  dsimp only at s1 s3
  have hx : idx A (pre.length : Int) = some a := by rw [ha]; exact cG pre suf a
  have hy : idx B (pre.length : Int) = some b := by rw [hb, hl]; exact cG pre' suf' b
  have b1 := sm.chans; have b2 := sm.rules; have b3 := sm.args
  have l2 := aFz hw hx hy a.Args [] [] b.Args F rfl rfl rfl s2.args (by show _ < 4000000; omega) (by simp; omega) s2.each sm.each
  rw [kW, if_pos (show (pre.length : Int) < (A.length : Int) from by rw [ha]; exact cJ pre suf a), hx, bsm (a := a), hy, bsm (a := b), yC hw s1 (by show _ < 4000000; omega) (by omega), bsm, List.zip_cons_cons, List.all_cons]
  dsimp only
  cases q1 : (a.Chans.zip b.Chans).all fun q => P q.1 q.2 true with
  | false =>
   have e : kz P a b = false := by unfold kz; rw [q1, Bool.false_and]
   rw [e]; rfl
  | true =>
   rw [Bool.not_true, cond_false, bsm (a := a), bsm (a := b), yC hw s3 (by show _ < 4000000; omega) (by omega), bsm]
   cases q2 : (a.Rules.zip b.Rules).all fun q => P q.1 q.2 false with
   | false =>
    have e : kz P a b = false := by unfold kz; rw [q1, q2, Bool.false_and, Bool.and_false]
    rw [e]; rfl
   | true =>
    rw [cond_true, bsm (a := a), show lN F A B w0 pre.length a F 0 = _ from l2]
    cases q3 : (a.Args.zip b.Args).all fun q => (q.1.zip q.2).all fun q => P q.1 q.2 false with
    | false =>
     have e : kz P a b = false := by unfold kz; rw [q1, q2, q3]; rfl
     rw [e]; rfl
    | true =>
     have e : kz P a b = true := by unfold kz; rw [q1, q2, q3]; rfl
     rw [e, if_pos rfl, bsm]
     dsimp only
     rw [Bool.true_and, bH (by omega), bsm, cD pre a]
     exact ih (pre ++ [a]) (pre' ++ [b]) suf' k (by rw [ha]; exact cK pre suf a) (by rw [hb]; exact cK pre' suf' b) (by simp; omega) (by omega) (by omega) (by simp; omega) (fun q hq => he q (List.mem_cons_of_mem _ hq)) (fun q hq => hm q (List.mem_cons_of_mem _ hq))
theorem kinds_eq {P : Int → Int → Bool → Bool} {w0 : Int × Int × Bool → Option Bool} (hw : ∀ x, w0 x = some (P x.1 x.2.1 x.2.2)) {A B : List UsageDef} (hl : A.length = B.length) (hB : A.length ≤ 2000000) (hs : ∀ q ∈ A.zip B, Sh2 q.1 q.2) (hm : ∀ a ∈ A, SmU a) : pI F A B w0 = some ((A.zip B).all fun q => kz P q.1 q.2) := by
 have e := aFA hw (A := A) (B := B) A [] [] B F rfl rfl rfl hl (by show _ < 4000000; omega) (by simp; omega) hs hm
 rw [pI, show kW F A B w0 F 0 = _ from e, bsm]
 cases (A.zip B).all fun q => kz P q.1 q.2 <;> rfl
end Go.Proofs.YtmnbfgeljmhekaaGreat
set_option maxRecDepth 100000
namespace Go.Proofs.YtmnbfgeljmhekaaGreat
open Go.SX Go.SW Go.Dt
def okK (once : Bool) (k : Int) : Bool := decide (1 ≤ k ∧ k ≤ 4) && (once || decide (k ≠ 2))
def eJ (d : ScopeDef) (x : UsageDef) : Bool := decide (x.Chans.length = d.Chans.length ∧ x.Rules.length = d.Rules.length ∧ x.Args.length = d.Chans.length) && (d.Chans.zip x.Args).all fun q => decide ((q.2.length : Int) = q.1.Many)
def kin (x : UsageDef) : Bool := x.Chans.all (okK true) && (x.Rules.all (okK false) && x.Args.all fun a => a.all (okK false))
def gE (p : ScopeProg) (tab : List UsageDef) : Bool := decide (tab.length = p.Defs.length) && ((p.Defs.zip tab).all (fun q => eJ q.1 q.2) && tab.all kin)
theorem qC {α : Type} {f : α × α → Bool} : ∀ a : List α, (a.zip a).all f = a.all fun x => f (x, x)
 | [] => rfl
 | x :: a => by rw [List.zip_cons_cons, List.all_cons, List.all_cons, qC a]
theorem aAk {α : Type} : ∀ {a : List α} {q : α × α}, q ∈ a.zip a → q.1 = q.2
 | x :: a, q, h => by
  rw [List.zip_cons_cons] at h
  cases h with
  | head => rfl
  | tail _ h => exact aAk h
theorem zO {α β : Type} {f : β → Bool} : ∀ (a : List α) (b : List β), a.length = b.length → (a.zip b).all (fun q => f q.2) = b.all f
 | [], [], _ => rfl
 | x :: a, y :: b, h => by rw [List.zip_cons_cons, List.all_cons, List.all_cons, zO a b (by simpa using h)]
theorem yX {α : Type} {f g : α → Bool} : ∀ a : List α, a.all (fun x => f x && g x) = (a.all f && a.all g)
 | [] => rfl
 | x :: a => by rw [List.all_cons, List.all_cons, List.all_cons, yX a]; cases f x <;> cases g x <;> cases a.all f <;> rfl
theorem fine1_eq (x : Int × Int × Bool) : qG x.1 x.2.1 x.2.2 = some (okK x.2.2 x.1) := by
 obtain ⟨a, b, c⟩ := x
 unfold qG okK
 dsimp only
 by_cases h1 : 1 ≤ a
 ·by_cases h2 : a ≤ 4
  ·rw [if_pos h1, if_pos h2, decide_eq_true (show 1 ≤ a ∧ a ≤ 4 from ⟨h1, h2⟩)]
   cases c <;> rfl
  ·rw [if_pos h1, if_neg h2, decide_eq_false (show ¬ (1 ≤ a ∧ a ≤ 4) from fun q => h2 q.2)]; rfl
 ·rw [if_neg h1, decide_eq_false (show ¬ (1 ≤ a ∧ a ≤ 4) from fun q => h1 q.1)]; rfl
theorem aGa {d : ScopeDef} {x : UsageDef} (suf : List (List Int)) : ∀ (pre : List (List Int)) (pre' suf' : List ScopeChan) (k : Nat), x.Args = pre ++ suf → d.Chans = pre' ++ suf' → pre.length = pre'.length → suf.length = suf'.length → suf.length < k → pre.length + suf.length ≤ 3000000 →
  kD d x k pre.length = some (if (suf'.zip suf).all (fun q => decide ((q.2.length : Int) = q.1.Many)) = true then .inl () else .inr (.inr false)) := by
 induction suf with
 | nil =>
  intro pre pre' suf' k ha hb hl hs hk hB
  obtain _ | k := k
  ·omega
  obtain _ | ⟨z, suf'⟩ := suf'
  ·rw [kD, if_neg (show ¬ (pre.length : Int) < (x.Args.length : Int) from by rw [ha]; simp)]; rfl
  ·cases hs
 | cons a suf ih =>
  intro pre pre' suf' k ha hb hl hs hk hB
  obtain _ | k := k
  ·omega
  obtain _ | ⟨c, suf'⟩ := suf'
  ·cases hs
  simp only [List.length_cons] at hk hB hs
  rw [kD, if_pos (show (pre.length : Int) < (x.Args.length : Int) from by rw [ha]; exact cJ pre suf a), show idx x.Args (pre.length : Int) = some a from by rw [ha]; exact cG pre suf a, bsm, show idx d.Chans (pre.length : Int) = some c from by rw [hb, hl]; exact cG pre' suf' c, bsm, List.zip_cons_cons, List.all_cons]
  dsimp only
  by_cases h : (a.length : Int) = c.Many
  ·rw [if_neg (show ¬ ((a.length : Int) ≠ c.Many) from fun q => q h), decide_eq_true h, Bool.true_and, bH (by omega), bsm, cD pre a]
   exact ih (pre ++ [a]) (pre' ++ [c]) suf' k (by rw [ha]; exact cK pre suf a) (by rw [hb]; exact cK pre' suf' c) (by simp; omega) (by omega) (by omega) (by simp; omega)
  ·rw [if_pos (show (a.length : Int) ≠ c.Many from h), decide_eq_false h]; rfl
theorem aEh {t : Usage_text} {tab : List UsageDef} (suf : List ScopeDef) : ∀ (pre : List ScopeDef) (pre' suf' : List UsageDef) (k : Nat), t.ScopeProg.Defs = pre ++ suf → tab = pre' ++ suf' → pre.length = pre'.length → suf.length = suf'.length → suf.length < k → pre.length + suf.length ≤ 3000000 → (∀ a ∈ suf', SmU a) →
  kT F t tab k pre.length = some (if (suf.zip suf').all (fun q => eJ q.1 q.2) = true then .inl () else .inr false) := by
 induction suf with
 | nil =>
  intro pre pre' suf' k ha hb hl hs hk hB _
  obtain _ | k := k
  ·omega
  rw [kT, if_neg (show ¬ (pre.length : Int) < (t.ScopeProg.Defs.length : Int) from by rw [ha]; simp)]; rfl
 | cons d suf ih =>
  intro pre pre' suf' k ha hb hl hs hk hB hm
  obtain _ | k := k
  ·omega
  obtain _ | ⟨x, suf'⟩ := suf'
  ·cases hs
  simp only [List.length_cons] at hk hB hs
  have sm := hm x (List.mem_cons_self ..)
  have b3 := sm.args
  rw [kT, if_pos (show (pre.length : Int) < (t.ScopeProg.Defs.length : Int) from by rw [ha]; exact cJ pre suf d), show idx t.ScopeProg.Defs (pre.length : Int) = some d from by rw [ha]; exact cG pre suf d, bsm (a := d), show idx tab (pre.length : Int) = some x from by rw [hb, hl]; exact cG pre' suf' x, bsm (a := x), List.zip_cons_cons, List.all_cons]
  dsimp only
  by_cases h1 : (x.Chans.length : Int) = d.Chans.length
  ·rw [if_neg (show ¬ ((x.Chans.length : Int) ≠ d.Chans.length) from fun q => q h1)]
   by_cases h2 : (x.Rules.length : Int) = d.Rules.length
   ·rw [if_neg (show ¬ ((x.Rules.length : Int) ≠ d.Rules.length) from fun q => q h2)]
    by_cases h3 : (x.Args.length : Int) = d.Chans.length
    ·rw [if_neg (show ¬ ((x.Args.length : Int) ≠ d.Chans.length) from fun q => q h3), show kD d x F 0 = _ from aGa x.Args [] [] d.Chans F rfl rfl rfl (by omega) (by show _ < 4000000; omega) (by simp; omega)]
     cases q1 : (d.Chans.zip x.Args).all fun q => decide ((q.2.length : Int) = q.1.Many) with
     | false =>
      have e : eJ d x = false := by unfold eJ; rw [q1, Bool.and_false]
      rw [e]; rfl
     | true =>
      have e : eJ d x = true := by unfold eJ; rw [q1, decide_eq_true (by omega)]; rfl
      rw [e, if_pos rfl, bsm]
      dsimp only
      rw [Bool.true_and, bH (by omega), bsm, cD pre d]
      exact ih (pre ++ [d]) (pre' ++ [x]) suf' k (by rw [ha]; exact cK pre suf d) (by rw [hb]; exact cK pre' suf' x) (by simp; omega) (by omega) (by omega) (by simp; omega) (fun q hq => hm q (List.mem_cons_of_mem _ hq))
    ·have e : eJ d x = false := by unfold eJ; rw [decide_eq_false (by omega), Bool.false_and]
     rw [if_pos (show (x.Args.length : Int) ≠ d.Chans.length from h3), e]; rfl
   ·have e : eJ d x = false := by unfold eJ; rw [decide_eq_false (by omega), Bool.false_and]
    rw [if_pos (show (x.Rules.length : Int) ≠ d.Rules.length from h2), e]; rfl
  ·have e : eJ d x = false := by unfold eJ; rw [decide_eq_false (by omega), Bool.false_and]
   rw [if_pos (show (x.Chans.length : Int) ≠ d.Chans.length from h1), e]; rfl
theorem kz_self {x : UsageDef} : kz (fun k _ once => okK once k) x x = kin x := by
 unfold kz kin
 rw [qC, qC, qC]
 dsimp only
 have : (fun a : List Int => (a.zip a).all fun q => okK false q.1) = fun a => a.all (okK false) := by
  funext a; rw [qC]
 rw [this]
theorem fine_eq {t : Usage_text} {tab : List UsageDef} (hl : t.ScopeProg.Defs.length ≤ 2000000) (hm : ∀ a ∈ tab, SmU a) : rG F t tab = some (gE t.ScopeProg tab) := by
 rw [rG, gE]
 by_cases h : (tab.length : Int) = t.ScopeProg.Defs.length
 ·rw [if_neg (show ¬ ((tab.length : Int) ≠ t.ScopeProg.Defs.length) from fun q => q h), decide_eq_true (by omega), Bool.true_and, show kT F t tab F 0 = _ from aEh t.ScopeProg.Defs [] [] tab F rfl rfl rfl (by omega) (by show _ < 4000000; omega) (by simp; omega) hm, bsm]
  cases (t.ScopeProg.Defs.zip tab).all fun q => eJ q.1 q.2 with
  | false => rfl
  | true =>
   rw [if_pos rfl]
   dsimp only
   rw [kinds_eq (P := fun k _ once => okK once k) fine1_eq rfl (by omega) (fun q hq => by rw [aAk hq]; exact ⟨rfl, rfl, rfl, fun q' h' => by rw [aAk h']⟩) hm, bsm, qC]
   have : (fun x : UsageDef => kz (fun k _ once => okK once k) x x) = kin := by funext x; exact kz_self
   rw [this]; rfl
 ·rw [if_pos (show (tab.length : Int) ≠ t.ScopeProg.Defs.length from h), decide_eq_false (by omega)]; rfl
theorem rk_loop {once : Bool} {a : List Int} (suf : List Int) : ∀ (pre : List Int) (k : Nat), a = pre ++ suf → suf.length < k → pre.length + suf.length ≤ 3000000 → jX a once k pre.length = some (if suf.all (okK once) = true then .inl () else .inr false) := by
 induction suf with
 | nil =>
  intro pre k ha hk hB
  obtain _ | k := k
  ·omega
  rw [jX, if_neg (show ¬ (pre.length : Int) < (a.length : Int) from by rw [ha]; simp)]; rfl
 | cons y suf ih =>
  intro pre k ha hk hB
  obtain _ | k := k
  ·omega
  simp only [List.length_cons] at hk hB
  have next : jX a once k ((pre.length : Int) + 1) = some (if suf.all (okK once) = true then .inl () else .inr false) := by
   rw [cD pre y]; exact ih (pre ++ [y]) k (by rw [ha]; exact cK pre suf y) (by omega) (by simp; omega)
  rw [jX, if_pos (show (pre.length : Int) < (a.length : Int) from by rw [ha]; exact cJ pre suf y), show idx a (pre.length : Int) = some y from by rw [ha]; exact cG pre suf y, bsm (a := y), List.all_cons]
  by_cases h1 : y < 1
  ·have e : okK once y = false := by unfold okK; rw [decide_eq_false (by omega)]; rfl
   rw [if_pos h1, e]; rfl
  ·rw [if_neg h1, bsm (a := y)]
   by_cases h2 : 4 < y
   ·have e : okK once y = false := by unfold okK; rw [decide_eq_false (by omega)]; rfl
    rw [if_pos h2, e]; rfl
   ·rw [if_neg h2, bsm (a := y)]
    by_cases h3 : y = 2
    ·rw [if_pos h3]
     cases once with
     | true =>
      have e : okK true y = true := by unfold okK; rw [decide_eq_true (by omega)]; rfl
      rw [e, cond_true, bsm]
      dsimp only
      rw [Bool.true_and, bH (by omega), bsm]; exact next
     | false =>
      have e : okK false y = false := by unfold okK; rw [h3]; rfl
      rw [e]; rfl
    ·have e : okK once y = true := by unfold okK; rw [decide_eq_true (by omega), decide_eq_true (show y ≠ 2 from h3), Bool.or_true]; rfl
     rw [if_neg h3, e, bsm]
     dsimp only
     rw [Bool.true_and, bH (by omega), bsm]; exact next
theorem rk_eq {once : Bool} {a : List Int} (h : a.length ≤ 2000000) : oF F a once = some (a.all (okK once)) := by
 have e := rk_loop (once := once) (a := a) a [] F rfl (by show _ < 4000000; omega) (by simp; omega)
 rw [oF, show jX a once F 0 = _ from e, bsm]
 cases a.all (okK once) <;> rfl
def argK (q : ScopeChan × List Int) : Bool := decide ((q.2.length : Int) = q.1.Many) && q.2.all (okK false)
theorem rg2_loop {tab : List UsageDef} {i : Int} {d : ScopeDef} {x : UsageDef} (hi : idx tab i = some x) (suf : List ScopeChan) : ∀ (pre : List ScopeChan) (pre' suf' : List (List Int)) (k : Nat), d.Chans = pre ++ suf → x.Args = pre' ++ suf' → pre.length = pre'.length → suf.length = suf'.length → suf.length < k → pre.length + suf.length ≤ 3000000 → (∀ a ∈ suf', a.length ≤ 2000000) →
  kS F tab i d k pre.length = some (if (suf.zip suf').all argK = true then .inl () else .inr (.inr false)) := by
 induction suf with
 | nil =>
  intro pre pre' suf' k ha hb hl hs hk hB _
  obtain _ | k := k
  ·omega
  rw [kS, if_neg (show ¬ (pre.length : Int) < (d.Chans.length : Int) from by rw [ha]; simp)]; rfl
 | cons c suf ih =>
  intro pre pre' suf' k ha hb hl hs hk hB hm
  obtain _ | k := k
  ·omega
  obtain _ | ⟨a, suf'⟩ := suf'
  ·cases hs
  simp only [List.length_cons] at hk hB hs
  have ix : idx x.Args (pre.length : Int) = some a := by rw [hb, hl]; exact cG pre' suf' a
  rw [kS, if_pos (show (pre.length : Int) < (d.Chans.length : Int) from by rw [ha]; exact cJ pre suf c), hi, bsm (a := x), ix, bsm (a := a), show idx d.Chans (pre.length : Int) = some c from by rw [ha]; exact cG pre suf c, bsm (a := c), bsm (a := x), ix, bsm (a := a), rk_eq (hm a (List.mem_cons_self ..)), bsm, List.zip_cons_cons, List.all_cons]
  by_cases h : (a.length : Int) = c.Many
  ·rw [if_neg (show ¬ ((a.length : Int) ≠ c.Many) from fun q => q h)]
   cases q1 : a.all (okK false) with
   | false =>
    have e : argK (c, a) = false := by unfold argK; rw [q1, Bool.and_false]
    rw [e]; rfl
   | true =>
    have e : argK (c, a) = true := by unfold argK; rw [q1, decide_eq_true h]; rfl
    rw [e, bsm (a := true), cond_true, Bool.true_and, bH (by omega), bsm, cD pre c]
    exact ih (pre ++ [c]) (pre' ++ [a]) suf' k (by rw [ha]; exact cK pre suf c) (by rw [hb]; exact cK pre' suf' a) (by simp; omega) (by omega) (by omega) (by simp; omega) (fun q hq => hm q (List.mem_cons_of_mem _ hq))
  ·have e : argK (c, a) = false := by unfold argK; rw [decide_eq_false h]; rfl
   rw [if_pos (show (a.length : Int) ≠ c.Many from h), e]; rfl
end Go.Proofs.YtmnbfgeljmhekaaGreat
set_option maxRecDepth 100000
namespace Go.Proofs.YtmnbfgeljmhekaaGreat
open Go.SX Go.SW Go.Dt
theorem argK_all : ∀ (a : List ScopeChan) (b : List (List Int)), a.length = b.length → (a.zip b).all argK = ((a.zip b).all (fun q => decide ((q.2.length : Int) = q.1.Many)) && b.all fun l => l.all (okK false)) := fun a b h => by
 rw [← zO a b h, ← yX]; rfl
theorem rg3_loop {p : ScopeProg} {tab : List UsageDef} (suf : List ScopeDef) : ∀ (pre : List ScopeDef) (pre' suf' : List UsageDef) (k : Nat), p.Defs = pre ++ suf → tab = pre' ++ suf' → pre.length = pre'.length → suf.length = suf'.length → suf.length < k → pre.length + suf.length ≤ 3000000 → (∀ a ∈ suf', SmU a) →
  kF F p tab k pre.length = some (if (suf.zip suf').all (fun q => eJ q.1 q.2 && kin q.2) = true then .inl () else .inr false) := by
 induction suf with
 | nil =>
  intro pre pre' suf' k ha hb hl hs hk hB _
  obtain _ | k := k
  ·omega
  obtain _ | ⟨z, suf'⟩ := suf'
  ·rw [kF, if_neg (show ¬ (pre.length : Int) < (tab.length : Int) from by rw [hb]; simp; omega)]; rfl
  ·cases hs
 | cons d suf ih =>
  intro pre pre' suf' k ha hb hl hs hk hB hm
  obtain _ | k := k
  ·omega
  obtain _ | ⟨x, suf'⟩ := suf'
  ·cases hs
  simp only [List.length_cons] at hk hB hs
  have sm := hm x (List.mem_cons_self ..)
  have b3 := sm.args
  have hi : idx tab (pre.length : Int) = some x := by rw [hb, hl]; exact cG pre' suf' x
  rw [kF, if_pos (show (pre.length : Int) < (tab.length : Int) from by rw [hb]; simp; omega), show idx p.Defs (pre.length : Int) = some d from by rw [ha]; exact cG pre suf d, bsm (a := d), hi, bsm (a := x), List.zip_cons_cons, List.all_cons]
  dsimp only
  by_cases h1 : (x.Chans.length : Int) = d.Chans.length
  ·rw [if_neg (show ¬ ((x.Chans.length : Int) ≠ d.Chans.length) from fun q => q h1), bsm (a := x)]
   by_cases h2 : (x.Rules.length : Int) = d.Rules.length
   ·rw [if_neg (show ¬ ((x.Rules.length : Int) ≠ d.Rules.length) from fun q => q h2), bsm (a := x)]
    by_cases h3 : (x.Args.length : Int) = d.Chans.length
    ·rw [if_neg (show ¬ ((x.Args.length : Int) ≠ d.Chans.length) from fun q => q h3), bsm (a := x), rk_eq sm.chans, bsm (a := x.Chans.all (okK true))]
     have hz := argK_all d.Chans x.Args (by omega)
     cases q1 : x.Chans.all (okK true) with
     | false =>
      have e : (eJ d x && kin x) = false := by unfold kin; rw [q1, Bool.false_and, Bool.and_false]
      rw [e]; rfl
     | true =>
      rw [Bool.not_true, cond_false, bsm (a := x), rk_eq sm.rules, bsm (a := x.Rules.all (okK false))]
      cases q2 : x.Rules.all (okK false) with
      | false =>
       have e : (eJ d x && kin x) = false := by unfold kin; rw [q1, q2]; simp
       rw [e]; rfl
      | true =>
       rw [cond_true, show kS F tab pre.length d F 0 = _ from rg2_loop hi d.Chans [] [] x.Args F rfl rfl rfl (by omega) (by show _ < 4000000; omega) (by simp; omega) sm.each]
       have e : (eJ d x && kin x) = (d.Chans.zip x.Args).all argK := by
        unfold eJ kin; rw [q1, q2, hz, decide_eq_true (by omega)]; rfl
       rw [e]
       cases (d.Chans.zip x.Args).all argK with
       | false => rfl
       | true =>
        rw [if_pos rfl, bsm]
        dsimp only
        rw [Bool.true_and, bH (by omega), bsm, cD pre d]
        exact ih (pre ++ [d]) (pre' ++ [x]) suf' k (by rw [ha]; exact cK pre suf d) (by rw [hb]; exact cK pre' suf' x) (by simp; omega) (by omega) (by omega) (by simp; omega) (fun q hq => hm q (List.mem_cons_of_mem _ hq))
    ·have e : eJ d x = false := by unfold eJ; rw [decide_eq_false (by omega), Bool.false_and]
     rw [if_pos (show (x.Args.length : Int) ≠ d.Chans.length from h3), e]; rfl
   ·have e : eJ d x = false := by unfold eJ; rw [decide_eq_false (by omega), Bool.false_and]
    rw [if_pos (show (x.Rules.length : Int) ≠ d.Rules.length from h2), e]; rfl
  ·have e : eJ d x = false := by unfold eJ; rw [decide_eq_false (by omega), Bool.false_and]
   rw [if_pos (show (x.Chans.length : Int) ≠ d.Chans.length from h1), e]; rfl
theorem good_eq {p : ScopeProg} {tab : List UsageDef} (hl : p.Defs.length ≤ 2000000) (hm : ∀ a ∈ tab, SmU a) : uY F p tab = some (gE p tab) := by
 rw [uY, gE]
 by_cases h : (tab.length : Int) = p.Defs.length
 ·rw [if_neg (show ¬ ((tab.length : Int) ≠ p.Defs.length) from fun q => q h), decide_eq_true (by omega), Bool.true_and, show kF F p tab F 0 = _ from rg3_loop p.Defs [] [] tab F rfl rfl rfl (by omega) (by show _ < 4000000; omega) (by simp; omega) hm, bsm, yX, zO p.Defs tab (by omega)]
  cases ((p.Defs.zip tab).all fun q => eJ q.1 q.2) && tab.all kin <;> rfl
 ·rw [if_pos (show (tab.length : Int) ≠ p.Defs.length from h), decide_eq_false (by omega)]; rfl
end Go.Proofs.YtmnbfgeljmhekaaGreat
set_option maxRecDepth 100000
namespace Go.Proofs.YtmnbfgeljmhekaaGreat
open Go.SX Go.SW Go.Dt
variable {p : ScopeProg}
theorem ln_sub : ∀ (h : Nat) (q : Int × E), Tr p h q → ∀ b ∈ LN p h q, ∃ h', h' ≤ h ∧ Tr p h' b ∧ (LN p h' b).length ≤ (LN p h q).length ∧ ∀ c ∈ LN p h' b, c ∈ LN p h q
 | 0, q, hT, b, hb => hT.elim
 | h + 1, q, ⟨x, hx, h0, hT, hK⟩, b, hb => by
  have e : LN p (h + 1) q = q :: (dS p x q.2).flatMap (LN p h) := by simp only [LN, hx]
  rw [e] at hb ⊢
  cases hb with
  | head => exact ⟨h + 1, by omega, ⟨x, hx, h0, hT, hK⟩, by rw [e]; omega, fun c hc => by rw [e] at hc; exact hc⟩
  | tail _ hb =>
   obtain ⟨c, hc, hb⟩ := List.mem_flatMap.1 hb
   obtain ⟨h', a1, a2, a3, a4⟩ := ln_sub h c (hK c hc) b hb
   have := zE (f := LN p h) hc
   exact ⟨h', by omega, a2, by rw [List.length_cons]; omega, fun d hd => List.mem_cons_of_mem _ (List.mem_flatMap.2 ⟨c, hc, a4 d hd⟩)⟩
theorem env_root : gQ p (eT p).2 := fun i c hi => by cases List.eq_of_mem_replicate (fY hi)
theorem ln_env {h : Nat} {q : Int × E} (hT : Tr p h q) (he : gQ p q.2) : ∀ b ∈ LN p h q, gQ p b.2 := ln_all (fun _ _ _ h1 _ he => zL h1 he) (fun _ _ _ _ h1 _ _ he => env_ru h1 he) h q hT he
theorem yO {α β : Type} : ∀ {a : List α} {b : List β} {i : Nat} {x : α} {y : β}, a[i]? = some x → b[i]? = some y → (x, y) ∈ a.zip b
 | x :: a, y :: b, 0, u, v, h, k => by cases h; cases k; exact List.mem_cons_self ..
 | x :: a, y :: b, i + 1, u, v, h, k => List.mem_cons_of_mem _ (yO (i := i) h k)
theorem good_ok {tab : List UsageDef} (h : gE p tab = true) : oH p tab := by
 unfold gE at h
 rw [Bool.and_eq_true, Bool.and_eq_true] at h
 obtain ⟨h1, h2, _⟩ := h
 refine ⟨of_decide_eq_true h1, fun i d x hd hx => ?_⟩
 have s := List.all_eq_true.1 h2 _ (yO (cH hd) (cH hx))
 unfold eJ at s
 rw [Bool.and_eq_true] at s
 obtain ⟨s1, s2⟩ := s
 have s1 := of_decide_eq_true s1
 exact ⟨s1.1, s1.2.1, s1.2.2, fun c ch a hc ha => of_decide_eq_true (List.all_eq_true.1 s2 _ (yO (cH hc) (cH ha)))⟩
end Go.Proofs.YtmnbfgeljmhekaaGreat
set_option maxRecDepth 100000
namespace Go.Proofs.YtmnbfgeljmhekaaGreat
open Go.SX Go.SW Go.Dt
variable {p : ScopeProg}
theorem aCE : ∀ (N : Nat) (l : List Int), l.Nodup → (∀ i ∈ l, 0 ≤ i ∧ i < (N : Int)) → l.length ≤ N
 | 0, l, _, h => by
  match l, h with
  | [], _ => simp
  | a :: l, h => have := h a (List.mem_cons_self ..); omega
 | N + 1, l, hn, h => by
  have e := aCE N (l.filter fun i => decide (i ≠ (N : Int))) (hn.filter _) (fun i hi => by
   have := List.mem_filter.1 hi
   have a := h i this.1
   have b := of_decide_eq_true this.2
   omega)
  have c := List.length_eq_countP_add_countP (fun i => decide (i ≠ (N : Int))) (l := l)
  rw [← List.countP_eq_length_filter] at e
  have d : l.countP (fun i => decide ¬ (decide (i ≠ (N : Int)) = true)) ≤ 1 := by
   have := (List.nodup_iff_count.1 hn) (N : Int)
   unfold List.count at this
   refine Nat.le_trans (List.countP_mono_left (fun i _ hi => ?_)) this
   simp at hi ⊢
   exact hi
  omega
theorem aCr (hp : SmP p) {s : VS} (h : eL p = some s) : ∃ t L, nC F p = some t ∧ oQ F p = some L ∧ t.ScopeProg = p ∧ L.p = p ∧ t.sizes = s.sz ∧ L.Sizes = s.sz ∧
  ∀ n : Int, 0 ≤ n → n < p.Nodes.length → ∃ e, idx s.sz n = some (e.length : Int) ∧ ∃ h', h' ≤ 60 ∧ Tr p h' (n, e) ∧ gQ p e ∧ (LN p h' (n, e)).length ≤ 1000000 ∧ ∀ b ∈ LN p h' (n, e), At t L b := by
 obtain ⟨H, h1, h2, h3, h4, hT, hl, hn, hd, hz, hall, _⟩ := zZ h
 obtain ⟨t, t1, t2⟩ := read_eq hp h h1
 obtain ⟨L, l1, l2⟩ := see_eq hp h h1
 refine ⟨t, L, t1, l1, t2.prog, l2.prog, t2.sizes, l2.sizes, fun n h0 hlt => ?_⟩
 obtain ⟨e, he⟩ := hall n h0 hlt
 obtain ⟨h', a1, a2, a3, a4⟩ := ln_sub H _ hT _ he
 refine ⟨e, hz _ he, h', by omega, a2, ln_env hT env_root _ he, ?_, fun b hb => ⟨t2.on b (a4 b hb), l2.on b (a4 b hb)⟩⟩
 have : (LN p H (eT p)).length ≤ p.Nodes.length := by
  have := aCE p.Nodes.length ((LN p H (eT p)).map (·.1)) hn (fun i hi => by
   obtain ⟨q, hq, rfl⟩ := List.mem_map.1 hi
   have := gX (hz q hq)
   omega)
  rwa [List.length_map] at this
 omega
theorem aD5 (hp : SmP p) {tab : List UsageDef} (hm : ∀ a ∈ tab, SmU a) (n v : Int) : ∃ r, qW F p tab n v = some r ∧ uC F p tab n v = some r := by
 have hpp : (⟨p.Free, p.Nodes, p.Defs, p.Main⟩ : ScopeProg) = p := rfl
 rw [qW, uC, hpp, sC, hpp, aCL hp, aBM hp]
 cases h : eL p with
 | none => exact ⟨(0, 2), rfl, rfl⟩
 | some s =>
  obtain ⟨t, L, t1, l1, t2, l2, t3, l3, hall⟩ := aCr hp h
  rw [show (if (some s : Option VS).isSome = true then (0 : Int) else 2) = 0 from rfl, bsm (a := (0 : Int)), bsm (a := (0 : Int)), if_neg (show ¬ (0 : Int) ≠ 0 from fun q => q rfl), if_neg (show ¬ (0 : Int) ≠ 0 from fun q => q rfl), good_eq hp.defs hm, bsm (a := gE p tab)]
  by_cases n0 : n < 0
  ·refine ⟨(0, 2), by rw [if_pos n0]; rfl, ?_⟩
   cases gE p tab
   ·rfl
   ·rw [Bool.not_true, cond_false, if_pos n0]
  ·rw [if_neg n0]
   by_cases n1 : (p.Nodes.length : Int) ≤ n
   ·refine ⟨(0, 2), by rw [if_pos n1]; rfl, ?_⟩
    cases gE p tab
    ·rfl
    ·rw [Bool.not_true, cond_false, if_neg n0, if_pos n1]
   ·obtain ⟨e, e1, h', c1, c2, c3, c4, c5⟩ := hall n (by omega) (by omega)
    rw [if_neg n1, t1, bsm (a := t), t3, e1]
    by_cases v0 : 0 ≤ v
    ·rw [if_pos v0, bsm (a := (e.length : Int)), bsm, bsm]
     dsimp only
     by_cases v1 : v < (e.length : Int)
     ·rw [decide_eq_true v1, Bool.not_true, cond_false, bsm (a := t), fine_eq (by rw [t2]; exact hp.defs) hm, t2, bsm (a := gE p tab)]
      cases hg : gE p tab with
      | false => exact ⟨(0, 2), rfl, rfl⟩
      | true =>
       obtain ⟨r, r1, r2, r3⟩ := aCF t2 l2 (good_ok hg) (v := v) h' F F (n, e) (by show _ ≤ 4000000; omega) (by show _ ≤ 4000000; omega) c2 c3 c5
       obtain ⟨k, k1, k2⟩ := aEM r
       refine ⟨(k, 0), ?_, ?_⟩
       ·rw [cond_true, show fH F t tab n v = some r from r2, bsm, k1, bsm]
       ·rw [Bool.not_true, cond_false, if_neg n0, if_neg n1, l1, bsm, if_neg (show ¬ v < 0 from by omega), l3, e1, bsm, if_neg (by omega), show eY F L tab n v = some r from r3, bsm, k2, bsm]
     ·refine ⟨(0, 2), by rw [decide_eq_false v1]; rfl, ?_⟩
      cases gE p tab
      ·rfl
      ·rw [Bool.not_true, cond_false, if_neg n0, if_neg n1, l1, bsm, if_neg (show ¬ v < 0 from by omega), l3, e1, bsm, if_pos (by omega)]
    ·refine ⟨(0, 2), by rw [if_neg v0]; rfl, ?_⟩
     cases gE p tab
     ·rfl
     ·rw [Bool.not_true, cond_false, if_neg n0, if_neg n1, l1, bsm, if_pos (show v < 0 from by omega)]
end Go.Proofs.YtmnbfgeljmhekaaGreat
set_option maxRecDepth 100000
namespace Go.Proofs.YtmnbfgeljmhekaaGreat
open Go.SX Go.SW Go.Dt
variable {p : ScopeProg}
theorem aDY (hp : SmP p) (n v : Int) : ∃ r, qF F p n v = some r ∧ sZ F p n v = some r := by
 have hpp : (⟨p.Free, p.Nodes, p.Defs, p.Main⟩ : ScopeProg) = p := rfl
 rw [qF, sZ, hpp, sC, hpp, aCL hp, aBM hp]
 cases h : eL p with
 | none => exact ⟨(0, 2), rfl, rfl⟩
 | some s =>
  obtain ⟨t, L, t1, l1, t2, l2, t3, l3, hall⟩ := aCr hp h
  rw [show (if (some s : Option VS).isSome = true then (0 : Int) else 2) = 0 from rfl, bsm (a := (0 : Int)), bsm (a := (0 : Int)), if_neg (show ¬ (0 : Int) ≠ 0 from fun q => q rfl), if_neg (show ¬ (0 : Int) ≠ 0 from fun q => q rfl)]
  by_cases n0 : n < 0
  ·exact ⟨(0, 2), by rw [if_pos n0]; rfl, by rw [if_pos n0]⟩
  ·rw [if_neg n0, if_neg n0]
   by_cases n1 : (p.Nodes.length : Int) ≤ n
   ·exact ⟨(0, 2), by rw [if_pos n1]; rfl, by rw [if_pos n1]⟩
   ·obtain ⟨e, e1, h', c1, c2, c3, c4, c5⟩ := hall n (by omega) (by omega)
    rw [if_neg n1, if_neg n1, t1, bsm (a := t), t3, e1, l1, bsm (a := L), l3, e1]
    by_cases v0 : 0 ≤ v
    ·rw [if_pos v0, bsm (a := (e.length : Int)), bsm, bsm, if_neg (show ¬ v < 0 from by omega)]
     dsimp only
     by_cases v1 : v < (e.length : Int)
     ·obtain ⟨r, r1, r2, r3⟩ := aCq t2 l2 (v := v) h' F F (n, e) (by show _ ≤ 4000000; omega) (by show _ ≤ 4000000; omega) c2 c3 ⟨v0, v1⟩ c4 c5
      refine ⟨(r, 0), ?_, ?_⟩
      ·rw [decide_eq_true v1, cond_true, bsm (a := t), show fV F t n v = some r from r2, bsm]
      ·rw [bsm (a := (e.length : Int)), if_neg (show ¬ (e.length : Int) ≤ v from by omega), show fX F L n v = some r from r3, bsm]
     ·exact ⟨(0, 2), by rw [decide_eq_false v1]; rfl, by rw [bsm (a := (e.length : Int)), if_pos (show (e.length : Int) ≤ v from by omega)]⟩
    ·exact ⟨(0, 2), by rw [if_neg v0]; rfl, by rw [if_pos (show v < 0 from by omega)]⟩
end Go.Proofs.YtmnbfgeljmhekaaGreat
namespace Go.Proofs.YtmnbfgeljmhekaaGreat
open Go.SX Go.SW Go.Dt
section
variable {H : Type} {enc : TypeId × Value → H} {W : World}
abbrev RdP (enc : TypeId × Value → H) (W : World) (n : Nat) {α : Type} (T : Ty α) (t : TypeId) (μ : α → Nat) (S : α → Prop) : Prop := Rd enc Tryz.prog W n T t μ S
theorem gY (n : Nat) {t : TypeId} (ht : Tryz.prog.underlying t = some (.int .i64)) : RdP enc W n (aB .i64) t (fun _ => 1) (fun _ => True) := (rd_int ht).mono (fun _ => Nat.le_refl _) (fun _ _ _ => trivial)
theorem kM {n : Nat} {t e : TypeId} {α : Type} {T : Ty α} {μ : α → Nat} {S : α → Prop} (ht : Tryz.prog.underlying t = some (.slice e)) (hz : Tryz.prog.cellsOf e = T.sz) (h : ∀ k, RdP enc W k T e μ S) : RdP enc W n (tSl T) t (fun l => msum μ l + 1) (fun l => l.length ≤ 1048576 ∧ ∀ a ∈ l, S a) := by
 cases n with
 | zero => exact lV
 | succ n => exact rd_sl ht hz (h n)
theorem tI (n : Nat) {t e : TypeId} (ht : Tryz.prog.underlying t = some (.slice e)) (he : Tryz.prog.underlying e = some (.int .i64)) (hz : Tryz.prog.cellsOf e = 1) : RdP enc W n (tSl (aB .i64)) t (fun _ => 0) (fun l => l.length ≤ 1048576) :=
 (kM ht hz (fun k => gY k he)).mono (fun _ => Nat.zero_le _) (fun _ h _ => h.1)
theorem tM : ∀ l : List ScopeExp, nL l = msum nE l
 | [] => rfl
 | a :: l => by simp only [nL, msum, tM l]
theorem aDf (a b : Int) (c : List ScopeExp) : aU.leafs ⟨a, b, c⟩ = [aA .i64 a, aA .i64 b, fSl aU c] := by
 show [_, _, fN c] = _
 rw [gR]
theorem rd_exp : ∀ n : Nat, RdP enc W n aU 56 nE (fun e => nE e ≤ 1048576)
 | 0 => lV
 | 1 => fun cs x h hb => (mF (μ := nE) (S := fun e => nE e ≤ 1048576) (T := aU) (fun b : Int × Int × List ScopeExp × Unit => ⟨b.1, b.2.1, b.2.2.1⟩) Tryz.underlying56 (e := 3) (by kernel_rfl)
   (eH (gY 0 Tryz.underlying54) rfl (by kernel_rfl) (eH (gY 0 Tryz.underlying3) rfl (by kernel_rfl) (eH (T := tSl aU) (μ := fun l => msum nE l + 1) (S := fun _ => True) lV rfl (by kernel_rfl) mR)))
   (fun b => aDf b.1 b.2.1 b.2.2.1) (fun b => by simp only [nE, tM]; omega) (fun b _ hb => by simp only [nE, tM] at *; omega)) cs x h hb
 | n + 2 => fun cs x h hb => (mF (μ := nE) (S := fun e => nE e ≤ 1048576) (T := aU) (fun b : Int × Int × List ScopeExp × Unit => ⟨b.1, b.2.1, b.2.2.1⟩) Tryz.underlying56 (e := 3) (by kernel_rfl)
   (eH (gY _ Tryz.underlying54) rfl (by kernel_rfl) (eH (gY _ Tryz.underlying3) rfl (by kernel_rfl) (eH (rd_sl Tryz.underlying48 (by kernel_rfl) (rd_exp n)) rfl (by kernel_rfl) mR)))
   (fun b => aDf b.1 b.2.1 b.2.2.1) (fun b => by simp only [nE, tM]; omega) (fun b _ hb => by simp only [nE, tM] at *; omega)) cs x h hb
theorem aDF : ∀ n : Nat, RdP enc W n aL 51 (fun _ => 0) (fun x => x.Args.length ≤ 2000000 ∧ x.Kids.length ≤ 2000000 ∧ ∀ e ∈ x.Args, nE e ≤ 2000000)
 | 0 => lV
 | n + 1 => mF (T := aL) (fun b : Int × Int × List ScopeExp × List Int × Unit => ⟨b.1, b.2.1, b.2.2.1, b.2.2.2.1⟩) Tryz.underlying51 (e := 4) (by kernel_rfl)
   (eH (gY n Tryz.underlying47) rfl (by kernel_rfl) (eH (gY n Tryz.underlying3) rfl (by kernel_rfl) (eH (kM Tryz.underlying48 (by kernel_rfl) rd_exp) rfl (by kernel_rfl) (eH (tI n Tryz.underlying49 Tryz.underlying3 (by kernel_rfl)) rfl (by kernel_rfl) mR))))
   (fun _ => rfl) (fun _ => Nat.zero_le _) (fun b h _ => ⟨by have := h.2.2.1.1; show b.2.2.1.length ≤ _; omega, by have := h.2.2.2.1; show b.2.2.2.1.length ≤ _; omega, fun e he => Nat.le_trans (h.2.2.1.2 e he) (by omega)⟩)
theorem aEu : ∀ n : Nat, RdP enc W n aZ 110 (fun _ => 0) (fun _ => True)
 | 0 => lV
 | n + 1 => mF (T := aZ) (fun b : Int × Int × Unit => ⟨b.1, b.2.1⟩) Tryz.underlying110 (e := 2) (by kernel_rfl)
   (eH (gY n Tryz.underlying3) rfl (by kernel_rfl) (eH (gY n Tryz.underlying3) rfl (by kernel_rfl) mR))
   (fun _ => rfl) (fun _ => Nat.zero_le _) (fun _ _ _ => trivial)
theorem aFx : ∀ n : Nat, RdP enc W n bN 102 (fun _ => 0) (fun _ => True)
 | 0 => lV
 | n + 1 => mF (T := bN) (fun b : Int × Int × Unit => ⟨b.1, b.2.1⟩) Tryz.underlying102 (e := 2) (by kernel_rfl)
   (eH (gY n Tryz.underlying3) rfl (by kernel_rfl) (eH (gY n Tryz.underlying3) rfl (by kernel_rfl) mR))
   (fun _ => rfl) (fun _ => Nat.zero_le _) (fun _ _ _ => trivial)
theorem aGn : ∀ n : Nat, RdP enc W n bD 105 (fun _ => 0) (fun x => x.Joins.length ≤ 2000000)
 | 0 => lV
 | n + 1 => mF (T := bD) (fun b : Int × List Int × Int × Unit => ⟨b.1, b.2.1, b.2.2.1⟩) Tryz.underlying105 (e := 3) (by kernel_rfl)
   (eH (gY n Tryz.underlying3) rfl (by kernel_rfl) (eH (tI n Tryz.underlying49 Tryz.underlying3 (by kernel_rfl)) rfl (by kernel_rfl) (eH (gY n Tryz.underlying3) rfl (by kernel_rfl) mR)))
   (fun _ => rfl) (fun _ => Nat.zero_le _) (fun b h _ => by have := h.2.1; show b.2.1.length ≤ _; omega)
theorem aDT : ∀ n : Nat, RdP enc W n aK 99 (fun _ => 0) (smD)
 | 0 => lV
 | n + 1 => mF (T := aK) (fun b : List ScopeChan × List ScopeSpot × List ScopeRule × Unit => ⟨b.1, b.2.1, b.2.2.1⟩) Tryz.underlying99 (e := 3) (by kernel_rfl)
   (eH (kM Tryz.underlying95 (by kernel_rfl) aEu) rfl (by kernel_rfl) (eH (kM Tryz.underlying96 (by kernel_rfl) aFx) rfl (by kernel_rfl) (eH (kM Tryz.underlying97 (by kernel_rfl) aGn) rfl (by kernel_rfl) mR)))
   (fun _ => rfl) (fun _ => Nat.zero_le _) (fun b h _ => ⟨by have := h.1.1; show b.1.length ≤ _; omega, by have := h.2.1.1; show b.2.1.length ≤ _; omega, by have := h.2.2.1.1; show b.2.2.1.length ≤ _; omega, h.2.2.1.2⟩)
theorem aD7 : ∀ n : Nat, RdP enc W n cY 26 (fun _ => 0) (SmP)
 | 0 => lV
 | n + 1 => mF (T := cY) (fun b : List ByteArray × List ScopeNode × List ScopeDef × Int × Unit => ⟨b.1, b.2.1, b.2.2.1, b.2.2.2.1⟩) Tryz.underlying26 (e := 4) (by kernel_rfl)
   (eH (kM (S := fun s : ByteArray => s.size ≤ 1048576) Tryz.underlying22 (by kernel_rfl) (fun k => (rd_str (n := k) Tryz.underlying9))) rfl (by kernel_rfl) (eH (kM Tryz.underlying23 (by kernel_rfl) aDF) rfl (by kernel_rfl) (eH (kM Tryz.underlying24 (by kernel_rfl) aDT) rfl (by kernel_rfl) (eH (gY n Tryz.underlying3) rfl (by kernel_rfl) mR))))
   (fun _ => rfl) (fun _ => Nat.zero_le _) (fun b h _ => ⟨by have := h.2.1.1; show b.2.1.length ≤ _; omega, by have := h.2.2.1.1; show b.2.2.1.length ≤ _; omega, by have := h.1.1; show b.1.length ≤ _; omega, fun x hx => Nat.le_trans (h.1.2 x hx) (by omega), h.2.1.2, h.2.2.1.2⟩)
theorem aF1 : ∀ n : Nat, RdP enc W n bG 61 (fun _ => 0) (SmU)
 | 0 => lV
 | n + 1 => mF (T := bG) (fun b : List Int × List Int × List (List Int) × Unit => ⟨b.1, b.2.1, b.2.2.1⟩) Tryz.underlying61 (e := 3) (by kernel_rfl)
   (eH (tI n Tryz.underlying58 Tryz.underlying30 (by kernel_rfl)) rfl (by kernel_rfl) (eH (tI n Tryz.underlying58 Tryz.underlying30 (by kernel_rfl)) rfl (by kernel_rfl) (eH (kM Tryz.underlying59 (by kernel_rfl) (fun k => tI k Tryz.underlying58 Tryz.underlying30 (by kernel_rfl))) rfl (by kernel_rfl) mR)))
   (fun _ => rfl) (fun _ => Nat.zero_le _) (fun b h _ => ⟨by have := h.1; show b.1.length ≤ _; omega, by have := h.2.1; show b.2.1.length ≤ _; omega, by have := h.2.2.1.1; show b.2.2.1.length ≤ _; omega, fun a ha => Nat.le_trans (h.2.2.1.2 a ha) (by omega)⟩)
end
end Go.Proofs.YtmnbfgeljmhekaaGreat
set_option maxRecDepth 100000
namespace Go.Proofs.YtmnbfgeljmhekaaGreat
open Go.SX Go.SW Go.Dt
theorem large2 {t : List UsageDef} {i : Int} {y : UsageDef} (hy : idx t i = some y) (hm : y.Args.length ≤ 2000000) : ∀ (k : Nat) (j : Int), 0 ≤ j → (y.Args.length : Int) - j < k → j ≤ (y.Args.length : Int) → ∃ r, nI t i k j = some r
 | 0, j, h0, h1, h2 => absurd h1 (by omega)
 | k + 1, j, h0, h1, h2 => by
  rw [nI, hy, bsm]
  by_cases hj : j < (y.Args.length : Int)
  ·obtain ⟨a, ha⟩ := eC (xs := y.Args) h0 hj
   rw [if_pos hj, bsm, ha, bsm]
   by_cases hl : 60 < (a.length : Int)
   ·rw [if_pos hl]; exact ⟨_, rfl⟩
   ·rw [if_neg hl, bH (by omega), bsm]
    exact large2 hy hm k (j + 1) (by omega) (by omega) (by omega)
  ·rw [if_neg hj]; exact ⟨_, rfl⟩
theorem large1 {t : List UsageDef} (ht : t.length ≤ 2000000) (hm : ∀ a ∈ t, SmU a) : ∀ (k : Nat) (j : Int), 0 ≤ j → (t.length : Int) - j < k → j ≤ (t.length : Int) → ∃ r, nX F t k j = some r
 | 0, j, h0, h1, h2 => absurd h1 (by omega)
 | k + 1, j, h0, h1, h2 => by
  rw [nX]
  by_cases hj : j < (t.length : Int)
  ·obtain ⟨a, ha⟩ := eC (xs := t) h0 hj
   have hs := hm a (fY ha)
   rw [if_pos hj, ha, bsm]
   by_cases h1' : 60 < (a.Chans.length : Int)
   ·rw [if_pos h1', bsm, bsm]; exact ⟨_, rfl⟩
   ·rw [if_neg h1', bsm]
    by_cases h2' : 60 < (a.Rules.length : Int)
    ·rw [if_pos h2', bsm, bsm]; exact ⟨_, rfl⟩
    ·rw [if_neg h2', bsm]
     by_cases h3 : 60 < (a.Args.length : Int)
     ·rw [if_pos h3, bsm, bsm]; exact ⟨_, rfl⟩
     ·rw [if_neg h3]
      obtain ⟨r, hr⟩ := large2 ha hs.args F 0 (Int.le_refl _) (by have := hs.args; show _ < ((4000000 : Nat) : Int); omega) (by omega)
      rw [hr, bsm]
      cases r with
      | inr r => exact ⟨_, rfl⟩
      | inl u =>
       dsimp only
       rw [bH (by omega), bsm]
       exact large1 ht hm k (j + 1) (by omega) (by omega) (by omega)
  ·rw [if_neg hj]; exact ⟨_, rfl⟩
theorem large_eq {t : List UsageDef} (ht : t.length ≤ 2000000) (hm : ∀ a ∈ t, SmU a) : ∃ b, tK F t = some b := by
 rw [tK]
 by_cases h : 40 < (t.length : Int)
 ·rw [if_pos h]; exact ⟨_, rfl⟩
 ·rw [if_neg h]
  obtain ⟨r, hr⟩ := large1 ht hm F 0 (Int.le_refl _) (by show _ < ((4000000 : Nat) : Int); omega) (by omega)
  rw [hr, bsm]
  cases r <;> exact ⟨_, rfl⟩
theorem works_ev : pZ 4000000 = some true := by kernel_rfl
theorem aCv : pZ F = some true := works_ev
theorem aEi {p : ScopeProg} {t : List UsageDef} (hp : SmP p) (ht : t.length ≤ 2000000) (hm : ∀ a ∈ t, SmU a) (n v : Int) : wF F p t n v = some true := by
 have hpp : (⟨p.Free, p.Nodes, p.Defs, p.Main⟩ : ScopeProg) = p := rfl
 obtain ⟨b, hb⟩ := large_eq ht hm
 obtain ⟨r, r1, r2⟩ := aD5 hp hm n v
 obtain ⟨q, q1, q2⟩ := aDY hp n v
 rw [wF, hb, bsm]
 cases b
 ·rw [cond_false, hpp, r1, bsm, r2, bsm, q1, bsm, q2, bsm, if_pos rfl, if_pos rfl, if_pos rfl, if_pos rfl, aCv, bsm, bsm]
 ·rw [cond_true, aCv, bsm]
end Go.Proofs.YtmnbfgeljmhekaaGreat
namespace Go.SW
open Go.SX
theorem aE0 {w w' : World} (h : w.keptBut w' (fun _ => False)) {p : MemPlace} (hp : p.block < w.heap.size) : w.sameAt w' p := by
 obtain ⟨_, _, h⟩ := h
 cases p with
 | cell b off =>
  have := h b hp
  show w'.cell? _ = w.cell? _
  unfold World.cell?
  dsimp only at *
  cases h1 : w.heap[b]? with
  | none => rw [h1] at this; dsimp only at this; rw [this]
  | some o =>
   rw [h1] at this
   cases o with
   | cells c t fr =>
    cases h2 : w'.heap[b]? with
    | none => rw [h2] at this; cases this
    | some o' =>
     rw [h2] at this
     cases o' with
     | cells c' t' fr' =>
      dsimp only at this ⊢
      rw [this.2.2.2 off (fun f => f)]
     | _ => cases this
   | map es clock =>
    cases h2 : w'.heap[b]? with
    | none => rfl
    | some o' =>
     rw [h2] at this
     cases o' with
     | cells => cases this
     | _ => rfl
   | _ => dsimp only at this; rw [this]
 | map b =>
  have := h b hp
  show w'.heap[b]? = w.heap[b]?
  cases h1 : w.heap[b]? with
  | none => rw [h1] at this; exact this
  | some o =>
   rw [h1] at this
   cases o with
   | cells c t fr =>
    cases h2 : w'.heap[b]? with
    | none => rw [h2] at this; cases this
    | some o' =>
     rw [h2] at this
     cases o' with
     | cells c' t' fr' =>
      dsimp only at this
      obtain ⟨rfl, rfl, hs, hc⟩ := this
      have : c' = c := Array.ext_getElem? fun j => hc j (fun f => f)
      rw [this]
     | _ => cases this
   | map es clock =>
    cases h2 : w'.heap[b]? with
    | none => rw [h2] at this; cases this
    | some o' =>
     rw [h2] at this
     cases o' with
     | map es' clock' =>
      rcases this with f | ⟨rfl, rfl⟩
      ·exact f.elim
      ·rfl
     | _ => cases this
   | _ => exact this
theorem aBq {H : Type} {enc : TypeId × Value → H} {P : Program} {W W' : World} (hl : laidOutB P = true) (hm : mapsRowed P = true) (hz : ∀ t e, t < P.types.size → P.underlying t = some (.slice e) → 0 < P.cellsOf e) (hk : W.keptBut W' (fun _ => False)) :
  ∀ {ts : List TypeId} {vs : List Value} {ds : List (DataW H)} {ps : List MemPlace}, (∀ t ∈ ts, t < P.types.size) → DataW.TrodAll enc P W 0 (fun _ => true) true ts vs ds ps → DataW.TrodAll enc P W' 0 (fun b => decide (b < W.heap.size)) true ts vs ds ps
 | [], [], [], _, _, h => h
 | t :: _, _ :: _, _ :: _, ps, ht, h => by
  have hlt := h.lt
  obtain ⟨p, q, ⟨n, hn⟩, h2, e⟩ := h
  refine ⟨p, q, ⟨n, ?_⟩, aBq hl hm hz hk (fun t h => ht t (.tail _ h)) h2, e⟩
  have hp : ∀ x ∈ p, x.block < W.heap.size := fun x hx => hlt x (by rw [e]; exact List.mem_append_left _ hx)
  exact DataW.trod_stays (kids_rows hl hm) (fun a b => hz _ _ a b) (fun f => by cases f) (ht t (.head _)) hn (fun x hx => aE0 hk (hp x hx)) (fun x hx => decide_eq_true (hp x hx))
 | [], _ :: _, _, _, _, h => h.elim
 | [], [], _ :: _, _, _, h => h.elim
 | _ :: _, [], _, _, _, h => h.elim
 | _ :: _, _ :: _, [], _, _, h => h.elim
end Go.SW
