/- Parts of the proof: lemmas, and the steps through the program. -/
import Derived.Test.YtmnbfgeljmhekaaGreatKa4
set_option linter.unusedVariables false
set_option linter.unusedSimpArgs false
set_option maxRecDepth 100000
namespace Go.Proofs.YtmnbfgeljmhekaaGreat
open Go.SX Go.SW Go.Dt
theorem aCS {p : ScopeProg} {e : E} (h : hE p e) (k : Nat) : hE p (e ++ List.replicate k none) := fun i c hi => by
 rw [zK] at hi
 split at hi
 ·exact h i c hi
 ·cases List.eq_of_mem_replicate (eF hi)
theorem aBs {p : ScopeProg} {e : E} {m : Int} {d : ScopeDef} (hd : idx p.Defs m = some d) (h : hE p e) : hE p (inE e m d) := by
 refine aCS (fun i c hi => ?_) _
 rw [zK] at hi
 split at hi
 ·exact h i c hi
 ·have hm := eF hi
  unfold chs at hm
  obtain ⟨j, hj, e1⟩ := List.mem_map.1 hm
  cases e1
  obtain ⟨y, hy⟩ := dU (xs := d.Chans) (i := (j : Int)) (by omega) (by have := List.mem_range.1 hj; omega)
  exact ⟨d, y, hd, hy⟩
theorem env_ru {p : ScopeProg} {e : E} {m : Int} {d : ScopeDef} {r : ScopeRule} (hd : idx p.Defs m = some d) (h : hE p e) : hE p (ruE e m d r) := aCS (aBs hd h) _
theorem aCw {p : ScopeProg} {x : ScopeNode} {e : E} {z : Int} (hT : okT p x z) (he : hE p e) : ∀ q ∈ subs p x e, hE p q.2 := zX (fun m d h1 _ => aBs h1 he) (fun m d r h1 _ _ => env_ru h1 he) hT he
variable {p : ScopeProg} {t : Usage_text} {L : Ref05_Look} {tab : List UsageDef}
abbrev rK (t : Usage_text) (L : Ref05_Look) (tab : List UsageDef) (v : Int) (f f' : Nat) (n : Int) (m : Int) : Prop := ∃ r, (two r ∧ r = m) ∧ fD f t tab n v = some r ∧ fB f' L tab n v = some r
theorem spots_j {v : Int} {f f' : Nat} {d : ScopeDef} {sv : ScopeSpot → Int} (suf : List ScopeSpot) : ∀ (pre : List ScopeSpot) (k : Nat) (w : Int), d.Spots = pre ++ suf → suf.length < k → pre.length + suf.length ≤ 3000000 → (∀ y ∈ suf, rK t L tab v f f' y.Node (sv y)) → two w →
  ∃ r, (two r ∧ r = suf.foldl (fun w y => min (w + sv y) 2) w) ∧ eO (fun s b => sB (fD f) t tab v b s) w (suf.map (·.Node)) = some r ∧ nP (fB f') L tab v d k w pre.length = some r := by
 induction suf with
 | nil =>
  intro pre k w hx hk hB _ hw
  obtain _ | k := k
  ·omega
  exact ⟨w, ⟨hw, rfl⟩, rfl, by rw [nP, if_neg (show ¬ (pre.length : Int) < (d.Spots.length : Int) from by rw [hx]; simp)]⟩
 | cons y suf ih =>
  intro pre k w hx hk hB hj hw
  obtain _ | k := k
  ·omega
  simp only [List.length_cons] at hk hB
  obtain ⟨a, ⟨a1, rfl⟩, a2, a3⟩ := hj y (List.mem_cons_self ..)
  obtain ⟨r, r1, r2, r3⟩ := ih (pre ++ [y]) k (min (w + sv y) 2) (by rw [hx]; exact cA pre suf y) (by omega) (by simp; omega) (fun z hz => hj z (List.mem_cons_of_mem _ hz)) (kI hw a1)
  refine ⟨r, r1, ?_, ?_⟩
  ·rw [List.map_cons, eO, sB, a2, bsm, zB hw a1, bsm, bsm]; exact r2
  ·rw [nP, if_pos (show (pre.length : Int) < (d.Spots.length : Int) from by rw [hx]; exact cC pre suf y), show idx d.Spots (pre.length : Int) = some y from by rw [hx]; exact bX pre suf y, bsm, a3, bsm, zG hw a1, bsm, aV (by omega), bsm, bT pre y]
   exact r3
theorem rules_j {v : Int} {f f' : Nat} {sv : ScopeRule → Int} {x : ScopeNode} {d : ScopeDef} {tx : UsageDef} (htx : idx tab x.N = some tx) (hl : tx.Rules.length = d.Rules.length) (suf : List ScopeRule) : ∀ (pre : List ScopeRule) (k k' : Nat) (w : Int), d.Rules = pre ++ suf → suf.length < k → suf.length < k' → pre.length + suf.length ≤ 3000000 → (∀ y ∈ suf, rK t L tab v f f' y.Node (sv y)) → two w →
  ∃ r, (two r ∧ r = oX tx.Rules sv suf pre.length w) ∧ oS (fD f) t tab v x d k pre.length w = some r ∧ oW (fB f') L tab v x d k' w pre.length = some r := by
 induction suf with
 | nil =>
  intro pre k k' w hx hk hk' hB _ hw
  obtain _ | k := k
  ·omega
  obtain _ | k' := k'
  ·omega
  have : ¬ (pre.length : Int) < (d.Rules.length : Int) := by rw [hx]; simp
  exact ⟨w, ⟨hw, rfl⟩, by rw [oS, if_neg this], by rw [oW, if_neg this]⟩
 | cons y suf ih =>
  intro pre k k' w hx hk hk' hB hj hw
  obtain _ | k := k
  ·omega
  obtain _ | k' := k'
  ·omega
  simp only [List.length_cons] at hk hk' hB
  obtain ⟨a, ⟨a1, rfl⟩, a2, a3⟩ := hj y (List.mem_cons_self ..)
  have hlt : (pre.length : Int) < (d.Rules.length : Int) := by rw [hx]; exact cC pre suf y
  have hi : idx d.Rules (pre.length : Int) = some y := by rw [hx]; exact bX pre suf y
  obtain ⟨c, hc⟩ := dU (xs := tx.Rules) (i := (pre.length : Int)) (by omega) (by omega)
  have hm := aDe (jB c) a1
  obtain ⟨r, r1, r2, r3⟩ := ih (pre ++ [y]) k k' (min (w + min (cnt c * sv y) 2) 2) (by rw [hx]; exact cA pre suf y) (by omega) (by omega) (by simp; omega) (fun z hz => hj z (List.mem_cons_of_mem _ hz)) (kI hw hm)
  refine ⟨r, ⟨r1.1, by rw [r1.2, oX, hc, ← bT pre y]; rfl⟩, ?_, ?_⟩
  ·rw [oS, if_pos hlt, hi, bsm, htx, bsm, hc, bsm, of_p, bsm, a2, bsm, times_p (jB c) a1, bsm, zB hw hm, bsm, aV (by omega), bsm, bT pre y]; exact r2
  ·rw [oW, if_pos hlt, htx, bsm, hc, bsm, of_r, bsm, hi, bsm, a3, bsm, times_r (jB c) a1, bsm, zG hw hm, bsm, aV (by omega), bsm, bT pre y]; exact r3
theorem aEy (ht : t.ScopeProg = p) (hL : L.p = p) (hk : fO p tab) {v : Int} {f f' : Nat} (hf : 100 ≤ f) (hf' : 100 ≤ f') {n : Int} {e : E} {x : ScopeNode} {z : Int} (hx : idx p.Nodes n = some x) (hT : okT p x z) (h4 : x.Op = 4) {sv : Int × E → Int} (hj : ∀ q ∈ subs p x e, rK t L tab v f f' q.1 (sv q)) {d : ScopeDef} (hd : idx p.Defs x.N = some d) :
  ∃ r, (two r ∧ r = lE tab x d e sv) ∧ oE (f + 1) t tab n v = some r ∧ oK (f' + 1) L tab n v = some r := by
 subst ht
 obtain ⟨h0, h1, d', hd', ho⟩ := qJ hT h4
 obtain rfl : d' = d := by rw [hd] at hd'; exact (Option.some.inj hd').symm
 obtain ⟨k, hkk⟩ := List.length_eq_one_iff.1 h1
 have bd := eA ho
 rw [subs, if_pos h4, hd] at hj
 dsimp only at hj
 obtain ⟨a, ⟨a1, ae⟩, a2, a3⟩ := hj (k, inE e x.N d') (List.mem_append_right _ (List.mem_append_right _ (by rw [hkk]; exact List.mem_singleton.2 rfl)))
 obtain ⟨b, ⟨b1, be⟩, b2, b3⟩ := spots_j (t := t) (L := L) (tab := tab) (v := v) (f := f) (f' := f') (sv := fun y => sv (y.Node, inE e x.N d')) d'.Spots [] f' a rfl (by omega) (by simp; omega) (fun y hy => hj (y.Node, inE e x.N d') (List.mem_append_right _ (List.mem_append_left _ (List.mem_map.2 ⟨y, hy, rfl⟩)))) a1
 obtain ⟨tx, htx, hl⟩ := tab_rule hk hd
 obtain ⟨c, ⟨c1, ce⟩, c2, c3⟩ := rules_j (t := t) (L := L) (v := v) (f := f) (f' := f') (sv := fun y => sv (y.Node, ruE e x.N d' y)) htx hl d'.Rules [] f f' b rfl (by omega) (by omega) (by simp; omega) (fun y hy => hj (y.Node, ruE e x.N d' y) (List.mem_append_left _ (List.mem_map.2 ⟨y, hy, rfl⟩))) b1
 have hk0 : idx x.Kids 0 = some k := by rw [hkk]; rfl
 refine ⟨c, ⟨c1, by rw [lE, htx, iU hk0, ← ae, ← be]; exact ce⟩, ?_, ?_⟩
 ·rw [oE, hx, bsm, hk0, bsm, a2, bsm, pO, bsm]
  dsimp only
  rw [aBj hd hf ho, b2, bsm, hd, bsm, gR]
  exact c2
 ·rw [oK, hL, hx, bsm, hd, bsm, hk0, bsm, a3, bsm, show nP (fB f') L tab v d' f' a 0 = some b from b3, bsm, gR]
  exact c3
theorem aB9 (ht : t.ScopeProg = p) (hL : L.p = p) (hk : fO p tab) {v : Int} : ∀ (h f f' : Nat) (q : Int × E), 2 * h + 200 ≤ f → 2 * h + 200 ≤ f' → Tr p h q → hE p q.2 → (∀ b ∈ LN p h q, At t L b) → rK t L tab v f f' q.1 (gH p tab v h q)
 | 0, f, f', q, _, _, hT, _, _ => hT.elim
 | h + 1, f, f', (n, e), hf, hf', ⟨x, hx, h0, hT, hK⟩, he, hat => by
  dsimp only at hx h0 hT hK he
  obtain _ | f := f
  ·omega
  obtain _ | f := f
  ·omega
  obtain _ | f' := f'
  ·omega
  obtain _ | f' := f'
  ·omega
  simp only [LN, hx] at hat
  have own := hat (n, e) (List.mem_cons_self ..)
  have kid : ∀ (g g' : Nat), 2 * h + 200 ≤ g → 2 * h + 200 ≤ g' → ∀ q ∈ subs p x e, rK t L tab v g g' q.1 (gH p tab v h q) := fun g g' hg hg' q hq =>
   aB9 ht hL hk h g g' q hg hg' (hK q hq) (aCw hT he q hq) (fun b hb => hat b (List.mem_cons_of_mem _ (List.mem_flatMap.2 ⟨q, hq, hb⟩)))
  unfold rK
  dsimp only
  rw [gH]
  dsimp only
  rw [hx]
  dsimp only
  rw [fD, fB, ht, hL, hx, bsm, bsm, bsm]
  rcases hT with ⟨h1, _⟩ | ⟨h1, h2⟩ | ⟨h1, h2, _, h3⟩ | ⟨h1, h2⟩ | ⟨h1, h2⟩
  ·have e2 : ¬ x.Op = 2 := by omega
   have e3 : ¬ x.Op = 3 := by omega
   have e5 : ¬ x.Op = 5 := by omega
   have e6 : ¬ x.Op = 6 := by omega
   have e8 : ¬ x.Op = 8 := by omega
   have e4 : ¬ x.Op = 4 := by omega
   refine ⟨0, ⟨⟨by omega, by omega⟩, by unfold kJ; rw [if_neg e2, if_neg e3, if_neg e5, if_neg (by omega), if_neg e4]⟩, ?_, ?_⟩
   ·rw [if_neg e2, if_neg e3, if_neg e5, if_neg e6, bsm, decide_eq_false e8, cond_false, if_neg e4]
   ·rw [if_neg e2, if_neg e3, if_neg e5, if_neg e6, bsm, decide_eq_false e8, cond_false, if_neg e4]
  ·have e2 : ¬ x.Op = 2 := by omega
   have e4 : ¬ x.Op = 4 := by omega
   obtain ⟨a, b, hab⟩ : ∃ a b, x.Kids = [a, b] := by
    match hq : x.Kids, h2 with
    | [a, b], _ => exact ⟨a, b, rfl⟩
   have i0 : idx x.Kids 0 = some a := by rw [hab]; rfl
   have i1 : idx x.Kids 1 = some b := by rw [hab]; rfl
   have ma : (a, e) ∈ subs p x e := by rw [subs, if_neg e4, hab]; exact List.mem_cons_self ..
   have mb : (b, e) ∈ subs p x e := by rw [subs, if_neg e4, hab]; exact List.mem_cons_of_mem _ (List.mem_cons_self ..)
   obtain ⟨ra, ⟨a1, ae⟩, a2, a3⟩ := kid f (f' + 1) (by omega) (by omega) _ ma
   obtain ⟨rb, ⟨b1, be⟩, b2, b3⟩ := kid f (f' + 1) (by omega) (by omega) _ mb
   dsimp only at a2 a3 b2 b3
   rw [if_neg e2, if_neg e2]
   by_cases e3 : x.Op = 3
   ·refine ⟨min (ra + rb) 2, ⟨kI a1 b1, by unfold kJ; rw [if_neg e2, if_pos e3, iU i0, iU i1, ae, be]⟩, ?_, ?_⟩
    ·rw [if_pos e3, rM, ht, hx, bsm, i0, bsm, a2, bsm, i1, bsm, b2, bsm, gR, gR]; exact zB a1 b1
    ·rw [if_pos e3, i0, bsm, a3, bsm, i1, bsm, b3, bsm, gR]; exact zG a1 b1
   ·have e5 : x.Op = 5 := by omega
    refine ⟨max ra rb, ⟨by unfold two at *; omega, by unfold kJ; rw [if_neg e2, if_neg e3, if_pos e5, iU i0, iU i1, ae, be]⟩, ?_, ?_⟩
    ·rw [if_neg e3, if_pos e5, rM, ht, hx, bsm, i0, bsm, a2, bsm, i1, bsm, b2, bsm, gR, gR]
     show pC ra rb = _
     unfold pC
     split
     ·congr 1; omega
     ·congr 1; omega
    ·rw [if_neg e3, if_pos e5, i0, bsm, a3, bsm, i1, bsm, b3, bsm]
  ·obtain ⟨r, r1, r2, r3⟩ := send_eq (t := t) (L := L) ht hL hk hx h3 h2 own he (v := v) (f := f + 1) (f' := f' + 1) (by omega) (by omega)
   exact ⟨r, ⟨r1.1, by unfold kJ; rw [if_pos h1]; exact r1.2⟩, by rw [if_pos h1, gR]; exact r2, by rw [if_pos h1, gR]; exact r3⟩
  ·have e2 : ¬ x.Op = 2 := by omega
   have e3 : ¬ x.Op = 3 := by omega
   have e5 : ¬ x.Op = 5 := by omega
   have e4 : ¬ x.Op = 4 := by omega
   obtain ⟨a, hab⟩ := List.length_eq_one_iff.1 h2
   have i0 : idx x.Kids 0 = some a := by rw [hab]; rfl
   have ma : (a, e) ∈ subs p x e := by rw [subs, if_neg e4, hab]; exact List.mem_cons_self ..
   obtain ⟨ra, ⟨a1, ae⟩, a2, a3⟩ := kid (f + 1) (f' + 1) (by omega) (by omega) _ ma
   dsimp only at a2 a3
   have e68 : (if x.Op = 6 then some (decide (x.Op = 6)) else some (decide (x.Op = 8))) = some true := by
    split
    ·rename_i h6; rw [decide_eq_true h6]
    ·rw [decide_eq_true (by omega)]
   refine ⟨ra, ⟨a1, by unfold kJ; rw [if_neg e2, if_neg e3, if_neg e5, if_pos (by omega), iU i0]; exact ae⟩, ?_, ?_⟩
   ·rw [if_neg e2, if_neg e3, if_neg e5, e68, bsm, cond_true, i0, bsm, gR]; exact a2
   ·rw [if_neg e2, if_neg e3, if_neg e5, e68, bsm, cond_true, i0, bsm, gR]; exact a3
  ·have e2 : ¬ x.Op = 2 := by omega
   have e3 : ¬ x.Op = 3 := by omega
   have e5 : ¬ x.Op = 5 := by omega
   have e6 : ¬ x.Op = 6 := by omega
   have e8 : ¬ x.Op = 8 := by omega
   have hT' : okT p x 0 := .inr (.inr (.inr (.inr ⟨h1, h2⟩)))
   obtain ⟨_, _, d, hd, _⟩ := qJ hT' h1
   obtain ⟨r, r1, r2, r3⟩ := aEy (t := t) (L := L) (p := p) ht hL hk (v := v) (f := f) (f' := f') (n := n) (e := e) (x := x) (z := 0) (by omega) (by omega) hx hT' h1 (kid f f' (by omega) (by omega)) hd
   refine ⟨r, ⟨r1.1, by unfold kJ; rw [if_neg e2, if_neg e3, if_neg e5, if_neg (by omega), if_pos h1, hd]; exact r1.2⟩, ?_, ?_⟩
   ·rw [if_neg e2, if_neg e3, if_neg e5, if_neg e6, bsm, decide_eq_false e8, cond_false, if_pos h1, gR]; exact r2
   ·rw [if_neg e2, if_neg e3, if_neg e5, if_neg e6, bsm, decide_eq_false e8, cond_false, if_pos h1, gR]; exact r3
end Go.Proofs.YtmnbfgeljmhekaaGreat
set_option maxRecDepth 100000
namespace Go.Proofs.YtmnbfgeljmhekaaGreat
open Go.SX Go.SW Go.Dt
variable {p : ScopeProg} {t : Usage_text} {L : Ref05_Look}
abbrev uX (p : ScopeProg) (h : Nat) (t : Usage_text) (L : Ref05_Look) (v : Int) (f f' : Nat) (q : Int × E) : Prop := ∃ r, ((0 ≤ r ∧ r ≤ ((LN p h q).length : Int)) ∧ r = kW p v h q) ∧ gK f t q.1 v = some r ∧ gV f' L q.1 v = some r
theorem xJ {α β : Type} {f : α → List β} : ∀ {l : List α} {a : α}, a ∈ l → (f a).length ≤ (l.flatMap f).length
 | b :: l, a, h => by
  rw [List.flatMap_cons, List.length_append]
  cases h with
  | head => omega
  | tail _ h => have := xJ (f := f) h; omega
theorem spots_s {h : Nat} {v : Int} {f f' : Nat} {d : ScopeDef} {e' : E} (suf : List ScopeSpot) : ∀ (pre : List ScopeSpot) (k : Nat) (w : Int), d.Spots = pre ++ suf → suf.length < k → pre.length + suf.length ≤ 3000000 → (∀ y ∈ suf, uX p h t L v f f' (y.Node, e')) → 0 ≤ w → w + ((suf.map fun y => (y.Node, e')).flatMap (LN p h)).length ≤ 1000000 →
  ∃ r, ((0 ≤ r ∧ r ≤ w + ((suf.map fun y => (y.Node, e')).flatMap (LN p h)).length) ∧ r = suf.foldl (fun w y => w + kW p v h (y.Node, e')) w) ∧ eO (fun s b => rV (gK f) t v b s) w (suf.map (·.Node)) = some r ∧ mN (gV f') L v d k w pre.length = some r := by
 induction suf with
 | nil =>
  intro pre k w hx hk hB _ hw _
  obtain _ | k := k
  ·omega
  exact ⟨w, ⟨⟨hw, by simp⟩, rfl⟩, rfl, by rw [mN, if_neg (show ¬ (pre.length : Int) < (d.Spots.length : Int) from by rw [hx]; simp)]⟩
 | cons y suf ih =>
  intro pre k w hx hk hB hj hw hW
  obtain _ | k := k
  ·omega
  simp only [List.length_cons] at hk hB
  obtain ⟨a, ⟨a1, ae⟩, a2, a3⟩ := hj y (List.mem_cons_self ..)
  rw [List.map_cons, List.flatMap_cons, List.length_append] at hW
  obtain ⟨r, r1, r2, r3⟩ := ih (pre ++ [y]) k (w + a) (by rw [hx]; exact cA pre suf y) (by omega) (by simp; omega) (fun z hz => hj z (List.mem_cons_of_mem _ hz)) (by omega) (by omega)
  refine ⟨r, ⟨⟨r1.1.1, by have := r1.1.2; rw [List.map_cons, List.flatMap_cons, List.length_append]; omega⟩, by rw [r1.2, ae]; rfl⟩, ?_, ?_⟩
  ·rw [List.map_cons, eO, rV, a2, bsm, aV (by omega), bsm, bsm]; exact r2
  ·rw [mN, if_pos (show (pre.length : Int) < (d.Spots.length : Int) from by rw [hx]; exact cC pre suf y), show idx d.Spots (pre.length : Int) = some y from by rw [hx]; exact bX pre suf y, bsm, a3, bsm, aV (by omega), bsm, aV (by omega), bsm, bT pre y]
   exact r3
theorem aEf (ht : t.ScopeProg = p) (hL : L.p = p) {h : Nat} {v : Int} {f f' : Nat} (hf : 100 ≤ f) (hf' : 100 ≤ f') {n : Int} {e : E} {x : ScopeNode} {z : Int} (hx : idx p.Nodes n = some x) (hT : okT p x z) (h4 : x.Op = 4) (hB : (LN p (h + 1) (n, e)).length ≤ 1000000) (hj : ∀ q ∈ subs p x e, uX p h t L v f f' q) {d : ScopeDef} (hd : idx p.Defs x.N = some d) :
  ∃ r, ((0 ≤ r ∧ r ≤ ((LN p (h + 1) (n, e)).length : Int)) ∧ r = begM x d e (kW p v h)) ∧ kN (f + 1) t n v = some r ∧ nT (f' + 1) L n v = some r := by
 subst ht
 obtain ⟨h0, h1, d', hd', ho⟩ := qJ hT h4
 obtain rfl : d = d' := by rw [hd] at hd'; exact Option.some.inj hd'
 obtain ⟨k, hkk⟩ := List.length_eq_one_iff.1 h1
 have bd := eA ho
 rw [subs, if_pos h4, hd] at hj
 dsimp only at hj
 have hlen : (LN t.ScopeProg (h + 1) (n, e)).length = 1 + (((d.Rules.map (fun r => (r.Node, ruE e x.N d r))).flatMap (LN t.ScopeProg h)).length + (((d.Spots.map (fun y => (y.Node, inE e x.N d))).flatMap (LN t.ScopeProg h)).length + (LN t.ScopeProg h (k, inE e x.N d)).length)) := by
  simp only [LN, hx]
  rw [subs, if_pos h4, hd, List.length_cons]
  dsimp only
  rw [List.flatMap_append, List.length_append, List.flatMap_append, List.length_append, hkk, List.map_cons, List.map_nil, List.flatMap_cons, List.flatMap_nil, List.append_nil]
  omega
 obtain ⟨a, ⟨a1, ae⟩, a2, a3⟩ := hj (k, inE e x.N d) (List.mem_append_right _ (List.mem_append_right _ (by rw [hkk]; exact List.mem_singleton.2 rfl)))
 obtain ⟨b, ⟨b1, be⟩, b2, b3⟩ := spots_s (p := t.ScopeProg) (h := h) (t := t) (L := L) (v := v) (f := f) (f' := f') (e' := inE e x.N d) d.Spots [] f' a rfl (by omega) (by simp; omega) (fun y hy => hj (y.Node, inE e x.N d) (List.mem_append_right _ (List.mem_append_left _ (List.mem_map.2 ⟨y, hy, rfl⟩)))) a1.1 (by omega)
 have hk0 : idx x.Kids 0 = some k := by rw [hkk]; rfl
 refine ⟨b, ⟨⟨b1.1, by omega⟩, by rw [begM, iU hk0, ← ae]; exact be⟩, ?_, ?_⟩
 ·rw [kN, hx, bsm, hk0, bsm, a2, bsm, pO, bsm]
  dsimp only
  rw [aBj hd hf ho, b2, bsm]
 ·rw [nT, hL, hx, bsm, hd, bsm, hk0, bsm, a3, bsm, show mN (gV f') L v d f' a 0 = some b from b3, bsm]
theorem aD7 (ht : t.ScopeProg = p) (hL : L.p = p) {v : Int} : ∀ (h f f' : Nat) (q : Int × E), 2 * h + 200 ≤ f → 2 * h + 200 ≤ f' → Tr p h q → hE p q.2 → 0 ≤ v ∧ v < q.2.length → (LN p h q).length ≤ 1000000 → (∀ b ∈ LN p h q, At t L b) → uX p h t L v f f' q
 | 0, f, f', q, _, _, hT, _, _, _, _ => hT.elim
 | h + 1, f, f', (n, e), hf, hf', ⟨x, hx, h0, hT, hK⟩, he, hv, hB, hat => by
  dsimp only at hx h0 hT hK he hv
  obtain _ | f := f
  ·omega
  obtain _ | f := f
  ·omega
  obtain _ | f' := f'
  ·omega
  obtain _ | f' := f'
  ·omega
  have hlen : (LN p (h + 1) (n, e)).length = 1 + ((subs p x e).flatMap (LN p h)).length := by simp only [LN, hx, List.length_cons]; omega
  have hB0 := hB
  simp only [LN, hx] at hat
  have hown := hat (n, e) (List.mem_cons_self ..)
  have kid : ∀ (g g' : Nat), 2 * h + 200 ≤ g → 2 * h + 200 ≤ g' → ∀ q ∈ subs p x e, uX p h t L v g g' q := fun g g' hg hg' q hq =>
   aD7 ht hL h g g' q hg hg' (hK q hq) (aCw hT he q hq)
    (zX (P := fun e => 0 ≤ v ∧ v < (e.length : Int)) (fun m d h1 h2 => ⟨hv.1, by have a := qY (e := e) (m := m) (d := d); unfold own at a; omega⟩) (fun m d r h1 h2 h3 => ⟨hv.1, by have a := aAN (e := e) (m := m) h2 h3; have b := eA h2; have d := qN (b.2.2.2.2 r h3).2; unfold own at a; omega⟩) hT hv q hq)
    (by have := xJ (f := LN p h) hq; omega) (fun b hb => hat b (List.mem_cons_of_mem _ (List.mem_flatMap.2 ⟨q, hq, hb⟩)))
  unfold uX
  rw [hlen, kW]
  dsimp only
  rw [hx]
  dsimp only
  rw [gK, gV, ht, hL, hx, bsm (a := x), bsm (a := x)]
  rcases hT with ⟨h1, _⟩ | ⟨h1, h2⟩ | ⟨h1, h2, _, h3⟩ | ⟨h1, h2⟩ | ⟨h1, h2⟩
  ·have e2 : ¬ x.Op = 2 := by omega
   have e3 : ¬ x.Op = 3 := by omega
   have e5 : ¬ x.Op = 5 := by omega
   have e4 : ¬ x.Op = 4 := by omega
   exact ⟨0, ⟨⟨by omega, by omega⟩, by unfold kZ; rw [if_neg e2, if_neg e3, if_neg e5, if_neg e4]⟩, by rw [if_neg e2, if_neg e3, if_neg e5, if_neg e4, bsm], by rw [if_neg e2, if_neg e3, if_neg e5, if_neg e4, bsm]⟩
  ·have e2 : ¬ x.Op = 2 := by omega
   have e4 : ¬ x.Op = 4 := by omega
   obtain ⟨a, b, hab⟩ : ∃ a b, x.Kids = [a, b] := by
    match hq : x.Kids, h2 with
    | [a, b], _ => exact ⟨a, b, rfl⟩
   have i0 : idx x.Kids 0 = some a := by rw [hab]; rfl
   have i1 : idx x.Kids 1 = some b := by rw [hab]; rfl
   have hs : subs p x e = [(a, e), (b, e)] := by rw [subs, if_neg e4, hab]; rfl
   rw [hs] at hlen kid
   rw [hs]
   rw [List.flatMap_cons, List.flatMap_cons, List.flatMap_nil, List.append_nil, List.length_append] at hlen
   rw [List.flatMap_cons, List.flatMap_cons, List.flatMap_nil, List.append_nil, List.length_append]
   obtain ⟨ra, ⟨a1, ae⟩, a2, a3⟩ := kid (f + 1) (f' + 1) (by omega) (by omega) _ (List.mem_cons_self ..)
   obtain ⟨rb, ⟨b1, be⟩, b2, b3⟩ := kid (f + 1) (f' + 1) (by omega) (by omega) _ (List.mem_cons_of_mem _ (List.mem_cons_self ..))
   dsimp only at a2 a3 b2 b3
   rw [if_neg e2, if_neg e2]
   by_cases e3 : x.Op = 3
   ·refine ⟨ra + rb, ⟨⟨by omega, by omega⟩, by unfold kZ; rw [if_neg e2, if_pos e3, iU i0, iU i1, ae, be]⟩, ?_, ?_⟩
    ·rw [if_pos e3, i0, bsm, a2, bsm, i1, bsm, b2, bsm, aV (by omega), bsm, bsm, bsm]
    ·rw [if_pos e3, i0, bsm, a3, bsm, i1, bsm, b3, bsm, aV (by omega), bsm, bsm, bsm]
   ·have e5 : x.Op = 5 := by omega
    refine ⟨min ra rb, ⟨⟨by omega, by omega⟩, by unfold kZ; rw [if_neg e2, if_neg e3, if_pos e5, iU i0, iU i1, ae, be]⟩, ?_, ?_⟩
    ·rw [if_neg e3, if_pos e5, i0, bsm, a2, bsm, i1, bsm, b2, bsm, bsm, bsm]
    ·rw [if_neg e3, if_pos e5, i0, bsm, a3, bsm, i1, bsm, b3, bsm, bsm, bsm]
  ·obtain ⟨⟨g, g1, g2⟩, ⟨l, l1, l2⟩⟩ := hown
   obtain ⟨o, hoe⟩ := dU hv.1 hv.2
   dsimp only at g1 g2 l1 l2
   have gg := g2 v
   rw [hoe, bsm] at gg
   have ll : idx l v = some (rc o) := by rw [l2]; exact aDN hoe
   rw [show kZ p (kW p v h) x e v = surW p x v o from by unfold kZ; rw [if_pos h1, hoe]; rfl]
   rw [if_pos h1, if_pos h1, g1, bsm (a := g), l1, bsm (a := l), ll, bsm (a := rc o)]
   by_cases hN : x.N = v
   ·rw [if_pos hN, if_pos hN]
    cases o with
    | none =>
     rw [gg, if_neg (show ¬ 0 ≤ (rc none).Def from by simp [rc])]
     exact ⟨0, ⟨⟨by omega, by omega⟩, rfl⟩, rfl, rfl⟩
    | some c =>
     obtain ⟨d, y, hd, hy⟩ := he _ _ hoe
     have hc0 := (fX hd).1
     rw [gg, if_pos (show 0 ≤ (rc (some c)).Def from hc0)]
     have hM : (chOf p c).elim 0 (·.Many) = y.Many := by unfold chOf; rw [hd, bsm, hy]; rfl
     show ∃ r, (_ ∧ r = (if x.N = v ∧ (chOf p c).elim 0 (·.Many) = (x.Args.length : Int) then (1 : Int) else 0)) ∧ (((qI t ⟨c.1, c.2⟩ n).bind _).bind _) = some r ∧ (((idx p.Defs c.1).bind fun y4 => (idx y4.Chans c.2).bind _).bind _) = some r
     rw [hM, qI, ht, hd, bsm, bsm, hy, bsm, bsm, hx, bsm, bsm, hy, bsm (a := y)]
     by_cases hm : y.Many = (x.Args.length : Int)
     ·rw [if_pos ⟨hN, hm⟩, decide_eq_true hm, if_pos hm]
      exact ⟨1, ⟨⟨by omega, by omega⟩, rfl⟩, rfl, rfl⟩
     ·rw [if_neg (fun q => hm q.2), decide_eq_false hm, if_neg hm]
      exact ⟨0, ⟨⟨by omega, by omega⟩, rfl⟩, rfl, rfl⟩
   ·rw [if_neg hN, if_neg hN]
    refine ⟨0, ⟨⟨by omega, by omega⟩, by cases o with | none => rfl | some c => exact (if_neg (fun q => hN q.1)).symm⟩, ?_, rfl⟩
    cases (g.get v).isSome <;> rfl
  ·have e2 : ¬ x.Op = 2 := by omega
   have e3 : ¬ x.Op = 3 := by omega
   have e5 : ¬ x.Op = 5 := by omega
   have e4 : ¬ x.Op = 4 := by omega
   exact ⟨0, ⟨⟨by omega, by omega⟩, by unfold kZ; rw [if_neg e2, if_neg e3, if_neg e5, if_neg e4]⟩, by rw [if_neg e2, if_neg e3, if_neg e5, if_neg e4, bsm], by rw [if_neg e2, if_neg e3, if_neg e5, if_neg e4, bsm]⟩
  ·have e2 : ¬ x.Op = 2 := by omega
   have e3 : ¬ x.Op = 3 := by omega
   have e5 : ¬ x.Op = 5 := by omega
   have hT' : okT p x 0 := .inr (.inr (.inr (.inr ⟨h1, h2⟩)))
   obtain ⟨_, _, d, hd, _⟩ := qJ hT' h1
   obtain ⟨r, r1, r2, r3⟩ := aEf (t := t) (L := L) (p := p) (h := h) ht hL (v := v) (f := f) (f' := f') (n := n) (e := e) (x := x) (z := 0) (by omega) (by omega) hx hT' h1 hB0 (kid f f' (by omega) (by omega)) hd
   rw [hlen] at r1
   refine ⟨r, ⟨r1.1, by unfold kZ; rw [if_neg e2, if_neg e3, if_neg e5, if_pos h1, hd]; exact r1.2⟩, ?_, ?_⟩
   ·rw [if_neg e2, if_neg e3, if_neg e5, if_pos h1, r2, bsm, bsm, bsm]
   ·rw [if_neg e2, if_neg e3, if_neg e5, if_pos h1, r3, bsm, bsm, bsm]
end Go.Proofs.YtmnbfgeljmhekaaGreat
set_option maxRecDepth 100000
namespace Go.Proofs.YtmnbfgeljmhekaaGreat
open Go.SX Go.SW Go.Dt
theorem aFa {P : Int → Int → Bool → Bool} {w0 : Int × Int × Bool → Option Bool} (hw : ∀ x, w0 x = some (P x.1 x.2.1 x.2.2)) {once : Bool} {a b : List Int} (suf : List Int) : ∀ (pre pre' suf' : List Int) (k : Nat), a = pre ++ suf → b = pre' ++ suf' → pre.length = pre'.length → suf.length = suf'.length → suf.length < k → pre.length + suf.length ≤ 3000000 →
  lV a b once w0 k pre.length = some (if (suf.zip suf').all (fun q => P q.1 q.2 once) = true then .inl () else .inr false) := by
 induction suf with
 | nil =>
  intro pre pre' suf' k ha hb hl hs hk hB
  obtain _ | k := k
  ·omega
  rw [lV, if_neg (show ¬ (pre.length : Int) < (a.length : Int) from by rw [ha]; simp)]; rfl
 | cons y suf ih =>
  intro pre pre' suf' k ha hb hl hs hk hB
  obtain _ | k := k
  ·omega
  obtain _ | ⟨z, suf'⟩ := suf'
  ·cases hs
  simp only [List.length_cons] at hk hB hs
  rw [lV, if_pos (show (pre.length : Int) < (a.length : Int) from by rw [ha]; exact cC pre suf y), show idx a (pre.length : Int) = some y from by rw [ha]; exact bX pre suf y, bsm, show idx b (pre.length : Int) = some z from by rw [hb, hl]; exact bX pre' suf' z, bsm, hw, bsm]
  dsimp only
  rw [List.zip_cons_cons, List.all_cons]
  dsimp only
  cases P y z once with
  | false => rfl
  | true =>
   rw [cond_true, Bool.true_and, aV (by omega), bsm, bT pre y]
   exact ih (pre ++ [y]) (pre' ++ [z]) suf' k (by rw [ha]; exact cA pre suf y) (by rw [hb]; exact cA pre' suf' z) (by simp; omega) (by omega) (by omega) (by simp; omega)
theorem aBr {P : Int → Int → Bool → Bool} {w0 : Int × Int × Bool → Option Bool} (hw : ∀ x, w0 x = some (P x.1 x.2.1 x.2.2)) {once : Bool} {a b : List Int} {fuel : Nat} (h : a.length = b.length) (hf : a.length < fuel) (hB : a.length ≤ 3000000) : rG fuel a b once w0 = some ((a.zip b).all fun q => P q.1 q.2 once) := by
 have e := aFa hw (once := once) (a := a) (b := b) a [] [] b fuel rfl rfl rfl h hf (by simp; omega)
 rw [rG, show lV a b once w0 fuel 0 = _ from e, bsm]
 cases (a.zip b).all fun q => P q.1 q.2 once <;> rfl
structure Sh2 (x y : UsageDef) : Prop where
 chans : x.Chans.length = y.Chans.length
 rules : x.Rules.length = y.Rules.length
 args : x.Args.length = y.Args.length
 each : ∀ q ∈ x.Args.zip y.Args, q.1.length = q.2.length
structure SmU (x : UsageDef) : Prop where
 chans : x.Chans.length ≤ 2000000
 rules : x.Rules.length ≤ 2000000
 args : x.Args.length ≤ 2000000
 each : ∀ a ∈ x.Args, a.length ≤ 2000000
def kz (P : Int → Int → Bool → Bool) (x y : UsageDef) : Bool := (x.Chans.zip y.Chans).all (fun q => P q.1 q.2 true) && ((x.Rules.zip y.Rules).all (fun q => P q.1 q.2 false) && (x.Args.zip y.Args).all fun q => (q.1.zip q.2).all fun q => P q.1 q.2 false)
theorem aG0 {P : Int → Int → Bool → Bool} {w0 : Int × Int × Bool → Option Bool} (hw : ∀ x, w0 x = some (P x.1 x.2.1 x.2.2)) {A B : List UsageDef} {i : Int} {x y : UsageDef} (hx : idx A i = some x) (hy : idx B i = some y) (suf : List (List Int)) : ∀ (pre pre' suf' : List (List Int)) (k : Nat), x.Args = pre ++ suf → y.Args = pre' ++ suf' → pre.length = pre'.length → suf.length = suf'.length → suf.length < k → pre.length + suf.length ≤ 3000000 → (∀ q ∈ suf.zip suf', q.1.length = q.2.length) → (∀ a ∈ suf, a.length ≤ 2000000) →
  nH F A B w0 i x k pre.length = some (if (suf.zip suf').all (fun q => (q.1.zip q.2).all fun q => P q.1 q.2 false) = true then .inl () else .inr (.inr false)) := by
 induction suf with
 | nil =>
  intro pre pre' suf' k ha hb hl hs hk hB _ _
  obtain _ | k := k
  ·omega
  rw [nH, if_neg (show ¬ (pre.length : Int) < (x.Args.length : Int) from by rw [ha]; simp)]; rfl
 | cons a suf ih =>
  intro pre pre' suf' k ha hb hl hs hk hB he hm
  obtain _ | k := k
  ·omega
  obtain _ | ⟨b, suf'⟩ := suf'
  ·cases hs
  simp only [List.length_cons] at hk hB hs
  have hab : a.length = b.length := he (a, b) (List.mem_cons_self ..)
  have hma := hm a (List.mem_cons_self ..)
  rw [nH, if_pos (show (pre.length : Int) < (x.Args.length : Int) from by rw [ha]; exact cC pre suf a), hx, bsm, show idx x.Args (pre.length : Int) = some a from by rw [ha]; exact bX pre suf a, bsm, hy, bsm, show idx y.Args (pre.length : Int) = some b from by rw [hb, hl]; exact bX pre' suf' b, bsm, aBr hw hab (by show _ < 4000000; omega) (by omega), bsm, List.zip_cons_cons, List.all_cons]
  dsimp only
  cases (a.zip b).all fun q => P q.1 q.2 false with
  | false => rfl
  | true =>
   rw [cond_true, Bool.true_and, aV (by omega), bsm, bT pre a]
   exact ih (pre ++ [a]) (pre' ++ [b]) suf' k (by rw [ha]; exact cA pre suf a) (by rw [hb]; exact cA pre' suf' b) (by simp; omega) (by omega) (by omega) (by simp; omega) (fun q hq => he q (List.mem_cons_of_mem _ hq)) (fun q hq => hm q (List.mem_cons_of_mem _ hq))
theorem aG5 {P : Int → Int → Bool → Bool} {w0 : Int × Int × Bool → Option Bool} (hw : ∀ x, w0 x = some (P x.1 x.2.1 x.2.2)) {A B : List UsageDef} (suf : List UsageDef) : ∀ (pre pre' suf' : List UsageDef) (k : Nat), A = pre ++ suf → B = pre' ++ suf' → pre.length = pre'.length → suf.length = suf'.length → suf.length < k → pre.length + suf.length ≤ 3000000 → (∀ q ∈ suf.zip suf', Sh2 q.1 q.2) → (∀ a ∈ suf, SmU a) →
  lL F A B w0 k pre.length = some (if (suf.zip suf').all (fun q => kz P q.1 q.2) = true then .inl () else .inr false) := by
 induction suf with
 | nil =>
  intro pre pre' suf' k ha hb hl hs hk hB _ _
  obtain _ | k := k
  ·omega
  rw [lL, if_neg (show ¬ (pre.length : Int) < (A.length : Int) from by rw [ha]; simp)]; rfl
 | cons a suf ih =>
  intro pre pre' suf' k ha hb hl hs hk hB he hm
  obtain _ | k := k
  ·omega
  obtain _ | ⟨b, suf'⟩ := suf'
  ·cases hs
  simp only [List.length_cons] at hk hB hs
  have s2 := he (a, b) (List.mem_cons_self ..)
  have sm := hm a (List.mem_cons_self ..)
  have s1 := s2.chans; have s3 := s2.rules
  dsimp only at s1 s3
  have hx : idx A (pre.length : Int) = some a := by rw [ha]; exact bX pre suf a
  have hy : idx B (pre.length : Int) = some b := by rw [hb, hl]; exact bX pre' suf' b
  have b1 := sm.chans; have b2 := sm.rules; have b3 := sm.args
  have l2 := aG0 hw hx hy a.Args [] [] b.Args F rfl rfl rfl s2.args (by show _ < 4000000; omega) (by simp; omega) s2.each sm.each
  rw [lL, if_pos (show (pre.length : Int) < (A.length : Int) from by rw [ha]; exact cC pre suf a), hx, bsm (a := a), hy, bsm (a := b), aBr hw s1 (by show _ < 4000000; omega) (by omega), bsm, List.zip_cons_cons, List.all_cons]
  dsimp only
  cases q1 : (a.Chans.zip b.Chans).all fun q => P q.1 q.2 true with
  | false =>
   have e : kz P a b = false := by unfold kz; rw [q1, Bool.false_and]
   rw [e]; rfl
  | true =>
   rw [Bool.not_true, cond_false, bsm (a := a), bsm (a := b), aBr hw s3 (by show _ < 4000000; omega) (by omega), bsm]
   cases q2 : (a.Rules.zip b.Rules).all fun q => P q.1 q.2 false with
   | false =>
    have e : kz P a b = false := by unfold kz; rw [q1, q2, Bool.false_and, Bool.and_false]
    rw [e]; rfl
   | true =>
    rw [cond_true, bsm (a := a), show nH F A B w0 pre.length a F 0 = _ from l2]
    cases q3 : (a.Args.zip b.Args).all fun q => (q.1.zip q.2).all fun q => P q.1 q.2 false with
    | false =>
     have e : kz P a b = false := by unfold kz; rw [q1, q2, q3]; rfl
     rw [e]; rfl
    | true =>
     have e : kz P a b = true := by unfold kz; rw [q1, q2, q3]; rfl
     rw [e, if_pos rfl, bsm]
     dsimp only
     rw [Bool.true_and, aV (by omega), bsm, bT pre a]
     exact ih (pre ++ [a]) (pre' ++ [b]) suf' k (by rw [ha]; exact cA pre suf a) (by rw [hb]; exact cA pre' suf' b) (by simp; omega) (by omega) (by omega) (by simp; omega) (fun q hq => he q (List.mem_cons_of_mem _ hq)) (fun q hq => hm q (List.mem_cons_of_mem _ hq))
theorem aDr {P : Int → Int → Bool → Bool} {w0 : Int × Int × Bool → Option Bool} (hw : ∀ x, w0 x = some (P x.1 x.2.1 x.2.2)) {A B : List UsageDef} (hl : A.length = B.length) (hB : A.length ≤ 2000000) (hs : ∀ q ∈ A.zip B, Sh2 q.1 q.2) (hm : ∀ a ∈ A, SmU a) : qC F A B w0 = some ((A.zip B).all fun q => kz P q.1 q.2) := by
 have e := aG5 hw (A := A) (B := B) A [] [] B F rfl rfl rfl hl (by show _ < 4000000; omega) (by simp; omega) hs hm
 rw [qC, show lL F A B w0 F 0 = _ from e, bsm]
 cases (A.zip B).all fun q => kz P q.1 q.2 <;> rfl
end Go.Proofs.YtmnbfgeljmhekaaGreat
set_option maxRecDepth 100000
namespace Go.Proofs.YtmnbfgeljmhekaaGreat
open Go.SX Go.SW Go.Dt
def okK (once : Bool) (k : Int) : Bool := decide (1 ≤ k ∧ k ≤ 4) && (once || decide (k ≠ 2))
def eV (d : ScopeDef) (x : UsageDef) : Bool := decide (x.Chans.length = d.Chans.length ∧ x.Rules.length = d.Rules.length ∧ x.Args.length = d.Chans.length) && (d.Chans.zip x.Args).all fun q => decide ((q.2.length : Int) = q.1.Many)
def kin (x : UsageDef) : Bool := x.Chans.all (okK true) && (x.Rules.all (okK false) && x.Args.all fun a => a.all (okK false))
def iM (p : ScopeProg) (tab : List UsageDef) : Bool := decide (tab.length = p.Defs.length) && ((p.Defs.zip tab).all (fun q => eV q.1 q.2) && tab.all kin)
theorem tN {α : Type} {f : α × α → Bool} : ∀ a : List α, (a.zip a).all f = a.all fun x => f (x, x)
 | [] => rfl
 | x :: a => by rw [List.zip_cons_cons, List.all_cons, List.all_cons, tN a]
theorem aAG {α : Type} : ∀ {a : List α} {q : α × α}, q ∈ a.zip a → q.1 = q.2
 | x :: a, q, h => by
  rw [List.zip_cons_cons] at h
  cases h with
  | head => rfl
  | tail _ h => exact aAG h
theorem aBw {α β : Type} {f : β → Bool} : ∀ (a : List α) (b : List β), a.length = b.length → (a.zip b).all (fun q => f q.2) = b.all f
 | [], [], _ => rfl
 | x :: a, y :: b, h => by rw [List.zip_cons_cons, List.all_cons, List.all_cons, aBw a b (by simpa using h)]
theorem aBU {α : Type} {f g : α → Bool} : ∀ a : List α, a.all (fun x => f x && g x) = (a.all f && a.all g)
 | [] => rfl
 | x :: a => by rw [List.all_cons, List.all_cons, List.all_cons, aBU a]; cases f x <;> cases g x <;> cases a.all f <;> rfl
theorem fine1_eq (x : Int × Int × Bool) : uA x.1 x.2.1 x.2.2 = some (okK x.2.2 x.1) := by
 obtain ⟨a, b, c⟩ := x
 unfold uA okK
 dsimp only
 by_cases h1 : 1 ≤ a
 ·by_cases h2 : a ≤ 4
  ·rw [if_pos h1, if_pos h2, decide_eq_true (show 1 ≤ a ∧ a ≤ 4 from ⟨h1, h2⟩)]
   cases c <;> rfl
  ·rw [if_pos h1, if_neg h2, decide_eq_false (show ¬ (1 ≤ a ∧ a ≤ 4) from fun q => h2 q.2)]; rfl
 ·rw [if_neg h1, decide_eq_false (show ¬ (1 ≤ a ∧ a ≤ 4) from fun q => h1 q.1)]; rfl
theorem aFn {d : ScopeDef} {x : UsageDef} (suf : List (List Int)) : ∀ (pre : List (List Int)) (pre' suf' : List ScopeChan) (k : Nat), x.Args = pre ++ suf → d.Chans = pre' ++ suf' → pre.length = pre'.length → suf.length = suf'.length → suf.length < k → pre.length + suf.length ≤ 3000000 →
  mJ d x k pre.length = some (if (suf'.zip suf).all (fun q => decide ((q.2.length : Int) = q.1.Many)) = true then .inl () else .inr (.inr false)) := by
 induction suf with
 | nil =>
  intro pre pre' suf' k ha hb hl hs hk hB
  obtain _ | k := k
  ·omega
  obtain _ | ⟨z, suf'⟩ := suf'
  ·rw [mJ, if_neg (show ¬ (pre.length : Int) < (x.Args.length : Int) from by rw [ha]; simp)]; rfl
  ·cases hs
 | cons a suf ih =>
  intro pre pre' suf' k ha hb hl hs hk hB
  obtain _ | k := k
  ·omega
  obtain _ | ⟨c, suf'⟩ := suf'
  ·cases hs
  simp only [List.length_cons] at hk hB hs
  rw [mJ, if_pos (show (pre.length : Int) < (x.Args.length : Int) from by rw [ha]; exact cC pre suf a), show idx x.Args (pre.length : Int) = some a from by rw [ha]; exact bX pre suf a, bsm, show idx d.Chans (pre.length : Int) = some c from by rw [hb, hl]; exact bX pre' suf' c, bsm, List.zip_cons_cons, List.all_cons]
  dsimp only
  by_cases h : (a.length : Int) = c.Many
  ·rw [if_neg (show ¬ ((a.length : Int) ≠ c.Many) from fun q => q h), decide_eq_true h, Bool.true_and, aV (by omega), bsm, bT pre a]
   exact ih (pre ++ [a]) (pre' ++ [c]) suf' k (by rw [ha]; exact cA pre suf a) (by rw [hb]; exact cA pre' suf' c) (by simp; omega) (by omega) (by omega) (by simp; omega)
  ·rw [if_pos (show (a.length : Int) ≠ c.Many from h), decide_eq_false h]; rfl
theorem aG2 {t : Usage_text} {tab : List UsageDef} (suf : List ScopeDef) : ∀ (pre : List ScopeDef) (pre' suf' : List UsageDef) (k : Nat), t.ScopeProg.Defs = pre ++ suf → tab = pre' ++ suf' → pre.length = pre'.length → suf.length = suf'.length → suf.length < k → pre.length + suf.length ≤ 3000000 → (∀ a ∈ suf', SmU a) →
  mB F t tab k pre.length = some (if (suf.zip suf').all (fun q => eV q.1 q.2) = true then .inl () else .inr false) := by
 induction suf with
 | nil =>
  intro pre pre' suf' k ha hb hl hs hk hB _
  obtain _ | k := k
  ·omega
  rw [mB, if_neg (show ¬ (pre.length : Int) < (t.ScopeProg.Defs.length : Int) from by rw [ha]; simp)]; rfl
 | cons d suf ih =>
  intro pre pre' suf' k ha hb hl hs hk hB hm
  obtain _ | k := k
  ·omega
  obtain _ | ⟨x, suf'⟩ := suf'
  ·cases hs
  simp only [List.length_cons] at hk hB hs
  have sm := hm x (List.mem_cons_self ..)
  have b3 := sm.args
  rw [mB, if_pos (show (pre.length : Int) < (t.ScopeProg.Defs.length : Int) from by rw [ha]; exact cC pre suf d), show idx t.ScopeProg.Defs (pre.length : Int) = some d from by rw [ha]; exact bX pre suf d, bsm (a := d), show idx tab (pre.length : Int) = some x from by rw [hb, hl]; exact bX pre' suf' x, bsm (a := x), List.zip_cons_cons, List.all_cons]
  dsimp only
  by_cases h1 : (x.Chans.length : Int) = d.Chans.length
  ·rw [if_neg (show ¬ ((x.Chans.length : Int) ≠ d.Chans.length) from fun q => q h1)]
   by_cases h2 : (x.Rules.length : Int) = d.Rules.length
   ·rw [if_neg (show ¬ ((x.Rules.length : Int) ≠ d.Rules.length) from fun q => q h2)]
    by_cases h3 : (x.Args.length : Int) = d.Chans.length
    ·rw [if_neg (show ¬ ((x.Args.length : Int) ≠ d.Chans.length) from fun q => q h3), show mJ d x F 0 = _ from aFn x.Args [] [] d.Chans F rfl rfl rfl (by omega) (by show _ < 4000000; omega) (by simp; omega)]
     cases q1 : (d.Chans.zip x.Args).all fun q => decide ((q.2.length : Int) = q.1.Many) with
     | false =>
      have e : eV d x = false := by unfold eV; rw [q1, Bool.and_false]
      rw [e]; rfl
     | true =>
      have e : eV d x = true := by unfold eV; rw [q1, decide_eq_true (by omega)]; rfl
      rw [e, if_pos rfl, bsm]
      dsimp only
      rw [Bool.true_and, aV (by omega), bsm, bT pre d]
      exact ih (pre ++ [d]) (pre' ++ [x]) suf' k (by rw [ha]; exact cA pre suf d) (by rw [hb]; exact cA pre' suf' x) (by simp; omega) (by omega) (by omega) (by simp; omega) (fun q hq => hm q (List.mem_cons_of_mem _ hq))
    ·have e : eV d x = false := by unfold eV; rw [decide_eq_false (by omega), Bool.false_and]
     rw [if_pos (show (x.Args.length : Int) ≠ d.Chans.length from h3), e]; rfl
   ·have e : eV d x = false := by unfold eV; rw [decide_eq_false (by omega), Bool.false_and]
    rw [if_pos (show (x.Rules.length : Int) ≠ d.Rules.length from h2), e]; rfl
  ·have e : eV d x = false := by unfold eV; rw [decide_eq_false (by omega), Bool.false_and]
   rw [if_pos (show (x.Chans.length : Int) ≠ d.Chans.length from h1), e]; rfl
theorem kz_self {x : UsageDef} : kz (fun k _ once => okK once k) x x = kin x := by
 unfold kz kin
 rw [tN, tN, tN]
 dsimp only
 have : (fun a : List Int => (a.zip a).all fun q => okK false q.1) = fun a => a.all (okK false) := by
  funext a; rw [tN]
 rw [this]
theorem fine_eq {t : Usage_text} {tab : List UsageDef} (hl : t.ScopeProg.Defs.length ≤ 2000000) (hm : ∀ a ∈ tab, SmU a) : uN F t tab = some (iM t.ScopeProg tab) := by
 rw [uN, iM]
 by_cases h : (tab.length : Int) = t.ScopeProg.Defs.length
 ·rw [if_neg (show ¬ ((tab.length : Int) ≠ t.ScopeProg.Defs.length) from fun q => q h), decide_eq_true (by omega), Bool.true_and, show mB F t tab F 0 = _ from aG2 t.ScopeProg.Defs [] [] tab F rfl rfl rfl (by omega) (by show _ < 4000000; omega) (by simp; omega) hm, bsm]
  cases (t.ScopeProg.Defs.zip tab).all fun q => eV q.1 q.2 with
  | false => rfl
  | true =>
   rw [if_pos rfl]
   dsimp only
   rw [aDr (P := fun k _ once => okK once k) fine1_eq rfl (by omega) (fun q hq => by rw [aAG hq]; exact ⟨rfl, rfl, rfl, fun q' h' => by rw [aAG h']⟩) hm, bsm, tN]
   have : (fun x : UsageDef => kz (fun k _ once => okK once k) x x) = kin := by funext x; exact kz_self
   rw [this]; rfl
 ·rw [if_pos (show (tab.length : Int) ≠ t.ScopeProg.Defs.length from h), decide_eq_false (by omega)]; rfl
theorem rk_loop {once : Bool} {a : List Int} (suf : List Int) : ∀ (pre : List Int) (k : Nat), a = pre ++ suf → suf.length < k → pre.length + suf.length ≤ 3000000 → kM a once k pre.length = some (if suf.all (okK once) = true then .inl () else .inr false) := by
 induction suf with
 | nil =>
  intro pre k ha hk hB
  obtain _ | k := k
  ·omega
  rw [kM, if_neg (show ¬ (pre.length : Int) < (a.length : Int) from by rw [ha]; simp)]; rfl
 | cons y suf ih =>
  intro pre k ha hk hB
  obtain _ | k := k
  ·omega
  simp only [List.length_cons] at hk hB
  have next : kM a once k ((pre.length : Int) + 1) = some (if suf.all (okK once) = true then .inl () else .inr false) := by
   rw [bT pre y]; exact ih (pre ++ [y]) k (by rw [ha]; exact cA pre suf y) (by omega) (by simp; omega)
  rw [kM, if_pos (show (pre.length : Int) < (a.length : Int) from by rw [ha]; exact cC pre suf y), show idx a (pre.length : Int) = some y from by rw [ha]; exact bX pre suf y, bsm (a := y), List.all_cons]
  by_cases h1 : y < 1
  ·have e : okK once y = false := by unfold okK; rw [decide_eq_false (by omega)]; rfl
   rw [if_pos h1, e]; rfl
  ·rw [if_neg h1, bsm (a := y)]
   by_cases h2 : 4 < y
   ·have e : okK once y = false := by unfold okK; rw [decide_eq_false (by omega)]; rfl
    rw [if_pos h2, e]; rfl
   ·rw [if_neg h2, bsm (a := y)]
    by_cases h3 : y = 2
    ·rw [if_pos h3]
     cases once with
     | true =>
      have e : okK true y = true := by unfold okK; rw [decide_eq_true (by omega)]; rfl
      rw [e, cond_true, bsm]
      dsimp only
      rw [Bool.true_and, aV (by omega), bsm]; exact next
     | false =>
      have e : okK false y = false := by unfold okK; rw [h3]; rfl
      rw [e]; rfl
    ·have e : okK once y = true := by unfold okK; rw [decide_eq_true (by omega), decide_eq_true (show y ≠ 2 from h3), Bool.or_true]; rfl
     rw [if_neg h3, e, bsm]
     dsimp only
     rw [Bool.true_and, aV (by omega), bsm]; exact next
theorem rk_eq {once : Bool} {a : List Int} (h : a.length ≤ 2000000) : rZ F a once = some (a.all (okK once)) := by
 have e := rk_loop (once := once) (a := a) a [] F rfl (by show _ < 4000000; omega) (by simp; omega)
 rw [rZ, show kM a once F 0 = _ from e, bsm]
 cases a.all (okK once) <;> rfl
def argK (q : ScopeChan × List Int) : Bool := decide ((q.2.length : Int) = q.1.Many) && q.2.all (okK false)
theorem rg2_loop {tab : List UsageDef} {i : Int} {d : ScopeDef} {x : UsageDef} (hi : idx tab i = some x) (suf : List ScopeChan) : ∀ (pre : List ScopeChan) (pre' suf' : List (List Int)) (k : Nat), d.Chans = pre ++ suf → x.Args = pre' ++ suf' → pre.length = pre'.length → suf.length = suf'.length → suf.length < k → pre.length + suf.length ≤ 3000000 → (∀ a ∈ suf', a.length ≤ 2000000) →
  mU F tab i d k pre.length = some (if (suf.zip suf').all argK = true then .inl () else .inr (.inr false)) := by
 induction suf with
 | nil =>
  intro pre pre' suf' k ha hb hl hs hk hB _
  obtain _ | k := k
  ·omega
  rw [mU, if_neg (show ¬ (pre.length : Int) < (d.Chans.length : Int) from by rw [ha]; simp)]; rfl
 | cons c suf ih =>
  intro pre pre' suf' k ha hb hl hs hk hB hm
  obtain _ | k := k
  ·omega
  obtain _ | ⟨a, suf'⟩ := suf'
  ·cases hs
  simp only [List.length_cons] at hk hB hs
  have ix : idx x.Args (pre.length : Int) = some a := by rw [hb, hl]; exact bX pre' suf' a
  rw [mU, if_pos (show (pre.length : Int) < (d.Chans.length : Int) from by rw [ha]; exact cC pre suf c), hi, bsm (a := x), ix, bsm (a := a), show idx d.Chans (pre.length : Int) = some c from by rw [ha]; exact bX pre suf c, bsm (a := c), bsm (a := x), ix, bsm (a := a), rk_eq (hm a (List.mem_cons_self ..)), bsm, List.zip_cons_cons, List.all_cons]
  by_cases h : (a.length : Int) = c.Many
  ·rw [if_neg (show ¬ ((a.length : Int) ≠ c.Many) from fun q => q h)]
   cases q1 : a.all (okK false) with
   | false =>
    have e : argK (c, a) = false := by unfold argK; rw [q1, Bool.and_false]
    rw [e]; rfl
   | true =>
    have e : argK (c, a) = true := by unfold argK; rw [q1, decide_eq_true h]; rfl
    rw [e, bsm (a := true), cond_true, Bool.true_and, aV (by omega), bsm, bT pre c]
    exact ih (pre ++ [c]) (pre' ++ [a]) suf' k (by rw [ha]; exact cA pre suf c) (by rw [hb]; exact cA pre' suf' a) (by simp; omega) (by omega) (by omega) (by simp; omega) (fun q hq => hm q (List.mem_cons_of_mem _ hq))
  ·have e : argK (c, a) = false := by unfold argK; rw [decide_eq_false h]; rfl
   rw [if_pos (show (a.length : Int) ≠ c.Many from h), e]; rfl
end Go.Proofs.YtmnbfgeljmhekaaGreat
set_option maxRecDepth 100000
namespace Go.Proofs.YtmnbfgeljmhekaaGreat
open Go.SX Go.SW Go.Dt
theorem argK_all : ∀ (a : List ScopeChan) (b : List (List Int)), a.length = b.length → (a.zip b).all argK = ((a.zip b).all (fun q => decide ((q.2.length : Int) = q.1.Many)) && b.all fun l => l.all (okK false)) := fun a b h => by
 rw [← aBw a b h, ← aBU]; rfl
theorem rg3_loop {p : ScopeProg} {tab : List UsageDef} (suf : List ScopeDef) : ∀ (pre : List ScopeDef) (pre' suf' : List UsageDef) (k : Nat), p.Defs = pre ++ suf → tab = pre' ++ suf' → pre.length = pre'.length → suf.length = suf'.length → suf.length < k → pre.length + suf.length ≤ 3000000 → (∀ a ∈ suf', SmU a) →
  nW F p tab k pre.length = some (if (suf.zip suf').all (fun q => eV q.1 q.2 && kin q.2) = true then .inl () else .inr false) := by
 induction suf with
 | nil =>
  intro pre pre' suf' k ha hb hl hs hk hB _
  obtain _ | k := k
  ·omega
  obtain _ | ⟨z, suf'⟩ := suf'
  ·rw [nW, if_neg (show ¬ (pre.length : Int) < (tab.length : Int) from by rw [hb]; simp; omega)]; rfl
  ·cases hs
 | cons d suf ih =>
  intro pre pre' suf' k ha hb hl hs hk hB hm
  obtain _ | k := k
  ·omega
  obtain _ | ⟨x, suf'⟩ := suf'
  ·cases hs
  simp only [List.length_cons] at hk hB hs
  have sm := hm x (List.mem_cons_self ..)
  have b3 := sm.args
  have hi : idx tab (pre.length : Int) = some x := by rw [hb, hl]; exact bX pre' suf' x
  rw [nW, if_pos (show (pre.length : Int) < (tab.length : Int) from by rw [hb]; simp; omega), show idx p.Defs (pre.length : Int) = some d from by rw [ha]; exact bX pre suf d, bsm (a := d), hi, bsm (a := x), List.zip_cons_cons, List.all_cons]
  dsimp only
  by_cases h1 : (x.Chans.length : Int) = d.Chans.length
  ·rw [if_neg (show ¬ ((x.Chans.length : Int) ≠ d.Chans.length) from fun q => q h1), bsm (a := x)]
   by_cases h2 : (x.Rules.length : Int) = d.Rules.length
   ·rw [if_neg (show ¬ ((x.Rules.length : Int) ≠ d.Rules.length) from fun q => q h2), bsm (a := x)]
    by_cases h3 : (x.Args.length : Int) = d.Chans.length
    ·rw [if_neg (show ¬ ((x.Args.length : Int) ≠ d.Chans.length) from fun q => q h3), bsm (a := x), rk_eq sm.chans, bsm (a := x.Chans.all (okK true))]
     have hz := argK_all d.Chans x.Args (by omega)
     cases q1 : x.Chans.all (okK true) with
     | false =>
      have e : (eV d x && kin x) = false := by unfold kin; rw [q1, Bool.false_and, Bool.and_false]
      rw [e]; rfl
     | true =>
      rw [Bool.not_true, cond_false, bsm (a := x), rk_eq sm.rules, bsm (a := x.Rules.all (okK false))]
      cases q2 : x.Rules.all (okK false) with
      | false =>
       have e : (eV d x && kin x) = false := by unfold kin; rw [q1, q2]; simp
       rw [e]; rfl
      | true =>
       rw [cond_true, show mU F tab pre.length d F 0 = _ from rg2_loop hi d.Chans [] [] x.Args F rfl rfl rfl (by omega) (by show _ < 4000000; omega) (by simp; omega) sm.each]
       have e : (eV d x && kin x) = (d.Chans.zip x.Args).all argK := by
        unfold eV kin; rw [q1, q2, hz, decide_eq_true (by omega)]; rfl
       rw [e]
       cases (d.Chans.zip x.Args).all argK with
       | false => rfl
       | true =>
        rw [if_pos rfl, bsm]
        dsimp only
        rw [Bool.true_and, aV (by omega), bsm, bT pre d]
        exact ih (pre ++ [d]) (pre' ++ [x]) suf' k (by rw [ha]; exact cA pre suf d) (by rw [hb]; exact cA pre' suf' x) (by simp; omega) (by omega) (by omega) (by simp; omega) (fun q hq => hm q (List.mem_cons_of_mem _ hq))
    ·have e : eV d x = false := by unfold eV; rw [decide_eq_false (by omega), Bool.false_and]
     rw [if_pos (show (x.Args.length : Int) ≠ d.Chans.length from h3), e]; rfl
   ·have e : eV d x = false := by unfold eV; rw [decide_eq_false (by omega), Bool.false_and]
    rw [if_pos (show (x.Rules.length : Int) ≠ d.Rules.length from h2), e]; rfl
  ·have e : eV d x = false := by unfold eV; rw [decide_eq_false (by omega), Bool.false_and]
   rw [if_pos (show (x.Chans.length : Int) ≠ d.Chans.length from h1), e]; rfl
theorem good_eq {p : ScopeProg} {tab : List UsageDef} (hl : p.Defs.length ≤ 2000000) (hm : ∀ a ∈ tab, SmU a) : wS F p tab = some (iM p tab) := by
 rw [wS, iM]
 by_cases h : (tab.length : Int) = p.Defs.length
 ·rw [if_neg (show ¬ ((tab.length : Int) ≠ p.Defs.length) from fun q => q h), decide_eq_true (by omega), Bool.true_and, show nW F p tab F 0 = _ from rg3_loop p.Defs [] [] tab F rfl rfl rfl (by omega) (by show _ < 4000000; omega) (by simp; omega) hm, bsm, aBU, aBw p.Defs tab (by omega)]
  cases ((p.Defs.zip tab).all fun q => eV q.1 q.2) && tab.all kin <;> rfl
 ·rw [if_pos (show (tab.length : Int) ≠ p.Defs.length from h), decide_eq_false (by omega)]; rfl
end Go.Proofs.YtmnbfgeljmhekaaGreat
set_option maxRecDepth 100000
namespace Go.Proofs.YtmnbfgeljmhekaaGreat
open Go.SX Go.SW Go.Dt
variable {p : ScopeProg}
theorem ln_sub : ∀ (h : Nat) (q : Int × E), Tr p h q → ∀ b ∈ LN p h q, ∃ h', h' ≤ h ∧ Tr p h' b ∧ (LN p h' b).length ≤ (LN p h q).length ∧ ∀ c ∈ LN p h' b, c ∈ LN p h q
 | 0, q, hT, b, hb => hT.elim
 | h + 1, q, ⟨x, hx, h0, hT, hK⟩, b, hb => by
  have e : LN p (h + 1) q = q :: (subs p x q.2).flatMap (LN p h) := by simp only [LN, hx]
  rw [e] at hb ⊢
  cases hb with
  | head => exact ⟨h + 1, by omega, ⟨x, hx, h0, hT, hK⟩, by rw [e]; omega, fun c hc => by rw [e] at hc; exact hc⟩
  | tail _ hb =>
   obtain ⟨c, hc, hb⟩ := List.mem_flatMap.1 hb
   obtain ⟨h', a1, a2, a3, a4⟩ := ln_sub h c (hK c hc) b hb
   have := xJ (f := LN p h) hc
   exact ⟨h', by omega, a2, by rw [List.length_cons]; omega, fun d hd => List.mem_cons_of_mem _ (List.mem_flatMap.2 ⟨c, hc, a4 d hd⟩)⟩
theorem env_root : hE p (cP p).2 := fun i c hi => by cases List.eq_of_mem_replicate (eF hi)
theorem ln_env {h : Nat} {q : Int × E} (hT : Tr p h q) (he : hE p q.2) : ∀ b ∈ LN p h q, hE p b.2 := ln_all (fun _ _ _ h1 _ he => aBs h1 he) (fun _ _ _ _ h1 _ _ he => env_ru h1 he) h q hT he
theorem aBG {α β : Type} : ∀ {a : List α} {b : List β} {i : Nat} {x : α} {y : β}, a[i]? = some x → b[i]? = some y → (x, y) ∈ a.zip b
 | x :: a, y :: b, 0, u, v, h, k => by cases h; cases k; exact List.mem_cons_self ..
 | x :: a, y :: b, i + 1, u, v, h, k => List.mem_cons_of_mem _ (aBG (i := i) h k)
theorem good_ok {tab : List UsageDef} (h : iM p tab = true) : fO p tab := by
 unfold iM at h
 rw [Bool.and_eq_true, Bool.and_eq_true] at h
 obtain ⟨h1, h2, _⟩ := h
 refine ⟨of_decide_eq_true h1, fun i d x hd hx => ?_⟩
 have s := List.all_eq_true.1 h2 _ (aBG (cB hd) (cB hx))
 unfold eV at s
 rw [Bool.and_eq_true] at s
 obtain ⟨s1, s2⟩ := s
 have s1 := of_decide_eq_true s1
 exact ⟨s1.1, s1.2.1, s1.2.2, fun c ch a hc ha => of_decide_eq_true (List.all_eq_true.1 s2 _ (aBG (cB hc) (cB ha)))⟩
end Go.Proofs.YtmnbfgeljmhekaaGreat
set_option maxRecDepth 100000
namespace Go.Proofs.YtmnbfgeljmhekaaGreat
open Go.SX Go.SW Go.Dt
variable {p : ScopeProg}
def kc (l : List Int) (i : Int) : Int := cnt ((idx l i).getD 0)
def jZ (tab : List UsageDef) (d : Int) : List Int := (idx tab d).elim [] (·.Chans)
def gP (tab : List UsageDef) (d : Int) : List Int := (idx tab d).elim [] (·.Rules)
def LeT (t u : List UsageDef) : Prop := ∀ d i, kc (jZ t d) i ≤ kc (jZ u d) i ∧ kc (gP t d) i ≤ kc (gP u d) i ∧ ∀ c, kc (arOf t (d, c)) i ≤ kc (arOf u (d, c)) i
theorem LeT.rfl {t : List UsageDef} : LeT t t := fun _ _ => ⟨Int.le_refl _, Int.le_refl _, fun _ => Int.le_refl _⟩
theorem LeT.trans {t u w : List UsageDef} (h : LeT t u) (k : LeT u w) : LeT t w := fun d i => ⟨Int.le_trans (h d i).1 (k d i).1, Int.le_trans (h d i).2.1 (k d i).2.1, fun c => Int.le_trans ((h d i).2.2 c) ((k d i).2.2 c)⟩
theorem mul_mono {a b c d : Int} (ha : two a) (hb : two b) (hc : two c) (hd : two d) (h : a ≤ b) (k : c ≤ d) : a * c ≤ b * d := by
 rcases aAD ha with rfl | rfl | rfl <;> rcases aAD hb with rfl | rfl | rfl <;> unfold two at * <;> omega
theorem aCh {a b : Int} (ha : two a) (hb : two b) : two (min (a * b) 2) := aDe ha hb
theorem sR {ar ar' : Option (List Int)} {v : Int} (h : (ar = none ∧ ar' = none) ∨ ∃ a b, ar = some a ∧ ar' = some b ∧ ∀ i, kc a i ≤ kc b i) : ∀ (l : List ScopeExp) (i w w' : Int), two w → two w' → w ≤ w' → iA ar v l i w ≤ iA ar' v l i w' ∧ two (iA ar v l i w)
 | [], i, w, w', h1, h2, h3 => ⟨h3, h1⟩
 | e :: l, i, w, w', h1, h2, h3 => by
  rw [iA, iA]
  by_cases c1 : e.Op ≠ 2
  ·rw [if_pos c1, if_pos c1]; exact sR h l _ _ _ h1 h2 h3
  ·rw [if_neg c1, if_neg c1]
   by_cases c2 : e.N ≠ v
   ·rw [if_pos c2, if_pos c2]; exact sR h l _ _ _ h1 h2 h3
   ·rw [if_neg c2, if_neg c2]
    rcases h with ⟨rfl, rfl⟩ | ⟨a, b, rfl, rfl, hk⟩
    ·exact sR (.inl ⟨rfl, rfl⟩) l _ 2 2 (by unfold two; omega) (by unfold two; omega) (Int.le_refl _)
    ·have := hk i
     exact sR (.inr ⟨a, b, rfl, rfl, hk⟩) l _ _ _ (kI h1 (jB _)) (kI h2 (jB _)) (by unfold kc at this; unfold argW; dsimp only; omega)
theorem zN {c : Prop} [Decidable c] : two (if c then 1 else 0) := by unfold two; split <;> omega
theorem aGC {tab tab' : List UsageDef} (h : LeT tab tab') {x : ScopeNode} {e : E} {v : Int} : rH p tab x e v ≤ rH p tab' x e v ∧ two (rH p tab x e v) := by
 unfold rH
 split
 ·rename_i c _
  split
  ·exact sR (.inr ⟨_, _, rfl, rfl, fun i => (h c.1 i).2.2 c.2⟩) _ _ _ _ zN zN (Int.le_refl _)
  ·exact ⟨Int.le_refl _, by unfold two; omega⟩
 ·exact sR (.inl ⟨rfl, rfl⟩) _ _ _ _ zN zN (Int.le_refl _)
theorem aC6 {α : Type} {f g : α → Int} : ∀ (l : List α) (w w' : Int), two w → two w' → w ≤ w' → (∀ y ∈ l, two (f y) ∧ two (g y) ∧ f y ≤ g y) → l.foldl (fun w y => min (w + f y) 2) w ≤ l.foldl (fun w y => min (w + g y) 2) w' ∧ two (l.foldl (fun w y => min (w + f y) 2) w) ∧ two (l.foldl (fun w y => min (w + g y) 2) w')
 | [], w, w', h1, h2, h3, _ => ⟨h3, h1, h2⟩
 | y :: l, w, w', h1, h2, h3, hf => by
  obtain ⟨a, b, c⟩ := hf y (List.mem_cons_self ..)
  rw [List.foldl_cons, List.foldl_cons]
  exact aC6 l _ _ (kI h1 a) (kI h2 b) (by omega) (fun z hz => hf z (List.mem_cons_of_mem _ hz))
theorem aEl {ru ru' : List Int} {f g : ScopeRule → Int} (hr : ∀ i, kc ru i ≤ kc ru' i) : ∀ (l : List ScopeRule) (i w w' : Int), two w → two w' → w ≤ w' → (∀ y ∈ l, two (f y) ∧ two (g y) ∧ f y ≤ g y) → oX ru f l i w ≤ oX ru' g l i w' ∧ two (oX ru f l i w)
 | [], i, w, w', h1, h2, h3, _ => ⟨h3, h1⟩
 | y :: l, i, w, w', h1, h2, h3, hf => by
  obtain ⟨a, b, c⟩ := hf y (List.mem_cons_self ..)
  rw [oX, oX]
  have m := mul_mono (jB ((idx ru i).getD 0)) (jB ((idx ru' i).getD 0)) a b (hr i) c
  exact aEl hr l _ _ _ (kI h1 (aCh (jB _) a)) (kI h2 (aCh (jB _) b)) (by omega) (fun z hz => hf z (List.mem_cons_of_mem _ hz))
theorem rL {x : ScopeNode} {e : E} {z i : Int} (hT : okT p x z) (h4 : ¬ x.Op = 4) (h : 0 ≤ i ∧ i < x.Kids.length) : (gW x i, e) ∈ subs p x e := by
 obtain ⟨k, hk⟩ := dU (xs := x.Kids) h.1 h.2
 rw [iU hk, subs, if_neg h4]
 exact List.mem_map.2 ⟨k, eF hk, rfl⟩
theorem aCZ {x : ScopeNode} {e : E} {d : ScopeDef} (h4 : x.Op = 4) (hd : idx p.Defs x.N = some d) (h1 : x.Kids.length = 1) : (gW x 0, inE e x.N d) ∈ subs p x e := by
 obtain ⟨k, hk⟩ := dU (xs := x.Kids) (i := 0) (by omega) (by omega)
 rw [iU hk, subs, if_pos h4, hd]
 exact List.mem_append_right _ (List.mem_append_right _ (List.mem_map.2 ⟨k, eF hk, rfl⟩))
theorem aD0 {x : ScopeNode} {e : E} {d : ScopeDef} (h4 : x.Op = 4) (hd : idx p.Defs x.N = some d) {y : ScopeSpot} (hy : y ∈ d.Spots) : (y.Node, inE e x.N d) ∈ subs p x e := by
 rw [subs, if_pos h4, hd]
 exact List.mem_append_right _ (List.mem_append_left _ (List.mem_map.2 ⟨y, hy, rfl⟩))
theorem aBg {x : ScopeNode} {e : E} {d : ScopeDef} (h4 : x.Op = 4) (hd : idx p.Defs x.N = some d) {y : ScopeRule} (hy : y ∈ d.Rules) : (y.Node, ruE e x.N d y) ∈ subs p x e := by
 rw [subs, if_pos h4, hd]
 exact List.mem_append_left _ (List.mem_map.2 ⟨y, hy, rfl⟩)
theorem aGf {tab tab' : List UsageDef} (ht : LeT tab tab') {x : ScopeNode} {d : ScopeDef} {e : E} {f g : Int × E → Int} (h4 : x.Op = 4) (hd : idx p.Defs x.N = some d) (h1 : x.Kids.length = 1) (hs : ∀ k ∈ subs p x e, two (f k) ∧ two (g k) ∧ f k ≤ g k) : lE tab x d e f ≤ lE tab' x d e g ∧ two (lE tab x d e f) := by
 obtain ⟨a, b, c⟩ := hs _ (aCZ h4 hd h1)
 obtain ⟨m1, m2, m3⟩ := aC6 (f := fun y => f (y.Node, inE e x.N d)) (g := fun y => g (y.Node, inE e x.N d)) d.Spots _ _ a b c (fun y hy => hs _ (aD0 h4 hd hy))
 exact aEl (fun i => (ht x.N i).2.1) d.Rules 0 _ _ m2 m3 m1 (fun y hy => hs _ (aBg h4 hd hy))
theorem aBq {tab tab' : List UsageDef} (ht : LeT tab tab') {x : ScopeNode} {e : E} {v z : Int} (hT : okT p x z) {f g : Int × E → Int} (hs : ∀ k ∈ subs p x e, two (f k) ∧ two (g k) ∧ f k ≤ g k) : kJ p tab f x e v ≤ kJ p tab' g x e v ∧ two (kJ p tab f x e v) := by
 unfold kJ
 by_cases e2 : x.Op = 2
 ·rw [if_pos e2, if_pos e2]; exact aGC ht
 rw [if_neg e2, if_neg e2]
 by_cases e3 : x.Op = 3
 ·have hl : x.Kids.length = 2 := by rcases hT with h | h | h | h | h <;> first | exact h.2 | omega
  obtain ⟨a, b, c⟩ := hs _ (rL (i := 0) hT (by omega) (by omega))
  obtain ⟨a', b', c'⟩ := hs _ (rL (i := 1) hT (by omega) (by omega))
  rw [if_pos e3, if_pos e3]; exact ⟨by omega, kI a a'⟩
 rw [if_neg e3, if_neg e3]
 by_cases e5 : x.Op = 5
 ·have hl : x.Kids.length = 2 := by rcases hT with h | h | h | h | h <;> first | exact h.2 | omega
  obtain ⟨a, b, c⟩ := hs _ (rL (i := 0) hT (by omega) (by omega))
  obtain ⟨a', b', c'⟩ := hs _ (rL (i := 1) hT (by omega) (by omega))
  rw [if_pos e5, if_pos e5]; exact ⟨by omega, by unfold two at *; omega⟩
 rw [if_neg e5, if_neg e5]
 by_cases e6 : x.Op = 6 ∨ x.Op = 8
 ·have hl : x.Kids.length = 1 := by rcases hT with h | h | h | h | h <;> first | exact h.2 | omega
  obtain ⟨a, b, c⟩ := hs _ (rL (i := 0) hT (by omega) (by omega))
  rw [if_pos e6, if_pos e6]; exact ⟨c, a⟩
 rw [if_neg e6, if_neg e6]
 by_cases e4 : x.Op = 4
 ·obtain ⟨_, h1, d, hd, _⟩ := qJ hT e4
  rw [if_pos e4, if_pos e4, hd]
  exact aGf ht e4 hd h1 hs
 ·rw [if_neg e4, if_neg e4]; exact ⟨Int.le_refl _, by unfold two; omega⟩
theorem aBL {tab : List UsageDef} {v : Int} : ∀ (h : Nat) (q : Int × E), Tr p h q → two (gH p tab v h q)
 | 0, q, hT => hT.elim
 | h + 1, q, ⟨x, hx, h0, hT, hK⟩ => by
  rw [gH, hx]
  exact (aBq LeT.rfl hT (f := gH p tab v h) (g := gH p tab v h) fun k hk => ⟨aBL h k (hK k hk), aBL h k (hK k hk), Int.le_refl _⟩).2
theorem snd_h {tab : List UsageDef} {v : Int} : ∀ (h h' : Nat) (q : Int × E), h ≤ h' → Tr p h q → gH p tab v h' q = gH p tab v h q
 | 0, _, q, _, hT => hT.elim
 | h + 1, 0, q, hl, _ => absurd hl (by omega)
 | h + 1, h' + 1, q, hl, ⟨x, hx, h0, hT, hK⟩ => by
  rw [gH, gH, hx]
  have e : ∀ k ∈ subs p x q.2, gH p tab v h' k = gH p tab v h k := fun k hk => snd_h h h' k (by omega) (hK k hk)
  have b : ∀ k ∈ subs p x q.2, two (gH p tab v h k) := fun k hk => aBL h k (hK k hk)
  exact Int.le_antisymm (aBq LeT.rfl hT fun k hk => ⟨by rw [e k hk]; exact b k hk, b k hk, by rw [e k hk]; exact Int.le_refl _⟩).1
   (aBq LeT.rfl hT fun k hk => ⟨b k hk, by rw [e k hk]; exact b k hk, by rw [e k hk]; exact Int.le_refl _⟩).1
theorem aCi : ∀ (N : Nat) (l : List Int), l.Nodup → (∀ i ∈ l, 0 ≤ i ∧ i < (N : Int)) → l.length ≤ N
 | 0, l, _, h => by
  match l, h with
  | [], _ => simp
  | a :: l, h => have := h a (List.mem_cons_self ..); omega
 | N + 1, l, hn, h => by
  have e := aCi N (l.filter fun i => decide (i ≠ (N : Int))) (hn.filter _) (fun i hi => by
   have := List.mem_filter.1 hi
   have a := h i this.1
   have b := of_decide_eq_true this.2
   omega)
  have c := List.length_eq_countP_add_countP (fun i => decide (i ≠ (N : Int))) (l := l)
  rw [← List.countP_eq_length_filter] at e
  have d : l.countP (fun i => decide ¬ (decide (i ≠ (N : Int)) = true)) ≤ 1 := by
   have := (List.nodup_iff_count.1 hn) (N : Int)
   unfold List.count at this
   refine Nat.le_trans (List.countP_mono_left (fun i _ hi => ?_)) this
   simp at hi ⊢
   exact hi
  omega
theorem aEw {β : Type} {l : List (Int × β)} (h : (l.map (·.1)).Nodup) {a : Int} {b c : β} (h1 : (a, b) ∈ l) (h2 : (a, c) ∈ l) : (a, b) = (a, c) := by
 induction l with
 | nil => cases h1
 | cons y l ih =>
  rw [List.map_cons, List.nodup_cons] at h
  cases h1 with
  | head =>
   cases h2 with
   | head => rfl
   | tail _ h2 => exact absurd (List.mem_map.2 ⟨_, h2, rfl⟩) h.1
  | tail _ h1 =>
   cases h2 with
   | head => exact absurd (List.mem_map.2 ⟨_, h1, rfl⟩) h.1
   | tail _ h2 => exact ih h.2 h1 h2
def snd (p : ScopeProg) (tab : List UsageDef) (q : Int × E) (v : Int) : Int := gH p tab v 60 q
end Go.Proofs.YtmnbfgeljmhekaaGreat
set_option maxRecDepth 100000
namespace Go.Proofs.YtmnbfgeljmhekaaGreat
open Go.SX Go.SW Go.Dt
variable {p : ScopeProg}
theorem aCp {α : Type} {f g : Int → α → Int} : ∀ (l : List α) (w : Int), (∀ w, ∀ y ∈ l, f w y = g w y) → l.foldl f w = l.foldl g w
 | [], _, _ => rfl
 | y :: l, w, h => by rw [List.foldl_cons, List.foldl_cons, h w y (List.mem_cons_self ..)]; exact aCp l _ (fun w z hz => h w z (List.mem_cons_of_mem _ hz))
theorem aEm {x : ScopeNode} {d : ScopeDef} {e : E} {f g : Int × E → Int} (h4 : x.Op = 4) (hd : idx p.Defs x.N = some d) (h1 : x.Kids.length = 1) (hs : ∀ k ∈ subs p x e, f k = g k) : begM x d e f = begM x d e g := by
 unfold begM
 rw [hs _ (aCZ h4 hd h1)]
 exact aCp _ _ fun w y hy => by rw [hs _ (aD0 h4 hd hy)]
theorem aE3 {x : ScopeNode} {e : E} {v z : Int} (hT : okT p x z) {f g : Int × E → Int} (hs : ∀ k ∈ subs p x e, f k = g k) : kZ p f x e v = kZ p g x e v := by
 unfold kZ
 by_cases e2 : x.Op = 2
 ·rw [if_pos e2, if_pos e2]
 rw [if_neg e2, if_neg e2]
 by_cases e35 : x.Op = 3 ∨ x.Op = 5
 ·have hl : x.Kids.length = 2 := by rcases hT with h | h | h | h | h <;> first | exact h.2 | omega
  rw [hs _ (rL (i := 0) hT (by omega) (by omega)), hs _ (rL (i := 1) hT (by omega) (by omega))]
  by_cases e3 : x.Op = 3
  ·rw [if_pos e3, if_pos e3]
  ·rw [if_neg e3, if_neg e3, if_pos (by omega), if_pos (by omega)]
 rw [if_neg (show ¬ x.Op = 3 from fun q => e35 (.inl q)), if_neg (show ¬ x.Op = 3 from fun q => e35 (.inl q)), if_neg (show ¬ x.Op = 5 from fun q => e35 (.inr q)), if_neg (show ¬ x.Op = 5 from fun q => e35 (.inr q))]
 by_cases e4 : x.Op = 4
 ·obtain ⟨_, h1, d, hd, _⟩ := qJ hT e4
  rw [if_pos e4, if_pos e4, hd]
  exact aEm e4 hd h1 hs
 ·rw [if_neg e4, if_neg e4]
theorem sur_h {v : Int} : ∀ (h h' : Nat) (q : Int × E), h ≤ h' → Tr p h q → kW p v h' q = kW p v h q
 | 0, _, q, _, hT => hT.elim
 | h + 1, 0, q, hl, _ => absurd hl (by omega)
 | h + 1, h' + 1, q, hl, ⟨x, hx, h0, hT, hK⟩ => by
  rw [kW, kW, hx]
  exact aE3 hT fun k hk => sur_h h h' k (by omega) (hK k hk)
def sur (p : ScopeProg) (q : Int × E) (v : Int) : Int := kW p v 60 q
structure dS (p : ScopeProg) (t : Usage_text) (L : Ref05_Look) (H : Nat) : Prop where
 low : H ≤ 60
 tr : Tr p H (cP p)
 defs : p.Defs.length ≤ 12
 prog : t.ScopeProg = p
 rprog : L.p = p
 sizes : t.sizes = L.Sizes
 size : ∀ q ∈ LN p H (cP p), idx L.Sizes q.1 = some (q.2.length : Int)
 at_ : ∀ q ∈ LN p H (cP p), At t L q
 elen : ∀ q ∈ LN p H (cP p), q.2.length ≤ 5000
 count : (LN p H (cP p)).length ≤ 60
 nn : ((LN p H (cP p)).map (·.1)).Nodup
 dn : ((HN p H (cP p)).map (·.1)).Nodup
 node : ∀ n : Int, 0 ≤ n → n < p.Nodes.length → ∃ e, (n, e) ∈ LN p H (cP p)
 head : ∀ d : Int, 0 ≤ d → d < p.Defs.length → ∃ n, (d, n) ∈ HN p H (cP p) ∧ idx t.heads d = some n ∧ idx L.Heads d = some n
theorem sees (hp : SmP p) {s : VS} (h : eX p = some s) : ∃ t L, pV F p = some t ∧ tA F p = some L ∧ dS p t L p.Nodes.length := by
 obtain ⟨H, h1, h2, h3, h4, hT, hl, hn, hd, hz, hall, hdef⟩ := aBV h
 obtain ⟨t, t1, t2⟩ := read_eq hp h h1
 obtain ⟨L, l1, l2⟩ := see_eq hp h h1
 subst h1
 refine ⟨t, L, t1, l1, h2, hT, h3, t2.prog, l2.prog, by rw [t2.sizes, l2.sizes], fun q hq => by rw [l2.sizes]; exact hz q hq, fun q hq => ⟨t2.on q hq, l2.on q hq⟩, fun q hq => by have := yM _ (cP p) hT q hq; have b : (cP p).2.length ≤ 12 := (by simp [cP]; omega); omega, ?_, hn, hd, hall, fun d h0 hlt => ?_⟩
 ·have := aCi p.Nodes.length _ hn (fun i hi => by
   obtain ⟨q, hq, rfl⟩ := List.mem_map.1 hi
   have := fX (hz q hq)
   rw [hl] at this
   exact this)
  rw [List.length_map] at this
  omega
 ·obtain ⟨n, hn⟩ := hdef d h0 hlt
  exact ⟨n, hn, t2.hd _ hn, l2.hd _ hn⟩
variable {t : Usage_text} {L : Ref05_Look} {H : Nat} {tab : List UsageDef}
theorem dS.env (S : dS p t L H) : ∀ q ∈ LN p H (cP p), hE p q.2 := ln_env S.tr env_root
theorem dS.sub (S : dS p t L H) {q : Int × E} (hq : q ∈ LN p H (cP p)) : ∃ h, h ≤ H ∧ Tr p h q ∧ (LN p h q).length ≤ (LN p H (cP p)).length ∧ ∀ b ∈ LN p h q, b ∈ LN p H (cP p) := ln_sub H (cP p) S.tr q hq
theorem dS.subs (S : dS p t L H) {n : Int} {e : E} {x : ScopeNode} (hq : (n, e) ∈ LN p H (cP p)) (hx : idx p.Nodes n = some x) : okT p x e.length ∧ ∀ k ∈ subs p x e, k ∈ LN p H (cP p) := by
 obtain ⟨h, h1, h2, _, h3⟩ := S.sub hq
 obtain _ | h := h
 ·exact h2.elim
 obtain ⟨x', hx', h0, hT, hK⟩ := h2
 dsimp only at hx' hT hK
 rw [hx] at hx'; cases hx'
 refine ⟨hT, fun k hk => h3 k ?_⟩
 obtain _ | h := h
 ·exact (hK k hk).elim
 have e1 : LN p (h + 1 + 1) (n, e) = (n, e) :: (Go.Proofs.YtmnbfgeljmhekaaGreat.subs p x e).flatMap (LN p (h + 1)) := by rw [LN, hx]
 rw [e1]
 refine List.mem_cons_of_mem _ (List.mem_flatMap.2 ⟨k, hk, ?_⟩)
 obtain ⟨y, hy, _⟩ := hK k hk
 rw [LN]; exact List.mem_cons_self ..
theorem dS.sends (S : dS p t L H) (hk : fO p tab) {q : Int × E} (hq : q ∈ LN p H (cP p)) (v : Int) {f f' : Nat} (hf : 1000 ≤ f) (hf' : 1000 ≤ f') : rK t L tab v f f' q.1 (snd p tab q v) := by
 obtain ⟨h, h1, h2, _, h3⟩ := S.sub hq
 have lo := S.low
 have := aB9 S.prog S.rprog hk (v := v) h f f' q (by omega) (by omega) h2 (S.env q hq) (fun b hb => S.at_ b (h3 b hb))
 rwa [show snd p tab q v = gH p tab v h q from snd_h h 60 q (by omega) h2]
theorem hn_ln : ∀ (h : Nat) (q : Int × E), Tr p h q → ∀ b ∈ HN p h q, ∃ e x, (b.2, e) ∈ LN p h q ∧ idx p.Nodes b.2 = some x ∧ x.Op = 4 ∧ x.N = b.1
 | 0, q, hT, _, _ => hT.elim
 | h + 1, (n, e), ⟨x, hx, h0, hT, hK⟩, b, hb => by
  dsimp only at hx hT hK
  simp only [HN, hx] at hb
  rcases List.mem_append.1 hb with hb | hb
  ·split at hb
   ·rename_i h4
    cases List.mem_singleton.1 hb
    exact ⟨e, x, by rw [LN]; exact List.mem_cons_self .., hx, h4, rfl⟩
   ·cases hb
  ·obtain ⟨k, hk, hb⟩ := List.mem_flatMap.1 hb
   obtain ⟨e', x', a1, a2⟩ := hn_ln h k (hK k hk) b hb
   exact ⟨e', x', by simp only [LN, hx]; exact List.mem_cons_of_mem _ (List.mem_flatMap.2 ⟨k, hk, a1⟩), a2⟩
structure eG (p : ScopeProg) (H : Nat) (d n : Int) (e : E) (x : ScopeNode) (D : ScopeDef) : Prop where
 ln : (n, e) ∈ LN p H (cP p)
 hn : (d, n) ∈ HN p H (cP p)
 hx : idx p.Nodes n = some x
 op : x.Op = 4
 hN : x.N = d
 hD : idx p.Defs d = some D
 ok : okD D = true
 kid : x.Kids.length = 1
theorem dS.headOf (S : dS p t L H) {d : Int} (h0 : 0 ≤ d) (h1 : d < p.Defs.length) : ∃ n e x D, eG p H d n e x D ∧ idx t.heads d = some n ∧ idx L.Heads d = some n := by
 obtain ⟨n, a, b, c⟩ := S.head d h0 h1
 obtain ⟨e, x, b1, b2, b3, b4⟩ := hn_ln H (cP p) S.tr _ a
 dsimp only at b1 b2 b4
 obtain ⟨hT, _⟩ := S.subs b1 b2
 obtain ⟨_, h1, D, hD, ho⟩ := qJ hT b3
 exact ⟨n, e, x, D, ⟨b1, a, b2, b3, b4, by rw [← b4]; exact hD, ho, h1⟩, b, c⟩
theorem eG.uniq (S : dS p t L H) {d n n' : Int} {e e' : E} {x x' : ScopeNode} {D D' : ScopeDef} (h : eG p H d n e x D) (k : eG p H d n' e' x' D') : n = n' ∧ e = e' ∧ x = x' ∧ D = D' := by
 have a : n = n' := by
  have := aEw S.dn h.hn k.hn
  exact congrArg Prod.snd this
 subst a
 have b : e = e' := congrArg Prod.snd (aEw S.nn h.ln k.ln)
 have c := h.hx; rw [k.hx] at c
 have d := h.hD; rw [k.hD] at d
 exact ⟨rfl, b, (Option.some.inj c).symm, (Option.some.inj d).symm⟩
theorem dS.inner (S : dS p t L H) (hk : fO p tab) {d n : Int} {e : E} {x : ScopeNode} {D : ScopeDef} (h : eG p H d n e x D) (v : Int) : ∃ r, (two r ∧ r = lE tab x D e fun k => snd p tab k v) ∧ oE F t tab n v = some r ∧ oK F L tab n v = some r := by
 obtain ⟨hT, hs⟩ := S.subs h.ln h.hx
 exact aEy S.prog S.rprog hk (v := v) (f := 3999999) (f' := 3999999) (n := n) (e := e) (by omega) (by omega) h.hx hT h.op (sv := fun k => snd p tab k v) (fun q hq => S.sends hk (hs q hq) v (by omega) (by omega)) (by rw [h.hN]; exact h.hD)
theorem dS.begun (S : dS p t L H) {d n : Int} {e : E} {x : ScopeNode} {D : ScopeDef} (h : eG p H d n e x D) {v : Int} (hv : 0 ≤ v ∧ v < (inE e d D).length) : ∃ r, ((0 ≤ r ∧ r ≤ 1000) ∧ r = begM x D e fun k => sur p k v) ∧ kN F t n v = some r ∧ nT F L n v = some r := by
 obtain ⟨hT, hs⟩ := S.subs h.ln h.hx
 have hD : idx p.Defs x.N = some D := by rw [h.hN]; exact h.hD
 have lo := S.low
 have co := S.count
 obtain ⟨g, g1, g2, g3, g4⟩ := S.sub h.ln
 obtain _ | g := g
 ·exact g2.elim
 obtain ⟨x', hx', _, _, hK⟩ := g2
 dsimp only at hx' hK
 rw [h.hx] at hx'; cases hx'
 have e1 : LN p (g + 1) (n, e) = (n, e) :: (Go.Proofs.YtmnbfgeljmhekaaGreat.subs p x e).flatMap (LN p g) := by rw [LN, h.hx]
 have kid : ∀ q ∈ Go.Proofs.YtmnbfgeljmhekaaGreat.subs p x e, uX p g t L v 3999999 3999999 q := fun q hq => by
  refine aD7 S.prog S.rprog (v := v) g 3999999 3999999 q (by omega) (by omega) (hK q hq) (S.env q (hs q hq)) ?_ ?_ (fun b hb => S.at_ b (g4 b (by rw [e1]; exact List.mem_cons_of_mem _ (List.mem_flatMap.2 ⟨q, hq, hb⟩))))
  ·rw [Go.Proofs.YtmnbfgeljmhekaaGreat.subs, if_pos h.op, hD, h.hN] at hq
   dsimp only at hq
   rcases List.mem_append.1 hq with hq | hq
   ·obtain ⟨r, hr, rfl⟩ := List.mem_map.1 hq
    refine ⟨hv.1, ?_⟩
    show v < ((inE e d D ++ List.replicate (brs D.Chans r.Joins).toNat none).length : Int)
    rw [List.length_append]; omega
   ·rcases List.mem_append.1 hq with hq | hq
    ·obtain ⟨r, hr, rfl⟩ := List.mem_map.1 hq; exact hv
    ·obtain ⟨r, hr, rfl⟩ := List.mem_map.1 hq; exact hv
  ·have := xJ (f := LN p g) hq
   rw [e1, List.length_cons] at g3
   omega
 obtain ⟨r, ⟨⟨a1, a2⟩, a3⟩, b⟩ := aEf S.prog S.rprog (h := g) (v := v) (f := 3999999) (f' := 3999999) (by omega) (by omega) h.hx hT h.op (by omega) kid hD
 refine ⟨r, ⟨⟨a1, by omega⟩, ?_⟩, b⟩
 rw [a3]
 exact aEm h.op hD h.kid fun k hk => (sur_h g 60 k (by omega) (hK k hk)).symm
end Go.Proofs.YtmnbfgeljmhekaaGreat
set_option maxRecDepth 100000
namespace Go.Proofs.YtmnbfgeljmhekaaGreat
open Go.SX Go.SW Go.Dt
theorem pR {S R : Type} (L : Nat → S → Option R) (n : Nat) (st : Nat → S) (r : Option R) (step : ∀ k i, i < n → L (k + 1) (st i) = L k (st (i + 1))) (stop : ∀ k, L (k + 1) (st n) = r) {K : Nat} (hK : n < K) : L K (st 0) = r := by
 have : ∀ (j i K : Nat), i + j = n → j < K → L K (st i) = r := fun j => by
  induction j with
  | zero =>
   intro i K hi hK
   obtain _ | K := K
   ·omega
   obtain rfl : i = n := by omega
   exact stop K
  | succ j ih =>
   intro i K hi hK
   obtain _ | K := K
   ·omega
   rw [step K i (by omega)]
   exact ih (i + 1) K (by omega) (by omega)
 exact this n 0 K (by omega) hK
theorem yY {α : Type} {n i : Nat} {f : Nat → α} {a : α} : ((List.range n).map f).set i a = (List.range n).map fun c => if c = i then a else f c := by
 apply List.ext_getElem?
 intro j
 rw [List.getElem?_set]
 by_cases hj : j < n
 ·simp only [List.getElem?_map, List.getElem?_range hj, List.length_map, List.length_range]
  by_cases h : i = j
  ·subst h; simp [hj]
  ·rw [if_neg h]; simp [show ¬ j = i from fun q => h q.symm]
 ·simp only [List.getElem?_map, List.length_map, List.length_range]
  rw [List.getElem?_eq_none (by simp; omega)]
  by_cases h : i = j
  ·rw [if_pos h, if_neg (by omega)]; rfl
  ·rw [if_neg h]; rfl
theorem tD {α : Type} {f : Nat → α} {i : Nat} : (List.range i).map f ++ [f i] = (List.range (i + 1)).map f := by rw [List.range_succ, List.map_append]; rfl
theorem rQ {α : Type} {f : Nat → α} {n i : Nat} (h : i < n) : idx ((List.range n).map f) (i : Int) = some (f i) := dZ (by simp [h])
def eY (a : Int) : Int := if a = 0 then 1 else if a = 1 then 3 else 4
theorem aA2 (a : Int) : pJ a = some (eY a) := by unfold pJ eY; split; rfl; split <;> rfl
theorem aBO (a : Int) : rE a = some (eY a) := by unfold rE eY; split; rfl; split <;> rfl
def mny (D : ScopeDef) (j : Int) : Int := (idx D.Chans j).elim 0 (·.Many)
def qX (sv : Int → Int) (D : ScopeDef) (c i : Int) : List Int → Int → Int → Int
 | [], _, w => w
 | j :: l, at_, w => qX sv D c i l (at_ + mny D j) (if j = c then max w (sv (at_ + i)) else w)
def iZ (ru : List Int) (base : Int) (sv : ScopeRule → Int → Int) (D : ScopeDef) (c i : Int) : List ScopeRule → Int → Int → Int
 | [], _, w => w
 | r :: l, k, w => iZ ru base sv D c i l (k + 1) (if kc ru k = 0 then w else qX (sv r) D c i r.Joins base w)
def minJ (ch : List Int) (js : List Int) : Int := js.foldl (fun w j => min w (kc ch j)) 2
def jR (p : ScopeProg) (tab : List UsageDef) (d : Int) (x : ScopeNode) (D : ScopeDef) (e : E) : UsageDef :=
 ⟨(List.range D.Chans.length).map fun c : Nat => eY (lE tab x D e fun k => snd p tab k ((e.length : Int) + (c : Int))),
  D.Rules.map fun r => eY (minJ (jZ tab d) r.Joins),
  (List.range D.Chans.length).map fun c : Nat => (List.range (mny D (c : Int)).toNat).map fun i : Nat => eY (iZ (gP tab d) ((e.length : Int) + (D.Chans.length : Int) + (D.Spots.length : Int)) (fun r v => snd p tab (r.Node, ruE e d D r) v) D (c : Int) (i : Int) D.Rules 0 0)⟩
abbrev gC (D : ScopeDef) (f : Nat → Nat → Int) : List (List Int) := (List.range D.Chans.length).map fun c : Nat => (List.range (mny D (c : Int)).toNat).map fun i : Nat => f c i
theorem tK {D : ScopeDef} {j : Int} {y : ScopeChan} (h : idx D.Chans j = some y) : mny D j = y.Many := by unfold mny; rw [h]; rfl
section
variable {p : ScopeProg} {t : Usage_text} {L : Ref05_Look} {H : Nat} {tab : List UsageDef} {d n : Int} {e : E} {x : ScopeNode} {D : ScopeDef}
theorem yP (S : dS p t L H) (h : eG p H d n e x D) (ht : idx t.heads d = some n) {c : Int} (hc : 0 ≤ c ∧ c ≤ 1000) : pH t d c = some ((e.length : Int) + c) := by
 have := S.elen _ h.ln
 dsimp only at this
 rw [pH, ht, bsm, S.sizes, S.size _ h.ln, bsm, aV (by dsimp only; omega), bsm]
theorem aA1 (S : dS p t L H) (h : eG p H d n e x D) (ht : idx L.Heads d = some n) {c : Int} (hc : 0 ≤ c ∧ c ≤ 1000) : sT L d c = some ((e.length : Int) + c) := by
 have := S.elen _ h.ln
 dsimp only at this
 rw [sT, ht, bsm, S.size _ h.ln, bsm, aV (by dsimp only; omega), bsm]
theorem wJ {c : Nat} (hc : c < D.Chans.length) : ∃ y, idx D.Chans (c : Int) = some y := dU (by omega) (by omega)
theorem asks1 (S : dS p t L H) (hk : fO p tab) (h : eG p H d n e x D) (ht : idx t.heads d = some n) :
  mP F t tab d D F (List.replicate D.Chans.length []) 0 [] = some (gC D fun _ _ => 0, (jR p tab d x D e).Chans) := by
 have ho := eA h.ok
 have e0 : List.replicate D.Chans.length ([] : List Int) = (List.range D.Chans.length).map fun c : Nat => if c < 0 then (List.range (mny D (c : Int)).toNat).map (fun _ => (0 : Int)) else [] := by
  apply List.ext_getElem? ; intro j
  by_cases hj : j < D.Chans.length <;> simp [hj]
 rw [e0]
 refine pR (fun k (s : List (List Int) × Int × List Int) => mP F t tab d D k s.1 s.2.1 s.2.2) D.Chans.length
  (fun i => ((List.range D.Chans.length).map fun c : Nat => if c < i then (List.range (mny D (c : Int)).toNat).map (fun _ => (0 : Int)) else [], (i : Int), (List.range i).map fun c : Nat => eY (lE tab x D e fun k => snd p tab k ((e.length : Int) + (c : Int))))) _ (fun k i hi => ?_) (fun k => ?_) (by show _ < 4000000; omega)
 ·dsimp only
  obtain ⟨y, hy⟩ := wJ hi
  obtain ⟨r, ⟨r1, rfl⟩, r2, _⟩ := S.inner hk h ((e.length : Int) + (i : Int))
  have hm := ho.2.2.2.1 y (eF hy)
  have hl : (List.range i).length = i := List.length_range
  rw [mP, if_pos (show (i : Int) < (D.Chans.length : Int) from by omega), hy, bsm, ht, bsm, yP S h ht (by omega), bsm, r2, bsm, aA2, bsm, gU (by simp; omega), bsm,
   show y.Many = ((y.Many.toNat : Nat) : Int) from by omega, mk_ok (by omega), bsm, rQ hi, bsm, aV (by omega), bsm, Int.toNat_natCast, yY]
  congr 1
  ·apply List.map_congr_left
   intro c hc
   by_cases q : c = i
   ·subst q
    rw [if_pos rfl, if_pos (by omega), tK hy]
    apply List.ext_getElem?; intro j
    by_cases hj : j < y.Many.toNat <;> simp [hj]
   ·rw [if_neg q]
    by_cases q2 : c < i
    ·rw [if_pos q2, if_pos (by omega)]
    ·rw [if_neg q2, if_neg (by omega)]
  ·exact tD
 ·dsimp only
  rw [mP, if_neg (by omega)]
  congr 2
  apply List.map_congr_left
  intro c hc
  rw [if_pos (List.mem_range.1 hc)]
theorem asks3 {X : UsageDef} (hX : idx tab d = some X) {r : ScopeRule} (hJ : r.Joins.length ≤ 3) (suf : List Int) : ∀ (pre : List Int) (k : Nat) (w : Int), r.Joins = pre ++ suf → suf.length < k → (∀ j ∈ suf, ∃ y, idx X.Chans j = some y) → lM tab d r k w pre.length = some (suf.foldl (fun w j => min w (kc X.Chans j)) w) := by
 induction suf with
 | nil =>
  intro pre k w hx hk _
  obtain _ | k := k
  ·omega
  rw [lM, if_neg (show ¬ (pre.length : Int) < (r.Joins.length : Int) from by rw [hx]; simp)]; rfl
 | cons j suf ih =>
  intro pre k w hx hk hj
  obtain _ | k := k
  ·omega
  obtain ⟨y, hy⟩ := hj j (List.mem_cons_self ..)
  have hl := congrArg List.length hx
  rw [List.length_append, List.length_cons] at hl
  simp only [List.length_cons] at hk
  rw [lM, if_pos (show (pre.length : Int) < (r.Joins.length : Int) from by rw [hx]; exact cC pre suf j), show idx r.Joins (pre.length : Int) = some j from by rw [hx]; exact bX pre suf j, bsm, hX, bsm, hy, bsm, of_p, bsm, aV (by omega), bsm, bT pre j,
   ih (pre ++ [j]) k _ (by rw [hx]; exact cA pre suf j) (by omega) (fun z hz => hj z (List.mem_cons_of_mem _ hz)), List.foldl_cons, show kc X.Chans j = cnt y from by unfold kc; rw [hy]; rfl]
theorem asks5 {r : ScopeRule} {sv : Int → Int} {j : Int} {m : Nat} {f : Nat → Int} {M : List (List Int)} {row : List Int} {at_ : Int} (hm : m ≤ 3) (hat : 0 ≤ at_ ∧ at_ ≤ 100000) (hM : ∃ z, idx M j = some z) (hrow : row.length = m) (hs : ∀ v, fD F t tab r.Node v = some (sv v)) :
  mY F t tab r M j row F at_ 0 ((List.range m).map f) = some (M.set j.toNat ((List.range m).map fun i : Nat => max (f i) (sv (at_ + (i : Int)))), at_ + (m : Int)) := by
 obtain ⟨z, hz⟩ := hM
 have e0 : (List.range m).map f = (List.range m).map fun c : Nat => if c < 0 then max (f c) (sv (at_ + (c : Int))) else f c := List.map_congr_left fun c _ => by rw [if_neg (by omega)]
 have e1 : at_ = at_ + ((0 : Nat) : Int) := by omega
 rw [e0]
 conv => lhs; rw [e1]
 refine pR (fun k (s : Int × Int × List Int) => mY F t tab r M j row k s.1 s.2.1 s.2.2) m
  (fun i => (at_ + (i : Int), (i : Int), (List.range m).map fun c : Nat => if c < i then max (f c) (sv (at_ + (c : Int))) else f c)) _ (fun k i hi => ?_) (fun k => ?_) (by show _ < 4000000; omega)
 ·dsimp only
  rw [mY, if_pos (by omega), hz, bsm, bsm, rQ hi, bsm, hs, bsm, if_neg (show ¬ i < i from by omega), show pC (f i) (sv (at_ + (i : Int))) = some (max (f i) (sv (at_ + (i : Int)))) from by unfold pC; split <;> (congr 1; omega), bsm, bsm, aV (by omega), bsm, aV (by omega), bsm, Int.toNat_natCast, yY]
  congr 1
  ·omega
  ·apply List.map_congr_left
   intro c hc
   by_cases q : c = i
   ·subst q; rw [if_pos rfl, if_pos (by omega)]
   ·rw [if_neg q]
    by_cases q2 : c < i
    ·rw [if_pos q2, if_pos (by omega)]
    ·rw [if_neg q2, if_neg (by omega)]
 ·dsimp only
  rw [mY, if_neg (by omega)]
  congr 3
  apply List.map_congr_left
  intro c hc
  rw [if_pos (List.mem_range.1 hc)]
end
end Go.Proofs.YtmnbfgeljmhekaaGreat
set_option maxRecDepth 100000
namespace Go.Proofs.YtmnbfgeljmhekaaGreat
open Go.SX Go.SW Go.Dt
section
variable {p : ScopeProg} {t : Usage_text} {L : Ref05_Look} {H : Nat} {tab : List UsageDef} {d n : Int} {e : E} {x : ScopeNode} {D : ScopeDef}
theorem asks4 {r : ScopeRule} {sv : Int → Int} {acc : List Int} (hJ : r.Joins.length ≤ 3) (hs : ∀ v, fD F t tab r.Node v = some (sv v)) (suf : List Int) : ∀ (pre : List Int) (k : Nat) (f : Nat → Nat → Int) (at_ : Int), r.Joins = pre ++ suf → suf.length < k → 0 ≤ at_ → at_ + 3 * suf.length ≤ 90000 → (∀ j ∈ suf, ∃ y, idx D.Chans j = some y ∧ 0 ≤ y.Many ∧ y.Many ≤ 3) →
  nI F t tab r acc k (gC D f) at_ pre.length = some (gC D fun c i => qX sv D (c : Int) (i : Int) suf at_ (f c i), acc) := by
 induction suf with
 | nil =>
  intro pre k f at_ hx hk _ _ _
  obtain _ | k := k
  ·omega
  rw [nI, if_neg (show ¬ (pre.length : Int) < (r.Joins.length : Int) from by rw [hx]; simp)]; rfl
 | cons j suf ih =>
  intro pre k f at_ hx hk h0 h1 hj
  obtain _ | k := k
  ·omega
  obtain ⟨y, hy, y0, y3⟩ := hj j (List.mem_cons_self ..)
  have hl := congrArg List.length hx
  rw [List.length_append, List.length_cons] at hl
  simp only [List.length_cons] at hk h1
  have jl := fX hy
  obtain ⟨c, rfl⟩ : ∃ c : Nat, j = (c : Int) := ⟨j.toNat, by omega⟩
  have hr : idx (gC D f) (c : Int) = some ((List.range (mny D (c : Int)).toNat).map fun i : Nat => f c i) := rQ (by omega)
  have hm := tK hy
  rw [nI, if_pos (show (pre.length : Int) < (r.Joins.length : Int) from by rw [hx]; exact cC pre suf _), show idx r.Joins (pre.length : Int) = some (c : Int) from by rw [hx]; exact bX pre suf _, bsm, hr, bsm,
   asks5 (sv := sv) (m := (mny D (c : Int)).toNat) (f := fun i => f c i) (by omega) (by omega) ⟨_, hr⟩ (by simp) hs, bsm]
  dsimp only
  rw [aV (by omega), bsm, bT pre (c : Int), Int.toNat_natCast]
  have hset : (gC D f).set c ((List.range (mny D (c : Int)).toNat).map fun i : Nat => max (f c i) (sv (at_ + (i : Int)))) = gC D fun c' i => if (c : Int) = (c' : Int) then max (f c' i) (sv (at_ + (i : Int))) else f c' i := by
   unfold gC
   rw [yY]
   apply List.map_congr_left
   intro c' hc'
   by_cases q : c' = c
   ·subst q
    rw [if_pos rfl]
    apply List.map_congr_left
    intro i _
    exact (if_pos rfl).symm
   ·rw [if_neg q]
    apply List.map_congr_left
    intro i _
    exact (if_neg (by omega)).symm
  rw [hset, ih (pre ++ [(c : Int)]) k _ _ (by rw [hx]; exact cA pre suf _) (by omega) (by omega) (by omega) (fun z hz => hj z (List.mem_cons_of_mem _ hz))]
  rw [show (((mny D (c : Int)).toNat : Nat) : Int) = mny D (c : Int) from by omega]
  rfl
theorem asks2 (S : dS p t L H) (h : eG p H d n e x D) (hk : fO p tab) (ht : idx t.heads d = some n) (suf : List ScopeRule) : ∀ (pre : List ScopeRule) (k : Nat) (f : Nat → Nat → Int) (acc : List Int), D.Rules = pre ++ suf → suf.length < k → acc.length = pre.length →
  kF F t tab d D k (gC D f) pre.length acc = some (gC D fun c i => iZ (gP tab d) ((e.length : Int) + (D.Chans.length : Int) + (D.Spots.length : Int)) (fun r v => snd p tab (r.Node, ruE e d D r) v) D (c : Int) (i : Int) suf pre.length (f c i), acc ++ suf.map fun r => eY (minJ (jZ tab d) r.Joins)) := by
 obtain ⟨X, hX, ok1⟩ := oD hk h.hD
 have ho := eA h.ok
 have e1 : jZ tab d = X.Chans := by unfold jZ; rw [hX]; rfl
 have e2 : gP tab d = X.Rules := by unfold gP; rw [hX]; rfl
 have el := S.elen _ h.ln
 dsimp only at el
 induction suf with
 | nil =>
  intro pre k f acc hx hk _
  obtain _ | k := k
  ·omega
  rw [kF, if_neg (show ¬ (pre.length : Int) < (D.Rules.length : Int) from by rw [hx]; simp), List.map_nil, List.append_nil]; rfl
 | cons r suf ih =>
  intro pre k f acc hx hkk ha
  obtain _ | k := k
  ·omega
  have hl := congrArg List.length hx
  rw [List.length_append, List.length_cons] at hl
  simp only [List.length_cons] at hkk
  have hr : r ∈ D.Rules := by rw [hx]; exact List.mem_append_right _ (List.mem_cons_self ..)
  obtain ⟨j1, j2⟩ := ho.2.2.2.2 r hr
  obtain ⟨z, hz⟩ := dU (xs := X.Rules) (i := (pre.length : Int)) (by omega) (by rw [ok1.rules]; omega)
  have kz : kc (gP tab d) (pre.length : Int) = cnt z := by unfold kc; rw [e2, hz]; rfl
  have hm : (r.Node, ruE e d D r) ∈ LN p H (cP p) := by
   have := (S.subs h.ln h.hx).2 _ (aBg (e := e) h.op (by rw [h.hN]; exact h.hD) hr)
   rwa [h.hN] at this
  have hs : ∀ v, fD F t tab r.Node v = some (snd p tab (r.Node, ruE e d D r) v) := fun v => by
   obtain ⟨q, ⟨q1, rfl⟩, q2, _⟩ := S.sends hk hm v (f := F) (f' := F) (by show _ ≤ 4000000; omega) (by show _ ≤ 4000000; omega)
   exact q2
  have next : ∀ g : Nat → Nat → Int, kF F t tab d D k (gC D g) ((pre.length : Int) + 1) (acc ++ [eY (minJ (jZ tab d) r.Joins)]) = some (gC D fun c i => iZ (gP tab d) ((e.length : Int) + (D.Chans.length : Int) + (D.Spots.length : Int)) (fun r v => snd p tab (r.Node, ruE e d D r) v) D (c : Int) (i : Int) suf ((pre.length : Int) + 1) (g c i), acc ++ (r :: suf).map fun r => eY (minJ (jZ tab d) r.Joins)) := fun g => by
   rw [bT pre r, ih (pre ++ [r]) k g _ (by rw [hx]; exact cA pre suf r) (by omega) (by simp [ha]), List.map_cons, List.append_assoc, List.singleton_append]
  rw [kF, if_pos (show (pre.length : Int) < (D.Rules.length : Int) from by rw [hx]; exact cC pre suf r), show idx D.Rules (pre.length : Int) = some r from by rw [hx]; exact bX pre suf r, bsm,
   show lM tab d r F 2 0 = _ from asks3 hX j1 r.Joins [] F 2 rfl (by show _ < 4000000; omega) (fun j hj => by obtain ⟨y, hy, _⟩ := j2 j hj; have := fX hy; exact dU this.1 (by rw [ok1.chans]; exact this.2)), bsm, aA2, bsm,
   show r.Joins.foldl (fun w j => min w (kc X.Chans j)) 2 = minJ (jZ tab d) r.Joins from by rw [e1]; rfl, gU (by simp; omega), bsm, hX, bsm, hz, bsm, of_p, bsm]
  by_cases c0 : cnt z = 0
  ·rw [if_pos c0, bsm]
   dsimp only
   rw [aV (by omega), bsm, next f]
   simp only [iZ, kz, c0, if_true]
  ·rw [if_neg c0, yP S h ht (by omega), bsm, aV (by omega), bsm, show nI F t tab r _ F (gC D f) _ 0 = _ from asks4 (D := D) j1 hs r.Joins [] F f _ rfl (by show _ < 4000000; omega) (by omega) (by omega) j2, bsm]
   dsimp only
   rw [aV (by omega), bsm, next]
   simp only [iZ, kz, c0, if_false]
theorem asks7 {m : Nat} {f : Nat → Int} (hm : m ≤ 100) : mL ((List.range m).map f) F [] 0 = some ((List.range m).map fun i => eY (f i)) := by
 refine pR (fun k (s : List Int × Int) => mL ((List.range m).map f) k s.1 s.2) m (fun i => ((List.range i).map fun i => eY (f i), (i : Int))) _ (fun k i hi => ?_) (fun k => ?_) (by show _ < 4000000; omega)
 ·dsimp only
  rw [mL, if_pos (by simp; omega), rQ hi, bsm, aA2, bsm, gU (by simp; omega), bsm, aV (by omega), bsm]
  congr 1
  exact tD (f := fun i => eY (f i))
 ·dsimp only
  rw [mL, if_neg (by simp)]
theorem asks6 {f : Nat → Nat → Int} (hn : D.Chans.length ≤ 30) (hm : ∀ c ∈ D.Chans, 0 ≤ c.Many ∧ c.Many ≤ 3) : nJ F (gC D f) F (gC D f) 0 [] = some (gC D fun c i => eY (f c i)) := by
 refine pR (fun k (s : List (List Int) × Int × List (List Int)) => nJ F (gC D f) k s.1 s.2.1 s.2.2) D.Chans.length (fun i => (gC D f, (i : Int), (List.range i).map fun c : Nat => (List.range (mny D (c : Int)).toNat).map fun i : Nat => eY (f c i))) _ (fun k i hi => ?_) (fun k => ?_) (by show _ < 4000000; omega)
 ·dsimp only
  obtain ⟨y, hy⟩ := wJ hi
  have := hm y (eF hy)
  rw [nJ, if_pos (by simp; omega), rQ hi, bsm, asks7 (by rw [tK hy]; omega), bsm, gU (by simp; omega), bsm, bsm]
  dsimp only
  rw [aV (by omega), bsm, Int.toNat_natCast, yY]
  congr 1
  ·apply List.map_congr_left
   intro c _
   by_cases q : c = i
   ·rw [if_pos q, q]
   ·rw [if_neg q]
  ·exact tD (f := fun c : Nat => (List.range (mny D (c : Int)).toNat).map fun i : Nat => eY (f c i))
 ·dsimp only
  rw [nJ, if_neg (by simp)]
theorem asks_eq (S : dS p t L H) (hk : fO p tab) (h : eG p H d n e x D) (ht : idx t.heads d = some n) : sQ F t tab d = some (jR p tab d x D e) := by
 have ho := eA h.ok
 rw [sQ, S.prog, h.hD, bsm, mk_ok (by omega), bsm, asks1 S hk h ht, bsm]
 dsimp only
 rw [show kF F t tab d D F (gC D fun _ _ => 0) 0 [] = _ from asks2 S h hk ht D.Rules [] F _ [] rfl (by show _ < 4000000; omega) rfl, bsm]
 dsimp only
 rw [asks6 (by omega) ho.2.2.2.1, bsm]
 rfl
end
end Go.Proofs.YtmnbfgeljmhekaaGreat
set_option maxRecDepth 100000
namespace Go.Proofs.YtmnbfgeljmhekaaGreat
open Go.SX Go.SW Go.Dt
section
variable {p : ScopeProg} {t : Usage_text} {L : Ref05_Look} {H : Nat} {tab : List UsageDef} {d n : Int} {e : E} {x : ScopeNode} {D : ScopeDef}
def gM (D : ScopeDef) : List Int → Int
 | [] => 0
 | j :: l => mny D j + gM D l
theorem aEU (D : ScopeDef) : ∀ (a b : List Int), gM D (a ++ b) = gM D a + gM D b
 | [], b => by simp [gM]
 | j :: a, b => by rw [List.cons_append, gM, gM, aEU D a b]; omega
theorem brought1 {r : ScopeRule} {k0 : Int} (hr : idx D.Rules k0 = some r) (pre suf : List Int) (hx : r.Joins = pre ++ suf) (hj : ∀ j ∈ r.Joins, ∃ y, idx D.Chans j = some y ∧ 0 ≤ y.Many ∧ y.Many ≤ 3) (mid : List Int) : ∀ (done : List Int) (k : Nat) (w : Int), pre = done ++ mid → mid.length < k → 0 ≤ w → w + 3 * mid.length ≤ 100000 → done.length + mid.length ≤ 1000 →
  nD k0 pre.length D k w done.length = some (w + gM D mid) := by
 induction mid with
 | nil =>
  intro done k w hp hk _ _ _
  obtain _ | k := k
  ·omega
  rw [nD, if_neg (show ¬ (done.length : Int) < (pre.length : Int) from by rw [hp]; simp), gM, Int.add_zero]
 | cons j mid ih =>
  intro done k w hp hk h0 h1 h2
  obtain _ | k := k
  ·omega
  have hi : idx r.Joins (done.length : Int) = some j := by rw [hx, hp, List.append_assoc]; exact bX _ _ _
  obtain ⟨y, hy, y0, y3⟩ := hj j (eF hi)
  simp only [List.length_cons] at hk h1 h2
  rw [nD, if_pos (show (done.length : Int) < (pre.length : Int) from by rw [hp]; exact cC _ _ _), hr, bsm, hi, bsm, hy, bsm, aV (by omega), bsm, aV (by omega), bsm, bT done j,
   ih (done ++ [j]) k _ (by rw [hp]; exact cA _ _ _) (by omega) (by omega) (by omega) (by simp; omega), gM, tK hy]
  congr 1; omega
theorem aFR (S : dS p t L H) (h : eG p H d n e x D) (hL : idx L.Heads d = some n) {r : ScopeRule} {k0 : Int} (hr : idx D.Rules k0 = some r) (pre suf : List Int) (hx : r.Joins = pre ++ suf) {i : Int} (hi : 0 ≤ i ∧ i ≤ 100) :
  wP F L d k0 pre.length i = some ((e.length : Int) + (D.Chans.length : Int) + (D.Spots.length : Int) + gM D pre + i) := by
 have ho := eA h.ok
 have el := S.elen _ h.ln
 dsimp only at el
 obtain ⟨j1, j2⟩ := ho.2.2.2.2 r (eF hr)
 have hl := congrArg List.length hx
 rw [List.length_append] at hl
 rw [wP, S.rprog, h.hD, bsm, hL, bsm, S.size _ h.ln, bsm]
 dsimp only
 rw [aV (by omega), bsm, aV (by omega), bsm, aV (by omega), bsm, show nD k0 pre.length D F _ 0 = _ from brought1 hr pre suf hx j2 pre [] F _ rfl (by show _ < 4000000; omega) (by omega) (by omega) (by simp; omega), bsm]
 congr 1; omega
theorem arg2 (S : dS p t L H) (h : eG p H d n e x D) (hk : fO p tab) (hL : idx L.Heads d = some n) {X : UsageDef} (hX : idx tab d = some X) {r : ScopeRule} {k0 : Int} (hr : idx D.Rules k0 = some r) {z : Int} (hz : idx X.Rules k0 = some z) {c i : Int} (hi : 0 ≤ i ∧ i ≤ 100) (hs : ∀ v, fB F L tab r.Node v = some (snd p tab (r.Node, ruE e d D r) v)) (suf : List Int) :
  ∀ (pre : List Int) (k : Nat) (w : Int), r.Joins = pre ++ suf → suf.length < k →
  lB F L tab d c i D k0 k w pre.length = some (if cnt z = 0 then w else qX (snd p tab (r.Node, ruE e d D r)) D c i suf ((e.length : Int) + (D.Chans.length : Int) + (D.Spots.length : Int) + gM D pre) w) := by
 have ho := eA h.ok
 obtain ⟨j1, j2⟩ := ho.2.2.2.2 r (eF hr)
 induction suf with
 | nil =>
  intro pre k w hx hkk
  obtain _ | k := k
  ·omega
  rw [lB, hr, bsm, if_neg (show ¬ (pre.length : Int) < (r.Joins.length : Int) from by rw [hx]; simp), qX]
  split <;> rfl
 | cons j suf ih =>
  intro pre k w hx hkk
  obtain _ | k := k
  ·omega
  have hl := congrArg List.length hx
  rw [List.length_append, List.length_cons] at hl
  simp only [List.length_cons] at hkk
  have hi' : idx r.Joins (pre.length : Int) = some j := by rw [hx]; exact bX _ _ _
  have next : ∀ w', lB F L tab d c i D k0 k w' ((pre.length : Int) + 1) = some (if cnt z = 0 then w' else qX (snd p tab (r.Node, ruE e d D r)) D c i suf ((e.length : Int) + (D.Chans.length : Int) + (D.Spots.length : Int) + gM D pre + mny D j) w') := fun w' => by
   rw [bT pre j, ih (pre ++ [j]) k w' (by rw [hx]; exact cA _ _ _) (by omega), aEU, gM, gM, Int.add_zero, Int.add_assoc _ (gM D pre)]
  rw [lB, hr, bsm, if_pos (show (pre.length : Int) < (r.Joins.length : Int) from by rw [hx]; exact cC _ _ _), bsm, hi', bsm, qX]
  by_cases hc : j = c
  ·rw [if_pos hc, if_pos hc, hX, bsm, hz, bsm, of_r, bsm]
   by_cases c0 : cnt z = 0
   ·rw [if_neg (show ¬ 0 < cnt z from by omega), bsm, aV (by omega), bsm, next, if_pos c0, if_pos c0]
   ·have := jB z
    rw [if_pos (show 0 < cnt z from by unfold two at this; omega), bsm, aFR S h hL hr pre (j :: suf) hx hi, bsm, hs, bsm, bsm, aV (by omega), bsm, next, if_neg c0, if_neg c0]
  ·rw [if_neg hc, if_neg hc, bsm, aV (by omega), bsm, next]
theorem arg1 (S : dS p t L H) (h : eG p H d n e x D) (hk : fO p tab) (hL : idx L.Heads d = some n) {c i : Int} (hi : 0 ≤ i ∧ i ≤ 100) (suf : List ScopeRule) : ∀ (pre : List ScopeRule) (k : Nat) (w : Int), D.Rules = pre ++ suf → suf.length < k →
  nQ F L tab d c i D k w pre.length = some (iZ (gP tab d) ((e.length : Int) + (D.Chans.length : Int) + (D.Spots.length : Int)) (fun r v => snd p tab (r.Node, ruE e d D r) v) D c i suf pre.length w) := by
 obtain ⟨X, hX, ok1⟩ := oD hk h.hD
 have ho := eA h.ok
 have e2 : gP tab d = X.Rules := by unfold gP; rw [hX]; rfl
 induction suf with
 | nil =>
  intro pre k w hx hkk
  obtain _ | k := k
  ·omega
  rw [nQ, if_neg (show ¬ (pre.length : Int) < (D.Rules.length : Int) from by rw [hx]; simp)]; rfl
 | cons r suf ih =>
  intro pre k w hx hkk
  obtain _ | k := k
  ·omega
  have hl := congrArg List.length hx
  rw [List.length_append, List.length_cons] at hl
  simp only [List.length_cons] at hkk
  have hr' : idx D.Rules (pre.length : Int) = some r := by rw [hx]; exact bX _ _ _
  have hr := eF hr'
  obtain ⟨j1, j2⟩ := ho.2.2.2.2 r hr
  obtain ⟨z, hz⟩ := dU (xs := X.Rules) (i := (pre.length : Int)) (by omega) (by rw [ok1.rules]; omega)
  have kz : kc (gP tab d) (pre.length : Int) = cnt z := by unfold kc; rw [e2, hz]; rfl
  have hm : (r.Node, ruE e d D r) ∈ LN p H (cP p) := by
   have := (S.subs h.ln h.hx).2 _ (aBg (e := e) h.op (by rw [h.hN]; exact h.hD) hr)
   rwa [h.hN] at this
  have hs : ∀ v, fB F L tab r.Node v = some (snd p tab (r.Node, ruE e d D r) v) := fun v => by
   obtain ⟨q, ⟨q1, rfl⟩, _, q2⟩ := S.sends hk hm v (f := F) (f' := F) (by show _ ≤ 4000000; omega) (by show _ ≤ 4000000; omega)
   exact q2
  rw [nQ, if_pos (show (pre.length : Int) < (D.Rules.length : Int) from by rw [hx]; exact cC _ _ _), show lB F L tab d c i D (pre.length : Int) F w 0 = _ from arg2 S h hk hL hX hr' hz hi hs r.Joins [] F w rfl (by show _ < 4000000; omega), bsm, aV (by omega), bsm, bT pre r,
   ih (pre ++ [r]) k _ (by rw [hx]; exact cA _ _ _) (by omega), iZ, kz, gM, Int.add_zero, bT pre r]
theorem least2 (S : dS p t L H) (h : eG p H d n e x D) (hk : fO p tab) (hL : idx L.Heads d = some n) {c : Nat} (hc : c < D.Chans.length) : mZ F L tab d D (c : Int) F [] 0 = some ((List.range (mny D (c : Int)).toNat).map fun i : Nat => eY (iZ (gP tab d) ((e.length : Int) + (D.Chans.length : Int) + (D.Spots.length : Int)) (fun r v => snd p tab (r.Node, ruE e d D r) v) D (c : Int) (i : Int) D.Rules 0 0)) := by
 have ho := eA h.ok
 obtain ⟨y, hy⟩ := wJ hc
 have hm := ho.2.2.2.1 y (eF hy)
 have e1 := tK hy
 refine pR (fun k (s : List Int × Int) => mZ F L tab d D (c : Int) k s.1 s.2) (mny D (c : Int)).toNat (fun i => ((List.range i).map fun i : Nat => eY (iZ (gP tab d) ((e.length : Int) + (D.Chans.length : Int) + (D.Spots.length : Int)) (fun r v => snd p tab (r.Node, ruE e d D r) v) D (c : Int) (i : Int) D.Rules 0 0), (i : Int))) _ (fun k i hi => ?_) (fun k => ?_) (by show _ < 4000000; omega)
 ·dsimp only
  rw [mZ, hy, bsm, if_pos (by omega), xO, S.rprog, h.hD, bsm, show nQ F L tab d (c : Int) (i : Int) D F 0 0 = _ from arg1 S h hk hL (by omega) D.Rules [] F 0 rfl (by show _ < 4000000; omega), bsm, bsm, aBO, bsm, gU (by simp; omega), bsm, aV (by omega), bsm]
  congr 1
  exact tD (f := fun i : Nat => eY (iZ (gP tab d) ((e.length : Int) + (D.Chans.length : Int) + (D.Spots.length : Int)) (fun r v => snd p tab (r.Node, ruE e d D r) v) D (c : Int) (i : Int) D.Rules 0 0))
 ·dsimp only
  rw [mZ, hy, bsm, if_neg (by omega)]
theorem least1 (S : dS p t L H) (h : eG p H d n e x D) (hk : fO p tab) (hL : idx L.Heads d = some n) : mX F L tab d D F 0 [] [] = some ((jR p tab d x D e).Chans, (jR p tab d x D e).Args) := by
 have ho := eA h.ok
 refine pR (fun k (s : Int × List Int × List (List Int)) => mX F L tab d D k s.1 s.2.1 s.2.2) D.Chans.length (fun i => ((i : Int), (List.range i).map fun c : Nat => eY (lE tab x D e fun k => snd p tab k ((e.length : Int) + (c : Int))),
  (List.range i).map fun c : Nat => (List.range (mny D (c : Int)).toNat).map fun i : Nat => eY (iZ (gP tab d) ((e.length : Int) + (D.Chans.length : Int) + (D.Spots.length : Int)) (fun r v => snd p tab (r.Node, ruE e d D r) v) D (c : Int) (i : Int) D.Rules 0 0))) _ (fun k i hi => ?_) (fun k => ?_) (by show _ < 4000000; omega)
 ·dsimp only
  obtain ⟨r, ⟨r1, rfl⟩, _, r2⟩ := S.inner hk h ((e.length : Int) + (i : Int))
  rw [mX, if_pos (by omega), hL, bsm, aA1 S h hL (by omega), bsm, r2, bsm, aBO, bsm, gU (by simp; omega), bsm, least2 S h hk hL hi, bsm, gU (by simp; omega), bsm, bsm]
  dsimp only
  rw [aV (by omega), bsm]
  congr 1
  ·exact tD (f := fun c : Nat => eY (lE tab x D e fun k => snd p tab k ((e.length : Int) + (c : Int))))
  ·exact tD (f := fun c : Nat => (List.range (mny D (c : Int)).toNat).map fun i : Nat => eY (iZ (gP tab d) ((e.length : Int) + (D.Chans.length : Int) + (D.Spots.length : Int)) (fun r v => snd p tab (r.Node, ruE e d D r) v) D (c : Int) (i : Int) D.Rules 0 0))
 ·dsimp only
  rw [mX, if_neg (by omega)]; rfl
theorem least4 {X : UsageDef} (hX : idx tab d = some X) {r : ScopeRule} {k0 : Int} (hr : idx D.Rules k0 = some r) (hJ : r.Joins.length ≤ 3) (suf : List Int) : ∀ (pre : List Int) (k : Nat) (w : Int), r.Joins = pre ++ suf → suf.length < k → (∀ j ∈ suf, ∃ y, idx X.Chans j = some y) → lX tab d D k0 k w pre.length = some (suf.foldl (fun w j => min w (kc X.Chans j)) w) := by
 induction suf with
 | nil =>
  intro pre k w hx hk _
  obtain _ | k := k
  ·omega
  rw [lX, hr, bsm, if_neg (show ¬ (pre.length : Int) < (r.Joins.length : Int) from by rw [hx]; simp)]; rfl
 | cons j suf ih =>
  intro pre k w hx hk hj
  obtain _ | k := k
  ·omega
  obtain ⟨y, hy⟩ := hj j (List.mem_cons_self ..)
  have hl := congrArg List.length hx
  rw [List.length_append, List.length_cons] at hl
  simp only [List.length_cons] at hk
  rw [lX, hr, bsm, if_pos (show (pre.length : Int) < (r.Joins.length : Int) from by rw [hx]; exact cC pre suf j), hX, bsm, bsm, show idx r.Joins (pre.length : Int) = some j from by rw [hx]; exact bX pre suf j, bsm, hy, bsm, of_r, bsm, aV (by omega), bsm, bT pre j,
   ih (pre ++ [j]) k _ (by rw [hx]; exact cA pre suf j) (by omega) (fun z hz => hj z (List.mem_cons_of_mem _ hz)), List.foldl_cons, show kc X.Chans j = cnt y from by unfold kc; rw [hy]; rfl]
theorem least3 (h : eG p H d n e x D) (hk : fO p tab) (suf : List ScopeRule) : ∀ (pre : List ScopeRule) (k : Nat) (acc : List Int), D.Rules = pre ++ suf → suf.length < k → acc.length = pre.length → lP F tab d D k pre.length acc = some (acc ++ suf.map fun r => eY (minJ (jZ tab d) r.Joins)) := by
 obtain ⟨X, hX, ok1⟩ := oD hk h.hD
 have ho := eA h.ok
 have e1 : jZ tab d = X.Chans := by unfold jZ; rw [hX]; rfl
 induction suf with
 | nil =>
  intro pre k acc hx hkk _
  obtain _ | k := k
  ·omega
  rw [lP, if_neg (show ¬ (pre.length : Int) < (D.Rules.length : Int) from by rw [hx]; simp), List.map_nil, List.append_nil]
 | cons r suf ih =>
  intro pre k acc hx hkk ha
  obtain _ | k := k
  ·omega
  have hl := congrArg List.length hx
  rw [List.length_append, List.length_cons] at hl
  simp only [List.length_cons] at hkk
  have hr' : idx D.Rules (pre.length : Int) = some r := by rw [hx]; exact bX _ _ _
  obtain ⟨j1, j2⟩ := ho.2.2.2.2 r (eF hr')
  rw [lP, if_pos (show (pre.length : Int) < (D.Rules.length : Int) from by rw [hx]; exact cC _ _ _), show lX tab d D (pre.length : Int) F 2 0 = _ from least4 hX hr' j1 r.Joins [] F 2 rfl (by show _ < 4000000; omega) (fun j hj => by obtain ⟨y, hy, _⟩ := j2 j hj; have := fX hy; exact dU this.1 (by rw [ok1.chans]; exact this.2)), bsm, aBO, bsm,
   gU (by simp; omega), bsm, bsm, aV (by omega), bsm, bT pre r, ih (pre ++ [r]) k _ (by rw [hx]; exact cA _ _ _) (by omega) (by simp [ha]), List.map_cons, List.append_assoc, List.singleton_append, e1]
  rfl
theorem least_eq (S : dS p t L H) (hk : fO p tab) (h : eG p H d n e x D) (hL : idx L.Heads d = some n) : uC F L tab d = some (jR p tab d x D e) := by
 have ho := eA h.ok
 rw [uC, S.rprog, h.hD, bsm, least1 S h hk hL, bsm]
 dsimp only
 rw [show lP F tab d D F 0 [] = _ from least3 h hk D.Rules [] F [] rfl (by show _ < 4000000; omega) rfl, bsm, List.nil_append]
 rfl
noncomputable def eP (p : ScopeProg) (H : Nat) (tab : List UsageDef) : List UsageDef := (List.range p.Defs.length).map fun d : Nat => open Classical in if h : ∃ u : UsageDef, ∃ n e x D, eG p H (d : Int) n e x D ∧ u = jR p tab (d : Int) x D e then h.choose else ⟨[], [], []⟩
theorem aCG (S : dS p t L H) {d : Nat} {n : Int} (hd : d < p.Defs.length) (h : eG p H (d : Int) n e x D) : idx (eP p H tab) (d : Int) = some (jR p tab (d : Int) x D e) := by
 unfold eP
 rw [rQ hd]
 congr 1
 have q : ∃ u : UsageDef, ∃ n e x D, eG p H (d : Int) n e x D ∧ u = jR p tab (d : Int) x D e := ⟨_, n, e, x, D, h, rfl⟩
 rw [dif_pos q]
 obtain ⟨n', e', x', D', h', e1⟩ := q.choose_spec
 obtain ⟨_, rfl, rfl, rfl⟩ := h'.uniq S h
 exact e1
theorem uL : (eP p H tab).length = p.Defs.length := by simp [eP]
theorem all_eq' (S : dS p t L H) (hk : fO p tab) : rF F t tab = some (eP p H tab) ∧ uR F L tab = some (eP p H tab) := by
 have dl := S.defs
 have step : ∀ i : Nat, i < p.Defs.length → ∃ u, sQ F t tab (i : Int) = some u ∧ uC F L tab (i : Int) = some u ∧ idx (eP p H tab) (i : Int) = some u := fun i hi => by
  obtain ⟨n, e, x, D, h, a, b⟩ := S.headOf (d := (i : Int)) (by omega) (by omega)
  exact ⟨_, asks_eq S hk h a, least_eq S hk h b, aCG S hi h⟩
 have tk : ∀ i : Nat, i < p.Defs.length → ∀ u, idx (eP p H tab) (i : Int) = some u → (eP p H tab).take i ++ [u] = (eP p H tab).take (i + 1) := fun i hi u hu => by
  have := cB hu
  rw [Int.toNat_natCast] at this
  rw [List.take_add_one, this]; rfl
 have hlen : ∀ i : Nat, ((eP p H tab).take i).length ≤ 12 := fun i => by rw [List.length_take, uL]; omega
 constructor
 ·rw [rF, show mH F t tab F [] 0 = some (eP p H tab) from ?_, bsm]
  refine pR (fun k (s : List UsageDef × Int) => mH F t tab k s.1 s.2) p.Defs.length (fun i => ((eP p H tab).take i, (i : Int))) _ (fun k i hi => ?_) (fun k => ?_) (by show _ < 4000000; omega)
  ·dsimp only
   obtain ⟨u, u1, u2, u3⟩ := step i hi
   have := hlen i
   rw [mH, S.prog, if_pos (by omega), u1, bsm, gU (by simp; omega), bsm, aV (by omega), bsm]
   congr 1
   exact tk i hi u u3
  ·dsimp only
   rw [mH, S.prog, if_neg (by omega), List.take_of_length_le (by rw [uL]; omega)]
 ·rw [uR, show nK F L tab F [] 0 = some (eP p H tab) from ?_, bsm]
  refine pR (fun k (s : List UsageDef × Int) => nK F L tab k s.1 s.2) p.Defs.length (fun i => ((eP p H tab).take i, (i : Int))) _ (fun k i hi => ?_) (fun k => ?_) (by show _ < 4000000; omega)
  ·dsimp only
   obtain ⟨u, u1, u2, u3⟩ := step i hi
   have := hlen i
   rw [nK, S.rprog, if_pos (by omega), u2, bsm, gU (by simp; omega), bsm, aV (by omega), bsm]
   congr 1
   exact tk i hi u u3
  ·dsimp only
   rw [nK, S.rprog, if_neg (by omega), List.take_of_length_le (by rw [uL]; omega)]
theorem aCW (S : dS p t L H) : fO p (eP p H tab) := by
 refine ⟨uL, fun i D' X hD hX => ?_⟩
 have hi := fX hD
 obtain ⟨c, rfl⟩ : ∃ c : Nat, i = (c : Int) := ⟨i.toNat, by omega⟩
 obtain ⟨n, e, x, D, h, _, _⟩ := S.headOf (d := (c : Int)) hi.1 hi.2
 have := h.hD; rw [hD] at this; cases this
 rw [aCG S (by omega) h] at hX; cases hX
 have ho := eA h.ok
 refine ⟨by simp [jR], by simp [jR], by simp [jR], ?_⟩
 intro j ch a hc ha
 have := fX hc
 obtain ⟨c', rfl⟩ : ∃ c' : Nat, j = (c' : Int) := ⟨j.toNat, by omega⟩
 rw [jR] at ha
 dsimp only at ha
 rw [rQ (by omega)] at ha
 cases ha
 have := ho.2.2.2.1 ch (eF hc)
 rw [List.length_map, List.length_range, tK hc]; omega
end
end Go.Proofs.YtmnbfgeljmhekaaGreat
set_option maxRecDepth 100000
namespace Go.Proofs.YtmnbfgeljmhekaaGreat
open Go.SX Go.SW Go.Dt
theorem wC {R : Type} (L : Nat → Int → Option R) (n : Nat) (ok : Nat → Bool) (a b : R) (step : ∀ k (i : Nat), i < n → ok i = true → L (k + 1) (i : Int) = L k ((i : Int) + 1)) (bad : ∀ k (i : Nat), i < n → ok i = false → L (k + 1) (i : Int) = some b) (stop : ∀ k, L (k + 1) (n : Int) = some a) {K : Nat} (hK : n < K) : L K 0 = some (if (List.range n).all ok = true then a else b) := by
 have : ∀ (j i K : Nat), i + j = n → j < K → L K (i : Int) = some (if ((List.range j).all fun m => ok (i + m)) = true then a else b) := fun j => by
  induction j with
  | zero =>
   intro i K hi hK
   obtain _ | K := K
   ·omega
   obtain rfl : i = n := by omega
   exact stop K
  | succ j ih =>
   intro i K hi hK
   obtain _ | K := K
   ·omega
   have e : (List.range (j + 1)).all (fun m => ok (i + m)) = (ok i && (List.range j).all fun m => ok (i + 1 + m)) := by
    rw [List.range_succ_eq_map, List.all_cons, List.all_map]
    congr 1
    congr 1
    funext m
    show ok (i + (m + 1)) = _
    congr 1; omega
   rw [e]
   cases h : ok i with
   | false => exact bad K i (by omega) h
   | true => rw [step K i (by omega) h, Bool.true_and]; exact ih (i + 1) K (by omega) (by omega)
 have e := this n 0 K (by omega) hK
 simpa using e
def gY {α β : Type} (f : α → β → Bool) : Option α → Option β → Bool
 | some x, some y => f x y
 | _, _ => true
theorem xZ {α β : Type} (f : α × β → Bool) : ∀ (a : List α) (b : List β), a.length = b.length → (a.zip b).all f = (List.range a.length).all fun i => gY (fun x y => f (x, y)) a[i]? b[i]?
 | [], [], _ => rfl
 | x :: a, y :: b, h => by
  rw [List.zip_cons_cons, List.all_cons, xZ f a b (by simpa using h), List.length_cons, List.range_succ_eq_map, List.all_cons, List.all_map]
  rfl
def covP (x y : Int) (_ : Bool) : Bool := decide (cnt y ≤ cnt x)
def iB (a b : List Int) : Bool := (a.zip b).all fun q => decide (cnt q.2 ≤ cnt q.1)
theorem accepts1 (x : Int × Int × Bool) : rD x.1 x.2.1 x.2.2 = some (covP x.1 x.2.1 x.2.2) := by rw [rD, of_p, bsm, of_p, bsm]; rfl
theorem vA {a b : List Int} (h : a.length = b.length) (hB : a.length ≤ 2000000) : rT F a b = some (iB a b) := by
 have e := wC (fun k i => nM a b k i) a.length (fun i => gY (fun x y => decide (cnt y ≤ cnt x)) a[i]? b[i]?) (.inl ()) (.inr false) (fun k i hi hok => ?_) (fun k i hi hok => ?_) (fun k => ?_) (K := F) (by show _ < 4000000; omega)
 ·rw [rT, e, bsm, iB, xZ _ a b h]
  show _ = some ((List.range a.length).all fun i => gY (fun x y => decide (cnt y ≤ cnt x)) a[i]? b[i]?)
  cases (List.range a.length).all fun i => gY (fun x y => decide (cnt y ≤ cnt x)) a[i]? b[i]? <;> rfl
 ·have h1 : a[i]? = some (a[i]'hi) := List.getElem?_eq_getElem hi
  have h2 : b[i]? = some (b[i]'(by omega)) := List.getElem?_eq_getElem (by omega)
  rw [h1, h2] at hok
  have := of_decide_eq_true hok
  rw [nM, if_pos (by omega), dZ h1, bsm, of_r, bsm, dZ h2, bsm, of_r, bsm, if_neg (by omega), aV (by omega), bsm]
 ·have h1 : a[i]? = some (a[i]'hi) := List.getElem?_eq_getElem hi
  have h2 : b[i]? = some (b[i]'(by omega)) := List.getElem?_eq_getElem (by omega)
  rw [h1, h2] at hok
  have := of_decide_eq_false hok
  rw [nM, if_pos (by omega), dZ h1, bsm, of_r, bsm, dZ h2, bsm, of_r, bsm, if_pos (by omega), bsm]
 ·rw [nM, if_neg (by omega)]
section
variable {p : ScopeProg} {t : Usage_text} {L : Ref05_Look} {H : Nat} {tab : List UsageDef} {d n : Int} {e : E} {x : ScopeNode} {D : ScopeDef}
noncomputable def begV (p : ScopeProg) (H : Nat) (d c : Int) : Int := open Classical in if h : ∃ v : Int, ∃ n e x D, eG p H d n e x D ∧ v = begM x D e fun k => sur p k ((e.length : Int) + c) then h.choose else 0
theorem begV_get (S : dS p t L H) (h : eG p H d n e x D) (c : Int) : begV p H d c = begM x D e fun k => sur p k ((e.length : Int) + c) := by
 unfold begV
 have q : ∃ v : Int, ∃ n e x D, eG p H d n e x D ∧ v = begM x D e fun k => sur p k ((e.length : Int) + c) := ⟨_, n, e, x, D, h, rfl⟩
 rw [dif_pos q]
 obtain ⟨n', e', x', D', h', e1⟩ := q.choose_spec
 obtain ⟨_, rfl, rfl, rfl⟩ := h'.uniq S h
 exact e1
theorem zL (S : dS p t L H) (h : eG p H d n e x D) {c : Nat} (hc : c < D.Chans.length) : kN F t n ((e.length : Int) + (c : Int)) = some (begV p H d c) ∧ nT F L n ((e.length : Int) + (c : Int)) = some (begV p H d c) := by
 have e1 := qY (e := e) (m := d) (d := D)
 unfold own at e1
 obtain ⟨r, ⟨_, rfl⟩, a, b⟩ := S.begun h (v := (e.length : Int) + (c : Int)) ⟨by omega, by omega⟩
 rw [begV_get S h]
 exact ⟨a, b⟩
noncomputable def kK (p : ScopeProg) (H : Nat) (X : UsageDef) (d : Int) (c : Nat) : Bool := (X.Chans[c]?).elim true fun y => !decide (y = 2) || decide (begV p H d (c : Int) = 1)
theorem acc2_p (S : dS p t L H) (h : eG p H d n e x D) (ht : idx t.heads d = some n) {X : UsageDef} (ok1 : kS D X) : kG F t d X F 0 = some (if (List.range X.Chans.length).all (kK p H X d) = true then .inl () else .inr (.inr (false, 0))) := by
 have ho := eA h.ok
 refine wC (fun k i => kG F t d X k i) X.Chans.length (kK p H X d) _ _ (fun k i hi hok => ?_) (fun k i hi hok => ?_) (fun k => ?_) (by have := ok1.chans; show _ < 4000000; omega)
 ·have h1 : X.Chans[i]? = some (X.Chans[i]'hi) := List.getElem?_eq_getElem hi
  have hl := ok1.chans
  obtain ⟨b1, _⟩ := zL S h (c := i) (by omega)
  unfold kK at hok
  rw [h1, Option.elim_some] at hok
  rw [kG, if_pos (by omega), dZ h1, bsm]
  by_cases y2 : X.Chans[i]'hi = 2
  ·rw [if_pos y2, ht, bsm, yP S h ht (by omega), bsm, b1, bsm]
   have : begV p H d i = 1 := by simpa [y2] using hok
   rw [if_neg (fun q => q this), bsm]
   dsimp only
   rw [aV (by omega), bsm]
  ·rw [if_neg y2, bsm]
   dsimp only
   rw [aV (by omega), bsm]
 ·have h1 : X.Chans[i]? = some (X.Chans[i]'hi) := List.getElem?_eq_getElem hi
  have hl := ok1.chans
  obtain ⟨b1, _⟩ := zL S h (c := i) (by omega)
  unfold kK at hok
  rw [h1, Option.elim_some] at hok
  simp only [Bool.or_eq_false_iff, Bool.not_eq_false', decide_eq_true_eq, decide_eq_false_iff_not] at hok
  rw [kG, if_pos (by omega), dZ h1, bsm, if_pos hok.1, ht, bsm, yP S h ht (by omega), bsm, b1, bsm, if_pos hok.2, bsm, bsm, bsm, bsm]
 ·rw [kG, if_neg (by omega)]
theorem acc2_r (S : dS p t L H) (h : eG p H d n e x D) (ht : idx L.Heads d = some n) {U : List UsageDef} {X Y : UsageDef} (hX : idx tab d = some X) (hY : idx U d = some Y) (ok1 : kS D X) (ok2 : kS D Y) : kU F tab L U d F 0 = some (if (List.range X.Chans.length).all (fun c => gY iB X.Args[c]? Y.Args[c]? && kK p H X d c) = true then .inl () else .inr (.inr (false, 0))) := by
 have ho := eA h.ok
 have l1 := ok1.chans
 have l2 := ok1.args
 have l3 := ok2.args
 have at_ : ∀ i : Nat, i < X.Chans.length → ∃ y a b, X.Chans[i]? = some y ∧ X.Args[i]? = some a ∧ Y.Args[i]? = some b ∧ a.length = b.length ∧ a.length ≤ 3 := fun i hi => by
  obtain ⟨ch, hc⟩ := wJ (D := D) (c := i) (by omega)
  have h1 : X.Args[i]? = some (X.Args[i]'(by omega)) := List.getElem?_eq_getElem (by omega)
  have h2 : Y.Args[i]? = some (Y.Args[i]'(by omega)) := List.getElem?_eq_getElem (by omega)
  have m1 := ok1.many _ _ _ hc (dZ h1)
  have m2 := ok2.many _ _ _ hc (dZ h2)
  have m3 := ho.2.2.2.1 ch (eF hc)
  exact ⟨_, _, _, List.getElem?_eq_getElem hi, h1, h2, by omega, by omega⟩
 refine wC (fun k i => kU F tab L U d k i) X.Chans.length _ _ _ (fun k i hi hok => ?_) (fun k i hi hok => ?_) (fun k => ?_) (by show _ < 4000000; omega)
 ·obtain ⟨y, a, b, e1, e2, e3, e4, e5⟩ := at_ i hi
  obtain ⟨_, b1⟩ := zL S h (c := i) (by omega)
  unfold kK at hok
  rw [e1, e2, e3] at hok
  simp only [gY, Option.elim_some] at hok
  rw [Bool.and_eq_true] at hok
  rw [kU, hX, bsm, if_pos (by omega), bsm, dZ e2, bsm, hY, bsm, dZ e3, bsm, vA e4 (by omega), bsm, hok.1, Bool.not_true, cond_false, bsm, dZ e1, bsm]
  by_cases y2 : y = 2
  ·rw [if_pos y2, ht, bsm, aA1 S h ht (by omega), bsm, b1, bsm]
   have : begV p H d i = 1 := by simpa [y2] using hok.2
   rw [if_neg (fun q => q this), bsm]
   dsimp only
   rw [aV (by omega), bsm]
  ·rw [if_neg y2, bsm]
   dsimp only
   rw [aV (by omega), bsm]
 ·obtain ⟨y, a, b, e1, e2, e3, e4, e5⟩ := at_ i hi
  obtain ⟨_, b1⟩ := zL S h (c := i) (by omega)
  unfold kK at hok
  rw [e1, e2, e3] at hok
  simp only [gY, Option.elim_some] at hok
  rw [kU, hX, bsm, if_pos (by omega), bsm, dZ e2, bsm, hY, bsm, dZ e3, bsm, vA e4 (by omega), bsm]
  cases hc : iB a b with
  | false => rw [Bool.not_false, cond_true, bsm, bsm, bsm, bsm]
  | true =>
   rw [hc, Bool.true_and] at hok
   simp only [Bool.or_eq_false_iff, Bool.not_eq_false', decide_eq_true_eq, decide_eq_false_iff_not] at hok
   rw [Bool.not_true, cond_false, bsm, dZ e1, bsm, if_pos hok.1, ht, bsm, aA1 S h ht (by omega), bsm, b1, bsm, if_pos hok.2, bsm, bsm, bsm, bsm]
 ·rw [kU, hX, bsm, if_neg (by omega)]
noncomputable def accB (p : ScopeProg) (H : Nat) (X Y : UsageDef) (d : Int) : Bool := kz covP X Y && (List.range X.Chans.length).all (kK p H X d)
theorem kz_cov {X Y : UsageDef} (h : X.Args.length = Y.Args.length) : kz covP X Y = (iB X.Chans Y.Chans && (iB X.Rules Y.Rules && (List.range X.Args.length).all fun c => gY iB X.Args[c]? Y.Args[c]?)) := by
 unfold kz
 rw [xZ _ X.Args Y.Args h]
 rfl
noncomputable def tE (p : ScopeProg) (H : Nat) (tab : List UsageDef) : Bool := (List.range tab.length).all fun i => gY (fun X Y => accB p H X Y (i : Int)) tab[i]? (eP p H tab)[i]?
theorem aEk {α : Type} {f g : α → Bool} : ∀ l : List α, (∀ x ∈ l, f x = g x) → l.all f = l.all g
 | [], _ => rfl
 | a :: l, h => by rw [List.all_cons, List.all_cons, h a (List.mem_cons_self ..), aEk l (fun x hx => h x (List.mem_cons_of_mem _ hx))]
theorem aBS {f g : Nat → Bool} : ∀ l : List Nat, l.all (fun i => f i && g i) = (l.all f && l.all g)
 | [] => rfl
 | a :: l => by rw [List.all_cons, List.all_cons, List.all_cons, aBS l]; cases f a <;> cases g a <;> cases l.all f <;> rfl
theorem aHc (S : dS p t L H) (hk : fO p tab) (hm : ∀ a ∈ tab, SmU a) : ((qC F tab (eP p H tab) (fun x => rD x.1 x.2.1 x.2.2)).bind fun y5 => bif y5 then (kC F tab t F 0).bind fun o => match o with | Sum.inr r => some r | Sum.inl _ => some (true, 0) else some (false, 0)) = some (tE p H tab, 0) := by
 have dl := S.defs
 have tl := hk.1
 have al := (uL (p := p) (H := H) (tab := tab))
 have ok2 := aCW (tab := tab) S
 have each : ∀ i : Nat, i < tab.length → ∃ X Y n e x D, tab[i]? = some X ∧ (eP p H tab)[i]? = some Y ∧ eG p H (i : Int) n e x D ∧ idx t.heads (i : Int) = some n ∧ kS D X ∧ kS D Y := fun i hi => by
  obtain ⟨n, e, x, D, h, a, _⟩ := S.headOf (d := (i : Int)) (by omega) (by omega)
  obtain ⟨X, hX, o1⟩ := oD hk h.hD
  obtain ⟨Y, hY, o2⟩ := oD ok2 h.hD
  exact ⟨X, Y, n, e, x, D, by have := cB hX; rwa [Int.toNat_natCast] at this, by have := cB hY; rwa [Int.toNat_natCast] at this, h, a, o1, o2⟩
 have sh : ∀ q ∈ tab.zip (eP p H tab), Sh2 q.1 q.2 := fun q hq => by
  obtain ⟨A, B⟩ := q
  obtain ⟨i, hi, he⟩ := List.mem_iff_getElem.1 hq
  have hi' := hi
  rw [List.length_zip] at hi'
  obtain ⟨X, Y, n, e, x, D, e1, e2, h, _, o1, o2⟩ := each i (by omega)
  rw [List.getElem_zip] at he
  cases he
  rw [List.getElem?_eq_getElem (by omega)] at e1 e2
  dsimp only
  rw [Option.some.inj e1, Option.some.inj e2]
  refine ⟨by rw [o1.chans, o2.chans], by rw [o1.rules, o2.rules], by rw [o1.args, o2.args], fun q hq => ?_⟩
  obtain ⟨A, B⟩ := q
  obtain ⟨j, hj, he⟩ := List.mem_iff_getElem.1 hq
  have la := o1.args
  have lb := o2.args
  have hj' := hj
  rw [List.length_zip] at hj'
  rw [List.getElem_zip] at he
  cases he
  obtain ⟨ch, hc⟩ := wJ (D := D) (c := j) (by omega)
  have m1 := o1.many _ _ _ hc (dZ (List.getElem?_eq_getElem (by omega : j < X.Args.length)))
  have m2 := o2.many _ _ _ hc (dZ (List.getElem?_eq_getElem (by omega : j < Y.Args.length)))
  dsimp only; omega
 have two_ : tE p H tab = (((tab.zip (eP p H tab)).all fun q => kz covP q.1 q.2) && (List.range tab.length).all fun i => (tab[i]?).elim true fun X => (List.range X.Chans.length).all (kK p H X (i : Int))) := by
  rw [xZ _ _ _ (by omega), ← aBS, tE]
  refine aEk _ fun i hi => ?_
  obtain ⟨X, Y, n, e, x, D, e1, e2, _⟩ := each i (List.mem_range.1 hi)
  rw [e1, e2]; rfl
 rw [aDr accepts1 (by omega) (by omega) sh hm, bsm, two_]
 cases (tab.zip (eP p H tab)).all fun q => kz covP q.1 q.2 with
 | false => rfl
 | true =>
  rw [cond_true, Bool.true_and]
  have e := wC (fun k i => kC F tab t k i) tab.length (fun i => (tab[i]?).elim true fun X => (List.range X.Chans.length).all (kK p H X (i : Int))) (.inl ()) (.inr (false, 0)) (fun k i hi hok => ?_) (fun k i hi hok => ?_) (fun k => ?_) (K := F) (by show _ < 4000000; omega)
  ·rw [show kC F tab t F 0 = _ from e, bsm]
   cases (List.range tab.length).all _ <;> rfl
  ·obtain ⟨X, Y, n, e, x, D, e1, e2, h, a, o1, _⟩ := each i hi
   rw [e1] at hok
   simp only [gY, Option.elim_some] at hok
   rw [kC, if_pos (by omega), dZ e1, bsm, acc2_p S h a o1, hok, if_pos rfl, bsm]
   dsimp only
   rw [aV (by omega), bsm]
  ·obtain ⟨X, Y, n, e, x, D, e1, e2, h, a, o1, _⟩ := each i hi
   rw [e1] at hok
   simp only [gY, Option.elim_some] at hok
   rw [kC, if_pos (by omega), dZ e1, bsm, acc2_p S h a o1, hok, if_neg (by decide), bsm]
  ·rw [kC, if_neg (by omega)]
theorem aHE (S : dS p t L H) (hk : fO p tab) : ((jS F tab L (eP p H tab) F 0).bind fun o => match o with | Sum.inr r => some r | Sum.inl _ => some (true, 0)) = some (tE p H tab, 0) := by
 have dl := S.defs
 have tl := hk.1
 have al := (uL (p := p) (H := H) (tab := tab))
 have ok2 := aCW (tab := tab) S
 have each : ∀ i : Nat, i < tab.length → ∃ X Y n e x D, tab[i]? = some X ∧ (eP p H tab)[i]? = some Y ∧ eG p H (i : Int) n e x D ∧ idx L.Heads (i : Int) = some n ∧ kS D X ∧ kS D Y := fun i hi => by
  obtain ⟨n, e, x, D, h, _, a⟩ := S.headOf (d := (i : Int)) (by omega) (by omega)
  obtain ⟨X, hX, o1⟩ := oD hk h.hD
  obtain ⟨Y, hY, o2⟩ := oD ok2 h.hD
  exact ⟨X, Y, n, e, x, D, by have := cB hX; rwa [Int.toNat_natCast] at this, by have := cB hY; rwa [Int.toNat_natCast] at this, h, a, o1, o2⟩
 have acc : ∀ {X Y : UsageDef} {D : ScopeDef} (i : Nat), kS D X → kS D Y → accB p H X Y (i : Int) = (iB X.Chans Y.Chans && (iB X.Rules Y.Rules && (List.range X.Chans.length).all fun c => gY iB X.Args[c]? Y.Args[c]? && kK p H X (i : Int) c)) := fun i o1 o2 => by
  unfold accB
  rw [kz_cov (by rw [o1.args, o2.args]), aBS, show ∀ X : UsageDef, X.Args.length = X.Chans.length → List.range X.Args.length = List.range X.Chans.length from fun X h => by rw [h]]
  ·cases iB _ _ <;> cases iB _ _ <;> rfl
  ·rw [o1.args, o1.chans]
 have e := wC (fun k i => jS F tab L (eP p H tab) k i) tab.length (fun i => gY (fun X Y => accB p H X Y (i : Int)) tab[i]? (eP p H tab)[i]?) (.inl ()) (.inr (false, 0)) (fun k i hi hok => ?_) (fun k i hi hok => ?_) (fun k => ?_) (K := F) (by show _ < 4000000; omega)
 ·rw [show jS F tab L (eP p H tab) F 0 = _ from e, bsm, tE]
  cases (List.range tab.length).all _ <;> rfl
 ·obtain ⟨X, Y, n, e, x, D, e1, e2, h, a, o1, o2⟩ := each i hi
  have ho := eA h.ok
  rw [e1, e2] at hok
  simp only [gY, Option.elim_some] at hok
  rw [acc i o1 o2, Bool.and_eq_true, Bool.and_eq_true] at hok
  rw [jS, if_pos (by omega), dZ e1, bsm, dZ e2, bsm, vA (by rw [o1.chans, o2.chans]) (by rw [o1.chans]; omega), bsm, hok.1, Bool.not_true, cond_false, bsm, bsm, vA (by rw [o1.rules, o2.rules]) (by rw [o1.rules]; omega), bsm, hok.2.1, cond_true,
   acc2_r S h a (dZ e1) (dZ e2) o1 o2, hok.2.2, if_pos rfl, bsm]
  dsimp only
  rw [aV (by omega), bsm]
 ·obtain ⟨X, Y, n, e, x, D, e1, e2, h, a, o1, o2⟩ := each i hi
  have ho := eA h.ok
  rw [e1, e2] at hok
  simp only [gY, Option.elim_some] at hok
  rw [acc i o1 o2] at hok
  rw [jS, if_pos (by omega), dZ e1, bsm, dZ e2, bsm, vA (by rw [o1.chans, o2.chans]) (by rw [o1.chans]; omega), bsm]
  cases c1 : iB X.Chans Y.Chans with
  | false => rw [Bool.not_false, cond_true, bsm, bsm, bsm]
  | true =>
   rw [c1, Bool.true_and] at hok
   rw [Bool.not_true, cond_false, bsm, bsm, vA (by rw [o1.rules, o2.rules]) (by rw [o1.rules]; omega), bsm]
   cases c2 : iB X.Rules Y.Rules with
   | false => rw [cond_false, bsm, bsm, bsm]
   | true =>
    rw [c2, Bool.true_and] at hok
    rw [cond_true, acc2_r S h a (dZ e1) (dZ e2) o1 o2, hok, if_neg (by decide), bsm]
 ·rw [jS, if_neg (by omega)]
theorem aFq (hp : SmP p) (ht : tab.length ≤ 2000000) (hm : ∀ a ∈ tab, SmU a) : ∃ r, qF F p tab = some r ∧ vK F p tab = some r := by
 have hpp : (⟨p.Free, p.Nodes, p.Defs, p.Main⟩ : ScopeProg) = p := rfl
 rw [qF, vK, hpp, check_eq hp, aHK hp]
 cases h : eX p with
 | none => exact ⟨(false, 2), rfl, rfl⟩
 | some s =>
  obtain ⟨t, L, t1, l1, S⟩ := sees hp h
  rw [show (if (some s : Option VS).isSome = true then (0 : Int) else 2) = 0 from rfl, bsm (a := (0 : Int)), bsm (a := (0 : Int)), if_neg (show ¬ (0 : Int) ≠ 0 from fun q => q rfl), if_neg (show ¬ (0 : Int) ≠ 0 from fun q => q rfl), t1, bsm (a := t), fine_eq (by rw [S.prog]; exact hp.defs) hm, S.prog, good_eq hp.defs hm, bsm (a := iM p tab), bsm (a := iM p tab)]
  cases hg : iM p tab with
  | false => exact ⟨(false, 2), rfl, rfl⟩
  | true =>
   have hk := good_ok hg
   obtain ⟨a1, a2⟩ := all_eq' S hk
   refine ⟨(tE p p.Nodes.length tab, 0), ?_, ?_⟩
   ·rw [cond_true, a1, bsm]; exact aHc S hk hm
   ·rw [cond_true, l1, bsm, a2, bsm]; exact aHE S hk
end
end Go.Proofs.YtmnbfgeljmhekaaGreat
namespace Go.Proofs.YtmnbfgeljmhekaaGreat
open Go.SX Go.SW
theorem aHj {W : World} {a : Addr} {c : Value} (h : W.cell? a = some c) : (hU W).cell a = some c := by
 unfold World.cell? at h
 unfold Mem.cell uH hU
 cases hb : W.heap[a.block]? with
 | none => rw [hb] at h; cases h
 | some o =>
  rw [hb] at h
  cases o with
  | cells c t fr =>
   dsimp only at h ⊢
   first
    | exact h
    | (cases hs : a.spot with
      | none => rw [hs] at h; simpa using h
      | some s => rw [hs] at h; simp at h)
  | _ => cases h
theorem aDT {H : Type} {d : DataW H} {l : List (DataW H)} (h : d ∈ l) : Rows.uptoBulk d ≤ Rows.uptoBulkAll l := by
 induction l with
 | nil => cases h
 | cons x r ih =>
  simp only [Rows.uptoBulkAll]
  cases h with
  | head => omega
  | tail _ e => have := ih e; omega
theorem bulk_one {H : Type} (d : DataW H) : 1 ≤ Rows.uptoBulk d := by
 cases d with
 | lit l => cases l <;> simp [Rows.uptoBulk]
 | _ => simp [Rows.uptoBulk]
section
variable {H : Type} {enc : TypeId × Value → H} {P : Program} {W : World}
def Rd (enc : TypeId × Value → H) (P : Program) (W : World) (n : Nat) {α : Type} (T : Ty α) (t : TypeId) (μ : α → Nat) (S : α → Prop) : Prop :=
 ∀ cs x, DataW.trod enc P W 0 (fun _ => true) true n t cs = some x → Rows.uptoBulk x.1 ≤ 1048576 → ∃ a, bG (T.leafs a) (hU W) cs ∧ μ a ≤ Rows.uptoBulk x.1 ∧ S a
def RdF (enc : TypeId × Value → H) (P : Program) (W : World) (n : Nat) (fs : List Field) (o e : Nat) {β : Type} (L : β → List Fact) (μ : β → Nat) (S : β → Prop) : Prop :=
 ∀ (cs : List Value) xs, cs.length = e → (fs.mapM fun f => DataW.trod enc P W 0 (fun _ => true) true n f.type ((cs.drop f.offset).take (P.cellsOf f.type))) = some xs → Rows.uptoBulkAll (xs.map (·.1)) ≤ 1048576 → ∃ b, bG (L b) (hU W) (cs.drop o) ∧ μ b ≤ Rows.uptoBulkAll (xs.map (·.1)) ∧ S b
theorem mD {α : Type} {T : Ty α} {t : TypeId} {μ : α → Nat} {S : α → Prop} : Rd enc P W 0 T t μ S := fun cs x h => by cases h
theorem oM {n e : Nat} : RdF enc P W n [] e e (β := Unit) (fun _ => []) (fun _ => 0) (fun _ => True) := fun cs xs hl h hb => ⟨(), by rw [List.drop_of_length_le (by omega)]; rfl, Nat.zero_le _, trivial⟩
theorem aDP {α β : Type} {f : α → Option β} {x : α} {l : List α} {ys : List β} (h : (x :: l).mapM f = some ys) : ∃ y r, f x = some y ∧ l.mapM f = some r ∧ ys = y :: r := by
 rw [List.mapM_cons] at h
 cases hx : f x with
 | none => rw [hx] at h; cases h
 | some y =>
  cases hl : l.mapM f with
  | none => rw [hx, hl] at h; cases h
  | some r => rw [hx, hl] at h; cases h; exact ⟨y, r, rfl, rfl, rfl⟩
theorem eL {n o e : Nat} {f : Field} {fs : List Field} {α β : Type} {T : Ty α} {μ : α → Nat} {S : α → Prop} {L : β → List Fact} {ν : β → Nat} {R : β → Prop} (h : Rd enc P W n T f.type μ S) (ho : f.offset = o) (hz : P.cellsOf f.type = T.sz) (k : RdF enc P W n fs (o + T.sz) e L ν R) :
  RdF enc P W n (f :: fs) o e (fun x : α × β => T.leafs x.1 ++ L x.2) (fun x => μ x.1 + ν x.2) (fun x => S x.1 ∧ R x.2) := fun cs xs hl hm hb => by
 obtain ⟨y, r, h1, h2, rfl⟩ := aDP hm
 simp only [List.map_cons, Rows.uptoBulkAll] at hb
 obtain ⟨a, a1, a2, a3⟩ := h _ _ h1 (by omega)
 obtain ⟨b, b1, b2, b3⟩ := k cs r hl h2 (by omega)
 refine ⟨(a, b), ?_, by simp only [List.map_cons, Rows.uptoBulkAll]; omega, a3, b3⟩
 have := a1.append b1
 rw [ho, hz, ← List.drop_drop, List.take_append_drop] at this
 exact this
theorem oU {n e : Nat} {α β : Type} {T : Ty α} {t : TypeId} {fs : Array Field} {μ : α → Nat} {S : α → Prop} {L : β → List Fact} {ν : β → Nat} {R : β → Prop} (mk : β → α) (ht : P.underlying t = some (.struct fs)) (hc : P.cellsOf t = e) (k : RdF enc P W n fs.toList 0 e L ν R)
  (hL : ∀ b, T.leafs (mk b) = L b) (hμ : ∀ b, μ (mk b) ≤ ν b + 1) (hS : ∀ b, R b → ν b + 1 ≤ 1048576 → S (mk b)) : Rd enc P W (n + 1) T t μ S := fun cs x h hb => by
 rw [DataW.trod_step] at h
 unfold DataW.trodStep at h
 rw [ht] at h
 dsimp only at h
 split at h
 ·rename_i hcs
  cases hm : (fs.toList.mapM fun f => DataW.trod enc P W 0 (fun _ => true) true n f.type ((cs.drop f.offset).take (P.cellsOf f.type))) with
  | none => rw [hm] at h; cases h
  | some xs =>
   rw [hm] at h
   cases h
   simp only [Rows.uptoBulk] at hb
   obtain ⟨b, b1, b2, b3⟩ := k cs xs (by omega) hm (by omega)
   rw [List.drop_zero] at b1
   have := hμ b
   refine ⟨mk b, by rw [hL]; exact b1, by simp only [Rows.uptoBulk]; omega, hS b b3 (by omega)⟩
 ·cases h
theorem rd_int {n : Nat} {t : TypeId} {k : IntKind} (ht : P.underlying t = some (.int k)) : Rd enc P W n (aB k) t (fun _ => 1) (fun i => (Lit.int k i).wf = true) := fun cs x h hb => by
 obtain _ | n := n
 ·cases h
 rw [DataW.trod_step] at h
 unfold DataW.trodStep at h
 rw [ht] at h
 match cs, h with
 | [.int k' i], h =>
  dsimp only at h
  split at h
  ·rename_i hc
   obtain ⟨rfl, hw⟩ := hc
   cases h
   exact ⟨i, ⟨_, [], rfl, rfl, rfl⟩, Nat.le_refl _, hw⟩
  ·cases h
theorem rd_str {n : Nat} {t : TypeId} (ht : P.underlying t = some .string) : Rd enc P W n aM t (fun s => s.size + 1) (fun s => s.size ≤ 1048576) := fun cs x h hb => by
 obtain _ | n := n
 ·cases h
 rw [DataW.trod_step] at h
 unfold DataW.trodStep at h
 rw [ht] at h
 match cs, h with
 | [.string s], h =>
  dsimp only at h
  split at h
  ·cases h
   have e : s.data.toList.length = s.size := rfl
   simp only [Rows.uptoBulk] at hb
   exact ⟨s, ⟨_, [], rfl, rfl, rfl⟩, by simp only [Rows.uptoBulk]; omega, by omega⟩
  ·cases h
def msum {α : Type} (μ : α → Nat) : List α → Nat
 | [] => 0
 | a :: l => μ a + msum μ l
theorem aDI {α : Type} {f : Nat → Option α} {n : Nat} {l : List α} (h : (List.range n).mapM f = some l) : l.length = n ∧ ∀ i, i < n → ∃ y, l[i]? = some y ∧ f i = some y := by
 have g : ∀ (ks : List Nat) (l : List α), ks.mapM f = some l → l.length = ks.length ∧ ∀ (i k : Nat), ks[i]? = some k → ∃ y, l[i]? = some y ∧ f k = some y := fun ks => by
  induction ks with
  | nil => intro l h; cases h; exact ⟨rfl, fun i k h => by simp at h⟩
  | cons k ks ih =>
   intro l h
   obtain ⟨y, r, h1, h2, rfl⟩ := aDP h
   obtain ⟨a, b⟩ := ih r h2
   refine ⟨by simp [a], fun i q hq => ?_⟩
   cases i with
   | zero => simp at hq; subst hq; exact ⟨y, rfl, h1⟩
   | succ i => exact b i q (by simpa using hq)
 obtain ⟨a, b⟩ := g _ _ h
 exact ⟨by simpa using a, fun i hi => b i i (by simp [hi])⟩
theorem aFh {W : World} {b z : Nat} {a : Addr} {cs : List Value} (h : W.cells? b a z = some cs) : ∀ (j : Nat) c, cs[j]? = some c → W.cell? (a.add j) = some c := by
 unfold World.cells? at h
 split at h
 ·obtain ⟨h1, h2⟩ := aDI h
  intro j c hj
  have := (List.getElem?_eq_some_iff.1 hj).1
  obtain ⟨y, y1, y2⟩ := h2 j (by omega)
  rw [hj] at y1; cases y1; exact y2
 ·cases h
theorem aC4 {α γ : Type} {Q : γ → α → Prop} : ∀ (l : List γ), (∀ c ∈ l, ∃ a, Q c a) → ∃ r : List α, r.length = l.length ∧ ∀ (i : Nat) c, l[i]? = some c → ∃ a, r[i]? = some a ∧ Q c a
 | [], _ => ⟨[], rfl, fun i c h => by simp at h⟩
 | c :: l, h => by
  obtain ⟨a, ha⟩ := h c (.head _)
  obtain ⟨r, h1, h2⟩ := aC4 l (fun c hc => h c (.tail _ hc))
  refine ⟨a :: r, by simp [h1], fun i q hq => ?_⟩
  cases i with
  | zero => simp at hq; subst hq; exact ⟨a, rfl, ha⟩
  | succ i => exact h2 i q (by simpa using hq)
theorem aDY {α : Type} {μ : α → Nat} : ∀ {r : List α} {ds : List (DataW H)}, r.length = ds.length → (∀ (i : Nat) d a, ds[i]? = some d → r[i]? = some a → μ a ≤ Rows.uptoBulk d) → msum μ r ≤ Rows.uptoBulkAll ds ∧ r.length ≤ Rows.uptoBulkAll ds
 | [], [], _, _ => ⟨Nat.zero_le _, Nat.zero_le _⟩
 | a :: r, d :: ds, hl, h => by
  obtain ⟨h1, h2⟩ := aDY (r := r) (ds := ds) (by simpa using hl) (fun i d a hd ha => h (i + 1) d a (by simpa using hd) (by simpa using ha))
  have := h 0 d a rfl rfl
  have := bulk_one d
  simp only [msum, Rows.uptoBulkAll, List.length_cons]; omega
theorem rd_sl {n : Nat} {t e : TypeId} {α : Type} {T : Ty α} {μ : α → Nat} {S : α → Prop} (ht : P.underlying t = some (.slice e)) (hz : P.cellsOf e = T.sz) (h : Rd enc P W n T e μ S) : Rd enc P W (n + 1) (tSl T) t (fun l => msum μ l + 1) (fun l => l.length ≤ 1048576 ∧ ∀ a ∈ l, S a) := fun cs x hx hb => by
 rw [DataW.trod_step] at hx
 unfold DataW.trodStep at hx
 rw [ht] at hx
 match cs, hx with
 | [.slice none 0 0], hx =>
  cases hx
  exact ⟨[], ⟨_, [], rfl, eC (hU W) _ rfl, rfl⟩, Nat.le_refl _, by simp, fun a ha => by cases ha⟩
 | [.slice (some p) len cap], hx =>
  dsimp only at hx
  split at hx
  ·rename_i hc
   cases h1 : ((List.range len).mapM fun i => (W.cells? 0 (p.add (i * P.cellsOf e)) (P.cellsOf e)).bind (DataW.trod enc P W 0 (fun _ => true) true n e)) with
   | none => rw [h1] at hx; cases hx
   | some es =>
    rw [h1] at hx
    obtain ⟨aY, _, rfl⟩ := Option.map_eq_some_iff.1 hx
    obtain ⟨l1, l2⟩ := aDI h1
    simp only [Rows.uptoBulk] at hb
    have each : ∀ y ∈ es, ∃ a, (μ a ≤ Rows.uptoBulk y.1 ∧ S a) ∧ ∀ i cs', W.cells? 0 (p.add (i * P.cellsOf e)) (P.cellsOf e) = some cs' → DataW.trod enc P W 0 (fun _ => true) true n e cs' = some y → True := fun y hy => by
     obtain ⟨i, hi, rfl⟩ := List.mem_iff_getElem.1 hy
     obtain ⟨y, y1, y2⟩ := l2 i (by omega)
     obtain ⟨cs', c1, c2⟩ := Option.bind_eq_some_iff.1 y2
     have e1 : es[i] = y := by rw [List.getElem?_eq_getElem hi] at y1; exact Option.some.inj y1
     have m1 : Rows.uptoBulk y.1 ≤ Rows.uptoBulkAll (es.map (·.1)) := aDT (List.mem_map_of_mem (by rw [← e1]; exact List.getElem_mem _))
     obtain ⟨a, a1, a2, a3⟩ := h _ _ c2 (by omega)
     exact ⟨a, ⟨by rw [e1]; exact a2, a3⟩, fun _ _ _ _ => trivial⟩
    have each2 : ∀ i ∈ List.range len, ∃ a, (∃ y, es[i]? = some y ∧ μ a ≤ Rows.uptoBulk y.1) ∧ S a ∧ T.at (hU W) (p.add (i * T.sz)) a := fun i hi => by
     obtain ⟨y, y1, y2⟩ := l2 i (by simpa using hi)
     obtain ⟨cs', c1, c2⟩ := Option.bind_eq_some_iff.1 y2
     have m1 : Rows.uptoBulk y.1 ≤ Rows.uptoBulkAll (es.map (·.1)) := aDT (List.mem_map_of_mem (List.mem_of_getElem? y1))
     obtain ⟨a, a1, a2, a3⟩ := h _ _ c2 (by omega)
     exact ⟨a, ⟨y, y1, a2⟩, a3, cs', a1, fun j c hj => by rw [← hz]; exact aHj (aFh c1 j c hj)⟩
    obtain ⟨r, r1, r2⟩ := aC4 (List.range len) each2
    have rl : r.length = len := by simpa using r1
    have r3 : ∀ i, i < len → ∃ a, r[i]? = some a ∧ (∃ y, es[i]? = some y ∧ μ a ≤ Rows.uptoBulk y.1) ∧ S a ∧ T.at (hU W) (p.add (i * T.sz)) a := fun i hi => r2 i i (by simp [hi])
    obtain ⟨m1, m2⟩ := aDY (μ := μ) (r := r) (ds := es.map (·.1)) (by simp [rl, l1]) (fun i d a hd ha => by
     obtain ⟨a', a1, ⟨y, y1, y2⟩, _⟩ := r3 i (by have := (List.getElem?_eq_some_iff.1 ha).1; omega)
     rw [ha] at a1; cases a1
     rw [List.getElem?_map, y1] at hd; cases hd
     exact y2)
    refine ⟨r, ⟨_, [], rfl, ⟨fun i => p.add (i * T.sz), ⟨some p, cap, by rw [rl], by rw [rl]; exact hc.2.1, fun i _ => ⟨p, rfl, rfl⟩⟩, by omega, fun i a ha => ?_⟩, rfl⟩, by simp only [Rows.uptoBulk]; omega, by omega, fun a ha => ?_⟩
    ·obtain ⟨a', a1, _, _, a2⟩ := r3 i (by have := (List.getElem?_eq_some_iff.1 ha).1; omega)
     rw [ha] at a1; cases a1; exact a2
    ·obtain ⟨i, hi, rfl⟩ := List.mem_iff_getElem.1 ha
     obtain ⟨a', a1, _, a2, _⟩ := r3 i (by omega)
     rw [List.getElem?_eq_getElem hi] at a1; cases a1; exact a2
  ·cases hx
theorem Rd.mono {n : Nat} {α : Type} {T : Ty α} {t : TypeId} {μ ν : α → Nat} {S R : α → Prop} (h : Rd enc P W n T t μ S) (hμ : ∀ a, ν a ≤ μ a) (hS : ∀ a, S a → μ a ≤ 1048576 → R a) : Rd enc P W n T t ν R := fun cs x hx hb => by
 obtain ⟨a, a1, a2, a3⟩ := h cs x hx hb
 exact ⟨a, a1, Nat.le_trans (hμ a) a2, hS a a3 (by omega)⟩
theorem arg_st {α : Type} {T : Ty α} {t : TypeId} {μ : α → Nat} {S : α → Prop} {fs : Array Field} {r : Reach} {b0 : Nat} {v : Value} {d : DataW H} {ps : List MemPlace} (h : ∀ n, Rd enc P W n T t μ S) (ht : P.underlying t = some (.struct fs)) (hval : Value.okWide P W r b0 t v)
  (hd : DataW.Trod enc P W 0 (fun _ => true) true t v d ps) (hb : Rows.uptoBulk d ≤ 1048576) : ∃ a, (fSt T a).p (hU W) v ∧ S a := by
 unfold Value.okWide at hval
 rw [ht] at hval
 obtain ⟨cs, rfl, _⟩ := hval
 obtain ⟨n, hn⟩ := hd
 obtain ⟨a, a1, _, a2⟩ := h n _ _ hn hb
 exact ⟨a, ⟨cs.toList, by simp, a1⟩, a2⟩
theorem arg_sl {α : Type} {T : Ty α} {t e : TypeId} {μ : List α → Nat} {S : List α → Prop} {r : Reach} {b0 : Nat} {v : Value} {d : DataW H} {ps : List MemPlace} (h : ∀ n, Rd enc P W n (tSl T) t μ S) (ht : P.underlying t = some (.slice e)) (hval : Value.okWide P W r b0 t v)
  (hd : DataW.Trod enc P W 0 (fun _ => true) true t v d ps) (hb : Rows.uptoBulk d ≤ 1048576) : ∃ a, (fSl T a).p (hU W) v ∧ S a := by
 have hc : v.cells = #[v] := by
  cases v with
  | agg cs => simp [Value.okWide, ht, Cell.okWide, Cell.ok] at hval
  | _ => rfl
 obtain ⟨n, hn⟩ := hd
 rw [hc] at hn
 obtain ⟨a, ⟨c, l, e1, a1, _⟩, _, a2⟩ := h n _ _ hn hb
 cases e1
 exact ⟨a, a1, a2⟩
end
end Go.Proofs.YtmnbfgeljmhekaaGreat
namespace Go.Proofs.YtmnbfgeljmhekaaGreat
open Go.SX Go.SW Go.Dt
section
variable {H : Type} {enc : TypeId × Value → H} {W : World}
abbrev RdP (enc : TypeId × Value → H) (W : World) (n : Nat) {α : Type} (T : Ty α) (t : TypeId) (μ : α → Nat) (S : α → Prop) : Prop := Rd enc Tryz.prog W n T t μ S
theorem iD (n : Nat) {t : TypeId} (ht : Tryz.prog.underlying t = some (.int .i64)) : RdP enc W n (aB .i64) t (fun _ => 1) (fun _ => True) := (rd_int ht).mono (fun _ => Nat.le_refl _) (fun _ _ _ => trivial)
theorem mW {n : Nat} {t e : TypeId} {α : Type} {T : Ty α} {μ : α → Nat} {S : α → Prop} (ht : Tryz.prog.underlying t = some (.slice e)) (hz : Tryz.prog.cellsOf e = T.sz) (h : ∀ k, RdP enc W k T e μ S) : RdP enc W n (tSl T) t (fun l => msum μ l + 1) (fun l => l.length ≤ 1048576 ∧ ∀ a ∈ l, S a) := by
 cases n with
 | zero => exact mD
 | succ n => exact rd_sl ht hz (h n)
theorem wQ (n : Nat) {t e : TypeId} (ht : Tryz.prog.underlying t = some (.slice e)) (he : Tryz.prog.underlying e = some (.int .i64)) (hz : Tryz.prog.cellsOf e = 1) : RdP enc W n (tSl (aB .i64)) t (fun _ => 0) (fun l => l.length ≤ 1048576) :=
 (mW ht hz (fun k => iD k he)).mono (fun _ => Nat.zero_le _) (fun _ h _ => h.1)
theorem wN : ∀ l : List ScopeExp, nL l = msum nE l
 | [] => rfl
 | a :: l => by simp only [nL, msum, wN l]
theorem aDG (a b : Int) (c : List ScopeExp) : bD.leafs ⟨a, b, c⟩ = [aA .i64 a, aA .i64 b, fSl bD c] := by
 show [_, _, fS c] = _
 rw [gX]
theorem rd_exp : ∀ n : Nat, RdP enc W n bD 56 nE (fun e => nE e ≤ 1048576)
 | 0 => mD
 | 1 => fun cs x h hb => (oU (μ := nE) (S := fun e => nE e ≤ 1048576) (T := bD) (fun b : Int × Int × List ScopeExp × Unit => ⟨b.1, b.2.1, b.2.2.1⟩) Tryz.underlying56 (e := 3) (by kernel_rfl)
   (eL (iD 0 Tryz.underlying54) rfl (by kernel_rfl) (eL (iD 0 Tryz.underlying3) rfl (by kernel_rfl) (eL (T := tSl bD) (μ := fun l => msum nE l + 1) (S := fun _ => True) mD rfl (by kernel_rfl) oM)))
   (fun b => aDG b.1 b.2.1 b.2.2.1) (fun b => by simp only [nE, wN]; omega) (fun b _ hb => by simp only [nE, wN] at *; omega)) cs x h hb
 | n + 2 => fun cs x h hb => (oU (μ := nE) (S := fun e => nE e ≤ 1048576) (T := bD) (fun b : Int × Int × List ScopeExp × Unit => ⟨b.1, b.2.1, b.2.2.1⟩) Tryz.underlying56 (e := 3) (by kernel_rfl)
   (eL (iD _ Tryz.underlying54) rfl (by kernel_rfl) (eL (iD _ Tryz.underlying3) rfl (by kernel_rfl) (eL (rd_sl Tryz.underlying48 (by kernel_rfl) (rd_exp n)) rfl (by kernel_rfl) oM)))
   (fun b => aDG b.1 b.2.1 b.2.2.1) (fun b => by simp only [nE, wN]; omega) (fun b _ hb => by simp only [nE, wN] at *; omega)) cs x h hb
theorem aF8 : ∀ n : Nat, RdP enc W n aK 51 (fun _ => 0) (fun x => x.Args.length ≤ 2000000 ∧ x.Kids.length ≤ 2000000 ∧ ∀ e ∈ x.Args, nE e ≤ 2000000)
 | 0 => mD
 | n + 1 => oU (T := aK) (fun b : Int × Int × List ScopeExp × List Int × Unit => ⟨b.1, b.2.1, b.2.2.1, b.2.2.2.1⟩) Tryz.underlying51 (e := 4) (by kernel_rfl)
   (eL (iD n Tryz.underlying47) rfl (by kernel_rfl) (eL (iD n Tryz.underlying3) rfl (by kernel_rfl) (eL (mW Tryz.underlying48 (by kernel_rfl) rd_exp) rfl (by kernel_rfl) (eL (wQ n Tryz.underlying49 Tryz.underlying3 (by kernel_rfl)) rfl (by kernel_rfl) oM))))
   (fun _ => rfl) (fun _ => Nat.zero_le _) (fun b h _ => ⟨by have := h.2.2.1.1; show b.2.2.1.length ≤ _; omega, by have := h.2.2.2.1; show b.2.2.2.1.length ≤ _; omega, fun e he => Nat.le_trans (h.2.2.1.2 e he) (by omega)⟩)
theorem aHQ : ∀ n : Nat, RdP enc W n aU 110 (fun _ => 0) (fun _ => True)
 | 0 => mD
 | n + 1 => oU (T := aU) (fun b : Int × Int × Unit => ⟨b.1, b.2.1⟩) Tryz.underlying110 (e := 2) (by kernel_rfl)
   (eL (iD n Tryz.underlying3) rfl (by kernel_rfl) (eL (iD n Tryz.underlying3) rfl (by kernel_rfl) oM))
   (fun _ => rfl) (fun _ => Nat.zero_le _) (fun _ _ _ => trivial)
theorem aFx : ∀ n : Nat, RdP enc W n bH 102 (fun _ => 0) (fun _ => True)
 | 0 => mD
 | n + 1 => oU (T := bH) (fun b : Int × Int × Unit => ⟨b.1, b.2.1⟩) Tryz.underlying102 (e := 2) (by kernel_rfl)
   (eL (iD n Tryz.underlying3) rfl (by kernel_rfl) (eL (iD n Tryz.underlying3) rfl (by kernel_rfl) oM))
   (fun _ => rfl) (fun _ => Nat.zero_le _) (fun _ _ _ => trivial)
theorem aGr : ∀ n : Nat, RdP enc W n aZ 105 (fun _ => 0) (fun x => x.Joins.length ≤ 2000000)
 | 0 => mD
 | n + 1 => oU (T := aZ) (fun b : Int × List Int × Int × Unit => ⟨b.1, b.2.1, b.2.2.1⟩) Tryz.underlying105 (e := 3) (by kernel_rfl)
   (eL (iD n Tryz.underlying3) rfl (by kernel_rfl) (eL (wQ n Tryz.underlying49 Tryz.underlying3 (by kernel_rfl)) rfl (by kernel_rfl) (eL (iD n Tryz.underlying3) rfl (by kernel_rfl) oM)))
   (fun _ => rfl) (fun _ => Nat.zero_le _) (fun b h _ => by have := h.2.1; show b.2.1.length ≤ _; omega)
theorem aFK : ∀ n : Nat, RdP enc W n aI 99 (fun _ => 0) (smD)
 | 0 => mD
 | n + 1 => oU (T := aI) (fun b : List ScopeChan × List ScopeSpot × List ScopeRule × Unit => ⟨b.1, b.2.1, b.2.2.1⟩) Tryz.underlying99 (e := 3) (by kernel_rfl)
   (eL (mW Tryz.underlying95 (by kernel_rfl) aHQ) rfl (by kernel_rfl) (eL (mW Tryz.underlying96 (by kernel_rfl) aFx) rfl (by kernel_rfl) (eL (mW Tryz.underlying97 (by kernel_rfl) aGr) rfl (by kernel_rfl) oM)))
   (fun _ => rfl) (fun _ => Nat.zero_le _) (fun b h _ => ⟨by have := h.1.1; show b.1.length ≤ _; omega, by have := h.2.1.1; show b.2.1.length ≤ _; omega, by have := h.2.2.1.1; show b.2.2.1.length ≤ _; omega, h.2.2.1.2⟩)
theorem aGM : ∀ n : Nat, RdP enc W n cY 26 (fun _ => 0) (SmP)
 | 0 => mD
 | n + 1 => oU (T := cY) (fun b : List ByteArray × List ScopeNode × List ScopeDef × Int × Unit => ⟨b.1, b.2.1, b.2.2.1, b.2.2.2.1⟩) Tryz.underlying26 (e := 4) (by kernel_rfl)
   (eL (mW (S := fun s : ByteArray => s.size ≤ 1048576) Tryz.underlying22 (by kernel_rfl) (fun k => (rd_str (n := k) Tryz.underlying9))) rfl (by kernel_rfl) (eL (mW Tryz.underlying23 (by kernel_rfl) aF8) rfl (by kernel_rfl) (eL (mW Tryz.underlying24 (by kernel_rfl) aFK) rfl (by kernel_rfl) (eL (iD n Tryz.underlying3) rfl (by kernel_rfl) oM))))
   (fun _ => rfl) (fun _ => Nat.zero_le _) (fun b h _ => ⟨by have := h.2.1.1; show b.2.1.length ≤ _; omega, by have := h.2.2.1.1; show b.2.2.1.length ≤ _; omega, by have := h.1.1; show b.1.length ≤ _; omega, fun x hx => Nat.le_trans (h.1.2 x hx) (by omega), h.2.1.2, h.2.2.1.2⟩)
theorem aFL : ∀ n : Nat, RdP enc W n aX 61 (fun _ => 0) (SmU)
 | 0 => mD
 | n + 1 => oU (T := aX) (fun b : List Int × List Int × List (List Int) × Unit => ⟨b.1, b.2.1, b.2.2.1⟩) Tryz.underlying61 (e := 3) (by kernel_rfl)
   (eL (wQ n Tryz.underlying58 Tryz.underlying30 (by kernel_rfl)) rfl (by kernel_rfl) (eL (wQ n Tryz.underlying58 Tryz.underlying30 (by kernel_rfl)) rfl (by kernel_rfl) (eL (mW Tryz.underlying59 (by kernel_rfl) (fun k => wQ k Tryz.underlying58 Tryz.underlying30 (by kernel_rfl))) rfl (by kernel_rfl) oM)))
   (fun _ => rfl) (fun _ => Nat.zero_le _) (fun b h _ => ⟨by have := h.1; show b.1.length ≤ _; omega, by have := h.2.1; show b.2.1.length ≤ _; omega, by have := h.2.2.1.1; show b.2.2.1.length ≤ _; omega, fun a ha => Nat.le_trans (h.2.2.1.2 a ha) (by omega)⟩)
end
end Go.Proofs.YtmnbfgeljmhekaaGreat
set_option maxRecDepth 100000
namespace Go.Proofs.YtmnbfgeljmhekaaGreat
open Go.SX Go.SW Go.Dt
theorem large2 {t : List UsageDef} {i : Int} {y : UsageDef} (hy : idx t i = some y) (hm : y.Args.length ≤ 2000000) : ∀ (k : Nat) (j : Int), 0 ≤ j → (y.Args.length : Int) - j < k → j ≤ (y.Args.length : Int) → ∃ r, qG t i k j = some r
 | 0, j, h0, h1, h2 => absurd h1 (by omega)
 | k + 1, j, h0, h1, h2 => by
  rw [qG, hy, bsm]
  by_cases hj : j < (y.Args.length : Int)
  ·obtain ⟨a, ha⟩ := dU (xs := y.Args) h0 hj
   rw [if_pos hj, bsm, ha, bsm]
   by_cases hl : 60 < (a.length : Int)
   ·rw [if_pos hl]; exact ⟨_, rfl⟩
   ·rw [if_neg hl, aV (by omega), bsm]
    exact large2 hy hm k (j + 1) (by omega) (by omega) (by omega)
  ·rw [if_neg hj]; exact ⟨_, rfl⟩
theorem large1 {t : List UsageDef} (ht : t.length ≤ 2000000) (hm : ∀ a ∈ t, SmU a) : ∀ (k : Nat) (j : Int), 0 ≤ j → (t.length : Int) - j < k → j ≤ (t.length : Int) → ∃ r, qH F t k j = some r
 | 0, j, h0, h1, h2 => absurd h1 (by omega)
 | k + 1, j, h0, h1, h2 => by
  rw [qH]
  by_cases hj : j < (t.length : Int)
  ·obtain ⟨a, ha⟩ := dU (xs := t) h0 hj
   have hs := hm a (eF ha)
   rw [if_pos hj, ha, bsm]
   by_cases h1' : 60 < (a.Chans.length : Int)
   ·rw [if_pos h1', bsm, bsm]; exact ⟨_, rfl⟩
   ·rw [if_neg h1', bsm]
    by_cases h2' : 60 < (a.Rules.length : Int)
    ·rw [if_pos h2', bsm, bsm]; exact ⟨_, rfl⟩
    ·rw [if_neg h2', bsm]
     by_cases h3 : 60 < (a.Args.length : Int)
     ·rw [if_pos h3, bsm, bsm]; exact ⟨_, rfl⟩
     ·rw [if_neg h3]
      obtain ⟨r, hr⟩ := large2 ha hs.args F 0 (Int.le_refl _) (by have := hs.args; show _ < ((4000000 : Nat) : Int); omega) (by omega)
      rw [hr, bsm]
      cases r with
      | inr r => exact ⟨_, rfl⟩
      | inl u =>
       dsimp only
       rw [aV (by omega), bsm]
       exact large1 ht hm k (j + 1) (by omega) (by omega) (by omega)
  ·rw [if_neg hj]; exact ⟨_, rfl⟩
theorem large_eq {t : List UsageDef} (ht : t.length ≤ 2000000) (hm : ∀ a ∈ t, SmU a) : ∃ b, vN F t = some b := by
 rw [vN]
 by_cases h : 40 < (t.length : Int)
 ·rw [if_pos h]; exact ⟨_, rfl⟩
 ·rw [if_neg h]
  obtain ⟨r, hr⟩ := large1 ht hm F 0 (Int.le_refl _) (by show _ < ((4000000 : Nat) : Int); omega) (by omega)
  rw [hr, bsm]
  cases r <;> exact ⟨_, rfl⟩
theorem works_ev : tX 4000000 = some true := by kernel_rfl
theorem aC1 : tX F = some true := works_ev
end Go.Proofs.YtmnbfgeljmhekaaGreat
set_option maxRecDepth 100000
namespace Go.Proofs.YtmnbfgeljmhekaaGreat
open Go.SX Go.SW Go.Dt
theorem aF9 {p : ScopeProg} {t : List UsageDef} (hp : SmP p) (ht : t.length ≤ 2000000) (hm : ∀ a ∈ t, SmU a) : yD F p t = some true := by
 have hpp : (⟨p.Free, p.Nodes, p.Defs, p.Main⟩ : ScopeProg) = p := rfl
 obtain ⟨b, hb⟩ := large_eq ht hm
 obtain ⟨r, r1, r2⟩ := aFq hp ht hm
 rw [yD, hb, bsm]
 cases b
 ·rw [cond_false, hpp, r1, bsm, r2, bsm, beq_self_eq_true, cond_true, if_pos rfl, aC1, bsm, bsm]
 ·rw [cond_true, aC1, bsm]
end Go.Proofs.YtmnbfgeljmhekaaGreat
namespace Go.SW
open Go.SX
theorem aGA {w w' : World} (h : w.keptBut w' (fun _ => False)) {p : MemPlace} (hp : p.block < w.heap.size) : w.sameAt w' p := by
 obtain ⟨_, _, h⟩ := h
 cases p with
 | cell b off =>
  have := h b hp
  show w'.cell? _ = w.cell? _
  unfold World.cell?
  dsimp only at *
  cases h1 : w.heap[b]? with
  | none => rw [h1] at this; dsimp only at this; rw [this]
  | some o =>
   rw [h1] at this
   cases o with
   | cells c t fr =>
    cases h2 : w'.heap[b]? with
    | none => rw [h2] at this; cases this
    | some o' =>
     rw [h2] at this
     cases o' with
     | cells c' t' fr' =>
      dsimp only at this ⊢
      rw [this.2.2.2 off (fun f => f)]
     | _ => cases this
   | map es clock =>
    cases h2 : w'.heap[b]? with
    | none => rfl
    | some o' =>
     rw [h2] at this
     cases o' with
     | cells => cases this
     | _ => rfl
   | _ => dsimp only at this; rw [this]
 | map b =>
  have := h b hp
  show w'.heap[b]? = w.heap[b]?
  cases h1 : w.heap[b]? with
  | none => rw [h1] at this; exact this
  | some o =>
   rw [h1] at this
   cases o with
   | cells c t fr =>
    cases h2 : w'.heap[b]? with
    | none => rw [h2] at this; cases this
    | some o' =>
     rw [h2] at this
     cases o' with
     | cells c' t' fr' =>
      dsimp only at this
      obtain ⟨rfl, rfl, hs, hc⟩ := this
      have : c' = c := Array.ext_getElem? fun j => hc j (fun f => f)
      rw [this]
     | _ => cases this
   | map es clock =>
    cases h2 : w'.heap[b]? with
    | none => rw [h2] at this; cases this
    | some o' =>
     rw [h2] at this
     cases o' with
     | map es' clock' =>
      rcases this with f | ⟨rfl, rfl⟩
      ·exact f.elim
      ·rfl
     | _ => cases this
   | _ => exact this
theorem aCq {H : Type} {enc : TypeId × Value → H} {P : Program} {W W' : World} (hl : laidOutB P = true) (hm : mapsRowed P = true) (hz : ∀ t e, t < P.types.size → P.underlying t = some (.slice e) → 0 < P.cellsOf e) (hk : W.keptBut W' (fun _ => False)) :
  ∀ {ts : List TypeId} {vs : List Value} {ds : List (DataW H)} {ps : List MemPlace}, (∀ t ∈ ts, t < P.types.size) → DataW.TrodAll enc P W 0 (fun _ => true) true ts vs ds ps → DataW.TrodAll enc P W' 0 (fun b => decide (b < W.heap.size)) true ts vs ds ps
 | [], [], [], _, _, h => h
 | t :: _, _ :: _, _ :: _, ps, ht, h => by
  have hlt := h.lt
  obtain ⟨p, q, ⟨n, hn⟩, h2, e⟩ := h
  refine ⟨p, q, ⟨n, ?_⟩, aCq hl hm hz hk (fun t h => ht t (.tail _ h)) h2, e⟩
  have hp : ∀ x ∈ p, x.block < W.heap.size := fun x hx => hlt x (by rw [e]; exact List.mem_append_left _ hx)
  exact DataW.trod_stays (kids_rows hl hm) (fun a b => hz _ _ a b) (fun f => by cases f) (ht t (.head _)) hn (fun x hx => aGA hk (hp x hx)) (fun x hx => decide_eq_true (hp x hx))
 | [], _ :: _, _, _, _, h => h.elim
 | [], [], _ :: _, _, _, h => h.elim
 | _ :: _, [], _, _, _, h => h.elim
 | _ :: _, _ :: _, [], _, _, h => h.elim
end Go.SW
