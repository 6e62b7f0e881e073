/- Parts of the proof: lemmas, and the steps through the program. -/
import Derived.Test.YtmnbfgeljmhekaaKl4
set_option linter.unusedVariables false
set_option linter.unusedSimpArgs false
set_option maxRecDepth 100000
namespace Go.Proofs.Ytmnbfgeljmhekaa
open Go.SX Go.SW Go.Dt
variable {p : ScopeProg} {t : Usage_text} {L : bR} {H : Nat} {tab tab' : List UsageDef} {d n : Int} {e : E} {x : ScopeNode} {D : ScopeDef}
theorem qR {a : Int} (h : two a) : cnt (eG a) = a := by
 rcases aAp h with rfl | rfl | rfl <;> rfl
theorem aA5 {f g : Int → Int} (hf : ∀ v, two (f v) ∧ two (g v) ∧ f v ≤ g v) {c i : Int} : ∀ (l : List Int) (a w w' : Int), two w → two w' → w ≤ w' → iJ f D c i l a w ≤ iJ g D c i l a w' ∧ two (iJ f D c i l a w) ∧ two (iJ g D c i l a w')
 | [], a, w, w', h1, h2, h3 => ⟨h3, h1, h2⟩
 | j :: l, a, w, w', h1, h2, h3 => by
  obtain ⟨q1, q2, q3⟩ := hf (a + i)
  rw [iJ, iJ]
  by_cases hj : j = c
  ·rw [if_pos hj, if_pos hj]; exact aA5 hf l _ _ _ (by unfold two at *; omega) (by unfold two at *; omega) (by omega)
  ·rw [if_neg hj, if_neg hj]; exact aA5 hf l _ _ _ h1 h2 h3
theorem aB4 {f : Int → Int} (hf : ∀ v, two (f v)) {c i : Int} : ∀ (l : List Int) (a w : Int), two w → w ≤ iJ f D c i l a w
 | [], a, w, h1 => Int.le_refl _
 | j :: l, a, w, h1 => by
  have q := hf (a + i)
  rw [iJ]
  by_cases hj : j = c
  ·rw [if_pos hj]; exact Int.le_trans (by omega) (aB4 hf l _ _ (by unfold two at *; omega))
  ·rw [if_neg hj]; exact aB4 hf l _ _ h1
theorem aBf {ru ru' : List Int} (hr : ∀ i, kc ru i ≤ kc ru' i) {f g : ScopeRule → Int → Int} {b c i : Int} : ∀ (l : List ScopeRule) (k w w' : Int), (∀ r ∈ l, ∀ v, two (f r v) ∧ two (g r v) ∧ f r v ≤ g r v) → two w → two w' → w ≤ w' → gH ru b f D c i l k w ≤ gH ru' b g D c i l k w' ∧ two (gH ru b f D c i l k w)
 | [], k, w, w', _, h1, h2, h3 => ⟨h3, h1⟩
 | r :: l, k, w, w', hf, h1, h2, h3 => by
  have hk := hr k
  have kt := wO (l := ru) (i := k)
  obtain ⟨m1, m2, m3⟩ := aA5 (D := D) (c := c) (i := i) (hf r (List.mem_cons_self ..)) r.Joins b w w' h1 h2 h3
  have m4 := aB4 (D := D) (c := c) (i := i) (fun v => (hf r (List.mem_cons_self ..) v).2.1) r.Joins b w' h2
  rw [gH, gH]
  refine aBf hr l _ _ _ (fun r hr => hf r (List.mem_cons_of_mem _ hr)) ?_ ?_ ?_
  ·split <;> assumption
  ·split <;> assumption
  ·by_cases c1 : kc ru k = 0
   ·rw [if_pos c1]
    split
    ·exact h3
    ·omega
   ·rw [if_neg c1, if_neg (by unfold two at kt; omega)]; exact m1
theorem aBl {ch ch' : List Int} (hc : ∀ i, kc ch i ≤ kc ch' i) : ∀ (l : List Int) (w w' : Int), two w → w ≤ w' → l.foldl (fun w j => min w (kc ch j)) w ≤ l.foldl (fun w j => min w (kc ch' j)) w' ∧ two (l.foldl (fun w j => min w (kc ch j)) w)
 | [], w, w', h1, h2 => ⟨h2, h1⟩
 | j :: l, w, w', h1, h2 => by
  have := hc j
  have k2 := wO (l := ch) (i := j)
  rw [List.foldl_cons, List.foldl_cons]
  exact aBl hc l _ _ (by unfold two at *; omega) (by omega)
theorem aCL (S : bP p t L H) (h : LeT tab tab') {q : Int × E} (hq : q ∈ LN p H (cK p)) (v : Int) : two (snd p tab q v) ∧ two (snd p tab' q v) ∧ snd p tab q v ≤ snd p tab' q v :=
 ⟨pG 60 q (S.tr60 hq), pG 60 q (S.tr60 hq), aEq h 60 q (S.tr60 hq)⟩
theorem aAZ (S : bP p t L H) (h : LeT tab tab') (hh : dV p H d n e x D) (v : Int) : gM tab x D e (fun k => snd p tab k v) ≤ gM tab' x D e (fun k => snd p tab' k v) ∧ two (gM tab x D e fun k => snd p tab k v) := by
 obtain ⟨_, hs⟩ := S.subs hh.ln hh.hx
 exact aEu h hh.op (by rw [hh.hN]; exact hh.hD) hh.kid fun k hk => aCL S h (hs k hk) v
theorem aDO (S : bP p t L H) (hh : dV p H d n e x D) {r : ScopeRule} (hr : r ∈ D.Rules) : (r.Node, ruE e d D r) ∈ LN p H (cK p) := by
 have := (S.subs hh.ln hh.hx).2 _ (xT (e := e) hh.op (by rw [hh.hN]; exact hh.hD) hr)
 rwa [hh.hN] at this
theorem LeT.of (ha : cH p tab) (hb : cH p tab') (k : ∀ (d : Int) D X Y, idx p.Defs d = some D → idx tab d = some X → idx tab' d = some Y → (∀ c : Nat, c < D.Chans.length → kc X.Chans c ≤ kc Y.Chans c) ∧ (∀ c : Nat, c < D.Rules.length → kc X.Rules c ≤ kc Y.Rules c) ∧ ∀ (c : Nat) a b, X.Args[c]? = some a → Y.Args[c]? = some b → ∀ i : Nat, i < a.length → kc a i ≤ kc b i) : LeT tab tab' := fun d i => by
 have out : ∀ {a b : List Int}, a.length = b.length → (∀ c : Nat, c < a.length → kc a c ≤ kc b c) → kc a i ≤ kc b i := fun {a b} hl hc => by
  by_cases hi : 0 ≤ i ∧ i < a.length
  ·have := hc i.toNat (by omega)
   rwa [show ((i.toNat : Nat) : Int) = i from by omega] at this
  ·unfold kc; rw [kC hi, kC (by omega)]; exact Int.le_refl _
 by_cases hd : 0 ≤ d ∧ d < p.Defs.length
 ·obtain ⟨D, hD⟩ := cM (xs := p.Defs) hd.1 hd.2
  obtain ⟨X, hX, o1⟩ := kR ha hD
  obtain ⟨Y, hY, o2⟩ := kR hb hD
  obtain ⟨k1, k2, k3⟩ := k d D X Y hD hX hY
  rw [show dY tab d = X.Chans from by unfold dY; rw [hX]; rfl, show dY tab' d = Y.Chans from by unfold dY; rw [hY]; rfl, show dS tab d = X.Rules from by unfold dS; rw [hX]; rfl, show dS tab' d = Y.Rules from by unfold dS; rw [hY]; rfl]
  refine ⟨out (by rw [o1.chans, o2.chans]) (by rw [o1.chans]; exact k1), out (by rw [o1.rules, o2.rules]) (by rw [o1.rules]; exact k2), fun c => ?_⟩
  rw [show iW tab (d, c) = (idx X.Args c).getD [] from by unfold iW; dsimp only; rw [hX, bsm], show iW tab' (d, c) = (idx Y.Args c).getD [] from by unfold iW; dsimp only; rw [hY, bsm]]
  by_cases hc : 0 ≤ c ∧ c < X.Args.length
  ·obtain ⟨a, h1⟩ := cM (xs := X.Args) hc.1 hc.2
   obtain ⟨b, h2⟩ := cM (xs := Y.Args) hc.1 (by rw [o2.args, ← o1.args]; exact hc.2)
   obtain ⟨ch, h3⟩ := cM (xs := D.Chans) hc.1 (by rw [← o1.args]; exact hc.2)
   have m1 := o1.many _ _ _ h3 h1
   have m2 := o2.many _ _ _ h3 h2
   rw [h1, h2]
   show kc a i ≤ kc b i
   exact out (by omega) (k3 c.toNat a b (bN h1) (bN h2))
  ·rw [kC hc, kC (by rw [o2.args, ← o1.args]; exact hc)]; exact Int.le_refl _
 ·have n1 : idx tab d = none := kC (by rw [ha.1]; exact hd)
  have n2 : idx tab' d = none := kC (by rw [hb.1]; exact hd)
  exact ⟨by unfold dY; rw [n1, n2]; exact Int.le_refl _, by unfold dS; rw [n1, n2]; exact Int.le_refl _, fun c => by unfold iW; dsimp only; rw [n1, n2]; exact Int.le_refl _⟩
theorem fX {a : List Int} {c : Nat} {y : Int} (h : a[c]? = some y) : kc a (c : Int) = cnt y := by unfold kc; rw [bB h]; rfl
theorem aC9 {α β : Type} {f : α → β} {l : List α} {i : Nat} (h : i < l.length) : (l.map f)[i]? = some (f (l[i]'h)) := by simp [h]
theorem jF {β : Type} {f : Nat → β} {n i : Nat} (h : i < n) : ((List.range n).map f)[i]? = some (f i) := by simp [h]
theorem ask_le (S : bP p t L H) (h : LeT tab tab') (hh : dV p H d n e x D) : (∀ c : Nat, c < D.Chans.length → kc (eS p tab d x D e).Chans c ≤ kc (eS p tab' d x D e).Chans c) ∧ (∀ c : Nat, c < D.Rules.length → kc (eS p tab d x D e).Rules c ≤ kc (eS p tab' d x D e).Rules c) ∧
  ∀ (c : Nat) a b, (eS p tab d x D e).Args[c]? = some a → (eS p tab' d x D e).Args[c]? = some b → ∀ i : Nat, i < a.length → kc a i ≤ kc b i := by
 refine ⟨fun c hc => ?_, fun c hc => ?_, fun c a b h1 h2 i hi => ?_⟩
 ·obtain ⟨a, b⟩ := aAZ S h hh ((e.length : Int) + (c : Int))
  have b' := (aAZ S (LeT.rfl (t := tab')) hh ((e.length : Int) + (c : Int))).2
  rw [eS, eS, fX (jF hc), fX (jF hc), qR b, qR b']; exact a
 ·obtain ⟨a, b⟩ := aBl (fun i => (h d i).1) (D.Rules[c]'hc).Joins 2 2 (by unfold two; omega) (Int.le_refl _)
  obtain ⟨_, b'⟩ := aBl (fun i => (LeT.rfl (t := tab') d i).1) (D.Rules[c]'hc).Joins 2 2 (by unfold two; omega) (Int.le_refl _)
  rw [eS, eS, fX (aC9 hc), fX (aC9 hc), minJ, minJ, qR b, qR b']; exact a
 ·have hc : c < D.Chans.length := by have := (List.getElem?_eq_some_iff.1 h1).1; simpa [eS] using this
  rw [eS] at h1 h2
  dsimp only at h1 h2
  rw [jF hc] at h1 h2
  cases h1; cases h2
  rw [List.length_map, List.length_range] at hi
  obtain ⟨a, b⟩ := aBf (D := D) (fun i => (h d i).2.1) (b := (e.length : Int) + (D.Chans.length : Int) + (D.Spots.length : Int)) (c := (c : Int)) (i := (i : Int)) (f := fun r v => snd p tab (r.Node, ruE e d D r) v) (g := fun r v => snd p tab' (r.Node, ruE e d D r) v) D.Rules 0 0 0 (fun r hr v => aCL S h (aDO S hh hr) v) (by unfold two; omega) (by unfold two; omega) (Int.le_refl _)
  obtain ⟨_, b'⟩ := aBf (D := D) (fun i => (LeT.rfl (t := tab') d i).2.1) (b := (e.length : Int) + (D.Chans.length : Int) + (D.Spots.length : Int)) (c := (c : Int)) (i := (i : Int)) (f := fun r v => snd p tab' (r.Node, ruE e d D r) v) (g := fun r v => snd p tab' (r.Node, ruE e d D r) v) D.Rules 0 0 0 (fun r hr v => aCL S LeT.rfl (aDO S hh hr) v) (by unfold two; omega) (by unfold two; omega) (Int.le_refl _)
  rw [fX (jF hi), fX (jF hi), qR b, qR b']; exact a
theorem yK (S : bP p t L H) {d : Int} {D : ScopeDef} (hD : idx p.Defs d = some D) : ∃ n e x, dV p H d n e x D ∧ ∀ tab, idx (cU p H tab) d = some (eS p tab d x D e) := by
 have hd := eX hD
 obtain ⟨c, rfl⟩ : ∃ c : Nat, d = (c : Int) := ⟨d.toNat, by omega⟩
 obtain ⟨n, e, x, D', h, _, _⟩ := S.headOf (d := (c : Int)) hd.1 hd.2
 have := h.hD; rw [hD] at this; cases this
 exact ⟨n, e, x, h, fun tab => yZ S (by omega) h⟩
theorem yS (S : bP p t L H) (h : LeT tab tab') : LeT (cU p H tab) (cU p H tab') := by
 refine LeT.of (kP S) (kP S) fun d D X Y hD hX hY => ?_
 obtain ⟨n, e, x, hh, ha⟩ := yK S hD
 rw [ha] at hX hY
 cases hX; cases hY
 exact ask_le S h hh
def kK (k : Int) : Prop := k = 1 ∨ k = 3 ∨ k = 4
theorem aB1 (a : Int) : kK (eG a) := by unfold eG kK; split; omega; split <;> omega
theorem kK_inj {a b : Int} (ha : kK a) (hb : kK b) (h : cnt a = cnt b) : a = b := by
 rcases ha with rfl | rfl | rfl <;> rcases hb with rfl | rfl | rfl <;> first | rfl | (exact absurd h (by decide))
def jK : List Int → Int
 | [] => 0
 | a :: l => cnt a + jK l
theorem aAr : ∀ l : List Int, 0 ≤ jK l ∧ jK l ≤ 2 * l.length
 | [] => by simp [jK]
 | a :: l => by have := aAr l; have := gS a; unfold two at this; simp only [jK, List.length_cons]; omega
theorem zR : ∀ {a b : List Int}, a.length = b.length → (∀ i : Nat, i < a.length → kc a i ≤ kc b i) → jK a ≤ jK b ∧ (jK b ≤ jK a → (∀ x ∈ a, kK x) → (∀ x ∈ b, kK x) → a = b)
 | [], [], _, _ => ⟨Int.le_refl _, fun _ _ _ => rfl⟩
 | x :: a, y :: b, hl, h => by
  obtain ⟨i1, i2⟩ := zR (a := a) (b := b) (by simpa using hl) (fun i hi => by
   have := h (i + 1) (by simp; omega)
   unfold kc idx at this ⊢
   rw [if_pos (by omega), if_pos (by omega)] at this ⊢
   simpa using this)
  have h0 : cnt x ≤ cnt y := h 0 (by simp)
  simp only [jK]
  refine ⟨by omega, fun hs ka kb => ?_⟩
  rw [kK_inj (ka x (List.mem_cons_self ..)) (kb y (List.mem_cons_self ..)) (by omega), i2 (by omega) (fun z hz => ka z (List.mem_cons_of_mem _ hz)) (fun z hz => kb z (List.mem_cons_of_mem _ hz))]
def lN : List (List Int) → Int
 | [] => 0
 | a :: l => jK a + lN l
theorem aEG {m : Nat} : ∀ l : List (List Int), (∀ a ∈ l, a.length ≤ m) → 0 ≤ lN l ∧ lN l ≤ (2 * m * l.length : Nat)
 | [], _ => by simp [lN]
 | a :: l, h => by
  have i := aEG (m := m) l (fun a ha => h a (List.mem_cons_of_mem _ ha))
  have j := aAr a
  have k := h a (List.mem_cons_self ..)
  simp only [lN, List.length_cons, Nat.mul_add, Nat.mul_one, Int.natCast_add] at *; omega
theorem aEn : ∀ {a b : List (List Int)}, a.length = b.length → (∀ (i : Nat) x y, a[i]? = some x → b[i]? = some y → x.length = y.length ∧ ∀ j : Nat, j < x.length → kc x j ≤ kc y j) → lN a ≤ lN b ∧ (lN b ≤ lN a → (∀ x ∈ a, ∀ k ∈ x, kK k) → (∀ x ∈ b, ∀ k ∈ x, kK k) → a = b)
 | [], [], _, _ => ⟨Int.le_refl _, fun _ _ _ => rfl⟩
 | x :: a, y :: b, hl, h => by
  obtain ⟨i1, i2⟩ := aEn (a := a) (b := b) (by simpa using hl) (fun i u v hu hv => h (i + 1) u v (by simpa using hu) (by simpa using hv))
  obtain ⟨l0, h0⟩ := h 0 x y rfl rfl
  obtain ⟨j1, j2⟩ := zR l0 h0
  simp only [lN]
  refine ⟨by omega, fun hs ka kb => ?_⟩
  rw [j2 (by omega) (ka x (List.mem_cons_self ..)) (kb y (List.mem_cons_self ..)), i2 (by omega) (fun z hz => ka z (List.mem_cons_of_mem _ hz)) (fun z hz => kb z (List.mem_cons_of_mem _ hz))]
def wtU (X : UsageDef) : Int := jK X.Chans + jK X.Rules + lN X.Args
def wtT : List UsageDef → Int
 | [] => 0
 | X :: l => wtU X + wtT l
structure KU (X : UsageDef) : Prop where
 chans : ∀ k ∈ X.Chans, kK k
 rules : ∀ k ∈ X.Rules, kK k
 args : ∀ a ∈ X.Args, ∀ k ∈ a, kK k
theorem wtU_le {X Y : UsageDef} (o1 : lB D X) (o2 : lB D Y) (k1 : ∀ c : Nat, c < D.Chans.length → kc X.Chans c ≤ kc Y.Chans c) (k2 : ∀ c : Nat, c < D.Rules.length → kc X.Rules c ≤ kc Y.Rules c) (k3 : ∀ (c : Nat) a b, X.Args[c]? = some a → Y.Args[c]? = some b → ∀ i : Nat, i < a.length → kc a i ≤ kc b i) :
  wtU X ≤ wtU Y ∧ (wtU Y ≤ wtU X → KU X → KU Y → X = Y) := by
 obtain ⟨a1, a2⟩ := zR (a := X.Chans) (b := Y.Chans) (by rw [o1.chans, o2.chans]) (by rw [o1.chans]; exact k1)
 obtain ⟨b1, b2⟩ := zR (a := X.Rules) (b := Y.Rules) (by rw [o1.rules, o2.rules]) (by rw [o1.rules]; exact k2)
 obtain ⟨c1, c2⟩ := aEn (a := X.Args) (b := Y.Args) (by rw [o1.args, o2.args]) (fun i u v hu hv => by
  have hi := (List.getElem?_eq_some_iff.1 hu).1
  obtain ⟨ch, h3⟩ := jZ (D := D) (c := i) (by rw [← o1.args]; exact hi)
  have m1 := o1.many _ _ _ h3 (bB hu)
  have m2 := o2.many _ _ _ h3 (bB hv)
  exact ⟨by omega, k3 i u v hu hv⟩)
 unfold wtU
 refine ⟨by omega, fun h u v => ?_⟩
 have e1 := a2 (by omega) u.chans v.chans
 have e2 := b2 (by omega) u.rules v.rules
 have e3 := c2 (by omega) u.args v.args
 cases X; cases Y
 simp only at e1 e2 e3
 rw [e1, e2, e3]
theorem wtT_le : ∀ {A B : List UsageDef}, A.length = B.length → (∀ (i : Nat) X Y, A[i]? = some X → B[i]? = some Y → wtU X ≤ wtU Y ∧ (wtU Y ≤ wtU X → KU X → KU Y → X = Y)) → wtT A ≤ wtT B ∧ (wtT B ≤ wtT A → (∀ X ∈ A, KU X) → (∀ X ∈ B, KU X) → A = B)
 | [], [], _, _ => ⟨Int.le_refl _, fun _ _ _ => rfl⟩
 | x :: a, y :: b, hl, h => by
  obtain ⟨i1, i2⟩ := wtT_le (A := a) (B := b) (by simpa using hl) (fun i u v hu hv => h (i + 1) u v (by simpa using hu) (by simpa using hv))
  obtain ⟨j1, j2⟩ := h 0 x y rfl rfl
  simp only [wtT]
  refine ⟨by omega, fun hs ka kb => ?_⟩
  rw [j2 (by omega) (ka x (List.mem_cons_self ..)) (kb y (List.mem_cons_self ..)), i2 (by omega) (fun z hz => ka z (List.mem_cons_of_mem _ hz)) (fun z hz => kb z (List.mem_cons_of_mem _ hz))]
theorem LeT.weigh (ha : cH p tab) (hb : cH p tab') (h : LeT tab tab') : wtT tab ≤ wtT tab' ∧ (wtT tab' ≤ wtT tab → (∀ X ∈ tab, KU X) → (∀ X ∈ tab', KU X) → tab = tab') := by
 refine wtT_le (by rw [ha.1, hb.1]) fun i X Y hX hY => ?_
 have hi := (List.getElem?_eq_some_iff.1 hX).1
 obtain ⟨D, hD⟩ := cM (xs := p.Defs) (i := (i : Int)) (by omega) (by rw [← ha.1]; omega)
 have o1 := ha.2 _ _ _ hD (bB hX)
 have o2 := hb.2 _ _ _ hD (bB hY)
 have a1 : dY tab (i : Int) = X.Chans := by unfold dY; rw [bB hX]; rfl
 have a2 : dY tab' (i : Int) = Y.Chans := by unfold dY; rw [bB hY]; rfl
 have b1 : dS tab (i : Int) = X.Rules := by unfold dS; rw [bB hX]; rfl
 have b2 : dS tab' (i : Int) = Y.Rules := by unfold dS; rw [bB hY]; rfl
 refine wtU_le o1 o2 (fun c _ => ?_) (fun c _ => ?_) (fun c a b hca hcb j _ => ?_)
 ·have := (h (i : Int) (c : Int)).1; rwa [a1, a2] at this
 ·have := (h (i : Int) (c : Int)).2.1; rwa [b1, b2] at this
 ·have := (h (i : Int) (j : Int)).2.2 (c : Int)
  unfold iW at this
  dsimp only at this
  rw [bB hX, bB hY, bsm, bsm, bB hca, bB hcb] at this
  exact this
theorem aA6 : ∀ (A : List UsageDef), (∀ X ∈ A, X.Chans.length ≤ 30 ∧ X.Rules.length ≤ 30 ∧ X.Args.length ≤ 30 ∧ ∀ a ∈ X.Args, a.length ≤ 3) → 0 ≤ wtT A ∧ wtT A ≤ 400 * A.length
 | [], _ => by simp [wtT]
 | X :: A, h => by
  have i := aA6 A (fun X hX => h X (List.mem_cons_of_mem _ hX))
  obtain ⟨h1, h2, h3, h4⟩ := h X (List.mem_cons_self ..)
  have j1 := aAr X.Chans
  have j2 := aAr X.Rules
  have j3 := aEG (m := 3) X.Args h4
  simp only [wtT, wtU, List.length_cons]; omega
theorem cH.bd (S : bP p t L H) (hk : cH p tab) : ∀ X ∈ tab, X.Chans.length ≤ 30 ∧ X.Rules.length ≤ 30 ∧ X.Args.length ≤ 30 ∧ ∀ a ∈ X.Args, a.length ≤ 3 := fun X hX => by
 obtain ⟨i, hi, rfl⟩ := List.mem_iff_getElem.1 hX
 have hl := hk.1
 obtain ⟨D, hD⟩ := cM (xs := p.Defs) (i := (i : Int)) (by omega) (by omega)
 obtain ⟨n, e, x, hh, _⟩ := yK S hD
 have ho := dQ hh.ok
 have o := hk.2 _ _ _ hD (bB (List.getElem?_eq_getElem hi))
 have c1 := o.chans
 have c2 := o.rules
 have c3 := o.args
 refine ⟨by omega, by omega, by omega, fun a ha => ?_⟩
 obtain ⟨j, hj, rfl⟩ := List.mem_iff_getElem.1 ha
 obtain ⟨ch, h3⟩ := jZ (D := D) (c := j) (by omega)
 have m := o.many _ _ _ h3 (bB (List.getElem?_eq_getElem hj))
 have := ho.2.2.2.1 ch (dW h3)
 omega
theorem aAz (S : bP p t L H) : ∀ X ∈ cU p H tab, KU X := fun X hX => by
 obtain ⟨i, hi, rfl⟩ := List.mem_iff_getElem.1 hX
 rw [oJ] at hi
 obtain ⟨D, hD⟩ := cM (xs := p.Defs) (i := (i : Int)) (by omega) (by omega)
 obtain ⟨n, e, x, hh, ha⟩ := yK S hD
 have := bN (ha tab)
 rw [Int.toNat_natCast, List.getElem?_eq_getElem (by rw [oJ]; exact hi)] at this
 rw [Option.some.inj this]
 refine ⟨fun k hk => ?_, fun k hk => ?_, fun a ha k hk => ?_⟩
 ·obtain ⟨c, _, rfl⟩ := List.mem_map.1 hk; exact aB1 _
 ·obtain ⟨c, _, rfl⟩ := List.mem_map.1 hk; exact aB1 _
 ·obtain ⟨c, _, rfl⟩ := List.mem_map.1 ha
  obtain ⟨i, _, rfl⟩ := List.mem_map.1 hk; exact aB1 _
end Go.Proofs.Ytmnbfgeljmhekaa
set_option maxRecDepth 100000
namespace Go.Proofs.Ytmnbfgeljmhekaa
open Go.SX Go.SW Go.Dt
variable {p : ScopeProg} {t : Usage_text} {L : bR} {H : Nat} {tab tab' : List UsageDef} {d n : Int} {e : E} {x : ScopeNode} {D : ScopeDef}
def kH (D : ScopeDef) : UsageDef := ⟨List.replicate D.Chans.length 1, List.replicate D.Rules.length 1, (List.range D.Chans.length).map fun c : Nat => List.replicate (mny D (c : Int)).toNat 1⟩
def fV (p : ScopeProg) : List UsageDef := p.Defs.map kH
theorem rep_all : ((List.range 31).all fun n : Nat => decide (rS 4000000 [1] (n : Int) = some (List.replicate n 1))) = true := by kernel_rfl
theorem aCr {n : Nat} (h : n ≤ 30) : rS F [1] (n : Int) = some (List.replicate n 1) := of_decide_eq_true (List.all_eq_true.1 rep_all n (List.mem_range.2 (by omega)))
theorem aBi {α : Type} {a : α} {i : Nat} : List.replicate i a ++ [a] = List.replicate (i + 1) a := List.replicate_succ'.symm
theorem aC7 {α : Type} {l : List α} {i : Nat} {u : α} (h : idx l (i : Int) = some u) : l.take i ++ [u] = l.take (i + 1) := by
 have := bN h
 rw [Int.toNat_natCast] at this
 rw [List.take_add_one, this]; rfl
theorem bP.okD (S : bP p t L H) {d : Int} {D : ScopeDef} (hD : idx p.Defs d = some D) : okD D = true := by
 obtain ⟨n, e, x, hh, _⟩ := yK S hD
 exact hh.ok
theorem none_p (S : bP p t L H) : uP F t = some (fV p) := by
 have dl := S.defs
 rw [uP, show nB F t F [] 0 = some (fV p) from ?_, bsm]
 refine fG (fun k (s : List UsageDef × Int) => nB F t k s.1 s.2) p.Defs.length (fun i => ((fV p).take i, (i : Int))) _ (fun k i hi => ?_) (fun k => ?_) (by show _ < 4000000; omega)
 ·dsimp only
  obtain ⟨D, hD⟩ := cM (xs := p.Defs) (i := (i : Int)) (by omega) (by omega)
  have ho := dQ (S.okD hD)
  have inner : mF F D F 0 [] = some ((List.range D.Chans.length).map fun c : Nat => List.replicate (mny D (c : Int)).toNat 1) := by
   refine fG (fun k (s : Int × List (List Int)) => mF F D k s.1 s.2) D.Chans.length (fun i => ((i : Int), (List.range i).map fun c : Nat => List.replicate (mny D (c : Int)).toNat 1)) _ (fun k i hi => ?_) (fun k => ?_) (by show _ < 4000000; omega)
   ·dsimp only
    obtain ⟨y, hy⟩ := jZ hi
    have hm := ho.2.2.2.1 y (dW hy)
    rw [mF, if_pos (by omega), hy, bsm, show y.Many = ((y.Many.toNat : Nat) : Int) from by omega, aCr (by omega), bsm, fH (by simp; omega), bsm, aP (by omega), bsm]
    congr 1
    rw [← qC, pJ hy]
   ·dsimp only
    rw [mF, if_neg (by omega)]
  have len : ((fV p).take i).length ≤ 12 := by rw [List.length_take, fV, List.length_map]; omega
  rw [nB, S.prog, if_pos (by omega), hD, bsm, aCr (by omega), bsm, aCr (by omega), bsm, inner, bsm, fH (by simp at len ⊢; omega), bsm, bsm, aP (by omega), bsm]
  congr 1
  refine aC7 (l := fV p) (i := i) ?_
  exact xQ (f := kH) hD
 ·dsimp only
  rw [nB, S.prog, if_neg (by omega), List.take_of_length_le (by simp [fV])]
theorem none_r (S : bP p t L H) : aA1 F p = some (fV p) := by
 have dl := S.defs
 rw [aA1, show tN F p F [] 0 = some (fV p) from ?_, bsm]
 refine fG (fun k (s : List UsageDef × Int) => tN F p k s.1 s.2) p.Defs.length (fun i => ((fV p).take i, (i : Int))) _ (fun k i hi => ?_) (fun k => ?_) (by show _ < 4000000; omega)
 ·dsimp only
  obtain ⟨D, hD⟩ := cM (xs := p.Defs) (i := (i : Int)) (by omega) (by omega)
  have ho := dQ (S.okD hD)
  have in2 : tA F p (i : Int) F 0 [] [] = some (List.replicate D.Chans.length 1, (List.range D.Chans.length).map fun c : Nat => List.replicate (mny D (c : Int)).toNat 1) := by
   refine fG (fun k (s : Int × List Int × List (List Int)) => tA F p (i : Int) k s.1 s.2.1 s.2.2) D.Chans.length (fun i => ((i : Int), List.replicate i 1, (List.range i).map fun c : Nat => List.replicate (mny D (c : Int)).toNat 1)) _ (fun k j hj => ?_) (fun k => ?_) (by show _ < 4000000; omega)
   ·dsimp only
    obtain ⟨y, hy⟩ := jZ hj
    have hm := ho.2.2.2.1 y (dW hy)
    have in3 : sY p (i : Int) (j : Int) F [] 0 = some (List.replicate y.Many.toNat 1) := by
     refine fG (fun k (s : List Int × Int) => sY p (i : Int) (j : Int) k s.1 s.2) y.Many.toNat (fun i => (List.replicate i 1, (i : Int))) _ (fun k l hl => ?_) (fun k => ?_) (by show _ < 4000000; omega)
     ·dsimp only
      rw [sY, hD, bsm, hy, bsm, if_pos (by omega), fH (by simp; omega), bsm, aP (by omega), bsm, aBi]
      rfl
     ·dsimp only
      rw [sY, hD, bsm, hy, bsm, if_neg (by omega)]
    rw [tA, hD, bsm, if_pos (by omega), fH (by simp; omega), bsm, in3, bsm, fH (by simp; omega), bsm, bsm]
    dsimp only
    rw [aP (by omega), bsm, aBi]
    congr 1
    rw [← qC, pJ hy]
   ·dsimp only
    rw [tA, hD, bsm, if_neg (by omega)]
  have in4 : tB p (i : Int) F 0 [] = some (List.replicate D.Rules.length 1) := by
   refine fG (fun k (s : Int × List Int) => tB p (i : Int) k s.1 s.2) D.Rules.length (fun i => ((i : Int), List.replicate i 1)) _ (fun k l hl => ?_) (fun k => ?_) (by show _ < 4000000; omega)
   ·dsimp only
    rw [tB, hD, bsm, if_pos (by omega), fH (by simp; omega), bsm, aP (by omega), bsm, aBi]
    rfl
   ·dsimp only
    rw [tB, hD, bsm, if_neg (by omega)]
  have len : ((fV p).take i).length ≤ 12 := by rw [List.length_take, fV, List.length_map]; omega
  rw [tN, if_pos (by omega), in2, bsm]
  dsimp only
  rw [in4, bsm, fH (by simp at len ⊢; omega), bsm, bsm, aP (by omega), bsm]
  congr 1
  refine aC7 (l := fV p) (i := i) ?_
  exact xQ (f := kH) hD
 ·dsimp only
  rw [tN, if_neg (by omega), List.take_of_length_le (by simp [fV])]
theorem aEY {d : Int} {D : ScopeDef} (hD : idx p.Defs d = some D) : idx (fV p) d = some (kH D) := xQ hD
theorem aCd (S : bP p t L H) : cH p (fV p) := by
 refine ⟨by simp [fV], fun i D X hD hX => ?_⟩
 rw [aEY hD] at hX; cases hX
 have ho := dQ (S.okD hD)
 refine ⟨by simp [kH], by simp [kH], by simp [kH], fun j ch a hc ha => ?_⟩
 have := eX hc
 obtain ⟨c', rfl⟩ : ∃ c' : Nat, j = (c' : Int) := ⟨j.toNat, by omega⟩
 rw [kH] at ha
 dsimp only at ha
 rw [jT (by omega)] at ha
 cases ha
 have := ho.2.2.2.1 ch (dW hc)
 rw [List.length_replicate, pJ hc]; omega
theorem noneM_KU : ∀ X ∈ fV p, KU X := fun X hX => by
 obtain ⟨D, _, rfl⟩ := List.mem_map.1 hX
 refine ⟨fun k hk => .inl (List.eq_of_mem_replicate hk), fun k hk => .inl (List.eq_of_mem_replicate hk), fun a ha k hk => ?_⟩
 obtain ⟨c, _, rfl⟩ := List.mem_map.1 ha
 exact .inl (List.eq_of_mem_replicate hk)
theorem aBt {n i : Nat} (h : i < n) : (List.replicate n (1 : Int))[i]? = some 1 := by simp [h]
theorem aEz (S : bP p t L H) (hk : cH p tab) : LeT (fV p) tab := by
 refine LeT.of (aCd S) hk fun d D X Y hD hX hY => ?_
 rw [aEY hD] at hX; cases hX
 refine ⟨fun c hc => ?_, fun c hc => ?_, fun c a b ha hb i hi => ?_⟩
 ·rw [kH, fX (aBt hc)]; exact wO.1
 ·rw [kH, fX (aBt hc)]; exact wO.1
 ·have hc : c < D.Chans.length := by have := (List.getElem?_eq_some_iff.1 ha).1; simpa [kH] using this
  rw [kH] at ha
  dsimp only at ha
  rw [jF hc] at ha
  cases ha
  rw [List.length_replicate] at hi
  rw [fX (aBt hi)]; exact wO.1
theorem sh_of (S : bP p t L H) (ha : cH p tab) (hb : cH p tab') : ∀ q ∈ tab.zip tab', Sh2 q.1 q.2 := fun q hq => by
 obtain ⟨A, B⟩ := q
 obtain ⟨i, hi, he⟩ := List.mem_iff_getElem.1 hq
 have hi' := hi
 rw [List.length_zip] at hi'
 rw [List.getElem_zip] at he
 cases he
 have l1 := ha.1
 have l2 := hb.1
 obtain ⟨D, hD⟩ := cM (xs := p.Defs) (i := (i : Int)) (by omega) (by omega)
 have o1 := ha.2 _ _ _ hD (bB (List.getElem?_eq_getElem (by omega)))
 have o2 := hb.2 _ _ _ hD (bB (List.getElem?_eq_getElem (by omega)))
 refine ⟨by rw [o1.chans, o2.chans], by rw [o1.rules, o2.rules], by rw [o1.args, o2.args], fun q hq => ?_⟩
 obtain ⟨A, B⟩ := q
 obtain ⟨j, hj, he⟩ := List.mem_iff_getElem.1 hq
 have la := o1.args
 have lb := o2.args
 have hj' := hj
 rw [List.length_zip] at hj'
 rw [List.getElem_zip] at he
 cases he
 dsimp only at hj'
 obtain ⟨ch, hc⟩ := jZ (D := D) (c := j) (by omega)
 have m1 := o1.many _ _ _ hc (bB (List.getElem?_eq_getElem (by omega)))
 have m2 := o2.many _ _ _ hc (bB (List.getElem?_eq_getElem (by omega)))
 dsimp only; omega
theorem oR {α : Type} {f : α × α → Bool} : ∀ {a b : List α}, a.length = b.length → (∀ q ∈ a.zip b, f q = true ↔ q.1 = q.2) → ((a.zip b).all f = true ↔ a = b)
 | [], [], _, _ => by simp
 | x :: a, y :: b, hl, h => by
  rw [List.zip_cons_cons, List.all_cons, Bool.and_eq_true, h (x, y) (List.mem_cons_self ..), oR (a := a) (b := b) (by simpa using hl) (fun q hq => h q (List.mem_cons_of_mem _ hq)), List.cons.injEq]
def eqP (x y : Int) (_ : Bool) : Bool := decide (x = y)
theorem kz_eqs {X Y : UsageDef} (s : Sh2 X Y) : kz eqP X Y = true ↔ X = Y := by
 unfold kz eqP
 rw [Bool.and_eq_true, Bool.and_eq_true, oR s.chans (fun q _ => decide_eq_true_iff), oR s.rules (fun q _ => decide_eq_true_iff), oR s.args (fun q hq => oR (s.each q hq) fun q _ => decide_eq_true_iff)]
 cases X; cases Y
 simp only [UsageDef.mk.injEq]
theorem aGB (S : bP p t L H) (ha : cH p tab) (hb : cH p tab') (hm : ∀ a ∈ tab, SmU a) : ∃ b, oK F tab tab' (fun x => wP x.1 x.2.1 x.2.2) = some b ∧ (b = true ↔ tab = tab') := by
 have l1 := ha.1
 have l2 := hb.1
 have dl := S.defs
 refine ⟨_, aBw (P := eqP) (fun x => rfl) (by omega) (by omega) (sh_of S ha hb) hm, oR (by omega) fun q hq => kz_eqs (sh_of S ha hb q hq)⟩
theorem vC {a b : List Int} (hB : a.length ≤ 2000000) : sA F a b = some (decide (a = b)) := by
 rw [sA]
 by_cases h : (a.length : Int) = (b.length : Int)
 ·rw [if_neg (fun q => q h)]
  have hl : a.length = b.length := by omega
  have e := xF (fun k i => mW a b k i) a.length (fun i => kW (fun x y => decide (x = y)) a[i]? b[i]?) (.inl ()) (.inr false) (fun k i hi hok => ?_) (fun k i hi hok => ?_) (fun k => ?_) (K := F) (by show _ < 4000000; omega)
  ·have e2 : (List.range a.length).all (fun i => kW (fun x y => decide (x = y)) a[i]? b[i]?) = decide (a = b) := by
    rw [← pY (fun q => decide (q.1 = q.2)) a b hl]
    have := oR (f := fun q : Int × Int => decide (q.1 = q.2)) hl (fun q _ => decide_eq_true_iff)
    by_cases h' : a = b
    ·rw [decide_eq_true h']; exact this.2 h'
    ·rw [decide_eq_false h']; cases hz : (a.zip b).all _ with
     | false => rfl
     | true => exact absurd (this.1 hz) h'
   rw [e, e2, bsm]
   cases decide (a = b) <;> rfl
  ·have h1 : a[i]? = some (a[i]'hi) := List.getElem?_eq_getElem hi
   have h2 : b[i]? = some (b[i]'(by omega)) := List.getElem?_eq_getElem (by omega)
   rw [h1, h2] at hok
   have := of_decide_eq_true hok
   rw [mW, if_pos (by omega), bB h1, bsm, bB h2, bsm, if_neg (fun q => q this), aP (by omega), bsm]
  ·have h1 : a[i]? = some (a[i]'hi) := List.getElem?_eq_getElem hi
   have h2 : b[i]? = some (b[i]'(by omega)) := List.getElem?_eq_getElem (by omega)
   rw [h1, h2] at hok
   have := of_decide_eq_false hok
   rw [mW, if_pos (by omega), bB h1, bsm, bB h2, bsm, if_pos this, bsm]
  ·rw [mW, if_neg (by omega)]
 ·rw [if_pos h, decide_eq_false (fun q => h (by rw [q]))]
def eqU (X Y : UsageDef) : Bool := decide (X.Chans = Y.Chans) && (decide (X.Rules = Y.Rules) && (List.range X.Args.length).all fun i => kW (fun a b => decide (a = b)) X.Args[i]? Y.Args[i]?)
theorem same_r (S : bP p t L H) (ha : cH p tab) (hb : cH p tab') : ∃ b, vO F tab tab' = some b ∧ (b = true ↔ tab = tab') := by
 have l1 := ha.1
 have l2 := hb.1
 have dl := S.defs
 have hl : tab.length = tab'.length := by omega
 have sh := sh_of S ha hb
 have eqs : ∀ q ∈ tab.zip tab', (eqU q.1 q.2 = true ↔ q.1 = q.2) := fun q hq => by
  have s := sh q hq
  unfold eqU
  rw [← pY (fun q => decide (q.1 = q.2)) _ _ s.args, Bool.and_eq_true, Bool.and_eq_true, oR s.args (fun q _ => decide_eq_true_iff), decide_eq_true_iff, decide_eq_true_iff]
  obtain ⟨X, Y⟩ := q
  cases X; cases Y
  simp only [UsageDef.mk.injEq]
 refine ⟨(tab.zip tab').all fun q => eqU q.1 q.2, ?_, oR hl eqs⟩
 have bd := cH.bd S ha
 have bd' := cH.bd S hb
 have each : ∀ i : Nat, i < tab.length → ∃ X Y, tab[i]? = some X ∧ tab'[i]? = some Y ∧ Sh2 X Y ∧ X ∈ tab ∧ Y ∈ tab' := fun i hi => by
  have h1 : tab[i]? = some (tab[i]'hi) := List.getElem?_eq_getElem hi
  have h2 : tab'[i]? = some (tab'[i]'(by omega)) := List.getElem?_eq_getElem (by omega)
  exact ⟨_, _, h1, h2, sh _ (aAf h1 h2), List.mem_of_getElem? h1, List.mem_of_getElem? h2⟩
 have in2 : ∀ (i : Nat) X Y, tab[i]? = some X → tab'[i]? = some Y → Sh2 X Y → X ∈ tab → lA F tab tab' (i : Int) F 0 = some (if (List.range X.Args.length).all (fun i => kW (fun a b => decide (a = b)) X.Args[i]? Y.Args[i]?) = true then .inl () else .inr (.inr false)) := fun i X Y h1 h2 s hX => by
  obtain ⟨_, _, b3, b4⟩ := bd X hX
  have la := s.args
  refine xF (fun k j => lA F tab tab' (i : Int) k j) X.Args.length _ _ _ (fun k j hj hok => ?_) (fun k j hj hok => ?_) (fun k => ?_) (by show _ < 4000000; omega)
  ·have g1 : X.Args[j]? = some (X.Args[j]'hj) := List.getElem?_eq_getElem hj
   have g2 : Y.Args[j]? = some (Y.Args[j]'(by omega)) := List.getElem?_eq_getElem (by omega)
   have := b4 _ (List.mem_of_getElem? g1)
   rw [g1, g2] at hok
   rw [lA, bB h1, bsm, if_pos (by omega), bsm, bB g1, bsm, bB h2, bsm, bB g2, bsm, vC (by omega), bsm, show decide (X.Args[j]'hj = Y.Args[j]'(by omega)) = true from hok, cond_true, aP (by omega), bsm]
  ·have g1 : X.Args[j]? = some (X.Args[j]'hj) := List.getElem?_eq_getElem hj
   have g2 : Y.Args[j]? = some (Y.Args[j]'(by omega)) := List.getElem?_eq_getElem (by omega)
   have := b4 _ (List.mem_of_getElem? g1)
   rw [g1, g2] at hok
   rw [lA, bB h1, bsm, if_pos (by omega), bsm, bB g1, bsm, bB h2, bsm, bB g2, bsm, vC (by omega), bsm, show decide (X.Args[j]'hj = Y.Args[j]'(by omega)) = false from hok, cond_false, bsm, bsm]
  ·rw [lA, bB h1, bsm, if_neg (by omega)]
 rw [vO, if_neg (show ¬ ((tab.length : Int) ≠ (tab'.length : Int)) from fun q => q (by omega))]
 have e := xF (fun k i => lC F tab tab' k i) tab.length (fun i => kW eqU tab[i]? tab'[i]?) (.inl ()) (.inr false) (fun k i hi hok => ?_) (fun k i hi hok => ?_) (fun k => ?_) (K := F) (by show _ < 4000000; omega)
 ·rw [show lC F tab tab' F 0 = _ from e, bsm, pY _ _ _ hl]
  show _ = some ((List.range tab.length).all fun i => kW eqU tab[i]? tab'[i]?)
  cases (List.range tab.length).all fun i => kW eqU tab[i]? tab'[i]? <;> rfl
 ·obtain ⟨X, Y, h1, h2, s, hX, hY⟩ := each i hi
  obtain ⟨b1, b2, _⟩ := bd X hX
  rw [h1, h2] at hok
  have hok : eqU X Y = true := hok
  simp only [eqU, Bool.and_eq_true] at hok
  have la := s.args
  rw [lC, if_pos (by omega), bB h1, bsm, bB h2, bsm, vC (by omega), bsm, hok.1, Bool.not_true, cond_false, bsm, bsm, vC (by omega), bsm, hok.2.1, Bool.not_true, cond_false, bsm, bsm, if_neg (fun q => q (by omega)), in2 i X Y h1 h2 s hX, hok.2.2, if_pos rfl, bsm]
  dsimp only
  rw [aP (by omega), bsm]
 ·obtain ⟨X, Y, h1, h2, s, hX, hY⟩ := each i hi
  obtain ⟨b1, b2, _⟩ := bd X hX
  rw [h1, h2] at hok
  have hok : eqU X Y = false := hok
  rw [eqU] at hok
  have la := s.args
  rw [lC, if_pos (by omega), bB h1, bsm, bB h2, bsm, vC (by omega), bsm]
  cases c1 : decide (X.Chans = Y.Chans) with
  | false => rw [Bool.not_false, cond_true, bsm, bsm, bsm]
  | true =>
   rw [c1, Bool.true_and] at hok
   rw [Bool.not_true, cond_false, bsm, bsm, vC (by omega), bsm]
   cases c2 : decide (X.Rules = Y.Rules) with
   | false => rw [Bool.not_false, cond_true, bsm, bsm, bsm]
   | true =>
    rw [c2, Bool.true_and] at hok
    rw [Bool.not_true, cond_false, bsm, bsm, if_neg (fun q => q (by omega)), in2 i X Y h1 h2 s hX, hok, if_neg (by decide), bsm]
 ·rw [lC, if_neg (by omega)]
theorem cH.sm (S : bP p t L H) (hk : cH p tab) : ∀ a ∈ tab, SmU a := fun a ha => by
 obtain ⟨b1, b2, b3, b4⟩ := cH.bd S hk a ha
 exact ⟨by omega, by omega, by omega, fun z hz => by have := b4 z hz; omega⟩
structure rN (p : ScopeProg) (H : Nat) (T : List UsageDef) : Prop where
 ok : cH p T
 ku : ∀ X ∈ T, KU X
 up : LeT T (cU p H T)
 low : ∀ U, cH p U → LeT (cU p H U) U → LeT T U
theorem grow (S : bP p t L H) : ∀ (j k : Nat) (T : List UsageDef), rN p H T → 4800 - wtT T ≤ (j : Int) → j < k → ∃ R, rN p H R ∧ cU p H R = R ∧ nG F t k T = some R ∧ xB F L k T = some R
 | j, 0, T, _, _, hk => absurd hk (by omega)
 | j, k + 1, T, g, hw, hk => by
  obtain ⟨a1, a2⟩ := aEa S g.ok
  obtain ⟨b, b1, b2⟩ := aGB S g.ok (kP S (tab := T)) (g.ok.sm S)
  obtain ⟨c, c1, c2⟩ := same_r S g.ok (kP S (tab := T))
  rw [nG, a1, bsm, b1, bsm, xB, a2, bsm, c1, bsm]
  by_cases h : T = cU p H T
  ·rw [b2.2 h, c2.2 h, cond_true, cond_true]
   exact ⟨T, g, h.symm, rfl, rfl⟩
  ·have hb : b = false := by cases b with | false => rfl | true => exact absurd (b2.1 rfl) h
   have hc : c = false := by cases c with | false => rfl | true => exact absurd (c2.1 rfl) h
   rw [hb, hc, cond_false, cond_false]
   have ok' := kP S (tab := T)
   obtain ⟨w1, w2⟩ := g.up.weigh g.ok ok'
   have bd := (aA6 _ (cH.bd S ok')).2
   have dl := S.defs
   have al := oJ (p := p) (H := H) (tab := T)
   have lt : wtT T < wtT (cU p H T) := by
    apply Classical.byContradiction
    intro q
    exact h (w2 (by omega) g.ku (aAz S))
   obtain _ | j := j
   ·omega
   exact grow S j k (cU p H T) ⟨ok', aAz S, yS S g.up, fun U hU hl => (yS S (g.low U hU hl)).trans hl⟩ (by omega) (by omega)
theorem aGm (S : bP p t L H) : ∃ R, rN p H R ∧ cU p H R = R ∧ nG F t F (fV p) = some R ∧ xB F L F (fV p) = some R := by
 have w := (aA6 _ (cH.bd S (aCd S))).1
 exact grow S 4800 F (fV p) ⟨aCd S, noneM_KU, aEz S (kP S), fun U hU _ => aEz S hU⟩ (by omega) (by show _ < 4000000; omega)
end Go.Proofs.Ytmnbfgeljmhekaa
namespace Go.Proofs.Ytmnbfgeljmhekaa
open Go.SX Go.SW
theorem aF9 {W : World} {a : Addr} {c : Value} (h : W.cell? a = some c) : (iO W).cell a = some c := by
 unfold World.cell? at h
 unfold Mem.cell tT iO
 cases hb : W.heap[a.block]? with
 | none => rw [hb] at h; cases h
 | some o =>
  rw [hb] at h
  cases o with
  | cells c t fr =>
   dsimp only at h ⊢
   first
    | exact h
    | (cases hs : a.spot with
      | none => rw [hs] at h; simpa using h
      | some s => rw [hs] at h; simp at h)
  | _ => cases h
theorem aD8 {H : Type} {d : DataW H} {l : List (DataW H)} (h : d ∈ l) : Rows.uptoBulk d ≤ Rows.uptoBulkAll l := by
 induction l with
 | nil => cases h
 | cons x r ih =>
  simp only [Rows.uptoBulkAll]
  cases h with
  | head => omega
  | tail _ e => have := ih e; omega
theorem bulk_one {H : Type} (d : DataW H) : 1 ≤ Rows.uptoBulk d := by
 cases d with
 | lit l => cases l <;> simp [Rows.uptoBulk]
 | _ => simp [Rows.uptoBulk]
section
variable {H : Type} {enc : TypeId × Value → H} {P : Program} {W : World}
def Rd (enc : TypeId × Value → H) (P : Program) (W : World) (n : Nat) {α : Type} (T : Ty α) (t : TypeId) (μ : α → Nat) (S : α → Prop) : Prop :=
 ∀ cs x, DataW.trod enc P W 0 (fun _ => true) true n t cs = some x → Rows.uptoBulk x.1 ≤ 1048576 → ∃ a, aY (T.leafs a) (iO W) cs ∧ μ a ≤ Rows.uptoBulk x.1 ∧ S a
def RdF (enc : TypeId × Value → H) (P : Program) (W : World) (n : Nat) (fs : List Field) (o e : Nat) {β : Type} (L : β → List Fact) (μ : β → Nat) (S : β → Prop) : Prop :=
 ∀ (cs : List Value) xs, cs.length = e → (fs.mapM fun f => DataW.trod enc P W 0 (fun _ => true) true n f.type ((cs.drop f.offset).take (P.cellsOf f.type))) = some xs → Rows.uptoBulkAll (xs.map (·.1)) ≤ 1048576 → ∃ b, aY (L b) (iO W) (cs.drop o) ∧ μ b ≤ Rows.uptoBulkAll (xs.map (·.1)) ∧ S b
theorem nW {α : Type} {T : Ty α} {t : TypeId} {μ : α → Nat} {S : α → Prop} : Rd enc P W 0 T t μ S := fun cs x h => by cases h
theorem pI {n e : Nat} : RdF enc P W n [] e e (β := Unit) (fun _ => []) (fun _ => 0) (fun _ => True) := fun cs xs hl h hb => ⟨(), by rw [List.drop_of_length_le (by omega)]; rfl, Nat.zero_le _, trivial⟩
theorem aDX {α β : Type} {f : α → Option β} {x : α} {l : List α} {ys : List β} (h : (x :: l).mapM f = some ys) : ∃ y r, f x = some y ∧ l.mapM f = some r ∧ ys = y :: r := by
 rw [List.mapM_cons] at h
 cases hx : f x with
 | none => rw [hx] at h; cases h
 | some y =>
  cases hl : l.mapM f with
  | none => rw [hx, hl] at h; cases h
  | some r => rw [hx, hl] at h; cases h; exact ⟨y, r, rfl, rfl, rfl⟩
theorem eP {n o e : Nat} {f : Field} {fs : List Field} {α β : Type} {T : Ty α} {μ : α → Nat} {S : α → Prop} {L : β → List Fact} {ν : β → Nat} {R : β → Prop} (h : Rd enc P W n T f.type μ S) (ho : f.offset = o) (hz : P.cellsOf f.type = T.sz) (k : RdF enc P W n fs (o + T.sz) e L ν R) :
  RdF enc P W n (f :: fs) o e (fun x : α × β => T.leafs x.1 ++ L x.2) (fun x => μ x.1 + ν x.2) (fun x => S x.1 ∧ R x.2) := fun cs xs hl hm hb => by
 obtain ⟨y, r, h1, h2, rfl⟩ := aDX hm
 simp only [List.map_cons, Rows.uptoBulkAll] at hb
 obtain ⟨a, a1, a2, a3⟩ := h _ _ h1 (by omega)
 obtain ⟨b, b1, b2, b3⟩ := k cs r hl h2 (by omega)
 refine ⟨(a, b), ?_, by simp only [List.map_cons, Rows.uptoBulkAll]; omega, a3, b3⟩
 have := a1.append b1
 rw [ho, hz, ← List.drop_drop, List.take_append_drop] at this
 exact this
theorem oQ {n e : Nat} {α β : Type} {T : Ty α} {t : TypeId} {fs : Array Field} {μ : α → Nat} {S : α → Prop} {L : β → List Fact} {ν : β → Nat} {R : β → Prop} (mk : β → α) (ht : P.underlying t = some (.struct fs)) (hc : P.cellsOf t = e) (k : RdF enc P W n fs.toList 0 e L ν R)
  (hL : ∀ b, T.leafs (mk b) = L b) (hμ : ∀ b, μ (mk b) ≤ ν b + 1) (hS : ∀ b, R b → ν b + 1 ≤ 1048576 → S (mk b)) : Rd enc P W (n + 1) T t μ S := fun cs x h hb => by
 rw [DataW.trod_step] at h
 unfold DataW.trodStep at h
 rw [ht] at h
 dsimp only at h
 split at h
 ·rename_i hcs
  cases hm : (fs.toList.mapM fun f => DataW.trod enc P W 0 (fun _ => true) true n f.type ((cs.drop f.offset).take (P.cellsOf f.type))) with
  | none => rw [hm] at h; cases h
  | some xs =>
   rw [hm] at h
   cases h
   simp only [Rows.uptoBulk] at hb
   obtain ⟨b, b1, b2, b3⟩ := k cs xs (by omega) hm (by omega)
   rw [List.drop_zero] at b1
   have := hμ b
   refine ⟨mk b, by rw [hL]; exact b1, by simp only [Rows.uptoBulk]; omega, hS b b3 (by omega)⟩
 ·cases h
theorem rd_int {n : Nat} {t : TypeId} {k : IntKind} (ht : P.underlying t = some (.int k)) : Rd enc P W n (aB k) t (fun _ => 1) (fun i => (Lit.int k i).wf = true) := fun cs x h hb => by
 obtain _ | n := n
 ·cases h
 rw [DataW.trod_step] at h
 unfold DataW.trodStep at h
 rw [ht] at h
 match cs, h with
 | [.int k' i], h =>
  dsimp only at h
  split at h
  ·rename_i hc
   obtain ⟨rfl, hw⟩ := hc
   cases h
   exact ⟨i, ⟨_, [], rfl, rfl, rfl⟩, Nat.le_refl _, hw⟩
  ·cases h
theorem rd_str {n : Nat} {t : TypeId} (ht : P.underlying t = some .string) : Rd enc P W n aN t (fun s => s.size + 1) (fun s => s.size ≤ 1048576) := fun cs x h hb => by
 obtain _ | n := n
 ·cases h
 rw [DataW.trod_step] at h
 unfold DataW.trodStep at h
 rw [ht] at h
 match cs, h with
 | [.string s], h =>
  dsimp only at h
  split at h
  ·cases h
   have e : s.data.toList.length = s.size := rfl
   simp only [Rows.uptoBulk] at hb
   exact ⟨s, ⟨_, [], rfl, rfl, rfl⟩, by simp only [Rows.uptoBulk]; omega, by omega⟩
  ·cases h
def msum {α : Type} (μ : α → Nat) : List α → Nat
 | [] => 0
 | a :: l => μ a + msum μ l
theorem aEl {α : Type} {f : Nat → Option α} {n : Nat} {l : List α} (h : (List.range n).mapM f = some l) : l.length = n ∧ ∀ i, i < n → ∃ y, l[i]? = some y ∧ f i = some y := by
 have g : ∀ (ks : List Nat) (l : List α), ks.mapM f = some l → l.length = ks.length ∧ ∀ (i k : Nat), ks[i]? = some k → ∃ y, l[i]? = some y ∧ f k = some y := fun ks => by
  induction ks with
  | nil => intro l h; cases h; exact ⟨rfl, fun i k h => by simp at h⟩
  | cons k ks ih =>
   intro l h
   obtain ⟨y, r, h1, h2, rfl⟩ := aDX h
   obtain ⟨a, b⟩ := ih r h2
   refine ⟨by simp [a], fun i q hq => ?_⟩
   cases i with
   | zero => simp at hq; subst hq; exact ⟨y, rfl, h1⟩
   | succ i => exact b i q (by simpa using hq)
 obtain ⟨a, b⟩ := g _ _ h
 exact ⟨by simpa using a, fun i hi => b i i (by simp [hi])⟩
theorem aIg {W : World} {b z : Nat} {a : Addr} {cs : List Value} (h : W.cells? b a z = some cs) : ∀ (j : Nat) c, cs[j]? = some c → W.cell? (a.add j) = some c := by
 unfold World.cells? at h
 split at h
 ·obtain ⟨h1, h2⟩ := aEl h
  intro j c hj
  have := (List.getElem?_eq_some_iff.1 hj).1
  obtain ⟨y, y1, y2⟩ := h2 j (by omega)
  rw [hj] at y1; cases y1; exact y2
 ·cases h
theorem aDf {α γ : Type} {Q : γ → α → Prop} : ∀ (l : List γ), (∀ c ∈ l, ∃ a, Q c a) → ∃ r : List α, r.length = l.length ∧ ∀ (i : Nat) c, l[i]? = some c → ∃ a, r[i]? = some a ∧ Q c a
 | [], _ => ⟨[], rfl, fun i c h => by simp at h⟩
 | c :: l, h => by
  obtain ⟨a, ha⟩ := h c (.head _)
  obtain ⟨r, h1, h2⟩ := aDf l (fun c hc => h c (.tail _ hc))
  refine ⟨a :: r, by simp [h1], fun i q hq => ?_⟩
  cases i with
  | zero => simp at hq; subst hq; exact ⟨a, rfl, ha⟩
  | succ i => exact h2 i q (by simpa using hq)
theorem aEi {α : Type} {μ : α → Nat} : ∀ {r : List α} {ds : List (DataW H)}, r.length = ds.length → (∀ (i : Nat) d a, ds[i]? = some d → r[i]? = some a → μ a ≤ Rows.uptoBulk d) → msum μ r ≤ Rows.uptoBulkAll ds ∧ r.length ≤ Rows.uptoBulkAll ds
 | [], [], _, _ => ⟨Nat.zero_le _, Nat.zero_le _⟩
 | a :: r, d :: ds, hl, h => by
  obtain ⟨h1, h2⟩ := aEi (r := r) (ds := ds) (by simpa using hl) (fun i d a hd ha => h (i + 1) d a (by simpa using hd) (by simpa using ha))
  have := h 0 d a rfl rfl
  have := bulk_one d
  simp only [msum, Rows.uptoBulkAll, List.length_cons]; omega
theorem rd_sl {n : Nat} {t e : TypeId} {α : Type} {T : Ty α} {μ : α → Nat} {S : α → Prop} (ht : P.underlying t = some (.slice e)) (hz : P.cellsOf e = T.sz) (h : Rd enc P W n T e μ S) : Rd enc P W (n + 1) (tSl T) t (fun l => msum μ l + 1) (fun l => l.length ≤ 1048576 ∧ ∀ a ∈ l, S a) := fun cs x hx hb => by
 rw [DataW.trod_step] at hx
 unfold DataW.trodStep at hx
 rw [ht] at hx
 match cs, hx with
 | [.slice none 0 0], hx =>
  cases hx
  exact ⟨[], ⟨_, [], rfl, eJ (iO W) _ rfl, rfl⟩, Nat.le_refl _, by simp, fun a ha => by cases ha⟩
 | [.slice (some p) len cap], hx =>
  dsimp only at hx
  split at hx
  ·rename_i hc
   cases h1 : ((List.range len).mapM fun i => (W.cells? 0 (p.add (i * P.cellsOf e)) (P.cellsOf e)).bind (DataW.trod enc P W 0 (fun _ => true) true n e)) with
   | none => rw [h1] at hx; cases hx
   | some es =>
    rw [h1] at hx
    obtain ⟨aV, _, rfl⟩ := Option.map_eq_some_iff.1 hx
    obtain ⟨l1, l2⟩ := aEl h1
    simp only [Rows.uptoBulk] at hb
    have each : ∀ y ∈ es, ∃ a, (μ a ≤ Rows.uptoBulk y.1 ∧ S a) ∧ ∀ i cs', W.cells? 0 (p.add (i * P.cellsOf e)) (P.cellsOf e) = some cs' → DataW.trod enc P W 0 (fun _ => true) true n e cs' = some y → True := fun y hy => by
     obtain ⟨i, hi, rfl⟩ := List.mem_iff_getElem.1 hy
     obtain ⟨y, y1, y2⟩ := l2 i (by omega)
     obtain ⟨cs', c1, c2⟩ := Option.bind_eq_some_iff.1 y2
     have e1 : es[i] = y := by rw [List.getElem?_eq_getElem hi] at y1; exact Option.some.inj y1
     have m1 : Rows.uptoBulk y.1 ≤ Rows.uptoBulkAll (es.map (·.1)) := aD8 (List.mem_map_of_mem (by rw [← e1]; exact List.getElem_mem _))
     obtain ⟨a, a1, a2, a3⟩ := h _ _ c2 (by omega)
     exact ⟨a, ⟨by rw [e1]; exact a2, a3⟩, fun _ _ _ _ => trivial⟩
    have each2 : ∀ i ∈ List.range len, ∃ a, (∃ y, es[i]? = some y ∧ μ a ≤ Rows.uptoBulk y.1) ∧ S a ∧ T.at (iO W) (p.add (i * T.sz)) a := fun i hi => by
     obtain ⟨y, y1, y2⟩ := l2 i (by simpa using hi)
     obtain ⟨cs', c1, c2⟩ := Option.bind_eq_some_iff.1 y2
     have m1 : Rows.uptoBulk y.1 ≤ Rows.uptoBulkAll (es.map (·.1)) := aD8 (List.mem_map_of_mem (List.mem_of_getElem? y1))
     obtain ⟨a, a1, a2, a3⟩ := h _ _ c2 (by omega)
     exact ⟨a, ⟨y, y1, a2⟩, a3, cs', a1, fun j c hj => by rw [← hz]; exact aF9 (aIg c1 j c hj)⟩
    obtain ⟨r, r1, r2⟩ := aDf (List.range len) each2
    have rl : r.length = len := by simpa using r1
    have r3 : ∀ i, i < len → ∃ a, r[i]? = some a ∧ (∃ y, es[i]? = some y ∧ μ a ≤ Rows.uptoBulk y.1) ∧ S a ∧ T.at (iO W) (p.add (i * T.sz)) a := fun i hi => r2 i i (by simp [hi])
    obtain ⟨m1, m2⟩ := aEi (μ := μ) (r := r) (ds := es.map (·.1)) (by simp [rl, l1]) (fun i d a hd ha => by
     obtain ⟨a', a1, ⟨y, y1, y2⟩, _⟩ := r3 i (by have := (List.getElem?_eq_some_iff.1 ha).1; omega)
     rw [ha] at a1; cases a1
     rw [List.getElem?_map, y1] at hd; cases hd
     exact y2)
    refine ⟨r, ⟨_, [], rfl, ⟨fun i => p.add (i * T.sz), ⟨some p, cap, by rw [rl], by rw [rl]; exact hc.2.1, fun i _ => ⟨p, rfl, rfl⟩⟩, by omega, fun i a ha => ?_⟩, rfl⟩, by simp only [Rows.uptoBulk]; omega, by omega, fun a ha => ?_⟩
    ·obtain ⟨a', a1, _, _, a2⟩ := r3 i (by have := (List.getElem?_eq_some_iff.1 ha).1; omega)
     rw [ha] at a1; cases a1; exact a2
    ·obtain ⟨i, hi, rfl⟩ := List.mem_iff_getElem.1 ha
     obtain ⟨a', a1, _, a2, _⟩ := r3 i (by omega)
     rw [List.getElem?_eq_getElem hi] at a1; cases a1; exact a2
  ·cases hx
theorem Rd.mono {n : Nat} {α : Type} {T : Ty α} {t : TypeId} {μ ν : α → Nat} {S R : α → Prop} (h : Rd enc P W n T t μ S) (hμ : ∀ a, ν a ≤ μ a) (hS : ∀ a, S a → μ a ≤ 1048576 → R a) : Rd enc P W n T t ν R := fun cs x hx hb => by
 obtain ⟨a, a1, a2, a3⟩ := h cs x hx hb
 exact ⟨a, a1, Nat.le_trans (hμ a) a2, hS a a3 (by omega)⟩
theorem arg_st {α : Type} {T : Ty α} {t : TypeId} {μ : α → Nat} {S : α → Prop} {fs : Array Field} {r : Reach} {b0 : Nat} {v : Value} {d : DataW H} {ps : List MemPlace} (h : ∀ n, Rd enc P W n T t μ S) (ht : P.underlying t = some (.struct fs)) (hval : Value.okWide P W r b0 t v)
  (hd : DataW.Trod enc P W 0 (fun _ => true) true t v d ps) (hb : Rows.uptoBulk d ≤ 1048576) : ∃ a, (fSt T a).p (iO W) v ∧ S a := by
 unfold Value.okWide at hval
 rw [ht] at hval
 obtain ⟨cs, rfl, _⟩ := hval
 obtain ⟨n, hn⟩ := hd
 obtain ⟨a, a1, _, a2⟩ := h n _ _ hn hb
 exact ⟨a, ⟨cs.toList, by simp, a1⟩, a2⟩
theorem arg_sl {α : Type} {T : Ty α} {t e : TypeId} {μ : List α → Nat} {S : List α → Prop} {r : Reach} {b0 : Nat} {v : Value} {d : DataW H} {ps : List MemPlace} (h : ∀ n, Rd enc P W n (tSl T) t μ S) (ht : P.underlying t = some (.slice e)) (hval : Value.okWide P W r b0 t v)
  (hd : DataW.Trod enc P W 0 (fun _ => true) true t v d ps) (hb : Rows.uptoBulk d ≤ 1048576) : ∃ a, (fSl T a).p (iO W) v ∧ S a := by
 have hc : v.cells = #[v] := by
  cases v with
  | agg cs => simp [Value.okWide, ht, Cell.okWide, Cell.ok] at hval
  | _ => rfl
 obtain ⟨n, hn⟩ := hd
 rw [hc] at hn
 obtain ⟨a, ⟨c, l, e1, a1, _⟩, _, a2⟩ := h n _ _ hn hb
 cases e1
 exact ⟨a, a1, a2⟩
end
end Go.Proofs.Ytmnbfgeljmhekaa
namespace Go.Proofs.Ytmnbfgeljmhekaa
open Go.SX Go.SW Go.Dt
section
variable {H : Type} {enc : TypeId × Value → H} {W : World}
abbrev RdP (enc : TypeId × Value → H) (W : World) (n : Nat) {α : Type} (T : Ty α) (t : TypeId) (μ : α → Nat) (S : α → Prop) : Prop := Rd enc Try.prog W n T t μ S
theorem iP (n : Nat) {t : TypeId} (ht : Try.prog.underlying t = some (.int .i64)) : RdP enc W n (aB .i64) t (fun _ => 1) (fun _ => True) := (rd_int ht).mono (fun _ => Nat.le_refl _) (fun _ _ _ => trivial)
theorem mB {n : Nat} {t e : TypeId} {α : Type} {T : Ty α} {μ : α → Nat} {S : α → Prop} (ht : Try.prog.underlying t = some (.slice e)) (hz : Try.prog.cellsOf e = T.sz) (h : ∀ k, RdP enc W k T e μ S) : RdP enc W n (tSl T) t (fun l => msum μ l + 1) (fun l => l.length ≤ 1048576 ∧ ∀ a ∈ l, S a) := by
 cases n with
 | zero => exact nW
 | succ n => exact rd_sl ht hz (h n)
theorem vV (n : Nat) {t e : TypeId} (ht : Try.prog.underlying t = some (.slice e)) (he : Try.prog.underlying e = some (.int .i64)) (hz : Try.prog.cellsOf e = 1) : RdP enc W n (tSl (aB .i64)) t (fun _ => 0) (fun l => l.length ≤ 1048576) :=
 (mB ht hz (fun k => iP k he)).mono (fun _ => Nat.zero_le _) (fun _ h _ => h.1)
theorem xX : ∀ l : List ScopeExp, nL l = msum nE l
 | [] => rfl
 | a :: l => by simp only [nL, msum, xX l]
theorem aEM (a b : Int) (c : List ScopeExp) : bD.leafs ⟨a, b, c⟩ = [aA .i64 a, aA .i64 b, fSl bD c] := by
 show [_, _, fZ c] = _
 rw [iK]
theorem rd_exp : ∀ n : Nat, RdP enc W n bD 94 nE (fun e => nE e ≤ 1048576)
 | 0 => nW
 | 1 => fun cs x h hb => (oQ (μ := nE) (S := fun e => nE e ≤ 1048576) (T := bD) (fun b : Int × Int × List ScopeExp × Unit => ⟨b.1, b.2.1, b.2.2.1⟩) Try.underlying94 (e := 3) (by kernel_rfl)
   (eP (iP 0 Try.underlying92) rfl (by kernel_rfl) (eP (iP 0 Try.underlying3) rfl (by kernel_rfl) (eP (T := tSl bD) (μ := fun l => msum nE l + 1) (S := fun _ => True) nW rfl (by kernel_rfl) pI)))
   (fun b => aEM b.1 b.2.1 b.2.2.1) (fun b => by simp only [nE, xX]; omega) (fun b _ hb => by simp only [nE, xX] at *; omega)) cs x h hb
 | n + 2 => fun cs x h hb => (oQ (μ := nE) (S := fun e => nE e ≤ 1048576) (T := bD) (fun b : Int × Int × List ScopeExp × Unit => ⟨b.1, b.2.1, b.2.2.1⟩) Try.underlying94 (e := 3) (by kernel_rfl)
   (eP (iP _ Try.underlying92) rfl (by kernel_rfl) (eP (iP _ Try.underlying3) rfl (by kernel_rfl) (eP (rd_sl Try.underlying54 (by kernel_rfl) (rd_exp n)) rfl (by kernel_rfl) pI)))
   (fun b => aEM b.1 b.2.1 b.2.2.1) (fun b => by simp only [nE, xX]; omega) (fun b _ hb => by simp only [nE, xX] at *; omega)) cs x h hb
theorem aGt : ∀ n : Nat, RdP enc W n aM 56 (fun _ => 0) (fun x => x.Args.length ≤ 2000000 ∧ x.Kids.length ≤ 2000000 ∧ ∀ e ∈ x.Args, nE e ≤ 2000000)
 | 0 => nW
 | n + 1 => oQ (T := aM) (fun b : Int × Int × List ScopeExp × List Int × Unit => ⟨b.1, b.2.1, b.2.2.1, b.2.2.2.1⟩) Try.underlying56 (e := 4) (by kernel_rfl)
   (eP (iP n Try.underlying53) rfl (by kernel_rfl) (eP (iP n Try.underlying3) rfl (by kernel_rfl) (eP (mB Try.underlying54 (by kernel_rfl) rd_exp) rfl (by kernel_rfl) (eP (vV n Try.underlying46 Try.underlying3 (by kernel_rfl)) rfl (by kernel_rfl) pI))))
   (fun _ => rfl) (fun _ => Nat.zero_le _) (fun b h _ => ⟨by have := h.2.2.1.1; show b.2.2.1.length ≤ _; omega, by have := h.2.2.2.1; show b.2.2.2.1.length ≤ _; omega, fun e he => Nat.le_trans (h.2.2.1.2 e he) (by omega)⟩)
theorem aHg : ∀ n : Nat, RdP enc W n bE 44 (fun _ => 0) (fun _ => True)
 | 0 => nW
 | n + 1 => oQ (T := bE) (fun b : Int × Int × Unit => ⟨b.1, b.2.1⟩) Try.underlying44 (e := 2) (by kernel_rfl)
   (eP (iP n Try.underlying3) rfl (by kernel_rfl) (eP (iP n Try.underlying3) rfl (by kernel_rfl) pI))
   (fun _ => rfl) (fun _ => Nat.zero_le _) (fun _ _ _ => trivial)
theorem aGl : ∀ n : Nat, RdP enc W n cB 90 (fun _ => 0) (fun _ => True)
 | 0 => nW
 | n + 1 => oQ (T := cB) (fun b : Int × Int × Unit => ⟨b.1, b.2.1⟩) Try.underlying90 (e := 2) (by kernel_rfl)
   (eP (iP n Try.underlying3) rfl (by kernel_rfl) (eP (iP n Try.underlying3) rfl (by kernel_rfl) pI))
   (fun _ => rfl) (fun _ => Nat.zero_le _) (fun _ _ _ => trivial)
theorem aIl : ∀ n : Nat, RdP enc W n bK 48 (fun _ => 0) (fun x => x.Joins.length ≤ 2000000)
 | 0 => nW
 | n + 1 => oQ (T := bK) (fun b : Int × List Int × Int × Unit => ⟨b.1, b.2.1, b.2.2.1⟩) Try.underlying48 (e := 3) (by kernel_rfl)
   (eP (iP n Try.underlying3) rfl (by kernel_rfl) (eP (vV n Try.underlying46 Try.underlying3 (by kernel_rfl)) rfl (by kernel_rfl) (eP (iP n Try.underlying3) rfl (by kernel_rfl) pI)))
   (fun _ => rfl) (fun _ => Nat.zero_le _) (fun b h _ => by have := h.2.1; show b.2.1.length ≤ _; omega)
theorem aHQ : ∀ n : Nat, RdP enc W n aK 52 (fun _ => 0) (smD)
 | 0 => nW
 | n + 1 => oQ (T := aK) (fun b : List ScopeChan × List ScopeSpot × List ScopeRule × Unit => ⟨b.1, b.2.1, b.2.2.1⟩) Try.underlying52 (e := 3) (by kernel_rfl)
   (eP (mB Try.underlying45 (by kernel_rfl) aHg) rfl (by kernel_rfl) (eP (mB Try.underlying50 (by kernel_rfl) aGl) rfl (by kernel_rfl) (eP (mB Try.underlying49 (by kernel_rfl) aIl) rfl (by kernel_rfl) pI)))
   (fun _ => rfl) (fun _ => Nat.zero_le _) (fun b h _ => ⟨by have := h.1.1; show b.1.length ≤ _; omega, by have := h.2.1.1; show b.2.1.length ≤ _; omega, by have := h.2.2.1.1; show b.2.2.1.length ≤ _; omega, h.2.2.1.2⟩)
theorem aId : ∀ n : Nat, RdP enc W n dM 26 (fun _ => 0) (SmP)
 | 0 => nW
 | n + 1 => oQ (T := dM) (fun b : List ByteArray × List ScopeNode × List ScopeDef × Int × Unit => ⟨b.1, b.2.1, b.2.2.1, b.2.2.2.1⟩) Try.underlying26 (e := 4) (by kernel_rfl)
   (eP (mB (S := fun s : ByteArray => s.size ≤ 1048576) Try.underlying22 (by kernel_rfl) (fun k => (rd_str (n := k) Try.underlying9))) rfl (by kernel_rfl) (eP (mB Try.underlying23 (by kernel_rfl) aGt) rfl (by kernel_rfl) (eP (mB Try.underlying24 (by kernel_rfl) aHQ) rfl (by kernel_rfl) (eP (iP n Try.underlying3) rfl (by kernel_rfl) pI))))
   (fun _ => rfl) (fun _ => Nat.zero_le _) (fun b h _ => ⟨by have := h.2.1.1; show b.2.1.length ≤ _; omega, by have := h.2.2.1.1; show b.2.2.1.length ≤ _; omega, by have := h.1.1; show b.1.length ≤ _; omega, fun x hx => Nat.le_trans (h.1.2 x hx) (by omega), h.2.1.2, h.2.2.1.2⟩)
theorem aHE : ∀ n : Nat, RdP enc W n aZ 40 (fun _ => 0) (SmU)
 | 0 => nW
 | n + 1 => oQ (T := aZ) (fun b : List Int × List Int × List (List Int) × Unit => ⟨b.1, b.2.1, b.2.2.1⟩) Try.underlying40 (e := 3) (by kernel_rfl)
   (eP (vV n Try.underlying37 Try.underlying41 (by kernel_rfl)) rfl (by kernel_rfl) (eP (vV n Try.underlying37 Try.underlying41 (by kernel_rfl)) rfl (by kernel_rfl) (eP (mB Try.underlying38 (by kernel_rfl) (fun k => vV k Try.underlying37 Try.underlying41 (by kernel_rfl))) rfl (by kernel_rfl) pI)))
   (fun _ => rfl) (fun _ => Nat.zero_le _) (fun b h _ => ⟨by have := h.1; show b.1.length ≤ _; omega, by have := h.2.1; show b.2.1.length ≤ _; omega, by have := h.2.2.1.1; show b.2.2.1.length ≤ _; omega, fun a ha => Nat.le_trans (h.2.2.1.2 a ha) (by omega)⟩)
end
end Go.Proofs.Ytmnbfgeljmhekaa
set_option maxRecDepth 100000
namespace Go.Proofs.Ytmnbfgeljmhekaa
open Go.SX Go.SW Go.Dt
theorem large2 {t : List UsageDef} {i : Int} {y : UsageDef} (hy : idx t i = some y) (hm : y.Args.length ≤ 2000000) : ∀ (k : Nat) (j : Int), 0 ≤ j → (y.Args.length : Int) - j < k → j ≤ (y.Args.length : Int) → ∃ r, qJ t i k j = some r
 | 0, j, h0, h1, h2 => absurd h1 (by omega)
 | k + 1, j, h0, h1, h2 => by
  rw [qJ, hy, bsm]
  by_cases hj : j < (y.Args.length : Int)
  ·obtain ⟨a, ha⟩ := cM (xs := y.Args) h0 hj
   rw [if_pos hj, bsm, ha, bsm]
   by_cases hl : 60 < (a.length : Int)
   ·rw [if_pos hl]; exact ⟨_, rfl⟩
   ·rw [if_neg hl, aP (by omega), bsm]
    exact large2 hy hm k (j + 1) (by omega) (by omega) (by omega)
  ·rw [if_neg hj]; exact ⟨_, rfl⟩
theorem large1 {t : List UsageDef} (ht : t.length ≤ 2000000) (hm : ∀ a ∈ t, SmU a) : ∀ (k : Nat) (j : Int), 0 ≤ j → (t.length : Int) - j < k → j ≤ (t.length : Int) → ∃ r, qB F t k j = some r
 | 0, j, h0, h1, h2 => absurd h1 (by omega)
 | k + 1, j, h0, h1, h2 => by
  rw [qB]
  by_cases hj : j < (t.length : Int)
  ·obtain ⟨a, ha⟩ := cM (xs := t) h0 hj
   have hs := hm a (dW ha)
   rw [if_pos hj, ha, bsm]
   by_cases h1' : 60 < (a.Chans.length : Int)
   ·rw [if_pos h1', bsm, bsm]; exact ⟨_, rfl⟩
   ·rw [if_neg h1', bsm]
    by_cases h2' : 60 < (a.Rules.length : Int)
    ·rw [if_pos h2', bsm, bsm]; exact ⟨_, rfl⟩
    ·rw [if_neg h2', bsm]
     by_cases h3 : 60 < (a.Args.length : Int)
     ·rw [if_pos h3, bsm, bsm]; exact ⟨_, rfl⟩
     ·rw [if_neg h3]
      obtain ⟨r, hr⟩ := large2 ha hs.args F 0 (Int.le_refl _) (by have := hs.args; show _ < ((4000000 : Nat) : Int); omega) (by omega)
      rw [hr, bsm]
      cases r with
      | inr r => exact ⟨_, rfl⟩
      | inl u =>
       dsimp only
       rw [aP (by omega), bsm]
       exact large1 ht hm k (j + 1) (by omega) (by omega) (by omega)
  ·rw [if_neg hj]; exact ⟨_, rfl⟩
theorem large_eq {t : List UsageDef} (ht : t.length ≤ 2000000) (hm : ∀ a ∈ t, SmU a) : ∃ b, vX F t = some b := by
 rw [vX]
 by_cases h : 40 < (t.length : Int)
 ·rw [if_pos h]; exact ⟨_, rfl⟩
 ·rw [if_neg h]
  obtain ⟨r, hr⟩ := large1 ht hm F 0 (Int.le_refl _) (by show _ < ((4000000 : Nat) : Int); omega) (by omega)
  rw [hr, bsm]
  cases r <;> exact ⟨_, rfl⟩
theorem works_ev : mR 4000000 = some true := by kernel_rfl
theorem yH : mR F = some true := works_ev
end Go.Proofs.Ytmnbfgeljmhekaa
set_option maxRecDepth 100000
namespace Go.Proofs.Ytmnbfgeljmhekaa
open Go.SX Go.SW Go.Dt
variable {p : ScopeProg} {t : Usage_text} {L : bR} {H : Nat} {tab tab' : List UsageDef} {d n : Int} {e : E} {x : ScopeNode} {D : ScopeDef}
def eW (R : List UsageDef) (j : Nat) : UsageDef := (R[j]?).getD ⟨[], [], []⟩
def hO (X : UsageDef) (c : Nat) : Int := (X.Chans[c]?).getD 0
noncomputable def gD (p : ScopeProg) (H : Nat) (X : UsageDef) (d : Int) (c : Nat) : Int := if hO X c = 3 ∧ lX p H d (c : Int) = 1 then 2 else hO X c
noncomputable def fA (p : ScopeProg) (H : Nat) (X : UsageDef) (d : Int) : UsageDef := { X with Chans := (List.range X.Chans.length).map (gD p H X d) }
noncomputable def eY (p : ScopeProg) (H : Nat) (R : List UsageDef) : List UsageDef := (List.range R.length).map fun j => fA p H (eW R j) (j : Int)
theorem aAj {α : Type} {z : α} (l : List α) : (List.range l.length).map (fun j => (l[j]?).getD z) = l := by
 apply List.ext_getElem?
 intro j
 by_cases hj : j < l.length
 ·rw [jF hj, List.getElem?_eq_getElem hj]; rfl
 ·rw [List.getElem?_eq_none (by simp; omega), List.getElem?_eq_none (by omega)]
theorem zL {α : Type} {f g : Nat → α} {n : Nat} : (List.range n).map (fun c => if c < 0 then f c else g c) = (List.range n).map g := List.map_congr_left fun c _ => if_neg (by omega)
theorem zB {α : Type} {f g : Nat → α} {n : Nat} : (List.range n).map (fun c => if c < n then f c else g c) = (List.range n).map f := List.map_congr_left fun c hc => if_pos (List.mem_range.1 hc)
theorem aAJ {α : Type} {f g : Nat → α} {n i : Nat} : ((List.range n).map fun c => if c < i then f c else g c).set i (f i) = (List.range n).map fun c => if c < i + 1 then f c else g c := by
 rw [wS]
 apply List.map_congr_left
 intro c _
 by_cases q : c = i
 ·subst q; rw [if_pos rfl, if_pos (by omega)]
 ·rw [if_neg q]
  by_cases q2 : c < i
  ·rw [if_pos q2, if_pos (by omega)]
  ·rw [if_neg q2, if_neg (by omega)]
theorem yL {α : Type} {f g : Nat → α} {n i : Nat} (h : f i = g i) : ((List.range n).map fun c => if c < i then f c else g c) = (List.range n).map fun c => if c < i + 1 then f c else g c := by
 apply List.map_congr_left
 intro c _
 by_cases q : c = i
 ·subst q; rw [if_neg (by omega), if_pos (by omega), h]
 ·by_cases q2 : c < i
  ·rw [if_pos q2, if_pos (by omega)]
  ·rw [if_neg q2, if_neg (by omega)]
theorem fin3_p (S : bP p t L H) (hh : dV p H d n e x D) (ht : idx t.heads d = some n) {X : UsageDef} (ok1 : lB D X) {T : List UsageDef} (hT : ∃ z, idx T d = some z) : nC F t T d X F X.Chans 0 = some (T.set d.toNat (fA p H X d)) := by
 have ho := dQ hh.ok
 have hl := ok1.chans
 obtain ⟨z, hz⟩ := hT
 have e0 : X.Chans = (List.range X.Chans.length).map fun c => if c < 0 then gD p H X d c else hO X c := by rw [zL]; exact (aAj X.Chans).symm
 conv => lhs; rw [e0]
 rw [show fA p H X d = { X with Chans := (List.range X.Chans.length).map fun c => if c < X.Chans.length then gD p H X d c else hO X c } from by rw [zB]; rfl]
 refine fG (fun k (s : List Int × Int) => nC F t T d X k s.1 s.2) X.Chans.length (fun i => ((List.range X.Chans.length).map fun c => if c < i then gD p H X d c else hO X c, (i : Int))) _ (fun k i hi => ?_) (fun k => ?_) (by show _ < 4000000; omega)
 ·dsimp only
  obtain ⟨b1, _⟩ := zF S hh (c := i) (by omega)
  rw [nC, if_pos (by omega), jT hi, bsm, if_neg (show ¬ i < i from by omega)]
  by_cases y3 : hO X i = 3
  ·rw [if_pos y3, ht, bsm, yI S hh ht (by omega), bsm, b1, bsm]
   by_cases b : lX p H d i = 1
   ·rw [if_pos b, hz, bsm, bsm, bsm, aP (by omega), bsm, Int.toNat_natCast]
    congr 1
    rw [show (2 : Int) = gD p H X d i from by unfold gD; rw [if_pos ⟨y3, b⟩]]
    exact aAJ
   ·rw [if_neg b, bsm, aP (by omega), bsm]
    congr 1
    exact yL (by unfold gD; rw [if_neg (fun q => b q.2)])
  ·rw [if_neg y3, bsm, aP (by omega), bsm]
   congr 1
   exact yL (by unfold gD; rw [if_neg (fun q => y3 q.1)])
 ·dsimp only
  rw [nC, if_neg (by omega)]
theorem aFA {α : Type} {T : List α} {d : Int} {z y : α} (h : idx T d = some z) : idx (T.set d.toNat y) d = some y := by
 have := eX h
 obtain ⟨j, rfl⟩ : ∃ j : Nat, d = (j : Int) := ⟨d.toNat, by omega⟩
 rw [Int.toNat_natCast]
 exact bB (by rw [List.getElem?_set_self (by omega)])
theorem vF {α : Type} {T : List α} {d : Int} {z : α} (h : idx T d = some z) : T.set d.toNat z = T := by
 apply List.ext_getElem?
 intro j
 rw [List.getElem?_set]
 have g := bN h
 split
 ·rename_i q; subst q; rw [if_pos (List.getElem?_eq_some_iff.1 g).1, g]
 ·rfl
theorem fin3_r (S : bP p t L H) (hh : dV p H d n e x D) (hL : idx L.Heads d = some n) {X : UsageDef} (ok1 : lB D X) {T : List UsageDef} (hT : idx T d = some X) : vA F L d F T 0 = some (T.set d.toNat (fA p H X d)) := by
 have ho := dQ hh.ok
 have hl := ok1.chans
 have e0 : T = T.set d.toNat { X with Chans := (List.range X.Chans.length).map fun c => if c < 0 then gD p H X d c else hO X c } := by
  rw [zL, show (List.range X.Chans.length).map (hO X) = X.Chans from aAj X.Chans]
  exact (vF hT).symm
 conv => lhs; rw [e0]
 rw [show fA p H X d = { X with Chans := (List.range X.Chans.length).map fun c => if c < X.Chans.length then gD p H X d c else hO X c } from by rw [zB]; rfl]
 refine fG (fun k (s : List UsageDef × Int) => vA F L d k s.1 s.2) X.Chans.length (fun i => (T.set d.toNat { X with Chans := (List.range X.Chans.length).map fun c => if c < i then gD p H X d c else hO X c }, (i : Int))) _ (fun k i hi => ?_) (fun k => ?_) (by show _ < 4000000; omega)
 ·dsimp only
  obtain ⟨_, b1⟩ := zF S hh (c := i) (by omega)
  rw [vA, aFA hT, bsm, if_pos (by simp; omega), bsm, jT hi, bsm, if_neg (show ¬ i < i from by omega)]
  by_cases y3 : hO X i = 3
  ·rw [if_pos y3, hL, bsm, aDt S hh hL (by omega), bsm, b1, bsm]
   by_cases b : lX p H d i = 1
   ·rw [if_pos b, bsm, bsm, bsm, aP (by omega), bsm, Int.toNat_natCast, List.set_set]
    congr 3
    rw [show (2 : Int) = gD p H X d i from by unfold gD; rw [if_pos ⟨y3, b⟩]]
    exact aAJ
   ·rw [if_neg b, bsm, aP (by omega), bsm, List.set_set]
    congr 3
    exact yL (by unfold gD; rw [if_neg (fun q => b q.2)])
  ·rw [if_neg y3, bsm, aP (by omega), bsm, List.set_set]
   congr 3
   exact yL (by unfold gD; rw [if_neg (fun q => y3 q.1)])
 ·dsimp only
  rw [vA, aFA hT, bsm, if_neg (by simp), List.set_set]
theorem fin_p (S : bP p t L H) (hk : cH p tab) : kJ F t tab F tab 0 = some (eY p H tab) := by
 have dl := S.defs
 have tl := hk.1
 have e0 : tab = (List.range tab.length).map fun j => if j < 0 then fA p H (eW tab j) (j : Int) else eW tab j := by rw [zL]; exact (aAj tab).symm
 rw [show eY p H tab = (List.range tab.length).map fun j => if j < tab.length then fA p H (eW tab j) (j : Int) else eW tab j from by rw [zB]; rfl]
 refine (congrArg (kJ F t tab F · 0) e0).trans (fG (fun k (s : List UsageDef × Int) => kJ F t tab k s.1 s.2) tab.length (fun i => ((List.range tab.length).map fun j => if j < i then fA p H (eW tab j) (j : Int) else eW tab j, (i : Int))) _ (fun k i hi => ?_) (fun k => ?_) (by show _ < 4000000; omega))
 ·dsimp only
  obtain ⟨n, e, x, D, hh, ht, _⟩ := S.headOf (d := (i : Int)) (by omega) (by omega)
  have hX : idx tab (i : Int) = some (eW tab i) := bB (by unfold eW; rw [List.getElem?_eq_getElem hi]; rfl)
  have ok1 := hk.2 _ _ _ hh.hD hX
  have hT : idx ((List.range tab.length).map fun j => if j < i then fA p H (eW tab j) (j : Int) else eW tab j) (i : Int) = some (eW tab i) := by rw [jT hi, if_neg (by omega)]
  rw [kJ, if_pos (by omega), hT, bsm, fin3_p S hh ht ok1 ⟨_, hT⟩, bsm, aP (by omega), bsm, Int.toNat_natCast]
  congr 1
  exact aAJ (f := fun j => fA p H (eW tab j) (j : Int))
 ·dsimp only
  rw [kJ, if_neg (by omega)]
theorem fin_r (S : bP p t L H) (hk : cH p tab) : sD F L F tab 0 = some (eY p H tab) := by
 have dl := S.defs
 have tl := hk.1
 have e0 : tab = (List.range tab.length).map fun j => if j < 0 then fA p H (eW tab j) (j : Int) else eW tab j := by rw [zL]; exact (aAj tab).symm
 rw [show eY p H tab = (List.range tab.length).map fun j => if j < tab.length then fA p H (eW tab j) (j : Int) else eW tab j from by rw [zB]; rfl]
 refine (congrArg (sD F L F · 0) e0).trans (fG (fun k (s : List UsageDef × Int) => sD F L k s.1 s.2) tab.length (fun i => ((List.range tab.length).map fun j => if j < i then fA p H (eW tab j) (j : Int) else eW tab j, (i : Int))) _ (fun k i hi => ?_) (fun k => ?_) (by show _ < 4000000; omega))
 ·dsimp only
  obtain ⟨n, e, x, D, hh, _, hL⟩ := S.headOf (d := (i : Int)) (by omega) (by omega)
  have hX : idx tab (i : Int) = some (eW tab i) := bB (by unfold eW; rw [List.getElem?_eq_getElem hi]; rfl)
  have ok1 := hk.2 _ _ _ hh.hD hX
  have hT : idx ((List.range tab.length).map fun j => if j < i then fA p H (eW tab j) (j : Int) else eW tab j) (i : Int) = some (eW tab i) := by rw [jT hi, if_neg (by omega)]
  rw [sD, if_pos (by simp; omega), fin3_r S hh hL ok1 hT, bsm, aP (by omega), bsm, Int.toNat_natCast]
  congr 1
  exact aAJ (f := fun j => fA p H (eW tab j) (j : Int))
 ·dsimp only
  rw [sD, if_neg (by simp)]
theorem wD {i : Nat} {X : UsageDef} (h : tab[i]? = some X) : (eY p H tab)[i]? = some (fA p H X (i : Int)) := by
 have := (List.getElem?_eq_some_iff.1 h).1
 rw [eY, jF this, eW, h]; rfl
theorem aCu : (eY p H tab).length = tab.length := by simp [eY]
theorem yY (hk : cH p tab) : cH p (eY p H tab) := by
 refine ⟨by rw [aCu]; exact hk.1, fun i D X hD hX => ?_⟩
 have hi := eX hD
 obtain ⟨X0, h0, o⟩ := kR hk hD
 have := wD (p := p) (H := H) (bN h0)
 rw [bN hX] at this
 cases this
 exact ⟨by rw [fA]; simp [o.chans], o.rules, o.args, o.many⟩
theorem aHw (S : bP p t L H) : ∃ R, rN p H R ∧ cU p H R = R ∧ ((uP F t).bind fun y3 => (nG F t F y3).bind fun x1 => (kJ F t x1 F x1 0).bind fun x4 => some (x4, (0 : Int))) = some (eY p H R, 0) ∧
  ((aA1 F p).bind fun y2 => (xB F L F y2).bind fun x1 => (sD F L F x1 0).bind fun x4 => some x4) = some (eY p H R) := by
 obtain ⟨R, g, hR, a, b⟩ := aGm S
 exact ⟨R, g, hR, by rw [none_p S, bsm, a, bsm, fin_p S g.ok, bsm], by rw [none_r S, bsm, b, bsm, fin_r S g.ok, bsm]⟩
end Go.Proofs.Ytmnbfgeljmhekaa
set_option maxRecDepth 100000
namespace Go.Proofs.Ytmnbfgeljmhekaa
open Go.SX Go.SW Go.Dt
variable {p : ScopeProg} {t : Usage_text} {L : bR} {H : Nat} {tab tab' : List UsageDef} {d n : Int} {e : E} {x : ScopeNode} {D : ScopeDef}
theorem aEg {ar : Option (List Int)} {v : Int} : ∀ (l : List ScopeExp) (i w : Int), two w → w ≤ gT ar v l i w
 | [], i, w, _ => Int.le_refl _
 | e :: l, i, w, h => by
  rw [gT]
  have up : ∀ w', two w' → w ≤ w' → w ≤ gT ar v l (i + 1) w' := fun w' h1 h2 => Int.le_trans h2 (aEg l (i + 1) w' h1)
  split
  ·exact up w h (Int.le_refl _)
  ·split
   ·exact up w h (Int.le_refl _)
   ·cases ar with
    | none => exact up 2 (by unfold two; omega) (by unfold two at h; omega)
    | some a =>
     have := gS ((idx a i).getD 0)
     exact up (min (w + cnt ((idx a i).getD 0)) 2) (iL h this) (by unfold two at *; omega)
theorem aFo {α : Type} {f : α → Int} : ∀ (l : List α) (w : Int), 0 ≤ w → (∀ y ∈ l, 0 ≤ f y) → 0 ≤ l.foldl (fun w y => w + f y) w
 | [], _, h, _ => h
 | y :: l, w, h, hf => by
  rw [List.foldl_cons]
  have := hf y (List.mem_cons_self ..)
  exact aFo l _ (by omega) (fun z hz => hf z (List.mem_cons_of_mem _ hz))
theorem aEx {α : Type} {g : α → Int} : ∀ (l : List α) (w : Int), two w → (∀ y ∈ l, two (g y)) → w ≤ l.foldl (fun w y => min (w + g y) 2) w ∧ two (l.foldl (fun w y => min (w + g y) 2) w)
 | [], w, h, _ => ⟨Int.le_refl _, h⟩
 | y :: l, w, h, hg => by
  rw [List.foldl_cons]
  have := hg y (List.mem_cons_self ..)
  obtain ⟨a, b⟩ := aEx l (min (w + g y) 2) (iL h this) (fun z hz => hg z (List.mem_cons_of_mem _ hz))
  exact ⟨Int.le_trans (by unfold two at *; omega) a, b⟩
theorem aDj {α : Type} {f g : α → Int} : ∀ (l : List α) (w w' : Int), 0 ≤ w → two w' → (1 ≤ w → 1 ≤ w') → (∀ y ∈ l, 0 ≤ f y ∧ two (g y) ∧ (1 ≤ f y → 1 ≤ g y)) → 1 ≤ l.foldl (fun w y => w + f y) w → 1 ≤ l.foldl (fun w y => min (w + g y) 2) w'
 | [], w, w', _, _, h, _, k => h k
 | y :: l, w, w', h0, h2, h, hf, k => by
  rw [List.foldl_cons] at k ⊢
  obtain ⟨a, b, c⟩ := hf y (List.mem_cons_self ..)
  exact aDj l _ _ (by omega) (iL h2 b) (fun q => by
   unfold two at *
   by_cases q1 : 1 ≤ w
   ·have := h q1; omega
   ·have := c (by omega); omega) (fun z hz => hf z (List.mem_cons_of_mem _ hz)) k
theorem aFP {ru : List Int} {g : ScopeRule → Int} : ∀ (l : List ScopeRule) (i w : Int), two w → (∀ y ∈ l, two (g y)) → w ≤ lT ru g l i w
 | [], _, w, _, _ => Int.le_refl _
 | y :: l, i, w, h, hg => by
  rw [lT]
  have q := hg y (List.mem_cons_self ..)
  have m := aBx (gS ((idx ru i).getD 0)) q
  exact Int.le_trans (by unfold two at *; omega) (aFP l (i + 1) _ (iL h m) (fun z hz => hg z (List.mem_cons_of_mem _ hz)))
theorem aIP {f : Int × E → Int} (h4 : x.Op = 4) (hd : idx p.Defs x.N = some D) (h1 : x.Kids.length = 1) (hs : ∀ k ∈ subs p x e, 0 ≤ f k) : 0 ≤ kT x D e f :=
 aFo _ _ (hs _ (aAF h4 hd h1)) (fun y hy => hs _ (wY h4 hd hy))
theorem aEs {f g : Int × E → Int} (h4 : x.Op = 4) (hd : idx p.Defs x.N = some D) (h1 : x.Kids.length = 1) (hs : ∀ k ∈ subs p x e, 0 ≤ f k ∧ two (g k) ∧ (1 ≤ f k → 1 ≤ g k)) (h : 1 ≤ kT x D e f) : 1 ≤ gM tab x D e g := by
 have hk := hs _ (aAF h4 hd h1)
 have a := aDj (f := fun y : ScopeSpot => f (y.Node, inE e x.N D)) (g := fun y : ScopeSpot => g (y.Node, inE e x.N D)) D.Spots _ _ hk.1 hk.2.1 hk.2.2 (fun y hy => hs _ (wY h4 hd hy)) h
 have b := (aEx (g := fun y : ScopeSpot => g (y.Node, inE e x.N D)) D.Spots _ hk.2.1 (fun y hy => (hs _ (wY h4 hd hy)).2.1)).2
 exact Int.le_trans a (aFP _ _ _ b (fun y hy => (hs _ (xT h4 hd hy)).2.1))
theorem aEC {v : Int} : ∀ (h : Nat) (q : Int × E), Tr p h q → 0 ≤ gX p v h q ∧ (1 ≤ gX p v h q → 1 ≤ eZ p tab v h q)
 | 0, q, hT => hT.elim
 | h + 1, q, ⟨x, hx, h0, hT, hK⟩ => by
  have kid : ∀ k ∈ subs p x q.2, 0 ≤ gX p v h k ∧ two (eZ p tab v h k) ∧ (1 ≤ gX p v h k → 1 ≤ eZ p tab v h k) := fun k hk => by
   obtain ⟨a, b⟩ := aEC h k (hK k hk)
   exact ⟨a, pG h k (hK k hk), b⟩
  rw [gX, eZ, hx]
  dsimp only
  unfold jN kN
  by_cases e2 : x.Op = 2
  ·rw [if_pos e2, if_pos e2]
   unfold surW qQ
   cases ho : (idx q.2 v).getD none with
   | none => dsimp only; exact ⟨Int.le_refl _, fun k => absurd k (by omega)⟩
   | some c =>
    dsimp only
    have he : idx q.2 v = some (some c) := by
     cases hv : idx q.2 v with
     | none => rw [hv] at ho; cases ho
     | some o => rw [hv] at ho; rw [show o = some c from ho]
    by_cases hc : x.N = v ∧ (chOf p c).elim 0 (·.Many) = (x.Args.length : Int)
    ·rw [if_pos hc]
     refine ⟨by omega, fun _ => ?_⟩
     rw [hc.1, he]
     dsimp only
     rw [if_pos hc.2]
     refine Int.le_trans ?_ (aEg _ _ _ xK)
     rw [if_pos rfl]
     exact Int.le_refl _
    ·rw [if_neg hc]; exact ⟨Int.le_refl _, fun k => absurd k (by omega)⟩
  rw [if_neg e2, if_neg e2]
  by_cases e35 : x.Op = 3 ∨ x.Op = 5
  ·have hl : x.Kids.length = 2 := by rcases hT with h | h | h | h | h <;> first | exact h.2 | omega
   obtain ⟨a1, a2, a3⟩ := kid _ (oN (i := 0) hT (by omega) (by omega))
   obtain ⟨b1, b2, b3⟩ := kid _ (oN (i := 1) hT (by omega) (by omega))
   by_cases e3 : x.Op = 3
   ·rw [if_pos e3, if_pos e3]
    refine ⟨by omega, fun k => ?_⟩
    unfold two at *
    by_cases q1 : 1 ≤ gX p v h (hP x 0, q.2)
    ·have := a3 q1; omega
    ·have := b3 (by omega); omega
   ·rw [if_neg e3, if_neg e3, if_pos (by omega), if_pos (by omega)]
    refine ⟨by omega, fun k => ?_⟩
    have := a3 (by omega)
    omega
  rw [if_neg (show ¬ x.Op = 3 from fun q => e35 (.inl q)), if_neg (show ¬ x.Op = 3 from fun q => e35 (.inl q)), if_neg (show ¬ x.Op = 5 from fun q => e35 (.inr q)), if_neg (show ¬ x.Op = 5 from fun q => e35 (.inr q))]
  by_cases e4 : x.Op = 4
  ·obtain ⟨_, h1, d, hd, _⟩ := oI hT e4
   rw [if_pos e4, if_neg (by omega), if_pos e4, hd]
   exact ⟨aIP e4 hd h1 fun k hk => (kid k hk).1, aEs e4 hd h1 kid⟩
  ·rw [if_neg e4]; exact ⟨Int.le_refl _, fun k => absurd k (by omega)⟩
theorem beg_inn (S : bP p t L H) (hh : dV p H d n e x D) (c : Int) (h : 1 ≤ lX p H d c) : 1 ≤ gM tab x D e fun k => snd p tab k ((e.length : Int) + c) := by
 obtain ⟨_, hs⟩ := S.subs hh.ln hh.hx
 rw [aDv S hh] at h
 refine aEs hh.op (by rw [hh.hN]; exact hh.hD) hh.kid (fun k hk => ?_) h
 obtain ⟨a, b⟩ := aEC (tab := tab) (v := (e.length : Int) + c) 60 k (S.tr60 (hs k hk))
 exact ⟨a, pG 60 k (S.tr60 (hs k hk)), b⟩
theorem aEk {X : UsageDef} {c : Nat} : cnt (gD p H X d c) = cnt (hO X c) := by
 unfold gD
 split
 ·rename_i h; rw [h.1]; rfl
 ·rfl
theorem sZ {X : UsageDef} {c : Nat} (hc : c < X.Chans.length) : X.Chans[c]? = some (hO X c) := by unfold hO; rw [List.getElem?_eq_getElem hc]; rfl
theorem fin_le (hk : cH p tab) : LeT tab (eY p H tab) ∧ LeT (eY p H tab) tab := by
 have key : ∀ (d : Int) D X Y, idx p.Defs d = some D → idx tab d = some X → idx (eY p H tab) d = some Y → Y = fA p H X d ∧ X.Chans.length = D.Chans.length := fun d D X Y hD hX hY => by
  have := eX hD
  have q := wD (p := p) (H := H) (bN hX)
  rw [bN hY, show ((d.toNat : Nat) : Int) = d from by omega] at q
  exact ⟨Option.some.inj q, (hk.2 _ _ _ hD hX).chans⟩
 constructor
 ·refine LeT.of hk (yY hk) fun d D X Y hD hX hY => ?_
  obtain ⟨rfl, hl⟩ := key d D X Y hD hX hY
  refine ⟨fun c hc => ?_, fun c _ => Int.le_refl _, fun c a b ha hb i _ => ?_⟩
  ·rw [fX (sZ (by omega)), fA, fX (jF (by omega)), aEk]; exact Int.le_refl _
  ·rw [fA] at hb; dsimp only at hb; rw [ha] at hb; cases hb; exact Int.le_refl _
 ·refine LeT.of (yY hk) hk fun d D X Y hD hX hY => ?_
  obtain ⟨rfl, hl⟩ := key d D Y X hD hY hX
  refine ⟨fun c hc => ?_, fun c _ => Int.le_refl _, fun c a b ha hb i _ => ?_⟩
  ·rw [fX (sZ (X := Y) (by omega)), fA, fX (jF (by omega)), aEk]; exact Int.le_refl _
  ·rw [fA] at ha; dsimp only at ha; rw [hb] at ha; cases ha; exact Int.le_refl _
theorem aIR (S : bP p t L H) (h : LeT tab tab') (k : LeT tab' tab) : cU p H tab = cU p H tab' :=
 ((yS S h).weigh (kP S) (kP S)).2 ((yS S k).weigh (kP S) (kP S)).1 (aAz S) (aAz S)
theorem aCD {a b : List Int} (hl : a.length = b.length) (h : ∀ i : Nat, i < a.length → kc b i ≤ kc a i) : covB a b = true := by
 unfold covB
 rw [pY _ _ _ hl]
 refine List.all_eq_true.2 fun i hi => ?_
 have hi := List.mem_range.1 hi
 have h1 : a[i]? = some (a[i]'hi) := List.getElem?_eq_getElem hi
 have h2 : b[i]? = some (b[i]'(by omega)) := List.getElem?_eq_getElem (by omega)
 have := h i hi
 rw [fX h1, fX h2] at this
 rw [h1, h2]
 exact decide_eq_true this
theorem aBH {a b : List Int} (hl : a.length = b.length) (h : covB a b = true) : ∀ i : Nat, i < a.length → kc b i ≤ kc a i := fun i hi => by
 unfold covB at h
 rw [pY _ _ _ hl] at h
 have := List.all_eq_true.1 h i (List.mem_range.2 hi)
 have h1 : a[i]? = some (a[i]'hi) := List.getElem?_eq_getElem hi
 have h2 : b[i]? = some (b[i]'(by omega)) := List.getElem?_eq_getElem (by omega)
 rw [h1, h2] at this
 rw [fX h1, fX h2]
 exact of_decide_eq_true this
theorem aE8 (S : bP p t L H) (hk : cH p tab) : oE p H tab = true ↔ LeT (cU p H tab) tab ∧ ∀ (i : Nat) X (c : Nat), tab[i]? = some X → X.Chans[c]? = some 2 → lX p H (i : Int) (c : Int) = 1 := by
 have ok2 := kP (tab := tab) S
 have tl := hk.1
 have al := oJ (p := p) (H := H) (tab := tab)
 have each : ∀ i : Nat, i < tab.length → ∃ X Y D, tab[i]? = some X ∧ (cU p H tab)[i]? = some Y ∧ idx p.Defs (i : Int) = some D ∧ lB D X ∧ lB D Y := fun i hi => by
  obtain ⟨D, hD⟩ := cM (xs := p.Defs) (i := (i : Int)) (by omega) (by omega)
  obtain ⟨X, hX, o1⟩ := kR hk hD
  obtain ⟨Y, hY, o2⟩ := kR ok2 hD
  exact ⟨X, Y, D, by have := bN hX; rwa [Int.toNat_natCast] at this, by have := bN hY; rwa [Int.toNat_natCast] at this, hD, o1, o2⟩
 unfold oE
 rw [List.all_eq_true]
 constructor
 ·intro h
  have at_ : ∀ i : Nat, i < tab.length → ∀ X Y, tab[i]? = some X → (cU p H tab)[i]? = some Y → accB p H X Y (i : Int) = true := fun i hi X Y h1 h2 => by
   have := h i (List.mem_range.2 hi)
   rwa [h1, h2] at this
  refine ⟨LeT.of ok2 hk fun d D Y X hD hY hX => ?_, fun i X c hX hc => ?_⟩
  ·have hd := eX hD
   have o1 := hk.2 _ _ _ hD hX
   have o2 := ok2.2 _ _ _ hD hY
   have q := at_ d.toNat (by omega) X Y (bN hX) (bN hY)
   unfold accB at q
   rw [Bool.and_eq_true, kz_cov (by rw [o1.args, o2.args]), Bool.and_eq_true, Bool.and_eq_true] at q
   obtain ⟨⟨q1, q2, q3⟩, _⟩ := q
   refine ⟨by rw [← o1.chans]; exact aBH (by rw [o1.chans, o2.chans]) q1, by rw [← o1.rules]; exact aBH (by rw [o1.rules, o2.rules]) q2, fun c a b ha hb i hi => ?_⟩
   have hc := (List.getElem?_eq_some_iff.1 hb).1
   have := List.all_eq_true.1 q3 c (List.mem_range.2 hc)
   rw [hb, ha] at this
   obtain ⟨ch, hch⟩ := jZ (D := D) (c := c) (by rw [← o1.args]; exact hc)
   have m1 := o1.many _ _ _ hch (bB hb)
   have m2 := o2.many _ _ _ hch (bB ha)
   exact aBH (by omega) this i (by omega)
  ·have hi := (List.getElem?_eq_some_iff.1 hX).1
   obtain ⟨X', Y, D, h1, h2, hD, o1, o2⟩ := each i hi
   have q := at_ i hi X Y hX h2
   unfold accB at q
   rw [Bool.and_eq_true] at q
   have := List.all_eq_true.1 q.2 c (List.mem_range.2 (List.getElem?_eq_some_iff.1 hc).1)
   unfold oV at this
   rw [hc, Option.elim_some] at this
   simpa using this
 ·rintro ⟨hle, hon⟩ i hi
  have hi := List.mem_range.1 hi
  obtain ⟨X, Y, D, h1, h2, hD, o1, o2⟩ := each i hi
  rw [h1, h2]
  show accB p H X Y (i : Int) = true
  unfold accB
  rw [Bool.and_eq_true, kz_cov (by rw [o1.args, o2.args]), Bool.and_eq_true, Bool.and_eq_true]
  have a1 : dY tab (i : Int) = X.Chans := by unfold dY; rw [bB h1]; rfl
  have a2 : dY (cU p H tab) (i : Int) = Y.Chans := by unfold dY; rw [bB h2]; rfl
  have b1 : dS tab (i : Int) = X.Rules := by unfold dS; rw [bB h1]; rfl
  have b2 : dS (cU p H tab) (i : Int) = Y.Rules := by unfold dS; rw [bB h2]; rfl
  refine ⟨⟨aCD (by rw [o1.chans, o2.chans]) fun c _ => ?_, aCD (by rw [o1.rules, o2.rules]) fun c _ => ?_, ?_⟩, ?_⟩
  ·have := (hle (i : Int) (c : Int)).1; rwa [a1, a2] at this
  ·have := (hle (i : Int) (c : Int)).2.1; rwa [b1, b2] at this
  ·refine List.all_eq_true.2 fun c hc => ?_
   have hc := List.mem_range.1 hc
   have la := o1.args
   have lb := o2.args
   have g1 : X.Args[c]? = some (X.Args[c]'hc) := List.getElem?_eq_getElem hc
   have g2 : Y.Args[c]? = some (Y.Args[c]'(by omega)) := List.getElem?_eq_getElem (by omega)
   obtain ⟨ch, hch⟩ := jZ (D := D) (c := c) (by omega)
   have m1 := o1.many _ _ _ hch (bB g1)
   have m2 := o2.many _ _ _ hch (bB g2)
   rw [g1, g2]
   refine aCD (by omega) fun j _ => ?_
   have := (hle (i : Int) (j : Int)).2.2 (c : Int)
   unfold iW at this
   dsimp only at this
   rw [bB h1, bB h2, bsm, bsm, bB g1, bB g2] at this
   exact this
  ·refine List.all_eq_true.2 fun c hc => ?_
   have hc := List.mem_range.1 hc
   have g1 : X.Chans[c]? = some (X.Chans[c]'hc) := List.getElem?_eq_getElem hc
   unfold oV
   rw [g1, Option.elim_some]
   by_cases y2 : X.Chans[c]'hc = 2
   ·rw [y2] at g1
    have := hon i X c h1 g1
    simp [this]
   ·simp [y2]
theorem aGL (S : bP p t L H) {R : List UsageDef} (g : rN p H R) (hR : cU p H R = R) : oE p H (eY p H R) = true := by
 obtain ⟨l1, l2⟩ := fin_le (H := H) g.ok
 refine (aE8 S (yY g.ok)).2 ⟨?_, fun i X c hX hc => ?_⟩
 ·rw [aIR S l2 l1, hR]; exact l1
 ·have hi := (List.getElem?_eq_some_iff.1 hX).1
  rw [aCu] at hi
  have h1 : R[i]? = some (R[i]'hi) := List.getElem?_eq_getElem hi
  rw [wD h1] at hX
  cases hX
  have hc' := (List.getElem?_eq_some_iff.1 hc).1
  rw [fA] at hc hc'
  dsimp only at hc hc'
  rw [List.length_map, List.length_range] at hc'
  rw [jF hc'] at hc
  have e := Option.some.inj hc
  unfold gD at e
  split at e
  ·rename_i q; exact q.2
  ·have := (g.ku _ (List.mem_of_getElem? h1)).chans _ (List.mem_of_getElem? (sZ hc'))
   rw [e] at this
   unfold kK at this; omega
theorem aHM (S : bP p t L H) {R : List UsageDef} (g : rN p H R) (hR : cU p H R = R) (hk : cH p tab) (ha : oE p H tab = true) : LeT (eY p H R) tab ∧ ∀ (i : Nat) X Y (c : Nat), tab[i]? = some X → (eY p H R)[i]? = some Y → X.Chans[c]? = some 2 → Y.Chans[c]? = some 2 := by
 obtain ⟨a1, a2⟩ := (aE8 S hk).1 ha
 obtain ⟨l1, l2⟩ := fin_le (H := H) g.ok
 have low := g.low tab hk a1
 refine ⟨l2.trans low, fun i X Y c hX hY hc => ?_⟩
 have hi := (List.getElem?_eq_some_iff.1 hX).1
 have b := a2 i X c hX hc
 have tl := hk.1
 have rl := g.ok.1
 have hi' : i < R.length := by omega
 have h1 : R[i]? = some (R[i]'hi') := List.getElem?_eq_getElem hi'
 rw [wD h1] at hY
 cases hY
 obtain ⟨n, e, x, D, hh, _, _⟩ := S.headOf (d := (i : Int)) (by omega) (by omega)
 have o1 := hk.2 _ _ _ hh.hD (bB hX)
 have o2 := g.ok.2 _ _ _ hh.hD (bB h1)
 have hcl := (List.getElem?_eq_some_iff.1 hc).1
 have q1 := o1.chans
 have q2 := o2.chans
 have hcr : c < (R[i]'hi').Chans.length := by omega
 rw [fA, jF hcr]
 have one := beg_inn (tab := R) S hh (c : Int) (by omega)
 have tw := (aAZ S (LeT.rfl (t := R)) hh ((e.length : Int) + (c : Int))).2
 have hR' := yZ (tab := R) S (d := i) (by omega) hh
 rw [hR, bB h1] at hR'
 have e1 : hO (R[i]'hi') c = eG (gM R x D e fun k => snd p R k ((e.length : Int) + (c : Int))) := by
  have := sZ hcr
  rw [Option.some.inj hR', eS, jF (by omega)] at this
  rw [Option.some.inj hR']
  exact (Option.some.inj this).symm
 have up := (low (i : Int) (c : Int)).1
 have c1 : dY R (i : Int) = (R[i]'hi').Chans := by unfold dY; rw [bB h1]; rfl
 have c2 : dY tab (i : Int) = X.Chans := by unfold dY; rw [bB hX]; rfl
 rw [c1, c2, fX (sZ hcr), fX hc, e1, qR tw] at up
 have v1 : (gM R x D e fun k => snd p R k ((e.length : Int) + (c : Int))) = 1 := by
  have : cnt (2 : Int) = 1 := rfl
  omega
 have o3 : hO (R[i]'hi') c = 3 := by rw [e1, v1]; rfl
 unfold gD
 rw [if_pos ⟨o3, b⟩]
end Go.Proofs.Ytmnbfgeljmhekaa
set_option maxRecDepth 100000
namespace Go.Proofs.Ytmnbfgeljmhekaa
open Go.SX Go.SW Go.Dt
variable {p : ScopeProg} {t : Usage_text} {L : bR} {H : Nat} {tab tab' : List UsageDef} {d n : Int} {e : E} {x : ScopeNode} {D : ScopeDef}
def cn (k : Int) : Int := if k = 1 then 0 else if k = 2 ∨ k = 3 then 1 else 1000
theorem aD3 (k : Int) : vR k = some (cn k) := by
 unfold vR cn
 by_cases h1 : k = 1
 ·rw [if_pos h1, if_pos h1]
 ·rw [if_neg h1, if_neg h1]
  by_cases h2 : k = 2
  ·rw [if_pos h2, bsm, decide_eq_true h2, cond_true, if_pos (.inl h2)]
  ·rw [if_neg h2, bsm]
   by_cases h3 : k = 3
   ·rw [decide_eq_true h3, cond_true, if_pos (.inr h3)]
   ·rw [decide_eq_false h3, cond_false, if_neg (by omega)]
theorem cn_mono {a b : Int} (ha : okK true a = true) (hb : okK true b = true) (h : cnt a ≤ cnt b) : cn a ≤ cn b := by
 simp only [okK, Bool.true_or, Bool.and_true, decide_eq_true_eq] at ha hb
 unfold cnt at h
 unfold cn
 repeat' split
 all_goals first | omega | (split at h <;> split at h <;> omega) | (split at h <;> omega)
theorem okK_up {b : Bool} {k : Int} (h : okK b k = true) : okK true k = true := by
 unfold okK at *
 rw [Bool.and_eq_true] at h
 rw [h.1]; rfl
theorem ef_kind {a b : List Int} {w : Int × Int → Option Bool} (hl : a.length = b.length) (hB : a.length ≤ 2000000) (h : ∀ (i : Nat) x y, a[i]? = some x → b[i]? = some y → w (x, y) = some true) : wB F a b w = some true := by
 rw [wB, if_neg (fun q => q (by omega)), show mC a b w F 0 = some (.inl ()) from ?_, bsm]
 refine fG (fun k (s : Int) => mC a b w k s) a.length (fun i => (i : Int)) _ (fun k i hi => ?_) (fun k => ?_) (by show _ < 4000000; omega)
 ·have h1 : a[i]? = some (a[i]'hi) := List.getElem?_eq_getElem hi
  have h2 : b[i]? = some (b[i]'(by omega)) := List.getElem?_eq_getElem (by omega)
  rw [mC, if_pos (by omega), bB h1, bsm, bB h2, bsm, h i _ _ h1 h2, bsm, cond_true, aP (by omega), bsm]; rfl
 ·rw [mC, if_neg (by omega)]
theorem ef_args {a b : List (List Int)} {w : List Int × List Int → Option Bool} (hl : a.length = b.length) (hB : a.length ≤ 2000000) (h : ∀ (i : Nat) x y, a[i]? = some x → b[i]? = some y → w (x, y) = some true) : xV F a b w = some true := by
 rw [xV, if_neg (fun q => q (by omega)), show oC a b w F 0 = some (.inl ()) from ?_, bsm]
 refine fG (fun k (s : Int) => oC a b w k s) a.length (fun i => (i : Int)) _ (fun k i hi => ?_) (fun k => ?_) (by show _ < 4000000; omega)
 ·have h1 : a[i]? = some (a[i]'hi) := List.getElem?_eq_getElem hi
  have h2 : b[i]? = some (b[i]'(by omega)) := List.getElem?_eq_getElem (by omega)
  rw [oC, if_pos (by omega), bB h1, bsm, bB h2, bsm, h i _ _ h1 h2, bsm, cond_true, aP (by omega), bsm]; rfl
 ·rw [oC, if_neg (by omega)]
theorem ef_defs {a b : List UsageDef} {w : UsageDef × UsageDef → Option Bool} (hl : a.length = b.length) (hB : a.length ≤ 2000000) (h : ∀ (i : Nat) x y, a[i]? = some x → b[i]? = some y → w (x, y) = some true) : xR F a b w = some true := by
 rw [xR, if_neg (fun q => q (by omega)), show nZ a b w F 0 = some (.inl ()) from ?_, bsm]
 refine fG (fun k (s : Int) => nZ a b w k s) a.length (fun i => (i : Int)) _ (fun k i hi => ?_) (fun k => ?_) (by show _ < 4000000; omega)
 ·have h1 : a[i]? = some (a[i]'hi) := List.getElem?_eq_getElem hi
  have h2 : b[i]? = some (b[i]'(by omega)) := List.getElem?_eq_getElem (by omega)
  rw [nZ, if_pos (by omega), bB h1, bsm, bB h2, bsm, h i _ _ h1 h2, bsm, cond_true, aP (by omega), bsm]; rfl
 ·rw [nZ, if_neg (by omega)]
theorem aCH {a b : List Int} (hl : a.length = b.length) (hB : a.length ≤ 2000000) (ha : ∀ k ∈ a, okK true k = true) (hb : ∀ k ∈ b, okK true k = true) (h : ∀ i : Nat, i < a.length → kc a i ≤ kc b i) : pP F a b = some true := by
 rw [pP, ef_kind hl hB fun i x y hx hy => ?_, bsm]
 have := h i (List.getElem?_eq_some_iff.1 hx).1
 rw [fX hx, fX hy] at this
 show tI x y = _
 rw [tI, aD3, bsm, aD3, bsm, decide_eq_true (cn_mono (ha _ (List.mem_of_getElem? hx)) (hb _ (List.mem_of_getElem? hy)) this)]
theorem aDK {X : UsageDef} (h : kin X = true) : (∀ k ∈ X.Chans, okK true k = true) ∧ (∀ k ∈ X.Rules, okK true k = true) ∧ ∀ a ∈ X.Args, ∀ k ∈ a, okK true k = true := by
 unfold kin at h
 rw [Bool.and_eq_true, Bool.and_eq_true] at h
 exact ⟨List.all_eq_true.1 h.1, fun k hk => okK_up (List.all_eq_true.1 h.2.1 k hk), fun a ha k hk => okK_up (List.all_eq_true.1 (List.all_eq_true.1 h.2.2 a ha) k hk)⟩
theorem aIi (S : bP p t L H) (ha : cH p tab) (hb : cH p tab') (ka : ∀ X ∈ tab, kin X = true) (kb : ∀ X ∈ tab', kin X = true) (h : LeT tab tab') : yC F tab tab' = some true := by
 have l1 := ha.1
 have l2 := hb.1
 have dl := S.defs
 rw [yC, ef_defs (by omega) (by omega) fun i X Y hX hY => ?_, bsm]
 have hi := (List.getElem?_eq_some_iff.1 hX).1
 obtain ⟨D, hD⟩ := cM (xs := p.Defs) (i := (i : Int)) (by omega) (by omega)
 have ho := dQ (S.okD hD)
 have o1 := ha.2 _ _ _ hD (bB hX)
 have o2 := hb.2 _ _ _ hD (bB hY)
 obtain ⟨k1, k2, k3⟩ := aDK (ka _ (List.mem_of_getElem? hX))
 obtain ⟨k4, k5, k6⟩ := aDK (kb _ (List.mem_of_getElem? hY))
 have a1 : dY tab (i : Int) = X.Chans := by unfold dY; rw [bB hX]; rfl
 have a2 : dY tab' (i : Int) = Y.Chans := by unfold dY; rw [bB hY]; rfl
 have b1 : dS tab (i : Int) = X.Rules := by unfold dS; rw [bB hX]; rfl
 have b2 : dS tab' (i : Int) = Y.Rules := by unfold dS; rw [bB hY]; rfl
 have c1 := o1.chans
 have c2 := o2.chans
 have c3 := o1.rules
 have c4 := o2.rules
 have c5 := o1.args
 have c6 := o2.args
 show tG F X Y = some true
 rw [tG, aCH (by omega) (by omega) k1 k4 (fun j _ => by have := (h (i : Int) (j : Int)).1; rwa [a1, a2] at this), bsm, cond_true, aCH (by omega) (by omega) k2 k5 (fun j _ => by have := (h (i : Int) (j : Int)).2.1; rwa [b1, b2] at this), bsm, cond_true,
  ef_args (by omega) (by omega) fun c a b hca hcb => ?_, bsm, bsm]
 have hc := (List.getElem?_eq_some_iff.1 hca).1
 obtain ⟨ch, hch⟩ := jZ (D := D) (c := c) (by omega)
 have m1 := o1.many _ _ _ hch (bB hca)
 have m2 := o2.many _ _ _ hch (bB hcb)
 have m3 := ho.2.2.2.1 ch (dW hch)
 show pP F a b = some true
 refine aCH (by omega) (by omega) (k3 a (List.mem_of_getElem? hca)) (k6 b (List.mem_of_getElem? hcb)) fun j _ => ?_
 have := (h (i : Int) (j : Int)).2.2 (c : Int)
 unfold iW at this
 dsimp only at this
 rw [bB hX, bB hY, bsm, bsm, bB hca, bB hcb] at this
 exact this
theorem kK_ok {b : Bool} {k : Int} (h : kK k) : okK b k = true := by
 rcases h with rfl | rfl | rfl <;> cases b <;> rfl
theorem fin_kin {R : List UsageDef} (hk : ∀ X ∈ R, KU X) : ∀ X ∈ eY p H R, kin X = true := fun X hX => by
 obtain ⟨i, hi, rfl⟩ := List.mem_iff_getElem.1 hX
 have hi' : i < R.length := by rwa [aCu] at hi
 have h1 : R[i]? = some (R[i]'hi') := List.getElem?_eq_getElem hi'
 have h2 := wD (p := p) (H := H) h1
 rw [List.getElem?_eq_getElem hi] at h2
 rw [Option.some.inj h2]
 have ku := hk _ (List.mem_of_getElem? h1)
 unfold kin
 rw [Bool.and_eq_true, Bool.and_eq_true]
 refine ⟨List.all_eq_true.2 fun k hk => ?_, List.all_eq_true.2 fun k hk => kK_ok (ku.rules k hk), List.all_eq_true.2 fun a ha => List.all_eq_true.2 fun k hk => kK_ok (ku.args a ha k hk)⟩
 rw [fA] at hk
 obtain ⟨c, hc, rfl⟩ := List.mem_map.1 hk
 have := ku.chans _ (List.mem_of_getElem? (sZ (List.mem_range.1 hc)))
 unfold gD
 split
 ·rfl
 ·exact kK_ok this
theorem good_of (hk : cH p tab) (ka : ∀ X ∈ tab, kin X = true) : iD p tab = true := by
 unfold iD
 have tl := hk.1
 rw [Bool.and_eq_true, Bool.and_eq_true]
 refine ⟨decide_eq_true tl, List.all_eq_true.2 fun q hq => ?_, List.all_eq_true.2 ka⟩
 obtain ⟨D, X⟩ := q
 obtain ⟨i, hi, he⟩ := List.mem_iff_getElem.1 hq
 have hi' := hi
 rw [List.length_zip] at hi'
 rw [List.getElem_zip] at he
 cases he
 have o := hk.2 _ _ _ (bB (List.getElem?_eq_getElem (by omega : i < p.Defs.length))) (bB (List.getElem?_eq_getElem (by omega : i < tab.length)))
 show hE _ _ = true
 unfold hE
 rw [Bool.and_eq_true]
 refine ⟨decide_eq_true ⟨o.chans, o.rules, o.args⟩, List.all_eq_true.2 fun q hq => ?_⟩
 obtain ⟨ch, a⟩ := q
 obtain ⟨j, hj, he⟩ := List.mem_iff_getElem.1 hq
 have hj' := hj
 rw [List.length_zip] at hj'
 dsimp only at hj'
 rw [List.getElem_zip] at he
 cases he
 exact decide_eq_true (o.many _ _ _ (bB (List.getElem?_eq_getElem (by omega))) (bB (List.getElem?_eq_getElem (by omega))))
theorem good_kin (h : iD p tab = true) : ∀ X ∈ tab, kin X = true := by
 unfold iD at h
 rw [Bool.and_eq_true, Bool.and_eq_true] at h
 exact List.all_eq_true.1 h.2.2
theorem aFN (hp : SmP p) {s : VS} (h : eO p = some s) (t1 : nX F p = some t) (S : bP p t L p.Nodes.length) (hm : ∀ a ∈ tab, SmU a) : pK F p tab = some (if iD p tab = true then (oE p p.Nodes.length tab, 0) else (false, 2)) := by
 have hpp : (⟨p.Free, p.Nodes, p.Defs, p.Main⟩ : ScopeProg) = p := rfl
 rw [pK, hpp, aEK hp, h, show (if (some s : Option VS).isSome = true then (0 : Int) else 2) = 0 from rfl, bsm (a := (0 : Int)), if_neg (show ¬ (0 : Int) ≠ 0 from fun q => q rfl), t1, bsm (a := t), fine_eq (by rw [S.prog]; exact hp.defs) hm, S.prog, bsm (a := iD p tab)]
 cases hg : iD p tab with
 | false => rfl
 | true =>
  have hk := aE3 hg
  obtain ⟨a1, _⟩ := aEa S hk
  rw [cond_true, a1, bsm, if_pos rfl]
  exact aGc S hk hm
theorem aHy (hp : SmP p) {s : VS} (h : eO p = some s) (t1 : nX F p = some t) (S : bP p t L p.Nodes.length) : ∃ R, rN p p.Nodes.length R ∧ cU p p.Nodes.length R = R ∧ qX F p = some (eY p p.Nodes.length R, 0) := by
 have hpp : (⟨p.Free, p.Nodes, p.Defs, p.Main⟩ : ScopeProg) = p := rfl
 obtain ⟨R, g, hR, a, _⟩ := aHw S
 refine ⟨R, g, hR, ?_⟩
 rw [qX, hpp, aEK hp, h, show (if (some s : Option VS).isSome = true then (0 : Int) else 2) = 0 from rfl, bsm (a := (0 : Int)), if_neg (show ¬ (0 : Int) ≠ 0 from fun q => q rfl), t1, bsm (a := t)]
 exact a
end Go.Proofs.Ytmnbfgeljmhekaa
set_option maxRecDepth 100000
namespace Go.Proofs.Ytmnbfgeljmhekaa
open Go.SX Go.SW Go.Dt
theorem aIk {p : ScopeProg} {tab : List UsageDef} (hp : SmP p) (ht : tab.length ≤ 2000000) (hm : ∀ a ∈ tab, SmU a) : yT F p tab = some true := by
 have hpp : (⟨p.Free, p.Nodes, p.Defs, p.Main⟩ : ScopeProg) = p := rfl
 obtain ⟨b, hb⟩ := large_eq ht hm
 rw [yT, hb, bsm]
 cases b
 ·rw [cond_false, hpp, aGZ hp]
  cases h : eO p with
  | none => rw [show (if (none : Option VS).isSome = true then (0 : Int) else 2) = 2 from rfl, bsm (a := (2 : Int)), if_pos (by decide), yH, bsm]
  | some s =>
   obtain ⟨t, L, t1, _, S⟩ := sees hp h
   obtain ⟨R, g, hR, e1⟩ := aHy hp h t1 S
   have okF := yY (H := p.Nodes.length) g.ok
   have kF := fin_kin (p := p) (H := p.Nodes.length) g.ku
   have e2 := aFN hp h t1 S (okF.sm S)
   rw [if_pos (good_of okF kF), aGL S g hR] at e2
   rw [show (if (some s : Option VS).isSome = true then (0 : Int) else 2) = 0 from rfl, bsm (a := (0 : Int)), if_neg (show ¬ (0 : Int) ≠ 0 from fun q => q rfl), e1, bsm, e2, bsm, if_neg (show ¬ (0 : Int) ≠ 0 from fun q => q rfl), if_neg (show ¬ (0 : Int) ≠ 0 from fun q => q rfl), cond_true, aFN hp h t1 S hm, bsm]
   cases hg : iD p tab with
   | false => rw [if_neg (show ¬ (false = true) from Bool.false_ne_true), if_pos (show ((false, (2 : Int)) : Bool × Int).2 ≠ 0 by decide), yH, bsm]
   | true =>
    have hk := aE3 hg
    rw [if_pos (show true = true from rfl), if_neg (show ¬ (0 : Int) ≠ 0 from fun q => q rfl)]
    cases ha : oE p p.Nodes.length tab with
    | false => rw [cond_false, yH, bsm]
    | true =>
     obtain ⟨low, once⟩ := aHM S g hR hk ha
     have l1 := hk.1
     have l2 := okF.1
     have in2 : ∀ (i : Nat) X, tab[i]? = some X → mH (eY p p.Nodes.length R, (0 : Int)) (i : Int) X F 0 = some (.inl ()) := fun i X hX => by
      have hi := (List.getElem?_eq_some_iff.1 hX).1
      have hs := (hm _ (List.mem_of_getElem? hX)).chans
      have hY : (eY p p.Nodes.length R)[i]? = some ((eY p p.Nodes.length R)[i]'(by omega)) := List.getElem?_eq_getElem (by omega)
      refine fG (fun k (s : Int) => mH (eY p p.Nodes.length R, (0 : Int)) (i : Int) X k s) X.Chans.length (fun c => (c : Int)) _ (fun k c hc => ?_) (fun k => ?_) (by show _ < 4000000; omega)
      ·have g1 : X.Chans[c]? = some (X.Chans[c]'hc) := List.getElem?_eq_getElem hc
       rw [mH, if_pos (by omega), bB g1, bsm]
       by_cases y2 : X.Chans[c]'hc = 2
       ·rw [y2] at g1
        have := once i X _ c hX hY g1
        rw [if_pos y2, bB hY, bsm, bB this, bsm, if_neg (by decide), bsm]
        dsimp only
        rw [aP (by omega), bsm]; rfl
       ·rw [if_neg y2, bsm]
        dsimp only
        rw [aP (by omega), bsm]; rfl
      ·rw [mH, if_neg (by omega)]
     rw [cond_true, aIi S okF hk kF (good_kin hg) low, bsm, cond_true, show nN F tab (eY p p.Nodes.length R, (0 : Int)) F 0 = some (.inl ()) from ?_, bsm]
     ·show ((mR F).bind fun y14 => some y14) = some true
      rw [yH, bsm]
     ·refine fG (fun k (s : Int) => nN F tab (eY p p.Nodes.length R, (0 : Int)) k s) tab.length (fun c => (c : Int)) _ (fun k i hi => ?_) (fun k => ?_) (by show _ < 4000000; omega)
      ·have h1 : tab[i]? = some (tab[i]'hi) := List.getElem?_eq_getElem hi
       rw [nN, if_pos (by omega), bB h1, bsm, in2 i _ h1, bsm]
       dsimp only
       rw [aP (by omega), bsm]; rfl
      ·rw [nN, if_neg (by omega)]
 ·rw [cond_true, yH, bsm]
end Go.Proofs.Ytmnbfgeljmhekaa
namespace Go.SW
open Go.SX
theorem aIG {w w' : World} (h : w.keptBut w' (fun _ => False)) {p : MemPlace} (hp : p.block < w.heap.size) : w.sameAt w' p := by
 obtain ⟨_, _, h⟩ := h
 cases p with
 | cell b off =>
  have := h b hp
  show w'.cell? _ = w.cell? _
  unfold World.cell?
  dsimp only at *
  cases h1 : w.heap[b]? with
  | none => rw [h1] at this; dsimp only at this; rw [this]
  | some o =>
   rw [h1] at this
   cases o with
   | cells c t fr =>
    cases h2 : w'.heap[b]? with
    | none => rw [h2] at this; cases this
    | some o' =>
     rw [h2] at this
     cases o' with
     | cells c' t' fr' =>
      dsimp only at this ⊢
      rw [this.2.2.2 off (fun f => f)]
     | _ => cases this
   | map es clock =>
    cases h2 : w'.heap[b]? with
    | none => rfl
    | some o' =>
     rw [h2] at this
     cases o' with
     | cells => cases this
     | _ => rfl
   | _ => dsimp only at this; rw [this]
 | map b =>
  have := h b hp
  show w'.heap[b]? = w.heap[b]?
  cases h1 : w.heap[b]? with
  | none => rw [h1] at this; exact this
  | some o =>
   rw [h1] at this
   cases o with
   | cells c t fr =>
    cases h2 : w'.heap[b]? with
    | none => rw [h2] at this; cases this
    | some o' =>
     rw [h2] at this
     cases o' with
     | cells c' t' fr' =>
      dsimp only at this
      obtain ⟨rfl, rfl, hs, hc⟩ := this
      have : c' = c := Array.ext_getElem? fun j => hc j (fun f => f)
      rw [this]
     | _ => cases this
   | map es clock =>
    cases h2 : w'.heap[b]? with
    | none => rw [h2] at this; cases this
    | some o' =>
     rw [h2] at this
     cases o' with
     | map es' clock' =>
      rcases this with f | ⟨rfl, rfl⟩
      ·exact f.elim
      ·rfl
     | _ => cases this
   | _ => exact this
theorem aFU {H : Type} {enc : TypeId × Value → H} {P : Program} {W W' : World} (hl : laidOutB P = true) (hm : mapsRowed P = true) (hz : ∀ t e, t < P.types.size → P.underlying t = some (.slice e) → 0 < P.cellsOf e) (hk : W.keptBut W' (fun _ => False)) :
  ∀ {ts : List TypeId} {vs : List Value} {ds : List (DataW H)} {ps : List MemPlace}, (∀ t ∈ ts, t < P.types.size) → DataW.TrodAll enc P W 0 (fun _ => true) true ts vs ds ps → DataW.TrodAll enc P W' 0 (fun b => decide (b < W.heap.size)) true ts vs ds ps
 | [], [], [], _, _, h => h
 | t :: _, _ :: _, _ :: _, ps, ht, h => by
  have hlt := h.lt
  obtain ⟨p, q, ⟨n, hn⟩, h2, e⟩ := h
  refine ⟨p, q, ⟨n, ?_⟩, aFU hl hm hz hk (fun t h => ht t (.tail _ h)) h2, e⟩
  have hp : ∀ x ∈ p, x.block < W.heap.size := fun x hx => hlt x (by rw [e]; exact List.mem_append_left _ hx)
  exact DataW.trod_stays (kids_rows hl hm) (fun a b => hz _ _ a b) (fun f => by cases f) (ht t (.head _)) hn (fun x hx => aIG hk (hp x hx)) (fun x hx => decide_eq_true (hp x hx))
 | [], _ :: _, _, _, _, h => h.elim
 | [], [], _ :: _, _, _, h => h.elim
 | _ :: _, [], _, _, _, h => h.elim
 | _ :: _, _ :: _, [], _, _, h => h.elim
end Go.SW
