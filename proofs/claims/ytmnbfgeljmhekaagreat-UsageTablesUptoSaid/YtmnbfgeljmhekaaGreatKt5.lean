/- Parts of the proof: lemmas, and the steps through the program. -/
import Derived.Test.YtmnbfgeljmhekaaGreatKt4
set_option linter.unusedVariables false
set_option linter.unusedSimpArgs false
set_option maxRecDepth 100000
namespace Go.Proofs.YtmnbfgeljmhekaaGreat
open Go.SX Go.SW Go.Dt
def cnt (k : Int) : Int := if k = 1 then 0 else if k = 4 then 2 else 1
def two (v : Int) : Prop := 0 ≤ v ∧ v ≤ 2
theorem of_p (k : Int) : nV k = some (cnt k) := by
 unfold nV cnt; split
 ·rfl
 ·split <;> rfl
theorem of_r (k : Int) : qI k = some (cnt k) := by
 unfold qI cnt; split
 ·rfl
 ·split <;> rfl
theorem iA (k : Int) : two (cnt k) := by unfold cnt two; repeat' split <;> omega
theorem yX {a b : Int} (ha : two a) (hb : two b) : oV a b = some (min (a + b) 2) := by unfold two at ha hb; rw [oV, aV (by omega), bsm]
theorem yI {a b : Int} (ha : two a) (hb : two b) : qN a b = some (min (a + b) 2) := by unfold two at ha hb; rw [qN, aV (by omega), bsm]
theorem lC {a b : Int} (ha : two a) (hb : two b) : two (min (a + b) 2) := by unfold two at *; omega
theorem zK {a : Int} (h : two a) : a = 0 ∨ a = 1 ∨ a = 2 := by unfold two at h; omega
theorem aB2 {a b : Int} (ha : two a) (hb : two b) : 0 ≤ a * b ∧ a * b ≤ 4 := by
 rcases zK ha with rfl | rfl | rfl <;> unfold two at hb <;> omega
theorem times_p {a b : Int} (ha : two a) (hb : two b) : wK a b = some (min (a * b) 2) := by have := aB2 ha hb; rw [wK, aV (by omega), bsm]
theorem times_r {a b : Int} (ha : two a) (hb : two b) : wE a b = some (min (a * b) 2) := by have := aB2 ha hb; rw [wE, aV (by omega), bsm]
theorem aEg {a b : Int} (ha : two a) (hb : two b) : two (min (a * b) 2) := by have := aB2 ha hb; unfold two; omega
structure okU1 (d : ScopeDef) (x : UsageDef) : Prop where
 chans : x.Chans.length = d.Chans.length
 rules : x.Rules.length = d.Rules.length
 args : x.Args.length = d.Chans.length
 many : ∀ c ch a, idx d.Chans c = some ch → idx x.Args c = some a → (a.length : Int) = ch.Many
def dA (p : ScopeProg) (t : List UsageDef) : Prop := t.length = p.Defs.length ∧ ∀ i d x, idx p.Defs i = some d → idx t i = some x → okU1 d x
theorem qB {p : ScopeProg} {t : List UsageDef} (h : dA p t) {i : Int} {d : ScopeDef} (hd : idx p.Defs i = some d) : ∃ x, idx t i = some x ∧ okU1 d x := by
 have := fJ hd
 obtain ⟨x, hx⟩ := dH (xs := t) this.1 (by rw [h.1]; exact this.2)
 exact ⟨x, hx, h.2 i d x hd hx⟩
theorem tab_arg {p : ScopeProg} {t : List UsageDef} (h : dA p t) {i c : Int} {d : ScopeDef} {ch : ScopeChan} (hd : idx p.Defs i = some d) (hc : idx d.Chans c = some ch) : ∃ x a, idx t i = some x ∧ idx x.Args c = some a ∧ (a.length : Int) = ch.Many := by
 obtain ⟨x, hx, k⟩ := qB h hd
 have := fJ hc
 obtain ⟨a, ha⟩ := dH (xs := x.Args) this.1 (by rw [k.args]; exact this.2)
 exact ⟨x, a, hx, ha, k.many c ch a hc ha⟩
theorem tab_rule {p : ScopeProg} {t : List UsageDef} (h : dA p t) {i : Int} {d : ScopeDef} (hd : idx p.Defs i = some d) : ∃ x, idx t i = some x ∧ x.Rules.length = d.Rules.length := by
 obtain ⟨x, hx, k⟩ := qB h hd
 exact ⟨x, hx, k.rules⟩
def iE (p : ScopeProg) (e : E) : Prop := ∀ i c, idx e i = some (some c) → ∃ d y, idx p.Defs c.1 = some d ∧ idx d.Chans c.2 = some y
def argW (ar : Option (List Int)) (w i : Int) : Int := match ar with | none => 2 | some a => min (w + cnt ((idx a i).getD 0)) 2
def iK (ar : Option (List Int)) (v : Int) : List ScopeExp → Int → Int → Int
 | [], _, w => w
 | e :: l, i, w => iK ar v l (i + 1) (if e.Op ≠ 2 then w else if e.N ≠ v then w else argW ar w i)
def chOf (p : ScopeProg) (c : Int × Int) : Option ScopeChan := (idx p.Defs c.1).bind fun d => idx d.Chans c.2
def lF (tab : List UsageDef) (c : Int × Int) : List Int := ((idx tab c.1).bind fun x => idx x.Args c.2).getD []
def rY (p : ScopeProg) (tab : List UsageDef) (x : ScopeNode) (e : E) (v : Int) : Int :=
 match idx e x.N with
 | some (some c) => if (chOf p c).elim 0 (·.Many) = (x.Args.length : Int) then iK (some (lF tab c)) v x.Args 0 (if x.N = v then 1 else 0) else 0
 | _ => iK none v x.Args 0 (if x.N = v then 1 else 0)
def iH (x : ScopeNode) (i : Int) : Int := (idx x.Kids i).getD 0
def pN (ru : List Int) (sv : ScopeRule → Int) : List ScopeRule → Int → Int → Int
 | [], _, w => w
 | r :: l, i, w => pN ru sv l (i + 1) (min (w + min (cnt ((idx ru i).getD 0) * sv r) 2) 2)
def iL (tab : List UsageDef) (x : ScopeNode) (d : ScopeDef) (e : E) (sv : Int × E → Int) : Int :=
 pN ((idx tab x.N).elim [] (·.Rules)) (fun r => sv (r.Node, ruE e x.N d r)) d.Rules 0 (d.Spots.foldl (fun w y => min (w + sv (y.Node, inE e x.N d)) 2) (sv (iH x 0, inE e x.N d)))
def lA (p : ScopeProg) (tab : List UsageDef) (sv : Int × E → Int) (x : ScopeNode) (e : E) (v : Int) : Int :=
 if x.Op = 2 then rY p tab x e v
 else if x.Op = 3 then min (sv (iH x 0, e) + sv (iH x 1, e)) 2
 else if x.Op = 5 then max (sv (iH x 0, e)) (sv (iH x 1, e))
 else if x.Op = 6 ∨ x.Op = 8 then sv (iH x 0, e)
 else if x.Op = 4 then match idx p.Defs x.N with | some d => iL tab x d e sv | none => 0
 else 0
def fY (p : ScopeProg) (tab : List UsageDef) (v : Int) : Nat → Int × E → Int
 | 0, _ => 0
 | h + 1, q => match idx p.Nodes q.1 with | some x => lA p tab (fY p tab v h) x q.2 v | none => 0
def begM (x : ScopeNode) (d : ScopeDef) (e : E) (sv : Int × E → Int) : Int := d.Spots.foldl (fun w y => w + sv (y.Node, inE e x.N d)) (sv (iH x 0, inE e x.N d))
def surW (p : ScopeProg) (x : ScopeNode) (v : Int) (o : Option (Int × Int)) : Int := match o with | some c => if x.N = v ∧ (chOf p c).elim 0 (·.Many) = (x.Args.length : Int) then 1 else 0 | none => 0
def lT (p : ScopeProg) (sv : Int × E → Int) (x : ScopeNode) (e : E) (v : Int) : Int :=
 if x.Op = 2 then surW p x v ((idx e v).getD none)
 else if x.Op = 3 then sv (iH x 0, e) + sv (iH x 1, e)
 else if x.Op = 5 then min (sv (iH x 0, e)) (sv (iH x 1, e))
 else if x.Op = 4 then match idx p.Defs x.N with | some d => begM x d e sv | none => 0
 else 0
def lN (p : ScopeProg) (v : Int) : Nat → Int × E → Int
 | 0, _ => 0
 | h + 1, q => match idx p.Nodes q.1 with | some x => lT p (lN p v h) x q.2 v | none => 0
theorem iZ {x : ScopeNode} {i k : Int} (h : idx x.Kids i = some k) : iH x i = k := by unfold iH; rw [h]; rfl
theorem aGb {t : List UsageDef} {v : Int} {x : ScopeNode} {g : aU Int Usage_channel} {y3 : Ref05_Chan}
  {ar : Option (List Int)} (H : (g.get x.N = none ∧ y3.Def < 0 ∧ ar = none) ∨ (g.get x.N = some ⟨y3.Def, y3.Index⟩ ∧ 0 ≤ y3.Def ∧ ∃ tx, idx t y3.Def = some tx ∧ ∃ a, ar = some a ∧ idx tx.Args y3.Index = some a ∧ a.length = x.Args.length)) (suf : List ScopeExp) :
  ∀ (pre : List ScopeExp) (k k' : Nat) (w : Int), x.Args = pre ++ suf → suf.length < k → suf.length < k' → pre.length + suf.length ≤ 1000 → two w → ∃ r, (two r ∧ r = iK ar v suf pre.length w) ∧ kV t v x g k w pre.length = some r ∧ lJ t v x y3 k' w pre.length = some r := by
 induction suf with
 | nil =>
  intro pre k k' w hx hk hk' hB hw
  obtain _ | k := k
  ·omega
  obtain _ | k' := k'
  ·omega
  have : ¬ (pre.length : Int) < (x.Args.length : Int) := by rw [hx]; simp
  exact ⟨w, ⟨hw, rfl⟩, by rw [kV, if_neg this], by rw [lJ, if_neg this]⟩
 | cons e suf ih =>
  intro pre k k' w hx hk hk' hB hw
  obtain _ | k := k
  ·omega
  obtain _ | k' := k'
  ·omega
  simp only [List.length_cons] at hk hk' hB
  have hlt : (pre.length : Int) < (x.Args.length : Int) := by rw [hx]; exact cJ pre suf e
  have hi : idx x.Args (pre.length : Int) = some e := by rw [hx]; exact cL pre suf e
  have next : ∀ w', two w' → ∃ r, (two r ∧ r = iK ar v suf ((pre.length : Int) + 1) w') ∧ kV t v x g k w' ((pre.length : Int) + 1) = some r ∧ lJ t v x y3 k' w' ((pre.length : Int) + 1) = some r := fun w' hw' => by
   rw [bZ pre e]
   exact ih (pre ++ [e]) k k' w' (by rw [hx]; exact cN pre suf e) (by omega) (by omega) (by simp; omega) hw'
  have ha : iK ar v (e :: suf) pre.length w = iK ar v suf ((pre.length : Int) + 1) (if e.Op ≠ 2 then w else if e.N ≠ v then w else argW ar w pre.length) := rfl
  rw [ha, kV, lJ, if_pos hlt, if_pos hlt, hi, bsm, bsm]
  by_cases h1 : e.Op ≠ 2
  ·rw [if_pos h1, if_pos h1, if_pos h1, bsm, bsm, aV (by omega), bsm, bsm]; exact next w hw
  ·rw [if_neg h1, if_neg h1, if_neg h1, bsm]
   by_cases h2 : e.N ≠ v
   ·rw [if_pos h2, if_pos h2, if_pos h2, bsm, bsm, aV (by omega), bsm, bsm]; exact next w hw
   ·rw [if_neg h2, if_neg h2, if_neg h2]
    rcases H with ⟨a, b, rfl⟩ | ⟨a, b, tx, c1, ar, rfl, c2, c3⟩
    ·rw [a, if_pos b]
     show ∃ r, _ ∧ ((some (2 : Int)).bind _) = some r ∧ _
     rw [bsm, bsm, aV (by omega), bsm, bsm]; exact next 2 ⟨by omega, by omega⟩
    ·obtain ⟨z, hz⟩ := dH (xs := ar) (i := (pre.length : Int)) (by omega) (by omega)
     rw [a, if_neg (by omega), c1, bsm, c2, bsm, hz, bsm, of_r, bsm, yI hw (iA z), bsm, bsm]
     show ∃ r, _ ∧ (((idx t y3.Def).bind _).bind _) = some r ∧ _
     rw [c1, bsm]
     show ∃ r, (_ ∧ r = iK _ v suf _ (argW (some ar) w pre.length)) ∧ (((idx tx.Args y3.Index).bind _).bind _) = some r ∧ _
     rw [show argW (some ar) w pre.length = min (w + cnt z) 2 from by unfold argW; dsimp only; rw [hz]; rfl]
     rw [c2, bsm, hz, bsm, of_p, bsm, yX hw (iA z), bsm, bsm, aV (by omega), bsm, bsm]
     exact next _ (lC hw (iA z))
structure At (t : Usage_text) (L : Ref05_Look) (q : Int × E) : Prop where
 p : ∃ g, idx t.denotes q.1 = some g ∧ RP q.2 g
 r : ∃ g, idx L.Envs q.1 = some g ∧ RR q.2 g
theorem xG {α β : Type} {f : α → β} {l : List α} {i : Int} {y : α} (h : idx l i = some y) : idx (l.map f) i = some (f y) := by
 have := fJ h
 unfold idx at h ⊢
 rw [if_pos this.1] at h ⊢
 rw [List.getElem?_map, h]; rfl
theorem send_eq {p : ScopeProg} {t : Usage_text} {L : Ref05_Look} (ht : t.ScopeProg = p) (hL : L.p = p) {tab : List UsageDef} (hk : dA p tab) {n : Int} {e : E} {x : ScopeNode} (hx : idx p.Nodes n = some x) (hN : 0 ≤ x.N ∧ x.N < e.length) (hA : x.Args.length ≤ 3) (hat : At t L (n, e)) (he : iE p e) {v : Int} {f f' : Nat} (hf : 10 ≤ f) (hf' : 10 ≤ f') :
  ∃ r, (two r ∧ r = rY p tab x e v) ∧ vW f t tab n v = some r ∧ wI f' L tab n v = some r := by
 subst ht
 obtain ⟨⟨g, g1, g2⟩, ⟨l, l1, l2⟩⟩ := hat
 obtain ⟨o, ho⟩ := dH hN.1 hN.2
 dsimp only at g1 g2 l1 l2
 have gg := g2 x.N
 rw [ho, bsm] at gg
 have ll : idx l x.N = some (rc o) := by rw [l2]; exact xG ho
 have hw : two (if x.N = v then 1 else 0) := by unfold two; split <;> omega
 have fin : ∀ (y3 : Ref05_Chan) (ar : Option (List Int)) (_ : (g.get x.N = none ∧ y3.Def < 0 ∧ ar = none) ∨ (g.get x.N = some ⟨y3.Def, y3.Index⟩ ∧ 0 ≤ y3.Def ∧ ∃ tx, idx tab y3.Def = some tx ∧ ∃ a, ar = some a ∧ idx tx.Args y3.Index = some a ∧ a.length = x.Args.length)),
   ∃ r, (two r ∧ r = iK ar v x.Args 0 (if x.N = v then 1 else 0)) ∧ ((if x.N = v then some 1 else some 0).bind fun x1 => (kV tab v x g f x1 0).bind fun x2 => some x2) = some r ∧ ((if x.N = v then some 1 else some 0).bind fun x1 => (lJ tab v x y3 f' x1 0).bind fun x2 => some x2) = some r := fun y3 ar H => by
  obtain ⟨r, r1, r2, r3⟩ := aGb (v := v) H x.Args [] f f' _ rfl (by omega) (by omega) (by simp; omega) hw
  have e0 : (if x.N = v then some (1 : Int) else some 0) = some (if x.N = v then 1 else 0) := by split <;> rfl
  rw [e0, bsm, bsm]
  exact ⟨r, r1, by rw [hO]; exact r2, by rw [hO]; exact r3⟩
 rw [vW, wI, hx, bsm, g1, bsm, hL, hx, bsm, l1, bsm, bsm, ll, bsm]
 unfold rY
 rw [ho]
 cases o with
 | none =>
  rw [gg, if_neg (show ¬ 0 ≤ (rc none).Def from by simp [rc])]
  exact fin unk none (.inl ⟨gg, by decide, rfl⟩)
 | some c =>
  obtain ⟨d, y, hd, hy⟩ := he _ _ ho
  have h0 := (fJ hd).1
  rw [gg, if_pos (show 0 ≤ (rc (some c)).Def from h0)]
  have hM : (chOf t.ScopeProg c).elim 0 (·.Many) = y.Many := by unfold chOf; rw [hd, bsm, hy]; rfl
  show ∃ r, (_ ∧ r = (if (chOf t.ScopeProg c).elim 0 (·.Many) = (x.Args.length : Int) then _ else 0)) ∧ (((qM t ⟨c.1, c.2⟩ n).bind _).bind _) = some r ∧ (((idx t.ScopeProg.Defs c.1).bind fun y4 => (idx y4.Chans c.2).bind _).bind _) = some r
  rw [hM, qM, hd, bsm, bsm, hy, bsm, bsm, hx, bsm, bsm]
  by_cases hm : y.Many = (x.Args.length : Int)
  ·rw [if_pos hm, decide_eq_true hm, if_neg (show ¬ (y.Many ≠ (x.Args.length : Int)) from fun q => q hm)]
   obtain ⟨tx, ar, a1, a2, a3⟩ := tab_arg hk hd hy
   exact fin ⟨c.1, c.2⟩ (some (lF tab c)) (.inr ⟨gg, h0, tx, a1, ar, by unfold lF; rw [a1, bsm, a2]; rfl, a2, by omega⟩)
  ·rw [if_neg hm, decide_eq_false hm, if_pos (show y.Many ≠ (x.Args.length : Int) from hm)]
   exact ⟨0, ⟨⟨by omega, by omega⟩, rfl⟩, rfl, rfl⟩
end Go.Proofs.YtmnbfgeljmhekaaGreat
set_option maxRecDepth 100000
namespace Go.Proofs.YtmnbfgeljmhekaaGreat
open Go.SX Go.SW Go.Dt
theorem aC2 {p : ScopeProg} {e : E} (h : iE p e) (k : Nat) : iE p (e ++ List.replicate k none) := fun i c hi => by
 rw [aAn] at hi
 split at hi
 ·exact h i c hi
 ·cases List.eq_of_mem_replicate (eD hi)
theorem aB5 {p : ScopeProg} {e : E} {m : Int} {d : ScopeDef} (hd : idx p.Defs m = some d) (h : iE p e) : iE p (inE e m d) := by
 refine aC2 (fun i c hi => ?_) _
 rw [aAn] at hi
 split at hi
 ·exact h i c hi
 ·have hm := eD hi
  unfold chs at hm
  obtain ⟨j, hj, e1⟩ := List.mem_map.1 hm
  cases e1
  obtain ⟨y, hy⟩ := dH (xs := d.Chans) (i := (j : Int)) (by omega) (by have := List.mem_range.1 hj; omega)
  exact ⟨d, y, hd, hy⟩
theorem env_ru {p : ScopeProg} {e : E} {m : Int} {d : ScopeDef} {r : ScopeRule} (hd : idx p.Defs m = some d) (h : iE p e) : iE p (ruE e m d r) := aC2 (aB5 hd h) _
theorem aCv {p : ScopeProg} {x : ScopeNode} {e : E} {z : Int} (hT : okT p x z) (he : iE p e) : ∀ q ∈ subs p x e, iE p q.2 := xS (fun m d h1 _ => aB5 h1 he) (fun m d r h1 _ _ => env_ru h1 he) hT he
variable {p : ScopeProg} {t : Usage_text} {L : Ref05_Look} {tab : List UsageDef}
abbrev rX (t : Usage_text) (L : Ref05_Look) (tab : List UsageDef) (v : Int) (f f' : Nat) (n : Int) (m : Int) : Prop := ∃ r, (two r ∧ r = m) ∧ fG f t tab n v = some r ∧ fA f' L tab n v = some r
theorem spots_j {v : Int} {f f' : Nat} {d : ScopeDef} {sv : ScopeSpot → Int} (suf : List ScopeSpot) : ∀ (pre : List ScopeSpot) (k : Nat) (w : Int), d.Spots = pre ++ suf → suf.length < k → pre.length + suf.length ≤ 3000000 → (∀ y ∈ suf, rX t L tab v f f' y.Node (sv y)) → two w →
  ∃ r, (two r ∧ r = suf.foldl (fun w y => min (w + sv y) 2) w) ∧ eM (fun s b => sD (fG f) t tab v b s) w (suf.map (·.Node)) = some r ∧ nA (fA f') L tab v d k w pre.length = some r := by
 induction suf with
 | nil =>
  intro pre k w hx hk hB _ hw
  obtain _ | k := k
  ·omega
  exact ⟨w, ⟨hw, rfl⟩, rfl, by rw [nA, if_neg (show ¬ (pre.length : Int) < (d.Spots.length : Int) from by rw [hx]; simp)]⟩
 | cons y suf ih =>
  intro pre k w hx hk hB hj hw
  obtain _ | k := k
  ·omega
  simp only [List.length_cons] at hk hB
  obtain ⟨a, ⟨a1, rfl⟩, a2, a3⟩ := hj y (List.mem_cons_self ..)
  obtain ⟨r, r1, r2, r3⟩ := ih (pre ++ [y]) k (min (w + sv y) 2) (by rw [hx]; exact cN pre suf y) (by omega) (by simp; omega) (fun z hz => hj z (List.mem_cons_of_mem _ hz)) (lC hw a1)
  refine ⟨r, r1, ?_, ?_⟩
  ·rw [List.map_cons, eM, sD, a2, bsm, yX hw a1, bsm, bsm]; exact r2
  ·rw [nA, if_pos (show (pre.length : Int) < (d.Spots.length : Int) from by rw [hx]; exact cJ pre suf y), show idx d.Spots (pre.length : Int) = some y from by rw [hx]; exact cL pre suf y, bsm, a3, bsm, yI hw a1, bsm, aV (by omega), bsm, bZ pre y]
   exact r3
theorem rules_j {v : Int} {f f' : Nat} {sv : ScopeRule → Int} {x : ScopeNode} {d : ScopeDef} {tx : UsageDef} (htx : idx tab x.N = some tx) (hl : tx.Rules.length = d.Rules.length) (suf : List ScopeRule) : ∀ (pre : List ScopeRule) (k k' : Nat) (w : Int), d.Rules = pre ++ suf → suf.length < k → suf.length < k' → pre.length + suf.length ≤ 3000000 → (∀ y ∈ suf, rX t L tab v f f' y.Node (sv y)) → two w →
  ∃ r, (two r ∧ r = pN tx.Rules sv suf pre.length w) ∧ oN (fG f) t tab v x d k pre.length w = some r ∧ pA (fA f') L tab v x d k' w pre.length = some r := by
 induction suf with
 | nil =>
  intro pre k k' w hx hk hk' hB _ hw
  obtain _ | k := k
  ·omega
  obtain _ | k' := k'
  ·omega
  have : ¬ (pre.length : Int) < (d.Rules.length : Int) := by rw [hx]; simp
  exact ⟨w, ⟨hw, rfl⟩, by rw [oN, if_neg this], by rw [pA, if_neg this]⟩
 | cons y suf ih =>
  intro pre k k' w hx hk hk' hB hj hw
  obtain _ | k := k
  ·omega
  obtain _ | k' := k'
  ·omega
  simp only [List.length_cons] at hk hk' hB
  obtain ⟨a, ⟨a1, rfl⟩, a2, a3⟩ := hj y (List.mem_cons_self ..)
  have hlt : (pre.length : Int) < (d.Rules.length : Int) := by rw [hx]; exact cJ pre suf y
  have hi : idx d.Rules (pre.length : Int) = some y := by rw [hx]; exact cL pre suf y
  obtain ⟨c, hc⟩ := dH (xs := tx.Rules) (i := (pre.length : Int)) (by omega) (by omega)
  have hm := aEg (iA c) a1
  obtain ⟨r, r1, r2, r3⟩ := ih (pre ++ [y]) k k' (min (w + min (cnt c * sv y) 2) 2) (by rw [hx]; exact cN pre suf y) (by omega) (by omega) (by simp; omega) (fun z hz => hj z (List.mem_cons_of_mem _ hz)) (lC hw hm)
  refine ⟨r, ⟨r1.1, by rw [r1.2, pN, hc, ← bZ pre y]; rfl⟩, ?_, ?_⟩
  ·rw [oN, if_pos hlt, hi, bsm, htx, bsm, hc, bsm, of_p, bsm, a2, bsm, times_p (iA c) a1, bsm, yX hw hm, bsm, aV (by omega), bsm, bZ pre y]; exact r2
  ·rw [pA, if_pos hlt, htx, bsm, hc, bsm, of_r, bsm, hi, bsm, a3, bsm, times_r (iA c) a1, bsm, yI hw hm, bsm, aV (by omega), bsm, bZ pre y]; exact r3
theorem aFp (ht : t.ScopeProg = p) (hL : L.p = p) (hk : dA p tab) {v : Int} {f f' : Nat} (hf : 100 ≤ f) (hf' : 100 ≤ f') {n : Int} {e : E} {x : ScopeNode} {z : Int} (hx : idx p.Nodes n = some x) (hT : okT p x z) (h4 : x.Op = 4) {sv : Int × E → Int} (hj : ∀ q ∈ subs p x e, rX t L tab v f f' q.1 (sv q)) {d : ScopeDef} (hd : idx p.Defs x.N = some d) :
  ∃ r, (two r ∧ r = iL tab x d e sv) ∧ pO (f + 1) t tab n v = some r ∧ pZ (f' + 1) L tab n v = some r := by
 subst ht
 obtain ⟨h0, h1, d', hd', ho⟩ := qS hT h4
 obtain rfl : d' = d := by rw [hd] at hd'; exact (Option.some.inj hd').symm
 obtain ⟨k, hkk⟩ := List.length_eq_one_iff.1 h1
 have bd := dV ho
 rw [subs, if_pos h4, hd] at hj
 dsimp only at hj
 obtain ⟨a, ⟨a1, ae⟩, a2, a3⟩ := hj (k, inE e x.N d') (List.mem_append_right _ (List.mem_append_right _ (by rw [hkk]; exact List.mem_singleton.2 rfl)))
 obtain ⟨b, ⟨b1, be⟩, b2, b3⟩ := spots_j (t := t) (L := L) (tab := tab) (v := v) (f := f) (f' := f') (sv := fun y => sv (y.Node, inE e x.N d')) d'.Spots [] f' a rfl (by omega) (by simp; omega) (fun y hy => hj (y.Node, inE e x.N d') (List.mem_append_right _ (List.mem_append_left _ (List.mem_map.2 ⟨y, hy, rfl⟩)))) a1
 obtain ⟨tx, htx, hl⟩ := tab_rule hk hd
 obtain ⟨c, ⟨c1, ce⟩, c2, c3⟩ := rules_j (t := t) (L := L) (v := v) (f := f) (f' := f') (sv := fun y => sv (y.Node, ruE e x.N d' y)) htx hl d'.Rules [] f f' b rfl (by omega) (by omega) (by simp; omega) (fun y hy => hj (y.Node, ruE e x.N d' y) (List.mem_append_left _ (List.mem_map.2 ⟨y, hy, rfl⟩))) b1
 have hk0 : idx x.Kids 0 = some k := by rw [hkk]; rfl
 refine ⟨c, ⟨c1, by rw [iL, htx, iZ hk0, ← ae, ← be]; exact ce⟩, ?_, ?_⟩
 ·rw [pO, hx, bsm, hk0, bsm, a2, bsm, qX, bsm]
  dsimp only
  rw [aBc hd hf ho, b2, bsm, hd, bsm, hO]
  exact c2
 ·rw [pZ, hL, hx, bsm, hd, bsm, hk0, bsm, a3, bsm, show nA (fA f') L tab v d' f' a 0 = some b from b3, bsm, hO]
  exact c3
theorem aC4 (ht : t.ScopeProg = p) (hL : L.p = p) (hk : dA p tab) {v : Int} : ∀ (h f f' : Nat) (q : Int × E), 2 * h + 200 ≤ f → 2 * h + 200 ≤ f' → Tr p h q → iE p q.2 → (∀ b ∈ LN p h q, At t L b) → rX t L tab v f f' q.1 (fY p tab v h q)
 | 0, f, f', q, _, _, hT, _, _ => hT.elim
 | h + 1, f, f', (n, e), hf, hf', ⟨x, hx, h0, hT, hK⟩, he, hat => by
  dsimp only at hx h0 hT hK he
  obtain _ | f := f
  ·omega
  obtain _ | f := f
  ·omega
  obtain _ | f' := f'
  ·omega
  obtain _ | f' := f'
  ·omega
  simp only [LN, hx] at hat
  have own := hat (n, e) (List.mem_cons_self ..)
  have kid : ∀ (g g' : Nat), 2 * h + 200 ≤ g → 2 * h + 200 ≤ g' → ∀ q ∈ subs p x e, rX t L tab v g g' q.1 (fY p tab v h q) := fun g g' hg hg' q hq =>
   aC4 ht hL hk h g g' q hg hg' (hK q hq) (aCv hT he q hq) (fun b hb => hat b (List.mem_cons_of_mem _ (List.mem_flatMap.2 ⟨q, hq, hb⟩)))
  unfold rX
  dsimp only
  rw [fY]
  dsimp only
  rw [hx]
  dsimp only
  rw [fG, fA, ht, hL, hx, bsm, bsm, bsm]
  rcases hT with ⟨h1, _⟩ | ⟨h1, h2⟩ | ⟨h1, h2, _, h3⟩ | ⟨h1, h2⟩ | ⟨h1, h2⟩
  ·have e2 : ¬ x.Op = 2 := by omega
   have e3 : ¬ x.Op = 3 := by omega
   have e5 : ¬ x.Op = 5 := by omega
   have e6 : ¬ x.Op = 6 := by omega
   have e8 : ¬ x.Op = 8 := by omega
   have e4 : ¬ x.Op = 4 := by omega
   refine ⟨0, ⟨⟨by omega, by omega⟩, by unfold lA; rw [if_neg e2, if_neg e3, if_neg e5, if_neg (by omega), if_neg e4]⟩, ?_, ?_⟩
   ·rw [if_neg e2, if_neg e3, if_neg e5, if_neg e6, bsm, decide_eq_false e8, cond_false, if_neg e4]
   ·rw [if_neg e2, if_neg e3, if_neg e5, if_neg e6, bsm, decide_eq_false e8, cond_false, if_neg e4]
  ·have e2 : ¬ x.Op = 2 := by omega
   have e4 : ¬ x.Op = 4 := by omega
   obtain ⟨a, b, hab⟩ : ∃ a b, x.Kids = [a, b] := by
    match hq : x.Kids, h2 with
    | [a, b], _ => exact ⟨a, b, rfl⟩
   have i0 : idx x.Kids 0 = some a := by rw [hab]; rfl
   have i1 : idx x.Kids 1 = some b := by rw [hab]; rfl
   have ma : (a, e) ∈ subs p x e := by rw [subs, if_neg e4, hab]; exact List.mem_cons_self ..
   have mb : (b, e) ∈ subs p x e := by rw [subs, if_neg e4, hab]; exact List.mem_cons_of_mem _ (List.mem_cons_self ..)
   obtain ⟨ra, ⟨a1, ae⟩, a2, a3⟩ := kid f (f' + 1) (by omega) (by omega) _ ma
   obtain ⟨rb, ⟨b1, be⟩, b2, b3⟩ := kid f (f' + 1) (by omega) (by omega) _ mb
   dsimp only at a2 a3 b2 b3
   rw [if_neg e2, if_neg e2]
   by_cases e3 : x.Op = 3
   ·refine ⟨min (ra + rb) 2, ⟨lC a1 b1, by unfold lA; rw [if_neg e2, if_pos e3, iZ i0, iZ i1, ae, be]⟩, ?_, ?_⟩
    ·rw [if_pos e3, sU, ht, hx, bsm, i0, bsm, a2, bsm, i1, bsm, b2, bsm, hO, hO]; exact yX a1 b1
    ·rw [if_pos e3, i0, bsm, a3, bsm, i1, bsm, b3, bsm, hO]; exact yI a1 b1
   ·have e5 : x.Op = 5 := by omega
    refine ⟨max ra rb, ⟨by unfold two at *; omega, by unfold lA; rw [if_neg e2, if_neg e3, if_pos e5, iZ i0, iZ i1, ae, be]⟩, ?_, ?_⟩
    ·rw [if_neg e3, if_pos e5, sU, ht, hx, bsm, i0, bsm, a2, bsm, i1, bsm, b2, bsm, hO, hO]
     show oU ra rb = _
     unfold oU
     split
     ·congr 1; omega
     ·congr 1; omega
    ·rw [if_neg e3, if_pos e5, i0, bsm, a3, bsm, i1, bsm, b3, bsm]
  ·obtain ⟨r, r1, r2, r3⟩ := send_eq (t := t) (L := L) ht hL hk hx h3 h2 own he (v := v) (f := f + 1) (f' := f' + 1) (by omega) (by omega)
   exact ⟨r, ⟨r1.1, by unfold lA; rw [if_pos h1]; exact r1.2⟩, by rw [if_pos h1, hO]; exact r2, by rw [if_pos h1, hO]; exact r3⟩
  ·have e2 : ¬ x.Op = 2 := by omega
   have e3 : ¬ x.Op = 3 := by omega
   have e5 : ¬ x.Op = 5 := by omega
   have e4 : ¬ x.Op = 4 := by omega
   obtain ⟨a, hab⟩ := List.length_eq_one_iff.1 h2
   have i0 : idx x.Kids 0 = some a := by rw [hab]; rfl
   have ma : (a, e) ∈ subs p x e := by rw [subs, if_neg e4, hab]; exact List.mem_cons_self ..
   obtain ⟨ra, ⟨a1, ae⟩, a2, a3⟩ := kid (f + 1) (f' + 1) (by omega) (by omega) _ ma
   dsimp only at a2 a3
   have e68 : (if x.Op = 6 then some (decide (x.Op = 6)) else some (decide (x.Op = 8))) = some true := by
    split
    ·rename_i h6; rw [decide_eq_true h6]
    ·rw [decide_eq_true (by omega)]
   refine ⟨ra, ⟨a1, by unfold lA; rw [if_neg e2, if_neg e3, if_neg e5, if_pos (by omega), iZ i0]; exact ae⟩, ?_, ?_⟩
   ·rw [if_neg e2, if_neg e3, if_neg e5, e68, bsm, cond_true, i0, bsm, hO]; exact a2
   ·rw [if_neg e2, if_neg e3, if_neg e5, e68, bsm, cond_true, i0, bsm, hO]; exact a3
  ·have e2 : ¬ x.Op = 2 := by omega
   have e3 : ¬ x.Op = 3 := by omega
   have e5 : ¬ x.Op = 5 := by omega
   have e6 : ¬ x.Op = 6 := by omega
   have e8 : ¬ x.Op = 8 := by omega
   have hT' : okT p x 0 := .inr (.inr (.inr (.inr ⟨h1, h2⟩)))
   obtain ⟨_, _, d, hd, _⟩ := qS hT' h1
   obtain ⟨r, r1, r2, r3⟩ := aFp (t := t) (L := L) (p := p) ht hL hk (v := v) (f := f) (f' := f') (n := n) (e := e) (x := x) (z := 0) (by omega) (by omega) hx hT' h1 (kid f f' (by omega) (by omega)) hd
   refine ⟨r, ⟨r1.1, by unfold lA; rw [if_neg e2, if_neg e3, if_neg e5, if_neg (by omega), if_pos h1, hd]; exact r1.2⟩, ?_, ?_⟩
   ·rw [if_neg e2, if_neg e3, if_neg e5, if_neg e6, bsm, decide_eq_false e8, cond_false, if_pos h1, hO]; exact r2
   ·rw [if_neg e2, if_neg e3, if_neg e5, if_neg e6, bsm, decide_eq_false e8, cond_false, if_pos h1, hO]; exact r3
end Go.Proofs.YtmnbfgeljmhekaaGreat
set_option maxRecDepth 100000
namespace Go.Proofs.YtmnbfgeljmhekaaGreat
open Go.SX Go.SW Go.Dt
variable {p : ScopeProg} {t : Usage_text} {L : Ref05_Look}
abbrev tS (p : ScopeProg) (h : Nat) (t : Usage_text) (L : Ref05_Look) (v : Int) (f f' : Nat) (q : Int × E) : Prop := ∃ r, ((0 ≤ r ∧ r ≤ ((LN p h q).length : Int)) ∧ r = lN p v h q) ∧ gS f t q.1 v = some r ∧ iB f' L q.1 v = some r
theorem zP {α β : Type} {f : α → List β} : ∀ {l : List α} {a : α}, a ∈ l → (f a).length ≤ (l.flatMap f).length
 | b :: l, a, h => by
  rw [List.flatMap_cons, List.length_append]
  cases h with
  | head => omega
  | tail _ h => have := zP (f := f) h; omega
theorem spots_s {h : Nat} {v : Int} {f f' : Nat} {d : ScopeDef} {e' : E} (suf : List ScopeSpot) : ∀ (pre : List ScopeSpot) (k : Nat) (w : Int), d.Spots = pre ++ suf → suf.length < k → pre.length + suf.length ≤ 3000000 → (∀ y ∈ suf, tS p h t L v f f' (y.Node, e')) → 0 ≤ w → w + ((suf.map fun y => (y.Node, e')).flatMap (LN p h)).length ≤ 1000000 →
  ∃ r, ((0 ≤ r ∧ r ≤ w + ((suf.map fun y => (y.Node, e')).flatMap (LN p h)).length) ∧ r = suf.foldl (fun w y => w + lN p v h (y.Node, e')) w) ∧ eM (fun s b => rP (gS f) t v b s) w (suf.map (·.Node)) = some r ∧ oF (iB f') L v d k w pre.length = some r := by
 induction suf with
 | nil =>
  intro pre k w hx hk hB _ hw _
  obtain _ | k := k
  ·omega
  exact ⟨w, ⟨⟨hw, by simp⟩, rfl⟩, rfl, by rw [oF, if_neg (show ¬ (pre.length : Int) < (d.Spots.length : Int) from by rw [hx]; simp)]⟩
 | cons y suf ih =>
  intro pre k w hx hk hB hj hw hW
  obtain _ | k := k
  ·omega
  simp only [List.length_cons] at hk hB
  obtain ⟨a, ⟨a1, ae⟩, a2, a3⟩ := hj y (List.mem_cons_self ..)
  rw [List.map_cons, List.flatMap_cons, List.length_append] at hW
  obtain ⟨r, r1, r2, r3⟩ := ih (pre ++ [y]) k (w + a) (by rw [hx]; exact cN pre suf y) (by omega) (by simp; omega) (fun z hz => hj z (List.mem_cons_of_mem _ hz)) (by omega) (by omega)
  refine ⟨r, ⟨⟨r1.1.1, by have := r1.1.2; rw [List.map_cons, List.flatMap_cons, List.length_append]; omega⟩, by rw [r1.2, ae]; rfl⟩, ?_, ?_⟩
  ·rw [List.map_cons, eM, rP, a2, bsm, aV (by omega), bsm, bsm]; exact r2
  ·rw [oF, if_pos (show (pre.length : Int) < (d.Spots.length : Int) from by rw [hx]; exact cJ pre suf y), show idx d.Spots (pre.length : Int) = some y from by rw [hx]; exact cL pre suf y, bsm, a3, bsm, aV (by omega), bsm, aV (by omega), bsm, bZ pre y]
   exact r3
theorem aCn (ht : t.ScopeProg = p) (hL : L.p = p) {h : Nat} {v : Int} {f f' : Nat} (hf : 100 ≤ f) (hf' : 100 ≤ f') {n : Int} {e : E} {x : ScopeNode} {z : Int} (hx : idx p.Nodes n = some x) (hT : okT p x z) (h4 : x.Op = 4) (hB : (LN p (h + 1) (n, e)).length ≤ 1000000) (hj : ∀ q ∈ subs p x e, tS p h t L v f f' q) {d : ScopeDef} (hd : idx p.Defs x.N = some d) :
  ∃ r, ((0 ≤ r ∧ r ≤ ((LN p (h + 1) (n, e)).length : Int)) ∧ r = begM x d e (lN p v h)) ∧ lR (f + 1) t n v = some r ∧ nK (f' + 1) L n v = some r := by
 subst ht
 obtain ⟨h0, h1, d', hd', ho⟩ := qS hT h4
 obtain rfl : d = d' := by rw [hd] at hd'; exact Option.some.inj hd'
 obtain ⟨k, hkk⟩ := List.length_eq_one_iff.1 h1
 have bd := dV ho
 rw [subs, if_pos h4, hd] at hj
 dsimp only at hj
 have hlen : (LN t.ScopeProg (h + 1) (n, e)).length = 1 + (((d.Rules.map (fun r => (r.Node, ruE e x.N d r))).flatMap (LN t.ScopeProg h)).length + (((d.Spots.map (fun y => (y.Node, inE e x.N d))).flatMap (LN t.ScopeProg h)).length + (LN t.ScopeProg h (k, inE e x.N d)).length)) := by
  simp only [LN, hx]
  rw [subs, if_pos h4, hd, List.length_cons]
  dsimp only
  rw [List.flatMap_append, List.length_append, List.flatMap_append, List.length_append, hkk, List.map_cons, List.map_nil, List.flatMap_cons, List.flatMap_nil, List.append_nil]
  omega
 obtain ⟨a, ⟨a1, ae⟩, a2, a3⟩ := hj (k, inE e x.N d) (List.mem_append_right _ (List.mem_append_right _ (by rw [hkk]; exact List.mem_singleton.2 rfl)))
 obtain ⟨b, ⟨b1, be⟩, b2, b3⟩ := spots_s (p := t.ScopeProg) (h := h) (t := t) (L := L) (v := v) (f := f) (f' := f') (e' := inE e x.N d) d.Spots [] f' a rfl (by omega) (by simp; omega) (fun y hy => hj (y.Node, inE e x.N d) (List.mem_append_right _ (List.mem_append_left _ (List.mem_map.2 ⟨y, hy, rfl⟩)))) a1.1 (by omega)
 have hk0 : idx x.Kids 0 = some k := by rw [hkk]; rfl
 refine ⟨b, ⟨⟨b1.1, by omega⟩, by rw [begM, iZ hk0, ← ae]; exact be⟩, ?_, ?_⟩
 ·rw [lR, hx, bsm, hk0, bsm, a2, bsm, qX, bsm]
  dsimp only
  rw [aBc hd hf ho, b2, bsm]
 ·rw [nK, hL, hx, bsm, hd, bsm, hk0, bsm, a3, bsm, show oF (iB f') L v d f' a 0 = some b from b3, bsm]
theorem aCR (ht : t.ScopeProg = p) (hL : L.p = p) {v : Int} : ∀ (h f f' : Nat) (q : Int × E), 2 * h + 200 ≤ f → 2 * h + 200 ≤ f' → Tr p h q → iE p q.2 → 0 ≤ v ∧ v < q.2.length → (LN p h q).length ≤ 1000000 → (∀ b ∈ LN p h q, At t L b) → tS p h t L v f f' q
 | 0, f, f', q, _, _, hT, _, _, _, _ => hT.elim
 | h + 1, f, f', (n, e), hf, hf', ⟨x, hx, h0, hT, hK⟩, he, hv, hB, hat => by
  dsimp only at hx h0 hT hK he hv
  obtain _ | f := f
  ·omega
  obtain _ | f := f
  ·omega
  obtain _ | f' := f'
  ·omega
  obtain _ | f' := f'
  ·omega
  have hlen : (LN p (h + 1) (n, e)).length = 1 + ((subs p x e).flatMap (LN p h)).length := by simp only [LN, hx, List.length_cons]; omega
  have hB0 := hB
  simp only [LN, hx] at hat
  have hown := hat (n, e) (List.mem_cons_self ..)
  have kid : ∀ (g g' : Nat), 2 * h + 200 ≤ g → 2 * h + 200 ≤ g' → ∀ q ∈ subs p x e, tS p h t L v g g' q := fun g g' hg hg' q hq =>
   aCR ht hL h g g' q hg hg' (hK q hq) (aCv hT he q hq)
    (xS (P := fun e => 0 ≤ v ∧ v < (e.length : Int)) (fun m d h1 h2 => ⟨hv.1, by have a := sC (e := e) (m := m) (d := d); unfold own at a; omega⟩) (fun m d r h1 h2 h3 => ⟨hv.1, by have a := aAD (e := e) (m := m) h2 h3; have b := dV h2; have d := sY (b.2.2.2.2 r h3).2; unfold own at a; omega⟩) hT hv q hq)
    (by have := zP (f := LN p h) hq; omega) (fun b hb => hat b (List.mem_cons_of_mem _ (List.mem_flatMap.2 ⟨q, hq, hb⟩)))
  unfold tS
  rw [hlen, lN]
  dsimp only
  rw [hx]
  dsimp only
  rw [gS, iB, ht, hL, hx, bsm (a := x), bsm (a := x)]
  rcases hT with ⟨h1, _⟩ | ⟨h1, h2⟩ | ⟨h1, h2, _, h3⟩ | ⟨h1, h2⟩ | ⟨h1, h2⟩
  ·have e2 : ¬ x.Op = 2 := by omega
   have e3 : ¬ x.Op = 3 := by omega
   have e5 : ¬ x.Op = 5 := by omega
   have e4 : ¬ x.Op = 4 := by omega
   exact ⟨0, ⟨⟨by omega, by omega⟩, by unfold lT; rw [if_neg e2, if_neg e3, if_neg e5, if_neg e4]⟩, by rw [if_neg e2, if_neg e3, if_neg e5, if_neg e4, bsm], by rw [if_neg e2, if_neg e3, if_neg e5, if_neg e4, bsm]⟩
  ·have e2 : ¬ x.Op = 2 := by omega
   have e4 : ¬ x.Op = 4 := by omega
   obtain ⟨a, b, hab⟩ : ∃ a b, x.Kids = [a, b] := by
    match hq : x.Kids, h2 with
    | [a, b], _ => exact ⟨a, b, rfl⟩
   have i0 : idx x.Kids 0 = some a := by rw [hab]; rfl
   have i1 : idx x.Kids 1 = some b := by rw [hab]; rfl
   have hs : subs p x e = [(a, e), (b, e)] := by rw [subs, if_neg e4, hab]; rfl
   rw [hs] at hlen kid
   rw [hs]
   rw [List.flatMap_cons, List.flatMap_cons, List.flatMap_nil, List.append_nil, List.length_append] at hlen
   rw [List.flatMap_cons, List.flatMap_cons, List.flatMap_nil, List.append_nil, List.length_append]
   obtain ⟨ra, ⟨a1, ae⟩, a2, a3⟩ := kid (f + 1) (f' + 1) (by omega) (by omega) _ (List.mem_cons_self ..)
   obtain ⟨rb, ⟨b1, be⟩, b2, b3⟩ := kid (f + 1) (f' + 1) (by omega) (by omega) _ (List.mem_cons_of_mem _ (List.mem_cons_self ..))
   dsimp only at a2 a3 b2 b3
   rw [if_neg e2, if_neg e2]
   by_cases e3 : x.Op = 3
   ·refine ⟨ra + rb, ⟨⟨by omega, by omega⟩, by unfold lT; rw [if_neg e2, if_pos e3, iZ i0, iZ i1, ae, be]⟩, ?_, ?_⟩
    ·rw [if_pos e3, i0, bsm, a2, bsm, i1, bsm, b2, bsm, aV (by omega), bsm, bsm, bsm]
    ·rw [if_pos e3, i0, bsm, a3, bsm, i1, bsm, b3, bsm, aV (by omega), bsm, bsm, bsm]
   ·have e5 : x.Op = 5 := by omega
    refine ⟨min ra rb, ⟨⟨by omega, by omega⟩, by unfold lT; rw [if_neg e2, if_neg e3, if_pos e5, iZ i0, iZ i1, ae, be]⟩, ?_, ?_⟩
    ·rw [if_neg e3, if_pos e5, i0, bsm, a2, bsm, i1, bsm, b2, bsm, bsm, bsm]
    ·rw [if_neg e3, if_pos e5, i0, bsm, a3, bsm, i1, bsm, b3, bsm, bsm, bsm]
  ·obtain ⟨⟨g, g1, g2⟩, ⟨l, l1, l2⟩⟩ := hown
   obtain ⟨o, hoe⟩ := dH hv.1 hv.2
   dsimp only at g1 g2 l1 l2
   have gg := g2 v
   rw [hoe, bsm] at gg
   have ll : idx l v = some (rc o) := by rw [l2]; exact xG hoe
   rw [show lT p (lN p v h) x e v = surW p x v o from by unfold lT; rw [if_pos h1, hoe]; rfl]
   rw [if_pos h1, if_pos h1, g1, bsm (a := g), l1, bsm (a := l), ll, bsm (a := rc o)]
   by_cases hN : x.N = v
   ·rw [if_pos hN, if_pos hN]
    cases o with
    | none =>
     rw [gg, if_neg (show ¬ 0 ≤ (rc none).Def from by simp [rc])]
     exact ⟨0, ⟨⟨by omega, by omega⟩, rfl⟩, rfl, rfl⟩
    | some c =>
     obtain ⟨d, y, hd, hy⟩ := he _ _ hoe
     have hc0 := (fJ hd).1
     rw [gg, if_pos (show 0 ≤ (rc (some c)).Def from hc0)]
     have hM : (chOf p c).elim 0 (·.Many) = y.Many := by unfold chOf; rw [hd, bsm, hy]; rfl
     show ∃ r, (_ ∧ r = (if x.N = v ∧ (chOf p c).elim 0 (·.Many) = (x.Args.length : Int) then (1 : Int) else 0)) ∧ (((qM t ⟨c.1, c.2⟩ n).bind _).bind _) = some r ∧ (((idx p.Defs c.1).bind fun y4 => (idx y4.Chans c.2).bind _).bind _) = some r
     rw [hM, qM, ht, hd, bsm, bsm, hy, bsm, bsm, hx, bsm, bsm, hy, bsm (a := y)]
     by_cases hm : y.Many = (x.Args.length : Int)
     ·rw [if_pos ⟨hN, hm⟩, decide_eq_true hm, if_pos hm]
      exact ⟨1, ⟨⟨by omega, by omega⟩, rfl⟩, rfl, rfl⟩
     ·rw [if_neg (fun q => hm q.2), decide_eq_false hm, if_neg hm]
      exact ⟨0, ⟨⟨by omega, by omega⟩, rfl⟩, rfl, rfl⟩
   ·rw [if_neg hN, if_neg hN]
    refine ⟨0, ⟨⟨by omega, by omega⟩, by cases o with | none => rfl | some c => exact (if_neg (fun q => hN q.1)).symm⟩, ?_, rfl⟩
    cases (g.get v).isSome <;> rfl
  ·have e2 : ¬ x.Op = 2 := by omega
   have e3 : ¬ x.Op = 3 := by omega
   have e5 : ¬ x.Op = 5 := by omega
   have e4 : ¬ x.Op = 4 := by omega
   exact ⟨0, ⟨⟨by omega, by omega⟩, by unfold lT; rw [if_neg e2, if_neg e3, if_neg e5, if_neg e4]⟩, by rw [if_neg e2, if_neg e3, if_neg e5, if_neg e4, bsm], by rw [if_neg e2, if_neg e3, if_neg e5, if_neg e4, bsm]⟩
  ·have e2 : ¬ x.Op = 2 := by omega
   have e3 : ¬ x.Op = 3 := by omega
   have e5 : ¬ x.Op = 5 := by omega
   have hT' : okT p x 0 := .inr (.inr (.inr (.inr ⟨h1, h2⟩)))
   obtain ⟨_, _, d, hd, _⟩ := qS hT' h1
   obtain ⟨r, r1, r2, r3⟩ := aCn (t := t) (L := L) (p := p) (h := h) ht hL (v := v) (f := f) (f' := f') (n := n) (e := e) (x := x) (z := 0) (by omega) (by omega) hx hT' h1 hB0 (kid f f' (by omega) (by omega)) hd
   rw [hlen] at r1
   refine ⟨r, ⟨r1.1, by unfold lT; rw [if_neg e2, if_neg e3, if_neg e5, if_pos h1, hd]; exact r1.2⟩, ?_, ?_⟩
   ·rw [if_neg e2, if_neg e3, if_neg e5, if_pos h1, r2, bsm, bsm, bsm]
   ·rw [if_neg e2, if_neg e3, if_neg e5, if_pos h1, r3, bsm, bsm, bsm]
end Go.Proofs.YtmnbfgeljmhekaaGreat
set_option maxRecDepth 100000
namespace Go.Proofs.YtmnbfgeljmhekaaGreat
open Go.SX Go.SW Go.Dt
theorem aG0 {P : Int → Int → Bool → Bool} {w0 : Int × Int × Bool → Option Bool} (hw : ∀ x, w0 x = some (P x.1 x.2.1 x.2.2)) {once : Bool} {a b : List Int} (suf : List Int) : ∀ (pre pre' suf' : List Int) (k : Nat), a = pre ++ suf → b = pre' ++ suf' → pre.length = pre'.length → suf.length = suf'.length → suf.length < k → pre.length + suf.length ≤ 3000000 →
  mG a b once w0 k pre.length = some (if (suf.zip suf').all (fun q => P q.1 q.2 once) = true then .inl () else .inr false) := by
 induction suf with
 | nil =>
  intro pre pre' suf' k ha hb hl hs hk hB
  obtain _ | k := k
  ·omega
  rw [mG, if_neg (show ¬ (pre.length : Int) < (a.length : Int) from by rw [ha]; simp)]; rfl
 | cons y suf ih =>
  intro pre pre' suf' k ha hb hl hs hk hB
  obtain _ | k := k
  ·omega
  obtain _ | ⟨z, suf'⟩ := suf'
  ·cases hs
  simp only [List.length_cons] at hk hB hs
  rw [mG, if_pos (show (pre.length : Int) < (a.length : Int) from by rw [ha]; exact cJ pre suf y), show idx a (pre.length : Int) = some y from by rw [ha]; exact cL pre suf y, bsm, show idx b (pre.length : Int) = some z from by rw [hb, hl]; exact cL pre' suf' z, bsm, hw, bsm]
  dsimp only
  rw [List.zip_cons_cons, List.all_cons]
  dsimp only
  cases P y z once with
  | false => rfl
  | true =>
   rw [cond_true, Bool.true_and, aV (by omega), bsm, bZ pre y]
   exact ih (pre ++ [y]) (pre' ++ [z]) suf' k (by rw [ha]; exact cN pre suf y) (by rw [hb]; exact cN pre' suf' z) (by simp; omega) (by omega) (by omega) (by simp; omega)
theorem aAy {P : Int → Int → Bool → Bool} {w0 : Int × Int × Bool → Option Bool} (hw : ∀ x, w0 x = some (P x.1 x.2.1 x.2.2)) {once : Bool} {a b : List Int} {fuel : Nat} (h : a.length = b.length) (hf : a.length < fuel) (hB : a.length ≤ 3000000) : rW fuel a b once w0 = some ((a.zip b).all fun q => P q.1 q.2 once) := by
 have e := aG0 hw (once := once) (a := a) (b := b) a [] [] b fuel rfl rfl rfl h hf (by simp; omega)
 rw [rW, show mG a b once w0 fuel 0 = _ from e, bsm]
 cases (a.zip b).all fun q => P q.1 q.2 once <;> rfl
structure Sh2 (x y : UsageDef) : Prop where
 chans : x.Chans.length = y.Chans.length
 rules : x.Rules.length = y.Rules.length
 args : x.Args.length = y.Args.length
 each : ∀ q ∈ x.Args.zip y.Args, q.1.length = q.2.length
structure SmU (x : UsageDef) : Prop where
 chans : x.Chans.length ≤ 2000000
 rules : x.Rules.length ≤ 2000000
 args : x.Args.length ≤ 2000000
 each : ∀ a ∈ x.Args, a.length ≤ 2000000
def kz (P : Int → Int → Bool → Bool) (x y : UsageDef) : Bool := (x.Chans.zip y.Chans).all (fun q => P q.1 q.2 true) && ((x.Rules.zip y.Rules).all (fun q => P q.1 q.2 false) && (x.Args.zip y.Args).all fun q => (q.1.zip q.2).all fun q => P q.1 q.2 false)
theorem aHq {P : Int → Int → Bool → Bool} {w0 : Int × Int × Bool → Option Bool} (hw : ∀ x, w0 x = some (P x.1 x.2.1 x.2.2)) {A B : List UsageDef} {i : Int} {x y : UsageDef} (hx : idx A i = some x) (hy : idx B i = some y) (suf : List (List Int)) : ∀ (pre pre' suf' : List (List Int)) (k : Nat), x.Args = pre ++ suf → y.Args = pre' ++ suf' → pre.length = pre'.length → suf.length = suf'.length → suf.length < k → pre.length + suf.length ≤ 3000000 → (∀ q ∈ suf.zip suf', q.1.length = q.2.length) → (∀ a ∈ suf, a.length ≤ 2000000) →
  mS F A B w0 i x k pre.length = some (if (suf.zip suf').all (fun q => (q.1.zip q.2).all fun q => P q.1 q.2 false) = true then .inl () else .inr (.inr false)) := by
 induction suf with
 | nil =>
  intro pre pre' suf' k ha hb hl hs hk hB _ _
  obtain _ | k := k
  ·omega
  rw [mS, if_neg (show ¬ (pre.length : Int) < (x.Args.length : Int) from by rw [ha]; simp)]; rfl
 | cons a suf ih =>
  intro pre pre' suf' k ha hb hl hs hk hB he hm
  obtain _ | k := k
  ·omega
  obtain _ | ⟨b, suf'⟩ := suf'
  ·cases hs
  simp only [List.length_cons] at hk hB hs
  have hab : a.length = b.length := he (a, b) (List.mem_cons_self ..)
  have hma := hm a (List.mem_cons_self ..)
  rw [mS, if_pos (show (pre.length : Int) < (x.Args.length : Int) from by rw [ha]; exact cJ pre suf a), hx, bsm, show idx x.Args (pre.length : Int) = some a from by rw [ha]; exact cL pre suf a, bsm, hy, bsm, show idx y.Args (pre.length : Int) = some b from by rw [hb, hl]; exact cL pre' suf' b, bsm, aAy hw hab (by show _ < 4000000; omega) (by omega), bsm, List.zip_cons_cons, List.all_cons]
  dsimp only
  cases (a.zip b).all fun q => P q.1 q.2 false with
  | false => rfl
  | true =>
   rw [cond_true, Bool.true_and, aV (by omega), bsm, bZ pre a]
   exact ih (pre ++ [a]) (pre' ++ [b]) suf' k (by rw [ha]; exact cN pre suf a) (by rw [hb]; exact cN pre' suf' b) (by simp; omega) (by omega) (by omega) (by simp; omega) (fun q hq => he q (List.mem_cons_of_mem _ hq)) (fun q hq => hm q (List.mem_cons_of_mem _ hq))
theorem aHp {P : Int → Int → Bool → Bool} {w0 : Int × Int × Bool → Option Bool} (hw : ∀ x, w0 x = some (P x.1 x.2.1 x.2.2)) {A B : List UsageDef} (suf : List UsageDef) : ∀ (pre pre' suf' : List UsageDef) (k : Nat), A = pre ++ suf → B = pre' ++ suf' → pre.length = pre'.length → suf.length = suf'.length → suf.length < k → pre.length + suf.length ≤ 3000000 → (∀ q ∈ suf.zip suf', Sh2 q.1 q.2) → (∀ a ∈ suf, SmU a) →
  oJ F A B w0 k pre.length = some (if (suf.zip suf').all (fun q => kz P q.1 q.2) = true then .inl () else .inr false) := by
 induction suf with
 | nil =>
  intro pre pre' suf' k ha hb hl hs hk hB _ _
  obtain _ | k := k
  ·omega
  rw [oJ, if_neg (show ¬ (pre.length : Int) < (A.length : Int) from by rw [ha]; simp)]; rfl
 | cons a suf ih =>
  intro pre pre' suf' k ha hb hl hs hk hB he hm
  obtain _ | k := k
  ·omega
  obtain _ | ⟨b, suf'⟩ := suf'
  ·cases hs
  simp only [List.length_cons] at hk hB hs
  have s2 := he (a, b) (List.mem_cons_self ..)
  have sm := hm a (List.mem_cons_self ..)
  have s1 := s2.chans; have s3 := s2.rules
  dsimp only at s1 s3
  have hx : idx A (pre.length : Int) = some a := by rw [ha]; exact cL pre suf a
  have hy : idx B (pre.length : Int) = some b := by rw [hb, hl]; exact cL pre' suf' b
  have b1 := sm.chans; have b2 := sm.rules; have b3 := sm.args
  have l2 := aHq hw hx hy a.Args [] [] b.Args F rfl rfl rfl s2.args (by show _ < 4000000; omega) (by simp; omega) s2.each sm.each
  rw [oJ, if_pos (show (pre.length : Int) < (A.length : Int) from by rw [ha]; exact cJ pre suf a), hx, bsm (a := a), hy, bsm (a := b), aAy hw s1 (by show _ < 4000000; omega) (by omega), bsm, List.zip_cons_cons, List.all_cons]
  dsimp only
  cases q1 : (a.Chans.zip b.Chans).all fun q => P q.1 q.2 true with
  | false =>
   have e : kz P a b = false := by unfold kz; rw [q1, Bool.false_and]
   rw [e]; rfl
  | true =>
   rw [Bool.not_true, cond_false, bsm (a := a), bsm (a := b), aAy hw s3 (by show _ < 4000000; omega) (by omega), bsm]
   cases q2 : (a.Rules.zip b.Rules).all fun q => P q.1 q.2 false with
   | false =>
    have e : kz P a b = false := by unfold kz; rw [q1, q2, Bool.false_and, Bool.and_false]
    rw [e]; rfl
   | true =>
    rw [cond_true, bsm (a := a), show mS F A B w0 pre.length a F 0 = _ from l2]
    cases q3 : (a.Args.zip b.Args).all fun q => (q.1.zip q.2).all fun q => P q.1 q.2 false with
    | false =>
     have e : kz P a b = false := by unfold kz; rw [q1, q2, q3]; rfl
     rw [e]; rfl
    | true =>
     have e : kz P a b = true := by unfold kz; rw [q1, q2, q3]; rfl
     rw [e, if_pos rfl, bsm]
     dsimp only
     rw [Bool.true_and, aV (by omega), bsm, bZ pre a]
     exact ih (pre ++ [a]) (pre' ++ [b]) suf' k (by rw [ha]; exact cN pre suf a) (by rw [hb]; exact cN pre' suf' b) (by simp; omega) (by omega) (by omega) (by simp; omega) (fun q hq => he q (List.mem_cons_of_mem _ hq)) (fun q hq => hm q (List.mem_cons_of_mem _ hq))
theorem kinds_eq {P : Int → Int → Bool → Bool} {w0 : Int × Int × Bool → Option Bool} (hw : ∀ x, w0 x = some (P x.1 x.2.1 x.2.2)) {A B : List UsageDef} (hl : A.length = B.length) (hB : A.length ≤ 2000000) (hs : ∀ q ∈ A.zip B, Sh2 q.1 q.2) (hm : ∀ a ∈ A, SmU a) : qA F A B w0 = some ((A.zip B).all fun q => kz P q.1 q.2) := by
 have e := aHp hw (A := A) (B := B) A [] [] B F rfl rfl rfl hl (by show _ < 4000000; omega) (by simp; omega) hs hm
 rw [qA, show oJ F A B w0 F 0 = _ from e, bsm]
 cases (A.zip B).all fun q => kz P q.1 q.2 <;> rfl
end Go.Proofs.YtmnbfgeljmhekaaGreat
set_option maxRecDepth 100000
namespace Go.Proofs.YtmnbfgeljmhekaaGreat
open Go.SX Go.SW Go.Dt
def okK (once : Bool) (k : Int) : Bool := decide (1 ≤ k ∧ k ≤ 4) && (once || decide (k ≠ 2))
def shp1 (d : ScopeDef) (x : UsageDef) : Bool := decide (x.Chans.length = d.Chans.length ∧ x.Rules.length = d.Rules.length ∧ x.Args.length = d.Chans.length) && (d.Chans.zip x.Args).all fun q => decide ((q.2.length : Int) = q.1.Many)
def kin (x : UsageDef) : Bool := x.Chans.all (okK true) && (x.Rules.all (okK false) && x.Args.all fun a => a.all (okK false))
def good (p : ScopeProg) (tab : List UsageDef) : Bool := decide (tab.length = p.Defs.length) && ((p.Defs.zip tab).all (fun q => shp1 q.1 q.2) && tab.all kin)
end Go.Proofs.YtmnbfgeljmhekaaGreat
set_option maxRecDepth 100000
namespace Go.Proofs.YtmnbfgeljmhekaaGreat
open Go.SX Go.SW Go.Dt
variable {p : ScopeProg}
theorem ln_sub : ∀ (h : Nat) (q : Int × E), Tr p h q → ∀ b ∈ LN p h q, ∃ h', h' ≤ h ∧ Tr p h' b ∧ (LN p h' b).length ≤ (LN p h q).length ∧ ∀ c ∈ LN p h' b, c ∈ LN p h q
 | 0, q, hT, b, hb => hT.elim
 | h + 1, q, ⟨x, hx, h0, hT, hK⟩, b, hb => by
  have e : LN p (h + 1) q = q :: (subs p x q.2).flatMap (LN p h) := by simp only [LN, hx]
  rw [e] at hb ⊢
  cases hb with
  | head => exact ⟨h + 1, by omega, ⟨x, hx, h0, hT, hK⟩, by rw [e]; omega, fun c hc => by rw [e] at hc; exact hc⟩
  | tail _ hb =>
   obtain ⟨c, hc, hb⟩ := List.mem_flatMap.1 hb
   obtain ⟨h', a1, a2, a3, a4⟩ := ln_sub h c (hK c hc) b hb
   have := zP (f := LN p h) hc
   exact ⟨h', by omega, a2, by rw [List.length_cons]; omega, fun d hd => List.mem_cons_of_mem _ (List.mem_flatMap.2 ⟨c, hc, a4 d hd⟩)⟩
theorem env_root : iE p (cT p).2 := fun i c hi => by cases List.eq_of_mem_replicate (eD hi)
theorem ln_env {h : Nat} {q : Int × E} (hT : Tr p h q) (he : iE p q.2) : ∀ b ∈ LN p h q, iE p b.2 := ln_all (fun _ _ _ h1 _ he => aB5 h1 he) (fun _ _ _ _ h1 _ _ he => env_ru h1 he) h q hT he
theorem aEw {α β : Type} : ∀ {a : List α} {b : List β} {i : Nat} {x : α} {y : β}, a[i]? = some x → b[i]? = some y → (x, y) ∈ a.zip b
 | x :: a, y :: b, 0, u, v, h, k => by cases h; cases k; exact List.mem_cons_self ..
 | x :: a, y :: b, i + 1, u, v, h, k => List.mem_cons_of_mem _ (aEw (i := i) h k)
end Go.Proofs.YtmnbfgeljmhekaaGreat
set_option maxRecDepth 100000
namespace Go.Proofs.YtmnbfgeljmhekaaGreat
open Go.SX Go.SW Go.Dt
variable {p : ScopeProg}
def kc (l : List Int) (i : Int) : Int := cnt ((idx l i).getD 0)
def gA (tab : List UsageDef) (d : Int) : List Int := (idx tab d).elim [] (·.Chans)
def eR (tab : List UsageDef) (d : Int) : List Int := (idx tab d).elim [] (·.Rules)
def LeT (t u : List UsageDef) : Prop := ∀ d i, kc (gA t d) i ≤ kc (gA u d) i ∧ kc (eR t d) i ≤ kc (eR u d) i ∧ ∀ c, kc (lF t (d, c)) i ≤ kc (lF u (d, c)) i
theorem LeT.rfl {t : List UsageDef} : LeT t t := fun _ _ => ⟨Int.le_refl _, Int.le_refl _, fun _ => Int.le_refl _⟩
theorem LeT.trans {t u w : List UsageDef} (h : LeT t u) (k : LeT u w) : LeT t w := fun d i => ⟨Int.le_trans (h d i).1 (k d i).1, Int.le_trans (h d i).2.1 (k d i).2.1, fun c => Int.le_trans ((h d i).2.2 c) ((k d i).2.2 c)⟩
theorem xI {l : List Int} {i : Int} : two (kc l i) := iA _
theorem mul_mono {a b c d : Int} (ha : two a) (hb : two b) (hc : two c) (hd : two d) (h : a ≤ b) (k : c ≤ d) : a * c ≤ b * d := by
 rcases zK ha with rfl | rfl | rfl <;> rcases zK hb with rfl | rfl | rfl <;> unfold two at * <;> omega
theorem aCM {a b : Int} (ha : two a) (hb : two b) : two (min (a * b) 2) := aEg ha hb
theorem uC {ar ar' : Option (List Int)} {v : Int} (h : (ar = none ∧ ar' = none) ∨ ∃ a b, ar = some a ∧ ar' = some b ∧ ∀ i, kc a i ≤ kc b i) : ∀ (l : List ScopeExp) (i w w' : Int), two w → two w' → w ≤ w' → iK ar v l i w ≤ iK ar' v l i w' ∧ two (iK ar v l i w)
 | [], i, w, w', h1, h2, h3 => ⟨h3, h1⟩
 | e :: l, i, w, w', h1, h2, h3 => by
  rw [iK, iK]
  by_cases c1 : e.Op ≠ 2
  ·rw [if_pos c1, if_pos c1]; exact uC h l _ _ _ h1 h2 h3
  ·rw [if_neg c1, if_neg c1]
   by_cases c2 : e.N ≠ v
   ·rw [if_pos c2, if_pos c2]; exact uC h l _ _ _ h1 h2 h3
   ·rw [if_neg c2, if_neg c2]
    rcases h with ⟨rfl, rfl⟩ | ⟨a, b, rfl, rfl, hk⟩
    ·exact uC (.inl ⟨rfl, rfl⟩) l _ 2 2 (by unfold two; omega) (by unfold two; omega) (Int.le_refl _)
    ·have := hk i
     exact uC (.inr ⟨a, b, rfl, rfl, hk⟩) l _ _ _ (lC h1 (iA _)) (lC h2 (iA _)) (by unfold kc at this; unfold argW; dsimp only; omega)
theorem yF {c : Prop} [Decidable c] : two (if c then 1 else 0) := by unfold two; split <;> omega
theorem aHU {tab tab' : List UsageDef} (h : LeT tab tab') {x : ScopeNode} {e : E} {v : Int} : rY p tab x e v ≤ rY p tab' x e v ∧ two (rY p tab x e v) := by
 unfold rY
 split
 ·rename_i c _
  split
  ·exact uC (.inr ⟨_, _, rfl, rfl, fun i => (h c.1 i).2.2 c.2⟩) _ _ _ _ yF yF (Int.le_refl _)
  ·exact ⟨Int.le_refl _, by unfold two; omega⟩
 ·exact uC (.inl ⟨rfl, rfl⟩) _ _ _ _ yF yF (Int.le_refl _)
theorem aEd {α : Type} {f g : α → Int} : ∀ (l : List α) (w w' : Int), two w → two w' → w ≤ w' → (∀ y ∈ l, two (f y) ∧ two (g y) ∧ f y ≤ g y) → l.foldl (fun w y => min (w + f y) 2) w ≤ l.foldl (fun w y => min (w + g y) 2) w' ∧ two (l.foldl (fun w y => min (w + f y) 2) w) ∧ two (l.foldl (fun w y => min (w + g y) 2) w')
 | [], w, w', h1, h2, h3, _ => ⟨h3, h1, h2⟩
 | y :: l, w, w', h1, h2, h3, hf => by
  obtain ⟨a, b, c⟩ := hf y (List.mem_cons_self ..)
  rw [List.foldl_cons, List.foldl_cons]
  exact aEd l _ _ (lC h1 a) (lC h2 b) (by omega) (fun z hz => hf z (List.mem_cons_of_mem _ hz))
theorem aEZ {ru ru' : List Int} {f g : ScopeRule → Int} (hr : ∀ i, kc ru i ≤ kc ru' i) : ∀ (l : List ScopeRule) (i w w' : Int), two w → two w' → w ≤ w' → (∀ y ∈ l, two (f y) ∧ two (g y) ∧ f y ≤ g y) → pN ru f l i w ≤ pN ru' g l i w' ∧ two (pN ru f l i w)
 | [], i, w, w', h1, h2, h3, _ => ⟨h3, h1⟩
 | y :: l, i, w, w', h1, h2, h3, hf => by
  obtain ⟨a, b, c⟩ := hf y (List.mem_cons_self ..)
  rw [pN, pN]
  have m := mul_mono (iA ((idx ru i).getD 0)) (iA ((idx ru' i).getD 0)) a b (hr i) c
  exact aEZ hr l _ _ _ (lC h1 (aCM (iA _) a)) (lC h2 (aCM (iA _) b)) (by omega) (fun z hz => hf z (List.mem_cons_of_mem _ hz))
theorem rZ {x : ScopeNode} {e : E} {z i : Int} (hT : okT p x z) (h4 : ¬ x.Op = 4) (h : 0 ≤ i ∧ i < x.Kids.length) : (iH x i, e) ∈ subs p x e := by
 obtain ⟨k, hk⟩ := dH (xs := x.Kids) h.1 h.2
 rw [iZ hk, subs, if_neg h4]
 exact List.mem_map.2 ⟨k, eD hk, rfl⟩
theorem aCV {x : ScopeNode} {e : E} {d : ScopeDef} (h4 : x.Op = 4) (hd : idx p.Defs x.N = some d) (h1 : x.Kids.length = 1) : (iH x 0, inE e x.N d) ∈ subs p x e := by
 obtain ⟨k, hk⟩ := dH (xs := x.Kids) (i := 0) (by omega) (by omega)
 rw [iZ hk, subs, if_pos h4, hd]
 exact List.mem_append_right _ (List.mem_append_right _ (List.mem_map.2 ⟨k, eD hk, rfl⟩))
theorem aDO {x : ScopeNode} {e : E} {d : ScopeDef} (h4 : x.Op = 4) (hd : idx p.Defs x.N = some d) {y : ScopeSpot} (hy : y ∈ d.Spots) : (y.Node, inE e x.N d) ∈ subs p x e := by
 rw [subs, if_pos h4, hd]
 exact List.mem_append_right _ (List.mem_append_left _ (List.mem_map.2 ⟨y, hy, rfl⟩))
theorem aAp {x : ScopeNode} {e : E} {d : ScopeDef} (h4 : x.Op = 4) (hd : idx p.Defs x.N = some d) {y : ScopeRule} (hy : y ∈ d.Rules) : (y.Node, ruE e x.N d y) ∈ subs p x e := by
 rw [subs, if_pos h4, hd]
 exact List.mem_append_left _ (List.mem_map.2 ⟨y, hy, rfl⟩)
theorem aCq {tab tab' : List UsageDef} (ht : LeT tab tab') {x : ScopeNode} {d : ScopeDef} {e : E} {f g : Int × E → Int} (h4 : x.Op = 4) (hd : idx p.Defs x.N = some d) (h1 : x.Kids.length = 1) (hs : ∀ k ∈ subs p x e, two (f k) ∧ two (g k) ∧ f k ≤ g k) : iL tab x d e f ≤ iL tab' x d e g ∧ two (iL tab x d e f) := by
 obtain ⟨a, b, c⟩ := hs _ (aCV h4 hd h1)
 obtain ⟨m1, m2, m3⟩ := aEd (f := fun y => f (y.Node, inE e x.N d)) (g := fun y => g (y.Node, inE e x.N d)) d.Spots _ _ a b c (fun y hy => hs _ (aDO h4 hd hy))
 exact aEZ (fun i => (ht x.N i).2.1) d.Rules 0 _ _ m2 m3 m1 (fun y hy => hs _ (aAp h4 hd hy))
theorem zZ {tab tab' : List UsageDef} (ht : LeT tab tab') {x : ScopeNode} {e : E} {v z : Int} (hT : okT p x z) {f g : Int × E → Int} (hs : ∀ k ∈ subs p x e, two (f k) ∧ two (g k) ∧ f k ≤ g k) : lA p tab f x e v ≤ lA p tab' g x e v ∧ two (lA p tab f x e v) := by
 unfold lA
 by_cases e2 : x.Op = 2
 ·rw [if_pos e2, if_pos e2]; exact aHU ht
 rw [if_neg e2, if_neg e2]
 by_cases e3 : x.Op = 3
 ·have hl : x.Kids.length = 2 := by rcases hT with h | h | h | h | h <;> first | exact h.2 | omega
  obtain ⟨a, b, c⟩ := hs _ (rZ (i := 0) hT (by omega) (by omega))
  obtain ⟨a', b', c'⟩ := hs _ (rZ (i := 1) hT (by omega) (by omega))
  rw [if_pos e3, if_pos e3]; exact ⟨by omega, lC a a'⟩
 rw [if_neg e3, if_neg e3]
 by_cases e5 : x.Op = 5
 ·have hl : x.Kids.length = 2 := by rcases hT with h | h | h | h | h <;> first | exact h.2 | omega
  obtain ⟨a, b, c⟩ := hs _ (rZ (i := 0) hT (by omega) (by omega))
  obtain ⟨a', b', c'⟩ := hs _ (rZ (i := 1) hT (by omega) (by omega))
  rw [if_pos e5, if_pos e5]; exact ⟨by omega, by unfold two at *; omega⟩
 rw [if_neg e5, if_neg e5]
 by_cases e6 : x.Op = 6 ∨ x.Op = 8
 ·have hl : x.Kids.length = 1 := by rcases hT with h | h | h | h | h <;> first | exact h.2 | omega
  obtain ⟨a, b, c⟩ := hs _ (rZ (i := 0) hT (by omega) (by omega))
  rw [if_pos e6, if_pos e6]; exact ⟨c, a⟩
 rw [if_neg e6, if_neg e6]
 by_cases e4 : x.Op = 4
 ·obtain ⟨_, h1, d, hd, _⟩ := qS hT e4
  rw [if_pos e4, if_pos e4, hd]
  exact aCq ht e4 hd h1 hs
 ·rw [if_neg e4, if_neg e4]; exact ⟨Int.le_refl _, by unfold two; omega⟩
theorem rO {tab : List UsageDef} {v : Int} : ∀ (h : Nat) (q : Int × E), Tr p h q → two (fY p tab v h q)
 | 0, q, hT => hT.elim
 | h + 1, q, ⟨x, hx, h0, hT, hK⟩ => by
  rw [fY, hx]
  exact (zZ LeT.rfl hT (f := fY p tab v h) (g := fY p tab v h) fun k hk => ⟨rO h k (hK k hk), rO h k (hK k hk), Int.le_refl _⟩).2
theorem aE9 {tab tab' : List UsageDef} (ht : LeT tab tab') {v : Int} : ∀ (h : Nat) (q : Int × E), Tr p h q → fY p tab v h q ≤ fY p tab' v h q
 | 0, q, hT => hT.elim
 | h + 1, q, ⟨x, hx, h0, hT, hK⟩ => by
  rw [fY, fY, hx]
  exact (zZ ht hT fun k hk => ⟨rO h k (hK k hk), rO h k (hK k hk), aE9 ht h k (hK k hk)⟩).1
theorem Tr.up : ∀ (h h' : Nat) (q : Int × E), h ≤ h' → Tr p h q → Tr p h' q
 | 0, _, q, _, hT => hT.elim
 | h + 1, 0, q, hl, _ => absurd hl (by omega)
 | h + 1, h' + 1, q, hl, ⟨x, hx, h0, hT, hK⟩ => ⟨x, hx, h0, hT, fun k hk => Tr.up h h' k (by omega) (hK k hk)⟩
theorem snd_h {tab : List UsageDef} {v : Int} : ∀ (h h' : Nat) (q : Int × E), h ≤ h' → Tr p h q → fY p tab v h' q = fY p tab v h q
 | 0, _, q, _, hT => hT.elim
 | h + 1, 0, q, hl, _ => absurd hl (by omega)
 | h + 1, h' + 1, q, hl, ⟨x, hx, h0, hT, hK⟩ => by
  rw [fY, fY, hx]
  have e : ∀ k ∈ subs p x q.2, fY p tab v h' k = fY p tab v h k := fun k hk => snd_h h h' k (by omega) (hK k hk)
  have b : ∀ k ∈ subs p x q.2, two (fY p tab v h k) := fun k hk => rO h k (hK k hk)
  exact Int.le_antisymm (zZ LeT.rfl hT fun k hk => ⟨by rw [e k hk]; exact b k hk, b k hk, by rw [e k hk]; exact Int.le_refl _⟩).1
   (zZ LeT.rfl hT fun k hk => ⟨b k hk, by rw [e k hk]; exact b k hk, by rw [e k hk]; exact Int.le_refl _⟩).1
theorem aE7 : ∀ (N : Nat) (l : List Int), l.Nodup → (∀ i ∈ l, 0 ≤ i ∧ i < (N : Int)) → l.length ≤ N
 | 0, l, _, h => by
  match l, h with
  | [], _ => simp
  | a :: l, h => have := h a (List.mem_cons_self ..); omega
 | N + 1, l, hn, h => by
  have e := aE7 N (l.filter fun i => decide (i ≠ (N : Int))) (hn.filter _) (fun i hi => by
   have := List.mem_filter.1 hi
   have a := h i this.1
   have b := of_decide_eq_true this.2
   omega)
  have c := List.length_eq_countP_add_countP (fun i => decide (i ≠ (N : Int))) (l := l)
  rw [← List.countP_eq_length_filter] at e
  have d : l.countP (fun i => decide ¬ (decide (i ≠ (N : Int)) = true)) ≤ 1 := by
   have := (List.nodup_iff_count.1 hn) (N : Int)
   unfold List.count at this
   refine Nat.le_trans (List.countP_mono_left (fun i _ hi => ?_)) this
   simp at hi ⊢
   exact hi
  omega
theorem aD0 {β : Type} {l : List (Int × β)} (h : (l.map (·.1)).Nodup) {a : Int} {b c : β} (h1 : (a, b) ∈ l) (h2 : (a, c) ∈ l) : (a, b) = (a, c) := by
 induction l with
 | nil => cases h1
 | cons y l ih =>
  rw [List.map_cons, List.nodup_cons] at h
  cases h1 with
  | head =>
   cases h2 with
   | head => rfl
   | tail _ h2 => exact absurd (List.mem_map.2 ⟨_, h2, rfl⟩) h.1
  | tail _ h1 =>
   cases h2 with
   | head => exact absurd (List.mem_map.2 ⟨_, h1, rfl⟩) h.1
   | tail _ h2 => exact ih h.2 h1 h2
def snd (p : ScopeProg) (tab : List UsageDef) (q : Int × E) (v : Int) : Int := fY p tab v 60 q
end Go.Proofs.YtmnbfgeljmhekaaGreat
set_option maxRecDepth 100000
namespace Go.Proofs.YtmnbfgeljmhekaaGreat
open Go.SX Go.SW Go.Dt
variable {p : ScopeProg}
theorem aDy {α : Type} {f g : Int → α → Int} : ∀ (l : List α) (w : Int), (∀ w, ∀ y ∈ l, f w y = g w y) → l.foldl f w = l.foldl g w
 | [], _, _ => rfl
 | y :: l, w, h => by rw [List.foldl_cons, List.foldl_cons, h w y (List.mem_cons_self ..)]; exact aDy l _ (fun w z hz => h w z (List.mem_cons_of_mem _ hz))
theorem aE0 {x : ScopeNode} {d : ScopeDef} {e : E} {f g : Int × E → Int} (h4 : x.Op = 4) (hd : idx p.Defs x.N = some d) (h1 : x.Kids.length = 1) (hs : ∀ k ∈ subs p x e, f k = g k) : begM x d e f = begM x d e g := by
 unfold begM
 rw [hs _ (aCV h4 hd h1)]
 exact aDy _ _ fun w y hy => by rw [hs _ (aDO h4 hd hy)]
theorem aFH {x : ScopeNode} {e : E} {v z : Int} (hT : okT p x z) {f g : Int × E → Int} (hs : ∀ k ∈ subs p x e, f k = g k) : lT p f x e v = lT p g x e v := by
 unfold lT
 by_cases e2 : x.Op = 2
 ·rw [if_pos e2, if_pos e2]
 rw [if_neg e2, if_neg e2]
 by_cases e35 : x.Op = 3 ∨ x.Op = 5
 ·have hl : x.Kids.length = 2 := by rcases hT with h | h | h | h | h <;> first | exact h.2 | omega
  rw [hs _ (rZ (i := 0) hT (by omega) (by omega)), hs _ (rZ (i := 1) hT (by omega) (by omega))]
  by_cases e3 : x.Op = 3
  ·rw [if_pos e3, if_pos e3]
  ·rw [if_neg e3, if_neg e3, if_pos (by omega), if_pos (by omega)]
 rw [if_neg (show ¬ x.Op = 3 from fun q => e35 (.inl q)), if_neg (show ¬ x.Op = 3 from fun q => e35 (.inl q)), if_neg (show ¬ x.Op = 5 from fun q => e35 (.inr q)), if_neg (show ¬ x.Op = 5 from fun q => e35 (.inr q))]
 by_cases e4 : x.Op = 4
 ·obtain ⟨_, h1, d, hd, _⟩ := qS hT e4
  rw [if_pos e4, if_pos e4, hd]
  exact aE0 e4 hd h1 hs
 ·rw [if_neg e4, if_neg e4]
theorem sur_h {v : Int} : ∀ (h h' : Nat) (q : Int × E), h ≤ h' → Tr p h q → lN p v h' q = lN p v h q
 | 0, _, q, _, hT => hT.elim
 | h + 1, 0, q, hl, _ => absurd hl (by omega)
 | h + 1, h' + 1, q, hl, ⟨x, hx, h0, hT, hK⟩ => by
  rw [lN, lN, hx]
  exact aFH hT fun k hk => sur_h h h' k (by omega) (hK k hk)
def sur (p : ScopeProg) (q : Int × E) (v : Int) : Int := lN p v 60 q
structure cI (p : ScopeProg) (t : Usage_text) (L : Ref05_Look) (H : Nat) : Prop where
 low : H ≤ 60
 tr : Tr p H (cT p)
 defs : p.Defs.length ≤ 12
 prog : t.ScopeProg = p
 rprog : L.p = p
 sizes : t.sizes = L.Sizes
 size : ∀ q ∈ LN p H (cT p), idx L.Sizes q.1 = some (q.2.length : Int)
 at_ : ∀ q ∈ LN p H (cT p), At t L q
 elen : ∀ q ∈ LN p H (cT p), q.2.length ≤ 5000
 count : (LN p H (cT p)).length ≤ 60
 nn : ((LN p H (cT p)).map (·.1)).Nodup
 dn : ((HN p H (cT p)).map (·.1)).Nodup
 node : ∀ n : Int, 0 ≤ n → n < p.Nodes.length → ∃ e, (n, e) ∈ LN p H (cT p)
 head : ∀ d : Int, 0 ≤ d → d < p.Defs.length → ∃ n, (d, n) ∈ HN p H (cT p) ∧ idx t.heads d = some n ∧ idx L.Heads d = some n
theorem sees (hp : SmP p) {s : VS} (h : eY p = some s) : ∃ t L, qG F p = some t ∧ tN F p = some L ∧ cI p t L p.Nodes.length := by
 obtain ⟨H, h1, h2, h3, h4, hT, hl, hn, hd, hz, hall, hdef⟩ := aAU h
 obtain ⟨t, t1, t2⟩ := read_eq hp h h1
 obtain ⟨L, l1, l2⟩ := see_eq hp h h1
 subst h1
 refine ⟨t, L, t1, l1, h2, hT, h3, t2.prog, l2.prog, by rw [t2.sizes, l2.sizes], fun q hq => by rw [l2.sizes]; exact hz q hq, fun q hq => ⟨t2.on q hq, l2.on q hq⟩, fun q hq => by have := zM _ (cT p) hT q hq; have b : (cT p).2.length ≤ 12 := (by simp [cT]; omega); omega, ?_, hn, hd, hall, fun d h0 hlt => ?_⟩
 ·have := aE7 p.Nodes.length _ hn (fun i hi => by
   obtain ⟨q, hq, rfl⟩ := List.mem_map.1 hi
   have := fJ (hz q hq)
   rw [hl] at this
   exact this)
  rw [List.length_map] at this
  omega
 ·obtain ⟨n, hn⟩ := hdef d h0 hlt
  exact ⟨n, hn, t2.hd _ hn, l2.hd _ hn⟩
variable {t : Usage_text} {L : Ref05_Look} {H : Nat} {tab : List UsageDef}
theorem cI.env (S : cI p t L H) : ∀ q ∈ LN p H (cT p), iE p q.2 := ln_env S.tr env_root
theorem cI.sub (S : cI p t L H) {q : Int × E} (hq : q ∈ LN p H (cT p)) : ∃ h, h ≤ H ∧ Tr p h q ∧ (LN p h q).length ≤ (LN p H (cT p)).length ∧ ∀ b ∈ LN p h q, b ∈ LN p H (cT p) := ln_sub H (cT p) S.tr q hq
theorem cI.tr60 (S : cI p t L H) {q : Int × E} (hq : q ∈ LN p H (cT p)) : Tr p 60 q := by
 obtain ⟨h, h1, h2, _⟩ := S.sub hq
 exact h2.up _ _ _ (by have := S.low; omega)
theorem cI.subs (S : cI p t L H) {n : Int} {e : E} {x : ScopeNode} (hq : (n, e) ∈ LN p H (cT p)) (hx : idx p.Nodes n = some x) : okT p x e.length ∧ ∀ k ∈ subs p x e, k ∈ LN p H (cT p) := by
 obtain ⟨h, h1, h2, _, h3⟩ := S.sub hq
 obtain _ | h := h
 ·exact h2.elim
 obtain ⟨x', hx', h0, hT, hK⟩ := h2
 dsimp only at hx' hT hK
 rw [hx] at hx'; cases hx'
 refine ⟨hT, fun k hk => h3 k ?_⟩
 obtain _ | h := h
 ·exact (hK k hk).elim
 have e1 : LN p (h + 1 + 1) (n, e) = (n, e) :: (Go.Proofs.YtmnbfgeljmhekaaGreat.subs p x e).flatMap (LN p (h + 1)) := by rw [LN, hx]
 rw [e1]
 refine List.mem_cons_of_mem _ (List.mem_flatMap.2 ⟨k, hk, ?_⟩)
 obtain ⟨y, hy, _⟩ := hK k hk
 rw [LN]; exact List.mem_cons_self ..
theorem cI.sends (S : cI p t L H) (hk : dA p tab) {q : Int × E} (hq : q ∈ LN p H (cT p)) (v : Int) {f f' : Nat} (hf : 1000 ≤ f) (hf' : 1000 ≤ f') : rX t L tab v f f' q.1 (snd p tab q v) := by
 obtain ⟨h, h1, h2, _, h3⟩ := S.sub hq
 have lo := S.low
 have := aC4 S.prog S.rprog hk (v := v) h f f' q (by omega) (by omega) h2 (S.env q hq) (fun b hb => S.at_ b (h3 b hb))
 rwa [show snd p tab q v = fY p tab v h q from snd_h h 60 q (by omega) h2]
theorem hn_ln : ∀ (h : Nat) (q : Int × E), Tr p h q → ∀ b ∈ HN p h q, ∃ e x, (b.2, e) ∈ LN p h q ∧ idx p.Nodes b.2 = some x ∧ x.Op = 4 ∧ x.N = b.1
 | 0, q, hT, _, _ => hT.elim
 | h + 1, (n, e), ⟨x, hx, h0, hT, hK⟩, b, hb => by
  dsimp only at hx hT hK
  simp only [HN, hx] at hb
  rcases List.mem_append.1 hb with hb | hb
  ·split at hb
   ·rename_i h4
    cases List.mem_singleton.1 hb
    exact ⟨e, x, by rw [LN]; exact List.mem_cons_self .., hx, h4, rfl⟩
   ·cases hb
  ·obtain ⟨k, hk, hb⟩ := List.mem_flatMap.1 hb
   obtain ⟨e', x', a1, a2⟩ := hn_ln h k (hK k hk) b hb
   exact ⟨e', x', by simp only [LN, hx]; exact List.mem_cons_of_mem _ (List.mem_flatMap.2 ⟨k, hk, a1⟩), a2⟩
structure eE (p : ScopeProg) (H : Nat) (d n : Int) (e : E) (x : ScopeNode) (D : ScopeDef) : Prop where
 ln : (n, e) ∈ LN p H (cT p)
 hn : (d, n) ∈ HN p H (cT p)
 hx : idx p.Nodes n = some x
 op : x.Op = 4
 hN : x.N = d
 hD : idx p.Defs d = some D
 ok : okD D = true
 kid : x.Kids.length = 1
theorem cI.headOf (S : cI p t L H) {d : Int} (h0 : 0 ≤ d) (h1 : d < p.Defs.length) : ∃ n e x D, eE p H d n e x D ∧ idx t.heads d = some n ∧ idx L.Heads d = some n := by
 obtain ⟨n, a, b, c⟩ := S.head d h0 h1
 obtain ⟨e, x, b1, b2, b3, b4⟩ := hn_ln H (cT p) S.tr _ a
 dsimp only at b1 b2 b4
 obtain ⟨hT, _⟩ := S.subs b1 b2
 obtain ⟨_, h1, D, hD, ho⟩ := qS hT b3
 exact ⟨n, e, x, D, ⟨b1, a, b2, b3, b4, by rw [← b4]; exact hD, ho, h1⟩, b, c⟩
theorem eE.uniq (S : cI p t L H) {d n n' : Int} {e e' : E} {x x' : ScopeNode} {D D' : ScopeDef} (h : eE p H d n e x D) (k : eE p H d n' e' x' D') : n = n' ∧ e = e' ∧ x = x' ∧ D = D' := by
 have a : n = n' := by
  have := aD0 S.dn h.hn k.hn
  exact congrArg Prod.snd this
 subst a
 have b : e = e' := congrArg Prod.snd (aD0 S.nn h.ln k.ln)
 have c := h.hx; rw [k.hx] at c
 have d := h.hD; rw [k.hD] at d
 exact ⟨rfl, b, (Option.some.inj c).symm, (Option.some.inj d).symm⟩
theorem cI.inner (S : cI p t L H) (hk : dA p tab) {d n : Int} {e : E} {x : ScopeNode} {D : ScopeDef} (h : eE p H d n e x D) (v : Int) : ∃ r, (two r ∧ r = iL tab x D e fun k => snd p tab k v) ∧ pO F t tab n v = some r ∧ pZ F L tab n v = some r := by
 obtain ⟨hT, hs⟩ := S.subs h.ln h.hx
 exact aFp S.prog S.rprog hk (v := v) (f := 3999999) (f' := 3999999) (n := n) (e := e) (by omega) (by omega) h.hx hT h.op (sv := fun k => snd p tab k v) (fun q hq => S.sends hk (hs q hq) v (by omega) (by omega)) (by rw [h.hN]; exact h.hD)
theorem cI.begun (S : cI p t L H) {d n : Int} {e : E} {x : ScopeNode} {D : ScopeDef} (h : eE p H d n e x D) {v : Int} (hv : 0 ≤ v ∧ v < (inE e d D).length) : ∃ r, ((0 ≤ r ∧ r ≤ 1000) ∧ r = begM x D e fun k => sur p k v) ∧ lR F t n v = some r ∧ nK F L n v = some r := by
 obtain ⟨hT, hs⟩ := S.subs h.ln h.hx
 have hD : idx p.Defs x.N = some D := by rw [h.hN]; exact h.hD
 have lo := S.low
 have co := S.count
 obtain ⟨g, g1, g2, g3, g4⟩ := S.sub h.ln
 obtain _ | g := g
 ·exact g2.elim
 obtain ⟨x', hx', _, _, hK⟩ := g2
 dsimp only at hx' hK
 rw [h.hx] at hx'; cases hx'
 have e1 : LN p (g + 1) (n, e) = (n, e) :: (Go.Proofs.YtmnbfgeljmhekaaGreat.subs p x e).flatMap (LN p g) := by rw [LN, h.hx]
 have kid : ∀ q ∈ Go.Proofs.YtmnbfgeljmhekaaGreat.subs p x e, tS p g t L v 3999999 3999999 q := fun q hq => by
  refine aCR S.prog S.rprog (v := v) g 3999999 3999999 q (by omega) (by omega) (hK q hq) (S.env q (hs q hq)) ?_ ?_ (fun b hb => S.at_ b (g4 b (by rw [e1]; exact List.mem_cons_of_mem _ (List.mem_flatMap.2 ⟨q, hq, hb⟩))))
  ·rw [Go.Proofs.YtmnbfgeljmhekaaGreat.subs, if_pos h.op, hD, h.hN] at hq
   dsimp only at hq
   rcases List.mem_append.1 hq with hq | hq
   ·obtain ⟨r, hr, rfl⟩ := List.mem_map.1 hq
    refine ⟨hv.1, ?_⟩
    show v < ((inE e d D ++ List.replicate (brs D.Chans r.Joins).toNat none).length : Int)
    rw [List.length_append]; omega
   ·rcases List.mem_append.1 hq with hq | hq
    ·obtain ⟨r, hr, rfl⟩ := List.mem_map.1 hq; exact hv
    ·obtain ⟨r, hr, rfl⟩ := List.mem_map.1 hq; exact hv
  ·have := zP (f := LN p g) hq
   rw [e1, List.length_cons] at g3
   omega
 obtain ⟨r, ⟨⟨a1, a2⟩, a3⟩, b⟩ := aCn S.prog S.rprog (h := g) (v := v) (f := 3999999) (f' := 3999999) (by omega) (by omega) h.hx hT h.op (by omega) kid hD
 refine ⟨r, ⟨⟨a1, by omega⟩, ?_⟩, b⟩
 rw [a3]
 exact aE0 h.op hD h.kid fun k hk => (sur_h g 60 k (by omega) (hK k hk)).symm
end Go.Proofs.YtmnbfgeljmhekaaGreat
set_option maxRecDepth 100000
namespace Go.Proofs.YtmnbfgeljmhekaaGreat
open Go.SX Go.SW Go.Dt
theorem gO {S R : Type} (L : Nat → S → Option R) (n : Nat) (st : Nat → S) (r : Option R) (step : ∀ k i, i < n → L (k + 1) (st i) = L k (st (i + 1))) (stop : ∀ k, L (k + 1) (st n) = r) {K : Nat} (hK : n < K) : L K (st 0) = r := by
 have : ∀ (j i K : Nat), i + j = n → j < K → L K (st i) = r := fun j => by
  induction j with
  | zero =>
   intro i K hi hK
   obtain _ | K := K
   ·omega
   obtain rfl : i = n := by omega
   exact stop K
  | succ j ih =>
   intro i K hi hK
   obtain _ | K := K
   ·omega
   rw [step K i (by omega)]
   exact ih (i + 1) K (by omega) (by omega)
 exact this n 0 K (by omega) hK
theorem vT {α : Type} {n i : Nat} {f : Nat → α} {a : α} : ((List.range n).map f).set i a = (List.range n).map fun c => if c = i then a else f c := by
 apply List.ext_getElem?
 intro j
 rw [List.getElem?_set]
 by_cases hj : j < n
 ·simp only [List.getElem?_map, List.getElem?_range hj, List.length_map, List.length_range]
  by_cases h : i = j
  ·subst h; simp [hj]
  ·rw [if_neg h]; simp [show ¬ j = i from fun q => h q.symm]
 ·simp only [List.getElem?_map, List.length_map, List.length_range]
  rw [List.getElem?_eq_none (by simp; omega)]
  by_cases h : i = j
  ·rw [if_pos h, if_neg (by omega)]; rfl
  ·rw [if_neg h]; rfl
theorem rF {α : Type} {f : Nat → α} {i : Nat} : (List.range i).map f ++ [f i] = (List.range (i + 1)).map f := by rw [List.range_succ, List.map_append]; rfl
theorem kA {α : Type} {f : Nat → α} {n i : Nat} (h : i < n) : idx ((List.range n).map f) (i : Int) = some (f i) := cZ (by simp [h])
def eJ (a : Int) : Int := if a = 0 then 1 else if a = 1 then 3 else 4
theorem aBd (a : Int) : qT a = some (eJ a) := by unfold qT eJ; split; rfl; split <;> rfl
theorem aBM (a : Int) : sE a = some (eJ a) := by unfold sE eJ; split; rfl; split <;> rfl
def mny (D : ScopeDef) (j : Int) : Int := (idx D.Chans j).elim 0 (·.Many)
def hP (sv : Int → Int) (D : ScopeDef) (c i : Int) : List Int → Int → Int → Int
 | [], _, w => w
 | j :: l, at_, w => hP sv D c i l (at_ + mny D j) (if j = c then max w (sv (at_ + i)) else w)
def gL (ru : List Int) (base : Int) (sv : ScopeRule → Int → Int) (D : ScopeDef) (c i : Int) : List ScopeRule → Int → Int → Int
 | [], _, w => w
 | r :: l, k, w => gL ru base sv D c i l (k + 1) (if kc ru k = 0 then w else hP (sv r) D c i r.Joins base w)
def minJ (ch : List Int) (js : List Int) : Int := js.foldl (fun w j => min w (kc ch j)) 2
def eZ (p : ScopeProg) (tab : List UsageDef) (d : Int) (x : ScopeNode) (D : ScopeDef) (e : E) : UsageDef :=
 ⟨(List.range D.Chans.length).map fun c : Nat => eJ (iL tab x D e fun k => snd p tab k ((e.length : Int) + (c : Int))),
  D.Rules.map fun r => eJ (minJ (gA tab d) r.Joins),
  (List.range D.Chans.length).map fun c : Nat => (List.range (mny D (c : Int)).toNat).map fun i : Nat => eJ (gL (eR tab d) ((e.length : Int) + (D.Chans.length : Int) + (D.Spots.length : Int)) (fun r v => snd p tab (r.Node, ruE e d D r) v) D (c : Int) (i : Int) D.Rules 0 0)⟩
abbrev gM (D : ScopeDef) (f : Nat → Nat → Int) : List (List Int) := (List.range D.Chans.length).map fun c : Nat => (List.range (mny D (c : Int)).toNat).map fun i : Nat => f c i
theorem pF {D : ScopeDef} {j : Int} {y : ScopeChan} (h : idx D.Chans j = some y) : mny D j = y.Many := by unfold mny; rw [h]; rfl
section
variable {p : ScopeProg} {t : Usage_text} {L : Ref05_Look} {H : Nat} {tab : List UsageDef} {d n : Int} {e : E} {x : ScopeNode} {D : ScopeDef}
theorem aBg (S : cI p t L H) (h : eE p H d n e x D) (ht : idx t.heads d = some n) {c : Int} (hc : 0 ≤ c ∧ c ≤ 1000) : rC t d c = some ((e.length : Int) + c) := by
 have := S.elen _ h.ln
 dsimp only at this
 rw [rC, ht, bsm, S.sizes, S.size _ h.ln, bsm, aV (by dsimp only; omega), bsm]
theorem aC3 (S : cI p t L H) (h : eE p H d n e x D) (ht : idx L.Heads d = some n) {c : Int} (hc : 0 ≤ c ∧ c ≤ 1000) : vA L d c = some ((e.length : Int) + c) := by
 have := S.elen _ h.ln
 dsimp only at this
 rw [vA, ht, bsm, S.size _ h.ln, bsm, aV (by dsimp only; omega), bsm]
theorem qF {c : Nat} (hc : c < D.Chans.length) : ∃ y, idx D.Chans (c : Int) = some y := dH (by omega) (by omega)
theorem asks1 (S : cI p t L H) (hk : dA p tab) (h : eE p H d n e x D) (ht : idx t.heads d = some n) :
  nJ F t tab d D F (List.replicate D.Chans.length []) 0 [] = some (gM D fun _ _ => 0, (eZ p tab d x D e).Chans) := by
 have ho := dV h.ok
 have e0 : List.replicate D.Chans.length ([] : List Int) = (List.range D.Chans.length).map fun c : Nat => if c < 0 then (List.range (mny D (c : Int)).toNat).map (fun _ => (0 : Int)) else [] := by
  apply List.ext_getElem? ; intro j
  by_cases hj : j < D.Chans.length <;> simp [hj]
 rw [e0]
 refine gO (fun k (s : List (List Int) × Int × List Int) => nJ F t tab d D k s.1 s.2.1 s.2.2) D.Chans.length
  (fun i => ((List.range D.Chans.length).map fun c : Nat => if c < i then (List.range (mny D (c : Int)).toNat).map (fun _ => (0 : Int)) else [], (i : Int), (List.range i).map fun c : Nat => eJ (iL tab x D e fun k => snd p tab k ((e.length : Int) + (c : Int))))) _ (fun k i hi => ?_) (fun k => ?_) (by show _ < 4000000; omega)
 ·dsimp only
  obtain ⟨y, hy⟩ := qF hi
  obtain ⟨r, ⟨r1, rfl⟩, r2, _⟩ := S.inner hk h ((e.length : Int) + (i : Int))
  have hm := ho.2.2.2.1 y (eD hy)
  have hl : (List.range i).length = i := List.length_range
  rw [nJ, if_pos (show (i : Int) < (D.Chans.length : Int) from by omega), hy, bsm, ht, bsm, aBg S h ht (by omega), bsm, r2, bsm, aBd, bsm, fI (by simp; omega), bsm,
   show y.Many = ((y.Many.toNat : Nat) : Int) from by omega, mk_ok (by omega), bsm, kA hi, bsm, aV (by omega), bsm, Int.toNat_natCast, vT]
  congr 1
  ·apply List.map_congr_left
   intro c hc
   by_cases q : c = i
   ·subst q
    rw [if_pos rfl, if_pos (by omega), pF hy]
    apply List.ext_getElem?; intro j
    by_cases hj : j < y.Many.toNat <;> simp [hj]
   ·rw [if_neg q]
    by_cases q2 : c < i
    ·rw [if_pos q2, if_pos (by omega)]
    ·rw [if_neg q2, if_neg (by omega)]
  ·exact rF
 ·dsimp only
  rw [nJ, if_neg (by omega)]
  congr 2
  apply List.map_congr_left
  intro c hc
  rw [if_pos (List.mem_range.1 hc)]
theorem asks3 {X : UsageDef} (hX : idx tab d = some X) {r : ScopeRule} (hJ : r.Joins.length ≤ 3) (suf : List Int) : ∀ (pre : List Int) (k : Nat) (w : Int), r.Joins = pre ++ suf → suf.length < k → (∀ j ∈ suf, ∃ y, idx X.Chans j = some y) → nG tab d r k w pre.length = some (suf.foldl (fun w j => min w (kc X.Chans j)) w) := by
 induction suf with
 | nil =>
  intro pre k w hx hk _
  obtain _ | k := k
  ·omega
  rw [nG, if_neg (show ¬ (pre.length : Int) < (r.Joins.length : Int) from by rw [hx]; simp)]; rfl
 | cons j suf ih =>
  intro pre k w hx hk hj
  obtain _ | k := k
  ·omega
  obtain ⟨y, hy⟩ := hj j (List.mem_cons_self ..)
  have hl := congrArg List.length hx
  rw [List.length_append, List.length_cons] at hl
  simp only [List.length_cons] at hk
  rw [nG, if_pos (show (pre.length : Int) < (r.Joins.length : Int) from by rw [hx]; exact cJ pre suf j), show idx r.Joins (pre.length : Int) = some j from by rw [hx]; exact cL pre suf j, bsm, hX, bsm, hy, bsm, of_p, bsm, aV (by omega), bsm, bZ pre j,
   ih (pre ++ [j]) k _ (by rw [hx]; exact cN pre suf j) (by omega) (fun z hz => hj z (List.mem_cons_of_mem _ hz)), List.foldl_cons, show kc X.Chans j = cnt y from by unfold kc; rw [hy]; rfl]
theorem asks5 {r : ScopeRule} {sv : Int → Int} {j : Int} {m : Nat} {f : Nat → Int} {M : List (List Int)} {row : List Int} {at_ : Int} (hm : m ≤ 3) (hat : 0 ≤ at_ ∧ at_ ≤ 100000) (hM : ∃ z, idx M j = some z) (hrow : row.length = m) (hs : ∀ v, fG F t tab r.Node v = some (sv v)) :
  mE F t tab r M j row F at_ 0 ((List.range m).map f) = some (M.set j.toNat ((List.range m).map fun i : Nat => max (f i) (sv (at_ + (i : Int)))), at_ + (m : Int)) := by
 obtain ⟨z, hz⟩ := hM
 have e0 : (List.range m).map f = (List.range m).map fun c : Nat => if c < 0 then max (f c) (sv (at_ + (c : Int))) else f c := List.map_congr_left fun c _ => by rw [if_neg (by omega)]
 have e1 : at_ = at_ + ((0 : Nat) : Int) := by omega
 rw [e0]
 conv => lhs; rw [e1]
 refine gO (fun k (s : Int × Int × List Int) => mE F t tab r M j row k s.1 s.2.1 s.2.2) m
  (fun i => (at_ + (i : Int), (i : Int), (List.range m).map fun c : Nat => if c < i then max (f c) (sv (at_ + (c : Int))) else f c)) _ (fun k i hi => ?_) (fun k => ?_) (by show _ < 4000000; omega)
 ·dsimp only
  rw [mE, if_pos (by omega), hz, bsm, bsm, kA hi, bsm, hs, bsm, if_neg (show ¬ i < i from by omega), show oU (f i) (sv (at_ + (i : Int))) = some (max (f i) (sv (at_ + (i : Int)))) from by unfold oU; split <;> (congr 1; omega), bsm, bsm, aV (by omega), bsm, aV (by omega), bsm, Int.toNat_natCast, vT]
  congr 1
  ·omega
  ·apply List.map_congr_left
   intro c hc
   by_cases q : c = i
   ·subst q; rw [if_pos rfl, if_pos (by omega)]
   ·rw [if_neg q]
    by_cases q2 : c < i
    ·rw [if_pos q2, if_pos (by omega)]
    ·rw [if_neg q2, if_neg (by omega)]
 ·dsimp only
  rw [mE, if_neg (by omega)]
  congr 3
  apply List.map_congr_left
  intro c hc
  rw [if_pos (List.mem_range.1 hc)]
end
end Go.Proofs.YtmnbfgeljmhekaaGreat
set_option maxRecDepth 100000
namespace Go.Proofs.YtmnbfgeljmhekaaGreat
open Go.SX Go.SW Go.Dt
section
variable {p : ScopeProg} {t : Usage_text} {L : Ref05_Look} {H : Nat} {tab : List UsageDef} {d n : Int} {e : E} {x : ScopeNode} {D : ScopeDef}
theorem asks4 {r : ScopeRule} {sv : Int → Int} {acc : List Int} (hJ : r.Joins.length ≤ 3) (hs : ∀ v, fG F t tab r.Node v = some (sv v)) (suf : List Int) : ∀ (pre : List Int) (k : Nat) (f : Nat → Nat → Int) (at_ : Int), r.Joins = pre ++ suf → suf.length < k → 0 ≤ at_ → at_ + 3 * suf.length ≤ 90000 → (∀ j ∈ suf, ∃ y, idx D.Chans j = some y ∧ 0 ≤ y.Many ∧ y.Many ≤ 3) →
  nB F t tab r acc k (gM D f) at_ pre.length = some (gM D fun c i => hP sv D (c : Int) (i : Int) suf at_ (f c i), acc) := by
 induction suf with
 | nil =>
  intro pre k f at_ hx hk _ _ _
  obtain _ | k := k
  ·omega
  rw [nB, if_neg (show ¬ (pre.length : Int) < (r.Joins.length : Int) from by rw [hx]; simp)]; rfl
 | cons j suf ih =>
  intro pre k f at_ hx hk h0 h1 hj
  obtain _ | k := k
  ·omega
  obtain ⟨y, hy, y0, y3⟩ := hj j (List.mem_cons_self ..)
  have hl := congrArg List.length hx
  rw [List.length_append, List.length_cons] at hl
  simp only [List.length_cons] at hk h1
  have jl := fJ hy
  obtain ⟨c, rfl⟩ : ∃ c : Nat, j = (c : Int) := ⟨j.toNat, by omega⟩
  have hr : idx (gM D f) (c : Int) = some ((List.range (mny D (c : Int)).toNat).map fun i : Nat => f c i) := kA (by omega)
  have hm := pF hy
  rw [nB, if_pos (show (pre.length : Int) < (r.Joins.length : Int) from by rw [hx]; exact cJ pre suf _), show idx r.Joins (pre.length : Int) = some (c : Int) from by rw [hx]; exact cL pre suf _, bsm, hr, bsm,
   asks5 (sv := sv) (m := (mny D (c : Int)).toNat) (f := fun i => f c i) (by omega) (by omega) ⟨_, hr⟩ (by simp) hs, bsm]
  dsimp only
  rw [aV (by omega), bsm, bZ pre (c : Int), Int.toNat_natCast]
  have hset : (gM D f).set c ((List.range (mny D (c : Int)).toNat).map fun i : Nat => max (f c i) (sv (at_ + (i : Int)))) = gM D fun c' i => if (c : Int) = (c' : Int) then max (f c' i) (sv (at_ + (i : Int))) else f c' i := by
   unfold gM
   rw [vT]
   apply List.map_congr_left
   intro c' hc'
   by_cases q : c' = c
   ·subst q
    rw [if_pos rfl]
    apply List.map_congr_left
    intro i _
    exact (if_pos rfl).symm
   ·rw [if_neg q]
    apply List.map_congr_left
    intro i _
    exact (if_neg (by omega)).symm
  rw [hset, ih (pre ++ [(c : Int)]) k _ _ (by rw [hx]; exact cN pre suf _) (by omega) (by omega) (by omega) (fun z hz => hj z (List.mem_cons_of_mem _ hz))]
  rw [show (((mny D (c : Int)).toNat : Nat) : Int) = mny D (c : Int) from by omega]
  rfl
theorem asks2 (S : cI p t L H) (h : eE p H d n e x D) (hk : dA p tab) (ht : idx t.heads d = some n) (suf : List ScopeRule) : ∀ (pre : List ScopeRule) (k : Nat) (f : Nat → Nat → Int) (acc : List Int), D.Rules = pre ++ suf → suf.length < k → acc.length = pre.length →
  lV F t tab d D k (gM D f) pre.length acc = some (gM D fun c i => gL (eR tab d) ((e.length : Int) + (D.Chans.length : Int) + (D.Spots.length : Int)) (fun r v => snd p tab (r.Node, ruE e d D r) v) D (c : Int) (i : Int) suf pre.length (f c i), acc ++ suf.map fun r => eJ (minJ (gA tab d) r.Joins)) := by
 obtain ⟨X, hX, ok1⟩ := qB hk h.hD
 have ho := dV h.ok
 have e1 : gA tab d = X.Chans := by unfold gA; rw [hX]; rfl
 have e2 : eR tab d = X.Rules := by unfold eR; rw [hX]; rfl
 have el := S.elen _ h.ln
 dsimp only at el
 induction suf with
 | nil =>
  intro pre k f acc hx hk _
  obtain _ | k := k
  ·omega
  rw [lV, if_neg (show ¬ (pre.length : Int) < (D.Rules.length : Int) from by rw [hx]; simp), List.map_nil, List.append_nil]; rfl
 | cons r suf ih =>
  intro pre k f acc hx hkk ha
  obtain _ | k := k
  ·omega
  have hl := congrArg List.length hx
  rw [List.length_append, List.length_cons] at hl
  simp only [List.length_cons] at hkk
  have hr : r ∈ D.Rules := by rw [hx]; exact List.mem_append_right _ (List.mem_cons_self ..)
  obtain ⟨j1, j2⟩ := ho.2.2.2.2 r hr
  obtain ⟨z, hz⟩ := dH (xs := X.Rules) (i := (pre.length : Int)) (by omega) (by rw [ok1.rules]; omega)
  have kz : kc (eR tab d) (pre.length : Int) = cnt z := by unfold kc; rw [e2, hz]; rfl
  have hm : (r.Node, ruE e d D r) ∈ LN p H (cT p) := by
   have := (S.subs h.ln h.hx).2 _ (aAp (e := e) h.op (by rw [h.hN]; exact h.hD) hr)
   rwa [h.hN] at this
  have hs : ∀ v, fG F t tab r.Node v = some (snd p tab (r.Node, ruE e d D r) v) := fun v => by
   obtain ⟨q, ⟨q1, rfl⟩, q2, _⟩ := S.sends hk hm v (f := F) (f' := F) (by show _ ≤ 4000000; omega) (by show _ ≤ 4000000; omega)
   exact q2
  have next : ∀ g : Nat → Nat → Int, lV F t tab d D k (gM D g) ((pre.length : Int) + 1) (acc ++ [eJ (minJ (gA tab d) r.Joins)]) = some (gM D fun c i => gL (eR tab d) ((e.length : Int) + (D.Chans.length : Int) + (D.Spots.length : Int)) (fun r v => snd p tab (r.Node, ruE e d D r) v) D (c : Int) (i : Int) suf ((pre.length : Int) + 1) (g c i), acc ++ (r :: suf).map fun r => eJ (minJ (gA tab d) r.Joins)) := fun g => by
   rw [bZ pre r, ih (pre ++ [r]) k g _ (by rw [hx]; exact cN pre suf r) (by omega) (by simp [ha]), List.map_cons, List.append_assoc, List.singleton_append]
  rw [lV, if_pos (show (pre.length : Int) < (D.Rules.length : Int) from by rw [hx]; exact cJ pre suf r), show idx D.Rules (pre.length : Int) = some r from by rw [hx]; exact cL pre suf r, bsm,
   show nG tab d r F 2 0 = _ from asks3 hX j1 r.Joins [] F 2 rfl (by show _ < 4000000; omega) (fun j hj => by obtain ⟨y, hy, _⟩ := j2 j hj; have := fJ hy; exact dH this.1 (by rw [ok1.chans]; exact this.2)), bsm, aBd, bsm,
   show r.Joins.foldl (fun w j => min w (kc X.Chans j)) 2 = minJ (gA tab d) r.Joins from by rw [e1]; rfl, fI (by simp; omega), bsm, hX, bsm, hz, bsm, of_p, bsm]
  by_cases c0 : cnt z = 0
  ·rw [if_pos c0, bsm]
   dsimp only
   rw [aV (by omega), bsm, next f]
   simp only [gL, kz, c0, if_true]
  ·rw [if_neg c0, aBg S h ht (by omega), bsm, aV (by omega), bsm, show nB F t tab r _ F (gM D f) _ 0 = _ from asks4 (D := D) j1 hs r.Joins [] F f _ rfl (by show _ < 4000000; omega) (by omega) (by omega) j2, bsm]
   dsimp only
   rw [aV (by omega), bsm, next]
   simp only [gL, kz, c0, if_false]
theorem asks7 {m : Nat} {f : Nat → Int} (hm : m ≤ 100) : nH ((List.range m).map f) F [] 0 = some ((List.range m).map fun i => eJ (f i)) := by
 refine gO (fun k (s : List Int × Int) => nH ((List.range m).map f) k s.1 s.2) m (fun i => ((List.range i).map fun i => eJ (f i), (i : Int))) _ (fun k i hi => ?_) (fun k => ?_) (by show _ < 4000000; omega)
 ·dsimp only
  rw [nH, if_pos (by simp; omega), kA hi, bsm, aBd, bsm, fI (by simp; omega), bsm, aV (by omega), bsm]
  congr 1
  exact rF (f := fun i => eJ (f i))
 ·dsimp only
  rw [nH, if_neg (by simp)]
theorem asks6 {f : Nat → Nat → Int} (hn : D.Chans.length ≤ 30) (hm : ∀ c ∈ D.Chans, 0 ≤ c.Many ∧ c.Many ≤ 3) : oB F (gM D f) F (gM D f) 0 [] = some (gM D fun c i => eJ (f c i)) := by
 refine gO (fun k (s : List (List Int) × Int × List (List Int)) => oB F (gM D f) k s.1 s.2.1 s.2.2) D.Chans.length (fun i => (gM D f, (i : Int), (List.range i).map fun c : Nat => (List.range (mny D (c : Int)).toNat).map fun i : Nat => eJ (f c i))) _ (fun k i hi => ?_) (fun k => ?_) (by show _ < 4000000; omega)
 ·dsimp only
  obtain ⟨y, hy⟩ := qF hi
  have := hm y (eD hy)
  rw [oB, if_pos (by simp; omega), kA hi, bsm, asks7 (by rw [pF hy]; omega), bsm, fI (by simp; omega), bsm, bsm]
  dsimp only
  rw [aV (by omega), bsm, Int.toNat_natCast, vT]
  congr 1
  ·apply List.map_congr_left
   intro c _
   by_cases q : c = i
   ·rw [if_pos q, q]
   ·rw [if_neg q]
  ·exact rF (f := fun c : Nat => (List.range (mny D (c : Int)).toNat).map fun i : Nat => eJ (f c i))
 ·dsimp only
  rw [oB, if_neg (by simp)]
theorem asks_eq (S : cI p t L H) (hk : dA p tab) (h : eE p H d n e x D) (ht : idx t.heads d = some n) : uD F t tab d = some (eZ p tab d x D e) := by
 have ho := dV h.ok
 rw [uD, S.prog, h.hD, bsm, mk_ok (by omega), bsm, asks1 S hk h ht, bsm]
 dsimp only
 rw [show lV F t tab d D F (gM D fun _ _ => 0) 0 [] = _ from asks2 S h hk ht D.Rules [] F _ [] rfl (by show _ < 4000000; omega) rfl, bsm]
 dsimp only
 rw [asks6 (by omega) ho.2.2.2.1, bsm]
 rfl
end
end Go.Proofs.YtmnbfgeljmhekaaGreat
set_option maxRecDepth 100000
namespace Go.Proofs.YtmnbfgeljmhekaaGreat
open Go.SX Go.SW Go.Dt
section
variable {p : ScopeProg} {t : Usage_text} {L : Ref05_Look} {H : Nat} {tab : List UsageDef} {d n : Int} {e : E} {x : ScopeNode} {D : ScopeDef}
def gW (D : ScopeDef) : List Int → Int
 | [] => 0
 | j :: l => mny D j + gW D l
theorem aEU (D : ScopeDef) : ∀ (a b : List Int), gW D (a ++ b) = gW D a + gW D b
 | [], b => by simp [gW]
 | j :: a, b => by rw [List.cons_append, gW, gW, aEU D a b]; omega
theorem brought1 {r : ScopeRule} {k0 : Int} (hr : idx D.Rules k0 = some r) (pre suf : List Int) (hx : r.Joins = pre ++ suf) (hj : ∀ j ∈ r.Joins, ∃ y, idx D.Chans j = some y ∧ 0 ≤ y.Many ∧ y.Many ≤ 3) (mid : List Int) : ∀ (done : List Int) (k : Nat) (w : Int), pre = done ++ mid → mid.length < k → 0 ≤ w → w + 3 * mid.length ≤ 100000 → done.length + mid.length ≤ 1000 →
  mK k0 pre.length D k w done.length = some (w + gW D mid) := by
 induction mid with
 | nil =>
  intro done k w hp hk _ _ _
  obtain _ | k := k
  ·omega
  rw [mK, if_neg (show ¬ (done.length : Int) < (pre.length : Int) from by rw [hp]; simp), gW, Int.add_zero]
 | cons j mid ih =>
  intro done k w hp hk h0 h1 h2
  obtain _ | k := k
  ·omega
  have hi : idx r.Joins (done.length : Int) = some j := by rw [hx, hp, List.append_assoc]; exact cL _ _ _
  obtain ⟨y, hy, y0, y3⟩ := hj j (eD hi)
  simp only [List.length_cons] at hk h1 h2
  rw [mK, if_pos (show (done.length : Int) < (pre.length : Int) from by rw [hp]; exact cJ _ _ _), hr, bsm, hi, bsm, hy, bsm, aV (by omega), bsm, aV (by omega), bsm, bZ done j,
   ih (done ++ [j]) k _ (by rw [hp]; exact cN _ _ _) (by omega) (by omega) (by omega) (by simp; omega), gW, pF hy]
  congr 1; omega
theorem aHh (S : cI p t L H) (h : eE p H d n e x D) (hL : idx L.Heads d = some n) {r : ScopeRule} {k0 : Int} (hr : idx D.Rules k0 = some r) (pre suf : List Int) (hx : r.Joins = pre ++ suf) {i : Int} (hi : 0 ≤ i ∧ i ≤ 100) :
  wZ F L d k0 pre.length i = some ((e.length : Int) + (D.Chans.length : Int) + (D.Spots.length : Int) + gW D pre + i) := by
 have ho := dV h.ok
 have el := S.elen _ h.ln
 dsimp only at el
 obtain ⟨j1, j2⟩ := ho.2.2.2.2 r (eD hr)
 have hl := congrArg List.length hx
 rw [List.length_append] at hl
 rw [wZ, S.rprog, h.hD, bsm, hL, bsm, S.size _ h.ln, bsm]
 dsimp only
 rw [aV (by omega), bsm, aV (by omega), bsm, aV (by omega), bsm, show mK k0 pre.length D F _ 0 = _ from brought1 hr pre suf hx j2 pre [] F _ rfl (by show _ < 4000000; omega) (by omega) (by omega) (by simp; omega), bsm]
 congr 1; omega
theorem arg2 (S : cI p t L H) (h : eE p H d n e x D) (hk : dA p tab) (hL : idx L.Heads d = some n) {X : UsageDef} (hX : idx tab d = some X) {r : ScopeRule} {k0 : Int} (hr : idx D.Rules k0 = some r) {z : Int} (hz : idx X.Rules k0 = some z) {c i : Int} (hi : 0 ≤ i ∧ i ≤ 100) (hs : ∀ v, fA F L tab r.Node v = some (snd p tab (r.Node, ruE e d D r) v)) (suf : List Int) :
  ∀ (pre : List Int) (k : Nat) (w : Int), r.Joins = pre ++ suf → suf.length < k →
  lY F L tab d c i D k0 k w pre.length = some (if cnt z = 0 then w else hP (snd p tab (r.Node, ruE e d D r)) D c i suf ((e.length : Int) + (D.Chans.length : Int) + (D.Spots.length : Int) + gW D pre) w) := by
 have ho := dV h.ok
 obtain ⟨j1, j2⟩ := ho.2.2.2.2 r (eD hr)
 induction suf with
 | nil =>
  intro pre k w hx hkk
  obtain _ | k := k
  ·omega
  rw [lY, hr, bsm, if_neg (show ¬ (pre.length : Int) < (r.Joins.length : Int) from by rw [hx]; simp), hP]
  split <;> rfl
 | cons j suf ih =>
  intro pre k w hx hkk
  obtain _ | k := k
  ·omega
  have hl := congrArg List.length hx
  rw [List.length_append, List.length_cons] at hl
  simp only [List.length_cons] at hkk
  have hi' : idx r.Joins (pre.length : Int) = some j := by rw [hx]; exact cL _ _ _
  have next : ∀ w', lY F L tab d c i D k0 k w' ((pre.length : Int) + 1) = some (if cnt z = 0 then w' else hP (snd p tab (r.Node, ruE e d D r)) D c i suf ((e.length : Int) + (D.Chans.length : Int) + (D.Spots.length : Int) + gW D pre + mny D j) w') := fun w' => by
   rw [bZ pre j, ih (pre ++ [j]) k w' (by rw [hx]; exact cN _ _ _) (by omega), aEU, gW, gW, Int.add_zero, Int.add_assoc _ (gW D pre)]
  rw [lY, hr, bsm, if_pos (show (pre.length : Int) < (r.Joins.length : Int) from by rw [hx]; exact cJ _ _ _), bsm, hi', bsm, hP]
  by_cases hc : j = c
  ·rw [if_pos hc, if_pos hc, hX, bsm, hz, bsm, of_r, bsm]
   by_cases c0 : cnt z = 0
   ·rw [if_neg (show ¬ 0 < cnt z from by omega), bsm, aV (by omega), bsm, next, if_pos c0, if_pos c0]
   ·have := iA z
    rw [if_pos (show 0 < cnt z from by unfold two at this; omega), bsm, aHh S h hL hr pre (j :: suf) hx hi, bsm, hs, bsm, bsm, aV (by omega), bsm, next, if_neg c0, if_neg c0]
  ·rw [if_neg hc, if_neg hc, bsm, aV (by omega), bsm, next]
theorem arg1 (S : cI p t L H) (h : eE p H d n e x D) (hk : dA p tab) (hL : idx L.Heads d = some n) {c i : Int} (hi : 0 ≤ i ∧ i ≤ 100) (suf : List ScopeRule) : ∀ (pre : List ScopeRule) (k : Nat) (w : Int), D.Rules = pre ++ suf → suf.length < k →
  oC F L tab d c i D k w pre.length = some (gL (eR tab d) ((e.length : Int) + (D.Chans.length : Int) + (D.Spots.length : Int)) (fun r v => snd p tab (r.Node, ruE e d D r) v) D c i suf pre.length w) := by
 obtain ⟨X, hX, ok1⟩ := qB hk h.hD
 have ho := dV h.ok
 have e2 : eR tab d = X.Rules := by unfold eR; rw [hX]; rfl
 induction suf with
 | nil =>
  intro pre k w hx hkk
  obtain _ | k := k
  ·omega
  rw [oC, if_neg (show ¬ (pre.length : Int) < (D.Rules.length : Int) from by rw [hx]; simp)]; rfl
 | cons r suf ih =>
  intro pre k w hx hkk
  obtain _ | k := k
  ·omega
  have hl := congrArg List.length hx
  rw [List.length_append, List.length_cons] at hl
  simp only [List.length_cons] at hkk
  have hr' : idx D.Rules (pre.length : Int) = some r := by rw [hx]; exact cL _ _ _
  have hr := eD hr'
  obtain ⟨j1, j2⟩ := ho.2.2.2.2 r hr
  obtain ⟨z, hz⟩ := dH (xs := X.Rules) (i := (pre.length : Int)) (by omega) (by rw [ok1.rules]; omega)
  have kz : kc (eR tab d) (pre.length : Int) = cnt z := by unfold kc; rw [e2, hz]; rfl
  have hm : (r.Node, ruE e d D r) ∈ LN p H (cT p) := by
   have := (S.subs h.ln h.hx).2 _ (aAp (e := e) h.op (by rw [h.hN]; exact h.hD) hr)
   rwa [h.hN] at this
  have hs : ∀ v, fA F L tab r.Node v = some (snd p tab (r.Node, ruE e d D r) v) := fun v => by
   obtain ⟨q, ⟨q1, rfl⟩, _, q2⟩ := S.sends hk hm v (f := F) (f' := F) (by show _ ≤ 4000000; omega) (by show _ ≤ 4000000; omega)
   exact q2
  rw [oC, if_pos (show (pre.length : Int) < (D.Rules.length : Int) from by rw [hx]; exact cJ _ _ _), show lY F L tab d c i D (pre.length : Int) F w 0 = _ from arg2 S h hk hL hX hr' hz hi hs r.Joins [] F w rfl (by show _ < 4000000; omega), bsm, aV (by omega), bsm, bZ pre r,
   ih (pre ++ [r]) k _ (by rw [hx]; exact cN _ _ _) (by omega), gL, kz, gW, Int.add_zero, bZ pre r]
theorem least2 (S : cI p t L H) (h : eE p H d n e x D) (hk : dA p tab) (hL : idx L.Heads d = some n) {c : Nat} (hc : c < D.Chans.length) : nZ F L tab d D (c : Int) F [] 0 = some ((List.range (mny D (c : Int)).toNat).map fun i : Nat => eJ (gL (eR tab d) ((e.length : Int) + (D.Chans.length : Int) + (D.Spots.length : Int)) (fun r v => snd p tab (r.Node, ruE e d D r) v) D (c : Int) (i : Int) D.Rules 0 0)) := by
 have ho := dV h.ok
 obtain ⟨y, hy⟩ := qF hc
 have hm := ho.2.2.2.1 y (eD hy)
 have e1 := pF hy
 refine gO (fun k (s : List Int × Int) => nZ F L tab d D (c : Int) k s.1 s.2) (mny D (c : Int)).toNat (fun i => ((List.range i).map fun i : Nat => eJ (gL (eR tab d) ((e.length : Int) + (D.Chans.length : Int) + (D.Spots.length : Int)) (fun r v => snd p tab (r.Node, ruE e d D r) v) D (c : Int) (i : Int) D.Rules 0 0), (i : Int))) _ (fun k i hi => ?_) (fun k => ?_) (by show _ < 4000000; omega)
 ·dsimp only
  rw [nZ, hy, bsm, if_pos (by omega), aAj, S.rprog, h.hD, bsm, show oC F L tab d (c : Int) (i : Int) D F 0 0 = _ from arg1 S h hk hL (by omega) D.Rules [] F 0 rfl (by show _ < 4000000; omega), bsm, bsm, aBM, bsm, fI (by simp; omega), bsm, aV (by omega), bsm]
  congr 1
  exact rF (f := fun i : Nat => eJ (gL (eR tab d) ((e.length : Int) + (D.Chans.length : Int) + (D.Spots.length : Int)) (fun r v => snd p tab (r.Node, ruE e d D r) v) D (c : Int) (i : Int) D.Rules 0 0))
 ·dsimp only
  rw [nZ, hy, bsm, if_neg (by omega)]
theorem least1 (S : cI p t L H) (h : eE p H d n e x D) (hk : dA p tab) (hL : idx L.Heads d = some n) : mP F L tab d D F 0 [] [] = some ((eZ p tab d x D e).Chans, (eZ p tab d x D e).Args) := by
 have ho := dV h.ok
 refine gO (fun k (s : Int × List Int × List (List Int)) => mP F L tab d D k s.1 s.2.1 s.2.2) D.Chans.length (fun i => ((i : Int), (List.range i).map fun c : Nat => eJ (iL tab x D e fun k => snd p tab k ((e.length : Int) + (c : Int))),
  (List.range i).map fun c : Nat => (List.range (mny D (c : Int)).toNat).map fun i : Nat => eJ (gL (eR tab d) ((e.length : Int) + (D.Chans.length : Int) + (D.Spots.length : Int)) (fun r v => snd p tab (r.Node, ruE e d D r) v) D (c : Int) (i : Int) D.Rules 0 0))) _ (fun k i hi => ?_) (fun k => ?_) (by show _ < 4000000; omega)
 ·dsimp only
  obtain ⟨r, ⟨r1, rfl⟩, _, r2⟩ := S.inner hk h ((e.length : Int) + (i : Int))
  rw [mP, if_pos (by omega), hL, bsm, aC3 S h hL (by omega), bsm, r2, bsm, aBM, bsm, fI (by simp; omega), bsm, least2 S h hk hL hi, bsm, fI (by simp; omega), bsm, bsm]
  dsimp only
  rw [aV (by omega), bsm]
  congr 1
  ·exact rF (f := fun c : Nat => eJ (iL tab x D e fun k => snd p tab k ((e.length : Int) + (c : Int))))
  ·exact rF (f := fun c : Nat => (List.range (mny D (c : Int)).toNat).map fun i : Nat => eJ (gL (eR tab d) ((e.length : Int) + (D.Chans.length : Int) + (D.Spots.length : Int)) (fun r v => snd p tab (r.Node, ruE e d D r) v) D (c : Int) (i : Int) D.Rules 0 0))
 ·dsimp only
  rw [mP, if_neg (by omega)]; rfl
theorem least4 {X : UsageDef} (hX : idx tab d = some X) {r : ScopeRule} {k0 : Int} (hr : idx D.Rules k0 = some r) (hJ : r.Joins.length ≤ 3) (suf : List Int) : ∀ (pre : List Int) (k : Nat) (w : Int), r.Joins = pre ++ suf → suf.length < k → (∀ j ∈ suf, ∃ y, idx X.Chans j = some y) → mV tab d D k0 k w pre.length = some (suf.foldl (fun w j => min w (kc X.Chans j)) w) := by
 induction suf with
 | nil =>
  intro pre k w hx hk _
  obtain _ | k := k
  ·omega
  rw [mV, hr, bsm, if_neg (show ¬ (pre.length : Int) < (r.Joins.length : Int) from by rw [hx]; simp)]; rfl
 | cons j suf ih =>
  intro pre k w hx hk hj
  obtain _ | k := k
  ·omega
  obtain ⟨y, hy⟩ := hj j (List.mem_cons_self ..)
  have hl := congrArg List.length hx
  rw [List.length_append, List.length_cons] at hl
  simp only [List.length_cons] at hk
  rw [mV, hr, bsm, if_pos (show (pre.length : Int) < (r.Joins.length : Int) from by rw [hx]; exact cJ pre suf j), hX, bsm, bsm, show idx r.Joins (pre.length : Int) = some j from by rw [hx]; exact cL pre suf j, bsm, hy, bsm, of_r, bsm, aV (by omega), bsm, bZ pre j,
   ih (pre ++ [j]) k _ (by rw [hx]; exact cN pre suf j) (by omega) (fun z hz => hj z (List.mem_cons_of_mem _ hz)), List.foldl_cons, show kc X.Chans j = cnt y from by unfold kc; rw [hy]; rfl]
theorem least3 (h : eE p H d n e x D) (hk : dA p tab) (suf : List ScopeRule) : ∀ (pre : List ScopeRule) (k : Nat) (acc : List Int), D.Rules = pre ++ suf → suf.length < k → acc.length = pre.length → nS F tab d D k pre.length acc = some (acc ++ suf.map fun r => eJ (minJ (gA tab d) r.Joins)) := by
 obtain ⟨X, hX, ok1⟩ := qB hk h.hD
 have ho := dV h.ok
 have e1 : gA tab d = X.Chans := by unfold gA; rw [hX]; rfl
 induction suf with
 | nil =>
  intro pre k acc hx hkk _
  obtain _ | k := k
  ·omega
  rw [nS, if_neg (show ¬ (pre.length : Int) < (D.Rules.length : Int) from by rw [hx]; simp), List.map_nil, List.append_nil]
 | cons r suf ih =>
  intro pre k acc hx hkk ha
  obtain _ | k := k
  ·omega
  have hl := congrArg List.length hx
  rw [List.length_append, List.length_cons] at hl
  simp only [List.length_cons] at hkk
  have hr' : idx D.Rules (pre.length : Int) = some r := by rw [hx]; exact cL _ _ _
  obtain ⟨j1, j2⟩ := ho.2.2.2.2 r (eD hr')
  rw [nS, if_pos (show (pre.length : Int) < (D.Rules.length : Int) from by rw [hx]; exact cJ _ _ _), show mV tab d D (pre.length : Int) F 2 0 = _ from least4 hX hr' j1 r.Joins [] F 2 rfl (by show _ < 4000000; omega) (fun j hj => by obtain ⟨y, hy, _⟩ := j2 j hj; have := fJ hy; exact dH this.1 (by rw [ok1.chans]; exact this.2)), bsm, aBM, bsm,
   fI (by simp; omega), bsm, bsm, aV (by omega), bsm, bZ pre r, ih (pre ++ [r]) k _ (by rw [hx]; exact cN _ _ _) (by omega) (by simp [ha]), List.map_cons, List.append_assoc, List.singleton_append, e1]
  rfl
theorem least_eq (S : cI p t L H) (hk : dA p tab) (h : eE p H d n e x D) (hL : idx L.Heads d = some n) : uQ F L tab d = some (eZ p tab d x D e) := by
 have ho := dV h.ok
 rw [uQ, S.rprog, h.hD, bsm, least1 S h hk hL, bsm]
 dsimp only
 rw [show nS F tab d D F 0 [] = _ from least3 h hk D.Rules [] F [] rfl (by show _ < 4000000; omega) rfl, bsm, List.nil_append]
 rfl
noncomputable def eK (p : ScopeProg) (H : Nat) (tab : List UsageDef) : List UsageDef := (List.range p.Defs.length).map fun d : Nat => open Classical in if h : ∃ u : UsageDef, ∃ n e x D, eE p H (d : Int) n e x D ∧ u = eZ p tab (d : Int) x D e then h.choose else ⟨[], [], []⟩
theorem aAP (S : cI p t L H) {d : Nat} {n : Int} (hd : d < p.Defs.length) (h : eE p H (d : Int) n e x D) : idx (eK p H tab) (d : Int) = some (eZ p tab (d : Int) x D e) := by
 unfold eK
 rw [kA hd]
 congr 1
 have q : ∃ u : UsageDef, ∃ n e x D, eE p H (d : Int) n e x D ∧ u = eZ p tab (d : Int) x D e := ⟨_, n, e, x, D, h, rfl⟩
 rw [dif_pos q]
 obtain ⟨n', e', x', D', h', e1⟩ := q.choose_spec
 obtain ⟨_, rfl, rfl, rfl⟩ := h'.uniq S h
 exact e1
theorem rU : (eK p H tab).length = p.Defs.length := by simp [eK]
theorem all_eq' (S : cI p t L H) (hk : dA p tab) : rS F t tab = some (eK p H tab) ∧ wO F L tab = some (eK p H tab) := by
 have dl := S.defs
 have step : ∀ i : Nat, i < p.Defs.length → ∃ u, uD F t tab (i : Int) = some u ∧ uQ F L tab (i : Int) = some u ∧ idx (eK p H tab) (i : Int) = some u := fun i hi => by
  obtain ⟨n, e, x, D, h, a, b⟩ := S.headOf (d := (i : Int)) (by omega) (by omega)
  exact ⟨_, asks_eq S hk h a, least_eq S hk h b, aAP S hi h⟩
 have tk : ∀ i : Nat, i < p.Defs.length → ∀ u, idx (eK p H tab) (i : Int) = some u → (eK p H tab).take i ++ [u] = (eK p H tab).take (i + 1) := fun i hi u hu => by
  have := bW hu
  rw [Int.toNat_natCast] at this
  rw [List.take_add_one, this]; rfl
 have hlen : ∀ i : Nat, ((eK p H tab).take i).length ≤ 12 := fun i => by rw [List.length_take, rU]; omega
 constructor
 ·rw [rS, show nC F t tab F [] 0 = some (eK p H tab) from ?_, bsm]
  refine gO (fun k (s : List UsageDef × Int) => nC F t tab k s.1 s.2) p.Defs.length (fun i => ((eK p H tab).take i, (i : Int))) _ (fun k i hi => ?_) (fun k => ?_) (by show _ < 4000000; omega)
  ·dsimp only
   obtain ⟨u, u1, u2, u3⟩ := step i hi
   have := hlen i
   rw [nC, S.prog, if_pos (by omega), u1, bsm, fI (by simp; omega), bsm, aV (by omega), bsm]
   congr 1
   exact tk i hi u u3
  ·dsimp only
   rw [nC, S.prog, if_neg (by omega), List.take_of_length_le (by rw [rU]; omega)]
 ·rw [wO, show mC F L tab F [] 0 = some (eK p H tab) from ?_, bsm]
  refine gO (fun k (s : List UsageDef × Int) => mC F L tab k s.1 s.2) p.Defs.length (fun i => ((eK p H tab).take i, (i : Int))) _ (fun k i hi => ?_) (fun k => ?_) (by show _ < 4000000; omega)
  ·dsimp only
   obtain ⟨u, u1, u2, u3⟩ := step i hi
   have := hlen i
   rw [mC, S.rprog, if_pos (by omega), u2, bsm, fI (by simp; omega), bsm, aV (by omega), bsm]
   congr 1
   exact tk i hi u u3
  ·dsimp only
   rw [mC, S.rprog, if_neg (by omega), List.take_of_length_le (by rw [rU]; omega)]
theorem uF (S : cI p t L H) : dA p (eK p H tab) := by
 refine ⟨rU, fun i D' X hD hX => ?_⟩
 have hi := fJ hD
 obtain ⟨c, rfl⟩ : ∃ c : Nat, i = (c : Int) := ⟨i.toNat, by omega⟩
 obtain ⟨n, e, x, D, h, _, _⟩ := S.headOf (d := (c : Int)) hi.1 hi.2
 have := h.hD; rw [hD] at this; cases this
 rw [aAP S (by omega) h] at hX; cases hX
 have ho := dV h.ok
 refine ⟨by simp [eZ], by simp [eZ], by simp [eZ], ?_⟩
 intro j ch a hc ha
 have := fJ hc
 obtain ⟨c', rfl⟩ : ∃ c' : Nat, j = (c' : Int) := ⟨j.toNat, by omega⟩
 rw [eZ] at ha
 dsimp only at ha
 rw [kA (by omega)] at ha
 cases ha
 have := ho.2.2.2.1 ch (eD hc)
 rw [List.length_map, List.length_range, pF hc]; omega
end
end Go.Proofs.YtmnbfgeljmhekaaGreat
set_option maxRecDepth 100000
namespace Go.Proofs.YtmnbfgeljmhekaaGreat
open Go.SX Go.SW Go.Dt
theorem loopE {R : Type} (L : Nat → Int → Option R) (n : Nat) (ok : Nat → Bool) (a b : R) (step : ∀ k (i : Nat), i < n → ok i = true → L (k + 1) (i : Int) = L k ((i : Int) + 1)) (bad : ∀ k (i : Nat), i < n → ok i = false → L (k + 1) (i : Int) = some b) (stop : ∀ k, L (k + 1) (n : Int) = some a) {K : Nat} (hK : n < K) : L K 0 = some (if (List.range n).all ok = true then a else b) := by
 have : ∀ (j i K : Nat), i + j = n → j < K → L K (i : Int) = some (if ((List.range j).all fun m => ok (i + m)) = true then a else b) := fun j => by
  induction j with
  | zero =>
   intro i K hi hK
   obtain _ | K := K
   ·omega
   obtain rfl : i = n := by omega
   exact stop K
  | succ j ih =>
   intro i K hi hK
   obtain _ | K := K
   ·omega
   have e : (List.range (j + 1)).all (fun m => ok (i + m)) = (ok i && (List.range j).all fun m => ok (i + 1 + m)) := by
    rw [List.range_succ_eq_map, List.all_cons, List.all_map]
    congr 1
    congr 1
    funext m
    show ok (i + (m + 1)) = _
    congr 1; omega
   rw [e]
   cases h : ok i with
   | false => exact bad K i (by omega) h
   | true => rw [step K i (by omega) h, Bool.true_and]; exact ih (i + 1) K (by omega) (by omega)
 have e := this n 0 K (by omega) hK
 simpa using e
def opt2 {α β : Type} (f : α → β → Bool) : Option α → Option β → Bool
 | some x, some y => f x y
 | _, _ => true
theorem yY {α β : Type} (f : α × β → Bool) : ∀ (a : List α) (b : List β), a.length = b.length → (a.zip b).all f = (List.range a.length).all fun i => opt2 (fun x y => f (x, y)) a[i]? b[i]?
 | [], [], _ => rfl
 | x :: a, y :: b, h => by
  rw [List.zip_cons_cons, List.all_cons, yY f a b (by simpa using h), List.length_cons, List.range_succ_eq_map, List.all_cons, List.all_map]
  rfl
section
variable {p : ScopeProg} {t : Usage_text} {L : Ref05_Look} {H : Nat} {tab : List UsageDef} {d n : Int} {e : E} {x : ScopeNode} {D : ScopeDef}
noncomputable def begV (p : ScopeProg) (H : Nat) (d c : Int) : Int := open Classical in if h : ∃ v : Int, ∃ n e x D, eE p H d n e x D ∧ v = begM x D e fun k => sur p k ((e.length : Int) + c) then h.choose else 0
theorem begV_get (S : cI p t L H) (h : eE p H d n e x D) (c : Int) : begV p H d c = begM x D e fun k => sur p k ((e.length : Int) + c) := by
 unfold begV
 have q : ∃ v : Int, ∃ n e x D, eE p H d n e x D ∧ v = begM x D e fun k => sur p k ((e.length : Int) + c) := ⟨_, n, e, x, D, h, rfl⟩
 rw [dif_pos q]
 obtain ⟨n', e', x', D', h', e1⟩ := q.choose_spec
 obtain ⟨_, rfl, rfl, rfl⟩ := h'.uniq S h
 exact e1
theorem aCA (S : cI p t L H) (h : eE p H d n e x D) {c : Nat} (hc : c < D.Chans.length) : lR F t n ((e.length : Int) + (c : Int)) = some (begV p H d c) ∧ nK F L n ((e.length : Int) + (c : Int)) = some (begV p H d c) := by
 have e1 := sC (e := e) (m := d) (d := D)
 unfold own at e1
 obtain ⟨r, ⟨_, rfl⟩, a, b⟩ := S.begun h (v := (e.length : Int) + (c : Int)) ⟨by omega, by omega⟩
 rw [begV_get S h]
 exact ⟨a, b⟩
end
end Go.Proofs.YtmnbfgeljmhekaaGreat
set_option maxRecDepth 100000
namespace Go.Proofs.YtmnbfgeljmhekaaGreat
open Go.SX Go.SW Go.Dt
variable {p : ScopeProg} {t : Usage_text} {L : Ref05_Look} {H : Nat} {tab tab' : List UsageDef} {d n : Int} {e : E} {x : ScopeNode} {D : ScopeDef}
theorem uO {a : Int} (h : two a) : cnt (eJ a) = a := by
 rcases zK h with rfl | rfl | rfl <;> rfl
theorem aAF {f g : Int → Int} (hf : ∀ v, two (f v) ∧ two (g v) ∧ f v ≤ g v) {c i : Int} : ∀ (l : List Int) (a w w' : Int), two w → two w' → w ≤ w' → hP f D c i l a w ≤ hP g D c i l a w' ∧ two (hP f D c i l a w) ∧ two (hP g D c i l a w')
 | [], a, w, w', h1, h2, h3 => ⟨h3, h1, h2⟩
 | j :: l, a, w, w', h1, h2, h3 => by
  obtain ⟨q1, q2, q3⟩ := hf (a + i)
  rw [hP, hP]
  by_cases hj : j = c
  ·rw [if_pos hj, if_pos hj]; exact aAF hf l _ _ _ (by unfold two at *; omega) (by unfold two at *; omega) (by omega)
  ·rw [if_neg hj, if_neg hj]; exact aAF hf l _ _ _ h1 h2 h3
theorem aAY {f : Int → Int} (hf : ∀ v, two (f v)) {c i : Int} : ∀ (l : List Int) (a w : Int), two w → w ≤ hP f D c i l a w
 | [], a, w, h1 => Int.le_refl _
 | j :: l, a, w, h1 => by
  have q := hf (a + i)
  rw [hP]
  by_cases hj : j = c
  ·rw [if_pos hj]; exact Int.le_trans (by omega) (aAY hf l _ _ (by unfold two at *; omega))
  ·rw [if_neg hj]; exact aAY hf l _ _ h1
theorem aA1 {ru ru' : List Int} (hr : ∀ i, kc ru i ≤ kc ru' i) {f g : ScopeRule → Int → Int} {b c i : Int} : ∀ (l : List ScopeRule) (k w w' : Int), (∀ r ∈ l, ∀ v, two (f r v) ∧ two (g r v) ∧ f r v ≤ g r v) → two w → two w' → w ≤ w' → gL ru b f D c i l k w ≤ gL ru' b g D c i l k w' ∧ two (gL ru b f D c i l k w)
 | [], k, w, w', _, h1, h2, h3 => ⟨h3, h1⟩
 | r :: l, k, w, w', hf, h1, h2, h3 => by
  have hk := hr k
  have kt := xI (l := ru) (i := k)
  obtain ⟨m1, m2, m3⟩ := aAF (D := D) (c := c) (i := i) (hf r (List.mem_cons_self ..)) r.Joins b w w' h1 h2 h3
  have m4 := aAY (D := D) (c := c) (i := i) (fun v => (hf r (List.mem_cons_self ..) v).2.1) r.Joins b w' h2
  rw [gL, gL]
  refine aA1 hr l _ _ _ (fun r hr => hf r (List.mem_cons_of_mem _ hr)) ?_ ?_ ?_
  ·split <;> assumption
  ·split <;> assumption
  ·by_cases c1 : kc ru k = 0
   ·rw [if_pos c1]
    split
    ·exact h3
    ·omega
   ·rw [if_neg c1, if_neg (by unfold two at kt; omega)]; exact m1
theorem aB7 {ch ch' : List Int} (hc : ∀ i, kc ch i ≤ kc ch' i) : ∀ (l : List Int) (w w' : Int), two w → w ≤ w' → l.foldl (fun w j => min w (kc ch j)) w ≤ l.foldl (fun w j => min w (kc ch' j)) w' ∧ two (l.foldl (fun w j => min w (kc ch j)) w)
 | [], w, w', h1, h2 => ⟨h2, h1⟩
 | j :: l, w, w', h1, h2 => by
  have := hc j
  have k2 := xI (l := ch) (i := j)
  rw [List.foldl_cons, List.foldl_cons]
  exact aB7 hc l _ _ (by unfold two at *; omega) (by omega)
theorem aBA (S : cI p t L H) (h : LeT tab tab') {q : Int × E} (hq : q ∈ LN p H (cT p)) (v : Int) : two (snd p tab q v) ∧ two (snd p tab' q v) ∧ snd p tab q v ≤ snd p tab' q v :=
 ⟨rO 60 q (S.tr60 hq), rO 60 q (S.tr60 hq), aE9 h 60 q (S.tr60 hq)⟩
theorem inn_le (S : cI p t L H) (h : LeT tab tab') (hh : eE p H d n e x D) (v : Int) : iL tab x D e (fun k => snd p tab k v) ≤ iL tab' x D e (fun k => snd p tab' k v) ∧ two (iL tab x D e fun k => snd p tab k v) := by
 obtain ⟨_, hs⟩ := S.subs hh.ln hh.hx
 exact aCq h hh.op (by rw [hh.hN]; exact hh.hD) hh.kid fun k hk => aBA S h (hs k hk) v
theorem aDg (S : cI p t L H) (hh : eE p H d n e x D) {r : ScopeRule} (hr : r ∈ D.Rules) : (r.Node, ruE e d D r) ∈ LN p H (cT p) := by
 have := (S.subs hh.ln hh.hx).2 _ (aAp (e := e) hh.op (by rw [hh.hN]; exact hh.hD) hr)
 rwa [hh.hN] at this
theorem LeT.of (ha : dA p tab) (hb : dA p tab') (k : ∀ (d : Int) D X Y, idx p.Defs d = some D → idx tab d = some X → idx tab' d = some Y → (∀ c : Nat, c < D.Chans.length → kc X.Chans c ≤ kc Y.Chans c) ∧ (∀ c : Nat, c < D.Rules.length → kc X.Rules c ≤ kc Y.Rules c) ∧ ∀ (c : Nat) a b, X.Args[c]? = some a → Y.Args[c]? = some b → ∀ i : Nat, i < a.length → kc a i ≤ kc b i) : LeT tab tab' := fun d i => by
 have out : ∀ {a b : List Int}, a.length = b.length → (∀ c : Nat, c < a.length → kc a c ≤ kc b c) → kc a i ≤ kc b i := fun {a b} hl hc => by
  by_cases hi : 0 ≤ i ∧ i < a.length
  ·have := hc i.toNat (by omega)
   rwa [show ((i.toNat : Nat) : Int) = i from by omega] at this
  ·unfold kc; rw [jX hi, jX (by omega)]; exact Int.le_refl _
 by_cases hd : 0 ≤ d ∧ d < p.Defs.length
 ·obtain ⟨D, hD⟩ := dH (xs := p.Defs) hd.1 hd.2
  obtain ⟨X, hX, o1⟩ := qB ha hD
  obtain ⟨Y, hY, o2⟩ := qB hb hD
  obtain ⟨k1, k2, k3⟩ := k d D X Y hD hX hY
  rw [show gA tab d = X.Chans from by unfold gA; rw [hX]; rfl, show gA tab' d = Y.Chans from by unfold gA; rw [hY]; rfl, show eR tab d = X.Rules from by unfold eR; rw [hX]; rfl, show eR tab' d = Y.Rules from by unfold eR; rw [hY]; rfl]
  refine ⟨out (by rw [o1.chans, o2.chans]) (by rw [o1.chans]; exact k1), out (by rw [o1.rules, o2.rules]) (by rw [o1.rules]; exact k2), fun c => ?_⟩
  rw [show lF tab (d, c) = (idx X.Args c).getD [] from by unfold lF; dsimp only; rw [hX, bsm], show lF tab' (d, c) = (idx Y.Args c).getD [] from by unfold lF; dsimp only; rw [hY, bsm]]
  by_cases hc : 0 ≤ c ∧ c < X.Args.length
  ·obtain ⟨a, h1⟩ := dH (xs := X.Args) hc.1 hc.2
   obtain ⟨b, h2⟩ := dH (xs := Y.Args) hc.1 (by rw [o2.args, ← o1.args]; exact hc.2)
   obtain ⟨ch, h3⟩ := dH (xs := D.Chans) hc.1 (by rw [← o1.args]; exact hc.2)
   have m1 := o1.many _ _ _ h3 h1
   have m2 := o2.many _ _ _ h3 h2
   rw [h1, h2]
   show kc a i ≤ kc b i
   exact out (by omega) (k3 c.toNat a b (bW h1) (bW h2))
  ·rw [jX hc, jX (by rw [o2.args, ← o1.args]; exact hc)]; exact Int.le_refl _
 ·have n1 : idx tab d = none := jX (by rw [ha.1]; exact hd)
  have n2 : idx tab' d = none := jX (by rw [hb.1]; exact hd)
  exact ⟨by unfold gA; rw [n1, n2]; exact Int.le_refl _, by unfold eR; rw [n1, n2]; exact Int.le_refl _, fun c => by unfold lF; dsimp only; rw [n1, n2]; exact Int.le_refl _⟩
theorem pQ {a : List Int} {c : Nat} {y : Int} (h : a[c]? = some y) : kc a (c : Int) = cnt y := by unfold kc; rw [cZ h]; rfl
theorem aE8 {α β : Type} {f : α → β} {l : List α} {i : Nat} (h : i < l.length) : (l.map f)[i]? = some (f (l[i]'h)) := by simp [h]
theorem qR {β : Type} {f : Nat → β} {n i : Nat} (h : i < n) : ((List.range n).map f)[i]? = some (f i) := by simp [h]
theorem ask_le (S : cI p t L H) (h : LeT tab tab') (hh : eE p H d n e x D) : (∀ c : Nat, c < D.Chans.length → kc (eZ p tab d x D e).Chans c ≤ kc (eZ p tab' d x D e).Chans c) ∧ (∀ c : Nat, c < D.Rules.length → kc (eZ p tab d x D e).Rules c ≤ kc (eZ p tab' d x D e).Rules c) ∧
  ∀ (c : Nat) a b, (eZ p tab d x D e).Args[c]? = some a → (eZ p tab' d x D e).Args[c]? = some b → ∀ i : Nat, i < a.length → kc a i ≤ kc b i := by
 refine ⟨fun c hc => ?_, fun c hc => ?_, fun c a b h1 h2 i hi => ?_⟩
 ·obtain ⟨a, b⟩ := inn_le S h hh ((e.length : Int) + (c : Int))
  have b' := (inn_le S (LeT.rfl (t := tab')) hh ((e.length : Int) + (c : Int))).2
  rw [eZ, eZ, pQ (qR hc), pQ (qR hc), uO b, uO b']; exact a
 ·obtain ⟨a, b⟩ := aB7 (fun i => (h d i).1) (D.Rules[c]'hc).Joins 2 2 (by unfold two; omega) (Int.le_refl _)
  obtain ⟨_, b'⟩ := aB7 (fun i => (LeT.rfl (t := tab') d i).1) (D.Rules[c]'hc).Joins 2 2 (by unfold two; omega) (Int.le_refl _)
  rw [eZ, eZ, pQ (aE8 hc), pQ (aE8 hc), minJ, minJ, uO b, uO b']; exact a
 ·have hc : c < D.Chans.length := by have := (List.getElem?_eq_some_iff.1 h1).1; simpa [eZ] using this
  rw [eZ] at h1 h2
  dsimp only at h1 h2
  rw [qR hc] at h1 h2
  cases h1; cases h2
  rw [List.length_map, List.length_range] at hi
  obtain ⟨a, b⟩ := aA1 (D := D) (fun i => (h d i).2.1) (b := (e.length : Int) + (D.Chans.length : Int) + (D.Spots.length : Int)) (c := (c : Int)) (i := (i : Int)) (f := fun r v => snd p tab (r.Node, ruE e d D r) v) (g := fun r v => snd p tab' (r.Node, ruE e d D r) v) D.Rules 0 0 0 (fun r hr v => aBA S h (aDg S hh hr) v) (by unfold two; omega) (by unfold two; omega) (Int.le_refl _)
  obtain ⟨_, b'⟩ := aA1 (D := D) (fun i => (LeT.rfl (t := tab') d i).2.1) (b := (e.length : Int) + (D.Chans.length : Int) + (D.Spots.length : Int)) (c := (c : Int)) (i := (i : Int)) (f := fun r v => snd p tab' (r.Node, ruE e d D r) v) (g := fun r v => snd p tab' (r.Node, ruE e d D r) v) D.Rules 0 0 0 (fun r hr v => aBA S LeT.rfl (aDg S hh hr) v) (by unfold two; omega) (by unfold two; omega) (Int.le_refl _)
  rw [pQ (qR hi), pQ (qR hi), uO b, uO b']; exact a
theorem zS (S : cI p t L H) {d : Int} {D : ScopeDef} (hD : idx p.Defs d = some D) : ∃ n e x, eE p H d n e x D ∧ ∀ tab, idx (eK p H tab) d = some (eZ p tab d x D e) := by
 have hd := fJ hD
 obtain ⟨c, rfl⟩ : ∃ c : Nat, d = (c : Int) := ⟨d.toNat, by omega⟩
 obtain ⟨n, e, x, D', h, _, _⟩ := S.headOf (d := (c : Int)) hd.1 hd.2
 have := h.hD; rw [hD] at this; cases this
 exact ⟨n, e, x, h, fun tab => aAP S (by omega) h⟩
theorem aDb (S : cI p t L H) (h : LeT tab tab') : LeT (eK p H tab) (eK p H tab') := by
 refine LeT.of (uF S) (uF S) fun d D X Y hD hX hY => ?_
 obtain ⟨n, e, x, hh, ha⟩ := zS S hD
 rw [ha] at hX hY
 cases hX; cases hY
 exact ask_le S h hh
def kK (k : Int) : Prop := k = 1 ∨ k = 3 ∨ k = 4
theorem aBb (a : Int) : kK (eJ a) := by unfold eJ kK; split; omega; split <;> omega
theorem kK_inj {a b : Int} (ha : kK a) (hb : kK b) (h : cnt a = cnt b) : a = b := by
 rcases ha with rfl | rfl | rfl <;> rcases hb with rfl | rfl | rfl <;> first | rfl | (exact absurd h (by decide))
def jL : List Int → Int
 | [] => 0
 | a :: l => cnt a + jL l
theorem aAb : ∀ l : List Int, 0 ≤ jL l ∧ jL l ≤ 2 * l.length
 | [] => by simp [jL]
 | a :: l => by have := aAb l; have := iA a; unfold two at this; simp only [jL, List.length_cons]; omega
theorem yK : ∀ {a b : List Int}, a.length = b.length → (∀ i : Nat, i < a.length → kc a i ≤ kc b i) → jL a ≤ jL b ∧ (jL b ≤ jL a → (∀ x ∈ a, kK x) → (∀ x ∈ b, kK x) → a = b)
 | [], [], _, _ => ⟨Int.le_refl _, fun _ _ _ => rfl⟩
 | x :: a, y :: b, hl, h => by
  obtain ⟨i1, i2⟩ := yK (a := a) (b := b) (by simpa using hl) (fun i hi => by
   have := h (i + 1) (by simp; omega)
   unfold kc idx at this ⊢
   rw [if_pos (by omega), if_pos (by omega)] at this ⊢
   simpa using this)
  have h0 : cnt x ≤ cnt y := h 0 (by simp)
  simp only [jL]
  refine ⟨by omega, fun hs ka kb => ?_⟩
  rw [kK_inj (ka x (List.mem_cons_self ..)) (kb y (List.mem_cons_self ..)) (by omega), i2 (by omega) (fun z hz => ka z (List.mem_cons_of_mem _ hz)) (fun z hz => kb z (List.mem_cons_of_mem _ hz))]
def lH : List (List Int) → Int
 | [] => 0
 | a :: l => jL a + lH l
theorem aCm {m : Nat} : ∀ l : List (List Int), (∀ a ∈ l, a.length ≤ m) → 0 ≤ lH l ∧ lH l ≤ (2 * m * l.length : Nat)
 | [], _ => by simp [lH]
 | a :: l, h => by
  have i := aCm (m := m) l (fun a ha => h a (List.mem_cons_of_mem _ ha))
  have j := aAb a
  have k := h a (List.mem_cons_self ..)
  simp only [lH, List.length_cons, Nat.mul_add, Nat.mul_one, Int.natCast_add] at *; omega
theorem aCF : ∀ {a b : List (List Int)}, a.length = b.length → (∀ (i : Nat) x y, a[i]? = some x → b[i]? = some y → x.length = y.length ∧ ∀ j : Nat, j < x.length → kc x j ≤ kc y j) → lH a ≤ lH b ∧ (lH b ≤ lH a → (∀ x ∈ a, ∀ k ∈ x, kK k) → (∀ x ∈ b, ∀ k ∈ x, kK k) → a = b)
 | [], [], _, _ => ⟨Int.le_refl _, fun _ _ _ => rfl⟩
 | x :: a, y :: b, hl, h => by
  obtain ⟨i1, i2⟩ := aCF (a := a) (b := b) (by simpa using hl) (fun i u v hu hv => h (i + 1) u v (by simpa using hu) (by simpa using hv))
  obtain ⟨l0, h0⟩ := h 0 x y rfl rfl
  obtain ⟨j1, j2⟩ := yK l0 h0
  simp only [lH]
  refine ⟨by omega, fun hs ka kb => ?_⟩
  rw [j2 (by omega) (ka x (List.mem_cons_self ..)) (kb y (List.mem_cons_self ..)), i2 (by omega) (fun z hz => ka z (List.mem_cons_of_mem _ hz)) (fun z hz => kb z (List.mem_cons_of_mem _ hz))]
def wtU (X : UsageDef) : Int := jL X.Chans + jL X.Rules + lH X.Args
def wtT : List UsageDef → Int
 | [] => 0
 | X :: l => wtU X + wtT l
structure KU (X : UsageDef) : Prop where
 chans : ∀ k ∈ X.Chans, kK k
 rules : ∀ k ∈ X.Rules, kK k
 args : ∀ a ∈ X.Args, ∀ k ∈ a, kK k
theorem wtU_le {X Y : UsageDef} (o1 : okU1 D X) (o2 : okU1 D Y) (k1 : ∀ c : Nat, c < D.Chans.length → kc X.Chans c ≤ kc Y.Chans c) (k2 : ∀ c : Nat, c < D.Rules.length → kc X.Rules c ≤ kc Y.Rules c) (k3 : ∀ (c : Nat) a b, X.Args[c]? = some a → Y.Args[c]? = some b → ∀ i : Nat, i < a.length → kc a i ≤ kc b i) :
  wtU X ≤ wtU Y ∧ (wtU Y ≤ wtU X → KU X → KU Y → X = Y) := by
 obtain ⟨a1, a2⟩ := yK (a := X.Chans) (b := Y.Chans) (by rw [o1.chans, o2.chans]) (by rw [o1.chans]; exact k1)
 obtain ⟨b1, b2⟩ := yK (a := X.Rules) (b := Y.Rules) (by rw [o1.rules, o2.rules]) (by rw [o1.rules]; exact k2)
 obtain ⟨c1, c2⟩ := aCF (a := X.Args) (b := Y.Args) (by rw [o1.args, o2.args]) (fun i u v hu hv => by
  have hi := (List.getElem?_eq_some_iff.1 hu).1
  obtain ⟨ch, h3⟩ := qF (D := D) (c := i) (by rw [← o1.args]; exact hi)
  have m1 := o1.many _ _ _ h3 (cZ hu)
  have m2 := o2.many _ _ _ h3 (cZ hv)
  exact ⟨by omega, k3 i u v hu hv⟩)
 unfold wtU
 refine ⟨by omega, fun h u v => ?_⟩
 have e1 := a2 (by omega) u.chans v.chans
 have e2 := b2 (by omega) u.rules v.rules
 have e3 := c2 (by omega) u.args v.args
 cases X; cases Y
 simp only at e1 e2 e3
 rw [e1, e2, e3]
theorem wtT_le : ∀ {A B : List UsageDef}, A.length = B.length → (∀ (i : Nat) X Y, A[i]? = some X → B[i]? = some Y → wtU X ≤ wtU Y ∧ (wtU Y ≤ wtU X → KU X → KU Y → X = Y)) → wtT A ≤ wtT B ∧ (wtT B ≤ wtT A → (∀ X ∈ A, KU X) → (∀ X ∈ B, KU X) → A = B)
 | [], [], _, _ => ⟨Int.le_refl _, fun _ _ _ => rfl⟩
 | x :: a, y :: b, hl, h => by
  obtain ⟨i1, i2⟩ := wtT_le (A := a) (B := b) (by simpa using hl) (fun i u v hu hv => h (i + 1) u v (by simpa using hu) (by simpa using hv))
  obtain ⟨j1, j2⟩ := h 0 x y rfl rfl
  simp only [wtT]
  refine ⟨by omega, fun hs ka kb => ?_⟩
  rw [j2 (by omega) (ka x (List.mem_cons_self ..)) (kb y (List.mem_cons_self ..)), i2 (by omega) (fun z hz => ka z (List.mem_cons_of_mem _ hz)) (fun z hz => kb z (List.mem_cons_of_mem _ hz))]
theorem LeT.weigh (ha : dA p tab) (hb : dA p tab') (h : LeT tab tab') : wtT tab ≤ wtT tab' ∧ (wtT tab' ≤ wtT tab → (∀ X ∈ tab, KU X) → (∀ X ∈ tab', KU X) → tab = tab') := by
 refine wtT_le (by rw [ha.1, hb.1]) fun i X Y hX hY => ?_
 have hi := (List.getElem?_eq_some_iff.1 hX).1
 obtain ⟨D, hD⟩ := dH (xs := p.Defs) (i := (i : Int)) (by omega) (by rw [← ha.1]; omega)
 have o1 := ha.2 _ _ _ hD (cZ hX)
 have o2 := hb.2 _ _ _ hD (cZ hY)
 have a1 : gA tab (i : Int) = X.Chans := by unfold gA; rw [cZ hX]; rfl
 have a2 : gA tab' (i : Int) = Y.Chans := by unfold gA; rw [cZ hY]; rfl
 have b1 : eR tab (i : Int) = X.Rules := by unfold eR; rw [cZ hX]; rfl
 have b2 : eR tab' (i : Int) = Y.Rules := by unfold eR; rw [cZ hY]; rfl
 refine wtU_le o1 o2 (fun c _ => ?_) (fun c _ => ?_) (fun c a b hca hcb j _ => ?_)
 ·have := (h (i : Int) (c : Int)).1; rwa [a1, a2] at this
 ·have := (h (i : Int) (c : Int)).2.1; rwa [b1, b2] at this
 ·have := (h (i : Int) (j : Int)).2.2 (c : Int)
  unfold lF at this
  dsimp only at this
  rw [cZ hX, cZ hY, bsm, bsm, cZ hca, cZ hcb] at this
  exact this
theorem aA6 : ∀ (A : List UsageDef), (∀ X ∈ A, X.Chans.length ≤ 30 ∧ X.Rules.length ≤ 30 ∧ X.Args.length ≤ 30 ∧ ∀ a ∈ X.Args, a.length ≤ 3) → 0 ≤ wtT A ∧ wtT A ≤ 400 * A.length
 | [], _ => by simp [wtT]
 | X :: A, h => by
  have i := aA6 A (fun X hX => h X (List.mem_cons_of_mem _ hX))
  obtain ⟨h1, h2, h3, h4⟩ := h X (List.mem_cons_self ..)
  have j1 := aAb X.Chans
  have j2 := aAb X.Rules
  have j3 := aCm (m := 3) X.Args h4
  simp only [wtT, wtU, List.length_cons]; omega
theorem dA.bd (S : cI p t L H) (hk : dA p tab) : ∀ X ∈ tab, X.Chans.length ≤ 30 ∧ X.Rules.length ≤ 30 ∧ X.Args.length ≤ 30 ∧ ∀ a ∈ X.Args, a.length ≤ 3 := fun X hX => by
 obtain ⟨i, hi, rfl⟩ := List.mem_iff_getElem.1 hX
 have hl := hk.1
 obtain ⟨D, hD⟩ := dH (xs := p.Defs) (i := (i : Int)) (by omega) (by omega)
 obtain ⟨n, e, x, hh, _⟩ := zS S hD
 have ho := dV hh.ok
 have o := hk.2 _ _ _ hD (cZ (List.getElem?_eq_getElem hi))
 have c1 := o.chans
 have c2 := o.rules
 have c3 := o.args
 refine ⟨by omega, by omega, by omega, fun a ha => ?_⟩
 obtain ⟨j, hj, rfl⟩ := List.mem_iff_getElem.1 ha
 obtain ⟨ch, h3⟩ := qF (D := D) (c := j) (by omega)
 have m := o.many _ _ _ h3 (cZ (List.getElem?_eq_getElem hj))
 have := ho.2.2.2.1 ch (eD h3)
 omega
theorem aCt (S : cI p t L H) : ∀ X ∈ eK p H tab, KU X := fun X hX => by
 obtain ⟨i, hi, rfl⟩ := List.mem_iff_getElem.1 hX
 rw [rU] at hi
 obtain ⟨D, hD⟩ := dH (xs := p.Defs) (i := (i : Int)) (by omega) (by omega)
 obtain ⟨n, e, x, hh, ha⟩ := zS S hD
 have := bW (ha tab)
 rw [Int.toNat_natCast, List.getElem?_eq_getElem (by rw [rU]; exact hi)] at this
 rw [Option.some.inj this]
 refine ⟨fun k hk => ?_, fun k hk => ?_, fun a ha k hk => ?_⟩
 ·obtain ⟨c, _, rfl⟩ := List.mem_map.1 hk; exact aBb _
 ·obtain ⟨c, _, rfl⟩ := List.mem_map.1 hk; exact aBb _
 ·obtain ⟨c, _, rfl⟩ := List.mem_map.1 ha
  obtain ⟨i, _, rfl⟩ := List.mem_map.1 hk; exact aBb _
end Go.Proofs.YtmnbfgeljmhekaaGreat
set_option maxRecDepth 100000
namespace Go.Proofs.YtmnbfgeljmhekaaGreat
open Go.SX Go.SW Go.Dt
variable {p : ScopeProg} {t : Usage_text} {L : Ref05_Look} {H : Nat} {tab tab' : List UsageDef} {d n : Int} {e : E} {x : ScopeNode} {D : ScopeDef}
def kS (D : ScopeDef) : UsageDef := ⟨List.replicate D.Chans.length 1, List.replicate D.Rules.length 1, (List.range D.Chans.length).map fun c : Nat => List.replicate (mny D (c : Int)).toNat 1⟩
def fS (p : ScopeProg) : List UsageDef := p.Defs.map kS
theorem rep_all : ((List.range 31).all fun n : Nat => decide (sR 4000000 [1] (n : Int) = some (List.replicate n 1))) = true := by kernel_rfl
theorem aBp {n : Nat} (h : n ≤ 30) : sR F [1] (n : Int) = some (List.replicate n 1) := of_decide_eq_true (List.all_eq_true.1 rep_all n (List.mem_range.2 (by omega)))
theorem aBR {α : Type} {a : α} {i : Nat} : List.replicate i a ++ [a] = List.replicate (i + 1) a := List.replicate_succ'.symm
theorem aC7 {α : Type} {l : List α} {i : Nat} {u : α} (h : idx l (i : Int) = some u) : l.take i ++ [u] = l.take (i + 1) := by
 have := bW h
 rw [Int.toNat_natCast] at this
 rw [List.take_add_one, this]; rfl
theorem cI.okD (S : cI p t L H) {d : Int} {D : ScopeDef} (hD : idx p.Defs d = some D) : okD D = true := by
 obtain ⟨n, e, x, hh, _⟩ := zS S hD
 exact hh.ok
theorem none_p (S : cI p t L H) : tV F t = some (fS p) := by
 have dl := S.defs
 rw [tV, show nF F t F [] 0 = some (fS p) from ?_, bsm]
 refine gO (fun k (s : List UsageDef × Int) => nF F t k s.1 s.2) p.Defs.length (fun i => ((fS p).take i, (i : Int))) _ (fun k i hi => ?_) (fun k => ?_) (by show _ < 4000000; omega)
 ·dsimp only
  obtain ⟨D, hD⟩ := dH (xs := p.Defs) (i := (i : Int)) (by omega) (by omega)
  have ho := dV (S.okD hD)
  have inner : mU F D F 0 [] = some ((List.range D.Chans.length).map fun c : Nat => List.replicate (mny D (c : Int)).toNat 1) := by
   refine gO (fun k (s : Int × List (List Int)) => mU F D k s.1 s.2) D.Chans.length (fun i => ((i : Int), (List.range i).map fun c : Nat => List.replicate (mny D (c : Int)).toNat 1)) _ (fun k i hi => ?_) (fun k => ?_) (by show _ < 4000000; omega)
   ·dsimp only
    obtain ⟨y, hy⟩ := qF hi
    have hm := ho.2.2.2.1 y (eD hy)
    rw [mU, if_pos (by omega), hy, bsm, show y.Many = ((y.Many.toNat : Nat) : Int) from by omega, aBp (by omega), bsm, fI (by simp; omega), bsm, aV (by omega), bsm]
    congr 1
    rw [← rF, pF hy]
   ·dsimp only
    rw [mU, if_neg (by omega)]
  have len : ((fS p).take i).length ≤ 12 := by rw [List.length_take, fS, List.length_map]; omega
  rw [nF, S.prog, if_pos (by omega), hD, bsm, aBp (by omega), bsm, aBp (by omega), bsm, inner, bsm, fI (by simp at len ⊢; omega), bsm, bsm, aV (by omega), bsm]
  congr 1
  refine aC7 (l := fS p) (i := i) ?_
  exact xG (f := kS) hD
 ·dsimp only
  rw [nF, S.prog, if_neg (by omega), List.take_of_length_le (by simp [fS])]
theorem none_r (S : cI p t L H) : vC F p = some (fS p) := by
 have dl := S.defs
 rw [vC, show mL F p F [] 0 = some (fS p) from ?_, bsm]
 refine gO (fun k (s : List UsageDef × Int) => mL F p k s.1 s.2) p.Defs.length (fun i => ((fS p).take i, (i : Int))) _ (fun k i hi => ?_) (fun k => ?_) (by show _ < 4000000; omega)
 ·dsimp only
  obtain ⟨D, hD⟩ := dH (xs := p.Defs) (i := (i : Int)) (by omega) (by omega)
  have ho := dV (S.okD hD)
  have in2 : oM F p (i : Int) F 0 [] [] = some (List.replicate D.Chans.length 1, (List.range D.Chans.length).map fun c : Nat => List.replicate (mny D (c : Int)).toNat 1) := by
   refine gO (fun k (s : Int × List Int × List (List Int)) => oM F p (i : Int) k s.1 s.2.1 s.2.2) D.Chans.length (fun i => ((i : Int), List.replicate i 1, (List.range i).map fun c : Nat => List.replicate (mny D (c : Int)).toNat 1)) _ (fun k j hj => ?_) (fun k => ?_) (by show _ < 4000000; omega)
   ·dsimp only
    obtain ⟨y, hy⟩ := qF hj
    have hm := ho.2.2.2.1 y (eD hy)
    have in3 : lZ p (i : Int) (j : Int) F [] 0 = some (List.replicate y.Many.toNat 1) := by
     refine gO (fun k (s : List Int × Int) => lZ p (i : Int) (j : Int) k s.1 s.2) y.Many.toNat (fun i => (List.replicate i 1, (i : Int))) _ (fun k l hl => ?_) (fun k => ?_) (by show _ < 4000000; omega)
     ·dsimp only
      rw [lZ, hD, bsm, hy, bsm, if_pos (by omega), fI (by simp; omega), bsm, aV (by omega), bsm, aBR]
      rfl
     ·dsimp only
      rw [lZ, hD, bsm, hy, bsm, if_neg (by omega)]
    rw [oM, hD, bsm, if_pos (by omega), fI (by simp; omega), bsm, in3, bsm, fI (by simp; omega), bsm, bsm]
    dsimp only
    rw [aV (by omega), bsm, aBR]
    congr 1
    rw [← rF, pF hy]
   ·dsimp only
    rw [oM, hD, bsm, if_neg (by omega)]
  have in4 : oK p (i : Int) F 0 [] = some (List.replicate D.Rules.length 1) := by
   refine gO (fun k (s : Int × List Int) => oK p (i : Int) k s.1 s.2) D.Rules.length (fun i => ((i : Int), List.replicate i 1)) _ (fun k l hl => ?_) (fun k => ?_) (by show _ < 4000000; omega)
   ·dsimp only
    rw [oK, hD, bsm, if_pos (by omega), fI (by simp; omega), bsm, aV (by omega), bsm, aBR]
    rfl
   ·dsimp only
    rw [oK, hD, bsm, if_neg (by omega)]
  have len : ((fS p).take i).length ≤ 12 := by rw [List.length_take, fS, List.length_map]; omega
  rw [mL, if_pos (by omega), in2, bsm]
  dsimp only
  rw [in4, bsm, fI (by simp at len ⊢; omega), bsm, bsm, aV (by omega), bsm]
  congr 1
  refine aC7 (l := fS p) (i := i) ?_
  exact xG (f := kS) hD
 ·dsimp only
  rw [mL, if_neg (by omega), List.take_of_length_le (by simp [fS])]
theorem aEu {d : Int} {D : ScopeDef} (hD : idx p.Defs d = some D) : idx (fS p) d = some (kS D) := xG hD
theorem aBB (S : cI p t L H) : dA p (fS p) := by
 refine ⟨by simp [fS], fun i D X hD hX => ?_⟩
 rw [aEu hD] at hX; cases hX
 have ho := dV (S.okD hD)
 refine ⟨by simp [kS], by simp [kS], by simp [kS], fun j ch a hc ha => ?_⟩
 have := fJ hc
 obtain ⟨c', rfl⟩ : ∃ c' : Nat, j = (c' : Int) := ⟨j.toNat, by omega⟩
 rw [kS] at ha
 dsimp only at ha
 rw [kA (by omega)] at ha
 cases ha
 have := ho.2.2.2.1 ch (eD hc)
 rw [List.length_replicate, pF hc]; omega
theorem noneM_KU : ∀ X ∈ fS p, KU X := fun X hX => by
 obtain ⟨D, _, rfl⟩ := List.mem_map.1 hX
 refine ⟨fun k hk => .inl (List.eq_of_mem_replicate hk), fun k hk => .inl (List.eq_of_mem_replicate hk), fun a ha k hk => ?_⟩
 obtain ⟨c, _, rfl⟩ := List.mem_map.1 ha
 exact .inl (List.eq_of_mem_replicate hk)
theorem aAL {n i : Nat} (h : i < n) : (List.replicate n (1 : Int))[i]? = some 1 := by simp [h]
theorem aDk (S : cI p t L H) (hk : dA p tab) : LeT (fS p) tab := by
 refine LeT.of (aBB S) hk fun d D X Y hD hX hY => ?_
 rw [aEu hD] at hX; cases hX
 refine ⟨fun c hc => ?_, fun c hc => ?_, fun c a b ha hb i hi => ?_⟩
 ·rw [kS, pQ (aAL hc)]; exact xI.1
 ·rw [kS, pQ (aAL hc)]; exact xI.1
 ·have hc : c < D.Chans.length := by have := (List.getElem?_eq_some_iff.1 ha).1; simpa [kS] using this
  rw [kS] at ha
  dsimp only at ha
  rw [qR hc] at ha
  cases ha
  rw [List.length_replicate] at hi
  rw [pQ (aAL hi)]; exact xI.1
theorem sh_of (S : cI p t L H) (ha : dA p tab) (hb : dA p tab') : ∀ q ∈ tab.zip tab', Sh2 q.1 q.2 := fun q hq => by
 obtain ⟨A, B⟩ := q
 obtain ⟨i, hi, he⟩ := List.mem_iff_getElem.1 hq
 have hi' := hi
 rw [List.length_zip] at hi'
 rw [List.getElem_zip] at he
 cases he
 have l1 := ha.1
 have l2 := hb.1
 obtain ⟨D, hD⟩ := dH (xs := p.Defs) (i := (i : Int)) (by omega) (by omega)
 have o1 := ha.2 _ _ _ hD (cZ (List.getElem?_eq_getElem (by omega)))
 have o2 := hb.2 _ _ _ hD (cZ (List.getElem?_eq_getElem (by omega)))
 refine ⟨by rw [o1.chans, o2.chans], by rw [o1.rules, o2.rules], by rw [o1.args, o2.args], fun q hq => ?_⟩
 obtain ⟨A, B⟩ := q
 obtain ⟨j, hj, he⟩ := List.mem_iff_getElem.1 hq
 have la := o1.args
 have lb := o2.args
 have hj' := hj
 rw [List.length_zip] at hj'
 rw [List.getElem_zip] at he
 cases he
 dsimp only at hj'
 obtain ⟨ch, hc⟩ := qF (D := D) (c := j) (by omega)
 have m1 := o1.many _ _ _ hc (cZ (List.getElem?_eq_getElem (by omega)))
 have m2 := o2.many _ _ _ hc (cZ (List.getElem?_eq_getElem (by omega)))
 dsimp only; omega
theorem oP {α : Type} {f : α × α → Bool} : ∀ {a b : List α}, a.length = b.length → (∀ q ∈ a.zip b, f q = true ↔ q.1 = q.2) → ((a.zip b).all f = true ↔ a = b)
 | [], [], _, _ => by simp
 | x :: a, y :: b, hl, h => by
  rw [List.zip_cons_cons, List.all_cons, Bool.and_eq_true, h (x, y) (List.mem_cons_self ..), oP (a := a) (b := b) (by simpa using hl) (fun q hq => h q (List.mem_cons_of_mem _ hq)), List.cons.injEq]
def eqP (x y : Int) (_ : Bool) : Bool := decide (x = y)
theorem kz_eqs {X Y : UsageDef} (s : Sh2 X Y) : kz eqP X Y = true ↔ X = Y := by
 unfold kz eqP
 rw [Bool.and_eq_true, Bool.and_eq_true, oP s.chans (fun q _ => decide_eq_true_iff), oP s.rules (fun q _ => decide_eq_true_iff), oP s.args (fun q hq => oP (s.each q hq) fun q _ => decide_eq_true_iff)]
 cases X; cases Y
 simp only [UsageDef.mk.injEq]
theorem aHR (S : cI p t L H) (ha : dA p tab) (hb : dA p tab') (hm : ∀ a ∈ tab, SmU a) : ∃ b, qA F tab tab' (fun x => wW x.1 x.2.1 x.2.2) = some b ∧ (b = true ↔ tab = tab') := by
 have l1 := ha.1
 have l2 := hb.1
 have dl := S.defs
 refine ⟨_, kinds_eq (P := eqP) (fun x => rfl) (by omega) (by omega) (sh_of S ha hb) hm, oP (by omega) fun q hq => kz_eqs (sh_of S ha hb q hq)⟩
theorem tO {a b : List Int} (hB : a.length ≤ 2000000) : sT F a b = some (decide (a = b)) := by
 rw [sT]
 by_cases h : (a.length : Int) = (b.length : Int)
 ·rw [if_neg (fun q => q h)]
  have hl : a.length = b.length := by omega
  have e := loopE (fun k i => oH a b k i) a.length (fun i => opt2 (fun x y => decide (x = y)) a[i]? b[i]?) (.inl ()) (.inr false) (fun k i hi hok => ?_) (fun k i hi hok => ?_) (fun k => ?_) (K := F) (by show _ < 4000000; omega)
  ·have e2 : (List.range a.length).all (fun i => opt2 (fun x y => decide (x = y)) a[i]? b[i]?) = decide (a = b) := by
    rw [← yY (fun q => decide (q.1 = q.2)) a b hl]
    have := oP (f := fun q : Int × Int => decide (q.1 = q.2)) hl (fun q _ => decide_eq_true_iff)
    by_cases h' : a = b
    ·rw [decide_eq_true h']; exact this.2 h'
    ·rw [decide_eq_false h']; cases hz : (a.zip b).all _ with
     | false => rfl
     | true => exact absurd (this.1 hz) h'
   rw [e, e2, bsm]
   cases decide (a = b) <;> rfl
  ·have h1 : a[i]? = some (a[i]'hi) := List.getElem?_eq_getElem hi
   have h2 : b[i]? = some (b[i]'(by omega)) := List.getElem?_eq_getElem (by omega)
   rw [h1, h2] at hok
   have := of_decide_eq_true hok
   rw [oH, if_pos (by omega), cZ h1, bsm, cZ h2, bsm, if_neg (fun q => q this), aV (by omega), bsm]
  ·have h1 : a[i]? = some (a[i]'hi) := List.getElem?_eq_getElem hi
   have h2 : b[i]? = some (b[i]'(by omega)) := List.getElem?_eq_getElem (by omega)
   rw [h1, h2] at hok
   have := of_decide_eq_false hok
   rw [oH, if_pos (by omega), cZ h1, bsm, cZ h2, bsm, if_pos this, bsm]
  ·rw [oH, if_neg (by omega)]
 ·rw [if_pos h, decide_eq_false (fun q => h (by rw [q]))]
def eqU (X Y : UsageDef) : Bool := decide (X.Chans = Y.Chans) && (decide (X.Rules = Y.Rules) && (List.range X.Args.length).all fun i => opt2 (fun a b => decide (a = b)) X.Args[i]? Y.Args[i]?)
theorem same_r (S : cI p t L H) (ha : dA p tab) (hb : dA p tab') : ∃ b, oX F tab tab' = some b ∧ (b = true ↔ tab = tab') := by
 have l1 := ha.1
 have l2 := hb.1
 have dl := S.defs
 have hl : tab.length = tab'.length := by omega
 have sh := sh_of S ha hb
 have eqs : ∀ q ∈ tab.zip tab', (eqU q.1 q.2 = true ↔ q.1 = q.2) := fun q hq => by
  have s := sh q hq
  unfold eqU
  rw [← yY (fun q => decide (q.1 = q.2)) _ _ s.args, Bool.and_eq_true, Bool.and_eq_true, oP s.args (fun q _ => decide_eq_true_iff), decide_eq_true_iff, decide_eq_true_iff]
  obtain ⟨X, Y⟩ := q
  cases X; cases Y
  simp only [UsageDef.mk.injEq]
 refine ⟨(tab.zip tab').all fun q => eqU q.1 q.2, ?_, oP hl eqs⟩
 have bd := dA.bd S ha
 have bd' := dA.bd S hb
 have each : ∀ i : Nat, i < tab.length → ∃ X Y, tab[i]? = some X ∧ tab'[i]? = some Y ∧ Sh2 X Y ∧ X ∈ tab ∧ Y ∈ tab' := fun i hi => by
  have h1 : tab[i]? = some (tab[i]'hi) := List.getElem?_eq_getElem hi
  have h2 : tab'[i]? = some (tab'[i]'(by omega)) := List.getElem?_eq_getElem (by omega)
  exact ⟨_, _, h1, h2, sh _ (aEw h1 h2), List.mem_of_getElem? h1, List.mem_of_getElem? h2⟩
 have in2 : ∀ (i : Nat) X Y, tab[i]? = some X → tab'[i]? = some Y → Sh2 X Y → X ∈ tab → lD F tab tab' (i : Int) F 0 = some (if (List.range X.Args.length).all (fun i => opt2 (fun a b => decide (a = b)) X.Args[i]? Y.Args[i]?) = true then .inl () else .inr (.inr false)) := fun i X Y h1 h2 s hX => by
  obtain ⟨_, _, b3, b4⟩ := bd X hX
  have la := s.args
  refine loopE (fun k j => lD F tab tab' (i : Int) k j) X.Args.length _ _ _ (fun k j hj hok => ?_) (fun k j hj hok => ?_) (fun k => ?_) (by show _ < 4000000; omega)
  ·have g1 : X.Args[j]? = some (X.Args[j]'hj) := List.getElem?_eq_getElem hj
   have g2 : Y.Args[j]? = some (Y.Args[j]'(by omega)) := List.getElem?_eq_getElem (by omega)
   have := b4 _ (List.mem_of_getElem? g1)
   rw [g1, g2] at hok
   rw [lD, cZ h1, bsm, if_pos (by omega), bsm, cZ g1, bsm, cZ h2, bsm, cZ g2, bsm, tO (by omega), bsm, show decide (X.Args[j]'hj = Y.Args[j]'(by omega)) = true from hok, cond_true, aV (by omega), bsm]
  ·have g1 : X.Args[j]? = some (X.Args[j]'hj) := List.getElem?_eq_getElem hj
   have g2 : Y.Args[j]? = some (Y.Args[j]'(by omega)) := List.getElem?_eq_getElem (by omega)
   have := b4 _ (List.mem_of_getElem? g1)
   rw [g1, g2] at hok
   rw [lD, cZ h1, bsm, if_pos (by omega), bsm, cZ g1, bsm, cZ h2, bsm, cZ g2, bsm, tO (by omega), bsm, show decide (X.Args[j]'hj = Y.Args[j]'(by omega)) = false from hok, cond_false, bsm, bsm]
  ·rw [lD, cZ h1, bsm, if_neg (by omega)]
 rw [oX, if_neg (show ¬ ((tab.length : Int) ≠ (tab'.length : Int)) from fun q => q (by omega))]
 have e := loopE (fun k i => kW F tab tab' k i) tab.length (fun i => opt2 eqU tab[i]? tab'[i]?) (.inl ()) (.inr false) (fun k i hi hok => ?_) (fun k i hi hok => ?_) (fun k => ?_) (K := F) (by show _ < 4000000; omega)
 ·rw [show kW F tab tab' F 0 = _ from e, bsm, yY _ _ _ hl]
  show _ = some ((List.range tab.length).all fun i => opt2 eqU tab[i]? tab'[i]?)
  cases (List.range tab.length).all fun i => opt2 eqU tab[i]? tab'[i]? <;> rfl
 ·obtain ⟨X, Y, h1, h2, s, hX, hY⟩ := each i hi
  obtain ⟨b1, b2, _⟩ := bd X hX
  rw [h1, h2] at hok
  have hok : eqU X Y = true := hok
  simp only [eqU, Bool.and_eq_true] at hok
  have la := s.args
  rw [kW, if_pos (by omega), cZ h1, bsm, cZ h2, bsm, tO (by omega), bsm, hok.1, Bool.not_true, cond_false, bsm, bsm, tO (by omega), bsm, hok.2.1, Bool.not_true, cond_false, bsm, bsm, if_neg (fun q => q (by omega)), in2 i X Y h1 h2 s hX, hok.2.2, if_pos rfl, bsm]
  dsimp only
  rw [aV (by omega), bsm]
 ·obtain ⟨X, Y, h1, h2, s, hX, hY⟩ := each i hi
  obtain ⟨b1, b2, _⟩ := bd X hX
  rw [h1, h2] at hok
  have hok : eqU X Y = false := hok
  rw [eqU] at hok
  have la := s.args
  rw [kW, if_pos (by omega), cZ h1, bsm, cZ h2, bsm, tO (by omega), bsm]
  cases c1 : decide (X.Chans = Y.Chans) with
  | false => rw [Bool.not_false, cond_true, bsm, bsm, bsm]
  | true =>
   rw [c1, Bool.true_and] at hok
   rw [Bool.not_true, cond_false, bsm, bsm, tO (by omega), bsm]
   cases c2 : decide (X.Rules = Y.Rules) with
   | false => rw [Bool.not_false, cond_true, bsm, bsm, bsm]
   | true =>
    rw [c2, Bool.true_and] at hok
    rw [Bool.not_true, cond_false, bsm, bsm, if_neg (fun q => q (by omega)), in2 i X Y h1 h2 s hX, hok, if_neg (by decide), bsm]
 ·rw [kW, if_neg (by omega)]
theorem dA.sm (S : cI p t L H) (hk : dA p tab) : ∀ a ∈ tab, SmU a := fun a ha => by
 obtain ⟨b1, b2, b3, b4⟩ := dA.bd S hk a ha
 exact ⟨by omega, by omega, by omega, fun z hz => by have := b4 z hz; omega⟩
structure Grows (p : ScopeProg) (H : Nat) (T : List UsageDef) : Prop where
 ok : dA p T
 ku : ∀ X ∈ T, KU X
 up : LeT T (eK p H T)
 low : ∀ U, dA p U → LeT (eK p H U) U → LeT T U
theorem grow (S : cI p t L H) : ∀ (j k : Nat) (T : List UsageDef), Grows p H T → 4800 - wtT T ≤ (j : Int) → j < k → ∃ R, Grows p H R ∧ eK p H R = R ∧ mD F t k T = some R ∧ nU F L k T = some R
 | j, 0, T, _, _, hk => absurd hk (by omega)
 | j, k + 1, T, g, hw, hk => by
  obtain ⟨a1, a2⟩ := all_eq' S g.ok
  obtain ⟨b, b1, b2⟩ := aHR S g.ok (uF S (tab := T)) (g.ok.sm S)
  obtain ⟨c, c1, c2⟩ := same_r S g.ok (uF S (tab := T))
  rw [mD, a1, bsm, b1, bsm, nU, a2, bsm, c1, bsm]
  by_cases h : T = eK p H T
  ·rw [b2.2 h, c2.2 h, cond_true, cond_true]
   exact ⟨T, g, h.symm, rfl, rfl⟩
  ·have hb : b = false := by cases b with | false => rfl | true => exact absurd (b2.1 rfl) h
   have hc : c = false := by cases c with | false => rfl | true => exact absurd (c2.1 rfl) h
   rw [hb, hc, cond_false, cond_false]
   have ok' := uF S (tab := T)
   obtain ⟨w1, w2⟩ := g.up.weigh g.ok ok'
   have bd := (aA6 _ (dA.bd S ok')).2
   have dl := S.defs
   have al := rU (p := p) (H := H) (tab := T)
   have lt : wtT T < wtT (eK p H T) := by
    apply Classical.byContradiction
    intro q
    exact h (w2 (by omega) g.ku (aCt S))
   obtain _ | j := j
   ·omega
   exact grow S j k (eK p H T) ⟨ok', aCt S, aDb S g.up, fun U hU hl => (aDb S (g.low U hU hl)).trans hl⟩ (by omega) (by omega)
theorem aHB (S : cI p t L H) : ∃ R, Grows p H R ∧ eK p H R = R ∧ mD F t F (fS p) = some R ∧ nU F L F (fS p) = some R := by
 have w := (aA6 _ (dA.bd S (aBB S))).1
 exact grow S 4800 F (fS p) ⟨aBB S, noneM_KU, aDk S (uF S), fun U hU _ => aDk S hU⟩ (by omega) (by show _ < 4000000; omega)
end Go.Proofs.YtmnbfgeljmhekaaGreat
namespace Go.Proofs.YtmnbfgeljmhekaaGreat
open Go.SX Go.SW
theorem aGa {W : World} {a : Addr} {c : Value} (h : W.cell? a = some c) : (jN W).cell a = some c := by
 unfold World.cell? at h
 unfold Mem.cell vK jN
 cases hb : W.heap[a.block]? with
 | none => rw [hb] at h; cases h
 | some o =>
  rw [hb] at h
  cases o with
  | cells c t fr =>
   dsimp only at h ⊢
   first
    | exact h
    | (cases hs : a.spot with
      | none => rw [hs] at h; simpa using h
      | some s => rw [hs] at h; simp at h)
  | _ => cases h
theorem aFf {H : Type} {d : DataW H} {l : List (DataW H)} (h : d ∈ l) : Rows.uptoBulk d ≤ Rows.uptoBulkAll l := by
 induction l with
 | nil => cases h
 | cons x r ih =>
  simp only [Rows.uptoBulkAll]
  cases h with
  | head => omega
  | tail _ e => have := ih e; omega
theorem bulk_one {H : Type} (d : DataW H) : 1 ≤ Rows.uptoBulk d := by
 cases d with
 | lit l => cases l <;> simp [Rows.uptoBulk]
 | _ => simp [Rows.uptoBulk]
section
variable {H : Type} {enc : TypeId × Value → H} {P : Program} {W : World}
def Rd (enc : TypeId × Value → H) (P : Program) (W : World) (n : Nat) {α : Type} (T : Ty α) (t : TypeId) (μ : α → Nat) (S : α → Prop) : Prop :=
 ∀ cs x, DataW.trod enc P W 0 (fun _ => true) true n t cs = some x → Rows.uptoBulk x.1 ≤ 1048576 → ∃ a, bH (T.leafs a) (jN W) cs ∧ μ a ≤ Rows.uptoBulk x.1 ∧ S a
def RdF (enc : TypeId × Value → H) (P : Program) (W : World) (n : Nat) (fs : List Field) (o e : Nat) {β : Type} (L : β → List Fact) (μ : β → Nat) (S : β → Prop) : Prop :=
 ∀ (cs : List Value) xs, cs.length = e → (fs.mapM fun f => DataW.trod enc P W 0 (fun _ => true) true n f.type ((cs.drop f.offset).take (P.cellsOf f.type))) = some xs → Rows.uptoBulkAll (xs.map (·.1)) ≤ 1048576 → ∃ b, bH (L b) (jN W) (cs.drop o) ∧ μ b ≤ Rows.uptoBulkAll (xs.map (·.1)) ∧ S b
theorem pY {α : Type} {T : Ty α} {t : TypeId} {μ : α → Nat} {S : α → Prop} : Rd enc P W 0 T t μ S := fun cs x h => by cases h
theorem qZ {n e : Nat} : RdF enc P W n [] e e (β := Unit) (fun _ => []) (fun _ => 0) (fun _ => True) := fun cs xs hl h hb => ⟨(), by rw [List.drop_of_length_le (by omega)]; rfl, Nat.zero_le _, trivial⟩
theorem aFl {α β : Type} {f : α → Option β} {x : α} {l : List α} {ys : List β} (h : (x :: l).mapM f = some ys) : ∃ y r, f x = some y ∧ l.mapM f = some r ∧ ys = y :: r := by
 rw [List.mapM_cons] at h
 cases hx : f x with
 | none => rw [hx] at h; cases h
 | some y =>
  cases hl : l.mapM f with
  | none => rw [hx, hl] at h; cases h
  | some r => rw [hx, hl] at h; cases h; exact ⟨y, r, rfl, rfl, rfl⟩
theorem fC {n o e : Nat} {f : Field} {fs : List Field} {α β : Type} {T : Ty α} {μ : α → Nat} {S : α → Prop} {L : β → List Fact} {ν : β → Nat} {R : β → Prop} (h : Rd enc P W n T f.type μ S) (ho : f.offset = o) (hz : P.cellsOf f.type = T.sz) (k : RdF enc P W n fs (o + T.sz) e L ν R) :
  RdF enc P W n (f :: fs) o e (fun x : α × β => T.leafs x.1 ++ L x.2) (fun x => μ x.1 + ν x.2) (fun x => S x.1 ∧ R x.2) := fun cs xs hl hm hb => by
 obtain ⟨y, r, h1, h2, rfl⟩ := aFl hm
 simp only [List.map_cons, Rows.uptoBulkAll] at hb
 obtain ⟨a, a1, a2, a3⟩ := h _ _ h1 (by omega)
 obtain ⟨b, b1, b2, b3⟩ := k cs r hl h2 (by omega)
 refine ⟨(a, b), ?_, by simp only [List.map_cons, Rows.uptoBulkAll]; omega, a3, b3⟩
 have := a1.append b1
 rw [ho, hz, ← List.drop_drop, List.take_append_drop] at this
 exact this
theorem qW {n e : Nat} {α β : Type} {T : Ty α} {t : TypeId} {fs : Array Field} {μ : α → Nat} {S : α → Prop} {L : β → List Fact} {ν : β → Nat} {R : β → Prop} (mk : β → α) (ht : P.underlying t = some (.struct fs)) (hc : P.cellsOf t = e) (k : RdF enc P W n fs.toList 0 e L ν R)
  (hL : ∀ b, T.leafs (mk b) = L b) (hμ : ∀ b, μ (mk b) ≤ ν b + 1) (hS : ∀ b, R b → ν b + 1 ≤ 1048576 → S (mk b)) : Rd enc P W (n + 1) T t μ S := fun cs x h hb => by
 rw [DataW.trod_step] at h
 unfold DataW.trodStep at h
 rw [ht] at h
 dsimp only at h
 split at h
 ·rename_i hcs
  cases hm : (fs.toList.mapM fun f => DataW.trod enc P W 0 (fun _ => true) true n f.type ((cs.drop f.offset).take (P.cellsOf f.type))) with
  | none => rw [hm] at h; cases h
  | some xs =>
   rw [hm] at h
   cases h
   simp only [Rows.uptoBulk] at hb
   obtain ⟨b, b1, b2, b3⟩ := k cs xs (by omega) hm (by omega)
   rw [List.drop_zero] at b1
   have := hμ b
   refine ⟨mk b, by rw [hL]; exact b1, by simp only [Rows.uptoBulk]; omega, hS b b3 (by omega)⟩
 ·cases h
theorem rd_int {n : Nat} {t : TypeId} {k : IntKind} (ht : P.underlying t = some (.int k)) : Rd enc P W n (aB k) t (fun _ => 1) (fun i => (Lit.int k i).wf = true) := fun cs x h hb => by
 obtain _ | n := n
 ·cases h
 rw [DataW.trod_step] at h
 unfold DataW.trodStep at h
 rw [ht] at h
 match cs, h with
 | [.int k' i], h =>
  dsimp only at h
  split at h
  ·rename_i hc
   obtain ⟨rfl, hw⟩ := hc
   cases h
   exact ⟨i, ⟨_, [], rfl, rfl, rfl⟩, Nat.le_refl _, hw⟩
  ·cases h
theorem rd_str {n : Nat} {t : TypeId} (ht : P.underlying t = some .string) : Rd enc P W n aN t (fun s => s.size + 1) (fun s => s.size ≤ 1048576) := fun cs x h hb => by
 obtain _ | n := n
 ·cases h
 rw [DataW.trod_step] at h
 unfold DataW.trodStep at h
 rw [ht] at h
 match cs, h with
 | [.string s], h =>
  dsimp only at h
  split at h
  ·cases h
   have e : s.data.toList.length = s.size := rfl
   simp only [Rows.uptoBulk] at hb
   exact ⟨s, ⟨_, [], rfl, rfl, rfl⟩, by simp only [Rows.uptoBulk]; omega, by omega⟩
  ·cases h
def msum {α : Type} (μ : α → Nat) : List α → Nat
 | [] => 0
 | a :: l => μ a + msum μ l
theorem aDn {α : Type} {f : Nat → Option α} {n : Nat} {l : List α} (h : (List.range n).mapM f = some l) : l.length = n ∧ ∀ i, i < n → ∃ y, l[i]? = some y ∧ f i = some y := by
 have g : ∀ (ks : List Nat) (l : List α), ks.mapM f = some l → l.length = ks.length ∧ ∀ (i k : Nat), ks[i]? = some k → ∃ y, l[i]? = some y ∧ f k = some y := fun ks => by
  induction ks with
  | nil => intro l h; cases h; exact ⟨rfl, fun i k h => by simp at h⟩
  | cons k ks ih =>
   intro l h
   obtain ⟨y, r, h1, h2, rfl⟩ := aFl h
   obtain ⟨a, b⟩ := ih r h2
   refine ⟨by simp [a], fun i q hq => ?_⟩
   cases i with
   | zero => simp at hq; subst hq; exact ⟨y, rfl, h1⟩
   | succ i => exact b i q (by simpa using hq)
 obtain ⟨a, b⟩ := g _ _ h
 exact ⟨by simpa using a, fun i hi => b i i (by simp [hi])⟩
theorem aHj {W : World} {b z : Nat} {a : Addr} {cs : List Value} (h : W.cells? b a z = some cs) : ∀ (j : Nat) c, cs[j]? = some c → W.cell? (a.add j) = some c := by
 unfold World.cells? at h
 split at h
 ·obtain ⟨h1, h2⟩ := aDn h
  intro j c hj
  have := (List.getElem?_eq_some_iff.1 hj).1
  obtain ⟨y, y1, y2⟩ := h2 j (by omega)
  rw [hj] at y1; cases y1; exact y2
 ·cases h
theorem aEI {α γ : Type} {Q : γ → α → Prop} : ∀ (l : List γ), (∀ c ∈ l, ∃ a, Q c a) → ∃ r : List α, r.length = l.length ∧ ∀ (i : Nat) c, l[i]? = some c → ∃ a, r[i]? = some a ∧ Q c a
 | [], _ => ⟨[], rfl, fun i c h => by simp at h⟩
 | c :: l, h => by
  obtain ⟨a, ha⟩ := h c (.head _)
  obtain ⟨r, h1, h2⟩ := aEI l (fun c hc => h c (.tail _ hc))
  refine ⟨a :: r, by simp [h1], fun i q hq => ?_⟩
  cases i with
  | zero => simp at hq; subst hq; exact ⟨a, rfl, ha⟩
  | succ i => exact h2 i q (by simpa using hq)
theorem aDj {α : Type} {μ : α → Nat} : ∀ {r : List α} {ds : List (DataW H)}, r.length = ds.length → (∀ (i : Nat) d a, ds[i]? = some d → r[i]? = some a → μ a ≤ Rows.uptoBulk d) → msum μ r ≤ Rows.uptoBulkAll ds ∧ r.length ≤ Rows.uptoBulkAll ds
 | [], [], _, _ => ⟨Nat.zero_le _, Nat.zero_le _⟩
 | a :: r, d :: ds, hl, h => by
  obtain ⟨h1, h2⟩ := aDj (r := r) (ds := ds) (by simpa using hl) (fun i d a hd ha => h (i + 1) d a (by simpa using hd) (by simpa using ha))
  have := h 0 d a rfl rfl
  have := bulk_one d
  simp only [msum, Rows.uptoBulkAll, List.length_cons]; omega
theorem rd_sl {n : Nat} {t e : TypeId} {α : Type} {T : Ty α} {μ : α → Nat} {S : α → Prop} (ht : P.underlying t = some (.slice e)) (hz : P.cellsOf e = T.sz) (h : Rd enc P W n T e μ S) : Rd enc P W (n + 1) (tSl T) t (fun l => msum μ l + 1) (fun l => l.length ≤ 1048576 ∧ ∀ a ∈ l, S a) := fun cs x hx hb => by
 rw [DataW.trod_step] at hx
 unfold DataW.trodStep at hx
 rw [ht] at hx
 match cs, hx with
 | [.slice none 0 0], hx =>
  cases hx
  exact ⟨[], ⟨_, [], rfl, eF (jN W) _ rfl, rfl⟩, Nat.le_refl _, by simp, fun a ha => by cases ha⟩
 | [.slice (some p) len cap], hx =>
  dsimp only at hx
  split at hx
  ·rename_i hc
   cases h1 : ((List.range len).mapM fun i => (W.cells? 0 (p.add (i * P.cellsOf e)) (P.cellsOf e)).bind (DataW.trod enc P W 0 (fun _ => true) true n e)) with
   | none => rw [h1] at hx; cases hx
   | some es =>
    rw [h1] at hx
    obtain ⟨aZ, _, rfl⟩ := Option.map_eq_some_iff.1 hx
    obtain ⟨l1, l2⟩ := aDn h1
    simp only [Rows.uptoBulk] at hb
    have each : ∀ y ∈ es, ∃ a, (μ a ≤ Rows.uptoBulk y.1 ∧ S a) ∧ ∀ i cs', W.cells? 0 (p.add (i * P.cellsOf e)) (P.cellsOf e) = some cs' → DataW.trod enc P W 0 (fun _ => true) true n e cs' = some y → True := fun y hy => by
     obtain ⟨i, hi, rfl⟩ := List.mem_iff_getElem.1 hy
     obtain ⟨y, y1, y2⟩ := l2 i (by omega)
     obtain ⟨cs', c1, c2⟩ := Option.bind_eq_some_iff.1 y2
     have e1 : es[i] = y := by rw [List.getElem?_eq_getElem hi] at y1; exact Option.some.inj y1
     have m1 : Rows.uptoBulk y.1 ≤ Rows.uptoBulkAll (es.map (·.1)) := aFf (List.mem_map_of_mem (by rw [← e1]; exact List.getElem_mem _))
     obtain ⟨a, a1, a2, a3⟩ := h _ _ c2 (by omega)
     exact ⟨a, ⟨by rw [e1]; exact a2, a3⟩, fun _ _ _ _ => trivial⟩
    have each2 : ∀ i ∈ List.range len, ∃ a, (∃ y, es[i]? = some y ∧ μ a ≤ Rows.uptoBulk y.1) ∧ S a ∧ T.at (jN W) (p.add (i * T.sz)) a := fun i hi => by
     obtain ⟨y, y1, y2⟩ := l2 i (by simpa using hi)
     obtain ⟨cs', c1, c2⟩ := Option.bind_eq_some_iff.1 y2
     have m1 : Rows.uptoBulk y.1 ≤ Rows.uptoBulkAll (es.map (·.1)) := aFf (List.mem_map_of_mem (List.mem_of_getElem? y1))
     obtain ⟨a, a1, a2, a3⟩ := h _ _ c2 (by omega)
     exact ⟨a, ⟨y, y1, a2⟩, a3, cs', a1, fun j c hj => by rw [← hz]; exact aGa (aHj c1 j c hj)⟩
    obtain ⟨r, r1, r2⟩ := aEI (List.range len) each2
    have rl : r.length = len := by simpa using r1
    have r3 : ∀ i, i < len → ∃ a, r[i]? = some a ∧ (∃ y, es[i]? = some y ∧ μ a ≤ Rows.uptoBulk y.1) ∧ S a ∧ T.at (jN W) (p.add (i * T.sz)) a := fun i hi => r2 i i (by simp [hi])
    obtain ⟨m1, m2⟩ := aDj (μ := μ) (r := r) (ds := es.map (·.1)) (by simp [rl, l1]) (fun i d a hd ha => by
     obtain ⟨a', a1, ⟨y, y1, y2⟩, _⟩ := r3 i (by have := (List.getElem?_eq_some_iff.1 ha).1; omega)
     rw [ha] at a1; cases a1
     rw [List.getElem?_map, y1] at hd; cases hd
     exact y2)
    refine ⟨r, ⟨_, [], rfl, ⟨fun i => p.add (i * T.sz), ⟨some p, cap, by rw [rl], by rw [rl]; exact hc.2.1, fun i _ => ⟨p, rfl, rfl⟩⟩, by omega, fun i a ha => ?_⟩, rfl⟩, by simp only [Rows.uptoBulk]; omega, by omega, fun a ha => ?_⟩
    ·obtain ⟨a', a1, _, _, a2⟩ := r3 i (by have := (List.getElem?_eq_some_iff.1 ha).1; omega)
     rw [ha] at a1; cases a1; exact a2
    ·obtain ⟨i, hi, rfl⟩ := List.mem_iff_getElem.1 ha
     obtain ⟨a', a1, _, a2, _⟩ := r3 i (by omega)
     rw [List.getElem?_eq_getElem hi] at a1; cases a1; exact a2
  ·cases hx
theorem Rd.mono {n : Nat} {α : Type} {T : Ty α} {t : TypeId} {μ ν : α → Nat} {S R : α → Prop} (h : Rd enc P W n T t μ S) (hμ : ∀ a, ν a ≤ μ a) (hS : ∀ a, S a → μ a ≤ 1048576 → R a) : Rd enc P W n T t ν R := fun cs x hx hb => by
 obtain ⟨a, a1, a2, a3⟩ := h cs x hx hb
 exact ⟨a, a1, Nat.le_trans (hμ a) a2, hS a a3 (by omega)⟩
theorem arg_st {α : Type} {T : Ty α} {t : TypeId} {μ : α → Nat} {S : α → Prop} {fs : Array Field} {r : Reach} {b0 : Nat} {v : Value} {d : DataW H} {ps : List MemPlace} (h : ∀ n, Rd enc P W n T t μ S) (ht : P.underlying t = some (.struct fs)) (hval : Value.okWide P W r b0 t v)
  (hd : DataW.Trod enc P W 0 (fun _ => true) true t v d ps) (hb : Rows.uptoBulk d ≤ 1048576) : ∃ a, (fSt T a).p (jN W) v ∧ S a := by
 unfold Value.okWide at hval
 rw [ht] at hval
 obtain ⟨cs, rfl, _⟩ := hval
 obtain ⟨n, hn⟩ := hd
 obtain ⟨a, a1, _, a2⟩ := h n _ _ hn hb
 exact ⟨a, ⟨cs.toList, by simp, a1⟩, a2⟩
end
end Go.Proofs.YtmnbfgeljmhekaaGreat
namespace Go.Proofs.YtmnbfgeljmhekaaGreat
open Go.SX Go.SW Go.Dt
section
variable {H : Type} {enc : TypeId × Value → H} {W : World}
abbrev RdP (enc : TypeId × Value → H) (W : World) (n : Nat) {α : Type} (T : Ty α) (t : TypeId) (μ : α → Nat) (S : α → Prop) : Prop := Rd enc Tryz.prog W n T t μ S
theorem iJ (n : Nat) {t : TypeId} (ht : Tryz.prog.underlying t = some (.int .i64)) : RdP enc W n (aB .i64) t (fun _ => 1) (fun _ => True) := (rd_int ht).mono (fun _ => Nat.le_refl _) (fun _ _ _ => trivial)
theorem qE {n : Nat} {t e : TypeId} {α : Type} {T : Ty α} {μ : α → Nat} {S : α → Prop} (ht : Tryz.prog.underlying t = some (.slice e)) (hz : Tryz.prog.cellsOf e = T.sz) (h : ∀ k, RdP enc W k T e μ S) : RdP enc W n (tSl T) t (fun l => msum μ l + 1) (fun l => l.length ≤ 1048576 ∧ ∀ a ∈ l, S a) := by
 cases n with
 | zero => exact pY
 | succ n => exact rd_sl ht hz (h n)
theorem aEP (n : Nat) {t e : TypeId} (ht : Tryz.prog.underlying t = some (.slice e)) (he : Tryz.prog.underlying e = some (.int .i64)) (hz : Tryz.prog.cellsOf e = 1) : RdP enc W n (tSl (aB .i64)) t (fun _ => 0) (fun l => l.length ≤ 1048576) :=
 (qE ht hz (fun k => iJ k he)).mono (fun _ => Nat.zero_le _) (fun _ h _ => h.1)
theorem xH : ∀ l : List ScopeExp, nL l = msum nE l
 | [] => rfl
 | a :: l => by simp only [nL, msum, xH l]
theorem aCQ (a b : Int) (c : List ScopeExp) : aW.leafs ⟨a, b, c⟩ = [aA .i64 a, aA .i64 b, fSl aW c] := by
 show [_, _, gG c] = _
 rw [iG]
theorem rd_exp : ∀ n : Nat, RdP enc W n aW 56 nE (fun e => nE e ≤ 1048576)
 | 0 => pY
 | 1 => fun cs x h hb => (qW (μ := nE) (S := fun e => nE e ≤ 1048576) (T := aW) (fun b : Int × Int × List ScopeExp × Unit => ⟨b.1, b.2.1, b.2.2.1⟩) Tryz.underlying56 (e := 3) (by kernel_rfl)
   (fC (iJ 0 Tryz.underlying54) rfl (by kernel_rfl) (fC (iJ 0 Tryz.underlying3) rfl (by kernel_rfl) (fC (T := tSl aW) (μ := fun l => msum nE l + 1) (S := fun _ => True) pY rfl (by kernel_rfl) qZ)))
   (fun b => aCQ b.1 b.2.1 b.2.2.1) (fun b => by simp only [nE, xH]; omega) (fun b _ hb => by simp only [nE, xH] at *; omega)) cs x h hb
 | n + 2 => fun cs x h hb => (qW (μ := nE) (S := fun e => nE e ≤ 1048576) (T := aW) (fun b : Int × Int × List ScopeExp × Unit => ⟨b.1, b.2.1, b.2.2.1⟩) Tryz.underlying56 (e := 3) (by kernel_rfl)
   (fC (iJ _ Tryz.underlying54) rfl (by kernel_rfl) (fC (iJ _ Tryz.underlying3) rfl (by kernel_rfl) (fC (rd_sl Tryz.underlying48 (by kernel_rfl) (rd_exp n)) rfl (by kernel_rfl) qZ)))
   (fun b => aCQ b.1 b.2.1 b.2.2.1) (fun b => by simp only [nE, xH]; omega) (fun b _ hb => by simp only [nE, xH] at *; omega)) cs x h hb
theorem aGn : ∀ n : Nat, RdP enc W n aL 51 (fun _ => 0) (fun x => x.Args.length ≤ 2000000 ∧ x.Kids.length ≤ 2000000 ∧ ∀ e ∈ x.Args, nE e ≤ 2000000)
 | 0 => pY
 | n + 1 => qW (T := aL) (fun b : Int × Int × List ScopeExp × List Int × Unit => ⟨b.1, b.2.1, b.2.2.1, b.2.2.2.1⟩) Tryz.underlying51 (e := 4) (by kernel_rfl)
   (fC (iJ n Tryz.underlying47) rfl (by kernel_rfl) (fC (iJ n Tryz.underlying3) rfl (by kernel_rfl) (fC (qE Tryz.underlying48 (by kernel_rfl) rd_exp) rfl (by kernel_rfl) (fC (aEP n Tryz.underlying49 Tryz.underlying3 (by kernel_rfl)) rfl (by kernel_rfl) qZ))))
   (fun _ => rfl) (fun _ => Nat.zero_le _) (fun b h _ => ⟨by have := h.2.2.1.1; show b.2.2.1.length ≤ _; omega, by have := h.2.2.2.1; show b.2.2.2.1.length ≤ _; omega, fun e he => Nat.le_trans (h.2.2.1.2 e he) (by omega)⟩)
theorem aGX : ∀ n : Nat, RdP enc W n aY 110 (fun _ => 0) (fun _ => True)
 | 0 => pY
 | n + 1 => qW (T := aY) (fun b : Int × Int × Unit => ⟨b.1, b.2.1⟩) Tryz.underlying110 (e := 2) (by kernel_rfl)
   (fC (iJ n Tryz.underlying3) rfl (by kernel_rfl) (fC (iJ n Tryz.underlying3) rfl (by kernel_rfl) qZ))
   (fun _ => rfl) (fun _ => Nat.zero_le _) (fun _ _ _ => trivial)
theorem aGG : ∀ n : Nat, RdP enc W n bI 102 (fun _ => 0) (fun _ => True)
 | 0 => pY
 | n + 1 => qW (T := bI) (fun b : Int × Int × Unit => ⟨b.1, b.2.1⟩) Tryz.underlying102 (e := 2) (by kernel_rfl)
   (fC (iJ n Tryz.underlying3) rfl (by kernel_rfl) (fC (iJ n Tryz.underlying3) rfl (by kernel_rfl) qZ))
   (fun _ => rfl) (fun _ => Nat.zero_le _) (fun _ _ _ => trivial)
theorem aGV : ∀ n : Nat, RdP enc W n bC 105 (fun _ => 0) (fun x => x.Joins.length ≤ 2000000)
 | 0 => pY
 | n + 1 => qW (T := bC) (fun b : Int × List Int × Int × Unit => ⟨b.1, b.2.1, b.2.2.1⟩) Tryz.underlying105 (e := 3) (by kernel_rfl)
   (fC (iJ n Tryz.underlying3) rfl (by kernel_rfl) (fC (aEP n Tryz.underlying49 Tryz.underlying3 (by kernel_rfl)) rfl (by kernel_rfl) (fC (iJ n Tryz.underlying3) rfl (by kernel_rfl) qZ)))
   (fun _ => rfl) (fun _ => Nat.zero_le _) (fun b h _ => by have := h.2.1; show b.2.1.length ≤ _; omega)
theorem aH3 : ∀ n : Nat, RdP enc W n aJ 99 (fun _ => 0) (smD)
 | 0 => pY
 | n + 1 => qW (T := aJ) (fun b : List ScopeChan × List ScopeSpot × List ScopeRule × Unit => ⟨b.1, b.2.1, b.2.2.1⟩) Tryz.underlying99 (e := 3) (by kernel_rfl)
   (fC (qE Tryz.underlying95 (by kernel_rfl) aGX) rfl (by kernel_rfl) (fC (qE Tryz.underlying96 (by kernel_rfl) aGG) rfl (by kernel_rfl) (fC (qE Tryz.underlying97 (by kernel_rfl) aGV) rfl (by kernel_rfl) qZ)))
   (fun _ => rfl) (fun _ => Nat.zero_le _) (fun b h _ => ⟨by have := h.1.1; show b.1.length ≤ _; omega, by have := h.2.1.1; show b.2.1.length ≤ _; omega, by have := h.2.2.1.1; show b.2.2.1.length ≤ _; omega, h.2.2.1.2⟩)
theorem aHI : ∀ n : Nat, RdP enc W n dG 26 (fun _ => 0) (SmP)
 | 0 => pY
 | n + 1 => qW (T := dG) (fun b : List ByteArray × List ScopeNode × List ScopeDef × Int × Unit => ⟨b.1, b.2.1, b.2.2.1, b.2.2.2.1⟩) Tryz.underlying26 (e := 4) (by kernel_rfl)
   (fC (qE (S := fun s : ByteArray => s.size ≤ 1048576) Tryz.underlying22 (by kernel_rfl) (fun k => (rd_str (n := k) Tryz.underlying9))) rfl (by kernel_rfl) (fC (qE Tryz.underlying23 (by kernel_rfl) aGn) rfl (by kernel_rfl) (fC (qE Tryz.underlying24 (by kernel_rfl) aH3) rfl (by kernel_rfl) (fC (iJ n Tryz.underlying3) rfl (by kernel_rfl) qZ))))
   (fun _ => rfl) (fun _ => Nat.zero_le _) (fun b h _ => ⟨by have := h.2.1.1; show b.2.1.length ≤ _; omega, by have := h.2.2.1.1; show b.2.2.1.length ≤ _; omega, by have := h.1.1; show b.1.length ≤ _; omega, fun x hx => Nat.le_trans (h.1.2 x hx) (by omega), h.2.1.2, h.2.2.1.2⟩)
end
end Go.Proofs.YtmnbfgeljmhekaaGreat
set_option maxRecDepth 100000
namespace Go.Proofs.YtmnbfgeljmhekaaGreat
open Go.SX Go.SW Go.Dt
theorem works_ev : wL 4000000 = some true := by kernel_rfl
theorem works_eq : wL F = some true := works_ev
end Go.Proofs.YtmnbfgeljmhekaaGreat
set_option maxRecDepth 100000
namespace Go.Proofs.YtmnbfgeljmhekaaGreat
open Go.SX Go.SW Go.Dt
variable {p : ScopeProg} {t : Usage_text} {L : Ref05_Look} {H : Nat} {tab tab' : List UsageDef} {d n : Int} {e : E} {x : ScopeNode} {D : ScopeDef}
def eV (R : List UsageDef) (j : Nat) : UsageDef := (R[j]?).getD ⟨[], [], []⟩
def lU (X : UsageDef) (c : Nat) : Int := (X.Chans[c]?).getD 0
noncomputable def iD (p : ScopeProg) (H : Nat) (X : UsageDef) (d : Int) (c : Nat) : Int := if lU X c = 3 ∧ begV p H d (c : Int) = 1 then 2 else lU X c
noncomputable def gT (p : ScopeProg) (H : Nat) (X : UsageDef) (d : Int) : UsageDef := { X with Chans := (List.range X.Chans.length).map (iD p H X d) }
noncomputable def kF (p : ScopeProg) (H : Nat) (R : List UsageDef) : List UsageDef := (List.range R.length).map fun j => gT p H (eV R j) (j : Int)
theorem yM {α : Type} {z : α} (l : List α) : (List.range l.length).map (fun j => (l[j]?).getD z) = l := by
 apply List.ext_getElem?
 intro j
 by_cases hj : j < l.length
 ·rw [qR hj, List.getElem?_eq_getElem hj]; rfl
 ·rw [List.getElem?_eq_none (by simp; omega), List.getElem?_eq_none (by omega)]
theorem zJ {α : Type} {f g : Nat → α} {n : Nat} : (List.range n).map (fun c => if c < 0 then f c else g c) = (List.range n).map g := List.map_congr_left fun c _ => if_neg (by omega)
theorem xT {α : Type} {f g : Nat → α} {n : Nat} : (List.range n).map (fun c => if c < n then f c else g c) = (List.range n).map f := List.map_congr_left fun c hc => if_pos (List.mem_range.1 hc)
theorem zQ {α : Type} {f g : Nat → α} {n i : Nat} : ((List.range n).map fun c => if c < i then f c else g c).set i (f i) = (List.range n).map fun c => if c < i + 1 then f c else g c := by
 rw [vT]
 apply List.map_congr_left
 intro c _
 by_cases q : c = i
 ·subst q; rw [if_pos rfl, if_pos (by omega)]
 ·rw [if_neg q]
  by_cases q2 : c < i
  ·rw [if_pos q2, if_pos (by omega)]
  ·rw [if_neg q2, if_neg (by omega)]
theorem yS {α : Type} {f g : Nat → α} {n i : Nat} (h : f i = g i) : ((List.range n).map fun c => if c < i then f c else g c) = (List.range n).map fun c => if c < i + 1 then f c else g c := by
 apply List.map_congr_left
 intro c _
 by_cases q : c = i
 ·subst q; rw [if_neg (by omega), if_pos (by omega), h]
 ·by_cases q2 : c < i
  ·rw [if_pos q2, if_pos (by omega)]
  ·rw [if_neg q2, if_neg (by omega)]
theorem fin3_p (S : cI p t L H) (hh : eE p H d n e x D) (ht : idx t.heads d = some n) {X : UsageDef} (ok1 : okU1 D X) {T : List UsageDef} (hT : ∃ z, idx T d = some z) : nM F t T d X F X.Chans 0 = some (T.set d.toNat (gT p H X d)) := by
 have ho := dV hh.ok
 have hl := ok1.chans
 obtain ⟨z, hz⟩ := hT
 have e0 : X.Chans = (List.range X.Chans.length).map fun c => if c < 0 then iD p H X d c else lU X c := by rw [zJ]; exact (yM X.Chans).symm
 conv => lhs; rw [e0]
 rw [show gT p H X d = { X with Chans := (List.range X.Chans.length).map fun c => if c < X.Chans.length then iD p H X d c else lU X c } from by rw [xT]; rfl]
 refine gO (fun k (s : List Int × Int) => nM F t T d X k s.1 s.2) X.Chans.length (fun i => ((List.range X.Chans.length).map fun c => if c < i then iD p H X d c else lU X c, (i : Int))) _ (fun k i hi => ?_) (fun k => ?_) (by show _ < 4000000; omega)
 ·dsimp only
  obtain ⟨b1, _⟩ := aCA S hh (c := i) (by omega)
  rw [nM, if_pos (by omega), kA hi, bsm, if_neg (show ¬ i < i from by omega)]
  by_cases y3 : lU X i = 3
  ·rw [if_pos y3, ht, bsm, aBg S hh ht (by omega), bsm, b1, bsm]
   by_cases b : begV p H d i = 1
   ·rw [if_pos b, hz, bsm, bsm, bsm, aV (by omega), bsm, Int.toNat_natCast]
    congr 1
    rw [show (2 : Int) = iD p H X d i from by unfold iD; rw [if_pos ⟨y3, b⟩]]
    exact zQ
   ·rw [if_neg b, bsm, aV (by omega), bsm]
    congr 1
    exact yS (by unfold iD; rw [if_neg (fun q => b q.2)])
  ·rw [if_neg y3, bsm, aV (by omega), bsm]
   congr 1
   exact yS (by unfold iD; rw [if_neg (fun q => y3 q.1)])
 ·dsimp only
  rw [nM, if_neg (by omega)]
theorem aCT {α : Type} {T : List α} {d : Int} {z y : α} (h : idx T d = some z) : idx (T.set d.toNat y) d = some y := by
 have := fJ h
 obtain ⟨j, rfl⟩ : ∃ j : Nat, d = (j : Int) := ⟨d.toNat, by omega⟩
 rw [Int.toNat_natCast]
 exact cZ (by rw [List.getElem?_set_self (by omega)])
theorem vG {α : Type} {T : List α} {d : Int} {z : α} (h : idx T d = some z) : T.set d.toNat z = T := by
 apply List.ext_getElem?
 intro j
 rw [List.getElem?_set]
 have g := bW h
 split
 ·rename_i q; subst q; rw [if_pos (List.getElem?_eq_some_iff.1 g).1, g]
 ·rfl
theorem fin3_r (S : cI p t L H) (hh : eE p H d n e x D) (hL : idx L.Heads d = some n) {X : UsageDef} (ok1 : okU1 D X) {T : List UsageDef} (hT : idx T d = some X) : mQ F L d F T 0 = some (T.set d.toNat (gT p H X d)) := by
 have ho := dV hh.ok
 have hl := ok1.chans
 have e0 : T = T.set d.toNat { X with Chans := (List.range X.Chans.length).map fun c => if c < 0 then iD p H X d c else lU X c } := by
  rw [zJ, show (List.range X.Chans.length).map (lU X) = X.Chans from yM X.Chans]
  exact (vG hT).symm
 conv => lhs; rw [e0]
 rw [show gT p H X d = { X with Chans := (List.range X.Chans.length).map fun c => if c < X.Chans.length then iD p H X d c else lU X c } from by rw [xT]; rfl]
 refine gO (fun k (s : List UsageDef × Int) => mQ F L d k s.1 s.2) X.Chans.length (fun i => (T.set d.toNat { X with Chans := (List.range X.Chans.length).map fun c => if c < i then iD p H X d c else lU X c }, (i : Int))) _ (fun k i hi => ?_) (fun k => ?_) (by show _ < 4000000; omega)
 ·dsimp only
  obtain ⟨_, b1⟩ := aCA S hh (c := i) (by omega)
  rw [mQ, aCT hT, bsm, if_pos (by simp; omega), bsm, kA hi, bsm, if_neg (show ¬ i < i from by omega)]
  by_cases y3 : lU X i = 3
  ·rw [if_pos y3, hL, bsm, aC3 S hh hL (by omega), bsm, b1, bsm]
   by_cases b : begV p H d i = 1
   ·rw [if_pos b, bsm, bsm, bsm, aV (by omega), bsm, Int.toNat_natCast, List.set_set]
    congr 3
    rw [show (2 : Int) = iD p H X d i from by unfold iD; rw [if_pos ⟨y3, b⟩]]
    exact zQ
   ·rw [if_neg b, bsm, aV (by omega), bsm, List.set_set]
    congr 3
    exact yS (by unfold iD; rw [if_neg (fun q => b q.2)])
  ·rw [if_neg y3, bsm, aV (by omega), bsm, List.set_set]
   congr 3
   exact yS (by unfold iD; rw [if_neg (fun q => y3 q.1)])
 ·dsimp only
  rw [mQ, aCT hT, bsm, if_neg (by simp), List.set_set]
theorem fin_p (S : cI p t L H) (hk : dA p tab) : jP F t tab F tab 0 = some (kF p H tab) := by
 have dl := S.defs
 have tl := hk.1
 have e0 : tab = (List.range tab.length).map fun j => if j < 0 then gT p H (eV tab j) (j : Int) else eV tab j := by rw [zJ]; exact (yM tab).symm
 rw [show kF p H tab = (List.range tab.length).map fun j => if j < tab.length then gT p H (eV tab j) (j : Int) else eV tab j from by rw [xT]; rfl]
 refine (congrArg (jP F t tab F · 0) e0).trans (gO (fun k (s : List UsageDef × Int) => jP F t tab k s.1 s.2) tab.length (fun i => ((List.range tab.length).map fun j => if j < i then gT p H (eV tab j) (j : Int) else eV tab j, (i : Int))) _ (fun k i hi => ?_) (fun k => ?_) (by show _ < 4000000; omega))
 ·dsimp only
  obtain ⟨n, e, x, D, hh, ht, _⟩ := S.headOf (d := (i : Int)) (by omega) (by omega)
  have hX : idx tab (i : Int) = some (eV tab i) := cZ (by unfold eV; rw [List.getElem?_eq_getElem hi]; rfl)
  have ok1 := hk.2 _ _ _ hh.hD hX
  have hT : idx ((List.range tab.length).map fun j => if j < i then gT p H (eV tab j) (j : Int) else eV tab j) (i : Int) = some (eV tab i) := by rw [kA hi, if_neg (by omega)]
  rw [jP, if_pos (by omega), hT, bsm, fin3_p S hh ht ok1 ⟨_, hT⟩, bsm, aV (by omega), bsm, Int.toNat_natCast]
  congr 1
  exact zQ (f := fun j => gT p H (eV tab j) (j : Int))
 ·dsimp only
  rw [jP, if_neg (by omega)]
theorem fin_r (S : cI p t L H) (hk : dA p tab) : kJ F L F tab 0 = some (kF p H tab) := by
 have dl := S.defs
 have tl := hk.1
 have e0 : tab = (List.range tab.length).map fun j => if j < 0 then gT p H (eV tab j) (j : Int) else eV tab j := by rw [zJ]; exact (yM tab).symm
 rw [show kF p H tab = (List.range tab.length).map fun j => if j < tab.length then gT p H (eV tab j) (j : Int) else eV tab j from by rw [xT]; rfl]
 refine (congrArg (kJ F L F · 0) e0).trans (gO (fun k (s : List UsageDef × Int) => kJ F L k s.1 s.2) tab.length (fun i => ((List.range tab.length).map fun j => if j < i then gT p H (eV tab j) (j : Int) else eV tab j, (i : Int))) _ (fun k i hi => ?_) (fun k => ?_) (by show _ < 4000000; omega))
 ·dsimp only
  obtain ⟨n, e, x, D, hh, _, hL⟩ := S.headOf (d := (i : Int)) (by omega) (by omega)
  have hX : idx tab (i : Int) = some (eV tab i) := cZ (by unfold eV; rw [List.getElem?_eq_getElem hi]; rfl)
  have ok1 := hk.2 _ _ _ hh.hD hX
  have hT : idx ((List.range tab.length).map fun j => if j < i then gT p H (eV tab j) (j : Int) else eV tab j) (i : Int) = some (eV tab i) := by rw [kA hi, if_neg (by omega)]
  rw [kJ, if_pos (by simp; omega), fin3_r S hh hL ok1 hT, bsm, aV (by omega), bsm, Int.toNat_natCast]
  congr 1
  exact zQ (f := fun j => gT p H (eV tab j) (j : Int))
 ·dsimp only
  rw [kJ, if_neg (by simp)]
theorem finM_at {i : Nat} {X : UsageDef} (h : tab[i]? = some X) : (kF p H tab)[i]? = some (gT p H X (i : Int)) := by
 have := (List.getElem?_eq_some_iff.1 h).1
 rw [kF, qR this, eV, h]; rfl
theorem finM_len : (kF p H tab).length = tab.length := by simp [kF]
theorem aFo (hk : dA p tab) : dA p (kF p H tab) := by
 refine ⟨by rw [finM_len]; exact hk.1, fun i D X hD hX => ?_⟩
 have hi := fJ hD
 obtain ⟨X0, h0, o⟩ := qB hk hD
 have := finM_at (p := p) (H := H) (bW h0)
 rw [bW hX] at this
 cases this
 exact ⟨by rw [gT]; simp [o.chans], o.rules, o.args, o.many⟩
theorem aFX (S : cI p t L H) : ∃ R, Grows p H R ∧ eK p H R = R ∧ ((tV F t).bind fun y3 => (mD F t F y3).bind fun x1 => (jP F t x1 F x1 0).bind fun x4 => some (x4, (0 : Int))) = some (kF p H R, 0) ∧
  ((vC F p).bind fun y2 => (nU F L F y2).bind fun x1 => (kJ F L F x1 0).bind fun x4 => some x4) = some (kF p H R) := by
 obtain ⟨R, g, hR, a, b⟩ := aHB S
 exact ⟨R, g, hR, by rw [none_p S, bsm, a, bsm, fin_p S g.ok, bsm], by rw [none_r S, bsm, b, bsm, fin_r S g.ok, bsm]⟩
theorem same_nil : oX 4000000 [] [] = some true := by kernel_rfl
theorem aFC (hp : SmP p) : zH F p = some true := by
 have hpp : (⟨p.Free, p.Nodes, p.Defs, p.Main⟩ : ScopeProg) = p := rfl
 have key : ∃ T k, rL F p = some (T, k) ∧ wR F p = some (T, k) ∧ oX F T T = some true := by
  rw [rL, wR, hpp, check_eq hp, aH7 hp]
  cases h : eY p with
  | none => exact ⟨[], 2, rfl, rfl, same_nil⟩
  | some s =>
   obtain ⟨t, L, t1, l1, S⟩ := sees hp h
   obtain ⟨R, g, hR, a, b⟩ := aFX S
   obtain ⟨c, c1, c2⟩ := same_r S (aFo (H := p.Nodes.length) g.ok) (aFo (H := p.Nodes.length) g.ok)
   refine ⟨kF p p.Nodes.length R, 0, ?_, ?_, by rw [c1, c2.2 rfl]⟩
   ·rw [show (if (some s : Option VS).isSome = true then (0 : Int) else 2) = 0 from rfl, bsm (a := (0 : Int)), if_neg (show ¬ (0 : Int) ≠ 0 from fun q => q rfl), t1, bsm (a := t)]
    exact a
   ·rw [show (if (some s : Option VS).isSome = true then (0 : Int) else 2) = 0 from rfl, bsm (a := (0 : Int)), if_neg (show ¬ (0 : Int) ≠ 0 from fun q => q rfl), zI, hpp, l1, bsm (a := L), b, bsm]
 obtain ⟨T, k, h1, h2, h3⟩ := key
 rw [zH, hpp, h1, bsm, h2, bsm, h3, bsm, cond_true, if_pos rfl, works_eq, bsm, bsm]
end Go.Proofs.YtmnbfgeljmhekaaGreat
namespace Go.SW
open Go.SX
theorem aGB {w w' : World} (h : w.keptBut w' (fun _ => False)) {p : MemPlace} (hp : p.block < w.heap.size) : w.sameAt w' p := by
 obtain ⟨_, _, h⟩ := h
 cases p with
 | cell b off =>
  have := h b hp
  show w'.cell? _ = w.cell? _
  unfold World.cell?
  dsimp only at *
  cases h1 : w.heap[b]? with
  | none => rw [h1] at this; dsimp only at this; rw [this]
  | some o =>
   rw [h1] at this
   cases o with
   | cells c t fr =>
    cases h2 : w'.heap[b]? with
    | none => rw [h2] at this; cases this
    | some o' =>
     rw [h2] at this
     cases o' with
     | cells c' t' fr' =>
      dsimp only at this ⊢
      rw [this.2.2.2 off (fun f => f)]
     | _ => cases this
   | map es clock =>
    cases h2 : w'.heap[b]? with
    | none => rfl
    | some o' =>
     rw [h2] at this
     cases o' with
     | cells => cases this
     | _ => rfl
   | _ => dsimp only at this; rw [this]
 | map b =>
  have := h b hp
  show w'.heap[b]? = w.heap[b]?
  cases h1 : w.heap[b]? with
  | none => rw [h1] at this; exact this
  | some o =>
   rw [h1] at this
   cases o with
   | cells c t fr =>
    cases h2 : w'.heap[b]? with
    | none => rw [h2] at this; cases this
    | some o' =>
     rw [h2] at this
     cases o' with
     | cells c' t' fr' =>
      dsimp only at this
      obtain ⟨rfl, rfl, hs, hc⟩ := this
      have : c' = c := Array.ext_getElem? fun j => hc j (fun f => f)
      rw [this]
     | _ => cases this
   | map es clock =>
    cases h2 : w'.heap[b]? with
    | none => rw [h2] at this; cases this
    | some o' =>
     rw [h2] at this
     cases o' with
     | map es' clock' =>
      rcases this with f | ⟨rfl, rfl⟩
      ·exact f.elim
      ·rfl
     | _ => cases this
   | _ => exact this
theorem aFa {H : Type} {enc : TypeId × Value → H} {P : Program} {W W' : World} (hl : laidOutB P = true) (hm : mapsRowed P = true) (hz : ∀ t e, t < P.types.size → P.underlying t = some (.slice e) → 0 < P.cellsOf e) (hk : W.keptBut W' (fun _ => False)) :
  ∀ {ts : List TypeId} {vs : List Value} {ds : List (DataW H)} {ps : List MemPlace}, (∀ t ∈ ts, t < P.types.size) → DataW.TrodAll enc P W 0 (fun _ => true) true ts vs ds ps → DataW.TrodAll enc P W' 0 (fun b => decide (b < W.heap.size)) true ts vs ds ps
 | [], [], [], _, _, h => h
 | t :: _, _ :: _, _ :: _, ps, ht, h => by
  have hlt := h.lt
  obtain ⟨p, q, ⟨n, hn⟩, h2, e⟩ := h
  refine ⟨p, q, ⟨n, ?_⟩, aFa hl hm hz hk (fun t h => ht t (.tail _ h)) h2, e⟩
  have hp : ∀ x ∈ p, x.block < W.heap.size := fun x hx => hlt x (by rw [e]; exact List.mem_append_left _ hx)
  exact DataW.trod_stays (kids_rows hl hm) (fun a b => hz _ _ a b) (fun f => by cases f) (ht t (.head _)) hn (fun x hx => aGB hk (hp x hx)) (fun x hx => decide_eq_true (hp x hx))
 | [], _ :: _, _, _, _, h => h.elim
 | [], [], _ :: _, _, _, h => h.elim
 | _ :: _, [], _, _, _, h => h.elim
 | _ :: _, _ :: _, [], _, _, h => h.elim
end Go.SW
