/- Parts of the proof: lemmas, and the steps through the program. -/
import Derived.Test.YtpgkejpnhnoipaaGreatFc4
import Derived.Test.YtpgkejpnhnoipaaGreatRows
import Derived.ChangeSame
import Derived.ChangeReads
import Derived.ReadAgain
import Derived.ChangeStays
import Derived.ChangeBears
set_option linter.unusedVariables false
set_option linter.unusedSimpArgs false
set_option maxRecDepth 100000
set_option maxHeartbeats 2000000
namespace Go.Proofs.YtpgkejpnhnoipaaGreat
open Go.SX Go.SW Go.Dt
theorem aF8 {op : Int} (h : op = 1 \/ op = 7) : jR op = some (.iface 338 (.int .i64 0)) := by
 rcases h with rfl | rfl <;> rfl
theorem aGA : jR 3 = some (.iface 338 (.int .i64 2)) := rfl
theorem aGz : jR 2 = some (.iface 302 (.agg ⟨[]⟩)) := rfl
theorem aF9 : jR 5 = some (.iface 339 (.agg ⟨[]⟩)) := rfl
theorem aHp {op : Int} (h : op = 6 \/ op = 8) : jR op = some (.iface 303 (.agg ⟨[]⟩)) := by
 rcases h with rfl | rfl <;> rfl
theorem aGm : jR 4 = some (.iface 340 (.agg ⟨[]⟩)) := rfl
theorem aFX {op : Int} (h : shp op = none) : jR op = some .nilIface := by
 unfold shp at h
 rw [jR]
 split at h; · cases h
 split at h; · cases h
 split at h; · cases h
 split at h; · cases h
 split at h; · cases h
 split at h; · cases h
 rename_i h1 h2 h3 h4 h5 h6
 rw [a1U (by omega), bsm, a1R (by omega), a1P, a1U h2, a1U h3, a1U h4, a1U (by omega), bsm, a1R (by omega), a1P, a1U h6]
def iG (m : Nat) (a0 : Am) (a1 a2 : Int) (y7 : Ae) (y8 : Value) : Option (Am ⊕ Value) :=
 ((iF y8).bind fun x1 =>
 bif !x1 then
  (mA y8).bind fun y9 =>
  (bN (decide ((y7.AU.length : Int) = y9))).bind fun y10 =>
  match y10 with
  | Sum.inr pv4 => (some (Sum.inr pv4)).bind fun r => some (Sum.inr r)
  | Sum.inl _ =>
  some (Sum.inl ())
 else
  (bN false).bind fun y11 =>
  match y11 with
  | Sum.inr pv5 => (some (Sum.inr pv5)).bind fun r => some (Sum.inr r)
  | Sum.inl _ =>
  some (Sum.inl ())).bind fun o => match o with
 | Sum.inr r => some r
 | Sum.inl _ =>
 ((eO 302 (.agg #[]) y8).bind fun y12 =>
 match y12 with
 | (_, x3) =>
 bif x3 then
  if 0 <= y7.N then
   (bN (decide (y7.N < a2))).bind fun y13 =>
   match y13 with
   | Sum.inr pv6 => (some (Sum.inr pv6)).bind fun r => some (Sum.inr r)
   | Sum.inl _ =>
   some (Sum.inl (min (y7.Aa.length : Int) 3))
  else
   (bN false).bind fun y14 =>
   match y14 with
   | Sum.inr pv7 => (some (Sum.inr pv7)).bind fun r => some (Sum.inr r)
   | Sum.inl _ =>
   some (Sum.inl (min (y7.Aa.length : Int) 3))
 else
  (eO 303 (.agg #[]) y8).bind fun y15 =>
  match y15 with
  | (_, x4) =>
  bif x4 then
   if 0 <= y7.N then
    (bN (decide (y7.N < a2))).bind fun y16 =>
    match y16 with
    | Sum.inr pv8 => (some (Sum.inr pv8)).bind fun r => some (Sum.inr r)
    | Sum.inl _ =>
    some (Sum.inl 0)
   else
    (bN false).bind fun y17 =>
    match y17 with
    | Sum.inr pv9 => (some (Sum.inr pv9)).bind fun r => some (Sum.inr r)
    | Sum.inl _ =>
    some (Sum.inl 0)
  else
   (eO 340 (.agg #[]) y8).bind fun y18 =>
   match y18 with
   | (_, x5) =>
   bif x5 then
    if 0 <= y7.N then
     if y7.N < (a0.p.AC.length : Int) then
      (idx a0.AZ y7.N).bind fun y19 =>
      (bN (!y19)).bind fun y20 =>
      match y20 with
      | Sum.inr pv10 => (some (Sum.inr pv10)).bind fun r => some (Sum.inr r)
      | Sum.inl _ =>
      some (Sum.inl 0)
     else
      (bN false).bind fun y21 =>
      match y21 with
      | Sum.inr pv11 => (some (Sum.inr pv11)).bind fun r => some (Sum.inr r)
      | Sum.inl _ =>
      some (Sum.inl 0)
    else
     (bN false).bind fun y22 =>
     match y22 with
     | Sum.inr pv12 => (some (Sum.inr pv12)).bind fun r => some (Sum.inr r)
     | Sum.inl _ =>
     some (Sum.inl 0)
   else
    (eO 339 (.agg #[]) y8).bind fun y23 =>
    match y23 with
    | (_, x6) =>
    bif x6 then
     (bN (decide (y7.N = 0))).bind fun y24 =>
     match y24 with
     | Sum.inr pv13 => (some (Sum.inr pv13)).bind fun r => some (Sum.inr r)
     | Sum.inl _ =>
     some (Sum.inl 1)
    else
     (bN (decide (y7.N = 0))).bind fun y25 =>
     match y25 with
     | Sum.inr pv14 => (some (Sum.inr pv14)).bind fun r => some (Sum.inr r)
     | Sum.inl _ =>
     some (Sum.inl 0)).bind fun o => match o with
 | Sum.inr r => some r
 | Sum.inl x2 => jV m a0 a1 a2 y7 x2
section
variable {p : AM} {f m : Nat}
theorem rA {s : VS} (hs : WS p s) {n z : Int} {x : Ae} (h : 0 <= n /\ n < (p.AB.length : Int) /\ idx s.AX n = some false) (hx : idx p.AB n = some x) {v : Value} (hv : jR x.Op = some v) :
  eZ (m + 1) ⟨p, s.sz, s.AX, s.AY⟩ n z = iG m ⟨p, s.sz, s.AX, s.AY⟩ n z x v := by
 obtain ⟨h0, h1, h2⟩ := h
 obtain ⟨b, hb⟩ := iB (xs := s.sz) h0 (by rw [hs.sz]; exact h1)
 rw [eZ, a1V h0]
 dsimp only
 rw [a1V h1, h2, bsm, show (!false) = true from rfl, eU, bsm, bsm]
 dsimp only
 rw [bsm, hb, bsm, hx, bsm, hv, bsm]
 rfl
theorem mid_nil {a0 : Am} {n z : Int} {x : Ae} : iG m a0 n z x .nilIface = some (.inr flaw) := rfl
theorem sJ {a0 : Am} {n z : Int} {x : Ae} {v : Value} {k : Int} (hn : iF v = some false) (hk : mA v = some k) (h : ¬ (x.AU.length : Int) = k) : iG m a0 n z x v = some (.inr flaw) := by
 rw [iG, hn, bsm, show (!false) = true from rfl, a1Q, hk, bsm, a1R h, cX]; rfl
theorem aDT {a0 : Am} {n z : Int} {x : Ae} {k : Int} (h : (x.AU.length : Int) = k) : iG m a0 n z x (.iface 338 (.int .i64 k)) = if x.N = 0 then jV m a0 n z x 0 else some (.inr flaw) := by
 rw [iG, show iF (.iface 338 (.int .i64 k)) = some false from rfl, bsm, show (!false) = true from rfl, a1Q, show mA (.iface 338 (.int .i64 k)) = some k from rfl, bsm, a1S h, eU, bsm, bsm]
 dsimp only
 rw [show eO 302 (.agg #[]) (.iface 338 (.int .i64 k)) = some (.agg #[], false) from rfl, bsm]
 dsimp only
 rw [a1P, show eO 303 (.agg #[]) (.iface 338 (.int .i64 k)) = some (.agg #[], false) from rfl, bsm]
 dsimp only
 rw [a1P, show eO 340 (.agg #[]) (.iface 338 (.int .i64 k)) = some (.agg #[], false) from rfl, bsm]
 dsimp only
 rw [a1P, show eO 339 (.agg #[]) (.iface 338 (.int .i64 k)) = some (.agg #[], false) from rfl, bsm]
 dsimp only
 rw [a1P]
 by_cases h0 : x.N = 0
 ·rw [a1S h0, eU, a1V h0]; rfl
 ·rw [a1R h0, cX, a1U h0]; rfl
theorem aGx {a0 : Am} {n z : Int} {x : Ae} (h : (x.AU.length : Int) = 0) : iG m a0 n z x (.iface 302 (.agg ⟨[]⟩)) = if 0 <= x.N /\ x.N < z then jV m a0 n z x (min (x.Aa.length : Int) 3) else some (.inr flaw) := by
 rw [iG, show iF (.iface 302 (.agg ⟨[]⟩)) = some false from rfl, bsm, show (!false) = true from rfl, a1Q, show mA (.iface 302 (.agg ⟨[]⟩)) = some 0 from rfl, bsm, a1S h, eU, bsm, bsm]
 dsimp only
 rw [show eO 302 (.agg #[]) (.iface 302 (.agg ⟨[]⟩)) = some (.agg #[], true) from rfl, bsm]
 dsimp only
 rw [a1Q]
 by_cases h0 : 0 <= x.N
 ·rw [a1V h0];by_cases h1 : x.N < z
  ·rw [a1S h1, eU, a1V ⟨h0, h1⟩]; rfl
  ·rw [a1R h1, cX, a1U (fun q => h1 q.2)]; rfl
 ·rw [a1U h0, cX, a1U (fun q => h0 q.1)]; rfl
theorem aHj {a0 : Am} {n z : Int} {x : Ae} (h : (x.AU.length : Int) = 1) : iG m a0 n z x (.iface 303 (.agg ⟨[]⟩)) = if 0 <= x.N /\ x.N < z then jV m a0 n z x 0 else some (.inr flaw) := by
 rw [iG, show iF (.iface 303 (.agg ⟨[]⟩)) = some false from rfl, bsm, show (!false) = true from rfl, a1Q, show mA (.iface 303 (.agg ⟨[]⟩)) = some 1 from rfl, bsm, a1S h, eU, bsm, bsm]
 dsimp only
 rw [show eO 302 (.agg #[]) (.iface 303 (.agg ⟨[]⟩)) = some (.agg #[], false) from rfl, bsm]
 dsimp only
 rw [a1P, show eO 303 (.agg #[]) (.iface 303 (.agg ⟨[]⟩)) = some (.agg #[], true) from rfl, bsm]
 dsimp only
 rw [a1Q]
 by_cases h0 : 0 <= x.N
 ·rw [a1V h0];by_cases h1 : x.N < z
  ·rw [a1S h1, eU, a1V ⟨h0, h1⟩]; rfl
  ·rw [a1R h1, cX, a1U (fun q => h1 q.2)]; rfl
 ·rw [a1U h0, cX, a1U (fun q => h0 q.1)]; rfl
theorem aFr {a0 : Am} {n z : Int} {x : Ae} (h : (x.AU.length : Int) = 2) : iG m a0 n z x (.iface 339 (.agg ⟨[]⟩)) = if x.N = 0 then jV m a0 n z x 1 else some (.inr flaw) := by
 rw [iG, show iF (.iface 339 (.agg ⟨[]⟩)) = some false from rfl, bsm, show (!false) = true from rfl, a1Q, show mA (.iface 339 (.agg ⟨[]⟩)) = some 2 from rfl, bsm, a1S h, eU, bsm, bsm]
 dsimp only
 rw [show eO 302 (.agg #[]) (.iface 339 (.agg ⟨[]⟩)) = some (.agg #[], false) from rfl, bsm]
 dsimp only
 rw [a1P, show eO 303 (.agg #[]) (.iface 339 (.agg ⟨[]⟩)) = some (.agg #[], false) from rfl, bsm]
 dsimp only
 rw [a1P, show eO 340 (.agg #[]) (.iface 339 (.agg ⟨[]⟩)) = some (.agg #[], false) from rfl, bsm]
 dsimp only
 rw [a1P, show eO 339 (.agg #[]) (.iface 339 (.agg ⟨[]⟩)) = some (.agg #[], true) from rfl, bsm]
 dsimp only
 rw [a1Q]
 by_cases h0 : x.N = 0
 ·rw [a1S h0, eU, a1V h0]; rfl
 ·rw [a1R h0, cX, a1U h0]; rfl
theorem aF7 {s : VS} (hs : WS p s) {n z : Int} {x : Ae} (h : (x.AU.length : Int) = 1) : iG m ⟨p, s.sz, s.AX, s.AY⟩ n z x (.iface 340 (.agg ⟨[]⟩)) = if 0 <= x.N /\ x.N < (p.AC.length : Int) /\ idx s.AY x.N = some false then jV m ⟨p, s.sz, s.AX, s.AY⟩ n z x 0 else some (.inr flaw) := by
 rw [iG, show iF (.iface 340 (.agg ⟨[]⟩)) = some false from rfl, bsm, show (!false) = true from rfl, a1Q, show mA (.iface 340 (.agg ⟨[]⟩)) = some 1 from rfl, bsm, a1S h, eU, bsm, bsm]
 dsimp only
 rw [show eO 302 (.agg #[]) (.iface 340 (.agg ⟨[]⟩)) = some (.agg #[], false) from rfl, bsm]
 dsimp only
 rw [a1P, show eO 303 (.agg #[]) (.iface 340 (.agg ⟨[]⟩)) = some (.agg #[], false) from rfl, bsm]
 dsimp only
 rw [a1P, show eO 340 (.agg #[]) (.iface 340 (.agg ⟨[]⟩)) = some (.agg #[], true) from rfl, bsm]
 dsimp only
 rw [a1Q]
 by_cases h0 : 0 <= x.N
 ·rw [a1V h0];by_cases h1 : x.N < (p.AC.length : Int)
  ·obtain ⟨b, hb⟩ := iB (xs := s.AY) h0 (by rw [hs.AY]; exact h1)
   rw [a1V h1, hb, bsm];cases b with
   | false => rw [a1V ⟨h0, h1, rfl⟩]; rfl
   | true => rw [a1U (fun q => by cases q.2.2)]; rfl
  ·rw [a1U h1, cX, a1U (fun q => h1 q.2.1)]; rfl
 ·rw [a1U h0, cX, a1U (fun q => h0 q.1)]; rfl
theorem vis_go {s : VS} {n z : Int} {x : Ae} (h : 0 <= n /\ n < (p.AB.length : Int) /\ idx s.AX n = some false) (hx : idx p.AB n = some x) : (okN p s x z -> vis p (f + 1) s n z = rest p f s n z x) /\ (¬ okN p s x z -> vis p (f + 1) s n z = none) := by
 constructor
 ·intro ho;simp only [vis];rw [a1V h, hx, bsm, a1V ho]; rfl
 ·intro ho;simp only [vis];rw [a1V h, hx, bsm, a1U ho]
theorem node_go (hp : SmP p) (hm : 3000000 <= m) (hv : Vis p f (eZ m)) {s : VS} (hs : WS p s) {n z : Int} (hu : unm s <= f + 1) (hz : 0 <= z /\ z + 69 + 80 * f <= 100000) (h : 0 <= n /\ n < (p.AB.length : Int) /\ idx s.AX n = some false) :
  eZ (m + 1) ⟨p, s.sz, s.AX, s.AY⟩ n z = some (kJ p (vis p (f + 1) s n z)) := by
 obtain ⟨x, hx⟩ := iB h.1 h.2.1
 obtain ⟨v1, v2⟩ := vis_go (f := f) (z := z) h hx
 have hun : ∀ AY, unm ⟨s.sz.set n.toNat z, s.AX.set n.toNat true, AY⟩ <= f := fun AY => by
  have := aAs (p := p) (z := z) (AY := AY) h.1 h.2.2; omega
 have hN : ∀ {c k : Nat}, shp x.Op = some (k, c) -> okM p s x z c -> x.Op = 4 -> 0 <= x.N /\ x.N < (p.AC.length : Int) := fun {c k} h1 h2 h4 => by
  rw [h4] at h1;have : (1, 4) = (k, c) := a1L h1;cases this; exact ⟨h2.1.1, h2.1.2.1⟩
 have fin : ∀ {k c : Nat} (x2 : Int), shp x.Op = some (k, c) -> (x.AU.length : Int) = k -> ((x.Aa.length : Int) = x2 -> okM p s x z c) -> (okM p s x z c -> (x.Aa.length : Int) = x2) -> jV m ⟨p, s.sz, s.AX, s.AY⟩ n z x x2 = some (kJ p (vis p (f + 1) s n z)) := fun {k c} x2 h1 h2 h3 h4 => by
  by_cases ha : (x.Aa.length : Int) = x2
  ·rw [tail_eq hp hm hv hs (fJ hx) hun hz (hN h1 (h3 ha)) ha];congr 2
   by_cases hall : x.Aa.all (okE z) = true
   ·rw [a1V hall, v1 ⟨⟨k, c, h1, by omega, h3 ha⟩, hall⟩]
   ·rw [a1U hall, v2 (fun q => hall q.2)]
  ·rw [tail_bad ha, v2]; rfl
   rintro ⟨⟨k', c', g1, _, g3⟩, _⟩
   rw [h1] at g1; cases g1
   exact ha (h4 g3)
 have bad : ∀ {k c : Nat}, shp x.Op = some (k, c) -> ¬ ((x.AU.length : Int) = k /\ okM p s x z c) -> some (kJ p (vis p (f + 1) s n z)) = some (.inr flaw) := fun {k c} h1 h2 => by
  rw [v2]; rfl
  rintro ⟨⟨k', c', g1, g2, g3⟩, _⟩
  rw [h1] at g1; cases g1
  exact h2 ⟨by omega, g3⟩
 by_cases o1 : x.Op = 1 \/ x.Op = 7
 ·have hsh : shp x.Op = some (0, 0) := by unfold shp; rw [a1V o1]
  rw [rA hs h hx (aF8 o1)];by_cases hk : (x.AU.length : Int) = 0
  ·rw [aDT hk];by_cases hn : x.N = 0
   ·rw [a1V hn]; exact fin 0 hsh hk (fun q => ⟨hn, by omega⟩) (fun q => by have := q.2; omega)
   ·rw [a1U hn, bad hsh (fun q => hn q.2.1)]
  ·rw [sJ rfl rfl hk, bad hsh (fun q => hk q.1)]
 ·by_cases o3 : x.Op = 3
  ·have hsh : shp x.Op = some (2, 0) := by unfold shp; rw [a1U o1, a1V o3]
   rw [rA hs h hx (by rw [o3]; exact aGA)];by_cases hk : (x.AU.length : Int) = 2
   ·rw [aDT hk];by_cases hn : x.N = 0
    ·rw [a1V hn]; exact fin 0 hsh hk (fun q => ⟨hn, by omega⟩) (fun q => by have := q.2; omega)
    ·rw [a1U hn, bad hsh (fun q => hn q.2.1)]
   ·rw [sJ rfl rfl hk, bad hsh (fun q => hk q.1)]
  ·by_cases o2 : x.Op = 2
   ·have hsh : shp x.Op = some (0, 1) := by unfold shp; rw [a1U o1, a1U o3, a1V o2]
    rw [rA hs h hx (by rw [o2]; exact aGz)];by_cases hk : (x.AU.length : Int) = 0
    ·rw [aGx hk];by_cases hn : 0 <= x.N /\ x.N < z
     ·rw [a1V hn]; exact fin _ hsh hk (fun q => ⟨hn, by omega⟩) (fun q => by have := q.2; omega)
     ·rw [a1U hn, bad hsh (fun q => hn q.2.1)]
    ·rw [sJ rfl rfl hk, bad hsh (fun q => hk q.1)]
   ·by_cases o5 : x.Op = 5
    ·have hsh : shp x.Op = some (2, 2) := by unfold shp; rw [a1U o1, a1U o3, a1U o2, a1V o5]
     rw [rA hs h hx (by rw [o5]; exact aF9)];by_cases hk : (x.AU.length : Int) = 2
     ·rw [aFr hk];by_cases hn : x.N = 0
      ·rw [a1V hn]; exact fin 1 hsh hk (fun q => ⟨hn, by omega⟩) (fun q => by have := q.2; omega)
      ·rw [a1U hn, bad hsh (fun q => hn q.2.1)]
     ·rw [sJ rfl rfl hk, bad hsh (fun q => hk q.1)]
    ·by_cases o6 : x.Op = 6 \/ x.Op = 8
     ·have hsh : shp x.Op = some (1, 3) := by unfold shp; rw [a1U o1, a1U o3, a1U o2, a1U o5, a1V o6]
      rw [rA hs h hx (aHp o6)];by_cases hk : (x.AU.length : Int) = 1
      ·rw [aHj hk];by_cases hn : 0 <= x.N /\ x.N < z
       ·rw [a1V hn]; exact fin 0 hsh hk (fun q => ⟨hn, by omega⟩) (fun q => by have := q.2; omega)
       ·rw [a1U hn, bad hsh (fun q => hn q.2.1)]
      ·rw [sJ rfl rfl hk, bad hsh (fun q => hk q.1)]
     ·by_cases o4 : x.Op = 4
      ·have hsh : shp x.Op = some (1, 4) := by unfold shp; rw [a1U o1, a1U o3, a1U o2, a1U o5, a1U o6, a1V o4]
       rw [rA hs h hx (by rw [o4]; exact aGm)];by_cases hk : (x.AU.length : Int) = 1
       ·rw [aF7 hs hk];by_cases hn : 0 <= x.N /\ x.N < (p.AC.length : Int) /\ idx s.AY x.N = some false
        ·rw [a1V hn]; exact fin 0 hsh hk (fun q => ⟨hn, by omega⟩) (fun q => by have := q.2; omega)
        ·rw [a1U hn, bad hsh (fun q => hn q.2.1)]
       ·rw [sJ rfl rfl hk, bad hsh (fun q => hk q.1)]
      ·have hsh : shp x.Op = none := by unfold shp; rw [a1U o1, a1U o3, a1U o2, a1U o5, a1U o6, a1U o4]
       rw [rA hs h hx (aFX hsh), mid_nil, v2]; rfl
       rintro ⟨⟨k', c', g1, _⟩, _⟩
       rw [hsh] at g1; cases g1
end
theorem zA {p : AM} {f : Nat} {s : VS} {n z : Int} (h : ¬ (0 <= n /\ n < (p.AB.length : Int) /\ idx s.AX n = some false)) : vis p f s n z = none := by
 cases f with
 | zero => rfl
 | succ f => simp only [vis]; rw [a1U h]
theorem aC5 {s : VS} {n : Int} (h : idx s.AX n = some false) : 0 < unm s := a0w.2 ⟨false, fJ h, rfl⟩
theorem pvis {p : AM} (hp : SmP p) {b : Nat} (hb : 3000000 <= b) (f : Nat) : Vis p f (eZ (b + f + 1)) := by
 induction f with
 | zero =>
  refine ⟨fun s n z hs hu h0 h1 => ?_⟩
  have h : ¬ (0 <= n /\ n < (p.AB.length : Int) /\ idx s.AX n = some false) := fun q => by have := aC5 q.2.2; omega
  rw [aEX hs h, zA h]; rfl
 | succ f ih =>
  refine ⟨fun s n z hs hu h0 h1 => ?_⟩
  by_cases h : 0 <= n /\ n < (p.AB.length : Int) /\ idx s.AX n = some false
  ·exact node_go hp (m := b + f + 1) (by omega) ih hs hu ⟨h0, by omega⟩ h
  ·rw [aEX hs h, zA h]; rfl
open Go.SX Go.SW Go.Dt
def ob (l : List Bool) : List Int := l.map fun b => if b = true then 1 else 0
theorem iZ {l : List Bool} : (ob l).length = l.length := by simp [ob]
theorem aAL {l : List Bool} {i : Int} {b : Bool} (h : idx l i = some b) : idx (ob l) i = some (if b = true then 1 else 0) := by
 obtain ⟨j, rfl, hj, _⟩ := kU h
 exact qX (by simp [ob, hj])
theorem ob_set {l : List Bool} {i : Nat} : ob (l.set i true) = (ob l).set i 1 := by simp [ob, List.map_set]
theorem ob_rep {n : Nat} : ob (List.replicate n false) = List.replicate n 0 := by simp [ob]
def ROut (p : AM) (o : Option VS) (L : Ah) : Prop := match o with
 | some s => L = ⟨p, s.sz, ob s.AX, ob s.AY, false⟩
 | none => L.bad = true /\ L.Ak.length = p.AB.length /\ L.Aj.length = p.AC.length
structure RVis (p : AM) (f : Nat) (rec : Ah -> Int -> Int -> Option Ah) : Prop where
 run : ∀ (s : VS) (n z : Int), WS p s -> unm s <= f -> 0 <= z -> z + 80 * f <= 100000 -> ∃ L, rec ⟨p, s.sz, ob s.AX, ob s.AY, false⟩ n z = some L /\ ROut p (vis p f s n z) L
theorem aFY {ch : List Ar} {sp : List As} {ru : List Al} {a nd : Int} (AH : List Int) : ∀ (AG : List Int) (k : Nat) (w : Int), AH.length < k -> AG.length + AH.length <= 1000 -> 0 <= w -> w <= 100000 -> (∀ c ∈ AH, ∃ y, idx ch c = some y /\ 0 <= y.Ap /\ y.Ap <= 3) -> w + 3 * AH.length <= 100000 ->
  oG ⟨ch, sp, ru⟩ ⟨a, AG ++ AH, nd⟩ k w AG.length = some (w + brs ch AH) := by
 induction AH with
 | nil =>
  intro AG k w hk _ _ _ _ _;obtain _ | k := k
  ·omega
  rw [oG, a1U (by simp)]; simp [brs]
 | cons e AH ih =>
  intro AG k w hk hB h0 h1 hm hw;obtain _ | k := k
  ·omega
  simp only [a0U] at hk hB hw;obtain ⟨y, g1, g2, g3⟩ := hm e (.head _);rw [oG, a1V (cD _ _ _)];dsimp only
  rw [cI, bsm, g1, bsm, aU (by omega), bsm, aU (by omega), bsm, cG AG AH e, bW AG e, ih (AG ++ [e]) k _ (by omega) (by simp; omega) (by omega) (by omega) (fun c hc => hm c (.tail _ hc)) (by omega)];simp only [brs, g1]; congr 1; omega
theorem more_eq {AA : Nat} {d : AN} {r : Al} (hf : 3000 <= AA) (h : okD d = true) (hr : r ∈ d.AS) : xJ AA d r = some (brs d.AP r.Af) := by
 obtain ⟨_, _, _, _, h5⟩ := nO h
 obtain ⟨g1, g2⟩ := h5 r hr
 have := aFY (ch := d.AP) (sp := d.AT) (ru := d.AS) (a := r.At) (nd := r.Ab) r.Af [] AA 0 (by omega) (by simp; omega) (by omega) (by omega) g2 (by omega)
 simp only [a1k, a0W, a0q] at this
 rw [xJ, this, bsm]; congr 1; omega
theorem oT {rec : Ah -> Int -> Int -> Option Ah} {y : Ae} {z i : Int} {k : Nat} {a : List ByteArray} {b : List Ae} {c : List AN} {d : Int} {sz ow us : List Int} :
  iW rec y z (k + 1) i a b c d sz ow us true = some ⟨⟨a, b, c, d⟩, sz, ow, us, true⟩ := by
 rw [iW]; split
 ·rw [a1Q]
 ·rfl
theorem d1_bad {AA : Nat} {rec : Ah -> Int -> Int -> Option Ah} {y : AN} {z i : Int} {k : Nat} {a : List ByteArray} {b : List Ae} {c : List AN} {d : Int} {sz ow us : List Int} :
  kB AA rec y z (k + 1) i a b c d sz ow us true = some (a, b, c, d, sz, ow, us, true) := by
 rw [kB]; split
 ·rw [a1Q]
 ·rfl
theorem aAV {rec : Ah -> Int -> Int -> Option Ah} {y : AN} {z i : Int} {k : Nat} {a : List ByteArray} {b : List Ae} {c : List AN} {d : Int} {sz ow us : List Int} :
  kQ rec y z (k + 1) i a b c d sz ow us true = some ⟨⟨a, b, c, d⟩, sz, ow, us, true⟩ := by
 rw [kQ]; split
 ·rw [a1Q]
 ·rfl
section
variable {p : AM} {f : Nat} {rec : Ah -> Int -> Int -> Option Ah}
theorem rk2 (hv : RVis p f rec) {op nn : Int} {ar : List AW} {z : Int} (hz : 0 <= z /\ z + 80 * f <= 100000) (AH : List Int) : ∀ (AG : List Int) (k : Nat) (s : VS), AH.length < k -> AG.length + AH.length <= 3000000 -> WS p s -> unm s <= f ->
  ∃ L, iW rec ⟨op, nn, ar, AG ++ AH⟩ z k AG.length p.AD p.AB p.AC p.AE s.sz (ob s.AX) (ob s.AY) false = some L /\ ROut p (dB (vis p f) s (AH.map fun k => (k, z))) L := by
 induction AH with
 | nil =>
  intro AG k s hk _ hs hu;obtain _ | k := k
  ·omega
  exact ⟨_, by rw [iW, a1U (by simp)], rfl⟩
 | cons e AH ih =>
  intro AG k s hk hB hs hu;obtain _ | k := k
  ·omega
  simp only [a0U] at hk hB;obtain ⟨L, h1, h2⟩ := hv.run s e z hs hu hz.1 hz.2;rw [iW, a1V (cD _ _ _), a1P];dsimp only
  rw [cI, bsm, show (⟨⟨p.AD, p.AB, p.AC, p.AE⟩, s.sz, ob s.AX, ob s.AY, false⟩ : Ah) = ⟨p, s.sz, ob s.AX, ob s.AY, false⟩ from rfl, h1, bsm, aU (by omega), bsm, cG AG AH e, bW AG e];simp only [a1a, dB];cases hc : vis p f s e z with
  | none =>
   rw [hc] at h2;obtain ⟨g1, g2, g3⟩ := h2;obtain _ | k := k
   ·omega
   rw [g1, oT];exact ⟨_, rfl, rfl, g2, g3⟩
  | some s1 =>
   rw [hc] at h2;have h2 : L = _ := h2;subst h2;obtain ⟨w1, u1⟩ := (kV p f).out _ _ _ _ hs hu hc;rw [bsm];exact ih (AG ++ [e]) k s1 (by omega) (by simp; omega) w1 (by omega)
theorem rd2 (hv : RVis p f rec) {ch : List Ar} {ru : List Al} {z : Int} (hz : 0 <= z /\ z + 80 * f <= 100000) (AH : List As) : ∀ (AG : List As) (k : Nat) (s : VS), AH.length < k -> AG.length + AH.length <= 3000000 -> WS p s -> unm s <= f ->
  ∃ L, kQ rec ⟨ch, AG ++ AH, ru⟩ z k AG.length p.AD p.AB p.AC p.AE s.sz (ob s.AX) (ob s.AY) false = some L /\ ROut p (dB (vis p f) s (AH.map fun y => (y.Ab, z))) L := by
 induction AH with
 | nil =>
  intro AG k s hk _ hs hu;obtain _ | k := k
  ·omega
  exact ⟨_, by rw [kQ, a1U (by simp)], rfl⟩
 | cons e AH ih =>
  intro AG k s hk hB hs hu;obtain _ | k := k
  ·omega
  simp only [a0U] at hk hB;obtain ⟨L, h1, h2⟩ := hv.run s e.Ab z hs hu hz.1 hz.2;rw [kQ, a1V (cD _ _ _), a1P];dsimp only
  rw [cI, bsm, show (⟨⟨p.AD, p.AB, p.AC, p.AE⟩, s.sz, ob s.AX, ob s.AY, false⟩ : Ah) = ⟨p, s.sz, ob s.AX, ob s.AY, false⟩ from rfl, h1, bsm, aU (by omega), bsm, cG AG AH e, bW AG e];simp only [a1a, dB];cases hc : vis p f s e.Ab z with
  | none =>
   rw [hc] at h2;obtain ⟨g1, g2, g3⟩ := h2;obtain _ | k := k
   ·omega
   rw [g1, aAV];exact ⟨_, rfl, rfl, g2, g3⟩
  | some s1 =>
   rw [hc] at h2;have h2 : L = _ := h2;subst h2;obtain ⟨w1, u1⟩ := (kV p f).out _ _ _ _ hs hu hc;rw [bsm];exact ih (AG ++ [e]) k s1 (by omega) (by simp; omega) w1 (by omega)
abbrev T8 := List ByteArray × List Ae × List AN × Int × List Int × List Int × List Int × Bool
def ROut8 (p : AM) (o : Option VS) (t : T8) : Prop := match o with
 | some s => t = (p.AD, p.AB, p.AC, p.AE, s.sz, ob s.AX, ob s.AY, false)
 | none => t.2.2.2.2.2.2.2 = true /\ t.2.2.2.2.2.1.length = p.AB.length /\ t.2.2.2.2.2.2.1.length = p.AC.length
theorem rd1 (hv : RVis p f rec) {AA : Nat} {d : AN} (hd : okD d = true) (hf : 3000 <= AA) {z : Int} (hz : 0 <= z /\ z + 9 + 80 * f <= 100000) (AH : List Al) : ∀ (AG : List Al) (k : Nat) (s : VS), d.AS = AG ++ AH -> AH.length < k -> AG.length + AH.length <= 3000000 -> WS p s -> unm s <= f ->
  ∃ t, kB AA rec d z k AG.length p.AD p.AB p.AC p.AE s.sz (ob s.AX) (ob s.AY) false = some t /\ ROut8 p (dB (vis p f) s (AH.map fun r => (r.Ab, z + brs d.AP r.Af))) t := by
 induction AH with
 | nil =>
  intro AG k s he hk _ hs hu;obtain _ | k := k
  ·omega
  exact ⟨_, by rw [kB, he, a1U (by simp)], rfl⟩
 | cons e AH ih =>
  intro AG k s he hk hB hs hu;obtain _ | k := k
  ·omega
  simp only [a0U] at hk hB;have hmem : e ∈ d.AS := by rw [he]; simp
  obtain ⟨_, _, _, _, h5⟩ := nO hd;obtain ⟨g1, g2⟩ := h5 e hmem;have hb := aAt g2;obtain ⟨L, h1, h2⟩ := hv.run s e.Ab (z + brs d.AP e.Af) hs hu (by omega) (by omega)
  rw [kB, he, a1V (cD _ _ _), <- he, a1P, show idx d.AS (AG.length : Int) = some e from by rw [he]; exact cI _ _ _, bsm, bsm,
   show (⟨d.AP, d.AT, d.AS⟩ : AN) = d from rfl, more_eq hf hd hmem, bsm, aU (by omega), bsm,
   show (⟨⟨p.AD, p.AB, p.AC, p.AE⟩, s.sz, ob s.AX, ob s.AY, false⟩ : Ah) = ⟨p, s.sz, ob s.AX, ob s.AY, false⟩ from rfl, h1, bsm, aU (by omega), bsm, bW AG e]
  simp only [a1a, dB];cases hc : vis p f s e.Ab (z + brs d.AP e.Af) with
  | none =>
   rw [hc] at h2;obtain ⟨g1, g2, g3⟩ := h2;obtain _ | k := k
   ·omega
   rw [g1, d1_bad];exact ⟨_, rfl, rfl, g2, g3⟩
  | some s1 =>
   rw [hc] at h2;have h2 : L = _ := h2;subst h2;obtain ⟨w1, u1⟩ := (kV p f).out _ _ _ _ hs hu hc;rw [bsm];exact ih (AG ++ [e]) k s1 (by rw [he]; simp) (by omega) (by simp; omega) w1 (by omega)
theorem rdef {m : Nat} (hv : RVis p f (eR m)) {d : AN} (hd : okD d = true) (hsm : smD d) (hm : 3000000 <= m) {z : Int} (hz : 0 <= z /\ z + 9 + 80 * f <= 100000) {s : VS} (hs : WS p s) (hu : unm s <= f) :
  ∃ L, mW (m + 1) ⟨p, s.sz, ob s.AX, ob s.AY, false⟩ d z = some L /\ ROut p ((dB (vis p f) s (d.AS.map fun r => (r.Ab, z + brs d.AP r.Af))).bind fun s1 => dB (vis p f) s1 (d.AT.map fun y => (y.Ab, z))) L := by
 obtain ⟨c1, c2, c3, _⟩ := hsm
 obtain ⟨t, h1, h2⟩ := rd1 hv hd (AA := m) (by omega) hz d.AS [] m s rfl (by omega) (by simp; omega) hs hu
 simp only [a0W, a0q] at h1
 rw [mW, h1, bsm]
 cases hc : dB (vis p f) s (d.AS.map fun r => (r.Ab, z + brs d.AP r.Af)) with
 | none =>
  rw [hc] at h2;obtain ⟨a, b, c, e, sz, ow, us, bd⟩ := t;obtain ⟨g1, g2, g3⟩ := h2;dsimp only at g1 g2 g3
  subst g1;obtain ⟨m, rfl⟩ : ∃ k, m = k + 1 := ⟨m - 1, by omega⟩
  dsimp only
  rw [aAV];exact ⟨_, rfl, rfl, g2, g3⟩
 | some s1 =>
  rw [hc] at h2;have h2 : t = _ := h2;subst h2;obtain ⟨w1, u1⟩ := mM (kV p f) _ _ _ hs hu hc;obtain ⟨L, h3, h4⟩ := rd2 hv (ch := d.AP) (ru := d.AS) (z := z) ⟨by omega, by omega⟩ d.AT [] m s1 (by omega) (by simp; omega) w1 (by omega)
  simp only [a1k, a0W, a0q] at h3;exact ⟨L, h3, h4⟩
theorem rdef_bad {m : Nat} (hm : 0 < m) {L : Ah} (hb : L.bad = true) {d : AN} {z : Int} : mW (m + 1) L d z = some L := by
 obtain ⟨k, rfl⟩ : ∃ k, m = k + 1 := ⟨m - 1, by omega⟩
 obtain ⟨q, sz, ow, us, bd⟩ := L
 dsimp only at hb
 subst hb
 rw [mW]
 dsimp only
 rw [d1_bad, bsm]
 dsimp only
 rw [aAV]
end
theorem rn1_bad {AA : Nat} {op nn : Int} {ks : List Int} {z : Int} (AH : List AW) : ∀ (AG : List AW) (k : Nat), AH.length < k -> AG.length + AH.length <= 3000000 ->
  jC AA z ⟨op, nn, AG ++ AH, ks⟩ k AG.length true = some true := by
 induction AH with
 | nil =>
  intro AG k hk _;obtain _ | k := k
  ·omega
  rw [jC, a1U (by simp)]
 | cons e AH ih =>
  intro AG k hk hB;obtain _ | k := k
  ·omega
  simp only [a0U] at hk hB;rw [jC, a1V (cD _ _ _), a1Q, bsm, aU (by omega), bsm, cG AG AH e, bW AG e];exact ih (AG ++ [e]) k (by omega) (by simp; omega)
theorem rn1 {AA : Nat} (hf : 3000000 <= AA) {op nn : Int} {ks : List Int} {z : Int} (AH : List AW) : ∀ (AG : List AW) (k : Nat), AH.length < k -> AG.length + AH.length <= 3000000 -> (∀ e ∈ AH, nE e <= 2000000) ->
  jC AA z ⟨op, nn, AG ++ AH, ks⟩ k AG.length false = some (!AH.all (okE z)) := by
 induction AH with
 | nil =>
  intro AG k hk _ _;obtain _ | k := k
  ·omega
  rw [jC, a1U (by simp)]; rfl
 | cons e AH ih =>
  intro AG k hk hB he;obtain _ | k := k
  ·omega
  simp only [a0U] at hk hB;have hn := he e (.head _);rw [jC, a1V (cD _ _ _), a1P, show (e :: AH).all (okE z) = (okE z e && AH.all (okE z)) from rfl];dsimp only
  rw [cI, bsm, aDU (by omega) (by omega), bsm, bsm, aU (by omega), bsm, cG AG AH e, bW AG e];cases h1 : okE z e with
  | false => exact rn1_bad AH (AG ++ [e]) k (by omega) (by simp; omega)
  | true =>
   rw [a0p];exact ih (AG ++ [e]) k (by omega) (by simp; omega) (fun x hx => he x (.tail _ hx))
open Go.SX Go.SW Go.Dt
def tailR (AA : Nat) (a0 : Ah) (a1 a2 z1 : Int) (y5 : Ae) : Option Ah :=
 (jC AA a2 y5 AA 0 a0.bad).bind fun x1 =>
 ((if y5.Op = 2 then
  some (decide (y5.Op = 2))
 else
  if y5.Op = 6 then
   some (decide (y5.Op = 6))
  else
   some (decide (y5.Op = 8))).bind fun x16 =>
 bif x16 then
  bif x1 then
   some (Sum.inl (a2, a0.p.AD, a0.p.AB, a0.p.AC, a0.p.AE, a0.AV.set a1.toNat a2, a0.Ak.set a1.toNat z1, a0.Aj, true))
  else
   if y5.N < 0 then
    some (Sum.inl (a2, a0.p.AD, a0.p.AB, a0.p.AC, a0.p.AE, a0.AV.set a1.toNat a2, a0.Ak.set a1.toNat z1, a0.Aj, true))
   else
    some (Sum.inl (a2, a0.p.AD, a0.p.AB, a0.p.AC, a0.p.AE, a0.AV.set a1.toNat a2, a0.Ak.set a1.toNat z1, a0.Aj, decide (a2 <= y5.N)))
 else
  if y5.Op = 4 then
   if y5.N < 0 then
    (some (⟨(⟨a0.p.AD, a0.p.AB, a0.p.AC, a0.p.AE⟩ : AM), a0.AV.set a1.toNat a2, a0.Ak.set a1.toNat z1, a0.Aj, true⟩ : Ah)).bind fun r => some (Sum.inr r)
   else
    if (a0.p.AC.length : Int) <= y5.N then
     (some (⟨(⟨a0.p.AD, a0.p.AB, a0.p.AC, a0.p.AE⟩ : AM), a0.AV.set a1.toNat a2, a0.Ak.set a1.toNat z1, a0.Aj, true⟩ : Ah)).bind fun r => some (Sum.inr r)
    else
     (idx a0.Aj y5.N).bind fun y9 =>
     if 0 < y9 then
      (some (⟨(⟨a0.p.AD, a0.p.AB, a0.p.AC, a0.p.AE⟩ : AM), a0.AV.set a1.toNat a2, a0.Ak.set a1.toNat z1, a0.Aj, true⟩ : Ah)).bind fun r => some (Sum.inr r)
     else
      (idx a0.Aj y5.N).bind fun y10 =>
      (chk (y10 + 1)).bind fun z3 =>
      (idx a0.Aj y5.N).bind fun _ =>
      (idx a0.p.AC y5.N).bind fun y12 =>
      (sK y12).bind fun y13 =>
      (chk (a2 + y13)).bind fun z4 =>
      (idx a0.p.AC y5.N).bind fun y14 =>
      ((mW AA) (⟨(⟨a0.p.AD, a0.p.AB, a0.p.AC, a0.p.AE⟩ : AM), a0.AV.set a1.toNat a2, a0.Ak.set a1.toNat z1, a0.Aj.set y5.N.toNat z3, x1⟩ : Ah) y14 z4).bind fun y15 =>
      some (Sum.inl (z4, y15.p.AD, y15.p.AB, y15.p.AC, y15.p.AE, y15.AV, y15.Ak, y15.Aj, y15.bad))
  else
   bif x1 then
    some (Sum.inl (a2, a0.p.AD, a0.p.AB, a0.p.AC, a0.p.AE, a0.AV.set a1.toNat a2, a0.Ak.set a1.toNat z1, a0.Aj, true))
   else
    some (Sum.inl (a2, a0.p.AD, a0.p.AB, a0.p.AC, a0.p.AE, a0.AV.set a1.toNat a2, a0.Ak.set a1.toNat z1, a0.Aj, decide (y5.N ≠ 0)))).bind fun o => match o with
 | Sum.inr r => some r
 | Sum.inl (x7, x8, x9, x10, x11, x12, x13, x14, x15) =>
 iW (eR AA) y5 x7 AA 0 x8 x9 x10 x11 x12 x13 x14 x15
theorem rown_eq {d : AN} (h : d.AP.length <= 2000000) (h2 : d.AT.length <= 2000000) : sK d = some (own d) := by
 rw [sK, aU (by omega), bsm]; rfl
def jJ (p : AM) (s : VS) (x : Ae) (z : Int) : Prop :=
 if x.Op = 2 \/ x.Op = 6 \/ x.Op = 8 then 0 <= x.N /\ x.N < z else if x.Op = 4 then 0 <= x.N /\ x.N < (p.AC.length : Int) /\ idx s.AY x.N = some false else x.N = 0
section
variable {p : AM} {f m : Nat}
theorem jA {q : AM} {sz ow us : List Int} (h1 : ow.length = p.AB.length) (h2 : us.length = p.AC.length) : ROut p none ⟨q, sz, ow, us, true⟩ := ⟨rfl, h1, h2⟩
open Classical in
theorem tailR_eq (hp : SmP p) (hall : ∀ d ∈ p.AC, okD d = true) (hm : 3000001 <= m) (hv : RVis p f (eR m)) (hv' : RVis p f (eR (m - 1))) {s : VS} (hs : WS p s) {n z : Int} {x : Ae} (hx : x ∈ p.AB)
  (hun : ∀ AY, unm ⟨s.sz.set n.toNat z, s.AX.set n.toNat true, AY⟩ <= f) (hz : 0 <= z /\ z + 69 + 80 * f <= 100000) :
  ∃ L, tailR m ⟨p, s.sz, ob s.AX, ob s.AY, false⟩ n z 1 x = some L /\ ROut p (if x.Aa.all (okE z) = true /\ jJ p s x z then rest p f s n z x else none) L := by
 obtain ⟨op, nn, ar, ks⟩ := x
 obtain ⟨g1, g2, g3⟩ := hp.args _ hx
 dsimp only at g1 g2 g3
 obtain ⟨m', rfl⟩ : ∃ k, m = k + 1 := ⟨m - 1, by omega⟩
 simp only [Nat.add_sub_cancel] at hv'
 have e1 := rn1 (AA := m' + 1) (by omega) (op := op) (nn := nn) (ks := ks) (z := z) ar [] (m' + 1) (by omega) (by simp; omega) g3
 simp only [a1k, a0W, a0q] at e1
 have hsets : (ob s.AX).set n.toNat 1 = ob (s.AX.set n.toNat true) := ob_set.symm
 have hl1 : ((ob s.AX).set n.toNat 1).length = p.AB.length := by simp [iZ, hs.AX]
 have hl2 : (ob s.AY).length = p.AC.length := by rw [iZ, hs.AY]
 rw [tailR]
 dsimp only
 rw [e1, bsm]
 have good : ∀ (zz : Int) (s1 : VS), 0 <= zz -> zz + 80 * f <= 100000 -> WS p s1 -> unm s1 <= f -> ∃ L, iW (eR (m' + 1)) ⟨op, nn, ar, ks⟩ zz (m' + 1) 0 p.AD p.AB p.AC p.AE s1.sz (ob s1.AX) (ob s1.AY) false = some L /\ ROut p (dB (vis p f) s1 (ks.map fun k => (k, zz))) L := fun zz s1 a b c d => by
  have := rk2 hv (op := op) (nn := nn) (ar := ar) (z := zz) ⟨a, b⟩ ks [] (m' + 1) s1 (by omega) (by simp; omega) c d
  simpa only [a1k, a0W, a0q] using this
 have w1 := (rL hs (p := p) (i := n.toNat) (j := 0) (z := z)).1
 have hne4 : op ≠ 4 -> rest p f s n z ⟨op, nn, ar, ks⟩ = dB (vis p f) ⟨s.sz.set n.toNat z, s.AX.set n.toNat true, s.AY⟩ (ks.map fun k => (k, z)) := fun h => by rw [rest, a1U h]
 by_cases o2 : op = 2 \/ op = 6 \/ op = 8
 ·have hb : ((if op = 2 then some (decide (op = 2)) else if op = 6 then some (decide (op = 6)) else some (decide (op = 8))) : Option Bool) = some true := by
   rcases o2 with rfl | rfl | rfl <;> rfl
  have hk : jJ p s ⟨op, nn, ar, ks⟩ z ↔ (0 <= nn /\ nn < z) := by unfold jJ; rw [a1V o2]
  rw [hb, bsm, a1Q];cases hall2 : ar.all (okE z) with
  | false =>
   rw [a0n, a1Q, bsm];dsimp only
   rw [oT, a1U (fun q => by cases q.1)]
   exact ⟨_, rfl, jA hl1 hl2⟩
  | true =>
   rw [a0o, a1P];by_cases n0 : nn < 0
   ·rw [a1V n0, bsm];dsimp only
    rw [oT, a1U (fun q => by have := hk.1 q.2; omega)]
    exact ⟨_, rfl, jA hl1 hl2⟩
   ·rw [a1U n0, bsm];dsimp only
    by_cases n1 : z <= nn
    ·rw [a1S n1, oT, a1U (fun q => by have := hk.1 q.2; omega)]
     exact ⟨_, rfl, jA hl1 hl2⟩
    ·rw [a1R n1, a1V ⟨rfl, hk.2 ⟨by omega, by omega⟩⟩, hne4 (by omega), hsets];exact good z ⟨s.sz.set n.toNat z, s.AX.set n.toNat true, s.AY⟩ hz.1 (by omega) w1 (hun _)
 ·have hb : ((if op = 2 then some (decide (op = 2)) else if op = 6 then some (decide (op = 6)) else some (decide (op = 8))) : Option Bool) = some false := by
   rw [a1U (by omega), a1U (by omega), a1R (by omega)]
  rw [hb, bsm, a1P];by_cases o4 : op = 4
  ·subst o4;have hk : jJ p s ⟨4, nn, ar, ks⟩ z ↔ (0 <= nn /\ nn < (p.AC.length : Int) /\ idx s.AY nn = some false) := by unfold jJ; rw [a1U o2, a1V rfl]
   rw [a1V rfl];by_cases n0 : nn < 0
   ·rw [a1V n0, bsm, bsm];dsimp only
    rw [a1U (fun q => by have := hk.1 q.2; omega)]
    exact ⟨_, rfl, jA hl1 hl2⟩
   ·rw [a1U n0];by_cases n1 : (p.AC.length : Int) <= nn
    ·rw [a1V n1, bsm, bsm];dsimp only
     rw [a1U (fun q => by have := hk.1 q.2; omega)]
     exact ⟨_, rfl, jA hl1 hl2⟩
    ·rw [a1U n1];obtain ⟨b, hbb⟩ := iB (xs := s.AY) (show 0 <= nn by omega) (by rw [hs.AY]; omega)
     obtain ⟨d, hd⟩ := iB (xs := p.AC) (show 0 <= nn by omega) (by omega)
     have hok := hall d (fJ hd);have hsm := hp.AY d (fJ hd);obtain ⟨k1, k2, k3, _, _⟩ := nO hok;have hown : 0 <= own d /\ own d <= 60 := by unfold own; omega
     rw [aAL hbb, bsm];cases b with
     | true =>
      rw [a1V rfl, a1V (by omega), bsm, bsm];dsimp only
      rw [a1U (fun q => by have := (hk.1 q.2).2.2; rw [hbb] at this; cases this)]
      exact ⟨_, rfl, jA hl1 hl2⟩
     | false =>
      have hkk : jJ p s ⟨4, nn, ar, ks⟩ z := hk.2 ⟨by omega, by omega, hbb⟩
      rw [a1U a0m, a1U (by omega), bsm, aU (by omega), bsm, bsm, hd, bsm, rown_eq (by omega) (by omega), bsm, aU (by omega), bsm, bsm];have hsetd : (ob s.AY).set nn.toNat (0 + 1) = ob (s.AY.set nn.toNat true) := ob_set.symm;have w2 := (rL hs (p := p) (i := n.toNat) (j := nn.toNat) (z := z)).2;rw [hsets, hsetd];cases hall2 : ar.all (okE z) with
      | false =>
       rw [a0n, rdef_bad (by omega) rfl, bsm, bsm];dsimp only
       rw [oT, a1U (fun q => by cases q.1)]
       exact ⟨_, rfl, jA (by rw [<- hsets]; exact hl1) (by rw [iZ]; simp [hs.AY])⟩
      | true =>
       rw [a0o, a1V ⟨rfl, hkk⟩];obtain ⟨L, h1, h2⟩ := rdef hv' hok hsm (by omega) (z := z + own d) ⟨by omega, by omega⟩ w2 (hun (s.AY.set nn.toNat true))
       rw [show (⟨⟨p.AD, p.AB, p.AC, p.AE⟩, s.sz.set n.toNat z, ob (s.AX.set n.toNat true), ob (s.AY.set nn.toNat true), false⟩ : Ah) = ⟨p, s.sz.set n.toNat z, ob (s.AX.set n.toNat true), ob (s.AY.set nn.toNat true), false⟩ from rfl, h1, bsm, bsm];dsimp only
       have hres : rest p f s n z ⟨4, nn, ar, ks⟩ = ((dB (vis p f) ⟨s.sz.set n.toNat z, s.AX.set n.toNat true, s.AY.set nn.toNat true⟩ (d.AS.map fun r => (r.Ab, z + own d + brs d.AP r.Af))).bind fun s1 => dB (vis p f) s1 (d.AT.map fun y => (y.Ab, z + own d))).bind fun s2 => dB (vis p f) s2 (ks.map fun k => (k, z + own d)) := by
        rw [rest, a1V rfl]; dsimp only; rw [hd, bsm, a1V hok, Option.bind_assoc]
       rw [hres];cases hc : (dB (vis p f) ⟨s.sz.set n.toNat z, s.AX.set n.toNat true, s.AY.set nn.toNat true⟩ (d.AS.map fun r => (r.Ab, z + own d + brs d.AP r.Af))).bind fun s1 => dB (vis p f) s1 (d.AT.map fun y => (y.Ab, z + own d)) with
       | none =>
        rw [hc] at h2;obtain ⟨q1, q2, q3⟩ := h2;rw [q1, oT];exact ⟨_, rfl, rfl, q2, q3⟩
       | some s2 =>
        rw [hc] at h2;have h2 : L = _ := h2;subst h2;obtain ⟨s1, a1, a2⟩ := bind_some hc;obtain ⟨b1, b2⟩ := mM (kV p f) _ _ _ w2 (hun _) a1;have := hun (s.AY.set nn.toNat true);obtain ⟨c1, c2⟩ := mM (kV p f) _ _ _ b1 (by omega) a2
        rw [bsm];exact good (z + own d) s2 (by omega) (by omega) c1 (by omega)
  ·have hk : jJ p s ⟨op, nn, ar, ks⟩ z ↔ nn = 0 := by unfold jJ; rw [a1U o2, a1U o4]
   rw [a1U o4];cases hall2 : ar.all (okE z) with
   | false =>
    rw [a0n, a1Q, bsm];dsimp only
    rw [oT, a1U (fun q => by cases q.1)]
    exact ⟨_, rfl, jA hl1 hl2⟩
   | true =>
    rw [a0o, a1P, bsm];dsimp only
    by_cases n1 : nn ≠ 0
    ·rw [a1S n1, oT, a1U (fun q => n1 (hk.1 q.2))];exact ⟨_, rfl, jA hl1 hl2⟩
    ·rw [a1R n1, a1V ⟨rfl, hk.2 (by omega)⟩, hne4 o4, hsets];exact good z ⟨s.sz.set n.toNat z, s.AX.set n.toNat true, s.AY⟩ hz.1 (by omega) w1 (hun _)
theorem aF0 {op : Int} {k c : Nat} (h : shp op = some (k, c)) : tO op = some (if c = 1 then -1 else if c = 2 then 1 else 0, (k : Int), true) := by
 unfold shp at h
 split at h
 ·rename_i h1; cases h; rcases h1 with rfl | rfl <;> rfl
 split at h
 ·rename_i h1; cases h; subst h1; rfl
 split at h
 ·rename_i h1; cases h; subst h1; rfl
 split at h
 ·rename_i h1; cases h; subst h1; rfl
 split at h
 ·rename_i h1; cases h; rcases h1 with rfl | rfl <;> rfl
 split at h
 ·rename_i h1; cases h; subst h1; rfl
 ·cases h
theorem aG9 {op : Int} (h : shp op = none) : tO op = some (0, 0, false) := by
 unfold shp at h
 rw [tO]
 split at h; · cases h
 split at h; · cases h
 split at h; · cases h
 split at h; · cases h
 split at h; · cases h
 split at h; · cases h
 rename_i h1 h2 h3 h4 h5 h6
 rw [a1U (by omega), bsm, a1R (by omega), a1P, a1U h3, a1U h2, a1U h4, a1U h6, a1U (by omega), bsm, a1R (by omega), a1P]
def pI (c : Nat) (l : Nat) : Prop := if c = 1 then l <= 3 else if c = 2 then l = 1 else l = 0
theorem aAz {s : VS} {x : Ae} {z : Int} {k c : Nat} (h : shp x.Op = some (k, c)) : okM p s x z c ↔ jJ p s x z /\ pI c x.Aa.length := by
 have h0 := h
 unfold shp at h
 unfold jJ pI
 split at h
 ·rename_i h1; cases h; rw [a1U (by omega), a1U (by omega)]; simp [okM]
 split at h
 ·rename_i h1; cases h; rw [a1U (by omega), a1U (by omega)]; simp [okM]
 split at h
 ·rename_i h1; cases h; rw [a1V (.inl h1)]; simp [okM]
 split at h
 ·rename_i h1; cases h; rw [a1U (by omega), a1U (by omega)]; simp [okM]
 split at h
 ·rename_i h1; cases h; rw [a1V (.inr h1)]; simp [okM]
 split at h
 ·rename_i h1; cases h; rw [a1U (by omega), a1V h1]; simp [okM]
 ·cases h
open Classical in
theorem rnode_go (hp : SmP p) (hall : ∀ d ∈ p.AC, okD d = true) (hm : 3000001 <= m) (hv : RVis p f (eR m)) (hv' : RVis p f (eR (m - 1))) {s : VS} (hs : WS p s) {n z : Int} (hu : unm s <= f + 1) (hz : 0 <= z /\ z + 69 + 80 * f <= 100000) (h : 0 <= n /\ n < (p.AB.length : Int) /\ idx s.AX n = some false) :
  ∃ L, eR (m + 1) ⟨p, s.sz, ob s.AX, ob s.AY, false⟩ n z = some L /\ ROut p (vis p (f + 1) s n z) L := by
 obtain ⟨x, hx⟩ := iB h.1 h.2.1
 obtain ⟨v1, v2⟩ := vis_go (f := f) (z := z) h hx
 have hun : ∀ AY, unm ⟨s.sz.set n.toNat z, s.AX.set n.toNat true, AY⟩ <= f := fun AY => by
  have := aAs (p := p) (z := z) (AY := AY) h.1 h.2.2; omega
 obtain ⟨b, hb⟩ := iB (xs := s.sz) h.1 (by rw [hs.sz]; exact h.2.1)
 have hl1 : ((ob s.AX).set n.toNat 1).length = p.AB.length := by simp [iZ, hs.AX]
 have hl2 : (ob s.AY).length = p.AC.length := by rw [iZ, hs.AY]
 have hgo := tailR_eq hp hall hm hv hv' hs (n := n) (z := z) (fJ hx) hun hz
 rw [eR]
 dsimp only
 rw [a1U (by omega), a1U (by omega), aAL h.2.2, bsm, a1U a0m, a1U (by omega), bsm, aU (by omega), bsm, bsm, hb, bsm, hx, bsm]
 cases hsh : shp x.Op with
 | none =>
  rw [aG9 hsh, bsm];dsimp only
  rw [a0n, a1Q, bsm, bsm, v2 (by rintro ⟨⟨k, c, g, _⟩, _⟩; rw [hsh] at g; cases g)];exact ⟨_, rfl, jA hl1 hl2⟩
 | some kc =>
  obtain ⟨k, c⟩ := kc;rw [aF0 hsh, bsm];dsimp only
  rw [a0o, a1P];by_cases hk : (x.AU.length : Int) ≠ (k : Int)
  ·rw [a1V hk, bsm, bsm, v2 (by rintro ⟨⟨k', c', g, g2, _⟩, _⟩; rw [hsh] at g; cases g; omega)];exact ⟨_, rfl, jA hl1 hl2⟩
  ·rw [a1U hk];have hfin : (if x.Aa.all (okE z) = true /\ jJ p s x z then rest p f s n z x else none) = vis p (f + 1) s n z \/ ¬ pI c x.Aa.length := by
    by_cases ha : pI c x.Aa.length
    ·left
     by_cases hq : x.Aa.all (okE z) = true /\ jJ p s x z
     ·rw [a1V hq, v1 ⟨⟨k, c, hsh, by omega, (aAz hsh).2 ⟨hq.2, ha⟩⟩, hq.1⟩]
     ·rw [a1U hq, v2];rintro ⟨⟨k', c', g, _, g3⟩, g4⟩
      rw [hsh] at g; cases g
      exact hq ⟨g4, ((aAz hsh).1 g3).1⟩
    ·exact .inr ha
   have hbad : ¬ pI c x.Aa.length -> vis p (f + 1) s n z = none := fun ha => v2 (by
    rintro ⟨⟨k', c', g, _, g3⟩, _⟩
    rw [hsh] at g; cases g
    exact ha ((aAz hsh).1 g3).2)
   obtain ⟨L, e1, e2⟩ := hgo;by_cases ha : pI c x.Aa.length
   ·rw [hfin.resolve_right (fun q => q ha)] at e2;refine ⟨L, ?_, e2⟩;rw [<- e1];unfold pI at ha;by_cases c1 : c = 1
    ·rw [a1V c1] at ha ⊢;rw [a1V (by omega), a1U (by omega), a1U (by omega), bsm]; rfl
    ·rw [a1U c1] at ha ⊢;by_cases c2 : c = 2
     ·rw [a1V c2] at ha ⊢;rw [a1U (by omega), a1V (by omega), a1U (by omega), bsm]; rfl
     ·rw [a1U c2] at ha ⊢;rw [a1U (by omega), a1V (by omega), a1U (by omega), bsm]; rfl
   ·rw [hbad ha];refine ⟨⟨p, s.sz.set n.toNat z, (ob s.AX).set n.toNat 1, ob s.AY, true⟩, ?_, jA hl1 hl2⟩;unfold pI at ha;by_cases c1 : c = 1
    ·rw [a1V c1] at ha ⊢;rw [a1V (by omega), a1V (by omega), bsm, bsm]; rfl
    ·rw [a1U c1] at ha ⊢;by_cases c2 : c = 2
     ·rw [a1V c2] at ha ⊢;rw [a1U (by omega), a1V (by omega), a1V (by omega), bsm, bsm]; rfl
     ·rw [a1U c2] at ha ⊢;rw [a1U (by omega), a1V (by omega), a1V (by omega), bsm, bsm]; rfl
theorem aCG {s : VS} (hs : WS p s) {n z : Int} (h : ¬ (0 <= n /\ n < (p.AB.length : Int) /\ idx s.AX n = some false)) : ∃ L, eR (m + 1) ⟨p, s.sz, ob s.AX, ob s.AY, false⟩ n z = some L /\ ROut p none L := by
 have hl1 : (ob s.AX).length = p.AB.length := by rw [iZ, hs.AX]
 have hl2 : (ob s.AY).length = p.AC.length := by rw [iZ, hs.AY]
 refine ⟨⟨p, s.sz, ob s.AX, ob s.AY, true⟩, ?_, jA hl1 hl2⟩
 rw [eR]
 dsimp only
 by_cases h0 : n < 0
 ·rw [a1V h0]
 ·rw [a1U h0];by_cases h1 : (p.AB.length : Int) <= n
  ·rw [a1V h1]
  ·rw [a1U h1];obtain ⟨b, hb⟩ := iB (xs := s.AX) (show 0 <= n by omega) (by rw [hs.AX]; omega)
   cases b with
   | false => exact absurd ⟨by omega, by omega, hb⟩ h
   | true => rw [aAL hb, bsm, a1V rfl, a1V (by omega)]
end
theorem rvis {p : AM} (hp : SmP p) (hall : ∀ d ∈ p.AC, okD d = true) (f : Nat) : ∀ g, 3000003 + 2 * f <= g -> RVis p f (eR g) := by
 induction f with
 | zero =>
  intro g hg;obtain ⟨g, rfl⟩ : ∃ k, g = k + 1 := ⟨g - 1, by omega⟩
  refine ⟨fun s n z hs hu h0 h1 => ?_⟩
  have h : ¬ (0 <= n /\ n < (p.AB.length : Int) /\ idx s.AX n = some false) := fun q => by have := aC5 q.2.2; omega
  rw [zA h]; exact aCG hs h
 | succ f ih =>
  intro g hg;obtain ⟨g, rfl⟩ : ∃ k, g = k + 1 := ⟨g - 1, by omega⟩
  refine ⟨fun s n z hs hu h0 h1 => ?_⟩
  by_cases h : 0 <= n /\ n < (p.AB.length : Int) /\ idx s.AX n = some false
  ·exact rnode_go hp hall (m := g) (by omega) (ih g (by omega)) (ih (g - 1) (by omega)) hs hu ⟨h0, by omega⟩ h
  ·rw [zA h]; exact aCG hs h
open Go.SX Go.SW Go.Dt
abbrev F : Nat := 1000000000
theorem aCT : ∀ x y : List UInt8, Op.bytesLess x y = (!(Op.bytesLess y x || decide (y = x)))
 | [], [] => rfl
 | [], b :: y => by simp [Op.bytesLess]
 | a :: x, [] => by simp [Op.bytesLess]
 | a :: x, b :: y => by
  have ih := aCT x y;simp only [Op.bytesLess, ih];by_cases h1 : a < b
  ·have h2 : ¬ b < a := fun h => by have := UInt8.lt_trans h1 h; exact absurd this (by simp)
   have h3 : b ≠ a := fun h => by subst h; exact absurd h1 (by simp)
   simp [h1, h2, h3]
  ·by_cases h2 : b < a
   ·have h3 : a ≠ b := fun h => by subst h; exact absurd h2 (by simp)
    simp [h1, h2, h3]
   ·have h3 : a = b := by
     have a1 := UInt8.not_lt.1 h1; have a2 := UInt8.not_lt.1 h2
     exact UInt8.le_antisymm a2 a1
    subst h3;simp
theorem slt_sle (a b : ByteArray) : slt a b = !sle b a := by
 have he : decide (b = a) = decide (b.toList = a.toList) := by
  rw [decide_eq_decide];exact ⟨fun h => by rw [h], fun h => (by have := (aAr (i := b) (j := a)); rw [beq_iff_eq.2 h] at this; exact of_decide_eq_true this.symm)⟩
 unfold sle slt
 rw [he]; exact aCT _ _
theorem aCX (s : ByteArray) : ∀ (k : Nat) (i : Int), oU s k i = kF s k i
 | 0, _ => rfl
 | k + 1, i => by
  rw [oU, kF];simp only [aCX s k]
theorem aEd {s : ByteArray} (hs : s.size <= 2000000) : ∀ (k i : Nat), s.size < k + i -> i <= s.size -> kF s k (i : Int) = some (.inr false) \/ kF s k (i : Int) = some (.inl ())
 | 0, i, h, h2 => by omega
 | k + 1, i, h, h2 => by
  rw [kF];by_cases hi : i < s.size
  ·have hx : sidx s (i : Int) = some ((s[i]'hi).toNat : Int) := by
    unfold sidx; rw [a1V (by omega)]; simp [hi]
   rw [a1V (by omega), hx, bsm];by_cases c1 : ((s[i]'hi).toNat : Int) < 97
   ·rw [a1V c1]; exact .inl rfl
   ·rw [a1U c1, bsm];by_cases c2 : 122 < ((s[i]'hi).toNat : Int)
    ·rw [a1V c2]; exact .inl rfl
    ·rw [a1U c2, aU (by omega), bsm];exact aEd hs k (i + 1) (by omega) (by omega)
  ·rw [a1U (by omega)]; exact .inr rfl
open Classical in
theorem has_loop {a : ByteArray} (AH : List ByteArray) : ∀ (AG : List ByteArray) (k : Nat), AH.length < k -> AG.length + AH.length <= 3000000 -> mR (AG ++ AH) a k AG.length = some (if a ∈ AH then .inr true else .inl ()) := by
 induction AH with
 | nil =>
  intro AG k hk _;obtain _ | k := k
  ·omega
  rw [mR, a1U (by simp), a1U (by simp)]
 | cons e AH ih =>
  intro AG k hk hB;obtain _ | k := k
  ·omega
  simp only [a0U] at hk hB;rw [mR, a1V (cD _ _ _), cI, bsm];by_cases he : e = a
  ·rw [a1V he, a1V (by simp [he])]; rfl
  ·have hm : (a ∈ e :: AH) ↔ a ∈ AH := by simp [Ne.symm he]
   rw [a1U he, aU (by omega), bsm, cG AG AH e, bW AG e, ih (AG ++ [e]) k (by omega) (by simp; omega)];by_cases hs : a ∈ AH
   ·rw [a1V hs, a1V (hm.2 hs)]
   ·rw [a1U hs, a1U (fun q => hs (hm.1 q))]
open Classical in
theorem oO {l : List ByteArray} {a : ByteArray} (h : l.length <= 3000000) : vE F l a = some (decide (a ∈ l)) := by
 have := has_loop (a := a) l [] F (by show l.length < 1000000000; omega) (by simp; omega)
 simp only [a1k, a0W, a0q] at this
 rw [vE, this, bsm]
 by_cases hs : a ∈ l
 ·rw [a1V hs]; simp [hs]
 ·rw [a1U hs]; simp [hs]
theorem upd_get {g : bD ByteArray Bool} {k s : ByteArray} : (bD.upd g k true).get s = if s = k then some true else g.get s := rfl
theorem aB6 {s : ByteArray} (hs : s.size <= 2000000) : ∃ b, qF F s = some b /\ rN F s = some b := by
 have hl := aEd hs F 0 (by show s.size < 1000000000 + 0; omega) (by omega)
 simp only [a0q] at hl
 rw [qF, rN, aCX]
 by_cases c1 : (s.size : Int) < 1
 ·rw [a1V c1];refine ⟨false, ?_, rfl⟩;rcases hl with h | h <;> rw [h, bsm]
  dsimp only
  rw [a1U (by omega)]; rfl
 ·rw [a1U c1];by_cases c2 : 8 < (s.size : Int)
  ·rw [a1V c2];refine ⟨false, ?_, rfl⟩;rcases hl with h | h <;> rw [h, bsm]
   dsimp only
   rw [a1V (by omega), a1U (by omega)]; rfl
  ·rw [a1U c2];rcases hl with h | h
   ·rw [h]; exact ⟨false, rfl, rfl⟩
   ·rw [h, bsm, bsm];dsimp only
    rw [a1V (by omega), a1V (by omega), oO (by simp), bsm];refine ⟨_, ?_, rfl⟩;rw [zX, bsm, bsm];congr 2
    simp only [upd_get, bD.none, a1e, List.not_mem_nil, or_false]
    repeat' split
    all_goals simp_all
def nm (s : ByteArray) : Bool := (qF F s).getD false
theorem nm_p {s : ByteArray} (hs : s.size <= 2000000) : qF F s = some (nm s) := by
 obtain ⟨b, h, _⟩ := aB6 hs; unfold nm; rw [h]; rfl
theorem nm_r {s : ByteArray} (hs : s.size <= 2000000) : rN F s = some (nm s) := by
 obtain ⟨b, h, h2⟩ := aB6 hs; unfold nm; rw [h, h2]; rfl
def okF : Option ByteArray -> List ByteArray -> Bool
 | _, [] => true
 | q, s :: l => nm s && (match q with | none => true | some q => slt q s) && okF (some s) l
theorem aCS {α : Type} {AG AH : List α} {y : α} (h : 0 < AG.length) : ∃ q, AG.getLast? = some q /\ idx (AG ++ y :: AH) ((AG.length : Int) - 1) = some q := by
 have hne : AG ≠ [] := fun e => by rw [e] at h; simp at h
 have hd := List.dropLast_concat_getLast hne
 generalize AG.dropLast = d, AG.getLast hne = q at hd
 subst hd
 refine ⟨q, by simp, ?_⟩
 rw [show (((d ++ [q]).length : Int) - 1) = (d.length : Int) from by simp]
 exact qX (by simp)
theorem fl1 {nodes : List Ae} {AZ : List AN} {mn : Int} (AH : List ByteArray) : ∀ (AG : List ByteArray) (k : Nat), AH.length < k -> AG.length + AH.length <= 3000000 -> (∀ x ∈ AH, x.size <= 2000000) ->
  mB F ⟨AG ++ AH, nodes, AZ, mn⟩ k AG.length = some (if okF AG.getLast? AH = true then .inl () else .inr (.inr flaw)) := by
 induction AH with
 | nil =>
  intro AG k hk _ _;obtain _ | k := k
  ·omega
  rw [mB, a1U (by simp), a1V (by rfl)]
 | cons e AH ih =>
  intro AG k hk hB hx;obtain _ | k := k
  ·omega
  simp only [a0U] at hk hB;have hgl : (AG ++ [e]).getLast? = some e := by simp
  rw [mB, a1V (cD _ _ _)];dsimp only
  rw [cI, bsm, nm_p (hx e (.head _)), bsm];have hst : okF AG.getLast? (e :: AH) = (nm e && (match AG.getLast? with | none => true | some q => slt q e) && okF (some e) AH) := by
   cases AG.getLast? <;> rfl
  cases hn : nm e with
  | false => rw [hst, hn, Bool.false_and, Bool.false_and]; rfl
  | true =>
   rw [a1Q];rw [hn, a0p] at hst;have hnext := ih (AG ++ [e]) k (by omega) (by simp; omega) (fun x h => hx x (.tail _ h))
   rw [hgl] at hnext;by_cases h0 : (AG.length : Int) = 0
   ·have : AG = [] := a0y (by omega)
    subst this;have hst : okF ([] : List ByteArray).getLast? (e :: AH) = okF (some e) AH := by rw [hst]; rfl
    rw [a1V h0, eU, bsm, hst];dsimp only
    rw [bsm]; dsimp only
    rw [aU (by simp), bsm, cG [] AH e, bW [] e, hnext]
   ·obtain ⟨q, h1, h2⟩ := aCS (AG := AG) (AH := AH) (y := e) (by omega)
    have hst : okF AG.getLast? (e :: AH) = (slt q e && okF (some e) AH) := by rw [hst, h1]
    rw [a1U h0, aU (by omega), bsm, h2, bsm, hst];cases hl : slt q e with
    | false => rfl
    | true =>
     rw [eU, bsm, a0p];dsimp only
     rw [bsm]; dsimp only
     rw [aU (by omega), bsm, cG AG AH e, bW AG e, hnext]
theorem fr_bad {p : AM} (AH : List ByteArray) : ∀ (AG : List ByteArray) (k : Nat), p.AD = AG ++ AH -> AH.length < k -> AG.length + AH.length <= 3000000 -> iR F p k AG.length true = some true := by
 induction AH with
 | nil =>
  intro AG k he hk _;obtain _ | k := k
  ·omega
  rw [iR, he, a1U (by simp)]
 | cons e AH ih =>
  intro AG k he hk hB;obtain _ | k := k
  ·omega
  simp only [a0U] at hk hB;rw [iR, he, a1V (cD _ _ _), a1Q, bsm, aU (by omega), bsm, bW AG e];exact ih (AG ++ [e]) k (by rw [he]; simp) (by omega) (by simp; omega)
theorem fr1 {p : AM} (AH : List ByteArray) : ∀ (AG : List ByteArray) (k : Nat), p.AD = AG ++ AH -> AH.length < k -> AG.length + AH.length <= 3000000 -> (∀ x ∈ AH, x.size <= 2000000) ->
  iR F p k AG.length false = some (!okF AG.getLast? AH) := by
 induction AH with
 | nil =>
  intro AG k he hk _ _;obtain _ | k := k
  ·omega
  rw [iR, he, a1U (by simp)]; rfl
 | cons e AH ih =>
  intro AG k he hk hB hx;obtain _ | k := k
  ·omega
  simp only [a0U] at hk hB;have hgl : (AG ++ [e]).getLast? = some e := by simp
  have hst : okF AG.getLast? (e :: AH) = (nm e && (match AG.getLast? with | none => true | some q => slt q e) && okF (some e) AH) := by
   cases AG.getLast? <;> rfl
  have hnext := ih (AG ++ [e]) k (by rw [he]; simp) (by omega) (by simp; omega) (fun x h => hx x (.tail _ h))
  have hbadn := fr_bad (p := p) AH (AG ++ [e]) k (by rw [he]; simp) (by omega) (by simp; omega)
  rw [hgl] at hnext;rw [iR, he, a1V (cD _ _ _), a1P, cI, bsm, nm_r (hx e (.head _)), bsm, hst];cases hn : nm e with
  | false =>
   rw [a0n, a1Q, bsm, aU (by omega), bsm, bW AG e, hbadn]; rfl
  | true =>
   rw [a0o, a1P, a0p];by_cases h0 : 0 < (AG.length : Int)
   ·obtain ⟨q, h1, h2⟩ := aCS (AG := AG) (AH := AH) (y := e) (by omega)
    have hst2 : (match AG.getLast? with | none => true | some q => slt q e) = !sle e q := by rw [h1]; exact slt_sle q e
    rw [hst2, a1V h0, bsm, aU (by omega), bsm, h2, bsm, bsm, aU (by omega), bsm, bW AG e];cases hl : sle e q with
    | true => rw [hbadn]; rfl
    | false => rw [hnext]; rfl
   ·have : AG = [] := a0y (by omega)
    subst this;rw [a1U h0, bsm, aU (by simp), bsm, bW [] e, hnext]; simp
open Go.SX Go.SW Go.Dt
def start (p : AM) : VS := ⟨List.replicate p.AB.length 0, List.replicate p.AB.length false, List.replicate p.AC.length false⟩
open Classical in
noncomputable def eQ (p : AM) : Option VS :=
 if p.AD.length <= 12 /\ p.AB.length <= 60 /\ p.AC.length <= 12 /\ okF none p.AD = true then
  (vis p p.AB.length (start p) p.AE p.AD.length).bind fun s => if s.AX.all id = true /\ s.AY.all id = true then some s else none
 else none
theorem rP {p : AM} : WS p (start p) := ⟨by simp [start], by simp [start], by simp [start]⟩
theorem rX {p : AM} : unm (start p) = p.AB.length := by simp [unm, start, List.countP_replicate]
def GD (p : AM) (s : VS) : Prop := ∀ i : Nat, s.AY[i]? = some true -> ∃ d, p.AC[i]? = some d /\ okD d = true
theorem uO {p : AM} {g : VS -> Int -> Int -> Option VS} (h : ∀ s n z s', g s n z = some s' -> GD p s -> GD p s') : ∀ (l : List (Int × Int)) (s s' : VS), dB g s l = some s' -> GD p s -> GD p s'
 | [], s, s', e, h0 => by cases e; exact h0
 | x :: l, s, s', e, h0 => by
  obtain ⟨s1, e1, e2⟩ := bind_some e;exact uO h l s1 s' e2 (h _ _ _ _ e1 h0)
theorem vis_gd {p : AM} (f : Nat) : ∀ (s : VS) (n z : Int) (s' : VS), vis p f s n z = some s' -> GD p s -> GD p s' := by
 induction f with
 | zero => intro s n z s' h; simp [vis] at h
 | succ f ih =>
  intro s n z s' h h0;simp only [vis] at h;split at h
  ·obtain ⟨x, _, h⟩ := bind_some h;split at h
   ·split at h
    ·obtain ⟨d, hd, h⟩ := bind_some h;split at h
     ·rename_i hok;obtain ⟨s1, e1, h⟩ := bind_some h;obtain ⟨s2, e2, e3⟩ := bind_some h;refine uO ih _ _ _ e3 (uO ih _ _ _ e2 (uO ih _ _ _ e1 ?_));intro i hi;by_cases hn : x.N.toNat = i
      ·obtain ⟨j, hj, hj2, _⟩ := kU hd;rw [<- hn, hj]; simp only [a0r];exact ⟨d, hj2, hok⟩
      ·simp only [a0N hn] at hi;exact h0 i hi
     ·cases h
    ·exact uO ih _ _ _ h h0
   ·cases h
  ·cases h
theorem yZ {p : AM} {s : VS} (h : eQ p = some s) : ∀ d ∈ p.AC, okD d = true := by
 unfold eQ at h
 split at h
 ·obtain ⟨s1, h1, h2⟩ := bind_some h;split at h2
  ·rename_i hc;cases h2;have hg := vis_gd _ _ _ _ _ h1 (fun i hi => by simp [start, a0L] at hi)
   have hw := ((kV p p.AB.length).out _ _ _ _ rP (by rw [rX]; exact a1y _) h1).1
   intro d hd;obtain ⟨i, hi⟩ := a1f.1 hd;have hlt := (a0J.1 hi).1;have hlt2 : i < s.AY.length := by rw [hw.AY]; exact hlt
   have ht : s.AY[i] = true := a0s.1 hc.2 _ (a0S hlt2);obtain ⟨d', h3, h4⟩ := hg i (by rw [a0H hlt2, ht])
   rw [hi] at h3; cases h3; exact h4
  ·cases h2
 ·cases h
theorem aHx (AH : List Bool) : ∀ (AG : List Bool) (k : Nat), AH.length < k -> AG.length + AH.length <= 3000000 -> ∃ r, oB (AG ++ AH) false k AG.length = some r /\ ((AH.all id = false /\ ∃ i : Int, r = .inr i /\ 0 <= i) \/ (AH.all id = true /\ r = .inl ())) := by
 induction AH with
 | nil =>
  intro AG k hk _;obtain _ | k := k
  ·omega
  exact ⟨_, by rw [oB, a1U (by simp)], .inr ⟨rfl, rfl⟩⟩
 | cons e AH ih =>
  intro AG k hk hB;obtain _ | k := k
  ·omega
  simp only [a0U] at hk hB;rw [oB, a1V (cD _ _ _), cI, bsm];cases e with
  | false => exact ⟨_, rfl, .inl ⟨rfl, _, rfl, by omega⟩⟩
  | true =>
   rw [show (false == true) = false from rfl, a1P, aU (by omega), bsm, cG AG AH true, bW AG true];obtain ⟨r, h1, h2⟩ := ih (AG ++ [true]) k (by omega) (by simp; omega)
   exact ⟨r, h1, by simpa using h2⟩
theorem aCJ {l : List Bool} (h : l.length <= 3000000) : tY F l false = some (!l.all id) := by
 obtain ⟨r, h1, h2⟩ := aHx l [] F (by show l.length < 1000000000; omega) (by simp; omega)
 simp only [a1k, a0W, a0q] at h1
 rw [tY, aAh, h1]
 rcases h2 with ⟨h2, i, rfl, h3⟩ | ⟨h2, rfl⟩
 ·rw [h2]; simp [h3]
 ·rw [h2]; rfl
theorem look_eq {p : AM} (hp : SmP p) : wQ F p = some (kJ p (eQ p)) := by
 obtain ⟨fr, nodes, AZ, mn⟩ := p
 have hf := hp.free; have hn := hp.nodes; have hd := hp.AZ
 dsimp only at hf hn hd
 rw [wQ]
 dsimp only
 unfold eQ
 dsimp only
 by_cases l1 : fr.length <= 12
 ·rw [a1V (by omega)];by_cases l2 : nodes.length <= 60
  ·rw [a1V (by omega)];by_cases l3 : AZ.length <= 12
   ·rw [a1S (by omega), eU, bsm, bsm];dsimp only
    have e1 : mB F ⟨fr, nodes, AZ, mn⟩ F 0 = some (if okF none fr = true then .inl () else .inr (.inr flaw)) := fl1 (nodes := nodes) (AZ := AZ) (mn := mn) fr [] F (by show fr.length < 1000000000; omega) (by simp; omega) hp.names
    rw [e1, bsm];by_cases hok : okF none fr = true
    ·rw [a1V hok, a1V ⟨l1, l2, l3, hok⟩];dsimp only
     have hmk : ∀ {α : Type} (a : α) (k : Nat), k <= 60 -> mk a (k : Int) = some (List.replicate k a) := fun a k hk => by unfold mk; rw [a1V (by omega)]; simp
     rw [hmk 0 _ l2, bsm, hmk false _ l2, bsm, hmk false _ (by omega), bsm];have hv := pvis hp (b := 1000000000 - nodes.length - 1) (by omega) nodes.length
     rw [show 1000000000 - nodes.length - 1 + nodes.length + 1 = F from by show _ = 1000000000; omega] at hv
     have hrun := hv.run (start ⟨fr, nodes, AZ, mn⟩) mn fr.length rP (by rw [rX]; exact a1y _) (by omega) (by omega)
     rw [show (⟨⟨fr, nodes, AZ, mn⟩, List.replicate nodes.length 0, List.replicate nodes.length false, List.replicate AZ.length false⟩ : Am) = ⟨⟨fr, nodes, AZ, mn⟩, (start ⟨fr, nodes, AZ, mn⟩).sz, (start ⟨fr, nodes, AZ, mn⟩).AX, (start ⟨fr, nodes, AZ, mn⟩).AY⟩ from rfl, hrun, bsm];cases hc : vis ⟨fr, nodes, AZ, mn⟩ nodes.length (start ⟨fr, nodes, AZ, mn⟩) mn fr.length with
     | none => rfl
     | some s =>
      obtain ⟨w, _⟩ := (kV _ _).out _ _ _ _ rP (by rw [rX]; exact a1y _) hc
      have wm : s.AX.length = nodes.length := w.AX;have wd : s.AY.length = AZ.length := w.AY;simp only [kJ];rw [bsm, aCJ (by omega), bsm];cases hm : s.AX.all id with
      | false => rw [a1U (fun q => by cases q.1)]; rfl
      | true =>
       rw [a0o, a0n, a1Q, aCJ (by omega), bsm];cases hm2 : s.AY.all id with
       | false => rw [a1U (fun q => by cases q.2)]; rfl
       | true => rw [a1V ⟨rfl, rfl⟩]; rfl
    ·rw [a1U hok, a1U (fun q => hok q.2.2.2)]; rfl
   ·rw [a1R (by omega), cX, a1U (fun q => l3 q.2.2.1)]; rfl
  ·rw [a1U (by omega), cX, a1U (fun q => l2 q.2.1)]; rfl
 ·rw [a1U (by omega), cX, a1U (fun q => l1 q.1)]; rfl
theorem check_eq {p : AM} (hp : SmP p) : sB F p = some (if (eQ p).isSome = true then 0 else 2) := by
 rw [sB, aAk, show (⟨p.AD, p.AB, p.AC, p.AE⟩ : AM) = p from rfl, look_eq hp, bsm]
 cases eQ p with
 | none => rfl
 | some s => rfl
theorem aB2 {p : AM} (AH : List AN) : ∀ (AG : List AN) (k : Nat), p.AC = AG ++ AH -> AH.length < k -> AG.length + AH.length <= 3000000 -> jF F p k AG.length true = some true := by
 induction AH with
 | nil =>
  intro AG k he hk _;obtain _ | k := k
  ·omega
  rw [jF, he, a1U (by simp)]
 | cons e AH ih =>
  intro AG k he hk hB;obtain _ | k := k
  ·omega
  simp only [a0U] at hk hB;rw [jF, he, a1V (cD _ _ _), a1Q, bsm, aU (by omega), bsm, bW AG e];exact ih (AG ++ [e]) k (by rw [he]; simp) (by omega) (by simp; omega)
theorem al2 {p : AM} (hp : SmP p) (AH : List AN) : ∀ (AG : List AN) (k : Nat), p.AC = AG ++ AH -> AH.length < k -> AG.length + AH.length <= 3000000 -> jF F p k AG.length false = some (!AH.all okD) := by
 induction AH with
 | nil =>
  intro AG k he hk _;obtain _ | k := k
  ·omega
  rw [jF, he, a1U (by simp)]; rfl
 | cons e AH ih =>
  intro AG k he hk hB;obtain _ | k := k
  ·omega
  simp only [a0U] at hk hB;have hmem : e ∈ p.AC := by rw [he]; simp
  rw [jF, he, a1V (cD _ _ _), a1P, cI, bsm, rdef_eq (by show 3000000 <= 1000000000; omega) (hp.AY e hmem), bsm, bsm, aU (by omega), bsm, bW AG e];cases h : okD e with
  | false => rw [a0n, aB2 AH (AG ++ [e]) k (by rw [he]; simp) (by omega) (by simp; omega), show (e :: AH).all okD = (okD e && AH.all okD) from rfl, h]; rfl
  | true => rw [a0o, ih (AG ++ [e]) k (by rw [he]; simp) (by omega) (by simp; omega), show (e :: AH).all okD = (okD e && AH.all okD) from rfl, h, a0p]
theorem aCq {L : Ah} (AH : List Int) : ∀ (AG : List Int) (k : Nat), L.Ak = AG ++ AH -> AH.length < k -> AG.length + AH.length <= 3000000 -> jS L k AG.length true = some true := by
 induction AH with
 | nil =>
  intro AG k he hk _;obtain _ | k := k
  ·omega
  rw [jS, he, a1U (by simp)]
 | cons e AH ih =>
  intro AG k he hk hB;obtain _ | k := k
  ·omega
  simp only [a0U] at hk hB;rw [jS, he, a1V (cD _ _ _), a1Q, bsm, aU (by omega), bsm, bW AG e];exact ih (AG ++ [e]) k (by rw [he]; simp) (by omega) (by simp; omega)
theorem aAx {L : Ah} (AH : List Int) : ∀ (AG : List Int) (k : Nat), L.Aj = AG ++ AH -> AH.length < k -> AG.length + AH.length <= 3000000 -> jE L k AG.length true = some true := by
 induction AH with
 | nil =>
  intro AG k he hk _;obtain _ | k := k
  ·omega
  rw [jE, he, a1U (by simp)]
 | cons e AH ih =>
  intro AG k he hk hB;obtain _ | k := k
  ·omega
  simp only [a0U] at hk hB;rw [jE, he, a1V (cD _ _ _), a1Q, bsm, aU (by omega), bsm, bW AG e];exact ih (AG ++ [e]) k (by rw [he]; simp) (by omega) (by simp; omega)
theorem al3 {L : Ah} (AH : List Bool) : ∀ (AG : List Int) (k : Nat), L.Ak = AG ++ ob AH -> AH.length < k -> AG.length + AH.length <= 3000000 -> jS L k AG.length false = some (!AH.all id) := by
 induction AH with
 | nil =>
  intro AG k he hk _;obtain _ | k := k
  ·omega
  rw [jS, he, a1U (by simp [ob])]; rfl
 | cons e AH ih =>
  intro AG k he hk hB;obtain _ | k := k
  ·omega
  simp only [a0U] at hk hB;have hob : ob (e :: AH) = (if e = true then 1 else 0) :: ob AH := rfl
  rw [hob] at he;have he2 := he; rw [cG] at he2;rw [jS, he, a1V (cD _ _ _), a1P, cI, bsm, bsm, aU (by omega), bsm, bW AG (if e = true then 1 else 0)];cases e with
  | false =>
   rw [a1U a0m] at he2 ⊢;rw [a1S (by omega), aCq (ob AH) (AG ++ [0]) k he2 (by rw [iZ]; omega) (by rw [iZ]; simp; omega)]; rfl
  | true =>
   rw [a1V rfl] at he2 ⊢;rw [a1R (by omega), ih (AG ++ [1]) k he2 (by omega) (by simp; omega)]; simp
theorem al4 {L : Ah} (AH : List Bool) : ∀ (AG : List Int) (k : Nat), L.Aj = AG ++ ob AH -> AH.length < k -> AG.length + AH.length <= 3000000 -> jE L k AG.length false = some (!AH.all id) := by
 induction AH with
 | nil =>
  intro AG k he hk _;obtain _ | k := k
  ·omega
  rw [jE, he, a1U (by simp [ob])]; rfl
 | cons e AH ih =>
  intro AG k he hk hB;obtain _ | k := k
  ·omega
  simp only [a0U] at hk hB;have hob : ob (e :: AH) = (if e = true then 1 else 0) :: ob AH := rfl
  rw [hob] at he;have he2 := he; rw [cG] at he2;rw [jE, he, a1V (cD _ _ _), a1P, cI, bsm, bsm, aU (by omega), bsm, bW AG (if e = true then 1 else 0)];cases e with
  | false =>
   rw [a1U a0m] at he2 ⊢;rw [a1S (by omega), aAx (ob AH) (AG ++ [0]) k he2 (by rw [iZ]; omega) (by rw [iZ]; simp; omega)]; rfl
  | true =>
   rw [a1V rfl] at he2 ⊢;rw [a1R (by omega), ih (AG ++ [1]) k he2 (by omega) (by simp; omega)]; simp
def AOut (p : AM) (o : Option VS) (L : Ah) : Prop := match o with
 | some s => L = ⟨p, s.sz, ob s.AX, ob s.AY, false⟩
 | none => L.bad = true
theorem kA {p : AM} (hp : SmP p) : ∃ L, uT F p = some L /\ AOut p (eQ p) L := by
 have hdefs : eQ p ≠ none -> ∀ d ∈ p.AC, okD d = true := fun h => by
  cases hc : eQ p with
  | none => exact absurd hc h
  | some s => exact yZ hc
 obtain ⟨fr, nodes, AZ, mn⟩ := p
 have hf := hp.free; have hn := hp.nodes; have hd := hp.AZ
 dsimp only at hf hn hd
 rw [uT]
 dsimp only
 have hno : ∀ (q : ¬ (fr.length <= 12 /\ nodes.length <= 60 /\ AZ.length <= 12 /\ okF none fr = true)), eQ ⟨fr, nodes, AZ, mn⟩ = none := fun q => by unfold eQ; rw [a1U q]
 by_cases l1 : 12 < fr.length
 ·rw [a1V (by omega), hno (fun q => by omega)]; exact ⟨_, rfl, rfl⟩
 ·rw [a1U (by omega)];by_cases l2 : 60 < nodes.length
  ·rw [a1V (by omega), hno (fun q => by omega)]; exact ⟨_, rfl, rfl⟩
  ·rw [a1U (by omega)];by_cases l3 : 12 < AZ.length
   ·rw [a1V (by omega), hno (fun q => by omega)]; exact ⟨_, rfl, rfl⟩
   ·rw [a1U (by omega)];have e1 : iR F ⟨fr, nodes, AZ, mn⟩ F 0 false = some (!okF none fr) := fr1 (p := ⟨fr, nodes, AZ, mn⟩) fr [] F rfl (by show fr.length < 1000000000; omega) (by simp; omega) hp.names
    have hmk : ∀ (k : Nat), k <= 60 -> mk (0 : Int) (k : Int) = some (List.replicate k 0) := fun k hk => by unfold mk; rw [a1V (by omega)]; simp
    rw [e1, bsm];cases hok : okF none fr with
    | false =>
     have e2 := aB2 (p := ⟨fr, nodes, AZ, mn⟩) AZ [] F rfl (by show AZ.length < 1000000000; omega) (by simp; omega)
     simp only [a0W, a0q] at e2;rw [a0n, e2, bsm, hmk _ (by omega), bsm, bsm, hmk _ (by omega), bsm, a1Q, hno (fun q => by rw [hok] at q; cases q.2.2.2)]
     exact ⟨_, rfl, rfl⟩
    | true =>
     have e2 := al2 hp (p := ⟨fr, nodes, AZ, mn⟩) AZ [] F rfl (by show AZ.length < 1000000000; omega) (by simp; omega)
     simp only [a0W, a0q] at e2;rw [a0o, e2, bsm, hmk _ (by omega), bsm, bsm, hmk _ (by omega), bsm];cases had : AZ.all okD with
     | false =>
      have : eQ ⟨fr, nodes, AZ, mn⟩ = none := by
       cases hc : eQ ⟨fr, nodes, AZ, mn⟩ with
       | none => rfl
       | some s =>
        have := a0s.2 (hdefs (by rw [hc]; simp))
        dsimp only at this
        rw [had] at this; cases this
      rw [this, a0n, a1Q];exact ⟨_, rfl, rfl⟩
     | true =>
      rw [a0o, a1P];have hv := rvis hp (a0s.1 had) nodes.length F (by show _ <= 1000000000; omega)
      obtain ⟨L, h1, h2⟩ := hv.run (start ⟨fr, nodes, AZ, mn⟩) mn fr.length rP (by rw [rX]; exact a1y _) (by omega) (by omega)
      have hst : (⟨⟨fr, nodes, AZ, mn⟩, List.replicate nodes.length 0, List.replicate nodes.length 0, List.replicate AZ.length 0, false⟩ : Ah) = ⟨⟨fr, nodes, AZ, mn⟩, (start ⟨fr, nodes, AZ, mn⟩).sz, ob (start ⟨fr, nodes, AZ, mn⟩).AX, ob (start ⟨fr, nodes, AZ, mn⟩).AY, false⟩ := by
       simp [start, ob_rep]
      rw [hst, h1, bsm];have hcv : eQ ⟨fr, nodes, AZ, mn⟩ = (vis ⟨fr, nodes, AZ, mn⟩ nodes.length (start ⟨fr, nodes, AZ, mn⟩) mn fr.length).bind fun s => if s.AX.all id = true /\ s.AY.all id = true then some s else none := by
       unfold eQ; rw [a1V ⟨by show fr.length <= 12; omega, by show nodes.length <= 60; omega, by show AZ.length <= 12; omega, hok⟩]
      rw [hcv];cases hc : vis ⟨fr, nodes, AZ, mn⟩ nodes.length (start ⟨fr, nodes, AZ, mn⟩) mn fr.length with
      | none =>
       rw [hc] at h2;obtain ⟨g1, g2, g3⟩ := h2;dsimp only at g2 g3
       have e3 := aCq (L := L) L.Ak [] F rfl (by rw [g2]; show nodes.length < 1000000000; omega) (by simp; omega)
       have e4 := aAx (L := L) L.Aj [] F rfl (by rw [g3]; show AZ.length < 1000000000; omega) (by simp; omega)
       simp only [a0W, a0q] at e3 e4;rw [g1, e3, bsm, e4, bsm];exact ⟨_, rfl, rfl⟩
      | some s =>
       rw [hc] at h2;have h2 : L = _ := h2;subst h2;obtain ⟨w, _⟩ := (kV _ _).out _ _ _ _ rP (by rw [rX]; exact a1y _) hc
       have wm : s.AX.length = nodes.length := w.AX;have wd : s.AY.length = AZ.length := w.AY;have e3 := al3 (L := ⟨⟨fr, nodes, AZ, mn⟩, s.sz, ob s.AX, ob s.AY, false⟩) s.AX [] F rfl (by show s.AX.length < 1000000000; omega) (by simp; omega)
       simp only [a0W, a0q] at e3;dsimp only
       rw [e3, bsm, bsm];cases hm : s.AX.all id with
       | false =>
        have e4 := aAx (L := ⟨⟨fr, nodes, AZ, mn⟩, s.sz, ob s.AX, ob s.AY, false⟩) (ob s.AY) [] F rfl (by rw [iZ]; show s.AY.length < 1000000000; omega) (by rw [iZ]; simp; omega)
        simp only [a0W, a0q] at e4;rw [a0n, e4, bsm, a1U (fun q => by cases q.1)]
        exact ⟨_, rfl, rfl⟩
       | true =>
        have e4 := al4 (L := ⟨⟨fr, nodes, AZ, mn⟩, s.sz, ob s.AX, ob s.AY, false⟩) s.AY [] F rfl (by show s.AY.length < 1000000000; omega) (by simp; omega)
        simp only [a0W, a0q] at e4;rw [a0o, e4, bsm];cases hm2 : s.AY.all id with
        | false => rw [a1U (fun q => by cases q.2)]; exact ⟨_, rfl, rfl⟩
        | true => rw [a1V ⟨rfl, rfl⟩]; exact ⟨_, rfl, rfl⟩
theorem aGT {p : AM} (hp : SmP p) : tN F p = some (if (eQ p).isSome = true then 0 else 2) := by
 obtain ⟨L, h1, h2⟩ := kA hp
 rw [tN, show (⟨p.AD, p.AB, p.AC, p.AE⟩ : AM) = p from rfl, h1, bsm]
 cases hc : eQ p with
 | none => rw [hc] at h2; have h2 : L.bad = true := h2; rw [h2]; rfl
 | some s => rw [hc] at h2; have h2 : L = _ := h2; subst h2; rfl
open Go.SX Go.SW Go.Dt
def dO (b : Int) : Option Int -> List Int -> Bool
 | _, [] => true
 | p, n :: l => (decide (0 <= n /\ n < b) && (match p with | none => true | some q => decide (q < n))) && dO b (some n) l
def pick (l a : List Int) : List Int := a.map fun i => (idx l i).getD 0
def upto (n : Int) (k : Nat) : List Int := (List.range k).map fun (i : Nat) => n + (i : Int)
mutual
def opE (l : List Int) : AW -> Option AW
 | ⟨op, n, ks⟩ => (if op = 2 then idx l n else some n).bind fun m => (opL l ks).bind fun ks' => some ⟨op, m, ks'⟩
def opL (l : List Int) : List AW -> Option (List AW)
 | [] => some []
 | k :: ks => (opE l k).bind fun k' => (opL l ks).bind fun ks' => some (k' :: ks')
end
def jK (op : Int) : Bool := decide (op = 4 \/ op = 6 \/ op = 7 \/ op = 8)
def opI (y : Ao) (list tk : List Int) : Option Int :=
 if y.Op = 2 then idx list y.N else if y.Op = 6 \/ y.Op = 8 then idx tk y.N else some y.N
def opN (y : Ao) (list tk : List Int) : Option Ae := (opI y list tk).bind fun m => (opL list y.Aa).bind fun a => some ⟨y.Op, m, a, y.AU⟩
def gT (ch : List Ar) : List Int -> Option Int
 | [] => some 0
 | c :: js => (idx ch c).bind fun y => if 0 <= y.Ap /\ y.Ap <= 3 then (gT ch js).bind fun k => some (y.Ap + k) else none
structure FS where
 AO : List Bool
 AQ : List (List Int)
 AR : List (List Int)
 nd : List Ae
def FS.put (s : FS) (n : Int) (l t : List Int) (z : Ae) : FS := ⟨s.AO.set n.toNat true, s.AQ.set n.toNat l, s.AR.set n.toNat t, s.nd.set n.toNat z⟩
def bV (g : FS -> Int -> List Int -> Int -> Option FS) : FS -> List (Option (Int × List Int × Int)) -> Option FS
 | s, [] => some s
 | _, none :: _ => none
 | s, some t :: l => (g s t.1 t.2.1 t.2.2).bind fun s => bV g s l
def kC (d : AN) : Prop := d.AP.length <= 30 /\ d.AT.length <= 30 /\ d.AS.length <= 30
def bA (d : AN) : Nat := d.AP.length + d.AT.length
open Classical in
noncomputable def dX (x : Bool) (d : AN) (ins : List Int) (size : Int) (r : Al) : Option (Int × List Int × Int) :=
 if x = true -> r.Af.length <= 3 then (gT d.AP r.Af).bind fun k => some (r.Ab, ins ++ upto size k.toNat, size + k) else none
def fF (y : Ao) (list tk : List Int) : List Int := if y.Op = 6 \/ y.Op = 8 then tk else list
def iP (x : Bool) (y : Ao) (list : List Int) : Prop :=
 ((jK y.Op = true \/ y.AI = []) /\ dO list.length none y.AI = true) /\ (x = true -> y.Aa.length <= 3 /\ y.AU.length <= 2 /\ y.Aa.all (okE list.length) = true)
open Classical in
noncomputable def fG (x : Bool) (f : AF) (g : FS -> Int -> List Int -> Int -> Option FS) (s : FS) (y : Ao) (list tk : List Int) (size : Int) : Option FS :=
 if y.Op = 4 then
  (idx f.AC y.N).bind fun d =>
  if x = true -> kC d then
   (bV g s (d.AS.map (dX x d (tk ++ upto size (bA d)) (size + bA d)))).bind fun s =>
   (bV g s (d.AT.map fun p => some (p.Ab, tk ++ upto size (bA d), size + bA d))).bind fun s =>
   bV g s (y.AU.map fun c => some (c, list ++ upto size (bA d), size + bA d))
  else none
 else bV g s (y.AU.map fun c => some (c, fF y list tk, size))
open Classical in
noncomputable def aR (x : Bool) (f : AF) : Nat -> FS -> Int -> List Int -> Int -> Option FS
 | 0, _, _, _, _ => none
 | k + 1, s, n, list, size =>
  if 0 <= n /\ n < (f.AB.length : Int) /\ idx s.AO n = some false then
   (idx f.AB n).bind fun y =>
   if iP x y list then
    (opN y list (pick list y.AI)).bind fun z => fG x f (aR x f k) (s.put n list (pick list y.AI) z) y list (pick list y.AI) size
   else none
  else none
theorem aA8 {g h : FS -> Int -> List Int -> Int -> Option FS} (H : ∀ s n l z s', g s n l z = some s' -> h s n l z = some s') : ∀ (ts us : List (Option (Int × List Int × Int))) (s s' : FS),
  ts.length = us.length -> (∀ (i : Nat) (t : Int × List Int × Int), ts[i]? = some (some t) -> us[i]? = some (some t)) -> bV g s ts = some s' -> bV h s us = some s'
 | [], [], s, s', _, _, e => e
 | none :: ts, u :: us, s, s', _, _, e => by simp [bV] at e
 | some t :: ts, u :: us, s, s', hl, hi, e => by
  obtain ⟨s1, e1, e2⟩ := bind_some e;have hu : u = some t := by have := hi 0 t rfl; simpa using this
  subst hu;rw [bV, H _ _ _ _ _ e1, bsm];exact aA8 H ts us s1 s' (by simpa using hl) (fun i t h => by have := hi (i + 1) t (by simpa using h); simpa using this) e2
theorem aBx {g h : FS -> Int -> List Int -> Int -> Option FS} (H : ∀ s n l z s', g s n l z = some s' -> h s n l z = some s') {ts : List (Option (Int × List Int × Int))} {s s' : FS} (e : bV g s ts = some s') : bV h s ts = some s' :=
 aA8 H ts ts s s' rfl (fun _ _ h => h) e
theorem aGd {d : AN} {ins : List Int} {size : Int} {r : Al} {t : Int × List Int × Int} (h : dX true d ins size r = some t) : dX false d ins size r = some t := by
 unfold dX at h ⊢
 split at h
 ·rw [a1V (by intro h; cases h)]; exact h
 ·cases h
theorem rV {f : AF} : ∀ (k : Nat) (s : FS) (n : Int) (l : List Int) (z : Int) (s' : FS), aR true f k s n l z = some s' -> aR false f k s n l z = some s'
 | 0, _, _, _, _, _, h => by cases h
 | k + 1, s, n, l, z, s', h => by
  rw [aR] at h ⊢;split at h
  ·rename_i h1;rw [a1V h1];obtain ⟨y, ey, h⟩ := bind_some h;rw [ey, bsm];split at h
   ·rename_i h2;rw [a1V ⟨h2.1, fun h => by cases h⟩]
    obtain ⟨w, ew, h⟩ := bind_some h;rw [ew, bsm];unfold fG at h ⊢
    split at h
    ·rename_i h3;rw [a1V h3];obtain ⟨d, ed, h⟩ := bind_some h;rw [ed, bsm];split at h
     ·rw [a1V (by intro h; cases h)];obtain ⟨s1, e1, h⟩ := bind_some h;obtain ⟨s2, e2, h⟩ := bind_some h;rw [aA8 (rV k) _ (d.AS.map (dX false d (pick l y.AI ++ upto z (bA d)) (z + bA d))) _ _ (by simp) (fun i t ht => by
       simp only [a0K] at ht ⊢;cases hr : d.AS[i]? with
       | none => rw [hr] at ht; cases ht
       | some r => rw [hr] at ht; simp only [a1K, a1M] at ht ⊢; exact aGd ht) e1, bsm, aBx (rV k) e2, bsm]
      exact aBx (rV k) h
     ·cases h
    ·rename_i h3;rw [a1U h3];exact aBx (rV k) h
   ·cases h
  ·cases h
structure LimF (f : AF) : Prop where
 node : ∀ y ∈ f.AB, y.Aa.length <= 3 /\ y.AU.length <= 2 /\ ∀ l a, opL l y.Aa = some a -> y.Aa.all (okE l.length) = true
 AZ : ∀ d ∈ f.AC, kC d /\ ∀ r ∈ d.AS, r.Af.length <= 3
theorem wF {g h : FS -> Int -> List Int -> Int -> Option FS} (H : ∀ s n l z, g s n l z = h s n l z) : ∀ (ts : List (Option (Int × List Int × Int))) (s : FS), bV g s ts = bV h s ts
 | [], _ => rfl
 | none :: _, _ => rfl
 | some t :: ts, s => by
  rw [bV, bV, H];cases h s t.1 t.2.1 t.2.2 with
  | none => rfl
  | some s1 => exact wF H ts s1
theorem xC {f : AF} (L : LimF f) : ∀ (k : Nat) (s : FS) (n : Int) (l : List Int) (z : Int), aR true f k s n l z = aR false f k s n l z
 | 0, _, _, _, _ => rfl
 | k + 1, s, n, l, z => by
  rw [aR, aR];split
  ·cases ey : idx f.AB n with
   | none => rfl
   | some y =>
    rw [bsm, bsm];obtain ⟨L1, L2, L3⟩ := L.node y (fJ ey);cases ew : opN y l (pick l y.AI) with
    | none => simp
    | some w =>
     have hw := ew;unfold opN at hw;obtain ⟨m, em, hw⟩ := bind_some hw;obtain ⟨a, ea, hw⟩ := bind_some hw;have hk : iP true y l ↔ iP false y l := ⟨fun h => ⟨h.1, fun h => by cases h⟩, fun h => ⟨h.1, fun _ => ⟨L1, L2, L3 l a ea⟩⟩⟩
     by_cases hn : iP false y l
     ·rw [a1V (hk.2 hn), a1V hn, bsm, bsm];unfold fG;split
      ·cases ed : idx f.AC y.N with
       | none => rfl
       | some d =>
        obtain ⟨D1, D2⟩ := L.AZ d (fJ ed);rw [bsm, bsm, a1V (fun _ => D1), a1V (fun h => by cases h)]
        have hr : d.AS.map (dX true d (pick l y.AI ++ upto z (bA d)) (z + bA d)) = d.AS.map (dX false d (pick l y.AI ++ upto z (bA d)) (z + bA d)) :=
         a0Z fun r hr => by unfold dX; rw [a1V (fun _ => D2 r hr), a1V (fun h => by cases h)]
        rw [hr, wF (xC L k)];congr 1; funext s1
        rw [wF (xC L k)];congr 1; funext s2
        exact wF (xC L k) _ _
      ·exact wF (xC L k) _ _
     ·rw [a1U (fun h => hn (hk.1 h)), a1U hn]
  ·rfl
open Go.SX Go.SW Go.Dt
theorem zQ {l : List Int} {op n : Int} {ks : List AW} {e : AW} (h : opE l ⟨op, n, ks⟩ = some e) : ∃ m ks', e = ⟨op, m, ks'⟩ /\ (if op = 2 then idx l n else some n) = some m /\ opL l ks = some ks' := by
 rw [opE] at h
 obtain ⟨m, e1, h⟩ := bind_some h
 obtain ⟨ks', e2, h⟩ := bind_some h
 cases h
 exact ⟨m, ks', rfl, e1, e2⟩
theorem pS {l : List Int} {k : AW} {ks a : List AW} (h : opL l (k :: ks) = some a) : ∃ k' ks', a = k' :: ks' /\ opE l k = some k' /\ opL l ks = some ks' := by
 rw [opL] at h
 obtain ⟨k', e1, h⟩ := bind_some h
 obtain ⟨ks', e2, h⟩ := bind_some h
 cases h
 exact ⟨k', ks', rfl, e1, e2⟩
theorem yW {l : List Int} : ∀ {ks a : List AW}, opL l ks = some a -> a.length = ks.length
 | [], a, h => by rw [opL] at h; cases h; rfl
 | k :: ks, a, h => by
  obtain ⟨k', ks', rfl, _, h2⟩ := pS h;simp [yW h2]
mutual
theorem aA2 {l : List Int} : ∀ {e e' : AW}, opE l e = some e' -> nE e' = nE e /\ dE e' = dE e
 | ⟨op, n, ks⟩, e', h => by
  obtain ⟨m, ks', rfl, _, h2⟩ := zQ h;have := aDo h2;simp only [nE, dE]; omega
theorem aDo {l : List Int} : ∀ {ks a : List AW}, opL l ks = some a -> nL a = nL ks /\ dL a = dL ks
 | [], a, h => by rw [opL] at h; cases h; exact ⟨rfl, rfl⟩
 | k :: ks, a, h => by
  obtain ⟨k', ks', rfl, h1, h2⟩ := pS h;have := aA2 h1; have := aDo h2
  simp only [nL, dL]; omega
end
theorem lW {α : Type} {xs : List α} {i : Int} {y : α} (h : idx xs i = some y) : 0 <= i /\ i < (xs.length : Int) := by
 obtain ⟨j, rfl, hj, _⟩ := kU h
 have := (a0J.1 hj).1
 omega
mutual
theorem fE_two {l l2 : List Int} {s : Int} : ∀ {e e' e2 : AW}, opE l e = some e' -> fE s e' = true -> opE l2 e = some e2 -> fE l2.length e = true
 | ⟨op, n, ks⟩, e', e2, h, hf, g => by
  obtain ⟨m, ks', rfl, h1, h2⟩ := zQ h;obtain ⟨m2, ks2, rfl, g1, g2⟩ := zQ g;have hl := yW h2;simp only [fE, a0j] at hf ⊢;refine ⟨?_, fL_two h2 hf.2 g2⟩;have hf1 := hf.1;unfold loc at hf1 ⊢
  by_cases o2 : op = 2
  ·subst o2;rw [a1V rfl] at g1;have := lW g1;rw [a1U (by omega), a1V rfl] at hf1 ⊢;have := of_decide_eq_true hf1;exact a1S ⟨by omega, by omega, by omega⟩
  ·rw [a1U o2] at h1;cases h1;by_cases o1 : op = 1
   ·rw [a1V o1] at hf1 ⊢;rw [<- hl]; exact hf1
   ·rw [a1U o1, a1U o2] at hf1 ⊢;rw [<- hl]; exact hf1
theorem fL_two {l l2 : List Int} {s : Int} : ∀ {ks a a2 : List AW}, opL l ks = some a -> fL s a = true -> opL l2 ks = some a2 -> fL l2.length ks = true
 | [], a, a2, _, _, _ => by simp [fL]
 | k :: ks, a, a2, h, hf, g => by
  obtain ⟨k', ks', rfl, h1, h2⟩ := pS h;obtain ⟨k2, ks2, rfl, g1, g2⟩ := pS g;simp only [fL, a0j] at hf ⊢;exact ⟨fE_two h1 hf.1 g1, fL_two h2 hf.2 g2⟩
end
theorem okE_two {l l2 : List Int} {s : Int} {e e' e2 : AW} (h : opE l e = some e') (hf : okE s e' = true) (g : opE l2 e = some e2) : okE l2.length e = true := by
 have := aA2 h
 simp only [okE, a0j, a1T] at hf ⊢
 exact ⟨⟨fE_two h hf.1.1 g, by omega⟩, by omega⟩
theorem aBX {l l2 : List Int} {s : Int} : ∀ {ks a a2 : List AW}, opL l ks = some a -> a.all (okE s) = true -> opL l2 ks = some a2 -> ks.all (okE l2.length) = true
 | [], _, _, _, _, _ => rfl
 | k :: ks, a, a2, h, hf, g => by
  obtain ⟨k', ks', rfl, h1, h2⟩ := pS h;obtain ⟨k2, ks2, rfl, g1, g2⟩ := pS g;simp only [List.all_cons, a0j] at hf ⊢;exact ⟨okE_two h1 hf.1 g1, aBX h2 hf.2 g2⟩
def rH : Ae := ⟨0, 0, [], []⟩
def InvF (f : AF) (s : FS) : Prop := ∀ (i : Nat) (w : Ae), s.nd[i]? = some w -> w = rH \/ ∃ y l t, f.AB[i]? = some y /\ opN y l t = some w
theorem oN {R : FS -> Prop} {g : FS -> Int -> List Int -> Int -> Option FS} (H : ∀ s n l z s', g s n l z = some s' -> R s -> R s') : ∀ (ts : List (Option (Int × List Int × Int))) (s s' : FS), bV g s ts = some s' -> R s -> R s'
 | [], s, s', e, h => by cases e; exact h
 | none :: ts, s, s', e, h => by cases e
 | some t :: ts, s, s', e, h => by
  obtain ⟨s1, e1, e2⟩ := bind_some e;exact oN H ts s1 s' e2 (H _ _ _ _ _ e1 h)
theorem qG {x : Bool} {f : AF} {R : FS -> Prop} (hp : ∀ s n y l t z, idx f.AB n = some y -> opN y l t = some z -> R s -> R (s.put n l t z)) : ∀ (k : Nat) (s : FS) (n : Int) (l : List Int) (z : Int) (s' : FS), aR x f k s n l z = some s' -> R s -> R s'
 | 0, _, _, _, _, _, h, _ => by cases h
 | k + 1, s, n, l, z, s', h, h0 => by
  rw [aR] at h;split at h
  ·obtain ⟨y, ey, h⟩ := bind_some h;split at h
   ·obtain ⟨w, ew, h⟩ := bind_some h;have h1 := hp s n y l _ w ey ew h0;unfold fG at h;split at h
    ·obtain ⟨d, ed, h⟩ := bind_some h;split at h
     ·obtain ⟨s1, e1, h⟩ := bind_some h;obtain ⟨s2, e2, h⟩ := bind_some h;exact oN (qG hp k) _ _ _ h (oN (qG hp k) _ _ _ e2 (oN (qG hp k) _ _ _ e1 h1))
     ·cases h
    ·exact oN (qG hp k) _ _ _ h h1
   ·cases h
  ·cases h
theorem inv_put {f : AF} {s : FS} {n : Int} {y : Ao} {l t : List Int} {z : Ae} (ey : idx f.AB n = some y) (ez : opN y l t = some z) (h : InvF f s) : InvF f (s.put n l t z) := by
 intro i w hw
 simp only [FS.put] at hw
 obtain ⟨j, rfl, hj, _⟩ := kU ey
 rw [a0r] at hw
 by_cases hn : j = i
 ·subst hn;rw [List.getElem?_set_self'] at hw;cases hs : s.nd[j]? with
  | none => rw [hs] at hw; cases hw
  | some w0 =>
   rw [hs] at hw;have hw : z = w := by simpa using hw
   subst hw;exact .inr ⟨y, l, t, hj, ez⟩
 ·rw [a0N hn] at hw;exact h i w hw
def GN (p : AM) (s : VS) : Prop := ∀ i : Nat, s.AX[i]? = some true -> ∃ y s0 z0, p.AB[i]? = some y /\ okN p s0 y z0
theorem wV {p : AM} {g : VS -> Int -> Int -> Option VS} (h : ∀ s n z s', g s n z = some s' -> GN p s -> GN p s') : ∀ (l : List (Int × Int)) (s s' : VS), dB g s l = some s' -> GN p s -> GN p s'
 | [], s, s', e, h0 => by cases e; exact h0
 | x :: l, s, s', e, h0 => by
  obtain ⟨s1, e1, e2⟩ := bind_some e;exact wV h l s1 s' e2 (h _ _ _ _ e1 h0)
theorem vis_gn {p : AM} (f : Nat) : ∀ (s : VS) (n z : Int) (s' : VS), vis p f s n z = some s' -> GN p s -> GN p s' := by
 induction f with
 | zero => intro s n z s' h; simp [vis] at h
 | succ f ih =>
  intro s n z s' h h0;simp only [vis] at h;split at h
  ·obtain ⟨x, ex, h⟩ := bind_some h;split at h
   ·rename_i hok;have hput : ∀ sz AY, GN p ⟨sz, s.AX.set n.toNat true, AY⟩ := fun sz AY i hi => by
     by_cases hn : n.toNat = i
     ·obtain ⟨j, rfl, hj2, _⟩ := kU ex;rw [<- hn]; simp only [a0r];exact ⟨x, s, z, hj2, hok⟩
     ·simp only [a0N hn] at hi;exact h0 i hi
    split at h
    ·obtain ⟨d, hd, h⟩ := bind_some h;split at h
     ·obtain ⟨s1, e1, h⟩ := bind_some h;obtain ⟨s2, e2, e3⟩ := bind_some h;exact wV ih _ _ _ e3 (wV ih _ _ _ e2 (wV ih _ _ _ e1 (hput _ _)))
     ·cases h
    ·exact wV ih _ _ _ h (hput _ _)
   ·cases h
  ·cases h
theorem aGJ {p : AM} {s : VS} (h : eQ p = some s) : ∀ (i : Nat) (y : Ae), p.AB[i]? = some y -> ∃ s0 z0, okN p s0 y z0 := by
 unfold eQ at h
 split at h
 ·obtain ⟨s1, h1, h2⟩ := bind_some h;split at h2
  ·rename_i hc;cases h2;have hg := vis_gn _ _ _ _ _ h1 (fun i hi => by simp [start, a0L] at hi)
   have hw := ((kV p p.AB.length).out _ _ _ _ rP (by rw [rX]; exact a1y _) h1).1
   intro i y hi;have hlt := (a0J.1 hi).1;have hlt2 : i < s.AX.length := by rw [hw.AX]; exact hlt
   have ht : s.AX[i] = true := a0s.1 hc.1 _ (a0S hlt2);obtain ⟨y', s0, z0, h3, h4⟩ := hg i (by rw [a0H hlt2, ht])
   rw [hi] at h3; cases h3; exact ⟨s0, z0, h4⟩
  ·cases h2
 ·cases h
def pV (f : AF) (s : FS) : AM := ⟨f.AD, s.nd, f.AC, f.AE⟩
theorem okN_args {p : AM} {s : VS} {y : Ae} {z : Int} (h : okN p s y z) : y.Aa.length <= 3 /\ y.AU.length <= 2 /\ y.Aa.all (okE z) = true /\ y.Op ≠ 0 := by
 obtain ⟨⟨k, c, h1, h2, h3⟩, h4⟩ := h
 have h5 : y.Aa.length <= 3 := by
  unfold okM at h3;split at h3
  ·omega
  ·omega
  ·omega
  ·omega
  ·omega
 refine ⟨h5, ?_, h4, fun h0 => ?_⟩
 ·unfold shp at h1;split at h1
  ·cases h1; omega
  ·split at h1
   ·cases h1; omega
   ·split at h1
    ·cases h1; omega
    ·split at h1
     ·cases h1; omega
     ·split at h1
      ·cases h1; omega
      ·split at h1
       ·cases h1; omega
       ·cases h1
 ·rw [h0] at h1;simp [shp] at h1
theorem limits {f : AF} {s : FS} {vs : VS} (hi : InvF f s) (hl : s.nd.length = f.AB.length) (h : eQ (pV f s) = some vs) : LimF f := by
 refine ⟨fun y hy => ?_, fun d hd => ?_⟩
 ·obtain ⟨i, hy⟩ := a1f.1 hy;have hlt : i < s.nd.length := by rw [hl]; exact (a0J.1 hy).1
  have hw : s.nd[i]? = some s.nd[i] := a0H hlt;obtain ⟨s0, z0, h1⟩ := aGJ h i _ hw;obtain ⟨h2, h3, h4, h5⟩ := okN_args h1;rcases hi i _ hw with h6 | ⟨y', l, t, h6, h7⟩
  ·rw [h6] at h5; exact absurd rfl h5
  ·rw [hy] at h6; cases h6
   unfold opN at h7;obtain ⟨m, _, h7⟩ := bind_some h7;obtain ⟨a, ha, h7⟩ := bind_some h7;have h8 := (a1L h7).symm;rw [h8] at h2 h3 h4;dsimp only at h2 h3 h4
   have := yW ha;exact ⟨by omega, h3, fun l2 a2 ha2 => aBX ha h4 ha2⟩
 ·obtain ⟨h1, h2, h3, h4, h5⟩ := nO (yZ h d hd);exact ⟨⟨h1, h2, h3⟩, fun r hr => (h5 r hr).1⟩
def gO (f : AF) : FS := ⟨List.replicate f.AB.length false, List.replicate f.AB.length [], List.replicate f.AB.length [], List.replicate f.AB.length rH⟩
noncomputable def gX (x : Bool) (f : AF) : Option FS :=
 if (f.AB.length <= 60 /\ f.AD.length <= 12 /\ f.AC.length <= 12) /\ dO f.AD.length none f.AI = true then aR x f f.AB.length (gO f) f.AE f.AI f.AD.length else none
noncomputable def gM (x : Bool) (f : AF) : Option FS := (gX x f).bind fun s => if (eQ (pV f s)).isSome = true then some s else none
theorem aA7 {x : Bool} {f : AF} {s : FS} (h : gX x f = some s) : InvF f s /\ s.nd.length = f.AB.length := by
 unfold gX at h
 split at h
 ·refine qG (R := fun s => InvF f s /\ s.nd.length = f.AB.length) (fun s n y l t z e1 e2 h => ⟨inv_put e1 e2 h.1, by simp only [FS.put, a0X]; exact h.2⟩) _ _ _ _ _ _ h ⟨fun i w hw => .inl ?_, by simp [gO]⟩
  simp only [gO, a0L] at hw;split at hw
  ·exact (a1L hw).symm
  ·cases hw
 ·cases h
theorem aGI (f : AF) : gM true f = gM false f := by
 unfold gM
 cases h1 : gX false f with
 | none =>
  cases h2 : gX true f with
  | none => rfl
  | some s =>
   unfold gX at h1 h2;split at h2
   ·rename_i hc;rw [a1V hc, rV _ _ _ _ _ _ h2] at h1;cases h1
   ·cases h2
 | some s =>
  rw [bsm];by_cases hk : (eQ (pV f s)).isSome = true
  ·obtain ⟨vs, hvs⟩ := Option.isSome_iff_exists.1 hk;obtain ⟨i1, i2⟩ := aA7 h1;have L := limits i1 i2 hvs;have h2 : gX true f = some s := by
    unfold gX at h1 ⊢
    rw [xC L]; exact h1
   rw [h2, bsm]
  ·rw [a1U hk];cases h2 : gX true f with
   | none => rfl
   | some s2 =>
    have h3 : gX false f = some s2 := by
     unfold gX at h2 ⊢
     split at h2
     ·rename_i hc;rw [a1V hc]; exact rV _ _ _ _ _ _ h2
     ·cases h2
    rw [h1] at h3; cases h3
    rw [bsm, a1U hk]
open Go.SX Go.SW Go.Dt
theorem eJ {β : Type} {l : List β} (h : l.length <= 1000000000) : dR l = some l := a1V h
theorem qV {α : Type} {z : α} {n : Nat} (h : n <= 1000000000) : mk z (n : Int) = some (List.replicate n z) := by unfold mk; rw [a1V (by omega), a0r]
structure SmF (f : AF) : Prop where
 nodes : f.AB.length <= 2000000
 AZ : f.AC.length <= 2000000
 free : f.AD.length <= 2000000
 names : ∀ x ∈ f.AD, x.size <= 2000000
 args : ∀ x ∈ f.AB, x.Aa.length <= 2000000 /\ x.AU.length <= 2000000 /\ ∀ e ∈ x.Aa, nE e <= 2000000
 takes : ∀ x ∈ f.AB, x.AI.length <= 2000000
 AY : ∀ d ∈ f.AC, smD d
 take : f.AI.length <= 2000000
theorem fC {α : Type} {xs : List α} {i : Int} (h0 : 0 <= i) (h1 : i < (xs.length : Int)) : ∃ y, idx xs i = some y := by
 obtain ⟨j, rfl⟩ := Int.eq_ofNat_of_zero_le h0
 exact ⟨xs[j], qX (a0H (by omega))⟩
theorem aCC (b : Int) : ∀ (l : List Int) (q : Int), q < b -> dO b (some q) l = true -> (l.length : Int) <= b - 1 - q
 | [], q, h, _ => by simp; omega
 | n :: l, q, h, e => by
  simp only [dO, a0j, a1T] at e;have := aCC b l n e.1.1.2 e.2;simp only [a0U]; omega
theorem tU {b : Int} (hb : 0 <= b) : ∀ {l : List Int}, dO b none l = true -> (l.length : Int) <= b
 | [], _ => by simpa using hb
 | n :: l, e => by
  simp only [dO, a0j, a1T] at e;have := aCC b l n e.1.1.2 e.2;simp only [a0U]; omega
theorem aBF {b : Int} : ∀ {l : List Int} {p : Option Int}, dO b p l = true -> ∀ i ∈ l, 0 <= i /\ i < b
 | [], _, _, i, h => by cases h
 | n :: l, p, e, i, h => by
  simp only [dO, a0j, a1T] at e;cases h with
  | head => exact e.1.1
  | tail _ h => exact aBF e.2 i h
theorem aHW (AG : List Int) : AG = [] \/ ∃ p q, AG = p ++ [q] := by
 rcases List.eq_nil_or_concat AG with h | ⟨p, q, h⟩
 ·exact .inl h
 ·exact .inr ⟨p, q, by simpa using h⟩
theorem aFW {b : Int} (AH : List Int) : ∀ (AG : List Int) (k : Nat), AH.length < k -> AG.length + AH.length <= 3000000 ->
  jY (AG ++ AH) b k AG.length = some (if dO b AG.getLast? AH = true then .inl () else .inr false) := by
 induction AH with
 | nil =>
  intro AG k hk _;obtain _ | k := k
  ·omega
  rw [jY, a1U (by simp)]; simp [dO]
 | cons e AH ih =>
  intro AG k hk hB;obtain _ | k := k
  ·omega
  simp only [a0U] at hk hB;rw [jY, a1V (cD _ _ _), cI, bsm];have hn := ih (AG ++ [e]) k (by omega) (by simp; omega)
  rw [List.getLast?_append, List.getLast?_singleton, Option.some_or] at hn;by_cases c1 : e < 0
  ·rw [a1V c1, a1U (by simp only [dO, a0j, a1T]; omega)]; rfl
  rw [a1U c1];by_cases c2 : b <= e
  ·rw [a1V c2, a1U (by simp only [dO, a0j, a1T]; omega)]; rfl
  rw [a1U c2];rcases aHW AG with rfl | ⟨p, q, rfl⟩
  ·rw [a1U (by simp), bsm];dsimp only
   rw [aU (by simp), bsm, cG, bW, hn];have : dO b (([] : List Int).getLast?) (e :: AH) = dO b (some e) AH := by
    simp only [List.getLast?_nil, dO, Bool.and_true];rw [a1S (by omega), a0p]
   rw [this]
  ·rw [a1V (by simp), aU (by simp at hB ⊢; omega), bsm];have hi : idx (p ++ [q] ++ e :: AH) (((p ++ [q]).length : Int) - 1) = some q := by
    rw [show (((p ++ [q]).length : Int) - 1) = (p.length : Int) from by simp, a0t];exact cI _ _ _
   rw [hi, bsm];by_cases c3 : e <= q
   ·rw [a1V c3, a1U (by simp [dO]; omega)]; rfl
   ·rw [a1U c3, bsm];dsimp only
    rw [aU (by omega), bsm, cG, bW, hn];have : dO b ((p ++ [q]).getLast?) (e :: AH) = dO b (some e) AH := by
     simp only [List.getLast?_append, List.getLast?_singleton, Option.some_or, dO];rw [a1S (by omega), a1S (by omega), a0p, a0p]
    rw [this]
theorem aBM {AA : Nat} {l : List Int} {b : Int} (hf : l.length < AA) (hB : l.length <= 3000000) : oY AA l b = some (dO b none l) := by
 have h := aFW (b := b) l [] AA hf (by simp; omega)
 simp only [a1k, a0W, a0q] at h
 rw [oY, h, bsm]
 by_cases hr : dO b none l = true
 ·rw [a1V (show dO b ([] : List Int).getLast? l = true from hr)];show some true = _
  rw [hr]
 ·rw [a1U (show ¬ dO b ([] : List Int).getLast? l = true from hr)];show some false = _
  rw [a0k.2 hr]
theorem aDh {AA : Nat} {l : List Int} {b : Int} (hf : l.length < AA) (hB : l.length <= 3000000) : rM AA l b = some (dO b none l) := by
 have hl : ∀ (k : Nat) (i : Int), oM l b k i = jY l b k i := fun k => by
  induction k with
  | zero => intro i; rfl
  | succ k ih =>
   intro i;rw [oM, jY];split
   ·cases h1 : idx l i with
    | none => rfl
    | some y =>
     simp only [bsm];congr 1
     funext o
     cases o with
     | inr r => rfl
     | inl u => dsimp only; congr 1; funext z; exact ih z
   ·rfl
 rw [<- aBM hf hB, rM, oY, hl]
 rfl
theorem aHH {l : List Int} (AH : List Int) : ∀ (AG acc : List Int) (k : Nat), AH.length < k -> AG.length + AH.length <= 3000000 -> acc.length + AH.length <= 1000000000 -> (∀ i ∈ AH, 0 <= i /\ i < (l.length : Int)) ->
  kI l (AG ++ AH) k acc AG.length = some (acc ++ pick l AH) := by
 induction AH with
 | nil =>
  intro AG acc k hk _ _ _;obtain _ | k := k
  ·omega
  rw [kI, a1U (by simp)]; simp [pick]
 | cons e AH ih =>
  intro AG acc k hk hB hA hi;obtain _ | k := k
  ·omega
  simp only [a0U] at hk hB hA;obtain ⟨y, hy⟩ := fC (hi e (.head _)).1 (hi e (.head _)).2;rw [kI, a1V (cD _ _ _), cI, bsm, hy, bsm, eJ (by simp; omega), bsm, aU (by omega), bsm, cG, bW, ih (AG ++ [e]) _ k (by omega) (by simp; omega) (by simp; omega) (fun i h => hi i (.tail _ h))];simp [pick, hy]
theorem pick_p {AA : Nat} {l a : List Int} (hf : a.length < AA) (hB : a.length <= 3000000) (hi : ∀ i ∈ a, 0 <= i /\ i < (l.length : Int)) : rK AA l a = some (pick l a) := by
 have h := aHH (l := l) a [] [] AA hf (by simp; omega) (by simp; omega) hi
 simp only [a1k, a0W, a0q] at h
 rw [rK, h, bsm]
theorem pick_r {AA : Nat} {l a : List Int} (hf : a.length < AA) (hB : a.length <= 3000000) (hi : ∀ i ∈ a, 0 <= i /\ i < (l.length : Int)) : sC AA l a = some (pick l a) := by
 have hl : ∀ (k : Nat) (x : List Int) (i : Int), oK l a k x i = kI l a k x i := fun k => by
  induction k with
  | zero => intro x i; rfl
  | succ k ih =>
   intro x i;rw [oK, kI];simp only [ih]
 rw [<- pick_p hf hB hi, sC, rK, hl]
theorem aBR {l a : List Int} : (pick l a).length = a.length := by simp [pick]
theorem aDt (n : Int) (i : Nat) : upto n (i + 1) = upto n i ++ [n + (i : Int)] := by simp [upto, List.range_succ]
theorem gC {n : Int} {k : Nat} : (upto n k).length = k := by simp [upto]
theorem aEt {n : Int} {m : Nat} (hn : 0 <= n /\ n <= 1000000000) (hm : m <= 500000000) : ∀ (j i k : Nat), i + j = m -> j < k -> mK n m k (upto n i) i = some (upto n m)
 | 0, i, k + 1, h, _ => by
  rw [mK, a1U (by omega), show i = m from by omega]
 | j + 1, i, k + 1, h, hk => by
  rw [mK, a1V (by omega), aU (by omega), bsm, eJ (by simp [gC]; omega), bsm, aU (by omega), bsm, <- aDt, show (i : Int) + 1 = ((i + 1 : Nat) : Int) from by omega];exact aEt hn hm j (i + 1) k (by omega) (by omega)
theorem from_p {AA : Nat} {n m : Int} (hn : 0 <= n /\ n <= 1000000000) (h0 : 0 <= m) (hm : m <= 500000000) (hf : m < AA) : sQ AA n m = some (upto n m.toNat) := by
 obtain ⟨m, rfl⟩ := Int.eq_ofNat_of_zero_le h0
 have h := aEt (m := m) hn (by omega) m 0 AA (by omega) (by omega)
 rw [a0r]
 rw [sQ, show mK n m AA [] 0 = _ from h, bsm]
theorem aCv {n : Int} {m : Nat} {l : List Int} (hn : 0 <= n /\ n <= 1000000000) (hm : l.length + m <= 900000000) : ∀ (j i k : Nat), i + j = m -> j < k -> mC n m k (l ++ upto n i) i = some (l ++ upto n m)
 | 0, i, k + 1, h, _ => by
  rw [mC, a1U (by omega), show i = m from by omega]
 | j + 1, i, k + 1, h, hk => by
  rw [mC, a1V (by omega), aU (by omega), bsm, eJ (by simp [gC]; omega), bsm, aU (by omega), bsm, a0t, <- aDt, show (i : Int) + 1 = ((i + 1 : Nat) : Int) from by omega];exact aCv hn hm j (i + 1) k (by omega) (by omega)
theorem aAJ {AA : Nat} {n m : Int} {l : List Int} (hn : 0 <= n /\ n <= 1000000000) (h0 : 0 <= m) (hm : (l.length : Int) + m <= 900000000) (hf : m < AA) : oS AA l n m = some (l ++ upto n m.toNat) := by
 obtain ⟨m, rfl⟩ := Int.eq_ofNat_of_zero_le h0
 have h := aCv (m := m) (l := l) hn (by omega) m 0 AA (by omega) (by omega)
 rw [a0r]
 have e : l ++ upto n 0 = l := by simp [upto]
 rw [e] at h
 rw [oS, a1k, eJ (by omega), bsm, show mC n m AA l 0 = _ from h, bsm]
theorem aBJ {a b : List Int} (h : a.length + b.length <= 1000000000) : rJ a b = some (a ++ b) := by
 rw [rJ, iH, a1k, eJ (by omega), bsm, bsm, eJ (by simp; omega), bsm]
theorem aEm (op : Int) : tK op = some (jK op) := by
 rw [tK]
 by_cases a : op = 4
 ·rw [a1V a, bsm, jK, a1S (by omega)]
 by_cases b : op = 6
 ·rw [a1U a, a1V b, bsm, jK, a1S (by omega)]
 by_cases c : op = 7
 ·rw [a1U a, a1U b, a1V c, bsm, jK, a1S (by omega)]
 ·rw [a1U a, a1U b, a1U c, bsm, jK];congr 1; rw [decide_eq_decide]; omega
theorem aFI {rec : AW -> List Int -> Option (AW × Bool)} {op n : Int} {l : List Int} {x : Int} (AH : List AW) : ∀ (AG acc : List AW) (k : Nat), AH.length < k -> AG.length + AH.length <= 3000000 -> acc.length + AH.length <= 1000000000 ->
  (∀ e ∈ AH, ∃ e' b, rec e l = some (e', b) /\ opE l e = if b = true then some e' else none) ->
   ∃ r, lY rec ⟨op, n, AG ++ AH⟩ l x k AG.length acc = some r /\ match opL l AH with | some ks => r = .inl (acc ++ ks) | none => ∃ e', r = .inr (e', false) := by
 induction AH with
 | nil =>
  intro AG acc k hk _ _ _;obtain _ | k := k
  ·omega
  exact ⟨_, by rw [lY, a1U (by simp)], by simp [opL]⟩
 | cons e AH ih =>
  intro AG acc k hk hB hA hr;obtain _ | k := k
  ·omega
  simp only [a0U] at hk hB hA;obtain ⟨e', b, h1, h2⟩ := hr e (.head _);rw [lY, a1V (cD _ _ _), cI, bsm, pZ, h1, bsm];cases b with
  | true =>
   rw [a1V rfl] at h2;simp only [a1Q, pZ];rw [eJ (by simp; omega), bsm, aU (by omega), bsm, cG, bW];obtain ⟨r, g1, g2⟩ := ih (AG ++ [e]) (acc ++ [e']) k (by omega) (by simp; omega) (by simp; omega) (fun x hx => hr x (.tail _ hx))
   refine ⟨r, g1, ?_⟩;rw [opL, h2, bsm];cases ho : opL l AH with
   | none => rw [ho] at g2; exact g2
   | some ks => rw [ho] at g2; rw [bsm]; dsimp only at g2 ⊢; rw [g2]; simp
  | false =>
   rw [a1U (by simp)] at h2;simp only [a1P];refine ⟨_, rfl, ?_⟩;rw [opL, h2];exact ⟨_, rfl⟩
theorem exp_p (AA : Nat) : ∀ (e : AW) (l : List Int), nE e < AA -> nE e <= 2000000 -> ∃ e' b, kX AA e l = some (e', b) /\ opE l e = if b = true then some e' else none := by
 induction AA with
 | zero => intro e l h; omega
 | succ AA ih =>
  intro ⟨op, n, ks⟩ l hf hB
  simp only [nE] at hf hB;have hlen := sZ ks;have hloop := fun x => aFI (rec := kX AA) (op := op) (n := n) (l := l) (x := x) ks [] [] AA (by omega) (by simp; omega) (by simp; omega) (fun e he => ih e l (by have := kG he; omega) (by have := kG he; omega))
  simp only [a1k, a0W, a0q] at hloop;have fin : ∀ x, (if op = 2 then idx l n else some n) = some x -> ∃ e' b, ((lY (kX AA) ⟨op, n, ks⟩ l x AA 0 []).bind fun o => match o with
    | Sum.inr r => some r
    | Sum.inl x2 => some ((⟨op, x, x2⟩ : AW), true)) = some (e', b) /\ opE l ⟨op, n, ks⟩ = if b = true then some e' else none := fun x hx => by
   obtain ⟨r, g1, g2⟩ := hloop x;rw [g1, bsm, opE, hx, bsm];cases ho : opL l ks with
   | none => rw [ho] at g2; obtain ⟨e', rfl⟩ := g2; exact ⟨e', false, rfl, rfl⟩
   | some a => rw [ho] at g2; dsimp only at g2; subst g2; exact ⟨_, true, rfl, rfl⟩
  rw [kX];dsimp only
  by_cases o2 : op = 2
  ·rw [a1V o2];by_cases c1 : n < 0
   ·rw [a1V c1];refine ⟨_, false, rfl, ?_⟩;rw [opE, a1V o2, show idx l n = none from by unfold idx; rw [a1U (by omega)]]; rfl
   ·rw [a1U c1];by_cases c2 : (l.length : Int) <= n
    ·rw [a1V c2];refine ⟨_, false, rfl, ?_⟩;have : idx l n = none := by
      cases hi : idx l n with
      | none => rfl
      | some y => have := lW hi; omega
     rw [opE, a1V o2, this]; rfl
    ·rw [a1U c2];obtain ⟨y, hy⟩ := fC (xs := l) (i := n) (by omega) (by omega)
     rw [hy, bsm, bsm];exact fin y (by rw [a1V o2, hy])
  ·rw [a1U o2, bsm];exact fin n (by rw [a1U o2])
theorem aFp {rec : AW -> List Int -> Option AW} {op n : Int} {l : List Int} (AH : List AW) : ∀ (AG acc ks : List AW) (k : Nat), AH.length < k -> AG.length + AH.length <= 3000000 -> acc.length + AH.length <= 1000000000 ->
  (∀ e ∈ AH, ∀ e', opE l e = some e' -> rec e l = some e') -> opL l AH = some ks -> mX rec ⟨op, n, AG ++ AH⟩ l k acc AG.length = some (acc ++ ks) := by
 induction AH with
 | nil =>
  intro AG acc ks k hk _ _ _ h;obtain _ | k := k
  ·omega
  rw [opL] at h; cases h
  rw [mX, a1U (by simp)]; simp
 | cons e AH ih =>
  intro AG acc ks k hk hB hA hr h;obtain _ | k := k
  ·omega
  simp only [a0U] at hk hB hA;obtain ⟨e', ks', rfl, h1, h2⟩ := pS h;rw [mX, a1V (cD _ _ _), cI, bsm, hr e (.head _) e' h1, bsm, eJ (by simp; omega), bsm, aU (by omega), bsm, cG, bW, ih (AG ++ [e]) (acc ++ [e']) ks' k (by omega) (by simp; omega) (by simp; omega) (fun x hx => hr x (.tail _ hx)) h2];simp
theorem exp_r (AA : Nat) : ∀ (e e' : AW) (l : List Int), nE e < AA -> nE e <= 2000000 -> opE l e = some e' -> lE AA e l = some e' := by
 induction AA with
 | zero => intro e e' l h; omega
 | succ AA ih =>
  intro ⟨op, n, ks⟩ e' l hf hB h
  simp only [nE] at hf hB;have hlen := sZ ks;obtain ⟨m, ks', rfl, h1, h2⟩ := zQ h;have hloop := aFp (rec := lE AA) (op := op) (n := n) (l := l) ks [] [] ks' AA (by omega) (by simp; omega) (by simp; omega) (fun e he e' h => ih e e' l (by have := kG he; omega) (by have := kG he; omega) h) h2
  simp only [a1k, a0W, a0q] at hloop;rw [lE];dsimp only
  by_cases o2 : op = 2
  ·rw [a1V o2] at h1 ⊢;rw [h1, bsm, bsm, hloop, bsm]
  ·rw [a1U o2] at h1 ⊢;cases h1;rw [bsm, hloop, bsm]
theorem open_ok : (∀ (e : AW) (l : List Int), fE l.length e = true -> ∃ e', opE l e = some e') /\ ∀ (ks : List AW) (l : List Int), fL l.length ks = true -> ∃ a, opL l ks = some a := ⟨go, goL⟩
where
 go : ∀ (e : AW) (l : List Int), fE l.length e = true -> ∃ e', opE l e = some e'
  | ⟨op, n, ks⟩, l, h => by
   simp only [fE, a0j] at h;obtain ⟨a, ha⟩ := goL ks l h.2;have h1 := h.1;rw [opE];by_cases o2 : op = 2
   ·unfold loc at h1;rw [a1U (by omega), a1V o2] at h1;have h1 := of_decide_eq_true h1;obtain ⟨y, hy⟩ := fC (xs := l) h1.1 h1.2.1;exact ⟨_, by rw [a1V o2, hy, bsm, ha, bsm]⟩
   ·exact ⟨_, by rw [a1U o2, bsm, ha, bsm]⟩
 goL : ∀ (ks : List AW) (l : List Int), fL l.length ks = true -> ∃ a, opL l ks = some a
  | [], l, _ => ⟨[], by rw [opL]⟩
  | k :: ks, l, h => by
   simp only [fL, a0j] at h;obtain ⟨e', h1⟩ := go k l h.1;obtain ⟨a, h2⟩ := goL ks l h.2;exact ⟨_, by rw [opL, h1, bsm, h2, bsm]⟩
theorem zR {ch : List Ar} : ∀ {js : List Int} {k : Int}, gT ch js = some k -> 0 <= k /\ k <= 3 * js.length
 | [], k, h => by cases h; simp
 | c :: js, k, h => by
  rw [gT] at h;obtain ⟨y, _, h⟩ := bind_some h;split at h
  ·rename_i hy;obtain ⟨k', h1, h⟩ := bind_some h;cases h;have := zR h1;simp only [a0U]; omega
  ·cases h
theorem aHe {d : AN} {a nd : Int} (AH : List Int) : ∀ (AG : List Int) (k : Nat) (w : Int), AH.length < k -> AG.length + AH.length <= 3000000 -> 0 <= w -> w + 3 * AH.length <= 1000000000 ->
  kO d ⟨a, AG ++ AH, nd⟩ k w AG.length = some (match gT d.AP AH with | some m => .inl (w + m) | none => .inr (-1)) := by
 induction AH with
 | nil =>
  intro AG k w hk _ _ _;obtain _ | k := k
  ·omega
  rw [kO, a1U (by simp)]; simp [gT]
 | cons e AH ih =>
  intro AG k w hk hB h0 hw;obtain _ | k := k
  ·omega
  simp only [a0U] at hk hB hw;rw [kO, a1V (cD _ _ _)];dsimp only
  rw [cI, bsm, gT];by_cases c1 : e < 0
  ·rw [a1V c1, show idx d.AP e = none from by unfold idx; rw [a1U (by omega)]]; rfl
  rw [a1U c1];by_cases c2 : (d.AP.length : Int) <= e
  ·have : idx d.AP e = none := by
    cases hi : idx d.AP e with
    | none => rfl
    | some y => have := lW hi; omega
   rw [a1V c2, this]; rfl
  rw [a1U c2];obtain ⟨y, hy⟩ := fC (xs := d.AP) (i := e) (by omega) (by omega)
  simp only [hy, bsm];by_cases c3 : y.Ap < 0
  ·rw [a1V c3, a1U (by omega)]
  rw [a1U c3];by_cases c4 : 3 < y.Ap
  ·rw [a1V c4, a1U (by omega)]
  rw [a1U c4, a1V (by omega), aU (by omega), bsm, aU (by omega), bsm, cG, bW, ih (AG ++ [e]) k _ (by omega) (by simp; omega) (by omega) (by omega)];cases gT d.AP AH with
  | none => rfl
  | some m => rw [bsm]; dsimp only; rw [Int.add_assoc]
theorem more_p {AA : Nat} {d : AN} {r : Al} (hf : r.Af.length < AA) (hB : r.Af.length <= 2000000) : qD AA d r = some (match gT d.AP r.Af with | some m => m | none => -1) := by
 have h := aHe (d := d) (a := r.At) (nd := r.Ab) r.Af [] AA 0 hf (by simp; omega) (by omega) (by omega)
 simp only [a1k, a0W, a0q] at h
 rw [qD, h, bsm]
 cases gT d.AP r.Af with
 | none => rfl
 | some m => dsimp only; rw [Int.zero_add]
theorem bring_r {AA : Nat} {d : AN} {r : Al} (hf : r.Af.length < AA) (hB : r.Af.length <= 2000000) : sY AA d r = some (if r.Af.length <= 3 then match gT d.AP r.Af with | some m => m | none => -1 else -1) := by
 have hl : ∀ (k : Nat) (x i : Int), pG d r k x i = kO d r k x i := fun k => by
  induction k with
  | zero => intro x i; rfl
  | succ k ih =>
   intro x i;rw [pG, kO];simp only [ih]
 rw [sY]
 by_cases c : 3 < (r.Af.length : Int)
 ·rw [a1V c, a1U (by omega)]
 ·rw [a1U c, a1V (by omega), <- more_p hf hB, qD, hl];rfl
theorem aGo {d : AN} (AH : List Al) : ∀ (AG : List Al) (k : Nat), d.AS = AG ++ AH -> AH.length < k -> AG.length + AH.length <= 3000000 -> (∀ r ∈ AH, r.Af.length <= 2000000) -> nN d k AG.length AG = some (AG ++ AH) := by
 induction AH with
 | nil =>
  intro AG k hd hk _ _;obtain _ | k := k
  ·omega
  rw [nN, hd, a1U (by simp)]; simp
 | cons e AH ih =>
  intro AG k hd hk hB hr;obtain _ | k := k
  ·omega
  simp only [a0U] at hk hB;have := hr e (.head _);rw [nN, hd, a1V (cD _ _ _), cI, bsm, iH, a1k, eJ (by omega), bsm, bsm, show (⟨e.At, e.Af, e.Ab⟩ : Al) = e from rfl, eJ (by simp; omega), bsm, aU (by omega), bsm, bW, ih (AG ++ [e]) k (by rw [hd, cG]) (by omega) (by simp; omega) (fun x hx => hr x (.tail _ hx)), <- cG]
theorem aHF {AA : Nat} {ds : List AN} (AH : List AN) : ∀ (AG : List AN) (k : Nat), ds = AG ++ AH -> AH.length < k -> AG.length + AH.length <= 3000000 -> (∀ d ∈ AH, smD d) -> 2000000 < AA -> nC AA ds k AG AG.length = some (AG ++ AH) := by
 induction AH with
 | nil =>
  intro AG k hd hk _ _ _;obtain _ | k := k
  ·omega
  rw [nC, hd, a1U (by simp)]; simp
 | cons e AH ih =>
  intro AG k hd hk hB hr hf;obtain _ | k := k
  ·omega
  simp only [a0U] at hk hB;have hs := hr e (.head _);obtain ⟨s1, s2, s3, s4⟩ := hs;have h2 := aGo (d := e) e.AS [] AA rfl (by omega) (by simp; omega) s4
  simp only [a1k, a0W, a0q] at h2;rw [nC, hd, a1V (cD _ _ _), cI, bsm, yP, a1k, eJ (by omega), bsm, bsm, aAj, a1k, eJ (by omega), bsm, bsm, h2, bsm, show (⟨e.AP, e.AT, e.AS⟩ : AN) = e from rfl, eJ (by simp; omega), bsm, bsm, aU (by omega), bsm, <- hd, bW, ih (AG ++ [e]) k (by rw [hd, cG]) (by omega) (by simp; omega) (fun x hx => hr x (.tail _ hx)) hf, <- cG, hd]
theorem copied_p {AA : Nat} {ds : List AN} (hf : 2000000 < AA) (hB : ds.length <= 2000000) (hs : ∀ d ∈ ds, smD d) : xE AA ds = some ds := by
 have h := aHF (AA := AA) (ds := ds) ds [] AA rfl (by omega) (by simp; omega) hs hf
 simp only [a1k, a0W, a0q] at h
 rw [xE, h, bsm]
theorem aGR {ds : List AN} {i : Int} {d : AN} (hi : idx ds i = some d) (AH : List Al) : ∀ (AG : List Al) (k : Nat), d.AS = AG ++ AH -> AH.length < k -> AG.length + AH.length <= 3000000 -> (∀ r ∈ AH, r.Af.length <= 2000000) -> nA ds i k AG.length AG = some (AG ++ AH) := by
 induction AH with
 | nil =>
  intro AG k hd hk _ _;obtain _ | k := k
  ·omega
  rw [nA, hi, bsm, hd, a1U (by simp)]; simp
 | cons e AH ih =>
  intro AG k hd hk hB hr;obtain _ | k := k
  ·omega
  simp only [a0U] at hk hB;have := hr e (.head _);rw [nA, hi, bsm, hd, a1V (cD _ _ _), bsm, hd, cI, bsm, a1k, eJ (by omega), bsm, show (⟨e.At, e.Af, e.Ab⟩ : Al) = e from rfl, eJ (by simp; omega), bsm, aU (by omega), bsm, bW, ih (AG ++ [e]) k (by rw [hd, cG]) (by omega) (by simp; omega) (fun x hx => hr x (.tail _ hx)), <- cG]
theorem aGw {AA : Nat} {ds : List AN} (AH : List AN) : ∀ (AG : List AN) (k : Nat), ds = AG ++ AH -> AH.length < k -> AG.length + AH.length <= 3000000 -> (∀ d ∈ AH, smD d) -> 2000000 < AA -> mO AA ds k AG AG.length = some (AG ++ AH) := by
 induction AH with
 | nil =>
  intro AG k hd hk _ _ _;obtain _ | k := k
  ·omega
  rw [mO, hd, a1U (by simp)]; simp
 | cons e AH ih =>
  intro AG k hd hk hB hr hf;obtain _ | k := k
  ·omega
  simp only [a0U] at hk hB;have hs := hr e (.head _);obtain ⟨s1, s2, s3, s4⟩ := hs;have hi : idx ds (AG.length : Int) = some e := by rw [hd]; exact cI _ _ _
  have h2 := aGR hi e.AS [] AA rfl (by omega) (by simp; omega) s4
  simp only [a1k, a0W, a0q] at h2;rw [mO, a1V (by rw [hd]; exact cD _ _ _), hi, bsm, a1k, eJ (by omega), bsm, bsm, a1k, eJ (by omega), bsm, h2, bsm, show (⟨e.AP, e.AT, e.AS⟩ : AN) = e from rfl, eJ (by simp; omega), bsm, bsm, aU (by omega), bsm, bW, ih (AG ++ [e]) k (by rw [hd, cG]) (by omega) (by simp; omega) (fun x hx => hr x (.tail _ hx)) hf, <- cG]
theorem copied_r {AA : Nat} {ds : List AN} (hf : 2000000 < AA) (hB : ds.length <= 2000000) (hs : ∀ d ∈ ds, smD d) : vP AA ds = some ds := by
 have h := aGw (AA := AA) (ds := ds) ds [] AA rfl (by omega) (by simp; omega) hs hf
 simp only [a1k, a0W, a0q] at h
 rw [vP, h, bsm]
open Go.SX Go.SW Go.Dt
def unF (s : FS) : Nat := s.AO.countP (fun b => !b)
structure WF (f : AF) (s : FS) : Prop where
 AO : s.AO.length = f.AB.length
 AQ : s.AQ.length = f.AB.length
 AR : s.AR.length = f.AB.length
 nd : s.nd.length = f.AB.length
theorem WF.put {f : AF} {s : FS} {n : Int} {l t : List Int} {z : Ae} (h : WF f s) : WF f (s.put n l t z) := ⟨by simp [FS.put, h.AO], by simp [FS.put, h.AQ], by simp [FS.put, h.AR], by simp [FS.put, h.nd]⟩
theorem uH {x : Bool} {f : AF} {k : Nat} {s s' : FS} {n : Int} {l : List Int} {z : Int} (h : aR x f k s n l z = some s') (w : WF f s) : WF f s' := qG (R := WF f) (fun _ _ _ _ _ _ _ _ h => h.put) k s n l z s' h w
theorem countP_set {l : List Bool} : ∀ {i : Nat}, l[i]? = some false -> (l.set i true).countP (fun b => !b) + 1 = l.countP (fun b => !b) := by
 induction l with
 | nil => intro i h; simp at h
 | cons b l ih =>
  intro i h;cases i with
  | zero => simp at h; subst h; simp
  | succ i =>
   have := ih (i := i) (by simpa using h)
   simp only [List.set_cons_succ, List.countP_cons]; omega
theorem aBo {s : FS} {n : Int} {l t : List Int} {z : Ae} (h : idx s.AO n = some false) : unF (s.put n l t z) + 1 = unF s := by
 obtain ⟨j, rfl, hj, _⟩ := kU h
 simp only [unF, FS.put, a0r]
 exact countP_set hj
theorem aDz {s : FS} {n : Int} (h : idx s.AO n = some false) : 0 < unF s := a0w.2 ⟨false, fJ h, rfl⟩
theorem sX {g : FS -> Int -> List Int -> Int -> Option FS} (H : ∀ s n l z s', g s n l z = some s' -> unF s' <= unF s) : ∀ (ts : List (Option (Int × List Int × Int))) (s s' : FS), bV g s ts = some s' -> unF s' <= unF s
 | [], s, s', e => by cases e; exact a1y _
 | none :: ts, s, s', e => by cases e
 | some t :: ts, s, s', e => by
  obtain ⟨s1, e1, e2⟩ := bind_some e;exact a1z (sX H ts s1 s' e2) (H _ _ _ _ _ e1)
theorem pL {x : Bool} {f : AF} : ∀ (k : Nat) (s : FS) (n : Int) (l : List Int) (z : Int) (s' : FS), aR x f k s n l z = some s' -> unF s' + 1 <= unF s
 | 0, _, _, _, _, _, h => by cases h
 | k + 1, s, n, l, z, s', h => by
  have ih : ∀ s n l z s', aR x f k s n l z = some s' -> unF s' <= unF s := fun s n l z s' h => by have := pL k s n l z s' h; omega
  rw [aR] at h;split at h
  ·rename_i hc;obtain ⟨y, ey, h⟩ := bind_some h;split at h
   ·obtain ⟨w, ew, h⟩ := bind_some h;have h1 := aBo (l := l) (t := pick l y.AI) (z := w) hc.2.2;unfold fG at h;split at h
    ·obtain ⟨d, ed, h⟩ := bind_some h;split at h
     ·obtain ⟨s1, e1, h⟩ := bind_some h;obtain ⟨s2, e2, h⟩ := bind_some h;have := sX ih _ _ _ h;have := sX ih _ _ _ e2;have := sX ih _ _ _ e1;omega
     ·cases h
    ·have := sX ih _ _ _ h;omega
   ·cases h
  ·cases h
def cvP (f : AF) (s : FS) : Ag := ⟨f, s.AQ, s.AR, s.AO, ⟨f.AD, s.nd, f.AC, f.AE⟩⟩
abbrev TupP := List ByteArray × List Int × List Ao × List AN × Int × List (List Int) × List (List Int) × List Bool × List ByteArray × List Ae × List AN × Int
def tupP (f : AF) (s : FS) : TupP := (f.AD, f.AI, f.AB, f.AC, f.AE, s.AQ, s.AR, s.AO, f.AD, s.nd, f.AC, f.AE)
def OutP (f : AF) (o : Option FS) (r : TupP ⊕ (Ag × Bool)) : Prop := match o with
 | some s' => r = .inl (tupP f s')
 | none => ∃ s', r = .inr (cvP f s', false)
def ResP (f : AF) (o : Option FS) (r : Ag × Bool) : Prop := match o with
 | some s' => r = (cvP f s', true)
 | none => ∃ s', r = (cvP f s', false)
structure PV (f : AF) (k : Nat) (rec : Ag -> Int -> List Int -> Int -> Option (Ag × Bool)) : Prop where
 run : ∀ (s : FS) (n : Int) (l : List Int) (z : Int), WF f s -> unF s <= k -> (l.length : Int) <= z -> z + 6000100 * k <= 400000000 -> ∃ r, rec (cvP f s) n l z = some r /\ ResP f (aR false f k s n l z) r
section
variable {f : AF} {k : Nat} {rec : Ag -> Int -> List Int -> Int -> Option (Ag × Bool)}
theorem kidsP (hv : PV f k rec) {l : List Int} {z : Int} (hl : (l.length : Int) <= z) (hz : z + 6000100 * k <= 400000000) (AH : List Int) : ∀ (AG : List Int) (K : Nat) (s : FS), AH.length < K -> AG.length + AH.length <= 3000000 -> WF f s -> unF s <= k ->
  ∃ r, mD rec (AG ++ AH) l z K AG.length f.AD f.AI f.AB f.AC f.AE s.AQ s.AR s.AO f.AD s.nd f.AC f.AE = some r /\ OutP f (bV (aR false f k) s (AH.map fun c => some (c, l, z))) r := by
 induction AH with
 | nil =>
  intro AG K s hk _ hs hu;obtain _ | K := K
  ·omega
  exact ⟨.inl (tupP f s), by rw [mD, a1U (by simp)]; rfl, rfl⟩
 | cons e AH ih =>
  intro AG K s hk hB hs hu;obtain _ | K := K
  ·omega
  simp only [a0U] at hk hB;obtain ⟨r, h1, h2⟩ := hv.run s e l z hs hu hl hz;rw [mD, a1V (cD _ _ _), cI, bsm, show rec (⟨(⟨f.AD, f.AI, f.AB, f.AC, f.AE⟩ : AF), s.AQ, s.AR, s.AO, (⟨f.AD, s.nd, f.AC, f.AE⟩ : AM)⟩ : Ag) e l z = _ from h1, bsm, a1a, bV];dsimp only
  cases hq : aR false f k s e l z with
  | none => rw [hq] at h2; obtain ⟨s', rfl⟩ := h2; exact ⟨_, rfl, s', rfl⟩
  | some s1 =>
   rw [hq] at h2;have h2 : r = (cvP f s1, true) := h2;subst h2;have := pL k _ _ _ _ _ hq;obtain ⟨r, g1, g2⟩ := ih (AG ++ [e]) K s1 (by omega) (by simp; omega) (uH hq hs) (by omega)
   refine ⟨r, ?_, by rw [bsm]; exact g2⟩
   rw [a1Q, aU (by omega), bsm, cG, bW];exact g1
theorem spotsP (hv : PV f k rec) {d : AN} {l : List Int} {z : Int} (hl : (l.length : Int) <= z) (hz : z + 6000100 * k <= 400000000) (AH : List As) : ∀ (AG : List As) (K : Nat) (s : FS), d.AT = AG ++ AH -> AH.length < K -> AG.length + AH.length <= 3000000 -> WF f s -> unF s <= k ->
  ∃ r, lQ rec d z l K AG.length f.AD f.AI f.AB f.AC f.AE s.AQ s.AR s.AO f.AD s.nd f.AC f.AE = some r /\ OutP f (bV (aR false f k) s (AH.map fun c => some (c.Ab, l, z))) r := by
 induction AH with
 | nil =>
  intro AG K s hd hk _ hs hu;obtain _ | K := K
  ·omega
  exact ⟨.inl (tupP f s), by rw [lQ, hd, a1U (by simp)]; rfl, rfl⟩
 | cons e AH ih =>
  intro AG K s hd hk hB hs hu;obtain _ | K := K
  ·omega
  simp only [a0U] at hk hB;obtain ⟨r, h1, h2⟩ := hv.run s e.Ab l z hs hu hl hz;rw [lQ, hd, a1V (cD _ _ _), cI, bsm, show rec (⟨(⟨f.AD, f.AI, f.AB, f.AC, f.AE⟩ : AF), s.AQ, s.AR, s.AO, (⟨f.AD, s.nd, f.AC, f.AE⟩ : AM)⟩ : Ag) e.Ab l z = _ from h1, bsm, a1a, bV];dsimp only
  cases hq : aR false f k s e.Ab l z with
  | none => rw [hq] at h2; obtain ⟨s', rfl⟩ := h2; exact ⟨_, rfl, s', rfl⟩
  | some s1 =>
   rw [hq] at h2;have h2 : r = (cvP f s1, true) := h2;subst h2;have := pL k _ _ _ _ _ hq;obtain ⟨r, g1, g2⟩ := ih (AG ++ [e]) K s1 (by rw [hd, cG]) (by omega) (by simp; omega) (uH hq hs) (by omega)
   refine ⟨r, ?_, by rw [bsm]; exact g2⟩
   rw [a1Q, aU (by omega), bsm, bW];exact g1
theorem aBV (d : AN) (ins : List Int) (z : Int) (r : Al) : dX false d ins z r = (gT d.AP r.Af).bind fun k => some (r.Ab, ins ++ upto z k.toNat, z + k) := by
 unfold dX; rw [a1V (by intro h; cases h)]
theorem rulesP (hv : PV f k rec) {AA : Nat} (hf : 10000000 < AA) {d : AN} {l : List Int} {z : Int} (hl : (l.length : Int) <= z) (hz : z + 6000000 + 6000100 * k <= 400000000) (AH : List Al) : ∀ (AG : List Al) (K : Nat) (s : FS), d.AS = AG ++ AH -> AH.length < K -> AG.length + AH.length <= 3000000 -> (∀ r ∈ AH, r.Af.length <= 2000000) -> WF f s -> unF s <= k ->
  ∃ r, lO AA rec d z l K AG.length f.AD f.AI f.AB f.AC f.AE s.AQ s.AR s.AO f.AD s.nd f.AC f.AE = some r /\ OutP f (bV (aR false f k) s (AH.map (dX false d l z))) r := by
 induction AH with
 | nil =>
  intro AG K s hd hk _ _ hs hu;obtain _ | K := K
  ·omega
  exact ⟨.inl (tupP f s), by rw [lO, hd, a1U (by simp)]; rfl, rfl⟩
 | cons e AH ih =>
  intro AG K s hd hk hB hj hs hu;obtain _ | K := K
  ·omega
  simp only [a0U] at hk hB;have hje := hj e (.head _);rw [lO, a1V (by rw [hd]; exact cD _ _ _), show idx d.AS (AG.length : Int) = some e from by rw [hd]; exact cI _ _ _, bsm, show qD AA (⟨d.AP, d.AT, d.AS⟩ : AN) (⟨e.At, e.Af, e.Ab⟩ : Al) = _ from more_p (d := d) (r := e) (by omega) hje, bsm, a1a];cases hm : gT d.AP e.Af with
  | none =>
   rw [show dX false d l z e = none from by rw [aBV, hm]; rfl];exact ⟨_, rfl, s, rfl⟩
  | some m =>
   have hml := zR hm;rw [show dX false d l z e = some (e.Ab, l ++ upto z m.toNat, z + m) from by rw [aBV, hm, bsm]];obtain ⟨r, h1, h2⟩ := hv.run s e.Ab (l ++ upto z m.toNat) (z + m) hs hu (by rw [a0T, gC]; omega) (by omega)
   dsimp only
   rw [a1U (by omega), from_p (by omega) hml.1 (by omega) (by omega), bsm, aBJ (by rw [gC]; omega), bsm, aU (by omega), bsm, show rec (⟨(⟨f.AD, f.AI, f.AB, f.AC, f.AE⟩ : AF), s.AQ, s.AR, s.AO, (⟨f.AD, s.nd, f.AC, f.AE⟩ : AM)⟩ : Ag) e.Ab (l ++ upto z m.toNat) (z + m) = _ from h1, bsm, bV];dsimp only
   cases hq : aR false f k s e.Ab (l ++ upto z m.toNat) (z + m) with
   | none => rw [hq] at h2; obtain ⟨s', rfl⟩ := h2; exact ⟨_, rfl, s', rfl⟩
   | some s1 =>
    rw [hq] at h2;have h2 : r = (cvP f s1, true) := h2;subst h2;have := pL k _ _ _ _ _ hq;obtain ⟨r, g1, g2⟩ := ih (AG ++ [e]) K s1 (by rw [hd, cG]) (by omega) (by simp; omega) (fun r hr => hj r (.tail _ hr)) (uH hq hs) (by omega)
    refine ⟨r, ?_, by rw [bsm]; exact g2⟩
    rw [a1Q, aU (by omega), bsm, bW];exact g1
end
theorem aCp {f : AF} {k AA : Nat} (hv : PV f k (eC AA)) (hf : 10000000 < AA) {l : List Int} {z : Int} (hl : (l.length : Int) <= z) (hz : z + 6000100 * k <= 400000000) {ks : List Int} (hk : ks.length <= 2000000) {s : FS} (hs : WF f s) (hu : unF s <= k) :
  ∃ r, mI (AA + 1) (cvP f s) ks l z = some r /\ ResP f (bV (aR false f k) s (ks.map fun c => some (c, l, z))) r := by
 obtain ⟨r, g1, g2⟩ := kidsP hv hl hz ks [] AA s (by omega) (by simp; omega) hs hu
 rw [mI, show mD (eC AA) ks l z AA 0 (cvP f s).AF.AD (cvP f s).AF.AI (cvP f s).AF.AB (cvP f s).AF.AC (cvP f s).AF.AE (cvP f s).AQ (cvP f s).AR (cvP f s).AO (cvP f s).AK.AD (cvP f s).AK.AB (cvP f s).AK.AC (cvP f s).AK.AE = _ from g1, bsm]
 cases hq : bV (aR false f k) s (ks.map fun c => some (c, l, z)) with
 | none => rw [hq] at g2; obtain ⟨s', rfl⟩ := g2; exact ⟨_, rfl, s', rfl⟩
 | some s' => rw [hq] at g2; have g2 : r = .inl (tupP f s') := g2; subst g2; exact ⟨_, rfl, rfl⟩
open Go.SX Go.SW Go.Dt
theorem vD {x : Bool} {f : AF} {k : Nat} {ts : List (Option (Int × List Int × Int))} {s s' : FS} (h : bV (aR x f k) s ts = some s') (w : WF f s) (u : unF s <= k) : WF f s' /\ unF s' <= k :=
 ⟨oN (R := WF f) (fun _ _ _ _ _ h w => uH h w) ts s s' h w, a1z (sX (fun s n l z s' h => by have := pL k s n l z s' h; omega) ts s s' h) u⟩
theorem defP_S {f : AF} {k AA : Nat} (hm : SmF f) (hD : ∀ d ∈ f.AC, d.AP.length <= 30 /\ d.AT.length <= 30) (hv1 : PV f k (eC (AA + 1))) (hv0 : PV f k (eC AA)) (hf : 10000000 < AA) {s : FS} {n : Int} {l tk : List Int} {z : Int} {y : Ao}
  (hl : (l.length : Int) <= z) (ht : (tk.length : Int) <= z) (hz : z + 6000100 * (k + 1) <= 400000000) (hy : idx f.AB n = some y) (h4 : y.Op = 4) (htk : idx s.AR n = some tk) (hs : WF f s) (hu : unF s <= k) :
  ∃ r, pN (AA + 2) (cvP f s) n l z = some r /\ ResP f (fG false f (aR false f k) s y l tk z) r := by
 rw [pN, show idx (cvP f s).AF.AB n = some y from hy, bsm]
 unfold fG
 rw [a1V h4]
 by_cases c1 : y.N < 0
 ·rw [a1V c1, show idx f.AC y.N = none from by unfold idx; rw [a1U (by omega)]];exact ⟨_, rfl, s, rfl⟩
 rw [a1U c1]
 by_cases c2 : (f.AC.length : Int) <= y.N
 ·have : idx f.AC y.N = none := by
   cases hi : idx f.AC y.N with
   | none => rfl
   | some y => have := lW hi; omega
  rw [a1V (show ((cvP f s).AF.AC.length : Int) <= y.N from c2), this];exact ⟨_, rfl, s, rfl⟩
 obtain ⟨d, hd⟩ := fC (xs := f.AC) (i := y.N) (by omega) (by omega)
 obtain ⟨d1, d2⟩ := hD d (fJ hd)
 obtain ⟨m1, m2, m3, m4⟩ := hm.AY d (fJ hd)
 have ho : bA d <= 60 := by unfold bA; omega
 have hy2 := (hm.args y (fJ hy)).2.1
 rw [a1U (show ¬ ((cvP f s).AF.AC.length : Int) <= y.N from c2), show idx (cvP f s).AF.AC y.N = some d from hd, bsm, show chk ((d.AP.length : Int) + (d.AT.length : Int)) = some (bA d : Int) from by rw [aU (by omega)]; simp [bA], bsm,
  from_p (by omega) (by omega) (by omega) (by omega), bsm, a0r, gC, aU (by omega), bsm, show idx (cvP f s).AR n = some tk from htk, bsm, aBJ (by rw [gC]; omega), bsm, hd, bsm, a1V (by intro h; cases h)]
 obtain ⟨r1, g1, g2⟩ := rulesP hv1 (AA := AA + 1) (by omega) (d := d) (l := tk ++ upto z (bA d)) (z := z + bA d) (by rw [a0T, gC]; omega) (by omega) d.AS [] (AA + 1) s rfl (by omega) (by simp; omega) m4 hs hu
 rw [show lO (AA + 1) (eC (AA + 1)) d (z + bA d) (tk ++ upto z (bA d)) (AA + 1) 0 (cvP f s).AF.AD (cvP f s).AF.AI (cvP f s).AF.AB (cvP f s).AF.AC (cvP f s).AF.AE (cvP f s).AQ (cvP f s).AR (cvP f s).AO (cvP f s).AK.AD (cvP f s).AK.AB (cvP f s).AK.AC (cvP f s).AK.AE = _ from g1, bsm]
 cases hq : bV (aR false f k) s (d.AS.map (dX false d (tk ++ upto z (bA d)) (z + bA d))) with
 | none => rw [hq] at g2; obtain ⟨s', rfl⟩ := g2; exact ⟨_, rfl, s', rfl⟩
 | some s1 =>
  rw [hq] at g2;have g2 : r1 = .inl (tupP f s1) := g2;subst g2;obtain ⟨w1, u1⟩ := vD hq hs hu;rw [bsm];dsimp only [tupP];obtain ⟨r2, q1, q2⟩ := spotsP hv1 (d := d) (l := tk ++ upto z (bA d)) (z := z + bA d) (by rw [a0T, gC]; omega) (by omega) d.AT [] (AA + 1) s1 rfl (by omega) (by simp; omega) w1 u1
  rw [show lQ (eC (AA + 1)) d (z + bA d) (tk ++ upto z (bA d)) (AA + 1) 0 f.AD f.AI f.AB f.AC f.AE s1.AQ s1.AR s1.AO f.AD s1.nd f.AC f.AE = _ from q1, bsm];cases hq2 : bV (aR false f k) s1 (d.AT.map fun p => some (p.Ab, tk ++ upto z (bA d), z + bA d)) with
  | none => rw [hq2] at q2; obtain ⟨s', rfl⟩ := q2; exact ⟨_, rfl, s', rfl⟩
  | some s2 =>
   rw [hq2] at q2;have q2 : r2 = .inl (tupP f s2) := q2;subst q2;obtain ⟨w2, u2⟩ := vD hq2 w1 u1;rw [bsm];dsimp only [tupP];obtain ⟨r3, p1, p2⟩ := aCp hv0 hf (l := l ++ upto z (bA d)) (z := z + bA d) (by rw [a0T, gC]; omega) (by omega) hy2 w2 u2
   rw [aBJ (by rw [gC]; omega), bsm, show mI (AA + 1) (⟨(⟨f.AD, f.AI, f.AB, f.AC, f.AE⟩ : AF), s2.AQ, s2.AR, s2.AO, (⟨f.AD, s2.nd, f.AC, f.AE⟩ : AM)⟩ : Ag) y.AU (l ++ upto z (bA d)) (z + bA d) = _ from p1, bsm];exact ⟨_, rfl, p2⟩
theorem argsP {f : AF} {AA : Nat} (hf : 10000000 < AA) {s : FS} {n : Int} {l tk : List Int} {y : Ao} (AH : List AW) : ∀ (AG acc : List AW) (K : Nat), y.Aa = AG ++ AH -> AH.length < K -> AG.length + AH.length <= 3000000 -> acc.length + AH.length <= 3000000 -> (∀ e ∈ AH, nE e <= 2000000) ->
  ∃ r, mL AA (cvP f s) n l y tk K AG.length acc = some r /\ match opL l AH with | some a => r = .inl (acc ++ a) | none => ∃ s', r = .inr (cvP f s', false) := by
 induction AH with
 | nil =>
  intro AG acc K hd hk _ _ _;obtain _ | K := K
  ·omega
  exact ⟨_, by rw [mL, hd, a1U (by simp)], by simp [opL]⟩
 | cons e AH ih =>
  intro AG acc K hd hk hB hA he;obtain _ | K := K
  ·omega
  simp only [a0U] at hk hB hA;obtain ⟨e', b, h1, h2⟩ := exp_p AA e l (by have := he e (.head _); omega) (he e (.head _))
  rw [mL, a1V (by rw [hd]; exact cD _ _ _), show idx y.Aa (AG.length : Int) = some e from by rw [hd]; exact cI _ _ _, bsm, pZ, h1, bsm];cases b with
  | false =>
   rw [a1U (by simp)] at h2;refine ⟨_, rfl, ?_⟩;rw [opL, h2];exact ⟨⟨s.AO.set n.toNat true, s.AQ.set n.toNat l, s.AR.set n.toNat tk, s.nd⟩, rfl⟩
  | true =>
   rw [a1V rfl] at h2;obtain ⟨r, g1, g2⟩ := ih (AG ++ [e]) (acc ++ [e']) K (by rw [hd, cG]) (by omega) (by simp; omega) (by simp; omega) (fun x hx => he x (.tail _ hx))
   refine ⟨r, ?_, ?_⟩
   ·rw [a1Q, pZ, eJ (by simp; omega), bsm, aU (by omega), bsm, bW]; exact g1
   ·rw [opL, h2, bsm];cases ho : opL l AH with
    | none => rw [ho] at g2; exact g2
    | some a => rw [ho] at g2; dsimp only at g2 ⊢; rw [g2]; simp
def aBI (AA : Nat) (a0 : Ag) (a1 : Int) (a2 : List Int) (a3 : Int) (y4 : Ao) (y8 x1 : List Int) (x3 : Int) (y10 : List Int) : Option (Ag × Bool) :=
    (mL AA a0 a1 a2 y4 y8 AA 0 []).bind fun o => match o with
    | Sum.inr r => some r
    | Sum.inl x5 =>
    (idx a0.AK.AB a1).bind fun y15 =>
    if y4.Op = 4 then
     ((pN AA) (⟨(⟨a0.AF.AD, a0.AF.AI, a0.AF.AB, a0.AF.AC, a0.AF.AE⟩ : AF), a0.AQ.set a1.toNat a2, a0.AR.set a1.toNat y8, a0.AO.set a1.toNat true, (⟨a0.AK.AD, a0.AK.AB.set a1.toNat (⟨y4.Op, x3, x5, y10⟩ : Ae), a0.AK.AC, a0.AK.AE⟩ : AM)⟩ : Ag) a1 a2 a3).bind fun y16 =>
     some ((⟨(⟨y16.1.AF.AD, y16.1.AF.AI, y16.1.AF.AB, y16.1.AF.AC, y16.1.AF.AE⟩ : AF), y16.1.AQ, y16.1.AR, y16.1.AO, (⟨y16.1.AK.AD, y16.1.AK.AB, y16.1.AK.AC, y16.1.AK.AE⟩ : AM)⟩ : Ag), y16.2)
    else
     ((mI AA) (⟨(⟨a0.AF.AD, a0.AF.AI, a0.AF.AB, a0.AF.AC, a0.AF.AE⟩ : AF), a0.AQ.set a1.toNat a2, a0.AR.set a1.toNat y8, a0.AO.set a1.toNat true, (⟨a0.AK.AD, a0.AK.AB.set a1.toNat (⟨y4.Op, x3, x5, y10⟩ : Ae), a0.AK.AC, a0.AK.AE⟩ : AM)⟩ : Ag) y4.AU x1 a3).bind fun y17 =>
     some ((⟨(⟨y17.1.AF.AD, y17.1.AF.AI, y17.1.AF.AB, y17.1.AF.AC, y17.1.AF.AE⟩ : AF), y17.1.AQ, y17.1.AR, y17.1.AO, (⟨y17.1.AK.AD, y17.1.AK.AB, y17.1.AK.AC, y17.1.AK.AE⟩ : AM)⟩ : Ag), y17.2)
theorem aBs {α : Type} {xs : List α} {n : Int} {y v : α} (h : idx xs n = some y) : idx (xs.set n.toNat v) n = some v := by
 obtain ⟨j, rfl, hj, hlt⟩ := kU h
 rw [a0r]
 exact qX (by rw [a0O hlt])
theorem aC1 {f : AF} {k AA : Nat} (hm : SmF f) (hD : ∀ d ∈ f.AC, d.AP.length <= 30 /\ d.AT.length <= 30) (hv2 : PV f k (eC (AA + 1))) (hv0 : PV f k (eC AA)) (hf : 10000000 < AA) {s : FS} {n : Int} {l tk : List Int} {z m : Int} {y : Ao}
  (hl : (l.length : Int) <= z) (ht : (tk.length : Int) <= z) (hz : z + 6000100 * (k + 1) <= 400000000) (hy : idx f.AB n = some y) (hs : WF f s) (hsn : idx s.AO n = some false) (hu : unF s <= k + 1) (hI : opI y l tk = some m) :
  ∃ r, aBI (AA + 2) (cvP f s) n l z y tk (fF y l tk) m y.AU = some r /\ ResP f ((opN y l tk).bind fun w => fG false f (aR false f k) (s.put n l tk w) y l tk z) r := by
 obtain ⟨a1, a2, a3⟩ := hm.args y (fJ hy)
 obtain ⟨r, g1, g2⟩ := argsP (f := f) (s := s) (n := n) (l := l) (tk := tk) (y := y) (AA := AA + 2) (by omega) y.Aa [] [] (AA + 2) rfl (by omega) (by simp; omega) (by simp; omega) a3
 simp only [a0W, a0q, a1k] at g1 g2
 unfold aBI
 rw [g1, bsm, opN, hI, bsm]
 cases ho : opL l y.Aa with
 | none => rw [ho] at g2; obtain ⟨s', rfl⟩ := g2; exact ⟨_, rfl, s', rfl⟩
 | some a =>
  rw [ho] at g2;dsimp only at g2
  subst g2;have hin := lW hy;obtain ⟨w0, hw0⟩ := fC (xs := s.nd) (i := n) hin.1 (by rw [hs.nd]; exact hin.2)
  obtain ⟨t0, ht0⟩ := fC (xs := s.AR) (i := n) hin.1 (by rw [hs.AR]; exact hin.2)
  have hp := aBo (l := l) (t := tk) (z := (⟨y.Op, m, a, y.AU⟩ : Ae)) hsn;rw [bsm, bsm];dsimp only
  rw [show idx (cvP f s).AK.AB n = some w0 from hw0, bsm];by_cases h4 : y.Op = 4
  ·obtain ⟨r, q1, q2⟩ := defP_S hm hD hv2 hv0 hf (s := s.put n l tk ⟨y.Op, m, a, y.AU⟩) (n := n) (l := l) (tk := tk) hl ht hz hy h4 (aBs ht0) hs.put (by omega)
   rw [a1V h4, show pN (AA + 2) (⟨(⟨(cvP f s).AF.AD, (cvP f s).AF.AI, (cvP f s).AF.AB, (cvP f s).AF.AC, (cvP f s).AF.AE⟩ : AF), (cvP f s).AQ.set n.toNat l, (cvP f s).AR.set n.toNat tk, (cvP f s).AO.set n.toNat true, (⟨(cvP f s).AK.AD, (cvP f s).AK.AB.set n.toNat (⟨y.Op, m, a, y.AU⟩ : Ae), (cvP f s).AK.AC, (cvP f s).AK.AE⟩ : AM)⟩ : Ag) n l z = _ from q1, bsm];exact ⟨_, rfl, q2⟩
  ·have hw : (fF y l tk).length <= z := by unfold fF; split <;> omega
   obtain ⟨r, q1, q2⟩ := aCp hv2 (by omega) (l := fF y l tk) (z := z) hw (by omega) a2 (s := s.put n l tk ⟨y.Op, m, a, y.AU⟩) hs.put (by omega)
   rw [a1U h4, show mI (AA + 2) (⟨(⟨(cvP f s).AF.AD, (cvP f s).AF.AI, (cvP f s).AF.AB, (cvP f s).AF.AC, (cvP f s).AF.AE⟩ : AF), (cvP f s).AQ.set n.toNat l, (cvP f s).AR.set n.toNat tk, (cvP f s).AO.set n.toNat true, (⟨(cvP f s).AK.AD, (cvP f s).AK.AB.set n.toNat (⟨y.Op, m, a, y.AU⟩ : Ae), (cvP f s).AK.AC, (cvP f s).AK.AE⟩ : AM)⟩ : Ag) y.AU (fF y l tk) z = _ from q1, bsm];refine ⟨_, rfl, ?_⟩;unfold fG;rw [a1U h4];exact q2
theorem pnode {f : AF} {k AA : Nat} (hm : SmF f) (hD : ∀ d ∈ f.AC, d.AP.length <= 30 /\ d.AT.length <= 30) (hv2 : PV f k (eC (AA + 1))) (hv0 : PV f k (eC AA)) (hf : 10000000 < AA) : PV f (k + 1) (eC (AA + 3)) := by
 refine ⟨fun s n l z hs hu hl hz => ?_⟩
 rw [eC]
 by_cases c1 : n < 0
 ·rw [a1V c1, aR, a1U (by omega)];exact ⟨_, rfl, s, rfl⟩
 rw [a1U c1]
 by_cases c2 : (f.AB.length : Int) <= n
 ·rw [a1V (show ((cvP f s).AF.AB.length : Int) <= n from c2), aR, a1U (by omega)];exact ⟨_, rfl, s, rfl⟩
 rw [a1U (show ¬ ((cvP f s).AF.AB.length : Int) <= n from c2)]
 obtain ⟨q, hq⟩ := fC (xs := s.AO) (i := n) (by omega) (by rw [hs.AO]; omega)
 obtain ⟨l0, hl0⟩ := fC (xs := s.AQ) (i := n) (by omega) (by rw [hs.AQ]; omega)
 obtain ⟨t0, ht0⟩ := fC (xs := s.AR) (i := n) (by omega) (by rw [hs.AR]; omega)
 obtain ⟨y, hy⟩ := fC (xs := f.AB) (i := n) (by omega) (by omega)
 rw [show idx (cvP f s).AO n = some q from hq, bsm]
 cases q with
 | true =>
  rw [a1Q, aR, a1U (by rw [hq]; rintro ⟨_, _, h⟩; cases h)];exact ⟨_, rfl, s, rfl⟩
 | false =>
  have hfv : iP false y l -> aR false f (k + 1) s n l z = (opN y l (pick l y.AI)).bind fun w => fG false f (aR false f k) (s.put n l (pick l y.AI) w) y l (pick l y.AI) z := fun h => by
   rw [aR, a1V ⟨by omega, by omega, hq⟩, hy, bsm, a1V h]
  have hfn : ¬ iP false y l -> aR false f (k + 1) s n l z = none := fun h => by
   rw [aR, a1V ⟨by omega, by omega, hq⟩, hy, bsm, a1U h]
  have hT := hm.takes y (fJ hy);obtain ⟨a1, a2, a3⟩ := hm.args y (fJ hy);rw [a1P, bsm, show idx (cvP f s).AQ n = some l0 from hl0, bsm, show idx (cvP f s).AF.AB n = some y from hy, bsm, aEm, bsm, aBM (l := y.AI) (b := l.length) (by omega) (by omega)];by_cases hr : dO l.length none y.AI = true
  ·have fin : (jK y.Op = true \/ y.AI = []) -> ∃ r, ((rK (AA + 2) l y.AI).bind fun y8 =>
    (idx (cvP f s).AR n).bind fun y9 =>
    (iH y.AU).bind fun y10 =>
    ((if y.Op = 6 then
     some (decide (y.Op = 6))
    else
     some (decide (y.Op = 8))).bind fun x2 =>
    bif x2 then
     (idx ((cvP f s).AR.set n.toNat y8) n).bind fun y11 =>
     some y11
    else
     some l).bind fun x1 =>
    ((if y.Op = 2 then
     some (decide (y.Op = 2))
    else
     if y.Op = 6 then
      some (decide (y.Op = 6))
     else
      some (decide (y.Op = 8))).bind fun x4 =>
    bif x4 then
     if y.N < 0 then
      (some ((⟨(⟨(cvP f s).AF.AD, (cvP f s).AF.AI, (cvP f s).AF.AB, (cvP f s).AF.AC, (cvP f s).AF.AE⟩ : AF), (cvP f s).AQ.set n.toNat l, (cvP f s).AR.set n.toNat y8, (cvP f s).AO.set n.toNat true, (⟨(cvP f s).AK.AD, (cvP f s).AK.AB, (cvP f s).AK.AC, (cvP f s).AK.AE⟩ : AM)⟩ : Ag), false)).bind fun r => some (Sum.inr r)
     else
      if (x1.length : Int) <= y.N then
       (some ((⟨(⟨(cvP f s).AF.AD, (cvP f s).AF.AI, (cvP f s).AF.AB, (cvP f s).AF.AC, (cvP f s).AF.AE⟩ : AF), (cvP f s).AQ.set n.toNat l, (cvP f s).AR.set n.toNat y8, (cvP f s).AO.set n.toNat true, (⟨(cvP f s).AK.AD, (cvP f s).AK.AB, (cvP f s).AK.AC, (cvP f s).AK.AE⟩ : AM)⟩ : Ag), false)).bind fun r => some (Sum.inr r)
      else
       (idx x1 y.N).bind fun y12 =>
       some (Sum.inl y12)
    else
     some (Sum.inl y.N)).bind fun o => match o with
    | Sum.inr r => some r
    | Sum.inl x3 => aBI (AA + 2) (cvP f s) n l z y y8 x1 x3 y10) = some r /\ ResP f (aR false f (k + 1) s n l z) r := fun hk => by
    rw [hfv ⟨⟨hk, hr⟩, fun h => by cases h⟩]
    have hpl : (pick l y.AI).length <= l.length := by
     rw [aBR]; have := tU (b := l.length) (by omega) hr; omega
    rw [pick_p (by omega) (by omega) (aBF hr), bsm, show idx (cvP f s).AR n = some t0 from ht0, bsm, iH, a1k, eJ (by omega), bsm, bsm,
     show (if y.Op = 6 then some (decide (y.Op = 6)) else some (decide (y.Op = 8)) : Option Bool) = some (decide (y.Op = 6 \/ y.Op = 8)) from by
      by_cases h6 : y.Op = 6
      ·rw [a1V h6, a1S h6, a1S (.inl h6)]
      ·rw [a1U h6]; congr 1; rw [decide_eq_decide]; omega, bsm,
     show (bif decide (y.Op = 6 \/ y.Op = 8) then (idx ((cvP f s).AR.set n.toNat (pick l y.AI)) n).bind fun y11 => some y11 else some l : Option (List Int)) = some (fF y l (pick l y.AI)) from by
      unfold fF;by_cases h6 : y.Op = 6 \/ y.Op = 8
      ·rw [a1S h6, a1Q, a1V h6, show idx ((cvP f s).AR.set n.toNat (pick l y.AI)) n = some (pick l y.AI) from aBs ht0, bsm]
      ·rw [a1R h6, a1P, a1U h6], bsm,
     show (if y.Op = 2 then some (decide (y.Op = 2)) else some (decide (y.Op = 6 \/ y.Op = 8)) : Option Bool) = some (decide (y.Op = 2 \/ y.Op = 6 \/ y.Op = 8)) from by
      by_cases h2 : y.Op = 2
      ·rw [a1V h2, a1S h2, a1S (.inl h2)]
      ·rw [a1U h2]; congr 1; rw [decide_eq_decide]; omega, bsm]
    by_cases hx : y.Op = 2 \/ y.Op = 6 \/ y.Op = 8
    ·have hI : opI y l (pick l y.AI) = idx (fF y l (pick l y.AI)) y.N := by
      unfold opI fF;by_cases h2 : y.Op = 2
      ·rw [a1V h2, a1U (by omega)]
      ·rw [a1U h2, a1V (by omega), a1V (by omega)]
     rw [a1S hx, a1Q];by_cases e1 : y.N < 0
     ·rw [a1V e1, opN, hI, show idx (fF y l (pick l y.AI)) y.N = none from by unfold idx; rw [a1U (by omega)]];exact ⟨_, rfl, ⟨s.AO.set n.toNat true, s.AQ.set n.toNat l, s.AR.set n.toNat (pick l y.AI), s.nd⟩, rfl⟩
     ·rw [a1U e1];by_cases e2 : ((fF y l (pick l y.AI)).length : Int) <= y.N
      ·have : idx (fF y l (pick l y.AI)) y.N = none := by
        cases hi : idx (fF y l (pick l y.AI)) y.N with
        | none => rfl
        | some y => have := lW hi; omega
       rw [a1V e2, opN, hI, this];exact ⟨_, rfl, ⟨s.AO.set n.toNat true, s.AQ.set n.toNat l, s.AR.set n.toNat (pick l y.AI), s.nd⟩, rfl⟩
      ·obtain ⟨m, hmm⟩ := fC (xs := fF y l (pick l y.AI)) (i := y.N) (by omega) (by omega)
       rw [a1U e2, hmm, bsm, bsm];exact aC1 hm hD hv2 hv0 hf hl (by omega) (by omega) hy hs hq hu (by rw [hI, hmm])
    ·rw [a1R hx, a1P, bsm];exact aC1 hm hD hv2 hv0 hf hl (by omega) (by omega) hy hs hq hu (by unfold opI; rw [a1U (by omega), a1U (by omega)])
   cases ht : jK y.Op with
   | false =>
    rw [a0n, a1Q];by_cases hk : y.AI = []
    ·rw [a1U (by rw [hk]; simp), hr, bsm, a1Q, bsm];exact fin (.inr hk)
    ·have hno : ¬ iP false y l := fun h => by
      rcases h.1.1 with h | h
      ·rw [ht] at h; cases h
      ·exact hk h
     rw [a1V (by have := List.length_pos_iff.2 hk; omega), hfn hno];exact ⟨_, rfl, ⟨s.AO.set n.toNat true, s.AQ.set n.toNat l, s.AR, s.nd⟩, rfl⟩
   | true =>
    rw [a0o, a1P, hr, bsm, a1Q, bsm];exact fin (.inl ht)
  ·have hrf : dO l.length none y.AI = false := a0k.2 hr;rw [hfn (fun h => hr h.1.2)];cases ht : jK y.Op with
   | false =>
    rw [a0n, a1Q];by_cases hk : y.AI = []
    ·rw [a1U (by rw [hk]; simp), hrf, bsm, a1P];exact ⟨_, rfl, ⟨s.AO.set n.toNat true, s.AQ.set n.toNat l, s.AR, s.nd⟩, rfl⟩
    ·rw [a1V (by have := List.length_pos_iff.2 hk; omega)];exact ⟨_, rfl, ⟨s.AO.set n.toNat true, s.AQ.set n.toNat l, s.AR, s.nd⟩, rfl⟩
   | true =>
    rw [a0o, a1P, hrf, bsm, a1P];exact ⟨_, rfl, ⟨s.AO.set n.toNat true, s.AQ.set n.toNat l, s.AR, s.nd⟩, rfl⟩
theorem pnode0 {f : AF} {AA : Nat} : PV f 0 (eC (AA + 1)) := by
 refine ⟨fun s n l z hs hu hl hz => ?_⟩
 rw [eC, aR]
 by_cases c1 : n < 0
 ·rw [a1V c1];exact ⟨_, rfl, s, rfl⟩
 rw [a1U c1]
 by_cases c2 : (f.AB.length : Int) <= n
 ·rw [a1V (show ((cvP f s).AF.AB.length : Int) <= n from c2)];exact ⟨_, rfl, s, rfl⟩
 rw [a1U (show ¬ ((cvP f s).AF.AB.length : Int) <= n from c2)]
 obtain ⟨q, hq⟩ := fC (xs := s.AO) (i := n) (by omega) (by rw [hs.AO]; omega)
 rw [show idx (cvP f s).AO n = some q from hq, bsm]
 cases q with
 | true => exact ⟨_, rfl, s, rfl⟩
 | false => have := aDz hq; omega
theorem pvisF {f : AF} (hm : SmF f) (hD : ∀ d ∈ f.AC, d.AP.length <= 30 /\ d.AT.length <= 30) : ∀ (k AA : Nat), 10000000 + 3 * k < AA -> PV f k (eC AA)
 | 0, AA + 1, _ => pnode0
 | k + 1, AA + 3, h => pnode hm hD (pvisF hm hD k (AA + 1) (by omega)) (pvisF hm hD k AA (by omega)) (by omega)
open Go.SX Go.SW Go.Dt
def FS.nds (s : FS) (n : Int) (w : Ae) : FS := ⟨s.AO, s.AQ, s.AR, s.nd.set n.toNat w⟩
def FS.Aq (s : FS) (n : Int) (l t : List Int) : FS := ⟨s.AO.set n.toNat true, s.AQ.set n.toNat l, s.AR.set n.toNat t, s.nd⟩
theorem put_nds {s : FS} {n : Int} {l t : List Int} {w : Ae} : s.put n l t w = (s.Aq n l t).nds n w := rfl
theorem WF.nds {f : AF} {s : FS} {n : Int} {w : Ae} (h : WF f s) : WF f (s.nds n w) := ⟨h.AO, h.AQ, h.AR, by simp [FS.nds, h.nd]⟩
theorem WF.Aq {f : AF} {s : FS} {n : Int} {l t : List Int} (h : WF f s) : WF f (s.Aq n l t) := ⟨by simp [FS.Aq, h.AO], by simp [FS.Aq, h.AQ], by simp [FS.Aq, h.AR], h.nd⟩
theorem aDk {s : FS} {n m : Int} {l t : List Int} {z : Ae} (h : idx s.AO n = some true) : idx (s.put m l t z).AO n = some true := by
 obtain ⟨j, rfl, hj, hlt⟩ := kU h
 apply qX
 simp only [FS.put]
 by_cases e : m.toNat = j
 ·subst e; rw [a0O (by simpa using hlt)]
 ·rw [a0N e]; exact hj
theorem aCP {x : Bool} {f : AF} {k : Nat} {s s' : FS} {n m : Int} {l : List Int} {z : Int} (h : aR x f k s m l z = some s') (h0 : idx s.AO n = some true) : idx s'.AO n = some true :=
 qG (R := fun s => idx s.AO n = some true) (fun _ _ _ _ _ _ _ _ h => aDk h) k s m l z s' h h0
theorem put_comm {s : FS} {n m : Int} {l t : List Int} {w z : Ae} (h : n.toNat ≠ m.toNat) : (s.nds n w).put m l t z = (s.put m l t z).nds n w := by
 simp only [FS.put, FS.nds]
 rw [List.set_comm _ _ h]
theorem rI {g : FS -> Int -> List Int -> Int -> Option FS} {n : Int} {w : Ae} (H : ∀ s m l z, idx s.AO n = some true -> g (s.nds n w) m l z = (g s m l z).bind fun s => some (s.nds n w)) (K : ∀ s m l z s', g s m l z = some s' -> idx s.AO n = some true -> idx s'.AO n = some true) :
  ∀ (ts : List (Option (Int × List Int × Int))) (s : FS), idx s.AO n = some true -> bV g (s.nds n w) ts = (bV g s ts).bind fun s => some (s.nds n w)
 | [], s, _ => rfl
 | none :: ts, s, _ => rfl
 | some t :: ts, s, h => by
  rw [bV, bV, H _ _ _ _ h];cases hq : g s t.1 t.2.1 t.2.2 with
  | none => rfl
  | some s1 => rw [bsm, bsm, bsm]; exact rI H K ts s1 (K _ _ _ _ _ hq h)
theorem aDw {x : Bool} {f : AF} {n : Int} {w : Ae} (hn : 0 <= n) : ∀ (k : Nat) (s : FS) (m : Int) (l : List Int) (z : Int), idx s.AO n = some true -> aR x f k (s.nds n w) m l z = (aR x f k s m l z).bind fun s => some (s.nds n w)
 | 0, _, _, _, _, _ => rfl
 | k + 1, s, m, l, z, h => by
  rw [aR, aR, show (s.nds n w).AO = s.AO from rfl];split
  ·rename_i hc;have hne : n.toNat ≠ m.toNat := fun e => by
    have : n = m := by omega
    subst this;rw [h] at hc; cases hc.2.2
   cases ey : idx f.AB m with
   | none => rfl
   | some y =>
    rw [bsm, bsm];split
    ·cases ew : opN y l (pick l y.AI) with
     | none => rfl
     | some u =>
      rw [bsm, bsm, put_comm hne];have h1 := aDk (m := m) (l := l) (t := pick l y.AI) (z := u) h;have H := aDw (x := x) (f := f) (w := w) hn k;have K : ∀ s m l z s', aR x f k s m l z = some s' -> idx s.AO n = some true -> idx s'.AO n = some true := fun s m l z s' h h0 => aCP h h0
      have KV : ∀ ts s s', bV (aR x f k) s ts = some s' -> idx s.AO n = some true -> idx s'.AO n = some true := fun ts s s' h h0 => oN (R := fun s => idx s.AO n = some true) (fun s m l z s' h h0 => K s m l z s' h h0) ts s s' h h0
      unfold fG;split
      ·cases ed : idx f.AC y.N with
       | none => rfl
       | some d =>
        rw [bsm, bsm];split
        ·rw [rI H K _ _ h1];cases q1 : bV (aR x f k) (s.put m l (pick l y.AI) u) (d.AS.map (dX x d (pick l y.AI ++ upto z (bA d)) (z + bA d))) with
         | none => rfl
         | some s1 =>
          have h2 := KV _ _ _ q1 h1;rw [bsm, bsm, bsm, rI H K _ _ h2];cases q2 : bV (aR x f k) s1 (d.AT.map fun p => some (p.Ab, pick l y.AI ++ upto z (bA d), z + bA d)) with
          | none => rfl
          | some s2 =>
           rw [bsm, bsm, bsm];exact rI H K _ _ (KV _ _ _ q2 h2)
        ·rfl
      ·exact rI H K _ _ h1
    ·rfl
  ·rfl
def cvR (f : AF) (s : FS) (sz : List Int) (b : Bool) : Ad := ⟨f, s.AO, s.AQ, sz, s.AR, ⟨f.AD, s.nd, [], f.AE⟩, b⟩
def OkR (o : Option FS) (s : FS) (b : Bool) : Prop := match o with
 | some t => s = t /\ b = false
 | none => b = true
theorem gA {s : FS} {b : Bool} (h : b = true) : OkR none s b := h
abbrev TupR := List ByteArray × List Int × List Ao × List AN × Int × List Bool × List (List Int) × List Int × List (List Int) × List ByteArray × List Ae × List AN × Int × Bool
def tupR (f : AF) (s : FS) (sz : List Int) (b : Bool) : TupR := (f.AD, f.AI, f.AB, f.AC, f.AE, s.AO, s.AQ, sz, s.AR, f.AD, s.nd, [], f.AE, b)
structure RV (f : AF) (k : Nat) (rec : Ad -> Int -> List Int -> Int -> Option Ad) : Prop where
 run : ∀ (s : FS) (sz : List Int) (n : Int) (l : List Int) (z : Int), WF f s -> sz.length = f.AB.length -> unF s <= k -> (l.length : Int) <= z -> z + 6000100 * k <= 400000000 ->
  ∃ s' sz' b, rec (cvR f s sz false) n l z = some (cvR f s' sz' b) /\ WF f s' /\ sz'.length = f.AB.length /\ OkR (aR true f k s n l z) s' b
section
variable {f : AF} {k : Nat} {rec : Ad -> Int -> List Int -> Int -> Option Ad}
theorem kidsR (hv : RV f k rec) {y : Ao} {l : List Int} {z : Int} (hl : (l.length : Int) <= z) (hz : z + 6000100 * k <= 400000000) (AH : List Int) : ∀ (AG : List Int) (K : Nat) (s : FS) (sz : List Int) (b : Bool), y.AU = AG ++ AH -> AH.length < K -> AG.length + AH.length <= 3000000 -> WF f s -> sz.length = f.AB.length -> unF s <= k ->
  ∃ s' sz' b', gP rec y z l K AG.length f.AD f.AI f.AB f.AC f.AE s.AO s.AQ sz s.AR f.AD s.nd [] f.AE b = some (cvR f s' sz' b') /\ WF f s' /\ sz'.length = f.AB.length /\ OkR (if b = true then none else bV (aR true f k) s (AH.map fun c => some (c, l, z))) s' b' := by
 induction AH with
 | nil =>
  intro AG K s sz b hd hk _ hs hsz hu;obtain _ | K := K
  ·omega
  refine ⟨s, sz, b, by rw [gP, hd, a1U (by simp)]; rfl, hs, hsz, ?_⟩
  cases b with
  | true => exact gA rfl
  | false => exact ⟨rfl, rfl⟩
 | cons e AH ih =>
  intro AG K s sz b hd hk hB hs hsz hu;obtain _ | K := K
  ·omega
  simp only [a0U] at hk hB;rw [gP, a1V (by rw [hd]; exact cD _ _ _)];cases b with
  | true => exact ⟨s, sz, true, rfl, hs, hsz, gA rfl⟩
  | false =>
   obtain ⟨s1, sz1, b1, h1, h2, h3, h4⟩ := hv.run s sz e l z hs hsz hu hl hz;rw [a1P, show idx y.AU (AG.length : Int) = some e from by rw [hd]; exact cI _ _ _, bsm, show rec (⟨(⟨f.AD, f.AI, f.AB, f.AC, f.AE⟩ : AF), s.AO, s.AQ, sz, s.AR, (⟨f.AD, s.nd, [], f.AE⟩ : AM), false⟩ : Ad) e l z = _ from h1, bsm, aU (by omega), bsm, bW];have hu1 : b1 = false -> unF s1 <= k := fun hb => by
    cases hq : aR true f k s e l z with
    | none => rw [hq] at h4; have h4 : b1 = true := h4; rw [hb] at h4; cases h4
    | some t => rw [hq] at h4; have := pL k _ _ _ _ _ hq; rw [h4.1]; omega
   cases b1 with
   | true =>
    have hq : aR true f k s e l z = none := by
     cases hq : aR true f k s e l z with
     | none => rfl
     | some t => rw [hq] at h4; cases h4.2
    refine ⟨s1, sz1, true, ?_, h2, h3, ?_⟩
    ·obtain _ | K := K
     ·omega
     dsimp only [cvR];rw [gP];split <;> rfl
    ·rw [a1U (by simp), a1a, bV, hq]; exact gA rfl
   | false =>
    obtain ⟨t, ht⟩ : ∃ t, aR true f k s e l z = some t := by
     cases hq : aR true f k s e l z with
     | none => rw [hq] at h4; cases h4
     | some t => exact ⟨t, rfl⟩
    rw [ht] at h4;have e1 := h4.1;subst e1;obtain ⟨s2, sz2, b2, g1, g2, g3, g4⟩ := ih (AG ++ [e]) K s1 sz1 false (by rw [hd, cG]) (by omega) (by simp; omega) h2 h3 (hu1 rfl)
    refine ⟨s2, sz2, b2, g1, g2, g3, ?_⟩;rw [a1U (by simp)] at g4 ⊢;rw [a1a, bV, ht, bsm]; exact g4
theorem spotsR (hv : RV f k rec) {d : AN} {l : List Int} {z : Int} {m : Int} (hm : 0 <= m) (hz0 : 0 <= z) (hl : (l.length : Int) <= z + m) (hz : z + m + 6000100 * k <= 400000000) (AH : List As) : ∀ (AG : List As) (K : Nat) (s : FS) (sz : List Int) (b : Bool), d.AT = AG ++ AH -> AH.length < K -> AG.length + AH.length <= 3000000 -> WF f s -> sz.length = f.AB.length -> unF s <= k ->
  ∃ s' sz' b', jQ rec d z m l K AG.length f.AD f.AI f.AB f.AC f.AE s.AO s.AQ sz s.AR f.AD s.nd [] f.AE b = some (tupR f s' sz' b') /\ WF f s' /\ sz'.length = f.AB.length /\ OkR (if b = true then none else bV (aR true f k) s (AH.map fun c => some (c.Ab, l, z + m))) s' b' := by
 induction AH with
 | nil =>
  intro AG K s sz b hd hk _ hs hsz hu;obtain _ | K := K
  ·omega
  refine ⟨s, sz, b, by rw [jQ, hd, a1U (by simp)]; rfl, hs, hsz, ?_⟩
  cases b with
  | true => exact gA rfl
  | false => exact ⟨rfl, rfl⟩
 | cons e AH ih =>
  intro AG K s sz b hd hk hB hs hsz hu;obtain _ | K := K
  ·omega
  simp only [a0U] at hk hB;rw [jQ, a1V (by rw [hd]; exact cD _ _ _)];cases b with
  | true => exact ⟨s, sz, true, rfl, hs, hsz, gA rfl⟩
  | false =>
   obtain ⟨s1, sz1, b1, h1, h2, h3, h4⟩ := hv.run s sz e.Ab l (z + m) hs hsz hu hl hz;rw [a1P, show idx d.AT (AG.length : Int) = some e from by rw [hd]; exact cI _ _ _, bsm, aU (by omega), bsm, show rec (⟨(⟨f.AD, f.AI, f.AB, f.AC, f.AE⟩ : AF), s.AO, s.AQ, sz, s.AR, (⟨f.AD, s.nd, [], f.AE⟩ : AM), false⟩ : Ad) e.Ab l (z + m) = _ from h1, bsm, aU (by omega), bsm, bW];have hu1 : b1 = false -> unF s1 <= k := fun hb => by
    cases hq : aR true f k s e.Ab l (z + m) with
    | none => rw [hq] at h4; have h4 : b1 = true := h4; rw [hb] at h4; cases h4
    | some t => rw [hq] at h4; have := pL k _ _ _ _ _ hq; rw [h4.1]; omega
   cases b1 with
   | true =>
    have hq : aR true f k s e.Ab l (z + m) = none := by
     cases hq : aR true f k s e.Ab l (z + m) with
     | none => rfl
     | some t => rw [hq] at h4; cases h4.2
    refine ⟨s1, sz1, true, ?_, h2, h3, ?_⟩
    ·obtain _ | K := K
     ·omega
     dsimp only [cvR];rw [jQ];split <;> rfl
    ·rw [a1U (by simp), a1a, bV, hq]; exact gA rfl
   | false =>
    obtain ⟨t, ht⟩ : ∃ t, aR true f k s e.Ab l (z + m) = some t := by
     cases hq : aR true f k s e.Ab l (z + m) with
     | none => rw [hq] at h4; cases h4
     | some t => exact ⟨t, rfl⟩
    rw [ht] at h4;have e1 := h4.1;subst e1;obtain ⟨s2, sz2, b2, g1, g2, g3, g4⟩ := ih (AG ++ [e]) K s1 sz1 false (by rw [hd, cG]) (by omega) (by simp; omega) h2 h3 (hu1 rfl)
    refine ⟨s2, sz2, b2, g1, g2, g3, ?_⟩;rw [a1U (by simp)] at g4 ⊢;rw [a1a, bV, ht, bsm]; exact g4
theorem aAY (d : AN) (ins : List Int) (z : Int) (r : Al) : dX true d ins z r = if r.Af.length <= 3 then (gT d.AP r.Af).bind fun k => some (r.Ab, ins ++ upto z k.toNat, z + k) else none := by
 unfold dX
 by_cases h : r.Af.length <= 3
 ·rw [a1V (fun _ => h), a1V h]
 ·rw [a1U (fun g => h (g rfl)), a1U h]
theorem rulesR (hv : RV f k rec) {AA : Nat} (hf : 10000000 < AA) {d : AN} {l : List Int} {z m : Int} (hm : 0 <= m) (hz0 : 0 <= z) (hl : (l.length : Int) <= z + m) (hz : z + m + 9 + 6000100 * k <= 400000000) (AH : List Al) : ∀ (AG : List Al) (K : Nat) (s : FS) (sz : List Int), d.AS = AG ++ AH -> AH.length < K -> AG.length + AH.length <= 3000000 -> (∀ r ∈ AH, r.Af.length <= 2000000) -> WF f s -> sz.length = f.AB.length -> unF s <= k ->
  ∃ s' sz' b r, kS AA rec d z m l K AG.length f.AD f.AI f.AB f.AC f.AE s.AO s.AQ sz s.AR f.AD s.nd [] f.AE false = some r /\ (r = .inl (tupR f s' sz' b) \/ b = true /\ r = .inr (cvR f s' sz' true, m)) /\ WF f s' /\ sz'.length = f.AB.length /\ OkR (bV (aR true f k) s (AH.map (dX true d l (z + m)))) s' b := by
 induction AH with
 | nil =>
  intro AG K s sz hd hk _ _ hs hsz hu;obtain _ | K := K
  ·omega
  exact ⟨s, sz, false, .inl (tupR f s sz false), by rw [kS, hd, a1U (by simp)]; rfl, .inl rfl, hs, hsz, rfl, rfl⟩
 | cons e AH ih =>
  intro AG K s sz hd hk hB hj hs hsz hu;obtain _ | K := K
  ·omega
  simp only [a0U] at hk hB;have hje := hj e (.head _);have hi : idx d.AS (AG.length : Int) = some e := by rw [hd]; exact cI _ _ _
  rw [kS, a1V (by rw [hd]; exact cD _ _ _), a1P, hi, bsm, show sY AA (⟨d.AP, d.AT, d.AS⟩ : AN) e = _ from bring_r (d := d) (r := e) (by omega) hje, bsm, a1a];have bad : dX true d l (z + m) e = none -> ∀ r : TupR ⊕ (Ad × Int), r = .inr (cvR f s sz true, m) -> ∃ (s' : FS) (sz' : List Int) (b : Bool) (r' : TupR ⊕ (Ad × Int)), some r = some r' /\ (r' = .inl (tupR f s' sz' b) \/ b = true /\ r' = .inr (cvR f s' sz' true, m)) /\ WF f s' /\ sz'.length = f.AB.length /\ OkR (bV (aR true f k) s (dX true d l (z + m) e :: AH.map (dX true d l (z + m)))) s' b := fun h r hr => by
   rw [h]; exact ⟨s, sz, true, r, rfl, .inr ⟨rfl, hr⟩, hs, hsz, gA rfl⟩
  by_cases hJ : e.Af.length <= 3
  ·rw [a1V hJ];cases hm2 : gT d.AP e.Af with
   | none => exact bad (by rw [aAY, a1V hJ, hm2]; rfl) _ rfl
   | some c =>
    have hml := zR hm2;rw [show dX true d l (z + m) e = some (e.Ab, l ++ upto (z + m) c.toNat, z + m + c) from by rw [aAY, a1V hJ, hm2, bsm]];obtain ⟨s1, sz1, b1, h1, h2, h3, h4⟩ := hv.run s sz e.Ab (l ++ upto (z + m) c.toNat) (z + m + c) hs hsz hu (by rw [a0T, gC]; omega) (by omega)
    dsimp only
    rw [a1U (by omega), bsm, aU (by omega), bsm, aAJ (by omega) hml.1 (by omega) (by omega), bsm, bsm, aU (by omega), bsm, show rec (⟨(⟨f.AD, f.AI, f.AB, f.AC, f.AE⟩ : AF), s.AO, s.AQ, sz, s.AR, (⟨f.AD, s.nd, [], f.AE⟩ : AM), false⟩ : Ad) e.Ab (l ++ upto (z + m) c.toNat) (z + m + c) = _ from h1, bsm, aU (by omega), bsm, bW];have hu1 : b1 = false -> unF s1 <= k := fun hb => by
     cases hq : aR true f k s e.Ab (l ++ upto (z + m) c.toNat) (z + m + c) with
     | none => rw [hq] at h4; have h4 : b1 = true := h4; rw [hb] at h4; cases h4
     | some t => rw [hq] at h4; have := pL k _ _ _ _ _ hq; rw [h4.1]; omega
    cases b1 with
    | true =>
     have hq : aR true f k s e.Ab (l ++ upto (z + m) c.toNat) (z + m + c) = none := by
      cases hq : aR true f k s e.Ab (l ++ upto (z + m) c.toNat) (z + m + c) with
      | none => rfl
      | some t => rw [hq] at h4; cases h4.2
     refine ⟨s1, sz1, true, .inl (tupR f s1 sz1 true), ?_, .inl rfl, h2, h3, ?_⟩
     ·obtain _ | K := K
      ·omega
      dsimp only [cvR];rw [kS];split <;> rfl
     ·rw [bV]; dsimp only; rw [hq]; exact gA rfl
    | false =>
     obtain ⟨t, ht⟩ : ∃ t, aR true f k s e.Ab (l ++ upto (z + m) c.toNat) (z + m + c) = some t := by
      cases hq : aR true f k s e.Ab (l ++ upto (z + m) c.toNat) (z + m + c) with
      | none => rw [hq] at h4; cases h4
      | some t => exact ⟨t, rfl⟩
     rw [ht] at h4;have e1 := h4.1;subst e1;obtain ⟨s2, sz2, b2, r, g0, g1, g2, g3, g4⟩ := ih (AG ++ [e]) K s1 sz1 (by rw [hd, cG]) (by omega) (by simp; omega) (fun r hr => hj r (.tail _ hr)) h2 h3 (hu1 rfl)
     refine ⟨s2, sz2, b2, r, g0, g1, g2, g3, ?_⟩;rw [bV]; dsimp only; rw [ht, bsm]; exact g4
  ·rw [a1U hJ];exact bad (by rw [aAY, a1U hJ]) _ rfl
end
open Go.SX Go.SW Go.Dt
def aBw (AA : Nat) (a0 : Ad) (a1 : Int) (a2 : List Int) (a3 : Int) (y5 : Ao) (y7 : List Int) (x2 : List AW) (z1 : List Int) : Option Ad :=
     (if y5.Op = 2 then
      (if y5.N < 0 then
       some true
      else
       some (decide ((a2.length : Int) <= y5.N))).bind fun x24 =>
      bif x24 then
       some (a3, a2, a0.f.AD, a0.f.AI, a0.f.AB, a0.f.AC, a0.f.AE, a0.AO.set a1.toNat true, a0.AQ.set a1.toNat a2, a0.AV.set a1.toNat a3, a0.AR.set a1.toNat y7, a0.p.AD, a0.p.AB, a0.p.AC, a0.p.AE, x24, y5.N)
      else
       (idx a2 y5.N).bind fun y13 =>
       some (a3, a2, a0.f.AD, a0.f.AI, a0.f.AB, a0.f.AC, a0.f.AE, a0.AO.set a1.toNat true, a0.AQ.set a1.toNat a2, a0.AV.set a1.toNat a3, a0.AR.set a1.toNat y7, a0.p.AD, a0.p.AB, a0.p.AC, a0.p.AE, x24, y13)
     else
      (if y5.Op = 6 then
       some (decide (y5.Op = 6))
      else
       some (decide (y5.Op = 8))).bind fun x25 =>
      bif x25 then
       (if y5.N < 0 then
        some true
       else
        some (decide ((y7.length : Int) <= y5.N))).bind fun x26 =>
       (bif x26 then
        some y5.N
       else
        (idx y7 y5.N).bind fun y14 =>
        some y14).bind fun x27 =>
       some (a3, y7, a0.f.AD, a0.f.AI, a0.f.AB, a0.f.AC, a0.f.AE, a0.AO.set a1.toNat true, a0.AQ.set a1.toNat a2, a0.AV.set a1.toNat a3, a0.AR.set a1.toNat y7, a0.p.AD, a0.p.AB, a0.p.AC, a0.p.AE, x26, x27)
      else
       if y5.Op = 4 then
        (if y5.N < 0 then
         some true
        else
         some (decide ((a0.f.AC.length : Int) <= y5.N))).bind fun x28 =>
        bif x28 then
         some (a3, a2, a0.f.AD, a0.f.AI, a0.f.AB, a0.f.AC, a0.f.AE, a0.AO.set a1.toNat true, a0.AQ.set a1.toNat a2, a0.AV.set a1.toNat a3, a0.AR.set a1.toNat y7, a0.p.AD, a0.p.AB, a0.p.AC, a0.p.AE, x28, y5.N)
        else
         (idx a0.f.AC y5.N).bind fun y15 =>
         ((oR AA) (⟨(⟨a0.f.AD, a0.f.AI, a0.f.AB, a0.f.AC, a0.f.AE⟩ : AF), a0.AO.set a1.toNat true, a0.AQ.set a1.toNat a2, a0.AV.set a1.toNat a3, a0.AR.set a1.toNat y7, (⟨a0.p.AD, a0.p.AB, a0.p.AC, a0.p.AE⟩ : AM), x28⟩ : Ad) y15 y7 a3).bind fun y16 =>
         (oS AA a2 a3 y16.2).bind fun y17 =>
         (chk (a3 + y16.2)).bind fun z4 =>
         some (z4, y17, y16.1.f.AD, y16.1.f.AI, y16.1.f.AB, y16.1.f.AC, y16.1.f.AE, y16.1.AO, y16.1.AQ, y16.1.AV, y16.1.AR, y16.1.p.AD, y16.1.p.AB, y16.1.p.AC, y16.1.p.AE, y16.1.bad, y5.N)
       else
        some (a3, a2, a0.f.AD, a0.f.AI, a0.f.AB, a0.f.AC, a0.f.AE, a0.AO.set a1.toNat true, a0.AQ.set a1.toNat a2, a0.AV.set a1.toNat a3, a0.AR.set a1.toNat y7, a0.p.AD, a0.p.AB, a0.p.AC, a0.p.AE, a0.bad, y5.N)).bind fun (x7, x8, x9, x10, x11, x12, x13, x14, x15, x16, x17, x18, x19, x20, x21, x22, x23) =>
     (idx x19 a1).bind fun y18 =>
     gP (dW AA) y5 x7 x8 AA 0 x9 x10 x11 x12 x13 x14 x15 x16 x17 x18 (x19.set a1.toNat (⟨y5.Op, x23, x2, z1⟩ : Ae)) x20 x21 x22
theorem defR_S {f : AF} {k AA : Nat} (hv : RV f k (dW AA)) (hf : 10000000 < AA) {s : FS} {sz tk : List Int} {z : Int} {d : AN} (hd : smD d) (ht : (tk.length : Int) <= z) (hz : z + 6000100 * (k + 1) <= 400000000) (hs : WF f s) (hsz : sz.length = f.AB.length) (hu : unF s <= k) :
  ∃ s' sz' b m, oR (AA + 1) (cvR f s sz false) d tk z = some (cvR f s' sz' b, m) /\ (0 <= m /\ m <= 60) /\ (b = false -> m = bA d /\ kC d) /\ WF f s' /\ sz'.length = f.AB.length /\
   (kC d -> OkR ((bV (aR true f k) s (d.AS.map (dX true d (tk ++ upto z (bA d)) (z + bA d)))).bind fun s => bV (aR true f k) s (d.AT.map fun p => some (p.Ab, tk ++ upto z (bA d), z + bA d))) s' b) /\ (¬ kC d -> b = true) := by
 obtain ⟨m1, m2, m3, m4⟩ := hd
 rw [oR]
 have bad : ¬ kC d -> ∃ s' sz' b m, (some (cvR f s sz true, (0 : Int)) : Option (Ad × Int)) = some (cvR f s' sz' b, m) /\ (0 <= m /\ m <= 60) /\ (b = false -> m = bA d /\ kC d) /\ WF f s' /\ sz'.length = f.AB.length /\
   (kC d -> OkR ((bV (aR true f k) s (d.AS.map (dX true d (tk ++ upto z (bA d)) (z + bA d)))).bind fun s => bV (aR true f k) s (d.AT.map fun p => some (p.Ab, tk ++ upto z (bA d), z + bA d))) s' b) /\ (¬ kC d -> b = true) := fun h =>
  ⟨s, sz, true, 0, rfl, by omega, (fun h => by cases h), hs, hsz, fun g => absurd g h, fun _ => rfl⟩
 by_cases c1 : 30 < (d.AP.length : Int)
 ·rw [a1V c1]; exact bad fun h => by have := h.1; omega
 rw [a1U c1]
 by_cases c2 : 30 < (d.AT.length : Int)
 ·rw [a1V c2]; exact bad fun h => by have := h.2.1; omega
 rw [a1U c2]
 by_cases c3 : 30 < (d.AS.length : Int)
 ·rw [a1V c3]; exact bad fun h => by have := h.2.2; omega
 rw [a1U c3]
 have hlim : kC d := ⟨by omega, by omega, by omega⟩
 have ho : bA d <= 60 := by unfold bA; omega
 obtain ⟨s1, sz1, b1, r1, g0, g1, g2, g3, g4⟩ := rulesR hv (AA := AA) hf (d := d) (l := tk ++ upto z (bA d)) (z := z) (m := bA d) (by omega) (by omega) (by rw [a0T, gC]; omega) (by omega) d.AS [] AA s sz rfl (by omega) (by simp; omega) m4 hs hsz hu
 rw [show chk ((d.AP.length : Int) + (d.AT.length : Int)) = some (bA d : Int) from by rw [aU (by omega)]; simp [bA], bsm, aAJ (by omega) (by omega) (by omega) (by omega), bsm, a0r,
  show kS AA (dW AA) d z (bA d) (tk ++ upto z (bA d)) AA 0 (cvR f s sz false).f.AD (cvR f s sz false).f.AI (cvR f s sz false).f.AB (cvR f s sz false).f.AC (cvR f s sz false).f.AE (cvR f s sz false).AO (cvR f s sz false).AQ (cvR f s sz false).AV (cvR f s sz false).AR (cvR f s sz false).p.AD (cvR f s sz false).p.AB (cvR f s sz false).p.AC (cvR f s sz false).p.AE (cvR f s sz false).bad = _ from g0, bsm]
 rcases g1 with rfl | ⟨rfl, rfl⟩
 ·dsimp only [tupR];have hu1 : b1 = false -> unF s1 <= k := fun hb => by
   cases hq : bV (aR true f k) s (d.AS.map (dX true d (tk ++ upto z (bA d)) (z + bA d))) with
   | none => rw [hq] at g4; have g4 : b1 = true := g4; rw [hb] at g4; cases g4
   | some t => rw [hq] at g4; rw [g4.1]; exact (vD hq hs hu).2
  cases b1 with
  | true =>
   have hq : bV (aR true f k) s (d.AS.map (dX true d (tk ++ upto z (bA d)) (z + bA d))) = none := by
    cases hq : bV (aR true f k) s (d.AS.map (dX true d (tk ++ upto z (bA d)) (z + bA d))) with
    | none => rfl
    | some t => rw [hq] at g4; cases g4.2
   refine ⟨s1, sz1, true, bA d, ?_, by omega, (fun h => by cases h), g2, g3, fun _ => by rw [hq]; exact gA rfl, fun _ => rfl⟩
   obtain _ | AA := AA
   ·omega
   rw [jQ];split <;> rfl
  | false =>
   obtain ⟨t, ht⟩ : ∃ t, bV (aR true f k) s (d.AS.map (dX true d (tk ++ upto z (bA d)) (z + bA d))) = some t := by
    cases hq : bV (aR true f k) s (d.AS.map (dX true d (tk ++ upto z (bA d)) (z + bA d))) with
    | none => rw [hq] at g4; cases g4
    | some t => exact ⟨t, rfl⟩
   rw [ht] at g4;have e1 := g4.1;subst e1;obtain ⟨s2, sz2, b2, q1, q2, q3, q4⟩ := spotsR hv (d := d) (l := tk ++ upto z (bA d)) (z := z) (m := bA d) (by omega) (by omega) (by rw [a0T, gC]; omega) (by omega) d.AT [] AA s1 sz1 false rfl (by omega) (by simp; omega) g2 g3 (hu1 rfl)
   rw [show jQ (dW AA) d z (bA d) (tk ++ upto z (bA d)) AA 0 f.AD f.AI f.AB f.AC f.AE s1.AO s1.AQ sz1 s1.AR f.AD s1.nd [] f.AE false = _ from q1, bsm];refine ⟨s2, sz2, b2, bA d, rfl, by omega, fun _ => ⟨rfl, hlim⟩, q2, q3, fun _ => by rw [ht, bsm]; rw [a1U (by simp)] at q4; exact q4, fun h => absurd hlim h⟩
 ·refine ⟨s1, sz1, true, bA d, rfl, by omega, (fun h => by cases h), g2, g3, fun _ => ?_, fun _ => rfl⟩
  cases hq : bV (aR true f k) s (d.AS.map (dX true d (tk ++ upto z (bA d)) (z + bA d))) with
  | none => exact gA rfl
  | some t => rw [hq] at g4; cases g4.2
theorem argsRF {f : AF} {AA : Nat} (hf : 10000000 < AA) {s : FS} {sz : List Int} {n : Int} {l tk : List Int} {z : Int} {y : Ao} (AH : List AW) : ∀ (AG acc : List AW) (K : Nat), y.Aa = AG ++ AH -> AH.length < K -> AG.length + AH.length <= 3000000 -> acc.length + AH.length <= 3000000 -> (∀ e ∈ AH, nE e <= 2000000) ->
  ∃ r, lX AA (cvR f s sz false) n l z y tk K AG.length acc = some r /\ (AH.all (okE l.length) = true -> ∃ a, opL l AH = some a /\ r = .inl (acc ++ a)) /\ (AH.all (okE l.length) = false -> r = .inr (cvR f (s.Aq n l tk) (sz.set n.toNat z) true)) := by
 induction AH with
 | nil =>
  intro AG acc K hd hk _ _ _;obtain _ | K := K
  ·omega
  exact ⟨_, by rw [lX, hd, a1U (by simp)], fun _ => ⟨[], by rw [opL], by simp⟩, fun h => by simp at h⟩
 | cons e AH ih =>
  intro AG acc K hd hk hB hA he;obtain _ | K := K
  ·omega
  simp only [a0U] at hk hB hA;have h0 := he e (.head _);have hi : idx y.Aa (AG.length : Int) = some e := by rw [hd]; exact cI _ _ _
  rw [lX, a1V (by rw [hd]; exact cD _ _ _), hi, bsm, aDU (by omega) (by omega), bsm];cases hk2 : okE l.length e with
  | false => exact ⟨_, rfl, fun h => by simp [hk2] at h, fun _ => rfl⟩
  | true =>
   obtain ⟨e', he'⟩ := open_ok.1 e l (by simp only [okE, a0j] at hk2; exact hk2.1.1)
   obtain ⟨r, g1, g2, g3⟩ := ih (AG ++ [e]) (acc ++ [e']) K (by rw [hd, cG]) (by omega) (by simp; omega) (by simp; omega) (fun x hx => he x (.tail _ hx))
   refine ⟨r, ?_, fun h => ?_, fun h => ?_⟩
   ·rw [a1Q, bsm, exp_r AA e e' l (by omega) h0 he', bsm, eJ (by simp; omega), bsm, aU (by omega), bsm, bW]; exact g1
   ·rw [List.all_cons, hk2, a0p] at h;obtain ⟨a, h1, h2⟩ := g2 h;exact ⟨e' :: a, by rw [opL, he', bsm, h1, bsm], by rw [h2]; simp⟩
   ·rw [List.all_cons, hk2, a0p] at h;exact g3 h
theorem aH7 {f : AF} {k AA : Nat} (hm : SmF f) (hv1 : RV f k (dW (AA + 1))) (hv0 : RV f k (dW AA)) (hf : 10000000 < AA) {s : FS} {sz : List Int} {n : Int} {l tk : List Int} {z : Int} {y : Ao} {a : List AW}
  (hl : (l.length : Int) <= z) (ht : (tk.length : Int) <= z) (hz : z + 6000100 * (k + 1) <= 400000000) (hy : idx f.AB n = some y) (hs : WF f s) (hsz : sz.length = f.AB.length) (hsn : idx s.AO n = some false) (hu : unF s <= k + 1) :
  ∃ s' sz' b, aBw (AA + 1) (cvR f s sz false) n l z y tk a y.AU = some (cvR f s' sz' b) /\ WF f s' /\ sz'.length = f.AB.length /\ OkR ((opI y l tk).bind fun m => fG true f (aR true f k) (s.put n l tk ⟨y.Op, m, a, y.AU⟩) y l tk z) s' b := by
 have hin := lW hy
 have hky := (hm.args y (fJ hy)).2.1
 have hpu : unF (s.Aq n l tk) <= k := by
  have := aBo (l := l) (t := tk) (z := rH) hsn;have e : unF (s.put n l tk rH) = unF (s.Aq n l tk) := rfl;omega
 have hps : WF f (s.Aq n l tk) := hs.Aq
 have hsz' : (sz.set n.toNat z).length = f.AB.length := by simp [hsz]
 have hseen : idx (s.Aq n l tk).AO n = some true := aBs hsn
 have fin : ∀ (S : FS) (SZ : List Int) (b : Bool) (z' : Int) (l' : List Int) (N' : Int), WF f S -> SZ.length = f.AB.length -> (b = false -> unF S <= k) -> (l'.length : Int) <= z' -> z' + 6000100 * k <= 400000000 ->
   ∃ s' sz' b', ((idx S.nd n).bind fun y18 => gP (dW (AA + 1)) y z' l' (AA + 1) 0 f.AD f.AI f.AB f.AC f.AE S.AO S.AQ SZ S.AR f.AD (S.nd.set n.toNat (⟨y.Op, N', a, y.AU⟩ : Ae)) [] f.AE b) = some (cvR f s' sz' b') /\ WF f s' /\ sz'.length = f.AB.length /\
    OkR (if b = true then none else bV (aR true f k) (S.nds n ⟨y.Op, N', a, y.AU⟩) (y.AU.map fun c => some (c, l', z'))) s' b' := fun S SZ b z' l' N' hS hSZ hU hl' hz' => by
  obtain ⟨w0, hw0⟩ := fC (xs := S.nd) (i := n) hin.1 (by rw [hS.nd]; exact hin.2)
  rw [hw0, bsm];cases b with
  | true =>
   refine ⟨S.nds n ⟨y.Op, N', a, y.AU⟩, SZ, true, ?_, hS.nds, hSZ, gA rfl⟩;rw [gP];split <;> rfl
  | false => exact kidsR hv1 hl' hz' y.AU [] (AA + 1) (S.nds n ⟨y.Op, N', a, y.AU⟩) SZ false rfl (by omega) (by simp; omega) hS.nds hSZ (hU rfl)
 unfold aBw
 by_cases h2 : y.Op = 2
 ·rw [a1V h2];have hI : opI y l tk = idx l y.N := by unfold opI; rw [a1V h2]
  have hbad : idx l y.N = none -> ∃ s' sz' b', ((idx (s.Aq n l tk).nd n).bind fun y18 => gP (dW (AA + 1)) y z l (AA + 1) 0 f.AD f.AI f.AB f.AC f.AE (s.Aq n l tk).AO (s.Aq n l tk).AQ (sz.set n.toNat z) (s.Aq n l tk).AR f.AD ((s.Aq n l tk).nd.set n.toNat (⟨y.Op, y.N, a, y.AU⟩ : Ae)) [] f.AE true) = some (cvR f s' sz' b') /\ WF f s' /\ sz'.length = f.AB.length /\ OkR ((opI y l tk).bind fun m => fG true f (aR true f k) (s.put n l tk ⟨y.Op, m, a, y.AU⟩) y l tk z) s' b' := fun hno => by
   rw [hI, hno];exact fin (s.Aq n l tk) (sz.set n.toNat z) true z l y.N hps hsz' (fun h => by cases h) hl (by omega)
  by_cases c1 : y.N < 0
  ·rw [a1V c1];exact hbad (by unfold idx; rw [a1U (by omega)])
  rw [a1U c1];by_cases c2 : (l.length : Int) <= y.N
  ·rw [a1S c2];refine hbad ?_;cases hi : idx l y.N with
   | none => rfl
   | some y => have := lW hi; omega
  ·obtain ⟨m, hmm⟩ := fC (xs := l) (i := y.N) (by omega) (by omega)
   rw [a1R c2, bsm, a1P, hmm, bsm, bsm, hI, hmm, bsm];obtain ⟨s', sz', b', q1, q2, q3, q4⟩ := fin (s.Aq n l tk) (sz.set n.toNat z) false z l m hps hsz' (fun _ => hpu) hl (by omega)
   refine ⟨s', sz', b', q1, q2, q3, ?_⟩;unfold fG;rw [a1U (by omega), show fF y l tk = l from by unfold fF; rw [a1U (by omega)]];exact q4
 rw [a1U h2]
 by_cases h68 : y.Op = 6 \/ y.Op = 8
 ·have hI : opI y l tk = idx tk y.N := by unfold opI; rw [a1U h2, a1V h68]
  have hx : (if y.Op = 6 then some (decide (y.Op = 6)) else some (decide (y.Op = 8)) : Option Bool) = some true := by
   by_cases h6 : y.Op = 6
   ·rw [a1V h6, a1S h6]
   ·rw [a1U h6, a1S (by omega)]
  rw [hx, bsm, a1Q];have hbad : idx tk y.N = none -> ∃ s' sz' b', ((idx (s.Aq n l tk).nd n).bind fun y18 => gP (dW (AA + 1)) y z tk (AA + 1) 0 f.AD f.AI f.AB f.AC f.AE (s.Aq n l tk).AO (s.Aq n l tk).AQ (sz.set n.toNat z) (s.Aq n l tk).AR f.AD ((s.Aq n l tk).nd.set n.toNat (⟨y.Op, y.N, a, y.AU⟩ : Ae)) [] f.AE true) = some (cvR f s' sz' b') /\ WF f s' /\ sz'.length = f.AB.length /\ OkR ((opI y l tk).bind fun m => fG true f (aR true f k) (s.put n l tk ⟨y.Op, m, a, y.AU⟩) y l tk z) s' b' := fun hno => by
   rw [hI, hno];exact fin (s.Aq n l tk) (sz.set n.toNat z) true z tk y.N hps hsz' (fun h => by cases h) ht (by omega)
  by_cases c1 : y.N < 0
  ·rw [a1V c1];exact hbad (by unfold idx; rw [a1U (by omega)])
  rw [a1U c1];by_cases c2 : (tk.length : Int) <= y.N
  ·rw [a1S c2];refine hbad ?_;cases hi : idx tk y.N with
   | none => rfl
   | some y => have := lW hi; omega
  ·obtain ⟨m, hmm⟩ := fC (xs := tk) (i := y.N) (by omega) (by omega)
   rw [a1R c2, bsm, a1P, hmm, bsm, bsm, bsm, hI, hmm, bsm];obtain ⟨s', sz', b', q1, q2, q3, q4⟩ := fin (s.Aq n l tk) (sz.set n.toNat z) false z tk m hps hsz' (fun _ => hpu) ht (by omega)
   refine ⟨s', sz', b', q1, q2, q3, ?_⟩;unfold fG;rw [a1U (by omega), show fF y l tk = tk from by unfold fF; rw [a1V h68]];exact q4
 have hI : opI y l tk = some y.N := by unfold opI; rw [a1U h2, a1U h68]
 have hx : (if y.Op = 6 then some (decide (y.Op = 6)) else some (decide (y.Op = 8)) : Option Bool) = some false := by
  rw [a1U (by omega), a1R (by omega)]
 rw [hx, bsm, a1P, hI, bsm]
 by_cases h4 : y.Op = 4
 ·rw [a1V h4];have hbad : idx f.AC y.N = none -> ∃ s' sz' b', ((idx (s.Aq n l tk).nd n).bind fun y18 => gP (dW (AA + 1)) y z l (AA + 1) 0 f.AD f.AI f.AB f.AC f.AE (s.Aq n l tk).AO (s.Aq n l tk).AQ (sz.set n.toNat z) (s.Aq n l tk).AR f.AD ((s.Aq n l tk).nd.set n.toNat (⟨y.Op, y.N, a, y.AU⟩ : Ae)) [] f.AE true) = some (cvR f s' sz' b') /\ WF f s' /\ sz'.length = f.AB.length /\ OkR (fG true f (aR true f k) (s.put n l tk ⟨y.Op, y.N, a, y.AU⟩) y l tk z) s' b' := fun hno => by
   unfold fG;rw [a1V h4, hno];exact fin (s.Aq n l tk) (sz.set n.toNat z) true z l y.N hps hsz' (fun h => by cases h) hl (by omega)
  by_cases c1 : y.N < 0
  ·rw [a1V c1];exact hbad (by unfold idx; rw [a1U (by omega)])
  rw [a1U c1];by_cases c2 : (f.AC.length : Int) <= y.N
  ·rw [show decide (((cvR f s sz false).f.AC.length : Int) <= y.N) = true from a1S c2];refine hbad ?_;cases hi : idx f.AC y.N with
   | none => rfl
   | some y => have := lW hi; omega
  ·obtain ⟨d, hd⟩ := fC (xs := f.AC) (i := y.N) (by omega) (by omega)
   obtain ⟨S, SZ, b, m, g1, g2, g3, g4, g5, g6, g7⟩ := defR_S hv0 hf (s := s.Aq n l tk) (sz := sz.set n.toNat z) (tk := tk) (hm.AY d (fJ hd)) ht hz hps hsz' hpu;rw [show decide (((cvR f s sz false).f.AC.length : Int) <= y.N) = false from a1R c2, bsm, a1P, show idx (cvR f s sz false).f.AC y.N = some d from hd, bsm,
    show oR (AA + 1) (⟨(⟨(cvR f s sz false).f.AD, (cvR f s sz false).f.AI, (cvR f s sz false).f.AB, (cvR f s sz false).f.AC, (cvR f s sz false).f.AE⟩ : AF), (cvR f s sz false).AO.set n.toNat true, (cvR f s sz false).AQ.set n.toNat l, (cvR f s sz false).AV.set n.toNat z, (cvR f s sz false).AR.set n.toNat tk, (⟨(cvR f s sz false).p.AD, (cvR f s sz false).p.AB, (cvR f s sz false).p.AC, (cvR f s sz false).p.AE⟩ : AM), false⟩ : Ad) d tk z = _ from g1, bsm,
    aAJ (by omega) g2.1 (by omega) (by omega), bsm, aU (by omega), bsm, bsm]
   have hU : b = false -> unF S <= k := fun hb => by
    have g8 := g6 (g3 hb).2;cases q1 : bV (aR true f k) (s.Aq n l tk) (d.AS.map (dX true d (tk ++ upto z (bA d)) (z + bA d))) with
    | none => rw [q1] at g8; have g8 : b = true := g8; rw [hb] at g8; cases g8
    | some s1 =>
     rw [q1, bsm] at g8;obtain ⟨w1, u1⟩ := vD q1 hps hpu;cases q2 : bV (aR true f k) s1 (d.AT.map fun p => some (p.Ab, tk ++ upto z (bA d), z + bA d)) with
     | none => rw [q2] at g8; have g8 : b = true := g8; rw [hb] at g8; cases g8
     | some s2 => rw [q2] at g8; rw [g8.1]; exact (vD q2 w1 u1).2
   obtain ⟨s', sz', b', q1, q2, q3, q4⟩ := fin S SZ b (z + m) (l ++ upto z m.toNat) y.N g4 g5 hU (by rw [a0T, gC]; omega) (by omega)
   refine ⟨s', sz', b', q1, q2, q3, ?_⟩;have H := fun (s : FS) (m : Int) (l : List Int) (z : Int) (h : idx s.AO n = some true) => aDw (x := true) (f := f) (w := ⟨y.Op, y.N, a, y.AU⟩) hin.1 k s m l z h
   have K : ∀ (s : FS) (m : Int) (l : List Int) (z : Int) (s' : FS), aR true f k s m l z = some s' -> idx s.AO n = some true -> idx s'.AO n = some true := fun s m l z s' h h0 => aCP h h0
   unfold fG;rw [a1V h4, hd, bsm];by_cases hL : kC d
   ·rw [a1V (fun _ => hL), put_nds, rI H K _ _ hseen];have g8 := g6 hL;cases r1 : bV (aR true f k) (s.Aq n l tk) (d.AS.map (dX true d (tk ++ upto z (bA d)) (z + bA d))) with
    | none =>
     rw [r1] at g8; have g8 : b = true := g8; subst g8
     exact q4
    | some s1 =>
     rw [r1, bsm] at g8;have hs1 := oN (R := fun s => idx s.AO n = some true) (fun s m l z s' h h0 => K s m l z s' h h0) _ _ _ r1 hseen
     rw [bsm, bsm, rI H K _ _ hs1];cases r2 : bV (aR true f k) s1 (d.AT.map fun p => some (p.Ab, tk ++ upto z (bA d), z + bA d)) with
     | none =>
      rw [r2] at g8; have g8 : b = true := g8; subst g8
      exact q4
     | some s2 =>
      rw [r2] at g8;obtain ⟨e1, e2⟩ := g8;subst e1; subst e2
      have hmo := (g3 rfl).1;subst hmo;rw [bsm, bsm];rw [a1U (by simp), a0r] at q4;exact q4
   ·have hb := g7 hL;subst hb;rw [a1U (fun h => hL (h rfl))];exact q4
 ·rw [a1U h4, bsm];obtain ⟨s', sz', b', q1, q2, q3, q4⟩ := fin (s.Aq n l tk) (sz.set n.toNat z) false z l y.N hps hsz' (fun _ => hpu) hl (by omega)
  refine ⟨s', sz', b', q1, q2, q3, ?_⟩;unfold fG;rw [a1U h4, show fF y l tk = l from by unfold fF; rw [a1U h68]];exact q4
open Go.SX Go.SW Go.Dt
theorem rnode {f : AF} {k AA : Nat} (hm : SmF f) (hv1 : RV f k (dW (AA + 1))) (hv0 : RV f k (dW AA)) (hf : 10000000 < AA) : RV f (k + 1) (dW (AA + 2)) := by
 refine ⟨fun s sz n l z hs hsz hu hl hz => ?_⟩
 rw [dW, show (cvR f s sz false).bad = false from rfl, a1P]
 by_cases c1 : n < 0
 ·rw [a1V c1, aR, a1U (by omega)];exact ⟨s, sz, true, rfl, hs, hsz, gA rfl⟩
 rw [a1U c1]
 by_cases c2 : (f.AB.length : Int) <= n
 ·rw [a1V (show ((cvR f s sz false).f.AB.length : Int) <= n from c2), aR, a1U (by omega)];exact ⟨s, sz, true, rfl, hs, hsz, gA rfl⟩
 rw [a1U (show ¬ ((cvR f s sz false).f.AB.length : Int) <= n from c2)]
 obtain ⟨q, hq⟩ := fC (xs := s.AO) (i := n) (by omega) (by rw [hs.AO]; omega)
 obtain ⟨l0, hl0⟩ := fC (xs := s.AQ) (i := n) (by omega) (by rw [hs.AQ]; omega)
 obtain ⟨t0, ht0⟩ := fC (xs := s.AR) (i := n) (by omega) (by rw [hs.AR]; omega)
 obtain ⟨z0, hz0⟩ := fC (xs := sz) (i := n) (by omega) (by rw [hsz]; omega)
 obtain ⟨y, hy⟩ := fC (xs := f.AB) (i := n) (by omega) (by omega)
 rw [show idx (cvR f s sz false).AO n = some q from hq, bsm]
 cases q with
 | true =>
  rw [a1Q, aR, a1U (by rw [hq]; rintro ⟨_, _, h⟩; cases h)];exact ⟨s, sz, true, rfl, hs, hsz, gA rfl⟩
 | false =>
  have hfv : iP true y l -> aR true f (k + 1) s n l z = (opN y l (pick l y.AI)).bind fun w => fG true f (aR true f k) (s.put n l (pick l y.AI) w) y l (pick l y.AI) z := fun h => by
   rw [aR, a1V ⟨by omega, by omega, hq⟩, hy, bsm, a1V h]
  have hfn : ¬ iP true y l -> aR true f (k + 1) s n l z = none := fun h => by
   rw [aR, a1V ⟨by omega, by omega, hq⟩, hy, bsm, a1U h]
  have hbad : ∀ (S : FS) (SZ : List Int), WF f S -> SZ.length = f.AB.length -> ¬ iP true y l -> ∃ s' sz' b, (some (cvR f S SZ true) : Option Ad) = some (cvR f s' sz' b) /\ WF f s' /\ sz'.length = f.AB.length /\ OkR (aR true f (k + 1) s n l z) s' b := fun S SZ h1 h2 h3 => by
   rw [hfn h3]; exact ⟨S, SZ, true, rfl, h1, h2, gA rfl⟩
  have hsz' : (sz.set n.toNat z).length = f.AB.length := by simp [hsz]
  have hS0 : WF f ⟨s.AO.set n.toNat true, s.AQ.set n.toNat l, s.AR, s.nd⟩ := ⟨by simp [hs.AO], by simp [hs.AQ], hs.AR, hs.nd⟩
  have hT := hm.takes y (fJ hy);obtain ⟨a1, a2, a3⟩ := hm.args y (fJ hy);have hx1 : (if y.Op = 4 then some true else if y.Op = 6 then some true else if y.Op = 7 then some true else some (decide (y.Op = 8)) : Option Bool) = some (jK y.Op) := by
   have := aEm y.Op;rw [tK] at this;cases hq : (if y.Op = 4 then some true else if y.Op = 6 then some true else if y.Op = 7 then some true else some (decide (y.Op = 8)) : Option Bool) with
   | none => rw [hq] at this; cases this
   | some b => rw [hq] at this; exact this
  rw [a1P, bsm, show idx (cvR f s sz false).AQ n = some l0 from hl0, bsm, show idx (cvR f s sz false).AV n = some z0 from hz0, bsm, show idx (cvR f s sz false).f.AB n = some y from hy, bsm, hx1, bsm, aDh (l := y.AI) (b := l.length) (by omega) (by omega), bsm];by_cases hr : dO l.length none y.AI = true
  ·rw [hr, a0o, a1P];have hpl : (pick l y.AI).length <= l.length := by
    rw [aBR]; have := tU (b := l.length) (by omega) hr; omega
   have hnA : 3 < (y.Aa.length : Int) -> ¬ iP true y l := fun h g => by have := (g.2 rfl).1; omega
   have hnK : 2 < (y.AU.length : Int) -> ¬ iP true y l := fun h g => by have := (g.2 rfl).2.1; omega
   have fin : (jK y.Op = true \/ y.AI = []) -> y.Aa.length <= 3 -> y.AU.length <= 2 -> ∃ s' sz' b, ((sC (AA + 1) l y.AI).bind fun y7 =>
     (idx (cvR f s sz false).AR n).bind fun y8 =>
     (dR ([] ++ y.AU)).bind fun z1 =>
     (lX (AA + 1) (cvR f s sz false) n l z y y7 (AA + 1) 0 []).bind fun o => match o with
     | Sum.inr r => some r
     | Sum.inl x2 => aBw (AA + 1) (cvR f s sz false) n l z y y7 x2 z1) = some (cvR f s' sz' b) /\ WF f s' /\ sz'.length = f.AB.length /\ OkR (aR true f (k + 1) s n l z) s' b := fun hk hA hK => by
    obtain ⟨r, g1, g2, g3⟩ := argsRF (f := f) (s := s) (sz := sz) (n := n) (l := l) (tk := pick l y.AI) (z := z) (y := y) (AA := AA + 1) (by omega) y.Aa [] [] (AA + 1) rfl (by omega) (by simp; omega) (by simp; omega) a3
    simp only [a0W, a0q, a1k] at g1 g2;rw [pick_r (by omega) (by omega) (aBF hr), bsm, show idx (cvR f s sz false).AR n = some t0 from ht0, bsm, a1k, eJ (by omega), bsm, g1, bsm];cases hall : y.Aa.all (okE l.length) with
    | false =>
     rw [g3 hall];exact hbad (s.Aq n l (pick l y.AI)) (sz.set n.toNat z) hs.Aq hsz' (fun g => by have := (g.2 rfl).2.2; rw [hall] at this; cases this)
    | true =>
     obtain ⟨a, h1, h2⟩ := g2 hall;subst h2;have hok : iP true y l := ⟨⟨hk, hr⟩, fun _ => ⟨hA, hK, hall⟩⟩
     obtain ⟨s', sz', b, q1, q2, q3, q4⟩ := aH7 hm hv1 hv0 hf (s := s) (sz := sz) (n := n) (l := l) (tk := pick l y.AI) (z := z) (y := y) (a := a) hl (by omega) (by omega) hy hs hsz hq hu
     refine ⟨s', sz', b, q1, q2, q3, ?_⟩;rw [hfv hok, opN, h1];cases hI : opI y l (pick l y.AI) with
     | none => rw [hI] at q4; exact q4
     | some m => rw [hI] at q4; exact q4
   cases ht : jK y.Op with
   | false =>
    rw [a0n, a1Q];by_cases hk : y.AI = []
    ·rw [a1U (by rw [hk]; simp)];by_cases cA : 3 < (y.Aa.length : Int)
     ·rw [a1V cA]; exact hbad _ (sz.set n.toNat z) hS0 hsz' (hnA cA)
     rw [a1U cA];by_cases cK : 2 < (y.AU.length : Int)
     ·rw [a1V cK]; exact hbad _ (sz.set n.toNat z) hS0 hsz' (hnK cK)
     rw [a1U cK, bsm];exact fin (.inr hk) (by omega) (by omega)
    ·rw [a1V (by have := List.length_pos_iff.2 hk; omega)];exact hbad _ (sz.set n.toNat z) hS0 hsz' (fun g => by
      rcases g.1.1 with h | h
      ·rw [ht] at h; cases h
      ·exact hk h)
   | true =>
    rw [a0o, a1P];by_cases cA : 3 < (y.Aa.length : Int)
    ·rw [a1V cA]; exact hbad _ (sz.set n.toNat z) hS0 hsz' (hnA cA)
    rw [a1U cA];by_cases cK : 2 < (y.AU.length : Int)
    ·rw [a1V cK]; exact hbad _ (sz.set n.toNat z) hS0 hsz' (hnK cK)
    rw [a1U cK, bsm];exact fin (.inl ht) (by omega) (by omega)
  ·rw [a0k.2 hr, a0n, a1Q];exact hbad _ (sz.set n.toNat z) hS0 hsz' (fun g => hr g.1.2)
theorem rnode0 {f : AF} {AA : Nat} : RV f 0 (dW (AA + 1)) := by
 refine ⟨fun s sz n l z hs hsz hu hl hz => ?_⟩
 rw [dW, show (cvR f s sz false).bad = false from rfl, a1P]
 by_cases c1 : n < 0
 ·rw [a1V c1]; exact ⟨s, sz, true, rfl, hs, hsz, gA rfl⟩
 rw [a1U c1]
 by_cases c2 : (f.AB.length : Int) <= n
 ·rw [a1V (show ((cvR f s sz false).f.AB.length : Int) <= n from c2)]; exact ⟨s, sz, true, rfl, hs, hsz, gA rfl⟩
 rw [a1U (show ¬ ((cvR f s sz false).f.AB.length : Int) <= n from c2)]
 obtain ⟨q, hq⟩ := fC (xs := s.AO) (i := n) (by omega) (by rw [hs.AO]; omega)
 rw [show idx (cvR f s sz false).AO n = some q from hq, bsm]
 cases q with
 | true => exact ⟨s, sz, true, rfl, hs, hsz, gA rfl⟩
 | false => have := aDz hq; omega
theorem rvisF {f : AF} (hm : SmF f) : ∀ (k AA : Nat), 10000000 + 2 * k < AA -> RV f k (dW AA)
 | 0, AA + 1, _ => rnode0
 | k + 1, AA + 2, h => rnode hm (rvisF hm k (AA + 1) (by omega)) (rvisF hm k AA (by omega)) (by omega)
open Go.SX Go.SW Go.Dt
theorem aDa {l : List Int} {R : Nat -> Prop} : ∀ {ks a : List AW}, opL l ks = some a -> (∀ e ∈ ks, R (nE e)) -> ∀ e ∈ a, R (nE e)
 | [], a, h, _, e, he => by rw [opL] at h; cases h; cases he
 | k :: ks, a, h, hk, e, he => by
  obtain ⟨k', ks', rfl, h1, h2⟩ := pS h;cases he with
  | head => rw [(aA2 h1).1]; exact hk k (.head _)
  | tail _ he => exact aDa h2 (fun e he => hk e (.tail _ he)) e he
theorem aDd {f : AF} (hm : SmF f) {s : FS} (hi : InvF f s) (hl : s.nd.length = f.AB.length) : SmP (pV f s) := by
 refine ⟨by show s.nd.length <= _; rw [hl]; exact hm.nodes, hm.AZ, hm.free, hm.names, fun w hw => ?_, hm.AY⟩
 obtain ⟨i, hi2⟩ := a1f.1 hw
 rcases hi i w hi2 with rfl | ⟨y, l, t, h1, h2⟩
 ·exact ⟨by simp [rH], by simp [rH], fun e he => by simp [rH] at he⟩
 ·obtain ⟨a1, a2, a3⟩ := hm.args y (a1i h1);unfold opN at h2;obtain ⟨m, _, h2⟩ := bind_some h2;obtain ⟨a, ha, h2⟩ := bind_some h2;cases h2;exact ⟨by rw [yW ha]; exact a1, a2, aDa (R := fun n => n <= 2000000) ha a3⟩
theorem oW {x : Bool} {f : AF} (h : ¬ ((f.AB.length <= 60 /\ f.AD.length <= 12 /\ f.AC.length <= 12) /\ dO f.AD.length none f.AI = true)) : gM x f = none := by
 unfold gM gX; rw [a1U h]; rfl
theorem yX {x : Bool} {f : AF} (h : (f.AB.length <= 60 /\ f.AD.length <= 12 /\ f.AC.length <= 12) /\ dO f.AD.length none f.AI = true) : gX x f = aR x f f.AB.length (gO f) f.AE f.AI f.AD.length := by
 unfold gX; rw [a1V h]
theorem aAH {f : AF} : WF f (gO f) := ⟨by simp [gO], by simp [gO], by simp [gO], by simp [gO]⟩
theorem aCE {f : AF} : unF (gO f) <= f.AB.length := by simp [unF, gO, List.countP_replicate]
theorem aG0 {f : AF} (AH : List AN) : ∀ (AG : List AN) (k : Nat), f.AC = AG ++ AH -> AH.length < k -> AG.length + AH.length <= 3000000 -> ∃ r, lA f k AG.length = some r /\ ((∀ d ∈ AH, d.AP.length <= 30 /\ d.AT.length <= 30) /\ r = .inl () \/ (¬ ∀ d ∈ AH, d.AP.length <= 30 /\ d.AT.length <= 30) /\ r = .inr none) := by
 induction AH with
 | nil =>
  intro AG k hd hk _;obtain _ | k := k
  ·omega
  exact ⟨_, by rw [lA, hd, a1U (by simp)], .inl ⟨(fun d h => by cases h), rfl⟩⟩
 | cons e AH ih =>
  intro AG k hd hk hB;obtain _ | k := k
  ·omega
  simp only [a0U] at hk hB;rw [lA, a1V (by rw [hd]; exact cD _ _ _), show idx f.AC (AG.length : Int) = some e from by rw [hd]; exact cI _ _ _, bsm];by_cases c1 : 30 < (e.AP.length : Int)
  ·rw [a1V c1]; exact ⟨_, rfl, .inr ⟨fun h => by have := (h e (.head _)).1; omega, rfl⟩⟩
  rw [a1U c1];by_cases c2 : 30 < (e.AT.length : Int)
  ·rw [a1V c2]; exact ⟨_, rfl, .inr ⟨fun h => by have := (h e (.head _)).2; omega, rfl⟩⟩
  rw [a1U c2, aU (by omega), bsm, bW];obtain ⟨r, g1, g2⟩ := ih (AG ++ [e]) k (by rw [hd, cG]) (by omega) (by simp; omega)
  refine ⟨r, g1, ?_⟩;rcases g2 with ⟨g2, g3⟩ | ⟨g2, g3⟩
  ·refine .inl ⟨fun d hd => ?_, g3⟩
   cases hd with
   | head => omega
   | tail _ h => exact g2 d h
  ·exact .inr ⟨fun h => g2 fun d hd => h d (.tail _ hd), g3⟩
theorem looked_p {f : AF} (hm : SmF f) : uA F f = some (match gM false f with | some s => some (cvP f s) | none => none) := by
 have m1 := hm.nodes; have m2 := hm.free; have m3 := hm.AZ; have m4 := hm.take
 rw [uA]
 by_cases c1 : 60 < (f.AB.length : Int)
 ·rw [a1V c1, oW (by omega)]
 rw [a1U c1]
 by_cases c2 : 12 < (f.AD.length : Int)
 ·rw [a1V c2, oW (by omega)]
 rw [a1U c2]
 by_cases c3 : 12 < (f.AC.length : Int)
 ·rw [a1V c3, oW (by omega)]
 rw [a1U c3, aBM (by show _ < 1000000000; omega) (by omega), bsm]
 by_cases hr : dO f.AD.length none f.AI = true
 ·have hc : (f.AB.length <= 60 /\ f.AD.length <= 12 /\ f.AC.length <= 12) /\ dO f.AD.length none f.AI = true := ⟨by omega, hr⟩
  obtain ⟨r, g1, g2⟩ := aG0 (f := f) f.AC [] F rfl (by show _ < 1000000000; omega) (by simp; omega)
  rw [hr, a1Q, show lA f F 0 = _ from g1, bsm];rcases g2 with ⟨hD, rfl⟩ | ⟨hD, rfl⟩
  ·dsimp only
   have htl := tU (b := f.AD.length) (by omega) hr
   obtain ⟨r, q1, q2⟩ := (pvisF hm hD f.AB.length F (by show _ < 1000000000; omega)).run (gO f) f.AE f.AI f.AD.length aAH aCE htl (by omega)
   rw [qV (by omega), bsm, bsm, qV (by omega), bsm, yB, a1k, eJ (by omega), bsm, bsm, qV (by omega), bsm, copied_p (by show _ < 1000000000; omega) m3 hm.AY, bsm, iH, a1k, eJ (by omega), bsm, bsm,
    show eC F (⟨(⟨f.AD, f.AI, f.AB, f.AC, f.AE⟩ : AF), List.replicate f.AB.length [], List.replicate f.AB.length [], List.replicate f.AB.length false, (⟨f.AD, List.replicate f.AB.length (⟨0, 0, [], []⟩ : Ae), f.AC, f.AE⟩ : AM)⟩ : Ag) f.AE f.AI f.AD.length = _ from q1, bsm]
   unfold gM;rw [yX hc];cases hq : aR false f f.AB.length (gO f) f.AE f.AI f.AD.length with
   | none => rw [hq] at q2; obtain ⟨s', rfl⟩ := q2; rfl
   | some s =>
    rw [hq] at q2;have q2 : r = (cvP f s, true) := q2;subst q2;obtain ⟨i1, i2⟩ := aA7 (x := false) (f := f) (s := s) (by rw [yX hc]; exact hq)
    rw [bsm];dsimp only
    rw [a0o, a1P, show sB F (⟨(cvP f s).AK.AD, (cvP f s).AK.AB, (cvP f s).AK.AC, (cvP f s).AK.AE⟩ : AM) = some (if (eQ (pV f s)).isSome = true then 0 else 2) from check_eq (aDd hm i1 i2), bsm];by_cases hk : (eQ (pV f s)).isSome = true
    ·rw [a1V hk, a1V hk, a1U (by decide)]
    ·rw [a1U hk, a1U hk, a1V (by decide)]
  ·have : gM false f = none := by
    cases ha : gM false f with
    | none => rfl
    | some s =>
     unfold gM at ha;obtain ⟨t, _, ha⟩ := bind_some ha;split at ha
     ·rename_i hk;obtain ⟨vs, hvs⟩ := Option.isSome_iff_exists.1 hk;exact absurd (fun d hd => by obtain ⟨h1, h2, _⟩ := nO (yZ hvs d hd); exact ⟨h1, h2⟩) hD
     ·cases ha
   rw [this]
 ·rw [a0k.2 hr, a1P, oW (fun h => hr h.2)]
theorem open_r {f : AF} (hm : SmF f) : ∃ o b, vQ F f = some (o, b) /\ b = (gM true f).isSome /\ ∀ s, gM true f = some s -> o.AQ = s.AQ := by
 have m1 := hm.nodes; have m2 := hm.free; have m3 := hm.AZ; have m4 := hm.take
 rw [vQ]
 by_cases c1 : 60 < (f.AB.length : Int)
 ·rw [a1V c1, oW (by omega)]; exact ⟨_, _, rfl, rfl, fun s h => by cases h⟩
 rw [a1U c1]
 by_cases c2 : 12 < (f.AC.length : Int)
 ·rw [a1V c2, oW (by omega)]; exact ⟨_, _, rfl, rfl, fun s h => by cases h⟩
 rw [a1U c2]
 by_cases c3 : 12 < (f.AD.length : Int)
 ·rw [a1V c3, oW (by omega)]; exact ⟨_, _, rfl, rfl, fun s h => by cases h⟩
 rw [a1U c3, aDh (by show _ < 1000000000; omega) (by omega), bsm]
 by_cases hr : dO f.AD.length none f.AI = true
 ·have hc : (f.AB.length <= 60 /\ f.AD.length <= 12 /\ f.AC.length <= 12) /\ dO f.AD.length none f.AI = true := ⟨by omega, hr⟩
  have htl := tU (b := f.AD.length) (by omega) hr
  obtain ⟨s', sz', b, q1, q2, q3, q4⟩ := (rvisF hm f.AB.length F (by show _ < 1000000000; omega)).run (gO f) (List.replicate f.AB.length 0) f.AE f.AI f.AD.length aAH (by simp) aCE htl (by omega)
  rw [hr, a1Q, qV (by omega), bsm, qV (by omega), bsm, bsm, qV (by omega), bsm, a1k, eJ (by omega), bsm, qV (by omega), bsm, a1k, eJ (by omega), bsm,
   show dW F (⟨(⟨f.AD, f.AI, f.AB, f.AC, f.AE⟩ : AF), List.replicate f.AB.length false, List.replicate f.AB.length [], List.replicate f.AB.length 0, List.replicate f.AB.length [], (⟨f.AD, List.replicate f.AB.length (⟨0, 0, [], []⟩ : Ae), [], f.AE⟩ : AM), false⟩ : Ad) f.AE f.AI f.AD.length = _ from q1, bsm]
  unfold gM;rw [yX hc];cases hq : aR true f f.AB.length (gO f) f.AE f.AI f.AD.length with
  | none =>
   rw [hq] at q4;have q4 : b = true := q4;subst q4;exact ⟨_, _, rfl, rfl, fun s h => by cases h⟩
  | some s =>
   rw [hq] at q4;obtain ⟨e1, e2⟩ := q4;subst e1; subst e2
   obtain ⟨i1, i2⟩ := aA7 (x := true) (f := f) (s := s') (by rw [yX hc]; exact hq)
   rw [show (cvR f s' sz' false).bad = false from rfl, a1P, copied_r (by show _ < 1000000000; omega) m3 hm.AY, bsm, show tN F (⟨(cvR f s' sz' false).p.AD, (cvR f s' sz' false).p.AB, f.AC, (cvR f s' sz' false).p.AE⟩ : AM) = some (if (eQ (pV f s')).isSome = true then 0 else 2) from aGT (aDd hm i1 i2), bsm, bsm];by_cases hk : (eQ (pV f s')).isSome = true
   ·rw [a1V hk, a1V hk];exact ⟨_, _, rfl, rfl, fun s h => by cases h; rfl⟩
   ·rw [a1U hk, a1U hk];exact ⟨_, _, rfl, rfl, fun s h => by cases h⟩
 ·rw [a0k.2 hr, a1P, oW (fun h => hr h.2)]; exact ⟨_, _, rfl, rfl, fun s h => by cases h⟩
theorem uY {g : FS -> Int -> List Int -> Int -> Option FS} {R : FS -> Prop} {T : Int × List Int × Int -> Prop} (H : ∀ s t s', g s t.1 t.2.1 t.2.2 = some s' -> T t -> R s -> R s') : ∀ (ts : List (Option (Int × List Int × Int))) (s s' : FS), (∀ t, some t ∈ ts -> T t) -> bV g s ts = some s' -> R s -> R s'
 | [], s, s', _, e, h => by cases e; exact h
 | none :: ts, s, s', _, e, h => by cases e
 | some t :: ts, s, s', ht, e, h => by
  obtain ⟨s1, e1, e2⟩ := bind_some e;exact uY H ts s1 s' (fun t h => ht t (.tail _ h)) e2 (H _ _ _ e1 (ht t (.head _)) h)
def LenR (s : FS) : Prop := ∀ x ∈ s.AQ, x.length <= 400000000
theorem aEW {f : AF} (hm : SmF f) (hD : ∀ d ∈ f.AC, d.AP.length <= 30 /\ d.AT.length <= 30) : ∀ (k : Nat) (s : FS) (n : Int) (l : List Int) (z : Int) (s' : FS), aR false f k s n l z = some s' -> (l.length : Int) <= z -> z + 6000100 * k <= 400000000 -> LenR s -> LenR s'
 | 0, _, _, _, _, _, h, _, _, _ => by cases h
 | k + 1, s, n, l, z, s', h, hl, hz, h0 => by
  rw [aR] at h;split at h
  ·obtain ⟨y, ey, h⟩ := bind_some h;split at h
   ·rename_i hok;obtain ⟨w, ew, h⟩ := bind_some h;have hpl : (pick l y.AI).length <= l.length := by
     rw [aBR]; have := tU (b := l.length) (by omega) hok.1.2; omega
    have h1 : LenR (s.put n l (pick l y.AI) w) := fun x hx => by
     simp only [FS.put] at hx;rcases List.mem_or_eq_of_mem_set hx with hx | rfl
     ·exact h0 x hx
     ·omega
    have H : ∀ (s : FS) (t : Int × List Int × Int) (s' : FS), aR false f k s t.1 t.2.1 t.2.2 = some s' -> ((t.2.1.length : Int) <= t.2.2 /\ t.2.2 + 6000100 * k <= 400000000) -> LenR s -> LenR s' := fun s t s' h1 h2 h3 => aEW hm hD k s _ _ _ s' h1 h2.1 h2.2 h3
    unfold fG at h;split at h
    ·obtain ⟨d, ed, h⟩ := bind_some h;rw [a1V (by intro h; cases h)] at h;obtain ⟨s1, e1, h⟩ := bind_some h;obtain ⟨s2, e2, h⟩ := bind_some h;obtain ⟨d1, d2⟩ := hD d (fJ ed);have ho : bA d <= 60 := by unfold bA; omega
     refine uY H _ _ _ (fun t ht => ?_) h (uY H _ _ _ (fun t ht => ?_) e2 (uY H _ _ _ (fun t ht => ?_) e1 h1))
     ·obtain ⟨c, _, e⟩ := a1g.1 ht;cases e;dsimp only
      rw [a0T, gC]; omega
     ·obtain ⟨c, _, e⟩ := a1g.1 ht;cases e;dsimp only
      rw [a0T, gC]; omega
     ·obtain ⟨c, hc, e⟩ := a1g.1 ht;rw [aBV] at e;obtain ⟨m, hmm, e⟩ := bind_some e;cases e;have := zR hmm;have := (hm.AY d (fJ ed)).2.2.2 c hc;dsimp only
      rw [a0T, a0T, gC, gC]; omega
    ·refine uY H _ _ _ (fun t ht => ?_) h h1
     obtain ⟨c, _, e⟩ := a1g.1 ht;cases e;dsimp only
     have : (fF y l (pick l y.AI)).length <= l.length := by unfold fF; split <;> omega
     omega
   ·cases h
  ·cases h
theorem ans_lens {f : AF} (hm : SmF f) {s : FS} (h : gM false f = some s) : LenR s /\ s.AQ.length = f.AB.length /\ f.AB.length <= 60 := by
 unfold gM at h
 obtain ⟨t, h1, h2⟩ := bind_some h
 split at h2
 ·rename_i hk;cases h2;obtain ⟨vs, hvs⟩ := Option.isSome_iff_exists.1 hk;unfold gX at h1;split at h1
  ·rename_i hc;refine ⟨aEW hm (fun d hd => by obtain ⟨h1, h2, _⟩ := nO (yZ hvs d hd); exact ⟨h1, h2⟩) _ _ _ _ _ _ h1 (tU (by omega) hc.2) (by omega) (fun x hx => by
    simp only [gO, List.mem_replicate] at hx; rw [hx.2]; simp), (uH h1 aAH).AQ, hc.1.1⟩
  ·cases h1
 ·cases h2
theorem aF5 (AH : List Int) : ∀ (AG : List Int) (k : Nat), AH.length < k -> AG.length + AH.length <= 900000000 -> mS (AG ++ AH) (AG ++ AH) k AG.length = some (.inl ()) := by
 induction AH with
 | nil =>
  intro AG k hk _;obtain _ | k := k
  ·omega
  rw [mS, a1U (by simp)]
 | cons e AH ih =>
  intro AG k hk hB;obtain _ | k := k
  ·omega
  simp only [a0U] at hk hB;rw [mS, a1V (cD _ _ _), cI, bsm, bsm, a1U (fun h => h rfl), aU (by omega), bsm, cG, bW, ih (AG ++ [e]) k (by omega) (by simp; omega)]
theorem aGn {l : List Int} (h : l.length <= 400000000) : vG F l l = some true := by
 have g := aF5 l [] F (by show _ < 1000000000; omega) (by simp; omega)
 simp only [a1k, a0W, a0q] at g
 rw [vG, a1U (fun h => h rfl), g, bsm]
theorem aHi (AH : List (List Int)) : ∀ (AG : List (List Int)) (k : Nat), AH.length < k -> AG.length + AH.length <= 900000000 -> (∀ x ∈ AH, x.length <= 400000000) -> nZ F (AG ++ AH) (AG ++ AH) k AG.length = some (.inl ()) := by
 induction AH with
 | nil =>
  intro AG k hk _ _;obtain _ | k := k
  ·omega
  rw [nZ, a1U (by simp)]
 | cons e AH ih =>
  intro AG k hk hB hx;obtain _ | k := k
  ·omega
  simp only [a0U] at hk hB;rw [nZ, a1V (cD _ _ _), cI, bsm, bsm, aGn (hx e (.head _)), bsm, a1Q, aU (by omega), bsm, cG, bW, ih (AG ++ [e]) k (by omega) (by simp; omega) (fun x h => hx x (.tail _ h))]
theorem aEc {l : List (List Int)} (h : l.length <= 60) (hx : ∀ x ∈ l, x.length <= 400000000) : xA F l l = some true := by
 have g := aHi l [] F (by show _ < 1000000000; omega) (by simp; omega) hx
 simp only [a1k, a0W, a0q] at g
 rw [xA, a1U (fun h => h rfl), g, bsm]
theorem aGP {v : Ag} (AH : List (List Int)) : ∀ (AG : List (List Int)) (k : Nat), v.AQ = AG ++ AH -> AH.length < k -> AG.length + AH.length <= 900000000 -> (∀ x ∈ AH, x.length <= 400000000) -> nD v k AG AG.length = some v.AQ := by
 induction AH with
 | nil =>
  intro AG k hv hk _ _;obtain _ | k := k
  ·omega
  rw [nD, hv, a1U (by simp)]; simp
 | cons e AH ih =>
  intro AG k hv hk hB hx;obtain _ | k := k
  ·omega
  simp only [a0U] at hk hB;have := hx e (.head _);rw [nD, a1V (by rw [hv]; exact cD _ _ _), show idx v.AQ (AG.length : Int) = some e from by rw [hv]; exact cI _ _ _, bsm, iH, a1k, eJ (by omega), bsm, bsm, eJ (by simp; omega), bsm, aU (by omega), bsm, bW, ih (AG ++ [e]) k (by rw [hv, cG]) (by omega) (by simp; omega) (fun x h => hx x (.tail _ h))]
theorem aH8 {f : AF} (hm : SmF f) : zW F f = some true := by
 obtain ⟨o, b, h1, h2, h3⟩ := open_r hm
 have hl := looked_p hm
 rw [zW, zI, show (⟨f.AD, f.AI, f.AB, f.AC, f.AE⟩ : AF) = f from rfl, hl, bsm, aAa, show (⟨f.AD, f.AI, f.AB, f.AC, f.AE⟩ : AF) = f from rfl, h1, bsm, zO, show (⟨f.AD, f.AI, f.AB, f.AC, f.AE⟩ : AF) = f from rfl, hl, bsm]
 rw [aGI] at h2 h3
 cases ha : gM false f with
 | none =>
  rw [ha] at h2;have h2 : b = false := h2;subst h2;dsimp only
  rw [Option.isNone_none, a1Q, a1Q, bsm, a1P, bsm, bsm, a1V rfl, a1V rfl, aEc (by simp) (fun x h => by cases h), bsm, a1Q]
  rfl
 | some s =>
  rw [ha] at h2;have h2 : b = true := h2;subst h2;obtain ⟨l1, l2, l3⟩ := ans_lens hm ha;have hc := aGP (v := cvP f s) s.AQ [] F rfl (by show _ < 1000000000; omega) (by simp; omega) l1
  simp only [a0W, a0q] at hc;dsimp only
  rw [Option.isNone_some, a1P, a1P, bsm, hc, bsm, a1Q, bsm, bsm, bsm, a1V rfl, a1V rfl, show (cvP f s).AQ = s.AQ from rfl, h3 s ha, aEc (by omega) l1, bsm, a1Q];rfl
open Go.SX Go.SW
theorem aFd {W : World} {a : Addr} {c : Value} (h : W.cell? a = some c) : (iM W).cell a = some c := by
 unfold World.cell? at h
 unfold Mem.cell rS iM
 cases hb : W.heap[a.block]? with
 | none => rw [hb] at h; cases h
 | some o =>
  rw [hb] at h;cases o with
  | cells c t fr =>
   dsimp only at h ⊢
   first
    | exact h
    | (cases hs : a.spot with
      | none => rw [hs] at h; simpa using h
      | some s => rw [hs] at h; simp at h)
  | _ => cases h
theorem aD3 {H : Type} {d : DataW H} {l : List (DataW H)} (h : d ∈ l) : Rows.uptoBulk d <= Rows.uptoBulkAll l := by
 induction l with
 | nil => cases h
 | cons x r ih =>
  simp only [Rows.uptoBulkAll];cases h with
  | head => omega
  | tail _ e => have := ih e; omega
theorem bulk_one {H : Type} (d : DataW H) : 1 <= Rows.uptoBulk d := by
 cases d with
 | lit l => cases l <;> simp [Rows.uptoBulk]
 | _ => simp [Rows.uptoBulk]
section
variable {H : Type} {enc : TypeId × Value -> H} {P : Program} {W : World}
def Rd (enc : TypeId × Value -> H) (P : Program) (W : World) (n : Nat) {α : Type} (T : Ty α) (t : TypeId) (μ : α -> Nat) (S : α -> Prop) : Prop :=
 ∀ cs x, DataW.trod enc P W 0 (fun _ => true) true n t cs = some x -> Rows.uptoBulk x.1 <= 1048576 -> ∃ a, aV (T.An a) (iM W) cs /\ μ a <= Rows.uptoBulk x.1 /\ S a
def RdF (enc : TypeId × Value -> H) (P : Program) (W : World) (n : Nat) (fs : List Field) (o e : Nat) {β : Type} (L : β -> List AJ) (μ : β -> Nat) (S : β -> Prop) : Prop :=
 ∀ (cs : List Value) xs, cs.length = e -> (fs.mapM fun f => DataW.trod enc P W 0 (fun _ => true) true n f.type ((cs.drop f.offset).take (P.cellsOf f.type))) = some xs -> Rows.uptoBulkAll (xs.map (·.1)) <= 1048576 -> ∃ b, aV (L b) (iM W) (cs.drop o) /\ μ b <= Rows.uptoBulkAll (xs.map (·.1)) /\ S b
theorem nR {α : Type} {T : Ty α} {t : TypeId} {μ : α -> Nat} {S : α -> Prop} : Rd enc P W 0 T t μ S := fun cs x h => by cases h
theorem pO {n e : Nat} : RdF enc P W n [] e e (β := Unit) (fun _ => []) (fun _ => 0) (fun _ => True) := fun cs xs hl h hb => ⟨(), by rw [a0x (by omega)]; rfl, a1H _, trivial⟩
theorem aEL {α β : Type} {f : α -> Option β} {x : α} {l : List α} {ys : List β} (h : (x :: l).mapM f = some ys) : ∃ y r, f x = some y /\ l.mapM f = some r /\ ys = y :: r := by
 rw [List.mapM_cons] at h
 cases hx : f x with
 | none => rw [hx] at h; cases h
 | some y =>
  cases hl : l.mapM f with
  | none => rw [hx, hl] at h; cases h
  | some r => rw [hx, hl] at h; cases h; exact ⟨y, r, rfl, rfl, rfl⟩
theorem eP {n o e : Nat} {f : Field} {fs : List Field} {α β : Type} {T : Ty α} {μ : α -> Nat} {S : α -> Prop} {L : β -> List AJ} {ν : β -> Nat} {R : β -> Prop} (h : Rd enc P W n T f.type μ S) (ho : f.offset = o) (hz : P.cellsOf f.type = T.sz) (k : RdF enc P W n fs (o + T.sz) e L ν R) :
  RdF enc P W n (f :: fs) o e (fun x : α × β => T.An x.1 ++ L x.2) (fun x => μ x.1 + ν x.2) (fun x => S x.1 /\ R x.2) := fun cs xs hl hm hb => by
 obtain ⟨y, r, h1, h2, rfl⟩ := aEL hm
 simp only [a1a, Rows.uptoBulkAll] at hb
 obtain ⟨a, a1, a2, a3⟩ := h _ _ h1 (by omega)
 obtain ⟨b, b1, b2, b3⟩ := k cs r hl h2 (by omega)
 refine ⟨(a, b), ?_, by simp only [a1a, Rows.uptoBulkAll]; omega, a3, b3⟩
 have := a1.append b1
 rw [ho, hz, <- List.drop_drop, List.take_append_drop] at this
 exact this
theorem qA {n e : Nat} {α β : Type} {T : Ty α} {t : TypeId} {fs : Array Field} {μ : α -> Nat} {S : α -> Prop} {L : β -> List AJ} {ν : β -> Nat} {R : β -> Prop} (mk : β -> α) (ht : P.underlying t = some (.struct fs)) (hc : P.cellsOf t = e) (k : RdF enc P W n fs.toList 0 e L ν R)
  (hL : ∀ b, T.An (mk b) = L b) (hμ : ∀ b, μ (mk b) <= ν b + 1) (hS : ∀ b, R b -> ν b + 1 <= 1048576 -> S (mk b)) : Rd enc P W (n + 1) T t μ S := fun cs x h hb => by
 rw [DataW.trod_step] at h
 unfold DataW.trodStep at h
 rw [ht] at h
 dsimp only at h
 split at h
 ·rename_i hcs;cases hm : (fs.toList.mapM fun f => DataW.trod enc P W 0 (fun _ => true) true n f.type ((cs.drop f.offset).take (P.cellsOf f.type))) with
  | none => rw [hm] at h; cases h
  | some xs =>
   rw [hm] at h;cases h;simp only [Rows.uptoBulk] at hb;obtain ⟨b, b1, b2, b3⟩ := k cs xs (by omega) hm (by omega)
   rw [List.drop_zero] at b1;have := hμ b;refine ⟨mk b, by rw [hL]; exact b1, by simp only [Rows.uptoBulk]; omega, hS b b3 (by omega)⟩
 ·cases h
theorem rd_int {n : Nat} {t : TypeId} {k : IntKind} (ht : P.underlying t = some (.int k)) : Rd enc P W n (cO k) t (fun _ => 1) (fun i => (Lit.int k i).wf = true) := fun cs x h hb => by
 obtain _ | n := n
 ·cases h
 rw [DataW.trod_step] at h
 unfold DataW.trodStep at h
 rw [ht] at h
 match cs, h with
 | [.int k' i], h =>
  dsimp only at h
  split at h
  ·rename_i hc;obtain ⟨rfl, hw⟩ := hc;cases h;exact ⟨i, ⟨_, [], rfl, rfl, rfl⟩, a1y _, hw⟩
  ·cases h
theorem rd_str {n : Nat} {t : TypeId} (ht : P.underlying t = some .string) : Rd enc P W n aC t (fun s => s.size + 1) (fun s => s.size <= 1048576) := fun cs x h hb => by
 obtain _ | n := n
 ·cases h
 rw [DataW.trod_step] at h
 unfold DataW.trodStep at h
 rw [ht] at h
 match cs, h with
 | [.string s], h =>
  dsimp only at h
  split at h
  ·cases h;have e : s.data.toList.length = s.size := rfl;simp only [Rows.uptoBulk] at hb;exact ⟨s, ⟨_, [], rfl, rfl, rfl⟩, by simp only [Rows.uptoBulk]; omega, by omega⟩
  ·cases h
def msum {α : Type} (μ : α -> Nat) : List α -> Nat
 | [] => 0
 | a :: l => μ a + msum μ l
theorem aEE {α : Type} {f : Nat -> Option α} {n : Nat} {l : List α} (h : (List.range n).mapM f = some l) : l.length = n /\ ∀ i, i < n -> ∃ y, l[i]? = some y /\ f i = some y := by
 have g : ∀ (ks : List Nat) (l : List α), ks.mapM f = some l -> l.length = ks.length /\ ∀ (i k : Nat), ks[i]? = some k -> ∃ y, l[i]? = some y /\ f k = some y := fun ks => by
  induction ks with
  | nil => intro l h; cases h; exact ⟨rfl, fun i k h => by simp at h⟩
  | cons k ks ih =>
   intro l h;obtain ⟨y, r, h1, h2, rfl⟩ := aEL h;obtain ⟨a, b⟩ := ih r h2;refine ⟨by simp [a], fun i q hq => ?_⟩
   cases i with
   | zero => simp at hq; subst hq; exact ⟨y, rfl, h1⟩
   | succ i => exact b i q (by simpa using hq)
 obtain ⟨a, b⟩ := g _ _ h
 exact ⟨by simpa using a, fun i hi => b i i (by simp [hi])⟩
theorem aG8 {W : World} {b z : Nat} {a : Addr} {cs : List Value} (h : W.cells? b a z = some cs) : ∀ (j : Nat) c, cs[j]? = some c -> W.cell? (a.add j) = some c := by
 unfold World.cells? at h
 split at h
 ·obtain ⟨h1, h2⟩ := aEE h;intro j c hj;have := (a0J.1 hj).1;obtain ⟨y, y1, y2⟩ := h2 j (by omega)
  rw [hj] at y1; cases y1; exact y2
 ·cases h
theorem aDx {α γ : Type} {Q : γ -> α -> Prop} : ∀ (l : List γ), (∀ c ∈ l, ∃ a, Q c a) -> ∃ r : List α, r.length = l.length /\ ∀ (i : Nat) c, l[i]? = some c -> ∃ a, r[i]? = some a /\ Q c a
 | [], _ => ⟨[], rfl, fun i c h => by simp at h⟩
 | c :: l, h => by
  obtain ⟨a, ha⟩ := h c (.head _);obtain ⟨r, h1, h2⟩ := aDx l (fun c hc => h c (.tail _ hc))
  refine ⟨a :: r, by simp [h1], fun i q hq => ?_⟩
  cases i with
  | zero => simp at hq; subst hq; exact ⟨a, rfl, ha⟩
  | succ i => exact h2 i q (by simpa using hq)
theorem aDO {α : Type} {μ : α -> Nat} : ∀ {r : List α} {ds : List (DataW H)}, r.length = ds.length -> (∀ (i : Nat) d a, ds[i]? = some d -> r[i]? = some a -> μ a <= Rows.uptoBulk d) -> msum μ r <= Rows.uptoBulkAll ds /\ r.length <= Rows.uptoBulkAll ds
 | [], [], _, _ => ⟨a1H _, a1H _⟩
 | a :: r, d :: ds, hl, h => by
  obtain ⟨h1, h2⟩ := aDO (r := r) (ds := ds) (by simpa using hl) (fun i d a hd ha => h (i + 1) d a (by simpa using hd) (by simpa using ha))
  have := h 0 d a rfl rfl;have := bulk_one d;simp only [msum, Rows.uptoBulkAll, a0U]; omega
theorem rd_sl {n : Nat} {t e : TypeId} {α : Type} {T : Ty α} {μ : α -> Nat} {S : α -> Prop} (ht : P.underlying t = some (.slice e)) (hz : P.cellsOf e = T.sz) (h : Rd enc P W n T e μ S) : Rd enc P W (n + 1) (tSl T) t (fun l => msum μ l + 1) (fun l => l.length <= 1048576 /\ ∀ a ∈ l, S a) := fun cs x hx hb => by
 rw [DataW.trod_step] at hx
 unfold DataW.trodStep at hx
 rw [ht] at hx
 match cs, hx with
 | [.slice none 0 0], hx =>
  cases hx;exact ⟨[], ⟨_, [], rfl, cH (iM W) _ rfl, rfl⟩, a1y _, by simp, fun a ha => by cases ha⟩
 | [.slice (some p) len cap], hx =>
  dsimp only at hx
  split at hx
  ·rename_i hc;cases h1 : ((List.range len).mapM fun i => (W.cells? 0 (p.add (i * P.cellsOf e)) (P.cellsOf e)).bind (DataW.trod enc P W 0 (fun _ => true) true n e)) with
   | none => rw [h1] at hx; cases hx
   | some es =>
    rw [h1] at hx;obtain ⟨rest, _, rfl⟩ := a1J.1 hx;obtain ⟨l1, l2⟩ := aEE h1;simp only [Rows.uptoBulk] at hb;have each : ∀ y ∈ es, ∃ a, (μ a <= Rows.uptoBulk y.1 /\ S a) /\ ∀ i cs', W.cells? 0 (p.add (i * P.cellsOf e)) (P.cellsOf e) = some cs' -> DataW.trod enc P W 0 (fun _ => true) true n e cs' = some y -> True := fun y hy => by
     obtain ⟨i, hi, rfl⟩ := List.mem_iff_getElem.1 hy;obtain ⟨y, y1, y2⟩ := l2 i (by omega)
     obtain ⟨cs', c1, c2⟩ := Option.bind_eq_some_iff.1 y2;have e1 : es[i] = y := by rw [a0H hi] at y1; exact a1L y1
     have m1 : Rows.uptoBulk y.1 <= Rows.uptoBulkAll (es.map (·.1)) := aD3 (a1h (by rw [<- e1]; exact a0S _))
     obtain ⟨a, a1, a2, a3⟩ := h _ _ c2 (by omega)
     exact ⟨a, ⟨by rw [e1]; exact a2, a3⟩, fun _ _ _ _ => trivial⟩
    have each2 : ∀ i ∈ List.range len, ∃ a, (∃ y, es[i]? = some y /\ μ a <= Rows.uptoBulk y.1) /\ S a /\ T.at (iM W) (p.add (i * T.sz)) a := fun i hi => by
     obtain ⟨y, y1, y2⟩ := l2 i (by simpa using hi)
     obtain ⟨cs', c1, c2⟩ := Option.bind_eq_some_iff.1 y2;have m1 : Rows.uptoBulk y.1 <= Rows.uptoBulkAll (es.map (·.1)) := aD3 (a1h (a1i y1));obtain ⟨a, a1, a2, a3⟩ := h _ _ c2 (by omega)
     exact ⟨a, ⟨y, y1, a2⟩, a3, cs', a1, fun j c hj => by rw [<- hz]; exact aFd (aG8 c1 j c hj)⟩
    obtain ⟨r, r1, r2⟩ := aDx (List.range len) each2;have rl : r.length = len := by simpa using r1
    have r3 : ∀ i, i < len -> ∃ a, r[i]? = some a /\ (∃ y, es[i]? = some y /\ μ a <= Rows.uptoBulk y.1) /\ S a /\ T.at (iM W) (p.add (i * T.sz)) a := fun i hi => r2 i i (by simp [hi])
    obtain ⟨m1, m2⟩ := aDO (μ := μ) (r := r) (ds := es.map (·.1)) (by simp [rl, l1]) (fun i d a hd ha => by
     obtain ⟨a', a1, ⟨y, y1, y2⟩, _⟩ := r3 i (by have := (a0J.1 ha).1; omega)
     rw [ha] at a1; cases a1
     rw [a0K, y1] at hd; cases hd
     exact y2)
    refine ⟨r, ⟨_, [], rfl, ⟨fun i => p.add (i * T.sz), ⟨some p, cap, by rw [rl], by rw [rl]; exact hc.2.1, fun i _ => ⟨p, rfl, rfl⟩⟩, by omega, fun i a ha => ?_⟩, rfl⟩, by simp only [Rows.uptoBulk]; omega, by omega, fun a ha => ?_⟩
    ·obtain ⟨a', a1, _, _, a2⟩ := r3 i (by have := (a0J.1 ha).1; omega)
     rw [ha] at a1; cases a1; exact a2
    ·obtain ⟨i, hi, rfl⟩ := List.mem_iff_getElem.1 ha;obtain ⟨a', a1, _, a2, _⟩ := r3 i (by omega)
     rw [a0H hi] at a1; cases a1; exact a2
  ·cases hx
theorem Rd.mono {n : Nat} {α : Type} {T : Ty α} {t : TypeId} {μ ν : α -> Nat} {S R : α -> Prop} (h : Rd enc P W n T t μ S) (hμ : ∀ a, ν a <= μ a) (hS : ∀ a, S a -> μ a <= 1048576 -> R a) : Rd enc P W n T t ν R := fun cs x hx hb => by
 obtain ⟨a, a1, a2, a3⟩ := h cs x hx hb
 exact ⟨a, a1, a1z (hμ a) a2, hS a a3 (by omega)⟩
theorem arg_st {α : Type} {T : Ty α} {t : TypeId} {μ : α -> Nat} {S : α -> Prop} {fs : Array Field} {r : Reach} {b0 : Nat} {v : Value} {d : DataW H} {ps : List MemPlace} (h : ∀ n, Rd enc P W n T t μ S) (ht : P.underlying t = some (.struct fs)) (hval : Value.okWide P W r b0 t v)
  (hd : DataW.Trod enc P W 0 (fun _ => true) true t v d ps) (hb : Rows.uptoBulk d <= 1048576) : ∃ a, (fSt T a).p (iM W) v /\ S a := by
 unfold Value.okWide at hval
 rw [ht] at hval
 obtain ⟨cs, rfl, _⟩ := hval
 obtain ⟨n, hn⟩ := hd
 obtain ⟨a, a1, _, a2⟩ := h n _ _ hn hb
 exact ⟨a, ⟨cs.toList, by simp, a1⟩, a2⟩
end
open Go.SX Go.SW Go.Dt
section
variable {H : Type} {enc : TypeId × Value -> H} {W : World}
abbrev RdP (enc : TypeId × Value -> H) (W : World) (n : Nat) {α : Type} (T : Ty α) (t : TypeId) (μ : α -> Nat) (S : α -> Prop) : Prop := Rd enc Tryz.prog W n T t μ S
theorem hZ (n : Nat) {t : TypeId} (ht : Tryz.prog.underlying t = some (.int .i64)) : RdP enc W n (cO .i64) t (fun _ => 1) (fun _ => True) := (rd_int ht).mono (fun _ => a1y _) (fun _ _ _ => trivial)
theorem pJ {n : Nat} {t e : TypeId} {α : Type} {T : Ty α} {μ : α -> Nat} {S : α -> Prop} (ht : Tryz.prog.underlying t = some (.slice e)) (hz : Tryz.prog.cellsOf e = T.sz) (h : ∀ k, RdP enc W k T e μ S) : RdP enc W n (tSl T) t (fun l => msum μ l + 1) (fun l => l.length <= 1048576 /\ ∀ a ∈ l, S a) := by
 cases n with
 | zero => exact nR
 | succ n => exact rd_sl ht hz (h n)
theorem zD (n : Nat) {t e : TypeId} (ht : Tryz.prog.underlying t = some (.slice e)) (he : Tryz.prog.underlying e = some (.int .i64)) (hz : Tryz.prog.cellsOf e = 1) : RdP enc W n (tSl (cO .i64)) t (fun _ => 0) (fun l => l.length <= 1048576) :=
 (pJ ht hz (fun k => hZ k he)).mono (fun _ => a1H _) (fun _ h _ => h.1)
theorem vS : ∀ l : List AW, nL l = msum nE l
 | [] => rfl
 | a :: l => by simp only [nL, msum, vS l]
theorem aDV (a b : Int) (c : List AW) : aO.An ⟨a, b, c⟩ = [aX .i64 a, aX .i64 b, fSl aO c] := by
 show [_, _, eF c] = _
 rw [fX]
theorem rd_exp : ∀ n : Nat, RdP enc W n aO 124 nE (fun e => nE e <= 1048576)
 | 0 => nR
 | 1 => fun cs x h hb => (qA (μ := nE) (S := fun e => nE e <= 1048576) (T := aO) (fun b : Int × Int × List AW × Unit => ⟨b.1, b.2.1, b.2.2.1⟩) Tryz.underlying124 (e := 3) (by kernel_rfl)
   (eP (hZ 0 Tryz.underlying122) rfl (by kernel_rfl) (eP (hZ 0 Tryz.underlying3) rfl (by kernel_rfl) (eP (T := tSl aO) (μ := fun l => msum nE l + 1) (S := fun _ => True) nR rfl (by kernel_rfl) pO)))
   (fun b => aDV b.1 b.2.1 b.2.2.1) (fun b => by simp only [nE, vS]; omega) (fun b _ hb => by simp only [nE, vS] at *; omega)) cs x h hb
 | n + 2 => fun cs x h hb => (qA (μ := nE) (S := fun e => nE e <= 1048576) (T := aO) (fun b : Int × Int × List AW × Unit => ⟨b.1, b.2.1, b.2.2.1⟩) Tryz.underlying124 (e := 3) (by kernel_rfl)
   (eP (hZ _ Tryz.underlying122) rfl (by kernel_rfl) (eP (hZ _ Tryz.underlying3) rfl (by kernel_rfl) (eP (rd_sl Tryz.underlying53 (by kernel_rfl) (rd_exp n)) rfl (by kernel_rfl) pO)))
   (fun b => aDV b.1 b.2.1 b.2.2.1) (fun b => by simp only [nE, vS]; omega) (fun b _ hb => by simp only [nE, vS] at *; omega)) cs x h hb
theorem aG7 : ∀ n : Nat, RdP enc W n aW 197 (fun _ => 0) (fun _ => True)
 | 0 => nR
 | n + 1 => qA (T := aW) (fun b : Int × Int × Unit => ⟨b.1, b.2.1⟩) Tryz.underlying197 (e := 2) (by kernel_rfl)
   (eP (hZ n Tryz.underlying3) rfl (by kernel_rfl) (eP (hZ n Tryz.underlying3) rfl (by kernel_rfl) pO))
   (fun _ => rfl) (fun _ => a1H _) (fun _ _ _ => trivial)
theorem aIb : ∀ n : Nat, RdP enc W n bB 137 (fun _ => 0) (fun _ => True)
 | 0 => nR
 | n + 1 => qA (T := bB) (fun b : Int × Int × Unit => ⟨b.1, b.2.1⟩) Tryz.underlying137 (e := 2) (by kernel_rfl)
   (eP (hZ n Tryz.underlying3) rfl (by kernel_rfl) (eP (hZ n Tryz.underlying3) rfl (by kernel_rfl) pO))
   (fun _ => rfl) (fun _ => a1H _) (fun _ _ _ => trivial)
theorem aFV : ∀ n : Nat, RdP enc W n bF 134 (fun _ => 0) (fun x => x.Af.length <= 2000000)
 | 0 => nR
 | n + 1 => qA (T := bF) (fun b : Int × List Int × Int × Unit => ⟨b.1, b.2.1, b.2.2.1⟩) Tryz.underlying134 (e := 3) (by kernel_rfl)
   (eP (hZ n Tryz.underlying3) rfl (by kernel_rfl) (eP (zD n Tryz.underlying23 Tryz.underlying3 (by kernel_rfl)) rfl (by kernel_rfl) (eP (hZ n Tryz.underlying3) rfl (by kernel_rfl) pO)))
   (fun _ => rfl) (fun _ => a1H _) (fun b h _ => by have := h.2.1; show b.2.1.length <= _; omega)
theorem aFU : ∀ n : Nat, RdP enc W n aA 130 (fun _ => 0) (smD)
 | 0 => nR
 | n + 1 => qA (T := aA) (fun b : List Ar × List As × List Al × Unit => ⟨b.1, b.2.1, b.2.2.1⟩) Tryz.underlying130 (e := 3) (by kernel_rfl)
   (eP (pJ Tryz.underlying126 (by kernel_rfl) aG7) rfl (by kernel_rfl) (eP (pJ Tryz.underlying127 (by kernel_rfl) aIb) rfl (by kernel_rfl) (eP (pJ Tryz.underlying128 (by kernel_rfl) aFV) rfl (by kernel_rfl) pO)))
   (fun _ => rfl) (fun _ => a1H _) (fun b h _ => ⟨by have := h.1.1; show b.1.length <= _; omega, by have := h.2.1.1; show b.2.1.length <= _; omega, by have := h.2.2.1.1; show b.2.2.1.length <= _; omega, h.2.2.1.2⟩)
theorem aHl : ∀ n : Nat, RdP enc W n aT 55 (fun _ => 0) (fun x => (x.Aa.length <= 2000000 /\ x.AU.length <= 2000000 /\ ∀ e ∈ x.Aa, nE e <= 2000000) /\ x.AI.length <= 2000000)
 | 0 => nR
 | n + 1 => qA (T := aT) (fun b : Int × Int × List AW × List Int × List Int × Unit => ⟨b.1, b.2.1, b.2.2.1, b.2.2.2.1, b.2.2.2.2.1⟩) Tryz.underlying55 (e := 5) (by kernel_rfl)
   (eP (hZ n Tryz.underlying52) rfl (by kernel_rfl) (eP (hZ n Tryz.underlying3) rfl (by kernel_rfl) (eP (pJ Tryz.underlying53 (by kernel_rfl) rd_exp) rfl (by kernel_rfl) (eP (zD n Tryz.underlying23 Tryz.underlying3 (by kernel_rfl)) rfl (by kernel_rfl) (eP (zD n Tryz.underlying23 Tryz.underlying3 (by kernel_rfl)) rfl (by kernel_rfl) pO)))))
   (fun _ => rfl) (fun _ => a1H _) (fun b h _ => ⟨⟨by have := h.2.2.1.1; show b.2.2.1.length <= _; omega, by have := h.2.2.2.1; show b.2.2.2.1.length <= _; omega, fun e he => a1z (h.2.2.1.2 e he) (by omega)⟩, by have := h.2.2.2.2.1; show b.2.2.2.2.1.length <= _; omega⟩)
theorem aFw : ∀ n : Nat, RdP enc W n jI 27 (fun _ => 0) (SmF)
 | 0 => nR
 | n + 1 => qA (T := jI) (fun b : List ByteArray × List Int × List Ao × List AN × Int × Unit => ⟨b.1, b.2.1, b.2.2.1, b.2.2.2.1, b.2.2.2.2.1⟩) Tryz.underlying27 (e := 5) (by kernel_rfl)
   (eP (pJ (S := fun s : ByteArray => s.size <= 1048576) Tryz.underlying22 (by kernel_rfl) (fun k => (rd_str (n := k) Tryz.underlying9))) rfl (by kernel_rfl) (eP (zD n Tryz.underlying23 Tryz.underlying3 (by kernel_rfl)) rfl (by kernel_rfl) (eP (pJ Tryz.underlying24 (by kernel_rfl) aHl) rfl (by kernel_rfl) (eP (pJ Tryz.underlying25 (by kernel_rfl) aFU) rfl (by kernel_rfl) (eP (hZ n Tryz.underlying3) rfl (by kernel_rfl) pO)))))
   (fun _ => rfl) (fun _ => a1H _) (fun b h _ => ⟨by have := h.2.2.1.1; show b.2.2.1.length <= _; omega, by have := h.2.2.2.1.1; show b.2.2.2.1.length <= _; omega, by have := h.1.1; show b.1.length <= _; omega, fun x hx => a1z (h.1.2 x hx) (by omega), fun x hx => (h.2.2.1.2 x hx).1, fun x hx => (h.2.2.1.2 x hx).2, h.2.2.2.1.2, by have := h.2.1; show b.2.1.length <= _; omega⟩)
end
end Go.Proofs.YtpgkejpnhnoipaaGreat
namespace Go.SW
open Go.SX
theorem aGE {w w' : World} (h : w.keptBut w' (fun _ => False)) {p : MemPlace} (hp : p.block < w.heap.size) : w.sameAt w' p := by
 obtain ⟨_, _, h⟩ := h
 cases p with
 | cell b off =>
  have := h b hp;show w'.cell? _ = w.cell? _
  unfold World.cell?
  dsimp only at *
  cases h1 : w.heap[b]? with
  | none => rw [h1] at this; dsimp only at this; rw [this]
  | some o =>
   rw [h1] at this;cases o with
   | cells c t fr =>
    cases h2 : w'.heap[b]? with
    | none => rw [h2] at this; cases this
    | some o' =>
     rw [h2] at this;cases o' with
     | cells c' t' fr' =>
      dsimp only at this ⊢
      rw [this.2.2.2 off (fun f => f)]
     | _ => cases this
   | map es clock =>
    cases h2 : w'.heap[b]? with
    | none => rfl
    | some o' =>
     rw [h2] at this;cases o' with
     | cells => cases this
     | _ => rfl
   | _ => dsimp only at this; rw [this]
 | map b =>
  have := h b hp;show w'.heap[b]? = w.heap[b]?
  cases h1 : w.heap[b]? with
  | none => rw [h1] at this; exact this
  | some o =>
   rw [h1] at this;cases o with
   | cells c t fr =>
    cases h2 : w'.heap[b]? with
    | none => rw [h2] at this; cases this
    | some o' =>
     rw [h2] at this;cases o' with
     | cells c' t' fr' =>
      dsimp only at this
      obtain ⟨rfl, rfl, hs, hc⟩ := this;have : c' = c := Array.ext_getElem? fun j => hc j (fun f => f)
      rw [this]
     | _ => cases this
   | map es clock =>
    cases h2 : w'.heap[b]? with
    | none => rw [h2] at this; cases this
    | some o' =>
     rw [h2] at this;cases o' with
     | map es' clock' =>
      rcases this with f | ⟨rfl, rfl⟩
      ·exact f.elim
      ·rfl
     | _ => cases this
   | _ => exact this
theorem aD1 {H : Type} {enc : TypeId × Value -> H} {P : Program} {W W' : World} (hl : laidOutB P = true) (hm : mapsRowed P = true) (hz : ∀ t e, t < P.types.size -> P.underlying t = some (.slice e) -> 0 < P.cellsOf e) (hk : W.keptBut W' (fun _ => False)) :
  ∀ {ts : List TypeId} {vs : List Value} {ds : List (DataW H)} {ps : List MemPlace}, (∀ t ∈ ts, t < P.types.size) -> DataW.TrodAll enc P W 0 (fun _ => true) true ts vs ds ps -> DataW.TrodAll enc P W' 0 (fun b => decide (b < W.heap.size)) true ts vs ds ps
 | [], [], [], _, _, h => h
 | t :: _, _ :: _, _ :: _, ps, ht, h => by
  have hlt := h.lt;obtain ⟨p, q, ⟨n, hn⟩, h2, e⟩ := h;refine ⟨p, q, ⟨n, ?_⟩, aD1 hl hm hz hk (fun t h => ht t (.tail _ h)) h2, e⟩
  have hp : ∀ x ∈ p, x.block < W.heap.size := fun x hx => hlt x (by rw [e]; exact a1c _ hx)
  exact DataW.trod_stays (kids_rows hl hm) (fun a b => hz _ _ a b) (fun f => by cases f) (ht t (.head _)) hn (fun x hx => aGE hk (hp x hx)) (fun x hx => a1S (hp x hx))
 | [], _ :: _, _, _, _, h => h.elim
 | [], [], _ :: _, _, _, h => h.elim
 | _ :: _, [], _, _, _, h => h.elim
 | _ :: _, _ :: _, [], _, _, h => h.elim
end Go.SW
