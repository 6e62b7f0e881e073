/- Parts of the proof: lemmas, and the steps through the program. -/
import Derived.Test.YtpgkejpnhnoipaaGreatFc3
import Derived.Laws.Append
import Derived.RangeFuncLeaves
import Derived.RangeFuncRecord
import Derived.RecoverIn
import Derived.RangeFuncNested
import Derived.LoopNIn
import Derived.OrdersIn
import Derived.Test.YtpgkejpnhnoipaaGreatProg
import Derived.KernelRfl
set_option linter.unusedVariables false
set_option linter.unusedSimpArgs false
set_option maxRecDepth 100000
set_option maxHeartbeats 2000000
namespace Go.BX
open RowKit (Below)
noncomputable section
section
variable {P : Program} {o : Oper} {a : Act} {w : World} {g : G} {ρ : Rho} {r : O × S} {kv : KV} {kp : List PE -> AL} {kd : Df -> AL} {e : Tr V} {n : Nat} {h : Tr Blk} {nx : Nat} {lg : List Fp} {ex : Ex}
theorem ba_eq {s t : ByteArray} (h : (s == t) = true) : s = t := by
 have : ByteArray.beq s t = true := h
 unfold ByteArray.beq at this
 cases s; cases t
 simp at this
 simp [this]
theorem ba_refl (s : ByteArray) : (s == s) = true := by
 show ByteArray.beq s s = true
 unfold ByteArray.beq
 simp
def KeyK (d : TypeDesc) (v : V) (x : Value) : Prop := (∃ k k' i, d = .int k /\ v = .int k' i /\ x = .int k' i) \/ (∃ s, d = .string /\ v = .str s /\ x = .string s)
theorem aC3 {kt : Nat} {b : Bool} {v : V} {x : Value} (hk : isKey P kt = some b) (hv : keyOk b v = true) (hx : tv ρ v = some x) : ∃ d, P.underlying kt = some d /\ KeyK d v x := by
 unfold isKey at hk
 split at hk
 ·rename_i k hu;cases hk;cases v <;> first
   | (cases hv; done)
   | skip
  cases hx;exact ⟨_, dY hu, .inl ⟨_, _, _, rfl, rfl, rfl⟩⟩
 ·rename_i hu;cases hk;cases v <;> first
   | (cases hv; done)
   | skip
  cases hx;exact ⟨_, dY hu, .inr ⟨_, rfl, rfl, rfl⟩⟩
 ·cases hk
theorem aCi {d : TypeDesc} {v v' : V} {x x' : Value} {b : Bool} (hk : KeyK d v x) (h : qL v v' = some b) (hx' : tv ρ v' = some x') : Instr.sameNow d x x' = some b /\ (b = true -> Instr.sameBits 10000 x' x = true) := by
 have beqi : ∀ (i j : Int), eqI i j = (i == j) := fun i j => by rw [yT, a0l]; simp
 rcases hk with ⟨k, k', i, rfl, rfl, rfl⟩ | ⟨s, rfl, rfl, rfl⟩
 ·cases v' <;> first
   | (cases k' <;> cases h; done)
   | skip
  rename_i k2 j;cases hx';cases k' <;> cases k2 <;> first
   | (cases h; done)
   | (simp only [qL, a1M] at h
      subst h;refine ⟨by simp [Instr.sameNow, beqi], fun hb => ?_⟩
      rw [yT] at hb;simp only [a1T] at hb;subst hb;simp [Instr.sameBits])
 ·cases v' <;> first
   | (cases h; done)
   | skip
  rename_i s';cases hx';simp only [qL, a1M] at h;subst h;refine ⟨by simp [Instr.sameNow], fun hb => ?_⟩
  have := ba_eq hb;subst this;simp [Instr.sameBits, ba_refl]
theorem aCz {d : TypeDesc} {v : V} {x : Value} (hk : KeyK d v x) : ∀ {es : List Ent} {ms : List MapEntry} {rr : Option V} (i : Nat), jU ρ es ms -> uB v es = some rr ->
  (rr = none /\ Instr.findNow d x ms i = some none) \/ ∃ u y j, rr = some u /\ tv ρ u = some y /\ Instr.findNow d x ms i = some (some (j, y))
 | [], [], rr, i, _, hf => by cases hf; exact .inl ⟨rfl, rfl⟩
 | [], _ :: _, _, _, hr, _ => hr.elim
 | _ :: _, [], _, _, hr, _ => hr.elim
 | e :: es, m :: ms, rr, i, hr, hf => by
  obtain ⟨⟨h1, h2, h3⟩, h4⟩ := hr;simp only [uB] at hf;cases hq : qL v e.key with
  | none => rw [hq] at hf; cases hf
  | some b =>
   rw [hq] at hf;obtain ⟨h5, _⟩ := aCi hk hq h1;cases b with
   | true => cases hf; exact .inr ⟨_, _, i, rfl, h2, by simp [Instr.findNow, h5]⟩
   | false =>
    rcases aCz hk (i + 1) h4 hf with ⟨h6, h7⟩ | ⟨u, y, j, h6, h7, h8⟩
    ·exact .inl ⟨h6, by simp [Instr.findNow, h5, h7]⟩
    ·exact .inr ⟨u, y, j, h6, h7, by simp [Instr.findNow, h5, h8]⟩
theorem aEy {d : TypeDesc} {v u : V} {x y : Value} {c : Nat} (hk : KeyK d v x) (hv : tv ρ v = some x) (hu : tv ρ u = some y) : ∀ {es : List Ent} {ms : List MapEntry} {q : List Ent × Nat} (i : Nat), jU ρ es ms -> setE v u c es = some q ->
  (∃ j m, Instr.findNow d x ms i = some (some (i + j, m.val)) /\ ms[j]? = some m /\ Instr.sameBits 10000 m.key x = true /\ q.2 = c /\ jU ρ q.1 (ms.modify j fun e => { e with key := x, val := y })) \/
  (Instr.findNow d x ms i = some none /\ q.2 = c + 1 /\ jU ρ q.1 (ms ++ [{ key := x, val := y, born := c }]))
 | [], [], q, i, _, hf => by cases hf; exact .inr ⟨rfl, rfl, ⟨hv, hu, rfl⟩, trivial⟩
 | [], _ :: _, _, _, hr, _ => hr.elim
 | _ :: _, [], _, _, hr, _ => hr.elim
 | e :: es, m :: ms, q, i, hr, hf => by
  obtain ⟨⟨h1, h2, h3⟩, h4⟩ := hr;simp only [setE] at hf;cases hq : qL v e.key with
  | none => rw [hq] at hf; cases hf
  | some b =>
   rw [hq] at hf;obtain ⟨h5, h6⟩ := aCi hk hq h1;cases b with
   | true =>
    cases hf;exact .inl ⟨0, m, by simp [Instr.findNow, h5], rfl, h6 rfl, rfl, ⟨hv, hu, h3⟩, h4⟩
   | false =>
    simp only at hf
    cases hs : setE v u c es with
    | none => rw [hs] at hf; cases hf
    | some q' =>
     rw [hs] at hf;cases hf;rcases aEy hk hv hu (i + 1) h4 hs with ⟨j, m', g1, g2, g3, g4, g5⟩ | ⟨g1, g2, g3⟩
     ·exact .inl ⟨j + 1, m', by simp [Instr.findNow, h5, g1]; omega, by simpa using g2, g3, g4, by rw [List.modify_succ_cons]; exact ⟨⟨h1, h2, h3⟩, g5⟩⟩
     ·exact .inr ⟨by simp [Instr.findNow, h5, g1], g2, ⟨h1, h2, h3⟩, g3⟩
theorem aEv {t : Nat} {q : Nat × Bool} (hq : mapOf P t = some q) : ∃ kt, P.underlying t = some (.map kt q.1) /\ isKey P kt = some q.2 := by
 unfold mapOf at hq
 split at hq
 ·rename_i kt el hu;split at hq
  ·rename_i b hb; cases hq; exact ⟨kt, dY hu, hb⟩
  ·cases hq
 ·cases hq
theorem aBf {kt : Nat} {d : TypeDesc} {v : V} {x : Value} {b : Bool} (hd : P.underlying kt = some d) (hk : KeyK d v x) : (Instr.checkKey b 10000 kt x).run P w = .ok () w := by
 obtain ⟨dd, ED⟩ : ∃ d, ∀ b t v, Instr.checkKey b 10000 t v = Instr.checkKey b (d + 1) t v := ⟨9999, fun _ _ _ => rfl⟩
 rw [ED]
 rcases hk with ⟨k, k', i, rfl, rfl, rfl⟩ | ⟨s, rfl, rfl, rfl⟩ <;> simp [Instr.checkKey, a1O, SX.run_underlying hd, Sem.run, Pure.pure]
theorem uP {kt : Nat} {d : TypeDesc} {x : Value} {ms : List MapEntry} {rr : Option (Nat × Value)} (hd : P.underlying kt = some d) (hf : Instr.findNow d x ms 0 = some rr) : (Instr.findKey kt x ms).run P w = .ok rr w := by
 simp [Instr.findKey, a1O, SX.run_underlying hd, hf, Sem.run, Pure.pure]
theorem aBT {ok b : Bool} {v : V} {y : Value} (hv : tv ρ v = some y) : tv ρ (okT ok b v) = some (if ok then .tuple #[y, .bool b] else y) := by
 cases ok with
 | true => simp only [okT, tv, tvs, hv]; rfl
 | false => simp only [okT, hv]; rfl
theorem s_look {t : Nat} {x y : Operand} {ok : Bool} (ho : o.op = .lookup t x y ok) (he : cC ρ e n a.tmps) (R : Rel g ρ h nx w) (q : run (vU t x y ok P ex e kv kp kd) h nx lg = some r) : OkV P o a w g ρ r kv := by
 obtain ⟨m, v, h1, h2, q1⟩ := rE q
 obtain ⟨p, hp, q2⟩ := bR q1
 obtain ⟨z, hz, q3⟩ := bR q2
 obtain ⟨hk, q4⟩ := dU q3
 obtain ⟨kt, hU, hK⟩ := aEv hp
 have hm := dD he h1
 have hv := dD he h2
 obtain ⟨d, hd, hkk⟩ := aC3 hK hk hv
 obtain ⟨zv, g1, g2⟩ := kT (ρ := ρ) hz w
 have hUr := SX.run_underlying hU w
 rcases aBB q4 with ⟨b, rfl, q5⟩ | ⟨rfl, q5⟩
 ·rw [kY] at q5;obtain ⟨ob, h1', n1, l, e1, q6⟩ := dZ q5;obtain ⟨y', o', k1, k2, k3, _, rfl, rfl⟩ := nH R e1;cases ob with
  | loop => cases q6
  | dfr => cases q6
  | map es ck =>
   cases o' <;> first
    | exact k3.elim
    | skip
   rename_i ms ck';simp only [tv, k1, a1K, a1M] at hm;obtain ⟨rr, hf, q7⟩ := bR (o := uB v es) (f := fun r => opt r (kv (okT ok false z)) fun v => kv (okT ok true v)) q6
   have hck := aBf (P := P) (w := w) (b := ms.isEmpty) hd hkk;rcases aCz hkk 0 k3.2 hf with ⟨rfl, h7⟩ | ⟨u, y2, j, rfl, h6, h7⟩
   ·have hfr := uP (P := P) (w := w) hd h7;refine .pure R ?_ (aBT (b := false) g2) q7;simp [execOp, ho, <- hm, Instr.lookup, a1O, hUr, getObj, k2, hck, hfr, g1, Sem.run, Pure.pure]
   ·have hfr := uP (P := P) (w := w) hd h7;refine .pure R ?_ (aBT (b := true) h6) q7;simp [execOp, ho, <- hm, Instr.lookup, a1O, hUr, getObj, k2, hck, hfr, Sem.run, Pure.pure]
 ·cases hm' : a.eval x <;> rw [hm'] at hm <;> cases hm
  have hck := aBf (P := P) (w := w) (b := true) hd hkk;have hfr := uP (P := P) (w := w) (x := a.eval y) (ms := []) (rr := none) hd rfl;refine .pure R ?_ (aBT (b := false) g2) q5;simp [execOp, ho, hm', Instr.lookup, a1O, hUr, hck, hfr, g1, Sem.run, Pure.pure]
theorem s_upd {t : Nat} {x y z : Operand} (ho : o.op = .mapUpdate t x y z \/ o.op = .insert t x y z) (he : cC ρ e n a.tmps) (R : Rel g ρ h nx w) (q : run (hUpd t x y z P ex e kv kp kd) h nx lg = some r) : OkV P o a w g ρ r kv := by
 obtain ⟨m, v, u, h1, h2, h3, q1⟩ := aDj q
 obtain ⟨p, hp, q2⟩ := bR q1
 obtain ⟨hk, q3⟩ := dU q2
 obtain ⟨kt, hU, hK⟩ := aEv hp
 have hm := dD he h1
 have hv := dD he h2
 have hu := dD he h3
 obtain ⟨d, hd, hkk⟩ := aC3 hK hk hv
 have hUr := SX.run_underlying hU w
 rcases aBB q3 with ⟨b, rfl, q5⟩ | ⟨rfl, q5⟩
 ·rw [kY] at q5;obtain ⟨ob, h1', n1, l, e1, q6⟩ := dZ q5;obtain ⟨y', o', k1, k2, k3, _, rfl, rfl⟩ := nH R e1;cases ob with
  | loop => cases q6
  | dfr => cases q6
  | map es ck =>
   cases o' <;> first
    | exact k3.elim
    | skip
   rename_i ms ck';obtain ⟨hck0, hents⟩ := k3;subst hck0;simp only [tv, k1, a1K, a1M] at hm;obtain ⟨qq, hf, q7⟩ := bR (o := setE v u ck' es) (f := fun q => AL.setO b (.map q.1 q.2) (kv eS)) q6
   rw [tX] at q7;obtain ⟨_, h2', n2, l2, e2, q8⟩ := dZ q7;have hck := aBf (P := P) (w := w) (b := false) hd hkk;rcases aEy hkk hv hu 0 hents hf with ⟨j, m', f1, f2, f3, f4, f5⟩ | ⟨f1, f2, f3⟩
   ·have hfr := uP (P := P) (w := w) hd f1;have hRel := sW R e2 k1 (o1 := .map (ms.modify j fun e => { e with key := a.eval y, val := a.eval z }) qq.2) ⟨rfl, by rw [Array.toList_modify]; exact f5⟩
    refine ⟨eS, undef, ρ, h2', n2, _, _, .inr ⟨?_, rfl⟩, Rho.le_refl ρ, hRel, rfl, q8⟩;have f2' : ms[j]? = some m' := by simpa using f2
    rw [a1G] at hfr;rcases ho with ho | ho <;> simp [execOp, ho, <- hm, Instr.mapUpdate, a1O, hUr, getObj, setObj, k2, hck, hfr, f2', Instr.keyThatStays, f3, f4, Sem.run, Pure.pure]
   ·have hfr := uP (P := P) (w := w) hd f1;have hRel := sW R e2 k1 (o1 := .map (ms.push { key := a.eval y, val := a.eval z, born := ck' }) qq.2) ⟨rfl, by rw [a0i]; exact f3⟩
    refine ⟨eS, undef, ρ, h2', n2, _, _, .inr ⟨?_, rfl⟩, Rho.le_refl ρ, hRel, rfl, q8⟩;rcases ho with ho | ho <;> simp [execOp, ho, <- hm, Instr.mapUpdate, a1O, hUr, getObj, setObj, k2, hck, hfr, f2, Sem.run, Pure.pure]
 ·cases q5
end
end
open RowKit (Below)
noncomputable section
section
variable {P : Program} {o : Oper} {a : Act} {w : World} {g : G} {ρ : Rho} {r : O × S} {kv : KV} {kp : List PE -> AL} {kd : Df -> AL} {e : Tr V} {n : Nat} {h : Tr Blk} {nx : Nat} {lg : List Fp} {ex : Ex}
theorem uW (he : cC ρ e n a.tmps) {x : Option Operand} {v : Option V} (hv : evO x e = some v) : (x = none /\ v = none) \/ ∃ y u, x = some y /\ v = some u /\ tv ρ u = some (a.eval y) := by
 unfold evO at hv
 split at hv
 ·cases hv; exact .inl ⟨rfl, rfl⟩
 ·rename_i y;split at hv
  ·rename_i u hu; cases hv; exact .inr ⟨y, u, rfl, rfl, dD he hu⟩
  ·cases hv
def Bd (a : Act) (x : Option Operand) (d m : Nat) : Prop := (x = none /\ m = d) \/ ∃ y k, x = some y /\ a.eval y = .int k (m : Int)
theorem jZ (he : cC ρ e n a.tmps) {x : Option Operand} {v : Option V} {d : Nat} {f : Nat -> AL} (hv : evO x e = some v) (q : run (ofB v d f) h nx lg = some r) : ∃ m, Bd a x d m /\ run (f m) h nx lg = some r := by
 rcases uW he hv with ⟨rfl, rfl⟩ | ⟨y, u, rfl, rfl, ht⟩
 ·exact ⟨d, .inl ⟨rfl, rfl⟩, q⟩
 ·obtain ⟨m, hm, q1⟩ := bR (o := pT u) (f := f) q;obtain ⟨k, hk⟩ := aGS ht hm;exact ⟨m, .inr ⟨y, k, rfl, hk⟩, q1⟩
theorem nG {x : Value} {k : IntKind} {m y : Nat} {cd : BoundsCode} (hx : x = .int k (m : Int)) (hm : m <= y) : (Instr.sliceBound x y cd).run P w = .ok m w := by
 subst hx
 have h1 : (0 : Int) <= (m : Int) /\ (m : Int) <= (y : Int) := by omega
 simp [Instr.sliceBound, asIntOf, a1O, Sem.run, Pure.pure, hm]
theorem vH {len cap l hh m : Nat} {lo hi mx : Option Operand} {is : Bool} (hl : Bd a lo 0 l) (hhi : Bd a hi len hh) (hm : Bd a mx cap m) (hok : mx = none \/ hi ≠ none) (h1 : l <= hh) (h2 : hh <= m) (h3 : m <= cap) :
  (Instr.sliceBounds is len cap (lo.map a.eval) (hi.map a.eval) (mx.map a.eval)).run P w = .ok (l, hh, m) w := by
 rcases hm with ⟨rfl, rfl⟩ | ⟨ym, km, rfl, em⟩ <;> rcases hhi with ⟨rfl, rfl⟩ | ⟨yh, kh, rfl, eh⟩ <;> rcases hl with ⟨rfl, rfl⟩ | ⟨yl, kl, rfl, el⟩ <;>
  first
   | (rcases hok with hok | hok <;> first | cases hok | exact absurd rfl hok)
   | skip
 ·simp [Instr.sliceBounds, a1O, Sem.run, Pure.pure]
 ·simp [Instr.sliceBounds, a1O, Sem.run, Pure.pure, nG el h1]
 ·simp [Instr.sliceBounds, a1O, Sem.run, Pure.pure, nG eh h2]
 ·simp [Instr.sliceBounds, a1O, Sem.run, Pure.pure, nG eh h2, nG el h1]
 ·simp [Instr.sliceBounds, a1O, Sem.run, Pure.pure, nG em h3, nG eh h2]
 ·simp [Instr.sliceBounds, a1O, Sem.run, Pure.pure, nG em h3, nG eh h2, nG el h1]
theorem hiOk_eq (he : cC ρ e n a.tmps) {hi mx : Option Operand} {vh vm : Option V} (h1 : evO hi e = some vh) (h2 : evO mx e = some vm) (hh : hiOk vh vm = true) : mx = none \/ hi ≠ none := by
 rcases uW he h2 with ⟨rfl, rfl⟩ | ⟨y, u, rfl, rfl, _⟩
 ·exact .inl rfl
 ·rcases uW he h1 with ⟨rfl, rfl⟩ | ⟨y, u, rfl, rfl, _⟩
  ·cases hh
  ·exact .inr (by simp)
theorem zZ {t el : Nat} {i : TypeInfo} {base : Option Addr} {len cap l hh m : Nat} {x : Operand} {lo hi mx : Option Operand} (ho : o.op = .slice t x lo hi mx) (hU : P.underlying t = some (.slice el)) (hi' : P.info? el = some i) (hx : a.eval x = .slice base len cap)
  (hb : (Instr.sliceBounds true len cap (lo.map a.eval) (hi.map a.eval) (mx.map a.eval)).run P w = .ok (l, hh, m) w) : (execOp a.eval o).run P w = .ok (.value (.slice (if m = l then base else base.map (·.add (l * i.size))) (hh - l) (m - l))) w := by
 simp [execOp, ho, hx, Instr.sliceAt, Instr.slice, a1O, SX.run_underlying hU, hb, SX.run_sizeOf hi', Sem.run, Pure.pure]
theorem aDg {es b off cap l hh m : Nat} {k : V -> AL} (q : run (slN es b off cap l hh m k) h nx lg = some r) : l <= hh /\ hh <= m /\ m <= cap /\ ((m = l /\ run (k (.sl b off (hh - l) (m - l))) h nx lg = some r) \/ (m ≠ l /\ run (k (.sl b (off + l * es) (hh - l) (m - l))) h nx lg = some r)) := by
 obtain ⟨h1, q1⟩ := dU q
 obtain ⟨a1, h2⟩ := and_true h1
 obtain ⟨a2, a3⟩ := and_true h2
 refine ⟨a1x a1, a1x a2, a1x a3, ?_⟩
 rcases gV q1 with ⟨hb, q2⟩ | ⟨hb, q2⟩
 ·exact .inl ⟨a1v hb, q2⟩
 ·exact .inr ⟨fun e => by subst e; simp at hb, q2⟩
theorem aBY {es b off len es0 : Nat} {p : AL} (R : Rel g ρ h nx w) (q : run (soOk es b off len es0 p) h nx lg = some r) : 0 < es /\ es0 = es /\ (∃ y, ρ b = some y /\ off + len * es <= y.2 * es /\ len <= y.2 - off / es) /\ ∃ lg', run p h nx lg' = some r := by
 obtain ⟨h0, q1⟩ := dU q
 obtain ⟨hes, h1⟩ := and_true h0
 have h1 := a1v h1
 rw [a1u] at hes
 rw [aBa] at q1
 obtain ⟨x, h', n1, l, e1, q2⟩ := dZ q1
 unfold pSz at e1
 split at e1
 ·rename_i c t op hb;cases e1;obtain ⟨h2, q3⟩ := dU q2;obtain ⟨a1, a2⟩ := and_true h2;have a1 : op = es := a1v a1;have a2 : off + len * es <= c.length := a1x a2;subst a1;obtain ⟨y, cl, junk, hy, hw, hc, _, hj⟩ := R.row hb;have := hj hes;have hl := hc.len;have hle : off + len * op <= y.2 * op := by omega
  refine ⟨hes, h1, ⟨y, hy, hle, ?_⟩, _, q3⟩;have h4 : (off + len * op) / op <= y.2 := by
   have := Nat.div_le_div_right (c := op) hle
   rwa [Nat.mul_div_cancel _ hes] at this
  rw [Nat.add_mul_div_right _ _ hes] at h4;omega
 ·cases e1
theorem wN {b off len es x κ : Nat} (h : ρ b = some (x, κ)) : tv ρ (.so b off len es) = some (.slice (some ⟨x, off, none⟩) len (κ - off / es)) := by simp [tv, h]
theorem s_slice {t : Nat} {x : Operand} {lo hi mx : Option Operand} (ho : o.op = .slice t x lo hi mx) (he : cC ρ e n a.tmps) (R : Rel g ρ h nx w) (q : run (uI t x lo hi mx P ex e kv kp kd) h nx lg = some r) : OkV P o a w g ρ r kv := by
 obtain ⟨v, h1, q1⟩ := fT q
 obtain ⟨vl, hl, q2⟩ := aA9 q1
 obtain ⟨vh, hh, q3⟩ := aA9 q2
 obtain ⟨vm, hm, q4⟩ := aA9 q3
 obtain ⟨hok, q5⟩ := dU q4
 have hok := hiOk_eq he hh hm hok
 have hv := dD he h1
 split at q5
 ·rename_i el hel;have hU := aCh hel;obtain ⟨es, hes, q6⟩ := bR q5;obtain ⟨i, hi', hsz⟩ := sL hes;rcases qW q6 with ⟨b, off, len, cap, rfl, q7⟩ | ⟨b, off, len, es0, rfl, q7⟩ | ⟨rfl, q7⟩ | q7
  ·obtain ⟨y, hb, hx⟩ := nY hv;obtain ⟨l, bl, q8⟩ := jZ he hl q7;obtain ⟨u, bh, q9⟩ := jZ he hh q8;obtain ⟨m, bm, q10⟩ := jZ he hm q9;obtain ⟨k1, k2, k3, k4⟩ := aDg q10;have hr := zZ (w := w) ho hU hi' hx (vH bl bh bm hok k1 k2 k3);rcases k4 with ⟨k4, q11⟩ | ⟨k4, q11⟩
   ·rw [a1V k4] at hr;exact .pure R hr (oQ (κ := y.2) hb) q11
   ·rw [a1U k4, a1K, nK, hsz] at hr;exact .pure R hr (oQ (κ := y.2) hb) q11
  ·obtain ⟨y, hb, hx⟩ := nB hv
   ·obtain ⟨h0, rfl, ⟨y', hb', hle, hcap⟩, lg1, q8⟩ := aBY R q7;rw [hb] at hb'; cases hb'
    obtain ⟨l, bl, q9⟩ := jZ he hl q8;obtain ⟨u, bh, q10⟩ := jZ he hh q9;rcases kR q10 with ⟨hmn, q11⟩ | ⟨vm', hmn, q11⟩
    ·have hmx : mx = none := by
      rcases uW he hm with ⟨h2, _⟩ | ⟨_, _, _, h3, _⟩
      ·exact h2
      ·rw [h3] at hmn; cases hmn
     subst hmx;obtain ⟨c1, q12⟩ := dU q11;obtain ⟨_, c2⟩ := and_true c1;obtain ⟨c3, c4⟩ := and_true c2;obtain ⟨c5, c6⟩ := and_true c4;have c3 : l <= u := a1x c3;have c5 : u <= len := a1x c5;have c7 : l = 0 \/ l < len := by
      cases hz : Nat.beq l 0 with
      | true => exact .inl (a1v hz)
      | false => rw [hz] at c6; exact .inr (by have : Nat.blt l len = true := c6; rwa [a1u] at this)
     have hr := zZ (w := w) ho hU hi' hx (vH bl bh (.inl ⟨rfl, rfl⟩) hok c3 (by omega) (a1y _))
     have haddr : (if (y.2 - off / es0) = l then (some (⟨y.1, off, none⟩ : Addr)) else (some ⟨y.1, off, none⟩ : Option Addr).map (·.add (l * i.size))) = some ⟨y.1, off + l * es0, none⟩ := by
      split
      ·have : l = 0 := by omega
       subst this; simp
      ·rw [a1K, nK, hsz]
     rw [haddr] at hr;refine .pure R hr ?_ q12;show tv ρ (.so b (off + l * es0) (u - l) es0) = _
     have := wN (off := off + l * es0) (len := u - l) (es := es0) (κ := y.2) hb;rw [this, Nat.add_mul_div_right _ _ h0, Nat.sub_sub]
    ·obtain ⟨m, bm, q12⟩ := jZ he hm q11;obtain ⟨k1, k2, k3, k4⟩ := aDg q12;have bm' : Bd a mx (y.2 - off / es0) m := by
      rcases bm with ⟨h2, _⟩ | h2
      ·subst h2; unfold evO at hm; cases hm; cases hmn
      ·exact .inr h2
     have hr := zZ (w := w) ho hU hi' hx (vH bl bh bm' hok k1 k2 (by omega))
     rcases k4 with ⟨k4, q13⟩ | ⟨k4, q13⟩
     ·rw [a1V k4] at hr;exact .pure R hr (oQ (κ := y.2) hb) q13
     ·rw [a1U k4, a1K, nK, hsz] at hr;exact .pure R hr (oQ (κ := y.2) hb) q13
  ·have hx : a.eval x = .slice none 0 0 := (a1L hv).symm;obtain ⟨l, bl, q8⟩ := jZ he hl q7;obtain ⟨u, bh, q9⟩ := jZ he hh q8;obtain ⟨m, bm, q10⟩ := jZ he hm q9;obtain ⟨h0, q11⟩ := dU q10;have h0 : l + (u + m) = 0 := a1v h0;obtain ⟨rfl, rfl, rfl⟩ : l = 0 /\ u = 0 /\ m = 0 := by omega
   have hr := zZ (w := w) ho hU hi' hx (vH bl bh bm hok (a1y _) (a1y _) (a1y _));exact .pure R hr rfl q11
  ·cases q7
 ·obtain ⟨hs, q6⟩ := dU q5;have hU : P.underlying t = some .string := by
   unfold isStr at hs;split at hs
   ·rename_i hu; exact dY hu
   ·cases hs
  rcases kR q6 with ⟨hmn, q7⟩ | ⟨_, _, q7⟩
  ·have hmx : mx = none := by
    rcases uW he hm with ⟨h2, _⟩ | ⟨_, _, _, h3, _⟩
    ·exact h2
    ·rw [h3] at hmn; cases hmn
   subst hmx;rcases aBn q7 with ⟨s, rfl, q8⟩ | q8
   ·have hx : a.eval x = .string s := (a1L hv).symm;obtain ⟨l, bl, q9⟩ := jZ he hl q8;obtain ⟨u, bh, q10⟩ := jZ he hh q9;obtain ⟨c1, q11⟩ := dU q10;obtain ⟨c2, c3⟩ := and_true c1;have hb := vH (P := P) (w := w) (is := false) bl bh (.inl ⟨rfl, rfl⟩) hok (a1x c2) (a1x c3) (a1y _);refine .pure (x := .string (s.extract l u)) R ?_ rfl q11;simp only [Option.map_none] at hb;simp [execOp, ho, hx, Instr.sliceAt, Instr.slice, a1O, SX.run_underlying hU, hb, Sem.run, Pure.pure]
   ·cases q8
  ·cases q7
end
end
open RowKit (Below)
noncomputable section
section
variable {P : Program} {o : Oper} {a : Act} {w : World} {g : G} {ρ : Rho} {r : O × S} {kv : KV} {kp : List PE -> AL} {kd : Df -> AL} {e : Tr V} {n : Nat} {h : Tr Blk} {nx : Nat} {lg : List Fp} {ex : Ex}
theorem Rel.drew (R : Rel g ρ h nx w) : Rel g ρ h nx w.drew := ⟨R.blk, R.inj, R.new, R.below.drew, R.lo, R.fresh, R.le, R.out⟩
theorem cells.uniq {l : List V} {x y : List Value} (h1 : cells ρ l x) (h2 : cells ρ l y) : x = y := a1L (h1.2.symm.trans h2.2)
theorem yG {b off m : Nat} {y : Nat × Nat} {k : List V -> AL} (R : Rel g ρ h nx w) (hb : ρ b = some y) (q : run (rdN b off m k) h nx lg = some r) :
  ∃ vs l lg', run (k vs) h nx lg' = some r /\ cells ρ vs l /\ vs.length = m /\ ∀ w', Rel g ρ h nx w' -> (loadCells ⟨y.1, off, none⟩ m).run P w' = .ok ⟨l⟩ w' := by
 rcases gV q with ⟨h0, q1⟩ | ⟨_, q1⟩
 ·have := a1v h0;subst this;exact ⟨[], [], lg, q1, cells.nil, rfl, fun w' _ => by simp [loadCells, loadCellsFrom, Sem.run, Pure.pure]⟩
 ·rw [aAF] at q1;obtain ⟨vs, h1, n1, l, e1, q2⟩ := dZ q1;obtain ⟨x, rr, h2, h3, h4, h5, h6, h7⟩ := aBb (P := P) R e1;subst h6 h7;rw [hb] at h2; cases h2
  refine ⟨vs, rr, _, q2, h4, h5, fun w' R' => ?_⟩
  obtain ⟨x', rr', g2, g3, g4, _⟩ := aBb (P := P) R' e1;rw [hb] at g2; cases g2
  rw [h4.uniq g4]; exact g3
theorem aFx (s : ByteArray) : cells ρ (zH s) (s.data.toList.map fun b => Value.int .u8 b.toNat) := by
 unfold zH
 generalize s.data.toList = l
 induction l with
 | nil => exact cells.nil
 | cons b l ih => exact ⟨tD.2 ⟨rfl, ih.1⟩, eT.2 ⟨_, _, rfl, ih.2, rfl⟩⟩
theorem aH1 {es : Nat} {v : V} {x : Value} {f : Nat -> List V -> AL} (R : Rel g ρ h nx w) (hv : tv ρ v = some x) (q : run (cellsOf es v f) h nx lg = some r) :
  ∃ m vs l lg', run (f m vs) h nx lg' = some r /\ cells ρ vs l /\ vs.length = m * es /\ ∀ w', Rel g ρ h nx w' -> (Builtin.lenOf x).run P w' = .ok m w' /\ (Builtin.firstCells es m x).run P w' = .ok ⟨l⟩ w' := by
 rcases qW q with ⟨b, off, len, cap, rfl, q1⟩ | ⟨b, off, len, es0, rfl, q1⟩ | ⟨rfl, q1⟩ | q1
 ·obtain ⟨y, hb, rfl⟩ := nY hv;obtain ⟨vs, l, lg', q2, h1, h2, h3⟩ := yG (P := P) R hb q1;exact ⟨len, vs, l, lg', q2, h1, h2, fun w' R' => ⟨by simp [Builtin.lenOf, Sem.run, Pure.pure], by simp only [Builtin.firstCells]; exact h3 w' R'⟩⟩
 ·obtain ⟨y, hb, rfl⟩ := nB hv;obtain ⟨vs, l, lg', q2, h1, h2, h3⟩ := yG (P := P) R hb q1;exact ⟨len, vs, l, lg', q2, h1, h2, fun w' R' => ⟨by simp [Builtin.lenOf, Sem.run, Pure.pure], by simp only [Builtin.firstCells]; exact h3 w' R'⟩⟩
 ·cases hv;exact ⟨0, [], [], lg, q1, cells.nil, by simp, fun w' R' => ⟨by simp [Builtin.lenOf, Sem.run, Pure.pure], by simp [Builtin.firstCells, Sem.run, Pure.pure]⟩⟩
 ·rcases aBn q1 with ⟨s, rfl, q2⟩ | q2
  ·cases hv;obtain ⟨h1, q3⟩ := dU q2;have h1 := a1v h1;subst h1;refine ⟨s.size, _, _, lg, q3, aFx s, by simp [zH], fun w' R' => ⟨by simp [Builtin.lenOf, Sem.run, Pure.pure], ?_⟩⟩
   have hx : (Array.map (fun b : UInt8 => Value.int IntKind.u8 (b.toNat : Int)) s.data).extract 0 s.size = Array.map (fun b : UInt8 => Value.int IntKind.u8 (b.toNat : Int)) s.data := by
    have hs : s.size = (Array.map (fun b : UInt8 => Value.int IntKind.u8 (b.toNat : Int)) s.data).size := by rw [Array.size_map]; rfl
    rw [hs, Array.extract_size]
   simp [Builtin.firstCells, Sem.run, Pure.pure, hx];apply Array.ext'; simp
  ·cases q2
structure ApT (P : Program) (ts : Array TypeId) (T U el : Nat) (i : TypeInfo) (zv : Value) : Prop where
 t0 : ts[0]? = some T
 t1 : ts[1]? = some U
 und : P.underlying T = some (.slice el)
 und2 : ∃ d, P.underlying U = some d /\ ∀ k, d ≠ .int k
 info : P.info? el = some i
 zero : i.zero = some zv
theorem tR {ts : Array TypeId} {T U el ty : Nat} {i : TypeInfo} {zv x : Value} {base : Option Addr} {len cap m : Nat} {news : List Value} {rest : List Value} {w' : World} (A : ApT P ts T U el i zv)
  (hl : (Builtin.lenOf x).run P w = .ok m w) (hf : (Builtin.firstCells i.size m x).run P w = .ok ⟨news⟩ w) (hr : len + m <= cap)
  (hs : match base with | some p => (storeCells (p.add (len * i.size)) news).run P w = .ok () w' | none => w' = w) :
  (Builtin.append_ ts ty (.slice base len cap :: x :: rest).toArray).run P w = .ok (.slice base (len + m) cap) w' := by
 obtain ⟨d, hd, hk⟩ := A.und2
 have hnum : (match d with | .int _ => true | _ => false) = false := by cases d <;> first | rfl | exact absurd rfl (hk _)
 cases base with
 | none =>
  subst hs;cases d <;> first
   | exact absurd rfl (hk _)
   | simp [Builtin.append_, A.t0, A.t1, a1O, SX.run_underlying A.und, SX.run_underlying hd, SX.run_sizeOf A.info, hl, hf, hr, Sem.run, Pure.pure]
 | some p =>
  simp only at hs
  cases d <;> first
   | exact absurd rfl (hk _)
   | simp [Builtin.append_, A.t0, A.t1, a1O, SX.run_underlying A.und, SX.run_underlying hd, SX.run_sizeOf A.info, hl, hf, hr, hs, Sem.run, Pure.pure]
theorem app_grow {ts : Array TypeId} {T U el ty : Nat} {i : TypeInfo} {zv x : Value} {base : Option Addr} {len cap m : Nat} {olds news : List Value} {rest : List Value} (A : ApT P ts T U el i zv)
  (hl : (Builtin.lenOf x).run P w = .ok m w) (hf : (Builtin.firstCells i.size m x).run P w.drew = .ok ⟨news⟩ w.drew) (ho : (Builtin.firstCells i.size len (.slice base len cap)).run P w.drew = .ok ⟨olds⟩ w.drew)
  (hg : cap < len + m) (hlim : len + m <= 1048576) (hby : i.bytes <= 1048576) :
  (Builtin.append_ ts ty (.slice base len cap :: x :: rest).toArray).run P w = .ok (.slice (some ⟨w.heap.size, 0, none⟩) (len + m) (grownCap w (len + m) cap el))
   (w.drew.alloc (.cells (⟨olds ++ news ++ (Builtin.zeroCells zv.cells (grownCap w (len + m) cap el - (len + m))).toList⟩) el)) := by
 obtain ⟨d, hd, hk⟩ := A.und2
 have hn : ¬ (len + m <= cap) := by omega
 have h63 : ¬ (9223372036854775807 < ((len : Int) + (m : Int))) := by omega
 have hfit := growslice_fits (bytes := i.bytes) hg (by
  have : (len + m) * i.bytes <= 1048576 * 1048576 := Nat.mul_le_mul hlim hby;omega)
 have h48 : ¬ (281474976710656 < Builtin.nextslicecap (len + m) cap * i.bytes) := by omega
 have e : (⟨olds⟩ ++ ⟨news⟩ ++ Builtin.zeroCells zv.cells (grownCap w (len + m) cap el - (len + m)) : Array Value) = ⟨olds ++ news ++ (Builtin.zeroCells zv.cells (grownCap w (len + m) cap el - (len + m))).toList⟩ := by
  apply Array.ext'; simp
 rw [<- e]
 have hU := fun w => SX.run_underlying (P := P) A.und w
 have hD := fun w => SX.run_underlying (P := P) hd w
 cases d <;> first
  | exact absurd rfl (hk _)
  | (simp [Builtin.append_, A.t0, A.t1, hU, hD, sizeOf, typeInfo, zeroValue, A.info, A.zero, hl, hn, h63, h48, Question.forced, hf, ho, newRow, grownCap]
     apply congrArg
     congr 1
     apply Array.ext'; simp)
end
end
open RowKit (Below)
noncomputable section
section
variable {P : Program} {o : Oper} {a : Act} {w : World} {g : G} {ρ : Rho} {r : O × S} {kv : KV} {kp : List PE -> AL} {kd : Df -> AL} {e : Tr V} {n : Nat} {h : Tr Blk} {nx : Nat} {lg : List Fp} {ex : Ex}
structure Same (w w' : World) (b : Nat) : Prop where
 other : ∀ c, c ≠ b -> w'.heap[c]? = w.heap[c]?
 size : w'.heap.size = w.heap.size
 os : w'.os = w.os
 output : w'.output = w.output
 tape : w'.tape = w.tape
theorem tT {b t : Nat} : ∀ (vs : List Value) (l : List Value) (w : World) (k i off : Nat), w.heap[b]? = some (.cells ⟨l⟩ t (0, 0)) -> (∀ v ∈ vs, dS v) -> off + vs.length <= l.length -> off = k + i ->
  ∃ w', (storeCells ⟨b, k, none⟩ vs i).run P w = .ok () w' /\ w'.heap[b]? = some (.cells ⟨l.take off ++ vs ++ l.drop (off + vs.length)⟩ t (0, 0)) /\ Same w w' b
 | [], l, w, k, i, off, hw, _, _, _ => ⟨w, rfl, by simpa using hw, fun _ _ => rfl, rfl, rfl, rfl, rfl⟩
 | v :: vs, l, w, k, i, off, hw, hv, hle, hk => by
  have hoff : off < l.length := by simp at hle; omega
  have hcell : w.cell? ⟨b, off, none⟩ = some l[off] := by rw [uE hw]; simp [hoff]
  have hfr : w.frozen? ⟨b, off, none⟩ = false := by simp [World.frozen?, hw]
  have hrun : (Go.store ⟨b, off, none⟩ v).run P w = .ok () (w.setCell ⟨b, off, none⟩ v) := SX.run_store (P := P) (by
   have := hv v (.head _);cases v <;> first | exact this.elim | trivial) hcell hfr
  have hset := aEi hw v (off := off);have e1 : (Array.setIfInBounds ⟨l⟩ off v : Array Value) = ⟨l.set off v⟩ := by apply Array.ext'; simp
  rw [e1] at hset;obtain ⟨w', h1, h2, h3⟩ := tT vs (l.set off v) _ k (i + 1) (off + 1) hset (fun u hu => hv u (.tail _ hu)) (by simp at hle ⊢; omega) (by omega)
  refine ⟨w', ?_, ?_, fun c hc => (h3.other c hc).trans (SX.setCell_other w ⟨b, off, none⟩ v hc), h3.size.trans (SX.setCell_size _ _ _), h3.os, h3.output, h3.tape⟩
  ·have e0 : Addr.add ⟨b, k, none⟩ i = ⟨b, off, none⟩ := by rw [vF, hk]
   simp only [storeCells, a1O, e0, hrun];exact h1
  ·rw [h2, aBD hle]
theorem aFF {z : Array Value} (k : Nat) : (Builtin.zeroCells z k).toList.length = k * z.size := by simp [Builtin.zeroCells]
theorem grow_run {el es m nc : Nat} {c : List V} {l zs : List Value} {k : V -> AL} (R : Rel g ρ h nx w) (hc : cells ρ c l) (hl : l.length = m * es) (hz : zs.length = (nc - m) * es) (hes : 0 < es) (hnc : m <= nc) (hi : r.2.nx <= g.hi) (q : run (grow el es m c k) h nx lg = some r) :
  m <= 1048576 /\ ∃ b ρ' h' nx' lg', ρ.le ρ' /\ Rel g ρ' h' nx' (w.alloc (.cells ⟨l ++ zs⟩ el)) /\ ρ' b = some (w.heap.size, nc) /\ run (k (.so b 0 m es)) h' nx' lg' = some r := by
 obtain ⟨hm, q1⟩ := dU q
 rw [xO] at q1
 obtain ⟨b, h1, n1, mm, e1, q2⟩ := dZ q1
 have hn1 := a1z (qM q2) hi
 have hn : ρ nx = none := by
  unfold iT at e1;split at e1
  ·cases e1; exact R.fresh nx (a1y _) hn1
  ·cases e1
 have hle := Rho.le_ins (x := (w.heap.size, nc)) hn
 obtain ⟨rfl, h2, h3⟩ := xH R e1 hn1 nc (.cells ⟨l ++ zs⟩ el) ⟨rfl, rfl, l, zs, hc.mono hle, rfl, fun h => absurd h (by omega), fun _ => by
  rw [hl, hz, <- a1s]; congr 1; omega⟩
 exact ⟨a1x hm, b, _, h1, n1, _, h2, h3, Rho.ins_self, q2⟩
theorem aHU (w : World) (need old : Nat) (el : TypeId) : need <= grownCap w need old el := by
 unfold grownCap; simp only [Question.cut]; omega
theorem adopt {b : Nat} {k k' : Blk} {x : Nat × Nat} {o' : Obj} {w' : World} (R : Rel g ρ h nx w) (hb : at_ h b = some k) (hx : ρ b = some x) (hn : nx + 1 <= g.hi) (hw : w'.heap[x.1]? = some o') (hs : Same w w' x.1) (hk : blkR (ρ.ins nx x) x.2 k' o') :
  ρ.le (ρ.ins nx x) /\ Rel g (ρ.ins nx x) (pu (pu h b none) nx (some k')) (nx + 1) w' := by
 have hnn : ρ nx = none := R.fresh nx (a1y _) hn
 have hle := Rho.le_ins (x := x) hnn
 have hne : b ≠ nx := fun e => by subst e; rw [hnn] at hx; cases hx
 have key : ∀ {c : Nat} {q : Blk}, at_ (pu (pu h b none) nx (some k')) c = some q -> (c = nx /\ q = k') \/ (c ≠ nx /\ c ≠ b /\ at_ h c = some q) := fun {c q} hc => by
  rw [fS] at hc;split at hc
  ·cases hc; exact .inl ⟨by assumption, rfl⟩
  ·rw [fS] at hc;split at hc
   ·cases hc
   ·exact .inr ⟨by assumption, by assumption, hc⟩
 have insne : ∀ {c : Nat}, c ≠ nx -> ρ.ins nx x c = ρ c := fun hc => by simp [Rho.ins, hc]
 refine ⟨hle, fun c q hc => ?_, fun c c' y y' h1 h2 h3 h4 h5 => ?_, fun c y hy => ?_, ⟨hs.os.trans R.below.os, hs.tape.trans R.below.tape, hs.output.trans R.below.output, by rw [hs.size]; exact R.below.size, fun c hc => ?_⟩, Nat.le_succ_of_le R.lo, fun c h1 h2 => ?_, Rho.le_trans R.le hle, fun c hc => ?_⟩
 ·rcases key hc with ⟨rfl, rfl⟩ | ⟨g1, g2, g3⟩
  ·exact ⟨x, o', Rho.ins_self, hw, hk⟩
  ·obtain ⟨y, o2, k1, k2, k3⟩ := R.blk c q g3;refine ⟨y, o2, hle _ _ k1, ?_, k3.mono hle⟩;rw [hs.other y.1 fun e => g2 (R.inj c b y x (by rw [g3]; simp) (by rw [hb]; simp) k1 hx e)]; exact k2
 ·obtain ⟨q, hq⟩ := Option.ne_none_iff_exists'.1 h1;obtain ⟨q', hq'⟩ := Option.ne_none_iff_exists'.1 h2;rcases key hq with ⟨rfl, _⟩ | ⟨g1, g2, g3⟩ <;> rcases key hq' with ⟨rfl, _⟩ | ⟨f1, f2, f3⟩
  ·rfl
  ·rw [Rho.ins_self] at h3; cases h3
   rw [insne f1] at h4;exact absurd (R.inj c' b y' x (by rw [f3]; simp) (by rw [hb]; simp) h4 hx h5.symm) f2
  ·rw [Rho.ins_self] at h4; cases h4
   rw [insne g1] at h3;exact absurd (R.inj c b y x (by rw [g3]; simp) (by rw [hb]; simp) h3 hx h5) g2
  ·rw [insne g1] at h3; rw [insne f1] at h4;exact R.inj c c' y y' (by rw [g3]; simp) (by rw [f3]; simp) h3 h4 h5
 ·unfold Rho.ins at hy;split at hy
  ·cases hy; exact R.new b x hx
  ·exact R.new c y hy
 ·have := R.new b x hx;rw [hs.other c (by omega)]; exact R.below.block c hc
 ·have : c ≠ nx := by omega
  rw [insne this]; exact R.fresh c (by omega) h2
 ·have := R.lo;have : c ≠ nx := by omega
  rw [insne this]; exact R.out c hc
theorem aHX {U : Nat} (hh : Bool.not (isInt P U) = true) : ∃ d, P.underlying U = some d /\ ∀ k, d ≠ .int k := by
 unfold isInt at hh
 split at hh
 ·cases hh
 ·cases hh
 ·rename_i x h1 h2;cases hu : und P U with
  | none => exact absurd hu (by intro h; exact h2 h)
  | some d => exact ⟨d, dY hu, fun k e => by subst e; exact h1 k hu⟩
theorem s_append {c : Call} (ho : o.op = .call c) (hc : c.callee = .builtin .append) (he : cC ρ e n a.tmps) (hi : r.2.nx <= g.hi) (R : Rel g ρ h nx w) (q : run (xD c P ex e kv kp kd) h nx lg = some r) : OkV P o a w g ρ r kv := by
 obtain ⟨vs, h1, q1⟩ := kP q
 have hvs := jG he h1
 split at q1
 ·rename_i T U ts s x us hT;obtain ⟨xs, xr, g1, g2, g3⟩ := eT.1 hvs;obtain ⟨xx, xr', g4, g5, rfl⟩ := eT.1 g2;have hargs := argsL g3;have t0 : c.argTypes[0]? = some T := by rw [<- a0f, hT]; rfl
  have t1 : c.argTypes[1]? = some U := by rw [<- a0f, hT]; rfl
  obtain ⟨p, hp, q2⟩ := bR q1;obtain ⟨hb, q3⟩ := dU q2;obtain ⟨hes, hU⟩ := and_true hb;rw [a1u] at hes;obtain ⟨i, zv, RT⟩ := zC ρ hp;have A : ApT P c.argTypes T U p.1 i zv := ⟨t0, t1, RT.und, aHX hU, RT.info, RT.zero⟩;obtain ⟨m, news, nl, lg1, q4, n1, n2, n3⟩ := aH1 (P := P) R g4 q3;have hnl := n1.len;have hsz : i.size = p.2.1 := RT.size;have hzs : zv.cells.size = p.2.1 := by have h1 := RT.zc.len; have h2 := RT.zl; rw [<- a0g]; omega
  have hl := fun w' R' => (n3 w' R').1
  have hf := fun w' R' => (n3 w' R').2
  rw [<- hsz] at hf;have fin : ∀ {u : V} {X : Value} {ρ' h' nx' lg' w'}, (Builtin.append_ c.argTypes o.type (xs :: xx :: xr').toArray).run P w = .ok X w' -> ρ.le ρ' -> Rel g ρ' h' nx' w' -> tv ρ' u = some X -> run (kv u) h' nx' lg' = some r -> OkV P o a w g ρ r kv :=
   fun {u X ρ' h' nx' lg' w'} hr k1 k2 k3 k4 => ⟨u, X, ρ', h', nx', lg', w', .inl (wC ho hc fun _ => by rw [hargs]; simp only [builtin]; rw [a1O, hr]; rfl), k1, k2, k3, k4⟩
  have grw : ∀ {base : Option Addr} {len cap : Nat} {oldsV : List V} {olds : List Value} {lg'}, xs = .slice base len cap -> cap < len + m -> cells ρ oldsV olds -> oldsV.length = len * p.2.1 ->
    (Builtin.firstCells i.size len (.slice base len cap)).run P w.drew = .ok ⟨olds⟩ w.drew -> ∀ {h0 : Tr Blk}, Rel g ρ h0 nx w -> run (grow p.1 p.2.1 (len + m) (ap oldsV news) kv) h0 nx lg' = some r -> OkV P o a w g ρ r kv := by
   intro base len cap oldsV olds lg' hX hg hco hlo hfo h0 R0 q5;have hlen : (olds ++ nl).length = (len + m) * p.2.1 := by rw [a0T, hco.len, hnl, hlo, n2, a1s]
   rw [iO] at q5;obtain ⟨k0, b, ρ', h', nx', lg2, k1, k2, k3, k4⟩ := grow_run (nc := grownCap w (len + m) cap p.1) (zs := (Builtin.zeroCells zv.cells (grownCap w (len + m) cap p.1 - (len + m))).toList) R0.drew (hco.app n1) hlen
    (by rw [aFF, hzs]) hes (aHU _ _ _ _) hi q5
   have hr := app_grow (P := P) (ty := o.type) (rest := xr') (olds := olds) A (hl w R) (hf w.drew R.drew) hfo hg k0 RT.bytes;rw [hX] at fin;refine fin hr k1 k2 ?_ k4;rw [wN k3]; simp
  rcases gV q4 with ⟨hm0, q5⟩ | ⟨hm0, q5⟩
  ·have hm0 := a1v hm0;subst hm0;have hnil : nl = [] := a0y (by rw [hnl, n2]; simp)
   subst hnil;rcases qW q5 with ⟨b, off, len, cap, rfl, q6⟩ | ⟨b, off, len, es0, rfl, q6⟩ | ⟨rfl, q6⟩ | q6
   ·obtain ⟨hle, q7⟩ := dU q6;obtain ⟨y, hb', rfl⟩ := nY g1;exact fin (tR (w' := w) A (hl w R) (hf w R) (a1x hle) (by simp [storeCells, Sem.run, Pure.pure])) (Rho.le_refl ρ) R (oQ (κ := y.2) hb') q7
   ·obtain ⟨_, rfl, ⟨y', hb', _, hcap⟩, lg2, q7⟩ := aBY R q6;obtain ⟨y, hb'', rfl⟩ := nB g1;rw [hb'] at hb''; cases hb''
    exact fin (tR (w' := w) A (hl w R) (hf w R) hcap (by simp [storeCells, Sem.run, Pure.pure])) (Rho.le_refl ρ) R (wN (κ := y'.2) hb') q7
   ·cases g1;exact fin (tR (w' := w) A (hl w R) (hf w R) (a1y _) rfl) (Rho.le_refl ρ) R rfl q6
   ·cases q6
  ·have hm : 0 < m := Nat.pos_of_ne_zero fun e => by subst e; simp at hm0
   have hnpos : 0 < news.length := by rw [n2]; exact Nat.mul_pos hm hes
   rcases qW q5 with ⟨b, off, len, cap, rfl, q6⟩ | ⟨b, off, len, es0, rfl, q6⟩ | ⟨rfl, q6⟩ | q6
   ·obtain ⟨y, hb', rfl⟩ := nY g1;have q6' : run (ife (Nat.ble (len + m) cap) (.wr b (off + len * p.2.1) news (kv (.sl b off (len + m) cap))) (rdN b off (len * p.2.1) fun old => grow p.1 p.2.1 (len + m) (ap old news) kv)) h nx lg1 = some r := q6
    rcases gV q6' with ⟨hle, q7⟩ | ⟨hle, q7⟩
    ·have hle := a1x hle;rw [vB] at q7;obtain ⟨_, h', n', l', e1, q8⟩ := dZ q7;obtain ⟨y2, w', k1, k2, k3⟩ := yR (P := P) R e1 n1;rw [hb'] at k1; cases k1
     exact fin (tR (w' := w') A (hl w R) (hf w R) hle (by simp only [nK, hsz]; exact k2)) (Rho.le_refl ρ) k3 (oQ (κ := y.2) hb') q8
    ·have hgt : cap < len + m := by
      rcases a1B cap (len + m) with h | h
      ·exact h
      ·rw [Nat.ble_eq_true_of_le h] at hle; cases hle
     obtain ⟨ov, ol, lg2, q8, k1, k2, k3⟩ := yG (P := P) R hb' q7;exact grw rfl hgt k1 k2 (by simp only [Builtin.firstCells, hsz]; exact k3 w.drew R.drew) R q8
   ·obtain ⟨h00, q7⟩ := dU q6;have h00 := a1v h00;subst h00;obtain ⟨y, hb', rfl⟩ := nB g1;have q8 := q7;unfold appO at q8;rw [aBa] at q8;obtain ⟨X, h', n', l', e1, q9⟩ := dZ q8;unfold pSz at e1;split at e1
    ·rename_i cc t op hcb;cases e1;obtain ⟨hh, q10⟩ := dU q9;obtain ⟨a1, a2⟩ := and_true hh;have hop : op = p.2.1 := a1v a1;have htt : t = p.1 := a1v a2;clear a1 a2 hh;subst hop htt;obtain ⟨y', cl, junk, hy, hw, hcl, _, hj⟩ := R.row hcb;rw [hb'] at hy; cases hy
     have hj := hj hes;have hcll := hcl.len;have q11 : run (ife (Nat.ble (off + (len + m) * p.2.1) cc.length) (.wr b (off + len * p.2.1) news (kv (.so b off (len + m) p.2.1)))
      (dH (Bool.and (Nat.beq off 0) (Nat.beq (len * p.2.1) cc.length)) (rdN b 0 (len * p.2.1) fun old => .del b (grow p.1 p.2.1 (len + m) (ap old news) kv)))) h nx _ = some r := q10
     rcases gV q11 with ⟨hle, q12⟩ | ⟨_, q12⟩
     ·have hle : off + (len + m) * p.2.1 <= cc.length := a1x hle;have hroom : len + m <= y.2 - off / p.2.1 := by
       have h5 : off + (len + m) * p.2.1 <= y.2 * p.2.1 := by omega
       have h4 : (off + (len + m) * p.2.1) / p.2.1 <= y.2 := by
        have := Nat.div_le_div_right (c := p.2.1) h5
        rwa [Nat.mul_div_cancel _ hes] at this
       rw [Nat.add_mul_div_right _ _ hes] at h4;omega
      rw [vB] at q12;obtain ⟨_, h2', n2', l2', e2, q13⟩ := dZ q12;obtain ⟨y2, w', k1, k2, k3⟩ := yR (P := P) R e2 n1;rw [hb'] at k1; cases k1
      exact fin (tR (w' := w') A (hl w R) (hf w R) hroom (by simp only [nK, hsz]; exact k2)) (Rho.le_refl ρ) k3 (wN (κ := y.2) hb') q13
     ·obtain ⟨hh2, q13⟩ := dU q12;obtain ⟨b1, b2⟩ := and_true hh2;have b1 := a1v b1;have b2 : len * p.2.1 = cc.length := a1v b2;subst b1;simp only [Nat.zero_div, Nat.sub_zero] at fin grw;obtain ⟨ov, ol, lg2, q14, k1, k2, k3⟩ := yG (P := P) R hb' q13;rw [aDK] at q14;obtain ⟨_, h3', n3', l3', e3, q15⟩ := dZ q14;have hR3 := aHM R e3;have e3' : h3' = pu h b none /\ n3' = nx := by
       unfold pDel at e3;rw [hcb] at e3;cases e3; exact ⟨rfl, rfl⟩
      obtain ⟨rfl, rfl⟩ := e3';by_cases hroom : len + m <= y.2
      ·have hol : ol = cl := by
        have h6 := k3 w R;have h7 := SX.run_loadCellsFrom (P := P) (w := w) (p := ⟨y.1, 0, none⟩) cl 0 #[] (fun j v hj => by
         rw [vF, uE hw, a0R, a1G, a1G, a0C (a0J.1 hj).1]; exact hj)
        rw [hcll, <- b2] at h7;unfold loadCells at h6;rw [h7] at h6;simp only [Result.ok.injEq] at h6;have := congrArg Array.toList h6.1;simpa using this.symm
       subst hol;obtain ⟨_, q16⟩ := dU q15;rw [xO] at q16;obtain ⟨b', h4, n4, l4, e4, q17⟩ := dZ q16;have hn4 := a1z (qM q17) hi;have e4' : b' = n3' /\ h4 = pu (pu h b none) n3' (some (.cells (ov ++ news) p.1 p.2.1)) /\ n4 = n3' + 1 := by
        unfold iT at e4;split at e4
        ·cases e4; rw [iO]; exact ⟨rfl, rfl, rfl⟩
        ·cases e4
       obtain ⟨rfl, rfl, rfl⟩ := e4';have hlen : len * p.2.1 + nl.length <= (ol ++ junk).length := by
        have h5 : (len + m) * p.2.1 <= y.2 * p.2.1 := a1E _ hroom;rw [a1s] at h5;rw [a0T, hj, hnl, n2]; exact h5
       obtain ⟨w', s1, s2, s3⟩ := tT (P := P) nl (ol ++ junk) w (0 + len * p.2.1) 0 (len * p.2.1) hw n1.is hlen (by omega)
       have e5 : (ol ++ junk).take (len * p.2.1) ++ nl ++ (ol ++ junk).drop (len * p.2.1 + nl.length) = (ol ++ nl) ++ junk.drop nl.length := by
        have h5 : len * p.2.1 = ol.length := by omega
        rw [h5, List.take_left, List.drop_append];congr 1
        rw [a0x (by omega)];simp
       rw [e5] at s2;have hRa := adopt R hcb hb' hn4 s2 s3 (k' := .cells (ov ++ news) p.1 p.2.1) ⟨rfl, rfl, ol ++ nl, junk.drop nl.length, ((k1.app n1).mono (Rho.le_ins (R.fresh _ (a1y _) hn4))), rfl, fun h => absurd h (by omega), fun _ => by
        rw [a0T] at hlen;simp only [a0T, a0V]; omega⟩
       have s1' : (storeCells ⟨y.1, 0 + len * p.2.1, none⟩ nl).run P w = .ok () w' := s1;refine fin (tR (w' := w') A (hl w R) (hf w R) hroom (by simp only [nK, hsz]; exact s1')) hRa.1 hRa.2 ?_ q17
       rw [wN Rho.ins_self]; simp
      ·exact grw rfl (by omega) k1 k2 (by simp only [Builtin.firstCells, hsz]; exact k3 w.drew R.drew) hR3 q15
    ·cases e1
   ·cases g1;exact grw (olds := []) (oldsV := []) rfl (by omega) cells.nil (by simp) (by simp [Builtin.firstCells, Sem.run, Pure.pure]) R (by
     rw [iO, a1k, a1G]; exact q6)
   ·cases q6
 ·cases q1
theorem s_clear {c : Call} (ho : o.op = .call c) (hc : c.callee = .builtin .clear) (he : cC ρ e n a.tmps) (R : Rel g ρ h nx w) (q : run (vM c P ex e kv kp kd) h nx lg = some r) : OkV P o a w g ρ r kv := by
 obtain ⟨vs, h1, q1⟩ := kP q
 have hvs := jG he h1
 split at q1
 ·rename_i T ts v us hT;obtain ⟨x, xs, g1, g2, g3⟩ := eT.1 hvs;have hargs := argsL g3;have t0 : c.argTypes[0]? = some T := by rw [<- a0f, hT]; rfl
  obtain ⟨p, hp, q2⟩ := bR q1;obtain ⟨i, zv, RT⟩ := zC ρ hp;have hU := SX.run_underlying RT.und w;have fin : ∀ {h' nx' lg' w'}, (Builtin.clear_ c.argTypes o.type (x :: xs).toArray).run P w = .ok (.tuple #[]) w' -> Rel g ρ h' nx' w' -> run (kv eS) h' nx' lg' = some r -> OkV P o a w g ρ r kv :=
   fun {h' nx' lg' w'} hr k2 k4 => ⟨eS, .tuple #[], ρ, h', nx', lg', w', .inl (wC ho hc fun _ => by rw [hargs]; simp only [builtin]; rw [a1O, hr]; rfl), Rho.le_refl ρ, k2, rfl, k4⟩
  have main : ∀ {b off len cap : Nat} {y : Nat × Nat}, ρ b = some y -> x = .slice (some ⟨y.1, off, none⟩) len cap -> run (ife (Nat.beq len 0) (kv eS) (.wr b off (rep p.2.2 len) (kv eS))) h nx lg = some r -> OkV P o a w g ρ r kv := by
   intro b off len cap y hb hx q3;subst hx;rcases gV q3 with ⟨h0, q4⟩ | ⟨h0, q4⟩
   ·have := a1v h0;subst this;exact fin (by simp [Builtin.clear_, t0, a1O, hU, Sem.run, Pure.pure]) R q4
   ·obtain ⟨k, rfl⟩ : ∃ k, len = k + 1 := ⟨len - 1, by cases len with | zero => simp at h0 | succ k => rfl⟩
    rw [vB] at q4;obtain ⟨_, h', n', l', e1, q5⟩ := dZ q4;have hz := zS (ρ := ρ) RT.zc (k + 1);obtain ⟨y2, w', k1, k2, k3⟩ := yR (P := P) R e1 hz;rw [hb] at k1; cases k1
    have hzz : (madeCells zv.cells ((k + 1) * p.2.2.length)).toList = (Builtin.zeroCells zv.cells (k + 1)).toList := by
     have : p.2.2.length = zv.cells.size := by have := RT.zc.len; rw [<- a0g]; omega
     rw [this]; rfl
    rw [hzz] at k2;have hzr : (zeroValue p.1).run P w = .ok zv w := by simp [zeroValue, typeInfo, RT.info, RT.zero, program, a1O, Sem.run, Pure.pure]
    exact fin (by simp [Builtin.clear_, t0, a1O, hU, hzr, k2, Sem.run, Pure.pure]) k3 q5
  rcases qW q2 with ⟨b, off, len, cap, rfl, q3⟩ | ⟨b, off, len, es0, rfl, q3⟩ | ⟨rfl, q3⟩ | q3
  ·obtain ⟨y, hb, hx⟩ := nY g1;exact main hb hx q3
  ·obtain ⟨y, hb, hx⟩ := nB g1;exact main hb hx q3
  ·cases g1;exact fin (by simp [Builtin.clear_, t0, a1O, hU, Sem.run, Pure.pure]) R q3
  ·cases q3
 ·cases q1
end
end
open RowKit (Below)
noncomputable section
def peR (ρ : Rho) (p : PE) (q : PanicEntry) : Prop := tv ρ p.v = some q.v /\ q.recovered = p.r /\ q.goexit = false
def gG (ρ : Rho) : List PE -> List PanicEntry -> Prop
 | [], [] => True
 | p :: ps, q :: qs => peR ρ p q /\ gG ρ ps qs
 | _, _ => False
def dfR (ρ : Rho) : Df -> Deferred -> Prop
 | .fn f args cap, d => ∃ xs ys, tvs ρ args = some xs /\ tvs ρ cap = some ys /\ d = { target := .fn (.func f) ⟨ys⟩, args := ⟨xs⟩ }
 | .col r, d => ∃ x, ρ r = some x /\ d = { target := .collected x.1, args := #[] }
def kL (ρ : Rho) : List Df -> List Deferred -> Prop
 | [], [] => True
 | p :: ps, q :: qs => dfR ρ p q /\ kL ρ ps qs
 | _, _ => False
def xR (ρ : Rho) : X -> Exit -> Prop
 | .normal, .normal => True
 | .exit i, .exit j => i = j
 | .ret, .ret => True
 | .panic ch, .panic ch' => gG ρ ch ch'
 | _, _ => False
structure AcR (ρ : Rho) (c : Ac) (a : Act) : Prop where
 env : cC ρ c.e c.n a.tmps
 ds : kL ρ c.ds a.defers
def roR (ρ : Rho) : Option Nat -> Option Nat -> Prop
 | none, none => True
 | some l, some l' => ∃ x, ρ l = some x /\ l' = x.1
 | _, _ => False
theorem gG.mono {ρ ρ' : Rho} (h : ρ.le ρ') : ∀ {p : List PE} {q : List PanicEntry}, gG ρ p q -> gG ρ' p q
 | [], [], _ => trivial
 | _ :: _, _ :: _, r => ⟨⟨mZ h _ r.1.1, r.1.2⟩, gG.mono h r.2⟩
 | [], _ :: _, r => r.elim
 | _ :: _, [], r => r.elim
theorem dfR.mono {ρ ρ' : Rho} (h : ρ.le ρ') {p : Df} {q : Deferred} (r : dfR ρ p q) : dfR ρ' p q := by
 cases p with
 | fn f a c => obtain ⟨x, y, h1, h2, h3⟩ := r; exact ⟨x, y, pX h _ h1, pX h _ h2, h3⟩
 | col l => obtain ⟨x, h1, h2⟩ := r; exact ⟨x, h _ _ h1, h2⟩
theorem kL.mono {ρ ρ' : Rho} (h : ρ.le ρ') : ∀ {p : List Df} {q : List Deferred}, kL ρ p q -> kL ρ' p q
 | [], [], _ => trivial
 | _ :: _, _ :: _, r => ⟨r.1.mono h, kL.mono h r.2⟩
 | [], _ :: _, r => r.elim
 | _ :: _, [], r => r.elim
theorem AcR.mono {ρ ρ' : Rho} (h : ρ.le ρ') {c : Ac} {a : Act} (r : AcR ρ c a) : AcR ρ' c a := ⟨r.env.mono h, r.ds.mono h⟩
theorem roR.mono {ρ ρ' : Rho} (h : ρ.le ρ') {x y : Option Nat} (r : roR ρ x y) : roR ρ' x y := by
 cases x <;> cases y <;> first
  | exact r
  | (obtain ⟨z, h1, h2⟩ := r; exact ⟨z, h _ _ h1, h2⟩)
def KQ (g : G) (ρ : Rho) (ro : Option Nat) (k : KX) (r : O × S) : Exit -> Act -> World -> Prop := fun ex a w =>
 ∃ x ac ρ' h nx lg, ρ.le ρ' /\ xR ρ' x ex /\ AcR ρ' ac a /\ ac.ro = ro /\ Rel g ρ' h nx w /\ run (k x ac) h nx lg = some r
def CR (g : G) (ρ : Rho) (k : O -> AL) (r : O × S) : Ending -> World -> Prop
 | .returned v, w => ∃ u ρ' h nx lg, ρ.le ρ' /\ Rel g ρ' h nx w /\ tv ρ' u = some v /\ run (k (.val u)) h nx lg = some r
 | .panicked ch', w => ∃ ch ρ' h nx lg, ρ.le ρ' /\ Rel g ρ' h nx w /\ gG ρ' ch ch' /\ run (k (.panic ch)) h nx lg = some r
 | .outgrown, _ => False
def SimC (P : Program) (ex : Ex) : Prop := ∀ (c : Code) (g : G) (ρ : Rho) (ac : Ac) (a : Act) (h : Tr Blk) (nx : Nat) (lg : List Fp) (w : World) (k : KX) (r : O × S) (rr : Option Nat),
 AcR ρ ac a -> Rel g ρ h nx w -> r.2.nx <= g.hi -> roR ρ ac.ro rr -> run (ex c ac k) h nx lg = some r -> c.wpIn (SX.fw rr) 0 P (KQ g ρ ac.ro k r) a w
def SimA (P : Program) (ex : Ex) : Prop := ∀ (f : Nat) (args : List V) (xs : List Value) (g : G) (ρ : Rho) (h : Tr Blk) (nx : Nat) (lg : List Fp) (w : World) (k : O -> AL) (r : O × S),
 tvs ρ args = some xs -> Rel g ρ h nx w -> r.2.nx <= g.hi -> run (sS P ex f args k) h nx lg = some r -> SX.Au P f /\ CallsIn (SX.fw none) 0 P f ⟨xs⟩ w (CR g ρ k r)
def SimY (P : Program) (ex : Ex) : Prop := ∀ (l : Nat) (args : List V) (xs : List Value) (g : G) (ρ : Rho) (h : Tr Blk) (nx : Nat) (lg : List Fp) (w : World) (k : O -> AL) (r : O × S),
 tvs ρ args = some xs -> Rel g ρ h nx w -> r.2.nx <= g.hi -> run (aAw ex l args k) h nx lg = some r -> ∃ x f tmps sg bd, ρ l = some x /\ (Instr.yield x.1 ⟨xs⟩).run P w = .ok (.round x.1 f tmps sg bd) w /\ RoundIn (SX.fw none) 0 P x.1 f tmps sg bd w (CR g ρ k r)
theorem aEM {P : Program} {f : FuncId} {args : Array Value} {w : World} {R : Ending -> World -> Prop} {rr : Option Nat} (h : CallsIn (SX.fw none) 0 P f args w R) : CallsIn (SX.fw rr) 0 P f args w R := h
theorem aHA {P : Program} {l f : Nat} {t : Array Value} {sg bd : Code} {w : World} {R : Ending -> World -> Prop} {rr : Option Nat} (h : RoundIn (SX.fw none) 0 P l f t sg bd w R) : RoundIn (SX.fw rr) 0 P l f t sg bd w R := h
section
variable {P : Program} {o : Oper} {a : Act} {w : World} {g : G} {ρ : Rho} {r : O × S} {kv : KV} {kp : List PE -> AL} {kd : Df -> AL} {e : Tr V} {n : Nat} {h : Tr Blk} {nx : Nat} {lg : List Fp} {ex : Ex} {rr : Option Nat} {N : Act -> World -> Prop} {Q : Exit -> Act -> World -> Prop}
theorem zY (hnd : ∀ c, o.op ≠ .defer c) (rr : Option Nat) : o.semAt rr a.eval = execOp a.eval o := Oper.semAt_eq _ _ _ hnd
theorem wp_ok (hnd : ∀ c, o.op ≠ .defer c) (hk : OkV P o a w g ρ r kv) (hv : ∀ v x ρ' h' nx' lg' w', ρ.le ρ' -> Rel g ρ' h' nx' w' -> tv ρ' v = some x -> run (kv v) h' nx' lg' = some r -> N (a.put o.dst x) w') : o.wpIn (SX.fw rr) 0 P a w N Q := by
 obtain ⟨v, x, ρ', h', nx', lg', w', h1, h2, h3, h4, h5⟩ := hk
 refine ⟨fun _ _ => a1W, ?_⟩
 rw [zY hnd]
 rcases h1 with h1 | ⟨h1, rfl⟩
 ·rw [h1, Oper.uponIn_value]; exact hv v x ρ' h' nx' lg' w' h2 h3 h4 h5
 ·rw [h1, Oper.uponIn_skip]; exact hv v undef ρ' h' nx' lg' w' h2 h3 h4 h5
theorem meth_run {t f : Nat} {name : String} (z : Value) (hm : yV P t name = some f) (k : Nat) : (method (k + 1) t z name).run P w = .ok (f, z) w := by
 unfold yV at hm
 split at hm
 ·rename_i i hi;have hi' := rF hi;split at hm
  ·rename_i m hmm;split at hm
   ·rename_i hpath;split at hm
    ·rename_i f' p hfunc;split at hm
     ·rename_i el hu;split at hm
      ·cases hm;simp [method, a1O, SX.run_typeInfo hi', hmm, hpath, follow, hfunc, receiverAt, SX.run_underlying (dY hu), Place.get, Sem.run, Pure.pure]
      ·cases hm
     ·rename_i d hne hu;split at hm
      ·cases hm
      ·cases hm;cases d <;> first
        | exact (hne _ rfl).elim
        | simp [method, a1O, SX.run_typeInfo hi', hmm, hpath, follow, hfunc, receiverAt, SX.run_underlying (dY hu), Place.get, Sem.run, Pure.pure]
     ·cases hm
    ·cases hm
   ·cases hm
  ·cases hm
 ·cases hm
theorem op_sim (SA : SimA P ex) (SY : SimY P ex) (he : cC ρ e n a.tmps) (R : Rel g ρ h nx w) (hi : r.2.nx <= g.hi) (q : run (opH o.op P ex e kv kp kd) h nx lg = some r)
  (hv : ∀ v x ρ' h' nx' lg' w', ρ.le ρ' -> Rel g ρ' h' nx' w' -> tv ρ' v = some x -> run (kv v) h' nx' lg' = some r -> N (a.put o.dst x) w')
  (hp : ∀ ch ch' ρ' h' nx' lg' w', ρ.le ρ' -> Rel g ρ' h' nx' w' -> gG ρ' ch ch' -> run (kp ch) h' nx' lg' = some r -> Q (.panic ch') a w')
  (hd : ∀ d d' lg', dfR ρ d d' -> run (kd d) h nx lg' = some r -> rr = none /\ N ({ a with defers := d' :: a.defers }.put o.dst undef) w) : o.wpIn (SX.fw rr) 0 P a w N Q := by
 have ok : (∀ c, o.op ≠ .defer c) -> OkV P o a w g ρ r kv -> o.wpIn (SX.fw rr) 0 P a w N Q := fun hnd hk => wp_ok hnd hk hv
 have call : ∀ {f : Nat} {args : List V} {xs : List Value}, (∀ c, o.op ≠ .defer c) -> (execOp a.eval o).run P w = .ok (.enter f ⟨xs⟩) w -> CallsIn (SX.fw none) 0 P f ⟨xs⟩ w (CR g ρ (fun o => oOut o kv kp) r) -> o.wpIn (SX.fw rr) 0 P a w N Q := by
  intro f args xs hnd hr hc;refine ⟨fun _ _ => a1W, ?_⟩
  rw [zY hnd, hr, Oper.uponIn_enter];refine ⟨(fun h => by cases h), CallsIn.mono (aEM hc) fun e' w' he' => ?_⟩
  cases e' with
  | returned v => obtain ⟨u, ρ', h', nx', lg', k1, k2, k3, k4⟩ := he'; exact hv u v ρ' h' nx' lg' w' k1 k2 k3 k4
  | panicked ch' => obtain ⟨ch, ρ', h', nx', lg', k1, k2, k3, k4⟩ := he'; exact hp ch ch' ρ' h' nx' lg' w' k1 k2 k3 k4
  | outgrown => exact he'.elim
 have nd : ∀ {x : Op}, o.op = x -> (∀ c, x ≠ .defer c) -> ∀ c, o.op ≠ .defer c := fun h1 h2 c => by rw [h1]; exact h2 c
 cases ho : o.op with
 | move x => rw [ho] at q; exact ok (nd ho (by intro c h; cases h)) (s_move (ex := ex) (kp := kp) (kd := kd) (.inl ho) he R q)
 | assign x => rw [ho] at q; exact ok (nd ho (by intro c h; cases h)) (s_move (ex := ex) (kp := kp) (kd := kd) (.inr ho) he R q)
 | pick _ _ _ => rw [ho] at q; exact ok (nd ho (by intro c h; cases h)) (s_pick (ex := ex) (kp := kp) (kd := kd) ho he R q)
 | alloc _ => rw [ho] at q; exact ok (nd ho (by intro c h; cases h)) (s_alloc (e := e) (ex := ex) (kp := kp) (kd := kd) ho hi R q)
 | box _ _ => rw [ho] at q; exact ok (nd ho (by intro c h; cases h)) (s_box (ex := ex) (kp := kp) (kd := kd) ho he hi R q)
 | build _ _ => rw [ho] at q; exact ok (nd ho (by intro c h; cases h)) (s_build (ex := ex) (kp := kp) (kd := kd) ho he R q)
 | buildSlice _ _ _ => rw [ho] at q; exact ok (nd ho (by intro c h; cases h)) (s_buildS (ex := ex) (kp := kp) (kd := kd) ho he hi R q)
 | insert _ _ _ _ => rw [ho] at q; exact ok (nd ho (by intro c h; cases h)) (s_upd (ex := ex) (kp := kp) (kd := kd) (.inr ho) he R q)
 | load _ _ => rw [ho] at q; exact ok (nd ho (by intro c h; cases h)) (s_load (ex := ex) (kp := kp) (kd := kd) ho he R q)
 | store _ _ _ => rw [ho] at q; exact ok (nd ho (by intro c h; cases h)) (s_store (ex := ex) (kp := kp) (kd := kd) ho he R q)
 | ready _ => rw [ho] at q; cases q
 | waits _ => rw [ho] at q; cases q
 | nilCheck _ => rw [ho] at q; exact ok (nd ho (by intro c h; cases h)) (s_nil (ex := ex) (kp := kp) (kd := kd) ho he R q)
 | binOp _ _ _ _ _ => rw [ho] at q; exact ok (nd ho (by intro c h; cases h)) (s_bin (ex := ex) (kp := kp) (kd := kd) ho he R q)
 | unOp _ _ _ => rw [ho] at q; exact ok (nd ho (by intro c h; cases h)) (s_un (ex := ex) (kp := kp) (kd := kd) ho he R q)
 | convert _ _ _ => rw [ho] at q; exact ok (nd ho (by intro c h; cases h)) (s_conv (ex := ex) (kp := kp) (kd := kd) ho he R q)
 | sliceToArrayPointer _ _ => rw [ho] at q; cases q
 | makeInterface _ _ => rw [ho] at q; exact ok (nd ho (by intro c h; cases h)) (s_mkI (ex := ex) (kp := kp) (kd := kd) ho he R q)
 | makeFunc _ _ _ => rw [ho] at q; exact ok (nd ho (by intro c h; cases h)) (s_mkF (ex := ex) (kp := kp) (kd := kd) ho he R q)
 | makeMap _ _ => rw [ho] at q; exact ok (nd ho (by intro c h; cases h)) (s_mapN (e := e) (ex := ex) (kp := kp) (kd := kd) ho hi R q)
 | makeChan _ _ => rw [ho] at q; cases q
 | makeSlice _ _ _ => rw [ho] at q; exact ok (nd ho (by intro c h; cases h)) (s_mks (ex := ex) (kp := kp) (kd := kd) ho he hi R q)
 | slice _ _ _ _ _ => rw [ho] at q; exact ok (nd ho (by intro c h; cases h)) (s_slice (ex := ex) (kp := kp) (kd := kd) ho he R q)
 | fieldAddr _ _ _ => rw [ho] at q; exact ok (nd ho (by intro c h; cases h)) (s_fieldA (ex := ex) (kp := kp) (kd := kd) ho he R q)
 | field _ _ _ => rw [ho] at q; exact ok (nd ho (by intro c h; cases h)) (s_field (ex := ex) (kp := kp) (kd := kd) ho he R q)
 | indexAddr _ _ _ => rw [ho] at q; exact ok (nd ho (by intro c h; cases h)) (s_idxA (ex := ex) (kp := kp) (kd := kd) ho he R q)
 | index _ _ _ => rw [ho] at q; exact ok (nd ho (by intro c h; cases h)) (s_idx (ex := ex) (kp := kp) (kd := kd) ho he R q)
 | lookup _ _ _ _ => rw [ho] at q; exact ok (nd ho (by intro c h; cases h)) (s_look (ex := ex) (kp := kp) (kd := kd) ho he R q)
 | mapUpdate _ _ _ _ => rw [ho] at q; exact ok (nd ho (by intro c h; cases h)) (s_upd (ex := ex) (kp := kp) (kd := kd) (.inl ho) he R q)
 | mapEntry _ _ _ => rw [ho] at q; cases q
 | entryStore _ _ _ _ => rw [ho] at q; cases q
 | range _ _ => rw [ho] at q; cases q
 | next _ _ => rw [ho] at q; cases q
 | entry _ => rw [ho] at q; cases q
 | typeAssert _ _ _ _ => rw [ho] at q; exact ok (nd ho (by intro c h; cases h)) (s_ta (ex := ex) (kp := kp) (kd := kd) ho he R q)
 | extract _ _ => rw [ho] at q; exact ok (nd ho (by intro c h; cases h)) (s_ext (ex := ex) (kp := kp) (kd := kd) ho he R q)
 | call c =>
  rw [ho] at q;have hnd : ∀ c', o.op ≠ .defer c' := nd ho (by intro c h; cases h)
  have q0 : run (hCal c.callee c P ex e kv kp kd) h nx lg = some r := q;cases hc : c.callee with
  | builtin b =>
   rw [hc] at q0;cases b with
   | append => exact ok hnd (s_append (ex := ex) (kp := kp) (kd := kd) ho hc he hi R q0)
   | len => exact ok hnd (s_len (ex := ex) (kp := kp) (kd := kd) ho hc he R q0)
   | min => exact ok hnd (s_mm (least := true) (ex := ex) (kp := kp) (kd := kd) ho hc he R q0)
   | max => exact ok hnd (s_mm (least := false) (ex := ex) (kp := kp) (kd := kd) ho hc he R q0)
   | clear => exact ok hnd (s_clear (ex := ex) (kp := kp) (kd := kd) ho hc he R q0)
   | _ => cases q0
  | value f =>
   rw [hc] at q0;obtain ⟨fv, h1, q1⟩ := fT q0;obtain ⟨args, h2, q2⟩ := kP q1;have hfv := dD he h1;have hargs := jG he h2;have hres : ∀ {t : Target} {az9 : Array Value}, Deferred.ofValue (a.eval f) (c.args.map a.eval) = Sem.pure { target := t, args := az9 } -> ∀ {y : Result Next}, (invoke t az9).run P w = y -> (execOp a.eval o).run P w = y := by
    intro t az9 h3 y h4;have : execOp a.eval o = invoke t az9 := by
     unfold execOp;rw [ho];show ((resolve a.eval c o.type).bind fun d => invoke d.target d.args) = _
     have h5 : resolve a.eval c o.type = Sem.pure { target := t, args := az9 } := by
      unfold resolve; rw [hc]; exact h3
     rw [h5]; rfl
    rw [this]; exact h4
   rcases aBS q2 with ⟨gf, first, cap, rfl, q3⟩ | ⟨l, rfl, q3⟩
   ·simp only [tv] at hfv;cases hf1 : tvs ρ first with
    | none => rw [hf1] at hfv; cases hfv
    | some xs =>
     rw [hf1] at hfv;simp only at hfv
     cases hf2 : tvs ρ cap with
     | none => rw [hf2] at hfv; cases hfv
     | some ys =>
      rw [hf2] at hfv;have hX : a.eval f = .func (.func gf) ⟨xs⟩ ⟨ys⟩ := (a1L hfv).symm;rw [iO, iO] at q3;have hall : tvs ρ (first ++ (args ++ cap)) = some (xs ++ (c.args.toList.map a.eval ++ ys)) := lD.2 ⟨_, _, hf1, lD.2 ⟨_, _, hargs, hf2, rfl⟩, rfl⟩;obtain ⟨hcall, hC⟩ := SA gf _ _ g ρ h nx lg w _ r hall R hi q3;refine call (args := first ++ (args ++ cap)) hnd (hres (t := .fn (.func gf) ⟨ys⟩) (az9 := ⟨xs⟩ ++ c.args.map a.eval) (by rw [hX]; rfl) ?_) hC
      have e1 : (⟨xs⟩ ++ c.args.map a.eval ++ ⟨ys⟩ : Array Value) = ⟨xs ++ (c.args.toList.map a.eval ++ ys)⟩ := by apply Array.ext'; simp
      simp only [invoke];rw [e1];exact SX.run_callFunc hcall _ w
   ·simp only [tv, a1J] at hfv;obtain ⟨x, hx, hX⟩ := hfv;obtain ⟨x', f', tmps, sg, bd, k1, k2, k3⟩ := SY l args _ g ρ h nx lg w _ r hargs R hi q3;rw [hx] at k1; cases k1
    refine ⟨fun _ _ => a1W, ?_⟩
    have e1 : (⟨c.args.toList.map a.eval⟩ : Array Value) = c.args.map a.eval := by apply Array.ext'; simp
    rw [e1] at k2;rw [zY hnd, hres (t := .fn (.yield x.1) #[]) (az9 := #[] ++ c.args.map a.eval) (by rw [<- hX]; rfl) (by simp only [invoke, Array.empty_append]; exact k2), Oper.uponIn_round];refine ⟨(fun h => by cases h), RoundIn.mono (aHA k3) fun e' w' he' => ?_⟩
    cases e' with
    | returned v => obtain ⟨u, ρ', h', nx', lg', k1, k2, k3, k4⟩ := he'; exact hv u v ρ' h' nx' lg' w' k1 k2 k3 k4
    | panicked ch' => obtain ⟨ch, ρ', h', nx', lg', k1, k2, k3, k4⟩ := he'; exact hp ch ch' ρ' h' nx' lg' w' k1 k2 k3 k4
    | outgrown => exact he'.elim
  | invoke x name =>
   rw [hc] at q0;obtain ⟨v, h1, q1⟩ := fT q0;obtain ⟨args, h2, q2⟩ := kP q1;have hxv := dD he h1;have hargs := jG he h2;rcases aBQ q2 with ⟨t, u, rfl, q3⟩ | ⟨_, q3⟩
   ·obtain ⟨f, hm, q4⟩ := bR (o := yV P t name) q3;simp only [tv] at hxv;cases hu : tv ρ u with
    | none => rw [hu] at hxv; cases hxv
    | some z =>
     rw [hu] at hxv;have hX : a.eval x = .iface t z := (a1L hxv).symm;have hall : tvs ρ (u :: args) = some (z :: c.args.toList.map a.eval) := eT.2 ⟨_, _, hu, hargs, rfl⟩;obtain ⟨hcall, hC⟩ := SA f _ _ g ρ h nx lg w _ r hall R hi q4;refine call (args := u :: args) hnd ?_ hC;have e1 : (#[z] ++ c.args.map a.eval : Array Value) = ⟨z :: c.args.toList.map a.eval⟩ := by apply Array.ext'; simp
     have e2 : execOp a.eval o = invoke (.fn (.method name) #[]) (#[a.eval x] ++ c.args.map a.eval) := by
      unfold execOp;rw [ho];show ((resolve a.eval c o.type).bind fun d => invoke d.target d.args) = _
      have h5 : resolve a.eval c o.type = Sem.pure { target := .fn (.method name) #[], args := #[a.eval x] ++ c.args.map a.eval } := by
       unfold resolve; rw [hc]; rfl
      rw [h5]; rfl
     rw [e2, hX];have hmr : (method (P.types.size + Made.depth) t z name).run P w = .ok (f, z) w := meth_run (w := w) z hm (P.types.size + 99);have h0 : (#[Value.iface t z] ++ c.args.map a.eval)[0]? = some (.iface t z) := by rw [a0c (by simp)]; rfl
     have h9 : (#[Value.iface t z] ++ c.args.map a.eval).extract 1 (#[Value.iface t z] ++ c.args.map a.eval).size = c.args.map a.eval := by
      apply Array.ext'; rw [Array.toList_extract]; simp [List.extract_eq_take_drop]; exact a1p (by simp)
     have hcm : (callMethod (.iface t z) name (c.args.map a.eval)).run P w = .ok (.enter f (#[z] ++ c.args.map a.eval)) w := by
      have hprog : (program : Sem Program).run P w = .ok P w := rfl;unfold callMethod;simp only [a1O, hprog, a1N, hmr];exact SX.run_callFunc hcall _ w
     rw [<- e1];simp only [invoke, h0, h9];exact hcm
   ·cases q3
 | go _ => rw [ho] at q; cases q
 | defer c =>
  rw [ho] at q;obtain ⟨f, hf, q1⟩ := bR (o := valOf c.callee) q;have hc : c.callee = .value f := by
   cases hcc : c.callee <;> rw [hcc] at hf <;> cases hf
   rfl
  obtain ⟨fv, h1, q2⟩ := fT q1;obtain ⟨args, h2, q3⟩ := kP q2;have hfv := dD he h1;have hargs := jG he h2;rcases aBS q3 with ⟨gf, first, cap, rfl, q4⟩ | ⟨l, rfl, q4⟩
  ·simp only [tv] at hfv;cases hf1 : tvs ρ first with
   | none => rw [hf1] at hfv; cases hfv
   | some xs =>
    rw [hf1] at hfv;simp only at hfv
    cases hf2 : tvs ρ cap with
    | none => rw [hf2] at hfv; cases hfv
    | some ys =>
     rw [hf2] at hfv;have hX : a.eval f = .func (.func gf) ⟨xs⟩ ⟨ys⟩ := (a1L hfv).symm;rw [iO] at q4;obtain ⟨rfl, hN⟩ := hd (.fn gf (first ++ args) cap) { target := .fn (.func gf) ⟨ys⟩, args := ⟨xs ++ c.args.toList.map a.eval⟩ } lg ⟨_, _, lD.2 ⟨_, _, hf1, hargs, rfl⟩, hf2, rfl⟩ q4;refine ⟨fun _ _ => a1W, ?_⟩
     have e1 : (⟨xs⟩ ++ c.args.map a.eval : Array Value) = ⟨xs ++ c.args.toList.map a.eval⟩ := by apply Array.ext'; simp
     have e2 : execOp a.eval o = Sem.pure (.defer { target := .fn (.func gf) ⟨ys⟩, args := ⟨xs ++ c.args.toList.map a.eval⟩ }) := by
      unfold execOp;rw [ho];show ((resolve a.eval c o.type).bind fun d => Sem.pure (Next.defer d)) = _
      have h5 : resolve a.eval c o.type = Sem.pure { target := .fn (.func gf) ⟨ys⟩, args := ⟨xs⟩ ++ c.args.map a.eval } := by
       unfold resolve; rw [hc]; show Deferred.ofValue (a.eval f) _ = _; rw [hX]; rfl
      rw [h5, e1]; rfl
     show o.uponIn _ _ _ _ _ _ ((o.semAt none a.eval).run P w)
     rw [Oper.semAt_none, e2];exact hN
  ·cases q4
 | panic x =>
  rw [ho] at q;have hnd : ∀ c', o.op ≠ .defer c' := nd ho (by intro c h; cases h)
  obtain ⟨v, h1, q1⟩ := fT q;have hxv := dD he h1;rcases aBQ q1 with ⟨t, u, rfl, q3⟩ | ⟨_, q3⟩
  ·have hxv' := hxv;simp only [tv] at hxv;cases hu : tv ρ u with
   | none => rw [hu] at hxv; cases hxv
   | some z =>
    rw [hu] at hxv;have hX : a.eval x = .iface t z := (a1L hxv).symm;refine ⟨fun _ _ => a1W, ?_⟩
    rw [zY hnd];have hr : (execOp a.eval o).run P w = .halt (.panic (.iface t z)) w := by simp [execOp, ho, hX, Instr.panic, goPanic, a1O, Sem.run]
    rw [hr, Oper.uponIn_panic];exact hp [⟨.iface t u, false⟩] _ ρ h nx lg w (Rho.le_refl ρ) R ⟨⟨by rw [<- hX]; exact hxv', rfl, rfl⟩, trivial⟩ q3
  ·cases q3
 | send _ _ => rw [ho] at q; cases q
 | recv _ _ _ => rw [ho] at q; cases q
 | select _ _ => rw [ho] at q; cases q
end
end
open RowKit (Below)
noncomputable section
section
variable {P : Program} {a : Act} {w : World} {g : G} {ρ : Rho} {r : O × S} {e : Tr V} {n : Nat} {h : Tr Blk} {nx : Nat} {lg : List Fp} {ex : Ex} {rr : Option Nat}
theorem bod_eq {f : Nat} {q : Func × Code} (hq : bod P f = some q) : P.funcs[f]? = some q.1 /\ q.1.body = some q.2 /\ SX.Au P f := by
 unfold bod at hq
 split at hq
 ·cases hq
 ·rename_i fn hf;have hf' : P.funcs[f]? = some fn := by
   have e : at_ (rO P.funcs.toList 0 .leaf fun t => t) f = some fn := hf
   rw [aBm] at e;split at e
   ·simpa using e
   ·rw [wI] at e; cases e
  split at hq
  ·cases hq
  ·rename_i c hb;split at hq
   ·cases hq
   ·rename_i hn;cases hq;refine ⟨hf', hb, ?_⟩;unfold SX.Au SX.callB;rw [hf'];simp only [hb, Option.isSome_some, Bool.and_true];simpa [bne] using hn
theorem aCD : ∀ (l : List V) (i : Nat) (e0 : Tr V) {k : Tr V -> AL}, run (aAO l i e0 k) h nx lg = some r -> ∃ e1, run (k e1) h nx lg = some r /\ ∀ t, at_ e1 t = if i <= t /\ t < i + l.length then l[t - i]? else at_ e0 t
 | [], i, e0, k, q => ⟨e0, q, fun t => by rw [a1U (by simp)]⟩
 | v :: l, i, e0, k, q => by
  have q' : run (pp e0 (some v) (pa i) fun e => aAO l (i + 1) e k) h nx lg = some r := q
  rw [nV] at q';obtain ⟨e1, q1, h1⟩ := aCD l (i + 1) _ q';refine ⟨e1, q1, fun t => ?_⟩
  rw [h1 t];by_cases h2 : i + 1 <= t /\ t < i + 1 + l.length
  ·rw [a1V h2, a1V (by simp; omega), show t - i = (t - (i + 1)) + 1 from by omega, a0E]
  ·rw [a1U h2, fS];by_cases h3 : t = i
   ·subst h3; rw [a1V rfl, a1V (by simp)]; simp
   ·rw [a1U h3, a1U (by simp; omega)]
theorem aDB {fn : Func} {args : List V} {xs : List Value} {k : Ac -> AL} (hx : tvs ρ args = some xs) (q : run (aAq fn args k) h nx lg = some r) :
  ∃ ac, run (k ac) h nx lg = some r /\ ac.ro = none /\ AcR ρ ac { tmps := (⟨xs⟩ : Array Value) ++ Array.replicate (fn.ntmps - (⟨xs⟩ : Array Value).size) undef, defers := [] } /\ ac.n = fn.ntmps := by
 obtain ⟨hb, q1⟩ := dU q
 rw [ln0] at hb
 have hb : args.length <= fn.ntmps := a1x hb
 obtain ⟨e1, q2, h1⟩ := aCD args 0 .leaf q1
 have hl := sA hx
 refine ⟨_, q2, rfl, ⟨⟨by simp; omega, fun t v ht => ?_⟩, trivial⟩, rfl⟩
 rw [h1 t] at ht
 split at ht
 ·rw [Nat.sub_zero] at ht;obtain ⟨x, k1, k2⟩ := yO hx ht;refine ⟨x, ?_, k2⟩;have hlt := (a0J.1 k1).1;rw [a0c (by simpa using hlt)];simpa using k1
 ·rw [wI] at ht; cases ht
theorem res1_run {rv : ResultVar} {t : Array Value} {k : V -> AL} (he : cC ρ e n t) (R : Rel g ρ h nx w) (q : run (res1 P e rv k) h nx lg = some r) :
  ∃ v x lg', (match rv with
   | .tmp i => (Pure.pure (t.getD i undef) : Sem Value)
   | .cell i T => do loadVar T (<- Go.asAddr (t.getD i undef))).run P w = .ok x w /\ tv ρ v = some x /\ run (k v) h nx lg' = some r := by
 cases rv with
 | tmp i =>
  obtain ⟨v, hv, q1⟩ := bR (o := gp e (pa i)) q;obtain ⟨x, h1, h2⟩ := he.get i v hv;exact ⟨v, x, lg, by simp [a0b, h1, Sem.run, Pure.pure], h2, q1⟩
 | cell i T =>
  obtain ⟨v, hv, q1⟩ := bR (o := gp e (pa i)) q;obtain ⟨s, hs, q2⟩ := bR q1;obtain ⟨b, off, rfl, q3⟩ := wL q2;obtain ⟨x, h1, h2⟩ := he.get i _ hv;obtain ⟨y, hb, rfl⟩ := lK h2;obtain ⟨u, z, lg', h3, h4, q4⟩ := aEr R hs hb q3;exact ⟨u, z, lg', by simp [a0b, h1, Go.asAddr, a1O, h3, Sem.run, Pure.pure], h4, q4⟩
theorem aEJ {t : Array Value} (he : cC ρ e n t) (R : Rel g ρ h nx w) : ∀ (rs : List ResultVar) {k : List V -> AL} {lg : List Fp}, run (resA P e rs k) h nx lg = some r ->
  ∃ vs xs lg', (rs.mapM (m := Sem) fun
   | .tmp i => Pure.pure (t.getD i undef)
   | .cell i T => do loadVar T (<- Go.asAddr (t.getD i undef))).run P w = .ok xs w /\ tvs ρ vs = some xs /\ run (k vs) h nx lg' = some r
 | [], k, lg, q => ⟨[], [], lg, by simp [Sem.run, Pure.pure], rfl, q⟩
 | rv :: rs, k, lg, q => by
  obtain ⟨v, x, lg1, h1, h2, q1⟩ := res1_run (k := fun v => resA P e rs fun vs => k (v :: vs)) he R q
  obtain ⟨vs, xs, lg2, h3, h4, q2⟩ := aEJ he R rs q1;refine ⟨v :: vs, x :: xs, lg2, ?_, eT.2 ⟨x, xs, h2, h4, rfl⟩, q2⟩;simp only [List.mapM_cons, a1O];rw [h1];simp only [a1N];rw [h3];rfl
theorem oneOf_tv {vs : List V} {xs : List Value} (h : tvs ρ vs = some xs) : tv ρ (pC vs) = some (if h : xs.toArray.size = 1 then xs.toArray[0] else .tuple xs.toArray) := by
 have hl := sA h
 match vs, xs with
 | [], [] => simp [pC, tv, tvs]
 | [v], [x] =>
  obtain ⟨y, ys, h1, _, h2⟩ := eT.1 h;cases h2;simp [pC, h1]
 | v :: u :: vs, x :: y :: xs =>
  have : pC (v :: u :: vs) = .tup (v :: u :: vs) := rfl;rw [this, dif_neg (by simp)];simp only [tv, h]
 | [], _ :: _ => simp at hl
 | _ :: _, [] => simp at hl
 | [_], _ :: _ :: _ => simp at hl
 | _ :: _ :: _, [_] => simp at hl
theorem aFf {fn : Func} {t : Array Value} {k : List V -> AL} (he : cC ρ e n t) (R : Rel g ρ h nx w) (q : run (resA P e fn.results.toList k) h nx lg = some r) :
  ∃ vs x lg', (results fn t).run P w = .ok x w /\ tv ρ (pC vs) = some x /\ run (k vs) h nx lg' = some r := by
 obtain ⟨vs, xs, lg', h1, h2, q1⟩ := aEJ he R fn.results.toList q
 refine ⟨vs, _, lg', ?_, oneOf_tv h2, q1⟩
 unfold results
 have hm : (fn.results.mapM (m := Sem) fun
   | .tmp i => Pure.pure (t.getD i undef)
   | .cell i T => do loadVar T (<- Go.asAddr (t.getD i undef))).run P w = .ok xs.toArray w := by
  rw [<- a0h (xs := fn.results), List.mapM_toArray, map_eq_pure_bind, a1O];rw [h1];simp [Sem.run, Pure.pure]
 rw [a1O]
 exact Eq.trans (congrArg (fun z => Result.andThen z fun (vs : Array Value) w' => Sem.run P (Pure.pure (if h : vs.size = 1 then vs[0] else .tuple vs)) w') hm) rfl
def fmR (ρ : Rho) : FM -> FrameMode -> Prop
 | .ret, .returning => True
 | .pan ch, .panicking ch' => gG ρ ch ch'
 | _, _ => False
theorem fmR.mono {ρ ρ' : Rho} (hl : ρ.le ρ') {u : FM} {u' : FrameMode} (r : fmR ρ u u') : fmR ρ' u u' := by
 cases u <;> cases u' <;> first
  | exact r
  | exact gG.mono hl r
theorem aDZ {ρ : Rho} : ∀ {a b : List PE} {c d : List PanicEntry}, gG ρ a c -> gG ρ b d -> gG ρ (a ++ b) (c ++ d)
 | [], _, [], _, _, h => h
 | _ :: _, _, _ :: _, _, h1, h2 => ⟨h1.1, aDZ h1.2 h2⟩
 | [], _, _ :: _, _, h, _ => h.elim
 | _ :: _, _, [], _, h, _ => h.elim
theorem aEV {ρ : Rho} : ∀ {a : List PE} {c : List PanicEntry}, gG ρ a c -> c.dropWhile (fun p => !p.goexit) = []
 | [], [], _ => rfl
 | _ :: _, q :: qs, h => by
  rw [List.dropWhile_cons];simp only [h.1.2.2, a0n, if_true];exact aEV h.2
 | [], _ :: _, h => h.elim
 | _ :: _, [], h => h.elim
theorem aCH {u : FM} {u' : FrameMode} (hu : fmR ρ u u') : fmR ρ (uM u) (settle u') := by
 cases u with
 | ret => cases u' <;> first | exact hu | exact hu.elim
 | pan ch =>
  cases u' with
  | returning => exact hu.elim
  | run => exact hu.elim
  | panicking ch' =>
   match ch, ch', hu with
   | [], [], _ => exact trivial
   | ⟨v, true⟩ :: ps, q :: qs, hu =>
    obtain ⟨qv, qr, qg⟩ := q;have h1 : qr = true := hu.1.2.1;subst h1;have := aEV hu.2;simp only [uM, settle, this];trivial
   | ⟨v, false⟩ :: ps, q :: qs, hu =>
    obtain ⟨qv, qr, qg⟩ := q;have h1 : qr = false := hu.1.2.1;subst h1;exact hu
theorem aDc {u : FM} {u' : FrameMode} {ch : List PE} {ch' : List PanicEntry} (hu : fmR ρ u u') (hc : gG ρ ch ch') : fmR ρ (aBz u ch) (raised u' ch') := by
 cases u with
 | ret => cases u' <;> first | exact hc | exact hu.elim
 | pan old =>
  cases u' <;> first
   | exact hu.elim
   | (show gG ρ (ap ch old) _; rw [iO]; exact aDZ hc hu)
theorem fmR_run {u : FM} {u' : FrameMode} (hu : fmR ρ u u') : u' ≠ .run := fun e => by subst e; cases u <;> exact hu.elim
end
end
open RowKit (Below)
noncomputable section
section
variable {P : Program} {a : Act} {w : World} {g : G} {ρ : Rho} {r : O × S} {e : Tr V} {n : Nat} {h : Tr Blk} {nx : Nat} {lg : List Fp} {ex : Ex} {rr : Option Nat}
theorem aE3 {d : Option Nat} {v : V} {x : Value} {k : Tr V -> AL} (he : cC ρ e n a.tmps) (hv : tv ρ v = some x) (q : run (insE d v e n k) h nx lg = some r) : ∃ e', run (k e') h nx lg = some r /\ cC ρ e' n (a.put d x).tmps := by
 cases d with
 | none => exact ⟨e, q, he⟩
 | some t =>
  have q' : run (Bool.rec .fail (pp e (some v) (pa t) k) (Nat.blt t n) : AL) h nx lg = some r := q;cases hb : Nat.blt t n with
  | false => rw [hb] at q'; cases q'
  | true =>
   rw [hb] at q';have q2 : run (pp e (some v) (pa t) k) h nx lg = some r := q';rw [nV] at q2;rw [a1u] at hb;exact ⟨_, q2, he.put hb hv⟩
theorem aE4 {d : Option Nat} {ac : Ac} {v : V} {x : Value} {k : Ac -> AL} (hA : AcR ρ ac a) (hv : tv ρ v = some x) (q : run (insK d ac v k) h nx lg = some r) : ∃ ac', run (k ac') h nx lg = some r /\ AcR ρ ac' (a.put d x) /\ ac'.ro = ac.ro := by
 obtain ⟨e, n, ds, ro⟩ := ac
 obtain ⟨e', q1, h1⟩ := aE3 (k := fun e => k ⟨e, n, ds, ro⟩) hA.env hv q
 exact ⟨_, q1, ⟨h1, by cases d <;> exact hA.ds⟩, rfl⟩
theorem rcv_R {u : FM} {u' : FrameMode} {c₀ : Frame} {cs : List Frame} (hu : fmR ρ u u') (hm : c₀.mode = u') :
  ∃ v u2 cs', (match recoverD (c₀ :: cs) with | some p => p | none => (Value.nilIface, c₀ :: cs)) = (v, cs') /\ tv ρ (rcv u).1 = some v /\ cs' = { c₀ with mode := u2 } :: cs /\ fmR ρ (rcv u).2 u2 := by
 obtain ⟨f0, t0, td0, d0, m0, k0, r0⟩ := c₀
 simp only at hm
 subst hm
 cases u with
 | ret => cases m0 <;> first | exact hu.elim | exact ⟨.nilIface, _, _, rfl, rfl, rfl, hu⟩
 | pan ch =>
  cases m0 with
  | run => exact hu.elim
  | returning => exact hu.elim
  | panicking ch' =>
   match ch, ch', hu with
   | [], [], hu => exact ⟨.nilIface, _, _, rfl, rfl, rfl, hu⟩
   | ⟨v, true⟩ :: ps, ⟨qv, qr, qg⟩ :: qs, hu =>
    have h1 : qr = true := hu.1.2.1;subst h1;exact ⟨.nilIface, _, _, rfl, rfl, rfl, hu⟩
   | ⟨v, false⟩ :: ps, ⟨qv, qr, qg⟩ :: qs, hu =>
    have h1 : qr = false := hu.1.2.1;have h2 : qg = false := hu.1.2.2;subst h1 h2;exact ⟨qv, .panicking ({ v := qv, recovered := true } :: qs), _, rfl, hu.1.1, rfl, ⟨hu.1.1, rfl, rfl⟩, hu.2⟩
theorem aCA {o : Oper} {d : Nat} (hh : pQ o = some d) : o.guard = none /\ o.op = .call { callee := .builtin .recover, args := #[], argTypes := (match o.op with | .call c => c.argTypes | _ => #[]) } /\ o.dst = some d := by
 unfold pQ at hh
 split at hh
 ·cases hh
 ·rename_i hg;split at hh
  ·rename_i c ho;split at hh
   ·rename_i hc;split at hh
    ·rename_i ha;refine ⟨hg, ?_, hh⟩;rw [ho];obtain ⟨cl, az9, ts⟩ := c;simp only at hc ha
     subst hc;have : az9 = #[] := by apply Array.ext'; exact ha
     subst this; rfl
    ·cases hh
   ·cases hh
  ·cases hh
theorem isAsg_eq {o : Oper} {d e : Nat} (hh : vZ d o = some e) : o.guard = none /\ o.op = .assign (.tmp d) /\ o.dst = some e := by
 unfold vZ at hh
 split at hh
 ·cases hh
 ·rename_i hg;split at hh
  ·rename_i t ho;split at hh
   ·rename_i ht;have := a1v ht;subst this;exact ⟨hg, ho, hh⟩
   ·cases hh
  ·cases hh
theorem recB_eq {c y : Code} {d : Nat} {e' : Option Nat} (hh : recB c = some (d, e', y)) : ∃ id ops, c = .seq (.region id ops false) y /\ ((∃ o, ops = #[o] /\ pQ o = some d /\ e' = none) \/ ∃ o p e2, ops = #[o, p] /\ pQ o = some d /\ vZ d p = some e2 /\ e' = some e2) := by
 unfold recB at hh
 split at hh
 ·rename_i id ops y';split at hh
  ·rename_i o p hops;split at hh
   ·rename_i d' hd;split at hh
    ·rename_i e2 he2;cases hh;exact ⟨id, ops, rfl, .inr ⟨o, p, e2, by apply Array.ext'; exact hops, hd, he2, rfl⟩⟩
    ·cases hh
   ·cases hh
  ·rename_i o hops;split at hh
   ·rename_i d' hd;cases hh;exact ⟨id, ops, rfl, .inl ⟨o, by apply Array.ext'; exact hops, hd, rfl⟩⟩
   ·cases hh
  ·cases hh
 ·cases hh
theorem aEQ {o : Oper} (ho : o.op = .call { callee := .builtin .recover, args := #[], argTypes := (match o.op with | .call c => c.argTypes | _ => #[]) }) (ρ' : Operand -> Value) : (execOp ρ' o).run P w = .ok .recover w := by
 generalize hts : (match o.op with | .call c => c.argTypes | _ => #[]) = ts at ho
 simp [execOp, ho, resolve, invoke, builtin, a1O, Sem.run, Pure.pure]
theorem wp_rec {id : Nat} {ops : Array Oper} {y : Code} {d : Nat} {e' : Option Nat} {S : Exit -> Act -> List Frame -> World -> Prop} {cs cs' : List Frame} {v : Value} (hn : d < a.tmps.size)
  (hops : (∃ o, ops = #[o] /\ pQ o = some d /\ e' = none) \/ ∃ o p e2, ops = #[o, p] /\ pQ o = some d /\ vZ d p = some e2 /\ e' = some e2)
  (hr : (match recoverD cs with | some p => p | none => (Value.nilIface, cs)) = (v, cs')) (hy : y.wpSIn (SX.fw none) 0 P S ((a.put (some d) v).put e' v) cs' w) : (Code.seq (.region id ops false) y).wpSIn (SX.fw none) 0 P S a cs w := by
 refine wpSIn_seq (wpSIn_region ?_)
 rcases hops with ⟨o, rfl, h1, rfl⟩ | ⟨o, p, e2, rfl, h1, h2, rfl⟩
 ·obtain ⟨g0, o0, d0⟩ := aCA h1;have hl : List.range (#[o] : Array Oper).size = [0] := rfl;have i0 : (#[o] : Array Oper)[0]? = some o := rfl;have w0 : Region.wanted o (yielded #[o] a.tmps) = true := by simp [Region.wanted, g0]
  have hfin : wpOpsSIn (SX.fw none) 0 P #[o] (Exit.thenS (y.wpSIn (SX.fw none) 0 P S) S) [] (a.put o.dst v) cs' w := by rw [d0]; exact hy
  rw [hl, wpOpsSIn];simp only [i0, w0, if_true, aEQ o0];refine ⟨fun _ _ => a1W, ?_⟩
  cases hrec : recoverD cs with
  | none => rw [hrec] at hr; cases hr; exact hfin
  | some p => rw [hrec] at hr; obtain ⟨v', cs''⟩ := p; cases hr; exact hfin
 ·obtain ⟨g0, o0, d0⟩ := aCA h1;obtain ⟨g1, o1, d1⟩ := isAsg_eq h2;have hl : List.range (#[o, p] : Array Oper).size = [0, 1] := rfl;have i0 : (#[o, p] : Array Oper)[0]? = some o := rfl;have i1 : (#[o, p] : Array Oper)[1]? = some p := rfl;have w0 : Region.wanted o (yielded #[o, p] a.tmps) = true := by simp [Region.wanted, g0]
  have w1 : Region.wanted p (yielded #[o, p] (a.put (some d) v).tmps) = true := by simp [Region.wanted, g1]
  have hev : (a.put (some d) v).eval (.tmp d) = v := by simp [Act.eval, Act.put, a0b, hn]
  have he1 : ∀ w, (execOp (a.put (some d) v).eval p).run P w = .ok (.value v) w := fun w => by simp [execOp, o1, hev, Sem.run, Pure.pure]
  have hfin : wpOpsSIn (SX.fw none) 0 P #[o, p] (Exit.thenS (y.wpSIn (SX.fw none) 0 P S) S) [1] (a.put o.dst v) cs' w := by
   rw [d0];simp only [wpOpsSIn, i1, w1, if_true, he1];rw [d1];exact ⟨fun _ _ => trivial, hy⟩
  rw [hl, wpOpsSIn];simp only [i0, w0, if_true, aEQ o0];refine ⟨fun _ _ => a1W, ?_⟩
  cases hrec : recoverD cs with
  | none => rw [hrec] at hr; cases hr; exact hfin
  | some p => rw [hrec] at hr; obtain ⟨v', cs''⟩ := p; cases hr; exact hfin
theorem aEq {x : X} {ds : List Df} {u u2 : FM} {exi : Exit} {dd : List Deferred} (hq : after x ds u = some u2) (hx : xR ρ x exi) (hd : kL ρ ds dd) :
  dd = [] /\ (((exi = .normal \/ exi = .ret) /\ u2 = uM u) \/ ∃ ch ch', exi = .panic ch' /\ gG ρ ch ch' /\ u2 = aBz u ch) := by
 cases ds with
 | cons => cases hq
 | nil =>
  have hdd : dd = [] := by cases dd <;> first | rfl | exact hd.elim
  refine ⟨hdd, ?_⟩;cases x with
  | normal => cases exi <;> first | exact hx.elim | (cases hq; exact .inl ⟨.inl rfl, rfl⟩)
  | ret => cases exi <;> first | exact hx.elim | (cases hq; exact .inl ⟨.inr rfl, rfl⟩)
  | exit => cases hq
  | panic ch => cases exi <;> first | exact hx.elim | (cases hq; exact .inr ⟨_, _, rfl, hx, rfl⟩)
theorem oH (SC : SimC P ex) {fn : Func} {t : Array Value} {k : O -> AL} {ρ0 : Rho} : ∀ (ds : List Df) (ds' : List Deferred) (u : FM) (u' : FrameMode) (ρ : Rho) (h : Tr Blk) (nx : Nat) (lg : List Fp) (w : World), ρ0.le ρ -> kL ρ ds ds' -> fmR ρ u u' -> cC ρ e n t ->
  Rel g ρ h nx w -> r.2.nx <= g.hi -> run (kN P ex fn e k ds u) h nx lg = some r -> LeavesInM (SX.fw none) 0 P fn t (CR g ρ0 k r) ds' u' w
 | [], ds', u, u', ρ, h, nx, lg, w, h0, hd, hu, he, R, hi, q => by
  cases ds' with
  | cons => exact hd.elim
  | nil =>
   cases u with
   | ret =>
    cases u' <;> first | exact hu.elim | skip
    obtain ⟨vs, x, lg', h1, h2, q1⟩ := aFf (k := fun l => k (.val (pC l))) he R q
    exact ⟨x, h1, pC vs, ρ, h, nx, lg', h0, R, h2, q1⟩
   | pan ch =>
    cases u' <;> first | exact hu.elim | skip
    exact ⟨ch, ρ, h, nx, lg, h0, R, hu, q⟩
 | d :: ds, ds', u, u', ρ, h, nx, lg, w, h0, hd, hu, he, R, hi, q => by
  cases ds' with
  | nil => exact hd.elim
  | cons d' ds' =>
   obtain ⟨hd1, hd2⟩ := hd;have q0 : run (defer1 P ex d u (kN P ex fn e k ds)) h nx lg = some r := q;refine ⟨fmR_run hu, ?_⟩;cases d with
   | col rb =>
    obtain ⟨x, hx, rfl⟩ := hd1;have q1 : run (.getO rb fun o => match o with
     | .dfr true => .setO rb (.dfr false) (kN P ex fn e k ds u)
     | _ => .fail) h nx lg = some r := q0
    rw [kY] at q1;obtain ⟨ob, h1, n1, l1, e1, q2⟩ := dZ q1;obtain ⟨y, o', k1, k2, k3, _, k5, k6⟩ := nH R e1;subst k5 k6;rw [hx] at k1; cases k1
    cases ob with
    | map => cases q2
    | loop => cases q2
    | dfr b =>
     cases b with
     | false => cases q2
     | true =>
      have q3 : run (.setO rb (.dfr false) (kN P ex fn e k ds u)) h1 n1 (l1 ++ lg) = some r := q2;rw [tX] at q3;obtain ⟨_, h2, n2, l2, e2, q4⟩ := dZ q3;cases o' <;> first
       | exact k3.elim
       | skip
      have hk3 : _ = some [] := k3;subst hk3;have hR2 := sW R e2 hx (o1 := .deferred none) rfl;exact .inl ⟨x.1, _, rfl, run_takeDeferred k2, oH SC ds ds' u u' ρ h2 n2 _ _ h0 hd2 hu he hR2 hi q4⟩
   | fn f args cap =>
    obtain ⟨xs, ys, hxs, hys, rfl⟩ := hd1;obtain ⟨p, hp, q1⟩ := bR (o := bod P f) q0;obtain ⟨hnr, q2⟩ := dU q1;obtain ⟨hf, hb, hcal⟩ := bod_eq hp;have hall : tvs ρ (ap args cap) = some (xs ++ ys) := by rw [iO]; exact lD.2 ⟨_, _, hxs, hys, rfl⟩
    obtain ⟨ac, q3, hro, hA, hacn⟩ := aDB hall q2;have hres : p.1.results = #[] := by
     cases hl : p.1.results.toList with
     | nil => apply Array.ext'; exact hl
     | cons a l => rw [hl] at hnr; cases hnr
    have hresr : ∀ t w, (results p.1 t).run P w = .ok (.tuple #[]) w := fun t w => by simp [results, hres, Sem.run, Pure.pure]
    have e1 : (⟨xs⟩ ++ ⟨ys⟩ : Array Value) = ⟨xs ++ ys⟩ := by apply Array.ext'; simp
    refine .inr ⟨(fun h => by cases h), .func f, ⟨ys⟩, f, ⟨xs ++ ys⟩, rfl, ?_, fun _ _ => a1W, ?_⟩
    ·simp only [invoke]; rw [e1]; exact SX.run_callFunc hcal _ w
    ·cases hrb : recB p.2 with
     | none =>
      rw [hrb] at q3;have hbody := SC p.2 g ρ ac _ h nx lg w _ r none hA R hi (by rw [hro]; trivial) q3
      refine CallsDIn.mono (callsDIn_of_wp (n := 0) (F := SX.fw none) (u := u') (R := fun e w' => match e with
       | .returned _ => LeavesInM (SX.fw none) 0 P fn t (CR g ρ0 k r) ds' (settle u') w'
       | .panicked chain => LeavesInM (SX.fw none) 0 P fn t (CR g ρ0 k r) ds' (raised u' chain) w'
       | .outgrown => False) hf hb trivial (Code.wpIn_mono ?_ hbody)) ?_
      ·intro exi a2 w2 hk;obtain ⟨x, ac2, ρ2, h2, nx2, lg2, m1, m2, m3, m4, m5, m6⟩ := hk;obtain ⟨u3, hu3, q4⟩ := bR (o := after x ac2.ds u) (f := kN P ex fn e k ds) m6;obtain ⟨hdd, hcase⟩ := aEq hu3 m2 m3.ds;rcases hcase with ⟨hn, rfl⟩ | ⟨ch, ch', rfl, hch, rfl⟩
       ·have := oH SC ds ds' _ _ ρ2 h2 nx2 lg2 w2 (Rho.le_trans h0 m1) (hd2.mono m1) (aCH (hu.mono m1)) (he.mono m1) m5 hi q4;rcases hn with rfl | rfl
        ·exact ⟨hdd, _, hresr _ _, this⟩
        ·exact ⟨hdd, _, hresr _ _, this⟩
       ·exact ⟨hdd, oH SC ds ds' _ _ ρ2 h2 nx2 lg2 w2 (Rho.le_trans h0 m1) (hd2.mono m1) (aDc (hu.mono m1) hch) (he.mono m1) m5 hi q4⟩
      ·intro e2 u2 w2 hh;obtain ⟨rfl, hh⟩ := hh;cases e2 <;> first | exact hh | exact hh.elim
     | some tr =>
      obtain ⟨d, e', y⟩ := tr;rw [hrb] at q3;obtain ⟨id, ops, hcode, hops⟩ := recB_eq hrb;refine callsDIn_of_wpSIn (n := 0) (F := SX.fw none) hf hb a1W fun c₀ cs hm => ?_
      rw [hcode];obtain ⟨v, u2, cs', r1, r2, r3, r4⟩ := rcv_R (cs := cs) hu hm;obtain ⟨ac1, q4, hA1, hro1⟩ := aE4 (k := fun a => insK e' a (rcv u).1 fun a => ex y a fun x a => oo (after x a.ds (rcv u).2) (kN P ex fn e k ds)) hA r2 q3
      have hdn : d < ac.n := by
       obtain ⟨ee, nn, dds, roo⟩ := ac;have q3' : run (Bool.rec .fail (pp ee (some (rcv u).1) (pa d) fun e2 => insK e' ⟨e2, nn, dds, roo⟩ (rcv u).1 fun a => ex y a fun x a => oo (after x a.ds (rcv u).2) (kN P ex fn e k ds)) (Nat.blt d nn) : AL) h nx lg = some r := q3
       cases hb : Nat.blt d nn with
       | false => rw [hb] at q3'; cases q3'
       | true => rw [a1u] at hb; exact hb
      obtain ⟨ac2, q5, hA2, hro2⟩ := aE4 (k := fun a => ex y a fun x a => oo (after x a.ds (rcv u).2) (kN P ex fn e k ds)) hA1 r2 q4
      have hbody := SC y g ρ ac2 _ h nx lg w _ r none hA2 R hi (by rw [hro2, hro1, hro]; trivial) q5
      refine wp_rec (by have := hA.env.size; omega) hops r1 (wpSIn_of_wpIn rfl (Code.wpIn_mono ?_ hbody))
      intro exi a2 w2 hk;obtain ⟨x, ac3, ρ2, h2, nx2, lg2, m1, m2, m3, m4, m5, m6⟩ := hk;obtain ⟨u3, hu3, q6⟩ := bR (o := after x ac3.ds (rcv u).2) (f := kN P ex fn e k ds) m6;obtain ⟨hdd, hcase⟩ := aEq hu3 m2 m3.ds;rcases hcase with ⟨hn, rfl⟩ | ⟨ch, ch', rfl, hch, rfl⟩
      ·have := oH SC ds ds' _ _ ρ2 h2 nx2 lg2 w2 (Rho.le_trans h0 m1) (hd2.mono m1) (aCH (r4.mono m1)) (he.mono m1) m5 hi q6;rcases hn with rfl | rfl
       ·exact ⟨hdd, u2, r3, _, hresr _ _, this⟩
       ·exact ⟨hdd, u2, r3, _, hresr _ _, this⟩
      ·exact ⟨hdd, u2, r3, oH SC ds ds' _ _ ρ2 h2 nx2 lg2 w2 (Rho.le_trans h0 m1) (hd2.mono m1) (aDc (r4.mono m1) hch) (he.mono m1) m5 hi q6⟩
theorem yJ (SC : SimC P ex) : SimA P ex := fun f args xs g ρ h nx lg w k r hx R hi q => by
 obtain ⟨p, hp, q1⟩ := bR (o := bod P f) q
 obtain ⟨hf, hb, hcal⟩ := bod_eq hp
 obtain ⟨ac, q2, hro, hA, _⟩ := aDB hx q1
 have hbody := SC p.2 g ρ ac _ h nx lg w _ r none hA R hi (by rw [hro]; trivial) q2
 refine ⟨hcal, callsIn_of_wp_marks hf hb a1W (Code.wpIn_mono ?_ hbody)⟩
 intro exi a2 w2 hk
 obtain ⟨x, ac2, ρ2, h2, nx2, lg2, m1, m2, m3, m4, m5, m6⟩ := hk
 obtain ⟨e, n, ds, ro⟩ := ac2
 obtain ⟨u, hu, q3⟩ := bR (o := left x) (f := fun u => kN P ex p.1 e k ds u) m6
 cases x with
 | normal => cases exi <;> first | exact m2.elim | (cases hu; exact oH SC ds _ _ _ ρ2 h2 nx2 lg2 w2 m1 m3.ds (by trivial) m3.env m5 hi q3)
 | ret => cases exi <;> first | exact m2.elim | (cases hu; exact oH SC ds _ _ _ ρ2 h2 nx2 lg2 w2 m1 m3.ds (by trivial) m3.env m5 hi q3)
 | exit => cases hu
 | panic ch => cases exi <;> first | exact m2.elim | (cases hu; exact oH SC ds _ (.pan ch) _ ρ2 h2 nx2 lg2 w2 m1 m3.ds m2 m3.env m5 hi q3)
end
end
open RowKit (Below)
noncomputable section
section
variable {P : Program} {a : Act} {w : World} {g : G} {ρ : Rho} {r : O × S} {e : Tr V} {n : Nat} {h : Tr Blk} {nx : Nat} {lg : List Fp} {ex : Ex} {rr : Option Nat}
theorem xU (ops : List Oper) (j : Nat) : jW ops j = ops[j]?.bind (·.dst) := by
 unfold jW; rw [lG]; cases ops[j]? <;> rfl
theorem aCL {v : V} {f : Bool -> AL} {no : AL} (q : run (asBool v f no) h nx lg = some r) : (∃ b, v = .bool b /\ run (f b) h nx lg = some r) \/ ((∀ b, v ≠ .bool b) /\ run no h nx lg = some r) := by
 cases v <;> first
  | exact .inl ⟨_, rfl, q⟩
  | exact .inr ⟨(by intro b hb; cases hb), q⟩
theorem aC4 {v : V} {x : Value} (hv : ∀ b, v ≠ .bool b) (e : tv ρ v = some x) : ∀ b, x ≠ .bool b := by
 intro b hb
 subst hb
 cases v with
 | bool c => exact hv c rfl
 | fn _ _ _ => simp only [tv] at e; split at e <;> (try split at e) <;> cases e
 | iface _ _ => simp only [tv] at e; split at e <;> cases e
 | agg _ => simp only [tv] at e; split at e <;> (try split at e) <;> cases e
 | tup _ => simp only [tv] at e; split at e <;> cases e
 | _ => first
  | cases e
  | (simp only [tv, a1J] at e; obtain ⟨_, _, h⟩ := e; cases h)
theorem aFM {all : Array Oper} {o : Oper} {yes no : AL} (he : cC ρ e n a.tmps) (q : run (opG o.guard all.toList e yes no) h nx lg = some r) :
  (Region.wanted o (yielded all a.tmps) = true /\ run yes h nx lg = some r) \/ (Region.wanted o (yielded all a.tmps) = false /\ run no h nx lg = some r) := by
 cases hg : o.guard with
 | none => rw [hg] at q; exact .inl ⟨by simp [Region.wanted, hg], q⟩
 | some p =>
  obtain ⟨j, want⟩ := p;rw [hg] at q;have q1 : run (aAB all.toList j want e yes no) h nx lg = some r := q;have hw : Region.wanted o (yielded all a.tmps) = (yielded all a.tmps j == some want) := by simp [Region.wanted, hg]
  rw [hw];rcases kR (o := jW all.toList j) q1 with ⟨hd, q2⟩ | ⟨d, hd, q2⟩
  ·rw [xU, a0f] at hd;have hy : yielded all a.tmps j = none := by simp [yielded, hd]
   exact .inr ⟨by rw [hy]; rfl, q2⟩
  ·rw [xU, a0f] at hd;obtain ⟨v, hv, q3⟩ := bR (o := gp e (pa d)) q2;obtain ⟨x, hx1, hx2⟩ := he.get d v hv;rcases aCL q3 with ⟨b, rfl, q4⟩ | ⟨hnb, q4⟩
   ·cases hx2;have hy : yielded all a.tmps j = some b := by simp [yielded, hd, hx1]
    rw [hy];cases b <;> cases want <;> first
     | exact .inl ⟨rfl, q4⟩
     | exact .inr ⟨rfl, q4⟩
   ·have hnx := aC4 hnb hx2;have hy : yielded all a.tmps j = none := by
     unfold yielded;rw [hd];simp only [Option.bind_some, hx1];cases x <;> first
      | rfl
      | exact (hnx _ rfl).elim
    rw [hy];exact .inr ⟨by rfl, q4⟩
theorem aD6 (SA : SimA P ex) (SY : SimY P ex) {all : Array Oper} {ρ0 : Rho} {k : KX} (hi : r.2.nx <= g.hi) : ∀ (l : List Oper) (ρ : Rho) (ac : Ac) (a : Act) (h : Tr Blk) (nx : Nat) (lg : List Fp) (w : World), ρ0.le ρ -> AcR ρ ac a -> Rel g ρ h nx w -> roR ρ ac.ro rr ->
  run (opsA all.toList P ex l ac k) h nx lg = some r -> wpListIn (SX.fw rr) 0 P all (KQ g ρ0 ac.ro k r) l a w
 | [], ρ, ac, a, h, nx, lg, w, h0, hA, R, hr, q => ⟨.normal, ac, ρ, h, nx, lg, h0, trivial, hA, rfl, R, q⟩
 | o :: l, ρ, ac, a, h, nx, lg, w, h0, hA, R, hr, q => by
  obtain ⟨e, n, ds, ro⟩ := ac;have q0 : run (opG o.guard all.toList e (opH o.op P ex e (fin o.dst e n ds ro (opsA all.toList P ex l) k) (pan k ⟨e, n, ds, ro⟩) (dfr o.dst e n ds ro (opsA all.toList P ex l) k)) (fin o.dst e n ds ro (opsA all.toList P ex l) k eS)) h nx lg = some r := q;have put : ∀ {ρ' : Rho} {h' : Tr Blk} {nx' : Nat} {lg' : List Fp} {w' : World} {a' : Act} {ds' : List Df} {v : V} {x : Value}, ρ.le ρ' -> Rel g ρ' h' nx' w' -> a'.tmps = a.tmps -> kL ρ' ds' a'.defers -> tv ρ' v = some x ->
    run (fin o.dst e n ds' ro (opsA all.toList P ex l) k v) h' nx' lg' = some r -> wpListIn (SX.fw rr) 0 P all (KQ g ρ0 ro k r) l (a'.put o.dst x) w' := by
   intro ρ' h' nx' lg' w' a' ds' v x hle R' hta hds hv q';obtain ⟨e', q1, hE⟩ := aE3 (k := fun e => opsA all.toList P ex l ⟨e, n, ds', ro⟩ k) (a := a') (by rw [hta]; exact hA.env.mono hle) hv q'
   exact aD6 SA SY hi l ρ' ⟨e', n, ds', ro⟩ _ _ _ _ _ (Rho.le_trans h0 hle) ⟨hE, by cases o.dst <;> exact hds⟩ R' (hr.mono hle) q1
  unfold wpListIn;rcases aFM hA.env q0 with ⟨hw, q1⟩ | ⟨hw, q1⟩
  ·rw [a1V hw];refine op_sim SA SY hA.env R hi q1 (fun v x ρ' h' nx' lg' w' h1 h2 h3 h4 => put h1 h2 rfl (hA.ds.mono h1) h3 h4) (fun ch ch' ρ' h' nx' lg' w' h1 h2 h3 h4 => ⟨.panic ch, _, ρ', h', nx', lg', Rho.le_trans h0 h1, h3, hA.mono h1, rfl, h2, h4⟩) fun d d' lg' hdf h4 => ?_
   rcases kR (o := ro) h4 with ⟨hn, h5⟩ | ⟨_, _, h5⟩
   ·subst hn;refine ⟨by cases rr <;> first | rfl | exact hr.elim, ?_⟩
    have h6 : run (fin o.dst e n (d :: ds) none (opsA all.toList P ex l) k eS) h nx lg' = some r := h5;exact put (a' := { a with defers := d' :: a.defers }) (ds' := d :: ds) (Rho.le_refl ρ) R rfl (show kL ρ (d :: ds) (d' :: a.defers) from ⟨hdf, hA.ds⟩) rfl h6
   ·cases h5
  ·rw [a1U (by rw [hw]; simp)];exact ⟨fun _ _ => trivial, put (Rho.le_refl ρ) R rfl hA.ds rfl q1⟩
theorem aDv : ∀ (ps : List Nat) (vs : List V) (xs : List Value) (e : Tr V) (t : Array Value) {k : Tr V -> AL}, cC ρ e n t -> tvs ρ vs = some xs -> run (putPs ps n vs e k) h nx lg = some r ->
  ps.length = xs.length /\ ∃ e', run (k e') h nx lg = some r /\ cC ρ e' n ((ps.zip xs).foldl (fun tmps (t, a) => tmps.setIfInBounds t a) t)
 | [], [], xs, e, t, k, he, hx, q => by rw [rY] at hx; subst hx; exact ⟨rfl, e, q, he⟩
 | [], _ :: _, _, _, _, _, _, _, q => by cases q
 | _ :: _, [], _, _, _, _, _, _, q => by cases q
 | p :: ps, v :: vs, xs, e, t, k, he, hx, q => by
  obtain ⟨x, ys, h1, h2, rfl⟩ := eT.1 hx;obtain ⟨hb, q1⟩ := dU (b := Nat.blt p n) (p := pp e (some v) (pa p) fun e => putPs ps n vs e k) q
  rw [nV] at q1;rw [a1u] at hb;obtain ⟨h3, e', q2, h4⟩ := aDv ps vs ys _ _ (cC.put (a := { tmps := t, defers := [] }) he hb h1) h2 q1;exact ⟨by simp [h3], e', q2, h4⟩
theorem pend_inv {x : X} {ds : List Df} {j : Option Code} {exi : Exit} (hq : pendOf x ds = some j) (hx : xR ρ x exi) : (exi = .normal /\ j = none) \/ (exi = .ret /\ j = some .ret) \/ ∃ i, exi = .exit i /\ j = some (.exit i) := by
 cases ds with
 | cons => cases hq
 | nil =>
  cases x with
  | normal => cases exi <;> first | exact hx.elim | (cases hq; exact .inl ⟨rfl, rfl⟩)
  | ret => cases exi <;> first | exact hx.elim | (cases hq; exact .inr (.inl ⟨rfl, rfl⟩))
  | exit i =>
   cases exi <;> first
    | exact hx.elim
    | (have : i = _ := hx; subst this; cases hq; exact .inr (.inr ⟨_, rfl, rfl⟩))
  | panic ch => cases hq
theorem vA {st : LoopState} {p : Option Code} {f : Nat} {ps : List Nat} {sg bd : Code} {d : Nat} {o' : Obj} (ho : obR ρ (.loop st p f e n ps sg bd d) o') : ∃ rec, o' = .loop rec /\ rec.state = st /\ rec.pending = p /\ cC ρ e n rec.tmps /\ rec.params.toList = ps /\ rec.assign = sg /\ rec.body = bd /\ ∃ x, ρ d = some x /\ rec.defers = x.1 := by
 cases o' <;> first
  | exact ho.elim
  | exact ⟨_, rfl, ho⟩
theorem aET (SC : SimC P ex) : SimY P ex := fun l args xs g ρ h nx lg w k r hx R hi q => by
 unfold aAw at q
 rw [kY] at q
 obtain ⟨ob, h1, n1, l1, e1, q1⟩ := dZ q
 obtain ⟨x, o', hl, hw, ho, _, rfl, rfl⟩ := nH R e1
 cases ob with
 | map => cases q1
 | dfr => cases q1
 | loop st p f e n ps sg bd d =>
 cases st with
 | busy => cases q1
 | done => cases q1
 | exhausted => cases q1
 | ready =>
 obtain ⟨rec, rfl, r1, r2, r3, r4, r5, r6, xd, r7, r8⟩ := vA ho
 obtain ⟨hlen, e', q2, hE⟩ := aDv ps args xs e rec.tmps r3 hx q1
 refine ⟨x, rec.fn, (rec.params.zip (⟨xs⟩ : Array Value)).foldl (fun tmps (t, a) => tmps.setIfInBounds t a) rec.tmps, sg, bd, hl, ?_, ?_⟩
 ·rw [<- r5, <- r6];exact run_yield hw (by show xs.length = rec.params.size; rw [<- hlen, <- r4]; simp)
 ·have hT : (rec.params.zip (⟨xs⟩ : Array Value)).foldl (fun tmps (t, a) => tmps.setIfInBounds t a) rec.tmps = (ps.zip xs).foldl (fun tmps (t, a) => tmps.setIfInBounds t a) rec.tmps := by
   rw [<- a0a, Array.toList_zip, r4]
  rw [hT];refine roundIn_of_wpIn a1W (Go.wpIn_mono (SC sg g ρ ⟨e', n, [], some l⟩ { tmps := _, defers := [] } _ _ _ w _ r (some x.1) ⟨hE, a1W⟩ R hi ⟨x, hl, rfl⟩ q2) ?_);intro exi a2 w2 hk;obtain ⟨x2, ac2, ρ2, h2, nx2, lg2, m1, m2, m3, m4, m5, m6⟩ := hk;cases x2 with
  | exit => cases m6
  | ret => cases m6
  | panic => cases m6
  | normal =>
  cases exi <;> first
   | exact m2.elim
   | skip
  have m7 : run (.getO l _) h2 nx2 lg2 = some r := m6;rw [kY] at m7;obtain ⟨ob, h3, n3, l3, e3, q3⟩ := dZ m7;obtain ⟨y, o2, hl2, hw2, ho2, _, rfl, rfl⟩ := nH m5 e3;rw [m1 _ _ hl] at hl2;cases hl2;cases ob with
  | map => cases q3
  | dfr => cases q3
  | loop st p2 f2 e2 n2 ps2 sg2 bd2 d2 =>
  cases st with
  | busy => cases q3
  | done => cases q3
  | exhausted => cases q3
  | ready =>
  obtain ⟨rec2, rfl, s1, s2, s3, s4, s5, s6, s7⟩ := vA ho2;have q4 : run (.setO l (.loop .busy p2 f2 e2 n2 ps2 sg2 bd2 d2) _) _ _ _ = some r := q3;rw [tX] at q4;obtain ⟨_, h4, n4, l4, e4, q5⟩ := dZ q4;have R4 := sW m5 e4 (m1 _ _ hl) (o1 := .loop { rec2 with state := .busy }) ⟨rfl, s2, s3, s4, s5, s6, s7⟩
  refine ⟨_, run_beginRound hw2 s1, Go.wpIn_mono (SC bd g ρ2 ac2 a2 _ _ _ _ _ r (some x.1) m3 R4 hi (by rw [m4]; exact ⟨x, m1 _ _ hl, rfl⟩) q5) ?_⟩
  intro exi a5 w5 hk;obtain ⟨x5, ac5, ρ5, h5, nx5, lg5, t1, t2, t3, t4, t5, t6⟩ := hk;obtain ⟨j, hj, q6⟩ := bR t6;rw [kY] at q6;obtain ⟨ob, h6, n6, l6, e6, q7⟩ := dZ q6;obtain ⟨y, o3, hl3, hw3, ho3, _, rfl, rfl⟩ := nH t5 e6;rw [t1 _ _ (m1 _ _ hl)] at hl3;cases hl3;cases ob with
  | map => cases q7
  | dfr => cases q7
  | loop st3 p3 f3 e3 n3 ps3 sg3 bd3 d3 =>
  obtain ⟨rec3, rfl, u1, u2, u3, u4, u5, u6, u7⟩ := vA ho3;have q8 : run (.setO l (.loop (stOf j) j f3 e3 n3 ps3 sg3 bd3 d3) (k (.val (.bool j.isNone)))) _ _ _ = some r := q7;rw [tX] at q8;obtain ⟨_, h8, n8, l8, e8, q9⟩ := dZ q8;have R8 := sW t5 e8 (t1 _ _ (m1 _ _ hl)) (o1 := .loop { rec3 with state := if j.isNone then .ready else .done, pending := j }) ⟨by cases j <;> rfl, rfl, u3, u4, u5, u6, u7⟩
  have hfin : CR g ρ k r (.returned (.bool j.isNone)) (w5.putObj x.1 (.loop { rec3 with state := if j.isNone then .ready else .done, pending := j })) := ⟨.bool j.isNone, ρ5, h8, n8, _, Rho.le_trans m1 t1, R8, rfl, q9⟩
  rcases pend_inv hj t2 with ⟨rfl, rfl⟩ | ⟨rfl, rfl⟩ | ⟨i, rfl, rfl⟩
  ·exact ⟨_, _, run_endRound none hw3, hfin⟩
  ·exact ⟨_, _, run_endRound (some .ret) hw3, hfin⟩
  ·exact ⟨_, _, run_endRound (some (.exit i)) hw3, hfin⟩
end
end
open RowKit (Below)
noncomputable section
section
variable {P : Program} {a : Act} {w : World} {g : G} {ρ : Rho} {r : O × S} {e : Tr V} {n : Nat} {h : Tr Blk} {nx : Nat} {lg : List Fp} {ex : Ex} {rr : Option Nat}
theorem KQ.mono {ρ' : Rho} {ro : Option Nat} {k : KX} {exi : Exit} {a : Act} {w : World} (hle : ρ.le ρ') (q : KQ g ρ' ro k r exi a w) : KQ g ρ ro k r exi a w := by
 obtain ⟨x, ac, ρ2, h, nx, lg, m1, m⟩ := q
 exact ⟨x, ac, ρ2, h, nx, lg, Rho.le_trans hle m1, m⟩
theorem aEA {F : Fence} {m : Nat} {c : Code} {Q Q' : Exit -> Act -> World -> Prop} (hq : ∀ e a w, Q e a w -> Q' e a w) : ∀ (i : Nat) (a : Act) (w : World), Code.roundsIn F m P c Q i a w -> Code.roundsIn F m P c Q' i a w
 | 0, _, _, q => q
 | i + 1, a, w, q => Go.wpIn_mono (show c.wpIn F m P (Exit.then (Code.roundsIn F m P c Q i) Q) a w from q) fun e a w k => by
   cases e <;> first
    | exact aEA hq i _ _ k
    | exact hq _ _ _ k
theorem aCU (SA : SimA P ex) {fO : Operand} {ps : Array Tmp} {sg bd : Code} {fv : V} {ac ac' : Ac} {a' : Act} {k : KX} {d : Nat} {xd : Nat × Nat} {ρ0 : Rho} (fn : Nat) {obj : Obj} (hobj : Obj.loop { state := .ready, pending := none, fn, tmps := a.tmps, params := ps, assign := sg, body := bd, defers := xd.1 } = obj) (hle : ρ0.le ρ) (hev : tv ρ fv = some (a.eval fO)) (hE : cC ρ ac.e ac.n a.tmps) (hA : AcR ρ ac' a') (hd : ρ d = some xd) (R : Rel g ρ h nx w) (hi : r.2.nx <= g.hi)
  (q : run (.newO (.loop .ready none 0 ac.e ac.n ps.toList sg bd d) fun l => asFn fv (fun g first cap => sS P ex g (ap first (ap [.yld l] cap)) fun o => isVal o (aCr l fun x => k x ac') (fun ch => k (.panic ch) ac')) fun _ => .fail) h nx lg = some r) :
  ∃ (df : Deferred) (f : FuncId) (args : Array Value), (resolve a.eval (rangeCall fO w.heap.size) 0).run P (w.alloc obj) = .ok df (w.alloc obj) /\
   (invoke df.target df.args).run P (w.alloc obj) = .ok (.enter f args) (w.alloc obj) /\
   CallsIn (SX.fw rr) 0 P f args (w.alloc obj) (rangePost (SX.fw rr) 0 P w.heap.size (KQ g ρ0 ac'.ro k r) a') := by
 rw [aAc] at q
 obtain ⟨b, h1, n1, l1, e1, q1⟩ := dZ q
 have hn := qM q1
 have hn1 : n1 = nx + 1 := by unfold iT at e1; split at e1 <;> cases e1; rfl
 have hnone : ρ nx = none := R.fresh nx (a1y _) (by omega)
 obtain ⟨rfl, hle1, R1⟩ := xH R e1 (by omega) 0 obj (by
  rw [<- hobj];exact ⟨rfl, rfl, hE.mono (Rho.le_ins hnone), rfl, rfl, rfl, xd, Rho.le_ins hnone _ _ hd, rfl⟩)
 generalize hρ1 : ρ.ins b (w.heap.size, 0) = ρ1 at hle1 R1
 have hb : ρ1 b = some (w.heap.size, 0) := by rw [<- hρ1]; exact Rho.ins_self
 have hfv := mZ hle1 _ hev
 rcases aBS q1 with ⟨gf, first, cap, rfl, q2⟩ | ⟨l, rfl, q2⟩
 ·simp only [tv] at hfv;cases hf1 : tvs ρ1 first with
  | none => rw [hf1] at hfv; cases hfv
  | some xs =>
   rw [hf1] at hfv;simp only at hfv
   cases hf2 : tvs ρ1 cap with
   | none => rw [hf2] at hfv; cases hfv
   | some ys =>
    rw [hf2] at hfv;have hX : a.eval fO = .func (.func gf) ⟨xs⟩ ⟨ys⟩ := (a1L hfv).symm;rw [iO, iO] at q2;have hy : tv ρ1 (.yld b) = some (.func (.yield w.heap.size) #[] #[]) := by simp only [tv, hb, a1K]
    have hall : tvs ρ1 (first ++ ([.yld b] ++ cap)) = some (xs ++ ([.func (.yield w.heap.size) #[] #[]] ++ ys)) := lD.2 ⟨_, _, hf1, lD.2 ⟨_, _, eT.2 ⟨_, _, hy, rfl, rfl⟩, hf2, rfl⟩, rfl⟩;obtain ⟨hcall, hC⟩ := SA gf _ _ g ρ1 h1 n1 _ _ _ r hall R1 hi q2;have e2 : (⟨xs⟩ ++ #[.func (.yield w.heap.size) #[] #[]] ++ ⟨ys⟩ : Array Value) = ⟨xs ++ ([.func (.yield w.heap.size) #[] #[]] ++ ys)⟩ := by apply Array.ext'; simp
    have hC' : CallsIn (SX.fw rr) 0 P gf ⟨xs ++ ([.func (.yield w.heap.size) #[] #[]] ++ ys)⟩ (w.alloc obj) _ := aEM (rr := rr) hC;refine ⟨{ target := .fn (.func gf) ⟨ys⟩, args := ⟨xs⟩ ++ #[.func (.yield w.heap.size) #[] #[]] }, gf, ⟨xs ++ ([.func (.yield w.heap.size) #[] #[]] ++ ys)⟩, ?_, ?_, ?_⟩
    ·have h5 : resolve a.eval (rangeCall fO w.heap.size) 0 = Sem.pure { target := .fn (.func gf) ⟨ys⟩, args := ⟨xs⟩ ++ #[.func (.yield w.heap.size) #[] #[]] } := by
      have h6 : (rangeCall fO w.heap.size).args.map a.eval = #[.func (.yield w.heap.size) #[] #[]] := by
       simp [rangeCall, Act.eval]
      show Deferred.ofValue (a.eval fO) ((rangeCall fO w.heap.size).args.map a.eval) = _
      rw [hX, h6]; rfl
     rw [h5]; rfl
    ·simp only [invoke]; rw [e2]; exact SX.run_callFunc hcall _ _
    ·refine CallsIn.mono (R' := rangePost (SX.fw rr) 0 P w.heap.size (KQ g ρ0 ac'.ro k r) a') hC' ?_;intro e' w' hq;cases e' with
     | outgrown => exact hq.elim
     | panicked ch' =>
      obtain ⟨ch, ρ', h', nx', lg', k1, k2, k3, k4⟩ := hq;exact ⟨.panic ch, ac', ρ', h', nx', lg', Rho.le_trans hle (Rho.le_trans hle1 k1), k3, hA.mono (Rho.le_trans hle1 k1), rfl, k2, k4⟩
     | returned v =>
      obtain ⟨u, ρ', h', nx', lg', k1, k2, k3, k4⟩ := hq;have k5 : run (.getO b _) h' nx' lg' = some r := k4;rw [kY] at k5;obtain ⟨ob, h3, n3, l3, e3, q3⟩ := dZ k5;obtain ⟨y, o2, hl2, hw2, ho2, _, rfl, rfl⟩ := nH k2 e3;rw [k1 _ _ hb] at hl2;cases hl2;cases ob with
      | map => cases q3
      | dfr => cases q3
      | loop st p2 f2 e2 n2 ps2 sg2 bd2 d2 =>
      obtain ⟨rec2, rfl, s1, s2, s3, s4, s5, s6, s7⟩ := vA ho2;have hnb : st ≠ .busy := by intro hs; subst hs; cases q3
      have q4 : run (.setO b (.loop .exhausted p2 f2 e2 n2 ps2 sg2 bd2 d2) (oo (jumpX p2) fun x => k x ac')) h3 n3 (l3 ++ lg') = some r := by cases st <;> first | exact (hnb rfl).elim | exact q3
      rw [tX] at q4;obtain ⟨_, h4, n4, l4, e4, q5⟩ := dZ q4;have R4 := sW k2 e4 (k1 _ _ hb) (o1 := .loop { rec2 with state := .exhausted }) ⟨rfl, s2, s3, s4, s5, s6, s7⟩
      obtain ⟨x, hx, q6⟩ := bR q5;have hE2 : ∃ jump w4, (Instr.endLoop w.heap.size).run P w' = .ok jump w4 /\ jump = rec2.pending /\ w4 = w'.putObj w.heap.size (.loop { rec2 with state := .exhausted }) := ⟨_, _, run_endLoop hw2 (by rw [s1]; exact hnb), rfl, rfl⟩
      obtain ⟨jump, w4, g1, g2, g3⟩ := hE2;have hQ : ∀ exi, xR ρ' x exi -> KQ g ρ0 ac'.ro k r exi a' w4 := fun exi hxi => by rw [g3]; exact ⟨x, ac', ρ', h4, n4, _, Rho.le_trans hle (Rho.le_trans hle1 k1), hxi, hA.mono (Rho.le_trans hle1 k1), rfl, R4, q6⟩
      rw [<- s2, <- g2] at hx;refine ⟨jump, w4, g1, ?_⟩;cases jump with
      | none => cases hx; exact hQ .normal trivial
      | some c =>
       cases c with
       | ret => cases hx; exact wpIn_ret (hQ .ret trivial)
       | exit i => cases hx; exact wpIn_exit (hQ (.exit i) rfl)
       | _ => cases hx
 ·cases q2
theorem aGa (SA : SimA P ex) {fO : Operand} {ps : Array Tmp} {sg bd : Code} {ac : Ac} {k : KX} (hA : AcR ρ ac a) (R : Rel g ρ h nx w) (hi : r.2.nx <= g.hi) (hr : roR ρ ac.ro rr) (q : run (rangeA fO ps sg bd P ex ac k) h nx lg = some r) :
  (Code.rangeFunc fO ps sg bd).wpIn (SX.fw rr) 0 P (KQ g ρ ac.ro k r) a w := by
 obtain ⟨e, n, ds, ro⟩ := ac
 obtain ⟨fv, h1, q1⟩ := fT q
 have hfv := dD hA.env h1
 refine wpIn_rangeFunc fun fn _ => ?_
 rcases kR (o := ro) q1 with ⟨hn, q2⟩ | ⟨l0, hn, q2⟩
 ·subst hn;have hrr : rr = none := by cases rr <;> first | rfl | exact hr.elim
  subst hrr;rw [aAc] at q2;obtain ⟨b, h2, n2, l2, e2, q3⟩ := dZ q2;have hnl := qM q3;obtain ⟨rfl, hle1, R1⟩ := xH R e2 (by omega) 0 (.deferred (some [])) rfl
  generalize hρ1 : ρ.ins b (w.heap.size, 0) = ρ1 at hle1 R1
  have hb : ρ1 b = some (w.heap.size, 0) := by rw [<- hρ1]; exact Rho.ins_self
  obtain ⟨df, f, args, k1, k2, k3⟩ := aCU (rr := none) (ac := ⟨e, n, .col b :: ds, none⟩) (ac' := ⟨e, n, .col b :: ds, none⟩) (a := a) (a' := { a with defers := [{ target := .collected w.heap.size, args := #[] }] ++ a.defers }) SA fn rfl hle1 (mZ hle1 _ hfv) (hA.env.mono hle1) ⟨hA.env.mono hle1, ⟨_, hb, rfl⟩, hA.ds.mono hle1⟩ hb R1 hi q3
  rw [World.size_alloc] at k1 k3;exact ⟨_, _, _, df, _, f, args, _, run_enterLoop_outer fn a.tmps ps sg bd, k1, fun _ _ => trivial, k2, (fun h => by cases h), k3⟩
 ·subst hn;have q2' : run (.getO l0 _) h nx lg = some r := q2;rw [kY] at q2';obtain ⟨ob, h3, n3, l3, e3, q3⟩ := dZ q2';obtain ⟨y, o2, hl2, hw2, ho2, _, rfl, rfl⟩ := nH R e3;cases ob with
  | map => cases q3
  | dfr => cases q3
  | loop st p2 f2 e2 n2 ps2 sg2 bd2 d2 =>
  obtain ⟨rec2, rfl, s1, s2, s3, s4, s5, s6, xd, s7, s8⟩ := vA ho2;cases rr with
  | none => exact hr.elim
  | some l0' =>
  obtain ⟨y', hy', rfl⟩ := hr;rw [hl2] at hy';cases hy';obtain ⟨df, f, args, k1, k2, k3⟩ := aCU (rr := some y.1) (ac := ⟨e, n, ds, some l0⟩) (ac' := ⟨e, n, ds, some l0⟩) (a := a) (a' := a) SA fn rfl (Rho.le_refl ρ) hfv hA.env hA s7 R hi q3;rw [<- s8] at k1 k2 k3;exact ⟨_, _, _, df, _, f, args, _, run_enterLoop_inner hw2 fn a.tmps ps sg bd, k1, fun _ _ => trivial, k2, (fun h => by cases h), k3⟩
def SimD (P : Program) (ex : Ex) : Prop := ∀ (id : Nat) (ops : Array Oper) (g : G) (ρ : Rho) (ac : Ac) (a : Act) (h : Tr Blk) (nx : Nat) (lg : List Fp) (w : World) (k : KX) (r : O × S) (rr : Option Nat),
 AcR ρ ac a -> Rel g ρ h nx w -> r.2.nx <= g.hi -> roR ρ ac.ro rr -> run (aDH ops true P ex ac k) h nx lg = some r -> (Code.region id ops true).wpIn (SX.fw rr) 0 P (KQ g ρ ac.ro k r) a w
def LoopS (P : Program) (ex : Ex) (m : Nat) : Prop := ∀ (c : Code) (g : G) (ρ : Rho) (ac : Ac) (a : Act) (h : Tr Blk) (nx : Nat) (lg : List Fp) (w : World) (k : KX) (r : O × S) (rr : Option Nat),
 AcR ρ ac a -> Rel g ρ h nx w -> r.2.nx <= g.hi -> roR ρ ac.ro rr -> run (ex (.loop c) ac k) h nx lg = some r -> Code.roundsIn (SX.fw rr) 0 P c (KQ g ρ ac.ro k r) m a w
theorem aEO {m : Nat} (LS : LoopS P ex m) {b : Code}
  (ih : ∀ (g : G) (ρ : Rho) (ac : Ac) (a : Act) (h : Tr Blk) (nx : Nat) (lg : List Fp) (w : World) (k : KX) (r : O × S) (rr : Option Nat), AcR ρ ac a -> Rel g ρ h nx w -> r.2.nx <= g.hi -> roR ρ ac.ro rr -> run (pW P ex b ac k) h nx lg = some r -> b.wpIn (SX.fw rr) 0 P (KQ g ρ ac.ro k r) a w)
  {ac : Ac} {k : KX} (hA : AcR ρ ac a) (R : Rel g ρ h nx w) (hi : r.2.nx <= g.hi) (hr : roR ρ ac.ro rr) (q : run (pW P ex (.loop b) ac k) h nx lg = some r) : Code.roundsIn (SX.fw rr) 0 P b (KQ g ρ ac.ro k r) (m + 1) a w := by
 have q1 : run (pW P ex b ac fun x => seqX x (ex (.loop b)) k) h nx lg = some r := q
 refine Go.wpIn_mono (ih g ρ ac a h nx lg w _ r rr hA R hi hr q1) fun exi a2 w2 hk => ?_
 obtain ⟨x, ac2, ρ2, h2, nx2, lg2, m1, m2, m3, m4, m5, m6⟩ := hk
 cases x with
 | normal =>
  cases exi <;> first | exact m2.elim | skip
  have := LS b g ρ2 ac2 a2 h2 nx2 lg2 w2 k r rr m3 m5 hi (by rw [m4]; exact hr.mono m1) m6
  rw [m4] at this;exact aEA (fun _ _ _ => KQ.mono m1) m _ _ this
 | exit i => cases exi <;> first | exact m2.elim | exact ⟨.exit i, ac2, ρ2, h2, nx2, lg2, m1, m2, m3, m4, m5, m6⟩
 | ret => cases exi <;> first | exact m2.elim | exact ⟨.ret, ac2, ρ2, h2, nx2, lg2, m1, m2, m3, m4, m5, m6⟩
 | panic ch => cases exi <;> first | exact m2.elim | exact ⟨.panic ch, ac2, ρ2, h2, nx2, lg2, m1, m2, m3, m4, m5, m6⟩
theorem aES {m : Nat} (SC : SimC P ex) (SD : SimD P ex) (LS : LoopS P ex m) (c : Code) : ∀ (g : G) (ρ : Rho) (ac : Ac) (a : Act) (h : Tr Blk) (nx : Nat) (lg : List Fp) (w : World) (k : KX) (r : O × S) (rr : Option Nat),
  AcR ρ ac a -> Rel g ρ h nx w -> r.2.nx <= g.hi -> roR ρ ac.ro rr -> run (pW P ex c ac k) h nx lg = some r -> c.wpIn (SX.fw rr) 0 P (KQ g ρ ac.ro k r) a w := by
 induction c with
 | skip => intro g ρ ac a h nx lg w k r rr hA R hi hr q; exact wpIn_skip ⟨.normal, ac, ρ, h, nx, lg, Rho.le_refl ρ, trivial, hA, rfl, R, q⟩
 | label l => intro g ρ ac a h nx lg w k r rr hA R hi hr q; exact wpIn_label ⟨.normal, ac, ρ, h, nx, lg, Rho.le_refl ρ, trivial, hA, rfl, R, q⟩
 | exit i => intro g ρ ac a h nx lg w k r rr hA R hi hr q; exact wpIn_exit ⟨.exit i, ac, ρ, h, nx, lg, Rho.le_refl ρ, rfl, hA, rfl, R, q⟩
 | ret => intro g ρ ac a h nx lg w k r rr hA R hi hr q; exact wpIn_ret ⟨.ret, ac, ρ, h, nx, lg, Rho.le_refl ρ, trivial, hA, rfl, R, q⟩
 | scope b _ => intro g ρ ac a h nx lg w k r rr hA R hi hr q; cases q
 | goto l => intro g ρ ac a h nx lg w k r rr hA R hi hr q; cases q
 | refuse s => intro g ρ ac a h nx lg w k r rr hA R hi hr q; cases q
 | region id ops draw =>
  intro g ρ ac a h nx lg w k r rr hA R hi hr q;cases draw with
  | true => exact SD id ops g ρ ac a h nx lg w k r rr hA R hi hr q
  | false => exact wpIn_region_list (aD6 (yJ SC) (aET SC) hi ops.toList ρ ac a h nx lg w (Rho.le_refl ρ) hA R hr q)
 | seq x y ihx ihy =>
  intro g ρ ac a h nx lg w k r rr hA R hi hr q;have q1 : run (pW P ex x ac fun x => seqX x (pW P ex y) k) h nx lg = some r := q
  refine wpIn_seq (Go.wpIn_mono (ihx g ρ ac a h nx lg w _ r rr hA R hi hr q1) fun exi a2 w2 hk => ?_)
  obtain ⟨x, ac2, ρ2, h2, nx2, lg2, m1, m2, m3, m4, m5, m6⟩ := hk;cases x with
  | normal =>
   cases exi <;> first | exact m2.elim | skip
   have := ihy g ρ2 ac2 a2 h2 nx2 lg2 w2 k r rr m3 m5 hi (by rw [m4]; exact hr.mono m1) m6
   rw [m4] at this;exact Go.wpIn_mono this fun _ _ _ => KQ.mono m1
  | exit i => cases exi <;> first | exact m2.elim | exact ⟨.exit i, ac2, ρ2, h2, nx2, lg2, m1, m2, m3, m4, m5, m6⟩
  | ret => cases exi <;> first | exact m2.elim | exact ⟨.ret, ac2, ρ2, h2, nx2, lg2, m1, m2, m3, m4, m5, m6⟩
  | panic ch => cases exi <;> first | exact m2.elim | exact ⟨.panic ch, ac2, ρ2, h2, nx2, lg2, m1, m2, m3, m4, m5, m6⟩
 | cond c x y ihx ihy =>
  intro g ρ ac a h nx lg w k r rr hA R hi hr q;obtain ⟨v, hv, q1⟩ := fT q;have hx := dD hA.env hv;cases v with
  | bool b =>
   have hb : a.eval c = .bool b := (a1L hx).symm;cases b with
   | true => exact wpIn_cond_true hb (ihx g ρ ac a h nx lg w k r rr hA R hi hr q1)
   | false => exact wpIn_cond_false hb (ihy g ρ ac a h nx lg w k r rr hA R hi hr q1)
  | _ => cases q1
 | block id b ih =>
  intro g ρ ac a h nx lg w k r rr hA R hi hr q;have q1 : run (pW P ex b ac fun x => blkX x id k) h nx lg = some r := q
  refine wpIn_block (Go.wpIn_mono (ih g ρ ac a h nx lg w _ r rr hA R hi hr q1) fun exi a2 w2 hk => ?_)
  obtain ⟨x, ac2, ρ2, h2, nx2, lg2, m1, m2, m3, m4, m5, m6⟩ := hk;cases x with
  | normal => cases exi <;> first | exact m2.elim | exact ⟨.normal, ac2, ρ2, h2, nx2, lg2, m1, m2, m3, m4, m5, m6⟩
  | ret => cases exi <;> first | exact m2.elim | exact ⟨.ret, ac2, ρ2, h2, nx2, lg2, m1, m2, m3, m4, m5, m6⟩
  | panic ch => cases exi <;> first | exact m2.elim | exact ⟨.panic ch, ac2, ρ2, h2, nx2, lg2, m1, m2, m3, m4, m5, m6⟩
  | exit i =>
   cases exi <;> first
    | exact m2.elim
    | skip
   have hii : i = _ := m2;subst hii;have q2 : run (ife (Nat.beq i id) (k .normal) (k (.exit i)) ac2) h2 nx2 lg2 = some r := m6;show if i = id then _ else _
   cases hb : Nat.beq i id with
   | true =>
    rw [hb] at q2;rw [a1V (a1v hb)];exact ⟨.normal, ac2, ρ2, h2, nx2, lg2, m1, trivial, m3, m4, m5, q2⟩
   | false =>
    rw [hb] at q2;rw [a1U (Nat.ne_of_beq_eq_false hb)];exact ⟨.exit i, ac2, ρ2, h2, nx2, lg2, m1, rfl, m3, m4, m5, q2⟩
 | loop b ih => intro g ρ ac a h nx lg w k r rr hA R hi hr q; exact wpIn_loop_rounds (m + 1) (aEO LS ih hA R hi hr q)
 | rangeFunc f ps sg bd _ _ => intro g ρ ac a h nx lg w k r rr hA R hi hr q; exact aGa (yJ SC) hA R hi hr q
theorem aB4 (SD : ∀ ex, SimC P ex -> SimD P ex) : ∀ n, SimC P (exec P n) /\ LoopS P (exec P n) n
 | 0 => ⟨(fun c g ρ ac a h nx lg w k r rr _ _ _ _ q => by cases q), (fun c g ρ ac a h nx lg w k r rr _ _ _ _ q => by cases q)⟩
 | n + 1 =>
  have ⟨SC, LS⟩ := aB4 SD n
  ⟨fun c g ρ ac a h nx lg w k r rr hA R hi hr q => aES SC (SD _ SC) LS c g ρ ac a h nx lg w k r rr hA R hi hr q,
   fun c g ρ ac a h nx lg w k r rr hA R hi hr q => aEO LS (aES SC (SD _ SC) LS c) hA R hi hr q⟩
end
end
open RowKit (Below)
noncomputable section
def Sep (l k : List Fp) : Prop := ∀ b i, (T l b i -> ¬ W k b i) /\ (W l b i -> ¬ T k b i)
theorem Sep.symm {l k : List Fp} (h : Sep l k) : Sep k l := fun b i => ⟨fun t w => (h b i).2 w t, fun w t => (h b i).1 t w⟩
theorem aCn {f g : Fp} (h : fpAp f g = true) : ∀ b i, (f.t b i -> ¬ g.w b i) /\ (f.w b i -> ¬ g.t b i) := by
 intro c i
 cases f with
 | cell b lo hi w =>
  cases g with
  | cell b' lo' hi' w' =>
   have h' : Bool.rec (motive := fun _ => Bool) true (Bool.rec (motive := fun _ => Bool) (Bool.rec (motive := fun _ => Bool) (Bool.rec (motive := fun _ => Bool) (Bool.not w') false w) true (Nat.ble hi' lo)) true (Nat.ble hi lo')) (Nat.beq b b') = true := h
   cases h1 : Nat.beq b b' with
   | false =>
    have := Nat.ne_of_beq_eq_false h1;refine ⟨fun t w => ?_, fun w t => ?_⟩
    ·have h2 := t.1; have h3 := w.2.1; omega
    ·have h2 := w.2.1; have h3 := t.1; omega
   | true =>
    rw [h1] at h';cases h2 : Nat.ble hi lo' with
    | true =>
     have := a1x h2;refine ⟨fun t w => ?_, fun w t => ?_⟩
     ·have h3 := t.2; have h4 := w.2.2; omega
     ·have h3 := w.2.2; have h4 := t.2; omega
    | false =>
     rw [h2] at h';cases h3 : Nat.ble hi' lo with
     | true =>
      have := a1x h3;refine ⟨fun t w => ?_, fun w t => ?_⟩
      ·have h3 := t.2; have h4 := w.2.2; omega
      ·have h3 := w.2.2; have h4 := t.2; omega
     | false =>
      rw [h3] at h';rcases w with _ | _ <;> rcases w' with _ | _
      ·exact ⟨(fun _ w => by cases w.1), (fun w => by cases w.1)⟩
      all_goals cases h'
  | fresh n0 n1 =>
   have h' : Bool.rec (motive := fun _ => Bool) (Nat.ble n1 b) true (Nat.blt b n0) = true := h
   have key : b < n0 \/ n1 <= b := by
    cases h1 : Nat.blt b n0 with
    | true => rw [a1u] at h1; exact .inl h1
    | false => rw [h1] at h'; exact .inr (a1x h')
   refine ⟨fun t w => ?_, fun w t => ?_⟩
   ·have h2 := t.1; have h3 : n0 <= c /\ c < n1 := w; omega
   ·have h2 := w.2.1; have h3 : n0 <= c /\ c < n1 := t; omega
 | fresh n0 n1 =>
  cases g with
  | cell b lo hi w =>
   have h' : Bool.rec (motive := fun _ => Bool) (Nat.ble n1 b) true (Nat.blt b n0) = true := h
   have key : b < n0 \/ n1 <= b := by
    cases h1 : Nat.blt b n0 with
    | true => rw [a1u] at h1; exact .inl h1
    | false => rw [h1] at h'; exact .inr (a1x h')
   refine ⟨fun t w => ?_, fun w t => ?_⟩
   ·have h2 := w.2.1; have h3 : n0 <= c /\ c < n1 := t; omega
   ·have h2 := t.1; have h3 : n0 <= c /\ c < n1 := w; omega
  | fresh m0 m1 =>
   have h' : Bool.rec (motive := fun _ => Bool) (Nat.ble m1 n0) true (Nat.ble n1 m0) = true := h
   have key : m1 <= n0 \/ n1 <= m0 := by
    cases h1 : Nat.ble n1 m0 with
    | true => exact .inr (a1x h1)
    | false => rw [h1] at h'; exact .inl (a1x h')
   refine ⟨fun t w => ?_, fun w t => ?_⟩
   ·have h2 : n0 <= c /\ c < n1 := t; have h3 : m0 <= c /\ c < m1 := w; omega
   ·have h2 : n0 <= c /\ c < n1 := w; have h3 : m0 <= c /\ c < m1 := t; omega
theorem aBu (f : Fp) : ∀ (l : List Fp), ap1 f l = true -> ∀ g ∈ l, fpAp f g = true
 | [], _, _, hg => by cases hg
 | g :: l, h, x, hx => by
  have h' : Bool.rec (motive := fun _ => Bool) false (ap1 f l) (fpAp f g) = true := h
  cases hq : fpAp f g with
  | false => rw [hq] at h'; cases h'
  | true =>
   rw [hq] at h';rcases a1e.1 hx with rfl | hx
   ·exact hq
   ·exact aBu f l h' x hx
theorem aAK : ∀ (l m : List Fp), apL l m = true -> ∀ f ∈ l, ap1 f m = true
 | [], _, _, _, hf => by cases hf
 | f :: l, m, h, x, hx => by
  have h' : Bool.rec (motive := fun _ => Bool) false (apL l m) (ap1 f m) = true := h
  cases hq : ap1 f m with
  | false => rw [hq] at h'; cases h'
  | true =>
   rw [hq] at h';rcases a1e.1 hx with rfl | hx
   ·exact hq
   ·exact aAK l m h' x hx
theorem apL_sep {l m : List Fp} (h : apL l m = true) : Sep l m := fun b i =>
 ⟨fun ⟨f, hf, t⟩ ⟨g, hg, w⟩ => (aCn (aBu f m (aAK l m h f hf) g hg) b i).1 t w, fun ⟨f, hf, w⟩ ⟨g, hg, t⟩ => (aCn (aBu f m (aAK l m h f hf) g hg) b i).2 w t⟩
theorem aBG {anc : Nat} {lg : List Fp} : ∀ {l : List (Nat × List Fp)}, apart anc lg l = true -> ∀ p ∈ l, has anc p.1 = true \/ Sep lg p.2
 | [], _, _, hp => by cases hp
 | q :: l, h, p, hp => by
  have h' : Bool.rec (motive := fun _ => Bool) (Bool.rec (motive := fun _ => Bool) false (apart anc lg l) (apL lg q.2)) (apart anc lg l) (has anc q.1) = true := h
  cases h1 : has anc q.1 with
  | true =>
   rw [h1] at h';rcases a1e.1 hp with rfl | hp
   ·exact .inl h1
   ·exact aBG h' p hp
  | false =>
   rw [h1] at h';cases h2 : apL lg q.2 with
   | false => rw [h2] at h'; cases h'
   | true =>
    rw [h2] at h';rcases a1e.1 hp with rfl | hp
    ·exact .inr (apL_sep h2)
    ·exact aBG h' p hp
theorem commute {α β : Type} {p : Pr α} {q : Pr β} (hp : iC p) (hq : iC q) {h h1 h2 : Tr Blk} {n0 n1 m0 m1 : Nat} {l k : List Fp} {x : α} {y : β} (e1 : p h n0 = some (x, h1, n1, l)) (e2 : q h1 m0 = some (y, h2, m1, k)) (hs : Sep l k) :
  ∃ g1 g2, q h m0 = some (y, g1, m1, k) /\ p g1 n0 = some (x, g2, n1, l) /\ ∀ b i, cv g2 b i = cv h2 b i := by
 obtain ⟨g1, f1, d1⟩ := hq.loc e2 h fun b i t => (hp.out e1 b i fun w => (hs b i).2 w t).symm
 obtain ⟨g2, f2, d2⟩ := hp.loc e1 g1 fun b i t => d1.out b i ((hs b i).1 t)
 refine ⟨g1, g2, f1, f2, fun b i => ?_⟩
 by_cases w : W l b i
 ·rw [d2.inn b i w, hq.out e2 b i ((hs b i).1 w.t)]
 ·rw [d2.out b i w];by_cases w2 : W k b i
  ·exact d1.inn b i w2
  ·rw [d1.out b i w2, hq.out e2 b i w2, hp.out e1 b i w]
theorem same_run {α : Type} {p : Pr α} (hp : iC p) {h g h1 : Tr Blk} {n0 n1 : Nat} {l : List Fp} {x : α} (e1 : p h n0 = some (x, h1, n1, l)) (hs : ∀ b i, cv g b i = cv h b i) : ∃ g1, p g n0 = some (x, g1, n1, l) /\ ∀ b i, cv g1 b i = cv h1 b i := by
 obtain ⟨g1, f1, d1⟩ := hp.loc e1 g fun b i _ => hs b i
 refine ⟨g1, f1, fun b i => ?_⟩
 by_cases w : W l b i
 ·exact d1.inn b i w
 ·rw [d1.out b i w, hp.out e1 b i w, hs b i]
end
open RowKit (Below)
noncomputable section
section
variable {P : Program} {ex : Ex} {e e' : Tr V}
theorem qC : ∀ {l : List Operand}, (∀ x ∈ l, ev x e = ev x e') -> evs l e = evs l e'
 | [], _ => rfl
 | x :: l, h => by
  show (Option.rec none (fun v => Option.rec none (fun vs => some (v :: vs)) (evs l e)) (ev x e) : Option (List V)) = Option.rec none (fun v => Option.rec none (fun vs => some (v :: vs)) (evs l e')) (ev x e')
  rw [h x (.head _), qC fun y hy => h y (.tail _ hy)]
theorem evO_c {x : Option Operand} (h : ∀ y, x = some y -> ev y e = ev y e') : evO x e = evO x e' := by
 cases x with
 | none => rfl
 | some x => simp only [evO, h x rfl]
theorem aAU : ∀ {ps : List (Nat × Operand)} {x : Operand}, x ∈ prt ps -> x ∈ ps.map (·.2)
 | [], _, h => by cases h
 | (n, y) :: ps, x, h => by
  rcases a1e.1 h with rfl | h
  ·exact .head _
  ·exact .tail _ (aAU h)
theorem aHt {op : Op} (h : ∀ x ∈ op.operands.toList, ev x e = ev x e') : opH op P ex e = opH op P ex e' := by
 funext k kp kd
 cases op
 case move x =>
  have h0 := h x (by simp [Op.operands])
  show mT x P ex e k kp kd = mT x P ex e' k kp kd
  simp only [mT, cS, eA, eX, h0]
 case assign x =>
  have h0 := h x (by simp [Op.operands])
  show mT x P ex e k kp kd = mT x P ex e' k kp kd
  simp only [mT, cS, eA, eX, h0]
 case pick c x y =>
  have h0 := h c (by simp [Op.operands])
  have h1 := h x (by simp [Op.operands])
  have h2 := h y (by simp [Op.operands])
  show wH c x y P ex e k kp kd = wH c x y P ex e' k kp kd
  simp only [wH, cS, eA, eX, h0, h1, h2]
 case load t x =>
  have h0 := h x (by simp [Op.operands])
  show wY t x P ex e k kp kd = wY t x P ex e' k kp kd
  simp only [wY, cS, eA, eX, h0]
 case store t x y =>
  have h0 := h x (by simp [Op.operands])
  have h1 := h y (by simp [Op.operands])
  show vY t x y P ex e k kp kd = vY t x y P ex e' k kp kd
  simp only [vY, cS, eA, eX, h0, h1]
 case alloc t =>
  show zE t P ex e k kp kd = zE t P ex e' k kp kd
  rfl
 case box t x =>
  have h0 := h x (by simp [Op.operands])
  show hBox t x P ex e k kp kd = hBox t x P ex e' k kp kd
  simp only [hBox, cS, eA, eX, h0]
 case nilCheck x =>
  have h0 := h x (by simp [Op.operands])
  show hNil x P ex e k kp kd = hNil x P ex e' k kp kd
  simp only [hNil, cS, eA, eX, h0]
 case binOp op t x y z =>
  have h0 := h x (by simp [Op.operands])
  have h1 := h y (by simp [Op.operands])
  show hBin op t x y P ex e k kp kd = hBin op t x y P ex e' k kp kd
  simp only [hBin, cS, eA, eX, h0, h1]
 case unOp op t x =>
  have h0 := h x (by simp [Op.operands])
  show hUn op t x P ex e k kp kd = hUn op t x P ex e' k kp kd
  simp only [hUn, cS, eA, eX, h0]
 case convert s t x =>
  have h0 := h x (by simp [Op.operands])
  show uU s t x P ex e k kp kd = uU s t x P ex e' k kp kd
  simp only [uU, cS, eA, eX, h0]
 case makeInterface t x =>
  have h0 := h x (by simp [Op.operands])
  show hMkI t x P ex e k kp kd = hMkI t x P ex e' k kp kd
  simp only [hMkI, cS, eA, eX, h0]
 case makeMap t r =>
  show hMapN t r P ex e k kp kd = hMapN t r P ex e' k kp kd
  rfl
 case makeSlice t x y =>
  have h0 := h x (by simp [Op.operands])
  have h1 := h y (by simp [Op.operands])
  show hMks t x y P ex e k kp kd = hMks t x y P ex e' k kp kd
  simp only [hMks, cS, eA, eX, h0, h1]
 case fieldAddr t x f =>
  have h0 := h x (by simp [Op.operands])
  show uG t x f P ex e k kp kd = uG t x f P ex e' k kp kd
  simp only [uG, cS, eA, eX, h0]
 case field t x f =>
  have h0 := h x (by simp [Op.operands])
  show uR t x f P ex e k kp kd = uR t x f P ex e' k kp kd
  simp only [uR, cS, eA, eX, h0]
 case indexAddr t x i =>
  have h0 := h x (by simp [Op.operands])
  have h1 := h i (by simp [Op.operands])
  show uX t x i P ex e k kp kd = uX t x i P ex e' k kp kd
  simp only [uX, cS, eA, eX, h0, h1]
 case index t x i =>
  have h0 := h x (by simp [Op.operands])
  have h1 := h i (by simp [Op.operands])
  show hIdx t x i P ex e k kp kd = hIdx t x i P ex e' k kp kd
  simp only [hIdx, cS, eA, eX, h0, h1]
 case lookup t x y ok =>
  have h0 := h x (by simp [Op.operands])
  have h1 := h y (by simp [Op.operands])
  show vU t x y ok P ex e k kp kd = vU t x y ok P ex e' k kp kd
  simp only [vU, cS, eA, eX, h0, h1]
 case mapUpdate t x y z =>
  have h0 := h x (by simp [Op.operands])
  have h1 := h y (by simp [Op.operands])
  have h2 := h z (by simp [Op.operands])
  show hUpd t x y z P ex e k kp kd = hUpd t x y z P ex e' k kp kd
  simp only [hUpd, cS, eA, eX, h0, h1, h2]
 case insert t x y z =>
  have h0 := h x (by simp [Op.operands])
  have h1 := h y (by simp [Op.operands])
  have h2 := h z (by simp [Op.operands])
  show hUpd t x y z P ex e k kp kd = hUpd t x y z P ex e' k kp kd
  simp only [hUpd, cS, eA, eX, h0, h1, h2]
 case typeAssert x t T ok =>
  have h0 := h x (by simp [Op.operands])
  show hTa x t T ok P ex e k kp kd = hTa x t T ok P ex e' k kp kd
  simp only [hTa, cS, eA, eX, h0]
 case extract x i =>
  have h0 := h x (by simp [Op.operands])
  show hExt x i P ex e k kp kd = hExt x i P ex e' k kp kd
  simp only [hExt, cS, eA, eX, h0]
 case panic x =>
  have h0 := h x (by simp [Op.operands])
  show xT x P ex e k kp kd = xT x P ex e' k kp kd
  simp only [xT, cS, eA, eX, h0]
 case build t ps =>
  have h0 : evs (prt ps.toList) e = evs (prt ps.toList) e' := qC fun x hx => h x (by simpa [Op.operands] using aAU hx)
  show wA t ps P ex e k kp kd = wA t ps P ex e' k kp kd
  simp only [wA, fD, h0]
 case buildSlice t n ps =>
  have h0 : evs (prt ps.toList) e = evs (prt ps.toList) e' := qC fun x hx => h x (by simpa [Op.operands] using aAU hx)
  show wS t n ps P ex e k kp kd = wS t n ps P ex e' k kp kd
  simp only [wS, fD, h0]
 case makeFunc fn f c =>
  have h0 : evs f.toList e = evs f.toList e' := qC fun x hx => h x (by simp [Op.operands]; exact .inl (by simpa using hx))
  have h1 : evs c.toList e = evs c.toList e' := qC fun x hx => h x (by simp [Op.operands]; exact .inr (by simpa using hx))
  show hMkF fn f c P ex e k kp kd = hMkF fn f c P ex e' k kp kd
  simp only [hMkF, fD, h0, h1]
 case slice t x lo hi mx =>
  have h0 := h x (by simp [Op.operands])
  have h1 : evO lo e = evO lo e' := evO_c fun y hy => h y (by subst hy; simp [Op.operands])
  have h2 : evO hi e = evO hi e' := evO_c fun y hy => h y (by subst hy; simp [Op.operands])
  have h3 : evO mx e = evO mx e' := evO_c fun y hy => h y (by subst hy; simp [Op.operands])
  show uI t x lo hi mx P ex e k kp kd = uI t x lo hi mx P ex e' k kp kd
  simp only [uI, cS, wR, h0, h1, h2, h3]
 case call c =>
  have ha : evs c.args.toList e = evs c.args.toList e' := qC fun x hx => h x (by
   have : x ∈ c.operands.toList := by unfold Call.operands; cases c.callee <;> simp <;> (first | exact .inr (by simpa using hx) | simpa using hx)
   simpa [Op.operands] using this)
  show hCal c.callee c P ex e k kp kd = hCal c.callee c P ex e' k kp kd
  cases hc : c.callee with
  | value f =>
   have h0 := h f (by
      have : f ∈ c.operands.toList := by unfold Call.operands; rw [hc]; simp
      simpa [Op.operands] using this)
   show zP f c P ex e k kp kd = zP f c P ex e' k kp kd
   simp only [zP, cS, fD, h0, ha]
  | invoke x name =>
   have h0 := h x (by
      have : x ∈ c.operands.toList := by unfold Call.operands; rw [hc]; simp
      simpa [Op.operands] using this)
   show hInv x name c P ex e k kp kd = hInv x name c P ex e' k kp kd
   simp only [hInv, cS, fD, h0, ha]
  | builtin b =>
   cases b
   case append => show xD c P ex e k kp kd = xD c P ex e' k kp kd; simp only [xD, fD, ha]
   case len => show hLen c P ex e k kp kd = hLen c P ex e' k kp kd; simp only [hLen, fD, ha]
   case min => show hMm true c P ex e k kp kd = hMm true c P ex e' k kp kd; simp only [hMm, fD, ha]
   case max => show hMm false c P ex e k kp kd = hMm false c P ex e' k kp kd; simp only [hMm, fD, ha]
   case clear => show vM c P ex e k kp kd = vM c P ex e' k kp kd; simp only [vM, fD, ha]
   all_goals rfl
 case defer c =>
  have ha : evs c.args.toList e = evs c.args.toList e' := qC fun x hx => h x (by
   have : x ∈ c.operands.toList := by unfold Call.operands; cases c.callee <;> simp <;> (first | exact .inr (by simpa using hx) | simpa using hx)
   simpa [Op.operands] using this)
  show tE c P ex e k kp kd = tE c P ex e' k kp kd
  cases hc : c.callee with
  | value f =>
   have h0 := h f (by
      have : f ∈ c.operands.toList := by unfold Call.operands; rw [hc]; simp
      simpa [Op.operands] using this)
   unfold tE;rw [hc];show cS f e _ = cS f e' _
   simp only [cS, fD, h0, ha]
  | invoke x name => unfold tE; rw [hc]; rfl
  | builtin b => unfold tE; rw [hc]; rfl
 all_goals rfl
end
end
open RowKit (Below)
noncomputable section
def gdV (w : Bool) (v : Option V) : Option Bool := match v with
 | none => none
 | some (.bool b) => some (b == w)
 | some _ => some false
def gd (all : List Oper) (g : Option (Nat × Bool)) (e : Tr V) : Option Bool := match g with
 | none => some true
 | some p => match jW all p.1 with
  | none => some false
  | some d => gdV p.2 (at_ e d)
def rdS (all : List Oper) (o : Oper) (t : Nat) : Prop := .tmp t ∈ o.op.operands.toList \/ ∃ j w, o.guard = some (j, w) /\ jW all j = some t
def ins (d : Option Nat) (v : V) (e : Tr V) : Tr V := match d with
 | none => e
 | some t => pu e t (some v)
theorem pM {d : Option Nat} {v : V} {e : Tr V} {t : Nat} : at_ (ins d v e) t = if d = some t then some v else at_ e t := by
 cases d with
 | none => rfl
 | some s =>
  show at_ (pu e s (some v)) t = _
  rw [fS];by_cases h : t = s
  ·subst h; simp
  ·rw [a1U h, a1U (by intro h2; cases h2; exact h rfl)]
theorem aAy {all : List Oper} {o : Oper} {e e' : Tr V} (h : ∀ t, rdS all o t -> at_ e t = at_ e' t) : gd all o.guard e = gd all o.guard e' := by
 cases hg : o.guard with
 | none => rfl
 | some p =>
  obtain ⟨j, w⟩ := p;cases hd : jW all j with
  | none => simp only [gd, hd]
  | some d => simp only [gd, hd, h d (.inr ⟨j, w, hg, hd⟩)]
theorem aBL {P : Program} {ex : Ex} {all : List Oper} {o : Oper} {e e' : Tr V} (h : ∀ t, rdS all o t -> at_ e t = at_ e' t) : opH o.op P ex e = opH o.op P ex e' := aHt fun x hx => by
 cases x with
 | tmp t => exact h t (.inl hx)
 | const c => rfl
 | global _ => rfl
 | func _ => rfl
theorem opG_gd {all : List Oper} {g : Option (Nat × Bool)} {e : Tr V} {yes no : AL} {h : Tr Blk} {nx : Nat} {lg : List Fp} {r : O × S} (q : run (opG g all e yes no) h nx lg = some r) : (gd all g e = some true /\ run yes h nx lg = some r) \/ (gd all g e = some false /\ run no h nx lg = some r) := by
 cases g with
 | none => exact .inl ⟨rfl, q⟩
 | some p =>
  obtain ⟨j, w⟩ := p;have q1 : run (aAB all j w e yes no) h nx lg = some r := q;rcases kR (o := jW all j) q1 with ⟨hd, q2⟩ | ⟨d, hd, q2⟩
  ·exact .inr ⟨by simp only [gd, hd], q2⟩
  ·obtain ⟨v, hv, q3⟩ := bR (o := gp e (pa d)) q2;have hv' : at_ e d = some v := hv;have hgd : gd all (some (j, w)) e = gdV w (some v) := by simp only [gd, hd, hv']
   rw [hgd];rcases aCL q3 with ⟨b, rfl, q4⟩ | ⟨hnb, q4⟩
   ·cases b <;> cases w <;> first
     | exact .inl ⟨rfl, q4⟩
     | exact .inr ⟨rfl, q4⟩
   ·right
    refine ⟨?_, q4⟩;cases v <;> first
     | exact (hnb _ rfl).elim
     | rfl
theorem aGc {all : Array Oper} {o : Oper} {e : Tr V} {n : Nat} {a : Act} {ρ : Rho} {b : Bool} (he : cC ρ e n a.tmps) (h : gd all.toList o.guard e = some b) : Region.wanted o (yielded all a.tmps) = b := by
 cases hg : o.guard with
 | none => rw [hg] at h; cases h; simp [Region.wanted, hg]
 | some p =>
  obtain ⟨j, w⟩ := p;rw [hg] at h;have hw : Region.wanted o (yielded all a.tmps) = (yielded all a.tmps j == some w) := by simp [Region.wanted, hg]
  rw [hw];cases hd : jW all.toList j with
  | none =>
   simp only [gd, hd] at h; cases h
   rw [xU, a0f] at hd;have hy : yielded all a.tmps j = none := by simp [yielded, hd]
   rw [hy]; rfl
  | some d =>
   have hgd : gd all.toList (some (j, w)) e = gdV w (at_ e d) := by simp only [gd, hd]
   rw [hgd] at h;rw [xU, a0f] at hd;cases hv : at_ e d with
   | none => rw [hv] at h; cases h
   | some v =>
    rw [hv] at h;obtain ⟨x, hx1, hx2⟩ := he.get d v hv;by_cases hb : ∃ c, v = .bool c
    ·obtain ⟨c, rfl⟩ := hb;cases hx2;cases h;have hy : yielded all a.tmps j = some c := by simp [yielded, hd, hx1]
     rw [hy]; cases c <;> cases w <;> rfl
    ·have hnb : ∀ c, v ≠ .bool c := fun c hc => hb ⟨c, hc⟩
     have hnx := aC4 hnb hx2;have hy : yielded all a.tmps j = none := by
      unfold yielded;rw [hd];simp only [Option.bind_some, hx1];cases x <;> first
       | rfl
       | exact (hnx _ rfl).elim
     rw [hy];cases v <;> first
      | exact (hnb _ rfl).elim
      | (cases h; rfl)
def pOp (b : Bool) (p : St) : Pr (V × List Fp) := match b with
 | true => kK p
 | false => fun h nx => some ((eS, []), h, nx, [])
theorem yM {b : Bool} {p : St} (hp : Loc p) : iC (pOp b p) := by
 cases b with
 | true => exact aEx hp
 | false =>
  refine ⟨fun {h nx x h1 n1 l} e => ?_, fun {h nx x h1 n1 l} e b i hn => ?_, fun {h nx x h1 n1 l} e g ha => ?_⟩
  ·cases e; exact a1y _
  ·cases e; rfl
  ·cases e; exact ⟨g, rfl, fun b i w => (aCR w).elim, fun b i _ => rfl⟩
section
variable (all : List Oper) (P : Program) (ex : Ex)
def St1 (o : Oper) (n0 n1 : Nat) (L : List Fp) (h : Tr Blk) (e : Tr V) (h' : Tr Blk) (e' : Tr V) : Prop :=
 ∃ b v, gd all o.guard e = some b /\ pOp b (run (opH o.op P ex e retV noPan noDfr)) h n0 = some ((v, L), h', n1, L) /\ e' = ins o.dst v e
structure Indep (o o' : Oper) (L L' : List Fp) : Prop where
 sep : Sep L L'
 r1 : ∀ t, rdS all o t -> o'.dst ≠ some t
 r2 : ∀ t, rdS all o' t -> o.dst ≠ some t
 w : ∀ t, o.dst = some t -> o'.dst ≠ some t
def Eqv (h : Tr Blk) (e : Tr V) (g : Tr Blk) (f : Tr V) : Prop := (∀ b i, cv g b i = cv h b i) /\ ∀ t, at_ f t = at_ e t
end
section
variable {all : List Oper} {P : Program} {ex : Ex} {o o' : Oper} {L L' : List Fp} {n0 n1 m0 m1 : Nat} {h h1 h2 g : Tr Blk} {e e1 e2 f : Tr V}
theorem Eqv.refl : Eqv h e h e := ⟨fun _ _ => rfl, fun _ => rfl⟩
theorem Eqv.trans (p : Eqv h e h1 e1) (q : Eqv h1 e1 h2 e2) : Eqv h e h2 e2 := ⟨fun b i => (q.1 b i).trans (p.1 b i), fun t => (q.2 t).trans (p.2 t)⟩
theorem aGe (s1 : St1 all P ex o n0 n1 L h e h1 e1) (s2 : St1 all P ex o' m0 m1 L' h1 e1 h2 e2) (I : Indep all o o' L L') :
  ∃ g1 f1 g2 f2, St1 all P ex o' m0 m1 L' h e g1 f1 /\ St1 all P ex o n0 n1 L g1 f1 g2 f2 /\ Eqv h2 e2 g2 f2 := by
 obtain ⟨b, v, k1, k2, rfl⟩ := s1
 obtain ⟨b', v', k3, k4, rfl⟩ := s2
 have c1 : ∀ t, rdS all o' t -> at_ (ins o.dst v e) t = at_ e t := fun t ht => by rw [pM, a1U (I.r2 t ht)]
 have c2 : ∀ t, rdS all o t -> at_ e t = at_ (ins o'.dst v' e) t := fun t ht => by rw [pM, a1U (I.r1 t ht)]
 rw [aAy c1] at k3
 rw [aBL (P := P) (ex := ex) c1] at k4
 obtain ⟨g1, g2, j1, j2, j3⟩ := commute (yM (gN _)) (yM (gN _)) k2 k4 I.sep
 rw [aAy c2] at k1
 rw [aBL (P := P) (ex := ex) c2] at j2
 refine ⟨g1, _, g2, _, ⟨b', v', k3, j1, rfl⟩, ⟨b, v, k1, j2, rfl⟩, j3, fun t => ?_⟩
 rw [pM, pM, pM, pM]
 by_cases h1 : o.dst = some t
 ·rw [a1V h1, a1U (I.w t h1), a1V h1]
 ·rw [a1U h1, a1U h1]
theorem st_eqv (s : St1 all P ex o n0 n1 L h e h1 e1) (q : Eqv h e g f) : ∃ g1 f1, St1 all P ex o n0 n1 L g f g1 f1 /\ Eqv h1 e1 g1 f1 := by
 obtain ⟨b, v, k1, k2, rfl⟩ := s
 have c1 : ∀ t, rdS all o t -> at_ e t = at_ f t := fun t _ => (q.2 t).symm
 rw [aAy c1] at k1
 rw [aBL (P := P) (ex := ex) c1] at k2
 obtain ⟨g1, j1, j2⟩ := same_run (yM (gN _)) k2 q.1
 exact ⟨g1, _, ⟨b, v, k1, j1, rfl⟩, j2, fun t => by rw [pM, pM, q.2 t]⟩
end
end
open RowKit (Below)
noncomputable section
section
variable (P : Program) (ex : Ex) (ops : Array Oper) (N0 : Nat -> Nat) (L : Nat -> List Fp) (hN : Tr Blk) (eN : Tr V)
def Ok : Nat -> Array Bool -> Tr Blk -> Tr V -> Prop
 | 0, listed, h, e => Region.ready .any ops listed = [] /\ Eqv hN eN h e
 | f + 1, listed, h, e => (Region.ready .any ops listed = [] -> Eqv hN eN h e) /\ ∀ i ∈ Region.ready .any ops listed, ∀ o, ops[i]? = some o ->
   ∃ h' e', St1 ops.toList P ex o (N0 i) (N0 (i + 1)) (L i) h e h' e' /\ Ok f (listed.setIfInBounds i true) h' e'
end
section
variable {P : Program} {ex : Ex} {ops : Array Oper} {N0 : Nat -> Nat} {L : Nat -> List Fp} {hN : Tr Blk} {eN : Tr V} {anc : Nat -> Nat -> Prop}
theorem Ok.eqv : ∀ (f : Nat) (listed : Array Bool) {h g : Tr Blk} {e e' : Tr V}, Ok P ex ops N0 L hN eN f listed h e -> Eqv h e g e' -> Ok P ex ops N0 L hN eN f listed g e'
 | 0, _, _, _, _, _, k, q => ⟨k.1, k.2.trans q⟩
 | f + 1, listed, _, _, _, _, k, q => ⟨fun hr => (k.1 hr).trans q, fun i hi o ho => by
   obtain ⟨h', e', s, k2⟩ := k.2 i hi o ho;obtain ⟨g1, f1, s2, q2⟩ := st_eqv s q;exact ⟨g1, f1, s2, Ok.eqv f _ k2 q2⟩⟩
theorem aCx {l : Array Bool} {i : Nat} (h : l.getD i true = false) (k : l.getD i false = true) : False := by
 rcases a1B i l.size with h' | h'
 ·simp [h'] at h k; rw [h] at k; cases k
 ·simp [Array.getElem?_eq_none h'] at k
def mE (anc : Nat -> Nat -> Prop) (listed : Array Bool) : Prop := ∀ m, listed.getD m false = true -> ∀ q, anc m q -> listed.getD q false = true
def uD (ops : Array Oper) (anc : Nat -> Nat -> Prop) : Prop := ∀ (j : Nat) (oj : Oper), ops[j]? = some oj -> ∀ q, anc j q -> ∃ e ∈ oj.after, Region.binds .any e = true /\ (q = e.on \/ anc e.on q)
theorem aBO (ha : uD ops anc) {listed : Array Bool} (hc : mE anc listed) {j : Nat} (hj : j ∈ Region.ready .any ops listed) {q : Nat} (hq : anc j q) : listed.getD q false = true := by
 obtain ⟨_, oj, hoj, hall⟩ := mem_ready.1 hj
 obtain ⟨e, he, hb, rfl | h2⟩ := ha j oj hoj q hq
 ·exact hall e he hb
 ·exact hc _ (hall e he hb) q h2
theorem mE.set (ha : uD ops anc) {listed : Array Bool} (hc : mE anc listed) {j : Nat} (hj : j ∈ Region.ready .any ops listed) : mE anc (listed.setIfInBounds j true) := fun m hm q hq => by
 refine getD_set_true ?_
 by_cases hjm : j = m
 ·subst hjm; exact aBO ha hc hj hq
 ·rw [getD_set_ne false hjm] at hm; exact hc m hm q hq
theorem aD4 (ha : uD ops anc) (hind : ∀ (i j : Nat) (oi oj : Oper), ops[i]? = some oi -> ops[j]? = some oj -> i ≠ j -> ¬ anc j i -> ¬ anc i j -> Indep ops.toList oi oj (L i) (L j)) {i : Nat} {oi : Oper} (hi : ops[i]? = some oi) :
  ∀ (f : Nat) (listed : Array Bool) (h : Tr Blk) (e : Tr V) (h1 : Tr Blk) (e1 : Tr V), mE anc listed -> i ∈ Region.ready .any ops listed -> St1 ops.toList P ex oi (N0 i) (N0 (i + 1)) (L i) h e h1 e1 ->
   Ok P ex ops N0 L hN eN f (listed.setIfInBounds i true) h1 e1 -> Ok P ex ops N0 L hN eN (f + 1) listed h e
 | 0, listed, h, e, h1, e1, hc, hr, s, H => ⟨(fun h0 => by rw [h0] at hr; cases hr), fun j hj oj hoj => by
   by_cases hji : j = i
   ·subst hji; rw [hi] at hoj; cases hoj; exact ⟨h1, e1, s, H⟩
   ·have := ready_mono hj hji;rw [H.1] at this;cases this⟩
 | f + 1, listed, h, e, h1, e1, hc, hr, s, H => ⟨(fun h0 => by rw [h0] at hr; cases hr), fun j hj oj hoj => by
   by_cases hji : j = i
   ·subst hji; rw [hi] at hoj; cases hoj; exact ⟨h1, e1, s, H⟩
   ·obtain ⟨h2, e2, s2, k2⟩ := H.2 j (ready_mono hj hji) oj hoj;have nji : ¬ anc j i := fun hq => aCx (mem_ready.1 hr).1 (aBO ha hc hj hq)
    have nij : ¬ anc i j := fun hq => aCx (mem_ready.1 hj).1 (aBO ha hc hr hq)
    obtain ⟨g1, f1, g2, f2, t1, t2, t3⟩ := aGe s s2 (hind i j oi oj hi hoj (Ne.symm hji) nji nij);refine ⟨g1, f1, t1, aD4 ha hind hi f (listed.setIfInBounds j true) g1 f1 g2 f2 (hc.set ha hj) (ready_mono hr (Ne.symm hji)) t2 ?_⟩;rw [Array.setIfInBounds_comm _ _ hji];exact Ok.eqv f _ k2 t3⟩
def upTo (n : Nat) : Nat -> Array Bool
 | 0 => Array.replicate n false
 | k + 1 => (upTo n k).setIfInBounds k true
theorem vW {n : Nat} (d : Bool) : ∀ (k : Nat), k <= n -> ∀ j, (upTo n k).getD j d = if j < k then true else if j < n then false else d
 | 0, _, j => by
  show (Array.replicate n false).getD j d = _
  by_cases h : j < n <;> simp [a0b, h]
 | k + 1, hk, j => by
  show ((upTo n k).setIfInBounds k true).getD j d = _
  by_cases h : k = j
  ·subst h;have hs : ∀ m, (upTo n m).size = n := fun m => by induction m with
    | zero => simp [upTo]
    | succ m ih => simp [upTo, ih]
   have := hs k;simp [a0b, this, show k < n from hk]
  ·rw [getD_set_ne d h, vW d k (by omega) j];by_cases h1 : j < k
   ·rw [a1V h1, a1V (by omega)]
   ·simp only [a1U h1, a1U (show ¬ j < k + 1 by omega)]
theorem ok_all (ha : uD ops anc) (hlt : ∀ i q, anc i q -> q < i) (hed : ∀ (i : Nat) (o : Oper), ops[i]? = some o -> ∀ e ∈ o.after, Region.binds .any e = true -> e.on < i)
  (hind : ∀ (i j : Nat) (oi oj : Oper), ops[i]? = some oi -> ops[j]? = some oj -> i ≠ j -> ¬ anc j i -> ¬ anc i j -> Indep ops.toList oi oj (L i) (L j)) (hs : Nat -> Tr Blk) (es : Nat -> Tr V)
  (hst : ∀ (i : Nat) (o : Oper), ops[i]? = some o -> St1 ops.toList P ex o (N0 i) (N0 (i + 1)) (L i) (hs i) (es i) (hs (i + 1)) (es (i + 1))) :
  ∀ (m k : Nat), k + m = ops.size -> Ok P ex ops N0 L (hs ops.size) (es ops.size) m (upTo ops.size k) (hs k) (es k)
 | 0, k, hk => by
  have : k = ops.size := by omega
  subst this;refine ⟨List.eq_nil_iff_forall_not_mem.2 fun j hj => ?_, Eqv.refl⟩
  obtain ⟨h0, o, ho, _⟩ := mem_ready.1 hj;have hj : j < ops.size := (a0d.1 ho).1;rw [vW true _ (a1y _), a1V hj] at h0;cases h0
 | m + 1, k, hk => by
  have hkl : k < ops.size := by omega
  have ho : ops[k]? = some ops[k] := Array.getElem?_eq_getElem hkl;refine aD4 ha hind ho m _ _ _ _ _ (fun q hq p hp => ?_) (mem_ready.2 ⟨?_, _, ho, fun e he hb => ?_⟩) (hst k _ ho) (ok_all ha hlt hed hind hs es hst m (k + 1) (by omega))
  ·rw [vW false _ (by omega)] at hq ⊢;have := hlt q p hp;by_cases h1 : q < k
   ·rw [a1V (by omega)]
   ·rw [a1U h1] at hq; split at hq <;> cases hq
  ·rw [vW true _ (by omega), a1U (by omega), a1V hkl]
  ·rw [vW false _ (by omega), a1V (hed k _ ho e he hb)]
end
end
open RowKit (Below)
noncomputable section
section
variable {P : Program} {ex : Ex} {ops : Array Oper} {N0 : Nat -> Nat} {L : Nat -> List Fp} {hN : Tr Blk} {eN : Tr V} {g : G} {ρ0 : Rho} {n : Nat} {ds : List Df} {ro rr : Option Nat} {k : KX} {lgN : List Fp} {r : O × S}
theorem cut_inv {p : St} {h h1 : Tr Blk} {nx n1 : Nat} {v : V} {l l' : List Fp} (e : kK p h nx = some ((v, l), h1, n1, l')) : ∃ lg, p h nx [] = some (.val v, ⟨h1, n1, lg⟩) := by
 unfold kK at e
 split at e
 ·rename_i v s hs; cases e; exact ⟨_, hs⟩
 ·cases e
theorem cC.ins {ρ : Rho} {e : Tr V} {a : Act} {o : Oper} (he : cC ρ e n a.tmps) (hd : ∀ d, o.dst = some d -> d < n) {v : V} {x : Value} (hv : tv ρ v = some x) : cC ρ (BX.ins o.dst v e) n (a.put o.dst x).tmps := by
 cases hq : o.dst with
 | none => exact he
 | some t => exact he.put (hd t hq) hv
structure DInv (ops : Array Oper) (N0 : Nat -> Nat) (g : G) (ρ0 : Rho) (n : Nat) (ds : List Df) (listed : Array Bool) (ρ : Rho) (h : Tr Blk) (e : Tr V) (a : Act) (w : World) : Prop where
 env : cC ρ e n a.tmps
 AY : kL ρ ds a.defers
 core : Rel ⟨g.w, 0, 0, ρ⟩ ρ h 0 w
 none : ∀ j, j < ops.size -> listed.getD j true = false -> ∀ b, N0 j <= b -> b < N0 (j + 1) -> ρ b = Option.none
 rest : ∀ b, N0 ops.size <= b -> b < g.hi -> ρ b = Option.none
 le : g.ρ.le ρ
 le0 : ρ0.le ρ
 out : ∀ b, b < g.lo \/ g.hi <= b -> ρ b = g.ρ b
theorem ok_wp (SA : SimA P ex) (SY : SimY P ex) (hmono : ∀ i j, i <= j -> N0 i <= N0 j) (hlo : g.lo <= N0 0) (hhi : N0 ops.size <= g.hi) (hdst : ∀ (i : Nat) (o : Oper), ops[i]? = some o -> ∀ d, o.dst = some d -> d < n)
  (hend : run (k .normal ⟨eN, n, ds, ro⟩) hN (N0 ops.size) lgN = some r) : ∀ (f : Nat) (listed : Array Bool) (ρ : Rho) (h : Tr Blk) (e : Tr V) (a : Act) (w : World), DInv ops N0 g ρ0 n ds listed ρ h e a w -> Ok P ex ops N0 L hN eN f listed h e ->
   wpAnyIn (SX.fw rr) 0 P .any ops (KQ g ρ0 ro k r) f listed a w := by
 have done : ∀ {listed : Array Bool} {ρ : Rho} {h : Tr Blk} {e : Tr V} {a : Act} {w : World}, DInv ops N0 g ρ0 n ds listed ρ h e a w -> Eqv hN eN h e -> KQ g ρ0 ro k r .normal a w := by
  intro listed ρ h e a w D q;have hat : ∀ b, at_ hN b = at_ h b := fun b => cvB_ext fun i => (q.1 b i).symm
  refine ⟨.normal, ⟨eN, n, ds, ro⟩, ρ, hN, N0 ops.size, lgN, D.le0, trivial, ⟨⟨D.env.size, fun t v ht => D.env.get t v (by rw [q.2 t]; exact ht)⟩, D.AY⟩, rfl, ?_, hend⟩
  have R := D.core.ext hat;exact ⟨R.blk, R.inj, R.new, R.below, a1z hlo (hmono _ _ (a1H _)), D.rest, D.le, D.out⟩
 have step : ∀ {f : Nat} (ih : ∀ (listed : Array Bool) (ρ : Rho) (h : Tr Blk) (e : Tr V) (a : Act) (w : World), DInv ops N0 g ρ0 n ds listed ρ h e a w -> Ok P ex ops N0 L hN eN f listed h e -> wpAnyIn (SX.fw rr) 0 P .any ops (KQ g ρ0 ro k r) f listed a w)
   {listed : Array Bool} {ρ : Rho} {h : Tr Blk} {e : Tr V} {a : Act} {w : World} {i : Nat} {o : Oper} {h' : Tr Blk} {e' : Tr V}, DInv ops N0 g ρ0 n ds listed ρ h e a w -> i ∈ Region.ready .any ops listed -> ops[i]? = some o ->
   St1 ops.toList P ex o (N0 i) (N0 (i + 1)) (L i) h e h' e' -> Ok P ex ops N0 L hN eN f (listed.setIfInBounds i true) h' e' -> wpOpIn (SX.fw rr) 0 P ops (KQ g ρ0 ro k r) i (wpAnyIn (SX.fw rr) 0 P .any ops (KQ g ρ0 ro k r) f (listed.setIfInBounds i true)) a w := by
  intro f ih listed ρ h e a w i o h' e' D hr ho s K;have hil : i < ops.size := (a0d.1 ho).1;obtain ⟨b, v, k1, k2, rfl⟩ := s;have hw := aGc D.env k1;have hun : ∀ j, (listed.setIfInBounds i true).getD j true = false -> listed.getD j true = false /\ j ≠ i := fun j hj => by
   by_cases hji : i = j
   ·subst hji
    exfalso
    rcases a1B i listed.size with h' | h'
    ·simp [h'] at hj
    ·simp [Array.getElem?_eq_none h'] at hj
   ·rw [getD_set_ne true hji] at hj; exact ⟨hj, Ne.symm hji⟩
  unfold wpOpIn;rw [ho];simp only
  cases b with
  | true =>
   rw [a1V hw];obtain ⟨lg, q⟩ := cut_inv k2;have R : Rel ⟨g.w, N0 i, N0 (i + 1), ρ⟩ ρ h (N0 i) w := ⟨D.core.blk, D.core.inj, D.core.new, D.core.below, a1y _, D.none i hil (mem_ready.1 hr).1, Rho.le_refl ρ, fun _ _ => rfl⟩
   refine op_sim SA SY D.env R (a1y _) q (fun v' x ρ' h2 n2 l2 w' m1 m2 m3 m4 => ?_) (fun ch ch' ρ' h2 n2 l2 w' m1 m2 m3 m4 => by cases m4) (fun d d' l2 m1 m2 => by cases m2)
   have m4' : some ((.val v' : O), (⟨h2, n2, l2⟩ : S)) = some (.val v, ⟨h', N0 (i + 1), lg⟩) := m4;cases m4';refine ih _ ρ' _ _ _ _ ⟨(D.env.mono m1).ins (hdst i o ho) m3, ?_, ⟨m2.blk, m2.inj, m2.new, m2.below, a1y _, fun b _ hb => absurd hb (a1F b), Rho.le_refl _, fun _ _ => rfl⟩, fun j hj hjl b hb1 hb2 => ?_, fun b hb1 hb2 => ?_, Rho.le_trans D.le m1, Rho.le_trans D.le0 m1, fun b hb => ?_⟩ K
   ·have := D.AY.mono m1;cases o.dst <;> exact this
   ·obtain ⟨h3, h4⟩ := hun j hjl;rw [m2.out b ?_]
    ·exact D.none j hj h3 b hb1 hb2
    ·show b < N0 i \/ N0 (i + 1) <= b
     rcases Nat.lt_or_gt_of_ne h4 with h5 | h5
     ·exact .inl (a1A hb2 (hmono _ _ h5))
     ·exact .inr (a1z (hmono _ _ h5) hb1)
   ·rw [m2.out b (.inr (a1z (hmono _ _ hil) hb1))]; exact D.rest b hb1 hb2
   ·rw [m2.out b ?_]
    ·exact D.out b hb
    ·show b < N0 i \/ N0 (i + 1) <= b
     rcases hb with hb | hb
     ·exact .inl (a1A hb (a1z hlo (hmono _ _ (a1H _))))
     ·exact .inr (a1z (hmono _ _ hil) (a1z hhi hb))
  | false =>
   rw [a1U (by rw [hw]; simp)];have k3 : some (((eS, []), h, N0 i, []) : (V × List Fp) × Tr Blk × Nat × List Fp) = some ((v, L i), h', N0 (i + 1), L i) := k2;simp only [a1M, Prod.mk.injEq] at k3;obtain ⟨⟨rfl, _⟩, rfl, _, _⟩ := k3;refine ⟨fun _ _ => a1W, ih _ ρ _ _ _ _ ⟨D.env.ins (hdst i o ho) rfl, ?_, D.core, fun j hj hjl => D.none j hj (hun j hjl).1, D.rest, D.le, D.le0, D.out⟩ K⟩
   have := D.AY;cases o.dst <;> exact this
 intro f
 induction f with
 | zero => intro listed ρ h e a w D K; exact ⟨K.1, done D K.2⟩
 | succ f ih =>
  intro listed ρ h e a w D K;refine ⟨fun hr => done D (K.1 hr), fun i hi => ?_⟩
  obtain ⟨_, o, ho, _⟩ := mem_ready.1 hi;obtain ⟨h', e', s, K2⟩ := K.2 i hi o ho;exact step ih D hi ho s K2
end
end
open RowKit (Below)
noncomputable section
section
variable {all : List Oper} {P : Program} {ex : Ex} {n : Nat} {ds : List Df} {ro : Option Nat} {k : KX} {r : O × S}
theorem aCV {d : Option Nat} {v : V} {e : Tr V} {k : Tr V -> AL} {h : Tr Blk} {nx : Nat} {lg : List Fp} (q : run (insE d v e n k) h nx lg = some r) : (∀ t, d = some t -> t < n) /\ run (k (ins d v e)) h nx lg = some r := by
 cases d with
 | none => exact ⟨(fun t ht => by cases ht), q⟩
 | some t =>
  have q' : run (Bool.rec .fail (pp e (some v) (pa t) k) (Nat.blt t n) : AL) h nx lg = some r := q;cases hb : Nat.blt t n with
  | false => rw [hb] at q'; cases q'
  | true =>
   rw [hb] at q';have q2 : run (pp e (some v) (pa t) k) h nx lg = some r := q';rw [nV] at q2;rw [a1u] at hb;exact ⟨(fun s hs => by cases hs; exact hb), q2⟩
theorem aER {l : List Fp} : Sep [] l := fun b i => ⟨(fun ⟨_, h, _⟩ => by cases h), (fun ⟨_, h, _⟩ => by cases h)⟩
theorem aGj {l : List Fp} : Sep l [] := aER.symm
theorem pSub_log {p : St} {h h1 : Tr Blk} {nx n1 : Nat} {x : V × List Fp} {l : List Fp} (e : kK p h nx = some (x, h1, n1, l)) : x.2 = l := by
 unfold kK at e
 split at e
 ·cases e; rfl
 ·cases e
def DRun (all : List Oper) (P : Program) (ex : Ex) (n : Nat) (ds : List Df) (ro : Option Nat) (k : KX) (r : O × S) (l : List Oper) (is : List Inf) (i : Nat) (lg : List (Nat × List Fp)) (e : Tr V) (h : Tr Blk) (nx : Nat) : Prop :=
  ∃ (N0 : Nat -> Nat) (L : Nat -> List Fp) (hs : Nat -> Tr Blk) (es : Nat -> Tr V) (lgN : List Fp), N0 i = nx /\ hs i = h /\ es i = e /\ (∀ j, j < l.length -> N0 (i + j) <= N0 (i + j + 1)) /\
   (∀ (j : Nat) (o : Oper), l[j]? = some o -> (∀ d, o.dst = some d -> d < n) /\ St1 all P ex o (N0 (i + j)) (N0 (i + j + 1)) (L (i + j)) (hs (i + j)) (es (i + j)) (hs (i + j + 1)) (es (i + j + 1))) /\
   (∀ (j : Nat) (x : Inf), is[j]? = some x -> j < l.length -> (∀ p ∈ lg, has x.anc p.1 = true \/ Sep (L (i + j)) p.2) /\ ∀ j', j' < j -> has x.anc (i + j') = true \/ Sep (L (i + j)) (L (i + j'))) /\
   run (k .normal ⟨es (i + l.length), n, ds, ro⟩) (hs (i + l.length)) (N0 (i + l.length)) lgN = some r
theorem aDi : ∀ (l : List Oper) (is : List Inf) (i : Nat) (lg : List (Nat × List Fp)) (e : Tr V) (h : Tr Blk) (nx : Nat) (lgr : List Fp), run (opsD all P ex l is i lg ⟨e, n, ds, ro⟩ k) h nx lgr = some r ->
  DRun all P ex n ds ro k r l is i lg e h nx
 | [], is, i, lg, e, h, nx, lgr, q => ⟨fun _ => nx, fun _ => [], fun _ => h, fun _ => e, lgr, rfl, rfl, rfl, (fun _ _ => a1y _), (fun j o ho => by cases ho), (fun j x _ hj => absurd hj (a1F j)), q⟩
 | o :: l, [], i, lg, e, h, nx, lgr, q => by cases q
 | o :: l, x :: is, i, lg, e, h, nx, lgr, q => by
  have q0 : run (opG o.guard all e (.sub (opH o.op P ex e retV noPan noDfr) fun v m => dH (apart x.anc m lg) (insE o.dst v e n fun e => opsD all P ex l is (i + 1) ((i, m) :: lg) ⟨e, n, ds, ro⟩ k)) (insE o.dst eS e n fun e => opsD all P ex l is (i + 1) lg ⟨e, n, ds, ro⟩ k)) h nx lgr = some r := q
  have key : ∀ (b : Bool) (v : V) (m : List Fp) (h1 : Tr Blk) (n1 : Nat) (lg1 : List (Nat × List Fp)) (lgr1 : List Fp), gd all o.guard e = some b -> pOp b (run (opH o.op P ex e retV noPan noDfr)) h nx = some ((v, m), h1, n1, m) -> (∀ t, o.dst = some t -> t < n) ->
    (∀ p ∈ lg, has x.anc p.1 = true \/ Sep m p.2) -> (∀ p ∈ lg, p ∈ lg1) -> ((i, m) ∈ lg1 \/ m = []) -> run (opsD all P ex l is (i + 1) lg1 ⟨ins o.dst v e, n, ds, ro⟩ k) h1 n1 lgr1 = some r -> DRun all P ex n ds ro k r (o :: l) (x :: is) i lg e h nx := by
   intro b v m h1 n1 lg1 lgr1 hg hp hd hap hsub hmem q1;obtain ⟨N', L', hs', es', lgN, a1, a2, a3, a4, a5, a6, a7⟩ := aDi l is (i + 1) lg1 _ h1 n1 lgr1 q1;have ne : ∀ j, i + (j + 1) ≠ i := fun j => by omega
   have e1 : ∀ j, i + (j + 1) = i + 1 + j := fun j => by omega
   have e2 : ∀ j, i + (j + 1) + 1 = i + 1 + j + 1 := fun j => by omega
   refine ⟨fun j => if j = i then nx else N' j, fun j => if j = i then m else L' j, fun j => if j = i then h else hs' j, fun j => if j = i then e else es' j, lgN, by simp, by simp, by simp, fun j hj => ?_, fun j o' ho' => ?_, fun j y hy hj => ?_, ?_⟩
   ·cases j with
    | zero =>
     simp only [a1t, a1V, a1U (show i + 1 ≠ i by omega), a1];exact (yM (gN _)).mono hp
    | succ j =>
     simp only [a1U (ne j), a1U (show i + (j + 1) + 1 ≠ i by omega)];have := a4 j (by simp at hj; omega)
     rw [e2, e1]; exact this
   ·cases j with
    | zero =>
     simp only [a0F, a1M] at ho';subst ho';refine ⟨hd, ?_⟩;simp only [a1t, a1V, a1U (show i + 1 ≠ i by omega), a1, a2, a3];exact ⟨b, v, hg, hp, rfl⟩
    | succ j =>
     simp only [a0E] at ho';obtain ⟨c1, c2⟩ := a5 j o' ho';refine ⟨c1, ?_⟩;simp only [a1U (ne j), a1U (show i + (j + 1) + 1 ≠ i by omega)];rw [e2, e1]; exact c2
   ·cases j with
    | zero =>
     simp only [a0F, a1M] at hy;subst hy;simp only [a1t, a1V];exact ⟨hap, fun j' hj' => absurd hj' (a1F j')⟩
    | succ j =>
     simp only [a0E] at hy;obtain ⟨c1, c2⟩ := a6 j y hy (by simp at hj; omega)
     simp only [a1U (ne j)];rw [e1];refine ⟨fun p hp => c1 p (hsub p hp), fun j' hj' => ?_⟩
     cases j' with
     | zero =>
      simp only [a1t, a1V];rcases hmem with hm | hm
      ·exact c1 _ hm
      ·rw [hm]; exact .inr aGj
     | succ j' =>
      simp only [a1U (ne j')];rw [e1];exact c2 j' (by omega)
   ·simp only [a0U, a1U (ne l.length)];rw [e1]; exact a7
  rcases opG_gd q0 with ⟨hg, q1⟩ | ⟨hg, q1⟩
  ·rw [aDG] at q1;obtain ⟨⟨v, m⟩, h1, n1, m', p1, q2⟩ := dZ q1;have hm : m = m' := pSub_log p1;subst hm;obtain ⟨hap, q3⟩ := dU q2;obtain ⟨hd, q4⟩ := aCV (k := fun e => opsD all P ex l is (i + 1) ((i, m) :: lg) ⟨e, n, ds, ro⟩ k) q3
   exact key true v m h1 n1 ((i, m) :: lg) _ hg p1 hd (aBG hap) (fun p hp => .tail _ hp) (.inl (.head _)) q4
  ·obtain ⟨hd, q4⟩ := aCV (k := fun e => opsD all P ex l is (i + 1) lg ⟨e, n, ds, ro⟩ k) q1
   exact key false eS [] h nx lg _ hg rfl hd (fun p _ => .inr aER) (fun p hp => hp) (.inr rfl) q4
end
end
open RowKit (Below)
noncomputable section
theorem oO {m i : Nat} : has m i = m.testBit i := by
 show Nat.beq ((m >>> i) &&& 1) 1 = _
 rw [Nat.and_one_is_mod, Nat.shiftRight_eq_div_pow, Nat.testBit_eq_decide_div_mod_eq]
 cases h : Nat.beq (m / 2 ^ i % 2) 1 with
 | true => exact (a1S (a1v h)).symm
 | false => exact (a1R (Nat.ne_of_beq_eq_false h)).symm
theorem aBE {n t : Nat} : has (bit n) t = true ↔ n = t := by
 rw [oO]
 show (1 <<< n).testBit t = true ↔ _
 rw [Nat.one_shiftLeft, Nat.testBit_two_pow]; simp
theorem tP {a b t : Nat} : has (Nat.lor a b) t = true ↔ has a t = true \/ has b t = true := by
 rw [oO, oO, oO]
 show (a ||| b).testBit t = true ↔ _
 rw [Nat.testBit_or]; simp
theorem has_zero {t : Nat} : has 0 t = false := by rw [oO]; simp
theorem aBg {a b t : Nat} (h : dis a b = true) (ha : has a t = true) (hb : has b t = true) : False := by
 have h0 : a &&& b = 0 := a1v h
 rw [oO] at ha hb
 have : (a &&& b).testBit t = true := by rw [Nat.testBit_and, ha, hb]; rfl
 rw [h0] at this; simp at this
theorem aEF : ∀ {l : List Operand} {t : Nat}, Operand.tmp t ∈ l -> has (nP l) t = true
 | [], _, h => by cases h
 | x :: l, t, h => by
  show has (Nat.lor (opTmp x) (nP l)) t = true
  rw [tP];rcases a1e.1 h with rfl | h
  ·exact .inl (aBE.2 rfl)
  ·exact .inr (aEF h)
theorem uJ {d : Option Nat} {t : Nat} (h : d = some t) : has (pB d) t = true := by subst h; exact aBE.2 rfl
theorem has_rd {all : List Oper} {o : Oper} {t : Nat} (h : rdS all o t) : has (Nat.lor (nP o.op.operands.toList) (gBit all o.guard)) t = true := by
 rw [tP]
 rcases h with h | ⟨j, w, h1, h2⟩
 ·exact .inl (aEF h)
 ·right
  rw [h1];show has (pB (jW all j)) t = true
  exact uJ h2
theorem aA4 {ds : List Nat} {n : Nat} : ∀ {l : List Edge} {m : Nat}, pU ds n l = some m -> (∀ e ∈ l, Region.binds .any e = true -> e.on < n) /\ ∀ q, has m q = true -> ∃ e ∈ l, Region.binds .any e = true /\ (q = e.on \/ ∃ x, ds[n - 1 - e.on]? = some x /\ has x q = true)
 | [], m, h => by
  cases h;exact ⟨(fun e he => by cases he), fun q hq => by rw [has_zero] at hq; cases hq⟩
 | e :: l, m, h => by
  have h' : (Option.rec none (fun m => Bool.rec (some m) (Bool.rec none (Option.rec none (fun x => eW (Nat.lor (Nat.lor (bit e.on) x) m) none some) (nth ds (Nat.sub (Nat.sub n 1) e.on))) (Nat.blt e.on n)) (Region.binds .any e)) (pU ds n l) : Option Nat) = some m := h
  cases h0 : pU ds n l with
  | none => rw [h0] at h'; cases h'
  | some m0 =>
   rw [h0] at h';obtain ⟨i1, i2⟩ := aA4 h0;cases hb : Region.binds .any e with
   | false =>
    rw [hb] at h';cases h';refine ⟨fun e' he' hb' => ?_, fun q hq => ?_⟩
    ·rcases a1e.1 he' with rfl | he'
     ·rw [hb] at hb'; cases hb'
     ·exact i1 e' he' hb'
    ·obtain ⟨e', a, b, c⟩ := i2 q hq;exact ⟨e', .tail _ a, b, c⟩
   | true =>
    rw [hb] at h';cases hl : Nat.blt e.on n with
    | false => rw [hl] at h'; cases h'
    | true =>
     rw [hl] at h';cases hn : nth ds (Nat.sub (Nat.sub n 1) e.on) with
     | none => rw [hn] at h'; cases h'
     | some x =>
      rw [hn] at h';have h2 : eW (Nat.lor (Nat.lor (bit e.on) x) m0) none some = some m := h';rw [wG] at h2;have hm : m = Nat.lor (Nat.lor (bit e.on) x) m0 := (a1L h2).symm;rw [a1u] at hl;refine ⟨fun e' he' hb' => ?_, fun q hq => ?_⟩
      ·rcases a1e.1 he' with rfl | he'
       ·exact hl
       ·exact i1 e' he' hb'
      ·rw [hm, tP, tP, aBE] at hq;rcases hq with (hq | hq) | hq
       ·exact ⟨e, .head _, hb, .inl hq.symm⟩
       ·rw [lG] at hn;exact ⟨e, .head _, hb, .inr ⟨x, hn, hq⟩⟩
       ·obtain ⟨e', a, b, c⟩ := i2 q hq;exact ⟨e', .tail _ a, b, c⟩
end
open RowKit (Below)
noncomputable section
theorem aC0 {all : List Oper} : ∀ (l : List Oper) (ds : List Nat) (nn : Nat) (k : List Inf -> Option (List Inf)) {res : List Inf}, infs all l ds nn k = some res -> ∃ xs, k xs = some res /\ xs.length = l.length /\ ∀ (j : Nat) (o : Oper), l[j]? = some o ->
  ∃ x, xs[j]? = some x /\ x.tr = Nat.lor (nP o.op.operands.toList) (gBit all o.guard) /\ x.tw = pB o.dst /\ ∃ dsj, pU dsj (nn + j) o.after.toList = some x.anc /\ (∀ i y, i < j -> xs[i]? = some y -> dsj[j - 1 - i]? = some y.anc) /\ ∀ i : Nat, dsj[j + i]? = ds[i]?
 | [], ds, nn, k, res, h => ⟨[], h, rfl, fun j o ho => by cases ho⟩
 | o :: l, ds, nn, k, res, h => by
  have h' : (Option.rec none (fun x => Bool.rec none (eW (Nat.lor (nP o.op.operands.toList) (gBit all o.guard)) none fun tr => eW (pB o.dst) none fun tw => infs all l (x :: ds) (Nat.succ nn) fun l => k (⟨x, tr, tw⟩ :: l)) (plain? o.op)) (pU ds nn o.after.toList) : Option (List Inf)) = some res := h
  cases ha : pU ds nn o.after.toList with
  | none => rw [ha] at h'; cases h'
  | some x =>
   rw [ha] at h';cases hp : plain? o.op with
   | false => rw [hp] at h'; cases h'
   | true =>
    rw [hp] at h';have h2 : (eW (Nat.lor (nP o.op.operands.toList) (gBit all o.guard)) none fun tr => eW (pB o.dst) none fun tw => infs all l (x :: ds) (Nat.succ nn) fun l => k (⟨x, tr, tw⟩ :: l)) = some res := h'
    rw [wG, wG] at h2;obtain ⟨xs, k1, k2, k3⟩ := aC0 l (x :: ds) (nn + 1) _ h2;refine ⟨_ :: xs, k1, by simp [k2], fun j o' ho' => ?_⟩
    cases j with
    | zero =>
     simp only [a0F, a1M] at ho';subst ho';exact ⟨_, rfl, rfl, rfl, ds, ha, fun i y hi => absurd hi (a1F i), fun i => by rw [a1G]⟩
    | succ j =>
     simp only [a0E] at ho';obtain ⟨y, c1, c2, c3, dsj, c4, c5, c6⟩ := k3 j o' ho';refine ⟨y, c1, c2, c3, dsj, by rw [show nn + (j + 1) = nn + 1 + j by omega]; exact c4, fun i z hi hz => ?_, fun i => ?_⟩
     ·cases i with
      | zero =>
       simp only [a0F, a1M] at hz;subst hz;have := c6 0;simpa using this
      | succ i =>
       simp only [a0E] at hz;have := c5 i z (by omega) hz
       rw [show j + 1 - 1 - (i + 1) = j - 1 - i by omega]; exact this
     ·have := c6 (i + 1);rw [a0E] at this;rw [show j + 1 + i = j + (i + 1) by omega]; exact this
def TA (x y : Inf) : Prop := dis x.tw (Nat.lor y.tr y.tw) = true /\ dis y.tw x.tr = true
theorem aBP {x : Inf} : ∀ (l : List Inf) (n : Nat), tG x l n = true -> ∀ (i : Nat) (y : Inf), l[i]? = some y -> has x.anc (n - i) = true \/ TA x y
 | [], _, _, _, _, h => by cases h
 | y :: l, n, h, i, z, hz => by
  have h' : (Bool.rec (Bool.rec false (Bool.rec false (tG x l (Nat.sub n 1)) (dis y.tw x.tr)) (dis x.tw (Nat.lor y.tr y.tw))) (tG x l (Nat.sub n 1)) (has x.anc n) : Bool) = true := h;cases h1 : has x.anc n with
  | true =>
   rw [h1] at h';cases i with
   | zero => exact .inl h1
   | succ i =>
    have := aBP l (n - 1) h' i z hz;rw [show n - (i + 1) = n - 1 - i by omega]; exact this
  | false =>
   rw [h1] at h';cases h2 : dis x.tw (Nat.lor y.tr y.tw) with
   | false => rw [h2] at h'; cases h'
   | true =>
    rw [h2] at h';cases h3 : dis y.tw x.tr with
    | false => rw [h3] at h'; cases h'
    | true =>
     rw [h3] at h';cases i with
     | zero => cases hz; exact .inr ⟨h2, h3⟩
     | succ i =>
      have := aBP l (n - 1) h' i z hz;rw [show n - (i + 1) = n - 1 - i by omega]; exact this
theorem aC8 : ∀ (l : List Inf) (n : Nat) (done : List Inf), xG l n done = true -> ∀ (j : Nat) (x : Inf), l[j]? = some x ->
  (∀ (i : Nat) (y : Inf), done[i]? = some y -> has x.anc (n - 1 - i) = true \/ TA x y) /\ ∀ (i : Nat) (y : Inf), i < j -> l[i]? = some y -> has x.anc (n + i) = true \/ TA x y
 | [], _, _, _, _, _, h => by cases h
 | x0 :: l, n, done, h, j, x, hx => by
  have h' : (Bool.rec false (xG l (Nat.succ n) (x0 :: done)) (tG x0 done (Nat.sub n 1)) : Bool) = true := h;cases h1 : tG x0 done (Nat.sub n 1) with
  | false => rw [h1] at h'; cases h'
  | true =>
   rw [h1] at h';cases j with
   | zero => cases hx; exact ⟨aBP done (n - 1) h1, fun i y hi => absurd hi (a1F i)⟩
   | succ j =>
    obtain ⟨c1, c2⟩ := aC8 l (n + 1) (x0 :: done) h' j x hx;refine ⟨fun i y hy => ?_, fun i y hi hy => ?_⟩
    ·have := c1 (i + 1) y hy;rw [show n - 1 - i = n + 1 - 1 - (i + 1) by omega]; exact this
    ·cases i with
     | zero =>
      have := c1 0 y hy;simpa using this
     | succ i =>
      have := c2 i y (by omega) hy
      rw [show n + (i + 1) = n + 1 + i by omega]; exact this
end
open RowKit (Below)
noncomputable section
section
variable {P : Program} {ex : Ex}
theorem aAe {l : List Oper} {is : List Inf} (hd : drawn l = some is) : xG is 0 [] = true /\ is.length = l.length /\ ∀ (j : Nat) (o : Oper), l[j]? = some o ->
  ∃ x, is[j]? = some x /\ x.tr = Nat.lor (nP o.op.operands.toList) (gBit l o.guard) /\ x.tw = pB o.dst /\ ∃ dsj, pU dsj j o.after.toList = some x.anc /\ ∀ i y, i < j -> is[i]? = some y -> dsj[j - 1 - i]? = some y.anc := by
 obtain ⟨xs, k1, k2, k3⟩ := aC0 l [] 0 _ hd
 cases ht : xG xs 0 [] with
 | false => rw [ht] at k1; cases k1
 | true =>
  rw [ht] at k1;have : xs = is := a1L k1;subst this;refine ⟨ht, k2, fun j o ho => ?_⟩
  obtain ⟨x, c1, c2, c3, dsj, c4, c5, _⟩ := k3 j o ho;rw [a1G] at c4;exact ⟨x, c1, c2, c3, dsj, c4, c5⟩
def ancR (is : List Inf) (i j : Nat) : Prop := ∃ x, is[i]? = some x /\ has x.anc j = true
theorem aAd {ops : Array Oper} {is : List Inf} (hd : drawn ops.toList = some is) : uD ops (ancR is) /\ ∀ (i : Nat) (o : Oper), ops[i]? = some o -> ∀ e ∈ o.after, Region.binds .any e = true -> e.on < i := by
 obtain ⟨_, hl, hs⟩ := aAe hd
 refine ⟨fun j oj hj q hq => ?_, fun i o ho e he hb => ?_⟩
 ·obtain ⟨x, hx, hq⟩ := hq;obtain ⟨y, c1, _, _, dsj, c4, c5⟩ := hs j oj (by rw [a0f]; exact hj)
  rw [hx] at c1; cases c1
  obtain ⟨s1, s2⟩ := aA4 c4;obtain ⟨e, he, hb, h⟩ := s2 q hq;refine ⟨e, by simpa using he, hb, ?_⟩
  rcases h with h | ⟨m, hm, hq2⟩
  ·exact .inl h
  ·right
   have hlt := s1 e he hb;have hj' : j < is.length := (a0J.1 hx).1;have hey : is[e.on]? = some (is[e.on]'(by omega)) := a0H (by omega)
   have := c5 e.on _ hlt hey;rw [hm] at this;cases this;exact ⟨_, hey, hq2⟩
 ·obtain ⟨y, _, _, _, dsj, c4, _⟩ := hs i o (by rw [a0f]; exact ho)
  exact (aA4 c4).1 e (by simpa using he) hb
theorem drawn_lt {ops : Array Oper} {is : List Inf} (hd : drawn ops.toList = some is) : ∀ (i q : Nat), ancR is i q -> q < i := by
 intro i
 induction i using Nat.strongRecOn with
 | _ i ih =>
  intro q hq;have hil : i < ops.size := by
   obtain ⟨x, hx, _⟩ := hq;have h1 := (a0J.1 hx).1;have h2 := (aAe hd).2.1;simp at h2; omega
  have ho : ops[i]? = some ops[i] := Array.getElem?_eq_getElem hil;obtain ⟨e, he, hb, h⟩ := (aAd hd).1 i _ ho q hq;have hlt := (aAd hd).2 i _ ho e he hb;rcases h with rfl | h
  ·exact hlt
  ·have := ih e.on hlt q h; omega
theorem aC7 {ops : Array Oper} {is : List Inf} (hd : drawn ops.toList = some is) {i j : Nat} {oi oj : Oper} (hi : ops[i]? = some oi) (hj : ops[j]? = some oj) (hlt : j < i) (hn : ¬ ancR is i j) :
  (∀ t, rdS ops.toList oi t -> oj.dst ≠ some t) /\ (∀ t, rdS ops.toList oj t -> oi.dst ≠ some t) /\ ∀ t, oi.dst = some t -> oj.dst ≠ some t := by
 obtain ⟨ht, hl, hs⟩ := aAe hd
 obtain ⟨x, x1, x2, x3, _⟩ := hs i oi (by rw [a0f]; exact hi)
 obtain ⟨y, y1, y2, y3, _⟩ := hs j oj (by rw [a0f]; exact hj)
 rcases (aC8 is 0 [] ht i x x1).2 j y hlt y1 with h | ⟨h1, h2⟩
 ·rw [a1G] at h; exact (hn ⟨x, x1, h⟩).elim
 ·refine ⟨fun t hr hw => aBg h2 (by rw [y3]; exact uJ hw) (by rw [x2]; exact has_rd hr), fun t hr hw => aBg h1 (by rw [x3]; exact uJ hw) (tP.2 (.inl (by rw [y2]; exact has_rd hr))), fun t hw hw2 => aBg h1 (by rw [x3]; exact uJ hw) (tP.2 (.inr (by rw [y3]; exact uJ hw2)))⟩
end
end
open RowKit (Below)
noncomputable section
section
variable {P : Program} {ex : Ex}
theorem aE7 (hm : P.follows .mixedOrders = true) (SC : SimC P ex) : SimD P ex := fun id ops g ρ ac a h nx lg w k r rr hA R hi hr q => by
 obtain ⟨e, n, ds, ro⟩ := ac
 obtain ⟨is, hd, q1⟩ := bR (o := drawn ops.toList) (f := fun is => opsD ops.toList P ex ops.toList is 0 [] ⟨e, n, ds, ro⟩ k) q
 obtain ⟨N0, L, hs, es, lgN, a1, a2, a3, a4, a5, a6, a7⟩ := aDi ops.toList is 0 [] e h nx lg q1
 simp only [a1G, a0g] at a4 a5 a6 a7
 have hend := qM a7
 let M : Nat -> Nat := fun j => N0 (min j ops.size)
 have hMe : ∀ j, j <= ops.size -> M j = N0 j := fun j hj => by show N0 (min j ops.size) = _; rw [a1D hj]
 have hM1 : ∀ i, M i <= M (i + 1) := fun i => by
  by_cases hl : i < ops.size
  ·rw [hMe i (by omega), hMe (i + 1) hl]; exact a4 i hl
  ·show N0 (min i ops.size) <= N0 (min (i + 1) ops.size)
   rw [Nat.min_eq_right (by omega), Nat.min_eq_right (by omega)]; exact a1y _
 have hM : ∀ i j, i <= j -> M i <= M j := fun i j hij => by
  induction hij with
  | refl => exact a1y _
  | step _ ih => exact a1z ih (hM1 _)
 have hM0 : M 0 = nx := (hMe 0 (a1H _)).trans a1
 have hMN : M ops.size = N0 ops.size := hMe _ (a1y _)
 have hhi : M ops.size <= g.hi := by rw [hMN]; exact a1z hend hi
 have hst : ∀ (i : Nat) (o : Oper), ops[i]? = some o -> St1 ops.toList P ex o (M i) (M (i + 1)) (L i) (hs i) (es i) (hs (i + 1)) (es (i + 1)) := fun i o ho => by
  have hl : i < ops.size := (a0d.1 ho).1;rw [hMe i (by omega), hMe (i + 1) hl];exact (a5 i o (by rw [a0f]; exact ho)).2
 have pair : ∀ i j, j < i -> i < ops.size -> ¬ ancR is i j -> Sep (L i) (L j) := fun i j hji hl hn => by
  have hli : i < is.length := by have := (aAe hd).2.1; simp at this; omega
  rcases (a6 i _ (a0H hli) hl).2 j hji with h1 | h1
  ·exact (hn ⟨_, a0H hli, h1⟩).elim
  ·exact h1
 have hind : ∀ (i j : Nat) (oi oj : Oper), ops[i]? = some oi -> ops[j]? = some oj -> i ≠ j -> ¬ ancR is j i -> ¬ ancR is i j -> Indep ops.toList oi oj (L i) (L j) := fun i j oi oj h1 h2 hne n1 n2 => by
  have l1 : i < ops.size := (a0d.1 h1).1;have l2 : j < ops.size := (a0d.1 h2).1;rcases Nat.lt_or_gt_of_ne hne with hlt | hlt
  ·obtain ⟨s1, s2, s3⟩ := aC7 hd h2 h1 hlt n1;exact ⟨(pair j i hlt l2 n1).symm, s2, s1, fun t w1 w2 => s3 t w2 w1⟩
  ·obtain ⟨s1, s2, s3⟩ := aC7 hd h1 h2 hlt n2;exact ⟨pair i j hlt l1 n2, s1, s2, s3⟩
 have hok := ok_all (aAd hd).1 (drawn_lt hd) (aAd hd).2 hind hs es hst ops.size 0 (a1G _)
 rw [a2, a3] at hok
 refine wpIn_region_any hm (ok_wp (yJ SC) (aET SC) hM (by rw [hM0]; exact R.lo) hhi (fun i o ho => (a5 i o (by rw [a0f]; exact ho)).1) (by rw [hMN]; exact a7) ops.size _ ρ h e a _ ⟨hA.env, hA.ds, ⟨R.blk, R.inj, R.new, ⟨R.below.os, R.below.tape, R.below.output, R.below.size, R.below.block⟩, a1y _, fun b _ hb => absurd hb (a1F b), Rho.le_refl _, fun _ _ => rfl⟩, fun j hj _ b hb1 hb2 => ?_, fun b hb1 hb2 => ?_, R.le, Rho.le_refl _, R.out⟩ hok)
 ·exact R.fresh b (a1z (by rw [<- hM0]; exact hM 0 j (a1H _)) hb1) (a1A hb2 (a1z (hM _ _ hj) hhi))
 ·exact R.fresh b (a1z (by rw [<- hM0]; exact hM 0 _ (a1H _)) hb1) hb2
theorem sound (hm : P.follows .mixedOrders = true) (n : Nat) : SimA P (exec P n) := yJ (aB4 (fun _ SC => aE7 hm SC) n).1
end
end
open RowKit (Below)
noncomputable section
theorem aH2 {P : Program} (hm : P.follows .mixedOrders = true) {n f : Nat} {v : V} {x : Value} {s : S} (hv : tv (fun _ => none) v = some x) (hk : run0 P n f = some (.val v, s)) (w : World) :
  SX.Au P f /\ CallsIn (SX.fw none) 0 P f #[] w (fun e w' => e = .returned x /\ Below w.heap.size w w') := by
 have R : Rel ⟨w, 0, s.nx, fun _ => none⟩ (fun _ => none) .leaf 0 w := ⟨(fun b k e => by rw [wI] at e; cases e), fun b b' x x' h => (h (wI _)).elim, (fun b x h => by cases h), ⟨rfl, rfl, rfl, a1y _, fun _ _ => rfl⟩, a1y _, fun _ _ _ => rfl, fun _ _ h => h, fun _ _ => rfl⟩
 obtain ⟨h1, h2⟩ := sound hm n f [] [] _ _ _ _ _ w .ret (.val v, s) rfl R (a1y _) hk
 refine ⟨h1, CallsIn.mono h2 fun e w' hc => ?_⟩
 cases e with
 | outgrown => exact hc.elim
 | panicked ch =>
  obtain ⟨c, ρ', h, nx, lg, k1, k2, k3, k4⟩ := hc;cases k4
 | returned y =>
  obtain ⟨u, ρ', h, nx, lg, k1, k2, k3, k4⟩ := hc;have k5 : some ((.val u : O), (⟨h, nx, lg⟩ : S)) = some (.val v, s) := k4;cases k5;rw [mZ (ρ := fun _ => none) (ρ' := ρ') (fun _ _ h => by cases h) v hv] at k3
  cases k3;exact ⟨rfl, k2.below⟩
end
open Go.SX Go.SW
theorem aGh {P : Program} (hm : P.follows .mixedOrders = true) {n f : Nat} {v : V} {x : Value} {s : S} (hv : tv (fun _ => none) v = some x) (hk : run0 P n f = some (.val v, s)) :
  FnS P f [] [] (fEq x) (fun _ => []) := by
 intro m L vs hv' hL w hS
 have h1 : vs = [] := by cases vs with
  | nil => rfl
  | cons _ _ => exact absurd hv' (by simp [aV])
 have h2 : L = [] := hL
 subst h1; subst h2
 have hc := callsIn_wide.1 (aH2 hm hv hk w).2
 refine hc.mono fun e w' ⟨he, hb⟩ => ⟨m, [], ?_, x, he, rfl, rfl⟩
 have hlt : ∀ b o, w.heap[b]? = some o -> b < w.heap.size := fun b o h => by
  rcases a1B b w.heap.size with h1 | h1
  ·exact h1
  ·rw [Array.getElem?_eq_none h1] at h; cases h
 exact ⟨fun b o h => (hb.block b (hlt b o (hS.mem b o h))).trans (hS.mem b o h), fun x h => (by cases h), fun x h => (by cases h), List.nodup_nil, Mem.le_refl _, fun _ h => absurd rfl h, fun x h => (by cases h), hb.size, fun b h _ => hb.block b h, hb.os, hb.output, hb.tape⟩
theorem run_true {P : Program} {n f : Nat} (h : okB (run0 P n f) true = true) : ∃ s, run0 P n f = some (.val (.bool true), s) := by
 revert h
 generalize run0 P n f = r
 intro h
 match r, h with
 | some (.val (.bool true), s), _ => exact ⟨s, rfl⟩
end Go.BX
namespace Go.Proofs.YtpgkejpnhnoipaaGreat
open Go.SX Go.SW Go.BX
theorem aGD : okB (run0 Tryz.prog 1000000 17) true = true := by kernel_rfl
def aB3 : Option Bool := some true
theorem aF4 (r : Bool) (H : aB3 = some r) : FnS Tryz.prog 17 [] [] (aF r) (fun _ => []) := by
 cases H
 obtain ⟨s, h⟩ := run_true aGD
 exact aGh (by kernel_rfl) rfl h
open Go.SX Go.SW Go.Dt
attribute [local irreducible] Code.wpIn wpListIn Exit.then Exit.inBlock
def vQ (AA : Nat) (a0 : AF) : Option (Ad × Bool) :=
 if 60 < (a0.AB.length : Int) then
  some ((⟨(⟨a0.AD, a0.AI, a0.AB, a0.AC, a0.AE⟩ : AF), [], [], [], [], (⟨[], [], [], 0⟩ : AM), false⟩ : Ad), false)
 else
  if 12 < (a0.AC.length : Int) then
   some ((⟨(⟨a0.AD, a0.AI, a0.AB, a0.AC, a0.AE⟩ : AF), [], [], [], [], (⟨[], [], [], 0⟩ : AM), false⟩ : Ad), false)
  else
   if 12 < (a0.AD.length : Int) then
    some ((⟨(⟨a0.AD, a0.AI, a0.AB, a0.AC, a0.AE⟩ : AF), [], [], [], [], (⟨[], [], [], 0⟩ : AM), false⟩ : Ad), false)
   else
    (rM AA a0.AI (a0.AD.length : Int)).bind fun y1 =>
    bif y1 then
     (mk false (a0.AB.length : Int)).bind fun y2 =>
     (mk [] (a0.AB.length : Int)).bind fun y3 =>
     (mk [] (a0.AB.length : Int)).bind fun y4 =>
     (mk 0 (a0.AB.length : Int)).bind fun y5 =>
     (dR ([] ++ a0.AD)).bind fun z1 =>
     (mk (⟨0, 0, [], []⟩ : Ae) (a0.AB.length : Int)).bind fun y6 =>
     (dR ([] ++ a0.AI)).bind fun z2 =>
     (dW AA (⟨(⟨a0.AD, a0.AI, a0.AB, a0.AC, a0.AE⟩ : AF), y2, y3, y5, y4, (⟨z1, y6, [], a0.AE⟩ : AM), false⟩ : Ad) a0.AE z2 (a0.AD.length : Int)).bind fun y7 =>
     bif y7.bad then
      some ((⟨(⟨y7.f.AD, y7.f.AI, y7.f.AB, y7.f.AC, y7.f.AE⟩ : AF), y7.AO, y7.AQ, y7.AV, y7.AR, (⟨y7.p.AD, y7.p.AB, y7.p.AC, y7.p.AE⟩ : AM), y7.bad⟩ : Ad), false)
     else
      (vP AA a0.AC).bind fun y8 =>
      (tN AA (⟨y7.p.AD, y7.p.AB, y8, y7.p.AE⟩ : AM)).bind fun y9 =>
      some ((⟨(⟨y7.f.AD, y7.f.AI, y7.f.AB, y7.f.AC, y7.f.AE⟩ : AF), y7.AO, y7.AQ, y7.AV, y7.AR, (⟨y7.p.AD, y7.p.AB, y8, y7.p.AE⟩ : AM), y7.bad⟩ : Ad), decide (y9 = 0))
    else
     some ((⟨(⟨a0.AD, a0.AI, a0.AB, a0.AC, a0.AE⟩ : AF), [], [], [], [], (⟨[], [], [], 0⟩ : AM), false⟩ : Ad), false)
theorem aGv (AA : Nat)  (a0 : AF) (r : Ad × Bool) (H : vQ AA a0 = some r) : FnS Tryz.prog 56 [fSt jI a0] [] (eM [bO qP r.1, aF r.2]) (fun _ => []) := by
 unfold vQ at H
 refine bS Tryz.func56 rfl Tryz.ntmps56 rfl (fun β => ?_)
 refine Z1 ?_
 refine Tn (cV rfl hh cJ) fun b1 => ?_
 refine Z5 ?_
 refine Yy (gL (ψs := [fSl aC a0.AD, fSl tI a0.AI, fSl aT a0.AB, fSl aA a0.AC, fI a0.AE, fEq (.slice none 0 0), fEq (.slice none 0 0), fEq (.slice none 0 0), fEq (.slice none 0 0), fEq (.slice none 0 0), fEq (.slice none 0 0), fEq (.slice none 0 0), fI 0, aF false]) rfl aFh rfl (bP.cons (has rfl) cJ bP.nil) rfl) ?_
 refine Tn (cV rfl hh cJ) fun b2 => ?_
 refine Z2 ?_
 refine aJ ?_
 revert H; refine I6 (fun c1 H => ?_) fun c1 H => ?_
 refine Z12 ?_
 refine Z12 ?_
 refine Z4 ?_
 refine bY (φ := bO qP (⟨(⟨a0.AD, a0.AI, a0.AB, a0.AC, a0.AE⟩ : AF), [], [], [], [], (⟨[], [], [], 0⟩ : AM), false⟩ : Ad)) (v := ptr b2) [2, 7, 4, 33] (gS (aI.cons Ent.rfl (aI.cons Ent.rfl (aI.cons Ent.rfl (aI.cons Ent.rfl (aI.cons Ent.rfl (aI.cons cH (aI.cons cH (aI.cons cH (aI.cons cH (aI.cons cH (aI.cons cH (aI.cons cH (aI.cons Ent.rfl (aI.cons Ent.rfl aI.nil))))))))))))))) fz ?_
 refine bX ?_
 cases H
 refine aH [] (by decide) ?_
 exact lV rfl (bU rfl) (bU rfl) rfl
 revert H; refine I6 (fun c2 H => ?_) fun c2 H => ?_
 refine Z12 ?_
 refine Z10 ?_
 refine bY (φ := bO qP (⟨(⟨a0.AD, a0.AI, a0.AB, a0.AC, a0.AE⟩ : AF), [], [], [], [], (⟨[], [], [], 0⟩ : AM), false⟩ : Ad)) (v := ptr b2) [2, 7, 4, 33] (gS (aI.cons Ent.rfl (aI.cons Ent.rfl (aI.cons Ent.rfl (aI.cons Ent.rfl (aI.cons Ent.rfl (aI.cons cH (aI.cons cH (aI.cons cH (aI.cons cH (aI.cons cH (aI.cons cH (aI.cons cH (aI.cons Ent.rfl (aI.cons Ent.rfl aI.nil))))))))))))))) fz ?_
 refine bX ?_
 cases H
 refine aH [] (by decide) ?_
 exact lV rfl (bU rfl) (bU rfl) rfl
 revert H; refine I6 (fun c3 H => ?_) fun c3 H => ?_
 refine Z12 ?_
 refine Z4 ?_
 refine bY (φ := bO qP (⟨(⟨a0.AD, a0.AI, a0.AB, a0.AC, a0.AE⟩ : AF), [], [], [], [], (⟨[], [], [], 0⟩ : AM), false⟩ : Ad)) (v := ptr b2) [2, 7, 4, 33] (gS (aI.cons Ent.rfl (aI.cons Ent.rfl (aI.cons Ent.rfl (aI.cons Ent.rfl (aI.cons Ent.rfl (aI.cons cH (aI.cons cH (aI.cons cH (aI.cons cH (aI.cons cH (aI.cons cH (aI.cons cH (aI.cons Ent.rfl (aI.cons Ent.rfl aI.nil))))))))))))))) fz ?_
 refine bX ?_
 cases H
 refine aH [] (by decide) ?_
 exact lV rfl (bU rfl) (bU rfl) rfl
 revert H; refine B5 fun y1 h1 H => ?_
 refine Tc (aCY _ _ _ _ h1) ?_
 refine Z3 ?_
 revert H; refine cs (fun c4 H => ?_) fun c4 H => ?_
 revert H; refine B8 fun y2 h2 H => ?_
 refine Tn (lL (t := aN) (z := false) rfl hh (et rfl) rfl wD rfl h2) fun b3 => ?_
 generalize (Value.slice (some ⟨b3, 0, none⟩) _ _) = v1
 refine aE 0 rfl (fun hc_v1 => ?_)
 refine Z2 ?_
 refine bI ?_
 refine bK (φs' := [fSl aC a0.AD, fSl tI a0.AI, fSl aT a0.AB, fSl aA a0.AC, fI a0.AE, fEq v1, fEq (.slice none 0 0), fEq (.slice none 0 0), fEq (.slice none 0 0), fEq (.slice none 0 0), fEq (.slice none 0 0), fEq (.slice none 0 0), fI 0, aF false]) a1W rfl rfl (has rfl) (has rfl) (aG hc_v1) (sz rfl) rfl rfl ?_
 revert H; refine B6 fun y3 h3 H => ?_
 refine Tn (tZ (t := (tSl tI)) (z := []) rfl hh (et rfl) rfl yC (aI.cons cH aI.nil) h3) fun b4 => ?_
 generalize (Value.slice (some ⟨b4, 0, none⟩) _ _) = v2
 refine aE 0 rfl (fun hc_v2 => ?_)
 refine Z2 ?_
 refine bI ?_
 refine bK (φs' := [fSl aC a0.AD, fSl tI a0.AI, fSl aT a0.AB, fSl aA a0.AC, fI a0.AE, fEq v1, fEq v2, fEq (.slice none 0 0), fEq (.slice none 0 0), fEq (.slice none 0 0), fEq (.slice none 0 0), fEq (.slice none 0 0), fI 0, aF false]) a1W rfl rfl (has rfl) (has rfl) (aG hc_v2) (sz rfl) rfl rfl ?_
 revert H; refine B6 fun y4 h4 H => ?_
 refine Tn (tZ (t := (tSl tI)) (z := []) rfl hh (et rfl) rfl yC (aI.cons cH aI.nil) h4) fun b5 => ?_
 generalize (Value.slice (some ⟨b5, 0, none⟩) _ _) = v3
 refine aE 0 rfl (fun hc_v3 => ?_)
 refine Z2 ?_
 refine bI ?_
 refine bK (φs' := [fSl aC a0.AD, fSl tI a0.AI, fSl aT a0.AB, fSl aA a0.AC, fI a0.AE, fEq v1, fEq v2, fEq (.slice none 0 0), fEq v3, fEq (.slice none 0 0), fEq (.slice none 0 0), fEq (.slice none 0 0), fI 0, aF false]) a1W rfl rfl (has rfl) (has rfl) (aG hc_v3) (sz rfl) rfl rfl ?_
 revert H; refine B6 fun y5 h5 H => ?_
 refine Tn (lL (t := tI) (z := 0) rfl hh (et rfl) rfl rZ rfl h5) fun b6 => ?_
 generalize (Value.slice (some ⟨b6, 0, none⟩) _ _) = v4
 refine aE 0 rfl (fun hc_v4 => ?_)
 refine Z2 ?_
 refine bI ?_
 refine bK (φs' := [fSl aC a0.AD, fSl tI a0.AI, fSl aT a0.AB, fSl aA a0.AC, fI a0.AE, fEq v1, fEq v2, fEq v4, fEq v3, fEq (.slice none 0 0), fEq (.slice none 0 0), fEq (.slice none 0 0), fI 0, aF false]) a1W rfl rfl (has rfl) (has rfl) (aG hc_v4) (sz rfl) rfl rfl ?_
 refine Z1 ?_
 refine aJ ?_
 revert H; refine bs fun z1 h6 H => ?_
 revert H; refine bs fun y6 h7 H => ?_
 apply bL (ods := [_, _, _, _, _, _, _, _, _, _, _, _, _, _]) 14 1 7 bM rfl rfl rfl
 refine ND ?_
 refine M3 ?_
 intros
 refine wJ (od := odC [] true (fSl aC z1) []) rfl (fun _ => rfl) a1W rfl rfl (has rfl) (has rfl) (et rfl) rfl h6 (fun _ => ?_)
 refine M3 ?_
 intros
 refine Mn 6 (fun b7 => .slice (some ⟨b7, 0, none⟩) y6.length y6.length) (fun b7 => aB (.slice (some ⟨b7, 0, none⟩) y6.length y6.length) 118 aK y6) rfl (tZ (t := aK) (z := (⟨0, 0, [], []⟩ : Ae)) rfl (has rfl) (et rfl) rfl sE (aI.cons Ent.rfl (aI.cons Ent.rfl (aI.cons cH (aI.cons cH aI.nil)))) h7) (fun b7 u1 => ?_)
 refine M2 ?_
 intros
 refine D1 7 b7 _ (fun b7 _ => eG [fSl aC z1, fEq (.slice (some ⟨b7, 0, none⟩) y6.length y6.length), fEq (.slice none 0 0), fI a0.AE]) rfl (gL (ψs := [fSl aC z1, fEq (.slice (some ⟨b7, 0, none⟩) y6.length y6.length), fEq (.slice none 0 0), fI a0.AE]) rfl aB8 rfl (bP.cons (has rfl) (cY (aY)) (bP.cons (has rfl) (cY (aG a1W)) (bP.cons (has rfl) (cY (aG a1W)) bP.nil))) rfl) (fun _ => ?_)
 refine M2 ?_
 intros
 refine oX (od := od1 7 [0] true (fun b7 _ => dN) (fun b7 _ => [aD b2 102 [fSl aC a0.AD, fSl tI a0.AI, fSl aT a0.AB, fSl aA a0.AC, fI a0.AE, fEq v1, fEq v2, fEq v4, fEq v3, fSl aC z1, fEq (.slice (some ⟨b7, 0, none⟩) y6.length y6.length), fEq (.slice none 0 0), fI a0.AE, aF false]])) (p := 0) (φs' := [fSl aC a0.AD, fSl tI a0.AI, fSl aT a0.AB, fSl aA a0.AC, fI a0.AE, fEq v1, fEq v2, fEq v4, fEq v3, fSl aC z1, fEq (.slice (some ⟨b7, 0, none⟩) y6.length y6.length), fEq (.slice none 0 0), fI a0.AE, aF false]) rfl (fun _ => rfl) (fun _ => rfl) a1W rfl rfl rfl (has rfl) (has rfl) (aL (aY) (aL (aG a1W) (aL (aG a1W) (aL (aG a1W) cE)))) (sz rfl) rfl rfl rfl (fun _ => ?_)
 refine Z1 ?_
 generalize (Value.slice (some ⟨b7, 0, none⟩) _ _) = v5
 refine aE 6 rfl (fun hc_v5 => ?_)
 refine Z1 ?_
 refine aJ ?_
 revert H; refine bs fun z2 h8 H => ?_
 apply bL (ods := [_, _, _, _, _, _, _, _, _]) 9 0 7 bM rfl rfl rfl
 refine ND ?_
 refine M5 ?_
 intros
 refine wJ (od := odC [] true (fSl tI z2) []) rfl (fun _ => rfl) a1W rfl rfl (has rfl) (has rfl) (et rfl) rfl h8 (fun _ => ?_)
 refine M3 ?_
 intros
 refine Z1 ?_
 refine T_blkE (ψs := [fSl aC (((⟨(⟨a0.AD, a0.AI, a0.AB, a0.AC, a0.AE⟩ : AF), y2, y3, y5, y4, (⟨z1, y6, [], a0.AE⟩ : AM), false⟩ : Ad).f).AD), fSl tI (((⟨(⟨a0.AD, a0.AI, a0.AB, a0.AC, a0.AE⟩ : AF), y2, y3, y5, y4, (⟨z1, y6, [], a0.AE⟩ : AM), false⟩ : Ad).f).AI), fSl aT (((⟨(⟨a0.AD, a0.AI, a0.AB, a0.AC, a0.AE⟩ : AF), y2, y3, y5, y4, (⟨z1, y6, [], a0.AE⟩ : AM), false⟩ : Ad).f).AB), fSl aA (((⟨(⟨a0.AD, a0.AI, a0.AB, a0.AC, a0.AE⟩ : AF), y2, y3, y5, y4, (⟨z1, y6, [], a0.AE⟩ : AM), false⟩ : Ad).f).AC), fI (((⟨(⟨a0.AD, a0.AI, a0.AB, a0.AC, a0.AE⟩ : AF), y2, y3, y5, y4, (⟨z1, y6, [], a0.AE⟩ : AM), false⟩ : Ad).f).AE), fEq v1, fEq v2, fEq v4, fEq v3, fSl aC (((⟨(⟨a0.AD, a0.AI, a0.AB, a0.AC, a0.AE⟩ : AF), y2, y3, y5, y4, (⟨z1, y6, [], a0.AE⟩ : AM), false⟩ : Ad).p).AD), fEq v5, fSl aA (((⟨(⟨a0.AD, a0.AI, a0.AB, a0.AC, a0.AE⟩ : AF), y2, y3, y5, y4, (⟨z1, y6, [], a0.AE⟩ : AM), false⟩ : Ad).p).AC), fI (((⟨(⟨a0.AD, a0.AI, a0.AB, a0.AC, a0.AE⟩ : AF), y2, y3, y5, y4, (⟨z1, y6, [], a0.AE⟩ : AM), false⟩ : Ad).p).AE), aF ((⟨(⟨a0.AD, a0.AI, a0.AB, a0.AC, a0.AE⟩ : AF), y2, y3, y5, y4, (⟨z1, y6, [], a0.AE⟩ : AM), false⟩ : Ad).bad)]) (aI.cons Ent.rfl (aI.cons Ent.rfl (aI.cons Ent.rfl (aI.cons Ent.rfl (aI.cons Ent.rfl (aI.cons Ent.rfl (aI.cons Ent.rfl (aI.cons Ent.rfl (aI.cons Ent.rfl (aI.cons Ent.rfl (aI.cons Ent.rfl (aI.cons cH (aI.cons Ent.rfl (aI.cons Ent.rfl aI.nil)))))))))))))) ?_
 refine aQ ?_
 refine dM ?_
 refine dM ?_
 refine bH ?_
 refine cR ?_
 refine cR ?_
 refine fA (x := (⟨(⟨a0.AD, a0.AI, a0.AB, a0.AC, a0.AE⟩ : AF), y2, y3, y5, y4, (⟨z1, y6, [], a0.AE⟩ : AM), false⟩ : Ad)) ?_
 revert H; refine bs fun y7 h9 H => ?_
 refine Tc (aFe _ _ _ _ _ _ _ h9) ?_
 refine qT (fun v6 v7 v8 v9 v10 => ?_)
 refine aE 1 rfl (fun hc_v6 => ?_)
 refine aE 2 rfl (fun hc_v7 => ?_)
 refine aE 3 rfl (fun hc_v8 => ?_)
 refine aE 4 rfl (fun hc_v9 => ?_)
 refine aE 5 rfl (fun hc_v10 => ?_)
 refine Z1 ?_
 refine aJ ?_
 refine Z6 ?_
 revert H; refine cs (fun c5 H => ?_) fun c5 H => ?_
 refine Z7 ?_
 refine bI ?_
 refine bY (φ := fSl aN y7.AO) (v := v6) [] cU (fun _ h => nomatch h) ?_
 refine dJ (φs' := [fSl aC y7.f.AD, fSl tI y7.f.AI, fSl aT y7.f.AB, fSl aA y7.f.AC, fI y7.f.AE, fSl aN y7.AO, fEq v7, fEq v8, fEq v9, fSl aC y7.p.AD, fEq v10, fSl aA y7.p.AC, fI y7.p.AE, aF y7.bad]) (i := 5) rfl rfl ?_
 refine bX ?_
 refine bI ?_
 refine bY (φ := fSl (tSl tI) y7.AQ) (v := v7) [] cU (fun _ h => nomatch h) ?_
 refine dJ (φs' := [fSl aC y7.f.AD, fSl tI y7.f.AI, fSl aT y7.f.AB, fSl aA y7.f.AC, fI y7.f.AE, fSl aN y7.AO, fSl (tSl tI) y7.AQ, fEq v8, fEq v9, fSl aC y7.p.AD, fEq v10, fSl aA y7.p.AC, fI y7.p.AE, aF y7.bad]) (i := 6) rfl rfl ?_
 refine bX ?_
 refine bI ?_
 refine bY (φ := fSl tI y7.AV) (v := v8) [] cU (fun _ h => nomatch h) ?_
 refine dJ (φs' := [fSl aC y7.f.AD, fSl tI y7.f.AI, fSl aT y7.f.AB, fSl aA y7.f.AC, fI y7.f.AE, fSl aN y7.AO, fSl (tSl tI) y7.AQ, fSl tI y7.AV, fEq v9, fSl aC y7.p.AD, fEq v10, fSl aA y7.p.AC, fI y7.p.AE, aF y7.bad]) (i := 7) rfl rfl ?_
 refine bX ?_
 refine bI ?_
 refine bY (φ := fSl (tSl tI) y7.AR) (v := v9) [] cU (fun _ h => nomatch h) ?_
 refine dJ (φs' := [fSl aC y7.f.AD, fSl tI y7.f.AI, fSl aT y7.f.AB, fSl aA y7.f.AC, fI y7.f.AE, fSl aN y7.AO, fSl (tSl tI) y7.AQ, fSl tI y7.AV, fSl (tSl tI) y7.AR, fSl aC y7.p.AD, fEq v10, fSl aA y7.p.AC, fI y7.p.AE, aF y7.bad]) (i := 8) rfl rfl ?_
 refine bX ?_
 refine bI ?_
 refine bY (φ := fSl aK y7.p.AB) (v := v10) [] cU (fun _ h => nomatch h) ?_
 refine dJ (φs' := [fSl aC y7.f.AD, fSl tI y7.f.AI, fSl aT y7.f.AB, fSl aA y7.f.AC, fI y7.f.AE, fSl aN y7.AO, fSl (tSl tI) y7.AQ, fSl tI y7.AV, fSl (tSl tI) y7.AR, fSl aC y7.p.AD, fSl aK y7.p.AB, fSl aA y7.p.AC, fI y7.p.AE, aF y7.bad]) (i := 10) rfl rfl ?_
 refine bX ?_
 refine bY (φ := bO qP (⟨(⟨y7.f.AD, y7.f.AI, y7.f.AB, y7.f.AC, y7.f.AE⟩ : AF), y7.AO, y7.AQ, y7.AV, y7.AR, (⟨y7.p.AD, y7.p.AB, y7.p.AC, y7.p.AE⟩ : AM), y7.bad⟩ : Ad)) (v := ptr b2) [2, 7, 4, 34, 39, 41, 46, 48, 53, 55, 60, 62, 73, 75, 85, 86, 89] (gS aI.rfl) fz ?_
 refine bX ?_
 cases H
 refine aH [] (by decide) ?_
 exact lV rfl (bU rfl) (bU rfl) rfl
 revert H; refine B7 fun y8 h10 H => ?_
 refine Tc (aGq _ _ _ h10) ?_
 refine Z3 ?_
 refine bK (φs' := [fSl aC y7.f.AD, fSl tI y7.f.AI, fSl aT y7.f.AB, fSl aA y7.f.AC, fI y7.f.AE, fEq v6, fEq v7, fEq v8, fEq v9, fSl aC y7.p.AD, fEq v10, fSl aA y8, fI y7.p.AE, aF y7.bad]) a1W rfl rfl (has rfl) (has rfl) (aY) (sz rfl) rfl rfl ?_
 refine Z7 ?_
 refine cR ?_
 refine bY (φ := fSl aK y7.p.AB) (v := v10) [] cU (fun _ h => nomatch h) ?_
 refine dJ (φs' := [fSl aC y7.f.AD, fSl tI y7.f.AI, fSl aT y7.f.AB, fSl aA y7.f.AC, fI y7.f.AE, fEq v6, fEq v7, fEq v8, fEq v9, fSl aC y7.p.AD, fSl aK y7.p.AB, fSl aA y8, fI y7.p.AE, aF y7.bad]) (i := 10) rfl rfl ?_
 refine lP 101 (ψ := eG [fSl aC y7.p.AD, fEq v10, fSl aA y8, fI y7.p.AE]) rfl (mN (i := 1) (φs := [fSl aC y7.p.AD, fEq v10, fSl aA y8, fI y7.p.AE]) (φs' := [fSl aC y7.p.AD, fSl aK y7.p.AB, fSl aA y8, fI y7.p.AE]) rfl rfl) ?_
 refine bX ?_
 revert H; refine bs fun y9 h11 H => ?_
 refine Tc (aFT _ _ _ h11) ?_
 refine Z5 ?_
 refine bI ?_
 refine bY (φ := fSl aN y7.AO) (v := v6) [] cU (fun _ h => nomatch h) ?_
 refine dJ (φs' := [fSl aC y7.f.AD, fSl tI y7.f.AI, fSl aT y7.f.AB, fSl aA y7.f.AC, fI y7.f.AE, fSl aN y7.AO, fEq v7, fEq v8, fEq v9, fSl aC y7.p.AD, fSl aK y7.p.AB, fSl aA y8, fI y7.p.AE, aF y7.bad]) (i := 5) rfl rfl ?_
 refine bX ?_
 refine bI ?_
 refine bY (φ := fSl (tSl tI) y7.AQ) (v := v7) [] cU (fun _ h => nomatch h) ?_
 refine dJ (φs' := [fSl aC y7.f.AD, fSl tI y7.f.AI, fSl aT y7.f.AB, fSl aA y7.f.AC, fI y7.f.AE, fSl aN y7.AO, fSl (tSl tI) y7.AQ, fEq v8, fEq v9, fSl aC y7.p.AD, fSl aK y7.p.AB, fSl aA y8, fI y7.p.AE, aF y7.bad]) (i := 6) rfl rfl ?_
 refine bX ?_
 refine bI ?_
 refine bY (φ := fSl tI y7.AV) (v := v8) [] cU (fun _ h => nomatch h) ?_
 refine dJ (φs' := [fSl aC y7.f.AD, fSl tI y7.f.AI, fSl aT y7.f.AB, fSl aA y7.f.AC, fI y7.f.AE, fSl aN y7.AO, fSl (tSl tI) y7.AQ, fSl tI y7.AV, fEq v9, fSl aC y7.p.AD, fSl aK y7.p.AB, fSl aA y8, fI y7.p.AE, aF y7.bad]) (i := 7) rfl rfl ?_
 refine bX ?_
 refine bI ?_
 refine bY (φ := fSl (tSl tI) y7.AR) (v := v9) [] cU (fun _ h => nomatch h) ?_
 refine dJ (φs' := [fSl aC y7.f.AD, fSl tI y7.f.AI, fSl aT y7.f.AB, fSl aA y7.f.AC, fI y7.f.AE, fSl aN y7.AO, fSl (tSl tI) y7.AQ, fSl tI y7.AV, fSl (tSl tI) y7.AR, fSl aC y7.p.AD, fSl aK y7.p.AB, fSl aA y8, fI y7.p.AE, aF y7.bad]) (i := 8) rfl rfl ?_
 refine bX ?_
 refine bY (φ := bO qP (⟨(⟨y7.f.AD, y7.f.AI, y7.f.AB, y7.f.AC, y7.f.AE⟩ : AF), y7.AO, y7.AQ, y7.AV, y7.AR, (⟨y7.p.AD, y7.p.AB, y8, y7.p.AE⟩ : AM), y7.bad⟩ : Ad)) (v := ptr b2) [2, 7, 4, 34, 39, 41, 46, 48, 53, 55, 60, 62, 73, 75, 85, 86, 90, 94, 97, 98, 99] (gS aI.rfl) fz ?_
 refine bX ?_
 cases H
 refine aH [] (by decide) ?_
 exact lV rfl (bU rfl) (bU rfl) rfl
 exact fk
 kernel_rfl
 exact fk
 kernel_rfl
 refine Z7 ?_
 refine bY (φ := bO qP (⟨(⟨a0.AD, a0.AI, a0.AB, a0.AC, a0.AE⟩ : AF), [], [], [], [], (⟨[], [], [], 0⟩ : AM), false⟩ : Ad)) (v := ptr b2) [2, 7, 4, 33] (gS (aI.cons Ent.rfl (aI.cons Ent.rfl (aI.cons Ent.rfl (aI.cons Ent.rfl (aI.cons Ent.rfl (aI.cons cH (aI.cons cH (aI.cons cH (aI.cons cH (aI.cons cH (aI.cons cH (aI.cons cH (aI.cons Ent.rfl (aI.cons Ent.rfl aI.nil))))))))))))))) fz ?_
 refine bX ?_
 cases H
 refine aH [] (by decide) ?_
 exact lV rfl (bU rfl) (bU rfl) rfl
def aAa (AA : Nat) (a0 : AF) : Option ((List (List Int)) × Int) :=
 (vQ AA (⟨a0.AD, a0.AI, a0.AB, a0.AC, a0.AE⟩ : AF)).bind fun y1 =>
 bif y1.2 then
  some (y1.1.AQ, 0)
 else
  some ([], 2)
theorem aGi (AA : Nat)  (a0 : AF) (r : (List (List Int)) × Int) (H : aAa AA a0 = some r) : FnS Tryz.prog 14 [fSt jI a0] [] (eM [fSl (tSl tI) r.1, fI r.2]) (fun _ => []) := by
 unfold aAa at H
 refine bS Tryz.func14 rfl Tryz.ntmps14 rfl (fun β => ?_)
 refine Z1 ?_
 refine Tn (cV rfl hh cJ) fun b1 => ?_
 revert H; refine B5 fun y1 h1 H => ?_
 refine Tc (aGv _ _ _ h1) ?_
 refine Z6 ?_
 refine aJ ?_
 refine Z4 ?_
 revert H; refine cs (fun c1 H => ?_) fun c1 H => ?_
 refine Z12 ?_
 cases H
 refine aH [] (by decide) ?_
 exact lV rfl (bU rfl) (bU rfl) rfl
 refine Z6 ?_
 cases H
 refine aH [] (by decide) ?_
 exact lV rfl (fK rfl cH) (bU rfl) rfl
def zO (AA : Nat) (a0 : AF) : Option (Int) :=
 (uA AA (⟨a0.AD, a0.AI, a0.AB, a0.AC, a0.AE⟩ : AF)).bind fun y1 =>
 bif y1.isNone then
  some 2
 else
  some 0
theorem aFH (AA : Nat)  (a0 : AF) (r : Int) (H : zO AA a0 = some r) : FnS Tryz.prog 15 [fSt jI a0] [] (fI r) (fun _ => []) := by
 unfold zO at H
 refine bS Tryz.func15 rfl Tryz.ntmps15 rfl (fun β => ?_)
 refine Z1 ?_
 refine Tn (cV rfl hh cJ) fun b1 => ?_
 refine Z2 ?_
 refine aJ ?_
 revert H; refine B2 fun y1 h1 H => ?_
 refine Tc (aEY _ _ _ h1) ?_
 refine Yy (aBZ rfl hh aD0) ?_
 refine Z1 ?_
 revert H; refine cs (fun c1 H => ?_) fun c1 H => ?_
 refine Z5 ?_
 cases H
 refine aH [] (by decide) ?_
 exact To
 refine Z7 ?_
 cases H
 refine aH [] (by decide) ?_
 exact To
def mS (a0 : List Int) (a1 : List Int) : Nat -> Int -> Option ((Unit) ⊕ (Bool))
| 0, _ => none
| k + 1, x2 =>
 if x2 < (a0.length : Int) then
  (idx a0 x2).bind fun y1 =>
  (idx a1 x2).bind fun y2 =>
  if y1 ≠ y2 then
   (some false).bind fun r => some (Sum.inr r)
  else
   (chk (x2 + 1)).bind fun z1 =>
   mS a0 a1 k z1
 else
  some (Sum.inl ())
def vG (AA : Nat) (a0 : List Int) (a1 : List Int) : Option (Bool) :=
 if (a0.length : Int) ≠ (a1.length : Int) then
  some false
 else
  (mS a0 a1 AA 0).bind fun o => match o with
  | Sum.inr r => some r
  | Sum.inl _ =>
  some true
theorem aG1 (AA : Nat)  (a0 : List Int) (a1 : List Int) (r : Bool) (H : vG AA a0 a1 = some r) : FnS Tryz.prog 57 [fSl tI a0, fSl tI a1] [] (aF r) (fun _ => []) := by
 unfold vG at H
 refine bS Tryz.func57 rfl Tryz.ntmps57 rfl (fun β => ?_)
 refine Z3 ?_
 refine aJ ?_
 revert H; refine I7 (fun c1 H => ?_) fun c1 H => ?_
 refine Z5 ?_
 cases H
 exact To
 revert H; refine B3 fun o1 H Hr1 => ?_
 refine aP (ι := Unit) (fun i => o1 = Sum.inl ()) (fun i => []) (fun i => []) ?_ ?_
 refine Z4 ?_
 refine Tl (ι := Nat × Int) (fun i => mS a0 a1 i.1 i.2 = _) (fun i => i.1) (fun i => [(0, fSl tI a0), (1, fSl tI a1), (5, fI i.2)]) (fun i => []) (AA, 0) H ?_
 clear H; rintro ⟨k1, x2⟩ H
 replace H : mS a0 a1 k1 x2 = _ := H
 try dsimp only
 obtain _ | k1 := k1
 rw [mS] at H; cases H
 rw [mS] at H
 refine aJ ?_
 revert H; refine I6 (fun c2 H => ?_) fun c2 H => ?_
 refine Z3 ?_
 refine aJ ?_
 refine Z1 ?_
 refine aJ ?_
 revert H; refine bs fun y1 h1 H => ?_
 revert H; refine bs fun y2 h2 H => ?_
 apply bL (ods := [_, _, _, _, _, _, _, _, _]) 9 0 0 bM rfl rfl rfl
 refine ND ?_
 refine M8 ?_
 intros
 refine M1 ?_
 intros
 revert H; refine I2 (fun c3 H => ?_) fun c3 H => ?_
 revert H; refine B10 fun r1 H e1 => ?_
 cases e1; cases Hr1
 cases H
 exact To
 revert H; refine B6 fun z1 h3 H => ?_
 refine Z3 ?_
 exact Tm ((k1, z1)) ⟨H, ls⟩
 exact fk
 kernel_rfl
 refine Z6 ?_
 exact Tm (()) (ij H)
 clear H; intro i hi; subst o1; have H := Hr1; clear Hr1; try dsimp only at H
 try dsimp only
 refine Z4 ?_
 cases H
 exact To
def nZ (AA : Nat) (a0 : List (List Int)) (a1 : List (List Int)) : Nat -> Int -> Option ((Unit) ⊕ (Bool))
| 0, _ => none
| k + 1, x2 =>
 if x2 < (a0.length : Int) then
  (idx a0 x2).bind fun y1 =>
  (idx a1 x2).bind fun y2 =>
  (vG AA y1 y2).bind fun y3 =>
  bif y3 then
   (chk (x2 + 1)).bind fun z1 =>
   nZ AA a0 a1 k z1
  else
   (some false).bind fun r => some (Sum.inr r)
 else
  some (Sum.inl ())
def xA (AA : Nat) (a0 : List (List Int)) (a1 : List (List Int)) : Option (Bool) :=
 if (a0.length : Int) ≠ (a1.length : Int) then
  some false
 else
  (nZ AA a0 a1 AA 0).bind fun o => match o with
  | Sum.inr r => some r
  | Sum.inl _ =>
  some true
theorem aF1 (AA : Nat)  (a0 : List (List Int)) (a1 : List (List Int)) (r : Bool) (H : xA AA a0 a1 = some r) : FnS Tryz.prog 16 [fSl (tSl tI) a0, fSl (tSl tI) a1] [] (aF r) (fun _ => []) := by
 unfold xA at H
 refine bS Tryz.func16 rfl Tryz.ntmps16 rfl (fun β => ?_)
 refine Z3 ?_
 refine aJ ?_
 revert H; refine I7 (fun c1 H => ?_) fun c1 H => ?_
 refine Z5 ?_
 cases H
 exact To
 revert H; refine B3 fun o1 H Hr1 => ?_
 refine aP (ι := Unit) (fun i => o1 = Sum.inl ()) (fun i => []) (fun i => []) ?_ ?_
 refine Z4 ?_
 refine Tl (ι := Nat × Int) (fun i => nZ AA a0 a1 i.1 i.2 = _) (fun i => i.1) (fun i => [(0, fSl (tSl tI) a0), (1, fSl (tSl tI) a1), (5, fI i.2)]) (fun i => []) (AA, 0) H ?_
 clear H; rintro ⟨k1, x2⟩ H
 replace H : nZ AA a0 a1 k1 x2 = _ := H
 try dsimp only
 obtain _ | k1 := k1
 rw [nZ] at H; cases H
 rw [nZ] at H
 refine aJ ?_
 revert H; refine I6 (fun c2 H => ?_) fun c2 H => ?_
 refine Z3 ?_
 refine aJ ?_
 refine Z1 ?_
 refine aJ ?_
 revert H; refine bs fun y1 h1 H => ?_
 revert H; refine bs fun y2 h2 H => ?_
 revert H; refine bs fun y3 h3 H => ?_
 apply bL (ods := [_, _, _, _, _, _, _, _, _, _]) 10 0 0 bM rfl rfl rfl
 refine ND ?_
 refine M8 ?_
 intros
 refine Nc (aG1 _ _ _ _ h3) fun _ => ?_
 refine M1 ?_
 intros
 refine Z2 ?_
 revert H; refine cs (fun c3 H => ?_) fun c3 H => ?_
 revert H; refine B6 fun z1 h4 H => ?_
 refine Z3 ?_
 exact Tm ((k1, z1)) ⟨H, ls⟩
 revert H; refine B10 fun r1 H e1 => ?_
 cases e1; cases Hr1
 cases H
 exact To
 exact fk
 kernel_rfl
 refine Z6 ?_
 exact Tm (()) (ij H)
 clear H; intro i hi; subst o1; have H := Hr1; clear Hr1; try dsimp only at H
 try dsimp only
 refine Z4 ?_
 cases H
 exact To
def zW (AA : Nat) (a0 : AF) : Option (Bool) :=
 (zI AA (⟨a0.AD, a0.AI, a0.AB, a0.AC, a0.AE⟩ : AF)).bind fun y1 =>
 (aAa AA (⟨a0.AD, a0.AI, a0.AB, a0.AC, a0.AE⟩ : AF)).bind fun y2 =>
 ((zO AA (⟨a0.AD, a0.AI, a0.AB, a0.AC, a0.AE⟩ : AF)).bind fun y3 =>
 if y3 = y2.2 then
  if y1.2 = y2.2 then
   (xA AA y1.1 y2.1).bind fun y4 =>
   bif y4 then
    (aB3).bind fun y5 =>
    some y5
   else
    some false
  else
   some false
 else
  some false).bind fun x1 =>
 some x1
theorem aG5 (AA : Nat)  (a0 : AF) (r : Bool) (H : zW AA a0 = some r) : FnS Tryz.prog 3 [fSt jI a0] [] (aF r) (fun _ => []) := by
 unfold zW at H
 refine bS Tryz.func3 rfl Tryz.ntmps3 rfl (fun β => ?_)
 refine Z1 ?_
 refine Tn (cV rfl hh cJ) fun b1 => ?_
 revert H; refine B4 fun y1 h1 H => ?_
 refine Tc (aHR _ _ _ h1) ?_
 revert H; refine B8 fun y2 h2 H => ?_
 refine Tc (aGi _ _ _ h2) ?_
 revert H; refine B6 fun o1 H Hr1 => ?_
 refine aP (ι := Bool) (fun i => o1 = i) (fun i => [(2, aF i)]) (fun i => [aD b1 27 [fSl aC a0.AD, fSl tI a0.AI, fSl aT a0.AB, fSl aA a0.AC, fI a0.AE]]) ?_ ?_
 revert H; refine B2 fun y3 h3 H => ?_
 refine Tc (aFH _ _ _ h3) ?_
 revert H; refine I3 (fun c1 H => ?_) fun c1 H => ?_
 revert H; refine I5 (fun c2 H => ?_) fun c2 H => ?_
 revert H; refine B2 fun y4 h4 H => ?_
 refine Tc (aF1 _ _ _ _ h4) ?_
 refine Z2 ?_
 revert H; refine cs (fun c3 H => ?_) fun c3 H => ?_
 revert H; refine bs fun y5 h5 H => ?_
 refine Tc (aF4 _ h5) ?_
 refine Z3 ?_
 exact Tm (y5) (ij H)
 refine Z4 ?_
 exact Tm (false) (ij H)
 refine Z9 ?_
 exact Tm (false) (ij H)
 refine Z12 ?_
 refine Z2 ?_
 exact Tm (false) (ij H)
 clear H; intro x1 hi; subst o1; have H := Hr1; clear Hr1; try dsimp only at H
 try dsimp only
 refine Z1 ?_
 cases H
 refine aH [] (by decide) ?_
 exact To
open Go.SX Go.SW Go.Dt
theorem bsm {α γ : Type} {a : α} {f : α -> Option γ} : (some a).bind f = f a := by
 cases h : f a <;> simp [h]
theorem qX {α : Type} {xs : List α} {i : Nat} {y : α} (h : xs[i]? = some y) : idx xs (i : Int) = some y := by
 unfold idx; rw [a1V (by omega)]; simpa using h
theorem cI {α : Type} (AG AH : List α) (y : α) : idx (AG ++ y :: AH) (AG.length : Int) = some y := qX (by simp)
theorem aU {i : Int} (h : -9000000000000000000 <= i /\ i <= 9000000000000000000) : chk i = some i := by unfold chk; rw [a1V (by omega)]
theorem cD {α : Type} (AG AH : List α) (y : α) : (AG.length : Int) < ((AG ++ y :: AH).length : Int) := by simp; omega
theorem cG {α : Type} (AG AH : List α) (y : α) : AG ++ y :: AH = (AG ++ [y]) ++ AH := by simp
theorem bW {α : Type} (AG : List α) (y : α) : (AG.length : Int) + 1 = ((AG ++ [y]).length : Int) := by simp
theorem pZ (e : AW) : (⟨e.Op, e.N, e.AU⟩ : AW) = e := by cases e; rfl
def flaw : Value := .iface 334 (.agg ([(.int .i64 2)] : List Value).toArray)
theorem eU : bN true = some (.inl ()) := rfl
theorem cX : bN false = some (.inr flaw) := rfl
mutual
def nE : AW -> Nat
 | ⟨_, _, ks⟩ => 1 + nL ks
def nL : List AW -> Nat
 | [] => 0
 | k :: ks => nE k + nL ks
end
mutual
def dE : AW -> Nat
 | ⟨_, _, ks⟩ => 1 + dL ks
def dL : List AW -> Nat
 | [] => 0
 | k :: ks => max (dE k) (dL ks)
end
def loc (s op n : Int) (l : Nat) : Bool :=
 if op = 1 then decide (-1000000000 <= n /\ n <= 1000000000 /\ l = 0) else if op = 2 then decide (0 <= n /\ n < s /\ l = 0) else decide (3 <= op /\ op <= 7 /\ n = 0 /\ l = 2)
mutual
def fE (s : Int) : AW -> Bool
 | ⟨op, n, ks⟩ => loc s op n ks.length && fL s ks
def fL (s : Int) : List AW -> Bool
 | [] => true
 | k :: ks => fE s k && fL s ks
end
theorem nE_pos (e : AW) : 1 <= nE e := by cases e; simp only [nE]; omega
theorem sZ : ∀ l : List AW, l.length <= nL l
 | [] => by simp [nL]
 | k :: ks => by have := sZ ks; have := nE_pos k; simp only [nL, a0U]; omega
theorem kG : ∀ {l : List AW} {e : AW}, e ∈ l -> nE e <= nL l
 | k :: ks, e, h => by
  simp only [nL];cases h with
  | head => omega
  | tail _ h => have := kG h; omega
def okE (s : Int) (e : AW) : Bool := fE s e && decide (dE e <= 12) && decide (nE e <= 60)
def exR (s d w : Int) (e : AW) : Int ⊕ Value := if fE s e = true /\ d + dE e <= 13 /\ w + nE e <= 60 then .inl (w + nE e) else .inr flaw
theorem aDu {rec : AW -> Int -> Int -> Int -> Option (Int ⊕ Value)} {op n d s : Int} (hd : 0 <= d /\ d <= 12) :
  ∀ (AH AG : List AW) (k : Nat) (w : Int), AH.length < k -> AG.length + AH.length <= 1000000000 -> 0 <= w -> w <= 60 -> (∀ e ∈ AH, ∀ w : Int, 0 <= w -> w <= 60 -> rec e (d + 1) w s = some (exR s (d + 1) w e)) ->
   oA rec ⟨op, n, AG ++ AH⟩ d s k AG.length w = some (if fL s AH = true /\ d + 1 + dL AH <= 13 /\ w + nL AH <= 60 then .inl (w + nL AH) else .inr flaw)
 | [], AG, k + 1, w, _, _, h0, h1, _ => by
  rw [oA, a1U (by simp), a1V ⟨rfl, by simp [dL]; omega, by simpa [nL]⟩]; simp [nL]
 | e :: AH, AG, k + 1, w, hk, hB, h0, h1, hr => by
  rw [oA, a1V (cD _ _ _), cI];have hr1 := hr e (.head _) w h0 h1;simp only [a0U] at hk hB;simp only [bsm, aU (i := d + 1) (by omega)];rw [pZ, hr1];simp only [bsm, exR];have hn := nE_pos e;by_cases hc : fE s e = true /\ d + 1 + dE e <= 13 /\ w + nE e <= 60
  ·rw [a1V hc];simp only [aU (i := (AG.length : Int) + 1) (by omega), bsm];rw [cG, bW, aDu hd AH (AG ++ [e]) k _ (by omega) (by simp; omega) (by omega) hc.2.2 (fun x hx => hr x (.tail _ hx))];congr 1
   by_cases hs : fL s AH = true /\ d + 1 + dL AH <= 13 /\ w + nE e + nL AH <= 60
   ·rw [a1V hs, a1V ⟨by simp [fL, hc.1, hs.1], by simp only [dL]; omega, by simp only [nL]; omega⟩];simp only [nL, Int.natCast_add]; congr 1; omega
   ·rw [a1U hs, a1U];rintro ⟨g1, g2, g3⟩
    simp only [fL, a0j] at g1;simp only [dL] at g2; simp only [nL] at g3;exact hs ⟨g1.2, by omega, by omega⟩
  ·rw [a1U hc];dsimp only
   rw [a1U];rintro ⟨g1, g2, g3⟩
   simp only [fL, a0j] at g1;simp only [dL] at g2; simp only [nL] at g3;exact hc ⟨g1.1, by omega, by omega⟩
theorem aDS : ∀ (AA : Nat) (e : AW) (d w s : Int), nE e < AA -> nE e <= 1000000000 -> 0 <= d -> d <= 1000 -> 0 <= w -> w <= 60 -> lI AA e d w s = some (exR s d w e)
 | AA + 1, ⟨op, n, ks⟩, d, w, s, hf, hB, hd, hd2, hw, hw2 => by
  rw [lI];simp only [nE] at hf hB;have hlen := sZ ks;simp only [aU (i := w + 1) (by omega), bsm];have hdE : dE ⟨op, n, ks⟩ = 1 + dL ks := by simp only [dE]
  have hnE : nE ⟨op, n, ks⟩ = 1 + nL ks := by simp only [nE]
  have hfE : fE s ⟨op, n, ks⟩ = (loc s op n ks.length && fL s ks) := by simp only [fE]
  by_cases h1 : w + 1 <= 60 /\ d <= 12
  ·by_cases h2 : loc s op n ks.length = true
   ·have hloop := aDu (rec := lI AA) (op := op) (n := n) (s := s) ⟨hd, h1.2⟩ ks [] AA (w + 1) (by omega) (by simp; omega) (by omega) h1.1
     (fun e he w h0 h60 => aDS AA e (d + 1) w s (by have := kG he; omega) (by have := kG he; omega) (by omega) (by omega) h0 h60)
    simp only [a1k, a0W, a0q] at hloop;have hres : (some (if fL s ks = true /\ d + 1 + (dL ks : Int) <= 13 /\ w + 1 + (nL ks : Int) <= 60 then Sum.inl (w + 1 + (nL ks : Int)) else Sum.inr flaw) : Option (Int ⊕ Value)) = some (exR s d w ⟨op, n, ks⟩) := by
     unfold exR; rw [hdE, hnE, hfE, h2];congr 1
     by_cases hc : fL s ks = true /\ d + 1 + (dL ks : Int) <= 13 /\ w + 1 + (nL ks : Int) <= 60
     ·rw [a1V hc, a1V ⟨by simp [hc.1], by omega, by omega⟩]; congr 1; omega
     ·rw [a1U hc, a1U];rintro ⟨g1, g2, g3⟩
      exact hc ⟨by simpa using g1, by omega, by omega⟩
    rw [<- hres, <- hloop];unfold loc at h2;rw [a1V h1.1, a1S h1.2, eU];simp only [bsm];by_cases o1 : op = 1
    ·rw [a1V o1] at h2 ⊢;obtain ⟨a, b, c⟩ := of_decide_eq_true h2;rw [a1V a, a1V b, a1S (by omega), eU]; rfl
    ·rw [a1U o1] at h2 ⊢;by_cases o2 : op = 2
     ·rw [a1V o2] at h2 ⊢;obtain ⟨a, b, c⟩ := of_decide_eq_true h2;rw [a1V a, a1V b, a1S (by omega), eU]; rfl
     ·rw [a1U o2] at h2 ⊢;obtain ⟨a, b, c, e⟩ := of_decide_eq_true h2;have : ((if op = 3 then some (decide (op = 3)) else if op = 4 then some (decide (op = 4)) else if op = 5 then some (decide (op = 5)) else if op = 6 then some (decide (op = 6)) else some (decide (op = 7))) : Option Bool) = some true := by
       split; · simp_all
       split; · simp_all
       split; · simp_all
       split; · simp_all
       rw [a1S (by omega)]
      rw [this];simp only [bsm, a1Q];rw [a1V c, a1S (by omega), eU]; rfl
   ·have hr : exR s d w ⟨op, n, ks⟩ = .inr flaw := by
     unfold exR; rw [a1U]; rintro ⟨g, _⟩; rw [hfE] at g; simp [h2] at g
    rw [hr, a1V h1.1, a1S h1.2, eU];simp only [bsm];unfold loc at h2;by_cases o1 : op = 1
    ·rw [a1V o1] at h2 ⊢;simp only [a1T] at h2;by_cases a : -1000000000 <= n
     ·rw [a1V a];by_cases b : n <= 1000000000
      ·rw [a1V b, a1R (by omega), cX]; rfl
      ·rw [a1U b, cX]; rfl
     ·rw [a1U a, cX]; rfl
    ·rw [a1U o1] at h2 ⊢;by_cases o2 : op = 2
     ·rw [a1V o2] at h2 ⊢;simp only [a1T] at h2;by_cases a : 0 <= n
      ·rw [a1V a];by_cases b : n < s
       ·rw [a1V b, a1R (by omega), cX]; rfl
       ·rw [a1U b, cX]; rfl
      ·rw [a1U a, cX]; rfl
     ·rw [a1U o2] at h2 ⊢;simp only [a1T] at h2;have : ((if op = 3 then some (decide (op = 3)) else if op = 4 then some (decide (op = 4)) else if op = 5 then some (decide (op = 5)) else if op = 6 then some (decide (op = 6)) else some (decide (op = 7))) : Option Bool) = some (decide (3 <= op /\ op <= 7)) := by
       split; · simp_all
       split; · simp_all
       split; · simp_all
       split; · simp_all
       congr 1; rw [decide_eq_decide]; omega
      rw [this];simp only [bsm];by_cases o3 : 3 <= op /\ op <= 7
      ·rw [a1S o3];simp only [a1Q];by_cases a : n = 0
       ·rw [a1V a, a1R (by omega), cX]; rfl
       ·rw [a1U a, cX]; rfl
      ·rw [a1R o3, cX]; rfl
  ·have hr : exR s d w ⟨op, n, ks⟩ = .inr flaw := by
    unfold exR; rw [a1U]; rintro ⟨_, g2, g3⟩; rw [hdE] at g2; rw [hnE] at g3; omega
   rw [hr];by_cases h2 : w + 1 <= 60
   ·rw [a1V h2, a1R (by omega), cX]; rfl
   ·rw [a1U h2, cX]; rfl
theorem exp_eq {AA : Nat} {e : AW} {s : Int} (hf : nE e < AA) (hB : nE e <= 1000000000) : wO AA e s = some (if okE s e = true then .inl () else .inr flaw) := by
 rw [wO, pZ, aDS AA e 1 0 s hf hB (by omega) (by omega) (by omega) (by omega)]
 simp only [bsm, exR]
 by_cases h : fE s e = true /\ (1 : Int) + dE e <= 13 /\ (0 : Int) + nE e <= 60
 ·have h' : okE s e = true := by
   simp only [okE, a0j, a1T]; exact ⟨⟨h.1, by omega⟩, by omega⟩
  rw [a1V h, a1V h']
 ·have h' : ¬ okE s e = true := by
   simp only [okE, a0j, a1T]; intro g; exact h ⟨g.1.1, by omega, by omega⟩
  rw [a1U h, a1U h']
theorem aHr {rec : AW -> Int -> Option Int} {op n most : Int} (hm : -1000000000 <= most /\ most <= 1000000000) (AH : List AW) :
  ∀ (AG : List AW) (k : Nat) (w : Int), AH.length < k -> AG.length + AH.length <= 1000000000 -> 0 <= w -> w + nL AH <= 1000000000 -> (∀ e ∈ AH, ∀ m : Int, -1000000000 <= m -> m <= 1000000000 -> ∃ v, rec e m = some v /\ 0 <= v /\ v <= nE e /\ ((nE e : Int) <= m -> v = nE e) /\ (m < nE e -> m < v)) ->
   ∃ v, nW rec ⟨op, n, AG ++ AH⟩ most k w AG.length = some v /\ 0 <= v /\ v <= w + nL AH /\ (w + (nL AH : Int) <= most -> v = w + nL AH) /\ (most < w + nL AH -> most < v) := by
 induction AH with
 | nil =>
  intro AG k w hk _ h0 _ _;obtain _ | k := k
  ·omega
  refine ⟨w, ?_, h0, by simp only [nL]; omega, fun _ => by simp only [nL]; omega, fun h => by simp only [nL] at h; omega⟩
  rw [nW, a1U (by simp)]
 | cons e AH ih =>
  intro AG k w hk hB h0 hW hr;obtain _ | k := k
  ·omega
  simp only [a0U] at hk hB;simp only [nL] at hW ⊢;rw [nW, a1V (cD _ _ _)];by_cases hw : w <= most
  ·rw [a1V hw];simp only [cI, bsm, aU (i := most - w) (by omega)];obtain ⟨v, h1, h2, h3, h4, h5⟩ := hr e (.head _) (most - w) (by omega) (by omega)
   simp only [h1, bsm, aU (i := w + v) (by omega), aU (i := (AG.length : Int) + 1) (by omega)];rw [cG, bW];obtain ⟨u, g1, g2, g3, g4, g5⟩ := ih (AG ++ [e]) k (w + v) (by omega) (by simp; omega) (by omega) (by omega) (fun x hx => hr x (.tail _ hx))
   refine ⟨u, g1, g2, by omega, fun h => ?_, fun h => ?_⟩
   ·have := h4 (by omega); have := g4 (by omega); omega
   ·by_cases hv : (nE e : Int) <= most - w
    ·have := h4 hv; exact g5 (by omega)
    ·have := h5 (by omega); exact g5 (by omega)
  ·rw [a1U hw];exact ⟨w, rfl, h0, by omega, fun h => by omega, fun _ => by omega⟩
theorem nodes_eq (AA : Nat) : ∀ (e : AW) (m : Int), nE e < AA -> nE e <= 1000000000 -> -1000000000 <= m -> m <= 1000000000 -> ∃ v, lH AA e m = some v /\ 0 <= v /\ v <= nE e /\ ((nE e : Int) <= m -> v = nE e) /\ (m < nE e -> m < v) := by
 induction AA with
 | zero => intro e m h; omega
 | succ AA ih =>
  intro ⟨op, n, ks⟩ m hf hB h0 h1
  simp only [nE] at hf hB ⊢;have hlen := sZ ks;obtain ⟨v, g1, g2, g3, g4, g5⟩ := aHr (rec := lH AA) (op := op) (n := n) ⟨h0, h1⟩ ks [] AA 1 (by omega) (by simp; omega) (by omega) (by omega)
   (fun e he m h0 h1 => ih e m (by have := kG he; omega) (by have := kG he; omega) h0 h1)
  simp only [a1k, a0W, a0q] at g1;exact ⟨v, by rw [lH, g1]; rfl, g2, by omega, fun h => by have := g4 (by omega); omega, fun h => g5 (by omega)⟩
theorem aGs {rec : AW -> Option Int} {op n : Int} (AH : List AW) :
  ∀ (AG : List AW) (k : Nat) (w : Int), AH.length < k -> AG.length + AH.length <= 1000000000 -> 0 <= w -> (∀ e ∈ AH, rec e = some (dE e : Int)) ->
   nJ rec ⟨op, n, AG ++ AH⟩ k w AG.length = some (max w (dL AH : Int)) := by
 induction AH with
 | nil =>
  intro AG k w hk _ h0 _;obtain _ | k := k
  ·omega
  rw [nJ, a1U (by simp)]; simp only [dL]; congr 1; omega
 | cons e AH ih =>
  intro AG k w hk hB h0 hr;obtain _ | k := k
  ·omega
  simp only [a0U] at hk hB;rw [nJ, a1V (cD _ _ _)];simp only [cI, bsm, hr e (.head _), aU (i := (AG.length : Int) + 1) (by omega)];rw [cG, bW, ih (AG ++ [e]) k _ (by omega) (by simp; omega) (by omega) (fun x hx => hr x (.tail _ hx))];simp only [dL]; congr 1; omega
theorem dE_le : (∀ e, dE e <= nE e) /\ ∀ l, dL l <= nL l := by
 refine ⟨fun e => ?_, fun l => ?_⟩
 ·exact go e
 ·exact goL l
where
 go : ∀ e, dE e <= nE e
  | ⟨_, _, ks⟩ => by have := goL ks; simp only [dE, nE]; omega
 goL : ∀ l, dL l <= nL l
  | [] => by simp [dL]
  | k :: ks => by have := go k; have := goL ks; simp only [dL, nL]; omega
theorem depth_eq (AA : Nat) : ∀ (e : AW), nE e < AA -> nE e <= 1000000000 -> lJ AA e = some (dE e : Int) := by
 induction AA with
 | zero => intro e h; omega
 | succ AA ih =>
  intro ⟨op, n, ks⟩ hf hB
  simp only [nE] at hf hB;have hlen := sZ ks;have h := aGs (rec := lJ AA) (op := op) (n := n) ks [] AA 0 (by omega) (by simp; omega) (by omega) (fun e he => ih e (by have := kG he; omega) (by have := kG he; omega))
  simp only [a1k, a0W, a0q] at h;have hd := dE_le.2 ks;rw [lJ, h, show max (0 : Int) (dL ks : Int) = dL ks from by omega];simp only [bsm, aU (i := (dL ks : Int) + 1) (by omega), dE];congr 1; omega
theorem aHd (AA : Nat) : ∀ (e : AW) (s : Int), nE e < AA -> oP AA e s = some (fE s e) := by
 induction AA with
 | zero => intro e s h; omega
 | succ AA ih =>
  intro ⟨op, n, ks⟩ s hf
  simp only [nE] at hf;rw [oP];simp only [fE, loc];by_cases o1 : op = 1
  ·rw [a1V o1, a1V o1];by_cases c : (ks.length : Int) = 0
   ·have hk : ks = [] := a0y (by omega)
    subst hk;rw [a1V c];by_cases a : -1000000000 <= n
    ·rw [a1V a]; simp [a, fL]
    ·rw [a1U a]; simp [a, fL]
   ·rw [a1U c]; have : ¬ ks.length = 0 := by omega
    simp [this]
  ·rw [a1U o1, a1U o1];by_cases o2 : op = 2
   ·rw [a1V o2, a1V o2];by_cases c : (ks.length : Int) = 0
    ·have hk : ks = [] := a0y (by omega)
     subst hk;rw [a1V c];by_cases a : 0 <= n
     ·rw [a1V a]; simp [a, fL]
     ·rw [a1U a]; simp [a, fL]
    ·rw [a1U c]; have : ¬ ks.length = 0 := by omega
     simp [this]
   ·rw [a1U o2, a1U o2];by_cases a : op < 3
    ·rw [a1V a]; simp; intro _; omega
    ·rw [a1U a];by_cases b : 7 < op
     ·rw [a1V b]; simp; intro _; omega
     ·rw [a1U b];by_cases c : (ks.length : Int) ≠ 2
      ·rw [a1V c]; simp; intro _ _ _; omega
      ·rw [a1U c];by_cases e : n ≠ 0
       ·rw [a1V e]; simp [e]
       ·rw [a1U e];match ks, c, hf with
        | [x, y], _, hf =>
         simp only [nL] at hf;have h1 := ih x s (by omega)
         have h2 := ih y s (by omega)
         have i0 : idx [x, y] 0 = some x := rfl;have i1 : idx [x, y] 1 = some y := rfl;have : decide (3 <= op /\ op <= 7 /\ n = 0 /\ [x, y].length = 2) = true := a1S ⟨by omega, by omega, by omega, rfl⟩
         rw [this];simp only [i0, i1, h1, h2, bsm, fL, a0p, Bool.and_true];cases fE s x <;> simp
        | [], c, _ => simp at c
        | [_], c, _ => simp at c
        | _ :: _ :: _ :: _, c, _ => simp at c; omega
theorem aDU {AA : Nat} {e : AW} {s : Int} (hf : nE e < AA) (hB : nE e <= 1000000000) : tL AA e s = some (okE s e) := by
 obtain ⟨v, h1, h2, h3, h4, h5⟩ := nodes_eq AA e 60 hf hB (by omega) (by omega)
 rw [tL, pZ, h1, depth_eq AA e hf hB, aHd AA e s hf]
 simp only [bsm, okE]
 by_cases hn : (nE e : Int) <= 60
 ·rw [h4 hn, a1V hn];by_cases hd : (dE e : Int) <= 12
  ·rw [a1V hd]; have h1 : dE e <= 12 := by omega
   have h2 : nE e <= 60 := by omega
   simp [h1, h2]
  ·rw [a1U hd]; have : ¬ dE e <= 12 := by omega
   simp [this]
 ·have := h5 (by omega)
  rw [a1U (by omega)]; have : ¬ nE e <= 60 := by omega
  simp [this]
open Go.SX Go.SW Go.Dt
def fR (n : Nat) (c : Ar) : Bool := decide (0 <= c.At /\ c.At <= (n : Int) /\ 0 <= c.Ap /\ c.Ap <= 3)
def kM : Nat -> List As -> Bool
 | _, [] => true
 | i, s :: l => decide (0 <= s.In /\ s.In <= (i : Int)) && kM (i + 1) l
def lB (chans : List Ar) (at_ : Int) : List Int -> List Int -> List Bool -> Option (List Bool)
 | _, [], u => some u
 | AG, c :: js, u => match idx chans c with
  | some ch => if ch.At = at_ /\ c ∉ AG then lB chans at_ (AG ++ [c]) js (u.set c.toNat true) else none
  | none => none
def okR (n : Nat) (r : Al) : Prop := 0 <= r.At /\ r.At <= (n : Int) /\ 1 <= r.Af.length /\ r.Af.length <= 3
instance {n : Nat} {r : Al} : Decidable (okR n r) := by unfold okR; infer_instance
def iX (chans : List Ar) (n : Nat) : List Al -> List Bool -> Option (List Bool)
 | [], u => some u
 | r :: rs, u => if okR n r then (lB chans r.At [] r.Af u).bind (iX chans n rs) else none
def okU (o : Option (List Bool)) : Bool := match o with
 | some u => u.all id
 | none => false
def okD (d : AN) : Bool := decide (d.AP.length <= 30 /\ d.AT.length <= 30 /\ d.AS.length <= 30) && d.AP.all (fR d.AT.length) && kM 0 d.AT && okU (iX d.AP d.AT.length d.AS (List.replicate d.AP.length false))
def smD (d : AN) : Prop := d.AP.length <= 2000000 /\ d.AT.length <= 2000000 /\ d.AS.length <= 2000000 /\ ∀ r ∈ d.AS, r.Af.length <= 2000000
theorem iB {α : Type} {xs : List α} {i : Int} (h0 : 0 <= i) (h1 : i < xs.length) : ∃ y, idx xs i = some y := by
 unfold idx; rw [a1V h0]; exact ⟨xs[i.toNat]'(by omega), by simp⟩
theorem aCQ {α : Type} {xs : List α} {i : Int} (h : ¬ (0 <= i /\ i < xs.length)) : idx xs i = none := by
 unfold idx; split
 ·simp; omega
 ·rfl
theorem aHQ {c : Int} (AH : List Int) : ∀ (AG : List Int) (k : Nat), AH.length < k -> AG.length + AH.length <= 3000000 -> c ∉ AG ->
  ∃ r, lC (AG ++ AH) c k AG.length = some r /\ ((c ∈ AH /\ ∃ i : Int, r = .inr i /\ 0 <= i) \/ (c ∉ AH /\ r = .inl ())) := by
 induction AH with
 | nil =>
  intro AG k hk _ _;obtain _ | k := k
  ·omega
  exact ⟨_, by rw [lC, a1U (by simp)], .inr ⟨by simp, rfl⟩⟩
 | cons e AH ih =>
  intro AG k hk hB hn;obtain _ | k := k
  ·omega
  simp only [a0U] at hk hB;by_cases he : c = e
  ·exact ⟨_, by rw [lC, a1V (cD _ _ _), cI, bsm, a1V he]; rfl, .inl ⟨by simp [he], _, rfl, by omega⟩⟩
  ·obtain ⟨r, h1, h2⟩ := ih (AG ++ [e]) k (by omega) (by simp; omega) (by simp [hn, he])
   refine ⟨r, ?_, ?_⟩
   ·rw [lC, a1V (cD _ _ _), cI, bsm, a1U he, aU (by omega), bsm, cG AG AH e, bW AG e]; exact h1
   ·rcases h2 with ⟨h2, h3⟩ | ⟨h2, h3⟩
    ·exact .inl ⟨by simp [h2], h3⟩
    ·exact .inr ⟨by simp [h2, he], h3⟩
theorem aGk {AA : Nat} {l : List Int} {c : Int} (hf : l.length < AA) (hB : l.length <= 3000000) : vL AA l c = some (decide (c ∈ l)) := by
 obtain ⟨r, h1, h2⟩ := aHQ (c := c) l [] AA hf (by simpa using hB) (by simp)
 simp only [a1k, a0W, a0q] at h1
 rw [vL, xQ, h1]
 rcases h2 with ⟨h2, i, rfl, h3⟩ | ⟨h2, rfl⟩
 ·simp [h2, h3]
 ·simp [h2]
theorem aDR {a : Int} {d : AN} : sG a d = some (if 0 <= a /\ a <= (d.AT.length : Int) then .inl () else .inr flaw) := by
 rw [sG]
 by_cases h : 0 <= a
 ·rw [a1V h];by_cases h2 : a <= (d.AT.length : Int)
  ·rw [a1S h2, eU, a1V ⟨h, h2⟩]; rfl
  ·rw [a1R h2, cX, a1U (fun g => h2 g.2)]; rfl
 ·rw [a1U h, cX, a1U (fun g => h g.1)]; rfl
theorem dl1 {sp : List As} {ru : List Al} (AH : List Ar) : ∀ (AG : List Ar) (k : Nat), AH.length < k -> AG.length + AH.length <= 3000000 ->
  mP ⟨AG ++ AH, sp, ru⟩ k AG.length = some (if AH.all (fR sp.length) = true then .inl () else .inr (.inr flaw)) := by
 induction AH with
 | nil =>
  intro AG k hk _;obtain _ | k := k
  ·omega
  rw [mP, a1U (by simp), a1V (by rfl)]
 | cons e AH ih =>
  intro AG k hk hB;obtain _ | k := k
  ·omega
  simp only [a0U] at hk hB;rw [mP, a1V (cD _ _ _)];dsimp only
  rw [cI, bsm, aDR, bsm];simp only [List.all_cons, a0j];by_cases h1 : 0 <= e.At /\ e.At <= (sp.length : Int)
  ·rw [a1V h1];dsimp only
   by_cases h2 : 0 <= e.Ap
   ·rw [a1V h2];by_cases h3 : e.Ap <= 3
    ·rw [a1S h3, eU, bsm, bsm];dsimp only
     rw [aU (by omega), bsm, cG AG AH e, bW AG e, ih (AG ++ [e]) k (by omega) (by simp; omega)];have : fR sp.length e = true := a1S ⟨h1.1, h1.2, h2, h3⟩;simp [this]
    ·have hn : ¬ (fR sp.length e = true /\ AH.all (fR sp.length) = true) := by
      rintro ⟨g, _⟩; exact h3 (of_decide_eq_true g).2.2.2
     rw [a1R h3, cX, a1U hn]; rfl
   ·have hn : ¬ (fR sp.length e = true /\ AH.all (fR sp.length) = true) := by
     rintro ⟨g, _⟩; exact h2 (of_decide_eq_true g).2.2.1
    rw [a1U h2, cX, a1U hn]; rfl
  ·have hn : ¬ (fR sp.length e = true /\ AH.all (fR sp.length) = true) := by
    rintro ⟨g, _⟩; exact h1 ⟨(of_decide_eq_true g).1, (of_decide_eq_true g).2.1⟩
   rw [a1U h1, a1U hn]; rfl
theorem dl2 {ch : List Ar} {ru : List Al} (AH : List As) : ∀ (AG : List As) (k : Nat), AH.length < k -> AG.length + AH.length <= 3000000 ->
  oD ⟨ch, AG ++ AH, ru⟩ k AG.length = some (if kM AG.length AH = true then .inl () else .inr (.inr flaw)) := by
 induction AH with
 | nil =>
  intro AG k hk _;obtain _ | k := k
  ·omega
  rw [oD, a1U (by simp), a1V (by rfl)]
 | cons e AH ih =>
  intro AG k hk hB;obtain _ | k := k
  ·omega
  simp only [a0U] at hk hB;rw [oD, a1V (cD _ _ _)];dsimp only
  rw [cI, bsm];simp only [kM, a0j, a1T];by_cases h2 : 0 <= e.In
  ·rw [a1V h2];by_cases h3 : e.In <= (AG.length : Int)
   ·rw [a1S h3, eU, bsm, bsm];dsimp only
    rw [aU (by omega), bsm, cG AG AH e, bW AG e, ih (AG ++ [e]) k (by omega) (by simp; omega)];simp [h2, h3]
   ·rw [a1R h3, cX, a1U (fun g => h3 g.1.2)]; rfl
  ·rw [a1U h2, cX, a1U (fun g => h2 g.1.1)]; rfl
def Like (g : bD Int Bool) (u : List Bool) : Prop := (∀ i : Nat, g.get i = if u[i]? = some true then some true else none) /\ g.size = u.countP id
theorem like_upd {g : bD Int Bool} {u : List Bool} {c : Int} (h : Like g u) (h0 : 0 <= c) (h1 : c < u.length) : Like (bD.upd g c true) (u.set c.toNat true) := by
 obtain ⟨n, rfl⟩ : ∃ n : Nat, c = n := ⟨c.toNat, by omega⟩
 have hn : n < u.length := by omega
 simp only [a0r]
 refine ⟨fun i => ?_, ?_⟩
 ·simp only [bD.upd];by_cases hi : (i : Int) = n
  ·have : i = n := by omega
   subst this;rw [a1V rfl]; simp [hn]
  ·rw [a1U hi, h.1 i];have : n ≠ i := by omega
   simp [this]
 ·simp only [bD.upd];rw [h.1 n, List.countP_set (h := hn), h.2];have hge : u[n]? = some u[n] := by simp [hn]
  rw [hge];cases hu : u[n] with
  | false => simp
  | true =>
   have hpos : 0 < u.countP id := a0w.2 ⟨u[n], a0S hn, by simpa using hu⟩
   simp; omega
theorem dl4 {ch : List Ar} {sp : List As} {ru : List Al} {a nd : Int} (AH : List Int) {AA : Nat} : ∀ (AG : List Int) (k : Nat) (g : bD Int Bool) (u : List Bool), AH.length < k -> AG.length + AH.length < AA -> AG.length + AH.length <= 3000000 -> u.length = ch.length -> Like g u ->
  (∃ u' g', lB ch a AG AH u = some u' /\ u'.length = ch.length /\ Like g' u' /\ jL AA ⟨ch, sp, ru⟩ ⟨a, AG ++ AH, nd⟩ k AG.length g = some (.inl g')) \/
  (lB ch a AG AH u = none /\ jL AA ⟨ch, sp, ru⟩ ⟨a, AG ++ AH, nd⟩ k AG.length g = some (.inr (.inr (.inr flaw)))) := by
 induction AH with
 | nil =>
  intro AG k g u hk _ _ hl hg;obtain _ | k := k
  ·omega
  exact .inl ⟨u, g, rfl, hl, hg, by rw [jL, a1U (by simp)]⟩
 | cons e AH ih =>
  intro AG k g u hk hf hB hl hg;obtain _ | k := k
  ·omega
  simp only [a0U] at hk hB hf;rw [jL, a1V (cD _ _ _)];dsimp only
  rw [cI, bsm];simp only [lB];by_cases h1 : 0 <= e /\ e < (ch.length : Int)
  ·obtain ⟨y, hy⟩ := iB h1.1 h1.2;rw [a1V h1.1, a1V h1.2, hy, bsm];dsimp only
   by_cases h2 : y.At = a
   ·rw [a1V h2];have hs : slc (AG ++ e :: AH) 0 AG.length = some AG := by
     unfold slc; rw [a1V ⟨by omega, by omega, by simp; omega⟩]; simp
    rw [hs, bsm, aGk (by omega) (by omega), bsm];by_cases h3 : e ∈ AG
    ·rw [a1S h3, a1U (fun q => q.2 h3)];exact .inr ⟨rfl, by rw [show (!true) = false from rfl, cX]; rfl⟩
    ·rw [a1R h3, a1V ⟨h2, h3⟩, show (!false) = true from rfl, eU, bsm, bsm];dsimp only
     rw [aU (by omega), bsm, cG AG AH e, bW AG e];exact ih (AG ++ [e]) k _ _ (by omega) (by simp; omega) (by simp; omega) (by simpa using hl) (like_upd hg h1.1 (by omega))
   ·rw [a1U h2, cX, a1U (fun q => h2 q.1)];exact .inr ⟨rfl, rfl⟩
  ·rw [aCQ h1];refine .inr ⟨rfl, ?_⟩;by_cases h0 : 0 <= e
   ·rw [a1V h0, a1U (fun q => h1 ⟨h0, q⟩), cX]; rfl
   ·rw [a1U h0, cX]; rfl
theorem dl3 {ch : List Ar} {sp : List As} {AA : Nat} (AH : List Al) : ∀ (AG : List Al) (k : Nat) (g : bD Int Bool) (u : List Bool), AH.length < k -> AG.length + AH.length <= 3000000 -> 2000000 < AA -> (∀ r ∈ AH, r.Af.length <= 2000000) -> u.length = ch.length -> Like g u ->
  (∃ u' g', iX ch sp.length AH u = some u' /\ u'.length = ch.length /\ Like g' u' /\ lN AA ⟨ch, sp, AG ++ AH⟩ k AG.length g = some (.inl g')) \/
  (iX ch sp.length AH u = none /\ lN AA ⟨ch, sp, AG ++ AH⟩ k AG.length g = some (.inr (.inr flaw))) := by
 induction AH with
 | nil =>
  intro AG k g u hk _ _ _ hl hg;obtain _ | k := k
  ·omega
  exact .inl ⟨u, g, rfl, hl, hg, by rw [lN, a1U (by simp)]⟩
 | cons e AH ih =>
  intro AG k g u hk hB hf hJ hl hg;obtain _ | k := k
  ·omega
  simp only [a0U] at hk hB;have hj := hJ e (.head _);rw [lN, a1V (cD _ _ _)];dsimp only
  rw [cI, bsm, aDR, bsm];simp only [iX];by_cases h1 : 0 <= e.At /\ e.At <= (sp.length : Int)
  ·rw [a1V h1];dsimp only
   by_cases h2 : 0 < (e.Af.length : Int)
   ·rw [a1V h2];by_cases h3 : (e.Af.length : Int) <= 3
    ·rw [a1S h3, eU, bsm, a1V (show okR sp.length e from ⟨h1.1, h1.2, by omega, by omega⟩)];have h4 := dl4 (ch := ch) (sp := sp) (ru := AG ++ e :: AH) (a := e.At) (nd := e.Ab) e.Af (AA := AA) [] AA g u (by omega) (by simp; omega) (by simp; omega) hl hg
     simp only [a1k, a0W, a0q] at h4;rcases h4 with ⟨u', g', a1, a2, a3, a4⟩ | ⟨a1, a4⟩
     ·rw [a1, bsm];have : ((jL AA ⟨ch, sp, AG ++ e :: AH⟩ e AA 0 g) = some (.inl g')) := a4;dsimp only
      rw [bsm]; dsimp only
      rw [this, bsm]; dsimp only
      rw [aU (by omega), bsm, cG AG AH e, bW AG e];exact ih (AG ++ [e]) k g' u' (by omega) (by simp; omega) hf (fun r hr => hJ r (.tail _ hr)) a2 a3
     ·rw [a1];have : ((jL AA ⟨ch, sp, AG ++ e :: AH⟩ e AA 0 g) = some (.inr (.inr (.inr flaw)))) := a4;refine .inr ⟨rfl, ?_⟩;dsimp only
      rw [bsm]; dsimp only
      rw [this]; rfl
    ·rw [a1R h3, cX, a1U (show ¬ okR sp.length e from fun q => h3 (by have := q.2.2.2; omega))];exact .inr ⟨rfl, rfl⟩
   ·rw [a1U h2, cX, a1U (show ¬ okR sp.length e from fun q => h2 (by have := q.2.2.1; omega))];exact .inr ⟨rfl, rfl⟩
  ·rw [a1U h1, a1U (show ¬ okR sp.length e from fun q => h1 ⟨q.1, q.2.1⟩)];exact .inr ⟨rfl, rfl⟩
theorem def_eq {AA : Nat} {d : AN} (hf : 3000000 <= AA) (hs : smD d) : tF AA d = some (if okD d = true then .inl () else .inr flaw) := by
 obtain ⟨ch, sp, ru⟩ := d
 obtain ⟨s1, s2, s3, s4⟩ := hs
 dsimp only at s1 s2 s3 s4
 rw [tF]
 dsimp only
 have e1 := dl1 (sp := sp) (ru := ru) ch [] AA (by omega) (by simp; omega)
 have e2 := dl2 (ch := ch) (ru := ru) sp [] AA (by omega) (by simp; omega)
 have e3 := dl3 (ch := ch) (sp := sp) (AA := AA) ru [] AA bD.none (List.replicate ch.length false) (by omega) (by simp; omega) (by omega) s4 (by simp) ⟨fun i => by simp [bD.none, a0L], by simp [bD.none, List.countP_replicate]⟩
 simp only [a1k, a0W, a0q] at e1 e2 e3
 by_cases l1 : ch.length <= 30
 ·rw [a1V (by omega)];by_cases l2 : sp.length <= 30
  ·rw [a1V (by omega)];by_cases l3 : ru.length <= 30
   ·rw [a1S (by omega), eU, bsm, bsm];dsimp only
    rw [e1, bsm];have hok : okD ⟨ch, sp, ru⟩ = (ch.all (fR sp.length) && kM 0 sp && okU (iX ch sp.length ru (List.replicate ch.length false))) := by
     simp only [okD]; rw [a1S ⟨l1, l2, l3⟩]; simp
    rw [hok];cases h1 : ch.all (fR sp.length) with
    | false => simp
    | true =>
     simp only [if_true, a0p];rw [e2, bsm];cases h2 : kM 0 sp with
     | false => simp
     | true =>
      simp only [if_true, a0p];rcases e3 with ⟨u, g, a1, a2, a3, a4⟩ | ⟨a1, a4⟩
      ·rw [a4, bsm];dsimp only
       rw [a1];have hc : ((g.size : Int) = (ch.length : Int)) ↔ okU (some u) = true := by
        show _ ↔ u.all id = true
        rw [a3.2, <- a2, a0s];constructor
        ·intro h; exact List.countP_eq_length.1 (by omega)
        ·intro h; have := List.countP_eq_length.2 h; omega
       by_cases hh : (g.size : Int) = (ch.length : Int)
       ·rw [a1S hh, eU, a1V (hc.1 hh)]; rfl
       ·rw [a1R hh, cX, a1U (fun q => hh (hc.2 q))]; rfl
      ·rw [a4, bsm, a1]; simp [okU]
   ·rw [a1R (by omega), cX, a1U]; rfl
    intro g; simp only [okD, a0j, a1T] at g; exact l3 g.1.1.1.2.2
  ·rw [a1U (by omega), cX, a1U]; rfl
   intro g; simp only [okD, a0j, a1T] at g; exact l2 g.1.1.1.2.1
 ·rw [a1U (by omega), cX, a1U]; rfl
  intro g; simp only [okD, a0j, a1T] at g; exact l1 g.1.1.1.1
theorem rl1 {sp : List As} {ru : List Al} (AH : List Ar) : ∀ (AG : List Ar) (k : Nat), AH.length < k -> AG.length + AH.length <= 3000000 ->
  oF ⟨AG ++ AH, sp, ru⟩ k AG.length = some (if AH.all (fR sp.length) = true then .inl () else .inr false) := by
 induction AH with
 | nil =>
  intro AG k hk _;obtain _ | k := k
  ·omega
  rw [oF, a1U (by simp), a1V (by rfl)]
 | cons e AH ih =>
  intro AG k hk hB;obtain _ | k := k
  ·omega
  simp only [a0U] at hk hB;have hall : (e :: AH).all (fR sp.length) = (fR sp.length e && AH.all (fR sp.length)) := rfl;rw [oF, a1V (cD _ _ _), hall];dsimp only
  rw [cI, bsm];by_cases hc : fR sp.length e = true
  ·obtain ⟨c1, c2, c3, c4⟩ := of_decide_eq_true hc;rw [a1U (by omega), bsm, a1U (by omega), bsm, a1U (by omega), bsm, a1U (by omega), aU (by omega), bsm, cG AG AH e, bW AG e, ih (AG ++ [e]) k (by omega) (by simp; omega), hc, a0p]
  ·have hf : fR sp.length e = false := by simpa using hc
   rw [hf, Bool.false_and, a1U (show ¬ (false = true) from a0m)];have hd : ¬ (0 <= e.At /\ e.At <= (sp.length : Int) /\ 0 <= e.Ap /\ e.Ap <= 3) := of_decide_eq_false hf;by_cases c1 : e.At < 0
   ·rw [a1V c1]; rfl
   ·rw [a1U c1, bsm];by_cases c2 : (sp.length : Int) < e.At
    ·rw [a1V c2]; rfl
    ·rw [a1U c2, bsm];by_cases c3 : e.Ap < 0
     ·rw [a1V c3]; rfl
     ·rw [a1U c3, bsm, a1V (by omega)]; rfl
theorem rl2 {ch : List Ar} {ru : List Al} (AH : List As) : ∀ (AG : List As) (k : Nat), AH.length < k -> AG.length + AH.length <= 3000000 ->
  nF ⟨ch, AG ++ AH, ru⟩ k AG.length = some (if kM AG.length AH = true then .inl () else .inr false) := by
 induction AH with
 | nil =>
  intro AG k hk _;obtain _ | k := k
  ·omega
  rw [nF, a1U (by simp), a1V (by rfl)]
 | cons e AH ih =>
  intro AG k hk hB;obtain _ | k := k
  ·omega
  simp only [a0U] at hk hB;have hall : kM AG.length (e :: AH) = (decide (0 <= e.In /\ e.In <= (AG.length : Int)) && kM (AG.length + 1) AH) := rfl;rw [nF, a1V (cD _ _ _), hall];dsimp only
  rw [cI, bsm];by_cases hc : 0 <= e.In /\ e.In <= (AG.length : Int)
  ·have hp : (AG ++ [e]).length = AG.length + 1 := by simp
   rw [a1U (by omega), bsm, a1U (by omega), aU (by omega), bsm, cG AG AH e, bW AG e, ih (AG ++ [e]) k (by omega) (by simp; omega), a1S hc, a0p, hp]
  ·rw [a1R hc, Bool.false_and, a1U (show ¬ (false = true) from a0m)];by_cases c1 : e.In < 0
   ·rw [a1V c1]; rfl
   ·rw [a1U c1, bsm, a1V (by omega)]; rfl
theorem rl5 {a nd c : Int} {js : List Int} (AH : List Int) : ∀ (AG : List Int) (k : Nat) (post : List Int), js = AG ++ AH ++ post -> AH.length < k -> AG.length + AH.length <= 3000000 ->
  mY ⟨a, js, nd⟩ (AG.length + AH.length : Nat) c k AG.length = some (if c ∈ AH then .inr (.inr (.inr (.inr false))) else .inl ()) := by
 induction AH with
 | nil =>
  intro AG k post _ hk _;obtain _ | k := k
  ·omega
  rw [mY, a1U (by simp), a1U (by simp)]
 | cons e AH ih =>
  intro AG k post hj hk hB;obtain _ | k := k
  ·omega
  simp only [a0U] at hk hB;have hi : idx js (AG.length : Int) = some e := by rw [hj]; exact qX (by simp)
  rw [mY, a1V (by simp; omega)];dsimp only
  rw [hi, bsm];by_cases hc : e = c
  ·rw [a1V hc, a1V (by simp [hc])]; rfl
  ·have h := ih (AG ++ [e]) k post (by simp [hj]) (by omega) (by simp; omega)
   have hl : (AG ++ [e]).length + AH.length = AG.length + (e :: AH).length := by simp; omega
   rw [hl] at h;have hm : (c ∈ e :: AH) ↔ c ∈ AH := by simp [Ne.symm hc]
   rw [a1U hc, aU (by omega), bsm, bW AG e, h];by_cases hs : c ∈ AH
   ·rw [a1V hs, a1V (hm.2 hs)]
   ·rw [a1U hs, a1U (fun q => hs (hm.1 q))]
theorem rl4 {ch : List Ar} {sp : List As} {ru : List Al} {a nd : Int} (AH : List Int) {AA : Nat} : ∀ (AG : List Int) (k : Nat) (u : List Bool), AH.length < k -> AG.length + AH.length < AA -> AG.length + AH.length <= 3000000 -> u.length = ch.length ->
  (∃ u', lB ch a AG AH u = some u' /\ u'.length = ch.length /\ jM AA ⟨ch, sp, ru⟩ ⟨a, AG ++ AH, nd⟩ k u AG.length = some (.inl u')) \/
  (lB ch a AG AH u = none /\ jM AA ⟨ch, sp, ru⟩ ⟨a, AG ++ AH, nd⟩ k u AG.length = some (.inr (.inr false))) := by
 induction AH with
 | nil =>
  intro AG k u hk _ _ hl;obtain _ | k := k
  ·omega
  exact .inl ⟨u, rfl, hl, by rw [jM, a1U (by simp)]⟩
 | cons e AH ih =>
  intro AG k u hk hf hB hl;obtain _ | k := k
  ·omega
  simp only [a0U] at hk hB hf;rw [jM, a1V (cD _ _ _)];dsimp only
  rw [cI, bsm];simp only [lB];by_cases h1 : 0 <= e /\ e < (ch.length : Int)
  ·obtain ⟨y, hy⟩ := iB h1.1 h1.2;obtain ⟨b, hb⟩ := iB (xs := u) h1.1 (by omega)
   rw [hy, a1U (show ¬ e < 0 by omega), a1U (show ¬ (ch.length : Int) <= e by omega), bsm];dsimp only
   by_cases h2 : y.At = a
   ·have h5 := rl5 (a := a) (nd := nd) (c := e) (js := AG ++ e :: AH) AG [] AA (e :: AH) (by simp) (by omega) (by simp; omega)
    simp only [a0W, a1G, a0q] at h5;rw [a1U (show ¬ (y.At ≠ a) from fun q => q h2), h5, bsm];by_cases h3 : e ∈ AG
    ·rw [a1V h3, a1U (show ¬ (y.At = a /\ e ∉ AG) from fun q => q.2 h3)];exact .inr ⟨rfl, rfl⟩
    ·rw [a1U h3, a1V (show y.At = a /\ e ∉ AG from ⟨h2, h3⟩)];dsimp only
     rw [hb, bsm, bsm];dsimp only
     rw [aU (by omega), bsm, cG AG AH e, bW AG e];exact ih (AG ++ [e]) k _ (by omega) (by simp; omega) (by simp; omega) (by simpa using hl)
   ·rw [a1V (show y.At ≠ a from h2), a1U (show ¬ (y.At = a /\ e ∉ AG) from fun q => h2 q.1)];exact .inr ⟨rfl, rfl⟩
  ·rw [aCQ h1];refine .inr ⟨rfl, ?_⟩;by_cases h0 : e < 0
   ·rw [a1V h0]; rfl
   ·rw [a1U h0, a1V (by omega)]; rfl
theorem rl3 {ch : List Ar} {sp : List As} {AA : Nat} (AH : List Al) : ∀ (AG : List Al) (k : Nat) (u : List Bool), AH.length < k -> AG.length + AH.length <= 3000000 -> 2000000 < AA -> (∀ r ∈ AH, r.Af.length <= 2000000) -> u.length = ch.length ->
  (∃ u', iX ch sp.length AH u = some u' /\ u'.length = ch.length /\ lU AA ⟨ch, sp, AG ++ AH⟩ k u AG.length = some (.inl u')) \/
  (iX ch sp.length AH u = none /\ lU AA ⟨ch, sp, AG ++ AH⟩ k u AG.length = some (.inr false)) := by
 induction AH with
 | nil =>
  intro AG k u hk _ _ _ hl;obtain _ | k := k
  ·omega
  exact .inl ⟨u, rfl, hl, by rw [lU, a1U (by simp)]⟩
 | cons e AH ih =>
  intro AG k u hk hB hf hJ hl;obtain _ | k := k
  ·omega
  simp only [a0U] at hk hB;have hj := hJ e (.head _);rw [lU, a1V (cD _ _ _)];dsimp only
  rw [cI, bsm];simp only [iX];by_cases h1 : okR sp.length e
  ·obtain ⟨c1, c2, c3, c4⟩ := h1;rw [a1V (show okR sp.length e from ⟨c1, c2, c3, c4⟩), a1U (show ¬ e.At < 0 by omega), a1U (show ¬ (sp.length : Int) < e.At by omega), a1U (show ¬ (e.Af.length : Int) < 1 by omega), a1U (show ¬ 3 < (e.Af.length : Int) by omega)];have h4 := rl4 (ch := ch) (sp := sp) (ru := AG ++ e :: AH) (a := e.At) (nd := e.Ab) e.Af (AA := AA) [] AA u (by omega) (by simp; omega) (by simp; omega) hl
   simp only [a1k, a0W, a0q] at h4;rcases h4 with ⟨u', a1, a2, a4⟩ | ⟨a1, a4⟩
   ·have : ((jM AA ⟨ch, sp, AG ++ e :: AH⟩ e AA u 0) = some (.inl u')) := a4;rw [a1, bsm, this, bsm];dsimp only
    rw [aU (by omega), bsm, cG AG AH e, bW AG e];exact ih (AG ++ [e]) k u' (by omega) (by simp; omega) hf (fun r hr => hJ r (.tail _ hr)) a2
   ·have : ((jM AA ⟨ch, sp, AG ++ e :: AH⟩ e AA u 0) = some (.inr (.inr false))) := a4;rw [a1, this];exact .inr ⟨rfl, rfl⟩
  ·rw [a1U h1];refine .inr ⟨rfl, ?_⟩;unfold okR at h1;by_cases c1 : e.At < 0
   ·rw [a1V c1]; rfl
   ·rw [a1U c1];by_cases c2 : (sp.length : Int) < e.At
    ·rw [a1V c2]; rfl
    ·rw [a1U c2];by_cases c3 : (e.Af.length : Int) < 1
     ·rw [a1V c3]; rfl
     ·rw [a1U c3, a1V (by omega)]; rfl
theorem rl6 (AH : List Bool) : ∀ (AG : List Bool) (k : Nat), AH.length < k -> AG.length + AH.length <= 3000000 -> nI (AG ++ AH) k AG.length = some (if AH.all id = true then .inl () else .inr false) := by
 induction AH with
 | nil =>
  intro AG k hk _;obtain _ | k := k
  ·omega
  rw [nI, a1U (by simp), a1V (by rfl)]
 | cons e AH ih =>
  intro AG k hk hB;obtain _ | k := k
  ·omega
  simp only [a0U] at hk hB;rw [nI, a1V (cD _ _ _), cI, bsm];cases e with
  | false =>
   rw [a1P, show (false :: AH).all id = false from rfl, a1U a0m]; rfl
  | true =>
   rw [a1Q, aU (by omega), bsm, cG AG AH true, bW AG true, ih (AG ++ [true]) k (by omega) (by simp; omega), show (true :: AH).all id = AH.all id from by simp]
theorem rdef_eq {AA : Nat} {d : AN} (hf : 3000000 <= AA) (hs : smD d) : vC AA d = some (okD d) := by
 obtain ⟨ch, sp, ru⟩ := d
 obtain ⟨s1, s2, s3, s4⟩ := hs
 dsimp only at s1 s2 s3 s4
 rw [vC]
 dsimp only
 have e1 := rl1 (sp := sp) (ru := ru) ch [] AA (by omega) (by simp; omega)
 have e2 := rl2 (ch := ch) (ru := ru) sp [] AA (by omega) (by simp; omega)
 have e3 := rl3 (ch := ch) (sp := sp) (AA := AA) ru [] AA (List.replicate ch.length false) (by omega) (by simp; omega) (by omega) s4 (by simp)
 simp only [a1k, a0W, a0q] at e1 e2 e3
 have hmk : mk false (ch.length : Int) = some (List.replicate ch.length false) := by unfold mk; rw [a1V (by omega)]; simp
 have hok : okD ⟨ch, sp, ru⟩ = (decide (ch.length <= 30 /\ sp.length <= 30 /\ ru.length <= 30) && ch.all (fR sp.length) && kM 0 sp && okU (iX ch sp.length ru (List.replicate ch.length false))) := rfl
 by_cases l1 : 30 < ch.length
 ·rw [a1V (by omega), hok, a1R (by omega)]; simp
 ·rw [a1U (by omega)];by_cases l2 : 30 < sp.length
  ·rw [a1V (by omega), hok, a1R (by omega)]; simp
  ·rw [a1U (by omega)];by_cases l3 : 30 < ru.length
   ·rw [a1V (by omega), hok, a1R (by omega)]; simp
   ·rw [a1U (by omega), e1, bsm, hok, a1S (by omega)];cases h1 : ch.all (fR sp.length) with
    | false => simp
    | true =>
     simp only [if_true, a0p];rw [e2, bsm];cases h2 : kM 0 sp with
     | false => simp
     | true =>
      simp only [if_true, a0p];rw [hmk, bsm];rcases e3 with ⟨u, a1, a2, a4⟩ | ⟨a1, a4⟩
      ·have h6 := rl6 u [] AA (by omega) (by simp; omega)
       simp only [a1k, a0W, a0q] at h6;rw [a4, bsm, a1];dsimp only
       rw [h6, bsm];have : okU (some u) = u.all id := rfl;rw [this];cases u.all id <;> simp
      ·rw [a4, bsm, a1]; simp [okU]
open Go.SX Go.SW Go.Dt
structure VS where
 sz : List Int
 AX : List Bool
 AY : List Bool
def shp (op : Int) : Option (Nat × Nat) :=
 if op = 1 \/ op = 7 then some (0, 0) else if op = 3 then some (2, 0) else if op = 2 then some (0, 1) else if op = 5 then some (2, 2) else if op = 6 \/ op = 8 then some (1, 3) else if op = 4 then some (1, 4) else none
def okM (p : AM) (s : VS) (x : Ae) (size : Int) : Nat -> Prop
 | 0 => x.N = 0 /\ x.Aa.length = 0
 | 1 => (0 <= x.N /\ x.N < size) /\ x.Aa.length <= 3
 | 2 => x.N = 0 /\ x.Aa.length = 1
 | 3 => (0 <= x.N /\ x.N < size) /\ x.Aa.length = 0
 | _ => (0 <= x.N /\ x.N < (p.AC.length : Int) /\ idx s.AY x.N = some false) /\ x.Aa.length = 0
def okN (p : AM) (s : VS) (x : Ae) (size : Int) : Prop := (∃ k c, shp x.Op = some (k, c) /\ x.AU.length = k /\ okM p s x size c) /\ x.Aa.all (okE size) = true
def own (d : AN) : Int := (d.AP.length : Int) + (d.AT.length : Int)
def brs (ch : List Ar) : List Int -> Int
 | [] => 0
 | c :: js => (match idx ch c with | some y => y.Ap | none => 0) + brs ch js
def dB (g : VS -> Int -> Int -> Option VS) : VS -> List (Int × Int) -> Option VS
 | s, [] => some s
 | s, x :: l => (g s x.1 x.2).bind fun s => dB g s l
open Classical in
noncomputable def vis (p : AM) : Nat -> VS -> Int -> Int -> Option VS
 | 0, _, _, _ => none
 | f + 1, s, n, size =>
  if 0 <= n /\ n < (p.AB.length : Int) /\ idx s.AX n = some false then
   (idx p.AB n).bind fun x =>
   if okN p s x size then
    if x.Op = 4 then
     (idx p.AC x.N).bind fun d =>
     if okD d = true then
      (dB (vis p f) ⟨s.sz.set n.toNat size, s.AX.set n.toNat true, s.AY.set x.N.toNat true⟩ (d.AS.map fun r => (r.Ab, size + own d + brs d.AP r.Af))).bind fun s1 =>
      (dB (vis p f) s1 (d.AT.map fun y => (y.Ab, size + own d))).bind fun s2 =>
      dB (vis p f) s2 (x.AU.map fun k => (k, size + own d))
     else none
    else dB (vis p f) ⟨s.sz.set n.toNat size, s.AX.set n.toNat true, s.AY⟩ (x.AU.map fun k => (k, size))
   else none
  else none
def unm (s : VS) : Nat := s.AX.countP (fun b => !b)
structure WS (p : AM) (s : VS) : Prop where
 sz : s.sz.length = p.AB.length
 AX : s.AX.length = p.AB.length
 AY : s.AY.length = p.AC.length
structure SmP (p : AM) : Prop where
 nodes : p.AB.length <= 2000000
 AZ : p.AC.length <= 2000000
 free : p.AD.length <= 2000000
 names : ∀ x ∈ p.AD, x.size <= 2000000
 args : ∀ x ∈ p.AB, x.Aa.length <= 2000000 /\ x.AU.length <= 2000000 /\ ∀ e ∈ x.Aa, nE e <= 2000000
 AY : ∀ d ∈ p.AC, smD d
theorem fJ {α : Type} {xs : List α} {i : Int} {y : α} (h : idx xs i = some y) : y ∈ xs := a1i (eD h)
theorem aCF {ch : List Ar} {a : Int} : ∀ (js AG : List Int) (u u' : List Bool), lB ch a AG js u = some u' -> ∀ c ∈ js, ∃ y, idx ch c = some y
 | [], _, _, _, _, c, h => by cases h
 | e :: js, AG, u, u', h, c, hc => by
  simp only [lB] at h;cases he : idx ch e with
  | none => rw [he] at h; cases h
  | some y =>
   rw [he] at h;dsimp only at h
   split at h
   ·cases hc with
    | head => exact ⟨y, he⟩
    | tail _ hc => exact aCF js _ _ _ h c hc
   ·cases h
theorem aEB {ch : List Ar} {n : Nat} : ∀ (rs : List Al) (u u' : List Bool), iX ch n rs u = some u' -> ∀ r ∈ rs, okR n r /\ ∀ c ∈ r.Af, ∃ y, idx ch c = some y
 | [], _, _, _, r, h => by cases h
 | e :: rs, u, u', h, r, hr => by
  simp only [iX] at h;split at h
  ·rename_i h1;obtain ⟨u1, h2, h3⟩ := bind_some h;cases hr with
   | head => exact ⟨h1, aCF _ _ _ _ h2⟩
   | tail _ hr => exact aEB rs _ _ h3 r hr
  ·cases h
theorem nO {d : AN} (h : okD d = true) : d.AP.length <= 30 /\ d.AT.length <= 30 /\ d.AS.length <= 30 /\ (∀ c ∈ d.AP, 0 <= c.Ap /\ c.Ap <= 3) /\ ∀ r ∈ d.AS, r.Af.length <= 3 /\ ∀ c ∈ r.Af, ∃ y, idx d.AP c = some y /\ 0 <= y.Ap /\ y.Ap <= 3 := by
 simp only [okD, a0j, a1T] at h
 obtain ⟨⟨⟨h1, h2⟩, h3⟩, h4⟩ := h
 have hm : ∀ c ∈ d.AP, 0 <= c.Ap /\ c.Ap <= 3 := fun c hc => by
  have := of_decide_eq_true (a0s.1 h2 c hc); exact ⟨this.2.2.1, this.2.2.2⟩
 refine ⟨h1.1, h1.2.1, h1.2.2, hm, fun r hr => ?_⟩
 cases hu : iX d.AP d.AT.length d.AS (List.replicate d.AP.length false) with
 | none => rw [hu] at h4; cases h4
 | some u =>
  obtain ⟨g1, g2⟩ := aEB _ _ _ hu r hr;exact ⟨g1.2.2.2, fun c hc => let ⟨y, hy⟩ := g2 c hc; ⟨y, hy, hm y (fJ hy)⟩⟩
theorem aAt {ch : List Ar} : ∀ {js : List Int}, (∀ c ∈ js, ∃ y, idx ch c = some y /\ 0 <= y.Ap /\ y.Ap <= 3) -> 0 <= brs ch js /\ brs ch js <= 3 * js.length
 | [], _ => by simp [brs]
 | c :: js, h => by
  obtain ⟨y, h1, h2, h3⟩ := h c (.head _);have := aAt (js := js) fun c hc => h c (.tail _ hc)
  simp only [brs, h1, a0U]; omega
theorem aGy {ch : List Ar} {sp : List As} {ru : List Al} {a nd : Int} (AH : List Int) : ∀ (AG : List Int) (k : Nat) (w : Int), AH.length < k -> AG.length + AH.length <= 1000 -> 0 <= w -> w <= 100000 -> (∀ c ∈ AH, ∃ y, idx ch c = some y /\ 0 <= y.Ap /\ y.Ap <= 3) -> w + 3 * AH.length <= 100000 ->
  nU ⟨ch, sp, ru⟩ ⟨a, AG ++ AH, nd⟩ k w AG.length = some (w + brs ch AH) := by
 induction AH with
 | nil =>
  intro AG k w hk _ _ _ _ _;obtain _ | k := k
  ·omega
  rw [nU, a1U (by simp)]; simp [brs]
 | cons e AH ih =>
  intro AG k w hk hB h0 h1 hm hw;obtain _ | k := k
  ·omega
  simp only [a0U] at hk hB hw;obtain ⟨y, g1, g2, g3⟩ := hm e (.head _);rw [nU, a1V (cD _ _ _)];dsimp only
  rw [cI, bsm, g1, bsm, aU (by omega), bsm, aU (by omega), bsm, cG AG AH e, bW AG e, ih (AG ++ [e]) k _ (by omega) (by simp; omega) (by omega) (by omega) (fun c hc => hm c (.tail _ hc)) (by omega)];simp only [brs, g1]; congr 1; omega
theorem aH4 {AA : Nat} {d : AN} {r : Al} (hf : 3000 <= AA) (h : okD d = true) (hr : r ∈ d.AS) : xL AA d r = some (brs d.AP r.Af) := by
 obtain ⟨_, _, _, _, h5⟩ := nO h
 obtain ⟨g1, g2⟩ := h5 r hr
 have := aGy (ch := d.AP) (sp := d.AT) (ru := d.AS) (a := r.At) (nd := r.Ab) r.Af [] AA 0 (by omega) (by simp; omega) (by omega) (by omega) g2 (by omega)
 simp only [a1k, a0W, a0q] at this
 rw [xL, this, bsm]; congr 1; omega
def kJ (p : AM) (o : Option VS) : Am ⊕ Value := match o with
 | some s => .inl ⟨p, s.sz, s.AX, s.AY⟩
 | none => .inr flaw
structure Vis (p : AM) (f : Nat) (rec : Am -> Int -> Int -> Option (Am ⊕ Value)) : Prop where
 run : ∀ (s : VS) (n z : Int), WS p s -> unm s <= f -> 0 <= z -> z + 80 * f <= 100000 -> rec ⟨p, s.sz, s.AX, s.AY⟩ n z = some (kJ p (vis p f s n z))
structure VisO (p : AM) (f : Nat) : Prop where
 out : ∀ (s : VS) (n z : Int) (s' : VS), WS p s -> unm s <= f -> vis p f s n z = some s' -> WS p s' /\ unm s' + 1 <= unm s
theorem mM {p : AM} {f : Nat} (h : VisO p f) : ∀ (l : List (Int × Int)) (s s' : VS), WS p s -> unm s <= f -> dB (vis p f) s l = some s' -> WS p s' /\ unm s' <= unm s
 | [], s, s', hs, _, e => by cases e; exact ⟨hs, a1y _⟩
 | x :: l, s, s', hs, hu, e => by
  obtain ⟨s1, e1, e2⟩ := bind_some e;obtain ⟨h1, h2⟩ := h.out _ _ _ _ hs hu e1;obtain ⟨h3, h4⟩ := mM h l s1 s' h1 (by omega) e2
  exact ⟨h3, by omega⟩
section
variable {p : AM} {f : Nat} {rec : Am -> Int -> Int -> Option (Am ⊕ Value)}
theorem ln4 (hv : Vis p f rec) (ho : VisO p f) {op nn : Int} {ar : List AW} {z : Int} (hz : 0 <= z /\ z + 80 * f <= 100000) (AH : List Int) : ∀ (AG : List Int) (k : Nat) (s : VS), AH.length < k -> AG.length + AH.length <= 3000000 -> WS p s -> unm s <= f ->
  lZ rec ⟨op, nn, ar, AG ++ AH⟩ z k AG.length p.AD p.AB p.AC p.AE s.sz s.AX s.AY = some (kJ p (dB (vis p f) s (AH.map fun k => (k, z)))) := by
 induction AH with
 | nil =>
  intro AG k s hk _ hs hu;obtain _ | k := k
  ·omega
  rw [lZ, a1U (by simp)]; rfl
 | cons e AH ih =>
  intro AG k s hk hB hs hu;obtain _ | k := k
  ·omega
  simp only [a0U] at hk hB;rw [lZ, a1V (cD _ _ _)];dsimp only
  rw [cI, bsm];have h1 := hv.run s e z hs hu hz.1 hz.2;rw [show (⟨⟨p.AD, p.AB, p.AC, p.AE⟩, s.sz, s.AX, s.AY⟩ : Am) = ⟨p, s.sz, s.AX, s.AY⟩ from rfl, h1, bsm];simp only [a1a, dB];cases hc : vis p f s e z with
  | none => rfl
  | some s1 =>
   obtain ⟨h2, h3⟩ := ho.out _ _ _ _ hs hu hc;simp only [kJ];rw [aU (by omega), bsm, cG AG AH e, bW AG e, bsm];exact ih (AG ++ [e]) k s1 (by omega) (by simp; omega) h2 (by omega)
theorem ln3 (hv : Vis p f rec) (ho : VisO p f) {ch : List Ar} {ru : List Al} {z : Int} (hz : 0 <= z /\ z + 80 * f <= 100000) (AH : List As) : ∀ (AG : List As) (k : Nat) (s : VS), AH.length < k -> AG.length + AH.length <= 3000000 -> WS p s -> unm s <= f ->
  lF rec ⟨ch, AG ++ AH, ru⟩ z k AG.length p.AD p.AB p.AC p.AE s.sz s.AX s.AY = some (match dB (vis p f) s (AH.map fun y => (y.Ab, z)) with
   | some s' => .inl (z, p.AD, p.AB, p.AC, p.AE, s'.sz, s'.AX, s'.AY)
   | none => .inr (.inr flaw)) := by
 induction AH with
 | nil =>
  intro AG k s hk _ hs hu;obtain _ | k := k
  ·omega
  rw [lF, a1U (by simp)]; rfl
 | cons e AH ih =>
  intro AG k s hk hB hs hu;obtain _ | k := k
  ·omega
  simp only [a0U] at hk hB;rw [lF, a1V (cD _ _ _)];dsimp only
  rw [cI, bsm];have h1 := hv.run s e.Ab z hs hu hz.1 hz.2;rw [show (⟨⟨p.AD, p.AB, p.AC, p.AE⟩, s.sz, s.AX, s.AY⟩ : Am) = ⟨p, s.sz, s.AX, s.AY⟩ from rfl, h1, bsm];simp only [a1a, dB];cases hc : vis p f s e.Ab z with
  | none => rfl
  | some s1 =>
   obtain ⟨h2, h3⟩ := ho.out _ _ _ _ hs hu hc;simp only [kJ];rw [aU (by omega), bsm, cG AG AH e, bW AG e, bsm];exact ih (AG ++ [e]) k s1 (by omega) (by simp; omega) h2 (by omega)
theorem ln2 (hv : Vis p f rec) (ho : VisO p f) {AA : Nat} {d : AN} (hd : okD d = true) (hf : 3000 <= AA) {z : Int} (hz : 0 <= z /\ z + 9 + 80 * f <= 100000) (AH : List Al) : ∀ (AG : List Al) (k : Nat) (s : VS), d.AS = AG ++ AH -> AH.length < k -> AG.length + AH.length <= 3000000 -> WS p s -> unm s <= f ->
  kZ AA rec d z k AG.length p.AD p.AB p.AC p.AE s.sz s.AX s.AY = some (match dB (vis p f) s (AH.map fun r => (r.Ab, z + brs d.AP r.Af)) with
   | some s' => .inl (p.AD, p.AB, p.AC, p.AE, s'.sz, s'.AX, s'.AY)
   | none => .inr (.inr (.inr flaw))) := by
 induction AH with
 | nil =>
  intro AG k s he hk _ hs hu;obtain _ | k := k
  ·omega
  rw [kZ, he, a1U (by simp)]; rfl
 | cons e AH ih =>
  intro AG k s he hk hB hs hu;obtain _ | k := k
  ·omega
  simp only [a0U] at hk hB;have hmem : e ∈ d.AS := by rw [he]; simp
  obtain ⟨_, _, _, _, h5⟩ := nO hd;obtain ⟨g1, g2⟩ := h5 e hmem;have hb := aAt g2;rw [kZ, he, a1V (cD _ _ _), <- he, show idx d.AS (AG.length : Int) = some e from by rw [he]; exact cI _ _ _, bsm,
   show (⟨e.At, e.Af, e.Ab⟩ : Al) = e from rfl, show (⟨d.AP, d.AT, d.AS⟩ : AN) = d from rfl, aH4 hf hd hmem, bsm, aU (by omega), bsm]
  have h1 := hv.run s e.Ab (z + brs d.AP e.Af) hs hu (by omega) (by omega)
  rw [show (⟨⟨p.AD, p.AB, p.AC, p.AE⟩, s.sz, s.AX, s.AY⟩ : Am) = ⟨p, s.sz, s.AX, s.AY⟩ from rfl, h1, bsm];simp only [a1a, dB];cases hc : vis p f s e.Ab (z + brs d.AP e.Af) with
  | none => rfl
  | some s1 =>
   obtain ⟨h2, h3⟩ := ho.out _ _ _ _ hs hu hc;simp only [kJ];rw [aU (by omega), bsm, bW AG e, bsm];exact ih (AG ++ [e]) k s1 (by rw [he]; simp) (by omega) (by simp; omega) h2 (by omega)
end
theorem ln1 {AA : Nat} (hf : 3000000 <= AA) {op nn : Int} {ks : List Int} {z : Int} (AH : List AW) : ∀ (AG : List AW) (k : Nat), AH.length < k -> AG.length + AH.length <= 3000000 -> (∀ e ∈ AH, nE e <= 2000000) ->
  lM AA z ⟨op, nn, AG ++ AH, ks⟩ k AG.length = some (if AH.all (okE z) = true then .inl () else .inr (.inr flaw)) := by
 induction AH with
 | nil =>
  intro AG k hk _ _;obtain _ | k := k
  ·omega
  rw [lM, a1U (by simp), a1V (by rfl)]
 | cons e AH ih =>
  intro AG k hk hB he;obtain _ | k := k
  ·omega
  simp only [a0U] at hk hB;have hn := he e (.head _);rw [lM, a1V (cD _ _ _), show (e :: AH).all (okE z) = (okE z e && AH.all (okE z)) from rfl];dsimp only
  rw [cI, bsm, pZ, exp_eq (by omega) (by omega), bsm];cases h1 : okE z e with
  | false => rfl
  | true =>
   rw [a0p, a1V rfl];dsimp only
   rw [aU (by omega), bsm, cG AG AH e, bW AG e];exact ih (AG ++ [e]) k (by omega) (by simp; omega) (fun x hx => he x (.tail _ hx))
open Go.SX Go.SW Go.Dt
theorem aAs {s : VS} {p : AM} {n : Int} {z : Int} {AY : List Bool} (h0 : 0 <= n) (hm : idx s.AX n = some false) : unm ⟨s.sz.set n.toNat z, s.AX.set n.toNat true, AY⟩ + 1 = unm s := by
 obtain ⟨j, rfl, hj, hlt⟩ := kU hm
 simp only [unm, a0r]
 rw [List.countP_set (h := hlt)]
 have hv : s.AX[j] = false := by
  have := a0H hlt; rw [hj] at this; exact (a1L this).symm
 have hpos : 0 < s.AX.countP (fun b => !b) := a0w.2 ⟨s.AX[j], a0S hlt, by rw [hv]; rfl⟩
 rw [hv]; simp; omega
theorem rL {p : AM} {s : VS} (h : WS p s) {i j : Nat} {z : Int} : WS p ⟨s.sz.set i z, s.AX.set i true, s.AY⟩ /\ WS p ⟨s.sz.set i z, s.AX.set i true, s.AY.set j true⟩ :=
 ⟨⟨by simp [h.sz], by simp [h.AX], h.AY⟩, ⟨by simp [h.sz], by simp [h.AX], by simp [h.AY]⟩⟩
theorem kV (p : AM) (f : Nat) : VisO p f := by
 induction f with
 | zero => exact ⟨fun s n z s' _ _ h => by simp [vis] at h⟩
 | succ f ih =>
  refine ⟨fun s n z s' hs hu h => ?_⟩
  simp only [vis] at h;split at h
  ·rename_i hc;obtain ⟨x, _, h⟩ := bind_some h;have hun := fun AY => aAs (p := p) (z := z) (AY := AY) hc.1 hc.2.2
   split at h
   ·split at h
    ·obtain ⟨d, _, h⟩ := bind_some h;split at h
     ·obtain ⟨s1, e1, h⟩ := bind_some h;obtain ⟨s2, e2, e3⟩ := bind_some h;have := hun (s.AY.set x.N.toNat true);obtain ⟨a1, a2⟩ := mM ih _ _ _ (rL hs).2 (by omega) e1
      obtain ⟨b1, b2⟩ := mM ih _ _ _ a1 (by omega) e2
      obtain ⟨c1, c2⟩ := mM ih _ _ _ b1 (by omega) e3
      exact ⟨c1, by omega⟩
     ·cases h
    ·have := hun s.AY;obtain ⟨a1, a2⟩ := mM ih _ _ _ (rL hs (j := 0)).1 (by omega) h
     exact ⟨a1, by omega⟩
   ·cases h
  ·cases h
def jV (AA : Nat) (a0 : Am) (a1 a2 : Int) (y7 : Ae) (x2 : Int) : Option (Am ⊕ Value) :=
 (bN (decide ((y7.Aa.length : Int) = x2))).bind fun y26 =>
 match y26 with
 | Sum.inr pv15 => some (Sum.inr pv15)
 | Sum.inl _ =>
 (lM AA a2 y7 AA 0).bind fun o => match o with
 | Sum.inr r => some r
 | Sum.inl _ =>
 (if y7.Op = 4 then
  (idx a0.AZ y7.N).bind fun _ =>
  (idx a0.p.AC y7.N).bind fun y30 =>
  (tF AA (⟨y30.AP, y30.AT, y30.AS⟩ : AN)).bind fun y31 =>
  match y31 with
  | Sum.inr pv17 => (some (Sum.inr pv17)).bind fun r => some (Sum.inr r)
  | Sum.inl _ =>
  (sI (⟨y30.AP, y30.AT, y30.AS⟩ : AN)).bind fun y32 =>
  (chk (a2 + y32)).bind fun z2 =>
  (kZ AA (eZ AA) y30 z2 AA 0 a0.p.AD a0.p.AB a0.p.AC a0.p.AE (a0.AV.set a1.toNat a2) (a0.AX.set a1.toNat true) (a0.AZ.set y7.N.toNat true)).bind fun o => match o with
  | Sum.inr r => some r
  | Sum.inl (x17, x18, x19, x20, x21, x22, x23) =>
  lF (eZ AA) y30 z2 AA 0 x17 x18 x19 x20 x21 x22 x23
 else
  some (Sum.inl (a2, a0.p.AD, a0.p.AB, a0.p.AC, a0.p.AE, a0.AV.set a1.toNat a2, a0.AX.set a1.toNat true, a0.AZ))).bind fun o => match o with
 | Sum.inr r => some r
 | Sum.inl (x9, x10, x11, x12, x13, x14, x15, x16) =>
 lZ (eZ AA) y7 x9 AA 0 x10 x11 x12 x13 x14 x15 x16
theorem own_eq {d : AN} (h : d.AP.length <= 2000000) (h2 : d.AT.length <= 2000000) : sI d = some (own d) := by
 rw [sI, aU (by omega), bsm]; rfl
section
variable {p : AM} {f m : Nat}
noncomputable def rest (p : AM) (f : Nat) (s : VS) (n z : Int) (x : Ae) : Option VS :=
 if x.Op = 4 then
  (idx p.AC x.N).bind fun d =>
  if okD d = true then
   (dB (vis p f) ⟨s.sz.set n.toNat z, s.AX.set n.toNat true, s.AY.set x.N.toNat true⟩ (d.AS.map fun r => (r.Ab, z + own d + brs d.AP r.Af))).bind fun s1 =>
   (dB (vis p f) s1 (d.AT.map fun y => (y.Ab, z + own d))).bind fun s2 =>
   dB (vis p f) s2 (x.AU.map fun k => (k, z + own d))
  else none
 else dB (vis p f) ⟨s.sz.set n.toNat z, s.AX.set n.toNat true, s.AY⟩ (x.AU.map fun k => (k, z))
theorem tail_bad {a0 : Am} {n z : Int} {x : Ae} {x2 : Int} (h : ¬ (x.Aa.length : Int) = x2) : jV m a0 n z x x2 = some (.inr flaw) := by
 rw [jV, a1R h, cX]; rfl
theorem tail_eq (hp : SmP p) (hm : 3000000 <= m) (hv : Vis p f (eZ m)) {s : VS} (hs : WS p s) {n z : Int} {x : Ae} (hx : x ∈ p.AB) (hun : ∀ AY, unm ⟨s.sz.set n.toNat z, s.AX.set n.toNat true, AY⟩ <= f) (hz : 0 <= z /\ z + 69 + 80 * f <= 100000)
  (hN : x.Op = 4 -> 0 <= x.N /\ x.N < (p.AC.length : Int)) {x2 : Int} (h2 : (x.Aa.length : Int) = x2) :
  jV m ⟨p, s.sz, s.AX, s.AY⟩ n z x x2 = some (kJ p (if x.Aa.all (okE z) = true then rest p f s n z x else none)) := by
 obtain ⟨op, nn, ar, ks⟩ := x
 obtain ⟨g1, g2, g3⟩ := hp.args _ hx
 dsimp only at g1 g2 g3 h2 hN
 have ho := kV p f
 rw [jV, a1S h2, eU, bsm]
 dsimp only
 have e1 := ln1 (AA := m) hm (op := op) (nn := nn) (ks := ks) (z := z) ar [] m (by omega) (by simp; omega) g3
 simp only [a1k, a0W, a0q] at e1
 rw [e1, bsm]
 cases hall : ar.all (okE z) with
 | false => rfl
 | true =>
  rw [a1V rfl, a1V rfl];dsimp only
  by_cases h4 : op = 4
  ·subst h4;obtain ⟨n0, n1⟩ := hN rfl;obtain ⟨d, hd⟩ := iB n0 n1;obtain ⟨b, hb⟩ := iB (xs := s.AY) n0 (by rw [hs.AY]; exact n1)
   have hsm := hp.AY d (fJ hd);have hres : rest p f s n z ⟨4, nn, ar, ks⟩ = if okD d = true then
     (dB (vis p f) ⟨s.sz.set n.toNat z, s.AX.set n.toNat true, s.AY.set nn.toNat true⟩ (d.AS.map fun r => (r.Ab, z + own d + brs d.AP r.Af))).bind fun s1 =>
     (dB (vis p f) s1 (d.AT.map fun y => (y.Ab, z + own d))).bind fun s2 => dB (vis p f) s2 (ks.map fun k => (k, z + own d))
     else none := by
    rw [rest, a1V rfl]; dsimp only; rw [hd, bsm]
   rw [hres, a1V rfl, hb, bsm, hd, bsm, show (⟨d.AP, d.AT, d.AS⟩ : AN) = d from rfl, def_eq hm hsm, bsm];cases hok : okD d with
   | false => rfl
   | true =>
    rw [a1V rfl, a1V rfl];dsimp only
    obtain ⟨k1, k2, k3, _, _⟩ := nO hok;have hown : 0 <= own d /\ own d <= 60 := by unfold own; omega
    rw [own_eq (by omega) (by omega), bsm, aU (by omega), bsm];have e2 := ln2 hv ho (AA := m) hok (by omega) (z := z + own d) ⟨by omega, by omega⟩ d.AS [] m ⟨s.sz.set n.toNat z, s.AX.set n.toNat true, s.AY.set nn.toNat true⟩ rfl (by omega) (by simp; omega) (rL hs).2 (hun _)
    simp only [a0W, a0q] at e2;rw [e2, bsm];cases c2 : dB (vis p f) ⟨s.sz.set n.toNat z, s.AX.set n.toNat true, s.AY.set nn.toNat true⟩ (d.AS.map fun r => (r.Ab, z + own d + brs d.AP r.Af)) with
    | none => rfl
    | some s1 =>
     obtain ⟨w1, u1⟩ := mM ho _ _ _ (rL hs).2 (hun _) c2;have hu1 := hun (s.AY.set nn.toNat true);dsimp only
     rw [bsm];have e3 := ln3 hv ho (ch := d.AP) (ru := d.AS) (z := z + own d) ⟨by omega, by omega⟩ d.AT [] m s1 (by omega) (by simp; omega) w1 (by omega)
     simp only [a1k, a0W, a0q] at e3;rw [show (⟨d.AP, d.AT, d.AS⟩ : AN) = d from rfl] at e3;rw [e3, bsm];cases c3 : dB (vis p f) s1 (d.AT.map fun y => (y.Ab, z + own d)) with
     | none => rfl
     | some s2 =>
      obtain ⟨w2, u2⟩ := mM ho _ _ _ w1 (by omega) c3
      dsimp only
      rw [bsm];have e4 := ln4 hv ho (op := 4) (nn := nn) (ar := ar) (z := z + own d) ⟨by omega, by omega⟩ ks [] m s2 (by omega) (by simp; omega) w2 (by omega)
      simp only [a1k, a0W, a0q] at e4;exact e4
  ·rw [a1U h4, bsm];dsimp only
   have hres : rest p f s n z ⟨op, nn, ar, ks⟩ = dB (vis p f) ⟨s.sz.set n.toNat z, s.AX.set n.toNat true, s.AY⟩ (ks.map fun k => (k, z)) := by
    rw [rest, a1U h4]
   rw [hres];have e4 := ln4 hv ho (op := op) (nn := nn) (ar := ar) (z := z) ⟨by omega, by omega⟩ ks [] m ⟨s.sz.set n.toNat z, s.AX.set n.toNat true, s.AY⟩ (by omega) (by simp; omega) (rL hs (j := 0)).1 (hun _)
   simp only [a1k, a0W, a0q] at e4;exact e4
theorem aEX {s : VS} (hs : WS p s) {n z : Int} (h : ¬ (0 <= n /\ n < (p.AB.length : Int) /\ idx s.AX n = some false)) : eZ (m + 1) ⟨p, s.sz, s.AX, s.AY⟩ n z = some (.inr flaw) := by
 rw [eZ]
 by_cases h0 : 0 <= n
 ·rw [a1V h0];by_cases h1 : n < (p.AB.length : Int)
  ·obtain ⟨b, hb⟩ := iB (xs := s.AX) h0 (by rw [hs.AX]; exact h1)
   dsimp only
   rw [a1V h1, hb, bsm];cases b with
   | false => exact absurd ⟨h0, h1, hb⟩ h
   | true => rfl
  ·dsimp only
   rw [a1U h1, cX]; rfl
 ·rw [a1U h0, cX]; rfl
end
end Go.Proofs.YtpgkejpnhnoipaaGreat
