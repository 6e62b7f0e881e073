/- Parts of the proof: lemmas, and the steps through the program. -/
import Derived.Test.YtihpdjpbhinckaaGreatCk0
import Derived.Laws.MakeOwn
import Derived.Great.BuildSlice
import Derived.Laws.Append
import Derived.Lib.Builder
import Derived.Lib.UnsafeStr
import Derived.Laws.Externs
import Derived.RangeFuncLeaves
import Derived.RangeFuncRecord
import Derived.RecoverIn
import Derived.RangeFuncNested
import Derived.LoopNIn
import Derived.OrdersIn
set_option linter.unusedVariables false
set_option linter.unusedSimpArgs false
set_option maxRecDepth 100000
set_option maxHeartbeats 2000000
namespace Go.BX
open RowKit (Below)
noncomputable section
section
variable {P : Program} {o : Oper} {a : Act} {w : World} {g : G} {ρ : Rho} {r : O × S} {kv : KV} {kp : List PE → Prog} {kd : Df → Prog} {e : Tr V} {n : Nat} {h : Tr Blk} {nx : Nat} {lg : List Fp} {ex : Ex}
structure RowT (P : Program) (ρ : Rho) (t el es : Nat) (z : List V) (i : TypeInfo) (zv : Value) : Prop where
 und : P.underlying t = some (.slice el)
 info : P.info? el = some i
 zero : i.zero = some zv
 size : i.size = es
 small : es ≤ 1048576
 bytes : i.bytes ≤ 1048576
 zc : cells ρ z zv.cells.toList
 zl : z.length = es
theorem bB {a b : Bool} (h : Bool.and a b = true) : a = true ∧ b = true := by grind
theorem iC {t : Nat} {q : Nat × Nat × List V} (ρ : Rho) (hq : eL P t = some q) : ∃ i zv, RowT P ρ t q.1 q.2.1 q.2.2 i zv := by
 unfold eL at hq
 split at hq
 ·rename_i el hel
  split at hq
  ·rename_i i hi
   split at hq
   ·rename_i z hz
    split at hq
    ·rename_i c hc
     split at hq
     ·rename_i hb
      cases hq
      obtain ⟨b1, b2⟩ := bB hb
      obtain ⟨b2, b3⟩ := bB b2
      have b1 := Nat.eq_of_beq_eq_true b1
      rw [ln0] at b1
      obtain ⟨i', zv, h1, h2, h3⟩ := zer_tv ρ hz
      rw [dL hi] at h1; cases h1
      exact ⟨i, zv, nF hel, dL hi, h2, rfl, Nat.le_of_ble_eq_true b2, Nat.le_of_ble_eq_true b3, fH hc h3, b1⟩
     ·cases hq
    ·cases hq
   ·cases hq
  ·cases hq
 ·cases hq
theorem gH {z : List V} {zv : Array Value} (hz : cells ρ z zv.toList) : ∀ k, cells ρ (rep z k) (madeCells zv (k * z.length)).toList
 | 0 => by rw [Nat.zero_mul]; have : (madeCells zv 0).toList = [] := by simp [madeCells]
           rw [this]; exact cells.nil
 | k + 1 => by
  have hl := hz.len
  have e : (madeCells zv ((k + 1) * z.length)).toList = (madeCells zv (k * z.length)).toList ++ zv.toList := by
   rw [← hl]
   apply List.ext_getElem
   ·simp [madeCells, Nat.add_mul]
   ·intro i h1 h2
    by_cases hi : i < k * zv.toList.length
    ·grind [madeCells]
    ·have hlt : i < (k + 1) * zv.toList.length := by simpa [madeCells] using h1
     rw [Nat.add_mul, Nat.one_mul] at hlt
     rw [List.getElem_append_right (by grind [madeCells])]
     have hmod : i % zv.toList.length = i - k * zv.toList.length := by
      have h3 : i = (i - k * zv.toList.length) + zv.toList.length * k := by grind
      conv => lhs; rw [h3]
      rw [Nat.add_mul_mod_self_left, Nat.mod_eq_of_lt (by omega)]
     have hin : i - k * zv.toList.length < zv.toList.length := by omega
     grind [madeCells]
  have e2 : rep z (k + 1) = rep z k ++ z := by rw [kU, kU, List.replicate_succ', List.flatten_concat]
  rw [e, e2]
  exact (gH hz k).app hz
theorem cZ {b off len cap x κ : Nat} (h : ρ b = some (x, κ)) : tv ρ (.sl b off len cap) = some (.slice (some ⟨x, off, none⟩) len cap) := by simp [tv, h]
theorem s_buildS {t len : Nat} {ps : Array (Nat × Operand)} (ho : o.op = .buildSlice t len ps) (he : aB ρ e n a.tmps) (hi : r.2.nx ≤ g.hi) (R : Rel g ρ h nx w) (q : run (fM t len ps P ex e kv kp kd) h nx lg = some r) : OkV P o a w g ρ r kv := by
 obtain ⟨vs, h1, q1⟩ := bK q
 obtain ⟨p, hp, q2⟩ := aA q1
 obtain ⟨hb, q3⟩ := aG q2
 obtain ⟨c, hf, q4⟩ := aA q3
 obtain ⟨i, zv, RT⟩ := iC ρ hp
 have hb : len * p.2.1 ≤ 1048576 := Nat.le_of_ble_eq_true hb
 have hz := gH (ρ := ρ) RT.zc len
 rw [RT.zl] at hz
 obtain ⟨l', g1, g2⟩ := eP (place := fun i => some (i * p.2.1, p.2.1)) (fun i q hq => hq) hf (bH he h1) hz
 obtain ⟨b, ρ', h', nx', lg', g3, g4, g5, ⟨κ, g6⟩, q5⟩ := iE (P := P) R g2 hi q4
 refine ⟨.sl b 0 len len, .slice (some ⟨w.heap.size, 0, none⟩) len len, ρ', h', nx', lg', _, .inl ?_, g4, g5, cZ g6, q5⟩
 have hmap : (ps.map fun (y : Nat × Operand) => (y.1, a.eval y.2)).toList = ps.toList.map fun p => (p.1, a.eval p.2) := by simp
 have hr : (Instr.buildSlice t len (ps.map fun (y : Nat × Operand) => (y.1, a.eval y.2))).run P w = .ok (.slice (some ⟨w.heap.size, 0, none⟩) len len) (w.alloc (.cells ⟨l'⟩ p.1)) := by
  by_cases h0 : len * i.size = 0
  ·have e0 : (⟨(madeCells zv.cells (len * p.2.1)).toList⟩ : Array Value) = #[] := by rw [← RT.size, h0]; simp [madeCells]
   rw [e0] at g1
   rw [← RT.size] at g1
   have h7 : ¬ len * i.size > 2 ^ 24 := by rw [RT.size]; omega
   simp only [Instr.buildSlice, Sem.run_bind, SX.run_underlying RT.und, SX.run_sizeOf RT.info, Result.andThen_ok, if_neg h7, h0, if_true]
   have h8 : Array.range 0 = #[] := rfl
   rw [hmap]
   simp [Sem.run_bind, Sem.run, Pure.pure, g1, newRow, newObj, h8]
  ·rw [run_buildSlice (P := P) w t p.1 len _ ⟨l'⟩ i zv RT.und RT.info RT.zero (by rw [RT.size]; omega) h0 (by rw [hmap, RT.size]; exact g1)]
 simp only [execOp, ho, Sem.run_bind]
 rw [hr]; simp [Sem.run, Pure.pure]
theorem s_mks {t : Nat} {x y : Operand} (ho : o.op = .makeSlice t x y) (he : aB ρ e n a.tmps) (hi : r.2.nx ≤ g.hi) (R : Rel g ρ h nx w) (q : run (hMks t x y P ex e kv kp kd) h nx lg = some r) : OkV P o a w g ρ r kv := by
 obtain ⟨u, v, h1, h2, q1⟩ := dX q
 obtain ⟨p, hp, q2⟩ := aA q1
 obtain ⟨l, hl, q3⟩ := aA q2
 obtain ⟨c, hc, q4⟩ := aA q3
 obtain ⟨hb, q5⟩ := aG q4
 obtain ⟨i, zv, RT⟩ := iC ρ hp
 obtain ⟨b1, b2⟩ := bB hb
 have b1 : l ≤ c := Nat.le_of_ble_eq_true b1
 have b2 : c ≤ 1048576 := Nat.le_of_ble_eq_true b2
 obtain ⟨k1, rfl⟩ := fJ hl
 obtain ⟨k2, rfl⟩ := fJ hc
 have hx := eC (aH he h1)
 have hy := eC (aH he h2)
 have hz := gH (ρ := ρ) RT.zc c
 rw [RT.zl] at hz
 obtain ⟨b, ρ', h', nx', lg', g3, g4, g5, ⟨κ, g6⟩, q6⟩ := iE (P := P) R hz hi q5
 have hby : (i.bytes : Int) * (c : Int) ≤ 281474976710656 := by
  have h3 : i.bytes * c ≤ 1048576 * 1048576 := Nat.mul_le_mul RT.bytes b2
  omega
 have hr := run_make (P := P) w t p.1 i zv RT.und RT.info RT.zero k1 k2 (l : Int) (c : Int) (by omega) (by omega) hby (by omega)
 simp only [Int.toNat_natCast, RT.size] at hr
 refine ⟨.sl b 0 l c, .slice (some ⟨w.heap.size, 0, none⟩) l c, ρ', h', nx', lg', _, .inl ?_, g4, g5, cZ g6, q6⟩
 simp_all [execOp]
theorem cP {c : Call} {b : Builtin} {x : Value} {w' : World} (ho : o.op = .call c) (hc : c.callee = .builtin b) (h1 : ∀ (T : Array Bool), (builtin b c.argTypes o.type T (c.args.map a.eval)).run P w = .ok (.value x) w') :
 (execOp a.eval o).run P w = .ok (.value x) w' := by
 unfold execOp resolve
 rw [ho]
 simp only [hc]
 show ((Sem.pure _ : Sem Deferred).bind _).run P w = _
 exact h1 _
theorem dT {c : Call} {vs : List Value} (h : c.args.toList.map a.eval = vs) : c.args.map a.eval = vs.toArray := by
 grind
theorem oC {v : V} {x : Value} {m : Nat} (hv : tv ρ v = some x) (h : cO v = some m) : ∃ k, x = .int k (m : Int) := by
 grind [fJ, tv]
theorem s_cap {c : Call} (ho : o.op = .call c) (hc : c.callee = .builtin .cap) (he : aB ρ e n a.tmps) (R : Rel g ρ h nx w) (q : run (hCap c P ex e kv kp kd) h nx lg = some r) : OkV P o a w g ρ r kv := by
 obtain ⟨vs, h1, q1⟩ := bK q
 have hvs := bH he h1
 split at q1
 ·rename_i T ts v us hT
  obtain ⟨x, xs, g1, g2, g3⟩ := aN.1 hvs
  have hargs := dT g3
  have hT' : c.argTypes[0]? = some T := by rw [← Array.getElem?_toList, hT]; rfl
  have fin : ∀ {k : Int} {lg'}, (Builtin.cap_ c.argTypes o.type (x :: xs).toArray).run P w = .ok (.int .i64 k) w → run (kv (bC k)) h nx lg' = some r → OkV P o a w g ρ r kv := fun hr q2 =>
   .pure R (cP ho hc (by simp_all [builtin])) rfl q2
  split at q1
  ·rename_i el hu
   have hU := SX.run_underlying (aJ hu) w
   rcases cG q1 with ⟨b, off, len, cap, rfl, q2⟩ | ⟨b, off, len, es, rfl, q2⟩ | ⟨rfl, q2⟩ | q2
   ·obtain ⟨y, _, rfl⟩ := bX g1
    exact fin (by simp [Builtin.cap_, hT', Sem.run_bind, hU, goInt, Sem.run, Pure.pure]) q2
   ·cases q2
   ·cases g1
    exact fin (by simp [Builtin.cap_, hT', Sem.run_bind, hU, goInt, Sem.run, Pure.pure]) q2
   ·cases q2
  ·cases q1
 ·cases q1
theorem s_len {c : Call} (ho : o.op = .call c) (hc : c.callee = .builtin .len) (he : aB ρ e n a.tmps) (R : Rel g ρ h nx w) (q : run (hLen c P ex e kv kp kd) h nx lg = some r) : OkV P o a w g ρ r kv := by
 obtain ⟨vs, h1, q1⟩ := bK q
 have hvs := bH he h1
 split at q1
 ·rename_i T ts v us hT
  obtain ⟨x, xs, g1, g2, g3⟩ := aN.1 hvs
  have hargs := dT g3
  have hT' : c.argTypes[0]? = some T := by rw [← Array.getElem?_toList, hT]; rfl
  have fin : ∀ {k : Int} {lg'}, (Builtin.len_ c.argTypes o.type (x :: xs).toArray).run P w = .ok (.int .i64 k) w → run (kv (bC k)) h nx lg' = some r → OkV P o a w g ρ r kv := fun hr q2 =>
   .pure R (cP ho hc (by simp_all [builtin])) rfl q2
  split at q1
  ·rename_i el hu
   have hU := SX.run_underlying (aJ hu) w
   rcases cG q1 with ⟨b, off, len, cap, rfl, q2⟩ | ⟨b, off, len, es, rfl, q2⟩ | ⟨rfl, q2⟩ | q2
   ·obtain ⟨y, _, rfl⟩ := bX g1
    exact fin (by simp [Builtin.len_, hT', Sem.run_bind, hU, goInt, Sem.run, Pure.pure]) q2
   ·obtain ⟨y, _, rfl⟩ := cD g1
    exact fin (by simp [Builtin.len_, hT', Sem.run_bind, hU, goInt, Sem.run, Pure.pure]) q2
   ·cases g1
    exact fin (by simp [Builtin.len_, hT', Sem.run_bind, hU, goInt, Sem.run, Pure.pure]) q2
   ·rcases mJ q2 with ⟨b, off, l, es1, rfl, q2⟩ | q2
    ·obtain ⟨y, base, c, hb, rfl⟩ := tv_se g1
     exact fin (by simp [Builtin.len_, hT', Sem.run_bind, hU, goInt, Sem.run, Pure.pure]) q2
    ·cases q2
  ·rename_i hu
   have hU := SX.run_underlying (aJ hu) w
   rcases jT q1 with ⟨s, rfl, q2⟩ | q2
   ·cases g1
    exact fin (by simp [Builtin.len_, hT', Sem.run_bind, hU, goInt, Sem.run, Pure.pure]) q2
   ·cases q2
  ·rename_i kt el hu
   have hU := SX.run_underlying (aJ hu) w
   rcases iR q1 with ⟨b, rfl, q2⟩ | ⟨rfl, q2⟩
   ·rw [bZ] at q2
    obtain ⟨ob, h1', n1, l, e1, q3⟩ := aI q2
    obtain ⟨y, o', k1, k2, k3, _, rfl, rfl⟩ := cH R e1
    cases ob with
    | map es ck =>
     cases o' <;> first
      | exact k3.elim
      | skip
     rename_i ms ck'
     simp only [tv, k1, Option.map_some, Option.some.injEq] at g1
     subst g1
     have hlen : ms.size = es.length := by
      have : ∀ {es : List Ent} {ms : List MapEntry}, bT ρ es ms → ms.length = es.length := fun {es} => by
       induction es with
       | nil => intro ms hm; cases ms with
        | nil => rfl
        | cons => exact hm.elim
       | cons e es ih => intro ms hm; cases ms with
        | nil => exact hm.elim
        | cons m ms => simp [ih hm.2]
      simpa using this k3.2
     have q4 : run (kv (bC (.ofNat (ln es 0)))) h1' n1 (l ++ lg) = some r := q3
     rw [ln0] at q4
     exact fin (by simp [Builtin.len_, hT', Sem.run_bind, hU, getObj, k2, hlen, goInt, Sem.run, Pure.pure]) q4
    | loop => cases q3
    | dfr => cases q3
   ·cases g1
    exact fin (by simp [Builtin.len_, hT', Sem.run_bind, hU, goInt, Sem.run, Pure.pure]) q2
  ·rename_i m el hu
   have hU := SX.run_underlying (aJ hu) w
   exact fin (by simp [Builtin.len_, hT', Sem.run_bind, hU, goInt, Sem.run, Pure.pure]) q1
  ·cases q1
 ·cases q1
theorem s_mm {least : Bool} {c : Call} (ho : o.op = .call c) (hc : c.callee = .builtin (if least then .min else .max)) (he : aB ρ e n a.tmps) (R : Rel g ρ h nx w) (q : run (hMm least c P ex e kv kp kd) h nx lg = some r) : OkV P o a w g ρ r kv := by
 obtain ⟨vs, h1, q1⟩ := bK q
 have hvs := bH he h1
 split at q1
 ·rename_i i j
  obtain ⟨x, xs, g1, g2, g3⟩ := aN.1 hvs
  obtain ⟨y, ys, g4, g5, rfl⟩ := aN.1 g2
  cases cM.1 g5
  cases g1; cases g4
  have hargs := dT g3
  cases least with
  | true =>
   rcases bD (b := true) q1 with ⟨_, q2⟩ | ⟨hh, _⟩
   ·rcases bD q2 with ⟨hl, q3⟩ | ⟨hl, q3⟩ <;> rw [eJ] at hl <;>
     exact .pure R (cP ho hc fun _ => by rw [hargs]; simp at hl; simp [builtin, Builtin.min_, Builtin.min2, Sem.run_bind, hl, Int.not_lt.2, Sem.run, Pure.pure]) rfl q3
   ·cases hh
  | false =>
   rcases bD (b := false) q1 with ⟨hh, _⟩ | ⟨_, q2⟩
   ·cases hh
   ·rcases bD q2 with ⟨hl, q3⟩ | ⟨hl, q3⟩ <;> rw [eJ] at hl <;>
     exact .pure R (cP ho hc fun _ => by rw [hargs]; simp at hl; simp [builtin, Builtin.max_, Builtin.max2, Sem.run_bind, hl, Int.not_lt.2, Sem.run, Pure.pure]) rfl q3
 ·cases q1
end
end
open RowKit (Below)
noncomputable section
section
variable {P : Program} {o : Oper} {a : Act} {w : World} {g : G} {ρ : Rho} {r : O × S} {kv : KV} {kp : List PE → Prog} {kd : Df → Prog} {e : Tr V} {n : Nat} {h : Tr Blk} {nx : Nat} {lg : List Fp} {ex : Ex}
theorem ba_eq {s t : ByteArray} (h : (s == t) = true) : s = t := by
 have : ByteArray.beq s t = true := h
 unfold ByteArray.beq at this
 cases s; cases t
 simp at this
 simp [this]
def KeyK (d : TypeDesc) (v : V) (x : Value) : Prop := (∃ k k' i, d = .int k ∧ v = .int k' i ∧ x = .int k' i) ∨ (∃ s, d = .string ∧ v = .str s ∧ x = .string s)
theorem nN {kt : Nat} {b : Bool} {v : V} {x : Value} (hk : isKey P kt = some b) (hv : keyOk b v = true) (hx : tv ρ v = some x) : ∃ d, P.underlying kt = some d ∧ KeyK d v x := by
 unfold isKey at hk
 split at hk
 ·rename_i k hu
  cases hk
  cases v <;> first
   | (cases hv; done)
   | skip
  cases hx
  exact ⟨_, aJ hu, (by grind [KeyK])⟩
 ·rename_i hu
  cases hk
  cases v <;> first
   | (cases hv; done)
   | skip
  cases hx
  exact ⟨_, aJ hu, .inr ⟨_, rfl, rfl, rfl⟩⟩
 ·cases hk
theorem mL {d : TypeDesc} {v v' : V} {x x' : Value} {b : Bool} (hk : KeyK d v x) (h : eD v v' = some b) (hx' : tv ρ v' = some x') : Instr.sameNow d x x' = some b ∧ (b = true → Instr.sameBits 10000 x' x = true) := by
 have beqi : ∀ (i j : Int), eqI i j = (i == j) := by grind [jW]
 rcases hk with ⟨k, k', i, rfl, rfl, rfl⟩ | ⟨s, rfl, rfl, rfl⟩
 ·cases v' <;> first
   | (cases k' <;> cases h; done)
   | skip
  rename_i k2 j
  cases hx'
  cases k' <;> cases k2 <;> first
   | (cases h; done)
   | (simp only [eD, Option.some.injEq] at h
      subst h
      refine ⟨by simp [Instr.sameNow, beqi], fun hb => ?_⟩
      grind [Instr.sameBits])
 ·cases v' <;> first
   | (cases h; done)
   | skip
  rename_i s'
  cases hx'
  grind [Instr.sameNow, Instr.sameBits, ba_eq, eD]
theorem nV {d : TypeDesc} {v : V} {x : Value} (hk : KeyK d v x) : ∀ {es : List Ent} {ms : List MapEntry} {rr : Option V} (i : Nat), bT ρ es ms → fE v es = some rr →
 (rr = none ∧ Instr.findNow d x ms i = some none) ∨ ∃ u y j, rr = some u ∧ tv ρ u = some y ∧ Instr.findNow d x ms i = some (some (j, y))
 | [], [], rr, i, _, hf => by cases hf; exact .inl ⟨rfl, rfl⟩
 | [], _ :: _, _, _, hr, _ => hr.elim
 | _ :: _, [], _, _, hr, _ => hr.elim
 | e :: es, m :: ms, rr, i, hr, hf => by
  obtain ⟨⟨h1, h2, h3⟩, h4⟩ := hr
  simp only [fE] at hf
  cases hq : eD v e.key with
  | none => rw [hq] at hf; cases hf
  | some b =>
   rw [hq] at hf
   obtain ⟨h5, _⟩ := mL hk hq h1
   cases b with
   | true => grind [Instr.findNow]
   | false =>
    rcases nV hk (i + 1) h4 hf with ⟨h6, h7⟩ | ⟨u, y, j, h6, h7, h8⟩
    ·grind [Instr.findNow]
    grind [Instr.findNow]
theorem nI {d : TypeDesc} {v u : V} {x y : Value} {c : Nat} (hk : KeyK d v x) (hv : tv ρ v = some x) (hu : tv ρ u = some y) : ∀ {es : List Ent} {ms : List MapEntry} {q : List Ent × Nat} (i : Nat), bT ρ es ms → setE v u c es = some q →
 (∃ j m, Instr.findNow d x ms i = some (some (i + j, m.val)) ∧ ms[j]? = some m ∧ Instr.sameBits 10000 m.key x = true ∧ q.2 = c ∧ bT ρ q.1 (ms.modify j fun e => { e with key := x, val := y })) ∨
 (Instr.findNow d x ms i = some none ∧ q.2 = c + 1 ∧ bT ρ q.1 (ms ++ [{ key := x, val := y, born := c }]))
 | [], [], q, i, _, hf => by cases hf; exact .inr ⟨rfl, rfl, ⟨hv, hu, rfl⟩, trivial⟩
 | [], _ :: _, _, _, hr, _ => hr.elim
 | _ :: _, [], _, _, hr, _ => hr.elim
 | e :: es, m :: ms, q, i, hr, hf => by
  obtain ⟨⟨h1, h2, h3⟩, h4⟩ := hr
  simp only [setE] at hf
  cases hq : eD v e.key with
  | none => rw [hq] at hf; cases hf
  | some b =>
   rw [hq] at hf
   obtain ⟨h5, h6⟩ := mL hk hq h1
   cases b with
   | true =>
    cases hf
    exact .inl ⟨0, m, by simp [Instr.findNow, h5], rfl, h6 rfl, rfl, ⟨hv, hu, h3⟩, h4⟩
   | false =>
    simp only at hf
    cases hs : setE v u c es with
    | none => rw [hs] at hf; cases hf
    | some q' =>
     rw [hs] at hf
     cases hf
     rcases nI hk hv hu (i + 1) h4 hs with ⟨j, m', g1, g2, g3, g4, g5⟩ | ⟨g1, g2, g3⟩
     ·exact .inl ⟨j + 1, m', by grind [Instr.findNow], by simpa using g2, g3, g4, by rw [List.modify_succ_cons]; exact ⟨⟨h1, h2, h3⟩, g5⟩⟩
     ·exact .inr ⟨by simp [Instr.findNow, h5, g1], g2, ⟨h1, h2, h3⟩, g3⟩
theorem oB {t : Nat} {q : Nat × Bool} (hq : mapOf P t = some q) : ∃ kt, P.underlying t = some (.map kt q.1) ∧ isKey P kt = some q.2 := by
 unfold mapOf at hq
 grind [aJ]
theorem lB {kt : Nat} {d : TypeDesc} {v : V} {x : Value} {b : Bool} (hd : P.underlying kt = some d) (hk : KeyK d v x) : (Instr.checkKey b 10000 kt x).run P w = .ok () w := by
 obtain ⟨dd, ED⟩ : ∃ d, ∀ b t v, Instr.checkKey b 10000 t v = Instr.checkKey b (d + 1) t v := ⟨9999, fun _ _ _ => rfl⟩
 rw [ED]
 rcases hk with ⟨k, k', i, rfl, rfl, rfl⟩ | ⟨s, rfl, rfl, rfl⟩ <;> simp [Instr.checkKey, Sem.run_bind, SX.run_underlying hd, Sem.run, Pure.pure]
theorem fN {kt : Nat} {d : TypeDesc} {x : Value} {ms : List MapEntry} {rr : Option (Nat × Value)} (hd : P.underlying kt = some d) (hf : Instr.findNow d x ms 0 = some rr) : (Instr.findKey kt x ms).run P w = .ok rr w := by
 simp [Instr.findKey, Sem.run_bind, SX.run_underlying hd, hf, Sem.run, Pure.pure]
theorem lO {ok b : Bool} {v : V} {y : Value} (hv : tv ρ v = some y) : tv ρ (okT ok b v) = some (if ok then .tuple #[y, .bool b] else y) := by
 cases ok with
 | true => simp only [okT, tv, tvs, hv]; rfl
 | false => simp only [okT, hv]; rfl
theorem s_look {t : Nat} {x y : Operand} {ok : Bool} (ho : o.op = .lookup t x y ok) (he : aB ρ e n a.tmps) (R : Rel g ρ h nx w) (q : run (fQ t x y ok P ex e kv kp kd) h nx lg = some r) : OkV P o a w g ρ r kv := by
 obtain ⟨m, v, h1, h2, q1⟩ := dX q
 obtain ⟨p, hp, q2⟩ := aA q1
 obtain ⟨z, hz, q3⟩ := aA q2
 obtain ⟨hk, q4⟩ := aG q3
 obtain ⟨kt, hU, hK⟩ := oB hp
 have hm := aH he h1
 have hv := aH he h2
 obtain ⟨d, hd, hkk⟩ := nN hK hk hv
 obtain ⟨zv, g1, g2⟩ := gR (ρ := ρ) hz w
 have hUr := SX.run_underlying hU w
 rcases iR q4 with ⟨b, rfl, q5⟩ | ⟨rfl, q5⟩
 ·rw [bZ] at q5
  obtain ⟨ob, h1', n1, l, e1, q6⟩ := aI q5
  obtain ⟨y', o', k1, k2, k3, _, rfl, rfl⟩ := cH R e1
  cases ob with
  | loop => cases q6
  | dfr => cases q6
  | map es ck =>
   cases o' <;> first
    | exact k3.elim
    | skip
   rename_i ms ck'
   simp only [tv, k1, Option.map_some, Option.some.injEq] at hm
   obtain ⟨rr, hf, q7⟩ := aA (o := fE v es) (f := fun r => opt r (kv (okT ok false z)) fun v => kv (okT ok true v)) q6
   have hck := lB (P := P) (w := w) (b := ms.isEmpty) hd hkk
   rcases nV hkk 0 k3.2 hf with ⟨rfl, h7⟩ | ⟨u, y2, j, rfl, h6, h7⟩
   ·have hfr := fN (P := P) (w := w) hd h7
    refine .pure R ?_ (lO (b := false) g2) q7
    simp [execOp, ho, ← hm, Instr.lookup, Sem.run_bind, hUr, getObj, k2, hck, hfr, g1, Sem.run, Pure.pure]
   ·have hfr := fN (P := P) (w := w) hd h7
    refine .pure R ?_ (lO (b := true) h6) q7
    simp [execOp, ho, ← hm, Instr.lookup, Sem.run_bind, hUr, getObj, k2, hck, hfr, Sem.run, Pure.pure]
 ·cases hm' : a.eval x <;> rw [hm'] at hm <;> cases hm
  have hck := lB (P := P) (w := w) (b := true) hd hkk
  have hfr := fN (P := P) (w := w) (x := a.eval y) (ms := []) (rr := none) hd rfl
  refine .pure R ?_ (lO (b := false) g2) q5
  simp [execOp, ho, hm', Instr.lookup, Sem.run_bind, hUr, hck, hfr, g1, Sem.run, Pure.pure]
theorem s_upd {t : Nat} {x y z : Operand} (ho : o.op = .mapUpdate t x y z ∨ o.op = .insert t x y z) (he : aB ρ e n a.tmps) (R : Rel g ρ h nx w) (q : run (hUpd t x y z P ex e kv kp kd) h nx lg = some r) : OkV P o a w g ρ r kv := by
 obtain ⟨m, v, u, h1, h2, h3, q1⟩ := nJ q
 obtain ⟨p, hp, q2⟩ := aA q1
 obtain ⟨hk, q3⟩ := aG q2
 obtain ⟨kt, hU, hK⟩ := oB hp
 have hm := aH he h1
 have hv := aH he h2
 have hu := aH he h3
 obtain ⟨d, hd, hkk⟩ := nN hK hk hv
 have hUr := SX.run_underlying hU w
 rcases iR q3 with ⟨b, rfl, q5⟩ | ⟨rfl, q5⟩
 ·rw [bZ] at q5
  obtain ⟨ob, h1', n1, l, e1, q6⟩ := aI q5
  obtain ⟨y', o', k1, k2, k3, _, rfl, rfl⟩ := cH R e1
  cases ob with
  | loop => cases q6
  | dfr => cases q6
  | map es ck =>
   cases o' <;> first
    | exact k3.elim
    | skip
   rename_i ms ck'
   obtain ⟨hck0, hents⟩ := k3
   subst hck0
   simp only [tv, k1, Option.map_some, Option.some.injEq] at hm
   obtain ⟨qq, hf, q7⟩ := aA (o := setE v u ck' es) (f := fun q => Prog.setO b (.map q.1 q.2) (kv aQ)) q6
   rw [dM] at q7
   obtain ⟨_, h2', n2, l2, e2, q8⟩ := aI q7
   have hck := lB (P := P) (w := w) (b := false) hd hkk
   rcases nI hkk hv hu 0 hents hf with ⟨j, m', f1, f2, f3, f4, f5⟩ | ⟨f1, f2, f3⟩
   ·have hfr := fN (P := P) (w := w) hd f1
    have hRel := dW R e2 k1 (o1 := .map (ms.modify j fun e => { e with key := a.eval y, val := a.eval z }) qq.2) (by grind [obR])
    refine ⟨aQ, undef, ρ, h2', n2, _, _, .inr ⟨?_, rfl⟩, Rho.le_refl ρ, hRel, rfl, q8⟩
    have f2' : ms[j]? = some m' := by simpa using f2
    rw [Nat.zero_add] at hfr
    rcases ho with ho | ho <;> simp [execOp, ho, ← hm, Instr.mapUpdate, Sem.run_bind, hUr, getObj, setObj, k2, hck, hfr, f2', Instr.keyThatStays, f3, f4, Sem.run, Pure.pure]
   ·have hfr := fN (P := P) (w := w) hd f1
    have hRel := dW R e2 k1 (o1 := .map (ms.push { key := a.eval y, val := a.eval z, born := ck' }) qq.2) (by grind [obR])
    refine ⟨aQ, undef, ρ, h2', n2, _, _, .inr ⟨?_, rfl⟩, Rho.le_refl ρ, hRel, rfl, q8⟩
    rcases ho with ho | ho <;> simp [execOp, ho, ← hm, Instr.mapUpdate, Sem.run_bind, hUr, getObj, setObj, k2, hck, hfr, f2, Sem.run, Pure.pure]
 ·cases q5
end
end
open RowKit (Below)
noncomputable section
section
variable {P : Program} {o : Oper} {a : Act} {w : World} {g : G} {ρ : Rho} {r : O × S} {kv : KV} {kp : List PE → Prog} {kd : Df → Prog} {e : Tr V} {n : Nat} {h : Tr Blk} {nx : Nat} {lg : List Fp} {ex : Ex}
theorem gU (he : aB ρ e n a.tmps) {x : Option Operand} {v : Option V} (hv : evO x e = some v) : (x = none ∧ v = none) ∨ ∃ y u, x = some y ∧ v = some u ∧ tv ρ u = some (a.eval y) := by
 unfold evO at hv
 grind [aH]
def Bd (a : Act) (x : Option Operand) (d m : Nat) : Prop := (x = none ∧ m = d) ∨ ∃ y k, x = some y ∧ a.eval y = .int k (m : Int)
theorem bW (he : aB ρ e n a.tmps) {x : Option Operand} {v : Option V} {d : Nat} {f : Nat → Prog} (hv : evO x e = some v) (q : run (ofB v d f) h nx lg = some r) : ∃ m, Bd a x d m ∧ run (f m) h nx lg = some r := by
 rcases gU he hv with ⟨rfl, rfl⟩ | ⟨y, u, rfl, rfl, ht⟩
 ·exact ⟨d, .inl ⟨rfl, rfl⟩, q⟩
 ·obtain ⟨m, hm, q1⟩ := aA (o := cO u) (f := f) q
  obtain ⟨k, hk⟩ := oC ht hm
  exact ⟨m, .inr ⟨y, k, rfl, hk⟩, q1⟩
theorem cU {x : Value} {k : IntKind} {m y : Nat} {cd : BoundsCode} (hx : x = .int k (m : Int)) (hm : m ≤ y) : (Instr.sliceBound x y cd).run P w = .ok m w := by
 subst hx
 have h1 : (0 : Int) ≤ (m : Int) ∧ (m : Int) ≤ (y : Int) := by omega
 simp [Instr.sliceBound, asIntOf, Sem.run_bind, Sem.run, Pure.pure, hm]
theorem eF {len cap l hh m : Nat} {lo hi mx : Option Operand} {is : Bool} (hl : Bd a lo 0 l) (hhi : Bd a hi len hh) (hm : Bd a mx cap m) (hok : mx = none ∨ hi ≠ none) (h1 : l ≤ hh) (h2 : hh ≤ m) (h3 : m ≤ cap) :
 (Instr.sliceBounds is len cap (lo.map a.eval) (hi.map a.eval) (mx.map a.eval)).run P w = .ok (l, hh, m) w := by
 rcases hm with ⟨rfl, rfl⟩ | ⟨ym, km, rfl, em⟩ <;> rcases hhi with ⟨rfl, rfl⟩ | ⟨yh, kh, rfl, eh⟩ <;> rcases hl with ⟨rfl, rfl⟩ | ⟨yl, kl, rfl, el⟩ <;>
  first
   | (rcases hok with hok | hok <;> first | cases hok | exact absurd rfl hok)
   | skip
 ·simp_all [Instr.sliceBounds]
 ·simp [Instr.sliceBounds, Sem.run_bind, Sem.run, Pure.pure, cU el h1]
 ·simp [Instr.sliceBounds, Sem.run_bind, Sem.run, Pure.pure, cU eh h2]
 ·simp [Instr.sliceBounds, Sem.run_bind, Sem.run, Pure.pure, cU eh h2, cU el h1]
 ·simp [Instr.sliceBounds, Sem.run_bind, Sem.run, Pure.pure, cU em h3, cU eh h2]
 ·simp [Instr.sliceBounds, Sem.run_bind, Sem.run, Pure.pure, cU em h3, cU eh h2, cU el h1]
theorem hiOk_eq (he : aB ρ e n a.tmps) {hi mx : Option Operand} {vh vm : Option V} (h1 : evO hi e = some vh) (h2 : evO mx e = some vm) (hh : hiOk vh vm = true) : mx = none ∨ hi ≠ none := by
 rcases gU he h2 with ⟨rfl, rfl⟩ | ⟨y, u, rfl, rfl, _⟩
 ·exact .inl rfl
 ·rcases gU he h1 with ⟨rfl, rfl⟩ | ⟨y, u, rfl, rfl, _⟩
  ·cases hh
  ·exact .inr (by simp)
theorem fS {t el : Nat} {i : TypeInfo} {base : Option Addr} {len cap l hh m : Nat} {x : Operand} {lo hi mx : Option Operand} (ho : o.op = .slice t x lo hi mx) (hU : P.underlying t = some (.slice el)) (hi' : P.info? el = some i) (hx : a.eval x = .slice base len cap)
 (hb : (Instr.sliceBounds true len cap (lo.map a.eval) (hi.map a.eval) (mx.map a.eval)).run P w = .ok (l, hh, m) w) : (execOp a.eval o).run P w = .ok (.value (.slice (if m = l then base else base.map (·.add (l * i.size))) (hh - l) (m - l))) w := by
 simp [execOp, ho, hx, Instr.sliceAt, Instr.slice, Sem.run_bind, SX.run_underlying hU, hb, SX.run_sizeOf hi', Sem.run, Pure.pure]
theorem lS {es b off cap l hh m : Nat} {k : V → Prog} (q : run (slN es b off cap l hh m k) h nx lg = some r) : l ≤ hh ∧ hh ≤ m ∧ m ≤ cap ∧ ((m = l ∧ run (k (.sl b off (hh - l) (m - l))) h nx lg = some r) ∨ (m ≠ l ∧ run (k (.sl b (off + l * es) (hh - l) (m - l))) h nx lg = some r)) := by
 obtain ⟨h1, q1⟩ := aG q
 obtain ⟨a1, h2⟩ := bB h1
 obtain ⟨a2, a3⟩ := bB h2
 refine ⟨Nat.le_of_ble_eq_true a1, Nat.le_of_ble_eq_true a2, Nat.le_of_ble_eq_true a3, ?_⟩
 rcases bD q1 with ⟨hb, q2⟩ | ⟨hb, q2⟩
 ·simp_all
 ·exact .inr ⟨fun e => by subst e; simp at hb, q2⟩
theorem oE {es b off len es0 : Nat} {f : Nat → Prog} (R : Rel g ρ h nx w) (q : run (soCl es b off len es0 f) h nx lg = some r) : 0 < es ∧ es0 = es ∧ ∃ cl y, ρ b = some y ∧ off + len * es ≤ cl ∧ cl ≤ y.2 * es ∧ len ≤ y.2 - off / es ∧ ∃ lg', run (f cl) h nx lg' = some r := by
 obtain ⟨h0, q1⟩ := aG q
 obtain ⟨hes, h1⟩ := bB h0
 have h1 := Nat.eq_of_beq_eq_true h1
 rw [Nat.blt_eq] at hes
 rw [iK] at q1
 obtain ⟨x, h', n1, l, e1, q2⟩ := aI q1
 unfold pSz at e1
 split at e1
 ·rename_i c t op hb
  cases e1
  obtain ⟨h2, q3⟩ := aG q2
  obtain ⟨a1, a2⟩ := bB h2
  have a1 : op = es := Nat.eq_of_beq_eq_true a1
  have a2 : off + len * es ≤ c.length := Nat.le_of_ble_eq_true a2
  subst a1
  obtain ⟨y, cl, junk, hy, hw, hc, _, hj⟩ := R.row hb
  have := hj hes
  have hl := hc.len
  have hle : off + len * op ≤ y.2 * op := by omega
  have h4 : (off + len * op) / op ≤ y.2 := by
   have := Nat.div_le_div_right (c := op) hle
   simp_all
  exact ⟨hes, h1, c.length, y, hy, a2, by omega, by grind [Nat.add_mul_div_right], _, q3⟩
 ·cases e1
theorem mE {es b off len es0 : Nat} {p : Prog} (R : Rel g ρ h nx w) (q : run (soOk es b off len es0 p) h nx lg = some r) : 0 < es ∧ es0 = es ∧ (∃ y, ρ b = some y ∧ off + len * es ≤ y.2 * es ∧ len ≤ y.2 - off / es) ∧ ∃ lg', run p h nx lg' = some r := by
 obtain ⟨h1, h2, cl, y, h3, h4, h5, h6, h7⟩ := oE R q
 exact ⟨h1, h2, ⟨y, h3, Nat.le_trans h4 h5, h6⟩, h7⟩
theorem in_cap {off l es cap : Nat} (h0 : 0 < es) : (off + l * es ≤ cap * es → l ≤ cap - off / es) ∧ (off + l * es < cap * es → l < cap - off / es) := by
 have h1 : (off + l * es) / es = off / es + l := Nat.add_mul_div_right off l h0
 refine ⟨fun h => ?_, fun h => ?_⟩
 ·have h2 := Nat.div_le_div_right (c := es) h
  rw [h1, Nat.mul_div_cancel _ h0] at h2; omega
 ·have h2 := (Nat.div_lt_iff_lt_mul h0).2 h
  omega
theorem eV {b off len es x κ : Nat} (h : ρ b = some (x, κ)) : tv ρ (.so b off len es) = some (.slice (some ⟨x, off, none⟩) len (κ - off / es)) := by simp [tv, h]
theorem s_slice {t : Nat} {x : Operand} {lo hi mx : Option Operand} (ho : o.op = .slice t x lo hi mx) (he : aB ρ e n a.tmps) (R : Rel g ρ h nx w) (q : run (gB t x lo hi mx P ex e kv kp kd) h nx lg = some r) : OkV P o a w g ρ r kv := by
 obtain ⟨v, h1, q1⟩ := aZ q
 obtain ⟨vl, hl, q2⟩ := jX q1
 obtain ⟨vh, hh, q3⟩ := jX q2
 obtain ⟨vm, hm, q4⟩ := jX q3
 obtain ⟨hok, q5⟩ := aG q4
 have hok := hiOk_eq he hh hm hok
 have hv := aH he h1
 split at q5
 ·rename_i el hel
  have hU := nF hel
  obtain ⟨es, hes, q6⟩ := aA q5
  obtain ⟨i, hi', hsz⟩ := cR hes
  rcases cG q6 with ⟨b, off, len, cap, rfl, q7⟩ | ⟨b, off, len, es0, rfl, q7⟩ | ⟨rfl, q7⟩ | q7
  ·obtain ⟨y, hb, hx⟩ := bX hv
   obtain ⟨l, bl, q8⟩ := bW he hl q7
   obtain ⟨u, bh, q9⟩ := bW he hh q8
   obtain ⟨m, bm, q10⟩ := bW he hm q9
   obtain ⟨k1, k2, k3, k4⟩ := lS q10
   have hr := fS (w := w) ho hU hi' hx (eF bl bh bm hok k1 k2 k3)
   rcases k4 with ⟨k4, q11⟩ | ⟨k4, q11⟩
   ·rw [if_pos k4] at hr
    exact .pure R hr (cZ (κ := y.2) hb) q11
   ·rw [if_neg k4, Option.map_some, dD, hsz] at hr
    exact .pure R hr (cZ (κ := y.2) hb) q11
  ·obtain ⟨y, hb, hx⟩ := cD hv
   ·obtain ⟨h0, rfl, cl, y', hb', hle, hcl, hcap, lg1, q8⟩ := oE R q7
    rw [hb] at hb'; cases hb'
    obtain ⟨l, bl, q9⟩ := bW he hl q8
    obtain ⟨u, bh, q10⟩ := bW he hh q9
    rcases bP q10 with ⟨hmn, q11⟩ | ⟨vm', hmn, q11⟩
    ·have hmx : mx = none := by
      grind [gU]
     subst hmx
     obtain ⟨c1, q12⟩ := aG q11
     obtain ⟨_, c2⟩ := bB c1
     obtain ⟨c3, c4⟩ := bB c2
     have c5 := c4
     have c3 : l ≤ u := Nat.le_of_ble_eq_true c3
     have c5 : u ≤ y.2 - off / es0 := (in_cap h0).1 (Nat.le_trans (Nat.le_of_ble_eq_true c5) hcl)
     rcases bD q12 with ⟨c6, q12⟩ | ⟨_, q12⟩
     rotate_left
     ·obtain ⟨c8, q13⟩ := aG q12
      have c8 : u = l := Nat.eq_of_beq_eq_true c8
      subst c8
      have hr := fS (w := w) ho hU hi' hx (eF bl bh (.inl ⟨rfl, rfl⟩) hok c3 (by omega) (Nat.le_refl _))
      have hse : (if y.2 - off / es0 = u then (some (⟨y.1, off, none⟩ : Addr)) else (some ⟨y.1, off, none⟩ : Option Addr).map (·.add (u * i.size))) = if y.2 - off / es0 = u then some ⟨y.1, off, none⟩ else some ⟨y.1, off + u * es0, none⟩ := by
       by_cases hq : y.2 - off / es0 = u
       ·rw [if_pos hq, if_pos hq]
       ·rw [if_neg hq, if_neg hq, hsz]; simp [Addr.add]
      rw [hse, Nat.sub_self] at hr
      exact .pure R hr (by simp [tv, hb]) q13
     have c7 : l = 0 ∨ l < y.2 - off / es0 := by
      rcases Bool.or_eq_true_iff.1 c6 with c6 | c6
      ·exact .inl (Nat.eq_of_beq_eq_true c6)
      ·exact .inr ((in_cap h0).2 (Nat.lt_of_lt_of_le (by simpa [Nat.blt_eq] using c6) hcl))
     have hr := fS (w := w) ho hU hi' hx (eF bl bh (.inl ⟨rfl, rfl⟩) hok c3 (by omega) (Nat.le_refl _))
     have haddr : (if (y.2 - off / es0) = l then (some (⟨y.1, off, none⟩ : Addr)) else (some ⟨y.1, off, none⟩ : Option Addr).map (·.add (l * i.size))) = some ⟨y.1, off + l * es0, none⟩ := by
      grind [Addr.add]
     rw [haddr] at hr
     refine .pure R hr ?_ q12
     show tv ρ (.so b (off + l * es0) (u - l) es0) = _
     grind [eV, Nat.add_mul_div_right]
    ·obtain ⟨m, bm, q12⟩ := bW he hm q11
     obtain ⟨k1, k2, k3, k4⟩ := lS q12
     have bm' : Bd a mx (y.2 - off / es0) m := by
      grind [evO, Bd]
     have hr := fS (w := w) ho hU hi' hx (eF bl bh bm' hok k1 k2 (by omega))
     rcases k4 with ⟨k4, q13⟩ | ⟨k4, q13⟩
     ·rw [if_pos k4] at hr
      exact .pure R hr (cZ (κ := y.2) hb) q13
     ·rw [if_neg k4, Option.map_some, dD, hsz] at hr
      exact .pure R hr (cZ (κ := y.2) hb) q13
  ·have hx : a.eval x = .slice none 0 0 := (Option.some.inj hv).symm
   obtain ⟨l, bl, q8⟩ := bW he hl q7
   obtain ⟨u, bh, q9⟩ := bW he hh q8
   obtain ⟨m, bm, q10⟩ := bW he hm q9
   obtain ⟨h0, q11⟩ := aG q10
   have h0 : l + (u + m) = 0 := Nat.eq_of_beq_eq_true h0
   obtain ⟨rfl, rfl, rfl⟩ : l = 0 ∧ u = 0 ∧ m = 0 := by omega
   have hr := fS (w := w) ho hU hi' hx (eF bl bh bm hok (Nat.le_refl _) (Nat.le_refl _) (Nat.le_refl _))
   exact .pure R hr rfl q11
  ·cases q7
 ·obtain ⟨hs, q6⟩ := aG q5
  have hU : P.underlying t = some .string := by
   unfold isStr at hs
   grind [aJ]
  rcases bP q6 with ⟨hmn, q7⟩ | ⟨_, _, q7⟩
  ·have hmx : mx = none := by
    grind [gU]
   subst hmx
   rcases jT q7 with ⟨s, rfl, q8⟩ | q8
   ·have hx : a.eval x = .string s := (Option.some.inj hv).symm
    obtain ⟨l, bl, q9⟩ := bW he hl q8
    obtain ⟨u, bh, q10⟩ := bW he hh q9
    obtain ⟨c1, q11⟩ := aG q10
    obtain ⟨c2, c3⟩ := bB c1
    have hb := eF (P := P) (w := w) (is := false) bl bh (.inl ⟨rfl, rfl⟩) hok (Nat.le_of_ble_eq_true c2) (Nat.le_of_ble_eq_true c3) (Nat.le_refl _)
    refine .pure (x := .string (s.extract l u)) R ?_ rfl q11
    simp only [Option.map_none] at hb
    simp [execOp, ho, hx, Instr.sliceAt, Instr.slice, Sem.run_bind, SX.run_underlying hU, hb, Sem.run, Pure.pure]
   ·cases q8
  ·cases q7
end
end
open RowKit (Below)
noncomputable section
section
variable {P : Program} {o : Oper} {a : Act} {w : World} {g : G} {ρ : Rho} {r : O × S} {kv : KV} {kp : List PE → Prog} {kd : Df → Prog} {e : Tr V} {n : Nat} {h : Tr Blk} {nx : Nat} {lg : List Fp} {ex : Ex}
theorem Rel.drew (R : Rel g ρ h nx w) : Rel g ρ h nx w.drew := ⟨R.blk, R.inj, R.new, R.below.drew, R.lo, R.fresh, R.le, R.out⟩
theorem cells.uniq {l : List V} {x y : List Value} (h1 : cells ρ l x) (h2 : cells ρ l y) : x = y := Option.some.inj (h1.2.symm.trans h2.2)
theorem iF {b off m : Nat} {y : Nat × Nat} {k : List V → Prog} (R : Rel g ρ h nx w) (hb : ρ b = some y) (q : run (rdN b off m k) h nx lg = some r) :
 ∃ vs l lg', run (k vs) h nx lg' = some r ∧ cells ρ vs l ∧ vs.length = m ∧ ∀ w', Rel g ρ h nx w' → (loadCells ⟨y.1, off, none⟩ m).run P w' = .ok ⟨l⟩ w' := by
 rcases bD q with ⟨h0, q1⟩ | ⟨_, q1⟩
 ·have := Nat.eq_of_beq_eq_true h0
  subst this
  exact ⟨[], [], lg, q1, cells.nil, rfl, fun w' _ => by simp [loadCells, loadCellsFrom, Sem.run, Pure.pure]⟩
 ·rw [iM] at q1
  obtain ⟨vs, h1, n1, l, e1, q2⟩ := aI q1
  obtain ⟨x, rr, h2, h3, h4, h5, h6, h7⟩ := kY (P := P) R e1
  subst h6 h7
  rw [hb] at h2; cases h2
  refine ⟨vs, rr, _, q2, h4, h5, fun w' R' => ?_⟩
  obtain ⟨x', rr', g2, g3, g4, _⟩ := kY (P := P) R' e1
  grind [cells.uniq]
theorem pP (s : ByteArray) : cells ρ (iP s) (s.data.toList.map fun b => Value.int .u8 b.toNat) := by
 unfold iP
 generalize s.data.toList = l
 induction l with
 | nil => exact cells.nil
 | cons b l ih => exact ⟨dN.2 ⟨rfl, ih.1⟩, aN.2 ⟨_, _, rfl, ih.2, rfl⟩⟩
theorem pJ {es : Nat} {v : V} {x : Value} {f : Nat → List V → Prog} (R : Rel g ρ h nx w) (hv : tv ρ v = some x) (q : run (cellsOf es v f) h nx lg = some r) :
 ∃ m vs l lg', run (f m vs) h nx lg' = some r ∧ cells ρ vs l ∧ vs.length = m * es ∧ ∀ w', Rel g ρ h nx w' → (Builtin.lenOf x).run P w' = .ok m w' ∧ (Builtin.firstCells es m x).run P w' = .ok ⟨l⟩ w' := by
 rcases cG q with ⟨b, off, len, cap, rfl, q1⟩ | ⟨b, off, len, es0, rfl, q1⟩ | ⟨rfl, q1⟩ | q1
 ·obtain ⟨y, hb, rfl⟩ := bX hv
  obtain ⟨vs, l, lg', q2, h1, h2, h3⟩ := iF (P := P) R hb q1
  exact ⟨len, vs, l, lg', q2, h1, h2, fun w' R' => ⟨by simp [Builtin.lenOf, Sem.run, Pure.pure], by grind [Builtin.firstCells]⟩⟩
 ·obtain ⟨y, hb, rfl⟩ := cD hv
  obtain ⟨vs, l, lg', q2, h1, h2, h3⟩ := iF (P := P) R hb q1
  exact ⟨len, vs, l, lg', q2, h1, h2, fun w' R' => ⟨by simp [Builtin.lenOf, Sem.run, Pure.pure], by grind [Builtin.firstCells]⟩⟩
 ·cases hv
  exact ⟨0, [], [], lg, q1, cells.nil, by simp, fun w' R' => ⟨by simp [Builtin.lenOf, Sem.run, Pure.pure], by simp [Builtin.firstCells, Sem.run, Pure.pure]⟩⟩
 ·rcases mJ q1 with ⟨b, off, l, es1, rfl, q1⟩ | q1
  ·obtain ⟨y, base, c, hb, rfl⟩ := tv_se hv
   exact ⟨0, [], [], lg, q1, cells.nil, by simp, fun w' R' => ⟨by simp [Builtin.lenOf, Sem.run, Pure.pure], by simp [Builtin.firstCells, loadCells, loadCellsFrom, Sem.run_bind, Sem.run, Pure.pure]⟩⟩
  rcases jT q1 with ⟨s, rfl, q2⟩ | q2
  ·cases hv
   obtain ⟨h1, q3⟩ := aG q2
   have h1 := Nat.eq_of_beq_eq_true h1
   subst h1
   refine ⟨s.size, _, _, lg, q3, pP s, by simp [iP], fun w' R' => ⟨by simp [Builtin.lenOf, Sem.run, Pure.pure], ?_⟩⟩
   have hx : (Array.map (fun b : UInt8 => Value.int IntKind.u8 (b.toNat : Int)) s.data).extract 0 s.size = Array.map (fun b : UInt8 => Value.int IntKind.u8 (b.toNat : Int)) s.data := by
    simp_all
   simp [Builtin.firstCells, Sem.run, Pure.pure, hx]
   apply Array.ext'; simp
  ·cases q2
structure ApT (P : Program) (ts : Array TypeId) (T U el : Nat) (i : TypeInfo) (zv : Value) : Prop where
 t0 : ts[0]? = some T
 t1 : ts[1]? = some U
 und : P.underlying T = some (.slice el)
 und2 : ∃ d, P.underlying U = some d ∧ ∀ k, d ≠ .int k
 info : P.info? el = some i
 zero : i.zero = some zv
theorem eI {ts : Array TypeId} {T U el ty : Nat} {i : TypeInfo} {zv x : Value} {base : Option Addr} {len cap m : Nat} {news : List Value} {rest : List Value} {w' : World} (A : ApT P ts T U el i zv)
 (hl : (Builtin.lenOf x).run P w = .ok m w) (hf : (Builtin.firstCells i.size m x).run P w = .ok ⟨news⟩ w) (hr : len + m ≤ cap)
 (hs : match base with | some p => (storeCells (p.add (len * i.size)) news).run P w = .ok () w' | none => w' = w) :
 (Builtin.append_ ts ty (.slice base len cap :: x :: rest).toArray).run P w = .ok (.slice base (len + m) cap) w' := by
 obtain ⟨d, hd, hk⟩ := A.und2
 have hnum : (match d with | .int _ => true | _ => false) = false := by simp_all
 cases base with
 | none =>
  subst hs
  cases d <;> first
   | exact absurd rfl (hk _)
   | simp [Builtin.append_, A.t0, A.t1, Sem.run_bind, SX.run_underlying A.und, SX.run_underlying hd, SX.run_sizeOf A.info, hl, hf, hr, Sem.run, Pure.pure]
 | some p =>
  simp only at hs
  cases d <;> first
   | exact absurd rfl (hk _)
   | simp [Builtin.append_, A.t0, A.t1, Sem.run_bind, SX.run_underlying A.und, SX.run_underlying hd, SX.run_sizeOf A.info, hl, hf, hr, hs, Sem.run, Pure.pure]
theorem app_grow {ts : Array TypeId} {T U el ty : Nat} {i : TypeInfo} {zv x : Value} {base : Option Addr} {len cap m : Nat} {olds news : List Value} {rest : List Value} (A : ApT P ts T U el i zv)
 (hl : (Builtin.lenOf x).run P w = .ok m w) (hf : (Builtin.firstCells i.size m x).run P w.drew = .ok ⟨news⟩ w.drew) (ho : (Builtin.firstCells i.size len (.slice base len cap)).run P w.drew = .ok ⟨olds⟩ w.drew)
 (hg : cap < len + m) (hlim : len + m ≤ 1048576) (hby : i.bytes ≤ 1048576) :
 (Builtin.append_ ts ty (.slice base len cap :: x :: rest).toArray).run P w = .ok (.slice (some ⟨w.heap.size, 0, none⟩) (len + m) (grownCap w (len + m) cap el))
  (w.drew.alloc (.cells (⟨olds ++ news ++ (Builtin.zeroCells zv.cells (grownCap w (len + m) cap el - (len + m))).toList⟩) el)) := by
 obtain ⟨d, hd, hk⟩ := A.und2
 have hn : ¬ (len + m ≤ cap) := by omega
 have h63 : ¬ (9223372036854775807 < ((len : Int) + (m : Int))) := by omega
 have hfit := growslice_fits (bytes := i.bytes) hg (by
  have : (len + m) * i.bytes ≤ 1048576 * 1048576 := Nat.mul_le_mul hlim hby
  omega)
 have h48 : ¬ (281474976710656 < Builtin.nextslicecap (len + m) cap * i.bytes) := by omega
 have e : (⟨olds⟩ ++ ⟨news⟩ ++ Builtin.zeroCells zv.cells (grownCap w (len + m) cap el - (len + m)) : Array Value) = ⟨olds ++ news ++ (Builtin.zeroCells zv.cells (grownCap w (len + m) cap el - (len + m))).toList⟩ := by
  apply Array.ext'; simp
 rw [← e]
 have hU := fun w => SX.run_underlying (P := P) A.und w
 have hD := fun w => SX.run_underlying (P := P) hd w
 cases d <;> first
  | exact absurd rfl (hk _)
  | (simp [Builtin.append_, A.t0, A.t1, hU, hD, sizeOf, typeInfo, zeroValue, A.info, A.zero, hl, hn, h63, h48, Question.forced, hf, ho, newRow, grownCap]
     grind)
theorem app_zero {ts : Array TypeId} {T U el ty m : Nat} {i : TypeInfo} {zv : Value} {kk kd : IntKind} {rest : List Value} (t0 : ts[0]? = some T) (t1 : ts[1]? = some U) (und : P.underlying T = some (.slice el)) (undU : P.underlying U = some (.int kk)) (info : P.info? el = some i) (zero : i.zero = some zv)
 (hs : 0 < i.size) (h0 : 0 < m) (hlim : m ≤ 1048576) (hby : i.bytes ≤ 1048576) :
 (Builtin.append_ ts ty (.slice none 0 0 :: .int kd (m : Int) :: rest).toArray).run P w = .ok (.slice (some ⟨w.heap.size, 0, none⟩) m (grownCap w m 0 el))
  (w.drew.alloc (.cells (⟨(Builtin.zeroCells zv.cells m).toList ++ (Builtin.zeroCells zv.cells (grownCap w m 0 el - m)).toList⟩) el)) := by
 have hw : IntKind.i64.wrap (m : Int) = m := SX.wrap64_id (by omega) (by omega)
 have h1 : ¬ ((m : Int) < 0) := by omega
 have hb : m * i.bytes ≤ 1048576 * 1048576 := Nat.mul_le_mul hlim hby
 have h2 : ¬ (281474976710656 < (m : Int) * (i.bytes : Int)) := by
  have : ((m * i.bytes : Nat) : Int) ≤ 1099511627776 := by omega
  rw [Int.natCast_mul] at this; omega
 have h63 : ¬ (9223372036854775807 < (m : Int)) := by omega
 have hfit := growslice_fits (bytes := i.bytes) h0 (by omega)
 have h48 : ¬ (281474976710656 < Builtin.nextslicecap m 0 * i.bytes) := by omega
 have hn : ¬ (m ≤ 0) := by omega
 have hms : ¬ (m = 0 ∨ i.size = 0) := by omega
 have hm0 : ¬ m = 0 := by omega
 have hs0 : ¬ i.size = 0 := by omega
 have e : (#[] ++ Builtin.zeroCells zv.cells m ++ Builtin.zeroCells zv.cells (grownCap w m 0 el - m) : Array Value) = ⟨(Builtin.zeroCells zv.cells m).toList ++ (Builtin.zeroCells zv.cells (grownCap w m 0 el - m)).toList⟩ := by
  apply Array.ext'; simp
 rw [← e]
 have hU := fun w => SX.run_underlying (P := P) und w
 have hD := fun w => SX.run_underlying (P := P) undU w
 have hA : ∀ w, (Go.asInt (.int kd (m : Int))).run P w = .ok (m : Int) w := fun w => by simp [Go.asInt, asIntOf, Sem.run_bind, Sem.run, Pure.pure]
 simp [Builtin.append_, t0, t1, hU, hD, hA, sizeOf, typeInfo, zeroValue, info, zero, hw, h1, h2, hn, hms, hm0, hs0, h63, h48, Question.forced, Builtin.firstCells, newRow, grownCap]
 exact fun hz => absurd (Nat.mul_eq_zero.1 hz) hms
end
end
open RowKit (Below)
noncomputable section
section
variable {P : Program} {o : Oper} {a : Act} {w : World} {g : G} {ρ : Rho} {r : O × S} {kv : KV} {kp : List PE → Prog} {kd : Df → Prog} {e : Tr V} {n : Nat} {h : Tr Blk} {nx : Nat} {lg : List Fp} {ex : Ex}
structure Same (w w' : World) (b : Nat) : Prop where
 other : ∀ c, c ≠ b → w'.heap[c]? = w.heap[c]?
 size : w'.heap.size = w.heap.size
 os : w'.os = w.os
 output : w'.output = w.output
 tape : w'.tape = w.tape
theorem kN {b t : Nat} : ∀ (vs : List Value) (l : List Value) (w : World) (k i off : Nat), w.heap[b]? = some (.cells ⟨l⟩ t (0, 0)) → (∀ v ∈ vs, aV v) → off + vs.length ≤ l.length → off = k + i →
 ∃ w', (storeCells ⟨b, k, none⟩ vs i).run P w = .ok () w' ∧ w'.heap[b]? = some (.cells ⟨l.take off ++ vs ++ l.drop (off + vs.length)⟩ t (0, 0)) ∧ Same w w' b
 | [], l, w, k, i, off, hw, _, _, _ => ⟨w, rfl, by simpa using hw, fun _ _ => rfl, rfl, rfl, rfl, rfl⟩
 | v :: vs, l, w, k, i, off, hw, hv, hle, hk => by
  have hoff : off < l.length := by simp at hle; omega
  have hcell : w.cell? ⟨b, off, none⟩ = some l[off] := by rw [eS hw]; simp [hoff]
  have hfr : w.frozen? ⟨b, off, none⟩ = false := by simp [World.frozen?, hw]
  have hrun : (Go.store ⟨b, off, none⟩ v).run P w = .ok () (w.setCell ⟨b, off, none⟩ v) := SX.run_store (P := P) (by
   have := hv v (.head _)
   cases v <;> first | exact this.elim | trivial) hcell hfr
  have hset := mP hw v (off := off)
  have e1 : (Array.setIfInBounds ⟨l⟩ off v : Array Value) = ⟨l.set off v⟩ := by apply Array.ext'; simp
  rw [e1] at hset
  obtain ⟨w', h1, h2, h3⟩ := kN vs (l.set off v) _ k (i + 1) (off + 1) hset (by grind) (by simp at hle ⊢; omega) (by omega)
  refine ⟨w', ?_, ?_, fun c hc => (h3.other c hc).trans (by grind [SX.setCell_other]), h3.size.trans (SX.setCell_size _ _ _), h3.os, h3.output, h3.tape⟩
  ·have e0 : Addr.add ⟨b, k, none⟩ i = ⟨b, off, none⟩ := by rw [eX, hk]
   simp_all [storeCells]
  ·rw [h2, lM hle]
theorem lG {z : Array Value} (k : Nat) : (Builtin.zeroCells z k).toList.length = k * z.size := by simp [Builtin.zeroCells]
theorem nY {el es m nc : Nat} {c : List V} {l zs : List Value} {k : V → Prog} (R : Rel g ρ h nx w) (hc : cells ρ c l) (hl : l.length = m * es) (hz : zs.length = (nc - m) * es) (hes : 0 < es) (hnc : m ≤ nc) (hi : r.2.nx ≤ g.hi) (q : run (grow el es m c k) h nx lg = some r) :
 m ≤ 1048576 ∧ ∃ b ρ' h' nx' lg', ρ.le ρ' ∧ Rel g ρ' h' nx' (w.alloc (.cells ⟨l ++ zs⟩ el)) ∧ ρ' b = some (w.heap.size, nc) ∧ run (k (.so b 0 m es)) h' nx' lg' = some r := by
 obtain ⟨hm, q1⟩ := aG q
 rw [jF] at q1
 obtain ⟨b, h1, n1, mm, e1, q2⟩ := aI q1
 have hn1 := Nat.le_trans (dQ q2) hi
 have hn : ρ nx = none := by
  unfold bQ at e1
  split at e1
  ·cases e1; exact R.fresh nx (Nat.le_refl _) hn1
  ·cases e1
 have hle := Rho.le_ins (x := (w.heap.size, nc)) hn
 obtain ⟨rfl, h2, h3⟩ := gD R e1 hn1 nc (.cells ⟨l ++ zs⟩ el) ⟨rfl, rfl, l, zs, hc.mono hle, rfl, fun h => absurd h (by omega), fun _ => by
  rw [hl, hz, ← Nat.add_mul]; congr 1; omega⟩
 exact ⟨Nat.le_of_ble_eq_true hm, b, _, h1, n1, _, h2, h3, Rho.ins_self, q2⟩
theorem nX (w : World) (need old : Nat) (el : TypeId) : need ≤ grownCap w need old el := by
 unfold grownCap; simp only [Question.cut]; omega
theorem adopt {b : Nat} {k k' : Blk} {x : Nat × Nat} {o' : Obj} {w' : World} (R : Rel g ρ h nx w) (hb : at_ h b = some k) (hx : ρ b = some x) (hn : nx + 1 ≤ g.hi) (hw : w'.heap[x.1]? = some o') (hs : Same w w' x.1) (hk : blkR (ρ.ins nx x) x.2 k' o') :
 ρ.le (ρ.ins nx x) ∧ Rel g (ρ.ins nx x) (pu (pu h b none) nx (some k')) (nx + 1) w' := by
 have hnn : ρ nx = none := R.fresh nx (Nat.le_refl _) hn
 have hle := Rho.le_ins (x := x) hnn
 have hne : b ≠ nx := fun e => by subst e; rw [hnn] at hx; cases hx
 have key : ∀ {c : Nat} {q : Blk}, at_ (pu (pu h b none) nx (some k')) c = some q → (c = nx ∧ q = k') ∨ (c ≠ nx ∧ c ≠ b ∧ at_ h c = some q) := fun {c q} hc => by
  rw [aW] at hc
  split at hc
  ·cases hc; exact .inl ⟨by assumption, rfl⟩
  ·rw [aW] at hc
   split at hc
   ·cases hc
   ·exact .inr ⟨by assumption, by assumption, hc⟩
 have insne : ∀ {c : Nat}, c ≠ nx → ρ.ins nx x c = ρ c := fun hc => by simp [Rho.ins, hc]
 refine ⟨hle, fun c q hc => ?_, fun c c' y y' h1 h2 h3 h4 h5 => ?_, fun c y hy => ?_, ⟨hs.os.trans R.below.os, hs.tape.trans R.below.tape, hs.output.trans R.below.output, by rw [hs.size]; exact R.below.size, fun c hc => ?_⟩, Nat.le_succ_of_le R.lo, fun c h1 h2 => ?_, Rho.le_trans R.le hle, fun c hc => ?_⟩
 ·rcases key hc with ⟨rfl, rfl⟩ | ⟨g1, g2, g3⟩
  ·exact ⟨x, o', Rho.ins_self, hw, hk⟩
  ·obtain ⟨y, o2, k1, k2, k3⟩ := R.blk c q g3
   refine ⟨y, o2, hle _ _ k1, ?_, k3.mono hle⟩
   rw [hs.other y.1 fun e => g2 (R.inj c b y x (by rw [g3]; simp) (by rw [hb]; simp) k1 hx e)]; exact k2
 ·obtain ⟨q, hq⟩ := Option.ne_none_iff_exists'.1 h1
  obtain ⟨q', hq'⟩ := Option.ne_none_iff_exists'.1 h2
  rcases key hq with ⟨rfl, _⟩ | ⟨g1, g2, g3⟩ <;> rcases key hq' with ⟨rfl, _⟩ | ⟨f1, f2, f3⟩
  ·rfl
  ·rw [Rho.ins_self] at h3; cases h3
   rw [insne f1] at h4
   exact absurd (R.inj c' b y' x (by rw [f3]; simp) (by rw [hb]; simp) h4 hx h5.symm) f2
  ·rw [Rho.ins_self] at h4; cases h4
   rw [insne g1] at h3
   exact absurd (R.inj c b y x (by rw [g3]; simp) (by rw [hb]; simp) h3 hx h5) g2
  ·rw [insne g1] at h3; rw [insne f1] at h4
   exact R.inj c c' y y' (by rw [g3]; simp) (by rw [f3]; simp) h3 h4 h5
 ·unfold Rho.ins at hy
  split at hy
  ·cases hy; exact R.new b x hx
  ·exact R.new c y hy
 ·have := R.new b x hx
  rw [hs.other c (by omega)]; exact R.below.block c hc
 ·have : c ≠ nx := by omega
  rw [insne this]; exact R.fresh c (by omega) h2
 ·have := R.lo
  have : c ≠ nx := by omega
  rw [insne this]; exact R.out c hc
theorem isI_eq {U : Nat} (hh : isI P U = true) : ∃ k, P.underlying U = some (.int k) := by
 unfold isI at hh
 split at hh
 ·rename_i k h; exact ⟨k, aJ h⟩
 ·cases hh
theorem qA {U : Nat} (hh : Bool.not (isInt P U) = true) : ∃ d, P.underlying U = some d ∧ ∀ k, d ≠ .int k := by
 unfold isInt at hh
 split at hh
 ·cases hh
 ·cases hh
 ·rename_i x h1 h2
  cases hu : und P U with
  | none => grind
  | some d => simp_all [aJ]
theorem s_append {c : Call} (ho : o.op = .call c) (hc : c.callee = .builtin .append) (he : aB ρ e n a.tmps) (hi : r.2.nx ≤ g.hi) (R : Rel g ρ h nx w) (q : run (gL c P ex e kv kp kd) h nx lg = some r) : OkV P o a w g ρ r kv := by
 obtain ⟨vs, h1, q1⟩ := bK q
 have hvs := bH he h1
 split at q1
 ·rename_i T U ts s x us hT
  obtain ⟨xs, xr, g1, g2, g3⟩ := aN.1 hvs
  obtain ⟨xx, xr', g4, g5, rfl⟩ := aN.1 g2
  have hargs := dT g3
  have t0 : c.argTypes[0]? = some T := by rw [← Array.getElem?_toList, hT]; rfl
  have t1 : c.argTypes[1]? = some U := by rw [← Array.getElem?_toList, hT]; rfl
  obtain ⟨p, hp, q2⟩ := aA q1
  obtain ⟨hes, q3⟩ := aG q2
  rw [Nat.blt_eq] at hes
  obtain ⟨i, zv, RT⟩ := iC ρ hp
  rcases bD q3 with ⟨hI, q3⟩ | ⟨_, q3⟩
  ·obtain ⟨kk, hkk⟩ := isI_eq hI
   rcases cG q3 with ⟨b, off, len, cap, rfl, q4⟩ | ⟨b, off, len, es0, rfl, q4⟩ | ⟨rfl, q4⟩ | q4
   ·cases q4
   ·cases q4
   ·cases g1
    obtain ⟨m, hm, q5⟩ := aA q4
    obtain ⟨h0, q6⟩ := aG q5
    rw [Nat.blt_eq] at h0
    obtain ⟨kd', rfl⟩ := oC g4 hm
    have hz := gH (ρ := ρ) RT.zc m
    have hzz : (madeCells zv.cells (m * p.2.2.length)).toList = (Builtin.zeroCells zv.cells m).toList := by
     have : p.2.2.length = zv.cells.size := by have := RT.zc.len; rw [← Array.length_toList]; omega
     rw [this]; rfl
    rw [hzz] at hz
    have hzs : zv.cells.size = p.2.1 := by have h1 := RT.zc.len; have h2 := RT.zl; rw [← Array.length_toList]; omega
    obtain ⟨k0, b, ρ', h', nx', lg2, k1, k2, k3, k4⟩ := nY (nc := grownCap w m 0 p.1) (zs := (Builtin.zeroCells zv.cells (grownCap w m 0 p.1 - m)).toList) R.drew hz (by rw [lG, hzs]) (by rw [lG, hzs]) hes (nX _ _ _ _) hi q6
    have hr := app_zero (w := w) (ty := o.type) (rest := xr') (kd := kd') t0 t1 RT.und hkk RT.info RT.zero (by rw [RT.size]; exact hes) h0 k0 RT.bytes
    exact ⟨.so b 0 m p.2.1, _, ρ', h', nx', lg2, _, .inl (cP ho hc fun _ => by rw [hargs]; simp only [builtin]; rw [Sem.run_bind, hr]; rfl), k1, k2, (by rw [eV k3]; simp), k4⟩
   ·cases q4
  obtain ⟨hU, q3⟩ := aG q3
  have A : ApT P c.argTypes T U p.1 i zv := ⟨t0, t1, RT.und, qA hU, RT.info, RT.zero⟩
  obtain ⟨m, news, nl, lg1, q4, n1, n2, n3⟩ := pJ (P := P) R g4 q3
  have hnl := n1.len
  have hsz : i.size = p.2.1 := RT.size
  have hzs : zv.cells.size = p.2.1 := by have h1 := RT.zc.len; have h2 := RT.zl; rw [← Array.length_toList]; omega
  have hl := fun w' R' => (n3 w' R').1
  have hf := fun w' R' => (n3 w' R').2
  rw [← hsz] at hf
  have fin : ∀ {u : V} {X : Value} {ρ' h' nx' lg' w'}, (Builtin.append_ c.argTypes o.type (xs :: xx :: xr').toArray).run P w = .ok X w' → ρ.le ρ' → Rel g ρ' h' nx' w' → tv ρ' u = some X → run (kv u) h' nx' lg' = some r → OkV P o a w g ρ r kv :=
   fun {u X ρ' h' nx' lg' w'} hr k1 k2 k3 k4 => ⟨u, X, ρ', h', nx', lg', w', .inl (cP ho hc fun _ => by rw [hargs]; simp only [builtin]; rw [Sem.run_bind, hr]; rfl), k1, k2, k3, k4⟩
  have grw : ∀ {base : Option Addr} {len cap : Nat} {oldsV : List V} {olds : List Value} {lg'}, xs = .slice base len cap → cap < len + m → cells ρ oldsV olds → oldsV.length = len * p.2.1 →
   (Builtin.firstCells i.size len (.slice base len cap)).run P w.drew = .ok ⟨olds⟩ w.drew → ∀ {h0 : Tr Blk}, Rel g ρ h0 nx w → run (grow p.1 p.2.1 (len + m) (ap oldsV news) kv) h0 nx lg' = some r → OkV P o a w g ρ r kv := by
   intro base len cap oldsV olds lg' hX hg hco hlo hfo h0 R0 q5
   have hlen : (olds ++ nl).length = (len + m) * p.2.1 := by rw [List.length_append, hco.len, hnl, hlo, n2, Nat.add_mul]
   rw [bO] at q5
   obtain ⟨k0, b, ρ', h', nx', lg2, k1, k2, k3, k4⟩ := nY (nc := grownCap w (len + m) cap p.1) (zs := (Builtin.zeroCells zv.cells (grownCap w (len + m) cap p.1 - (len + m))).toList) R0.drew (hco.app n1) hlen
    (by rw [lG, hzs]) hes (nX _ _ _ _) hi q5
   have hr := app_grow (P := P) (ty := o.type) (rest := xr') (olds := olds) A (hl w R) (hf w.drew R.drew) hfo hg k0 RT.bytes
   rw [hX] at fin
   refine fin hr k1 k2 ?_ k4
   rw [eV k3]; simp
  rcases bD q4 with ⟨hm0, q5⟩ | ⟨hm0, q5⟩
  ·have hm0 := Nat.eq_of_beq_eq_true hm0
   subst hm0
   have hnil : nl = [] := List.eq_nil_of_length_eq_zero (by rw [hnl, n2]; simp)
   subst hnil
   rcases cG q5 with ⟨b, off, len, cap, rfl, q6⟩ | ⟨b, off, len, es0, rfl, q6⟩ | ⟨rfl, q6⟩ | q6
   ·obtain ⟨hle, q7⟩ := aG q6
    obtain ⟨y, hb', rfl⟩ := bX g1
    exact fin (eI (w' := w) A (hl w R) (hf w R) (Nat.le_of_ble_eq_true hle) (by simp [storeCells, Sem.run, Pure.pure])) (Rho.le_refl ρ) R (cZ (κ := y.2) hb') q7
   ·obtain ⟨_, rfl, ⟨y', hb', _, hcap⟩, lg2, q7⟩ := mE R q6
    obtain ⟨y, hb'', rfl⟩ := cD g1
    rw [hb'] at hb''; cases hb''
    exact fin (eI (w' := w) A (hl w R) (hf w R) hcap (by simp [storeCells, Sem.run, Pure.pure])) (Rho.le_refl ρ) R (eV (κ := y'.2) hb') q7
   ·cases g1
    exact fin (eI (w' := w) A (hl w R) (hf w R) (Nat.le_refl _) rfl) (Rho.le_refl ρ) R rfl q6
   ·cases q6
  ·have hm : 0 < m := Nat.pos_of_ne_zero fun e => by subst e; simp at hm0
   have hnpos : 0 < news.length := by rw [n2]; exact Nat.mul_pos hm hes
   rcases cG q5 with ⟨b, off, len, cap, rfl, q6⟩ | ⟨b, off, len, es0, rfl, q6⟩ | ⟨rfl, q6⟩ | q6
   ·obtain ⟨y, hb', rfl⟩ := bX g1
    have q6' : run (ife (Nat.ble (len + m) cap) (.wr b (off + len * p.2.1) news (kv (.sl b off (len + m) cap))) (rdN b off (len * p.2.1) fun old => grow p.1 p.2.1 (len + m) (ap old news) kv)) h nx lg1 = some r := q6
    rcases bD q6' with ⟨hle, q7⟩ | ⟨hle, q7⟩
    ·have hle := Nat.le_of_ble_eq_true hle
     rw [gN] at q7
     obtain ⟨_, h', n', l', e1, q8⟩ := aI q7
     obtain ⟨y2, w', k1, k2, k3⟩ := jN (P := P) R e1 n1
     rw [hb'] at k1; cases k1
     exact fin (eI (w' := w') A (hl w R) (hf w R) hle (by simp only [dD, hsz]; exact k2)) (Rho.le_refl ρ) k3 (cZ (κ := y.2) hb') q8
    ·have hgt : cap < len + m := by
      rcases Nat.lt_or_ge cap (len + m) with h | h
      ·exact h
      ·rw [Nat.ble_eq_true_of_le h] at hle; cases hle
     obtain ⟨ov, ol, lg2, q8, k1, k2, k3⟩ := iF (P := P) R hb' q7
     exact grw rfl hgt k1 k2 (by simp only [Builtin.firstCells, hsz]; exact k3 w.drew R.drew) R q8
   ·obtain ⟨h00, q7⟩ := aG q6
    have h00 := Nat.eq_of_beq_eq_true h00
    subst h00
    obtain ⟨y, hb', rfl⟩ := cD g1
    have q8 := q7
    unfold appO at q8
    rw [iK] at q8
    obtain ⟨X, h', n', l', e1, q9⟩ := aI q8
    unfold pSz at e1
    split at e1
    ·rename_i cc t op hcb
     cases e1
     obtain ⟨hh, q10⟩ := aG q9
     obtain ⟨a1, a2⟩ := bB hh
     have hop : op = p.2.1 := Nat.eq_of_beq_eq_true a1
     have htt : t = p.1 := Nat.eq_of_beq_eq_true a2
     clear a1 a2 hh
     subst hop htt
     obtain ⟨y', cl, junk, hy, hw, hcl, _, hj⟩ := R.row hcb
     rw [hb'] at hy; cases hy
     have hj := hj hes
     have hcll := hcl.len
     have q11 : run (ife (Nat.ble (off + (len + m) * p.2.1) cc.length) (.wr b (off + len * p.2.1) news (kv (.so b off (len + m) p.2.1)))
      (aD (Bool.and (Nat.beq off 0) (Nat.beq (len * p.2.1) cc.length)) (rdN b 0 (len * p.2.1) fun old => .del b (grow p.1 p.2.1 (len + m) (ap old news) kv)))) h nx _ = some r := q10
     rcases bD q11 with ⟨hle, q12⟩ | ⟨_, q12⟩
     ·have hle : off + (len + m) * p.2.1 ≤ cc.length := Nat.le_of_ble_eq_true hle
      have hroom : len + m ≤ y.2 - off / p.2.1 := by
       have h5 : off + (len + m) * p.2.1 ≤ y.2 * p.2.1 := by omega
       have h4 : (off + (len + m) * p.2.1) / p.2.1 ≤ y.2 := by
        have := Nat.div_le_div_right (c := p.2.1) h5
        rwa [Nat.mul_div_cancel _ hes] at this
       rw [Nat.add_mul_div_right _ _ hes] at h4
       omega
      rw [gN] at q12
      obtain ⟨_, h2', n2', l2', e2, q13⟩ := aI q12
      obtain ⟨y2, w', k1, k2, k3⟩ := jN (P := P) R e2 n1
      rw [hb'] at k1; cases k1
      exact fin (eI (w' := w') A (hl w R) (hf w R) hroom (by simp only [dD, hsz]; exact k2)) (Rho.le_refl ρ) k3 (eV (κ := y.2) hb') q13
     ·obtain ⟨hh2, q13⟩ := aG q12
      obtain ⟨b1, b2⟩ := bB hh2
      have b1 := Nat.eq_of_beq_eq_true b1
      have b2 : len * p.2.1 = cc.length := Nat.eq_of_beq_eq_true b2
      subst b1
      simp only [Nat.zero_div, Nat.sub_zero] at fin grw
      obtain ⟨ov, ol, lg2, q14, k1, k2, k3⟩ := iF (P := P) R hb' q13
      rw [jQ] at q14
      obtain ⟨_, h3', n3', l3', e3, q15⟩ := aI q14
      have hR3 := pX R e3
      have e3' : h3' = pu h b none ∧ n3' = nx := by
       unfold pDel at e3
       rw [hcb] at e3
       cases e3; exact ⟨rfl, rfl⟩
      obtain ⟨rfl, rfl⟩ := e3'
      by_cases hroom : len + m ≤ y.2
      ·have hol : ol = cl := by
        have h6 := k3 w R
        have h7 := SX.run_loadCellsFrom (P := P) (w := w) (p := ⟨y.1, 0, none⟩) cl 0 #[] (fun j v hj => by
         rw [eX, eS hw, List.getElem?_toArray, Nat.zero_add, Nat.zero_add, List.getElem?_append_left (List.getElem?_eq_some_iff.1 hj).1]; exact hj)
        rw [hcll, ← b2] at h7
        unfold loadCells at h6
        rw [h7] at h6
        simp only [Result.ok.injEq] at h6
        have := congrArg Array.toList h6.1
        simpa using this.symm
       subst hol
       obtain ⟨_, q16⟩ := aG q15
       rw [jF] at q16
       obtain ⟨b', h4, n4, l4, e4, q17⟩ := aI q16
       have hn4 := Nat.le_trans (dQ q17) hi
       have e4' : b' = n3' ∧ h4 = pu (pu h b none) n3' (some (.cells (ov ++ news) p.1 p.2.1)) ∧ n4 = n3' + 1 := by
        unfold bQ at e4
        split at e4
        ·cases e4; rw [bO]; exact ⟨rfl, rfl, rfl⟩
        ·cases e4
       obtain ⟨rfl, rfl, rfl⟩ := e4'
       have hlen : len * p.2.1 + nl.length ≤ (ol ++ junk).length := by
        have h5 : (len + m) * p.2.1 ≤ y.2 * p.2.1 := Nat.mul_le_mul_right _ hroom
        rw [Nat.add_mul] at h5
        rw [List.length_append, hj, hnl, n2]; exact h5
       obtain ⟨w', s1, s2, s3⟩ := kN (P := P) nl (ol ++ junk) w (0 + len * p.2.1) 0 (len * p.2.1) hw n1.is hlen (by omega)
       have e5 : (ol ++ junk).take (len * p.2.1) ++ nl ++ (ol ++ junk).drop (len * p.2.1 + nl.length) = (ol ++ nl) ++ junk.drop nl.length := by
        have h5 : len * p.2.1 = ol.length := by omega
        rw [h5, List.take_left, List.drop_append]
        congr 1
        rw [List.drop_of_length_le (by omega)]
        simp
       rw [e5] at s2
       have hRa := adopt R hcb hb' hn4 s2 s3 (k' := .cells (ov ++ news) p.1 p.2.1) ⟨rfl, rfl, ol ++ nl, junk.drop nl.length, ((k1.app n1).mono (Rho.le_ins (R.fresh _ (Nat.le_refl _) hn4))), rfl, fun h => absurd h (by omega), fun _ => by
        rw [List.length_append] at hlen
        simp only [List.length_append, List.length_drop]; omega⟩
       have s1' : (storeCells ⟨y.1, 0 + len * p.2.1, none⟩ nl).run P w = .ok () w' := s1
       refine fin (eI (w' := w') A (hl w R) (hf w R) hroom (by simp only [dD, hsz]; exact s1')) hRa.1 hRa.2 ?_ q17
       rw [eV Rho.ins_self]; simp
      ·exact grw rfl (by omega) k1 k2 (by simp only [Builtin.firstCells, hsz]; exact k3 w.drew R.drew) hR3 q15
    ·cases e1
   ·cases g1
    exact grw (olds := []) (oldsV := []) rfl (by omega) cells.nil (by simp) (by simp [Builtin.firstCells, Sem.run, Pure.pure]) R (by
     rw [bO, List.nil_append, Nat.zero_add]; exact q6)
   ·cases q6
 ·cases q1
theorem s_clear {c : Call} (ho : o.op = .call c) (hc : c.callee = .builtin .clear) (he : aB ρ e n a.tmps) (R : Rel g ρ h nx w) (q : run (gO c P ex e kv kp kd) h nx lg = some r) : OkV P o a w g ρ r kv := by
 obtain ⟨vs, h1, q1⟩ := bK q
 have hvs := bH he h1
 split at q1
 ·rename_i T ts v us hT
  obtain ⟨x, xs, g1, g2, g3⟩ := aN.1 hvs
  have hargs := dT g3
  have t0 : c.argTypes[0]? = some T := by rw [← Array.getElem?_toList, hT]; rfl
  have fin : ∀ {h' nx' lg' w'}, (Builtin.clear_ c.argTypes o.type (x :: xs).toArray).run P w = .ok (.tuple #[]) w' → Rel g ρ h' nx' w' → run (kv aQ) h' nx' lg' = some r → OkV P o a w g ρ r kv :=
   fun {h' nx' lg' w'} hr k2 k4 => ⟨aQ, .tuple #[], ρ, h', nx', lg', w', .inl (cP ho hc fun _ => by rw [hargs]; simp only [builtin]; rw [Sem.run_bind, hr]; rfl), Rho.le_refl ρ, k2, rfl, k4⟩
  split at q1
  ·rename_i kt el hu
   have hU := SX.run_underlying (aJ hu) w
   rcases iR q1 with ⟨b, rfl, q2⟩ | ⟨rfl, q2⟩
   ·rw [bZ] at q2
    obtain ⟨ob, h1', n1, l, e1, q3⟩ := aI q2
    obtain ⟨y', o', k1, k2, k3, _, rfl, rfl⟩ := cH R e1
    cases ob with
    | loop => cases q3
    | dfr => cases q3
    | map es ck =>
     cases o' <;> first
      | exact k3.elim
      | skip
     rename_i ms ck'
     obtain ⟨hck0, hents⟩ := k3
     subst hck0
     have q4 : run (.setO b (.map [] _) (kv aQ)) _ _ _ = some r := q3
     rw [dM] at q4
     obtain ⟨_, h2', n2, l2, e2, q8⟩ := aI q4
     have hRel := dW R e2 k1 (o1 := .map #[] ck') ⟨rfl, by simp [bT]⟩
     simp only [tv, k1, Option.map_some, Option.some.injEq] at g1
     exact fin (by simp [Builtin.clear_, t0, Sem.run_bind, hU, ← g1, getObj, setObj, k2, Sem.run, Pure.pure]) hRel q8
   ·cases q2
  obtain ⟨p, hp, q2⟩ := aA q1
  obtain ⟨i, zv, RT⟩ := iC ρ hp
  have hU := SX.run_underlying RT.und w
  have main : ∀ {b off len cap : Nat} {y : Nat × Nat}, ρ b = some y → x = .slice (some ⟨y.1, off, none⟩) len cap → run (ife (Nat.beq len 0) (kv aQ) (.wr b off (rep p.2.2 len) (kv aQ))) h nx lg = some r → OkV P o a w g ρ r kv := by
   intro b off len cap y hb hx q3
   subst hx
   rcases bD q3 with ⟨h0, q4⟩ | ⟨h0, q4⟩
   ·have := Nat.eq_of_beq_eq_true h0
    subst this
    exact fin (by simp [Builtin.clear_, t0, Sem.run_bind, hU, Sem.run, Pure.pure]) R q4
   ·obtain ⟨k, rfl⟩ : ∃ k, len = k + 1 := ⟨len - 1, by cases len with | zero => simp at h0 | succ k => rfl⟩
    rw [gN] at q4
    obtain ⟨_, h', n', l', e1, q5⟩ := aI q4
    have hz := gH (ρ := ρ) RT.zc (k + 1)
    obtain ⟨y2, w', k1, k2, k3⟩ := jN (P := P) R e1 hz
    rw [hb] at k1; cases k1
    have hzz : (madeCells zv.cells ((k + 1) * p.2.2.length)).toList = (Builtin.zeroCells zv.cells (k + 1)).toList := by
     have : p.2.2.length = zv.cells.size := by have := RT.zc.len; rw [← Array.length_toList]; omega
     rw [this]; rfl
    rw [hzz] at k2
    have hzr : (zeroValue p.1).run P w = .ok zv w := by simp [zeroValue, typeInfo, RT.info, RT.zero, program, Sem.run_bind, Sem.run, Pure.pure]
    exact fin (by simp [Builtin.clear_, t0, Sem.run_bind, hU, hzr, k2, Sem.run, Pure.pure]) k3 q5
  rcases cG q2 with ⟨b, off, len, cap, rfl, q3⟩ | ⟨b, off, len, es0, rfl, q3⟩ | ⟨rfl, q3⟩ | q3
  ·obtain ⟨y, hb, hx⟩ := bX g1
   exact main hb hx q3
  ·obtain ⟨y, hb, hx⟩ := cD g1
   exact main hb hx q3
  ·cases g1
   exact fin (by simp [Builtin.clear_, t0, Sem.run_bind, hU, Sem.run, Pure.pure]) R q3
  ·cases q3
 ·cases q1
end
end
open RowKit (Below)
noncomputable section
section
variable {P : Program} {o : Oper} {a : Act} {w : World} {g : G} {ρ : Rho} {r : O × S} {kv : KV} {kp : List PE → Prog} {kd : Df → Prog} {e : Tr V} {n : Nat} {h : Tr Blk} {nx : Nat} {lg : List Fp} {ex : Ex}
theorem lC {t u : Nat} (hq : dS P t = some u) : P.underlying t = some (.pointer u) := by
 unfold dS at hq
 grind [aJ]
theorem lU {t : Nat} (hq : isUns P t = true) : P.underlying t = some .unsafePointer := by
 unfold isUns at hq
 grind [aJ]
theorem pY {v : V} {f : Nat → Nat → Prog} {d : Prog} (q : run (asPtrD v f d) h nx lg = some r) : (∃ b off, v = .ptr b off ∧ run (f b off) h nx lg = some r) ∨ run d h nx lg = some r := by
 cases v <;> first
  | exact .inl ⟨_, _, rfl, q⟩
  | exact .inr q
theorem kD {b : Nat} {k : Nat → Nat → Nat → Prog} (q : run (.sz b k) h nx lg = some r) : ∃ c t op lg', at_ h b = some (.cells c t op) ∧ run (k c.length t op) h nx lg' = some r := by
 rw [iK] at q
 obtain ⟨x, h', n1, l, e1, q2⟩ := aI q
 unfold pSz at e1
 grind
theorem s_conv {s t : Nat} {x : Operand} (ho : o.op = .convert s t x) (he : aB ρ e n a.tmps) (R : Rel g ρ h nx w) (q : run (fG s t x P ex e kv kp kd) h nx lg = some r) : OkV P o a w g ρ r kv := by
 obtain ⟨v, h1, q1⟩ := aZ q
 have hv := aH he h1
 rcases pY q1 with ⟨b, off, rfl, q2⟩ | q2
 ·obtain ⟨y, hb, hx⟩ := bS hv
  have key : ∀ {lg'}, (convert s t (.pointer (some ⟨y.1, off, none⟩))).run P w = .ok (.pointer (some ⟨y.1, off, none⟩)) w → run (kv (.ptr b off)) h nx lg' = some r → OkV P o a w g ρ r kv :=
   fun hr q => .pure (x := .pointer (some ⟨y.1, off, none⟩)) R (by simp_all [execOp]) (by simp [tv, hb]) q
  rcases bP q2 with ⟨hn, q3⟩ | ⟨el, hel, q3⟩
  ·obtain ⟨u, hu, q4⟩ := aA (o := dS P t) q3
   obtain ⟨h5, q5⟩ := aG q4
   obtain ⟨z, hz, q6⟩ := aA (o := szT P u) q5
   obtain ⟨c, ty, op, lg', hb', q7⟩ := kD q6
   obtain ⟨h7, q8⟩ := aG q7
   obtain ⟨h8, h9⟩ := bB h7
   obtain ⟨y', l, junk, hy, hw, hc, j0, _⟩ := R.row hb'
   rw [hb] at hy; cases hy
   have hj := j0 (Nat.eq_of_beq_eq_true h8); subst hj
   obtain ⟨i, hi, _⟩ := cR hz
   have hsh : w.shape? y.1 = some (ty, c.length) := by simp [World.shape?, hw, hc.len]
   exact key (Lib.run_from_unsafe w ⟨y.1, off, none⟩ (lU h5) (lC hu) hi hsh h9) q8
  ·obtain ⟨h4, q4⟩ := aG q3
   obtain ⟨z, hz, q5⟩ := aA (o := szT P el) q4
   obtain ⟨h6, q6⟩ := aG q5
   obtain ⟨c, ty, op, lg', hb', q7⟩ := kD q6
   obtain ⟨h7, q8⟩ := aG q7
   obtain ⟨y', l, junk, hy, hw, hc, _, _⟩ := R.row hb'
   rw [hb] at hy; cases hy
   obtain ⟨i, hi, hiz⟩ := cR hz
   rw [Nat.blt_eq] at h6 h7
   have hl := hc.len
   have hsh : w.shape? y.1 = some (ty, (l ++ junk).length) := by simp [World.shape?, hw]
   exact key (Lib.run_to_unsafe w ⟨y.1, off, none⟩ (lC hel) (lU h4) hi (by omega) hsh (by simp; omega)) q8
 ·obtain ⟨u, y, g1, g2, q3⟩ := nC (w := w) hv q2
  exact .pure R (by simp_all [execOp]) g2 q3
theorem s_slD {c : Call} (ho : o.op = .call c) (hc : c.callee = .builtin .unsafeSliceData) (he : aB ρ e n a.tmps) (R : Rel g ρ h nx w) (q : run (hSlD c P ex e kv kp kd) h nx lg = some r) : OkV P o a w g ρ r kv := by
 obtain ⟨vs, h1, q1⟩ := bK q
 have hvs := bH he h1
 split at q1
 ·rename_i v
  obtain ⟨x, xr, g1, g2, g3⟩ := aN.1 hvs
  rw [cM] at g2; subst g2
  have hargs := dT g3
  have fin : ∀ {u : V} {X : Value} {lg'}, (Builtin.unsafeSliceData_ c.argTypes o.type #[x]).run P w = .ok X w → tv ρ u = some X → run (kv u) h nx lg' = some r → OkV P o a w g ρ r kv :=
   fun {u X lg'} hr k3 k4 => ⟨u, X, ρ, h, nx, lg', w, .inl (cP ho hc fun _ => by rw [hargs]; simp only [builtin]; rw [Sem.run_bind, hr]; rfl), Rho.le_refl ρ, R, k3, k4⟩
  rcases cG q1 with ⟨b, off, len, cap, rfl, q2⟩ | ⟨b, off, len, es, rfl, q2⟩ | ⟨rfl, q2⟩ | q2
  ·obtain ⟨h3, q3⟩ := aG q2
   rw [Nat.blt_eq] at h3
   obtain ⟨y, hb, rfl⟩ := bX g1
   exact fin (Lib.run_unsafeSliceData_row w _ _ _ _ _ (by omega)) (by simp [tv, hb]) q3
  ·obtain ⟨h3, q3⟩ := aG q2
   rw [Nat.blt_eq] at h3
   obtain ⟨y, hb, rfl⟩ := cD g1
   obtain ⟨_, _, ⟨y', hb', _, hcap⟩, lg', q4⟩ := mE R q3
   rw [hb] at hb'; cases hb'
   exact fin (Lib.run_unsafeSliceData_row w _ _ _ _ _ (by omega)) (by simp [tv, hb]) q4
  ·cases g1
   exact fin (Lib.run_unsafeSliceData_nil w _ _ _ _) rfl q2
  ·cases q2
 ·cases q1
theorem mS : ∀ {c : List V} {l : List Value} {s : List UInt8}, gJ c = some s → cells ρ c l → s.length = c.length ∧ ∀ (j : Nat) (x : UInt8), s[j]? = some x → l[j]? = some (Value.int .u8 x.toNat)
 | [], l, s, q, hc => by cases q; exact ⟨rfl, fun j x h => by simp at h⟩
 | v :: c, l, s, q, hc => by
  obtain ⟨x, y, h1, h2, rfl⟩ := aN.1 hc.2
  obtain ⟨h3, h4⟩ := dN.1 hc.1
  unfold gJ at q
  split at q
  ·rename_i hh; cases hh
  ·rename_i k c' hh
   cases hh
   split at q
   ·rename_i hb
    split at q
    ·rename_i s' hs
     cases q
     cases h1
     obtain ⟨i1, i2⟩ := mS hs ⟨h4, h2⟩
     refine ⟨by simp [i1], fun j x hx => ?_⟩
     rw [Nat.blt_eq] at hb
     cases j with
     | zero =>
      simp only [List.getElem?_cons_zero, Option.some.injEq] at hx ⊢
      subst hx
      have : k.toUInt8.toNat = k := by simp [Nat.toUInt8]; omega
      rw [this]; rfl
     | succ j => simp only [List.getElem?_cons_succ] at hx ⊢; exact i2 j x hx
    ·cases q
   ·cases q
  ·cases q
theorem Rel.drop {b : Nat} {k : Blk} {x : Nat × Nat} {w' : World} (R : Rel g ρ h nx w) (hb : at_ h b = some k) (hx : ρ b = some x) (hs : Same w w' x.1) : Rel g ρ (pu h b none) nx w' := by
 have key : ∀ {c : Nat} {q : Blk}, at_ (pu h b none) c = some q → c ≠ b ∧ at_ h c = some q := by grind [aW]
 refine ⟨fun c q hc => ?_, fun c c' y y' h1 h2 => ?_, R.new, ⟨hs.os.trans R.below.os, hs.tape.trans R.below.tape, hs.output.trans R.below.output, by rw [hs.size]; exact R.below.size, fun c hc => ?_⟩, R.lo, R.fresh, R.le, R.out⟩
 ·obtain ⟨g1, g2⟩ := key hc
  obtain ⟨y, o2, k1, k2, k3⟩ := R.blk c q g2
  refine ⟨y, o2, k1, ?_, k3⟩
  rw [hs.other y.1 fun e => g1 (R.inj c b y x (by rw [g2]; simp) (by rw [hb]; simp) k1 hx e)]; exact k2
 ·obtain ⟨q, hq⟩ := Option.ne_none_iff_exists'.1 h1
  obtain ⟨q', hq'⟩ := Option.ne_none_iff_exists'.1 h2
  exact R.inj c c' y y' (by rw [(key hq).2]; simp) (by rw [(key hq').2]; simp)
 ·have := R.new b x hx
  rw [hs.other c (by omega)]; exact R.below.block c hc
theorem pV (w : World) (b off m : Nat) : Same w (w.freeze ⟨b, off, none⟩ m) b := by
 unfold World.freeze
 split
 ·exact ⟨fun _ _ => rfl, rfl, rfl, rfl, rfl⟩
 ·exact ⟨fun c hc => by grind, by simp, rfl, rfl, rfl⟩
theorem s_uStr {c : Call} (ho : o.op = .call c) (hc : c.callee = .builtin .unsafeString) (he : aB ρ e n a.tmps) (R : Rel g ρ h nx w) (q : run (gT c P ex e kv kp kd) h nx lg = some r) : OkV P o a w g ρ r kv := by
 obtain ⟨vs, h1, q1⟩ := bK q
 have hvs := bH he h1
 split at q1
 ·rename_i T I p m hT
  obtain ⟨x, xr, g1, g2, g3⟩ := aN.1 hvs
  obtain ⟨x2, xr2, g4, g5, rfl⟩ := aN.1 g2
  rw [cM] at g5; subst g5
  cases g4
  have hargs := dT g3
  obtain ⟨b, off, rfl, q2⟩ := eR q1
  obtain ⟨u, hu, q3⟩ := aA (o := dS P T) q2
  obtain ⟨es, hes, q4⟩ := aA (o := szT P u) q3
  obtain ⟨cs, ty, op, lg1, hb', q5⟩ := kD q4
  obtain ⟨h6, q6⟩ := aG q5
  obtain ⟨a1, h6⟩ := bB h6
  obtain ⟨a2, h6⟩ := bB h6
  obtain ⟨a3, h6⟩ := bB h6
  obtain ⟨a4, a5⟩ := bB h6
  have a1 := Nat.eq_of_beq_eq_true a1
  have a2 := Nat.eq_of_beq_eq_true a2
  have a3 := Nat.eq_of_beq_eq_true a3
  rw [Nat.blt_eq] at a4
  have a5 : m ≤ 1048576 := Nat.le_of_ble_eq_true a5
  subst a1 a2 a3
  obtain ⟨y, l, junk, hy, hw, hcl, _, _⟩ := R.row hb'
  obtain ⟨y2, hb2, rfl⟩ := bS g1
  rw [hy] at hb2; cases hb2
  rw [iM] at q6
  obtain ⟨vs, h2, n2, lgm, e1, q7⟩ := aI q6
  obtain ⟨s, hs, q8⟩ := aA (o := gJ vs) q7
  unfold pRd at e1
  rw [hb'] at e1
  simp only at e1
  split at e1
  ·rename_i l' htk
   rw [if_pos a4] at e1
   cases e1
   rw [fD, eU] at htk
   obtain ⟨h3, rfl⟩ := htk
   rw [List.drop_zero] at h3 hs
   obtain ⟨s1, s2⟩ := mS hs (hcl.take m)
   have hlen : s.length = m := by grind
   subst hlen
   rw [jQ] at q8
   obtain ⟨_, h4, n4, lg4, e2, q9⟩ := aI q8
   unfold pDel at e2
   rw [hb'] at e2
   cases e2
   obtain ⟨i, hi, hi1⟩ := cR hes
   have hcof : P.cellsOf ty = 1 := by simp [Program.cellsOf, hi, hi1]
   have hl := hcl.len
   have hne : s ≠ [] := by grind
   have hsh : w.shape? y.1 = some (ty, (l ++ junk).length) := by simp [World.shape?, hw]
   have hr := Lib.run_unsafeString_row (P := P) w T I o.type ty (lC hu) hcof y.1 _ hsh s hne (by simp; omega) (by omega) (fun j x hx => by
    rw [eX, eS hw, Nat.zero_add, List.getElem?_toArray]
    grind)
   have hty : c.argTypes = #[T, I] := by grind
   exact ⟨_, .string ⟨s.toArray⟩, ρ, _, _, _, _, .inl (cP ho hc fun _ => by rw [hargs, hty]; simp only [builtin]; rw [Sem.run_bind]; show Result.andThen (Sem.run P (Builtin.unsafeString_ #[T, I] o.type #[.pointer (some ⟨y.1, 0, none⟩), .int .i64 (s.length : Int)]) w) _ = _; rw [hr]; rfl), Rho.le_refl ρ, R.drop hb' hy (pV w y.1 0 _), rfl, q9⟩
  ·cases e1
 ·cases q1
theorem oT {f : Nat} {fn : Func} (hf : fnAt P f = some fn) : P.funcs[f]? = some fn := by
 have e : at_ (eK P.funcs.toList 0 .leaf fun t => t) f = some fn := hf
 grind [eG, kP]
theorem lookN : (Extern.allNextRows.lookup "internal/abi.NoEscape").isNone = true ∧ (Extern.allNextRows.lookup "").isNone = true := ⟨by kernel_rfl, by kernel_rfl⟩
theorem lookG : (Extern.allGenericRows.lookup "internal/abi.NoEscape").isNone = true ∧ (Extern.allTypedRows.lookup "internal/abi.NoEscape").isNone = true := ⟨by kernel_rfl, by kernel_rfl⟩
theorem lookA : Extern.allRows.lookup "internal/abi.NoEscape" = some Extern.AbiNoEscape.same := by kernel_rfl
theorem ext_run {f : Nat} {x : Value} (hq : extN P f = true) : (callFunc f #[x]).run P w = .ok (.value x) w := by
 unfold extN at hq
 split at hq
 ·cases hq
 ·rename_i fn hf
  split at hq
  ·rename_i hbody
   obtain ⟨h1, h2⟩ := bB hq
   have hn : fn.name = "internal/abi.NoEscape" := eq_of_beq h1
   have ho : fn.origin = "" := eq_of_beq h2
   have e1 : Extern.findNext fn = none := by
    unfold Extern.findNext
    simp only [hn, ho, Option.isNone_iff_eq_none.1 lookN.1, Option.isNone_iff_eq_none.1 lookN.2]; rfl
   have e2 : Extern.find fn = some Extern.AbiNoEscape.same := by
    unfold Extern.find
    simp only [hn, Option.isNone_iff_eq_none.1 lookG.1, Option.isNone_iff_eq_none.1 lookG.2, lookA]; rfl
   rw [run_callFunc_extern (oT hf) (by rw [hn]; decide) (by rw [hbody]; rfl) e1 e2]
   rfl
  ·cases hq
end
end
open RowKit (Below)
noncomputable section
def peR (ρ : Rho) (p : PE) (q : PanicEntry) : Prop := tv ρ p.v = some q.v ∧ q.recovered = p.r ∧ q.goexit = false
def bE (ρ : Rho) : List PE → List PanicEntry → Prop
 | [], [] => True
 | p :: ps, q :: qs => peR ρ p q ∧ bE ρ ps qs
 | _, _ => False
def dfR (ρ : Rho) : Df → Deferred → Prop
 | .fn f args cap, d => ∃ xs ys, tvs ρ args = some xs ∧ tvs ρ cap = some ys ∧ d = { target := .fn (.func f) ⟨ys⟩, args := ⟨xs⟩ }
 | .col r, d => ∃ x, ρ r = some x ∧ d = { target := .collected x.1, args := #[] }
def bU (ρ : Rho) : List Df → List Deferred → Prop
 | [], [] => True
 | p :: ps, q :: qs => dfR ρ p q ∧ bU ρ ps qs
 | _, _ => False
def xR (ρ : Rho) : X → Exit → Prop
 | .normal, .normal => True
 | .exit i, .exit j => i = j
 | .ret, .ret => True
 | .panic ch, .panic ch' => bE ρ ch ch'
 | _, _ => False
structure AcR (ρ : Rho) (c : Ac) (a : Act) : Prop where
 env : aB ρ c.e c.n a.tmps
 ds : bU ρ c.ds a.defers
def roR (ρ : Rho) : Option Nat → Option Nat → Prop
 | none, none => True
 | some l, some l' => ∃ x, ρ l = some x ∧ l' = x.1
 | _, _ => False
theorem bE.mono {ρ ρ' : Rho} (h : ρ.le ρ') : ∀ {p : List PE} {q : List PanicEntry}, bE ρ p q → bE ρ' p q
 | [], [], _ => trivial
 | _ :: _, _ :: _, r => ⟨⟨cK h _ r.1.1, r.1.2⟩, bE.mono h r.2⟩
 | [], _ :: _, r => r.elim
 | _ :: _, [], r => r.elim
theorem dfR.mono {ρ ρ' : Rho} (h : ρ.le ρ') {p : Df} {q : Deferred} (r : dfR ρ p q) : dfR ρ' p q := by
 cases p with
 | fn f a c => grind [dY, dfR]
 | col l => obtain ⟨x, h1, h2⟩ := r; exact ⟨x, h _ _ h1, h2⟩
theorem bU.mono {ρ ρ' : Rho} (h : ρ.le ρ') : ∀ {p : List Df} {q : List Deferred}, bU ρ p q → bU ρ' p q
 | [], [], _ => trivial
 | _ :: _, _ :: _, r => ⟨r.1.mono h, bU.mono h r.2⟩
 | [], _ :: _, r => r.elim
 | _ :: _, [], r => r.elim
theorem AcR.mono {ρ ρ' : Rho} (h : ρ.le ρ') {c : Ac} {a : Act} (r : AcR ρ c a) : AcR ρ' c a := ⟨r.env.mono h, r.ds.mono h⟩
theorem roR.mono {ρ ρ' : Rho} (h : ρ.le ρ') {x y : Option Nat} (r : roR ρ x y) : roR ρ' x y := by
 cases x <;> cases y <;> first
  | exact r
  | (obtain ⟨z, h1, h2⟩ := r; exact ⟨z, h _ _ h1, h2⟩)
def KQ (g : G) (ρ : Rho) (ro : Option Nat) (k : KX) (r : O × S) : Exit → Act → World → Prop := fun ex a w =>
 ∃ x ac ρ' h nx lg, ρ.le ρ' ∧ xR ρ' x ex ∧ AcR ρ' ac a ∧ ac.ro = ro ∧ Rel g ρ' h nx w ∧ run (k x ac) h nx lg = some r
def CR (g : G) (ρ : Rho) (k : O → Prog) (r : O × S) : Ending → World → Prop
 | .returned v, w => ∃ u ρ' h nx lg, ρ.le ρ' ∧ Rel g ρ' h nx w ∧ tv ρ' u = some v ∧ run (k (.val u)) h nx lg = some r
 | .panicked ch', w => ∃ ch ρ' h nx lg, ρ.le ρ' ∧ Rel g ρ' h nx w ∧ bE ρ' ch ch' ∧ run (k (.panic ch)) h nx lg = some r
 | .outgrown, _ => False
def SimC (P : Program) (ex : Ex) : Prop := ∀ (c : Code) (g : G) (ρ : Rho) (ac : Ac) (a : Act) (h : Tr Blk) (nx : Nat) (lg : List Fp) (w : World) (k : KX) (r : O × S) (rr : Option Nat),
 AcR ρ ac a → Rel g ρ h nx w → r.2.nx ≤ g.hi → roR ρ ac.ro rr → run (ex c ac k) h nx lg = some r → c.wpIn (SX.fw rr) 0 P (KQ g ρ ac.ro k r) a w
def SimA (P : Program) (ex : Ex) : Prop := ∀ (f : Nat) (args : List V) (xs : List Value) (g : G) (ρ : Rho) (h : Tr Blk) (nx : Nat) (lg : List Fp) (w : World) (k : O → Prog) (r : O × S),
 tvs ρ args = some xs → Rel g ρ h nx w → r.2.nx ≤ g.hi → run (hO P ex f args k) h nx lg = some r → SX.Callable P f ∧ CallsIn (SX.fw none) 0 P f ⟨xs⟩ w (CR g ρ k r)
def SimY (P : Program) (ex : Ex) : Prop := ∀ (l : Nat) (args : List V) (xs : List Value) (g : G) (ρ : Rho) (h : Tr Blk) (nx : Nat) (lg : List Fp) (w : World) (k : O → Prog) (r : O × S),
 tvs ρ args = some xs → Rel g ρ h nx w → r.2.nx ≤ g.hi → run (kI ex l args k) h nx lg = some r → ∃ x f tmps sg bd, ρ l = some x ∧ (Instr.yield x.1 ⟨xs⟩).run P w = .ok (.round x.1 f tmps sg bd) w ∧ RoundIn (SX.fw none) 0 P x.1 f tmps sg bd w (CR g ρ k r)
theorem jV {P : Program} {f : FuncId} {args : Array Value} {w : World} {R : Ending → World → Prop} {rr : Option Nat} (h : CallsIn (SX.fw none) 0 P f args w R) : CallsIn (SX.fw rr) 0 P f args w R := h
theorem pA {P : Program} {l f : Nat} {t : Array Value} {sg bd : Code} {w : World} {R : Ending → World → Prop} {rr : Option Nat} (h : RoundIn (SX.fw none) 0 P l f t sg bd w R) : RoundIn (SX.fw rr) 0 P l f t sg bd w R := h
section
variable {P : Program} {o : Oper} {a : Act} {w : World} {g : G} {ρ : Rho} {r : O × S} {kv : KV} {kp : List PE → Prog} {kd : Df → Prog} {e : Tr V} {n : Nat} {h : Tr Blk} {nx : Nat} {lg : List Fp} {ex : Ex} {rr : Option Nat} {N : Act → World → Prop} {Q : Exit → Act → World → Prop}
theorem fT (hnd : ∀ c, o.op ≠ .defer c) (rr : Option Nat) : o.semAt rr a.eval = execOp a.eval o := Oper.semAt_eq _ _ _ hnd
theorem wp_ok (hnd : ∀ c, o.op ≠ .defer c) (hk : OkV P o a w g ρ r kv) (hv : ∀ v x ρ' h' nx' lg' w', ρ.le ρ' → Rel g ρ' h' nx' w' → tv ρ' v = some x → run (kv v) h' nx' lg' = some r → N (a.put o.dst x) w') : o.wpIn (SX.fw rr) 0 P a w N Q := by
 obtain ⟨v, x, ρ', h', nx', lg', w', h1, h2, h3, h4, h5⟩ := hk
 refine ⟨fun _ _ => trivial, ?_⟩
 rw [fT hnd]
 grind [Oper.uponIn_value, Oper.uponIn_skip]
theorem meth_run {t f : Nat} {name : String} (z : Value) (hm : iU P t name = some f) (k : Nat) : (method (k + 1) t z name).run P w = .ok (f, z) w := by
 unfold iU at hm
 split at hm
 ·rename_i i hi
  have hi' := dL hi
  split at hm
  ·rename_i m hmm
   split at hm
   ·rename_i hpath
    split at hm
    ·rename_i f' p hfunc
     split at hm
     ·rename_i el hu
      split at hm
      ·cases hm
       simp [method, Sem.run_bind, SX.run_typeInfo hi', hmm, hpath, follow, hfunc, receiverAt, SX.run_underlying (aJ hu), Place.get, Sem.run, Pure.pure]
      ·cases hm
     ·rename_i d hne hu
      split at hm
      ·cases hm
      ·cases hm
       cases d <;> first
        | exact (hne _ rfl).elim
        | simp [method, Sem.run_bind, SX.run_typeInfo hi', hmm, hpath, follow, hfunc, receiverAt, SX.run_underlying (aJ hu), Place.get, Sem.run, Pure.pure]
     ·cases hm
    ·cases hm
   ·cases hm
  ·cases hm
 ·cases hm
theorem op_sim (SA : SimA P ex) (SY : SimY P ex) (he : aB ρ e n a.tmps) (R : Rel g ρ h nx w) (hi : r.2.nx ≤ g.hi) (q : run (opH o.op P ex e kv kp kd) h nx lg = some r)
 (hv : ∀ v x ρ' h' nx' lg' w', ρ.le ρ' → Rel g ρ' h' nx' w' → tv ρ' v = some x → run (kv v) h' nx' lg' = some r → N (a.put o.dst x) w')
 (hp : ∀ ch ch' ρ' h' nx' lg' w', ρ.le ρ' → Rel g ρ' h' nx' w' → bE ρ' ch ch' → run (kp ch) h' nx' lg' = some r → Q (.panic ch') a w')
 (hd : ∀ d d' lg', dfR ρ d d' → run (kd d) h nx lg' = some r → rr = none ∧ N ({ a with defers := d' :: a.defers }.put o.dst undef) w) : o.wpIn (SX.fw rr) 0 P a w N Q := by
 have ok : (∀ c, o.op ≠ .defer c) → OkV P o a w g ρ r kv → o.wpIn (SX.fw rr) 0 P a w N Q := fun hnd hk => wp_ok hnd hk hv
 have call : ∀ {f : Nat} {args : List V} {xs : List Value}, (∀ c, o.op ≠ .defer c) → (execOp a.eval o).run P w = .ok (.enter f ⟨xs⟩) w → CallsIn (SX.fw none) 0 P f ⟨xs⟩ w (CR g ρ (fun o => oOut o kv kp) r) → o.wpIn (SX.fw rr) 0 P a w N Q := by
  intro f args xs hnd hr hc
  refine ⟨fun _ _ => trivial, ?_⟩
  rw [fT hnd, hr, Oper.uponIn_enter]
  refine ⟨(fun h => by cases h), CallsIn.mono (jV hc) fun e' w' he' => ?_⟩
  cases e' with
  | returned v => obtain ⟨u, ρ', h', nx', lg', k1, k2, k3, k4⟩ := he'; exact hv u v ρ' h' nx' lg' w' k1 k2 k3 k4
  | panicked ch' => obtain ⟨ch, ρ', h', nx', lg', k1, k2, k3, k4⟩ := he'; exact hp ch ch' ρ' h' nx' lg' w' k1 k2 k3 k4
  | outgrown => exact he'.elim
 have nd : ∀ {x : Op}, o.op = x → (∀ c, x ≠ .defer c) → ∀ c, o.op ≠ .defer c := by grind
 cases ho : o.op with
 | move x => rw [ho] at q; exact ok (nd ho (by intro c h; cases h)) (s_move (ex := ex) (kp := kp) (kd := kd) (.inl ho) he R q)
 | assign x => rw [ho] at q; exact ok (nd ho (by intro c h; cases h)) (s_move (ex := ex) (kp := kp) (kd := kd) (.inr ho) he R q)
 | pick _ _ _ => rw [ho] at q; exact ok (nd ho (by intro c h; cases h)) (s_pick (ex := ex) (kp := kp) (kd := kd) ho he R q)
 | alloc _ => rw [ho] at q; exact ok (nd ho (by intro c h; cases h)) (s_alloc (e := e) (ex := ex) (kp := kp) (kd := kd) ho hi R q)
 | box _ _ => rw [ho] at q; exact ok (nd ho (by intro c h; cases h)) (s_box (ex := ex) (kp := kp) (kd := kd) ho he hi R q)
 | build _ _ => rw [ho] at q; exact ok (nd ho (by intro c h; cases h)) (s_build (ex := ex) (kp := kp) (kd := kd) ho he R q)
 | buildSlice _ _ _ => rw [ho] at q; exact ok (nd ho (by intro c h; cases h)) (s_buildS (ex := ex) (kp := kp) (kd := kd) ho he hi R q)
 | insert _ _ _ _ => rw [ho] at q; exact ok (nd ho (by intro c h; cases h)) (s_upd (ex := ex) (kp := kp) (kd := kd) (.inr ho) he R q)
 | load _ _ => rw [ho] at q; exact ok (nd ho (by intro c h; cases h)) (s_load (ex := ex) (kp := kp) (kd := kd) ho he R q)
 | store _ _ _ => rw [ho] at q; exact ok (nd ho (by intro c h; cases h)) (s_store (ex := ex) (kp := kp) (kd := kd) ho he R q)
 | ready _ => rw [ho] at q; cases q
 | waits _ => rw [ho] at q; cases q
 | nilCheck _ => rw [ho] at q; exact ok (nd ho (by intro c h; cases h)) (s_nil (ex := ex) (kp := kp) (kd := kd) ho he R q)
 | binOp _ _ _ _ _ => rw [ho] at q; exact ok (nd ho (by intro c h; cases h)) (s_bin (ex := ex) (kp := kp) (kd := kd) ho he R q)
 | unOp _ _ _ => rw [ho] at q; exact ok (nd ho (by intro c h; cases h)) (s_un (ex := ex) (kp := kp) (kd := kd) ho he R q)
 | convert _ _ _ => rw [ho] at q; exact ok (nd ho (by intro c h; cases h)) (s_conv (ex := ex) (kp := kp) (kd := kd) ho he R q)
 | sliceToArrayPointer _ _ => rw [ho] at q; cases q
 | makeInterface _ _ => rw [ho] at q; exact ok (nd ho (by intro c h; cases h)) (s_mkI (ex := ex) (kp := kp) (kd := kd) ho he R q)
 | makeFunc _ _ _ => rw [ho] at q; exact ok (nd ho (by intro c h; cases h)) (s_mkF (ex := ex) (kp := kp) (kd := kd) ho he R q)
 | makeMap _ _ => rw [ho] at q; exact ok (nd ho (by intro c h; cases h)) (s_mapN (e := e) (ex := ex) (kp := kp) (kd := kd) ho hi R q)
 | makeChan _ _ => rw [ho] at q; cases q
 | makeSlice _ _ _ => rw [ho] at q; exact ok (nd ho (by intro c h; cases h)) (s_mks (ex := ex) (kp := kp) (kd := kd) ho he hi R q)
 | slice _ _ _ _ _ => rw [ho] at q; exact ok (nd ho (by intro c h; cases h)) (s_slice (ex := ex) (kp := kp) (kd := kd) ho he R q)
 | fieldAddr _ _ _ => rw [ho] at q; exact ok (nd ho (by intro c h; cases h)) (s_fieldA (ex := ex) (kp := kp) (kd := kd) ho he R q)
 | field _ _ _ => rw [ho] at q; exact ok (nd ho (by intro c h; cases h)) (s_field (ex := ex) (kp := kp) (kd := kd) ho he R q)
 | indexAddr _ _ _ => rw [ho] at q; exact ok (nd ho (by intro c h; cases h)) (s_idxA (ex := ex) (kp := kp) (kd := kd) ho he R q)
 | index _ _ _ => rw [ho] at q; exact ok (nd ho (by intro c h; cases h)) (s_idx (ex := ex) (kp := kp) (kd := kd) ho he R q)
 | lookup _ _ _ _ => rw [ho] at q; exact ok (nd ho (by intro c h; cases h)) (s_look (ex := ex) (kp := kp) (kd := kd) ho he R q)
 | mapUpdate _ _ _ _ => rw [ho] at q; exact ok (nd ho (by intro c h; cases h)) (s_upd (ex := ex) (kp := kp) (kd := kd) (.inl ho) he R q)
 | mapEntry _ _ _ => rw [ho] at q; cases q
 | entryStore _ _ _ _ => rw [ho] at q; cases q
 | range _ _ => rw [ho] at q; cases q
 | next _ _ => rw [ho] at q; cases q
 | entry _ => rw [ho] at q; cases q
 | typeAssert _ _ _ _ => rw [ho] at q; exact ok (nd ho (by intro c h; cases h)) (s_ta (ex := ex) (kp := kp) (kd := kd) ho he R q)
 | extract _ _ => rw [ho] at q; exact ok (nd ho (by intro c h; cases h)) (s_ext (ex := ex) (kp := kp) (kd := kd) ho he R q)
 | call c =>
  rw [ho] at q
  have hnd : ∀ c', o.op ≠ .defer c' := nd ho (by intro c h; cases h)
  have q0 : run (hCal c.callee c P ex e kv kp kd) h nx lg = some r := q
  cases hc : c.callee with
  | builtin b =>
   rw [hc] at q0
   cases b with
   | append => exact ok hnd (s_append (ex := ex) (kp := kp) (kd := kd) ho hc he hi R q0)
   | len => exact ok hnd (s_len (ex := ex) (kp := kp) (kd := kd) ho hc he R q0)
   | cap => exact ok hnd (s_cap (ex := ex) (kp := kp) (kd := kd) ho hc he R q0)
   | min => exact ok hnd (s_mm (least := true) (ex := ex) (kp := kp) (kd := kd) ho hc he R q0)
   | max => exact ok hnd (s_mm (least := false) (ex := ex) (kp := kp) (kd := kd) ho hc he R q0)
   | clear => exact ok hnd (s_clear (ex := ex) (kp := kp) (kd := kd) ho hc he R q0)
   | unsafeSliceData => exact ok hnd (s_slD (ex := ex) (kp := kp) (kd := kd) ho hc he R q0)
   | unsafeString => exact ok hnd (s_uStr (ex := ex) (kp := kp) (kd := kd) ho hc he R q0)
   | _ => cases q0
  | value f =>
   rw [hc] at q0
   obtain ⟨fv, h1, q1⟩ := aZ q0
   obtain ⟨args, h2, q2⟩ := bK q1
   have hfv := aH he h1
   have hargs := bH he h2
   have hres : ∀ {t : Target} {az9 : Array Value}, Deferred.ofValue (a.eval f) (c.args.map a.eval) = Sem.pure { target := t, args := az9 } → ∀ {y : Result Next}, (invoke t az9).run P w = y → (execOp a.eval o).run P w = y := by
    intro t az9 h3 y h4
    have : execOp a.eval o = invoke t az9 := by
     unfold execOp
     rw [ho]
     show ((resolve a.eval c o.type).bind fun d => invoke d.target d.args) = _
     have h5 : resolve a.eval c o.type = Sem.pure { target := t, args := az9 } := by
      grind [resolve]
     rw [h5]; rfl
    rw [this]; exact h4
   rcases kA q2 with ⟨gf, first, cap, rfl, q3⟩ | ⟨l, rfl, q3⟩
   ·simp only [tv] at hfv
    cases hf1 : tvs ρ first with
    | none => grind
    | some xs =>
     rw [hf1] at hfv
     simp only at hfv
     cases hf2 : tvs ρ cap with
     | none => grind
     | some ys =>
      rw [hf2] at hfv
      have hX : a.eval f = .func (.func gf) ⟨xs⟩ ⟨ys⟩ := (Option.some.inj hfv).symm
      rw [bO, bO] at q3
      have hall : tvs ρ (first ++ (args ++ cap)) = some (xs ++ (c.args.toList.map a.eval ++ ys)) := by grind [cQ]
      have e1 : (⟨xs⟩ ++ c.args.map a.eval ++ ⟨ys⟩ : Array Value) = ⟨xs ++ (c.args.toList.map a.eval ++ ys)⟩ := by apply Array.ext'; simp
      rcases bP (o := bod P gf) q3 with ⟨_, q4⟩ | ⟨p, hp, q4⟩
      ·unfold extA at q4
       split at q4
       ·rename_i v hl
        obtain ⟨hx, q5⟩ := aG q4
        rw [hl] at hall
        obtain ⟨z, zs, k1, k2, k3⟩ := aN.1 hall
        rw [cM] at k2; subst k2
        refine ok hnd (.pure R (hres (t := .fn (.func gf) ⟨ys⟩) (az9 := ⟨xs⟩ ++ c.args.map a.eval) (by rw [hX]; rfl) ?_) k1 q5)
        grind [invoke, ext_run]
       ·cases q4
      ·have q5 : run (hO P ex gf (first ++ (args ++ cap)) fun o => oOut o kv kp) h nx lg = some r := by
        show run (opt (bod P gf) .fail fun q => callQ P ex q (first ++ (args ++ cap)) fun o => oOut o kv kp) h nx lg = some r
        rw [hp]; exact q4
       obtain ⟨hcall, hC⟩ := SA gf _ _ g ρ h nx lg w _ r hall R hi q5
       refine call (args := first ++ (args ++ cap)) hnd (hres (t := .fn (.func gf) ⟨ys⟩) (az9 := ⟨xs⟩ ++ c.args.map a.eval) (by rw [hX]; rfl) ?_) hC
       grind [invoke, SX.run_callFunc]
   ·simp only [tv, Option.map_eq_some_iff] at hfv
    obtain ⟨x, hx, hX⟩ := hfv
    obtain ⟨x', f', tmps, sg, bd, k1, k2, k3⟩ := SY l args _ g ρ h nx lg w _ r hargs R hi q3
    rw [hx] at k1; cases k1
    refine ⟨fun _ _ => trivial, ?_⟩
    have e1 : (⟨c.args.toList.map a.eval⟩ : Array Value) = c.args.map a.eval := by apply Array.ext'; simp
    rw [e1] at k2
    rw [fT hnd, hres (t := .fn (.yield x.1) #[]) (az9 := #[] ++ c.args.map a.eval) (by rw [← hX]; rfl) (by simp only [invoke, Array.empty_append]; exact k2), Oper.uponIn_round]
    refine ⟨(fun h => by cases h), RoundIn.mono (pA k3) fun e' w' he' => ?_⟩
    cases e' with
    | returned v => obtain ⟨u, ρ', h', nx', lg', k1, k2, k3, k4⟩ := he'; exact hv u v ρ' h' nx' lg' w' k1 k2 k3 k4
    | panicked ch' => obtain ⟨ch, ρ', h', nx', lg', k1, k2, k3, k4⟩ := he'; exact hp ch ch' ρ' h' nx' lg' w' k1 k2 k3 k4
    | outgrown => exact he'.elim
  | invoke x name =>
   rw [hc] at q0
   obtain ⟨v, h1, q1⟩ := aZ q0
   obtain ⟨args, h2, q2⟩ := bK q1
   have hxv := aH he h1
   have hargs := bH he h2
   rcases jR q2 with ⟨t, u, rfl, q3⟩ | ⟨_, q3⟩
   ·obtain ⟨f, hm, q4⟩ := aA (o := iU P t name) q3
    simp only [tv] at hxv
    cases hu : tv ρ u with
    | none => grind
    | some z =>
     rw [hu] at hxv
     have hX : a.eval x = .iface t z := (Option.some.inj hxv).symm
     have hall : tvs ρ (u :: args) = some (z :: c.args.toList.map a.eval) := by grind [tvs]
     obtain ⟨hcall, hC⟩ := SA f _ _ g ρ h nx lg w _ r hall R hi q4
     refine call (args := u :: args) hnd ?_ hC
     have e1 : (#[z] ++ c.args.map a.eval : Array Value) = ⟨z :: c.args.toList.map a.eval⟩ := by apply Array.ext'; simp
     have e2 : execOp a.eval o = invoke (.fn (.method name) #[]) (#[a.eval x] ++ c.args.map a.eval) := by
      unfold execOp
      rw [ho]
      show ((resolve a.eval c o.type).bind fun d => invoke d.target d.args) = _
      have h5 : resolve a.eval c o.type = Sem.pure { target := .fn (.method name) #[], args := #[a.eval x] ++ c.args.map a.eval } := by
       unfold resolve; rw [hc]; rfl
      rw [h5]; rfl
     rw [e2, hX]
     have hmr : (method (P.types.size + Made.depth) t z name).run P w = .ok (f, z) w := meth_run (w := w) z hm (P.types.size + 99)
     have h0 : (#[Value.iface t z] ++ c.args.map a.eval)[0]? = some (.iface t z) := by grind
     have h9 : (#[Value.iface t z] ++ c.args.map a.eval).extract 1 (#[Value.iface t z] ++ c.args.map a.eval).size = c.args.map a.eval := by
      simp_all
     have hcm : (callMethod (.iface t z) name (c.args.map a.eval)).run P w = .ok (.enter f (#[z] ++ c.args.map a.eval)) w := by
      have hprog : (program : Sem Program).run P w = .ok P w := rfl
      unfold callMethod
      simp_all [SX.run_callFunc]
     grind [invoke]
   ·cases q3
 | go _ => rw [ho] at q; cases q
 | defer c =>
  rw [ho] at q
  obtain ⟨f, hf, q1⟩ := aA (o := valOf c.callee) q
  have hc : c.callee = .value f := by
   cases hcc : c.callee <;> rw [hcc] at hf <;> cases hf
   rfl
  obtain ⟨fv, h1, q2⟩ := aZ q1
  obtain ⟨args, h2, q3⟩ := bK q2
  have hfv := aH he h1
  have hargs := bH he h2
  rcases kA q3 with ⟨gf, first, cap, rfl, q4⟩ | ⟨l, rfl, q4⟩
  ·simp only [tv] at hfv
   cases hf1 : tvs ρ first with
   | none => grind
   | some xs =>
    rw [hf1] at hfv
    simp only at hfv
    cases hf2 : tvs ρ cap with
    | none => grind
    | some ys =>
     rw [hf2] at hfv
     have hX : a.eval f = .func (.func gf) ⟨xs⟩ ⟨ys⟩ := (Option.some.inj hfv).symm
     rw [bO] at q4
     obtain ⟨rfl, hN⟩ := hd (.fn gf (first ++ args) cap) { target := .fn (.func gf) ⟨ys⟩, args := ⟨xs ++ c.args.toList.map a.eval⟩ } lg ⟨_, _, (by grind [cQ]), hf2, rfl⟩ q4
     refine ⟨fun _ _ => trivial, ?_⟩
     have e1 : (⟨xs⟩ ++ c.args.map a.eval : Array Value) = ⟨xs ++ c.args.toList.map a.eval⟩ := by apply Array.ext'; simp
     have e2 : execOp a.eval o = Sem.pure (.defer { target := .fn (.func gf) ⟨ys⟩, args := ⟨xs ++ c.args.toList.map a.eval⟩ }) := by
      unfold execOp
      rw [ho]
      show ((resolve a.eval c o.type).bind fun d => Sem.pure (Next.defer d)) = _
      have h5 : resolve a.eval c o.type = Sem.pure { target := .fn (.func gf) ⟨ys⟩, args := ⟨xs⟩ ++ c.args.map a.eval } := by
       unfold resolve; rw [hc]; show Deferred.ofValue (a.eval f) _ = _; rw [hX]; rfl
      rw [h5, e1]; rfl
     show o.uponIn _ _ _ _ _ _ ((o.semAt none a.eval).run P w)
     rw [Oper.semAt_none, e2]
     exact hN
  ·cases q4
 | panic x =>
  rw [ho] at q
  have hnd : ∀ c', o.op ≠ .defer c' := nd ho (by intro c h; cases h)
  obtain ⟨v, h1, q1⟩ := aZ q
  have hxv := aH he h1
  rcases jR q1 with ⟨t, u, rfl, q3⟩ | ⟨_, q3⟩
  ·have hxv' := hxv
   simp only [tv] at hxv
   cases hu : tv ρ u with
   | none => grind
   | some z =>
    rw [hu] at hxv
    have hX : a.eval x = .iface t z := (Option.some.inj hxv).symm
    refine ⟨fun _ _ => trivial, ?_⟩
    rw [fT hnd]
    have hr : (execOp a.eval o).run P w = .halt (.panic (.iface t z)) w := by simp [execOp, ho, hX, Instr.panic, goPanic, Sem.run_bind, Sem.run]
    rw [hr, Oper.uponIn_panic]
    exact hp [⟨.iface t u, false⟩] _ ρ h nx lg w (Rho.le_refl ρ) R ⟨(by grind [peR]), trivial⟩ q3
  ·cases q3
 | send _ _ => rw [ho] at q; cases q
 | recv _ _ _ => rw [ho] at q; cases q
 | select _ _ => rw [ho] at q; cases q
end
end
open RowKit (Below)
noncomputable section
section
variable {P : Program} {a : Act} {w : World} {g : G} {ρ : Rho} {r : O × S} {e : Tr V} {n : Nat} {h : Tr Blk} {nx : Nat} {lg : List Fp} {ex : Ex} {rr : Option Nat}
theorem bod_eq {f : Nat} {q : Func × Code} (hq : bod P f = some q) : P.funcs[f]? = some q.1 ∧ q.1.body = some q.2 ∧ SX.Callable P f := by
 unfold bod at hq
 split at hq
 ·cases hq
 ·rename_i fn hf
  have hf' := oT hf
  split at hq
  ·cases hq
  ·rename_i c hb
   split at hq
   ·cases hq
   ·rename_i hn
    cases hq
    refine ⟨hf', hb, ?_⟩
    unfold SX.Callable SX.callB
    grind
theorem lR : ∀ (l : List V) (i : Nat) (e0 : Tr V) {k : Tr V → Prog}, run (kL l i e0 k) h nx lg = some r → ∃ e1, run (k e1) h nx lg = some r ∧ ∀ t, at_ e1 t = if i ≤ t ∧ t < i + l.length then l[t - i]? else at_ e0 t
 | [], i, e0, k, q => ⟨e0, q, (by grind)⟩
 | v :: l, i, e0, k, q => by
  have q' : run (pp e0 (some v) (pa i) fun e => kL l (i + 1) e k) h nx lg = some r := q
  rw [cX] at q'
  obtain ⟨e1, q1, h1⟩ := lR l (i + 1) _ q'
  refine ⟨e1, q1, fun t => ?_⟩
  rw [h1 t]
  by_cases h2 : i + 1 ≤ t ∧ t < i + 1 + l.length
  ·grind
  grind [aW]
theorem nA {fn : Func} {args : List V} {xs : List Value} {k : Ac → Prog} (hx : tvs ρ args = some xs) (q : run (kC fn args k) h nx lg = some r) :
 ∃ ac, run (k ac) h nx lg = some r ∧ ac.ro = none ∧ AcR ρ ac { tmps := (⟨xs⟩ : Array Value) ++ Array.replicate (fn.ntmps - (⟨xs⟩ : Array Value).size) undef, defers := [] } ∧ ac.n = fn.ntmps := by
 obtain ⟨hb, q1⟩ := aG q
 rw [ln0] at hb
 have hb : args.length ≤ fn.ntmps := Nat.le_of_ble_eq_true hb
 obtain ⟨e1, q2, h1⟩ := lR args 0 .leaf q1
 have hl := dK hx
 refine ⟨_, q2, rfl, ⟨⟨by simp; omega, fun t v ht => ?_⟩, trivial⟩, rfl⟩
 rw [h1 t] at ht
 split at ht
 ·rw [Nat.sub_zero] at ht
  grind [fP]
 grind [eG]
theorem res1_run {rv : ResultVar} {t : Array Value} {k : V → Prog} (he : aB ρ e n t) (R : Rel g ρ h nx w) (q : run (res1 P e rv k) h nx lg = some r) :
 ∃ v x lg', (match rv with
  | .tmp i => (Pure.pure (t.getD i undef) : Sem Value)
  | .cell i T => do loadVar T (← Go.asAddr (t.getD i undef))).run P w = .ok x w ∧ tv ρ v = some x ∧ run (k v) h nx lg' = some r := by
 cases rv with
 | tmp i =>
  obtain ⟨v, hv, q1⟩ := aA (o := gp e (pa i)) q
  obtain ⟨x, h1, h2⟩ := he.get i v hv
  exact ⟨v, x, lg, by simp_all, h2, q1⟩
 | cell i T =>
  obtain ⟨v, hv, q1⟩ := aA (o := gp e (pa i)) q
  obtain ⟨s, hs, q2⟩ := aA q1
  obtain ⟨b, off, rfl, q3⟩ := eR q2
  obtain ⟨x, h1, h2⟩ := he.get i _ hv
  obtain ⟨y, hb, rfl⟩ := bS h2
  obtain ⟨u, z, lg', h3, h4, q4⟩ := mK R hs hb q3
  exact ⟨u, z, lg', by simp [Array.getD_eq_getD_getElem?, h1, Go.asAddr, Sem.run_bind, h3, Sem.run, Pure.pure], h4, q4⟩
theorem mG {t : Array Value} (he : aB ρ e n t) (R : Rel g ρ h nx w) : ∀ (rs : List ResultVar) {k : List V → Prog} {lg : List Fp}, run (resA P e rs k) h nx lg = some r →
 ∃ vs xs lg', (rs.mapM (m := Sem) fun
  | .tmp i => Pure.pure (t.getD i undef)
  | .cell i T => do loadVar T (← Go.asAddr (t.getD i undef))).run P w = .ok xs w ∧ tvs ρ vs = some xs ∧ run (k vs) h nx lg' = some r
 | [], k, lg, q => ⟨[], [], lg, by simp_all, rfl, q⟩
 | rv :: rs, k, lg, q => by
  obtain ⟨v, x, lg1, h1, h2, q1⟩ := res1_run (k := fun v => resA P e rs fun vs => k (v :: vs)) he R q
  obtain ⟨vs, xs, lg2, h3, h4, q2⟩ := mG he R rs q1
  refine ⟨v :: vs, x :: xs, lg2, ?_, (by grind [tvs]), q2⟩
  simp_all
theorem oneOf_tv {vs : List V} {xs : List Value} (h : tvs ρ vs = some xs) : tv ρ (dI vs) = some (if h : xs.toArray.size = 1 then xs.toArray[0] else .tuple xs.toArray) := by
 have hl := dK h
 match vs, xs with
 | [], [] => simp [dI, tv, tvs]
 | [v], [x] =>
  obtain ⟨y, ys, h1, _, h2⟩ := aN.1 h
  grind [dI]
 | v :: u :: vs, x :: y :: xs =>
  have : dI (v :: u :: vs) = .tup (v :: u :: vs) := rfl
  grind [tv]
 | [], _ :: _ => simp at hl
 | _ :: _, [] => simp at hl
 | [_], _ :: _ :: _ => simp at hl
 | _ :: _ :: _, [_] => simp at hl
theorem oV {fn : Func} {t : Array Value} {k : List V → Prog} (he : aB ρ e n t) (R : Rel g ρ h nx w) (q : run (resA P e fn.results.toList k) h nx lg = some r) :
 ∃ vs x lg', (results fn t).run P w = .ok x w ∧ tv ρ (dI vs) = some x ∧ run (k vs) h nx lg' = some r := by
 obtain ⟨vs, xs, lg', h1, h2, q1⟩ := mG he R fn.results.toList q
 refine ⟨vs, _, lg', ?_, oneOf_tv h2, q1⟩
 unfold results
 have hm : (fn.results.mapM (m := Sem) fun
  | .tmp i => Pure.pure (t.getD i undef)
  | .cell i T => do loadVar T (← Go.asAddr (t.getD i undef))).run P w = .ok xs.toArray w := by
  rw [← Array.toArray_toList (xs := fn.results), List.mapM_toArray, map_eq_pure_bind, Sem.run_bind]
  simp_all
 rw [Sem.run_bind]
 exact Eq.trans (congrArg (fun z => Result.andThen z fun (vs : Array Value) w' => Sem.run P (Pure.pure (if h : vs.size = 1 then vs[0] else .tuple vs)) w') hm) rfl
def fmR (ρ : Rho) : FM → FrameMode → Prop
 | .ret, .returning => True
 | .pan ch, .panicking ch' => bE ρ ch ch'
 | _, _ => False
theorem fmR.mono {ρ ρ' : Rho} (hl : ρ.le ρ') {u : FM} {u' : FrameMode} (r : fmR ρ u u') : fmR ρ' u u' := by
 cases u <;> cases u' <;> first
  | exact r
  | exact bE.mono hl r
theorem mR {ρ : Rho} : ∀ {a b : List PE} {c d : List PanicEntry}, bE ρ a c → bE ρ b d → bE ρ (a ++ b) (c ++ d)
 | [], _, [], _, _, h => h
 | _ :: _, _, _ :: _, _, h1, h2 => ⟨h1.1, mR h1.2 h2⟩
 | [], _, _ :: _, _, h, _ => h.elim
 | _ :: _, _, [], _, h, _ => h.elim
theorem mT {ρ : Rho} : ∀ {a : List PE} {c : List PanicEntry}, bE ρ a c → c.dropWhile (fun p => !p.goexit) = []
 | [], [], _ => rfl
 | _ :: _, q :: qs, h => by
  rw [List.dropWhile_cons]
  simp only [h.1.2.2, Bool.not_false, if_true]
  exact mT h.2
 | [], _ :: _, h => h.elim
 | _ :: _, [], h => h.elim
theorem mQ {u : FM} {u' : FrameMode} (hu : fmR ρ u u') : fmR ρ (fK u) (settle u') := by
 cases u with
 | ret => cases u' <;> first | exact hu | exact hu.elim
 | pan ch =>
  cases u' with
  | returning => exact hu.elim
  | run => exact hu.elim
  | panicking ch' =>
   match ch, ch', hu with
   | [], [], _ => exact trivial
   | ⟨v, true⟩ :: ps, q :: qs, hu =>
    obtain ⟨qv, qr, qg⟩ := q
    have h1 : qr = true := hu.1.2.1
    subst h1
    have := mT hu.2
    simp only [fK, settle, this]
    trivial
   | ⟨v, false⟩ :: ps, q :: qs, hu =>
    obtain ⟨qv, qr, qg⟩ := q
    have h1 : qr = false := hu.1.2.1
    subst h1
    exact hu
theorem nR {u : FM} {u' : FrameMode} {ch : List PE} {ch' : List PanicEntry} (hu : fmR ρ u u') (hc : bE ρ ch ch') : fmR ρ (kF u ch) (raised u' ch') := by
 cases u with
 | ret => cases u' <;> first | exact hc | exact hu.elim
 | pan old =>
  cases u' <;> first
   | exact hu.elim
   | (show bE ρ (ap ch old) _; rw [bO]; exact mR hc hu)
theorem fmR_run {u : FM} {u' : FrameMode} (hu : fmR ρ u u') : u' ≠ .run := fun e => by subst e; cases u <;> exact hu.elim
end
end
open RowKit (Below)
noncomputable section
section
variable {P : Program} {a : Act} {w : World} {g : G} {ρ : Rho} {r : O × S} {e : Tr V} {n : Nat} {h : Tr Blk} {nx : Nat} {lg : List Fp} {ex : Ex} {rr : Option Nat}
theorem nP {d : Option Nat} {v : V} {x : Value} {k : Tr V → Prog} (he : aB ρ e n a.tmps) (hv : tv ρ v = some x) (q : run (insE d v e n k) h nx lg = some r) : ∃ e', run (k e') h nx lg = some r ∧ aB ρ e' n (a.put d x).tmps := by
 cases d with
 | none => exact ⟨e, q, he⟩
 | some t =>
  have q' : run (Bool.rec .fail (pp e (some v) (pa t) k) (Nat.blt t n) : Prog) h nx lg = some r := q
  cases hb : Nat.blt t n with
  | false => rw [hb] at q'; cases q'
  | true =>
   rw [hb] at q'
   have q2 : run (pp e (some v) (pa t) k) h nx lg = some r := q'
   rw [cX] at q2
   rw [Nat.blt_eq] at hb
   exact ⟨_, q2, he.put hb hv⟩
theorem lV {d : Option Nat} {ac : Ac} {v : V} {x : Value} {k : Ac → Prog} (hA : AcR ρ ac a) (hv : tv ρ v = some x) (q : run (insK d ac v k) h nx lg = some r) : ∃ ac', run (k ac') h nx lg = some r ∧ AcR ρ ac' (a.put d x) ∧ ac'.ro = ac.ro := by
 obtain ⟨e, n, ds, ro⟩ := ac
 obtain ⟨e', q1, h1⟩ := nP (k := fun e => k ⟨e, n, ds, ro⟩) hA.env hv q
 exact ⟨_, q1, ⟨h1, by cases d <;> exact hA.ds⟩, rfl⟩
theorem rcv_R {u : FM} {u' : FrameMode} {c₀ : Frame} {cs : List Frame} (hu : fmR ρ u u') (hm : c₀.mode = u') :
 ∃ v u2 cs', (match recoverD (c₀ :: cs) with | some p => p | none => (Value.nilIface, c₀ :: cs)) = (v, cs') ∧ tv ρ (rcv u).1 = some v ∧ cs' = { c₀ with mode := u2 } :: cs ∧ fmR ρ (rcv u).2 u2 := by
 obtain ⟨f0, t0, td0, d0, m0, k0, r0⟩ := c₀
 simp only at hm
 subst hm
 cases u with
 | ret => cases m0 <;> first | exact hu.elim | exact ⟨.nilIface, _, _, rfl, rfl, rfl, hu⟩
 | pan ch =>
  cases m0 with
  | run => exact hu.elim
  | returning => exact hu.elim
  | panicking ch' =>
   match ch, ch', hu with
   | [], [], hu => exact ⟨.nilIface, _, _, rfl, rfl, rfl, hu⟩
   | ⟨v, true⟩ :: ps, ⟨qv, qr, qg⟩ :: qs, hu =>
    have h1 : qr = true := hu.1.2.1
    subst h1
    exact ⟨.nilIface, _, _, rfl, rfl, rfl, hu⟩
   | ⟨v, false⟩ :: ps, ⟨qv, qr, qg⟩ :: qs, hu =>
    have h1 : qr = false := hu.1.2.1
    have h2 : qg = false := hu.1.2.2
    subst h1 h2
    exact ⟨qv, .panicking ({ v := qv, recovered := true } :: qs), _, rfl, hu.1.1, rfl, ⟨hu.1.1, rfl, rfl⟩, hu.2⟩
theorem nU {o : Oper} {d : Nat} (hh : dA o = some d) : o.guard = none ∧ o.op = .call { callee := .builtin .recover, args := #[], argTypes := (match o.op with | .call c => c.argTypes | _ => #[]) } ∧ o.dst = some d := by
 unfold dA at hh
 split at hh
 ·cases hh
 ·rename_i hg
  split at hh
  ·rename_i c ho
   split at hh
   ·rename_i hc
    split at hh
    ·rename_i ha
     refine ⟨hg, ?_, hh⟩
     rw [ho]
     obtain ⟨cl, az9, ts⟩ := c
     simp only at hc ha
     subst hc
     have : az9 = #[] := by apply Array.ext'; exact ha
     subst this; rfl
    ·cases hh
   ·cases hh
  ·cases hh
theorem isAsg_eq {o : Oper} {d e : Nat} (hh : fY d o = some e) : o.guard = none ∧ o.op = .assign (.tmp d) ∧ o.dst = some e := by
 unfold fY at hh
 split at hh
 ·cases hh
 ·rename_i hg
  split at hh
  ·rename_i t ho
   split at hh
   ·rename_i ht
    have := Nat.eq_of_beq_eq_true ht
    subst this
    exact ⟨hg, ho, hh⟩
   ·cases hh
  ·cases hh
theorem recB_eq {c y : Code} {d : Nat} {e' : Option Nat} (hh : recB c = some (d, e', y)) : ∃ id ops, c = .seq (.region id ops false) y ∧ ((∃ o, ops = #[o] ∧ dA o = some d ∧ e' = none) ∨ ∃ o p e2, ops = #[o, p] ∧ dA o = some d ∧ fY d p = some e2 ∧ e' = some e2) := by
 unfold recB at hh
 split at hh
 ·rename_i id ops y'
  split at hh
  ·rename_i o p hops
   split at hh
   ·rename_i d' hd
    split at hh
    ·rename_i e2 he2
     cases hh
     exact ⟨id, ops, rfl, .inr ⟨o, p, e2, by apply Array.ext'; exact hops, hd, he2, rfl⟩⟩
    ·cases hh
   ·cases hh
  ·rename_i o hops
   split at hh
   ·rename_i d' hd
    cases hh
    exact ⟨id, ops, rfl, .inl ⟨o, by apply Array.ext'; exact hops, hd, rfl⟩⟩
   ·cases hh
  ·cases hh
 ·cases hh
theorem mZ {o : Oper} (ho : o.op = .call { callee := .builtin .recover, args := #[], argTypes := (match o.op with | .call c => c.argTypes | _ => #[]) }) (ρ' : Operand → Value) : (execOp ρ' o).run P w = .ok .recover w := by
 generalize hts : (match o.op with | .call c => c.argTypes | _ => #[]) = ts at ho
 simp [execOp, ho, resolve, invoke, builtin, Sem.run_bind, Sem.run, Pure.pure]
theorem wp_rec {id : Nat} {ops : Array Oper} {y : Code} {d : Nat} {e' : Option Nat} {S : Exit → Act → List Frame → World → Prop} {cs cs' : List Frame} {v : Value} (hn : d < a.tmps.size)
 (hops : (∃ o, ops = #[o] ∧ dA o = some d ∧ e' = none) ∨ ∃ o p e2, ops = #[o, p] ∧ dA o = some d ∧ fY d p = some e2 ∧ e' = some e2)
 (hr : (match recoverD cs with | some p => p | none => (Value.nilIface, cs)) = (v, cs')) (hy : y.wpSIn (SX.fw none) 0 P S ((a.put (some d) v).put e' v) cs' w) : (Code.seq (.region id ops false) y).wpSIn (SX.fw none) 0 P S a cs w := by
 refine wpSIn_seq (wpSIn_region ?_)
 rcases hops with ⟨o, rfl, h1, rfl⟩ | ⟨o, p, e2, rfl, h1, h2, rfl⟩
 ·obtain ⟨g0, o0, d0⟩ := nU h1
  have hl : List.range (#[o] : Array Oper).size = [0] := rfl
  have i0 : (#[o] : Array Oper)[0]? = some o := rfl
  have w0 : Region.wanted o (yielded #[o] a.tmps) = true := by simp [Region.wanted, g0]
  have hfin : wpOpsSIn (SX.fw none) 0 P #[o] (Exit.thenS (y.wpSIn (SX.fw none) 0 P S) S) [] (a.put o.dst v) cs' w := by rw [d0]; exact hy
  rw [hl, wpOpsSIn]
  simp only [i0, w0, if_true, mZ o0]
  refine ⟨fun _ _ => trivial, ?_⟩
  cases hrec : recoverD cs with
  | none => rw [hrec] at hr; cases hr; exact hfin
  | some p => rw [hrec] at hr; obtain ⟨v', cs''⟩ := p; cases hr; exact hfin
 ·obtain ⟨g0, o0, d0⟩ := nU h1
  obtain ⟨g1, o1, d1⟩ := isAsg_eq h2
  have hl : List.range (#[o, p] : Array Oper).size = [0, 1] := rfl
  have i0 : (#[o, p] : Array Oper)[0]? = some o := rfl
  have i1 : (#[o, p] : Array Oper)[1]? = some p := rfl
  have w0 : Region.wanted o (yielded #[o, p] a.tmps) = true := by simp [Region.wanted, g0]
  have w1 : Region.wanted p (yielded #[o, p] (a.put (some d) v).tmps) = true := by simp [Region.wanted, g1]
  have hev : (a.put (some d) v).eval (.tmp d) = v := by simp [Act.eval, Act.put, Array.getD_eq_getD_getElem?, hn]
  have he1 : ∀ w, (execOp (a.put (some d) v).eval p).run P w = .ok (.value v) w := fun w => by simp [execOp, o1, hev, Sem.run, Pure.pure]
  have hfin : wpOpsSIn (SX.fw none) 0 P #[o, p] (Exit.thenS (y.wpSIn (SX.fw none) 0 P S) S) [1] (a.put o.dst v) cs' w := by
   rw [d0]
   simp only [wpOpsSIn, i1, w1, if_true, he1]
   rw [d1]
   exact ⟨fun _ _ => trivial, hy⟩
  rw [hl, wpOpsSIn]
  simp only [i0, w0, if_true, mZ o0]
  refine ⟨fun _ _ => trivial, ?_⟩
  cases hrec : recoverD cs with
  | none => rw [hrec] at hr; cases hr; exact hfin
  | some p => rw [hrec] at hr; obtain ⟨v', cs''⟩ := p; cases hr; exact hfin
theorem nG {x : X} {ds : List Df} {u u2 : FM} {exi : Exit} {dd : List Deferred} (hq : after x ds u = some u2) (hx : xR ρ x exi) (hd : bU ρ ds dd) :
 dd = [] ∧ (((exi = .normal ∨ exi = .ret) ∧ u2 = fK u) ∨ ∃ ch ch', exi = .panic ch' ∧ bE ρ ch ch' ∧ u2 = kF u ch) := by
 cases ds with
 | cons => cases hq
 | nil =>
  have hdd : dd = [] := by cases dd <;> first | rfl | exact hd.elim
  refine ⟨hdd, ?_⟩
  cases x with
  | normal => cases exi <;> first | exact hx.elim | (cases hq; exact .inl ⟨.inl rfl, rfl⟩)
  | ret => cases exi <;> first | exact hx.elim | (cases hq; exact .inl ⟨.inr rfl, rfl⟩)
  | exit => cases hq
  | panic ch => cases exi <;> first | exact hx.elim | (cases hq; exact .inr ⟨_, _, rfl, hx, rfl⟩)
theorem cY (SC : SimC P ex) {fn : Func} {t : Array Value} {k : O → Prog} {ρ0 : Rho} : ∀ (ds : List Df) (ds' : List Deferred) (u : FM) (u' : FrameMode) (ρ : Rho) (h : Tr Blk) (nx : Nat) (lg : List Fp) (w : World), ρ0.le ρ → bU ρ ds ds' → fmR ρ u u' → aB ρ e n t →
 Rel g ρ h nx w → r.2.nx ≤ g.hi → run (cA P ex fn e k ds u) h nx lg = some r → LeavesInM (SX.fw none) 0 P fn t (CR g ρ0 k r) ds' u' w
 | [], ds', u, u', ρ, h, nx, lg, w, h0, hd, hu, he, R, hi, q => by
  cases ds' with
  | cons => exact hd.elim
  | nil =>
   cases u with
   | ret =>
    cases u' <;> first | exact hu.elim | skip
    obtain ⟨vs, x, lg', h1, h2, q1⟩ := oV (k := fun l => k (.val (dI l))) he R q
    exact ⟨x, h1, dI vs, ρ, h, nx, lg', h0, R, h2, q1⟩
   | pan ch =>
    cases u' <;> first | exact hu.elim | skip
    exact ⟨ch, ρ, h, nx, lg, h0, R, hu, q⟩
 | d :: ds, ds', u, u', ρ, h, nx, lg, w, h0, hd, hu, he, R, hi, q => by
  cases ds' with
  | nil => exact hd.elim
  | cons d' ds' =>
   obtain ⟨hd1, hd2⟩ := hd
   have q0 : run (defer1 P ex d u (cA P ex fn e k ds)) h nx lg = some r := q
   refine ⟨fmR_run hu, ?_⟩
   cases d with
   | col rb =>
    obtain ⟨x, hx, rfl⟩ := hd1
    have q1 : run (.getO rb fun o => match o with
     | .dfr true => .setO rb (.dfr false) (cA P ex fn e k ds u)
     | _ => .fail) h nx lg = some r := q0
    rw [bZ] at q1
    obtain ⟨ob, h1, n1, l1, e1, q2⟩ := aI q1
    obtain ⟨y, o', k1, k2, k3, _, k5, k6⟩ := cH R e1
    subst k5 k6
    rw [hx] at k1; cases k1
    cases ob with
    | map => cases q2
    | loop => cases q2
    | dfr b =>
     cases b with
     | false => cases q2
     | true =>
      have q3 : run (.setO rb (.dfr false) (cA P ex fn e k ds u)) h1 n1 (l1 ++ lg) = some r := q2
      rw [dM] at q3
      obtain ⟨_, h2, n2, l2, e2, q4⟩ := aI q3
      cases o' <;> first
       | exact k3.elim
       | skip
      have hk3 : _ = some [] := k3
      subst hk3
      have hR2 := dW R e2 hx (o1 := .deferred none) rfl
      exact .inl ⟨x.1, _, rfl, run_takeDeferred k2, cY SC ds ds' u u' ρ h2 n2 _ _ h0 hd2 hu he hR2 hi q4⟩
   | fn f args cap =>
    obtain ⟨xs, ys, hxs, hys, rfl⟩ := hd1
    obtain ⟨p, hp, q1⟩ := aA (o := bod P f) q0
    obtain ⟨hnr, q2⟩ := aG q1
    obtain ⟨hf, hb, hcal⟩ := bod_eq hp
    have hall : tvs ρ (ap args cap) = some (xs ++ ys) := by rw [bO]; exact cQ.2 ⟨_, _, hxs, hys, rfl⟩
    obtain ⟨ac, q3, hro, hA, hacn⟩ := nA hall q2
    have hres : p.1.results = #[] := by
     cases hl : p.1.results.toList with
     | nil => apply Array.ext'; exact hl
     | cons a l => rw [hl] at hnr; cases hnr
    have hresr : ∀ t w, (results p.1 t).run P w = .ok (.tuple #[]) w := fun t w => by simp [results, hres, Sem.run, Pure.pure]
    have e1 : (⟨xs⟩ ++ ⟨ys⟩ : Array Value) = ⟨xs ++ ys⟩ := by apply Array.ext'; simp
    refine .inr ⟨(fun h => by cases h), .func f, ⟨ys⟩, f, ⟨xs ++ ys⟩, rfl, ?_, fun _ _ => trivial, ?_⟩
    ·simp only [invoke]; rw [e1]; exact SX.run_callFunc hcal _ w
    ·cases hrb : recB p.2 with
     | none =>
      rw [hrb] at q3
      have hbody := SC p.2 g ρ ac _ h nx lg w _ r none hA R hi (by rw [hro]; trivial) q3
      refine CallsDIn.mono (callsDIn_of_wp (n := 0) (F := SX.fw none) (u := u') (R := fun e w' => match e with
       | .returned _ => LeavesInM (SX.fw none) 0 P fn t (CR g ρ0 k r) ds' (settle u') w'
       | .panicked chain => LeavesInM (SX.fw none) 0 P fn t (CR g ρ0 k r) ds' (raised u' chain) w'
       | .outgrown => False) hf hb trivial (Code.wpIn_mono ?_ hbody)) ?_
      ·intro exi a2 w2 hk
       obtain ⟨x, ac2, ρ2, h2, nx2, lg2, m1, m2, m3, m4, m5, m6⟩ := hk
       obtain ⟨u3, hu3, q4⟩ := aA (o := after x ac2.ds u) (f := cA P ex fn e k ds) m6
       obtain ⟨hdd, hcase⟩ := nG hu3 m2 m3.ds
       rcases hcase with ⟨hn, rfl⟩ | ⟨ch, ch', rfl, hch, rfl⟩
       ·have := cY SC ds ds' _ _ ρ2 h2 nx2 lg2 w2 (Rho.le_trans h0 m1) (hd2.mono m1) (mQ (hu.mono m1)) (he.mono m1) m5 hi q4
        rcases hn with rfl | rfl
        ·exact ⟨hdd, _, hresr _ _, this⟩
        ·exact ⟨hdd, _, hresr _ _, this⟩
       ·exact ⟨hdd, cY SC ds ds' _ _ ρ2 h2 nx2 lg2 w2 (Rho.le_trans h0 m1) (hd2.mono m1) (nR (hu.mono m1) hch) (he.mono m1) m5 hi q4⟩
      ·intro e2 u2 w2 hh
       obtain ⟨rfl, hh⟩ := hh
       cases e2 <;> first | exact hh | exact hh.elim
     | some tr =>
      obtain ⟨d, e', y⟩ := tr
      rw [hrb] at q3
      obtain ⟨id, ops, hcode, hops⟩ := recB_eq hrb
      refine callsDIn_of_wpSIn (n := 0) (F := SX.fw none) hf hb trivial fun c₀ cs hm => ?_
      rw [hcode]
      obtain ⟨v, u2, cs', r1, r2, r3, r4⟩ := rcv_R (cs := cs) hu hm
      obtain ⟨ac1, q4, hA1, hro1⟩ := lV (k := fun a => insK e' a (rcv u).1 fun a => ex y a fun x a => oo (after x a.ds (rcv u).2) (cA P ex fn e k ds)) hA r2 q3
      have hdn : d < ac.n := by
       obtain ⟨ee, nn, dds, roo⟩ := ac
       have q3' : run (Bool.rec .fail (pp ee (some (rcv u).1) (pa d) fun e2 => insK e' ⟨e2, nn, dds, roo⟩ (rcv u).1 fun a => ex y a fun x a => oo (after x a.ds (rcv u).2) (cA P ex fn e k ds)) (Nat.blt d nn) : Prog) h nx lg = some r := q3
       cases hb : Nat.blt d nn with
       | false => rw [hb] at q3'; cases q3'
       | true => rw [Nat.blt_eq] at hb; exact hb
      obtain ⟨ac2, q5, hA2, hro2⟩ := lV (k := fun a => ex y a fun x a => oo (after x a.ds (rcv u).2) (cA P ex fn e k ds)) hA1 r2 q4
      have hbody := SC y g ρ ac2 _ h nx lg w _ r none hA2 R hi (by rw [hro2, hro1, hro]; trivial) q5
      refine wp_rec (by have := hA.env.size; omega) hops r1 (wpSIn_of_wpIn rfl (Code.wpIn_mono ?_ hbody))
      intro exi a2 w2 hk
      obtain ⟨x, ac3, ρ2, h2, nx2, lg2, m1, m2, m3, m4, m5, m6⟩ := hk
      obtain ⟨u3, hu3, q6⟩ := aA (o := after x ac3.ds (rcv u).2) (f := cA P ex fn e k ds) m6
      obtain ⟨hdd, hcase⟩ := nG hu3 m2 m3.ds
      rcases hcase with ⟨hn, rfl⟩ | ⟨ch, ch', rfl, hch, rfl⟩
      ·have := cY SC ds ds' _ _ ρ2 h2 nx2 lg2 w2 (Rho.le_trans h0 m1) (hd2.mono m1) (mQ (r4.mono m1)) (he.mono m1) m5 hi q6
       rcases hn with rfl | rfl
       ·exact ⟨hdd, u2, r3, _, hresr _ _, this⟩
       ·exact ⟨hdd, u2, r3, _, hresr _ _, this⟩
      ·exact ⟨hdd, u2, r3, cY SC ds ds' _ _ ρ2 h2 nx2 lg2 w2 (Rho.le_trans h0 m1) (hd2.mono m1) (nR (r4.mono m1) hch) (he.mono m1) m5 hi q6⟩
theorem jB (SC : SimC P ex) : SimA P ex := fun f args xs g ρ h nx lg w k r hx R hi q => by
 obtain ⟨p, hp, q1⟩ := aA (o := bod P f) q
 obtain ⟨hf, hb, hcal⟩ := bod_eq hp
 obtain ⟨ac, q2, hro, hA, _⟩ := nA hx q1
 have hbody := SC p.2 g ρ ac _ h nx lg w _ r none hA R hi (by rw [hro]; trivial) q2
 refine ⟨hcal, callsIn_of_wp_marks hf hb trivial (Code.wpIn_mono ?_ hbody)⟩
 intro exi a2 w2 hk
 obtain ⟨x, ac2, ρ2, h2, nx2, lg2, m1, m2, m3, m4, m5, m6⟩ := hk
 obtain ⟨e, n, ds, ro⟩ := ac2
 obtain ⟨u, hu, q3⟩ := aA (o := left x) (f := fun u => cA P ex p.1 e k ds u) m6
 cases x with
 | normal => cases exi <;> first | exact m2.elim | (cases hu; exact cY SC ds _ _ _ ρ2 h2 nx2 lg2 w2 m1 m3.ds (by trivial) m3.env m5 hi q3)
 | ret => cases exi <;> first | exact m2.elim | (cases hu; exact cY SC ds _ _ _ ρ2 h2 nx2 lg2 w2 m1 m3.ds (by trivial) m3.env m5 hi q3)
 | exit => cases hu
 | panic ch => cases exi <;> first | exact m2.elim | (cases hu; exact cY SC ds _ (.pan ch) _ ρ2 h2 nx2 lg2 w2 m1 m3.ds m2 m3.env m5 hi q3)
end
end
open RowKit (Below)
noncomputable section
section
variable {P : Program} {a : Act} {w : World} {g : G} {ρ : Rho} {r : O × S} {e : Tr V} {n : Nat} {h : Tr Blk} {nx : Nat} {lg : List Fp} {ex : Ex} {rr : Option Nat}
theorem iZ (ops : List Oper) (j : Nat) : bV ops j = ops[j]?.bind (·.dst) := by
 unfold bV; rw [cS]; cases ops[j]? <;> rfl
theorem mI {v : V} {f : Bool → Prog} {no : Prog} (q : run (asBool v f no) h nx lg = some r) : (∃ b, v = .bool b ∧ run (f b) h nx lg = some r) ∨ ((∀ b, v ≠ .bool b) ∧ run no h nx lg = some r) := by
 cases v <;> first
  | exact .inl ⟨_, rfl, q⟩
  | exact .inr ⟨(by intro b hb; cases hb), q⟩
theorem oD {v : V} {x : Value} (hv : ∀ b, v ≠ .bool b) (e : tv ρ v = some x) : ∀ b, x ≠ .bool b := by
 intro b hb
 subst hb
 cases v with
 | bool c => exact hv c rfl
 | fn _ _ _ => simp only [tv] at e; split at e <;> (try split at e) <;> cases e
 | iface _ _ => simp only [tv] at e; split at e <;> cases e
 | agg _ => simp only [tv] at e; split at e <;> (try split at e) <;> cases e
 | tup _ => simp only [tv] at e; split at e <;> cases e
 | _ => first
  | cases e
  | (simp only [tv, Option.map_eq_some_iff] at e; obtain ⟨_, _, h⟩ := e; cases h)
theorem pU {all : Array Oper} {o : Oper} {yes no : Prog} (he : aB ρ e n a.tmps) (q : run (opG o.guard all.toList e yes no) h nx lg = some r) :
 (Region.wanted o (yielded all a.tmps) = true ∧ run yes h nx lg = some r) ∨ (Region.wanted o (yielded all a.tmps) = false ∧ run no h nx lg = some r) := by
 cases hg : o.guard with
 | none => rw [hg] at q; exact .inl ⟨by simp [Region.wanted, hg], q⟩
 | some p =>
  obtain ⟨j, want⟩ := p
  rw [hg] at q
  have q1 : run (lL all.toList j want e yes no) h nx lg = some r := q
  have hw : Region.wanted o (yielded all a.tmps) = (yielded all a.tmps j == some want) := by simp [Region.wanted, hg]
  rw [hw]
  rcases bP (o := bV all.toList j) q1 with ⟨hd, q2⟩ | ⟨d, hd, q2⟩
  ·rw [iZ, Array.getElem?_toList] at hd
   grind [yielded]
  ·rw [iZ, Array.getElem?_toList] at hd
   obtain ⟨v, hv, q3⟩ := aA (o := gp e (pa d)) q2
   obtain ⟨x, hx1, hx2⟩ := he.get d v hv
   rcases mI q3 with ⟨b, rfl, q4⟩ | ⟨hnb, q4⟩
   ·cases hx2
    have hy : yielded all a.tmps j = some b := by simp [yielded, hd, hx1]
    rw [hy]
    cases b <;> cases want <;> first
     | exact .inl ⟨rfl, q4⟩
     | exact .inr ⟨rfl, q4⟩
   ·have hnx := oD hnb hx2
    grind [yielded]
theorem lA (SA : SimA P ex) (SY : SimY P ex) {all : Array Oper} {ρ0 : Rho} {k : KX} (hi : r.2.nx ≤ g.hi) : ∀ (l : List Oper) (ρ : Rho) (ac : Ac) (a : Act) (h : Tr Blk) (nx : Nat) (lg : List Fp) (w : World), ρ0.le ρ → AcR ρ ac a → Rel g ρ h nx w → roR ρ ac.ro rr →
 run (opsA all.toList P ex l ac k) h nx lg = some r → wpListIn (SX.fw rr) 0 P all (KQ g ρ0 ac.ro k r) l a w
 | [], ρ, ac, a, h, nx, lg, w, h0, hA, R, hr, q => ⟨.normal, ac, ρ, h, nx, lg, h0, trivial, hA, rfl, R, q⟩
 | o :: l, ρ, ac, a, h, nx, lg, w, h0, hA, R, hr, q => by
  obtain ⟨e, n, ds, ro⟩ := ac
  have q0 : run (opG o.guard all.toList e (opH o.op P ex e (fin o.dst e n ds ro (opsA all.toList P ex l) k) (pan k ⟨e, n, ds, ro⟩) (dfr o.dst e n ds ro (opsA all.toList P ex l) k)) (fin o.dst e n ds ro (opsA all.toList P ex l) k aQ)) h nx lg = some r := q
  have put : ∀ {ρ' : Rho} {h' : Tr Blk} {nx' : Nat} {lg' : List Fp} {w' : World} {a' : Act} {ds' : List Df} {v : V} {x : Value}, ρ.le ρ' → Rel g ρ' h' nx' w' → a'.tmps = a.tmps → bU ρ' ds' a'.defers → tv ρ' v = some x →
   run (fin o.dst e n ds' ro (opsA all.toList P ex l) k v) h' nx' lg' = some r → wpListIn (SX.fw rr) 0 P all (KQ g ρ0 ro k r) l (a'.put o.dst x) w' := by
   intro ρ' h' nx' lg' w' a' ds' v x hle R' hta hds hv q'
   obtain ⟨e', q1, hE⟩ := nP (k := fun e => opsA all.toList P ex l ⟨e, n, ds', ro⟩ k) (a := a') (by rw [hta]; exact hA.env.mono hle) hv q'
   exact lA SA SY hi l ρ' ⟨e', n, ds', ro⟩ _ _ _ _ _ (Rho.le_trans h0 hle) ⟨hE, by cases o.dst <;> exact hds⟩ R' (hr.mono hle) q1
  unfold wpListIn
  rcases pU hA.env q0 with ⟨hw, q1⟩ | ⟨hw, q1⟩
  ·rw [if_pos hw]
   refine op_sim SA SY hA.env R hi q1 (fun v x ρ' h' nx' lg' w' h1 h2 h3 h4 => put h1 h2 rfl (hA.ds.mono h1) h3 h4) (fun ch ch' ρ' h' nx' lg' w' h1 h2 h3 h4 => ⟨.panic ch, _, ρ', h', nx', lg', Rho.le_trans h0 h1, h3, hA.mono h1, rfl, h2, h4⟩) fun d d' lg' hdf h4 => ?_
   rcases bP (o := ro) h4 with ⟨hn, h5⟩ | ⟨_, _, h5⟩
   ·subst hn
    refine ⟨by cases rr <;> first | rfl | exact hr.elim, ?_⟩
    have h6 : run (fin o.dst e n (d :: ds) none (opsA all.toList P ex l) k aQ) h nx lg' = some r := h5
    exact put (a' := { a with defers := d' :: a.defers }) (ds' := d :: ds) (Rho.le_refl ρ) R rfl (show bU ρ (d :: ds) (d' :: a.defers) from ⟨hdf, hA.ds⟩) rfl h6
   ·cases h5
  ·rw [if_neg (by rw [hw]; simp)]
   exact ⟨fun _ _ => trivial, put (Rho.le_refl ρ) R rfl hA.ds rfl q1⟩
theorem oR : ∀ (ps : List Nat) (vs : List V) (xs : List Value) (e : Tr V) (t : Array Value) {k : Tr V → Prog}, aB ρ e n t → tvs ρ vs = some xs → run (putPs ps n vs e k) h nx lg = some r →
 ps.length = xs.length ∧ ∃ e', run (k e') h nx lg = some r ∧ aB ρ e' n ((ps.zip xs).foldl (fun tmps (t, a) => tmps.setIfInBounds t a) t)
 | [], [], xs, e, t, k, he, hx, q => by rw [cM] at hx; subst hx; exact ⟨rfl, e, q, he⟩
 | [], _ :: _, _, _, _, _, _, _, q => by cases q
 | _ :: _, [], _, _, _, _, _, _, q => by cases q
 | p :: ps, v :: vs, xs, e, t, k, he, hx, q => by
  obtain ⟨x, ys, h1, h2, rfl⟩ := aN.1 hx
  obtain ⟨hb, q1⟩ := aG (b := Nat.blt p n) (p := pp e (some v) (pa p) fun e => putPs ps n vs e k) q
  rw [cX] at q1
  rw [Nat.blt_eq] at hb
  obtain ⟨h3, e', q2, h4⟩ := oR ps vs ys _ _ (aB.put (a := { tmps := t, defers := [] }) he hb h1) h2 q1
  exact ⟨by simp [h3], e', q2, h4⟩
theorem pend_inv {x : X} {ds : List Df} {j : Option Code} {exi : Exit} (hq : pendOf x ds = some j) (hx : xR ρ x exi) : (exi = .normal ∧ j = none) ∨ (exi = .ret ∧ j = some .ret) ∨ ∃ i, exi = .exit i ∧ j = some (.exit i) := by
 cases ds with
 | cons => cases hq
 | nil =>
  cases x with
  | normal => cases exi <;> first | exact hx.elim | (cases hq; exact .inl ⟨rfl, rfl⟩)
  | ret => cases exi <;> first | exact hx.elim | (cases hq; exact .inr (.inl ⟨rfl, rfl⟩))
  | exit i =>
   cases exi <;> first
    | exact hx.elim
    | (have : i = _ := hx; subst this; cases hq; exact .inr (.inr ⟨_, rfl, rfl⟩))
  | panic ch => cases hq
theorem gV {st : LoopState} {p : Option Code} {f : Nat} {ps : List Nat} {sg bd : Code} {d : Nat} {o' : Obj} (ho : obR ρ (.loop st p f e n ps sg bd d) o') : ∃ rec, o' = .loop rec ∧ rec.state = st ∧ rec.pending = p ∧ aB ρ e n rec.tmps ∧ rec.params.toList = ps ∧ rec.assign = sg ∧ rec.body = bd ∧ ∃ x, ρ d = some x ∧ rec.defers = x.1 := by
 cases o' <;> first
  | exact ho.elim
  | exact ⟨_, rfl, ho⟩
theorem kT (SC : SimC P ex) : SimY P ex := fun l args xs g ρ h nx lg w k r hx R hi q => by
 unfold kI at q
 rw [bZ] at q
 obtain ⟨ob, h1, n1, l1, e1, q1⟩ := aI q
 obtain ⟨x, o', hl, hw, ho, _, rfl, rfl⟩ := cH R e1
 cases ob with
 | map => cases q1
 | dfr => cases q1
 | loop st p f e n ps sg bd d =>
 cases st with
 | busy => cases q1
 | done => cases q1
 | exhausted => cases q1
 | ready =>
 obtain ⟨rec, rfl, r1, r2, r3, r4, r5, r6, xd, r7, r8⟩ := gV ho
 obtain ⟨hlen, e', q2, hE⟩ := oR ps args xs e rec.tmps r3 hx q1
 refine ⟨x, rec.fn, (rec.params.zip (⟨xs⟩ : Array Value)).foldl (fun tmps (t, a) => tmps.setIfInBounds t a) rec.tmps, sg, bd, hl, ?_, ?_⟩
 ·grind [run_yield]
 ·have hT : (rec.params.zip (⟨xs⟩ : Array Value)).foldl (fun tmps (t, a) => tmps.setIfInBounds t a) rec.tmps = (ps.zip xs).foldl (fun tmps (t, a) => tmps.setIfInBounds t a) rec.tmps := by
   grind [Array.toList_zip]
  rw [hT]
  refine roundIn_of_wpIn trivial (Go.wpIn_mono (SC sg g ρ ⟨e', n, [], some l⟩ { tmps := _, defers := [] } _ _ _ w _ r (some x.1) ⟨hE, trivial⟩ R hi ⟨x, hl, rfl⟩ q2) ?_)
  intro exi a2 w2 hk
  obtain ⟨x2, ac2, ρ2, h2, nx2, lg2, m1, m2, m3, m4, m5, m6⟩ := hk
  cases x2 with
  | exit => cases m6
  | ret => cases m6
  | panic => cases m6
  | normal =>
  cases exi <;> first
   | exact m2.elim
   | skip
  have m7 : run (.getO l _) h2 nx2 lg2 = some r := m6
  rw [bZ] at m7
  obtain ⟨ob, h3, n3, l3, e3, q3⟩ := aI m7
  obtain ⟨y, o2, hl2, hw2, ho2, _, rfl, rfl⟩ := cH m5 e3
  rw [m1 _ _ hl] at hl2
  cases hl2
  cases ob with
  | map => cases q3
  | dfr => cases q3
  | loop st p2 f2 e2 n2 ps2 sg2 bd2 d2 =>
  cases st with
  | busy => cases q3
  | done => cases q3
  | exhausted => cases q3
  | ready =>
  obtain ⟨rec2, rfl, s1, s2, s3, s4, s5, s6, s7⟩ := gV ho2
  have q4 : run (.setO l (.loop .busy p2 f2 e2 n2 ps2 sg2 bd2 d2) _) _ _ _ = some r := q3
  rw [dM] at q4
  obtain ⟨_, h4, n4, l4, e4, q5⟩ := aI q4
  have R4 := dW m5 e4 (m1 _ _ hl) (o1 := .loop { rec2 with state := .busy }) ⟨rfl, s2, s3, s4, s5, s6, s7⟩
  refine ⟨_, run_beginRound hw2 s1, Go.wpIn_mono (SC bd g ρ2 ac2 a2 _ _ _ _ _ r (some x.1) m3 R4 hi (by rw [m4]; exact ⟨x, m1 _ _ hl, rfl⟩) q5) ?_⟩
  intro exi a5 w5 hk
  obtain ⟨x5, ac5, ρ5, h5, nx5, lg5, t1, t2, t3, t4, t5, t6⟩ := hk
  obtain ⟨j, hj, q6⟩ := aA t6
  rw [bZ] at q6
  obtain ⟨ob, h6, n6, l6, e6, q7⟩ := aI q6
  obtain ⟨y, o3, hl3, hw3, ho3, _, rfl, rfl⟩ := cH t5 e6
  rw [t1 _ _ (m1 _ _ hl)] at hl3
  cases hl3
  cases ob with
  | map => cases q7
  | dfr => cases q7
  | loop st3 p3 f3 e3 n3 ps3 sg3 bd3 d3 =>
  obtain ⟨rec3, rfl, u1, u2, u3, u4, u5, u6, u7⟩ := gV ho3
  have q8 : run (.setO l (.loop (stOf j) j f3 e3 n3 ps3 sg3 bd3 d3) (k (.val (.bool j.isNone)))) _ _ _ = some r := q7
  rw [dM] at q8
  obtain ⟨_, h8, n8, l8, e8, q9⟩ := aI q8
  have R8 := dW t5 e8 (t1 _ _ (m1 _ _ hl)) (o1 := .loop { rec3 with state := if j.isNone then .ready else .done, pending := j }) ⟨by cases j <;> rfl, rfl, u3, u4, u5, u6, u7⟩
  have hfin : CR g ρ k r (.returned (.bool j.isNone)) (w5.putObj x.1 (.loop { rec3 with state := if j.isNone then .ready else .done, pending := j })) := ⟨.bool j.isNone, ρ5, h8, n8, _, Rho.le_trans m1 t1, R8, rfl, q9⟩
  rcases pend_inv hj t2 with ⟨rfl, rfl⟩ | ⟨rfl, rfl⟩ | ⟨i, rfl, rfl⟩
  ·exact ⟨_, _, run_endRound none hw3, hfin⟩
  ·exact ⟨_, _, run_endRound (some .ret) hw3, hfin⟩
  ·exact ⟨_, _, run_endRound (some (.exit i)) hw3, hfin⟩
end
end
open RowKit (Below)
noncomputable section
section
variable {P : Program} {a : Act} {w : World} {g : G} {ρ : Rho} {r : O × S} {e : Tr V} {n : Nat} {h : Tr Blk} {nx : Nat} {lg : List Fp} {ex : Ex} {rr : Option Nat}
theorem KQ.mono {ρ' : Rho} {ro : Option Nat} {k : KX} {exi : Exit} {a : Act} {w : World} (hle : ρ.le ρ') (q : KQ g ρ' ro k r exi a w) : KQ g ρ ro k r exi a w := by
 obtain ⟨x, ac, ρ2, h, nx, lg, m1, m⟩ := q
 exact ⟨x, ac, ρ2, h, nx, lg, Rho.le_trans hle m1, m⟩
theorem oG {F : Fence} {m : Nat} {c : Code} {Q Q' : Exit → Act → World → Prop} (hq : ∀ e a w, Q e a w → Q' e a w) : ∀ (i : Nat) (a : Act) (w : World), Code.roundsIn F m P c Q i a w → Code.roundsIn F m P c Q' i a w
 | 0, _, _, q => q
 | i + 1, a, w, q => Go.wpIn_mono (show c.wpIn F m P (Exit.then (Code.roundsIn F m P c Q i) Q) a w from q) fun e a w k => by
  cases e <;> first
   | exact oG hq i _ _ k
   | exact hq _ _ _ k
theorem mV (SA : SimA P ex) {fO : Operand} {ps : Array Tmp} {sg bd : Code} {fv : V} {ac ac' : Ac} {a' : Act} {k : KX} {d : Nat} {xd : Nat × Nat} {ρ0 : Rho} (fn : Nat) {obj : Obj} (hobj : Obj.loop { state := .ready, pending := none, fn, tmps := a.tmps, params := ps, assign := sg, body := bd, defers := xd.1 } = obj) (hle : ρ0.le ρ) (hev : tv ρ fv = some (a.eval fO)) (hE : aB ρ ac.e ac.n a.tmps) (hA : AcR ρ ac' a') (hd : ρ d = some xd) (R : Rel g ρ h nx w) (hi : r.2.nx ≤ g.hi)
 (q : run (.newO (.loop .ready none 0 ac.e ac.n ps.toList sg bd d) fun l => asFn fv (fun g first cap => hO P ex g (ap first (ap [.yld l] cap)) fun o => isVal o (nB l fun x => k x ac') (fun ch => k (.panic ch) ac')) fun _ => .fail) h nx lg = some r) :
 ∃ (df : Deferred) (f : FuncId) (args : Array Value), (resolve a.eval (rangeCall fO w.heap.size) 0).run P (w.alloc obj) = .ok df (w.alloc obj) ∧
  (invoke df.target df.args).run P (w.alloc obj) = .ok (.enter f args) (w.alloc obj) ∧
  CallsIn (SX.fw rr) 0 P f args (w.alloc obj) (rangePost (SX.fw rr) 0 P w.heap.size (KQ g ρ0 ac'.ro k r) a') := by
 rw [iX] at q
 obtain ⟨b, h1, n1, l1, e1, q1⟩ := aI q
 have hn := dQ q1
 have hn1 : n1 = nx + 1 := by unfold bQ at e1; split at e1 <;> cases e1; rfl
 have hnone : ρ nx = none := R.fresh nx (Nat.le_refl _) (by omega)
 obtain ⟨rfl, hle1, R1⟩ := gD R e1 (by omega) 0 obj (by
  rw [← hobj]
  exact ⟨rfl, rfl, hE.mono (Rho.le_ins hnone), rfl, rfl, rfl, xd, Rho.le_ins hnone _ _ hd, rfl⟩)
 generalize hρ1 : ρ.ins b (w.heap.size, 0) = ρ1 at hle1 R1
 have hb : ρ1 b = some (w.heap.size, 0) := by rw [← hρ1]; exact Rho.ins_self
 have hfv := cK hle1 _ hev
 rcases kA q1 with ⟨gf, first, cap, rfl, q2⟩ | ⟨l, rfl, q2⟩
 ·simp only [tv] at hfv
  cases hf1 : tvs ρ1 first with
  | none => rw [hf1] at hfv; cases hfv
  | some xs =>
   rw [hf1] at hfv
   simp only at hfv
   cases hf2 : tvs ρ1 cap with
   | none => rw [hf2] at hfv; cases hfv
   | some ys =>
    rw [hf2] at hfv
    have hX : a.eval fO = .func (.func gf) ⟨xs⟩ ⟨ys⟩ := (Option.some.inj hfv).symm
    rw [bO, bO] at q2
    have hy : tv ρ1 (.yld b) = some (.func (.yield w.heap.size) #[] #[]) := by simp only [tv, hb, Option.map_some]
    have hall : tvs ρ1 (first ++ ([.yld b] ++ cap)) = some (xs ++ ([.func (.yield w.heap.size) #[] #[]] ++ ys)) := cQ.2 ⟨_, _, hf1, cQ.2 ⟨_, _, aN.2 ⟨_, _, hy, rfl, rfl⟩, hf2, rfl⟩, rfl⟩
    obtain ⟨hcall, hC⟩ := SA gf _ _ g ρ1 h1 n1 _ _ _ r hall R1 hi q2
    have e2 : (⟨xs⟩ ++ #[.func (.yield w.heap.size) #[] #[]] ++ ⟨ys⟩ : Array Value) = ⟨xs ++ ([.func (.yield w.heap.size) #[] #[]] ++ ys)⟩ := by apply Array.ext'; simp
    have hC' : CallsIn (SX.fw rr) 0 P gf ⟨xs ++ ([.func (.yield w.heap.size) #[] #[]] ++ ys)⟩ (w.alloc obj) _ := jV (rr := rr) hC
    refine ⟨{ target := .fn (.func gf) ⟨ys⟩, args := ⟨xs⟩ ++ #[.func (.yield w.heap.size) #[] #[]] }, gf, ⟨xs ++ ([.func (.yield w.heap.size) #[] #[]] ++ ys)⟩, ?_, ?_, ?_⟩
    ·have h5 : resolve a.eval (rangeCall fO w.heap.size) 0 = Sem.pure { target := .fn (.func gf) ⟨ys⟩, args := ⟨xs⟩ ++ #[.func (.yield w.heap.size) #[] #[]] } := by
      have h6 : (rangeCall fO w.heap.size).args.map a.eval = #[.func (.yield w.heap.size) #[] #[]] := by
       simp [rangeCall, Act.eval]
      show Deferred.ofValue (a.eval fO) ((rangeCall fO w.heap.size).args.map a.eval) = _
      rw [hX, h6]; rfl
     rw [h5]; rfl
    ·simp only [invoke]; rw [e2]; exact SX.run_callFunc hcall _ _
    ·refine CallsIn.mono (R' := rangePost (SX.fw rr) 0 P w.heap.size (KQ g ρ0 ac'.ro k r) a') hC' ?_
     intro e' w' hq
     cases e' with
     | outgrown => exact hq.elim
     | panicked ch' =>
      obtain ⟨ch, ρ', h', nx', lg', k1, k2, k3, k4⟩ := hq
      exact ⟨.panic ch, ac', ρ', h', nx', lg', Rho.le_trans hle (Rho.le_trans hle1 k1), k3, hA.mono (Rho.le_trans hle1 k1), rfl, k2, k4⟩
     | returned v =>
      obtain ⟨u, ρ', h', nx', lg', k1, k2, k3, k4⟩ := hq
      have k5 : run (.getO b _) h' nx' lg' = some r := k4
      rw [bZ] at k5
      obtain ⟨ob, h3, n3, l3, e3, q3⟩ := aI k5
      obtain ⟨y, o2, hl2, hw2, ho2, _, rfl, rfl⟩ := cH k2 e3
      rw [k1 _ _ hb] at hl2
      cases hl2
      cases ob with
      | map => cases q3
      | dfr => cases q3
      | loop st p2 f2 e2 n2 ps2 sg2 bd2 d2 =>
      obtain ⟨rec2, rfl, s1, s2, s3, s4, s5, s6, s7⟩ := gV ho2
      have hnb : st ≠ .busy := by intro hs; subst hs; cases q3
      have q4 : run (.setO b (.loop .exhausted p2 f2 e2 n2 ps2 sg2 bd2 d2) (oo (jumpX p2) fun x => k x ac')) h3 n3 (l3 ++ lg') = some r := by cases st <;> first | exact (hnb rfl).elim | exact q3
      rw [dM] at q4
      obtain ⟨_, h4, n4, l4, e4, q5⟩ := aI q4
      have R4 := dW k2 e4 (k1 _ _ hb) (o1 := .loop { rec2 with state := .exhausted }) ⟨rfl, s2, s3, s4, s5, s6, s7⟩
      obtain ⟨x, hx, q6⟩ := aA q5
      have hE2 : ∃ jump w4, (Instr.endLoop w.heap.size).run P w' = .ok jump w4 ∧ jump = rec2.pending ∧ w4 = w'.putObj w.heap.size (.loop { rec2 with state := .exhausted }) := ⟨_, _, run_endLoop hw2 (by rw [s1]; exact hnb), rfl, rfl⟩
      obtain ⟨jump, w4, g1, g2, g3⟩ := hE2
      have hQ : ∀ exi, xR ρ' x exi → KQ g ρ0 ac'.ro k r exi a' w4 := fun exi hxi => by rw [g3]; exact ⟨x, ac', ρ', h4, n4, _, Rho.le_trans hle (Rho.le_trans hle1 k1), hxi, hA.mono (Rho.le_trans hle1 k1), rfl, R4, q6⟩
      rw [← s2, ← g2] at hx
      refine ⟨jump, w4, g1, ?_⟩
      cases jump with
      | none => cases hx; exact hQ .normal trivial
      | some c =>
       cases c with
       | ret => cases hx; exact wpIn_ret (hQ .ret trivial)
       | exit i => cases hx; exact wpIn_exit (hQ (.exit i) rfl)
       | _ => cases hx
 ·cases q2
theorem pB (SA : SimA P ex) {fO : Operand} {ps : Array Tmp} {sg bd : Code} {ac : Ac} {k : KX} (hA : AcR ρ ac a) (R : Rel g ρ h nx w) (hi : r.2.nx ≤ g.hi) (hr : roR ρ ac.ro rr) (q : run (rangeA fO ps sg bd P ex ac k) h nx lg = some r) :
 (Code.rangeFunc fO ps sg bd).wpIn (SX.fw rr) 0 P (KQ g ρ ac.ro k r) a w := by
 obtain ⟨e, n, ds, ro⟩ := ac
 obtain ⟨fv, h1, q1⟩ := aZ q
 have hfv := aH hA.env h1
 refine wpIn_rangeFunc fun fn _ => ?_
 rcases bP (o := ro) q1 with ⟨hn, q2⟩ | ⟨l0, hn, q2⟩
 ·subst hn
  have hrr : rr = none := by cases rr <;> first | rfl | exact hr.elim
  subst hrr
  rw [iX] at q2
  obtain ⟨b, h2, n2, l2, e2, q3⟩ := aI q2
  have hnl := dQ q3
  obtain ⟨rfl, hle1, R1⟩ := gD R e2 (by omega) 0 (.deferred (some [])) rfl
  generalize hρ1 : ρ.ins b (w.heap.size, 0) = ρ1 at hle1 R1
  have hb : ρ1 b = some (w.heap.size, 0) := by rw [← hρ1]; exact Rho.ins_self
  obtain ⟨df, f, args, k1, k2, k3⟩ := mV (rr := none) (ac := ⟨e, n, .col b :: ds, none⟩) (ac' := ⟨e, n, .col b :: ds, none⟩) (a := a) (a' := { a with defers := [{ target := .collected w.heap.size, args := #[] }] ++ a.defers }) SA fn rfl hle1 (cK hle1 _ hfv) (hA.env.mono hle1) ⟨hA.env.mono hle1, ⟨_, hb, rfl⟩, hA.ds.mono hle1⟩ hb R1 hi q3
  rw [World.size_alloc] at k1 k3
  exact ⟨_, _, _, df, _, f, args, _, run_enterLoop_outer fn a.tmps ps sg bd, k1, fun _ _ => trivial, k2, (fun h => by cases h), k3⟩
 ·subst hn
  have q2' : run (.getO l0 _) h nx lg = some r := q2
  rw [bZ] at q2'
  obtain ⟨ob, h3, n3, l3, e3, q3⟩ := aI q2'
  obtain ⟨y, o2, hl2, hw2, ho2, _, rfl, rfl⟩ := cH R e3
  cases ob with
  | map => cases q3
  | dfr => cases q3
  | loop st p2 f2 e2 n2 ps2 sg2 bd2 d2 =>
  obtain ⟨rec2, rfl, s1, s2, s3, s4, s5, s6, xd, s7, s8⟩ := gV ho2
  cases rr with
  | none => exact hr.elim
  | some l0' =>
  obtain ⟨y', hy', rfl⟩ := hr
  rw [hl2] at hy'
  cases hy'
  obtain ⟨df, f, args, k1, k2, k3⟩ := mV (rr := some y.1) (ac := ⟨e, n, ds, some l0⟩) (ac' := ⟨e, n, ds, some l0⟩) (a := a) (a' := a) SA fn rfl (Rho.le_refl ρ) hfv hA.env hA s7 R hi q3
  rw [← s8] at k1 k2 k3
  exact ⟨_, _, _, df, _, f, args, _, run_enterLoop_inner hw2 fn a.tmps ps sg bd, k1, fun _ _ => trivial, k2, (fun h => by cases h), k3⟩
def SimD (P : Program) (ex : Ex) : Prop := ∀ (id : Nat) (ops : Array Oper) (g : G) (ρ : Rho) (ac : Ac) (a : Act) (h : Tr Blk) (nx : Nat) (lg : List Fp) (w : World) (k : KX) (r : O × S) (rr : Option Nat),
 AcR ρ ac a → Rel g ρ h nx w → r.2.nx ≤ g.hi → roR ρ ac.ro rr → run (oJ ops true P ex ac k) h nx lg = some r → (Code.region id ops true).wpIn (SX.fw rr) 0 P (KQ g ρ ac.ro k r) a w
def LoopS (P : Program) (ex : Ex) (m : Nat) : Prop := ∀ (c : Code) (g : G) (ρ : Rho) (ac : Ac) (a : Act) (h : Tr Blk) (nx : Nat) (lg : List Fp) (w : World) (k : KX) (r : O × S) (rr : Option Nat),
 AcR ρ ac a → Rel g ρ h nx w → r.2.nx ≤ g.hi → roR ρ ac.ro rr → run (ex (.loop c) ac k) h nx lg = some r → Code.roundsIn (SX.fw rr) 0 P c (KQ g ρ ac.ro k r) m a w
theorem mN {m : Nat} (LS : LoopS P ex m) {b : Code}
 (ih : ∀ (g : G) (ρ : Rho) (ac : Ac) (a : Act) (h : Tr Blk) (nx : Nat) (lg : List Fp) (w : World) (k : KX) (r : O × S) (rr : Option Nat), AcR ρ ac a → Rel g ρ h nx w → r.2.nx ≤ g.hi → roR ρ ac.ro rr → run (dH P ex b ac k) h nx lg = some r → b.wpIn (SX.fw rr) 0 P (KQ g ρ ac.ro k r) a w)
 {ac : Ac} {k : KX} (hA : AcR ρ ac a) (R : Rel g ρ h nx w) (hi : r.2.nx ≤ g.hi) (hr : roR ρ ac.ro rr) (q : run (dH P ex (.loop b) ac k) h nx lg = some r) : Code.roundsIn (SX.fw rr) 0 P b (KQ g ρ ac.ro k r) (m + 1) a w := by
 have q1 : run (dH P ex b ac fun x => seqX x (ex (.loop b)) k) h nx lg = some r := q
 refine Go.wpIn_mono (ih g ρ ac a h nx lg w _ r rr hA R hi hr q1) fun exi a2 w2 hk => ?_
 obtain ⟨x, ac2, ρ2, h2, nx2, lg2, m1, m2, m3, m4, m5, m6⟩ := hk
 cases x with
 | normal =>
  cases exi <;> first | exact m2.elim | skip
  have := LS b g ρ2 ac2 a2 h2 nx2 lg2 w2 k r rr m3 m5 hi (by rw [m4]; exact hr.mono m1) m6
  rw [m4] at this
  exact oG (fun _ _ _ => KQ.mono m1) m _ _ this
 | exit i => cases exi <;> first | exact m2.elim | exact ⟨.exit i, ac2, ρ2, h2, nx2, lg2, m1, m2, m3, m4, m5, m6⟩
 | ret => cases exi <;> first | exact m2.elim | exact ⟨.ret, ac2, ρ2, h2, nx2, lg2, m1, m2, m3, m4, m5, m6⟩
 | panic ch => cases exi <;> first | exact m2.elim | exact ⟨.panic ch, ac2, ρ2, h2, nx2, lg2, m1, m2, m3, m4, m5, m6⟩
theorem oP {m : Nat} (SC : SimC P ex) (SD : SimD P ex) (LS : LoopS P ex m) (c : Code) : ∀ (g : G) (ρ : Rho) (ac : Ac) (a : Act) (h : Tr Blk) (nx : Nat) (lg : List Fp) (w : World) (k : KX) (r : O × S) (rr : Option Nat),
 AcR ρ ac a → Rel g ρ h nx w → r.2.nx ≤ g.hi → roR ρ ac.ro rr → run (dH P ex c ac k) h nx lg = some r → c.wpIn (SX.fw rr) 0 P (KQ g ρ ac.ro k r) a w := by
 induction c with
 | skip => intro g ρ ac a h nx lg w k r rr hA R hi hr q; exact wpIn_skip ⟨.normal, ac, ρ, h, nx, lg, Rho.le_refl ρ, trivial, hA, rfl, R, q⟩
 | label l => intro g ρ ac a h nx lg w k r rr hA R hi hr q; exact wpIn_label ⟨.normal, ac, ρ, h, nx, lg, Rho.le_refl ρ, trivial, hA, rfl, R, q⟩
 | exit i => intro g ρ ac a h nx lg w k r rr hA R hi hr q; exact wpIn_exit ⟨.exit i, ac, ρ, h, nx, lg, Rho.le_refl ρ, rfl, hA, rfl, R, q⟩
 | ret => intro g ρ ac a h nx lg w k r rr hA R hi hr q; exact wpIn_ret ⟨.ret, ac, ρ, h, nx, lg, Rho.le_refl ρ, trivial, hA, rfl, R, q⟩
 | scope b ih => intro g ρ ac a h nx lg w k r rr hA R hi hr q; exact SW.wpIn_scope (Code.wpIn_mono (fun e a' w' hk => by obtain ⟨x, ac2, ρ2, h2, nx2, lg2, m1, m2, m3⟩ := hk; cases e <;> first | exact ⟨x, ac2, ρ2, h2, nx2, lg2, m1, m2, m3⟩ | (cases x <;> exact m2.elim)) (ih g ρ ac a h nx lg w k r rr hA R hi hr q))
 | goto l => intro g ρ ac a h nx lg w k r rr hA R hi hr q; cases q
 | refuse s => intro g ρ ac a h nx lg w k r rr hA R hi hr q; cases q
 | region id ops draw =>
  intro g ρ ac a h nx lg w k r rr hA R hi hr q
  cases draw with
  | true => exact SD id ops g ρ ac a h nx lg w k r rr hA R hi hr q
  | false => exact wpIn_region_list (lA (jB SC) (kT SC) hi ops.toList ρ ac a h nx lg w (Rho.le_refl ρ) hA R hr q)
 | seq x y ihx ihy =>
  intro g ρ ac a h nx lg w k r rr hA R hi hr q
  have q1 : run (dH P ex x ac fun x => seqX x (dH P ex y) k) h nx lg = some r := q
  refine wpIn_seq (Go.wpIn_mono (ihx g ρ ac a h nx lg w _ r rr hA R hi hr q1) fun exi a2 w2 hk => ?_)
  obtain ⟨x, ac2, ρ2, h2, nx2, lg2, m1, m2, m3, m4, m5, m6⟩ := hk
  cases x with
  | normal =>
   cases exi <;> first | exact m2.elim | skip
   have := ihy g ρ2 ac2 a2 h2 nx2 lg2 w2 k r rr m3 m5 hi (by rw [m4]; exact hr.mono m1) m6
   rw [m4] at this
   exact Go.wpIn_mono this fun _ _ _ => KQ.mono m1
  | exit i => cases exi <;> first | exact m2.elim | exact ⟨.exit i, ac2, ρ2, h2, nx2, lg2, m1, m2, m3, m4, m5, m6⟩
  | ret => cases exi <;> first | exact m2.elim | exact ⟨.ret, ac2, ρ2, h2, nx2, lg2, m1, m2, m3, m4, m5, m6⟩
  | panic ch => cases exi <;> first | exact m2.elim | exact ⟨.panic ch, ac2, ρ2, h2, nx2, lg2, m1, m2, m3, m4, m5, m6⟩
 | cond c x y ihx ihy =>
  intro g ρ ac a h nx lg w k r rr hA R hi hr q
  obtain ⟨v, hv, q1⟩ := aZ q
  have hx := aH hA.env hv
  cases v with
  | bool b =>
   have hb : a.eval c = .bool b := (Option.some.inj hx).symm
   cases b with
   | true => exact wpIn_cond_true hb (ihx g ρ ac a h nx lg w k r rr hA R hi hr q1)
   | false => exact wpIn_cond_false hb (ihy g ρ ac a h nx lg w k r rr hA R hi hr q1)
  | _ => cases q1
 | block id b ih =>
  intro g ρ ac a h nx lg w k r rr hA R hi hr q
  have q1 : run (dH P ex b ac fun x => blkX x id k) h nx lg = some r := q
  refine wpIn_block (Go.wpIn_mono (ih g ρ ac a h nx lg w _ r rr hA R hi hr q1) fun exi a2 w2 hk => ?_)
  obtain ⟨x, ac2, ρ2, h2, nx2, lg2, m1, m2, m3, m4, m5, m6⟩ := hk
  cases x with
  | normal => cases exi <;> first | exact m2.elim | exact ⟨.normal, ac2, ρ2, h2, nx2, lg2, m1, m2, m3, m4, m5, m6⟩
  | ret => cases exi <;> first | exact m2.elim | exact ⟨.ret, ac2, ρ2, h2, nx2, lg2, m1, m2, m3, m4, m5, m6⟩
  | panic ch => cases exi <;> first | exact m2.elim | exact ⟨.panic ch, ac2, ρ2, h2, nx2, lg2, m1, m2, m3, m4, m5, m6⟩
  | exit i =>
   cases exi <;> first
    | exact m2.elim
    | skip
   have hii : i = _ := m2
   subst hii
   have q2 : run (ife (Nat.beq i id) (k .normal) (k (.exit i)) ac2) h2 nx2 lg2 = some r := m6
   show if i = id then _ else _
   cases hb : Nat.beq i id with
   | true =>
    rw [hb] at q2
    rw [if_pos (Nat.eq_of_beq_eq_true hb)]
    exact ⟨.normal, ac2, ρ2, h2, nx2, lg2, m1, trivial, m3, m4, m5, q2⟩
   | false =>
    rw [hb] at q2
    rw [if_neg (Nat.ne_of_beq_eq_false hb)]
    exact ⟨.exit i, ac2, ρ2, h2, nx2, lg2, m1, rfl, m3, m4, m5, q2⟩
 | loop b ih => intro g ρ ac a h nx lg w k r rr hA R hi hr q; exact wpIn_loop_rounds (m + 1) (mN LS ih hA R hi hr q)
 | rangeFunc f ps sg bd _ _ => intro g ρ ac a h nx lg w k r rr hA R hi hr q; exact pB (jB SC) hA R hi hr q
theorem iO (SD : ∀ ex, SimC P ex → SimD P ex) : ∀ n, SimC P (exec P n) ∧ LoopS P (exec P n) n
 | 0 => ⟨(fun c g ρ ac a h nx lg w k r rr _ _ _ _ q => by cases q), (fun c g ρ ac a h nx lg w k r rr _ _ _ _ q => by cases q)⟩
 | n + 1 =>
  have ⟨SC, LS⟩ := iO SD n
  ⟨fun c g ρ ac a h nx lg w k r rr hA R hi hr q => oP SC (SD _ SC) LS c g ρ ac a h nx lg w k r rr hA R hi hr q,
   fun c g ρ ac a h nx lg w k r rr hA R hi hr q => mN LS (oP SC (SD _ SC) LS c) hA R hi hr q⟩
end
end
open RowKit (Below)
noncomputable section
def Sep (l k : List Fp) : Prop := ∀ b i, (T l b i → ¬ W k b i) ∧ (W l b i → ¬ T k b i)
theorem Sep.symm {l k : List Fp} (h : Sep l k) : Sep k l := by grind [Sep]
theorem lZ {f g : Fp} (h : fpAp f g = true) : ∀ b i, (f.t b i → ¬ g.w b i) ∧ (f.w b i → ¬ g.t b i) := by
 intro c i
 cases f with
 | cell b lo hi w =>
  cases g with
  | cell b' lo' hi' w' =>
   have h' : Bool.rec (motive := fun _ => Bool) true (Bool.rec (motive := fun _ => Bool) (Bool.rec (motive := fun _ => Bool) (Bool.rec (motive := fun _ => Bool) (Bool.not w') false w) true (Nat.ble hi' lo)) true (Nat.ble hi lo')) (Nat.beq b b') = true := h
   cases h1 : Nat.beq b b' with
   | false =>
    grind [Nat.ne_of_beq_eq_false, Fp.t, Fp.w]
   | true =>
    rw [h1] at h'
    cases h2 : Nat.ble hi lo' with
    | true =>
     have := Nat.le_of_ble_eq_true h2
     grind [Fp.t, Fp.w]
    | false =>
     rw [h2] at h'
     cases h3 : Nat.ble hi' lo with
     | true =>
      have := Nat.le_of_ble_eq_true h3
      grind [Fp.t, Fp.w]
     | false =>
      rw [h3] at h'
      rcases w with _ | _ <;> rcases w' with _ | _
      ·grind [Fp.w]
      all_goals cases h'
  | fresh n0 n1 =>
   have h' : Bool.rec (motive := fun _ => Bool) (Nat.ble n1 b) true (Nat.blt b n0) = true := h
   have key : b < n0 ∨ n1 ≤ b := by
    cases h1 : Nat.blt b n0 with
    | true => simp_all
    | false => simp_all
   grind [Fp.t, Fp.w]
 | fresh n0 n1 =>
  cases g with
  | cell b lo hi w =>
   have h' : Bool.rec (motive := fun _ => Bool) (Nat.ble n1 b) true (Nat.blt b n0) = true := h
   have key : b < n0 ∨ n1 ≤ b := by
    cases h1 : Nat.blt b n0 with
    | true => simp_all
    | false => simp_all
   grind [Fp.t, Fp.w]
  | fresh m0 m1 =>
   have h' : Bool.rec (motive := fun _ => Bool) (Nat.ble m1 n0) true (Nat.ble n1 m0) = true := h
   have key : m1 ≤ n0 ∨ n1 ≤ m0 := by
    cases h1 : Nat.ble n1 m0 with
    | true => simp_all
    | false => simp_all
   grind [Fp.t, Fp.w]
theorem kM (f : Fp) : ∀ (l : List Fp), ap1 f l = true → ∀ g ∈ l, fpAp f g = true
 | [], _, _, hg => by cases hg
 | g :: l, h, x, hx => by
  have h' : Bool.rec (motive := fun _ => Bool) false (ap1 f l) (fpAp f g) = true := h
  cases hq : fpAp f g with
  | false => rw [hq] at h'; cases h'
  | true =>
   rw [hq] at h'
   rcases List.mem_cons.1 hx with rfl | hx
   ·exact hq
   ·exact kM f l h' x hx
theorem lH : ∀ (l m : List Fp), apL l m = true → ∀ f ∈ l, ap1 f m = true
 | [], _, _, _, hf => by cases hf
 | f :: l, m, h, x, hx => by
  have h' : Bool.rec (motive := fun _ => Bool) false (apL l m) (ap1 f m) = true := h
  cases hq : ap1 f m with
  | false => rw [hq] at h'; cases h'
  | true =>
   rw [hq] at h'
   rcases List.mem_cons.1 hx with rfl | hx
   ·exact hq
   ·exact lH l m h' x hx
theorem apL_sep {l m : List Fp} (h : apL l m = true) : Sep l m := fun b i =>
 ⟨fun ⟨f, hf, t⟩ ⟨g, hg, w⟩ => (lZ (kM f m (lH l m h f hf) g hg) b i).1 t w, fun ⟨f, hf, w⟩ ⟨g, hg, t⟩ => (lZ (kM f m (lH l m h f hf) g hg) b i).2 w t⟩
theorem lK {anc : Nat} {lg : List Fp} : ∀ {l : List (Nat × List Fp)}, apart anc lg l = true → ∀ p ∈ l, has anc p.1 = true ∨ Sep lg p.2
 | [], _, _, hp => by cases hp
 | q :: l, h, p, hp => by
  have h' : Bool.rec (motive := fun _ => Bool) (Bool.rec (motive := fun _ => Bool) false (apart anc lg l) (apL lg q.2)) (apart anc lg l) (has anc q.1) = true := h
  cases h1 : has anc q.1 with
  | true =>
   rw [h1] at h'
   rcases List.mem_cons.1 hp with rfl | hp
   ·exact .inl h1
   ·exact lK h' p hp
  | false =>
   rw [h1] at h'
   cases h2 : apL lg q.2 with
   | false => rw [h2] at h'; cases h'
   | true =>
    rw [h2] at h'
    rcases List.mem_cons.1 hp with rfl | hp
    ·exact .inr (apL_sep h2)
    ·exact lK h' p hp
theorem commute {α β : Type} {p : Pr α} {q : Pr β} (hp : bJ p) (hq : bJ q) {h h1 h2 : Tr Blk} {n0 n1 m0 m1 : Nat} {l k : List Fp} {x : α} {y : β} (e1 : p h n0 = some (x, h1, n1, l)) (e2 : q h1 m0 = some (y, h2, m1, k)) (hs : Sep l k) :
 ∃ g1 g2, q h m0 = some (y, g1, m1, k) ∧ p g1 n0 = some (x, g2, n1, l) ∧ ∀ b i, cv g2 b i = cv h2 b i := by
 obtain ⟨g1, f1, d1⟩ := hq.loc e2 h fun b i t => (hp.out e1 b i fun w => (hs b i).2 w t).symm
 obtain ⟨g2, f2, d2⟩ := hp.loc e1 g1 fun b i t => d1.out b i ((hs b i).1 t)
 refine ⟨g1, g2, f1, f2, fun b i => ?_⟩
 by_cases w : W l b i
 ·rw [d2.inn b i w, hq.out e2 b i ((hs b i).1 w.t)]
 ·rw [d2.out b i w]
  by_cases w2 : W k b i
  ·exact d1.inn b i w2
  ·rw [d1.out b i w2, hq.out e2 b i w2, hp.out e1 b i w]
theorem same_run {α : Type} {p : Pr α} (hp : bJ p) {h g h1 : Tr Blk} {n0 n1 : Nat} {l : List Fp} {x : α} (e1 : p h n0 = some (x, h1, n1, l)) (hs : ∀ b i, cv g b i = cv h b i) : ∃ g1, p g n0 = some (x, g1, n1, l) ∧ ∀ b i, cv g1 b i = cv h1 b i := by
 obtain ⟨g1, f1, d1⟩ := hp.loc e1 g fun b i _ => hs b i
 refine ⟨g1, f1, fun b i => ?_⟩
 by_cases w : W l b i
 ·exact d1.inn b i w
 ·rw [d1.out b i w, hp.out e1 b i w, hs b i]
end
open RowKit (Below)
noncomputable section
section
variable {P : Program} {ex : Ex} {e e' : Tr V}
theorem dR : ∀ {l : List Operand}, (∀ x ∈ l, ev x e = ev x e') → evs l e = evs l e'
 | [], _ => rfl
 | x :: l, h => by
  show (Option.rec none (fun v => Option.rec none (fun vs => some (v :: vs)) (evs l e)) (ev x e) : Option (List V)) = Option.rec none (fun v => Option.rec none (fun vs => some (v :: vs)) (evs l e')) (ev x e')
  rw [h x (.head _), dR fun y hy => h y (.tail _ hy)]
theorem evO_c {x : Option Operand} (h : ∀ y, x = some y → ev y e = ev y e') : evO x e = evO x e' := by
 cases x with
 | none => rfl
 | some x => simp only [evO, h x rfl]
theorem kH : ∀ {ps : List (Nat × Operand)} {x : Operand}, x ∈ prt ps → x ∈ ps.map (·.2)
 | [], _, h => by cases h
 | (n, y) :: ps, x, h => by
  rcases List.mem_cons.1 h with rfl | h
  ·exact .head _
  ·exact .tail _ (kH h)
theorem pM {op : Op} (h : ∀ x ∈ op.operands.toList, ev x e = ev x e') : opH op P ex e = opH op P ex e' := by
 funext k kp kd
 cases op
 case move x =>
  have h0 := h x (by simp [Op.operands])
  show cL x P ex e k kp kd = cL x P ex e' k kp kd
  simp only [cL, aF, aM, aT, h0]
 case assign x =>
  have h0 := h x (by simp [Op.operands])
  show cL x P ex e k kp kd = cL x P ex e' k kp kd
  simp only [cL, aF, aM, aT, h0]
 case pick c x y =>
  have h0 := h c (by simp [Op.operands])
  have h1 := h x (by simp [Op.operands])
  have h2 := h y (by simp [Op.operands])
  show gG c x y P ex e k kp kd = gG c x y P ex e' k kp kd
  simp only [gG, aF, aM, aT, h0, h1, h2]
 case load t x =>
  have h0 := h x (by simp [Op.operands])
  show gP t x P ex e k kp kd = gP t x P ex e' k kp kd
  simp only [gP, aF, aM, aT, h0]
 case store t x y =>
  have h0 := h x (by simp [Op.operands])
  have h1 := h y (by simp [Op.operands])
  show fW t x y P ex e k kp kd = fW t x y P ex e' k kp kd
  simp only [fW, aF, aM, aT, h0, h1]
 case alloc t =>
  show iL t P ex e k kp kd = iL t P ex e' k kp kd
  rfl
 case box t x =>
  have h0 := h x (by simp [Op.operands])
  show hBox t x P ex e k kp kd = hBox t x P ex e' k kp kd
  simp only [hBox, aF, aM, aT, h0]
 case nilCheck x =>
  have h0 := h x (by simp [Op.operands])
  show hNil x P ex e k kp kd = hNil x P ex e' k kp kd
  simp only [hNil, aF, aM, aT, h0]
 case binOp op t x y z =>
  have h0 := h x (by simp [Op.operands])
  have h1 := h y (by simp [Op.operands])
  show hBin op t x y P ex e k kp kd = hBin op t x y P ex e' k kp kd
  simp only [hBin, aF, aM, aT, h0, h1]
 case unOp op t x =>
  have h0 := h x (by simp [Op.operands])
  show hUn op t x P ex e k kp kd = hUn op t x P ex e' k kp kd
  simp only [hUn, aF, aM, aT, h0]
 case convert s t x =>
  have h0 := h x (by simp [Op.operands])
  show fG s t x P ex e k kp kd = fG s t x P ex e' k kp kd
  simp only [fG, aF, aM, aT, h0]
 case makeInterface t x =>
  have h0 := h x (by simp [Op.operands])
  show hMkI t x P ex e k kp kd = hMkI t x P ex e' k kp kd
  simp only [hMkI, aF, aM, aT, h0]
 case makeMap t r =>
  show hMapN t r P ex e k kp kd = hMapN t r P ex e' k kp kd
  rfl
 case makeSlice t x y =>
  have h0 := h x (by simp [Op.operands])
  have h1 := h y (by simp [Op.operands])
  show hMks t x y P ex e k kp kd = hMks t x y P ex e' k kp kd
  simp only [hMks, aF, aM, aT, h0, h1]
 case fieldAddr t x f =>
  have h0 := h x (by simp [Op.operands])
  show hJ t x f P ex e k kp kd = hJ t x f P ex e' k kp kd
  simp only [hJ, aF, aM, aT, h0]
 case field t x f =>
  have h0 := h x (by simp [Op.operands])
  show fI t x f P ex e k kp kd = fI t x f P ex e' k kp kd
  simp only [fI, aF, aM, aT, h0]
 case indexAddr t x i =>
  have h0 := h x (by simp [Op.operands])
  have h1 := h i (by simp [Op.operands])
  show gY t x i P ex e k kp kd = gY t x i P ex e' k kp kd
  simp only [gY, aF, aM, aT, h0, h1]
 case index t x i =>
  have h0 := h x (by simp [Op.operands])
  have h1 := h i (by simp [Op.operands])
  show hIdx t x i P ex e k kp kd = hIdx t x i P ex e' k kp kd
  simp only [hIdx, aF, aM, aT, h0, h1]
 case lookup t x y ok =>
  have h0 := h x (by simp [Op.operands])
  have h1 := h y (by simp [Op.operands])
  show fQ t x y ok P ex e k kp kd = fQ t x y ok P ex e' k kp kd
  simp only [fQ, aF, aM, aT, h0, h1]
 case mapUpdate t x y z =>
  have h0 := h x (by simp [Op.operands])
  have h1 := h y (by simp [Op.operands])
  have h2 := h z (by simp [Op.operands])
  show hUpd t x y z P ex e k kp kd = hUpd t x y z P ex e' k kp kd
  simp only [hUpd, aF, aM, aT, h0, h1, h2]
 case insert t x y z =>
  have h0 := h x (by simp [Op.operands])
  have h1 := h y (by simp [Op.operands])
  have h2 := h z (by simp [Op.operands])
  show hUpd t x y z P ex e k kp kd = hUpd t x y z P ex e' k kp kd
  simp only [hUpd, aF, aM, aT, h0, h1, h2]
 case typeAssert x t T ok =>
  have h0 := h x (by simp [Op.operands])
  show hTa x t T ok P ex e k kp kd = hTa x t T ok P ex e' k kp kd
  simp only [hTa, aF, aM, aT, h0]
 case extract x i =>
  have h0 := h x (by simp [Op.operands])
  show hExt x i P ex e k kp kd = hExt x i P ex e' k kp kd
  simp only [hExt, aF, aM, aT, h0]
 case panic x =>
  have h0 := h x (by simp [Op.operands])
  show jK x P ex e k kp kd = jK x P ex e' k kp kd
  simp only [jK, aF, aM, aT, h0]
 case build t ps =>
  have h0 : evs (prt ps.toList) e = evs (prt ps.toList) e' := dR fun x hx => h x (by simpa [Op.operands] using kH hx)
  show fR t ps P ex e k kp kd = fR t ps P ex e' k kp kd
  simp only [fR, aO, h0]
 case buildSlice t n ps =>
  have h0 : evs (prt ps.toList) e = evs (prt ps.toList) e' := dR fun x hx => h x (by simpa [Op.operands] using kH hx)
  show fM t n ps P ex e k kp kd = fM t n ps P ex e' k kp kd
  simp only [fM, aO, h0]
 case makeFunc fn f c =>
  have h0 : evs f.toList e = evs f.toList e' := by grind [dR, Op.operands]
  have h1 : evs c.toList e = evs c.toList e' := by grind [dR, Op.operands]
  show hMkF fn f c P ex e k kp kd = hMkF fn f c P ex e' k kp kd
  simp only [hMkF, aO, h0, h1]
 case slice t x lo hi mx =>
  have h0 := h x (by simp [Op.operands])
  have h1 : evO lo e = evO lo e' := by grind [evO_c, Op.operands]
  have h2 : evO hi e = evO hi e' := by grind [evO_c, Op.operands]
  have h3 : evO mx e = evO mx e' := by grind [evO_c, Op.operands]
  show gB t x lo hi mx P ex e k kp kd = gB t x lo hi mx P ex e' k kp kd
  simp only [gB, aF, gK, h0, h1, h2, h3]
 case call c =>
  have ha : evs c.args.toList e = evs c.args.toList e' := dR fun x hx => h x (by
   have : x ∈ c.operands.toList := by grind [Call.operands]
   simpa [Op.operands] using this)
  show hCal c.callee c P ex e k kp kd = hCal c.callee c P ex e' k kp kd
  cases hc : c.callee with
  | value f =>
   have h0 := h f (by have : f ∈ c.operands.toList := by grind [Call.operands]
                      simpa [Op.operands] using this)
   show iW f c P ex e k kp kd = iW f c P ex e' k kp kd
   simp only [iW, aF, aO, h0, ha]
  | invoke x name =>
   have h0 := h x (by have : x ∈ c.operands.toList := by grind [Call.operands]
                      simpa [Op.operands] using this)
   show hInv x name c P ex e k kp kd = hInv x name c P ex e' k kp kd
   simp only [hInv, aF, aO, h0, ha]
  | builtin b =>
   cases b
   case append => show gL c P ex e k kp kd = gL c P ex e' k kp kd; simp only [gL, aO, ha]
   case len => show hLen c P ex e k kp kd = hLen c P ex e' k kp kd; simp only [hLen, aO, ha]
   case cap => show hCap c P ex e k kp kd = hCap c P ex e' k kp kd; simp only [hCap, aO, ha]
   case min => show hMm true c P ex e k kp kd = hMm true c P ex e' k kp kd; simp only [hMm, aO, ha]
   case max => show hMm false c P ex e k kp kd = hMm false c P ex e' k kp kd; simp only [hMm, aO, ha]
   case clear => show gO c P ex e k kp kd = gO c P ex e' k kp kd; simp only [gO, aO, ha]
   case unsafeSliceData => show hSlD c P ex e k kp kd = hSlD c P ex e' k kp kd; simp only [hSlD, aO, ha]
   case unsafeString => show gT c P ex e k kp kd = gT c P ex e' k kp kd; simp only [gT, aO, ha]
   all_goals rfl
 case defer c =>
  have ha : evs c.args.toList e = evs c.args.toList e' := dR fun x hx => h x (by
   have : x ∈ c.operands.toList := by grind [Call.operands]
   simpa [Op.operands] using this)
  show eM c P ex e k kp kd = eM c P ex e' k kp kd
  cases hc : c.callee with
  | value f =>
   have h0 := h f (by have : f ∈ c.operands.toList := by grind [Call.operands]
                      simpa [Op.operands] using this)
   unfold eM
   rw [hc]
   show aF f e _ = aF f e' _
   simp only [aF, aO, h0, ha]
  | invoke x name => unfold eM; rw [hc]; rfl
  | builtin b => unfold eM; rw [hc]; rfl
 all_goals rfl
end
end
open RowKit (Below)
noncomputable section
def gdV (w : Bool) (v : Option V) : Option Bool := match v with
 | none => none
 | some (.bool b) => some (b == w)
 | some _ => some false
def gd (all : List Oper) (g : Option (Nat × Bool)) (e : Tr V) : Option Bool := match g with
 | none => some true
 | some p => match bV all p.1 with
  | none => some false
  | some d => gdV p.2 (at_ e d)
def rdS (all : List Oper) (o : Oper) (t : Nat) : Prop := .tmp t ∈ o.op.operands.toList ∨ ∃ j w, o.guard = some (j, w) ∧ bV all j = some t
def ins (d : Option Nat) (v : V) (e : Tr V) : Tr V := match d with
 | none => e
 | some t => pu e t (some v)
theorem dG {d : Option Nat} {v : V} {e : Tr V} {t : Nat} : at_ (ins d v e) t = if d = some t then some v else at_ e t := by
 cases d with
 | none => rfl
 | some s =>
  show at_ (pu e s (some v)) t = _
  grind [aW]
theorem kJ {all : List Oper} {o : Oper} {e e' : Tr V} (h : ∀ t, rdS all o t → at_ e t = at_ e' t) : gd all o.guard e = gd all o.guard e' := by
 cases hg : o.guard with
 | none => rfl
 | some p =>
  obtain ⟨j, w⟩ := p
  cases hd : bV all j with
  | none => simp only [gd, hd]
  | some d => simp only [gd, hd, h d (.inr ⟨j, w, hg, hd⟩)]
theorem kW {P : Program} {ex : Ex} {all : List Oper} {o : Oper} {e e' : Tr V} (h : ∀ t, rdS all o t → at_ e t = at_ e' t) : opH o.op P ex e = opH o.op P ex e' := pM fun x hx => by
 cases x with
 | tmp t => exact h t (.inl hx)
 | const c => rfl
 | global _ => rfl
 | func _ => rfl
theorem opG_gd {all : List Oper} {g : Option (Nat × Bool)} {e : Tr V} {yes no : Prog} {h : Tr Blk} {nx : Nat} {lg : List Fp} {r : O × S} (q : run (opG g all e yes no) h nx lg = some r) : (gd all g e = some true ∧ run yes h nx lg = some r) ∨ (gd all g e = some false ∧ run no h nx lg = some r) := by
 cases g with
 | none => exact .inl ⟨rfl, q⟩
 | some p =>
  obtain ⟨j, w⟩ := p
  have q1 : run (lL all j w e yes no) h nx lg = some r := q
  rcases bP (o := bV all j) q1 with ⟨hd, q2⟩ | ⟨d, hd, q2⟩
  ·grind [gd]
  ·obtain ⟨v, hv, q3⟩ := aA (o := gp e (pa d)) q2
   have hv' : at_ e d = some v := hv
   have hgd : gd all (some (j, w)) e = gdV w (some v) := by simp only [gd, hd, hv']
   rw [hgd]
   rcases mI q3 with ⟨b, rfl, q4⟩ | ⟨hnb, q4⟩
   ·cases b <;> cases w <;> first
     | exact .inl ⟨rfl, q4⟩
     | exact .inr ⟨rfl, q4⟩
   ·right
    refine ⟨?_, q4⟩
    cases v <;> first
     | exact (hnb _ rfl).elim
     | rfl
theorem oW {all : Array Oper} {o : Oper} {e : Tr V} {n : Nat} {a : Act} {ρ : Rho} {b : Bool} (he : aB ρ e n a.tmps) (h : gd all.toList o.guard e = some b) : Region.wanted o (yielded all a.tmps) = b := by
 cases hg : o.guard with
 | none => rw [hg] at h; cases h; simp [Region.wanted, hg]
 | some p =>
  obtain ⟨j, w⟩ := p
  rw [hg] at h
  have hw : Region.wanted o (yielded all a.tmps) = (yielded all a.tmps j == some w) := by simp [Region.wanted, hg]
  rw [hw]
  cases hd : bV all.toList j with
  | none =>
   simp only [gd, hd] at h; cases h
   rw [iZ, Array.getElem?_toList] at hd
   grind [yielded]
  | some d =>
   have hgd : gd all.toList (some (j, w)) e = gdV w (at_ e d) := by simp only [gd, hd]
   rw [hgd] at h
   rw [iZ, Array.getElem?_toList] at hd
   cases hv : at_ e d with
   | none => rw [hv] at h; cases h
   | some v =>
    rw [hv] at h
    obtain ⟨x, hx1, hx2⟩ := he.get d v hv
    by_cases hb : ∃ c, v = .bool c
    ·obtain ⟨c, rfl⟩ := hb
     cases hx2
     cases h
     grind [yielded]
    ·have hnb : ∀ c, v ≠ .bool c := fun c hc => hb ⟨c, hc⟩
     have hnx := oD hnb hx2
     have hy : yielded all a.tmps j = none := by
      grind [yielded]
     rw [hy]
     cases v <;> first
      | exact (hnb _ rfl).elim
      | (cases h; rfl)
def pOp (b : Bool) (p : St) : Pr (V × List Fp) := match b with
 | true => bY p
 | false => fun h nx => some ((aQ, []), h, nx, [])
theorem iV {b : Bool} {p : St} (hp : Loc p) : bJ (pOp b p) := by
 cases b with
 | true => exact oM hp
 | false =>
  refine ⟨fun {h nx x h1 n1 l} e => ?_, fun {h nx x h1 n1 l} e b i hn => ?_, fun {h nx x h1 n1 l} e g ha => ?_⟩
  ·cases e; exact Nat.le_refl _
  ·cases e; rfl
  ·cases e; exact ⟨g, rfl, (by grind [W]), fun b i _ => rfl⟩
section
variable (all : List Oper) (P : Program) (ex : Ex)
def St1 (o : Oper) (n0 n1 : Nat) (L : List Fp) (h : Tr Blk) (e : Tr V) (h' : Tr Blk) (e' : Tr V) : Prop :=
 ∃ b v, gd all o.guard e = some b ∧ pOp b (run (opH o.op P ex e retV noPan noDfr)) h n0 = some ((v, L), h', n1, L) ∧ e' = ins o.dst v e
structure fV (o o' : Oper) (L L' : List Fp) : Prop where
 sep : Sep L L'
 r1 : ∀ t, rdS all o t → o'.dst ≠ some t
 r2 : ∀ t, rdS all o' t → o.dst ≠ some t
 w : ∀ t, o.dst = some t → o'.dst ≠ some t
def Eqv (h : Tr Blk) (e : Tr V) (g : Tr Blk) (f : Tr V) : Prop := (∀ b i, cv g b i = cv h b i) ∧ ∀ t, at_ f t = at_ e t
end
section
variable {all : List Oper} {P : Program} {ex : Ex} {o o' : Oper} {L L' : List Fp} {n0 n1 m0 m1 : Nat} {h h1 h2 g : Tr Blk} {e e1 e2 f : Tr V}
theorem Eqv.refl : Eqv h e h e := by grind [Eqv]
theorem Eqv.trans (p : Eqv h e h1 e1) (q : Eqv h1 e1 h2 e2) : Eqv h e h2 e2 := by grind [Eqv]
theorem pQ (s1 : St1 all P ex o n0 n1 L h e h1 e1) (s2 : St1 all P ex o' m0 m1 L' h1 e1 h2 e2) (I : fV all o o' L L') :
 ∃ g1 f1 g2 f2, St1 all P ex o' m0 m1 L' h e g1 f1 ∧ St1 all P ex o n0 n1 L g1 f1 g2 f2 ∧ Eqv h2 e2 g2 f2 := by
 obtain ⟨b, v, k1, k2, rfl⟩ := s1
 obtain ⟨b', v', k3, k4, rfl⟩ := s2
 have c1 : ∀ t, rdS all o' t → at_ (ins o.dst v e) t = at_ e t := fun t ht => by rw [dG, if_neg (I.r2 t ht)]
 have c2 : ∀ t, rdS all o t → at_ e t = at_ (ins o'.dst v' e) t := fun t ht => by rw [dG, if_neg (I.r1 t ht)]
 rw [kJ c1] at k3
 rw [kW (P := P) (ex := ex) c1] at k4
 obtain ⟨g1, g2, j1, j2, j3⟩ := commute (iV (bF _)) (iV (bF _)) k2 k4 I.sep
 rw [kJ c2] at k1
 rw [kW (P := P) (ex := ex) c2] at j2
 refine ⟨g1, _, g2, _, ⟨b', v', k3, j1, rfl⟩, ⟨b, v, k1, j2, rfl⟩, j3, fun t => ?_⟩
 rw [dG, dG, dG, dG]
 grind [fV.w]
theorem st_eqv (s : St1 all P ex o n0 n1 L h e h1 e1) (q : Eqv h e g f) : ∃ g1 f1, St1 all P ex o n0 n1 L g f g1 f1 ∧ Eqv h1 e1 g1 f1 := by
 obtain ⟨b, v, k1, k2, rfl⟩ := s
 have c1 : ∀ t, rdS all o t → at_ e t = at_ f t := fun t _ => (q.2 t).symm
 rw [kJ c1] at k1
 rw [kW (P := P) (ex := ex) c1] at k2
 obtain ⟨g1, j1, j2⟩ := same_run (iV (bF _)) k2 q.1
 exact ⟨g1, _, ⟨b, v, k1, j1, rfl⟩, j2, fun t => by rw [dG, dG, q.2 t]⟩
end
end
open RowKit (Below)
noncomputable section
section
variable (P : Program) (ex : Ex) (ops : Array Oper) (N0 : Nat → Nat) (L : Nat → List Fp) (hN : Tr Blk) (eN : Tr V)
def Ok : Nat → Array Bool → Tr Blk → Tr V → Prop
 | 0, listed, h, e => Region.ready .any ops listed = [] ∧ Eqv hN eN h e
 | f + 1, listed, h, e => (Region.ready .any ops listed = [] → Eqv hN eN h e) ∧ ∀ i ∈ Region.ready .any ops listed, ∀ o, ops[i]? = some o →
  ∃ h' e', St1 ops.toList P ex o (N0 i) (N0 (i + 1)) (L i) h e h' e' ∧ Ok f (listed.setIfInBounds i true) h' e'
end
section
variable {P : Program} {ex : Ex} {ops : Array Oper} {N0 : Nat → Nat} {L : Nat → List Fp} {hN : Tr Blk} {eN : Tr V} {anc : Nat → Nat → Prop}
theorem Ok.eqv : ∀ (f : Nat) (listed : Array Bool) {h g : Tr Blk} {e e' : Tr V}, Ok P ex ops N0 L hN eN f listed h e → Eqv h e g e' → Ok P ex ops N0 L hN eN f listed g e'
 | 0, _, _, _, _, _, k, q => ⟨k.1, k.2.trans q⟩
 | f + 1, listed, _, _, _, _, k, q => ⟨fun hr => (k.1 hr).trans q, fun i hi o ho => by
  obtain ⟨h', e', s, k2⟩ := k.2 i hi o ho
  obtain ⟨g1, f1, s2, q2⟩ := st_eqv s q
  exact ⟨g1, f1, s2, Ok.eqv f _ k2 q2⟩⟩
theorem nW {l : Array Bool} {i : Nat} (h : l.getD i true = false) (k : l.getD i false = true) : False := by
 grind
def eB (anc : Nat → Nat → Prop) (listed : Array Bool) : Prop := ∀ m, listed.getD m false = true → ∀ q, anc m q → listed.getD q false = true
def fL (ops : Array Oper) (anc : Nat → Nat → Prop) : Prop := ∀ (j : Nat) (oj : Oper), ops[j]? = some oj → ∀ q, anc j q → ∃ e ∈ oj.after, Region.binds .any e = true ∧ (q = e.on ∨ anc e.on q)
theorem jZ (ha : fL ops anc) {listed : Array Bool} (hc : eB anc listed) {j : Nat} (hj : j ∈ Region.ready .any ops listed) {q : Nat} (hq : anc j q) : listed.getD q false = true := by
 obtain ⟨_, oj, hoj, hall⟩ := mem_ready.1 hj
 obtain ⟨e, he, hb, rfl | h2⟩ := ha j oj hoj q hq
 ·exact hall e he hb
 ·exact hc _ (hall e he hb) q h2
theorem eB.set (ha : fL ops anc) {listed : Array Bool} (hc : eB anc listed) {j : Nat} (hj : j ∈ Region.ready .any ops listed) : eB anc (listed.setIfInBounds j true) := fun m hm q hq => by
 refine getD_set_true ?_
 by_cases hjm : j = m
 ·grind [jZ]
 ·rw [getD_set_ne false hjm] at hm; exact hc m hm q hq
theorem mB (ha : fL ops anc) (hind : ∀ (i j : Nat) (oi oj : Oper), ops[i]? = some oi → ops[j]? = some oj → i ≠ j → ¬ anc j i → ¬ anc i j → fV ops.toList oi oj (L i) (L j)) {i : Nat} {oi : Oper} (hi : ops[i]? = some oi) :
 ∀ (f : Nat) (listed : Array Bool) (h : Tr Blk) (e : Tr V) (h1 : Tr Blk) (e1 : Tr V), eB anc listed → i ∈ Region.ready .any ops listed → St1 ops.toList P ex oi (N0 i) (N0 (i + 1)) (L i) h e h1 e1 →
  Ok P ex ops N0 L hN eN f (listed.setIfInBounds i true) h1 e1 → Ok P ex ops N0 L hN eN (f + 1) listed h e
 | 0, listed, h, e, h1, e1, hc, hr, s, H => ⟨(by grind), fun j hj oj hoj => by
  by_cases hji : j = i
  ·grind
  ·have := ready_mono hj hji
   rw [H.1] at this
   cases this⟩
 | f + 1, listed, h, e, h1, e1, hc, hr, s, H => ⟨(by grind), fun j hj oj hoj => by
  by_cases hji : j = i
  ·grind
  ·obtain ⟨h2, e2, s2, k2⟩ := H.2 j (ready_mono hj hji) oj hoj
   have nji : ¬ anc j i := fun hq => nW (mem_ready.1 hr).1 (jZ ha hc hj hq)
   have nij : ¬ anc i j := fun hq => nW (mem_ready.1 hj).1 (jZ ha hc hr hq)
   obtain ⟨g1, f1, g2, f2, t1, t2, t3⟩ := pQ s s2 (by grind)
   refine ⟨g1, f1, t1, mB ha hind hi f (listed.setIfInBounds j true) g1 f1 g2 f2 (hc.set ha hj) (ready_mono hr (Ne.symm hji)) t2 ?_⟩
   rw [Array.setIfInBounds_comm _ _ hji]
   exact Ok.eqv f _ k2 t3⟩
def upTo (n : Nat) : Nat → Array Bool
 | 0 => Array.replicate n false
 | k + 1 => (upTo n k).setIfInBounds k true
theorem gM {n : Nat} (d : Bool) : ∀ (k : Nat), k ≤ n → ∀ j, (upTo n k).getD j d = if j < k then true else if j < n then false else d
 | 0, _, j => by
  show (Array.replicate n false).getD j d = _
  simp_all [Array.getD]
 | k + 1, hk, j => by
  show ((upTo n k).setIfInBounds k true).getD j d = _
  by_cases h : k = j
  ·subst h
   have hs : ∀ m, (upTo n m).size = n := fun m => by induction m with
    | zero => simp [upTo]
    | succ m ih => simp [upTo, ih]
   have := hs k
   simp [Array.getD_eq_getD_getElem?, this, show k < n from hk]
  ·rw [getD_set_ne d h, gM d k (by omega) j]
   grind
theorem ok_all (ha : fL ops anc) (hlt : ∀ i q, anc i q → q < i) (hed : ∀ (i : Nat) (o : Oper), ops[i]? = some o → ∀ e ∈ o.after, Region.binds .any e = true → e.on < i)
 (hind : ∀ (i j : Nat) (oi oj : Oper), ops[i]? = some oi → ops[j]? = some oj → i ≠ j → ¬ anc j i → ¬ anc i j → fV ops.toList oi oj (L i) (L j)) (hs : Nat → Tr Blk) (es : Nat → Tr V)
 (hst : ∀ (i : Nat) (o : Oper), ops[i]? = some o → St1 ops.toList P ex o (N0 i) (N0 (i + 1)) (L i) (hs i) (es i) (hs (i + 1)) (es (i + 1))) :
 ∀ (m k : Nat), k + m = ops.size → Ok P ex ops N0 L (hs ops.size) (es ops.size) m (upTo ops.size k) (hs k) (es k)
 | 0, k, hk => by
  have : k = ops.size := by omega
  subst this
  refine ⟨List.eq_nil_iff_forall_not_mem.2 fun j hj => ?_, Eqv.refl⟩
  obtain ⟨h0, o, ho, _⟩ := mem_ready.1 hj
  have hj : j < ops.size := (Array.getElem?_eq_some_iff.1 ho).1
  rw [gM true _ (Nat.le_refl _), if_pos hj] at h0
  cases h0
 | m + 1, k, hk => by
  have hkl : k < ops.size := by omega
  have ho : ops[k]? = some ops[k] := Array.getElem?_eq_getElem hkl
  refine mB ha hind ho m _ _ _ _ _ (fun q hq p hp => ?_) (mem_ready.2 ⟨?_, _, ho, fun e he hb => ?_⟩) (hst k _ ho) (ok_all ha hlt hed hind hs es hst m (k + 1) (by omega))
  ·rw [gM false _ (by omega)] at hq ⊢
   grind
  ·rw [gM true _ (by omega), if_neg (by omega), if_pos hkl]
  ·rw [gM false _ (by omega), if_pos (hed k _ ho e he hb)]
end
end
open RowKit (Below)
noncomputable section
section
variable {P : Program} {ex : Ex} {ops : Array Oper} {N0 : Nat → Nat} {L : Nat → List Fp} {hN : Tr Blk} {eN : Tr V} {g : G} {ρ0 : Rho} {n : Nat} {ds : List Df} {ro rr : Option Nat} {k : KX} {lgN : List Fp} {r : O × S}
theorem cut_inv {p : St} {h h1 : Tr Blk} {nx n1 : Nat} {v : V} {l l' : List Fp} (e : bY p h nx = some ((v, l), h1, n1, l')) : ∃ lg, p h nx [] = some (.val v, ⟨h1, n1, lg⟩) := by
 unfold bY at e
 split at e
 ·rename_i v s hs; cases e; exact ⟨_, hs⟩
 ·cases e
theorem aB.ins {ρ : Rho} {e : Tr V} {a : Act} {o : Oper} (he : aB ρ e n a.tmps) (hd : ∀ d, o.dst = some d → d < n) {v : V} {x : Value} (hv : tv ρ v = some x) : aB ρ (BX.ins o.dst v e) n (a.put o.dst x).tmps := by
 cases hq : o.dst with
 | none => exact he
 | some t => exact he.put (hd t hq) hv
structure DInv (ops : Array Oper) (N0 : Nat → Nat) (g : G) (ρ0 : Rho) (n : Nat) (ds : List Df) (listed : Array Bool) (ρ : Rho) (h : Tr Blk) (e : Tr V) (a : Act) (w : World) : Prop where
 env : aB ρ e n a.tmps
 dfs : bU ρ ds a.defers
 core : Rel ⟨g.w, 0, 0, ρ⟩ ρ h 0 w
 none : ∀ j, j < ops.size → listed.getD j true = false → ∀ b, N0 j ≤ b → b < N0 (j + 1) → ρ b = Option.none
 rest : ∀ b, N0 ops.size ≤ b → b < g.hi → ρ b = Option.none
 le : g.ρ.le ρ
 le0 : ρ0.le ρ
 out : ∀ b, b < g.lo ∨ g.hi ≤ b → ρ b = g.ρ b
theorem ok_wp (SA : SimA P ex) (SY : SimY P ex) (hmono : ∀ i j, i ≤ j → N0 i ≤ N0 j) (hlo : g.lo ≤ N0 0) (hhi : N0 ops.size ≤ g.hi) (hdst : ∀ (i : Nat) (o : Oper), ops[i]? = some o → ∀ d, o.dst = some d → d < n)
 (hend : run (k .normal ⟨eN, n, ds, ro⟩) hN (N0 ops.size) lgN = some r) : ∀ (f : Nat) (listed : Array Bool) (ρ : Rho) (h : Tr Blk) (e : Tr V) (a : Act) (w : World), DInv ops N0 g ρ0 n ds listed ρ h e a w → Ok P ex ops N0 L hN eN f listed h e →
  wpAnyIn (SX.fw rr) 0 P .any ops (KQ g ρ0 ro k r) f listed a w := by
 have done : ∀ {listed : Array Bool} {ρ : Rho} {h : Tr Blk} {e : Tr V} {a : Act} {w : World}, DInv ops N0 g ρ0 n ds listed ρ h e a w → Eqv hN eN h e → KQ g ρ0 ro k r .normal a w := by
  intro listed ρ h e a w D q
  have hat : ∀ b, at_ hN b = at_ h b := fun b => cvB_ext fun i => (q.1 b i).symm
  refine ⟨.normal, ⟨eN, n, ds, ro⟩, ρ, hN, N0 ops.size, lgN, D.le0, trivial, ⟨⟨D.env.size, fun t v ht => D.env.get t v (by rw [q.2 t]; exact ht)⟩, D.dfs⟩, rfl, ?_, hend⟩
  have R := D.core.ext hat
  exact ⟨R.blk, R.inj, R.new, R.below, Nat.le_trans hlo (hmono _ _ (Nat.zero_le _)), D.rest, D.le, D.out⟩
 have step : ∀ {f : Nat} (ih : ∀ (listed : Array Bool) (ρ : Rho) (h : Tr Blk) (e : Tr V) (a : Act) (w : World), DInv ops N0 g ρ0 n ds listed ρ h e a w → Ok P ex ops N0 L hN eN f listed h e → wpAnyIn (SX.fw rr) 0 P .any ops (KQ g ρ0 ro k r) f listed a w)
  {listed : Array Bool} {ρ : Rho} {h : Tr Blk} {e : Tr V} {a : Act} {w : World} {i : Nat} {o : Oper} {h' : Tr Blk} {e' : Tr V}, DInv ops N0 g ρ0 n ds listed ρ h e a w → i ∈ Region.ready .any ops listed → ops[i]? = some o →
  St1 ops.toList P ex o (N0 i) (N0 (i + 1)) (L i) h e h' e' → Ok P ex ops N0 L hN eN f (listed.setIfInBounds i true) h' e' → wpOpIn (SX.fw rr) 0 P ops (KQ g ρ0 ro k r) i (wpAnyIn (SX.fw rr) 0 P .any ops (KQ g ρ0 ro k r) f (listed.setIfInBounds i true)) a w := by
  intro f ih listed ρ h e a w i o h' e' D hr ho s K
  have hil : i < ops.size := (Array.getElem?_eq_some_iff.1 ho).1
  obtain ⟨b, v, k1, k2, rfl⟩ := s
  have hw := oW D.env k1
  have hun : ∀ j, (listed.setIfInBounds i true).getD j true = false → listed.getD j true = false ∧ j ≠ i := fun j hj => by
   by_cases hji : i = j
   ·simp_all
   simp_all [Ne.symm]
  unfold wpOpIn
  rw [ho]
  simp only
  cases b with
  | true =>
   rw [if_pos hw]
   obtain ⟨lg, q⟩ := cut_inv k2
   have R : Rel ⟨g.w, N0 i, N0 (i + 1), ρ⟩ ρ h (N0 i) w := ⟨D.core.blk, D.core.inj, D.core.new, D.core.below, Nat.le_refl _, D.none i hil (mem_ready.1 hr).1, Rho.le_refl ρ, fun _ _ => rfl⟩
   refine op_sim SA SY D.env R (Nat.le_refl _) q (fun v' x ρ' h2 n2 l2 w' m1 m2 m3 m4 => ?_) (fun ch ch' ρ' h2 n2 l2 w' m1 m2 m3 m4 => by cases m4) (fun d d' l2 m1 m2 => by cases m2)
   have m4' : some ((.val v' : O), (⟨h2, n2, l2⟩ : S)) = some (.val v, ⟨h', N0 (i + 1), lg⟩) := m4
   cases m4'
   refine ih _ ρ' _ _ _ _ ⟨(D.env.mono m1).ins (hdst i o ho) m3, ?_, ⟨m2.blk, m2.inj, m2.new, m2.below, Nat.le_refl _, (by grind), Rho.le_refl _, fun _ _ => rfl⟩, fun j hj hjl b hb1 hb2 => ?_, fun b hb1 hb2 => ?_, Rho.le_trans D.le m1, Rho.le_trans D.le0 m1, fun b hb => ?_⟩ K
   ·have := D.dfs.mono m1
    cases o.dst <;> exact this
   ·obtain ⟨h3, h4⟩ := hun j hjl
    rw [m2.out b ?_]
    ·grind [DInv.none]
    grind [Nat.le_trans]
   ·rw [m2.out b (.inr (Nat.le_trans (hmono _ _ hil) hb1))]; exact D.rest b hb1 hb2
   ·rw [m2.out b ?_]
    ·exact D.out b hb
    grind [Nat.le_trans]
  | false =>
   rw [if_neg (by rw [hw]; simp)]
   have k3 : some (((aQ, []), h, N0 i, []) : (V × List Fp) × Tr Blk × Nat × List Fp) = some ((v, L i), h', N0 (i + 1), L i) := k2
   simp only [Option.some.injEq, Prod.mk.injEq] at k3
   obtain ⟨⟨rfl, _⟩, rfl, _, _⟩ := k3
   refine ⟨fun _ _ => trivial, ih _ ρ _ _ _ _ ⟨D.env.ins (hdst i o ho) rfl, ?_, D.core, (by grind [DInv.none]), D.rest, D.le, D.le0, D.out⟩ K⟩
   have := D.dfs
   cases o.dst <;> exact this
 intro f
 induction f with
 | zero => intro listed ρ h e a w D K; exact ⟨K.1, done D K.2⟩
 | succ f ih =>
  intro listed ρ h e a w D K
  refine ⟨fun hr => done D (K.1 hr), fun i hi => ?_⟩
  obtain ⟨_, o, ho, _⟩ := mem_ready.1 hi
  obtain ⟨h', e', s, K2⟩ := K.2 i hi o ho
  grind
end
end
open RowKit (Below)
noncomputable section
section
variable {all : List Oper} {P : Program} {ex : Ex} {n : Nat} {ds : List Df} {ro : Option Nat} {k : KX} {r : O × S}
theorem nQ {d : Option Nat} {v : V} {e : Tr V} {k : Tr V → Prog} {h : Tr Blk} {nx : Nat} {lg : List Fp} (q : run (insE d v e n k) h nx lg = some r) : (∀ t, d = some t → t < n) ∧ run (k (ins d v e)) h nx lg = some r := by
 cases d with
 | none => exact ⟨(fun t ht => by cases ht), q⟩
 | some t =>
  have q' : run (Bool.rec .fail (pp e (some v) (pa t) k) (Nat.blt t n) : Prog) h nx lg = some r := q
  cases hb : Nat.blt t n with
  | false => rw [hb] at q'; cases q'
  | true =>
   rw [hb] at q'
   have q2 : run (pp e (some v) (pa t) k) h nx lg = some r := q'
   rw [cX] at q2
   rw [Nat.blt_eq] at hb
   exact ⟨(by grind), q2⟩
theorem oA {l : List Fp} : Sep [] l := fun b i => ⟨(fun ⟨_, h, _⟩ => by cases h), (fun ⟨_, h, _⟩ => by cases h)⟩
theorem pC {l : List Fp} : Sep l [] := oA.symm
theorem pSub_log {p : St} {h h1 : Tr Blk} {nx n1 : Nat} {x : V × List Fp} {l : List Fp} (e : bY p h nx = some (x, h1, n1, l)) : x.2 = l := by
 unfold bY at e
 grind
def DRun (all : List Oper) (P : Program) (ex : Ex) (n : Nat) (ds : List Df) (ro : Option Nat) (k : KX) (r : O × S) (l : List Oper) (is : List Inf) (i : Nat) (lg : List (Nat × List Fp)) (e : Tr V) (h : Tr Blk) (nx : Nat) : Prop :=
 ∃ (N0 : Nat → Nat) (L : Nat → List Fp) (hs : Nat → Tr Blk) (es : Nat → Tr V) (lgN : List Fp), N0 i = nx ∧ hs i = h ∧ es i = e ∧ (∀ j, j < l.length → N0 (i + j) ≤ N0 (i + j + 1)) ∧
  (∀ (j : Nat) (o : Oper), l[j]? = some o → (∀ d, o.dst = some d → d < n) ∧ St1 all P ex o (N0 (i + j)) (N0 (i + j + 1)) (L (i + j)) (hs (i + j)) (es (i + j)) (hs (i + j + 1)) (es (i + j + 1))) ∧
  (∀ (j : Nat) (x : Inf), is[j]? = some x → j < l.length → (∀ p ∈ lg, has x.anc p.1 = true ∨ Sep (L (i + j)) p.2) ∧ ∀ j', j' < j → has x.anc (i + j') = true ∨ Sep (L (i + j)) (L (i + j'))) ∧
  run (k .normal ⟨es (i + l.length), n, ds, ro⟩) (hs (i + l.length)) (N0 (i + l.length)) lgN = some r
theorem oO : ∀ (l : List Oper) (is : List Inf) (i : Nat) (lg : List (Nat × List Fp)) (e : Tr V) (h : Tr Blk) (nx : Nat) (lgr : List Fp), run (opsD all P ex l is i lg ⟨e, n, ds, ro⟩ k) h nx lgr = some r →
 DRun all P ex n ds ro k r l is i lg e h nx
 | [], is, i, lg, e, h, nx, lgr, q => ⟨fun _ => nx, fun _ => [], fun _ => h, fun _ => e, lgr, rfl, rfl, rfl, (fun _ _ => Nat.le_refl _), (fun j o ho => by cases ho), (by grind), q⟩
 | o :: l, [], i, lg, e, h, nx, lgr, q => by cases q
 | o :: l, x :: is, i, lg, e, h, nx, lgr, q => by
  have q0 : run (opG o.guard all e (.sub (opH o.op P ex e retV noPan noDfr) fun v m => aD (apart x.anc m lg) (insE o.dst v e n fun e => opsD all P ex l is (i + 1) ((i, m) :: lg) ⟨e, n, ds, ro⟩ k)) (insE o.dst aQ e n fun e => opsD all P ex l is (i + 1) lg ⟨e, n, ds, ro⟩ k)) h nx lgr = some r := q
  have key : ∀ (b : Bool) (v : V) (m : List Fp) (h1 : Tr Blk) (n1 : Nat) (lg1 : List (Nat × List Fp)) (lgr1 : List Fp), gd all o.guard e = some b → pOp b (run (opH o.op P ex e retV noPan noDfr)) h nx = some ((v, m), h1, n1, m) → (∀ t, o.dst = some t → t < n) →
   (∀ p ∈ lg, has x.anc p.1 = true ∨ Sep m p.2) → (∀ p ∈ lg, p ∈ lg1) → ((i, m) ∈ lg1 ∨ m = []) → run (opsD all P ex l is (i + 1) lg1 ⟨ins o.dst v e, n, ds, ro⟩ k) h1 n1 lgr1 = some r → DRun all P ex n ds ro k r (o :: l) (x :: is) i lg e h nx := by
   intro b v m h1 n1 lg1 lgr1 hg hp hd hap hsub hmem q1
   obtain ⟨N', L', hs', es', lgN, a1, a2, a3, a4, a5, a6, a7⟩ := oO l is (i + 1) lg1 _ h1 n1 lgr1 q1
   have ne : ∀ j, i + (j + 1) ≠ i := fun j => by omega
   have e1 : ∀ j, i + (j + 1) = i + 1 + j := fun j => by omega
   have e2 : ∀ j, i + (j + 1) + 1 = i + 1 + j + 1 := fun j => by omega
   refine ⟨fun j => if j = i then nx else N' j, fun j => if j = i then m else L' j, fun j => if j = i then h else hs' j, fun j => if j = i then e else es' j, lgN, by simp, by simp, by simp, fun j hj => ?_, fun j o' ho' => ?_, fun j y hy hj => ?_, ?_⟩
   ·cases j with
    | zero =>
     simp only [Nat.add_zero, if_pos, if_neg (show i + 1 ≠ i by omega), a1]
     exact (iV (bF _)).mono hp
    | succ j =>
     grind
   ·cases j with
    | zero =>
     simp only [List.getElem?_cons_zero, Option.some.injEq] at ho'
     subst ho'
     refine ⟨hd, ?_⟩
     grind [St1]
    | succ j =>
     grind
   ·cases j with
    | zero =>
     grind
    | succ j =>
     simp only [List.getElem?_cons_succ] at hy
     obtain ⟨c1, c2⟩ := a6 j y hy (by simp at hj; omega)
     simp only [if_neg (ne j)]
     rw [e1]
     refine ⟨fun p hp => c1 p (hsub p hp), fun j' hj' => ?_⟩
     cases j' with
     | zero =>
      grind [pC]
     | succ j' =>
      grind
   grind
  rcases opG_gd q0 with ⟨hg, q1⟩ | ⟨hg, q1⟩
  ·rw [oL] at q1
   obtain ⟨⟨v, m⟩, h1, n1, m', p1, q2⟩ := aI q1
   have hm : m = m' := pSub_log p1
   subst hm
   obtain ⟨hap, q3⟩ := aG q2
   obtain ⟨hd, q4⟩ := nQ (k := fun e => opsD all P ex l is (i + 1) ((i, m) :: lg) ⟨e, n, ds, ro⟩ k) q3
   exact key true v m h1 n1 ((i, m) :: lg) _ hg p1 hd (lK hap) (fun p hp => .tail _ hp) (.inl (.head _)) q4
  ·obtain ⟨hd, q4⟩ := nQ (k := fun e => opsD all P ex l is (i + 1) lg ⟨e, n, ds, ro⟩ k) q1
   exact key false aQ [] h nx lg _ hg rfl hd (fun p _ => .inr oA) (fun p hp => hp) (.inr rfl) q4
end
end
open RowKit (Below)
noncomputable section
theorem jM {m i : Nat} : has m i = m.testBit i := by
 show Nat.beq ((m >>> i) &&& 1) 1 = _
 rw [Nat.and_one_is_mod, Nat.shiftRight_eq_div_pow, Nat.testBit_eq_decide_div_mod_eq]
 grind [Nat.beq]
theorem lJ {n t : Nat} : has (bit n) t = true ↔ n = t := by
 rw [jM]
 show (1 <<< n).testBit t = true ↔ _
 grind [Nat.one_shiftLeft]
theorem eE {a b t : Nat} : has (Nat.lor a b) t = true ↔ has a t = true ∨ has b t = true := by
 simp_all [jM]
theorem has_zero {t : Nat} : has 0 t = false := by rw [jM]; simp
theorem lI {a b t : Nat} (h : dis a b = true) (ha : has a t = true) (hb : has b t = true) : False := by
 have h0 : a &&& b = 0 := Nat.eq_of_beq_eq_true h
 rw [jM] at ha hb
 have : (a &&& b).testBit t = true := by grind
 grind
theorem mO : ∀ {l : List Operand} {t : Nat}, Operand.tmp t ∈ l → has (cV l) t = true
 | [], _, h => by cases h
 | x :: l, t, h => by
  show has (Nat.lor (opTmp x) (cV l)) t = true
  rw [eE]
  rcases List.mem_cons.1 h with rfl | h
  ·exact .inl (lJ.2 rfl)
  ·exact .inr (mO h)
theorem iB {d : Option Nat} {t : Nat} (h : d = some t) : has (dE d) t = true := by subst h; exact lJ.2 rfl
theorem has_rd {all : List Oper} {o : Oper} {t : Nat} (h : rdS all o t) : has (Nat.lor (cV o.op.operands.toList) (gBit all o.guard)) t = true := by
 rw [eE]
 rcases h with h | ⟨j, w, h1, h2⟩
 ·exact .inl (mO h)
 ·right
  rw [h1]
  show has (dE (bV all j)) t = true
  exact iB h2
theorem kX {ds : List Nat} {n : Nat} : ∀ {l : List Edge} {m : Nat}, dJ ds n l = some m → (∀ e ∈ l, Region.binds .any e = true → e.on < n) ∧ ∀ q, has m q = true → ∃ e ∈ l, Region.binds .any e = true ∧ (q = e.on ∨ ∃ x, ds[n - 1 - e.on]? = some x ∧ has x q = true)
 | [], m, h => by
  cases h
  grind [has_zero]
 | e :: l, m, h => by
  have h' : (Option.rec none (fun m => Bool.rec (some m) (Bool.rec none (Option.rec none (fun x => aU (Nat.lor (Nat.lor (bit e.on) x) m) none some) (nth ds (Nat.sub (Nat.sub n 1) e.on))) (Nat.blt e.on n)) (Region.binds .any e)) (dJ ds n l) : Option Nat) = some m := h
  cases h0 : dJ ds n l with
  | none => rw [h0] at h'; cases h'
  | some m0 =>
   rw [h0] at h'
   obtain ⟨i1, i2⟩ := kX h0
   cases hb : Region.binds .any e with
   | false =>
    simp_all
   | true =>
    rw [hb] at h'
    cases hl : Nat.blt e.on n with
    | false => rw [hl] at h'; cases h'
    | true =>
     rw [hl] at h'
     cases hn : nth ds (Nat.sub (Nat.sub n 1) e.on) with
     | none => rw [hn] at h'; cases h'
     | some x =>
      rw [hn] at h'
      have h2 : aU (Nat.lor (Nat.lor (bit e.on) x) m0) none some = some m := h'
      rw [gQ] at h2
      have hm : m = Nat.lor (Nat.lor (bit e.on) x) m0 := (Option.some.inj h2).symm
      rw [Nat.blt_eq] at hl
      refine ⟨fun e' he' hb' => ?_, fun q hq => ?_⟩
      ·grind
      ·rw [hm, eE, eE, lJ] at hq
       grind [cS]
end
open RowKit (Below)
noncomputable section
theorem mW {all : List Oper} : ∀ (l : List Oper) (ds : List Nat) (nn : Nat) (k : List Inf → Option (List Inf)) {res : List Inf}, infs all l ds nn k = some res → ∃ xs, k xs = some res ∧ xs.length = l.length ∧ ∀ (j : Nat) (o : Oper), l[j]? = some o →
 ∃ x, xs[j]? = some x ∧ x.tr = Nat.lor (cV o.op.operands.toList) (gBit all o.guard) ∧ x.tw = dE o.dst ∧ ∃ dsj, dJ dsj (nn + j) o.after.toList = some x.anc ∧ (∀ i y, i < j → xs[i]? = some y → dsj[j - 1 - i]? = some y.anc) ∧ ∀ i : Nat, dsj[j + i]? = ds[i]?
 | [], ds, nn, k, res, h => ⟨[], h, rfl, fun j o ho => by cases ho⟩
 | o :: l, ds, nn, k, res, h => by
  have h' : (Option.rec none (fun x => Bool.rec none (aU (Nat.lor (cV o.op.operands.toList) (gBit all o.guard)) none fun tr => aU (dE o.dst) none fun tw => infs all l (x :: ds) (Nat.succ nn) fun l => k (⟨x, tr, tw⟩ :: l)) (plain? o.op)) (dJ ds nn o.after.toList) : Option (List Inf)) = some res := h
  cases ha : dJ ds nn o.after.toList with
  | none => rw [ha] at h'; cases h'
  | some x =>
   rw [ha] at h'
   cases hp : plain? o.op with
   | false => rw [hp] at h'; cases h'
   | true =>
    rw [hp] at h'
    have h2 : (aU (Nat.lor (cV o.op.operands.toList) (gBit all o.guard)) none fun tr => aU (dE o.dst) none fun tw => infs all l (x :: ds) (Nat.succ nn) fun l => k (⟨x, tr, tw⟩ :: l)) = some res := h'
    rw [gQ, gQ] at h2
    obtain ⟨xs, k1, k2, k3⟩ := mW l (x :: ds) (nn + 1) _ h2
    refine ⟨_ :: xs, k1, by simp [k2], fun j o' ho' => ?_⟩
    cases j with
    | zero =>
     simp only [List.getElem?_cons_zero, Option.some.injEq] at ho'
     subst ho'
     exact ⟨_, rfl, rfl, rfl, ds, ha, fun i y hi => absurd hi (Nat.not_lt_zero i), fun i => by rw [Nat.zero_add]⟩
    | succ j =>
     simp only [List.getElem?_cons_succ] at ho'
     obtain ⟨y, c1, c2, c3, dsj, c4, c5, c6⟩ := k3 j o' ho'
     refine ⟨y, c1, c2, c3, dsj, by grind, fun i z hi hz => ?_, fun i => ?_⟩
     ·cases i with
      | zero =>
       simp only [List.getElem?_cons_zero, Option.some.injEq] at hz
       subst hz
       have := c6 0
       simpa using this
      | succ i =>
       grind
     ·have := c6 (i + 1)
      grind
def TA (x y : Inf) : Prop := dis x.tw (Nat.lor y.tr y.tw) = true ∧ dis y.tw x.tr = true
theorem kV {x : Inf} : ∀ (l : List Inf) (n : Nat), eQ x l n = true → ∀ (i : Nat) (y : Inf), l[i]? = some y → has x.anc (n - i) = true ∨ TA x y
 | [], _, _, _, _, h => by cases h
 | y :: l, n, h, i, z, hz => by
  have h' : (Bool.rec (Bool.rec false (Bool.rec false (eQ x l (Nat.sub n 1)) (dis y.tw x.tr)) (dis x.tw (Nat.lor y.tr y.tw))) (eQ x l (Nat.sub n 1)) (has x.anc n) : Bool) = true := h
  cases h1 : has x.anc n with
  | true =>
   rw [h1] at h'
   cases i with
   | zero => exact .inl h1
   | succ i =>
    have := kV l (n - 1) h' i z hz
    grind
  | false =>
   rw [h1] at h'
   cases h2 : dis x.tw (Nat.lor y.tr y.tw) with
   | false => rw [h2] at h'; cases h'
   | true =>
    rw [h2] at h'
    cases h3 : dis y.tw x.tr with
    | false => rw [h3] at h'; cases h'
    | true =>
     rw [h3] at h'
     cases i with
     | zero => cases hz; exact .inr ⟨h2, h3⟩
     | succ i =>
      have := kV l (n - 1) h' i z hz
      grind
theorem oH : ∀ (l : List Inf) (n : Nat) (done : List Inf), fF l n done = true → ∀ (j : Nat) (x : Inf), l[j]? = some x →
 (∀ (i : Nat) (y : Inf), done[i]? = some y → has x.anc (n - 1 - i) = true ∨ TA x y) ∧ ∀ (i : Nat) (y : Inf), i < j → l[i]? = some y → has x.anc (n + i) = true ∨ TA x y
 | [], _, _, _, _, _, h => by cases h
 | x0 :: l, n, done, h, j, x, hx => by
  have h' : (Bool.rec false (fF l (Nat.succ n) (x0 :: done)) (eQ x0 done (Nat.sub n 1)) : Bool) = true := h
  cases h1 : eQ x0 done (Nat.sub n 1) with
  | false => rw [h1] at h'; cases h'
  | true =>
   rw [h1] at h'
   cases j with
   | zero => cases hx; exact ⟨kV done (n - 1) h1, (by omega)⟩
   | succ j =>
    obtain ⟨c1, c2⟩ := oH l (n + 1) (x0 :: done) h' j x hx
    refine ⟨fun i y hy => ?_, fun i y hi hy => ?_⟩
    ·grind
    ·cases i with
     | zero =>
      have := c1 0 y hy
      simpa using this
     | succ i =>
      grind
end
open RowKit (Below)
noncomputable section
section
variable {P : Program} {ex : Ex}
theorem jJ {l : List Oper} {is : List Inf} (hd : eH l = some is) : fF is 0 [] = true ∧ is.length = l.length ∧ ∀ (j : Nat) (o : Oper), l[j]? = some o →
 ∃ x, is[j]? = some x ∧ x.tr = Nat.lor (cV o.op.operands.toList) (gBit l o.guard) ∧ x.tw = dE o.dst ∧ ∃ dsj, dJ dsj j o.after.toList = some x.anc ∧ ∀ i y, i < j → is[i]? = some y → dsj[j - 1 - i]? = some y.anc := by
 obtain ⟨xs, k1, k2, k3⟩ := mW l [] 0 _ hd
 cases ht : fF xs 0 [] with
 | false => rw [ht] at k1; cases k1
 | true =>
  rw [ht] at k1
  have : xs = is := Option.some.inj k1
  grind
def ancR (is : List Inf) (i j : Nat) : Prop := ∃ x, is[i]? = some x ∧ has x.anc j = true
theorem jO {ops : Array Oper} {is : List Inf} (hd : eH ops.toList = some is) : fL ops (ancR is) ∧ ∀ (i : Nat) (o : Oper), ops[i]? = some o → ∀ e ∈ o.after, Region.binds .any e = true → e.on < i := by
 obtain ⟨_, hl, hs⟩ := jJ hd
 refine ⟨fun j oj hj q hq => ?_, fun i o ho e he hb => ?_⟩
 ·obtain ⟨x, hx, hq⟩ := hq
  obtain ⟨y, c1, _, _, dsj, c4, c5⟩ := hs j oj (by grind)
  rw [hx] at c1; cases c1
  obtain ⟨s1, s2⟩ := kX c4
  obtain ⟨e, he, hb, h⟩ := s2 q hq
  refine ⟨e, by simpa using he, hb, ?_⟩
  rcases h with h | ⟨m, hm, hq2⟩
  ·exact .inl h
  ·right
   grind [ancR]
 ·obtain ⟨y, _, _, _, dsj, c4, _⟩ := hs i o (by grind)
  grind [kX]
theorem drawn_lt {ops : Array Oper} {is : List Inf} (hd : eH ops.toList = some is) : ∀ (i q : Nat), ancR is i q → q < i := by
 intro i
 induction i using Nat.strongRecOn with
 | _ i ih =>
  intro q hq
  have hil : i < ops.size := by
   obtain ⟨x, hx, _⟩ := hq
   have h1 := (List.getElem?_eq_some_iff.1 hx).1
   have h2 := (jJ hd).2.1
   simp at h2; omega
  have ho : ops[i]? = some ops[i] := Array.getElem?_eq_getElem hil
  obtain ⟨e, he, hb, h⟩ := (jO hd).1 i _ ho q hq
  have hlt := (jO hd).2 i _ ho e he hb
  rcases h with rfl | h
  ·exact hlt
  ·have := ih e.on hlt q h; omega
theorem oS {ops : Array Oper} {is : List Inf} (hd : eH ops.toList = some is) {i j : Nat} {oi oj : Oper} (hi : ops[i]? = some oi) (hj : ops[j]? = some oj) (hlt : j < i) (hn : ¬ ancR is i j) :
 (∀ t, rdS ops.toList oi t → oj.dst ≠ some t) ∧ (∀ t, rdS ops.toList oj t → oi.dst ≠ some t) ∧ ∀ t, oi.dst = some t → oj.dst ≠ some t := by
 obtain ⟨ht, hl, hs⟩ := jJ hd
 obtain ⟨x, x1, x2, x3, _⟩ := hs i oi (by grind)
 obtain ⟨y, y1, y2, y3, _⟩ := hs j oj (by grind)
 rcases (oH is 0 [] ht i x x1).2 j y hlt y1 with h | ⟨h1, h2⟩
 ·rw [Nat.zero_add] at h; exact (hn ⟨x, x1, h⟩).elim
 ·refine ⟨fun t hr hw => lI h2 (by rw [y3]; exact iB hw) (by rw [x2]; exact has_rd hr), fun t hr hw => lI h1 (by rw [x3]; exact iB hw) (eE.2 (.inl (by rw [y2]; exact has_rd hr))), fun t hw hw2 => lI h1 (by rw [x3]; exact iB hw) (eE.2 (.inr (by rw [y3]; exact iB hw2)))⟩
end
end
open RowKit (Below)
noncomputable section
section
variable {P : Program} {ex : Ex}
theorem kB (hm : P.follows .mixedOrders = true) (SC : SimC P ex) : SimD P ex := fun id ops g ρ ac a h nx lg w k r rr hA R hi hr q => by
 obtain ⟨e, n, ds, ro⟩ := ac
 obtain ⟨is, hd, q1⟩ := aA (o := eH ops.toList) (f := fun is => opsD ops.toList P ex ops.toList is 0 [] ⟨e, n, ds, ro⟩ k) q
 obtain ⟨N0, L, hs, es, lgN, a1, a2, a3, a4, a5, a6, a7⟩ := oO ops.toList is 0 [] e h nx lg q1
 simp only [Nat.zero_add, Array.length_toList] at a4 a5 a6 a7
 have hend := dQ a7
 let M : Nat → Nat := fun j => N0 (min j ops.size)
 have hMe : ∀ j, j ≤ ops.size → M j = N0 j := by grind
 have hM1 : ∀ i, M i ≤ M (i + 1) := fun i => by
  by_cases hl : i < ops.size
  ·grind
  grind [Nat.min_eq_right]
 have hM : ∀ i j, i ≤ j → M i ≤ M j := fun i j hij => by
  induction hij with
  | refl => exact Nat.le_refl _
  | step _ ih => grind
 have hM0 : M 0 = nx := by grind
 have hMN : M ops.size = N0 ops.size := hMe _ (Nat.le_refl _)
 have hhi : M ops.size ≤ g.hi := by omega
 have hst : ∀ (i : Nat) (o : Oper), ops[i]? = some o → St1 ops.toList P ex o (M i) (M (i + 1)) (L i) (hs i) (es i) (hs (i + 1)) (es (i + 1)) := fun i o ho => by
  grind
 have pair : ∀ i j, j < i → i < ops.size → ¬ ancR is i j → Sep (L i) (L j) := fun i j hji hl hn => by
  have hli : i < is.length := by have := (jJ hd).2.1; simp at this; omega
  rcases (a6 i _ (List.getElem?_eq_getElem hli) hl).2 j hji with h1 | h1
  ·exact (hn ⟨_, List.getElem?_eq_getElem hli, h1⟩).elim
  ·exact h1
 have hind : ∀ (i j : Nat) (oi oj : Oper), ops[i]? = some oi → ops[j]? = some oj → i ≠ j → ¬ ancR is j i → ¬ ancR is i j → fV ops.toList oi oj (L i) (L j) := fun i j oi oj h1 h2 hne n1 n2 => by
  have l1 : i < ops.size := (Array.getElem?_eq_some_iff.1 h1).1
  have l2 : j < ops.size := (Array.getElem?_eq_some_iff.1 h2).1
  rcases Nat.lt_or_gt_of_ne hne with hlt | hlt
  ·obtain ⟨s1, s2, s3⟩ := oS hd h2 h1 hlt n1
   exact ⟨(pair j i hlt l2 n1).symm, s2, s1, fun t w1 w2 => s3 t w2 w1⟩
  ·obtain ⟨s1, s2, s3⟩ := oS hd h1 h2 hlt n2
   exact ⟨pair i j hlt l1 n2, s1, s2, s3⟩
 have hok := ok_all (jO hd).1 (drawn_lt hd) (jO hd).2 hind hs es hst ops.size 0 (Nat.zero_add _)
 rw [a2, a3] at hok
 refine wpIn_region_any hm (ok_wp (jB SC) (kT SC) hM (by rw [hM0]; exact R.lo) hhi (fun i o ho => (a5 i o (by grind)).1) (by rw [hMN]; exact a7) ops.size _ ρ h e a _ ⟨hA.env, hA.ds, ⟨R.blk, R.inj, R.new, ⟨R.below.os, R.below.tape, R.below.output, R.below.size, R.below.block⟩, Nat.le_refl _, (by grind), Rho.le_refl _, fun _ _ => rfl⟩, fun j hj _ b hb1 hb2 => ?_, fun b hb1 hb2 => ?_, R.le, Rho.le_refl _, R.out⟩ hok)
 ·exact R.fresh b (Nat.le_trans (by rw [← hM0]; exact hM 0 j (Nat.zero_le _)) hb1) (Nat.lt_of_lt_of_le hb2 (Nat.le_trans (hM _ _ hj) hhi))
 ·exact R.fresh b (by grind) hb2
end
end
open Go.SX Go.SW
open RowKit (Below)
noncomputable section
def aS {α : Type} (t : Tr α) : List Nat → Option (List α)
 | [] => some []
 | n :: r => match gp t (pa n) with
  | none => none
  | some v => match aS t r with
   | none => none
   | some l => some (v :: l)
def cW (n : Nat) (ts : List Nat) : KX := fun x ac => match x, ac.ds, Nat.beq ac.n n with
 | .normal, [], true => (match aS ac.e ts with
  | some vs => .ret (.val (.tup vs))
  | none => .fail)
 | _, _, _ => .fail
def mkT {α : Type} : List Nat → List α → Tr α
 | t :: ts, v :: vs => pu (mkT ts vs) t (some v)
 | _, _ => .leaf
theorem hZ {α : Type} {t : Tr α} : ∀ {ts : List Nat} {vs : List α}, aS t ts = some vs → ∀ n v, at_ (mkT ts vs) n = some v → at_ t n = some v
 | [], vs, h, n, v, k => by cases h; cases k
 | m :: ts, vs, h, n, v, k => by
  simp only [aS] at h
  split at h
  ·cases h
  ·rename_i u hu
   split at h
   ·cases h
   ·rename_i l hl
    cases h
    rw [mkT, aW] at k
    split at k
    ·subst n; exact hu.trans k
    ·exact hZ hl n v k
def seg (P : Program) (N : Nat) (c : Code) (e : Tr V) (n : Nat) (h : Tr Blk) (nx : Nat) (ts bs : List Nat) : Option (List V × List Blk × Nat) := match run (exec P N c ⟨e, n, [], none⟩ (cW n ts)) h nx [] with
 | some (.val (.tup vs), s) => (match aS s.h bs with
  | some ks => some (vs, ks, s.nx)
  | none => none)
 | _ => none
def At (g : G) (e : Tr V) (n : Nat) (h : Tr Blk) (nx : Nat) (a : Act) (w : World) : Prop := ∃ ρ, AcR ρ ⟨e, n, [], none⟩ a ∧ Rel g ρ h nx w
theorem Rel.sub {g : G} {ρ : Rho} {h h' : Tr Blk} {nx : Nat} {w : World} (R : Rel g ρ h nx w) (hs : ∀ b k, at_ h' b = some k → at_ h b = some k) : Rel g ρ h' nx w :=
 ⟨fun b k hb => R.blk b k (hs b k hb), fun b b' x x' h1 h2 => R.inj b b' x x' (fun q => by
  cases hq : at_ h' b with
  | none => exact h1 hq
  | some k => rw [hs b k hq] at q; cases q) (fun q => by
  cases hq : at_ h' b' with
  | none => exact h2 hq
  | some k => rw [hs b' k hq] at q; cases q), R.new, R.below, R.lo, R.fresh, R.le, R.out⟩
theorem piece {P : Program} (hm : P.follows .mixedOrders = true) {N n nx nx1 : Nat} {c : Code} {e : Tr V} {h : Tr Blk} {ts bs : List Nat} {vs : List V} {ks : List Blk} (hk : seg P N c e n h nx ts bs = some (vs, ks, nx1)) {g : G} (hi : nx1 ≤ g.hi) {a : Act} {w : World} (hA : At g e n h nx a w) :
 c.wpIn (SX.fw none) 0 P (fun ex a w => ex = .normal ∧ At g (mkT ts vs) n (mkT bs ks) nx1 a w) a w := by
 obtain ⟨ρ, h1, h2⟩ := hA
 unfold seg at hk
 split at hk
 ·rename_i vs' s hr
  split at hk
  ·rename_i ks' hl
   cases hk
   refine Code.wpIn_mono ?_ ((iO (fun _ SC => kB hm SC) N).1 c g ρ ⟨e, n, [], none⟩ a h nx [] w (cW n ts) _ none h1 h2 hi trivial hr)
   intro ex a' w' ⟨x, ac, ρ', h', nx', lg', hle, hx, hac, hro, R', q⟩
   obtain ⟨e', n', ds', ro'⟩ := ac
   unfold cW at q
   split at q
   ·rename_i hds hn
    dsimp only at hds hn q
    subst hds
    have hn := Nat.eq_of_beq_eq_true hn
    subst hn
    cases hv : aS e' ts with
    | none => rw [hv] at q; cases q
    | some us =>
     rw [hv] at q
     have q' : some ((.val (.tup us) : O), (⟨h', nx', lg'⟩ : S)) = some (.val (.tup vs), s) := q
     cases q'
     refine ⟨?_, ρ', ⟨⟨hac.env.size, fun t v ht => hac.env.get t v (hZ hv t v ht)⟩, hac.ds⟩, R'.sub fun b k hb => hZ hl b k hb⟩
     cases ex <;> first | rfl | exact hx.elim
   ·cases q
  ·cases hk
 ·cases hk
def TB (β : aE) (n : Nat) (e : Tr V) (h : Tr Blk) (nx hi : Nat) (F : Act → World → Prop) : Prop := ∀ m g, SX.St β m [] g.w → g.hi = hi → ∀ a w, At g e n h nx a w → F a w
theorem TB_start {β : aE} {n hi : Nat} {F : Act → World → Prop} (k : TB β n .leaf .leaf 0 hi F) : SW.T β n [] [] [] F := fun m L a w hF hL hS => by
 cases hL
 exact k m ⟨w, 0, hi, fun _ => none⟩ hS rfl a w ⟨fun _ => none, ⟨⟨hF.size, fun t v ht => by cases ht⟩, by rw [hF.defs]; trivial⟩, ⟨(by grind [eG]), fun b b' x x' h => (h (eG _)).elim, (fun b x h => by cases h), ⟨rfl, rfl, rfl, Nat.le_refl _, fun _ _ => rfl⟩, Nat.le_refl _, fun _ _ _ => rfl, fun _ _ h => h, fun _ _ => rfl⟩⟩
theorem dF {P : Program} (hm : P.follows .mixedOrders = true) {β : aE} {N n nx nx1 hi : Nat} {x y : Code} {e : Tr V} {h : Tr Blk} {Q : Exit → Act → World → Prop} {ts bs : List Nat} {vs : List V} {ks : List Blk} (hk : seg P N x e n h nx ts bs = some (vs, ks, nx1)) (hi1 : Nat.ble nx1 hi = true)
 (k : TB β n (mkT ts vs) (mkT bs ks) nx1 hi (y.wpIn (fw none) 0 P Q)) : TB β n e h nx hi ((Code.seq x y).wpIn (fw none) 0 P Q) := fun m g hS hg a w hA =>
 wpIn_seq (Code.wpIn_mono (fun ex a w q => by
  obtain ⟨rfl, q⟩ := q
  exact k m g hS hg a w q) (piece hm hk (by rw [hg]; exact Nat.le_of_ble_eq_true hi1) hA))
theorem TB_end {β : aE} {n nx hi : Nat} {e : Tr V} {h : Tr Blk} {F : Act → World → Prop} (l : List (Nat × Value)) (hl : ∀ p ∈ l, ((at_ e p.1).bind (tv fun _ => none)) = some p.2) (k : SW.T β n [] (l.map fun p => (p.1, fEq p.2)) [] F) : TB β n e h nx hi F := fun m g hS hg a w ⟨ρ, hA, R⟩ => by
 have hb := R.below
 have hlt : ∀ b o, g.w.heap[b]? = some o → b < g.w.heap.size := fun b o h => by grind
 refine k m [] a w ⟨hA.env.size, ?_, fun t φ ht => ?_⟩ rfl ⟨fun b o h => (hb.block b (hlt b o (hS.mem b o h))).trans (hS.mem b o h), fun x h => (by cases h), fun x h => (by cases h), List.nodup_nil, hS.mle, hS.mnew, fun x h => (by cases h), Nat.le_trans hS.size hb.size, fun b h h2 => (hb.block b (Nat.lt_of_lt_of_le h hS.size)).trans (hS.frame b h h2), hb.os.trans hS.os, hb.output.trans hS.output, hb.tape.trans hS.tape⟩
 ·have := hA.ds
  cases hd : a.defers with
  | nil => rfl
  | cons x r => rw [hd] at this; exact this.elim
 ·obtain ⟨p, hp, he⟩ := List.mem_map.1 (lk_mem ht)
  cases he
  have h1 := hl p hp
  cases h2 : at_ e p.1 with
  | none => rw [h2] at h1; cases h1
  | some v =>
   rw [h2] at h1
   obtain ⟨x, h3, h4⟩ := hA.env.get _ v h2
   rw [cK (ρ := fun _ => none) (ρ' := ρ) (fun _ _ h => by cases h) v h1] at h4
   cases h4
   exact ⟨_, h3, rfl⟩
end
open Go.SX Go.SW
open RowKit (Below)
noncomputable section
def Atc (g : G) (ρ0 : Rho) (e : Tr V) (n : Nat) (h : Tr Blk) (nx : Nat) (a : Act) (w : World) : Prop := ∃ ρ, ρ0.le ρ ∧ AcR ρ ⟨e, n, [], none⟩ a ∧ Rel g ρ h nx w
def TC (g : G) (ρ0 : Rho) (n : Nat) (e : Tr V) (h : Tr Blk) (nx : Nat) (F : Act → World → Prop) : Prop := ∀ a w, Atc g ρ0 e n h nx a w → F a w
theorem halt_inv {n : Nat} {ts : List Nat} {x : X} {ac : Ac} {h' : Tr Blk} {nx' : Nat} {lg' : List Fp} {vs : List V} {s : S} (q : run (cW n ts x ac) h' nx' lg' = some (.val (.tup vs), s)) : x = .normal ∧ ac.ds = [] ∧ ac.n = n ∧ aS ac.e ts = some vs ∧ s.h = h' ∧ s.nx = nx' := by
 unfold cW at q
 split at q
 ·rename_i hds hn
  cases hv : aS ac.e ts with
  | none => rw [hv] at q; cases q
  | some us =>
   rw [hv] at q
   have q' : some ((.val (.tup us) : O), (⟨h', nx', lg'⟩ : S)) = some (.val (.tup vs), s) := q
   cases q'
   exact ⟨rfl, hds, Nat.eq_of_beq_eq_true hn, rfl, rfl, rfl⟩
 ·cases q
theorem kK {g : G} {ρ0 ρ ρ' : Rho} {n nx' : Nat} {ts bs : List Nat} {vs : List V} {ks : List Blk} {ac : Ac} {a : Act} {w : World} {h' : Tr Blk} {lg' : List Fp} {x : X} {s : S} (h0 : ρ0.le ρ) (hle : ρ.le ρ') (hac : AcR ρ' ac a) (R : Rel g ρ' h' nx' w) (hro : ac.ro = none)
 (q : run (cW n ts x ac) h' nx' lg' = some (.val (.tup vs), s)) (hl : aS s.h bs = some ks) : x = .normal ∧ Atc g ρ0 (mkT ts vs) n (mkT bs ks) s.nx a w := by
 obtain ⟨h1, h2, h3, h4, h5, h6⟩ := halt_inv q
 obtain ⟨e', n', ds', ro'⟩ := ac
 dsimp only at h2 h3 h4 hro
 subst h2 h3 h5 h6
 exact ⟨h1, ρ', Rho.le_trans h0 hle, ⟨⟨hac.env.size, fun t v ht => hac.env.get t v (hZ h4 t v ht)⟩, hac.ds⟩, R.sub fun b k hb => hZ hl b k hb⟩
theorem bN {P : Program} (hm : P.follows .mixedOrders = true) {g : G} {ρ0 : Rho} {N n nx nx1 : Nat} {x y : Code} {e : Tr V} {h : Tr Blk} {Q : Exit → Act → World → Prop} {ts bs : List Nat} {vs : List V} {ks : List Blk} (hk : seg P N x e n h nx ts bs = some (vs, ks, nx1)) {hi : Nat} (hg : g.hi = hi) (hi1 : Nat.ble nx1 hi = true)
 (k : TC g ρ0 n (mkT ts vs) (mkT bs ks) nx1 (y.wpIn (fw none) 0 P Q)) : TC g ρ0 n e h nx ((Code.seq x y).wpIn (fw none) 0 P Q) := fun a w hA => by
 obtain ⟨ρ, h0, h1, h2⟩ := hA
 unfold seg at hk
 split at hk
 ·rename_i vs' s hr
  split at hk
  ·rename_i ks' hl
   cases hk
   refine wpIn_seq (Code.wpIn_mono ?_ ((iO (fun _ SC => kB hm SC) N).1 x g ρ ⟨e, n, [], none⟩ a h nx [] w (cW n ts) _ none h1 h2 (by rw [hg]; exact Nat.le_of_ble_eq_true hi1) trivial hr))
   intro ex a' w' ⟨x, ac, ρ', h', nx', lg', hle, hx, hac, hro, R', q⟩
   obtain ⟨rfl, hat⟩ := kK h0 hle hac R' hro q hl
   cases ex <;> first | exact k a' w' hat | exact hx.elim
  ·cases hk
 ·cases hk
def segO (P : Program) (N : Nat) (all xs : List Oper) (e : Tr V) (n : Nat) (h : Tr Blk) (nx : Nat) (ts bs : List Nat) : Option (List V × List Blk × Nat) := match run (opsA all P (exec P N) xs ⟨e, n, [], none⟩ (cW n ts)) h nx [] with
 | some (.val (.tup vs), s) => (match aS s.h bs with
  | some ks => some (vs, ks, s.nx)
  | none => none)
 | _ => none
theorem op_monoQ {F : Fence} {n : Nat} {P : Program} {o : Oper} {a : Act} {w : World} {K K' : Act → World → Prop} {Q Q' : Exit → Act → World → Prop} (h : ∀ a w, K a w → K' a w) (hQ : ∀ c a w, Q (.panic c) a w → Q' (.panic c) a w) (hL : LetsOut Q → LetsOut Q')
 (hh : o.wpIn F n P a w K Q) : o.wpIn F n P a w K' Q' := by
 unfold Oper.wpIn at *
 refine ⟨hh.1, ?_⟩
 have hh := hh.2
 generalize (o.semAt F.round a.eval).run P w = r at *
 cases r with
 | ok x w' =>
  cases x <;> simp only [Oper.uponIn] at hh ⊢ <;>
   first
    | exact h _ _ hh
    | exact ⟨hh.1, CallsIn.mono hh.2 (fun e w'' he => by cases e <;> first | exact h _ _ he | exact hQ _ _ _ he | exact hL he)⟩
    | exact ⟨hh.1, RowsIn.mono hh.2 (fun _ _ he => h _ _ he)⟩
    | exact ⟨hh.1, RoundIn.mono hh.2 (fun e w'' he => by cases e <;> first | exact h _ _ he | exact hQ _ _ _ he | exact hL he)⟩
 | halt x w' => cases x <;> simp only [Oper.uponIn] at hh ⊢ <;> first | exact hQ _ _ _ hh | exact hh
theorem jY {F : Fence} {n : Nat} {P : Program} {ops : Array Oper} {Q1 Q : Exit → Act → World → Prop} {ys : List Oper} (h1 : ∀ a w, Q1 .normal a w → wpListIn F n P ops Q ys a w) (hQ : ∀ c a w, Q1 (.panic c) a w → Q (.panic c) a w) (hL : LetsOut Q1 → LetsOut Q) :
 ∀ (xs : List Oper) (a : Act) (w : World), wpListIn F n P ops Q1 xs a w → wpListIn F n P ops Q (xs ++ ys) a w
 | [], a, w, h => h1 a w h
 | o :: xs, a, w, h => by
  rw [List.cons_append]
  unfold wpListIn at h ⊢
  split
  ·rename_i hw
   rw [if_pos hw] at h
   exact op_monoQ (fun a w => jY h1 hQ hL xs a w) hQ hL h
  ·rename_i hw
   rw [if_neg hw] at h
   exact ⟨h.1, jY h1 hQ hL xs _ _ h.2⟩
theorem TC_ops {P : Program} (hm : P.follows .mixedOrders = true) {g : G} {ρ0 : Rho} {N n nx nx1 : Nat} {all : Array Oper} {xs ys : List Oper} {e : Tr V} {h : Tr Blk} {Q : Exit → Act → World → Prop} {ts bs : List Nat} {vs : List V} {ks : List Blk} (hk : segO P N all.toList xs e n h nx ts bs = some (vs, ks, nx1)) {hi : Nat} (hg : g.hi = hi) (hi1 : Nat.ble nx1 hi = true)
 (k : TC g ρ0 n (mkT ts vs) (mkT bs ks) nx1 (wpListIn (fw none) 0 P all Q ys)) : TC g ρ0 n e h nx (wpListIn (fw none) 0 P all Q (xs ++ ys)) := fun a w hA => by
 obtain ⟨ρ, h0, h1, h2⟩ := hA
 unfold segO at hk
 split at hk
 ·rename_i vs' s hr
  split at hk
  ·rename_i ks' hl
   cases hk
   have SC := (iO (P := P) (fun _ SC => kB hm SC) N).1
   have key := lA (g := g) (ρ0 := ρ) (jB SC) (kT SC) (all := all) (k := cW n ts) (rr := none) (by rw [hg]; exact Nat.le_of_ble_eq_true hi1) xs ρ ⟨e, n, [], none⟩ a h nx [] w (Rho.le_refl ρ) h1 h2 trivial hr
   refine jY (fun a' w' => ?_) (fun c a' w' => ?_) (fun hl' => ?_) xs a w key
   ·intro ⟨x, ac, ρ', h', nx', lg', hle, hx, hac, hro, R', q⟩
    obtain ⟨rfl, hat⟩ := kK h0 hle hac R' hro q hl
    exact k a' w' hat
   ·intro ⟨x, ac, ρ', h', nx', lg', hle, hx, hac, hro, R', q⟩
    obtain ⟨rfl, hat⟩ := kK h0 hle hac R' hro q hl
    exact hx.elim
   ·obtain ⟨a', w', x, ac, ρ', h', nx', lg', hle, hx, _⟩ := hl'
    cases x <;> exact hx.elim
  ·cases hk
 ·cases hk
def CB (P : Program) (f : Nat) (args : List V) (h : Tr Blk) (nx : Nat) (v : V) (h' : Tr Blk) (nx' hi : Nat) : Prop :=
 ∀ (g : G) (ρ : Rho) (w : World) (xs : List Value), g.hi = hi → Rel g ρ h nx w → tvs ρ args = some xs → SX.Callable P f ∧ CallsIn (SX.fw none) 0 P f ⟨xs⟩ w fun e w' => ∃ ρ' x, ρ.le ρ' ∧ e = .returned x ∧ tv ρ' v = some x ∧ Rel g ρ' h' nx' w'
def CP (g : G) (ρ0 : Rho) (v : V) (h' : Tr Blk) (nx' : Nat) : Ending → World → Prop := fun e w' => ∃ ρ' x, ρ0.le ρ' ∧ e = .returned x ∧ tv ρ' v = some x ∧ Rel g ρ' h' nx' w'
theorem oU : ∀ (l : List V) (i t : Nat) (v : V), at_ (mkT (List.range' i l.length) l) t = some v → i ≤ t ∧ l[t - i]? = some v
 | [], i, t, v, h => by
  have h2 : at_ (.leaf : Tr V) t = some v := h
  rw [eG] at h2; cases h2
 | x :: l, i, t, v, h => by
  rw [List.length_cons, List.range'_succ, mkT, aW] at h
  split at h
  ·rename_i he
   subst he
   cases h
   exact ⟨Nat.le_refl _, by simp⟩
  ·obtain ⟨h1, h2⟩ := oU l (i + 1) t v h
   refine ⟨by omega, ?_⟩
   rw [show t - i = (t - (i + 1)) + 1 by omega, List.getElem?_cons_succ]
   exact h2
theorem CB_of {P : Program} {f : Nat} {fn : Func} {c : Code} {n nx nx' hi : Nat} {args : List V} {ts : List Nat} {h h' : Tr Blk} {v : V} (hf : P.funcs[f]? = some fn) (hb : fn.body = some c) (hn : fn.ntmps = n) (hc : SX.Callable P f) (hts : ts = List.range' 0 args.length) (hl : Nat.ble args.length n = true)
 (k : ∀ g ρ0, g.hi = hi → TC g ρ0 n (mkT ts args) h nx (c.wpIn (fw none) 0 P (bodyPostDIn (fw none) 0 P fn (CP g ρ0 v h' nx')))) : CB P f args h nx v h' nx' hi := fun g ρ w xs hg R hx => by
 refine ⟨hc, callsIn_of_wp_defers hf hb trivial ?_⟩
 have hlen := dK hx
 have hl := Nat.le_of_ble_eq_true hl
 refine k g ρ hg _ w ⟨ρ, Rho.le_refl ρ, ⟨⟨by simp [hn]; omega, fun t u ht => ?_⟩, trivial⟩, R⟩
 rw [hts] at ht
 obtain ⟨_, h2⟩ := oU args 0 t u ht
 rw [Nat.sub_zero] at h2
 grind [fP]
theorem lW {P : Program} {g : G} {ρ0 : Rho} {n nx id : Nat} {l : List Oper} {y : Code} {e : Tr V} {h : Tr Blk} {Q : Exit → Act → World → Prop} (k : TC g ρ0 n e h nx (wpListIn (fw none) 0 P l.toArray (Exit.then (y.wpIn (fw none) 0 P Q) Q) l)) : TC g ρ0 n e h nx ((Code.seq (.region id l.toArray false) y).wpIn (fw none) 0 P Q) :=
 fun a w hA => wpIn_seq (wpIn_region_lit (k a w hA))
theorem TC_nil {P : Program} {g : G} {ρ0 : Rho} {n nx : Nat} {all : Array Oper} {N : Act → World → Prop} {e : Tr V} {h : Tr Blk} {Q : Exit → Act → World → Prop} (k : TC g ρ0 n e h nx N) : TC g ρ0 n e h nx (wpListIn (fw none) 0 P all (Exit.then N Q) []) := k
theorem mY {P : Program} {g : G} {ρ0 : Rho} {n nx nx1 f d : Nat} {all : Array Oper} {o : Oper} {ys : List Oper} {e : Tr V} {h h1 : Tr Blk} {Q : Exit → Act → World → Prop} {as : List Operand} {ts : Array TypeId} {avs : List V} {v : V} (hg : o.guard = none)
 (ho : o.op = .call { callee := .value (.func f), args := as.toArray, argTypes := ts }) (hd : o.dst = some d) (hdn : Nat.blt d n = true) (hav : evs as e = some avs) {hi : Nat} (hhi : g.hi = hi) (hC : CB P f avs h nx v h1 nx1 hi) (k : TC g ρ0 n (pu e d (some v)) h1 nx1 (wpListIn (fw none) 0 P all Q ys)) : TC g ρ0 n e h nx (wpListIn (fw none) 0 P all Q (o :: ys)) := fun a w hA => by
 obtain ⟨ρ, h0, hac, R⟩ := hA
 have hw : Region.wanted o (yielded all a.tmps) = true := by simp [Region.wanted, hg]
 unfold wpListIn
 rw [if_pos hw]
 have hvs := bH hac.env hav
 obtain ⟨hcal, hc⟩ := hC g ρ w _ hhi R hvs
 have hnd : ∀ c, o.op ≠ .defer c := fun c h => by rw [ho] at h; cases h
 have hrun : (execOp a.eval o).run P w = .ok (.enter f ⟨as.map a.eval⟩) w := by
  have h4 : as.toArray.map a.eval = ⟨as.map a.eval⟩ := by simp
  have h5 : a.eval (.func f) = .func (.func f) #[] #[] := rfl
  simp [execOp, ho, resolve, h5, Deferred.ofValue, invoke, Sem.run_bind, Sem.run, Pure.pure, run_callFunc hcal]
 refine ⟨fun _ _ => trivial, ?_⟩
 rw [fT hnd, hrun, Oper.uponIn_enter]
 refine ⟨(fun h => by cases h), CallsIn.mono (jV hc) fun e' w' he' => ?_⟩
 obtain ⟨ρ', x, hle, rfl, hx, R'⟩ := he'
 rw [Nat.blt_eq] at hdn
 rw [hd]
 exact k _ _ ⟨ρ', Rho.le_trans h0 hle, ⟨(hac.mono hle).env.put hdn hx, (hac.mono hle).ds⟩, R'⟩
theorem TC_ret {P : Program} {g : G} {ρ0 : Rho} {n nx : Nat} {e : Tr V} {h : Tr Blk} {Q : Exit → Act → World → Prop} (k : TC g ρ0 n e h nx (Q .ret)) : TC g ρ0 n e h nx (Code.ret.wpIn (fw none) 0 P Q) := fun a w hA => wpIn_ret (k a w hA)
theorem mU {P : Program} {fn : Func} {g : G} {ρ0 : Rho} {n nx t1 t2 : Nat} {e : Tr V} {h : Tr Blk} {v1 v2 : V} (hr : fn.results = #[.tmp t1, .tmp t2]) (h1 : at_ e t1 = some v1) (h2 : at_ e t2 = some v2) : TC g ρ0 n e h nx (bodyPostDIn (fw none) 0 P fn (CP g ρ0 (.tup [v1, v2]) h nx) .ret) := fun a w hA => by
 obtain ⟨ρ, h0, hac, R⟩ := hA
 obtain ⟨x1, k1, k2⟩ := hac.env.get t1 v1 h1
 obtain ⟨x2, k3, k4⟩ := hac.env.get t2 v2 h2
 have hds : a.defers = [] := by
  have := hac.ds
  cases hd : a.defers with
  | nil => rfl
  | cons x r => rw [hd] at this; exact this.elim
 show LeavesIn (fw none) 0 P fn a.tmps _ a.defers .returning w
 rw [hds]
 refine ⟨.tuple #[x1, x2], by simp [results, hr, Array.getD_eq_getD_getElem?, k1, k3, Sem.run_bind, Sem.run, Pure.pure], ρ, _, h0, rfl, ?_, R⟩
 simp [tv, tvs, k2, k4]
theorem jD {P : Program} (hm : P.follows .mixedOrders = true) (j : Nat) {g : G} {ρ0 : Rho} {N n nx nx1 : Nat} {l : List Oper} {all : Array Oper} {e : Tr V} {h : Tr Blk} {Q : Exit → Act → World → Prop} {ts bs : List Nat} {vs : List V} {ks : List Blk} (hk : segO P N all.toList (l.take j) e n h nx ts bs = some (vs, ks, nx1)) {hi : Nat} (hg : g.hi = hi) (hi1 : Nat.ble nx1 hi = true)
 (k : TC g ρ0 n (mkT ts vs) (mkT bs ks) nx1 (wpListIn (fw none) 0 P all Q (l.drop j))) : TC g ρ0 n e h nx (wpListIn (fw none) 0 P all Q l) := by
 have := TC_ops (ys := l.drop j) hm hk hg hi1 k
 rwa [List.take_append_drop] at this
theorem iD {P : Program} {g : G} {ρ0 : Rho} {n nx : Nat} {all : Array Oper} {l l' : List Oper} {e : Tr V} {h : Tr Blk} {Q : Exit → Act → World → Prop} (hl : l = l') (k : TC g ρ0 n e h nx (wpListIn (fw none) 0 P all Q l')) : TC g ρ0 n e h nx (wpListIn (fw none) 0 P all Q l) := hl ▸ k
theorem TB_TC {β : aE} {n nx nx' hi : Nat} {e e' : Tr V} {h h' : Tr Blk} {F F' : Act → World → Prop} (k : ∀ g : G, g.hi = hi → TC g (fun _ => none) n e' h' nx' F' → TC g (fun _ => none) n e h nx F) (k2 : TB β n e' h' nx' hi F') : TB β n e h nx hi F := fun m g hS hg a w hA => by
 obtain ⟨ρ, h1, h2⟩ := hA
 exact k g hg (fun a w ⟨ρ, _, h1, h2⟩ => k2 m g hS hg a w ⟨ρ, h1, h2⟩) a w ⟨ρ, (fun _ _ h => by cases h), h1, h2⟩
end
end Go.BX
