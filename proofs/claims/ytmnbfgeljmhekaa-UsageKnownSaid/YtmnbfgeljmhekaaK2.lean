/- Parts of the proof: lemmas, and the steps through the program. -/
import Derived.Test.YtmnbfgeljmhekaaK1
set_option maxRecDepth 100000
set_option maxHeartbeats 2000000
namespace Go.Proofs.Ytmnbfgeljmhekaa
open Go.SX Go.SW Go.Dt
def scope_def_1_S (a0 : Int) (w0 : ScopeDef) : Option (Unit ⊕ Value) :=
 if 0 ≤ a0 then
  (scope_want_S (decide (a0 ≤ (w0.Spots.length : Int)))).bind fun y1 =>
  match y1 with
  | Sum.inr pv1 => some (Sum.inr pv1)
  | Sum.inl y1 =>
  some (Sum.inl ())
 else
  (scope_want_S false).bind fun y2 =>
  match y2 with
  | Sum.inr pv2 => some (Sum.inr pv2)
  | Sum.inl y2 =>
  some (Sum.inl ())
theorem scope_def_1_w  (a0 : Int) (w0 : ScopeDef) (r : Unit ⊕ Value) (H : scope_def_1_S a0 w0 = some r) : FnE Try.prog 101 [fInt .i64 a0, fPtr tScopeDef w0] [] r (fun r => fTup []) (fun r => []) := by
 unfold scope_def_1_S at H
 refine FnE_of Try.func101 rfl Try.ntmps101 rfl (fun β => ?_)
 refine T_region ?_
 refine Ym ?_
 refine Yy (o_geq rfl hh hh) ?_
 refine Ym ?_
 revert H; refine is (fun c1 H => ?_) fun c1 H => ?_
 ·
  refine Yg c1 (o_move rfl hh) ?_
  refine Yg c1 (o_field (t' := (tSl tScopeSpot)) (z := w0.Spots) rfl hh ty_fa_52_1 rfl) ?_
  refine Yg c1 (o_load rfl hh ty_sc_50 rfl) ?_
  refine Yg c1 (o_len rfl hh ty_us_50) ?_
  refine Yg c1 (o_leq rfl hh hh) ?_
  refine Yy (o_pick_t rfl hh c1 hh) ?_
  revert H; refine bs fun y1 h1 H => ?_
  rcases y1 with y1 | pv1 <;> dsimp only at H
  ·
   refine T_call trivial rfl rfl rfl (has rfl) (HasL.cons (has rfl) HasL.nil) rfl ty_cb_84 (scope_want_w (decide (a0 ≤ (w0.Spots.length : Int))) (Sum.inl y1) h1).s rfl ?_
   refine T_nil ?_
   cases H
   refine T_inl ?_
   exact T_out0 (.inr rfl) rfl rfl
  ·
   refine T_callP trivial rfl (has rfl) (HasL.cons (has rfl) HasL.nil) rfl ty_cb_84 (scope_want_w (decide (a0 ≤ (w0.Spots.length : Int))) (Sum.inr pv1) h1).pan rfl ?_
   cases H
   exact T_inr
 ·
  refine Yf c1 ?_
  refine Yf c1 ?_
  refine Yf c1 ?_
  refine Yf c1 ?_
  refine Yf c1 ?_
  refine Yy (o_pick_f rfl hh c1 hh) ?_
  revert H; refine bs fun y2 h2 H => ?_
  rcases y2 with y2 | pv2 <;> dsimp only at H
  ·
   refine T_call trivial rfl rfl rfl (has rfl) (HasL.cons (has rfl) HasL.nil) rfl ty_cb_84 (scope_want_w false (Sum.inl y2) h2).s rfl ?_
   refine T_nil ?_
   cases H
   refine T_inl ?_
   exact T_out0 (.inr rfl) rfl rfl
  ·
   refine T_callP trivial rfl (has rfl) (HasL.cons (has rfl) HasL.nil) rfl ty_cb_84 (scope_want_w false (Sum.inr pv2) h2).pan rfl ?_
   cases H
   exact T_inr
def scope_def_l1 (a0 : ScopeDef) : Nat → Int → Option ((Unit) ⊕ (Unit ⊕ Value))
| 0, _ => none
| k + 1, x2 =>
 if x2 < (((⟨a0.Chans, a0.Spots, a0.Rules⟩ : ScopeDef).Chans).length : Int) then
  ((idx ((⟨a0.Chans, a0.Spots, a0.Rules⟩ : ScopeDef).Chans) x2).bind fun y4 =>
  (scope_def_1_S y4.At (⟨a0.Chans, a0.Spots, a0.Rules⟩ : ScopeDef)).bind fun y5 =>
  match y5 with
  | Sum.inr pv4 => ((some (Sum.inr pv4)).bind fun r => some (Sum.inr r)).bind fun r => some (Sum.inr r)
  | Sum.inl y5 =>
  if 0 ≤ y4.Many then
   (scope_want_S (decide (y4.Many ≤ 3))).bind fun y6 =>
   match y6 with
   | Sum.inr pv5 => ((some (Sum.inr pv5)).bind fun r => some (Sum.inr r)).bind fun r => some (Sum.inr r)
   | Sum.inl y6 =>
   some (Sum.inl ())
  else
   (scope_want_S false).bind fun y7 =>
   match y7 with
   | Sum.inr pv6 => ((some (Sum.inr pv6)).bind fun r => some (Sum.inr r)).bind fun r => some (Sum.inr r)
   | Sum.inl y7 =>
   some (Sum.inl ())).bind fun o => match o with
  | Sum.inr r => some r
  | Sum.inl _ =>
  (chk (x2 + 1)).bind fun z1 =>
  scope_def_l1 a0 k z1
 else
  some (Sum.inl ())
def scope_def_l2 (a0 : ScopeDef) : Nat → Int → Option ((Unit) ⊕ (Unit ⊕ Value))
| 0, _ => none
| k + 1, x4 =>
 if x4 < (((⟨a0.Chans, a0.Spots, a0.Rules⟩ : ScopeDef).Spots).length : Int) then
  ((idx ((⟨a0.Chans, a0.Spots, a0.Rules⟩ : ScopeDef).Spots) x4).bind fun y8 =>
  if 0 ≤ y8.In then
   (scope_want_S (decide (y8.In ≤ x4))).bind fun y9 =>
   match y9 with
   | Sum.inr pv7 => ((some (Sum.inr pv7)).bind fun r => some (Sum.inr r)).bind fun r => some (Sum.inr r)
   | Sum.inl y9 =>
   some (Sum.inl ())
  else
   (scope_want_S false).bind fun y10 =>
   match y10 with
   | Sum.inr pv8 => ((some (Sum.inr pv8)).bind fun r => some (Sum.inr r)).bind fun r => some (Sum.inr r)
   | Sum.inl y10 =>
   some (Sum.inl ())).bind fun o => match o with
  | Sum.inr r => some r
  | Sum.inl _ =>
  (chk (x4 + 1)).bind fun z2 =>
  scope_def_l2 a0 k z2
 else
  some (Sum.inl ())
def scope_def_l4 (fuel : Nat) (a0 : ScopeDef) (y11 : ScopeRule) : Nat → Int → (GMap Int Bool) → Option ((GMap Int Bool) ⊕ ((GMap Int Bool) ⊕ (Unit ⊕ Value)))
| 0, _, _ => none
| k + 1, x13, x14 =>
 if x13 < (y11.Joins.length : Int) then
  (idx y11.Joins x13).bind fun y15 =>
  (if 0 ≤ y15 then
   if y15 < (((⟨a0.Chans, a0.Spots, a0.Rules⟩ : ScopeDef).Chans).length : Int) then
    (idx ((⟨a0.Chans, a0.Spots, a0.Rules⟩ : ScopeDef).Chans) y15).bind fun y16 =>
    if y16.At = y11.At then
     (slc y11.Joins 0 x13).bind fun y17 =>
     (slices_Contains_Lint_int_S fuel y17 y15).bind fun y18 =>
     (scope_want_S (!y18)).bind fun y19 =>
     match y19 with
     | Sum.inr pv12 => (((some (Sum.inr pv12)).bind fun r => some (Sum.inr r)).bind fun r => some (Sum.inr r)).bind fun r => some (Sum.inr r)
     | Sum.inl y19 =>
     some (Sum.inl ())
    else
     (scope_want_S false).bind fun y20 =>
     match y20 with
     | Sum.inr pv13 => (((some (Sum.inr pv13)).bind fun r => some (Sum.inr r)).bind fun r => some (Sum.inr r)).bind fun r => some (Sum.inr r)
     | Sum.inl y20 =>
     some (Sum.inl ())
   else
    (scope_want_S false).bind fun y21 =>
    match y21 with
    | Sum.inr pv14 => (((some (Sum.inr pv14)).bind fun r => some (Sum.inr r)).bind fun r => some (Sum.inr r)).bind fun r => some (Sum.inr r)
    | Sum.inl y21 =>
    some (Sum.inl ())
  else
   (scope_want_S false).bind fun y22 =>
   match y22 with
   | Sum.inr pv15 => (((some (Sum.inr pv15)).bind fun r => some (Sum.inr r)).bind fun r => some (Sum.inr r)).bind fun r => some (Sum.inr r)
   | Sum.inl y22 =>
   some (Sum.inl ())).bind fun o => match o with
  | Sum.inr r => some r
  | Sum.inl _ =>
  (chk (x13 + 1)).bind fun z3 =>
  scope_def_l4 fuel a0 y11 k z3 (GMap.upd x14 y15 true)
 else
  some (Sum.inl x14)
def scope_def_l3 (fuel : Nat) (a0 : ScopeDef) : Nat → Int → (GMap Int Bool) → Option ((GMap Int Bool) ⊕ (Unit ⊕ Value))
| 0, _, _ => none
| k + 1, x8, x9 =>
 if x8 < (((⟨a0.Chans, a0.Spots, a0.Rules⟩ : ScopeDef).Rules).length : Int) then
  ((idx ((⟨a0.Chans, a0.Spots, a0.Rules⟩ : ScopeDef).Rules) x8).bind fun y11 =>
  (scope_def_1_S y11.At (⟨a0.Chans, a0.Spots, a0.Rules⟩ : ScopeDef)).bind fun y12 =>
  match y12 with
  | Sum.inr pv9 => ((some (Sum.inr pv9)).bind fun r => some (Sum.inr r)).bind fun r => some (Sum.inr r)
  | Sum.inl y12 =>
  (if 0 < (y11.Joins.length : Int) then
   (scope_want_S (decide ((y11.Joins.length : Int) ≤ 3))).bind fun y13 =>
   match y13 with
   | Sum.inr pv10 => (((some (Sum.inr pv10)).bind fun r => some (Sum.inr r)).bind fun r => some (Sum.inr r)).bind fun r => some (Sum.inr r)
   | Sum.inl y13 =>
   some (Sum.inl ())
  else
   (scope_want_S false).bind fun y14 =>
   match y14 with
   | Sum.inr pv11 => (((some (Sum.inr pv11)).bind fun r => some (Sum.inr r)).bind fun r => some (Sum.inr r)).bind fun r => some (Sum.inr r)
   | Sum.inl y14 =>
   some (Sum.inl ())).bind fun o => match o with
  | Sum.inr r => some r
  | Sum.inl _ =>
  scope_def_l4 fuel a0 y11 fuel 0 x9).bind fun o => match o with
  | Sum.inr r => some r
  | Sum.inl x10 =>
  (chk (x8 + 1)).bind fun z4 =>
  scope_def_l3 fuel a0 k z4 x10
 else
  some (Sum.inl x9)
def scope_def_S (fuel : Nat) (a0 : ScopeDef) : Option (Unit ⊕ Value) :=
 (if (a0.Chans.length : Int) ≤ 30 then
  if (a0.Spots.length : Int) ≤ 30 then
   (scope_want_S (decide ((a0.Rules.length : Int) ≤ 30))).bind fun y1 =>
   match y1 with
   | Sum.inr pv1 => (some (Sum.inr pv1)).bind fun r => some (Sum.inr r)
   | Sum.inl y1 =>
   some (Sum.inl ())
  else
   (scope_want_S false).bind fun y2 =>
   match y2 with
   | Sum.inr pv2 => (some (Sum.inr pv2)).bind fun r => some (Sum.inr r)
   | Sum.inl y2 =>
   some (Sum.inl ())
 else
  (scope_want_S false).bind fun y3 =>
  match y3 with
  | Sum.inr pv3 => (some (Sum.inr pv3)).bind fun r => some (Sum.inr r)
  | Sum.inl y3 =>
  some (Sum.inl ())).bind fun o => match o with
 | Sum.inr r => some r
 | Sum.inl _ =>
 (scope_def_l1 a0 fuel 0).bind fun o => match o with
 | Sum.inr r => some r
 | Sum.inl _ =>
 (scope_def_l2 a0 fuel 0).bind fun o => match o with
 | Sum.inr r => some r
 | Sum.inl _ =>
 (scope_def_l3 fuel a0 fuel 0 (GMap.none : GMap Int Bool)).bind fun o => match o with
 | Sum.inr r => some r
 | Sum.inl x5 =>
 (scope_want_S (decide ((x5.size : Int) = (((⟨a0.Chans, a0.Spots, a0.Rules⟩ : ScopeDef).Chans).length : Int)))).bind fun y23 =>
 match y23 with
 | Sum.inr pv16 => some (Sum.inr pv16)
 | Sum.inl y23 =>
 some (Sum.inl ())
theorem scope_def_w (fuel : Nat)  (a0 : ScopeDef) (r : Unit ⊕ Value) (H : scope_def_S fuel a0 = some r) : FnE Try.prog 96 [fSt tScopeDef a0] [] r (fun r => fTup []) (fun r => []) := by
 unfold scope_def_S at H
 refine FnE_of Try.func96 rfl Try.ntmps96 rfl (fun β => ?_)
 refine Sr ?_
 refine T_new trivial rfl rfl (n_box rfl (has rfl) part_agg) (fun b1 => ?_)
 refine Nn ?_
 revert H; refine bs fun o1 H Hr1 => ?_
 refine T_seqJ (ι := Unit) (fun i => o1 = Sum.inl ()) (fun i => [(1, fEq (.pointer (some ⟨b1, 0, none⟩)))]) (fun i => [tBlk b1 52 [fSl tScopeChan a0.Chans, fSl tScopeSpot a0.Spots, fSl tScopeRule a0.Rules]]) ?_ ?_
 ·
  refine T_region ?_
  refine Yy (o_fieldB 0 rfl hh ty_fa_52_0 rfl) ?_
  refine Yo 0 rfl (o_loadB rfl hh ty_sc_45 rfl Ent.rfl) ?_
  refine Yy (o_len rfl hh ty_us_45) ?_
  refine Yy (o_leq rfl hh hh) ?_
  refine Ym ?_
  revert H; refine is (fun c1 H => ?_) fun c1 H => ?_
  ·
   refine Yg c1 (o_fieldB 1 rfl hh ty_fa_52_1 rfl) ?_
   refine Yh 0 rfl c1 (o_loadB rfl hh ty_sc_50 rfl Ent.rfl) ?_
   refine Yg c1 (o_len rfl hh ty_us_50) ?_
   refine Yg c1 (o_leq rfl hh hh) ?_
   refine Yy (o_pick_t rfl hh c1 hh) ?_
   refine Ym ?_
   revert H; refine is (fun c2 H => ?_) fun c2 H => ?_
   ·
    refine Yg c2 (o_fieldB 2 rfl hh ty_fa_52_2 rfl) ?_
    refine Yh 0 rfl c2 (o_loadB rfl hh ty_sc_49 rfl Ent.rfl) ?_
    refine Yg c2 (o_len rfl hh ty_us_49) ?_
    refine Yg c2 (o_leq rfl hh hh) ?_
    refine Yy (o_pick_t rfl hh c2 hh) ?_
    revert H; refine bs fun y1 h1 H => ?_
    rcases y1 with y1 | pv1 <;> dsimp only at H
    ·
     refine T_call trivial rfl rfl rfl (has rfl) (HasL.cons (has rfl) HasL.nil) rfl ty_cb_84 (scope_want_w (decide ((a0.Rules.length : Int) ≤ 30)) (Sum.inl y1) h1).s rfl ?_
     refine Nn ?_
     exact T_meet (()) (Option.some.inj H).symm (Sc SubT.nil) rfl
    ·
     refine T_callP trivial rfl (has rfl) (HasL.cons (has rfl) HasL.nil) rfl ty_cb_84 (scope_want_w (decide ((a0.Rules.length : Int) ≤ 30)) (Sum.inr pv1) h1).pan rfl ?_
     refine T_then_panic ?_
     revert H; refine bs fun r1 H e1 => ?_
     have e1 := Option.some.inj e1; subst e1; have Hr1 := Option.some.inj Hr1; subst Hr1
     cases H
     exact T_inr
   ·
    refine Yf c2 ?_
    refine Yf c2 ?_
    refine Yf c2 ?_
    refine Yf c2 ?_
    refine Yy (o_pick_f rfl hh c2 hh) ?_
    revert H; refine bs fun y2 h2 H => ?_
    rcases y2 with y2 | pv2 <;> dsimp only at H
    ·
     refine T_call trivial rfl rfl rfl (has rfl) (HasL.cons (has rfl) HasL.nil) rfl ty_cb_84 (scope_want_w false (Sum.inl y2) h2).s rfl ?_
     refine Nn ?_
     exact T_meet (()) (Option.some.inj H).symm (Sc SubT.nil) rfl
    ·
     refine T_callP trivial rfl (has rfl) (HasL.cons (has rfl) HasL.nil) rfl ty_cb_84 (scope_want_w false (Sum.inr pv2) h2).pan rfl ?_
     refine T_then_panic ?_
     revert H; refine bs fun r2 H e2 => ?_
     have e2 := Option.some.inj e2; subst e2; have Hr1 := Option.some.inj Hr1; subst Hr1
     cases H
     exact T_inr
  ·
   refine Yf c1 ?_
   refine Yf c1 ?_
   refine Yf c1 ?_
   refine Yf c1 ?_
   refine Yy (o_pick_f rfl hh c1 hh) ?_
   refine Ym ?_
   refine Yd ?_
   refine Yd ?_
   refine Yd ?_
   refine Yd ?_
   refine Yy (o_pick_f rfl hh rfl hh) ?_
   revert H; refine bs fun y3 h3 H => ?_
   rcases y3 with y3 | pv3 <;> dsimp only at H
   ·
    refine T_call trivial rfl rfl rfl (has rfl) (HasL.cons (has rfl) HasL.nil) rfl ty_cb_84 (scope_want_w false (Sum.inl y3) h3).s rfl ?_
    refine Nn ?_
    exact T_meet (()) (Option.some.inj H).symm (Sc SubT.nil) rfl
   ·
    refine T_callP trivial rfl (has rfl) (HasL.cons (has rfl) HasL.nil) rfl ty_cb_84 (scope_want_w false (Sum.inr pv3) h3).pan rfl ?_
    refine T_then_panic ?_
    revert H; refine bs fun r3 H e3 => ?_
    have e3 := Option.some.inj e3; subst e3; have Hr1 := Option.some.inj Hr1; subst Hr1
    cases H
    exact T_inr
 ·
  clear H; intro i hi; subst o1; have H := Hr1; clear Hr1; try dsimp only at H
  show T β _ _ [(1, fEq (.pointer (some ⟨b1, 0, none⟩)))] [tBlk b1 52 [fSl tScopeChan a0.Chans, fSl tScopeSpot a0.Spots, fSl tScopeRule a0.Rules]] _
  refine Sr ?_
  refine T_freeze (φ := fPtr tScopeDef (⟨a0.Chans, a0.Spots, a0.Rules⟩ : ScopeDef)) (v := ptr b1) [1] (frz_blk EntL.rfl) (by intro s hs; simp only [List.mem_cons, List.not_mem_nil, or_false] at hs; rcases hs with rfl <;> rfl) ?_
  refine T_dropT ?_
  refine Yy (o_clo rfl (HasL.cons hh HasL.nil)) ?_
  refine Ya ?_
  refine Nn ?_
  revert H; refine bs fun o2 H Hr2 => ?_
  refine T_seqJ (ι := Unit) (fun i => o2 = Sum.inl ()) (fun i => [(1, fPtr tScopeDef (⟨a0.Chans, a0.Spots, a0.Rules⟩ : ScopeDef)), (2, fClo 101 [fPtr tScopeDef (⟨a0.Chans, a0.Spots, a0.Rules⟩ : ScopeDef)])]) (fun i => []) ?_ ?_
  ·
   refine Sr ?_
   refine Yy (o_field (t' := (tSl tScopeChan)) (z := (⟨a0.Chans, a0.Spots, a0.Rules⟩ : ScopeDef).Chans) rfl hh ty_fa_52_0 rfl) ?_
   refine Yy (o_load rfl hh ty_sc_45 rfl) ?_
   refine Yy (o_len rfl hh ty_us_45) ?_
   refine Ym ?_
   refine Nn ?_
   refine T_block ?_
   refine T_loop (ι := Nat × Int) (fun i => scope_def_l1 a0 i.1 i.2 = _) (fun i => i.1) (fun i => [(1, fPtr tScopeDef (⟨a0.Chans, a0.Spots, a0.Rules⟩ : ScopeDef)), (2, fClo 101 [fPtr tScopeDef (⟨a0.Chans, a0.Spots, a0.Rules⟩ : ScopeDef)]), (31, fSl tScopeChan ((⟨a0.Chans, a0.Spots, a0.Rules⟩ : ScopeDef).Chans)), (32, fInt .i64 (((⟨a0.Chans, a0.Spots, a0.Rules⟩ : ScopeDef).Chans).length : Int)), (33, fInt .i64 i.2)]) (fun i => []) (fuel, 0) H (Sc (Sc (Sc (Sc (Sc SubT.nil))))) rfl ?_
   clear H; rintro ⟨k1, x2⟩ H
   replace H : scope_def_l1 a0 k1 x2 = _ := H
   show T β _ _ [(1, fPtr tScopeDef (⟨a0.Chans, a0.Spots, a0.Rules⟩ : ScopeDef)), (2, fClo 101 [fPtr tScopeDef (⟨a0.Chans, a0.Spots, a0.Rules⟩ : ScopeDef)]), (31, fSl tScopeChan ((⟨a0.Chans, a0.Spots, a0.Rules⟩ : ScopeDef).Chans)), (32, fInt .i64 (((⟨a0.Chans, a0.Spots, a0.Rules⟩ : ScopeDef).Chans).length : Int)), (33, fInt .i64 x2)] [] _
   obtain _ | k1 := k1
   ·
    rw [scope_def_l1] at H; cases H
   rw [scope_def_l1] at H
   refine Sr ?_
   refine Yy (o_lss rfl hh hh) ?_
   refine Nn ?_
   refine T_seq ?_
   revert H; refine is (fun c3 H => ?_) fun c3 H => ?_
   ·
    refine T_cond_t (has rfl) c3 ?_
    refine T_skip ?_
    refine T_then_n ?_
    revert H; refine bs fun o3 H Hr3 => ?_
    refine T_seqJ (ι := Unit) (fun i => o3 = Sum.inl ()) (fun i => [(1, fPtr tScopeDef (⟨a0.Chans, a0.Spots, a0.Rules⟩ : ScopeDef)), (2, fClo 101 [fPtr tScopeDef (⟨a0.Chans, a0.Spots, a0.Rules⟩ : ScopeDef)]), (31, fSl tScopeChan ((⟨a0.Chans, a0.Spots, a0.Rules⟩ : ScopeDef).Chans)), (32, fInt .i64 (((⟨a0.Chans, a0.Spots, a0.Rules⟩ : ScopeDef).Chans).length : Int)), (33, fInt .i64 x2)]) (fun i => []) ?_ ?_
    ·
     refine T_block ?_
     refine Sr ?_
     revert H; refine bs fun y4 h4 H => ?_
     refine Yy (o_index rfl hh hh ty_el_45 h4) ?_
     refine Yy (o_loadS rfl hh ty_ag_44) ?_
     refine T_new trivial rfl rfl (n_alloc rfl ty_ze_44 rfl) (fun b2 => ?_)
     refine T_storeS (φs' := [fInt .i64 y4.At, fInt .i64 y4.Many]) trivial rfl rfl (has rfl) (has rfl) (ll_cons (leaf_eq trivial) (ll_cons (leaf_eq trivial) ll_nil)) ty_sz_44 rfl rfl rfl ?_
     refine Nn ?_
     refine Sr ?_
     refine Ym ?_
     refine Yy (o_fieldB 0 rfl hh ty_fa_44_0 rfl) ?_
     refine Yo 0 rfl (o_loadB rfl hh ty_sc_3 rfl Ent.rfl) ?_
     revert H; refine bs fun y5 h5 H => ?_
     rcases y5 with y5 | pv4 <;> dsimp only at H
     ·
      refine T_callC trivial rfl rfl rfl (has rfl) (HasL.cons (has rfl) HasL.nil) rfl ty_cb_101 (scope_def_1_w y4.At (⟨a0.Chans, a0.Spots, a0.Rules⟩ : ScopeDef) (Sum.inl y5) h5).s rfl ?_
      refine Nn ?_
      refine T_region ?_
      refine Yy (o_fieldB 1 rfl hh ty_fa_44_1 rfl) ?_
      refine Yo 0 rfl (o_loadB rfl hh ty_sc_3 rfl Ent.rfl) ?_
      refine Yy (o_geq rfl hh hh) ?_
      refine Ym ?_
      revert H; refine is (fun c4 H => ?_) fun c4 H => ?_
      ·
       refine Yg c4 (o_fieldB 1 rfl hh ty_fa_44_1 rfl) ?_
       refine Yh 0 rfl c4 (o_loadB rfl hh ty_sc_3 rfl Ent.rfl) ?_
       refine Yg c4 (o_leq rfl hh hh) ?_
       refine Yy (o_pick_t rfl hh c4 hh) ?_
       revert H; refine bs fun y6 h6 H => ?_
       rcases y6 with y6 | pv5 <;> dsimp only at H
       ·
        refine T_call trivial rfl rfl rfl (has rfl) (HasL.cons (has rfl) HasL.nil) rfl ty_cb_84 (scope_want_w (decide (y4.Many ≤ 3)) (Sum.inl y6) h6).s rfl ?_
        refine T_nil ?_
        refine T_in_n ?_
        refine T_then_n ?_
        refine T_pick [] (by decide) ?_
        exact T_meet (()) (Option.some.inj H).symm (Sc (Sc (Sc (Sc (Sc SubT.nil))))) rfl
       ·
        refine T_callP trivial rfl (has rfl) (HasL.cons (has rfl) HasL.nil) rfl ty_cb_84 (scope_want_w (decide (y4.Many ≤ 3)) (Sum.inr pv5) h6).pan rfl ?_
        refine T_in_panic ?_
        refine T_then_panic ?_
        revert H; refine bs fun r4 H e4 => ?_
        have e4 := Option.some.inj e4; subst e4; have Hr3 := Option.some.inj Hr3; subst Hr3
        refine T_then_panic ?_
        refine T_in_panic ?_
        refine T_then_panic ?_
        revert H; refine bs fun r5 H e5 => ?_
        have e5 := Option.some.inj e5; subst e5; have Hr2 := Option.some.inj Hr2; subst Hr2
        cases H
        exact T_inr
      ·
       refine Yf c4 ?_
       refine Yf c4 ?_
       refine Yf c4 ?_
       refine Yy (o_pick_f rfl hh c4 hh) ?_
       revert H; refine bs fun y7 h7 H => ?_
       rcases y7 with y7 | pv6 <;> dsimp only at H
       ·
        refine T_call trivial rfl rfl rfl (has rfl) (HasL.cons (has rfl) HasL.nil) rfl ty_cb_84 (scope_want_w false (Sum.inl y7) h7).s rfl ?_
        refine T_nil ?_
        refine T_in_n ?_
        refine T_then_n ?_
        refine T_pick [] (by decide) ?_
        exact T_meet (()) (Option.some.inj H).symm (Sc (Sc (Sc (Sc (Sc SubT.nil))))) rfl
       ·
        refine T_callP trivial rfl (has rfl) (HasL.cons (has rfl) HasL.nil) rfl ty_cb_84 (scope_want_w false (Sum.inr pv6) h7).pan rfl ?_
        refine T_in_panic ?_
        refine T_then_panic ?_
        revert H; refine bs fun r6 H e6 => ?_
        have e6 := Option.some.inj e6; subst e6; have Hr3 := Option.some.inj Hr3; subst Hr3
        refine T_then_panic ?_
        refine T_in_panic ?_
        refine T_then_panic ?_
        revert H; refine bs fun r7 H e7 => ?_
        have e7 := Option.some.inj e7; subst e7; have Hr2 := Option.some.inj Hr2; subst Hr2
        cases H
        exact T_inr
     ·
      refine T_callPC trivial rfl (has rfl) (HasL.cons (has rfl) HasL.nil) rfl ty_cb_101 (scope_def_1_w y4.At (⟨a0.Chans, a0.Spots, a0.Rules⟩ : ScopeDef) (Sum.inr pv4) h5).pan rfl ?_
      refine T_then_panic ?_
      refine T_in_panic ?_
      refine T_then_panic ?_
      revert H; refine bs fun r8 H e8 => ?_
      have e8 := Option.some.inj e8; subst e8; have Hr3 := Option.some.inj Hr3; subst Hr3
      refine T_then_panic ?_
      refine T_in_panic ?_
      refine T_then_panic ?_
      revert H; refine bs fun r9 H e9 => ?_
      have e9 := Option.some.inj e9; subst e9; have Hr2 := Option.some.inj Hr2; subst Hr2
      cases H
      exact T_inr
    ·
     clear H; intro i hi; subst o3; have H := Hr3; clear Hr3; try dsimp only at H
     show T β _ _ [(1, fPtr tScopeDef (⟨a0.Chans, a0.Spots, a0.Rules⟩ : ScopeDef)), (2, fClo 101 [fPtr tScopeDef (⟨a0.Chans, a0.Spots, a0.Rules⟩ : ScopeDef)]), (31, fSl tScopeChan ((⟨a0.Chans, a0.Spots, a0.Rules⟩ : ScopeDef).Chans)), (32, fInt .i64 (((⟨a0.Chans, a0.Spots, a0.Rules⟩ : ScopeDef).Chans).length : Int)), (33, fInt .i64 x2)] [] _
     refine T_region ?_
     revert H; refine bs fun z1 h8 H => ?_
     refine Yy (o_add rfl hh hh h8) ?_
     refine Ym ?_
     refine Nn ?_
     exact T_meet ((k1, z1)) ⟨H, Nat.lt_succ_self _⟩ (Sc (Sc (Sc (Sc (Sc SubT.nil))))) rfl
   ·
    refine T_cond_f (has rfl) c3 ?_
    refine T_exit ?_
    refine T_then_exit ?_
    refine T_then_exit ?_
    refine T_in_hit ?_
    refine T_then_n ?_
    exact T_meet (()) (Option.some.inj H).symm (Sc (Sc SubT.nil)) rfl
  ·
   clear H; intro i hi; subst o2; have H := Hr2; clear Hr2; try dsimp only at H
   show T β _ _ [(1, fPtr tScopeDef (⟨a0.Chans, a0.Spots, a0.Rules⟩ : ScopeDef)), (2, fClo 101 [fPtr tScopeDef (⟨a0.Chans, a0.Spots, a0.Rules⟩ : ScopeDef)])] [] _
   revert H; refine bs fun o4 H Hr4 => ?_
   refine T_seqJ (ι := Unit) (fun i => o4 = Sum.inl ()) (fun i => [(1, fPtr tScopeDef (⟨a0.Chans, a0.Spots, a0.Rules⟩ : ScopeDef)), (2, fClo 101 [fPtr tScopeDef (⟨a0.Chans, a0.Spots, a0.Rules⟩ : ScopeDef)])]) (fun i => []) ?_ ?_
   ·
    refine Sr ?_
    refine Yy (o_field (t' := (tSl tScopeSpot)) (z := (⟨a0.Chans, a0.Spots, a0.Rules⟩ : ScopeDef).Spots) rfl hh ty_fa_52_1 rfl) ?_
    refine Yy (o_load rfl hh ty_sc_50 rfl) ?_
    refine Yy (o_len rfl hh ty_us_50) ?_
    refine Ym ?_
    refine Nn ?_
    refine T_block ?_
    refine T_loop (ι := Nat × Int) (fun i => scope_def_l2 a0 i.1 i.2 = _) (fun i => i.1) (fun i => [(1, fPtr tScopeDef (⟨a0.Chans, a0.Spots, a0.Rules⟩ : ScopeDef)), (2, fClo 101 [fPtr tScopeDef (⟨a0.Chans, a0.Spots, a0.Rules⟩ : ScopeDef)]), (52, fSl tScopeSpot ((⟨a0.Chans, a0.Spots, a0.Rules⟩ : ScopeDef).Spots)), (53, fInt .i64 (((⟨a0.Chans, a0.Spots, a0.Rules⟩ : ScopeDef).Spots).length : Int)), (54, fInt .i64 i.2)]) (fun i => []) (fuel, 0) H (Sc (Sc (Sc (Sc (Sc SubT.nil))))) rfl ?_
    clear H; rintro ⟨k2, x4⟩ H
    replace H : scope_def_l2 a0 k2 x4 = _ := H
    show T β _ _ [(1, fPtr tScopeDef (⟨a0.Chans, a0.Spots, a0.Rules⟩ : ScopeDef)), (2, fClo 101 [fPtr tScopeDef (⟨a0.Chans, a0.Spots, a0.Rules⟩ : ScopeDef)]), (52, fSl tScopeSpot ((⟨a0.Chans, a0.Spots, a0.Rules⟩ : ScopeDef).Spots)), (53, fInt .i64 (((⟨a0.Chans, a0.Spots, a0.Rules⟩ : ScopeDef).Spots).length : Int)), (54, fInt .i64 x4)] [] _
    obtain _ | k2 := k2
    ·
     rw [scope_def_l2] at H; cases H
    rw [scope_def_l2] at H
    refine Sr ?_
    refine Yy (o_lss rfl hh hh) ?_
    refine Nn ?_
    refine T_seq ?_
    revert H; refine is (fun c5 H => ?_) fun c5 H => ?_
    ·
     refine T_cond_t (has rfl) c5 ?_
     refine T_skip ?_
     refine T_then_n ?_
     revert H; refine bs fun o5 H Hr5 => ?_
     refine T_seqJ (ι := Unit) (fun i => o5 = Sum.inl ()) (fun i => [(1, fPtr tScopeDef (⟨a0.Chans, a0.Spots, a0.Rules⟩ : ScopeDef)), (2, fClo 101 [fPtr tScopeDef (⟨a0.Chans, a0.Spots, a0.Rules⟩ : ScopeDef)]), (52, fSl tScopeSpot ((⟨a0.Chans, a0.Spots, a0.Rules⟩ : ScopeDef).Spots)), (53, fInt .i64 (((⟨a0.Chans, a0.Spots, a0.Rules⟩ : ScopeDef).Spots).length : Int)), (54, fInt .i64 x4)]) (fun i => []) ?_ ?_
     ·
      refine T_block ?_
      refine Sr ?_
      refine Ym ?_
      revert H; refine bs fun y8 h9 H => ?_
      refine Yy (o_index rfl hh hh ty_el_50 h9) ?_
      refine Yy (o_loadS rfl hh ty_ag_90) ?_
      refine T_new trivial rfl rfl (n_alloc rfl ty_ze_90 rfl) (fun b3 => ?_)
      refine Ya ?_
      refine T_storeS (φs' := [fInt .i64 y8.In, fInt .i64 y8.Node]) trivial rfl rfl (has rfl) (has rfl) (ll_cons (leaf_eq trivial) (ll_cons (leaf_eq trivial) ll_nil)) ty_sz_90 rfl rfl rfl ?_
      refine Nn ?_
      refine T_region ?_
      refine Yy (o_fieldB 0 rfl hh ty_fa_90_0 rfl) ?_
      refine Yo 0 rfl (o_loadB rfl hh ty_sc_3 rfl Ent.rfl) ?_
      refine Yy (o_geq rfl hh hh) ?_
      refine Ym ?_
      revert H; refine is (fun c6 H => ?_) fun c6 H => ?_
      ·
       refine Yg c6 (o_fieldB 0 rfl hh ty_fa_90_0 rfl) ?_
       refine Yh 0 rfl c6 (o_loadB rfl hh ty_sc_3 rfl Ent.rfl) ?_
       refine Yg c6 (o_move rfl hh) ?_
       refine Yg c6 (o_leq rfl hh hh) ?_
       refine Yy (o_pick_t rfl hh c6 hh) ?_
       revert H; refine bs fun y9 h10 H => ?_
       rcases y9 with y9 | pv7 <;> dsimp only at H
       ·
        refine T_call trivial rfl rfl rfl (has rfl) (HasL.cons (has rfl) HasL.nil) rfl ty_cb_84 (scope_want_w (decide (y8.In ≤ x4)) (Sum.inl y9) h10).s rfl ?_
        refine T_nil ?_
        refine T_in_n ?_
        refine T_then_n ?_
        refine T_pick [] (by decide) ?_
        exact T_meet (()) (Option.some.inj H).symm (Sc (Sc (Sc (Sc (Sc SubT.nil))))) rfl
       ·
        refine T_callP trivial rfl (has rfl) (HasL.cons (has rfl) HasL.nil) rfl ty_cb_84 (scope_want_w (decide (y8.In ≤ x4)) (Sum.inr pv7) h10).pan rfl ?_
        refine T_in_panic ?_
        refine T_then_panic ?_
        revert H; refine bs fun r10 H e10 => ?_
        have e10 := Option.some.inj e10; subst e10; have Hr5 := Option.some.inj Hr5; subst Hr5
        refine T_then_panic ?_
        refine T_in_panic ?_
        refine T_then_panic ?_
        revert H; refine bs fun r11 H e11 => ?_
        have e11 := Option.some.inj e11; subst e11; have Hr4 := Option.some.inj Hr4; subst Hr4
        cases H
        exact T_inr
      ·
       refine Yf c6 ?_
       refine Yf c6 ?_
       refine Yf c6 ?_
       refine Yf c6 ?_
       refine Yy (o_pick_f rfl hh c6 hh) ?_
       revert H; refine bs fun y10 h11 H => ?_
       rcases y10 with y10 | pv8 <;> dsimp only at H
       ·
        refine T_call trivial rfl rfl rfl (has rfl) (HasL.cons (has rfl) HasL.nil) rfl ty_cb_84 (scope_want_w false (Sum.inl y10) h11).s rfl ?_
        refine T_nil ?_
        refine T_in_n ?_
        refine T_then_n ?_
        refine T_pick [] (by decide) ?_
        exact T_meet (()) (Option.some.inj H).symm (Sc (Sc (Sc (Sc (Sc SubT.nil))))) rfl
       ·
        refine T_callP trivial rfl (has rfl) (HasL.cons (has rfl) HasL.nil) rfl ty_cb_84 (scope_want_w false (Sum.inr pv8) h11).pan rfl ?_
        refine T_in_panic ?_
        refine T_then_panic ?_
        revert H; refine bs fun r12 H e12 => ?_
        have e12 := Option.some.inj e12; subst e12; have Hr5 := Option.some.inj Hr5; subst Hr5
        refine T_then_panic ?_
        refine T_in_panic ?_
        refine T_then_panic ?_
        revert H; refine bs fun r13 H e13 => ?_
        have e13 := Option.some.inj e13; subst e13; have Hr4 := Option.some.inj Hr4; subst Hr4
        cases H
        exact T_inr
     ·
      clear H; intro i hi; subst o5; have H := Hr5; clear Hr5; try dsimp only at H
      show T β _ _ [(1, fPtr tScopeDef (⟨a0.Chans, a0.Spots, a0.Rules⟩ : ScopeDef)), (2, fClo 101 [fPtr tScopeDef (⟨a0.Chans, a0.Spots, a0.Rules⟩ : ScopeDef)]), (52, fSl tScopeSpot ((⟨a0.Chans, a0.Spots, a0.Rules⟩ : ScopeDef).Spots)), (53, fInt .i64 (((⟨a0.Chans, a0.Spots, a0.Rules⟩ : ScopeDef).Spots).length : Int)), (54, fInt .i64 x4)] [] _
      refine T_region ?_
      revert H; refine bs fun z2 h12 H => ?_
      refine Yy (o_add rfl hh hh h12) ?_
      refine Ym ?_
      refine Nn ?_
      exact T_meet ((k2, z2)) ⟨H, Nat.lt_succ_self _⟩ (Sc (Sc (Sc (Sc (Sc SubT.nil))))) rfl
    ·
     refine T_cond_f (has rfl) c5 ?_
     refine T_exit ?_
     refine T_then_exit ?_
     refine T_then_exit ?_
     refine T_in_hit ?_
     refine T_then_n ?_
     exact T_meet (()) (Option.some.inj H).symm (Sc (Sc SubT.nil)) rfl
   ·
    clear H; intro i hi; subst o4; have H := Hr4; clear Hr4; try dsimp only at H
    show T β _ _ [(1, fPtr tScopeDef (⟨a0.Chans, a0.Spots, a0.Rules⟩ : ScopeDef)), (2, fClo 101 [fPtr tScopeDef (⟨a0.Chans, a0.Spots, a0.Rules⟩ : ScopeDef)])] [] _
    refine Sr ?_
    refine T_new trivial rfl rfl (n_makeMap (fun y => fBool y) kInt rfl) (fun b4 => ?_)
    refine Ya ?_
    refine Nn ?_
    revert H; refine bs fun o6 H Hr6 => ?_
    refine T_seqJ (ι := GMap Int Bool) (fun i => o6 = Sum.inl i) (fun i => [(1, fPtr tScopeDef (⟨a0.Chans, a0.Spots, a0.Rules⟩ : ScopeDef)), (7, fEq (.map (some b4)))]) (fun i => [tMap kInt (fun y => fBool y) b4 i]) ?_ ?_
    ·
     refine Sr ?_
     refine Yy (o_field (t' := (tSl tScopeRule)) (z := (⟨a0.Chans, a0.Spots, a0.Rules⟩ : ScopeDef).Rules) rfl hh ty_fa_52_2 rfl) ?_
     refine Yy (o_load rfl hh ty_sc_49 rfl) ?_
     refine Yy (o_len rfl hh ty_us_49) ?_
     refine Ym ?_
     refine Nn ?_
     refine T_block ?_
     refine T_loop (ι := Nat × Int × GMap Int Bool) (fun i => scope_def_l3 fuel a0 i.1 i.2.1 i.2.2 = _) (fun i => i.1) (fun i => [(1, fPtr tScopeDef (⟨a0.Chans, a0.Spots, a0.Rules⟩ : ScopeDef)), (2, fClo 101 [fPtr tScopeDef (⟨a0.Chans, a0.Spots, a0.Rules⟩ : ScopeDef)]), (7, fEq (.map (some b4))), (72, fSl tScopeRule ((⟨a0.Chans, a0.Spots, a0.Rules⟩ : ScopeDef).Rules)), (73, fInt .i64 (((⟨a0.Chans, a0.Spots, a0.Rules⟩ : ScopeDef).Rules).length : Int)), (74, fInt .i64 i.2.1)]) (fun i => [tMap kInt (fun y => fBool y) b4 i.2.2]) (fuel, 0, (GMap.none : GMap Int Bool)) H (Sc (Sc (Sc (Sc (Sc (Sc SubT.nil)))))) rfl ?_
     clear H; rintro ⟨k3, x8, x9⟩ H
     replace H : scope_def_l3 fuel a0 k3 x8 x9 = _ := H
     show T β _ _ [(1, fPtr tScopeDef (⟨a0.Chans, a0.Spots, a0.Rules⟩ : ScopeDef)), (2, fClo 101 [fPtr tScopeDef (⟨a0.Chans, a0.Spots, a0.Rules⟩ : ScopeDef)]), (7, fEq (.map (some b4))), (72, fSl tScopeRule ((⟨a0.Chans, a0.Spots, a0.Rules⟩ : ScopeDef).Rules)), (73, fInt .i64 (((⟨a0.Chans, a0.Spots, a0.Rules⟩ : ScopeDef).Rules).length : Int)), (74, fInt .i64 x8)] [tMap kInt (fun y => fBool y) b4 x9] _
     obtain _ | k3 := k3
     ·
      rw [scope_def_l3] at H; cases H
     rw [scope_def_l3] at H
     refine Sr ?_
     refine Yy (o_lss rfl hh hh) ?_
     refine Nn ?_
     refine T_seq ?_
     revert H; refine is (fun c7 H => ?_) fun c7 H => ?_
     ·
      refine T_cond_t (has rfl) c7 ?_
      refine T_skip ?_
      refine T_then_n ?_
      revert H; refine bs fun o7 H Hr7 => ?_
      refine T_seqJ (ι := GMap Int Bool) (fun i => o7 = Sum.inl i) (fun i => [(1, fPtr tScopeDef (⟨a0.Chans, a0.Spots, a0.Rules⟩ : ScopeDef)), (2, fClo 101 [fPtr tScopeDef (⟨a0.Chans, a0.Spots, a0.Rules⟩ : ScopeDef)]), (7, fEq (.map (some b4))), (72, fSl tScopeRule ((⟨a0.Chans, a0.Spots, a0.Rules⟩ : ScopeDef).Rules)), (73, fInt .i64 (((⟨a0.Chans, a0.Spots, a0.Rules⟩ : ScopeDef).Rules).length : Int)), (74, fInt .i64 x8)]) (fun i => [tMap kInt (fun y => fBool y) b4 i]) ?_ ?_
      ·
       refine T_block ?_
       refine Sr ?_
       revert H; refine bs fun y11 h13 H => ?_
       refine Yy (o_index rfl hh hh ty_el_49 h13) ?_
       refine Yy (o_loadS rfl hh ty_ag_48) ?_
       refine T_new trivial rfl rfl (n_alloc rfl ty_ze_48 rfl) (fun b5 => ?_)
       refine T_storeS (φs' := [fInt .i64 y11.At, fSl (tInt .i64) y11.Joins, fInt .i64 y11.Node]) trivial rfl rfl (has rfl) (has rfl) (ll_cons (leaf_eq trivial) (ll_cons (leaf_sl) (ll_cons (leaf_eq trivial) ll_nil))) ty_sz_48 rfl rfl rfl ?_
       refine Nn ?_
       refine Sr ?_
       refine Ym ?_
       refine Yy (o_fieldB 0 rfl hh ty_fa_48_0 rfl) ?_
       refine Yo 0 rfl (o_loadB rfl hh ty_sc_3 rfl Ent.rfl) ?_
       revert H; refine bs fun y12 h14 H => ?_
       rcases y12 with y12 | pv9 <;> dsimp only at H
       ·
        refine T_callC trivial rfl rfl rfl (has rfl) (HasL.cons (has rfl) HasL.nil) rfl ty_cb_101 (scope_def_1_w y11.At (⟨a0.Chans, a0.Spots, a0.Rules⟩ : ScopeDef) (Sum.inl y12) h14).s rfl ?_
        refine Nn ?_
        revert H; refine bs fun o8 H Hr8 => ?_
        refine T_seqJ (ι := Unit) (fun i => o8 = Sum.inl ()) (fun i => [(1, fPtr tScopeDef (⟨a0.Chans, a0.Spots, a0.Rules⟩ : ScopeDef)), (2, fClo 101 [fPtr tScopeDef (⟨a0.Chans, a0.Spots, a0.Rules⟩ : ScopeDef)]), (7, fEq (.map (some b4))), (72, fSl tScopeRule ((⟨a0.Chans, a0.Spots, a0.Rules⟩ : ScopeDef).Rules)), (73, fInt .i64 (((⟨a0.Chans, a0.Spots, a0.Rules⟩ : ScopeDef).Rules).length : Int)), (74, fInt .i64 x8), (9, fEq (.pointer (some ⟨b5, 0, none⟩)))]) (fun i => [tBlk b5 48 [fInt .i64 y11.At, fSl (tInt .i64) y11.Joins, fInt .i64 y11.Node], tMap kInt (fun y => fBool y) b4 x9]) ?_ ?_
        ·
         refine T_region ?_
         refine Yy (o_fieldB 1 rfl hh ty_fa_48_1 rfl) ?_
         refine Yo 0 rfl (o_loadB rfl hh ty_sc_46 rfl Ent.rfl) ?_
         refine Yy (o_len rfl hh ty_us_46) ?_
         refine Yy (o_gtr rfl hh hh) ?_
         refine Ym ?_
         revert H; refine is (fun c8 H => ?_) fun c8 H => ?_
         ·
          refine Yg c8 (o_fieldB 1 rfl hh ty_fa_48_1 rfl) ?_
          refine Yh 0 rfl c8 (o_loadB rfl hh ty_sc_46 rfl Ent.rfl) ?_
          refine Yg c8 (o_len rfl hh ty_us_46) ?_
          refine Yg c8 (o_leq rfl hh hh) ?_
          refine Yy (o_pick_t rfl hh c8 hh) ?_
          revert H; refine bs fun y13 h15 H => ?_
          rcases y13 with y13 | pv10 <;> dsimp only at H
          ·
           refine T_call trivial rfl rfl rfl (has rfl) (HasL.cons (has rfl) HasL.nil) rfl ty_cb_84 (scope_want_w (decide ((y11.Joins.length : Int) ≤ 3)) (Sum.inl y13) h15).s rfl ?_
           refine Nn ?_
           exact T_meet (()) (Option.some.inj H).symm (Sc (Sc (Sc (Sc (Sc (Sc (Sc SubT.nil))))))) rfl
          ·
           refine T_callP trivial rfl (has rfl) (HasL.cons (has rfl) HasL.nil) rfl ty_cb_84 (scope_want_w (decide ((y11.Joins.length : Int) ≤ 3)) (Sum.inr pv10) h15).pan rfl ?_
           refine T_then_panic ?_
           revert H; refine bs fun r14 H e14 => ?_
           have e14 := Option.some.inj e14; subst e14; have Hr8 := Option.some.inj Hr8; subst Hr8
           refine T_in_panic ?_
           refine T_then_panic ?_
           revert H; refine bs fun r15 H e15 => ?_
           have e15 := Option.some.inj e15; subst e15; have Hr7 := Option.some.inj Hr7; subst Hr7
           refine T_then_panic ?_
           refine T_in_panic ?_
           refine T_then_panic ?_
           revert H; refine bs fun r16 H e16 => ?_
           have e16 := Option.some.inj e16; subst e16; have Hr6 := Option.some.inj Hr6; subst Hr6
           cases H
           exact T_inr
         ·
          refine Yf c8 ?_
          refine Yf c8 ?_
          refine Yf c8 ?_
          refine Yf c8 ?_
          refine Yy (o_pick_f rfl hh c8 hh) ?_
          revert H; refine bs fun y14 h16 H => ?_
          rcases y14 with y14 | pv11 <;> dsimp only at H
          ·
           refine T_call trivial rfl rfl rfl (has rfl) (HasL.cons (has rfl) HasL.nil) rfl ty_cb_84 (scope_want_w false (Sum.inl y14) h16).s rfl ?_
           refine Nn ?_
           exact T_meet (()) (Option.some.inj H).symm (Sc (Sc (Sc (Sc (Sc (Sc (Sc SubT.nil))))))) rfl
          ·
           refine T_callP trivial rfl (has rfl) (HasL.cons (has rfl) HasL.nil) rfl ty_cb_84 (scope_want_w false (Sum.inr pv11) h16).pan rfl ?_
           refine T_then_panic ?_
           revert H; refine bs fun r17 H e17 => ?_
           have e17 := Option.some.inj e17; subst e17; have Hr8 := Option.some.inj Hr8; subst Hr8
           refine T_in_panic ?_
           refine T_then_panic ?_
           revert H; refine bs fun r18 H e18 => ?_
           have e18 := Option.some.inj e18; subst e18; have Hr7 := Option.some.inj Hr7; subst Hr7
           refine T_then_panic ?_
           refine T_in_panic ?_
           refine T_then_panic ?_
           revert H; refine bs fun r19 H e19 => ?_
           have e19 := Option.some.inj e19; subst e19; have Hr6 := Option.some.inj Hr6; subst Hr6
           cases H
           exact T_inr
        ·
         clear H; intro i hi; subst o8; have H := Hr8; clear Hr8; try dsimp only at H
         show T β _ _ [(1, fPtr tScopeDef (⟨a0.Chans, a0.Spots, a0.Rules⟩ : ScopeDef)), (2, fClo 101 [fPtr tScopeDef (⟨a0.Chans, a0.Spots, a0.Rules⟩ : ScopeDef)]), (7, fEq (.map (some b4))), (72, fSl tScopeRule ((⟨a0.Chans, a0.Spots, a0.Rules⟩ : ScopeDef).Rules)), (73, fInt .i64 (((⟨a0.Chans, a0.Spots, a0.Rules⟩ : ScopeDef).Rules).length : Int)), (74, fInt .i64 x8), (9, fEq (.pointer (some ⟨b5, 0, none⟩)))] [tBlk b5 48 [fInt .i64 y11.At, fSl (tInt .i64) y11.Joins, fInt .i64 y11.Node], tMap kInt (fun y => fBool y) b4 x9] _
         refine Sr ?_
         refine Yy (o_fieldB 1 rfl hh ty_fa_48_1 rfl) ?_
         refine Yo 0 rfl (o_loadB rfl hh ty_sc_46 rfl Ent.rfl) ?_
         refine Yy (o_len rfl hh ty_us_46) ?_
         refine Ym ?_
         refine Nn ?_
         refine T_block ?_
         refine T_loop (ι := Nat × Int × GMap Int Bool) (fun i => scope_def_l4 fuel a0 y11 i.1 i.2.1 i.2.2 = _) (fun i => i.1) (fun i => [(1, fPtr tScopeDef (⟨a0.Chans, a0.Spots, a0.Rules⟩ : ScopeDef)), (2, fClo 101 [fPtr tScopeDef (⟨a0.Chans, a0.Spots, a0.Rules⟩ : ScopeDef)]), (7, fEq (.map (some b4))), (72, fSl tScopeRule ((⟨a0.Chans, a0.Spots, a0.Rules⟩ : ScopeDef).Rules)), (73, fInt .i64 (((⟨a0.Chans, a0.Spots, a0.Rules⟩ : ScopeDef).Rules).length : Int)), (74, fInt .i64 x8), (9, fEq (.pointer (some ⟨b5, 0, none⟩))), (94, fSl (tInt .i64) y11.Joins), (95, fInt .i64 (y11.Joins.length : Int)), (96, fInt .i64 i.2.1)]) (fun i => [tBlk b5 48 [fInt .i64 y11.At, fSl (tInt .i64) y11.Joins, fInt .i64 y11.Node], tMap kInt (fun y => fBool y) b4 i.2.2]) (fuel, 0, x9) H (Sc (Sc (Sc (Sc (Sc (Sc (Sc (Sc (Sc (Sc SubT.nil)))))))))) rfl ?_
         clear H; rintro ⟨k4, x13, x14⟩ H
         replace H : scope_def_l4 fuel a0 y11 k4 x13 x14 = _ := H
         show T β _ _ [(1, fPtr tScopeDef (⟨a0.Chans, a0.Spots, a0.Rules⟩ : ScopeDef)), (2, fClo 101 [fPtr tScopeDef (⟨a0.Chans, a0.Spots, a0.Rules⟩ : ScopeDef)]), (7, fEq (.map (some b4))), (72, fSl tScopeRule ((⟨a0.Chans, a0.Spots, a0.Rules⟩ : ScopeDef).Rules)), (73, fInt .i64 (((⟨a0.Chans, a0.Spots, a0.Rules⟩ : ScopeDef).Rules).length : Int)), (74, fInt .i64 x8), (9, fEq (.pointer (some ⟨b5, 0, none⟩))), (94, fSl (tInt .i64) y11.Joins), (95, fInt .i64 (y11.Joins.length : Int)), (96, fInt .i64 x13)] [tBlk b5 48 [fInt .i64 y11.At, fSl (tInt .i64) y11.Joins, fInt .i64 y11.Node], tMap kInt (fun y => fBool y) b4 x14] _
         obtain _ | k4 := k4
         ·
          rw [scope_def_l4] at H; cases H
         rw [scope_def_l4] at H
         refine Sr ?_
         refine Yy (o_lss rfl hh hh) ?_
         refine Nn ?_
         refine T_seq ?_
         revert H; refine is (fun c9 H => ?_) fun c9 H => ?_
         ·
          refine T_cond_t (has rfl) c9 ?_
          refine T_skip ?_
          refine T_then_n ?_
          refine T_seq ?_
          refine T_block ?_
          refine Sr ?_
          refine Ym ?_
          revert H; refine bs fun y15 h17 H => ?_
          refine Yy (o_index rfl hh hh ty_el_46 h17) ?_
          refine Yy (o_load rfl hh ty_sc_3 rfl) ?_
          refine Ya ?_
          refine Ya ?_
          refine Nn ?_
          revert H; refine bs fun o9 H Hr9 => ?_
          refine T_seqJ (ι := Unit) (fun i => o9 = Sum.inl ()) (fun i => [(1, fPtr tScopeDef (⟨a0.Chans, a0.Spots, a0.Rules⟩ : ScopeDef)), (2, fClo 101 [fPtr tScopeDef (⟨a0.Chans, a0.Spots, a0.Rules⟩ : ScopeDef)]), (7, fEq (.map (some b4))), (72, fSl tScopeRule ((⟨a0.Chans, a0.Spots, a0.Rules⟩ : ScopeDef).Rules)), (73, fInt .i64 (((⟨a0.Chans, a0.Spots, a0.Rules⟩ : ScopeDef).Rules).length : Int)), (74, fInt .i64 x8), (9, fEq (.pointer (some ⟨b5, 0, none⟩))), (94, fSl (tInt .i64) y11.Joins), (95, fInt .i64 (y11.Joins.length : Int)), (96, fInt .i64 x13), (11, fInt .i64 y15)]) (fun i => [tBlk b5 48 [fInt .i64 y11.At, fSl (tInt .i64) y11.Joins, fInt .i64 y11.Node], tMap kInt (fun y => fBool y) b4 x14]) ?_ ?_
          ·
           revert H; refine is (fun c10 H => ?_) fun c10 H => ?_
           ·
            revert H; refine is (fun c11 H => ?_) fun c11 H => ?_
            ·
             revert H; refine bs fun y16 h18 H => ?_
             revert H; refine is (fun c12 H => ?_) fun c12 H => ?_
             ·
              revert H; refine bs fun y17 h19 H => ?_
              revert H; refine bs fun y18 h20 H => ?_
              refine T_net 29 [fun _ => .op [] false (fun _ => fInt .i64 y15) (fun _ => []), fun _ => .op [] false (fun _ => fBool (decide (0 ≤ y15))) (fun _ => []), fun _ => .op [] false (fun _ => fBool (decide (0 ≤ y15))) (fun _ => []), fun _ => .op [] false (fun _ => fInt .i64 y15) (fun _ => []), fun _ => .op [] false (fun _ => fPtr (tSl tScopeChan) ((⟨a0.Chans, a0.Spots, a0.Rules⟩ : ScopeDef).Chans)) (fun _ => []), fun _ => .op [] false (fun _ => fSl tScopeChan ((⟨a0.Chans, a0.Spots, a0.Rules⟩ : ScopeDef).Chans)) (fun _ => []), fun _ => .op [] false (fun _ => fInt .i64 (((⟨a0.Chans, a0.Spots, a0.Rules⟩ : ScopeDef).Chans).length : Int)) (fun _ => []), fun _ => .op [] false (fun _ => fBool (decide (y15 < (((⟨a0.Chans, a0.Spots, a0.Rules⟩ : ScopeDef).Chans).length : Int)))) (fun _ => []), fun _ => .op [] false (fun _ => fBool (decide (y15 < (((⟨a0.Chans, a0.Spots, a0.Rules⟩ : ScopeDef).Chans).length : Int)))) (fun _ => []), fun _ => .op [] false (fun _ => fBool (decide (y15 < (((⟨a0.Chans, a0.Spots, a0.Rules⟩ : ScopeDef).Chans).length : Int)))) (fun _ => []), fun _ => .op [] false (fun _ => fPtr (tSl tScopeChan) ((⟨a0.Chans, a0.Spots, a0.Rules⟩ : ScopeDef).Chans)) (fun _ => []), fun _ => .op [] false (fun _ => fSl tScopeChan ((⟨a0.Chans, a0.Spots, a0.Rules⟩ : ScopeDef).Chans)) (fun _ => []), fun _ => .op [] false (fun _ => fInt .i64 y15) (fun _ => []), fun _ => .op [] false (fun _ => fPtr tScopeChan y16) (fun _ => []), fun _ => .op [] false (fun _ => fPtr (tInt .i64) y16.At) (fun _ => []), fun _ => .op [] false (fun _ => fInt .i64 y16.At) (fun _ => []), fun _ => .op [] false (fun _ => fEq (.pointer (some ⟨b5, 0, none⟩))) (fun _ => []), fun _ => .op [0] false (fun _ => fInt .i64 y11.At) (fun _ => [tEmp]), fun _ => .op [] false (fun _ => fBool (decide (y16.At = y11.At))) (fun _ => []), fun _ => .op [] false (fun _ => fBool (decide (y16.At = y11.At))) (fun _ => []), fun _ => .op [] false (fun _ => fBool (decide (y16.At = y11.At))) (fun _ => []), fun _ => .op [] false (fun _ => fEq (.pointer (some ⟨b5, 1, none⟩))) (fun _ => []), fun _ => .op [0] false (fun _ => fSl (tInt .i64) y11.Joins) (fun _ => [tEmp]), fun _ => .op [] false (fun _ => fInt .i64 x13) (fun _ => []), fun _ => .op [] false (fun _ => fSl (tInt .i64) y17) (fun _ => []), fun _ => .op [] false (fun _ => fInt .i64 y15) (fun _ => []), fun _ => .op [] true (fun _ => fBool y18) (fun _ => []), fun _ => .op [] false (fun _ => fBool (!y18)) (fun _ => []), fun _ => .op [] false (fun _ => fBool (!y18)) (fun _ => [])] [([], false, []), ([], false, []), ([], false, []), ([], false, []), ([], false, []), ([], false, []), ([], false, []), ([], false, []), ([], false, []), ([], false, []), ([], false, []), ([], false, []), ([], false, []), ([], false, []), ([], false, []), ([], false, []), ([], false, []), ([0], false, []), ([], false, []), ([], false, []), ([], false, []), ([], false, []), ([0], false, []), ([], false, []), ([], false, []), ([], false, []), ([], true, []), ([], false, []), ([], false, [])] 0 2 mixed (F0 (F0 (F0 (F0 (F0 (F0 (F0 (F0 (F0 (F0 (F0 (F0 (F0 (F0 (F0 (F0 (F0 (F0 (F0 (F0 (F0 (F0 (F0 (F0 (F0 (F0 (F0 (F0 (F0 FitsL.nil))))))))))))))))))))))))))))) (by kernel_rfl) rfl rfl (by kernel_rfl) rfl ?_
              dsimp only [netL, List.take, List.replicate, List.append, List.drop]
              refine My (h := o_move rfl hh) (k := fun _ => ?_)
              refine My (h := o_geq rfl hh hh) (k := fun _ => ?_)
              refine My (h := o_move rfl hh) (k := fun _ => ?_)
              refine N_y (φ := fInt .i64 y15) rfl (fun _ => rfl) ⟨_, _, rfl, rfl, c10⟩ rfl (o_move rfl (has rfl)) (fun _ => ?_)
              refine N_y (φ := fPtr (tSl tScopeChan) ((⟨a0.Chans, a0.Spots, a0.Rules⟩ : ScopeDef).Chans)) rfl (fun _ => rfl) ⟨_, _, rfl, rfl, c10⟩ rfl (o_field (t' := (tSl tScopeChan)) (z := (⟨a0.Chans, a0.Spots, a0.Rules⟩ : ScopeDef).Chans) rfl (has rfl) ty_fa_52_0 rfl) (fun _ => ?_)
              refine N_y (φ := fSl tScopeChan ((⟨a0.Chans, a0.Spots, a0.Rules⟩ : ScopeDef).Chans)) rfl (fun _ => rfl) ⟨_, _, rfl, rfl, c10⟩ rfl (o_load rfl (has rfl) ty_sc_45 rfl) (fun _ => ?_)
              refine N_y (φ := fInt .i64 (((⟨a0.Chans, a0.Spots, a0.Rules⟩ : ScopeDef).Chans).length : Int)) rfl (fun _ => rfl) ⟨_, _, rfl, rfl, c10⟩ rfl (o_len rfl (has rfl) ty_us_45) (fun _ => ?_)
              refine N_y (φ := fBool (decide (y15 < (((⟨a0.Chans, a0.Spots, a0.Rules⟩ : ScopeDef).Chans).length : Int)))) rfl (fun _ => rfl) ⟨_, _, rfl, rfl, c10⟩ rfl (o_lss rfl (has rfl) (has rfl)) (fun _ => ?_)
              refine My (h := o_pick_t rfl hh c10 hh) (k := fun _ => ?_)
              refine My (h := o_move rfl hh) (k := fun _ => ?_)
              refine N_y (φ := fPtr (tSl tScopeChan) ((⟨a0.Chans, a0.Spots, a0.Rules⟩ : ScopeDef).Chans)) rfl (fun _ => rfl) ⟨_, _, rfl, rfl, c11⟩ rfl (o_field (t' := (tSl tScopeChan)) (z := (⟨a0.Chans, a0.Spots, a0.Rules⟩ : ScopeDef).Chans) rfl (has rfl) ty_fa_52_0 rfl) (fun _ => ?_)
              refine N_y (φ := fSl tScopeChan ((⟨a0.Chans, a0.Spots, a0.Rules⟩ : ScopeDef).Chans)) rfl (fun _ => rfl) ⟨_, _, rfl, rfl, c11⟩ rfl (o_load rfl (has rfl) ty_sc_45 rfl) (fun _ => ?_)
              refine N_y (φ := fInt .i64 y15) rfl (fun _ => rfl) ⟨_, _, rfl, rfl, c11⟩ rfl (o_move rfl (has rfl)) (fun _ => ?_)
              refine N_y (φ := fPtr tScopeChan y16) rfl (fun _ => rfl) ⟨_, _, rfl, rfl, c11⟩ rfl (o_index rfl (has rfl) (has rfl) ty_el_45 h18) (fun _ => ?_)
              refine N_y (φ := fPtr (tInt .i64) y16.At) rfl (fun _ => rfl) ⟨_, _, rfl, rfl, c11⟩ rfl (o_field (t' := (tInt .i64)) (z := y16.At) rfl (has rfl) ty_fa_44_0 rfl) (fun _ => ?_)
              refine N_y (φ := fInt .i64 y16.At) rfl (fun _ => rfl) ⟨_, _, rfl, rfl, c11⟩ rfl (o_load rfl (has rfl) ty_sc_3 rfl) (fun _ => ?_)
              refine N_y (φ := fEq (.pointer (some ⟨b5, 0, none⟩))) rfl (fun _ => rfl) ⟨_, _, rfl, rfl, c11⟩ rfl (o_fieldB 0 rfl (has rfl) ty_fa_48_0 rfl) (fun _ => ?_)
              refine N_op (ps := [0]) (φ := fInt .i64 y11.At) rfl (fun _ => rfl) ⟨_, _, rfl, rfl, c11⟩ rfl rfl (o_loadB rfl (has rfl) ty_sc_3 rfl Ent.rfl) (fun _ => ?_)
              refine N_y (φ := fBool (decide (y16.At = y11.At))) rfl (fun _ => rfl) ⟨_, _, rfl, rfl, c11⟩ rfl (o_eql rfl (has rfl) (has rfl)) (fun _ => ?_)
              refine My (h := o_pick_t rfl hh c11 hh) (k := fun _ => ?_)
              refine My (h := o_move rfl hh) (k := fun _ => ?_)
              refine N_y (φ := fEq (.pointer (some ⟨b5, 1, none⟩))) rfl (fun _ => rfl) ⟨_, _, rfl, rfl, c12⟩ rfl (o_fieldB 1 rfl (has rfl) ty_fa_48_1 rfl) (fun _ => ?_)
              refine N_op (ps := [0]) (φ := fSl (tInt .i64) y11.Joins) rfl (fun _ => rfl) ⟨_, _, rfl, rfl, c12⟩ rfl rfl (o_loadB rfl (has rfl) ty_sc_46 rfl Ent.rfl) (fun _ => ?_)
              refine N_y (φ := fInt .i64 x13) rfl (fun _ => rfl) ⟨_, _, rfl, rfl, c12⟩ rfl (o_move rfl (has rfl)) (fun _ => ?_)
              refine N_y (φ := fSl (tInt .i64) y17) rfl (fun _ => rfl) ⟨_, _, rfl, rfl, c12⟩ rfl (o_slice (t := (tInt .i64)) rfl (has rfl) hasB_none (hasB_some (has rfl)) ty_el_46 h19) (fun _ => ?_)
              refine N_y (φ := fInt .i64 y15) rfl (fun _ => rfl) ⟨_, _, rfl, rfl, c12⟩ rfl (o_move rfl (has rfl)) (fun _ => ?_)
              refine N_call (Φ := fBool y18) rfl (fun _ => rfl) ⟨_, _, rfl, rfl, c12⟩ rfl rfl (has rfl) (HasL.cons (has rfl) (HasL.cons (has rfl) HasL.nil)) rfl ty_cb_102 (slices_Contains_Lint_int_w fuel y17 y15 y18 h20) (fun _ => ?_)
              refine N_y (φ := fBool (!y18)) rfl (fun _ => rfl) ⟨_, _, rfl, rfl, c12⟩ rfl (o_not rfl (has rfl)) (fun _ => ?_)
              refine My (h := o_pick_t rfl hh c12 hh) (k := fun _ => ?_)
              refine N_done rfl ?_
              revert H; refine bs fun y19 h21 H => ?_
              rcases y19 with y19 | pv12 <;> dsimp only at H
              ·
               refine T_call trivial rfl rfl rfl (has rfl) (HasL.cons (has rfl) HasL.nil) rfl ty_cb_84 (scope_want_w (!y18) (Sum.inl y19) h21).s rfl ?_
               refine Nn ?_
               exact T_meet (()) (Option.some.inj H).symm (Sc (Sc (Sc (Sc (Sc (Sc (Sc (Sc (Sc (Sc (Sc SubT.nil))))))))))) rfl
              ·
               refine T_callP trivial rfl (has rfl) (HasL.cons (has rfl) HasL.nil) rfl ty_cb_84 (scope_want_w (!y18) (Sum.inr pv12) h21).pan rfl ?_
               refine T_then_panic ?_
               revert H; refine bs fun r20 H e20 => ?_
               have e20 := Option.some.inj e20; subst e20; have Hr9 := Option.some.inj Hr9; subst Hr9
               refine T_in_panic ?_
               refine T_then_panic ?_
               refine T_then_panic ?_
               refine T_in_panic ?_
               refine T_in_panic ?_
               refine T_then_panic ?_
               revert H; refine bs fun r21 H e21 => ?_
               have e21 := Option.some.inj e21; subst e21; have Hr7 := Option.some.inj Hr7; subst Hr7
               refine T_then_panic ?_
               refine T_in_panic ?_
               refine T_then_panic ?_
               revert H; refine bs fun r22 H e22 => ?_
               have e22 := Option.some.inj e22; subst e22; have Hr6 := Option.some.inj Hr6; subst Hr6
               cases H
               exact T_inr
             ·
              refine T_net 29 [fun _ => .op [] false (fun _ => fInt .i64 y15) (fun _ => []), fun _ => .op [] false (fun _ => fBool (decide (0 ≤ y15))) (fun _ => []), fun _ => .op [] false (fun _ => fBool (decide (0 ≤ y15))) (fun _ => []), fun _ => .op [] false (fun _ => fInt .i64 y15) (fun _ => []), fun _ => .op [] false (fun _ => fPtr (tSl tScopeChan) ((⟨a0.Chans, a0.Spots, a0.Rules⟩ : ScopeDef).Chans)) (fun _ => []), fun _ => .op [] false (fun _ => fSl tScopeChan ((⟨a0.Chans, a0.Spots, a0.Rules⟩ : ScopeDef).Chans)) (fun _ => []), fun _ => .op [] false (fun _ => fInt .i64 (((⟨a0.Chans, a0.Spots, a0.Rules⟩ : ScopeDef).Chans).length : Int)) (fun _ => []), fun _ => .op [] false (fun _ => fBool (decide (y15 < (((⟨a0.Chans, a0.Spots, a0.Rules⟩ : ScopeDef).Chans).length : Int)))) (fun _ => []), fun _ => .op [] false (fun _ => fBool (decide (y15 < (((⟨a0.Chans, a0.Spots, a0.Rules⟩ : ScopeDef).Chans).length : Int)))) (fun _ => []), fun _ => .op [] false (fun _ => fBool (decide (y15 < (((⟨a0.Chans, a0.Spots, a0.Rules⟩ : ScopeDef).Chans).length : Int)))) (fun _ => []), fun _ => .op [] false (fun _ => fPtr (tSl tScopeChan) ((⟨a0.Chans, a0.Spots, a0.Rules⟩ : ScopeDef).Chans)) (fun _ => []), fun _ => .op [] false (fun _ => fSl tScopeChan ((⟨a0.Chans, a0.Spots, a0.Rules⟩ : ScopeDef).Chans)) (fun _ => []), fun _ => .op [] false (fun _ => fInt .i64 y15) (fun _ => []), fun _ => .op [] false (fun _ => fPtr tScopeChan y16) (fun _ => []), fun _ => .op [] false (fun _ => fPtr (tInt .i64) y16.At) (fun _ => []), fun _ => .op [] false (fun _ => fInt .i64 y16.At) (fun _ => []), fun _ => .op [] false (fun _ => fEq (.pointer (some ⟨b5, 0, none⟩))) (fun _ => []), fun _ => .op [0] false (fun _ => fInt .i64 y11.At) (fun _ => [tEmp]), fun _ => .op [] false (fun _ => fBool (decide (y16.At = y11.At))) (fun _ => []), fun _ => .op [] false (fun _ => fBool (decide (y16.At = y11.At))) (fun _ => []), fun _ => .op [] false (fun _ => fBool (decide (y16.At = y11.At))) (fun _ => []), fun _ => .skip, fun _ => .skip, fun _ => .skip, fun _ => .skip, fun _ => .skip, fun _ => .skip, fun _ => .skip, fun _ => .op [] false (fun _ => fBool false) (fun _ => [])] [([], false, []), ([], false, []), ([], false, []), ([], false, []), ([], false, []), ([], false, []), ([], false, []), ([], false, []), ([], false, []), ([], false, []), ([], false, []), ([], false, []), ([], false, []), ([], false, []), ([], false, []), ([], false, []), ([], false, []), ([0], false, []), ([], false, []), ([], false, []), ([], false, []), ([], false, []), ([], false, []), ([], false, []), ([], false, []), ([], false, []), ([], false, []), ([], false, []), ([], false, [])] 0 2 mixed (F0 (F0 (F0 (F0 (F0 (F0 (F0 (F0 (F0 (F0 (F0 (F0 (F0 (F0 (F0 (F0 (F0 (F0 (F0 (F0 (F0 (F0 (F0 (F0 (F0 (F0 (F0 (F0 (F0 FitsL.nil))))))))))))))))))))))))))))) (by kernel_rfl) rfl rfl (by kernel_rfl) rfl ?_
              dsimp only [netL, List.take, List.replicate, List.append, List.drop]
              refine My (h := o_move rfl hh) (k := fun _ => ?_)
              refine My (h := o_geq rfl hh hh) (k := fun _ => ?_)
              refine My (h := o_move rfl hh) (k := fun _ => ?_)
              refine N_y (φ := fInt .i64 y15) rfl (fun _ => rfl) ⟨_, _, rfl, rfl, c10⟩ rfl (o_move rfl (has rfl)) (fun _ => ?_)
              refine N_y (φ := fPtr (tSl tScopeChan) ((⟨a0.Chans, a0.Spots, a0.Rules⟩ : ScopeDef).Chans)) rfl (fun _ => rfl) ⟨_, _, rfl, rfl, c10⟩ rfl (o_field (t' := (tSl tScopeChan)) (z := (⟨a0.Chans, a0.Spots, a0.Rules⟩ : ScopeDef).Chans) rfl (has rfl) ty_fa_52_0 rfl) (fun _ => ?_)
              refine N_y (φ := fSl tScopeChan ((⟨a0.Chans, a0.Spots, a0.Rules⟩ : ScopeDef).Chans)) rfl (fun _ => rfl) ⟨_, _, rfl, rfl, c10⟩ rfl (o_load rfl (has rfl) ty_sc_45 rfl) (fun _ => ?_)
              refine N_y (φ := fInt .i64 (((⟨a0.Chans, a0.Spots, a0.Rules⟩ : ScopeDef).Chans).length : Int)) rfl (fun _ => rfl) ⟨_, _, rfl, rfl, c10⟩ rfl (o_len rfl (has rfl) ty_us_45) (fun _ => ?_)
              refine N_y (φ := fBool (decide (y15 < (((⟨a0.Chans, a0.Spots, a0.Rules⟩ : ScopeDef).Chans).length : Int)))) rfl (fun _ => rfl) ⟨_, _, rfl, rfl, c10⟩ rfl (o_lss rfl (has rfl) (has rfl)) (fun _ => ?_)
              refine My (h := o_pick_t rfl hh c10 hh) (k := fun _ => ?_)
              refine My (h := o_move rfl hh) (k := fun _ => ?_)
              refine N_y (φ := fPtr (tSl tScopeChan) ((⟨a0.Chans, a0.Spots, a0.Rules⟩ : ScopeDef).Chans)) rfl (fun _ => rfl) ⟨_, _, rfl, rfl, c11⟩ rfl (o_field (t' := (tSl tScopeChan)) (z := (⟨a0.Chans, a0.Spots, a0.Rules⟩ : ScopeDef).Chans) rfl (has rfl) ty_fa_52_0 rfl) (fun _ => ?_)
              refine N_y (φ := fSl tScopeChan ((⟨a0.Chans, a0.Spots, a0.Rules⟩ : ScopeDef).Chans)) rfl (fun _ => rfl) ⟨_, _, rfl, rfl, c11⟩ rfl (o_load rfl (has rfl) ty_sc_45 rfl) (fun _ => ?_)
              refine N_y (φ := fInt .i64 y15) rfl (fun _ => rfl) ⟨_, _, rfl, rfl, c11⟩ rfl (o_move rfl (has rfl)) (fun _ => ?_)
              refine N_y (φ := fPtr tScopeChan y16) rfl (fun _ => rfl) ⟨_, _, rfl, rfl, c11⟩ rfl (o_index rfl (has rfl) (has rfl) ty_el_45 h18) (fun _ => ?_)
              refine N_y (φ := fPtr (tInt .i64) y16.At) rfl (fun _ => rfl) ⟨_, _, rfl, rfl, c11⟩ rfl (o_field (t' := (tInt .i64)) (z := y16.At) rfl (has rfl) ty_fa_44_0 rfl) (fun _ => ?_)
              refine N_y (φ := fInt .i64 y16.At) rfl (fun _ => rfl) ⟨_, _, rfl, rfl, c11⟩ rfl (o_load rfl (has rfl) ty_sc_3 rfl) (fun _ => ?_)
              refine N_y (φ := fEq (.pointer (some ⟨b5, 0, none⟩))) rfl (fun _ => rfl) ⟨_, _, rfl, rfl, c11⟩ rfl (o_fieldB 0 rfl (has rfl) ty_fa_48_0 rfl) (fun _ => ?_)
              refine N_op (ps := [0]) (φ := fInt .i64 y11.At) rfl (fun _ => rfl) ⟨_, _, rfl, rfl, c11⟩ rfl rfl (o_loadB rfl (has rfl) ty_sc_3 rfl Ent.rfl) (fun _ => ?_)
              refine N_y (φ := fBool (decide (y16.At = y11.At))) rfl (fun _ => rfl) ⟨_, _, rfl, rfl, c11⟩ rfl (o_eql rfl (has rfl) (has rfl)) (fun _ => ?_)
              refine My (h := o_pick_t rfl hh c11 hh) (k := fun _ => ?_)
              refine My (h := o_move rfl hh) (k := fun _ => ?_)
              refine Ms (hc := ne_tf c12) (k := fun _ => ?_)
              refine Ms (hc := ne_tf c12) (k := fun _ => ?_)
              refine Ms (hc := ne_tf c12) (k := fun _ => ?_)
              refine Ms (hc := ne_tf c12) (k := fun _ => ?_)
              refine Ms (hc := ne_tf c12) (k := fun _ => ?_)
              refine Ms (hc := ne_tf c12) (k := fun _ => ?_)
              refine Ms (hc := ne_tf c12) (k := fun _ => ?_)
              refine My (h := o_pick_f rfl hh c12 hh) (k := fun _ => ?_)
              refine N_done rfl ?_
              revert H; refine bs fun y20 h22 H => ?_
              rcases y20 with y20 | pv13 <;> dsimp only at H
              ·
               refine T_call trivial rfl rfl rfl (has rfl) (HasL.cons (has rfl) HasL.nil) rfl ty_cb_84 (scope_want_w false (Sum.inl y20) h22).s rfl ?_
               refine Nn ?_
               exact T_meet (()) (Option.some.inj H).symm (Sc (Sc (Sc (Sc (Sc (Sc (Sc (Sc (Sc (Sc (Sc SubT.nil))))))))))) rfl
              ·
               refine T_callP trivial rfl (has rfl) (HasL.cons (has rfl) HasL.nil) rfl ty_cb_84 (scope_want_w false (Sum.inr pv13) h22).pan rfl ?_
               refine T_then_panic ?_
               revert H; refine bs fun r23 H e23 => ?_
               have e23 := Option.some.inj e23; subst e23; have Hr9 := Option.some.inj Hr9; subst Hr9
               refine T_in_panic ?_
               refine T_then_panic ?_
               refine T_then_panic ?_
               refine T_in_panic ?_
               refine T_in_panic ?_
               refine T_then_panic ?_
               revert H; refine bs fun r24 H e24 => ?_
               have e24 := Option.some.inj e24; subst e24; have Hr7 := Option.some.inj Hr7; subst Hr7
               refine T_then_panic ?_
               refine T_in_panic ?_
               refine T_then_panic ?_
               revert H; refine bs fun r25 H e25 => ?_
               have e25 := Option.some.inj e25; subst e25; have Hr6 := Option.some.inj Hr6; subst Hr6
               cases H
               exact T_inr
            ·
             refine T_net 29 [fun _ => .op [] false (fun _ => fInt .i64 y15) (fun _ => []), fun _ => .op [] false (fun _ => fBool (decide (0 ≤ y15))) (fun _ => []), fun _ => .op [] false (fun _ => fBool (decide (0 ≤ y15))) (fun _ => []), fun _ => .op [] false (fun _ => fInt .i64 y15) (fun _ => []), fun _ => .op [] false (fun _ => fPtr (tSl tScopeChan) ((⟨a0.Chans, a0.Spots, a0.Rules⟩ : ScopeDef).Chans)) (fun _ => []), fun _ => .op [] false (fun _ => fSl tScopeChan ((⟨a0.Chans, a0.Spots, a0.Rules⟩ : ScopeDef).Chans)) (fun _ => []), fun _ => .op [] false (fun _ => fInt .i64 (((⟨a0.Chans, a0.Spots, a0.Rules⟩ : ScopeDef).Chans).length : Int)) (fun _ => []), fun _ => .op [] false (fun _ => fBool (decide (y15 < (((⟨a0.Chans, a0.Spots, a0.Rules⟩ : ScopeDef).Chans).length : Int)))) (fun _ => []), fun _ => .op [] false (fun _ => fBool (decide (y15 < (((⟨a0.Chans, a0.Spots, a0.Rules⟩ : ScopeDef).Chans).length : Int)))) (fun _ => []), fun _ => .op [] false (fun _ => fBool (decide (y15 < (((⟨a0.Chans, a0.Spots, a0.Rules⟩ : ScopeDef).Chans).length : Int)))) (fun _ => []), fun _ => .skip, fun _ => .skip, fun _ => .skip, fun _ => .skip, fun _ => .skip, fun _ => .skip, fun _ => .skip, fun _ => .skip, fun _ => .skip, fun _ => .op [] false (fun _ => fBool false) (fun _ => []), fun _ => .op [] false (fun _ => fBool false) (fun _ => []), fun _ => .skip, fun _ => .skip, fun _ => .skip, fun _ => .skip, fun _ => .skip, fun _ => .skip, fun _ => .skip, fun _ => .op [] false (fun _ => fBool false) (fun _ => [])] [([], false, []), ([], false, []), ([], false, []), ([], false, []), ([], false, []), ([], false, []), ([], false, []), ([], false, []), ([], false, []), ([], false, []), ([], false, []), ([], false, []), ([], false, []), ([], false, []), ([], false, []), ([], false, []), ([], false, []), ([], false, []), ([], false, []), ([], false, []), ([], false, []), ([], false, []), ([], false, []), ([], false, []), ([], false, []), ([], false, []), ([], false, []), ([], false, []), ([], false, [])] 0 2 mixed (F0 (F0 (F0 (F0 (F0 (F0 (F0 (F0 (F0 (F0 (F0 (F0 (F0 (F0 (F0 (F0 (F0 (F0 (F0 (F0 (F0 (F0 (F0 (F0 (F0 (F0 (F0 (F0 (F0 FitsL.nil))))))))))))))))))))))))))))) (by kernel_rfl) rfl rfl (by kernel_rfl) rfl ?_
             dsimp only [netL, List.take, List.replicate, List.append, List.drop]
             refine My (h := o_move rfl hh) (k := fun _ => ?_)
             refine My (h := o_geq rfl hh hh) (k := fun _ => ?_)
             refine My (h := o_move rfl hh) (k := fun _ => ?_)
             refine N_y (φ := fInt .i64 y15) rfl (fun _ => rfl) ⟨_, _, rfl, rfl, c10⟩ rfl (o_move rfl (has rfl)) (fun _ => ?_)
             refine N_y (φ := fPtr (tSl tScopeChan) ((⟨a0.Chans, a0.Spots, a0.Rules⟩ : ScopeDef).Chans)) rfl (fun _ => rfl) ⟨_, _, rfl, rfl, c10⟩ rfl (o_field (t' := (tSl tScopeChan)) (z := (⟨a0.Chans, a0.Spots, a0.Rules⟩ : ScopeDef).Chans) rfl (has rfl) ty_fa_52_0 rfl) (fun _ => ?_)
             refine N_y (φ := fSl tScopeChan ((⟨a0.Chans, a0.Spots, a0.Rules⟩ : ScopeDef).Chans)) rfl (fun _ => rfl) ⟨_, _, rfl, rfl, c10⟩ rfl (o_load rfl (has rfl) ty_sc_45 rfl) (fun _ => ?_)
             refine N_y (φ := fInt .i64 (((⟨a0.Chans, a0.Spots, a0.Rules⟩ : ScopeDef).Chans).length : Int)) rfl (fun _ => rfl) ⟨_, _, rfl, rfl, c10⟩ rfl (o_len rfl (has rfl) ty_us_45) (fun _ => ?_)
             refine N_y (φ := fBool (decide (y15 < (((⟨a0.Chans, a0.Spots, a0.Rules⟩ : ScopeDef).Chans).length : Int)))) rfl (fun _ => rfl) ⟨_, _, rfl, rfl, c10⟩ rfl (o_lss rfl (has rfl) (has rfl)) (fun _ => ?_)
             refine My (h := o_pick_t rfl hh c10 hh) (k := fun _ => ?_)
             refine My (h := o_move rfl hh) (k := fun _ => ?_)
             refine Ms (hc := ne_tf c11) (k := fun _ => ?_)
             refine Ms (hc := ne_tf c11) (k := fun _ => ?_)
             refine Ms (hc := ne_tf c11) (k := fun _ => ?_)
             refine Ms (hc := ne_tf c11) (k := fun _ => ?_)
             refine Ms (hc := ne_tf c11) (k := fun _ => ?_)
             refine Ms (hc := ne_tf c11) (k := fun _ => ?_)
             refine Ms (hc := ne_tf c11) (k := fun _ => ?_)
             refine Ms (hc := ne_tf c11) (k := fun _ => ?_)
             refine Ms (hc := ne_tf c11) (k := fun _ => ?_)
             refine My (h := o_pick_f rfl hh c11 hh) (k := fun _ => ?_)
             refine My (h := o_move rfl hh) (k := fun _ => ?_)
             refine Ms (hc := by decide) (k := fun _ => ?_)
             refine Ms (hc := by decide) (k := fun _ => ?_)
             refine Ms (hc := by decide) (k := fun _ => ?_)
             refine Ms (hc := by decide) (k := fun _ => ?_)
             refine Ms (hc := by decide) (k := fun _ => ?_)
             refine Ms (hc := by decide) (k := fun _ => ?_)
             refine Ms (hc := by decide) (k := fun _ => ?_)
             refine My (h := o_pick_f rfl hh rfl hh) (k := fun _ => ?_)
             refine N_done rfl ?_
             revert H; refine bs fun y21 h23 H => ?_
             rcases y21 with y21 | pv14 <;> dsimp only at H
             ·
              refine T_call trivial rfl rfl rfl (has rfl) (HasL.cons (has rfl) HasL.nil) rfl ty_cb_84 (scope_want_w false (Sum.inl y21) h23).s rfl ?_
              refine Nn ?_
              exact T_meet (()) (Option.some.inj H).symm (Sc (Sc (Sc (Sc (Sc (Sc (Sc (Sc (Sc (Sc (Sc SubT.nil))))))))))) rfl
             ·
              refine T_callP trivial rfl (has rfl) (HasL.cons (has rfl) HasL.nil) rfl ty_cb_84 (scope_want_w false (Sum.inr pv14) h23).pan rfl ?_
              refine T_then_panic ?_
              revert H; refine bs fun r26 H e26 => ?_
              have e26 := Option.some.inj e26; subst e26; have Hr9 := Option.some.inj Hr9; subst Hr9
              refine T_in_panic ?_
              refine T_then_panic ?_
              refine T_then_panic ?_
              refine T_in_panic ?_
              refine T_in_panic ?_
              refine T_then_panic ?_
              revert H; refine bs fun r27 H e27 => ?_
              have e27 := Option.some.inj e27; subst e27; have Hr7 := Option.some.inj Hr7; subst Hr7
              refine T_then_panic ?_
              refine T_in_panic ?_
              refine T_then_panic ?_
              revert H; refine bs fun r28 H e28 => ?_
              have e28 := Option.some.inj e28; subst e28; have Hr6 := Option.some.inj Hr6; subst Hr6
              cases H
              exact T_inr
           ·
            refine T_net 29 [fun _ => .op [] false (fun _ => fInt .i64 y15) (fun _ => []), fun _ => .op [] false (fun _ => fBool (decide (0 ≤ y15))) (fun _ => []), fun _ => .op [] false (fun _ => fBool (decide (0 ≤ y15))) (fun _ => []), fun _ => .skip, fun _ => .skip, fun _ => .skip, fun _ => .skip, fun _ => .skip, fun _ => .op [] false (fun _ => fBool false) (fun _ => []), fun _ => .op [] false (fun _ => fBool false) (fun _ => []), fun _ => .skip, fun _ => .skip, fun _ => .skip, fun _ => .skip, fun _ => .skip, fun _ => .skip, fun _ => .skip, fun _ => .skip, fun _ => .skip, fun _ => .op [] false (fun _ => fBool false) (fun _ => []), fun _ => .op [] false (fun _ => fBool false) (fun _ => []), fun _ => .skip, fun _ => .skip, fun _ => .skip, fun _ => .skip, fun _ => .skip, fun _ => .skip, fun _ => .skip, fun _ => .op [] false (fun _ => fBool false) (fun _ => [])] [([], false, []), ([], false, []), ([], false, []), ([], false, []), ([], false, []), ([], false, []), ([], false, []), ([], false, []), ([], false, []), ([], false, []), ([], false, []), ([], false, []), ([], false, []), ([], false, []), ([], false, []), ([], false, []), ([], false, []), ([], false, []), ([], false, []), ([], false, []), ([], false, []), ([], false, []), ([], false, []), ([], false, []), ([], false, []), ([], false, []), ([], false, []), ([], false, []), ([], false, [])] 0 2 mixed (F0 (F0 (F0 (F0 (F0 (F0 (F0 (F0 (F0 (F0 (F0 (F0 (F0 (F0 (F0 (F0 (F0 (F0 (F0 (F0 (F0 (F0 (F0 (F0 (F0 (F0 (F0 (F0 (F0 FitsL.nil))))))))))))))))))))))))))))) (by kernel_rfl) rfl rfl (by kernel_rfl) rfl ?_
            dsimp only [netL, List.take, List.replicate, List.append, List.drop]
            refine My (h := o_move rfl hh) (k := fun _ => ?_)
            refine My (h := o_geq rfl hh hh) (k := fun _ => ?_)
            refine My (h := o_move rfl hh) (k := fun _ => ?_)
            refine Ms (hc := ne_tf c10) (k := fun _ => ?_)
            refine Ms (hc := ne_tf c10) (k := fun _ => ?_)
            refine Ms (hc := ne_tf c10) (k := fun _ => ?_)
            refine Ms (hc := ne_tf c10) (k := fun _ => ?_)
            refine Ms (hc := ne_tf c10) (k := fun _ => ?_)
            refine My (h := o_pick_f rfl hh c10 hh) (k := fun _ => ?_)
            refine My (h := o_move rfl hh) (k := fun _ => ?_)
            refine Ms (hc := by decide) (k := fun _ => ?_)
            refine Ms (hc := by decide) (k := fun _ => ?_)
            refine Ms (hc := by decide) (k := fun _ => ?_)
            refine Ms (hc := by decide) (k := fun _ => ?_)
            refine Ms (hc := by decide) (k := fun _ => ?_)
            refine Ms (hc := by decide) (k := fun _ => ?_)
            refine Ms (hc := by decide) (k := fun _ => ?_)
            refine Ms (hc := by decide) (k := fun _ => ?_)
            refine Ms (hc := by decide) (k := fun _ => ?_)
            refine My (h := o_pick_f rfl hh rfl hh) (k := fun _ => ?_)
            refine My (h := o_move rfl hh) (k := fun _ => ?_)
            refine Ms (hc := by decide) (k := fun _ => ?_)
            refine Ms (hc := by decide) (k := fun _ => ?_)
            refine Ms (hc := by decide) (k := fun _ => ?_)
            refine Ms (hc := by decide) (k := fun _ => ?_)
            refine Ms (hc := by decide) (k := fun _ => ?_)
            refine Ms (hc := by decide) (k := fun _ => ?_)
            refine Ms (hc := by decide) (k := fun _ => ?_)
            refine My (h := o_pick_f rfl hh rfl hh) (k := fun _ => ?_)
            refine N_done rfl ?_
            revert H; refine bs fun y22 h24 H => ?_
            rcases y22 with y22 | pv15 <;> dsimp only at H
            ·
             refine T_call trivial rfl rfl rfl (has rfl) (HasL.cons (has rfl) HasL.nil) rfl ty_cb_84 (scope_want_w false (Sum.inl y22) h24).s rfl ?_
             refine Nn ?_
             exact T_meet (()) (Option.some.inj H).symm (Sc (Sc (Sc (Sc (Sc (Sc (Sc (Sc (Sc (Sc (Sc SubT.nil))))))))))) rfl
            ·
             refine T_callP trivial rfl (has rfl) (HasL.cons (has rfl) HasL.nil) rfl ty_cb_84 (scope_want_w false (Sum.inr pv15) h24).pan rfl ?_
             refine T_then_panic ?_
             revert H; refine bs fun r29 H e29 => ?_
             have e29 := Option.some.inj e29; subst e29; have Hr9 := Option.some.inj Hr9; subst Hr9
             refine T_in_panic ?_
             refine T_then_panic ?_
             refine T_then_panic ?_
             refine T_in_panic ?_
             refine T_in_panic ?_
             refine T_then_panic ?_
             revert H; refine bs fun r30 H e30 => ?_
             have e30 := Option.some.inj e30; subst e30; have Hr7 := Option.some.inj Hr7; subst Hr7
             refine T_then_panic ?_
             refine T_in_panic ?_
             refine T_then_panic ?_
             revert H; refine bs fun r31 H e31 => ?_
             have e31 := Option.some.inj e31; subst e31; have Hr6 := Option.some.inj Hr6; subst Hr6
             cases H
             exact T_inr
          ·
           clear H; intro i hi; subst o9; have H := Hr9; clear Hr9; try dsimp only at H
           show T β _ _ [(1, fPtr tScopeDef (⟨a0.Chans, a0.Spots, a0.Rules⟩ : ScopeDef)), (2, fClo 101 [fPtr tScopeDef (⟨a0.Chans, a0.Spots, a0.Rules⟩ : ScopeDef)]), (7, fEq (.map (some b4))), (72, fSl tScopeRule ((⟨a0.Chans, a0.Spots, a0.Rules⟩ : ScopeDef).Rules)), (73, fInt .i64 (((⟨a0.Chans, a0.Spots, a0.Rules⟩ : ScopeDef).Rules).length : Int)), (74, fInt .i64 x8), (9, fEq (.pointer (some ⟨b5, 0, none⟩))), (94, fSl (tInt .i64) y11.Joins), (95, fInt .i64 (y11.Joins.length : Int)), (96, fInt .i64 x13), (11, fInt .i64 y15)] [tBlk b5 48 [fInt .i64 y11.At, fSl (tInt .i64) y11.Joins, fInt .i64 y11.Node], tMap kInt (fun y => fBool y) b4 x14] _
           refine T_region ?_
           refine Ym ?_
           refine Ym ?_
           refine T_fr1 ?_
           refine T_mapUpd (k := y15) (y := true) trivial (.inl rfl) rfl (has rfl) (has rfl) rfl (has rfl) rfl ty_mp_177 ?_
           refine T_nil ?_
           refine T_in_n ?_
           refine T_then_n ?_
           refine T_region ?_
           revert H; refine bs fun z3 h25 H => ?_
           refine Yy (o_add rfl hh hh h25) ?_
           refine Ym ?_
           refine Nn ?_
           refine T_pick [1, 0] (by decide) ?_
           exact T_meet ((k4, z3, GMap.upd x14 y15 true)) ⟨H, Nat.lt_succ_self _⟩ (Sc (Sc (Sc (Sc (Sc (Sc (Sc (Sc (Sc (Sc SubT.nil)))))))))) rfl
         ·
          refine T_cond_f (has rfl) c9 ?_
          refine T_exit ?_
          refine T_then_exit ?_
          refine T_then_exit ?_
          refine T_in_hit ?_
          refine T_in_n ?_
          refine T_then_n ?_
          refine T_pick [1] (by decide) ?_
          exact T_meet (x14) (Option.some.inj H).symm (Sc (Sc (Sc (Sc (Sc (Sc SubT.nil)))))) rfl
       ·
        refine T_callPC trivial rfl (has rfl) (HasL.cons (has rfl) HasL.nil) rfl ty_cb_101 (scope_def_1_w y11.At (⟨a0.Chans, a0.Spots, a0.Rules⟩ : ScopeDef) (Sum.inr pv9) h14).pan rfl ?_
        refine T_then_panic ?_
        refine T_in_panic ?_
        refine T_then_panic ?_
        revert H; refine bs fun r32 H e32 => ?_
        have e32 := Option.some.inj e32; subst e32; have Hr7 := Option.some.inj Hr7; subst Hr7
        refine T_then_panic ?_
        refine T_in_panic ?_
        refine T_then_panic ?_
        revert H; refine bs fun r33 H e33 => ?_
        have e33 := Option.some.inj e33; subst e33; have Hr6 := Option.some.inj Hr6; subst Hr6
        cases H
        exact T_inr
      ·
       clear H; intro x10 hi; subst o7; have H := Hr7; clear Hr7; try dsimp only at H
       show T β _ _ [(1, fPtr tScopeDef (⟨a0.Chans, a0.Spots, a0.Rules⟩ : ScopeDef)), (2, fClo 101 [fPtr tScopeDef (⟨a0.Chans, a0.Spots, a0.Rules⟩ : ScopeDef)]), (7, fEq (.map (some b4))), (72, fSl tScopeRule ((⟨a0.Chans, a0.Spots, a0.Rules⟩ : ScopeDef).Rules)), (73, fInt .i64 (((⟨a0.Chans, a0.Spots, a0.Rules⟩ : ScopeDef).Rules).length : Int)), (74, fInt .i64 x8)] [tMap kInt (fun y => fBool y) b4 x10] _
       refine T_region ?_
       revert H; refine bs fun z4 h26 H => ?_
       refine Yy (o_add rfl hh hh h26) ?_
       refine Ym ?_
       refine Nn ?_
       exact T_meet ((k3, z4, x10)) ⟨H, Nat.lt_succ_self _⟩ (Sc (Sc (Sc (Sc (Sc (Sc SubT.nil)))))) rfl
     ·
      refine T_cond_f (has rfl) c7 ?_
      refine T_exit ?_
      refine T_then_exit ?_
      refine T_then_exit ?_
      refine T_in_hit ?_
      refine T_then_n ?_
      exact T_meet (x9) (Option.some.inj H).symm (Sc (Sc SubT.nil)) rfl
    ·
     clear H; intro x5 hi; subst o6; have H := Hr6; clear Hr6; try dsimp only at H
     show T β _ _ [(1, fPtr tScopeDef (⟨a0.Chans, a0.Spots, a0.Rules⟩ : ScopeDef)), (7, fEq (.map (some b4)))] [tMap kInt (fun y => fBool y) b4 x5] _
     refine T_region ?_
     refine Ym ?_
     refine Yo 0 rfl (o_lenMO rfl hh ty_mp_177) ?_
     refine Yy (o_field (t' := (tSl tScopeChan)) (z := (⟨a0.Chans, a0.Spots, a0.Rules⟩ : ScopeDef).Chans) rfl hh ty_fa_52_0 rfl) ?_
     refine Yy (o_load rfl hh ty_sc_45 rfl) ?_
     refine Yy (o_len rfl hh ty_us_45) ?_
     refine Yy (o_eql rfl hh hh) ?_
     revert H; refine bs fun y23 h27 H => ?_
     rcases y23 with y23 | pv16 <;> dsimp only at H
     ·
      refine T_call trivial rfl rfl rfl (has rfl) (HasL.cons (has rfl) HasL.nil) rfl ty_cb_84 (scope_want_w (decide ((x5.size : Int) = (((⟨a0.Chans, a0.Spots, a0.Rules⟩ : ScopeDef).Chans).length : Int))) (Sum.inl y23) h27).s rfl ?_
      refine T_nil ?_
      cases H
      refine T_inl ?_
      refine T_pick [] (by decide) ?_
      exact T_out0 (.inr rfl) rfl rfl
     ·
      refine T_callP trivial rfl (has rfl) (HasL.cons (has rfl) HasL.nil) rfl ty_cb_84 (scope_want_w (decide ((x5.size : Int) = (((⟨a0.Chans, a0.Spots, a0.Rules⟩ : ScopeDef).Chans).length : Int))) (Sum.inr pv16) h27).pan rfl ?_
      cases H
      exact T_inr
def scope_own_S (a0 : ScopeDef) : Option (Int) :=
 (chk ((a0.Chans.length : Int) + (a0.Spots.length : Int))).bind fun z1 =>
 some z1
theorem scope_own_w  (a0 : ScopeDef) (r : Int) (H : scope_own_S a0 = some r) : FnS Try.prog 97 [fSt tScopeDef a0] [] (fInt .i64 r) (fun _ => []) := by
 unfold scope_own_S at H
 refine FnS_of Try.func97 rfl Try.ntmps97 rfl (fun β => ?_)
 refine Sr ?_
 refine T_new trivial rfl rfl (n_box rfl (has rfl) part_agg) (fun b1 => ?_)
 refine Ya ?_
 refine Nn ?_
 refine Sr ?_
 refine Yy (o_fieldB 0 rfl hh ty_fa_52_0 rfl) ?_
 refine Yo 0 rfl (o_loadB rfl hh ty_sc_45 rfl Ent.rfl) ?_
 refine Yy (o_len rfl hh ty_us_45) ?_
 refine Yy (o_fieldB 1 rfl hh ty_fa_52_1 rfl) ?_
 refine Yo 0 rfl (o_loadB rfl hh ty_sc_50 rfl Ent.rfl) ?_
 refine Yy (o_len rfl hh ty_us_50) ?_
 revert H; refine bs fun z1 h1 H => ?_
 refine Yy (o_add rfl hh hh h1) ?_
 refine Ya ?_
 refine Nn ?_
 refine T_retc ?_
 cases H
 refine T_pick [] (by decide) ?_
 exact T_out1 rfl (hasS rfl) rfl
def scope_brings_l1 (a0 : ScopeDef) (a1 : ScopeRule) : Nat → Int → Int → Option (Int)
| 0, _, _ => none
| k + 1, x4, x5 =>
 if x5 < (a1.Joins.length : Int) then
  (idx a1.Joins x5).bind fun y1 =>
  (idx a0.Chans y1).bind fun y2 =>
  (chk (x4 + y2.Many)).bind fun z1 =>
  (chk (x5 + 1)).bind fun z2 =>
  scope_brings_l1 a0 a1 k z1 z2
 else
  some x4
def scope_brings_S (fuel : Nat) (a0 : ScopeDef) (a1 : ScopeRule) : Option (Int) :=
 (scope_brings_l1 a0 a1 fuel 0 0).bind fun x1 =>
 some x1
theorem scope_brings_w (fuel : Nat)  (a0 : ScopeDef) (a1 : ScopeRule) (r : Int) (H : scope_brings_S fuel a0 a1 = some r) : FnS Try.prog 98 [fSt tScopeDef a0, fSt tScopeRule a1] [] (fInt .i64 r) (fun _ => []) := by
 unfold scope_brings_S at H
 refine FnS_of Try.func98 rfl Try.ntmps98 rfl (fun β => ?_)
 refine Sr ?_
 refine T_new trivial rfl rfl (n_box rfl (has rfl) part_agg) (fun b1 => ?_)
 refine T_new trivial rfl rfl (n_box rfl (has rfl) part_agg) (fun b2 => ?_)
 refine Ya ?_
 refine Nn ?_
 refine Sr ?_
 refine Ya ?_
 refine Nn ?_
 revert H; refine bs fun o1 H Hr1 => ?_
 refine T_seqJ (ι := Int) (fun i => o1 = i) (fun i => [(5, fInt .i64 i)]) (fun i => [tBlk b2 48 [fInt .i64 a1.At, fSl (tInt .i64) a1.Joins, fInt .i64 a1.Node], tBlk b1 52 [fSl tScopeChan a0.Chans, fSl tScopeSpot a0.Spots, fSl tScopeRule a0.Rules]]) ?_ ?_
 ·
  refine Sr ?_
  refine Yy (o_fieldB 1 rfl hh ty_fa_48_1 rfl) ?_
  refine Yo 0 rfl (o_loadB rfl hh ty_sc_46 rfl Ent.rfl) ?_
  refine Yy (o_len rfl hh ty_us_46) ?_
  refine Ym ?_
  refine Nn ?_
  refine T_block ?_
  refine T_loop (ι := Nat × Int × Int) (fun i => scope_brings_l1 a0 a1 i.1 i.2.1 i.2.2 = _) (fun i => i.1) (fun i => [(2, fEq (.pointer (some ⟨b1, 0, none⟩))), (5, fInt .i64 i.2.1), (9, fSl (tInt .i64) a1.Joins), (10, fInt .i64 (a1.Joins.length : Int)), (11, fInt .i64 i.2.2)]) (fun i => [tBlk b2 48 [fInt .i64 a1.At, fSl (tInt .i64) a1.Joins, fInt .i64 a1.Node], tBlk b1 52 [fSl tScopeChan a0.Chans, fSl tScopeSpot a0.Spots, fSl tScopeRule a0.Rules]]) (fuel, 0, 0) H (Sc (Sc (Sc (Sc (Sc SubT.nil))))) rfl ?_
  clear H; rintro ⟨k1, x4, x5⟩ H
  replace H : scope_brings_l1 a0 a1 k1 x4 x5 = _ := H
  show T β _ _ [(2, fEq (.pointer (some ⟨b1, 0, none⟩))), (5, fInt .i64 x4), (9, fSl (tInt .i64) a1.Joins), (10, fInt .i64 (a1.Joins.length : Int)), (11, fInt .i64 x5)] [tBlk b2 48 [fInt .i64 a1.At, fSl (tInt .i64) a1.Joins, fInt .i64 a1.Node], tBlk b1 52 [fSl tScopeChan a0.Chans, fSl tScopeSpot a0.Spots, fSl tScopeRule a0.Rules]] _
  obtain _ | k1 := k1
  ·
   rw [scope_brings_l1] at H; cases H
  rw [scope_brings_l1] at H
  refine Sr ?_
  refine Yy (o_lss rfl hh hh) ?_
  refine Nn ?_
  refine T_seq ?_
  revert H; refine is (fun c1 H => ?_) fun c1 H => ?_
  ·
   refine T_cond_t (has rfl) c1 ?_
   refine T_skip ?_
   refine T_then_n ?_
   refine T_seq ?_
   refine T_block ?_
   refine Sr ?_
   revert H; refine bs fun y1 h1 H => ?_
   refine Yy (o_index rfl hh hh ty_el_46 h1) ?_
   refine Yy (o_load rfl hh ty_sc_3 rfl) ?_
   refine Ya ?_
   refine Nn ?_
   refine T_region ?_
   refine Ym ?_
   refine Yy (o_fieldB 0 rfl hh ty_fa_52_0 rfl) ?_
   refine Yo 1 rfl (o_loadB rfl hh ty_sc_45 rfl Ent.rfl) ?_
   refine Ym ?_
   revert H; refine bs fun y2 h2 H => ?_
   refine Yy (o_index rfl hh hh ty_el_45 h2) ?_
   refine Yy (o_field (t' := (tInt .i64)) (z := y2.Many) rfl hh ty_fa_44_1 rfl) ?_
   refine Yy (o_load rfl hh ty_sc_3 rfl) ?_
   revert H; refine bs fun z1 h3 H => ?_
   refine Yy (o_add rfl hh hh h3) ?_
   refine Ya ?_
   refine T_nil ?_
   refine T_in_n ?_
   refine T_then_n ?_
   refine T_region ?_
   revert H; refine bs fun z2 h4 H => ?_
   refine Yy (o_add rfl hh hh h4) ?_
   refine Ym ?_
   refine Nn ?_
   exact T_meet ((k1, z1, z2)) ⟨H, Nat.lt_succ_self _⟩ (Sc (Sc (Sc (Sc (Sc SubT.nil))))) rfl
  ·
   refine T_cond_f (has rfl) c1 ?_
   refine T_exit ?_
   refine T_then_exit ?_
   refine T_then_exit ?_
   refine T_in_hit ?_
   refine T_then_n ?_
   exact T_meet (x4) (Option.some.inj H).symm (Sc SubT.nil) rfl
 ·
  clear H; intro x1 hi; subst o1; have H := Hr1; clear Hr1; try dsimp only at H
  show T β _ _ [(5, fInt .i64 x1)] [tBlk b2 48 [fInt .i64 a1.At, fSl (tInt .i64) a1.Joins, fInt .i64 a1.Node], tBlk b1 52 [fSl tScopeChan a0.Chans, fSl tScopeSpot a0.Spots, fSl tScopeRule a0.Rules]] _
  refine Sr ?_
  refine Ym ?_
  refine Ya ?_
  refine Nn ?_
  refine T_retc ?_
  cases H
  refine T_pick [] (by decide) ?_
  exact T_out1 rfl (hasS rfl) rfl
end Go.Proofs.Ytmnbfgeljmhekaa
set_option maxRecDepth 100000
set_option maxHeartbeats 2000000
namespace Go.Proofs.Ytmnbfgeljmhekaa
open Go.SX Go.SW Go.Dt
def scope_speaks_kids_S (a0 : Scope_speaks) : Option (Int) :=
 some 0
theorem scope_speaks_kids_w  (a0 : Scope_speaks) (r : Int) (H : scope_speaks_kids_S a0 = some r) : FnS Try.prog 119 [fSt tScope_speaks a0] [] (fInt .i64 r) (fun _ => []) := by
 unfold scope_speaks_kids_S at H
 refine FnS_of Try.func119 rfl Try.ntmps119 rfl (fun β => ?_)
 refine Sr ?_
 refine T_new trivial rfl rfl (n_box rfl (has rfl) part_agg) (fun b1 => ?_)
 refine Ya ?_
 refine Nn ?_
 refine Sr ?_
 refine Ya ?_
 refine Nn ?_
 refine T_retc ?_
 cases H
 refine T_pick [] (by decide) ?_
 exact T_out1 rfl (hasS rfl) rfl
def scope_travels_kids_S (a0 : Scope_travels) : Option (Int) :=
 some 1
theorem scope_travels_kids_w  (a0 : Scope_travels) (r : Int) (H : scope_travels_kids_S a0 = some r) : FnS Try.prog 120 [fSt tScope_travels a0] [] (fInt .i64 r) (fun _ => []) := by
 unfold scope_travels_kids_S at H
 refine FnS_of Try.func120 rfl Try.ntmps120 rfl (fun β => ?_)
 refine Sr ?_
 refine T_new trivial rfl rfl (n_box rfl (has rfl) part_agg) (fun b1 => ?_)
 refine Ya ?_
 refine Nn ?_
 refine Sr ?_
 refine Ya ?_
 refine Nn ?_
 refine T_retc ?_
 cases H
 refine T_pick [] (by decide) ?_
 exact T_out1 rfl (hasS rfl) rfl
def scope_declares_kids_S (a0 : Scope_declares) : Option (Int) :=
 some 1
theorem scope_declares_kids_w  (a0 : Scope_declares) (r : Int) (H : scope_declares_kids_S a0 = some r) : FnS Try.prog 121 [fSt tScope_declares a0] [] (fInt .i64 r) (fun _ => []) := by
 unfold scope_declares_kids_S at H
 refine FnS_of Try.func121 rfl Try.ntmps121 rfl (fun β => ?_)
 refine Sr ?_
 refine T_new trivial rfl rfl (n_box rfl (has rfl) part_agg) (fun b1 => ?_)
 refine Ya ?_
 refine Nn ?_
 refine Sr ?_
 refine Ya ?_
 refine Nn ?_
 refine T_retc ?_
 cases H
 refine T_pick [] (by decide) ?_
 exact T_out1 rfl (hasS rfl) rfl
def scope_decides_kids_S (a0 : Scope_decides) : Option (Int) :=
 some 2
theorem scope_decides_kids_w  (a0 : Scope_decides) (r : Int) (H : scope_decides_kids_S a0 = some r) : FnS Try.prog 122 [fSt tScope_decides a0] [] (fInt .i64 r) (fun _ => []) := by
 unfold scope_decides_kids_S at H
 refine FnS_of Try.func122 rfl Try.ntmps122 rfl (fun β => ?_)
 refine Sr ?_
 refine T_new trivial rfl rfl (n_box rfl (has rfl) part_agg) (fun b1 => ?_)
 refine Ya ?_
 refine Nn ?_
 refine Sr ?_
 refine Ya ?_
 refine Nn ?_
 refine T_retc ?_
 cases H
 refine T_pick [] (by decide) ?_
 exact T_out1 rfl (hasS rfl) rfl
def scope_plain_kids_S (a0 : Int) : Option (Int) :=
 some a0
theorem scope_plain_kids_w  (a0 : Int) (r : Int) (H : scope_plain_kids_S a0 = some r) : FnS Try.prog 123 [fInt .i64 a0] [] (fInt .i64 r) (fun _ => []) := by
 unfold scope_plain_kids_S at H
 refine FnS_of Try.func123 rfl Try.ntmps123 rfl (fun β => ?_)
 refine Sr ?_
 refine Ya ?_
 refine Nn ?_
 refine Sr ?_
 refine Ym ?_
 refine Ya ?_
 refine Nn ?_
 refine T_retc ?_
 cases H
 exact T_out1 rfl (hasS rfl) rfl
def inv_kids : Value → Option Int
 | .iface 168 (.agg ⟨[]⟩) => scope_speaks_kids_S ⟨⟩
 | .iface 169 (.agg ⟨[]⟩) => scope_travels_kids_S ⟨⟩
 | .iface 170 (.agg ⟨[]⟩) => scope_declares_kids_S ⟨⟩
 | .iface 171 (.agg ⟨[]⟩) => scope_decides_kids_S ⟨⟩
 | .iface 175 (.int .i64 n) => scope_plain_kids_S n
 | _ => none
theorem inv_kids_w (v : Value) (r : Int) (H : inv_kids v = some r) : Inv Try.prog v "cabotage/scope.kids" [] (fInt .i64 r) := by
 unfold inv_kids at H
 split at H
 ·
  exact ⟨_, _, 119, rfl, fun w => by kernel_rfl, ty_cb_119, (scope_speaks_kids_w ⟨⟩ r H).args (EntL.cons (ent_aggOf []) EntL.nil)⟩
 ·
  exact ⟨_, _, 120, rfl, fun w => by kernel_rfl, ty_cb_120, (scope_travels_kids_w ⟨⟩ r H).args (EntL.cons (ent_aggOf []) EntL.nil)⟩
 ·
  exact ⟨_, _, 121, rfl, fun w => by kernel_rfl, ty_cb_121, (scope_declares_kids_w ⟨⟩ r H).args (EntL.cons (ent_aggOf []) EntL.nil)⟩
 ·
  exact ⟨_, _, 122, rfl, fun w => by kernel_rfl, ty_cb_122, (scope_decides_kids_w ⟨⟩ r H).args (EntL.cons (ent_aggOf []) EntL.nil)⟩
 ·
  rename_i n; exact ⟨_, _, 123, rfl, fun w => by kernel_rfl, ty_cb_123, (scope_plain_kids_w n r H).args EntL.rfl⟩
 ·
  cases H
def scope_looker_node_l1 (fuel : Nat) (a2 : Int) (y7 : ScopeNode) : Nat → Int → Option ((Unit) ⊕ (Scope_looker ⊕ Value))
| 0, _ => none
| k + 1, x8 =>
 if x8 < (y7.Args.length : Int) then
  (idx y7.Args x8).bind fun y27 =>
  (scope_exp_S fuel (⟨y27.Op, y27.N, y27.Kids⟩ : ScopeExp) a2).bind fun y28 =>
  match y28 with
  | Sum.inr pv16 => (some (Sum.inr pv16)).bind fun r => some (Sum.inr r)
  | Sum.inl y28 =>
  (chk (x8 + 1)).bind fun z1 =>
  scope_looker_node_l1 fuel a2 y7 k z1
 else
  some (Sum.inl ())
def scope_looker_node_l2 (fuel : Nat) (rec_scope_looker_node : Scope_looker → Int → Int → Option (Scope_looker ⊕ Value)) (y30 : ScopeDef) (z2 : Int) : Nat → Int → (List ByteArray) → (List ScopeNode) → (List ScopeDef) → Int → (List Int) → (List Bool) → (List Bool) → Option ((List ByteArray × List ScopeNode × List ScopeDef × Int × List Int × List Bool × List Bool) ⊕ ((Int × List ByteArray × List ScopeNode × List ScopeDef × Int × List Int × List Bool × List Bool) ⊕ (Scope_looker ⊕ Value)))
| 0, _, _, _, _, _, _, _, _ => none
| k + 1, x32, x33, x34, x35, x36, x37, x38, x39 =>
 if x32 < (y30.Rules.length : Int) then
  (idx y30.Rules x32).bind fun y33 =>
  (scope_brings_S fuel (⟨y30.Chans, y30.Spots, y30.Rules⟩ : ScopeDef) (⟨y33.At, y33.Joins, y33.Node⟩ : ScopeRule)).bind fun y34 =>
  (chk (z2 + y34)).bind fun z3 =>
  (rec_scope_looker_node (⟨(⟨x33, x34, x35, x36⟩ : ScopeProg), x37, x38, x39⟩ : Scope_looker) y33.Node z3).bind fun y35 =>
  match y35 with
  | Sum.inr pv18 => ((some (Sum.inr pv18)).bind fun r => some (Sum.inr r)).bind fun r => some (Sum.inr r)
  | Sum.inl y35 =>
  (chk (x32 + 1)).bind fun z4 =>
  scope_looker_node_l2 fuel rec_scope_looker_node y30 z2 k z4 y35.p.Free y35.p.Nodes y35.p.Defs y35.p.Main y35.sizes y35.met y35.defs
 else
  some (Sum.inl (x33, x34, x35, x36, x37, x38, x39))
def scope_looker_node_l3 (rec_scope_looker_node : Scope_looker → Int → Int → Option (Scope_looker ⊕ Value)) (y30 : ScopeDef) (z2 : Int) : Nat → Int → (List ByteArray) → (List ScopeNode) → (List ScopeDef) → Int → (List Int) → (List Bool) → (List Bool) → Option ((Int × List ByteArray × List ScopeNode × List ScopeDef × Int × List Int × List Bool × List Bool) ⊕ (Scope_looker ⊕ Value))
| 0, _, _, _, _, _, _, _, _ => none
| k + 1, x48, x49, x50, x51, x52, x53, x54, x55 =>
 if x48 < (y30.Spots.length : Int) then
  (idx y30.Spots x48).bind fun y36 =>
  (rec_scope_looker_node (⟨(⟨x49, x50, x51, x52⟩ : ScopeProg), x53, x54, x55⟩ : Scope_looker) y36.Node z2).bind fun y37 =>
  match y37 with
  | Sum.inr pv19 => (some (Sum.inr pv19)).bind fun r => some (Sum.inr r)
  | Sum.inl y37 =>
  (chk (x48 + 1)).bind fun z5 =>
  scope_looker_node_l3 rec_scope_looker_node y30 z2 k z5 y37.p.Free y37.p.Nodes y37.p.Defs y37.p.Main y37.sizes y37.met y37.defs
 else
  some (Sum.inl (z2, x49, x50, x51, x52, x53, x54, x55))
def scope_looker_node_l4 (rec_scope_looker_node : Scope_looker → Int → Int → Option (Scope_looker ⊕ Value)) (y7 : ScopeNode) (x9 : Int) : Nat → Int → (List ByteArray) → (List ScopeNode) → (List ScopeDef) → Int → (List Int) → (List Bool) → (List Bool) → Option (Scope_looker ⊕ Value)
| 0, _, _, _, _, _, _, _, _ => none
| k + 1, x64, x65, x66, x67, x68, x69, x70, x71 =>
 if x64 < (y7.Kids.length : Int) then
  (idx y7.Kids x64).bind fun y38 =>
  (rec_scope_looker_node (⟨(⟨x65, x66, x67, x68⟩ : ScopeProg), x69, x70, x71⟩ : Scope_looker) y38 x9).bind fun y39 =>
  match y39 with
  | Sum.inr pv20 => some (Sum.inr pv20)
  | Sum.inl y39 =>
  (chk (x64 + 1)).bind fun z6 =>
  scope_looker_node_l4 rec_scope_looker_node y7 x9 k z6 y39.p.Free y39.p.Nodes y39.p.Defs y39.p.Main y39.sizes y39.met y39.defs
 else
  some (Sum.inl (⟨(⟨x65, x66, x67, x68⟩ : ScopeProg), x69, x70, x71⟩ : Scope_looker))
def scope_looker_node_S : Nat → Scope_looker → Int → Int → Option (Scope_looker ⊕ Value)
| 0, _, _, _ => none
| fuel + 1, a0, a1, a2 =>
 (if 0 ≤ a1 then
  if a1 < (a0.p.Nodes.length : Int) then
   (idx a0.met a1).bind fun y1 =>
   (scope_want_S (!y1)).bind fun y2 =>
   match y2 with
   | Sum.inr pv1 => (some (Sum.inr pv1)).bind fun r => some (Sum.inr r)
   | Sum.inl y2 =>
   some (Sum.inl ())
  else
   (scope_want_S false).bind fun y3 =>
   match y3 with
   | Sum.inr pv2 => (some (Sum.inr pv2)).bind fun r => some (Sum.inr r)
   | Sum.inl y3 =>
   some (Sum.inl ())
 else
  (scope_want_S false).bind fun y4 =>
  match y4 with
  | Sum.inr pv3 => (some (Sum.inr pv3)).bind fun r => some (Sum.inr r)
  | Sum.inl y4 =>
  some (Sum.inl ())).bind fun o => match o with
 | Sum.inr r => some r
 | Sum.inl _ =>
 (idx a0.met a1).bind fun y5 =>
 (idx a0.sizes a1).bind fun y6 =>
 (idx a0.p.Nodes a1).bind fun y7 =>
 (scope_shapeOf_S y7.Op).bind fun y8 =>
 ((ifNil y8).bind fun x1 =>
 bif !x1 then
  (inv_kids y8).bind fun y9 =>
  (scope_want_S (decide ((y7.Kids.length : Int) = y9))).bind fun y10 =>
  match y10 with
  | Sum.inr pv4 => (some (Sum.inr pv4)).bind fun r => some (Sum.inr r)
  | Sum.inl y10 =>
  some (Sum.inl ())
 else
  (scope_want_S false).bind fun y11 =>
  match y11 with
  | Sum.inr pv5 => (some (Sum.inr pv5)).bind fun r => some (Sum.inr r)
  | Sum.inl y11 =>
  some (Sum.inl ())).bind fun o => match o with
 | Sum.inr r => some r
 | Sum.inl _ =>
 ((asTy 168 (.agg #[]) y8).bind fun y12 =>
 match y12 with
 | (u1, x3) =>
 bif x3 then
  if 0 ≤ y7.N then
   (scope_want_S (decide (y7.N < a2))).bind fun y13 =>
   match y13 with
   | Sum.inr pv6 => (some (Sum.inr pv6)).bind fun r => some (Sum.inr r)
   | Sum.inl y13 =>
   some (Sum.inl (min (y7.Args.length : Int) 3))
  else
   (scope_want_S false).bind fun y14 =>
   match y14 with
   | Sum.inr pv7 => (some (Sum.inr pv7)).bind fun r => some (Sum.inr r)
   | Sum.inl y14 =>
   some (Sum.inl (min (y7.Args.length : Int) 3))
 else
  (asTy 169 (.agg #[]) y8).bind fun y15 =>
  match y15 with
  | (u2, x4) =>
  bif x4 then
   if 0 ≤ y7.N then
    (scope_want_S (decide (y7.N < a2))).bind fun y16 =>
    match y16 with
    | Sum.inr pv8 => (some (Sum.inr pv8)).bind fun r => some (Sum.inr r)
    | Sum.inl y16 =>
    some (Sum.inl 0)
   else
    (scope_want_S false).bind fun y17 =>
    match y17 with
    | Sum.inr pv9 => (some (Sum.inr pv9)).bind fun r => some (Sum.inr r)
    | Sum.inl y17 =>
    some (Sum.inl 0)
  else
   (asTy 170 (.agg #[]) y8).bind fun y18 =>
   match y18 with
   | (u3, x5) =>
   bif x5 then
    if 0 ≤ y7.N then
     if y7.N < (a0.p.Defs.length : Int) then
      (idx a0.defs y7.N).bind fun y19 =>
      (scope_want_S (!y19)).bind fun y20 =>
      match y20 with
      | Sum.inr pv10 => (some (Sum.inr pv10)).bind fun r => some (Sum.inr r)
      | Sum.inl y20 =>
      some (Sum.inl 0)
     else
      (scope_want_S false).bind fun y21 =>
      match y21 with
      | Sum.inr pv11 => (some (Sum.inr pv11)).bind fun r => some (Sum.inr r)
      | Sum.inl y21 =>
      some (Sum.inl 0)
    else
     (scope_want_S false).bind fun y22 =>
     match y22 with
     | Sum.inr pv12 => (some (Sum.inr pv12)).bind fun r => some (Sum.inr r)
     | Sum.inl y22 =>
     some (Sum.inl 0)
   else
    (asTy 171 (.agg #[]) y8).bind fun y23 =>
    match y23 with
    | (u4, x6) =>
    bif x6 then
     (scope_want_S (decide (y7.N = 0))).bind fun y24 =>
     match y24 with
     | Sum.inr pv13 => (some (Sum.inr pv13)).bind fun r => some (Sum.inr r)
     | Sum.inl y24 =>
     some (Sum.inl 1)
    else
     (scope_want_S (decide (y7.N = 0))).bind fun y25 =>
     match y25 with
     | Sum.inr pv14 => (some (Sum.inr pv14)).bind fun r => some (Sum.inr r)
     | Sum.inl y25 =>
     some (Sum.inl 0)).bind fun o => match o with
 | Sum.inr r => some r
 | Sum.inl x2 =>
 (scope_want_S (decide ((y7.Args.length : Int) = x2))).bind fun y26 =>
 match y26 with
 | Sum.inr pv15 => some (Sum.inr pv15)
 | Sum.inl y26 =>
 (scope_looker_node_l1 fuel a2 y7 fuel 0).bind fun o => match o with
 | Sum.inr r => some r
 | Sum.inl _ =>
 (if y7.Op = 4 then
  (idx a0.defs y7.N).bind fun y29 =>
  (idx a0.p.Defs y7.N).bind fun y30 =>
  (scope_def_S fuel (⟨y30.Chans, y30.Spots, y30.Rules⟩ : ScopeDef)).bind fun y31 =>
  match y31 with
  | Sum.inr pv17 => (some (Sum.inr pv17)).bind fun r => some (Sum.inr r)
  | Sum.inl y31 =>
  (scope_own_S (⟨y30.Chans, y30.Spots, y30.Rules⟩ : ScopeDef)).bind fun y32 =>
  (chk (a2 + y32)).bind fun z2 =>
  (scope_looker_node_l2 fuel (scope_looker_node_S fuel) y30 z2 fuel 0 a0.p.Free a0.p.Nodes a0.p.Defs a0.p.Main (a0.sizes.set a1.toNat a2) (a0.met.set a1.toNat true) (a0.defs.set y7.N.toNat true)).bind fun o => match o with
  | Sum.inr r => some r
  | Sum.inl (x17, x18, x19, x20, x21, x22, x23) =>
  scope_looker_node_l3 (scope_looker_node_S fuel) y30 z2 fuel 0 x17 x18 x19 x20 x21 x22 x23
 else
  some (Sum.inl (a2, a0.p.Free, a0.p.Nodes, a0.p.Defs, a0.p.Main, a0.sizes.set a1.toNat a2, a0.met.set a1.toNat true, a0.defs))).bind fun o => match o with
 | Sum.inr r => some r
 | Sum.inl (x9, x10, x11, x12, x13, x14, x15, x16) =>
 scope_looker_node_l4 (scope_looker_node_S fuel) y7 x9 fuel 0 x10 x11 x12 x13 x14 x15 x16
theorem scope_looker_node_w : ∀ (fuel : Nat), (∀ (p0 : Nat) (a0 : Scope_looker) (a1 : Int) (a2 : Int) (r : Scope_looker ⊕ Value) (H : scope_looker_node_S fuel a0 a1 a2 = some r), FnE Try.prog 86 [fEq (.pointer (some ⟨p0, 0, none⟩)), fInt .i64 a1, fInt .i64 a2] [own_Scope_looker p0 a0] r (fun r => fTup []) (fun r => [own_Scope_looker p0 r])) := by
 intro fuel
 induction fuel with
 | zero => exact fun p0 a0 a1 a2 r H => (by rw [scope_looker_node_S] at H; cases H)
 | succ fuel ih =>
 have ih_scope_looker_node := ih
 refine ?_
 ·
  intro p0 a0 a1 a2 r H
  rw [scope_looker_node_S] at H
  refine FnE_of Try.func86 rfl Try.ntmps86 rfl (fun β => ?_)
  refine open_Scope_looker (fun v1 v2 v3 => ?_)
  refine T_rowCell 1 rfl (fun hc_v1 => ?_)
  refine T_rowCell 2 rfl (fun hc_v2 => ?_)
  refine T_rowCell 3 rfl (fun hc_v3 => ?_)
  revert H; refine bs fun o1 H Hr1 => ?_
  refine T_seqJ (ι := Unit) (fun i => o1 = Sum.inl ()) (fun i => [(0, fEq (.pointer (some ⟨p0, 0, none⟩))), (1, fInt .i64 a1), (2, fInt .i64 a2)]) (fun i => [tBlk p0 137 [fSl tStr a0.p.Free, fSl tScopeNode a0.p.Nodes, fSl tScopeDef a0.p.Defs, fInt .i64 a0.p.Main, fEq v1, fEq v2, fEq v3], tRow v1 3 (tInt .i64) a0.sizes, tRow v2 4 tBool a0.met, tRow v3 4 tBool a0.defs]) ?_ ?_
  ·
   refine T_region ?_
   refine Ym ?_
   refine Yy (o_geq rfl hh hh) ?_
   refine Ym ?_
   revert H; refine is (fun c1 H => ?_) fun c1 H => ?_
   ·
    refine Yg c1 (o_move rfl hh) ?_
    refine Yg c1 (o_move rfl hh) ?_
    refine Yg c1 (o_nilCheck rfl (has rfl) (fun m v h => ⟨_, h⟩)) ?_
    refine Yg c1 (o_fieldB 0 rfl hh ty_fa_137_0 rfl) ?_
    refine Yg c1 (o_fieldB 1 rfl hh ty_fa_26_1 rfl) ?_
    refine Yh 0 rfl c1 (o_loadB rfl hh ty_sc_23 rfl Ent.rfl) ?_
    refine Yg c1 (o_len rfl hh ty_us_23) ?_
    refine Yg c1 (o_lss rfl hh hh) ?_
    refine Yy (o_pick_t rfl hh c1 hh) ?_
    refine Ym ?_
    revert H; refine is (fun c2 H => ?_) fun c2 H => ?_
    ·
     refine Yg c2 (o_move rfl hh) ?_
     refine Yg c2 (o_nilCheck rfl (has rfl) (fun m v h => ⟨_, h⟩)) ?_
     refine Yg c2 (o_fieldB 5 rfl hh ty_fa_137_2 rfl) ?_
     refine Yh 0 rfl c2 (o_loadB rfl hh ty_sc_119 rfl Ent.rfl) ?_
     refine Yg c2 (o_move rfl hh) ?_
     revert H; refine bs fun y1 h1 H => ?_
     refine Yh 2 rfl c2 (o_indexR rfl hh hh ty_el_119 h1) ?_
     refine Yh 2 rfl c2 (o_loadR rfl rfl hh ty_sc_4 (idx_get h1) rfl) ?_
     refine Yg c2 (o_not rfl hh) ?_
     refine Yy (o_pick_t rfl hh c2 hh) ?_
     revert H; refine bs fun y2 h2 H => ?_
     rcases y2 with y2 | pv1 <;> dsimp only at H
     ·
      refine T_call trivial rfl rfl rfl (has rfl) (HasL.cons (has rfl) HasL.nil) rfl ty_cb_84 (scope_want_w (!y1) (Sum.inl y2) h2).s rfl ?_
      refine Nn ?_
      exact T_meet (()) (Option.some.inj H).symm (Sc (Sc (Sc SubT.nil))) rfl
     ·
      refine T_callP trivial rfl (has rfl) (HasL.cons (has rfl) HasL.nil) rfl ty_cb_84 (scope_want_w (!y1) (Sum.inr pv1) h2).pan rfl ?_
      refine T_then_panic ?_
      revert H; refine bs fun r1 H e1 => ?_
      have e1 := Option.some.inj e1; subst e1; have Hr1 := Option.some.inj Hr1; subst Hr1
      cases H
      exact T_inr
    ·
     refine Yf c2 ?_
     refine Yf c2 ?_
     refine Yf c2 ?_
     refine Yf c2 ?_
     refine Yf c2 ?_
     refine Yf c2 ?_
     refine Yf c2 ?_
     refine Yf c2 ?_
     refine Yy (o_pick_f rfl hh c2 hh) ?_
     revert H; refine bs fun y3 h3 H => ?_
     rcases y3 with y3 | pv2 <;> dsimp only at H
     ·
      refine T_call trivial rfl rfl rfl (has rfl) (HasL.cons (has rfl) HasL.nil) rfl ty_cb_84 (scope_want_w false (Sum.inl y3) h3).s rfl ?_
      refine Nn ?_
      exact T_meet (()) (Option.some.inj H).symm (Sc (Sc (Sc SubT.nil))) rfl
     ·
      refine T_callP trivial rfl (has rfl) (HasL.cons (has rfl) HasL.nil) rfl ty_cb_84 (scope_want_w false (Sum.inr pv2) h3).pan rfl ?_
      refine T_then_panic ?_
      revert H; refine bs fun r2 H e2 => ?_
      have e2 := Option.some.inj e2; subst e2; have Hr1 := Option.some.inj Hr1; subst Hr1
      cases H
      exact T_inr
   ·
    refine Yf c1 ?_
    refine Yf c1 ?_
    refine Yf c1 ?_
    refine Yf c1 ?_
    refine Yf c1 ?_
    refine Yf c1 ?_
    refine Yf c1 ?_
    refine Yf c1 ?_
    refine Yy (o_pick_f rfl hh c1 hh) ?_
    refine Ym ?_
    refine Yd ?_
    refine Yd ?_
    refine Yd ?_
    refine Yd ?_
    refine Yd ?_
    refine Yd ?_
    refine Yd ?_
    refine Yd ?_
    refine Yy (o_pick_f rfl hh rfl hh) ?_
    revert H; refine bs fun y4 h4 H => ?_
    rcases y4 with y4 | pv3 <;> dsimp only at H
    ·
     refine T_call trivial rfl rfl rfl (has rfl) (HasL.cons (has rfl) HasL.nil) rfl ty_cb_84 (scope_want_w false (Sum.inl y4) h4).s rfl ?_
     refine Nn ?_
     exact T_meet (()) (Option.some.inj H).symm (Sc (Sc (Sc SubT.nil))) rfl
    ·
     refine T_callP trivial rfl (has rfl) (HasL.cons (has rfl) HasL.nil) rfl ty_cb_84 (scope_want_w false (Sum.inr pv3) h4).pan rfl ?_
     refine T_then_panic ?_
     revert H; refine bs fun r3 H e3 => ?_
     have e3 := Option.some.inj e3; subst e3; have Hr1 := Option.some.inj Hr1; subst Hr1
     cases H
     exact T_inr
  ·
   clear H; intro i hi; subst o1; have H := Hr1; clear Hr1; try dsimp only at H
   show T β _ _ [(0, fEq (.pointer (some ⟨p0, 0, none⟩))), (1, fInt .i64 a1), (2, fInt .i64 a2)] [tBlk p0 137 [fSl tStr a0.p.Free, fSl tScopeNode a0.p.Nodes, fSl tScopeDef a0.p.Defs, fInt .i64 a0.p.Main, fEq v1, fEq v2, fEq v3], tRow v1 3 (tInt .i64) a0.sizes, tRow v2 4 tBool a0.met, tRow v3 4 tBool a0.defs] _
   refine T_seq ?_
   revert H; refine bs fun y5 h5 H => ?_
   revert H; refine bs fun y6 h6 H => ?_
   refine T_net 15 [fun _ => .op [] false (fun _ => fEq (.pointer (some ⟨p0, 0, none⟩))) (fun _ => []), fun _ => .op [] false (fun _ => fEq (.pointer (some ⟨p0, 0, none⟩))) (fun _ => []), fun _ => .op [] false (fun _ => fEq (.pointer (some ⟨p0, 5, none⟩))) (fun _ => []), fun _ => .op [0] false (fun _ => fEq v2) (fun _ => [tEmp]), fun _ => .op [] false (fun _ => fInt .i64 a1) (fun _ => []), fun _ => .op [] false (fun _ => fEq (.pointer (some ⟨p0, 0, none⟩))) (fun _ => []), fun _ => .op [] false (fun _ => fEq (.pointer (some ⟨p0, 0, none⟩))) (fun _ => []), fun _ => .op [] false (fun _ => fEq (.pointer (some ⟨p0, 4, none⟩))) (fun _ => []), fun _ => .op [0] false (fun _ => fEq v1) (fun _ => [tEmp]), fun _ => .op [] false (fun _ => fInt .i64 a1) (fun _ => []), fun _ => .op [] false (fun _ => fInt .i64 a2) (fun _ => []), fun _ => .op [2] false (fun _ => fRowAt v2 1 a1.toNat 0) (fun _ => [tEmp]), fun _ => .op [2] true (fun _ => fAny) (fun _ => [tRow v2 4 tBool (a0.met.set a1.toNat true)]), fun _ => .op [1] false (fun _ => fRowAt v1 1 a1.toNat 0) (fun _ => [tEmp]), fun _ => .op [1] true (fun _ => fAny) (fun _ => [tRow v1 3 (tInt .i64) (a0.sizes.set a1.toNat a2)])] [([], false, []), ([], false, []), ([], false, []), ([0], false, []), ([], false, []), ([], false, []), ([], false, []), ([], false, []), ([0], false, []), ([], false, []), ([], false, []), ([2], false, []), ([2], true, []), ([1], false, []), ([1], true, [])] 0 4 mixed (F0 (F0 (F0 (F0 (F0 (F0 (F0 (F0 (F0 (F0 (F0 (F0 (F0 (F0 (F0 FitsL.nil))))))))))))))) (by kernel_rfl) rfl rfl (by kernel_rfl) rfl ?_
   dsimp only [netL, List.take, List.replicate, List.append, List.drop]
   refine My (h := o_move rfl hh) (k := fun _ => ?_)
   refine My (h := o_nilCheck rfl (has rfl) (fun m v h => ⟨_, h⟩)) (k := fun _ => ?_)
   refine My (h := o_fieldB 5 rfl hh ty_fa_137_2 rfl) (k := fun _ => ?_)
   refine N_op (ps := [0]) (φ := fEq v2) rfl (fun _ => rfl) trivial rfl rfl (o_loadB rfl (has rfl) ty_sc_119 rfl Ent.rfl) (fun _ => ?_)
   refine My (h := o_move rfl hh) (k := fun _ => ?_)
   refine My (h := o_move rfl hh) (k := fun _ => ?_)
   refine My (h := o_nilCheck rfl (has rfl) (fun m v h => ⟨_, h⟩)) (k := fun _ => ?_)
   refine My (h := o_fieldB 4 rfl hh ty_fa_137_1 rfl) (k := fun _ => ?_)
   refine N_op (ps := [0]) (φ := fEq v1) rfl (fun _ => rfl) trivial rfl rfl (o_loadB rfl (has rfl) ty_sc_46 rfl Ent.rfl) (fun _ => ?_)
   refine My (h := o_move rfl hh) (k := fun _ => ?_)
   refine My (h := o_move rfl hh) (k := fun _ => ?_)
   refine N_op (ps := [2]) (φ := fRowAt v2 1 a1.toNat 0) rfl (fun _ => rfl) trivial rfl rfl (o_indexR rfl (has rfl) (has rfl) ty_el_119 h5) (fun _ => ?_)
   refine N_storeR (p := 2) (z' := true) rfl (fun _ => rfl) (fun _ => rfl) trivial rfl rfl rfl rfl (has rfl) (has rfl) (leaf_eq trivial) ty_sz_4 (idx_get h5) rfl rfl (fun _ => ?_)
   refine N_op (ps := [1]) (φ := fRowAt v1 1 a1.toNat 0) rfl (fun _ => rfl) trivial rfl rfl (o_indexR rfl (has rfl) (has rfl) ty_el_46 h6) (fun _ => ?_)
   refine N_storeR (p := 1) (z' := a2) rfl (fun _ => rfl) (fun _ => rfl) trivial rfl rfl rfl rfl (has rfl) (has rfl) (leaf_eq trivial) ty_sz_3 (idx_get h6) rfl rfl (fun _ => ?_)
   refine N_done rfl ?_
   refine Nn ?_
   refine Sr ?_
   refine Ym ?_
   refine Yy (o_nilCheck rfl (has rfl) (fun m v h => ⟨_, h⟩)) ?_
   refine Yy (o_fieldB 0 rfl hh ty_fa_137_0 rfl) ?_
   refine Yy (o_fieldB 1 rfl hh ty_fa_26_1 rfl) ?_
   refine Yo 0 rfl (o_loadB rfl hh ty_sc_23 rfl Ent.rfl) ?_
   refine Ym ?_
   revert H; refine bs fun y7 h7 H => ?_
   refine Yy (o_index rfl hh hh ty_el_23 h7) ?_
   refine Yy (o_loadS rfl hh ty_ag_56) ?_
   refine T_new trivial rfl rfl (n_alloc rfl ty_ze_56 rfl) (fun b1 => ?_)
   refine T_storeS (φs' := [fInt .i64 y7.Op, fInt .i64 y7.N, fSl tScopeExp y7.Args, fSl (tInt .i64) y7.Kids]) trivial rfl rfl (has rfl) (has rfl) (ll_cons (leaf_eq trivial) (ll_cons (leaf_eq trivial) (ll_cons (leaf_sl) (ll_cons (leaf_sl) ll_nil)))) ty_sz_56 rfl rfl rfl ?_
   refine Nn ?_
   refine Sr ?_
   refine Yy (o_fieldB 0 rfl hh ty_fa_56_0 rfl) ?_
   refine Yo 0 rfl (o_loadB rfl hh ty_sc_53 rfl Ent.rfl) ?_
   revert H; refine bs fun y8 h8 H => ?_
   refine T_call trivial rfl rfl rfl (has rfl) (HasL.cons (has rfl) HasL.nil) rfl ty_cb_94 (scope_shapeOf_w y7.Op y8 h8) rfl ?_
   refine Ya ?_
   refine Nn ?_
   revert H; refine bs fun o2 H Hr2 => ?_
   refine T_seqJ (ι := Unit) (fun i => o2 = Sum.inl ()) (fun i => [(0, fEq (.pointer (some ⟨p0, 0, none⟩))), (2, fInt .i64 a2), (6, fEq (.pointer (some ⟨b1, 0, none⟩))), (7, fRaw y8)]) (fun i => [tBlk b1 56 [fInt .i64 y7.Op, fInt .i64 y7.N, fSl tScopeExp y7.Args, fSl (tInt .i64) y7.Kids], tBlk p0 137 [fSl tStr a0.p.Free, fSl tScopeNode a0.p.Nodes, fSl tScopeDef a0.p.Defs, fInt .i64 a0.p.Main, fEq v1, fEq v2, fEq v3], tRow v1 3 (tInt .i64) (a0.sizes.set a1.toNat a2), tRow v2 4 tBool (a0.met.set a1.toNat true), tRow v3 4 tBool a0.defs]) ?_ ?_
   ·
    revert H; refine bs fun x1 h9 H => ?_
    revert H; refine cs (fun c3 H => ?_) fun c3 H => ?_
    ·
     revert H; refine bs fun y9 h10 H => ?_
     refine T_net 10 [fun _ => .op [] false (fun _ => fRaw y8) (fun _ => []), fun _ => .op [] false (fun _ => fBool (!x1)) (fun _ => []), fun _ => .op [] false (fun _ => fBool (!x1)) (fun _ => []), fun _ => .op [] false (fun _ => fEq (.pointer (some ⟨b1, 3, none⟩))) (fun _ => []), fun _ => .op [0] false (fun _ => fSl (tInt .i64) y7.Kids) (fun _ => [tEmp]), fun _ => .op [] false (fun _ => fInt .i64 (y7.Kids.length : Int)) (fun _ => []), fun _ => .op [] false (fun _ => fRaw y8) (fun _ => []), fun _ => .op [] true (fun _ => fInt .i64 y9) (fun _ => []), fun _ => .op [] false (fun _ => fBool (decide ((y7.Kids.length : Int) = y9))) (fun _ => []), fun _ => .op [] false (fun _ => fBool (decide ((y7.Kids.length : Int) = y9))) (fun _ => [])] [([], false, []), ([], false, []), ([], false, []), ([], false, []), ([0], false, []), ([], false, []), ([], false, []), ([], true, []), ([], false, []), ([], false, [])] 0 5 mixed (F0 (F0 (F0 (F0 (F0 (F0 (F0 (F0 (F0 (F0 FitsL.nil)))))))))) (by kernel_rfl) rfl rfl (by kernel_rfl) rfl ?_
     dsimp only [netL, List.take, List.replicate, List.append, List.drop]
     refine My (h := o_move rfl hh) (k := fun _ => ?_)
     refine My (h := o_neqNilI rfl (hasE rfl ent_ofRaw) ty_un_164 h9) (k := fun _ => ?_)
     refine My (h := o_move rfl hh) (k := fun _ => ?_)
     refine N_y (φ := fEq (.pointer (some ⟨b1, 3, none⟩))) rfl (fun _ => rfl) ⟨_, _, rfl, rfl, c3⟩ rfl (o_fieldB 3 rfl (has rfl) ty_fa_56_3 rfl) (fun _ => ?_)
     refine N_op (ps := [0]) (φ := fSl (tInt .i64) y7.Kids) rfl (fun _ => rfl) ⟨_, _, rfl, rfl, c3⟩ rfl rfl (o_loadB rfl (has rfl) ty_sc_46 rfl Ent.rfl) (fun _ => ?_)
     refine N_y (φ := fInt .i64 (y7.Kids.length : Int)) rfl (fun _ => rfl) ⟨_, _, rfl, rfl, c3⟩ rfl (o_len rfl (has rfl) ty_us_46) (fun _ => ?_)
     refine N_y (φ := fRaw y8) rfl (fun _ => rfl) ⟨_, _, rfl, rfl, c3⟩ rfl (o_move rfl (has rfl)) (fun _ => ?_)
     refine N_callI (Φ := fInt .i64 y9) rfl (fun _ => rfl) ⟨_, _, rfl, rfl, c3⟩ rfl rfl (hasE rfl ent_ofRaw) HasL.nil (inv_kids_w y8 y9 h10) (fun _ => ?_)
     refine N_y (φ := fBool (decide ((y7.Kids.length : Int) = y9))) rfl (fun _ => rfl) ⟨_, _, rfl, rfl, c3⟩ rfl (o_eql rfl (has rfl) (has rfl)) (fun _ => ?_)
     refine My (h := o_pick_t rfl hh c3 hh) (k := fun _ => ?_)
     refine N_done rfl ?_
     revert H; refine bs fun y10 h11 H => ?_
     rcases y10 with y10 | pv4 <;> dsimp only at H
     ·
      refine T_call trivial rfl rfl rfl (has rfl) (HasL.cons (has rfl) HasL.nil) rfl ty_cb_84 (scope_want_w (decide ((y7.Kids.length : Int) = y9)) (Sum.inl y10) h11).s rfl ?_
      refine Nn ?_
      exact T_meet (()) (Option.some.inj H).symm (Sc (Sc (Sc (Sc SubT.nil)))) rfl
     ·
      refine T_callP trivial rfl (has rfl) (HasL.cons (has rfl) HasL.nil) rfl ty_cb_84 (scope_want_w (decide ((y7.Kids.length : Int) = y9)) (Sum.inr pv4) h11).pan rfl ?_
      refine T_then_panic ?_
      revert H; refine bs fun r4 H e4 => ?_
      have e4 := Option.some.inj e4; subst e4; have Hr2 := Option.some.inj Hr2; subst Hr2
      cases H
      exact T_inr
    ·
     refine T_net 10 [fun _ => .op [] false (fun _ => fRaw y8) (fun _ => []), fun _ => .op [] false (fun _ => fBool (!x1)) (fun _ => []), fun _ => .op [] false (fun _ => fBool (!x1)) (fun _ => []), fun _ => .skip, fun _ => .skip, fun _ => .skip, fun _ => .skip, fun _ => .skip, fun _ => .skip, fun _ => .op [] false (fun _ => fBool false) (fun _ => [])] [([], false, []), ([], false, []), ([], false, []), ([], false, []), ([], false, []), ([], false, []), ([], false, []), ([], false, []), ([], false, []), ([], false, [])] 0 5 mixed (F0 (F0 (F0 (F0 (F0 (F0 (F0 (F0 (F0 (F0 FitsL.nil)))))))))) (by kernel_rfl) rfl rfl (by kernel_rfl) rfl ?_
     dsimp only [netL, List.take, List.replicate, List.append, List.drop]
     refine My (h := o_move rfl hh) (k := fun _ => ?_)
     refine My (h := o_neqNilI rfl (hasE rfl ent_ofRaw) ty_un_164 h9) (k := fun _ => ?_)
     refine My (h := o_move rfl hh) (k := fun _ => ?_)
     refine Ms (hc := ne_tf c3) (k := fun _ => ?_)
     refine Ms (hc := ne_tf c3) (k := fun _ => ?_)
     refine Ms (hc := ne_tf c3) (k := fun _ => ?_)
     refine Ms (hc := ne_tf c3) (k := fun _ => ?_)
     refine Ms (hc := ne_tf c3) (k := fun _ => ?_)
     refine Ms (hc := ne_tf c3) (k := fun _ => ?_)
     refine My (h := o_pick_f rfl hh c3 hh) (k := fun _ => ?_)
     refine N_done rfl ?_
     revert H; refine bs fun y11 h12 H => ?_
     rcases y11 with y11 | pv5 <;> dsimp only at H
     ·
      refine T_call trivial rfl rfl rfl (has rfl) (HasL.cons (has rfl) HasL.nil) rfl ty_cb_84 (scope_want_w false (Sum.inl y11) h12).s rfl ?_
      refine Nn ?_
      exact T_meet (()) (Option.some.inj H).symm (Sc (Sc (Sc (Sc SubT.nil)))) rfl
     ·
      refine T_callP trivial rfl (has rfl) (HasL.cons (has rfl) HasL.nil) rfl ty_cb_84 (scope_want_w false (Sum.inr pv5) h12).pan rfl ?_
      refine T_then_panic ?_
      revert H; refine bs fun r5 H e5 => ?_
      have e5 := Option.some.inj e5; subst e5; have Hr2 := Option.some.inj Hr2; subst Hr2
      cases H
      exact T_inr
   ·
    clear H; intro i hi; subst o2; have H := Hr2; clear Hr2; try dsimp only at H
    show T β _ _ [(0, fEq (.pointer (some ⟨p0, 0, none⟩))), (2, fInt .i64 a2), (6, fEq (.pointer (some ⟨b1, 0, none⟩))), (7, fRaw y8)] [tBlk b1 56 [fInt .i64 y7.Op, fInt .i64 y7.N, fSl tScopeExp y7.Args, fSl (tInt .i64) y7.Kids], tBlk p0 137 [fSl tStr a0.p.Free, fSl tScopeNode a0.p.Nodes, fSl tScopeDef a0.p.Defs, fInt .i64 a0.p.Main, fEq v1, fEq v2, fEq v3], tRow v1 3 (tInt .i64) (a0.sizes.set a1.toNat a2), tRow v2 4 tBool (a0.met.set a1.toNat true), tRow v3 4 tBool a0.defs] _
    refine Sr ?_
    refine Ya ?_
    refine Nn ?_
    revert H; refine bs fun o3 H Hr3 => ?_
    refine T_seqJ (ι := Int) (fun i => o3 = Sum.inl i) (fun i => [(0, fEq (.pointer (some ⟨p0, 0, none⟩))), (2, fInt .i64 a2), (6, fEq (.pointer (some ⟨b1, 0, none⟩))), (8, fInt .i64 i)]) (fun i => [tBlk b1 56 [fInt .i64 y7.Op, fInt .i64 y7.N, fSl tScopeExp y7.Args, fSl (tInt .i64) y7.Kids], tBlk p0 137 [fSl tStr a0.p.Free, fSl tScopeNode a0.p.Nodes, fSl tScopeDef a0.p.Defs, fInt .i64 a0.p.Main, fEq v1, fEq v2, fEq v3], tRow v1 3 (tInt .i64) (a0.sizes.set a1.toNat a2), tRow v2 4 tBool (a0.met.set a1.toNat true), tRow v3 4 tBool a0.defs]) ?_ ?_
    ·
     refine Sr ?_
     refine Ym ?_
     refine Nn ?_
     refine T_block ?_
     refine Sr ?_
     revert H; refine bs fun y12 h13 H => ?_
     obtain ⟨u1, x3⟩ := y12; dsimp only at H
     refine Yy (o_typeAssert rfl (hasE rfl ent_ofRaw) ty_ni_168 ty_zb_168 h13) ?_
     refine Yy (o_extract rfl hh rfl) ?_
     refine Yy (o_extract rfl hh rfl) ?_
     refine Nn ?_
     revert H; refine cs (fun c4 H => ?_) fun c4 H => ?_
     ·
      refine T_cond_t (has rfl) c4 ?_
      refine Sr ?_
      refine Yy (o_fieldB 2 rfl hh ty_fa_56_2 rfl) ?_
      refine Yo 0 rfl (o_loadB rfl hh ty_sc_54 rfl Ent.rfl) ?_
      refine Yy (o_len rfl hh ty_us_54) ?_
      refine Yy (o_min rfl hh hh) ?_
      refine Ya ?_
      refine Nn ?_
      refine T_region ?_
      refine Yy (o_fieldB 1 rfl hh ty_fa_56_1 rfl) ?_
      refine Yo 0 rfl (o_loadB rfl hh ty_sc_3 rfl Ent.rfl) ?_
      refine Yy (o_geq rfl hh hh) ?_
      refine Ym ?_
      revert H; refine is (fun c5 H => ?_) fun c5 H => ?_
      ·
       refine Yg c5 (o_fieldB 1 rfl hh ty_fa_56_1 rfl) ?_
       refine Yh 0 rfl c5 (o_loadB rfl hh ty_sc_3 rfl Ent.rfl) ?_
       refine Yg c5 (o_move rfl hh) ?_
       refine Yg c5 (o_lss rfl hh hh) ?_
       refine Yy (o_pick_t rfl hh c5 hh) ?_
       revert H; refine bs fun y13 h14 H => ?_
       rcases y13 with y13 | pv6 <;> dsimp only at H
       ·
        refine T_call trivial rfl rfl rfl (has rfl) (HasL.cons (has rfl) HasL.nil) rfl ty_cb_84 (scope_want_w (decide (y7.N < a2)) (Sum.inl y13) h14).s rfl ?_
        refine T_nil ?_
        refine T_in_n ?_
        refine T_then_n ?_
        exact T_meet (min (y7.Args.length : Int) 3) (Option.some.inj H).symm (Sc (Sc (Sc (Sc SubT.nil)))) rfl
       ·
        refine T_callP trivial rfl (has rfl) (HasL.cons (has rfl) HasL.nil) rfl ty_cb_84 (scope_want_w (decide (y7.N < a2)) (Sum.inr pv6) h14).pan rfl ?_
        refine T_in_panic ?_
        refine T_then_panic ?_
        revert H; refine bs fun r6 H e6 => ?_
        have e6 := Option.some.inj e6; subst e6; have Hr3 := Option.some.inj Hr3; subst Hr3
        cases H
        exact T_inr
      ·
       refine Yf c5 ?_
       refine Yf c5 ?_
       refine Yf c5 ?_
       refine Yf c5 ?_
       refine Yy (o_pick_f rfl hh c5 hh) ?_
       revert H; refine bs fun y14 h15 H => ?_
       rcases y14 with y14 | pv7 <;> dsimp only at H
       ·
        refine T_call trivial rfl rfl rfl (has rfl) (HasL.cons (has rfl) HasL.nil) rfl ty_cb_84 (scope_want_w false (Sum.inl y14) h15).s rfl ?_
        refine T_nil ?_
        refine T_in_n ?_
        refine T_then_n ?_
        exact T_meet (min (y7.Args.length : Int) 3) (Option.some.inj H).symm (Sc (Sc (Sc (Sc SubT.nil)))) rfl
       ·
        refine T_callP trivial rfl (has rfl) (HasL.cons (has rfl) HasL.nil) rfl ty_cb_84 (scope_want_w false (Sum.inr pv7) h15).pan rfl ?_
        refine T_in_panic ?_
        refine T_then_panic ?_
        revert H; refine bs fun r7 H e7 => ?_
        have e7 := Option.some.inj e7; subst e7; have Hr3 := Option.some.inj Hr3; subst Hr3
        cases H
        exact T_inr
     ·
      refine T_cond_f (has rfl) c4 ?_
      refine Sr ?_
      revert H; refine bs fun y15 h16 H => ?_
      obtain ⟨u2, x4⟩ := y15; dsimp only at H
      refine Yy (o_typeAssert rfl (hasE rfl ent_ofRaw) ty_ni_169 ty_zb_169 h16) ?_
      refine Yy (o_extract rfl hh rfl) ?_
      refine Yy (o_extract rfl hh rfl) ?_
      refine Nn ?_
      revert H; refine cs (fun c6 H => ?_) fun c6 H => ?_
      ·
       refine T_cond_t (has rfl) c6 ?_
       refine T_region ?_
       refine Yy (o_fieldB 1 rfl hh ty_fa_56_1 rfl) ?_
       refine Yo 0 rfl (o_loadB rfl hh ty_sc_3 rfl Ent.rfl) ?_
       refine Yy (o_geq rfl hh hh) ?_
       refine Ym ?_
       revert H; refine is (fun c7 H => ?_) fun c7 H => ?_
       ·
        refine Yg c7 (o_fieldB 1 rfl hh ty_fa_56_1 rfl) ?_
        refine Yh 0 rfl c7 (o_loadB rfl hh ty_sc_3 rfl Ent.rfl) ?_
        refine Yg c7 (o_move rfl hh) ?_
        refine Yg c7 (o_lss rfl hh hh) ?_
        refine Yy (o_pick_t rfl hh c7 hh) ?_
        revert H; refine bs fun y16 h17 H => ?_
        rcases y16 with y16 | pv8 <;> dsimp only at H
        ·
         refine T_call trivial rfl rfl rfl (has rfl) (HasL.cons (has rfl) HasL.nil) rfl ty_cb_84 (scope_want_w (decide (y7.N < a2)) (Sum.inl y16) h17).s rfl ?_
         refine T_nil ?_
         refine T_in_n ?_
         refine T_then_n ?_
         exact T_meet (0) (Option.some.inj H).symm (Sc (Sc (Sc (Sc SubT.nil)))) rfl
        ·
         refine T_callP trivial rfl (has rfl) (HasL.cons (has rfl) HasL.nil) rfl ty_cb_84 (scope_want_w (decide (y7.N < a2)) (Sum.inr pv8) h17).pan rfl ?_
         refine T_in_panic ?_
         refine T_then_panic ?_
         revert H; refine bs fun r8 H e8 => ?_
         have e8 := Option.some.inj e8; subst e8; have Hr3 := Option.some.inj Hr3; subst Hr3
         cases H
         exact T_inr
       ·
        refine Yf c7 ?_
        refine Yf c7 ?_
        refine Yf c7 ?_
        refine Yf c7 ?_
        refine Yy (o_pick_f rfl hh c7 hh) ?_
        revert H; refine bs fun y17 h18 H => ?_
        rcases y17 with y17 | pv9 <;> dsimp only at H
        ·
         refine T_call trivial rfl rfl rfl (has rfl) (HasL.cons (has rfl) HasL.nil) rfl ty_cb_84 (scope_want_w false (Sum.inl y17) h18).s rfl ?_
         refine T_nil ?_
         refine T_in_n ?_
         refine T_then_n ?_
         exact T_meet (0) (Option.some.inj H).symm (Sc (Sc (Sc (Sc SubT.nil)))) rfl
        ·
         refine T_callP trivial rfl (has rfl) (HasL.cons (has rfl) HasL.nil) rfl ty_cb_84 (scope_want_w false (Sum.inr pv9) h18).pan rfl ?_
         refine T_in_panic ?_
         refine T_then_panic ?_
         revert H; refine bs fun r9 H e9 => ?_
         have e9 := Option.some.inj e9; subst e9; have Hr3 := Option.some.inj Hr3; subst Hr3
         cases H
         exact T_inr
      ·
       refine T_cond_f (has rfl) c6 ?_
       refine Sr ?_
       revert H; refine bs fun y18 h19 H => ?_
       obtain ⟨u3, x5⟩ := y18; dsimp only at H
       refine Yy (o_typeAssert rfl (hasE rfl ent_ofRaw) ty_ni_170 ty_zb_170 h19) ?_
       refine Yy (o_extract rfl hh rfl) ?_
       refine Yy (o_extract rfl hh rfl) ?_
       refine Nn ?_
       revert H; refine cs (fun c8 H => ?_) fun c8 H => ?_
       ·
        refine T_cond_t (has rfl) c8 ?_
        revert H; refine is (fun c9 H => ?_) fun c9 H => ?_
        ·
         revert H; refine is (fun c10 H => ?_) fun c10 H => ?_
         ·
          revert H; refine bs fun y19 h20 H => ?_
          refine T_net 25 [fun _ => .op [] false (fun _ => fEq (.pointer (some ⟨b1, 1, none⟩))) (fun _ => []), fun _ => .op [0] false (fun _ => fInt .i64 y7.N) (fun _ => [tEmp]), fun _ => .op [] false (fun _ => fBool (decide (0 ≤ y7.N))) (fun _ => []), fun _ => .op [] false (fun _ => fBool (decide (0 ≤ y7.N))) (fun _ => []), fun _ => .op [] false (fun _ => fEq (.pointer (some ⟨b1, 1, none⟩))) (fun _ => []), fun _ => .op [0] false (fun _ => fInt .i64 y7.N) (fun _ => [tEmp]), fun _ => .op [] false (fun _ => fEq (.pointer (some ⟨p0, 0, none⟩))) (fun _ => []), fun _ => .op [] false (fun _ => fEq (.pointer (some ⟨p0, 0, none⟩))) (fun _ => []), fun _ => .op [] false (fun _ => fEq (.pointer (some ⟨p0, 0, none⟩))) (fun _ => []), fun _ => .op [] false (fun _ => fEq (.pointer (some ⟨p0, 2, none⟩))) (fun _ => []), fun _ => .op [1] false (fun _ => fSl tScopeDef a0.p.Defs) (fun _ => [tEmp]), fun _ => .op [] false (fun _ => fInt .i64 (a0.p.Defs.length : Int)) (fun _ => []), fun _ => .op [] false (fun _ => fBool (decide (y7.N < (a0.p.Defs.length : Int)))) (fun _ => []), fun _ => .op [] false (fun _ => fBool (decide (y7.N < (a0.p.Defs.length : Int)))) (fun _ => []), fun _ => .op [] false (fun _ => fBool (decide (y7.N < (a0.p.Defs.length : Int)))) (fun _ => []), fun _ => .op [] false (fun _ => fEq (.pointer (some ⟨p0, 0, none⟩))) (fun _ => []), fun _ => .op [] false (fun _ => fEq (.pointer (some ⟨p0, 0, none⟩))) (fun _ => []), fun _ => .op [] false (fun _ => fEq (.pointer (some ⟨p0, 6, none⟩))) (fun _ => []), fun _ => .op [1] false (fun _ => fEq v3) (fun _ => [tEmp]), fun _ => .op [] false (fun _ => fEq (.pointer (some ⟨b1, 1, none⟩))) (fun _ => []), fun _ => .op [0] false (fun _ => fInt .i64 y7.N) (fun _ => [tEmp]), fun _ => .op [4] false (fun _ => fRowAt v3 1 y7.N.toNat 0) (fun _ => [tEmp]), fun _ => .op [4] false (fun _ => fBool y19) (fun _ => [tEmp]), fun _ => .op [] false (fun _ => fBool (!y19)) (fun _ => []), fun _ => .op [] false (fun _ => fBool (!y19)) (fun _ => [])] [([], false, []), ([0], false, []), ([], false, []), ([], false, []), ([], false, []), ([0], false, []), ([], false, []), ([], false, []), ([], false, []), ([], false, []), ([1], false, []), ([], false, []), ([], false, []), ([], false, []), ([], false, []), ([], false, []), ([], false, []), ([], false, []), ([1], false, []), ([], false, []), ([0], false, []), ([4], false, []), ([4], false, []), ([], false, []), ([], false, [])] 0 5 mixed (F0 (F0 (F0 (F0 (F0 (F0 (F0 (F0 (F0 (F0 (F0 (F0 (F0 (F0 (F0 (F0 (F0 (F0 (F0 (F0 (F0 (F0 (F0 (F0 (F0 FitsL.nil))))))))))))))))))))))))) (by kernel_rfl) rfl rfl (by kernel_rfl) rfl ?_
          dsimp only [netL, List.take, List.replicate, List.append, List.drop]
          refine N_y (φ := fEq (.pointer (some ⟨b1, 1, none⟩))) rfl (fun _ => rfl) trivial rfl (o_fieldB 1 rfl (has rfl) ty_fa_56_1 rfl) (fun _ => ?_)
          refine N_op (ps := [0]) (φ := fInt .i64 y7.N) rfl (fun _ => rfl) trivial rfl rfl (o_loadB rfl (has rfl) ty_sc_3 rfl Ent.rfl) (fun _ => ?_)
          refine My (h := o_geq rfl hh hh) (k := fun _ => ?_)
          refine My (h := o_move rfl hh) (k := fun _ => ?_)
          refine N_y (φ := fEq (.pointer (some ⟨b1, 1, none⟩))) rfl (fun _ => rfl) ⟨_, _, rfl, rfl, c9⟩ rfl (o_fieldB 1 rfl (has rfl) ty_fa_56_1 rfl) (fun _ => ?_)
          refine N_op (ps := [0]) (φ := fInt .i64 y7.N) rfl (fun _ => rfl) ⟨_, _, rfl, rfl, c9⟩ rfl rfl (o_loadB rfl (has rfl) ty_sc_3 rfl Ent.rfl) (fun _ => ?_)
          refine N_y (φ := fEq (.pointer (some ⟨p0, 0, none⟩))) rfl (fun _ => rfl) ⟨_, _, rfl, rfl, c9⟩ rfl (o_move rfl (has rfl)) (fun _ => ?_)
          refine N_y (φ := fEq (.pointer (some ⟨p0, 0, none⟩))) rfl (fun _ => rfl) ⟨_, _, rfl, rfl, c9⟩ rfl (o_nilCheck rfl (has rfl) (fun m v h => ⟨_, h⟩)) (fun _ => ?_)
          refine N_y (φ := fEq (.pointer (some ⟨p0, 0, none⟩))) rfl (fun _ => rfl) ⟨_, _, rfl, rfl, c9⟩ rfl (o_fieldB 0 rfl (has rfl) ty_fa_137_0 rfl) (fun _ => ?_)
          refine N_y (φ := fEq (.pointer (some ⟨p0, 2, none⟩))) rfl (fun _ => rfl) ⟨_, _, rfl, rfl, c9⟩ rfl (o_fieldB 2 rfl (has rfl) ty_fa_26_2 rfl) (fun _ => ?_)
          refine N_op (ps := [1]) (φ := fSl tScopeDef a0.p.Defs) rfl (fun _ => rfl) ⟨_, _, rfl, rfl, c9⟩ rfl rfl (o_loadB rfl (has rfl) ty_sc_24 rfl Ent.rfl) (fun _ => ?_)
          refine N_y (φ := fInt .i64 (a0.p.Defs.length : Int)) rfl (fun _ => rfl) ⟨_, _, rfl, rfl, c9⟩ rfl (o_len rfl (has rfl) ty_us_24) (fun _ => ?_)
          refine N_y (φ := fBool (decide (y7.N < (a0.p.Defs.length : Int)))) rfl (fun _ => rfl) ⟨_, _, rfl, rfl, c9⟩ rfl (o_lss rfl (has rfl) (has rfl)) (fun _ => ?_)
          refine My (h := o_pick_t rfl hh c9 hh) (k := fun _ => ?_)
          refine My (h := o_move rfl hh) (k := fun _ => ?_)
          refine N_y (φ := fEq (.pointer (some ⟨p0, 0, none⟩))) rfl (fun _ => rfl) ⟨_, _, rfl, rfl, c10⟩ rfl (o_move rfl (has rfl)) (fun _ => ?_)
          refine N_y (φ := fEq (.pointer (some ⟨p0, 0, none⟩))) rfl (fun _ => rfl) ⟨_, _, rfl, rfl, c10⟩ rfl (o_nilCheck rfl (has rfl) (fun m v h => ⟨_, h⟩)) (fun _ => ?_)
          refine N_y (φ := fEq (.pointer (some ⟨p0, 6, none⟩))) rfl (fun _ => rfl) ⟨_, _, rfl, rfl, c10⟩ rfl (o_fieldB 6 rfl (has rfl) ty_fa_137_3 rfl) (fun _ => ?_)
          refine N_op (ps := [1]) (φ := fEq v3) rfl (fun _ => rfl) ⟨_, _, rfl, rfl, c10⟩ rfl rfl (o_loadB rfl (has rfl) ty_sc_119 rfl Ent.rfl) (fun _ => ?_)
          refine N_y (φ := fEq (.pointer (some ⟨b1, 1, none⟩))) rfl (fun _ => rfl) ⟨_, _, rfl, rfl, c10⟩ rfl (o_fieldB 1 rfl (has rfl) ty_fa_56_1 rfl) (fun _ => ?_)
          refine N_op (ps := [0]) (φ := fInt .i64 y7.N) rfl (fun _ => rfl) ⟨_, _, rfl, rfl, c10⟩ rfl rfl (o_loadB rfl (has rfl) ty_sc_3 rfl Ent.rfl) (fun _ => ?_)
          refine N_op (ps := [4]) (φ := fRowAt v3 1 y7.N.toNat 0) rfl (fun _ => rfl) ⟨_, _, rfl, rfl, c10⟩ rfl rfl (o_indexR rfl (has rfl) (has rfl) ty_el_119 h20) (fun _ => ?_)
          refine N_op (ps := [4]) (φ := fBool y19) rfl (fun _ => rfl) ⟨_, _, rfl, rfl, c10⟩ rfl rfl (o_loadR rfl rfl (has rfl) ty_sc_4 (idx_get h20) rfl) (fun _ => ?_)
          refine N_y (φ := fBool (!y19)) rfl (fun _ => rfl) ⟨_, _, rfl, rfl, c10⟩ rfl (o_not rfl (has rfl)) (fun _ => ?_)
          refine My (h := o_pick_t rfl hh c10 hh) (k := fun _ => ?_)
          refine N_done rfl ?_
          revert H; refine bs fun y20 h21 H => ?_
          rcases y20 with y20 | pv10 <;> dsimp only at H
          ·
           refine T_call trivial rfl rfl rfl (has rfl) (HasL.cons (has rfl) HasL.nil) rfl ty_cb_84 (scope_want_w (!y19) (Sum.inl y20) h21).s rfl ?_
           refine T_nil ?_
           refine T_in_n ?_
           refine T_then_n ?_
           exact T_meet (0) (Option.some.inj H).symm (Sc (Sc (Sc (Sc SubT.nil)))) rfl
          ·
           refine T_callP trivial rfl (has rfl) (HasL.cons (has rfl) HasL.nil) rfl ty_cb_84 (scope_want_w (!y19) (Sum.inr pv10) h21).pan rfl ?_
           refine T_in_panic ?_
           refine T_then_panic ?_
           revert H; refine bs fun r10 H e10 => ?_
           have e10 := Option.some.inj e10; subst e10; have Hr3 := Option.some.inj Hr3; subst Hr3
           cases H
           exact T_inr
         ·
          refine T_net 25 [fun _ => .op [] false (fun _ => fEq (.pointer (some ⟨b1, 1, none⟩))) (fun _ => []), fun _ => .op [0] false (fun _ => fInt .i64 y7.N) (fun _ => [tEmp]), fun _ => .op [] false (fun _ => fBool (decide (0 ≤ y7.N))) (fun _ => []), fun _ => .op [] false (fun _ => fBool (decide (0 ≤ y7.N))) (fun _ => []), fun _ => .op [] false (fun _ => fEq (.pointer (some ⟨b1, 1, none⟩))) (fun _ => []), fun _ => .op [0] false (fun _ => fInt .i64 y7.N) (fun _ => [tEmp]), fun _ => .op [] false (fun _ => fEq (.pointer (some ⟨p0, 0, none⟩))) (fun _ => []), fun _ => .op [] false (fun _ => fEq (.pointer (some ⟨p0, 0, none⟩))) (fun _ => []), fun _ => .op [] false (fun _ => fEq (.pointer (some ⟨p0, 0, none⟩))) (fun _ => []), fun _ => .op [] false (fun _ => fEq (.pointer (some ⟨p0, 2, none⟩))) (fun _ => []), fun _ => .op [1] false (fun _ => fSl tScopeDef a0.p.Defs) (fun _ => [tEmp]), fun _ => .op [] false (fun _ => fInt .i64 (a0.p.Defs.length : Int)) (fun _ => []), fun _ => .op [] false (fun _ => fBool (decide (y7.N < (a0.p.Defs.length : Int)))) (fun _ => []), fun _ => .op [] false (fun _ => fBool (decide (y7.N < (a0.p.Defs.length : Int)))) (fun _ => []), fun _ => .op [] false (fun _ => fBool (decide (y7.N < (a0.p.Defs.length : Int)))) (fun _ => []), fun _ => .skip, fun _ => .skip, fun _ => .skip, fun _ => .skip, fun _ => .skip, fun _ => .skip, fun _ => .skip, fun _ => .skip, fun _ => .skip, fun _ => .op [] false (fun _ => fBool false) (fun _ => [])] [([], false, []), ([0], false, []), ([], false, []), ([], false, []), ([], false, []), ([0], false, []), ([], false, []), ([], false, []), ([], false, []), ([], false, []), ([1], false, []), ([], false, []), ([], false, []), ([], false, []), ([], false, []), ([], false, []), ([], false, []), ([], false, []), ([], false, []), ([], false, []), ([], false, []), ([], false, []), ([], false, []), ([], false, []), ([], false, [])] 0 5 mixed (F0 (F0 (F0 (F0 (F0 (F0 (F0 (F0 (F0 (F0 (F0 (F0 (F0 (F0 (F0 (F0 (F0 (F0 (F0 (F0 (F0 (F0 (F0 (F0 (F0 FitsL.nil))))))))))))))))))))))))) (by kernel_rfl) rfl rfl (by kernel_rfl) rfl ?_
          dsimp only [netL, List.take, List.replicate, List.append, List.drop]
          refine N_y (φ := fEq (.pointer (some ⟨b1, 1, none⟩))) rfl (fun _ => rfl) trivial rfl (o_fieldB 1 rfl (has rfl) ty_fa_56_1 rfl) (fun _ => ?_)
          refine N_op (ps := [0]) (φ := fInt .i64 y7.N) rfl (fun _ => rfl) trivial rfl rfl (o_loadB rfl (has rfl) ty_sc_3 rfl Ent.rfl) (fun _ => ?_)
          refine My (h := o_geq rfl hh hh) (k := fun _ => ?_)
          refine My (h := o_move rfl hh) (k := fun _ => ?_)
          refine N_y (φ := fEq (.pointer (some ⟨b1, 1, none⟩))) rfl (fun _ => rfl) ⟨_, _, rfl, rfl, c9⟩ rfl (o_fieldB 1 rfl (has rfl) ty_fa_56_1 rfl) (fun _ => ?_)
          refine N_op (ps := [0]) (φ := fInt .i64 y7.N) rfl (fun _ => rfl) ⟨_, _, rfl, rfl, c9⟩ rfl rfl (o_loadB rfl (has rfl) ty_sc_3 rfl Ent.rfl) (fun _ => ?_)
          refine N_y (φ := fEq (.pointer (some ⟨p0, 0, none⟩))) rfl (fun _ => rfl) ⟨_, _, rfl, rfl, c9⟩ rfl (o_move rfl (has rfl)) (fun _ => ?_)
          refine N_y (φ := fEq (.pointer (some ⟨p0, 0, none⟩))) rfl (fun _ => rfl) ⟨_, _, rfl, rfl, c9⟩ rfl (o_nilCheck rfl (has rfl) (fun m v h => ⟨_, h⟩)) (fun _ => ?_)
          refine N_y (φ := fEq (.pointer (some ⟨p0, 0, none⟩))) rfl (fun _ => rfl) ⟨_, _, rfl, rfl, c9⟩ rfl (o_fieldB 0 rfl (has rfl) ty_fa_137_0 rfl) (fun _ => ?_)
          refine N_y (φ := fEq (.pointer (some ⟨p0, 2, none⟩))) rfl (fun _ => rfl) ⟨_, _, rfl, rfl, c9⟩ rfl (o_fieldB 2 rfl (has rfl) ty_fa_26_2 rfl) (fun _ => ?_)
          refine N_op (ps := [1]) (φ := fSl tScopeDef a0.p.Defs) rfl (fun _ => rfl) ⟨_, _, rfl, rfl, c9⟩ rfl rfl (o_loadB rfl (has rfl) ty_sc_24 rfl Ent.rfl) (fun _ => ?_)
          refine N_y (φ := fInt .i64 (a0.p.Defs.length : Int)) rfl (fun _ => rfl) ⟨_, _, rfl, rfl, c9⟩ rfl (o_len rfl (has rfl) ty_us_24) (fun _ => ?_)
          refine N_y (φ := fBool (decide (y7.N < (a0.p.Defs.length : Int)))) rfl (fun _ => rfl) ⟨_, _, rfl, rfl, c9⟩ rfl (o_lss rfl (has rfl) (has rfl)) (fun _ => ?_)
          refine My (h := o_pick_t rfl hh c9 hh) (k := fun _ => ?_)
          refine My (h := o_move rfl hh) (k := fun _ => ?_)
          refine Ms (hc := ne_tf c10) (k := fun _ => ?_)
          refine Ms (hc := ne_tf c10) (k := fun _ => ?_)
          refine Ms (hc := ne_tf c10) (k := fun _ => ?_)
          refine Ms (hc := ne_tf c10) (k := fun _ => ?_)
          refine Ms (hc := ne_tf c10) (k := fun _ => ?_)
          refine Ms (hc := ne_tf c10) (k := fun _ => ?_)
          refine Ms (hc := ne_tf c10) (k := fun _ => ?_)
          refine Ms (hc := ne_tf c10) (k := fun _ => ?_)
          refine Ms (hc := ne_tf c10) (k := fun _ => ?_)
          refine My (h := o_pick_f rfl hh c10 hh) (k := fun _ => ?_)
          refine N_done rfl ?_
          revert H; refine bs fun y21 h22 H => ?_
          rcases y21 with y21 | pv11 <;> dsimp only at H
          ·
           refine T_call trivial rfl rfl rfl (has rfl) (HasL.cons (has rfl) HasL.nil) rfl ty_cb_84 (scope_want_w false (Sum.inl y21) h22).s rfl ?_
           refine T_nil ?_
           refine T_in_n ?_
           refine T_then_n ?_
           exact T_meet (0) (Option.some.inj H).symm (Sc (Sc (Sc (Sc SubT.nil)))) rfl
          ·
           refine T_callP trivial rfl (has rfl) (HasL.cons (has rfl) HasL.nil) rfl ty_cb_84 (scope_want_w false (Sum.inr pv11) h22).pan rfl ?_
           refine T_in_panic ?_
           refine T_then_panic ?_
           revert H; refine bs fun r11 H e11 => ?_
           have e11 := Option.some.inj e11; subst e11; have Hr3 := Option.some.inj Hr3; subst Hr3
           cases H
           exact T_inr
        ·
         refine T_net 25 [fun _ => .op [] false (fun _ => fEq (.pointer (some ⟨b1, 1, none⟩))) (fun _ => []), fun _ => .op [0] false (fun _ => fInt .i64 y7.N) (fun _ => [tEmp]), fun _ => .op [] false (fun _ => fBool (decide (0 ≤ y7.N))) (fun _ => []), fun _ => .op [] false (fun _ => fBool (decide (0 ≤ y7.N))) (fun _ => []), fun _ => .skip, fun _ => .skip, fun _ => .skip, fun _ => .skip, fun _ => .skip, fun _ => .skip, fun _ => .skip, fun _ => .skip, fun _ => .skip, fun _ => .op [] false (fun _ => fBool false) (fun _ => []), fun _ => .op [] false (fun _ => fBool false) (fun _ => []), fun _ => .skip, fun _ => .skip, fun _ => .skip, fun _ => .skip, fun _ => .skip, fun _ => .skip, fun _ => .skip, fun _ => .skip, fun _ => .skip, fun _ => .op [] false (fun _ => fBool false) (fun _ => [])] [([], false, []), ([0], false, []), ([], false, []), ([], false, []), ([], false, []), ([], false, []), ([], false, []), ([], false, []), ([], false, []), ([], false, []), ([], false, []), ([], false, []), ([], false, []), ([], false, []), ([], false, []), ([], false, []), ([], false, []), ([], false, []), ([], false, []), ([], false, []), ([], false, []), ([], false, []), ([], false, []), ([], false, []), ([], false, [])] 0 5 mixed (F0 (F0 (F0 (F0 (F0 (F0 (F0 (F0 (F0 (F0 (F0 (F0 (F0 (F0 (F0 (F0 (F0 (F0 (F0 (F0 (F0 (F0 (F0 (F0 (F0 FitsL.nil))))))))))))))))))))))))) (by kernel_rfl) rfl rfl (by kernel_rfl) rfl ?_
         dsimp only [netL, List.take, List.replicate, List.append, List.drop]
         refine N_y (φ := fEq (.pointer (some ⟨b1, 1, none⟩))) rfl (fun _ => rfl) trivial rfl (o_fieldB 1 rfl (has rfl) ty_fa_56_1 rfl) (fun _ => ?_)
         refine N_op (ps := [0]) (φ := fInt .i64 y7.N) rfl (fun _ => rfl) trivial rfl rfl (o_loadB rfl (has rfl) ty_sc_3 rfl Ent.rfl) (fun _ => ?_)
         refine My (h := o_geq rfl hh hh) (k := fun _ => ?_)
         refine My (h := o_move rfl hh) (k := fun _ => ?_)
         refine Ms (hc := ne_tf c9) (k := fun _ => ?_)
         refine Ms (hc := ne_tf c9) (k := fun _ => ?_)
         refine Ms (hc := ne_tf c9) (k := fun _ => ?_)
         refine Ms (hc := ne_tf c9) (k := fun _ => ?_)
         refine Ms (hc := ne_tf c9) (k := fun _ => ?_)
         refine Ms (hc := ne_tf c9) (k := fun _ => ?_)
         refine Ms (hc := ne_tf c9) (k := fun _ => ?_)
         refine Ms (hc := ne_tf c9) (k := fun _ => ?_)
         refine Ms (hc := ne_tf c9) (k := fun _ => ?_)
         refine My (h := o_pick_f rfl hh c9 hh) (k := fun _ => ?_)
         refine My (h := o_move rfl hh) (k := fun _ => ?_)
         refine Ms (hc := by decide) (k := fun _ => ?_)
         refine Ms (hc := by decide) (k := fun _ => ?_)
         refine Ms (hc := by decide) (k := fun _ => ?_)
         refine Ms (hc := by decide) (k := fun _ => ?_)
         refine Ms (hc := by decide) (k := fun _ => ?_)
         refine Ms (hc := by decide) (k := fun _ => ?_)
         refine Ms (hc := by decide) (k := fun _ => ?_)
         refine Ms (hc := by decide) (k := fun _ => ?_)
         refine Ms (hc := by decide) (k := fun _ => ?_)
         refine My (h := o_pick_f rfl hh rfl hh) (k := fun _ => ?_)
         refine N_done rfl ?_
         revert H; refine bs fun y22 h23 H => ?_
         rcases y22 with y22 | pv12 <;> dsimp only at H
         ·
          refine T_call trivial rfl rfl rfl (has rfl) (HasL.cons (has rfl) HasL.nil) rfl ty_cb_84 (scope_want_w false (Sum.inl y22) h23).s rfl ?_
          refine T_nil ?_
          refine T_in_n ?_
          refine T_then_n ?_
          exact T_meet (0) (Option.some.inj H).symm (Sc (Sc (Sc (Sc SubT.nil)))) rfl
         ·
          refine T_callP trivial rfl (has rfl) (HasL.cons (has rfl) HasL.nil) rfl ty_cb_84 (scope_want_w false (Sum.inr pv12) h23).pan rfl ?_
          refine T_in_panic ?_
          refine T_then_panic ?_
          revert H; refine bs fun r12 H e12 => ?_
          have e12 := Option.some.inj e12; subst e12; have Hr3 := Option.some.inj Hr3; subst Hr3
          cases H
          exact T_inr
       ·
        refine T_cond_f (has rfl) c8 ?_
        refine Sr ?_
        revert H; refine bs fun y23 h24 H => ?_
        obtain ⟨u4, x6⟩ := y23; dsimp only at H
        refine Yy (o_typeAssert rfl (hasE rfl ent_ofRaw) ty_ni_171 ty_zb_171 h24) ?_
        refine Yy (o_extract rfl hh rfl) ?_
        refine Yy (o_extract rfl hh rfl) ?_
        refine Nn ?_
        revert H; refine cs (fun c11 H => ?_) fun c11 H => ?_
        ·
         refine T_cond_t (has rfl) c11 ?_
         refine Sr ?_
         refine Ya ?_
         refine Nn ?_
         refine T_region ?_
         refine Yy (o_fieldB 1 rfl hh ty_fa_56_1 rfl) ?_
         refine Yo 0 rfl (o_loadB rfl hh ty_sc_3 rfl Ent.rfl) ?_
         refine Yy (o_eql rfl hh hh) ?_
         revert H; refine bs fun y24 h25 H => ?_
         rcases y24 with y24 | pv13 <;> dsimp only at H
         ·
          refine T_call trivial rfl rfl rfl (has rfl) (HasL.cons (has rfl) HasL.nil) rfl ty_cb_84 (scope_want_w (decide (y7.N = 0)) (Sum.inl y24) h25).s rfl ?_
          refine T_nil ?_
          refine T_in_n ?_
          refine T_then_n ?_
          exact T_meet (1) (Option.some.inj H).symm (Sc (Sc (Sc (Sc SubT.nil)))) rfl
         ·
          refine T_callP trivial rfl (has rfl) (HasL.cons (has rfl) HasL.nil) rfl ty_cb_84 (scope_want_w (decide (y7.N = 0)) (Sum.inr pv13) h25).pan rfl ?_
          refine T_in_panic ?_
          refine T_then_panic ?_
          revert H; refine bs fun r13 H e13 => ?_
          have e13 := Option.some.inj e13; subst e13; have Hr3 := Option.some.inj Hr3; subst Hr3
          cases H
          exact T_inr
        ·
         refine T_cond_f (has rfl) c11 ?_
         refine T_region ?_
         refine Yy (o_fieldB 1 rfl hh ty_fa_56_1 rfl) ?_
         refine Yo 0 rfl (o_loadB rfl hh ty_sc_3 rfl Ent.rfl) ?_
         refine Yy (o_eql rfl hh hh) ?_
         revert H; refine bs fun y25 h26 H => ?_
         rcases y25 with y25 | pv14 <;> dsimp only at H
         ·
          refine T_call trivial rfl rfl rfl (has rfl) (HasL.cons (has rfl) HasL.nil) rfl ty_cb_84 (scope_want_w (decide (y7.N = 0)) (Sum.inl y25) h26).s rfl ?_
          refine T_nil ?_
          refine T_in_n ?_
          refine T_then_n ?_
          exact T_meet (0) (Option.some.inj H).symm (Sc (Sc (Sc (Sc SubT.nil)))) rfl
         ·
          refine T_callP trivial rfl (has rfl) (HasL.cons (has rfl) HasL.nil) rfl ty_cb_84 (scope_want_w (decide (y7.N = 0)) (Sum.inr pv14) h26).pan rfl ?_
          refine T_in_panic ?_
          refine T_then_panic ?_
          revert H; refine bs fun r14 H e14 => ?_
          have e14 := Option.some.inj e14; subst e14; have Hr3 := Option.some.inj Hr3; subst Hr3
          cases H
          exact T_inr
    ·
     clear H; intro x2 hi; subst o3; have H := Hr3; clear Hr3; try dsimp only at H
     show T β _ _ [(0, fEq (.pointer (some ⟨p0, 0, none⟩))), (2, fInt .i64 a2), (6, fEq (.pointer (some ⟨b1, 0, none⟩))), (8, fInt .i64 x2)] [tBlk b1 56 [fInt .i64 y7.Op, fInt .i64 y7.N, fSl tScopeExp y7.Args, fSl (tInt .i64) y7.Kids], tBlk p0 137 [fSl tStr a0.p.Free, fSl tScopeNode a0.p.Nodes, fSl tScopeDef a0.p.Defs, fInt .i64 a0.p.Main, fEq v1, fEq v2, fEq v3], tRow v1 3 (tInt .i64) (a0.sizes.set a1.toNat a2), tRow v2 4 tBool (a0.met.set a1.toNat true), tRow v3 4 tBool a0.defs] _
     refine Sr ?_
     refine Yy (o_fieldB 2 rfl hh ty_fa_56_2 rfl) ?_
     refine Yo 0 rfl (o_loadB rfl hh ty_sc_54 rfl Ent.rfl) ?_
     refine Yy (o_len rfl hh ty_us_54) ?_
     refine Ym ?_
     refine Yy (o_eql rfl hh hh) ?_
     revert H; refine bs fun y26 h27 H => ?_
     rcases y26 with y26 | pv15 <;> dsimp only at H
     ·
      refine T_call trivial rfl rfl rfl (has rfl) (HasL.cons (has rfl) HasL.nil) rfl ty_cb_84 (scope_want_w (decide ((y7.Args.length : Int) = x2)) (Sum.inl y26) h27).s rfl ?_
      refine Nn ?_
      revert H; refine bs fun o4 H Hr4 => ?_
      refine T_seqJ (ι := Unit) (fun i => o4 = Sum.inl ()) (fun i => [(0, fEq (.pointer (some ⟨p0, 0, none⟩))), (2, fInt .i64 a2), (6, fEq (.pointer (some ⟨b1, 0, none⟩)))]) (fun i => [tBlk b1 56 [fInt .i64 y7.Op, fInt .i64 y7.N, fSl tScopeExp y7.Args, fSl (tInt .i64) y7.Kids], tBlk p0 137 [fSl tStr a0.p.Free, fSl tScopeNode a0.p.Nodes, fSl tScopeDef a0.p.Defs, fInt .i64 a0.p.Main, fEq v1, fEq v2, fEq v3], tRow v1 3 (tInt .i64) (a0.sizes.set a1.toNat a2), tRow v2 4 tBool (a0.met.set a1.toNat true), tRow v3 4 tBool a0.defs]) ?_ ?_
      ·
       refine Sr ?_
       refine Yy (o_fieldB 2 rfl hh ty_fa_56_2 rfl) ?_
       refine Yo 0 rfl (o_loadB rfl hh ty_sc_54 rfl Ent.rfl) ?_
       refine Yy (o_len rfl hh ty_us_54) ?_
       refine Ym ?_
       refine Nn ?_
       refine T_block ?_
       refine T_loop (ι := Nat × Int) (fun i => scope_looker_node_l1 fuel a2 y7 i.1 i.2 = _) (fun i => i.1) (fun i => [(0, fEq (.pointer (some ⟨p0, 0, none⟩))), (2, fInt .i64 a2), (6, fEq (.pointer (some ⟨b1, 0, none⟩))), (154, fSl tScopeExp y7.Args), (155, fInt .i64 (y7.Args.length : Int)), (156, fInt .i64 i.2)]) (fun i => [tBlk b1 56 [fInt .i64 y7.Op, fInt .i64 y7.N, fSl tScopeExp y7.Args, fSl (tInt .i64) y7.Kids], tBlk p0 137 [fSl tStr a0.p.Free, fSl tScopeNode a0.p.Nodes, fSl tScopeDef a0.p.Defs, fInt .i64 a0.p.Main, fEq v1, fEq v2, fEq v3], tRow v1 3 (tInt .i64) (a0.sizes.set a1.toNat a2), tRow v2 4 tBool (a0.met.set a1.toNat true), tRow v3 4 tBool a0.defs]) (fuel, 0) H (Sc (Sc (Sc (Sc (Sc (Sc SubT.nil)))))) rfl ?_
       clear H; rintro ⟨k1, x8⟩ H
       replace H : scope_looker_node_l1 fuel a2 y7 k1 x8 = _ := H
       show T β _ _ [(0, fEq (.pointer (some ⟨p0, 0, none⟩))), (2, fInt .i64 a2), (6, fEq (.pointer (some ⟨b1, 0, none⟩))), (154, fSl tScopeExp y7.Args), (155, fInt .i64 (y7.Args.length : Int)), (156, fInt .i64 x8)] [tBlk b1 56 [fInt .i64 y7.Op, fInt .i64 y7.N, fSl tScopeExp y7.Args, fSl (tInt .i64) y7.Kids], tBlk p0 137 [fSl tStr a0.p.Free, fSl tScopeNode a0.p.Nodes, fSl tScopeDef a0.p.Defs, fInt .i64 a0.p.Main, fEq v1, fEq v2, fEq v3], tRow v1 3 (tInt .i64) (a0.sizes.set a1.toNat a2), tRow v2 4 tBool (a0.met.set a1.toNat true), tRow v3 4 tBool a0.defs] _
       obtain _ | k1 := k1
       ·
        rw [scope_looker_node_l1] at H; cases H
       rw [scope_looker_node_l1] at H
       refine Sr ?_
       refine Yy (o_lss rfl hh hh) ?_
       refine Nn ?_
       refine T_seq ?_
       revert H; refine is (fun c12 H => ?_) fun c12 H => ?_
       ·
        refine T_cond_t (has rfl) c12 ?_
        refine T_skip ?_
        refine T_then_n ?_
        refine T_seq ?_
        refine T_block ?_
        refine Sr ?_
        revert H; refine bs fun y27 h28 H => ?_
        refine Yy (o_index rfl hh hh ty_el_54 h28) ?_
        refine Yy (o_loadS rfl hh ty_ag_94) ?_
        refine T_new trivial rfl rfl (n_alloc rfl ty_ze_94 rfl) (fun b2 => ?_)
        refine T_storeS (φs' := [fInt .i64 y27.Op, fInt .i64 y27.N, fScopeExps y27.Kids]) trivial rfl rfl (has rfl) (has rfl) (ll_cons (leaf_eq trivial) (ll_cons (leaf_eq trivial) (ll_cons (leaf_ScopeExps) ll_nil))) ty_sz_94 rfl rfl rfl ?_
        refine Nn ?_
        refine T_region ?_
        refine Yo 0 rfl (o_loadBS rfl hh ty_ag_94 rfl rfl) ?_
        refine Ym ?_
        revert H; refine bs fun y28 h29 H => ?_
        rcases y28 with y28 | pv16 <;> dsimp only at H
        ·
         refine T_call trivial rfl rfl rfl (has rfl) (HasL.cons (has rfl) (HasL.cons (has rfl) HasL.nil)) rfl ty_cb_95 (scope_exp_w fuel (⟨y27.Op, y27.N, y27.Kids⟩ : ScopeExp) a2 (Sum.inl y28) h29).s rfl ?_
         refine T_nil ?_
         refine T_in_n ?_
         refine T_then_n ?_
         refine T_region ?_
         revert H; refine bs fun z1 h30 H => ?_
         refine Yy (o_add rfl hh hh h30) ?_
         refine Ym ?_
         refine Nn ?_
         refine T_pick [1, 2, 3, 4, 5] (by decide) ?_
         exact T_meet ((k1, z1)) ⟨H, Nat.lt_succ_self _⟩ (Sc (Sc (Sc (Sc (Sc (Sc SubT.nil)))))) rfl
        ·
         refine T_callP trivial rfl (has rfl) (HasL.cons (has rfl) (HasL.cons (has rfl) HasL.nil)) rfl ty_cb_95 (scope_exp_w fuel (⟨y27.Op, y27.N, y27.Kids⟩ : ScopeExp) a2 (Sum.inr pv16) h29).pan rfl ?_
         refine T_in_panic ?_
         refine T_then_panic ?_
         refine T_then_panic ?_
         refine T_in_panic ?_
         refine T_then_panic ?_
         revert H; refine bs fun r15 H e15 => ?_
         have e15 := Option.some.inj e15; subst e15; have Hr4 := Option.some.inj Hr4; subst Hr4
         cases H
         exact T_inr
       ·
        refine T_cond_f (has rfl) c12 ?_
        refine T_exit ?_
        refine T_then_exit ?_
        refine T_then_exit ?_
        refine T_in_hit ?_
        refine T_then_n ?_
        exact T_meet (()) (Option.some.inj H).symm (Sc (Sc (Sc SubT.nil))) rfl
      ·
       clear H; intro i hi; subst o4; have H := Hr4; clear Hr4; try dsimp only at H
       show T β _ _ [(0, fEq (.pointer (some ⟨p0, 0, none⟩))), (2, fInt .i64 a2), (6, fEq (.pointer (some ⟨b1, 0, none⟩)))] [tBlk b1 56 [fInt .i64 y7.Op, fInt .i64 y7.N, fSl tScopeExp y7.Args, fSl (tInt .i64) y7.Kids], tBlk p0 137 [fSl tStr a0.p.Free, fSl tScopeNode a0.p.Nodes, fSl tScopeDef a0.p.Defs, fInt .i64 a0.p.Main, fEq v1, fEq v2, fEq v3], tRow v1 3 (tInt .i64) (a0.sizes.set a1.toNat a2), tRow v2 4 tBool (a0.met.set a1.toNat true), tRow v3 4 tBool a0.defs] _
       revert H; refine bs fun o5 H Hr5 => ?_
       refine T_seqJ (ι := Int × List ByteArray × List ScopeNode × List ScopeDef × Int × List Int × List Bool × List Bool × Value × Value × Value) (fun i => o5 = Sum.inl (i.1, i.2.1, i.2.2.1, i.2.2.2.1, i.2.2.2.2.1, i.2.2.2.2.2.1, i.2.2.2.2.2.2.1, i.2.2.2.2.2.2.2.1)) (fun i => [(0, fEq (.pointer (some ⟨p0, 0, none⟩))), (2, fInt .i64 i.1), (6, fEq (.pointer (some ⟨b1, 0, none⟩)))]) (fun i => [tBlk b1 56 [fInt .i64 y7.Op, fInt .i64 y7.N, fSl tScopeExp y7.Args, fSl (tInt .i64) y7.Kids], tBlk p0 137 [fSl tStr i.2.1, fSl tScopeNode i.2.2.1, fSl tScopeDef i.2.2.2.1, fInt .i64 i.2.2.2.2.1, fEq i.2.2.2.2.2.2.2.2.1, fEq i.2.2.2.2.2.2.2.2.2.1, fEq i.2.2.2.2.2.2.2.2.2.2], tRow i.2.2.2.2.2.2.2.2.1 3 (tInt .i64) i.2.2.2.2.2.1, tRow i.2.2.2.2.2.2.2.2.2.1 4 tBool i.2.2.2.2.2.2.1, tRow i.2.2.2.2.2.2.2.2.2.2 4 tBool i.2.2.2.2.2.2.2.1]) ?_ ?_
       ·
        refine Sr ?_
        refine Yy (o_fieldB 0 rfl hh ty_fa_56_0 rfl) ?_
        refine Yo 0 rfl (o_loadB rfl hh ty_sc_53 rfl Ent.rfl) ?_
        refine Yy (o_eql rfl hh hh) ?_
        refine Nn ?_
        revert H; refine is (fun c13 H => ?_) fun c13 H => ?_
        ·
         refine T_cond_t (has rfl) c13 ?_
         refine T_seq ?_
         revert H; refine bs fun y29 h31 H => ?_
         refine T_net 8 [fun _ => .op [] false (fun _ => fEq (.pointer (some ⟨p0, 0, none⟩))) (fun _ => []), fun _ => .op [] false (fun _ => fEq (.pointer (some ⟨p0, 0, none⟩))) (fun _ => []), fun _ => .op [] false (fun _ => fEq (.pointer (some ⟨p0, 6, none⟩))) (fun _ => []), fun _ => .op [1] false (fun _ => fEq v3) (fun _ => [tEmp]), fun _ => .op [] false (fun _ => fEq (.pointer (some ⟨b1, 1, none⟩))) (fun _ => []), fun _ => .op [0] false (fun _ => fInt .i64 y7.N) (fun _ => [tEmp]), fun _ => .op [4] false (fun _ => fRowAt v3 1 y7.N.toNat 0) (fun _ => [tEmp]), fun _ => .op [4] true (fun _ => fAny) (fun _ => [tRow v3 4 tBool (a0.defs.set y7.N.toNat true)])] [([], false, []), ([], false, []), ([], false, []), ([1], false, []), ([], false, []), ([0], false, []), ([4], false, []), ([4], true, [])] 0 5 mixed (F0 (F0 (F0 (F0 (F0 (F0 (F0 (F0 FitsL.nil)))))))) (by kernel_rfl) rfl rfl (by kernel_rfl) rfl ?_
         dsimp only [netL, List.take, List.replicate, List.append, List.drop]
         refine My (h := o_move rfl hh) (k := fun _ => ?_)
         refine My (h := o_nilCheck rfl (has rfl) (fun m v h => ⟨_, h⟩)) (k := fun _ => ?_)
         refine My (h := o_fieldB 6 rfl hh ty_fa_137_3 rfl) (k := fun _ => ?_)
         refine N_op (ps := [1]) (φ := fEq v3) rfl (fun _ => rfl) trivial rfl rfl (o_loadB rfl (has rfl) ty_sc_119 rfl Ent.rfl) (fun _ => ?_)
         refine N_y (φ := fEq (.pointer (some ⟨b1, 1, none⟩))) rfl (fun _ => rfl) trivial rfl (o_fieldB 1 rfl (has rfl) ty_fa_56_1 rfl) (fun _ => ?_)
         refine N_op (ps := [0]) (φ := fInt .i64 y7.N) rfl (fun _ => rfl) trivial rfl rfl (o_loadB rfl (has rfl) ty_sc_3 rfl Ent.rfl) (fun _ => ?_)
         refine N_op (ps := [4]) (φ := fRowAt v3 1 y7.N.toNat 0) rfl (fun _ => rfl) trivial rfl rfl (o_indexR rfl (has rfl) (has rfl) ty_el_119 h31) (fun _ => ?_)
         refine N_storeR (p := 4) (z' := true) rfl (fun _ => rfl) (fun _ => rfl) trivial rfl rfl rfl rfl (has rfl) (has rfl) (leaf_eq trivial) ty_sz_4 (idx_get h31) rfl rfl (fun _ => ?_)
         refine N_done rfl ?_
         refine Nn ?_
         refine T_seq ?_
         revert H; refine bs fun y30 h32 H => ?_
         refine T_net 11 [fun _ => .op [] false (fun _ => fEq (.pointer (some ⟨p0, 0, none⟩))) (fun _ => []), fun _ => .op [] false (fun _ => fEq (.pointer (some ⟨p0, 0, none⟩))) (fun _ => []), fun _ => .op [] false (fun _ => fEq (.pointer (some ⟨p0, 0, none⟩))) (fun _ => []), fun _ => .op [] false (fun _ => fEq (.pointer (some ⟨p0, 2, none⟩))) (fun _ => []), fun _ => .op [1] false (fun _ => fSl tScopeDef a0.p.Defs) (fun _ => [tEmp]), fun _ => .op [] false (fun _ => fEq (.pointer (some ⟨b1, 1, none⟩))) (fun _ => []), fun _ => .op [0] false (fun _ => fInt .i64 y7.N) (fun _ => [tEmp]), fun _ => .op [] false (fun _ => fPtr tScopeDef y30) (fun _ => []), fun _ => .op [] false (fun _ => fSt tScopeDef y30) (fun _ => []), fun _ => .op [5] true (fun c => fEq (ptr c.n)) (fun c => [tBlk c.n 52 [fEq (.slice none 0 0), fEq (.slice none 0 0), fEq (.slice none 0 0)]]), fun e => .op [5] true (fun _ => fAny) (fun _ => [tBlk (e 9).n 52 [fSl tScopeChan y30.Chans, fSl tScopeSpot y30.Spots, fSl tScopeRule y30.Rules]])] [([], false, []), ([], false, []), ([], false, []), ([], false, []), ([1], false, []), ([], false, []), ([0], false, []), ([], false, []), ([], false, []), ([5], true, []), ([5], true, [9])] 1 6 mixed (F0 (F0 (F0 (F0 (F0 (F0 (F0 (F0 (F0 (F0 (FitsL.cons (fits1 (i := 9) (od := fun c9 => .op [5] true (fun _ => fAny) (fun _ => [tBlk c9.n 52 [fSl tScopeChan y30.Chans, fSl tScopeSpot y30.Spots, fSl tScopeRule y30.Rules]])) (fun _ => ⟨rfl, rfl⟩)) FitsL.nil))))))))))) (by kernel_rfl) rfl rfl (by kernel_rfl) rfl ?_
         dsimp only [netL, List.take, List.replicate, List.append, List.drop]
         refine My (h := o_move rfl hh) (k := fun _ => ?_)
         refine My (h := o_nilCheck rfl (has rfl) (fun m v h => ⟨_, h⟩)) (k := fun _ => ?_)
         refine My (h := o_fieldB 0 rfl hh ty_fa_137_0 rfl) (k := fun _ => ?_)
         refine My (h := o_fieldB 2 rfl hh ty_fa_26_2 rfl) (k := fun _ => ?_)
         refine N_op (ps := [1]) (φ := fSl tScopeDef a0.p.Defs) rfl (fun _ => rfl) trivial rfl rfl (o_loadB rfl (has rfl) ty_sc_24 rfl Ent.rfl) (fun _ => ?_)
         refine N_y (φ := fEq (.pointer (some ⟨b1, 1, none⟩))) rfl (fun _ => rfl) trivial rfl (o_fieldB 1 rfl (has rfl) ty_fa_56_1 rfl) (fun _ => ?_)
         refine N_op (ps := [0]) (φ := fInt .i64 y7.N) rfl (fun _ => rfl) trivial rfl rfl (o_loadB rfl (has rfl) ty_sc_3 rfl Ent.rfl) (fun _ => ?_)
         refine My (h := o_index rfl hh hh ty_el_24 h32) (k := fun _ => ?_)
         refine My (h := o_loadS rfl hh ty_ag_52) (k := fun _ => ?_)
         refine N_new (p := 5) (f := fun b3 => ptr b3) (τ := fun b3 => tBlk b3 52 [fEq (.slice none 0 0), fEq (.slice none 0 0), fEq (.slice none 0 0)]) rfl (fun _ => rfl) (fun _ => rfl) trivial rfl rfl (n_alloc rfl ty_ze_52 rfl) (fun b3 u5 => ?_)
         refine N_storeS (p := 5) (φs' := [fSl tScopeChan y30.Chans, fSl tScopeSpot y30.Spots, fSl tScopeRule y30.Rules]) rfl (fun _ => rfl) (fun _ => rfl) trivial rfl rfl rfl (has rfl) (has rfl) (ll_cons (leaf_sl) (ll_cons (leaf_sl) (ll_cons (leaf_sl) ll_nil))) ty_sz_52 rfl rfl rfl (fun _ => ?_)
         refine N_done rfl ?_
         refine Nn ?_
         refine Sr ?_
         refine Yo 5 rfl (o_loadBS rfl hh ty_ag_52 rfl rfl) ?_
         revert H; refine bs fun y31 h33 H => ?_
         rcases y31 with y31 | pv17 <;> dsimp only at H
         ·
          refine T_call trivial rfl rfl rfl (has rfl) (HasL.cons (has rfl) HasL.nil) rfl ty_cb_96 (scope_def_w fuel (⟨y30.Chans, y30.Spots, y30.Rules⟩ : ScopeDef) (Sum.inl y31) h33).s rfl ?_
          refine Nn ?_
          refine Sr ?_
          refine Ym ?_
          refine Yo 5 rfl (o_loadBS rfl hh ty_ag_52 rfl rfl) ?_
          revert H; refine bs fun y32 h34 H => ?_
          refine T_call trivial rfl rfl rfl (has rfl) (HasL.cons (has rfl) HasL.nil) rfl ty_cb_97 (scope_own_w (⟨y30.Chans, y30.Spots, y30.Rules⟩ : ScopeDef) y32 h34) rfl ?_
          revert H; refine bs fun z2 h35 H => ?_
          refine Yy (o_add rfl hh hh h35) ?_
          refine Ya ?_
          refine Nn ?_
          revert H; refine bs fun o6 H Hr6 => ?_
          refine T_seqJ (ι := List ByteArray × List ScopeNode × List ScopeDef × Int × List Int × List Bool × List Bool × Value × Value × Value) (fun i => o6 = Sum.inl (i.1, i.2.1, i.2.2.1, i.2.2.2.1, i.2.2.2.2.1, i.2.2.2.2.2.1, i.2.2.2.2.2.2.1)) (fun i => [(0, fEq (.pointer (some ⟨p0, 0, none⟩))), (2, fInt .i64 z2), (6, fEq (.pointer (some ⟨b1, 0, none⟩))), (11, fEq (.pointer (some ⟨b3, 0, none⟩)))]) (fun i => [tBlk b1 56 [fInt .i64 y7.Op, fInt .i64 y7.N, fSl tScopeExp y7.Args, fSl (tInt .i64) y7.Kids], tBlk p0 137 [fSl tStr i.1, fSl tScopeNode i.2.1, fSl tScopeDef i.2.2.1, fInt .i64 i.2.2.2.1, fEq i.2.2.2.2.2.2.2.1, fEq i.2.2.2.2.2.2.2.2.1, fEq i.2.2.2.2.2.2.2.2.2], tBlk b3 52 [fSl tScopeChan y30.Chans, fSl tScopeSpot y30.Spots, fSl tScopeRule y30.Rules], tRow i.2.2.2.2.2.2.2.1 3 (tInt .i64) i.2.2.2.2.1, tRow i.2.2.2.2.2.2.2.2.1 4 tBool i.2.2.2.2.2.1, tRow i.2.2.2.2.2.2.2.2.2 4 tBool i.2.2.2.2.2.2.1]) ?_ ?_
          ·
           refine Sr ?_
           refine Yy (o_fieldB 2 rfl hh ty_fa_52_2 rfl) ?_
           refine Yo 5 rfl (o_loadB rfl hh ty_sc_49 rfl Ent.rfl) ?_
           refine Yy (o_len rfl hh ty_us_49) ?_
           refine Ym ?_
           refine Nn ?_
           refine T_block ?_
           refine T_pick [0, 1, 5, 2, 3, 4] (by decide) ?_
           refine T_loop (ι := Nat × Int × List ByteArray × List ScopeNode × List ScopeDef × Int × List Int × List Bool × List Bool × Value × Value × Value) (fun i => scope_looker_node_l2 fuel (scope_looker_node_S fuel) y30 z2 i.1 i.2.1 i.2.2.1 i.2.2.2.1 i.2.2.2.2.1 i.2.2.2.2.2.1 i.2.2.2.2.2.2.1 i.2.2.2.2.2.2.2.1 i.2.2.2.2.2.2.2.2.1 = _) (fun i => i.1) (fun i => [(0, fEq (.pointer (some ⟨p0, 0, none⟩))), (2, fInt .i64 z2), (6, fEq (.pointer (some ⟨b1, 0, none⟩))), (11, fEq (.pointer (some ⟨b3, 0, none⟩))), (190, fSl tScopeRule y30.Rules), (191, fInt .i64 (y30.Rules.length : Int)), (192, fInt .i64 i.2.1)]) (fun i => [tBlk b1 56 [fInt .i64 y7.Op, fInt .i64 y7.N, fSl tScopeExp y7.Args, fSl (tInt .i64) y7.Kids], tBlk p0 137 [fSl tStr i.2.2.1, fSl tScopeNode i.2.2.2.1, fSl tScopeDef i.2.2.2.2.1, fInt .i64 i.2.2.2.2.2.1, fEq i.2.2.2.2.2.2.2.2.2.1, fEq i.2.2.2.2.2.2.2.2.2.2.1, fEq i.2.2.2.2.2.2.2.2.2.2.2], tBlk b3 52 [fSl tScopeChan y30.Chans, fSl tScopeSpot y30.Spots, fSl tScopeRule y30.Rules], tRow i.2.2.2.2.2.2.2.2.2.1 3 (tInt .i64) i.2.2.2.2.2.2.1, tRow i.2.2.2.2.2.2.2.2.2.2.1 4 tBool i.2.2.2.2.2.2.2.1, tRow i.2.2.2.2.2.2.2.2.2.2.2 4 tBool i.2.2.2.2.2.2.2.2.1]) (fuel, 0, a0.p.Free, a0.p.Nodes, a0.p.Defs, a0.p.Main, a0.sizes.set a1.toNat a2, a0.met.set a1.toNat true, a0.defs.set y7.N.toNat true, v1, v2, v3) H (Sc (Sc (Sc (Sc (Sc (Sc (Sc SubT.nil))))))) rfl ?_
           clear H; rintro ⟨k2, x32, x33, x34, x35, x36, x37, x38, x39, v13, v14, v15⟩ H
           replace H : scope_looker_node_l2 fuel (scope_looker_node_S fuel) y30 z2 k2 x32 x33 x34 x35 x36 x37 x38 x39 = _ := H
           show T β _ _ [(0, fEq (.pointer (some ⟨p0, 0, none⟩))), (2, fInt .i64 z2), (6, fEq (.pointer (some ⟨b1, 0, none⟩))), (11, fEq (.pointer (some ⟨b3, 0, none⟩))), (190, fSl tScopeRule y30.Rules), (191, fInt .i64 (y30.Rules.length : Int)), (192, fInt .i64 x32)] [tBlk b1 56 [fInt .i64 y7.Op, fInt .i64 y7.N, fSl tScopeExp y7.Args, fSl (tInt .i64) y7.Kids], tBlk p0 137 [fSl tStr x33, fSl tScopeNode x34, fSl tScopeDef x35, fInt .i64 x36, fEq v13, fEq v14, fEq v15], tBlk b3 52 [fSl tScopeChan y30.Chans, fSl tScopeSpot y30.Spots, fSl tScopeRule y30.Rules], tRow v13 3 (tInt .i64) x37, tRow v14 4 tBool x38, tRow v15 4 tBool x39] _
           obtain _ | k2 := k2
           ·
            rw [scope_looker_node_l2] at H; cases H
           rw [scope_looker_node_l2] at H
           refine T_rowCell 3 rfl (fun hc_v13 => ?_)
           refine T_rowCell 4 rfl (fun hc_v14 => ?_)
           refine T_rowCell 5 rfl (fun hc_v15 => ?_)
           refine Sr ?_
           refine Yy (o_lss rfl hh hh) ?_
           refine Nn ?_
           refine T_seq ?_
           revert H; refine is (fun c14 H => ?_) fun c14 H => ?_
           ·
            refine T_cond_t (has rfl) c14 ?_
            refine T_skip ?_
            refine T_then_n ?_
            refine T_seq ?_
            refine T_block ?_
            refine Sr ?_
            revert H; refine bs fun y33 h36 H => ?_
            refine Yy (o_index rfl hh hh ty_el_49 h36) ?_
            refine Yy (o_loadS rfl hh ty_ag_48) ?_
            refine T_new trivial rfl rfl (n_alloc rfl ty_ze_48 rfl) (fun b4 => ?_)
            refine T_storeS (φs' := [fInt .i64 y33.At, fSl (tInt .i64) y33.Joins, fInt .i64 y33.Node]) trivial rfl rfl (has rfl) (has rfl) (ll_cons (leaf_eq trivial) (ll_cons (leaf_sl) (ll_cons (leaf_eq trivial) ll_nil))) ty_sz_48 rfl rfl rfl ?_
            refine Nn ?_
            revert H; refine bs fun y34 h37 H => ?_
            revert H; refine bs fun z3 h38 H => ?_
            refine T_net 8 [fun _ => .op [] false (fun _ => fEq (.pointer (some ⟨p0, 0, none⟩))) (fun _ => []), fun _ => .op [] false (fun _ => fEq (.pointer (some ⟨b4, 2, none⟩))) (fun _ => []), fun _ => .op [0] false (fun _ => fInt .i64 y33.Node) (fun _ => [tEmp]), fun _ => .op [] false (fun _ => fInt .i64 z2) (fun _ => []), fun _ => .op [3] false (fun _ => fAgg [fSl tScopeChan y30.Chans, fSl tScopeSpot y30.Spots, fSl tScopeRule y30.Rules]) (fun _ => [tEmp]), fun _ => .op [0] false (fun _ => fAgg [fInt .i64 y33.At, fSl (tInt .i64) y33.Joins, fInt .i64 y33.Node]) (fun _ => [tEmp]), fun _ => .op [] true (fun _ => fInt .i64 y34) (fun _ => []), fun _ => .op [] false (fun _ => fInt .i64 z3) (fun _ => [])] [([], false, []), ([], false, []), ([0], false, []), ([], false, []), ([3], false, []), ([0], false, []), ([], true, []), ([], false, [])] 0 7 mixed (F0 (F0 (F0 (F0 (F0 (F0 (F0 (F0 FitsL.nil)))))))) (by kernel_rfl) rfl rfl (by kernel_rfl) rfl ?_
            dsimp only [netL, List.take, List.replicate, List.append, List.drop]
            refine My (h := o_move rfl hh) (k := fun _ => ?_)
            refine N_y (φ := fEq (.pointer (some ⟨b4, 2, none⟩))) rfl (fun _ => rfl) trivial rfl (o_fieldB 2 rfl (has rfl) ty_fa_48_2 rfl) (fun _ => ?_)
            refine N_op (ps := [0]) (φ := fInt .i64 y33.Node) rfl (fun _ => rfl) trivial rfl rfl (o_loadB rfl (has rfl) ty_sc_3 rfl Ent.rfl) (fun _ => ?_)
            refine My (h := o_move rfl hh) (k := fun _ => ?_)
            refine N_op (ps := [3]) (φ := fAgg [fSl tScopeChan y30.Chans, fSl tScopeSpot y30.Spots, fSl tScopeRule y30.Rules]) rfl (fun _ => rfl) trivial rfl rfl (o_loadBS rfl (has rfl) ty_ag_52 rfl rfl) (fun _ => ?_)
            refine N_op (ps := [0]) (φ := fAgg [fInt .i64 y33.At, fSl (tInt .i64) y33.Joins, fInt .i64 y33.Node]) rfl (fun _ => rfl) trivial rfl rfl (o_loadBS rfl (has rfl) ty_ag_48 rfl rfl) (fun _ => ?_)
            refine N_call (Φ := fInt .i64 y34) rfl (fun _ => rfl) trivial rfl rfl (has rfl) (HasL.cons (has rfl) (HasL.cons (has rfl) HasL.nil)) rfl ty_cb_98 (scope_brings_w fuel (⟨y30.Chans, y30.Spots, y30.Rules⟩ : ScopeDef) (⟨y33.At, y33.Joins, y33.Node⟩ : ScopeRule) y34 h37) (fun _ => ?_)
            refine My (h := o_add rfl hh hh h38) (k := fun _ => ?_)
            refine N_done rfl ?_
            refine T_fr6 ?_
            refine T_fr6 ?_
            refine T_fr6 ?_
            refine T_fr5 ?_
            refine close_Scope_looker (x := (⟨(⟨x33, x34, x35, x36⟩ : ScopeProg), x37, x38, x39⟩ : Scope_looker)) ?_
            revert H; refine bs fun y35 h39 H => ?_
            rcases y35 with y35 | pv18 <;> dsimp only at H
            ·
             refine T_call trivial rfl rfl rfl (has rfl) (HasL.cons (has rfl) (HasL.cons (has rfl) (HasL.cons (has rfl) HasL.nil))) rfl ty_cb_86 (ih_scope_looker_node p0 (⟨(⟨x33, x34, x35, x36⟩ : ScopeProg), x37, x38, x39⟩ : Scope_looker) y33.Node z3 (Sum.inl y35) h39).s rfl ?_
             refine open_Scope_looker (fun v16 v17 v18 => ?_)
             refine T_rowCell 1 rfl (fun hc_v16 => ?_)
             refine T_rowCell 2 rfl (fun hc_v17 => ?_)
             refine T_rowCell 3 rfl (fun hc_v18 => ?_)
             refine T_nil ?_
             refine T_in_n ?_
             refine T_then_n ?_
             refine T_region ?_
             revert H; refine bs fun z4 h40 H => ?_
             refine Yy (o_add rfl hh hh h40) ?_
             refine Ym ?_
             refine Nn ?_
             refine T_pick [5, 0, 6, 1, 2, 3] (by decide) ?_
             exact T_meet ((k2, z4, y35.p.Free, y35.p.Nodes, y35.p.Defs, y35.p.Main, y35.sizes, y35.met, y35.defs, v16, v17, v18)) ⟨H, Nat.lt_succ_self _⟩ (Sc (Sc (Sc (Sc (Sc (Sc (Sc SubT.nil))))))) rfl
            ·
             refine T_callP trivial rfl (has rfl) (HasL.cons (has rfl) (HasL.cons (has rfl) (HasL.cons (has rfl) HasL.nil))) rfl ty_cb_86 (ih_scope_looker_node p0 (⟨(⟨x33, x34, x35, x36⟩ : ScopeProg), x37, x38, x39⟩ : Scope_looker) y33.Node z3 (Sum.inr pv18) h39).pan rfl ?_
             refine T_in_panic ?_
             refine T_then_panic ?_
             refine T_then_panic ?_
             refine T_in_panic ?_
             refine T_then_panic ?_
             revert H; refine bs fun r16 H e16 => ?_
             have e16 := Option.some.inj e16; subst e16; have Hr6 := Option.some.inj Hr6; subst Hr6
             refine T_then_panic ?_
             revert H; refine bs fun r17 H e17 => ?_
             have e17 := Option.some.inj e17; subst e17; have Hr5 := Option.some.inj Hr5; subst Hr5
             cases H
             exact T_inr
           ·
            refine T_cond_f (has rfl) c14 ?_
            refine T_exit ?_
            refine T_then_exit ?_
            refine T_then_exit ?_
            refine T_in_hit ?_
            refine T_then_n ?_
            exact T_meet ((x33, x34, x35, x36, x37, x38, x39, v13, v14, v15)) (Option.some.inj H).symm (Sc (Sc (Sc (Sc SubT.nil)))) rfl
          ·
           clear H; intro i hi; obtain ⟨x17, x18, x19, x20, x21, x22, x23, v7, v8, v9⟩ := i; subst o6; have H := Hr6; clear Hr6; try dsimp only at H
           show T β _ _ [(0, fEq (.pointer (some ⟨p0, 0, none⟩))), (2, fInt .i64 z2), (6, fEq (.pointer (some ⟨b1, 0, none⟩))), (11, fEq (.pointer (some ⟨b3, 0, none⟩)))] [tBlk b1 56 [fInt .i64 y7.Op, fInt .i64 y7.N, fSl tScopeExp y7.Args, fSl (tInt .i64) y7.Kids], tBlk p0 137 [fSl tStr x17, fSl tScopeNode x18, fSl tScopeDef x19, fInt .i64 x20, fEq v7, fEq v8, fEq v9], tBlk b3 52 [fSl tScopeChan y30.Chans, fSl tScopeSpot y30.Spots, fSl tScopeRule y30.Rules], tRow v7 3 (tInt .i64) x21, tRow v8 4 tBool x22, tRow v9 4 tBool x23] _
           refine T_rowCell 3 rfl (fun hc_v7 => ?_)
           refine T_rowCell 4 rfl (fun hc_v8 => ?_)
           refine T_rowCell 5 rfl (fun hc_v9 => ?_)
           refine Sr ?_
           refine Yy (o_fieldB 1 rfl hh ty_fa_52_1 rfl) ?_
           refine Yo 2 rfl (o_loadB rfl hh ty_sc_50 rfl Ent.rfl) ?_
           refine Yy (o_len rfl hh ty_us_50) ?_
           refine Ym ?_
           refine Nn ?_
           refine T_block ?_
           refine T_loop (ι := Nat × Int × List ByteArray × List ScopeNode × List ScopeDef × Int × List Int × List Bool × List Bool × Value × Value × Value) (fun i => scope_looker_node_l3 (scope_looker_node_S fuel) y30 z2 i.1 i.2.1 i.2.2.1 i.2.2.2.1 i.2.2.2.2.1 i.2.2.2.2.2.1 i.2.2.2.2.2.2.1 i.2.2.2.2.2.2.2.1 i.2.2.2.2.2.2.2.2.1 = _) (fun i => i.1) (fun i => [(0, fEq (.pointer (some ⟨p0, 0, none⟩))), (2, fInt .i64 z2), (6, fEq (.pointer (some ⟨b1, 0, none⟩))), (207, fSl tScopeSpot y30.Spots), (208, fInt .i64 (y30.Spots.length : Int)), (209, fInt .i64 i.2.1)]) (fun i => [tBlk b1 56 [fInt .i64 y7.Op, fInt .i64 y7.N, fSl tScopeExp y7.Args, fSl (tInt .i64) y7.Kids], tBlk p0 137 [fSl tStr i.2.2.1, fSl tScopeNode i.2.2.2.1, fSl tScopeDef i.2.2.2.2.1, fInt .i64 i.2.2.2.2.2.1, fEq i.2.2.2.2.2.2.2.2.2.1, fEq i.2.2.2.2.2.2.2.2.2.2.1, fEq i.2.2.2.2.2.2.2.2.2.2.2], tBlk b3 52 [fSl tScopeChan y30.Chans, fSl tScopeSpot y30.Spots, fSl tScopeRule y30.Rules], tRow i.2.2.2.2.2.2.2.2.2.1 3 (tInt .i64) i.2.2.2.2.2.2.1, tRow i.2.2.2.2.2.2.2.2.2.2.1 4 tBool i.2.2.2.2.2.2.2.1, tRow i.2.2.2.2.2.2.2.2.2.2.2 4 tBool i.2.2.2.2.2.2.2.2.1]) (fuel, 0, x17, x18, x19, x20, x21, x22, x23, v7, v8, v9) H (Sc (Sc (Sc (Sc (Sc (Sc SubT.nil)))))) rfl ?_
           clear H; rintro ⟨k3, x48, x49, x50, x51, x52, x53, x54, x55, v22, v23, v24⟩ H
           replace H : scope_looker_node_l3 (scope_looker_node_S fuel) y30 z2 k3 x48 x49 x50 x51 x52 x53 x54 x55 = _ := H
           show T β _ _ [(0, fEq (.pointer (some ⟨p0, 0, none⟩))), (2, fInt .i64 z2), (6, fEq (.pointer (some ⟨b1, 0, none⟩))), (207, fSl tScopeSpot y30.Spots), (208, fInt .i64 (y30.Spots.length : Int)), (209, fInt .i64 x48)] [tBlk b1 56 [fInt .i64 y7.Op, fInt .i64 y7.N, fSl tScopeExp y7.Args, fSl (tInt .i64) y7.Kids], tBlk p0 137 [fSl tStr x49, fSl tScopeNode x50, fSl tScopeDef x51, fInt .i64 x52, fEq v22, fEq v23, fEq v24], tBlk b3 52 [fSl tScopeChan y30.Chans, fSl tScopeSpot y30.Spots, fSl tScopeRule y30.Rules], tRow v22 3 (tInt .i64) x53, tRow v23 4 tBool x54, tRow v24 4 tBool x55] _
           obtain _ | k3 := k3
           ·
            rw [scope_looker_node_l3] at H; cases H
           rw [scope_looker_node_l3] at H
           refine T_rowCell 3 rfl (fun hc_v22 => ?_)
           refine T_rowCell 4 rfl (fun hc_v23 => ?_)
           refine T_rowCell 5 rfl (fun hc_v24 => ?_)
           refine Sr ?_
           refine Yy (o_lss rfl hh hh) ?_
           refine Nn ?_
           refine T_seq ?_
           revert H; refine is (fun c15 H => ?_) fun c15 H => ?_
           ·
            refine T_cond_t (has rfl) c15 ?_
            refine T_skip ?_
            refine T_then_n ?_
            refine T_seq ?_
            refine T_block ?_
            refine Sr ?_
            revert H; refine bs fun y36 h41 H => ?_
            refine Yy (o_index rfl hh hh ty_el_50 h41) ?_
            refine Yy (o_loadS rfl hh ty_ag_90) ?_
            refine T_new trivial rfl rfl (n_alloc rfl ty_ze_90 rfl) (fun b5 => ?_)
            refine T_storeS (φs' := [fInt .i64 y36.In, fInt .i64 y36.Node]) trivial rfl rfl (has rfl) (has rfl) (ll_cons (leaf_eq trivial) (ll_cons (leaf_eq trivial) ll_nil)) ty_sz_90 rfl rfl rfl ?_
            refine Nn ?_
            refine T_region ?_
            refine Ym ?_
            refine Yy (o_fieldB 1 rfl hh ty_fa_90_1 rfl) ?_
            refine Yo 0 rfl (o_loadB rfl hh ty_sc_3 rfl Ent.rfl) ?_
            refine Ym ?_
            refine T_fr6 ?_
            refine T_fr6 ?_
            refine T_fr6 ?_
            refine T_fr5 ?_
            refine close_Scope_looker (x := (⟨(⟨x49, x50, x51, x52⟩ : ScopeProg), x53, x54, x55⟩ : Scope_looker)) ?_
            revert H; refine bs fun y37 h42 H => ?_
            rcases y37 with y37 | pv19 <;> dsimp only at H
            ·
             refine T_call trivial rfl rfl rfl (has rfl) (HasL.cons (has rfl) (HasL.cons (has rfl) (HasL.cons (has rfl) HasL.nil))) rfl ty_cb_86 (ih_scope_looker_node p0 (⟨(⟨x49, x50, x51, x52⟩ : ScopeProg), x53, x54, x55⟩ : Scope_looker) y36.Node z2 (Sum.inl y37) h42).s rfl ?_
             refine open_Scope_looker (fun v25 v26 v27 => ?_)
             refine T_rowCell 1 rfl (fun hc_v25 => ?_)
             refine T_rowCell 2 rfl (fun hc_v26 => ?_)
             refine T_rowCell 3 rfl (fun hc_v27 => ?_)
             refine T_nil ?_
             refine T_in_n ?_
             refine T_then_n ?_
             refine T_region ?_
             revert H; refine bs fun z5 h43 H => ?_
             refine Yy (o_add rfl hh hh h43) ?_
             refine Ym ?_
             refine Nn ?_
             refine T_pick [5, 0, 6, 1, 2, 3] (by decide) ?_
             exact T_meet ((k3, z5, y37.p.Free, y37.p.Nodes, y37.p.Defs, y37.p.Main, y37.sizes, y37.met, y37.defs, v25, v26, v27)) ⟨H, Nat.lt_succ_self _⟩ (Sc (Sc (Sc (Sc (Sc (Sc SubT.nil)))))) rfl
            ·
             refine T_callP trivial rfl (has rfl) (HasL.cons (has rfl) (HasL.cons (has rfl) (HasL.cons (has rfl) HasL.nil))) rfl ty_cb_86 (ih_scope_looker_node p0 (⟨(⟨x49, x50, x51, x52⟩ : ScopeProg), x53, x54, x55⟩ : Scope_looker) y36.Node z2 (Sum.inr pv19) h42).pan rfl ?_
             refine T_in_panic ?_
             refine T_then_panic ?_
             refine T_then_panic ?_
             refine T_in_panic ?_
             refine T_then_panic ?_
             revert H; refine bs fun r18 H e18 => ?_
             have e18 := Option.some.inj e18; subst e18; have Hr5 := Option.some.inj Hr5; subst Hr5
             cases H
             exact T_inr
           ·
            refine T_cond_f (has rfl) c15 ?_
            refine T_exit ?_
            refine T_then_exit ?_
            refine T_then_exit ?_
            refine T_in_hit ?_
            refine T_then_n ?_
            refine T_pick [0, 1, 3, 4, 5] (by decide) ?_
            exact T_meet ((z2, x49, x50, x51, x52, x53, x54, x55, v22, v23, v24)) (Option.some.inj H).symm (Sc (Sc (Sc SubT.nil))) rfl
         ·
          refine T_callP trivial rfl (has rfl) (HasL.cons (has rfl) HasL.nil) rfl ty_cb_96 (scope_def_w fuel (⟨y30.Chans, y30.Spots, y30.Rules⟩ : ScopeDef) (Sum.inr pv17) h33).pan rfl ?_
          refine T_then_panic ?_
          refine T_then_panic ?_
          revert H; refine bs fun r19 H e19 => ?_
          have e19 := Option.some.inj e19; subst e19; have Hr5 := Option.some.inj Hr5; subst Hr5
          cases H
          exact T_inr
        ·
         refine T_cond_f (has rfl) c13 ?_
         refine T_skip ?_
         refine T_then_n ?_
         exact T_meet ((a2, a0.p.Free, a0.p.Nodes, a0.p.Defs, a0.p.Main, a0.sizes.set a1.toNat a2, a0.met.set a1.toNat true, a0.defs, v1, v2, v3)) (Option.some.inj H).symm (Sc (Sc (Sc SubT.nil))) rfl
       ·
        clear H; intro i hi; obtain ⟨x9, x10, x11, x12, x13, x14, x15, x16, v4, v5, v6⟩ := i; subst o5; have H := Hr5; clear Hr5; try dsimp only at H
        show T β _ _ [(0, fEq (.pointer (some ⟨p0, 0, none⟩))), (2, fInt .i64 x9), (6, fEq (.pointer (some ⟨b1, 0, none⟩)))] [tBlk b1 56 [fInt .i64 y7.Op, fInt .i64 y7.N, fSl tScopeExp y7.Args, fSl (tInt .i64) y7.Kids], tBlk p0 137 [fSl tStr x10, fSl tScopeNode x11, fSl tScopeDef x12, fInt .i64 x13, fEq v4, fEq v5, fEq v6], tRow v4 3 (tInt .i64) x14, tRow v5 4 tBool x15, tRow v6 4 tBool x16] _
        refine T_rowCell 2 rfl (fun hc_v4 => ?_)
        refine T_rowCell 3 rfl (fun hc_v5 => ?_)
        refine T_rowCell 4 rfl (fun hc_v6 => ?_)
        refine Sr ?_
        refine Yy (o_fieldB 3 rfl hh ty_fa_56_3 rfl) ?_
        refine Yo 0 rfl (o_loadB rfl hh ty_sc_46 rfl Ent.rfl) ?_
        refine Yy (o_len rfl hh ty_us_46) ?_
        refine Ym ?_
        refine Nn ?_
        refine T_block ?_
        refine T_loop (ι := Nat × Int × List ByteArray × List ScopeNode × List ScopeDef × Int × List Int × List Bool × List Bool × Value × Value × Value) (fun i => scope_looker_node_l4 (scope_looker_node_S fuel) y7 x9 i.1 i.2.1 i.2.2.1 i.2.2.2.1 i.2.2.2.2.1 i.2.2.2.2.2.1 i.2.2.2.2.2.2.1 i.2.2.2.2.2.2.2.1 i.2.2.2.2.2.2.2.2.1 = _) (fun i => i.1) (fun i => [(0, fEq (.pointer (some ⟨p0, 0, none⟩))), (2, fInt .i64 x9), (220, fSl (tInt .i64) y7.Kids), (221, fInt .i64 (y7.Kids.length : Int)), (222, fInt .i64 i.2.1)]) (fun i => [tBlk b1 56 [fInt .i64 y7.Op, fInt .i64 y7.N, fSl tScopeExp y7.Args, fSl (tInt .i64) y7.Kids], tBlk p0 137 [fSl tStr i.2.2.1, fSl tScopeNode i.2.2.2.1, fSl tScopeDef i.2.2.2.2.1, fInt .i64 i.2.2.2.2.2.1, fEq i.2.2.2.2.2.2.2.2.2.1, fEq i.2.2.2.2.2.2.2.2.2.2.1, fEq i.2.2.2.2.2.2.2.2.2.2.2], tRow i.2.2.2.2.2.2.2.2.2.1 3 (tInt .i64) i.2.2.2.2.2.2.1, tRow i.2.2.2.2.2.2.2.2.2.2.1 4 tBool i.2.2.2.2.2.2.2.1, tRow i.2.2.2.2.2.2.2.2.2.2.2 4 tBool i.2.2.2.2.2.2.2.2.1]) (fuel, 0, x10, x11, x12, x13, x14, x15, x16, v4, v5, v6) H (Sc (Sc (Sc (Sc (Sc SubT.nil))))) rfl ?_
        clear H; rintro ⟨k4, x64, x65, x66, x67, x68, x69, x70, x71, v31, v32, v33⟩ H
        replace H : scope_looker_node_l4 (scope_looker_node_S fuel) y7 x9 k4 x64 x65 x66 x67 x68 x69 x70 x71 = _ := H
        show T β _ _ [(0, fEq (.pointer (some ⟨p0, 0, none⟩))), (2, fInt .i64 x9), (220, fSl (tInt .i64) y7.Kids), (221, fInt .i64 (y7.Kids.length : Int)), (222, fInt .i64 x64)] [tBlk b1 56 [fInt .i64 y7.Op, fInt .i64 y7.N, fSl tScopeExp y7.Args, fSl (tInt .i64) y7.Kids], tBlk p0 137 [fSl tStr x65, fSl tScopeNode x66, fSl tScopeDef x67, fInt .i64 x68, fEq v31, fEq v32, fEq v33], tRow v31 3 (tInt .i64) x69, tRow v32 4 tBool x70, tRow v33 4 tBool x71] _
        obtain _ | k4 := k4
        ·
         rw [scope_looker_node_l4] at H; cases H
        rw [scope_looker_node_l4] at H
        refine T_rowCell 2 rfl (fun hc_v31 => ?_)
        refine T_rowCell 3 rfl (fun hc_v32 => ?_)
        refine T_rowCell 4 rfl (fun hc_v33 => ?_)
        refine Sr ?_
        refine Yy (o_lss rfl hh hh) ?_
        refine Nn ?_
        refine T_seq ?_
        revert H; refine is (fun c16 H => ?_) fun c16 H => ?_
        ·
         refine T_cond_t (has rfl) c16 ?_
         refine T_skip ?_
         refine T_then_n ?_
         refine T_seq ?_
         refine T_block ?_
         refine Sr ?_
         revert H; refine bs fun y38 h44 H => ?_
         refine Yy (o_index rfl hh hh ty_el_46 h44) ?_
         refine Yy (o_load rfl hh ty_sc_3 rfl) ?_
         refine Ya ?_
         refine Nn ?_
         refine T_region ?_
         refine Ym ?_
         refine Ym ?_
         refine Ym ?_
         refine T_fr4 ?_
         refine T_fr4 ?_
         refine T_fr4 ?_
         refine T_fr4 ?_
         refine close_Scope_looker (x := (⟨(⟨x65, x66, x67, x68⟩ : ScopeProg), x69, x70, x71⟩ : Scope_looker)) ?_
         revert H; refine bs fun y39 h45 H => ?_
         rcases y39 with y39 | pv20 <;> dsimp only at H
         ·
          refine T_call trivial rfl rfl rfl (has rfl) (HasL.cons (has rfl) (HasL.cons (has rfl) (HasL.cons (has rfl) HasL.nil))) rfl ty_cb_86 (ih_scope_looker_node p0 (⟨(⟨x65, x66, x67, x68⟩ : ScopeProg), x69, x70, x71⟩ : Scope_looker) y38 x9 (Sum.inl y39) h45).s rfl ?_
          refine open_Scope_looker (fun v34 v35 v36 => ?_)
          refine T_rowCell 1 rfl (fun hc_v34 => ?_)
          refine T_rowCell 2 rfl (fun hc_v35 => ?_)
          refine T_rowCell 3 rfl (fun hc_v36 => ?_)
          refine T_nil ?_
          refine T_in_n ?_
          refine T_then_n ?_
          refine T_region ?_
          revert H; refine bs fun z6 h46 H => ?_
          refine Yy (o_add rfl hh hh h46) ?_
          refine Ym ?_
          refine Nn ?_
          refine T_pick [4, 0, 1, 2, 3] (by decide) ?_
          exact T_meet ((k4, z6, y39.p.Free, y39.p.Nodes, y39.p.Defs, y39.p.Main, y39.sizes, y39.met, y39.defs, v34, v35, v36)) ⟨H, Nat.lt_succ_self _⟩ (Sc (Sc (Sc (Sc (Sc SubT.nil))))) rfl
         ·
          refine T_callP trivial rfl (has rfl) (HasL.cons (has rfl) (HasL.cons (has rfl) (HasL.cons (has rfl) HasL.nil))) rfl ty_cb_86 (ih_scope_looker_node p0 (⟨(⟨x65, x66, x67, x68⟩ : ScopeProg), x69, x70, x71⟩ : Scope_looker) y38 x9 (Sum.inr pv20) h45).pan rfl ?_
          refine T_in_panic ?_
          refine T_then_panic ?_
          refine T_then_panic ?_
          refine T_in_panic ?_
          cases H
          exact T_inr
        ·
         refine T_cond_f (has rfl) c16 ?_
         refine T_exit ?_
         refine T_then_exit ?_
         refine T_then_exit ?_
         refine T_in_hit ?_
         refine T_fr4 ?_
         refine T_fr4 ?_
         refine T_fr4 ?_
         refine T_fr4 ?_
         refine close_Scope_looker (x := (⟨(⟨x65, x66, x67, x68⟩ : ScopeProg), x69, x70, x71⟩ : Scope_looker)) ?_
         cases H
         refine T_inl ?_
         refine T_pick [0] (by decide) ?_
         exact T_out0 (.inr rfl) rfl rfl
     ·
      refine T_callP trivial rfl (has rfl) (HasL.cons (has rfl) HasL.nil) rfl ty_cb_84 (scope_want_w (decide ((y7.Args.length : Int) = x2)) (Sum.inr pv15) h27).pan rfl ?_
      refine T_then_panic ?_
      cases H
      exact T_inr
end Go.Proofs.Ytmnbfgeljmhekaa
set_option maxRecDepth 100000
set_option maxHeartbeats 2000000
namespace Go.Proofs.Ytmnbfgeljmhekaa
open Go.SX Go.SW Go.Dt
def slices_Index_Lbool_bool_l1 (a0 : List Bool) (a1 : Bool) : Nat → Int → Option ((Unit) ⊕ (Int))
| 0, _ => none
| k + 1, x2 =>
 if x2 < (a0.length : Int) then
  (idx a0 x2).bind fun y1 =>
  bif a1 == y1 then
   (some x2).bind fun r => some (Sum.inr r)
  else
   (chk (x2 + 1)).bind fun z1 =>
   slices_Index_Lbool_bool_l1 a0 a1 k z1
 else
  some (Sum.inl ())
def slices_Index_Lbool_bool_S (fuel : Nat) (a0 : List Bool) (a1 : Bool) : Option (Int) :=
 (slices_Index_Lbool_bool_l1 a0 a1 fuel 0).bind fun o => match o with
 | Sum.inr r => some r
 | Sum.inl _ =>
 some (-1)
theorem slices_Index_Lbool_bool_w (fuel : Nat)  (a0 : List Bool) (a1 : Bool) (r : Int) (H : slices_Index_Lbool_bool_S fuel a0 a1 = some r) : FnS Try.prog 99 [fSl tBool a0, fBool a1] [] (fInt .i64 r) (fun _ => []) := by
 unfold slices_Index_Lbool_bool_S at H
 refine FnS_of Try.func99 rfl Try.ntmps99 rfl (fun β => ?_)
 refine Sr ?_
 refine Ya ?_
 refine Nn ?_
 revert H; refine bs fun o1 H Hr1 => ?_
 refine T_seqJ (ι := Unit) (fun i => o1 = Sum.inl ()) (fun i => []) (fun i => []) ?_ ?_
 ·
  refine Sr ?_
  refine Ym ?_
  refine Yy (o_len rfl hh ty_us_119) ?_
  refine Ym ?_
  refine Nn ?_
  refine T_block ?_
  refine T_loop (ι := Nat × Int) (fun i => slices_Index_Lbool_bool_l1 a0 a1 i.1 i.2 = _) (fun i => i.1) (fun i => [(0, fSl tBool a0), (1, fBool a1), (7, fInt .i64 (a0.length : Int)), (8, fInt .i64 i.2)]) (fun i => []) (fuel, 0) H (Sc (Sc (Sc (Sc SubT.nil)))) rfl ?_
  clear H; rintro ⟨k1, x2⟩ H
  replace H : slices_Index_Lbool_bool_l1 a0 a1 k1 x2 = _ := H
  show T β _ _ [(0, fSl tBool a0), (1, fBool a1), (7, fInt .i64 (a0.length : Int)), (8, fInt .i64 x2)] [] _
  obtain _ | k1 := k1
  ·
   rw [slices_Index_Lbool_bool_l1] at H; cases H
  rw [slices_Index_Lbool_bool_l1] at H
  refine Sr ?_
  refine Yy (o_lss rfl hh hh) ?_
  refine Nn ?_
  refine T_seq ?_
  revert H; refine is (fun c1 H => ?_) fun c1 H => ?_
  ·
   refine T_cond_t (has rfl) c1 ?_
   refine T_skip ?_
   refine T_then_n ?_
   refine T_seq ?_
   refine T_block ?_
   refine Sr ?_
   refine Ym ?_
   refine Ya ?_
   refine Nn ?_
   refine Sr ?_
   refine Ym ?_
   refine Ym ?_
   refine Ym ?_
   revert H; refine bs fun y1 h1 H => ?_
   refine Yy (o_index rfl hh hh ty_el_119 h1) ?_
   refine Yy (o_load rfl hh ty_sc_4 rfl) ?_
   refine Yy (o_eqlB rfl hh hh ty_ubool_4) ?_
   refine Nn ?_
   revert H; refine cs (fun c2 H => ?_) fun c2 H => ?_
   ·
    refine T_cond_t (has rfl) c2 ?_
    refine Sr ?_
    refine Ym ?_
    refine Ya ?_
    refine Nn ?_
    refine T_retc ?_
    refine T_in_ret ?_
    refine T_then_ret ?_
    refine T_then_ret ?_
    refine T_in_ret ?_
    refine T_then_ret ?_
    revert H; refine bs fun r1 H e1 => ?_
    have e1 := Option.some.inj e1; subst e1; have Hr1 := Option.some.inj Hr1; subst Hr1
    cases H
    exact T_out1 rfl (hasS rfl) rfl
   ·
    refine T_cond_f (has rfl) c2 ?_
    refine T_skip ?_
    refine T_in_n ?_
    refine T_then_n ?_
    refine T_region ?_
    revert H; refine bs fun z1 h2 H => ?_
    refine Yy (o_add rfl hh hh h2) ?_
    refine Ym ?_
    refine Nn ?_
    exact T_meet ((k1, z1)) ⟨H, Nat.lt_succ_self _⟩ (Sc (Sc (Sc (Sc SubT.nil)))) rfl
  ·
   refine T_cond_f (has rfl) c1 ?_
   refine T_exit ?_
   refine T_then_exit ?_
   refine T_then_exit ?_
   refine T_in_hit ?_
   refine T_then_n ?_
   exact T_meet (()) (Option.some.inj H).symm SubT.nil rfl
 ·
  clear H; intro i hi; subst o1; have H := Hr1; clear Hr1; try dsimp only at H
  show T β _ _ [] [] _
  refine Sr ?_
  refine Ya ?_
  refine Nn ?_
  refine T_retc ?_
  cases H
  exact T_out1 rfl (hasS rfl) rfl
def slices_Contains_Lbool_bool_S (fuel : Nat) (a0 : List Bool) (a1 : Bool) : Option (Bool) :=
 (slices_Index_Lbool_bool_S fuel a0 a1).bind fun y1 =>
 some (decide (0 ≤ y1))
theorem slices_Contains_Lbool_bool_w (fuel : Nat)  (a0 : List Bool) (a1 : Bool) (r : Bool) (H : slices_Contains_Lbool_bool_S fuel a0 a1 = some r) : FnS Try.prog 87 [fSl tBool a0, fBool a1] [] (fBool r) (fun _ => []) := by
 unfold slices_Contains_Lbool_bool_S at H
 refine FnS_of Try.func87 rfl Try.ntmps87 rfl (fun β => ?_)
 refine Sr ?_
 refine Ya ?_
 refine Nn ?_
 refine Sr ?_
 refine Ym ?_
 refine Ym ?_
 revert H; refine bs fun y1 h1 H => ?_
 refine T_call trivial rfl rfl rfl (has rfl) (HasL.cons (has rfl) (HasL.cons (has rfl) HasL.nil)) rfl ty_cb_99 (slices_Index_Lbool_bool_w fuel a0 a1 y1 h1) rfl ?_
 refine Yy (o_geq rfl hh hh) ?_
 refine Ya ?_
 refine Nn ?_
 refine T_retc ?_
 cases H
 exact T_out1 rfl (hasS rfl) rfl
def scope_look_l1 (fuel : Nat) (a0 : ScopeProg) : Nat → Int → Option ((Unit) ⊕ (Scope_looker ⊕ Value))
| 0, _ => none
| k + 1, x2 =>
 if x2 < (a0.Free.length : Int) then
  ((idx a0.Free x2).bind fun y4 =>
  (term_Name_S fuel y4).bind fun y5 =>
  bif y5 then
   if x2 = 0 then
    (scope_want_S true).bind fun y6 =>
    match y6 with
    | Sum.inr pv4 => ((some (Sum.inr pv4)).bind fun r => some (Sum.inr r)).bind fun r => some (Sum.inr r)
    | Sum.inl y6 =>
    some (Sum.inl ())
   else
    (chk (x2 - 1)).bind fun z1 =>
    (idx a0.Free z1).bind fun y7 =>
    (scope_want_S (slt y7 y4)).bind fun y8 =>
    match y8 with
    | Sum.inr pv5 => ((some (Sum.inr pv5)).bind fun r => some (Sum.inr r)).bind fun r => some (Sum.inr r)
    | Sum.inl y8 =>
    some (Sum.inl ())
  else
   (scope_want_S false).bind fun y9 =>
   match y9 with
   | Sum.inr pv6 => ((some (Sum.inr pv6)).bind fun r => some (Sum.inr r)).bind fun r => some (Sum.inr r)
   | Sum.inl y9 =>
   some (Sum.inl ())).bind fun o => match o with
  | Sum.inr r => some r
  | Sum.inl _ =>
  (chk (x2 + 1)).bind fun z2 =>
  scope_look_l1 fuel a0 k z2
 else
  some (Sum.inl ())
def scope_look_S (fuel : Nat) (a0 : ScopeProg) : Option (Scope_looker ⊕ Value) :=
 (if (a0.Free.length : Int) ≤ 12 then
  if (a0.Nodes.length : Int) ≤ 60 then
   (scope_want_S (decide ((a0.Defs.length : Int) ≤ 12))).bind fun y1 =>
   match y1 with
   | Sum.inr pv1 => (some (Sum.inr pv1)).bind fun r => some (Sum.inr r)
   | Sum.inl y1 =>
   some (Sum.inl ())
  else
   (scope_want_S false).bind fun y2 =>
   match y2 with
   | Sum.inr pv2 => (some (Sum.inr pv2)).bind fun r => some (Sum.inr r)
   | Sum.inl y2 =>
   some (Sum.inl ())
 else
  (scope_want_S false).bind fun y3 =>
  match y3 with
  | Sum.inr pv3 => (some (Sum.inr pv3)).bind fun r => some (Sum.inr r)
  | Sum.inl y3 =>
  some (Sum.inl ())).bind fun o => match o with
 | Sum.inr r => some r
 | Sum.inl _ =>
 (scope_look_l1 fuel a0 fuel 0).bind fun o => match o with
 | Sum.inr r => some r
 | Sum.inl _ =>
 (mk 0 (a0.Nodes.length : Int)).bind fun y10 =>
 (mk false (a0.Nodes.length : Int)).bind fun y11 =>
 (mk false (a0.Defs.length : Int)).bind fun y12 =>
 (scope_looker_node_S fuel (⟨(⟨a0.Free, a0.Nodes, a0.Defs, a0.Main⟩ : ScopeProg), y10, y11, y12⟩ : Scope_looker) a0.Main (a0.Free.length : Int)).bind fun y13 =>
 match y13 with
 | Sum.inr pv7 => some (Sum.inr pv7)
 | Sum.inl y13 =>
 ((slices_Contains_Lbool_bool_S fuel y13.met false).bind fun y14 =>
 bif !y14 then
  (slices_Contains_Lbool_bool_S fuel y13.defs false).bind fun y15 =>
  (scope_want_S (!y15)).bind fun y16 =>
  match y16 with
  | Sum.inr pv8 => (some (Sum.inr pv8)).bind fun r => some (Sum.inr r)
  | Sum.inl y16 =>
  some (Sum.inl y13.defs)
 else
  (scope_want_S false).bind fun y17 =>
  match y17 with
  | Sum.inr pv9 => (some (Sum.inr pv9)).bind fun r => some (Sum.inr r)
  | Sum.inl y17 =>
  some (Sum.inl y13.defs)).bind fun o => match o with
 | Sum.inr r => some r
 | Sum.inl x3 =>
 some (Sum.inl (⟨(⟨y13.p.Free, y13.p.Nodes, y13.p.Defs, y13.p.Main⟩ : ScopeProg), y13.sizes, y13.met, x3⟩ : Scope_looker))
theorem scope_look_w (fuel : Nat)  (a0 : ScopeProg) (r : Scope_looker ⊕ Value) (H : scope_look_S fuel a0 = some r) : FnE Try.prog 73 [fSt tScopeProg a0] [] r (fun r => fPtr tScope_looker r) (fun r => []) := by
 unfold scope_look_S at H
 refine FnE_of Try.func73 rfl Try.ntmps73 rfl (fun β => ?_)
 refine Sr ?_
 refine T_new trivial rfl rfl (n_box rfl (has rfl) part_agg) (fun b1 => ?_)
 refine Ya ?_
 refine Nn ?_
 revert H; refine bs fun o1 H Hr1 => ?_
 refine T_seqJ (ι := Unit) (fun i => o1 = Sum.inl ()) (fun i => [(1, fEq (.pointer (some ⟨b1, 0, none⟩)))]) (fun i => [tBlk b1 26 [fSl tStr a0.Free, fSl tScopeNode a0.Nodes, fSl tScopeDef a0.Defs, fInt .i64 a0.Main]]) ?_ ?_
 ·
  refine T_region ?_
  refine Yy (o_fieldB 0 rfl hh ty_fa_26_0 rfl) ?_
  refine Yo 0 rfl (o_loadB rfl hh ty_sc_22 rfl Ent.rfl) ?_
  refine Yy (o_len rfl hh ty_us_22) ?_
  refine Yy (o_leq rfl hh hh) ?_
  refine Ym ?_
  revert H; refine is (fun c1 H => ?_) fun c1 H => ?_
  ·
   refine Yg c1 (o_fieldB 1 rfl hh ty_fa_26_1 rfl) ?_
   refine Yh 0 rfl c1 (o_loadB rfl hh ty_sc_23 rfl Ent.rfl) ?_
   refine Yg c1 (o_len rfl hh ty_us_23) ?_
   refine Yg c1 (o_leq rfl hh hh) ?_
   refine Yy (o_pick_t rfl hh c1 hh) ?_
   refine Ym ?_
   revert H; refine is (fun c2 H => ?_) fun c2 H => ?_
   ·
    refine Yg c2 (o_fieldB 2 rfl hh ty_fa_26_2 rfl) ?_
    refine Yh 0 rfl c2 (o_loadB rfl hh ty_sc_24 rfl Ent.rfl) ?_
    refine Yg c2 (o_len rfl hh ty_us_24) ?_
    refine Yg c2 (o_leq rfl hh hh) ?_
    refine Yy (o_pick_t rfl hh c2 hh) ?_
    revert H; refine bs fun y1 h1 H => ?_
    rcases y1 with y1 | pv1 <;> dsimp only at H
    ·
     refine T_call trivial rfl rfl rfl (has rfl) (HasL.cons (has rfl) HasL.nil) rfl ty_cb_84 (scope_want_w (decide ((a0.Defs.length : Int) ≤ 12)) (Sum.inl y1) h1).s rfl ?_
     refine Nn ?_
     exact T_meet (()) (Option.some.inj H).symm (Sc SubT.nil) rfl
    ·
     refine T_callP trivial rfl (has rfl) (HasL.cons (has rfl) HasL.nil) rfl ty_cb_84 (scope_want_w (decide ((a0.Defs.length : Int) ≤ 12)) (Sum.inr pv1) h1).pan rfl ?_
     refine T_then_panic ?_
     revert H; refine bs fun r1 H e1 => ?_
     have e1 := Option.some.inj e1; subst e1; have Hr1 := Option.some.inj Hr1; subst Hr1
     cases H
     exact T_inr
   ·
    refine Yf c2 ?_
    refine Yf c2 ?_
    refine Yf c2 ?_
    refine Yf c2 ?_
    refine Yy (o_pick_f rfl hh c2 hh) ?_
    revert H; refine bs fun y2 h2 H => ?_
    rcases y2 with y2 | pv2 <;> dsimp only at H
    ·
     refine T_call trivial rfl rfl rfl (has rfl) (HasL.cons (has rfl) HasL.nil) rfl ty_cb_84 (scope_want_w false (Sum.inl y2) h2).s rfl ?_
     refine Nn ?_
     exact T_meet (()) (Option.some.inj H).symm (Sc SubT.nil) rfl
    ·
     refine T_callP trivial rfl (has rfl) (HasL.cons (has rfl) HasL.nil) rfl ty_cb_84 (scope_want_w false (Sum.inr pv2) h2).pan rfl ?_
     refine T_then_panic ?_
     revert H; refine bs fun r2 H e2 => ?_
     have e2 := Option.some.inj e2; subst e2; have Hr1 := Option.some.inj Hr1; subst Hr1
     cases H
     exact T_inr
  ·
   refine Yf c1 ?_
   refine Yf c1 ?_
   refine Yf c1 ?_
   refine Yf c1 ?_
   refine Yy (o_pick_f rfl hh c1 hh) ?_
   refine Ym ?_
   refine Yd ?_
   refine Yd ?_
   refine Yd ?_
   refine Yd ?_
   refine Yy (o_pick_f rfl hh rfl hh) ?_
   revert H; refine bs fun y3 h3 H => ?_
   rcases y3 with y3 | pv3 <;> dsimp only at H
   ·
    refine T_call trivial rfl rfl rfl (has rfl) (HasL.cons (has rfl) HasL.nil) rfl ty_cb_84 (scope_want_w false (Sum.inl y3) h3).s rfl ?_
    refine Nn ?_
    exact T_meet (()) (Option.some.inj H).symm (Sc SubT.nil) rfl
   ·
    refine T_callP trivial rfl (has rfl) (HasL.cons (has rfl) HasL.nil) rfl ty_cb_84 (scope_want_w false (Sum.inr pv3) h3).pan rfl ?_
    refine T_then_panic ?_
    revert H; refine bs fun r3 H e3 => ?_
    have e3 := Option.some.inj e3; subst e3; have Hr1 := Option.some.inj Hr1; subst Hr1
    cases H
    exact T_inr
 ·
  clear H; intro i hi; subst o1; have H := Hr1; clear Hr1; try dsimp only at H
  show T β _ _ [(1, fEq (.pointer (some ⟨b1, 0, none⟩)))] [tBlk b1 26 [fSl tStr a0.Free, fSl tScopeNode a0.Nodes, fSl tScopeDef a0.Defs, fInt .i64 a0.Main]] _
  revert H; refine bs fun o2 H Hr2 => ?_
  refine T_seqJ (ι := Unit) (fun i => o2 = Sum.inl ()) (fun i => [(1, fEq (.pointer (some ⟨b1, 0, none⟩)))]) (fun i => [tBlk b1 26 [fSl tStr a0.Free, fSl tScopeNode a0.Nodes, fSl tScopeDef a0.Defs, fInt .i64 a0.Main]]) ?_ ?_
  ·
   refine Sr ?_
   refine Yy (o_fieldB 0 rfl hh ty_fa_26_0 rfl) ?_
   refine Yo 0 rfl (o_loadB rfl hh ty_sc_22 rfl Ent.rfl) ?_
   refine Yy (o_len rfl hh ty_us_22) ?_
   refine Ym ?_
   refine Nn ?_
   refine T_block ?_
   refine T_loop (ι := Nat × Int) (fun i => scope_look_l1 fuel a0 i.1 i.2 = _) (fun i => i.1) (fun i => [(1, fEq (.pointer (some ⟨b1, 0, none⟩))), (24, fSl tStr a0.Free), (25, fInt .i64 (a0.Free.length : Int)), (26, fInt .i64 i.2)]) (fun i => [tBlk b1 26 [fSl tStr a0.Free, fSl tScopeNode a0.Nodes, fSl tScopeDef a0.Defs, fInt .i64 a0.Main]]) (fuel, 0) H (Sc (Sc (Sc (Sc SubT.nil)))) rfl ?_
   clear H; rintro ⟨k1, x2⟩ H
   replace H : scope_look_l1 fuel a0 k1 x2 = _ := H
   show T β _ _ [(1, fEq (.pointer (some ⟨b1, 0, none⟩))), (24, fSl tStr a0.Free), (25, fInt .i64 (a0.Free.length : Int)), (26, fInt .i64 x2)] [tBlk b1 26 [fSl tStr a0.Free, fSl tScopeNode a0.Nodes, fSl tScopeDef a0.Defs, fInt .i64 a0.Main]] _
   obtain _ | k1 := k1
   ·
    rw [scope_look_l1] at H; cases H
   rw [scope_look_l1] at H
   refine Sr ?_
   refine Yy (o_lss rfl hh hh) ?_
   refine Nn ?_
   refine T_seq ?_
   revert H; refine is (fun c3 H => ?_) fun c3 H => ?_
   ·
    refine T_cond_t (has rfl) c3 ?_
    refine T_skip ?_
    refine T_then_n ?_
    revert H; refine bs fun o3 H Hr3 => ?_
    refine T_seqJ (ι := Unit) (fun i => o3 = Sum.inl ()) (fun i => [(1, fEq (.pointer (some ⟨b1, 0, none⟩))), (24, fSl tStr a0.Free), (25, fInt .i64 (a0.Free.length : Int)), (26, fInt .i64 x2)]) (fun i => [tBlk b1 26 [fSl tStr a0.Free, fSl tScopeNode a0.Nodes, fSl tScopeDef a0.Defs, fInt .i64 a0.Main]]) ?_ ?_
    ·
     refine T_block ?_
     refine Sr ?_
     refine Ym ?_
     revert H; refine bs fun y4 h4 H => ?_
     refine Yy (o_index rfl hh hh ty_el_22 h4) ?_
     refine Yy (o_load rfl hh ty_sc_9 rfl) ?_
     refine Ya ?_
     refine Ya ?_
     refine Nn ?_
     refine T_region ?_
     refine Ym ?_
     revert H; refine bs fun y5 h5 H => ?_
     refine T_call trivial rfl rfl rfl (has rfl) (HasL.cons (has rfl) HasL.nil) rfl ty_cb_85 (term_Name_w fuel y4 y5 h5) rfl ?_
     refine Ym ?_
     revert H; refine cs (fun c4 H => ?_) fun c4 H => ?_
     ·
      refine Yg c4 (o_move rfl hh) ?_
      refine Yg c4 (o_eql rfl hh hh) ?_
      refine Yg c4 (o_move rfl hh) ?_
      revert H; refine is (fun c5 H => ?_) fun c5 H => ?_
      ·
       refine Yt c5 ?_
       refine Yt c5 ?_
       refine Yt c5 ?_
       refine Yt c5 ?_
       refine Yt c5 ?_
       refine Yt c5 ?_
       refine Yt c5 ?_
       refine Yt c5 ?_
       refine Yg c4 (o_pick_t rfl hh c5 hh) ?_
       refine Yy (o_pick_t rfl hh c4 hh) ?_
       revert H; refine bs fun y6 h6 H => ?_
       rcases y6 with y6 | pv4 <;> dsimp only at H
       ·
        refine T_call trivial rfl rfl rfl (has rfl) (HasL.cons (has rfl) HasL.nil) rfl ty_cb_84 (scope_want_w true (Sum.inl y6) h6).s rfl ?_
        refine T_nil ?_
        refine T_in_n ?_
        refine T_then_n ?_
        exact T_meet (()) (Option.some.inj H).symm (Sc (Sc (Sc (Sc SubT.nil)))) rfl
       ·
        refine T_callP trivial rfl (has rfl) (HasL.cons (has rfl) HasL.nil) rfl ty_cb_84 (scope_want_w true (Sum.inr pv4) h6).pan rfl ?_
        refine T_in_panic ?_
        refine T_then_panic ?_
        revert H; refine bs fun r4 H e4 => ?_
        have e4 := Option.some.inj e4; subst e4; have Hr3 := Option.some.inj Hr3; subst Hr3
        refine T_then_panic ?_
        refine T_in_panic ?_
        refine T_then_panic ?_
        revert H; refine bs fun r5 H e5 => ?_
        have e5 := Option.some.inj e5; subst e5; have Hr2 := Option.some.inj Hr2; subst Hr2
        cases H
        exact T_inr
      ·
       refine Yg c5 (o_fieldB 0 rfl hh ty_fa_26_0 rfl) ?_
       refine Yh 0 rfl c5 (o_loadB rfl hh ty_sc_22 rfl Ent.rfl) ?_
       refine Yg c5 (o_move rfl hh) ?_
       revert H; refine bs fun z1 h7 H => ?_
       refine Yg c5 (o_sub rfl hh hh h7) ?_
       revert H; refine bs fun y7 h8 H => ?_
       refine Yg c5 (o_index rfl hh hh ty_el_22 h8) ?_
       refine Yg c5 (o_load rfl hh ty_sc_9 rfl) ?_
       refine Yg c5 (o_move rfl hh) ?_
       refine Yg c5 (o_lssS rfl hh hh) ?_
       refine Yg c4 (o_pick_f rfl hh c5 hh) ?_
       refine Yy (o_pick_t rfl hh c4 hh) ?_
       revert H; refine bs fun y8 h9 H => ?_
       rcases y8 with y8 | pv5 <;> dsimp only at H
       ·
        refine T_call trivial rfl rfl rfl (has rfl) (HasL.cons (has rfl) HasL.nil) rfl ty_cb_84 (scope_want_w (slt y7 y4) (Sum.inl y8) h9).s rfl ?_
        refine T_nil ?_
        refine T_in_n ?_
        refine T_then_n ?_
        exact T_meet (()) (Option.some.inj H).symm (Sc (Sc (Sc (Sc SubT.nil)))) rfl
       ·
        refine T_callP trivial rfl (has rfl) (HasL.cons (has rfl) HasL.nil) rfl ty_cb_84 (scope_want_w (slt y7 y4) (Sum.inr pv5) h9).pan rfl ?_
        refine T_in_panic ?_
        refine T_then_panic ?_
        revert H; refine bs fun r6 H e6 => ?_
        have e6 := Option.some.inj e6; subst e6; have Hr3 := Option.some.inj Hr3; subst Hr3
        refine T_then_panic ?_
        refine T_in_panic ?_
        refine T_then_panic ?_
        revert H; refine bs fun r7 H e7 => ?_
        have e7 := Option.some.inj e7; subst e7; have Hr2 := Option.some.inj Hr2; subst Hr2
        cases H
        exact T_inr
     ·
      refine Yf c4 ?_
      refine Yf c4 ?_
      refine Yf c4 ?_
      refine T_skipop (⟨_, _, _, _, rfl, rfl, rfl, nu⟩) rfl rfl ?_
      refine T_skipop (⟨_, _, _, _, rfl, rfl, rfl, nu⟩) rfl rfl ?_
      refine T_skipop (⟨_, _, _, _, rfl, rfl, rfl, nu⟩) rfl rfl ?_
      refine T_skipop (⟨_, _, _, _, rfl, rfl, rfl, nu⟩) rfl rfl ?_
      refine T_skipop (⟨_, _, _, _, rfl, rfl, rfl, nu⟩) rfl rfl ?_
      refine T_skipop (⟨_, _, _, _, rfl, rfl, rfl, nu⟩) rfl rfl ?_
      refine T_skipop (⟨_, _, _, _, rfl, rfl, rfl, nu⟩) rfl rfl ?_
      refine T_skipop (⟨_, _, _, _, rfl, rfl, rfl, nu⟩) rfl rfl ?_
      refine Yf c4 ?_
      refine Yy (o_pick_f rfl hh c4 hh) ?_
      revert H; refine bs fun y9 h10 H => ?_
      rcases y9 with y9 | pv6 <;> dsimp only at H
      ·
       refine T_call trivial rfl rfl rfl (has rfl) (HasL.cons (has rfl) HasL.nil) rfl ty_cb_84 (scope_want_w false (Sum.inl y9) h10).s rfl ?_
       refine T_nil ?_
       refine T_in_n ?_
       refine T_then_n ?_
       exact T_meet (()) (Option.some.inj H).symm (Sc (Sc (Sc (Sc SubT.nil)))) rfl
      ·
       refine T_callP trivial rfl (has rfl) (HasL.cons (has rfl) HasL.nil) rfl ty_cb_84 (scope_want_w false (Sum.inr pv6) h10).pan rfl ?_
       refine T_in_panic ?_
       refine T_then_panic ?_
       revert H; refine bs fun r8 H e8 => ?_
       have e8 := Option.some.inj e8; subst e8; have Hr3 := Option.some.inj Hr3; subst Hr3
       refine T_then_panic ?_
       refine T_in_panic ?_
       refine T_then_panic ?_
       revert H; refine bs fun r9 H e9 => ?_
       have e9 := Option.some.inj e9; subst e9; have Hr2 := Option.some.inj Hr2; subst Hr2
       cases H
       exact T_inr
    ·
     clear H; intro i hi; subst o3; have H := Hr3; clear Hr3; try dsimp only at H
     show T β _ _ [(1, fEq (.pointer (some ⟨b1, 0, none⟩))), (24, fSl tStr a0.Free), (25, fInt .i64 (a0.Free.length : Int)), (26, fInt .i64 x2)] [tBlk b1 26 [fSl tStr a0.Free, fSl tScopeNode a0.Nodes, fSl tScopeDef a0.Defs, fInt .i64 a0.Main]] _
     refine T_region ?_
     revert H; refine bs fun z2 h11 H => ?_
     refine Yy (o_add rfl hh hh h11) ?_
     refine Ym ?_
     refine Nn ?_
     exact T_meet ((k1, z2)) ⟨H, Nat.lt_succ_self _⟩ (Sc (Sc (Sc (Sc SubT.nil)))) rfl
   ·
    refine T_cond_f (has rfl) c3 ?_
    refine T_exit ?_
    refine T_then_exit ?_
    refine T_then_exit ?_
    refine T_in_hit ?_
    refine T_then_n ?_
    exact T_meet (()) (Option.some.inj H).symm (Sc SubT.nil) rfl
  ·
   clear H; intro i hi; subst o2; have H := Hr2; clear Hr2; try dsimp only at H
   show T β _ _ [(1, fEq (.pointer (some ⟨b1, 0, none⟩)))] [tBlk b1 26 [fSl tStr a0.Free, fSl tScopeNode a0.Nodes, fSl tScopeDef a0.Defs, fInt .i64 a0.Main]] _
   refine T_seq ?_
   revert H; refine bs fun y10 h12 H => ?_
   revert H; refine bs fun y11 h13 H => ?_
   revert H; refine bs fun y12 h14 H => ?_
   refine T_net 16 [fun _ => .op [0] false (fun _ => fAgg [fSl tStr a0.Free, fSl tScopeNode a0.Nodes, fSl tScopeDef a0.Defs, fInt .i64 a0.Main]) (fun _ => [tEmp]), fun _ => .op [] false (fun _ => fEq (.pointer (some ⟨b1, 1, none⟩))) (fun _ => []), fun _ => .op [0] false (fun _ => fSl tScopeNode a0.Nodes) (fun _ => [tEmp]), fun _ => .op [] false (fun _ => fInt .i64 (a0.Nodes.length : Int)) (fun _ => []), fun _ => .op [1] true (fun c => fEq (.slice (some ⟨c.n, 0, none⟩) y10.length y10.length)) (fun c => [tRow (.slice (some ⟨c.n, 0, none⟩) y10.length y10.length) 3 (tInt .i64) y10]), fun _ => .op [] false (fun _ => fEq (.pointer (some ⟨b1, 1, none⟩))) (fun _ => []), fun _ => .op [0] false (fun _ => fSl tScopeNode a0.Nodes) (fun _ => [tEmp]), fun _ => .op [] false (fun _ => fInt .i64 (a0.Nodes.length : Int)) (fun _ => []), fun _ => .op [2] true (fun c => fEq (.slice (some ⟨c.n, 0, none⟩) y11.length y11.length)) (fun c => [tRow (.slice (some ⟨c.n, 0, none⟩) y11.length y11.length) 4 tBool y11]), fun _ => .op [] false (fun _ => fEq (.pointer (some ⟨b1, 2, none⟩))) (fun _ => []), fun _ => .op [0] false (fun _ => fSl tScopeDef a0.Defs) (fun _ => [tEmp]), fun _ => .op [] false (fun _ => fInt .i64 (a0.Defs.length : Int)) (fun _ => []), fun _ => .op [3] true (fun c => fEq (.slice (some ⟨c.n, 0, none⟩) y12.length y12.length)) (fun c => [tRow (.slice (some ⟨c.n, 0, none⟩) y12.length y12.length) 4 tBool y12]), fun e => .op [] false (fun _ => fAgg [fSl tStr a0.Free, fSl tScopeNode a0.Nodes, fSl tScopeDef a0.Defs, fInt .i64 a0.Main, fEq (.slice (some ⟨(e 4).n, 0, none⟩) y10.length y10.length), fEq (.slice (some ⟨(e 8).n, 0, none⟩) y11.length y11.length), fEq (.slice (some ⟨(e 12).n, 0, none⟩) y12.length y12.length)]) (fun _ => []), fun e => .op [4] true (fun c => fEq (ptr c.n)) (fun c => [tBlk c.n 137 [fSl tStr a0.Free, fSl tScopeNode a0.Nodes, fSl tScopeDef a0.Defs, fInt .i64 a0.Main, fEq (.slice (some ⟨(e 4).n, 0, none⟩) y10.length y10.length), fEq (.slice (some ⟨(e 8).n, 0, none⟩) y11.length y11.length), fEq (.slice (some ⟨(e 12).n, 0, none⟩) y12.length y12.length)]]), fun e => .op [] false (fun _ => fEq (.pointer (some ⟨(e 14).n, 0, none⟩))) (fun _ => [])] [([0], false, []), ([], false, []), ([0], false, []), ([], false, []), ([1], true, []), ([], false, []), ([0], false, []), ([], false, []), ([2], true, []), ([], false, []), ([0], false, []), ([], false, []), ([3], true, []), ([], false, [4, 8, 12]), ([4], true, [4, 8, 12]), ([], false, [14])] 4 5 mixed (F0 (F0 (F0 (F0 (F0 (F0 (F0 (F0 (F0 (F0 (F0 (F0 (F0 (FitsL.cons (fits3 (i := 4) (k := 8) (l := 12) (od := fun c4 c8 c12 => .op [] false (fun _ => fAgg [fSl tStr a0.Free, fSl tScopeNode a0.Nodes, fSl tScopeDef a0.Defs, fInt .i64 a0.Main, fEq (.slice (some ⟨c4.n, 0, none⟩) y10.length y10.length), fEq (.slice (some ⟨c8.n, 0, none⟩) y11.length y11.length), fEq (.slice (some ⟨c12.n, 0, none⟩) y12.length y12.length)]) (fun _ => [])) (fun _ _ _ => ⟨rfl, rfl⟩)) (FitsL.cons (fits3 (i := 4) (k := 8) (l := 12) (od := fun c4 c8 c12 => .op [4] true (fun c => fEq (ptr c.n)) (fun c => [tBlk c.n 137 [fSl tStr a0.Free, fSl tScopeNode a0.Nodes, fSl tScopeDef a0.Defs, fInt .i64 a0.Main, fEq (.slice (some ⟨c4.n, 0, none⟩) y10.length y10.length), fEq (.slice (some ⟨c8.n, 0, none⟩) y11.length y11.length), fEq (.slice (some ⟨c12.n, 0, none⟩) y12.length y12.length)]])) (fun _ _ _ => ⟨rfl, rfl⟩)) (FitsL.cons (fits1 (i := 14) (od := fun c14 => .op [] false (fun _ => fEq (.pointer (some ⟨c14.n, 0, none⟩))) (fun _ => [])) (fun _ => ⟨rfl, rfl⟩)) FitsL.nil)))))))))))))))) (by kernel_rfl) rfl rfl (by kernel_rfl) rfl ?_
   dsimp only [netL, List.take, List.replicate, List.append, List.drop]
   refine N_op (ps := [0]) (φ := fAgg [fSl tStr a0.Free, fSl tScopeNode a0.Nodes, fSl tScopeDef a0.Defs, fInt .i64 a0.Main]) rfl (fun _ => rfl) trivial rfl rfl (o_loadBS rfl (has rfl) ty_ag_26 rfl rfl) (fun _ => ?_)
   refine N_y (φ := fEq (.pointer (some ⟨b1, 1, none⟩))) rfl (fun _ => rfl) trivial rfl (o_fieldB 1 rfl (has rfl) ty_fa_26_1 rfl) (fun _ => ?_)
   refine N_op (ps := [0]) (φ := fSl tScopeNode a0.Nodes) rfl (fun _ => rfl) trivial rfl rfl (o_loadB rfl (has rfl) ty_sc_23 rfl Ent.rfl) (fun _ => ?_)
   refine My (h := o_len rfl hh ty_us_23) (k := fun _ => ?_)
   refine N_new (p := 1) (f := fun b2 => .slice (some ⟨b2, 0, none⟩) y10.length y10.length) (τ := fun b2 => tRow (.slice (some ⟨b2, 0, none⟩) y10.length y10.length) 3 (tInt .i64) y10) rfl (fun _ => rfl) (fun _ => rfl) trivial rfl rfl (n_make (t := (tInt .i64)) (z := 0) rfl (has rfl) ty_et_46 rfl ty_ze_3 rfl h12) (fun b2 u1 => ?_)
   refine N_y (φ := fEq (.pointer (some ⟨b1, 1, none⟩))) rfl (fun _ => rfl) trivial rfl (o_fieldB 1 rfl (has rfl) ty_fa_26_1 rfl) (fun _ => ?_)
   refine N_op (ps := [0]) (φ := fSl tScopeNode a0.Nodes) rfl (fun _ => rfl) trivial rfl rfl (o_loadB rfl (has rfl) ty_sc_23 rfl Ent.rfl) (fun _ => ?_)
   refine My (h := o_len rfl hh ty_us_23) (k := fun _ => ?_)
   refine N_new (p := 2) (f := fun b3 => .slice (some ⟨b3, 0, none⟩) y11.length y11.length) (τ := fun b3 => tRow (.slice (some ⟨b3, 0, none⟩) y11.length y11.length) 4 tBool y11) rfl (fun _ => rfl) (fun _ => rfl) trivial rfl rfl (n_make (t := tBool) (z := false) rfl (has rfl) ty_et_119 rfl ty_ze_4 rfl h13) (fun b3 u2 => ?_)
   refine N_y (φ := fEq (.pointer (some ⟨b1, 2, none⟩))) rfl (fun _ => rfl) trivial rfl (o_fieldB 2 rfl (has rfl) ty_fa_26_2 rfl) (fun _ => ?_)
   refine N_op (ps := [0]) (φ := fSl tScopeDef a0.Defs) rfl (fun _ => rfl) trivial rfl rfl (o_loadB rfl (has rfl) ty_sc_24 rfl Ent.rfl) (fun _ => ?_)
   refine My (h := o_len rfl hh ty_us_24) (k := fun _ => ?_)
   refine N_new (p := 3) (f := fun b4 => .slice (some ⟨b4, 0, none⟩) y12.length y12.length) (τ := fun b4 => tRow (.slice (some ⟨b4, 0, none⟩) y12.length y12.length) 4 tBool y12) rfl (fun _ => rfl) (fun _ => rfl) trivial rfl rfl (n_make (t := tBool) (z := false) rfl (has rfl) ty_et_119 rfl ty_ze_4 rfl h14) (fun b4 u3 => ?_)
   refine N_y (φ := fAgg [fSl tStr a0.Free, fSl tScopeNode a0.Nodes, fSl tScopeDef a0.Defs, fInt .i64 a0.Main, fEq (.slice (some ⟨b2, 0, none⟩) y10.length y10.length), fEq (.slice (some ⟨b3, 0, none⟩) y11.length y11.length), fEq (.slice (some ⟨b4, 0, none⟩) y12.length y12.length)]) rfl (fun _ => rfl) trivial rfl (o_build (ψs := [fSl tStr a0.Free, fSl tScopeNode a0.Nodes, fSl tScopeDef a0.Defs, fInt .i64 a0.Main, fEq (.slice (some ⟨b2, 0, none⟩) y10.length y10.length), fEq (.slice (some ⟨b3, 0, none⟩) y11.length y11.length), fEq (.slice (some ⟨b4, 0, none⟩) y12.length y12.length)]) rfl ty_bu_137 rfl (Parts.cons (has rfl) part_agg (Parts.cons (has rfl) (part_leaf (leaf_eq trivial)) (Parts.cons (has rfl) (part_leaf (leaf_eq trivial)) (Parts.cons (has rfl) (part_leaf (leaf_eq trivial)) Parts.nil)))) rfl) (fun _ => ?_)
   refine N_new (p := 4) (f := fun b5 => ptr b5) (τ := fun b5 => tBlk b5 137 [fSl tStr a0.Free, fSl tScopeNode a0.Nodes, fSl tScopeDef a0.Defs, fInt .i64 a0.Main, fEq (.slice (some ⟨b2, 0, none⟩) y10.length y10.length), fEq (.slice (some ⟨b3, 0, none⟩) y11.length y11.length), fEq (.slice (some ⟨b4, 0, none⟩) y12.length y12.length)]) rfl (fun _ => rfl) (fun _ => rfl) trivial rfl rfl (n_box rfl (has rfl) part_agg) (fun b5 u4 => ?_)
   refine N_y (φ := fEq (.pointer (some ⟨b5, 0, none⟩))) rfl (fun _ => rfl) trivial rfl (o_assign rfl (has rfl)) (fun _ => ?_)
   refine N_done rfl ?_
   generalize hv_v1 : (Value.slice (some ⟨b2, 0, none⟩) _ _) = v1; clear hv_v1
   refine T_rowCell 1 rfl (fun hc_v1 => ?_)
   generalize hv_v2 : (Value.slice (some ⟨b3, 0, none⟩) _ _) = v2; clear hv_v2
   refine T_rowCell 2 rfl (fun hc_v2 => ?_)
   generalize hv_v3 : (Value.slice (some ⟨b4, 0, none⟩) _ _) = v3; clear hv_v3
   refine T_rowCell 3 rfl (fun hc_v3 => ?_)
   refine Nn ?_
   refine Sr ?_
   refine Ym ?_
   refine Yy (o_fieldB 3 rfl hh ty_fa_26_3 rfl) ?_
   refine Yo 0 rfl (o_loadB rfl hh ty_sc_3 rfl Ent.rfl) ?_
   refine Yy (o_fieldB 0 rfl hh ty_fa_26_0 rfl) ?_
   refine Yo 0 rfl (o_loadB rfl hh ty_sc_22 rfl Ent.rfl) ?_
   refine Yy (o_len rfl hh ty_us_22) ?_
   refine T_fr3 ?_
   refine T_fr3 ?_
   refine T_fr3 ?_
   refine T_fr4 ?_
   refine close_Scope_looker (x := (⟨(⟨a0.Free, a0.Nodes, a0.Defs, a0.Main⟩ : ScopeProg), y10, y11, y12⟩ : Scope_looker)) ?_
   revert H; refine bs fun y13 h15 H => ?_
   rcases y13 with y13 | pv7 <;> dsimp only at H
   ·
    refine T_call trivial rfl rfl rfl (has rfl) (HasL.cons (has rfl) (HasL.cons (has rfl) (HasL.cons (has rfl) HasL.nil))) rfl ty_cb_86 (scope_looker_node_w fuel b5 (⟨(⟨a0.Free, a0.Nodes, a0.Defs, a0.Main⟩ : ScopeProg), y10, y11, y12⟩ : Scope_looker) a0.Main (a0.Free.length : Int) (Sum.inl y13) h15).s rfl ?_
    refine open_Scope_looker (fun v4 v5 v6 => ?_)
    refine T_rowCell 1 rfl (fun hc_v4 => ?_)
    refine T_rowCell 2 rfl (fun hc_v5 => ?_)
    refine T_rowCell 3 rfl (fun hc_v6 => ?_)
    refine Nn ?_
    revert H; refine bs fun o4 H Hr4 => ?_
    refine T_seqJ (ι := List Bool) (fun i => o4 = Sum.inl i) (fun i => [(5, fEq (.pointer (some ⟨b5, 0, none⟩)))]) (fun i => [tBlk b5 137 [fSl tStr y13.p.Free, fSl tScopeNode y13.p.Nodes, fSl tScopeDef y13.p.Defs, fInt .i64 y13.p.Main, fEq v4, fSl tBool y13.met, fSl tBool i], tBlk b1 26 [fSl tStr a0.Free, fSl tScopeNode a0.Nodes, fSl tScopeDef a0.Defs, fInt .i64 a0.Main], tRow v4 3 (tInt .i64) y13.sizes]) ?_ ?_
    ·
     refine T_region ?_
     refine Ym ?_
     refine Yy (o_nilCheck rfl (has rfl) (fun m v h => ⟨_, h⟩)) ?_
     refine Yy (o_fieldB 5 rfl hh ty_fa_137_2 rfl) ?_
     refine Yo 0 rfl (o_loadB rfl hh ty_sc_119 rfl Ent.rfl) ?_
     refine T_fr2 ?_
     refine T_freeze (φ := fSl tBool y13.met) (v := v5) [74] frz_row (by intro s hs; simp only [List.mem_cons, List.not_mem_nil, or_false] at hs; rcases hs with rfl <;> rfl) ?_
     refine T_leafPure (φs' := [fSl tStr y13.p.Free, fSl tScopeNode y13.p.Nodes, fSl tScopeDef y13.p.Defs, fInt .i64 y13.p.Main, fEq v4, fSl tBool y13.met, fEq v6]) (i := 5) rfl rfl ?_
     refine T_dropT ?_
     revert H; refine bs fun y14 h16 H => ?_
     refine T_call trivial rfl rfl rfl (has rfl) (HasL.cons (has rfl) (HasL.cons (has rfl) HasL.nil)) rfl ty_cb_87 (slices_Contains_Lbool_bool_w fuel y13.met false y14 h16) rfl ?_
     refine Yy (o_not rfl hh) ?_
     refine Ym ?_
     revert H; refine cs (fun c6 H => ?_) fun c6 H => ?_
     ·
      refine Yg c6 (o_move rfl hh) ?_
      refine Yg c6 (o_nilCheck rfl (has rfl) (fun m v h => ⟨_, h⟩)) ?_
      refine Yg c6 (o_fieldB 6 rfl hh ty_fa_137_3 rfl) ?_
      refine Yh 0 rfl c6 (o_loadB rfl hh ty_sc_119 rfl Ent.rfl) ?_
      refine T_fr2 ?_
      refine T_freeze (φ := fSl tBool y13.defs) (v := v6) [81] frz_row (by intro s hs; simp only [List.mem_cons, List.not_mem_nil, or_false] at hs; rcases hs with rfl <;> rfl) ?_
      refine T_leafPure (φs' := [fSl tStr y13.p.Free, fSl tScopeNode y13.p.Nodes, fSl tScopeDef y13.p.Defs, fInt .i64 y13.p.Main, fEq v4, fSl tBool y13.met, fSl tBool y13.defs]) (i := 6) rfl rfl ?_
      refine T_dropT ?_
      revert H; refine bs fun y15 h17 H => ?_
      refine T_call ⟨_, _, rfl, rfl, c6⟩ rfl rfl rfl (has rfl) (HasL.cons (has rfl) (HasL.cons (has rfl) HasL.nil)) rfl ty_cb_87 (slices_Contains_Lbool_bool_w fuel y13.defs false y15 h17) rfl ?_
      refine Yg c6 (o_not rfl hh) ?_
      refine Yy (o_pick_t rfl hh c6 hh) ?_
      revert H; refine bs fun y16 h18 H => ?_
      rcases y16 with y16 | pv8 <;> dsimp only at H
      ·
       refine T_call trivial rfl rfl rfl (has rfl) (HasL.cons (has rfl) HasL.nil) rfl ty_cb_84 (scope_want_w (!y15) (Sum.inl y16) h18).s rfl ?_
       refine Nn ?_
       refine T_pick [0, 2, 1] (by decide) ?_
       exact T_meet (y13.defs) (Option.some.inj H).symm (Sc SubT.nil) rfl
      ·
       refine T_callP trivial rfl (has rfl) (HasL.cons (has rfl) HasL.nil) rfl ty_cb_84 (scope_want_w (!y15) (Sum.inr pv8) h18).pan rfl ?_
       refine T_then_panic ?_
       revert H; refine bs fun r10 H e10 => ?_
       have e10 := Option.some.inj e10; subst e10; have Hr4 := Option.some.inj Hr4; subst Hr4
       cases H
       exact T_inr
     ·
      refine Yf c6 ?_
      refine Yf c6 ?_
      refine Yf c6 ?_
      refine Yf c6 ?_
      refine Yf c6 ?_
      refine Yf c6 ?_
      refine Yy (o_pick_f rfl hh c6 hh) ?_
      revert H; refine bs fun y17 h19 H => ?_
      rcases y17 with y17 | pv9 <;> dsimp only at H
      ·
       refine T_call trivial rfl rfl rfl (has rfl) (HasL.cons (has rfl) HasL.nil) rfl ty_cb_84 (scope_want_w false (Sum.inl y17) h19).s rfl ?_
       refine Nn ?_
       refine T_fr2 ?_
       refine T_freeze (φ := fSl tBool y13.defs) (v := v6) [] frz_row (fun _ h => nomatch h) ?_
       refine T_leafPure (φs' := [fSl tStr y13.p.Free, fSl tScopeNode y13.p.Nodes, fSl tScopeDef y13.p.Defs, fInt .i64 y13.p.Main, fEq v4, fSl tBool y13.met, fSl tBool y13.defs]) (i := 6) rfl rfl ?_
       refine T_dropT ?_
       refine T_pick [0, 2, 1] (by decide) ?_
       exact T_meet (y13.defs) (Option.some.inj H).symm (Sc SubT.nil) rfl
      ·
       refine T_callP trivial rfl (has rfl) (HasL.cons (has rfl) HasL.nil) rfl ty_cb_84 (scope_want_w false (Sum.inr pv9) h19).pan rfl ?_
       refine T_then_panic ?_
       revert H; refine bs fun r11 H e11 => ?_
       have e11 := Option.some.inj e11; subst e11; have Hr4 := Option.some.inj Hr4; subst Hr4
       cases H
       exact T_inr
    ·
     clear H; intro x3 hi; subst o4; have H := Hr4; clear Hr4; try dsimp only at H
     show T β _ _ [(5, fEq (.pointer (some ⟨b5, 0, none⟩)))] [tBlk b5 137 [fSl tStr y13.p.Free, fSl tScopeNode y13.p.Nodes, fSl tScopeDef y13.p.Defs, fInt .i64 y13.p.Main, fEq v4, fSl tBool y13.met, fSl tBool x3], tBlk b1 26 [fSl tStr a0.Free, fSl tScopeNode a0.Nodes, fSl tScopeDef a0.Defs, fInt .i64 a0.Main], tRow v4 3 (tInt .i64) y13.sizes] _
     refine Sr ?_
     refine Ym ?_
     refine Ya ?_
     refine Nn ?_
     refine T_retc ?_
     refine T_fr2 ?_
     refine T_freeze (φ := fSl (tInt .i64) y13.sizes) (v := v4) [] frz_row (fun _ h => nomatch h) ?_
     refine T_leafPure (φs' := [fSl tStr y13.p.Free, fSl tScopeNode y13.p.Nodes, fSl tScopeDef y13.p.Defs, fInt .i64 y13.p.Main, fSl (tInt .i64) y13.sizes, fSl tBool y13.met, fSl tBool x3]) (i := 4) rfl rfl ?_
     refine T_dropT ?_
     refine T_freeze (φ := fPtr tScope_looker (⟨(⟨y13.p.Free, y13.p.Nodes, y13.p.Defs, y13.p.Main⟩ : ScopeProg), y13.sizes, y13.met, x3⟩ : Scope_looker)) (v := ptr b5) [5, 86, 2] (frz_blk EntL.rfl) (by intro s hs; simp only [List.mem_cons, List.not_mem_nil, or_false] at hs; rcases hs with rfl | rfl | rfl <;> rfl) ?_
     refine T_dropT ?_
     cases H
     refine T_inl ?_
     refine T_pick [] (by decide) ?_
     exact T_out1 rfl (hasS rfl) rfl
   ·
    refine T_callP trivial rfl (has rfl) (HasL.cons (has rfl) (HasL.cons (has rfl) (HasL.cons (has rfl) HasL.nil))) rfl ty_cb_86 (scope_looker_node_w fuel b5 (⟨(⟨a0.Free, a0.Nodes, a0.Defs, a0.Main⟩ : ScopeProg), y10, y11, y12⟩ : Scope_looker) a0.Main (a0.Free.length : Int) (Sum.inr pv7) h15).pan rfl ?_
    refine T_then_panic ?_
    cases H
    exact T_inr
def scope_looked_bool_S (fuel : Nat) (a0 : ScopeProg) (a1 : Scope_looker → Option Bool) : Option (Bool × Int) :=
 (scope_look_S fuel (⟨a0.Free, a0.Nodes, a0.Defs, a0.Main⟩ : ScopeProg)).bind fun y1 =>
 match y1 with
 | Sum.inr pv1 => (unI 149 pv1).bind fun e1 => some (false, e1)
 | Sum.inl y1 =>
 (a1 y1).bind fun y2 =>
 some (y2, 0)
theorem scope_looked_bool_w (fuel : Nat)  (a0 : ScopeProg) (a1 : Scope_looker → Option Bool) (r : Bool × Int) (H : scope_looked_bool_S fuel a0 a1 = some r) : FnS Try.prog 49 [fSt tScopeProg a0, fFn Try.prog (fun (x : Scope_looker) => [fPtr tScope_looker x]) (fun (r : Bool) => fBool r) a1] [] (fTup [fBool r.1, fInt .i64 r.2]) (fun _ => []) := by
 unfold scope_looked_bool_S at H
 refine FnS_ofM Try.func49 rfl Try.ntmps49 rfl (fun β => ?_)
 refine Sr ?_
 refine T_new trivial rfl rfl (n_box rfl (has rfl) part_agg) (fun b1 => ?_)
 refine Ya ?_
 refine T_new trivial rfl rfl (n_alloc rfl ty_ze_29 rfl) (fun b2 => ?_)
 refine Nn ?_
 refine Sr ?_
 refine T_defer trivial rfl rfl (Exacts.cons (has rfl) Exacts.nil) ?_
 refine Nn ?_
 refine Sr ?_
 refine Ym ?_
 refine Yo 1 rfl (o_loadBS rfl hh ty_ag_26 rfl rfl) ?_
 revert H; refine bs fun y1 h1 H => ?_
 rcases y1 with y1 | pv1 <;> dsimp only at H
 ·
  refine T_call trivial rfl rfl rfl (has rfl) (HasL.cons (has rfl) HasL.nil) rfl ty_cb_73 (scope_look_w fuel (⟨a0.Free, a0.Nodes, a0.Defs, a0.Main⟩ : ScopeProg) (Sum.inl y1) h1).s rfl ?_
  revert H; refine bs fun y2 h2 H => ?_
  refine T_callF y1 trivial rfl rfl rfl (has rfl) (HasL.cons (has rfl) HasL.nil) h2 ?_
  refine Ya ?_
  refine T_store (φs' := [fInt .i64 0]) trivial rfl rfl (has rfl) (has rfl) (leaf_eq trivial) ty_sz_29 rfl rfl ?_
  refine Nn ?_
  refine T_retc ?_
  cases H
  refine T_pick [0] (by decide) ?_
  exact T_outDret (T_outD (u := .returning) (by simp) rfl (hasS rfl) rfl ty_sc_29 ty_cb_72 (scope_caught_ret b2 0) rfl rfl)
 ·
  refine T_callP trivial rfl (has rfl) (HasL.cons (has rfl) HasL.nil) rfl ty_cb_73 (scope_look_w fuel (⟨a0.Free, a0.Nodes, a0.Defs, a0.Main⟩ : ScopeProg) (Sum.inr pv1) h1).pan rfl ?_
  refine T_then_panic ?_
  have H0 := H; clear H; obtain ⟨e1, h3, H⟩ := bind_some H0; clear H0; have hv_e1 := unI_some h3; subst hv_e1
  cases H
  refine T_pick [0] (by decide) ?_
  exact T_outDpan (T_outD (u := .panicking [{ v := .iface 149 (.agg #[.int .i64 e1]), recovered := false }]) (by simp) rfl (hasS rfl) rfl ty_sc_29 ty_cb_72 (scope_caught_pan b2 0 e1) rfl rfl)
def scope_Check_1_S (a0 : Scope_looker) : Option (Bool) :=
 some true
theorem scope_Check_1_w  (a0 : Scope_looker) (r : Bool) (H : scope_Check_1_S a0 = some r) : FnS Try.prog 50 [fPtr tScope_looker a0] [] (fBool r) (fun _ => []) := by
 unfold scope_Check_1_S at H
 refine FnS_of Try.func50 rfl Try.ntmps50 rfl (fun β => ?_)
 refine Sr ?_
 refine Ya ?_
 refine Nn ?_
 refine Sr ?_
 refine Ya ?_
 refine Nn ?_
 refine T_retc ?_
 cases H
 exact T_out1 rfl (hasS rfl) rfl
def scope_Check_S (fuel : Nat) (a0 : ScopeProg) : Option (Int) :=
 (scope_looked_bool_S fuel (⟨a0.Free, a0.Nodes, a0.Defs, a0.Main⟩ : ScopeProg) (fun x => scope_Check_1_S x)).bind fun y1 =>
 some y1.2
theorem scope_Check_w (fuel : Nat)  (a0 : ScopeProg) (r : Int) (H : scope_Check_S fuel a0 = some r) : FnS Try.prog 21 [fSt tScopeProg a0] [] (fInt .i64 r) (fun _ => []) := by
 unfold scope_Check_S at H
 refine FnS_of Try.func21 rfl Try.ntmps21 rfl (fun β => ?_)
 refine Sr ?_
 refine T_new trivial rfl rfl (n_box rfl (has rfl) part_agg) (fun b1 => ?_)
 refine Ya ?_
 refine Nn ?_
 refine Sr ?_
 refine Yo 0 rfl (o_loadBS rfl hh ty_ag_26 rfl rfl) ?_
 revert H; refine bs fun y1 h1 H => ?_
 refine T_call trivial rfl rfl rfl (has rfl) (HasL.cons (has rfl) (HasL.cons (hasE rfl (ent_fn0 ty_cb_50 (fun x r hx => scope_Check_1_w x r hx))) HasL.nil)) rfl ty_cb_49 (scope_looked_bool_w fuel (⟨a0.Free, a0.Nodes, a0.Defs, a0.Main⟩ : ScopeProg) (fun x => scope_Check_1_S x) y1 h1) rfl ?_
 refine Ym ?_
 refine Yy (o_extract rfl hh rfl) ?_
 refine Yy (o_extract rfl hh rfl) ?_
 refine Ya ?_
 refine Ya ?_
 refine Nn ?_
 refine Sr ?_
 refine Ym ?_
 refine Ya ?_
 refine Nn ?_
 refine T_retc ?_
 cases H
 refine T_pick [] (by decide) ?_
 exact T_out1 rfl (hasS rfl) rfl
def scope_looked_Lint_S (fuel : Nat) (a0 : ScopeProg) (a1 : Scope_looker → Option (List Int)) : Option ((List Int) × Int) :=
 (scope_look_S fuel (⟨a0.Free, a0.Nodes, a0.Defs, a0.Main⟩ : ScopeProg)).bind fun y1 =>
 match y1 with
 | Sum.inr pv1 => (unI 149 pv1).bind fun e1 => some ([], e1)
 | Sum.inl y1 =>
 (a1 y1).bind fun y2 =>
 some (y2, 0)
theorem scope_looked_Lint_w (fuel : Nat)  (a0 : ScopeProg) (a1 : Scope_looker → Option (List Int)) (r : (List Int) × Int) (H : scope_looked_Lint_S fuel a0 a1 = some r) : FnS Try.prog 88 [fSt tScopeProg a0, fFn Try.prog (fun (x : Scope_looker) => [fPtr tScope_looker x]) (fun (r : List Int) => fSl (tInt .i64) r) a1] [] (fTup [fSl (tInt .i64) r.1, fInt .i64 r.2]) (fun _ => []) := by
 unfold scope_looked_Lint_S at H
 refine FnS_ofM Try.func88 rfl Try.ntmps88 rfl (fun β => ?_)
 refine Sr ?_
 refine T_new trivial rfl rfl (n_box rfl (has rfl) part_agg) (fun b1 => ?_)
 refine Ya ?_
 refine T_new trivial rfl rfl (n_alloc rfl ty_ze_29 rfl) (fun b2 => ?_)
 refine Nn ?_
 refine Sr ?_
 refine T_defer trivial rfl rfl (Exacts.cons (has rfl) Exacts.nil) ?_
 refine Nn ?_
 refine Sr ?_
 refine Ym ?_
 refine Yo 1 rfl (o_loadBS rfl hh ty_ag_26 rfl rfl) ?_
 revert H; refine bs fun y1 h1 H => ?_
 rcases y1 with y1 | pv1 <;> dsimp only at H
 ·
  refine T_call trivial rfl rfl rfl (has rfl) (HasL.cons (has rfl) HasL.nil) rfl ty_cb_73 (scope_look_w fuel (⟨a0.Free, a0.Nodes, a0.Defs, a0.Main⟩ : ScopeProg) (Sum.inl y1) h1).s rfl ?_
  revert H; refine bs fun y2 h2 H => ?_
  refine T_callF y1 trivial rfl rfl rfl (has rfl) (HasL.cons (has rfl) HasL.nil) h2 ?_
  refine Ya ?_
  refine T_store (φs' := [fInt .i64 0]) trivial rfl rfl (has rfl) (has rfl) (leaf_eq trivial) ty_sz_29 rfl rfl ?_
  refine Nn ?_
  refine T_retc ?_
  cases H
  refine T_pick [0] (by decide) ?_
  exact T_outDret (T_outD (u := .returning) (by simp) rfl (hasS rfl) rfl ty_sc_29 ty_cb_72 (scope_caught_ret b2 0) rfl rfl)
 ·
  refine T_callP trivial rfl (has rfl) (HasL.cons (has rfl) HasL.nil) rfl ty_cb_73 (scope_look_w fuel (⟨a0.Free, a0.Nodes, a0.Defs, a0.Main⟩ : ScopeProg) (Sum.inr pv1) h1).pan rfl ?_
  refine T_then_panic ?_
  have H0 := H; clear H; obtain ⟨e1, h3, H⟩ := bind_some H0; clear H0; have hv_e1 := unI_some h3; subst hv_e1
  cases H
  refine T_pick [0] (by decide) ?_
  exact T_outDpan (T_outD (u := .panicking [{ v := .iface 149 (.agg #[.int .i64 e1]), recovered := false }]) (by simp) rfl (hasSE rfl ent_nil) rfl ty_sc_29 ty_cb_72 (scope_caught_pan b2 0 e1) rfl rfl)
def scope_each_int_1_l1 (a0 : Scope_looker) (w0 : ScopeProg) (w1 : Scope_looker × Int → Option Int) : Nat → (List Int) → Int → Option (List Int)
| 0, _, _ => none
| k + 1, x4, x5 =>
 if x5 < (w0.Nodes.length : Int) then
  (w1 (a0, x5)).bind fun y1 =>
  (room (x4 ++ [y1])).bind fun z1 =>
  (chk (x5 + 1)).bind fun z2 =>
  scope_each_int_1_l1 a0 w0 w1 k z1 z2
 else
  some x4
def scope_each_int_1_S (fuel : Nat) (a0 : Scope_looker) (w0 : ScopeProg) (w1 : Scope_looker × Int → Option Int) : Option (List Int) :=
 (scope_each_int_1_l1 a0 w0 w1 fuel [] 0).bind fun x1 =>
 some x1
theorem scope_each_int_1_w (fuel : Nat)  (a0 : Scope_looker) (w0 : ScopeProg) (w1 : Scope_looker × Int → Option Int) (r : List Int) (H : scope_each_int_1_S fuel a0 w0 w1 = some r) : FnS Try.prog 89 [fPtr tScope_looker a0, fPtr tScopeProg w0, fPtr (tFn Try.prog (fun (x : Scope_looker × Int) => [fPtr tScope_looker x.1, fInt .i64 x.2]) (fun (r : Int) => fInt .i64 r)) w1] [] (fSl (tInt .i64) r) (fun _ => []) := by
 unfold scope_each_int_1_S at H
 refine FnS_of Try.func89 rfl Try.ntmps89 rfl (fun β => ?_)
 refine Sr ?_
 refine Ya ?_
 refine Nn ?_
 refine Sr ?_
 refine Ya ?_
 refine Nn ?_
 revert H; refine bs fun o1 H Hr1 => ?_
 refine T_seqJ (ι := List Int × Value) (fun i => o1 = i.1) (fun i => [(5, fEq i.2)]) (fun i => [tRow i.2 3 (tInt .i64) i.1]) ?_ ?_
 ·
  refine Sr ?_
  refine Yy (o_field (t' := (tSl tScopeNode)) (z := w0.Nodes) rfl hh ty_fa_26_1 rfl) ?_
  refine Yy (o_load rfl hh ty_sc_23 rfl) ?_
  refine Yy (o_len rfl hh ty_us_23) ?_
  refine Ym ?_
  refine Nn ?_
  refine T_block ?_
  refine T_nilRow (tInt .i64) 3 ?_
  refine T_loop (ι := Nat × List Int × Int × Value) (fun i => scope_each_int_1_l1 a0 w0 w1 i.1 i.2.1 i.2.2.1 = _) (fun i => i.1) (fun i => [(0, fPtr tScope_looker a0), (2, fPtr (tFn Try.prog (fun (x : Scope_looker × Int) => [fPtr tScope_looker x.1, fInt .i64 x.2]) (fun (r : Int) => fInt .i64 r)) w1), (5, fEq i.2.2.2), (9, fInt .i64 (w0.Nodes.length : Int)), (10, fInt .i64 i.2.2.1)]) (fun i => [tRow i.2.2.2 3 (tInt .i64) i.2.1]) (fuel, [], 0, (.slice none 0 0)) H (Sc (Sc (Sc (Sc (Sc SubT.nil))))) rfl ?_
  clear H; rintro ⟨k1, x4, x5, v3⟩ H
  replace H : scope_each_int_1_l1 a0 w0 w1 k1 x4 x5 = _ := H
  show T β _ _ [(0, fPtr tScope_looker a0), (2, fPtr (tFn Try.prog (fun (x : Scope_looker × Int) => [fPtr tScope_looker x.1, fInt .i64 x.2]) (fun (r : Int) => fInt .i64 r)) w1), (5, fEq v3), (9, fInt .i64 (w0.Nodes.length : Int)), (10, fInt .i64 x5)] [tRow v3 3 (tInt .i64) x4] _
  obtain _ | k1 := k1
  ·
   rw [scope_each_int_1_l1] at H; cases H
  rw [scope_each_int_1_l1] at H
  refine T_rowCell 0 rfl (fun hc_v3 => ?_)
  refine Sr ?_
  refine Yy (o_lss rfl hh hh) ?_
  refine Nn ?_
  refine T_seq ?_
  revert H; refine is (fun c1 H => ?_) fun c1 H => ?_
  ·
   refine T_cond_t (has rfl) c1 ?_
   refine T_skip ?_
   refine T_then_n ?_
   refine T_seq ?_
   refine T_block ?_
   refine Sr ?_
   refine Ym ?_
   refine Ya ?_
   refine Nn ?_
   refine T_region ?_
   refine Ym ?_
   refine Yy (o_load rfl hh ty_sc_138 rfl) ?_
   refine Ym ?_
   refine Ym ?_
   revert H; refine bs fun y1 h1 H => ?_
   refine T_callF (a0, x5) trivial rfl rfl rfl (has rfl) (HasL.cons (has rfl) (HasL.cons (has rfl) HasL.nil)) h1 ?_
   refine T_new trivial rfl rfl (n_buildSliceC (t := (tInt .i64)) (xs := [y1]) rfl ty_et_46 (PartsS.cons rfl (has rfl) (part_leaf (leaf_eq trivial)) PartsS.nil) rfl rfl rfl) (fun b1 => ?_)
   generalize hv_v4 : (Value.slice (some ⟨b1, 0, none⟩) _ _) = v4; clear hv_v4
   refine T_rowCell 0 rfl (fun hc_v4 => ?_)
   revert H; refine bs fun z1 h2 H => ?_
   refine T_appendR trivial rfl rfl rfl (has rfl) (has rfl) ty_et_46 rfl h2 (fun v5 => ?_)
   refine T_rowCell 0 rfl (fun hc_v5 => ?_)
   refine Ya ?_
   refine T_nil ?_
   refine T_in_n ?_
   refine T_then_n ?_
   refine T_region ?_
   revert H; refine bs fun z2 h3 H => ?_
   refine Yy (o_add rfl hh hh h3) ?_
   refine Ym ?_
   refine Nn ?_
   exact T_meet ((k1, z1, z2, v5)) ⟨H, Nat.lt_succ_self _⟩ (Sc (Sc (Sc (Sc (Sc SubT.nil))))) rfl
  ·
   refine T_cond_f (has rfl) c1 ?_
   refine T_exit ?_
   refine T_then_exit ?_
   refine T_then_exit ?_
   refine T_in_hit ?_
   refine T_then_n ?_
   exact T_meet ((x4, v3)) (Option.some.inj H).symm (Sc SubT.nil) rfl
 ·
  clear H; intro i hi; obtain ⟨x1, v1⟩ := i; subst o1; have H := Hr1; clear Hr1; try dsimp only at H
  show T β _ _ [(5, fEq v1)] [tRow v1 3 (tInt .i64) x1] _
  refine T_rowCell 0 rfl (fun hc_v1 => ?_)
  refine Sr ?_
  refine Ym ?_
  refine Ya ?_
  refine Nn ?_
  refine T_retc ?_
  refine T_freeze (φ := fSl (tInt .i64) x1) (v := v1) [5, 21, 4] frz_row (by intro s hs; simp only [List.mem_cons, List.not_mem_nil, or_false] at hs; rcases hs with rfl | rfl | rfl <;> rfl) ?_
  refine T_dropT ?_
  cases H
  exact T_out1 rfl (hasS rfl) rfl
def scope_each_int_S (fuel : Nat) (a0 : ScopeProg) (a1 : Scope_looker × Int → Option Int) : Option ((List Int) × Int) :=
 (scope_looked_Lint_S fuel (⟨a0.Free, a0.Nodes, a0.Defs, a0.Main⟩ : ScopeProg) (fun x => scope_each_int_1_S fuel x (⟨a0.Free, a0.Nodes, a0.Defs, a0.Main⟩ : ScopeProg) a1)).bind fun y1 =>
 some (y1.1, y1.2)
theorem scope_each_int_w (fuel : Nat)  (a0 : ScopeProg) (a1 : Scope_looker × Int → Option Int) (r : (List Int) × Int) (H : scope_each_int_S fuel a0 a1 = some r) : FnS Try.prog 74 [fSt tScopeProg a0, fFn Try.prog (fun (x : Scope_looker × Int) => [fPtr tScope_looker x.1, fInt .i64 x.2]) (fun (r : Int) => fInt .i64 r) a1] [] (fTup [fSl (tInt .i64) r.1, fInt .i64 r.2]) (fun _ => []) := by
 unfold scope_each_int_S at H
 refine FnS_of Try.func74 rfl Try.ntmps74 rfl (fun β => ?_)
 refine Sr ?_
 refine T_new trivial rfl rfl (n_box rfl (has rfl) part_agg) (fun b1 => ?_)
 refine T_new trivial rfl rfl (n_box rfl (has rfl) (part_leaf (leaf_fn))) (fun b2 => ?_)
 refine Ya ?_
 refine Ya ?_
 refine Nn ?_
 refine Sr ?_
 refine Yo 1 rfl (o_loadBS rfl hh ty_ag_26 rfl rfl) ?_
 refine T_fr1 ?_
 refine T_freeze (φ := fPtr tScopeProg (⟨a0.Free, a0.Nodes, a0.Defs, a0.Main⟩ : ScopeProg)) (v := ptr b1) [2] (frz_blk EntL.rfl) (by intro s hs; simp only [List.mem_cons, List.not_mem_nil, or_false] at hs; rcases hs with rfl <;> rfl) ?_
 refine T_dropT ?_
 refine T_freeze (φ := fPtr (tFn Try.prog (fun (x : Scope_looker × Int) => [fPtr tScope_looker x.1, fInt .i64 x.2]) (fun (r : Int) => fInt .i64 r)) a1) (v := ptr b2) [3] (frz_blk EntL.rfl) (by intro s hs; simp only [List.mem_cons, List.not_mem_nil, or_false] at hs; rcases hs with rfl <;> rfl) ?_
 refine T_dropT ?_
 refine Yy (o_clo rfl (HasL.cons hh (HasL.cons hh HasL.nil))) ?_
 revert H; refine bs fun y1 h1 H => ?_
 refine T_call trivial rfl rfl rfl (has rfl) (HasL.cons (has rfl) (HasL.cons (hasE rfl (ent_fn ty_cb_89 (fun x r hx => scope_each_int_1_w fuel x (⟨a0.Free, a0.Nodes, a0.Defs, a0.Main⟩ : ScopeProg) a1 r hx))) HasL.nil)) rfl ty_cb_88 (scope_looked_Lint_w fuel (⟨a0.Free, a0.Nodes, a0.Defs, a0.Main⟩ : ScopeProg) (fun x => scope_each_int_1_S fuel x (⟨a0.Free, a0.Nodes, a0.Defs, a0.Main⟩ : ScopeProg) a1) y1 h1) rfl ?_
 refine Yy (o_extract rfl hh rfl) ?_
 refine Yy (o_extract rfl hh rfl) ?_
 refine Ya ?_
 refine Ya ?_
 refine Nn ?_
 refine T_retc ?_
 cases H
 exact T_out2 rfl (hasS rfl) (hasS rfl) rfl
def scope_Sizes_1_S (a0 : Scope_looker) (a1 : Int) : Option (Int) :=
 (idx a0.sizes a1).bind fun y1 =>
 some y1
theorem scope_Sizes_1_w  (a0 : Scope_looker) (a1 : Int) (r : Int) (H : scope_Sizes_1_S a0 a1 = some r) : FnS Try.prog 75 [fPtr tScope_looker a0, fInt .i64 a1] [] (fInt .i64 r) (fun _ => []) := by
 unfold scope_Sizes_1_S at H
 refine FnS_of Try.func75 rfl Try.ntmps75 rfl (fun β => ?_)
 refine Sr ?_
 refine Ya ?_
 refine Nn ?_
 refine Sr ?_
 refine Ym ?_
 refine Yy (o_nilCheck rfl (has rfl) (fun m v ⟨p, h, _⟩ => ⟨p, h⟩)) ?_
 refine Yy (o_field (t' := (tSl (tInt .i64))) (z := a0.sizes) rfl hh ty_fa_137_1 rfl) ?_
 refine Yy (o_load rfl hh ty_sc_46 rfl) ?_
 refine Ym ?_
 revert H; refine bs fun y1 h1 H => ?_
 refine Yy (o_index rfl hh hh ty_el_46 h1) ?_
 refine Yy (o_load rfl hh ty_sc_3 rfl) ?_
 refine Ya ?_
 refine Nn ?_
 refine T_retc ?_
 cases H
 exact T_out1 rfl (hasS rfl) rfl
def scope_Sizes_S (fuel : Nat) (a0 : ScopeProg) : Option ((List Int) × Int) :=
 (scope_each_int_S fuel (⟨a0.Free, a0.Nodes, a0.Defs, a0.Main⟩ : ScopeProg) (fun x => scope_Sizes_1_S x.1 x.2)).bind fun y1 =>
 some (y1.1, y1.2)
theorem scope_Sizes_w (fuel : Nat)  (a0 : ScopeProg) (r : (List Int) × Int) (H : scope_Sizes_S fuel a0 = some r) : FnS Try.prog 51 [fSt tScopeProg a0] [] (fTup [fSl (tInt .i64) r.1, fInt .i64 r.2]) (fun _ => []) := by
 unfold scope_Sizes_S at H
 refine FnS_of Try.func51 rfl Try.ntmps51 rfl (fun β => ?_)
 refine Sr ?_
 refine T_new trivial rfl rfl (n_box rfl (has rfl) part_agg) (fun b1 => ?_)
 refine Ya ?_
 refine Ya ?_
 refine Nn ?_
 refine Sr ?_
 refine Yo 0 rfl (o_loadBS rfl hh ty_ag_26 rfl rfl) ?_
 revert H; refine bs fun y1 h1 H => ?_
 refine T_call trivial rfl rfl rfl (has rfl) (HasL.cons (has rfl) (HasL.cons (hasE rfl (ent_fn0 ty_cb_75 (fun x r hx => scope_Sizes_1_w x.1 x.2 r hx))) HasL.nil)) rfl ty_cb_74 (scope_each_int_w fuel (⟨a0.Free, a0.Nodes, a0.Defs, a0.Main⟩ : ScopeProg) (fun x => scope_Sizes_1_S x.1 x.2) y1 h1) rfl ?_
 refine Yy (o_extract rfl hh rfl) ?_
 refine Yy (o_extract rfl hh rfl) ?_
 refine Ya ?_
 refine Ya ?_
 refine Nn ?_
 refine T_retc ?_
 cases H
 refine T_pick [] (by decide) ?_
 exact T_out2 rfl (hasS rfl) (hasS rfl) rfl
def usage_text_bodies_1_l1 {σ : Type} (Y : Int → σ → Option σ) (y1 : ScopeDef) : Nat → Int → σ → Option (σ)
| 0, _, _ => none
| k + 1, x3, x4 =>
 if x3 < (y1.Spots.length : Int) then
  (idx y1.Spots x3).bind fun y2 =>
  (Y y2.Node x4).bind fun y3 =>
  (chk (x3 + 1)).bind fun z1 =>
  usage_text_bodies_1_l1 Y y1 k z1 y3
 else
  some x4
def usage_text_bodies_1_S {σ : Type} (fuel : Nat) (Y : Int → σ → Option σ) (s0 : σ) (w0 : Usage_text) (w1 : Int) : Option (σ) :=
 (idx w0.ScopeProg.Defs w1).bind fun y1 =>
 usage_text_bodies_1_l1 Y y1 fuel 0 s0
theorem usage_text_bodies_1_w (fuel : Nat) {σ : Type} (J : σ → Tk) (Y : Int → σ → Option σ) (s0 : σ) (w0 : Usage_text) (w1 : Int) (r : σ) (H : usage_text_bodies_1_S fuel Y s0 w0 w1 = some r) : FnS Try.prog 78 [fYield Try.prog (fun (x : Int) => [fInt .i64 x]) Y J, fPtr (tPtr tUsage_textP) w0, fPtr (tInt .i64) w1] [J s0] (fTup []) (fun _ => [J r]) := by
 unfold usage_text_bodies_1_S at H
 refine FnS_of Try.func78 rfl Try.ntmps78 rfl (fun β => ?_)
 refine T_seq ?_
 revert H; refine bs fun y1 h1 H => ?_
 refine T_net 11 [fun _ => .op [] false (fun _ => fPtr tUsage_textP w0) (fun _ => []), fun _ => .op [] false (fun _ => fPtr tUsage_textP w0) (fun _ => []), fun _ => .op [] false (fun _ => fPtr tScopeProg w0.ScopeProg) (fun _ => []), fun _ => .op [] false (fun _ => fPtr (tSl tScopeDef) w0.ScopeProg.Defs) (fun _ => []), fun _ => .op [] false (fun _ => fSl tScopeDef w0.ScopeProg.Defs) (fun _ => []), fun _ => .op [] false (fun _ => fInt .i64 w1) (fun _ => []), fun _ => .op [] false (fun _ => fPtr tScopeDef y1) (fun _ => []), fun _ => .op [] false (fun _ => fPtr (tSl tScopeSpot) y1.Spots) (fun _ => []), fun _ => .op [] false (fun _ => fSl tScopeSpot y1.Spots) (fun _ => []), fun _ => .op [] false (fun _ => fInt .i64 (y1.Spots.length : Int)) (fun _ => []), fun _ => .op [] false (fun _ => fInt .i64 0) (fun _ => [])] [([], false, []), ([], false, []), ([], false, []), ([], false, []), ([], false, []), ([], false, []), ([], false, []), ([], false, []), ([], false, []), ([], false, []), ([], false, [])] 0 1 mixed (F0 (F0 (F0 (F0 (F0 (F0 (F0 (F0 (F0 (F0 (F0 FitsL.nil))))))))))) (by kernel_rfl) rfl rfl (by kernel_rfl) rfl ?_
 dsimp only [netL, List.take, List.replicate, List.append, List.drop]
 refine My (h := o_load rfl hh ty_sc_71 rfl) (k := fun _ => ?_)
 refine My (h := o_nilCheck rfl (has rfl) (fun m v ⟨p, h, _⟩ => ⟨p, h⟩)) (k := fun _ => ?_)
 refine My (h := o_field (t' := tScopeProg) (z := w0.ScopeProg) rfl hh ty_fa_79_0 rfl) (k := fun _ => ?_)
 refine My (h := o_field (t' := (tSl tScopeDef)) (z := w0.ScopeProg.Defs) rfl hh ty_fa_26_2 rfl) (k := fun _ => ?_)
 refine My (h := o_load rfl hh ty_sc_24 rfl) (k := fun _ => ?_)
 refine My (h := o_load rfl hh ty_sc_3 rfl) (k := fun _ => ?_)
 refine My (h := o_index rfl hh hh ty_el_24 h1) (k := fun _ => ?_)
 refine My (h := o_field (t' := (tSl tScopeSpot)) (z := y1.Spots) rfl hh ty_fa_52_1 rfl) (k := fun _ => ?_)
 refine My (h := o_load rfl hh ty_sc_50 rfl) (k := fun _ => ?_)
 refine My (h := o_len rfl hh ty_us_50) (k := fun _ => ?_)
 refine My (h := o_move rfl hh) (k := fun _ => ?_)
 refine N_done rfl ?_
 refine Nn ?_
 refine T_block ?_
 refine T_loop (ι := Nat × Int × σ) (fun i => usage_text_bodies_1_l1 Y y1 i.1 i.2.1 i.2.2 = _) (fun i => i.1) (fun i => [(0, fYield Try.prog (fun (x : Int) => [fInt .i64 x]) Y J), (14, fSl tScopeSpot y1.Spots), (15, fInt .i64 (y1.Spots.length : Int)), (16, fInt .i64 i.2.1)]) (fun i => [J i.2.2]) (fuel, 0, s0) H (Sc (Sc (Sc (Sc SubT.nil)))) rfl ?_
 clear H; rintro ⟨k1, x3, x4⟩ H
 replace H : usage_text_bodies_1_l1 Y y1 k1 x3 x4 = _ := H
 show T β _ _ [(0, fYield Try.prog (fun (x : Int) => [fInt .i64 x]) Y J), (14, fSl tScopeSpot y1.Spots), (15, fInt .i64 (y1.Spots.length : Int)), (16, fInt .i64 x3)] [J x4] _
 obtain _ | k1 := k1
 ·
  rw [usage_text_bodies_1_l1] at H; cases H
 rw [usage_text_bodies_1_l1] at H
 refine Sr ?_
 refine Yy (o_lss rfl hh hh) ?_
 refine Nn ?_
 refine T_seq ?_
 revert H; refine is (fun c1 H => ?_) fun c1 H => ?_
 ·
  refine T_cond_t (has rfl) c1 ?_
  refine T_skip ?_
  refine T_then_n ?_
  refine T_seq ?_
  refine T_block ?_
  refine Sr ?_
  revert H; refine bs fun y2 h2 H => ?_
  refine Yy (o_index rfl hh hh ty_el_50 h2) ?_
  refine Yy (o_loadS rfl hh ty_ag_90) ?_
  refine T_new trivial rfl rfl (n_alloc rfl ty_ze_90 rfl) (fun b1 => ?_)
  refine T_storeS (φs' := [fInt .i64 y2.In, fInt .i64 y2.Node]) trivial rfl rfl (has rfl) (has rfl) (ll_cons (leaf_eq trivial) (ll_cons (leaf_eq trivial) ll_nil)) ty_sz_90 rfl rfl rfl ?_
  refine Nn ?_
  refine Sr ?_
  refine Ym ?_
  refine Yy (o_fieldB 1 rfl hh ty_fa_90_1 rfl) ?_
  refine Yo 0 rfl (o_loadB rfl hh ty_sc_3 rfl Ent.rfl) ?_
  refine T_fr1 ?_
  revert H; refine bs fun y3 h3 H => ?_
  refine T_callY y2.Node trivial rfl rfl rfl (has rfl) (HasL.cons (has rfl) HasL.nil) h3 ?_
  refine Yy (o_not rfl hh) ?_
  refine Nn ?_
  refine T_cond_f (has rfl) rfl ?_
  refine T_skip ?_
  refine T_in_n ?_
  refine T_then_n ?_
  refine T_region ?_
  revert H; refine bs fun z1 h4 H => ?_
  refine Yy (o_add rfl hh hh h4) ?_
  refine Ym ?_
  refine Nn ?_
  refine T_pick [0] (by decide) ?_
  exact T_meet ((k1, z1, y3)) ⟨H, Nat.lt_succ_self _⟩ (Sc (Sc (Sc (Sc SubT.nil)))) rfl
 ·
  refine T_cond_f (has rfl) c1 ?_
  refine T_exit ?_
  refine T_then_exit ?_
  refine T_then_exit ?_
  refine T_in_hit ?_
  cases H
  exact T_out0 (.inr rfl) rfl rfl
def usage_text_bodies_S (a0 : Usage_text) (a1 : Int) : Option (Usage_text × Int) :=
 some (a0, a1)
theorem usage_text_bodies_w  (a0 : Usage_text) (a1 : Int) (r : Usage_text × Int) (H : usage_text_bodies_S a0 a1 = some r) : FnS Try.prog 56 [fPtr tUsage_textP a0, fInt .i64 a1] [] (fClo 78 [fPtr (tPtr tUsage_textP) r.1, fPtr (tInt .i64) r.2]) (fun _ => []) := by
 unfold usage_text_bodies_S at H
 refine FnS_of Try.func56 rfl Try.ntmps56 rfl (fun β => ?_)
 refine Sr ?_
 refine T_new trivial rfl rfl (n_box rfl (has rfl) (part_leaf (leaf_ptr))) (fun b1 => ?_)
 refine T_new trivial rfl rfl (n_box rfl (has rfl) (part_leaf (leaf_eq trivial))) (fun b2 => ?_)
 refine Ya ?_
 refine Nn ?_
 refine Sr ?_
 refine T_fr1 ?_
 refine T_freeze (φ := fPtr (tPtr tUsage_textP) a0) (v := ptr b1) [2] (frz_blk EntL.rfl) (by intro s hs; simp only [List.mem_cons, List.not_mem_nil, or_false] at hs; rcases hs with rfl <;> rfl) ?_
 refine T_dropT ?_
 refine T_freeze (φ := fPtr (tInt .i64) a1) (v := ptr b2) [3] (frz_blk EntL.rfl) (by intro s hs; simp only [List.mem_cons, List.not_mem_nil, or_false] at hs; rcases hs with rfl <;> rfl) ?_
 refine T_dropT ?_
 refine Yy (o_clo rfl (HasL.cons hh (HasL.cons hh HasL.nil))) ?_
 refine Ya ?_
 refine Nn ?_
 refine T_retc ?_
 cases H
 exact T_out1 rfl (hasS rfl) rfl
def usage_text_under_1_l1 {σ : Type} (Y : Int → σ → Option σ) (y1 : ScopeNode) : Nat → Int → σ → Option (σ)
| 0, _, _ => none
| k + 1, x4, x5 =>
 if x4 < (y1.Kids.length : Int) then
  (idx y1.Kids x4).bind fun y2 =>
  (Y y2 x5).bind fun y3 =>
  (chk (x4 + 1)).bind fun z1 =>
  usage_text_under_1_l1 Y y1 k z1 y3
 else
  some x5
def usage_text_under_1_b2 {σ : Type} (Y : Int → σ → Option σ) (x6 : Int) (x8 : σ) : Option (σ) :=
 (Y x6 x8).bind fun y6 =>
 some y6
def usage_text_under_1_l3 {σ : Type} (Y : Int → σ → Option σ) (y7 : ScopeDef) : Nat → Int → σ → Option (σ)
| 0, _, _ => none
| k + 1, x12, x13 =>
 if x12 < (y7.Rules.length : Int) then
  (idx y7.Rules x12).bind fun y8 =>
  (Y y8.Node x13).bind fun y9 =>
  (chk (x12 + 1)).bind fun z2 =>
  usage_text_under_1_l3 Y y7 k z2 y9
 else
  some x13
def usage_text_under_1_S {σ : Type} (fuel : Nat) (Y : Int → σ → Option σ) (s0 : σ) (w0 : Usage_text) (w1 : Int) : Option (σ) :=
 (idx w0.ScopeProg.Nodes w1).bind fun y1 =>
 (usage_text_under_1_l1 Y y1 fuel 0 s0).bind fun x1 =>
 if y1.Op ≠ 4 then
  some x1
 else
  (usage_text_bodies_S w0 y1.N).bind fun y4 =>
  (usage_text_bodies_1_S fuel (fun (x : Int) (t : σ) => usage_text_under_1_b2 Y x t) x1 y4.1 y4.2).bind fun y5 =>
  (idx w0.ScopeProg.Defs y1.N).bind fun y7 =>
  usage_text_under_1_l3 Y y7 fuel 0 y5
theorem usage_text_under_1_w (fuel : Nat) {σ : Type} (J : σ → Tk) (Y : Int → σ → Option σ) (s0 : σ) (w0 : Usage_text) (w1 : Int) (r : σ) (H : usage_text_under_1_S fuel Y s0 w0 w1 = some r) : FnS Try.prog 90 [fYield Try.prog (fun (x : Int) => [fInt .i64 x]) Y J, fPtr (tPtr tUsage_textP) w0, fPtr (tInt .i64) w1] [J s0] (fTup []) (fun _ => [J r]) := by
 unfold usage_text_under_1_S at H
 refine FnS_ofM Try.func90 rfl Try.ntmps90 rfl (fun β => ?_)
 refine Sr ?_
 refine T_new trivial rfl rfl (n_box rfl (has rfl) (part_leaf (leaf_yield))) (fun b1 => ?_)
 refine Nn ?_
 refine T_seq ?_
 revert H; refine bs fun y1 h1 H => ?_
 refine T_net 10 [fun _ => .op [] false (fun _ => fPtr tUsage_textP w0) (fun _ => []), fun _ => .op [] false (fun _ => fPtr tUsage_textP w0) (fun _ => []), fun _ => .op [] false (fun _ => fPtr tScopeProg w0.ScopeProg) (fun _ => []), fun _ => .op [] false (fun _ => fPtr (tSl tScopeNode) w0.ScopeProg.Nodes) (fun _ => []), fun _ => .op [] false (fun _ => fSl tScopeNode w0.ScopeProg.Nodes) (fun _ => []), fun _ => .op [] false (fun _ => fInt .i64 w1) (fun _ => []), fun _ => .op [] false (fun _ => fPtr tScopeNode y1) (fun _ => []), fun _ => .op [] false (fun _ => fSt tScopeNode y1) (fun _ => []), fun _ => .op [2] true (fun c => fEq (ptr c.n)) (fun c => [tBlk c.n 56 [fInt .i64 0, fInt .i64 0, fEq (.slice none 0 0), fEq (.slice none 0 0)]]), fun e => .op [2] true (fun _ => fAny) (fun _ => [tBlk (e 8).n 56 [fInt .i64 y1.Op, fInt .i64 y1.N, fSl tScopeExp y1.Args, fSl (tInt .i64) y1.Kids]])] [([], false, []), ([], false, []), ([], false, []), ([], false, []), ([], false, []), ([], false, []), ([], false, []), ([], false, []), ([2], true, []), ([2], true, [8])] 1 3 mixed (F0 (F0 (F0 (F0 (F0 (F0 (F0 (F0 (F0 (FitsL.cons (fits1 (i := 8) (od := fun c8 => .op [2] true (fun _ => fAny) (fun _ => [tBlk c8.n 56 [fInt .i64 y1.Op, fInt .i64 y1.N, fSl tScopeExp y1.Args, fSl (tInt .i64) y1.Kids]])) (fun _ => ⟨rfl, rfl⟩)) FitsL.nil)))))))))) (by kernel_rfl) rfl rfl (by kernel_rfl) rfl ?_
 dsimp only [netL, List.take, List.replicate, List.append, List.drop]
 refine My (h := o_load rfl hh ty_sc_71 rfl) (k := fun _ => ?_)
 refine My (h := o_nilCheck rfl (has rfl) (fun m v ⟨p, h, _⟩ => ⟨p, h⟩)) (k := fun _ => ?_)
 refine My (h := o_field (t' := tScopeProg) (z := w0.ScopeProg) rfl hh ty_fa_79_0 rfl) (k := fun _ => ?_)
 refine My (h := o_field (t' := (tSl tScopeNode)) (z := w0.ScopeProg.Nodes) rfl hh ty_fa_26_1 rfl) (k := fun _ => ?_)
 refine My (h := o_load rfl hh ty_sc_23 rfl) (k := fun _ => ?_)
 refine My (h := o_load rfl hh ty_sc_3 rfl) (k := fun _ => ?_)
 refine My (h := o_index rfl hh hh ty_el_23 h1) (k := fun _ => ?_)
 refine My (h := o_loadS rfl hh ty_ag_56) (k := fun _ => ?_)
 refine N_new (p := 2) (f := fun b2 => ptr b2) (τ := fun b2 => tBlk b2 56 [fInt .i64 0, fInt .i64 0, fEq (.slice none 0 0), fEq (.slice none 0 0)]) rfl (fun _ => rfl) (fun _ => rfl) trivial rfl rfl (n_alloc rfl ty_ze_56 rfl) (fun b2 u1 => ?_)
 refine N_storeS (p := 2) (φs' := [fInt .i64 y1.Op, fInt .i64 y1.N, fSl tScopeExp y1.Args, fSl (tInt .i64) y1.Kids]) rfl (fun _ => rfl) (fun _ => rfl) trivial rfl rfl rfl (has rfl) (has rfl) (ll_cons (leaf_eq trivial) (ll_cons (leaf_eq trivial) (ll_cons (leaf_sl) (ll_cons (leaf_sl) ll_nil)))) ty_sz_56 rfl rfl rfl (fun _ => ?_)
 refine N_done rfl ?_
 refine Nn ?_
 revert H; refine bs fun o1 H Hr1 => ?_
 refine T_seqJ (ι := σ) (fun i => o1 = i) (fun i => [(1, fPtr (tPtr tUsage_textP) w0), (3, fEq (.pointer (some ⟨b1, 0, none⟩))), (4, fEq (.pointer (some ⟨b2, 0, none⟩)))]) (fun i => [tBlk b1 144 [fYield Try.prog (fun (x : Int) => [fInt .i64 x]) Y J], tBlk b2 56 [fInt .i64 y1.Op, fInt .i64 y1.N, fSl tScopeExp y1.Args, fSl (tInt .i64) y1.Kids], J i]) ?_ ?_
 ·
  refine Sr ?_
  refine Yy (o_fieldB 3 rfl hh ty_fa_56_3 rfl) ?_
  refine Yo 2 rfl (o_loadB rfl hh ty_sc_46 rfl Ent.rfl) ?_
  refine Yy (o_len rfl hh ty_us_46) ?_
  refine Ym ?_
  refine Nn ?_
  refine T_block ?_
  refine T_pick [0, 2, 1] (by decide) ?_
  refine T_loop (ι := Nat × Int × σ) (fun i => usage_text_under_1_l1 Y y1 i.1 i.2.1 i.2.2 = _) (fun i => i.1) (fun i => [(1, fPtr (tPtr tUsage_textP) w0), (3, fEq (.pointer (some ⟨b1, 0, none⟩))), (4, fEq (.pointer (some ⟨b2, 0, none⟩))), (19, fSl (tInt .i64) y1.Kids), (20, fInt .i64 (y1.Kids.length : Int)), (21, fInt .i64 i.2.1)]) (fun i => [tBlk b1 144 [fYield Try.prog (fun (x : Int) => [fInt .i64 x]) Y J], tBlk b2 56 [fInt .i64 y1.Op, fInt .i64 y1.N, fSl tScopeExp y1.Args, fSl (tInt .i64) y1.Kids], J i.2.2]) (fuel, 0, s0) H (Sc (Sc (Sc (Sc (Sc (Sc SubT.nil)))))) rfl ?_
  clear H; rintro ⟨k1, x4, x5⟩ H
  replace H : usage_text_under_1_l1 Y y1 k1 x4 x5 = _ := H
  show T β _ _ [(1, fPtr (tPtr tUsage_textP) w0), (3, fEq (.pointer (some ⟨b1, 0, none⟩))), (4, fEq (.pointer (some ⟨b2, 0, none⟩))), (19, fSl (tInt .i64) y1.Kids), (20, fInt .i64 (y1.Kids.length : Int)), (21, fInt .i64 x4)] [tBlk b1 144 [fYield Try.prog (fun (x : Int) => [fInt .i64 x]) Y J], tBlk b2 56 [fInt .i64 y1.Op, fInt .i64 y1.N, fSl tScopeExp y1.Args, fSl (tInt .i64) y1.Kids], J x5] _
  obtain _ | k1 := k1
  ·
   rw [usage_text_under_1_l1] at H; cases H
  rw [usage_text_under_1_l1] at H
  refine Sr ?_
  refine Yy (o_lss rfl hh hh) ?_
  refine Nn ?_
  refine T_seq ?_
  revert H; refine is (fun c1 H => ?_) fun c1 H => ?_
  ·
   refine T_cond_t (has rfl) c1 ?_
   refine T_skip ?_
   refine T_then_n ?_
   refine T_seq ?_
   refine T_block ?_
   refine Sr ?_
   revert H; refine bs fun y2 h2 H => ?_
   refine Yy (o_index rfl hh hh ty_el_46 h2) ?_
   refine Yy (o_load rfl hh ty_sc_3 rfl) ?_
   refine Ya ?_
   refine Nn ?_
   refine Sr ?_
   refine Yo 0 rfl (o_loadB rfl hh ty_sc_144 rfl Ent.rfl) ?_
   refine Ym ?_
   refine T_fr2 ?_
   revert H; refine bs fun y3 h3 H => ?_
   refine T_callY y2 trivial rfl rfl rfl (has rfl) (HasL.cons (has rfl) HasL.nil) h3 ?_
   refine Yy (o_not rfl hh) ?_
   refine Nn ?_
   refine T_cond_f (has rfl) rfl ?_
   refine T_skip ?_
   refine T_in_n ?_
   refine T_then_n ?_
   refine T_region ?_
   revert H; refine bs fun z1 h4 H => ?_
   refine Yy (o_add rfl hh hh h4) ?_
   refine Ym ?_
   refine Nn ?_
   refine T_pick [1, 2, 0] (by decide) ?_
   exact T_meet ((k1, z1, y3)) ⟨H, Nat.lt_succ_self _⟩ (Sc (Sc (Sc (Sc (Sc (Sc SubT.nil)))))) rfl
  ·
   refine T_cond_f (has rfl) c1 ?_
   refine T_exit ?_
   refine T_then_exit ?_
   refine T_then_exit ?_
   refine T_in_hit ?_
   refine T_then_n ?_
   exact T_meet (x5) (Option.some.inj H).symm (Sc (Sc (Sc SubT.nil))) rfl
 ·
  clear H; intro x1 hi; subst o1; have H := Hr1; clear Hr1; try dsimp only at H
  show T β _ _ [(1, fPtr (tPtr tUsage_textP) w0), (3, fEq (.pointer (some ⟨b1, 0, none⟩))), (4, fEq (.pointer (some ⟨b2, 0, none⟩)))] [tBlk b1 144 [fYield Try.prog (fun (x : Int) => [fInt .i64 x]) Y J], tBlk b2 56 [fInt .i64 y1.Op, fInt .i64 y1.N, fSl tScopeExp y1.Args, fSl (tInt .i64) y1.Kids], J x1] _
  refine T_seq ?_
  refine Sr ?_
  refine Yy (o_fieldB 0 rfl hh ty_fa_56_0 rfl) ?_
  refine Yo 1 rfl (o_loadB rfl hh ty_sc_53 rfl Ent.rfl) ?_
  refine Yy (o_neq rfl hh hh) ?_
  refine Nn ?_
  revert H; refine is (fun c2 H => ?_) fun c2 H => ?_
  ·
   refine T_cond_t (has rfl) c2 ?_
   refine Rr ?_
   cases H
   refine T_pick [2] (by decide) ?_
   exact T_outM0 [] (.inl rfl) rfl rfl rfl
  ·
   refine T_cond_f (has rfl) c2 ?_
   refine T_skip ?_
   refine T_then_n ?_
   refine T_seq ?_
   refine Sr ?_
   refine Yy (o_load rfl hh ty_sc_71 rfl) ?_
   refine Yy (o_fieldB 1 rfl hh ty_fa_56_1 rfl) ?_
   refine Yo 1 rfl (o_loadB rfl hh ty_sc_3 rfl Ent.rfl) ?_
   revert H; refine bs fun y4 h5 H => ?_
   refine T_call trivial rfl rfl rfl (has rfl) (HasL.cons (has rfl) (HasL.cons (has rfl) HasL.nil)) rfl ty_cb_56 (usage_text_bodies_w w0 y1.N y4 h5) rfl ?_
   refine Nn ?_
   refine T_block ?_
   refine T_sub [(1, fPtr (tPtr tUsage_textP) w0), (3, fEq (.pointer (some ⟨b1, 0, none⟩))), (4, fEq (.pointer (some ⟨b2, 0, none⟩))), (30, fEq (.pointer (some ⟨b2, 0, none⟩))), (31, fInt .i64 y1.Op), (32, fBool (decide (y1.Op ≠ 4))), (33, fPtr tUsage_textP w0), (34, fEq (.pointer (some ⟨b2, 1, none⟩))), (35, fInt .i64 y1.N), (36, fClo 78 [fPtr (tPtr tUsage_textP) y4.1, fPtr (tInt .i64) y4.2])] (Sc (Sc (Sc (Sc (Sc (Sc (Sc (Sc (Sc (Sc SubT.nil)))))))))) ?_
   revert H; refine bs fun y5 h6 H => ?_
   refine T_rangeFunc (s := x1) (s' := y5) (fun (x : Int) => [fInt .i64 x]) (fun (x : Int) (t : σ) => usage_text_under_1_b2 Y x t) (fun (t : σ) => [tBlk b1 144 [fYield Try.prog (fun (x : Int) => [fInt .i64 x]) Y J], tBlk b2 56 [fInt .i64 y1.Op, fInt .i64 y1.N, fSl tScopeExp y1.Args, fSl (tInt .i64) y1.Kids], J t]) (has rfl) ty_cb_78 rfl (fun _ => rfl) rfl (fun J => usage_text_bodies_1_w fuel J (fun (x : Int) (t : σ) => usage_text_under_1_b2 Y x t) x1 y4.1 y4.2 y5 h6) (fun β' l rec x6 t t' hs hp hY => ?_) (fun rb => ?_)
   ·
    generalize t = x8 at *
    have H : usage_text_under_1_b2 Y x6 x8 = some t' := hY; clear hY; unfold usage_text_under_1_b2 at H; try dsimp only at H
    show T β' _ _ (roundG [37] ((fun (x : Int) => [fInt .i64 x]) x6) [(1, fPtr (tPtr tUsage_textP) w0), (3, fEq (.pointer (some ⟨b1, 0, none⟩))), (4, fEq (.pointer (some ⟨b2, 0, none⟩))), (30, fEq (.pointer (some ⟨b2, 0, none⟩))), (31, fInt .i64 y1.Op), (32, fBool (decide (y1.Op ≠ 4))), (33, fPtr tUsage_textP w0), (34, fEq (.pointer (some ⟨b2, 1, none⟩))), (35, fInt .i64 y1.N), (36, fClo 78 [fPtr (tPtr tUsage_textP) y4.1, fPtr (tInt .i64) y4.2])]) (tObj l (.loop rec) :: [tBlk b1 144 [fYield Try.prog (fun (x : Int) => [fInt .i64 x]) Y J], tBlk b2 56 [fInt .i64 y1.Op, fInt .i64 y1.N, fSl tScopeExp y1.Args, fSl (tInt .i64) y1.Kids], J x8]) _
    refine T_region ?_
    refine Ya ?_
    refine Nn ?_
    refine T_begin hs ?_
    refine T_block ?_
    refine Sr ?_
    refine Yo 1 rfl (o_loadB rfl hh ty_sc_144 rfl Ent.rfl) ?_
    refine Ym ?_
    refine T_fr3 ?_
    revert H; refine bs fun y6 h7 H => ?_
    refine T_callY x6 trivial rfl rfl rfl (has rfl) (HasL.cons (has rfl) HasL.nil) h7 ?_
    refine Yy (o_not rfl hh) ?_
    refine Nn ?_
    refine T_cond_f (has rfl) rfl ?_
    refine T_skip ?_
    refine T_in_n ?_
    refine T_pick [2, 3, 0, 1] (by decide) ?_
    cases H
    refine T_pick [3, 0, 1, 2] (by decide) ?_
    exact T_roundEnd hs hp rfl
   ·
    generalize rb = rb1
    show T β _ _ [(1, fPtr (tPtr tUsage_textP) w0), (3, fEq (.pointer (some ⟨b1, 0, none⟩))), (4, fEq (.pointer (some ⟨b2, 0, none⟩))), (30, fEq (.pointer (some ⟨b2, 0, none⟩))), (31, fInt .i64 y1.Op), (32, fBool (decide (y1.Op ≠ 4))), (33, fPtr tUsage_textP w0), (34, fEq (.pointer (some ⟨b2, 1, none⟩))), (35, fInt .i64 y1.N), (36, fClo 78 [fPtr (tPtr tUsage_textP) y4.1, fPtr (tInt .i64) y4.2])] ([tMark rb1] ++ [tBlk b1 144 [fYield Try.prog (fun (x : Int) => [fInt .i64 x]) Y J], tBlk b2 56 [fInt .i64 y1.Op, fInt .i64 y1.N, fSl tScopeExp y1.Args, fSl (tInt .i64) y1.Kids], J y5]) _
    dsimp only [List.append, List.cons_append, List.nil_append]
    refine T_in_n ?_
    refine T_then_n ?_
    refine T_seq ?_
    revert H; refine bs fun y7 h8 H => ?_
    refine T_net 12 [fun _ => .op [] false (fun _ => fPtr tUsage_textP w0) (fun _ => []), fun _ => .op [] false (fun _ => fPtr tUsage_textP w0) (fun _ => []), fun _ => .op [] false (fun _ => fPtr tScopeProg w0.ScopeProg) (fun _ => []), fun _ => .op [] false (fun _ => fPtr (tSl tScopeDef) w0.ScopeProg.Defs) (fun _ => []), fun _ => .op [] false (fun _ => fSl tScopeDef w0.ScopeProg.Defs) (fun _ => []), fun _ => .op [] false (fun _ => fEq (.pointer (some ⟨b2, 1, none⟩))) (fun _ => []), fun _ => .op [2] false (fun _ => fInt .i64 y1.N) (fun _ => [tEmp]), fun _ => .op [] false (fun _ => fPtr tScopeDef y7) (fun _ => []), fun _ => .op [] false (fun _ => fPtr (tSl tScopeRule) y7.Rules) (fun _ => []), fun _ => .op [] false (fun _ => fSl tScopeRule y7.Rules) (fun _ => []), fun _ => .op [] false (fun _ => fInt .i64 (y7.Rules.length : Int)) (fun _ => []), fun _ => .op [] false (fun _ => fInt .i64 0) (fun _ => [])] [([], false, []), ([], false, []), ([], false, []), ([], false, []), ([], false, []), ([], false, []), ([2], false, []), ([], false, []), ([], false, []), ([], false, []), ([], false, []), ([], false, [])] 0 4 mixed (F0 (F0 (F0 (F0 (F0 (F0 (F0 (F0 (F0 (F0 (F0 (F0 FitsL.nil)))))))))))) (by kernel_rfl) rfl rfl (by kernel_rfl) rfl ?_
    dsimp only [netL, List.take, List.replicate, List.append, List.drop]
    refine My (h := o_load rfl hh ty_sc_71 rfl) (k := fun _ => ?_)
    refine My (h := o_nilCheck rfl (has rfl) (fun m v ⟨p, h, _⟩ => ⟨p, h⟩)) (k := fun _ => ?_)
    refine My (h := o_field (t' := tScopeProg) (z := w0.ScopeProg) rfl hh ty_fa_79_0 rfl) (k := fun _ => ?_)
    refine My (h := o_field (t' := (tSl tScopeDef)) (z := w0.ScopeProg.Defs) rfl hh ty_fa_26_2 rfl) (k := fun _ => ?_)
    refine My (h := o_load rfl hh ty_sc_24 rfl) (k := fun _ => ?_)
    refine N_y (φ := fEq (.pointer (some ⟨b2, 1, none⟩))) rfl (fun _ => rfl) trivial rfl (o_fieldB 1 rfl (has rfl) ty_fa_56_1 rfl) (fun _ => ?_)
    refine N_op (ps := [2]) (φ := fInt .i64 y1.N) rfl (fun _ => rfl) trivial rfl rfl (o_loadB rfl (has rfl) ty_sc_3 rfl Ent.rfl) (fun _ => ?_)
    refine My (h := o_index rfl hh hh ty_el_24 h8) (k := fun _ => ?_)
    refine My (h := o_field (t' := (tSl tScopeRule)) (z := y7.Rules) rfl hh ty_fa_52_2 rfl) (k := fun _ => ?_)
    refine My (h := o_load rfl hh ty_sc_49 rfl) (k := fun _ => ?_)
    refine My (h := o_len rfl hh ty_us_49) (k := fun _ => ?_)
    refine My (h := o_move rfl hh) (k := fun _ => ?_)
    refine N_done rfl ?_
    refine Nn ?_
    refine T_block ?_
    refine T_pick [1, 2, 0, 3] (by decide) ?_
    refine T_loop (ι := Nat × Int × σ) (fun i => usage_text_under_1_l3 Y y7 i.1 i.2.1 i.2.2 = _) (fun i => i.1) (fun i => [(3, fEq (.pointer (some ⟨b1, 0, none⟩))), (51, fSl tScopeRule y7.Rules), (52, fInt .i64 (y7.Rules.length : Int)), (53, fInt .i64 i.2.1)]) (fun i => [tBlk b1 144 [fYield Try.prog (fun (x : Int) => [fInt .i64 x]) Y J], tBlk b2 56 [fInt .i64 y1.Op, fInt .i64 y1.N, fSl tScopeExp y1.Args, fSl (tInt .i64) y1.Kids], tMark rb1, J i.2.2]) (fuel, 0, y5) H (Sc (Sc (Sc (Sc SubT.nil)))) rfl ?_
    clear H; rintro ⟨k2, x12, x13⟩ H
    replace H : usage_text_under_1_l3 Y y7 k2 x12 x13 = _ := H
    show T β _ _ [(3, fEq (.pointer (some ⟨b1, 0, none⟩))), (51, fSl tScopeRule y7.Rules), (52, fInt .i64 (y7.Rules.length : Int)), (53, fInt .i64 x12)] [tBlk b1 144 [fYield Try.prog (fun (x : Int) => [fInt .i64 x]) Y J], tBlk b2 56 [fInt .i64 y1.Op, fInt .i64 y1.N, fSl tScopeExp y1.Args, fSl (tInt .i64) y1.Kids], tMark rb1, J x13] _
    obtain _ | k2 := k2
    ·
     rw [usage_text_under_1_l3] at H; cases H
    rw [usage_text_under_1_l3] at H
    refine Sr ?_
    refine Yy (o_lss rfl hh hh) ?_
    refine Nn ?_
    refine T_seq ?_
    revert H; refine is (fun c3 H => ?_) fun c3 H => ?_
    ·
     refine T_cond_t (has rfl) c3 ?_
     refine T_skip ?_
     refine T_then_n ?_
     refine T_seq ?_
     refine T_block ?_
     refine Sr ?_
     revert H; refine bs fun y8 h9 H => ?_
     refine Yy (o_index rfl hh hh ty_el_49 h9) ?_
     refine Yy (o_loadS rfl hh ty_ag_48) ?_
     refine T_new trivial rfl rfl (n_alloc rfl ty_ze_48 rfl) (fun b3 => ?_)
     refine T_storeS (φs' := [fInt .i64 y8.At, fSl (tInt .i64) y8.Joins, fInt .i64 y8.Node]) trivial rfl rfl (has rfl) (has rfl) (ll_cons (leaf_eq trivial) (ll_cons (leaf_sl) (ll_cons (leaf_eq trivial) ll_nil))) ty_sz_48 rfl rfl rfl ?_
     refine Nn ?_
     refine Sr ?_
     refine Yo 1 rfl (o_loadB rfl hh ty_sc_144 rfl Ent.rfl) ?_
     refine Yy (o_fieldB 2 rfl hh ty_fa_48_2 rfl) ?_
     refine Yo 0 rfl (o_loadB rfl hh ty_sc_3 rfl Ent.rfl) ?_
     refine T_fr4 ?_
     revert H; refine bs fun y9 h10 H => ?_
     refine T_callY y8.Node trivial rfl rfl rfl (has rfl) (HasL.cons (has rfl) HasL.nil) h10 ?_
     refine Yy (o_not rfl hh) ?_
     refine Nn ?_
     refine T_cond_f (has rfl) rfl ?_
     refine T_skip ?_
     refine T_in_n ?_
     refine T_then_n ?_
     refine T_region ?_
     revert H; refine bs fun z2 h11 H => ?_
     refine Yy (o_add rfl hh hh h11) ?_
     refine Ym ?_
     refine Nn ?_
     refine T_pick [2, 3, 4, 0] (by decide) ?_
     exact T_meet ((k2, z2, y9)) ⟨H, Nat.lt_succ_self _⟩ (Sc (Sc (Sc (Sc SubT.nil)))) rfl
    ·
     refine T_cond_f (has rfl) c3 ?_
     refine T_exit ?_
     refine T_then_exit ?_
     refine T_then_exit ?_
     refine T_in_hit ?_
     cases H
     refine T_pick [2, 3] (by decide) ?_
     exact T_outM0 [rb1] (.inr rfl) rfl rfl rfl
def usage_text_under_S (a0 : Usage_text) (a1 : Int) : Option (Usage_text × Int) :=
 some (a0, a1)
theorem usage_text_under_w  (a0 : Usage_text) (a1 : Int) (r : Usage_text × Int) (H : usage_text_under_S a0 a1 = some r) : FnS Try.prog 76 [fPtr tUsage_textP a0, fInt .i64 a1] [] (fClo 90 [fPtr (tPtr tUsage_textP) r.1, fPtr (tInt .i64) r.2]) (fun _ => []) := by
 unfold usage_text_under_S at H
 refine FnS_of Try.func76 rfl Try.ntmps76 rfl (fun β => ?_)
 refine Sr ?_
 refine T_new trivial rfl rfl (n_box rfl (has rfl) (part_leaf (leaf_ptr))) (fun b1 => ?_)
 refine T_new trivial rfl rfl (n_box rfl (has rfl) (part_leaf (leaf_eq trivial))) (fun b2 => ?_)
 refine Ya ?_
 refine Nn ?_
 refine Sr ?_
 refine T_fr1 ?_
 refine T_freeze (φ := fPtr (tPtr tUsage_textP) a0) (v := ptr b1) [2] (frz_blk EntL.rfl) (by intro s hs; simp only [List.mem_cons, List.not_mem_nil, or_false] at hs; rcases hs with rfl <;> rfl) ?_
 refine T_dropT ?_
 refine T_freeze (φ := fPtr (tInt .i64) a1) (v := ptr b2) [3] (frz_blk EntL.rfl) (by intro s hs; simp only [List.mem_cons, List.not_mem_nil, or_false] at hs; rcases hs with rfl <;> rfl) ?_
 refine T_dropT ?_
 refine Yy (o_clo rfl (HasL.cons hh (HasL.cons hh HasL.nil))) ?_
 refine Ya ?_
 refine Nn ?_
 refine T_retc ?_
 cases H
 exact T_out1 rfl (hasS rfl) rfl
end Go.Proofs.Ytmnbfgeljmhekaa
