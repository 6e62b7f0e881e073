/- Parts of the proof: lemmas, and the steps through the program. -/
import Derived.Test.YtmnbfgeljmhekaaK4
set_option maxRecDepth 100000
set_option maxHeartbeats 2000000
namespace Go.Proofs.Ytmnbfgeljmhekaa
open Go.SX Go.SW Go.Dt
def slices_Clone_LScopeSpot_ScopeSpot_S (a0 : List ScopeSpot) : Option (List ScopeSpot) :=
 (room (([] : List ScopeSpot) ++ a0)).bind fun z1 =>
 some z1
theorem slices_Clone_LScopeSpot_ScopeSpot_w  (a0 : List ScopeSpot) (r : List ScopeSpot) (H : slices_Clone_LScopeSpot_ScopeSpot_S a0 = some r) : FnS Try.prog 39 [fSl tScopeSpot a0] [] (fSl tScopeSpot r) (fun _ => []) := by
 unfold slices_Clone_LScopeSpot_ScopeSpot_S at H
 refine FnS_of Try.func39 rfl Try.ntmps39 rfl (fun β => ?_)
 refine Sr ?_
 refine Ya ?_
 refine Nn ?_
 refine T_seq ?_
 refine Sr ?_
 refine Ym ?_
 refine Yy (o_eqNil rfl hh ty_us_50) ?_
 refine Nn ?_
 refine T_condNil (has rfl) (fun hx => ?_) ?_
 ·
  replace H : some [] = some r := by subst hx; exact H
  refine Sr ?_
  refine Ya ?_
  refine Nn ?_
  refine Rr ?_
  cases H
  exact T_out1 rfl (hasSE rfl ent_nil) rfl
 refine T_skip ?_
 refine T_then_n ?_
 refine Sr ?_
 refine T_new trivial rfl rfl (n_buildSliceC (t := tScopeSpot) (xs := ([] : List ScopeSpot)) rfl ty_et_50 PartsS.nil rfl rfl rfl) (fun b1 => ?_)
 generalize hv_v1 : (Value.slice (some ⟨b1, 0, none⟩) _ _) = v1; clear hv_v1
 refine T_rowCell 0 rfl (fun hc_v1 => ?_)
 refine Ym ?_
 revert H; refine bs fun z1 h1 H => ?_
 refine T_appendF (ys := a0) trivial rfl rfl rfl (has rfl) (has rfl) ty_et_50 rfl h1 (fun v2 => ?_)
 refine T_rowCell 0 rfl (fun hc_v2 => ?_)
 refine Ya ?_
 refine Nn ?_
 refine T_retc ?_
 refine T_freeze (φ := fSl tScopeSpot z1) (v := v2) [2, 7] frz_row (by intro s hs; simp only [List.mem_cons, List.not_mem_nil, or_false] at hs; rcases hs with rfl | rfl <;> rfl) ?_
 refine T_dropT ?_
 cases H
 exact T_out1 rfl (hasS rfl) rfl
def slices_Clone_LScopeRule_ScopeRule_S (a0 : List ScopeRule) : Option (List ScopeRule) :=
 (room (([] : List ScopeRule) ++ a0)).bind fun z1 =>
 some z1
theorem slices_Clone_LScopeRule_ScopeRule_w  (a0 : List ScopeRule) (r : List ScopeRule) (H : slices_Clone_LScopeRule_ScopeRule_S a0 = some r) : FnS Try.prog 40 [fSl tScopeRule a0] [] (fSl tScopeRule r) (fun _ => []) := by
 unfold slices_Clone_LScopeRule_ScopeRule_S at H
 refine FnS_of Try.func40 rfl Try.ntmps40 rfl (fun β => ?_)
 refine Sr ?_
 refine Ya ?_
 refine Nn ?_
 refine T_seq ?_
 refine Sr ?_
 refine Ym ?_
 refine Yy (o_eqNil rfl hh ty_us_49) ?_
 refine Nn ?_
 refine T_condNil (has rfl) (fun hx => ?_) ?_
 ·
  replace H : some [] = some r := by subst hx; exact H
  refine Sr ?_
  refine Ya ?_
  refine Nn ?_
  refine Rr ?_
  cases H
  exact T_out1 rfl (hasSE rfl ent_nil) rfl
 refine T_skip ?_
 refine T_then_n ?_
 refine Sr ?_
 refine T_new trivial rfl rfl (n_buildSliceC (t := tScopeRule) (xs := ([] : List ScopeRule)) rfl ty_et_49 PartsS.nil rfl rfl rfl) (fun b1 => ?_)
 generalize hv_v1 : (Value.slice (some ⟨b1, 0, none⟩) _ _) = v1; clear hv_v1
 refine T_rowCell 0 rfl (fun hc_v1 => ?_)
 refine Ym ?_
 revert H; refine bs fun z1 h1 H => ?_
 refine T_appendF (ys := a0) trivial rfl rfl rfl (has rfl) (has rfl) ty_et_49 rfl h1 (fun v2 => ?_)
 refine T_rowCell 0 rfl (fun hc_v2 => ?_)
 refine Ya ?_
 refine Nn ?_
 refine T_retc ?_
 refine T_freeze (φ := fSl tScopeRule z1) (v := v2) [2, 7] frz_row (by intro s hs; simp only [List.mem_cons, List.not_mem_nil, or_false] at hs; rcases hs with rfl | rfl <;> rfl) ?_
 refine T_dropT ?_
 cases H
 exact T_out1 rfl (hasS rfl) rfl
def w05_copied_l1 (y1 : List ScopeNode) : Nat → Int → (List ScopeNode) → Option (List ScopeNode)
| 0, _, _ => none
| k + 1, x4, x5 =>
 if x4 < (y1.length : Int) then
  (idx x5 x4).bind fun y2 =>
  (slices_Clone_Lint_int_S y2.Kids).bind fun y3 =>
  (idx x5 x4).bind fun y4 =>
  (chk (x4 + 1)).bind fun z1 =>
  w05_copied_l1 y1 k z1 (x5.set x4.toNat ({ y4 with Kids := y3 }))
 else
  some x5
def w05_copied_l2 (y5 : List ScopeDef) : Nat → Int → (List ScopeDef) → Option (List ScopeDef)
| 0, _, _ => none
| k + 1, x9, x10 =>
 if x9 < (y5.length : Int) then
  (idx x10 x9).bind fun y6 =>
  (slices_Clone_LScopeSpot_ScopeSpot_S y6.Spots).bind fun y7 =>
  (idx x10 x9).bind fun y8 =>
  (idx (x10.set x9.toNat ({ y8 with Spots := y7 })) x9).bind fun y9 =>
  (slices_Clone_LScopeRule_ScopeRule_S y9.Rules).bind fun y10 =>
  (idx (x10.set x9.toNat ({ y8 with Spots := y7 })) x9).bind fun y11 =>
  (chk (x9 + 1)).bind fun z2 =>
  w05_copied_l2 y5 k z2 ((x10.set x9.toNat ({ y8 with Spots := y7 })).set x9.toNat ({ y11 with Rules := y10 }))
 else
  some x10
def w05_copied_S (fuel : Nat) (a0 : ScopeProg) : Option (ScopeProg) :=
 (slices_Clone_LScopeNode_ScopeNode_S a0.Nodes).bind fun y1 =>
 (w05_copied_l1 y1 fuel 0 y1).bind fun x1 =>
 (slices_Clone_LScopeDef_ScopeDef_S a0.Defs).bind fun y5 =>
 (w05_copied_l2 y5 fuel 0 y5).bind fun x6 =>
 some (⟨a0.Free, x1, x6, a0.Main⟩ : ScopeProg)
theorem w05_copied_w (fuel : Nat)  (a0 : ScopeProg) (r : ScopeProg) (H : w05_copied_S fuel a0 = some r) : FnS Try.prog 11 [fSt tScopeProg a0] [] fAny (fun v => [tWrap .agg [.pure (fSl tStr r.Free), .own (fun v => tRow v 56 tScopeNode r.Nodes) (fun _ => row_isCell), .own (fun v => tRow v 52 tScopeDef r.Defs) (fun _ => row_isCell), .pure (fInt .i64 r.Main)] v]) := by
 unfold w05_copied_S at H
 refine FnS_of Try.func11 rfl Try.ntmps11 rfl (fun β => ?_)
 refine Sr ?_
 refine T_new trivial rfl rfl (n_box rfl (has rfl) part_agg) (fun b1 => ?_)
 refine T_new trivial rfl rfl (n_alloc rfl ty_ze_26 rfl) (fun b2 => ?_)
 refine Nn ?_
 refine Sr ?_
 refine Yy (o_fieldB 1 rfl hh ty_fa_26_1 rfl) ?_
 refine Yo 1 rfl (o_loadB rfl hh ty_sc_23 rfl Ent.rfl) ?_
 revert H; refine bs fun y1 h1 H => ?_
 refine T_callO trivial rfl rfl rfl (has rfl) (HasL.cons (has rfl) HasL.nil) rfl ty_cb_36 (slices_Clone_LScopeNode_ScopeNode_w a0.Nodes y1 h1) (Δi := []) rfl (fun v1 => ?_)
 dsimp only [List.append, List.cons_append, List.nil_append]
 refine T_rowCell 0 rfl (fun hc_v1 => ?_)
 refine Yy (o_fieldB 1 rfl hh ty_fa_26_1 rfl) ?_
 refine T_fr2 ?_
 refine T_store (φs' := [fSl tStr a0.Free, fEq v1, fSl tScopeDef a0.Defs, fInt .i64 a0.Main]) trivial rfl rfl (has rfl) (has rfl) (leaf_eq hc_v1) ty_sz_23 rfl rfl ?_
 refine Nn ?_
 revert H; refine bs fun o1 H Hr1 => ?_
 refine T_seqJ (ι := List ScopeNode) (fun i => o1 = i) (fun i => [(1, fEq (.pointer (some ⟨b1, 0, none⟩))), (2, fEq (.pointer (some ⟨b2, 0, none⟩)))]) (fun i => [tBlk b1 26 [fSl tStr a0.Free, fEq v1, fSl tScopeDef a0.Defs, fInt .i64 a0.Main], tBlk b2 26 [fEq (.slice none 0 0), fEq (.slice none 0 0), fEq (.slice none 0 0), fInt .i64 0], tRow v1 56 tScopeNode i]) ?_ ?_
 ·
  refine Sr ?_
  refine Yy (o_fieldB 1 rfl hh ty_fa_26_1 rfl) ?_
  refine Yo 0 rfl (o_loadB rfl hh ty_sc_23 rfl Ent.rfl) ?_
  refine Yo 1 rfl (o_lenR rfl hh ty_us_23) ?_
  refine Ym ?_
  refine Nn ?_
  refine T_block ?_
  refine T_pick [0, 2, 1] (by decide) ?_
  refine T_loop (ι := Nat × Int × List ScopeNode) (fun i => w05_copied_l1 y1 i.1 i.2.1 i.2.2 = _) (fun i => i.1) (fun i => [(1, fEq (.pointer (some ⟨b1, 0, none⟩))), (2, fEq (.pointer (some ⟨b2, 0, none⟩))), (11, fInt .i64 (y1.length : Int)), (12, fInt .i64 i.2.1)]) (fun i => [tBlk b1 26 [fSl tStr a0.Free, fEq v1, fSl tScopeDef a0.Defs, fInt .i64 a0.Main], tBlk b2 26 [fEq (.slice none 0 0), fEq (.slice none 0 0), fEq (.slice none 0 0), fInt .i64 0], tRow v1 56 tScopeNode i.2.2]) (fuel, 0, y1) H (Sc (Sc (Sc (Sc SubT.nil)))) rfl ?_
  clear H; rintro ⟨k1, x4, x5⟩ H
  replace H : w05_copied_l1 y1 k1 x4 x5 = _ := H
  show T β _ _ [(1, fEq (.pointer (some ⟨b1, 0, none⟩))), (2, fEq (.pointer (some ⟨b2, 0, none⟩))), (11, fInt .i64 (y1.length : Int)), (12, fInt .i64 x4)] [tBlk b1 26 [fSl tStr a0.Free, fEq v1, fSl tScopeDef a0.Defs, fInt .i64 a0.Main], tBlk b2 26 [fEq (.slice none 0 0), fEq (.slice none 0 0), fEq (.slice none 0 0), fInt .i64 0], tRow v1 56 tScopeNode x5] _
  obtain _ | k1 := k1
  ·
   rw [w05_copied_l1] at H; cases H
  rw [w05_copied_l1] at H
  refine Sr ?_
  refine Yy (o_lss rfl hh hh) ?_
  refine Nn ?_
  refine T_seq ?_
  revert H; refine is (fun c1 H => ?_) fun c1 H => ?_
  ·
   refine T_cond_t (has rfl) c1 ?_
   refine T_skip ?_
   refine T_then_n ?_
   refine T_seq ?_
   refine T_block ?_
   refine Sr ?_
   refine Ym ?_
   refine Ya ?_
   refine Nn ?_
   revert H; refine bs fun y2 h2 H => ?_
   revert H; refine bs fun y3 h3 H => ?_
   revert H; refine bs fun y4 h4 H => ?_
   refine T_net 13 [fun _ => .op [] false (fun _ => fEq (.pointer (some ⟨b1, 1, none⟩))) (fun _ => []), fun _ => .op [0] false (fun _ => fEq v1) (fun _ => [tEmp]), fun _ => .op [] false (fun _ => fInt .i64 x4) (fun _ => []), fun _ => .op [] false (fun _ => fEq (.pointer (some ⟨b1, 1, none⟩))) (fun _ => []), fun _ => .op [0] false (fun _ => fEq v1) (fun _ => [tEmp]), fun _ => .op [] false (fun _ => fInt .i64 x4) (fun _ => []), fun _ => .op [2] false (fun _ => fRowAt v1 4 x4.toNat 0) (fun _ => [tEmp]), fun _ => .op [] false (fun _ => fRowAt v1 4 x4.toNat 3) (fun _ => []), fun _ => .op [2] false (fun _ => fSl (tInt .i64) y2.Kids) (fun _ => [tEmp]), fun _ => .op [] true (fun _ => fSl (tInt .i64) y3) (fun _ => []), fun _ => .op [2] false (fun _ => fRowAt v1 4 x4.toNat 0) (fun _ => [tEmp]), fun _ => .op [] false (fun _ => fRowAt v1 4 x4.toNat 3) (fun _ => []), fun _ => .op [2] true (fun _ => fAny) (fun _ => [tRow v1 56 tScopeNode (x5.set x4.toNat ({ y4 with Kids := y3 }))])] [([], false, []), ([0], false, []), ([], false, []), ([], false, []), ([0], false, []), ([], false, []), ([2], false, []), ([], false, []), ([2], false, []), ([], true, []), ([2], false, []), ([], false, []), ([2], true, [])] 0 3 mixed (F0 (F0 (F0 (F0 (F0 (F0 (F0 (F0 (F0 (F0 (F0 (F0 (F0 FitsL.nil))))))))))))) (by kernel_rfl) rfl rfl (by kernel_rfl) rfl ?_
   dsimp only [netL, List.take, List.replicate, List.append, List.drop]
   refine N_y (φ := fEq (.pointer (some ⟨b1, 1, none⟩))) rfl (fun _ => rfl) trivial rfl (o_fieldB 1 rfl (has rfl) ty_fa_26_1 rfl) (fun _ => ?_)
   refine N_op (ps := [0]) (φ := fEq v1) rfl (fun _ => rfl) trivial rfl rfl (o_loadB rfl (has rfl) ty_sc_23 rfl Ent.rfl) (fun _ => ?_)
   refine My (h := o_move rfl hh) (k := fun _ => ?_)
   refine N_y (φ := fEq (.pointer (some ⟨b1, 1, none⟩))) rfl (fun _ => rfl) trivial rfl (o_fieldB 1 rfl (has rfl) ty_fa_26_1 rfl) (fun _ => ?_)
   refine N_op (ps := [0]) (φ := fEq v1) rfl (fun _ => rfl) trivial rfl rfl (o_loadB rfl (has rfl) ty_sc_23 rfl Ent.rfl) (fun _ => ?_)
   refine My (h := o_move rfl hh) (k := fun _ => ?_)
   refine N_op (ps := [2]) (φ := fRowAt v1 4 x4.toNat 0) rfl (fun _ => rfl) trivial rfl rfl (o_indexR rfl (has rfl) (has rfl) ty_el_23 h2) (fun _ => ?_)
   refine My (h := o_fieldR 3 rfl hh ty_fa_56_3 rfl) (k := fun _ => ?_)
   refine N_op (ps := [2]) (φ := fSl (tInt .i64) y2.Kids) rfl (fun _ => rfl) trivial rfl rfl (o_loadR rfl rfl (has rfl) ty_sc_46 (idx_get h2) rfl) (fun _ => ?_)
   refine N_call (Φ := fSl (tInt .i64) y3) rfl (fun _ => rfl) trivial rfl rfl (has rfl) (HasL.cons (has rfl) HasL.nil) rfl ty_cb_37 (slices_Clone_Lint_int_w y2.Kids y3 h3) (fun _ => ?_)
   refine N_op (ps := [2]) (φ := fRowAt v1 4 x4.toNat 0) rfl (fun _ => rfl) trivial rfl rfl (o_indexR rfl (has rfl) (has rfl) ty_el_23 h4) (fun _ => ?_)
   refine My (h := o_fieldR 3 rfl hh ty_fa_56_3 rfl) (k := fun _ => ?_)
   refine N_storeR (p := 2) (z' := { y4 with Kids := y3 }) rfl (fun _ => rfl) (fun _ => rfl) trivial rfl rfl rfl rfl (has rfl) (has rfl) (leaf_sl) ty_sz_46 (idx_get h4) rfl rfl (fun _ => ?_)
   refine N_done rfl ?_
   refine T_nil ?_
   refine T_in_n ?_
   refine T_then_n ?_
   refine T_region ?_
   revert H; refine bs fun z1 h5 H => ?_
   refine Yy (o_add rfl hh hh h5) ?_
   refine Ym ?_
   refine Nn ?_
   exact T_meet ((k1, z1, x5.set x4.toNat ({ y4 with Kids := y3 }))) ⟨H, Nat.lt_succ_self _⟩ (Sc (Sc (Sc (Sc SubT.nil)))) rfl
  ·
   refine T_cond_f (has rfl) c1 ?_
   refine T_exit ?_
   refine T_then_exit ?_
   refine T_then_exit ?_
   refine T_in_hit ?_
   refine T_then_n ?_
   exact T_meet (x5) (Option.some.inj H).symm (Sc (Sc SubT.nil)) rfl
 ·
  clear H; intro x1 hi; subst o1; have H := Hr1; clear Hr1; try dsimp only at H
  show T β _ _ [(1, fEq (.pointer (some ⟨b1, 0, none⟩))), (2, fEq (.pointer (some ⟨b2, 0, none⟩)))] [tBlk b1 26 [fSl tStr a0.Free, fEq v1, fSl tScopeDef a0.Defs, fInt .i64 a0.Main], tBlk b2 26 [fEq (.slice none 0 0), fEq (.slice none 0 0), fEq (.slice none 0 0), fInt .i64 0], tRow v1 56 tScopeNode x1] _
  refine Sr ?_
  refine Yy (o_fieldB 2 rfl hh ty_fa_26_2 rfl) ?_
  refine Yo 0 rfl (o_loadB rfl hh ty_sc_24 rfl Ent.rfl) ?_
  revert H; refine bs fun y5 h6 H => ?_
  refine T_callO trivial rfl rfl rfl (has rfl) (HasL.cons (has rfl) HasL.nil) rfl ty_cb_38 (slices_Clone_LScopeDef_ScopeDef_w a0.Defs y5 h6) (Δi := []) rfl (fun v2 => ?_)
  dsimp only [List.append, List.cons_append, List.nil_append]
  refine T_rowCell 0 rfl (fun hc_v2 => ?_)
  refine Yy (o_fieldB 2 rfl hh ty_fa_26_2 rfl) ?_
  refine T_fr1 ?_
  refine T_store (φs' := [fSl tStr a0.Free, fEq v1, fEq v2, fInt .i64 a0.Main]) trivial rfl rfl (has rfl) (has rfl) (leaf_eq hc_v2) ty_sz_24 rfl rfl ?_
  refine Nn ?_
  revert H; refine bs fun o2 H Hr2 => ?_
  refine T_seqJ (ι := List ScopeDef) (fun i => o2 = i) (fun i => [(1, fEq (.pointer (some ⟨b1, 0, none⟩))), (2, fEq (.pointer (some ⟨b2, 0, none⟩)))]) (fun i => [tBlk b1 26 [fSl tStr a0.Free, fEq v1, fEq v2, fInt .i64 a0.Main], tBlk b2 26 [fEq (.slice none 0 0), fEq (.slice none 0 0), fEq (.slice none 0 0), fInt .i64 0], tRow v1 56 tScopeNode x1, tRow v2 52 tScopeDef i]) ?_ ?_
  ·
   refine Sr ?_
   refine Yy (o_fieldB 2 rfl hh ty_fa_26_2 rfl) ?_
   refine Yo 0 rfl (o_loadB rfl hh ty_sc_24 rfl Ent.rfl) ?_
   refine Yo 1 rfl (o_lenR rfl hh ty_us_24) ?_
   refine Ym ?_
   refine Nn ?_
   refine T_block ?_
   refine T_pick [0, 2, 3, 1] (by decide) ?_
   refine T_loop (ι := Nat × Int × List ScopeDef) (fun i => w05_copied_l2 y5 i.1 i.2.1 i.2.2 = _) (fun i => i.1) (fun i => [(1, fEq (.pointer (some ⟨b1, 0, none⟩))), (2, fEq (.pointer (some ⟨b2, 0, none⟩))), (34, fInt .i64 (y5.length : Int)), (35, fInt .i64 i.2.1)]) (fun i => [tBlk b1 26 [fSl tStr a0.Free, fEq v1, fEq v2, fInt .i64 a0.Main], tBlk b2 26 [fEq (.slice none 0 0), fEq (.slice none 0 0), fEq (.slice none 0 0), fInt .i64 0], tRow v1 56 tScopeNode x1, tRow v2 52 tScopeDef i.2.2]) (fuel, 0, y5) H (Sc (Sc (Sc (Sc SubT.nil)))) rfl ?_
   clear H; rintro ⟨k2, x9, x10⟩ H
   replace H : w05_copied_l2 y5 k2 x9 x10 = _ := H
   show T β _ _ [(1, fEq (.pointer (some ⟨b1, 0, none⟩))), (2, fEq (.pointer (some ⟨b2, 0, none⟩))), (34, fInt .i64 (y5.length : Int)), (35, fInt .i64 x9)] [tBlk b1 26 [fSl tStr a0.Free, fEq v1, fEq v2, fInt .i64 a0.Main], tBlk b2 26 [fEq (.slice none 0 0), fEq (.slice none 0 0), fEq (.slice none 0 0), fInt .i64 0], tRow v1 56 tScopeNode x1, tRow v2 52 tScopeDef x10] _
   obtain _ | k2 := k2
   ·
    rw [w05_copied_l2] at H; cases H
   rw [w05_copied_l2] at H
   refine Sr ?_
   refine Yy (o_lss rfl hh hh) ?_
   refine Nn ?_
   refine T_seq ?_
   revert H; refine is (fun c2 H => ?_) fun c2 H => ?_
   ·
    refine T_cond_t (has rfl) c2 ?_
    refine T_skip ?_
    refine T_then_n ?_
    refine T_seq ?_
    refine T_block ?_
    refine Sr ?_
    refine Ym ?_
    refine Ya ?_
    refine Nn ?_
    refine T_seq ?_
    revert H; refine bs fun y6 h7 H => ?_
    revert H; refine bs fun y7 h8 H => ?_
    revert H; refine bs fun y8 h9 H => ?_
    refine T_net 13 [fun _ => .op [] false (fun _ => fEq (.pointer (some ⟨b1, 2, none⟩))) (fun _ => []), fun _ => .op [0] false (fun _ => fEq v2) (fun _ => [tEmp]), fun _ => .op [] false (fun _ => fInt .i64 x9) (fun _ => []), fun _ => .op [] false (fun _ => fEq (.pointer (some ⟨b1, 2, none⟩))) (fun _ => []), fun _ => .op [0] false (fun _ => fEq v2) (fun _ => [tEmp]), fun _ => .op [] false (fun _ => fInt .i64 x9) (fun _ => []), fun _ => .op [3] false (fun _ => fRowAt v2 3 x9.toNat 0) (fun _ => [tEmp]), fun _ => .op [] false (fun _ => fRowAt v2 3 x9.toNat 1) (fun _ => []), fun _ => .op [3] false (fun _ => fSl tScopeSpot y6.Spots) (fun _ => [tEmp]), fun _ => .op [] true (fun _ => fSl tScopeSpot y7) (fun _ => []), fun _ => .op [3] false (fun _ => fRowAt v2 3 x9.toNat 0) (fun _ => [tEmp]), fun _ => .op [] false (fun _ => fRowAt v2 3 x9.toNat 1) (fun _ => []), fun _ => .op [3] true (fun _ => fAny) (fun _ => [tRow v2 52 tScopeDef (x10.set x9.toNat ({ y8 with Spots := y7 }))])] [([], false, []), ([0], false, []), ([], false, []), ([], false, []), ([0], false, []), ([], false, []), ([3], false, []), ([], false, []), ([3], false, []), ([], true, []), ([3], false, []), ([], false, []), ([3], true, [])] 0 4 mixed (F0 (F0 (F0 (F0 (F0 (F0 (F0 (F0 (F0 (F0 (F0 (F0 (F0 FitsL.nil))))))))))))) (by kernel_rfl) rfl rfl (by kernel_rfl) rfl ?_
    dsimp only [netL, List.take, List.replicate, List.append, List.drop]
    refine N_y (φ := fEq (.pointer (some ⟨b1, 2, none⟩))) rfl (fun _ => rfl) trivial rfl (o_fieldB 2 rfl (has rfl) ty_fa_26_2 rfl) (fun _ => ?_)
    refine N_op (ps := [0]) (φ := fEq v2) rfl (fun _ => rfl) trivial rfl rfl (o_loadB rfl (has rfl) ty_sc_24 rfl Ent.rfl) (fun _ => ?_)
    refine My (h := o_move rfl hh) (k := fun _ => ?_)
    refine N_y (φ := fEq (.pointer (some ⟨b1, 2, none⟩))) rfl (fun _ => rfl) trivial rfl (o_fieldB 2 rfl (has rfl) ty_fa_26_2 rfl) (fun _ => ?_)
    refine N_op (ps := [0]) (φ := fEq v2) rfl (fun _ => rfl) trivial rfl rfl (o_loadB rfl (has rfl) ty_sc_24 rfl Ent.rfl) (fun _ => ?_)
    refine My (h := o_move rfl hh) (k := fun _ => ?_)
    refine N_op (ps := [3]) (φ := fRowAt v2 3 x9.toNat 0) rfl (fun _ => rfl) trivial rfl rfl (o_indexR rfl (has rfl) (has rfl) ty_el_24 h7) (fun _ => ?_)
    refine My (h := o_fieldR 1 rfl hh ty_fa_52_1 rfl) (k := fun _ => ?_)
    refine N_op (ps := [3]) (φ := fSl tScopeSpot y6.Spots) rfl (fun _ => rfl) trivial rfl rfl (o_loadR rfl rfl (has rfl) ty_sc_50 (idx_get h7) rfl) (fun _ => ?_)
    refine N_call (Φ := fSl tScopeSpot y7) rfl (fun _ => rfl) trivial rfl rfl (has rfl) (HasL.cons (has rfl) HasL.nil) rfl ty_cb_39 (slices_Clone_LScopeSpot_ScopeSpot_w y6.Spots y7 h8) (fun _ => ?_)
    refine N_op (ps := [3]) (φ := fRowAt v2 3 x9.toNat 0) rfl (fun _ => rfl) trivial rfl rfl (o_indexR rfl (has rfl) (has rfl) ty_el_24 h9) (fun _ => ?_)
    refine My (h := o_fieldR 1 rfl hh ty_fa_52_1 rfl) (k := fun _ => ?_)
    refine N_storeR (p := 3) (z' := { y8 with Spots := y7 }) rfl (fun _ => rfl) (fun _ => rfl) trivial rfl rfl rfl rfl (has rfl) (has rfl) (leaf_sl) ty_sz_50 (idx_get h9) rfl rfl (fun _ => ?_)
    refine N_done rfl ?_
    refine Nn ?_
    revert H; refine bs fun y9 h10 H => ?_
    revert H; refine bs fun y10 h11 H => ?_
    revert H; refine bs fun y11 h12 H => ?_
    refine T_net 13 [fun _ => .op [] false (fun _ => fEq (.pointer (some ⟨b1, 2, none⟩))) (fun _ => []), fun _ => .op [0] false (fun _ => fEq v2) (fun _ => [tEmp]), fun _ => .op [] false (fun _ => fInt .i64 x9) (fun _ => []), fun _ => .op [] false (fun _ => fEq (.pointer (some ⟨b1, 2, none⟩))) (fun _ => []), fun _ => .op [0] false (fun _ => fEq v2) (fun _ => [tEmp]), fun _ => .op [] false (fun _ => fInt .i64 x9) (fun _ => []), fun _ => .op [3] false (fun _ => fRowAt v2 3 x9.toNat 0) (fun _ => [tEmp]), fun _ => .op [] false (fun _ => fRowAt v2 3 x9.toNat 2) (fun _ => []), fun _ => .op [3] false (fun _ => fSl tScopeRule y9.Rules) (fun _ => [tEmp]), fun _ => .op [] true (fun _ => fSl tScopeRule y10) (fun _ => []), fun _ => .op [3] false (fun _ => fRowAt v2 3 x9.toNat 0) (fun _ => [tEmp]), fun _ => .op [] false (fun _ => fRowAt v2 3 x9.toNat 2) (fun _ => []), fun _ => .op [3] true (fun _ => fAny) (fun _ => [tRow v2 52 tScopeDef ((x10.set x9.toNat ({ y8 with Spots := y7 })).set x9.toNat ({ y11 with Rules := y10 }))])] [([], false, []), ([0], false, []), ([], false, []), ([], false, []), ([0], false, []), ([], false, []), ([3], false, []), ([], false, []), ([3], false, []), ([], true, []), ([3], false, []), ([], false, []), ([3], true, [])] 0 4 mixed (F0 (F0 (F0 (F0 (F0 (F0 (F0 (F0 (F0 (F0 (F0 (F0 (F0 FitsL.nil))))))))))))) (by kernel_rfl) rfl rfl (by kernel_rfl) rfl ?_
    dsimp only [netL, List.take, List.replicate, List.append, List.drop]
    refine N_y (φ := fEq (.pointer (some ⟨b1, 2, none⟩))) rfl (fun _ => rfl) trivial rfl (o_fieldB 2 rfl (has rfl) ty_fa_26_2 rfl) (fun _ => ?_)
    refine N_op (ps := [0]) (φ := fEq v2) rfl (fun _ => rfl) trivial rfl rfl (o_loadB rfl (has rfl) ty_sc_24 rfl Ent.rfl) (fun _ => ?_)
    refine My (h := o_move rfl hh) (k := fun _ => ?_)
    refine N_y (φ := fEq (.pointer (some ⟨b1, 2, none⟩))) rfl (fun _ => rfl) trivial rfl (o_fieldB 2 rfl (has rfl) ty_fa_26_2 rfl) (fun _ => ?_)
    refine N_op (ps := [0]) (φ := fEq v2) rfl (fun _ => rfl) trivial rfl rfl (o_loadB rfl (has rfl) ty_sc_24 rfl Ent.rfl) (fun _ => ?_)
    refine My (h := o_move rfl hh) (k := fun _ => ?_)
    refine N_op (ps := [3]) (φ := fRowAt v2 3 x9.toNat 0) rfl (fun _ => rfl) trivial rfl rfl (o_indexR rfl (has rfl) (has rfl) ty_el_24 h10) (fun _ => ?_)
    refine My (h := o_fieldR 2 rfl hh ty_fa_52_2 rfl) (k := fun _ => ?_)
    refine N_op (ps := [3]) (φ := fSl tScopeRule y9.Rules) rfl (fun _ => rfl) trivial rfl rfl (o_loadR rfl rfl (has rfl) ty_sc_49 (idx_get h10) rfl) (fun _ => ?_)
    refine N_call (Φ := fSl tScopeRule y10) rfl (fun _ => rfl) trivial rfl rfl (has rfl) (HasL.cons (has rfl) HasL.nil) rfl ty_cb_40 (slices_Clone_LScopeRule_ScopeRule_w y9.Rules y10 h11) (fun _ => ?_)
    refine N_op (ps := [3]) (φ := fRowAt v2 3 x9.toNat 0) rfl (fun _ => rfl) trivial rfl rfl (o_indexR rfl (has rfl) (has rfl) ty_el_24 h12) (fun _ => ?_)
    refine My (h := o_fieldR 2 rfl hh ty_fa_52_2 rfl) (k := fun _ => ?_)
    refine N_storeR (p := 3) (z' := { y11 with Rules := y10 }) rfl (fun _ => rfl) (fun _ => rfl) trivial rfl rfl rfl rfl (has rfl) (has rfl) (leaf_sl) ty_sz_49 (idx_get h12) rfl rfl (fun _ => ?_)
    refine N_done rfl ?_
    refine T_nil ?_
    refine T_in_n ?_
    refine T_then_n ?_
    refine T_region ?_
    revert H; refine bs fun z2 h13 H => ?_
    refine Yy (o_add rfl hh hh h13) ?_
    refine Ym ?_
    refine Nn ?_
    exact T_meet ((k2, z2, (x10.set x9.toNat ({ y8 with Spots := y7 })).set x9.toNat ({ y11 with Rules := y10 }))) ⟨H, Nat.lt_succ_self _⟩ (Sc (Sc (Sc (Sc SubT.nil)))) rfl
   ·
    refine T_cond_f (has rfl) c2 ?_
    refine T_exit ?_
    refine T_then_exit ?_
    refine T_then_exit ?_
    refine T_in_hit ?_
    refine T_then_n ?_
    exact T_meet (x10) (Option.some.inj H).symm (Sc (Sc SubT.nil)) rfl
  ·
   clear H; intro x6 hi; subst o2; have H := Hr2; clear Hr2; try dsimp only at H
   show T β _ _ [(1, fEq (.pointer (some ⟨b1, 0, none⟩))), (2, fEq (.pointer (some ⟨b2, 0, none⟩)))] [tBlk b1 26 [fSl tStr a0.Free, fEq v1, fEq v2, fInt .i64 a0.Main], tBlk b2 26 [fEq (.slice none 0 0), fEq (.slice none 0 0), fEq (.slice none 0 0), fInt .i64 0], tRow v1 56 tScopeNode x1, tRow v2 52 tScopeDef x6] _
   refine Sr ?_
   refine Yo 0 rfl (o_loadBS rfl hh ty_ag_26 rfl rfl) ?_
   refine T_fr1 ?_
   refine T_storeS (φs' := [fSl tStr a0.Free, fEq v1, fEq v2, fInt .i64 a0.Main]) trivial rfl rfl (has rfl) (has rfl) (ll_cons (leaf_sl) (ll_cons (leaf_eq hc_v1) (ll_cons (leaf_eq hc_v2) (ll_cons (leaf_eq trivial) ll_nil)))) ty_sz_26 rfl rfl rfl ?_
   refine Nn ?_
   refine T_retc ?_
   cases H
   refine T_pick [0, 2, 3] (by decide) ?_
   exact T_outWC rfl ty_ag_26 (hasS rfl) (AsmL.pure Ent.rfl (leaf_sl) (AsmL.own (AsmL.own (AsmL.pure Ent.rfl (leaf_eq trivial) AsmL.nil)))) rfl rfl
def slices_Equal_LUsageKind_UsageKind_l1 (a0 : List Int) (a1 : List Int) : Nat → Int → Option ((Unit) ⊕ (Bool))
| 0, _ => none
| k + 1, x2 =>
 if x2 < (a0.length : Int) then
  (idx a0 x2).bind fun y1 =>
  (idx a1 x2).bind fun y2 =>
  if y1 ≠ y2 then
   (some false).bind fun r => some (Sum.inr r)
  else
   (chk (x2 + 1)).bind fun z1 =>
   slices_Equal_LUsageKind_UsageKind_l1 a0 a1 k z1
 else
  some (Sum.inl ())
def slices_Equal_LUsageKind_UsageKind_S (fuel : Nat) (a0 : List Int) (a1 : List Int) : Option (Bool) :=
 if (a0.length : Int) ≠ (a1.length : Int) then
  some false
 else
  (slices_Equal_LUsageKind_UsageKind_l1 a0 a1 fuel 0).bind fun o => match o with
  | Sum.inr r => some r
  | Sum.inl _ =>
  some true
theorem slices_Equal_LUsageKind_UsageKind_w (fuel : Nat)  (a0 : List Int) (a1 : List Int) (r : Bool) (H : slices_Equal_LUsageKind_UsageKind_S fuel a0 a1 = some r) : FnS Try.prog 12 [fSl (tInt .i64) a0, fSl (tInt .i64) a1] [] (fBool r) (fun _ => []) := by
 unfold slices_Equal_LUsageKind_UsageKind_S at H
 refine FnS_of Try.func12 rfl Try.ntmps12 rfl (fun β => ?_)
 refine Sr ?_
 refine Ya ?_
 refine Nn ?_
 refine T_seq ?_
 refine Sr ?_
 refine Ym ?_
 refine Yy (o_len rfl hh ty_us_37) ?_
 refine Ym ?_
 refine Yy (o_len rfl hh ty_us_37) ?_
 refine Yy (o_neq rfl hh hh) ?_
 refine Nn ?_
 revert H; refine is (fun c1 H => ?_) fun c1 H => ?_
 ·
  refine T_cond_t (has rfl) c1 ?_
  refine Sr ?_
  refine Ya ?_
  refine Nn ?_
  refine Rr ?_
  cases H
  exact T_out1 rfl (hasS rfl) rfl
 ·
  refine T_cond_f (has rfl) c1 ?_
  refine T_skip ?_
  refine T_then_n ?_
  revert H; refine bs fun o1 H Hr1 => ?_
  refine T_seqJ (ι := Unit) (fun i => o1 = Sum.inl ()) (fun i => []) (fun i => []) ?_ ?_
  ·
   refine Sr ?_
   refine Ym ?_
   refine Yy (o_len rfl hh ty_us_37) ?_
   refine Ym ?_
   refine Nn ?_
   refine T_block ?_
   refine T_loop (ι := Nat × Int) (fun i => slices_Equal_LUsageKind_UsageKind_l1 a0 a1 i.1 i.2 = _) (fun i => i.1) (fun i => [(0, fSl (tInt .i64) a0), (1, fSl (tInt .i64) a1), (12, fInt .i64 (a0.length : Int)), (13, fInt .i64 i.2)]) (fun i => []) (fuel, 0) H (Sc (Sc (Sc (Sc SubT.nil)))) rfl ?_
   clear H; rintro ⟨k1, x2⟩ H
   replace H : slices_Equal_LUsageKind_UsageKind_l1 a0 a1 k1 x2 = _ := H
   show T β _ _ [(0, fSl (tInt .i64) a0), (1, fSl (tInt .i64) a1), (12, fInt .i64 (a0.length : Int)), (13, fInt .i64 x2)] [] _
   obtain _ | k1 := k1
   ·
    rw [slices_Equal_LUsageKind_UsageKind_l1] at H; cases H
   rw [slices_Equal_LUsageKind_UsageKind_l1] at H
   refine Sr ?_
   refine Yy (o_lss rfl hh hh) ?_
   refine Nn ?_
   refine T_seq ?_
   revert H; refine is (fun c2 H => ?_) fun c2 H => ?_
   ·
    refine T_cond_t (has rfl) c2 ?_
    refine T_skip ?_
    refine T_then_n ?_
    refine T_seq ?_
    refine T_block ?_
    refine Sr ?_
    refine Ym ?_
    refine Ya ?_
    refine Nn ?_
    refine T_seq ?_
    revert H; refine bs fun y1 h1 H => ?_
    revert H; refine bs fun y2 h2 H => ?_
    refine T_net 9 [fun _ => .op [] false (fun _ => fSl (tInt .i64) a0) (fun _ => []), fun _ => .op [] false (fun _ => fInt .i64 x2) (fun _ => []), fun _ => .op [] false (fun _ => fPtr (tInt .i64) y1) (fun _ => []), fun _ => .op [] false (fun _ => fInt .i64 y1) (fun _ => []), fun _ => .op [] false (fun _ => fSl (tInt .i64) a1) (fun _ => []), fun _ => .op [] false (fun _ => fInt .i64 x2) (fun _ => []), fun _ => .op [] false (fun _ => fPtr (tInt .i64) y2) (fun _ => []), fun _ => .op [] false (fun _ => fInt .i64 y2) (fun _ => []), fun _ => .op [] false (fun _ => fBool (decide (y1 ≠ y2))) (fun _ => [])] [([], false, []), ([], false, []), ([], false, []), ([], false, []), ([], false, []), ([], false, []), ([], false, []), ([], false, []), ([], false, [])] 0 0 mixed (F0 (F0 (F0 (F0 (F0 (F0 (F0 (F0 (F0 FitsL.nil))))))))) (by kernel_rfl) rfl rfl (by kernel_rfl) rfl ?_
    dsimp only [netL, List.take, List.replicate, List.append, List.drop]
    refine My (h := o_move rfl hh) (k := fun _ => ?_)
    refine My (h := o_move rfl hh) (k := fun _ => ?_)
    refine My (h := o_index rfl hh hh ty_el_37 h1) (k := fun _ => ?_)
    refine My (h := o_load rfl hh ty_sc_41 rfl) (k := fun _ => ?_)
    refine My (h := o_move rfl hh) (k := fun _ => ?_)
    refine My (h := o_move rfl hh) (k := fun _ => ?_)
    refine My (h := o_index rfl hh hh ty_el_37 h2) (k := fun _ => ?_)
    refine My (h := o_load rfl hh ty_sc_41 rfl) (k := fun _ => ?_)
    refine My (h := o_neq rfl hh hh) (k := fun _ => ?_)
    refine N_done rfl ?_
    refine Nn ?_
    revert H; refine is (fun c3 H => ?_) fun c3 H => ?_
    ·
     refine T_cond_t (has rfl) c3 ?_
     refine Sr ?_
     refine Ya ?_
     refine Nn ?_
     refine T_retc ?_
     refine T_in_ret ?_
     refine T_then_ret ?_
     refine T_then_ret ?_
     refine T_in_ret ?_
     refine T_then_ret ?_
     revert H; refine bs fun r1 H e1 => ?_
     have e1 := Option.some.inj e1; subst e1; have Hr1 := Option.some.inj Hr1; subst Hr1
     cases H
     exact T_out1 rfl (hasS rfl) rfl
    ·
     refine T_cond_f (has rfl) c3 ?_
     refine T_skip ?_
     refine T_in_n ?_
     refine T_then_n ?_
     refine T_region ?_
     revert H; refine bs fun z1 h3 H => ?_
     refine Yy (o_add rfl hh hh h3) ?_
     refine Ym ?_
     refine Nn ?_
     exact T_meet ((k1, z1)) ⟨H, Nat.lt_succ_self _⟩ (Sc (Sc (Sc (Sc SubT.nil)))) rfl
   ·
    refine T_cond_f (has rfl) c2 ?_
    refine T_exit ?_
    refine T_then_exit ?_
    refine T_then_exit ?_
    refine T_in_hit ?_
    refine T_then_n ?_
    exact T_meet (()) (Option.some.inj H).symm SubT.nil rfl
  ·
   clear H; intro i hi; subst o1; have H := Hr1; clear Hr1; try dsimp only at H
   show T β _ _ [] [] _
   refine Sr ?_
   refine Ya ?_
   refine Nn ?_
   refine T_retc ?_
   cases H
   exact T_out1 rfl (hasS rfl) rfl
def w05_UsageKnown_S (fuel : Nat)  : Option (Bool) :=
 (w05_copied_S fuel (⟨[], [(⟨4, 0, [], [2]⟩ : ScopeNode), (⟨2, 0, [], []⟩ : ScopeNode), (⟨2, 0, [], []⟩ : ScopeNode)], [(⟨[(⟨0, 0⟩ : ScopeChan)], [], [(⟨0, [0], 1⟩ : ScopeRule)]⟩ : ScopeDef)], 0⟩ : ScopeProg)).bind fun y1 =>
 (idx y1.Nodes 2).bind fun y2 =>
 (usage_Table_S fuel (⟨[], [(⟨4, 0, [], [2]⟩ : ScopeNode), (⟨2, 0, [], []⟩ : ScopeNode), (⟨2, 0, [], []⟩ : ScopeNode)], [(⟨[(⟨0, 0⟩ : ScopeChan)], [], [(⟨0, [0], 1⟩ : ScopeRule)]⟩ : ScopeDef)], 0⟩ : ScopeProg)).bind fun y3 =>
 (usage_Table_S fuel (⟨y1.Free, y1.Nodes.set ((2 : Int).toNat) (⟨1, 0, [], []⟩ : ScopeNode), y1.Defs, y1.Main⟩ : ScopeProg)).bind fun y4 =>
 if y3.2 ≠ 0 then
  some false
 else
  if y4.2 ≠ 0 then
   some false
  else
   if (y3.1.length : Int) ≠ 1 then
    some false
   else
    if (y4.1.length : Int) ≠ 1 then
     some false
    else
     (idx y3.1 0).bind fun y5 =>
     (slices_Equal_LUsageKind_UsageKind_S fuel y5.Chans [4]).bind fun y6 =>
     bif !y6 then
      some false
     else
      (idx y4.1 0).bind fun y7 =>
      (slices_Equal_LUsageKind_UsageKind_S fuel y7.Chans [1]).bind fun y8 =>
      bif y8 then
       (w05_names_S fuel [1]).bind fun y9 =>
       (w05_number_S 1).bind fun y10 =>
       (usage_Table_S fuel (⟨[], [(⟨4, 0, [], [2]⟩ : ScopeNode), (⟨1, 0, [], []⟩ : ScopeNode), (⟨4, 1, [], [4]⟩ : ScopeNode), (⟨2, 0, y9, []⟩ : ScopeNode), (⟨3, 0, [], [5, 6]⟩ : ScopeNode), (⟨2, 1, [], []⟩ : ScopeNode), (⟨2, 0, y10, []⟩ : ScopeNode)], [(⟨[(⟨0, 1⟩ : ScopeChan)], [], [(⟨0, [0], 1⟩ : ScopeRule)]⟩ : ScopeDef), (⟨[(⟨0, 0⟩ : ScopeChan)], [], [(⟨0, [0], 3⟩ : ScopeRule)]⟩ : ScopeDef)], 0⟩ : ScopeProg)).bind fun y11 =>
       if y11.2 ≠ 0 then
        some false
       else
        if (y11.1.length : Int) ≠ 2 then
         some false
        else
         (idx y11.1 1).bind fun y12 =>
         (slices_Equal_LUsageKind_UsageKind_S fuel y12.Chans [2]).bind fun y13 =>
         bif !y13 then
          some false
         else
          (idx (y11.1.set ((1 : Int).toNat) ({ y12 with Chans := y12.Chans })) 0).bind fun y14 =>
          (idx y14.Args 0).bind fun y15 =>
          (slices_Equal_LUsageKind_UsageKind_S fuel y15 [1]).bind fun y16 =>
          bif y16 then
           (idx [(⟨4, 0, [], [2]⟩ : ScopeNode), (⟨1, 0, [], []⟩ : ScopeNode), (⟨4, 1, [], [4]⟩ : ScopeNode), (⟨2, 0, y9, []⟩ : ScopeNode), (⟨3, 0, [], [5, 6]⟩ : ScopeNode), (⟨2, 1, [], []⟩ : ScopeNode), (⟨2, 0, y10, []⟩ : ScopeNode)] 1).bind fun y17 =>
           (idx ([(⟨4, 0, [], [2]⟩ : ScopeNode), (⟨1, 0, [], []⟩ : ScopeNode), (⟨4, 1, [], [4]⟩ : ScopeNode), (⟨2, 0, y9, []⟩ : ScopeNode), (⟨3, 0, [], [5, 6]⟩ : ScopeNode), (⟨2, 1, [], []⟩ : ScopeNode), (⟨2, 0, y10, []⟩ : ScopeNode)].set ((1 : Int).toNat) (⟨2, 1, [], []⟩ : ScopeNode)) 6).bind fun y18 =>
           (usage_Table_S fuel (⟨[], ([(⟨4, 0, [], [2]⟩ : ScopeNode), (⟨1, 0, [], []⟩ : ScopeNode), (⟨4, 1, [], [4]⟩ : ScopeNode), (⟨2, 0, y9, []⟩ : ScopeNode), (⟨3, 0, [], [5, 6]⟩ : ScopeNode), (⟨2, 1, [], []⟩ : ScopeNode), (⟨2, 0, y10, []⟩ : ScopeNode)].set ((1 : Int).toNat) (⟨2, 1, [], []⟩ : ScopeNode)).set ((6 : Int).toNat) (⟨1, 0, [], []⟩ : ScopeNode), [(⟨[(⟨0, 1⟩ : ScopeChan)], [], [(⟨0, [0], 1⟩ : ScopeRule)]⟩ : ScopeDef), (⟨[(⟨0, 0⟩ : ScopeChan)], [], [(⟨0, [0], 3⟩ : ScopeRule)]⟩ : ScopeDef)], 0⟩ : ScopeProg)).bind fun y19 =>
           (if y19.2 = 0 then
            if (y19.1.length : Int) = 2 then
             (idx y19.1 1).bind fun y20 =>
             (slices_Equal_LUsageKind_UsageKind_S fuel y20.Chans [4]).bind fun y21 =>
             bif y21 then
              (w05_works_S fuel).bind fun y22 =>
              some y22
             else
              some false
            else
             some false
           else
            some false).bind fun x1 =>
           some x1
          else
           some false
      else
       some false
theorem w05_UsageKnown_w (fuel : Nat)   (r : Bool) (H : w05_UsageKnown_S fuel = some r) : FnS Try.prog 4 [] [] (fBool r) (fun _ => []) := by
 unfold w05_UsageKnown_S at H
 refine FnS_of Try.func4 rfl Try.ntmps4 rfl (fun β => ?_)
 refine Sr ?_
 refine Ya ?_
 refine Nn ?_
 refine Sr ?_
 refine Yy (o_build (ψs := [fInt .i64 0, fInt .i64 0]) rfl ty_bu_44 rfl Parts.nil rfl) ?_
 refine T_new trivial rfl rfl (n_buildSliceC (t := tScopeChan) (xs := [(⟨0, 0⟩ : ScopeChan)]) rfl ty_et_45 (PartsS.cons rfl (has rfl) part_agg PartsS.nil) rfl rfl rfl) (fun b1 => ?_)
 generalize hv_v1 : (Value.slice (some ⟨b1, 0, none⟩) _ _) = v1; clear hv_v1
 refine T_rowCell 0 rfl (fun hc_v1 => ?_)
 refine T_new trivial rfl rfl (n_buildSliceC (t := (tInt .i64)) (xs := [0]) rfl ty_et_46 (PartsS.cons rfl (has rfl) (part_leaf (leaf_eq trivial)) PartsS.nil) rfl rfl rfl) (fun b2 => ?_)
 generalize hv_v2 : (Value.slice (some ⟨b2, 0, none⟩) _ _) = v2; clear hv_v2
 refine T_rowCell 0 rfl (fun hc_v2 => ?_)
 refine Yy (o_build (ψs := [fInt .i64 0, fEq v2, fInt .i64 1]) rfl ty_bu_48 rfl (Parts.cons (has rfl) (part_leaf (leaf_eq hc_v2)) (Parts.cons (has rfl) (part_leaf (leaf_eq trivial)) Parts.nil)) rfl) ?_
 refine T_freeze (φ := fSl (tInt .i64) [0]) (v := v2) [12] frz_row (by intro s hs; simp only [List.mem_cons, List.not_mem_nil, or_false] at hs; rcases hs with rfl <;> rfl) ?_
 refine T_slotW 13 (ψ := fAgg [fInt .i64 0, fEq v2, fInt .i64 1]) rfl (aggPure (i := 1) (φs := [fInt .i64 0, fEq v2, fInt .i64 1]) (φs' := [fInt .i64 0, fSl (tInt .i64) [0], fInt .i64 1]) rfl rfl) ?_
 refine T_dropT ?_
 refine T_new trivial rfl rfl (n_buildSliceC (t := tScopeRule) (xs := [(⟨0, [0], 1⟩ : ScopeRule)]) rfl ty_et_49 (PartsS.cons rfl (has rfl) part_agg PartsS.nil) rfl rfl rfl) (fun b3 => ?_)
 generalize hv_v3 : (Value.slice (some ⟨b3, 0, none⟩) _ _) = v3; clear hv_v3
 refine T_rowCell 0 rfl (fun hc_v3 => ?_)
 refine Yy (o_build (ψs := [fEq v1, fEq (.slice none 0 0), fEq v3]) rfl ty_bu_52 rfl (Parts.cons (has rfl) (part_leaf (leaf_eq hc_v1)) (Parts.cons (has rfl) (part_leaf (leaf_eq hc_v3)) Parts.nil)) rfl) ?_
 refine T_new trivial rfl rfl (n_alloc rfl ty_ze_52 rfl) (fun b4 => ?_)
 refine T_storeS (φs' := [fEq v1, fEq (.slice none 0 0), fEq v3]) trivial rfl rfl (has rfl) (has rfl) (ll_cons (leaf_eq hc_v1) (ll_cons (leaf_eq trivial) (ll_cons (leaf_eq hc_v3) ll_nil))) ty_sz_52 rfl rfl rfl ?_
 refine Nn ?_
 refine Sr ?_
 refine Yo 0 rfl (o_loadBS rfl hh ty_ag_52 rfl rfl) ?_
 refine T_fr2 ?_
 refine T_freeze (φ := fSl tScopeChan [(⟨0, 0⟩ : ScopeChan)]) (v := v1) [11] frz_row (by intro s hs; simp only [List.mem_cons, List.not_mem_nil, or_false] at hs; rcases hs with rfl <;> rfl) ?_
 refine T_leafPure (φs' := [fSl tScopeChan [(⟨0, 0⟩ : ScopeChan)], fEq (.slice none 0 0), fEq v3]) (i := 0) rfl rfl ?_
 refine T_slotW 15 (ψ := fAgg [fEq v1, fEq (.slice none 0 0), fEq v3]) rfl (aggPure (i := 0) (φs := [fEq v1, fEq (.slice none 0 0), fEq v3]) (φs' := [fSl tScopeChan [(⟨0, 0⟩ : ScopeChan)], fEq (.slice none 0 0), fEq v3]) rfl rfl) ?_
 refine T_slotW 16 (ψ := fAgg [fEq v1, fEq (.slice none 0 0), fEq v3]) rfl (aggPure (i := 0) (φs := [fEq v1, fEq (.slice none 0 0), fEq v3]) (φs' := [fSl tScopeChan [(⟨0, 0⟩ : ScopeChan)], fEq (.slice none 0 0), fEq v3]) rfl rfl) ?_
 refine T_dropT ?_
 refine T_fr1 ?_
 refine T_freeze (φ := fSl tScopeRule [(⟨0, [0], 1⟩ : ScopeRule)]) (v := v3) [14] frz_row (by intro s hs; simp only [List.mem_cons, List.not_mem_nil, or_false] at hs; rcases hs with rfl <;> rfl) ?_
 refine T_leafPure (φs' := [fSl tScopeChan [(⟨0, 0⟩ : ScopeChan)], fEq (.slice none 0 0), fSl tScopeRule [(⟨0, [0], 1⟩ : ScopeRule)]]) (i := 2) rfl rfl ?_
 refine T_slotW 15 (ψ := fAgg [fSl tScopeChan [(⟨0, 0⟩ : ScopeChan)], fEq (.slice none 0 0), fEq v3]) rfl (aggPure (i := 2) (φs := [fSl tScopeChan [(⟨0, 0⟩ : ScopeChan)], fEq (.slice none 0 0), fEq v3]) (φs' := [fSl tScopeChan [(⟨0, 0⟩ : ScopeChan)], fEq (.slice none 0 0), fSl tScopeRule [(⟨0, [0], 1⟩ : ScopeRule)]]) rfl rfl) ?_
 refine T_slotW 16 (ψ := fAgg [fSl tScopeChan [(⟨0, 0⟩ : ScopeChan)], fEq (.slice none 0 0), fEq v3]) rfl (aggPure (i := 2) (φs := [fSl tScopeChan [(⟨0, 0⟩ : ScopeChan)], fEq (.slice none 0 0), fEq v3]) (φs' := [fSl tScopeChan [(⟨0, 0⟩ : ScopeChan)], fEq (.slice none 0 0), fSl tScopeRule [(⟨0, [0], 1⟩ : ScopeRule)]]) rfl rfl) ?_
 refine T_dropT ?_
 refine T_new trivial rfl rfl (n_buildSliceC (t := tScopeDef) (xs := [(⟨[(⟨0, 0⟩ : ScopeChan)], [], [(⟨0, [0], 1⟩ : ScopeRule)]⟩ : ScopeDef)]) rfl ty_et_24 (PartsS.cons rfl (hasE rfl (ent_agg (EntL.cons Ent.rfl (EntL.cons ent_nil (EntL.cons Ent.rfl EntL.nil))))) part_agg PartsS.nil) rfl rfl rfl) (fun b5 => ?_)
 generalize hv_v4 : (Value.slice (some ⟨b5, 0, none⟩) _ _) = v4; clear hv_v4
 refine T_rowCell 0 rfl (fun hc_v4 => ?_)
 refine T_new trivial rfl rfl (n_buildSliceC (t := (tInt .i64)) (xs := [2]) rfl ty_et_46 (PartsS.cons rfl (has rfl) (part_leaf (leaf_eq trivial)) PartsS.nil) rfl rfl rfl) (fun b6 => ?_)
 generalize hv_v5 : (Value.slice (some ⟨b6, 0, none⟩) _ _) = v5; clear hv_v5
 refine T_rowCell 0 rfl (fun hc_v5 => ?_)
 refine Yy (o_build (ψs := [fInt .i64 4, fInt .i64 0, fEq (.slice none 0 0), fEq v5]) rfl ty_bu_56 rfl (Parts.cons (has rfl) (part_leaf (leaf_eq trivial)) (Parts.cons (has rfl) (part_leaf (leaf_eq hc_v5)) Parts.nil)) rfl) ?_
 refine Yy (o_build (ψs := [fInt .i64 2, fInt .i64 0, fEq (.slice none 0 0), fEq (.slice none 0 0)]) rfl ty_bu_56 rfl (Parts.cons (has rfl) (part_leaf (leaf_eq trivial)) Parts.nil) rfl) ?_
 refine Yy (o_build (ψs := [fInt .i64 2, fInt .i64 0, fEq (.slice none 0 0), fEq (.slice none 0 0)]) rfl ty_bu_56 rfl (Parts.cons (has rfl) (part_leaf (leaf_eq trivial)) Parts.nil) rfl) ?_
 refine T_freeze (φ := fSl (tInt .i64) [2]) (v := v5) [18] frz_row (by intro s hs; simp only [List.mem_cons, List.not_mem_nil, or_false] at hs; rcases hs with rfl <;> rfl) ?_
 refine T_slotW 19 (ψ := fAgg [fInt .i64 4, fInt .i64 0, fEq (.slice none 0 0), fEq v5]) rfl (aggPure (i := 3) (φs := [fInt .i64 4, fInt .i64 0, fEq (.slice none 0 0), fEq v5]) (φs' := [fInt .i64 4, fInt .i64 0, fEq (.slice none 0 0), fSl (tInt .i64) [2]]) rfl rfl) ?_
 refine T_dropT ?_
 refine T_new trivial rfl rfl (n_buildSliceC (t := tScopeNode) (xs := [(⟨4, 0, [], [2]⟩ : ScopeNode), (⟨2, 0, [], []⟩ : ScopeNode), (⟨2, 0, [], []⟩ : ScopeNode)]) rfl ty_et_23 (PartsS.cons rfl (hasE rfl (ent_agg (EntL.cons Ent.rfl (EntL.cons Ent.rfl (EntL.cons ent_nil (EntL.cons Ent.rfl EntL.nil)))))) part_agg (PartsS.cons rfl (hasE rfl (ent_agg (EntL.cons Ent.rfl (EntL.cons Ent.rfl (EntL.cons ent_nil (EntL.cons ent_nil EntL.nil)))))) part_agg (PartsS.cons rfl (hasE rfl (ent_agg (EntL.cons Ent.rfl (EntL.cons Ent.rfl (EntL.cons ent_nil (EntL.cons ent_nil EntL.nil)))))) part_agg PartsS.nil))) rfl rfl rfl) (fun b7 => ?_)
 generalize hv_v6 : (Value.slice (some ⟨b7, 0, none⟩) _ _) = v6; clear hv_v6
 refine T_rowCell 0 rfl (fun hc_v6 => ?_)
 refine Yy (o_build (ψs := [fEq (.slice none 0 0), fEq v6, fEq v4, fInt .i64 0]) rfl ty_bu_26 rfl (Parts.cons (has rfl) (part_leaf (leaf_eq hc_v4)) (Parts.cons (has rfl) (part_leaf (leaf_eq hc_v6)) Parts.nil)) rfl) ?_
 refine T_new trivial rfl rfl (n_alloc rfl ty_ze_26 rfl) (fun b8 => ?_)
 refine T_storeS (φs' := [fEq (.slice none 0 0), fEq v6, fEq v4, fInt .i64 0]) trivial rfl rfl (has rfl) (has rfl) (ll_cons (leaf_eq trivial) (ll_cons (leaf_eq hc_v6) (ll_cons (leaf_eq hc_v4) (ll_cons (leaf_eq trivial) ll_nil)))) ty_sz_26 rfl rfl rfl ?_
 refine Nn ?_
 refine Sr ?_
 refine Yo 0 rfl (o_loadBS rfl hh ty_ag_26 rfl rfl) ?_
 refine T_fr1 ?_
 refine T_freeze (φ := fSl tScopeNode [(⟨4, 0, [], [2]⟩ : ScopeNode), (⟨2, 0, [], []⟩ : ScopeNode), (⟨2, 0, [], []⟩ : ScopeNode)]) (v := v6) [22] frz_row (by intro s hs; simp only [List.mem_cons, List.not_mem_nil, or_false] at hs; rcases hs with rfl <;> rfl) ?_
 refine T_leafPure (φs' := [fEq (.slice none 0 0), fSl tScopeNode [(⟨4, 0, [], [2]⟩ : ScopeNode), (⟨2, 0, [], []⟩ : ScopeNode), (⟨2, 0, [], []⟩ : ScopeNode)], fEq v4, fInt .i64 0]) (i := 1) rfl rfl ?_
 refine T_slotW 23 (ψ := fAgg [fEq (.slice none 0 0), fEq v6, fEq v4, fInt .i64 0]) rfl (aggPure (i := 1) (φs := [fEq (.slice none 0 0), fEq v6, fEq v4, fInt .i64 0]) (φs' := [fEq (.slice none 0 0), fSl tScopeNode [(⟨4, 0, [], [2]⟩ : ScopeNode), (⟨2, 0, [], []⟩ : ScopeNode), (⟨2, 0, [], []⟩ : ScopeNode)], fEq v4, fInt .i64 0]) rfl rfl) ?_
 refine T_slotW 24 (ψ := fAgg [fEq (.slice none 0 0), fEq v6, fEq v4, fInt .i64 0]) rfl (aggPure (i := 1) (φs := [fEq (.slice none 0 0), fEq v6, fEq v4, fInt .i64 0]) (φs' := [fEq (.slice none 0 0), fSl tScopeNode [(⟨4, 0, [], [2]⟩ : ScopeNode), (⟨2, 0, [], []⟩ : ScopeNode), (⟨2, 0, [], []⟩ : ScopeNode)], fEq v4, fInt .i64 0]) rfl rfl) ?_
 refine T_dropT ?_
 refine T_fr1 ?_
 refine T_freeze (φ := fSl tScopeDef [(⟨[(⟨0, 0⟩ : ScopeChan)], [], [(⟨0, [0], 1⟩ : ScopeRule)]⟩ : ScopeDef)]) (v := v4) [17] frz_row (by intro s hs; simp only [List.mem_cons, List.not_mem_nil, or_false] at hs; rcases hs with rfl <;> rfl) ?_
 refine T_leafPure (φs' := [fEq (.slice none 0 0), fSl tScopeNode [(⟨4, 0, [], [2]⟩ : ScopeNode), (⟨2, 0, [], []⟩ : ScopeNode), (⟨2, 0, [], []⟩ : ScopeNode)], fSl tScopeDef [(⟨[(⟨0, 0⟩ : ScopeChan)], [], [(⟨0, [0], 1⟩ : ScopeRule)]⟩ : ScopeDef)], fInt .i64 0]) (i := 2) rfl rfl ?_
 refine T_slotW 23 (ψ := fAgg [fEq (.slice none 0 0), fSl tScopeNode [(⟨4, 0, [], [2]⟩ : ScopeNode), (⟨2, 0, [], []⟩ : ScopeNode), (⟨2, 0, [], []⟩ : ScopeNode)], fEq v4, fInt .i64 0]) rfl (aggPure (i := 2) (φs := [fEq (.slice none 0 0), fSl tScopeNode [(⟨4, 0, [], [2]⟩ : ScopeNode), (⟨2, 0, [], []⟩ : ScopeNode), (⟨2, 0, [], []⟩ : ScopeNode)], fEq v4, fInt .i64 0]) (φs' := [fEq (.slice none 0 0), fSl tScopeNode [(⟨4, 0, [], [2]⟩ : ScopeNode), (⟨2, 0, [], []⟩ : ScopeNode), (⟨2, 0, [], []⟩ : ScopeNode)], fSl tScopeDef [(⟨[(⟨0, 0⟩ : ScopeChan)], [], [(⟨0, [0], 1⟩ : ScopeRule)]⟩ : ScopeDef)], fInt .i64 0]) rfl rfl) ?_
 refine T_slotW 24 (ψ := fAgg [fEq (.slice none 0 0), fSl tScopeNode [(⟨4, 0, [], [2]⟩ : ScopeNode), (⟨2, 0, [], []⟩ : ScopeNode), (⟨2, 0, [], []⟩ : ScopeNode)], fEq v4, fInt .i64 0]) rfl (aggPure (i := 2) (φs := [fEq (.slice none 0 0), fSl tScopeNode [(⟨4, 0, [], [2]⟩ : ScopeNode), (⟨2, 0, [], []⟩ : ScopeNode), (⟨2, 0, [], []⟩ : ScopeNode)], fEq v4, fInt .i64 0]) (φs' := [fEq (.slice none 0 0), fSl tScopeNode [(⟨4, 0, [], [2]⟩ : ScopeNode), (⟨2, 0, [], []⟩ : ScopeNode), (⟨2, 0, [], []⟩ : ScopeNode)], fSl tScopeDef [(⟨[(⟨0, 0⟩ : ScopeChan)], [], [(⟨0, [0], 1⟩ : ScopeRule)]⟩ : ScopeDef)], fInt .i64 0]) rfl rfl) ?_
 refine T_dropT ?_
 revert H; refine bs fun y1 h1 H => ?_
 refine T_callO trivial rfl rfl rfl (has rfl) (HasL.cons (hasE rfl (ent_agg (EntL.cons ent_nil (EntL.cons Ent.rfl (EntL.cons Ent.rfl (EntL.cons Ent.rfl EntL.nil)))))) HasL.nil) rfl ty_cb_11 (w05_copied_w fuel (⟨[], [(⟨4, 0, [], [2]⟩ : ScopeNode), (⟨2, 0, [], []⟩ : ScopeNode), (⟨2, 0, [], []⟩ : ScopeNode)], [(⟨[(⟨0, 0⟩ : ScopeChan)], [], [(⟨0, [0], 1⟩ : ScopeRule)]⟩ : ScopeDef)], 0⟩ : ScopeProg) y1 h1) (Δi := []) rfl (fun v7 => ?_)
 dsimp only [List.append, List.cons_append, List.nil_append]
 refine T_openW (c := .agg) (fs := [.pure (fSl tStr y1.Free), .own (fun v => tRow v 56 tScopeNode y1.Nodes) (fun _ => row_isCell), .own (fun v => tRow v 52 tScopeDef y1.Defs) (fun _ => row_isCell), .pure (fInt .i64 y1.Main)]) (fun v8 v9 => ?_)
 dsimp only [List.append, List.cons_append, List.nil_append]
 refine T_rowCell 0 rfl (fun hc_v8 => ?_)
 refine T_rowCell 1 rfl (fun hc_v9 => ?_)
 refine T_new trivial rfl rfl (n_alloc rfl ty_ze_26 rfl) (fun b9 => ?_)
 refine T_storeS (φs' := [fSl tStr y1.Free, fEq v8, fEq v9, fInt .i64 y1.Main]) trivial rfl rfl (has rfl) (has rfl) (ll_cons (leaf_sl) (ll_cons (leaf_eq hc_v8) (ll_cons (leaf_eq hc_v9) (ll_cons (leaf_eq trivial) ll_nil)))) ty_sz_26 rfl rfl rfl ?_
 refine Nn ?_
 refine Sr ?_
 refine Yy (o_fieldB 1 rfl hh ty_fa_26_1 rfl) ?_
 refine Yo 0 rfl (o_loadB rfl hh ty_sc_23 rfl Ent.rfl) ?_
 refine Yy (o_build (ψs := [fInt .i64 1, fInt .i64 0, fEq (.slice none 0 0), fEq (.slice none 0 0)]) rfl ty_bu_56 rfl (Parts.cons (has rfl) (part_leaf (leaf_eq trivial)) Parts.nil) rfl) ?_
 revert H; refine bs fun y2 h2 H => ?_
 refine Yo 1 rfl (o_indexR rfl hh hh ty_el_23 h2) ?_
 refine T_fr1 ?_
 refine T_storeRS (z := (⟨1, 0, [], []⟩ : ScopeNode)) trivial rfl rfl rfl (has rfl) (hasE rfl (ent_agg (EntL.cons Ent.rfl (EntL.cons Ent.rfl (EntL.cons ent_nil (EntL.cons ent_nil EntL.nil)))))) ty_sz_56 (List.getElem?_eq_some_iff.1 (idx_get h2)).1 ?_
 refine Nn ?_
 refine Sr ?_
 refine Yo 3 rfl (o_loadBS rfl hh ty_ag_26 rfl rfl) ?_
 revert H; refine bs fun y3 h3 H => ?_
 refine T_callO trivial rfl rfl rfl (has rfl) (HasL.cons (hasE rfl (ent_agg (EntL.cons ent_nil (EntL.cons Ent.rfl (EntL.cons Ent.rfl (EntL.cons Ent.rfl EntL.nil)))))) HasL.nil) rfl ty_cb_8 (usage_Table_w fuel (⟨[], [(⟨4, 0, [], [2]⟩ : ScopeNode), (⟨2, 0, [], []⟩ : ScopeNode), (⟨2, 0, [], []⟩ : ScopeNode)], [(⟨[(⟨0, 0⟩ : ScopeChan)], [], [(⟨0, [0], 1⟩ : ScopeRule)]⟩ : ScopeDef)], 0⟩ : ScopeProg) y3 h3) (Δi := []) rfl (fun v10 => ?_)
 dsimp only [List.append, List.cons_append, List.nil_append]
 refine T_openW (c := .tuple) (fs := [.own (fun v => tRowD v 40 oUsageDef y3.1) (fun _ => rowG_cell), .pure (fInt .i64 y3.2)]) (fun v11 => ?_)
 dsimp only [List.append, List.cons_append, List.nil_append]
 refine T_rowCellG 0 rfl (fun hc_v11 => ?_)
 refine Ym ?_
 refine Yy (o_extract rfl hh rfl) ?_
 refine Yy (o_extract rfl hh rfl) ?_
 refine Ya ?_
 refine Ya ?_
 refine Nn ?_
 refine Sr ?_
 refine Yo 2 rfl (o_loadBS rfl hh ty_ag_26 rfl rfl) ?_
 refine T_fr3 ?_
 refine T_fr2 ?_
 revert H; refine bs fun y4 h4 H => ?_
 refine T_callLendO (Δl := [tRow v8 56 tScopeNode (y1.Nodes.set ((2 : Int).toNat) (⟨1, 0, [], []⟩ : ScopeNode)), tRow v9 52 tScopeDef y1.Defs]) (Δi := []) [(v8, fSl tScopeNode (y1.Nodes.set ((2 : Int).toNat) (⟨1, 0, [], []⟩ : ScopeNode))), (v9, fSl tScopeDef y1.Defs)] trivial rfl rfl rfl (has rfl) (HasW.cons rfl (entW_agg (EntWL.cons (entW_of Ent.rfl) (EntWL.cons (entW_lend 0 rfl) (EntWL.cons (entW_lend 1 rfl) (EntWL.cons (entW_of Ent.rfl) EntWL.nil))))) HasW.nil) ty_cb_8 (usage_Table_w fuel (⟨y1.Free, y1.Nodes.set ((2 : Int).toNat) (⟨1, 0, [], []⟩ : ScopeNode), y1.Defs, y1.Main⟩ : ScopeProg) y4 h4) indF_any (fun v τ h => by have : τ = _ := List.mem_singleton.1 h; subst this; exact (ind_wrap (IndL.cons (fun v => (ind_rowD indo_UsageDef)) (IndL.cons (fun v => (ind_pure indF_eq v)) IndL.nil)))) (FrzT.cons frz_row (FrzT.cons frz_row FrzT.nil)) rfl (fun v12 => ?_)
 dsimp only [List.append, List.cons_append, List.nil_append]
 refine T_fr2 ?_
 refine T_openW (c := .tuple) (fs := [.own (fun v => tRowD v 40 oUsageDef y4.1) (fun _ => rowG_cell), .pure (fInt .i64 y4.2)]) (fun v13 => ?_)
 dsimp only [List.append, List.cons_append, List.nil_append]
 refine T_rowCellG 0 rfl (fun hc_v13 => ?_)
 refine Ym ?_
 refine Yy (o_extract rfl hh rfl) ?_
 refine Yy (o_extract rfl hh rfl) ?_
 refine Ya ?_
 refine Ya ?_
 refine Nn ?_
 refine T_seq ?_
 refine Sr ?_
 refine Ym ?_
 refine Yy (o_neq rfl hh hh) ?_
 refine Ym ?_
 revert H; refine is (fun c1 H => ?_) fun c1 H => ?_
 ·
  refine Yt c1 ?_
  refine Yt c1 ?_
  refine Yy (o_pick_t rfl hh c1 hh) ?_
  refine Ym ?_
  refine Yd ?_
  refine Yd ?_
  refine Yd ?_
  refine Yy (o_pick_t rfl hh rfl hh) ?_
  refine Ym ?_
  refine Yd ?_
  refine Yd ?_
  refine Yd ?_
  refine Yy (o_pick_t rfl hh rfl hh) ?_
  refine Ym ?_
  refine Yd ?_
  refine Yd ?_
  refine Yd ?_
  refine Yd ?_
  refine Yd ?_
  refine Yd ?_
  refine Yd ?_
  refine Yy (o_pick_t rfl hh rfl hh) ?_
  refine Ym ?_
  refine Yd ?_
  refine Yd ?_
  refine Yd ?_
  refine Yd ?_
  refine Yd ?_
  refine Yd ?_
  refine Yd ?_
  refine Yy (o_pick_t rfl hh rfl hh) ?_
  refine Nn ?_
  refine T_cond_t (has rfl) rfl ?_
  refine Sr ?_
  refine Ya ?_
  refine Nn ?_
  refine Rr ?_
  cases H
  refine T_pick [] (by decide) ?_
  exact T_out1 rfl (hasS rfl) rfl
 ·
  refine Yg c1 (o_move rfl hh) ?_
  refine Yg c1 (o_neq rfl hh hh) ?_
  refine Yy (o_pick_f rfl hh c1 hh) ?_
  refine Ym ?_
  revert H; refine is (fun c2 H => ?_) fun c2 H => ?_
  ·
   refine Yt c2 ?_
   refine Yt c2 ?_
   refine Yt c2 ?_
   refine Yy (o_pick_t rfl hh c2 hh) ?_
   refine Ym ?_
   refine Yd ?_
   refine Yd ?_
   refine Yd ?_
   refine Yy (o_pick_t rfl hh rfl hh) ?_
   refine Ym ?_
   refine Yd ?_
   refine Yd ?_
   refine Yd ?_
   refine Yd ?_
   refine Yd ?_
   refine Yd ?_
   refine Yd ?_
   refine Yy (o_pick_t rfl hh rfl hh) ?_
   refine Ym ?_
   refine Yd ?_
   refine Yd ?_
   refine Yd ?_
   refine Yd ?_
   refine Yd ?_
   refine Yd ?_
   refine Yd ?_
   refine Yy (o_pick_t rfl hh rfl hh) ?_
   refine Nn ?_
   refine T_cond_t (has rfl) rfl ?_
   refine Sr ?_
   refine Ya ?_
   refine Nn ?_
   refine Rr ?_
   cases H
   refine T_pick [] (by decide) ?_
   exact T_out1 rfl (hasS rfl) rfl
  ·
   refine Yg c2 (o_move rfl hh) ?_
   refine Yh 3 rfl c2 (o_lenG rfl hh ty_us_27) ?_
   refine Yg c2 (o_neq rfl hh hh) ?_
   refine Yy (o_pick_f rfl hh c2 hh) ?_
   refine Ym ?_
   revert H; refine is (fun c3 H => ?_) fun c3 H => ?_
   ·
    refine Yt c3 ?_
    refine Yt c3 ?_
    refine Yt c3 ?_
    refine Yy (o_pick_t rfl hh c3 hh) ?_
    refine Ym ?_
    refine Yd ?_
    refine Yd ?_
    refine Yd ?_
    refine Yd ?_
    refine Yd ?_
    refine Yd ?_
    refine Yd ?_
    refine Yy (o_pick_t rfl hh rfl hh) ?_
    refine Ym ?_
    refine Yd ?_
    refine Yd ?_
    refine Yd ?_
    refine Yd ?_
    refine Yd ?_
    refine Yd ?_
    refine Yd ?_
    refine Yy (o_pick_t rfl hh rfl hh) ?_
    refine Nn ?_
    refine T_cond_t (has rfl) rfl ?_
    refine Sr ?_
    refine Ya ?_
    refine Nn ?_
    refine Rr ?_
    cases H
    refine T_pick [] (by decide) ?_
    exact T_out1 rfl (hasS rfl) rfl
   ·
    refine Yg c3 (o_move rfl hh) ?_
    refine Yh 0 rfl c3 (o_lenG rfl hh ty_us_27) ?_
    refine Yg c3 (o_neq rfl hh hh) ?_
    refine Yy (o_pick_f rfl hh c3 hh) ?_
    refine Ym ?_
    revert H; refine is (fun c4 H => ?_) fun c4 H => ?_
    ·
     refine Yt c4 ?_
     refine Yt c4 ?_
     refine Yt c4 ?_
     refine Yt c4 ?_
     refine Yt c4 ?_
     refine Yt c4 ?_
     refine Yt c4 ?_
     refine Yy (o_pick_t rfl hh c4 hh) ?_
     refine Ym ?_
     refine Yd ?_
     refine Yd ?_
     refine Yd ?_
     refine Yd ?_
     refine Yd ?_
     refine Yd ?_
     refine Yd ?_
     refine Yy (o_pick_t rfl hh rfl hh) ?_
     refine Nn ?_
     refine T_cond_t (has rfl) rfl ?_
     refine Sr ?_
     refine Ya ?_
     refine Nn ?_
     refine Rr ?_
     cases H
     refine T_pick [] (by decide) ?_
     exact T_out1 rfl (hasS rfl) rfl
    ·
     refine Yg c4 (o_move rfl hh) ?_
     revert H; refine bs fun y5 h5 H => ?_
     refine Yh 3 rfl c4 (o_indexG rfl hh hh ty_el_27 h5) ?_
     refine Yg c4 (o_fieldR 0 rfl hh ty_fa_40_0 rfl) ?_
     refine T_fr3 ?_
     refine T_openD (i := ((0 : Int).toNat)) (k := 0) (y := y5) (f := (fun v => tRow v 41 (tInt .i64) y5.Chans)) (idx_get h5) rfl (fun v14 => ?_)
     refine T_rowCell 0 rfl (fun hc_v14 => ?_)
     refine Yh 1 rfl c4 (o_loadH rfl rfl hh ty_sc_37 (idx_get h5) rfl) ?_
     refine T_new ⟨_, _, rfl, rfl, c4⟩ rfl rfl (n_buildSliceC (t := (tInt .i64)) (xs := [4]) rfl ty_et_37 (PartsS.cons rfl (has rfl) (part_leaf (leaf_eq trivial)) PartsS.nil) rfl rfl rfl) (fun b10 => ?_)
     generalize hv_v15 : (Value.slice (some ⟨b10, 0, none⟩) _ _) = v15; clear hv_v15
     refine T_rowCell 0 rfl (fun hc_v15 => ?_)
     refine T_fr1 ?_
     revert H; refine bs fun y6 h6 H => ?_
     refine T_callLend (Δl := [tRow v14 41 (tInt .i64) y5.Chans, tRow v15 41 (tInt .i64) [4]]) (Δi := []) (Δo := []) [(v14, fSl (tInt .i64) y5.Chans), (v15, fSl (tInt .i64) [4])] ⟨_, _, rfl, rfl, c4⟩ rfl rfl rfl (has rfl) (HasW.cons rfl (entW_lend 0 rfl) (HasW.cons rfl (entW_lend 1 rfl) HasW.nil)) ty_cb_12 (slices_Equal_LUsageKind_UsageKind_w fuel y5.Chans [4] y6 h6) indF_eq (fun _ h => nomatch h) (FrzT.cons frz_row (FrzT.cons frz_row FrzT.nil)) rfl ?_
     dsimp only [List.append, List.cons_append, List.nil_append]
     refine Yg c4 (o_not rfl hh) ?_
     refine Yy (o_pick_f rfl hh c4 hh) ?_
     refine Ym ?_
     revert H; refine cs (fun c5 H => ?_) fun c5 H => ?_
     ·
      refine Yt c5 ?_
      refine Yt c5 ?_
      refine Yt c5 ?_
      refine Yt c5 ?_
      refine Yt c5 ?_
      refine Yt c5 ?_
      refine Yt c5 ?_
      refine Yy (o_pick_t rfl hh c5 hh) ?_
      refine Nn ?_
      refine T_cond_t (has rfl) rfl ?_
      refine Sr ?_
      refine Ya ?_
      refine Nn ?_
      refine Rr ?_
      cases H
      refine T_pick [] (by decide) ?_
      exact T_out1 rfl (hasS rfl) rfl
     ·
      refine Yg c5 (o_move rfl hh) ?_
      revert H; refine bs fun y7 h7 H => ?_
      refine Yh 3 rfl c5 (o_indexG rfl hh hh ty_el_27 h7) ?_
      refine Yg c5 (o_fieldR 0 rfl hh ty_fa_40_0 rfl) ?_
      refine T_fr3 ?_
      refine T_openD (i := ((0 : Int).toNat)) (k := 0) (y := y7) (f := (fun v => tRow v 41 (tInt .i64) y7.Chans)) (idx_get h7) rfl (fun v16 => ?_)
      refine T_rowCell 0 rfl (fun hc_v16 => ?_)
      refine Yh 1 rfl c5 (o_loadH rfl rfl hh ty_sc_37 (idx_get h7) rfl) ?_
      refine T_new ⟨_, _, rfl, rfl, c5⟩ rfl rfl (n_buildSliceC (t := (tInt .i64)) (xs := [1]) rfl ty_et_37 (PartsS.cons rfl (has rfl) (part_leaf (leaf_eq trivial)) PartsS.nil) rfl rfl rfl) (fun b11 => ?_)
      generalize hv_v17 : (Value.slice (some ⟨b11, 0, none⟩) _ _) = v17; clear hv_v17
      refine T_rowCell 0 rfl (fun hc_v17 => ?_)
      refine T_fr1 ?_
      revert H; refine bs fun y8 h8 H => ?_
      refine T_callLend (Δl := [tRow v16 41 (tInt .i64) y7.Chans, tRow v17 41 (tInt .i64) [1]]) (Δi := []) (Δo := []) [(v16, fSl (tInt .i64) y7.Chans), (v17, fSl (tInt .i64) [1])] ⟨_, _, rfl, rfl, c5⟩ rfl rfl rfl (has rfl) (HasW.cons rfl (entW_lend 0 rfl) (HasW.cons rfl (entW_lend 1 rfl) HasW.nil)) ty_cb_12 (slices_Equal_LUsageKind_UsageKind_w fuel y7.Chans [1] y8 h8) indF_eq (fun _ h => nomatch h) (FrzT.cons frz_row (FrzT.cons frz_row FrzT.nil)) rfl ?_
      dsimp only [List.append, List.cons_append, List.nil_append]
      refine Yg c5 (o_not rfl hh) ?_
      refine Yy (o_pick_f rfl hh c5 hh) ?_
      refine Nn ?_
      revert H; refine cs (fun c6 H => ?_) fun c6 H => ?_
      ·
       refine T_cond_f (has rfl) (not_t c6) ?_
       refine T_skip ?_
       refine T_then_n ?_
       refine Sr ?_
       refine Yy (o_build (ψs := [fInt .i64 0, fInt .i64 1]) rfl ty_bu_44 rfl (Parts.cons (has rfl) (part_leaf (leaf_eq trivial)) Parts.nil) rfl) ?_
       refine T_new trivial rfl rfl (n_buildSliceC (t := tScopeChan) (xs := [(⟨0, 1⟩ : ScopeChan)]) rfl ty_et_45 (PartsS.cons rfl (has rfl) part_agg PartsS.nil) rfl rfl rfl) (fun b12 => ?_)
       generalize hv_v18 : (Value.slice (some ⟨b12, 0, none⟩) _ _) = v18; clear hv_v18
       refine T_rowCell 0 rfl (fun hc_v18 => ?_)
       refine T_new trivial rfl rfl (n_buildSliceC (t := (tInt .i64)) (xs := [0]) rfl ty_et_46 (PartsS.cons rfl (has rfl) (part_leaf (leaf_eq trivial)) PartsS.nil) rfl rfl rfl) (fun b13 => ?_)
       generalize hv_v19 : (Value.slice (some ⟨b13, 0, none⟩) _ _) = v19; clear hv_v19
       refine T_rowCell 0 rfl (fun hc_v19 => ?_)
       refine Yy (o_build (ψs := [fInt .i64 0, fEq v19, fInt .i64 1]) rfl ty_bu_48 rfl (Parts.cons (has rfl) (part_leaf (leaf_eq hc_v19)) (Parts.cons (has rfl) (part_leaf (leaf_eq trivial)) Parts.nil)) rfl) ?_
       refine T_freeze (φ := fSl (tInt .i64) [0]) (v := v19) [76] frz_row (by intro s hs; simp only [List.mem_cons, List.not_mem_nil, or_false] at hs; rcases hs with rfl <;> rfl) ?_
       refine T_slotW 77 (ψ := fAgg [fInt .i64 0, fEq v19, fInt .i64 1]) rfl (aggPure (i := 1) (φs := [fInt .i64 0, fEq v19, fInt .i64 1]) (φs' := [fInt .i64 0, fSl (tInt .i64) [0], fInt .i64 1]) rfl rfl) ?_
       refine T_dropT ?_
       refine T_new trivial rfl rfl (n_buildSliceC (t := tScopeRule) (xs := [(⟨0, [0], 1⟩ : ScopeRule)]) rfl ty_et_49 (PartsS.cons rfl (has rfl) part_agg PartsS.nil) rfl rfl rfl) (fun b14 => ?_)
       generalize hv_v20 : (Value.slice (some ⟨b14, 0, none⟩) _ _) = v20; clear hv_v20
       refine T_rowCell 0 rfl (fun hc_v20 => ?_)
       refine Yy (o_build (ψs := [fEq v18, fEq (.slice none 0 0), fEq v20]) rfl ty_bu_52 rfl (Parts.cons (has rfl) (part_leaf (leaf_eq hc_v18)) (Parts.cons (has rfl) (part_leaf (leaf_eq hc_v20)) Parts.nil)) rfl) ?_
       refine T_new trivial rfl rfl (n_alloc rfl ty_ze_52 rfl) (fun b15 => ?_)
       refine T_storeS (φs' := [fEq v18, fEq (.slice none 0 0), fEq v20]) trivial rfl rfl (has rfl) (has rfl) (ll_cons (leaf_eq hc_v18) (ll_cons (leaf_eq trivial) (ll_cons (leaf_eq hc_v20) ll_nil))) ty_sz_52 rfl rfl rfl ?_
       refine Nn ?_
       refine Sr ?_
       refine Yy (o_build (ψs := [fInt .i64 0, fInt .i64 0]) rfl ty_bu_44 rfl Parts.nil rfl) ?_
       refine T_new trivial rfl rfl (n_buildSliceC (t := tScopeChan) (xs := [(⟨0, 0⟩ : ScopeChan)]) rfl ty_et_45 (PartsS.cons rfl (has rfl) part_agg PartsS.nil) rfl rfl rfl) (fun b16 => ?_)
       generalize hv_v21 : (Value.slice (some ⟨b16, 0, none⟩) _ _) = v21; clear hv_v21
       refine T_rowCell 0 rfl (fun hc_v21 => ?_)
       refine T_new trivial rfl rfl (n_buildSliceC (t := (tInt .i64)) (xs := [0]) rfl ty_et_46 (PartsS.cons rfl (has rfl) (part_leaf (leaf_eq trivial)) PartsS.nil) rfl rfl rfl) (fun b17 => ?_)
       generalize hv_v22 : (Value.slice (some ⟨b17, 0, none⟩) _ _) = v22; clear hv_v22
       refine T_rowCell 0 rfl (fun hc_v22 => ?_)
       refine Yy (o_build (ψs := [fInt .i64 0, fEq v22, fInt .i64 3]) rfl ty_bu_48 rfl (Parts.cons (has rfl) (part_leaf (leaf_eq hc_v22)) (Parts.cons (has rfl) (part_leaf (leaf_eq trivial)) Parts.nil)) rfl) ?_
       refine T_freeze (φ := fSl (tInt .i64) [0]) (v := v22) [82] frz_row (by intro s hs; simp only [List.mem_cons, List.not_mem_nil, or_false] at hs; rcases hs with rfl <;> rfl) ?_
       refine T_slotW 83 (ψ := fAgg [fInt .i64 0, fEq v22, fInt .i64 3]) rfl (aggPure (i := 1) (φs := [fInt .i64 0, fEq v22, fInt .i64 3]) (φs' := [fInt .i64 0, fSl (tInt .i64) [0], fInt .i64 3]) rfl rfl) ?_
       refine T_dropT ?_
       refine T_new trivial rfl rfl (n_buildSliceC (t := tScopeRule) (xs := [(⟨0, [0], 3⟩ : ScopeRule)]) rfl ty_et_49 (PartsS.cons rfl (has rfl) part_agg PartsS.nil) rfl rfl rfl) (fun b18 => ?_)
       generalize hv_v23 : (Value.slice (some ⟨b18, 0, none⟩) _ _) = v23; clear hv_v23
       refine T_rowCell 0 rfl (fun hc_v23 => ?_)
       refine Yy (o_build (ψs := [fEq v21, fEq (.slice none 0 0), fEq v23]) rfl ty_bu_52 rfl (Parts.cons (has rfl) (part_leaf (leaf_eq hc_v21)) (Parts.cons (has rfl) (part_leaf (leaf_eq hc_v23)) Parts.nil)) rfl) ?_
       refine T_new trivial rfl rfl (n_alloc rfl ty_ze_52 rfl) (fun b19 => ?_)
       refine T_storeS (φs' := [fEq v21, fEq (.slice none 0 0), fEq v23]) trivial rfl rfl (has rfl) (has rfl) (ll_cons (leaf_eq hc_v21) (ll_cons (leaf_eq trivial) (ll_cons (leaf_eq hc_v23) ll_nil))) ty_sz_52 rfl rfl rfl ?_
       refine Nn ?_
       refine T_seq ?_
       refine T_fr5 ?_
       refine T_freeze (φ := fSl tScopeChan [(⟨0, 1⟩ : ScopeChan)]) (v := v18) [75] frz_row (by intro s hs; simp only [List.mem_cons, List.not_mem_nil, or_false] at hs; rcases hs with rfl <;> rfl) ?_
       refine T_fr4 ?_
       refine T_fr1 ?_
       refine T_leafPure (φs' := [fSl tScopeChan [(⟨0, 1⟩ : ScopeChan)], fEq (.slice none 0 0), fEq v20]) (i := 0) rfl rfl ?_
       refine T_slotW 79 (ψ := fAgg [fEq v18, fEq (.slice none 0 0), fEq v20]) rfl (aggPure (i := 0) (φs := [fEq v18, fEq (.slice none 0 0), fEq v20]) (φs' := [fSl tScopeChan [(⟨0, 1⟩ : ScopeChan)], fEq (.slice none 0 0), fEq v20]) rfl rfl) ?_
       refine T_dropT ?_
       refine T_fr4 ?_
       refine T_freeze (φ := fSl tScopeRule [(⟨0, [0], 1⟩ : ScopeRule)]) (v := v20) [78] frz_row (by intro s hs; simp only [List.mem_cons, List.not_mem_nil, or_false] at hs; rcases hs with rfl <;> rfl) ?_
       refine T_leafPure (φs' := [fSl tScopeChan [(⟨0, 1⟩ : ScopeChan)], fEq (.slice none 0 0), fSl tScopeRule [(⟨0, [0], 1⟩ : ScopeRule)]]) (i := 2) rfl rfl ?_
       refine T_slotW 79 (ψ := fAgg [fSl tScopeChan [(⟨0, 1⟩ : ScopeChan)], fEq (.slice none 0 0), fEq v20]) rfl (aggPure (i := 2) (φs := [fSl tScopeChan [(⟨0, 1⟩ : ScopeChan)], fEq (.slice none 0 0), fEq v20]) (φs' := [fSl tScopeChan [(⟨0, 1⟩ : ScopeChan)], fEq (.slice none 0 0), fSl tScopeRule [(⟨0, [0], 1⟩ : ScopeRule)]]) rfl rfl) ?_
       refine T_dropT ?_
       refine T_fr3 ?_
       refine T_freeze (φ := fSl tScopeChan [(⟨0, 0⟩ : ScopeChan)]) (v := v21) [81] frz_row (by intro s hs; simp only [List.mem_cons, List.not_mem_nil, or_false] at hs; rcases hs with rfl <;> rfl) ?_
       refine T_fr2 ?_
       refine T_fr1 ?_
       refine T_leafPure (φs' := [fSl tScopeChan [(⟨0, 0⟩ : ScopeChan)], fEq (.slice none 0 0), fEq v23]) (i := 0) rfl rfl ?_
       refine T_slotW 85 (ψ := fAgg [fEq v21, fEq (.slice none 0 0), fEq v23]) rfl (aggPure (i := 0) (φs := [fEq v21, fEq (.slice none 0 0), fEq v23]) (φs' := [fSl tScopeChan [(⟨0, 0⟩ : ScopeChan)], fEq (.slice none 0 0), fEq v23]) rfl rfl) ?_
       refine T_dropT ?_
       refine T_fr2 ?_
       refine T_freeze (φ := fSl tScopeRule [(⟨0, [0], 3⟩ : ScopeRule)]) (v := v23) [84] frz_row (by intro s hs; simp only [List.mem_cons, List.not_mem_nil, or_false] at hs; rcases hs with rfl <;> rfl) ?_
       refine T_leafPure (φs' := [fSl tScopeChan [(⟨0, 0⟩ : ScopeChan)], fEq (.slice none 0 0), fSl tScopeRule [(⟨0, [0], 3⟩ : ScopeRule)]]) (i := 2) rfl rfl ?_
       refine T_slotW 85 (ψ := fAgg [fSl tScopeChan [(⟨0, 0⟩ : ScopeChan)], fEq (.slice none 0 0), fEq v23]) rfl (aggPure (i := 2) (φs := [fSl tScopeChan [(⟨0, 0⟩ : ScopeChan)], fEq (.slice none 0 0), fEq v23]) (φs' := [fSl tScopeChan [(⟨0, 0⟩ : ScopeChan)], fEq (.slice none 0 0), fSl tScopeRule [(⟨0, [0], 3⟩ : ScopeRule)]]) rfl rfl) ?_
       refine T_dropT ?_
       revert H; refine bs fun y9 h9 H => ?_
       revert H; refine bs fun y10 h10 H => ?_
       refine T_net 19 [fun _ => .op [1] false (fun _ => fAgg [fSl tScopeChan [(⟨0, 1⟩ : ScopeChan)], fEq (.slice none 0 0), fSl tScopeRule [(⟨0, [0], 1⟩ : ScopeRule)]]) (fun _ => [tEmp]), fun _ => .op [0] false (fun _ => fAgg [fSl tScopeChan [(⟨0, 0⟩ : ScopeChan)], fEq (.slice none 0 0), fSl tScopeRule [(⟨0, [0], 3⟩ : ScopeRule)]]) (fun _ => [tEmp]), fun _ => .op [] true (fun _ => fSl tScopeDef [(⟨[(⟨0, 1⟩ : ScopeChan)], [], [(⟨0, [0], 1⟩ : ScopeRule)]⟩ : ScopeDef), (⟨[(⟨0, 0⟩ : ScopeChan)], [], [(⟨0, [0], 3⟩ : ScopeRule)]⟩ : ScopeDef)]) (fun _ => []), fun _ => .op [] true (fun _ => fSl (tInt .i64) [2]) (fun _ => []), fun _ => .op [] false (fun _ => fAgg [fInt .i64 4, fInt .i64 0, fEq (.slice none 0 0), fSl (tInt .i64) [2]]) (fun _ => []), fun _ => .op [] false (fun _ => fAgg [fInt .i64 1, fInt .i64 0, fEq (.slice none 0 0), fEq (.slice none 0 0)]) (fun _ => []), fun _ => .op [] true (fun _ => fSl (tInt .i64) [4]) (fun _ => []), fun _ => .op [] false (fun _ => fAgg [fInt .i64 4, fInt .i64 1, fEq (.slice none 0 0), fSl (tInt .i64) [4]]) (fun _ => []), fun _ => .op [] true (fun _ => fSl (tInt .i64) [1]) (fun _ => []), fun _ => .op [] true (fun _ => fSl tScopeExp y9) (fun _ => []), fun _ => .op [] false (fun _ => fAgg [fInt .i64 2, fInt .i64 0, fSl tScopeExp y9, fEq (.slice none 0 0)]) (fun _ => []), fun _ => .op [] true (fun _ => fSl (tInt .i64) [5, 6]) (fun _ => []), fun _ => .op [] false (fun _ => fAgg [fInt .i64 3, fInt .i64 0, fEq (.slice none 0 0), fSl (tInt .i64) [5, 6]]) (fun _ => []), fun _ => .op [] false (fun _ => fAgg [fInt .i64 2, fInt .i64 1, fEq (.slice none 0 0), fEq (.slice none 0 0)]) (fun _ => []), fun _ => .op [] true (fun _ => fSl tScopeExp y10) (fun _ => []), fun _ => .op [] false (fun _ => fAgg [fInt .i64 2, fInt .i64 0, fSl tScopeExp y10, fEq (.slice none 0 0)]) (fun _ => []), fun _ => .op [13] true (fun c => fEq (.slice (some ⟨c.n, 0, none⟩) 7 7)) (fun c => [tRow (.slice (some ⟨c.n, 0, none⟩) 7 7) 56 tScopeNode [(⟨4, 0, [], [2]⟩ : ScopeNode), (⟨1, 0, [], []⟩ : ScopeNode), (⟨4, 1, [], [4]⟩ : ScopeNode), (⟨2, 0, y9, []⟩ : ScopeNode), (⟨3, 0, [], [5, 6]⟩ : ScopeNode), (⟨2, 1, [], []⟩ : ScopeNode), (⟨2, 0, y10, []⟩ : ScopeNode)]]), fun e => .op [] false (fun _ => fAgg [fEq (.slice none 0 0), fEq (.slice (some ⟨(e 16).n, 0, none⟩) 7 7), fSl tScopeDef [(⟨[(⟨0, 1⟩ : ScopeChan)], [], [(⟨0, [0], 1⟩ : ScopeRule)]⟩ : ScopeDef), (⟨[(⟨0, 0⟩ : ScopeChan)], [], [(⟨0, [0], 3⟩ : ScopeRule)]⟩ : ScopeDef)], fInt .i64 0]) (fun _ => []), fun e => .op [11] true (fun _ => fAny) (fun _ => [tBlk b8 26 [fEq (.slice none 0 0), fEq (.slice (some ⟨(e 16).n, 0, none⟩) 7 7), fSl tScopeDef [(⟨[(⟨0, 1⟩ : ScopeChan)], [], [(⟨0, [0], 1⟩ : ScopeRule)]⟩ : ScopeDef), (⟨[(⟨0, 0⟩ : ScopeChan)], [], [(⟨0, [0], 3⟩ : ScopeRule)]⟩ : ScopeDef)], fInt .i64 0]])] [([1], false, []), ([0], false, []), ([], true, []), ([], true, []), ([], false, []), ([], false, []), ([], true, []), ([], false, []), ([], true, []), ([], true, []), ([], false, []), ([], true, []), ([], false, []), ([], false, []), ([], true, []), ([], false, []), ([13], true, []), ([], false, [16]), ([11], true, [16])] 1 14 mixed (F0 (F0 (F0 (F0 (F0 (F0 (F0 (F0 (F0 (F0 (F0 (F0 (F0 (F0 (F0 (F0 (F0 (FitsL.cons (fits1 (i := 16) (od := fun c16 => .op [] false (fun _ => fAgg [fEq (.slice none 0 0), fEq (.slice (some ⟨c16.n, 0, none⟩) 7 7), fSl tScopeDef [(⟨[(⟨0, 1⟩ : ScopeChan)], [], [(⟨0, [0], 1⟩ : ScopeRule)]⟩ : ScopeDef), (⟨[(⟨0, 0⟩ : ScopeChan)], [], [(⟨0, [0], 3⟩ : ScopeRule)]⟩ : ScopeDef)], fInt .i64 0]) (fun _ => [])) (fun _ => ⟨rfl, rfl⟩)) (FitsL.cons (fits1 (i := 16) (od := fun c16 => .op [11] true (fun _ => fAny) (fun _ => [tBlk b8 26 [fEq (.slice none 0 0), fEq (.slice (some ⟨c16.n, 0, none⟩) 7 7), fSl tScopeDef [(⟨[(⟨0, 1⟩ : ScopeChan)], [], [(⟨0, [0], 1⟩ : ScopeRule)]⟩ : ScopeDef), (⟨[(⟨0, 0⟩ : ScopeChan)], [], [(⟨0, [0], 3⟩ : ScopeRule)]⟩ : ScopeDef)], fInt .i64 0]])) (fun _ => ⟨rfl, rfl⟩)) FitsL.nil))))))))))))))))))) (by kernel_rfl) rfl rfl (by kernel_rfl) rfl ?_
       dsimp only [netL, List.take, List.replicate, List.append, List.drop]
       refine N_op (ps := [1]) (φ := fAgg [fSl tScopeChan [(⟨0, 1⟩ : ScopeChan)], fEq (.slice none 0 0), fSl tScopeRule [(⟨0, [0], 1⟩ : ScopeRule)]]) rfl (fun _ => rfl) trivial rfl rfl (o_loadBS rfl (has rfl) ty_ag_52 rfl rfl) (fun _ => ?_)
       refine N_op (ps := [0]) (φ := fAgg [fSl tScopeChan [(⟨0, 0⟩ : ScopeChan)], fEq (.slice none 0 0), fSl tScopeRule [(⟨0, [0], 3⟩ : ScopeRule)]]) rfl (fun _ => rfl) trivial rfl rfl (o_loadBS rfl (has rfl) ty_ag_52 rfl rfl) (fun _ => ?_)
       refine N_newF (φ := fSl tScopeDef [(⟨[(⟨0, 1⟩ : ScopeChan)], [], [(⟨0, [0], 1⟩ : ScopeRule)]⟩ : ScopeDef), (⟨[(⟨0, 0⟩ : ScopeChan)], [], [(⟨0, [0], 3⟩ : ScopeRule)]⟩ : ScopeDef)]) rfl (fun _ => rfl) trivial rfl (n_buildSliceC (t := tScopeDef) (xs := [(⟨[(⟨0, 1⟩ : ScopeChan)], [], [(⟨0, [0], 1⟩ : ScopeRule)]⟩ : ScopeDef), (⟨[(⟨0, 0⟩ : ScopeChan)], [], [(⟨0, [0], 3⟩ : ScopeRule)]⟩ : ScopeDef)]) rfl ty_et_24 (PartsS.cons rfl (hasE rfl (ent_agg (EntL.cons Ent.rfl (EntL.cons ent_nil (EntL.cons Ent.rfl EntL.nil))))) part_agg (PartsS.cons rfl (hasE rfl (ent_agg (EntL.cons Ent.rfl (EntL.cons ent_nil (EntL.cons Ent.rfl EntL.nil))))) part_agg PartsS.nil)) rfl rfl rfl) (fun b => frz_row) (fun _ => ?_)
       refine N_newF (φ := fSl (tInt .i64) [2]) rfl (fun _ => rfl) trivial rfl (n_buildSliceC (t := (tInt .i64)) (xs := [2]) rfl ty_et_46 (PartsS.cons rfl (has rfl) (part_leaf (leaf_eq trivial)) PartsS.nil) rfl rfl rfl) (fun b => frz_row) (fun _ => ?_)
       refine My (h := o_build (ψs := [fInt .i64 4, fInt .i64 0, fEq (.slice none 0 0), fSl (tInt .i64) [2]]) rfl ty_bu_56 rfl (Parts.cons (has rfl) (part_leaf (leaf_eq trivial)) (Parts.cons (has rfl) (part_leaf (leaf_sl)) Parts.nil)) rfl) (k := fun _ => ?_)
       refine My (h := o_build (ψs := [fInt .i64 1, fInt .i64 0, fEq (.slice none 0 0), fEq (.slice none 0 0)]) rfl ty_bu_56 rfl (Parts.cons (has rfl) (part_leaf (leaf_eq trivial)) Parts.nil) rfl) (k := fun _ => ?_)
       refine N_newF (φ := fSl (tInt .i64) [4]) rfl (fun _ => rfl) trivial rfl (n_buildSliceC (t := (tInt .i64)) (xs := [4]) rfl ty_et_46 (PartsS.cons rfl (has rfl) (part_leaf (leaf_eq trivial)) PartsS.nil) rfl rfl rfl) (fun b => frz_row) (fun _ => ?_)
       refine My (h := o_build (ψs := [fInt .i64 4, fInt .i64 1, fEq (.slice none 0 0), fSl (tInt .i64) [4]]) rfl ty_bu_56 rfl (Parts.cons (has rfl) (part_leaf (leaf_eq trivial)) (Parts.cons (has rfl) (part_leaf (leaf_eq trivial)) (Parts.cons (has rfl) (part_leaf (leaf_sl)) Parts.nil))) rfl) (k := fun _ => ?_)
       refine N_newF (φ := fSl (tInt .i64) [1]) rfl (fun _ => rfl) trivial rfl (n_buildSliceC (t := (tInt .i64)) (xs := [1]) rfl ty_et_46 (PartsS.cons rfl (has rfl) (part_leaf (leaf_eq trivial)) PartsS.nil) rfl rfl rfl) (fun b => frz_row) (fun _ => ?_)
       refine N_call (Φ := fSl tScopeExp y9) rfl (fun _ => rfl) trivial rfl rfl (has rfl) (HasL.cons (has rfl) HasL.nil) rfl ty_cb_13 (w05_names_w fuel [1] y9 h9) (fun _ => ?_)
       refine My (h := o_build (ψs := [fInt .i64 2, fInt .i64 0, fSl tScopeExp y9, fEq (.slice none 0 0)]) rfl ty_bu_56 rfl (Parts.cons (has rfl) (part_leaf (leaf_eq trivial)) (Parts.cons (has rfl) (part_leaf (leaf_sl)) Parts.nil)) rfl) (k := fun _ => ?_)
       refine N_newF (φ := fSl (tInt .i64) [5, 6]) rfl (fun _ => rfl) trivial rfl (n_buildSliceC (t := (tInt .i64)) (xs := [5, 6]) rfl ty_et_46 (PartsS.cons rfl (has rfl) (part_leaf (leaf_eq trivial)) (PartsS.cons rfl (has rfl) (part_leaf (leaf_eq trivial)) PartsS.nil)) rfl rfl rfl) (fun b => frz_row) (fun _ => ?_)
       refine My (h := o_build (ψs := [fInt .i64 3, fInt .i64 0, fEq (.slice none 0 0), fSl (tInt .i64) [5, 6]]) rfl ty_bu_56 rfl (Parts.cons (has rfl) (part_leaf (leaf_eq trivial)) (Parts.cons (has rfl) (part_leaf (leaf_sl)) Parts.nil)) rfl) (k := fun _ => ?_)
       refine My (h := o_build (ψs := [fInt .i64 2, fInt .i64 1, fEq (.slice none 0 0), fEq (.slice none 0 0)]) rfl ty_bu_56 rfl (Parts.cons (has rfl) (part_leaf (leaf_eq trivial)) (Parts.cons (has rfl) (part_leaf (leaf_eq trivial)) Parts.nil)) rfl) (k := fun _ => ?_)
       refine N_call (Φ := fSl tScopeExp y10) rfl (fun _ => rfl) trivial rfl rfl (has rfl) (HasL.cons (has rfl) HasL.nil) rfl ty_cb_14 (w05_number_w 1 y10 h10) (fun _ => ?_)
       refine My (h := o_build (ψs := [fInt .i64 2, fInt .i64 0, fSl tScopeExp y10, fEq (.slice none 0 0)]) rfl ty_bu_56 rfl (Parts.cons (has rfl) (part_leaf (leaf_eq trivial)) (Parts.cons (has rfl) (part_leaf (leaf_sl)) Parts.nil)) rfl) (k := fun _ => ?_)
       refine N_new (p := 13) (f := fun b25 => .slice (some ⟨b25, 0, none⟩) 7 7) (τ := fun b25 => tRow (.slice (some ⟨b25, 0, none⟩) 7 7) 56 tScopeNode [(⟨4, 0, [], [2]⟩ : ScopeNode), (⟨1, 0, [], []⟩ : ScopeNode), (⟨4, 1, [], [4]⟩ : ScopeNode), (⟨2, 0, y9, []⟩ : ScopeNode), (⟨3, 0, [], [5, 6]⟩ : ScopeNode), (⟨2, 1, [], []⟩ : ScopeNode), (⟨2, 0, y10, []⟩ : ScopeNode)]) rfl (fun _ => rfl) (fun _ => rfl) trivial rfl rfl (n_buildSliceC (t := tScopeNode) (xs := [(⟨4, 0, [], [2]⟩ : ScopeNode), (⟨1, 0, [], []⟩ : ScopeNode), (⟨4, 1, [], [4]⟩ : ScopeNode), (⟨2, 0, y9, []⟩ : ScopeNode), (⟨3, 0, [], [5, 6]⟩ : ScopeNode), (⟨2, 1, [], []⟩ : ScopeNode), (⟨2, 0, y10, []⟩ : ScopeNode)]) rfl ty_et_23 (PartsS.cons rfl (hasE rfl (ent_agg (EntL.cons Ent.rfl (EntL.cons Ent.rfl (EntL.cons ent_nil (EntL.cons Ent.rfl EntL.nil)))))) part_agg (PartsS.cons rfl (hasE rfl (ent_agg (EntL.cons Ent.rfl (EntL.cons Ent.rfl (EntL.cons ent_nil (EntL.cons ent_nil EntL.nil)))))) part_agg (PartsS.cons rfl (hasE rfl (ent_agg (EntL.cons Ent.rfl (EntL.cons Ent.rfl (EntL.cons ent_nil (EntL.cons Ent.rfl EntL.nil)))))) part_agg (PartsS.cons rfl (hasE rfl (ent_agg (EntL.cons Ent.rfl (EntL.cons Ent.rfl (EntL.cons Ent.rfl (EntL.cons ent_nil EntL.nil)))))) part_agg (PartsS.cons rfl (hasE rfl (ent_agg (EntL.cons Ent.rfl (EntL.cons Ent.rfl (EntL.cons ent_nil (EntL.cons Ent.rfl EntL.nil)))))) part_agg (PartsS.cons rfl (hasE rfl (ent_agg (EntL.cons Ent.rfl (EntL.cons Ent.rfl (EntL.cons ent_nil (EntL.cons ent_nil EntL.nil)))))) part_agg (PartsS.cons rfl (hasE rfl (ent_agg (EntL.cons Ent.rfl (EntL.cons Ent.rfl (EntL.cons Ent.rfl (EntL.cons ent_nil EntL.nil)))))) part_agg PartsS.nil))))))) rfl rfl rfl) (fun b25 u1 => ?_)
       refine N_y (φ := fAgg [fEq (.slice none 0 0), fEq (.slice (some ⟨b25, 0, none⟩) 7 7), fSl tScopeDef [(⟨[(⟨0, 1⟩ : ScopeChan)], [], [(⟨0, [0], 1⟩ : ScopeRule)]⟩ : ScopeDef), (⟨[(⟨0, 0⟩ : ScopeChan)], [], [(⟨0, [0], 3⟩ : ScopeRule)]⟩ : ScopeDef)], fInt .i64 0]) rfl (fun _ => rfl) trivial rfl (o_build (ψs := [fEq (.slice none 0 0), fEq (.slice (some ⟨b25, 0, none⟩) 7 7), fSl tScopeDef [(⟨[(⟨0, 1⟩ : ScopeChan)], [], [(⟨0, [0], 1⟩ : ScopeRule)]⟩ : ScopeDef), (⟨[(⟨0, 0⟩ : ScopeChan)], [], [(⟨0, [0], 3⟩ : ScopeRule)]⟩ : ScopeDef)], fInt .i64 0]) rfl ty_bu_26 rfl (Parts.cons (has rfl) (part_leaf (leaf_sl)) (Parts.cons (has rfl) (part_leaf (leaf_eq trivial)) Parts.nil)) rfl) (fun _ => ?_)
       refine N_storeS (p := 11) (φs' := [fEq (.slice none 0 0), fEq (.slice (some ⟨b25, 0, none⟩) 7 7), fSl tScopeDef [(⟨[(⟨0, 1⟩ : ScopeChan)], [], [(⟨0, [0], 1⟩ : ScopeRule)]⟩ : ScopeDef), (⟨[(⟨0, 0⟩ : ScopeChan)], [], [(⟨0, [0], 3⟩ : ScopeRule)]⟩ : ScopeDef)], fInt .i64 0]) rfl (fun _ => rfl) (fun _ => rfl) trivial rfl rfl rfl (has rfl) (has rfl) (ll_cons (leaf_eq trivial) (ll_cons (leaf_eq trivial) (ll_cons (leaf_sl) (ll_cons (leaf_eq trivial) ll_nil)))) ty_sz_26 rfl rfl rfl (fun _ => ?_)
       refine N_done rfl ?_
       generalize hv_v29 : (Value.slice (some ⟨b25, 0, none⟩) 7 7) = v29; clear hv_v29
       refine T_rowCell 13 rfl (fun hc_v29 => ?_)
       refine Nn ?_
       refine Sr ?_
       refine Yo 11 rfl (o_loadBS rfl hh ty_ag_26 rfl rfl) ?_
       refine T_fr13 ?_
       revert H; refine bs fun y11 h11 H => ?_
       refine T_callLendO (Δl := [tRow v29 56 tScopeNode [(⟨4, 0, [], [2]⟩ : ScopeNode), (⟨1, 0, [], []⟩ : ScopeNode), (⟨4, 1, [], [4]⟩ : ScopeNode), (⟨2, 0, y9, []⟩ : ScopeNode), (⟨3, 0, [], [5, 6]⟩ : ScopeNode), (⟨2, 1, [], []⟩ : ScopeNode), (⟨2, 0, y10, []⟩ : ScopeNode)]]) (Δi := []) [(v29, fSl tScopeNode [(⟨4, 0, [], [2]⟩ : ScopeNode), (⟨1, 0, [], []⟩ : ScopeNode), (⟨4, 1, [], [4]⟩ : ScopeNode), (⟨2, 0, y9, []⟩ : ScopeNode), (⟨3, 0, [], [5, 6]⟩ : ScopeNode), (⟨2, 1, [], []⟩ : ScopeNode), (⟨2, 0, y10, []⟩ : ScopeNode)])] trivial rfl rfl rfl (has rfl) (HasW.cons rfl (entW_agg (EntWL.cons (entW_of ent_nil) (EntWL.cons (entW_lend 0 rfl) (EntWL.cons (entW_of Ent.rfl) (EntWL.cons (entW_of Ent.rfl) EntWL.nil))))) HasW.nil) ty_cb_8 (usage_Table_w fuel (⟨[], [(⟨4, 0, [], [2]⟩ : ScopeNode), (⟨1, 0, [], []⟩ : ScopeNode), (⟨4, 1, [], [4]⟩ : ScopeNode), (⟨2, 0, y9, []⟩ : ScopeNode), (⟨3, 0, [], [5, 6]⟩ : ScopeNode), (⟨2, 1, [], []⟩ : ScopeNode), (⟨2, 0, y10, []⟩ : ScopeNode)], [(⟨[(⟨0, 1⟩ : ScopeChan)], [], [(⟨0, [0], 1⟩ : ScopeRule)]⟩ : ScopeDef), (⟨[(⟨0, 0⟩ : ScopeChan)], [], [(⟨0, [0], 3⟩ : ScopeRule)]⟩ : ScopeDef)], 0⟩ : ScopeProg) y11 h11) indF_any (fun v τ h => by have : τ = _ := List.mem_singleton.1 h; subst this; exact (ind_wrap (IndL.cons (fun v => (ind_rowD indo_UsageDef)) (IndL.cons (fun v => (ind_pure indF_eq v)) IndL.nil)))) (FrzT.cons frz_row FrzT.nil) rfl (fun v30 => ?_)
       dsimp only [List.append, List.cons_append, List.nil_append]
       refine T_fr1 ?_
       refine T_openW (c := .tuple) (fs := [.own (fun v => tRowD v 40 oUsageDef y11.1) (fun _ => rowG_cell), .pure (fInt .i64 y11.2)]) (fun v31 => ?_)
       dsimp only [List.append, List.cons_append, List.nil_append]
       refine T_rowCellG 0 rfl (fun hc_v31 => ?_)
       refine Ym ?_
       refine Yy (o_extract rfl hh rfl) ?_
       refine Yy (o_extract rfl hh rfl) ?_
       refine Ya ?_
       refine Ya ?_
       refine Nn ?_
       refine T_seq ?_
       refine Sr ?_
       refine Ym ?_
       refine Yy (o_neq rfl hh hh) ?_
       refine Ym ?_
       revert H; refine is (fun c7 H => ?_) fun c7 H => ?_
       ·
        refine Yt c7 ?_
        refine Yt c7 ?_
        refine Yt c7 ?_
        refine Yy (o_pick_t rfl hh c7 hh) ?_
        refine Ym ?_
        refine Yd ?_
        refine Yd ?_
        refine Yd ?_
        refine Yd ?_
        refine Yd ?_
        refine Yd ?_
        refine Yd ?_
        refine Yy (o_pick_t rfl hh rfl hh) ?_
        refine Ym ?_
        refine Yd ?_
        refine Yd ?_
        refine Yd ?_
        refine Yd ?_
        refine Yd ?_
        refine Yd ?_
        refine Yd ?_
        refine Yd ?_
        refine Yd ?_
        refine Yy (o_pick_t rfl hh rfl hh) ?_
        refine Nn ?_
        refine T_cond_t (has rfl) rfl ?_
        refine Sr ?_
        refine Ya ?_
        refine Nn ?_
        refine Rr ?_
        cases H
        refine T_pick [] (by decide) ?_
        exact T_out1 rfl (hasS rfl) rfl
       ·
        refine Yg c7 (o_move rfl hh) ?_
        refine Yh 0 rfl c7 (o_lenG rfl hh ty_us_27) ?_
        refine Yg c7 (o_neq rfl hh hh) ?_
        refine Yy (o_pick_f rfl hh c7 hh) ?_
        refine Ym ?_
        revert H; refine is (fun c8 H => ?_) fun c8 H => ?_
        ·
         refine Yt c8 ?_
         refine Yt c8 ?_
         refine Yt c8 ?_
         refine Yt c8 ?_
         refine Yt c8 ?_
         refine Yt c8 ?_
         refine Yt c8 ?_
         refine Yy (o_pick_t rfl hh c8 hh) ?_
         refine Ym ?_
         refine Yd ?_
         refine Yd ?_
         refine Yd ?_
         refine Yd ?_
         refine Yd ?_
         refine Yd ?_
         refine Yd ?_
         refine Yd ?_
         refine Yd ?_
         refine Yy (o_pick_t rfl hh rfl hh) ?_
         refine Nn ?_
         refine T_cond_t (has rfl) rfl ?_
         refine Sr ?_
         refine Ya ?_
         refine Nn ?_
         refine Rr ?_
         cases H
         refine T_pick [] (by decide) ?_
         exact T_out1 rfl (hasS rfl) rfl
        ·
         refine Yg c8 (o_move rfl hh) ?_
         revert H; refine bs fun y12 h12 H => ?_
         refine Yh 0 rfl c8 (o_indexG rfl hh hh ty_el_27 h12) ?_
         refine Yg c8 (o_fieldR 0 rfl hh ty_fa_40_0 rfl) ?_
         refine T_openD (i := ((1 : Int).toNat)) (k := 0) (y := y12) (f := (fun v => tRow v 41 (tInt .i64) y12.Chans)) (idx_get h12) rfl (fun v32 => ?_)
         refine T_rowCell 0 rfl (fun hc_v32 => ?_)
         refine Yh 1 rfl c8 (o_loadH rfl rfl hh ty_sc_37 (idx_get h12) rfl) ?_
         refine T_new ⟨_, _, rfl, rfl, c8⟩ rfl rfl (n_buildSliceC (t := (tInt .i64)) (xs := [2]) rfl ty_et_37 (PartsS.cons rfl (has rfl) (part_leaf (leaf_eq trivial)) PartsS.nil) rfl rfl rfl) (fun b26 => ?_)
         generalize hv_v33 : (Value.slice (some ⟨b26, 0, none⟩) _ _) = v33; clear hv_v33
         refine T_rowCell 0 rfl (fun hc_v33 => ?_)
         refine T_fr1 ?_
         revert H; refine bs fun y13 h13 H => ?_
         refine T_callLend (Δl := [tRow v32 41 (tInt .i64) y12.Chans, tRow v33 41 (tInt .i64) [2]]) (Δi := []) (Δo := []) [(v32, fSl (tInt .i64) y12.Chans), (v33, fSl (tInt .i64) [2])] ⟨_, _, rfl, rfl, c8⟩ rfl rfl rfl (has rfl) (HasW.cons rfl (entW_lend 0 rfl) (HasW.cons rfl (entW_lend 1 rfl) HasW.nil)) ty_cb_12 (slices_Equal_LUsageKind_UsageKind_w fuel y12.Chans [2] y13 h13) indF_eq (fun _ h => nomatch h) (FrzT.cons frz_row (FrzT.cons frz_row FrzT.nil)) rfl ?_
         dsimp only [List.append, List.cons_append, List.nil_append]
         refine Yg c8 (o_not rfl hh) ?_
         refine Yy (o_pick_f rfl hh c8 hh) ?_
         refine Ym ?_
         revert H; refine cs (fun c9 H => ?_) fun c9 H => ?_
         ·
          refine Yt c9 ?_
          refine Yt c9 ?_
          refine Yt c9 ?_
          refine Yt c9 ?_
          refine Yt c9 ?_
          refine Yt c9 ?_
          refine Yt c9 ?_
          refine Yt c9 ?_
          refine Yt c9 ?_
          refine Yy (o_pick_t rfl hh c9 hh) ?_
          refine Nn ?_
          refine T_cond_t (has rfl) rfl ?_
          refine Sr ?_
          refine Ya ?_
          refine Nn ?_
          refine Rr ?_
          cases H
          refine T_pick [] (by decide) ?_
          exact T_out1 rfl (hasS rfl) rfl
         ·
          refine Yg c9 (o_move rfl hh) ?_
          refine T_fr2 ?_
          refine T_fr1 ?_
          refine T_closeD (o := oUsageDef) (i := ((1 : Int).toNat)) (k := 0) (y := y12) (y' := { y12 with Chans := y12.Chans }) (f := (fun v => tRow v 41 (tInt .i64) y12.Chans)) (hf := (fun _ => row_isCell)) (idx_get h12) rfl rfl ?_
          revert H; refine bs fun y14 h14 H => ?_
          refine Yh 0 rfl c9 (o_indexG rfl hh hh ty_el_27 h14) ?_
          refine Yg c9 (o_fieldR 2 rfl hh ty_fa_40_2 rfl) ?_
          refine T_openD (i := ((0 : Int).toNat)) (k := 2) (y := y14) (f := (fun v => tRowD v 37 (oRowT 41 (tInt .i64)) y14.Args)) (idx_get h14) rfl (fun v34 => ?_)
          refine T_rowCellG 0 rfl (fun hc_v34 => ?_)
          refine Yh 1 rfl c9 (o_loadH rfl rfl hh ty_sc_38 (idx_get h14) rfl) ?_
          revert H; refine bs fun y15 h15 H => ?_
          refine Yh 0 rfl c9 (o_indexG rfl hh hh ty_el_38 h15) ?_
          refine T_openD (i := ((0 : Int).toNat)) (k := 0) (y := y15) (f := (fun v => tRow v 41 (tInt .i64) y15)) (idx_get h15) rfl (fun v35 => ?_)
          refine T_rowCell 0 rfl (fun hc_v35 => ?_)
          refine Yh 1 rfl c9 (o_loadH rfl rfl hh ty_sc_37 (idx_get h15) rfl) ?_
          refine T_new ⟨_, _, rfl, rfl, c9⟩ rfl rfl (n_buildSliceC (t := (tInt .i64)) (xs := [1]) rfl ty_et_37 (PartsS.cons rfl (has rfl) (part_leaf (leaf_eq trivial)) PartsS.nil) rfl rfl rfl) (fun b27 => ?_)
          generalize hv_v36 : (Value.slice (some ⟨b27, 0, none⟩) _ _) = v36; clear hv_v36
          refine T_rowCell 0 rfl (fun hc_v36 => ?_)
          refine T_fr1 ?_
          revert H; refine bs fun y16 h16 H => ?_
          refine T_callLend (Δl := [tRow v35 41 (tInt .i64) y15, tRow v36 41 (tInt .i64) [1]]) (Δi := []) (Δo := []) [(v35, fSl (tInt .i64) y15), (v36, fSl (tInt .i64) [1])] ⟨_, _, rfl, rfl, c9⟩ rfl rfl rfl (has rfl) (HasW.cons rfl (entW_lend 0 rfl) (HasW.cons rfl (entW_lend 1 rfl) HasW.nil)) ty_cb_12 (slices_Equal_LUsageKind_UsageKind_w fuel y15 [1] y16 h16) indF_eq (fun _ h => nomatch h) (FrzT.cons frz_row (FrzT.cons frz_row FrzT.nil)) rfl ?_
          dsimp only [List.append, List.cons_append, List.nil_append]
          refine Yg c9 (o_not rfl hh) ?_
          refine Yy (o_pick_f rfl hh c9 hh) ?_
          refine Nn ?_
          revert H; refine cs (fun c10 H => ?_) fun c10 H => ?_
          ·
           refine T_cond_f (has rfl) (not_t c10) ?_
           refine T_skip ?_
           refine T_then_n ?_
           refine Sr ?_
           refine Yy (o_fieldB 1 rfl hh ty_fa_26_1 rfl) ?_
           refine Yo 17 rfl (o_loadB rfl hh ty_sc_23 rfl Ent.rfl) ?_
           refine Yy (o_build (ψs := [fInt .i64 2, fInt .i64 1, fEq (.slice none 0 0), fEq (.slice none 0 0)]) rfl ty_bu_56 rfl (Parts.cons (has rfl) (part_leaf (leaf_eq trivial)) (Parts.cons (has rfl) (part_leaf (leaf_eq trivial)) Parts.nil)) rfl) ?_
           revert H; refine bs fun y17 h17 H => ?_
           refine Yo 5 rfl (o_indexR rfl hh hh ty_el_23 h17) ?_
           refine T_fr5 ?_
           refine T_storeRS (z := (⟨2, 1, [], []⟩ : ScopeNode)) trivial rfl rfl rfl (has rfl) (hasE rfl (ent_agg (EntL.cons Ent.rfl (EntL.cons Ent.rfl (EntL.cons ent_nil (EntL.cons ent_nil EntL.nil)))))) ty_sz_56 (List.getElem?_eq_some_iff.1 (idx_get h17)).1 ?_
           refine Nn ?_
           refine Sr ?_
           refine Yy (o_fieldB 1 rfl hh ty_fa_26_1 rfl) ?_
           refine Yo 17 rfl (o_loadB rfl hh ty_sc_23 rfl Ent.rfl) ?_
           refine Yy (o_build (ψs := [fInt .i64 1, fInt .i64 0, fEq (.slice none 0 0), fEq (.slice none 0 0)]) rfl ty_bu_56 rfl (Parts.cons (has rfl) (part_leaf (leaf_eq trivial)) Parts.nil) rfl) ?_
           revert H; refine bs fun y18 h18 H => ?_
           refine Yo 0 rfl (o_indexR rfl hh hh ty_el_23 h18) ?_
           refine T_storeRS (z := (⟨1, 0, [], []⟩ : ScopeNode)) trivial rfl rfl rfl (has rfl) (hasE rfl (ent_agg (EntL.cons Ent.rfl (EntL.cons Ent.rfl (EntL.cons ent_nil (EntL.cons ent_nil EntL.nil)))))) ty_sz_56 (List.getElem?_eq_some_iff.1 (idx_get h18)).1 ?_
           refine Nn ?_
           refine Sr ?_
           refine Yo 17 rfl (o_loadBS rfl hh ty_ag_26 rfl rfl) ?_
           revert H; refine bs fun y19 h19 H => ?_
           refine T_callLendO (Δl := [tRow v29 56 tScopeNode (([(⟨4, 0, [], [2]⟩ : ScopeNode), (⟨1, 0, [], []⟩ : ScopeNode), (⟨4, 1, [], [4]⟩ : ScopeNode), (⟨2, 0, y9, []⟩ : ScopeNode), (⟨3, 0, [], [5, 6]⟩ : ScopeNode), (⟨2, 1, [], []⟩ : ScopeNode), (⟨2, 0, y10, []⟩ : ScopeNode)].set ((1 : Int).toNat) (⟨2, 1, [], []⟩ : ScopeNode)).set ((6 : Int).toNat) (⟨1, 0, [], []⟩ : ScopeNode))]) (Δi := []) [(v29, fSl tScopeNode (([(⟨4, 0, [], [2]⟩ : ScopeNode), (⟨1, 0, [], []⟩ : ScopeNode), (⟨4, 1, [], [4]⟩ : ScopeNode), (⟨2, 0, y9, []⟩ : ScopeNode), (⟨3, 0, [], [5, 6]⟩ : ScopeNode), (⟨2, 1, [], []⟩ : ScopeNode), (⟨2, 0, y10, []⟩ : ScopeNode)].set ((1 : Int).toNat) (⟨2, 1, [], []⟩ : ScopeNode)).set ((6 : Int).toNat) (⟨1, 0, [], []⟩ : ScopeNode)))] trivial rfl rfl rfl (has rfl) (HasW.cons rfl (entW_agg (EntWL.cons (entW_of ent_nil) (EntWL.cons (entW_lend 0 rfl) (EntWL.cons (entW_of Ent.rfl) (EntWL.cons (entW_of Ent.rfl) EntWL.nil))))) HasW.nil) ty_cb_8 (usage_Table_w fuel (⟨[], ([(⟨4, 0, [], [2]⟩ : ScopeNode), (⟨1, 0, [], []⟩ : ScopeNode), (⟨4, 1, [], [4]⟩ : ScopeNode), (⟨2, 0, y9, []⟩ : ScopeNode), (⟨3, 0, [], [5, 6]⟩ : ScopeNode), (⟨2, 1, [], []⟩ : ScopeNode), (⟨2, 0, y10, []⟩ : ScopeNode)].set ((1 : Int).toNat) (⟨2, 1, [], []⟩ : ScopeNode)).set ((6 : Int).toNat) (⟨1, 0, [], []⟩ : ScopeNode), [(⟨[(⟨0, 1⟩ : ScopeChan)], [], [(⟨0, [0], 1⟩ : ScopeRule)]⟩ : ScopeDef), (⟨[(⟨0, 0⟩ : ScopeChan)], [], [(⟨0, [0], 3⟩ : ScopeRule)]⟩ : ScopeDef)], 0⟩ : ScopeProg) y19 h19) indF_any (fun v τ h => by have : τ = _ := List.mem_singleton.1 h; subst this; exact (ind_wrap (IndL.cons (fun v => (ind_rowD indo_UsageDef)) (IndL.cons (fun v => (ind_pure indF_eq v)) IndL.nil)))) (FrzT.cons frz_row FrzT.nil) rfl (fun v37 => ?_)
           dsimp only [List.append, List.cons_append, List.nil_append]
           refine T_fr1 ?_
           refine T_openW (c := .tuple) (fs := [.own (fun v => tRowD v 40 oUsageDef y19.1) (fun _ => rowG_cell), .pure (fInt .i64 y19.2)]) (fun v38 => ?_)
           dsimp only [List.append, List.cons_append, List.nil_append]
           refine T_rowCellG 0 rfl (fun hc_v38 => ?_)
           refine Ym ?_
           refine Yy (o_extract rfl hh rfl) ?_
           refine Yy (o_extract rfl hh rfl) ?_
           refine Ya ?_
           refine Ya ?_
           refine Nn ?_
           revert H; refine bs fun o1 H Hr1 => ?_
           refine T_seqJ (ι := Bool) (fun i => o1 = i) (fun i => [(0, fBool i)]) (fun i => [tBlk b19 52 [fSl tScopeChan [(⟨0, 0⟩ : ScopeChan)], fEq (.slice none 0 0), fSl tScopeRule [(⟨0, [0], 3⟩ : ScopeRule)]], tBlk b15 52 [fSl tScopeChan [(⟨0, 1⟩ : ScopeChan)], fEq (.slice none 0 0), fSl tScopeRule [(⟨0, [0], 1⟩ : ScopeRule)]], tBlk b9 26 [fSl tStr y1.Free, fEq v8, fEq v9, fInt .i64 y1.Main], tBlk b8 26 [fEq (.slice none 0 0), fEq v29, fSl tScopeDef [(⟨[(⟨0, 1⟩ : ScopeChan)], [], [(⟨0, [0], 1⟩ : ScopeRule)]⟩ : ScopeDef), (⟨[(⟨0, 0⟩ : ScopeChan)], [], [(⟨0, [0], 3⟩ : ScopeRule)]⟩ : ScopeDef)], fInt .i64 0], tBlk b4 52 [fSl tScopeChan [(⟨0, 0⟩ : ScopeChan)], fEq (.slice none 0 0), fSl tScopeRule [(⟨0, [0], 1⟩ : ScopeRule)]], tRow v8 56 tScopeNode (y1.Nodes.set ((2 : Int).toNat) (⟨1, 0, [], []⟩ : ScopeNode)), tRow v9 52 tScopeDef y1.Defs, tRow v29 56 tScopeNode (([(⟨4, 0, [], [2]⟩ : ScopeNode), (⟨1, 0, [], []⟩ : ScopeNode), (⟨4, 1, [], [4]⟩ : ScopeNode), (⟨2, 0, y9, []⟩ : ScopeNode), (⟨3, 0, [], [5, 6]⟩ : ScopeNode), (⟨2, 1, [], []⟩ : ScopeNode), (⟨2, 0, y10, []⟩ : ScopeNode)].set ((1 : Int).toNat) (⟨2, 1, [], []⟩ : ScopeNode)).set ((6 : Int).toNat) (⟨1, 0, [], []⟩ : ScopeNode))]) ?_ ?_
           ·
            refine T_region ?_
            refine Ym ?_
            refine Yy (o_eql rfl hh hh) ?_
            refine Ym ?_
            revert H; refine is (fun c11 H => ?_) fun c11 H => ?_
            ·
             refine Yg c11 (o_move rfl hh) ?_
             refine Yh 0 rfl c11 (o_lenG rfl hh ty_us_27) ?_
             refine Yg c11 (o_eql rfl hh hh) ?_
             refine Yy (o_pick_t rfl hh c11 hh) ?_
             refine Ym ?_
             revert H; refine is (fun c12 H => ?_) fun c12 H => ?_
             ·
              refine Yg c12 (o_move rfl hh) ?_
              revert H; refine bs fun y20 h20 H => ?_
              refine Yh 0 rfl c12 (o_indexG rfl hh hh ty_el_27 h20) ?_
              refine Yg c12 (o_fieldR 0 rfl hh ty_fa_40_0 rfl) ?_
              refine T_openD (i := ((1 : Int).toNat)) (k := 0) (y := y20) (f := (fun v => tRow v 41 (tInt .i64) y20.Chans)) (idx_get h20) rfl (fun v39 => ?_)
              refine T_rowCell 0 rfl (fun hc_v39 => ?_)
              refine Yh 1 rfl c12 (o_loadH rfl rfl hh ty_sc_37 (idx_get h20) rfl) ?_
              refine T_new ⟨_, _, rfl, rfl, c12⟩ rfl rfl (n_buildSliceC (t := (tInt .i64)) (xs := [4]) rfl ty_et_37 (PartsS.cons rfl (has rfl) (part_leaf (leaf_eq trivial)) PartsS.nil) rfl rfl rfl) (fun b28 => ?_)
              generalize hv_v40 : (Value.slice (some ⟨b28, 0, none⟩) _ _) = v40; clear hv_v40
              refine T_rowCell 0 rfl (fun hc_v40 => ?_)
              refine T_fr1 ?_
              revert H; refine bs fun y21 h21 H => ?_
              refine T_callLend (Δl := [tRow v39 41 (tInt .i64) y20.Chans, tRow v40 41 (tInt .i64) [4]]) (Δi := []) (Δo := []) [(v39, fSl (tInt .i64) y20.Chans), (v40, fSl (tInt .i64) [4])] ⟨_, _, rfl, rfl, c12⟩ rfl rfl rfl (has rfl) (HasW.cons rfl (entW_lend 0 rfl) (HasW.cons rfl (entW_lend 1 rfl) HasW.nil)) ty_cb_12 (slices_Equal_LUsageKind_UsageKind_w fuel y20.Chans [4] y21 h21) indF_eq (fun _ h => nomatch h) (FrzT.cons frz_row (FrzT.cons frz_row FrzT.nil)) rfl ?_
              dsimp only [List.append, List.cons_append, List.nil_append]
              refine Yy (o_pick_t rfl hh c12 hh) ?_
              refine Ym ?_
              revert H; refine cs (fun c13 H => ?_) fun c13 H => ?_
              ·
               revert H; refine bs fun y22 h22 H => ?_
               refine T_call ⟨_, _, rfl, rfl, c13⟩ rfl rfl rfl (has rfl) HasL.nil rfl ty_cb_7 (w05_works_w fuel y22 h22) rfl ?_
               refine Yy (o_pick_t rfl hh c13 hh) ?_
               refine Ya ?_
               refine Nn ?_
               refine T_fr16 ?_
               refine T_fr15 ?_
               refine T_closeD (o := oUsageDef) (i := ((0 : Int).toNat)) (k := 0) (y := y5) (y' := { y5 with Chans := y5.Chans }) (f := (fun v => tRow v 41 (tInt .i64) y5.Chans)) (hf := (fun _ => row_isCell)) (idx_get h5) rfl rfl ?_
               refine T_fr14 ?_
               refine T_fr13 ?_
               refine T_closeD (o := oUsageDef) (i := ((0 : Int).toNat)) (k := 0) (y := y7) (y' := { y7 with Chans := y7.Chans }) (f := (fun v => tRow v 41 (tInt .i64) y7.Chans)) (hf := (fun _ => row_isCell)) (idx_get h7) rfl rfl ?_
               refine T_fr8 ?_
               refine T_fr7 ?_
               refine T_closeD (o := (oRowT 41 (tInt .i64))) (i := ((0 : Int).toNat)) (k := 0) (y := y15) (y' := y15) (f := (fun v => tRow v 41 (tInt .i64) y15)) (hf := (fun _ => row_isCell)) (idx_get h15) rfl rfl ?_
               refine T_fr8 ?_
               refine T_fr1 ?_
               refine T_closeD (o := oUsageDef) (i := ((0 : Int).toNat)) (k := 2) (y := y14) (y' := { y14 with Args := y14.Args.set ((0 : Int).toNat) y15 }) (f := (fun v => tRowD v 37 (oRowT 41 (tInt .i64)) (y14.Args.set ((0 : Int).toNat) y15))) (hf := (fun _ => rowG_cell)) (idx_get h14) rfl rfl ?_
               refine T_fr5 ?_
               refine T_fr4 ?_
               refine T_closeD (o := oUsageDef) (i := ((1 : Int).toNat)) (k := 0) (y := y20) (y' := { y20 with Chans := y20.Chans }) (f := (fun v => tRow v 41 (tInt .i64) y20.Chans)) (hf := (fun _ => row_isCell)) (idx_get h20) rfl rfl ?_
               refine T_pick [8, 9, 14, 15, 16, 12, 13, 5] (by decide) ?_
               exact T_meet (y22) (Option.some.inj H).symm (Sc SubT.nil) rfl
              ·
               refine Yf c13 ?_
               refine Yy (o_pick_f rfl hh c13 hh) ?_
               refine Ya ?_
               refine Nn ?_
               refine T_fr16 ?_
               refine T_fr15 ?_
               refine T_closeD (o := oUsageDef) (i := ((0 : Int).toNat)) (k := 0) (y := y5) (y' := { y5 with Chans := y5.Chans }) (f := (fun v => tRow v 41 (tInt .i64) y5.Chans)) (hf := (fun _ => row_isCell)) (idx_get h5) rfl rfl ?_
               refine T_fr14 ?_
               refine T_fr13 ?_
               refine T_closeD (o := oUsageDef) (i := ((0 : Int).toNat)) (k := 0) (y := y7) (y' := { y7 with Chans := y7.Chans }) (f := (fun v => tRow v 41 (tInt .i64) y7.Chans)) (hf := (fun _ => row_isCell)) (idx_get h7) rfl rfl ?_
               refine T_fr8 ?_
               refine T_fr7 ?_
               refine T_closeD (o := (oRowT 41 (tInt .i64))) (i := ((0 : Int).toNat)) (k := 0) (y := y15) (y' := y15) (f := (fun v => tRow v 41 (tInt .i64) y15)) (hf := (fun _ => row_isCell)) (idx_get h15) rfl rfl ?_
               refine T_fr8 ?_
               refine T_fr1 ?_
               refine T_closeD (o := oUsageDef) (i := ((0 : Int).toNat)) (k := 2) (y := y14) (y' := { y14 with Args := y14.Args.set ((0 : Int).toNat) y15 }) (f := (fun v => tRowD v 37 (oRowT 41 (tInt .i64)) (y14.Args.set ((0 : Int).toNat) y15))) (hf := (fun _ => rowG_cell)) (idx_get h14) rfl rfl ?_
               refine T_fr5 ?_
               refine T_fr4 ?_
               refine T_closeD (o := oUsageDef) (i := ((1 : Int).toNat)) (k := 0) (y := y20) (y' := { y20 with Chans := y20.Chans }) (f := (fun v => tRow v 41 (tInt .i64) y20.Chans)) (hf := (fun _ => row_isCell)) (idx_get h20) rfl rfl ?_
               refine T_pick [8, 9, 14, 15, 16, 12, 13, 5] (by decide) ?_
               exact T_meet (false) (Option.some.inj H).symm (Sc SubT.nil) rfl
             ·
              refine Yf c12 ?_
              refine Yf c12 ?_
              refine Yf c12 ?_
              refine Yf c12 ?_
              refine Yf c12 ?_
              refine Yf c12 ?_
              refine Yy (o_pick_f rfl hh c12 hh) ?_
              refine Ym ?_
              refine Yd ?_
              refine Yy (o_pick_f rfl hh rfl hh) ?_
              refine Ya ?_
              refine Nn ?_
              refine T_fr14 ?_
              refine T_fr13 ?_
              refine T_closeD (o := oUsageDef) (i := ((0 : Int).toNat)) (k := 0) (y := y5) (y' := { y5 with Chans := y5.Chans }) (f := (fun v => tRow v 41 (tInt .i64) y5.Chans)) (hf := (fun _ => row_isCell)) (idx_get h5) rfl rfl ?_
              refine T_fr12 ?_
              refine T_fr11 ?_
              refine T_closeD (o := oUsageDef) (i := ((0 : Int).toNat)) (k := 0) (y := y7) (y' := { y7 with Chans := y7.Chans }) (f := (fun v => tRow v 41 (tInt .i64) y7.Chans)) (hf := (fun _ => row_isCell)) (idx_get h7) rfl rfl ?_
              refine T_fr6 ?_
              refine T_fr5 ?_
              refine T_closeD (o := (oRowT 41 (tInt .i64))) (i := ((0 : Int).toNat)) (k := 0) (y := y15) (y' := y15) (f := (fun v => tRow v 41 (tInt .i64) y15)) (hf := (fun _ => row_isCell)) (idx_get h15) rfl rfl ?_
              refine T_fr6 ?_
              refine T_fr1 ?_
              refine T_closeD (o := oUsageDef) (i := ((0 : Int).toNat)) (k := 2) (y := y14) (y' := { y14 with Args := y14.Args.set ((0 : Int).toNat) y15 }) (f := (fun v => tRowD v 37 (oRowT 41 (tInt .i64)) (y14.Args.set ((0 : Int).toNat) y15))) (hf := (fun _ => rowG_cell)) (idx_get h14) rfl rfl ?_
              refine T_pick [7, 8, 13, 14, 15, 11, 12, 4] (by decide) ?_
              exact T_meet (false) (Option.some.inj H).symm (Sc SubT.nil) rfl
            ·
             refine Yf c11 ?_
             refine Yf c11 ?_
             refine Yf c11 ?_
             refine Yy (o_pick_f rfl hh c11 hh) ?_
             refine Ym ?_
             refine Yd ?_
             refine Yd ?_
             refine Yd ?_
             refine Yd ?_
             refine Yd ?_
             refine Yd ?_
             refine Yy (o_pick_f rfl hh rfl hh) ?_
             refine Ym ?_
             refine Yd ?_
             refine Yy (o_pick_f rfl hh rfl hh) ?_
             refine Ya ?_
             refine Nn ?_
             refine T_fr14 ?_
             refine T_fr13 ?_
             refine T_closeD (o := oUsageDef) (i := ((0 : Int).toNat)) (k := 0) (y := y5) (y' := { y5 with Chans := y5.Chans }) (f := (fun v => tRow v 41 (tInt .i64) y5.Chans)) (hf := (fun _ => row_isCell)) (idx_get h5) rfl rfl ?_
             refine T_fr12 ?_
             refine T_fr11 ?_
             refine T_closeD (o := oUsageDef) (i := ((0 : Int).toNat)) (k := 0) (y := y7) (y' := { y7 with Chans := y7.Chans }) (f := (fun v => tRow v 41 (tInt .i64) y7.Chans)) (hf := (fun _ => row_isCell)) (idx_get h7) rfl rfl ?_
             refine T_fr6 ?_
             refine T_fr5 ?_
             refine T_closeD (o := (oRowT 41 (tInt .i64))) (i := ((0 : Int).toNat)) (k := 0) (y := y15) (y' := y15) (f := (fun v => tRow v 41 (tInt .i64) y15)) (hf := (fun _ => row_isCell)) (idx_get h15) rfl rfl ?_
             refine T_fr6 ?_
             refine T_fr1 ?_
             refine T_closeD (o := oUsageDef) (i := ((0 : Int).toNat)) (k := 2) (y := y14) (y' := { y14 with Args := y14.Args.set ((0 : Int).toNat) y15 }) (f := (fun v => tRowD v 37 (oRowT 41 (tInt .i64)) (y14.Args.set ((0 : Int).toNat) y15))) (hf := (fun _ => rowG_cell)) (idx_get h14) rfl rfl ?_
             refine T_pick [7, 8, 13, 14, 15, 11, 12, 4] (by decide) ?_
             exact T_meet (false) (Option.some.inj H).symm (Sc SubT.nil) rfl
           ·
            clear H; intro x1 hi; subst o1; have H := Hr1; clear Hr1; try dsimp only at H
            show T β _ _ [(0, fBool x1)] [tBlk b19 52 [fSl tScopeChan [(⟨0, 0⟩ : ScopeChan)], fEq (.slice none 0 0), fSl tScopeRule [(⟨0, [0], 3⟩ : ScopeRule)]], tBlk b15 52 [fSl tScopeChan [(⟨0, 1⟩ : ScopeChan)], fEq (.slice none 0 0), fSl tScopeRule [(⟨0, [0], 1⟩ : ScopeRule)]], tBlk b9 26 [fSl tStr y1.Free, fEq v8, fEq v9, fInt .i64 y1.Main], tBlk b8 26 [fEq (.slice none 0 0), fEq v29, fSl tScopeDef [(⟨[(⟨0, 1⟩ : ScopeChan)], [], [(⟨0, [0], 1⟩ : ScopeRule)]⟩ : ScopeDef), (⟨[(⟨0, 0⟩ : ScopeChan)], [], [(⟨0, [0], 3⟩ : ScopeRule)]⟩ : ScopeDef)], fInt .i64 0], tBlk b4 52 [fSl tScopeChan [(⟨0, 0⟩ : ScopeChan)], fEq (.slice none 0 0), fSl tScopeRule [(⟨0, [0], 1⟩ : ScopeRule)]], tRow v8 56 tScopeNode (y1.Nodes.set ((2 : Int).toNat) (⟨1, 0, [], []⟩ : ScopeNode)), tRow v9 52 tScopeDef y1.Defs, tRow v29 56 tScopeNode (([(⟨4, 0, [], [2]⟩ : ScopeNode), (⟨1, 0, [], []⟩ : ScopeNode), (⟨4, 1, [], [4]⟩ : ScopeNode), (⟨2, 0, y9, []⟩ : ScopeNode), (⟨3, 0, [], [5, 6]⟩ : ScopeNode), (⟨2, 1, [], []⟩ : ScopeNode), (⟨2, 0, y10, []⟩ : ScopeNode)].set ((1 : Int).toNat) (⟨2, 1, [], []⟩ : ScopeNode)).set ((6 : Int).toNat) (⟨1, 0, [], []⟩ : ScopeNode))] _
            refine T_retc ?_
            cases H
            refine T_pick [] (by decide) ?_
            exact T_out1 rfl (hasS rfl) rfl
          ·
           refine T_cond_t (has rfl) (not_f c10) ?_
           refine Sr ?_
           refine Ya ?_
           refine Nn ?_
           refine Rr ?_
           cases H
           refine T_pick [] (by decide) ?_
           exact T_out1 rfl (hasS rfl) rfl
      ·
       refine T_cond_t (has rfl) (not_f c6) ?_
       refine Sr ?_
       refine Ya ?_
       refine Nn ?_
       refine Rr ?_
       cases H
       refine T_pick [] (by decide) ?_
       exact T_out1 rfl (hasS rfl) rfl
end Go.Proofs.Ytmnbfgeljmhekaa
