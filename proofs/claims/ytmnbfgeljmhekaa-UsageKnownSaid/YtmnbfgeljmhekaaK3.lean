/- Parts of the proof: lemmas, and the steps through the program. -/
import Derived.Test.YtmnbfgeljmhekaaK2
set_option maxRecDepth 100000
set_option maxHeartbeats 2000000
namespace Go.Proofs.Ytmnbfgeljmhekaa
open Go.SX Go.SW Go.Dt
def usage_text_fill_l1 (a0 : Usage_text) (a1 : Int) (y2 : ScopeNode) (y5 : ScopeDef) : Nat → Int → (GMap Int Usage_channel) → Option (GMap Int Usage_channel)
| 0, _, _ => none
| k + 1, x7, x8 =>
 if x7 < (y5.Chans.length : Int) then
  (idx a0.sizes a1).bind fun y6 =>
  (chk (y6 + x7)).bind fun z1 =>
  (chk (x7 + 1)).bind fun z2 =>
  usage_text_fill_l1 a0 a1 y2 y5 k z2 (GMap.upd x8 z1 (⟨y2.N, x7⟩ : Usage_channel))
 else
  some x8
def usage_text_fill_b2 (rec_usage_text_fill : Usage_text → Int → (GMap Int Usage_channel) → Option (List (GMap Int Usage_channel) × List Int)) (a0 : Usage_text) (x1 : GMap Int Usage_channel) (x9 : Int) (x12 : List (GMap Int Usage_channel)) (x13 : List Int) : Option (List (GMap Int Usage_channel) × List Int) :=
 (rec_usage_text_fill ({ a0 with denotes := x12, heads := x13 }) x9 x1).bind fun y9 =>
 some (y9.1, y9.2)
def usage_text_fill_S : Nat → Usage_text → Int → (GMap Int Usage_channel) → Option (List (GMap Int Usage_channel) × List Int)
| 0, _, _, _ => none
| fuel + 1, a0, a1, a2 =>
 (idx a0.denotes a1).bind fun y1 =>
 (idx a0.ScopeProg.Nodes a1).bind fun y2 =>
 (if y2.Op = 4 then
  (idx a0.heads y2.N).bind fun y3 =>
  (some ()).bind fun _ =>
  ((idx a0.ScopeProg.Defs y2.N).bind fun y5 =>
  usage_text_fill_l1 a0 a1 y2 y5 fuel 0 a2).bind fun x4 =>
  some (x4, a0.heads.set y2.N.toNat a1)
 else
  some (a2, a0.heads)).bind fun (x1, x2) =>
 (usage_text_under_S a0 a1).bind fun y7 =>
 (usage_text_under_1_S fuel (fun (x : Int) (t : List (GMap Int Usage_channel) × List Int) => usage_text_fill_b2 (usage_text_fill_S fuel) a0 x1 x t.1 t.2) (a0.denotes.set a1.toNat a2, x2) y7.1 y7.2).bind fun y8 => match y8 with
 | (x14, x15) =>
 some (x14, x15)
theorem usage_text_fill_w : ∀ (fuel : Nat), (∀ (h0_0 : Value) (h0_1 : Value) (a0 : Usage_text) (a1 : Int) (a2 : GMap Int Usage_channel) (r : List (GMap Int Usage_channel) × List Int) (H : usage_text_fill_S fuel a0 a1 a2 = some r), FnS Try.prog 52 [fPtr tUsage_text_R (⟨a0.ScopeProg, h0_0, a0.sizes, h0_1⟩ : Usage_text_R), fInt .i64 a1, fMap kInt (fun y => fSt tUsage_channel y) a2] [tRow h0_0 108 (tMapD kInt (fun y => fSt tUsage_channel y)) a0.denotes, tRow h0_1 3 (tInt .i64) a0.heads] (fTup []) (fun _ => [tRow h0_0 108 (tMapD kInt (fun y => fSt tUsage_channel y)) r.1, tRow h0_1 3 (tInt .i64) r.2])) := by
 intro fuel
 induction fuel with
 | zero => exact fun h0_0 h0_1 a0 a1 a2 r H => (by rw [usage_text_fill_S] at H; cases H)
 | succ fuel ih =>
 have ih_usage_text_fill := ih
 refine ?_
 ·
  intro h0_0 h0_1 a0 a1 a2 r H
  rw [usage_text_fill_S] at H
  refine FnS_ofM Try.func52 rfl Try.ntmps52 rfl (fun β => ?_)
  refine Sr ?_
  refine T_new trivial rfl rfl (n_box rfl (has rfl) (part_leaf (leaf_ptr))) (fun b1 => ?_)
  refine T_new trivial rfl rfl (n_box rfl (has rfl) (part_leaf (leaf_map))) (fun b2 => ?_)
  refine Nn ?_
  refine T_seq ?_
  revert H; refine bs fun y1 h1 H => ?_
  refine T_net 8 [fun _ => .op [1] false (fun _ => fPtr tUsage_text_R (⟨a0.ScopeProg, h0_0, a0.sizes, h0_1⟩ : Usage_text_R)) (fun _ => [tEmp]), fun _ => .op [] false (fun _ => fPtr tUsage_text_R (⟨a0.ScopeProg, h0_0, a0.sizes, h0_1⟩ : Usage_text_R)) (fun _ => []), fun _ => .op [] false (fun _ => fPtr tRaw h0_0) (fun _ => []), fun _ => .op [] false (fun _ => fEq h0_0) (fun _ => []), fun _ => .op [] false (fun _ => fInt .i64 a1) (fun _ => []), fun _ => .op [0] false (fun _ => fMap kInt (fun y => fSt tUsage_channel y) a2) (fun _ => [tEmp]), fun _ => .op [2] false (fun _ => fRowAt h0_0 1 a1.toNat 0) (fun _ => [tEmp]), fun _ => .op [2] true (fun _ => fAny) (fun _ => [tRow h0_0 108 (tMapD kInt (fun y => fSt tUsage_channel y)) (a0.denotes.set a1.toNat a2)])] [([1], false, []), ([], false, []), ([], false, []), ([], false, []), ([], false, []), ([0], false, []), ([2], false, []), ([2], true, [])] 0 4 mixed (F0 (F0 (F0 (F0 (F0 (F0 (F0 (F0 FitsL.nil)))))))) (by kernel_rfl) rfl rfl (by kernel_rfl) rfl ?_
  dsimp only [netL, List.take, List.replicate, List.append, List.drop]
  refine N_op (ps := [1]) (φ := fPtr tUsage_text_R (⟨a0.ScopeProg, h0_0, a0.sizes, h0_1⟩ : Usage_text_R)) rfl (fun _ => rfl) trivial rfl rfl (o_loadB rfl (has rfl) ty_sc_71 rfl Ent.rfl) (fun _ => ?_)
  refine My (h := o_nilCheck rfl (has rfl) (fun m v ⟨p, h, _⟩ => ⟨p, h⟩)) (k := fun _ => ?_)
  refine My (h := o_field (t' := tRaw) (z := h0_0) rfl hh ty_fa_79_1 rfl) (k := fun _ => ?_)
  refine My (h := o_loadE rfl hh ty_sc_77 rfl ent_ofRaw) (k := fun _ => ?_)
  refine My (h := o_move rfl hh) (k := fun _ => ?_)
  refine N_op (ps := [0]) (φ := fMap kInt (fun y => fSt tUsage_channel y) a2) rfl (fun _ => rfl) trivial rfl rfl (o_loadB rfl (has rfl) ty_sc_108 rfl Ent.rfl) (fun _ => ?_)
  refine N_op (ps := [2]) (φ := fRowAt h0_0 1 a1.toNat 0) rfl (fun _ => rfl) trivial rfl rfl (o_indexR rfl (has rfl) (has rfl) ty_el_77 h1) (fun _ => ?_)
  refine N_storeR (p := 2) (z' := a2) rfl (fun _ => rfl) (fun _ => rfl) trivial rfl rfl rfl rfl (has rfl) (has rfl) (leaf_map) ty_sz_108 (idx_get h1) rfl rfl (fun _ => ?_)
  refine N_done rfl ?_
  refine Nn ?_
  refine Sr ?_
  refine Yo 1 rfl (o_loadB rfl hh ty_sc_71 rfl Ent.rfl) ?_
  refine Yy (o_nilCheck rfl (has rfl) (fun m v ⟨p, h, _⟩ => ⟨p, h⟩)) ?_
  refine Yy (o_field (t' := tScopeProg) (z := a0.ScopeProg) rfl hh ty_fa_79_0 rfl) ?_
  refine Yy (o_field (t' := (tSl tScopeNode)) (z := a0.ScopeProg.Nodes) rfl hh ty_fa_26_1 rfl) ?_
  refine Yy (o_load rfl hh ty_sc_23 rfl) ?_
  refine Ym ?_
  revert H; refine bs fun y2 h2 H => ?_
  refine Yy (o_index rfl hh hh ty_el_23 h2) ?_
  refine Yy (o_loadS rfl hh ty_ag_56) ?_
  refine T_new trivial rfl rfl (n_alloc rfl ty_ze_56 rfl) (fun b3 => ?_)
  refine T_storeS (φs' := [fInt .i64 y2.Op, fInt .i64 y2.N, fSl tScopeExp y2.Args, fSl (tInt .i64) y2.Kids]) trivial rfl rfl (has rfl) (has rfl) (ll_cons (leaf_eq trivial) (ll_cons (leaf_eq trivial) (ll_cons (leaf_sl) (ll_cons (leaf_sl) ll_nil)))) ty_sz_56 rfl rfl rfl ?_
  refine Nn ?_
  revert H; refine bs fun o1 H Hr1 => ?_
  refine T_seqJ (ι := GMap Int Usage_channel × List Int) (fun i => o1 = (i.1, i.2)) (fun i => [(0, fPtr tUsage_text_R (⟨a0.ScopeProg, h0_0, a0.sizes, h0_1⟩ : Usage_text_R)), (1, fInt .i64 a1), (3, fEq (.pointer (some ⟨b1, 0, none⟩))), (5, fEq (.pointer (some ⟨b2, 0, none⟩)))]) (fun i => [tBlk b2 108 [fMap kInt (fun y => fSt tUsage_channel y) i.1], tBlk b3 56 [fInt .i64 y2.Op, fInt .i64 y2.N, fSl tScopeExp y2.Args, fSl (tInt .i64) y2.Kids], tBlk b1 71 [fPtr tUsage_text_R (⟨a0.ScopeProg, h0_0, a0.sizes, h0_1⟩ : Usage_text_R)], tRow h0_0 108 (tMapD kInt (fun y => fSt tUsage_channel y)) (a0.denotes.set a1.toNat a2), tRow h0_1 3 (tInt .i64) i.2]) ?_ ?_
  ·
   refine Sr ?_
   refine Yy (o_fieldB 0 rfl hh ty_fa_56_0 rfl) ?_
   refine Yo 0 rfl (o_loadB rfl hh ty_sc_53 rfl Ent.rfl) ?_
   refine Yy (o_eql rfl hh hh) ?_
   refine Nn ?_
   revert H; refine is (fun c1 H => ?_) fun c1 H => ?_
   ·
    refine T_cond_t (has rfl) c1 ?_
    refine T_seq ?_
    revert H; refine bs fun y3 h3 H => ?_
    refine T_net 9 [fun _ => .op [2] false (fun _ => fPtr tUsage_text_R (⟨a0.ScopeProg, h0_0, a0.sizes, h0_1⟩ : Usage_text_R)) (fun _ => [tEmp]), fun _ => .op [] false (fun _ => fPtr tUsage_text_R (⟨a0.ScopeProg, h0_0, a0.sizes, h0_1⟩ : Usage_text_R)) (fun _ => []), fun _ => .op [] false (fun _ => fPtr tRaw h0_1) (fun _ => []), fun _ => .op [] false (fun _ => fEq h0_1) (fun _ => []), fun _ => .op [] false (fun _ => fEq (.pointer (some ⟨b3, 1, none⟩))) (fun _ => []), fun _ => .op [0] false (fun _ => fInt .i64 y2.N) (fun _ => [tEmp]), fun _ => .op [] false (fun _ => fInt .i64 a1) (fun _ => []), fun _ => .op [4] false (fun _ => fRowAt h0_1 1 y2.N.toNat 0) (fun _ => [tEmp]), fun _ => .op [4] true (fun _ => fAny) (fun _ => [tRow h0_1 3 (tInt .i64) (a0.heads.set y2.N.toNat a1)])] [([2], false, []), ([], false, []), ([], false, []), ([], false, []), ([], false, []), ([0], false, []), ([], false, []), ([4], false, []), ([4], true, [])] 0 5 mixed (F0 (F0 (F0 (F0 (F0 (F0 (F0 (F0 (F0 FitsL.nil))))))))) (by kernel_rfl) rfl rfl (by kernel_rfl) rfl ?_
    dsimp only [netL, List.take, List.replicate, List.append, List.drop]
    refine N_op (ps := [2]) (φ := fPtr tUsage_text_R (⟨a0.ScopeProg, h0_0, a0.sizes, h0_1⟩ : Usage_text_R)) rfl (fun _ => rfl) trivial rfl rfl (o_loadB rfl (has rfl) ty_sc_71 rfl Ent.rfl) (fun _ => ?_)
    refine My (h := o_nilCheck rfl (has rfl) (fun m v ⟨p, h, _⟩ => ⟨p, h⟩)) (k := fun _ => ?_)
    refine My (h := o_field (t' := tRaw) (z := h0_1) rfl hh ty_fa_79_3 rfl) (k := fun _ => ?_)
    refine My (h := o_loadE rfl hh ty_sc_46 rfl ent_ofRaw) (k := fun _ => ?_)
    refine N_y (φ := fEq (.pointer (some ⟨b3, 1, none⟩))) rfl (fun _ => rfl) trivial rfl (o_fieldB 1 rfl (has rfl) ty_fa_56_1 rfl) (fun _ => ?_)
    refine N_op (ps := [0]) (φ := fInt .i64 y2.N) rfl (fun _ => rfl) trivial rfl rfl (o_loadB rfl (has rfl) ty_sc_3 rfl Ent.rfl) (fun _ => ?_)
    refine My (h := o_move rfl hh) (k := fun _ => ?_)
    refine N_op (ps := [4]) (φ := fRowAt h0_1 1 y2.N.toNat 0) rfl (fun _ => rfl) trivial rfl rfl (o_indexR rfl (has rfl) (has rfl) ty_el_46 h3) (fun _ => ?_)
    refine N_storeR (p := 4) (z' := a1) rfl (fun _ => rfl) (fun _ => rfl) trivial rfl rfl rfl rfl (has rfl) (has rfl) (leaf_eq trivial) ty_sz_3 (idx_get h3) rfl rfl (fun _ => ?_)
    refine N_done rfl ?_
    refine Nn ?_
    refine Sr ?_
    refine T_new trivial rfl rfl (n_makeMap (fun y => fSt tUsage_channel y) kInt rfl) (fun b4 => ?_)
    refine Ya ?_
    refine Nn ?_
    revert H; refine bs fun o2 H Hr2 => ?_
    refine T_seqJ (ι := Unit) (fun i => o2 = ()) (fun i => [(0, fPtr tUsage_text_R (⟨a0.ScopeProg, h0_0, a0.sizes, h0_1⟩ : Usage_text_R)), (1, fInt .i64 a1), (3, fEq (.pointer (some ⟨b1, 0, none⟩))), (5, fEq (.pointer (some ⟨b2, 0, none⟩))), (6, fEq (.pointer (some ⟨b3, 0, none⟩))), (7, fEq (.map (some b4)))]) (fun i => [tBlk b3 56 [fInt .i64 y2.Op, fInt .i64 y2.N, fSl tScopeExp y2.Args, fSl (tInt .i64) y2.Kids], tBlk b2 108 [fMap kInt (fun y => fSt tUsage_channel y) a2], tBlk b1 71 [fPtr tUsage_text_R (⟨a0.ScopeProg, h0_0, a0.sizes, h0_1⟩ : Usage_text_R)], tMap kInt (fun y => fSt tUsage_channel y) b4 a2, tRow h0_0 108 (tMapD kInt (fun y => fSt tUsage_channel y)) (a0.denotes.set a1.toNat a2), tRow h0_1 3 (tInt .i64) (a0.heads.set y2.N.toNat a1)]) ?_ ?_
    ·
     refine Sr ?_
     refine Yo 2 rfl (o_loadB rfl hh ty_sc_108 rfl Ent.rfl) ?_
     refine T_new trivial rfl rfl (n_range (kd := kInt) (vf := (fun y => fSt tUsage_channel y)) (g := a2) rfl (has rfl) ty_mp_108) (fun b5 => ?_)
     refine Nn ?_
     refine T_block ?_
     refine T_pick [2, 3, 4, 1, 5, 6, 0] (by decide) ?_
     refine T_loop (ι := GMap Int Usage_channel) (fun _ => True) (fun i => a2.size - i.size) (fun i => [(0, fPtr tUsage_text_R (⟨a0.ScopeProg, h0_0, a0.sizes, h0_1⟩ : Usage_text_R)), (1, fInt .i64 a1), (3, fEq (.pointer (some ⟨b1, 0, none⟩))), (5, fEq (.pointer (some ⟨b2, 0, none⟩))), (6, fEq (.pointer (some ⟨b3, 0, none⟩))), (7, fEq (.map (some b4))), (40, fEq (ptr b5))]) (fun i => [tBlk b3 56 [fInt .i64 y2.Op, fInt .i64 y2.N, fSl tScopeExp y2.Args, fSl (tInt .i64) y2.Kids], tBlk b2 108 [fMap kInt (fun y => fSt tUsage_channel y) a2], tBlk b1 71 [fPtr tUsage_text_R (⟨a0.ScopeProg, h0_0, a0.sizes, h0_1⟩ : Usage_text_R)], tMap kInt (fun y => fSt tUsage_channel y) b4 i, tRow h0_0 108 (tMapD kInt (fun y => fSt tUsage_channel y)) (a0.denotes.set a1.toNat a2), tRow h0_1 3 (tInt .i64) (a0.heads.set y2.N.toNat a1), tIter kInt (fun y => fSt tUsage_channel y) b5 a2 i]) GMap.none trivial (Sc (Sc (Sc (Sc (Sc (Sc (Sc SubT.nil))))))) rfl ?_
     intro g1 _
     show T β _ _ [(0, fPtr tUsage_text_R (⟨a0.ScopeProg, h0_0, a0.sizes, h0_1⟩ : Usage_text_R)), (1, fInt .i64 a1), (3, fEq (.pointer (some ⟨b1, 0, none⟩))), (5, fEq (.pointer (some ⟨b2, 0, none⟩))), (6, fEq (.pointer (some ⟨b3, 0, none⟩))), (7, fEq (.map (some b4))), (40, fEq (ptr b5))] [tBlk b3 56 [fInt .i64 y2.Op, fInt .i64 y2.N, fSl tScopeExp y2.Args, fSl (tInt .i64) y2.Kids], tBlk b2 108 [fMap kInt (fun y => fSt tUsage_channel y) a2], tBlk b1 71 [fPtr tUsage_text_R (⟨a0.ScopeProg, h0_0, a0.sizes, h0_1⟩ : Usage_text_R)], tMap kInt (fun y => fSt tUsage_channel y) b4 g1, tRow h0_0 108 (tMapD kInt (fun y => fSt tUsage_channel y)) (a0.denotes.set a1.toNat a2), tRow h0_1 3 (tInt .i64) (a0.heads.set y2.N.toNat a1), tIter kInt (fun y => fSt tUsage_channel y) b5 a2 g1] _
     refine Sr ?_
     refine T_fr6 ?_
     refine T_next trivial rfl rfl rfl (has rfl) (fun hg => ?_) (fun x3 y4 h4 h5 h6 => ?_)
     ·
      subst hg
      refine Yy (o_extract rfl hh rfl) ?_
      refine Nn ?_
      refine T_seq ?_
      refine T_cond_f (has rfl) rfl ?_
      refine T_exit ?_
      refine T_then_exit ?_
      refine T_then_exit ?_
      refine T_in_hit ?_
      refine T_then_n ?_
      refine T_pick [1, 2, 3, 4, 5, 6] (by decide) ?_
      exact T_meet (()) (Option.some.inj H).symm (Sc (Sc (Sc (Sc (Sc (Sc SubT.nil)))))) rfl
     ·
      refine Yy (o_extract rfl hh rfl) ?_
      refine Nn ?_
      refine T_seq ?_
      refine T_cond_t (has rfl) rfl ?_
      refine T_skip ?_
      refine T_then_n ?_
      refine T_block ?_
      refine Sr ?_
      refine Yo 0 rfl (o_entry rfl hh) ?_
      refine Yy (o_extract rfl hh rfl) ?_
      refine Yy (o_extract rfl hh rfl) ?_
      refine T_new trivial rfl rfl (n_alloc rfl ty_ze_129 rfl) (fun b6 => ?_)
      refine Ya ?_
      refine T_storeS (φs' := [fInt .i64 y4.def_, fInt .i64 y4.index]) trivial rfl rfl (has rfl) (has rfl) (ll_cons (leaf_eq trivial) (ll_cons (leaf_eq trivial) ll_nil)) ty_sz_129 rfl rfl rfl ?_
      refine Nn ?_
      refine T_region ?_
      refine Ym ?_
      refine Ym ?_
      refine Yo 0 rfl (o_loadBS rfl hh ty_ag_129 rfl rfl) ?_
      refine T_fr5 ?_
      refine T_mapUpd (k := x3) (y := (⟨y4.def_, y4.index⟩ : Usage_channel)) trivial (.inl rfl) rfl (has rfl) (has rfl) rfl (has rfl) rfl ty_mp_108 ?_
      refine T_nil ?_
      refine T_in_n ?_
      refine T_then_n ?_
      refine T_fr2 ?_
      refine T_iterC ?_
      refine T_pick [3, 4, 5, 1, 6, 7, 0] (by decide) ?_
      exact T_meet (GMap.upd g1 x3 y4) ⟨trivial, upd_meas h5 h6⟩ (Sc (Sc (Sc (Sc (Sc (Sc (Sc SubT.nil))))))) rfl
    ·
     clear H; intro i hi; subst o2; have H := Hr2; clear Hr2; try dsimp only at H
     show T β _ _ [(0, fPtr tUsage_text_R (⟨a0.ScopeProg, h0_0, a0.sizes, h0_1⟩ : Usage_text_R)), (1, fInt .i64 a1), (3, fEq (.pointer (some ⟨b1, 0, none⟩))), (5, fEq (.pointer (some ⟨b2, 0, none⟩))), (6, fEq (.pointer (some ⟨b3, 0, none⟩))), (7, fEq (.map (some b4)))] [tBlk b3 56 [fInt .i64 y2.Op, fInt .i64 y2.N, fSl tScopeExp y2.Args, fSl (tInt .i64) y2.Kids], tBlk b2 108 [fMap kInt (fun y => fSt tUsage_channel y) a2], tBlk b1 71 [fPtr tUsage_text_R (⟨a0.ScopeProg, h0_0, a0.sizes, h0_1⟩ : Usage_text_R)], tMap kInt (fun y => fSt tUsage_channel y) b4 a2, tRow h0_0 108 (tMapD kInt (fun y => fSt tUsage_channel y)) (a0.denotes.set a1.toNat a2), tRow h0_1 3 (tInt .i64) (a0.heads.set y2.N.toNat a1)] _
     revert H; refine bs fun o3 H Hr3 => ?_
     refine T_seqJ (ι := GMap Int Usage_channel) (fun i => o3 = i) (fun i => [(0, fPtr tUsage_text_R (⟨a0.ScopeProg, h0_0, a0.sizes, h0_1⟩ : Usage_text_R)), (1, fInt .i64 a1), (3, fEq (.pointer (some ⟨b1, 0, none⟩))), (5, fEq (.pointer (some ⟨b2, 0, none⟩))), (7, fEq (.map (some b4)))]) (fun i => [tBlk b3 56 [fInt .i64 y2.Op, fInt .i64 y2.N, fSl tScopeExp y2.Args, fSl (tInt .i64) y2.Kids], tBlk b2 108 [fMap kInt (fun y => fSt tUsage_channel y) a2], tBlk b1 71 [fPtr tUsage_text_R (⟨a0.ScopeProg, h0_0, a0.sizes, h0_1⟩ : Usage_text_R)], tMap kInt (fun y => fSt tUsage_channel y) b4 i, tRow h0_0 108 (tMapD kInt (fun y => fSt tUsage_channel y)) (a0.denotes.set a1.toNat a2), tRow h0_1 3 (tInt .i64) (a0.heads.set y2.N.toNat a1)]) ?_ ?_
     ·
      refine T_seq ?_
      revert H; refine bs fun y5 h7 H => ?_
      refine T_net 12 [fun _ => .op [2] false (fun _ => fPtr tUsage_text_R (⟨a0.ScopeProg, h0_0, a0.sizes, h0_1⟩ : Usage_text_R)) (fun _ => [tEmp]), fun _ => .op [] false (fun _ => fPtr tUsage_text_R (⟨a0.ScopeProg, h0_0, a0.sizes, h0_1⟩ : Usage_text_R)) (fun _ => []), fun _ => .op [] false (fun _ => fPtr tScopeProg a0.ScopeProg) (fun _ => []), fun _ => .op [] false (fun _ => fPtr (tSl tScopeDef) a0.ScopeProg.Defs) (fun _ => []), fun _ => .op [] false (fun _ => fSl tScopeDef a0.ScopeProg.Defs) (fun _ => []), fun _ => .op [] false (fun _ => fEq (.pointer (some ⟨b3, 1, none⟩))) (fun _ => []), fun _ => .op [0] false (fun _ => fInt .i64 y2.N) (fun _ => [tEmp]), fun _ => .op [] false (fun _ => fPtr tScopeDef y5) (fun _ => []), fun _ => .op [] false (fun _ => fPtr (tSl tScopeChan) y5.Chans) (fun _ => []), fun _ => .op [] false (fun _ => fSl tScopeChan y5.Chans) (fun _ => []), fun _ => .op [] false (fun _ => fInt .i64 (y5.Chans.length : Int)) (fun _ => []), fun _ => .op [] false (fun _ => fInt .i64 0) (fun _ => [])] [([2], false, []), ([], false, []), ([], false, []), ([], false, []), ([], false, []), ([], false, []), ([0], false, []), ([], false, []), ([], false, []), ([], false, []), ([], false, []), ([], false, [])] 0 6 mixed (F0 (F0 (F0 (F0 (F0 (F0 (F0 (F0 (F0 (F0 (F0 (F0 FitsL.nil)))))))))))) (by kernel_rfl) rfl rfl (by kernel_rfl) rfl ?_
      dsimp only [netL, List.take, List.replicate, List.append, List.drop]
      refine N_op (ps := [2]) (φ := fPtr tUsage_text_R (⟨a0.ScopeProg, h0_0, a0.sizes, h0_1⟩ : Usage_text_R)) rfl (fun _ => rfl) trivial rfl rfl (o_loadB rfl (has rfl) ty_sc_71 rfl Ent.rfl) (fun _ => ?_)
      refine My (h := o_nilCheck rfl (has rfl) (fun m v ⟨p, h, _⟩ => ⟨p, h⟩)) (k := fun _ => ?_)
      refine My (h := o_field (t' := tScopeProg) (z := a0.ScopeProg) rfl hh ty_fa_79_0 rfl) (k := fun _ => ?_)
      refine My (h := o_field (t' := (tSl tScopeDef)) (z := a0.ScopeProg.Defs) rfl hh ty_fa_26_2 rfl) (k := fun _ => ?_)
      refine My (h := o_load rfl hh ty_sc_24 rfl) (k := fun _ => ?_)
      refine N_y (φ := fEq (.pointer (some ⟨b3, 1, none⟩))) rfl (fun _ => rfl) trivial rfl (o_fieldB 1 rfl (has rfl) ty_fa_56_1 rfl) (fun _ => ?_)
      refine N_op (ps := [0]) (φ := fInt .i64 y2.N) rfl (fun _ => rfl) trivial rfl rfl (o_loadB rfl (has rfl) ty_sc_3 rfl Ent.rfl) (fun _ => ?_)
      refine My (h := o_index rfl hh hh ty_el_24 h7) (k := fun _ => ?_)
      refine My (h := o_field (t' := (tSl tScopeChan)) (z := y5.Chans) rfl hh ty_fa_52_0 rfl) (k := fun _ => ?_)
      refine My (h := o_load rfl hh ty_sc_45 rfl) (k := fun _ => ?_)
      refine My (h := o_len rfl hh ty_us_45) (k := fun _ => ?_)
      refine My (h := o_move rfl hh) (k := fun _ => ?_)
      refine N_done rfl ?_
      refine Nn ?_
      refine T_block ?_
      refine T_loop (ι := Nat × Int × GMap Int Usage_channel) (fun i => usage_text_fill_l1 a0 a1 y2 y5 i.1 i.2.1 i.2.2 = _) (fun i => i.1) (fun i => [(0, fPtr tUsage_text_R (⟨a0.ScopeProg, h0_0, a0.sizes, h0_1⟩ : Usage_text_R)), (1, fInt .i64 a1), (3, fEq (.pointer (some ⟨b1, 0, none⟩))), (5, fEq (.pointer (some ⟨b2, 0, none⟩))), (6, fEq (.pointer (some ⟨b3, 0, none⟩))), (7, fEq (.map (some b4))), (59, fInt .i64 (y5.Chans.length : Int)), (60, fInt .i64 i.2.1)]) (fun i => [tBlk b3 56 [fInt .i64 y2.Op, fInt .i64 y2.N, fSl tScopeExp y2.Args, fSl (tInt .i64) y2.Kids], tBlk b2 108 [fMap kInt (fun y => fSt tUsage_channel y) a2], tBlk b1 71 [fPtr tUsage_text_R (⟨a0.ScopeProg, h0_0, a0.sizes, h0_1⟩ : Usage_text_R)], tMap kInt (fun y => fSt tUsage_channel y) b4 i.2.2, tRow h0_0 108 (tMapD kInt (fun y => fSt tUsage_channel y)) (a0.denotes.set a1.toNat a2), tRow h0_1 3 (tInt .i64) (a0.heads.set y2.N.toNat a1)]) (fuel, 0, a2) H (Sc (Sc (Sc (Sc (Sc (Sc (Sc (Sc SubT.nil)))))))) rfl ?_
      clear H; rintro ⟨k1, x7, x8⟩ H
      replace H : usage_text_fill_l1 a0 a1 y2 y5 k1 x7 x8 = _ := H
      show T β _ _ [(0, fPtr tUsage_text_R (⟨a0.ScopeProg, h0_0, a0.sizes, h0_1⟩ : Usage_text_R)), (1, fInt .i64 a1), (3, fEq (.pointer (some ⟨b1, 0, none⟩))), (5, fEq (.pointer (some ⟨b2, 0, none⟩))), (6, fEq (.pointer (some ⟨b3, 0, none⟩))), (7, fEq (.map (some b4))), (59, fInt .i64 (y5.Chans.length : Int)), (60, fInt .i64 x7)] [tBlk b3 56 [fInt .i64 y2.Op, fInt .i64 y2.N, fSl tScopeExp y2.Args, fSl (tInt .i64) y2.Kids], tBlk b2 108 [fMap kInt (fun y => fSt tUsage_channel y) a2], tBlk b1 71 [fPtr tUsage_text_R (⟨a0.ScopeProg, h0_0, a0.sizes, h0_1⟩ : Usage_text_R)], tMap kInt (fun y => fSt tUsage_channel y) b4 x8, tRow h0_0 108 (tMapD kInt (fun y => fSt tUsage_channel y)) (a0.denotes.set a1.toNat a2), tRow h0_1 3 (tInt .i64) (a0.heads.set y2.N.toNat a1)] _
      obtain _ | k1 := k1
      ·
       rw [usage_text_fill_l1] at H; cases H
      rw [usage_text_fill_l1] at H
      refine Sr ?_
      refine Yy (o_lss rfl hh hh) ?_
      refine Nn ?_
      refine T_seq ?_
      revert H; refine is (fun c2 H => ?_) fun c2 H => ?_
      ·
       refine T_cond_t (has rfl) c2 ?_
       refine T_skip ?_
       refine T_then_n ?_
       refine T_seq ?_
       refine T_block ?_
       refine Sr ?_
       refine Ym ?_
       refine Ya ?_
       refine Nn ?_
       revert H; refine bs fun y6 h8 H => ?_
       revert H; refine bs fun z1 h9 H => ?_
       refine T_net 14 [fun _ => .op [] false (fun _ => fEq (.map (some b4))) (fun _ => []), fun _ => .op [2] false (fun _ => fPtr tUsage_text_R (⟨a0.ScopeProg, h0_0, a0.sizes, h0_1⟩ : Usage_text_R)) (fun _ => [tEmp]), fun _ => .op [] false (fun _ => fPtr tUsage_text_R (⟨a0.ScopeProg, h0_0, a0.sizes, h0_1⟩ : Usage_text_R)) (fun _ => []), fun _ => .op [] false (fun _ => fPtr (tSl (tInt .i64)) a0.sizes) (fun _ => []), fun _ => .op [] false (fun _ => fSl (tInt .i64) a0.sizes) (fun _ => []), fun _ => .op [] false (fun _ => fInt .i64 a1) (fun _ => []), fun _ => .op [] false (fun _ => fPtr (tInt .i64) y6) (fun _ => []), fun _ => .op [] false (fun _ => fInt .i64 y6) (fun _ => []), fun _ => .op [] false (fun _ => fInt .i64 x7) (fun _ => []), fun _ => .op [] false (fun _ => fInt .i64 z1) (fun _ => []), fun _ => .op [] false (fun _ => fEq (.pointer (some ⟨b3, 1, none⟩))) (fun _ => []), fun _ => .op [0] false (fun _ => fInt .i64 y2.N) (fun _ => [tEmp]), fun _ => .op [] false (fun _ => fInt .i64 x7) (fun _ => []), fun _ => .op [] false (fun _ => fAgg [fInt .i64 y2.N, fInt .i64 x7]) (fun _ => [])] [([], false, []), ([2], false, []), ([], false, []), ([], false, []), ([], false, []), ([], false, []), ([], false, []), ([], false, []), ([], false, []), ([], false, []), ([], false, []), ([0], false, []), ([], false, []), ([], false, [])] 0 6 mixed (F0 (F0 (F0 (F0 (F0 (F0 (F0 (F0 (F0 (F0 (F0 (F0 (F0 (F0 FitsL.nil)))))))))))))) (by kernel_rfl) rfl rfl (by kernel_rfl) rfl ?_
       dsimp only [netL, List.take, List.replicate, List.append, List.drop]
       refine N_y (φ := fEq (.map (some b4))) rfl (fun _ => rfl) trivial rfl (o_move rfl (has rfl)) (fun _ => ?_)
       refine N_op (ps := [2]) (φ := fPtr tUsage_text_R (⟨a0.ScopeProg, h0_0, a0.sizes, h0_1⟩ : Usage_text_R)) rfl (fun _ => rfl) trivial rfl rfl (o_loadB rfl (has rfl) ty_sc_71 rfl Ent.rfl) (fun _ => ?_)
       refine My (h := o_nilCheck rfl (has rfl) (fun m v ⟨p, h, _⟩ => ⟨p, h⟩)) (k := fun _ => ?_)
       refine My (h := o_field (t' := (tSl (tInt .i64))) (z := a0.sizes) rfl hh ty_fa_79_2 rfl) (k := fun _ => ?_)
       refine My (h := o_load rfl hh ty_sc_46 rfl) (k := fun _ => ?_)
       refine My (h := o_move rfl hh) (k := fun _ => ?_)
       refine My (h := o_index rfl hh hh ty_el_46 h8) (k := fun _ => ?_)
       refine My (h := o_load rfl hh ty_sc_3 rfl) (k := fun _ => ?_)
       refine My (h := o_move rfl hh) (k := fun _ => ?_)
       refine My (h := o_add rfl hh hh h9) (k := fun _ => ?_)
       refine N_y (φ := fEq (.pointer (some ⟨b3, 1, none⟩))) rfl (fun _ => rfl) trivial rfl (o_fieldB 1 rfl (has rfl) ty_fa_56_1 rfl) (fun _ => ?_)
       refine N_op (ps := [0]) (φ := fInt .i64 y2.N) rfl (fun _ => rfl) trivial rfl rfl (o_loadB rfl (has rfl) ty_sc_3 rfl Ent.rfl) (fun _ => ?_)
       refine My (h := o_move rfl hh) (k := fun _ => ?_)
       refine My (h := o_build (ψs := [fInt .i64 y2.N, fInt .i64 x7]) rfl ty_bu_129 rfl (Parts.cons (has rfl) (part_leaf (leaf_eq trivial)) (Parts.cons (has rfl) (part_leaf (leaf_eq trivial)) Parts.nil)) rfl) (k := fun _ => ?_)
       refine N_done rfl ?_
       refine T_fr3 ?_
       refine T_mapUpd (k := z1) (y := (⟨y2.N, x7⟩ : Usage_channel)) trivial (.inl rfl) rfl (has rfl) (has rfl) rfl (has rfl) rfl ty_mp_108 ?_
       refine T_nil ?_
       refine T_in_n ?_
       refine T_then_n ?_
       refine T_region ?_
       revert H; refine bs fun z2 h10 H => ?_
       refine Yy (o_add rfl hh hh h10) ?_
       refine Ym ?_
       refine Nn ?_
       refine T_pick [1, 2, 3, 0, 4, 5] (by decide) ?_
       exact T_meet ((k1, z2, GMap.upd x8 z1 (⟨y2.N, x7⟩ : Usage_channel))) ⟨H, Nat.lt_succ_self _⟩ (Sc (Sc (Sc (Sc (Sc (Sc (Sc (Sc SubT.nil)))))))) rfl
      ·
       refine T_cond_f (has rfl) c2 ?_
       refine T_exit ?_
       refine T_then_exit ?_
       refine T_then_exit ?_
       refine T_in_hit ?_
       refine T_then_n ?_
       exact T_meet (x8) (Option.some.inj H).symm (Sc (Sc (Sc (Sc (Sc SubT.nil))))) rfl
     ·
      clear H; intro x4 hi; subst o3; have H := Hr3; clear Hr3; try dsimp only at H
      show T β _ _ [(0, fPtr tUsage_text_R (⟨a0.ScopeProg, h0_0, a0.sizes, h0_1⟩ : Usage_text_R)), (1, fInt .i64 a1), (3, fEq (.pointer (some ⟨b1, 0, none⟩))), (5, fEq (.pointer (some ⟨b2, 0, none⟩))), (7, fEq (.map (some b4)))] [tBlk b3 56 [fInt .i64 y2.Op, fInt .i64 y2.N, fSl tScopeExp y2.Args, fSl (tInt .i64) y2.Kids], tBlk b2 108 [fMap kInt (fun y => fSt tUsage_channel y) a2], tBlk b1 71 [fPtr tUsage_text_R (⟨a0.ScopeProg, h0_0, a0.sizes, h0_1⟩ : Usage_text_R)], tMap kInt (fun y => fSt tUsage_channel y) b4 x4, tRow h0_0 108 (tMapD kInt (fun y => fSt tUsage_channel y)) (a0.denotes.set a1.toNat a2), tRow h0_1 3 (tInt .i64) (a0.heads.set y2.N.toNat a1)] _
      refine T_region ?_
      refine Ym ?_
      refine T_fr1 ?_
      refine T_store (φs' := [fEq (.map (some b4))]) trivial rfl rfl (has rfl) (has rfl) (leaf_eq trivial) ty_sz_108 rfl rfl ?_
      refine Nn ?_
      refine T_fr3 ?_
      refine T_freeze (φ := fMap kInt (fun y => fSt tUsage_channel y) x4) (v := .map (some b4)) [7, 78] frz_map (by intro s hs; simp only [List.mem_cons, List.not_mem_nil, or_false] at hs; rcases hs with rfl | rfl <;> rfl) ?_
      refine T_leafPure (φs' := [fMap kInt (fun y => fSt tUsage_channel y) x4]) (i := 0) rfl rfl ?_
      refine T_dropT ?_
      exact T_meet ((x4, a0.heads.set y2.N.toNat a1)) (Option.some.inj H).symm (Sc (Sc (Sc (Sc SubT.nil)))) rfl
   ·
    refine T_cond_f (has rfl) c1 ?_
    refine T_skip ?_
    refine T_then_n ?_
    refine T_pick [1, 0, 2, 3, 4] (by decide) ?_
    exact T_meet ((a2, a0.heads)) (Option.some.inj H).symm (Sc (Sc (Sc (Sc SubT.nil)))) rfl
  ·
   clear H; intro i hi; obtain ⟨x1, x2⟩ := i; subst o1; have H := Hr1; clear Hr1; try dsimp only at H
   show T β _ _ [(0, fPtr tUsage_text_R (⟨a0.ScopeProg, h0_0, a0.sizes, h0_1⟩ : Usage_text_R)), (1, fInt .i64 a1), (3, fEq (.pointer (some ⟨b1, 0, none⟩))), (5, fEq (.pointer (some ⟨b2, 0, none⟩)))] [tBlk b2 108 [fMap kInt (fun y => fSt tUsage_channel y) x1], tBlk b3 56 [fInt .i64 y2.Op, fInt .i64 y2.N, fSl tScopeExp y2.Args, fSl (tInt .i64) y2.Kids], tBlk b1 71 [fPtr tUsage_text_R (⟨a0.ScopeProg, h0_0, a0.sizes, h0_1⟩ : Usage_text_R)], tRow h0_0 108 (tMapD kInt (fun y => fSt tUsage_channel y)) (a0.denotes.set a1.toNat a2), tRow h0_1 3 (tInt .i64) x2] _
   refine Sr ?_
   refine Yo 2 rfl (o_loadB rfl hh ty_sc_71 rfl Ent.rfl) ?_
   refine Ym ?_
   revert H; refine bs fun y7 h11 H => ?_
   refine T_call trivial rfl rfl rfl (has rfl) (HasL.cons (hasE rfl (ent_RUsage_textP)) (HasL.cons (has rfl) HasL.nil)) rfl ty_cb_76 (usage_text_under_w a0 a1 y7 h11) rfl ?_
   refine Nn ?_
   refine T_block ?_
   refine T_sub [(0, fPtr tUsage_text_R (⟨a0.ScopeProg, h0_0, a0.sizes, h0_1⟩ : Usage_text_R)), (1, fInt .i64 a1), (3, fEq (.pointer (some ⟨b1, 0, none⟩))), (5, fEq (.pointer (some ⟨b2, 0, none⟩))), (79, fPtr tUsage_text_R (⟨a0.ScopeProg, h0_0, a0.sizes, h0_1⟩ : Usage_text_R)), (80, fInt .i64 a1), (81, fClo 90 [fPtr (tPtr tUsage_textP) y7.1, fPtr (tInt .i64) y7.2])] (Sc (Sc (Sc (Sc (Sc (Sc (Sc SubT.nil))))))) ?_
   revert H; refine bs fun y8 h12 H => ?_
   refine T_rangeFunc (s := (a0.denotes.set a1.toNat a2, x2)) (s' := y8) (fun (x : Int) => [fInt .i64 x]) (fun (x : Int) (t : List (GMap Int Usage_channel) × List Int) => usage_text_fill_b2 (usage_text_fill_S fuel) a0 x1 x t.1 t.2) (fun (t : List (GMap Int Usage_channel) × List Int) => [tBlk b2 108 [fMap kInt (fun y => fSt tUsage_channel y) x1], tBlk b3 56 [fInt .i64 y2.Op, fInt .i64 y2.N, fSl tScopeExp y2.Args, fSl (tInt .i64) y2.Kids], tBlk b1 71 [fPtr tUsage_text_R (⟨a0.ScopeProg, h0_0, a0.sizes, h0_1⟩ : Usage_text_R)], tRow h0_0 108 (tMapD kInt (fun y => fSt tUsage_channel y)) t.1, tRow h0_1 3 (tInt .i64) t.2]) (has rfl) ty_cb_90 rfl (fun _ => rfl) rfl (fun J => usage_text_under_1_w fuel J (fun (x : Int) (t : List (GMap Int Usage_channel) × List Int) => usage_text_fill_b2 (usage_text_fill_S fuel) a0 x1 x t.1 t.2) (a0.denotes.set a1.toNat a2, x2) y7.1 y7.2 y8 h12) (fun β' l rec x9 t t' hs hp hY => ?_) (fun rb => ?_)
   ·
    obtain ⟨x12, x13⟩ := t
    have H : usage_text_fill_b2 (usage_text_fill_S fuel) a0 x1 x9 x12 x13 = some t' := hY; clear hY; unfold usage_text_fill_b2 at H; try dsimp only at H
    show T β' _ _ (roundG [82] ((fun (x : Int) => [fInt .i64 x]) x9) [(0, fPtr tUsage_text_R (⟨a0.ScopeProg, h0_0, a0.sizes, h0_1⟩ : Usage_text_R)), (1, fInt .i64 a1), (3, fEq (.pointer (some ⟨b1, 0, none⟩))), (5, fEq (.pointer (some ⟨b2, 0, none⟩))), (79, fPtr tUsage_text_R (⟨a0.ScopeProg, h0_0, a0.sizes, h0_1⟩ : Usage_text_R)), (80, fInt .i64 a1), (81, fClo 90 [fPtr (tPtr tUsage_textP) y7.1, fPtr (tInt .i64) y7.2])]) (tObj l (.loop rec) :: [tBlk b2 108 [fMap kInt (fun y => fSt tUsage_channel y) x1], tBlk b3 56 [fInt .i64 y2.Op, fInt .i64 y2.N, fSl tScopeExp y2.Args, fSl (tInt .i64) y2.Kids], tBlk b1 71 [fPtr tUsage_text_R (⟨a0.ScopeProg, h0_0, a0.sizes, h0_1⟩ : Usage_text_R)], tRow h0_0 108 (tMapD kInt (fun y => fSt tUsage_channel y)) x12, tRow h0_1 3 (tInt .i64) x13]) _
    refine T_region ?_
    refine Ya ?_
    refine Nn ?_
    refine T_begin hs ?_
    refine T_block ?_
    refine T_region ?_
    refine Yo 3 rfl (o_loadB rfl hh ty_sc_71 rfl Ent.rfl) ?_
    refine Ym ?_
    refine Yo 1 rfl (o_loadB rfl hh ty_sc_108 rfl Ent.rfl) ?_
    refine T_fr5 ?_
    refine T_fr5 ?_
    revert H; refine bs fun y9 h13 H => ?_
    refine T_call trivial rfl rfl rfl (has rfl) (HasL.cons (has rfl) (HasL.cons (has rfl) (HasL.cons (has rfl) HasL.nil))) rfl ty_cb_52 (ih_usage_text_fill h0_0 h0_1 ({ a0 with denotes := x12, heads := x13 }) x9 x1 y9 h13) rfl ?_
    refine T_nil ?_
    refine T_in_n ?_
    refine T_pick [3, 4, 5, 0, 1, 2] (by decide) ?_
    cases H
    refine T_pick [5, 0, 1, 2, 3, 4] (by decide) ?_
    exact T_roundEnd hs hp rfl
   ·
    obtain ⟨x14, x15⟩ := y8; dsimp only at H
    generalize rb = rb1
    show T β _ _ [(0, fPtr tUsage_text_R (⟨a0.ScopeProg, h0_0, a0.sizes, h0_1⟩ : Usage_text_R)), (1, fInt .i64 a1), (3, fEq (.pointer (some ⟨b1, 0, none⟩))), (5, fEq (.pointer (some ⟨b2, 0, none⟩))), (79, fPtr tUsage_text_R (⟨a0.ScopeProg, h0_0, a0.sizes, h0_1⟩ : Usage_text_R)), (80, fInt .i64 a1), (81, fClo 90 [fPtr (tPtr tUsage_textP) y7.1, fPtr (tInt .i64) y7.2])] ([tMark rb1] ++ [tBlk b2 108 [fMap kInt (fun y => fSt tUsage_channel y) x1], tBlk b3 56 [fInt .i64 y2.Op, fInt .i64 y2.N, fSl tScopeExp y2.Args, fSl (tInt .i64) y2.Kids], tBlk b1 71 [fPtr tUsage_text_R (⟨a0.ScopeProg, h0_0, a0.sizes, h0_1⟩ : Usage_text_R)], tRow h0_0 108 (tMapD kInt (fun y => fSt tUsage_channel y)) x14, tRow h0_1 3 (tInt .i64) x15]) _
    dsimp only [List.append, List.cons_append, List.nil_append]
    refine T_in_n ?_
    cases H
    refine T_pick [0, 4, 5] (by decide) ?_
    exact T_outM0 [rb1] (.inr rfl) rfl rfl rfl
def usage_read_S (fuel : Nat) (a0 : ScopeProg) : Option (Usage_text) :=
 (mk GMap.none (a0.Nodes.length : Int)).bind fun y1 =>
 (mk 0 (a0.Defs.length : Int)).bind fun y2 =>
 (scope_Sizes_S fuel (⟨a0.Free, a0.Nodes, a0.Defs, a0.Main⟩ : ScopeProg)).bind fun y3 =>
 (usage_text_fill_S fuel ({ (⟨(⟨a0.Free, a0.Nodes, a0.Defs, a0.Main⟩ : ScopeProg), y1, y3.1, y2⟩ : Usage_text) with denotes := y1, heads := y2 }) a0.Main (GMap.none : GMap Int Usage_channel)).bind fun y4 =>
 some (⟨(⟨((⟨(⟨a0.Free, a0.Nodes, a0.Defs, a0.Main⟩ : ScopeProg), y1, y3.1, y2⟩ : Usage_text).ScopeProg).Free, ((⟨(⟨a0.Free, a0.Nodes, a0.Defs, a0.Main⟩ : ScopeProg), y1, y3.1, y2⟩ : Usage_text).ScopeProg).Nodes, ((⟨(⟨a0.Free, a0.Nodes, a0.Defs, a0.Main⟩ : ScopeProg), y1, y3.1, y2⟩ : Usage_text).ScopeProg).Defs, ((⟨(⟨a0.Free, a0.Nodes, a0.Defs, a0.Main⟩ : ScopeProg), y1, y3.1, y2⟩ : Usage_text).ScopeProg).Main⟩ : ScopeProg), y4.1, (⟨(⟨a0.Free, a0.Nodes, a0.Defs, a0.Main⟩ : ScopeProg), y1, y3.1, y2⟩ : Usage_text).sizes, y4.2⟩ : Usage_text)
theorem usage_read_w (fuel : Nat)  (a0 : ScopeProg) (r : Usage_text) (H : usage_read_S fuel a0 = some r) : FnS Try.prog 22 [fSt tScopeProg a0] [] (fPtr tUsage_text r) (fun _ => []) := by
 unfold usage_read_S at H
 refine FnS_of Try.func22 rfl Try.ntmps22 rfl (fun β => ?_)
 refine Sr ?_
 refine T_new trivial rfl rfl (n_box rfl (has rfl) part_agg) (fun b1 => ?_)
 refine Ya ?_
 refine Nn ?_
 refine T_seq ?_
 revert H; refine bs fun y1 h1 H => ?_
 revert H; refine bs fun y2 h2 H => ?_
 refine T_net 12 [fun _ => .op [0] false (fun _ => fAgg [fSl tStr a0.Free, fSl tScopeNode a0.Nodes, fSl tScopeDef a0.Defs, fInt .i64 a0.Main]) (fun _ => [tEmp]), fun _ => .op [] false (fun _ => fEq (.pointer (some ⟨b1, 1, none⟩))) (fun _ => []), fun _ => .op [0] false (fun _ => fSl tScopeNode a0.Nodes) (fun _ => [tEmp]), fun _ => .op [] false (fun _ => fInt .i64 (a0.Nodes.length : Int)) (fun _ => []), fun _ => .op [1] true (fun c => fEq (.slice (some ⟨c.n, 0, none⟩) y1.length y1.length)) (fun c => [tRow (.slice (some ⟨c.n, 0, none⟩) y1.length y1.length) 108 (tMapD kInt (fun y => fSt tUsage_channel y)) y1]), fun _ => .op [] false (fun _ => fEq (.pointer (some ⟨b1, 2, none⟩))) (fun _ => []), fun _ => .op [0] false (fun _ => fSl tScopeDef a0.Defs) (fun _ => [tEmp]), fun _ => .op [] false (fun _ => fInt .i64 (a0.Defs.length : Int)) (fun _ => []), fun _ => .op [2] true (fun c => fEq (.slice (some ⟨c.n, 0, none⟩) y2.length y2.length)) (fun c => [tRow (.slice (some ⟨c.n, 0, none⟩) y2.length y2.length) 3 (tInt .i64) y2]), fun e => .op [] false (fun _ => fAgg [fSl tStr a0.Free, fSl tScopeNode a0.Nodes, fSl tScopeDef a0.Defs, fInt .i64 a0.Main, fEq (.slice (some ⟨(e 4).n, 0, none⟩) y1.length y1.length), fEq (.slice none 0 0), fEq (.slice (some ⟨(e 8).n, 0, none⟩) y2.length y2.length)]) (fun _ => []), fun e => .op [3] true (fun c => fEq (ptr c.n)) (fun c => [tBlk c.n 79 [fSl tStr a0.Free, fSl tScopeNode a0.Nodes, fSl tScopeDef a0.Defs, fInt .i64 a0.Main, fEq (.slice (some ⟨(e 4).n, 0, none⟩) y1.length y1.length), fEq (.slice none 0 0), fEq (.slice (some ⟨(e 8).n, 0, none⟩) y2.length y2.length)]]), fun e => .op [] false (fun _ => fEq (.pointer (some ⟨(e 10).n, 0, none⟩))) (fun _ => [])] [([0], false, []), ([], false, []), ([0], false, []), ([], false, []), ([1], true, []), ([], false, []), ([0], false, []), ([], false, []), ([2], true, []), ([], false, [4, 8]), ([3], true, [4, 8]), ([], false, [10])] 3 4 mixed (F0 (F0 (F0 (F0 (F0 (F0 (F0 (F0 (F0 (FitsL.cons (fits2 (i := 4) (k := 8) (od := fun c4 c8 => .op [] false (fun _ => fAgg [fSl tStr a0.Free, fSl tScopeNode a0.Nodes, fSl tScopeDef a0.Defs, fInt .i64 a0.Main, fEq (.slice (some ⟨c4.n, 0, none⟩) y1.length y1.length), fEq (.slice none 0 0), fEq (.slice (some ⟨c8.n, 0, none⟩) y2.length y2.length)]) (fun _ => [])) (fun _ _ => ⟨rfl, rfl⟩)) (FitsL.cons (fits2 (i := 4) (k := 8) (od := fun c4 c8 => .op [3] true (fun c => fEq (ptr c.n)) (fun c => [tBlk c.n 79 [fSl tStr a0.Free, fSl tScopeNode a0.Nodes, fSl tScopeDef a0.Defs, fInt .i64 a0.Main, fEq (.slice (some ⟨c4.n, 0, none⟩) y1.length y1.length), fEq (.slice none 0 0), fEq (.slice (some ⟨c8.n, 0, none⟩) y2.length y2.length)]])) (fun _ _ => ⟨rfl, rfl⟩)) (FitsL.cons (fits1 (i := 10) (od := fun c10 => .op [] false (fun _ => fEq (.pointer (some ⟨c10.n, 0, none⟩))) (fun _ => [])) (fun _ => ⟨rfl, rfl⟩)) FitsL.nil)))))))))))) (by kernel_rfl) rfl rfl (by kernel_rfl) rfl ?_
 dsimp only [netL, List.take, List.replicate, List.append, List.drop]
 refine N_op (ps := [0]) (φ := fAgg [fSl tStr a0.Free, fSl tScopeNode a0.Nodes, fSl tScopeDef a0.Defs, fInt .i64 a0.Main]) rfl (fun _ => rfl) trivial rfl rfl (o_loadBS rfl (has rfl) ty_ag_26 rfl rfl) (fun _ => ?_)
 refine N_y (φ := fEq (.pointer (some ⟨b1, 1, none⟩))) rfl (fun _ => rfl) trivial rfl (o_fieldB 1 rfl (has rfl) ty_fa_26_1 rfl) (fun _ => ?_)
 refine N_op (ps := [0]) (φ := fSl tScopeNode a0.Nodes) rfl (fun _ => rfl) trivial rfl rfl (o_loadB rfl (has rfl) ty_sc_23 rfl Ent.rfl) (fun _ => ?_)
 refine My (h := o_len rfl hh ty_us_23) (k := fun _ => ?_)
 refine N_new (p := 1) (f := fun b2 => .slice (some ⟨b2, 0, none⟩) y1.length y1.length) (τ := fun b2 => tRow (.slice (some ⟨b2, 0, none⟩) y1.length y1.length) 108 (tMapD kInt (fun y => fSt tUsage_channel y)) y1) rfl (fun _ => rfl) (fun _ => rfl) trivial rfl rfl (n_makeE (t := (tMapD kInt (fun y => fSt tUsage_channel y))) (z := GMap.none) rfl (has rfl) ty_et_77 rfl ty_ze_108 (EntL.cons ent_nilMap EntL.nil) h1) (fun b2 u1 => ?_)
 refine N_y (φ := fEq (.pointer (some ⟨b1, 2, none⟩))) rfl (fun _ => rfl) trivial rfl (o_fieldB 2 rfl (has rfl) ty_fa_26_2 rfl) (fun _ => ?_)
 refine N_op (ps := [0]) (φ := fSl tScopeDef a0.Defs) rfl (fun _ => rfl) trivial rfl rfl (o_loadB rfl (has rfl) ty_sc_24 rfl Ent.rfl) (fun _ => ?_)
 refine My (h := o_len rfl hh ty_us_24) (k := fun _ => ?_)
 refine N_new (p := 2) (f := fun b3 => .slice (some ⟨b3, 0, none⟩) y2.length y2.length) (τ := fun b3 => tRow (.slice (some ⟨b3, 0, none⟩) y2.length y2.length) 3 (tInt .i64) y2) rfl (fun _ => rfl) (fun _ => rfl) trivial rfl rfl (n_make (t := (tInt .i64)) (z := 0) rfl (has rfl) ty_et_46 rfl ty_ze_3 rfl h2) (fun b3 u2 => ?_)
 refine N_y (φ := fAgg [fSl tStr a0.Free, fSl tScopeNode a0.Nodes, fSl tScopeDef a0.Defs, fInt .i64 a0.Main, fEq (.slice (some ⟨b2, 0, none⟩) y1.length y1.length), fEq (.slice none 0 0), fEq (.slice (some ⟨b3, 0, none⟩) y2.length y2.length)]) rfl (fun _ => rfl) trivial rfl (o_build (ψs := [fSl tStr a0.Free, fSl tScopeNode a0.Nodes, fSl tScopeDef a0.Defs, fInt .i64 a0.Main, fEq (.slice (some ⟨b2, 0, none⟩) y1.length y1.length), fEq (.slice none 0 0), fEq (.slice (some ⟨b3, 0, none⟩) y2.length y2.length)]) rfl ty_bu_79 rfl (Parts.cons (has rfl) part_agg (Parts.cons (has rfl) (part_leaf (leaf_eq trivial)) (Parts.cons (has rfl) (part_leaf (leaf_eq trivial)) Parts.nil))) rfl) (fun _ => ?_)
 refine N_new (p := 3) (f := fun b4 => ptr b4) (τ := fun b4 => tBlk b4 79 [fSl tStr a0.Free, fSl tScopeNode a0.Nodes, fSl tScopeDef a0.Defs, fInt .i64 a0.Main, fEq (.slice (some ⟨b2, 0, none⟩) y1.length y1.length), fEq (.slice none 0 0), fEq (.slice (some ⟨b3, 0, none⟩) y2.length y2.length)]) rfl (fun _ => rfl) (fun _ => rfl) trivial rfl rfl (n_box rfl (has rfl) part_agg) (fun b4 u3 => ?_)
 refine N_y (φ := fEq (.pointer (some ⟨b4, 0, none⟩))) rfl (fun _ => rfl) trivial rfl (o_assign rfl (has rfl)) (fun _ => ?_)
 refine N_done rfl ?_
 generalize hv_v1 : (Value.slice (some ⟨b2, 0, none⟩) _ _) = v1; clear hv_v1
 refine T_rowCell 1 rfl (fun hc_v1 => ?_)
 generalize hv_v2 : (Value.slice (some ⟨b3, 0, none⟩) _ _) = v2; clear hv_v2
 refine T_rowCell 2 rfl (fun hc_v2 => ?_)
 refine Nn ?_
 refine Sr ?_
 refine Ym ?_
 refine Yo 0 rfl (o_loadBS rfl hh ty_ag_26 rfl rfl) ?_
 revert H; refine bs fun y3 h3 H => ?_
 refine T_call trivial rfl rfl rfl (has rfl) (HasL.cons (has rfl) HasL.nil) rfl ty_cb_51 (scope_Sizes_w fuel (⟨a0.Free, a0.Nodes, a0.Defs, a0.Main⟩ : ScopeProg) y3 h3) rfl ?_
 refine Ym ?_
 refine Yy (o_extract rfl hh rfl) ?_
 refine Yy (o_extract rfl hh rfl) ?_
 refine Yy (o_nilCheck rfl (has rfl) (fun m v h => ⟨_, h⟩)) ?_
 refine Yy (o_fieldB 5 rfl hh ty_fa_79_2 rfl) ?_
 refine T_fr3 ?_
 refine T_store (φs' := [fSl tStr a0.Free, fSl tScopeNode a0.Nodes, fSl tScopeDef a0.Defs, fInt .i64 a0.Main, fEq v1, fSl (tInt .i64) y3.1, fEq v2]) trivial rfl rfl (has rfl) (has rfl) (leaf_sl) ty_sz_46 rfl rfl ?_
 refine Nn ?_
 refine Sr ?_
 refine Ym ?_
 refine Yy (o_fieldB 3 rfl hh ty_fa_26_3 rfl) ?_
 refine Yo 1 rfl (o_loadB rfl hh ty_sc_3 rfl Ent.rfl) ?_
 refine T_new trivial rfl rfl (n_makeMap (fun y => fSt tUsage_channel y) kInt rfl) (fun b5 => ?_)
 refine T_fr1 ?_
 refine T_freeze (φ := fPtr tUsage_text_R (⟨(⟨a0.Free, a0.Nodes, a0.Defs, a0.Main⟩ : ScopeProg), v1, y3.1, v2⟩ : Usage_text_R)) (v := ptr b4) [14, 3, 16, 21, 23] (frz_blk (EntL.cons Ent.rfl (EntL.cons Ent.rfl (EntL.cons Ent.rfl (EntL.cons Ent.rfl (EntL.cons (ent_rawOf hc_v1) (EntL.cons Ent.rfl (EntL.cons (ent_rawOf hc_v2) EntL.nil)))))))) (by intro s hs; simp only [List.mem_cons, List.not_mem_nil, or_false] at hs; rcases hs with rfl | rfl | rfl | rfl | rfl <;> rfl) ?_
 refine T_dropT ?_
 refine T_freeze (φ := fMap kInt (fun y => fSt tUsage_channel y) (GMap.none : GMap Int Usage_channel)) (v := .map (some b5)) [26] frz_map (by intro s hs; simp only [List.mem_cons, List.not_mem_nil, or_false] at hs; rcases hs with rfl <;> rfl) ?_
 refine T_dropT ?_
 refine T_fr2 ?_
 refine T_fr2 ?_
 revert H; refine bs fun y4 h4 H => ?_
 refine T_call trivial rfl rfl rfl (has rfl) (HasL.cons (has rfl) (HasL.cons (has rfl) (HasL.cons (has rfl) HasL.nil))) rfl ty_cb_52 (usage_text_fill_w fuel v1 v2 ({ (⟨(⟨a0.Free, a0.Nodes, a0.Defs, a0.Main⟩ : ScopeProg), y1, y3.1, y2⟩ : Usage_text) with denotes := y1, heads := y2 }) a0.Main (GMap.none : GMap Int Usage_channel) y4 h4) rfl ?_
 refine Nn ?_
 refine Sr ?_
 refine Ym ?_
 refine Ya ?_
 refine Nn ?_
 refine T_retc ?_
 refine T_freeze (φ := fSl (tMapD kInt (fun y => fSt tUsage_channel y)) y4.1) (v := v1) [8] frz_row (by intro s hs; simp only [List.mem_cons, List.not_mem_nil, or_false] at hs; rcases hs with rfl <;> rfl) ?_
 refine T_slotPtrPure 2 (i := 4) (φs := [fSl tStr (((⟨(⟨a0.Free, a0.Nodes, a0.Defs, a0.Main⟩ : ScopeProg), y1, y3.1, y2⟩ : Usage_text).ScopeProg).Free), fSl tScopeNode (((⟨(⟨a0.Free, a0.Nodes, a0.Defs, a0.Main⟩ : ScopeProg), y1, y3.1, y2⟩ : Usage_text).ScopeProg).Nodes), fSl tScopeDef (((⟨(⟨a0.Free, a0.Nodes, a0.Defs, a0.Main⟩ : ScopeProg), y1, y3.1, y2⟩ : Usage_text).ScopeProg).Defs), fInt .i64 (((⟨(⟨a0.Free, a0.Nodes, a0.Defs, a0.Main⟩ : ScopeProg), y1, y3.1, y2⟩ : Usage_text).ScopeProg).Main), fRaw v1, fSl (tInt .i64) ((⟨(⟨a0.Free, a0.Nodes, a0.Defs, a0.Main⟩ : ScopeProg), y1, y3.1, y2⟩ : Usage_text).sizes), fRaw v2]) (φs' := [fSl tStr (((⟨(⟨a0.Free, a0.Nodes, a0.Defs, a0.Main⟩ : ScopeProg), y1, y3.1, y2⟩ : Usage_text).ScopeProg).Free), fSl tScopeNode (((⟨(⟨a0.Free, a0.Nodes, a0.Defs, a0.Main⟩ : ScopeProg), y1, y3.1, y2⟩ : Usage_text).ScopeProg).Nodes), fSl tScopeDef (((⟨(⟨a0.Free, a0.Nodes, a0.Defs, a0.Main⟩ : ScopeProg), y1, y3.1, y2⟩ : Usage_text).ScopeProg).Defs), fInt .i64 (((⟨(⟨a0.Free, a0.Nodes, a0.Defs, a0.Main⟩ : ScopeProg), y1, y3.1, y2⟩ : Usage_text).ScopeProg).Main), fSl (tMapD kInt (fun y => fSt tUsage_channel y)) y4.1, fSl (tInt .i64) ((⟨(⟨a0.Free, a0.Nodes, a0.Defs, a0.Main⟩ : ScopeProg), y1, y3.1, y2⟩ : Usage_text).sizes), fRaw v2]) rfl rfl rfl ?_
 refine T_dropT ?_
 refine T_freeze (φ := fSl (tInt .i64) y4.2) (v := v2) [12] frz_row (by intro s hs; simp only [List.mem_cons, List.not_mem_nil, or_false] at hs; rcases hs with rfl <;> rfl) ?_
 refine T_slotPtrPure 2 (i := 6) (φs := [fSl tStr (((⟨(⟨a0.Free, a0.Nodes, a0.Defs, a0.Main⟩ : ScopeProg), y1, y3.1, y2⟩ : Usage_text).ScopeProg).Free), fSl tScopeNode (((⟨(⟨a0.Free, a0.Nodes, a0.Defs, a0.Main⟩ : ScopeProg), y1, y3.1, y2⟩ : Usage_text).ScopeProg).Nodes), fSl tScopeDef (((⟨(⟨a0.Free, a0.Nodes, a0.Defs, a0.Main⟩ : ScopeProg), y1, y3.1, y2⟩ : Usage_text).ScopeProg).Defs), fInt .i64 (((⟨(⟨a0.Free, a0.Nodes, a0.Defs, a0.Main⟩ : ScopeProg), y1, y3.1, y2⟩ : Usage_text).ScopeProg).Main), fSl (tMapD kInt (fun y => fSt tUsage_channel y)) y4.1, fSl (tInt .i64) ((⟨(⟨a0.Free, a0.Nodes, a0.Defs, a0.Main⟩ : ScopeProg), y1, y3.1, y2⟩ : Usage_text).sizes), fRaw v2]) (φs' := [fSl tStr (((⟨(⟨a0.Free, a0.Nodes, a0.Defs, a0.Main⟩ : ScopeProg), y1, y3.1, y2⟩ : Usage_text).ScopeProg).Free), fSl tScopeNode (((⟨(⟨a0.Free, a0.Nodes, a0.Defs, a0.Main⟩ : ScopeProg), y1, y3.1, y2⟩ : Usage_text).ScopeProg).Nodes), fSl tScopeDef (((⟨(⟨a0.Free, a0.Nodes, a0.Defs, a0.Main⟩ : ScopeProg), y1, y3.1, y2⟩ : Usage_text).ScopeProg).Defs), fInt .i64 (((⟨(⟨a0.Free, a0.Nodes, a0.Defs, a0.Main⟩ : ScopeProg), y1, y3.1, y2⟩ : Usage_text).ScopeProg).Main), fSl (tMapD kInt (fun y => fSt tUsage_channel y)) y4.1, fSl (tInt .i64) ((⟨(⟨a0.Free, a0.Nodes, a0.Defs, a0.Main⟩ : ScopeProg), y1, y3.1, y2⟩ : Usage_text).sizes), fSl (tInt .i64) y4.2]) rfl rfl rfl ?_
 refine T_dropT ?_
 cases H
 refine T_pick [] (by decide) ?_
 exact T_out1 rfl (hasS rfl) rfl
def math_bits_Mul64_S (a0 : Int) (a1 : Int) : Option (Int × Int) :=
 (shrI .u64 a0 32).bind fun z1 =>
 (shrI .u64 a1 32).bind fun z2 =>
 (shrI .u64 (IntKind.wrap .u64 ((andI .u64 a0 4294967295) * (andI .u64 a1 4294967295))) 32).bind fun z3 =>
 (shrI .u64 (IntKind.wrap .u64 ((IntKind.wrap .u64 (z1 * (andI .u64 a1 4294967295))) + z3)) 32).bind fun z4 =>
 (shrI .u64 (IntKind.wrap .u64 ((andI .u64 (IntKind.wrap .u64 ((IntKind.wrap .u64 (z1 * (andI .u64 a1 4294967295))) + z3)) 4294967295) + (IntKind.wrap .u64 ((andI .u64 a0 4294967295) * z2)))) 32).bind fun z5 =>
 some (IntKind.wrap .u64 ((IntKind.wrap .u64 ((IntKind.wrap .u64 (z1 * z2)) + z4)) + z5), IntKind.wrap .u64 (a0 * a1))
theorem math_bits_Mul64_w  (a0 : Int) (a1 : Int) (r : Int × Int) (H : math_bits_Mul64_S a0 a1 = some r) : FnS Try.prog 92 [fInt .u64 a0, fInt .u64 a1] [] (fTup [fInt .u64 r.1, fInt .u64 r.2]) (fun _ => []) := by
 unfold math_bits_Mul64_S at H
 refine FnS_of Try.func92 rfl Try.ntmps92 rfl (fun β => ?_)
 refine Sr ?_
 refine Ya ?_
 refine Ya ?_
 refine Nn ?_
 refine Sr ?_
 refine Ym ?_
 refine Yy (o_and rfl hh hh) ?_
 refine Ya ?_
 refine Nn ?_
 refine Sr ?_
 refine Ym ?_
 revert H; refine bs fun z1 h1 H => ?_
 refine Yy (o_shr rfl hh hh h1) ?_
 refine Ya ?_
 refine Nn ?_
 refine Sr ?_
 refine Ym ?_
 refine Yy (o_and rfl hh hh) ?_
 refine Ya ?_
 refine Nn ?_
 refine Sr ?_
 refine Ym ?_
 revert H; refine bs fun z2 h2 H => ?_
 refine Yy (o_shr rfl hh hh h2) ?_
 refine Ya ?_
 refine Nn ?_
 refine Sr ?_
 refine Ym ?_
 refine Ym ?_
 refine Yy (o_mulW rfl hh hh) ?_
 refine Ya ?_
 refine Nn ?_
 refine Sr ?_
 refine Ym ?_
 refine Ym ?_
 refine Yy (o_mulW rfl hh hh) ?_
 refine Ym ?_
 revert H; refine bs fun z3 h3 H => ?_
 refine Yy (o_shr rfl hh hh h3) ?_
 refine Yy (o_addW rfl hh hh) ?_
 refine Ya ?_
 refine Nn ?_
 refine Sr ?_
 refine Ym ?_
 refine Yy (o_and rfl hh hh) ?_
 refine Ya ?_
 refine Nn ?_
 refine Sr ?_
 refine Ym ?_
 revert H; refine bs fun z4 h4 H => ?_
 refine Yy (o_shr rfl hh hh h4) ?_
 refine Ya ?_
 refine Nn ?_
 refine Sr ?_
 refine Ym ?_
 refine Ym ?_
 refine Ym ?_
 refine Yy (o_mulW rfl hh hh) ?_
 refine Yy (o_addW rfl hh hh) ?_
 refine Ya ?_
 refine Nn ?_
 refine Sr ?_
 refine Ym ?_
 refine Ym ?_
 refine Yy (o_mulW rfl hh hh) ?_
 refine Ym ?_
 refine Yy (o_addW rfl hh hh) ?_
 refine Ym ?_
 revert H; refine bs fun z5 h5 H => ?_
 refine Yy (o_shr rfl hh hh h5) ?_
 refine Yy (o_addW rfl hh hh) ?_
 refine Ya ?_
 refine Nn ?_
 refine Sr ?_
 refine Ym ?_
 refine Ym ?_
 refine Yy (o_mulW rfl hh hh) ?_
 refine Ya ?_
 refine Nn ?_
 refine T_retc ?_
 cases H
 exact T_out2 rfl (hasS rfl) (hasS rfl) rfl
def math_bits_Mul_S (a0 : Int) (a1 : Int) : Option (Int × Int) :=
 (math_bits_Mul64_S a0 a1).bind fun y1 =>
 some (y1.1, y1.2)
theorem math_bits_Mul_w  (a0 : Int) (a1 : Int) (r : Int × Int) (H : math_bits_Mul_S a0 a1 = some r) : FnS Try.prog 77 [fInt .u64 a0, fInt .u64 a1] [] (fTup [fInt .u64 r.1, fInt .u64 r.2]) (fun _ => []) := by
 unfold math_bits_Mul_S at H
 refine FnS_of Try.func77 rfl Try.ntmps77 rfl (fun β => ?_)
 refine Sr ?_
 refine Ya ?_
 refine Ya ?_
 refine Nn ?_
 refine T_seq ?_
 refine T_cond_f (has rfl) rfl ?_
 refine T_skip ?_
 refine T_then_n ?_
 refine Sr ?_
 refine Ym ?_
 refine Ym ?_
 revert H; refine bs fun y1 h1 H => ?_
 refine T_call trivial rfl rfl rfl (has rfl) (HasL.cons (has rfl) (HasL.cons (has rfl) HasL.nil)) rfl ty_cb_92 (math_bits_Mul64_w a0 a1 y1 h1) rfl ?_
 refine Ym ?_
 refine Yy (o_extract rfl hh rfl) ?_
 refine Yy (o_extract rfl hh rfl) ?_
 refine Ya ?_
 refine Ya ?_
 refine Nn ?_
 refine Sr ?_
 refine Ym ?_
 refine Ym ?_
 refine Ya ?_
 refine Ya ?_
 refine Nn ?_
 refine T_retc ?_
 cases H
 exact T_out2 rfl (hasS rfl) (hasS rfl) rfl
def slices_Repeat_LUsageKind_UsageKind_l1  : Nat → (List Int) → Int → Option (List Int)
| 0, _, _ => none
| k + 1, x4, x5 =>
 if x5 < (x4.length : Int) then
  (slc x4 x5 (x4.length : Int)).bind fun y3 =>
  (slc x4 0 x5).bind fun y4 =>
  (chk (x5 + ((min (Int.toNat x5 - Int.toNat 0) (Int.toNat (x4.length : Int) - Int.toNat x5) : Nat) : Int))).bind fun z1 =>
  slices_Repeat_LUsageKind_UsageKind_l1 k (cpy x4 (List.drop (Int.toNat 0) x4) (Int.toNat x5) (min (Int.toNat x5 - Int.toNat 0) (Int.toNat (x4.length : Int) - Int.toNat x5))) z1
 else
  some x4
def slices_Repeat_LUsageKind_UsageKind_S (fuel : Nat) (a0 : List Int) (a1 : Int) : Option (List Int) :=
 if a1 < 0 then
  none
 else
  (math_bits_Mul_S (IntKind.wrap .u64 (a0.length : Int)) (IntKind.wrap .u64 a1)).bind fun y1 =>
  if 0 < y1.1 then
   none
  else
   if 9223372036854775807 < y1.2 then
    none
   else
    (mk 0 (IntKind.wrap .i64 y1.2)).bind fun y2 =>
    (slices_Repeat_LUsageKind_UsageKind_l1 fuel (cpy y2 a0 0 (min a0.length y2.length)) ((min a0.length y2.length : Nat) : Int)).bind fun x1 =>
    some x1
theorem slices_Repeat_LUsageKind_UsageKind_w (fuel : Nat)  (a0 : List Int) (a1 : Int) (r : List Int) (H : slices_Repeat_LUsageKind_UsageKind_S fuel a0 a1 = some r) : FnS Try.prog 53 [fSl (tInt .i64) a0, fInt .i64 a1] [] fAny (fun v => [(fun v => tRow v 41 (tInt .i64) r) v]) := by
 unfold slices_Repeat_LUsageKind_UsageKind_S at H
 refine FnS_of Try.func53 rfl Try.ntmps53 rfl (fun β => ?_)
 refine Sr ?_
 refine Ya ?_
 refine Nn ?_
 refine T_seq ?_
 refine Sr ?_
 refine Ym ?_
 refine Yy (o_lss rfl hh hh) ?_
 refine Nn ?_
 revert H; refine is (fun c1 H => ?_) fun c1 H => ?_
 ·
  refine T_cond_t (has rfl) c1 ?_
  refine T_region ?_
  refine Yy (o_mkIface rfl hh ty_ni_9) ?_
  cases H
 ·
  refine T_cond_f (has rfl) c1 ?_
  refine T_skip ?_
  refine T_then_n ?_
  refine Sr ?_
  refine Ym ?_
  refine Yy (o_len rfl hh ty_us_37) ?_
  refine Yy (o_convert rfl hh ty_un_3 ty_un_139) ?_
  refine Ym ?_
  refine Yy (o_convert rfl hh ty_un_3 ty_un_139) ?_
  revert H; refine bs fun y1 h1 H => ?_
  refine T_call trivial rfl rfl rfl (has rfl) (HasL.cons (has rfl) (HasL.cons (has rfl) HasL.nil)) rfl ty_cb_77 (math_bits_Mul_w (IntKind.wrap .u64 (a0.length : Int)) (IntKind.wrap .u64 a1) y1 h1) rfl ?_
  refine Ym ?_
  refine Yy (o_extract rfl hh rfl) ?_
  refine Yy (o_extract rfl hh rfl) ?_
  refine Ya ?_
  refine Ya ?_
  refine Nn ?_
  refine T_seq ?_
  refine Sr ?_
  refine Ym ?_
  refine Yy (o_gtr rfl hh hh) ?_
  refine Ym ?_
  revert H; refine is (fun c2 H => ?_) fun c2 H => ?_
  ·
   refine Yt c2 ?_
   refine Yt c2 ?_
   refine Yy (o_pick_t rfl hh c2 hh) ?_
   refine Nn ?_
   refine T_cond_t (has rfl) rfl ?_
   refine T_region ?_
   refine Yy (o_mkIface rfl hh ty_ni_9) ?_
   cases H
  ·
   refine Yg c2 (o_move rfl hh) ?_
   refine Yg c2 (o_gtr rfl hh hh) ?_
   refine Yy (o_pick_f rfl hh c2 hh) ?_
   refine Nn ?_
   revert H; refine is (fun c3 H => ?_) fun c3 H => ?_
   ·
    refine T_cond_t (has rfl) c3 ?_
    refine T_region ?_
    refine Yy (o_mkIface rfl hh ty_ni_9) ?_
    cases H
   ·
    refine T_cond_f (has rfl) c3 ?_
    refine T_skip ?_
    refine T_then_n ?_
    refine Sr ?_
    refine Ym ?_
    refine Yy (o_convert rfl hh ty_un_139 ty_un_3) ?_
    revert H; refine bs fun y2 h2 H => ?_
    refine T_new trivial rfl rfl (n_make (t := (tInt .i64)) (z := 0) rfl (has rfl) ty_et_37 rfl ty_ze_41 rfl h2) (fun b1 => ?_)
    generalize hv_v1 : (Value.slice (some ⟨b1, 0, none⟩) _ _) = v1; clear hv_v1
    refine T_rowCell 0 rfl (fun hc_v1 => ?_)
    refine Ya ?_
    refine Nn ?_
    refine Sr ?_
    refine Ym ?_
    refine Ym ?_
    refine T_copyF (ys := a0) trivial rfl rfl rfl (has rfl) (has rfl) ty_et_37 ?_
    refine Ya ?_
    refine Nn ?_
    revert H; refine bs fun o1 H Hr1 => ?_
    refine T_seqJ (ι := List Int) (fun i => o1 = i) (fun i => [(7, fEq v1)]) (fun i => [tRow v1 41 (tInt .i64) i]) ?_ ?_
    ·
     refine T_block ?_
     refine T_loop (ι := Nat × List Int × Int) (fun i => slices_Repeat_LUsageKind_UsageKind_l1 i.1 i.2.1 i.2.2 = _) (fun i => i.1) (fun i => [(7, fEq v1), (8, fInt .i64 i.2.2)]) (fun i => [tRow v1 41 (tInt .i64) i.2.1]) (fuel, cpy y2 a0 0 (min a0.length y2.length), ((min a0.length y2.length : Nat) : Int)) H (Sc (Sc SubT.nil)) rfl ?_
     clear H; rintro ⟨k1, x4, x5⟩ H
     replace H : slices_Repeat_LUsageKind_UsageKind_l1 k1 x4 x5 = _ := H
     show T β _ _ [(7, fEq v1), (8, fInt .i64 x5)] [tRow v1 41 (tInt .i64) x4] _
     obtain _ | k1 := k1
     ·
      rw [slices_Repeat_LUsageKind_UsageKind_l1] at H; cases H
     rw [slices_Repeat_LUsageKind_UsageKind_l1] at H
     refine T_seq ?_
     refine Sr ?_
     refine Ym ?_
     refine Ym ?_
     refine Yo 0 rfl (o_lenR rfl hh ty_us_37) ?_
     refine Yy (o_lss rfl hh hh) ?_
     refine Nn ?_
     revert H; refine is (fun c4 H => ?_) fun c4 H => ?_
     ·
      refine T_cond_t (has rfl) c4 ?_
      refine T_skip ?_
      refine T_then_n ?_
      refine T_block ?_
      revert H; refine bs fun y3 h3 H => ?_
      revert H; refine bs fun y4 h4 H => ?_
      revert H; refine bs fun z1 h5 H => ?_
      refine T_net 10 [fun _ => .op [] false (fun _ => fInt .i64 x5) (fun _ => []), fun _ => .op [] false (fun _ => fEq v1) (fun _ => []), fun _ => .op [] false (fun _ => fInt .i64 x5) (fun _ => []), fun _ => .op [0] false (fun _ => fRowSub v1 1 (Int.toNat x5) (Int.toNat (x4.length : Int))) (fun _ => [tEmp]), fun _ => .op [] false (fun _ => fEq v1) (fun _ => []), fun _ => .op [] false (fun _ => fInt .i64 x5) (fun _ => []), fun _ => .op [0] false (fun _ => fRowSub v1 1 (Int.toNat 0) (Int.toNat x5)) (fun _ => [tEmp]), fun _ => .op [0] true (fun _ => fInt .i64 ((min (Int.toNat x5 - Int.toNat 0) (Int.toNat (x4.length : Int) - Int.toNat x5) : Nat) : Int)) (fun _ => [tRow v1 41 (tInt .i64) (cpy x4 (List.drop (Int.toNat 0) x4) (Int.toNat x5) (min (Int.toNat x5 - Int.toNat 0) (Int.toNat (x4.length : Int) - Int.toNat x5)))]), fun _ => .op [] false (fun _ => fInt .i64 z1) (fun _ => []), fun _ => .op [] false (fun _ => fInt .i64 z1) (fun _ => [])] [([], false, []), ([], false, []), ([], false, []), ([0], false, []), ([], false, []), ([], false, []), ([0], false, []), ([0], true, []), ([], false, []), ([], false, [])] 0 1 mixed (F0 (F0 (F0 (F0 (F0 (F0 (F0 (F0 (F0 (F0 FitsL.nil)))))))))) (by kernel_rfl) rfl rfl (by kernel_rfl) rfl ?_
      dsimp only [netL, List.take, List.replicate, List.append, List.drop]
      refine My (h := o_move rfl hh) (k := fun _ => ?_)
      refine My (h := o_move rfl hh) (k := fun _ => ?_)
      refine My (h := o_move rfl hh) (k := fun _ => ?_)
      refine N_op (ps := [0]) (φ := fRowSub v1 1 (Int.toNat x5) (Int.toNat (x4.length : Int))) rfl (fun _ => rfl) trivial rfl rfl (o_sliceR (l := x5) (h := (x4.length : Int)) rfl (has rfl) (hasB_some (has rfl)) hasB_none ty_el_37 h3) (fun _ => ?_)
      refine My (h := o_move rfl hh) (k := fun _ => ?_)
      refine My (h := o_move rfl hh) (k := fun _ => ?_)
      refine N_op (ps := [0]) (φ := fRowSub v1 1 (Int.toNat 0) (Int.toNat x5)) rfl (fun _ => rfl) trivial rfl rfl (o_sliceR (l := 0) (h := x5) rfl (has rfl) hasB_none (hasB_some (has rfl)) ty_el_37 h4) (fun _ => ?_)
      refine N_copyR (p := 0) rfl (fun _ => rfl) (fun _ => rfl) trivial rfl rfl rfl rfl (has rfl) (has rfl) ty_et_37 ⟨(slc_bnd h3).1, (slc_bnd h3).2, (slc_bnd h4).1, (slc_bnd h4).2⟩ (fun _ => ?_)
      refine My (h := o_add rfl hh hh h5) (k := fun _ => ?_)
      refine My (h := o_assign rfl hh) (k := fun _ => ?_)
      refine N_done rfl ?_
      refine T_nil ?_
      refine T_in_n ?_
      refine T_then_n ?_
      exact T_meet ((k1, cpy x4 (List.drop (Int.toNat 0) x4) (Int.toNat x5) (min (Int.toNat x5 - Int.toNat 0) (Int.toNat (x4.length : Int) - Int.toNat x5)), z1)) ⟨H, Nat.lt_succ_self _⟩ (Sc (Sc SubT.nil)) rfl
     ·
      refine T_cond_f (has rfl) c4 ?_
      refine T_exit ?_
      refine T_then_exit ?_
      refine T_then_exit ?_
      refine T_in_hit ?_
      refine T_then_n ?_
      exact T_meet (x4) (Option.some.inj H).symm (Sc SubT.nil) rfl
    ·
     clear H; intro x1 hi; subst o1; have H := Hr1; clear Hr1; try dsimp only at H
     show T β _ _ [(7, fEq v1)] [tRow v1 41 (tInt .i64) x1] _
     refine Sr ?_
     refine Ym ?_
     refine Ya ?_
     refine Nn ?_
     refine T_retc ?_
     cases H
     exact T_outO rfl (hasS rfl) (fun _ _ _ => trivial) rfl
def usage_text_none_l2 (fuel : Nat) (y1 : ScopeDef) : Nat → Int → (List (List Int)) → Option (List (List Int))
| 0, _, _ => none
| k + 1, x10, x11 =>
 if x10 < (y1.Chans.length : Int) then
  (idx y1.Chans x10).bind fun y4 =>
  (slices_Repeat_LUsageKind_UsageKind_S fuel [1] y4.Many).bind fun y5 =>
  (room (x11 ++ ([y5] : List (List Int)))).bind fun z1 =>
  (chk (x10 + 1)).bind fun z2 =>
  usage_text_none_l2 fuel y1 k z2 z1
 else
  some x11
def usage_text_none_l1 (fuel : Nat) (a0 : Usage_text) : Nat → (List UsageDef) → Int → Option (List UsageDef)
| 0, _, _ => none
| k + 1, x4, x5 =>
 if x5 < (a0.ScopeProg.Defs.length : Int) then
  ((idx a0.ScopeProg.Defs x5).bind fun y1 =>
  (slices_Repeat_LUsageKind_UsageKind_S fuel [1] (y1.Chans.length : Int)).bind fun y2 =>
  (slices_Repeat_LUsageKind_UsageKind_S fuel [1] (y1.Rules.length : Int)).bind fun y3 =>
  (usage_text_none_l2 fuel y1 fuel 0 []).bind fun x7 =>
  (room (x4 ++ ([(⟨y2, y3, x7⟩ : UsageDef)] : List UsageDef))).bind fun z3 =>
  some z3).bind fun x6 =>
  (chk (x5 + 1)).bind fun z4 =>
  usage_text_none_l1 fuel a0 k x6 z4
 else
  some x4
def usage_text_none_S (fuel : Nat) (a0 : Usage_text) : Option (List UsageDef) :=
 (usage_text_none_l1 fuel a0 fuel [] 0).bind fun x1 =>
 some x1
theorem usage_text_none_w (fuel : Nat)  (a0 : Usage_text) (r : List UsageDef) (H : usage_text_none_S fuel a0 = some r) : FnS Try.prog 23 [fPtr tUsage_text a0] [] fAny (fun v => [(fun v => tRowD v 40 oUsageDef r) v]) := by
 unfold usage_text_none_S at H
 refine FnS_of Try.func23 rfl Try.ntmps23 rfl (fun β => ?_)
 refine Sr ?_
 refine Ya ?_
 refine Nn ?_
 refine Sr ?_
 refine Ya ?_
 refine Nn ?_
 revert H; refine bs fun o1 H Hr1 => ?_
 refine T_seqJ (ι := List UsageDef × Value) (fun i => o1 = i.1) (fun i => [(3, fEq i.2)]) (fun i => [tRowD i.2 40 oUsageDef i.1]) ?_ ?_
 ·
  refine Sr ?_
  refine Ym ?_
  refine Yy (o_nilCheck rfl (has rfl) (fun m v ⟨p, h, _⟩ => ⟨p, h⟩)) ?_
  refine Yy (o_field (t' := tScopeProg) (z := a0.ScopeProg) rfl hh ty_fa_79_0 rfl) ?_
  refine Yy (o_field (t' := (tSl tScopeDef)) (z := a0.ScopeProg.Defs) rfl hh ty_fa_26_2 rfl) ?_
  refine Yy (o_load rfl hh ty_sc_24 rfl) ?_
  refine Yy (o_len rfl hh ty_us_24) ?_
  refine Ym ?_
  refine Nn ?_
  refine T_block ?_
  refine T_nilRowD oUsageDef 40 ?_
  refine T_loop (ι := Nat × List UsageDef × Int × Value) (fun i => usage_text_none_l1 fuel a0 i.1 i.2.1 i.2.2.1 = _) (fun i => i.1) (fun i => [(3, fEq i.2.2.2), (13, fSl tScopeDef a0.ScopeProg.Defs), (14, fInt .i64 (a0.ScopeProg.Defs.length : Int)), (15, fInt .i64 i.2.2.1)]) (fun i => [tRowD i.2.2.2 40 oUsageDef i.2.1]) (fuel, [], 0, (.slice none 0 0)) H (Sc (Sc (Sc (Sc SubT.nil)))) rfl ?_
  clear H; rintro ⟨k1, x4, x5, v3⟩ H
  replace H : usage_text_none_l1 fuel a0 k1 x4 x5 = _ := H
  show T β _ _ [(3, fEq v3), (13, fSl tScopeDef a0.ScopeProg.Defs), (14, fInt .i64 (a0.ScopeProg.Defs.length : Int)), (15, fInt .i64 x5)] [tRowD v3 40 oUsageDef x4] _
  obtain _ | k1 := k1
  ·
   rw [usage_text_none_l1] at H; cases H
  rw [usage_text_none_l1] at H
  refine T_rowCellG 0 rfl (fun hc_v3 => ?_)
  refine Sr ?_
  refine Yy (o_lss rfl hh hh) ?_
  refine Nn ?_
  refine T_seq ?_
  revert H; refine is (fun c1 H => ?_) fun c1 H => ?_
  ·
   refine T_cond_t (has rfl) c1 ?_
   refine T_skip ?_
   refine T_then_n ?_
   revert H; refine bs fun o2 H Hr2 => ?_
   refine T_seqJ (ι := List UsageDef × Value) (fun i => o2 = i.1) (fun i => [(13, fSl tScopeDef a0.ScopeProg.Defs), (14, fInt .i64 (a0.ScopeProg.Defs.length : Int)), (15, fInt .i64 x5), (3, fEq i.2)]) (fun i => [tRowD i.2 40 oUsageDef i.1]) ?_ ?_
   ·
    refine T_block ?_
    refine Sr ?_
    revert H; refine bs fun y1 h1 H => ?_
    refine Yy (o_index rfl hh hh ty_el_24 h1) ?_
    refine Yy (o_loadS rfl hh ty_ag_52) ?_
    refine T_new trivial rfl rfl (n_alloc rfl ty_ze_52 rfl) (fun b1 => ?_)
    refine T_storeS (φs' := [fSl tScopeChan y1.Chans, fSl tScopeSpot y1.Spots, fSl tScopeRule y1.Rules]) trivial rfl rfl (has rfl) (has rfl) (ll_cons (leaf_sl) (ll_cons (leaf_sl) (ll_cons (leaf_sl) ll_nil))) ty_sz_52 rfl rfl rfl ?_
    refine Nn ?_
    refine T_seq ?_
    revert H; refine bs fun y2 h2 H => ?_
    revert H; refine bs fun y3 h3 H => ?_
    refine T_net 13 [fun _ => .op [] true (fun _ => fSl (tInt .i64) [1]) (fun _ => []), fun _ => .op [] false (fun _ => fEq (.pointer (some ⟨b1, 0, none⟩))) (fun _ => []), fun _ => .op [0] false (fun _ => fSl tScopeChan y1.Chans) (fun _ => [tEmp]), fun _ => .op [] false (fun _ => fInt .i64 (y1.Chans.length : Int)) (fun _ => []), fun _ => .op [2] true (fun c => fRaw c.v) (fun c => [tRow c.v 41 (tInt .i64) y2]), fun _ => .op [] true (fun _ => fSl (tInt .i64) [1]) (fun _ => []), fun _ => .op [] false (fun _ => fEq (.pointer (some ⟨b1, 2, none⟩))) (fun _ => []), fun _ => .op [0] false (fun _ => fSl tScopeRule y1.Rules) (fun _ => [tEmp]), fun _ => .op [] false (fun _ => fInt .i64 (y1.Rules.length : Int)) (fun _ => []), fun _ => .op [3] true (fun c => fRaw c.v) (fun c => [tRow c.v 41 (tInt .i64) y3]), fun e => .op [] false (fun _ => fAgg [fRaw (e 4).v, fRaw (e 9).v, fEq (.slice none 0 0)]) (fun _ => []), fun _ => .op [4] true (fun c => fEq (ptr c.n)) (fun c => [tBlk c.n 40 [fEq (.slice none 0 0), fEq (.slice none 0 0), fEq (.slice none 0 0)]]), fun e => .op [4] true (fun _ => fAny) (fun _ => [tBlk (e 11).n 40 [fRaw (e 4).v, fRaw (e 9).v, fEq (.slice none 0 0)]])] [([], true, []), ([], false, []), ([0], false, []), ([], false, []), ([2], true, []), ([], true, []), ([], false, []), ([0], false, []), ([], false, []), ([3], true, []), ([], false, [4, 9]), ([4], true, []), ([4], true, [4, 9, 11])] 3 5 mixed (F0 (F0 (F0 (F0 (F0 (F0 (F0 (F0 (F0 (F0 (FitsL.cons (fits2 (i := 4) (k := 9) (od := fun c4 c9 => .op [] false (fun _ => fAgg [fRaw c4.v, fRaw c9.v, fEq (.slice none 0 0)]) (fun _ => [])) (fun _ _ => ⟨rfl, rfl⟩)) (F0 (FitsL.cons (fits3 (i := 4) (k := 9) (l := 11) (od := fun c4 c9 c11 => .op [4] true (fun _ => fAny) (fun _ => [tBlk c11.n 40 [fRaw c4.v, fRaw c9.v, fEq (.slice none 0 0)]])) (fun _ _ _ => ⟨rfl, rfl⟩)) FitsL.nil))))))))))))) (by kernel_rfl) rfl rfl (by kernel_rfl) rfl ?_
    dsimp only [netL, List.take, List.replicate, List.append, List.drop]
    refine N_newF (φ := fSl (tInt .i64) [1]) rfl (fun _ => rfl) trivial rfl (n_buildSliceC (t := (tInt .i64)) (xs := [1]) rfl ty_et_37 (PartsS.cons rfl (has rfl) (part_leaf (leaf_eq trivial)) PartsS.nil) rfl rfl rfl) (fun b => frz_row) (fun _ => ?_)
    refine N_y (φ := fEq (.pointer (some ⟨b1, 0, none⟩))) rfl (fun _ => rfl) trivial rfl (o_fieldB 0 rfl (has rfl) ty_fa_52_0 rfl) (fun _ => ?_)
    refine N_op (ps := [0]) (φ := fSl tScopeChan y1.Chans) rfl (fun _ => rfl) trivial rfl rfl (o_loadB rfl (has rfl) ty_sc_45 rfl Ent.rfl) (fun _ => ?_)
    refine My (h := o_len rfl hh ty_us_45) (k := fun _ => ?_)
    refine N_callR (p := 2) (τ := fun v => tRow v 41 (tInt .i64) y2) rfl (fun _ => rfl) (fun _ => rfl) trivial rfl rfl rfl (has rfl) (HasL.cons (has rfl) (HasL.cons (has rfl) HasL.nil)) rfl ty_cb_53 (slices_Repeat_LUsageKind_UsageKind_w fuel [1] (y1.Chans.length : Int) y2 h2) (fun _ => row_isCell) (fun u1 v6 => ?_)
    refine N_newF (φ := fSl (tInt .i64) [1]) rfl (fun _ => rfl) trivial rfl (n_buildSliceC (t := (tInt .i64)) (xs := [1]) rfl ty_et_37 (PartsS.cons rfl (has rfl) (part_leaf (leaf_eq trivial)) PartsS.nil) rfl rfl rfl) (fun b => frz_row) (fun _ => ?_)
    refine N_y (φ := fEq (.pointer (some ⟨b1, 2, none⟩))) rfl (fun _ => rfl) trivial rfl (o_fieldB 2 rfl (has rfl) ty_fa_52_2 rfl) (fun _ => ?_)
    refine N_op (ps := [0]) (φ := fSl tScopeRule y1.Rules) rfl (fun _ => rfl) trivial rfl rfl (o_loadB rfl (has rfl) ty_sc_49 rfl Ent.rfl) (fun _ => ?_)
    refine My (h := o_len rfl hh ty_us_49) (k := fun _ => ?_)
    refine N_callR (p := 3) (τ := fun v => tRow v 41 (tInt .i64) y3) rfl (fun _ => rfl) (fun _ => rfl) trivial rfl rfl rfl (has rfl) (HasL.cons (has rfl) (HasL.cons (has rfl) HasL.nil)) rfl ty_cb_53 (slices_Repeat_LUsageKind_UsageKind_w fuel [1] (y1.Rules.length : Int) y3 h3) (fun _ => row_isCell) (fun u2 v8 => ?_)
    refine My (h := o_build (ψs := [fRaw v6, fRaw v8, fEq (.slice none 0 0)]) rfl ty_bu_40 rfl (Parts.cons (has rfl) (part_leaf (leaf_raw)) (Parts.cons (has rfl) (part_leaf (leaf_raw)) Parts.nil)) rfl) (k := fun _ => ?_)
    refine N_new (p := 4) (f := fun b4 => ptr b4) (τ := fun b4 => tBlk b4 40 [fEq (.slice none 0 0), fEq (.slice none 0 0), fEq (.slice none 0 0)]) rfl (fun _ => rfl) (fun _ => rfl) trivial rfl rfl (n_alloc rfl ty_ze_40 rfl) (fun b4 u3 => ?_)
    refine N_storeS (p := 4) (φs' := [fRaw v6, fRaw v8, fEq (.slice none 0 0)]) rfl (fun _ => rfl) (fun _ => rfl) trivial rfl rfl rfl (has rfl) (has rfl) (ll_cons (leaf_raw) (ll_cons (leaf_raw) (ll_cons (leaf_eq trivial) ll_nil))) ty_sz_40 rfl rfl rfl (fun _ => ?_)
    refine N_done rfl ?_
    refine T_slot 23 rfl ent_ofRaw ?_
    refine T_slot 28 rfl ent_ofRaw ?_
    refine T_slot 29 rfl (ent_agg (EntL.cons ent_ofRaw (EntL.cons ent_ofRaw (EntL.cons Ent.rfl EntL.nil)))) ?_
    refine T_rowCell 2 rfl (fun hc_v6 => ?_)
    refine T_rowCell 3 rfl (fun hc_v8 => ?_)
    refine T_fr4 ?_
    refine T_blkE (EntL.cons ent_ofRaw (EntL.cons ent_ofRaw (EntL.cons Ent.rfl EntL.nil))) ?_
    refine Nn ?_
    revert H; refine bs fun o3 H Hr3 => ?_
    refine T_seqJ (ι := List (List Int) × Value) (fun i => o3 = i.1) (fun i => [(3, fEq v3), (13, fSl tScopeDef a0.ScopeProg.Defs), (14, fInt .i64 (a0.ScopeProg.Defs.length : Int)), (15, fInt .i64 x5), (6, fEq (.pointer (some ⟨b4, 0, none⟩)))]) (fun i => [tBlk b4 40 [fEq v6, fEq v8, fEq i.2], tBlk b1 52 [fSl tScopeChan y1.Chans, fSl tScopeSpot y1.Spots, fSl tScopeRule y1.Rules], tRowD v3 40 oUsageDef x4, tRow v6 41 (tInt .i64) y2, tRow v8 41 (tInt .i64) y3, tRowD i.2 37 (oRowT 41 (tInt .i64)) i.1]) ?_ ?_
    ·
     refine Sr ?_
     refine Yy (o_fieldB 0 rfl hh ty_fa_52_0 rfl) ?_
     refine Yo 1 rfl (o_loadB rfl hh ty_sc_45 rfl Ent.rfl) ?_
     refine Yy (o_len rfl hh ty_us_45) ?_
     refine Ym ?_
     refine Nn ?_
     refine T_block ?_
     refine T_nilRowD (oRowT 41 (tInt .i64)) 37 ?_
     refine T_pick [1, 2, 3, 4, 5, 0] (by decide) ?_
     refine T_loop (ι := Nat × Int × List (List Int) × Value) (fun i => usage_text_none_l2 fuel y1 i.1 i.2.1 i.2.2.1 = _) (fun i => i.1) (fun i => [(3, fEq v3), (13, fSl tScopeDef a0.ScopeProg.Defs), (14, fInt .i64 (a0.ScopeProg.Defs.length : Int)), (15, fInt .i64 x5), (6, fEq (.pointer (some ⟨b4, 0, none⟩))), (31, fSl tScopeChan y1.Chans), (32, fInt .i64 (y1.Chans.length : Int)), (33, fInt .i64 i.2.1)]) (fun i => [tBlk b4 40 [fEq v6, fEq v8, fEq i.2.2.2], tBlk b1 52 [fSl tScopeChan y1.Chans, fSl tScopeSpot y1.Spots, fSl tScopeRule y1.Rules], tRowD v3 40 oUsageDef x4, tRow v6 41 (tInt .i64) y2, tRow v8 41 (tInt .i64) y3, tRowD i.2.2.2 37 (oRowT 41 (tInt .i64)) i.2.2.1]) (fuel, 0, [], (.slice none 0 0)) H (Sc (Sc (Sc (Sc (Sc (Sc (Sc (Sc SubT.nil)))))))) rfl ?_
     clear H; rintro ⟨k2, x10, x11, v11⟩ H
     replace H : usage_text_none_l2 fuel y1 k2 x10 x11 = _ := H
     show T β _ _ [(3, fEq v3), (13, fSl tScopeDef a0.ScopeProg.Defs), (14, fInt .i64 (a0.ScopeProg.Defs.length : Int)), (15, fInt .i64 x5), (6, fEq (.pointer (some ⟨b4, 0, none⟩))), (31, fSl tScopeChan y1.Chans), (32, fInt .i64 (y1.Chans.length : Int)), (33, fInt .i64 x10)] [tBlk b4 40 [fEq v6, fEq v8, fEq v11], tBlk b1 52 [fSl tScopeChan y1.Chans, fSl tScopeSpot y1.Spots, fSl tScopeRule y1.Rules], tRowD v3 40 oUsageDef x4, tRow v6 41 (tInt .i64) y2, tRow v8 41 (tInt .i64) y3, tRowD v11 37 (oRowT 41 (tInt .i64)) x11] _
     obtain _ | k2 := k2
     ·
      rw [usage_text_none_l2] at H; cases H
     rw [usage_text_none_l2] at H
     refine T_rowCellG 5 rfl (fun hc_v11 => ?_)
     refine Sr ?_
     refine Yy (o_lss rfl hh hh) ?_
     refine Nn ?_
     refine T_seq ?_
     revert H; refine is (fun c2 H => ?_) fun c2 H => ?_
     ·
      refine T_cond_t (has rfl) c2 ?_
      refine T_skip ?_
      refine T_then_n ?_
      refine T_seq ?_
      refine T_block ?_
      refine Sr ?_
      revert H; refine bs fun y4 h4 H => ?_
      refine Yy (o_index rfl hh hh ty_el_45 h4) ?_
      refine Yy (o_loadS rfl hh ty_ag_44) ?_
      refine T_new trivial rfl rfl (n_alloc rfl ty_ze_44 rfl) (fun b5 => ?_)
      refine T_storeS (φs' := [fInt .i64 y4.At, fInt .i64 y4.Many]) trivial rfl rfl (has rfl) (has rfl) (ll_cons (leaf_eq trivial) (ll_cons (leaf_eq trivial) ll_nil)) ty_sz_44 rfl rfl rfl ?_
      refine Nn ?_
      revert H; refine bs fun y5 h5 H => ?_
      refine T_net 7 [fun _ => .op [] false (fun _ => fEq (.pointer (some ⟨b4, 2, none⟩))) (fun _ => []), fun _ => .op [1] false (fun _ => fEq v11) (fun _ => [tEmp]), fun _ => .op [] true (fun _ => fSl (tInt .i64) [1]) (fun _ => []), fun _ => .op [] false (fun _ => fEq (.pointer (some ⟨b5, 1, none⟩))) (fun _ => []), fun _ => .op [0] false (fun _ => fInt .i64 y4.Many) (fun _ => [tEmp]), fun _ => .op [7] true (fun c => fRaw c.v) (fun c => [tRow c.v 41 (tInt .i64) y5]), fun e => .op [8] true (fun c => fEq (.slice (some ⟨c.n, 0, none⟩) 1 1)) (fun c => [tRow (.slice (some ⟨c.n, 0, none⟩) 1 1) 37 (tF 1) [[⟨fRaw (e 5).v, leaf_raw⟩]]])] [([], false, []), ([1], false, []), ([], true, []), ([], false, []), ([0], false, []), ([7], true, []), ([8], true, [5])] 2 9 mixed (F0 (F0 (F0 (F0 (F0 (F0 (FitsL.cons (fits1 (i := 5) (od := fun c5 => .op [8] true (fun c => fEq (.slice (some ⟨c.n, 0, none⟩) 1 1)) (fun c => [tRow (.slice (some ⟨c.n, 0, none⟩) 1 1) 37 (tF 1) [[⟨fRaw c5.v, leaf_raw⟩]]])) (fun _ => ⟨rfl, rfl⟩)) FitsL.nil))))))) (by kernel_rfl) rfl rfl (by kernel_rfl) rfl ?_
      dsimp only [netL, List.take, List.replicate, List.append, List.drop]
      refine N_y (φ := fEq (.pointer (some ⟨b4, 2, none⟩))) rfl (fun _ => rfl) trivial rfl (o_fieldB 2 rfl (has rfl) ty_fa_40_2 rfl) (fun _ => ?_)
      refine N_op (ps := [1]) (φ := fEq v11) rfl (fun _ => rfl) trivial rfl rfl (o_loadB rfl (has rfl) ty_sc_38 rfl Ent.rfl) (fun _ => ?_)
      refine N_newF (φ := fSl (tInt .i64) [1]) rfl (fun _ => rfl) trivial rfl (n_buildSliceC (t := (tInt .i64)) (xs := [1]) rfl ty_et_37 (PartsS.cons rfl (has rfl) (part_leaf (leaf_eq trivial)) PartsS.nil) rfl rfl rfl) (fun b => frz_row) (fun _ => ?_)
      refine N_y (φ := fEq (.pointer (some ⟨b5, 1, none⟩))) rfl (fun _ => rfl) trivial rfl (o_fieldB 1 rfl (has rfl) ty_fa_44_1 rfl) (fun _ => ?_)
      refine N_op (ps := [0]) (φ := fInt .i64 y4.Many) rfl (fun _ => rfl) trivial rfl rfl (o_loadB rfl (has rfl) ty_sc_3 rfl Ent.rfl) (fun _ => ?_)
      refine N_callR (p := 7) (τ := fun v => tRow v 41 (tInt .i64) y5) rfl (fun _ => rfl) (fun _ => rfl) trivial rfl rfl rfl (has rfl) (HasL.cons (has rfl) (HasL.cons (has rfl) HasL.nil)) rfl ty_cb_53 (slices_Repeat_LUsageKind_UsageKind_w fuel [1] y4.Many y5 h5) (fun _ => row_isCell) (fun u4 v13 => ?_)
      refine N_new (p := 8) (f := fun b7 => .slice (some ⟨b7, 0, none⟩) 1 1) (τ := fun b7 => tRow (.slice (some ⟨b7, 0, none⟩) 1 1) 37 (tF 1) [[⟨fRaw v13, leaf_raw⟩]]) rfl (fun _ => rfl) (fun _ => rfl) trivial rfl rfl (n_buildSliceC (t := tF 1) (xs := [[⟨fRaw v13, leaf_raw⟩]]) rfl ty_et_38 (PartsS.cons rfl (has rfl) (part_leaf (leaf_raw)) PartsS.nil) rfl rfl rfl) (fun b7 u5 => ?_)
      refine N_done rfl ?_
      refine T_slot 42 rfl ent_ofRaw ?_
      refine T_rowCell 7 rfl (fun hc_v13 => ?_)
      generalize hv_v14 : (Value.slice (some ⟨b7, 0, none⟩) 1 1) = v14; clear hv_v14
      refine T_fr8 ?_
      refine T_toG ?_
      refine T_fr8 ?_
      refine T_closeE (p := 0) (f := (fun v => tRow v 41 (tInt .i64) y5)) (hf := (fun _ => row_isCell)) rfl ent_ofRaw ?_
      refine T_asD (o := (oRowT 41 (tInt .i64))) (xs := ([y5] : List (List Int))) rfl rfl rfl ?_
      refine T_rowCellG 0 rfl (fun hc_v14 => ?_)
      revert H; refine bs fun z1 h6 H => ?_
      refine T_fr7 ?_
      refine T_fr1 ?_
      refine T_appendD (q := (oRowT 41 (tInt .i64))) trivial rfl rfl rfl (has rfl) (has rfl) ty_et_38 rfl h6 (fun v15 => ?_)
      refine T_rowCellG 0 rfl (fun hc_v15 => ?_)
      refine Yy (o_fieldB 2 rfl hh ty_fa_40_2 rfl) ?_
      refine T_fr2 ?_
      refine T_store (φs' := [fEq v6, fEq v8, fEq v15]) trivial rfl rfl (has rfl) (has rfl) (leaf_eq hc_v15) ty_sz_38 rfl rfl ?_
      refine T_nil ?_
      refine T_in_n ?_
      refine T_then_n ?_
      refine T_region ?_
      revert H; refine bs fun z2 h7 H => ?_
      refine Yy (o_add rfl hh hh h7) ?_
      refine Ym ?_
      refine Nn ?_
      refine T_pick [0, 3, 4, 5, 6, 1] (by decide) ?_
      exact T_meet ((k2, z2, z1, v15)) ⟨H, Nat.lt_succ_self _⟩ (Sc (Sc (Sc (Sc (Sc (Sc (Sc (Sc SubT.nil)))))))) rfl
     ·
      refine T_cond_f (has rfl) c2 ?_
      refine T_exit ?_
      refine T_then_exit ?_
      refine T_then_exit ?_
      refine T_in_hit ?_
      refine T_then_n ?_
      exact T_meet ((x11, v11)) (Option.some.inj H).symm (Sc (Sc (Sc (Sc (Sc SubT.nil))))) rfl
    ·
     clear H; intro i hi; obtain ⟨x7, v9⟩ := i; subst o3; have H := Hr3; clear Hr3; try dsimp only at H
     show T β _ _ [(3, fEq v3), (13, fSl tScopeDef a0.ScopeProg.Defs), (14, fInt .i64 (a0.ScopeProg.Defs.length : Int)), (15, fInt .i64 x5), (6, fEq (.pointer (some ⟨b4, 0, none⟩)))] [tBlk b4 40 [fEq v6, fEq v8, fEq v9], tBlk b1 52 [fSl tScopeChan y1.Chans, fSl tScopeSpot y1.Spots, fSl tScopeRule y1.Rules], tRowD v3 40 oUsageDef x4, tRow v6 41 (tInt .i64) y2, tRow v8 41 (tInt .i64) y3, tRowD v9 37 (oRowT 41 (tInt .i64)) x7] _
     refine T_rowCellG 5 rfl (fun hc_v9 => ?_)
     refine T_region ?_
     refine Ym ?_
     refine Yo 0 rfl (o_loadBS rfl hh ty_ag_40 rfl rfl) ?_
     refine T_new trivial rfl rfl (n_buildSliceC (t := tF 3) (xs := [[⟨fEq v6, leaf_eq hc_v6⟩, ⟨fEq v8, leaf_eq hc_v8⟩, ⟨fEq v9, leaf_eq hc_v9⟩]]) rfl ty_et_27 (PartsS.cons rfl (has rfl) part_agg PartsS.nil) rfl rfl rfl) (fun b8 => ?_)
     generalize hv_v16 : (Value.slice (some ⟨b8, 0, none⟩) _ _) = v16; clear hv_v16
     refine T_toG ?_
     refine T_fr4 ?_
     refine T_closeE (p := 0) (f := (fun v => tRow v 41 (tInt .i64) y2)) (hf := (fun _ => row_isCell)) rfl Ent.rfl ?_
     refine T_fr4 ?_
     refine T_closeE (p := 1) (f := (fun v => tRow v 41 (tInt .i64) y3)) (hf := (fun _ => row_isCell)) rfl Ent.rfl ?_
     refine T_fr4 ?_
     refine T_closeE (p := 2) (f := (fun v => tRowD v 37 (oRowT 41 (tInt .i64)) x7)) (hf := (fun _ => rowG_cell)) rfl Ent.rfl ?_
     refine T_asD (o := oUsageDef) (xs := ([(⟨y2, y3, x7⟩ : UsageDef)] : List UsageDef)) rfl rfl rfl ?_
     refine T_rowCellG 0 rfl (fun hc_v16 => ?_)
     revert H; refine bs fun z3 h8 H => ?_
     refine T_fr3 ?_
     refine T_fr1 ?_
     refine T_appendD (q := oUsageDef) trivial rfl rfl rfl (has rfl) (has rfl) ty_et_27 rfl h8 (fun v17 => ?_)
     refine T_rowCellG 0 rfl (fun hc_v17 => ?_)
     refine Ya ?_
     refine T_nil ?_
     refine T_in_n ?_
     refine T_then_n ?_
     refine T_pick [0] (by decide) ?_
     exact T_meet ((z3, v17)) (Option.some.inj H).symm (Sc (Sc (Sc (Sc SubT.nil)))) rfl
   ·
    clear H; intro i hi; obtain ⟨x6, v4⟩ := i; subst o2; have H := Hr2; clear Hr2; try dsimp only at H
    show T β _ _ [(13, fSl tScopeDef a0.ScopeProg.Defs), (14, fInt .i64 (a0.ScopeProg.Defs.length : Int)), (15, fInt .i64 x5), (3, fEq v4)] [tRowD v4 40 oUsageDef x6] _
    refine T_rowCellG 0 rfl (fun hc_v4 => ?_)
    refine T_region ?_
    revert H; refine bs fun z4 h9 H => ?_
    refine Yy (o_add rfl hh hh h9) ?_
    refine Ym ?_
    refine Nn ?_
    exact T_meet ((k1, x6, z4, v4)) ⟨H, Nat.lt_succ_self _⟩ (Sc (Sc (Sc (Sc SubT.nil)))) rfl
  ·
   refine T_cond_f (has rfl) c1 ?_
   refine T_exit ?_
   refine T_then_exit ?_
   refine T_then_exit ?_
   refine T_in_hit ?_
   refine T_then_n ?_
   exact T_meet ((x4, v3)) (Option.some.inj H).symm (Sc SubT.nil) rfl
 ·
  clear H; intro i hi; obtain ⟨x1, v1⟩ := i; subst o1; have H := Hr1; clear Hr1; try dsimp only at H
  show T β _ _ [(3, fEq v1)] [tRowD v1 40 oUsageDef x1] _
  refine T_rowCellG 0 rfl (fun hc_v1 => ?_)
  refine Sr ?_
  refine Ym ?_
  refine Ya ?_
  refine Nn ?_
  refine T_retc ?_
  cases H
  exact T_outO rfl (hasS rfl) (fun _ _ _ => trivial) rfl
def usage_text_place_S (a0 : Usage_text) (a1 : Int) (a2 : Int) : Option (Int) :=
 (idx a0.heads a1).bind fun y1 =>
 (idx a0.sizes y1).bind fun y2 =>
 (chk (y2 + a2)).bind fun z1 =>
 some z1
theorem usage_text_place_w  (a0 : Usage_text) (a1 : Int) (a2 : Int) (r : Int) (H : usage_text_place_S a0 a1 a2 = some r) : FnS Try.prog 28 [fPtr tUsage_text a0, fInt .i64 a1, fInt .i64 a2] [] (fInt .i64 r) (fun _ => []) := by
 unfold usage_text_place_S at H
 refine FnS_of Try.func28 rfl Try.ntmps28 rfl (fun β => ?_)
 refine Sr ?_
 refine Ya ?_
 refine Nn ?_
 refine T_seq ?_
 revert H; refine bs fun y1 h1 H => ?_
 revert H; refine bs fun y2 h2 H => ?_
 revert H; refine bs fun z1 h3 H => ?_
 refine T_net 16 [fun _ => .op [] false (fun _ => fPtr tUsage_text a0) (fun _ => []), fun _ => .op [] false (fun _ => fPtr tUsage_text a0) (fun _ => []), fun _ => .op [] false (fun _ => fPtr (tSl (tInt .i64)) a0.sizes) (fun _ => []), fun _ => .op [] false (fun _ => fSl (tInt .i64) a0.sizes) (fun _ => []), fun _ => .op [] false (fun _ => fPtr tUsage_text a0) (fun _ => []), fun _ => .op [] false (fun _ => fPtr tUsage_text a0) (fun _ => []), fun _ => .op [] false (fun _ => fPtr (tSl (tInt .i64)) a0.heads) (fun _ => []), fun _ => .op [] false (fun _ => fSl (tInt .i64) a0.heads) (fun _ => []), fun _ => .op [] false (fun _ => fInt .i64 a1) (fun _ => []), fun _ => .op [] false (fun _ => fPtr (tInt .i64) y1) (fun _ => []), fun _ => .op [] false (fun _ => fInt .i64 y1) (fun _ => []), fun _ => .op [] false (fun _ => fPtr (tInt .i64) y2) (fun _ => []), fun _ => .op [] false (fun _ => fInt .i64 y2) (fun _ => []), fun _ => .op [] false (fun _ => fInt .i64 a2) (fun _ => []), fun _ => .op [] false (fun _ => fInt .i64 z1) (fun _ => []), fun _ => .op [] false (fun _ => fInt .i64 z1) (fun _ => [])] [([], false, []), ([], false, []), ([], false, []), ([], false, []), ([], false, []), ([], false, []), ([], false, []), ([], false, []), ([], false, []), ([], false, []), ([], false, []), ([], false, []), ([], false, []), ([], false, []), ([], false, []), ([], false, [])] 0 0 mixed (F0 (F0 (F0 (F0 (F0 (F0 (F0 (F0 (F0 (F0 (F0 (F0 (F0 (F0 (F0 (F0 FitsL.nil)))))))))))))))) (by kernel_rfl) rfl rfl (by kernel_rfl) rfl ?_
 dsimp only [netL, List.take, List.replicate, List.append, List.drop]
 refine My (h := o_move rfl hh) (k := fun _ => ?_)
 refine My (h := o_nilCheck rfl (has rfl) (fun m v ⟨p, h, _⟩ => ⟨p, h⟩)) (k := fun _ => ?_)
 refine My (h := o_field (t' := (tSl (tInt .i64))) (z := a0.sizes) rfl hh ty_fa_79_2 rfl) (k := fun _ => ?_)
 refine My (h := o_load rfl hh ty_sc_46 rfl) (k := fun _ => ?_)
 refine My (h := o_move rfl hh) (k := fun _ => ?_)
 refine My (h := o_nilCheck rfl (has rfl) (fun m v ⟨p, h, _⟩ => ⟨p, h⟩)) (k := fun _ => ?_)
 refine My (h := o_field (t' := (tSl (tInt .i64))) (z := a0.heads) rfl hh ty_fa_79_3 rfl) (k := fun _ => ?_)
 refine My (h := o_load rfl hh ty_sc_46 rfl) (k := fun _ => ?_)
 refine My (h := o_move rfl hh) (k := fun _ => ?_)
 refine My (h := o_index rfl hh hh ty_el_46 h1) (k := fun _ => ?_)
 refine My (h := o_load rfl hh ty_sc_3 rfl) (k := fun _ => ?_)
 refine My (h := o_index rfl hh hh ty_el_46 h2) (k := fun _ => ?_)
 refine My (h := o_load rfl hh ty_sc_3 rfl) (k := fun _ => ?_)
 refine My (h := o_move rfl hh) (k := fun _ => ?_)
 refine My (h := o_add rfl hh hh h3) (k := fun _ => ?_)
 refine My (h := o_assign rfl hh) (k := fun _ => ?_)
 refine N_done rfl ?_
 refine Nn ?_
 refine T_retc ?_
 cases H
 exact T_out1 rfl (hasS rfl) rfl
def usage_of_S (a0 : Int) : Option (Int) :=
 if a0 = 1 then
  some 0
 else
  if a0 = 4 then
   some 2
  else
   some 1
theorem usage_of_w  (a0 : Int) (r : Int) (H : usage_of_S a0 = some r) : FnS Try.prog 31 [fInt .i64 a0] [] (fInt .i64 r) (fun _ => []) := by
 unfold usage_of_S at H
 refine FnS_of Try.func31 rfl Try.ntmps31 rfl (fun β => ?_)
 refine Sr ?_
 refine Ya ?_
 refine Nn ?_
 refine T_seq ?_
 refine Sr ?_
 refine Ym ?_
 refine Nn ?_
 refine T_block ?_
 refine Sr ?_
 refine Yy (o_eql rfl hh hh) ?_
 refine Ya ?_
 refine Nn ?_
 revert H; refine is (fun c1 H => ?_) fun c1 H => ?_
 ·
  refine T_cond_t (has rfl) c1 ?_
  refine Sr ?_
  refine Ya ?_
  refine Nn ?_
  refine T_retc ?_
  refine T_in_ret ?_
  refine T_then_ret ?_
  cases H
  exact T_out1 rfl (hasS rfl) rfl
 ·
  refine T_cond_f (has rfl) c1 ?_
  refine Sr ?_
  refine Yy (o_eql rfl hh hh) ?_
  refine Ya ?_
  refine Nn ?_
  revert H; refine is (fun c2 H => ?_) fun c2 H => ?_
  ·
   refine T_cond_t (has rfl) c2 ?_
   refine Sr ?_
   refine Ya ?_
   refine Nn ?_
   refine T_retc ?_
   refine T_in_ret ?_
   refine T_then_ret ?_
   cases H
   exact T_out1 rfl (hasS rfl) rfl
  ·
   refine T_cond_f (has rfl) c2 ?_
   refine T_skip ?_
   refine T_in_n ?_
   refine T_then_n ?_
   refine Sr ?_
   refine Ya ?_
   refine Nn ?_
   refine T_retc ?_
   cases H
   exact T_out1 rfl (hasS rfl) rfl
def usage_count_plus_S (a0 : Int) (a1 : Int) : Option (Int) :=
 (chk (a0 + a1)).bind fun z1 =>
 some (min z1 2)
theorem usage_count_plus_w  (a0 : Int) (a1 : Int) (r : Int) (H : usage_count_plus_S a0 a1 = some r) : FnS Try.prog 68 [fInt .i64 a0, fInt .i64 a1] [] (fInt .i64 r) (fun _ => []) := by
 unfold usage_count_plus_S at H
 refine FnS_of Try.func68 rfl Try.ntmps68 rfl (fun β => ?_)
 refine Sr ?_
 refine Ya ?_
 refine Nn ?_
 refine Sr ?_
 refine Ym ?_
 refine Ym ?_
 revert H; refine bs fun z1 h1 H => ?_
 refine Yy (o_add rfl hh hh h1) ?_
 refine Yy (o_min rfl hh hh) ?_
 refine Ya ?_
 refine Nn ?_
 refine T_retc ?_
 cases H
 exact T_out1 rfl (hasS rfl) rfl
def usage_text_fits_S (a0 : Usage_text) (a1 : Usage_channel) (a2 : Int) : Option (Bool) :=
 (idx a0.ScopeProg.Defs a1.def_).bind fun y1 =>
 (idx y1.Chans a1.index).bind fun y2 =>
 (idx a0.ScopeProg.Nodes a2).bind fun y3 =>
 some (decide (y2.Many = (y3.Args.length : Int)))
theorem usage_text_fits_w  (a0 : Usage_text) (a1 : Usage_channel) (a2 : Int) (r : Bool) (H : usage_text_fits_S a0 a1 a2 = some r) : FnS Try.prog 71 [fPtr tUsage_text a0, fSt tUsage_channel a1, fInt .i64 a2] [] (fBool r) (fun _ => []) := by
 unfold usage_text_fits_S at H
 refine FnS_of Try.func71 rfl Try.ntmps71 rfl (fun β => ?_)
 refine Sr ?_
 refine T_new trivial rfl rfl (n_box rfl (has rfl) part_agg) (fun b1 => ?_)
 refine Ya ?_
 refine Nn ?_
 refine T_seq ?_
 revert H; refine bs fun y1 h1 H => ?_
 revert H; refine bs fun y2 h2 H => ?_
 revert H; refine bs fun y3 h3 H => ?_
 refine T_net 27 [fun _ => .op [] false (fun _ => fPtr tUsage_text a0) (fun _ => []), fun _ => .op [] false (fun _ => fPtr tUsage_text a0) (fun _ => []), fun _ => .op [] false (fun _ => fPtr tScopeProg a0.ScopeProg) (fun _ => []), fun _ => .op [] false (fun _ => fPtr (tSl tScopeDef) a0.ScopeProg.Defs) (fun _ => []), fun _ => .op [] false (fun _ => fSl tScopeDef a0.ScopeProg.Defs) (fun _ => []), fun _ => .op [] false (fun _ => fEq (.pointer (some ⟨b1, 0, none⟩))) (fun _ => []), fun _ => .op [0] false (fun _ => fInt .i64 a1.def_) (fun _ => [tEmp]), fun _ => .op [] false (fun _ => fPtr tScopeDef y1) (fun _ => []), fun _ => .op [] false (fun _ => fPtr (tSl tScopeChan) y1.Chans) (fun _ => []), fun _ => .op [] false (fun _ => fSl tScopeChan y1.Chans) (fun _ => []), fun _ => .op [] false (fun _ => fEq (.pointer (some ⟨b1, 1, none⟩))) (fun _ => []), fun _ => .op [0] false (fun _ => fInt .i64 a1.index) (fun _ => [tEmp]), fun _ => .op [] false (fun _ => fPtr tScopeChan y2) (fun _ => []), fun _ => .op [] false (fun _ => fPtr (tInt .i64) y2.Many) (fun _ => []), fun _ => .op [] false (fun _ => fInt .i64 y2.Many) (fun _ => []), fun _ => .op [] false (fun _ => fPtr tUsage_text a0) (fun _ => []), fun _ => .op [] false (fun _ => fPtr tUsage_text a0) (fun _ => []), fun _ => .op [] false (fun _ => fPtr tScopeProg a0.ScopeProg) (fun _ => []), fun _ => .op [] false (fun _ => fPtr (tSl tScopeNode) a0.ScopeProg.Nodes) (fun _ => []), fun _ => .op [] false (fun _ => fSl tScopeNode a0.ScopeProg.Nodes) (fun _ => []), fun _ => .op [] false (fun _ => fInt .i64 a2) (fun _ => []), fun _ => .op [] false (fun _ => fPtr tScopeNode y3) (fun _ => []), fun _ => .op [] false (fun _ => fPtr (tSl tScopeExp) y3.Args) (fun _ => []), fun _ => .op [] false (fun _ => fSl tScopeExp y3.Args) (fun _ => []), fun _ => .op [] false (fun _ => fInt .i64 (y3.Args.length : Int)) (fun _ => []), fun _ => .op [] false (fun _ => fBool (decide (y2.Many = (y3.Args.length : Int)))) (fun _ => []), fun _ => .op [] false (fun _ => fBool (decide (y2.Many = (y3.Args.length : Int)))) (fun _ => [])] [([], false, []), ([], false, []), ([], false, []), ([], false, []), ([], false, []), ([], false, []), ([0], false, []), ([], false, []), ([], false, []), ([], false, []), ([], false, []), ([0], false, []), ([], false, []), ([], false, []), ([], false, []), ([], false, []), ([], false, []), ([], false, []), ([], false, []), ([], false, []), ([], false, []), ([], false, []), ([], false, []), ([], false, []), ([], false, []), ([], false, []), ([], false, [])] 0 1 mixed (F0 (F0 (F0 (F0 (F0 (F0 (F0 (F0 (F0 (F0 (F0 (F0 (F0 (F0 (F0 (F0 (F0 (F0 (F0 (F0 (F0 (F0 (F0 (F0 (F0 (F0 (F0 FitsL.nil))))))))))))))))))))))))))) (by kernel_rfl) rfl rfl (by kernel_rfl) rfl ?_
 dsimp only [netL, List.take, List.replicate, List.append, List.drop]
 refine My (h := o_move rfl hh) (k := fun _ => ?_)
 refine My (h := o_nilCheck rfl (has rfl) (fun m v ⟨p, h, _⟩ => ⟨p, h⟩)) (k := fun _ => ?_)
 refine My (h := o_field (t' := tScopeProg) (z := a0.ScopeProg) rfl hh ty_fa_79_0 rfl) (k := fun _ => ?_)
 refine My (h := o_field (t' := (tSl tScopeDef)) (z := a0.ScopeProg.Defs) rfl hh ty_fa_26_2 rfl) (k := fun _ => ?_)
 refine My (h := o_load rfl hh ty_sc_24 rfl) (k := fun _ => ?_)
 refine N_y (φ := fEq (.pointer (some ⟨b1, 0, none⟩))) rfl (fun _ => rfl) trivial rfl (o_fieldB 0 rfl (has rfl) ty_fa_129_0 rfl) (fun _ => ?_)
 refine N_op (ps := [0]) (φ := fInt .i64 a1.def_) rfl (fun _ => rfl) trivial rfl rfl (o_loadB rfl (has rfl) ty_sc_3 rfl Ent.rfl) (fun _ => ?_)
 refine My (h := o_index rfl hh hh ty_el_24 h1) (k := fun _ => ?_)
 refine My (h := o_field (t' := (tSl tScopeChan)) (z := y1.Chans) rfl hh ty_fa_52_0 rfl) (k := fun _ => ?_)
 refine My (h := o_load rfl hh ty_sc_45 rfl) (k := fun _ => ?_)
 refine N_y (φ := fEq (.pointer (some ⟨b1, 1, none⟩))) rfl (fun _ => rfl) trivial rfl (o_fieldB 1 rfl (has rfl) ty_fa_129_1 rfl) (fun _ => ?_)
 refine N_op (ps := [0]) (φ := fInt .i64 a1.index) rfl (fun _ => rfl) trivial rfl rfl (o_loadB rfl (has rfl) ty_sc_3 rfl Ent.rfl) (fun _ => ?_)
 refine My (h := o_index rfl hh hh ty_el_45 h2) (k := fun _ => ?_)
 refine My (h := o_field (t' := (tInt .i64)) (z := y2.Many) rfl hh ty_fa_44_1 rfl) (k := fun _ => ?_)
 refine My (h := o_load rfl hh ty_sc_3 rfl) (k := fun _ => ?_)
 refine My (h := o_move rfl hh) (k := fun _ => ?_)
 refine My (h := o_nilCheck rfl (has rfl) (fun m v ⟨p, h, _⟩ => ⟨p, h⟩)) (k := fun _ => ?_)
 refine My (h := o_field (t' := tScopeProg) (z := a0.ScopeProg) rfl hh ty_fa_79_0 rfl) (k := fun _ => ?_)
 refine My (h := o_field (t' := (tSl tScopeNode)) (z := a0.ScopeProg.Nodes) rfl hh ty_fa_26_1 rfl) (k := fun _ => ?_)
 refine My (h := o_load rfl hh ty_sc_23 rfl) (k := fun _ => ?_)
 refine My (h := o_move rfl hh) (k := fun _ => ?_)
 refine My (h := o_index rfl hh hh ty_el_23 h3) (k := fun _ => ?_)
 refine My (h := o_field (t' := (tSl tScopeExp)) (z := y3.Args) rfl hh ty_fa_56_2 rfl) (k := fun _ => ?_)
 refine My (h := o_load rfl hh ty_sc_54 rfl) (k := fun _ => ?_)
 refine My (h := o_len rfl hh ty_us_54) (k := fun _ => ?_)
 refine My (h := o_eql rfl hh hh) (k := fun _ => ?_)
 refine My (h := o_assign rfl hh) (k := fun _ => ?_)
 refine N_done rfl ?_
 refine Nn ?_
 refine T_retc ?_
 cases H
 refine T_pick [] (by decide) ?_
 exact T_out1 rfl (hasS rfl) rfl
end Go.Proofs.Ytmnbfgeljmhekaa
set_option maxRecDepth 100000
set_option maxHeartbeats 2000000
namespace Go.Proofs.Ytmnbfgeljmhekaa
open Go.SX Go.SW Go.Dt
def usage_text_send_l1 (a1 : List UsageDef) (a3 : Int) (y1 : ScopeNode) (y2 : GMap Int Usage_channel) : Nat → Int → Int → Option (Int)
| 0, _, _ => none
| k + 1, x5, x6 =>
 if x6 < (y1.Args.length : Int) then
  ((idx y1.Args x6).bind fun y4 =>
  if y4.Op ≠ 2 then
   some x5
  else
   if y4.N ≠ a3 then
    some x5
   else
    bif (y2.get y1.N).isSome then
     (idx a1 (((y2.get y1.N).getD (⟨0, 0⟩ : Usage_channel)).def_)).bind fun y5 =>
     (idx y5.Args (((y2.get y1.N).getD (⟨0, 0⟩ : Usage_channel)).index)).bind fun y6 =>
     (idx y6 x6).bind fun y7 =>
     (usage_of_S y7).bind fun y8 =>
     (usage_count_plus_S x5 y8).bind fun y9 =>
     some y9
    else
     some 2).bind fun x7 =>
  (chk (x6 + 1)).bind fun z1 =>
  usage_text_send_l1 a1 a3 y1 y2 k x7 z1
 else
  some x5
def usage_text_send_S (fuel : Nat) (a0 : Usage_text) (a1 : List UsageDef) (a2 : Int) (a3 : Int) : Option (Int) :=
 (idx a0.ScopeProg.Nodes a2).bind fun y1 =>
 (idx a0.denotes a2).bind fun y2 =>
 (bif (y2.get y1.N).isSome then
  (usage_text_fits_S a0 (⟨((y2.get y1.N).getD (⟨0, 0⟩ : Usage_channel)).def_, ((y2.get y1.N).getD (⟨0, 0⟩ : Usage_channel)).index⟩ : Usage_channel) a2).bind fun y3 =>
  bif y3 then
   some (Sum.inl ())
  else
   (some 0).bind fun r => some (Sum.inr r)
 else
  some (Sum.inl ())).bind fun o => match o with
 | Sum.inr r => some r
 | Sum.inl _ =>
 (if y1.N = a3 then
  some 1
 else
  some 0).bind fun x1 =>
 (usage_text_send_l1 a1 a3 y1 y2 fuel x1 0).bind fun x2 =>
 some x2
theorem usage_text_send_w (fuel : Nat)  (a0 : Usage_text) (a1 : List UsageDef) (a2 : Int) (a3 : Int) (r : Int) (H : usage_text_send_S fuel a0 a1 a2 a3 = some r) : FnS Try.prog 66 [fPtr tUsage_text a0, fSl tUsageDef a1, fInt .i64 a2, fInt .i64 a3] [] (fInt .i64 r) (fun _ => []) := by
 unfold usage_text_send_S at H
 refine FnS_of Try.func66 rfl Try.ntmps66 rfl (fun β => ?_)
 refine Sr ?_
 refine Ya ?_
 refine Nn ?_
 refine Sr ?_
 refine Ym ?_
 refine Yy (o_nilCheck rfl (has rfl) (fun m v ⟨p, h, _⟩ => ⟨p, h⟩)) ?_
 refine Yy (o_field (t' := tScopeProg) (z := a0.ScopeProg) rfl hh ty_fa_79_0 rfl) ?_
 refine Yy (o_field (t' := (tSl tScopeNode)) (z := a0.ScopeProg.Nodes) rfl hh ty_fa_26_1 rfl) ?_
 refine Yy (o_load rfl hh ty_sc_23 rfl) ?_
 refine Ym ?_
 revert H; refine bs fun y1 h1 H => ?_
 refine Yy (o_index rfl hh hh ty_el_23 h1) ?_
 refine Yy (o_loadS rfl hh ty_ag_56) ?_
 refine T_new trivial rfl rfl (n_alloc rfl ty_ze_56 rfl) (fun b1 => ?_)
 refine T_storeS (φs' := [fInt .i64 y1.Op, fInt .i64 y1.N, fSl tScopeExp y1.Args, fSl (tInt .i64) y1.Kids]) trivial rfl rfl (has rfl) (has rfl) (ll_cons (leaf_eq trivial) (ll_cons (leaf_eq trivial) (ll_cons (leaf_sl) (ll_cons (leaf_sl) ll_nil)))) ty_sz_56 rfl rfl rfl ?_
 refine Nn ?_
 refine T_seq ?_
 revert H; refine bs fun y2 h2 H => ?_
 refine T_net 16 [fun _ => .op [] false (fun _ => fPtr tUsage_text a0) (fun _ => []), fun _ => .op [] false (fun _ => fPtr tUsage_text a0) (fun _ => []), fun _ => .op [] false (fun _ => fPtr (tSl (tMapD kInt (fun y => fSt tUsage_channel y))) a0.denotes) (fun _ => []), fun _ => .op [] false (fun _ => fSl (tMapD kInt (fun y => fSt tUsage_channel y)) a0.denotes) (fun _ => []), fun _ => .op [] false (fun _ => fInt .i64 a2) (fun _ => []), fun _ => .op [] false (fun _ => fPtr (tMapD kInt (fun y => fSt tUsage_channel y)) y2) (fun _ => []), fun _ => .op [] false (fun _ => fMap kInt (fun y => fSt tUsage_channel y) y2) (fun _ => []), fun _ => .op [] false (fun _ => fEq (.pointer (some ⟨b1, 1, none⟩))) (fun _ => []), fun _ => .op [0] false (fun _ => fInt .i64 y1.N) (fun _ => [tEmp]), fun _ => .op [] false (fun _ => fTup [fSt tUsage_channel ((y2.get y1.N).getD (⟨0, 0⟩ : Usage_channel)), fBool ((y2.get y1.N).isSome)]) (fun _ => []), fun _ => .op [] false (fun _ => fTup [fSt tUsage_channel ((y2.get y1.N).getD (⟨0, 0⟩ : Usage_channel)), fBool ((y2.get y1.N).isSome)]) (fun _ => []), fun _ => .op [] false (fun _ => fSt tUsage_channel ((y2.get y1.N).getD (⟨0, 0⟩ : Usage_channel))) (fun _ => []), fun _ => .op [] false (fun _ => fBool ((y2.get y1.N).isSome)) (fun _ => []), fun _ => .op [1] true (fun c => fEq (ptr c.n)) (fun c => [tBlk c.n 129 [fInt .i64 0, fInt .i64 0]]), fun e => .op [1] true (fun _ => fAny) (fun _ => [tBlk (e 13).n 129 [fInt .i64 (((y2.get y1.N).getD (⟨0, 0⟩ : Usage_channel)).def_), fInt .i64 (((y2.get y1.N).getD (⟨0, 0⟩ : Usage_channel)).index)]]), fun _ => .op [] false (fun _ => fBool ((y2.get y1.N).isSome)) (fun _ => [])] [([], false, []), ([], false, []), ([], false, []), ([], false, []), ([], false, []), ([], false, []), ([], false, []), ([], false, []), ([0], false, []), ([], false, []), ([], false, []), ([], false, []), ([], false, []), ([1], true, []), ([1], true, [13]), ([], false, [])] 1 2 mixed (F0 (F0 (F0 (F0 (F0 (F0 (F0 (F0 (F0 (F0 (F0 (F0 (F0 (F0 (FitsL.cons (fits1 (i := 13) (od := fun c13 => .op [1] true (fun _ => fAny) (fun _ => [tBlk c13.n 129 [fInt .i64 (((y2.get y1.N).getD (⟨0, 0⟩ : Usage_channel)).def_), fInt .i64 (((y2.get y1.N).getD (⟨0, 0⟩ : Usage_channel)).index)]])) (fun _ => ⟨rfl, rfl⟩)) (F0 FitsL.nil)))))))))))))))) (by kernel_rfl) rfl rfl (by kernel_rfl) rfl ?_
 dsimp only [netL, List.take, List.replicate, List.append, List.drop]
 refine My (h := o_move rfl hh) (k := fun _ => ?_)
 refine My (h := o_nilCheck rfl (has rfl) (fun m v ⟨p, h, _⟩ => ⟨p, h⟩)) (k := fun _ => ?_)
 refine My (h := o_field (t' := (tSl (tMapD kInt (fun y => fSt tUsage_channel y)))) (z := a0.denotes) rfl (has rfl) ty_fa_79_1 rfl) (k := fun _ => ?_)
 refine My (h := o_load rfl hh ty_sc_77 rfl) (k := fun _ => ?_)
 refine My (h := o_move rfl hh) (k := fun _ => ?_)
 refine My (h := o_index rfl hh hh ty_el_77 h2) (k := fun _ => ?_)
 refine My (h := o_load rfl hh ty_sc_108 rfl) (k := fun _ => ?_)
 refine N_y (φ := fEq (.pointer (some ⟨b1, 1, none⟩))) rfl (fun _ => rfl) trivial rfl (o_fieldB 1 rfl (has rfl) ty_fa_56_1 rfl) (fun _ => ?_)
 refine N_op (ps := [0]) (φ := fInt .i64 y1.N) rfl (fun _ => rfl) trivial rfl rfl (o_loadB rfl (has rfl) ty_sc_3 rfl Ent.rfl) (fun _ => ?_)
 refine My (h := o_lookup2 (zα := (⟨0, 0⟩ : Usage_channel)) (k := y1.N) rfl hh hh rfl ty_mp_108 (ent_aggOf [(.int .i64 0), (.int .i64 0)])) (k := fun _ => ?_)
 refine My (h := o_move rfl hh) (k := fun _ => ?_)
 refine My (h := o_extract rfl hh rfl) (k := fun _ => ?_)
 refine My (h := o_extract rfl hh rfl) (k := fun _ => ?_)
 refine N_new (p := 1) (f := fun b2 => ptr b2) (τ := fun b2 => tBlk b2 129 [fInt .i64 0, fInt .i64 0]) rfl (fun _ => rfl) (fun _ => rfl) trivial rfl rfl (n_alloc rfl ty_ze_129 rfl) (fun b2 u1 => ?_)
 refine N_storeS (p := 1) (φs' := [fInt .i64 (((y2.get y1.N).getD (⟨0, 0⟩ : Usage_channel)).def_), fInt .i64 (((y2.get y1.N).getD (⟨0, 0⟩ : Usage_channel)).index)]) rfl (fun _ => rfl) (fun _ => rfl) trivial rfl rfl rfl (has rfl) (has rfl) (ll_cons (leaf_eq trivial) (ll_cons (leaf_eq trivial) ll_nil)) ty_sz_129 rfl rfl rfl (fun _ => ?_)
 refine My (h := o_assign rfl hh) (k := fun _ => ?_)
 refine N_done rfl ?_
 refine Nn ?_
 revert H; refine bs fun o1 H Hr1 => ?_
 refine T_seqJ (ι := Unit) (fun i => o1 = Sum.inl ()) (fun i => [(1, fSl tUsageDef a1), (3, fInt .i64 a3), (9, fEq (.pointer (some ⟨b1, 0, none⟩))), (10, fEq (.pointer (some ⟨b2, 0, none⟩))), (11, fBool ((y2.get y1.N).isSome))]) (fun i => [tBlk b1 56 [fInt .i64 y1.Op, fInt .i64 y1.N, fSl tScopeExp y1.Args, fSl (tInt .i64) y1.Kids], tBlk b2 129 [fInt .i64 (((y2.get y1.N).getD (⟨0, 0⟩ : Usage_channel)).def_), fInt .i64 (((y2.get y1.N).getD (⟨0, 0⟩ : Usage_channel)).index)]]) ?_ ?_
 ·
  refine Sr ?_
  refine Ym ?_
  refine Ym ?_
  revert H; refine cs (fun c1 H => ?_) fun c1 H => ?_
  ·
   refine Yg c1 (o_move rfl hh) ?_
   refine Yh 1 rfl c1 (o_loadBS rfl hh ty_ag_129 rfl rfl) ?_
   refine Yg c1 (o_move rfl hh) ?_
   revert H; refine bs fun y3 h3 H => ?_
   refine T_call ⟨_, _, rfl, rfl, c1⟩ rfl rfl rfl (has rfl) (HasL.cons (has rfl) (HasL.cons (has rfl) (HasL.cons (has rfl) HasL.nil))) rfl ty_cb_71 (usage_text_fits_w a0 (⟨((y2.get y1.N).getD (⟨0, 0⟩ : Usage_channel)).def_, ((y2.get y1.N).getD (⟨0, 0⟩ : Usage_channel)).index⟩ : Usage_channel) a2 y3 h3) rfl ?_
   refine Yg c1 (o_not rfl hh) ?_
   refine Yy (o_pick_t rfl hh c1 hh) ?_
   refine Nn ?_
   revert H; refine cs (fun c2 H => ?_) fun c2 H => ?_
   ·
    refine T_cond_f (has rfl) (not_t c2) ?_
    refine T_skip ?_
    refine T_then_n ?_
    exact T_meet (()) (Option.some.inj H).symm (Sc (Sc (Sc (Sc (Sc SubT.nil))))) rfl
   ·
    refine T_cond_t (has rfl) (not_f c2) ?_
    refine Sr ?_
    refine Ya ?_
    refine Nn ?_
    refine Rr ?_
    revert H; refine bs fun r1 H e1 => ?_
    have e1 := Option.some.inj e1; subst e1; have Hr1 := Option.some.inj Hr1; subst Hr1
    cases H
    refine T_pick [] (by decide) ?_
    exact T_out1 rfl (hasS rfl) rfl
  ·
   refine Yf c1 ?_
   refine Yf c1 ?_
   refine Yf c1 ?_
   refine Yf c1 ?_
   refine Yf c1 ?_
   refine Yy (o_pick_f rfl hh c1 hh) ?_
   refine Nn ?_
   refine T_cond_f (has rfl) rfl ?_
   refine T_skip ?_
   refine T_then_n ?_
   exact T_meet (()) (Option.some.inj H).symm (Sc (Sc (Sc (Sc (Sc SubT.nil))))) rfl
 ·
  clear H; intro i hi; subst o1; have H := Hr1; clear Hr1; try dsimp only at H
  show T β _ _ [(1, fSl tUsageDef a1), (3, fInt .i64 a3), (9, fEq (.pointer (some ⟨b1, 0, none⟩))), (10, fEq (.pointer (some ⟨b2, 0, none⟩))), (11, fBool ((y2.get y1.N).isSome))] [tBlk b1 56 [fInt .i64 y1.Op, fInt .i64 y1.N, fSl tScopeExp y1.Args, fSl (tInt .i64) y1.Kids], tBlk b2 129 [fInt .i64 (((y2.get y1.N).getD (⟨0, 0⟩ : Usage_channel)).def_), fInt .i64 (((y2.get y1.N).getD (⟨0, 0⟩ : Usage_channel)).index)]] _
  refine Sr ?_
  refine Ya ?_
  refine Nn ?_
  revert H; refine bs fun o2 H Hr2 => ?_
  refine T_seqJ (ι := Int) (fun i => o2 = i) (fun i => [(1, fSl tUsageDef a1), (3, fInt .i64 a3), (9, fEq (.pointer (some ⟨b1, 0, none⟩))), (10, fEq (.pointer (some ⟨b2, 0, none⟩))), (11, fBool ((y2.get y1.N).isSome)), (12, fInt .i64 i)]) (fun i => [tBlk b1 56 [fInt .i64 y1.Op, fInt .i64 y1.N, fSl tScopeExp y1.Args, fSl (tInt .i64) y1.Kids], tBlk b2 129 [fInt .i64 (((y2.get y1.N).getD (⟨0, 0⟩ : Usage_channel)).def_), fInt .i64 (((y2.get y1.N).getD (⟨0, 0⟩ : Usage_channel)).index)]]) ?_ ?_
  ·
   refine Sr ?_
   refine Yy (o_fieldB 1 rfl hh ty_fa_56_1 rfl) ?_
   refine Yo 0 rfl (o_loadB rfl hh ty_sc_3 rfl Ent.rfl) ?_
   refine Ym ?_
   refine Yy (o_eql rfl hh hh) ?_
   refine Nn ?_
   revert H; refine is (fun c3 H => ?_) fun c3 H => ?_
   ·
    refine T_cond_t (has rfl) c3 ?_
    refine T_region ?_
    refine Ya ?_
    refine Nn ?_
    exact T_meet (1) (Option.some.inj H).symm (Sc (Sc (Sc (Sc (Sc (Sc SubT.nil)))))) rfl
   ·
    refine T_cond_f (has rfl) c3 ?_
    refine T_skip ?_
    refine T_then_n ?_
    exact T_meet (0) (Option.some.inj H).symm (Sc (Sc (Sc (Sc (Sc (Sc SubT.nil)))))) rfl
  ·
   clear H; intro x1 hi; subst o2; have H := Hr2; clear Hr2; try dsimp only at H
   show T β _ _ [(1, fSl tUsageDef a1), (3, fInt .i64 a3), (9, fEq (.pointer (some ⟨b1, 0, none⟩))), (10, fEq (.pointer (some ⟨b2, 0, none⟩))), (11, fBool ((y2.get y1.N).isSome)), (12, fInt .i64 x1)] [tBlk b1 56 [fInt .i64 y1.Op, fInt .i64 y1.N, fSl tScopeExp y1.Args, fSl (tInt .i64) y1.Kids], tBlk b2 129 [fInt .i64 (((y2.get y1.N).getD (⟨0, 0⟩ : Usage_channel)).def_), fInt .i64 (((y2.get y1.N).getD (⟨0, 0⟩ : Usage_channel)).index)]] _
   revert H; refine bs fun o3 H Hr3 => ?_
   refine T_seqJ (ι := Int) (fun i => o3 = i) (fun i => [(12, fInt .i64 i)]) (fun i => [tBlk b1 56 [fInt .i64 y1.Op, fInt .i64 y1.N, fSl tScopeExp y1.Args, fSl (tInt .i64) y1.Kids], tBlk b2 129 [fInt .i64 (((y2.get y1.N).getD (⟨0, 0⟩ : Usage_channel)).def_), fInt .i64 (((y2.get y1.N).getD (⟨0, 0⟩ : Usage_channel)).index)]]) ?_ ?_
   ·
    refine Sr ?_
    refine Yy (o_fieldB 2 rfl hh ty_fa_56_2 rfl) ?_
    refine Yo 0 rfl (o_loadB rfl hh ty_sc_54 rfl Ent.rfl) ?_
    refine Yy (o_len rfl hh ty_us_54) ?_
    refine Ym ?_
    refine Nn ?_
    refine T_block ?_
    refine T_loop (ι := Nat × Int × Int) (fun i => usage_text_send_l1 a1 a3 y1 y2 i.1 i.2.1 i.2.2 = _) (fun i => i.1) (fun i => [(1, fSl tUsageDef a1), (3, fInt .i64 a3), (10, fEq (.pointer (some ⟨b2, 0, none⟩))), (11, fBool ((y2.get y1.N).isSome)), (12, fInt .i64 i.2.1), (49, fSl tScopeExp y1.Args), (50, fInt .i64 (y1.Args.length : Int)), (51, fInt .i64 i.2.2)]) (fun i => [tBlk b1 56 [fInt .i64 y1.Op, fInt .i64 y1.N, fSl tScopeExp y1.Args, fSl (tInt .i64) y1.Kids], tBlk b2 129 [fInt .i64 (((y2.get y1.N).getD (⟨0, 0⟩ : Usage_channel)).def_), fInt .i64 (((y2.get y1.N).getD (⟨0, 0⟩ : Usage_channel)).index)]]) (fuel, x1, 0) H (Sc (Sc (Sc (Sc (Sc (Sc (Sc (Sc SubT.nil)))))))) rfl ?_
    clear H; rintro ⟨k1, x5, x6⟩ H
    replace H : usage_text_send_l1 a1 a3 y1 y2 k1 x5 x6 = _ := H
    show T β _ _ [(1, fSl tUsageDef a1), (3, fInt .i64 a3), (10, fEq (.pointer (some ⟨b2, 0, none⟩))), (11, fBool ((y2.get y1.N).isSome)), (12, fInt .i64 x5), (49, fSl tScopeExp y1.Args), (50, fInt .i64 (y1.Args.length : Int)), (51, fInt .i64 x6)] [tBlk b1 56 [fInt .i64 y1.Op, fInt .i64 y1.N, fSl tScopeExp y1.Args, fSl (tInt .i64) y1.Kids], tBlk b2 129 [fInt .i64 (((y2.get y1.N).getD (⟨0, 0⟩ : Usage_channel)).def_), fInt .i64 (((y2.get y1.N).getD (⟨0, 0⟩ : Usage_channel)).index)]] _
    obtain _ | k1 := k1
    ·
     rw [usage_text_send_l1] at H; cases H
    rw [usage_text_send_l1] at H
    refine Sr ?_
    refine Yy (o_lss rfl hh hh) ?_
    refine Nn ?_
    refine T_seq ?_
    revert H; refine is (fun c4 H => ?_) fun c4 H => ?_
    ·
     refine T_cond_t (has rfl) c4 ?_
     refine T_skip ?_
     refine T_then_n ?_
     revert H; refine bs fun o4 H Hr4 => ?_
     refine T_seqJ (ι := Int) (fun i => o4 = i) (fun i => [(1, fSl tUsageDef a1), (3, fInt .i64 a3), (10, fEq (.pointer (some ⟨b2, 0, none⟩))), (11, fBool ((y2.get y1.N).isSome)), (12, fInt .i64 i), (49, fSl tScopeExp y1.Args), (50, fInt .i64 (y1.Args.length : Int)), (51, fInt .i64 x6)]) (fun i => [tBlk b1 56 [fInt .i64 y1.Op, fInt .i64 y1.N, fSl tScopeExp y1.Args, fSl (tInt .i64) y1.Kids], tBlk b2 129 [fInt .i64 (((y2.get y1.N).getD (⟨0, 0⟩ : Usage_channel)).def_), fInt .i64 (((y2.get y1.N).getD (⟨0, 0⟩ : Usage_channel)).index)]]) ?_ ?_
     ·
      refine T_block ?_
      refine Sr ?_
      refine Ym ?_
      revert H; refine bs fun y4 h4 H => ?_
      refine Yy (o_index rfl hh hh ty_el_54 h4) ?_
      refine Yy (o_loadS rfl hh ty_ag_94) ?_
      refine T_new trivial rfl rfl (n_alloc rfl ty_ze_94 rfl) (fun b3 => ?_)
      refine Ya ?_
      refine T_storeS (φs' := [fInt .i64 y4.Op, fInt .i64 y4.N, fScopeExps y4.Kids]) trivial rfl rfl (has rfl) (has rfl) (ll_cons (leaf_eq trivial) (ll_cons (leaf_eq trivial) (ll_cons (leaf_ScopeExps) ll_nil))) ty_sz_94 rfl rfl rfl ?_
      refine Nn ?_
      refine T_block ?_
      refine Sr ?_
      refine Yy (o_fieldB 0 rfl hh ty_fa_94_0 rfl) ?_
      refine Yo 0 rfl (o_loadB rfl hh ty_sc_92 rfl Ent.rfl) ?_
      refine Yy (o_neq rfl hh hh) ?_
      refine Ym ?_
      revert H; refine is (fun c5 H => ?_) fun c5 H => ?_
      ·
       refine Yt c5 ?_
       refine Yt c5 ?_
       refine Yt c5 ?_
       refine Yt c5 ?_
       refine Yy (o_pick_t rfl hh c5 hh) ?_
       refine Ya ?_
       refine Nn ?_
       refine T_cond_t (has rfl) rfl ?_
       refine T_skip ?_
       refine T_in_n ?_
       refine T_in_n ?_
       refine T_then_n ?_
       refine T_pick [1, 2] (by decide) ?_
       exact T_meet (x5) (Option.some.inj H).symm (Sc (Sc (Sc (Sc (Sc (Sc (Sc (Sc SubT.nil)))))))) rfl
      ·
       refine Yg c5 (o_fieldB 1 rfl hh ty_fa_94_1 rfl) ?_
       refine Yh 0 rfl c5 (o_loadB rfl hh ty_sc_3 rfl Ent.rfl) ?_
       refine Yg c5 (o_move rfl hh) ?_
       refine Yg c5 (o_neq rfl hh hh) ?_
       refine Yy (o_pick_f rfl hh c5 hh) ?_
       refine Ya ?_
       refine Nn ?_
       revert H; refine is (fun c6 H => ?_) fun c6 H => ?_
       ·
        refine T_cond_t (has rfl) c6 ?_
        refine T_skip ?_
        refine T_in_n ?_
        refine T_in_n ?_
        refine T_then_n ?_
        refine T_pick [1, 2] (by decide) ?_
        exact T_meet (x5) (Option.some.inj H).symm (Sc (Sc (Sc (Sc (Sc (Sc (Sc (Sc SubT.nil)))))))) rfl
       ·
        refine T_cond_f (has rfl) c6 ?_
        refine Sr ?_
        refine Ym ?_
        refine Ya ?_
        refine Nn ?_
        revert H; refine cs (fun c7 H => ?_) fun c7 H => ?_
        ·
         refine T_cond_t (has rfl) c7 ?_
         revert H; refine bs fun y5 h5 H => ?_
         revert H; refine bs fun y6 h6 H => ?_
         revert H; refine bs fun y7 h7 H => ?_
         revert H; refine bs fun y8 h8 H => ?_
         revert H; refine bs fun y9 h9 H => ?_
         refine T_net 17 [fun _ => .op [] false (fun _ => fInt .i64 x5) (fun _ => []), fun _ => .op [] false (fun _ => fSl tUsageDef a1) (fun _ => []), fun _ => .op [] false (fun _ => fEq (.pointer (some ⟨b2, 0, none⟩))) (fun _ => []), fun _ => .op [2] false (fun _ => fInt .i64 (((y2.get y1.N).getD (⟨0, 0⟩ : Usage_channel)).def_)) (fun _ => [tEmp]), fun _ => .op [] false (fun _ => fPtr tUsageDef y5) (fun _ => []), fun _ => .op [] false (fun _ => fPtr (tSl (tSl (tInt .i64))) y5.Args) (fun _ => []), fun _ => .op [] false (fun _ => fSl (tSl (tInt .i64)) y5.Args) (fun _ => []), fun _ => .op [] false (fun _ => fEq (.pointer (some ⟨b2, 1, none⟩))) (fun _ => []), fun _ => .op [2] false (fun _ => fInt .i64 (((y2.get y1.N).getD (⟨0, 0⟩ : Usage_channel)).index)) (fun _ => [tEmp]), fun _ => .op [] false (fun _ => fPtr (tSl (tInt .i64)) y6) (fun _ => []), fun _ => .op [] false (fun _ => fSl (tInt .i64) y6) (fun _ => []), fun _ => .op [] false (fun _ => fInt .i64 x6) (fun _ => []), fun _ => .op [] false (fun _ => fPtr (tInt .i64) y7) (fun _ => []), fun _ => .op [] false (fun _ => fInt .i64 y7) (fun _ => []), fun _ => .op [] true (fun _ => fInt .i64 y8) (fun _ => []), fun _ => .op [] true (fun _ => fInt .i64 y9) (fun _ => []), fun _ => .op [] false (fun _ => fInt .i64 y9) (fun _ => [])] [([], false, []), ([], false, []), ([], false, []), ([2], false, []), ([], false, []), ([], false, []), ([], false, []), ([], false, []), ([2], false, []), ([], false, []), ([], false, []), ([], false, []), ([], false, []), ([], false, []), ([], true, []), ([], true, []), ([], false, [])] 0 3 mixed (F0 (F0 (F0 (F0 (F0 (F0 (F0 (F0 (F0 (F0 (F0 (F0 (F0 (F0 (F0 (F0 (F0 FitsL.nil))))))))))))))))) (by kernel_rfl) rfl rfl (by kernel_rfl) rfl ?_
         dsimp only [netL, List.take, List.replicate, List.append, List.drop]
         refine My (h := o_move rfl hh) (k := fun _ => ?_)
         refine My (h := o_move rfl hh) (k := fun _ => ?_)
         refine N_y (φ := fEq (.pointer (some ⟨b2, 0, none⟩))) rfl (fun _ => rfl) trivial rfl (o_fieldB 0 rfl (has rfl) ty_fa_129_0 rfl) (fun _ => ?_)
         refine N_op (ps := [2]) (φ := fInt .i64 (((y2.get y1.N).getD (⟨0, 0⟩ : Usage_channel)).def_)) rfl (fun _ => rfl) trivial rfl rfl (o_loadB rfl (has rfl) ty_sc_3 rfl Ent.rfl) (fun _ => ?_)
         refine My (h := o_index rfl hh hh ty_el_27 h5) (k := fun _ => ?_)
         refine My (h := o_field (t' := (tSl (tSl (tInt .i64)))) (z := y5.Args) rfl hh ty_fa_40_2 rfl) (k := fun _ => ?_)
         refine My (h := o_load rfl hh ty_sc_38 rfl) (k := fun _ => ?_)
         refine N_y (φ := fEq (.pointer (some ⟨b2, 1, none⟩))) rfl (fun _ => rfl) trivial rfl (o_fieldB 1 rfl (has rfl) ty_fa_129_1 rfl) (fun _ => ?_)
         refine N_op (ps := [2]) (φ := fInt .i64 (((y2.get y1.N).getD (⟨0, 0⟩ : Usage_channel)).index)) rfl (fun _ => rfl) trivial rfl rfl (o_loadB rfl (has rfl) ty_sc_3 rfl Ent.rfl) (fun _ => ?_)
         refine My (h := o_index rfl hh hh ty_el_38 h6) (k := fun _ => ?_)
         refine My (h := o_load rfl hh ty_sc_37 rfl) (k := fun _ => ?_)
         refine My (h := o_move rfl hh) (k := fun _ => ?_)
         refine My (h := o_index rfl hh hh ty_el_37 h7) (k := fun _ => ?_)
         refine My (h := o_load rfl hh ty_sc_41 rfl) (k := fun _ => ?_)
         refine N_call (Φ := fInt .i64 y8) rfl (fun _ => rfl) trivial rfl rfl (has rfl) (HasL.cons (has rfl) HasL.nil) rfl ty_cb_31 (usage_of_w y7 y8 h8) (fun _ => ?_)
         refine N_call (Φ := fInt .i64 y9) rfl (fun _ => rfl) trivial rfl rfl (has rfl) (HasL.cons (has rfl) (HasL.cons (has rfl) HasL.nil)) rfl ty_cb_68 (usage_count_plus_w x5 y8 y9 h9) (fun _ => ?_)
         refine My (h := o_assign rfl hh) (k := fun _ => ?_)
         refine N_done rfl ?_
         refine T_nil ?_
         refine T_in_n ?_
         refine T_in_n ?_
         refine T_then_n ?_
         refine T_pick [1, 2] (by decide) ?_
         exact T_meet (y9) (Option.some.inj H).symm (Sc (Sc (Sc (Sc (Sc (Sc (Sc (Sc SubT.nil)))))))) rfl
        ·
         refine T_cond_f (has rfl) c7 ?_
         refine T_region ?_
         refine Ya ?_
         refine T_nil ?_
         refine T_in_n ?_
         refine T_in_n ?_
         refine T_then_n ?_
         refine T_pick [1, 2] (by decide) ?_
         exact T_meet (2) (Option.some.inj H).symm (Sc (Sc (Sc (Sc (Sc (Sc (Sc (Sc SubT.nil)))))))) rfl
     ·
      clear H; intro x7 hi; subst o4; have H := Hr4; clear Hr4; try dsimp only at H
      show T β _ _ [(1, fSl tUsageDef a1), (3, fInt .i64 a3), (10, fEq (.pointer (some ⟨b2, 0, none⟩))), (11, fBool ((y2.get y1.N).isSome)), (12, fInt .i64 x7), (49, fSl tScopeExp y1.Args), (50, fInt .i64 (y1.Args.length : Int)), (51, fInt .i64 x6)] [tBlk b1 56 [fInt .i64 y1.Op, fInt .i64 y1.N, fSl tScopeExp y1.Args, fSl (tInt .i64) y1.Kids], tBlk b2 129 [fInt .i64 (((y2.get y1.N).getD (⟨0, 0⟩ : Usage_channel)).def_), fInt .i64 (((y2.get y1.N).getD (⟨0, 0⟩ : Usage_channel)).index)]] _
      refine T_region ?_
      revert H; refine bs fun z1 h10 H => ?_
      refine Yy (o_add rfl hh hh h10) ?_
      refine Ym ?_
      refine Nn ?_
      exact T_meet ((k1, x7, z1)) ⟨H, Nat.lt_succ_self _⟩ (Sc (Sc (Sc (Sc (Sc (Sc (Sc (Sc SubT.nil)))))))) rfl
    ·
     refine T_cond_f (has rfl) c4 ?_
     refine T_exit ?_
     refine T_then_exit ?_
     refine T_then_exit ?_
     refine T_in_hit ?_
     refine T_then_n ?_
     exact T_meet (x5) (Option.some.inj H).symm (Sc SubT.nil) rfl
   ·
    clear H; intro x2 hi; subst o3; have H := Hr3; clear Hr3; try dsimp only at H
    show T β _ _ [(12, fInt .i64 x2)] [tBlk b1 56 [fInt .i64 y1.Op, fInt .i64 y1.N, fSl tScopeExp y1.Args, fSl (tInt .i64) y1.Kids], tBlk b2 129 [fInt .i64 (((y2.get y1.N).getD (⟨0, 0⟩ : Usage_channel)).def_), fInt .i64 (((y2.get y1.N).getD (⟨0, 0⟩ : Usage_channel)).index)]] _
    refine Sr ?_
    refine Ym ?_
    refine Ya ?_
    refine Nn ?_
    refine T_retc ?_
    cases H
    refine T_pick [] (by decide) ?_
    exact T_out1 rfl (hasS rfl) rfl
def usage_greater_usage_count_S (a0 : Int) (a1 : Int) : Option (Int) :=
 if a0 < a1 then
  some a1
 else
  some a0
theorem usage_greater_usage_count_w  (a0 : Int) (a1 : Int) (r : Int) (H : usage_greater_usage_count_S a0 a1 = some r) : FnS Try.prog 69 [fInt .i64 a0, fInt .i64 a1] [] (fInt .i64 r) (fun _ => []) := by
 unfold usage_greater_usage_count_S at H
 refine FnS_of Try.func69 rfl Try.ntmps69 rfl (fun β => ?_)
 refine Sr ?_
 refine Ya ?_
 refine Nn ?_
 refine T_seq ?_
 refine Sr ?_
 refine Ym ?_
 refine Ym ?_
 refine Yy (o_lss rfl hh hh) ?_
 refine Nn ?_
 revert H; refine is (fun c1 H => ?_) fun c1 H => ?_
 ·
  refine T_cond_t (has rfl) c1 ?_
  refine Sr ?_
  refine Ym ?_
  refine Ya ?_
  refine Nn ?_
  refine Rr ?_
  cases H
  exact T_out1 rfl (hasS rfl) rfl
 ·
  refine T_cond_f (has rfl) c1 ?_
  refine T_skip ?_
  refine T_then_n ?_
  refine Sr ?_
  refine Ym ?_
  refine Ya ?_
  refine Nn ?_
  refine T_retc ?_
  cases H
  exact T_out1 rfl (hasS rfl) rfl
def usage_count_times_S (a0 : Int) (a1 : Int) : Option (Int) :=
 (chk (a0 * a1)).bind fun z1 =>
 some (min z1 2)
theorem usage_count_times_w  (a0 : Int) (a1 : Int) (r : Int) (H : usage_count_times_S a0 a1 = some r) : FnS Try.prog 83 [fInt .i64 a0, fInt .i64 a1] [] (fInt .i64 r) (fun _ => []) := by
 unfold usage_count_times_S at H
 refine FnS_of Try.func83 rfl Try.ntmps83 rfl (fun β => ?_)
 refine Sr ?_
 refine Ya ?_
 refine Nn ?_
 refine Sr ?_
 refine Ym ?_
 refine Ym ?_
 revert H; refine bs fun z1 h1 H => ?_
 refine Yy (o_mul rfl hh hh h1) ?_
 refine Yy (o_min rfl hh hh) ?_
 refine Ya ?_
 refine Nn ?_
 refine T_retc ?_
 cases H
 exact T_out1 rfl (hasS rfl) rfl
def usage_text_inner_b1 (rec_usage_text_sends : Usage_text → (List UsageDef) → Int → Int → Option (Int)) (a0 : Usage_text) (a1 : List UsageDef) (a3 : Int) (x1 : Int) (x3 : Int) : Option (Int) :=
 (rec_usage_text_sends a0 a1 x1 a3).bind fun y6 =>
 (usage_count_plus_S x3 y6).bind fun y7 =>
 some y7
def usage_text_inner_l2 (rec_usage_text_sends : Usage_text → (List UsageDef) → Int → Int → Option (Int)) (a0 : Usage_text) (a1 : List UsageDef) (a3 : Int) (y1 : ScopeNode) (y8 : ScopeDef) : Nat → Int → Int → Option (Int)
| 0, _, _ => none
| k + 1, x8, x9 =>
 if x8 < (y8.Rules.length : Int) then
  (idx y8.Rules x8).bind fun y9 =>
  (idx a1 y1.N).bind fun y10 =>
  (idx y10.Rules x8).bind fun y11 =>
  (usage_of_S y11).bind fun y12 =>
  (rec_usage_text_sends a0 a1 y9.Node a3).bind fun y13 =>
  (usage_count_times_S y12 y13).bind fun y14 =>
  (usage_count_plus_S x9 y14).bind fun y15 =>
  (chk (x8 + 1)).bind fun z1 =>
  usage_text_inner_l2 rec_usage_text_sends a0 a1 a3 y1 y8 k z1 y15
 else
  some x9
mutual
def usage_text_sends_S : Nat → Usage_text → (List UsageDef) → Int → Int → Option (Int)
| 0, _, _, _, _ => none
| fuel + 1, a0, a1, a2, a3 =>
 (idx a0.ScopeProg.Nodes a2).bind fun y1 =>
 if y1.Op = 2 then
  (usage_text_send_S fuel a0 a1 a2 a3).bind fun y2 =>
  some y2
 else
  if y1.Op = 3 then
   ((usage_text_both_S fuel) a0 a1 a2 a3 (fun x => usage_count_plus_S x.1 x.2)).bind fun y3 =>
   some y3
  else
   if y1.Op = 5 then
    ((usage_text_both_S fuel) a0 a1 a2 a3 (fun x => usage_greater_usage_count_S x.1 x.2)).bind fun y4 =>
    some y4
   else
    (if y1.Op = 6 then
     some (decide (y1.Op = 6))
    else
     some (decide (y1.Op = 8))).bind fun x1 =>
    bif x1 then
     (idx a0.ScopeProg.Nodes a2).bind fun y5 =>
     (idx y5.Kids 0).bind fun y6 =>
     ((usage_text_sends_S fuel) a0 a1 y6 a3).bind fun y7 =>
     some y7
    else
     if y1.Op = 4 then
      ((usage_text_inner_S fuel) a0 a1 a2 a3).bind fun y8 =>
      some y8
     else
      some 0
def usage_text_both_S : Nat → Usage_text → (List UsageDef) → Int → Int → (Int × Int → Option Int) → Option (Int)
| 0, _, _, _, _, _ => none
| fuel + 1, a0, a1, a2, a3, a4 =>
 (idx a0.ScopeProg.Nodes a2).bind fun y1 =>
 (idx y1.Kids 0).bind fun y2 =>
 ((usage_text_sends_S fuel) a0 a1 y2 a3).bind fun y3 =>
 (idx y1.Kids 1).bind fun y4 =>
 ((usage_text_sends_S fuel) a0 a1 y4 a3).bind fun y5 =>
 (a4 (y3, y5)).bind fun y6 =>
 some y6
def usage_text_inner_S : Nat → Usage_text → (List UsageDef) → Int → Int → Option (Int)
| 0, _, _, _, _ => none
| fuel + 1, a0, a1, a2, a3 =>
 (idx a0.ScopeProg.Nodes a2).bind fun y1 =>
 (idx y1.Kids 0).bind fun y2 =>
 ((usage_text_sends_S fuel) a0 a1 y2 a3).bind fun y3 =>
 (usage_text_bodies_S a0 y1.N).bind fun y4 =>
 (usage_text_bodies_1_S fuel (fun (x : Int) (t : Int) => usage_text_inner_b1 (usage_text_sends_S fuel) a0 a1 a3 x t) y3 y4.1 y4.2).bind fun y5 =>
 ((idx a0.ScopeProg.Defs y1.N).bind fun y8 =>
 usage_text_inner_l2 (usage_text_sends_S fuel) a0 a1 a3 y1 y8 fuel 0 y5).bind fun x5 =>
 some x5
end
theorem usage_text_sends_all : ∀ (fuel : Nat), (∀  (a0 : Usage_text) (a1 : List UsageDef) (a2 : Int) (a3 : Int) (r : Int) (H : usage_text_sends_S fuel a0 a1 a2 a3 = some r), FnS Try.prog 45 [fPtr tUsage_text a0, fSl tUsageDef a1, fInt .i64 a2, fInt .i64 a3] [] (fInt .i64 r) (fun _ => [])) ∧ (∀  (a0 : Usage_text) (a1 : List UsageDef) (a2 : Int) (a3 : Int) (a4 : Int × Int → Option Int) (r : Int) (H : usage_text_both_S fuel a0 a1 a2 a3 a4 = some r), FnS Try.prog 67 [fPtr tUsage_text a0, fSl tUsageDef a1, fInt .i64 a2, fInt .i64 a3, fFn Try.prog (fun (x : Int × Int) => [fInt .i64 x.1, fInt .i64 x.2]) (fun (r : Int) => fInt .i64 r) a4] [] (fInt .i64 r) (fun _ => [])) ∧ (∀  (a0 : Usage_text) (a1 : List UsageDef) (a2 : Int) (a3 : Int) (r : Int) (H : usage_text_inner_S fuel a0 a1 a2 a3 = some r), FnS Try.prog 70 [fPtr tUsage_text a0, fSl tUsageDef a1, fInt .i64 a2, fInt .i64 a3] [] (fInt .i64 r) (fun _ => [])) := by
 intro fuel
 induction fuel with
 | zero => exact ⟨fun a0 a1 a2 a3 r H => (by rw [usage_text_sends_S] at H; cases H), fun a0 a1 a2 a3 a4 r H => (by rw [usage_text_both_S] at H; cases H), fun a0 a1 a2 a3 r H => (by rw [usage_text_inner_S] at H; cases H)⟩
 | succ fuel ih =>
 obtain ⟨ih_usage_text_sends, ih_usage_text_both, ih_usage_text_inner⟩ := ih
 refine ⟨?_, ?_, ?_⟩
 ·
  intro a0 a1 a2 a3 r H
  rw [usage_text_sends_S] at H
  refine FnS_of Try.func45 rfl Try.ntmps45 rfl (fun β => ?_)
  refine Sr ?_
  refine Ya ?_
  refine Nn ?_
  refine T_seq ?_
  refine Sr ?_
  refine Ym ?_
  refine Yy (o_nilCheck rfl (has rfl) (fun m v ⟨p, h, _⟩ => ⟨p, h⟩)) ?_
  refine Yy (o_field (t' := tScopeProg) (z := a0.ScopeProg) rfl hh ty_fa_79_0 rfl) ?_
  refine Yy (o_field (t' := (tSl tScopeNode)) (z := a0.ScopeProg.Nodes) rfl hh ty_fa_26_1 rfl) ?_
  refine Yy (o_load rfl hh ty_sc_23 rfl) ?_
  refine Ym ?_
  revert H; refine bs fun y1 h1 H => ?_
  refine Yy (o_index rfl hh hh ty_el_23 h1) ?_
  refine Yy (o_field (t' := (tInt .i64)) (z := y1.Op) rfl hh ty_fa_56_0 rfl) ?_
  refine Yy (o_load rfl hh ty_sc_53 rfl) ?_
  refine Nn ?_
  refine T_block ?_
  refine Sr ?_
  refine Yy (o_eql rfl hh hh) ?_
  refine Ya ?_
  refine Nn ?_
  revert H; refine is (fun c1 H => ?_) fun c1 H => ?_
  ·
   refine T_cond_t (has rfl) c1 ?_
   refine Sr ?_
   refine Ym ?_
   refine Ym ?_
   refine Ym ?_
   refine Ym ?_
   revert H; refine bs fun y2 h2 H => ?_
   refine T_call trivial rfl rfl rfl (has rfl) (HasL.cons (has rfl) (HasL.cons (has rfl) (HasL.cons (has rfl) (HasL.cons (has rfl) HasL.nil)))) rfl ty_cb_66 (usage_text_send_w fuel a0 a1 a2 a3 y2 h2) rfl ?_
   refine Ya ?_
   refine Nn ?_
   refine T_retc ?_
   refine T_in_ret ?_
   refine T_then_ret ?_
   cases H
   exact T_out1 rfl (hasS rfl) rfl
  ·
   refine T_cond_f (has rfl) c1 ?_
   refine Sr ?_
   refine Yy (o_eql rfl hh hh) ?_
   refine Ya ?_
   refine Nn ?_
   revert H; refine is (fun c2 H => ?_) fun c2 H => ?_
   ·
    refine T_cond_t (has rfl) c2 ?_
    refine Sr ?_
    refine Ym ?_
    refine Ym ?_
    refine Ym ?_
    refine Ym ?_
    revert H; refine bs fun y3 h3 H => ?_
    refine T_call trivial rfl rfl rfl (has rfl) (HasL.cons (has rfl) (HasL.cons (has rfl) (HasL.cons (has rfl) (HasL.cons (has rfl) (HasL.cons (hasE rfl (ent_fn0 ty_cb_68 (fun x r hx => usage_count_plus_w x.1 x.2 r hx))) HasL.nil))))) rfl ty_cb_67 (ih_usage_text_both a0 a1 a2 a3 (fun x => usage_count_plus_S x.1 x.2) y3 h3) rfl ?_
    refine Ya ?_
    refine Nn ?_
    refine T_retc ?_
    refine T_in_ret ?_
    refine T_then_ret ?_
    cases H
    exact T_out1 rfl (hasS rfl) rfl
   ·
    refine T_cond_f (has rfl) c2 ?_
    refine Sr ?_
    refine Yy (o_eql rfl hh hh) ?_
    refine Ya ?_
    refine Nn ?_
    revert H; refine is (fun c3 H => ?_) fun c3 H => ?_
    ·
     refine T_cond_t (has rfl) c3 ?_
     refine Sr ?_
     refine Ym ?_
     refine Ym ?_
     refine Ym ?_
     refine Ym ?_
     revert H; refine bs fun y4 h4 H => ?_
     refine T_call trivial rfl rfl rfl (has rfl) (HasL.cons (has rfl) (HasL.cons (has rfl) (HasL.cons (has rfl) (HasL.cons (has rfl) (HasL.cons (hasE rfl (ent_fn0 ty_cb_69 (fun x r hx => usage_greater_usage_count_w x.1 x.2 r hx))) HasL.nil))))) rfl ty_cb_67 (ih_usage_text_both a0 a1 a2 a3 (fun x => usage_greater_usage_count_S x.1 x.2) y4 h4) rfl ?_
     refine Ya ?_
     refine Nn ?_
     refine T_retc ?_
     refine T_in_ret ?_
     refine T_then_ret ?_
     cases H
     exact T_out1 rfl (hasS rfl) rfl
    ·
     refine T_cond_f (has rfl) c3 ?_
     revert H; refine bs fun o1 H Hr1 => ?_
     refine T_seqJ (ι := Bool) (fun i => o1 = i) (fun i => [(0, fPtr tUsage_text a0), (1, fSl tUsageDef a1), (2, fInt .i64 a2), (3, fInt .i64 a3), (17, fInt .i64 y1.Op), (39, fBool i)]) (fun i => []) ?_ ?_
     ·
      refine Sr ?_
      refine Yy (o_eql rfl hh hh) ?_
      refine Ya ?_
      refine Nn ?_
      revert H; refine is (fun c4 H => ?_) fun c4 H => ?_
      ·
       refine T_cond_t (has rfl) c4 ?_
       refine T_skip ?_
       refine T_then_n ?_
       exact T_meet (decide (y1.Op = 6)) (Option.some.inj H).symm (Sc (Sc (Sc (Sc (Sc (Sc SubT.nil)))))) rfl
      ·
       refine T_cond_f (has rfl) c4 ?_
       refine T_region ?_
       refine Yy (o_eql rfl hh hh) ?_
       refine Ya ?_
       refine Nn ?_
       exact T_meet (decide (y1.Op = 8)) (Option.some.inj H).symm (Sc (Sc (Sc (Sc (Sc (Sc SubT.nil)))))) rfl
     ·
      clear H; intro x1 hi; subst o1; have H := Hr1; clear Hr1; try dsimp only at H
      show T β _ _ [(0, fPtr tUsage_text a0), (1, fSl tUsageDef a1), (2, fInt .i64 a2), (3, fInt .i64 a3), (17, fInt .i64 y1.Op), (39, fBool x1)] [] _
      revert H; refine cs (fun c5 H => ?_) fun c5 H => ?_
      ·
       refine T_cond_t (has rfl) c5 ?_
       refine Sr ?_
       refine Ym ?_
       refine Ym ?_
       refine Ym ?_
       refine Yy (o_nilCheck rfl (has rfl) (fun m v ⟨p, h, _⟩ => ⟨p, h⟩)) ?_
       refine Yy (o_field (t' := tScopeProg) (z := a0.ScopeProg) rfl hh ty_fa_79_0 rfl) ?_
       refine Yy (o_field (t' := (tSl tScopeNode)) (z := a0.ScopeProg.Nodes) rfl hh ty_fa_26_1 rfl) ?_
       refine Yy (o_load rfl hh ty_sc_23 rfl) ?_
       refine Ym ?_
       revert H; refine bs fun y5 h5 H => ?_
       refine Yy (o_index rfl hh hh ty_el_23 h5) ?_
       refine Yy (o_field (t' := (tSl (tInt .i64))) (z := y5.Kids) rfl hh ty_fa_56_3 rfl) ?_
       refine Yy (o_load rfl hh ty_sc_46 rfl) ?_
       revert H; refine bs fun y6 h6 H => ?_
       refine Yy (o_index rfl hh hh ty_el_46 h6) ?_
       refine Yy (o_load rfl hh ty_sc_3 rfl) ?_
       refine Ym ?_
       revert H; refine bs fun y7 h7 H => ?_
       refine T_call trivial rfl rfl rfl (has rfl) (HasL.cons (has rfl) (HasL.cons (has rfl) (HasL.cons (has rfl) (HasL.cons (has rfl) HasL.nil)))) rfl ty_cb_45 (ih_usage_text_sends a0 a1 y6 a3 y7 h7) rfl ?_
       refine Ya ?_
       refine Nn ?_
       refine T_retc ?_
       refine T_in_ret ?_
       refine T_then_ret ?_
       cases H
       exact T_out1 rfl (hasS rfl) rfl
      ·
       refine T_cond_f (has rfl) c5 ?_
       refine Sr ?_
       refine Yy (o_eql rfl hh hh) ?_
       refine Ya ?_
       refine Nn ?_
       revert H; refine is (fun c6 H => ?_) fun c6 H => ?_
       ·
        refine T_cond_t (has rfl) c6 ?_
        refine Sr ?_
        refine Ym ?_
        refine Ym ?_
        refine Ym ?_
        refine Ym ?_
        revert H; refine bs fun y8 h8 H => ?_
        refine T_call trivial rfl rfl rfl (has rfl) (HasL.cons (has rfl) (HasL.cons (has rfl) (HasL.cons (has rfl) (HasL.cons (has rfl) HasL.nil)))) rfl ty_cb_70 (ih_usage_text_inner a0 a1 a2 a3 y8 h8) rfl ?_
        refine Ya ?_
        refine Nn ?_
        refine T_retc ?_
        refine T_in_ret ?_
        refine T_then_ret ?_
        cases H
        exact T_out1 rfl (hasS rfl) rfl
       ·
        refine T_cond_f (has rfl) c6 ?_
        refine T_skip ?_
        refine T_in_n ?_
        refine T_then_n ?_
        refine Sr ?_
        refine Ya ?_
        refine Nn ?_
        refine T_retc ?_
        cases H
        exact T_out1 rfl (hasS rfl) rfl
 ·
  intro a0 a1 a2 a3 a4 r H
  rw [usage_text_both_S] at H
  refine FnS_of Try.func67 rfl Try.ntmps67 rfl (fun β => ?_)
  refine Sr ?_
  refine Ya ?_
  refine Nn ?_
  refine Sr ?_
  refine Ym ?_
  refine Yy (o_nilCheck rfl (has rfl) (fun m v ⟨p, h, _⟩ => ⟨p, h⟩)) ?_
  refine Yy (o_field (t' := tScopeProg) (z := a0.ScopeProg) rfl hh ty_fa_79_0 rfl) ?_
  refine Yy (o_field (t' := (tSl tScopeNode)) (z := a0.ScopeProg.Nodes) rfl hh ty_fa_26_1 rfl) ?_
  refine Yy (o_load rfl hh ty_sc_23 rfl) ?_
  refine Ym ?_
  revert H; refine bs fun y1 h1 H => ?_
  refine Yy (o_index rfl hh hh ty_el_23 h1) ?_
  refine Yy (o_field (t' := (tSl (tInt .i64))) (z := y1.Kids) rfl hh ty_fa_56_3 rfl) ?_
  refine Yy (o_load rfl hh ty_sc_46 rfl) ?_
  refine Ya ?_
  refine Nn ?_
  refine T_seq ?_
  revert H; refine bs fun y2 h2 H => ?_
  revert H; refine bs fun y3 h3 H => ?_
  revert H; refine bs fun y4 h4 H => ?_
  revert H; refine bs fun y5 h5 H => ?_
  revert H; refine bs fun y6 h6 H => ?_
  refine T_net 17 [fun _ => .op [] false (fun _ => fFn Try.prog (fun (x : Int × Int) => [fInt .i64 x.1, fInt .i64 x.2]) (fun (r : Int) => fInt .i64 r) a4) (fun _ => []), fun _ => .op [] false (fun _ => fPtr tUsage_text a0) (fun _ => []), fun _ => .op [] false (fun _ => fSl tUsageDef a1) (fun _ => []), fun _ => .op [] false (fun _ => fSl (tInt .i64) y1.Kids) (fun _ => []), fun _ => .op [] false (fun _ => fPtr (tInt .i64) y2) (fun _ => []), fun _ => .op [] false (fun _ => fInt .i64 y2) (fun _ => []), fun _ => .op [] false (fun _ => fInt .i64 a3) (fun _ => []), fun _ => .op [] true (fun _ => fInt .i64 y3) (fun _ => []), fun _ => .op [] false (fun _ => fPtr tUsage_text a0) (fun _ => []), fun _ => .op [] false (fun _ => fSl tUsageDef a1) (fun _ => []), fun _ => .op [] false (fun _ => fSl (tInt .i64) y1.Kids) (fun _ => []), fun _ => .op [] false (fun _ => fPtr (tInt .i64) y4) (fun _ => []), fun _ => .op [] false (fun _ => fInt .i64 y4) (fun _ => []), fun _ => .op [] false (fun _ => fInt .i64 a3) (fun _ => []), fun _ => .op [] true (fun _ => fInt .i64 y5) (fun _ => []), fun _ => .op [] true (fun _ => fInt .i64 y6) (fun _ => []), fun _ => .op [] false (fun _ => fInt .i64 y6) (fun _ => [])] [([], false, []), ([], false, []), ([], false, []), ([], false, []), ([], false, []), ([], false, []), ([], false, []), ([], true, []), ([], false, []), ([], false, []), ([], false, []), ([], false, []), ([], false, []), ([], false, []), ([], true, []), ([], true, []), ([], false, [])] 0 0 mixed (F0 (F0 (F0 (F0 (F0 (F0 (F0 (F0 (F0 (F0 (F0 (F0 (F0 (F0 (F0 (F0 (F0 FitsL.nil))))))))))))))))) (by kernel_rfl) rfl rfl (by kernel_rfl) rfl ?_
  dsimp only [netL, List.take, List.replicate, List.append, List.drop]
  refine My (h := o_move rfl hh) (k := fun _ => ?_)
  refine My (h := o_move rfl hh) (k := fun _ => ?_)
  refine My (h := o_move rfl hh) (k := fun _ => ?_)
  refine My (h := o_move rfl hh) (k := fun _ => ?_)
  refine My (h := o_index rfl hh hh ty_el_46 h2) (k := fun _ => ?_)
  refine My (h := o_load rfl hh ty_sc_3 rfl) (k := fun _ => ?_)
  refine My (h := o_move rfl hh) (k := fun _ => ?_)
  refine N_call (Φ := fInt .i64 y3) rfl (fun _ => rfl) trivial rfl rfl (has rfl) (HasL.cons (has rfl) (HasL.cons (has rfl) (HasL.cons (has rfl) (HasL.cons (has rfl) HasL.nil)))) rfl ty_cb_45 (ih_usage_text_sends a0 a1 y2 a3 y3 h3) (fun _ => ?_)
  refine My (h := o_move rfl hh) (k := fun _ => ?_)
  refine My (h := o_move rfl hh) (k := fun _ => ?_)
  refine My (h := o_move rfl hh) (k := fun _ => ?_)
  refine My (h := o_index rfl hh hh ty_el_46 h4) (k := fun _ => ?_)
  refine My (h := o_load rfl hh ty_sc_3 rfl) (k := fun _ => ?_)
  refine My (h := o_move rfl hh) (k := fun _ => ?_)
  refine N_call (Φ := fInt .i64 y5) rfl (fun _ => rfl) trivial rfl rfl (has rfl) (HasL.cons (has rfl) (HasL.cons (has rfl) (HasL.cons (has rfl) (HasL.cons (has rfl) HasL.nil)))) rfl ty_cb_45 (ih_usage_text_sends a0 a1 y4 a3 y5 h5) (fun _ => ?_)
  refine N_callF (Φ := fInt .i64 y6) (y3, y5) rfl (fun _ => rfl) trivial rfl rfl (has rfl) (HasL.cons (has rfl) (HasL.cons (has rfl) HasL.nil)) h6 rfl (fun _ => ?_)
  refine My (h := o_assign rfl hh) (k := fun _ => ?_)
  refine N_done rfl ?_
  refine Nn ?_
  refine T_retc ?_
  cases H
  exact T_out1 rfl (hasS rfl) rfl
 ·
  intro a0 a1 a2 a3 r H
  rw [usage_text_inner_S] at H
  refine FnS_ofM Try.func70 rfl Try.ntmps70 rfl (fun β => ?_)
  refine Sr ?_
  refine T_new trivial rfl rfl (n_box rfl (has rfl) (part_leaf (leaf_ptr))) (fun b1 => ?_)
  refine T_new trivial rfl rfl (n_box rfl (has rfl) (part_leaf (leaf_sl))) (fun b2 => ?_)
  refine T_new trivial rfl rfl (n_box rfl (has rfl) (part_leaf (leaf_eq trivial))) (fun b3 => ?_)
  refine Ya ?_
  refine Nn ?_
  refine Sr ?_
  refine Yo 2 rfl (o_loadB rfl hh ty_sc_71 rfl Ent.rfl) ?_
  refine Yy (o_nilCheck rfl (has rfl) (fun m v ⟨p, h, _⟩ => ⟨p, h⟩)) ?_
  refine Yy (o_field (t' := tScopeProg) (z := a0.ScopeProg) rfl hh ty_fa_79_0 rfl) ?_
  refine Yy (o_field (t' := (tSl tScopeNode)) (z := a0.ScopeProg.Nodes) rfl hh ty_fa_26_1 rfl) ?_
  refine Yy (o_load rfl hh ty_sc_23 rfl) ?_
  refine Ym ?_
  revert H; refine bs fun y1 h1 H => ?_
  refine Yy (o_index rfl hh hh ty_el_23 h1) ?_
  refine Yy (o_loadS rfl hh ty_ag_56) ?_
  refine T_new trivial rfl rfl (n_alloc rfl ty_ze_56 rfl) (fun b4 => ?_)
  refine T_storeS (φs' := [fInt .i64 y1.Op, fInt .i64 y1.N, fSl tScopeExp y1.Args, fSl (tInt .i64) y1.Kids]) trivial rfl rfl (has rfl) (has rfl) (ll_cons (leaf_eq trivial) (ll_cons (leaf_eq trivial) (ll_cons (leaf_sl) (ll_cons (leaf_sl) ll_nil)))) ty_sz_56 rfl rfl rfl ?_
  refine Nn ?_
  refine T_seq ?_
  revert H; refine bs fun y2 h2 H => ?_
  revert H; refine bs fun y3 h3 H => ?_
  refine T_net 10 [fun _ => .op [3] false (fun _ => fPtr tUsage_text a0) (fun _ => [tEmp]), fun _ => .op [2] false (fun _ => fSl tUsageDef a1) (fun _ => [tEmp]), fun _ => .op [] false (fun _ => fEq (.pointer (some ⟨b4, 3, none⟩))) (fun _ => []), fun _ => .op [0] false (fun _ => fSl (tInt .i64) y1.Kids) (fun _ => [tEmp]), fun _ => .op [] false (fun _ => fPtr (tInt .i64) y2) (fun _ => []), fun _ => .op [] false (fun _ => fInt .i64 y2) (fun _ => []), fun _ => .op [1] false (fun _ => fInt .i64 a3) (fun _ => [tEmp]), fun _ => .op [] true (fun _ => fInt .i64 y3) (fun _ => []), fun _ => .op [4] true (fun c => fEq (ptr c.n)) (fun c => [tBlk c.n 80 [fInt .i64 0]]), fun e => .op [4] true (fun _ => fAny) (fun _ => [tBlk (e 8).n 80 [fInt .i64 y3]])] [([3], false, []), ([2], false, []), ([], false, []), ([0], false, []), ([], false, []), ([], false, []), ([1], false, []), ([], true, []), ([4], true, []), ([4], true, [8])] 1 5 mixed (F0 (F0 (F0 (F0 (F0 (F0 (F0 (F0 (F0 (FitsL.cons (fits1 (i := 8) (od := fun c8 => .op [4] true (fun _ => fAny) (fun _ => [tBlk c8.n 80 [fInt .i64 y3]])) (fun _ => ⟨rfl, rfl⟩)) FitsL.nil)))))))))) (by kernel_rfl) rfl rfl (by kernel_rfl) rfl ?_
  dsimp only [netL, List.take, List.replicate, List.append, List.drop]
  refine N_op (ps := [3]) (φ := fPtr tUsage_text a0) rfl (fun _ => rfl) trivial rfl rfl (o_loadB rfl (has rfl) ty_sc_71 rfl Ent.rfl) (fun _ => ?_)
  refine N_op (ps := [2]) (φ := fSl tUsageDef a1) rfl (fun _ => rfl) trivial rfl rfl (o_loadB rfl (has rfl) ty_sc_27 rfl Ent.rfl) (fun _ => ?_)
  refine N_y (φ := fEq (.pointer (some ⟨b4, 3, none⟩))) rfl (fun _ => rfl) trivial rfl (o_fieldB 3 rfl (has rfl) ty_fa_56_3 rfl) (fun _ => ?_)
  refine N_op (ps := [0]) (φ := fSl (tInt .i64) y1.Kids) rfl (fun _ => rfl) trivial rfl rfl (o_loadB rfl (has rfl) ty_sc_46 rfl Ent.rfl) (fun _ => ?_)
  refine My (h := o_index rfl hh hh ty_el_46 h2) (k := fun _ => ?_)
  refine My (h := o_load rfl hh ty_sc_3 rfl) (k := fun _ => ?_)
  refine N_op (ps := [1]) (φ := fInt .i64 a3) rfl (fun _ => rfl) trivial rfl rfl (o_loadB rfl (has rfl) ty_sc_3 rfl Ent.rfl) (fun _ => ?_)
  refine N_call (Φ := fInt .i64 y3) rfl (fun _ => rfl) trivial rfl rfl (has rfl) (HasL.cons (has rfl) (HasL.cons (has rfl) (HasL.cons (has rfl) (HasL.cons (has rfl) HasL.nil)))) rfl ty_cb_45 (ih_usage_text_sends a0 a1 y2 a3 y3 h3) (fun _ => ?_)
  refine N_new (p := 4) (f := fun b5 => ptr b5) (τ := fun b5 => tBlk b5 80 [fInt .i64 0]) rfl (fun _ => rfl) (fun _ => rfl) trivial rfl rfl (n_alloc rfl ty_ze_80 rfl) (fun b5 u1 => ?_)
  refine N_store (p := 4) (φs' := [fInt .i64 y3]) rfl (fun _ => rfl) (fun _ => rfl) trivial rfl rfl rfl (has rfl) (has rfl) (leaf_eq trivial) ty_sz_80 rfl rfl (fun _ => ?_)
  refine N_done rfl ?_
  refine Nn ?_
  refine T_seq ?_
  refine Sr ?_
  refine Yo 3 rfl (o_loadB rfl hh ty_sc_71 rfl Ent.rfl) ?_
  refine Yy (o_fieldB 1 rfl hh ty_fa_56_1 rfl) ?_
  refine Yo 0 rfl (o_loadB rfl hh ty_sc_3 rfl Ent.rfl) ?_
  revert H; refine bs fun y4 h4 H => ?_
  refine T_call trivial rfl rfl rfl (has rfl) (HasL.cons (hasE rfl ent_Usage_textP) (HasL.cons (has rfl) HasL.nil)) rfl ty_cb_56 (usage_text_bodies_w a0 y1.N y4 h4) rfl ?_
  refine Nn ?_
  refine T_block ?_
  refine T_sub [(0, fPtr tUsage_text a0), (1, fSl tUsageDef a1), (2, fInt .i64 a2), (3, fInt .i64 a3), (4, fEq (.pointer (some ⟨b1, 0, none⟩))), (5, fEq (.pointer (some ⟨b2, 0, none⟩))), (7, fEq (.pointer (some ⟨b3, 0, none⟩))), (8, fInt .i64 0), (14, fPtr tUsage_text a0), (15, fPtr tUsage_text a0), (16, fPtr tScopeProg a0.ScopeProg), (17, fPtr (tSl tScopeNode) a0.ScopeProg.Nodes), (18, fSl tScopeNode a0.ScopeProg.Nodes), (19, fInt .i64 a2), (20, fPtr tScopeNode y1), (21, fSt tScopeNode y1), (9, fEq (.pointer (some ⟨b4, 0, none⟩))), (22, fPtr tUsage_text a0), (23, fSl tUsageDef a1), (24, fEq (.pointer (some ⟨b4, 3, none⟩))), (25, fSl (tInt .i64) y1.Kids), (26, fPtr (tInt .i64) y2), (27, fInt .i64 y2), (28, fInt .i64 a3), (29, fInt .i64 y3), (10, fEq (.pointer (some ⟨b5, 0, none⟩))), (30, fPtr tUsage_text a0), (31, fEq (.pointer (some ⟨b4, 1, none⟩))), (32, fInt .i64 y1.N), (33, fClo 78 [fPtr (tPtr tUsage_textP) y4.1, fPtr (tInt .i64) y4.2])] (Sc (Sc (Sc (Sc (Sc (Sc (Sc (Sc (Sc (Sc (Sc (Sc (Sc (Sc (Sc (Sc (Sc (Sc (Sc (Sc (Sc (Sc (Sc (Sc (Sc (Sc (Sc (Sc (Sc (Sc SubT.nil)))))))))))))))))))))))))))))) ?_
  revert H; refine bs fun y5 h5 H => ?_
  refine T_rangeFunc (s := y3) (s' := y5) (fun (x : Int) => [fInt .i64 x]) (fun (x : Int) (t : Int) => usage_text_inner_b1 (usage_text_sends_S fuel) a0 a1 a3 x t) (fun (t : Int) => [tBlk b4 56 [fInt .i64 y1.Op, fInt .i64 y1.N, fSl tScopeExp y1.Args, fSl (tInt .i64) y1.Kids], tBlk b3 3 [fInt .i64 a3], tBlk b2 27 [fSl tUsageDef a1], tBlk b1 71 [fPtr tUsage_text a0], tBlk b5 80 [fInt .i64 t]]) (has rfl) ty_cb_78 rfl (fun _ => rfl) rfl (fun J => usage_text_bodies_1_w fuel J (fun (x : Int) (t : Int) => usage_text_inner_b1 (usage_text_sends_S fuel) a0 a1 a3 x t) y3 y4.1 y4.2 y5 h5) (fun β' l rec x1 t t' hs hp hY => ?_) (fun rb => ?_)
  ·
   generalize t = x3 at *
   have H : usage_text_inner_b1 (usage_text_sends_S fuel) a0 a1 a3 x1 x3 = some t' := hY; clear hY; unfold usage_text_inner_b1 at H; try dsimp only at H
   show T β' _ _ (roundG [34] ((fun (x : Int) => [fInt .i64 x]) x1) [(0, fPtr tUsage_text a0), (1, fSl tUsageDef a1), (2, fInt .i64 a2), (3, fInt .i64 a3), (4, fEq (.pointer (some ⟨b1, 0, none⟩))), (5, fEq (.pointer (some ⟨b2, 0, none⟩))), (7, fEq (.pointer (some ⟨b3, 0, none⟩))), (8, fInt .i64 0), (14, fPtr tUsage_text a0), (15, fPtr tUsage_text a0), (16, fPtr tScopeProg a0.ScopeProg), (17, fPtr (tSl tScopeNode) a0.ScopeProg.Nodes), (18, fSl tScopeNode a0.ScopeProg.Nodes), (19, fInt .i64 a2), (20, fPtr tScopeNode y1), (21, fSt tScopeNode y1), (9, fEq (.pointer (some ⟨b4, 0, none⟩))), (22, fPtr tUsage_text a0), (23, fSl tUsageDef a1), (24, fEq (.pointer (some ⟨b4, 3, none⟩))), (25, fSl (tInt .i64) y1.Kids), (26, fPtr (tInt .i64) y2), (27, fInt .i64 y2), (28, fInt .i64 a3), (29, fInt .i64 y3), (10, fEq (.pointer (some ⟨b5, 0, none⟩))), (30, fPtr tUsage_text a0), (31, fEq (.pointer (some ⟨b4, 1, none⟩))), (32, fInt .i64 y1.N), (33, fClo 78 [fPtr (tPtr tUsage_textP) y4.1, fPtr (tInt .i64) y4.2])]) (tObj l (.loop rec) :: [tBlk b4 56 [fInt .i64 y1.Op, fInt .i64 y1.N, fSl tScopeExp y1.Args, fSl (tInt .i64) y1.Kids], tBlk b3 3 [fInt .i64 a3], tBlk b2 27 [fSl tUsageDef a1], tBlk b1 71 [fPtr tUsage_text a0], tBlk b5 80 [fInt .i64 x3]]) _
   refine T_region ?_
   refine Ya ?_
   refine Nn ?_
   refine T_begin hs ?_
   refine T_block ?_
   revert H; refine bs fun y6 h6 H => ?_
   revert H; refine bs fun y7 h7 H => ?_
   refine T_net 8 [fun _ => .op [5] false (fun _ => fInt .i64 x3) (fun _ => [tEmp]), fun _ => .op [4] false (fun _ => fPtr tUsage_text a0) (fun _ => [tEmp]), fun _ => .op [3] false (fun _ => fSl tUsageDef a1) (fun _ => [tEmp]), fun _ => .op [] false (fun _ => fInt .i64 x1) (fun _ => []), fun _ => .op [2] false (fun _ => fInt .i64 a3) (fun _ => [tEmp]), fun _ => .op [] true (fun _ => fInt .i64 y6) (fun _ => []), fun _ => .op [] true (fun _ => fInt .i64 y7) (fun _ => []), fun _ => .op [5] true (fun _ => fAny) (fun _ => [tBlk b5 80 [fInt .i64 y7]])] [([5], false, []), ([4], false, []), ([3], false, []), ([], false, []), ([2], false, []), ([], true, []), ([], true, []), ([5], true, [])] 0 6 mixed (F0 (F0 (F0 (F0 (F0 (F0 (F0 (F0 FitsL.nil)))))))) (by kernel_rfl) rfl rfl (by kernel_rfl) rfl ?_
   dsimp only [netL, List.take, List.replicate, List.append, List.drop]
   refine N_op (ps := [5]) (φ := fInt .i64 x3) rfl (fun _ => rfl) trivial rfl rfl (o_loadB rfl (has rfl) ty_sc_80 rfl Ent.rfl) (fun _ => ?_)
   refine N_op (ps := [4]) (φ := fPtr tUsage_text a0) rfl (fun _ => rfl) trivial rfl rfl (o_loadB rfl (has rfl) ty_sc_71 rfl Ent.rfl) (fun _ => ?_)
   refine N_op (ps := [3]) (φ := fSl tUsageDef a1) rfl (fun _ => rfl) trivial rfl rfl (o_loadB rfl (has rfl) ty_sc_27 rfl Ent.rfl) (fun _ => ?_)
   refine My (h := o_move rfl hh) (k := fun _ => ?_)
   refine N_op (ps := [2]) (φ := fInt .i64 a3) rfl (fun _ => rfl) trivial rfl rfl (o_loadB rfl (has rfl) ty_sc_3 rfl Ent.rfl) (fun _ => ?_)
   refine N_call (Φ := fInt .i64 y6) rfl (fun _ => rfl) trivial rfl rfl (has rfl) (HasL.cons (has rfl) (HasL.cons (has rfl) (HasL.cons (has rfl) (HasL.cons (has rfl) HasL.nil)))) rfl ty_cb_45 (ih_usage_text_sends a0 a1 x1 a3 y6 h6) (fun _ => ?_)
   refine N_call (Φ := fInt .i64 y7) rfl (fun _ => rfl) trivial rfl rfl (has rfl) (HasL.cons (has rfl) (HasL.cons (has rfl) HasL.nil)) rfl ty_cb_68 (usage_count_plus_w x3 y6 y7 h7) (fun _ => ?_)
   refine N_store (p := 5) (φs' := [fInt .i64 y7]) rfl (fun _ => rfl) (fun _ => rfl) trivial rfl rfl rfl (has rfl) (has rfl) (leaf_eq trivial) ty_sz_80 rfl rfl (fun _ => ?_)
   refine N_done rfl ?_
   refine T_nil ?_
   refine T_in_n ?_
   refine T_pick [1, 2, 3, 4, 5, 0] (by decide) ?_
   cases H
   refine T_pick [5, 0, 1, 2, 3, 4] (by decide) ?_
   exact T_roundEnd hs hp rfl
  ·
   generalize rb = rb1
   show T β _ _ [(0, fPtr tUsage_text a0), (1, fSl tUsageDef a1), (2, fInt .i64 a2), (3, fInt .i64 a3), (4, fEq (.pointer (some ⟨b1, 0, none⟩))), (5, fEq (.pointer (some ⟨b2, 0, none⟩))), (7, fEq (.pointer (some ⟨b3, 0, none⟩))), (8, fInt .i64 0), (14, fPtr tUsage_text a0), (15, fPtr tUsage_text a0), (16, fPtr tScopeProg a0.ScopeProg), (17, fPtr (tSl tScopeNode) a0.ScopeProg.Nodes), (18, fSl tScopeNode a0.ScopeProg.Nodes), (19, fInt .i64 a2), (20, fPtr tScopeNode y1), (21, fSt tScopeNode y1), (9, fEq (.pointer (some ⟨b4, 0, none⟩))), (22, fPtr tUsage_text a0), (23, fSl tUsageDef a1), (24, fEq (.pointer (some ⟨b4, 3, none⟩))), (25, fSl (tInt .i64) y1.Kids), (26, fPtr (tInt .i64) y2), (27, fInt .i64 y2), (28, fInt .i64 a3), (29, fInt .i64 y3), (10, fEq (.pointer (some ⟨b5, 0, none⟩))), (30, fPtr tUsage_text a0), (31, fEq (.pointer (some ⟨b4, 1, none⟩))), (32, fInt .i64 y1.N), (33, fClo 78 [fPtr (tPtr tUsage_textP) y4.1, fPtr (tInt .i64) y4.2])] ([tMark rb1] ++ [tBlk b4 56 [fInt .i64 y1.Op, fInt .i64 y1.N, fSl tScopeExp y1.Args, fSl (tInt .i64) y1.Kids], tBlk b3 3 [fInt .i64 a3], tBlk b2 27 [fSl tUsageDef a1], tBlk b1 71 [fPtr tUsage_text a0], tBlk b5 80 [fInt .i64 y5]]) _
   dsimp only [List.append, List.cons_append, List.nil_append]
   refine T_in_n ?_
   refine T_then_n ?_
   revert H; refine bs fun o1 H Hr1 => ?_
   refine T_seqJ (ι := Int) (fun i => o1 = i) (fun i => [(10, fEq (.pointer (some ⟨b5, 0, none⟩)))]) (fun i => [tBlk b4 56 [fInt .i64 y1.Op, fInt .i64 y1.N, fSl tScopeExp y1.Args, fSl (tInt .i64) y1.Kids], tBlk b3 3 [fInt .i64 a3], tBlk b2 27 [fSl tUsageDef a1], tBlk b1 71 [fPtr tUsage_text a0], tBlk b5 80 [fInt .i64 i], tMark rb1]) ?_ ?_
   ·
    refine T_seq ?_
    revert H; refine bs fun y8 h8 H => ?_
    refine T_net 12 [fun _ => .op [4] false (fun _ => fPtr tUsage_text a0) (fun _ => [tEmp]), fun _ => .op [] false (fun _ => fPtr tUsage_text a0) (fun _ => []), fun _ => .op [] false (fun _ => fPtr tScopeProg a0.ScopeProg) (fun _ => []), fun _ => .op [] false (fun _ => fPtr (tSl tScopeDef) a0.ScopeProg.Defs) (fun _ => []), fun _ => .op [] false (fun _ => fSl tScopeDef a0.ScopeProg.Defs) (fun _ => []), fun _ => .op [] false (fun _ => fEq (.pointer (some ⟨b4, 1, none⟩))) (fun _ => []), fun _ => .op [1] false (fun _ => fInt .i64 y1.N) (fun _ => [tEmp]), fun _ => .op [] false (fun _ => fPtr tScopeDef y8) (fun _ => []), fun _ => .op [] false (fun _ => fPtr (tSl tScopeRule) y8.Rules) (fun _ => []), fun _ => .op [] false (fun _ => fSl tScopeRule y8.Rules) (fun _ => []), fun _ => .op [] false (fun _ => fInt .i64 (y8.Rules.length : Int)) (fun _ => []), fun _ => .op [] false (fun _ => fInt .i64 0) (fun _ => [])] [([4], false, []), ([], false, []), ([], false, []), ([], false, []), ([], false, []), ([], false, []), ([1], false, []), ([], false, []), ([], false, []), ([], false, []), ([], false, []), ([], false, [])] 0 6 mixed (F0 (F0 (F0 (F0 (F0 (F0 (F0 (F0 (F0 (F0 (F0 (F0 FitsL.nil)))))))))))) (by kernel_rfl) rfl rfl (by kernel_rfl) rfl ?_
    dsimp only [netL, List.take, List.replicate, List.append, List.drop]
    refine N_op (ps := [4]) (φ := fPtr tUsage_text a0) rfl (fun _ => rfl) trivial rfl rfl (o_loadB rfl (has rfl) ty_sc_71 rfl Ent.rfl) (fun _ => ?_)
    refine My (h := o_nilCheck rfl (has rfl) (fun m v ⟨p, h, _⟩ => ⟨p, h⟩)) (k := fun _ => ?_)
    refine My (h := o_field (t' := tScopeProg) (z := a0.ScopeProg) rfl hh ty_fa_79_0 rfl) (k := fun _ => ?_)
    refine My (h := o_field (t' := (tSl tScopeDef)) (z := a0.ScopeProg.Defs) rfl hh ty_fa_26_2 rfl) (k := fun _ => ?_)
    refine My (h := o_load rfl hh ty_sc_24 rfl) (k := fun _ => ?_)
    refine N_y (φ := fEq (.pointer (some ⟨b4, 1, none⟩))) rfl (fun _ => rfl) trivial rfl (o_fieldB 1 rfl (has rfl) ty_fa_56_1 rfl) (fun _ => ?_)
    refine N_op (ps := [1]) (φ := fInt .i64 y1.N) rfl (fun _ => rfl) trivial rfl rfl (o_loadB rfl (has rfl) ty_sc_3 rfl Ent.rfl) (fun _ => ?_)
    refine My (h := o_index rfl hh hh ty_el_24 h8) (k := fun _ => ?_)
    refine My (h := o_field (t' := (tSl tScopeRule)) (z := y8.Rules) rfl hh ty_fa_52_2 rfl) (k := fun _ => ?_)
    refine My (h := o_load rfl hh ty_sc_49 rfl) (k := fun _ => ?_)
    refine My (h := o_len rfl hh ty_us_49) (k := fun _ => ?_)
    refine My (h := o_move rfl hh) (k := fun _ => ?_)
    refine N_done rfl ?_
    refine Nn ?_
    refine T_block ?_
    refine T_pick [1, 2, 3, 4, 5, 0] (by decide) ?_
    refine T_loop (ι := Nat × Int × Int) (fun i => usage_text_inner_l2 (usage_text_sends_S fuel) a0 a1 a3 y1 y8 i.1 i.2.1 i.2.2 = _) (fun i => i.1) (fun i => [(4, fEq (.pointer (some ⟨b1, 0, none⟩))), (5, fEq (.pointer (some ⟨b2, 0, none⟩))), (7, fEq (.pointer (some ⟨b3, 0, none⟩))), (9, fEq (.pointer (some ⟨b4, 0, none⟩))), (10, fEq (.pointer (some ⟨b5, 0, none⟩))), (51, fSl tScopeRule y8.Rules), (52, fInt .i64 (y8.Rules.length : Int)), (53, fInt .i64 i.2.1)]) (fun i => [tBlk b4 56 [fInt .i64 y1.Op, fInt .i64 y1.N, fSl tScopeExp y1.Args, fSl (tInt .i64) y1.Kids], tBlk b3 3 [fInt .i64 a3], tBlk b2 27 [fSl tUsageDef a1], tBlk b1 71 [fPtr tUsage_text a0], tBlk b5 80 [fInt .i64 i.2.2], tMark rb1]) (fuel, 0, y5) H (Sc (Sc (Sc (Sc (Sc (Sc (Sc (Sc SubT.nil)))))))) rfl ?_
    clear H; rintro ⟨k1, x8, x9⟩ H
    replace H : usage_text_inner_l2 (usage_text_sends_S fuel) a0 a1 a3 y1 y8 k1 x8 x9 = _ := H
    show T β _ _ [(4, fEq (.pointer (some ⟨b1, 0, none⟩))), (5, fEq (.pointer (some ⟨b2, 0, none⟩))), (7, fEq (.pointer (some ⟨b3, 0, none⟩))), (9, fEq (.pointer (some ⟨b4, 0, none⟩))), (10, fEq (.pointer (some ⟨b5, 0, none⟩))), (51, fSl tScopeRule y8.Rules), (52, fInt .i64 (y8.Rules.length : Int)), (53, fInt .i64 x8)] [tBlk b4 56 [fInt .i64 y1.Op, fInt .i64 y1.N, fSl tScopeExp y1.Args, fSl (tInt .i64) y1.Kids], tBlk b3 3 [fInt .i64 a3], tBlk b2 27 [fSl tUsageDef a1], tBlk b1 71 [fPtr tUsage_text a0], tBlk b5 80 [fInt .i64 x9], tMark rb1] _
    obtain _ | k1 := k1
    ·
     rw [usage_text_inner_l2] at H; cases H
    rw [usage_text_inner_l2] at H
    refine Sr ?_
    refine Yy (o_lss rfl hh hh) ?_
    refine Nn ?_
    refine T_seq ?_
    revert H; refine is (fun c1 H => ?_) fun c1 H => ?_
    ·
     refine T_cond_t (has rfl) c1 ?_
     refine T_skip ?_
     refine T_then_n ?_
     refine T_seq ?_
     refine T_block ?_
     refine Sr ?_
     refine Ym ?_
     revert H; refine bs fun y9 h9 H => ?_
     refine Yy (o_index rfl hh hh ty_el_49 h9) ?_
     refine Yy (o_loadS rfl hh ty_ag_48) ?_
     refine T_new trivial rfl rfl (n_alloc rfl ty_ze_48 rfl) (fun b6 => ?_)
     refine Ya ?_
     refine T_storeS (φs' := [fInt .i64 y9.At, fSl (tInt .i64) y9.Joins, fInt .i64 y9.Node]) trivial rfl rfl (has rfl) (has rfl) (ll_cons (leaf_eq trivial) (ll_cons (leaf_sl) (ll_cons (leaf_eq trivial) ll_nil))) ty_sz_48 rfl rfl rfl ?_
     refine Nn ?_
     revert H; refine bs fun y10 h10 H => ?_
     revert H; refine bs fun y11 h11 H => ?_
     revert H; refine bs fun y12 h12 H => ?_
     revert H; refine bs fun y13 h13 H => ?_
     revert H; refine bs fun y14 h14 H => ?_
     revert H; refine bs fun y15 h15 H => ?_
     refine T_net 20 [fun _ => .op [5] false (fun _ => fInt .i64 x9) (fun _ => [tEmp]), fun _ => .op [3] false (fun _ => fSl tUsageDef a1) (fun _ => [tEmp]), fun _ => .op [] false (fun _ => fEq (.pointer (some ⟨b4, 1, none⟩))) (fun _ => []), fun _ => .op [1] false (fun _ => fInt .i64 y1.N) (fun _ => [tEmp]), fun _ => .op [] false (fun _ => fPtr tUsageDef y10) (fun _ => []), fun _ => .op [] false (fun _ => fPtr (tSl (tInt .i64)) y10.Rules) (fun _ => []), fun _ => .op [] false (fun _ => fSl (tInt .i64) y10.Rules) (fun _ => []), fun _ => .op [] false (fun _ => fInt .i64 x8) (fun _ => []), fun _ => .op [] false (fun _ => fPtr (tInt .i64) y11) (fun _ => []), fun _ => .op [] false (fun _ => fInt .i64 y11) (fun _ => []), fun _ => .op [] true (fun _ => fInt .i64 y12) (fun _ => []), fun _ => .op [4] false (fun _ => fPtr tUsage_text a0) (fun _ => [tEmp]), fun _ => .op [3] false (fun _ => fSl tUsageDef a1) (fun _ => [tEmp]), fun _ => .op [] false (fun _ => fEq (.pointer (some ⟨b6, 2, none⟩))) (fun _ => []), fun _ => .op [0] false (fun _ => fInt .i64 y9.Node) (fun _ => [tEmp]), fun _ => .op [2] false (fun _ => fInt .i64 a3) (fun _ => [tEmp]), fun _ => .op [] true (fun _ => fInt .i64 y13) (fun _ => []), fun _ => .op [] true (fun _ => fInt .i64 y14) (fun _ => []), fun _ => .op [] true (fun _ => fInt .i64 y15) (fun _ => []), fun _ => .op [5] true (fun _ => fAny) (fun _ => [tBlk b5 80 [fInt .i64 y15]])] [([5], false, []), ([3], false, []), ([], false, []), ([1], false, []), ([], false, []), ([], false, []), ([], false, []), ([], false, []), ([], false, []), ([], false, []), ([], true, []), ([4], false, []), ([3], false, []), ([], false, []), ([0], false, []), ([2], false, []), ([], true, []), ([], true, []), ([], true, []), ([5], true, [])] 0 7 mixed (F0 (F0 (F0 (F0 (F0 (F0 (F0 (F0 (F0 (F0 (F0 (F0 (F0 (F0 (F0 (F0 (F0 (F0 (F0 (F0 FitsL.nil)))))))))))))))))))) (by kernel_rfl) rfl rfl (by kernel_rfl) rfl ?_
     dsimp only [netL, List.take, List.replicate, List.append, List.drop]
     refine N_op (ps := [5]) (φ := fInt .i64 x9) rfl (fun _ => rfl) trivial rfl rfl (o_loadB rfl (has rfl) ty_sc_80 rfl Ent.rfl) (fun _ => ?_)
     refine N_op (ps := [3]) (φ := fSl tUsageDef a1) rfl (fun _ => rfl) trivial rfl rfl (o_loadB rfl (has rfl) ty_sc_27 rfl Ent.rfl) (fun _ => ?_)
     refine N_y (φ := fEq (.pointer (some ⟨b4, 1, none⟩))) rfl (fun _ => rfl) trivial rfl (o_fieldB 1 rfl (has rfl) ty_fa_56_1 rfl) (fun _ => ?_)
     refine N_op (ps := [1]) (φ := fInt .i64 y1.N) rfl (fun _ => rfl) trivial rfl rfl (o_loadB rfl (has rfl) ty_sc_3 rfl Ent.rfl) (fun _ => ?_)
     refine My (h := o_index rfl hh hh ty_el_27 h10) (k := fun _ => ?_)
     refine My (h := o_field (t' := (tSl (tInt .i64))) (z := y10.Rules) rfl hh ty_fa_40_1 rfl) (k := fun _ => ?_)
     refine My (h := o_load rfl hh ty_sc_37 rfl) (k := fun _ => ?_)
     refine My (h := o_move rfl hh) (k := fun _ => ?_)
     refine My (h := o_index rfl hh hh ty_el_37 h11) (k := fun _ => ?_)
     refine My (h := o_load rfl hh ty_sc_41 rfl) (k := fun _ => ?_)
     refine N_call (Φ := fInt .i64 y12) rfl (fun _ => rfl) trivial rfl rfl (has rfl) (HasL.cons (has rfl) HasL.nil) rfl ty_cb_31 (usage_of_w y11 y12 h12) (fun _ => ?_)
     refine N_op (ps := [4]) (φ := fPtr tUsage_text a0) rfl (fun _ => rfl) trivial rfl rfl (o_loadB rfl (has rfl) ty_sc_71 rfl Ent.rfl) (fun _ => ?_)
     refine N_op (ps := [3]) (φ := fSl tUsageDef a1) rfl (fun _ => rfl) trivial rfl rfl (o_loadB rfl (has rfl) ty_sc_27 rfl Ent.rfl) (fun _ => ?_)
     refine N_y (φ := fEq (.pointer (some ⟨b6, 2, none⟩))) rfl (fun _ => rfl) trivial rfl (o_fieldB 2 rfl (has rfl) ty_fa_48_2 rfl) (fun _ => ?_)
     refine N_op (ps := [0]) (φ := fInt .i64 y9.Node) rfl (fun _ => rfl) trivial rfl rfl (o_loadB rfl (has rfl) ty_sc_3 rfl Ent.rfl) (fun _ => ?_)
     refine N_op (ps := [2]) (φ := fInt .i64 a3) rfl (fun _ => rfl) trivial rfl rfl (o_loadB rfl (has rfl) ty_sc_3 rfl Ent.rfl) (fun _ => ?_)
     refine N_call (Φ := fInt .i64 y13) rfl (fun _ => rfl) trivial rfl rfl (has rfl) (HasL.cons (has rfl) (HasL.cons (has rfl) (HasL.cons (has rfl) (HasL.cons (has rfl) HasL.nil)))) rfl ty_cb_45 (ih_usage_text_sends a0 a1 y9.Node a3 y13 h13) (fun _ => ?_)
     refine N_call (Φ := fInt .i64 y14) rfl (fun _ => rfl) trivial rfl rfl (has rfl) (HasL.cons (has rfl) (HasL.cons (has rfl) HasL.nil)) rfl ty_cb_83 (usage_count_times_w y12 y13 y14 h14) (fun _ => ?_)
     refine N_call (Φ := fInt .i64 y15) rfl (fun _ => rfl) trivial rfl rfl (has rfl) (HasL.cons (has rfl) (HasL.cons (has rfl) HasL.nil)) rfl ty_cb_68 (usage_count_plus_w x9 y14 y15 h15) (fun _ => ?_)
     refine N_store (p := 5) (φs' := [fInt .i64 y15]) rfl (fun _ => rfl) (fun _ => rfl) trivial rfl rfl rfl (has rfl) (has rfl) (leaf_eq trivial) ty_sz_80 rfl rfl (fun _ => ?_)
     refine N_done rfl ?_
     refine T_nil ?_
     refine T_in_n ?_
     refine T_then_n ?_
     refine T_region ?_
     revert H; refine bs fun z1 h16 H => ?_
     refine Yy (o_add rfl hh hh h16) ?_
     refine Ym ?_
     refine Nn ?_
     refine T_pick [1, 2, 3, 4, 5, 6] (by decide) ?_
     exact T_meet ((k1, z1, y15)) ⟨H, Nat.lt_succ_self _⟩ (Sc (Sc (Sc (Sc (Sc (Sc (Sc (Sc SubT.nil)))))))) rfl
    ·
     refine T_cond_f (has rfl) c1 ?_
     refine T_exit ?_
     refine T_then_exit ?_
     refine T_then_exit ?_
     refine T_in_hit ?_
     refine T_then_n ?_
     exact T_meet (x9) (Option.some.inj H).symm (Sc SubT.nil) rfl
   ·
    clear H; intro x5 hi; subst o1; have H := Hr1; clear Hr1; try dsimp only at H
    show T β _ _ [(10, fEq (.pointer (some ⟨b5, 0, none⟩)))] [tBlk b4 56 [fInt .i64 y1.Op, fInt .i64 y1.N, fSl tScopeExp y1.Args, fSl (tInt .i64) y1.Kids], tBlk b3 3 [fInt .i64 a3], tBlk b2 27 [fSl tUsageDef a1], tBlk b1 71 [fPtr tUsage_text a0], tBlk b5 80 [fInt .i64 x5], tMark rb1] _
    refine Sr ?_
    refine Yo 4 rfl (o_loadB rfl hh ty_sc_80 rfl Ent.rfl) ?_
    refine Ya ?_
    refine Nn ?_
    refine T_retc ?_
    cases H
    refine T_pick [5] (by decide) ?_
    exact T_outM1 [rb1] rfl (hasS rfl) rfl rfl
theorem usage_text_sends_w (fuel : Nat)  (a0 : Usage_text) (a1 : List UsageDef) (a2 : Int) (a3 : Int) (r : Int) (H : usage_text_sends_S fuel a0 a1 a2 a3 = some r) : FnS Try.prog 45 [fPtr tUsage_text a0, fSl tUsageDef a1, fInt .i64 a2, fInt .i64 a3] [] (fInt .i64 r) (fun _ => []) := (usage_text_sends_all fuel).1 a0 a1 a2 a3 r H
theorem usage_text_inner_w (fuel : Nat)  (a0 : Usage_text) (a1 : List UsageDef) (a2 : Int) (a3 : Int) (r : Int) (H : usage_text_inner_S fuel a0 a1 a2 a3 = some r) : FnS Try.prog 70 [fPtr tUsage_text a0, fSl tUsageDef a1, fInt .i64 a2, fInt .i64 a3] [] (fInt .i64 r) (fun _ => []) := (usage_text_sends_all fuel).2.2 a0 a1 a2 a3 r H
def usage_count_kind_S (a0 : Int) : Option (Int) :=
 if a0 = 0 then
  some 1
 else
  if a0 = 1 then
   some 3
  else
   some 4
theorem usage_count_kind_w  (a0 : Int) (r : Int) (H : usage_count_kind_S a0 = some r) : FnS Try.prog 46 [fInt .i64 a0] [] (fInt .i64 r) (fun _ => []) := by
 unfold usage_count_kind_S at H
 refine FnS_of Try.func46 rfl Try.ntmps46 rfl (fun β => ?_)
 refine Sr ?_
 refine Ya ?_
 refine Nn ?_
 refine T_seq ?_
 refine Sr ?_
 refine Ym ?_
 refine Nn ?_
 refine T_block ?_
 refine Sr ?_
 refine Yy (o_eql rfl hh hh) ?_
 refine Ya ?_
 refine Nn ?_
 revert H; refine is (fun c1 H => ?_) fun c1 H => ?_
 ·
  refine T_cond_t (has rfl) c1 ?_
  refine Sr ?_
  refine Ya ?_
  refine Nn ?_
  refine T_retc ?_
  refine T_in_ret ?_
  refine T_then_ret ?_
  cases H
  exact T_out1 rfl (hasS rfl) rfl
 ·
  refine T_cond_f (has rfl) c1 ?_
  refine Sr ?_
  refine Yy (o_eql rfl hh hh) ?_
  refine Ya ?_
  refine Nn ?_
  revert H; refine is (fun c2 H => ?_) fun c2 H => ?_
  ·
   refine T_cond_t (has rfl) c2 ?_
   refine Sr ?_
   refine Ya ?_
   refine Nn ?_
   refine T_retc ?_
   refine T_in_ret ?_
   refine T_then_ret ?_
   cases H
   exact T_out1 rfl (hasS rfl) rfl
  ·
   refine T_cond_f (has rfl) c2 ?_
   refine T_skip ?_
   refine T_in_n ?_
   refine T_then_n ?_
   refine Sr ?_
   refine Ya ?_
   refine Nn ?_
   refine T_retc ?_
   cases H
   exact T_out1 rfl (hasS rfl) rfl
end Go.Proofs.Ytmnbfgeljmhekaa
set_option maxRecDepth 100000
set_option maxHeartbeats 2000000
namespace Go.Proofs.Ytmnbfgeljmhekaa
open Go.SX Go.SW Go.Dt
def usage_text_asks_l1 (fuel : Nat) (a0 : Usage_text) (a1 : List UsageDef) (a2 : Int) (y1 : ScopeDef) : Nat → (List (List Int)) → Int → (List Int) → Option (List (List Int) × List Int)
| 0, _, _, _ => none
| k + 1, x6, x7, x8 =>
 if x7 < (y1.Chans.length : Int) then
  (idx y1.Chans x7).bind fun y3 =>
  (idx a0.heads a2).bind fun y4 =>
  (usage_text_place_S a0 a2 x7).bind fun y5 =>
  (usage_text_inner_S fuel a0 a1 y4 y5).bind fun y6 =>
  (usage_count_kind_S y6).bind fun y7 =>
  (room (x8 ++ [y7])).bind fun z1 =>
  (mk 0 y3.Many).bind fun y8 =>
  (idx x6 x7).bind fun y9 =>
  (chk (x7 + 1)).bind fun z2 =>
  usage_text_asks_l1 fuel a0 a1 a2 y1 k (x6.set x7.toNat y8) z2 z1
 else
  some (x6, x8)
def usage_text_asks_l3 (a1 : List UsageDef) (a2 : Int) (y10 : ScopeRule) : Nat → Int → Int → Option (Int)
| 0, _, _ => none
| k + 1, x22, x23 =>
 if x23 < (y10.Joins.length : Int) then
  (idx y10.Joins x23).bind fun y11 =>
  (idx a1 a2).bind fun y12 =>
  (idx y12.Chans y11).bind fun y13 =>
  (usage_of_S y13).bind fun y14 =>
  (chk (x23 + 1)).bind fun z3 =>
  usage_text_asks_l3 a1 a2 y10 k (min x22 y14) z3
 else
  some x22
def usage_text_asks_l5 (fuel : Nat) (a0 : Usage_text) (a1 : List UsageDef) (y10 : ScopeRule) (x27 : List (List Int)) (y20 : Int) (y21 : List Int) : Nat → Int → Int → (List Int) → Option (List (List Int) × Int)
| 0, _, _, _ => none
| k + 1, x35, x36, x37 =>
 if x36 < (y21.length : Int) then
  (idx x27 y20).bind fun y22 =>
  (idx x27 y20).bind fun y23 =>
  (idx x37 x36).bind fun y24 =>
  (usage_text_sends_S fuel a0 a1 y10.Node x35).bind fun y25 =>
  (usage_greater_usage_count_S y24 y25).bind fun y26 =>
  (idx x37 x36).bind fun y27 =>
  (chk (x35 + 1)).bind fun z6 =>
  (chk (x36 + 1)).bind fun z7 =>
  usage_text_asks_l5 fuel a0 a1 y10 x27 y20 y21 k z6 z7 (x37.set x36.toNat y26)
 else
  some (x27.set y20.toNat x37, x35)
def usage_text_asks_l4 (fuel : Nat) (a0 : Usage_text) (a1 : List UsageDef) (y10 : ScopeRule) (z4 : List Int) : Nat → (List (List Int)) → Int → Int → Option (List (List Int) × List Int)
| 0, _, _, _ => none
| k + 1, x27, x28, x29 =>
 if x29 < (y10.Joins.length : Int) then
  ((idx y10.Joins x29).bind fun y20 =>
  (idx x27 y20).bind fun y21 =>
  usage_text_asks_l5 fuel a0 a1 y10 x27 y20 y21 fuel x28 0 y21).bind fun (x30, x31) =>
  (chk (x29 + 1)).bind fun z8 =>
  usage_text_asks_l4 fuel a0 a1 y10 z4 k x30 x31 z8
 else
  some (x27, z4)
def usage_text_asks_l2 (fuel : Nat) (a0 : Usage_text) (a1 : List UsageDef) (a2 : Int) (y1 : ScopeDef) : Nat → (List (List Int)) → Int → (List Int) → Option (List (List Int) × List Int)
| 0, _, _, _ => none
| k + 1, x14, x15, x16 =>
 if x15 < (y1.Rules.length : Int) then
  ((idx y1.Rules x15).bind fun y10 =>
  (usage_text_asks_l3 a1 a2 y10 fuel 2 0).bind fun x19 =>
  (usage_count_kind_S x19).bind fun y15 =>
  (room (x16 ++ [y15])).bind fun z4 =>
  (idx a1 a2).bind fun y16 =>
  (idx y16.Rules x15).bind fun y17 =>
  (usage_of_S y17).bind fun y18 =>
  if y18 = 0 then
   some (x14, z4)
  else
   (usage_text_place_S a0 a2 (y1.Chans.length : Int)).bind fun y19 =>
   (chk (y19 + (y1.Spots.length : Int))).bind fun z5 =>
   usage_text_asks_l4 fuel a0 a1 y10 z4 fuel x14 z5 0).bind fun (x17, x18) =>
  (chk (x15 + 1)).bind fun z9 =>
  usage_text_asks_l2 fuel a0 a1 a2 y1 k x17 z9 x18
 else
  some (x14, x16)
def usage_text_asks_l7 (y28 : List Int) : Nat → (List Int) → Int → Option (List Int)
| 0, _, _ => none
| k + 1, x50, x51 =>
 if x51 < (y28.length : Int) then
  (idx y28 x51).bind fun y29 =>
  (usage_count_kind_S y29).bind fun y30 =>
  (room (x50 ++ [y30])).bind fun z10 =>
  (chk (x51 + 1)).bind fun z11 =>
  usage_text_asks_l7 y28 k z10 z11
 else
  some x50
def usage_text_asks_l6 (fuel : Nat) (x9 : List (List Int)) : Nat → (List (List Int)) → Int → (List (List Int)) → Option (List (List Int))
| 0, _, _, _ => none
| k + 1, x42, x43, x44 =>
 if x43 < (x9.length : Int) then
  ((idx x42 x43).bind fun y28 =>
  (usage_text_asks_l7 y28 fuel [] 0).bind fun x47 =>
  (room (x44 ++ ([x47] : List (List Int)))).bind fun z12 =>
  some (x42.set x43.toNat y28, z12)).bind fun (x45, x46) =>
  (chk (x43 + 1)).bind fun z13 =>
  usage_text_asks_l6 fuel x9 k x45 z13 x46
 else
  some x44
def usage_text_asks_S (fuel : Nat) (a0 : Usage_text) (a1 : List UsageDef) (a2 : Int) : Option (UsageDef) :=
 (idx a0.ScopeProg.Defs a2).bind fun y1 =>
 (mk ([] : List Int) (y1.Chans.length : Int)).bind fun y2 =>
 (usage_text_asks_l1 fuel a0 a1 a2 y1 fuel y2 0 []).bind fun (x1, x2) =>
 (usage_text_asks_l2 fuel a0 a1 a2 y1 fuel x1 0 []).bind fun (x9, x10) =>
 (usage_text_asks_l6 fuel x9 fuel x9 0 []).bind fun x38 =>
 some (⟨x2, x10, x38⟩ : UsageDef)
theorem usage_text_asks_w (fuel : Nat)  (a0 : Usage_text) (a1 : List UsageDef) (a2 : Int) (r : UsageDef) (H : usage_text_asks_S fuel a0 a1 a2 = some r) : FnS Try.prog 54 [fPtr tUsage_text a0, fSl tUsageDef a1, fInt .i64 a2] [] fAny (fun v => [tWrap .agg [.own (fun v => tRow v 41 (tInt .i64) r.Chans) (fun _ => row_isCell), .own (fun v => tRow v 41 (tInt .i64) r.Rules) (fun _ => row_isCell), .own (fun v => tRowD v 37 (oRowT 41 (tInt .i64)) r.Args) (fun _ => rowG_cell)] v]) := by
 unfold usage_text_asks_S at H
 refine FnS_of Try.func54 rfl Try.ntmps54 rfl (fun β => ?_)
 refine Sr ?_
 refine T_new trivial rfl rfl (n_alloc rfl ty_ze_40 rfl) (fun b1 => ?_)
 refine Nn ?_
 refine Sr ?_
 refine Ym ?_
 refine Yy (o_nilCheck rfl (has rfl) (fun m v ⟨p, h, _⟩ => ⟨p, h⟩)) ?_
 refine Yy (o_field (t' := tScopeProg) (z := a0.ScopeProg) rfl hh ty_fa_79_0 rfl) ?_
 refine Yy (o_field (t' := (tSl tScopeDef)) (z := a0.ScopeProg.Defs) rfl hh ty_fa_26_2 rfl) ?_
 refine Yy (o_load rfl hh ty_sc_24 rfl) ?_
 refine Ym ?_
 revert H; refine bs fun y1 h1 H => ?_
 refine Yy (o_index rfl hh hh ty_el_24 h1) ?_
 refine Yy (o_loadS rfl hh ty_ag_52) ?_
 refine T_new trivial rfl rfl (n_alloc rfl ty_ze_52 rfl) (fun b2 => ?_)
 refine T_storeS (φs' := [fSl tScopeChan y1.Chans, fSl tScopeSpot y1.Spots, fSl tScopeRule y1.Rules]) trivial rfl rfl (has rfl) (has rfl) (ll_cons (leaf_sl) (ll_cons (leaf_sl) (ll_cons (leaf_sl) ll_nil))) ty_sz_52 rfl rfl rfl ?_
 refine Nn ?_
 refine Sr ?_
 refine T_new trivial rfl rfl (n_alloc rfl ty_ze_40 rfl) (fun b3 => ?_)
 refine Nn ?_
 refine Sr ?_
 refine Yy (o_fieldB 0 rfl hh ty_fa_52_0 rfl) ?_
 refine Yo 1 rfl (o_loadB rfl hh ty_sc_45 rfl Ent.rfl) ?_
 refine Yy (o_len rfl hh ty_us_45) ?_
 revert H; refine bs fun y2 h2 H => ?_
 obtain ⟨h3, h4⟩ := mk_rep (z' := ([⟨fEq (.slice none 0 0), leaf_eq trivial⟩] : List LF)) h2
 refine T_new trivial rfl rfl (n_make (t := tF 1) (z := [⟨fEq (.slice none 0 0), leaf_eq trivial⟩]) rfl (has rfl) ty_et_142 rfl ty_ze_143 rfl h4) (fun b4 => ?_)
 generalize hv_v1 : (Value.slice (some ⟨b4, 0, none⟩) _ _) = v1; clear hv_v1
 refine T_nilsD2 (o := (oRowT 80 (tInt .i64))) (ys := y2) h3 rfl nil_tk ?_
 refine T_rowCellG 0 rfl (fun hc_v1 => ?_)
 refine Ya ?_
 refine Nn ?_
 revert H; refine bs fun o1 H Hr1 => ?_
 refine T_seqJ (ι := List (List Int) × List Int × Value) (fun i => o1 = (i.1, i.2.1)) (fun i => [(0, fPtr tUsage_text a0), (1, fSl tUsageDef a1), (2, fInt .i64 a2), (6, fEq (.pointer (some ⟨b1, 0, none⟩))), (7, fEq (.pointer (some ⟨b2, 0, none⟩))), (8, fEq (.pointer (some ⟨b3, 0, none⟩))), (9, fEq v1)]) (fun i => [tBlk b3 40 [fEq i.2.2, fEq (.slice none 0 0), fEq (.slice none 0 0)], tBlk b2 52 [fSl tScopeChan y1.Chans, fSl tScopeSpot y1.Spots, fSl tScopeRule y1.Rules], tBlk b1 40 [fEq (.slice none 0 0), fEq (.slice none 0 0), fEq (.slice none 0 0)], tRowD v1 143 (oRowT 80 (tInt .i64)) i.1, tRow i.2.2 41 (tInt .i64) i.2.1]) ?_ ?_
 ·
  refine Sr ?_
  refine Yy (o_fieldB 0 rfl hh ty_fa_52_0 rfl) ?_
  refine Yo 2 rfl (o_loadB rfl hh ty_sc_45 rfl Ent.rfl) ?_
  refine Yy (o_len rfl hh ty_us_45) ?_
  refine Ym ?_
  refine Nn ?_
  refine T_block ?_
  refine T_nilRow (tInt .i64) 41 ?_
  refine T_pick [2, 3, 4, 1, 0] (by decide) ?_
  refine T_loop (ι := Nat × List (List Int) × Int × List Int × Value) (fun i => usage_text_asks_l1 fuel a0 a1 a2 y1 i.1 i.2.1 i.2.2.1 i.2.2.2.1 = _) (fun i => i.1) (fun i => [(0, fPtr tUsage_text a0), (1, fSl tUsageDef a1), (2, fInt .i64 a2), (6, fEq (.pointer (some ⟨b1, 0, none⟩))), (7, fEq (.pointer (some ⟨b2, 0, none⟩))), (8, fEq (.pointer (some ⟨b3, 0, none⟩))), (9, fEq v1), (39, fSl tScopeChan y1.Chans), (40, fInt .i64 (y1.Chans.length : Int)), (41, fInt .i64 i.2.2.1)]) (fun i => [tBlk b3 40 [fEq i.2.2.2.2, fEq (.slice none 0 0), fEq (.slice none 0 0)], tBlk b2 52 [fSl tScopeChan y1.Chans, fSl tScopeSpot y1.Spots, fSl tScopeRule y1.Rules], tBlk b1 40 [fEq (.slice none 0 0), fEq (.slice none 0 0), fEq (.slice none 0 0)], tRowD v1 143 (oRowT 80 (tInt .i64)) i.2.1, tRow i.2.2.2.2 41 (tInt .i64) i.2.2.2.1]) (fuel, y2, 0, [], (.slice none 0 0)) H (Sc (Sc (Sc (Sc (Sc (Sc (Sc (Sc (Sc (Sc SubT.nil)))))))))) rfl ?_
  clear H; rintro ⟨k1, x6, x7, x8, v4⟩ H
  replace H : usage_text_asks_l1 fuel a0 a1 a2 y1 k1 x6 x7 x8 = _ := H
  show T β _ _ [(0, fPtr tUsage_text a0), (1, fSl tUsageDef a1), (2, fInt .i64 a2), (6, fEq (.pointer (some ⟨b1, 0, none⟩))), (7, fEq (.pointer (some ⟨b2, 0, none⟩))), (8, fEq (.pointer (some ⟨b3, 0, none⟩))), (9, fEq v1), (39, fSl tScopeChan y1.Chans), (40, fInt .i64 (y1.Chans.length : Int)), (41, fInt .i64 x7)] [tBlk b3 40 [fEq v4, fEq (.slice none 0 0), fEq (.slice none 0 0)], tBlk b2 52 [fSl tScopeChan y1.Chans, fSl tScopeSpot y1.Spots, fSl tScopeRule y1.Rules], tBlk b1 40 [fEq (.slice none 0 0), fEq (.slice none 0 0), fEq (.slice none 0 0)], tRowD v1 143 (oRowT 80 (tInt .i64)) x6, tRow v4 41 (tInt .i64) x8] _
  obtain _ | k1 := k1
  ·
   rw [usage_text_asks_l1] at H; cases H
  rw [usage_text_asks_l1] at H
  refine T_rowCell 4 rfl (fun hc_v4 => ?_)
  refine Sr ?_
  refine Yy (o_lss rfl hh hh) ?_
  refine Nn ?_
  refine T_seq ?_
  revert H; refine is (fun c1 H => ?_) fun c1 H => ?_
  ·
   refine T_cond_t (has rfl) c1 ?_
   refine T_skip ?_
   refine T_then_n ?_
   refine T_seq ?_
   refine T_block ?_
   refine Sr ?_
   refine Ym ?_
   revert H; refine bs fun y3 h5 H => ?_
   refine Yy (o_index rfl hh hh ty_el_45 h5) ?_
   refine Yy (o_loadS rfl hh ty_ag_44) ?_
   refine T_new trivial rfl rfl (n_alloc rfl ty_ze_44 rfl) (fun b5 => ?_)
   refine Ya ?_
   refine T_storeS (φs' := [fInt .i64 y3.At, fInt .i64 y3.Many]) trivial rfl rfl (has rfl) (has rfl) (ll_cons (leaf_eq trivial) (ll_cons (leaf_eq trivial) ll_nil)) ty_sz_44 rfl rfl rfl ?_
   refine Nn ?_
   refine T_seq ?_
   revert H; refine bs fun y4 h6 H => ?_
   revert H; refine bs fun y5 h7 H => ?_
   revert H; refine bs fun y6 h8 H => ?_
   revert H; refine bs fun y7 h9 H => ?_
   refine T_net 18 [fun _ => .op [] false (fun _ => fEq (.pointer (some ⟨b3, 0, none⟩))) (fun _ => []), fun _ => .op [1] false (fun _ => fEq v4) (fun _ => [tEmp]), fun _ => .op [] false (fun _ => fPtr tUsage_text a0) (fun _ => []), fun _ => .op [] false (fun _ => fSl tUsageDef a1) (fun _ => []), fun _ => .op [] false (fun _ => fPtr tUsage_text a0) (fun _ => []), fun _ => .op [] false (fun _ => fPtr tUsage_text a0) (fun _ => []), fun _ => .op [] false (fun _ => fPtr (tSl (tInt .i64)) a0.heads) (fun _ => []), fun _ => .op [] false (fun _ => fSl (tInt .i64) a0.heads) (fun _ => []), fun _ => .op [] false (fun _ => fInt .i64 a2) (fun _ => []), fun _ => .op [] false (fun _ => fPtr (tInt .i64) y4) (fun _ => []), fun _ => .op [] false (fun _ => fInt .i64 y4) (fun _ => []), fun _ => .op [] false (fun _ => fPtr tUsage_text a0) (fun _ => []), fun _ => .op [] false (fun _ => fInt .i64 a2) (fun _ => []), fun _ => .op [] false (fun _ => fInt .i64 x7) (fun _ => []), fun _ => .op [] true (fun _ => fInt .i64 y5) (fun _ => []), fun _ => .op [] true (fun _ => fInt .i64 y6) (fun _ => []), fun _ => .op [] true (fun _ => fInt .i64 y7) (fun _ => []), fun _ => .op [] true (fun _ => fSl (tInt .i64) [y7]) (fun _ => [])] [([], false, []), ([1], false, []), ([], false, []), ([], false, []), ([], false, []), ([], false, []), ([], false, []), ([], false, []), ([], false, []), ([], false, []), ([], false, []), ([], false, []), ([], false, []), ([], false, []), ([], true, []), ([], true, []), ([], true, []), ([], true, [])] 0 6 mixed (F0 (F0 (F0 (F0 (F0 (F0 (F0 (F0 (F0 (F0 (F0 (F0 (F0 (F0 (F0 (F0 (F0 (F0 FitsL.nil)))))))))))))))))) (by kernel_rfl) rfl rfl (by kernel_rfl) rfl ?_
   dsimp only [netL, List.take, List.replicate, List.append, List.drop]
   refine N_y (φ := fEq (.pointer (some ⟨b3, 0, none⟩))) rfl (fun _ => rfl) trivial rfl (o_fieldB 0 rfl (has rfl) ty_fa_40_0 rfl) (fun _ => ?_)
   refine N_op (ps := [1]) (φ := fEq v4) rfl (fun _ => rfl) trivial rfl rfl (o_loadB rfl (has rfl) ty_sc_37 rfl Ent.rfl) (fun _ => ?_)
   refine My (h := o_move rfl hh) (k := fun _ => ?_)
   refine My (h := o_move rfl hh) (k := fun _ => ?_)
   refine My (h := o_move rfl hh) (k := fun _ => ?_)
   refine My (h := o_nilCheck rfl (has rfl) (fun m v ⟨p, h, _⟩ => ⟨p, h⟩)) (k := fun _ => ?_)
   refine My (h := o_field (t' := (tSl (tInt .i64))) (z := a0.heads) rfl hh ty_fa_79_3 rfl) (k := fun _ => ?_)
   refine My (h := o_load rfl hh ty_sc_46 rfl) (k := fun _ => ?_)
   refine My (h := o_move rfl hh) (k := fun _ => ?_)
   refine My (h := o_index rfl hh hh ty_el_46 h6) (k := fun _ => ?_)
   refine My (h := o_load rfl hh ty_sc_3 rfl) (k := fun _ => ?_)
   refine My (h := o_move rfl hh) (k := fun _ => ?_)
   refine My (h := o_move rfl hh) (k := fun _ => ?_)
   refine My (h := o_move rfl hh) (k := fun _ => ?_)
   refine N_call (Φ := fInt .i64 y5) rfl (fun _ => rfl) trivial rfl rfl (has rfl) (HasL.cons (has rfl) (HasL.cons (has rfl) (HasL.cons (has rfl) HasL.nil))) rfl ty_cb_28 (usage_text_place_w a0 a2 x7 y5 h7) (fun _ => ?_)
   refine N_call (Φ := fInt .i64 y6) rfl (fun _ => rfl) trivial rfl rfl (has rfl) (HasL.cons (has rfl) (HasL.cons (has rfl) (HasL.cons (has rfl) (HasL.cons (has rfl) HasL.nil)))) rfl ty_cb_70 (usage_text_inner_w fuel a0 a1 y4 y5 y6 h8) (fun _ => ?_)
   refine N_call (Φ := fInt .i64 y7) rfl (fun _ => rfl) trivial rfl rfl (has rfl) (HasL.cons (has rfl) HasL.nil) rfl ty_cb_46 (usage_count_kind_w y6 y7 h9) (fun _ => ?_)
   refine N_newF (φ := fSl (tInt .i64) [y7]) rfl (fun _ => rfl) trivial rfl (n_buildSliceC (t := (tInt .i64)) (xs := [y7]) rfl ty_et_37 (PartsS.cons rfl (has rfl) (part_leaf (leaf_eq trivial)) PartsS.nil) rfl rfl rfl) (fun b => frz_row) (fun _ => ?_)
   refine N_done rfl ?_
   revert H; refine bs fun z1 h10 H => ?_
   refine T_fr5 ?_
   refine T_appendF (ys := [y7]) trivial rfl rfl rfl (has rfl) (has rfl) ty_et_37 rfl h10 (fun v6 => ?_)
   refine T_rowCell 0 rfl (fun hc_v6 => ?_)
   refine Yy (o_fieldB 0 rfl hh ty_fa_40_0 rfl) ?_
   refine T_fr2 ?_
   refine T_store (φs' := [fEq v6, fEq (.slice none 0 0), fEq (.slice none 0 0)]) trivial rfl rfl (has rfl) (has rfl) (leaf_eq hc_v6) ty_sz_37 rfl rfl ?_
   refine Nn ?_
   refine T_region ?_
   refine Ym ?_
   refine Ym ?_
   refine Yy (o_fieldB 1 rfl hh ty_fa_44_1 rfl) ?_
   refine Yo 2 rfl (o_loadB rfl hh ty_sc_3 rfl Ent.rfl) ?_
   revert H; refine bs fun y8 h11 H => ?_
   refine T_new trivial rfl rfl (n_make (t := (tInt .i64)) (z := 0) rfl (has rfl) ty_et_143 rfl ty_ze_80 rfl h11) (fun b7 => ?_)
   generalize hv_v7 : (Value.slice (some ⟨b7, 0, none⟩) _ _) = v7; clear hv_v7
   refine T_rowCell 0 rfl (fun hc_v7 => ?_)
   revert H; refine bs fun y9 h12 H => ?_
   refine Yo 6 rfl (o_indexG rfl hh hh ty_el_142 h12) ?_
   refine T_fr6 ?_
   refine T_fr1 ?_
   refine T_storePD (z' := y8) (f := (fun v => tRow v 80 (tInt .i64) y8)) (hf := (fun _ => row_isCell)) trivial rfl rfl rfl (has rfl) (has rfl) hc_v7 ty_sz_143 (idx_get h12) rfl rfl ?_
   refine T_nil ?_
   refine T_in_n ?_
   refine T_then_n ?_
   refine T_region ?_
   revert H; refine bs fun z2 h13 H => ?_
   refine Yy (o_add rfl hh hh h13) ?_
   refine Ym ?_
   refine Nn ?_
   refine T_pick [1, 4, 5, 0, 2] (by decide) ?_
   exact T_meet ((k1, x6.set x7.toNat y8, z2, z1, v6)) ⟨H, Nat.lt_succ_self _⟩ (Sc (Sc (Sc (Sc (Sc (Sc (Sc (Sc (Sc (Sc SubT.nil)))))))))) rfl
  ·
   refine T_cond_f (has rfl) c1 ?_
   refine T_exit ?_
   refine T_then_exit ?_
   refine T_then_exit ?_
   refine T_in_hit ?_
   refine T_then_n ?_
   exact T_meet ((x6, x8, v4)) (Option.some.inj H).symm (Sc (Sc (Sc (Sc (Sc (Sc (Sc SubT.nil))))))) rfl
 ·
  clear H; intro i hi; obtain ⟨x1, x2, v2⟩ := i; subst o1; have H := Hr1; clear Hr1; try dsimp only at H
  show T β _ _ [(0, fPtr tUsage_text a0), (1, fSl tUsageDef a1), (2, fInt .i64 a2), (6, fEq (.pointer (some ⟨b1, 0, none⟩))), (7, fEq (.pointer (some ⟨b2, 0, none⟩))), (8, fEq (.pointer (some ⟨b3, 0, none⟩))), (9, fEq v1)] [tBlk b3 40 [fEq v2, fEq (.slice none 0 0), fEq (.slice none 0 0)], tBlk b2 52 [fSl tScopeChan y1.Chans, fSl tScopeSpot y1.Spots, fSl tScopeRule y1.Rules], tBlk b1 40 [fEq (.slice none 0 0), fEq (.slice none 0 0), fEq (.slice none 0 0)], tRowD v1 143 (oRowT 80 (tInt .i64)) x1, tRow v2 41 (tInt .i64) x2] _
  refine T_rowCell 4 rfl (fun hc_v2 => ?_)
  revert H; refine bs fun o2 H Hr2 => ?_
  refine T_seqJ (ι := List (List Int) × List Int × Value) (fun i => o2 = (i.1, i.2.1)) (fun i => [(6, fEq (.pointer (some ⟨b1, 0, none⟩))), (8, fEq (.pointer (some ⟨b3, 0, none⟩))), (9, fEq v1)]) (fun i => [tBlk b3 40 [fEq v2, fEq i.2.2, fEq (.slice none 0 0)], tBlk b2 52 [fSl tScopeChan y1.Chans, fSl tScopeSpot y1.Spots, fSl tScopeRule y1.Rules], tBlk b1 40 [fEq (.slice none 0 0), fEq (.slice none 0 0), fEq (.slice none 0 0)], tRowD v1 143 (oRowT 80 (tInt .i64)) i.1, tRow v2 41 (tInt .i64) x2, tRow i.2.2 41 (tInt .i64) i.2.1]) ?_ ?_
  ·
   refine Sr ?_
   refine Yy (o_fieldB 2 rfl hh ty_fa_52_2 rfl) ?_
   refine Yo 1 rfl (o_loadB rfl hh ty_sc_49 rfl Ent.rfl) ?_
   refine Yy (o_len rfl hh ty_us_49) ?_
   refine Ym ?_
   refine Nn ?_
   refine T_block ?_
   refine T_nilRow (tInt .i64) 41 ?_
   refine T_pick [1, 2, 3, 4, 5, 0] (by decide) ?_
   refine T_loop (ι := Nat × List (List Int) × Int × List Int × Value) (fun i => usage_text_asks_l2 fuel a0 a1 a2 y1 i.1 i.2.1 i.2.2.1 i.2.2.2.1 = _) (fun i => i.1) (fun i => [(0, fPtr tUsage_text a0), (1, fSl tUsageDef a1), (2, fInt .i64 a2), (6, fEq (.pointer (some ⟨b1, 0, none⟩))), (7, fEq (.pointer (some ⟨b2, 0, none⟩))), (8, fEq (.pointer (some ⟨b3, 0, none⟩))), (9, fEq v1), (74, fSl tScopeRule y1.Rules), (75, fInt .i64 (y1.Rules.length : Int)), (76, fInt .i64 i.2.2.1)]) (fun i => [tBlk b3 40 [fEq v2, fEq i.2.2.2.2, fEq (.slice none 0 0)], tBlk b2 52 [fSl tScopeChan y1.Chans, fSl tScopeSpot y1.Spots, fSl tScopeRule y1.Rules], tBlk b1 40 [fEq (.slice none 0 0), fEq (.slice none 0 0), fEq (.slice none 0 0)], tRowD v1 143 (oRowT 80 (tInt .i64)) i.2.1, tRow v2 41 (tInt .i64) x2, tRow i.2.2.2.2 41 (tInt .i64) i.2.2.2.1]) (fuel, x1, 0, [], (.slice none 0 0)) H (Sc (Sc (Sc (Sc (Sc (Sc (Sc (Sc (Sc (Sc SubT.nil)))))))))) rfl ?_
   clear H; rintro ⟨k2, x14, x15, x16, v10⟩ H
   replace H : usage_text_asks_l2 fuel a0 a1 a2 y1 k2 x14 x15 x16 = _ := H
   show T β _ _ [(0, fPtr tUsage_text a0), (1, fSl tUsageDef a1), (2, fInt .i64 a2), (6, fEq (.pointer (some ⟨b1, 0, none⟩))), (7, fEq (.pointer (some ⟨b2, 0, none⟩))), (8, fEq (.pointer (some ⟨b3, 0, none⟩))), (9, fEq v1), (74, fSl tScopeRule y1.Rules), (75, fInt .i64 (y1.Rules.length : Int)), (76, fInt .i64 x15)] [tBlk b3 40 [fEq v2, fEq v10, fEq (.slice none 0 0)], tBlk b2 52 [fSl tScopeChan y1.Chans, fSl tScopeSpot y1.Spots, fSl tScopeRule y1.Rules], tBlk b1 40 [fEq (.slice none 0 0), fEq (.slice none 0 0), fEq (.slice none 0 0)], tRowD v1 143 (oRowT 80 (tInt .i64)) x14, tRow v2 41 (tInt .i64) x2, tRow v10 41 (tInt .i64) x16] _
   obtain _ | k2 := k2
   ·
    rw [usage_text_asks_l2] at H; cases H
   rw [usage_text_asks_l2] at H
   refine T_rowCell 5 rfl (fun hc_v10 => ?_)
   refine Sr ?_
   refine Yy (o_lss rfl hh hh) ?_
   refine Nn ?_
   refine T_seq ?_
   revert H; refine is (fun c2 H => ?_) fun c2 H => ?_
   ·
    refine T_cond_t (has rfl) c2 ?_
    refine T_skip ?_
    refine T_then_n ?_
    revert H; refine bs fun o3 H Hr3 => ?_
    refine T_seqJ (ι := List (List Int) × List Int × Value) (fun i => o3 = (i.1, i.2.1)) (fun i => [(0, fPtr tUsage_text a0), (1, fSl tUsageDef a1), (2, fInt .i64 a2), (6, fEq (.pointer (some ⟨b1, 0, none⟩))), (7, fEq (.pointer (some ⟨b2, 0, none⟩))), (8, fEq (.pointer (some ⟨b3, 0, none⟩))), (9, fEq v1), (74, fSl tScopeRule y1.Rules), (75, fInt .i64 (y1.Rules.length : Int)), (76, fInt .i64 x15)]) (fun i => [tBlk b3 40 [fEq v2, fEq i.2.2, fEq (.slice none 0 0)], tBlk b2 52 [fSl tScopeChan y1.Chans, fSl tScopeSpot y1.Spots, fSl tScopeRule y1.Rules], tBlk b1 40 [fEq (.slice none 0 0), fEq (.slice none 0 0), fEq (.slice none 0 0)], tRowD v1 143 (oRowT 80 (tInt .i64)) i.1, tRow v2 41 (tInt .i64) x2, tRow i.2.2 41 (tInt .i64) i.2.1]) ?_ ?_
    ·
     refine T_block ?_
     refine Sr ?_
     refine Ym ?_
     revert H; refine bs fun y10 h14 H => ?_
     refine Yy (o_index rfl hh hh ty_el_49 h14) ?_
     refine Yy (o_loadS rfl hh ty_ag_48) ?_
     refine T_new trivial rfl rfl (n_alloc rfl ty_ze_48 rfl) (fun b8 => ?_)
     refine Ya ?_
     refine T_storeS (φs' := [fInt .i64 y10.At, fSl (tInt .i64) y10.Joins, fInt .i64 y10.Node]) trivial rfl rfl (has rfl) (has rfl) (ll_cons (leaf_eq trivial) (ll_cons (leaf_sl) (ll_cons (leaf_eq trivial) ll_nil))) ty_sz_48 rfl rfl rfl ?_
     refine Nn ?_
     refine Sr ?_
     refine Ya ?_
     refine Nn ?_
     revert H; refine bs fun o4 H Hr4 => ?_
     refine T_seqJ (ι := Int) (fun i => o4 = i) (fun i => [(0, fPtr tUsage_text a0), (1, fSl tUsageDef a1), (2, fInt .i64 a2), (6, fEq (.pointer (some ⟨b1, 0, none⟩))), (7, fEq (.pointer (some ⟨b2, 0, none⟩))), (8, fEq (.pointer (some ⟨b3, 0, none⟩))), (9, fEq v1), (74, fSl tScopeRule y1.Rules), (75, fInt .i64 (y1.Rules.length : Int)), (76, fInt .i64 x15), (13, fEq (.pointer (some ⟨b8, 0, none⟩))), (12, fInt .i64 x15), (14, fInt .i64 i)]) (fun i => [tBlk b8 48 [fInt .i64 y10.At, fSl (tInt .i64) y10.Joins, fInt .i64 y10.Node], tBlk b3 40 [fEq v2, fEq v10, fEq (.slice none 0 0)], tBlk b2 52 [fSl tScopeChan y1.Chans, fSl tScopeSpot y1.Spots, fSl tScopeRule y1.Rules], tBlk b1 40 [fEq (.slice none 0 0), fEq (.slice none 0 0), fEq (.slice none 0 0)], tRowD v1 143 (oRowT 80 (tInt .i64)) x14, tRow v2 41 (tInt .i64) x2, tRow v10 41 (tInt .i64) x16]) ?_ ?_
     ·
      refine Sr ?_
      refine Yy (o_fieldB 1 rfl hh ty_fa_48_1 rfl) ?_
      refine Yo 0 rfl (o_loadB rfl hh ty_sc_46 rfl Ent.rfl) ?_
      refine Yy (o_len rfl hh ty_us_46) ?_
      refine Ym ?_
      refine Nn ?_
      refine T_block ?_
      refine T_loop (ι := Nat × Int × Int) (fun i => usage_text_asks_l3 a1 a2 y10 i.1 i.2.1 i.2.2 = _) (fun i => i.1) (fun i => [(0, fPtr tUsage_text a0), (1, fSl tUsageDef a1), (2, fInt .i64 a2), (6, fEq (.pointer (some ⟨b1, 0, none⟩))), (7, fEq (.pointer (some ⟨b2, 0, none⟩))), (8, fEq (.pointer (some ⟨b3, 0, none⟩))), (9, fEq v1), (74, fSl tScopeRule y1.Rules), (75, fInt .i64 (y1.Rules.length : Int)), (76, fInt .i64 x15), (13, fEq (.pointer (some ⟨b8, 0, none⟩))), (12, fInt .i64 x15), (14, fInt .i64 i.2.1), (82, fSl (tInt .i64) y10.Joins), (83, fInt .i64 (y10.Joins.length : Int)), (84, fInt .i64 i.2.2)]) (fun i => [tBlk b8 48 [fInt .i64 y10.At, fSl (tInt .i64) y10.Joins, fInt .i64 y10.Node], tBlk b3 40 [fEq v2, fEq v10, fEq (.slice none 0 0)], tBlk b2 52 [fSl tScopeChan y1.Chans, fSl tScopeSpot y1.Spots, fSl tScopeRule y1.Rules], tBlk b1 40 [fEq (.slice none 0 0), fEq (.slice none 0 0), fEq (.slice none 0 0)], tRowD v1 143 (oRowT 80 (tInt .i64)) x14, tRow v2 41 (tInt .i64) x2, tRow v10 41 (tInt .i64) x16]) (fuel, 2, 0) H (Sc (Sc (Sc (Sc (Sc (Sc (Sc (Sc (Sc (Sc (Sc (Sc (Sc (Sc (Sc (Sc SubT.nil)))))))))))))))) rfl ?_
      clear H; rintro ⟨k3, x22, x23⟩ H
      replace H : usage_text_asks_l3 a1 a2 y10 k3 x22 x23 = _ := H
      show T β _ _ [(0, fPtr tUsage_text a0), (1, fSl tUsageDef a1), (2, fInt .i64 a2), (6, fEq (.pointer (some ⟨b1, 0, none⟩))), (7, fEq (.pointer (some ⟨b2, 0, none⟩))), (8, fEq (.pointer (some ⟨b3, 0, none⟩))), (9, fEq v1), (74, fSl tScopeRule y1.Rules), (75, fInt .i64 (y1.Rules.length : Int)), (76, fInt .i64 x15), (13, fEq (.pointer (some ⟨b8, 0, none⟩))), (12, fInt .i64 x15), (14, fInt .i64 x22), (82, fSl (tInt .i64) y10.Joins), (83, fInt .i64 (y10.Joins.length : Int)), (84, fInt .i64 x23)] [tBlk b8 48 [fInt .i64 y10.At, fSl (tInt .i64) y10.Joins, fInt .i64 y10.Node], tBlk b3 40 [fEq v2, fEq v10, fEq (.slice none 0 0)], tBlk b2 52 [fSl tScopeChan y1.Chans, fSl tScopeSpot y1.Spots, fSl tScopeRule y1.Rules], tBlk b1 40 [fEq (.slice none 0 0), fEq (.slice none 0 0), fEq (.slice none 0 0)], tRowD v1 143 (oRowT 80 (tInt .i64)) x14, tRow v2 41 (tInt .i64) x2, tRow v10 41 (tInt .i64) x16] _
      obtain _ | k3 := k3
      ·
       rw [usage_text_asks_l3] at H; cases H
      rw [usage_text_asks_l3] at H
      refine Sr ?_
      refine Yy (o_lss rfl hh hh) ?_
      refine Nn ?_
      refine T_seq ?_
      revert H; refine is (fun c3 H => ?_) fun c3 H => ?_
      ·
       refine T_cond_t (has rfl) c3 ?_
       refine T_skip ?_
       refine T_then_n ?_
       refine T_seq ?_
       refine T_block ?_
       refine Sr ?_
       revert H; refine bs fun y11 h15 H => ?_
       refine Yy (o_index rfl hh hh ty_el_46 h15) ?_
       refine Yy (o_load rfl hh ty_sc_3 rfl) ?_
       refine Ya ?_
       refine Nn ?_
       refine T_region ?_
       refine Ym ?_
       refine Ym ?_
       refine Ym ?_
       revert H; refine bs fun y12 h16 H => ?_
       refine Yy (o_index rfl hh hh ty_el_27 h16) ?_
       refine Yy (o_field (t' := (tSl (tInt .i64))) (z := y12.Chans) rfl hh ty_fa_40_0 rfl) ?_
       refine Yy (o_load rfl hh ty_sc_37 rfl) ?_
       refine Ym ?_
       revert H; refine bs fun y13 h17 H => ?_
       refine Yy (o_index rfl hh hh ty_el_37 h17) ?_
       refine Yy (o_load rfl hh ty_sc_41 rfl) ?_
       revert H; refine bs fun y14 h18 H => ?_
       refine T_call trivial rfl rfl rfl (has rfl) (HasL.cons (has rfl) HasL.nil) rfl ty_cb_31 (usage_of_w y13 y14 h18) rfl ?_
       refine Yy (o_min rfl hh hh) ?_
       refine Ya ?_
       refine T_nil ?_
       refine T_in_n ?_
       refine T_then_n ?_
       refine T_region ?_
       revert H; refine bs fun z3 h19 H => ?_
       refine Yy (o_add rfl hh hh h19) ?_
       refine Ym ?_
       refine Nn ?_
       exact T_meet ((k3, min x22 y14, z3)) ⟨H, Nat.lt_succ_self _⟩ (Sc (Sc (Sc (Sc (Sc (Sc (Sc (Sc (Sc (Sc (Sc (Sc (Sc (Sc (Sc (Sc SubT.nil)))))))))))))))) rfl
      ·
       refine T_cond_f (has rfl) c3 ?_
       refine T_exit ?_
       refine T_then_exit ?_
       refine T_then_exit ?_
       refine T_in_hit ?_
       refine T_then_n ?_
       exact T_meet (x22) (Option.some.inj H).symm (Sc (Sc (Sc (Sc (Sc (Sc (Sc (Sc (Sc (Sc (Sc (Sc (Sc SubT.nil))))))))))))) rfl
     ·
      clear H; intro x19 hi; subst o4; have H := Hr4; clear Hr4; try dsimp only at H
      show T β _ _ [(0, fPtr tUsage_text a0), (1, fSl tUsageDef a1), (2, fInt .i64 a2), (6, fEq (.pointer (some ⟨b1, 0, none⟩))), (7, fEq (.pointer (some ⟨b2, 0, none⟩))), (8, fEq (.pointer (some ⟨b3, 0, none⟩))), (9, fEq v1), (74, fSl tScopeRule y1.Rules), (75, fInt .i64 (y1.Rules.length : Int)), (76, fInt .i64 x15), (13, fEq (.pointer (some ⟨b8, 0, none⟩))), (12, fInt .i64 x15), (14, fInt .i64 x19)] [tBlk b8 48 [fInt .i64 y10.At, fSl (tInt .i64) y10.Joins, fInt .i64 y10.Node], tBlk b3 40 [fEq v2, fEq v10, fEq (.slice none 0 0)], tBlk b2 52 [fSl tScopeChan y1.Chans, fSl tScopeSpot y1.Spots, fSl tScopeRule y1.Rules], tBlk b1 40 [fEq (.slice none 0 0), fEq (.slice none 0 0), fEq (.slice none 0 0)], tRowD v1 143 (oRowT 80 (tInt .i64)) x14, tRow v2 41 (tInt .i64) x2, tRow v10 41 (tInt .i64) x16] _
      refine T_seq ?_
      revert H; refine bs fun y15 h20 H => ?_
      refine T_net 5 [fun _ => .op [] false (fun _ => fEq (.pointer (some ⟨b3, 1, none⟩))) (fun _ => []), fun _ => .op [1] false (fun _ => fEq v10) (fun _ => [tEmp]), fun _ => .op [] false (fun _ => fInt .i64 x19) (fun _ => []), fun _ => .op [] true (fun _ => fInt .i64 y15) (fun _ => []), fun _ => .op [] true (fun _ => fSl (tInt .i64) [y15]) (fun _ => [])] [([], false, []), ([1], false, []), ([], false, []), ([], true, []), ([], true, [])] 0 7 mixed (F0 (F0 (F0 (F0 (F0 FitsL.nil))))) (by kernel_rfl) rfl rfl (by kernel_rfl) rfl ?_
      dsimp only [netL, List.take, List.replicate, List.append, List.drop]
      refine N_y (φ := fEq (.pointer (some ⟨b3, 1, none⟩))) rfl (fun _ => rfl) trivial rfl (o_fieldB 1 rfl (has rfl) ty_fa_40_1 rfl) (fun _ => ?_)
      refine N_op (ps := [1]) (φ := fEq v10) rfl (fun _ => rfl) trivial rfl rfl (o_loadB rfl (has rfl) ty_sc_37 rfl Ent.rfl) (fun _ => ?_)
      refine My (h := o_move rfl hh) (k := fun _ => ?_)
      refine N_call (Φ := fInt .i64 y15) rfl (fun _ => rfl) trivial rfl rfl (has rfl) (HasL.cons (has rfl) HasL.nil) rfl ty_cb_46 (usage_count_kind_w x19 y15 h20) (fun _ => ?_)
      refine N_newF (φ := fSl (tInt .i64) [y15]) rfl (fun _ => rfl) trivial rfl (n_buildSliceC (t := (tInt .i64)) (xs := [y15]) rfl ty_et_37 (PartsS.cons rfl (has rfl) (part_leaf (leaf_eq trivial)) PartsS.nil) rfl rfl rfl) (fun b => frz_row) (fun _ => ?_)
      refine N_done rfl ?_
      revert H; refine bs fun z4 h21 H => ?_
      refine T_fr6 ?_
      refine T_appendF (ys := [y15]) trivial rfl rfl rfl (has rfl) (has rfl) ty_et_37 rfl h21 (fun v13 => ?_)
      refine T_rowCell 0 rfl (fun hc_v13 => ?_)
      refine Yy (o_fieldB 1 rfl hh ty_fa_40_1 rfl) ?_
      refine T_fr2 ?_
      refine T_store (φs' := [fEq v2, fEq v13, fEq (.slice none 0 0)]) trivial rfl rfl (has rfl) (has rfl) (leaf_eq hc_v13) ty_sz_37 rfl rfl ?_
      refine Nn ?_
      refine T_seq ?_
      refine Sr ?_
      refine Ym ?_
      refine Ym ?_
      revert H; refine bs fun y16 h22 H => ?_
      refine Yy (o_index rfl hh hh ty_el_27 h22) ?_
      refine Yy (o_field (t' := (tSl (tInt .i64))) (z := y16.Rules) rfl hh ty_fa_40_1 rfl) ?_
      refine Yy (o_load rfl hh ty_sc_37 rfl) ?_
      refine Ym ?_
      revert H; refine bs fun y17 h23 H => ?_
      refine Yy (o_index rfl hh hh ty_el_37 h23) ?_
      refine Yy (o_load rfl hh ty_sc_41 rfl) ?_
      revert H; refine bs fun y18 h24 H => ?_
      refine T_call trivial rfl rfl rfl (has rfl) (HasL.cons (has rfl) HasL.nil) rfl ty_cb_31 (usage_of_w y17 y18 h24) rfl ?_
      refine Yy (o_eql rfl hh hh) ?_
      refine Nn ?_
      revert H; refine is (fun c4 H => ?_) fun c4 H => ?_
      ·
       refine T_cond_t (has rfl) c4 ?_
       refine T_exit ?_
       refine T_then_exit ?_
       refine T_in_hit ?_
       refine T_then_n ?_
       refine T_pick [0, 3, 4, 5, 6, 1] (by decide) ?_
       exact T_meet ((x14, z4, v13)) (Option.some.inj H).symm (Sc (Sc (Sc (Sc (Sc (Sc (Sc (Sc (Sc (Sc SubT.nil)))))))))) rfl
      ·
       refine T_cond_f (has rfl) c4 ?_
       refine T_skip ?_
       refine T_then_n ?_
       refine T_seq ?_
       revert H; refine bs fun y19 h25 H => ?_
       revert H; refine bs fun z5 h26 H => ?_
       refine T_net 11 [fun _ => .op [] false (fun _ => fPtr tUsage_text a0) (fun _ => []), fun _ => .op [] false (fun _ => fInt .i64 a2) (fun _ => []), fun _ => .op [] false (fun _ => fEq (.pointer (some ⟨b2, 0, none⟩))) (fun _ => []), fun _ => .op [3] false (fun _ => fSl tScopeChan y1.Chans) (fun _ => [tEmp]), fun _ => .op [] false (fun _ => fInt .i64 (y1.Chans.length : Int)) (fun _ => []), fun _ => .op [] true (fun _ => fInt .i64 y19) (fun _ => []), fun _ => .op [] false (fun _ => fEq (.pointer (some ⟨b2, 1, none⟩))) (fun _ => []), fun _ => .op [3] false (fun _ => fSl tScopeSpot y1.Spots) (fun _ => [tEmp]), fun _ => .op [] false (fun _ => fInt .i64 (y1.Spots.length : Int)) (fun _ => []), fun _ => .op [] false (fun _ => fInt .i64 z5) (fun _ => []), fun _ => .op [] false (fun _ => fInt .i64 z5) (fun _ => [])] [([], false, []), ([], false, []), ([], false, []), ([3], false, []), ([], false, []), ([], true, []), ([], false, []), ([3], false, []), ([], false, []), ([], false, []), ([], false, [])] 0 7 mixed (F0 (F0 (F0 (F0 (F0 (F0 (F0 (F0 (F0 (F0 (F0 FitsL.nil))))))))))) (by kernel_rfl) rfl rfl (by kernel_rfl) rfl ?_
       dsimp only [netL, List.take, List.replicate, List.append, List.drop]
       refine My (h := o_move rfl hh) (k := fun _ => ?_)
       refine My (h := o_move rfl hh) (k := fun _ => ?_)
       refine N_y (φ := fEq (.pointer (some ⟨b2, 0, none⟩))) rfl (fun _ => rfl) trivial rfl (o_fieldB 0 rfl (has rfl) ty_fa_52_0 rfl) (fun _ => ?_)
       refine N_op (ps := [3]) (φ := fSl tScopeChan y1.Chans) rfl (fun _ => rfl) trivial rfl rfl (o_loadB rfl (has rfl) ty_sc_45 rfl Ent.rfl) (fun _ => ?_)
       refine My (h := o_len rfl hh ty_us_45) (k := fun _ => ?_)
       refine N_call (Φ := fInt .i64 y19) rfl (fun _ => rfl) trivial rfl rfl (has rfl) (HasL.cons (has rfl) (HasL.cons (has rfl) (HasL.cons (has rfl) HasL.nil))) rfl ty_cb_28 (usage_text_place_w a0 a2 (y1.Chans.length : Int) y19 h25) (fun _ => ?_)
       refine N_y (φ := fEq (.pointer (some ⟨b2, 1, none⟩))) rfl (fun _ => rfl) trivial rfl (o_fieldB 1 rfl (has rfl) ty_fa_52_1 rfl) (fun _ => ?_)
       refine N_op (ps := [3]) (φ := fSl tScopeSpot y1.Spots) rfl (fun _ => rfl) trivial rfl rfl (o_loadB rfl (has rfl) ty_sc_50 rfl Ent.rfl) (fun _ => ?_)
       refine My (h := o_len rfl hh ty_us_50) (k := fun _ => ?_)
       refine My (h := o_add rfl hh hh h26) (k := fun _ => ?_)
       refine My (h := o_assign rfl hh) (k := fun _ => ?_)
       refine N_done rfl ?_
       refine Nn ?_
       refine Sr ?_
       refine Yy (o_fieldB 1 rfl hh ty_fa_48_1 rfl) ?_
       refine Yo 2 rfl (o_loadB rfl hh ty_sc_46 rfl Ent.rfl) ?_
       refine Yy (o_len rfl hh ty_us_46) ?_
       refine Ym ?_
       refine Nn ?_
       refine T_block ?_
       refine T_pick [0, 2, 3, 4, 5, 6, 1] (by decide) ?_
       refine T_loop (ι := Nat × List (List Int) × Int × Int) (fun i => usage_text_asks_l4 fuel a0 a1 y10 z4 i.1 i.2.1 i.2.2.1 i.2.2.2 = _) (fun i => i.1) (fun i => [(0, fPtr tUsage_text a0), (1, fSl tUsageDef a1), (2, fInt .i64 a2), (6, fEq (.pointer (some ⟨b1, 0, none⟩))), (7, fEq (.pointer (some ⟨b2, 0, none⟩))), (8, fEq (.pointer (some ⟨b3, 0, none⟩))), (9, fEq v1), (74, fSl tScopeRule y1.Rules), (75, fInt .i64 (y1.Rules.length : Int)), (76, fInt .i64 x15), (13, fEq (.pointer (some ⟨b8, 0, none⟩))), (17, fInt .i64 i.2.2.1), (128, fSl (tInt .i64) y10.Joins), (129, fInt .i64 (y10.Joins.length : Int)), (130, fInt .i64 i.2.2.2)]) (fun i => [tBlk b3 40 [fEq v2, fEq v13, fEq (.slice none 0 0)], tBlk b8 48 [fInt .i64 y10.At, fSl (tInt .i64) y10.Joins, fInt .i64 y10.Node], tBlk b2 52 [fSl tScopeChan y1.Chans, fSl tScopeSpot y1.Spots, fSl tScopeRule y1.Rules], tBlk b1 40 [fEq (.slice none 0 0), fEq (.slice none 0 0), fEq (.slice none 0 0)], tRowD v1 143 (oRowT 80 (tInt .i64)) i.2.1, tRow v2 41 (tInt .i64) x2, tRow v13 41 (tInt .i64) z4]) (fuel, x14, z5, 0) H (Sc (Sc (Sc (Sc (Sc (Sc (Sc (Sc (Sc (Sc (Sc (Sc (Sc (Sc (Sc SubT.nil))))))))))))))) rfl ?_
       clear H; rintro ⟨k4, x27, x28, x29⟩ H
       replace H : usage_text_asks_l4 fuel a0 a1 y10 z4 k4 x27 x28 x29 = _ := H
       show T β _ _ [(0, fPtr tUsage_text a0), (1, fSl tUsageDef a1), (2, fInt .i64 a2), (6, fEq (.pointer (some ⟨b1, 0, none⟩))), (7, fEq (.pointer (some ⟨b2, 0, none⟩))), (8, fEq (.pointer (some ⟨b3, 0, none⟩))), (9, fEq v1), (74, fSl tScopeRule y1.Rules), (75, fInt .i64 (y1.Rules.length : Int)), (76, fInt .i64 x15), (13, fEq (.pointer (some ⟨b8, 0, none⟩))), (17, fInt .i64 x28), (128, fSl (tInt .i64) y10.Joins), (129, fInt .i64 (y10.Joins.length : Int)), (130, fInt .i64 x29)] [tBlk b3 40 [fEq v2, fEq v13, fEq (.slice none 0 0)], tBlk b8 48 [fInt .i64 y10.At, fSl (tInt .i64) y10.Joins, fInt .i64 y10.Node], tBlk b2 52 [fSl tScopeChan y1.Chans, fSl tScopeSpot y1.Spots, fSl tScopeRule y1.Rules], tBlk b1 40 [fEq (.slice none 0 0), fEq (.slice none 0 0), fEq (.slice none 0 0)], tRowD v1 143 (oRowT 80 (tInt .i64)) x27, tRow v2 41 (tInt .i64) x2, tRow v13 41 (tInt .i64) z4] _
       obtain _ | k4 := k4
       ·
        rw [usage_text_asks_l4] at H; cases H
       rw [usage_text_asks_l4] at H
       refine Sr ?_
       refine Yy (o_lss rfl hh hh) ?_
       refine Nn ?_
       refine T_seq ?_
       revert H; refine is (fun c5 H => ?_) fun c5 H => ?_
       ·
        refine T_cond_t (has rfl) c5 ?_
        refine T_skip ?_
        refine T_then_n ?_
        revert H; refine bs fun o5 H Hr5 => ?_
        refine T_seqJ (ι := List (List Int) × Int) (fun i => o5 = (i.1, i.2)) (fun i => [(0, fPtr tUsage_text a0), (1, fSl tUsageDef a1), (2, fInt .i64 a2), (6, fEq (.pointer (some ⟨b1, 0, none⟩))), (7, fEq (.pointer (some ⟨b2, 0, none⟩))), (8, fEq (.pointer (some ⟨b3, 0, none⟩))), (9, fEq v1), (74, fSl tScopeRule y1.Rules), (75, fInt .i64 (y1.Rules.length : Int)), (76, fInt .i64 x15), (13, fEq (.pointer (some ⟨b8, 0, none⟩))), (17, fInt .i64 i.2), (128, fSl (tInt .i64) y10.Joins), (129, fInt .i64 (y10.Joins.length : Int)), (130, fInt .i64 x29)]) (fun i => [tBlk b3 40 [fEq v2, fEq v13, fEq (.slice none 0 0)], tBlk b8 48 [fInt .i64 y10.At, fSl (tInt .i64) y10.Joins, fInt .i64 y10.Node], tBlk b2 52 [fSl tScopeChan y1.Chans, fSl tScopeSpot y1.Spots, fSl tScopeRule y1.Rules], tBlk b1 40 [fEq (.slice none 0 0), fEq (.slice none 0 0), fEq (.slice none 0 0)], tRowD v1 143 (oRowT 80 (tInt .i64)) i.1, tRow v2 41 (tInt .i64) x2, tRow v13 41 (tInt .i64) z4]) ?_ ?_
        ·
         refine T_block ?_
         refine Sr ?_
         revert H; refine bs fun y20 h27 H => ?_
         refine Yy (o_index rfl hh hh ty_el_46 h27) ?_
         refine Yy (o_load rfl hh ty_sc_3 rfl) ?_
         refine Ya ?_
         refine Nn ?_
         refine Sr ?_
         refine Ym ?_
         refine Ym ?_
         revert H; refine bs fun y21 h28 H => ?_
         refine Yo 4 rfl (o_indexG rfl hh hh ty_el_142 h28) ?_
         refine T_fr4 ?_
         refine T_openD (i := y20.toNat) (k := 0) (y := y21) (f := (fun v => tRow v 80 (tInt .i64) y21)) (idx_get h28) rfl (fun v14 => ?_)
         refine T_rowCell 0 rfl (fun hc_v14 => ?_)
         refine Yo 1 rfl (o_loadH rfl rfl hh ty_sc_143 (idx_get h28) rfl) ?_
         refine Yo 0 rfl (o_lenR rfl hh ty_us_143) ?_
         refine Ym ?_
         refine Nn ?_
         refine T_block ?_
         refine T_pick [2, 3, 4, 5, 1, 6, 7, 0] (by decide) ?_
         refine T_loop (ι := Nat × Int × Int × List Int) (fun i => usage_text_asks_l5 fuel a0 a1 y10 x27 y20 y21 i.1 i.2.1 i.2.2.1 i.2.2.2 = _) (fun i => i.1) (fun i => [(0, fPtr tUsage_text a0), (1, fSl tUsageDef a1), (2, fInt .i64 a2), (6, fEq (.pointer (some ⟨b1, 0, none⟩))), (7, fEq (.pointer (some ⟨b2, 0, none⟩))), (8, fEq (.pointer (some ⟨b3, 0, none⟩))), (9, fEq v1), (74, fSl tScopeRule y1.Rules), (75, fInt .i64 (y1.Rules.length : Int)), (76, fInt .i64 x15), (13, fEq (.pointer (some ⟨b8, 0, none⟩))), (17, fInt .i64 i.2.1), (128, fSl (tInt .i64) y10.Joins), (129, fInt .i64 (y10.Joins.length : Int)), (130, fInt .i64 x29), (19, fInt .i64 y20), (138, fInt .i64 (y21.length : Int)), (139, fInt .i64 i.2.2.1)]) (fun i => [tBlk b3 40 [fEq v2, fEq v13, fEq (.slice none 0 0)], tBlk b8 48 [fInt .i64 y10.At, fSl (tInt .i64) y10.Joins, fInt .i64 y10.Node], tBlk b2 52 [fSl tScopeChan y1.Chans, fSl tScopeSpot y1.Spots, fSl tScopeRule y1.Rules], tBlk b1 40 [fEq (.slice none 0 0), fEq (.slice none 0 0), fEq (.slice none 0 0)], tHole v1 143 (oRowT 80 (tInt .i64)) x27 (y20.toNat * OTy.sz (oRowT 80 (tInt .i64)) + 0) v14, tRow v2 41 (tInt .i64) x2, tRow v13 41 (tInt .i64) z4, tRow v14 80 (tInt .i64) i.2.2.2]) (fuel, x28, 0, y21) H (Sc (Sc (Sc (Sc (Sc (Sc (Sc (Sc (Sc (Sc (Sc (Sc (Sc (Sc (Sc (Sc (Sc (Sc SubT.nil)))))))))))))))))) rfl ?_
         clear H; rintro ⟨k5, x35, x36, x37⟩ H
         replace H : usage_text_asks_l5 fuel a0 a1 y10 x27 y20 y21 k5 x35 x36 x37 = _ := H
         show T β _ _ [(0, fPtr tUsage_text a0), (1, fSl tUsageDef a1), (2, fInt .i64 a2), (6, fEq (.pointer (some ⟨b1, 0, none⟩))), (7, fEq (.pointer (some ⟨b2, 0, none⟩))), (8, fEq (.pointer (some ⟨b3, 0, none⟩))), (9, fEq v1), (74, fSl tScopeRule y1.Rules), (75, fInt .i64 (y1.Rules.length : Int)), (76, fInt .i64 x15), (13, fEq (.pointer (some ⟨b8, 0, none⟩))), (17, fInt .i64 x35), (128, fSl (tInt .i64) y10.Joins), (129, fInt .i64 (y10.Joins.length : Int)), (130, fInt .i64 x29), (19, fInt .i64 y20), (138, fInt .i64 (y21.length : Int)), (139, fInt .i64 x36)] [tBlk b3 40 [fEq v2, fEq v13, fEq (.slice none 0 0)], tBlk b8 48 [fInt .i64 y10.At, fSl (tInt .i64) y10.Joins, fInt .i64 y10.Node], tBlk b2 52 [fSl tScopeChan y1.Chans, fSl tScopeSpot y1.Spots, fSl tScopeRule y1.Rules], tBlk b1 40 [fEq (.slice none 0 0), fEq (.slice none 0 0), fEq (.slice none 0 0)], tHole v1 143 (oRowT 80 (tInt .i64)) x27 (y20.toNat * OTy.sz (oRowT 80 (tInt .i64)) + 0) v14, tRow v2 41 (tInt .i64) x2, tRow v13 41 (tInt .i64) z4, tRow v14 80 (tInt .i64) x37] _
         obtain _ | k5 := k5
         ·
          rw [usage_text_asks_l5] at H; cases H
         rw [usage_text_asks_l5] at H
         refine Sr ?_
         refine Yy (o_lss rfl hh hh) ?_
         refine Nn ?_
         refine T_seq ?_
         revert H; refine is (fun c6 H => ?_) fun c6 H => ?_
         ·
          refine T_cond_t (has rfl) c6 ?_
          refine T_skip ?_
          refine T_then_n ?_
          refine T_seq ?_
          refine T_block ?_
          refine Sr ?_
          refine Ym ?_
          refine Ya ?_
          refine Nn ?_
          refine T_seq ?_
          revert H; refine bs fun y22 h29 H => ?_
          revert H; refine bs fun y23 h30 H => ?_
          revert H; refine bs fun y24 h31 H => ?_
          revert H; refine bs fun y25 h32 H => ?_
          revert H; refine bs fun y26 h33 H => ?_
          revert H; refine bs fun y27 h34 H => ?_
          refine T_net 21 [fun _ => .op [] false (fun _ => fEq v1) (fun _ => []), fun _ => .op [] false (fun _ => fInt .i64 y20) (fun _ => []), fun _ => .op [4] false (fun _ => fRowAt v1 1 y20.toNat 0) (fun _ => [tEmp]), fun _ => .op [4] false (fun _ => fEq v14) (fun _ => [tEmp]), fun _ => .op [] false (fun _ => fInt .i64 x36) (fun _ => []), fun _ => .op [] false (fun _ => fEq v1) (fun _ => []), fun _ => .op [] false (fun _ => fInt .i64 y20) (fun _ => []), fun _ => .op [4] false (fun _ => fRowAt v1 1 y20.toNat 0) (fun _ => [tEmp]), fun _ => .op [4] false (fun _ => fEq v14) (fun _ => [tEmp]), fun _ => .op [] false (fun _ => fInt .i64 x36) (fun _ => []), fun _ => .op [7] false (fun _ => fRowAt v14 1 x36.toNat 0) (fun _ => [tEmp]), fun _ => .op [7] false (fun _ => fInt .i64 y24) (fun _ => [tEmp]), fun _ => .op [] false (fun _ => fPtr tUsage_text a0) (fun _ => []), fun _ => .op [] false (fun _ => fSl tUsageDef a1) (fun _ => []), fun _ => .op [] false (fun _ => fEq (.pointer (some ⟨b8, 2, none⟩))) (fun _ => []), fun _ => .op [1] false (fun _ => fInt .i64 y10.Node) (fun _ => [tEmp]), fun _ => .op [] false (fun _ => fInt .i64 x35) (fun _ => []), fun _ => .op [] true (fun _ => fInt .i64 y25) (fun _ => []), fun _ => .op [] true (fun _ => fInt .i64 y26) (fun _ => []), fun _ => .op [7] false (fun _ => fRowAt v14 1 x36.toNat 0) (fun _ => [tEmp]), fun _ => .op [7] true (fun _ => fAny) (fun _ => [tRow v14 80 (tInt .i64) (x37.set x36.toNat y26)])] [([], false, []), ([], false, []), ([4], false, []), ([4], false, []), ([], false, []), ([], false, []), ([], false, []), ([4], false, []), ([4], false, []), ([], false, []), ([7], false, []), ([7], false, []), ([], false, []), ([], false, []), ([], false, []), ([1], false, []), ([], false, []), ([], true, []), ([], true, []), ([7], false, []), ([7], true, [])] 0 8 mixed (F0 (F0 (F0 (F0 (F0 (F0 (F0 (F0 (F0 (F0 (F0 (F0 (F0 (F0 (F0 (F0 (F0 (F0 (F0 (F0 (F0 FitsL.nil))))))))))))))))))))) (by kernel_rfl) rfl rfl (by kernel_rfl) rfl ?_
          dsimp only [netL, List.take, List.replicate, List.append, List.drop]
          refine My (h := o_move rfl hh) (k := fun _ => ?_)
          refine My (h := o_move rfl hh) (k := fun _ => ?_)
          refine N_op (ps := [4]) (φ := fRowAt v1 1 y20.toNat 0) rfl (fun _ => rfl) trivial rfl rfl (o_indexG rfl (has rfl) (has rfl) ty_el_142 h29) (fun _ => ?_)
          refine N_op (ps := [4]) (φ := fEq v14) rfl (fun _ => rfl) trivial rfl rfl (o_loadH rfl rfl (has rfl) ty_sc_143 (idx_get h29) rfl) (fun _ => ?_)
          refine My (h := o_move rfl hh) (k := fun _ => ?_)
          refine My (h := o_move rfl hh) (k := fun _ => ?_)
          refine My (h := o_move rfl hh) (k := fun _ => ?_)
          refine N_op (ps := [4]) (φ := fRowAt v1 1 y20.toNat 0) rfl (fun _ => rfl) trivial rfl rfl (o_indexG rfl (has rfl) (has rfl) ty_el_142 h30) (fun _ => ?_)
          refine N_op (ps := [4]) (φ := fEq v14) rfl (fun _ => rfl) trivial rfl rfl (o_loadH rfl rfl (has rfl) ty_sc_143 (idx_get h30) rfl) (fun _ => ?_)
          refine My (h := o_move rfl hh) (k := fun _ => ?_)
          refine N_op (ps := [7]) (φ := fRowAt v14 1 x36.toNat 0) rfl (fun _ => rfl) trivial rfl rfl (o_indexR rfl (has rfl) (has rfl) ty_el_143 h31) (fun _ => ?_)
          refine N_op (ps := [7]) (φ := fInt .i64 y24) rfl (fun _ => rfl) trivial rfl rfl (o_loadR rfl rfl (has rfl) ty_sc_80 (idx_get h31) rfl) (fun _ => ?_)
          refine My (h := o_move rfl hh) (k := fun _ => ?_)
          refine My (h := o_move rfl hh) (k := fun _ => ?_)
          refine N_y (φ := fEq (.pointer (some ⟨b8, 2, none⟩))) rfl (fun _ => rfl) trivial rfl (o_fieldB 2 rfl (has rfl) ty_fa_48_2 rfl) (fun _ => ?_)
          refine N_op (ps := [1]) (φ := fInt .i64 y10.Node) rfl (fun _ => rfl) trivial rfl rfl (o_loadB rfl (has rfl) ty_sc_3 rfl Ent.rfl) (fun _ => ?_)
          refine My (h := o_move rfl hh) (k := fun _ => ?_)
          refine N_call (Φ := fInt .i64 y25) rfl (fun _ => rfl) trivial rfl rfl (has rfl) (HasL.cons (has rfl) (HasL.cons (has rfl) (HasL.cons (has rfl) (HasL.cons (has rfl) HasL.nil)))) rfl ty_cb_45 (usage_text_sends_w fuel a0 a1 y10.Node x35 y25 h32) (fun _ => ?_)
          refine N_call (Φ := fInt .i64 y26) rfl (fun _ => rfl) trivial rfl rfl (has rfl) (HasL.cons (has rfl) (HasL.cons (has rfl) HasL.nil)) rfl ty_cb_69 (usage_greater_usage_count_w y24 y25 y26 h33) (fun _ => ?_)
          refine N_op (ps := [7]) (φ := fRowAt v14 1 x36.toNat 0) rfl (fun _ => rfl) trivial rfl rfl (o_indexR rfl (has rfl) (has rfl) ty_el_143 h34) (fun _ => ?_)
          refine N_storeR (p := 7) (z' := y26) rfl (fun _ => rfl) (fun _ => rfl) trivial rfl rfl rfl rfl (has rfl) (has rfl) (leaf_eq trivial) ty_sz_80 (idx_get h34) rfl rfl (fun _ => ?_)
          refine N_done rfl ?_
          refine Nn ?_
          refine T_region ?_
          refine Ym ?_
          revert H; refine bs fun z6 h35 H => ?_
          refine Yy (o_add rfl hh hh h35) ?_
          refine Ya ?_
          refine T_nil ?_
          refine T_in_n ?_
          refine T_then_n ?_
          refine T_region ?_
          revert H; refine bs fun z7 h36 H => ?_
          refine Yy (o_add rfl hh hh h36) ?_
          refine Ym ?_
          refine Nn ?_
          exact T_meet ((k5, z6, z7, x37.set x36.toNat y26)) ⟨H, Nat.lt_succ_self _⟩ (Sc (Sc (Sc (Sc (Sc (Sc (Sc (Sc (Sc (Sc (Sc (Sc (Sc (Sc (Sc (Sc (Sc (Sc SubT.nil)))))))))))))))))) rfl
         ·
          refine T_cond_f (has rfl) c6 ?_
          refine T_exit ?_
          refine T_then_exit ?_
          refine T_then_exit ?_
          refine T_in_hit ?_
          refine T_in_n ?_
          refine T_then_n ?_
          refine T_fr4 ?_
          refine T_fr7 ?_
          refine T_closeD (o := (oRowT 80 (tInt .i64))) (i := y20.toNat) (k := 0) (y := y21) (y' := x37) (f := (fun v => tRow v 80 (tInt .i64) x37)) (hf := (fun _ => row_isCell)) (idx_get h28) rfl rfl ?_
          refine T_pick [1, 2, 3, 4, 0, 5, 6] (by decide) ?_
          exact T_meet ((x27.set y20.toNat x37, x35)) (Option.some.inj H).symm (Sc (Sc (Sc (Sc (Sc (Sc (Sc (Sc (Sc (Sc (Sc (Sc (Sc (Sc (Sc SubT.nil))))))))))))))) rfl
        ·
         clear H; intro i hi; obtain ⟨x30, x31⟩ := i; subst o5; have H := Hr5; clear Hr5; try dsimp only at H
         show T β _ _ [(0, fPtr tUsage_text a0), (1, fSl tUsageDef a1), (2, fInt .i64 a2), (6, fEq (.pointer (some ⟨b1, 0, none⟩))), (7, fEq (.pointer (some ⟨b2, 0, none⟩))), (8, fEq (.pointer (some ⟨b3, 0, none⟩))), (9, fEq v1), (74, fSl tScopeRule y1.Rules), (75, fInt .i64 (y1.Rules.length : Int)), (76, fInt .i64 x15), (13, fEq (.pointer (some ⟨b8, 0, none⟩))), (17, fInt .i64 x31), (128, fSl (tInt .i64) y10.Joins), (129, fInt .i64 (y10.Joins.length : Int)), (130, fInt .i64 x29)] [tBlk b3 40 [fEq v2, fEq v13, fEq (.slice none 0 0)], tBlk b8 48 [fInt .i64 y10.At, fSl (tInt .i64) y10.Joins, fInt .i64 y10.Node], tBlk b2 52 [fSl tScopeChan y1.Chans, fSl tScopeSpot y1.Spots, fSl tScopeRule y1.Rules], tBlk b1 40 [fEq (.slice none 0 0), fEq (.slice none 0 0), fEq (.slice none 0 0)], tRowD v1 143 (oRowT 80 (tInt .i64)) x30, tRow v2 41 (tInt .i64) x2, tRow v13 41 (tInt .i64) z4] _
         refine T_region ?_
         revert H; refine bs fun z8 h37 H => ?_
         refine Yy (o_add rfl hh hh h37) ?_
         refine Ym ?_
         refine Nn ?_
         exact T_meet ((k4, x30, x31, z8)) ⟨H, Nat.lt_succ_self _⟩ (Sc (Sc (Sc (Sc (Sc (Sc (Sc (Sc (Sc (Sc (Sc (Sc (Sc (Sc (Sc SubT.nil))))))))))))))) rfl
       ·
        refine T_cond_f (has rfl) c5 ?_
        refine T_exit ?_
        refine T_then_exit ?_
        refine T_then_exit ?_
        refine T_in_hit ?_
        refine T_in_n ?_
        refine T_then_n ?_
        refine T_pick [0, 2, 3, 4, 5, 6] (by decide) ?_
        exact T_meet ((x27, z4, v13)) (Option.some.inj H).symm (Sc (Sc (Sc (Sc (Sc (Sc (Sc (Sc (Sc (Sc SubT.nil)))))))))) rfl
    ·
     clear H; intro i hi; obtain ⟨x17, x18, v11⟩ := i; subst o3; have H := Hr3; clear Hr3; try dsimp only at H
     show T β _ _ [(0, fPtr tUsage_text a0), (1, fSl tUsageDef a1), (2, fInt .i64 a2), (6, fEq (.pointer (some ⟨b1, 0, none⟩))), (7, fEq (.pointer (some ⟨b2, 0, none⟩))), (8, fEq (.pointer (some ⟨b3, 0, none⟩))), (9, fEq v1), (74, fSl tScopeRule y1.Rules), (75, fInt .i64 (y1.Rules.length : Int)), (76, fInt .i64 x15)] [tBlk b3 40 [fEq v2, fEq v11, fEq (.slice none 0 0)], tBlk b2 52 [fSl tScopeChan y1.Chans, fSl tScopeSpot y1.Spots, fSl tScopeRule y1.Rules], tBlk b1 40 [fEq (.slice none 0 0), fEq (.slice none 0 0), fEq (.slice none 0 0)], tRowD v1 143 (oRowT 80 (tInt .i64)) x17, tRow v2 41 (tInt .i64) x2, tRow v11 41 (tInt .i64) x18] _
     refine T_rowCell 5 rfl (fun hc_v11 => ?_)
     refine T_region ?_
     revert H; refine bs fun z9 h38 H => ?_
     refine Yy (o_add rfl hh hh h38) ?_
     refine Ym ?_
     refine Nn ?_
     exact T_meet ((k2, x17, z9, x18, v11)) ⟨H, Nat.lt_succ_self _⟩ (Sc (Sc (Sc (Sc (Sc (Sc (Sc (Sc (Sc (Sc SubT.nil)))))))))) rfl
   ·
    refine T_cond_f (has rfl) c2 ?_
    refine T_exit ?_
    refine T_then_exit ?_
    refine T_then_exit ?_
    refine T_in_hit ?_
    refine T_then_n ?_
    exact T_meet ((x14, x16, v10)) (Option.some.inj H).symm (Sc (Sc (Sc SubT.nil))) rfl
  ·
   clear H; intro i hi; obtain ⟨x9, x10, v8⟩ := i; subst o2; have H := Hr2; clear Hr2; try dsimp only at H
   show T β _ _ [(6, fEq (.pointer (some ⟨b1, 0, none⟩))), (8, fEq (.pointer (some ⟨b3, 0, none⟩))), (9, fEq v1)] [tBlk b3 40 [fEq v2, fEq v8, fEq (.slice none 0 0)], tBlk b2 52 [fSl tScopeChan y1.Chans, fSl tScopeSpot y1.Spots, fSl tScopeRule y1.Rules], tBlk b1 40 [fEq (.slice none 0 0), fEq (.slice none 0 0), fEq (.slice none 0 0)], tRowD v1 143 (oRowT 80 (tInt .i64)) x9, tRow v2 41 (tInt .i64) x2, tRow v8 41 (tInt .i64) x10] _
   refine T_rowCell 5 rfl (fun hc_v8 => ?_)
   revert H; refine bs fun o6 H Hr6 => ?_
   refine T_seqJ (ι := List (List Int) × Value) (fun i => o6 = i.1) (fun i => [(6, fEq (.pointer (some ⟨b1, 0, none⟩))), (8, fEq (.pointer (some ⟨b3, 0, none⟩)))]) (fun i => [tBlk b3 40 [fEq v2, fEq v8, fEq i.2], tBlk b2 52 [fSl tScopeChan y1.Chans, fSl tScopeSpot y1.Spots, fSl tScopeRule y1.Rules], tBlk b1 40 [fEq (.slice none 0 0), fEq (.slice none 0 0), fEq (.slice none 0 0)], tRow v2 41 (tInt .i64) x2, tRow v8 41 (tInt .i64) x10, tRowD i.2 37 (oRowT 41 (tInt .i64)) i.1]) ?_ ?_
   ·
    refine Sr ?_
    refine Ym ?_
    refine Yo 3 rfl (o_lenG rfl hh ty_us_142) ?_
    refine Ym ?_
    refine Nn ?_
    refine T_block ?_
    refine T_nilRowD (oRowT 41 (tInt .i64)) 37 ?_
    refine T_pick [1, 2, 3, 4, 5, 6, 0] (by decide) ?_
    refine T_loop (ι := Nat × List (List Int) × Int × List (List Int) × Value) (fun i => usage_text_asks_l6 fuel x9 i.1 i.2.1 i.2.2.1 i.2.2.2.1 = _) (fun i => i.1) (fun i => [(6, fEq (.pointer (some ⟨b1, 0, none⟩))), (8, fEq (.pointer (some ⟨b3, 0, none⟩))), (167, fEq v1), (168, fInt .i64 (x9.length : Int)), (169, fInt .i64 i.2.2.1)]) (fun i => [tBlk b3 40 [fEq v2, fEq v8, fEq i.2.2.2.2], tBlk b2 52 [fSl tScopeChan y1.Chans, fSl tScopeSpot y1.Spots, fSl tScopeRule y1.Rules], tBlk b1 40 [fEq (.slice none 0 0), fEq (.slice none 0 0), fEq (.slice none 0 0)], tRowD v1 143 (oRowT 80 (tInt .i64)) i.2.1, tRow v2 41 (tInt .i64) x2, tRow v8 41 (tInt .i64) x10, tRowD i.2.2.2.2 37 (oRowT 41 (tInt .i64)) i.2.2.2.1]) (fuel, x9, 0, [], (.slice none 0 0)) H (Sc (Sc (Sc (Sc (Sc SubT.nil))))) rfl ?_
    clear H; rintro ⟨k6, x42, x43, x44, v17⟩ H
    replace H : usage_text_asks_l6 fuel x9 k6 x42 x43 x44 = _ := H
    show T β _ _ [(6, fEq (.pointer (some ⟨b1, 0, none⟩))), (8, fEq (.pointer (some ⟨b3, 0, none⟩))), (167, fEq v1), (168, fInt .i64 (x9.length : Int)), (169, fInt .i64 x43)] [tBlk b3 40 [fEq v2, fEq v8, fEq v17], tBlk b2 52 [fSl tScopeChan y1.Chans, fSl tScopeSpot y1.Spots, fSl tScopeRule y1.Rules], tBlk b1 40 [fEq (.slice none 0 0), fEq (.slice none 0 0), fEq (.slice none 0 0)], tRowD v1 143 (oRowT 80 (tInt .i64)) x42, tRow v2 41 (tInt .i64) x2, tRow v8 41 (tInt .i64) x10, tRowD v17 37 (oRowT 41 (tInt .i64)) x44] _
    obtain _ | k6 := k6
    ·
     rw [usage_text_asks_l6] at H; cases H
    rw [usage_text_asks_l6] at H
    refine T_rowCellG 6 rfl (fun hc_v17 => ?_)
    refine Sr ?_
    refine Yy (o_lss rfl hh hh) ?_
    refine Nn ?_
    refine T_seq ?_
    revert H; refine is (fun c7 H => ?_) fun c7 H => ?_
    ·
     refine T_cond_t (has rfl) c7 ?_
     refine T_skip ?_
     refine T_then_n ?_
     revert H; refine bs fun o7 H Hr7 => ?_
     refine T_seqJ (ι := List (List Int) × List (List Int) × Value) (fun i => o7 = (i.1, i.2.1)) (fun i => [(6, fEq (.pointer (some ⟨b1, 0, none⟩))), (8, fEq (.pointer (some ⟨b3, 0, none⟩))), (167, fEq v1), (168, fInt .i64 (x9.length : Int)), (169, fInt .i64 x43)]) (fun i => [tBlk b3 40 [fEq v2, fEq v8, fEq i.2.2], tBlk b2 52 [fSl tScopeChan y1.Chans, fSl tScopeSpot y1.Spots, fSl tScopeRule y1.Rules], tBlk b1 40 [fEq (.slice none 0 0), fEq (.slice none 0 0), fEq (.slice none 0 0)], tRowD v1 143 (oRowT 80 (tInt .i64)) i.1, tRow v2 41 (tInt .i64) x2, tRow v8 41 (tInt .i64) x10, tRowD i.2.2 37 (oRowT 41 (tInt .i64)) i.2.1]) ?_ ?_
     ·
      refine T_block ?_
      refine Sr ?_
      revert H; refine bs fun y28 h39 H => ?_
      refine Yo 3 rfl (o_indexG rfl hh hh ty_el_142 h39) ?_
      refine T_fr3 ?_
      refine T_openD (i := x43.toNat) (k := 0) (y := y28) (f := (fun v => tRow v 80 (tInt .i64) y28)) (idx_get h39) rfl (fun v19 => ?_)
      refine T_rowCell 0 rfl (fun hc_v19 => ?_)
      refine Yo 1 rfl (o_loadH rfl rfl hh ty_sc_143 (idx_get h39) rfl) ?_
      refine Ya ?_
      refine Nn ?_
      refine Sr ?_
      refine Ya ?_
      refine Nn ?_
      revert H; refine bs fun o8 H Hr8 => ?_
      refine T_seqJ (ι := List Int × Value) (fun i => o8 = i.1) (fun i => [(6, fEq (.pointer (some ⟨b1, 0, none⟩))), (8, fEq (.pointer (some ⟨b3, 0, none⟩))), (167, fEq v1), (168, fInt .i64 (x9.length : Int)), (169, fInt .i64 x43), (23, fEq i.2)]) (fun i => [tBlk b3 40 [fEq v2, fEq v8, fEq v17], tBlk b2 52 [fSl tScopeChan y1.Chans, fSl tScopeSpot y1.Spots, fSl tScopeRule y1.Rules], tBlk b1 40 [fEq (.slice none 0 0), fEq (.slice none 0 0), fEq (.slice none 0 0)], tHole v1 143 (oRowT 80 (tInt .i64)) x42 (x43.toNat * OTy.sz (oRowT 80 (tInt .i64)) + 0) v19, tRow i.2 41 (tInt .i64) i.1, tRow v2 41 (tInt .i64) x2, tRow v8 41 (tInt .i64) x10, tRowD v17 37 (oRowT 41 (tInt .i64)) x44, tRow v19 80 (tInt .i64) y28]) ?_ ?_
      ·
       refine Sr ?_
       refine Ym ?_
       refine Yo 0 rfl (o_lenR rfl hh ty_us_143) ?_
       refine Ym ?_
       refine Nn ?_
       refine T_block ?_
       refine T_nilRow (tInt .i64) 41 ?_
       refine T_pick [3, 4, 5, 2, 0, 1, 6, 7, 8] (by decide) ?_
       refine T_loop (ι := Nat × List Int × Int × Value) (fun i => usage_text_asks_l7 y28 i.1 i.2.1 i.2.2.1 = _) (fun i => i.1) (fun i => [(6, fEq (.pointer (some ⟨b1, 0, none⟩))), (8, fEq (.pointer (some ⟨b3, 0, none⟩))), (167, fEq v1), (168, fInt .i64 (x9.length : Int)), (169, fInt .i64 x43), (23, fEq i.2.2.2), (173, fEq v19), (174, fInt .i64 (y28.length : Int)), (175, fInt .i64 i.2.2.1)]) (fun i => [tBlk b3 40 [fEq v2, fEq v8, fEq v17], tBlk b2 52 [fSl tScopeChan y1.Chans, fSl tScopeSpot y1.Spots, fSl tScopeRule y1.Rules], tBlk b1 40 [fEq (.slice none 0 0), fEq (.slice none 0 0), fEq (.slice none 0 0)], tHole v1 143 (oRowT 80 (tInt .i64)) x42 (x43.toNat * OTy.sz (oRowT 80 (tInt .i64)) + 0) v19, tRow i.2.2.2 41 (tInt .i64) i.2.1, tRow v19 80 (tInt .i64) y28, tRow v2 41 (tInt .i64) x2, tRow v8 41 (tInt .i64) x10, tRowD v17 37 (oRowT 41 (tInt .i64)) x44]) (fuel, [], 0, (.slice none 0 0)) H (Sc (Sc (Sc (Sc (Sc (Sc (Sc (Sc (Sc SubT.nil))))))))) rfl ?_
       clear H; rintro ⟨k7, x50, x51, v22⟩ H
       replace H : usage_text_asks_l7 y28 k7 x50 x51 = _ := H
       show T β _ _ [(6, fEq (.pointer (some ⟨b1, 0, none⟩))), (8, fEq (.pointer (some ⟨b3, 0, none⟩))), (167, fEq v1), (168, fInt .i64 (x9.length : Int)), (169, fInt .i64 x43), (23, fEq v22), (173, fEq v19), (174, fInt .i64 (y28.length : Int)), (175, fInt .i64 x51)] [tBlk b3 40 [fEq v2, fEq v8, fEq v17], tBlk b2 52 [fSl tScopeChan y1.Chans, fSl tScopeSpot y1.Spots, fSl tScopeRule y1.Rules], tBlk b1 40 [fEq (.slice none 0 0), fEq (.slice none 0 0), fEq (.slice none 0 0)], tHole v1 143 (oRowT 80 (tInt .i64)) x42 (x43.toNat * OTy.sz (oRowT 80 (tInt .i64)) + 0) v19, tRow v22 41 (tInt .i64) x50, tRow v19 80 (tInt .i64) y28, tRow v2 41 (tInt .i64) x2, tRow v8 41 (tInt .i64) x10, tRowD v17 37 (oRowT 41 (tInt .i64)) x44] _
       obtain _ | k7 := k7
       ·
        rw [usage_text_asks_l7] at H; cases H
       rw [usage_text_asks_l7] at H
       refine T_rowCell 4 rfl (fun hc_v22 => ?_)
       refine Sr ?_
       refine Yy (o_lss rfl hh hh) ?_
       refine Nn ?_
       refine T_seq ?_
       revert H; refine is (fun c8 H => ?_) fun c8 H => ?_
       ·
        refine T_cond_t (has rfl) c8 ?_
        refine T_skip ?_
        refine T_then_n ?_
        refine T_seq ?_
        refine T_block ?_
        refine Sr ?_
        revert H; refine bs fun y29 h40 H => ?_
        refine Yo 5 rfl (o_indexR rfl hh hh ty_el_143 h40) ?_
        refine Yo 5 rfl (o_loadR rfl rfl hh ty_sc_80 (idx_get h40) rfl) ?_
        refine Ya ?_
        refine Nn ?_
        refine T_region ?_
        refine Ym ?_
        refine Ym ?_
        revert H; refine bs fun y30 h41 H => ?_
        refine T_call trivial rfl rfl rfl (has rfl) (HasL.cons (has rfl) HasL.nil) rfl ty_cb_46 (usage_count_kind_w y29 y30 h41) rfl ?_
        refine T_new trivial rfl rfl (n_buildSliceC (t := (tInt .i64)) (xs := [y30]) rfl ty_et_37 (PartsS.cons rfl (has rfl) (part_leaf (leaf_eq trivial)) PartsS.nil) rfl rfl rfl) (fun b10 => ?_)
        generalize hv_v23 : (Value.slice (some ⟨b10, 0, none⟩) _ _) = v23; clear hv_v23
        refine T_rowCell 0 rfl (fun hc_v23 => ?_)
        revert H; refine bs fun z10 h42 H => ?_
        refine T_fr5 ?_
        refine T_fr1 ?_
        refine T_appendR trivial rfl rfl rfl (has rfl) (has rfl) ty_et_37 rfl h42 (fun v24 => ?_)
        refine T_rowCell 0 rfl (fun hc_v24 => ?_)
        refine Ya ?_
        refine T_nil ?_
        refine T_in_n ?_
        refine T_then_n ?_
        refine T_region ?_
        revert H; refine bs fun z11 h43 H => ?_
        refine Yy (o_add rfl hh hh h43) ?_
        refine Ym ?_
        refine Nn ?_
        refine T_pick [1, 2, 3, 4, 0, 5, 6, 7, 8] (by decide) ?_
        exact T_meet ((k7, z10, z11, v24)) ⟨H, Nat.lt_succ_self _⟩ (Sc (Sc (Sc (Sc (Sc (Sc (Sc (Sc (Sc SubT.nil))))))))) rfl
       ·
        refine T_cond_f (has rfl) c8 ?_
        refine T_exit ?_
        refine T_then_exit ?_
        refine T_then_exit ?_
        refine T_in_hit ?_
        refine T_then_n ?_
        refine T_pick [0, 1, 2, 3, 4, 6, 7, 8, 5] (by decide) ?_
        exact T_meet ((x50, v22)) (Option.some.inj H).symm (Sc (Sc (Sc (Sc (Sc (Sc SubT.nil)))))) rfl
      ·
       clear H; intro i hi; obtain ⟨x47, v20⟩ := i; subst o8; have H := Hr8; clear Hr8; try dsimp only at H
       show T β _ _ [(6, fEq (.pointer (some ⟨b1, 0, none⟩))), (8, fEq (.pointer (some ⟨b3, 0, none⟩))), (167, fEq v1), (168, fInt .i64 (x9.length : Int)), (169, fInt .i64 x43), (23, fEq v20)] [tBlk b3 40 [fEq v2, fEq v8, fEq v17], tBlk b2 52 [fSl tScopeChan y1.Chans, fSl tScopeSpot y1.Spots, fSl tScopeRule y1.Rules], tBlk b1 40 [fEq (.slice none 0 0), fEq (.slice none 0 0), fEq (.slice none 0 0)], tHole v1 143 (oRowT 80 (tInt .i64)) x42 (x43.toNat * OTy.sz (oRowT 80 (tInt .i64)) + 0) v19, tRow v20 41 (tInt .i64) x47, tRow v2 41 (tInt .i64) x2, tRow v8 41 (tInt .i64) x10, tRowD v17 37 (oRowT 41 (tInt .i64)) x44, tRow v19 80 (tInt .i64) y28] _
       refine T_rowCell 4 rfl (fun hc_v20 => ?_)
       refine T_region ?_
       refine Yy (o_fieldB 2 rfl hh ty_fa_40_2 rfl) ?_
       refine Yo 0 rfl (o_loadB rfl hh ty_sc_38 rfl Ent.rfl) ?_
       refine Ym ?_
       refine T_new trivial rfl rfl (n_buildSliceC (t := tF 1) (xs := [[⟨fEq v20, leaf_eq hc_v20⟩]]) rfl ty_et_38 (PartsS.cons rfl (has rfl) (part_leaf (leaf_eq hc_v20)) PartsS.nil) rfl rfl rfl) (fun b11 => ?_)
       generalize hv_v25 : (Value.slice (some ⟨b11, 0, none⟩) _ _) = v25; clear hv_v25
       refine T_toG ?_
       refine T_fr5 ?_
       refine T_closeE (p := 0) (f := (fun v => tRow v 41 (tInt .i64) x47)) (hf := (fun _ => row_isCell)) rfl Ent.rfl ?_
       refine T_asD (o := (oRowT 41 (tInt .i64))) (xs := ([x47] : List (List Int))) rfl rfl rfl ?_
       refine T_rowCellG 0 rfl (fun hc_v25 => ?_)
       revert H; refine bs fun z12 h44 H => ?_
       refine T_fr7 ?_
       refine T_fr1 ?_
       refine T_appendD (q := (oRowT 41 (tInt .i64))) trivial rfl rfl rfl (has rfl) (has rfl) ty_et_38 rfl h44 (fun v26 => ?_)
       refine T_rowCellG 0 rfl (fun hc_v26 => ?_)
       refine Yy (o_fieldB 2 rfl hh ty_fa_40_2 rfl) ?_
       refine T_fr1 ?_
       refine T_store (φs' := [fEq v2, fEq v8, fEq v26]) trivial rfl rfl (has rfl) (has rfl) (leaf_eq hc_v26) ty_sz_38 rfl rfl ?_
       refine T_nil ?_
       refine T_in_n ?_
       refine T_then_n ?_
       refine T_fr4 ?_
       refine T_fr7 ?_
       refine T_closeD (o := (oRowT 80 (tInt .i64))) (i := x43.toNat) (k := 0) (y := y28) (y' := y28) (f := (fun v => tRow v 80 (tInt .i64) y28)) (hf := (fun _ => row_isCell)) (idx_get h39) rfl rfl ?_
       refine T_pick [1, 3, 4, 0, 5, 6, 2] (by decide) ?_
       exact T_meet ((x42.set x43.toNat y28, z12, v26)) (Option.some.inj H).symm (Sc (Sc (Sc (Sc (Sc SubT.nil))))) rfl
     ·
      clear H; intro i hi; obtain ⟨x45, x46, v18⟩ := i; subst o7; have H := Hr7; clear Hr7; try dsimp only at H
      show T β _ _ [(6, fEq (.pointer (some ⟨b1, 0, none⟩))), (8, fEq (.pointer (some ⟨b3, 0, none⟩))), (167, fEq v1), (168, fInt .i64 (x9.length : Int)), (169, fInt .i64 x43)] [tBlk b3 40 [fEq v2, fEq v8, fEq v18], tBlk b2 52 [fSl tScopeChan y1.Chans, fSl tScopeSpot y1.Spots, fSl tScopeRule y1.Rules], tBlk b1 40 [fEq (.slice none 0 0), fEq (.slice none 0 0), fEq (.slice none 0 0)], tRowD v1 143 (oRowT 80 (tInt .i64)) x45, tRow v2 41 (tInt .i64) x2, tRow v8 41 (tInt .i64) x10, tRowD v18 37 (oRowT 41 (tInt .i64)) x46] _
      refine T_rowCellG 6 rfl (fun hc_v18 => ?_)
      refine T_region ?_
      revert H; refine bs fun z13 h45 H => ?_
      refine Yy (o_add rfl hh hh h45) ?_
      refine Ym ?_
      refine Nn ?_
      exact T_meet ((k6, x45, z13, x46, v18)) ⟨H, Nat.lt_succ_self _⟩ (Sc (Sc (Sc (Sc (Sc SubT.nil))))) rfl
    ·
     refine T_cond_f (has rfl) c7 ?_
     refine T_exit ?_
     refine T_then_exit ?_
     refine T_then_exit ?_
     refine T_in_hit ?_
     refine T_then_n ?_
     refine T_pick [0, 1, 2, 4, 5, 6] (by decide) ?_
     exact T_meet ((x44, v17)) (Option.some.inj H).symm (Sc (Sc SubT.nil)) rfl
   ·
    clear H; intro i hi; obtain ⟨x38, v15⟩ := i; subst o6; have H := Hr6; clear Hr6; try dsimp only at H
    show T β _ _ [(6, fEq (.pointer (some ⟨b1, 0, none⟩))), (8, fEq (.pointer (some ⟨b3, 0, none⟩)))] [tBlk b3 40 [fEq v2, fEq v8, fEq v15], tBlk b2 52 [fSl tScopeChan y1.Chans, fSl tScopeSpot y1.Spots, fSl tScopeRule y1.Rules], tBlk b1 40 [fEq (.slice none 0 0), fEq (.slice none 0 0), fEq (.slice none 0 0)], tRow v2 41 (tInt .i64) x2, tRow v8 41 (tInt .i64) x10, tRowD v15 37 (oRowT 41 (tInt .i64)) x38] _
    refine T_rowCellG 5 rfl (fun hc_v15 => ?_)
    refine Sr ?_
    refine Yo 0 rfl (o_loadBS rfl hh ty_ag_40 rfl rfl) ?_
    refine T_fr2 ?_
    refine T_storeS (φs' := [fEq v2, fEq v8, fEq v15]) trivial rfl rfl (has rfl) (has rfl) (ll_cons (leaf_eq hc_v2) (ll_cons (leaf_eq hc_v8) (ll_cons (leaf_eq hc_v15) ll_nil))) ty_sz_40 rfl rfl rfl ?_
    refine Nn ?_
    refine T_retc ?_
    cases H
    refine T_pick [0, 3, 4, 5] (by decide) ?_
    exact T_outWC rfl ty_ag_40 (hasS rfl) (AsmL.own (AsmL.own (AsmL.own AsmL.nil))) rfl rfl
def usage_text_all_l1 (fuel : Nat) (a0 : Usage_text) (a1 : List UsageDef) : Nat → (List UsageDef) → Int → Option (List UsageDef)
| 0, _, _ => none
| k + 1, x4, x5 =>
 if x5 < (a0.ScopeProg.Defs.length : Int) then
  (usage_text_asks_S fuel a0 a1 x5).bind fun y1 =>
  (room (x4 ++ ([(⟨y1.Chans, y1.Rules, y1.Args⟩ : UsageDef)] : List UsageDef))).bind fun z1 =>
  (chk (x5 + 1)).bind fun z2 =>
  usage_text_all_l1 fuel a0 a1 k z1 z2
 else
  some x4
def usage_text_all_S (fuel : Nat) (a0 : Usage_text) (a1 : List UsageDef) : Option (List UsageDef) :=
 (usage_text_all_l1 fuel a0 a1 fuel [] 0).bind fun x1 =>
 some x1
theorem usage_text_all_w (fuel : Nat)  (a0 : Usage_text) (a1 : List UsageDef) (r : List UsageDef) (H : usage_text_all_S fuel a0 a1 = some r) : FnS Try.prog 24 [fPtr tUsage_text a0, fSl tUsageDef a1] [] fAny (fun v => [(fun v => tRowD v 40 oUsageDef r) v]) := by
 unfold usage_text_all_S at H
 refine FnS_of Try.func24 rfl Try.ntmps24 rfl (fun β => ?_)
 refine Sr ?_
 refine Ya ?_
 refine Nn ?_
 refine Sr ?_
 refine Ya ?_
 refine Nn ?_
 revert H; refine bs fun o1 H Hr1 => ?_
 refine T_seqJ (ι := List UsageDef × Value) (fun i => o1 = i.1) (fun i => [(5, fEq i.2)]) (fun i => [tRowD i.2 40 oUsageDef i.1]) ?_ ?_
 ·
  refine Sr ?_
  refine Ym ?_
  refine Yy (o_nilCheck rfl (has rfl) (fun m v ⟨p, h, _⟩ => ⟨p, h⟩)) ?_
  refine Yy (o_field (t' := tScopeProg) (z := a0.ScopeProg) rfl hh ty_fa_79_0 rfl) ?_
  refine Yy (o_field (t' := (tSl tScopeDef)) (z := a0.ScopeProg.Defs) rfl hh ty_fa_26_2 rfl) ?_
  refine Yy (o_load rfl hh ty_sc_24 rfl) ?_
  refine Yy (o_len rfl hh ty_us_24) ?_
  refine Ym ?_
  refine Nn ?_
  refine T_block ?_
  refine T_nilRowD oUsageDef 40 ?_
  refine T_loop (ι := Nat × List UsageDef × Int × Value) (fun i => usage_text_all_l1 fuel a0 a1 i.1 i.2.1 i.2.2.1 = _) (fun i => i.1) (fun i => [(0, fPtr tUsage_text a0), (1, fSl tUsageDef a1), (5, fEq i.2.2.2), (12, fInt .i64 (a0.ScopeProg.Defs.length : Int)), (13, fInt .i64 i.2.2.1)]) (fun i => [tRowD i.2.2.2 40 oUsageDef i.2.1]) (fuel, [], 0, (.slice none 0 0)) H (Sc (Sc (Sc (Sc (Sc SubT.nil))))) rfl ?_
  clear H; rintro ⟨k1, x4, x5, v3⟩ H
  replace H : usage_text_all_l1 fuel a0 a1 k1 x4 x5 = _ := H
  show T β _ _ [(0, fPtr tUsage_text a0), (1, fSl tUsageDef a1), (5, fEq v3), (12, fInt .i64 (a0.ScopeProg.Defs.length : Int)), (13, fInt .i64 x5)] [tRowD v3 40 oUsageDef x4] _
  obtain _ | k1 := k1
  ·
   rw [usage_text_all_l1] at H; cases H
  rw [usage_text_all_l1] at H
  refine T_rowCellG 0 rfl (fun hc_v3 => ?_)
  refine Sr ?_
  refine Yy (o_lss rfl hh hh) ?_
  refine Nn ?_
  refine T_seq ?_
  revert H; refine is (fun c1 H => ?_) fun c1 H => ?_
  ·
   refine T_cond_t (has rfl) c1 ?_
   refine T_skip ?_
   refine T_then_n ?_
   refine T_seq ?_
   refine T_block ?_
   refine Sr ?_
   refine Ym ?_
   refine Ya ?_
   refine Nn ?_
   refine T_region ?_
   refine Ym ?_
   refine Ym ?_
   refine Ym ?_
   refine Ym ?_
   revert H; refine bs fun y1 h1 H => ?_
   refine T_callO trivial rfl rfl rfl (has rfl) (HasL.cons (has rfl) (HasL.cons (has rfl) (HasL.cons (has rfl) HasL.nil))) rfl ty_cb_54 (usage_text_asks_w fuel a0 a1 x5 y1 h1) (Δi := []) rfl (fun v4 => ?_)
   dsimp only [List.append, List.cons_append, List.nil_append]
   refine T_openW (c := .agg) (fs := [.own (fun v => tRow v 41 (tInt .i64) y1.Chans) (fun _ => row_isCell), .own (fun v => tRow v 41 (tInt .i64) y1.Rules) (fun _ => row_isCell), .own (fun v => tRowD v 37 (oRowT 41 (tInt .i64)) y1.Args) (fun _ => rowG_cell)]) (fun v5 v6 v7 => ?_)
   dsimp only [List.append, List.cons_append, List.nil_append]
   refine T_rowCell 0 rfl (fun hc_v5 => ?_)
   refine T_rowCell 1 rfl (fun hc_v6 => ?_)
   refine T_rowCellG 2 rfl (fun hc_v7 => ?_)
   refine T_new trivial rfl rfl (n_buildSliceC (t := tF 3) (xs := [[⟨fEq v5, leaf_eq hc_v5⟩, ⟨fEq v6, leaf_eq hc_v6⟩, ⟨fEq v7, leaf_eq hc_v7⟩]]) rfl ty_et_27 (PartsS.cons rfl (has rfl) part_agg PartsS.nil) rfl rfl rfl) (fun b1 => ?_)
   generalize hv_v8 : (Value.slice (some ⟨b1, 0, none⟩) _ _) = v8; clear hv_v8
   refine T_toG ?_
   refine T_fr1 ?_
   refine T_closeE (p := 0) (f := (fun v => tRow v 41 (tInt .i64) y1.Chans)) (hf := (fun _ => row_isCell)) rfl Ent.rfl ?_
   refine T_fr1 ?_
   refine T_closeE (p := 1) (f := (fun v => tRow v 41 (tInt .i64) y1.Rules)) (hf := (fun _ => row_isCell)) rfl Ent.rfl ?_
   refine T_fr1 ?_
   refine T_closeE (p := 2) (f := (fun v => tRowD v 37 (oRowT 41 (tInt .i64)) y1.Args)) (hf := (fun _ => rowG_cell)) rfl Ent.rfl ?_
   refine T_asD (o := oUsageDef) (xs := ([(⟨y1.Chans, y1.Rules, y1.Args⟩ : UsageDef)] : List UsageDef)) rfl rfl rfl ?_
   refine T_rowCellG 0 rfl (fun hc_v8 => ?_)
   revert H; refine bs fun z1 h2 H => ?_
   refine T_appendD (q := oUsageDef) trivial rfl rfl rfl (has rfl) (has rfl) ty_et_27 rfl h2 (fun v9 => ?_)
   refine T_rowCellG 0 rfl (fun hc_v9 => ?_)
   refine Ya ?_
   refine T_nil ?_
   refine T_in_n ?_
   refine T_then_n ?_
   refine T_region ?_
   revert H; refine bs fun z2 h3 H => ?_
   refine Yy (o_add rfl hh hh h3) ?_
   refine Ym ?_
   refine Nn ?_
   exact T_meet ((k1, z1, z2, v9)) ⟨H, Nat.lt_succ_self _⟩ (Sc (Sc (Sc (Sc (Sc SubT.nil))))) rfl
  ·
   refine T_cond_f (has rfl) c1 ?_
   refine T_exit ?_
   refine T_then_exit ?_
   refine T_then_exit ?_
   refine T_in_hit ?_
   refine T_then_n ?_
   exact T_meet ((x4, v3)) (Option.some.inj H).symm (Sc SubT.nil) rfl
 ·
  clear H; intro i hi; obtain ⟨x1, v1⟩ := i; subst o1; have H := Hr1; clear Hr1; try dsimp only at H
  show T β _ _ [(5, fEq v1)] [tRowD v1 40 oUsageDef x1] _
  refine T_rowCellG 0 rfl (fun hc_v1 => ?_)
  refine Sr ?_
  refine Ym ?_
  refine Ya ?_
  refine Nn ?_
  refine T_retc ?_
  cases H
  exact T_outO rfl (hasS rfl) (fun _ _ _ => trivial) rfl
theorem usage_text_all_d (fuel : Nat)  (a0 : Usage_text) (a1 : List UsageDef) (r : List UsageDef) (H : usage_text_all_S fuel a0 a1 = some r) : FnS Try.prog 24 [fPtr tUsage_text a0, fSl tUsageDef a1] [] (fSl tUsageDef r) (fun _ => []) := (usage_text_all_w fuel a0 a1 r H).frz (fun v => (frz_rowD rfl frzo_UsageDef))
end Go.Proofs.Ytmnbfgeljmhekaa
