/- Parts of the proof: lemmas, and the steps through the program. -/
import Derived.Test.YtmnbfgeljmhekaaK3
set_option maxRecDepth 100000
set_option maxHeartbeats 2000000
namespace Go.Proofs.Ytmnbfgeljmhekaa
open Go.SX Go.SW Go.Dt
def usage_kinds_1_l1 (a0 : List Int) (a1 : List Int) (a2 : Bool) (w0 : Int × Int × Bool → Option Bool) : Nat → Int → Option ((Unit) ⊕ (Bool))
| 0, _ => none
| k + 1, x2 =>
 if x2 < (a0.length : Int) then
  (idx a0 x2).bind fun y1 =>
  (idx a1 x2).bind fun y2 =>
  (w0 (y1, y2, a2)).bind fun y3 =>
  bif y3 then
   (chk (x2 + 1)).bind fun z1 =>
   usage_kinds_1_l1 a0 a1 a2 w0 k z1
  else
   (some false).bind fun r => some (Sum.inr r)
 else
  some (Sum.inl ())
def usage_kinds_1_S (fuel : Nat) (a0 : List Int) (a1 : List Int) (a2 : Bool) (w0 : Int × Int × Bool → Option Bool) : Option (Bool) :=
 (usage_kinds_1_l1 a0 a1 a2 w0 fuel 0).bind fun o => match o with
 | Sum.inr r => some r
 | Sum.inl _ =>
 some true
theorem usage_kinds_1_w (fuel : Nat)  (a0 : List Int) (a1 : List Int) (a2 : Bool) (w0 : Int × Int × Bool → Option Bool) (r : Bool) (H : usage_kinds_1_S fuel a0 a1 a2 w0 = some r) : FnS Try.prog 55 [fSl (tInt .i64) a0, fSl (tInt .i64) a1, fBool a2, fPtr (tFn Try.prog (fun (x : Int × Int × Bool) => [fInt .i64 x.1, fInt .i64 x.2.1, fBool x.2.2]) (fun (r : Bool) => fBool r)) w0] [] (fBool r) (fun _ => []) := by
 unfold usage_kinds_1_S at H
 refine FnS_of Try.func55 rfl Try.ntmps55 rfl (fun β => ?_)
 refine Sr ?_
 refine Ya ?_
 refine Nn ?_
 revert H; refine bs fun o1 H Hr1 => ?_
 refine T_seqJ (ι := Unit) (fun i => o1 = Sum.inl ()) (fun i => []) (fun i => []) ?_ ?_
 ·
  refine Sr ?_
  refine Ym ?_
  refine Yy (o_len rfl hh ty_us_37) ?_
  refine Ym ?_
  refine Nn ?_
  refine T_block ?_
  refine T_loop (ι := Nat × Int) (fun i => usage_kinds_1_l1 a0 a1 a2 w0 i.1 i.2 = _) (fun i => i.1) (fun i => [(0, fSl (tInt .i64) a0), (1, fSl (tInt .i64) a1), (2, fBool a2), (3, fPtr (tFn Try.prog (fun (x : Int × Int × Bool) => [fInt .i64 x.1, fInt .i64 x.2.1, fBool x.2.2]) (fun (r : Bool) => fBool r)) w0), (10, fInt .i64 (a0.length : Int)), (11, fInt .i64 i.2)]) (fun i => []) (fuel, 0) H (Sc (Sc (Sc (Sc (Sc (Sc SubT.nil)))))) rfl ?_
  clear H; rintro ⟨k1, x2⟩ H
  replace H : usage_kinds_1_l1 a0 a1 a2 w0 k1 x2 = _ := H
  show T β _ _ [(0, fSl (tInt .i64) a0), (1, fSl (tInt .i64) a1), (2, fBool a2), (3, fPtr (tFn Try.prog (fun (x : Int × Int × Bool) => [fInt .i64 x.1, fInt .i64 x.2.1, fBool x.2.2]) (fun (r : Bool) => fBool r)) w0), (10, fInt .i64 (a0.length : Int)), (11, fInt .i64 x2)] [] _
  obtain _ | k1 := k1
  ·
   rw [usage_kinds_1_l1] at H; cases H
  rw [usage_kinds_1_l1] at H
  refine Sr ?_
  refine Yy (o_lss rfl hh hh) ?_
  refine Nn ?_
  refine T_seq ?_
  revert H; refine is (fun c1 H => ?_) fun c1 H => ?_
  ·
   refine T_cond_t (has rfl) c1 ?_
   refine T_skip ?_
   refine T_then_n ?_
   refine T_seq ?_
   refine T_block ?_
   refine Sr ?_
   refine Ym ?_
   refine Ya ?_
   refine Nn ?_
   refine T_seq ?_
   revert H; refine bs fun y1 h1 H => ?_
   revert H; refine bs fun y2 h2 H => ?_
   revert H; refine bs fun y3 h3 H => ?_
   refine T_net 12 [fun _ => .op [] false (fun _ => fFn Try.prog (fun (x : Int × Int × Bool) => [fInt .i64 x.1, fInt .i64 x.2.1, fBool x.2.2]) (fun (r : Bool) => fBool r) w0) (fun _ => []), fun _ => .op [] false (fun _ => fSl (tInt .i64) a0) (fun _ => []), fun _ => .op [] false (fun _ => fInt .i64 x2) (fun _ => []), fun _ => .op [] false (fun _ => fPtr (tInt .i64) y1) (fun _ => []), fun _ => .op [] false (fun _ => fInt .i64 y1) (fun _ => []), fun _ => .op [] false (fun _ => fSl (tInt .i64) a1) (fun _ => []), fun _ => .op [] false (fun _ => fInt .i64 x2) (fun _ => []), fun _ => .op [] false (fun _ => fPtr (tInt .i64) y2) (fun _ => []), fun _ => .op [] false (fun _ => fInt .i64 y2) (fun _ => []), fun _ => .op [] false (fun _ => fBool a2) (fun _ => []), fun _ => .op [] true (fun _ => fBool y3) (fun _ => []), fun _ => .op [] false (fun _ => fBool (!y3)) (fun _ => [])] [([], false, []), ([], false, []), ([], false, []), ([], false, []), ([], false, []), ([], false, []), ([], false, []), ([], false, []), ([], false, []), ([], false, []), ([], true, []), ([], false, [])] 0 0 mixed (F0 (F0 (F0 (F0 (F0 (F0 (F0 (F0 (F0 (F0 (F0 (F0 FitsL.nil)))))))))))) (by kernel_rfl) rfl rfl (by kernel_rfl) rfl ?_
   dsimp only [netL, List.take, List.replicate, List.append, List.drop]
   refine My (h := o_load rfl hh ty_sc_75 rfl) (k := fun _ => ?_)
   refine My (h := o_move rfl hh) (k := fun _ => ?_)
   refine My (h := o_move rfl hh) (k := fun _ => ?_)
   refine My (h := o_index rfl hh hh ty_el_37 h1) (k := fun _ => ?_)
   refine My (h := o_load rfl hh ty_sc_41 rfl) (k := fun _ => ?_)
   refine My (h := o_move rfl hh) (k := fun _ => ?_)
   refine My (h := o_move rfl hh) (k := fun _ => ?_)
   refine My (h := o_index rfl hh hh ty_el_37 h2) (k := fun _ => ?_)
   refine My (h := o_load rfl hh ty_sc_41 rfl) (k := fun _ => ?_)
   refine My (h := o_move rfl hh) (k := fun _ => ?_)
   refine N_callF (Φ := fBool y3) (y1, y2, a2) rfl (fun _ => rfl) trivial rfl rfl (has rfl) (HasL.cons (has rfl) (HasL.cons (has rfl) (HasL.cons (has rfl) HasL.nil))) h3 rfl (fun _ => ?_)
   refine My (h := o_not rfl hh) (k := fun _ => ?_)
   refine N_done rfl ?_
   refine Nn ?_
   revert H; refine cs (fun c2 H => ?_) fun c2 H => ?_
   ·
    refine T_cond_f (has rfl) (not_t c2) ?_
    refine T_skip ?_
    refine T_in_n ?_
    refine T_then_n ?_
    refine T_region ?_
    revert H; refine bs fun z1 h4 H => ?_
    refine Yy (o_add rfl hh hh h4) ?_
    refine Ym ?_
    refine Nn ?_
    exact T_meet ((k1, z1)) ⟨H, Nat.lt_succ_self _⟩ (Sc (Sc (Sc (Sc (Sc (Sc SubT.nil)))))) rfl
   ·
    refine T_cond_t (has rfl) (not_f c2) ?_
    refine Sr ?_
    refine Ya ?_
    refine Nn ?_
    refine T_retc ?_
    refine T_in_ret ?_
    refine T_then_ret ?_
    refine T_then_ret ?_
    refine T_in_ret ?_
    refine T_then_ret ?_
    revert H; refine bs fun r1 H e1 => ?_
    have e1 := Option.some.inj e1; subst e1; have Hr1 := Option.some.inj Hr1; subst Hr1
    cases H
    exact T_out1 rfl (hasS rfl) rfl
  ·
   refine T_cond_f (has rfl) c1 ?_
   refine T_exit ?_
   refine T_then_exit ?_
   refine T_then_exit ?_
   refine T_in_hit ?_
   refine T_then_n ?_
   exact T_meet (()) (Option.some.inj H).symm SubT.nil rfl
 ·
  clear H; intro i hi; subst o1; have H := Hr1; clear Hr1; try dsimp only at H
  show T β _ _ [] [] _
  refine Sr ?_
  refine Ya ?_
  refine Nn ?_
  refine T_retc ?_
  cases H
  exact T_out1 rfl (hasS rfl) rfl
def usage_kinds_l2 (fuel : Nat) (a0 : List UsageDef) (a1 : List UsageDef) (a2 : Int × Int × Bool → Option Bool) (x2 : Int) (y7 : UsageDef) : Nat → Int → Option ((Unit) ⊕ ((Unit) ⊕ (Bool)))
| 0, _ => none
| k + 1, x4 =>
 if x4 < (y7.Args.length : Int) then
  (idx a0 x2).bind fun y8 =>
  (idx y8.Args x4).bind fun y9 =>
  (idx a1 x2).bind fun y10 =>
  (idx y10.Args x4).bind fun y11 =>
  (usage_kinds_1_S fuel y9 y11 false a2).bind fun y12 =>
  bif y12 then
   (chk (x4 + 1)).bind fun z1 =>
   usage_kinds_l2 fuel a0 a1 a2 x2 y7 k z1
  else
   ((some false).bind fun r => some (Sum.inr r)).bind fun r => some (Sum.inr r)
 else
  some (Sum.inl ())
def usage_kinds_l1 (fuel : Nat) (a0 : List UsageDef) (a1 : List UsageDef) (a2 : Int × Int × Bool → Option Bool) : Nat → Int → Option ((Unit) ⊕ (Bool))
| 0, _ => none
| k + 1, x2 =>
 if x2 < (a0.length : Int) then
  ((idx a0 x2).bind fun y1 =>
  (idx a1 x2).bind fun y2 =>
  (usage_kinds_1_S fuel y1.Chans y2.Chans true a2).bind fun y3 =>
  bif !y3 then
   ((some false).bind fun r => some (Sum.inr r)).bind fun r => some (Sum.inr r)
  else
   (idx a0 x2).bind fun y4 =>
   (idx a1 x2).bind fun y5 =>
   (usage_kinds_1_S fuel y4.Rules y5.Rules false a2).bind fun y6 =>
   bif y6 then
    (idx a0 x2).bind fun y7 =>
    usage_kinds_l2 fuel a0 a1 a2 x2 y7 fuel 0
   else
    ((some false).bind fun r => some (Sum.inr r)).bind fun r => some (Sum.inr r)).bind fun o => match o with
  | Sum.inr r => some r
  | Sum.inl _ =>
  (chk (x2 + 1)).bind fun z2 =>
  usage_kinds_l1 fuel a0 a1 a2 k z2
 else
  some (Sum.inl ())
def usage_kinds_S (fuel : Nat) (a0 : List UsageDef) (a1 : List UsageDef) (a2 : Int × Int × Bool → Option Bool) : Option (Bool) :=
 (usage_kinds_l1 fuel a0 a1 a2 fuel 0).bind fun o => match o with
 | Sum.inr r => some r
 | Sum.inl _ =>
 some true
theorem usage_kinds_w (fuel : Nat)  (a0 : List UsageDef) (a1 : List UsageDef) (a2 : Int × Int × Bool → Option Bool) (r : Bool) (H : usage_kinds_S fuel a0 a1 a2 = some r) : FnS Try.prog 25 [fSl tUsageDef a0, fSl tUsageDef a1, fFn Try.prog (fun (x : Int × Int × Bool) => [fInt .i64 x.1, fInt .i64 x.2.1, fBool x.2.2]) (fun (r : Bool) => fBool r) a2] [] (fBool r) (fun _ => []) := by
 unfold usage_kinds_S at H
 refine FnS_of Try.func25 rfl Try.ntmps25 rfl (fun β => ?_)
 refine Sr ?_
 refine T_new trivial rfl rfl (n_box rfl (has rfl) (part_leaf (leaf_fn))) (fun b1 => ?_)
 refine Ya ?_
 refine Nn ?_
 refine Sr ?_
 refine T_freeze (φ := fPtr (tFn Try.prog (fun (x : Int × Int × Bool) => [fInt .i64 x.1, fInt .i64 x.2.1, fBool x.2.2]) (fun (r : Bool) => fBool r)) a2) (v := ptr b1) [5] (frz_blk EntL.rfl) (by intro s hs; simp only [List.mem_cons, List.not_mem_nil, or_false] at hs; rcases hs with rfl <;> rfl) ?_
 refine T_dropT ?_
 refine Yy (o_clo rfl (HasL.cons hh HasL.nil)) ?_
 refine Ya ?_
 refine Nn ?_
 revert H; refine bs fun o1 H Hr1 => ?_
 refine T_seqJ (ι := Unit) (fun i => o1 = Sum.inl ()) (fun i => []) (fun i => []) ?_ ?_
 ·
  refine Sr ?_
  refine Ym ?_
  refine Yy (o_len rfl hh ty_us_27) ?_
  refine Ym ?_
  refine Nn ?_
  refine T_block ?_
  refine T_loop (ι := Nat × Int) (fun i => usage_kinds_l1 fuel a0 a1 a2 i.1 i.2 = _) (fun i => i.1) (fun i => [(0, fSl tUsageDef a0), (1, fSl tUsageDef a1), (7, fClo 55 [fPtr (tFn Try.prog (fun (x : Int × Int × Bool) => [fInt .i64 x.1, fInt .i64 x.2.1, fBool x.2.2]) (fun (r : Bool) => fBool r)) a2]), (12, fInt .i64 (a0.length : Int)), (13, fInt .i64 i.2)]) (fun i => []) (fuel, 0) H (Sc (Sc (Sc (Sc (Sc SubT.nil))))) rfl ?_
  clear H; rintro ⟨k1, x2⟩ H
  replace H : usage_kinds_l1 fuel a0 a1 a2 k1 x2 = _ := H
  show T β _ _ [(0, fSl tUsageDef a0), (1, fSl tUsageDef a1), (7, fClo 55 [fPtr (tFn Try.prog (fun (x : Int × Int × Bool) => [fInt .i64 x.1, fInt .i64 x.2.1, fBool x.2.2]) (fun (r : Bool) => fBool r)) a2]), (12, fInt .i64 (a0.length : Int)), (13, fInt .i64 x2)] [] _
  obtain _ | k1 := k1
  ·
   rw [usage_kinds_l1] at H; cases H
  rw [usage_kinds_l1] at H
  refine Sr ?_
  refine Yy (o_lss rfl hh hh) ?_
  refine Nn ?_
  refine T_seq ?_
  revert H; refine is (fun c1 H => ?_) fun c1 H => ?_
  ·
   refine T_cond_t (has rfl) c1 ?_
   refine T_skip ?_
   refine T_then_n ?_
   revert H; refine bs fun o2 H Hr2 => ?_
   refine T_seqJ (ι := Unit) (fun i => o2 = Sum.inl ()) (fun i => [(0, fSl tUsageDef a0), (1, fSl tUsageDef a1), (7, fClo 55 [fPtr (tFn Try.prog (fun (x : Int × Int × Bool) => [fInt .i64 x.1, fInt .i64 x.2.1, fBool x.2.2]) (fun (r : Bool) => fBool r)) a2]), (12, fInt .i64 (a0.length : Int)), (13, fInt .i64 x2)]) (fun i => []) ?_ ?_
   ·
    refine T_block ?_
    refine Sr ?_
    refine Ym ?_
    refine Ya ?_
    refine Nn ?_
    refine T_seq ?_
    refine T_seq ?_
    revert H; refine bs fun y1 h1 H => ?_
    revert H; refine bs fun y2 h2 H => ?_
    revert H; refine bs fun y3 h3 H => ?_
    revert H; refine cs (fun c2 H => ?_) fun c2 H => ?_
    ·
     refine T_net 28 [fun _ => .op [] false (fun _ => fClo 55 [fPtr (tFn Try.prog (fun (x : Int × Int × Bool) => [fInt .i64 x.1, fInt .i64 x.2.1, fBool x.2.2]) (fun (r : Bool) => fBool r)) a2]) (fun _ => []), fun _ => .op [] false (fun _ => fSl tUsageDef a0) (fun _ => []), fun _ => .op [] false (fun _ => fInt .i64 x2) (fun _ => []), fun _ => .op [] false (fun _ => fPtr tUsageDef y1) (fun _ => []), fun _ => .op [] false (fun _ => fPtr (tSl (tInt .i64)) y1.Chans) (fun _ => []), fun _ => .op [] false (fun _ => fSl (tInt .i64) y1.Chans) (fun _ => []), fun _ => .op [] false (fun _ => fSl tUsageDef a1) (fun _ => []), fun _ => .op [] false (fun _ => fInt .i64 x2) (fun _ => []), fun _ => .op [] false (fun _ => fPtr tUsageDef y2) (fun _ => []), fun _ => .op [] false (fun _ => fPtr (tSl (tInt .i64)) y2.Chans) (fun _ => []), fun _ => .op [] false (fun _ => fSl (tInt .i64) y2.Chans) (fun _ => []), fun _ => .op [] true (fun _ => fBool y3) (fun _ => []), fun _ => .op [] false (fun _ => fBool (!y3)) (fun _ => []), fun _ => .op [] false (fun _ => fBool (!y3)) (fun _ => []), fun _ => .skip, fun _ => .skip, fun _ => .skip, fun _ => .skip, fun _ => .skip, fun _ => .skip, fun _ => .skip, fun _ => .skip, fun _ => .skip, fun _ => .skip, fun _ => .skip, fun _ => .skip, fun _ => .skip, fun _ => .op [] false (fun _ => fBool true) (fun _ => [])] [([], false, []), ([], false, []), ([], false, []), ([], false, []), ([], false, []), ([], false, []), ([], false, []), ([], false, []), ([], false, []), ([], false, []), ([], false, []), ([], true, []), ([], false, []), ([], false, []), ([], false, []), ([], false, []), ([], false, []), ([], false, []), ([], false, []), ([], false, []), ([], false, []), ([], false, []), ([], false, []), ([], false, []), ([], false, []), ([], false, []), ([], false, []), ([], false, [])] 0 0 mixed (F0 (F0 (F0 (F0 (F0 (F0 (F0 (F0 (F0 (F0 (F0 (F0 (F0 (F0 (F0 (F0 (F0 (F0 (F0 (F0 (F0 (F0 (F0 (F0 (F0 (F0 (F0 (F0 FitsL.nil)))))))))))))))))))))))))))) (by kernel_rfl) rfl rfl (by kernel_rfl) rfl ?_
     dsimp only [netL, List.take, List.replicate, List.append, List.drop]
     refine My (h := o_move rfl hh) (k := fun _ => ?_)
     refine My (h := o_move rfl hh) (k := fun _ => ?_)
     refine My (h := o_move rfl hh) (k := fun _ => ?_)
     refine My (h := o_index rfl hh hh ty_el_27 h1) (k := fun _ => ?_)
     refine My (h := o_field (t' := (tSl (tInt .i64))) (z := y1.Chans) rfl hh ty_fa_40_0 rfl) (k := fun _ => ?_)
     refine My (h := o_load rfl hh ty_sc_37 rfl) (k := fun _ => ?_)
     refine My (h := o_move rfl hh) (k := fun _ => ?_)
     refine My (h := o_move rfl hh) (k := fun _ => ?_)
     refine My (h := o_index rfl hh hh ty_el_27 h2) (k := fun _ => ?_)
     refine My (h := o_field (t' := (tSl (tInt .i64))) (z := y2.Chans) rfl hh ty_fa_40_0 rfl) (k := fun _ => ?_)
     refine My (h := o_load rfl hh ty_sc_37 rfl) (k := fun _ => ?_)
     refine N_callC (Φ := fBool y3) rfl (fun _ => rfl) trivial rfl rfl (has rfl) (HasL.cons (has rfl) (HasL.cons (has rfl) (HasL.cons (has rfl) HasL.nil))) rfl ty_cb_55 (usage_kinds_1_w fuel y1.Chans y2.Chans true a2 y3 h3) (fun _ => ?_)
     refine My (h := o_not rfl hh) (k := fun _ => ?_)
     refine My (h := o_move rfl hh) (k := fun _ => ?_)
     refine Ms (hc := ne_ft c2) (k := fun _ => ?_)
     refine Ms (hc := ne_ft c2) (k := fun _ => ?_)
     refine Ms (hc := ne_ft c2) (k := fun _ => ?_)
     refine Ms (hc := ne_ft c2) (k := fun _ => ?_)
     refine Ms (hc := ne_ft c2) (k := fun _ => ?_)
     refine Ms (hc := ne_ft c2) (k := fun _ => ?_)
     refine Ms (hc := ne_ft c2) (k := fun _ => ?_)
     refine Ms (hc := ne_ft c2) (k := fun _ => ?_)
     refine Ms (hc := ne_ft c2) (k := fun _ => ?_)
     refine Ms (hc := ne_ft c2) (k := fun _ => ?_)
     refine Ms (hc := ne_ft c2) (k := fun _ => ?_)
     refine Ms (hc := ne_ft c2) (k := fun _ => ?_)
     refine Ms (hc := ne_ft c2) (k := fun _ => ?_)
     refine My (h := o_pick_t rfl hh c2 hh) (k := fun _ => ?_)
     refine N_done rfl ?_
     refine Nn ?_
     refine T_cond_t (has rfl) rfl ?_
     refine Sr ?_
     refine Ya ?_
     refine Nn ?_
     refine Rr ?_
     refine T_in_ret ?_
     refine T_then_ret ?_
     revert H; refine bs fun r1 H e1 => ?_
     have e1 := Option.some.inj e1; subst e1; have Hr2 := Option.some.inj Hr2; subst Hr2
     refine T_then_ret ?_
     refine T_in_ret ?_
     refine T_then_ret ?_
     revert H; refine bs fun r2 H e2 => ?_
     have e2 := Option.some.inj e2; subst e2; have Hr1 := Option.some.inj Hr1; subst Hr1
     cases H
     exact T_out1 rfl (hasS rfl) rfl
    ·
     revert H; refine bs fun y4 h4 H => ?_
     revert H; refine bs fun y5 h5 H => ?_
     revert H; refine bs fun y6 h6 H => ?_
     refine T_net 28 [fun _ => .op [] false (fun _ => fClo 55 [fPtr (tFn Try.prog (fun (x : Int × Int × Bool) => [fInt .i64 x.1, fInt .i64 x.2.1, fBool x.2.2]) (fun (r : Bool) => fBool r)) a2]) (fun _ => []), fun _ => .op [] false (fun _ => fSl tUsageDef a0) (fun _ => []), fun _ => .op [] false (fun _ => fInt .i64 x2) (fun _ => []), fun _ => .op [] false (fun _ => fPtr tUsageDef y1) (fun _ => []), fun _ => .op [] false (fun _ => fPtr (tSl (tInt .i64)) y1.Chans) (fun _ => []), fun _ => .op [] false (fun _ => fSl (tInt .i64) y1.Chans) (fun _ => []), fun _ => .op [] false (fun _ => fSl tUsageDef a1) (fun _ => []), fun _ => .op [] false (fun _ => fInt .i64 x2) (fun _ => []), fun _ => .op [] false (fun _ => fPtr tUsageDef y2) (fun _ => []), fun _ => .op [] false (fun _ => fPtr (tSl (tInt .i64)) y2.Chans) (fun _ => []), fun _ => .op [] false (fun _ => fSl (tInt .i64) y2.Chans) (fun _ => []), fun _ => .op [] true (fun _ => fBool y3) (fun _ => []), fun _ => .op [] false (fun _ => fBool (!y3)) (fun _ => []), fun _ => .op [] false (fun _ => fBool (!y3)) (fun _ => []), fun _ => .op [] false (fun _ => fClo 55 [fPtr (tFn Try.prog (fun (x : Int × Int × Bool) => [fInt .i64 x.1, fInt .i64 x.2.1, fBool x.2.2]) (fun (r : Bool) => fBool r)) a2]) (fun _ => []), fun _ => .op [] false (fun _ => fSl tUsageDef a0) (fun _ => []), fun _ => .op [] false (fun _ => fInt .i64 x2) (fun _ => []), fun _ => .op [] false (fun _ => fPtr tUsageDef y4) (fun _ => []), fun _ => .op [] false (fun _ => fPtr (tSl (tInt .i64)) y4.Rules) (fun _ => []), fun _ => .op [] false (fun _ => fSl (tInt .i64) y4.Rules) (fun _ => []), fun _ => .op [] false (fun _ => fSl tUsageDef a1) (fun _ => []), fun _ => .op [] false (fun _ => fInt .i64 x2) (fun _ => []), fun _ => .op [] false (fun _ => fPtr tUsageDef y5) (fun _ => []), fun _ => .op [] false (fun _ => fPtr (tSl (tInt .i64)) y5.Rules) (fun _ => []), fun _ => .op [] false (fun _ => fSl (tInt .i64) y5.Rules) (fun _ => []), fun _ => .op [] true (fun _ => fBool y6) (fun _ => []), fun _ => .op [] false (fun _ => fBool (!y6)) (fun _ => []), fun _ => .op [] false (fun _ => fBool (!y6)) (fun _ => [])] [([], false, []), ([], false, []), ([], false, []), ([], false, []), ([], false, []), ([], false, []), ([], false, []), ([], false, []), ([], false, []), ([], false, []), ([], false, []), ([], true, []), ([], false, []), ([], false, []), ([], false, []), ([], false, []), ([], false, []), ([], false, []), ([], false, []), ([], false, []), ([], false, []), ([], false, []), ([], false, []), ([], false, []), ([], false, []), ([], true, []), ([], false, []), ([], false, [])] 0 0 mixed (F0 (F0 (F0 (F0 (F0 (F0 (F0 (F0 (F0 (F0 (F0 (F0 (F0 (F0 (F0 (F0 (F0 (F0 (F0 (F0 (F0 (F0 (F0 (F0 (F0 (F0 (F0 (F0 FitsL.nil)))))))))))))))))))))))))))) (by kernel_rfl) rfl rfl (by kernel_rfl) rfl ?_
     dsimp only [netL, List.take, List.replicate, List.append, List.drop]
     refine My (h := o_move rfl hh) (k := fun _ => ?_)
     refine My (h := o_move rfl hh) (k := fun _ => ?_)
     refine My (h := o_move rfl hh) (k := fun _ => ?_)
     refine My (h := o_index rfl hh hh ty_el_27 h1) (k := fun _ => ?_)
     refine My (h := o_field (t' := (tSl (tInt .i64))) (z := y1.Chans) rfl hh ty_fa_40_0 rfl) (k := fun _ => ?_)
     refine My (h := o_load rfl hh ty_sc_37 rfl) (k := fun _ => ?_)
     refine My (h := o_move rfl hh) (k := fun _ => ?_)
     refine My (h := o_move rfl hh) (k := fun _ => ?_)
     refine My (h := o_index rfl hh hh ty_el_27 h2) (k := fun _ => ?_)
     refine My (h := o_field (t' := (tSl (tInt .i64))) (z := y2.Chans) rfl hh ty_fa_40_0 rfl) (k := fun _ => ?_)
     refine My (h := o_load rfl hh ty_sc_37 rfl) (k := fun _ => ?_)
     refine N_callC (Φ := fBool y3) rfl (fun _ => rfl) trivial rfl rfl (has rfl) (HasL.cons (has rfl) (HasL.cons (has rfl) (HasL.cons (has rfl) HasL.nil))) rfl ty_cb_55 (usage_kinds_1_w fuel y1.Chans y2.Chans true a2 y3 h3) (fun _ => ?_)
     refine My (h := o_not rfl hh) (k := fun _ => ?_)
     refine My (h := o_move rfl hh) (k := fun _ => ?_)
     refine N_y (φ := fClo 55 [fPtr (tFn Try.prog (fun (x : Int × Int × Bool) => [fInt .i64 x.1, fInt .i64 x.2.1, fBool x.2.2]) (fun (r : Bool) => fBool r)) a2]) rfl (fun _ => rfl) ⟨_, _, rfl, rfl, c2⟩ rfl (o_move rfl (has rfl)) (fun _ => ?_)
     refine N_y (φ := fSl tUsageDef a0) rfl (fun _ => rfl) ⟨_, _, rfl, rfl, c2⟩ rfl (o_move rfl (has rfl)) (fun _ => ?_)
     refine N_y (φ := fInt .i64 x2) rfl (fun _ => rfl) ⟨_, _, rfl, rfl, c2⟩ rfl (o_move rfl (has rfl)) (fun _ => ?_)
     refine N_y (φ := fPtr tUsageDef y4) rfl (fun _ => rfl) ⟨_, _, rfl, rfl, c2⟩ rfl (o_index rfl (has rfl) (has rfl) ty_el_27 h4) (fun _ => ?_)
     refine N_y (φ := fPtr (tSl (tInt .i64)) y4.Rules) rfl (fun _ => rfl) ⟨_, _, rfl, rfl, c2⟩ rfl (o_field (t' := (tSl (tInt .i64))) (z := y4.Rules) rfl (has rfl) ty_fa_40_1 rfl) (fun _ => ?_)
     refine N_y (φ := fSl (tInt .i64) y4.Rules) rfl (fun _ => rfl) ⟨_, _, rfl, rfl, c2⟩ rfl (o_load rfl (has rfl) ty_sc_37 rfl) (fun _ => ?_)
     refine N_y (φ := fSl tUsageDef a1) rfl (fun _ => rfl) ⟨_, _, rfl, rfl, c2⟩ rfl (o_move rfl (has rfl)) (fun _ => ?_)
     refine N_y (φ := fInt .i64 x2) rfl (fun _ => rfl) ⟨_, _, rfl, rfl, c2⟩ rfl (o_move rfl (has rfl)) (fun _ => ?_)
     refine N_y (φ := fPtr tUsageDef y5) rfl (fun _ => rfl) ⟨_, _, rfl, rfl, c2⟩ rfl (o_index rfl (has rfl) (has rfl) ty_el_27 h5) (fun _ => ?_)
     refine N_y (φ := fPtr (tSl (tInt .i64)) y5.Rules) rfl (fun _ => rfl) ⟨_, _, rfl, rfl, c2⟩ rfl (o_field (t' := (tSl (tInt .i64))) (z := y5.Rules) rfl (has rfl) ty_fa_40_1 rfl) (fun _ => ?_)
     refine N_y (φ := fSl (tInt .i64) y5.Rules) rfl (fun _ => rfl) ⟨_, _, rfl, rfl, c2⟩ rfl (o_load rfl (has rfl) ty_sc_37 rfl) (fun _ => ?_)
     refine N_callC (Φ := fBool y6) rfl (fun _ => rfl) ⟨_, _, rfl, rfl, c2⟩ rfl rfl (has rfl) (HasL.cons (has rfl) (HasL.cons (has rfl) (HasL.cons (has rfl) HasL.nil))) rfl ty_cb_55 (usage_kinds_1_w fuel y4.Rules y5.Rules false a2 y6 h6) (fun _ => ?_)
     refine N_y (φ := fBool (!y6)) rfl (fun _ => rfl) ⟨_, _, rfl, rfl, c2⟩ rfl (o_not rfl (has rfl)) (fun _ => ?_)
     refine My (h := o_pick_f rfl hh c2 hh) (k := fun _ => ?_)
     refine N_done rfl ?_
     refine Nn ?_
     revert H; refine cs (fun c3 H => ?_) fun c3 H => ?_
     ·
      refine T_cond_f (has rfl) (not_t c3) ?_
      refine T_skip ?_
      refine T_then_n ?_
      refine Sr ?_
      refine Ym ?_
      refine Ym ?_
      revert H; refine bs fun y7 h7 H => ?_
      refine Yy (o_index rfl hh hh ty_el_27 h7) ?_
      refine Yy (o_field (t' := (tSl (tSl (tInt .i64)))) (z := y7.Args) rfl hh ty_fa_40_2 rfl) ?_
      refine Yy (o_load rfl hh ty_sc_38 rfl) ?_
      refine Yy (o_len rfl hh ty_us_38) ?_
      refine Ym ?_
      refine Nn ?_
      refine T_block ?_
      refine T_loop (ι := Nat × Int) (fun i => usage_kinds_l2 fuel a0 a1 a2 x2 y7 i.1 i.2 = _) (fun i => i.1) (fun i => [(0, fSl tUsageDef a0), (1, fSl tUsageDef a1), (7, fClo 55 [fPtr (tFn Try.prog (fun (x : Int × Int × Bool) => [fInt .i64 x.1, fInt .i64 x.2.1, fBool x.2.2]) (fun (r : Bool) => fBool r)) a2]), (12, fInt .i64 (a0.length : Int)), (13, fInt .i64 x2), (8, fInt .i64 x2), (49, fInt .i64 (y7.Args.length : Int)), (50, fInt .i64 i.2)]) (fun i => []) (fuel, 0) H (Sc (Sc (Sc (Sc (Sc (Sc (Sc (Sc SubT.nil)))))))) rfl ?_
      clear H; rintro ⟨k2, x4⟩ H
      replace H : usage_kinds_l2 fuel a0 a1 a2 x2 y7 k2 x4 = _ := H
      show T β _ _ [(0, fSl tUsageDef a0), (1, fSl tUsageDef a1), (7, fClo 55 [fPtr (tFn Try.prog (fun (x : Int × Int × Bool) => [fInt .i64 x.1, fInt .i64 x.2.1, fBool x.2.2]) (fun (r : Bool) => fBool r)) a2]), (12, fInt .i64 (a0.length : Int)), (13, fInt .i64 x2), (8, fInt .i64 x2), (49, fInt .i64 (y7.Args.length : Int)), (50, fInt .i64 x4)] [] _
      obtain _ | k2 := k2
      ·
       rw [usage_kinds_l2] at H; cases H
      rw [usage_kinds_l2] at H
      refine Sr ?_
      refine Yy (o_lss rfl hh hh) ?_
      refine Nn ?_
      refine T_seq ?_
      revert H; refine is (fun c4 H => ?_) fun c4 H => ?_
      ·
       refine T_cond_t (has rfl) c4 ?_
       refine T_skip ?_
       refine T_then_n ?_
       refine T_seq ?_
       refine T_block ?_
       refine Sr ?_
       refine Ym ?_
       refine Ya ?_
       refine Nn ?_
       refine T_seq ?_
       revert H; refine bs fun y8 h8 H => ?_
       revert H; refine bs fun y9 h9 H => ?_
       revert H; refine bs fun y10 h10 H => ?_
       revert H; refine bs fun y11 h11 H => ?_
       revert H; refine bs fun y12 h12 H => ?_
       refine T_net 19 [fun _ => .op [] false (fun _ => fClo 55 [fPtr (tFn Try.prog (fun (x : Int × Int × Bool) => [fInt .i64 x.1, fInt .i64 x.2.1, fBool x.2.2]) (fun (r : Bool) => fBool r)) a2]) (fun _ => []), fun _ => .op [] false (fun _ => fSl tUsageDef a0) (fun _ => []), fun _ => .op [] false (fun _ => fInt .i64 x2) (fun _ => []), fun _ => .op [] false (fun _ => fPtr tUsageDef y8) (fun _ => []), fun _ => .op [] false (fun _ => fPtr (tSl (tSl (tInt .i64))) y8.Args) (fun _ => []), fun _ => .op [] false (fun _ => fSl (tSl (tInt .i64)) y8.Args) (fun _ => []), fun _ => .op [] false (fun _ => fInt .i64 x4) (fun _ => []), fun _ => .op [] false (fun _ => fPtr (tSl (tInt .i64)) y9) (fun _ => []), fun _ => .op [] false (fun _ => fSl (tInt .i64) y9) (fun _ => []), fun _ => .op [] false (fun _ => fSl tUsageDef a1) (fun _ => []), fun _ => .op [] false (fun _ => fInt .i64 x2) (fun _ => []), fun _ => .op [] false (fun _ => fPtr tUsageDef y10) (fun _ => []), fun _ => .op [] false (fun _ => fPtr (tSl (tSl (tInt .i64))) y10.Args) (fun _ => []), fun _ => .op [] false (fun _ => fSl (tSl (tInt .i64)) y10.Args) (fun _ => []), fun _ => .op [] false (fun _ => fInt .i64 x4) (fun _ => []), fun _ => .op [] false (fun _ => fPtr (tSl (tInt .i64)) y11) (fun _ => []), fun _ => .op [] false (fun _ => fSl (tInt .i64) y11) (fun _ => []), fun _ => .op [] true (fun _ => fBool y12) (fun _ => []), fun _ => .op [] false (fun _ => fBool (!y12)) (fun _ => [])] [([], false, []), ([], false, []), ([], false, []), ([], false, []), ([], false, []), ([], false, []), ([], false, []), ([], false, []), ([], false, []), ([], false, []), ([], false, []), ([], false, []), ([], false, []), ([], false, []), ([], false, []), ([], false, []), ([], false, []), ([], true, []), ([], false, [])] 0 0 mixed (F0 (F0 (F0 (F0 (F0 (F0 (F0 (F0 (F0 (F0 (F0 (F0 (F0 (F0 (F0 (F0 (F0 (F0 (F0 FitsL.nil))))))))))))))))))) (by kernel_rfl) rfl rfl (by kernel_rfl) rfl ?_
       dsimp only [netL, List.take, List.replicate, List.append, List.drop]
       refine My (h := o_move rfl hh) (k := fun _ => ?_)
       refine My (h := o_move rfl hh) (k := fun _ => ?_)
       refine My (h := o_move rfl hh) (k := fun _ => ?_)
       refine My (h := o_index rfl hh hh ty_el_27 h8) (k := fun _ => ?_)
       refine My (h := o_field (t' := (tSl (tSl (tInt .i64)))) (z := y8.Args) rfl hh ty_fa_40_2 rfl) (k := fun _ => ?_)
       refine My (h := o_load rfl hh ty_sc_38 rfl) (k := fun _ => ?_)
       refine My (h := o_move rfl hh) (k := fun _ => ?_)
       refine My (h := o_index rfl hh hh ty_el_38 h9) (k := fun _ => ?_)
       refine My (h := o_load rfl hh ty_sc_37 rfl) (k := fun _ => ?_)
       refine My (h := o_move rfl hh) (k := fun _ => ?_)
       refine My (h := o_move rfl hh) (k := fun _ => ?_)
       refine My (h := o_index rfl hh hh ty_el_27 h10) (k := fun _ => ?_)
       refine My (h := o_field (t' := (tSl (tSl (tInt .i64)))) (z := y10.Args) rfl hh ty_fa_40_2 rfl) (k := fun _ => ?_)
       refine My (h := o_load rfl hh ty_sc_38 rfl) (k := fun _ => ?_)
       refine My (h := o_move rfl hh) (k := fun _ => ?_)
       refine My (h := o_index rfl hh hh ty_el_38 h11) (k := fun _ => ?_)
       refine My (h := o_load rfl hh ty_sc_37 rfl) (k := fun _ => ?_)
       refine N_callC (Φ := fBool y12) rfl (fun _ => rfl) trivial rfl rfl (has rfl) (HasL.cons (has rfl) (HasL.cons (has rfl) (HasL.cons (has rfl) HasL.nil))) rfl ty_cb_55 (usage_kinds_1_w fuel y9 y11 false a2 y12 h12) (fun _ => ?_)
       refine My (h := o_not rfl hh) (k := fun _ => ?_)
       refine N_done rfl ?_
       refine Nn ?_
       revert H; refine cs (fun c5 H => ?_) fun c5 H => ?_
       ·
        refine T_cond_f (has rfl) (not_t c5) ?_
        refine T_skip ?_
        refine T_in_n ?_
        refine T_then_n ?_
        refine T_region ?_
        revert H; refine bs fun z1 h13 H => ?_
        refine Yy (o_add rfl hh hh h13) ?_
        refine Ym ?_
        refine Nn ?_
        exact T_meet ((k2, z1)) ⟨H, Nat.lt_succ_self _⟩ (Sc (Sc (Sc (Sc (Sc (Sc (Sc (Sc SubT.nil)))))))) rfl
       ·
        refine T_cond_t (has rfl) (not_f c5) ?_
        refine Sr ?_
        refine Ya ?_
        refine Nn ?_
        refine T_retc ?_
        refine T_in_ret ?_
        refine T_then_ret ?_
        refine T_then_ret ?_
        refine T_in_ret ?_
        refine T_in_ret ?_
        refine T_then_ret ?_
        revert H; refine bs fun r3 H e3 => ?_
        have e3 := Option.some.inj e3; subst e3; have Hr2 := Option.some.inj Hr2; subst Hr2
        refine T_then_ret ?_
        refine T_in_ret ?_
        refine T_then_ret ?_
        revert H; refine bs fun r4 H e4 => ?_
        have e4 := Option.some.inj e4; subst e4; have Hr1 := Option.some.inj Hr1; subst Hr1
        cases H
        exact T_out1 rfl (hasS rfl) rfl
      ·
       refine T_cond_f (has rfl) c4 ?_
       refine T_exit ?_
       refine T_then_exit ?_
       refine T_then_exit ?_
       refine T_in_hit ?_
       refine T_in_n ?_
       refine T_then_n ?_
       exact T_meet (()) (Option.some.inj H).symm (Sc (Sc (Sc (Sc (Sc SubT.nil))))) rfl
     ·
      refine T_cond_t (has rfl) (not_f c3) ?_
      refine Sr ?_
      refine Ya ?_
      refine Nn ?_
      refine Rr ?_
      refine T_in_ret ?_
      refine T_then_ret ?_
      revert H; refine bs fun r5 H e5 => ?_
      have e5 := Option.some.inj e5; subst e5; have Hr2 := Option.some.inj Hr2; subst Hr2
      refine T_then_ret ?_
      refine T_in_ret ?_
      refine T_then_ret ?_
      revert H; refine bs fun r6 H e6 => ?_
      have e6 := Option.some.inj e6; subst e6; have Hr1 := Option.some.inj Hr1; subst Hr1
      cases H
      exact T_out1 rfl (hasS rfl) rfl
   ·
    clear H; intro i hi; subst o2; have H := Hr2; clear Hr2; try dsimp only at H
    show T β _ _ [(0, fSl tUsageDef a0), (1, fSl tUsageDef a1), (7, fClo 55 [fPtr (tFn Try.prog (fun (x : Int × Int × Bool) => [fInt .i64 x.1, fInt .i64 x.2.1, fBool x.2.2]) (fun (r : Bool) => fBool r)) a2]), (12, fInt .i64 (a0.length : Int)), (13, fInt .i64 x2)] [] _
    refine T_region ?_
    revert H; refine bs fun z2 h14 H => ?_
    refine Yy (o_add rfl hh hh h14) ?_
    refine Ym ?_
    refine Nn ?_
    exact T_meet ((k1, z2)) ⟨H, Nat.lt_succ_self _⟩ (Sc (Sc (Sc (Sc (Sc SubT.nil))))) rfl
  ·
   refine T_cond_f (has rfl) c1 ?_
   refine T_exit ?_
   refine T_then_exit ?_
   refine T_then_exit ?_
   refine T_in_hit ?_
   refine T_then_n ?_
   exact T_meet (()) (Option.some.inj H).symm SubT.nil rfl
 ·
  clear H; intro i hi; subst o1; have H := Hr1; clear Hr1; try dsimp only at H
  show T β _ _ [] [] _
  refine Sr ?_
  refine Ya ?_
  refine Nn ?_
  refine T_retc ?_
  cases H
  exact T_out1 rfl (hasS rfl) rfl
def usage_Table_1_S (a0 : Int) (a1 : Int) (a2 : Bool) : Option (Bool) :=
 some (decide (a0 = a1))
theorem usage_Table_1_w  (a0 : Int) (a1 : Int) (a2 : Bool) (r : Bool) (H : usage_Table_1_S a0 a1 a2 = some r) : FnS Try.prog 26 [fInt .i64 a0, fInt .i64 a1, fBool a2] [] (fBool r) (fun _ => []) := by
 unfold usage_Table_1_S at H
 refine FnS_of Try.func26 rfl Try.ntmps26 rfl (fun β => ?_)
 refine Sr ?_
 refine Ya ?_
 refine Nn ?_
 refine Sr ?_
 refine Ym ?_
 refine Ym ?_
 refine Yy (o_eql rfl hh hh) ?_
 refine Ya ?_
 refine Nn ?_
 refine T_retc ?_
 cases H
 exact T_out1 rfl (hasS rfl) rfl
def usage_text_begun_b1 (rec_usage_text_sure : Usage_text → Int → Int → Option (Int)) (a0 : Usage_text) (a2 : Int) (x1 : Int) (x3 : Int) : Option (Int) :=
 (rec_usage_text_sure a0 x1 a2).bind fun y6 =>
 (chk (x3 + y6)).bind fun z1 =>
 some z1
mutual
def usage_text_begun_S : Nat → Usage_text → Int → Int → Option (Int)
| 0, _, _, _ => none
| fuel + 1, a0, a1, a2 =>
 (idx a0.ScopeProg.Nodes a1).bind fun y1 =>
 (idx y1.Kids 0).bind fun y2 =>
 ((usage_text_sure_S fuel) a0 y2 a2).bind fun y3 =>
 (usage_text_bodies_S a0 y1.N).bind fun y4 =>
 (usage_text_bodies_1_S fuel (fun (x : Int) (t : Int) => usage_text_begun_b1 (usage_text_sure_S fuel) a0 a2 x t) y3 y4.1 y4.2).bind fun y5 =>
 some y5
def usage_text_sure_S : Nat → Usage_text → Int → Int → Option (Int)
| 0, _, _, _ => none
| fuel + 1, a0, a1, a2 =>
 (idx a0.ScopeProg.Nodes a1).bind fun y1 =>
 (if y1.Op = 2 then
  (idx a0.denotes a1).bind fun y2 =>
  bif (y2.get a2).isSome then
   if y1.N = a2 then
    (usage_text_fits_S a0 (⟨((y2.get a2).getD (⟨0, 0⟩ : Usage_channel)).def_, ((y2.get a2).getD (⟨0, 0⟩ : Usage_channel)).index⟩ : Usage_channel) a1).bind fun y3 =>
    bif y3 then
     (some 1).bind fun r => some (Sum.inr r)
    else
     some (Sum.inl ())
   else
    some (Sum.inl ())
  else
   some (Sum.inl ())
 else
  if y1.Op = 3 then
   (idx y1.Kids 0).bind fun y4 =>
   ((usage_text_sure_S fuel) a0 y4 a2).bind fun y5 =>
   (idx y1.Kids 1).bind fun y6 =>
   ((usage_text_sure_S fuel) a0 y6 a2).bind fun y7 =>
   (chk (y5 + y7)).bind fun z1 =>
   (some z1).bind fun r => some (Sum.inr r)
  else
   if y1.Op = 5 then
    (idx y1.Kids 0).bind fun y8 =>
    ((usage_text_sure_S fuel) a0 y8 a2).bind fun y9 =>
    (idx y1.Kids 1).bind fun y10 =>
    ((usage_text_sure_S fuel) a0 y10 a2).bind fun y11 =>
    (some (min y9 y11)).bind fun r => some (Sum.inr r)
   else
    if y1.Op = 4 then
     ((usage_text_begun_S fuel) a0 a1 a2).bind fun y12 =>
     (some y12).bind fun r => some (Sum.inr r)
    else
     some (Sum.inl ())).bind fun o => match o with
 | Sum.inr r => some r
 | Sum.inl _ =>
 some 0
end
theorem usage_text_begun_all : ∀ (fuel : Nat), (∀  (a0 : Usage_text) (a1 : Int) (a2 : Int) (r : Int) (H : usage_text_begun_S fuel a0 a1 a2 = some r), FnS Try.prog 27 [fPtr tUsage_text a0, fInt .i64 a1, fInt .i64 a2] [] (fInt .i64 r) (fun _ => [])) ∧ (∀  (a0 : Usage_text) (a1 : Int) (a2 : Int) (r : Int) (H : usage_text_sure_S fuel a0 a1 a2 = some r), FnS Try.prog 47 [fPtr tUsage_text a0, fInt .i64 a1, fInt .i64 a2] [] (fInt .i64 r) (fun _ => [])) := by
 intro fuel
 induction fuel with
 | zero => exact ⟨fun a0 a1 a2 r H => (by rw [usage_text_begun_S] at H; cases H), fun a0 a1 a2 r H => (by rw [usage_text_sure_S] at H; cases H)⟩
 | succ fuel ih =>
 obtain ⟨ih_usage_text_begun, ih_usage_text_sure⟩ := ih
 refine ⟨?_, ?_⟩
 ·
  intro a0 a1 a2 r H
  rw [usage_text_begun_S] at H
  refine FnS_ofM Try.func27 rfl Try.ntmps27 rfl (fun β => ?_)
  refine Sr ?_
  refine T_new trivial rfl rfl (n_box rfl (has rfl) (part_leaf (leaf_ptr))) (fun b1 => ?_)
  refine T_new trivial rfl rfl (n_box rfl (has rfl) (part_leaf (leaf_eq trivial))) (fun b2 => ?_)
  refine Ya ?_
  refine Nn ?_
  refine Sr ?_
  refine Yo 1 rfl (o_loadB rfl hh ty_sc_71 rfl Ent.rfl) ?_
  refine Yy (o_nilCheck rfl (has rfl) (fun m v ⟨p, h, _⟩ => ⟨p, h⟩)) ?_
  refine Yy (o_field (t' := tScopeProg) (z := a0.ScopeProg) rfl hh ty_fa_79_0 rfl) ?_
  refine Yy (o_field (t' := (tSl tScopeNode)) (z := a0.ScopeProg.Nodes) rfl hh ty_fa_26_1 rfl) ?_
  refine Yy (o_load rfl hh ty_sc_23 rfl) ?_
  refine Ym ?_
  revert H; refine bs fun y1 h1 H => ?_
  refine Yy (o_index rfl hh hh ty_el_23 h1) ?_
  refine Yy (o_loadS rfl hh ty_ag_56) ?_
  refine T_new trivial rfl rfl (n_alloc rfl ty_ze_56 rfl) (fun b3 => ?_)
  refine T_storeS (φs' := [fInt .i64 y1.Op, fInt .i64 y1.N, fSl tScopeExp y1.Args, fSl (tInt .i64) y1.Kids]) trivial rfl rfl (has rfl) (has rfl) (ll_cons (leaf_eq trivial) (ll_cons (leaf_eq trivial) (ll_cons (leaf_sl) (ll_cons (leaf_sl) ll_nil)))) ty_sz_56 rfl rfl rfl ?_
  refine Nn ?_
  refine T_seq ?_
  revert H; refine bs fun y2 h2 H => ?_
  revert H; refine bs fun y3 h3 H => ?_
  refine T_net 9 [fun _ => .op [2] false (fun _ => fPtr tUsage_text a0) (fun _ => [tEmp]), fun _ => .op [] false (fun _ => fEq (.pointer (some ⟨b3, 3, none⟩))) (fun _ => []), fun _ => .op [0] false (fun _ => fSl (tInt .i64) y1.Kids) (fun _ => [tEmp]), fun _ => .op [] false (fun _ => fPtr (tInt .i64) y2) (fun _ => []), fun _ => .op [] false (fun _ => fInt .i64 y2) (fun _ => []), fun _ => .op [1] false (fun _ => fInt .i64 a2) (fun _ => [tEmp]), fun _ => .op [] true (fun _ => fInt .i64 y3) (fun _ => []), fun _ => .op [3] true (fun c => fEq (ptr c.n)) (fun c => [tBlk c.n 3 [fInt .i64 0]]), fun e => .op [3] true (fun _ => fAny) (fun _ => [tBlk (e 7).n 3 [fInt .i64 y3]])] [([2], false, []), ([], false, []), ([0], false, []), ([], false, []), ([], false, []), ([1], false, []), ([], true, []), ([3], true, []), ([3], true, [7])] 1 4 mixed (F0 (F0 (F0 (F0 (F0 (F0 (F0 (F0 (FitsL.cons (fits1 (i := 7) (od := fun c7 => .op [3] true (fun _ => fAny) (fun _ => [tBlk c7.n 3 [fInt .i64 y3]])) (fun _ => ⟨rfl, rfl⟩)) FitsL.nil))))))))) (by kernel_rfl) rfl rfl (by kernel_rfl) rfl ?_
  dsimp only [netL, List.take, List.replicate, List.append, List.drop]
  refine N_op (ps := [2]) (φ := fPtr tUsage_text a0) rfl (fun _ => rfl) trivial rfl rfl (o_loadB rfl (has rfl) ty_sc_71 rfl Ent.rfl) (fun _ => ?_)
  refine N_y (φ := fEq (.pointer (some ⟨b3, 3, none⟩))) rfl (fun _ => rfl) trivial rfl (o_fieldB 3 rfl (has rfl) ty_fa_56_3 rfl) (fun _ => ?_)
  refine N_op (ps := [0]) (φ := fSl (tInt .i64) y1.Kids) rfl (fun _ => rfl) trivial rfl rfl (o_loadB rfl (has rfl) ty_sc_46 rfl Ent.rfl) (fun _ => ?_)
  refine My (h := o_index rfl hh hh ty_el_46 h2) (k := fun _ => ?_)
  refine My (h := o_load rfl hh ty_sc_3 rfl) (k := fun _ => ?_)
  refine N_op (ps := [1]) (φ := fInt .i64 a2) rfl (fun _ => rfl) trivial rfl rfl (o_loadB rfl (has rfl) ty_sc_3 rfl Ent.rfl) (fun _ => ?_)
  refine N_call (Φ := fInt .i64 y3) rfl (fun _ => rfl) trivial rfl rfl (has rfl) (HasL.cons (has rfl) (HasL.cons (has rfl) (HasL.cons (has rfl) HasL.nil))) rfl ty_cb_47 (ih_usage_text_sure a0 y2 a2 y3 h3) (fun _ => ?_)
  refine N_new (p := 3) (f := fun b4 => ptr b4) (τ := fun b4 => tBlk b4 3 [fInt .i64 0]) rfl (fun _ => rfl) (fun _ => rfl) trivial rfl rfl (n_alloc rfl ty_ze_3 rfl) (fun b4 u1 => ?_)
  refine N_store (p := 3) (φs' := [fInt .i64 y3]) rfl (fun _ => rfl) (fun _ => rfl) trivial rfl rfl rfl (has rfl) (has rfl) (leaf_eq trivial) ty_sz_3 rfl rfl (fun _ => ?_)
  refine N_done rfl ?_
  refine Nn ?_
  refine T_seq ?_
  refine Sr ?_
  refine Yo 2 rfl (o_loadB rfl hh ty_sc_71 rfl Ent.rfl) ?_
  refine Yy (o_fieldB 1 rfl hh ty_fa_56_1 rfl) ?_
  refine Yo 0 rfl (o_loadB rfl hh ty_sc_3 rfl Ent.rfl) ?_
  revert H; refine bs fun y4 h4 H => ?_
  refine T_call trivial rfl rfl rfl (has rfl) (HasL.cons (hasE rfl ent_Usage_textP) (HasL.cons (has rfl) HasL.nil)) rfl ty_cb_56 (usage_text_bodies_w a0 y1.N y4 h4) rfl ?_
  refine Nn ?_
  refine T_block ?_
  refine T_sub [(0, fPtr tUsage_text a0), (1, fInt .i64 a1), (2, fInt .i64 a2), (3, fEq (.pointer (some ⟨b1, 0, none⟩))), (5, fEq (.pointer (some ⟨b2, 0, none⟩))), (6, fInt .i64 0), (10, fPtr tUsage_text a0), (11, fPtr tUsage_text a0), (12, fPtr tScopeProg a0.ScopeProg), (13, fPtr (tSl tScopeNode) a0.ScopeProg.Nodes), (14, fSl tScopeNode a0.ScopeProg.Nodes), (15, fInt .i64 a1), (16, fPtr tScopeNode y1), (17, fSt tScopeNode y1), (7, fEq (.pointer (some ⟨b3, 0, none⟩))), (18, fPtr tUsage_text a0), (19, fEq (.pointer (some ⟨b3, 3, none⟩))), (20, fSl (tInt .i64) y1.Kids), (21, fPtr (tInt .i64) y2), (22, fInt .i64 y2), (23, fInt .i64 a2), (24, fInt .i64 y3), (8, fEq (.pointer (some ⟨b4, 0, none⟩))), (25, fPtr tUsage_text a0), (26, fEq (.pointer (some ⟨b3, 1, none⟩))), (27, fInt .i64 y1.N), (28, fClo 78 [fPtr (tPtr tUsage_textP) y4.1, fPtr (tInt .i64) y4.2])] (Sc (Sc (Sc (Sc (Sc (Sc (Sc (Sc (Sc (Sc (Sc (Sc (Sc (Sc (Sc (Sc (Sc (Sc (Sc (Sc (Sc (Sc (Sc (Sc (Sc (Sc (Sc SubT.nil))))))))))))))))))))))))))) ?_
  revert H; refine bs fun y5 h5 H => ?_
  refine T_rangeFunc (s := y3) (s' := y5) (fun (x : Int) => [fInt .i64 x]) (fun (x : Int) (t : Int) => usage_text_begun_b1 (usage_text_sure_S fuel) a0 a2 x t) (fun (t : Int) => [tBlk b3 56 [fInt .i64 y1.Op, fInt .i64 y1.N, fSl tScopeExp y1.Args, fSl (tInt .i64) y1.Kids], tBlk b2 3 [fInt .i64 a2], tBlk b1 71 [fPtr tUsage_text a0], tBlk b4 3 [fInt .i64 t]]) (has rfl) ty_cb_78 rfl (fun _ => rfl) rfl (fun J => usage_text_bodies_1_w fuel J (fun (x : Int) (t : Int) => usage_text_begun_b1 (usage_text_sure_S fuel) a0 a2 x t) y3 y4.1 y4.2 y5 h5) (fun β' l rec x1 t t' hs hp hY => ?_) (fun rb => ?_)
  ·
   generalize t = x3 at *
   have H : usage_text_begun_b1 (usage_text_sure_S fuel) a0 a2 x1 x3 = some t' := hY; clear hY; unfold usage_text_begun_b1 at H; try dsimp only at H
   show T β' _ _ (roundG [29] ((fun (x : Int) => [fInt .i64 x]) x1) [(0, fPtr tUsage_text a0), (1, fInt .i64 a1), (2, fInt .i64 a2), (3, fEq (.pointer (some ⟨b1, 0, none⟩))), (5, fEq (.pointer (some ⟨b2, 0, none⟩))), (6, fInt .i64 0), (10, fPtr tUsage_text a0), (11, fPtr tUsage_text a0), (12, fPtr tScopeProg a0.ScopeProg), (13, fPtr (tSl tScopeNode) a0.ScopeProg.Nodes), (14, fSl tScopeNode a0.ScopeProg.Nodes), (15, fInt .i64 a1), (16, fPtr tScopeNode y1), (17, fSt tScopeNode y1), (7, fEq (.pointer (some ⟨b3, 0, none⟩))), (18, fPtr tUsage_text a0), (19, fEq (.pointer (some ⟨b3, 3, none⟩))), (20, fSl (tInt .i64) y1.Kids), (21, fPtr (tInt .i64) y2), (22, fInt .i64 y2), (23, fInt .i64 a2), (24, fInt .i64 y3), (8, fEq (.pointer (some ⟨b4, 0, none⟩))), (25, fPtr tUsage_text a0), (26, fEq (.pointer (some ⟨b3, 1, none⟩))), (27, fInt .i64 y1.N), (28, fClo 78 [fPtr (tPtr tUsage_textP) y4.1, fPtr (tInt .i64) y4.2])]) (tObj l (.loop rec) :: [tBlk b3 56 [fInt .i64 y1.Op, fInt .i64 y1.N, fSl tScopeExp y1.Args, fSl (tInt .i64) y1.Kids], tBlk b2 3 [fInt .i64 a2], tBlk b1 71 [fPtr tUsage_text a0], tBlk b4 3 [fInt .i64 x3]]) _
   refine T_region ?_
   refine Ya ?_
   refine Nn ?_
   refine T_begin hs ?_
   refine T_block ?_
   revert H; refine bs fun y6 h6 H => ?_
   revert H; refine bs fun z1 h7 H => ?_
   refine T_net 7 [fun _ => .op [4] false (fun _ => fInt .i64 x3) (fun _ => [tEmp]), fun _ => .op [3] false (fun _ => fPtr tUsage_text a0) (fun _ => [tEmp]), fun _ => .op [] false (fun _ => fInt .i64 x1) (fun _ => []), fun _ => .op [2] false (fun _ => fInt .i64 a2) (fun _ => [tEmp]), fun _ => .op [] true (fun _ => fInt .i64 y6) (fun _ => []), fun _ => .op [] false (fun _ => fInt .i64 z1) (fun _ => []), fun _ => .op [4] true (fun _ => fAny) (fun _ => [tBlk b4 3 [fInt .i64 z1]])] [([4], false, []), ([3], false, []), ([], false, []), ([2], false, []), ([], true, []), ([], false, []), ([4], true, [])] 0 5 mixed (F0 (F0 (F0 (F0 (F0 (F0 (F0 FitsL.nil))))))) (by kernel_rfl) rfl rfl (by kernel_rfl) rfl ?_
   dsimp only [netL, List.take, List.replicate, List.append, List.drop]
   refine N_op (ps := [4]) (φ := fInt .i64 x3) rfl (fun _ => rfl) trivial rfl rfl (o_loadB rfl (has rfl) ty_sc_3 rfl Ent.rfl) (fun _ => ?_)
   refine N_op (ps := [3]) (φ := fPtr tUsage_text a0) rfl (fun _ => rfl) trivial rfl rfl (o_loadB rfl (has rfl) ty_sc_71 rfl Ent.rfl) (fun _ => ?_)
   refine My (h := o_move rfl hh) (k := fun _ => ?_)
   refine N_op (ps := [2]) (φ := fInt .i64 a2) rfl (fun _ => rfl) trivial rfl rfl (o_loadB rfl (has rfl) ty_sc_3 rfl Ent.rfl) (fun _ => ?_)
   refine N_call (Φ := fInt .i64 y6) rfl (fun _ => rfl) trivial rfl rfl (has rfl) (HasL.cons (has rfl) (HasL.cons (has rfl) (HasL.cons (has rfl) HasL.nil))) rfl ty_cb_47 (ih_usage_text_sure a0 x1 a2 y6 h6) (fun _ => ?_)
   refine My (h := o_add rfl hh hh h7) (k := fun _ => ?_)
   refine N_store (p := 4) (φs' := [fInt .i64 z1]) rfl (fun _ => rfl) (fun _ => rfl) trivial rfl rfl rfl (has rfl) (has rfl) (leaf_eq trivial) ty_sz_3 rfl rfl (fun _ => ?_)
   refine N_done rfl ?_
   refine T_nil ?_
   refine T_in_n ?_
   refine T_pick [1, 2, 3, 4, 0] (by decide) ?_
   cases H
   refine T_pick [4, 0, 1, 2, 3] (by decide) ?_
   exact T_roundEnd hs hp rfl
  ·
   generalize rb = rb1
   show T β _ _ [(0, fPtr tUsage_text a0), (1, fInt .i64 a1), (2, fInt .i64 a2), (3, fEq (.pointer (some ⟨b1, 0, none⟩))), (5, fEq (.pointer (some ⟨b2, 0, none⟩))), (6, fInt .i64 0), (10, fPtr tUsage_text a0), (11, fPtr tUsage_text a0), (12, fPtr tScopeProg a0.ScopeProg), (13, fPtr (tSl tScopeNode) a0.ScopeProg.Nodes), (14, fSl tScopeNode a0.ScopeProg.Nodes), (15, fInt .i64 a1), (16, fPtr tScopeNode y1), (17, fSt tScopeNode y1), (7, fEq (.pointer (some ⟨b3, 0, none⟩))), (18, fPtr tUsage_text a0), (19, fEq (.pointer (some ⟨b3, 3, none⟩))), (20, fSl (tInt .i64) y1.Kids), (21, fPtr (tInt .i64) y2), (22, fInt .i64 y2), (23, fInt .i64 a2), (24, fInt .i64 y3), (8, fEq (.pointer (some ⟨b4, 0, none⟩))), (25, fPtr tUsage_text a0), (26, fEq (.pointer (some ⟨b3, 1, none⟩))), (27, fInt .i64 y1.N), (28, fClo 78 [fPtr (tPtr tUsage_textP) y4.1, fPtr (tInt .i64) y4.2])] ([tMark rb1] ++ [tBlk b3 56 [fInt .i64 y1.Op, fInt .i64 y1.N, fSl tScopeExp y1.Args, fSl (tInt .i64) y1.Kids], tBlk b2 3 [fInt .i64 a2], tBlk b1 71 [fPtr tUsage_text a0], tBlk b4 3 [fInt .i64 y5]]) _
   dsimp only [List.append, List.cons_append, List.nil_append]
   refine T_in_n ?_
   refine T_then_n ?_
   refine Sr ?_
   refine Yo 4 rfl (o_loadB rfl hh ty_sc_3 rfl Ent.rfl) ?_
   refine Ya ?_
   refine Nn ?_
   refine T_retc ?_
   cases H
   refine T_pick [0] (by decide) ?_
   exact T_outM1 [rb1] rfl (hasS rfl) rfl rfl
 ·
  intro a0 a1 a2 r H
  rw [usage_text_sure_S] at H
  refine FnS_of Try.func47 rfl Try.ntmps47 rfl (fun β => ?_)
  refine Sr ?_
  refine Ya ?_
  refine Nn ?_
  refine Sr ?_
  refine Ym ?_
  refine Yy (o_nilCheck rfl (has rfl) (fun m v ⟨p, h, _⟩ => ⟨p, h⟩)) ?_
  refine Yy (o_field (t' := tScopeProg) (z := a0.ScopeProg) rfl hh ty_fa_79_0 rfl) ?_
  refine Yy (o_field (t' := (tSl tScopeNode)) (z := a0.ScopeProg.Nodes) rfl hh ty_fa_26_1 rfl) ?_
  refine Yy (o_load rfl hh ty_sc_23 rfl) ?_
  refine Ym ?_
  revert H; refine bs fun y1 h1 H => ?_
  refine Yy (o_index rfl hh hh ty_el_23 h1) ?_
  refine Yy (o_loadS rfl hh ty_ag_56) ?_
  refine T_new trivial rfl rfl (n_alloc rfl ty_ze_56 rfl) (fun b1 => ?_)
  refine T_storeS (φs' := [fInt .i64 y1.Op, fInt .i64 y1.N, fSl tScopeExp y1.Args, fSl (tInt .i64) y1.Kids]) trivial rfl rfl (has rfl) (has rfl) (ll_cons (leaf_eq trivial) (ll_cons (leaf_eq trivial) (ll_cons (leaf_sl) (ll_cons (leaf_sl) ll_nil)))) ty_sz_56 rfl rfl rfl ?_
  refine Nn ?_
  revert H; refine bs fun o1 H Hr1 => ?_
  refine T_seqJ (ι := Unit) (fun i => o1 = Sum.inl ()) (fun i => []) (fun i => [tBlk b1 56 [fInt .i64 y1.Op, fInt .i64 y1.N, fSl tScopeExp y1.Args, fSl (tInt .i64) y1.Kids]]) ?_ ?_
  ·
   refine Sr ?_
   refine Yy (o_fieldB 0 rfl hh ty_fa_56_0 rfl) ?_
   refine Yo 0 rfl (o_loadB rfl hh ty_sc_53 rfl Ent.rfl) ?_
   refine Nn ?_
   refine T_block ?_
   refine Sr ?_
   refine Yy (o_eql rfl hh hh) ?_
   refine Ya ?_
   refine Nn ?_
   revert H; refine is (fun c1 H => ?_) fun c1 H => ?_
   ·
    refine T_cond_t (has rfl) c1 ?_
    refine Sr ?_
    refine Ym ?_
    refine Yy (o_nilCheck rfl (has rfl) (fun m v ⟨p, h, _⟩ => ⟨p, h⟩)) ?_
    refine Yy (o_field (t' := (tSl (tMapD kInt (fun y => fSt tUsage_channel y)))) (z := a0.denotes) rfl (has rfl) ty_fa_79_1 rfl) ?_
    refine Yy (o_load rfl hh ty_sc_77 rfl) ?_
    refine Ym ?_
    revert H; refine bs fun y2 h2 H => ?_
    refine Yy (o_index rfl hh hh ty_el_77 h2) ?_
    refine Yy (o_load rfl hh ty_sc_108 rfl) ?_
    refine Ym ?_
    refine Yy (o_lookup2 (zα := (⟨0, 0⟩ : Usage_channel)) (k := a2) rfl hh hh rfl ty_mp_108 (ent_aggOf [(.int .i64 0), (.int .i64 0)])) ?_
    refine Ym ?_
    refine Yy (o_extract rfl hh rfl) ?_
    refine Yy (o_extract rfl hh rfl) ?_
    refine T_new trivial rfl rfl (n_alloc rfl ty_ze_129 rfl) (fun b2 => ?_)
    refine T_storeS (φs' := [fInt .i64 (((y2.get a2).getD (⟨0, 0⟩ : Usage_channel)).def_), fInt .i64 (((y2.get a2).getD (⟨0, 0⟩ : Usage_channel)).index)]) trivial rfl rfl (has rfl) (has rfl) (ll_cons (leaf_eq trivial) (ll_cons (leaf_eq trivial) ll_nil)) ty_sz_129 rfl rfl rfl ?_
    refine Ya ?_
    refine Nn ?_
    refine Sr ?_
    refine Ym ?_
    refine Ym ?_
    revert H; refine cs (fun c2 H => ?_) fun c2 H => ?_
    ·
     refine Yg c2 (o_fieldB 1 rfl hh ty_fa_56_1 rfl) ?_
     refine Yh 1 rfl c2 (o_loadB rfl hh ty_sc_3 rfl Ent.rfl) ?_
     refine Yg c2 (o_move rfl hh) ?_
     refine Yg c2 (o_eql rfl hh hh) ?_
     refine Yy (o_pick_t rfl hh c2 hh) ?_
     refine Ym ?_
     revert H; refine is (fun c3 H => ?_) fun c3 H => ?_
     ·
      refine Yg c3 (o_move rfl hh) ?_
      refine Yh 0 rfl c3 (o_loadBS rfl hh ty_ag_129 rfl rfl) ?_
      refine Yg c3 (o_move rfl hh) ?_
      revert H; refine bs fun y3 h3 H => ?_
      refine T_call ⟨_, _, rfl, rfl, c3⟩ rfl rfl rfl (has rfl) (HasL.cons (has rfl) (HasL.cons (has rfl) (HasL.cons (has rfl) HasL.nil))) rfl ty_cb_71 (usage_text_fits_w a0 (⟨((y2.get a2).getD (⟨0, 0⟩ : Usage_channel)).def_, ((y2.get a2).getD (⟨0, 0⟩ : Usage_channel)).index⟩ : Usage_channel) a1 y3 h3) rfl ?_
      refine Yy (o_pick_t rfl hh c3 hh) ?_
      refine Nn ?_
      revert H; refine cs (fun c4 H => ?_) fun c4 H => ?_
      ·
       refine T_cond_t (has rfl) c4 ?_
       refine Sr ?_
       refine Ya ?_
       refine Nn ?_
       refine T_retc ?_
       refine T_in_ret ?_
       refine T_then_ret ?_
       revert H; refine bs fun r1 H e1 => ?_
       have e1 := Option.some.inj e1; subst e1; have Hr1 := Option.some.inj Hr1; subst Hr1
       cases H
       refine T_pick [] (by decide) ?_
       exact T_out1 rfl (hasS rfl) rfl
      ·
       refine T_cond_f (has rfl) c4 ?_
       refine T_skip ?_
       refine T_in_n ?_
       refine T_then_n ?_
       refine T_pick [1] (by decide) ?_
       exact T_meet (()) (Option.some.inj H).symm SubT.nil rfl
     ·
      refine Yf c3 ?_
      refine Yf c3 ?_
      refine Yf c3 ?_
      refine Yf c3 ?_
      refine Yy (o_pick_f rfl hh c3 hh) ?_
      refine Nn ?_
      refine T_cond_f (has rfl) rfl ?_
      refine T_skip ?_
      refine T_in_n ?_
      refine T_then_n ?_
      refine T_pick [1] (by decide) ?_
      exact T_meet (()) (Option.some.inj H).symm SubT.nil rfl
    ·
     refine Yf c2 ?_
     refine Yf c2 ?_
     refine Yf c2 ?_
     refine Yf c2 ?_
     refine Yy (o_pick_f rfl hh c2 hh) ?_
     refine Ym ?_
     refine Yd ?_
     refine Yd ?_
     refine Yd ?_
     refine Yd ?_
     refine Yy (o_pick_f rfl hh rfl hh) ?_
     refine Nn ?_
     refine T_cond_f (has rfl) rfl ?_
     refine T_skip ?_
     refine T_in_n ?_
     refine T_then_n ?_
     refine T_pick [1] (by decide) ?_
     exact T_meet (()) (Option.some.inj H).symm SubT.nil rfl
   ·
    refine T_cond_f (has rfl) c1 ?_
    refine Sr ?_
    refine Yy (o_eql rfl hh hh) ?_
    refine Ya ?_
    refine Nn ?_
    revert H; refine is (fun c5 H => ?_) fun c5 H => ?_
    ·
     refine T_cond_t (has rfl) c5 ?_
     refine T_seq ?_
     revert H; refine bs fun y4 h4 H => ?_
     revert H; refine bs fun y5 h5 H => ?_
     revert H; refine bs fun y6 h6 H => ?_
     revert H; refine bs fun y7 h7 H => ?_
     revert H; refine bs fun z1 h8 H => ?_
     refine T_net 16 [fun _ => .op [] false (fun _ => fPtr tUsage_text a0) (fun _ => []), fun _ => .op [] false (fun _ => fEq (.pointer (some ⟨b1, 3, none⟩))) (fun _ => []), fun _ => .op [0] false (fun _ => fSl (tInt .i64) y1.Kids) (fun _ => [tEmp]), fun _ => .op [] false (fun _ => fPtr (tInt .i64) y4) (fun _ => []), fun _ => .op [] false (fun _ => fInt .i64 y4) (fun _ => []), fun _ => .op [] false (fun _ => fInt .i64 a2) (fun _ => []), fun _ => .op [] true (fun _ => fInt .i64 y5) (fun _ => []), fun _ => .op [] false (fun _ => fPtr tUsage_text a0) (fun _ => []), fun _ => .op [] false (fun _ => fEq (.pointer (some ⟨b1, 3, none⟩))) (fun _ => []), fun _ => .op [0] false (fun _ => fSl (tInt .i64) y1.Kids) (fun _ => [tEmp]), fun _ => .op [] false (fun _ => fPtr (tInt .i64) y6) (fun _ => []), fun _ => .op [] false (fun _ => fInt .i64 y6) (fun _ => []), fun _ => .op [] false (fun _ => fInt .i64 a2) (fun _ => []), fun _ => .op [] true (fun _ => fInt .i64 y7) (fun _ => []), fun _ => .op [] false (fun _ => fInt .i64 z1) (fun _ => []), fun _ => .op [] false (fun _ => fInt .i64 z1) (fun _ => [])] [([], false, []), ([], false, []), ([0], false, []), ([], false, []), ([], false, []), ([], false, []), ([], true, []), ([], false, []), ([], false, []), ([0], false, []), ([], false, []), ([], false, []), ([], false, []), ([], true, []), ([], false, []), ([], false, [])] 0 1 mixed (F0 (F0 (F0 (F0 (F0 (F0 (F0 (F0 (F0 (F0 (F0 (F0 (F0 (F0 (F0 (F0 FitsL.nil)))))))))))))))) (by kernel_rfl) rfl rfl (by kernel_rfl) rfl ?_
     dsimp only [netL, List.take, List.replicate, List.append, List.drop]
     refine My (h := o_move rfl hh) (k := fun _ => ?_)
     refine N_y (φ := fEq (.pointer (some ⟨b1, 3, none⟩))) rfl (fun _ => rfl) trivial rfl (o_fieldB 3 rfl (has rfl) ty_fa_56_3 rfl) (fun _ => ?_)
     refine N_op (ps := [0]) (φ := fSl (tInt .i64) y1.Kids) rfl (fun _ => rfl) trivial rfl rfl (o_loadB rfl (has rfl) ty_sc_46 rfl Ent.rfl) (fun _ => ?_)
     refine My (h := o_index rfl hh hh ty_el_46 h4) (k := fun _ => ?_)
     refine My (h := o_load rfl hh ty_sc_3 rfl) (k := fun _ => ?_)
     refine My (h := o_move rfl hh) (k := fun _ => ?_)
     refine N_call (Φ := fInt .i64 y5) rfl (fun _ => rfl) trivial rfl rfl (has rfl) (HasL.cons (has rfl) (HasL.cons (has rfl) (HasL.cons (has rfl) HasL.nil))) rfl ty_cb_47 (ih_usage_text_sure a0 y4 a2 y5 h5) (fun _ => ?_)
     refine My (h := o_move rfl hh) (k := fun _ => ?_)
     refine N_y (φ := fEq (.pointer (some ⟨b1, 3, none⟩))) rfl (fun _ => rfl) trivial rfl (o_fieldB 3 rfl (has rfl) ty_fa_56_3 rfl) (fun _ => ?_)
     refine N_op (ps := [0]) (φ := fSl (tInt .i64) y1.Kids) rfl (fun _ => rfl) trivial rfl rfl (o_loadB rfl (has rfl) ty_sc_46 rfl Ent.rfl) (fun _ => ?_)
     refine My (h := o_index rfl hh hh ty_el_46 h6) (k := fun _ => ?_)
     refine My (h := o_load rfl hh ty_sc_3 rfl) (k := fun _ => ?_)
     refine My (h := o_move rfl hh) (k := fun _ => ?_)
     refine N_call (Φ := fInt .i64 y7) rfl (fun _ => rfl) trivial rfl rfl (has rfl) (HasL.cons (has rfl) (HasL.cons (has rfl) (HasL.cons (has rfl) HasL.nil))) rfl ty_cb_47 (ih_usage_text_sure a0 y6 a2 y7 h7) (fun _ => ?_)
     refine My (h := o_add rfl hh hh h8) (k := fun _ => ?_)
     refine My (h := o_assign rfl hh) (k := fun _ => ?_)
     refine N_done rfl ?_
     refine Nn ?_
     refine T_retc ?_
     refine T_in_ret ?_
     refine T_then_ret ?_
     revert H; refine bs fun r2 H e2 => ?_
     have e2 := Option.some.inj e2; subst e2; have Hr1 := Option.some.inj Hr1; subst Hr1
     cases H
     refine T_pick [] (by decide) ?_
     exact T_out1 rfl (hasS rfl) rfl
    ·
     refine T_cond_f (has rfl) c5 ?_
     refine Sr ?_
     refine Yy (o_eql rfl hh hh) ?_
     refine Ya ?_
     refine Nn ?_
     revert H; refine is (fun c6 H => ?_) fun c6 H => ?_
     ·
      refine T_cond_t (has rfl) c6 ?_
      refine T_seq ?_
      revert H; refine bs fun y8 h9 H => ?_
      revert H; refine bs fun y9 h10 H => ?_
      revert H; refine bs fun y10 h11 H => ?_
      revert H; refine bs fun y11 h12 H => ?_
      refine T_net 16 [fun _ => .op [] false (fun _ => fPtr tUsage_text a0) (fun _ => []), fun _ => .op [] false (fun _ => fEq (.pointer (some ⟨b1, 3, none⟩))) (fun _ => []), fun _ => .op [0] false (fun _ => fSl (tInt .i64) y1.Kids) (fun _ => [tEmp]), fun _ => .op [] false (fun _ => fPtr (tInt .i64) y8) (fun _ => []), fun _ => .op [] false (fun _ => fInt .i64 y8) (fun _ => []), fun _ => .op [] false (fun _ => fInt .i64 a2) (fun _ => []), fun _ => .op [] true (fun _ => fInt .i64 y9) (fun _ => []), fun _ => .op [] false (fun _ => fPtr tUsage_text a0) (fun _ => []), fun _ => .op [] false (fun _ => fEq (.pointer (some ⟨b1, 3, none⟩))) (fun _ => []), fun _ => .op [0] false (fun _ => fSl (tInt .i64) y1.Kids) (fun _ => [tEmp]), fun _ => .op [] false (fun _ => fPtr (tInt .i64) y10) (fun _ => []), fun _ => .op [] false (fun _ => fInt .i64 y10) (fun _ => []), fun _ => .op [] false (fun _ => fInt .i64 a2) (fun _ => []), fun _ => .op [] true (fun _ => fInt .i64 y11) (fun _ => []), fun _ => .op [] false (fun _ => fInt .i64 (min y9 y11)) (fun _ => []), fun _ => .op [] false (fun _ => fInt .i64 (min y9 y11)) (fun _ => [])] [([], false, []), ([], false, []), ([0], false, []), ([], false, []), ([], false, []), ([], false, []), ([], true, []), ([], false, []), ([], false, []), ([0], false, []), ([], false, []), ([], false, []), ([], false, []), ([], true, []), ([], false, []), ([], false, [])] 0 1 mixed (F0 (F0 (F0 (F0 (F0 (F0 (F0 (F0 (F0 (F0 (F0 (F0 (F0 (F0 (F0 (F0 FitsL.nil)))))))))))))))) (by kernel_rfl) rfl rfl (by kernel_rfl) rfl ?_
      dsimp only [netL, List.take, List.replicate, List.append, List.drop]
      refine My (h := o_move rfl hh) (k := fun _ => ?_)
      refine N_y (φ := fEq (.pointer (some ⟨b1, 3, none⟩))) rfl (fun _ => rfl) trivial rfl (o_fieldB 3 rfl (has rfl) ty_fa_56_3 rfl) (fun _ => ?_)
      refine N_op (ps := [0]) (φ := fSl (tInt .i64) y1.Kids) rfl (fun _ => rfl) trivial rfl rfl (o_loadB rfl (has rfl) ty_sc_46 rfl Ent.rfl) (fun _ => ?_)
      refine My (h := o_index rfl hh hh ty_el_46 h9) (k := fun _ => ?_)
      refine My (h := o_load rfl hh ty_sc_3 rfl) (k := fun _ => ?_)
      refine My (h := o_move rfl hh) (k := fun _ => ?_)
      refine N_call (Φ := fInt .i64 y9) rfl (fun _ => rfl) trivial rfl rfl (has rfl) (HasL.cons (has rfl) (HasL.cons (has rfl) (HasL.cons (has rfl) HasL.nil))) rfl ty_cb_47 (ih_usage_text_sure a0 y8 a2 y9 h10) (fun _ => ?_)
      refine My (h := o_move rfl hh) (k := fun _ => ?_)
      refine N_y (φ := fEq (.pointer (some ⟨b1, 3, none⟩))) rfl (fun _ => rfl) trivial rfl (o_fieldB 3 rfl (has rfl) ty_fa_56_3 rfl) (fun _ => ?_)
      refine N_op (ps := [0]) (φ := fSl (tInt .i64) y1.Kids) rfl (fun _ => rfl) trivial rfl rfl (o_loadB rfl (has rfl) ty_sc_46 rfl Ent.rfl) (fun _ => ?_)
      refine My (h := o_index rfl hh hh ty_el_46 h11) (k := fun _ => ?_)
      refine My (h := o_load rfl hh ty_sc_3 rfl) (k := fun _ => ?_)
      refine My (h := o_move rfl hh) (k := fun _ => ?_)
      refine N_call (Φ := fInt .i64 y11) rfl (fun _ => rfl) trivial rfl rfl (has rfl) (HasL.cons (has rfl) (HasL.cons (has rfl) (HasL.cons (has rfl) HasL.nil))) rfl ty_cb_47 (ih_usage_text_sure a0 y10 a2 y11 h12) (fun _ => ?_)
      refine My (h := o_min rfl hh hh) (k := fun _ => ?_)
      refine My (h := o_assign rfl hh) (k := fun _ => ?_)
      refine N_done rfl ?_
      refine Nn ?_
      refine T_retc ?_
      refine T_in_ret ?_
      refine T_then_ret ?_
      revert H; refine bs fun r3 H e3 => ?_
      have e3 := Option.some.inj e3; subst e3; have Hr1 := Option.some.inj Hr1; subst Hr1
      cases H
      refine T_pick [] (by decide) ?_
      exact T_out1 rfl (hasS rfl) rfl
     ·
      refine T_cond_f (has rfl) c6 ?_
      refine Sr ?_
      refine Yy (o_eql rfl hh hh) ?_
      refine Ya ?_
      refine Nn ?_
      revert H; refine is (fun c7 H => ?_) fun c7 H => ?_
      ·
       refine T_cond_t (has rfl) c7 ?_
       refine Sr ?_
       refine Ym ?_
       refine Ym ?_
       refine Ym ?_
       revert H; refine bs fun y12 h13 H => ?_
       refine T_call trivial rfl rfl rfl (has rfl) (HasL.cons (has rfl) (HasL.cons (has rfl) (HasL.cons (has rfl) HasL.nil))) rfl ty_cb_27 (ih_usage_text_begun a0 a1 a2 y12 h13) rfl ?_
       refine Ya ?_
       refine Nn ?_
       refine T_retc ?_
       refine T_in_ret ?_
       refine T_then_ret ?_
       revert H; refine bs fun r4 H e4 => ?_
       have e4 := Option.some.inj e4; subst e4; have Hr1 := Option.some.inj Hr1; subst Hr1
       cases H
       refine T_pick [] (by decide) ?_
       exact T_out1 rfl (hasS rfl) rfl
      ·
       refine T_cond_f (has rfl) c7 ?_
       refine T_skip ?_
       refine T_in_n ?_
       refine T_then_n ?_
       exact T_meet (()) (Option.some.inj H).symm SubT.nil rfl
  ·
   clear H; intro i hi; subst o1; have H := Hr1; clear Hr1; try dsimp only at H
   show T β _ _ [] [tBlk b1 56 [fInt .i64 y1.Op, fInt .i64 y1.N, fSl tScopeExp y1.Args, fSl (tInt .i64) y1.Kids]] _
   refine Sr ?_
   refine Ya ?_
   refine Nn ?_
   refine T_retc ?_
   cases H
   refine T_pick [] (by decide) ?_
   exact T_out1 rfl (hasS rfl) rfl
theorem usage_text_begun_w (fuel : Nat)  (a0 : Usage_text) (a1 : Int) (a2 : Int) (r : Int) (H : usage_text_begun_S fuel a0 a1 a2 = some r) : FnS Try.prog 27 [fPtr tUsage_text a0, fInt .i64 a1, fInt .i64 a2] [] (fInt .i64 r) (fun _ => []) := (usage_text_begun_all fuel).1 a0 a1 a2 r H
theorem usage_text_sure_w (fuel : Nat)  (a0 : Usage_text) (a1 : Int) (a2 : Int) (r : Int) (H : usage_text_sure_S fuel a0 a1 a2 = some r) : FnS Try.prog 47 [fPtr tUsage_text a0, fInt .i64 a1, fInt .i64 a2] [] (fInt .i64 r) (fun _ => []) := (usage_text_begun_all fuel).2 a0 a1 a2 r H
def usage_Table_l1 (fuel : Nat) (y2 : Usage_text) : Nat → (List UsageDef) → Option (List UsageDef)
| 0, _ => none
| k + 1, x3 =>
 (usage_text_all_S fuel y2 x3).bind fun y4 =>
 (usage_kinds_S fuel x3 y4 (fun x => usage_Table_1_S x.1 x.2.1 x.2.2)).bind fun y5 =>
 bif y5 then
  some x3
 else
  usage_Table_l1 fuel y2 k y4
def usage_Table_l3 (fuel : Nat) (y2 : Usage_text) (x7 : List UsageDef) (x8 : Int) (y6 : UsageDef) : Nat → (List Int) → Int → Option (List UsageDef)
| 0, _, _ => none
| k + 1, x12, x13 =>
 if x13 < (y6.Chans.length : Int) then
  ((idx x12 x13).bind fun y7 =>
  if y7 = 3 then
   (idx y2.heads x8).bind fun y8 =>
   (usage_text_place_S y2 x8 x13).bind fun y9 =>
   (usage_text_begun_S fuel y2 y8 y9).bind fun y10 =>
   if y10 = 1 then
    (idx x7 x8).bind fun y11 =>
    (idx x12 x13).bind fun y12 =>
    some (x12.set x13.toNat 2)
   else
    some x12
  else
   some x12).bind fun x14 =>
  (chk (x13 + 1)).bind fun z1 =>
  usage_Table_l3 fuel y2 x7 x8 y6 k x14 z1
 else
  some (x7.set x8.toNat ({ y6 with Chans := x12 }))
def usage_Table_l2 (fuel : Nat) (y2 : Usage_text) (x1 : List UsageDef) : Nat → (List UsageDef) → Int → Option (List UsageDef)
| 0, _, _ => none
| k + 1, x7, x8 =>
 if x8 < (x1.length : Int) then
  ((idx x7 x8).bind fun y6 =>
  usage_Table_l3 fuel y2 x7 x8 y6 fuel y6.Chans 0).bind fun x9 =>
  (chk (x8 + 1)).bind fun z2 =>
  usage_Table_l2 fuel y2 x1 k x9 z2
 else
  some x7
def usage_Table_S (fuel : Nat) (a0 : ScopeProg) : Option ((List UsageDef) × Int) :=
 (scope_Check_S fuel (⟨a0.Free, a0.Nodes, a0.Defs, a0.Main⟩ : ScopeProg)).bind fun y1 =>
 if y1 ≠ 0 then
  some (([] : List UsageDef), 2)
 else
  (usage_read_S fuel (⟨a0.Free, a0.Nodes, a0.Defs, a0.Main⟩ : ScopeProg)).bind fun y2 =>
  (usage_text_none_S fuel y2).bind fun y3 =>
  (usage_Table_l1 fuel y2 fuel y3).bind fun x1 =>
  (usage_Table_l2 fuel y2 x1 fuel x1 0).bind fun x4 =>
  some (x4, 0)
theorem usage_Table_w (fuel : Nat)  (a0 : ScopeProg) (r : (List UsageDef) × Int) (H : usage_Table_S fuel a0 = some r) : FnS Try.prog 8 [fSt tScopeProg a0] [] fAny (fun v => [tWrap .tuple [.own (fun v => tRowD v 40 oUsageDef r.1) (fun _ => rowG_cell), .pure (fInt .i64 r.2)] v]) := by
 unfold usage_Table_S at H
 refine FnS_of Try.func8 rfl Try.ntmps8 rfl (fun β => ?_)
 refine Sr ?_
 refine T_new trivial rfl rfl (n_box rfl (has rfl) part_agg) (fun b1 => ?_)
 refine Ya ?_
 refine Ya ?_
 refine Nn ?_
 refine T_scope ?_
 refine T_seq ?_
 refine Sr ?_
 refine Yo 0 rfl (o_loadBS rfl hh ty_ag_26 rfl rfl) ?_
 revert H; refine bs fun y1 h1 H => ?_
 refine T_call trivial rfl rfl rfl (has rfl) (HasL.cons (has rfl) HasL.nil) rfl ty_cb_21 (scope_Check_w fuel (⟨a0.Free, a0.Nodes, a0.Defs, a0.Main⟩ : ScopeProg) y1 h1) rfl ?_
 refine Yy (o_neq rfl hh hh) ?_
 refine Nn ?_
 revert H; refine is (fun c1 H => ?_) fun c1 H => ?_
 ·
  refine T_cond_t (has rfl) c1 ?_
  refine Sr ?_
  refine Ya ?_
  refine Ya ?_
  refine Nn ?_
  refine Rr ?_
  refine T_ng_ret ?_
  refine T_nilRowD oUsageDef 40 ?_
  cases H
  refine T_pick [0] (by decide) ?_
  exact T_outW2 rfl (hasS rfl) (hasS rfl) (AsmL.own (AsmL.pure Ent.rfl (leaf_eq trivial) AsmL.nil))
 ·
  refine T_cond_f (has rfl) c1 ?_
  refine T_skip ?_
  refine T_then_n ?_
  refine Sr ?_
  refine Yo 0 rfl (o_loadBS rfl hh ty_ag_26 rfl rfl) ?_
  revert H; refine bs fun y2 h2 H => ?_
  refine T_call trivial rfl rfl rfl (has rfl) (HasL.cons (has rfl) HasL.nil) rfl ty_cb_22 (usage_read_w fuel (⟨a0.Free, a0.Nodes, a0.Defs, a0.Main⟩ : ScopeProg) y2 h2) rfl ?_
  refine Ya ?_
  refine Nn ?_
  refine Sr ?_
  refine Ym ?_
  revert H; refine bs fun y3 h3 H => ?_
  refine T_callO trivial rfl rfl rfl (has rfl) (HasL.cons (has rfl) HasL.nil) rfl ty_cb_23 (usage_text_none_w fuel y2 y3 h3) (Δi := []) rfl (fun v1 => ?_)
  dsimp only [List.append, List.cons_append, List.nil_append]
  refine T_rowCellG 0 rfl (fun hc_v1 => ?_)
  refine Ya ?_
  refine Nn ?_
  refine T_seq ?_
  refine T_label ?_
  refine T_then_n ?_
  revert H; refine bs fun o1 H Hr1 => ?_
  refine T_seqJ (ι := List UsageDef × Value) (fun i => o1 = i.1) (fun i => [(4, fPtr tUsage_text y2), (5, fEq i.2)]) (fun i => [tBlk b1 26 [fSl tStr a0.Free, fSl tScopeNode a0.Nodes, fSl tScopeDef a0.Defs, fInt .i64 a0.Main], tRowD i.2 40 oUsageDef i.1]) ?_ ?_
  ·
   refine T_block ?_
   refine T_pick [1, 0] (by decide) ?_
   refine T_loop (ι := Nat × List UsageDef × Value) (fun i => usage_Table_l1 fuel y2 i.1 i.2.1 = _) (fun i => i.1) (fun i => [(4, fPtr tUsage_text y2), (5, fEq i.2.2)]) (fun i => [tBlk b1 26 [fSl tStr a0.Free, fSl tScopeNode a0.Nodes, fSl tScopeDef a0.Defs, fInt .i64 a0.Main], tRowD i.2.2 40 oUsageDef i.2.1]) (fuel, y3, v1) H (Sc (Sc SubT.nil)) rfl ?_
   clear H; rintro ⟨k1, x3, v4⟩ H
   replace H : usage_Table_l1 fuel y2 k1 x3 = _ := H
   show T β _ _ [(4, fPtr tUsage_text y2), (5, fEq v4)] [tBlk b1 26 [fSl tStr a0.Free, fSl tScopeNode a0.Nodes, fSl tScopeDef a0.Defs, fInt .i64 a0.Main], tRowD v4 40 oUsageDef x3] _
   obtain _ | k1 := k1
   ·
    rw [usage_Table_l1] at H; cases H
   rw [usage_Table_l1] at H
   refine T_rowCellG 1 rfl (fun hc_v4 => ?_)
   refine T_block ?_
   refine Sr ?_
   refine Ym ?_
   refine Ym ?_
   refine T_fr1 ?_
   revert H; refine bs fun y4 h4 H => ?_
   refine T_callLendO (Δl := [tRowD v4 40 oUsageDef x3]) (Δi := []) [(v4, fSl tUsageDef x3)] trivial rfl rfl rfl (has rfl) (HasW.cons rfl (entW_of Ent.rfl) (HasW.cons rfl (entW_lend 0 rfl) HasW.nil)) ty_cb_24 (usage_text_all_w fuel y2 x3 y4 h4) indF_any (fun v τ h => by have : τ = _ := List.mem_singleton.1 h; subst this; exact (ind_rowD indo_UsageDef)) (FrzT.cons (frz_rowD rfl frzo_UsageDef) FrzT.nil) rfl (fun v5 => ?_)
   dsimp only [List.append, List.cons_append, List.nil_append]
   refine T_rowCellG 1 rfl (fun hc_v5 => ?_)
   refine Ya ?_
   refine Nn ?_
   refine T_seq ?_
   refine Sr ?_
   refine Ym ?_
   refine Ym ?_
   revert H; refine bs fun y5 h5 H => ?_
   refine T_callLend (Δl := [tRowD v4 40 oUsageDef x3, tRowD v5 40 oUsageDef y4]) (Δi := []) (Δo := []) [(v4, fSl tUsageDef x3), (v5, fSl tUsageDef y4)] trivial rfl rfl rfl (has rfl) (HasW.cons rfl (entW_lend 0 rfl) (HasW.cons rfl (entW_lend 1 rfl) (HasW.cons rfl (entW_of (ent_fn0 ty_cb_26 (fun x r hx => usage_Table_1_w x.1 x.2.1 x.2.2 r hx))) HasW.nil))) ty_cb_25 (usage_kinds_w fuel x3 y4 (fun x => usage_Table_1_S x.1 x.2.1 x.2.2) y5 h5) indF_eq (fun _ h => nomatch h) (FrzT.cons (frz_rowD rfl frzo_UsageDef) (FrzT.cons (frz_rowD rfl frzo_UsageDef) FrzT.nil)) rfl ?_
   dsimp only [List.append, List.cons_append, List.nil_append]
   refine Nn ?_
   revert H; refine cs (fun c2 H => ?_) fun c2 H => ?_
   ·
    refine T_cond_t (has rfl) c2 ?_
    refine T_exit ?_
    refine T_then_exit ?_
    refine T_in_miss rfl ?_
    refine T_then_exit ?_
    refine T_in_hit ?_
    refine T_then_n ?_
    refine T_pick [2, 0] (by decide) ?_
    exact T_meet ((x3, v4)) (Option.some.inj H).symm (Sc (Sc SubT.nil)) rfl
   ·
    refine T_cond_f (has rfl) c2 ?_
    refine T_skip ?_
    refine T_then_n ?_
    refine T_region ?_
    refine Ym ?_
    refine Ya ?_
    refine T_nil ?_
    refine T_in_n ?_
    refine T_then_n ?_
    refine T_pick [2, 1] (by decide) ?_
    exact T_meet ((k1, y4, v5)) ⟨H, Nat.lt_succ_self _⟩ (Sc (Sc SubT.nil)) rfl
  ·
   clear H; intro i hi; obtain ⟨x1, v2⟩ := i; subst o1; have H := Hr1; clear Hr1; try dsimp only at H
   show T β _ _ [(4, fPtr tUsage_text y2), (5, fEq v2)] [tBlk b1 26 [fSl tStr a0.Free, fSl tScopeNode a0.Nodes, fSl tScopeDef a0.Defs, fInt .i64 a0.Main], tRowD v2 40 oUsageDef x1] _
   refine T_rowCellG 1 rfl (fun hc_v2 => ?_)
   revert H; refine bs fun o2 H Hr2 => ?_
   refine T_seqJ (ι := List UsageDef) (fun i => o2 = i) (fun i => [(5, fEq v2)]) (fun i => [tBlk b1 26 [fSl tStr a0.Free, fSl tScopeNode a0.Nodes, fSl tScopeDef a0.Defs, fInt .i64 a0.Main], tRowD v2 40 oUsageDef i]) ?_ ?_
   ·
    refine Sr ?_
    refine Ym ?_
    refine Yo 1 rfl (o_lenG rfl hh ty_us_27) ?_
    refine Ym ?_
    refine Nn ?_
    refine T_block ?_
    refine T_loop (ι := Nat × List UsageDef × Int) (fun i => usage_Table_l2 fuel y2 x1 i.1 i.2.1 i.2.2 = _) (fun i => i.1) (fun i => [(4, fPtr tUsage_text y2), (5, fEq v2), (25, fInt .i64 (x1.length : Int)), (26, fInt .i64 i.2.2)]) (fun i => [tBlk b1 26 [fSl tStr a0.Free, fSl tScopeNode a0.Nodes, fSl tScopeDef a0.Defs, fInt .i64 a0.Main], tRowD v2 40 oUsageDef i.2.1]) (fuel, x1, 0) H (Sc (Sc (Sc (Sc SubT.nil)))) rfl ?_
    clear H; rintro ⟨k2, x7, x8⟩ H
    replace H : usage_Table_l2 fuel y2 x1 k2 x7 x8 = _ := H
    show T β _ _ [(4, fPtr tUsage_text y2), (5, fEq v2), (25, fInt .i64 (x1.length : Int)), (26, fInt .i64 x8)] [tBlk b1 26 [fSl tStr a0.Free, fSl tScopeNode a0.Nodes, fSl tScopeDef a0.Defs, fInt .i64 a0.Main], tRowD v2 40 oUsageDef x7] _
    obtain _ | k2 := k2
    ·
     rw [usage_Table_l2] at H; cases H
    rw [usage_Table_l2] at H
    refine Sr ?_
    refine Yy (o_lss rfl hh hh) ?_
    refine Nn ?_
    refine T_seq ?_
    revert H; refine is (fun c3 H => ?_) fun c3 H => ?_
    ·
     refine T_cond_t (has rfl) c3 ?_
     refine T_skip ?_
     refine T_then_n ?_
     revert H; refine bs fun o3 H Hr3 => ?_
     refine T_seqJ (ι := List UsageDef) (fun i => o3 = i) (fun i => [(4, fPtr tUsage_text y2), (5, fEq v2), (25, fInt .i64 (x1.length : Int)), (26, fInt .i64 x8)]) (fun i => [tBlk b1 26 [fSl tStr a0.Free, fSl tScopeNode a0.Nodes, fSl tScopeDef a0.Defs, fInt .i64 a0.Main], tRowD v2 40 oUsageDef i]) ?_ ?_
     ·
      refine T_block ?_
      refine Sr ?_
      refine Ym ?_
      refine Ya ?_
      refine Nn ?_
      refine Sr ?_
      refine Ym ?_
      refine Ym ?_
      revert H; refine bs fun y6 h6 H => ?_
      refine Yo 1 rfl (o_indexG rfl hh hh ty_el_27 h6) ?_
      refine Yy (o_fieldR 0 rfl hh ty_fa_40_0 rfl) ?_
      refine T_fr1 ?_
      refine T_openD (i := x8.toNat) (k := 0) (y := y6) (f := (fun v => tRow v 41 (tInt .i64) y6.Chans)) (idx_get h6) rfl (fun v6 => ?_)
      refine T_rowCell 0 rfl (fun hc_v6 => ?_)
      refine Yo 1 rfl (o_loadH rfl rfl hh ty_sc_37 (idx_get h6) rfl) ?_
      refine Yo 0 rfl (o_lenR rfl hh ty_us_37) ?_
      refine Ym ?_
      refine Nn ?_
      refine T_block ?_
      refine T_pick [2, 1, 0] (by decide) ?_
      refine T_loop (ι := Nat × List Int × Int) (fun i => usage_Table_l3 fuel y2 x7 x8 y6 i.1 i.2.1 i.2.2 = _) (fun i => i.1) (fun i => [(4, fPtr tUsage_text y2), (5, fEq v2), (25, fInt .i64 (x1.length : Int)), (26, fInt .i64 x8), (7, fInt .i64 x8), (33, fEq v6), (34, fInt .i64 (y6.Chans.length : Int)), (35, fInt .i64 i.2.2)]) (fun i => [tBlk b1 26 [fSl tStr a0.Free, fSl tScopeNode a0.Nodes, fSl tScopeDef a0.Defs, fInt .i64 a0.Main], tHole v2 40 oUsageDef x7 (x8.toNat * OTy.sz oUsageDef + 0) v6, tRow v6 41 (tInt .i64) i.2.1]) (fuel, y6.Chans, 0) H (Sc (Sc (Sc (Sc (Sc (Sc (Sc (Sc SubT.nil)))))))) rfl ?_
      clear H; rintro ⟨k3, x12, x13⟩ H
      replace H : usage_Table_l3 fuel y2 x7 x8 y6 k3 x12 x13 = _ := H
      show T β _ _ [(4, fPtr tUsage_text y2), (5, fEq v2), (25, fInt .i64 (x1.length : Int)), (26, fInt .i64 x8), (7, fInt .i64 x8), (33, fEq v6), (34, fInt .i64 (y6.Chans.length : Int)), (35, fInt .i64 x13)] [tBlk b1 26 [fSl tStr a0.Free, fSl tScopeNode a0.Nodes, fSl tScopeDef a0.Defs, fInt .i64 a0.Main], tHole v2 40 oUsageDef x7 (x8.toNat * OTy.sz oUsageDef + 0) v6, tRow v6 41 (tInt .i64) x12] _
      obtain _ | k3 := k3
      ·
       rw [usage_Table_l3] at H; cases H
      rw [usage_Table_l3] at H
      refine Sr ?_
      refine Yy (o_lss rfl hh hh) ?_
      refine Nn ?_
      refine T_seq ?_
      revert H; refine is (fun c4 H => ?_) fun c4 H => ?_
      ·
       refine T_cond_t (has rfl) c4 ?_
       refine T_skip ?_
       refine T_then_n ?_
       revert H; refine bs fun o4 H Hr4 => ?_
       refine T_seqJ (ι := List Int) (fun i => o4 = i) (fun i => [(4, fPtr tUsage_text y2), (5, fEq v2), (25, fInt .i64 (x1.length : Int)), (26, fInt .i64 x8), (7, fInt .i64 x8), (33, fEq v6), (34, fInt .i64 (y6.Chans.length : Int)), (35, fInt .i64 x13)]) (fun i => [tBlk b1 26 [fSl tStr a0.Free, fSl tScopeNode a0.Nodes, fSl tScopeDef a0.Defs, fInt .i64 a0.Main], tHole v2 40 oUsageDef x7 (x8.toNat * OTy.sz oUsageDef + 0) v6, tRow v6 41 (tInt .i64) i]) ?_ ?_
       ·
        refine T_block ?_
        refine Sr ?_
        refine Ym ?_
        revert H; refine bs fun y7 h7 H => ?_
        refine Yo 2 rfl (o_indexR rfl hh hh ty_el_37 h7) ?_
        refine Yo 2 rfl (o_loadR rfl rfl hh ty_sc_41 (idx_get h7) rfl) ?_
        refine Ya ?_
        refine Ya ?_
        refine Nn ?_
        refine T_seq ?_
        revert H; refine is (fun c5 H => ?_) fun c5 H => ?_
        ·
         revert H; refine bs fun y8 h8 H => ?_
         revert H; refine bs fun y9 h9 H => ?_
         revert H; refine bs fun y10 h10 H => ?_
         refine T_net 18 [fun _ => .op [] false (fun _ => fInt .i64 y7) (fun _ => []), fun _ => .op [] false (fun _ => fBool (decide (y7 = 3))) (fun _ => []), fun _ => .op [] false (fun _ => fBool (decide (y7 = 3))) (fun _ => []), fun _ => .op [] false (fun _ => fPtr tUsage_text y2) (fun _ => []), fun _ => .op [] false (fun _ => fPtr tUsage_text y2) (fun _ => []), fun _ => .op [] false (fun _ => fPtr tUsage_text y2) (fun _ => []), fun _ => .op [] false (fun _ => fPtr (tSl (tInt .i64)) y2.heads) (fun _ => []), fun _ => .op [] false (fun _ => fSl (tInt .i64) y2.heads) (fun _ => []), fun _ => .op [] false (fun _ => fInt .i64 x8) (fun _ => []), fun _ => .op [] false (fun _ => fPtr (tInt .i64) y8) (fun _ => []), fun _ => .op [] false (fun _ => fInt .i64 y8) (fun _ => []), fun _ => .op [] false (fun _ => fPtr tUsage_text y2) (fun _ => []), fun _ => .op [] false (fun _ => fInt .i64 x8) (fun _ => []), fun _ => .op [] false (fun _ => fInt .i64 x13) (fun _ => []), fun _ => .op [] true (fun _ => fInt .i64 y9) (fun _ => []), fun _ => .op [] true (fun _ => fInt .i64 y10) (fun _ => []), fun _ => .op [] false (fun _ => fBool (decide (y10 = 1))) (fun _ => []), fun _ => .op [] false (fun _ => fBool (decide (y10 = 1))) (fun _ => [])] [([], false, []), ([], false, []), ([], false, []), ([], false, []), ([], false, []), ([], false, []), ([], false, []), ([], false, []), ([], false, []), ([], false, []), ([], false, []), ([], false, []), ([], false, []), ([], false, []), ([], true, []), ([], true, []), ([], false, []), ([], false, [])] 0 3 mixed (F0 (F0 (F0 (F0 (F0 (F0 (F0 (F0 (F0 (F0 (F0 (F0 (F0 (F0 (F0 (F0 (F0 (F0 FitsL.nil)))))))))))))))))) (by kernel_rfl) rfl rfl (by kernel_rfl) rfl ?_
         dsimp only [netL, List.take, List.replicate, List.append, List.drop]
         refine My (h := o_move rfl hh) (k := fun _ => ?_)
         refine My (h := o_eql rfl hh hh) (k := fun _ => ?_)
         refine My (h := o_move rfl hh) (k := fun _ => ?_)
         refine N_y (φ := fPtr tUsage_text y2) rfl (fun _ => rfl) ⟨_, _, rfl, rfl, c5⟩ rfl (o_move rfl (has rfl)) (fun _ => ?_)
         refine N_y (φ := fPtr tUsage_text y2) rfl (fun _ => rfl) ⟨_, _, rfl, rfl, c5⟩ rfl (o_move rfl (has rfl)) (fun _ => ?_)
         refine N_y (φ := fPtr tUsage_text y2) rfl (fun _ => rfl) ⟨_, _, rfl, rfl, c5⟩ rfl (o_nilCheck rfl (has rfl) (fun m v ⟨p, h, _⟩ => ⟨p, h⟩)) (fun _ => ?_)
         refine N_y (φ := fPtr (tSl (tInt .i64)) y2.heads) rfl (fun _ => rfl) ⟨_, _, rfl, rfl, c5⟩ rfl (o_field (t' := (tSl (tInt .i64))) (z := y2.heads) rfl (has rfl) ty_fa_79_3 rfl) (fun _ => ?_)
         refine N_y (φ := fSl (tInt .i64) y2.heads) rfl (fun _ => rfl) ⟨_, _, rfl, rfl, c5⟩ rfl (o_load rfl (has rfl) ty_sc_46 rfl) (fun _ => ?_)
         refine N_y (φ := fInt .i64 x8) rfl (fun _ => rfl) ⟨_, _, rfl, rfl, c5⟩ rfl (o_move rfl (has rfl)) (fun _ => ?_)
         refine N_y (φ := fPtr (tInt .i64) y8) rfl (fun _ => rfl) ⟨_, _, rfl, rfl, c5⟩ rfl (o_index rfl (has rfl) (has rfl) ty_el_46 h8) (fun _ => ?_)
         refine N_y (φ := fInt .i64 y8) rfl (fun _ => rfl) ⟨_, _, rfl, rfl, c5⟩ rfl (o_load rfl (has rfl) ty_sc_3 rfl) (fun _ => ?_)
         refine N_y (φ := fPtr tUsage_text y2) rfl (fun _ => rfl) ⟨_, _, rfl, rfl, c5⟩ rfl (o_move rfl (has rfl)) (fun _ => ?_)
         refine N_y (φ := fInt .i64 x8) rfl (fun _ => rfl) ⟨_, _, rfl, rfl, c5⟩ rfl (o_move rfl (has rfl)) (fun _ => ?_)
         refine N_y (φ := fInt .i64 x13) rfl (fun _ => rfl) ⟨_, _, rfl, rfl, c5⟩ rfl (o_move rfl (has rfl)) (fun _ => ?_)
         refine N_call (Φ := fInt .i64 y9) rfl (fun _ => rfl) ⟨_, _, rfl, rfl, c5⟩ rfl rfl (has rfl) (HasL.cons (has rfl) (HasL.cons (has rfl) (HasL.cons (has rfl) HasL.nil))) rfl ty_cb_28 (usage_text_place_w y2 x8 x13 y9 h9) (fun _ => ?_)
         refine N_call (Φ := fInt .i64 y10) rfl (fun _ => rfl) ⟨_, _, rfl, rfl, c5⟩ rfl rfl (has rfl) (HasL.cons (has rfl) (HasL.cons (has rfl) (HasL.cons (has rfl) HasL.nil))) rfl ty_cb_27 (usage_text_begun_w fuel y2 y8 y9 y10 h10) (fun _ => ?_)
         refine N_y (φ := fBool (decide (y10 = 1))) rfl (fun _ => rfl) ⟨_, _, rfl, rfl, c5⟩ rfl (o_eql rfl (has rfl) (has rfl)) (fun _ => ?_)
         refine My (h := o_pick_t rfl hh c5 hh) (k := fun _ => ?_)
         refine N_done rfl ?_
         refine Nn ?_
         revert H; refine is (fun c6 H => ?_) fun c6 H => ?_
         ·
          refine T_cond_t (has rfl) c6 ?_
          refine T_region ?_
          refine Ym ?_
          refine Ym ?_
          revert H; refine bs fun y11 h11 H => ?_
          refine Yo 1 rfl (o_indexG rfl hh hh ty_el_27 h11) ?_
          refine Yy (o_fieldR 0 rfl hh ty_fa_40_0 rfl) ?_
          refine Yo 1 rfl (o_loadH rfl rfl hh ty_sc_37 (idx_get h11) rfl) ?_
          refine Ym ?_
          revert H; refine bs fun y12 h12 H => ?_
          refine Yo 2 rfl (o_indexR rfl hh hh ty_el_37 h12) ?_
          refine T_fr2 ?_
          refine T_storeR (z' := 2) trivial rfl rfl rfl (has rfl) (has rfl) (leaf_eq trivial) ty_sz_41 (idx_get h12) rfl rfl ?_
          refine T_nil ?_
          refine T_in_n ?_
          refine T_then_n ?_
          refine T_pick [1, 2, 0] (by decide) ?_
          exact T_meet (x12.set x13.toNat 2) (Option.some.inj H).symm (Sc (Sc (Sc (Sc (Sc (Sc (Sc (Sc SubT.nil)))))))) rfl
         ·
          refine T_cond_f (has rfl) c6 ?_
          refine T_skip ?_
          refine T_in_n ?_
          refine T_then_n ?_
          exact T_meet (x12) (Option.some.inj H).symm (Sc (Sc (Sc (Sc (Sc (Sc (Sc (Sc SubT.nil)))))))) rfl
        ·
         refine T_net 18 [fun _ => .op [] false (fun _ => fInt .i64 y7) (fun _ => []), fun _ => .op [] false (fun _ => fBool (decide (y7 = 3))) (fun _ => []), fun _ => .op [] false (fun _ => fBool (decide (y7 = 3))) (fun _ => []), fun _ => .skip, fun _ => .skip, fun _ => .skip, fun _ => .skip, fun _ => .skip, fun _ => .skip, fun _ => .skip, fun _ => .skip, fun _ => .skip, fun _ => .skip, fun _ => .skip, fun _ => .skip, fun _ => .skip, fun _ => .skip, fun _ => .op [] false (fun _ => fBool false) (fun _ => [])] [([], false, []), ([], false, []), ([], false, []), ([], false, []), ([], false, []), ([], false, []), ([], false, []), ([], false, []), ([], false, []), ([], false, []), ([], false, []), ([], false, []), ([], false, []), ([], false, []), ([], false, []), ([], false, []), ([], false, []), ([], false, [])] 0 3 mixed (F0 (F0 (F0 (F0 (F0 (F0 (F0 (F0 (F0 (F0 (F0 (F0 (F0 (F0 (F0 (F0 (F0 (F0 FitsL.nil)))))))))))))))))) (by kernel_rfl) rfl rfl (by kernel_rfl) rfl ?_
         dsimp only [netL, List.take, List.replicate, List.append, List.drop]
         refine My (h := o_move rfl hh) (k := fun _ => ?_)
         refine My (h := o_eql rfl hh hh) (k := fun _ => ?_)
         refine My (h := o_move rfl hh) (k := fun _ => ?_)
         refine Ms (hc := ne_tf c5) (k := fun _ => ?_)
         refine Ms (hc := ne_tf c5) (k := fun _ => ?_)
         refine Ms (hc := ne_tf c5) (k := fun _ => ?_)
         refine Ms (hc := ne_tf c5) (k := fun _ => ?_)
         refine Ms (hc := ne_tf c5) (k := fun _ => ?_)
         refine Ms (hc := ne_tf c5) (k := fun _ => ?_)
         refine Ms (hc := ne_tf c5) (k := fun _ => ?_)
         refine Ms (hc := ne_tf c5) (k := fun _ => ?_)
         refine Ms (hc := ne_tf c5) (k := fun _ => ?_)
         refine Ms (hc := ne_tf c5) (k := fun _ => ?_)
         refine Ms (hc := ne_tf c5) (k := fun _ => ?_)
         refine Ms (hc := ne_tf c5) (k := fun _ => ?_)
         refine Ms (hc := ne_tf c5) (k := fun _ => ?_)
         refine Ms (hc := ne_tf c5) (k := fun _ => ?_)
         refine My (h := o_pick_f rfl hh c5 hh) (k := fun _ => ?_)
         refine N_done rfl ?_
         refine Nn ?_
         refine T_cond_f (has rfl) rfl ?_
         refine T_skip ?_
         refine T_in_n ?_
         refine T_then_n ?_
         exact T_meet (x12) (Option.some.inj H).symm (Sc (Sc (Sc (Sc (Sc (Sc (Sc (Sc SubT.nil)))))))) rfl
       ·
        clear H; intro x14 hi; subst o4; have H := Hr4; clear Hr4; try dsimp only at H
        show T β _ _ [(4, fPtr tUsage_text y2), (5, fEq v2), (25, fInt .i64 (x1.length : Int)), (26, fInt .i64 x8), (7, fInt .i64 x8), (33, fEq v6), (34, fInt .i64 (y6.Chans.length : Int)), (35, fInt .i64 x13)] [tBlk b1 26 [fSl tStr a0.Free, fSl tScopeNode a0.Nodes, fSl tScopeDef a0.Defs, fInt .i64 a0.Main], tHole v2 40 oUsageDef x7 (x8.toNat * OTy.sz oUsageDef + 0) v6, tRow v6 41 (tInt .i64) x14] _
        refine T_region ?_
        revert H; refine bs fun z1 h13 H => ?_
        refine Yy (o_add rfl hh hh h13) ?_
        refine Ym ?_
        refine Nn ?_
        exact T_meet ((k3, x14, z1)) ⟨H, Nat.lt_succ_self _⟩ (Sc (Sc (Sc (Sc (Sc (Sc (Sc (Sc SubT.nil)))))))) rfl
      ·
       refine T_cond_f (has rfl) c4 ?_
       refine T_exit ?_
       refine T_then_exit ?_
       refine T_then_exit ?_
       refine T_in_hit ?_
       refine T_in_n ?_
       refine T_then_n ?_
       refine T_fr1 ?_
       refine T_fr2 ?_
       refine T_closeD (o := oUsageDef) (i := x8.toNat) (k := 0) (y := y6) (y' := { y6 with Chans := x12 }) (f := (fun v => tRow v 41 (tInt .i64) x12)) (hf := (fun _ => row_isCell)) (idx_get h6) rfl rfl ?_
       refine T_pick [1, 0] (by decide) ?_
       exact T_meet (x7.set x8.toNat ({ y6 with Chans := x12 })) (Option.some.inj H).symm (Sc (Sc (Sc (Sc SubT.nil)))) rfl
     ·
      clear H; intro x9 hi; subst o3; have H := Hr3; clear Hr3; try dsimp only at H
      show T β _ _ [(4, fPtr tUsage_text y2), (5, fEq v2), (25, fInt .i64 (x1.length : Int)), (26, fInt .i64 x8)] [tBlk b1 26 [fSl tStr a0.Free, fSl tScopeNode a0.Nodes, fSl tScopeDef a0.Defs, fInt .i64 a0.Main], tRowD v2 40 oUsageDef x9] _
      refine T_region ?_
      revert H; refine bs fun z2 h14 H => ?_
      refine Yy (o_add rfl hh hh h14) ?_
      refine Ym ?_
      refine Nn ?_
      exact T_meet ((k2, x9, z2)) ⟨H, Nat.lt_succ_self _⟩ (Sc (Sc (Sc (Sc SubT.nil)))) rfl
    ·
     refine T_cond_f (has rfl) c3 ?_
     refine T_exit ?_
     refine T_then_exit ?_
     refine T_then_exit ?_
     refine T_in_hit ?_
     refine T_then_n ?_
     exact T_meet (x7) (Option.some.inj H).symm (Sc SubT.nil) rfl
   ·
    clear H; intro x4 hi; subst o2; have H := Hr2; clear Hr2; try dsimp only at H
    show T β _ _ [(5, fEq v2)] [tBlk b1 26 [fSl tStr a0.Free, fSl tScopeNode a0.Nodes, fSl tScopeDef a0.Defs, fInt .i64 a0.Main], tRowD v2 40 oUsageDef x4] _
    refine Sr ?_
    refine Ym ?_
    refine Ya ?_
    refine Ya ?_
    refine Nn ?_
    refine T_retc ?_
    refine T_ng_ret ?_
    cases H
    refine T_pick [1] (by decide) ?_
    exact T_outW2 rfl (hasS rfl) (hasS rfl) (AsmL.own (AsmL.pure Ent.rfl (leaf_eq trivial) AsmL.nil))
theorem usage_Table_d (fuel : Nat)  (a0 : ScopeProg) (r : (List UsageDef) × Int) (H : usage_Table_S fuel a0 = some r) : FnS Try.prog 8 [fSt tScopeProg a0] [] (fTup [fSl tUsageDef r.1, fInt .i64 r.2]) (fun _ => []) := (usage_Table_w fuel a0 r H).frz (fun v => frz_wrap (FrzL.cons (fun v => (frz_rowD rfl frzo_UsageDef)) (FrzL.cons (fun v => frz_pure v) FrzL.nil)))
def usage_text_fine_1_S (a0 : Int) (a1 : Int) (a2 : Bool) : Option (Bool) :=
 (if 1 ≤ a0 then
  if a0 ≤ 4 then
   bif a2 then
    some true
   else
    some (decide (a0 ≠ 2))
  else
   some false
 else
  some false).bind fun x1 =>
 some x1
theorem usage_text_fine_1_w  (a0 : Int) (a1 : Int) (a2 : Bool) (r : Bool) (H : usage_text_fine_1_S a0 a1 a2 = some r) : FnS Try.prog 57 [fInt .i64 a0, fInt .i64 a1, fBool a2] [] (fBool r) (fun _ => []) := by
 unfold usage_text_fine_1_S at H
 refine FnS_of Try.func57 rfl Try.ntmps57 rfl (fun β => ?_)
 refine Sr ?_
 refine Ya ?_
 refine Nn ?_
 revert H; refine bs fun o1 H Hr1 => ?_
 refine T_seqJ (ι := Bool) (fun i => o1 = i) (fun i => [(6, fBool i)]) (fun i => []) ?_ ?_
 ·
  refine T_region ?_
  refine Ym ?_
  refine Yy (o_geq rfl hh hh) ?_
  refine Ym ?_
  revert H; refine is (fun c1 H => ?_) fun c1 H => ?_
  ·
   refine Yg c1 (o_move rfl hh) ?_
   refine Yg c1 (o_leq rfl hh hh) ?_
   refine Yy (o_pick_t rfl hh c1 hh) ?_
   refine Ym ?_
   revert H; refine is (fun c2 H => ?_) fun c2 H => ?_
   ·
    refine Yg c2 (o_move rfl hh) ?_
    refine Yg c2 (o_move rfl hh) ?_
    revert H; refine cs (fun c3 H => ?_) fun c3 H => ?_
    ·
     refine Yt c3 ?_
     refine Yt c3 ?_
     refine Yg c2 (o_pick_t rfl hh c3 hh) ?_
     refine Yy (o_pick_t rfl hh c2 hh) ?_
     refine Ya ?_
     refine Nn ?_
     exact T_meet (true) (Option.some.inj H).symm (Sc SubT.nil) rfl
    ·
     refine Yg c3 (o_move rfl hh) ?_
     refine Yg c3 (o_neq rfl hh hh) ?_
     refine Yg c2 (o_pick_f rfl hh c3 hh) ?_
     refine Yy (o_pick_t rfl hh c2 hh) ?_
     refine Ya ?_
     refine Nn ?_
     exact T_meet (decide (a0 ≠ 2)) (Option.some.inj H).symm (Sc SubT.nil) rfl
   ·
    refine Yf c2 ?_
    refine Yf c2 ?_
    refine T_skipop (⟨_, _, _, _, rfl, rfl, rfl, nu⟩) rfl rfl ?_
    refine T_skipop (⟨_, _, _, _, rfl, rfl, rfl, nu⟩) rfl rfl ?_
    refine Yf c2 ?_
    refine Yy (o_pick_f rfl hh c2 hh) ?_
    refine Ya ?_
    refine Nn ?_
    exact T_meet (false) (Option.some.inj H).symm (Sc SubT.nil) rfl
  ·
   refine Yf c1 ?_
   refine Yf c1 ?_
   refine Yy (o_pick_f rfl hh c1 hh) ?_
   refine Ym ?_
   refine Yd ?_
   refine Yd ?_
   refine T_skipop (⟨_, _, _, _, rfl, rfl, rfl, nu⟩) rfl rfl ?_
   refine T_skipop (⟨_, _, _, _, rfl, rfl, rfl, nu⟩) rfl rfl ?_
   refine Yd ?_
   refine Yy (o_pick_f rfl hh rfl hh) ?_
   refine Ya ?_
   refine Nn ?_
   exact T_meet (false) (Option.some.inj H).symm (Sc SubT.nil) rfl
 ·
  clear H; intro x1 hi; subst o1; have H := Hr1; clear Hr1; try dsimp only at H
  show T β _ _ [(6, fBool x1)] [] _
  refine T_retc ?_
  cases H
  exact T_out1 rfl (hasS rfl) rfl
end Go.Proofs.Ytmnbfgeljmhekaa
set_option maxRecDepth 100000
set_option maxHeartbeats 2000000
namespace Go.Proofs.Ytmnbfgeljmhekaa
open Go.SX Go.SW Go.Dt
def usage_text_fine_l2 (y1 : ScopeDef) (y2 : UsageDef) : Nat → Int → Option ((Unit) ⊕ ((Unit) ⊕ (Bool)))
| 0, _ => none
| k + 1, x4 =>
 if x4 < (y2.Args.length : Int) then
  (idx y2.Args x4).bind fun y3 =>
  (idx y1.Chans x4).bind fun y4 =>
  if (y3.length : Int) ≠ y4.Many then
   ((some false).bind fun r => some (Sum.inr r)).bind fun r => some (Sum.inr r)
  else
   (chk (x4 + 1)).bind fun z1 =>
   usage_text_fine_l2 y1 y2 k z1
 else
  some (Sum.inl ())
def usage_text_fine_l1 (fuel : Nat) (a0 : Usage_text) (a1 : List UsageDef) : Nat → Int → Option ((Unit) ⊕ (Bool))
| 0, _ => none
| k + 1, x2 =>
 if x2 < (a0.ScopeProg.Defs.length : Int) then
  ((idx a0.ScopeProg.Defs x2).bind fun y1 =>
  (idx a1 x2).bind fun y2 =>
  if (y2.Chans.length : Int) ≠ (y1.Chans.length : Int) then
   ((some false).bind fun r => some (Sum.inr r)).bind fun r => some (Sum.inr r)
  else
   if (y2.Rules.length : Int) ≠ (y1.Rules.length : Int) then
    ((some false).bind fun r => some (Sum.inr r)).bind fun r => some (Sum.inr r)
   else
    if (y2.Args.length : Int) ≠ (y1.Chans.length : Int) then
     ((some false).bind fun r => some (Sum.inr r)).bind fun r => some (Sum.inr r)
    else
     usage_text_fine_l2 y1 y2 fuel 0).bind fun o => match o with
  | Sum.inr r => some r
  | Sum.inl _ =>
  (chk (x2 + 1)).bind fun z2 =>
  usage_text_fine_l1 fuel a0 a1 k z2
 else
  some (Sum.inl ())
def usage_text_fine_S (fuel : Nat) (a0 : Usage_text) (a1 : List UsageDef) : Option (Bool) :=
 if (a1.length : Int) ≠ (a0.ScopeProg.Defs.length : Int) then
  some false
 else
  (usage_text_fine_l1 fuel a0 a1 fuel 0).bind fun o => match o with
  | Sum.inr r => some r
  | Sum.inl _ =>
  (usage_kinds_S fuel a1 a1 (fun x => usage_text_fine_1_S x.1 x.2.1 x.2.2)).bind fun y5 =>
  some y5
theorem usage_text_fine_w (fuel : Nat)  (a0 : Usage_text) (a1 : List UsageDef) (r : Bool) (H : usage_text_fine_S fuel a0 a1 = some r) : FnS Try.prog 29 [fPtr tUsage_text a0, fSl tUsageDef a1] [] (fBool r) (fun _ => []) := by
 unfold usage_text_fine_S at H
 refine FnS_of Try.func29 rfl Try.ntmps29 rfl (fun β => ?_)
 refine Sr ?_
 refine Ya ?_
 refine Nn ?_
 refine T_seq ?_
 refine Sr ?_
 refine Ym ?_
 refine Yy (o_len rfl hh ty_us_27) ?_
 refine Ym ?_
 refine Yy (o_nilCheck rfl (has rfl) (fun m v ⟨p, h, _⟩ => ⟨p, h⟩)) ?_
 refine Yy (o_field (t' := tScopeProg) (z := a0.ScopeProg) rfl hh ty_fa_79_0 rfl) ?_
 refine Yy (o_field (t' := (tSl tScopeDef)) (z := a0.ScopeProg.Defs) rfl hh ty_fa_26_2 rfl) ?_
 refine Yy (o_load rfl hh ty_sc_24 rfl) ?_
 refine Yy (o_len rfl hh ty_us_24) ?_
 refine Yy (o_neq rfl hh hh) ?_
 refine Nn ?_
 revert H; refine is (fun c1 H => ?_) fun c1 H => ?_
 ·
  refine T_cond_t (has rfl) c1 ?_
  refine Sr ?_
  refine Ya ?_
  refine Nn ?_
  refine Rr ?_
  cases H
  exact T_out1 rfl (hasS rfl) rfl
 ·
  refine T_cond_f (has rfl) c1 ?_
  refine T_skip ?_
  refine T_then_n ?_
  revert H; refine bs fun o1 H Hr1 => ?_
  refine T_seqJ (ι := Unit) (fun i => o1 = Sum.inl ()) (fun i => [(1, fSl tUsageDef a1)]) (fun i => []) ?_ ?_
  ·
   refine Sr ?_
   refine Ym ?_
   refine Yy (o_nilCheck rfl (has rfl) (fun m v ⟨p, h, _⟩ => ⟨p, h⟩)) ?_
   refine Yy (o_field (t' := tScopeProg) (z := a0.ScopeProg) rfl hh ty_fa_79_0 rfl) ?_
   refine Yy (o_field (t' := (tSl tScopeDef)) (z := a0.ScopeProg.Defs) rfl hh ty_fa_26_2 rfl) ?_
   refine Yy (o_load rfl hh ty_sc_24 rfl) ?_
   refine Yy (o_len rfl hh ty_us_24) ?_
   refine Ym ?_
   refine Nn ?_
   refine T_block ?_
   refine T_loop (ι := Nat × Int) (fun i => usage_text_fine_l1 fuel a0 a1 i.1 i.2 = _) (fun i => i.1) (fun i => [(1, fSl tUsageDef a1), (23, fSl tScopeDef a0.ScopeProg.Defs), (24, fInt .i64 (a0.ScopeProg.Defs.length : Int)), (25, fInt .i64 i.2)]) (fun i => []) (fuel, 0) H (Sc (Sc (Sc (Sc SubT.nil)))) rfl ?_
   clear H; rintro ⟨k1, x2⟩ H
   replace H : usage_text_fine_l1 fuel a0 a1 k1 x2 = _ := H
   show T β _ _ [(1, fSl tUsageDef a1), (23, fSl tScopeDef a0.ScopeProg.Defs), (24, fInt .i64 (a0.ScopeProg.Defs.length : Int)), (25, fInt .i64 x2)] [] _
   obtain _ | k1 := k1
   ·
    rw [usage_text_fine_l1] at H; cases H
   rw [usage_text_fine_l1] at H
   refine Sr ?_
   refine Yy (o_lss rfl hh hh) ?_
   refine Nn ?_
   refine T_seq ?_
   revert H; refine is (fun c2 H => ?_) fun c2 H => ?_
   ·
    refine T_cond_t (has rfl) c2 ?_
    refine T_skip ?_
    refine T_then_n ?_
    revert H; refine bs fun o2 H Hr2 => ?_
    refine T_seqJ (ι := Unit) (fun i => o2 = Sum.inl ()) (fun i => [(1, fSl tUsageDef a1), (23, fSl tScopeDef a0.ScopeProg.Defs), (24, fInt .i64 (a0.ScopeProg.Defs.length : Int)), (25, fInt .i64 x2)]) (fun i => []) ?_ ?_
    ·
     refine T_block ?_
     refine Sr ?_
     refine Ym ?_
     revert H; refine bs fun y1 h1 H => ?_
     refine Yy (o_index rfl hh hh ty_el_24 h1) ?_
     refine Yy (o_loadS rfl hh ty_ag_52) ?_
     refine T_new trivial rfl rfl (n_alloc rfl ty_ze_52 rfl) (fun b1 => ?_)
     refine Ya ?_
     refine T_storeS (φs' := [fSl tScopeChan y1.Chans, fSl tScopeSpot y1.Spots, fSl tScopeRule y1.Rules]) trivial rfl rfl (has rfl) (has rfl) (ll_cons (leaf_sl) (ll_cons (leaf_sl) (ll_cons (leaf_sl) ll_nil))) ty_sz_52 rfl rfl rfl ?_
     refine Nn ?_
     refine Sr ?_
     refine Ym ?_
     refine Ym ?_
     revert H; refine bs fun y2 h2 H => ?_
     refine Yy (o_index rfl hh hh ty_el_27 h2) ?_
     refine Yy (o_loadS rfl hh ty_ag_40) ?_
     refine T_new trivial rfl rfl (n_alloc rfl ty_ze_40 rfl) (fun b2 => ?_)
     refine T_storeS (φs' := [fSl (tInt .i64) y2.Chans, fSl (tInt .i64) y2.Rules, fSl (tSl (tInt .i64)) y2.Args]) trivial rfl rfl (has rfl) (has rfl) (ll_cons (leaf_sl) (ll_cons (leaf_sl) (ll_cons (leaf_sl) ll_nil))) ty_sz_40 rfl rfl rfl ?_
     refine Nn ?_
     refine T_seq ?_
     refine Sr ?_
     refine Yy (o_fieldB 0 rfl hh ty_fa_40_0 rfl) ?_
     refine Yo 0 rfl (o_loadB rfl hh ty_sc_37 rfl Ent.rfl) ?_
     refine Yy (o_len rfl hh ty_us_37) ?_
     refine Yy (o_fieldB 0 rfl hh ty_fa_52_0 rfl) ?_
     refine Yo 1 rfl (o_loadB rfl hh ty_sc_45 rfl Ent.rfl) ?_
     refine Yy (o_len rfl hh ty_us_45) ?_
     refine Yy (o_neq rfl hh hh) ?_
     refine Ym ?_
     revert H; refine is (fun c3 H => ?_) fun c3 H => ?_
     ·
      refine Yt c3 ?_
      refine Yt c3 ?_
      refine Yt c3 ?_
      refine Yt c3 ?_
      refine Yt c3 ?_
      refine Yt c3 ?_
      refine Yt c3 ?_
      refine Yy (o_pick_t rfl hh c3 hh) ?_
      refine Ym ?_
      refine Yd ?_
      refine Yd ?_
      refine Yd ?_
      refine Yd ?_
      refine Yd ?_
      refine Yd ?_
      refine Yd ?_
      refine Yy (o_pick_t rfl hh rfl hh) ?_
      refine Nn ?_
      refine T_cond_t (has rfl) rfl ?_
      refine Sr ?_
      refine Ya ?_
      refine Nn ?_
      refine Rr ?_
      refine T_in_ret ?_
      refine T_then_ret ?_
      revert H; refine bs fun r1 H e1 => ?_
      have e1 := Option.some.inj e1; subst e1; have Hr2 := Option.some.inj Hr2; subst Hr2
      refine T_then_ret ?_
      refine T_in_ret ?_
      refine T_then_ret ?_
      revert H; refine bs fun r2 H e2 => ?_
      have e2 := Option.some.inj e2; subst e2; have Hr1 := Option.some.inj Hr1; subst Hr1
      cases H
      refine T_pick [] (by decide) ?_
      exact T_out1 rfl (hasS rfl) rfl
     ·
      refine Yg c3 (o_fieldB 1 rfl hh ty_fa_40_1 rfl) ?_
      refine Yh 0 rfl c3 (o_loadB rfl hh ty_sc_37 rfl Ent.rfl) ?_
      refine Yg c3 (o_len rfl hh ty_us_37) ?_
      refine Yg c3 (o_fieldB 2 rfl hh ty_fa_52_2 rfl) ?_
      refine Yh 1 rfl c3 (o_loadB rfl hh ty_sc_49 rfl Ent.rfl) ?_
      refine Yg c3 (o_len rfl hh ty_us_49) ?_
      refine Yg c3 (o_neq rfl hh hh) ?_
      refine Yy (o_pick_f rfl hh c3 hh) ?_
      refine Ym ?_
      revert H; refine is (fun c4 H => ?_) fun c4 H => ?_
      ·
       refine Yt c4 ?_
       refine Yt c4 ?_
       refine Yt c4 ?_
       refine Yt c4 ?_
       refine Yt c4 ?_
       refine Yt c4 ?_
       refine Yt c4 ?_
       refine Yy (o_pick_t rfl hh c4 hh) ?_
       refine Nn ?_
       refine T_cond_t (has rfl) rfl ?_
       refine Sr ?_
       refine Ya ?_
       refine Nn ?_
       refine Rr ?_
       refine T_in_ret ?_
       refine T_then_ret ?_
       revert H; refine bs fun r3 H e3 => ?_
       have e3 := Option.some.inj e3; subst e3; have Hr2 := Option.some.inj Hr2; subst Hr2
       refine T_then_ret ?_
       refine T_in_ret ?_
       refine T_then_ret ?_
       revert H; refine bs fun r4 H e4 => ?_
       have e4 := Option.some.inj e4; subst e4; have Hr1 := Option.some.inj Hr1; subst Hr1
       cases H
       refine T_pick [] (by decide) ?_
       exact T_out1 rfl (hasS rfl) rfl
      ·
       refine Yg c4 (o_fieldB 2 rfl hh ty_fa_40_2 rfl) ?_
       refine Yh 0 rfl c4 (o_loadB rfl hh ty_sc_38 rfl Ent.rfl) ?_
       refine Yg c4 (o_len rfl hh ty_us_38) ?_
       refine Yg c4 (o_fieldB 0 rfl hh ty_fa_52_0 rfl) ?_
       refine Yh 1 rfl c4 (o_loadB rfl hh ty_sc_45 rfl Ent.rfl) ?_
       refine Yg c4 (o_len rfl hh ty_us_45) ?_
       refine Yg c4 (o_neq rfl hh hh) ?_
       refine Yy (o_pick_f rfl hh c4 hh) ?_
       refine Nn ?_
       revert H; refine is (fun c5 H => ?_) fun c5 H => ?_
       ·
        refine T_cond_t (has rfl) c5 ?_
        refine Sr ?_
        refine Ya ?_
        refine Nn ?_
        refine Rr ?_
        refine T_in_ret ?_
        refine T_then_ret ?_
        revert H; refine bs fun r5 H e5 => ?_
        have e5 := Option.some.inj e5; subst e5; have Hr2 := Option.some.inj Hr2; subst Hr2
        refine T_then_ret ?_
        refine T_in_ret ?_
        refine T_then_ret ?_
        revert H; refine bs fun r6 H e6 => ?_
        have e6 := Option.some.inj e6; subst e6; have Hr1 := Option.some.inj Hr1; subst Hr1
        cases H
        refine T_pick [] (by decide) ?_
        exact T_out1 rfl (hasS rfl) rfl
       ·
        refine T_cond_f (has rfl) c5 ?_
        refine T_skip ?_
        refine T_then_n ?_
        refine Sr ?_
        refine Yy (o_fieldB 2 rfl hh ty_fa_40_2 rfl) ?_
        refine Yo 0 rfl (o_loadB rfl hh ty_sc_38 rfl Ent.rfl) ?_
        refine Yy (o_len rfl hh ty_us_38) ?_
        refine Ym ?_
        refine Nn ?_
        refine T_block ?_
        refine T_loop (ι := Nat × Int) (fun i => usage_text_fine_l2 y1 y2 i.1 i.2 = _) (fun i => i.1) (fun i => [(1, fSl tUsageDef a1), (23, fSl tScopeDef a0.ScopeProg.Defs), (24, fInt .i64 (a0.ScopeProg.Defs.length : Int)), (25, fInt .i64 x2), (6, fEq (.pointer (some ⟨b1, 0, none⟩))), (60, fSl (tSl (tInt .i64)) y2.Args), (61, fInt .i64 (y2.Args.length : Int)), (62, fInt .i64 i.2)]) (fun i => [tBlk b2 40 [fSl (tInt .i64) y2.Chans, fSl (tInt .i64) y2.Rules, fSl (tSl (tInt .i64)) y2.Args], tBlk b1 52 [fSl tScopeChan y1.Chans, fSl tScopeSpot y1.Spots, fSl tScopeRule y1.Rules]]) (fuel, 0) H (Sc (Sc (Sc (Sc (Sc (Sc (Sc (Sc SubT.nil)))))))) rfl ?_
        clear H; rintro ⟨k2, x4⟩ H
        replace H : usage_text_fine_l2 y1 y2 k2 x4 = _ := H
        show T β _ _ [(1, fSl tUsageDef a1), (23, fSl tScopeDef a0.ScopeProg.Defs), (24, fInt .i64 (a0.ScopeProg.Defs.length : Int)), (25, fInt .i64 x2), (6, fEq (.pointer (some ⟨b1, 0, none⟩))), (60, fSl (tSl (tInt .i64)) y2.Args), (61, fInt .i64 (y2.Args.length : Int)), (62, fInt .i64 x4)] [tBlk b2 40 [fSl (tInt .i64) y2.Chans, fSl (tInt .i64) y2.Rules, fSl (tSl (tInt .i64)) y2.Args], tBlk b1 52 [fSl tScopeChan y1.Chans, fSl tScopeSpot y1.Spots, fSl tScopeRule y1.Rules]] _
        obtain _ | k2 := k2
        ·
         rw [usage_text_fine_l2] at H; cases H
        rw [usage_text_fine_l2] at H
        refine Sr ?_
        refine Yy (o_lss rfl hh hh) ?_
        refine Nn ?_
        refine T_seq ?_
        revert H; refine is (fun c6 H => ?_) fun c6 H => ?_
        ·
         refine T_cond_t (has rfl) c6 ?_
         refine T_skip ?_
         refine T_then_n ?_
         refine T_seq ?_
         refine T_block ?_
         refine Sr ?_
         refine Ym ?_
         revert H; refine bs fun y3 h3 H => ?_
         refine Yy (o_index rfl hh hh ty_el_38 h3) ?_
         refine Yy (o_load rfl hh ty_sc_37 rfl) ?_
         refine Ya ?_
         refine Ya ?_
         refine Nn ?_
         refine Sr ?_
         refine Ym ?_
         refine Yy (o_len rfl hh ty_us_37) ?_
         refine Yy (o_fieldB 0 rfl hh ty_fa_52_0 rfl) ?_
         refine Yo 1 rfl (o_loadB rfl hh ty_sc_45 rfl Ent.rfl) ?_
         refine Ym ?_
         revert H; refine bs fun y4 h4 H => ?_
         refine Yy (o_index rfl hh hh ty_el_45 h4) ?_
         refine Yy (o_field (t' := (tInt .i64)) (z := y4.Many) rfl hh ty_fa_44_1 rfl) ?_
         refine Yy (o_load rfl hh ty_sc_3 rfl) ?_
         refine Yy (o_neq rfl hh hh) ?_
         refine Nn ?_
         revert H; refine is (fun c7 H => ?_) fun c7 H => ?_
         ·
          refine T_cond_t (has rfl) c7 ?_
          refine Sr ?_
          refine Ya ?_
          refine Nn ?_
          refine T_retc ?_
          refine T_in_ret ?_
          refine T_then_ret ?_
          refine T_then_ret ?_
          refine T_in_ret ?_
          refine T_in_ret ?_
          refine T_then_ret ?_
          revert H; refine bs fun r7 H e7 => ?_
          have e7 := Option.some.inj e7; subst e7; have Hr2 := Option.some.inj Hr2; subst Hr2
          refine T_then_ret ?_
          refine T_in_ret ?_
          refine T_then_ret ?_
          revert H; refine bs fun r8 H e8 => ?_
          have e8 := Option.some.inj e8; subst e8; have Hr1 := Option.some.inj Hr1; subst Hr1
          cases H
          refine T_pick [] (by decide) ?_
          exact T_out1 rfl (hasS rfl) rfl
         ·
          refine T_cond_f (has rfl) c7 ?_
          refine T_skip ?_
          refine T_in_n ?_
          refine T_then_n ?_
          refine T_region ?_
          revert H; refine bs fun z1 h5 H => ?_
          refine Yy (o_add rfl hh hh h5) ?_
          refine Ym ?_
          refine Nn ?_
          exact T_meet ((k2, z1)) ⟨H, Nat.lt_succ_self _⟩ (Sc (Sc (Sc (Sc (Sc (Sc (Sc (Sc SubT.nil)))))))) rfl
        ·
         refine T_cond_f (has rfl) c6 ?_
         refine T_exit ?_
         refine T_then_exit ?_
         refine T_then_exit ?_
         refine T_in_hit ?_
         refine T_in_n ?_
         refine T_then_n ?_
         refine T_pick [] (by decide) ?_
         exact T_meet (()) (Option.some.inj H).symm (Sc (Sc (Sc (Sc SubT.nil)))) rfl
    ·
     clear H; intro i hi; subst o2; have H := Hr2; clear Hr2; try dsimp only at H
     show T β _ _ [(1, fSl tUsageDef a1), (23, fSl tScopeDef a0.ScopeProg.Defs), (24, fInt .i64 (a0.ScopeProg.Defs.length : Int)), (25, fInt .i64 x2)] [] _
     refine T_region ?_
     revert H; refine bs fun z2 h6 H => ?_
     refine Yy (o_add rfl hh hh h6) ?_
     refine Ym ?_
     refine Nn ?_
     exact T_meet ((k1, z2)) ⟨H, Nat.lt_succ_self _⟩ (Sc (Sc (Sc (Sc SubT.nil)))) rfl
   ·
    refine T_cond_f (has rfl) c2 ?_
    refine T_exit ?_
    refine T_then_exit ?_
    refine T_then_exit ?_
    refine T_in_hit ?_
    refine T_then_n ?_
    exact T_meet (()) (Option.some.inj H).symm (Sc SubT.nil) rfl
  ·
   clear H; intro i hi; subst o1; have H := Hr1; clear Hr1; try dsimp only at H
   show T β _ _ [(1, fSl tUsageDef a1)] [] _
   refine Sr ?_
   refine Ym ?_
   refine Ym ?_
   revert H; refine bs fun y5 h7 H => ?_
   refine T_call trivial rfl rfl rfl (has rfl) (HasL.cons (has rfl) (HasL.cons (has rfl) (HasL.cons (hasE rfl (ent_fn0 ty_cb_57 (fun x r hx => usage_text_fine_1_w x.1 x.2.1 x.2.2 r hx))) HasL.nil))) rfl ty_cb_25 (usage_kinds_w fuel a1 a1 (fun x => usage_text_fine_1_S x.1 x.2.1 x.2.2) y5 h7) rfl ?_
   refine Ya ?_
   refine Nn ?_
   refine T_retc ?_
   cases H
   exact T_out1 rfl (hasS rfl) rfl
def usage_Accepts_1_S (a0 : Int) (a1 : Int) (a2 : Bool) : Option (Bool) :=
 (usage_of_S a0).bind fun y1 =>
 (usage_of_S a1).bind fun y2 =>
 some (decide (y2 ≤ y1))
theorem usage_Accepts_1_w  (a0 : Int) (a1 : Int) (a2 : Bool) (r : Bool) (H : usage_Accepts_1_S a0 a1 a2 = some r) : FnS Try.prog 30 [fInt .i64 a0, fInt .i64 a1, fBool a2] [] (fBool r) (fun _ => []) := by
 unfold usage_Accepts_1_S at H
 refine FnS_of Try.func30 rfl Try.ntmps30 rfl (fun β => ?_)
 refine Sr ?_
 refine Ya ?_
 refine Nn ?_
 refine Sr ?_
 refine Ym ?_
 revert H; refine bs fun y1 h1 H => ?_
 refine T_call trivial rfl rfl rfl (has rfl) (HasL.cons (has rfl) HasL.nil) rfl ty_cb_31 (usage_of_w a0 y1 h1) rfl ?_
 refine Ym ?_
 revert H; refine bs fun y2 h2 H => ?_
 refine T_call trivial rfl rfl rfl (has rfl) (HasL.cons (has rfl) HasL.nil) rfl ty_cb_31 (usage_of_w a1 y2 h2) rfl ?_
 refine Yy (o_geq rfl hh hh) ?_
 refine Ya ?_
 refine Nn ?_
 refine T_retc ?_
 cases H
 exact T_out1 rfl (hasS rfl) rfl
def usage_Accepts_l2 (fuel : Nat) (y2 : Usage_text) (x2 : Int) (y6 : UsageDef) : Nat → Int → Option ((Unit) ⊕ ((Unit) ⊕ (Bool × Int)))
| 0, _ => none
| k + 1, x4 =>
 if x4 < (y6.Chans.length : Int) then
  ((idx y6.Chans x4).bind fun y7 =>
  if y7 = 2 then
   (idx y2.heads x2).bind fun y8 =>
   (usage_text_place_S y2 x2 x4).bind fun y9 =>
   (usage_text_begun_S fuel y2 y8 y9).bind fun y10 =>
   if y10 ≠ 1 then
    (((some (false, 0)).bind fun r => some (Sum.inr r)).bind fun r => some (Sum.inr r)).bind fun r => some (Sum.inr r)
   else
    some (Sum.inl ())
  else
   some (Sum.inl ())).bind fun o => match o with
  | Sum.inr r => some r
  | Sum.inl _ =>
  (chk (x4 + 1)).bind fun z1 =>
  usage_Accepts_l2 fuel y2 x2 y6 k z1
 else
  some (Sum.inl ())
def usage_Accepts_l1 (fuel : Nat) (a1 : List UsageDef) (y2 : Usage_text) : Nat → Int → Option ((Unit) ⊕ (Bool × Int))
| 0, _ => none
| k + 1, x2 =>
 if x2 < (a1.length : Int) then
  ((idx a1 x2).bind fun y6 =>
  usage_Accepts_l2 fuel y2 x2 y6 fuel 0).bind fun o => match o with
  | Sum.inr r => some r
  | Sum.inl _ =>
  (chk (x2 + 1)).bind fun z2 =>
  usage_Accepts_l1 fuel a1 y2 k z2
 else
  some (Sum.inl ())
def usage_Accepts_S (fuel : Nat) (a0 : ScopeProg) (a1 : List UsageDef) : Option (Bool × Int) :=
 (scope_Check_S fuel (⟨a0.Free, a0.Nodes, a0.Defs, a0.Main⟩ : ScopeProg)).bind fun y1 =>
 if y1 ≠ 0 then
  some (false, 2)
 else
  (usage_read_S fuel (⟨a0.Free, a0.Nodes, a0.Defs, a0.Main⟩ : ScopeProg)).bind fun y2 =>
  (usage_text_fine_S fuel y2 a1).bind fun y3 =>
  bif y3 then
   (usage_text_all_S fuel y2 a1).bind fun y4 =>
   (usage_kinds_S fuel a1 y4 (fun x => usage_Accepts_1_S x.1 x.2.1 x.2.2)).bind fun y5 =>
   bif y5 then
    (usage_Accepts_l1 fuel a1 y2 fuel 0).bind fun o => match o with
    | Sum.inr r => some r
    | Sum.inl _ =>
    some (true, 0)
   else
    some (false, 0)
  else
   some (false, 2)
theorem usage_Accepts_w (fuel : Nat)  (a0 : ScopeProg) (a1 : List UsageDef) (r : Bool × Int) (H : usage_Accepts_S fuel a0 a1 = some r) : FnS Try.prog 9 [fSt tScopeProg a0, fSl tUsageDef a1] [] (fTup [fBool r.1, fInt .i64 r.2]) (fun _ => []) := by
 unfold usage_Accepts_S at H
 refine FnS_of Try.func9 rfl Try.ntmps9 rfl (fun β => ?_)
 refine Sr ?_
 refine T_new trivial rfl rfl (n_box rfl (has rfl) part_agg) (fun b1 => ?_)
 refine Ya ?_
 refine Ya ?_
 refine Nn ?_
 refine T_seq ?_
 refine Sr ?_
 refine Yo 0 rfl (o_loadBS rfl hh ty_ag_26 rfl rfl) ?_
 revert H; refine bs fun y1 h1 H => ?_
 refine T_call trivial rfl rfl rfl (has rfl) (HasL.cons (has rfl) HasL.nil) rfl ty_cb_21 (scope_Check_w fuel (⟨a0.Free, a0.Nodes, a0.Defs, a0.Main⟩ : ScopeProg) y1 h1) rfl ?_
 refine Yy (o_neq rfl hh hh) ?_
 refine Nn ?_
 revert H; refine is (fun c1 H => ?_) fun c1 H => ?_
 ·
  refine T_cond_t (has rfl) c1 ?_
  refine Sr ?_
  refine Ya ?_
  refine Ya ?_
  refine Nn ?_
  refine Rr ?_
  cases H
  refine T_pick [] (by decide) ?_
  exact T_out2 rfl (hasS rfl) (hasS rfl) rfl
 ·
  refine T_cond_f (has rfl) c1 ?_
  refine T_skip ?_
  refine T_then_n ?_
  refine Sr ?_
  refine Yo 0 rfl (o_loadBS rfl hh ty_ag_26 rfl rfl) ?_
  revert H; refine bs fun y2 h2 H => ?_
  refine T_call trivial rfl rfl rfl (has rfl) (HasL.cons (has rfl) HasL.nil) rfl ty_cb_22 (usage_read_w fuel (⟨a0.Free, a0.Nodes, a0.Defs, a0.Main⟩ : ScopeProg) y2 h2) rfl ?_
  refine Ya ?_
  refine Nn ?_
  refine T_seq ?_
  refine Sr ?_
  refine Ym ?_
  refine Ym ?_
  revert H; refine bs fun y3 h3 H => ?_
  refine T_call trivial rfl rfl rfl (has rfl) (HasL.cons (has rfl) (HasL.cons (has rfl) HasL.nil)) rfl ty_cb_29 (usage_text_fine_w fuel y2 a1 y3 h3) rfl ?_
  refine Yy (o_not rfl hh) ?_
  refine Nn ?_
  revert H; refine cs (fun c2 H => ?_) fun c2 H => ?_
  ·
   refine T_cond_f (has rfl) (not_t c2) ?_
   refine T_skip ?_
   refine T_then_n ?_
   refine T_seq ?_
   refine Sr ?_
   refine Ym ?_
   refine Ym ?_
   refine Ym ?_
   revert H; refine bs fun y4 h4 H => ?_
   refine T_call trivial rfl rfl rfl (has rfl) (HasL.cons (has rfl) (HasL.cons (has rfl) HasL.nil)) rfl ty_cb_24 (usage_text_all_d fuel y2 a1 y4 h4) rfl ?_
   revert H; refine bs fun y5 h5 H => ?_
   refine T_call trivial rfl rfl rfl (has rfl) (HasL.cons (has rfl) (HasL.cons (has rfl) (HasL.cons (hasE rfl (ent_fn0 ty_cb_30 (fun x r hx => usage_Accepts_1_w x.1 x.2.1 x.2.2 r hx))) HasL.nil))) rfl ty_cb_25 (usage_kinds_w fuel a1 y4 (fun x => usage_Accepts_1_S x.1 x.2.1 x.2.2) y5 h5) rfl ?_
   refine Yy (o_not rfl hh) ?_
   refine Nn ?_
   revert H; refine cs (fun c3 H => ?_) fun c3 H => ?_
   ·
    refine T_cond_f (has rfl) (not_t c3) ?_
    refine T_skip ?_
    refine T_then_n ?_
    revert H; refine bs fun o1 H Hr1 => ?_
    refine T_seqJ (ι := Unit) (fun i => o1 = Sum.inl ()) (fun i => []) (fun i => [tBlk b1 26 [fSl tStr a0.Free, fSl tScopeNode a0.Nodes, fSl tScopeDef a0.Defs, fInt .i64 a0.Main]]) ?_ ?_
    ·
     refine Sr ?_
     refine Ym ?_
     refine Yy (o_len rfl hh ty_us_27) ?_
     refine Ym ?_
     refine Nn ?_
     refine T_block ?_
     refine T_loop (ι := Nat × Int) (fun i => usage_Accepts_l1 fuel a1 y2 i.1 i.2 = _) (fun i => i.1) (fun i => [(1, fSl tUsageDef a1), (6, fPtr tUsage_text y2), (26, fInt .i64 (a1.length : Int)), (27, fInt .i64 i.2)]) (fun i => [tBlk b1 26 [fSl tStr a0.Free, fSl tScopeNode a0.Nodes, fSl tScopeDef a0.Defs, fInt .i64 a0.Main]]) (fuel, 0) H (Sc (Sc (Sc (Sc SubT.nil)))) rfl ?_
     clear H; rintro ⟨k1, x2⟩ H
     replace H : usage_Accepts_l1 fuel a1 y2 k1 x2 = _ := H
     show T β _ _ [(1, fSl tUsageDef a1), (6, fPtr tUsage_text y2), (26, fInt .i64 (a1.length : Int)), (27, fInt .i64 x2)] [tBlk b1 26 [fSl tStr a0.Free, fSl tScopeNode a0.Nodes, fSl tScopeDef a0.Defs, fInt .i64 a0.Main]] _
     obtain _ | k1 := k1
     ·
      rw [usage_Accepts_l1] at H; cases H
     rw [usage_Accepts_l1] at H
     refine Sr ?_
     refine Yy (o_lss rfl hh hh) ?_
     refine Nn ?_
     refine T_seq ?_
     revert H; refine is (fun c4 H => ?_) fun c4 H => ?_
     ·
      refine T_cond_t (has rfl) c4 ?_
      refine T_skip ?_
      refine T_then_n ?_
      revert H; refine bs fun o2 H Hr2 => ?_
      refine T_seqJ (ι := Unit) (fun i => o2 = Sum.inl ()) (fun i => [(1, fSl tUsageDef a1), (6, fPtr tUsage_text y2), (26, fInt .i64 (a1.length : Int)), (27, fInt .i64 x2)]) (fun i => [tBlk b1 26 [fSl tStr a0.Free, fSl tScopeNode a0.Nodes, fSl tScopeDef a0.Defs, fInt .i64 a0.Main]]) ?_ ?_
      ·
       refine T_block ?_
       refine Sr ?_
       refine Ym ?_
       refine Ya ?_
       refine Nn ?_
       refine Sr ?_
       refine Ym ?_
       refine Ym ?_
       revert H; refine bs fun y6 h6 H => ?_
       refine Yy (o_index rfl hh hh ty_el_27 h6) ?_
       refine Yy (o_field (t' := (tSl (tInt .i64))) (z := y6.Chans) rfl hh ty_fa_40_0 rfl) ?_
       refine Yy (o_load rfl hh ty_sc_37 rfl) ?_
       refine Yy (o_len rfl hh ty_us_37) ?_
       refine Ym ?_
       refine Nn ?_
       refine T_block ?_
       refine T_loop (ι := Nat × Int) (fun i => usage_Accepts_l2 fuel y2 x2 y6 i.1 i.2 = _) (fun i => i.1) (fun i => [(1, fSl tUsageDef a1), (6, fPtr tUsage_text y2), (26, fInt .i64 (a1.length : Int)), (27, fInt .i64 x2), (7, fInt .i64 x2), (34, fSl (tInt .i64) y6.Chans), (35, fInt .i64 (y6.Chans.length : Int)), (36, fInt .i64 i.2)]) (fun i => [tBlk b1 26 [fSl tStr a0.Free, fSl tScopeNode a0.Nodes, fSl tScopeDef a0.Defs, fInt .i64 a0.Main]]) (fuel, 0) H (Sc (Sc (Sc (Sc (Sc (Sc (Sc (Sc SubT.nil)))))))) rfl ?_
       clear H; rintro ⟨k2, x4⟩ H
       replace H : usage_Accepts_l2 fuel y2 x2 y6 k2 x4 = _ := H
       show T β _ _ [(1, fSl tUsageDef a1), (6, fPtr tUsage_text y2), (26, fInt .i64 (a1.length : Int)), (27, fInt .i64 x2), (7, fInt .i64 x2), (34, fSl (tInt .i64) y6.Chans), (35, fInt .i64 (y6.Chans.length : Int)), (36, fInt .i64 x4)] [tBlk b1 26 [fSl tStr a0.Free, fSl tScopeNode a0.Nodes, fSl tScopeDef a0.Defs, fInt .i64 a0.Main]] _
       obtain _ | k2 := k2
       ·
        rw [usage_Accepts_l2] at H; cases H
       rw [usage_Accepts_l2] at H
       refine Sr ?_
       refine Yy (o_lss rfl hh hh) ?_
       refine Nn ?_
       refine T_seq ?_
       revert H; refine is (fun c5 H => ?_) fun c5 H => ?_
       ·
        refine T_cond_t (has rfl) c5 ?_
        refine T_skip ?_
        refine T_then_n ?_
        revert H; refine bs fun o3 H Hr3 => ?_
        refine T_seqJ (ι := Unit) (fun i => o3 = Sum.inl ()) (fun i => [(1, fSl tUsageDef a1), (6, fPtr tUsage_text y2), (26, fInt .i64 (a1.length : Int)), (27, fInt .i64 x2), (7, fInt .i64 x2), (34, fSl (tInt .i64) y6.Chans), (35, fInt .i64 (y6.Chans.length : Int)), (36, fInt .i64 x4)]) (fun i => [tBlk b1 26 [fSl tStr a0.Free, fSl tScopeNode a0.Nodes, fSl tScopeDef a0.Defs, fInt .i64 a0.Main]]) ?_ ?_
        ·
         refine T_block ?_
         refine Sr ?_
         refine Ym ?_
         revert H; refine bs fun y7 h7 H => ?_
         refine Yy (o_index rfl hh hh ty_el_37 h7) ?_
         refine Yy (o_load rfl hh ty_sc_41 rfl) ?_
         refine Ya ?_
         refine Ya ?_
         refine Nn ?_
         refine T_seq ?_
         revert H; refine is (fun c6 H => ?_) fun c6 H => ?_
         ·
          revert H; refine bs fun y8 h8 H => ?_
          revert H; refine bs fun y9 h9 H => ?_
          revert H; refine bs fun y10 h10 H => ?_
          refine T_net 18 [fun _ => .op [] false (fun _ => fInt .i64 y7) (fun _ => []), fun _ => .op [] false (fun _ => fBool (decide (y7 = 2))) (fun _ => []), fun _ => .op [] false (fun _ => fBool (decide (y7 = 2))) (fun _ => []), fun _ => .op [] false (fun _ => fPtr tUsage_text y2) (fun _ => []), fun _ => .op [] false (fun _ => fPtr tUsage_text y2) (fun _ => []), fun _ => .op [] false (fun _ => fPtr tUsage_text y2) (fun _ => []), fun _ => .op [] false (fun _ => fPtr (tSl (tInt .i64)) y2.heads) (fun _ => []), fun _ => .op [] false (fun _ => fSl (tInt .i64) y2.heads) (fun _ => []), fun _ => .op [] false (fun _ => fInt .i64 x2) (fun _ => []), fun _ => .op [] false (fun _ => fPtr (tInt .i64) y8) (fun _ => []), fun _ => .op [] false (fun _ => fInt .i64 y8) (fun _ => []), fun _ => .op [] false (fun _ => fPtr tUsage_text y2) (fun _ => []), fun _ => .op [] false (fun _ => fInt .i64 x2) (fun _ => []), fun _ => .op [] false (fun _ => fInt .i64 x4) (fun _ => []), fun _ => .op [] true (fun _ => fInt .i64 y9) (fun _ => []), fun _ => .op [] true (fun _ => fInt .i64 y10) (fun _ => []), fun _ => .op [] false (fun _ => fBool (decide (y10 ≠ 1))) (fun _ => []), fun _ => .op [] false (fun _ => fBool (decide (y10 ≠ 1))) (fun _ => [])] [([], false, []), ([], false, []), ([], false, []), ([], false, []), ([], false, []), ([], false, []), ([], false, []), ([], false, []), ([], false, []), ([], false, []), ([], false, []), ([], false, []), ([], false, []), ([], false, []), ([], true, []), ([], true, []), ([], false, []), ([], false, [])] 0 1 mixed (F0 (F0 (F0 (F0 (F0 (F0 (F0 (F0 (F0 (F0 (F0 (F0 (F0 (F0 (F0 (F0 (F0 (F0 FitsL.nil)))))))))))))))))) (by kernel_rfl) rfl rfl (by kernel_rfl) rfl ?_
          dsimp only [netL, List.take, List.replicate, List.append, List.drop]
          refine My (h := o_move rfl hh) (k := fun _ => ?_)
          refine My (h := o_eql rfl hh hh) (k := fun _ => ?_)
          refine My (h := o_move rfl hh) (k := fun _ => ?_)
          refine N_y (φ := fPtr tUsage_text y2) rfl (fun _ => rfl) ⟨_, _, rfl, rfl, c6⟩ rfl (o_move rfl (has rfl)) (fun _ => ?_)
          refine N_y (φ := fPtr tUsage_text y2) rfl (fun _ => rfl) ⟨_, _, rfl, rfl, c6⟩ rfl (o_move rfl (has rfl)) (fun _ => ?_)
          refine N_y (φ := fPtr tUsage_text y2) rfl (fun _ => rfl) ⟨_, _, rfl, rfl, c6⟩ rfl (o_nilCheck rfl (has rfl) (fun m v ⟨p, h, _⟩ => ⟨p, h⟩)) (fun _ => ?_)
          refine N_y (φ := fPtr (tSl (tInt .i64)) y2.heads) rfl (fun _ => rfl) ⟨_, _, rfl, rfl, c6⟩ rfl (o_field (t' := (tSl (tInt .i64))) (z := y2.heads) rfl (has rfl) ty_fa_79_3 rfl) (fun _ => ?_)
          refine N_y (φ := fSl (tInt .i64) y2.heads) rfl (fun _ => rfl) ⟨_, _, rfl, rfl, c6⟩ rfl (o_load rfl (has rfl) ty_sc_46 rfl) (fun _ => ?_)
          refine N_y (φ := fInt .i64 x2) rfl (fun _ => rfl) ⟨_, _, rfl, rfl, c6⟩ rfl (o_move rfl (has rfl)) (fun _ => ?_)
          refine N_y (φ := fPtr (tInt .i64) y8) rfl (fun _ => rfl) ⟨_, _, rfl, rfl, c6⟩ rfl (o_index rfl (has rfl) (has rfl) ty_el_46 h8) (fun _ => ?_)
          refine N_y (φ := fInt .i64 y8) rfl (fun _ => rfl) ⟨_, _, rfl, rfl, c6⟩ rfl (o_load rfl (has rfl) ty_sc_3 rfl) (fun _ => ?_)
          refine N_y (φ := fPtr tUsage_text y2) rfl (fun _ => rfl) ⟨_, _, rfl, rfl, c6⟩ rfl (o_move rfl (has rfl)) (fun _ => ?_)
          refine N_y (φ := fInt .i64 x2) rfl (fun _ => rfl) ⟨_, _, rfl, rfl, c6⟩ rfl (o_move rfl (has rfl)) (fun _ => ?_)
          refine N_y (φ := fInt .i64 x4) rfl (fun _ => rfl) ⟨_, _, rfl, rfl, c6⟩ rfl (o_move rfl (has rfl)) (fun _ => ?_)
          refine N_call (Φ := fInt .i64 y9) rfl (fun _ => rfl) ⟨_, _, rfl, rfl, c6⟩ rfl rfl (has rfl) (HasL.cons (has rfl) (HasL.cons (has rfl) (HasL.cons (has rfl) HasL.nil))) rfl ty_cb_28 (usage_text_place_w y2 x2 x4 y9 h9) (fun _ => ?_)
          refine N_call (Φ := fInt .i64 y10) rfl (fun _ => rfl) ⟨_, _, rfl, rfl, c6⟩ rfl rfl (has rfl) (HasL.cons (has rfl) (HasL.cons (has rfl) (HasL.cons (has rfl) HasL.nil))) rfl ty_cb_27 (usage_text_begun_w fuel y2 y8 y9 y10 h10) (fun _ => ?_)
          refine N_y (φ := fBool (decide (y10 ≠ 1))) rfl (fun _ => rfl) ⟨_, _, rfl, rfl, c6⟩ rfl (o_neq rfl (has rfl) (has rfl)) (fun _ => ?_)
          refine My (h := o_pick_t rfl hh c6 hh) (k := fun _ => ?_)
          refine N_done rfl ?_
          refine Nn ?_
          revert H; refine is (fun c7 H => ?_) fun c7 H => ?_
          ·
           refine T_cond_t (has rfl) c7 ?_
           refine Sr ?_
           refine Ya ?_
           refine Ya ?_
           refine Nn ?_
           refine T_retc ?_
           refine T_in_ret ?_
           refine T_then_ret ?_
           revert H; refine bs fun r1 H e1 => ?_
           have e1 := Option.some.inj e1; subst e1; have Hr3 := Option.some.inj Hr3; subst Hr3
           refine T_then_ret ?_
           refine T_in_ret ?_
           refine T_in_ret ?_
           refine T_then_ret ?_
           revert H; refine bs fun r2 H e2 => ?_
           have e2 := Option.some.inj e2; subst e2; have Hr2 := Option.some.inj Hr2; subst Hr2
           refine T_then_ret ?_
           refine T_in_ret ?_
           refine T_then_ret ?_
           revert H; refine bs fun r3 H e3 => ?_
           have e3 := Option.some.inj e3; subst e3; have Hr1 := Option.some.inj Hr1; subst Hr1
           cases H
           refine T_pick [] (by decide) ?_
           exact T_out2 rfl (hasS rfl) (hasS rfl) rfl
          ·
           refine T_cond_f (has rfl) c7 ?_
           refine T_skip ?_
           refine T_in_n ?_
           refine T_then_n ?_
           exact T_meet (()) (Option.some.inj H).symm (Sc (Sc (Sc (Sc (Sc (Sc (Sc (Sc SubT.nil)))))))) rfl
         ·
          refine T_net 18 [fun _ => .op [] false (fun _ => fInt .i64 y7) (fun _ => []), fun _ => .op [] false (fun _ => fBool (decide (y7 = 2))) (fun _ => []), fun _ => .op [] false (fun _ => fBool (decide (y7 = 2))) (fun _ => []), fun _ => .skip, fun _ => .skip, fun _ => .skip, fun _ => .skip, fun _ => .skip, fun _ => .skip, fun _ => .skip, fun _ => .skip, fun _ => .skip, fun _ => .skip, fun _ => .skip, fun _ => .skip, fun _ => .skip, fun _ => .skip, fun _ => .op [] false (fun _ => fBool false) (fun _ => [])] [([], false, []), ([], false, []), ([], false, []), ([], false, []), ([], false, []), ([], false, []), ([], false, []), ([], false, []), ([], false, []), ([], false, []), ([], false, []), ([], false, []), ([], false, []), ([], false, []), ([], false, []), ([], false, []), ([], false, []), ([], false, [])] 0 1 mixed (F0 (F0 (F0 (F0 (F0 (F0 (F0 (F0 (F0 (F0 (F0 (F0 (F0 (F0 (F0 (F0 (F0 (F0 FitsL.nil)))))))))))))))))) (by kernel_rfl) rfl rfl (by kernel_rfl) rfl ?_
          dsimp only [netL, List.take, List.replicate, List.append, List.drop]
          refine My (h := o_move rfl hh) (k := fun _ => ?_)
          refine My (h := o_eql rfl hh hh) (k := fun _ => ?_)
          refine My (h := o_move rfl hh) (k := fun _ => ?_)
          refine Ms (hc := ne_tf c6) (k := fun _ => ?_)
          refine Ms (hc := ne_tf c6) (k := fun _ => ?_)
          refine Ms (hc := ne_tf c6) (k := fun _ => ?_)
          refine Ms (hc := ne_tf c6) (k := fun _ => ?_)
          refine Ms (hc := ne_tf c6) (k := fun _ => ?_)
          refine Ms (hc := ne_tf c6) (k := fun _ => ?_)
          refine Ms (hc := ne_tf c6) (k := fun _ => ?_)
          refine Ms (hc := ne_tf c6) (k := fun _ => ?_)
          refine Ms (hc := ne_tf c6) (k := fun _ => ?_)
          refine Ms (hc := ne_tf c6) (k := fun _ => ?_)
          refine Ms (hc := ne_tf c6) (k := fun _ => ?_)
          refine Ms (hc := ne_tf c6) (k := fun _ => ?_)
          refine Ms (hc := ne_tf c6) (k := fun _ => ?_)
          refine Ms (hc := ne_tf c6) (k := fun _ => ?_)
          refine My (h := o_pick_f rfl hh c6 hh) (k := fun _ => ?_)
          refine N_done rfl ?_
          refine Nn ?_
          refine T_cond_f (has rfl) rfl ?_
          refine T_skip ?_
          refine T_in_n ?_
          refine T_then_n ?_
          exact T_meet (()) (Option.some.inj H).symm (Sc (Sc (Sc (Sc (Sc (Sc (Sc (Sc SubT.nil)))))))) rfl
        ·
         clear H; intro i hi; subst o3; have H := Hr3; clear Hr3; try dsimp only at H
         show T β _ _ [(1, fSl tUsageDef a1), (6, fPtr tUsage_text y2), (26, fInt .i64 (a1.length : Int)), (27, fInt .i64 x2), (7, fInt .i64 x2), (34, fSl (tInt .i64) y6.Chans), (35, fInt .i64 (y6.Chans.length : Int)), (36, fInt .i64 x4)] [tBlk b1 26 [fSl tStr a0.Free, fSl tScopeNode a0.Nodes, fSl tScopeDef a0.Defs, fInt .i64 a0.Main]] _
         refine T_region ?_
         revert H; refine bs fun z1 h11 H => ?_
         refine Yy (o_add rfl hh hh h11) ?_
         refine Ym ?_
         refine Nn ?_
         exact T_meet ((k2, z1)) ⟨H, Nat.lt_succ_self _⟩ (Sc (Sc (Sc (Sc (Sc (Sc (Sc (Sc SubT.nil)))))))) rfl
       ·
        refine T_cond_f (has rfl) c5 ?_
        refine T_exit ?_
        refine T_then_exit ?_
        refine T_then_exit ?_
        refine T_in_hit ?_
        refine T_in_n ?_
        refine T_then_n ?_
        exact T_meet (()) (Option.some.inj H).symm (Sc (Sc (Sc (Sc SubT.nil)))) rfl
      ·
       clear H; intro i hi; subst o2; have H := Hr2; clear Hr2; try dsimp only at H
       show T β _ _ [(1, fSl tUsageDef a1), (6, fPtr tUsage_text y2), (26, fInt .i64 (a1.length : Int)), (27, fInt .i64 x2)] [tBlk b1 26 [fSl tStr a0.Free, fSl tScopeNode a0.Nodes, fSl tScopeDef a0.Defs, fInt .i64 a0.Main]] _
       refine T_region ?_
       revert H; refine bs fun z2 h12 H => ?_
       refine Yy (o_add rfl hh hh h12) ?_
       refine Ym ?_
       refine Nn ?_
       exact T_meet ((k1, z2)) ⟨H, Nat.lt_succ_self _⟩ (Sc (Sc (Sc (Sc SubT.nil)))) rfl
     ·
      refine T_cond_f (has rfl) c4 ?_
      refine T_exit ?_
      refine T_then_exit ?_
      refine T_then_exit ?_
      refine T_in_hit ?_
      refine T_then_n ?_
      exact T_meet (()) (Option.some.inj H).symm SubT.nil rfl
    ·
     clear H; intro i hi; subst o1; have H := Hr1; clear Hr1; try dsimp only at H
     show T β _ _ [] [tBlk b1 26 [fSl tStr a0.Free, fSl tScopeNode a0.Nodes, fSl tScopeDef a0.Defs, fInt .i64 a0.Main]] _
     refine Sr ?_
     refine Ya ?_
     refine Ya ?_
     refine Nn ?_
     refine T_retc ?_
     cases H
     refine T_pick [] (by decide) ?_
     exact T_out2 rfl (hasS rfl) (hasS rfl) rfl
   ·
    refine T_cond_t (has rfl) (not_f c3) ?_
    refine Sr ?_
    refine Ya ?_
    refine Ya ?_
    refine Nn ?_
    refine Rr ?_
    cases H
    refine T_pick [] (by decide) ?_
    exact T_out2 rfl (hasS rfl) (hasS rfl) rfl
  ·
   refine T_cond_t (has rfl) (not_f c2) ?_
   refine Sr ?_
   refine Ya ?_
   refine Ya ?_
   refine Nn ?_
   refine Rr ?_
   cases H
   refine T_pick [] (by decide) ?_
   exact T_out2 rfl (hasS rfl) (hasS rfl) rfl
def w05_names_l1 (a0 : List Int) : Nat → (List ScopeExp) → Int → Option (List ScopeExp)
| 0, _, _ => none
| k + 1, x4, x5 =>
 if x5 < (a0.length : Int) then
  (idx a0 x5).bind fun y1 =>
  (room (x4 ++ [(⟨2, y1, []⟩ : ScopeExp)])).bind fun z1 =>
  (chk (x5 + 1)).bind fun z2 =>
  w05_names_l1 a0 k z1 z2
 else
  some x4
def w05_names_S (fuel : Nat) (a0 : List Int) : Option (List ScopeExp) :=
 (w05_names_l1 a0 fuel [] 0).bind fun x1 =>
 some x1
theorem w05_names_w (fuel : Nat)  (a0 : List Int) (r : List ScopeExp) (H : w05_names_S fuel a0 = some r) : FnS Try.prog 13 [fSl (tInt .i64) a0] [] (fSl tScopeExp r) (fun _ => []) := by
 unfold w05_names_S at H
 refine FnS_of Try.func13 rfl Try.ntmps13 rfl (fun β => ?_)
 refine Sr ?_
 refine Ya ?_
 refine Nn ?_
 refine Sr ?_
 refine Ya ?_
 refine Nn ?_
 revert H; refine bs fun o1 H Hr1 => ?_
 refine T_seqJ (ι := List ScopeExp × Value) (fun i => o1 = i.1) (fun i => [(3, fEq i.2)]) (fun i => [tRow i.2 94 tScopeExp i.1]) ?_ ?_
 ·
  refine Sr ?_
  refine Ya ?_
  refine Nn ?_
  refine T_block ?_
  refine T_nilRow tScopeExp 94 ?_
  refine T_loop (ι := Nat × List ScopeExp × Int × Value) (fun i => w05_names_l1 a0 i.1 i.2.1 i.2.2.1 = _) (fun i => i.1) (fun i => [(0, fSl (tInt .i64) a0), (3, fEq i.2.2.2), (4, fInt .i64 i.2.2.1)]) (fun i => [tRow i.2.2.2 94 tScopeExp i.2.1]) (fuel, [], 0, (.slice none 0 0)) H (Sc (Sc (Sc SubT.nil))) rfl ?_
  clear H; rintro ⟨k1, x4, x5, v3⟩ H
  replace H : w05_names_l1 a0 k1 x4 x5 = _ := H
  show T β _ _ [(0, fSl (tInt .i64) a0), (3, fEq v3), (4, fInt .i64 x5)] [tRow v3 94 tScopeExp x4] _
  obtain _ | k1 := k1
  ·
   rw [w05_names_l1] at H; cases H
  rw [w05_names_l1] at H
  refine T_rowCell 0 rfl (fun hc_v3 => ?_)
  refine T_seq ?_
  refine Sr ?_
  refine Ym ?_
  refine Ym ?_
  refine Yy (o_len rfl hh ty_us_46) ?_
  refine Yy (o_lss rfl hh hh) ?_
  refine Nn ?_
  revert H; refine is (fun c1 H => ?_) fun c1 H => ?_
  ·
   refine T_cond_t (has rfl) c1 ?_
   refine T_skip ?_
   refine T_then_n ?_
   refine T_seq ?_
   refine T_block ?_
   refine T_region ?_
   refine Ym ?_
   refine Ym ?_
   refine Ym ?_
   revert H; refine bs fun y1 h1 H => ?_
   refine Yy (o_index rfl hh hh ty_el_46 h1) ?_
   refine Yy (o_load rfl hh ty_sc_3 rfl) ?_
   refine Yy (o_build (ψs := [fInt .i64 2, fInt .i64 y1, fEq (.slice none 0 0)]) rfl ty_bu_94 rfl (Parts.cons (has rfl) (part_leaf (leaf_eq trivial)) (Parts.cons (has rfl) (part_leaf (leaf_eq trivial)) Parts.nil)) rfl) ?_
   refine T_new trivial rfl rfl (n_buildSliceC (t := tScopeExp) (xs := [(⟨2, y1, []⟩ : ScopeExp)]) rfl ty_et_54 (PartsS.cons rfl (hasE rfl (ent_agg (EntL.cons Ent.rfl (EntL.cons Ent.rfl (EntL.cons (ent_to_ScopeExps ent_nil) EntL.nil))))) part_agg PartsS.nil) rfl rfl rfl) (fun b1 => ?_)
   generalize hv_v4 : (Value.slice (some ⟨b1, 0, none⟩) _ _) = v4; clear hv_v4
   refine T_rowCell 0 rfl (fun hc_v4 => ?_)
   revert H; refine bs fun z1 h2 H => ?_
   refine T_appendR trivial rfl rfl rfl (has rfl) (has rfl) ty_et_54 rfl h2 (fun v5 => ?_)
   refine T_rowCell 0 rfl (fun hc_v5 => ?_)
   refine Ya ?_
   refine T_nil ?_
   refine T_in_n ?_
   refine T_then_n ?_
   refine T_region ?_
   refine Ym ?_
   revert H; refine bs fun z2 h3 H => ?_
   refine Yy (o_add rfl hh hh h3) ?_
   refine Ya ?_
   refine Nn ?_
   exact T_meet ((k1, z1, z2, v5)) ⟨H, Nat.lt_succ_self _⟩ (Sc (Sc (Sc SubT.nil))) rfl
  ·
   refine T_cond_f (has rfl) c1 ?_
   refine T_exit ?_
   refine T_then_exit ?_
   refine T_then_exit ?_
   refine T_in_hit ?_
   refine T_then_n ?_
   exact T_meet ((x4, v3)) (Option.some.inj H).symm (Sc SubT.nil) rfl
 ·
  clear H; intro i hi; obtain ⟨x1, v1⟩ := i; subst o1; have H := Hr1; clear Hr1; try dsimp only at H
  show T β _ _ [(3, fEq v1)] [tRow v1 94 tScopeExp x1] _
  refine T_rowCell 0 rfl (fun hc_v1 => ?_)
  refine Sr ?_
  refine Ym ?_
  refine Ya ?_
  refine Nn ?_
  refine T_retc ?_
  refine T_freeze (φ := fSl tScopeExp x1) (v := v1) [3, 19, 2] frz_row (by intro s hs; simp only [List.mem_cons, List.not_mem_nil, or_false] at hs; rcases hs with rfl | rfl | rfl <;> rfl) ?_
  refine T_dropT ?_
  cases H
  exact T_out1 rfl (hasS rfl) rfl
def w05_number_S (a0 : Int) : Option (List ScopeExp) :=
 some [(⟨1, a0, []⟩ : ScopeExp)]
theorem w05_number_w  (a0 : Int) (r : List ScopeExp) (H : w05_number_S a0 = some r) : FnS Try.prog 14 [fInt .i64 a0] [] (fSl tScopeExp r) (fun _ => []) := by
 unfold w05_number_S at H
 refine FnS_of Try.func14 rfl Try.ntmps14 rfl (fun β => ?_)
 refine Sr ?_
 refine Ya ?_
 refine Nn ?_
 refine Sr ?_
 refine Ym ?_
 refine Yy (o_build (ψs := [fInt .i64 1, fInt .i64 a0, fEq (.slice none 0 0)]) rfl ty_bu_94 rfl (Parts.cons (has rfl) (part_leaf (leaf_eq trivial)) (Parts.cons (has rfl) (part_leaf (leaf_eq trivial)) Parts.nil)) rfl) ?_
 refine T_new trivial rfl rfl (n_buildSliceC (t := tScopeExp) (xs := [(⟨1, a0, []⟩ : ScopeExp)]) rfl ty_et_54 (PartsS.cons rfl (hasE rfl (ent_agg (EntL.cons Ent.rfl (EntL.cons Ent.rfl (EntL.cons (ent_to_ScopeExps ent_nil) EntL.nil))))) part_agg PartsS.nil) rfl rfl rfl) (fun b1 => ?_)
 generalize hv_v1 : (Value.slice (some ⟨b1, 0, none⟩) _ _) = v1; clear hv_v1
 refine T_rowCell 0 rfl (fun hc_v1 => ?_)
 refine Ya ?_
 refine Nn ?_
 refine T_retc ?_
 refine T_freeze (φ := fSl tScopeExp [(⟨1, a0, []⟩ : ScopeExp)]) (v := v1) [2, 5] frz_row (by intro s hs; simp only [List.mem_cons, List.not_mem_nil, or_false] at hs; rcases hs with rfl | rfl <;> rfl) ?_
 refine T_dropT ?_
 cases H
 exact T_out1 rfl (hasS rfl) rfl
def w05_Example_S (fuel : Nat)  : Option (ScopeProg) :=
 (w05_number_S 1).bind fun y1 =>
 (w05_number_S 2).bind fun y2 =>
 (w05_names_S fuel [5]).bind fun y3 =>
 (w05_names_S fuel [0]).bind fun y4 =>
 (w05_names_S fuel [1]).bind fun y5 =>
 (w05_names_S fuel [0]).bind fun y6 =>
 some (⟨[{ data := #[111, 117, 116] }], [(⟨4, 0, [], [5]⟩ : ScopeNode), (⟨3, 0, [], [2, 3]⟩ : ScopeNode), (⟨2, 4, y1, []⟩ : ScopeNode), (⟨2, 4, y2, []⟩ : ScopeNode), (⟨2, 4, y3, []⟩ : ScopeNode), (⟨3, 0, [], [6, 7]⟩ : ScopeNode), (⟨2, 2, y4, []⟩ : ScopeNode), (⟨3, 0, [], [8, 9]⟩ : ScopeNode), (⟨2, 3, y5, []⟩ : ScopeNode), (⟨4, 1, [], [11]⟩ : ScopeNode), (⟨2, 1, y6, []⟩ : ScopeNode), (⟨2, 4, [], []⟩ : ScopeNode)], [(⟨[(⟨0, 1⟩ : ScopeChan), (⟨0, 1⟩ : ScopeChan), (⟨0, 1⟩ : ScopeChan)], [], [(⟨0, [0], 1⟩ : ScopeRule), (⟨0, [1, 2], 4⟩ : ScopeRule)]⟩ : ScopeDef), (⟨[(⟨0, 0⟩ : ScopeChan)], [], [(⟨0, [0], 10⟩ : ScopeRule)]⟩ : ScopeDef)], 0⟩ : ScopeProg)
theorem w05_Example_w (fuel : Nat)   (r : ScopeProg) (H : w05_Example_S fuel = some r) : FnS Try.prog 16 [] [] (fSt tScopeProg r) (fun _ => []) := by
 unfold w05_Example_S at H
 refine FnS_of Try.func16 rfl Try.ntmps16 rfl (fun β => ?_)
 refine Sr ?_
 refine T_new trivial rfl rfl (n_alloc rfl ty_ze_26 rfl) (fun b1 => ?_)
 refine Nn ?_
 refine Sr ?_
 refine Yy (o_build (ψs := [fInt .i64 0, fInt .i64 1]) rfl ty_bu_44 rfl (Parts.cons (has rfl) (part_leaf (leaf_eq trivial)) Parts.nil) rfl) ?_
 refine Yy (o_build (ψs := [fInt .i64 0, fInt .i64 1]) rfl ty_bu_44 rfl (Parts.cons (has rfl) (part_leaf (leaf_eq trivial)) Parts.nil) rfl) ?_
 refine Yy (o_build (ψs := [fInt .i64 0, fInt .i64 1]) rfl ty_bu_44 rfl (Parts.cons (has rfl) (part_leaf (leaf_eq trivial)) Parts.nil) rfl) ?_
 refine T_new trivial rfl rfl (n_buildSliceC (t := tScopeChan) (xs := [(⟨0, 1⟩ : ScopeChan), (⟨0, 1⟩ : ScopeChan), (⟨0, 1⟩ : ScopeChan)]) rfl ty_et_45 (PartsS.cons rfl (has rfl) part_agg (PartsS.cons rfl (has rfl) part_agg (PartsS.cons rfl (has rfl) part_agg PartsS.nil))) rfl rfl rfl) (fun b2 => ?_)
 generalize hv_v1 : (Value.slice (some ⟨b2, 0, none⟩) _ _) = v1; clear hv_v1
 refine T_rowCell 0 rfl (fun hc_v1 => ?_)
 refine T_new trivial rfl rfl (n_buildSliceC (t := (tInt .i64)) (xs := [0]) rfl ty_et_46 (PartsS.cons rfl (has rfl) (part_leaf (leaf_eq trivial)) PartsS.nil) rfl rfl rfl) (fun b3 => ?_)
 generalize hv_v2 : (Value.slice (some ⟨b3, 0, none⟩) _ _) = v2; clear hv_v2
 refine T_rowCell 0 rfl (fun hc_v2 => ?_)
 refine Yy (o_build (ψs := [fInt .i64 0, fEq v2, fInt .i64 1]) rfl ty_bu_48 rfl (Parts.cons (has rfl) (part_leaf (leaf_eq hc_v2)) (Parts.cons (has rfl) (part_leaf (leaf_eq trivial)) Parts.nil)) rfl) ?_
 refine T_new trivial rfl rfl (n_buildSliceC (t := (tInt .i64)) (xs := [1, 2]) rfl ty_et_46 (PartsS.cons rfl (has rfl) (part_leaf (leaf_eq trivial)) (PartsS.cons rfl (has rfl) (part_leaf (leaf_eq trivial)) PartsS.nil)) rfl rfl rfl) (fun b4 => ?_)
 generalize hv_v3 : (Value.slice (some ⟨b4, 0, none⟩) _ _) = v3; clear hv_v3
 refine T_rowCell 0 rfl (fun hc_v3 => ?_)
 refine Yy (o_build (ψs := [fInt .i64 0, fEq v3, fInt .i64 4]) rfl ty_bu_48 rfl (Parts.cons (has rfl) (part_leaf (leaf_eq hc_v3)) (Parts.cons (has rfl) (part_leaf (leaf_eq trivial)) Parts.nil)) rfl) ?_
 refine T_fr1 ?_
 refine T_freeze (φ := fSl (tInt .i64) [0]) (v := v2) [7] frz_row (by intro s hs; simp only [List.mem_cons, List.not_mem_nil, or_false] at hs; rcases hs with rfl <;> rfl) ?_
 refine T_slotW 8 (ψ := fAgg [fInt .i64 0, fEq v2, fInt .i64 1]) rfl (aggPure (i := 1) (φs := [fInt .i64 0, fEq v2, fInt .i64 1]) (φs' := [fInt .i64 0, fSl (tInt .i64) [0], fInt .i64 1]) rfl rfl) ?_
 refine T_dropT ?_
 refine T_freeze (φ := fSl (tInt .i64) [1, 2]) (v := v3) [9] frz_row (by intro s hs; simp only [List.mem_cons, List.not_mem_nil, or_false] at hs; rcases hs with rfl <;> rfl) ?_
 refine T_slotW 10 (ψ := fAgg [fInt .i64 0, fEq v3, fInt .i64 4]) rfl (aggPure (i := 1) (φs := [fInt .i64 0, fEq v3, fInt .i64 4]) (φs' := [fInt .i64 0, fSl (tInt .i64) [1, 2], fInt .i64 4]) rfl rfl) ?_
 refine T_dropT ?_
 refine T_new trivial rfl rfl (n_buildSliceC (t := tScopeRule) (xs := [(⟨0, [0], 1⟩ : ScopeRule), (⟨0, [1, 2], 4⟩ : ScopeRule)]) rfl ty_et_49 (PartsS.cons rfl (has rfl) part_agg (PartsS.cons rfl (has rfl) part_agg PartsS.nil)) rfl rfl rfl) (fun b5 => ?_)
 generalize hv_v4 : (Value.slice (some ⟨b5, 0, none⟩) _ _) = v4; clear hv_v4
 refine T_rowCell 0 rfl (fun hc_v4 => ?_)
 refine Yy (o_build (ψs := [fEq v1, fEq (.slice none 0 0), fEq v4]) rfl ty_bu_52 rfl (Parts.cons (has rfl) (part_leaf (leaf_eq hc_v1)) (Parts.cons (has rfl) (part_leaf (leaf_eq hc_v4)) Parts.nil)) rfl) ?_
 refine T_new trivial rfl rfl (n_alloc rfl ty_ze_52 rfl) (fun b6 => ?_)
 refine T_storeS (φs' := [fEq v1, fEq (.slice none 0 0), fEq v4]) trivial rfl rfl (has rfl) (has rfl) (ll_cons (leaf_eq hc_v1) (ll_cons (leaf_eq trivial) (ll_cons (leaf_eq hc_v4) ll_nil))) ty_sz_52 rfl rfl rfl ?_
 refine Nn ?_
 refine Sr ?_
 refine Yy (o_build (ψs := [fInt .i64 0, fInt .i64 0]) rfl ty_bu_44 rfl Parts.nil rfl) ?_
 refine T_new trivial rfl rfl (n_buildSliceC (t := tScopeChan) (xs := [(⟨0, 0⟩ : ScopeChan)]) rfl ty_et_45 (PartsS.cons rfl (has rfl) part_agg PartsS.nil) rfl rfl rfl) (fun b7 => ?_)
 generalize hv_v5 : (Value.slice (some ⟨b7, 0, none⟩) _ _) = v5; clear hv_v5
 refine T_rowCell 0 rfl (fun hc_v5 => ?_)
 refine T_new trivial rfl rfl (n_buildSliceC (t := (tInt .i64)) (xs := [0]) rfl ty_et_46 (PartsS.cons rfl (has rfl) (part_leaf (leaf_eq trivial)) PartsS.nil) rfl rfl rfl) (fun b8 => ?_)
 generalize hv_v6 : (Value.slice (some ⟨b8, 0, none⟩) _ _) = v6; clear hv_v6
 refine T_rowCell 0 rfl (fun hc_v6 => ?_)
 refine Yy (o_build (ψs := [fInt .i64 0, fEq v6, fInt .i64 10]) rfl ty_bu_48 rfl (Parts.cons (has rfl) (part_leaf (leaf_eq hc_v6)) (Parts.cons (has rfl) (part_leaf (leaf_eq trivial)) Parts.nil)) rfl) ?_
 refine T_freeze (φ := fSl (tInt .i64) [0]) (v := v6) [15] frz_row (by intro s hs; simp only [List.mem_cons, List.not_mem_nil, or_false] at hs; rcases hs with rfl <;> rfl) ?_
 refine T_slotW 16 (ψ := fAgg [fInt .i64 0, fEq v6, fInt .i64 10]) rfl (aggPure (i := 1) (φs := [fInt .i64 0, fEq v6, fInt .i64 10]) (φs' := [fInt .i64 0, fSl (tInt .i64) [0], fInt .i64 10]) rfl rfl) ?_
 refine T_dropT ?_
 refine T_new trivial rfl rfl (n_buildSliceC (t := tScopeRule) (xs := [(⟨0, [0], 10⟩ : ScopeRule)]) rfl ty_et_49 (PartsS.cons rfl (has rfl) part_agg PartsS.nil) rfl rfl rfl) (fun b9 => ?_)
 generalize hv_v7 : (Value.slice (some ⟨b9, 0, none⟩) _ _) = v7; clear hv_v7
 refine T_rowCell 0 rfl (fun hc_v7 => ?_)
 refine Yy (o_build (ψs := [fEq v5, fEq (.slice none 0 0), fEq v7]) rfl ty_bu_52 rfl (Parts.cons (has rfl) (part_leaf (leaf_eq hc_v5)) (Parts.cons (has rfl) (part_leaf (leaf_eq hc_v7)) Parts.nil)) rfl) ?_
 refine T_new trivial rfl rfl (n_alloc rfl ty_ze_52 rfl) (fun b10 => ?_)
 refine T_storeS (φs' := [fEq v5, fEq (.slice none 0 0), fEq v7]) trivial rfl rfl (has rfl) (has rfl) (ll_cons (leaf_eq hc_v5) (ll_cons (leaf_eq trivial) (ll_cons (leaf_eq hc_v7) ll_nil))) ty_sz_52 rfl rfl rfl ?_
 refine Nn ?_
 refine T_seq ?_
 refine T_fr5 ?_
 refine T_freeze (φ := fSl tScopeChan [(⟨0, 1⟩ : ScopeChan), (⟨0, 1⟩ : ScopeChan), (⟨0, 1⟩ : ScopeChan)]) (v := v1) [6] frz_row (by intro s hs; simp only [List.mem_cons, List.not_mem_nil, or_false] at hs; rcases hs with rfl <;> rfl) ?_
 refine T_fr4 ?_
 refine T_fr1 ?_
 refine T_leafPure (φs' := [fSl tScopeChan [(⟨0, 1⟩ : ScopeChan), (⟨0, 1⟩ : ScopeChan), (⟨0, 1⟩ : ScopeChan)], fEq (.slice none 0 0), fEq v4]) (i := 0) rfl rfl ?_
 refine T_slotW 12 (ψ := fAgg [fEq v1, fEq (.slice none 0 0), fEq v4]) rfl (aggPure (i := 0) (φs := [fEq v1, fEq (.slice none 0 0), fEq v4]) (φs' := [fSl tScopeChan [(⟨0, 1⟩ : ScopeChan), (⟨0, 1⟩ : ScopeChan), (⟨0, 1⟩ : ScopeChan)], fEq (.slice none 0 0), fEq v4]) rfl rfl) ?_
 refine T_dropT ?_
 refine T_fr4 ?_
 refine T_freeze (φ := fSl tScopeRule [(⟨0, [0], 1⟩ : ScopeRule), (⟨0, [1, 2], 4⟩ : ScopeRule)]) (v := v4) [11] frz_row (by intro s hs; simp only [List.mem_cons, List.not_mem_nil, or_false] at hs; rcases hs with rfl <;> rfl) ?_
 refine T_leafPure (φs' := [fSl tScopeChan [(⟨0, 1⟩ : ScopeChan), (⟨0, 1⟩ : ScopeChan), (⟨0, 1⟩ : ScopeChan)], fEq (.slice none 0 0), fSl tScopeRule [(⟨0, [0], 1⟩ : ScopeRule), (⟨0, [1, 2], 4⟩ : ScopeRule)]]) (i := 2) rfl rfl ?_
 refine T_slotW 12 (ψ := fAgg [fSl tScopeChan [(⟨0, 1⟩ : ScopeChan), (⟨0, 1⟩ : ScopeChan), (⟨0, 1⟩ : ScopeChan)], fEq (.slice none 0 0), fEq v4]) rfl (aggPure (i := 2) (φs := [fSl tScopeChan [(⟨0, 1⟩ : ScopeChan), (⟨0, 1⟩ : ScopeChan), (⟨0, 1⟩ : ScopeChan)], fEq (.slice none 0 0), fEq v4]) (φs' := [fSl tScopeChan [(⟨0, 1⟩ : ScopeChan), (⟨0, 1⟩ : ScopeChan), (⟨0, 1⟩ : ScopeChan)], fEq (.slice none 0 0), fSl tScopeRule [(⟨0, [0], 1⟩ : ScopeRule), (⟨0, [1, 2], 4⟩ : ScopeRule)]]) rfl rfl) ?_
 refine T_dropT ?_
 refine T_fr3 ?_
 refine T_freeze (φ := fSl tScopeChan [(⟨0, 0⟩ : ScopeChan)]) (v := v5) [14] frz_row (by intro s hs; simp only [List.mem_cons, List.not_mem_nil, or_false] at hs; rcases hs with rfl <;> rfl) ?_
 refine T_fr2 ?_
 refine T_fr1 ?_
 refine T_leafPure (φs' := [fSl tScopeChan [(⟨0, 0⟩ : ScopeChan)], fEq (.slice none 0 0), fEq v7]) (i := 0) rfl rfl ?_
 refine T_slotW 18 (ψ := fAgg [fEq v5, fEq (.slice none 0 0), fEq v7]) rfl (aggPure (i := 0) (φs := [fEq v5, fEq (.slice none 0 0), fEq v7]) (φs' := [fSl tScopeChan [(⟨0, 0⟩ : ScopeChan)], fEq (.slice none 0 0), fEq v7]) rfl rfl) ?_
 refine T_dropT ?_
 refine T_fr2 ?_
 refine T_freeze (φ := fSl tScopeRule [(⟨0, [0], 10⟩ : ScopeRule)]) (v := v7) [17] frz_row (by intro s hs; simp only [List.mem_cons, List.not_mem_nil, or_false] at hs; rcases hs with rfl <;> rfl) ?_
 refine T_leafPure (φs' := [fSl tScopeChan [(⟨0, 0⟩ : ScopeChan)], fEq (.slice none 0 0), fSl tScopeRule [(⟨0, [0], 10⟩ : ScopeRule)]]) (i := 2) rfl rfl ?_
 refine T_slotW 18 (ψ := fAgg [fSl tScopeChan [(⟨0, 0⟩ : ScopeChan)], fEq (.slice none 0 0), fEq v7]) rfl (aggPure (i := 2) (φs := [fSl tScopeChan [(⟨0, 0⟩ : ScopeChan)], fEq (.slice none 0 0), fEq v7]) (φs' := [fSl tScopeChan [(⟨0, 0⟩ : ScopeChan)], fEq (.slice none 0 0), fSl tScopeRule [(⟨0, [0], 10⟩ : ScopeRule)]]) rfl rfl) ?_
 refine T_dropT ?_
 revert H; refine bs fun y1 h1 H => ?_
 revert H; refine bs fun y2 h2 H => ?_
 revert H; refine bs fun y3 h3 H => ?_
 revert H; refine bs fun y4 h4 H => ?_
 revert H; refine bs fun y5 h5 H => ?_
 revert H; refine bs fun y6 h6 H => ?_
 refine T_net 34 [fun _ => .op [] true (fun _ => fSl tStr [{ data := #[111, 117, 116] }]) (fun _ => []), fun _ => .op [1] false (fun _ => fAgg [fSl tScopeChan [(⟨0, 1⟩ : ScopeChan), (⟨0, 1⟩ : ScopeChan), (⟨0, 1⟩ : ScopeChan)], fEq (.slice none 0 0), fSl tScopeRule [(⟨0, [0], 1⟩ : ScopeRule), (⟨0, [1, 2], 4⟩ : ScopeRule)]]) (fun _ => [tEmp]), fun _ => .op [0] false (fun _ => fAgg [fSl tScopeChan [(⟨0, 0⟩ : ScopeChan)], fEq (.slice none 0 0), fSl tScopeRule [(⟨0, [0], 10⟩ : ScopeRule)]]) (fun _ => [tEmp]), fun _ => .op [] true (fun _ => fSl tScopeDef [(⟨[(⟨0, 1⟩ : ScopeChan), (⟨0, 1⟩ : ScopeChan), (⟨0, 1⟩ : ScopeChan)], [], [(⟨0, [0], 1⟩ : ScopeRule), (⟨0, [1, 2], 4⟩ : ScopeRule)]⟩ : ScopeDef), (⟨[(⟨0, 0⟩ : ScopeChan)], [], [(⟨0, [0], 10⟩ : ScopeRule)]⟩ : ScopeDef)]) (fun _ => []), fun _ => .op [] true (fun _ => fSl (tInt .i64) [5]) (fun _ => []), fun _ => .op [] false (fun _ => fAgg [fInt .i64 4, fInt .i64 0, fEq (.slice none 0 0), fSl (tInt .i64) [5]]) (fun _ => []), fun _ => .op [] true (fun _ => fSl (tInt .i64) [2, 3]) (fun _ => []), fun _ => .op [] false (fun _ => fAgg [fInt .i64 3, fInt .i64 0, fEq (.slice none 0 0), fSl (tInt .i64) [2, 3]]) (fun _ => []), fun _ => .op [] true (fun _ => fSl tScopeExp y1) (fun _ => []), fun _ => .op [] false (fun _ => fAgg [fInt .i64 2, fInt .i64 4, fSl tScopeExp y1, fEq (.slice none 0 0)]) (fun _ => []), fun _ => .op [] true (fun _ => fSl tScopeExp y2) (fun _ => []), fun _ => .op [] false (fun _ => fAgg [fInt .i64 2, fInt .i64 4, fSl tScopeExp y2, fEq (.slice none 0 0)]) (fun _ => []), fun _ => .op [] true (fun _ => fSl (tInt .i64) [5]) (fun _ => []), fun _ => .op [] true (fun _ => fSl tScopeExp y3) (fun _ => []), fun _ => .op [] false (fun _ => fAgg [fInt .i64 2, fInt .i64 4, fSl tScopeExp y3, fEq (.slice none 0 0)]) (fun _ => []), fun _ => .op [] true (fun _ => fSl (tInt .i64) [6, 7]) (fun _ => []), fun _ => .op [] false (fun _ => fAgg [fInt .i64 3, fInt .i64 0, fEq (.slice none 0 0), fSl (tInt .i64) [6, 7]]) (fun _ => []), fun _ => .op [] true (fun _ => fSl (tInt .i64) [0]) (fun _ => []), fun _ => .op [] true (fun _ => fSl tScopeExp y4) (fun _ => []), fun _ => .op [] false (fun _ => fAgg [fInt .i64 2, fInt .i64 2, fSl tScopeExp y4, fEq (.slice none 0 0)]) (fun _ => []), fun _ => .op [] true (fun _ => fSl (tInt .i64) [8, 9]) (fun _ => []), fun _ => .op [] false (fun _ => fAgg [fInt .i64 3, fInt .i64 0, fEq (.slice none 0 0), fSl (tInt .i64) [8, 9]]) (fun _ => []), fun _ => .op [] true (fun _ => fSl (tInt .i64) [1]) (fun _ => []), fun _ => .op [] true (fun _ => fSl tScopeExp y5) (fun _ => []), fun _ => .op [] false (fun _ => fAgg [fInt .i64 2, fInt .i64 3, fSl tScopeExp y5, fEq (.slice none 0 0)]) (fun _ => []), fun _ => .op [] true (fun _ => fSl (tInt .i64) [11]) (fun _ => []), fun _ => .op [] false (fun _ => fAgg [fInt .i64 4, fInt .i64 1, fEq (.slice none 0 0), fSl (tInt .i64) [11]]) (fun _ => []), fun _ => .op [] true (fun _ => fSl (tInt .i64) [0]) (fun _ => []), fun _ => .op [] true (fun _ => fSl tScopeExp y6) (fun _ => []), fun _ => .op [] false (fun _ => fAgg [fInt .i64 2, fInt .i64 1, fSl tScopeExp y6, fEq (.slice none 0 0)]) (fun _ => []), fun _ => .op [] false (fun _ => fAgg [fInt .i64 2, fInt .i64 4, fEq (.slice none 0 0), fEq (.slice none 0 0)]) (fun _ => []), fun _ => .op [] true (fun _ => fSl tScopeNode [(⟨4, 0, [], [5]⟩ : ScopeNode), (⟨3, 0, [], [2, 3]⟩ : ScopeNode), (⟨2, 4, y1, []⟩ : ScopeNode), (⟨2, 4, y2, []⟩ : ScopeNode), (⟨2, 4, y3, []⟩ : ScopeNode), (⟨3, 0, [], [6, 7]⟩ : ScopeNode), (⟨2, 2, y4, []⟩ : ScopeNode), (⟨3, 0, [], [8, 9]⟩ : ScopeNode), (⟨2, 3, y5, []⟩ : ScopeNode), (⟨4, 1, [], [11]⟩ : ScopeNode), (⟨2, 1, y6, []⟩ : ScopeNode), (⟨2, 4, [], []⟩ : ScopeNode)]) (fun _ => []), fun _ => .op [] false (fun _ => fAgg [fSl tStr [{ data := #[111, 117, 116] }], fSl tScopeNode [(⟨4, 0, [], [5]⟩ : ScopeNode), (⟨3, 0, [], [2, 3]⟩ : ScopeNode), (⟨2, 4, y1, []⟩ : ScopeNode), (⟨2, 4, y2, []⟩ : ScopeNode), (⟨2, 4, y3, []⟩ : ScopeNode), (⟨3, 0, [], [6, 7]⟩ : ScopeNode), (⟨2, 2, y4, []⟩ : ScopeNode), (⟨3, 0, [], [8, 9]⟩ : ScopeNode), (⟨2, 3, y5, []⟩ : ScopeNode), (⟨4, 1, [], [11]⟩ : ScopeNode), (⟨2, 1, y6, []⟩ : ScopeNode), (⟨2, 4, [], []⟩ : ScopeNode)], fSl tScopeDef [(⟨[(⟨0, 1⟩ : ScopeChan), (⟨0, 1⟩ : ScopeChan), (⟨0, 1⟩ : ScopeChan)], [], [(⟨0, [0], 1⟩ : ScopeRule), (⟨0, [1, 2], 4⟩ : ScopeRule)]⟩ : ScopeDef), (⟨[(⟨0, 0⟩ : ScopeChan)], [], [(⟨0, [0], 10⟩ : ScopeRule)]⟩ : ScopeDef)], fInt .i64 0]) (fun _ => []), fun _ => .op [2] true (fun _ => fAny) (fun _ => [tBlk b1 26 [fSl tStr [{ data := #[111, 117, 116] }], fSl tScopeNode [(⟨4, 0, [], [5]⟩ : ScopeNode), (⟨3, 0, [], [2, 3]⟩ : ScopeNode), (⟨2, 4, y1, []⟩ : ScopeNode), (⟨2, 4, y2, []⟩ : ScopeNode), (⟨2, 4, y3, []⟩ : ScopeNode), (⟨3, 0, [], [6, 7]⟩ : ScopeNode), (⟨2, 2, y4, []⟩ : ScopeNode), (⟨3, 0, [], [8, 9]⟩ : ScopeNode), (⟨2, 3, y5, []⟩ : ScopeNode), (⟨4, 1, [], [11]⟩ : ScopeNode), (⟨2, 1, y6, []⟩ : ScopeNode), (⟨2, 4, [], []⟩ : ScopeNode)], fSl tScopeDef [(⟨[(⟨0, 1⟩ : ScopeChan), (⟨0, 1⟩ : ScopeChan), (⟨0, 1⟩ : ScopeChan)], [], [(⟨0, [0], 1⟩ : ScopeRule), (⟨0, [1, 2], 4⟩ : ScopeRule)]⟩ : ScopeDef), (⟨[(⟨0, 0⟩ : ScopeChan)], [], [(⟨0, [0], 10⟩ : ScopeRule)]⟩ : ScopeDef)], fInt .i64 0]])] [([], true, []), ([1], false, []), ([0], false, []), ([], true, []), ([], true, []), ([], false, []), ([], true, []), ([], false, []), ([], true, []), ([], false, []), ([], true, []), ([], false, []), ([], true, []), ([], true, []), ([], false, []), ([], true, []), ([], false, []), ([], true, []), ([], true, []), ([], false, []), ([], true, []), ([], false, []), ([], true, []), ([], true, []), ([], false, []), ([], true, []), ([], false, []), ([], true, []), ([], true, []), ([], false, []), ([], false, []), ([], true, []), ([], false, []), ([2], true, [])] 0 3 mixed (F0 (F0 (F0 (F0 (F0 (F0 (F0 (F0 (F0 (F0 (F0 (F0 (F0 (F0 (F0 (F0 (F0 (F0 (F0 (F0 (F0 (F0 (F0 (F0 (F0 (F0 (F0 (F0 (F0 (F0 (F0 (F0 (F0 (F0 FitsL.nil)))))))))))))))))))))))))))))))))) (by kernel_rfl) rfl rfl (by kernel_rfl) rfl ?_
 dsimp only [netL, List.take, List.replicate, List.append, List.drop]
 refine N_newF (φ := fSl tStr [{ data := #[111, 117, 116] }]) rfl (fun _ => rfl) trivial rfl (n_buildSliceC (t := tStr) (xs := [{ data := #[111, 117, 116] }]) rfl ty_et_22 (PartsS.cons rfl (has rfl) (part_leaf (leaf_eq trivial)) PartsS.nil) rfl rfl rfl) (fun b => frz_row) (fun _ => ?_)
 refine N_op (ps := [1]) (φ := fAgg [fSl tScopeChan [(⟨0, 1⟩ : ScopeChan), (⟨0, 1⟩ : ScopeChan), (⟨0, 1⟩ : ScopeChan)], fEq (.slice none 0 0), fSl tScopeRule [(⟨0, [0], 1⟩ : ScopeRule), (⟨0, [1, 2], 4⟩ : ScopeRule)]]) rfl (fun _ => rfl) trivial rfl rfl (o_loadBS rfl (has rfl) ty_ag_52 rfl rfl) (fun _ => ?_)
 refine N_op (ps := [0]) (φ := fAgg [fSl tScopeChan [(⟨0, 0⟩ : ScopeChan)], fEq (.slice none 0 0), fSl tScopeRule [(⟨0, [0], 10⟩ : ScopeRule)]]) rfl (fun _ => rfl) trivial rfl rfl (o_loadBS rfl (has rfl) ty_ag_52 rfl rfl) (fun _ => ?_)
 refine N_newF (φ := fSl tScopeDef [(⟨[(⟨0, 1⟩ : ScopeChan), (⟨0, 1⟩ : ScopeChan), (⟨0, 1⟩ : ScopeChan)], [], [(⟨0, [0], 1⟩ : ScopeRule), (⟨0, [1, 2], 4⟩ : ScopeRule)]⟩ : ScopeDef), (⟨[(⟨0, 0⟩ : ScopeChan)], [], [(⟨0, [0], 10⟩ : ScopeRule)]⟩ : ScopeDef)]) rfl (fun _ => rfl) trivial rfl (n_buildSliceC (t := tScopeDef) (xs := [(⟨[(⟨0, 1⟩ : ScopeChan), (⟨0, 1⟩ : ScopeChan), (⟨0, 1⟩ : ScopeChan)], [], [(⟨0, [0], 1⟩ : ScopeRule), (⟨0, [1, 2], 4⟩ : ScopeRule)]⟩ : ScopeDef), (⟨[(⟨0, 0⟩ : ScopeChan)], [], [(⟨0, [0], 10⟩ : ScopeRule)]⟩ : ScopeDef)]) rfl ty_et_24 (PartsS.cons rfl (hasE rfl (ent_agg (EntL.cons Ent.rfl (EntL.cons ent_nil (EntL.cons Ent.rfl EntL.nil))))) part_agg (PartsS.cons rfl (hasE rfl (ent_agg (EntL.cons Ent.rfl (EntL.cons ent_nil (EntL.cons Ent.rfl EntL.nil))))) part_agg PartsS.nil)) rfl rfl rfl) (fun b => frz_row) (fun _ => ?_)
 refine N_newF (φ := fSl (tInt .i64) [5]) rfl (fun _ => rfl) trivial rfl (n_buildSliceC (t := (tInt .i64)) (xs := [5]) rfl ty_et_46 (PartsS.cons rfl (has rfl) (part_leaf (leaf_eq trivial)) PartsS.nil) rfl rfl rfl) (fun b => frz_row) (fun _ => ?_)
 refine My (h := o_build (ψs := [fInt .i64 4, fInt .i64 0, fEq (.slice none 0 0), fSl (tInt .i64) [5]]) rfl ty_bu_56 rfl (Parts.cons (has rfl) (part_leaf (leaf_eq trivial)) (Parts.cons (has rfl) (part_leaf (leaf_sl)) Parts.nil)) rfl) (k := fun _ => ?_)
 refine N_newF (φ := fSl (tInt .i64) [2, 3]) rfl (fun _ => rfl) trivial rfl (n_buildSliceC (t := (tInt .i64)) (xs := [2, 3]) rfl ty_et_46 (PartsS.cons rfl (has rfl) (part_leaf (leaf_eq trivial)) (PartsS.cons rfl (has rfl) (part_leaf (leaf_eq trivial)) PartsS.nil)) rfl rfl rfl) (fun b => frz_row) (fun _ => ?_)
 refine My (h := o_build (ψs := [fInt .i64 3, fInt .i64 0, fEq (.slice none 0 0), fSl (tInt .i64) [2, 3]]) rfl ty_bu_56 rfl (Parts.cons (has rfl) (part_leaf (leaf_eq trivial)) (Parts.cons (has rfl) (part_leaf (leaf_sl)) Parts.nil)) rfl) (k := fun _ => ?_)
 refine N_call (Φ := fSl tScopeExp y1) rfl (fun _ => rfl) trivial rfl rfl (has rfl) (HasL.cons (has rfl) HasL.nil) rfl ty_cb_14 (w05_number_w 1 y1 h1) (fun _ => ?_)
 refine My (h := o_build (ψs := [fInt .i64 2, fInt .i64 4, fSl tScopeExp y1, fEq (.slice none 0 0)]) rfl ty_bu_56 rfl (Parts.cons (has rfl) (part_leaf (leaf_eq trivial)) (Parts.cons (has rfl) (part_leaf (leaf_eq trivial)) (Parts.cons (has rfl) (part_leaf (leaf_sl)) Parts.nil))) rfl) (k := fun _ => ?_)
 refine N_call (Φ := fSl tScopeExp y2) rfl (fun _ => rfl) trivial rfl rfl (has rfl) (HasL.cons (has rfl) HasL.nil) rfl ty_cb_14 (w05_number_w 2 y2 h2) (fun _ => ?_)
 refine My (h := o_build (ψs := [fInt .i64 2, fInt .i64 4, fSl tScopeExp y2, fEq (.slice none 0 0)]) rfl ty_bu_56 rfl (Parts.cons (has rfl) (part_leaf (leaf_eq trivial)) (Parts.cons (has rfl) (part_leaf (leaf_eq trivial)) (Parts.cons (has rfl) (part_leaf (leaf_sl)) Parts.nil))) rfl) (k := fun _ => ?_)
 refine N_newF (φ := fSl (tInt .i64) [5]) rfl (fun _ => rfl) trivial rfl (n_buildSliceC (t := (tInt .i64)) (xs := [5]) rfl ty_et_46 (PartsS.cons rfl (has rfl) (part_leaf (leaf_eq trivial)) PartsS.nil) rfl rfl rfl) (fun b => frz_row) (fun _ => ?_)
 refine N_call (Φ := fSl tScopeExp y3) rfl (fun _ => rfl) trivial rfl rfl (has rfl) (HasL.cons (has rfl) HasL.nil) rfl ty_cb_13 (w05_names_w fuel [5] y3 h3) (fun _ => ?_)
 refine My (h := o_build (ψs := [fInt .i64 2, fInt .i64 4, fSl tScopeExp y3, fEq (.slice none 0 0)]) rfl ty_bu_56 rfl (Parts.cons (has rfl) (part_leaf (leaf_eq trivial)) (Parts.cons (has rfl) (part_leaf (leaf_eq trivial)) (Parts.cons (has rfl) (part_leaf (leaf_sl)) Parts.nil))) rfl) (k := fun _ => ?_)
 refine N_newF (φ := fSl (tInt .i64) [6, 7]) rfl (fun _ => rfl) trivial rfl (n_buildSliceC (t := (tInt .i64)) (xs := [6, 7]) rfl ty_et_46 (PartsS.cons rfl (has rfl) (part_leaf (leaf_eq trivial)) (PartsS.cons rfl (has rfl) (part_leaf (leaf_eq trivial)) PartsS.nil)) rfl rfl rfl) (fun b => frz_row) (fun _ => ?_)
 refine My (h := o_build (ψs := [fInt .i64 3, fInt .i64 0, fEq (.slice none 0 0), fSl (tInt .i64) [6, 7]]) rfl ty_bu_56 rfl (Parts.cons (has rfl) (part_leaf (leaf_eq trivial)) (Parts.cons (has rfl) (part_leaf (leaf_sl)) Parts.nil)) rfl) (k := fun _ => ?_)
 refine N_newF (φ := fSl (tInt .i64) [0]) rfl (fun _ => rfl) trivial rfl (n_buildSliceC (t := (tInt .i64)) (xs := [0]) rfl ty_et_46 (PartsS.cons rfl (has rfl) (part_leaf (leaf_eq trivial)) PartsS.nil) rfl rfl rfl) (fun b => frz_row) (fun _ => ?_)
 refine N_call (Φ := fSl tScopeExp y4) rfl (fun _ => rfl) trivial rfl rfl (has rfl) (HasL.cons (has rfl) HasL.nil) rfl ty_cb_13 (w05_names_w fuel [0] y4 h4) (fun _ => ?_)
 refine My (h := o_build (ψs := [fInt .i64 2, fInt .i64 2, fSl tScopeExp y4, fEq (.slice none 0 0)]) rfl ty_bu_56 rfl (Parts.cons (has rfl) (part_leaf (leaf_eq trivial)) (Parts.cons (has rfl) (part_leaf (leaf_eq trivial)) (Parts.cons (has rfl) (part_leaf (leaf_sl)) Parts.nil))) rfl) (k := fun _ => ?_)
 refine N_newF (φ := fSl (tInt .i64) [8, 9]) rfl (fun _ => rfl) trivial rfl (n_buildSliceC (t := (tInt .i64)) (xs := [8, 9]) rfl ty_et_46 (PartsS.cons rfl (has rfl) (part_leaf (leaf_eq trivial)) (PartsS.cons rfl (has rfl) (part_leaf (leaf_eq trivial)) PartsS.nil)) rfl rfl rfl) (fun b => frz_row) (fun _ => ?_)
 refine My (h := o_build (ψs := [fInt .i64 3, fInt .i64 0, fEq (.slice none 0 0), fSl (tInt .i64) [8, 9]]) rfl ty_bu_56 rfl (Parts.cons (has rfl) (part_leaf (leaf_eq trivial)) (Parts.cons (has rfl) (part_leaf (leaf_sl)) Parts.nil)) rfl) (k := fun _ => ?_)
 refine N_newF (φ := fSl (tInt .i64) [1]) rfl (fun _ => rfl) trivial rfl (n_buildSliceC (t := (tInt .i64)) (xs := [1]) rfl ty_et_46 (PartsS.cons rfl (has rfl) (part_leaf (leaf_eq trivial)) PartsS.nil) rfl rfl rfl) (fun b => frz_row) (fun _ => ?_)
 refine N_call (Φ := fSl tScopeExp y5) rfl (fun _ => rfl) trivial rfl rfl (has rfl) (HasL.cons (has rfl) HasL.nil) rfl ty_cb_13 (w05_names_w fuel [1] y5 h5) (fun _ => ?_)
 refine My (h := o_build (ψs := [fInt .i64 2, fInt .i64 3, fSl tScopeExp y5, fEq (.slice none 0 0)]) rfl ty_bu_56 rfl (Parts.cons (has rfl) (part_leaf (leaf_eq trivial)) (Parts.cons (has rfl) (part_leaf (leaf_eq trivial)) (Parts.cons (has rfl) (part_leaf (leaf_sl)) Parts.nil))) rfl) (k := fun _ => ?_)
 refine N_newF (φ := fSl (tInt .i64) [11]) rfl (fun _ => rfl) trivial rfl (n_buildSliceC (t := (tInt .i64)) (xs := [11]) rfl ty_et_46 (PartsS.cons rfl (has rfl) (part_leaf (leaf_eq trivial)) PartsS.nil) rfl rfl rfl) (fun b => frz_row) (fun _ => ?_)
 refine My (h := o_build (ψs := [fInt .i64 4, fInt .i64 1, fEq (.slice none 0 0), fSl (tInt .i64) [11]]) rfl ty_bu_56 rfl (Parts.cons (has rfl) (part_leaf (leaf_eq trivial)) (Parts.cons (has rfl) (part_leaf (leaf_eq trivial)) (Parts.cons (has rfl) (part_leaf (leaf_sl)) Parts.nil))) rfl) (k := fun _ => ?_)
 refine N_newF (φ := fSl (tInt .i64) [0]) rfl (fun _ => rfl) trivial rfl (n_buildSliceC (t := (tInt .i64)) (xs := [0]) rfl ty_et_46 (PartsS.cons rfl (has rfl) (part_leaf (leaf_eq trivial)) PartsS.nil) rfl rfl rfl) (fun b => frz_row) (fun _ => ?_)
 refine N_call (Φ := fSl tScopeExp y6) rfl (fun _ => rfl) trivial rfl rfl (has rfl) (HasL.cons (has rfl) HasL.nil) rfl ty_cb_13 (w05_names_w fuel [0] y6 h6) (fun _ => ?_)
 refine My (h := o_build (ψs := [fInt .i64 2, fInt .i64 1, fSl tScopeExp y6, fEq (.slice none 0 0)]) rfl ty_bu_56 rfl (Parts.cons (has rfl) (part_leaf (leaf_eq trivial)) (Parts.cons (has rfl) (part_leaf (leaf_eq trivial)) (Parts.cons (has rfl) (part_leaf (leaf_sl)) Parts.nil))) rfl) (k := fun _ => ?_)
 refine My (h := o_build (ψs := [fInt .i64 2, fInt .i64 4, fEq (.slice none 0 0), fEq (.slice none 0 0)]) rfl ty_bu_56 rfl (Parts.cons (has rfl) (part_leaf (leaf_eq trivial)) (Parts.cons (has rfl) (part_leaf (leaf_eq trivial)) Parts.nil)) rfl) (k := fun _ => ?_)
 refine N_newF (φ := fSl tScopeNode [(⟨4, 0, [], [5]⟩ : ScopeNode), (⟨3, 0, [], [2, 3]⟩ : ScopeNode), (⟨2, 4, y1, []⟩ : ScopeNode), (⟨2, 4, y2, []⟩ : ScopeNode), (⟨2, 4, y3, []⟩ : ScopeNode), (⟨3, 0, [], [6, 7]⟩ : ScopeNode), (⟨2, 2, y4, []⟩ : ScopeNode), (⟨3, 0, [], [8, 9]⟩ : ScopeNode), (⟨2, 3, y5, []⟩ : ScopeNode), (⟨4, 1, [], [11]⟩ : ScopeNode), (⟨2, 1, y6, []⟩ : ScopeNode), (⟨2, 4, [], []⟩ : ScopeNode)]) rfl (fun _ => rfl) trivial rfl (n_buildSliceC (t := tScopeNode) (xs := [(⟨4, 0, [], [5]⟩ : ScopeNode), (⟨3, 0, [], [2, 3]⟩ : ScopeNode), (⟨2, 4, y1, []⟩ : ScopeNode), (⟨2, 4, y2, []⟩ : ScopeNode), (⟨2, 4, y3, []⟩ : ScopeNode), (⟨3, 0, [], [6, 7]⟩ : ScopeNode), (⟨2, 2, y4, []⟩ : ScopeNode), (⟨3, 0, [], [8, 9]⟩ : ScopeNode), (⟨2, 3, y5, []⟩ : ScopeNode), (⟨4, 1, [], [11]⟩ : ScopeNode), (⟨2, 1, y6, []⟩ : ScopeNode), (⟨2, 4, [], []⟩ : ScopeNode)]) rfl ty_et_23 (PartsS.cons rfl (hasE rfl (ent_agg (EntL.cons Ent.rfl (EntL.cons Ent.rfl (EntL.cons ent_nil (EntL.cons Ent.rfl EntL.nil)))))) part_agg (PartsS.cons rfl (hasE rfl (ent_agg (EntL.cons Ent.rfl (EntL.cons Ent.rfl (EntL.cons ent_nil (EntL.cons Ent.rfl EntL.nil)))))) part_agg (PartsS.cons rfl (hasE rfl (ent_agg (EntL.cons Ent.rfl (EntL.cons Ent.rfl (EntL.cons Ent.rfl (EntL.cons ent_nil EntL.nil)))))) part_agg (PartsS.cons rfl (hasE rfl (ent_agg (EntL.cons Ent.rfl (EntL.cons Ent.rfl (EntL.cons Ent.rfl (EntL.cons ent_nil EntL.nil)))))) part_agg (PartsS.cons rfl (hasE rfl (ent_agg (EntL.cons Ent.rfl (EntL.cons Ent.rfl (EntL.cons Ent.rfl (EntL.cons ent_nil EntL.nil)))))) part_agg (PartsS.cons rfl (hasE rfl (ent_agg (EntL.cons Ent.rfl (EntL.cons Ent.rfl (EntL.cons ent_nil (EntL.cons Ent.rfl EntL.nil)))))) part_agg (PartsS.cons rfl (hasE rfl (ent_agg (EntL.cons Ent.rfl (EntL.cons Ent.rfl (EntL.cons Ent.rfl (EntL.cons ent_nil EntL.nil)))))) part_agg (PartsS.cons rfl (hasE rfl (ent_agg (EntL.cons Ent.rfl (EntL.cons Ent.rfl (EntL.cons ent_nil (EntL.cons Ent.rfl EntL.nil)))))) part_agg (PartsS.cons rfl (hasE rfl (ent_agg (EntL.cons Ent.rfl (EntL.cons Ent.rfl (EntL.cons Ent.rfl (EntL.cons ent_nil EntL.nil)))))) part_agg (PartsS.cons rfl (hasE rfl (ent_agg (EntL.cons Ent.rfl (EntL.cons Ent.rfl (EntL.cons ent_nil (EntL.cons Ent.rfl EntL.nil)))))) part_agg (PartsS.cons rfl (hasE rfl (ent_agg (EntL.cons Ent.rfl (EntL.cons Ent.rfl (EntL.cons Ent.rfl (EntL.cons ent_nil EntL.nil)))))) part_agg (PartsS.cons rfl (hasE rfl (ent_agg (EntL.cons Ent.rfl (EntL.cons Ent.rfl (EntL.cons ent_nil (EntL.cons ent_nil EntL.nil)))))) part_agg PartsS.nil)))))))))))) rfl rfl rfl) (fun b => frz_row) (fun _ => ?_)
 refine My (h := o_build (ψs := [fSl tStr [{ data := #[111, 117, 116] }], fSl tScopeNode [(⟨4, 0, [], [5]⟩ : ScopeNode), (⟨3, 0, [], [2, 3]⟩ : ScopeNode), (⟨2, 4, y1, []⟩ : ScopeNode), (⟨2, 4, y2, []⟩ : ScopeNode), (⟨2, 4, y3, []⟩ : ScopeNode), (⟨3, 0, [], [6, 7]⟩ : ScopeNode), (⟨2, 2, y4, []⟩ : ScopeNode), (⟨3, 0, [], [8, 9]⟩ : ScopeNode), (⟨2, 3, y5, []⟩ : ScopeNode), (⟨4, 1, [], [11]⟩ : ScopeNode), (⟨2, 1, y6, []⟩ : ScopeNode), (⟨2, 4, [], []⟩ : ScopeNode)], fSl tScopeDef [(⟨[(⟨0, 1⟩ : ScopeChan), (⟨0, 1⟩ : ScopeChan), (⟨0, 1⟩ : ScopeChan)], [], [(⟨0, [0], 1⟩ : ScopeRule), (⟨0, [1, 2], 4⟩ : ScopeRule)]⟩ : ScopeDef), (⟨[(⟨0, 0⟩ : ScopeChan)], [], [(⟨0, [0], 10⟩ : ScopeRule)]⟩ : ScopeDef)], fInt .i64 0]) rfl ty_bu_26 rfl (Parts.cons (has rfl) (part_leaf (leaf_sl)) (Parts.cons (has rfl) (part_leaf (leaf_sl)) (Parts.cons (has rfl) (part_leaf (leaf_sl)) Parts.nil))) rfl) (k := fun _ => ?_)
 refine N_storeS (p := 2) (φs' := [fSl tStr [{ data := #[111, 117, 116] }], fSl tScopeNode [(⟨4, 0, [], [5]⟩ : ScopeNode), (⟨3, 0, [], [2, 3]⟩ : ScopeNode), (⟨2, 4, y1, []⟩ : ScopeNode), (⟨2, 4, y2, []⟩ : ScopeNode), (⟨2, 4, y3, []⟩ : ScopeNode), (⟨3, 0, [], [6, 7]⟩ : ScopeNode), (⟨2, 2, y4, []⟩ : ScopeNode), (⟨3, 0, [], [8, 9]⟩ : ScopeNode), (⟨2, 3, y5, []⟩ : ScopeNode), (⟨4, 1, [], [11]⟩ : ScopeNode), (⟨2, 1, y6, []⟩ : ScopeNode), (⟨2, 4, [], []⟩ : ScopeNode)], fSl tScopeDef [(⟨[(⟨0, 1⟩ : ScopeChan), (⟨0, 1⟩ : ScopeChan), (⟨0, 1⟩ : ScopeChan)], [], [(⟨0, [0], 1⟩ : ScopeRule), (⟨0, [1, 2], 4⟩ : ScopeRule)]⟩ : ScopeDef), (⟨[(⟨0, 0⟩ : ScopeChan)], [], [(⟨0, [0], 10⟩ : ScopeRule)]⟩ : ScopeDef)], fInt .i64 0]) rfl (fun _ => rfl) (fun _ => rfl) trivial rfl rfl rfl (has rfl) (has rfl) (ll_cons (leaf_sl) (ll_cons (leaf_sl) (ll_cons (leaf_sl) (ll_cons (leaf_eq trivial) ll_nil)))) ty_sz_26 rfl rfl rfl (fun _ => ?_)
 refine N_done rfl ?_
 refine Nn ?_
 refine T_retc ?_
 cases H
 refine T_pick [2] (by decide) ?_
 exact T_outCS rfl ty_ag_26 rfl (hasS rfl) Ent.rfl rfl
def w05_Found_S  : Option (List UsageDef) :=
 some ([(⟨[4, 2, 2], [4, 3], ([[4], [3], [4]] : List (List Int))⟩ : UsageDef), (⟨[2], [3], ([([] : List Int)] : List (List Int))⟩ : UsageDef)] : List UsageDef)
theorem w05_Found_w   (r : List UsageDef) (H : w05_Found_S = some r) : FnS Try.prog 17 [] [] fAny (fun v => [(fun v => tRowD v 40 oUsageDef r) v]) := by
 unfold w05_Found_S at H
 refine FnS_of Try.func17 rfl Try.ntmps17 rfl (fun β => ?_)
 refine Sr ?_
 refine Ya ?_
 refine Nn ?_
 refine Sr ?_
 refine Ya ?_
 refine Nn ?_
 refine Sr ?_
 refine Ya ?_
 refine Nn ?_
 refine Sr ?_
 refine Ya ?_
 refine Nn ?_
 refine Sr ?_
 refine Ym ?_
 refine Ym ?_
 refine Ym ?_
 refine T_new trivial rfl rfl (n_buildSliceC (t := (tInt .i64)) (xs := [4, 2, 2]) rfl ty_et_37 (PartsS.cons rfl (has rfl) (part_leaf (leaf_eq trivial)) (PartsS.cons rfl (has rfl) (part_leaf (leaf_eq trivial)) (PartsS.cons rfl (has rfl) (part_leaf (leaf_eq trivial)) PartsS.nil))) rfl rfl rfl) (fun b1 => ?_)
 generalize hv_v1 : (Value.slice (some ⟨b1, 0, none⟩) _ _) = v1; clear hv_v1
 refine T_rowCell 0 rfl (fun hc_v1 => ?_)
 refine Ym ?_
 refine Ym ?_
 refine T_new trivial rfl rfl (n_buildSliceC (t := (tInt .i64)) (xs := [4, 3]) rfl ty_et_37 (PartsS.cons rfl (has rfl) (part_leaf (leaf_eq trivial)) (PartsS.cons rfl (has rfl) (part_leaf (leaf_eq trivial)) PartsS.nil)) rfl rfl rfl) (fun b2 => ?_)
 generalize hv_v2 : (Value.slice (some ⟨b2, 0, none⟩) _ _) = v2; clear hv_v2
 refine T_rowCell 0 rfl (fun hc_v2 => ?_)
 refine Ym ?_
 refine T_new trivial rfl rfl (n_buildSliceC (t := (tInt .i64)) (xs := [4]) rfl ty_et_37 (PartsS.cons rfl (has rfl) (part_leaf (leaf_eq trivial)) PartsS.nil) rfl rfl rfl) (fun b3 => ?_)
 generalize hv_v3 : (Value.slice (some ⟨b3, 0, none⟩) _ _) = v3; clear hv_v3
 refine T_rowCell 0 rfl (fun hc_v3 => ?_)
 refine Ym ?_
 refine T_new trivial rfl rfl (n_buildSliceC (t := (tInt .i64)) (xs := [3]) rfl ty_et_37 (PartsS.cons rfl (has rfl) (part_leaf (leaf_eq trivial)) PartsS.nil) rfl rfl rfl) (fun b4 => ?_)
 generalize hv_v4 : (Value.slice (some ⟨b4, 0, none⟩) _ _) = v4; clear hv_v4
 refine T_rowCell 0 rfl (fun hc_v4 => ?_)
 refine Ym ?_
 refine T_new trivial rfl rfl (n_buildSliceC (t := (tInt .i64)) (xs := [4]) rfl ty_et_37 (PartsS.cons rfl (has rfl) (part_leaf (leaf_eq trivial)) PartsS.nil) rfl rfl rfl) (fun b5 => ?_)
 generalize hv_v5 : (Value.slice (some ⟨b5, 0, none⟩) _ _) = v5; clear hv_v5
 refine T_rowCell 0 rfl (fun hc_v5 => ?_)
 refine T_new trivial rfl rfl (n_buildSliceC (t := tF 1) (xs := [[⟨fEq v3, leaf_eq hc_v3⟩], [⟨fEq v4, leaf_eq hc_v4⟩], [⟨fEq v5, leaf_eq hc_v5⟩]]) rfl ty_et_38 (PartsS.cons rfl (has rfl) (part_leaf (leaf_eq hc_v3)) (PartsS.cons rfl (has rfl) (part_leaf (leaf_eq hc_v4)) (PartsS.cons rfl (has rfl) (part_leaf (leaf_eq hc_v5)) PartsS.nil))) rfl rfl rfl) (fun b6 => ?_)
 generalize hv_v6 : (Value.slice (some ⟨b6, 0, none⟩) _ _) = v6; clear hv_v6
 refine T_toG ?_
 refine T_fr3 ?_
 refine T_closeE (p := 0) (f := (fun v => tRow v 41 (tInt .i64) [4])) (hf := (fun _ => row_isCell)) rfl Ent.rfl ?_
 refine T_fr2 ?_
 refine T_closeE (p := 1) (f := (fun v => tRow v 41 (tInt .i64) [3])) (hf := (fun _ => row_isCell)) rfl Ent.rfl ?_
 refine T_fr1 ?_
 refine T_closeE (p := 2) (f := (fun v => tRow v 41 (tInt .i64) [4])) (hf := (fun _ => row_isCell)) rfl Ent.rfl ?_
 refine T_asD (o := (oRowT 41 (tInt .i64))) (xs := ([[4], [3], [4]] : List (List Int))) rfl rfl rfl ?_
 refine T_rowCellG 0 rfl (fun hc_v6 => ?_)
 refine Yy (o_build (ψs := [fEq v1, fEq v2, fEq v6]) rfl ty_bu_40 rfl (Parts.cons (has rfl) (part_leaf (leaf_eq hc_v1)) (Parts.cons (has rfl) (part_leaf (leaf_eq hc_v2)) (Parts.cons (has rfl) (part_leaf (leaf_eq hc_v6)) Parts.nil))) rfl) ?_
 refine Ym ?_
 refine T_new trivial rfl rfl (n_buildSliceC (t := (tInt .i64)) (xs := [2]) rfl ty_et_37 (PartsS.cons rfl (has rfl) (part_leaf (leaf_eq trivial)) PartsS.nil) rfl rfl rfl) (fun b7 => ?_)
 generalize hv_v7 : (Value.slice (some ⟨b7, 0, none⟩) _ _) = v7; clear hv_v7
 refine T_rowCell 0 rfl (fun hc_v7 => ?_)
 refine Ym ?_
 refine T_new trivial rfl rfl (n_buildSliceC (t := (tInt .i64)) (xs := [3]) rfl ty_et_37 (PartsS.cons rfl (has rfl) (part_leaf (leaf_eq trivial)) PartsS.nil) rfl rfl rfl) (fun b8 => ?_)
 generalize hv_v8 : (Value.slice (some ⟨b8, 0, none⟩) _ _) = v8; clear hv_v8
 refine T_rowCell 0 rfl (fun hc_v8 => ?_)
 refine T_new trivial rfl rfl (n_buildSliceC (t := (tInt .i64)) (xs := ([] : List Int)) rfl ty_et_37 PartsS.nil rfl rfl rfl) (fun b9 => ?_)
 generalize hv_v9 : (Value.slice (some ⟨b9, 0, none⟩) _ _) = v9; clear hv_v9
 refine T_rowCell 0 rfl (fun hc_v9 => ?_)
 refine T_new trivial rfl rfl (n_buildSliceC (t := tF 1) (xs := [[⟨fEq v9, leaf_eq hc_v9⟩]]) rfl ty_et_38 (PartsS.cons rfl (has rfl) (part_leaf (leaf_eq hc_v9)) PartsS.nil) rfl rfl rfl) (fun b10 => ?_)
 generalize hv_v10 : (Value.slice (some ⟨b10, 0, none⟩) _ _) = v10; clear hv_v10
 refine T_toG ?_
 refine T_fr1 ?_
 refine T_closeE (p := 0) (f := (fun v => tRow v 41 (tInt .i64) ([] : List Int))) (hf := (fun _ => row_isCell)) rfl Ent.rfl ?_
 refine T_asD (o := (oRowT 41 (tInt .i64))) (xs := ([([] : List Int)] : List (List Int))) rfl rfl rfl ?_
 refine T_rowCellG 0 rfl (fun hc_v10 => ?_)
 refine Yy (o_build (ψs := [fEq v7, fEq v8, fEq v10]) rfl ty_bu_40 rfl (Parts.cons (has rfl) (part_leaf (leaf_eq hc_v7)) (Parts.cons (has rfl) (part_leaf (leaf_eq hc_v8)) (Parts.cons (has rfl) (part_leaf (leaf_eq hc_v10)) Parts.nil))) rfl) ?_
 refine T_new trivial rfl rfl (n_buildSliceC (t := tF 3) (xs := [[⟨fEq v1, leaf_eq hc_v1⟩, ⟨fEq v2, leaf_eq hc_v2⟩, ⟨fEq v6, leaf_eq hc_v6⟩], [⟨fEq v7, leaf_eq hc_v7⟩, ⟨fEq v8, leaf_eq hc_v8⟩, ⟨fEq v10, leaf_eq hc_v10⟩]]) rfl ty_et_27 (PartsS.cons rfl (has rfl) part_agg (PartsS.cons rfl (has rfl) part_agg PartsS.nil)) rfl rfl rfl) (fun b11 => ?_)
 generalize hv_v11 : (Value.slice (some ⟨b11, 0, none⟩) _ _) = v11; clear hv_v11
 refine T_toG ?_
 refine T_fr6 ?_
 refine T_closeE (p := 0) (f := (fun v => tRow v 41 (tInt .i64) [4, 2, 2])) (hf := (fun _ => row_isCell)) rfl Ent.rfl ?_
 refine T_fr5 ?_
 refine T_closeE (p := 1) (f := (fun v => tRow v 41 (tInt .i64) [4, 3])) (hf := (fun _ => row_isCell)) rfl Ent.rfl ?_
 refine T_fr4 ?_
 refine T_closeE (p := 2) (f := (fun v => tRowD v 37 (oRowT 41 (tInt .i64)) ([[4], [3], [4]] : List (List Int)))) (hf := (fun _ => rowG_cell)) rfl Ent.rfl ?_
 refine T_fr3 ?_
 refine T_closeE (p := 3) (f := (fun v => tRow v 41 (tInt .i64) [2])) (hf := (fun _ => row_isCell)) rfl Ent.rfl ?_
 refine T_fr2 ?_
 refine T_closeE (p := 4) (f := (fun v => tRow v 41 (tInt .i64) [3])) (hf := (fun _ => row_isCell)) rfl Ent.rfl ?_
 refine T_fr1 ?_
 refine T_closeE (p := 5) (f := (fun v => tRowD v 37 (oRowT 41 (tInt .i64)) ([([] : List Int)] : List (List Int)))) (hf := (fun _ => rowG_cell)) rfl Ent.rfl ?_
 refine T_asD (o := oUsageDef) (xs := ([(⟨[4, 2, 2], [4, 3], ([[4], [3], [4]] : List (List Int))⟩ : UsageDef), (⟨[2], [3], ([([] : List Int)] : List (List Int))⟩ : UsageDef)] : List UsageDef)) rfl rfl rfl ?_
 refine T_rowCellG 0 rfl (fun hc_v11 => ?_)
 refine Ya ?_
 refine Nn ?_
 refine T_retc ?_
 cases H
 exact T_outO rfl (hasS rfl) (fun _ _ _ => trivial) rfl
theorem w05_Found_d   (r : List UsageDef) (H : w05_Found_S = some r) : FnS Try.prog 17 [] [] (fSl tUsageDef r) (fun _ => []) := (w05_Found_w r H).frz (fun v => (frz_rowD rfl frzo_UsageDef))
def usage_known_S (fuel : Nat) (a0 : ScopeProg) (a1 : Int) (a2 : Int) : Option ((Option Usage_text) × Bool) :=
 (scope_Check_S fuel (⟨a0.Free, a0.Nodes, a0.Defs, a0.Main⟩ : ScopeProg)).bind fun y1 =>
 if y1 ≠ 0 then
  some (none, false)
 else
  if a1 < 0 then
   some (none, false)
  else
   if (a0.Nodes.length : Int) ≤ a1 then
    some (none, false)
   else
    (usage_read_S fuel (⟨a0.Free, a0.Nodes, a0.Defs, a0.Main⟩ : ScopeProg)).bind fun y2 =>
    (if 0 ≤ a2 then
     (idx y2.sizes a1).bind fun y3 =>
     some (decide (a2 < y3))
    else
     some false).bind fun x1 =>
    some (some y2, x1)
theorem usage_known_w (fuel : Nat)  (a0 : ScopeProg) (a1 : Int) (a2 : Int) (r : (Option Usage_text) × Bool) (H : usage_known_S fuel a0 a1 a2 = some r) : FnS Try.prog 44 [fSt tScopeProg a0, fInt .i64 a1, fInt .i64 a2] [] (fTup [fOpt tUsage_text r.1, fBool r.2]) (fun _ => []) := by
 unfold usage_known_S at H
 refine FnS_of Try.func44 rfl Try.ntmps44 rfl (fun β => ?_)
 refine Sr ?_
 refine T_new trivial rfl rfl (n_box rfl (has rfl) part_agg) (fun b1 => ?_)
 refine Ya ?_
 refine Ya ?_
 refine Nn ?_
 refine T_seq ?_
 refine Sr ?_
 refine Yo 0 rfl (o_loadBS rfl hh ty_ag_26 rfl rfl) ?_
 revert H; refine bs fun y1 h1 H => ?_
 refine T_call trivial rfl rfl rfl (has rfl) (HasL.cons (has rfl) HasL.nil) rfl ty_cb_21 (scope_Check_w fuel (⟨a0.Free, a0.Nodes, a0.Defs, a0.Main⟩ : ScopeProg) y1 h1) rfl ?_
 refine Yy (o_neq rfl hh hh) ?_
 refine Ym ?_
 revert H; refine is (fun c1 H => ?_) fun c1 H => ?_
 ·
  refine Yt c1 ?_
  refine Yt c1 ?_
  refine Yy (o_pick_t rfl hh c1 hh) ?_
  refine Ym ?_
  refine Yd ?_
  refine Yd ?_
  refine Yd ?_
  refine Yd ?_
  refine Yd ?_
  refine Yy (o_pick_t rfl hh rfl hh) ?_
  refine Nn ?_
  refine T_cond_t (has rfl) rfl ?_
  refine Sr ?_
  refine Ya ?_
  refine Ya ?_
  refine Nn ?_
  refine Rr ?_
  cases H
  refine T_pick [] (by decide) ?_
  exact T_out2 rfl (hasSE rfl ent_optN) (hasS rfl) rfl
 ·
  refine Yg c1 (o_move rfl hh) ?_
  refine Yg c1 (o_lss rfl hh hh) ?_
  refine Yy (o_pick_f rfl hh c1 hh) ?_
  refine Ym ?_
  revert H; refine is (fun c2 H => ?_) fun c2 H => ?_
  ·
   refine Yt c2 ?_
   refine Yt c2 ?_
   refine Yt c2 ?_
   refine Yt c2 ?_
   refine Yt c2 ?_
   refine Yy (o_pick_t rfl hh c2 hh) ?_
   refine Nn ?_
   refine T_cond_t (has rfl) rfl ?_
   refine Sr ?_
   refine Ya ?_
   refine Ya ?_
   refine Nn ?_
   refine Rr ?_
   cases H
   refine T_pick [] (by decide) ?_
   exact T_out2 rfl (hasSE rfl ent_optN) (hasS rfl) rfl
  ·
   refine Yg c2 (o_move rfl hh) ?_
   refine Yg c2 (o_fieldB 1 rfl hh ty_fa_26_1 rfl) ?_
   refine Yh 0 rfl c2 (o_loadB rfl hh ty_sc_23 rfl Ent.rfl) ?_
   refine Yg c2 (o_len rfl hh ty_us_23) ?_
   refine Yg c2 (o_geq rfl hh hh) ?_
   refine Yy (o_pick_f rfl hh c2 hh) ?_
   refine Nn ?_
   revert H; refine is (fun c3 H => ?_) fun c3 H => ?_
   ·
    refine T_cond_t (has rfl) c3 ?_
    refine Sr ?_
    refine Ya ?_
    refine Ya ?_
    refine Nn ?_
    refine Rr ?_
    cases H
    refine T_pick [] (by decide) ?_
    exact T_out2 rfl (hasSE rfl ent_optN) (hasS rfl) rfl
   ·
    refine T_cond_f (has rfl) c3 ?_
    refine T_skip ?_
    refine T_then_n ?_
    refine Sr ?_
    refine Yo 0 rfl (o_loadBS rfl hh ty_ag_26 rfl rfl) ?_
    revert H; refine bs fun y2 h2 H => ?_
    refine T_call trivial rfl rfl rfl (has rfl) (HasL.cons (has rfl) HasL.nil) rfl ty_cb_22 (usage_read_w fuel (⟨a0.Free, a0.Nodes, a0.Defs, a0.Main⟩ : ScopeProg) y2 h2) rfl ?_
    refine Ya ?_
    refine Nn ?_
    revert H; refine bs fun o1 H Hr1 => ?_
    refine T_seqJ (ι := Bool) (fun i => o1 = i) (fun i => [(6, fPtr tUsage_text y2), (7, fBool i)]) (fun i => [tBlk b1 26 [fSl tStr a0.Free, fSl tScopeNode a0.Nodes, fSl tScopeDef a0.Defs, fInt .i64 a0.Main]]) ?_ ?_
    ·
     revert H; refine is (fun c4 H => ?_) fun c4 H => ?_
     ·
      revert H; refine bs fun y3 h3 H => ?_
      refine T_net 16 [fun _ => .op [] false (fun _ => fPtr tUsage_text y2) (fun _ => []), fun _ => .op [] false (fun _ => fInt .i64 a2) (fun _ => []), fun _ => .op [] false (fun _ => fBool (decide (0 ≤ a2))) (fun _ => []), fun _ => .op [] false (fun _ => fBool (decide (0 ≤ a2))) (fun _ => []), fun _ => .op [] false (fun _ => fInt .i64 a2) (fun _ => []), fun _ => .op [] false (fun _ => fPtr tUsage_text y2) (fun _ => []), fun _ => .op [] false (fun _ => fPtr tUsage_text y2) (fun _ => []), fun _ => .op [] false (fun _ => fPtr (tSl (tInt .i64)) y2.sizes) (fun _ => []), fun _ => .op [] false (fun _ => fSl (tInt .i64) y2.sizes) (fun _ => []), fun _ => .op [] false (fun _ => fInt .i64 a1) (fun _ => []), fun _ => .op [] false (fun _ => fPtr (tInt .i64) y3) (fun _ => []), fun _ => .op [] false (fun _ => fInt .i64 y3) (fun _ => []), fun _ => .op [] false (fun _ => fBool (decide (a2 < y3))) (fun _ => []), fun _ => .op [] false (fun _ => fBool (decide (a2 < y3))) (fun _ => []), fun _ => .op [] false (fun _ => fPtr tUsage_text y2) (fun _ => []), fun _ => .op [] false (fun _ => fBool (decide (a2 < y3))) (fun _ => [])] [([], false, []), ([], false, []), ([], false, []), ([], false, []), ([], false, []), ([], false, []), ([], false, []), ([], false, []), ([], false, []), ([], false, []), ([], false, []), ([], false, []), ([], false, []), ([], false, []), ([], false, []), ([], false, [])] 0 1 mixed (F0 (F0 (F0 (F0 (F0 (F0 (F0 (F0 (F0 (F0 (F0 (F0 (F0 (F0 (F0 (F0 FitsL.nil)))))))))))))))) (by kernel_rfl) rfl rfl (by kernel_rfl) rfl ?_
      dsimp only [netL, List.take, List.replicate, List.append, List.drop]
      refine My (h := o_move rfl hh) (k := fun _ => ?_)
      refine My (h := o_move rfl hh) (k := fun _ => ?_)
      refine My (h := o_geq rfl hh hh) (k := fun _ => ?_)
      refine My (h := o_move rfl hh) (k := fun _ => ?_)
      refine N_y (φ := fInt .i64 a2) rfl (fun _ => rfl) ⟨_, _, rfl, rfl, c4⟩ rfl (o_move rfl (has rfl)) (fun _ => ?_)
      refine N_y (φ := fPtr tUsage_text y2) rfl (fun _ => rfl) ⟨_, _, rfl, rfl, c4⟩ rfl (o_move rfl (has rfl)) (fun _ => ?_)
      refine N_y (φ := fPtr tUsage_text y2) rfl (fun _ => rfl) ⟨_, _, rfl, rfl, c4⟩ rfl (o_nilCheck rfl (has rfl) (fun m v ⟨p, h, _⟩ => ⟨p, h⟩)) (fun _ => ?_)
      refine N_y (φ := fPtr (tSl (tInt .i64)) y2.sizes) rfl (fun _ => rfl) ⟨_, _, rfl, rfl, c4⟩ rfl (o_field (t' := (tSl (tInt .i64))) (z := y2.sizes) rfl (has rfl) ty_fa_79_2 rfl) (fun _ => ?_)
      refine N_y (φ := fSl (tInt .i64) y2.sizes) rfl (fun _ => rfl) ⟨_, _, rfl, rfl, c4⟩ rfl (o_load rfl (has rfl) ty_sc_46 rfl) (fun _ => ?_)
      refine N_y (φ := fInt .i64 a1) rfl (fun _ => rfl) ⟨_, _, rfl, rfl, c4⟩ rfl (o_move rfl (has rfl)) (fun _ => ?_)
      refine N_y (φ := fPtr (tInt .i64) y3) rfl (fun _ => rfl) ⟨_, _, rfl, rfl, c4⟩ rfl (o_index rfl (has rfl) (has rfl) ty_el_46 h3) (fun _ => ?_)
      refine N_y (φ := fInt .i64 y3) rfl (fun _ => rfl) ⟨_, _, rfl, rfl, c4⟩ rfl (o_load rfl (has rfl) ty_sc_3 rfl) (fun _ => ?_)
      refine N_y (φ := fBool (decide (a2 < y3))) rfl (fun _ => rfl) ⟨_, _, rfl, rfl, c4⟩ rfl (o_lss rfl (has rfl) (has rfl)) (fun _ => ?_)
      refine My (h := o_pick_t rfl hh c4 hh) (k := fun _ => ?_)
      refine My (h := o_assign rfl hh) (k := fun _ => ?_)
      refine My (h := o_assign rfl hh) (k := fun _ => ?_)
      refine N_done rfl ?_
      refine Nn ?_
      exact T_meet (decide (a2 < y3)) (Option.some.inj H).symm (Sc (Sc SubT.nil)) rfl
     ·
      refine T_net 16 [fun _ => .op [] false (fun _ => fPtr tUsage_text y2) (fun _ => []), fun _ => .op [] false (fun _ => fInt .i64 a2) (fun _ => []), fun _ => .op [] false (fun _ => fBool (decide (0 ≤ a2))) (fun _ => []), fun _ => .op [] false (fun _ => fBool (decide (0 ≤ a2))) (fun _ => []), fun _ => .skip, fun _ => .skip, fun _ => .skip, fun _ => .skip, fun _ => .skip, fun _ => .skip, fun _ => .skip, fun _ => .skip, fun _ => .skip, fun _ => .op [] false (fun _ => fBool false) (fun _ => []), fun _ => .op [] false (fun _ => fPtr tUsage_text y2) (fun _ => []), fun _ => .op [] false (fun _ => fBool false) (fun _ => [])] [([], false, []), ([], false, []), ([], false, []), ([], false, []), ([], false, []), ([], false, []), ([], false, []), ([], false, []), ([], false, []), ([], false, []), ([], false, []), ([], false, []), ([], false, []), ([], false, []), ([], false, []), ([], false, [])] 0 1 mixed (F0 (F0 (F0 (F0 (F0 (F0 (F0 (F0 (F0 (F0 (F0 (F0 (F0 (F0 (F0 (F0 FitsL.nil)))))))))))))))) (by kernel_rfl) rfl rfl (by kernel_rfl) rfl ?_
      dsimp only [netL, List.take, List.replicate, List.append, List.drop]
      refine My (h := o_move rfl hh) (k := fun _ => ?_)
      refine My (h := o_move rfl hh) (k := fun _ => ?_)
      refine My (h := o_geq rfl hh hh) (k := fun _ => ?_)
      refine My (h := o_move rfl hh) (k := fun _ => ?_)
      refine Ms (hc := ne_tf c4) (k := fun _ => ?_)
      refine Ms (hc := ne_tf c4) (k := fun _ => ?_)
      refine Ms (hc := ne_tf c4) (k := fun _ => ?_)
      refine Ms (hc := ne_tf c4) (k := fun _ => ?_)
      refine Ms (hc := ne_tf c4) (k := fun _ => ?_)
      refine Ms (hc := ne_tf c4) (k := fun _ => ?_)
      refine Ms (hc := ne_tf c4) (k := fun _ => ?_)
      refine Ms (hc := ne_tf c4) (k := fun _ => ?_)
      refine Ms (hc := ne_tf c4) (k := fun _ => ?_)
      refine My (h := o_pick_f rfl hh c4 hh) (k := fun _ => ?_)
      refine My (h := o_assign rfl hh) (k := fun _ => ?_)
      refine My (h := o_assign rfl hh) (k := fun _ => ?_)
      refine N_done rfl ?_
      refine Nn ?_
      exact T_meet (false) (Option.some.inj H).symm (Sc (Sc SubT.nil)) rfl
    ·
     clear H; intro x1 hi; subst o1; have H := Hr1; clear Hr1; try dsimp only at H
     show T β _ _ [(6, fPtr tUsage_text y2), (7, fBool x1)] [tBlk b1 26 [fSl tStr a0.Free, fSl tScopeNode a0.Nodes, fSl tScopeDef a0.Defs, fInt .i64 a0.Main]] _
     refine T_retc ?_
     cases H
     refine T_pick [] (by decide) ?_
     exact T_out2 rfl (hasSE rfl ent_optS) (hasS rfl) rfl
end Go.Proofs.Ytmnbfgeljmhekaa
set_option maxRecDepth 100000
set_option maxHeartbeats 2000000
namespace Go.Proofs.Ytmnbfgeljmhekaa
open Go.SX Go.SW Go.Dt
def usage_Sends_S (fuel : Nat) (a0 : ScopeProg) (a1 : List UsageDef) (a2 : Int) (a3 : Int) : Option (Int × Int) :=
 (usage_known_S fuel (⟨a0.Free, a0.Nodes, a0.Defs, a0.Main⟩ : ScopeProg) a2 a3).bind fun y1 =>
 bif !y1.2 then
  some (0, 2)
 else
  (y1.1).bind fun y2 =>
  (usage_text_fine_S fuel y2 a1).bind fun y3 =>
  bif y3 then
   (usage_text_sends_S fuel y2 a1 a2 a3).bind fun y4 =>
   (usage_count_kind_S y4).bind fun y5 =>
   some (y5, 0)
  else
   some (0, 2)
theorem usage_Sends_w (fuel : Nat)  (a0 : ScopeProg) (a1 : List UsageDef) (a2 : Int) (a3 : Int) (r : Int × Int) (H : usage_Sends_S fuel a0 a1 a2 a3 = some r) : FnS Try.prog 18 [fSt tScopeProg a0, fSl tUsageDef a1, fInt .i64 a2, fInt .i64 a3] [] (fTup [fInt .i64 r.1, fInt .i64 r.2]) (fun _ => []) := by
 unfold usage_Sends_S at H
 refine FnS_of Try.func18 rfl Try.ntmps18 rfl (fun β => ?_)
 refine Sr ?_
 refine T_new trivial rfl rfl (n_box rfl (has rfl) part_agg) (fun b1 => ?_)
 refine Ya ?_
 refine Ya ?_
 refine Nn ?_
 refine Sr ?_
 refine Yo 0 rfl (o_loadBS rfl hh ty_ag_26 rfl rfl) ?_
 refine Ym ?_
 refine Ym ?_
 revert H; refine bs fun y1 h1 H => ?_
 refine T_call trivial rfl rfl rfl (has rfl) (HasL.cons (has rfl) (HasL.cons (has rfl) (HasL.cons (has rfl) HasL.nil))) rfl ty_cb_44 (usage_known_w fuel (⟨a0.Free, a0.Nodes, a0.Defs, a0.Main⟩ : ScopeProg) a2 a3 y1 h1) rfl ?_
 refine Ym ?_
 refine Yy (o_extract rfl hh rfl) ?_
 refine Yy (o_extract rfl hh rfl) ?_
 refine Ya ?_
 refine Ya ?_
 refine Nn ?_
 refine T_seq ?_
 refine Sr ?_
 refine Ym ?_
 refine Yy (o_not rfl hh) ?_
 refine Ym ?_
 revert H; refine cs (fun c1 H => ?_) fun c1 H => ?_
 ·
  refine Yt c1 ?_
  refine Yt c1 ?_
  refine Yt c1 ?_
  refine Yt c1 ?_
  refine Yy (o_pick_t rfl hh c1 hh) ?_
  refine Nn ?_
  refine T_cond_t (has rfl) rfl ?_
  refine Sr ?_
  refine Ya ?_
  refine Ya ?_
  refine Nn ?_
  refine Rr ?_
  cases H
  refine T_pick [] (by decide) ?_
  exact T_out2 rfl (hasS rfl) (hasS rfl) rfl
 ·
  refine Yg c1 (o_move rfl hh) ?_
  refine Yg c1 (o_move rfl hh) ?_
  revert H; refine bs fun y2 h2 H => ?_
  refine T_slot 17 rfl (ent_optOf h2) ?_
  refine T_slot 10 rfl (ent_optOf h2) ?_
  refine T_slot 22 rfl (ent_optOf h2) ?_
  revert H; refine bs fun y3 h3 H => ?_
  refine T_call ⟨_, _, rfl, rfl, c1⟩ rfl rfl rfl (has rfl) (HasL.cons (has rfl) (HasL.cons (has rfl) HasL.nil)) rfl ty_cb_29 (usage_text_fine_w fuel y2 a1 y3 h3) rfl ?_
  refine Yg c1 (o_not rfl hh) ?_
  refine Yy (o_pick_f rfl hh c1 hh) ?_
  refine Nn ?_
  revert H; refine cs (fun c2 H => ?_) fun c2 H => ?_
  ·
   refine T_cond_f (has rfl) (not_t c2) ?_
   refine T_skip ?_
   refine T_then_n ?_
   refine Sr ?_
   refine Ym ?_
   refine Ym ?_
   refine Ym ?_
   refine Ym ?_
   revert H; refine bs fun y4 h4 H => ?_
   refine T_call trivial rfl rfl rfl (has rfl) (HasL.cons (has rfl) (HasL.cons (has rfl) (HasL.cons (has rfl) (HasL.cons (has rfl) HasL.nil)))) rfl ty_cb_45 (usage_text_sends_w fuel y2 a1 a2 a3 y4 h4) rfl ?_
   revert H; refine bs fun y5 h5 H => ?_
   refine T_call trivial rfl rfl rfl (has rfl) (HasL.cons (has rfl) HasL.nil) rfl ty_cb_46 (usage_count_kind_w y4 y5 h5) rfl ?_
   refine Ya ?_
   refine Ya ?_
   refine Nn ?_
   refine T_retc ?_
   cases H
   refine T_pick [] (by decide) ?_
   exact T_out2 rfl (hasS rfl) (hasS rfl) rfl
  ·
   refine T_cond_t (has rfl) (not_f c2) ?_
   refine Sr ?_
   refine Ya ?_
   refine Ya ?_
   refine Nn ?_
   refine Rr ?_
   cases H
   refine T_pick [] (by decide) ?_
   exact T_out2 rfl (hasS rfl) (hasS rfl) rfl
def usage_Sure_S (fuel : Nat) (a0 : ScopeProg) (a1 : Int) (a2 : Int) : Option (Int × Int) :=
 (usage_known_S fuel (⟨a0.Free, a0.Nodes, a0.Defs, a0.Main⟩ : ScopeProg) a1 a2).bind fun y1 =>
 bif y1.2 then
  (y1.1).bind fun y2 =>
  (usage_text_sure_S fuel y2 a1 a2).bind fun y3 =>
  some (y3, 0)
 else
  some (0, 2)
theorem usage_Sure_w (fuel : Nat)  (a0 : ScopeProg) (a1 : Int) (a2 : Int) (r : Int × Int) (H : usage_Sure_S fuel a0 a1 a2 = some r) : FnS Try.prog 19 [fSt tScopeProg a0, fInt .i64 a1, fInt .i64 a2] [] (fTup [fInt .i64 r.1, fInt .i64 r.2]) (fun _ => []) := by
 unfold usage_Sure_S at H
 refine FnS_of Try.func19 rfl Try.ntmps19 rfl (fun β => ?_)
 refine Sr ?_
 refine T_new trivial rfl rfl (n_box rfl (has rfl) part_agg) (fun b1 => ?_)
 refine Ya ?_
 refine Ya ?_
 refine Nn ?_
 refine Sr ?_
 refine Yo 0 rfl (o_loadBS rfl hh ty_ag_26 rfl rfl) ?_
 refine Ym ?_
 refine Ym ?_
 revert H; refine bs fun y1 h1 H => ?_
 refine T_call trivial rfl rfl rfl (has rfl) (HasL.cons (has rfl) (HasL.cons (has rfl) (HasL.cons (has rfl) HasL.nil))) rfl ty_cb_44 (usage_known_w fuel (⟨a0.Free, a0.Nodes, a0.Defs, a0.Main⟩ : ScopeProg) a1 a2 y1 h1) rfl ?_
 refine Ym ?_
 refine Yy (o_extract rfl hh rfl) ?_
 refine Yy (o_extract rfl hh rfl) ?_
 refine Ya ?_
 refine Ya ?_
 refine Nn ?_
 refine T_seq ?_
 refine Sr ?_
 refine Ym ?_
 refine Yy (o_not rfl hh) ?_
 refine Nn ?_
 revert H; refine cs (fun c1 H => ?_) fun c1 H => ?_
 ·
  refine T_cond_f (has rfl) (not_t c1) ?_
  refine T_skip ?_
  refine T_then_n ?_
  refine Sr ?_
  refine Ym ?_
  refine Ym ?_
  refine Ym ?_
  revert H; refine bs fun y2 h2 H => ?_
  refine T_slot 15 rfl (ent_optOf h2) ?_
  refine T_slot 8 rfl (ent_optOf h2) ?_
  refine T_slot 19 rfl (ent_optOf h2) ?_
  revert H; refine bs fun y3 h3 H => ?_
  refine T_call trivial rfl rfl rfl (has rfl) (HasL.cons (has rfl) (HasL.cons (has rfl) (HasL.cons (has rfl) HasL.nil))) rfl ty_cb_47 (usage_text_sure_w fuel y2 a1 a2 y3 h3) rfl ?_
  refine Ya ?_
  refine Ya ?_
  refine Nn ?_
  refine T_retc ?_
  cases H
  refine T_pick [] (by decide) ?_
  exact T_out2 rfl (hasS rfl) (hasS rfl) rfl
 ·
  refine T_cond_t (has rfl) (not_f c1) ?_
  refine Sr ?_
  refine Ya ?_
  refine Ya ?_
  refine Nn ?_
  refine Rr ?_
  cases H
  refine T_pick [] (by decide) ?_
  exact T_out2 rfl (hasS rfl) (hasS rfl) rfl
def r05_SameKinds_l1 (a0 : List Int) (a1 : List Int) : Nat → Int → Option ((Unit) ⊕ (Bool))
| 0, _ => none
| k + 1, x2 =>
 if x2 < (a0.length : Int) then
  (idx a0 x2).bind fun y1 =>
  (idx a1 x2).bind fun y2 =>
  if y1 ≠ y2 then
   (some false).bind fun r => some (Sum.inr r)
  else
   (chk (x2 + 1)).bind fun z1 =>
   r05_SameKinds_l1 a0 a1 k z1
 else
  some (Sum.inl ())
def r05_SameKinds_S (fuel : Nat) (a0 : List Int) (a1 : List Int) : Option (Bool) :=
 if (a0.length : Int) ≠ (a1.length : Int) then
  some false
 else
  (r05_SameKinds_l1 a0 a1 fuel 0).bind fun o => match o with
  | Sum.inr r => some r
  | Sum.inl _ =>
  some true
theorem r05_SameKinds_w (fuel : Nat)  (a0 : List Int) (a1 : List Int) (r : Bool) (H : r05_SameKinds_S fuel a0 a1 = some r) : FnS Try.prog 48 [fSl (tInt .i64) a0, fSl (tInt .i64) a1] [] (fBool r) (fun _ => []) := by
 unfold r05_SameKinds_S at H
 refine FnS_of Try.func48 rfl Try.ntmps48 rfl (fun β => ?_)
 refine Sr ?_
 refine Ya ?_
 refine Nn ?_
 refine T_seq ?_
 refine Sr ?_
 refine Ym ?_
 refine Yy (o_len rfl hh ty_us_37) ?_
 refine Ym ?_
 refine Yy (o_len rfl hh ty_us_37) ?_
 refine Yy (o_neq rfl hh hh) ?_
 refine Nn ?_
 revert H; refine is (fun c1 H => ?_) fun c1 H => ?_
 ·
  refine T_cond_t (has rfl) c1 ?_
  refine Sr ?_
  refine Ya ?_
  refine Nn ?_
  refine Rr ?_
  cases H
  exact T_out1 rfl (hasS rfl) rfl
 ·
  refine T_cond_f (has rfl) c1 ?_
  refine T_skip ?_
  refine T_then_n ?_
  revert H; refine bs fun o1 H Hr1 => ?_
  refine T_seqJ (ι := Unit) (fun i => o1 = Sum.inl ()) (fun i => []) (fun i => []) ?_ ?_
  ·
   refine Sr ?_
   refine Ya ?_
   refine Nn ?_
   refine T_block ?_
   refine T_loop (ι := Nat × Int) (fun i => r05_SameKinds_l1 a0 a1 i.1 i.2 = _) (fun i => i.1) (fun i => [(0, fSl (tInt .i64) a0), (1, fSl (tInt .i64) a1), (5, fInt .i64 i.2)]) (fun i => []) (fuel, 0) H (Sc (Sc (Sc SubT.nil))) rfl ?_
   clear H; rintro ⟨k1, x2⟩ H
   replace H : r05_SameKinds_l1 a0 a1 k1 x2 = _ := H
   show T β _ _ [(0, fSl (tInt .i64) a0), (1, fSl (tInt .i64) a1), (5, fInt .i64 x2)] [] _
   obtain _ | k1 := k1
   ·
    rw [r05_SameKinds_l1] at H; cases H
   rw [r05_SameKinds_l1] at H
   refine T_seq ?_
   refine Sr ?_
   refine Ym ?_
   refine Ym ?_
   refine Yy (o_len rfl hh ty_us_37) ?_
   refine Yy (o_lss rfl hh hh) ?_
   refine Nn ?_
   revert H; refine is (fun c2 H => ?_) fun c2 H => ?_
   ·
    refine T_cond_t (has rfl) c2 ?_
    refine T_skip ?_
    refine T_then_n ?_
    refine T_seq ?_
    refine T_block ?_
    refine T_seq ?_
    revert H; refine bs fun y1 h1 H => ?_
    revert H; refine bs fun y2 h2 H => ?_
    refine T_net 9 [fun _ => .op [] false (fun _ => fSl (tInt .i64) a0) (fun _ => []), fun _ => .op [] false (fun _ => fInt .i64 x2) (fun _ => []), fun _ => .op [] false (fun _ => fPtr (tInt .i64) y1) (fun _ => []), fun _ => .op [] false (fun _ => fInt .i64 y1) (fun _ => []), fun _ => .op [] false (fun _ => fSl (tInt .i64) a1) (fun _ => []), fun _ => .op [] false (fun _ => fInt .i64 x2) (fun _ => []), fun _ => .op [] false (fun _ => fPtr (tInt .i64) y2) (fun _ => []), fun _ => .op [] false (fun _ => fInt .i64 y2) (fun _ => []), fun _ => .op [] false (fun _ => fBool (decide (y1 ≠ y2))) (fun _ => [])] [([], false, []), ([], false, []), ([], false, []), ([], false, []), ([], false, []), ([], false, []), ([], false, []), ([], false, []), ([], false, [])] 0 0 mixed (F0 (F0 (F0 (F0 (F0 (F0 (F0 (F0 (F0 FitsL.nil))))))))) (by kernel_rfl) rfl rfl (by kernel_rfl) rfl ?_
    dsimp only [netL, List.take, List.replicate, List.append, List.drop]
    refine My (h := o_move rfl hh) (k := fun _ => ?_)
    refine My (h := o_move rfl hh) (k := fun _ => ?_)
    refine My (h := o_index rfl hh hh ty_el_37 h1) (k := fun _ => ?_)
    refine My (h := o_load rfl hh ty_sc_41 rfl) (k := fun _ => ?_)
    refine My (h := o_move rfl hh) (k := fun _ => ?_)
    refine My (h := o_move rfl hh) (k := fun _ => ?_)
    refine My (h := o_index rfl hh hh ty_el_37 h2) (k := fun _ => ?_)
    refine My (h := o_load rfl hh ty_sc_41 rfl) (k := fun _ => ?_)
    refine My (h := o_neq rfl hh hh) (k := fun _ => ?_)
    refine N_done rfl ?_
    refine Nn ?_
    revert H; refine is (fun c3 H => ?_) fun c3 H => ?_
    ·
     refine T_cond_t (has rfl) c3 ?_
     refine Sr ?_
     refine Ya ?_
     refine Nn ?_
     refine T_retc ?_
     refine T_in_ret ?_
     refine T_then_ret ?_
     refine T_then_ret ?_
     refine T_in_ret ?_
     refine T_then_ret ?_
     revert H; refine bs fun r1 H e1 => ?_
     have e1 := Option.some.inj e1; subst e1; have Hr1 := Option.some.inj Hr1; subst Hr1
     cases H
     exact T_out1 rfl (hasS rfl) rfl
    ·
     refine T_cond_f (has rfl) c3 ?_
     refine T_skip ?_
     refine T_in_n ?_
     refine T_then_n ?_
     refine T_region ?_
     refine Ym ?_
     revert H; refine bs fun z1 h3 H => ?_
     refine Yy (o_add rfl hh hh h3) ?_
     refine Ya ?_
     refine Nn ?_
     exact T_meet ((k1, z1)) ⟨H, Nat.lt_succ_self _⟩ (Sc (Sc (Sc SubT.nil))) rfl
   ·
    refine T_cond_f (has rfl) c2 ?_
    refine T_exit ?_
    refine T_then_exit ?_
    refine T_then_exit ?_
    refine T_in_hit ?_
    refine T_then_n ?_
    exact T_meet (()) (Option.some.inj H).symm SubT.nil rfl
  ·
   clear H; intro i hi; subst o1; have H := Hr1; clear Hr1; try dsimp only at H
   show T β _ _ [] [] _
   refine Sr ?_
   refine Ya ?_
   refine Nn ?_
   refine T_retc ?_
   cases H
   exact T_out1 rfl (hasS rfl) rfl
def r05_Same_l2 (fuel : Nat) (a0 : List UsageDef) (a1 : List UsageDef) (x2 : Int) : Nat → Int → Option ((Unit) ⊕ ((Unit) ⊕ (Bool)))
| 0, _ => none
| k + 1, x4 =>
 (idx a0 x2).bind fun y9 =>
 if x4 < (y9.Args.length : Int) then
  (idx a0 x2).bind fun y10 =>
  (idx y10.Args x4).bind fun y11 =>
  (idx a1 x2).bind fun y12 =>
  (idx y12.Args x4).bind fun y13 =>
  (r05_SameKinds_S fuel y11 y13).bind fun y14 =>
  bif y14 then
   (chk (x4 + 1)).bind fun z1 =>
   r05_Same_l2 fuel a0 a1 x2 k z1
  else
   ((some false).bind fun r => some (Sum.inr r)).bind fun r => some (Sum.inr r)
 else
  some (Sum.inl ())
def r05_Same_l1 (fuel : Nat) (a0 : List UsageDef) (a1 : List UsageDef) : Nat → Int → Option ((Unit) ⊕ (Bool))
| 0, _ => none
| k + 1, x2 =>
 if x2 < (a0.length : Int) then
  ((idx a0 x2).bind fun y1 =>
  (idx a1 x2).bind fun y2 =>
  (r05_SameKinds_S fuel y1.Chans y2.Chans).bind fun y3 =>
  bif !y3 then
   ((some false).bind fun r => some (Sum.inr r)).bind fun r => some (Sum.inr r)
  else
   (idx a0 x2).bind fun y4 =>
   (idx a1 x2).bind fun y5 =>
   (r05_SameKinds_S fuel y4.Rules y5.Rules).bind fun y6 =>
   bif !y6 then
    ((some false).bind fun r => some (Sum.inr r)).bind fun r => some (Sum.inr r)
   else
    (idx a0 x2).bind fun y7 =>
    (idx a1 x2).bind fun y8 =>
    if (y7.Args.length : Int) ≠ (y8.Args.length : Int) then
     ((some false).bind fun r => some (Sum.inr r)).bind fun r => some (Sum.inr r)
    else
     r05_Same_l2 fuel a0 a1 x2 fuel 0).bind fun o => match o with
  | Sum.inr r => some r
  | Sum.inl _ =>
  (chk (x2 + 1)).bind fun z2 =>
  r05_Same_l1 fuel a0 a1 k z2
 else
  some (Sum.inl ())
def r05_Same_S (fuel : Nat) (a0 : List UsageDef) (a1 : List UsageDef) : Option (Bool) :=
 if (a0.length : Int) ≠ (a1.length : Int) then
  some false
 else
  (r05_Same_l1 fuel a0 a1 fuel 0).bind fun o => match o with
  | Sum.inr r => some r
  | Sum.inl _ =>
  some true
theorem r05_Same_w (fuel : Nat)  (a0 : List UsageDef) (a1 : List UsageDef) (r : Bool) (H : r05_Same_S fuel a0 a1 = some r) : FnS Try.prog 20 [fSl tUsageDef a0, fSl tUsageDef a1] [] (fBool r) (fun _ => []) := by
 unfold r05_Same_S at H
 refine FnS_of Try.func20 rfl Try.ntmps20 rfl (fun β => ?_)
 refine Sr ?_
 refine Ya ?_
 refine Nn ?_
 refine T_seq ?_
 refine Sr ?_
 refine Ym ?_
 refine Yy (o_len rfl hh ty_us_27) ?_
 refine Ym ?_
 refine Yy (o_len rfl hh ty_us_27) ?_
 refine Yy (o_neq rfl hh hh) ?_
 refine Nn ?_
 revert H; refine is (fun c1 H => ?_) fun c1 H => ?_
 ·
  refine T_cond_t (has rfl) c1 ?_
  refine Sr ?_
  refine Ya ?_
  refine Nn ?_
  refine Rr ?_
  cases H
  exact T_out1 rfl (hasS rfl) rfl
 ·
  refine T_cond_f (has rfl) c1 ?_
  refine T_skip ?_
  refine T_then_n ?_
  revert H; refine bs fun o1 H Hr1 => ?_
  refine T_seqJ (ι := Unit) (fun i => o1 = Sum.inl ()) (fun i => []) (fun i => []) ?_ ?_
  ·
   refine Sr ?_
   refine Ya ?_
   refine Nn ?_
   refine T_block ?_
   refine T_loop (ι := Nat × Int) (fun i => r05_Same_l1 fuel a0 a1 i.1 i.2 = _) (fun i => i.1) (fun i => [(0, fSl tUsageDef a0), (1, fSl tUsageDef a1), (5, fInt .i64 i.2)]) (fun i => []) (fuel, 0) H (Sc (Sc (Sc SubT.nil))) rfl ?_
   clear H; rintro ⟨k1, x2⟩ H
   replace H : r05_Same_l1 fuel a0 a1 k1 x2 = _ := H
   show T β _ _ [(0, fSl tUsageDef a0), (1, fSl tUsageDef a1), (5, fInt .i64 x2)] [] _
   obtain _ | k1 := k1
   ·
    rw [r05_Same_l1] at H; cases H
   rw [r05_Same_l1] at H
   refine T_seq ?_
   refine Sr ?_
   refine Ym ?_
   refine Ym ?_
   refine Yy (o_len rfl hh ty_us_27) ?_
   refine Yy (o_lss rfl hh hh) ?_
   refine Nn ?_
   revert H; refine is (fun c2 H => ?_) fun c2 H => ?_
   ·
    refine T_cond_t (has rfl) c2 ?_
    refine T_skip ?_
    refine T_then_n ?_
    revert H; refine bs fun o2 H Hr2 => ?_
    refine T_seqJ (ι := Unit) (fun i => o2 = Sum.inl ()) (fun i => [(0, fSl tUsageDef a0), (1, fSl tUsageDef a1), (5, fInt .i64 x2)]) (fun i => []) ?_ ?_
    ·
     refine T_block ?_
     refine T_seq ?_
     refine T_seq ?_
     revert H; refine bs fun y1 h1 H => ?_
     revert H; refine bs fun y2 h2 H => ?_
     revert H; refine bs fun y3 h3 H => ?_
     revert H; refine cs (fun c3 H => ?_) fun c3 H => ?_
     ·
      refine T_net 41 [fun _ => .op [] false (fun _ => fSl tUsageDef a0) (fun _ => []), fun _ => .op [] false (fun _ => fInt .i64 x2) (fun _ => []), fun _ => .op [] false (fun _ => fPtr tUsageDef y1) (fun _ => []), fun _ => .op [] false (fun _ => fPtr (tSl (tInt .i64)) y1.Chans) (fun _ => []), fun _ => .op [] false (fun _ => fSl (tInt .i64) y1.Chans) (fun _ => []), fun _ => .op [] false (fun _ => fSl tUsageDef a1) (fun _ => []), fun _ => .op [] false (fun _ => fInt .i64 x2) (fun _ => []), fun _ => .op [] false (fun _ => fPtr tUsageDef y2) (fun _ => []), fun _ => .op [] false (fun _ => fPtr (tSl (tInt .i64)) y2.Chans) (fun _ => []), fun _ => .op [] false (fun _ => fSl (tInt .i64) y2.Chans) (fun _ => []), fun _ => .op [] true (fun _ => fBool y3) (fun _ => []), fun _ => .op [] false (fun _ => fBool (!y3)) (fun _ => []), fun _ => .op [] false (fun _ => fBool (!y3)) (fun _ => []), fun _ => .skip, fun _ => .skip, fun _ => .skip, fun _ => .skip, fun _ => .skip, fun _ => .skip, fun _ => .skip, fun _ => .skip, fun _ => .skip, fun _ => .skip, fun _ => .skip, fun _ => .skip, fun _ => .op [] false (fun _ => fBool true) (fun _ => []), fun _ => .op [] false (fun _ => fBool true) (fun _ => []), fun _ => .skip, fun _ => .skip, fun _ => .skip, fun _ => .skip, fun _ => .skip, fun _ => .skip, fun _ => .skip, fun _ => .skip, fun _ => .skip, fun _ => .skip, fun _ => .skip, fun _ => .skip, fun _ => .skip, fun _ => .op [] false (fun _ => fBool true) (fun _ => [])] [([], false, []), ([], false, []), ([], false, []), ([], false, []), ([], false, []), ([], false, []), ([], false, []), ([], false, []), ([], false, []), ([], false, []), ([], true, []), ([], false, []), ([], false, []), ([], false, []), ([], false, []), ([], false, []), ([], false, []), ([], false, []), ([], false, []), ([], false, []), ([], false, []), ([], false, []), ([], false, []), ([], false, []), ([], false, []), ([], false, []), ([], false, []), ([], false, []), ([], false, []), ([], false, []), ([], false, []), ([], false, []), ([], false, []), ([], false, []), ([], false, []), ([], false, []), ([], false, []), ([], false, []), ([], false, []), ([], false, []), ([], false, [])] 0 0 mixed (F0 (F0 (F0 (F0 (F0 (F0 (F0 (F0 (F0 (F0 (F0 (F0 (F0 (F0 (F0 (F0 (F0 (F0 (F0 (F0 (F0 (F0 (F0 (F0 (F0 (F0 (F0 (F0 (F0 (F0 (F0 (F0 (F0 (F0 (F0 (F0 (F0 (F0 (F0 (F0 (F0 FitsL.nil))))))))))))))))))))))))))))))))))))))))) (by kernel_rfl) rfl rfl (by kernel_rfl) rfl ?_
      dsimp only [netL, List.take, List.replicate, List.append, List.drop]
      refine My (h := o_move rfl hh) (k := fun _ => ?_)
      refine My (h := o_move rfl hh) (k := fun _ => ?_)
      refine My (h := o_index rfl hh hh ty_el_27 h1) (k := fun _ => ?_)
      refine My (h := o_field (t' := (tSl (tInt .i64))) (z := y1.Chans) rfl hh ty_fa_40_0 rfl) (k := fun _ => ?_)
      refine My (h := o_load rfl hh ty_sc_37 rfl) (k := fun _ => ?_)
      refine My (h := o_move rfl hh) (k := fun _ => ?_)
      refine My (h := o_move rfl hh) (k := fun _ => ?_)
      refine My (h := o_index rfl hh hh ty_el_27 h2) (k := fun _ => ?_)
      refine My (h := o_field (t' := (tSl (tInt .i64))) (z := y2.Chans) rfl hh ty_fa_40_0 rfl) (k := fun _ => ?_)
      refine My (h := o_load rfl hh ty_sc_37 rfl) (k := fun _ => ?_)
      refine N_call (Φ := fBool y3) rfl (fun _ => rfl) trivial rfl rfl (has rfl) (HasL.cons (has rfl) (HasL.cons (has rfl) HasL.nil)) rfl ty_cb_48 (r05_SameKinds_w fuel y1.Chans y2.Chans y3 h3) (fun _ => ?_)
      refine My (h := o_not rfl hh) (k := fun _ => ?_)
      refine My (h := o_move rfl hh) (k := fun _ => ?_)
      refine Ms (hc := ne_ft c3) (k := fun _ => ?_)
      refine Ms (hc := ne_ft c3) (k := fun _ => ?_)
      refine Ms (hc := ne_ft c3) (k := fun _ => ?_)
      refine Ms (hc := ne_ft c3) (k := fun _ => ?_)
      refine Ms (hc := ne_ft c3) (k := fun _ => ?_)
      refine Ms (hc := ne_ft c3) (k := fun _ => ?_)
      refine Ms (hc := ne_ft c3) (k := fun _ => ?_)
      refine Ms (hc := ne_ft c3) (k := fun _ => ?_)
      refine Ms (hc := ne_ft c3) (k := fun _ => ?_)
      refine Ms (hc := ne_ft c3) (k := fun _ => ?_)
      refine Ms (hc := ne_ft c3) (k := fun _ => ?_)
      refine Ms (hc := ne_ft c3) (k := fun _ => ?_)
      refine My (h := o_pick_t rfl hh c3 hh) (k := fun _ => ?_)
      refine My (h := o_move rfl hh) (k := fun _ => ?_)
      refine Ms (hc := by decide) (k := fun _ => ?_)
      refine Ms (hc := by decide) (k := fun _ => ?_)
      refine Ms (hc := by decide) (k := fun _ => ?_)
      refine Ms (hc := by decide) (k := fun _ => ?_)
      refine Ms (hc := by decide) (k := fun _ => ?_)
      refine Ms (hc := by decide) (k := fun _ => ?_)
      refine Ms (hc := by decide) (k := fun _ => ?_)
      refine Ms (hc := by decide) (k := fun _ => ?_)
      refine Ms (hc := by decide) (k := fun _ => ?_)
      refine Ms (hc := by decide) (k := fun _ => ?_)
      refine Ms (hc := by decide) (k := fun _ => ?_)
      refine Ms (hc := by decide) (k := fun _ => ?_)
      refine Ms (hc := by decide) (k := fun _ => ?_)
      refine My (h := o_pick_t rfl hh rfl hh) (k := fun _ => ?_)
      refine N_done rfl ?_
      refine Nn ?_
      refine T_cond_t (has rfl) rfl ?_
      refine Sr ?_
      refine Ya ?_
      refine Nn ?_
      refine Rr ?_
      refine T_in_ret ?_
      refine T_then_ret ?_
      revert H; refine bs fun r1 H e1 => ?_
      have e1 := Option.some.inj e1; subst e1; have Hr2 := Option.some.inj Hr2; subst Hr2
      refine T_then_ret ?_
      refine T_in_ret ?_
      refine T_then_ret ?_
      revert H; refine bs fun r2 H e2 => ?_
      have e2 := Option.some.inj e2; subst e2; have Hr1 := Option.some.inj Hr1; subst Hr1
      cases H
      exact T_out1 rfl (hasS rfl) rfl
     ·
      revert H; refine bs fun y4 h4 H => ?_
      revert H; refine bs fun y5 h5 H => ?_
      revert H; refine bs fun y6 h6 H => ?_
      revert H; refine cs (fun c4 H => ?_) fun c4 H => ?_
      ·
       refine T_net 41 [fun _ => .op [] false (fun _ => fSl tUsageDef a0) (fun _ => []), fun _ => .op [] false (fun _ => fInt .i64 x2) (fun _ => []), fun _ => .op [] false (fun _ => fPtr tUsageDef y1) (fun _ => []), fun _ => .op [] false (fun _ => fPtr (tSl (tInt .i64)) y1.Chans) (fun _ => []), fun _ => .op [] false (fun _ => fSl (tInt .i64) y1.Chans) (fun _ => []), fun _ => .op [] false (fun _ => fSl tUsageDef a1) (fun _ => []), fun _ => .op [] false (fun _ => fInt .i64 x2) (fun _ => []), fun _ => .op [] false (fun _ => fPtr tUsageDef y2) (fun _ => []), fun _ => .op [] false (fun _ => fPtr (tSl (tInt .i64)) y2.Chans) (fun _ => []), fun _ => .op [] false (fun _ => fSl (tInt .i64) y2.Chans) (fun _ => []), fun _ => .op [] true (fun _ => fBool y3) (fun _ => []), fun _ => .op [] false (fun _ => fBool (!y3)) (fun _ => []), fun _ => .op [] false (fun _ => fBool (!y3)) (fun _ => []), fun _ => .op [] false (fun _ => fSl tUsageDef a0) (fun _ => []), fun _ => .op [] false (fun _ => fInt .i64 x2) (fun _ => []), fun _ => .op [] false (fun _ => fPtr tUsageDef y4) (fun _ => []), fun _ => .op [] false (fun _ => fPtr (tSl (tInt .i64)) y4.Rules) (fun _ => []), fun _ => .op [] false (fun _ => fSl (tInt .i64) y4.Rules) (fun _ => []), fun _ => .op [] false (fun _ => fSl tUsageDef a1) (fun _ => []), fun _ => .op [] false (fun _ => fInt .i64 x2) (fun _ => []), fun _ => .op [] false (fun _ => fPtr tUsageDef y5) (fun _ => []), fun _ => .op [] false (fun _ => fPtr (tSl (tInt .i64)) y5.Rules) (fun _ => []), fun _ => .op [] false (fun _ => fSl (tInt .i64) y5.Rules) (fun _ => []), fun _ => .op [] true (fun _ => fBool y6) (fun _ => []), fun _ => .op [] false (fun _ => fBool (!y6)) (fun _ => []), fun _ => .op [] false (fun _ => fBool (!y6)) (fun _ => []), fun _ => .op [] false (fun _ => fBool (!y6)) (fun _ => []), fun _ => .skip, fun _ => .skip, fun _ => .skip, fun _ => .skip, fun _ => .skip, fun _ => .skip, fun _ => .skip, fun _ => .skip, fun _ => .skip, fun _ => .skip, fun _ => .skip, fun _ => .skip, fun _ => .skip, fun _ => .op [] false (fun _ => fBool true) (fun _ => [])] [([], false, []), ([], false, []), ([], false, []), ([], false, []), ([], false, []), ([], false, []), ([], false, []), ([], false, []), ([], false, []), ([], false, []), ([], true, []), ([], false, []), ([], false, []), ([], false, []), ([], false, []), ([], false, []), ([], false, []), ([], false, []), ([], false, []), ([], false, []), ([], false, []), ([], false, []), ([], false, []), ([], true, []), ([], false, []), ([], false, []), ([], false, []), ([], false, []), ([], false, []), ([], false, []), ([], false, []), ([], false, []), ([], false, []), ([], false, []), ([], false, []), ([], false, []), ([], false, []), ([], false, []), ([], false, []), ([], false, []), ([], false, [])] 0 0 mixed (F0 (F0 (F0 (F0 (F0 (F0 (F0 (F0 (F0 (F0 (F0 (F0 (F0 (F0 (F0 (F0 (F0 (F0 (F0 (F0 (F0 (F0 (F0 (F0 (F0 (F0 (F0 (F0 (F0 (F0 (F0 (F0 (F0 (F0 (F0 (F0 (F0 (F0 (F0 (F0 (F0 FitsL.nil))))))))))))))))))))))))))))))))))))))))) (by kernel_rfl) rfl rfl (by kernel_rfl) rfl ?_
       dsimp only [netL, List.take, List.replicate, List.append, List.drop]
       refine My (h := o_move rfl hh) (k := fun _ => ?_)
       refine My (h := o_move rfl hh) (k := fun _ => ?_)
       refine My (h := o_index rfl hh hh ty_el_27 h1) (k := fun _ => ?_)
       refine My (h := o_field (t' := (tSl (tInt .i64))) (z := y1.Chans) rfl hh ty_fa_40_0 rfl) (k := fun _ => ?_)
       refine My (h := o_load rfl hh ty_sc_37 rfl) (k := fun _ => ?_)
       refine My (h := o_move rfl hh) (k := fun _ => ?_)
       refine My (h := o_move rfl hh) (k := fun _ => ?_)
       refine My (h := o_index rfl hh hh ty_el_27 h2) (k := fun _ => ?_)
       refine My (h := o_field (t' := (tSl (tInt .i64))) (z := y2.Chans) rfl hh ty_fa_40_0 rfl) (k := fun _ => ?_)
       refine My (h := o_load rfl hh ty_sc_37 rfl) (k := fun _ => ?_)
       refine N_call (Φ := fBool y3) rfl (fun _ => rfl) trivial rfl rfl (has rfl) (HasL.cons (has rfl) (HasL.cons (has rfl) HasL.nil)) rfl ty_cb_48 (r05_SameKinds_w fuel y1.Chans y2.Chans y3 h3) (fun _ => ?_)
       refine My (h := o_not rfl hh) (k := fun _ => ?_)
       refine My (h := o_move rfl hh) (k := fun _ => ?_)
       refine N_y (φ := fSl tUsageDef a0) rfl (fun _ => rfl) ⟨_, _, rfl, rfl, c3⟩ rfl (o_move rfl (has rfl)) (fun _ => ?_)
       refine N_y (φ := fInt .i64 x2) rfl (fun _ => rfl) ⟨_, _, rfl, rfl, c3⟩ rfl (o_move rfl (has rfl)) (fun _ => ?_)
       refine N_y (φ := fPtr tUsageDef y4) rfl (fun _ => rfl) ⟨_, _, rfl, rfl, c3⟩ rfl (o_index rfl (has rfl) (has rfl) ty_el_27 h4) (fun _ => ?_)
       refine N_y (φ := fPtr (tSl (tInt .i64)) y4.Rules) rfl (fun _ => rfl) ⟨_, _, rfl, rfl, c3⟩ rfl (o_field (t' := (tSl (tInt .i64))) (z := y4.Rules) rfl (has rfl) ty_fa_40_1 rfl) (fun _ => ?_)
       refine N_y (φ := fSl (tInt .i64) y4.Rules) rfl (fun _ => rfl) ⟨_, _, rfl, rfl, c3⟩ rfl (o_load rfl (has rfl) ty_sc_37 rfl) (fun _ => ?_)
       refine N_y (φ := fSl tUsageDef a1) rfl (fun _ => rfl) ⟨_, _, rfl, rfl, c3⟩ rfl (o_move rfl (has rfl)) (fun _ => ?_)
       refine N_y (φ := fInt .i64 x2) rfl (fun _ => rfl) ⟨_, _, rfl, rfl, c3⟩ rfl (o_move rfl (has rfl)) (fun _ => ?_)
       refine N_y (φ := fPtr tUsageDef y5) rfl (fun _ => rfl) ⟨_, _, rfl, rfl, c3⟩ rfl (o_index rfl (has rfl) (has rfl) ty_el_27 h5) (fun _ => ?_)
       refine N_y (φ := fPtr (tSl (tInt .i64)) y5.Rules) rfl (fun _ => rfl) ⟨_, _, rfl, rfl, c3⟩ rfl (o_field (t' := (tSl (tInt .i64))) (z := y5.Rules) rfl (has rfl) ty_fa_40_1 rfl) (fun _ => ?_)
       refine N_y (φ := fSl (tInt .i64) y5.Rules) rfl (fun _ => rfl) ⟨_, _, rfl, rfl, c3⟩ rfl (o_load rfl (has rfl) ty_sc_37 rfl) (fun _ => ?_)
       refine N_call (Φ := fBool y6) rfl (fun _ => rfl) ⟨_, _, rfl, rfl, c3⟩ rfl rfl (has rfl) (HasL.cons (has rfl) (HasL.cons (has rfl) HasL.nil)) rfl ty_cb_48 (r05_SameKinds_w fuel y4.Rules y5.Rules y6 h6) (fun _ => ?_)
       refine N_y (φ := fBool (!y6)) rfl (fun _ => rfl) ⟨_, _, rfl, rfl, c3⟩ rfl (o_not rfl (has rfl)) (fun _ => ?_)
       refine My (h := o_pick_f rfl hh c3 hh) (k := fun _ => ?_)
       refine My (h := o_move rfl hh) (k := fun _ => ?_)
       refine Ms (hc := ne_ft c4) (k := fun _ => ?_)
       refine Ms (hc := ne_ft c4) (k := fun _ => ?_)
       refine Ms (hc := ne_ft c4) (k := fun _ => ?_)
       refine Ms (hc := ne_ft c4) (k := fun _ => ?_)
       refine Ms (hc := ne_ft c4) (k := fun _ => ?_)
       refine Ms (hc := ne_ft c4) (k := fun _ => ?_)
       refine Ms (hc := ne_ft c4) (k := fun _ => ?_)
       refine Ms (hc := ne_ft c4) (k := fun _ => ?_)
       refine Ms (hc := ne_ft c4) (k := fun _ => ?_)
       refine Ms (hc := ne_ft c4) (k := fun _ => ?_)
       refine Ms (hc := ne_ft c4) (k := fun _ => ?_)
       refine Ms (hc := ne_ft c4) (k := fun _ => ?_)
       refine Ms (hc := ne_ft c4) (k := fun _ => ?_)
       refine My (h := o_pick_t rfl hh c4 hh) (k := fun _ => ?_)
       refine N_done rfl ?_
       refine Nn ?_
       refine T_cond_t (has rfl) rfl ?_
       refine Sr ?_
       refine Ya ?_
       refine Nn ?_
       refine Rr ?_
       refine T_in_ret ?_
       refine T_then_ret ?_
       revert H; refine bs fun r3 H e3 => ?_
       have e3 := Option.some.inj e3; subst e3; have Hr2 := Option.some.inj Hr2; subst Hr2
       refine T_then_ret ?_
       refine T_in_ret ?_
       refine T_then_ret ?_
       revert H; refine bs fun r4 H e4 => ?_
       have e4 := Option.some.inj e4; subst e4; have Hr1 := Option.some.inj Hr1; subst Hr1
       cases H
       exact T_out1 rfl (hasS rfl) rfl
      ·
       revert H; refine bs fun y7 h7 H => ?_
       revert H; refine bs fun y8 h8 H => ?_
       refine T_net 41 [fun _ => .op [] false (fun _ => fSl tUsageDef a0) (fun _ => []), fun _ => .op [] false (fun _ => fInt .i64 x2) (fun _ => []), fun _ => .op [] false (fun _ => fPtr tUsageDef y1) (fun _ => []), fun _ => .op [] false (fun _ => fPtr (tSl (tInt .i64)) y1.Chans) (fun _ => []), fun _ => .op [] false (fun _ => fSl (tInt .i64) y1.Chans) (fun _ => []), fun _ => .op [] false (fun _ => fSl tUsageDef a1) (fun _ => []), fun _ => .op [] false (fun _ => fInt .i64 x2) (fun _ => []), fun _ => .op [] false (fun _ => fPtr tUsageDef y2) (fun _ => []), fun _ => .op [] false (fun _ => fPtr (tSl (tInt .i64)) y2.Chans) (fun _ => []), fun _ => .op [] false (fun _ => fSl (tInt .i64) y2.Chans) (fun _ => []), fun _ => .op [] true (fun _ => fBool y3) (fun _ => []), fun _ => .op [] false (fun _ => fBool (!y3)) (fun _ => []), fun _ => .op [] false (fun _ => fBool (!y3)) (fun _ => []), fun _ => .op [] false (fun _ => fSl tUsageDef a0) (fun _ => []), fun _ => .op [] false (fun _ => fInt .i64 x2) (fun _ => []), fun _ => .op [] false (fun _ => fPtr tUsageDef y4) (fun _ => []), fun _ => .op [] false (fun _ => fPtr (tSl (tInt .i64)) y4.Rules) (fun _ => []), fun _ => .op [] false (fun _ => fSl (tInt .i64) y4.Rules) (fun _ => []), fun _ => .op [] false (fun _ => fSl tUsageDef a1) (fun _ => []), fun _ => .op [] false (fun _ => fInt .i64 x2) (fun _ => []), fun _ => .op [] false (fun _ => fPtr tUsageDef y5) (fun _ => []), fun _ => .op [] false (fun _ => fPtr (tSl (tInt .i64)) y5.Rules) (fun _ => []), fun _ => .op [] false (fun _ => fSl (tInt .i64) y5.Rules) (fun _ => []), fun _ => .op [] true (fun _ => fBool y6) (fun _ => []), fun _ => .op [] false (fun _ => fBool (!y6)) (fun _ => []), fun _ => .op [] false (fun _ => fBool (!y6)) (fun _ => []), fun _ => .op [] false (fun _ => fBool (!y6)) (fun _ => []), fun _ => .op [] false (fun _ => fSl tUsageDef a0) (fun _ => []), fun _ => .op [] false (fun _ => fInt .i64 x2) (fun _ => []), fun _ => .op [] false (fun _ => fPtr tUsageDef y7) (fun _ => []), fun _ => .op [] false (fun _ => fPtr (tSl (tSl (tInt .i64))) y7.Args) (fun _ => []), fun _ => .op [] false (fun _ => fSl (tSl (tInt .i64)) y7.Args) (fun _ => []), fun _ => .op [] false (fun _ => fInt .i64 (y7.Args.length : Int)) (fun _ => []), fun _ => .op [] false (fun _ => fSl tUsageDef a1) (fun _ => []), fun _ => .op [] false (fun _ => fInt .i64 x2) (fun _ => []), fun _ => .op [] false (fun _ => fPtr tUsageDef y8) (fun _ => []), fun _ => .op [] false (fun _ => fPtr (tSl (tSl (tInt .i64))) y8.Args) (fun _ => []), fun _ => .op [] false (fun _ => fSl (tSl (tInt .i64)) y8.Args) (fun _ => []), fun _ => .op [] false (fun _ => fInt .i64 (y8.Args.length : Int)) (fun _ => []), fun _ => .op [] false (fun _ => fBool (decide ((y7.Args.length : Int) ≠ (y8.Args.length : Int)))) (fun _ => []), fun _ => .op [] false (fun _ => fBool (decide ((y7.Args.length : Int) ≠ (y8.Args.length : Int)))) (fun _ => [])] [([], false, []), ([], false, []), ([], false, []), ([], false, []), ([], false, []), ([], false, []), ([], false, []), ([], false, []), ([], false, []), ([], false, []), ([], true, []), ([], false, []), ([], false, []), ([], false, []), ([], false, []), ([], false, []), ([], false, []), ([], false, []), ([], false, []), ([], false, []), ([], false, []), ([], false, []), ([], false, []), ([], true, []), ([], false, []), ([], false, []), ([], false, []), ([], false, []), ([], false, []), ([], false, []), ([], false, []), ([], false, []), ([], false, []), ([], false, []), ([], false, []), ([], false, []), ([], false, []), ([], false, []), ([], false, []), ([], false, []), ([], false, [])] 0 0 mixed (F0 (F0 (F0 (F0 (F0 (F0 (F0 (F0 (F0 (F0 (F0 (F0 (F0 (F0 (F0 (F0 (F0 (F0 (F0 (F0 (F0 (F0 (F0 (F0 (F0 (F0 (F0 (F0 (F0 (F0 (F0 (F0 (F0 (F0 (F0 (F0 (F0 (F0 (F0 (F0 (F0 FitsL.nil))))))))))))))))))))))))))))))))))))))))) (by kernel_rfl) rfl rfl (by kernel_rfl) rfl ?_
       dsimp only [netL, List.take, List.replicate, List.append, List.drop]
       refine My (h := o_move rfl hh) (k := fun _ => ?_)
       refine My (h := o_move rfl hh) (k := fun _ => ?_)
       refine My (h := o_index rfl hh hh ty_el_27 h1) (k := fun _ => ?_)
       refine My (h := o_field (t' := (tSl (tInt .i64))) (z := y1.Chans) rfl hh ty_fa_40_0 rfl) (k := fun _ => ?_)
       refine My (h := o_load rfl hh ty_sc_37 rfl) (k := fun _ => ?_)
       refine My (h := o_move rfl hh) (k := fun _ => ?_)
       refine My (h := o_move rfl hh) (k := fun _ => ?_)
       refine My (h := o_index rfl hh hh ty_el_27 h2) (k := fun _ => ?_)
       refine My (h := o_field (t' := (tSl (tInt .i64))) (z := y2.Chans) rfl hh ty_fa_40_0 rfl) (k := fun _ => ?_)
       refine My (h := o_load rfl hh ty_sc_37 rfl) (k := fun _ => ?_)
       refine N_call (Φ := fBool y3) rfl (fun _ => rfl) trivial rfl rfl (has rfl) (HasL.cons (has rfl) (HasL.cons (has rfl) HasL.nil)) rfl ty_cb_48 (r05_SameKinds_w fuel y1.Chans y2.Chans y3 h3) (fun _ => ?_)
       refine My (h := o_not rfl hh) (k := fun _ => ?_)
       refine My (h := o_move rfl hh) (k := fun _ => ?_)
       refine N_y (φ := fSl tUsageDef a0) rfl (fun _ => rfl) ⟨_, _, rfl, rfl, c3⟩ rfl (o_move rfl (has rfl)) (fun _ => ?_)
       refine N_y (φ := fInt .i64 x2) rfl (fun _ => rfl) ⟨_, _, rfl, rfl, c3⟩ rfl (o_move rfl (has rfl)) (fun _ => ?_)
       refine N_y (φ := fPtr tUsageDef y4) rfl (fun _ => rfl) ⟨_, _, rfl, rfl, c3⟩ rfl (o_index rfl (has rfl) (has rfl) ty_el_27 h4) (fun _ => ?_)
       refine N_y (φ := fPtr (tSl (tInt .i64)) y4.Rules) rfl (fun _ => rfl) ⟨_, _, rfl, rfl, c3⟩ rfl (o_field (t' := (tSl (tInt .i64))) (z := y4.Rules) rfl (has rfl) ty_fa_40_1 rfl) (fun _ => ?_)
       refine N_y (φ := fSl (tInt .i64) y4.Rules) rfl (fun _ => rfl) ⟨_, _, rfl, rfl, c3⟩ rfl (o_load rfl (has rfl) ty_sc_37 rfl) (fun _ => ?_)
       refine N_y (φ := fSl tUsageDef a1) rfl (fun _ => rfl) ⟨_, _, rfl, rfl, c3⟩ rfl (o_move rfl (has rfl)) (fun _ => ?_)
       refine N_y (φ := fInt .i64 x2) rfl (fun _ => rfl) ⟨_, _, rfl, rfl, c3⟩ rfl (o_move rfl (has rfl)) (fun _ => ?_)
       refine N_y (φ := fPtr tUsageDef y5) rfl (fun _ => rfl) ⟨_, _, rfl, rfl, c3⟩ rfl (o_index rfl (has rfl) (has rfl) ty_el_27 h5) (fun _ => ?_)
       refine N_y (φ := fPtr (tSl (tInt .i64)) y5.Rules) rfl (fun _ => rfl) ⟨_, _, rfl, rfl, c3⟩ rfl (o_field (t' := (tSl (tInt .i64))) (z := y5.Rules) rfl (has rfl) ty_fa_40_1 rfl) (fun _ => ?_)
       refine N_y (φ := fSl (tInt .i64) y5.Rules) rfl (fun _ => rfl) ⟨_, _, rfl, rfl, c3⟩ rfl (o_load rfl (has rfl) ty_sc_37 rfl) (fun _ => ?_)
       refine N_call (Φ := fBool y6) rfl (fun _ => rfl) ⟨_, _, rfl, rfl, c3⟩ rfl rfl (has rfl) (HasL.cons (has rfl) (HasL.cons (has rfl) HasL.nil)) rfl ty_cb_48 (r05_SameKinds_w fuel y4.Rules y5.Rules y6 h6) (fun _ => ?_)
       refine N_y (φ := fBool (!y6)) rfl (fun _ => rfl) ⟨_, _, rfl, rfl, c3⟩ rfl (o_not rfl (has rfl)) (fun _ => ?_)
       refine My (h := o_pick_f rfl hh c3 hh) (k := fun _ => ?_)
       refine My (h := o_move rfl hh) (k := fun _ => ?_)
       refine N_y (φ := fSl tUsageDef a0) rfl (fun _ => rfl) ⟨_, _, rfl, rfl, c4⟩ rfl (o_move rfl (has rfl)) (fun _ => ?_)
       refine N_y (φ := fInt .i64 x2) rfl (fun _ => rfl) ⟨_, _, rfl, rfl, c4⟩ rfl (o_move rfl (has rfl)) (fun _ => ?_)
       refine N_y (φ := fPtr tUsageDef y7) rfl (fun _ => rfl) ⟨_, _, rfl, rfl, c4⟩ rfl (o_index rfl (has rfl) (has rfl) ty_el_27 h7) (fun _ => ?_)
       refine N_y (φ := fPtr (tSl (tSl (tInt .i64))) y7.Args) rfl (fun _ => rfl) ⟨_, _, rfl, rfl, c4⟩ rfl (o_field (t' := (tSl (tSl (tInt .i64)))) (z := y7.Args) rfl (has rfl) ty_fa_40_2 rfl) (fun _ => ?_)
       refine N_y (φ := fSl (tSl (tInt .i64)) y7.Args) rfl (fun _ => rfl) ⟨_, _, rfl, rfl, c4⟩ rfl (o_load rfl (has rfl) ty_sc_38 rfl) (fun _ => ?_)
       refine N_y (φ := fInt .i64 (y7.Args.length : Int)) rfl (fun _ => rfl) ⟨_, _, rfl, rfl, c4⟩ rfl (o_len rfl (has rfl) ty_us_38) (fun _ => ?_)
       refine N_y (φ := fSl tUsageDef a1) rfl (fun _ => rfl) ⟨_, _, rfl, rfl, c4⟩ rfl (o_move rfl (has rfl)) (fun _ => ?_)
       refine N_y (φ := fInt .i64 x2) rfl (fun _ => rfl) ⟨_, _, rfl, rfl, c4⟩ rfl (o_move rfl (has rfl)) (fun _ => ?_)
       refine N_y (φ := fPtr tUsageDef y8) rfl (fun _ => rfl) ⟨_, _, rfl, rfl, c4⟩ rfl (o_index rfl (has rfl) (has rfl) ty_el_27 h8) (fun _ => ?_)
       refine N_y (φ := fPtr (tSl (tSl (tInt .i64))) y8.Args) rfl (fun _ => rfl) ⟨_, _, rfl, rfl, c4⟩ rfl (o_field (t' := (tSl (tSl (tInt .i64)))) (z := y8.Args) rfl (has rfl) ty_fa_40_2 rfl) (fun _ => ?_)
       refine N_y (φ := fSl (tSl (tInt .i64)) y8.Args) rfl (fun _ => rfl) ⟨_, _, rfl, rfl, c4⟩ rfl (o_load rfl (has rfl) ty_sc_38 rfl) (fun _ => ?_)
       refine N_y (φ := fInt .i64 (y8.Args.length : Int)) rfl (fun _ => rfl) ⟨_, _, rfl, rfl, c4⟩ rfl (o_len rfl (has rfl) ty_us_38) (fun _ => ?_)
       refine N_y (φ := fBool (decide ((y7.Args.length : Int) ≠ (y8.Args.length : Int)))) rfl (fun _ => rfl) ⟨_, _, rfl, rfl, c4⟩ rfl (o_neq rfl (has rfl) (has rfl)) (fun _ => ?_)
       refine My (h := o_pick_f rfl hh c4 hh) (k := fun _ => ?_)
       refine N_done rfl ?_
       refine Nn ?_
       revert H; refine is (fun c5 H => ?_) fun c5 H => ?_
       ·
        refine T_cond_t (has rfl) c5 ?_
        refine Sr ?_
        refine Ya ?_
        refine Nn ?_
        refine Rr ?_
        refine T_in_ret ?_
        refine T_then_ret ?_
        revert H; refine bs fun r5 H e5 => ?_
        have e5 := Option.some.inj e5; subst e5; have Hr2 := Option.some.inj Hr2; subst Hr2
        refine T_then_ret ?_
        refine T_in_ret ?_
        refine T_then_ret ?_
        revert H; refine bs fun r6 H e6 => ?_
        have e6 := Option.some.inj e6; subst e6; have Hr1 := Option.some.inj Hr1; subst Hr1
        cases H
        exact T_out1 rfl (hasS rfl) rfl
       ·
        refine T_cond_f (has rfl) c5 ?_
        refine T_skip ?_
        refine T_then_n ?_
        refine Sr ?_
        refine Ya ?_
        refine Nn ?_
        refine T_block ?_
        refine T_loop (ι := Nat × Int) (fun i => r05_Same_l2 fuel a0 a1 x2 i.1 i.2 = _) (fun i => i.1) (fun i => [(0, fSl tUsageDef a0), (1, fSl tUsageDef a1), (5, fInt .i64 x2), (6, fInt .i64 i.2)]) (fun i => []) (fuel, 0) H (Sc (Sc (Sc (Sc SubT.nil)))) rfl ?_
        clear H; rintro ⟨k2, x4⟩ H
        replace H : r05_Same_l2 fuel a0 a1 x2 k2 x4 = _ := H
        show T β _ _ [(0, fSl tUsageDef a0), (1, fSl tUsageDef a1), (5, fInt .i64 x2), (6, fInt .i64 x4)] [] _
        obtain _ | k2 := k2
        ·
         rw [r05_Same_l2] at H; cases H
        rw [r05_Same_l2] at H
        refine T_seq ?_
        refine Sr ?_
        refine Ym ?_
        refine Ym ?_
        refine Ym ?_
        revert H; refine bs fun y9 h9 H => ?_
        refine Yy (o_index rfl hh hh ty_el_27 h9) ?_
        refine Yy (o_field (t' := (tSl (tSl (tInt .i64)))) (z := y9.Args) rfl hh ty_fa_40_2 rfl) ?_
        refine Yy (o_load rfl hh ty_sc_38 rfl) ?_
        refine Yy (o_len rfl hh ty_us_38) ?_
        refine Yy (o_lss rfl hh hh) ?_
        refine Nn ?_
        revert H; refine is (fun c6 H => ?_) fun c6 H => ?_
        ·
         refine T_cond_t (has rfl) c6 ?_
         refine T_skip ?_
         refine T_then_n ?_
         refine T_seq ?_
         refine T_block ?_
         refine T_seq ?_
         revert H; refine bs fun y10 h10 H => ?_
         revert H; refine bs fun y11 h11 H => ?_
         revert H; refine bs fun y12 h12 H => ?_
         revert H; refine bs fun y13 h13 H => ?_
         revert H; refine bs fun y14 h14 H => ?_
         refine T_net 18 [fun _ => .op [] false (fun _ => fSl tUsageDef a0) (fun _ => []), fun _ => .op [] false (fun _ => fInt .i64 x2) (fun _ => []), fun _ => .op [] false (fun _ => fPtr tUsageDef y10) (fun _ => []), fun _ => .op [] false (fun _ => fPtr (tSl (tSl (tInt .i64))) y10.Args) (fun _ => []), fun _ => .op [] false (fun _ => fSl (tSl (tInt .i64)) y10.Args) (fun _ => []), fun _ => .op [] false (fun _ => fInt .i64 x4) (fun _ => []), fun _ => .op [] false (fun _ => fPtr (tSl (tInt .i64)) y11) (fun _ => []), fun _ => .op [] false (fun _ => fSl (tInt .i64) y11) (fun _ => []), fun _ => .op [] false (fun _ => fSl tUsageDef a1) (fun _ => []), fun _ => .op [] false (fun _ => fInt .i64 x2) (fun _ => []), fun _ => .op [] false (fun _ => fPtr tUsageDef y12) (fun _ => []), fun _ => .op [] false (fun _ => fPtr (tSl (tSl (tInt .i64))) y12.Args) (fun _ => []), fun _ => .op [] false (fun _ => fSl (tSl (tInt .i64)) y12.Args) (fun _ => []), fun _ => .op [] false (fun _ => fInt .i64 x4) (fun _ => []), fun _ => .op [] false (fun _ => fPtr (tSl (tInt .i64)) y13) (fun _ => []), fun _ => .op [] false (fun _ => fSl (tInt .i64) y13) (fun _ => []), fun _ => .op [] true (fun _ => fBool y14) (fun _ => []), fun _ => .op [] false (fun _ => fBool (!y14)) (fun _ => [])] [([], false, []), ([], false, []), ([], false, []), ([], false, []), ([], false, []), ([], false, []), ([], false, []), ([], false, []), ([], false, []), ([], false, []), ([], false, []), ([], false, []), ([], false, []), ([], false, []), ([], false, []), ([], false, []), ([], true, []), ([], false, [])] 0 0 mixed (F0 (F0 (F0 (F0 (F0 (F0 (F0 (F0 (F0 (F0 (F0 (F0 (F0 (F0 (F0 (F0 (F0 (F0 FitsL.nil)))))))))))))))))) (by kernel_rfl) rfl rfl (by kernel_rfl) rfl ?_
         dsimp only [netL, List.take, List.replicate, List.append, List.drop]
         refine My (h := o_move rfl hh) (k := fun _ => ?_)
         refine My (h := o_move rfl hh) (k := fun _ => ?_)
         refine My (h := o_index rfl hh hh ty_el_27 h10) (k := fun _ => ?_)
         refine My (h := o_field (t' := (tSl (tSl (tInt .i64)))) (z := y10.Args) rfl hh ty_fa_40_2 rfl) (k := fun _ => ?_)
         refine My (h := o_load rfl hh ty_sc_38 rfl) (k := fun _ => ?_)
         refine My (h := o_move rfl hh) (k := fun _ => ?_)
         refine My (h := o_index rfl hh hh ty_el_38 h11) (k := fun _ => ?_)
         refine My (h := o_load rfl hh ty_sc_37 rfl) (k := fun _ => ?_)
         refine My (h := o_move rfl hh) (k := fun _ => ?_)
         refine My (h := o_move rfl hh) (k := fun _ => ?_)
         refine My (h := o_index rfl hh hh ty_el_27 h12) (k := fun _ => ?_)
         refine My (h := o_field (t' := (tSl (tSl (tInt .i64)))) (z := y12.Args) rfl hh ty_fa_40_2 rfl) (k := fun _ => ?_)
         refine My (h := o_load rfl hh ty_sc_38 rfl) (k := fun _ => ?_)
         refine My (h := o_move rfl hh) (k := fun _ => ?_)
         refine My (h := o_index rfl hh hh ty_el_38 h13) (k := fun _ => ?_)
         refine My (h := o_load rfl hh ty_sc_37 rfl) (k := fun _ => ?_)
         refine N_call (Φ := fBool y14) rfl (fun _ => rfl) trivial rfl rfl (has rfl) (HasL.cons (has rfl) (HasL.cons (has rfl) HasL.nil)) rfl ty_cb_48 (r05_SameKinds_w fuel y11 y13 y14 h14) (fun _ => ?_)
         refine My (h := o_not rfl hh) (k := fun _ => ?_)
         refine N_done rfl ?_
         refine Nn ?_
         revert H; refine cs (fun c7 H => ?_) fun c7 H => ?_
         ·
          refine T_cond_f (has rfl) (not_t c7) ?_
          refine T_skip ?_
          refine T_in_n ?_
          refine T_then_n ?_
          refine T_region ?_
          refine Ym ?_
          revert H; refine bs fun z1 h15 H => ?_
          refine Yy (o_add rfl hh hh h15) ?_
          refine Ya ?_
          refine Nn ?_
          exact T_meet ((k2, z1)) ⟨H, Nat.lt_succ_self _⟩ (Sc (Sc (Sc (Sc SubT.nil)))) rfl
         ·
          refine T_cond_t (has rfl) (not_f c7) ?_
          refine Sr ?_
          refine Ya ?_
          refine Nn ?_
          refine T_retc ?_
          refine T_in_ret ?_
          refine T_then_ret ?_
          refine T_then_ret ?_
          refine T_in_ret ?_
          refine T_in_ret ?_
          refine T_then_ret ?_
          revert H; refine bs fun r7 H e7 => ?_
          have e7 := Option.some.inj e7; subst e7; have Hr2 := Option.some.inj Hr2; subst Hr2
          refine T_then_ret ?_
          refine T_in_ret ?_
          refine T_then_ret ?_
          revert H; refine bs fun r8 H e8 => ?_
          have e8 := Option.some.inj e8; subst e8; have Hr1 := Option.some.inj Hr1; subst Hr1
          cases H
          exact T_out1 rfl (hasS rfl) rfl
        ·
         refine T_cond_f (has rfl) c6 ?_
         refine T_exit ?_
         refine T_then_exit ?_
         refine T_then_exit ?_
         refine T_in_hit ?_
         refine T_in_n ?_
         refine T_then_n ?_
         exact T_meet (()) (Option.some.inj H).symm (Sc (Sc (Sc SubT.nil))) rfl
    ·
     clear H; intro i hi; subst o2; have H := Hr2; clear Hr2; try dsimp only at H
     show T β _ _ [(0, fSl tUsageDef a0), (1, fSl tUsageDef a1), (5, fInt .i64 x2)] [] _
     refine T_region ?_
     refine Ym ?_
     revert H; refine bs fun z2 h16 H => ?_
     refine Yy (o_add rfl hh hh h16) ?_
     refine Ya ?_
     refine Nn ?_
     exact T_meet ((k1, z2)) ⟨H, Nat.lt_succ_self _⟩ (Sc (Sc (Sc SubT.nil))) rfl
   ·
    refine T_cond_f (has rfl) c2 ?_
    refine T_exit ?_
    refine T_then_exit ?_
    refine T_then_exit ?_
    refine T_in_hit ?_
    refine T_then_n ?_
    exact T_meet (()) (Option.some.inj H).symm SubT.nil rfl
  ·
   clear H; intro i hi; subst o1; have H := Hr1; clear Hr1; try dsimp only at H
   show T β _ _ [] [] _
   refine Sr ?_
   refine Ya ?_
   refine Nn ?_
   refine T_retc ?_
   cases H
   exact T_out1 rfl (hasS rfl) rfl
def w05_works_S (fuel : Nat)  : Option (Bool) :=
 (w05_Example_S fuel).bind fun y1 =>
 (usage_Table_S fuel (⟨y1.Free, y1.Nodes, y1.Defs, y1.Main⟩ : ScopeProg)).bind fun y2 =>
 (w05_Found_S).bind fun y3 =>
 (usage_Accepts_S fuel (⟨y1.Free, y1.Nodes, y1.Defs, y1.Main⟩ : ScopeProg) y3).bind fun y4 =>
 (w05_Found_S).bind fun y5 =>
 (usage_Sends_S fuel (⟨y1.Free, y1.Nodes, y1.Defs, y1.Main⟩ : ScopeProg) y5 7 1).bind fun y6 =>
 (usage_Sure_S fuel (⟨y1.Free, y1.Nodes, y1.Defs, y1.Main⟩ : ScopeProg) 5 3).bind fun y7 =>
 if y2.2 ≠ 0 then
  some false
 else
  if y4.2 ≠ 0 then
   some false
  else
   if y6.2 ≠ 0 then
    some false
   else
    if y7.2 ≠ 0 then
     some false
    else
     bif !y4.1 then
      some false
     else
      (w05_Found_S).bind fun y8 =>
      (r05_Same_S fuel y2.1 y8).bind fun y9 =>
      bif !y9 then
       some false
      else
       if y6.1 ≠ 4 then
        some false
       else
        if y7.1 ≠ 1 then
         some false
        else
         (w05_Found_S).bind fun y10 =>
         (idx y10 0).bind fun y11 =>
         (idx y11.Args 2).bind fun y12 =>
         (idx y12 0).bind fun y13 =>
         (usage_Accepts_S fuel (⟨y1.Free, y1.Nodes, y1.Defs, y1.Main⟩ : ScopeProg) (y10.set ((0 : Int).toNat) ({ y11 with Args := y11.Args.set ((2 : Int).toNat) (y12.set ((0 : Int).toNat) 3) }))).bind fun y14 =>
         (idx (y10.set ((0 : Int).toNat) ({ y11 with Args := y11.Args.set ((2 : Int).toNat) (y12.set ((0 : Int).toNat) 3) })) 0).bind fun y15 =>
         (idx y15.Args 2).bind fun y16 =>
         (idx y16 0).bind fun y17 =>
         (usage_Accepts_S fuel (⟨y1.Free, y1.Nodes, y1.Defs, y1.Main⟩ : ScopeProg) ((y10.set ((0 : Int).toNat) ({ y11 with Args := y11.Args.set ((2 : Int).toNat) (y12.set ((0 : Int).toNat) 3) })).set ((0 : Int).toNat) ({ y15 with Args := y15.Args.set ((2 : Int).toNat) (y16.set ((0 : Int).toNat) 2) }))).bind fun y18 =>
         (if y14.2 = 0 then
          bif !y14.1 then
           some (decide (y18.2 = 2))
          else
           some false
         else
          some false).bind fun x1 =>
         some x1
theorem w05_works_w (fuel : Nat)   (r : Bool) (H : w05_works_S fuel = some r) : FnS Try.prog 7 [] [] (fBool r) (fun _ => []) := by
 unfold w05_works_S at H
 refine FnS_of Try.func7 rfl Try.ntmps7 rfl (fun β => ?_)
 refine Sr ?_
 refine Ya ?_
 refine Nn ?_
 refine Sr ?_
 revert H; refine bs fun y1 h1 H => ?_
 refine T_call trivial rfl rfl rfl (has rfl) HasL.nil rfl ty_cb_16 (w05_Example_w fuel y1 h1) rfl ?_
 refine T_new trivial rfl rfl (n_alloc rfl ty_ze_26 rfl) (fun b1 => ?_)
 refine T_storeS (φs' := [fSl tStr y1.Free, fSl tScopeNode y1.Nodes, fSl tScopeDef y1.Defs, fInt .i64 y1.Main]) trivial rfl rfl (has rfl) (has rfl) (ll_cons (leaf_sl) (ll_cons (leaf_sl) (ll_cons (leaf_sl) (ll_cons (leaf_eq trivial) ll_nil)))) ty_sz_26 rfl rfl rfl ?_
 refine Nn ?_
 refine Sr ?_
 refine Yo 0 rfl (o_loadBS rfl hh ty_ag_26 rfl rfl) ?_
 revert H; refine bs fun y2 h2 H => ?_
 refine T_call trivial rfl rfl rfl (has rfl) (HasL.cons (has rfl) HasL.nil) rfl ty_cb_8 (usage_Table_d fuel (⟨y1.Free, y1.Nodes, y1.Defs, y1.Main⟩ : ScopeProg) y2 h2) rfl ?_
 refine Ym ?_
 refine Yy (o_extract rfl hh rfl) ?_
 refine Yy (o_extract rfl hh rfl) ?_
 refine Ya ?_
 refine Ya ?_
 refine Nn ?_
 refine T_seq ?_
 revert H; refine bs fun y3 h3 H => ?_
 revert H; refine bs fun y4 h4 H => ?_
 refine T_net 8 [fun _ => .op [0] false (fun _ => fAgg [fSl tStr y1.Free, fSl tScopeNode y1.Nodes, fSl tScopeDef y1.Defs, fInt .i64 y1.Main]) (fun _ => [tEmp]), fun _ => .op [] true (fun _ => fSl tUsageDef y3) (fun _ => []), fun _ => .op [] true (fun _ => fTup [fBool y4.1, fInt .i64 y4.2]) (fun _ => []), fun _ => .op [] false (fun _ => fTup [fBool y4.1, fInt .i64 y4.2]) (fun _ => []), fun _ => .op [] false (fun _ => fBool y4.1) (fun _ => []), fun _ => .op [] false (fun _ => fInt .i64 y4.2) (fun _ => []), fun _ => .op [] false (fun _ => fBool y4.1) (fun _ => []), fun _ => .op [] false (fun _ => fInt .i64 y4.2) (fun _ => [])] [([0], false, []), ([], true, []), ([], true, []), ([], false, []), ([], false, []), ([], false, []), ([], false, []), ([], false, [])] 0 1 mixed (F0 (F0 (F0 (F0 (F0 (F0 (F0 (F0 FitsL.nil)))))))) (by kernel_rfl) rfl rfl (by kernel_rfl) rfl ?_
 dsimp only [netL, List.take, List.replicate, List.append, List.drop]
 refine N_op (ps := [0]) (φ := fAgg [fSl tStr y1.Free, fSl tScopeNode y1.Nodes, fSl tScopeDef y1.Defs, fInt .i64 y1.Main]) rfl (fun _ => rfl) trivial rfl rfl (o_loadBS rfl (has rfl) ty_ag_26 rfl rfl) (fun _ => ?_)
 refine N_call (Φ := fSl tUsageDef y3) rfl (fun _ => rfl) trivial rfl rfl (has rfl) HasL.nil rfl ty_cb_17 (w05_Found_d y3 h3) (fun _ => ?_)
 refine N_call (Φ := fTup [fBool y4.1, fInt .i64 y4.2]) rfl (fun _ => rfl) trivial rfl rfl (has rfl) (HasL.cons (has rfl) (HasL.cons (has rfl) HasL.nil)) rfl ty_cb_9 (usage_Accepts_w fuel (⟨y1.Free, y1.Nodes, y1.Defs, y1.Main⟩ : ScopeProg) y3 y4 h4) (fun _ => ?_)
 refine My (h := o_move rfl hh) (k := fun _ => ?_)
 refine My (h := o_extract rfl hh rfl) (k := fun _ => ?_)
 refine My (h := o_extract rfl hh rfl) (k := fun _ => ?_)
 refine My (h := o_assign rfl hh) (k := fun _ => ?_)
 refine My (h := o_assign rfl hh) (k := fun _ => ?_)
 refine N_done rfl ?_
 refine Nn ?_
 refine T_seq ?_
 revert H; refine bs fun y5 h5 H => ?_
 revert H; refine bs fun y6 h6 H => ?_
 refine T_net 8 [fun _ => .op [0] false (fun _ => fAgg [fSl tStr y1.Free, fSl tScopeNode y1.Nodes, fSl tScopeDef y1.Defs, fInt .i64 y1.Main]) (fun _ => [tEmp]), fun _ => .op [] true (fun _ => fSl tUsageDef y5) (fun _ => []), fun _ => .op [] true (fun _ => fTup [fInt .i64 y6.1, fInt .i64 y6.2]) (fun _ => []), fun _ => .op [] false (fun _ => fTup [fInt .i64 y6.1, fInt .i64 y6.2]) (fun _ => []), fun _ => .op [] false (fun _ => fInt .i64 y6.1) (fun _ => []), fun _ => .op [] false (fun _ => fInt .i64 y6.2) (fun _ => []), fun _ => .op [] false (fun _ => fInt .i64 y6.1) (fun _ => []), fun _ => .op [] false (fun _ => fInt .i64 y6.2) (fun _ => [])] [([0], false, []), ([], true, []), ([], true, []), ([], false, []), ([], false, []), ([], false, []), ([], false, []), ([], false, [])] 0 1 mixed (F0 (F0 (F0 (F0 (F0 (F0 (F0 (F0 FitsL.nil)))))))) (by kernel_rfl) rfl rfl (by kernel_rfl) rfl ?_
 dsimp only [netL, List.take, List.replicate, List.append, List.drop]
 refine N_op (ps := [0]) (φ := fAgg [fSl tStr y1.Free, fSl tScopeNode y1.Nodes, fSl tScopeDef y1.Defs, fInt .i64 y1.Main]) rfl (fun _ => rfl) trivial rfl rfl (o_loadBS rfl (has rfl) ty_ag_26 rfl rfl) (fun _ => ?_)
 refine N_call (Φ := fSl tUsageDef y5) rfl (fun _ => rfl) trivial rfl rfl (has rfl) HasL.nil rfl ty_cb_17 (w05_Found_d y5 h5) (fun _ => ?_)
 refine N_call (Φ := fTup [fInt .i64 y6.1, fInt .i64 y6.2]) rfl (fun _ => rfl) trivial rfl rfl (has rfl) (HasL.cons (has rfl) (HasL.cons (has rfl) (HasL.cons (has rfl) (HasL.cons (has rfl) HasL.nil)))) rfl ty_cb_18 (usage_Sends_w fuel (⟨y1.Free, y1.Nodes, y1.Defs, y1.Main⟩ : ScopeProg) y5 7 1 y6 h6) (fun _ => ?_)
 refine My (h := o_move rfl hh) (k := fun _ => ?_)
 refine My (h := o_extract rfl hh rfl) (k := fun _ => ?_)
 refine My (h := o_extract rfl hh rfl) (k := fun _ => ?_)
 refine My (h := o_assign rfl hh) (k := fun _ => ?_)
 refine My (h := o_assign rfl hh) (k := fun _ => ?_)
 refine N_done rfl ?_
 refine Nn ?_
 refine Sr ?_
 refine Yo 0 rfl (o_loadBS rfl hh ty_ag_26 rfl rfl) ?_
 revert H; refine bs fun y7 h7 H => ?_
 refine T_call trivial rfl rfl rfl (has rfl) (HasL.cons (has rfl) (HasL.cons (has rfl) (HasL.cons (has rfl) HasL.nil))) rfl ty_cb_19 (usage_Sure_w fuel (⟨y1.Free, y1.Nodes, y1.Defs, y1.Main⟩ : ScopeProg) 5 3 y7 h7) rfl ?_
 refine Ym ?_
 refine Yy (o_extract rfl hh rfl) ?_
 refine Yy (o_extract rfl hh rfl) ?_
 refine Ya ?_
 refine Ya ?_
 refine Nn ?_
 refine T_seq ?_
 refine Sr ?_
 refine Ym ?_
 refine Yy (o_neq rfl hh hh) ?_
 refine Ym ?_
 revert H; refine is (fun c1 H => ?_) fun c1 H => ?_
 ·
  refine Yt c1 ?_
  refine Yt c1 ?_
  refine Yy (o_pick_t rfl hh c1 hh) ?_
  refine Ym ?_
  refine Yd ?_
  refine Yd ?_
  refine Yy (o_pick_t rfl hh rfl hh) ?_
  refine Ym ?_
  refine Yd ?_
  refine Yd ?_
  refine Yy (o_pick_t rfl hh rfl hh) ?_
  refine Ym ?_
  refine Yd ?_
  refine Yd ?_
  refine Yy (o_pick_t rfl hh rfl hh) ?_
  refine Ym ?_
  refine Yd ?_
  refine Yd ?_
  refine Yd ?_
  refine Yd ?_
  refine Yy (o_pick_t rfl hh rfl hh) ?_
  refine Ym ?_
  refine Yd ?_
  refine Yd ?_
  refine Yy (o_pick_t rfl hh rfl hh) ?_
  refine Ym ?_
  refine Yd ?_
  refine Yd ?_
  refine Yy (o_pick_t rfl hh rfl hh) ?_
  refine Nn ?_
  refine T_cond_t (has rfl) rfl ?_
  refine Sr ?_
  refine Ya ?_
  refine Nn ?_
  refine Rr ?_
  cases H
  refine T_pick [] (by decide) ?_
  exact T_out1 rfl (hasS rfl) rfl
 ·
  refine Yg c1 (o_move rfl hh) ?_
  refine Yg c1 (o_neq rfl hh hh) ?_
  refine Yy (o_pick_f rfl hh c1 hh) ?_
  refine Ym ?_
  revert H; refine is (fun c2 H => ?_) fun c2 H => ?_
  ·
   refine Yt c2 ?_
   refine Yt c2 ?_
   refine Yy (o_pick_t rfl hh c2 hh) ?_
   refine Ym ?_
   refine Yd ?_
   refine Yd ?_
   refine Yy (o_pick_t rfl hh rfl hh) ?_
   refine Ym ?_
   refine Yd ?_
   refine Yd ?_
   refine Yy (o_pick_t rfl hh rfl hh) ?_
   refine Ym ?_
   refine Yd ?_
   refine Yd ?_
   refine Yd ?_
   refine Yd ?_
   refine Yy (o_pick_t rfl hh rfl hh) ?_
   refine Ym ?_
   refine Yd ?_
   refine Yd ?_
   refine Yy (o_pick_t rfl hh rfl hh) ?_
   refine Ym ?_
   refine Yd ?_
   refine Yd ?_
   refine Yy (o_pick_t rfl hh rfl hh) ?_
   refine Nn ?_
   refine T_cond_t (has rfl) rfl ?_
   refine Sr ?_
   refine Ya ?_
   refine Nn ?_
   refine Rr ?_
   cases H
   refine T_pick [] (by decide) ?_
   exact T_out1 rfl (hasS rfl) rfl
  ·
   refine Yg c2 (o_move rfl hh) ?_
   refine Yg c2 (o_neq rfl hh hh) ?_
   refine Yy (o_pick_f rfl hh c2 hh) ?_
   refine Ym ?_
   revert H; refine is (fun c3 H => ?_) fun c3 H => ?_
   ·
    refine Yt c3 ?_
    refine Yt c3 ?_
    refine Yy (o_pick_t rfl hh c3 hh) ?_
    refine Ym ?_
    refine Yd ?_
    refine Yd ?_
    refine Yy (o_pick_t rfl hh rfl hh) ?_
    refine Ym ?_
    refine Yd ?_
    refine Yd ?_
    refine Yd ?_
    refine Yd ?_
    refine Yy (o_pick_t rfl hh rfl hh) ?_
    refine Ym ?_
    refine Yd ?_
    refine Yd ?_
    refine Yy (o_pick_t rfl hh rfl hh) ?_
    refine Ym ?_
    refine Yd ?_
    refine Yd ?_
    refine Yy (o_pick_t rfl hh rfl hh) ?_
    refine Nn ?_
    refine T_cond_t (has rfl) rfl ?_
    refine Sr ?_
    refine Ya ?_
    refine Nn ?_
    refine Rr ?_
    cases H
    refine T_pick [] (by decide) ?_
    exact T_out1 rfl (hasS rfl) rfl
   ·
    refine Yg c3 (o_move rfl hh) ?_
    refine Yg c3 (o_neq rfl hh hh) ?_
    refine Yy (o_pick_f rfl hh c3 hh) ?_
    refine Ym ?_
    revert H; refine is (fun c4 H => ?_) fun c4 H => ?_
    ·
     refine Yt c4 ?_
     refine Yt c4 ?_
     refine Yy (o_pick_t rfl hh c4 hh) ?_
     refine Ym ?_
     refine Yd ?_
     refine Yd ?_
     refine Yd ?_
     refine Yd ?_
     refine Yy (o_pick_t rfl hh rfl hh) ?_
     refine Ym ?_
     refine Yd ?_
     refine Yd ?_
     refine Yy (o_pick_t rfl hh rfl hh) ?_
     refine Ym ?_
     refine Yd ?_
     refine Yd ?_
     refine Yy (o_pick_t rfl hh rfl hh) ?_
     refine Nn ?_
     refine T_cond_t (has rfl) rfl ?_
     refine Sr ?_
     refine Ya ?_
     refine Nn ?_
     refine Rr ?_
     cases H
     refine T_pick [] (by decide) ?_
     exact T_out1 rfl (hasS rfl) rfl
    ·
     refine Yg c4 (o_move rfl hh) ?_
     refine Yg c4 (o_not rfl hh) ?_
     refine Yy (o_pick_f rfl hh c4 hh) ?_
     refine Ym ?_
     revert H; refine cs (fun c5 H => ?_) fun c5 H => ?_
     ·
      refine Yt c5 ?_
      refine Yt c5 ?_
      refine Yt c5 ?_
      refine Yt c5 ?_
      refine Yy (o_pick_t rfl hh c5 hh) ?_
      refine Ym ?_
      refine Yd ?_
      refine Yd ?_
      refine Yy (o_pick_t rfl hh rfl hh) ?_
      refine Ym ?_
      refine Yd ?_
      refine Yd ?_
      refine Yy (o_pick_t rfl hh rfl hh) ?_
      refine Nn ?_
      refine T_cond_t (has rfl) rfl ?_
      refine Sr ?_
      refine Ya ?_
      refine Nn ?_
      refine Rr ?_
      cases H
      refine T_pick [] (by decide) ?_
      exact T_out1 rfl (hasS rfl) rfl
     ·
      refine Yg c5 (o_move rfl hh) ?_
      revert H; refine bs fun y8 h8 H => ?_
      refine T_callO ⟨_, _, rfl, rfl, c5⟩ rfl rfl rfl (has rfl) HasL.nil rfl ty_cb_17 (w05_Found_w y8 h8) (Δi := []) rfl (fun v1 => ?_)
      dsimp only [List.append, List.cons_append, List.nil_append]
      refine T_rowCellG 0 rfl (fun hc_v1 => ?_)
      revert H; refine bs fun y9 h9 H => ?_
      refine T_callLend (Δl := [tRowD v1 40 oUsageDef y8]) (Δi := []) (Δo := []) [(v1, fSl tUsageDef y8)] ⟨_, _, rfl, rfl, c5⟩ rfl rfl rfl (has rfl) (HasW.cons rfl (entW_of Ent.rfl) (HasW.cons rfl (entW_lend 0 rfl) HasW.nil)) ty_cb_20 (r05_Same_w fuel y2.1 y8 y9 h9) indF_eq (fun _ h => nomatch h) (FrzT.cons (frz_rowD rfl frzo_UsageDef) FrzT.nil) rfl ?_
      dsimp only [List.append, List.cons_append, List.nil_append]
      refine Yg c5 (o_not rfl hh) ?_
      refine Yy (o_pick_f rfl hh c5 hh) ?_
      refine Ym ?_
      revert H; refine cs (fun c6 H => ?_) fun c6 H => ?_
      ·
       refine Yt c6 ?_
       refine Yt c6 ?_
       refine Yy (o_pick_t rfl hh c6 hh) ?_
       refine Ym ?_
       refine Yd ?_
       refine Yd ?_
       refine Yy (o_pick_t rfl hh rfl hh) ?_
       refine Nn ?_
       refine T_cond_t (has rfl) rfl ?_
       refine Sr ?_
       refine Ya ?_
       refine Nn ?_
       refine Rr ?_
       cases H
       refine T_pick [] (by decide) ?_
       exact T_out1 rfl (hasS rfl) rfl
      ·
       refine Yg c6 (o_move rfl hh) ?_
       refine Yg c6 (o_neq rfl hh hh) ?_
       refine Yy (o_pick_f rfl hh c6 hh) ?_
       refine Ym ?_
       revert H; refine is (fun c7 H => ?_) fun c7 H => ?_
       ·
        refine Yt c7 ?_
        refine Yt c7 ?_
        refine Yy (o_pick_t rfl hh c7 hh) ?_
        refine Nn ?_
        refine T_cond_t (has rfl) rfl ?_
        refine Sr ?_
        refine Ya ?_
        refine Nn ?_
        refine Rr ?_
        cases H
        refine T_pick [] (by decide) ?_
        exact T_out1 rfl (hasS rfl) rfl
       ·
        refine Yg c7 (o_move rfl hh) ?_
        refine Yg c7 (o_neq rfl hh hh) ?_
        refine Yy (o_pick_f rfl hh c7 hh) ?_
        refine Nn ?_
        revert H; refine is (fun c8 H => ?_) fun c8 H => ?_
        ·
         refine T_cond_t (has rfl) c8 ?_
         refine Sr ?_
         refine Ya ?_
         refine Nn ?_
         refine Rr ?_
         cases H
         refine T_pick [] (by decide) ?_
         exact T_out1 rfl (hasS rfl) rfl
        ·
         refine T_cond_f (has rfl) c8 ?_
         refine T_skip ?_
         refine T_then_n ?_
         refine Sr ?_
         revert H; refine bs fun y10 h10 H => ?_
         refine T_callO trivial rfl rfl rfl (has rfl) HasL.nil rfl ty_cb_17 (w05_Found_w y10 h10) (Δi := []) rfl (fun v2 => ?_)
         dsimp only [List.append, List.cons_append, List.nil_append]
         refine T_rowCellG 0 rfl (fun hc_v2 => ?_)
         refine Ya ?_
         refine Nn ?_
         refine Sr ?_
         refine Ym ?_
         revert H; refine bs fun y11 h11 H => ?_
         refine Yo 0 rfl (o_indexG rfl hh hh ty_el_27 h11) ?_
         refine Yy (o_fieldR 2 rfl hh ty_fa_40_2 rfl) ?_
         refine T_openD (i := ((0 : Int).toNat)) (k := 2) (y := y11) (f := (fun v => tRowD v 37 (oRowT 41 (tInt .i64)) y11.Args)) (idx_get h11) rfl (fun v3 => ?_)
         refine T_rowCellG 0 rfl (fun hc_v3 => ?_)
         refine Yo 1 rfl (o_loadH rfl rfl hh ty_sc_38 (idx_get h11) rfl) ?_
         revert H; refine bs fun y12 h12 H => ?_
         refine Yo 0 rfl (o_indexG rfl hh hh ty_el_38 h12) ?_
         refine T_openD (i := ((2 : Int).toNat)) (k := 0) (y := y12) (f := (fun v => tRow v 41 (tInt .i64) y12)) (idx_get h12) rfl (fun v4 => ?_)
         refine T_rowCell 0 rfl (fun hc_v4 => ?_)
         refine Yo 1 rfl (o_loadH rfl rfl hh ty_sc_37 (idx_get h12) rfl) ?_
         revert H; refine bs fun y13 h13 H => ?_
         refine Yo 0 rfl (o_indexR rfl hh hh ty_el_37 h13) ?_
         refine T_storeR (z' := 3) trivial rfl rfl rfl (has rfl) (has rfl) (leaf_eq trivial) ty_sz_41 (idx_get h13) rfl rfl ?_
         refine Nn ?_
         refine Sr ?_
         refine Yo 4 rfl (o_loadBS rfl hh ty_ag_26 rfl rfl) ?_
         refine Ym ?_
         refine T_closeD (o := (oRowT 41 (tInt .i64))) (i := ((2 : Int).toNat)) (k := 0) (y := y12) (y' := y12.set ((0 : Int).toNat) 3) (f := (fun v => tRow v 41 (tInt .i64) (y12.set ((0 : Int).toNat) 3))) (hf := (fun _ => row_isCell)) (idx_get h12) rfl rfl ?_
         refine T_closeD (o := oUsageDef) (i := ((0 : Int).toNat)) (k := 2) (y := y11) (y' := { y11 with Args := y11.Args.set ((2 : Int).toNat) (y12.set ((0 : Int).toNat) 3) }) (f := (fun v => tRowD v 37 (oRowT 41 (tInt .i64)) (y11.Args.set ((2 : Int).toNat) (y12.set ((0 : Int).toNat) 3)))) (hf := (fun _ => rowG_cell)) (idx_get h11) rfl rfl ?_
         revert H; refine bs fun y14 h14 H => ?_
         refine T_callLend (Δl := [tRowD v2 40 oUsageDef (y10.set ((0 : Int).toNat) ({ y11 with Args := y11.Args.set ((2 : Int).toNat) (y12.set ((0 : Int).toNat) 3) }))]) (Δi := []) (Δo := []) [(v2, fSl tUsageDef (y10.set ((0 : Int).toNat) ({ y11 with Args := y11.Args.set ((2 : Int).toNat) (y12.set ((0 : Int).toNat) 3) })))] trivial rfl rfl rfl (has rfl) (HasW.cons rfl (entW_of Ent.rfl) (HasW.cons rfl (entW_lend 0 rfl) HasW.nil)) ty_cb_9 (usage_Accepts_w fuel (⟨y1.Free, y1.Nodes, y1.Defs, y1.Main⟩ : ScopeProg) (y10.set ((0 : Int).toNat) ({ y11 with Args := y11.Args.set ((2 : Int).toNat) (y12.set ((0 : Int).toNat) 3) })) y14 h14) (indF_tup (by intro φ h; simp only [List.mem_cons, List.not_mem_nil, or_false] at h; rcases h with rfl | rfl <;> exact indF_eq)) (fun _ h => nomatch h) (FrzT.cons (frz_rowD rfl frzo_UsageDef) FrzT.nil) rfl ?_
         dsimp only [List.append, List.cons_append, List.nil_append]
         refine Ym ?_
         refine Yy (o_extract rfl hh rfl) ?_
         refine Yy (o_extract rfl hh rfl) ?_
         refine Ya ?_
         refine Ya ?_
         refine Nn ?_
         refine Sr ?_
         refine Ym ?_
         revert H; refine bs fun y15 h15 H => ?_
         refine Yo 0 rfl (o_indexG rfl hh hh ty_el_27 h15) ?_
         refine Yy (o_fieldR 2 rfl hh ty_fa_40_2 rfl) ?_
         refine T_openD (i := ((0 : Int).toNat)) (k := 2) (y := y15) (f := (fun v => tRowD v 37 (oRowT 41 (tInt .i64)) y15.Args)) (idx_get h15) rfl (fun v5 => ?_)
         refine T_rowCellG 0 rfl (fun hc_v5 => ?_)
         refine Yo 1 rfl (o_loadH rfl rfl hh ty_sc_38 (idx_get h15) rfl) ?_
         revert H; refine bs fun y16 h16 H => ?_
         refine Yo 0 rfl (o_indexG rfl hh hh ty_el_38 h16) ?_
         refine T_openD (i := ((2 : Int).toNat)) (k := 0) (y := y16) (f := (fun v => tRow v 41 (tInt .i64) y16)) (idx_get h16) rfl (fun v6 => ?_)
         refine T_rowCell 0 rfl (fun hc_v6 => ?_)
         refine Yo 1 rfl (o_loadH rfl rfl hh ty_sc_37 (idx_get h16) rfl) ?_
         revert H; refine bs fun y17 h17 H => ?_
         refine Yo 0 rfl (o_indexR rfl hh hh ty_el_37 h17) ?_
         refine T_storeR (z' := 2) trivial rfl rfl rfl (has rfl) (has rfl) (leaf_eq trivial) ty_sz_41 (idx_get h17) rfl rfl ?_
         refine Nn ?_
         refine Sr ?_
         refine Yo 4 rfl (o_loadBS rfl hh ty_ag_26 rfl rfl) ?_
         refine Ym ?_
         refine T_closeD (o := (oRowT 41 (tInt .i64))) (i := ((2 : Int).toNat)) (k := 0) (y := y16) (y' := y16.set ((0 : Int).toNat) 2) (f := (fun v => tRow v 41 (tInt .i64) (y16.set ((0 : Int).toNat) 2))) (hf := (fun _ => row_isCell)) (idx_get h16) rfl rfl ?_
         refine T_closeD (o := oUsageDef) (i := ((0 : Int).toNat)) (k := 2) (y := y15) (y' := { y15 with Args := y15.Args.set ((2 : Int).toNat) (y16.set ((0 : Int).toNat) 2) }) (f := (fun v => tRowD v 37 (oRowT 41 (tInt .i64)) (y15.Args.set ((2 : Int).toNat) (y16.set ((0 : Int).toNat) 2)))) (hf := (fun _ => rowG_cell)) (idx_get h15) rfl rfl ?_
         revert H; refine bs fun y18 h18 H => ?_
         refine T_callLend (Δl := [tRowD v2 40 oUsageDef ((y10.set ((0 : Int).toNat) ({ y11 with Args := y11.Args.set ((2 : Int).toNat) (y12.set ((0 : Int).toNat) 3) })).set ((0 : Int).toNat) ({ y15 with Args := y15.Args.set ((2 : Int).toNat) (y16.set ((0 : Int).toNat) 2) }))]) (Δi := []) (Δo := []) [(v2, fSl tUsageDef ((y10.set ((0 : Int).toNat) ({ y11 with Args := y11.Args.set ((2 : Int).toNat) (y12.set ((0 : Int).toNat) 3) })).set ((0 : Int).toNat) ({ y15 with Args := y15.Args.set ((2 : Int).toNat) (y16.set ((0 : Int).toNat) 2) })))] trivial rfl rfl rfl (has rfl) (HasW.cons rfl (entW_of Ent.rfl) (HasW.cons rfl (entW_lend 0 rfl) HasW.nil)) ty_cb_9 (usage_Accepts_w fuel (⟨y1.Free, y1.Nodes, y1.Defs, y1.Main⟩ : ScopeProg) ((y10.set ((0 : Int).toNat) ({ y11 with Args := y11.Args.set ((2 : Int).toNat) (y12.set ((0 : Int).toNat) 3) })).set ((0 : Int).toNat) ({ y15 with Args := y15.Args.set ((2 : Int).toNat) (y16.set ((0 : Int).toNat) 2) })) y18 h18) (indF_tup (by intro φ h; simp only [List.mem_cons, List.not_mem_nil, or_false] at h; rcases h with rfl | rfl <;> exact indF_eq)) (fun _ h => nomatch h) (FrzT.cons (frz_rowD rfl frzo_UsageDef) FrzT.nil) rfl ?_
         dsimp only [List.append, List.cons_append, List.nil_append]
         refine Ym ?_
         refine Yy (o_extract rfl hh rfl) ?_
         refine Yy (o_extract rfl hh rfl) ?_
         refine Ya ?_
         refine Nn ?_
         revert H; refine bs fun o1 H Hr1 => ?_
         refine T_seqJ (ι := Bool) (fun i => o1 = i) (fun i => [(0, fBool i)]) (fun i => [tBlk b1 26 [fSl tStr y1.Free, fSl tScopeNode y1.Nodes, fSl tScopeDef y1.Defs, fInt .i64 y1.Main]]) ?_ ?_
         ·
          refine T_region ?_
          refine Ym ?_
          refine Yy (o_eql rfl hh hh) ?_
          refine Ym ?_
          revert H; refine is (fun c9 H => ?_) fun c9 H => ?_
          ·
           refine Yg c9 (o_move rfl hh) ?_
           refine Yg c9 (o_not rfl hh) ?_
           refine Yy (o_pick_t rfl hh c9 hh) ?_
           refine Ym ?_
           revert H; refine cs (fun c10 H => ?_) fun c10 H => ?_
           ·
            refine Yg c10 (o_move rfl hh) ?_
            refine Yg c10 (o_eql rfl hh hh) ?_
            refine Yy (o_pick_t rfl hh c10 hh) ?_
            refine Ya ?_
            refine Nn ?_
            refine T_pick [2] (by decide) ?_
            exact T_meet (decide (y18.2 = 2)) (Option.some.inj H).symm (Sc SubT.nil) rfl
           ·
            refine Yf c10 ?_
            refine Yf c10 ?_
            refine Yy (o_pick_f rfl hh c10 hh) ?_
            refine Ya ?_
            refine Nn ?_
            refine T_pick [2] (by decide) ?_
            exact T_meet (false) (Option.some.inj H).symm (Sc SubT.nil) rfl
          ·
           refine Yf c9 ?_
           refine Yf c9 ?_
           refine Yy (o_pick_f rfl hh c9 hh) ?_
           refine Ym ?_
           refine Yd ?_
           refine Yd ?_
           refine Yy (o_pick_f rfl hh rfl hh) ?_
           refine Ya ?_
           refine Nn ?_
           refine T_pick [2] (by decide) ?_
           exact T_meet (false) (Option.some.inj H).symm (Sc SubT.nil) rfl
         ·
          clear H; intro x1 hi; subst o1; have H := Hr1; clear Hr1; try dsimp only at H
          show T β _ _ [(0, fBool x1)] [tBlk b1 26 [fSl tStr y1.Free, fSl tScopeNode y1.Nodes, fSl tScopeDef y1.Defs, fInt .i64 y1.Main]] _
          refine T_retc ?_
          cases H
          refine T_pick [] (by decide) ?_
          exact T_out1 rfl (hasS rfl) rfl
end Go.Proofs.Ytmnbfgeljmhekaa
set_option maxRecDepth 100000
set_option maxHeartbeats 2000000
namespace Go.Proofs.Ytmnbfgeljmhekaa
open Go.SX Go.SW Go.Dt
def slices_Clone_LScopeNode_ScopeNode_S (a0 : List ScopeNode) : Option (List ScopeNode) :=
 (room (([] : List ScopeNode) ++ a0)).bind fun z1 =>
 some z1
theorem slices_Clone_LScopeNode_ScopeNode_w  (a0 : List ScopeNode) (r : List ScopeNode) (H : slices_Clone_LScopeNode_ScopeNode_S a0 = some r) : FnS Try.prog 36 [fSl tScopeNode a0] [] fAny (fun v => [(fun v => tRow v 56 tScopeNode r) v]) := by
 unfold slices_Clone_LScopeNode_ScopeNode_S at H
 refine FnS_of Try.func36 rfl Try.ntmps36 rfl (fun β => ?_)
 refine Sr ?_
 refine Ya ?_
 refine Nn ?_
 refine T_seq ?_
 refine Sr ?_
 refine Ym ?_
 refine Yy (o_eqNil rfl hh ty_us_23) ?_
 refine Nn ?_
 refine T_condNil (has rfl) (fun hx => ?_) ?_
 ·
  replace H : some ([] : List ScopeNode) = some r := by subst hx; exact H
  refine Sr ?_
  refine Ya ?_
  refine Nn ?_
  refine Rr ?_
  refine T_nilRow tScopeNode 56 ?_
  cases H
  exact T_outO rfl (hasS rfl) (fun _ _ _ => trivial) rfl
 refine T_skip ?_
 refine T_then_n ?_
 refine Sr ?_
 refine T_new trivial rfl rfl (n_buildSliceC (t := tScopeNode) (xs := ([] : List ScopeNode)) rfl ty_et_23 PartsS.nil rfl rfl rfl) (fun b1 => ?_)
 generalize hv_v1 : (Value.slice (some ⟨b1, 0, none⟩) _ _) = v1; clear hv_v1
 refine T_rowCell 0 rfl (fun hc_v1 => ?_)
 refine Ym ?_
 revert H; refine bs fun z1 h1 H => ?_
 refine T_appendF (ys := a0) trivial rfl rfl rfl (has rfl) (has rfl) ty_et_23 rfl h1 (fun v2 => ?_)
 refine T_rowCell 0 rfl (fun hc_v2 => ?_)
 refine Ya ?_
 refine Nn ?_
 refine T_retc ?_
 cases H
 exact T_outO rfl (hasS rfl) (fun _ _ _ => trivial) rfl
def slices_Clone_Lint_int_S (a0 : List Int) : Option (List Int) :=
 (room (([] : List Int) ++ a0)).bind fun z1 =>
 some z1
theorem slices_Clone_Lint_int_w  (a0 : List Int) (r : List Int) (H : slices_Clone_Lint_int_S a0 = some r) : FnS Try.prog 37 [fSl (tInt .i64) a0] [] (fSl (tInt .i64) r) (fun _ => []) := by
 unfold slices_Clone_Lint_int_S at H
 refine FnS_of Try.func37 rfl Try.ntmps37 rfl (fun β => ?_)
 refine Sr ?_
 refine Ya ?_
 refine Nn ?_
 refine T_seq ?_
 refine Sr ?_
 refine Ym ?_
 refine Yy (o_eqNil rfl hh ty_us_46) ?_
 refine Nn ?_
 refine T_condNil (has rfl) (fun hx => ?_) ?_
 ·
  replace H : some [] = some r := by subst hx; exact H
  refine Sr ?_
  refine Ya ?_
  refine Nn ?_
  refine Rr ?_
  cases H
  exact T_out1 rfl (hasSE rfl ent_nil) rfl
 refine T_skip ?_
 refine T_then_n ?_
 refine Sr ?_
 refine T_new trivial rfl rfl (n_buildSliceC (t := (tInt .i64)) (xs := ([] : List Int)) rfl ty_et_46 PartsS.nil rfl rfl rfl) (fun b1 => ?_)
 generalize hv_v1 : (Value.slice (some ⟨b1, 0, none⟩) _ _) = v1; clear hv_v1
 refine T_rowCell 0 rfl (fun hc_v1 => ?_)
 refine Ym ?_
 revert H; refine bs fun z1 h1 H => ?_
 refine T_appendF (ys := a0) trivial rfl rfl rfl (has rfl) (has rfl) ty_et_46 rfl h1 (fun v2 => ?_)
 refine T_rowCell 0 rfl (fun hc_v2 => ?_)
 refine Ya ?_
 refine Nn ?_
 refine T_retc ?_
 refine T_freeze (φ := fSl (tInt .i64) z1) (v := v2) [2, 7] frz_row (by intro s hs; simp only [List.mem_cons, List.not_mem_nil, or_false] at hs; rcases hs with rfl | rfl <;> rfl) ?_
 refine T_dropT ?_
 cases H
 exact T_out1 rfl (hasS rfl) rfl
def slices_Clone_LScopeDef_ScopeDef_S (a0 : List ScopeDef) : Option (List ScopeDef) :=
 (room (([] : List ScopeDef) ++ a0)).bind fun z1 =>
 some z1
theorem slices_Clone_LScopeDef_ScopeDef_w  (a0 : List ScopeDef) (r : List ScopeDef) (H : slices_Clone_LScopeDef_ScopeDef_S a0 = some r) : FnS Try.prog 38 [fSl tScopeDef a0] [] fAny (fun v => [(fun v => tRow v 52 tScopeDef r) v]) := by
 unfold slices_Clone_LScopeDef_ScopeDef_S at H
 refine FnS_of Try.func38 rfl Try.ntmps38 rfl (fun β => ?_)
 refine Sr ?_
 refine Ya ?_
 refine Nn ?_
 refine T_seq ?_
 refine Sr ?_
 refine Ym ?_
 refine Yy (o_eqNil rfl hh ty_us_24) ?_
 refine Nn ?_
 refine T_condNil (has rfl) (fun hx => ?_) ?_
 ·
  replace H : some ([] : List ScopeDef) = some r := by subst hx; exact H
  refine Sr ?_
  refine Ya ?_
  refine Nn ?_
  refine Rr ?_
  refine T_nilRow tScopeDef 52 ?_
  cases H
  exact T_outO rfl (hasS rfl) (fun _ _ _ => trivial) rfl
 refine T_skip ?_
 refine T_then_n ?_
 refine Sr ?_
 refine T_new trivial rfl rfl (n_buildSliceC (t := tScopeDef) (xs := ([] : List ScopeDef)) rfl ty_et_24 PartsS.nil rfl rfl rfl) (fun b1 => ?_)
 generalize hv_v1 : (Value.slice (some ⟨b1, 0, none⟩) _ _) = v1; clear hv_v1
 refine T_rowCell 0 rfl (fun hc_v1 => ?_)
 refine Ym ?_
 revert H; refine bs fun z1 h1 H => ?_
 refine T_appendF (ys := a0) trivial rfl rfl rfl (has rfl) (has rfl) ty_et_24 rfl h1 (fun v2 => ?_)
 refine T_rowCell 0 rfl (fun hc_v2 => ?_)
 refine Ya ?_
 refine Nn ?_
 refine T_retc ?_
 cases H
 exact T_outO rfl (hasS rfl) (fun _ _ _ => trivial) rfl
end Go.Proofs.Ytmnbfgeljmhekaa
