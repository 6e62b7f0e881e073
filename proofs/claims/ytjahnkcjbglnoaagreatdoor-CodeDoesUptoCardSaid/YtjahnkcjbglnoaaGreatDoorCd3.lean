/- Parts of the proof: lemmas, and the steps through the program. -/
import Derived.Test.YtjahnkcjbglnoaaGreatDoorCd2
import Derived.Test.YtjahnkcjbglnoaaGreatDoorProg
import Derived.KernelRfl
import Derived.Shelf.Sort.Plain
import Derived.Shelf.Slices.CompactI
import Derived.Shelf.Slices.In.SortNone
set_option linter.unusedVariables false
set_option linter.unusedSimpArgs false
set_option maxRecDepth 100000
set_option maxHeartbeats 2000000
namespace Go.BX
open RowKit (Below)
noncomputable section
section
variable {P:Program} {ex:Ex}
theorem aAo {l:List Oper} {is:List Inf} (hd:drawn l=some is):wQ is 0 []=true ∧ is.length=l.length ∧ ∀ (j:Nat) (o:Oper),l[j]? =some o →
 ∃ x,is[j]? =some x ∧ x.tr=Nat.lor (mG o.op.operands.toList) (gBit l o.guard) ∧ x.tw=oL o.dst ∧ ∃ dsj,pJ dsj j o.after.toList=some x.anc ∧ ∀ i y,i<j → is[i]? =some y → dsj[j - 1 - i]? =some y.anc:=by
 obtain⟨xs,k1,k2,k3⟩:=aCs l [] 0 _ hd
 cases ht:wQ xs 0 []with
 | false=>rw [ht]at k1;cases k1
 | true=>
  rw [ht]at k1;have:xs=is:=Option.some.inj k1;subst this;refine⟨ht,k2,fun j o ho=>?_⟩
  obtain⟨x,c1,c2,c3,dsj,c4,c5,_⟩:=k3 j o ho;rw [Nat.zero_add]at c4;exact⟨x,c1,c2,c3,dsj,c4,c5⟩
def ancR (is:List Inf) (i j:Nat):Prop:=∃ x,is[i]? =some x ∧ has x.anc j=true
theorem aAs {ops:Array Oper} {is:List Inf} (hd:drawn ops.toList=some is):vR ops (ancR is) ∧ ∀ (i:Nat) (o:Oper),ops[i]? =some o → ∀ e∈o.after,Region.binds .any e=true → e.on<i:=by
 obtain⟨_,hl,hs⟩:=aAo hd
 refine⟨fun j oj hj q hq=>?_,fun i o ho e he hb=>?_⟩
 ·obtain⟨x,hx,hq⟩:=hq;obtain⟨y,c1,_,_,dsj,c4,c5⟩:=hs j oj (by rw [Array.getElem?_toList];exact hj)
  rw [hx]at c1;cases c1
  obtain⟨s1,s2⟩:=aAL c4;obtain⟨e,he,hb,h⟩:=s2 q hq;refine⟨e,by simpa using he,hb,?_⟩
  rcases h with h | ⟨m,hm,hq2⟩
  ·exact .inl h
  ·right
   have hlt:=s1 e he hb;have hj':j<is.length:=(List.getElem?_eq_some_iff.1 hx).1;have hey:is[e.on]? =some (is[e.on]'(by omega)):=List.getElem?_eq_getElem (by omega)
   have:=c5 e.on _ hlt hey;rw [hm]at this;cases this;exact⟨_,hey,hq2⟩
 ·obtain⟨y,_,_,_,dsj,c4,_⟩:=hs i o (by rw [Array.getElem?_toList];exact ho)
  exact(aAL c4).1 e (by simpa using he) hb
theorem drawn_lt {ops:Array Oper} {is:List Inf} (hd:drawn ops.toList=some is):∀ (i q:Nat),ancR is i q → q<i:=by
 intro i
 induction i using Nat.strongRecOn with
 | _ i ih=>
  intro q hq;have hil:i<ops.size:=by
   obtain⟨x,hx,_⟩:=hq;have h1:=(List.getElem?_eq_some_iff.1 hx).1;have h2:=(aAo hd).2.1;simp at h2;omega
  have ho:ops[i]? =some ops[i]:=Array.getElem?_eq_getElem hil;obtain⟨e,he,hb,h⟩:=(aAs hd).1 i _ ho q hq;have hlt:=(aAs hd).2 i _ ho e he hb;rcases h with rfl | h
  ·exact hlt
  ·have:=ih e.on hlt q h;omega
theorem aCU {ops:Array Oper} {is:List Inf} (hd:drawn ops.toList=some is) {i j:Nat} {oi oj:Oper} (hi:ops[i]? =some oi) (hj:ops[j]? =some oj) (hlt:j<i) (hn:¬ ancR is i j):
 (∀ t,rdS ops.toList oi t → oj.dst≠some t) ∧ (∀ t,rdS ops.toList oj t → oi.dst≠some t) ∧ ∀ t,oi.dst=some t → oj.dst≠some t:=by
 obtain⟨ht,hl,hs⟩:=aAo hd
 obtain⟨x,x1,x2,x3,_⟩:=hs i oi (by rw [Array.getElem?_toList];exact hi)
 obtain⟨y,y1,y2,y3,_⟩:=hs j oj (by rw [Array.getElem?_toList];exact hj)
 rcases(aFp is 0 [] ht i x x1).2 j y hlt y1 with h | ⟨h1,h2⟩
 ·rw [Nat.zero_add]at h;exact(hn ⟨x,x1,h⟩).elim
 ·refine⟨fun t hr hw=>aB6 h2 (by rw [y3];exact vN hw) (by rw [x2];exact has_rd hr),fun t hr hw=>aB6 h1 (by rw [x3];exact vN hw) (rG.2 (.inl (by rw [y2];exact has_rd hr))),fun t hw hw2=>aB6 h1 (by rw [x3];exact vN hw) (rG.2 (.inr (by rw [y3];exact vN hw2)))⟩
end
end
open RowKit (Below)
noncomputable section
section
variable {P:Program} {ex:Ex}
theorem aGC (hm:P.follows .mixedOrders=true) (SC:SimC P ex):SimD P ex:=fun id ops g ρ ac a h nx lg w k r rr hA R hi hr q=>by
 obtain⟨e,n,ds,ro⟩:=ac
 obtain⟨is,hd,q1⟩:=bI (o:=drawn ops.toList) (f:=fun is=>opsD ops.toList P ex ops.toList is 0 [] ⟨e,n,ds,ro⟩ k) q
 obtain⟨N0,L,hs,es,lgN,a1,a2,a3,a4,a5,a6,a7⟩:=aCP ops.toList is 0 [] e h nx lg q1
 simp only [Nat.zero_add,Array.length_toList]at a4 a5 a6 a7
 have hend:=qF a7
 let M:Nat → Nat:=fun j=>N0 (min j ops.size)
 have hMe:∀ j,j ≤ ops.size → M j=N0 j:=fun j hj=>by show N0 (min j ops.size)=_;rw [Nat.min_eq_left hj]
 have hM1:∀ i,M i ≤ M (i+1):=fun i=>by
  by_cases hl:i<ops.size
  ·rw [hMe i (by omega),hMe (i+1) hl];exact a4 i hl
  ·show N0 (min i ops.size) ≤ N0 (min (i+1) ops.size)
   rw [Nat.min_eq_right (by omega),Nat.min_eq_right (by omega)];exact Nat.le_refl _
 have hM:∀ i j,i ≤ j → M i ≤ M j:=fun i j hij=>by
  induction hij with
  | refl=>exact Nat.le_refl _
  | step _ ih=>exact Nat.le_trans ih (hM1 _)
 have hM0:M 0=nx:=(hMe 0 (Nat.zero_le _)).trans a1
 have hMN:M ops.size=N0 ops.size:=hMe _ (Nat.le_refl _)
 have hhi:M ops.size ≤ g.hi:=by rw [hMN];exact Nat.le_trans hend hi
 have hst:∀ (i:Nat) (o:Oper),ops[i]? =some o → St1 ops.toList P ex o (M i) (M (i+1)) (L i) (hs i) (es i) (hs (i+1)) (es (i+1)):=fun i o ho=>by
  have hl:i<ops.size:=(Array.getElem?_eq_some_iff.1 ho).1;rw [hMe i (by omega),hMe (i+1) hl];exact(a5 i o (by rw [Array.getElem?_toList];exact ho)).2
 have pair:∀ i j,j<i → i<ops.size → ¬ ancR is i j → Sep (L i) (L j):=fun i j hji hl hn=>by
  have hli:i<is.length:=by have:=(aAo hd).2.1;simp at this;omega
  rcases(a6 i _ (List.getElem?_eq_getElem hli) hl).2 j hji with h1 | h1
  ·exact(hn ⟨_,List.getElem?_eq_getElem hli,h1⟩).elim
  ·exact h1
 have hind:∀ (i j:Nat) (oi oj:Oper),ops[i]? =some oi → ops[j]? =some oj → i≠j → ¬ ancR is j i → ¬ ancR is i j → Indep ops.toList oi oj (L i) (L j):=fun i j oi oj h1 h2 hne n1 n2=>by
  have l1:i<ops.size:=(Array.getElem?_eq_some_iff.1 h1).1;have l2:j<ops.size:=(Array.getElem?_eq_some_iff.1 h2).1;rcases Nat.lt_or_gt_of_ne hne with hlt | hlt
  ·obtain⟨s1,s2,s3⟩:=aCU hd h2 h1 hlt n1;exact⟨(pair j i hlt l2 n1).symm,s2,s1,fun t w1 w2=>s3 t w2 w1⟩
  ·obtain⟨s1,s2,s3⟩:=aCU hd h1 h2 hlt n2;exact⟨pair i j hlt l1 n2,s1,s2,s3⟩
 have hok:=ok_all (aAs hd).1 (drawn_lt hd) (aAs hd).2 hind hs es hst ops.size 0 (Nat.zero_add _)
 rw [a2,a3]at hok
 refine wpIn_region_any hm (ok_wp (aAk SC) (aFh SC) hM (by rw [hM0];exact R.lo) hhi (fun i o ho=>(a5 i o (by rw [Array.getElem?_toList];exact ho)).1) (by rw [hMN];exact a7) ops.size _ ρ h e a _ ⟨hA.env,hA.ds,⟨R.blk,R.inj,R.new,⟨R.below.os,R.below.tape,R.below.output,R.below.size,R.below.block⟩,Nat.le_refl _,fun b _ hb=>absurd hb (Nat.not_lt_zero b),Rho.le_refl _,fun _ _=>rfl⟩,fun j hj _ b hb1 hb2=>?_,fun b hb1 hb2=>?_,R.le,Rho.le_refl _,R.out⟩ hok)
 ·exact R.fresh b (Nat.le_trans (by rw [← hM0];exact hM 0 j (Nat.zero_le _)) hb1) (Nat.lt_of_lt_of_le hb2 (Nat.le_trans (hM _ _ hj) hhi))
 ·exact R.fresh b (Nat.le_trans (by rw [← hM0];exact hM 0 _ (Nat.zero_le _)) hb1) hb2
theorem sound (hm:P.follows .mixedOrders=true) (n:Nat):SimA P (exec P n):=aAk (aCm (fun _ SC=>aGC hm SC) n).1
end
end
open RowKit (Below)
noncomputable section
theorem aFE {P:Program} (hm:P.follows .mixedOrders=true) {n f:Nat} {v:V} {x:Value} {s:S} (hv:tv (fun _=>none) v=some x) (hk:run0 P n f=some (.val v,s)) (w:World):
 SX.Callable P f ∧ CallsIn (SX.fw none) 0 P f #[] w (fun e w'=>e= .returned x ∧ Below w.heap.size w w'):=by
 have R:Rel ⟨w,0,s.nx,fun _=>none⟩ (fun _=>none) .leaf 0 w:=⟨(fun b k e=>by rw [vS]at e;cases e),fun b b' x x' h=>(h (vS _)).elim,(fun b x h=>by cases h),⟨rfl,rfl,rfl,Nat.le_refl _,fun _ _=>rfl⟩,Nat.le_refl _,fun _ _ _=>rfl,fun _ _ h=>h,fun _ _=>rfl⟩
 obtain⟨h1,h2⟩:=sound hm n f [] [] _ _ _ _ _ w .ret (.val v,s) rfl R (Nat.le_refl _) hk
 refine⟨h1,CallsIn.mono h2 fun e w' hc=>?_⟩
 cases e with
 | outgrown=>exact hc.elim
 | panicked ch=>
  obtain⟨c,ρ',h,nx,lg,k1,k2,k3,k4⟩:=hc;cases k4
 | returned y=>
  obtain⟨u,ρ',h,nx,lg,k1,k2,k3,k4⟩:=hc;have k5:some ((.val u:O),(⟨h,nx,lg⟩:S))=some (.val v,s):=k4;cases k5;rw [mJ (ρ:=fun _=>none) (ρ':=ρ') (fun _ _ h=>by cases h) v hv]at k3
  cases k3;exact⟨rfl,k2.below⟩
end
open Go.SX Go.SW
theorem aCv {P:Program} (hm:P.follows .mixedOrders=true) {n f:Nat} {v:V} {x:Value} {s:S} (hv:tv (fun _=>none) v=some x) (hk:run0 P n f=some (.val v,s)):
 FnS P f [] [] (fEq x) (fun _=>[]):=by
 intro m L vs hv' hL w hS
 have h1:vs=[]:=by cases vs with
  | nil=>rfl
  | cons _ _=>exact absurd hv' (by simp [aX])
 have h2:L=[]:=hL
 subst h1;subst h2
 have hc:=callsIn_wide.1 (aFE hm hv hk w).2
 refine hc.mono fun e w' ⟨he,hb⟩=>⟨m,[],?_,x,he,rfl,rfl⟩
 have hlt:∀ b o,w.heap[b]? =some o → b<w.heap.size:=fun b o h=>by
  rcases Nat.lt_or_ge b w.heap.size with h1 | h1
  ·exact h1
  ·rw [Array.getElem?_eq_none h1]at h;cases h
 exact⟨fun b o h=>(hb.block b (hlt b o (hS.mem b o h))).trans (hS.mem b o h),fun x h=>(by cases h),fun x h=>(by cases h),List.nodup_nil,Mem.le_refl _,fun _ h=>absurd rfl h,fun x h=>(by cases h),hb.size,fun b h _=>hb.block b h,hb.os,hb.output,hb.tape⟩
theorem run_true {P:Program} {n f:Nat} (h:okB (run0 P n f) true=true):∃ s,run0 P n f=some (.val (.bool true),s):=by
 revert h
 generalize run0 P n f=r
 intro h
 match r,h with
 | some (.val (.bool true),s),_=>exact⟨s,rfl⟩
end Go.BX
namespace Go.Proofs.YtjahnkcjbglnoaaGreatDoor
open Go.SX Go.SW Go.BX Go.Dt
def valR (r:R):Option V:=match r with
 | some (.val u,_)=>some u
 | _=>none
theorem val_run {r:R} {v:V} (h:valR r=some v):∃ s,r=some (.val v,s):=by
 unfold valR at h
 split at h
 ·cases h;exact⟨_,rfl⟩
 ·cases h
def code_kinds_V:V:= .agg [.str ⟨#[]⟩, .int .i64 0, .nilf, .str { data:=#[105,110,116] }, .int .i64 1, .fn 105 [] [], .str { data:=#[103,101,116] }, .int .i64 1, .fn 106 [] [], .str { data:=#[97,100,100] }, .int .i64 0, .fn 107 [] [], .str { data:=#[115,117,98] }, .int .i64 0, .fn 107 [] [], .str { data:=#[109,117,108] }, .int .i64 0, .fn 107 [] [], .str { data:=#[108,101,115,115] }, .int .i64 0, .fn 107 [] [], .str { data:=#[115,97,109,101] }, .int .i64 0, .fn 107 [] [], .str { data:=#[115,101,110,100] }, .int .i64 2, .fn 108 [] [], .str { data:=#[101,108,115,101] }, .int .i64 1, .fn 107 [] [], .str { data:=#[106,117,109,112] }, .int .i64 1, .fn 107 [] [], .str { data:=#[100,101,102] }, .int .i64 1, .fn 109 [] [], .str { data:=#[100,114,111,112] }, .int .i64 1, .fn 106 [] [], .str { data:=#[103,111] }, .int .i64 2, .fn 110 [] [], .str { data:=#[115,116,111,112] }, .int .i64 0, .fn 107 [] [], .str { data:=#[119,97,116,99,104] }, .int .i64 2, .fn 111 [] [], .str { data:=#[101,110,100] }, .int .i64 0, .fn 107 [] []]
def aDA:List Value:=[.string ⟨#[]⟩, .int .i64 0, .nilFunc, .string { data:=#[105,110,116] }, .int .i64 1, .func (.func 105) #[] #[], .string { data:=#[103,101,116] }, .int .i64 1, .func (.func 106) #[] #[], .string { data:=#[97,100,100] }, .int .i64 0, .func (.func 107) #[] #[], .string { data:=#[115,117,98] }, .int .i64 0, .func (.func 107) #[] #[], .string { data:=#[109,117,108] }, .int .i64 0, .func (.func 107) #[] #[], .string { data:=#[108,101,115,115] }, .int .i64 0, .func (.func 107) #[] #[], .string { data:=#[115,97,109,101] }, .int .i64 0, .func (.func 107) #[] #[], .string { data:=#[115,101,110,100] }, .int .i64 2, .func (.func 108) #[] #[], .string { data:=#[101,108,115,101] }, .int .i64 1, .func (.func 107) #[] #[], .string { data:=#[106,117,109,112] }, .int .i64 1, .func (.func 107) #[] #[], .string { data:=#[100,101,102] }, .int .i64 1, .func (.func 109) #[] #[], .string { data:=#[100,114,111,112] }, .int .i64 1, .func (.func 106) #[] #[], .string { data:=#[103,111] }, .int .i64 2, .func (.func 110) #[] #[], .string { data:=#[115,116,111,112] }, .int .i64 0, .func (.func 107) #[] #[], .string { data:=#[119,97,116,99,104] }, .int .i64 2, .func (.func 111) #[] #[], .string { data:=#[101,110,100] }, .int .i64 0, .func (.func 107) #[] #[]]
theorem aHr:valR (run0 Tryz.prog 1000 64)=some code_kinds_V:=by kernel_rfl
def aAR:Option Unit:=some ()
theorem aFB:Ent (fEq (.agg aDA.toArray)) (jT (lM.leafs ())):=fun m v h=>ent_agg (aK.cons .rfl (aK.cons .rfl (aK.cons (gH (v:= .nilFunc) trivial) (aK.cons .rfl (aK.cons .rfl (aK.cons (gH (v:= .func (.func 105) #[] #[]) trivial) (aK.cons .rfl (aK.cons .rfl (aK.cons (gH (v:= .func (.func 106) #[] #[]) trivial) (aK.cons .rfl (aK.cons .rfl (aK.cons (gH (v:= .func (.func 107) #[] #[]) trivial) (aK.cons .rfl (aK.cons .rfl (aK.cons (gH (v:= .func (.func 107) #[] #[]) trivial) (aK.cons .rfl (aK.cons .rfl (aK.cons (gH (v:= .func (.func 107) #[] #[]) trivial) (aK.cons .rfl (aK.cons .rfl (aK.cons (gH (v:= .func (.func 107) #[] #[]) trivial) (aK.cons .rfl (aK.cons .rfl (aK.cons (gH (v:= .func (.func 107) #[] #[]) trivial) (aK.cons .rfl (aK.cons .rfl (aK.cons (gH (v:= .func (.func 108) #[] #[]) trivial) (aK.cons .rfl (aK.cons .rfl (aK.cons (gH (v:= .func (.func 107) #[] #[]) trivial) (aK.cons .rfl (aK.cons .rfl (aK.cons (gH (v:= .func (.func 107) #[] #[]) trivial) (aK.cons .rfl (aK.cons .rfl (aK.cons (gH (v:= .func (.func 109) #[] #[]) trivial) (aK.cons .rfl (aK.cons .rfl (aK.cons (gH (v:= .func (.func 106) #[] #[]) trivial) (aK.cons .rfl (aK.cons .rfl (aK.cons (gH (v:= .func (.func 110) #[] #[]) trivial) (aK.cons .rfl (aK.cons .rfl (aK.cons (gH (v:= .func (.func 107) #[] #[]) trivial) (aK.cons .rfl (aK.cons .rfl (aK.cons (gH (v:= .func (.func 111) #[] #[]) trivial) (aK.cons .rfl (aK.cons .rfl (aK.cons (gH (v:= .func (.func 107) #[] #[]) trivial) aK.nil))))))))))))))))))))))))))))))))))))))))))))))))))) m v (tC _ m v h)
theorem aHU (r:Unit) (H:aAR=some r):FnS Tryz.prog 64 [] [] (fSt lM ()) (fun _=>[]):=by
 obtain⟨s,h⟩:=val_run aHr
 exact FnS.ent (aCv (x:= .agg aDA.toArray) (by kernel_rfl) rfl h) aFB
open Go.SX Go.SW Go.Dt
attribute [local irreducible] Code.wpIn wpListIn Exit.then Exit.inBlock
def tL (a0:Code_checker) (a1:CodeIns):Option (Code_checker × Bool):=
 (if (-1000000000) ≤ a1.A then
  some (decide (a1.A ≤ 1000000000))
 else
  some false).bind fun x1=>
 some ((⟨(⟨a0.CodeProg.Free,a0.CodeProg.Defs,a0.CodeProg.Code,a0.CodeProg.Main⟩:CodeProg),a0.begins,a0.last,a0.levels,a0.todo⟩:Code_checker),x1)
theorem aHM (p0:Nat) (a0:Code_checker) (a1:CodeIns) (r:Code_checker × Bool) (H:tL a0 a1=some r):FnS Tryz.prog 105 [fEq (.pointer (some ⟨p0,0,none⟩)),fSt aH a1] [dP p0 a0] (aJ r.2) (fun _=>[dP p0 r.1]):=by
 unfold tL at H
 refine cD Tryz.func105 rfl Tryz.ntmps105 rfl (fun β=>?_)
 refine dQ (fun v1 v2 v3=>?_)
 refine aO ?_
 refine dO (fun b1 h1=>?_);subst h1
 refine aB 2 rfl (fun hc_v1=>?_)
 refine aB 3 rfl (fun hc_v3=>?_)
 refine Z1 ?_
 refine Tn (cG rfl hh bP) fun b2=>?_
 revert H;refine B2 fun o1 H Hr1=>?_
 refine aT (ι:=Bool) (fun i=>o1=i) (fun i=>[(0,fEq (ptr p0)),(4,aJ i)]) (fun i=>[aA b2 73 [fI a1.Op,fI a1.A,fI a1.B],aA p0 90 [fI a0.CodeProg.Free,fSl aF a0.CodeProg.Defs,fSl aH a0.CodeProg.Code,fI a0.CodeProg.Main,fSl tI a0.begins,fEq v1,fEq (.map (some b1)),fEq v3],bK bH (fun y=>fSt bA y) b1 a0.levels,aD v1 3 tI a0.last,aD v3 3 tI a0.todo]) ?_ ?_
 revert H;refine I5 (fun c1 H=>?_) fun c1 H=>?_
 refine Z6 ?_
 refine aC [0,2,1,3,4] (by decide) ?_
 exact Tm (decide (a1.A ≤ 1000000000)) (ij H)
 refine Z6 ?_
 refine aC [0,2,1,3,4] (by decide) ?_
 exact Tm (false) (ij H)
 clear H;intro x1 hi;subst o1;have H:=Hr1;clear Hr1;try dsimp only at H
 try dsimp only
 refine Z1 ?_
 refine aO ?_
 refine dA ?_
 refine aS ?_
 refine aP ?_
 refine aS ?_
 refine aS ?_
 refine cY (x:=(⟨(⟨a0.CodeProg.Free,a0.CodeProg.Defs,a0.CodeProg.Code,a0.CodeProg.Main⟩:CodeProg),a0.begins,a0.last,a0.levels,a0.todo⟩:Code_checker)) ?_
 cases H
 refine aC [0] (by decide) ?_
 exact To
def vM (a0:Code_checker) (a1:CodeIns):Option (Code_checker × Bool):=
 some ((⟨(⟨a0.CodeProg.Free,a0.CodeProg.Defs,a0.CodeProg.Code,a0.CodeProg.Main⟩:CodeProg),a0.begins,a0.last,a0.levels,a0.todo⟩:Code_checker),decide (0 ≤ a1.A))
theorem aF5 (p0:Nat) (a0:Code_checker) (a1:CodeIns) (r:Code_checker × Bool) (H:vM a0 a1=some r):FnS Tryz.prog 106 [fEq (.pointer (some ⟨p0,0,none⟩)),fSt aH a1] [dP p0 a0] (aJ r.2) (fun _=>[dP p0 r.1]):=by
 unfold vM at H
 refine cD Tryz.func106 rfl Tryz.ntmps106 rfl (fun β=>?_)
 refine dQ (fun v1 v2 v3=>?_)
 refine aO ?_
 refine dO (fun b1 h1=>?_);subst h1
 refine aB 2 rfl (fun hc_v1=>?_)
 refine aB 3 rfl (fun hc_v3=>?_)
 refine Z1 ?_
 refine Tn (cG rfl hh bP) fun b2=>?_
 refine Z9 ?_
 refine aP ?_
 refine dA ?_
 refine aS ?_
 refine aP ?_
 refine aS ?_
 refine aS ?_
 refine cY (x:=(⟨(⟨a0.CodeProg.Free,a0.CodeProg.Defs,a0.CodeProg.Code,a0.CodeProg.Main⟩:CodeProg),a0.begins,a0.last,a0.levels,a0.todo⟩:Code_checker)) ?_
 cases H
 refine aC [0] (by decide) ?_
 exact To
def tE (a0:Code_checker) (a1:CodeIns):Option (Code_checker × Bool):=
 some ((⟨(⟨a0.CodeProg.Free,a0.CodeProg.Defs,a0.CodeProg.Code,a0.CodeProg.Main⟩:CodeProg),a0.begins,a0.last,a0.levels,a0.todo⟩:Code_checker),true)
theorem aGH (p0:Nat) (a0:Code_checker) (a1:CodeIns) (r:Code_checker × Bool) (H:tE a0 a1=some r):FnS Tryz.prog 107 [fEq (.pointer (some ⟨p0,0,none⟩)),fSt aH a1] [dP p0 a0] (aJ r.2) (fun _=>[dP p0 r.1]):=by
 unfold tE at H
 refine cD Tryz.func107 rfl Tryz.ntmps107 rfl (fun β=>?_)
 refine dQ (fun v1 v2 v3=>?_)
 refine aO ?_
 refine dO (fun b1 h1=>?_);subst h1
 refine aB 2 rfl (fun hc_v1=>?_)
 refine aB 3 rfl (fun hc_v3=>?_)
 refine Z1 ?_
 refine Tn (cG rfl hh bP) fun b2=>?_
 refine Z6 ?_
 refine aP ?_
 refine dA ?_
 refine aS ?_
 refine aP ?_
 refine aS ?_
 refine aS ?_
 refine cY (x:=(⟨(⟨a0.CodeProg.Free,a0.CodeProg.Defs,a0.CodeProg.Code,a0.CodeProg.Main⟩:CodeProg),a0.begins,a0.last,a0.levels,a0.todo⟩:Code_checker)) ?_
 cases H
 refine aC [0] (by decide) ?_
 exact To
def tT (a0:Code_checker) (a1:CodeIns):Option (Code_checker × Bool):=
 (if 0 ≤ a1.A then
  if 0 ≤ a1.B then
   some (decide (a1.B ≤ 3))
  else
   some false
 else
  some false).bind fun x1=>
 some ((⟨(⟨a0.CodeProg.Free,a0.CodeProg.Defs,a0.CodeProg.Code,a0.CodeProg.Main⟩:CodeProg),a0.begins,a0.last,a0.levels,a0.todo⟩:Code_checker),x1)
theorem aHi (p0:Nat) (a0:Code_checker) (a1:CodeIns) (r:Code_checker × Bool) (H:tT a0 a1=some r):FnS Tryz.prog 108 [fEq (.pointer (some ⟨p0,0,none⟩)),fSt aH a1] [dP p0 a0] (aJ r.2) (fun _=>[dP p0 r.1]):=by
 unfold tT at H
 refine cD Tryz.func108 rfl Tryz.ntmps108 rfl (fun β=>?_)
 refine dQ (fun v1 v2 v3=>?_)
 refine aO ?_
 refine dO (fun b1 h1=>?_);subst h1
 refine aB 2 rfl (fun hc_v1=>?_)
 refine aB 3 rfl (fun hc_v3=>?_)
 refine Z1 ?_
 refine Tn (cG rfl hh bP) fun b2=>?_
 revert H;refine B2 fun o1 H Hr1=>?_
 refine aT (ι:=Bool) (fun i=>o1=i) (fun i=>[(0,fEq (ptr p0)),(4,aJ i)]) (fun i=>[aA b2 73 [fI a1.Op,fI a1.A,fI a1.B],aA p0 90 [fI a0.CodeProg.Free,fSl aF a0.CodeProg.Defs,fSl aH a0.CodeProg.Code,fI a0.CodeProg.Main,fSl tI a0.begins,fEq v1,fEq (.map (some b1)),fEq v3],bK bH (fun y=>fSt bA y) b1 a0.levels,aD v1 3 tI a0.last,aD v3 3 tI a0.todo]) ?_ ?_
 revert H;refine I5 (fun c1 H=>?_) fun c1 H=>?_
 revert H;refine I5 (fun c2 H=>?_) fun c2 H=>?_
 refine Z6 ?_
 refine aC [0,2,1,3,4] (by decide) ?_
 exact Tm (decide (a1.B ≤ 3)) (ij H)
 refine Z6 ?_
 refine aC [0,2,1,3,4] (by decide) ?_
 exact Tm (false) (ij H)
 refine Z11 ?_
 refine aC [0,2,1,3,4] (by decide) ?_
 exact Tm (false) (ij H)
 clear H;intro x1 hi;subst o1;have H:=Hr1;clear Hr1;try dsimp only at H
 try dsimp only
 refine Z1 ?_
 refine aO ?_
 refine dA ?_
 refine aS ?_
 refine aP ?_
 refine aS ?_
 refine aS ?_
 refine cY (x:=(⟨(⟨a0.CodeProg.Free,a0.CodeProg.Defs,a0.CodeProg.Code,a0.CodeProg.Main⟩:CodeProg),a0.begins,a0.last,a0.levels,a0.todo⟩:Code_checker)) ?_
 cases H
 refine aC [0] (by decide) ?_
 exact To
def xG (a0:Code_checker) (a1:CodeIns):Option (Code_checker × Bool):=
 (if 0 ≤ a1.A then
  some (decide (a1.A<(a0.CodeProg.Defs.length:Int)))
 else
  some false).bind fun x1=>
 some ((⟨(⟨a0.CodeProg.Free,a0.CodeProg.Defs,a0.CodeProg.Code,a0.CodeProg.Main⟩:CodeProg),a0.begins,a0.last,a0.levels,a0.todo⟩:Code_checker),x1)
theorem aF7 (p0:Nat) (a0:Code_checker) (a1:CodeIns) (r:Code_checker × Bool) (H:xG a0 a1=some r):FnS Tryz.prog 109 [fEq (.pointer (some ⟨p0,0,none⟩)),fSt aH a1] [dP p0 a0] (aJ r.2) (fun _=>[dP p0 r.1]):=by
 unfold xG at H
 refine cD Tryz.func109 rfl Tryz.ntmps109 rfl (fun β=>?_)
 refine dQ (fun v1 v2 v3=>?_)
 refine aO ?_
 refine dO (fun b1 h1=>?_);subst h1
 refine aB 2 rfl (fun hc_v1=>?_)
 refine aB 3 rfl (fun hc_v3=>?_)
 refine Z1 ?_
 refine Tn (cG rfl hh bP) fun b2=>?_
 revert H;refine B2 fun o1 H Hr1=>?_
 refine aT (ι:=Bool) (fun i=>o1=i) (fun i=>[(0,fEq (ptr p0)),(4,aJ i)]) (fun i=>[aA b2 73 [fI a1.Op,fI a1.A,fI a1.B],aA p0 90 [fI a0.CodeProg.Free,fSl aF a0.CodeProg.Defs,fSl aH a0.CodeProg.Code,fI a0.CodeProg.Main,fSl tI a0.begins,fEq v1,fEq (.map (some b1)),fEq v3],bK bH (fun y=>fSt bA y) b1 a0.levels,aD v1 3 tI a0.last,aD v3 3 tI a0.todo]) ?_ ?_
 revert H;refine is (fun c1 H=>?_) fun c1 H=>?_
 apply bO (ods:=[_,_,_,_,_,_,_,_,_,_,_,_,_,_,_]) 15 0 5 bM rfl rfl rfl
 refine ND ?_
 refine M8 ?_
 intros
 refine M7 ?_
 intros
 refine Z2 ?_
 refine aC [0,2,1,3,4] (by decide) ?_
 exact Tm (decide (a1.A<(a0.CodeProg.Defs.length:Int))) (ij H)
 exact fk
 kernel_rfl
 apply bO (ods:=[_,_,_,_,_,_,_,_,_,_,_,_,_,_,_]) 15 0 5 bM rfl rfl rfl
 refine ND ?_
 refine M8 ?_
 intros
 refine M7 ?_
 intros
 refine Z2 ?_
 refine aC [0,2,1,3,4] (by decide) ?_
 exact Tm (false) (ij H)
 exact fk
 kernel_rfl
 clear H;intro x1 hi;subst o1;have H:=Hr1;clear Hr1;try dsimp only at H
 try dsimp only
 refine Z1 ?_
 refine aO ?_
 refine dA ?_
 refine aS ?_
 refine aP ?_
 refine aS ?_
 refine aS ?_
 refine cY (x:=(⟨(⟨a0.CodeProg.Free,a0.CodeProg.Defs,a0.CodeProg.Code,a0.CodeProg.Main⟩:CodeProg),a0.begins,a0.last,a0.levels,a0.todo⟩:Code_checker)) ?_
 cases H
 refine aC [0] (by decide) ?_
 exact To
def wA (a0:Code_checker) (a1:CodeIns):Option (Code_checker × Bool):=
 (if 0 ≤ a1.A then
  (kU (⟨(⟨a0.CodeProg.Free,a0.CodeProg.Defs,a0.CodeProg.Code,a0.CodeProg.Main⟩:CodeProg),a0.begins,a0.last,a0.levels,a0.todo⟩:Code_checker) a1.B).bind fun y1=>
  some (y1.2,y1.1.CodeProg.Free,y1.1.CodeProg.Defs,y1.1.CodeProg.Code,y1.1.CodeProg.Main,y1.1.begins,y1.1.last,y1.1.levels,y1.1.todo)
 else
  some (false,a0.CodeProg.Free,a0.CodeProg.Defs,a0.CodeProg.Code,a0.CodeProg.Main,a0.begins,a0.last,a0.levels,a0.todo)).bind fun (x1,x2,x3,x4,x5,x6,x7,x8,x9)=>
 some ((⟨(⟨x2,x3,x4,x5⟩:CodeProg),x6,x7,x8,x9⟩:Code_checker),x1)
theorem aG2 (p0:Nat) (a0:Code_checker) (a1:CodeIns) (r:Code_checker × Bool) (H:wA a0 a1=some r):FnS Tryz.prog 110 [fEq (.pointer (some ⟨p0,0,none⟩)),fSt aH a1] [dP p0 a0] (aJ r.2) (fun _=>[dP p0 r.1]):=by
 unfold wA at H
 refine cD Tryz.func110 rfl Tryz.ntmps110 rfl (fun β=>?_)
 refine dQ (fun v1 v2 v3=>?_)
 refine aO ?_
 refine dO (fun b1 h1=>?_);subst h1
 refine aB 2 rfl (fun hc_v1=>?_)
 refine aB 3 rfl (fun hc_v3=>?_)
 refine Z1 ?_
 refine Tn (cG rfl hh bP) fun b2=>?_
 revert H;refine B2 fun o1 H Hr1=>?_
 refine aT (ι:=Bool × Int × List ScopeDef × List CodeIns × Int × List Int × List Int × aI Int CodeLevel × List Int × Value × Nat × Value) (fun i=>o1=(i.1,i.2.1,i.2.2.1,i.2.2.2.1,i.2.2.2.2.1,i.2.2.2.2.2.1,i.2.2.2.2.2.2.1,i.2.2.2.2.2.2.2.1,i.2.2.2.2.2.2.2.2.1)) (fun i=>[(0,fEq (ptr p0)),(4,aJ i.1)]) (fun i=>[aA p0 90 [fI i.2.1,fSl aF i.2.2.1,fSl aH i.2.2.2.1,fI i.2.2.2.2.1,fSl tI i.2.2.2.2.2.1,fEq i.2.2.2.2.2.2.2.2.2.1,fEq (.map (some i.2.2.2.2.2.2.2.2.2.2.1)),fEq i.2.2.2.2.2.2.2.2.2.2.2],aA b2 73 [fI a1.Op,fI a1.A,fI a1.B],bK bH (fun y=>fSt bA y) i.2.2.2.2.2.2.2.2.2.2.1 i.2.2.2.2.2.2.2.1,aD i.2.2.2.2.2.2.2.2.2.1 3 tI i.2.2.2.2.2.2.1,aD i.2.2.2.2.2.2.2.2.2.2.2 3 tI i.2.2.2.2.2.2.2.2.1]) ?_ ?_
 revert H;refine I5 (fun c1 H=>?_) fun c1 H=>?_
 refine Z3 ?_
 refine aP ?_
 refine dA ?_
 refine aS ?_
 refine aP ?_
 refine aS ?_
 refine aS ?_
 refine cY (x:=(⟨(⟨a0.CodeProg.Free,a0.CodeProg.Defs,a0.CodeProg.Code,a0.CodeProg.Main⟩:CodeProg),a0.begins,a0.last,a0.levels,a0.todo⟩:Code_checker)) ?_
 revert H;refine bs fun y1 h2 H=>?_
 refine Tc (tZ _ _ _ _ h2) ?_
 refine dQ (fun v6 v7 v8=>?_)
 refine aO ?_
 refine dO (fun b4 h3=>?_);subst h3
 refine aB 2 rfl (fun hc_v6=>?_)
 refine aB 3 rfl (fun hc_v8=>?_)
 refine Z3 ?_
 refine aC [1,4,0,2,3] (by decide) ?_
 exact Tm ((y1.2,y1.1.CodeProg.Free,y1.1.CodeProg.Defs,y1.1.CodeProg.Code,y1.1.CodeProg.Main,y1.1.begins,y1.1.last,y1.1.levels,y1.1.todo,v6,b4,v8)) (ij H)
 refine Z7 ?_
 refine aC [2,0,1,3,4] (by decide) ?_
 exact Tm ((false,a0.CodeProg.Free,a0.CodeProg.Defs,a0.CodeProg.Code,a0.CodeProg.Main,a0.begins,a0.last,a0.levels,a0.todo,v1,b1,v3)) (ij H)
 clear H;intro i hi;obtain⟨x1,x2,x3,x4,x5,x6,x7,x8,x9,v4,b3,v5⟩:=i;subst o1;have H:=Hr1;clear Hr1;try dsimp only at H
 try dsimp only
 refine aB 3 rfl (fun hc_v4=>?_)
 refine aB 4 rfl (fun hc_v5=>?_)
 refine Z1 ?_
 refine aO ?_
 refine dA ?_
 refine aS ?_
 refine aP ?_
 refine aS ?_
 refine bC ?_
 refine cY (x:=(⟨(⟨x2,x3,x4,x5⟩:CodeProg),x6,x7,x8,x9⟩:Code_checker)) ?_
 cases H
 refine aC [0] (by decide) ?_
 exact To
def xB (a0:Code_checker) (a1:CodeIns):Option (Code_checker × Bool):=
 (if 0 ≤ a1.A then
  (kU (⟨(⟨a0.CodeProg.Free,a0.CodeProg.Defs,a0.CodeProg.Code,a0.CodeProg.Main⟩:CodeProg),a0.begins,a0.last,a0.levels,a0.todo⟩:Code_checker) a1.B).bind fun y1=>
  some (y1.2,y1.1.CodeProg.Free,y1.1.CodeProg.Defs,y1.1.CodeProg.Code,y1.1.CodeProg.Main,y1.1.begins,y1.1.last,y1.1.levels,y1.1.todo)
 else
  some (false,a0.CodeProg.Free,a0.CodeProg.Defs,a0.CodeProg.Code,a0.CodeProg.Main,a0.begins,a0.last,a0.levels,a0.todo)).bind fun (x1,x2,x3,x4,x5,x6,x7,x8,x9)=>
 some ((⟨(⟨x2,x3,x4,x5⟩:CodeProg),x6,x7,x8,x9⟩:Code_checker),x1)
theorem aHP (p0:Nat) (a0:Code_checker) (a1:CodeIns) (r:Code_checker × Bool) (H:xB a0 a1=some r):FnS Tryz.prog 111 [fEq (.pointer (some ⟨p0,0,none⟩)),fSt aH a1] [dP p0 a0] (aJ r.2) (fun _=>[dP p0 r.1]):=by
 unfold xB at H
 refine cD Tryz.func111 rfl Tryz.ntmps111 rfl (fun β=>?_)
 refine dQ (fun v1 v2 v3=>?_)
 refine aO ?_
 refine dO (fun b1 h1=>?_);subst h1
 refine aB 2 rfl (fun hc_v1=>?_)
 refine aB 3 rfl (fun hc_v3=>?_)
 refine Z1 ?_
 refine Tn (cG rfl hh bP) fun b2=>?_
 revert H;refine B2 fun o1 H Hr1=>?_
 refine aT (ι:=Bool × Int × List ScopeDef × List CodeIns × Int × List Int × List Int × aI Int CodeLevel × List Int × Value × Nat × Value) (fun i=>o1=(i.1,i.2.1,i.2.2.1,i.2.2.2.1,i.2.2.2.2.1,i.2.2.2.2.2.1,i.2.2.2.2.2.2.1,i.2.2.2.2.2.2.2.1,i.2.2.2.2.2.2.2.2.1)) (fun i=>[(0,fEq (ptr p0)),(4,aJ i.1)]) (fun i=>[aA p0 90 [fI i.2.1,fSl aF i.2.2.1,fSl aH i.2.2.2.1,fI i.2.2.2.2.1,fSl tI i.2.2.2.2.2.1,fEq i.2.2.2.2.2.2.2.2.2.1,fEq (.map (some i.2.2.2.2.2.2.2.2.2.2.1)),fEq i.2.2.2.2.2.2.2.2.2.2.2],aA b2 73 [fI a1.Op,fI a1.A,fI a1.B],bK bH (fun y=>fSt bA y) i.2.2.2.2.2.2.2.2.2.2.1 i.2.2.2.2.2.2.2.1,aD i.2.2.2.2.2.2.2.2.2.1 3 tI i.2.2.2.2.2.2.1,aD i.2.2.2.2.2.2.2.2.2.2.2 3 tI i.2.2.2.2.2.2.2.2.1]) ?_ ?_
 revert H;refine I5 (fun c1 H=>?_) fun c1 H=>?_
 refine Z3 ?_
 refine aP ?_
 refine dA ?_
 refine aS ?_
 refine aP ?_
 refine aS ?_
 refine aS ?_
 refine cY (x:=(⟨(⟨a0.CodeProg.Free,a0.CodeProg.Defs,a0.CodeProg.Code,a0.CodeProg.Main⟩:CodeProg),a0.begins,a0.last,a0.levels,a0.todo⟩:Code_checker)) ?_
 revert H;refine bs fun y1 h2 H=>?_
 refine Tc (tZ _ _ _ _ h2) ?_
 refine dQ (fun v6 v7 v8=>?_)
 refine aO ?_
 refine dO (fun b4 h3=>?_);subst h3
 refine aB 2 rfl (fun hc_v6=>?_)
 refine aB 3 rfl (fun hc_v8=>?_)
 refine Z3 ?_
 refine aC [1,4,0,2,3] (by decide) ?_
 exact Tm ((y1.2,y1.1.CodeProg.Free,y1.1.CodeProg.Defs,y1.1.CodeProg.Code,y1.1.CodeProg.Main,y1.1.begins,y1.1.last,y1.1.levels,y1.1.todo,v6,b4,v8)) (ij H)
 refine Z7 ?_
 refine aC [2,0,1,3,4] (by decide) ?_
 exact Tm ((false,a0.CodeProg.Free,a0.CodeProg.Defs,a0.CodeProg.Code,a0.CodeProg.Main,a0.begins,a0.last,a0.levels,a0.todo,v1,b1,v3)) (ij H)
 clear H;intro i hi;obtain⟨x1,x2,x3,x4,x5,x6,x7,x8,x9,v4,b3,v5⟩:=i;subst o1;have H:=Hr1;clear Hr1;try dsimp only at H
 try dsimp only
 refine aB 3 rfl (fun hc_v4=>?_)
 refine aB 4 rfl (fun hc_v5=>?_)
 refine Z1 ?_
 refine aO ?_
 refine dA ?_
 refine aS ?_
 refine aP ?_
 refine aS ?_
 refine bC ?_
 refine cY (x:=(⟨(⟨x2,x3,x4,x5⟩:CodeProg),x6,x7,x8,x9⟩:Code_checker)) ?_
 cases H
 refine aC [0] (by decide) ?_
 exact To
def aAt (v:Value) (a0:Code_checker) (a1:CodeIns):Option (Code_checker × Bool):=match v with
 | .func (.func 105) ⟨[]⟩ ⟨[]⟩=>tL a0 a1
 | .func (.func 106) ⟨[]⟩ ⟨[]⟩=>vM a0 a1
 | .func (.func 107) ⟨[]⟩ ⟨[]⟩=>tE a0 a1
 | .func (.func 108) ⟨[]⟩ ⟨[]⟩=>tT a0 a1
 | .func (.func 109) ⟨[]⟩ ⟨[]⟩=>xG a0 a1
 | .func (.func 110) ⟨[]⟩ ⟨[]⟩=>wA a0 a1
 | .func (.func 111) ⟨[]⟩ ⟨[]⟩=>xB a0 a1
 | _=>none
theorem aGl (p0:Nat) (v:Value) (a0:Code_checker) (a1:CodeIns) (r:Code_checker × Bool) (H:aAt v a0 a1=some r):∃ f,v= .func (.func f) #[] #[] ∧ Callable Tryz.prog f ∧ FnS Tryz.prog f [fEq (.pointer (some ⟨p0,0,none⟩)),fSt aH a1] [dP p0 a0] (aJ r.2) (fun _=>[dP p0 r.1]):=by
 unfold aAt at H
 split at H
 exact⟨_,rfl,(cb rfl),aHM p0 a0 a1 r H⟩
 exact⟨_,rfl,(cb rfl),aF5 p0 a0 a1 r H⟩
 exact⟨_,rfl,(cb rfl),aGH p0 a0 a1 r H⟩
 exact⟨_,rfl,(cb rfl),aHi p0 a0 a1 r H⟩
 exact⟨_,rfl,(cb rfl),aF7 p0 a0 a1 r H⟩
 exact⟨_,rfl,(cb rfl),aG2 p0 a0 a1 r H⟩
 exact⟨_,rfl,(cb rfl),aHP p0 a0 a1 r H⟩
 cases H
def lG (a0:Code_checker):Nat → Int → Int → (List ScopeDef) → (List CodeIns) → Int → (List Int) → (List Int) → (aI Int CodeLevel) → (List Int) → (aI Int Bool) → Option ((Int × List ScopeDef × List CodeIns × Int × List Int × List Int × aI Int CodeLevel × List Int × aI Int Bool) ⊕ (Code_checker ⊕ Value))
| 0,_,_,_,_,_,_,_,_,_,_=>none
| k+1,x20,x21,x22,x23,x24,x25,x26,x27,x28,x29=>
 if x20<(a0.CodeProg.Code.length:Int)then
  ((idx a0.CodeProg.Code x20).bind fun y2=>
  (wY y2.Op).bind fun y3=>
  (bU y3).bind fun y4=>
  match y4 with
  | Sum.inr pv1=>((some (Sum.inr pv1)).bind fun r=>some (Sum.inr r)).bind fun r=>some (Sum.inr r)
  | Sum.inl y4=>
  (idx zA y2.Op).bind fun y5=>
  ((aAt y5.right (⟨(⟨x21,x22,x23,x24⟩:CodeProg),x25,x26,x27,x28⟩:Code_checker) (⟨y2.Op,y2.A,y2.B⟩:CodeIns)).bind fun y6=>
  bif y6.2 then
   if 0<y5.many then
    if 1<y5.many then
     (bU true).bind fun y7=>
     match y7 with
     | Sum.inr pv2=>(((some (Sum.inr pv2)).bind fun r=>some (Sum.inr r)).bind fun r=>some (Sum.inr r)).bind fun r=>some (Sum.inr r)
     | Sum.inl y7=>
     some (Sum.inl (y6.1.CodeProg.Free,y6.1.CodeProg.Defs,y6.1.CodeProg.Code,y6.1.CodeProg.Main,y6.1.begins,y6.1.last,y6.1.levels,y6.1.todo))
    else
     (bU (decide (y2.B=0))).bind fun y8=>
     match y8 with
     | Sum.inr pv3=>(((some (Sum.inr pv3)).bind fun r=>some (Sum.inr r)).bind fun r=>some (Sum.inr r)).bind fun r=>some (Sum.inr r)
     | Sum.inl y8=>
     some (Sum.inl (y6.1.CodeProg.Free,y6.1.CodeProg.Defs,y6.1.CodeProg.Code,y6.1.CodeProg.Main,y6.1.begins,y6.1.last,y6.1.levels,y6.1.todo))
   else
    if y2.A=0 then
     if 1<y5.many then
      (bU true).bind fun y9=>
      match y9 with
      | Sum.inr pv4=>(((some (Sum.inr pv4)).bind fun r=>some (Sum.inr r)).bind fun r=>some (Sum.inr r)).bind fun r=>some (Sum.inr r)
      | Sum.inl y9=>
      some (Sum.inl (y6.1.CodeProg.Free,y6.1.CodeProg.Defs,y6.1.CodeProg.Code,y6.1.CodeProg.Main,y6.1.begins,y6.1.last,y6.1.levels,y6.1.todo))
     else
      (bU (decide (y2.B=0))).bind fun y10=>
      match y10 with
      | Sum.inr pv5=>(((some (Sum.inr pv5)).bind fun r=>some (Sum.inr r)).bind fun r=>some (Sum.inr r)).bind fun r=>some (Sum.inr r)
      | Sum.inl y10=>
      some (Sum.inl (y6.1.CodeProg.Free,y6.1.CodeProg.Defs,y6.1.CodeProg.Code,y6.1.CodeProg.Main,y6.1.begins,y6.1.last,y6.1.levels,y6.1.todo))
    else
     (bU false).bind fun y11=>
     match y11 with
     | Sum.inr pv6=>(((some (Sum.inr pv6)).bind fun r=>some (Sum.inr r)).bind fun r=>some (Sum.inr r)).bind fun r=>some (Sum.inr r)
     | Sum.inl y11=>
     some (Sum.inl (y6.1.CodeProg.Free,y6.1.CodeProg.Defs,y6.1.CodeProg.Code,y6.1.CodeProg.Main,y6.1.begins,y6.1.last,y6.1.levels,y6.1.todo))
  else
   (bU false).bind fun y12=>
   match y12 with
   | Sum.inr pv7=>(((some (Sum.inr pv7)).bind fun r=>some (Sum.inr r)).bind fun r=>some (Sum.inr r)).bind fun r=>some (Sum.inr r)
   | Sum.inl y12=>
   some (Sum.inl (y6.1.CodeProg.Free,y6.1.CodeProg.Defs,y6.1.CodeProg.Code,y6.1.CodeProg.Main,y6.1.begins,y6.1.last,y6.1.levels,y6.1.todo))).bind fun o=>match o with
  | Sum.inr r=>some r
  | Sum.inl (x39,x40,x41,x42,x43,x44,x45,x46)=>
  (if y2.Op=9 then
   if x20<y2.A then
    (bU (decide (y2.A<(x41.length:Int)))).bind fun y13=>
    match y13 with
    | Sum.inr pv8=>(((some (Sum.inr pv8)).bind fun r=>some (Sum.inr r)).bind fun r=>some (Sum.inr r)).bind fun r=>some (Sum.inr r)
    | Sum.inl y13=>
    some (Sum.inl ())
   else
    (bU false).bind fun y14=>
    match y14 with
    | Sum.inr pv9=>(((some (Sum.inr pv9)).bind fun r=>some (Sum.inr r)).bind fun r=>some (Sum.inr r)).bind fun r=>some (Sum.inr r)
    | Sum.inl y14=>
    some (Sum.inl ())
  else
   if y2.Op=10 then
    if x20<y2.A then
     (bU (decide (y2.A<(x41.length:Int)))).bind fun y15=>
     match y15 with
     | Sum.inr pv10=>(((some (Sum.inr pv10)).bind fun r=>some (Sum.inr r)).bind fun r=>some (Sum.inr r)).bind fun r=>some (Sum.inr r)
     | Sum.inl y15=>
     some (Sum.inl ())
    else
     (bU false).bind fun y16=>
     match y16 with
     | Sum.inr pv11=>(((some (Sum.inr pv11)).bind fun r=>some (Sum.inr r)).bind fun r=>some (Sum.inr r)).bind fun r=>some (Sum.inr r)
     | Sum.inl y16=>
     some (Sum.inl ())
   else
    some (Sum.inl ())).bind fun o=>match o with
  | Sum.inr r=>some r
  | Sum.inl _=>
  if y2.Op=11 then
   (bU (!((x29.get y2.A).getD false))).bind fun y17=>
   match y17 with
   | Sum.inr pv12=>((some (Sum.inr pv12)).bind fun r=>some (Sum.inr r)).bind fun r=>some (Sum.inr r)
   | Sum.inl y17=>
   some (Sum.inl (x39,x40,x41,x42,x43,x44,x45,x46,aI.upd x29 y2.A true))
  else
   some (Sum.inl (x39,x40,x41,x42,x43,x44,x45,x46,x29))).bind fun o=>match o with
  | Sum.inr r=>some r
  | Sum.inl (x30,x31,x32,x33,x34,x35,x36,x37,x38)=>
  (chk (x20+1)).bind fun z1=>
  lG a0 k z1 x30 x31 x32 x33 x34 x35 x36 x37 x38
 else
  some (Sum.inl (x21,x22,x23,x24,x25,x26,x27,x28,x29))
def uJ (fuel:Nat) (a0:Code_checker):Option (Code_checker ⊕ Value):=
 (aAR).bind fun y1=>
 (lG a0 fuel 0 a0.CodeProg.Free a0.CodeProg.Defs a0.CodeProg.Code a0.CodeProg.Main a0.begins a0.last a0.levels a0.todo (aI.none:aI Int Bool)).bind fun o=>match o with
 | Sum.inr r=>some r
 | Sum.inl (x1,x2,x3,x4,x5,x6,x7,x8,x9)=>
 (bU (decide ((x9.size:Int)=(x2.length:Int)))).bind fun y18=>
 match y18 with
 | Sum.inr pv13=>some (Sum.inr pv13)
 | Sum.inl y18=>
 some (Sum.inl (⟨(⟨x1,x2,x3,x4⟩:CodeProg),x5,x6,x7,x8⟩:Code_checker))
theorem aEO (fuel:Nat) (p0:Nat) (a0:Code_checker) (r:Code_checker ⊕ Value) (H:uJ fuel a0=some r):FnE Tryz.prog 72 [fEq (.pointer (some ⟨p0,0,none⟩))] [dP p0 a0] r (fun r=>dJ []) (fun r=>[dP p0 r]):=by
 unfold uJ at H
 refine iS Tryz.func72 rfl Tryz.ntmps72 rfl (fun β=>?_)
 refine dQ (fun v1 v2 v3=>?_)
 refine aO ?_
 refine dO (fun b1 h1=>?_);subst h1
 refine aB 2 rfl (fun hc_v1=>?_)
 refine aB 3 rfl (fun hc_v3=>?_)
 revert H;refine B1 fun y1 h2 H=>?_
 refine Tc (aHU _ h2) ?_
 refine Tn (cR rfl aG1 rfl) fun b2=>?_
 refine cW (φs':=lM.leafs ()) trivial rfl rfl (has rfl) (has rfl) (lM.cell ()) (sz rfl) rfl rfl rfl ?_
 refine hZ (φ:=bX lM ()) (v:=ptr b2) [] (aAn aK.rfl) (fun _ h=>nomatch h) ?_
 refine T_slotW 2 rfl (fun m u h k=>by cases k;exact h) ?_
 refine gV ?_
 refine Z2 ?_
 refine Tn (aBm (fun y=>aJ y) bH rfl) fun b3=>?_
 revert H;refine B2 fun o1 H Hr1=>?_
 refine aT (ι:=Int × List ScopeDef × List CodeIns × Int × List Int × List Int × aI Int CodeLevel × List Int × aI Int Bool × Value × Nat × Value) (fun i=>o1=Sum.inl (i.1,i.2.1,i.2.2.1,i.2.2.2.1,i.2.2.2.2.1,i.2.2.2.2.2.1,i.2.2.2.2.2.2.1,i.2.2.2.2.2.2.2.1,i.2.2.2.2.2.2.2.2.1)) (fun i=>[(0,fEq (ptr p0)),(3,fEq (.map (some b3)))]) (fun i=>[aA p0 90 [fI i.1,fSl aF i.2.1,fSl aH i.2.2.1,fI i.2.2.2.1,fSl tI i.2.2.2.2.1,fEq i.2.2.2.2.2.2.2.2.2.1,fEq (.map (some i.2.2.2.2.2.2.2.2.2.2.1)),fEq i.2.2.2.2.2.2.2.2.2.2.2],bK bH (fun y=>fSt bA y) i.2.2.2.2.2.2.2.2.2.2.1 i.2.2.2.2.2.2.1,bK bH (fun y=>aJ y) b3 i.2.2.2.2.2.2.2.2.1,aD i.2.2.2.2.2.2.2.2.2.1 3 tI i.2.2.2.2.2.1,aD i.2.2.2.2.2.2.2.2.2.2.2 3 tI i.2.2.2.2.2.2.2.1]) ?_ ?_
 refine Z10 ?_
 refine aC [2,1,0,3,4] (by decide) ?_
 refine Tl (ι:=Nat × Int × Int × List ScopeDef × List CodeIns × Int × List Int × List Int × aI Int CodeLevel × List Int × aI Int Bool × Value × Nat × Value) (fun i=>lG a0 i.1 i.2.1 i.2.2.1 i.2.2.2.1 i.2.2.2.2.1 i.2.2.2.2.2.1 i.2.2.2.2.2.2.1 i.2.2.2.2.2.2.2.1 i.2.2.2.2.2.2.2.2.1 i.2.2.2.2.2.2.2.2.2.1 i.2.2.2.2.2.2.2.2.2.2.1=_) (fun i=>i.1) (fun i=>[(0,fEq (ptr p0)),(2,bX lM ()),(3,fEq (.map (some b3))),(13,fSl aH a0.CodeProg.Code),(14,fI (a0.CodeProg.Code.length:Int)),(15,fI i.2.1)]) (fun i=>[aA p0 90 [fI i.2.2.1,fSl aF i.2.2.2.1,fSl aH i.2.2.2.2.1,fI i.2.2.2.2.2.1,fSl tI i.2.2.2.2.2.2.1,fEq i.2.2.2.2.2.2.2.2.2.2.2.1,fEq (.map (some i.2.2.2.2.2.2.2.2.2.2.2.2.1)),fEq i.2.2.2.2.2.2.2.2.2.2.2.2.2],bK bH (fun y=>fSt bA y) i.2.2.2.2.2.2.2.2.2.2.2.2.1 i.2.2.2.2.2.2.2.2.1,bK bH (fun y=>aJ y) b3 i.2.2.2.2.2.2.2.2.2.2.1,aD i.2.2.2.2.2.2.2.2.2.2.2.1 3 tI i.2.2.2.2.2.2.2.1,aD i.2.2.2.2.2.2.2.2.2.2.2.2.2 3 tI i.2.2.2.2.2.2.2.2.2.1]) (fuel,0,a0.CodeProg.Free,a0.CodeProg.Defs,a0.CodeProg.Code,a0.CodeProg.Main,a0.begins,a0.last,a0.levels,a0.todo,(aI.none:aI Int Bool),v1,b1,v3) H ?_
 clear H;rintro⟨k1,x20,x21,x22,x23,x24,x25,x26,x27,x28,x29,v8,b6,v9⟩ H
 replace H:lG a0 k1 x20 x21 x22 x23 x24 x25 x26 x27 x28 x29=_:=H
 try dsimp only
 obtain _ | k1:=k1
 rw [lG]at H;cases H
 rw [lG]at H
 refine aB 3 rfl (fun hc_v8=>?_)
 refine aB 4 rfl (fun hc_v9=>?_)
 refine Z3 ?_
 refine aL ?_
 revert H;refine is (fun c1 H=>?_) fun c1 H=>?_
 revert H;refine B3 fun o2 H Hr2=>?_
 refine aT (ι:=Int × List ScopeDef × List CodeIns × Int × List Int × List Int × aI Int CodeLevel × List Int × aI Int Bool × Value × Nat × Value) (fun i=>o2=Sum.inl (i.1,i.2.1,i.2.2.1,i.2.2.2.1,i.2.2.2.2.1,i.2.2.2.2.2.1,i.2.2.2.2.2.2.1,i.2.2.2.2.2.2.2.1,i.2.2.2.2.2.2.2.2.1)) (fun i=>[(0,fEq (ptr p0)),(2,bX lM ()),(3,fEq (.map (some b3))),(13,fSl aH a0.CodeProg.Code),(14,fI (a0.CodeProg.Code.length:Int)),(15,fI x20)]) (fun i=>[aA p0 90 [fI i.1,fSl aF i.2.1,fSl aH i.2.2.1,fI i.2.2.2.1,fSl tI i.2.2.2.2.1,fEq i.2.2.2.2.2.2.2.2.2.1,fEq (.map (some i.2.2.2.2.2.2.2.2.2.2.1)),fEq i.2.2.2.2.2.2.2.2.2.2.2],bK bH (fun y=>fSt bA y) i.2.2.2.2.2.2.2.2.2.2.1 i.2.2.2.2.2.2.1,bK bH (fun y=>aJ y) b3 i.2.2.2.2.2.2.2.2.1,aD i.2.2.2.2.2.2.2.2.2.1 3 tI i.2.2.2.2.2.1,aD i.2.2.2.2.2.2.2.2.2.2.2 3 tI i.2.2.2.2.2.2.2.1]) ?_ ?_
 revert H;refine B3 fun y2 h3 H=>?_
 refine Z2 ?_
 refine Tn (cR rfl qK rfl) fun b8=>?_
 refine Z1 ?_
 refine cW (φs':=[fI y2.Op,fI y2.A,fI y2.B]) trivial rfl rfl (has rfl) (has rfl) (aN (aG trivial) (aN (aG trivial) (aN (aG trivial) bZ))) (sz rfl) rfl rfl rfl ?_
 revert H;refine B4 fun y3 h4 H=>?_
 refine Tc (aHf _ _ h4) ?_
 revert H;refine bs fun y4 h5 H=>?_
 rcases y4 with y4 | pv1 <;> dsimp only at H
 refine Tc (aW _ _ h5).s ?_
 revert H;refine B4 fun y5 h6 H=>?_
 refine Yy (aGD (A:=lM) (xs:=zA) rfl hh hh rfl aGG h6) ?_
 refine Z1 ?_
 refine Tn (cR rfl aHB rfl) fun b9=>?_
 refine cW (φs':=[fStr y5.name,fI y5.many,gF y5.right]) trivial rfl rfl (has rfl) (has rfl) (aN (aG trivial) (aN (aG trivial) (aN (uX) bZ))) (sz rfl) rfl rfl rfl ?_
 revert H;refine B1 fun o3 H Hr3=>?_
 refine aT (ι:=Int × List ScopeDef × List CodeIns × Int × List Int × List Int × aI Int CodeLevel × List Int × Value × Nat × Value) (fun i=>o3=Sum.inl (i.1,i.2.1,i.2.2.1,i.2.2.2.1,i.2.2.2.2.1,i.2.2.2.2.2.1,i.2.2.2.2.2.2.1,i.2.2.2.2.2.2.2.1)) (fun i=>[(0,fEq (ptr p0)),(2,bX lM ()),(3,fEq (.map (some b3))),(13,fSl aH a0.CodeProg.Code),(14,fI (a0.CodeProg.Code.length:Int)),(15,fI x20),(5,fEq (ptr b8)),(4,fI x20)]) (fun i=>[aA p0 90 [fI i.1,fSl aF i.2.1,fSl aH i.2.2.1,fI i.2.2.2.1,fSl tI i.2.2.2.2.1,fEq i.2.2.2.2.2.2.2.2.1,fEq (.map (some i.2.2.2.2.2.2.2.2.2.1)),fEq i.2.2.2.2.2.2.2.2.2.2],aA b9 150 [fStr y5.name,fI y5.many,gF y5.right],aA b8 73 [fI y2.Op,fI y2.A,fI y2.B],bK bH (fun y=>fSt bA y) i.2.2.2.2.2.2.2.2.2.1 i.2.2.2.2.2.2.1,bK bH (fun y=>aJ y) b3 x29,aD i.2.2.2.2.2.2.2.2.1 3 tI i.2.2.2.2.2.1,aD i.2.2.2.2.2.2.2.2.2.2 3 tI i.2.2.2.2.2.2.2.1]) ?_ ?_
 refine Z5 ?_
 refine bC ?_
 refine dA ?_
 refine qY ?_
 refine aP ?_
 refine qY ?_
 refine gE ?_
 refine cY (x:=(⟨(⟨x21,x22,x23,x24⟩:CodeProg),x25,x26,x27,x28⟩:Code_checker)) ?_
 revert H;refine bs fun y6 h7 H=>?_
 obtain⟨f1,h8,h9,h10⟩:=aGl p0 y5.right (⟨(⟨x21,x22,x23,x24⟩:CodeProg),x25,x26,x27,x28⟩:Code_checker) (⟨y2.Op,y2.A,y2.B⟩:CodeIns) _ h7
 refine pX 29 rfl (ent_fnOf h8) ?_
 refine dE trivial rfl rfl rfl (has rfl) (aE.cons (has rfl) (aE.cons (has rfl) aE.nil)) rfl h9 h10 rfl ?_
 refine dQ (fun v14 v15 v16=>?_)
 refine aO ?_
 refine dO (fun b11 h11=>?_);subst h11
 refine aB 2 rfl (fun hc_v14=>?_)
 refine aB 3 rfl (fun hc_v16=>?_)
 refine Z1 ?_
 revert H;refine cs (fun c2 H=>?_) fun c2 H=>?_
 revert H;refine I4 (fun c3 H=>?_) fun c3 H=>?_
 revert H;refine I10 (fun c4 H=>?_) fun c4 H=>?_
 revert H;refine B5 fun y7 h12 H=>?_
 rcases y7 with y7 | pv2 <;> dsimp only at H
 refine Tc (aW _ _ h12).s ?_
 refine Z1 ?_
 refine aC [1,4,5,0,6,2,3] (by decide) ?_
 exact Tm ((y6.1.CodeProg.Free,y6.1.CodeProg.Defs,y6.1.CodeProg.Code,y6.1.CodeProg.Main,y6.1.begins,y6.1.last,y6.1.levels,y6.1.todo,v14,b11,v16)) (ij H)
 refine Tp (aW _ _ h12).pan ?_
 revert H;refine B1 fun r1 H e1=>?_
 cases e1;cases Hr3
 revert H;refine B2 fun r2 H e2=>?_
 cases e2;cases Hr2
 revert H;refine B3 fun r3 H e3=>?_
 cases e3;cases Hr1
 cases H
 exact bJ
 revert H;refine B5 fun y8 h13 H=>?_
 rcases y8 with y8 | pv3 <;> dsimp only at H
 refine Tc (aW _ _ h13).s ?_
 refine Z1 ?_
 refine aC [1,4,5,0,6,2,3] (by decide) ?_
 exact Tm ((y6.1.CodeProg.Free,y6.1.CodeProg.Defs,y6.1.CodeProg.Code,y6.1.CodeProg.Main,y6.1.begins,y6.1.last,y6.1.levels,y6.1.todo,v14,b11,v16)) (ij H)
 refine Tp (aW _ _ h13).pan ?_
 revert H;refine B1 fun r4 H e4=>?_
 cases e4;cases Hr3
 revert H;refine B2 fun r5 H e5=>?_
 cases e5;cases Hr2
 revert H;refine B3 fun r6 H e6=>?_
 cases e6;cases Hr1
 cases H
 exact bJ
 revert H;refine I6 (fun c5 H=>?_) fun c5 H=>?_
 revert H;refine I4 (fun c6 H=>?_) fun c6 H=>?_
 revert H;refine B5 fun y9 h14 H=>?_
 rcases y9 with y9 | pv4 <;> dsimp only at H
 refine Tc (aW _ _ h14).s ?_
 refine Z1 ?_
 refine aC [1,4,5,0,6,2,3] (by decide) ?_
 exact Tm ((y6.1.CodeProg.Free,y6.1.CodeProg.Defs,y6.1.CodeProg.Code,y6.1.CodeProg.Main,y6.1.begins,y6.1.last,y6.1.levels,y6.1.todo,v14,b11,v16)) (ij H)
 refine Tp (aW _ _ h14).pan ?_
 revert H;refine B1 fun r7 H e7=>?_
 cases e7;cases Hr3
 revert H;refine B2 fun r8 H e8=>?_
 cases e8;cases Hr2
 revert H;refine B3 fun r9 H e9=>?_
 cases e9;cases Hr1
 cases H
 exact bJ
 revert H;refine B5 fun y10 h15 H=>?_
 rcases y10 with y10 | pv5 <;> dsimp only at H
 refine Tc (aW _ _ h15).s ?_
 refine Z1 ?_
 refine aC [1,4,5,0,6,2,3] (by decide) ?_
 exact Tm ((y6.1.CodeProg.Free,y6.1.CodeProg.Defs,y6.1.CodeProg.Code,y6.1.CodeProg.Main,y6.1.begins,y6.1.last,y6.1.levels,y6.1.todo,v14,b11,v16)) (ij H)
 refine Tp (aW _ _ h15).pan ?_
 revert H;refine B1 fun r10 H e10=>?_
 cases e10;cases Hr3
 revert H;refine B2 fun r11 H e11=>?_
 cases e11;cases Hr2
 revert H;refine B3 fun r12 H e12=>?_
 cases e12;cases Hr1
 cases H
 exact bJ
 refine Z4 ?_
 refine bF (⟨_,_,_,_,rfl,rfl,rfl,nu⟩) rfl rfl ?_
 refine bF (⟨_,_,_,_,rfl,rfl,rfl,nu⟩) rfl rfl ?_
 refine bF (⟨_,_,_,_,rfl,rfl,rfl,nu⟩) rfl rfl ?_
 revert H;refine B2 fun y11 h16 H=>?_
 rcases y11 with y11 | pv6 <;> dsimp only at H
 refine Tc (aW _ _ h16).s ?_
 refine Z1 ?_
 refine aC [1,4,5,0,6,2,3] (by decide) ?_
 exact Tm ((y6.1.CodeProg.Free,y6.1.CodeProg.Defs,y6.1.CodeProg.Code,y6.1.CodeProg.Main,y6.1.begins,y6.1.last,y6.1.levels,y6.1.todo,v14,b11,v16)) (ij H)
 refine Tp (aW _ _ h16).pan ?_
 revert H;refine B1 fun r13 H e13=>?_
 cases e13;cases Hr3
 revert H;refine B2 fun r14 H e14=>?_
 cases e14;cases Hr2
 revert H;refine B3 fun r15 H e15=>?_
 cases e15;cases Hr1
 cases H
 exact bJ
 refine Z4 ?_
 refine bF (⟨_,_,_,_,rfl,rfl,rfl,nu⟩) rfl rfl ?_
 refine bF (⟨_,_,_,_,rfl,rfl,rfl,nu⟩) rfl rfl ?_
 refine bF (⟨_,_,_,_,rfl,rfl,rfl,nu⟩) rfl rfl ?_
 refine Z7 ?_
 refine bF (⟨_,_,_,_,rfl,rfl,rfl,nu⟩) rfl rfl ?_
 refine bF (⟨_,_,_,_,rfl,rfl,rfl,nu⟩) rfl rfl ?_
 refine bF (⟨_,_,_,_,rfl,rfl,rfl,nu⟩) rfl rfl ?_
 revert H;refine B2 fun y12 h17 H=>?_
 rcases y12 with y12 | pv7 <;> dsimp only at H
 refine Tc (aW _ _ h17).s ?_
 refine Z1 ?_
 refine aC [1,4,5,0,6,2,3] (by decide) ?_
 exact Tm ((y6.1.CodeProg.Free,y6.1.CodeProg.Defs,y6.1.CodeProg.Code,y6.1.CodeProg.Main,y6.1.begins,y6.1.last,y6.1.levels,y6.1.todo,v14,b11,v16)) (ij H)
 refine Tp (aW _ _ h17).pan ?_
 revert H;refine B1 fun r16 H e16=>?_
 cases e16;cases Hr3
 revert H;refine B2 fun r17 H e17=>?_
 cases e17;cases Hr2
 revert H;refine B3 fun r18 H e18=>?_
 cases e18;cases Hr1
 cases H
 exact bJ
 clear H;intro i hi;obtain⟨x39,x40,x41,x42,x43,x44,x45,x46,v12,b10,v13⟩:=i;subst o3;have H:=Hr3;clear Hr3;try dsimp only at H
 try dsimp only
 refine aB 5 rfl (fun hc_v12=>?_)
 refine aB 6 rfl (fun hc_v13=>?_)
 revert H;refine bs fun o4 H Hr4=>?_
 refine aT (ι:=Unit) (fun i=>o4=Sum.inl ()) (fun i=>[(0,fEq (ptr p0)),(2,bX lM ()),(3,fEq (.map (some b3))),(13,fSl aH a0.CodeProg.Code),(14,fI (a0.CodeProg.Code.length:Int)),(15,fI x20),(5,fEq (ptr b8))]) (fun i=>[aA p0 90 [fI x39,fSl aF x40,fSl aH x41,fI x42,fSl tI x43,fEq v12,fEq (.map (some b10)),fEq v13],aA b9 150 [fStr y5.name,fI y5.many,gF y5.right],aA b8 73 [fI y2.Op,fI y2.A,fI y2.B],bK bH (fun y=>fSt bA y) b10 x45,bK bH (fun y=>aJ y) b3 x29,aD v12 3 tI x44,aD v13 3 tI x46]) ?_ ?_
 revert H;refine I5 (fun c7 H=>?_) fun c7 H=>?_
 revert H;refine I6 (fun c8 H=>?_) fun c8 H=>?_
 apply bO (ods:=[_,_,_,_,_,_,_,_,_,_,_,_,_,_,_]) 15 0 7 bM rfl rfl rfl
 refine ND ?_
 refine M8 ?_
 intros
 refine M7 ?_
 intros
 revert H;refine B1 fun y13 h18 H=>?_
 rcases y13 with y13 | pv8 <;> dsimp only at H
 refine Tc (aW _ _ h18).s ?_
 refine Z1 ?_
 exact Tm (()) (ij H)
 refine Tp (aW _ _ h18).pan ?_
 revert H;refine B1 fun r19 H e19=>?_
 cases e19;cases Hr4
 revert H;refine B2 fun r20 H e20=>?_
 cases e20;cases Hr2
 revert H;refine B3 fun r21 H e21=>?_
 cases e21;cases Hr1
 cases H
 exact bJ
 exact fk
 kernel_rfl
 apply bO (ods:=[_,_,_,_,_,_,_,_,_,_,_,_,_,_,_]) 15 0 7 bM rfl rfl rfl
 refine ND ?_
 refine M8 ?_
 intros
 refine M7 ?_
 intros
 revert H;refine B1 fun y14 h19 H=>?_
 rcases y14 with y14 | pv9 <;> dsimp only at H
 refine Tc (aW _ _ h19).s ?_
 refine Z1 ?_
 exact Tm (()) (ij H)
 refine Tp (aW _ _ h19).pan ?_
 revert H;refine B1 fun r22 H e22=>?_
 cases e22;cases Hr4
 revert H;refine B2 fun r23 H e23=>?_
 cases e23;cases Hr2
 revert H;refine B3 fun r24 H e24=>?_
 cases e24;cases Hr1
 cases H
 exact bJ
 exact fk
 kernel_rfl
 revert H;refine I5 (fun c9 H=>?_) fun c9 H=>?_
 revert H;refine I1 (fun c10 H=>?_) fun c10 H=>?_
 apply bO (ods:=[_,_,_,_,_,_,_,_,_,_,_,_,_,_,_]) 15 0 7 bM rfl rfl rfl
 refine ND ?_
 refine M8 ?_
 intros
 refine M7 ?_
 intros
 revert H;refine B1 fun y15 h20 H=>?_
 rcases y15 with y15 | pv10 <;> dsimp only at H
 refine Tc (aW _ _ h20).s ?_
 refine Z1 ?_
 exact Tm (()) (ij H)
 refine Tp (aW _ _ h20).pan ?_
 revert H;refine B1 fun r25 H e25=>?_
 cases e25;cases Hr4
 revert H;refine B2 fun r26 H e26=>?_
 cases e26;cases Hr2
 revert H;refine B3 fun r27 H e27=>?_
 cases e27;cases Hr1
 cases H
 exact bJ
 exact fk
 kernel_rfl
 apply bO (ods:=[_,_,_,_,_,_,_,_,_,_,_,_,_,_,_]) 15 0 7 bM rfl rfl rfl
 refine ND ?_
 refine M8 ?_
 intros
 refine M7 ?_
 intros
 revert H;refine B1 fun y16 h21 H=>?_
 rcases y16 with y16 | pv11 <;> dsimp only at H
 refine Tc (aW _ _ h21).s ?_
 refine Z1 ?_
 exact Tm (()) (ij H)
 refine Tp (aW _ _ h21).pan ?_
 revert H;refine B1 fun r28 H e28=>?_
 cases e28;cases Hr4
 revert H;refine B2 fun r29 H e29=>?_
 cases e29;cases Hr2
 revert H;refine B3 fun r30 H e30=>?_
 cases e30;cases Hr1
 cases H
 exact bJ
 exact fk
 kernel_rfl
 refine Z3 ?_
 exact Tm (()) (ij H)
 clear H;intro i hi;subst o4;have H:=Hr4;clear Hr4;try dsimp only at H
 try dsimp only
 revert H;refine I5 (fun c11 H=>?_) fun c11 H=>?_
 refine Z5 ?_
 refine Yo 4 rfl (aDr (zα:=false) (k:=y2.A) rfl hh hh rfl uQ Ent.rfl) ?_
 revert H;refine B1 fun y17 h22 H=>?_
 rcases y17 with y17 | pv12 <;> dsimp only at H
 refine Tc (aW _ _ h22).s ?_
 refine Z5 ?_
 refine aS ?_
 refine aA4 (k:=y2.A) (y:=true) trivial (.inl rfl) rfl (has rfl) (has rfl) rfl (has rfl) rfl uQ ?_
 refine Z3 ?_
 refine aC [1,4,0,5,6] (by decide) ?_
 exact Tm ((x39,x40,x41,x42,x43,x44,x45,x46,aI.upd x29 y2.A true,v12,b10,v13)) (ij H)
 refine Tp (aW _ _ h22).pan ?_
 revert H;refine B3 fun r31 H e31=>?_
 cases e31;cases Hr2
 revert H;refine B3 fun r32 H e32=>?_
 cases e32;cases Hr1
 cases H
 exact bJ
 refine Z4 ?_
 refine aC [0,3,4,5,6] (by decide) ?_
 exact Tm ((x39,x40,x41,x42,x43,x44,x45,x46,x29,v12,b10,v13)) (ij H)
 refine Tp (aW _ _ h5).pan ?_
 revert H;refine B3 fun r33 H e33=>?_
 cases e33;cases Hr2
 revert H;refine B3 fun r34 H e34=>?_
 cases e34;cases Hr1
 cases H
 exact bJ
 clear H;intro i hi;obtain⟨x30,x31,x32,x33,x34,x35,x36,x37,x38,v10,b7,v11⟩:=i;subst o2;have H:=Hr2;clear Hr2;try dsimp only at H
 try dsimp only
 refine aB 3 rfl (fun hc_v10=>?_)
 refine aB 4 rfl (fun hc_v11=>?_)
 revert H;refine B1 fun z1 h23 H=>?_
 refine Z3 ?_
 exact Tm ((k1,z1,x30,x31,x32,x33,x34,x35,x36,x37,x38,v10,b7,v11)) ⟨H,ls⟩
 refine Z6 ?_
 exact Tm ((x21,x22,x23,x24,x25,x26,x27,x28,x29,v8,b6,v9)) (ij H)
 clear H;intro i hi;obtain⟨x1,x2,x3,x4,x5,x6,x7,x8,x9,v4,b4,v5⟩:=i;subst o1;have H:=Hr1;clear Hr1;try dsimp only at H
 try dsimp only
 refine aB 3 rfl (fun hc_v4=>?_)
 refine aB 4 rfl (fun hc_v5=>?_)
 apply bO (ods:=[_,_,_,_,_,_,_,_,_]) 9 0 5 bM rfl rfl rfl
 refine ND ?_
 refine M1 ?_
 intros
 refine Mo 2 rfl (aBO rfl hh uQ) fun _=>?_
 refine M7 ?_
 intros
 revert H;refine B1 fun y18 h24 H=>?_
 rcases y18 with y18 | pv13 <;> dsimp only at H
 refine Tc (aW _ _ h24).s ?_
 refine Z1 ?_
 refine aP ?_
 refine dA ?_
 refine aS ?_
 refine aP ?_
 refine aS ?_
 refine bC ?_
 refine cY (x:=(⟨(⟨x1,x2,x3,x4⟩:CodeProg),x5,x6,x7,x8⟩:Code_checker)) ?_
 cases H
 refine gP ?_
 refine aC [0] (by decide) ?_
 exact cJ (.inr rfl) rfl rfl
 refine Tp (aW _ _ h24).pan ?_
 cases H
 exact bJ
 exact fk
 kernel_rfl
def vH (a0:List Int):Option (List Int):=
 (dB (([]:List Int)++a0)).bind fun z1=>
 some z1
theorem aHw  (a0:List Int) (r:List Int) (H:vH a0=some r):FnS Tryz.prog 41 [fSl tI a0] [] fK (fun v=>[(fun v=>aD v 3 tI r) v]):=by
 unfold vH at H
 refine cD Tryz.func41 rfl Tryz.ntmps41 rfl (fun β=>?_)
 refine Z3 ?_
 refine aL ?_
 refine Z2 ?_
 refine Yy (aCS rfl hh (us rfl)) ?_
 refine Z1 ?_
 refine aE0 (has rfl) (fun hx=>?_) ?_
 replace H:some ([]:List Int)=some r:=by subst hx;exact H
 refine Z4 ?_
 refine eW tI 3 ?_
 cases H
 exact wV rfl (bV rfl) (fun _ _ _=>trivial) rfl
 refine Z3 ?_
 refine Tn (eQ (t:=tI) (xs:=([]:List Int)) rfl (et rfl) bS.nil rfl rfl rfl) fun b1=>?_
 generalize (Value.slice (some ⟨b1,0,none⟩) _ _)=v1
 refine aB 0 rfl (fun hc_v1=>?_)
 revert H;refine B1 fun z1 h1 H=>?_
 refine tP (ys:=a0) trivial rfl rfl rfl (has rfl) (has rfl) (et rfl) rfl h1 (fun v2=>?_)
 refine aB 0 rfl (fun hc_v2=>?_)
 refine Z3 ?_
 cases H
 exact wV rfl (bV rfl) (fun _ _ _=>trivial) rfl
def uA (a0:Int):Option (Bool):=
 (if a0=13 then
  some true
 else
  some (decide (a0=15))).bind fun x1=>
 some x1
theorem aF6  (a0:Int) (r:Bool) (H:uA a0=some r):FnS Tryz.prog 39 [fI a0] [] (aJ r) (fun _=>[]):=by
 unfold uA at H
 refine cD Tryz.func39 rfl Tryz.ntmps39 rfl (fun β=>?_)
 revert H;refine B3 fun o1 H Hr1=>?_
 refine aT (ι:=Bool) (fun i=>o1=i) (fun i=>[(2,aJ i)]) (fun i=>[]) ?_ ?_
 revert H;refine I4 (fun c1 H=>?_) fun c1 H=>?_
 refine Z5 ?_
 exact Tm (true) (ij H)
 refine Z5 ?_
 exact Tm (decide (a0=15)) (ij H)
 clear H;intro x1 hi;subst o1;have H:=Hr1;clear Hr1;try dsimp only at H
 try dsimp only
 refine Z1 ?_
 cases H
 exact To
open Go.SX Go.SW
def sortRen:Go.Shelf.Ren:=⟨fun x=>match x with
 | 189=>84 | 125=>127 | 257=>126 | 128=>151 | 129=>152
 | 294=>142 | 295=>143 | 296=>144 | 297=>145 | 298=>146
 | 299=>147 | 216=>148 | 300=>149 | 301=>150 | 328=>163
 | 329=>164 | 330=>165 | 331=>166 | 332=>167 | 215=>168 | 343=>180
 | n=>n,fun x=>match x with
 | 28=>40 | 3=>3 | 46=>208 | 0=>0 | 51=>230 | 53=>232 | 4=>4 | 183=>222 | 182=>221 | 131=>227 | 5=>5 | 9=>9
 | 218=>243 | 222=>247 | 228=>265 | 229=>266
 | n=>n,fun x=>x⟩
theorem aD7:Go.Proofs.Lays.n189 Tryz.prog sortRen:=by constructor <;> first | kernel_rfl | (intro w;kernel_rfl)
def compRen:Go.Shelf.Ren:=⟨fun x=>match x with | 20=>118 | n=>n,fun x=>match x with | 0=>0 | 3=>3 | 4=>4 | 22=>40 | n=>n,fun x=>x⟩
theorem aEh:Go.Proofs.Lays2.n20 Tryz.prog compRen:=by constructor <;> first | kernel_rfl | (intro w;kernel_rfl)
theorem heap_row {w:World} {b n:Nat} {c:Array Value} {e:TypeId} {f:Array Value → Array Value} {os:Array Obj} (h:w.heap[b]? =some (.cells c e (0,0))):
 (Go.Sort.grow (Go.Sort.mapBlock (Go.Sort.ahead w n) b f) os).heap[b]? =some (.cells (f c) e (0,0)) ∧ ∀ k,k≠b → k<w.heap.size → (Go.Sort.grow (Go.Sort.mapBlock (Go.Sort.ahead w n) b f) os).heap[k]? =w.heap[k]?:=by
 have hb:b<w.heap.size:=(Array.getElem?_eq_some_iff.1 h).1
 constructor
 ·simp only [Go.Sort.grow,Go.Sort.mapBlock,Go.Sort.ahead];rw [Array.getElem?_append_left (by simpa using hb),Array.getElem?_modify,if_pos rfl,h];rfl
 ·intro k hk hk2;simp only [Go.Sort.grow,Go.Sort.mapBlock,Go.Sort.ahead];rw [Array.getElem?_append_left (by simpa using hk2),Array.getElem?_modify,if_neg (fun e=>hk e.symm)]
theorem st_row {w:World} {m:Mem} {b n:Nat} {c:Array Value} {e:TypeId} {f:Array Value → Array Value} {os:Array Obj} (hS:St ⟨w,m,[b]⟩ m [(b, .cells c e (0,0))] w):
 St ⟨w,m,[b]⟩ m [(b, .cells (f c) e (0,0))] (Go.Sort.grow (Go.Sort.mapBlock (Go.Sort.ahead w n) b f) os):=by
 obtain⟨h1,h2⟩:=heap_row (n:=n) (f:=f) (os:=os) (hS.own _ (.head _))
 have hm:m b=none:=hS.apart _ (.head _)
 refine⟨fun k o hk=>?_,fun x hx=>?_,fun x hx=>?_,by simp,hS.mle,fun k hk=>absurd rfl hk,fun x hx _=>?_,?_,fun k hk hf=>h2 k (fun e=>hf (by simp [e])) hk,rfl,rfl,rfl⟩
 ·have h3:=hS.mem k o hk;rw [h2 k (fun e=>by subst e;rw [hm]at hk;cases hk) (Array.getElem?_eq_some_iff.1 h3).1];exact h3
 ·cases hx with
  | head=>exact h1
  | tail _ h=>cases h
 ·cases hx with
  | head=>exact hm
  | tail _ h=>cases h
 ·cases hx with
  | head=>exact .head _
  | tail _ h=>cases h
 ·simp [Go.Sort.grow,Go.Sort.mapBlock,Go.Sort.ahead]
theorem aD1 {m:Mem}:∀ {xs:List Int} {cs:List Value},aX (xs.flatMap (dT .i64).leafs) m cs → cs=xs.map (.int .i64)
 | [],_,h=>by
  have h:_=[]:=h;rw [h];rfl
 | x :: xs,_,h=>by
  obtain⟨v,r,rfl,h1,h2⟩:=h;have h1:v= .int .i64 x:=h1;rw [h1,aD1 h2];rfl
theorem aEc {m:Mem}:∀ {xs:List Int},aX (xs.flatMap (dT .i64).leafs) m (xs.map (.int .i64))
 | []=>rfl
 | x :: xs=>⟨_,_,rfl,rfl,aEc⟩
theorem aC7 {m:Mem} {L:Heap} {v:Value} {xs:List Int} (h:bE [aD v 3 (dT .i64) xs] m L):xs.length ≤ 1000000000 ∧ ((v= .slice none 0 0 ∧ xs=[] ∧ L=[]) ∨
 ∃ b c cap,v= .slice (some ⟨b,0,none⟩) xs.length cap ∧ L=[(b, .cells c 3 (0,0))] ∧ c.size=cap ∧ xs.length ≤ cap ∧ c.toList.take xs.length=xs.map (.int .i64)):=by
 obtain⟨H,R,rfl,⟨cs,h1,h2,h3⟩,hR⟩:=h
 have hR:R=[]:=hR
 subst hR
 have e:=aD1 h3
 subst e
 refine⟨h2,?_⟩
 rcases h1.2 with⟨rfl,h4,rfl⟩ | ⟨b,c,cap,rfl,rfl,h4,h5,h6⟩
 ·exact .inl ⟨rfl,List.eq_nil_of_length_eq_zero h4,rfl⟩
 ·exact .inr ⟨b,c,cap,rfl,rfl,by rw [h4];exact Nat.mul_one _,h5,by simpa using h6⟩
theorem row_of {m:Mem} {b cap:Nat} {c:Array Value} {xs:List Int} (h1:c.size=cap) (h2:xs.length ≤ cap) (h3:c.toList.take xs.length=xs.map (.int .i64)) (h4:xs.length ≤ 1000000000):
 (aD (.slice (some ⟨b,0,none⟩) xs.length cap) 3 (dT .i64) xs).p m [(b, .cells c 3 (0,0))]:=
 ⟨xs.map (.int .i64),⟨by simp [show(dT .i64).sz=1 from rfl], .inr ⟨b,c,cap,rfl,rfl,by rw [h1];exact(Nat.mul_one _).symm,h2,by simpa using h3⟩⟩,h4,aEc⟩
theorem aCe {w:World} {b:Nat} {c:Array Value} {e:TypeId} {xs:List Int} (h:w.heap[b]? =some (.cells c e (0,0))) (hx:c.toList.take xs.length=xs.map (.int .i64)):Go.Sort.Holds (Value.int .i64) w b 0 xs.toArray:=by
 intro j hj
 have hj:j<xs.length:=by simpa using hj
 refine⟨?_,by simp [World.frozen?,h]⟩
 have h1:c.toList[j]? =some (.int .i64 xs[j]):=by
  have h2:(c.toList.take xs.length)[j]? =some (.int .i64 xs[j]):=by rw [hx];simp [hj]
  rwa [List.getElem?_take,if_pos hj]at h2
 simp only [World.cell?,h,Nat.zero_add,Option.isSome_none,Bool.false_eq_true,if_false]
 rw [← Array.getElem?_toList,h1]
 congr 2
 simp [hj]
theorem aD3 {c:Array Value} {ys:List Int} {k:Nat} (hk:k ≤ ys.length) (hc:ys.length ≤ c.size):(Go.Sort.putCells (Value.int .i64) 0 ys.toArray c).toList.take k=(ys.take k).map (.int .i64):=by
 apply List.ext_getElem?
 intro j
 rw [List.getElem?_take]
 split
 ·rename_i hj;simp only [Go.Sort.putCells,Array.getElem?_toList,Array.getElem?_mapIdx];have h1:j<c.size:=by omega
  have h2:j<ys.length:=by omega
  simp [h1,h2,hj]
 ·rename_i hj;rw [List.getElem?_eq_none];simp;omega
theorem aCQ {c:Array Value} {ys:Array Int}:(Go.Sort.putCells (Value.int .i64) 0 ys c).size=c.size:=by simp [Go.Sort.putCells]
def cK (xs:List Int):List Int:=xs.mergeSort fun x y=>decide (x ≤ y)
def aDm (a0:List Int):Option (List Int):=some (cK a0)
theorem aGf (p0:Value) (a0 r:List Int) (H:aDm a0=some r):FnS Tryz.prog 84 [fEq p0] [aD p0 3 (dT .i64) a0] (dJ []) (fun _=>[aD p0 3 (dT .i64) r]):=by
 have H:cK a0=r:=Option.some.inj H
 subst H
 intro m L vs hv hL w hS
 obtain⟨v,_,rfl,hv1,hv2⟩:=hv
 have hv1:v=p0:=hv1
 have hv2:_=[]:=hv2
 subst hv1;subst hv2
 obtain⟨hB,⟨rfl,rfl,rfl⟩ | ⟨b,c,cap,rfl,rfl,h1,h2,h3⟩⟩:=aC7 hL
 ·refine(Any.slices_Sort_int_none aD7 none 0 w).mono ?_;rintro e w' ⟨rfl,rfl⟩
  have e0:cK []=[]:=by simp [cK]
  exact⟨m,[],hS,_,rfl,⟨[],rfl,rfl⟩,by rw [e0];exact hL⟩
 ·have hw:=hS.own _ (.head _);have hl:(cK a0).length=a0.length:=by simp [cK]
  refine(Any.slices_Sort_int aD7 b 0 cap a0 w (aCe hw h3) (Array.getElem?_eq_some_iff.1 hw).1 (by omega)).mono ?_
  rintro e w' ⟨rfl,n,os,rfl⟩
  refine⟨m,_,st_row hS,_,rfl,⟨[],rfl,rfl⟩,_,[],(List.append_nil _).symm,?_,rfl⟩;rw [← hl];exact row_of (by rw [aCQ,h1]) (by omega) (by
   have:=aD3 (c:=c) (ys:=cK a0) (k:=(cK a0).length) (Nat.le_refl _) (by omega)
   rw [List.take_length]at this;exact this) (by omega)
def aEr (a0:List Int):Option (List Int):=some (Go.Lib.compact a0)
theorem aHh (xs:List Int):(Go.Lib.compact xs).length ≤ xs.length:=by
 unfold Go.Lib.compact Go.Lib.compactUpTo
 rw [List.length_map]
 exact Nat.le_trans (List.length_filter_le _ _) (by simp)
theorem aFG (p0:Value) (a0 r:List Int) (H:aEr a0=some r):FnS Tryz.prog 118 [fEq p0] [aD p0 3 (dT .i64) a0] (fSl (dT .i64) r) (fun _=>[]):=by
 have H:Go.Lib.compact a0=r:=Option.some.inj H
 subst H
 intro m L vs hv hL w hS
 obtain⟨v,_,rfl,hv1,hv2⟩:=hv
 have hv1:v=p0:=hv1
 have hv2:_=[]:=hv2
 subst hv1;subst hv2
 obtain⟨hB,⟨rfl,rfl,rfl⟩ | ⟨b,c,cap,rfl,rfl,h1,h2,h3⟩⟩:=aC7 hL
 ·refine(Any.slices_Compact_int_empty aEh none 0 w).mono ?_;rintro e w' ⟨rfl,rfl⟩
  exact⟨m,[],hS,_,rfl,dK m _ rfl,rfl⟩
 ·have hw:=hS.own _ (.head _);have hl:=aHh a0;refine(Any.slices_Compact_int aEh b 0 cap a0 w (aCe hw h3) (by omega) h2).mono ?_
  rintro e w' ⟨rfl,n,rfl⟩
  rw [← Go.Sort.grow_empty (Go.Sort.putRow _ _ _ _ _)];have hS':=st_row (n:=n) (f:=Go.Sort.putCells (Value.int .i64) 0 (Go.Lib.compact a0++List.replicate (a0.length - (Go.Lib.compact a0).length) 0).toArray) (os:=#[]) hS;have hr:(aD (.slice (some ⟨b,0,none⟩) (Go.Lib.compact a0).length cap) 3 (dT .i64) (Go.Lib.compact a0)).p m [(b, .cells (Go.Sort.putCells (Value.int .i64) 0 (Go.Lib.compact a0++List.replicate (a0.length - (Go.Lib.compact a0).length) 0).toArray c) 3 (0,0))]:=
   row_of (by rw [aCQ,h1]) (by omega) (by
    rw [aD3 (by simp) (by simp;omega)];simp) (by omega)
  obtain⟨m',h4,h5,h6⟩:=qA (H:=[_]) (R:=[]) hS';exact⟨m',[],h5,_,rfl,fS m _ hr m' h4 h6,rfl⟩
open Go.SX Go.SW Go.Dt
def mC (y1:ScopeDef):Nat → (List Int) → Int → Option (List Int)
| 0,_,_=>none
| k+1,x10,x11=>
 if x11<(y1.Rules.length:Int)then
  (idx y1.Rules x11).bind fun y2=>
  (dB (x10++[y2.Node])).bind fun z1=>
  (chk (x11+1)).bind fun z2=>
  mC y1 k z1 z2
 else
  some x10
def nM (y1:ScopeDef):Nat → (List Int) → Int → Option (List Int)
| 0,_,_=>none
| k+1,x14,x15=>
 if x15<(y1.Spots.length:Int)then
  (idx y1.Spots x15).bind fun y3=>
  (dB (x14++[y3.Node])).bind fun z3=>
  (chk (x15+1)).bind fun z4=>
  nM y1 k z3 z4
 else
  some x14
def mL (fuel:Nat) (a0:CodeProg):Nat → (List Int) → Int → Option (List Int)
| 0,_,_=>none
| k+1,x4,x5=>
 if x5<(a0.Defs.length:Int)then
  ((idx a0.Defs x5).bind fun y1=>
  (mC y1 fuel x4 0).bind fun x7=>
  nM y1 fuel x7 0).bind fun x6=>
  (chk (x5+1)).bind fun z5=>
  mL fuel a0 k x6 z5
 else
  some x4
def nF (a0:CodeProg):Nat → (List Int) → Int → Option (List Int)
| 0,_,_=>none
| k+1,x19,x20=>
 if x20<(a0.Code.length:Int)then
  ((idx a0.Code x20).bind fun y4=>
  (uA y4.Op).bind fun y5=>
  bif y5 then
   (dB (x19++[y4.B])).bind fun z6=>
   some z6
  else
   some x19).bind fun x21=>
  (chk (x20+1)).bind fun z7=>
  nF a0 k x21 z7
 else
  some x19
def vE (fuel:Nat) (a0:CodeProg):Option (List Int):=
 (mL fuel a0 fuel [a0.Main] 0).bind fun x1=>
 (nF a0 fuel x1 0).bind fun x16=>
 some x16
theorem aGp (fuel:Nat)  (a0:CodeProg) (r:List Int) (H:vE fuel a0=some r):FnS Tryz.prog 117 [fSt fR a0] [] fK (fun v=>[(fun v=>aD v 3 tI r) v]):=by
 unfold vE at H
 refine cD Tryz.func117 rfl Tryz.ntmps117 rfl (fun β=>?_)
 refine Z1 ?_
 refine Tn (cG rfl hh bP) fun b1=>?_
 refine Z5 ?_
 refine Tn (eQ (t:=tI) (xs:=[a0.Main]) rfl (et rfl) (bS.cons rfl (has rfl) (bY (aG trivial)) bS.nil) rfl rfl rfl) fun b2=>?_
 generalize (Value.slice (some ⟨b2,0,none⟩) _ _)=v1
 refine aB 0 rfl (fun hc_v1=>?_)
 revert H;refine B2 fun o1 H Hr1=>?_
 refine aT (ι:=List Int × Value) (fun i=>o1=i.1) (fun i=>[(1,fEq (ptr b1)),(3,fEq i.2)]) (fun i=>[aA b1 25 [fI a0.Free,fSl aF a0.Defs,fSl aH a0.Code,fI a0.Main],aD i.2 3 tI i.1]) ?_ ?_
 refine Z7 ?_
 refine aC [1,0] (by decide) ?_
 refine Tl (ι:=Nat × List Int × Int × Value) (fun i=>mL fuel a0 i.1 i.2.1 i.2.2.1=_) (fun i=>i.1) (fun i=>[(1,fEq (ptr b1)),(3,fEq i.2.2.2),(16,fSl aF a0.Defs),(17,fI (a0.Defs.length:Int)),(18,fI i.2.2.1)]) (fun i=>[aA b1 25 [fI a0.Free,fSl aF a0.Defs,fSl aH a0.Code,fI a0.Main],aD i.2.2.2 3 tI i.2.1]) (fuel,[a0.Main],0,v1) H ?_
 clear H;rintro⟨k1,x4,x5,v4⟩ H
 replace H:mL fuel a0 k1 x4 x5=_:=H
 try dsimp only
 obtain _ | k1:=k1
 rw [mL]at H;cases H
 rw [mL]at H
 refine aB 1 rfl (fun hc_v4=>?_)
 refine Z3 ?_
 refine aL ?_
 revert H;refine is (fun c1 H=>?_) fun c1 H=>?_
 revert H;refine B3 fun o2 H Hr2=>?_
 refine aT (ι:=List Int × Value) (fun i=>o2=i.1) (fun i=>[(1,fEq (ptr b1)),(3,fEq i.2),(16,fSl aF a0.Defs),(17,fI (a0.Defs.length:Int)),(18,fI x5)]) (fun i=>[aA b1 25 [fI a0.Free,fSl aF a0.Defs,fSl aH a0.Code,fI a0.Main],aD i.2 3 tI i.1]) ?_ ?_
 revert H;refine B2 fun y1 h1 H=>?_
 refine Z2 ?_
 refine Tn (cR rfl tY rfl) fun b3=>?_
 refine cW (φs':=[fSl bG y1.Chans,fSl bQ y1.Spots,fSl bR y1.Rules]) trivial rfl rfl (has rfl) (has rfl) (aN (dF) (aN (dF) (aN (dF) bZ))) (sz rfl) rfl rfl rfl ?_
 revert H;refine B1 fun o3 H Hr3=>?_
 refine aT (ι:=List Int × Value) (fun i=>o3=i.1) (fun i=>[(1,fEq (ptr b1)),(3,fEq i.2),(16,fSl aF a0.Defs),(17,fI (a0.Defs.length:Int)),(18,fI x5),(5,fEq (ptr b3))]) (fun i=>[aA b3 63 [fSl bG y1.Chans,fSl bQ y1.Spots,fSl bR y1.Rules],aA b1 25 [fI a0.Free,fSl aF a0.Defs,fSl aH a0.Code,fI a0.Main],aD i.2 3 tI i.1]) ?_ ?_
 refine Z7 ?_
 refine Tl (ι:=Nat × List Int × Int × Value) (fun i=>mC y1 i.1 i.2.1 i.2.2.1=_) (fun i=>i.1) (fun i=>[(1,fEq (ptr b1)),(3,fEq i.2.2.2),(16,fSl aF a0.Defs),(17,fI (a0.Defs.length:Int)),(18,fI x5),(5,fEq (ptr b3)),(23,fSl bR y1.Rules),(24,fI (y1.Rules.length:Int)),(25,fI i.2.2.1)]) (fun i=>[aA b3 63 [fSl bG y1.Chans,fSl bQ y1.Spots,fSl bR y1.Rules],aA b1 25 [fI a0.Free,fSl aF a0.Defs,fSl aH a0.Code,fI a0.Main],aD i.2.2.2 3 tI i.2.1]) (fuel,x4,0,v4) H ?_
 clear H;rintro⟨k2,x10,x11,v8⟩ H
 replace H:mC y1 k2 x10 x11=_:=H
 try dsimp only
 obtain _ | k2:=k2
 rw [mC]at H;cases H
 rw [mC]at H
 refine aB 2 rfl (fun hc_v8=>?_)
 refine Z3 ?_
 refine aL ?_
 revert H;refine is (fun c2 H=>?_) fun c2 H=>?_
 refine Z3 ?_
 refine aL ?_
 revert H;refine B2 fun y2 h2 H=>?_
 refine Z2 ?_
 refine Tn (cR rfl zL rfl) fun b4=>?_
 refine cW (φs':=[fI y2.At,fSl tI y2.Joins,fI y2.Node]) trivial rfl rfl (has rfl) (has rfl) (aN (aG trivial) (aN (dF) (aN (aG trivial) bZ))) (sz rfl) rfl rfl rfl ?_
 refine Z5 ?_
 refine Tn (eQ (t:=tI) (xs:=[y2.Node]) rfl (et rfl) (bS.cons rfl (has rfl) (bY (aG trivial)) bS.nil) rfl rfl rfl) fun b5=>?_
 generalize (Value.slice (some ⟨b5,0,none⟩) _ _)=v9
 refine aB 0 rfl (fun hc_v9=>?_)
 revert H;refine bs fun z1 h3 H=>?_
 refine aS ?_
 refine aP ?_
 refine gJ trivial rfl rfl rfl (has rfl) (has rfl) (et rfl) rfl h3 (fun v10=>?_)
 refine aB 0 rfl (fun hc_v10=>?_)
 revert H;refine B5 fun z2 h4 H=>?_
 refine Z3 ?_
 refine aC [2,3,0] (by decide) ?_
 exact Tm ((k2,z1,z2,v10)) ⟨H,ls⟩
 refine Z6 ?_
 exact Tm ((x10,v8)) (ij H)
 clear H;intro i hi;obtain⟨x7,v6⟩:=i;subst o3;have H:=Hr3;clear Hr3;try dsimp only at H
 try dsimp only
 refine aB 2 rfl (fun hc_v6=>?_)
 refine Z7 ?_
 refine Tl (ι:=Nat × List Int × Int × Value) (fun i=>nM y1 i.1 i.2.1 i.2.2.1=_) (fun i=>i.1) (fun i=>[(1,fEq (ptr b1)),(3,fEq i.2.2.2),(16,fSl aF a0.Defs),(17,fI (a0.Defs.length:Int)),(18,fI x5),(36,fSl bQ y1.Spots),(37,fI (y1.Spots.length:Int)),(38,fI i.2.2.1)]) (fun i=>[aA b3 63 [fSl bG y1.Chans,fSl bQ y1.Spots,fSl bR y1.Rules],aA b1 25 [fI a0.Free,fSl aF a0.Defs,fSl aH a0.Code,fI a0.Main],aD i.2.2.2 3 tI i.2.1]) (fuel,x7,0,v6) H ?_
 clear H;rintro⟨k3,x14,x15,v12⟩ H
 replace H:nM y1 k3 x14 x15=_:=H
 try dsimp only
 obtain _ | k3:=k3
 rw [nM]at H;cases H
 rw [nM]at H
 refine aB 2 rfl (fun hc_v12=>?_)
 refine Z3 ?_
 refine aL ?_
 revert H;refine is (fun c3 H=>?_) fun c3 H=>?_
 refine Z3 ?_
 refine aL ?_
 revert H;refine B2 fun y3 h5 H=>?_
 refine Z2 ?_
 refine Tn (cR rfl yE rfl) fun b6=>?_
 refine cW (φs':=[fI y3.In,fI y3.Node]) trivial rfl rfl (has rfl) (has rfl) (aN (aG trivial) (aN (aG trivial) bZ)) (sz rfl) rfl rfl rfl ?_
 refine Z5 ?_
 refine Tn (eQ (t:=tI) (xs:=[y3.Node]) rfl (et rfl) (bS.cons rfl (has rfl) (bY (aG trivial)) bS.nil) rfl rfl rfl) fun b7=>?_
 generalize (Value.slice (some ⟨b7,0,none⟩) _ _)=v13
 refine aB 0 rfl (fun hc_v13=>?_)
 revert H;refine bs fun z3 h6 H=>?_
 refine aS ?_
 refine aP ?_
 refine gJ trivial rfl rfl rfl (has rfl) (has rfl) (et rfl) rfl h6 (fun v14=>?_)
 refine aB 0 rfl (fun hc_v14=>?_)
 revert H;refine B5 fun z4 h7 H=>?_
 refine Z3 ?_
 refine aC [2,3,0] (by decide) ?_
 exact Tm ((k3,z3,z4,v14)) ⟨H,ls⟩
 refine Z7 ?_
 refine aC [1,2] (by decide) ?_
 exact Tm ((x14,v12)) (ij H)
 clear H;intro i hi;obtain⟨x6,v5⟩:=i;subst o2;have H:=Hr2;clear Hr2;try dsimp only at H
 try dsimp only
 refine aB 1 rfl (fun hc_v5=>?_)
 revert H;refine B1 fun z5 h8 H=>?_
 refine Z3 ?_
 exact Tm ((k1,x6,z5,v5)) ⟨H,ls⟩
 refine Z6 ?_
 exact Tm ((x4,v4)) (ij H)
 clear H;intro i hi;obtain⟨x1,v2⟩:=i;subst o1;have H:=Hr1;clear Hr1;try dsimp only at H
 try dsimp only
 refine aB 1 rfl (fun hc_v2=>?_)
 revert H;refine bs fun o4 H Hr4=>?_
 refine aT (ι:=List Int × Value) (fun i=>o4=i.1) (fun i=>[(3,fEq i.2)]) (fun i=>[aA b1 25 [fI a0.Free,fSl aF a0.Defs,fSl aH a0.Code,fI a0.Main],aD i.2 3 tI i.1]) ?_ ?_
 refine Z7 ?_
 refine Tl (ι:=Nat × List Int × Int × Value) (fun i=>nF a0 i.1 i.2.1 i.2.2.1=_) (fun i=>i.1) (fun i=>[(3,fEq i.2.2.2),(50,fSl aH a0.Code),(51,fI (a0.Code.length:Int)),(52,fI i.2.2.1)]) (fun i=>[aA b1 25 [fI a0.Free,fSl aF a0.Defs,fSl aH a0.Code,fI a0.Main],aD i.2.2.2 3 tI i.2.1]) (fuel,x1,0,v2) H ?_
 clear H;rintro⟨k4,x19,x20,v17⟩ H
 replace H:nF a0 k4 x19 x20=_:=H
 try dsimp only
 obtain _ | k4:=k4
 rw [nF]at H;cases H
 rw [nF]at H
 refine aB 1 rfl (fun hc_v17=>?_)
 refine Z3 ?_
 refine aL ?_
 revert H;refine is (fun c4 H=>?_) fun c4 H=>?_
 revert H;refine B3 fun o5 H Hr5=>?_
 refine aT (ι:=List Int × Value) (fun i=>o5=i.1) (fun i=>[(50,fSl aH a0.Code),(51,fI (a0.Code.length:Int)),(52,fI x20),(3,fEq i.2)]) (fun i=>[aA b1 25 [fI a0.Free,fSl aF a0.Defs,fSl aH a0.Code,fI a0.Main],aD i.2 3 tI i.1]) ?_ ?_
 revert H;refine B2 fun y4 h9 H=>?_
 refine Z2 ?_
 refine Tn (cR rfl qK rfl) fun b8=>?_
 refine cW (φs':=[fI y4.Op,fI y4.A,fI y4.B]) trivial rfl rfl (has rfl) (has rfl) (aN (aG trivial) (aN (aG trivial) (aN (aG trivial) bZ))) (sz rfl) rfl rfl rfl ?_
 revert H;refine B4 fun y5 h10 H=>?_
 refine Tc (aF6 _ _ h10) ?_
 refine Z1 ?_
 revert H;refine cs (fun c5 H=>?_) fun c5 H=>?_
 refine Z5 ?_
 refine Tn (eQ (t:=tI) (xs:=[y4.B]) rfl (et rfl) (bS.cons rfl (has rfl) (bY (aG trivial)) bS.nil) rfl rfl rfl) fun b9=>?_
 generalize (Value.slice (some ⟨b9,0,none⟩) _ _)=v19
 refine aB 0 rfl (fun hc_v19=>?_)
 revert H;refine bs fun z6 h11 H=>?_
 refine bC ?_
 refine aP ?_
 refine gJ trivial rfl rfl rfl (has rfl) (has rfl) (et rfl) rfl h11 (fun v20=>?_)
 refine aB 0 rfl (fun hc_v20=>?_)
 refine Z4 ?_
 refine aC [2,0] (by decide) ?_
 exact Tm ((z6,v20)) (ij H)
 refine Z4 ?_
 refine aC [1,2] (by decide) ?_
 exact Tm ((x19,v17)) (ij H)
 clear H;intro i hi;obtain⟨x21,v18⟩:=i;subst o5;have H:=Hr5;clear Hr5;try dsimp only at H
 try dsimp only
 refine aB 1 rfl (fun hc_v18=>?_)
 revert H;refine B1 fun z7 h12 H=>?_
 refine Z3 ?_
 exact Tm ((k4,x21,z7,v18)) ⟨H,ls⟩
 refine Z6 ?_
 exact Tm ((x19,v17)) (ij H)
 clear H;intro i hi;obtain⟨x16,v15⟩:=i;subst o4;have H:=Hr4;clear Hr4;try dsimp only at H
 try dsimp only
 refine aB 1 rfl (fun hc_v15=>?_)
 refine Z5 ?_
 cases H
 refine aC [1] (by decide) ?_
 exact wV rfl (bV rfl) (fun _ _ _=>trivial) rfl
def lE (a0:Code_checker):Nat → Int → Option (Int)
| 0,_=>none
| k+1,x13=>
 if x13<(a0.CodeProg.Code.length:Int)then
  (idx a0.CodeProg.Code x13).bind fun y9=>
  if y9.Op≠16 then
   (chk (x13+1)).bind fun z1=>
   lE a0 k z1
  else
   some x13
 else
  some x13
def mF (x11:Int):Nat → Int → (List Int) → Option (List Int)
| 0,_,_=>none
| k+1,x17,x18=>
 if x17 ≤ x11 then
  (idx x18 x17).bind fun y11=>
  (chk (x17+1)).bind fun z2=>
  mF x11 k z2 (x18.set x17.toNat x11)
 else
  some x18
def kC (fuel:Nat) (a0:Code_checker) (y2:List Int):Nat → Int → Int → (List Int) → Option ((Int × List Int) ⊕ (Code_checker ⊕ Value))
| 0,_,_,_=>none
| k+1,x6,x7,x8=>
 if x7<(y2.length:Int)then
  ((idx y2 x7).bind fun y7=>
  (bU (decide (y7=x6))).bind fun y8=>
  match y8 with
  | Sum.inr pv2=>((some (Sum.inr pv2)).bind fun r=>some (Sum.inr r)).bind fun r=>some (Sum.inr r)
  | Sum.inl y8=>
  (lE a0 fuel x6).bind fun x11=>
  (bU (decide (x11<(a0.CodeProg.Code.length:Int)))).bind fun y10=>
  match y10 with
  | Sum.inr pv3=>((some (Sum.inr pv3)).bind fun r=>some (Sum.inr r)).bind fun r=>some (Sum.inr r)
  | Sum.inl y10=>
  (mF x11 fuel y7 x8).bind fun x14=>
  (chk (x11+1)).bind fun z3=>
  some (Sum.inl (z3,x14))).bind fun o=>match o with
  | Sum.inr r=>some r
  | Sum.inl (x9,x10)=>
  (chk (x7+1)).bind fun z4=>
  kC fuel a0 y2 k x9 z4 x10
 else
  some (Sum.inl (x6,x8))
def lT (fuel:Nat) (a0:Code_checker):Option (Code_checker ⊕ Value):=
 (vE fuel (⟨a0.CodeProg.Free,a0.CodeProg.Defs,a0.CodeProg.Code,a0.CodeProg.Main⟩:CodeProg)).bind fun y1=>
 (aDm y1).bind fun y2=>
 (vH y2).bind fun y3=>
 (aEr y3).bind fun y4=>
 (bU (decide ((y4.length:Int)=(y2.length:Int)))).bind fun y5=>
 match y5 with
 | Sum.inr pv1=>some (Sum.inr pv1)
 | Sum.inl y5=>
 (mk 0 (a0.CodeProg.Code.length:Int)).bind fun y6=>
 (kC fuel a0 y2 fuel 0 0 y6).bind fun o=>match o with
 | Sum.inr r=>some r
 | Sum.inl (x1,x2)=>
 (bU (decide (x1=(a0.CodeProg.Code.length:Int)))).bind fun y12=>
 match y12 with
 | Sum.inr pv4=>some (Sum.inr pv4)
 | Sum.inl y12=>
 some (Sum.inl (⟨(⟨a0.CodeProg.Free,a0.CodeProg.Defs,a0.CodeProg.Code,a0.CodeProg.Main⟩:CodeProg),y2,x2,a0.levels,a0.todo⟩:Code_checker))
theorem aEx (fuel:Nat) (p0:Nat) (a0:Code_checker) (r:Code_checker ⊕ Value) (H:lT fuel a0=some r):FnE Tryz.prog 73 [fEq (.pointer (some ⟨p0,0,none⟩))] [dP p0 a0] r (fun r=>dJ []) (fun r=>[dP p0 r]):=by
 unfold lT at H
 refine iS Tryz.func73 rfl Tryz.ntmps73 rfl (fun β=>?_)
 refine dQ (fun v1 v2 v3=>?_)
 refine aO ?_
 refine dO (fun b1 h1=>?_);subst h1
 refine aB 2 rfl (fun hc_v1=>?_)
 refine aB 3 rfl (fun hc_v3=>?_)
 revert H;refine B5 fun y1 h2 H=>?_
 refine aBI trivial rfl rfl rfl (has rfl) (aE.cons (has rfl) aE.nil) rfl (cb rfl) (aGp fuel (⟨a0.CodeProg.Free,a0.CodeProg.Defs,a0.CodeProg.Code,a0.CodeProg.Main⟩:CodeProg) y1 h2) (Δi:=[]) rfl (fun v4=>?_)
 dsimp only [List.append,List.cons_append,List.nil_append]
 refine aB 0 rfl (fun hc_v4=>?_)
 revert H;refine B4 fun y2 h3 H=>?_
 refine Tc (aGf _ _ _ h3) ?_
 refine Z3 ?_
 refine hZ (φ:=fSl tI y2) (v:=v4) [11,2,12,14] fS fz ?_
 refine gV ?_
 revert H;refine bs fun y3 h4 H=>?_
 refine aBI trivial rfl rfl rfl (has rfl) (aE.cons (has rfl) aE.nil) rfl (cb rfl) (aHw y2 y3 h4) (Δi:=[]) rfl (fun v5=>?_)
 dsimp only [List.append,List.cons_append,List.nil_append]
 refine aB 0 rfl (fun hc_v5=>?_)
 revert H;refine bs fun y4 h5 H=>?_
 refine Tc (aFG _ _ _ h5) ?_
 revert H;refine B4 fun y5 h6 H=>?_
 rcases y5 with y5 | pv1 <;> dsimp only at H
 refine Tc (aW _ _ h6).s ?_
 revert H;refine B9 fun y6 h7 H=>?_
 refine Tn (zD (t:=tI) (z:=0) rfl hh (et rfl) rfl ty_ze_3 rfl h7) fun b2=>?_
 generalize (Value.slice (some ⟨b2,0,none⟩) _ _)=v6
 refine aB 0 rfl (fun hc_v6=>?_)
 refine Z2 ?_
 refine aO ?_
 refine bW (φs':=[fI a0.CodeProg.Free,fSl aF a0.CodeProg.Defs,fSl aH a0.CodeProg.Code,fI a0.CodeProg.Main,fSl tI a0.begins,fEq v6,fEq (.map (some b1)),fEq v3]) trivial rfl rfl (has rfl) (has rfl) (aG hc_v6) (sz rfl) rfl rfl ?_
 revert H;refine B4 fun o1 H Hr1=>?_
 refine aT (ι:=Int × List Int) (fun i=>o1=Sum.inl (i.1,i.2)) (fun i=>[(0,fEq (ptr p0)),(2,fSl tI y2),(3,fI i.1)]) (fun i=>[aA p0 90 [fI a0.CodeProg.Free,fSl aF a0.CodeProg.Defs,fSl aH a0.CodeProg.Code,fI a0.CodeProg.Main,fSl tI a0.begins,fEq v6,fEq (.map (some b1)),fEq v3],bK bH (fun y=>fSt bA y) b1 a0.levels,aD v6 3 tI i.2,aD v3 3 tI a0.todo]) ?_ ?_
 refine Z6 ?_
 refine aC [0,2,1,4] (by decide) ?_
 refine Tl (ι:=Nat × Int × Int × List Int) (fun i=>kC fuel a0 y2 i.1 i.2.1 i.2.2.1 i.2.2.2=_) (fun i=>i.1) (fun i=>[(0,fEq (ptr p0)),(2,fSl tI y2),(3,fI i.2.1),(32,fSl tI y2),(33,fI (y2.length:Int)),(34,fI i.2.2.1)]) (fun i=>[aA p0 90 [fI a0.CodeProg.Free,fSl aF a0.CodeProg.Defs,fSl aH a0.CodeProg.Code,fI a0.CodeProg.Main,fSl tI a0.begins,fEq v6,fEq (.map (some b1)),fEq v3],bK bH (fun y=>fSt bA y) b1 a0.levels,aD v6 3 tI i.2.2.2,aD v3 3 tI a0.todo]) (fuel,0,0,y6) H ?_
 clear H;rintro⟨k1,x6,x7,x8⟩ H
 replace H:kC fuel a0 y2 k1 x6 x7 x8=_:=H
 try dsimp only
 obtain _ | k1:=k1
 rw [kC]at H;cases H
 rw [kC]at H
 refine Z3 ?_
 refine aL ?_
 revert H;refine is (fun c1 H=>?_) fun c1 H=>?_
 revert H;refine B3 fun o2 H Hr2=>?_
 refine aT (ι:=Int × List Int) (fun i=>o2=Sum.inl (i.1,i.2)) (fun i=>[(0,fEq (ptr p0)),(2,fSl tI y2),(3,fI i.1),(32,fSl tI y2),(33,fI (y2.length:Int)),(34,fI x7)]) (fun i=>[aA p0 90 [fI a0.CodeProg.Free,fSl aF a0.CodeProg.Defs,fSl aH a0.CodeProg.Code,fI a0.CodeProg.Main,fSl tI a0.begins,fEq v6,fEq (.map (some b1)),fEq v3],bK bH (fun y=>fSt bA y) b1 a0.levels,aD v6 3 tI i.2,aD v3 3 tI a0.todo]) ?_ ?_
 revert H;refine B2 fun y7 h8 H=>?_
 revert H;refine B8 fun y8 h9 H=>?_
 rcases y8 with y8 | pv2 <;> dsimp only at H
 refine Tc (aW _ _ h9).s ?_
 revert H;refine B1 fun o3 H Hr3=>?_
 refine aT (ι:=Int) (fun i=>o3=i) (fun i=>[(0,fEq (ptr p0)),(2,fSl tI y2),(3,fI i),(32,fSl tI y2),(33,fI (y2.length:Int)),(34,fI x7),(5,fI y7)]) (fun i=>[aA p0 90 [fI a0.CodeProg.Free,fSl aF a0.CodeProg.Defs,fSl aH a0.CodeProg.Code,fI a0.CodeProg.Main,fSl tI a0.begins,fEq v6,fEq (.map (some b1)),fEq v3],bK bH (fun y=>fSt bA y) b1 a0.levels,aD v6 3 tI x8,aD v3 3 tI a0.todo]) ?_ ?_
 refine Z1 ?_
 refine Tl (ι:=Nat × Int) (fun i=>lE a0 i.1 i.2=_) (fun i=>i.1) (fun i=>[(0,fEq (ptr p0)),(2,fSl tI y2),(3,fI i.2),(32,fSl tI y2),(33,fI (y2.length:Int)),(34,fI x7),(5,fI y7)]) (fun i=>[aA p0 90 [fI a0.CodeProg.Free,fSl aF a0.CodeProg.Defs,fSl aH a0.CodeProg.Code,fI a0.CodeProg.Main,fSl tI a0.begins,fEq v6,fEq (.map (some b1)),fEq v3],bK bH (fun y=>fSt bA y) b1 a0.levels,aD v6 3 tI x8,aD v3 3 tI a0.todo]) (fuel,x6) H ?_
 clear H;rintro⟨k2,x13⟩ H
 replace H:lE a0 k2 x13=_:=H
 try dsimp only
 obtain _ | k2:=k2
 rw [lE]at H;cases H
 rw [lE]at H
 refine aL ?_
 revert H;refine I10 (fun c2 H=>?_) fun c2 H=>?_
 revert H;refine B6 fun y9 h10 H=>?_
 revert H;refine I6 (fun c3 H=>?_) fun c3 H=>?_
 revert H;refine B6 fun z1 h11 H=>?_
 refine Z5 ?_
 exact Tm ((k2,z1)) ⟨H,ls⟩
 refine Z6 ?_
 exact Tm (x13) (ij H)
 refine Z12 ?_
 refine Z6 ?_
 exact Tm (x13) (ij H)
 clear H;intro x11 hi;subst o3;have H:=Hr3;clear Hr3;try dsimp only at H
 try dsimp only
 revert H;refine B9 fun y10 h12 H=>?_
 rcases y10 with y10 | pv3 <;> dsimp only at H
 refine Tc (aW _ _ h12).s ?_
 revert H;refine B1 fun o4 H Hr4=>?_
 refine aT (ι:=List Int) (fun i=>o4=i) (fun i=>[(0,fEq (ptr p0)),(2,fSl tI y2),(3,fI x11),(32,fSl tI y2),(33,fI (y2.length:Int)),(34,fI x7)]) (fun i=>[aA p0 90 [fI a0.CodeProg.Free,fSl aF a0.CodeProg.Defs,fSl aH a0.CodeProg.Code,fI a0.CodeProg.Main,fSl tI a0.begins,fEq v6,fEq (.map (some b1)),fEq v3],bK bH (fun y=>fSt bA y) b1 a0.levels,aD v6 3 tI i,aD v3 3 tI a0.todo]) ?_ ?_
 refine Z5 ?_
 refine Tl (ι:=Nat × Int × List Int) (fun i=>mF x11 i.1 i.2.1 i.2.2=_) (fun i=>i.1) (fun i=>[(0,fEq (ptr p0)),(2,fSl tI y2),(3,fI x11),(32,fSl tI y2),(33,fI (y2.length:Int)),(34,fI x7),(6,fI i.2.1)]) (fun i=>[aA p0 90 [fI a0.CodeProg.Free,fSl aF a0.CodeProg.Defs,fSl aH a0.CodeProg.Code,fI a0.CodeProg.Main,fSl tI a0.begins,fEq v6,fEq (.map (some b1)),fEq v3],bK bH (fun y=>fSt bA y) b1 a0.levels,aD v6 3 tI i.2.2,aD v3 3 tI a0.todo]) (fuel,y7,x8) H ?_
 clear H;rintro⟨k3,x17,x18⟩ H
 replace H:mF x11 k3 x17 x18=_:=H
 try dsimp only
 obtain _ | k3:=k3
 rw [mF]at H;cases H
 rw [mF]at H
 refine aL ?_
 revert H;refine I5 (fun c4 H=>?_) fun c4 H=>?_
 refine Z3 ?_
 refine aL ?_
 revert H;refine B8 fun y11 h13 H=>?_
 refine Z1 ?_
 refine aO ?_
 refine aAe (z':=x11) trivial rfl rfl rfl (has rfl) (has rfl) (aG trivial) (sz rfl) (cU h13) rfl rfl ?_
 revert H;refine B5 fun z2 h14 H=>?_
 refine Z3 ?_
 refine aC [1,2,0,3] (by decide) ?_
 exact Tm ((k3,z2,x18.set x17.toNat x11)) ⟨H,ls⟩
 refine Z6 ?_
 exact Tm (x18) (ij H)
 clear H;intro x14 hi;subst o4;have H:=Hr4;clear Hr4;try dsimp only at H
 try dsimp only
 revert H;refine B2 fun z3 h15 H=>?_
 refine Z5 ?_
 exact Tm ((z3,x14)) (ij H)
 refine Tp (aW _ _ h12).pan ?_
 revert H;refine B3 fun r1 H e1=>?_
 cases e1;cases Hr2
 revert H;refine B3 fun r2 H e2=>?_
 cases e2;cases Hr1
 cases H
 exact bJ
 refine Tp (aW _ _ h9).pan ?_
 revert H;refine B3 fun r3 H e3=>?_
 cases e3;cases Hr2
 revert H;refine B3 fun r4 H e4=>?_
 cases e4;cases Hr1
 cases H
 exact bJ
 clear H;intro i hi;obtain⟨x9,x10⟩:=i;subst o2;have H:=Hr2;clear Hr2;try dsimp only at H
 try dsimp only
 revert H;refine B1 fun z4 h16 H=>?_
 refine Z3 ?_
 exact Tm ((k1,x9,z4,x10)) ⟨H,ls⟩
 refine Z6 ?_
 exact Tm ((x6,x8)) (ij H)
 clear H;intro i hi;obtain⟨x1,x2⟩:=i;subst o1;have H:=Hr1;clear Hr1;try dsimp only at H
 try dsimp only
 revert H;refine B9 fun y12 h17 H=>?_
 rcases y12 with y12 | pv4 <;> dsimp only at H
 refine Tc (aW _ _ h17).s ?_
 refine Z6 ?_
 refine bW (φs':=[fI a0.CodeProg.Free,fSl aF a0.CodeProg.Defs,fSl aH a0.CodeProg.Code,fI a0.CodeProg.Main,fSl tI y2,fEq v6,fEq (.map (some b1)),fEq v3]) trivial rfl rfl (has rfl) (has rfl) (dF) (sz rfl) rfl rfl ?_
 refine Z1 ?_
 refine aP ?_
 refine dA ?_
 refine bC ?_
 refine aP ?_
 refine bC ?_
 refine bC ?_
 refine cY (x:=(⟨(⟨a0.CodeProg.Free,a0.CodeProg.Defs,a0.CodeProg.Code,a0.CodeProg.Main⟩:CodeProg),y2,x2,a0.levels,a0.todo⟩:Code_checker)) ?_
 cases H
 refine gP ?_
 exact cJ (.inr rfl) rfl rfl
 refine Tp (aW _ _ h17).pan ?_
 refine Z1 ?_
 cases H
 exact bJ
 refine Tp (aW _ _ h6).pan ?_
 refine Z1 ?_
 cases H
 exact bJ
def kN (a0:Code_checker) (a1:Int) (a2:CodeLevel):Option (Code_checker ⊕ Value):=
 bif (a0.levels.get a1).isSome then
  (bU (decide ((((a0.levels.get a1).getD (⟨0,0⟩:CodeLevel)).Stack)=a2.Stack) && decide ((((a0.levels.get a1).getD (⟨0,0⟩:CodeLevel)).Slots)=a2.Slots))).bind fun y1=>
  match y1 with
  | Sum.inr pv1=>some (Sum.inr pv1)
  | Sum.inl y1=>
  some (Sum.inl (⟨(⟨a0.CodeProg.Free,a0.CodeProg.Defs,a0.CodeProg.Code,a0.CodeProg.Main⟩:CodeProg),a0.begins,a0.last,a0.levels,a0.todo⟩:Code_checker))
 else
  (dB (a0.todo++[a1])).bind fun z1=>
  some (Sum.inl (⟨(⟨a0.CodeProg.Free,a0.CodeProg.Defs,a0.CodeProg.Code,a0.CodeProg.Main⟩:CodeProg),a0.begins,a0.last,aI.upd a0.levels a1 (⟨a2.Stack,a2.Slots⟩:CodeLevel),z1⟩:Code_checker))
theorem iL (p0:Nat) (a0:Code_checker) (a1:Int) (a2:CodeLevel) (r:Code_checker ⊕ Value) (H:kN a0 a1 a2=some r):FnE Tryz.prog 74 [fEq (.pointer (some ⟨p0,0,none⟩)),fI a1,fSt bA a2] [dP p0 a0] r (fun r=>dJ []) (fun r=>[dP p0 r]):=by
 unfold kN at H
 refine iS Tryz.func74 rfl Tryz.ntmps74 rfl (fun β=>?_)
 refine dQ (fun v1 v2 v3=>?_)
 refine aO ?_
 refine dO (fun b1 h1=>?_);subst h1
 refine aB 2 rfl (fun hc_v1=>?_)
 refine aB 3 rfl (fun hc_v3=>?_)
 refine Z1 ?_
 refine Tn (cG rfl hh bP) fun b2=>?_
 refine Z1 ?_
 refine aL ?_
 refine Z6 ?_
 refine Yo 1 rfl (aGh (zα:=(⟨0,0⟩:CodeLevel)) (k:=a1) rfl hh hh rfl uS (tC [(.int .i64 0),(.int .i64 0)])) ?_
 refine Z3 ?_
 refine Tn (cR rfl aAw rfl) fun b3=>?_
 refine cW (φs':=[fI (((a0.levels.get a1).getD (⟨0,0⟩:CodeLevel)).Stack),fI (((a0.levels.get a1).getD (⟨0,0⟩:CodeLevel)).Slots)]) trivial rfl rfl (has rfl) (has rfl) (aN (aG trivial) (aN (aG trivial) bZ)) (sz rfl) rfl rfl rfl ?_
 refine Z5 ?_
 revert H;refine cs (fun c1 H=>?_) fun c1 H=>?_
 refine Z4 ?_
 refine Yy (o_eqSt2 (t:=bA) (u:=(⟨((a0.levels.get a1).getD (⟨0,0⟩:CodeLevel)).Stack,((a0.levels.get a1).getD (⟨0,0⟩:CodeLevel)).Slots⟩:CodeLevel)) (v:=(⟨a2.Stack,a2.Slots⟩:CodeLevel)) rfl hh hh rfl rfl aCu) ?_
 revert H;refine bs fun y1 h2 H=>?_
 rcases y1 with y1 | pv1 <;> dsimp only at H
 refine Tc (aW _ _ h2).s ?_
 refine Z2 ?_
 refine aO ?_
 refine dA ?_
 refine gE ?_
 refine aP ?_
 refine gE ?_
 refine gE ?_
 refine cY (x:=(⟨(⟨a0.CodeProg.Free,a0.CodeProg.Defs,a0.CodeProg.Code,a0.CodeProg.Main⟩:CodeProg),a0.begins,a0.last,a0.levels,a0.todo⟩:Code_checker)) ?_
 cases H
 refine gP ?_
 refine aC [0] (by decide) ?_
 exact cJ (.inl rfl) rfl rfl
 refine Tp (aW _ _ h2).pan ?_
 refine Z2 ?_
 cases H
 exact bJ
 refine Z3 ?_
 refine aL ?_
 apply bO (ods:=[_,_,_,_,_,_]) 6 0 6 bM rfl rfl rfl
 refine ND ?_
 refine M6 ?_
 intros
 refine Z1 ?_
 refine aO ?_
 refine aA4 (k:=a1) (y:=(⟨a2.Stack,a2.Slots⟩:CodeLevel)) trivial (.inl rfl) rfl (has rfl) (has rfl) rfl (has rfl) rfl uS ?_
 refine Z8 ?_
 refine Tn (eQ (t:=tI) (xs:=[a1]) rfl (et rfl) (bS.cons rfl (has rfl) (bY (aG trivial)) bS.nil) rfl rfl rfl) fun b4=>?_
 generalize (Value.slice (some ⟨b4,0,none⟩) _ _)=v4
 refine aB 0 rfl (fun hc_v4=>?_)
 revert H;refine bs fun z1 h3 H=>?_
 refine qY ?_
 refine aP ?_
 refine gJ trivial rfl rfl rfl (has rfl) (has rfl) (et rfl) rfl h3 (fun v5=>?_)
 refine aB 0 rfl (fun hc_v5=>?_)
 refine Z2 ?_
 refine aS ?_
 refine bW (φs':=[fI a0.CodeProg.Free,fSl aF a0.CodeProg.Defs,fSl aH a0.CodeProg.Code,fI a0.CodeProg.Main,fSl tI a0.begins,fEq v1,fEq (.map (some b1)),fEq v5]) trivial rfl rfl (has rfl) (has rfl) (aG hc_v5) (sz rfl) rfl rfl ?_
 refine Z1 ?_
 refine aO ?_
 refine dA ?_
 refine aO ?_
 refine aP ?_
 refine gE ?_
 refine bC ?_
 refine cY (x:=(⟨(⟨a0.CodeProg.Free,a0.CodeProg.Defs,a0.CodeProg.Code,a0.CodeProg.Main⟩:CodeProg),a0.begins,a0.last,aI.upd a0.levels a1 (⟨a2.Stack,a2.Slots⟩:CodeLevel),z1⟩:Code_checker)) ?_
 cases H
 refine gP ?_
 refine aC [0] (by decide) ?_
 exact cJ (.inr rfl) rfl rfl
 exact fk
 kernel_rfl
def lW (a0:CodeLevel) (a1:Int) (a2:Int):Option (CodeLevel ⊕ Value):=
 (bU (decide (a1 ≤ a0.Stack))).bind fun y1=>
 match y1 with
 | Sum.inr pv1=>some (Sum.inr pv1)
 | Sum.inl y1=>
 (chk (a0.Stack - a1)).bind fun z1=>
 (chk (z1+a2)).bind fun z2=>
 some (Sum.inl (⟨z2,a0.Slots⟩:CodeLevel))
theorem lN  (a0:CodeLevel) (a1:Int) (a2:Int) (r:CodeLevel ⊕ Value) (H:lW a0 a1 a2=some r):FnE Tryz.prog 121 [fSt bA a0,fI a1,fI a2] [] r (fun r=>fSt bA r) (fun r=>[]):=by
 unfold lW at H
 refine iS Tryz.func121 rfl Tryz.ntmps121 rfl (fun β=>?_)
 refine Z1 ?_
 refine Tn (cG rfl hh bP) fun b1=>?_
 refine Tn (cR rfl aAw rfl) fun b2=>?_
 revert H;refine B6 fun y1 h1 H=>?_
 rcases y1 with y1 | pv1 <;> dsimp only at H
 refine Tc (aW _ _ h1).s ?_
 revert H;refine B5 fun z1 h2 H=>?_
 revert H;refine B2 fun z2 h3 H=>?_
 refine Z3 ?_
 refine Yy (eS (ψs:=[fI z2,fI a0.Slots]) rfl pM rfl (aZ.cons (has rfl) (bY (aG trivial)) (aZ.cons (has rfl) (bY (aG trivial)) aZ.nil)) rfl) ?_
 refine cW (φs':=[fI z2,fI a0.Slots]) trivial rfl rfl (has rfl) (has rfl) (aN (aG trivial) (aN (aG trivial) bZ)) (sz rfl) rfl rfl rfl ?_
 refine Z2 ?_
 cases H
 refine gP ?_
 refine aC [0] (by decide) ?_
 exact aBq rfl (ag rfl) rfl (bV rfl) Ent.rfl rfl
 refine Tp (aW _ _ h1).pan ?_
 refine Z1 ?_
 cases H
 exact bJ
def mT (a1:ScopeDef) (a2:Int):Nat → Int → Int → (List ScopeDef) → (List CodeIns) → Int → (List Int) → (List Int) → (aI Int CodeLevel) → (List Int) → Option ((Int × List ScopeDef × List CodeIns × Int × List Int × List Int × aI Int CodeLevel × List Int) ⊕ (Code_checker ⊕ Value))
| 0,_,_,_,_,_,_,_,_,_=>none
| k+1,x18,x19,x20,x21,x22,x23,x24,x25,x26=>
 if x18<(a1.Spots.length:Int)then
  (idx a1.Spots x18).bind fun y1=>
  (kN (⟨(⟨x19,x20,x21,x22⟩:CodeProg),x23,x24,x25,x26⟩:Code_checker) y1.Node (⟨0,a2⟩:CodeLevel)).bind fun y2=>
  match y2 with
  | Sum.inr pv1=>(some (Sum.inr pv1)).bind fun r=>some (Sum.inr r)
  | Sum.inl y2=>
  (chk (x18+1)).bind fun z1=>
  mT a1 a2 k z1 y2.CodeProg.Free y2.CodeProg.Defs y2.CodeProg.Code y2.CodeProg.Main y2.begins y2.last y2.levels y2.todo
 else
  some (Sum.inl (x19,x20,x21,x22,x23,x24,x25,x26))
def nK (a1:ScopeDef) (y3:ScopeRule):Nat → Int → Int → Option (Int)
| 0,_,_=>none
| k+1,x56,x57=>
 if x57<(y3.Joins.length:Int)then
  (idx y3.Joins x57).bind fun y4=>
  (idx a1.Chans y4).bind fun y5=>
  (chk (x56+y5.Many)).bind fun z2=>
  (chk (x57+1)).bind fun z3=>
  nK a1 y3 k z2 z3
 else
  some x56
def mE (fuel:Nat) (a1:ScopeDef) (a2:Int):Nat → Int → Int → (List ScopeDef) → (List CodeIns) → Int → (List Int) → (List Int) → (aI Int CodeLevel) → (List Int) → Option (Code_checker ⊕ Value)
| 0,_,_,_,_,_,_,_,_,_=>none
| k+1,x36,x37,x38,x39,x40,x41,x42,x43,x44=>
 if x36<(a1.Rules.length:Int)then
  ((idx a1.Rules x36).bind fun y3=>
  (nK a1 y3 fuel 0 0).bind fun x53=>
  (chk (a2+x53)).bind fun z4=>
  (kN (⟨(⟨x37,x38,x39,x40⟩:CodeProg),x41,x42,x43,x44⟩:Code_checker) y3.Node (⟨0,z4⟩:CodeLevel)).bind fun y6=>
  match y6 with
  | Sum.inr pv2=>(some (Sum.inr pv2)).bind fun r=>some (Sum.inr r)
  | Sum.inl y6=>
  some (Sum.inl (y6.CodeProg.Free,y6.CodeProg.Defs,y6.CodeProg.Code,y6.CodeProg.Main,y6.begins,y6.last,y6.levels,y6.todo))).bind fun o=>match o with
  | Sum.inr r=>some r
  | Sum.inl (x45,x46,x47,x48,x49,x50,x51,x52)=>
  (chk (x36+1)).bind fun z5=>
  mE fuel a1 a2 k z5 x45 x46 x47 x48 x49 x50 x51 x52
 else
  some (Sum.inl (⟨(⟨x37,x38,x39,x40⟩:CodeProg),x41,x42,x43,x44⟩:Code_checker))
def wP (fuel:Nat) (a0:Code_checker) (a1:ScopeDef) (a2:Int):Option (Code_checker ⊕ Value):=
 (mT a1 a2 fuel 0 a0.CodeProg.Free a0.CodeProg.Defs a0.CodeProg.Code a0.CodeProg.Main a0.begins a0.last a0.levels a0.todo).bind fun o=>match o with
 | Sum.inr r=>some r
 | Sum.inl (x1,x2,x3,x4,x5,x6,x7,x8)=>
 mE fuel a1 a2 fuel 0 x1 x2 x3 x4 x5 x6 x7 x8
theorem aCd (fuel:Nat) (p0:Nat) (a0:Code_checker) (a1:ScopeDef) (a2:Int) (r:Code_checker ⊕ Value) (H:wP fuel a0 a1 a2=some r):FnE Tryz.prog 122 [fEq (.pointer (some ⟨p0,0,none⟩)),fSt aF a1,fI a2] [dP p0 a0] r (fun r=>dJ []) (fun r=>[dP p0 r]):=by
 unfold wP at H
 refine iS Tryz.func122 rfl Tryz.ntmps122 rfl (fun β=>?_)
 refine dQ (fun v1 v2 v3=>?_)
 refine aO ?_
 refine dO (fun b1 h1=>?_);subst h1
 refine aB 2 rfl (fun hc_v1=>?_)
 refine aB 3 rfl (fun hc_v3=>?_)
 refine Z1 ?_
 refine Tn (cG rfl hh bP) fun b2=>?_
 revert H;refine B1 fun o1 H Hr1=>?_
 refine aT (ι:=Int × List ScopeDef × List CodeIns × Int × List Int × List Int × aI Int CodeLevel × List Int × Value × Nat × Value) (fun i=>o1=Sum.inl (i.1,i.2.1,i.2.2.1,i.2.2.2.1,i.2.2.2.2.1,i.2.2.2.2.2.1,i.2.2.2.2.2.2.1,i.2.2.2.2.2.2.2.1)) (fun i=>[(0,fEq (ptr p0)),(2,fI a2),(4,fEq (ptr b2))]) (fun i=>[aA b2 63 [fSl bG a1.Chans,fSl bQ a1.Spots,fSl bR a1.Rules],aA p0 90 [fI i.1,fSl aF i.2.1,fSl aH i.2.2.1,fI i.2.2.2.1,fSl tI i.2.2.2.2.1,fEq i.2.2.2.2.2.2.2.2.1,fEq (.map (some i.2.2.2.2.2.2.2.2.2.1)),fEq i.2.2.2.2.2.2.2.2.2.2],bK bH (fun y=>fSt bA y) i.2.2.2.2.2.2.2.2.2.1 i.2.2.2.2.2.2.1,aD i.2.2.2.2.2.2.2.2.1 3 tI i.2.2.2.2.2.1,aD i.2.2.2.2.2.2.2.2.2.2 3 tI i.2.2.2.2.2.2.2.1]) ?_ ?_
 refine Z7 ?_
 refine aC [0,2,1,3,4] (by decide) ?_
 refine Tl (ι:=Nat × Int × Int × List ScopeDef × List CodeIns × Int × List Int × List Int × aI Int CodeLevel × List Int × Value × Nat × Value) (fun i=>mT a1 a2 i.1 i.2.1 i.2.2.1 i.2.2.2.1 i.2.2.2.2.1 i.2.2.2.2.2.1 i.2.2.2.2.2.2.1 i.2.2.2.2.2.2.2.1 i.2.2.2.2.2.2.2.2.1 i.2.2.2.2.2.2.2.2.2.1=_) (fun i=>i.1) (fun i=>[(0,fEq (ptr p0)),(2,fI a2),(4,fEq (ptr b2)),(14,fSl bQ a1.Spots),(15,fI (a1.Spots.length:Int)),(16,fI i.2.1)]) (fun i=>[aA b2 63 [fSl bG a1.Chans,fSl bQ a1.Spots,fSl bR a1.Rules],aA p0 90 [fI i.2.2.1,fSl aF i.2.2.2.1,fSl aH i.2.2.2.2.1,fI i.2.2.2.2.2.1,fSl tI i.2.2.2.2.2.2.1,fEq i.2.2.2.2.2.2.2.2.2.2.1,fEq (.map (some i.2.2.2.2.2.2.2.2.2.2.2.1)),fEq i.2.2.2.2.2.2.2.2.2.2.2.2],bK bH (fun y=>fSt bA y) i.2.2.2.2.2.2.2.2.2.2.2.1 i.2.2.2.2.2.2.2.2.1,aD i.2.2.2.2.2.2.2.2.2.2.1 3 tI i.2.2.2.2.2.2.2.1,aD i.2.2.2.2.2.2.2.2.2.2.2.2 3 tI i.2.2.2.2.2.2.2.2.2.1]) (fuel,0,a0.CodeProg.Free,a0.CodeProg.Defs,a0.CodeProg.Code,a0.CodeProg.Main,a0.begins,a0.last,a0.levels,a0.todo,v1,b1,v3) H ?_
 clear H;rintro⟨k1,x18,x19,x20,x21,x22,x23,x24,x25,x26,v8,b5,v9⟩ H
 replace H:mT a1 a2 k1 x18 x19 x20 x21 x22 x23 x24 x25 x26=_:=H
 try dsimp only
 obtain _ | k1:=k1
 rw [mT]at H;cases H
 rw [mT]at H
 refine aB 3 rfl (fun hc_v8=>?_)
 refine aB 4 rfl (fun hc_v9=>?_)
 refine Z3 ?_
 refine aL ?_
 revert H;refine is (fun c1 H=>?_) fun c1 H=>?_
 refine Z3 ?_
 refine aL ?_
 revert H;refine B2 fun y1 h2 H=>?_
 refine Z2 ?_
 refine Tn (cR rfl yE rfl) fun b6=>?_
 refine cW (φs':=[fI y1.In,fI y1.Node]) trivial rfl rfl (has rfl) (has rfl) (aN (aG trivial) (aN (aG trivial) bZ)) (sz rfl) rfl rfl rfl ?_
 refine Z6 ?_
 refine Yy (eS (ψs:=[fI 0,fI a2]) rfl pM rfl (aZ.cons (has rfl) (bY (aG trivial)) aZ.nil) rfl) ?_
 refine bC ?_
 refine dA ?_
 refine gE ?_
 refine aP ?_
 refine gE ?_
 refine gE ?_
 refine cY (x:=(⟨(⟨x19,x20,x21,x22⟩:CodeProg),x23,x24,x25,x26⟩:Code_checker)) ?_
 revert H;refine bs fun y2 h3 H=>?_
 rcases y2 with y2 | pv1 <;> dsimp only at H
 refine Tc (iL _ _ _ _ _ h3).s ?_
 refine dQ (fun v10 v11 v12=>?_)
 refine aO ?_
 refine dO (fun b7 h4=>?_);subst h4
 refine aB 2 rfl (fun hc_v10=>?_)
 refine aB 3 rfl (fun hc_v12=>?_)
 revert H;refine B4 fun z1 h5 H=>?_
 refine Z3 ?_
 refine aC [5,1,0,2,3] (by decide) ?_
 exact Tm ((k1,z1,y2.CodeProg.Free,y2.CodeProg.Defs,y2.CodeProg.Code,y2.CodeProg.Main,y2.begins,y2.last,y2.levels,y2.todo,v10,b7,v12)) ⟨H,ls⟩
 refine Tp (iL _ _ _ _ _ h3).pan ?_
 revert H;refine B5 fun r1 H e1=>?_
 cases e1;cases Hr1
 cases H
 exact bJ
 refine Z6 ?_
 exact Tm ((x19,x20,x21,x22,x23,x24,x25,x26,v8,b5,v9)) (ij H)
 clear H;intro i hi;obtain⟨x1,x2,x3,x4,x5,x6,x7,x8,v4,b3,v5⟩:=i;subst o1;have H:=Hr1;clear Hr1;try dsimp only at H
 try dsimp only
 refine aB 3 rfl (fun hc_v4=>?_)
 refine aB 4 rfl (fun hc_v5=>?_)
 refine Z7 ?_
 refine Tl (ι:=Nat × Int × Int × List ScopeDef × List CodeIns × Int × List Int × List Int × aI Int CodeLevel × List Int × Value × Nat × Value) (fun i=>mE fuel a1 a2 i.1 i.2.1 i.2.2.1 i.2.2.2.1 i.2.2.2.2.1 i.2.2.2.2.2.1 i.2.2.2.2.2.2.1 i.2.2.2.2.2.2.2.1 i.2.2.2.2.2.2.2.2.1 i.2.2.2.2.2.2.2.2.2.1=_) (fun i=>i.1) (fun i=>[(0,fEq (ptr p0)),(2,fI a2),(4,fEq (ptr b2)),(28,fSl bR a1.Rules),(29,fI (a1.Rules.length:Int)),(30,fI i.2.1)]) (fun i=>[aA b2 63 [fSl bG a1.Chans,fSl bQ a1.Spots,fSl bR a1.Rules],aA p0 90 [fI i.2.2.1,fSl aF i.2.2.2.1,fSl aH i.2.2.2.2.1,fI i.2.2.2.2.2.1,fSl tI i.2.2.2.2.2.2.1,fEq i.2.2.2.2.2.2.2.2.2.2.1,fEq (.map (some i.2.2.2.2.2.2.2.2.2.2.2.1)),fEq i.2.2.2.2.2.2.2.2.2.2.2.2],bK bH (fun y=>fSt bA y) i.2.2.2.2.2.2.2.2.2.2.2.1 i.2.2.2.2.2.2.2.2.1,aD i.2.2.2.2.2.2.2.2.2.2.1 3 tI i.2.2.2.2.2.2.2.1,aD i.2.2.2.2.2.2.2.2.2.2.2.2 3 tI i.2.2.2.2.2.2.2.2.2.1]) (fuel,0,x1,x2,x3,x4,x5,x6,x7,x8,v4,b3,v5) H ?_
 clear H;rintro⟨k2,x36,x37,x38,x39,x40,x41,x42,x43,x44,v15,b9,v16⟩ H
 replace H:mE fuel a1 a2 k2 x36 x37 x38 x39 x40 x41 x42 x43 x44=_:=H
 try dsimp only
 obtain _ | k2:=k2
 rw [mE]at H;cases H
 rw [mE]at H
 refine aB 3 rfl (fun hc_v15=>?_)
 refine aB 4 rfl (fun hc_v16=>?_)
 refine Z3 ?_
 refine aL ?_
 revert H;refine is (fun c2 H=>?_) fun c2 H=>?_
 revert H;refine B3 fun o2 H Hr2=>?_
 refine aT (ι:=Int × List ScopeDef × List CodeIns × Int × List Int × List Int × aI Int CodeLevel × List Int × Value × Nat × Value) (fun i=>o2=Sum.inl (i.1,i.2.1,i.2.2.1,i.2.2.2.1,i.2.2.2.2.1,i.2.2.2.2.2.1,i.2.2.2.2.2.2.1,i.2.2.2.2.2.2.2.1)) (fun i=>[(0,fEq (ptr p0)),(2,fI a2),(4,fEq (ptr b2)),(28,fSl bR a1.Rules),(29,fI (a1.Rules.length:Int)),(30,fI x36)]) (fun i=>[aA p0 90 [fI i.1,fSl aF i.2.1,fSl aH i.2.2.1,fI i.2.2.2.1,fSl tI i.2.2.2.2.1,fEq i.2.2.2.2.2.2.2.2.1,fEq (.map (some i.2.2.2.2.2.2.2.2.2.1)),fEq i.2.2.2.2.2.2.2.2.2.2],aA b2 63 [fSl bG a1.Chans,fSl bQ a1.Spots,fSl bR a1.Rules],bK bH (fun y=>fSt bA y) i.2.2.2.2.2.2.2.2.2.1 i.2.2.2.2.2.2.1,aD i.2.2.2.2.2.2.2.2.1 3 tI i.2.2.2.2.2.1,aD i.2.2.2.2.2.2.2.2.2.2 3 tI i.2.2.2.2.2.2.2.1]) ?_ ?_
 revert H;refine B2 fun y3 h6 H=>?_
 refine Z2 ?_
 refine Tn (cR rfl zL rfl) fun b11=>?_
 refine cW (φs':=[fI y3.At,fSl tI y3.Joins,fI y3.Node]) trivial rfl rfl (has rfl) (has rfl) (aN (aG trivial) (aN (dF) (aN (aG trivial) bZ))) (sz rfl) rfl rfl rfl ?_
 revert H;refine B4 fun o3 H Hr3=>?_
 refine aT (ι:=Int) (fun i=>o3=i) (fun i=>[(0,fEq (ptr p0)),(2,fI a2),(4,fEq (ptr b2)),(28,fSl bR a1.Rules),(29,fI (a1.Rules.length:Int)),(30,fI x36),(9,fEq (ptr b11)),(10,fI i)]) (fun i=>[aA b11 114 [fI y3.At,fSl tI y3.Joins,fI y3.Node],aA b2 63 [fSl bG a1.Chans,fSl bQ a1.Spots,fSl bR a1.Rules],aA p0 90 [fI x37,fSl aF x38,fSl aH x39,fI x40,fSl tI x41,fEq v15,fEq (.map (some b9)),fEq v16],bK bH (fun y=>fSt bA y) b9 x43,aD v15 3 tI x42,aD v16 3 tI x44]) ?_ ?_
 refine Z7 ?_
 refine Tl (ι:=Nat × Int × Int) (fun i=>nK a1 y3 i.1 i.2.1 i.2.2=_) (fun i=>i.1) (fun i=>[(0,fEq (ptr p0)),(2,fI a2),(4,fEq (ptr b2)),(28,fSl bR a1.Rules),(29,fI (a1.Rules.length:Int)),(30,fI x36),(9,fEq (ptr b11)),(10,fI i.2.1),(35,fSl tI y3.Joins),(36,fI (y3.Joins.length:Int)),(37,fI i.2.2)]) (fun i=>[aA b11 114 [fI y3.At,fSl tI y3.Joins,fI y3.Node],aA b2 63 [fSl bG a1.Chans,fSl bQ a1.Spots,fSl bR a1.Rules],aA p0 90 [fI x37,fSl aF x38,fSl aH x39,fI x40,fSl tI x41,fEq v15,fEq (.map (some b9)),fEq v16],bK bH (fun y=>fSt bA y) b9 x43,aD v15 3 tI x42,aD v16 3 tI x44]) (fuel,0,0) H ?_
 clear H;rintro⟨k3,x56,x57⟩ H
 replace H:nK a1 y3 k3 x56 x57=_:=H
 try dsimp only
 obtain _ | k3:=k3
 rw [nK]at H;cases H
 rw [nK]at H
 refine Z3 ?_
 refine aL ?_
 revert H;refine is (fun c3 H=>?_) fun c3 H=>?_
 refine Z3 ?_
 refine aL ?_
 revert H;refine B2 fun y4 h7 H=>?_
 revert H;refine B9 fun y5 h8 H=>?_
 revert H;refine B3 fun z2 h9 H=>?_
 revert H;refine B6 fun z3 h10 H=>?_
 refine Z3 ?_
 exact Tm ((k3,z2,z3)) ⟨H,ls⟩
 refine Z6 ?_
 exact Tm (x56) (ij H)
 clear H;intro x53 hi;subst o3;have H:=Hr3;clear Hr3;try dsimp only at H
 try dsimp only
 revert H;refine B6 fun z4 h11 H=>?_
 refine Z1 ?_
 refine Yy (eS (ψs:=[fI 0,fI z4]) rfl pM rfl (aZ.cons (has rfl) (bY (aG trivial)) aZ.nil) rfl) ?_
 refine bC ?_
 refine dA ?_
 refine gE ?_
 refine aP ?_
 refine gE ?_
 refine gE ?_
 refine cY (x:=(⟨(⟨x37,x38,x39,x40⟩:CodeProg),x41,x42,x43,x44⟩:Code_checker)) ?_
 revert H;refine bs fun y6 h12 H=>?_
 rcases y6 with y6 | pv2 <;> dsimp only at H
 refine Tc (iL _ _ _ _ _ h12).s ?_
 refine dQ (fun v19 v20 v21=>?_)
 refine aO ?_
 refine dO (fun b12 h13=>?_);subst h13
 refine aB 2 rfl (fun hc_v19=>?_)
 refine aB 3 rfl (fun hc_v21=>?_)
 refine Z3 ?_
 refine aC [1,5,0,2,3] (by decide) ?_
 exact Tm ((y6.CodeProg.Free,y6.CodeProg.Defs,y6.CodeProg.Code,y6.CodeProg.Main,y6.begins,y6.last,y6.levels,y6.todo,v19,b12,v21)) (ij H)
 refine Tp (iL _ _ _ _ _ h12).pan ?_
 revert H;refine B2 fun r2 H e2=>?_
 cases e2;cases Hr2
 refine Z2 ?_
 cases H
 exact bJ
 clear H;intro i hi;obtain⟨x45,x46,x47,x48,x49,x50,x51,x52,v17,b10,v18⟩:=i;subst o2;have H:=Hr2;clear Hr2;try dsimp only at H
 try dsimp only
 refine aB 3 rfl (fun hc_v17=>?_)
 refine aB 4 rfl (fun hc_v18=>?_)
 revert H;refine B1 fun z5 h14 H=>?_
 refine Z3 ?_
 refine aC [1,0,2,3,4] (by decide) ?_
 exact Tm ((k2,z5,x45,x46,x47,x48,x49,x50,x51,x52,v17,b10,v18)) ⟨H,ls⟩
 refine Z5 ?_
 refine aO ?_
 refine dA ?_
 refine aS ?_
 refine aP ?_
 refine aS ?_
 refine aS ?_
 refine cY (x:=(⟨(⟨x37,x38,x39,x40⟩:CodeProg),x41,x42,x43,x44⟩:Code_checker)) ?_
 cases H
 refine gP ?_
 refine aC [0] (by decide) ?_
 exact cJ (.inr rfl) rfl rfl
open Go.SX Go.SW Go.Dt
def qM (w0:CodeIns) (w1:CodeLevel):Option (CodeLevel ⊕ Value):=
 (bU (decide (w0.A<w1.Slots))).bind fun y1=>
 match y1 with
 | Sum.inr pv1=>some (Sum.inr pv1)
 | Sum.inl y1=>
 some (Sum.inl (⟨w1.Stack,w1.Slots⟩:CodeLevel))
theorem rP (q1:Nat) (w0:CodeIns) (w1:CodeLevel) (r:CodeLevel ⊕ Value) (H:qM w0 w1=some r):FnE Tryz.prog 119 [bX aH w0,fEq (.pointer (some ⟨q1,0,none⟩))] [sJ q1 w1] r (fun r=>dJ []) (fun r=>[sJ q1 r]):=by
 unfold qM at H
 refine iS Tryz.func119 rfl Tryz.ntmps119 rfl (fun β=>?_)
 refine nC ?_
 revert H;refine B6 fun y1 h1 H=>?_
 rcases y1 with y1 | pv1 <;> dsimp only at H
 refine Tc (aW _ _ h1).s ?_
 refine Z1 ?_
 refine mR (x:=(⟨w1.Stack,w1.Slots⟩:CodeLevel)) ?_
 cases H
 refine gP ?_
 exact cJ (.inr rfl) rfl rfl
 refine Tp (aW _ _ h1).pan ?_
 cases H
 exact bJ
def pQ (w0:CodeLevel):Option (CodeLevel ⊕ Value):=
 (bU (decide (w0.Stack=0))).bind fun y1=>
 match y1 with
 | Sum.inr pv1=>some (Sum.inr pv1)
 | Sum.inl y1=>
 some (Sum.inl (⟨w0.Stack,w0.Slots⟩:CodeLevel))
theorem oG (q0:Nat) (w0:CodeLevel) (r:CodeLevel ⊕ Value) (H:pQ w0=some r):FnE Tryz.prog 120 [fEq (.pointer (some ⟨q0,0,none⟩))] [sJ q0 w0] r (fun r=>dJ []) (fun r=>[sJ q0 r]):=by
 unfold pQ at H
 refine iS Tryz.func120 rfl Tryz.ntmps120 rfl (fun β=>?_)
 refine nC ?_
 revert H;refine B4 fun y1 h1 H=>?_
 rcases y1 with y1 | pv1 <;> dsimp only at H
 refine Tc (aW _ _ h1).s ?_
 refine Z1 ?_
 refine mR (x:=(⟨w0.Stack,w0.Slots⟩:CodeLevel)) ?_
 cases H
 refine gP ?_
 exact cJ (.inr rfl) rfl rfl
 refine Tp (aW _ _ h1).pan ?_
 cases H
 exact bJ
def sC (fuel:Nat) (a0:Code_checker) (a1:Int):Option (Code_checker ⊕ Value):=
 (idx a0.CodeProg.Code a1).bind fun y1=>
 (if ((⟨y1.Op,y1.A,y1.B⟩:CodeIns).Op)=1 then
  (lW (⟨((a0.levels.get a1).getD (⟨0,0⟩:CodeLevel)).Stack,((a0.levels.get a1).getD (⟨0,0⟩:CodeLevel)).Slots⟩:CodeLevel) 0 1).bind fun y2=>
  match y2 with
  | Sum.inr pv1=>(some (Sum.inr pv1)).bind fun r=>some (Sum.inr r)
  | Sum.inl y2=>
  some (Sum.inl (y2.Stack,y2.Slots,a0.CodeProg.Free,a0.CodeProg.Defs,a0.CodeProg.Code,a0.CodeProg.Main,a0.begins,a0.last,a0.levels,a0.todo))
 else
  if ((⟨y1.Op,y1.A,y1.B⟩:CodeIns).Op)=2 then
   (qM (⟨y1.Op,y1.A,y1.B⟩:CodeIns) (⟨((a0.levels.get a1).getD (⟨0,0⟩:CodeLevel)).Stack,((a0.levels.get a1).getD (⟨0,0⟩:CodeLevel)).Slots⟩:CodeLevel)).bind fun y3=>
   match y3 with
   | Sum.inr pv2=>(some (Sum.inr pv2)).bind fun r=>some (Sum.inr r)
   | Sum.inl y3=>
   (lW (⟨y3.Stack,y3.Slots⟩:CodeLevel) 0 1).bind fun y4=>
   match y4 with
   | Sum.inr pv3=>(some (Sum.inr pv3)).bind fun r=>some (Sum.inr r)
   | Sum.inl y4=>
   some (Sum.inl (y4.Stack,y4.Slots,a0.CodeProg.Free,a0.CodeProg.Defs,a0.CodeProg.Code,a0.CodeProg.Main,a0.begins,a0.last,a0.levels,a0.todo))
  else
   (if ((⟨y1.Op,y1.A,y1.B⟩:CodeIns).Op)=3 then
    some (decide (((⟨y1.Op,y1.A,y1.B⟩:CodeIns).Op)=3))
   else
    if ((⟨y1.Op,y1.A,y1.B⟩:CodeIns).Op)=4 then
     some (decide (((⟨y1.Op,y1.A,y1.B⟩:CodeIns).Op)=4))
    else
     if ((⟨y1.Op,y1.A,y1.B⟩:CodeIns).Op)=5 then
      some (decide (((⟨y1.Op,y1.A,y1.B⟩:CodeIns).Op)=5))
     else
      if ((⟨y1.Op,y1.A,y1.B⟩:CodeIns).Op)=6 then
       some (decide (((⟨y1.Op,y1.A,y1.B⟩:CodeIns).Op)=6))
      else
       some (decide (((⟨y1.Op,y1.A,y1.B⟩:CodeIns).Op)=7))).bind fun x11=>
   bif x11 then
    (lW (⟨((a0.levels.get a1).getD (⟨0,0⟩:CodeLevel)).Stack,((a0.levels.get a1).getD (⟨0,0⟩:CodeLevel)).Slots⟩:CodeLevel) 2 1).bind fun y5=>
    match y5 with
    | Sum.inr pv4=>(some (Sum.inr pv4)).bind fun r=>some (Sum.inr r)
    | Sum.inl y5=>
    some (Sum.inl (y5.Stack,y5.Slots,a0.CodeProg.Free,a0.CodeProg.Defs,a0.CodeProg.Code,a0.CodeProg.Main,a0.begins,a0.last,a0.levels,a0.todo))
   else
    if ((⟨y1.Op,y1.A,y1.B⟩:CodeIns).Op)=8 then
     (qM (⟨y1.Op,y1.A,y1.B⟩:CodeIns) (⟨((a0.levels.get a1).getD (⟨0,0⟩:CodeLevel)).Stack,((a0.levels.get a1).getD (⟨0,0⟩:CodeLevel)).Slots⟩:CodeLevel)).bind fun y6=>
     match y6 with
     | Sum.inr pv5=>(some (Sum.inr pv5)).bind fun r=>some (Sum.inr r)
     | Sum.inl y6=>
     (lW (⟨y6.Stack,y6.Slots⟩:CodeLevel) ((⟨y1.Op,y1.A,y1.B⟩:CodeIns).B) 0).bind fun y7=>
     match y7 with
     | Sum.inr pv6=>(some (Sum.inr pv6)).bind fun r=>some (Sum.inr r)
     | Sum.inl y7=>
     some (Sum.inl (y7.Stack,y7.Slots,a0.CodeProg.Free,a0.CodeProg.Defs,a0.CodeProg.Code,a0.CodeProg.Main,a0.begins,a0.last,a0.levels,a0.todo))
    else
     if ((⟨y1.Op,y1.A,y1.B⟩:CodeIns).Op)=9 then
      (lW (⟨((a0.levels.get a1).getD (⟨0,0⟩:CodeLevel)).Stack,((a0.levels.get a1).getD (⟨0,0⟩:CodeLevel)).Slots⟩:CodeLevel) 1 0).bind fun y8=>
      match y8 with
      | Sum.inr pv7=>(some (Sum.inr pv7)).bind fun r=>some (Sum.inr r)
      | Sum.inl y8=>
      (idx a0.last a1).bind fun y9=>
      (bU (decide (((⟨y1.Op,y1.A,y1.B⟩:CodeIns).A) ≤ y9))).bind fun y10=>
      match y10 with
      | Sum.inr pv8=>(some (Sum.inr pv8)).bind fun r=>some (Sum.inr r)
      | Sum.inl y10=>
      (kN (⟨(⟨a0.CodeProg.Free,a0.CodeProg.Defs,a0.CodeProg.Code,a0.CodeProg.Main⟩:CodeProg),a0.begins,a0.last,a0.levels,a0.todo⟩:Code_checker) ((⟨y1.Op,y1.A,y1.B⟩:CodeIns).A) (⟨y8.Stack,y8.Slots⟩:CodeLevel)).bind fun y11=>
      match y11 with
      | Sum.inr pv9=>(some (Sum.inr pv9)).bind fun r=>some (Sum.inr r)
      | Sum.inl y11=>
      some (Sum.inl (y8.Stack,y8.Slots,y11.CodeProg.Free,y11.CodeProg.Defs,y11.CodeProg.Code,y11.CodeProg.Main,y11.begins,y11.last,y11.levels,y11.todo))
     else
      if ((⟨y1.Op,y1.A,y1.B⟩:CodeIns).Op)=10 then
       (idx a0.last a1).bind fun y12=>
       (bU (decide (((⟨y1.Op,y1.A,y1.B⟩:CodeIns).A) ≤ y12))).bind fun y13=>
       match y13 with
       | Sum.inr pv10=>(some (Sum.inr pv10)).bind fun r=>some (Sum.inr r)
       | Sum.inl y13=>
       (kN (⟨(⟨a0.CodeProg.Free,a0.CodeProg.Defs,a0.CodeProg.Code,a0.CodeProg.Main⟩:CodeProg),a0.begins,a0.last,a0.levels,a0.todo⟩:Code_checker) ((⟨y1.Op,y1.A,y1.B⟩:CodeIns).A) (⟨((a0.levels.get a1).getD (⟨0,0⟩:CodeLevel)).Stack,((a0.levels.get a1).getD (⟨0,0⟩:CodeLevel)).Slots⟩:CodeLevel)).bind fun y14=>
       match y14 with
       | Sum.inr pv11=>(some (Sum.inr pv11)).bind fun r=>some (Sum.inr r)
       | Sum.inl y14=>
       (some (Sum.inl (⟨(⟨y14.CodeProg.Free,y14.CodeProg.Defs,y14.CodeProg.Code,y14.CodeProg.Main⟩:CodeProg),y14.begins,y14.last,y14.levels,y14.todo⟩:Code_checker))).bind fun r=>some (Sum.inr r)
      else
       if ((⟨y1.Op,y1.A,y1.B⟩:CodeIns).Op)=11 then
        (pQ (⟨((a0.levels.get a1).getD (⟨0,0⟩:CodeLevel)).Stack,((a0.levels.get a1).getD (⟨0,0⟩:CodeLevel)).Slots⟩:CodeLevel)).bind fun y15=>
        match y15 with
        | Sum.inr pv12=>(some (Sum.inr pv12)).bind fun r=>some (Sum.inr r)
        | Sum.inl y15=>
        (idx a0.CodeProg.Defs ((⟨y1.Op,y1.A,y1.B⟩:CodeIns).A)).bind fun y16=>
        (chk ((y16.Chans.length:Int)+(y16.Spots.length:Int))).bind fun z1=>
        (chk (y15.Slots+z1)).bind fun z2=>
        (wP fuel (⟨(⟨a0.CodeProg.Free,a0.CodeProg.Defs,a0.CodeProg.Code,a0.CodeProg.Main⟩:CodeProg),a0.begins,a0.last,a0.levels,a0.todo⟩:Code_checker) (⟨y16.Chans,y16.Spots,y16.Rules⟩:ScopeDef) z2).bind fun y17=>
        match y17 with
        | Sum.inr pv13=>(some (Sum.inr pv13)).bind fun r=>some (Sum.inr r)
        | Sum.inl y17=>
        some (Sum.inl (y15.Stack,z2,y17.CodeProg.Free,y17.CodeProg.Defs,y17.CodeProg.Code,y17.CodeProg.Main,y17.begins,y17.last,y17.levels,y17.todo))
       else
        if ((⟨y1.Op,y1.A,y1.B⟩:CodeIns).Op)=12 then
         (bU (decide (((⟨y1.Op,y1.A,y1.B⟩:CodeIns).A) ≤ (((a0.levels.get a1).getD (⟨0,0⟩:CodeLevel)).Slots)))).bind fun y18=>
         match y18 with
         | Sum.inr pv14=>(some (Sum.inr pv14)).bind fun r=>some (Sum.inr r)
         | Sum.inl y18=>
         some (Sum.inl (((a0.levels.get a1).getD (⟨0,0⟩:CodeLevel)).Stack,(⟨y1.Op,y1.A,y1.B⟩:CodeIns).A,a0.CodeProg.Free,a0.CodeProg.Defs,a0.CodeProg.Code,a0.CodeProg.Main,a0.begins,a0.last,a0.levels,a0.todo))
        else
         (if ((⟨y1.Op,y1.A,y1.B⟩:CodeIns).Op)=13 then
          some (decide (((⟨y1.Op,y1.A,y1.B⟩:CodeIns).Op)=13))
         else
          some (decide (((⟨y1.Op,y1.A,y1.B⟩:CodeIns).Op)=15))).bind fun x12=>
         bif x12 then
          (qM (⟨y1.Op,y1.A,y1.B⟩:CodeIns) (⟨((a0.levels.get a1).getD (⟨0,0⟩:CodeLevel)).Stack,((a0.levels.get a1).getD (⟨0,0⟩:CodeLevel)).Slots⟩:CodeLevel)).bind fun y19=>
          match y19 with
          | Sum.inr pv15=>(some (Sum.inr pv15)).bind fun r=>some (Sum.inr r)
          | Sum.inl y19=>
          (pQ (⟨y19.Stack,y19.Slots⟩:CodeLevel)).bind fun y20=>
          match y20 with
          | Sum.inr pv16=>(some (Sum.inr pv16)).bind fun r=>some (Sum.inr r)
          | Sum.inl y20=>
          (kN (⟨(⟨a0.CodeProg.Free,a0.CodeProg.Defs,a0.CodeProg.Code,a0.CodeProg.Main⟩:CodeProg),a0.begins,a0.last,a0.levels,a0.todo⟩:Code_checker) ((⟨y1.Op,y1.A,y1.B⟩:CodeIns).B) (⟨0,y20.Slots⟩:CodeLevel)).bind fun y21=>
          match y21 with
          | Sum.inr pv17=>(some (Sum.inr pv17)).bind fun r=>some (Sum.inr r)
          | Sum.inl y21=>
          some (Sum.inl (y20.Stack,y20.Slots,y21.CodeProg.Free,y21.CodeProg.Defs,y21.CodeProg.Code,y21.CodeProg.Main,y21.begins,y21.last,y21.levels,y21.todo))
         else
          if ((⟨y1.Op,y1.A,y1.B⟩:CodeIns).Op)=14 then
           (pQ (⟨((a0.levels.get a1).getD (⟨0,0⟩:CodeLevel)).Stack,((a0.levels.get a1).getD (⟨0,0⟩:CodeLevel)).Slots⟩:CodeLevel)).bind fun y22=>
           match y22 with
           | Sum.inr pv18=>(some (Sum.inr pv18)).bind fun r=>some (Sum.inr r)
           | Sum.inl y22=>
           some (Sum.inl (y22.Stack,y22.Slots,a0.CodeProg.Free,a0.CodeProg.Defs,a0.CodeProg.Code,a0.CodeProg.Main,a0.begins,a0.last,a0.levels,a0.todo))
          else
           if ((⟨y1.Op,y1.A,y1.B⟩:CodeIns).Op)=16 then
            (pQ (⟨((a0.levels.get a1).getD (⟨0,0⟩:CodeLevel)).Stack,((a0.levels.get a1).getD (⟨0,0⟩:CodeLevel)).Slots⟩:CodeLevel)).bind fun y23=>
            match y23 with
            | Sum.inr pv19=>(some (Sum.inr pv19)).bind fun r=>some (Sum.inr r)
            | Sum.inl y23=>
            (some (Sum.inl (⟨(⟨a0.CodeProg.Free,a0.CodeProg.Defs,a0.CodeProg.Code,a0.CodeProg.Main⟩:CodeProg),a0.begins,a0.last,a0.levels,a0.todo⟩:Code_checker))).bind fun r=>some (Sum.inr r)
           else
            some (Sum.inl (((a0.levels.get a1).getD (⟨0,0⟩:CodeLevel)).Stack,((a0.levels.get a1).getD (⟨0,0⟩:CodeLevel)).Slots,a0.CodeProg.Free,a0.CodeProg.Defs,a0.CodeProg.Code,a0.CodeProg.Main,a0.begins,a0.last,a0.levels,a0.todo))).bind fun o=>match o with
 | Sum.inr r=>some r
 | Sum.inl (x1,x2,x3,x4,x5,x6,x7,x8,x9,x10)=>
 (chk (a1+1)).bind fun z3=>
 (kN (⟨(⟨x3,x4,x5,x6⟩:CodeProg),x7,x8,x9,x10⟩:Code_checker) z3 (⟨x1,x2⟩:CodeLevel)).bind fun y24=>
 match y24 with
 | Sum.inr pv20=>some (Sum.inr pv20)
 | Sum.inl y24=>
 some (Sum.inl (⟨(⟨y24.CodeProg.Free,y24.CodeProg.Defs,y24.CodeProg.Code,y24.CodeProg.Main⟩:CodeProg),y24.begins,y24.last,y24.levels,y24.todo⟩:Code_checker))
theorem aCz (fuel:Nat) (p0:Nat) (a0:Code_checker) (a1:Int) (r:Code_checker ⊕ Value) (H:sC fuel a0 a1=some r):FnE Tryz.prog 75 [fEq (.pointer (some ⟨p0,0,none⟩)),fI a1] [dP p0 a0] r (fun r=>dJ []) (fun r=>[dP p0 r]):=by
 unfold sC at H
 refine iS Tryz.func75 rfl Tryz.ntmps75 rfl (fun β=>?_)
 refine dQ (fun v1 v2 v3=>?_)
 refine aO ?_
 refine dO (fun b1 h1=>?_);subst h1
 refine aB 2 rfl (fun hc_v1=>?_)
 refine aB 3 rfl (fun hc_v3=>?_)
 refine aL ?_
 revert H;refine bs fun y1 h2 H=>?_
 apply bO (ods:=[_,_,_,_,_,_,_,_,_,_,_,_,_,_,_,_,_,_]) 18 2 6 bM rfl rfl rfl
 refine ND ?_
 refine M8 ?_
 intros
 refine M5 ?_
 intros
 refine Mo 0 rfl (aDr (zα:=(⟨0,0⟩:CodeLevel)) (k:=a1) rfl hh hh rfl uS (tC [(.int .i64 0),(.int .i64 0)])) fun _=>?_
 refine Mn 4 (fun b2=>ptr b2) (fun b2=>aA b2 73 [fI 0,fI 0,fI 0]) rfl (cR rfl qK rfl) (fun b2 u1=>?_)
 refine Mn 5 (fun b3=>ptr b3) (fun b3=>aA b3 79 [fI 0,fI 0]) rfl (cR rfl aAw rfl) (fun b3 u2=>?_)
 refine yZ (od:=od1 14 [4] true (fun b2 _=>fK) (fun b2 _=>[aA b2 73 [fI y1.Op,fI y1.A,fI y1.B]])) (p:=4) (φs':=[fI y1.Op,fI y1.A,fI y1.B]) rfl (fun _=>rfl) (fun _=>rfl) trivial rfl rfl rfl (has rfl) (has rfl) (aN (aG trivial) (aN (aG trivial) (aN (aG trivial) bZ))) (sz rfl) rfl rfl rfl (fun _=>?_)
 refine yZ (od:=od1 15 [5] true (fun b3 _=>fK) (fun b3 _=>[aA b3 79 [fI (((a0.levels.get a1).getD (⟨0,0⟩:CodeLevel)).Stack),fI (((a0.levels.get a1).getD (⟨0,0⟩:CodeLevel)).Slots)]])) (p:=5) (φs':=[fI (((a0.levels.get a1).getD (⟨0,0⟩:CodeLevel)).Stack),fI (((a0.levels.get a1).getD (⟨0,0⟩:CodeLevel)).Slots)]) rfl (fun _=>rfl) (fun _=>rfl) trivial rfl rfl rfl (has rfl) (has rfl) (aN (aG trivial) (aN (aG trivial) bZ)) (sz rfl) rfl rfl rfl (fun _=>?_)
 refine Z3 ?_
 refine aS ?_
 refine hZ (φ:=bX aH (⟨y1.Op,y1.A,y1.B⟩:CodeIns)) (v:=ptr b2) [4] (aAn aK.rfl) fz ?_
 refine gV ?_
 refine Yy (uB rfl (aE.cons hh (aE.cons hh aE.nil))) ?_
 refine Z3 ?_
 refine Yy (uB rfl (aE.cons hh aE.nil)) ?_
 revert H;refine B2 fun o1 H Hr1=>?_
 refine aT (ι:=Int × Int × Int × List ScopeDef × List CodeIns × Int × List Int × List Int × aI Int CodeLevel × List Int × Value × Nat × Value) (fun i=>o1=Sum.inl (i.1,i.2.1,i.2.2.1,i.2.2.2.1,i.2.2.2.2.1,i.2.2.2.2.2.1,i.2.2.2.2.2.2.1,i.2.2.2.2.2.2.2.1,i.2.2.2.2.2.2.2.2.1,i.2.2.2.2.2.2.2.2.2.1)) (fun i=>[(0,fEq (ptr p0)),(1,fI a1),(5,fEq (ptr b3))]) (fun i=>[aA b3 79 [fI i.1,fI i.2.1],aA p0 90 [fI i.2.2.1,fSl aF i.2.2.2.1,fSl aH i.2.2.2.2.1,fI i.2.2.2.2.2.1,fSl tI i.2.2.2.2.2.2.1,fEq i.2.2.2.2.2.2.2.2.2.2.1,fEq (.map (some i.2.2.2.2.2.2.2.2.2.2.2.1)),fEq i.2.2.2.2.2.2.2.2.2.2.2.2],bK bH (fun y=>fSt bA y) i.2.2.2.2.2.2.2.2.2.2.2.1 i.2.2.2.2.2.2.2.2.1,aD i.2.2.2.2.2.2.2.2.2.2.1 3 tI i.2.2.2.2.2.2.2.1,aD i.2.2.2.2.2.2.2.2.2.2.2.2 3 tI i.2.2.2.2.2.2.2.2.2.1]) ?_ ?_
 revert H;refine I9 (fun c1 H=>?_) fun c1 H=>?_
 revert H;refine B3 fun y2 h3 H=>?_
 rcases y2 with y2 | pv1 <;> dsimp only at H
 refine Tc (lN _ _ _ _ h3).s ?_
 refine aS ?_
 refine cW (φs':=[fI y2.Stack,fI y2.Slots]) trivial rfl rfl (has rfl) (has rfl) (aN (aG trivial) (aN (aG trivial) bZ)) (sz rfl) rfl rfl rfl ?_
 refine Z3 ?_
 refine aC [0,2,1,3,4] (by decide) ?_
 exact Tm ((y2.Stack,y2.Slots,a0.CodeProg.Free,a0.CodeProg.Defs,a0.CodeProg.Code,a0.CodeProg.Main,a0.begins,a0.last,a0.levels,a0.todo,v1,b1,v3)) (ij H)
 refine Tp (lN _ _ _ _ h3).pan ?_
 revert H;refine B2 fun r1 H e1=>?_
 cases e1;cases Hr1
 cases H
 exact bJ
 revert H;refine I5 (fun c2 H=>?_) fun c2 H=>?_
 refine Z3 ?_
 refine aS ?_
 refine mR (x:=(⟨((a0.levels.get a1).getD (⟨0,0⟩:CodeLevel)).Stack,((a0.levels.get a1).getD (⟨0,0⟩:CodeLevel)).Slots⟩:CodeLevel)) ?_
 revert H;refine bs fun y3 h4 H=>?_
 rcases y3 with y3 | pv2 <;> dsimp only at H
 refine mA trivial rfl rfl rfl (has rfl) aE.nil rfl (cb rfl) (rP b3 (⟨y1.Op,y1.A,y1.B⟩:CodeIns) (⟨((a0.levels.get a1).getD (⟨0,0⟩:CodeLevel)).Stack,((a0.levels.get a1).getD (⟨0,0⟩:CodeLevel)).Slots⟩:CodeLevel) (Sum.inl y3) h4).s rfl ?_
 refine nC ?_
 revert H;refine B3 fun y4 h5 H=>?_
 rcases y4 with y4 | pv3 <;> dsimp only at H
 refine Tc (lN _ _ _ _ h5).s ?_
 refine cW (φs':=[fI y4.Stack,fI y4.Slots]) trivial rfl rfl (has rfl) (has rfl) (aN (aG trivial) (aN (aG trivial) bZ)) (sz rfl) rfl rfl rfl ?_
 refine Z3 ?_
 refine aC [0,2,1,3,4] (by decide) ?_
 exact Tm ((y4.Stack,y4.Slots,a0.CodeProg.Free,a0.CodeProg.Defs,a0.CodeProg.Code,a0.CodeProg.Main,a0.begins,a0.last,a0.levels,a0.todo,v1,b1,v3)) (ij H)
 refine Tp (lN _ _ _ _ h5).pan ?_
 revert H;refine B2 fun r2 H e2=>?_
 cases e2;cases Hr1
 cases H
 exact bJ
 refine qZ trivial rfl (has rfl) aE.nil rfl (cb rfl) (rP b3 (⟨y1.Op,y1.A,y1.B⟩:CodeIns) (⟨((a0.levels.get a1).getD (⟨0,0⟩:CodeLevel)).Stack,((a0.levels.get a1).getD (⟨0,0⟩:CodeLevel)).Slots⟩:CodeLevel) (Sum.inr pv2) h4).pan rfl ?_
 revert H;refine B3 fun r3 H e3=>?_
 cases e3;cases Hr1
 cases H
 exact bJ
 revert H;refine B1 fun o2 H Hr2=>?_
 refine aT (ι:=Bool) (fun i=>o2=i) (fun i=>[(0,fEq (ptr p0)),(1,fI a1),(4,bX aH (⟨y1.Op,y1.A,y1.B⟩:CodeIns)),(5,fEq (ptr b3)),(6,fN 119 [bX aH (⟨y1.Op,y1.A,y1.B⟩:CodeIns),fEq (ptr b3)]),(7,fN 120 [fEq (ptr b3)]),(26,fI ((⟨y1.Op,y1.A,y1.B⟩:CodeIns).Op)),(37,aJ i)]) (fun i=>[aA p0 90 [fI a0.CodeProg.Free,fSl aF a0.CodeProg.Defs,fSl aH a0.CodeProg.Code,fI a0.CodeProg.Main,fSl tI a0.begins,fEq v1,fEq (.map (some b1)),fEq v3],aA b3 79 [fI (((a0.levels.get a1).getD (⟨0,0⟩:CodeLevel)).Stack),fI (((a0.levels.get a1).getD (⟨0,0⟩:CodeLevel)).Slots)],bK bH (fun y=>fSt bA y) b1 a0.levels,aD v1 3 tI a0.last,aD v3 3 tI a0.todo]) ?_ ?_
 revert H;refine I4 (fun c3 H=>?_) fun c3 H=>?_
 refine Z3 ?_
 refine aC [1,4,0,2,3] (by decide) ?_
 exact Tm (decide (((⟨y1.Op,y1.A,y1.B⟩:CodeIns).Op)=3)) (ij H)
 revert H;refine I5 (fun c4 H=>?_) fun c4 H=>?_
 refine Z3 ?_
 refine aC [1,4,0,2,3] (by decide) ?_
 exact Tm (decide (((⟨y1.Op,y1.A,y1.B⟩:CodeIns).Op)=4)) (ij H)
 revert H;refine I5 (fun c5 H=>?_) fun c5 H=>?_
 refine Z3 ?_
 refine aC [1,4,0,2,3] (by decide) ?_
 exact Tm (decide (((⟨y1.Op,y1.A,y1.B⟩:CodeIns).Op)=5)) (ij H)
 revert H;refine I5 (fun c6 H=>?_) fun c6 H=>?_
 refine Z3 ?_
 refine aC [1,4,0,2,3] (by decide) ?_
 exact Tm (decide (((⟨y1.Op,y1.A,y1.B⟩:CodeIns).Op)=6)) (ij H)
 refine Z5 ?_
 refine aC [1,4,0,2,3] (by decide) ?_
 exact Tm (decide (((⟨y1.Op,y1.A,y1.B⟩:CodeIns).Op)=7)) (ij H)
 clear H;intro x11 hi;subst o2;have H:=Hr2;clear Hr2;try dsimp only at H
 try dsimp only
 revert H;refine cs (fun c7 H=>?_) fun c7 H=>?_
 revert H;refine B3 fun y5 h6 H=>?_
 rcases y5 with y5 | pv4 <;> dsimp only at H
 refine Tc (lN _ _ _ _ h6).s ?_
 refine aP ?_
 refine cW (φs':=[fI y5.Stack,fI y5.Slots]) trivial rfl rfl (has rfl) (has rfl) (aN (aG trivial) (aN (aG trivial) bZ)) (sz rfl) rfl rfl rfl ?_
 refine Z3 ?_
 exact Tm ((y5.Stack,y5.Slots,a0.CodeProg.Free,a0.CodeProg.Defs,a0.CodeProg.Code,a0.CodeProg.Main,a0.begins,a0.last,a0.levels,a0.todo,v1,b1,v3)) (ij H)
 refine Tp (lN _ _ _ _ h6).pan ?_
 revert H;refine B2 fun r4 H e4=>?_
 cases e4;cases Hr1
 cases H
 exact bJ
 revert H;refine I5 (fun c8 H=>?_) fun c8 H=>?_
 refine Z3 ?_
 refine aP ?_
 refine mR (x:=(⟨((a0.levels.get a1).getD (⟨0,0⟩:CodeLevel)).Stack,((a0.levels.get a1).getD (⟨0,0⟩:CodeLevel)).Slots⟩:CodeLevel)) ?_
 revert H;refine bs fun y6 h7 H=>?_
 rcases y6 with y6 | pv5 <;> dsimp only at H
 refine mA trivial rfl rfl rfl (has rfl) aE.nil rfl (cb rfl) (rP b3 (⟨y1.Op,y1.A,y1.B⟩:CodeIns) (⟨((a0.levels.get a1).getD (⟨0,0⟩:CodeLevel)).Stack,((a0.levels.get a1).getD (⟨0,0⟩:CodeLevel)).Slots⟩:CodeLevel) (Sum.inl y6) h7).s rfl ?_
 refine nC ?_
 revert H;refine B5 fun y7 h8 H=>?_
 rcases y7 with y7 | pv6 <;> dsimp only at H
 refine Tc (lN _ _ _ _ h8).s ?_
 refine cW (φs':=[fI y7.Stack,fI y7.Slots]) trivial rfl rfl (has rfl) (has rfl) (aN (aG trivial) (aN (aG trivial) bZ)) (sz rfl) rfl rfl rfl ?_
 refine Z3 ?_
 exact Tm ((y7.Stack,y7.Slots,a0.CodeProg.Free,a0.CodeProg.Defs,a0.CodeProg.Code,a0.CodeProg.Main,a0.begins,a0.last,a0.levels,a0.todo,v1,b1,v3)) (ij H)
 refine Tp (lN _ _ _ _ h8).pan ?_
 revert H;refine B2 fun r5 H e5=>?_
 cases e5;cases Hr1
 cases H
 exact bJ
 refine qZ trivial rfl (has rfl) aE.nil rfl (cb rfl) (rP b3 (⟨y1.Op,y1.A,y1.B⟩:CodeIns) (⟨((a0.levels.get a1).getD (⟨0,0⟩:CodeLevel)).Stack,((a0.levels.get a1).getD (⟨0,0⟩:CodeLevel)).Slots⟩:CodeLevel) (Sum.inr pv5) h7).pan rfl ?_
 revert H;refine B3 fun r6 H e6=>?_
 cases e6;cases Hr1
 cases H
 exact bJ
 revert H;refine I5 (fun c9 H=>?_) fun c9 H=>?_
 revert H;refine B3 fun y8 h9 H=>?_
 rcases y8 with y8 | pv7 <;> dsimp only at H
 refine Tc (lN _ _ _ _ h9).s ?_
 refine aP ?_
 refine cW (φs':=[fI y8.Stack,fI y8.Slots]) trivial rfl rfl (has rfl) (has rfl) (aN (aG trivial) (aN (aG trivial) bZ)) (sz rfl) rfl rfl rfl ?_
 refine Z1 ?_
 refine aL ?_
 revert H;refine bs fun y9 h10 H=>?_
 apply bO (ods:=[_,_,_,_,_,_,_,_,_,_]) 10 0 5 bM rfl rfl rfl
 refine ND ?_
 refine M8 ?_
 intros
 refine Mo 3 rfl (kK rfl rfl hh (sc rfl) (cU h10) rfl) fun _=>?_
 refine M1 ?_
 intros
 revert H;refine B1 fun y10 h11 H=>?_
 rcases y10 with y10 | pv8 <;> dsimp only at H
 refine Tc (aW _ _ h11).s ?_
 refine Z6 ?_
 refine aO ?_
 refine dA ?_
 refine aS ?_
 refine aP ?_
 refine aS ?_
 refine aS ?_
 refine cY (x:=(⟨(⟨a0.CodeProg.Free,a0.CodeProg.Defs,a0.CodeProg.Code,a0.CodeProg.Main⟩:CodeProg),a0.begins,a0.last,a0.levels,a0.todo⟩:Code_checker)) ?_
 revert H;refine bs fun y11 h12 H=>?_
 rcases y11 with y11 | pv9 <;> dsimp only at H
 refine Tc (iL _ _ _ _ _ h12).s ?_
 refine dQ (fun v6 v7 v8=>?_)
 refine aO ?_
 refine dO (fun b5 h13=>?_);subst h13
 refine aB 2 rfl (fun hc_v6=>?_)
 refine aB 3 rfl (fun hc_v8=>?_)
 refine Z3 ?_
 refine aC [4,1,0,2,3] (by decide) ?_
 exact Tm ((y8.Stack,y8.Slots,y11.CodeProg.Free,y11.CodeProg.Defs,y11.CodeProg.Code,y11.CodeProg.Main,y11.begins,y11.last,y11.levels,y11.todo,v6,b5,v8)) (ij H)
 refine Tp (iL _ _ _ _ _ h12).pan ?_
 revert H;refine B2 fun r7 H e7=>?_
 cases e7;cases Hr1
 cases H
 exact bJ
 refine Tp (aW _ _ h11).pan ?_
 revert H;refine B3 fun r8 H e8=>?_
 cases e8;cases Hr1
 cases H
 exact bJ
 exact fk
 kernel_rfl
 refine Tp (lN _ _ _ _ h9).pan ?_
 revert H;refine B3 fun r9 H e9=>?_
 cases e9;cases Hr1
 cases H
 exact bJ
 revert H;refine I5 (fun c10 H=>?_) fun c10 H=>?_
 refine Z1 ?_
 refine aL ?_
 revert H;refine bs fun y12 h14 H=>?_
 apply bO (ods:=[_,_,_,_,_,_,_,_,_,_]) 10 0 5 bM rfl rfl rfl
 refine ND ?_
 refine M8 ?_
 intros
 refine Mo 3 rfl (kK rfl rfl hh (sc rfl) (cU h14) rfl) fun _=>?_
 refine M1 ?_
 intros
 revert H;refine B1 fun y13 h15 H=>?_
 rcases y13 with y13 | pv10 <;> dsimp only at H
 refine Tc (aW _ _ h15).s ?_
 refine Z6 ?_
 refine aO ?_
 refine dA ?_
 refine aS ?_
 refine aP ?_
 refine aS ?_
 refine bC ?_
 refine cY (x:=(⟨(⟨a0.CodeProg.Free,a0.CodeProg.Defs,a0.CodeProg.Code,a0.CodeProg.Main⟩:CodeProg),a0.begins,a0.last,a0.levels,a0.todo⟩:Code_checker)) ?_
 revert H;refine bs fun y14 h16 H=>?_
 rcases y14 with y14 | pv11 <;> dsimp only at H
 refine Tc (iL _ _ _ _ _ h16).s ?_
 refine dQ (fun v9 v10 v11=>?_)
 refine aO ?_
 refine dO (fun b6 h17=>?_);subst h17
 refine aB 2 rfl (fun hc_v9=>?_)
 refine aB 3 rfl (fun hc_v11=>?_)
 revert H;refine B4 fun r10 H e10=>?_
 cases e10;cases Hr1
 refine dA ?_
 refine bC ?_
 refine aP ?_
 refine bC ?_
 refine bC ?_
 refine cY (x:=(⟨(⟨y14.CodeProg.Free,y14.CodeProg.Defs,y14.CodeProg.Code,y14.CodeProg.Main⟩:CodeProg),y14.begins,y14.last,y14.levels,y14.todo⟩:Code_checker)) ?_
 cases H
 refine gP ?_
 refine aC [0] (by decide) ?_
 exact cJ (.inl rfl) rfl rfl
 refine Tp (iL _ _ _ _ _ h16).pan ?_
 revert H;refine B3 fun r11 H e11=>?_
 cases e11;cases Hr1
 cases H
 exact bJ
 refine Tp (aW _ _ h15).pan ?_
 revert H;refine B3 fun r12 H e12=>?_
 cases e12;cases Hr1
 cases H
 exact bJ
 exact fk
 kernel_rfl
 revert H;refine I5 (fun c11 H=>?_) fun c11 H=>?_
 refine Z3 ?_
 refine aP ?_
 refine mR (x:=(⟨((a0.levels.get a1).getD (⟨0,0⟩:CodeLevel)).Stack,((a0.levels.get a1).getD (⟨0,0⟩:CodeLevel)).Slots⟩:CodeLevel)) ?_
 revert H;refine bs fun y15 h18 H=>?_
 rcases y15 with y15 | pv12 <;> dsimp only at H
 refine mA trivial rfl rfl rfl (has rfl) aE.nil rfl (cb rfl) (oG b3 (⟨((a0.levels.get a1).getD (⟨0,0⟩:CodeLevel)).Stack,((a0.levels.get a1).getD (⟨0,0⟩:CodeLevel)).Slots⟩:CodeLevel) (Sum.inl y15) h18).s rfl ?_
 refine nC ?_
 refine Z1 ?_
 refine aL ?_
 revert H;refine bs fun y16 h19 H=>?_
 apply bO (ods:=[_,_,_,_,_,_,_,_,_,_,_]) 11 1 6 bM rfl rfl rfl
 refine ND ?_
 refine M8 ?_
 intros
 refine M1 ?_
 intros
 refine Mn 5 (fun b7=>ptr b7) (fun b7=>aA b7 63 [fEq (.slice none 0 0),fEq (.slice none 0 0),fEq (.slice none 0 0)]) rfl (cR rfl tY rfl) (fun b7 u3=>?_)
 refine yZ (od:=od1 9 [5] true (fun b7 _=>fK) (fun b7 _=>[aA b7 63 [fSl bG y16.Chans,fSl bQ y16.Spots,fSl bR y16.Rules]])) (p:=5) (φs':=[fSl bG y16.Chans,fSl bQ y16.Spots,fSl bR y16.Rules]) rfl (fun _=>rfl) (fun _=>rfl) trivial rfl rfl rfl (has rfl) (has rfl) (aN (dF) (aN (dF) (aN (dF) bZ))) (sz rfl) rfl rfl rfl (fun _=>?_)
 revert H;refine B11 fun z1 h20 H=>?_
 revert H;refine B1 fun z2 h21 H=>?_
 refine Z2 ?_
 refine bW (φs':=[fI y15.Stack,fI z2]) trivial rfl rfl (has rfl) (has rfl) (aG trivial) (sz rfl) rfl rfl ?_
 refine Z6 ?_
 refine aO ?_
 refine dA ?_
 refine aS ?_
 refine aP ?_
 refine aS ?_
 refine aS ?_
 refine cY (x:=(⟨(⟨a0.CodeProg.Free,a0.CodeProg.Defs,a0.CodeProg.Code,a0.CodeProg.Main⟩:CodeProg),a0.begins,a0.last,a0.levels,a0.todo⟩:Code_checker)) ?_
 revert H;refine bs fun y17 h22 H=>?_
 rcases y17 with y17 | pv13 <;> dsimp only at H
 refine Tc (aCd _ _ _ _ _ _ h22).s ?_
 refine dQ (fun v12 v13 v14=>?_)
 refine aO ?_
 refine dO (fun b8 h23=>?_);subst h23
 refine aB 2 rfl (fun hc_v12=>?_)
 refine aB 3 rfl (fun hc_v14=>?_)
 refine Z3 ?_
 refine aC [4,1,0,2,3] (by decide) ?_
 exact Tm ((y15.Stack,z2,y17.CodeProg.Free,y17.CodeProg.Defs,y17.CodeProg.Code,y17.CodeProg.Main,y17.begins,y17.last,y17.levels,y17.todo,v12,b8,v14)) (ij H)
 refine Tp (aCd _ _ _ _ _ _ h22).pan ?_
 revert H;refine B2 fun r13 H e13=>?_
 cases e13;cases Hr1
 cases H
 exact bJ
 exact fk
 kernel_rfl
 refine qZ trivial rfl (has rfl) aE.nil rfl (cb rfl) (oG b3 (⟨((a0.levels.get a1).getD (⟨0,0⟩:CodeLevel)).Stack,((a0.levels.get a1).getD (⟨0,0⟩:CodeLevel)).Slots⟩:CodeLevel) (Sum.inr pv12) h18).pan rfl ?_
 revert H;refine B3 fun r14 H e14=>?_
 cases e14;cases Hr1
 cases H
 exact bJ
 revert H;refine I5 (fun c12 H=>?_) fun c12 H=>?_
 revert H;refine B7 fun y18 h24 H=>?_
 rcases y18 with y18 | pv14 <;> dsimp only at H
 refine Tc (aW _ _ h24).s ?_
 refine Z5 ?_
 refine aP ?_
 refine bW (φs':=[fI (((a0.levels.get a1).getD (⟨0,0⟩:CodeLevel)).Stack),fI ((⟨y1.Op,y1.A,y1.B⟩:CodeIns).A)]) trivial rfl rfl (has rfl) (has rfl) (aG trivial) (sz rfl) rfl rfl ?_
 refine Z3 ?_
 exact Tm ((((a0.levels.get a1).getD (⟨0,0⟩:CodeLevel)).Stack,(⟨y1.Op,y1.A,y1.B⟩:CodeIns).A,a0.CodeProg.Free,a0.CodeProg.Defs,a0.CodeProg.Code,a0.CodeProg.Main,a0.begins,a0.last,a0.levels,a0.todo,v1,b1,v3)) (ij H)
 refine Tp (aW _ _ h24).pan ?_
 revert H;refine B3 fun r15 H e15=>?_
 cases e15;cases Hr1
 cases H
 exact bJ
 revert H;refine B1 fun o3 H Hr3=>?_
 refine aT (ι:=Bool) (fun i=>o3=i) (fun i=>[(0,fEq (ptr p0)),(1,fI a1),(4,bX aH (⟨y1.Op,y1.A,y1.B⟩:CodeIns)),(5,fEq (ptr b3)),(6,fN 119 [bX aH (⟨y1.Op,y1.A,y1.B⟩:CodeIns),fEq (ptr b3)]),(7,fN 120 [fEq (ptr b3)]),(26,fI ((⟨y1.Op,y1.A,y1.B⟩:CodeIns).Op)),(131,aJ i)]) (fun i=>[aA p0 90 [fI a0.CodeProg.Free,fSl aF a0.CodeProg.Defs,fSl aH a0.CodeProg.Code,fI a0.CodeProg.Main,fSl tI a0.begins,fEq v1,fEq (.map (some b1)),fEq v3],aA b3 79 [fI (((a0.levels.get a1).getD (⟨0,0⟩:CodeLevel)).Stack),fI (((a0.levels.get a1).getD (⟨0,0⟩:CodeLevel)).Slots)],bK bH (fun y=>fSt bA y) b1 a0.levels,aD v1 3 tI a0.last,aD v3 3 tI a0.todo]) ?_ ?_
 revert H;refine I4 (fun c13 H=>?_) fun c13 H=>?_
 refine Z3 ?_
 exact Tm (decide (((⟨y1.Op,y1.A,y1.B⟩:CodeIns).Op)=13)) (ij H)
 refine Z5 ?_
 exact Tm (decide (((⟨y1.Op,y1.A,y1.B⟩:CodeIns).Op)=15)) (ij H)
 clear H;intro x12 hi;subst o3;have H:=Hr3;clear Hr3;try dsimp only at H
 try dsimp only
 revert H;refine cs (fun c14 H=>?_) fun c14 H=>?_
 refine Z3 ?_
 refine aP ?_
 refine mR (x:=(⟨((a0.levels.get a1).getD (⟨0,0⟩:CodeLevel)).Stack,((a0.levels.get a1).getD (⟨0,0⟩:CodeLevel)).Slots⟩:CodeLevel)) ?_
 revert H;refine bs fun y19 h25 H=>?_
 rcases y19 with y19 | pv15 <;> dsimp only at H
 refine mA trivial rfl rfl rfl (has rfl) aE.nil rfl (cb rfl) (rP b3 (⟨y1.Op,y1.A,y1.B⟩:CodeIns) (⟨((a0.levels.get a1).getD (⟨0,0⟩:CodeLevel)).Stack,((a0.levels.get a1).getD (⟨0,0⟩:CodeLevel)).Slots⟩:CodeLevel) (Sum.inl y19) h25).s rfl ?_
 refine nC ?_
 refine Z3 ?_
 refine mR (x:=(⟨y19.Stack,y19.Slots⟩:CodeLevel)) ?_
 revert H;refine bs fun y20 h26 H=>?_
 rcases y20 with y20 | pv16 <;> dsimp only at H
 refine mA trivial rfl rfl rfl (has rfl) aE.nil rfl (cb rfl) (oG b3 (⟨y19.Stack,y19.Slots⟩:CodeLevel) (Sum.inl y20) h26).s rfl ?_
 refine nC ?_
 refine Z7 ?_
 refine Yy (eS (ψs:=[fI 0,fI y20.Slots]) rfl pM rfl (aZ.cons (has rfl) (bY (aG trivial)) aZ.nil) rfl) ?_
 refine aO ?_
 refine dA ?_
 refine aS ?_
 refine aP ?_
 refine aS ?_
 refine aS ?_
 refine cY (x:=(⟨(⟨a0.CodeProg.Free,a0.CodeProg.Defs,a0.CodeProg.Code,a0.CodeProg.Main⟩:CodeProg),a0.begins,a0.last,a0.levels,a0.todo⟩:Code_checker)) ?_
 revert H;refine bs fun y21 h27 H=>?_
 rcases y21 with y21 | pv17 <;> dsimp only at H
 refine Tc (iL _ _ _ _ _ h27).s ?_
 refine dQ (fun v15 v16 v17=>?_)
 refine aO ?_
 refine dO (fun b9 h28=>?_);subst h28
 refine aB 2 rfl (fun hc_v15=>?_)
 refine aB 3 rfl (fun hc_v17=>?_)
 refine Z3 ?_
 refine aC [4,1,0,2,3] (by decide) ?_
 exact Tm ((y20.Stack,y20.Slots,y21.CodeProg.Free,y21.CodeProg.Defs,y21.CodeProg.Code,y21.CodeProg.Main,y21.begins,y21.last,y21.levels,y21.todo,v15,b9,v17)) (ij H)
 refine Tp (iL _ _ _ _ _ h27).pan ?_
 revert H;refine B2 fun r16 H e16=>?_
 cases e16;cases Hr1
 cases H
 exact bJ
 refine qZ trivial rfl (has rfl) aE.nil rfl (cb rfl) (oG b3 (⟨y19.Stack,y19.Slots⟩:CodeLevel) (Sum.inr pv16) h26).pan rfl ?_
 revert H;refine B3 fun r17 H e17=>?_
 cases e17;cases Hr1
 cases H
 exact bJ
 refine qZ trivial rfl (has rfl) aE.nil rfl (cb rfl) (rP b3 (⟨y1.Op,y1.A,y1.B⟩:CodeIns) (⟨((a0.levels.get a1).getD (⟨0,0⟩:CodeLevel)).Stack,((a0.levels.get a1).getD (⟨0,0⟩:CodeLevel)).Slots⟩:CodeLevel) (Sum.inr pv15) h25).pan rfl ?_
 revert H;refine B3 fun r18 H e18=>?_
 cases e18;cases Hr1
 cases H
 exact bJ
 revert H;refine I5 (fun c15 H=>?_) fun c15 H=>?_
 refine Z3 ?_
 refine aP ?_
 refine mR (x:=(⟨((a0.levels.get a1).getD (⟨0,0⟩:CodeLevel)).Stack,((a0.levels.get a1).getD (⟨0,0⟩:CodeLevel)).Slots⟩:CodeLevel)) ?_
 revert H;refine bs fun y22 h29 H=>?_
 rcases y22 with y22 | pv18 <;> dsimp only at H
 refine mA trivial rfl rfl rfl (has rfl) aE.nil rfl (cb rfl) (oG b3 (⟨((a0.levels.get a1).getD (⟨0,0⟩:CodeLevel)).Stack,((a0.levels.get a1).getD (⟨0,0⟩:CodeLevel)).Slots⟩:CodeLevel) (Sum.inl y22) h29).s rfl ?_
 refine nC ?_
 refine Z3 ?_
 exact Tm ((y22.Stack,y22.Slots,a0.CodeProg.Free,a0.CodeProg.Defs,a0.CodeProg.Code,a0.CodeProg.Main,a0.begins,a0.last,a0.levels,a0.todo,v1,b1,v3)) (ij H)
 refine qZ trivial rfl (has rfl) aE.nil rfl (cb rfl) (oG b3 (⟨((a0.levels.get a1).getD (⟨0,0⟩:CodeLevel)).Stack,((a0.levels.get a1).getD (⟨0,0⟩:CodeLevel)).Slots⟩:CodeLevel) (Sum.inr pv18) h29).pan rfl ?_
 revert H;refine B2 fun r19 H e19=>?_
 cases e19;cases Hr1
 cases H
 exact bJ
 revert H;refine I5 (fun c16 H=>?_) fun c16 H=>?_
 refine Z3 ?_
 refine aP ?_
 refine mR (x:=(⟨((a0.levels.get a1).getD (⟨0,0⟩:CodeLevel)).Stack,((a0.levels.get a1).getD (⟨0,0⟩:CodeLevel)).Slots⟩:CodeLevel)) ?_
 revert H;refine bs fun y23 h30 H=>?_
 rcases y23 with y23 | pv19 <;> dsimp only at H
 refine mA trivial rfl rfl rfl (has rfl) aE.nil rfl (cb rfl) (oG b3 (⟨((a0.levels.get a1).getD (⟨0,0⟩:CodeLevel)).Stack,((a0.levels.get a1).getD (⟨0,0⟩:CodeLevel)).Slots⟩:CodeLevel) (Sum.inl y23) h30).s rfl ?_
 refine nC ?_
 revert H;refine B4 fun r20 H e20=>?_
 cases e20;cases Hr1
 refine aO ?_
 refine dA ?_
 refine aS ?_
 refine aP ?_
 refine aS ?_
 refine aS ?_
 refine cY (x:=(⟨(⟨a0.CodeProg.Free,a0.CodeProg.Defs,a0.CodeProg.Code,a0.CodeProg.Main⟩:CodeProg),a0.begins,a0.last,a0.levels,a0.todo⟩:Code_checker)) ?_
 cases H
 refine gP ?_
 refine aC [0] (by decide) ?_
 exact cJ (.inl rfl) rfl rfl
 refine qZ trivial rfl (has rfl) aE.nil rfl (cb rfl) (oG b3 (⟨((a0.levels.get a1).getD (⟨0,0⟩:CodeLevel)).Stack,((a0.levels.get a1).getD (⟨0,0⟩:CodeLevel)).Slots⟩:CodeLevel) (Sum.inr pv19) h30).pan rfl ?_
 revert H;refine B3 fun r21 H e21=>?_
 cases e21;cases Hr1
 cases H
 exact bJ
 refine Z4 ?_
 refine aC [1,0,2,3,4] (by decide) ?_
 exact Tm ((((a0.levels.get a1).getD (⟨0,0⟩:CodeLevel)).Stack,((a0.levels.get a1).getD (⟨0,0⟩:CodeLevel)).Slots,a0.CodeProg.Free,a0.CodeProg.Defs,a0.CodeProg.Code,a0.CodeProg.Main,a0.begins,a0.last,a0.levels,a0.todo,v1,b1,v3)) (ij H)
 clear H;intro i hi;obtain⟨x1,x2,x3,x4,x5,x6,x7,x8,x9,x10,v4,b4,v5⟩:=i;subst o1;have H:=Hr1;clear Hr1;try dsimp only at H
 try dsimp only
 refine aB 3 rfl (fun hc_v4=>?_)
 refine aB 4 rfl (fun hc_v5=>?_)
 revert H;refine B3 fun z3 h31 H=>?_
 refine Z2 ?_
 refine aO ?_
 refine dA ?_
 refine aS ?_
 refine aP ?_
 refine aS ?_
 refine aS ?_
 refine cY (x:=(⟨(⟨x3,x4,x5,x6⟩:CodeProg),x7,x8,x9,x10⟩:Code_checker)) ?_
 revert H;refine bs fun y24 h32 H=>?_
 rcases y24 with y24 | pv20 <;> dsimp only at H
 refine Tc (iL _ _ _ _ _ h32).s ?_
 refine dQ (fun v18 v19 v20=>?_)
 refine aO ?_
 refine dO (fun b10 h33=>?_);subst h33
 refine aB 2 rfl (fun hc_v18=>?_)
 refine aB 3 rfl (fun hc_v20=>?_)
 refine Z1 ?_
 refine dA ?_
 refine bC ?_
 refine aP ?_
 refine bC ?_
 refine bC ?_
 refine cY (x:=(⟨(⟨y24.CodeProg.Free,y24.CodeProg.Defs,y24.CodeProg.Code,y24.CodeProg.Main⟩:CodeProg),y24.begins,y24.last,y24.levels,y24.todo⟩:Code_checker)) ?_
 cases H
 refine gP ?_
 refine aC [0] (by decide) ?_
 exact cJ (.inr rfl) rfl rfl
 refine Tp (iL _ _ _ _ _ h32).pan ?_
 cases H
 exact bJ
 exact fk
 kernel_rfl
open Go.SX Go.SW Go.Dt
theorem aGu (p0 p1:Nat) (φ0 φ1:Fact):FnD Tryz.prog 68 [fEq (ptr p0),fEq (ptr p1)] [aA p0 85 [φ0],aA p1 4 [φ1]] (.returning) [aA p0 85 [φ0],aA p1 4 [φ1]]:=by
 refine zU Tryz.func68 rfl Tryz.ntmps68 rfl (fun β c₀ cs hc=>?_)
 refine aEu (v:= .nilIface) (cs':=c₀ :: cs) (by simp [recoverD,hc]) rfl rfl rfl rfl ?_
 refine T_inS ?_
 refine Z2 ?_
 refine Yy (aDE rfl hh zF (rfl:oA _=some true)) ?_
 refine Z6 ?_
 exact zO (u':= .returning) (.inr rfl) rfl (by cases c₀;cases hc;rfl) rfl rfl
theorem jO (p0 p1:Nat) (φ0 φ1:Fact):FnD Tryz.prog 68 [fEq (ptr p0),fEq (ptr p1)] [aA p0 85 [φ0],aA p1 4 [φ1]] (.panicking [{ v:=(.iface 163 (.agg #[])),recovered:=false }]) [aA p0 85 [fEq (Go.Value.pointer Option.none)],aA p1 4 [aJ false]]:=by
 refine zU Tryz.func68 rfl Tryz.ntmps68 rfl (fun β c₀ cs hc=>?_)
 refine aEu (v:=(.iface 163 (.agg #[]))) (cs':={ c₀ with mode:= .panicking [{ v:=(.iface 163 (.agg #[])),recovered:=true }] } :: cs) (by simp [recoverD,hc]) rfl rfl rfl rfl ?_
 refine T_inS ?_
 refine Z2 ?_
 refine Yy (aDE rfl hh zF (rfl:oA _=some false)) ?_
 refine Z3 ?_
 refine Yy (aHA rfl hh aCF aHx) ?_
 refine Z2 ?_
 refine pX 10 rfl (tC []) ?_
 refine Z3 ?_
 refine Tn (cR rfl aHp rfl) fun b1=>?_
 refine cW (φs':=[]) trivial rfl rfl hh hh bZ (sz rfl) rfl rfl rfl ?_
 refine Z2 ?_
 refine aP ?_
 refine bW (φs':=[fEq (Go.Value.pointer Option.none)]) trivial rfl rfl (has rfl) (has rfl) (aG trivial) (sz rfl) rfl rfl ?_
 refine aO ?_
 refine bW (φs':=[aJ false]) trivial rfl rfl (has rfl) (has rfl) (aG trivial) (sz rfl) rfl rfl ?_
 refine Z2 ?_
 refine aC [1,0] (by decide) ?_
 exact zO (u':= .panicking [{ v:=(.iface 163 (.agg #[])),recovered:=true }]) (.inr rfl) rfl rfl rfl rfl
def nQ (fuel:Nat) (a0:CodeProg):Nat → Int → Int → (List ScopeDef) → (List CodeIns) → Int → (List Int) → (List Int) → (aI Int CodeLevel) → (List Int) → Option ((Int × List ScopeDef × List CodeIns × Int × List Int × List Int × aI Int CodeLevel × List Int) ⊕ ((Option Code_checker) × Bool))
| 0,_,_,_,_,_,_,_,_,_=>none
| k+1,x26,x27,x28,x29,x30,x31,x32,x33,x34=>
 if x26<(a0.Defs.length:Int)then
  (idx a0.Defs x26).bind fun y8=>
  (vZ fuel (⟨(⟨x27,x28,x29,x30⟩:CodeProg),x31,x32,x33,x34⟩:Code_checker) (⟨y8.Chans,y8.Spots,y8.Rules⟩:ScopeDef)).bind fun y9=>
  match y9 with
  | Sum.inr pv7=>((unW 163 pv7).bind fun e14=>some (none,false)).bind fun r=>some (Sum.inr r)
  | Sum.inl y9=>
  (chk (x26+1)).bind fun z1=>
  nQ fuel a0 k z1 y9.CodeProg.Free y9.CodeProg.Defs y9.CodeProg.Code y9.CodeProg.Main y9.begins y9.last y9.levels y9.todo
 else
  some (Sum.inl (x27,x28,x29,x30,x31,x32,x33,x34))
def jK (fuel:Nat):Nat → Int → (List ScopeDef) → (List CodeIns) → Int → (List Int) → (List Int) → (aI Int CodeLevel) → (List Int) → Option ((Int × List ScopeDef × List CodeIns × Int × List Int × List Int × aI Int CodeLevel × List Int) ⊕ ((Option Code_checker) × Bool))
| 0,_,_,_,_,_,_,_,_=>none
| k+1,x51,x52,x53,x54,x55,x56,x57,x58=>
 if 0<(x58.length:Int)then
  (chk ((x58.length:Int) - 1)).bind fun z2=>
  (idx x58 z2).bind fun y13=>
  (chk ((x58.length:Int) - 1)).bind fun z3=>
  (slc x58 0 z3).bind fun y14=>
  (sC fuel (⟨(⟨x51,x52,x53,x54⟩:CodeProg),x55,x56,x57,y14⟩:Code_checker) y13).bind fun y15=>
  match y15 with
  | Sum.inr pv11=>((unW 163 pv11).bind fun e16=>some (none,false)).bind fun r=>some (Sum.inr r)
  | Sum.inl y15=>
  jK fuel k y15.CodeProg.Free y15.CodeProg.Defs y15.CodeProg.Code y15.CodeProg.Main y15.begins y15.last y15.levels y15.todo
 else
  some (Sum.inl (x51,x52,x53,x54,x55,x56,x57,x58))
def fE (fuel:Nat) (a0:CodeProg):Option ((Option Code_checker) × Bool):=
 (if 0 ≤ a0.Free then
  if a0.Free ≤ 12 then
   if (a0.Defs.length:Int) ≤ 12 then
    if 0<(a0.Code.length:Int)then
     if (a0.Code.length:Int) ≤ 12000 then
      (kU (⟨(⟨a0.Free,a0.Defs,a0.Code,a0.Main⟩:CodeProg),[],[],(aI.none:aI Int CodeLevel),[]⟩:Code_checker) a0.Main).bind fun y1=>
      (bU y1.2).bind fun y2=>
      match y2 with
      | Sum.inr pv1=>((unW 163 pv1).bind fun e2=>some (none,false)).bind fun r=>some (Sum.inr r)
      | Sum.inl y2=>
      some (Sum.inl (y1.1.CodeProg.Free,y1.1.CodeProg.Defs,y1.1.CodeProg.Code,y1.1.CodeProg.Main,y1.1.begins,y1.1.last,y1.1.levels,y1.1.todo))
     else
      (bU false).bind fun y3=>
      match y3 with
      | Sum.inr pv2=>((unW 163 pv2).bind fun e4=>some (none,false)).bind fun r=>some (Sum.inr r)
      | Sum.inl y3=>
      some (Sum.inl (a0.Free,a0.Defs,a0.Code,a0.Main,[],[],(aI.none:aI Int CodeLevel),[]))
    else
     (bU false).bind fun y4=>
     match y4 with
     | Sum.inr pv3=>((unW 163 pv3).bind fun e6=>some (none,false)).bind fun r=>some (Sum.inr r)
     | Sum.inl y4=>
     some (Sum.inl (a0.Free,a0.Defs,a0.Code,a0.Main,[],[],(aI.none:aI Int CodeLevel),[]))
   else
    (bU false).bind fun y5=>
    match y5 with
    | Sum.inr pv4=>((unW 163 pv4).bind fun e8=>some (none,false)).bind fun r=>some (Sum.inr r)
    | Sum.inl y5=>
    some (Sum.inl (a0.Free,a0.Defs,a0.Code,a0.Main,[],[],(aI.none:aI Int CodeLevel),[]))
  else
   (bU false).bind fun y6=>
   match y6 with
   | Sum.inr pv5=>((unW 163 pv5).bind fun e10=>some (none,false)).bind fun r=>some (Sum.inr r)
   | Sum.inl y6=>
   some (Sum.inl (a0.Free,a0.Defs,a0.Code,a0.Main,[],[],(aI.none:aI Int CodeLevel),[]))
 else
  (bU false).bind fun y7=>
  match y7 with
  | Sum.inr pv6=>((unW 163 pv6).bind fun e12=>some (none,false)).bind fun r=>some (Sum.inr r)
  | Sum.inl y7=>
  some (Sum.inl (a0.Free,a0.Defs,a0.Code,a0.Main,[],[],(aI.none:aI Int CodeLevel),[]))).bind fun o=>match o with
 | Sum.inr r=>some r
 | Sum.inl (x1,x2,x3,x4,x5,x6,x7,x8)=>
 (nQ fuel a0 fuel 0 x1 x2 x3 x4 x5 x6 x7 x8).bind fun o=>match o with
 | Sum.inr r=>some r
 | Sum.inl (x9,x10,x11,x12,x13,x14,x15,x16)=>
 (uJ fuel (⟨(⟨x9,x10,x11,x12⟩:CodeProg),x13,x14,x15,x16⟩:Code_checker)).bind fun y10=>
 match y10 with
 | Sum.inr pv8=>(unW 163 pv8).bind fun e20=>some (none,false)
 | Sum.inl y10=>
 (lT fuel (⟨(⟨y10.CodeProg.Free,y10.CodeProg.Defs,y10.CodeProg.Code,y10.CodeProg.Main⟩:CodeProg),y10.begins,y10.last,y10.levels,y10.todo⟩:Code_checker)).bind fun y11=>
 match y11 with
 | Sum.inr pv9=>(unW 163 pv9).bind fun e19=>some (none,false)
 | Sum.inl y11=>
 (kN (⟨(⟨y11.CodeProg.Free,y11.CodeProg.Defs,y11.CodeProg.Code,y11.CodeProg.Main⟩:CodeProg),y11.begins,y11.last,y11.levels,y11.todo⟩:Code_checker) a0.Main (⟨0,a0.Free⟩:CodeLevel)).bind fun y12=>
 match y12 with
 | Sum.inr pv10=>(unW 163 pv10).bind fun e18=>some (none,false)
 | Sum.inl y12=>
 (jK fuel fuel y12.CodeProg.Free y12.CodeProg.Defs y12.CodeProg.Code y12.CodeProg.Main y12.begins y12.last y12.levels y12.todo).bind fun o=>match o with
 | Sum.inr r=>some r
 | Sum.inl (x35,x36,x37,x38,x39,x40,x41,x42)=>
 (bU (decide ((x41.size:Int)=(a0.Code.length:Int)))).bind fun y16=>
 match y16 with
 | Sum.inr pv12=>(unW 163 pv12).bind fun e17=>some (none,false)
 | Sum.inl y16=>
 some (some (⟨(⟨x35,x36,x37,x38⟩:CodeProg),x39,x40,x41,x42⟩:Code_checker),true)
theorem aFP (fuel:Nat)  (a0:CodeProg) (r:(Option Code_checker) × Bool) (H:fE fuel a0=some r):FnS Tryz.prog 31 [fSt fR a0] [] (dJ [fOpt aBt r.1,aJ r.2]) (fun _=>[]):=by
 unfold fE at H
 refine aEI Tryz.func31 rfl Tryz.ntmps31 rfl (fun β=>?_)
 refine Z1 ?_
 refine Tn (cG rfl hh bP) fun b1=>?_
 refine Tn (cR rfl ty_ze_85 rfl) fun b2=>?_
 refine Tn (cR rfl zR rfl) fun b3=>?_
 refine Z2 ?_
 refine Yy (uB rfl (aE.cons hh (aE.cons hh aE.nil))) ?_
 refine aDY (vs:=[ptr b2,ptr b3]) trivial rfl rfl (has rfl) ?_
 refine Z3 ?_
 refine Tn (aBm (fun y=>fSt bA y) bH rfl) fun b4=>?_
 refine Yy (eS (ψs:=[fI a0.Free,fSl aF a0.Defs,fSl aH a0.Code,fI a0.Main,fEq (.slice none 0 0),fEq (.slice none 0 0),fEq (.map (some b4)),fEq (.slice none 0 0)]) rfl ty_bu_90 rfl (aZ.cons (has rfl) bP (aZ.cons (has rfl) (bY (aG trivial)) aZ.nil)) rfl) ?_
 refine Tn (cG rfl hh bP) fun b5=>?_
 refine bC ?_
 refine bW (φs':=[fEq (ptr b5)]) trivial rfl rfl (has rfl) (has rfl) (aG trivial) (sz rfl) rfl rfl ?_
 revert H;refine B1 fun o1 H Hr1=>?_
 refine aT (ι:=Int × List ScopeDef × List CodeIns × Int × List Int × List Int × aI Int CodeLevel × List Int × Value × Nat × Value) (fun i=>o1=Sum.inl (i.1,i.2.1,i.2.2.1,i.2.2.2.1,i.2.2.2.2.1,i.2.2.2.2.2.1,i.2.2.2.2.2.2.1,i.2.2.2.2.2.2.2.1)) (fun i=>[(1,fEq (ptr b1)),(2,fEq (ptr b2)),(3,fEq (ptr b3))]) (fun i=>[aA b5 90 [fI i.1,fSl aF i.2.1,fSl aH i.2.2.1,fI i.2.2.2.1,fSl tI i.2.2.2.2.1,fEq i.2.2.2.2.2.2.2.2.1,fEq (.map (some i.2.2.2.2.2.2.2.2.2.1)),fEq i.2.2.2.2.2.2.2.2.2.2],aA b2 85 [fEq (ptr b5)],aA b3 4 [aJ false],aA b1 25 [fI a0.Free,fSl aF a0.Defs,fSl aH a0.Code,fI a0.Main],bK bH (fun y=>fSt bA y) i.2.2.2.2.2.2.2.2.2.1 i.2.2.2.2.2.2.1,aD i.2.2.2.2.2.2.2.2.1 3 tI i.2.2.2.2.2.1,aD i.2.2.2.2.2.2.2.2.2.2 3 tI i.2.2.2.2.2.2.2.1]) ?_ ?_
 revert H;refine I5 (fun c1 H=>?_) fun c1 H=>?_
 revert H;refine I5 (fun c2 H=>?_) fun c2 H=>?_
 revert H;refine I6 (fun c3 H=>?_) fun c3 H=>?_
 revert H;refine I6 (fun c4 H=>?_) fun c4 H=>?_
 revert H;refine I6 (fun c5 H=>?_) fun c5 H=>?_
 refine Z3 ?_
 refine eW tI 3 ?_
 refine eW tI 3 ?_
 refine bC ?_
 refine oE (ψs:=[fI (((⟨(⟨a0.Free,a0.Defs,a0.Code,a0.Main⟩:CodeProg),[],[],(aI.none:aI Int CodeLevel),[]⟩:Code_checker).CodeProg).Free),fSl aF (((⟨(⟨a0.Free,a0.Defs,a0.Code,a0.Main⟩:CodeProg),[],[],(aI.none:aI Int CodeLevel),[]⟩:Code_checker).CodeProg).Defs),fSl aH (((⟨(⟨a0.Free,a0.Defs,a0.Code,a0.Main⟩:CodeProg),[],[],(aI.none:aI Int CodeLevel),[]⟩:Code_checker).CodeProg).Code),fI (((⟨(⟨a0.Free,a0.Defs,a0.Code,a0.Main⟩:CodeProg),[],[],(aI.none:aI Int CodeLevel),[]⟩:Code_checker).CodeProg).Main),fSl tI ((⟨(⟨a0.Free,a0.Defs,a0.Code,a0.Main⟩:CodeProg),[],[],(aI.none:aI Int CodeLevel),[]⟩:Code_checker).begins),fEq (.slice none 0 0),fEq (.map (some b4)),fEq (.slice none 0 0)]) (aK.cons Ent.rfl (aK.cons Ent.rfl (aK.cons Ent.rfl (aK.cons Ent.rfl (aK.cons dK (aK.cons Ent.rfl (aK.cons Ent.rfl (aK.cons Ent.rfl aK.nil)))))))) ?_
 refine aS ?_
 refine dA ?_
 refine aO ?_
 refine aP ?_
 refine bC ?_
 refine bC ?_
 refine cY (x:=(⟨(⟨a0.Free,a0.Defs,a0.Code,a0.Main⟩:CodeProg),[],[],(aI.none:aI Int CodeLevel),[]⟩:Code_checker)) ?_
 revert H;refine bs fun y1 h1 H=>?_
 refine Tc (tZ _ _ _ _ h1) ?_
 refine dQ (fun v3 v4 v5=>?_)
 refine aO ?_
 refine dO (fun b7 h2=>?_);subst h2
 refine aB 2 rfl (fun hc_v3=>?_)
 refine aB 3 rfl (fun hc_v5=>?_)
 revert H;refine B1 fun y2 h3 H=>?_
 rcases y2 with y2 | pv1 <;> dsimp only at H
 refine Tc (aW _ _ h3).s ?_
 refine Z1 ?_
 refine aC [1,4,5,6,0,2,3] (by decide) ?_
 exact Tm ((y1.1.CodeProg.Free,y1.1.CodeProg.Defs,y1.1.CodeProg.Code,y1.1.CodeProg.Main,y1.1.begins,y1.1.last,y1.1.levels,y1.1.todo,v3,b7,v5)) (ij H)
 refine Tp (aW _ _ h3).pan ?_
 revert H;refine B1 fun r1 H e1=>?_
 cases e1;cases Hr1
 have H0:=H;clear H;obtain⟨e2,h4,H⟩:=bind_some H0;clear H0;have hv_e2:=jN h4;subst hv_e2
 cases H
 refine aC [4,5] (by decide) ?_
 exact jC (hO (vs:=[ptr b2,ptr b3]) (u:= .panicking [{ v:= .iface 163 (.agg #[]),recovered:=false }]) (by simp) (cb rfl) (jO _ _ _ _) rfl (eO rfl rfl rfl (sc rfl) (sc rfl) jQ Ent.rfl))
 revert H;refine B5 fun y3 h5 H=>?_
 rcases y3 with y3 | pv2 <;> dsimp only at H
 refine Tc (aW _ _ h5).s ?_
 refine Z1 ?_
 refine eW tI 3 ?_
 refine eW tI 3 ?_
 refine bC ?_
 refine oE (ψs:=[fI a0.Free,fSl aF a0.Defs,fSl aH a0.Code,fI a0.Main,fSl tI [],fEq (.slice none 0 0),fEq (.map (some b4)),fEq (.slice none 0 0)]) (aK.cons Ent.rfl (aK.cons Ent.rfl (aK.cons Ent.rfl (aK.cons Ent.rfl (aK.cons dK (aK.cons Ent.rfl (aK.cons Ent.rfl (aK.cons Ent.rfl aK.nil)))))))) ?_
 refine aC [0,3,5,6,4,2,1] (by decide) ?_
 exact Tm ((a0.Free,a0.Defs,a0.Code,a0.Main,[],[],(aI.none:aI Int CodeLevel),[],(.slice none 0 0),b4,(.slice none 0 0))) (ij H)
 refine Tp (aW _ _ h5).pan ?_
 revert H;refine B1 fun r2 H e3=>?_
 cases e3;cases Hr1
 have H0:=H;clear H;obtain⟨e4,h6,H⟩:=bind_some H0;clear H0;have hv_e4:=jN h6;subst hv_e4
 cases H
 refine aC [0,3] (by decide) ?_
 exact jC (hO (vs:=[ptr b2,ptr b3]) (u:= .panicking [{ v:= .iface 163 (.agg #[]),recovered:=false }]) (by simp) (cb rfl) (jO _ _ _ _) rfl (eO rfl rfl rfl (sc rfl) (sc rfl) jQ Ent.rfl))
 revert H;refine B11 fun y4 h7 H=>?_
 rcases y4 with y4 | pv3 <;> dsimp only at H
 refine Tc (aW _ _ h7).s ?_
 refine Z1 ?_
 refine eW tI 3 ?_
 refine eW tI 3 ?_
 refine bC ?_
 refine oE (ψs:=[fI a0.Free,fSl aF a0.Defs,fSl aH a0.Code,fI a0.Main,fSl tI [],fEq (.slice none 0 0),fEq (.map (some b4)),fEq (.slice none 0 0)]) (aK.cons Ent.rfl (aK.cons Ent.rfl (aK.cons Ent.rfl (aK.cons Ent.rfl (aK.cons dK (aK.cons Ent.rfl (aK.cons Ent.rfl (aK.cons Ent.rfl aK.nil)))))))) ?_
 refine aC [0,3,5,6,4,2,1] (by decide) ?_
 exact Tm ((a0.Free,a0.Defs,a0.Code,a0.Main,[],[],(aI.none:aI Int CodeLevel),[],(.slice none 0 0),b4,(.slice none 0 0))) (ij H)
 refine Tp (aW _ _ h7).pan ?_
 revert H;refine B1 fun r3 H e5=>?_
 cases e5;cases Hr1
 have H0:=H;clear H;obtain⟨e6,h8,H⟩:=bind_some H0;clear H0;have hv_e6:=jN h8;subst hv_e6
 cases H
 refine aC [0,3] (by decide) ?_
 exact jC (hO (vs:=[ptr b2,ptr b3]) (u:= .panicking [{ v:= .iface 163 (.agg #[]),recovered:=false }]) (by simp) (cb rfl) (jO _ _ _ _) rfl (eO rfl rfl rfl (sc rfl) (sc rfl) jQ Ent.rfl))
 refine Z12 ?_
 revert H;refine B5 fun y5 h9 H=>?_
 rcases y5 with y5 | pv4 <;> dsimp only at H
 refine Tc (aW _ _ h9).s ?_
 refine Z1 ?_
 refine eW tI 3 ?_
 refine eW tI 3 ?_
 refine bC ?_
 refine oE (ψs:=[fI a0.Free,fSl aF a0.Defs,fSl aH a0.Code,fI a0.Main,fSl tI [],fEq (.slice none 0 0),fEq (.map (some b4)),fEq (.slice none 0 0)]) (aK.cons Ent.rfl (aK.cons Ent.rfl (aK.cons Ent.rfl (aK.cons Ent.rfl (aK.cons dK (aK.cons Ent.rfl (aK.cons Ent.rfl (aK.cons Ent.rfl aK.nil)))))))) ?_
 refine aC [0,3,5,6,4,2,1] (by decide) ?_
 exact Tm ((a0.Free,a0.Defs,a0.Code,a0.Main,[],[],(aI.none:aI Int CodeLevel),[],(.slice none 0 0),b4,(.slice none 0 0))) (ij H)
 refine Tp (aW _ _ h9).pan ?_
 revert H;refine B1 fun r4 H e7=>?_
 cases e7;cases Hr1
 have H0:=H;clear H;obtain⟨e8,h10,H⟩:=bind_some H0;clear H0;have hv_e8:=jN h10;subst hv_e8
 cases H
 refine aC [0,3] (by decide) ?_
 exact jC (hO (vs:=[ptr b2,ptr b3]) (u:= .panicking [{ v:= .iface 163 (.agg #[]),recovered:=false }]) (by simp) (cb rfl) (jO _ _ _ _) rfl (eO rfl rfl rfl (sc rfl) (sc rfl) jQ Ent.rfl))
 refine Z12 ?_
 revert H;refine B11 fun y6 h11 H=>?_
 rcases y6 with y6 | pv5 <;> dsimp only at H
 refine Tc (aW _ _ h11).s ?_
 refine Z1 ?_
 refine eW tI 3 ?_
 refine eW tI 3 ?_
 refine bC ?_
 refine oE (ψs:=[fI a0.Free,fSl aF a0.Defs,fSl aH a0.Code,fI a0.Main,fSl tI [],fEq (.slice none 0 0),fEq (.map (some b4)),fEq (.slice none 0 0)]) (aK.cons Ent.rfl (aK.cons Ent.rfl (aK.cons Ent.rfl (aK.cons Ent.rfl (aK.cons dK (aK.cons Ent.rfl (aK.cons Ent.rfl (aK.cons Ent.rfl aK.nil)))))))) ?_
 refine aC [0,3,5,6,4,2,1] (by decide) ?_
 exact Tm ((a0.Free,a0.Defs,a0.Code,a0.Main,[],[],(aI.none:aI Int CodeLevel),[],(.slice none 0 0),b4,(.slice none 0 0))) (ij H)
 refine Tp (aW _ _ h11).pan ?_
 revert H;refine B1 fun r5 H e9=>?_
 cases e9;cases Hr1
 have H0:=H;clear H;obtain⟨e10,h12,H⟩:=bind_some H0;clear H0;have hv_e10:=jN h12;subst hv_e10
 cases H
 refine aC [0,3] (by decide) ?_
 exact jC (hO (vs:=[ptr b2,ptr b3]) (u:= .panicking [{ v:= .iface 163 (.agg #[]),recovered:=false }]) (by simp) (cb rfl) (jO _ _ _ _) rfl (eO rfl rfl rfl (sc rfl) (sc rfl) jQ Ent.rfl))
 refine Z12 ?_
 refine Z12 ?_
 revert H;refine B4 fun y7 h13 H=>?_
 rcases y7 with y7 | pv6 <;> dsimp only at H
 refine Tc (aW _ _ h13).s ?_
 refine Z1 ?_
 refine eW tI 3 ?_
 refine eW tI 3 ?_
 refine bC ?_
 refine oE (ψs:=[fI a0.Free,fSl aF a0.Defs,fSl aH a0.Code,fI a0.Main,fSl tI [],fEq (.slice none 0 0),fEq (.map (some b4)),fEq (.slice none 0 0)]) (aK.cons Ent.rfl (aK.cons Ent.rfl (aK.cons Ent.rfl (aK.cons Ent.rfl (aK.cons dK (aK.cons Ent.rfl (aK.cons Ent.rfl (aK.cons Ent.rfl aK.nil)))))))) ?_
 refine aC [0,3,5,6,4,2,1] (by decide) ?_
 exact Tm ((a0.Free,a0.Defs,a0.Code,a0.Main,[],[],(aI.none:aI Int CodeLevel),[],(.slice none 0 0),b4,(.slice none 0 0))) (ij H)
 refine Tp (aW _ _ h13).pan ?_
 revert H;refine B1 fun r6 H e11=>?_
 cases e11;cases Hr1
 have H0:=H;clear H;obtain⟨e12,h14,H⟩:=bind_some H0;clear H0;have hv_e12:=jN h14;subst hv_e12
 cases H
 refine aC [0,3] (by decide) ?_
 exact jC (hO (vs:=[ptr b2,ptr b3]) (u:= .panicking [{ v:= .iface 163 (.agg #[]),recovered:=false }]) (by simp) (cb rfl) (jO _ _ _ _) rfl (eO rfl rfl rfl (sc rfl) (sc rfl) jQ Ent.rfl))
 clear H;intro i hi;obtain⟨x1,x2,x3,x4,x5,x6,x7,x8,v1,b6,v2⟩:=i;subst o1;have H:=Hr1;clear Hr1;try dsimp only at H
 try dsimp only
 refine aB 5 rfl (fun hc_v1=>?_)
 refine aB 6 rfl (fun hc_v2=>?_)
 revert H;refine bs fun o2 H Hr2=>?_
 refine aT (ι:=Int × List ScopeDef × List CodeIns × Int × List Int × List Int × aI Int CodeLevel × List Int × Value × Nat × Value) (fun i=>o2=Sum.inl (i.1,i.2.1,i.2.2.1,i.2.2.2.1,i.2.2.2.2.1,i.2.2.2.2.2.1,i.2.2.2.2.2.2.1,i.2.2.2.2.2.2.2.1)) (fun i=>[(1,fEq (ptr b1)),(2,fEq (ptr b2)),(3,fEq (ptr b3))]) (fun i=>[aA b5 90 [fI i.1,fSl aF i.2.1,fSl aH i.2.2.1,fI i.2.2.2.1,fSl tI i.2.2.2.2.1,fEq i.2.2.2.2.2.2.2.2.1,fEq (.map (some i.2.2.2.2.2.2.2.2.2.1)),fEq i.2.2.2.2.2.2.2.2.2.2],aA b2 85 [fEq (ptr b5)],aA b3 4 [aJ false],aA b1 25 [fI a0.Free,fSl aF a0.Defs,fSl aH a0.Code,fI a0.Main],bK bH (fun y=>fSt bA y) i.2.2.2.2.2.2.2.2.2.1 i.2.2.2.2.2.2.1,aD i.2.2.2.2.2.2.2.2.1 3 tI i.2.2.2.2.2.1,aD i.2.2.2.2.2.2.2.2.2.2 3 tI i.2.2.2.2.2.2.2.1]) ?_ ?_
 refine Z7 ?_
 refine Tl (ι:=Nat × Int × Int × List ScopeDef × List CodeIns × Int × List Int × List Int × aI Int CodeLevel × List Int × Value × Nat × Value) (fun i=>nQ fuel a0 i.1 i.2.1 i.2.2.1 i.2.2.2.1 i.2.2.2.2.1 i.2.2.2.2.2.1 i.2.2.2.2.2.2.1 i.2.2.2.2.2.2.2.1 i.2.2.2.2.2.2.2.2.1 i.2.2.2.2.2.2.2.2.2.1=_) (fun i=>i.1) (fun i=>[(1,fEq (ptr b1)),(2,fEq (ptr b2)),(3,fEq (ptr b3)),(46,fSl aF a0.Defs),(47,fI (a0.Defs.length:Int)),(48,fI i.2.1)]) (fun i=>[aA b5 90 [fI i.2.2.1,fSl aF i.2.2.2.1,fSl aH i.2.2.2.2.1,fI i.2.2.2.2.2.1,fSl tI i.2.2.2.2.2.2.1,fEq i.2.2.2.2.2.2.2.2.2.2.1,fEq (.map (some i.2.2.2.2.2.2.2.2.2.2.2.1)),fEq i.2.2.2.2.2.2.2.2.2.2.2.2],aA b2 85 [fEq (ptr b5)],aA b3 4 [aJ false],aA b1 25 [fI a0.Free,fSl aF a0.Defs,fSl aH a0.Code,fI a0.Main],bK bH (fun y=>fSt bA y) i.2.2.2.2.2.2.2.2.2.2.2.1 i.2.2.2.2.2.2.2.2.1,aD i.2.2.2.2.2.2.2.2.2.2.1 3 tI i.2.2.2.2.2.2.2.1,aD i.2.2.2.2.2.2.2.2.2.2.2.2 3 tI i.2.2.2.2.2.2.2.2.2.1]) (fuel,0,x1,x2,x3,x4,x5,x6,x7,x8,v1,b6,v2) H ?_
 clear H;rintro⟨k1,x26,x27,x28,x29,x30,x31,x32,x33,x34,v10,b10,v11⟩ H
 replace H:nQ fuel a0 k1 x26 x27 x28 x29 x30 x31 x32 x33 x34=_:=H
 try dsimp only
 obtain _ | k1:=k1
 rw [nQ]at H;cases H
 rw [nQ]at H
 refine aB 5 rfl (fun hc_v10=>?_)
 refine aB 6 rfl (fun hc_v11=>?_)
 refine Z3 ?_
 refine aL ?_
 revert H;refine is (fun c6 H=>?_) fun c6 H=>?_
 refine Z3 ?_
 refine aL ?_
 revert H;refine B2 fun y8 h15 H=>?_
 refine Z2 ?_
 refine Tn (cR rfl tY rfl) fun b11=>?_
 refine cW (φs':=[fSl bG y8.Chans,fSl bQ y8.Spots,fSl bR y8.Rules]) trivial rfl rfl (has rfl) (has rfl) (aN (dF) (aN (dF) (aN (dF) bZ))) (sz rfl) rfl rfl rfl ?_
 refine Z4 ?_
 refine gE ?_
 refine dA ?_
 refine T_fr7 ?_
 refine aP ?_
 refine T_fr7 ?_
 refine aS ?_
 refine cY (x:=(⟨(⟨x27,x28,x29,x30⟩:CodeProg),x31,x32,x33,x34⟩:Code_checker)) ?_
 revert H;refine bs fun y9 h16 H=>?_
 rcases y9 with y9 | pv7 <;> dsimp only at H
 refine Tc (aEs _ _ _ _ _ h16).s ?_
 refine dQ (fun v12 v13 v14=>?_)
 refine aO ?_
 refine dO (fun b12 h17=>?_);subst h17
 refine aB 2 rfl (fun hc_v12=>?_)
 refine aB 3 rfl (fun hc_v14=>?_)
 revert H;refine B4 fun z1 h18 H=>?_
 refine Z3 ?_
 refine aC [1,5,6,7,0,2,3] (by decide) ?_
 exact Tm ((k1,z1,y9.CodeProg.Free,y9.CodeProg.Defs,y9.CodeProg.Code,y9.CodeProg.Main,y9.begins,y9.last,y9.levels,y9.todo,v12,b12,v14)) ⟨H,ls⟩
 refine Tp (aEs _ _ _ _ _ h16).pan ?_
 revert H;refine B5 fun r7 H e13=>?_
 cases e13;cases Hr2
 have H0:=H;clear H;obtain⟨e14,h19,H⟩:=bind_some H0;clear H0;have hv_e14:=jN h19;subst hv_e14
 cases H
 refine aC [1,2] (by decide) ?_
 exact jC (hO (vs:=[ptr b2,ptr b3]) (u:= .panicking [{ v:= .iface 163 (.agg #[]),recovered:=false }]) (by simp) (cb rfl) (jO _ _ _ _) rfl (eO rfl rfl rfl (sc rfl) (sc rfl) jQ Ent.rfl))
 refine Z6 ?_
 exact Tm ((x27,x28,x29,x30,x31,x32,x33,x34,v10,b10,v11)) (ij H)
 clear H;intro i hi;obtain⟨x9,x10,x11,x12,x13,x14,x15,x16,v6,b8,v7⟩:=i;subst o2;have H:=Hr2;clear Hr2;try dsimp only at H
 try dsimp only
 refine aB 5 rfl (fun hc_v6=>?_)
 refine aB 6 rfl (fun hc_v7=>?_)
 refine Z2 ?_
 refine aS ?_
 refine dA ?_
 refine qY ?_
 refine aP ?_
 refine qY ?_
 refine bC ?_
 refine cY (x:=(⟨(⟨x9,x10,x11,x12⟩:CodeProg),x13,x14,x15,x16⟩:Code_checker)) ?_
 revert H;refine bs fun y10 h20 H=>?_
 rcases y10 with y10 | pv8 <;> dsimp only at H
 refine Tc (aEO _ _ _ _ h20).s ?_
 refine dQ (fun v15 v16 v17=>?_)
 refine aO ?_
 refine dO (fun b13 h21=>?_);subst h21
 refine aB 2 rfl (fun hc_v15=>?_)
 refine aB 3 rfl (fun hc_v17=>?_)
 refine Z3 ?_
 refine dA ?_
 refine bC ?_
 refine aP ?_
 refine bC ?_
 refine bC ?_
 refine cY (x:=(⟨(⟨y10.CodeProg.Free,y10.CodeProg.Defs,y10.CodeProg.Code,y10.CodeProg.Main⟩:CodeProg),y10.begins,y10.last,y10.levels,y10.todo⟩:Code_checker)) ?_
 revert H;refine bs fun y11 h22 H=>?_
 rcases y11 with y11 | pv9 <;> dsimp only at H
 refine Tc (aEx _ _ _ _ h22).s ?_
 refine dQ (fun v18 v19 v20=>?_)
 refine aO ?_
 refine dO (fun b14 h23=>?_);subst h23
 refine aB 2 rfl (fun hc_v18=>?_)
 refine aB 3 rfl (fun hc_v20=>?_)
 refine Z7 ?_
 refine Yy (eS (ψs:=[fI 0,fI a0.Free]) rfl pM rfl (aZ.cons (has rfl) (bY (aG trivial)) aZ.nil) rfl) ?_
 refine dA ?_
 refine bC ?_
 refine aP ?_
 refine bC ?_
 refine bC ?_
 refine cY (x:=(⟨(⟨y11.CodeProg.Free,y11.CodeProg.Defs,y11.CodeProg.Code,y11.CodeProg.Main⟩:CodeProg),y11.begins,y11.last,y11.levels,y11.todo⟩:Code_checker)) ?_
 revert H;refine bs fun y12 h24 H=>?_
 rcases y12 with y12 | pv10 <;> dsimp only at H
 refine Tc (iL _ _ _ _ _ h24).s ?_
 refine dQ (fun v21 v22 v23=>?_)
 refine aO ?_
 refine dO (fun b15 h25=>?_);subst h25
 refine aB 2 rfl (fun hc_v21=>?_)
 refine aB 3 rfl (fun hc_v23=>?_)
 revert H;refine B1 fun o3 H Hr3=>?_
 refine aT (ι:=Int × List ScopeDef × List CodeIns × Int × List Int × List Int × aI Int CodeLevel × List Int × Value × Nat × Value) (fun i=>o3=Sum.inl (i.1,i.2.1,i.2.2.1,i.2.2.2.1,i.2.2.2.2.1,i.2.2.2.2.2.1,i.2.2.2.2.2.2.1,i.2.2.2.2.2.2.2.1)) (fun i=>[(1,fEq (ptr b1)),(2,fEq (ptr b2)),(3,fEq (ptr b3))]) (fun i=>[aA b5 90 [fI i.1,fSl aF i.2.1,fSl aH i.2.2.1,fI i.2.2.2.1,fSl tI i.2.2.2.2.1,fEq i.2.2.2.2.2.2.2.2.1,fEq (.map (some i.2.2.2.2.2.2.2.2.2.1)),fEq i.2.2.2.2.2.2.2.2.2.2],aA b2 85 [fEq (ptr b5)],aA b3 4 [aJ false],aA b1 25 [fI a0.Free,fSl aF a0.Defs,fSl aH a0.Code,fI a0.Main],bK bH (fun y=>fSt bA y) i.2.2.2.2.2.2.2.2.2.1 i.2.2.2.2.2.2.1,aD i.2.2.2.2.2.2.2.2.1 3 tI i.2.2.2.2.2.1,aD i.2.2.2.2.2.2.2.2.2.2 3 tI i.2.2.2.2.2.2.2.1]) ?_ ?_
 refine Z1 ?_
 refine aC [1,4,5,6,0,2,3] (by decide) ?_
 refine Tl (ι:=Nat × Int × List ScopeDef × List CodeIns × Int × List Int × List Int × aI Int CodeLevel × List Int × Value × Nat × Value) (fun i=>jK fuel i.1 i.2.1 i.2.2.1 i.2.2.2.1 i.2.2.2.2.1 i.2.2.2.2.2.1 i.2.2.2.2.2.2.1 i.2.2.2.2.2.2.2.1 i.2.2.2.2.2.2.2.2.1=_) (fun i=>i.1) (fun i=>[(1,fEq (ptr b1)),(2,fEq (ptr b2)),(3,fEq (ptr b3))]) (fun i=>[aA b5 90 [fI i.2.1,fSl aF i.2.2.1,fSl aH i.2.2.2.1,fI i.2.2.2.2.1,fSl tI i.2.2.2.2.2.1,fEq i.2.2.2.2.2.2.2.2.2.1,fEq (.map (some i.2.2.2.2.2.2.2.2.2.2.1)),fEq i.2.2.2.2.2.2.2.2.2.2.2],aA b2 85 [fEq (ptr b5)],aA b3 4 [aJ false],aA b1 25 [fI a0.Free,fSl aF a0.Defs,fSl aH a0.Code,fI a0.Main],bK bH (fun y=>fSt bA y) i.2.2.2.2.2.2.2.2.2.2.1 i.2.2.2.2.2.2.2.1,aD i.2.2.2.2.2.2.2.2.2.1 3 tI i.2.2.2.2.2.2.1,aD i.2.2.2.2.2.2.2.2.2.2.2 3 tI i.2.2.2.2.2.2.2.2.1]) (fuel,y12.CodeProg.Free,y12.CodeProg.Defs,y12.CodeProg.Code,y12.CodeProg.Main,y12.begins,y12.last,y12.levels,y12.todo,v21,b15,v23) H ?_
 clear H;rintro⟨k2,x51,x52,x53,x54,x55,x56,x57,x58,v28,b18,v29⟩ H
 replace H:jK fuel k2 x51 x52 x53 x54 x55 x56 x57 x58=_:=H
 try dsimp only
 obtain _ | k2:=k2
 rw [jK]at H;cases H
 rw [jK]at H
 refine aB 5 rfl (fun hc_v28=>?_)
 refine aB 6 rfl (fun hc_v29=>?_)
 refine aL ?_
 revert H;refine I8 (fun c7 H=>?_) fun c7 H=>?_
 refine Z4 ?_
 refine aL ?_
 revert H;refine bs fun z2 h26 H=>?_
 revert H;refine bs fun y13 h27 H=>?_
 apply bO (ods:=[_,_,_,_,_,_,_,_,_,_,_,_,_]) 13 0 7 bM rfl rfl rfl
 refine ND ?_
 refine M8 ?_
 intros
 refine M3 ?_
 intros
 refine Mo 6 rfl (kK rfl rfl hh (sc rfl) (cU h27) rfl) fun _=>?_
 refine M1 ?_
 intros
 refine Z2 ?_
 refine aL ?_
 revert H;refine bs fun z3 h28 H=>?_
 revert H;refine bs fun y14 h29 H=>?_
 apply bO (ods:=[_,_,_,_,_,_,_,_,_,_,_,_,_,_]) 14 0 7 bM rfl rfl rfl
 refine ND ?_
 refine M8 ?_
 intros
 refine M3 ?_
 intros
 refine Mo 6 rfl (pI rfl hh hh (el rfl) h29) fun _=>?_
 refine M2 ?_
 intros
 refine Z1 ?_
 refine qY ?_
 refine oK 96 rfl h29 (fun v30=>?_)
 refine aB 0 rfl (fun hc_v30=>?_)
 refine aP ?_
 refine bW (φs':=[fI x51,fSl aF x52,fSl aH x53,fI x54,fSl tI x55,fEq v28,fEq (.map (some b18)),fEq v30]) trivial rfl rfl (has rfl) (has rfl) (aG hc_v30) (sz rfl) rfl rfl ?_
 refine Z4 ?_
 refine gE ?_
 refine dA ?_
 refine aO ?_
 refine aP ?_
 refine qY ?_
 refine bC ?_
 refine cY (x:=(⟨(⟨x51,x52,x53,x54⟩:CodeProg),x55,x56,x57,y14⟩:Code_checker)) ?_
 revert H;refine bs fun y15 h30 H=>?_
 rcases y15 with y15 | pv11 <;> dsimp only at H
 refine Tc (aCz _ _ _ _ _ h30).s ?_
 refine dQ (fun v31 v32 v33=>?_)
 refine aO ?_
 refine dO (fun b19 h31=>?_);subst h31
 refine aB 2 rfl (fun hc_v31=>?_)
 refine aB 3 rfl (fun hc_v33=>?_)
 refine Z3 ?_
 refine aC [1,4,5,6,0,2,3] (by decide) ?_
 exact Tm ((k2,y15.CodeProg.Free,y15.CodeProg.Defs,y15.CodeProg.Code,y15.CodeProg.Main,y15.begins,y15.last,y15.levels,y15.todo,v31,b19,v33)) ⟨H,ls⟩
 refine Tp (aCz _ _ _ _ _ h30).pan ?_
 revert H;refine B4 fun r8 H e15=>?_
 cases e15;cases Hr3
 have H0:=H;clear H;obtain⟨e16,h32,H⟩:=bind_some H0;clear H0;have hv_e16:=jN h32;subst hv_e16
 cases H
 refine aC [0,1] (by decide) ?_
 exact jC (hO (vs:=[ptr b2,ptr b3]) (u:= .panicking [{ v:= .iface 163 (.agg #[]),recovered:=false }]) (by simp) (cb rfl) (jO _ _ _ _) rfl (eO rfl rfl rfl (sc rfl) (sc rfl) jQ Ent.rfl))
 exact fk
 kernel_rfl
 exact fk
 kernel_rfl
 refine Z6 ?_
 exact Tm ((x51,x52,x53,x54,x55,x56,x57,x58,v28,b18,v29)) (ij H)
 clear H;intro i hi;obtain⟨x35,x36,x37,x38,x39,x40,x41,x42,v24,b16,v25⟩:=i;subst o3;have H:=Hr3;clear Hr3;try dsimp only at H
 try dsimp only
 refine aB 5 rfl (fun hc_v24=>?_)
 refine aB 6 rfl (fun hc_v25=>?_)
 refine aL ?_
 apply bO (ods:=[_,_,_,_,_,_,_,_,_]) 9 0 7 bM rfl rfl rfl
 refine ND ?_
 refine M4 ?_
 intros
 refine Mo 4 rfl (aBO rfl hh uS) fun _=>?_
 refine M4 ?_
 intros
 revert H;refine B1 fun y16 h33 H=>?_
 rcases y16 with y16 | pv12 <;> dsimp only at H
 refine Tc (aW _ _ h33).s ?_
 refine Z3 ?_
 refine aP ?_
 refine bW (φs':=[fEq (ptr b5)]) trivial rfl rfl (has rfl) (has rfl) (aG trivial) (sz rfl) rfl rfl ?_
 refine aO ?_
 refine bW (φs':=[aJ true]) trivial rfl rfl (has rfl) (has rfl) (aG trivial) (sz rfl) rfl rfl ?_
 refine Z2 ?_
 refine gE ?_
 refine hZ (φ:=fSl tI x40) (v:=v24) [] fS (fun _ h=>nomatch h) ?_
 refine bC ?_
 refine aP ?_
 refine oI (φs':=[fI x35,fSl aF x36,fSl aH x37,fI x38,fSl tI x39,fSl tI x40,fEq (.map (some b16)),fEq v25]) (i:=5) rfl rfl ?_
 refine gV ?_
 refine aS ?_
 refine hZ (φ:=fMap bH (fun y=>fSt bA y) x41) (v:= .map (some b16)) [105] frz_map fz ?_
 refine oI (φs':=[fI x35,fSl aF x36,fSl aH x37,fI x38,fSl tI x39,fSl tI x40,fMap bH (fun y=>fSt bA y) x41,fEq v25]) (i:=6) rfl rfl ?_
 refine gV ?_
 refine aS ?_
 refine hZ (φ:=fSl tI x42) (v:=v25) [] fS (fun _ h=>nomatch h) ?_
 refine oI (φs':=[fI x35,fSl aF x36,fSl aH x37,fI x38,fSl tI x39,fSl tI x40,fMap bH (fun y=>fSt bA y) x41,fSl tI x42]) (i:=7) rfl rfl ?_
 refine gV ?_
 refine hZ (φ:=bX aBt (⟨(⟨x35,x36,x37,x38⟩:CodeProg),x39,x40,x41,x42⟩:Code_checker)) (v:=ptr b5) [102,103,112] (aAn aK.rfl) fz ?_
 refine aO ?_
 refine aP ?_
 refine oI (φs':=[bX aBt (⟨(⟨x35,x36,x37,x38⟩:CodeProg),x39,x40,x41,x42⟩:Code_checker)]) (i:=0) rfl rfl ?_
 refine gV ?_
 cases H
 refine aC [0,1] (by decide) ?_
 exact aCb (hO (vs:=[ptr b2,ptr b3]) (u:= .returning) (by simp) (cb rfl) (aGu _ _ _ _) rfl (eO rfl rfl rfl (sc rfl) (sc rfl) ent_optS Ent.rfl))
 refine Tp (aW _ _ h33).pan ?_
 refine Z1 ?_
 have H0:=H;clear H;obtain⟨e17,h34,H⟩:=bind_some H0;clear H0;have hv_e17:=jN h34;subst hv_e17
 cases H
 refine aC [1,2] (by decide) ?_
 exact jC (hO (vs:=[ptr b2,ptr b3]) (u:= .panicking [{ v:= .iface 163 (.agg #[]),recovered:=false }]) (by simp) (cb rfl) (jO _ _ _ _) rfl (eO rfl rfl rfl (sc rfl) (sc rfl) jQ Ent.rfl))
 exact fk
 kernel_rfl
 refine Tp (iL _ _ _ _ _ h24).pan ?_
 refine Z1 ?_
 have H0:=H;clear H;obtain⟨e18,h35,H⟩:=bind_some H0;clear H0;have hv_e18:=jN h35;subst hv_e18
 cases H
 refine aC [0,1] (by decide) ?_
 exact jC (hO (vs:=[ptr b2,ptr b3]) (u:= .panicking [{ v:= .iface 163 (.agg #[]),recovered:=false }]) (by simp) (cb rfl) (jO _ _ _ _) rfl (eO rfl rfl rfl (sc rfl) (sc rfl) jQ Ent.rfl))
 refine Tp (aEx _ _ _ _ h22).pan ?_
 refine Z1 ?_
 have H0:=H;clear H;obtain⟨e19,h36,H⟩:=bind_some H0;clear H0;have hv_e19:=jN h36;subst hv_e19
 cases H
 refine aC [0,1] (by decide) ?_
 exact jC (hO (vs:=[ptr b2,ptr b3]) (u:= .panicking [{ v:= .iface 163 (.agg #[]),recovered:=false }]) (by simp) (cb rfl) (jO _ _ _ _) rfl (eO rfl rfl rfl (sc rfl) (sc rfl) jQ Ent.rfl))
 refine Tp (aEO _ _ _ _ h20).pan ?_
 refine Z1 ?_
 have H0:=H;clear H;obtain⟨e20,h37,H⟩:=bind_some H0;clear H0;have hv_e20:=jN h37;subst hv_e20
 cases H
 refine aC [0,1] (by decide) ?_
 exact jC (hO (vs:=[ptr b2,ptr b3]) (u:= .panicking [{ v:= .iface 163 (.agg #[]),recovered:=false }]) (by simp) (cb rfl) (jO _ _ _ _) rfl (eO rfl rfl rfl (sc rfl) (sc rfl) jQ Ent.rfl))
def tQ (a0:aY) (a1:SolVal):Option (aY × Bool):=
 (if a1.Kind=1 then
  (if (-1000000000) ≤ a1.N then
   some (decide (a1.N ≤ 1000000000))
  else
   some false).bind fun x2=>
  (some ((⟨(⟨a0.CodeProg.Free,a0.CodeProg.Defs,a0.CodeProg.Code,a0.CodeProg.Main⟩:CodeProg),a0.chans,a0.spots,a0.acts⟩:aY),x2)).bind fun r=>some (Sum.inr r)
 else
  if a1.Kind=2 then
   some (Sum.inl a0.CodeProg.Free)
  else
   if a1.Kind=3 then
    some (Sum.inl a0.chans)
   else
    if a1.Kind=4 then
     some (Sum.inl a0.spots)
    else
     some (Sum.inl 0)).bind fun o=>match o with
 | Sum.inr r=>some r
 | Sum.inl x1=>
 (if 0 ≤ a1.N then
  some (decide (a1.N<x1))
 else
  some false).bind fun x3=>
 some ((⟨(⟨a0.CodeProg.Free,a0.CodeProg.Defs,a0.CodeProg.Code,a0.CodeProg.Main⟩:CodeProg),a0.chans,a0.spots,a0.acts⟩:aY),x3)
theorem aGI (p0:Nat) (a0:aY) (a1:SolVal) (r:aY × Bool) (H:tQ a0 a1=some r):FnS Tryz.prog 51 [fEq (.pointer (some ⟨p0,0,none⟩)),fSt aQ a1] [gQ p0 a0] (aJ r.2) (fun _=>[gQ p0 r.1]):=by
 unfold tQ at H
 refine cD Tryz.func51 rfl Tryz.ntmps51 rfl (fun β=>?_)
 refine gR (fun v1=>?_)
 refine aB 1 rfl (fun hc_v1=>?_)
 refine Z1 ?_
 refine Tn (cG rfl hh bP) fun b1=>?_
 revert H;refine B5 fun o1 H Hr1=>?_
 refine aT (ι:=Int) (fun i=>o1=Sum.inl i) (fun i=>[(0,fEq (ptr p0)),(3,fEq (ptr b1)),(5,fI i)]) (fun i=>[aA b1 70 [fI a1.Kind,fI a1.N],aA p0 125 [fI a0.CodeProg.Free,fSl aF a0.CodeProg.Defs,fSl aH a0.CodeProg.Code,fI a0.CodeProg.Main,fI a0.chans,fI a0.spots,fEq v1],aD v1 67 cA a0.acts]) ?_ ?_
 revert H;refine I9 (fun c1 H=>?_) fun c1 H=>?_
 revert H;refine B1 fun o2 H Hr2=>?_
 refine aT (ι:=Bool) (fun i=>o2=i) (fun i=>[(0,fEq (ptr p0)),(4,aJ i)]) (fun i=>[aA b1 70 [fI a1.Kind,fI a1.N],aA p0 125 [fI a0.CodeProg.Free,fSl aF a0.CodeProg.Defs,fSl aH a0.CodeProg.Code,fI a0.CodeProg.Main,fI a0.chans,fI a0.spots,fEq v1],aD v1 67 cA a0.acts]) ?_ ?_
 revert H;refine I5 (fun c2 H=>?_) fun c2 H=>?_
 refine Z6 ?_
 exact Tm (decide (a1.N ≤ 1000000000)) (ij H)
 refine Z6 ?_
 exact Tm (false) (ij H)
 clear H;intro x2 hi;subst o2;have H:=Hr2;clear Hr2;try dsimp only at H
 try dsimp only
 revert H;refine B3 fun r1 H e1=>?_
 cases e1;cases Hr1
 refine aO ?_
 refine aO ?_
 refine fQ (x:=(⟨(⟨a0.CodeProg.Free,a0.CodeProg.Defs,a0.CodeProg.Code,a0.CodeProg.Main⟩:CodeProg),a0.chans,a0.spots,a0.acts⟩:aY)) ?_
 cases H
 refine aC [0] (by decide) ?_
 exact To
 revert H;refine I5 (fun c3 H=>?_) fun c3 H=>?_
 refine Z11 ?_
 exact Tm (a0.CodeProg.Free) (ij H)
 revert H;refine I5 (fun c4 H=>?_) fun c4 H=>?_
 refine Z10 ?_
 exact Tm (a0.chans) (ij H)
 revert H;refine I5 (fun c5 H=>?_) fun c5 H=>?_
 refine Z10 ?_
 exact Tm (a0.spots) (ij H)
 refine Z4 ?_
 exact Tm (0) (ij H)
 clear H;intro x1 hi;subst o1;have H:=Hr1;clear Hr1;try dsimp only at H
 try dsimp only
 revert H;refine bs fun o3 H Hr3=>?_
 refine aT (ι:=Bool) (fun i=>o3=i) (fun i=>[(0,fEq (ptr p0)),(4,aJ i)]) (fun i=>[aA b1 70 [fI a1.Kind,fI a1.N],aA p0 125 [fI a0.CodeProg.Free,fSl aF a0.CodeProg.Defs,fSl aH a0.CodeProg.Code,fI a0.CodeProg.Main,fI a0.chans,fI a0.spots,fEq v1],aD v1 67 cA a0.acts]) ?_ ?_
 revert H;refine I5 (fun c6 H=>?_) fun c6 H=>?_
 refine Z7 ?_
 exact Tm (decide (a1.N<x1)) (ij H)
 refine Z7 ?_
 exact Tm (false) (ij H)
 clear H;intro x3 hi;subst o3;have H:=Hr3;clear Hr3;try dsimp only at H
 try dsimp only
 refine Z1 ?_
 refine aO ?_
 refine aO ?_
 refine fQ (x:=(⟨(⟨a0.CodeProg.Free,a0.CodeProg.Defs,a0.CodeProg.Code,a0.CodeProg.Main⟩:CodeProg),a0.chans,a0.spots,a0.acts⟩:aY)) ?_
 cases H
 refine aC [0] (by decide) ?_
 exact To
def oW (a0:List SolVal):Option (List SolVal):=
 (dB (([]:List SolVal)++a0)).bind fun z1=>
 some z1
theorem aAS  (a0:List SolVal) (r:List SolVal) (H:oW a0=some r):FnS Tryz.prog 92 [fSl aQ a0] [] fK (fun v=>[(fun v=>aD v 70 aQ r) v]):=by
 unfold oW at H
 refine cD Tryz.func92 rfl Tryz.ntmps92 rfl (fun β=>?_)
 refine Z3 ?_
 refine aL ?_
 refine Z2 ?_
 refine Yy (aCS rfl hh (us rfl)) ?_
 refine Z1 ?_
 refine aE0 (has rfl) (fun hx=>?_) ?_
 replace H:some ([]:List SolVal)=some r:=by subst hx;exact H
 refine Z4 ?_
 refine eW aQ 70 ?_
 cases H
 exact wV rfl (bV rfl) (fun _ _ _=>trivial) rfl
 refine Z3 ?_
 refine Tn (eQ (t:=aQ) (xs:=([]:List SolVal)) rfl (et rfl) bS.nil rfl rfl rfl) fun b1=>?_
 generalize (Value.slice (some ⟨b1,0,none⟩) _ _)=v1
 refine aB 0 rfl (fun hc_v1=>?_)
 revert H;refine B1 fun z1 h1 H=>?_
 refine tP (ys:=a0) trivial rfl rfl rfl (has rfl) (has rfl) (et rfl) rfl h1 (fun v2=>?_)
 refine aB 0 rfl (fun hc_v2=>?_)
 refine Z3 ?_
 cases H
 exact wV rfl (bV rfl) (fun _ _ _=>trivial) rfl
theorem aFM  (a0:List SolVal) (r:List SolVal) (H:oW a0=some r):FnS Tryz.prog 92 [fSl aQ a0] [] (fSl aQ r) (fun _=>[]):=(aAS a0 r H).frz (fun v=>fS)
def pO (a0:aY) (a1:Int) (a2:Int) (a3:Int) (a4:List SolVal):Option (aY):=
 (oW a4).bind fun y1=>
 (dB (a0.acts++[(⟨a1,a2,a3,y1⟩:CodeAct)])).bind fun z1=>
 some (⟨(⟨a0.CodeProg.Free,a0.CodeProg.Defs,a0.CodeProg.Code,a0.CodeProg.Main⟩:CodeProg),a0.chans,a0.spots,z1⟩:aY)
theorem yG (p0:Nat) (σ4:Tk) (φ4:Fact) (Λ4:List (Value × Fact)) (a0:aY) (a1:Int) (a2:Int) (a3:Int) (a4:List SolVal) (r:aY) (hF4:gI [σ4] Λ4) (hW4:EntW Λ4 φ4 (fSl aQ a4)) (H:pO a0 a1 a2 a3 a4=some r):FnS Tryz.prog 96 [fEq (.pointer (some ⟨p0,0,none⟩)),fI a1,fI a2,fI a3,φ4] [gQ p0 a0,σ4] (dJ []) (fun _=>[gQ p0 r,σ4]):=by
 unfold pO at H
 refine cD Tryz.func96 rfl Tryz.ntmps96 rfl (fun β=>?_)
 refine gR (fun v1=>?_)
 refine aB 1 rfl (fun hc_v1=>?_)
 revert H;refine bs fun y1 h1 H=>?_
 revert H;refine bs fun z1 h2 H=>?_
 apply bO (ods:=[_,_,_,_,_,_,_,_,_,_,_,_,_,_,_,_]) 16 0 3 bM rfl rfl rfl
 refine ND ?_
 refine M8 ?_
 intros
 refine M1 ?_
 intros
 refine N_callLF (od:=odC [2] false (fSl aQ y1) [cV]) rfl (fun _=>rfl) trivial rfl rfl rfl (has rfl) (gN.cons rfl hW4 gN.nil) (cb rfl) (aAS a4 y1 h1) (fun _=>(ind_row (fun x φ h=>by simp only [aQ,List.mem_cons,List.not_mem_nil,or_false]at h;rcases h with rfl | rfl <;> exact aEL))) hF4 (fun _=>fS) (fun _=>?_)
 refine My (eS (ψs:=[fI a1,fI a2,fI a3,fSl aQ y1]) rfl aD6 rfl (aZ.cons (has rfl) (bY (aG trivial)) (aZ.cons (has rfl) (bY (aG trivial)) (aZ.cons (has rfl) (bY (aG trivial)) (aZ.cons (has rfl) (bY (dF)) aZ.nil)))) rfl) fun _=>?_
 refine Mf (φ:=fSl cA [(⟨a1,a2,a3,y1⟩:CodeAct)]) (eQ (t:=cA) (xs:=[(⟨a1,a2,a3,y1⟩:CodeAct)]) rfl (et rfl) (bS.cons rfl (has rfl) bP bS.nil) rfl rfl rfl) (fun b=>fS) fun _=>?_
 refine N_appR (od:=odN [1] true (fun _ v3=>gF v3) (fun _ v3=>[aD v3 67 cA z1])) (p:=1) rfl (fun _=>rfl) (fun _=>rfl) trivial rfl rfl rfl (has rfl) (has rfl) (et rfl) rfl h2 (fun u1 v3=>?_)
 refine M2 ?_
 intros
 refine sY (od:=od1 12 [0] true (fun _ v3=>fK) (fun _ v3=>[aA p0 125 [fI a0.CodeProg.Free,fSl aF a0.CodeProg.Defs,fSl aH a0.CodeProg.Code,fI a0.CodeProg.Main,fI a0.chans,fI a0.spots,gF v3]])) (p:=0) (φs':=[fI a0.CodeProg.Free,fSl aF a0.CodeProg.Defs,fSl aH a0.CodeProg.Code,fI a0.CodeProg.Main,fI a0.chans,fI a0.spots,gF v3]) rfl (fun _=>rfl) (fun _=>rfl) trivial rfl rfl rfl (has rfl) (has rfl) (uX) (sz rfl) rfl rfl (fun _=>?_)
 refine Z1 ?_
 refine pX 22 rfl yB ?_
 refine aB 1 rfl (fun hc_v3=>?_)
 refine oE (aK.cons Ent.rfl (aK.cons Ent.rfl (aK.cons Ent.rfl (aK.cons Ent.rfl (aK.cons Ent.rfl (aK.cons Ent.rfl (aK.cons yB aK.nil))))))) ?_
 refine Z1 ?_
 refine fQ (x:=(⟨(⟨a0.CodeProg.Free,a0.CodeProg.Defs,a0.CodeProg.Code,a0.CodeProg.Main⟩:CodeProg),a0.chans,a0.spots,z1⟩:aY)) ?_
 cases H
 exact cJ (.inr rfl) rfl rfl
 exact fk
 kernel_rfl
def vL (a0:aY) (a1:SolVal) (a2:Int) (a3:List SolVal):Option (aY):=
 if a1.Kind=2 then
  (pO (⟨(⟨a0.CodeProg.Free,a0.CodeProg.Defs,a0.CodeProg.Code,a0.CodeProg.Main⟩:CodeProg),a0.chans,a0.spots,a0.acts⟩:aY) 1 a2 a1.N a3).bind fun y1=>
  some (⟨(⟨y1.CodeProg.Free,y1.CodeProg.Defs,y1.CodeProg.Code,y1.CodeProg.Main⟩:CodeProg),y1.chans,y1.spots,y1.acts⟩:aY)
 else
  if a1.Kind=3 then
   (pO (⟨(⟨a0.CodeProg.Free,a0.CodeProg.Defs,a0.CodeProg.Code,a0.CodeProg.Main⟩:CodeProg),a0.chans,a0.spots,a0.acts⟩:aY) 2 a2 a1.N a3).bind fun y2=>
   some (⟨(⟨y2.CodeProg.Free,y2.CodeProg.Defs,y2.CodeProg.Code,y2.CodeProg.Main⟩:CodeProg),y2.chans,y2.spots,y2.acts⟩:aY)
  else
   some (⟨(⟨a0.CodeProg.Free,a0.CodeProg.Defs,a0.CodeProg.Code,a0.CodeProg.Main⟩:CodeProg),a0.chans,a0.spots,a0.acts⟩:aY)
theorem aHT (p0:Nat) (σ3:Tk) (φ3:Fact) (Λ3:List (Value × Fact)) (a0:aY) (a1:SolVal) (a2:Int) (a3:List SolVal) (r:aY) (hF3:gI [σ3] Λ3) (hW3:EntW Λ3 φ3 (fSl aQ a3)) (H:vL a0 a1 a2 a3=some r):FnS Tryz.prog 93 [fEq (.pointer (some ⟨p0,0,none⟩)),fSt aQ a1,fI a2,φ3] [gQ p0 a0,σ3] (dJ []) (fun _=>[gQ p0 r,σ3]):=by
 unfold vL at H
 refine cD Tryz.func93 rfl Tryz.ntmps93 rfl (fun β=>?_)
 refine gR (fun v1=>?_)
 refine aB 1 rfl (fun hc_v1=>?_)
 refine Z1 ?_
 refine fP trivial rfl rfl (cG rfl (has rfl) bP) (fun b1=>?_)
 refine Z10 ?_
 revert H;refine is (fun c1 H=>?_) fun c1 H=>?_
 refine Z7 ?_
 refine aO ?_
 refine aO ?_
 refine fQ (x:=(⟨(⟨a0.CodeProg.Free,a0.CodeProg.Defs,a0.CodeProg.Code,a0.CodeProg.Main⟩:CodeProg),a0.chans,a0.spots,a0.acts⟩:aY)) ?_
 refine aO ?_
 refine aP ?_
 revert H;refine bs fun y1 h1 H=>?_
 refine dE trivial rfl rfl rfl hh (aE.cons hh (aE.cons hh (aE.cons hh (aE.cons hh (aE.cons hh aE.nil))))) rfl (cb rfl) (yG p0 σ3 φ3 Λ3 (⟨(⟨a0.CodeProg.Free,a0.CodeProg.Defs,a0.CodeProg.Code,a0.CodeProg.Main⟩:CodeProg),a0.chans,a0.spots,a0.acts⟩:aY) 1 a2 a1.N a3 y1 hF3 hW3 h1) rfl ?_
 refine gR (fun v2=>?_)
 refine aB 1 rfl (fun hc_v2=>?_)
 refine Z2 ?_
 refine fQ (x:=(⟨(⟨y1.CodeProg.Free,y1.CodeProg.Defs,y1.CodeProg.Code,y1.CodeProg.Main⟩:CodeProg),y1.chans,y1.spots,y1.acts⟩:aY)) ?_
 cases H
 refine aC [0,1] (by decide) ?_
 exact cJ (.inr rfl) rfl rfl
 refine Z5 ?_
 revert H;refine is (fun c2 H=>?_) fun c2 H=>?_
 refine Z7 ?_
 refine aO ?_
 refine aO ?_
 refine fQ (x:=(⟨(⟨a0.CodeProg.Free,a0.CodeProg.Defs,a0.CodeProg.Code,a0.CodeProg.Main⟩:CodeProg),a0.chans,a0.spots,a0.acts⟩:aY)) ?_
 refine aO ?_
 refine aP ?_
 revert H;refine bs fun y2 h2 H=>?_
 refine dE trivial rfl rfl rfl hh (aE.cons hh (aE.cons hh (aE.cons hh (aE.cons hh (aE.cons hh aE.nil))))) rfl (cb rfl) (yG p0 σ3 φ3 Λ3 (⟨(⟨a0.CodeProg.Free,a0.CodeProg.Defs,a0.CodeProg.Code,a0.CodeProg.Main⟩:CodeProg),a0.chans,a0.spots,a0.acts⟩:aY) 2 a2 a1.N a3 y2 hF3 hW3 h2) rfl ?_
 refine gR (fun v3=>?_)
 refine aB 1 rfl (fun hc_v3=>?_)
 refine Z2 ?_
 refine fQ (x:=(⟨(⟨y2.CodeProg.Free,y2.CodeProg.Defs,y2.CodeProg.Code,y2.CodeProg.Main⟩:CodeProg),y2.chans,y2.spots,y2.acts⟩:aY)) ?_
 cases H
 refine aC [0,1] (by decide) ?_
 exact cJ (.inr rfl) rfl rfl
 refine Z3 ?_
 refine aO ?_
 refine aO ?_
 refine fQ (x:=(⟨(⟨a0.CodeProg.Free,a0.CodeProg.Defs,a0.CodeProg.Code,a0.CodeProg.Main⟩:CodeProg),a0.chans,a0.spots,a0.acts⟩:aY)) ?_
 cases H
 refine aC [0,2] (by decide) ?_
 exact cJ (.inr rfl) rfl rfl
def qD (a0:SolVal):Option (Int):=
 if a0.Kind=1 then
  some a0.N
 else
  some 0
theorem aAB  (a0:SolVal) (r:Int) (H:qD a0=some r):FnS Tryz.prog 94 [fSt aQ a0] [] (fI r) (fun _=>[]):=by
 unfold qD at H
 refine cD Tryz.func94 rfl Tryz.ntmps94 rfl (fun β=>?_)
 refine Z1 ?_
 refine Tn (cG rfl hh bP) fun b1=>?_
 refine Z2 ?_
 refine aL ?_
 revert H;refine I5 (fun c1 H=>?_) fun c1 H=>?_
 refine Z7 ?_
 cases H
 refine aC [] (by decide) ?_
 exact To
 refine Z7 ?_
 cases H
 refine aC [] (by decide) ?_
 exact To
open Go.SX Go.SW Go.Dt
def mN (a1:ScopeDef):Nat → (List SolVal) → Int → Int → Option (List SolVal × Int)
| 0,_,_,_=>none
| k+1,x6,x7,x8=>
 if x7<(a1.Chans.length:Int)then
  (dB (x6++[(⟨3,x8⟩:SolVal)])).bind fun z1=>
  (chk (x8+1)).bind fun z2=>
  (chk (x7+1)).bind fun z3=>
  mN a1 k z1 z3 z2
 else
  some (x6,x8)
def nP (a1:ScopeDef):Nat → (List SolVal) → Int → Int → Option (List SolVal × Int)
| 0,_,_,_=>none
| k+1,x14,x15,x16=>
 if x15<(a1.Spots.length:Int)then
  (dB (x14++[(⟨4,x16⟩:SolVal)])).bind fun z4=>
  (chk (x16+1)).bind fun z5=>
  (chk (x15+1)).bind fun z6=>
  nP a1 k z4 z6 z5
 else
  some (x14,x16)
def uI (fuel:Nat) (a0:aY) (a1:ScopeDef) (a2:List SolVal):Option ((aY × List SolVal) ⊕ Value):=
 (oW a2).bind fun y1=>
 (mN a1 fuel y1 0 a0.chans).bind fun (x1,x2)=>
 (nP a1 fuel x1 0 a0.spots).bind fun (x9,x10)=>
 if 60<x2 then
  some (Sum.inr (.iface 29 (.int .i64 3)))
 else
  if 24<x10 then
   some (Sum.inr (.iface 29 (.int .i64 3)))
  else
   some (Sum.inl ((⟨(⟨a0.CodeProg.Free,a0.CodeProg.Defs,a0.CodeProg.Code,a0.CodeProg.Main⟩:CodeProg),x2,x10,a0.acts⟩:aY),x9))
theorem aEg (fuel:Nat) (p0:Nat) (a0:aY) (a1:ScopeDef) (a2:List SolVal) (r:(aY × List SolVal) ⊕ Value) (H:uI fuel a0 a1 a2=some r):FnE Tryz.prog 131 [fEq (.pointer (some ⟨p0,0,none⟩)),fSt aF a1,fSl aQ a2] [gQ p0 a0] r (fun r=>fSl aQ r.2) (fun r=>[gQ p0 r.1]):=by
 unfold uI at H
 refine iS Tryz.func131 rfl Tryz.ntmps131 rfl (fun β=>?_)
 refine gR (fun v1=>?_)
 refine aB 1 rfl (fun hc_v1=>?_)
 refine Z1 ?_
 refine Tn (cG rfl hh bP) fun b1=>?_
 revert H;refine B4 fun y1 h1 H=>?_
 refine aBI trivial rfl rfl rfl (has rfl) (aE.cons (has rfl) aE.nil) rfl (cb rfl) (aAS a2 y1 h1) (Δi:=[]) rfl (fun v2=>?_)
 dsimp only [List.append,List.cons_append,List.nil_append]
 refine aB 0 rfl (fun hc_v2=>?_)
 revert H;refine B2 fun o1 H Hr1=>?_
 refine aT (ι:=List SolVal × Int × Value) (fun i=>o1=(i.1,i.2.1)) (fun i=>[(0,fEq (ptr p0)),(4,fEq (ptr b1)),(7,fEq i.2.2)]) (fun i=>[aA b1 63 [fSl bG a1.Chans,fSl bQ a1.Spots,fSl bR a1.Rules],aA p0 125 [fI a0.CodeProg.Free,fSl aF a0.CodeProg.Defs,fSl aH a0.CodeProg.Code,fI a0.CodeProg.Main,fI i.2.1,fI a0.spots,fEq v1],aD i.2.2 70 aQ i.1,aD v1 67 cA a0.acts]) ?_ ?_
 refine Z7 ?_
 refine aC [1,2,0,3] (by decide) ?_
 refine Tl (ι:=Nat × List SolVal × Int × Int × Value) (fun i=>mN a1 i.1 i.2.1 i.2.2.1 i.2.2.2.1=_) (fun i=>i.1) (fun i=>[(0,fEq (ptr p0)),(4,fEq (ptr b1)),(7,fEq i.2.2.2.2),(12,fI (a1.Chans.length:Int)),(13,fI i.2.2.1)]) (fun i=>[aA b1 63 [fSl bG a1.Chans,fSl bQ a1.Spots,fSl bR a1.Rules],aA p0 125 [fI a0.CodeProg.Free,fSl aF a0.CodeProg.Defs,fSl aH a0.CodeProg.Code,fI a0.CodeProg.Main,fI i.2.2.2.1,fI a0.spots,fEq v1],aD i.2.2.2.2 70 aQ i.2.1,aD v1 67 cA a0.acts]) (fuel,y1,0,a0.chans,v2) H ?_
 clear H;rintro⟨k1,x6,x7,x8,v5⟩ H
 replace H:mN a1 k1 x6 x7 x8=_:=H
 try dsimp only
 obtain _ | k1:=k1
 rw [mN]at H;cases H
 rw [mN]at H
 refine aB 2 rfl (fun hc_v5=>?_)
 refine Z3 ?_
 refine aL ?_
 revert H;refine is (fun c1 H=>?_) fun c1 H=>?_
 refine Z3 ?_
 refine aL ?_
 refine Z7 ?_
 refine Yy (eS (ψs:=[fI 3,fI x8]) rfl oP rfl (aZ.cons (has rfl) (bY (aG trivial)) (aZ.cons (has rfl) (bY (aG trivial)) aZ.nil)) rfl) ?_
 refine Tn (eQ (t:=aQ) (xs:=[(⟨3,x8⟩:SolVal)]) rfl (et rfl) (bS.cons rfl hh bP bS.nil) rfl rfl rfl) fun b2=>?_
 generalize (Value.slice (some ⟨b2,0,none⟩) _ _)=v6
 refine aB 0 rfl (fun hc_v6=>?_)
 revert H;refine bs fun z1 h2 H=>?_
 refine bC ?_
 refine aP ?_
 refine gJ trivial rfl rfl rfl (has rfl) (has rfl) (et rfl) rfl h2 (fun v7=>?_)
 refine aB 0 rfl (fun hc_v7=>?_)
 revert H;refine B7 fun z2 h3 H=>?_
 refine Z3 ?_
 refine aO ?_
 refine bW (φs':=[fI a0.CodeProg.Free,fSl aF a0.CodeProg.Defs,fSl aH a0.CodeProg.Code,fI a0.CodeProg.Main,fI z2,fI a0.spots,fEq v1]) trivial rfl rfl (has rfl) (has rfl) (aG trivial) (sz rfl) rfl rfl ?_
 revert H;refine B4 fun z3 h4 H=>?_
 refine Z3 ?_
 refine aC [2,0,1,3] (by decide) ?_
 exact Tm ((k1,z1,z3,z2,v7)) ⟨H,ls⟩
 refine Z6 ?_
 exact Tm ((x6,x8,v5)) (ij H)
 clear H;intro i hi;obtain⟨x1,x2,v3⟩:=i;subst o1;have H:=Hr1;clear Hr1;try dsimp only at H
 try dsimp only
 refine aB 2 rfl (fun hc_v3=>?_)
 revert H;refine bs fun o2 H Hr2=>?_
 refine aT (ι:=List SolVal × Int × Value) (fun i=>o2=(i.1,i.2.1)) (fun i=>[(0,fEq (ptr p0)),(7,fEq i.2.2)]) (fun i=>[aA b1 63 [fSl bG a1.Chans,fSl bQ a1.Spots,fSl bR a1.Rules],aA p0 125 [fI a0.CodeProg.Free,fSl aF a0.CodeProg.Defs,fSl aH a0.CodeProg.Code,fI a0.CodeProg.Main,fI x2,fI i.2.1,fEq v1],aD i.2.2 70 aQ i.1,aD v1 67 cA a0.acts]) ?_ ?_
 refine Z7 ?_
 refine Tl (ι:=Nat × List SolVal × Int × Int × Value) (fun i=>nP a1 i.1 i.2.1 i.2.2.1 i.2.2.2.1=_) (fun i=>i.1) (fun i=>[(0,fEq (ptr p0)),(7,fEq i.2.2.2.2),(33,fI (a1.Spots.length:Int)),(34,fI i.2.2.1)]) (fun i=>[aA b1 63 [fSl bG a1.Chans,fSl bQ a1.Spots,fSl bR a1.Rules],aA p0 125 [fI a0.CodeProg.Free,fSl aF a0.CodeProg.Defs,fSl aH a0.CodeProg.Code,fI a0.CodeProg.Main,fI x2,fI i.2.2.2.1,fEq v1],aD i.2.2.2.2 70 aQ i.2.1,aD v1 67 cA a0.acts]) (fuel,x1,0,a0.spots,v3) H ?_
 clear H;rintro⟨k2,x14,x15,x16,v10⟩ H
 replace H:nP a1 k2 x14 x15 x16=_:=H
 try dsimp only
 obtain _ | k2:=k2
 rw [nP]at H;cases H
 rw [nP]at H
 refine aB 2 rfl (fun hc_v10=>?_)
 refine Z3 ?_
 refine aL ?_
 revert H;refine is (fun c2 H=>?_) fun c2 H=>?_
 refine Z3 ?_
 refine aL ?_
 refine Z7 ?_
 refine Yy (eS (ψs:=[fI 4,fI x16]) rfl oP rfl (aZ.cons (has rfl) (bY (aG trivial)) (aZ.cons (has rfl) (bY (aG trivial)) aZ.nil)) rfl) ?_
 refine Tn (eQ (t:=aQ) (xs:=[(⟨4,x16⟩:SolVal)]) rfl (et rfl) (bS.cons rfl hh bP bS.nil) rfl rfl rfl) fun b3=>?_
 generalize (Value.slice (some ⟨b3,0,none⟩) _ _)=v11
 refine aB 0 rfl (fun hc_v11=>?_)
 revert H;refine bs fun z4 h5 H=>?_
 refine bC ?_
 refine aP ?_
 refine gJ trivial rfl rfl rfl (has rfl) (has rfl) (et rfl) rfl h5 (fun v12=>?_)
 refine aB 0 rfl (fun hc_v12=>?_)
 revert H;refine B7 fun z5 h6 H=>?_
 refine Z3 ?_
 refine aO ?_
 refine bW (φs':=[fI a0.CodeProg.Free,fSl aF a0.CodeProg.Defs,fSl aH a0.CodeProg.Code,fI a0.CodeProg.Main,fI x2,fI z5,fEq v1]) trivial rfl rfl (has rfl) (has rfl) (aG trivial) (sz rfl) rfl rfl ?_
 revert H;refine B4 fun z6 h7 H=>?_
 refine Z3 ?_
 refine aC [2,0,1,3] (by decide) ?_
 exact Tm ((k2,z4,z6,z5,v12)) ⟨H,ls⟩
 refine Z6 ?_
 exact Tm ((x14,x16,v10)) (ij H)
 clear H;intro i hi;obtain⟨x9,x10,v8⟩:=i;subst o2;have H:=Hr2;clear Hr2;try dsimp only at H
 try dsimp only
 refine aB 2 rfl (fun hc_v8=>?_)
 refine aL ?_
 revert H;refine I7 (fun c3 H=>?_) fun c3 H=>?_
 refine Z9 ?_
 refine Yy (aB4 rfl hh aBx) ?_
 refine aB9 trivial rfl (has rfl) ?_
 refine Z1 ?_
 cases H
 exact bJ
 revert H;refine I7 (fun c4 H=>?_) fun c4 H=>?_
 refine Z2 ?_
 refine Yy (aB4 rfl hh aBx) ?_
 refine aB9 trivial rfl (has rfl) ?_
 refine Z1 ?_
 cases H
 exact bJ
 refine Z8 ?_
 refine aO ?_
 refine hZ (φ:=fSl aQ x9) (v:=v8) [7,65,6] fS fz ?_
 refine gV ?_
 refine aO ?_
 refine aO ?_
 refine fQ (x:=(⟨(⟨a0.CodeProg.Free,a0.CodeProg.Defs,a0.CodeProg.Code,a0.CodeProg.Main⟩:CodeProg),x2,x10,a0.acts⟩:aY)) ?_
 cases H
 refine gP ?_
 refine aC [0] (by decide) ?_
 exact To
def xU (a0:Bool):Option (Int):=
 bif a0 then
  some 1
 else
  some 0
theorem aDl  (a0:Bool) (r:Int) (H:xU a0=some r):FnS Tryz.prog 132 [aJ a0] [] (fI r) (fun _=>[]):=by
 unfold xU at H
 refine cD Tryz.func132 rfl Tryz.ntmps132 rfl (fun β=>?_)
 refine Z3 ?_
 refine aL ?_
 refine Z3 ?_
 revert H;refine cs (fun c1 H=>?_) fun c1 H=>?_
 refine Z5 ?_
 cases H
 exact To
 refine Z7 ?_
 cases H
 exact To
def vQ (a0:Int) (a1:SolVal) (a2:SolVal):Option (SolVal):=
 (qD (⟨a1.Kind,a1.N⟩:SolVal)).bind fun y1=>
 (qD (⟨a2.Kind,a2.N⟩:SolVal)).bind fun y2=>
 (if a0=3 then
  (chk (y1+y2)).bind fun z1=>
  some z1
 else
  if a0=4 then
   (chk (y1 - y2)).bind fun z2=>
   some z2
  else
   if a0=5 then
    (chk (y1*y2)).bind fun z3=>
    some z3
   else
    if a0=6 then
     (xU (decide (y1<y2))).bind fun y3=>
     some y3
    else
     if a0=7 then
      (xU (decide (y1=y2))).bind fun y4=>
      some y4
     else
      some 0).bind fun x1=>
 some (⟨1,min (max x1 (-1000000000)) 1000000000⟩:SolVal)
theorem aHs  (a0:Int) (a1:SolVal) (a2:SolVal) (r:SolVal) (H:vQ a0 a1 a2=some r):FnS Tryz.prog 97 [fI a0,fSt aQ a1,fSt aQ a2] [] (fSt aQ r) (fun _=>[]):=by
 unfold vQ at H
 refine cD Tryz.func97 rfl Tryz.ntmps97 rfl (fun β=>?_)
 refine Z1 ?_
 refine Tn (cG rfl hh bP) fun b1=>?_
 refine Tn (cG rfl hh bP) fun b2=>?_
 refine Tn (cR rfl wM rfl) fun b3=>?_
 refine Z1 ?_
 refine aL ?_
 revert H;refine bs fun y1 h1 H=>?_
 revert H;refine bs fun y2 h2 H=>?_
 apply bO (ods:=[_,_,_,_,_,_]) 6 0 3 bM rfl rfl rfl
 refine ND ?_
 refine M1 ?_
 intros
 refine Nc (aAB _ _ h1) fun _=>?_
 refine M1 ?_
 intros
 refine Nc (aAB _ _ h2) fun _=>?_
 refine M2 ?_
 intros
 revert H;refine B5 fun o1 H Hr1=>?_
 refine aT (ι:=Int) (fun i=>o1=i) (fun i=>[(6,fEq (ptr b3)),(9,fI i)]) (fun i=>[aA b3 70 [fI 0,fI 0],aA b2 70 [fI a2.Kind,fI a2.N],aA b1 70 [fI a1.Kind,fI a1.N]]) ?_ ?_
 revert H;refine I8 (fun c1 H=>?_) fun c1 H=>?_
 revert H;refine B4 fun z1 h3 H=>?_
 refine Z5 ?_
 exact Tm (z1) (ij H)
 revert H;refine I5 (fun c2 H=>?_) fun c2 H=>?_
 revert H;refine B4 fun z2 h4 H=>?_
 refine Z5 ?_
 exact Tm (z2) (ij H)
 revert H;refine I5 (fun c3 H=>?_) fun c3 H=>?_
 revert H;refine B4 fun z3 h5 H=>?_
 refine Z5 ?_
 exact Tm (z3) (ij H)
 revert H;refine I5 (fun c4 H=>?_) fun c4 H=>?_
 revert H;refine B5 fun y3 h6 H=>?_
 refine Tc (aDl _ _ h6) ?_
 refine Z4 ?_
 exact Tm (y3) (ij H)
 revert H;refine I5 (fun c5 H=>?_) fun c5 H=>?_
 revert H;refine B5 fun y4 h7 H=>?_
 refine Tc (aDl _ _ h7) ?_
 refine Z4 ?_
 exact Tm (y4) (ij H)
 refine Z4 ?_
 exact Tm (0) (ij H)
 clear H;intro x1 hi;subst o1;have H:=Hr1;clear Hr1;try dsimp only at H
 try dsimp only
 refine Z2 ?_
 refine Yy (o_max rfl hh hh) ?_
 refine Z1 ?_
 refine Yy (eS (ψs:=[fI 1,fI (min (max x1 (-1000000000)) 1000000000)]) rfl oP rfl (aZ.cons (has rfl) (bY (aG trivial)) (aZ.cons (has rfl) (bY (aG trivial)) aZ.nil)) rfl) ?_
 refine cW (φs':=[fI 1,fI (min (max x1 (-1000000000)) 1000000000)]) trivial rfl rfl (has rfl) (has rfl) (aN (aG trivial) (aN (aG trivial) bZ)) (sz rfl) rfl rfl rfl ?_
 refine Z2 ?_
 cases H
 refine aC [0] (by decide) ?_
 exact aBq rfl (ag rfl) rfl (bV rfl) Ent.rfl rfl
 exact fk
 kernel_rfl
def fZ (rec_code_runner_def:aY → Int → Int → (List SolVal) → Option ((aY × List SolVal) ⊕ Value)) (a2:Int):Nat → Int → (List SolVal) → (List SolVal) → Int → (List ScopeDef) → (List CodeIns) → Int → Int → Int → (List CodeAct) → Option (aY ⊕ Value)
| 0,_,_,_,_,_,_,_,_,_,_=>none
| k+1,x11,x12,x13,x14,x15,x16,x17,x18,x19,x20=>
 (idx x16 x11).bind fun y2=>
 (chk (x11+1)).bind fun z1=>
 if y2.Op=1 then
  (dB (x13++[(⟨1,y2.A⟩:SolVal)])).bind fun z2=>
  fZ rec_code_runner_def a2 k z1 x12 z2 x14 x15 x16 x17 x18 x19 x20
 else
  if y2.Op=2 then
   (idx x12 y2.A).bind fun y3=>
   (dB (x13++[y3])).bind fun z3=>
   fZ rec_code_runner_def a2 k z1 x12 z3 x14 x15 x16 x17 x18 x19 x20
  else
   if y2.Op=8 then
    (chk ((x13.length:Int) - y2.B)).bind fun z4=>
    (idx x12 y2.A).bind fun y4=>
    (slc x13 z4 (x13.length:Int)).bind fun y5=>
    (vL (⟨(⟨x14,x15,x16,x17⟩:CodeProg),x18,x19,x20⟩:aY) y4 a2 y5).bind fun y6=>
    (slc x13 0 z4).bind fun y7=>
    fZ rec_code_runner_def a2 k z1 x12 y7 y6.CodeProg.Free y6.CodeProg.Defs y6.CodeProg.Code y6.CodeProg.Main y6.chans y6.spots y6.acts
   else
    if y2.Op=9 then
     (chk ((x13.length:Int) - 1)).bind fun z5=>
     (idx x13 z5).bind fun y8=>
     (chk ((x13.length:Int) - 1)).bind fun z6=>
     (slc x13 0 z6).bind fun y9=>
     (qD (⟨y8.Kind,y8.N⟩:SolVal)).bind fun y10=>
     if y10=0 then
      fZ rec_code_runner_def a2 k y2.A x12 y9 x14 x15 x16 x17 x18 x19 x20
     else
      fZ rec_code_runner_def a2 k z1 x12 y9 x14 x15 x16 x17 x18 x19 x20
    else
     if y2.Op=10 then
      fZ rec_code_runner_def a2 k y2.A x12 x13 x14 x15 x16 x17 x18 x19 x20
     else
      if y2.Op=11 then
       (rec_code_runner_def (⟨(⟨x14,x15,x16,x17⟩:CodeProg),x18,x19,x20⟩:aY) y2.A a2 x12).bind fun y11=>
       match y11 with
       | Sum.inr pv1=>some (Sum.inr pv1)
       | Sum.inl y11=>
       fZ rec_code_runner_def a2 k z1 y11.2 x13 y11.1.CodeProg.Free y11.1.CodeProg.Defs y11.1.CodeProg.Code y11.1.CodeProg.Main y11.1.chans y11.1.spots y11.1.acts
      else
       if y2.Op=12 then
        (slc x12 0 y2.A).bind fun y12=>
        fZ rec_code_runner_def a2 k z1 y12 x13 x14 x15 x16 x17 x18 x19 x20
       else
        (if y2.Op=13 then
         some (decide (y2.Op=13))
        else
         if y2.Op=14 then
          some (decide (y2.Op=14))
         else
          some (decide (y2.Op=15))).bind fun x21=>
        bif x21 then
         (chk (z1 - 1)).bind fun z7=>
         (pO (⟨(⟨x14,x15,x16,x17⟩:CodeProg),x18,x19,x20⟩:aY) 4 a2 z7 x12).bind fun y13=>
         fZ rec_code_runner_def a2 k z1 x12 x13 y13.CodeProg.Free y13.CodeProg.Defs y13.CodeProg.Code y13.CodeProg.Main y13.chans y13.spots y13.acts
        else
         if y2.Op=16 then
          some (Sum.inl (⟨(⟨x14,x15,x16,x17⟩:CodeProg),x18,x19,x20⟩:aY))
         else
          (chk ((x13.length:Int) - 2)).bind fun z8=>
          (idx x13 z8).bind fun y14=>
          (chk (z8+1)).bind fun z9=>
          (idx x13 z9).bind fun y15=>
          (vQ y2.Op y14 y15).bind fun y16=>
          (idx x13 z8).bind fun y17=>
          (chk (z8+1)).bind fun z10=>
          (slc (x13.set z8.toNat y16) 0 z10).bind fun y18=>
          fZ rec_code_runner_def a2 k z1 x12 y18 x14 x15 x16 x17 x18 x19 x20
def mK (rec_code_runner_run:aY → Int → Int → (List SolVal) → Option (aY ⊕ Value)) (y1:ScopeDef) (y2:(aY × List SolVal)) (y4:List SolVal):Nat → Int → Int → (List ScopeDef) → (List CodeIns) → Int → Int → Int → (List CodeAct) → Option ((Int × List ScopeDef × List CodeIns × Int × Int × Int × List CodeAct) ⊕ ((aY × List SolVal) ⊕ Value))
| 0,_,_,_,_,_,_,_,_=>none
| k+1,x16,x17,x18,x19,x20,x21,x22,x23=>
 if x16<(y1.Spots.length:Int)then
  (idx y1.Spots x16).bind fun y5=>
  (idx y4 x16).bind fun y6=>
  (rec_code_runner_run (⟨(⟨x17,x18,x19,x20⟩:CodeProg),x21,x22,x23⟩:aY) y5.Node y6.N y2.2).bind fun y7=>
  match y7 with
  | Sum.inr pv2=>(some (Sum.inr pv2)).bind fun r=>some (Sum.inr r)
  | Sum.inl y7=>
  (chk (x16+1)).bind fun z2=>
  mK rec_code_runner_run y1 y2 y4 k z2 y7.CodeProg.Free y7.CodeProg.Defs y7.CodeProg.Code y7.CodeProg.Main y7.chans y7.spots y7.acts
 else
  some (Sum.inl (x17,x18,x19,x20,x21,x22,x23))
mutual
def gW:Nat → aY → Int → Int → (List SolVal) → Option (aY ⊕ Value)
| 0,_,_,_,_=>none
| fuel+1,a0,a1,a2,a3=>
 (oW a3).bind fun y1=>
 fZ (kA fuel) a2 fuel a1 y1 [] a0.CodeProg.Free a0.CodeProg.Defs a0.CodeProg.Code a0.CodeProg.Main a0.chans a0.spots a0.acts
def kA:Nat → aY → Int → Int → (List SolVal) → Option ((aY × List SolVal) ⊕ Value)
| 0,_,_,_,_=>none
| fuel+1,a0,a1,a2,a3=>
 (idx a0.CodeProg.Defs a1).bind fun y1=>
 (uI fuel (⟨(⟨a0.CodeProg.Free,a0.CodeProg.Defs,a0.CodeProg.Code,a0.CodeProg.Main⟩:CodeProg),a0.chans,a0.spots,a0.acts⟩:aY) (⟨y1.Chans,y1.Spots,y1.Rules⟩:ScopeDef) a3).bind fun y2=>
 match y2 with
 | Sum.inr pv1=>some (Sum.inr pv1)
 | Sum.inl y2=>
 (pO (⟨(⟨y2.1.CodeProg.Free,y2.1.CodeProg.Defs,y2.1.CodeProg.Code,y2.1.CodeProg.Main⟩:CodeProg),y2.1.chans,y2.1.spots,y2.1.acts⟩:aY) 3 a2 a1 y2.2).bind fun y3=>
 (chk ((y2.2.length:Int) - (y1.Spots.length:Int))).bind fun z1=>
 (slc y2.2 z1 (y2.2.length:Int)).bind fun y4=>
 (mK (gW fuel) y1 y2 y4 fuel 0 y3.CodeProg.Free y3.CodeProg.Defs y3.CodeProg.Code y3.CodeProg.Main y3.chans y3.spots y3.acts).bind fun o=>match o with
 | Sum.inr r=>some r
 | Sum.inl (x1,x2,x3,x4,x5,x6,x7)=>
 some (Sum.inl ((⟨(⟨x1,x2,x3,x4⟩:CodeProg),x5,x6,x7⟩:aY),y2.2))
end
theorem aHv:∀ (fuel:Nat),(∀ (p0:Nat) (a0:aY) (a1:Int) (a2:Int) (a3:List SolVal) (r:aY ⊕ Value) (H:gW fuel a0 a1 a2 a3=some r),FnE Tryz.prog 53 [fEq (.pointer (some ⟨p0,0,none⟩)),fI a1,fI a2,fSl aQ a3] [gQ p0 a0] r (fun r=>dJ []) (fun r=>[gQ p0 r])) ∧ (∀ (p0:Nat) (a0:aY) (a1:Int) (a2:Int) (a3:List SolVal) (r:(aY × List SolVal) ⊕ Value) (H:kA fuel a0 a1 a2 a3=some r),FnE Tryz.prog 95 [fEq (.pointer (some ⟨p0,0,none⟩)),fI a1,fI a2,fSl aQ a3] [gQ p0 a0] r (fun r=>fSl aQ r.2) (fun r=>[gQ p0 r.1])):=by
 intro fuel
 induction fuel with
 | zero=>exact⟨fun p0 a0 a1 a2 a3 r H=>(by rw [gW]at H;cases H),fun p0 a0 a1 a2 a3 r H=>(by rw [kA]at H;cases H)⟩
 | succ fuel ih=>
 obtain⟨ih_code_runner_run,ih_code_runner_def⟩:=@ih
 refine⟨?_,?_⟩
 intro p0 a0 a1 a2 a3 r H
 rw [gW]at H
 refine iS Tryz.func53 rfl Tryz.ntmps53 rfl (fun β=>?_)
 refine gR (fun v1=>?_)
 refine aB 1 rfl (fun hc_v1=>?_)
 refine T_scope ?_
 refine Z2 ?_
 revert H;refine bs fun y1 h1 H=>?_
 refine dE trivial rfl rfl rfl hh (aE.cons hh aE.nil) rfl (cb rfl) (aFM a3 y1 h1) rfl ?_
 refine Z5 ?_
 refine aL ?_
 refine T_label ?_
 refine Z2 ?_
 refine eW aQ 70 ?_
 refine aC [1,0,2] (by decide) ?_
 refine iT (ι:=Nat × Int × List SolVal × List SolVal × Int × List ScopeDef × List CodeIns × Int × Int × Int × List CodeAct × Value × Value) (fun i=>fZ (kA fuel) a2 i.1 i.2.1 i.2.2.1 i.2.2.2.1 i.2.2.2.2.1 i.2.2.2.2.2.1 i.2.2.2.2.2.2.1 i.2.2.2.2.2.2.2.1 i.2.2.2.2.2.2.2.2.1 i.2.2.2.2.2.2.2.2.2.1 i.2.2.2.2.2.2.2.2.2.2.1=_) (fun i=>i.1) (fun i=>[(0,fEq (ptr p0)),(1,fI i.2.1),(2,fI a2),(8,fSl aQ i.2.2.1),(9,fEq i.2.2.2.2.2.2.2.2.2.2.2.1)]) (fun i=>[aA p0 125 [fI i.2.2.2.2.1,fSl aF i.2.2.2.2.2.1,fSl aH i.2.2.2.2.2.2.1,fI i.2.2.2.2.2.2.2.1,fI i.2.2.2.2.2.2.2.2.1,fI i.2.2.2.2.2.2.2.2.2.1,fEq i.2.2.2.2.2.2.2.2.2.2.2.2],aD i.2.2.2.2.2.2.2.2.2.2.2.1 70 aQ i.2.2.2.1,aD i.2.2.2.2.2.2.2.2.2.2.2.2 67 cA i.2.2.2.2.2.2.2.2.2.2.1]) (fuel,a1,y1,[],a0.CodeProg.Free,a0.CodeProg.Defs,a0.CodeProg.Code,a0.CodeProg.Main,a0.chans,a0.spots,a0.acts,(.slice none 0 0),v1) H (Sc (Sc (Sc (Sc (Sc aV.nil))))) rfl ?_
 clear H;rintro⟨k1,x11,x12,x13,x14,x15,x16,x17,x18,x19,x20,v4,v5⟩ H
 replace H:fZ (kA fuel) a2 k1 x11 x12 x13 x14 x15 x16 x17 x18 x19 x20=_:=H
 try dsimp only
 obtain _ | k1:=k1
 rw [fZ]at H;cases H
 rw [fZ]at H
 refine aB 1 rfl (fun hc_v4=>?_)
 refine aB 2 rfl (fun hc_v5=>?_)
 refine Z8 ?_
 revert H;refine bs fun y2 h2 H=>?_
 refine Z2 ?_
 refine fP trivial rfl rfl (cR rfl qK rfl) (fun b1=>?_)
 refine cW (φs':=[fI y2.Op,fI y2.A,fI y2.B]) trivial rfl rfl (has rfl) (has rfl) (aN (aG trivial) (aN (aG trivial) (aN (aG trivial) bZ))) (sz rfl) rfl rfl rfl ?_
 refine Z3 ?_
 revert H;refine bs fun z1 h3 H=>?_
 refine Z12 ?_
 revert H;refine is (fun c1 H=>?_) fun c1 H=>?_
 refine Z5 ?_
 refine Yy (eS (ψs:=[fI 1,fI y2.A]) rfl oP rfl (aZ.cons (has rfl) (bY (aG trivial)) (aZ.cons (has rfl) (bY (aG trivial)) aZ.nil)) rfl) ?_
 refine fP trivial rfl rfl (eQ (t:=aQ) (xs:=[(⟨1,y2.A⟩:SolVal)]) rfl (et rfl) (bS.cons rfl (has rfl) bP bS.nil) rfl rfl rfl) (fun b2=>?_)
 generalize (Value.slice (some ⟨b2,0,none⟩) _ _)=v6
 refine aB 0 rfl (fun hc_v6=>?_)
 revert H;refine bs fun z2 h4 H=>?_
 refine bC ?_
 refine aP ?_
 refine gJ trivial rfl rfl rfl (has rfl) (has rfl) (et rfl) rfl h4 (fun v7=>?_)
 refine aB 0 rfl (fun hc_v7=>?_)
 refine Z5 ?_
 refine aC [2,0,3] (by decide) ?_
 exact bB ((k1,z1,x12,z2,x14,x15,x16,x17,x18,x19,x20,v7,v5)) ⟨H,Nat.lt_succ_self _⟩ (Sc (Sc (Sc (Sc (Sc aV.nil))))) rfl
 refine Z5 ?_
 revert H;refine is (fun c2 H=>?_) fun c2 H=>?_
 refine Z6 ?_
 revert H;refine bs fun y3 h5 H=>?_
 refine Z2 ?_
 refine fP trivial rfl rfl (eQ (t:=aQ) (xs:=[y3]) rfl (et rfl) (bS.cons rfl (has rfl) bP bS.nil) rfl rfl rfl) (fun b3=>?_)
 generalize (Value.slice (some ⟨b3,0,none⟩) _ _)=v8
 refine aB 0 rfl (fun hc_v8=>?_)
 revert H;refine bs fun z3 h6 H=>?_
 refine bC ?_
 refine aP ?_
 refine gJ trivial rfl rfl rfl (has rfl) (has rfl) (et rfl) rfl h6 (fun v9=>?_)
 refine aB 0 rfl (fun hc_v9=>?_)
 refine Z5 ?_
 refine aC [2,0,3] (by decide) ?_
 exact bB ((k1,z1,x12,z3,x14,x15,x16,x17,x18,x19,x20,v9,v5)) ⟨H,Nat.lt_succ_self _⟩ (Sc (Sc (Sc (Sc (Sc aV.nil))))) rfl
 refine Z5 ?_
 revert H;refine is (fun c3 H=>?_) fun c3 H=>?_
 refine Z6 ?_
 revert H;refine bs fun z4 h7 H=>?_
 refine Z3 ?_
 refine aL ?_
 revert H;refine bs fun y4 h8 H=>?_
 revert H;refine bs fun y5 h9 H=>?_
 apply bO (ods:=[_,_,_,_,_,_,_,_,_,_]) 10 0 4 bM rfl rfl rfl
 refine ND ?_
 refine M8 ?_
 intros
 refine M1 ?_
 intros
 refine Mo 2 rfl (aBH (l:=z4) (h:=(x13.length:Int)) rfl hh (mH hh) nH (el rfl) h9) fun _=>?_
 refine Z1 ?_
 refine bC ?_
 refine aO ?_
 refine fQ (x:=(⟨(⟨x14,x15,x16,x17⟩:CodeProg),x18,x19,x20⟩:aY)) ?_
 refine aO ?_
 refine aP ?_
 revert H;refine bs fun y6 h10 H=>?_
 refine dE trivial rfl rfl rfl hh (aE.cons hh (aE.cons hh (aE.cons hh (aE.cons hh aE.nil)))) rfl (cb rfl) (aHT p0 (aD v4 70 aQ x13) (rH v4 2 (Int.toNat z4) (Int.toNat (x13.length:Int))) [(v4,fSl0 aQ x13)] (⟨(⟨x14,x15,x16,x17⟩:CodeProg),x18,x19,x20⟩:aY) y4 a2 y5 y6 (gI.cons aBp gI.nil) (aBT (t:=aQ) 0 rfl (aBu h9)) h10) rfl ?_
 refine gR (fun v10=>?_)
 refine aB 1 rfl (fun hc_v10=>?_)
 refine Z4 ?_
 revert H;refine bs fun y7 h11 H=>?_
 refine Yo 2 rfl (pI rfl hh hh (el rfl) h11) ?_
 refine aO ?_
 refine oK 88 rfl h11 (fun v11=>?_)
 refine aB 0 rfl (fun hc_v11=>?_)
 refine Z5 ?_
 refine aC [1,0,2] (by decide) ?_
 exact bB ((k1,z1,x12,y7,y6.CodeProg.Free,y6.CodeProg.Defs,y6.CodeProg.Code,y6.CodeProg.Main,y6.chans,y6.spots,y6.acts,v11,v10)) ⟨H,Nat.lt_succ_self _⟩ (Sc (Sc (Sc (Sc (Sc aV.nil))))) rfl
 exact fk
 kernel_rfl
 refine Z5 ?_
 revert H;refine is (fun c4 H=>?_) fun c4 H=>?_
 refine Z5 ?_
 revert H;refine bs fun z5 h12 H=>?_
 refine Z1 ?_
 revert H;refine bs fun y8 h13 H=>?_
 refine Z1 ?_
 refine Yo 2 rfl (rD rfl rfl hh (ag rfl) (cU h13)) ?_
 refine fP trivial rfl rfl (cR rfl wM rfl) (fun b4=>?_)
 refine cW (φs':=[fI y8.Kind,fI y8.N]) trivial rfl rfl (has rfl) (has rfl) (aN (aG trivial) (aN (aG trivial) bZ)) (sz rfl) rfl rfl rfl ?_
 refine Z5 ?_
 revert H;refine bs fun z6 h14 H=>?_
 refine Z1 ?_
 revert H;refine bs fun y9 h15 H=>?_
 refine Yo 3 rfl (pI rfl hh hh (el rfl) h15) ?_
 refine bC ?_
 refine oK 101 rfl h15 (fun v12=>?_)
 refine aB 0 rfl (fun hc_v12=>?_)
 refine Z4 ?_
 revert H;refine bs fun y10 h16 H=>?_
 refine dE trivial rfl rfl rfl hh (aE.cons hh aE.nil) rfl (cb rfl) (aAB (⟨y8.Kind,y8.N⟩:SolVal) y10 h16) rfl ?_
 refine Z2 ?_
 revert H;refine is (fun c5 H=>?_) fun c5 H=>?_
 refine Z9 ?_
 refine aC [3,0,4] (by decide) ?_
 exact bB ((k1,y2.A,x12,y9,x14,x15,x16,x17,x18,x19,x20,v12,v5)) ⟨H,Nat.lt_succ_self _⟩ (Sc (Sc (Sc (Sc (Sc aV.nil))))) rfl
 refine Z5 ?_
 refine aC [3,0,4] (by decide) ?_
 exact bB ((k1,z1,x12,y9,x14,x15,x16,x17,x18,x19,x20,v12,v5)) ⟨H,Nat.lt_succ_self _⟩ (Sc (Sc (Sc (Sc (Sc aV.nil))))) rfl
 refine Z5 ?_
 revert H;refine is (fun c6 H=>?_) fun c6 H=>?_
 refine Z9 ?_
 refine aC [1,2,3] (by decide) ?_
 exact bB ((k1,y2.A,x12,x13,x14,x15,x16,x17,x18,x19,x20,v4,v5)) ⟨H,Nat.lt_succ_self _⟩ (Sc (Sc (Sc (Sc (Sc aV.nil))))) rfl
 refine Z5 ?_
 revert H;refine is (fun c7 H=>?_) fun c7 H=>?_
 refine Z7 ?_
 refine bC ?_
 refine aO ?_
 refine fQ (x:=(⟨(⟨x14,x15,x16,x17⟩:CodeProg),x18,x19,x20⟩:aY)) ?_
 revert H;refine bs fun y11 h17 H=>?_
 rcases y11 with y11 | pv1 <;> dsimp only at H
 refine dE trivial rfl rfl rfl hh (aE.cons hh (aE.cons hh (aE.cons hh (aE.cons hh aE.nil)))) rfl (cb rfl) (ih_code_runner_def p0 (⟨(⟨x14,x15,x16,x17⟩:CodeProg),x18,x19,x20⟩:aY) y2.A a2 x12 (Sum.inl y11) h17).s rfl ?_
 refine gR (fun v13=>?_)
 refine aB 1 rfl (fun hc_v13=>?_)
 refine Z5 ?_
 refine aC [0,3,1] (by decide) ?_
 exact bB ((k1,z1,y11.2,x13,y11.1.CodeProg.Free,y11.1.CodeProg.Defs,y11.1.CodeProg.Code,y11.1.CodeProg.Main,y11.1.chans,y11.1.spots,y11.1.acts,v4,v13)) ⟨H,Nat.lt_succ_self _⟩ (Sc (Sc (Sc (Sc (Sc aV.nil))))) rfl
 refine yC trivial rfl (has rfl) (aE.cons (has rfl) (aE.cons (has rfl) (aE.cons (has rfl) (aE.cons (has rfl) aE.nil)))) rfl (cb rfl) (ih_code_runner_def p0 (⟨(⟨x14,x15,x16,x17⟩:CodeProg),x18,x19,x20⟩:aY) y2.A a2 x12 (Sum.inr pv1) h17).pan rfl ?_
 refine Z4 ?_
 refine aHy ?_
 cases H
 exact bJ
 refine Z5 ?_
 revert H;refine is (fun c8 H=>?_) fun c8 H=>?_
 refine Z5 ?_
 revert H;refine bs fun y12 h18 H=>?_
 refine Yy (rN (t:=aQ) rfl hh nH (mH hh) (el rfl) h18) ?_
 refine Z5 ?_
 refine aC [1,2,3] (by decide) ?_
 exact bB ((k1,z1,y12,x13,x14,x15,x16,x17,x18,x19,x20,v4,v5)) ⟨H,Nat.lt_succ_self _⟩ (Sc (Sc (Sc (Sc (Sc aV.nil))))) rfl
 refine Z1 ?_
 revert H;refine bs fun o1 H Hr1=>?_
 refine aT (ι:=Bool) (fun i=>o1=i) (fun i=>[(0,fEq (ptr p0)),(1,fI z1),(2,fI a2),(8,fSl aQ x12),(9,fEq v4),(10,fEq (ptr b1)),(27,fI y2.Op),(125,aJ i)]) (fun i=>[aA b1 73 [fI y2.Op,fI y2.A,fI y2.B],aA p0 125 [fI x14,fSl aF x15,fSl aH x16,fI x17,fI x18,fI x19,fEq v5],aD v4 70 aQ x13,aD v5 67 cA x20]) ?_ ?_
 refine Z4 ?_
 revert H;refine is (fun c9 H=>?_) fun c9 H=>?_
 refine Z3 ?_
 exact bB (decide (y2.Op=13)) (Option.some.inj H).symm (Sc (Sc (Sc (Sc (Sc (Sc (Sc (Sc aV.nil)))))))) rfl
 refine Z5 ?_
 revert H;refine is (fun c10 H=>?_) fun c10 H=>?_
 refine Z3 ?_
 exact bB (decide (y2.Op=14)) (Option.some.inj H).symm (Sc (Sc (Sc (Sc (Sc (Sc (Sc (Sc aV.nil)))))))) rfl
 refine Z5 ?_
 exact bB (decide (y2.Op=15)) (Option.some.inj H).symm (Sc (Sc (Sc (Sc (Sc (Sc (Sc (Sc aV.nil)))))))) rfl
 clear H;intro x21 hi;subst o1;have H:=Hr1;clear Hr1;try dsimp only at H
 try dsimp only
 revert H;refine cs (fun c11 H=>?_) fun c11 H=>?_
 refine Z5 ?_
 revert H;refine bs fun z7 h19 H=>?_
 refine Z2 ?_
 refine bC ?_
 refine aO ?_
 refine fQ (x:=(⟨(⟨x14,x15,x16,x17⟩:CodeProg),x18,x19,x20⟩:aY)) ?_
 refine xO ?_
 refine aP ?_
 revert H;refine bs fun y13 h20 H=>?_
 refine dE trivial rfl rfl rfl hh (aE.cons hh (aE.cons hh (aE.cons hh (aE.cons hh (aE.cons hh aE.nil))))) rfl (cb rfl) (yG p0 cV (fSl aQ x12) [] (⟨(⟨x14,x15,x16,x17⟩:CodeProg),x18,x19,x20⟩:aY) 4 a2 z7 x12 y13 aAq (zI Ent.rfl) h20) rfl ?_
 refine gR (fun v14=>?_)
 refine aB 1 rfl (fun hc_v14=>?_)
 refine Z4 ?_
 refine aC [0,4,1] (by decide) ?_
 exact bB ((k1,z1,x12,x13,y13.CodeProg.Free,y13.CodeProg.Defs,y13.CodeProg.Code,y13.CodeProg.Main,y13.chans,y13.spots,y13.acts,v4,v14)) ⟨H,Nat.lt_succ_self _⟩ (Sc (Sc (Sc (Sc (Sc aV.nil))))) rfl
 refine Z5 ?_
 revert H;refine is (fun c12 H=>?_) fun c12 H=>?_
 refine Z6 ?_
 refine T_ng_n ?_
 refine bC ?_
 refine aO ?_
 refine fQ (x:=(⟨(⟨x14,x15,x16,x17⟩:CodeProg),x18,x19,x20⟩:aY)) ?_
 cases H
 refine gP ?_
 refine aC [0] (by decide) ?_
 exact cJ (.inr rfl) rfl rfl
 refine Z4 ?_
 revert H;refine bs fun z8 h21 H=>?_
 refine Z3 ?_
 refine aL ?_
 revert H;refine bs fun y14 h22 H=>?_
 revert H;refine bs fun z9 h23 H=>?_
 revert H;refine bs fun y15 h24 H=>?_
 revert H;refine bs fun y16 h25 H=>?_
 revert H;refine bs fun y17 h26 H=>?_
 apply bO (ods:=[_,_,_,_,_,_,_,_,_,_,_,_,_,_,_]) 15 0 4 bM rfl rfl rfl
 refine ND ?_
 refine M7 ?_
 intros
 refine Mo 2 rfl (rD rfl rfl hh (ag rfl) (cU h22)) fun _=>?_
 refine M4 ?_
 intros
 refine Mo 2 rfl (rD rfl rfl hh (ag rfl) (cU h24)) fun _=>?_
 refine sW (od:=odC [] true (fSt aQ y16) []) (Φ:=fSt aQ y16) rfl (fun _=>rfl) trivial rfl rfl (has rfl) (aE.cons (has rfl) (aE.cons (has rfl) (aE.cons (has rfl) aE.nil))) rfl (cb rfl) (aHs y2.Op y14 y15 y16 h25) (fun _=>?_)
 refine M1 ?_
 intros
 refine Z1 ?_
 refine aO ?_
 refine aEG (z:=y16) trivial rfl rfl rfl (has rfl) (has rfl) (sz rfl) (List.getElem?_eq_some_iff.1 (cU h26)).1 ?_
 refine Z4 ?_
 revert H;refine bs fun z10 h27 H=>?_
 refine Z1 ?_
 revert H;refine bs fun y18 h28 H=>?_
 refine Yo 0 rfl (pI rfl hh hh (el rfl) h28) ?_
 refine oK 49 rfl h28 (fun v15=>?_)
 refine aB 0 rfl (fun hc_v15=>?_)
 refine Z5 ?_
 refine aC [2,0,3] (by decide) ?_
 exact bB ((k1,z1,x12,y18,x14,x15,x16,x17,x18,x19,x20,v15,v5)) ⟨H,Nat.lt_succ_self _⟩ (Sc (Sc (Sc (Sc (Sc aV.nil))))) rfl
 exact fk
 kernel_rfl
 intro p0 a0 a1 a2 a3 r H
 rw [kA]at H
 refine iS Tryz.func95 rfl Tryz.ntmps95 rfl (fun β=>?_)
 refine gR (fun v1=>?_)
 refine aB 1 rfl (fun hc_v1=>?_)
 refine Z10 ?_
 revert H;refine bs fun y1 h1 H=>?_
 refine Z2 ?_
 refine fP trivial rfl rfl (cR rfl tY rfl) (fun b1=>?_)
 refine cW (φs':=[fSl bG y1.Chans,fSl bQ y1.Spots,fSl bR y1.Rules]) trivial rfl rfl (has rfl) (has rfl) (aN (dF) (aN (dF) (aN (dF) bZ))) (sz rfl) rfl rfl rfl ?_
 refine Z5 ?_
 refine aO ?_
 refine aO ?_
 refine fQ (x:=(⟨(⟨a0.CodeProg.Free,a0.CodeProg.Defs,a0.CodeProg.Code,a0.CodeProg.Main⟩:CodeProg),a0.chans,a0.spots,a0.acts⟩:aY)) ?_
 revert H;refine bs fun y2 h2 H=>?_
 rcases y2 with y2 | pv1 <;> dsimp only at H
 refine dE trivial rfl rfl rfl hh (aE.cons hh (aE.cons hh (aE.cons hh aE.nil))) rfl (cb rfl) (aEg fuel p0 (⟨(⟨a0.CodeProg.Free,a0.CodeProg.Defs,a0.CodeProg.Code,a0.CodeProg.Main⟩:CodeProg),a0.chans,a0.spots,a0.acts⟩:aY) (⟨y1.Chans,y1.Spots,y1.Rules⟩:ScopeDef) a3 (Sum.inl y2) h2).s rfl ?_
 refine gR (fun v2=>?_)
 refine aB 1 rfl (fun hc_v2=>?_)
 refine Z7 ?_
 refine fQ (x:=(⟨(⟨y2.1.CodeProg.Free,y2.1.CodeProg.Defs,y2.1.CodeProg.Code,y2.1.CodeProg.Main⟩:CodeProg),y2.1.chans,y2.1.spots,y2.1.acts⟩:aY)) ?_
 refine xO ?_
 refine aP ?_
 revert H;refine bs fun y3 h3 H=>?_
 refine dE trivial rfl rfl rfl hh (aE.cons hh (aE.cons hh (aE.cons hh (aE.cons hh (aE.cons hh aE.nil))))) rfl (cb rfl) (yG p0 cV (fSl aQ y2.2) [] (⟨(⟨y2.1.CodeProg.Free,y2.1.CodeProg.Defs,y2.1.CodeProg.Code,y2.1.CodeProg.Main⟩:CodeProg),y2.1.chans,y2.1.spots,y2.1.acts⟩:aY) 3 a2 a1 y2.2 y3 aAq (zI Ent.rfl) h3) rfl ?_
 refine gR (fun v3=>?_)
 refine aB 1 rfl (fun hc_v3=>?_)
 refine Z8 ?_
 revert H;refine bs fun z1 h4 H=>?_
 refine Z1 ?_
 revert H;refine bs fun y4 h5 H=>?_
 refine Yy (rN (t:=aQ) rfl hh (mH hh) nH (el rfl) h5) ?_
 refine Z2 ?_
 revert H;refine bs fun o1 H Hr1=>?_
 refine aT (ι:=Int × List ScopeDef × List CodeIns × Int × Int × Int × List CodeAct × Value) (fun i=>o1=Sum.inl (i.1,i.2.1,i.2.2.1,i.2.2.2.1,i.2.2.2.2.1,i.2.2.2.2.2.1,i.2.2.2.2.2.2.1)) (fun i=>[(0,fEq (ptr p0)),(10,fSl aQ y2.2)]) (fun i=>[aA p0 125 [fI i.1,fSl aF i.2.1,fSl aH i.2.2.1,fI i.2.2.2.1,fI i.2.2.2.2.1,fI i.2.2.2.2.2.1,fEq i.2.2.2.2.2.2.2],aA b1 63 [fSl bG y1.Chans,fSl bQ y1.Spots,fSl bR y1.Rules],aD i.2.2.2.2.2.2.2 67 cA i.2.2.2.2.2.2.1]) ?_ ?_
 refine Z7 ?_
 refine aC [0,3,1] (by decide) ?_
 refine iT (ι:=Nat × Int × Int × List ScopeDef × List CodeIns × Int × Int × Int × List CodeAct × Value) (fun i=>mK (gW fuel) y1 y2 y4 i.1 i.2.1 i.2.2.1 i.2.2.2.1 i.2.2.2.2.1 i.2.2.2.2.2.1 i.2.2.2.2.2.2.1 i.2.2.2.2.2.2.2.1 i.2.2.2.2.2.2.2.2.1=_) (fun i=>i.1) (fun i=>[(0,fEq (ptr p0)),(10,fSl aQ y2.2),(11,fSl aQ y4),(40,fSl bQ y1.Spots),(41,fI (y1.Spots.length:Int)),(42,fI i.2.1)]) (fun i=>[aA p0 125 [fI i.2.2.1,fSl aF i.2.2.2.1,fSl aH i.2.2.2.2.1,fI i.2.2.2.2.2.1,fI i.2.2.2.2.2.2.1,fI i.2.2.2.2.2.2.2.1,fEq i.2.2.2.2.2.2.2.2.2],aA b1 63 [fSl bG y1.Chans,fSl bQ y1.Spots,fSl bR y1.Rules],aD i.2.2.2.2.2.2.2.2.2 67 cA i.2.2.2.2.2.2.2.2.1]) (fuel,0,y3.CodeProg.Free,y3.CodeProg.Defs,y3.CodeProg.Code,y3.CodeProg.Main,y3.chans,y3.spots,y3.acts,v3) H (Sc (Sc (Sc (Sc (Sc (Sc aV.nil)))))) rfl ?_
 clear H;rintro⟨k1,x16,x17,x18,x19,x20,x21,x22,x23,v6⟩ H
 replace H:mK (gW fuel) y1 y2 y4 k1 x16 x17 x18 x19 x20 x21 x22 x23=_:=H
 try dsimp only
 obtain _ | k1:=k1
 rw [mK]at H;cases H
 rw [mK]at H
 refine aB 2 rfl (fun hc_v6=>?_)
 refine Z3 ?_
 refine aL ?_
 revert H;refine is (fun c1 H=>?_) fun c1 H=>?_
 refine Z3 ?_
 refine aL ?_
 refine Z3 ?_
 revert H;refine bs fun y5 h6 H=>?_
 refine Z2 ?_
 refine fP trivial rfl rfl (cR rfl yE rfl) (fun b2=>?_)
 refine Z1 ?_
 refine cW (φs':=[fI y5.In,fI y5.Node]) trivial rfl rfl (has rfl) (has rfl) (aN (aG trivial) (aN (aG trivial) bZ)) (sz rfl) rfl rfl rfl ?_
 refine Z1 ?_
 revert H;refine bs fun y6 h7 H=>?_
 apply bO (ods:=[_,_,_,_,_,_,_,_,_]) 9 0 4 bM rfl rfl rfl
 refine ND ?_
 refine M8 ?_
 intros
 refine M1 ?_
 intros
 refine Z1 ?_
 refine bC ?_
 refine aO ?_
 refine fQ (x:=(⟨(⟨x17,x18,x19,x20⟩:CodeProg),x21,x22,x23⟩:aY)) ?_
 revert H;refine bs fun y7 h8 H=>?_
 rcases y7 with y7 | pv2 <;> dsimp only at H
 refine dE trivial rfl rfl rfl hh (aE.cons hh (aE.cons hh (aE.cons hh (aE.cons hh aE.nil)))) rfl (cb rfl) (ih_code_runner_run p0 (⟨(⟨x17,x18,x19,x20⟩:CodeProg),x21,x22,x23⟩:aY) y5.Node y6.N y2.2 (Sum.inl y7) h8).s rfl ?_
 refine gR (fun v7=>?_)
 refine aB 1 rfl (fun hc_v7=>?_)
 refine Z4 ?_
 revert H;refine bs fun z2 h9 H=>?_
 refine Z3 ?_
 refine aC [0,3,1] (by decide) ?_
 exact bB ((k1,z2,y7.CodeProg.Free,y7.CodeProg.Defs,y7.CodeProg.Code,y7.CodeProg.Main,y7.chans,y7.spots,y7.acts,v7)) ⟨H,Nat.lt_succ_self _⟩ (Sc (Sc (Sc (Sc (Sc (Sc aV.nil)))))) rfl
 refine yC trivial rfl (has rfl) (aE.cons (has rfl) (aE.cons (has rfl) (aE.cons (has rfl) (aE.cons (has rfl) aE.nil)))) rfl (cb rfl) (ih_code_runner_run p0 (⟨(⟨x17,x18,x19,x20⟩:CodeProg),x21,x22,x23⟩:aY) y5.Node y6.N y2.2 (Sum.inr pv2) h8).pan rfl ?_
 refine Z5 ?_
 revert H;refine bs fun r1 H e1=>?_
 have e1:=Option.some.inj e1;subst e1;have Hr1:=Option.some.inj Hr1;subst Hr1
 cases H
 exact bJ
 exact fk
 kernel_rfl
 refine Z6 ?_
 exact bB ((x17,x18,x19,x20,x21,x22,x23,v6)) (Option.some.inj H).symm (Sc (Sc aV.nil)) rfl
 clear H;intro i hi;obtain⟨x1,x2,x3,x4,x5,x6,x7,v4⟩:=i;subst o1;have H:=Hr1;clear Hr1;try dsimp only at H
 try dsimp only
 refine aB 2 rfl (fun hc_v4=>?_)
 refine Z5 ?_
 refine aO ?_
 refine aP ?_
 refine fQ (x:=(⟨(⟨x1,x2,x3,x4⟩:CodeProg),x5,x6,x7⟩:aY)) ?_
 cases H
 refine gP ?_
 refine aC [0] (by decide) ?_
 exact eB rfl (bV rfl) rfl
 refine yC trivial rfl (has rfl) (aE.cons (has rfl) (aE.cons (has rfl) (aE.cons (has rfl) aE.nil))) rfl (cb rfl) (aEg fuel p0 (⟨(⟨a0.CodeProg.Free,a0.CodeProg.Defs,a0.CodeProg.Code,a0.CodeProg.Main⟩:CodeProg),a0.chans,a0.spots,a0.acts⟩:aY) (⟨y1.Chans,y1.Spots,y1.Rules⟩:ScopeDef) a3 (Sum.inr pv1) h2).pan rfl ?_
 refine Z1 ?_
 cases H
 exact bJ
theorem aCL (fuel:Nat) (p0:Nat) (a0:aY) (a1:Int) (a2:Int) (a3:List SolVal) (r:aY ⊕ Value) (H:gW fuel a0 a1 a2 a3=some r):FnE Tryz.prog 53 [fEq (.pointer (some ⟨p0,0,none⟩)),fI a1,fI a2,fSl aQ a3] [gQ p0 a0] r (fun r=>dJ []) (fun r=>[gQ p0 r]):=(aHv fuel).1 p0 a0 a1 a2 a3 r H
open Go.SX Go.SW Go.Dt
theorem aGY (p0 p1:Nat) (φ0 φ1:Fact):FnD Tryz.prog 52 [fEq (ptr p0),fEq (ptr p1)] [aA p0 48 [φ0],aA p1 29 [φ1]] (.returning) [aA p0 48 [φ0],aA p1 29 [φ1]]:=by
 refine zU Tryz.func52 rfl Tryz.ntmps52 rfl (fun β c₀ cs hc=>?_)
 refine aEN (v:= .nilIface) (cs':=c₀ :: cs) (by simp [recoverD,hc]) rfl rfl rfl rfl rfl rfl ⟨rfl,rfl⟩ ?_
 refine T_inS ?_
 refine Z2 ?_
 refine Yy (aDU rfl hh zF (rfl:oA _=some true)) ?_
 refine Z3 ?_
 exact zO (u':= .returning) (.inr rfl) rfl (by cases c₀;cases hc;rfl) rfl rfl
theorem aHd (p0 p1:Nat) (φ0 φ1:Fact) (e1:Int):FnD Tryz.prog 52 [fEq (ptr p0),fEq (ptr p1)] [aA p0 48 [φ0],aA p1 29 [φ1]] (.panicking [{ v:=(.iface 29 (.int .i64 e1)),recovered:=false }]) [aA p0 48 [fEq (.slice none 0 0)],aA p1 29 [fI e1]]:=by
 refine zU Tryz.func52 rfl Tryz.ntmps52 rfl (fun β c₀ cs hc=>?_)
 refine aEN (v:=(.iface 29 (.int .i64 e1))) (cs':={ c₀ with mode:= .panicking [{ v:=(.iface 29 (.int .i64 e1)),recovered:=true }] } :: cs) (by simp [recoverD,hc]) rfl rfl rfl rfl rfl rfl ⟨rfl,rfl⟩ ?_
 refine T_inS ?_
 refine Z2 ?_
 refine Yy (aDU rfl hh zF (rfl:oA _=some false)) ?_
 refine Z2 ?_
 apply bO (ods:=[_,_,_,_]) 4 0 2 bM rfl rfl rfl
 refine ND ?_
 refine M1 ?_
 intros
 refine My (aHj (φ:=fI e1) rfl hh aBx Ent.rfl) fun _=>?_
 refine sY (od:=odC [0] true (fK) [aA p0 48 [fEq (.slice none 0 0)]]) (p:=0) (φs':=[fEq (.slice none 0 0)]) rfl (fun _=>rfl) (fun _=>rfl) trivial rfl rfl rfl (has rfl) (has rfl) (aG trivial) (sz rfl) rfl rfl (fun _=>?_)
 refine sY (od:=odC [1] true (fK) [aA p1 29 [fI e1]]) (p:=1) (φs':=[fI e1]) rfl (fun _=>rfl) (fun _=>rfl) trivial rfl rfl rfl (has rfl) (has rfl) (aG trivial) (sz rfl) rfl rfl (fun _=>?_)
 refine Z2 ?_
 exact zO (u':= .panicking [{ v:=(.iface 29 (.int .i64 e1)),recovered:=true }]) (.inr rfl) rfl rfl rfl rfl
 exact fk
 kernel_rfl
def kV (a3:List SolVal):Nat → Int → Int → (List ScopeDef) → (List CodeIns) → Int → Int → Int → (List CodeAct) → Option ((Int × List ScopeDef × List CodeIns × Int × Int × Int × List CodeAct) ⊕ ((List CodeAct) × Int))
| 0,_,_,_,_,_,_,_,_=>none
| k+1,x16,x17,x18,x19,x20,x21,x22,x23=>
 if x16<(a3.length:Int)then
  (idx a3 x16).bind fun y4=>
  (tQ (⟨(⟨x17,x18,x19,x20⟩:CodeProg),x21,x22,x23⟩:aY) (⟨y4.Kind,y4.N⟩:SolVal)).bind fun y5=>
  bif y5.2 then
   (chk (x16+1)).bind fun z1=>
   kV a3 k z1 y5.1.CodeProg.Free y5.1.CodeProg.Defs y5.1.CodeProg.Code y5.1.CodeProg.Main y5.1.chans y5.1.spots y5.1.acts
  else
   (some ([],2)).bind fun r=>some (Sum.inr r)
 else
  some (Sum.inl (x17,x18,x19,x20,x21,x22,x23))
def jM (fuel:Nat) (a0:CodeProg) (a1:Int) (a2:Int) (a3:List SolVal) (a4:Int) (a5:Int):Option ((List CodeAct) × Int):=
 (fE fuel (⟨a0.Free,a0.Defs,a0.Code,a0.Main⟩:CodeProg)).bind fun y1=>
 bif !y1.2 then
  some ([],2)
 else
  (y1.1).bind fun y2=>
  (sP fuel y2.begins a1).bind fun y3=>
  bif !y3 then
   some ([],2)
  else
   if (a3.length:Int)≠(((y2.levels.get a1).getD (⟨0,0⟩:CodeLevel)).Slots)then
    some ([],2)
   else
    if a4<0 then
     some ([],2)
    else
     if 60<a4 then
      some ([],2)
     else
      if a5<1 then
       some ([],2)
      else
       if 24<a5 then
        some ([],2)
       else
        if a2<0 then
         some ([],2)
        else
         if a5 ≤ a2 then
          some ([],2)
         else
          (kV a3 fuel 0 a0.Free a0.Defs a0.Code a0.Main a4 a5 []).bind fun o=>match o with
          | Sum.inr r=>some r
          | Sum.inl (x1,x2,x3,x4,x5,x6,x7)=>
          (gW fuel (⟨(⟨x1,x2,x3,x4⟩:CodeProg),x5,x6,x7⟩:aY) a1 a2 a3).bind fun y6=>
          match y6 with
          | Sum.inr pv1=>(unN 29 .i64 pv1).bind fun e2=>some ([],e2)
          | Sum.inl y6=>
          some (y6.acts,0)
theorem aGM (fuel:Nat)  (a0:CodeProg) (a1:Int) (a2:Int) (a3:List SolVal) (a4:Int) (a5:Int) (r:(List CodeAct) × Int) (H:jM fuel a0 a1 a2 a3 a4 a5=some r):FnS Tryz.prog 17 [fSt fR a0,fI a1,fI a2,fSl aQ a3,fI a4,fI a5] [] (dJ [fSl cA r.1,fI r.2]) (fun _=>[]):=by
 unfold jM at H
 refine aEI Tryz.func17 rfl Tryz.ntmps17 rfl (fun β=>?_)
 refine Z1 ?_
 refine Tn (cG rfl hh bP) fun b1=>?_
 refine Tn (cR rfl ty_ze_48 rfl) fun b2=>?_
 refine Tn (cR rfl ty_ze_29 rfl) fun b3=>?_
 revert H;refine B3 fun y1 h1 H=>?_
 refine Tc (aFP _ _ _ h1) ?_
 refine Z6 ?_
 refine aL ?_
 refine Z4 ?_
 revert H;refine cs (fun c1 H=>?_) fun c1 H=>?_
 refine Z12 ?_
 refine Z12 ?_
 refine Z12 ?_
 refine Z12 ?_
 refine aP ?_
 refine bW (φs':=[fEq (.slice none 0 0)]) trivial rfl rfl (has rfl) (has rfl) (aG trivial) (sz rfl) rfl rfl ?_
 refine aP ?_
 refine bW (φs':=[fI 2]) trivial rfl rfl (has rfl) (has rfl) (aG trivial) (sz rfl) rfl rfl ?_
 refine Z2 ?_
 cases H
 refine aC [1,0] (by decide) ?_
 exact lL (eO rfl rfl rfl (sc rfl) (sc rfl) dK Ent.rfl)
 revert H;refine B1 fun y2 h2 H=>?_
 refine pX 22 rfl (aBk h2) ?_
 refine pX 14 rfl (aBk h2) ?_
 refine pX 27 rfl (aBk h2) ?_
 revert H;refine B4 fun y3 h3 H=>?_
 refine Tc (aDN _ _ _ _ h3) ?_
 refine Z3 ?_
 revert H;refine cs (fun c2 H=>?_) fun c2 H=>?_
 refine Z12 ?_
 refine Z12 ?_
 refine Z12 ?_
 refine Z3 ?_
 refine aP ?_
 refine bW (φs':=[fEq (.slice none 0 0)]) trivial rfl rfl (has rfl) (has rfl) (aG trivial) (sz rfl) rfl rfl ?_
 refine aP ?_
 refine bW (φs':=[fI 2]) trivial rfl rfl (has rfl) (has rfl) (aG trivial) (sz rfl) rfl rfl ?_
 refine Z2 ?_
 cases H
 refine aC [1,0] (by decide) ?_
 exact lL (eO rfl rfl rfl (sc rfl) (sc rfl) dK Ent.rfl)
 refine Z4 ?_
 refine Yg c2 (eH (t':=(tMapD bH (fun y=>fSt bA y))) (z:=y2.levels) rfl (has rfl) (fa rfl) rfl) ?_
 refine Z2 ?_
 refine Yg c2 (o_lookup (zα:=(⟨0,0⟩:CodeLevel)) (k:=a1) rfl hh hh rfl uS (tC [(.int .i64 0),(.int .i64 0)])) ?_
 refine Yg c2 (o_fieldV 1 rfl hh (by kernel_rfl) rfl) ?_
 revert H;refine I3 (fun c3 H=>?_) fun c3 H=>?_
 refine Z12 ?_
 refine Z12 ?_
 refine Z3 ?_
 refine aP ?_
 refine bW (φs':=[fEq (.slice none 0 0)]) trivial rfl rfl (has rfl) (has rfl) (aG trivial) (sz rfl) rfl rfl ?_
 refine aP ?_
 refine bW (φs':=[fI 2]) trivial rfl rfl (has rfl) (has rfl) (aG trivial) (sz rfl) rfl rfl ?_
 refine Z2 ?_
 cases H
 refine aC [1,0] (by decide) ?_
 exact lL (eO rfl rfl rfl (sc rfl) (sc rfl) dK Ent.rfl)
 revert H;refine I4 (fun c4 H=>?_) fun c4 H=>?_
 refine Z12 ?_
 refine Z11 ?_
 refine aP ?_
 refine bW (φs':=[fEq (.slice none 0 0)]) trivial rfl rfl (has rfl) (has rfl) (aG trivial) (sz rfl) rfl rfl ?_
 refine aP ?_
 refine bW (φs':=[fI 2]) trivial rfl rfl (has rfl) (has rfl) (aG trivial) (sz rfl) rfl rfl ?_
 refine Z2 ?_
 cases H
 refine aC [1,0] (by decide) ?_
 exact lL (eO rfl rfl rfl (sc rfl) (sc rfl) dK Ent.rfl)
 revert H;refine I4 (fun c5 H=>?_) fun c5 H=>?_
 refine Z12 ?_
 refine Z7 ?_
 refine aP ?_
 refine bW (φs':=[fEq (.slice none 0 0)]) trivial rfl rfl (has rfl) (has rfl) (aG trivial) (sz rfl) rfl rfl ?_
 refine aP ?_
 refine bW (φs':=[fI 2]) trivial rfl rfl (has rfl) (has rfl) (aG trivial) (sz rfl) rfl rfl ?_
 refine Z2 ?_
 cases H
 refine aC [1,0] (by decide) ?_
 exact lL (eO rfl rfl rfl (sc rfl) (sc rfl) dK Ent.rfl)
 revert H;refine I4 (fun c6 H=>?_) fun c6 H=>?_
 refine Z12 ?_
 refine Z3 ?_
 refine aP ?_
 refine bW (φs':=[fEq (.slice none 0 0)]) trivial rfl rfl (has rfl) (has rfl) (aG trivial) (sz rfl) rfl rfl ?_
 refine aP ?_
 refine bW (φs':=[fI 2]) trivial rfl rfl (has rfl) (has rfl) (aG trivial) (sz rfl) rfl rfl ?_
 refine Z2 ?_
 cases H
 refine aC [1,0] (by decide) ?_
 exact lL (eO rfl rfl rfl (sc rfl) (sc rfl) dK Ent.rfl)
 revert H;refine I4 (fun c7 H=>?_) fun c7 H=>?_
 refine Z11 ?_
 refine aP ?_
 refine bW (φs':=[fEq (.slice none 0 0)]) trivial rfl rfl (has rfl) (has rfl) (aG trivial) (sz rfl) rfl rfl ?_
 refine aP ?_
 refine bW (φs':=[fI 2]) trivial rfl rfl (has rfl) (has rfl) (aG trivial) (sz rfl) rfl rfl ?_
 refine Z2 ?_
 cases H
 refine aC [1,0] (by decide) ?_
 exact lL (eO rfl rfl rfl (sc rfl) (sc rfl) dK Ent.rfl)
 revert H;refine I4 (fun c8 H=>?_) fun c8 H=>?_
 refine Z7 ?_
 refine aP ?_
 refine bW (φs':=[fEq (.slice none 0 0)]) trivial rfl rfl (has rfl) (has rfl) (aG trivial) (sz rfl) rfl rfl ?_
 refine aP ?_
 refine bW (φs':=[fI 2]) trivial rfl rfl (has rfl) (has rfl) (aG trivial) (sz rfl) rfl rfl ?_
 refine Z2 ?_
 cases H
 refine aC [1,0] (by decide) ?_
 exact lL (eO rfl rfl rfl (sc rfl) (sc rfl) dK Ent.rfl)
 revert H;refine I5 (fun c9 H=>?_) fun c9 H=>?_
 refine Z2 ?_
 refine aP ?_
 refine bW (φs':=[fEq (.slice none 0 0)]) trivial rfl rfl (has rfl) (has rfl) (aG trivial) (sz rfl) rfl rfl ?_
 refine aP ?_
 refine bW (φs':=[fI 2]) trivial rfl rfl (has rfl) (has rfl) (aG trivial) (sz rfl) rfl rfl ?_
 refine Z2 ?_
 cases H
 refine aC [1,0] (by decide) ?_
 exact lL (eO rfl rfl rfl (sc rfl) (sc rfl) dK Ent.rfl)
 refine Z7 ?_
 refine Yy (eS (ψs:=[fI a0.Free,fSl aF a0.Defs,fSl aH a0.Code,fI a0.Main,fI a4,fI a5,fEq (.slice none 0 0)]) rfl aGE rfl (aZ.cons (has rfl) bP (aZ.cons (has rfl) (bY (aG trivial)) (aZ.cons (has rfl) (bY (aG trivial)) aZ.nil))) rfl) ?_
 refine Tn (cG rfl hh bP) fun b4=>?_
 revert H;refine B2 fun o1 H Hr1=>?_
 refine aT (ι:=Int × List ScopeDef × List CodeIns × Int × Int × Int × List CodeAct × Value) (fun i=>o1=Sum.inl (i.1,i.2.1,i.2.2.1,i.2.2.2.1,i.2.2.2.2.1,i.2.2.2.2.2.1,i.2.2.2.2.2.2.1)) (fun i=>[(1,fI a1),(2,fI a2),(3,fSl aQ a3),(12,fEq (ptr b2)),(13,fEq (ptr b3)),(16,fEq (ptr b4))]) (fun i=>[aA b4 125 [fI i.1,fSl aF i.2.1,fSl aH i.2.2.1,fI i.2.2.2.1,fI i.2.2.2.2.1,fI i.2.2.2.2.2.1,fEq i.2.2.2.2.2.2.2],aA b3 29 [fI 0],aA b2 48 [fEq (.slice none 0 0)],aA b1 25 [fI a0.Free,fSl aF a0.Defs,fSl aH a0.Code,fI a0.Main],aD i.2.2.2.2.2.2.2 67 cA i.2.2.2.2.2.2.1]) ?_ ?_
 refine Z6 ?_
 refine eW cA 67 ?_
 refine aC [1,2,3,4,0] (by decide) ?_
 refine Tl (ι:=Nat × Int × Int × List ScopeDef × List CodeIns × Int × Int × Int × List CodeAct × Value) (fun i=>kV a3 i.1 i.2.1 i.2.2.1 i.2.2.2.1 i.2.2.2.2.1 i.2.2.2.2.2.1 i.2.2.2.2.2.2.1 i.2.2.2.2.2.2.2.1 i.2.2.2.2.2.2.2.2.1=_) (fun i=>i.1) (fun i=>[(1,fI a1),(2,fI a2),(3,fSl aQ a3),(12,fEq (ptr b2)),(13,fEq (ptr b3)),(16,fEq (ptr b4)),(77,fSl aQ a3),(78,fI (a3.length:Int)),(79,fI i.2.1)]) (fun i=>[aA b4 125 [fI i.2.2.1,fSl aF i.2.2.2.1,fSl aH i.2.2.2.2.1,fI i.2.2.2.2.2.1,fI i.2.2.2.2.2.2.1,fI i.2.2.2.2.2.2.2.1,fEq i.2.2.2.2.2.2.2.2.2],aA b3 29 [fI 0],aA b2 48 [fEq (.slice none 0 0)],aA b1 25 [fI a0.Free,fSl aF a0.Defs,fSl aH a0.Code,fI a0.Main],aD i.2.2.2.2.2.2.2.2.2 67 cA i.2.2.2.2.2.2.2.2.1]) (fuel,0,a0.Free,a0.Defs,a0.Code,a0.Main,a4,a5,[],(.slice none 0 0)) H ?_
 clear H;rintro⟨k1,x16,x17,x18,x19,x20,x21,x22,x23,v3⟩ H
 replace H:kV a3 k1 x16 x17 x18 x19 x20 x21 x22 x23=_:=H
 try dsimp only
 obtain _ | k1:=k1
 rw [kV]at H;cases H
 rw [kV]at H
 refine aB 4 rfl (fun hc_v3=>?_)
 refine Z3 ?_
 refine aL ?_
 revert H;refine is (fun c10 H=>?_) fun c10 H=>?_
 refine Z3 ?_
 refine aL ?_
 revert H;refine B2 fun y4 h4 H=>?_
 refine Z2 ?_
 refine Tn (cR rfl wM rfl) fun b5=>?_
 refine cW (φs':=[fI y4.Kind,fI y4.N]) trivial rfl rfl (has rfl) (has rfl) (aN (aG trivial) (aN (aG trivial) bZ)) (sz rfl) rfl rfl rfl ?_
 refine Z4 ?_
 refine gE ?_
 refine aO ?_
 refine fQ (x:=(⟨(⟨x17,x18,x19,x20⟩:CodeProg),x21,x22,x23⟩:aY)) ?_
 revert H;refine bs fun y5 h5 H=>?_
 refine Tc (aGI _ _ _ _ h5) ?_
 refine gR (fun v4=>?_)
 refine aB 1 rfl (fun hc_v4=>?_)
 refine Z2 ?_
 revert H;refine cs (fun c11 H=>?_) fun c11 H=>?_
 revert H;refine B5 fun z1 h6 H=>?_
 refine Z3 ?_
 refine aC [0,3,4,5,1] (by decide) ?_
 exact Tm ((k1,z1,y5.1.CodeProg.Free,y5.1.CodeProg.Defs,y5.1.CodeProg.Code,y5.1.CodeProg.Main,y5.1.chans,y5.1.spots,y5.1.acts,v4)) ⟨H,ls⟩
 refine Z2 ?_
 refine aS ?_
 refine bW (φs':=[fEq (.slice none 0 0)]) trivial rfl rfl (has rfl) (has rfl) (aG trivial) (sz rfl) rfl rfl ?_
 refine aS ?_
 refine bW (φs':=[fI 2]) trivial rfl rfl (has rfl) (has rfl) (aG trivial) (sz rfl) rfl rfl ?_
 revert H;refine B7 fun r1 H e1=>?_
 cases e1;cases Hr1
 cases H
 refine aC [1,0] (by decide) ?_
 exact lL (eO rfl rfl rfl (sc rfl) (sc rfl) dK Ent.rfl)
 refine Z6 ?_
 exact Tm ((x17,x18,x19,x20,x21,x22,x23,v3)) (ij H)
 clear H;intro i hi;obtain⟨x1,x2,x3,x4,x5,x6,x7,v1⟩:=i;subst o1;have H:=Hr1;clear Hr1;try dsimp only at H
 try dsimp only
 refine aB 4 rfl (fun hc_v1=>?_)
 refine Z1 ?_
 refine Yy (uB rfl (aE.cons hh (aE.cons hh aE.nil))) ?_
 refine aDY (vs:=[ptr b2,ptr b3]) trivial rfl rfl (has rfl) ?_
 refine Z6 ?_
 refine aS ?_
 refine aP ?_
 refine fQ (x:=(⟨(⟨x1,x2,x3,x4⟩:CodeProg),x5,x6,x7⟩:aY)) ?_
 revert H;refine bs fun y6 h7 H=>?_
 rcases y6 with y6 | pv1 <;> dsimp only at H
 refine Tc (aCL _ _ _ _ _ _ _ h7).s ?_
 refine gR (fun v5=>?_)
 refine aB 1 rfl (fun hc_v5=>?_)
 refine Z6 ?_
 refine bC ?_
 refine bW (φs':=[fEq v5]) trivial rfl rfl (has rfl) (has rfl) (aG hc_v5) (sz rfl) rfl rfl ?_
 refine bC ?_
 refine bW (φs':=[fI 0]) trivial rfl rfl (has rfl) (has rfl) (aG trivial) (sz rfl) rfl rfl ?_
 refine Z2 ?_
 refine bC ?_
 refine hZ (φ:=fSl cA y6.acts) (v:=v5) [97] fS fz ?_
 refine aO ?_
 refine aP ?_
 refine oI (φs':=[fSl cA y6.acts]) (i:=0) rfl rfl ?_
 refine bC ?_
 refine aP ?_
 refine oI (φs':=[fI y6.CodeProg.Free,fSl aF y6.CodeProg.Defs,fSl aH y6.CodeProg.Code,fI y6.CodeProg.Main,fI y6.chans,fI y6.spots,fSl cA y6.acts]) (i:=6) rfl rfl ?_
 refine gV ?_
 cases H
 refine aC [1,2] (by decide) ?_
 exact aCb (hO (vs:=[ptr b2,ptr b3]) (u:= .returning) (by simp) (cb rfl) (aGY _ _ _ _) rfl (eO rfl rfl rfl (sc rfl) (sc rfl) Ent.rfl Ent.rfl))
 refine Tp (aCL _ _ _ _ _ _ _ h7).pan ?_
 refine Z1 ?_
 have H0:=H;clear H;obtain⟨e2,h8,H⟩:=bind_some H0;clear H0;have hv_e2:=unN_some h8;subst hv_e2
 cases H
 refine aC [1,0] (by decide) ?_
 exact jC (hO (vs:=[ptr b2,ptr b3]) (u:= .panicking [{ v:= .iface 29 (.int .i64 e2),recovered:=false }]) (by simp) (cb rfl) (aHd _ _ _ _ e2) rfl (eO rfl rfl rfl (sc rfl) (sc rfl) dK Ent.rfl))
def mO (a0:List Int) (a1:Int):Nat → Int → Option ((Unit) ⊕ (Bool))
| 0,_=>none
| k+1,x2=>
 if x2<(a0.length:Int)then
  (idx a0 x2).bind fun y1=>
  if y1=a1 then
   (some true).bind fun r=>some (Sum.inr r)
  else
   (chk (x2+1)).bind fun z1=>
   mO a0 a1 k z1
 else
  some (Sum.inl ())
def rO (fuel:Nat) (a0:List Int) (a1:Int):Option (Bool):=
 (mO a0 a1 fuel 0).bind fun o=>match o with
 | Sum.inr r=>some r
 | Sum.inl _=>
 some false
theorem lI (fuel:Nat)  (a0:List Int) (a1:Int) (r:Bool) (H:rO fuel a0 a1=some r):FnS Tryz.prog 54 [fSl tI a0,fI a1] [] (aJ r) (fun _=>[]):=by
 unfold rO at H
 refine cD Tryz.func54 rfl Tryz.ntmps54 rfl (fun β=>?_)
 revert H;refine B3 fun o1 H Hr1=>?_
 refine aT (ι:=Unit) (fun i=>o1=Sum.inl ()) (fun i=>[]) (fun i=>[]) ?_ ?_
 refine Z4 ?_
 refine Tl (ι:=Nat × Int) (fun i=>mO a0 a1 i.1 i.2=_) (fun i=>i.1) (fun i=>[(0,fSl tI a0),(1,fI a1),(5,fI i.2)]) (fun i=>[]) (fuel,0) H ?_
 clear H;rintro⟨k1,x2⟩ H
 replace H:mO a0 a1 k1 x2=_:=H
 try dsimp only
 obtain _ | k1:=k1
 rw [mO]at H;cases H
 rw [mO]at H
 refine aL ?_
 revert H;refine I6 (fun c1 H=>?_) fun c1 H=>?_
 refine Z3 ?_
 refine aL ?_
 revert H;refine B4 fun y1 h1 H=>?_
 revert H;refine I5 (fun c2 H=>?_) fun c2 H=>?_
 revert H;refine B10 fun r1 H e1=>?_
 cases e1;cases Hr1
 cases H
 exact To
 revert H;refine B6 fun z1 h2 H=>?_
 refine Z3 ?_
 exact Tm ((k1,z1)) ⟨H,ls⟩
 refine Z6 ?_
 exact Tm (()) (ij H)
 clear H;intro i hi;subst o1;have H:=Hr1;clear Hr1;try dsimp only at H
 try dsimp only
 refine Z4 ?_
 cases H
 exact To
end Go.Proofs.YtjahnkcjbglnoaaGreatDoor
