/- Parts of the proof: lemmas, and the steps through the program. -/
import Derived.Test.YtgidgoahhepmlaaGreatFf5
import Derived.ReadAgain
import Derived.ChangeReads
import Derived.ChangeStays
import Derived.ChangeBears
set_option linter.unusedVariables false
set_option linter.unusedSimpArgs false
set_option maxRecDepth 100000
set_option maxHeartbeats 2000000
namespace Go.Proofs.YtgidgoahhepmlaaGreat
open Go.SX Go.SW Go.Dt
section
variable {H:Type} {enc:TypeId × Value->H} {W:World}
abbrev RdP (enc:TypeId × Value->H) (W:World) (n:Nat) {α:Type} (T:Ty α) (t:TypeId) (μ:α->Nat) (S:α->Prop):Prop:=Rd enc Tryz.prog W n T t μ S
theorem iH (n:Nat) {t:TypeId} (ht:Tryz.prog.underlying t=some (.int .i64)):RdP enc W n (dB .i64) t (fun _=>1) (fun _=>True):=(rd_int ht).mono (fun _=>a1B _) (fun _ _ _=>trivial)
theorem qY {n:Nat} {t e:TypeId} {α:Type} {T:Ty α} {μ:α->Nat} {S:α->Prop} (ht:Tryz.prog.underlying t=some (.slice e)) (hz:Tryz.prog.cellsOf e=T.sz) (h:∀ k,RdP enc W k T e μ S):RdP enc W n (tSl T) t (fun l=>msum μ l+1) (fun l=>l.length<=1048576/\∀ a∈l,S a):=by
 cases n with
 | zero=>exact pA
 | succ n=>exact rd_sl ht hz (h n)
theorem aFq (n:Nat) {t e:TypeId} (ht:Tryz.prog.underlying t=some (.slice e)) (he:Tryz.prog.underlying e=some (.int .i64)) (hz:Tryz.prog.cellsOf e=1):RdP enc W n (tSl (dB .i64)) t (fun _=>0) (fun l=>l.length<=1048576):=
 (qY ht hz (fun k=>iH k he)).mono (fun _=>a1K _) (fun _ h _=>h.1)
theorem xM:∀ l:List AR,nL l=msum nE l
 | []=>rfl
 | a :: l=>by simp only [nL,msum,xM l]
theorem aFP (a b:Int) (c:List AR):aO.Ai ⟨a,b,c⟩=[aZ .i64 a,aZ .i64 b,fSl aO c]:=by
 show [_,_,dD c]=_
 rw [eG]
theorem rd_exp:∀ n:Nat,RdP enc W n aO 71 nE (fun e=>nE e<=1048576)
 | 0=>pA
 | 1=>fun cs x h hb=>(rC (μ:=nE) (S:=fun e=>nE e<=1048576) (T:=aO) (fun b:Int × Int × List AR × Unit=>⟨b.1,b.2.1,b.2.2.1⟩) Tryz.underlying71 (e:=3) (by kernel_rfl)
  (eS (iH 0 Tryz.underlying69) rfl (by kernel_rfl) (eS (iH 0 Tryz.underlying3) rfl (by kernel_rfl) (eS (T:=tSl aO) (μ:=fun l=>msum nE l+1) (S:=fun _=>True) pA rfl (by kernel_rfl) rK)))
  (fun b=>aFP b.1 b.2.1 b.2.2.1) (fun b=>by simp only [nE,xM];omega) (fun b _ hb=>by simp only [nE,xM]at *;omega)) cs x h hb
 | n+2=>fun cs x h hb=>(rC (μ:=nE) (S:=fun e=>nE e<=1048576) (T:=aO) (fun b:Int × Int × List AR × Unit=>⟨b.1,b.2.1,b.2.2.1⟩) Tryz.underlying71 (e:=3) (by kernel_rfl)
  (eS (iH _ Tryz.underlying69) rfl (by kernel_rfl) (eS (iH _ Tryz.underlying3) rfl (by kernel_rfl) (eS (rd_sl Tryz.underlying52 (by kernel_rfl) (rd_exp n)) rfl (by kernel_rfl) rK)))
  (fun b=>aFP b.1 b.2.1 b.2.2.1) (fun b=>by simp only [nE,xM];omega) (fun b _ hb=>by simp only [nE,xM]at *;omega)) cs x h hb
theorem aJN:∀ n:Nat,RdP enc W n aN 65 (fun _=>0) (fun x=>x.AS.length<=2000000/\x.AN.length<=2000000/\∀ e∈x.AS,nE e<=2000000)
 | 0=>pA
 | n+1=>rC (T:=aN) (fun b:Int × Int × List AR × List Int × Unit=>⟨b.1,b.2.1,b.2.2.1,b.2.2.2.1⟩) Tryz.underlying65 (e:=4) (by kernel_rfl)
  (eS (iH n Tryz.underlying51) rfl (by kernel_rfl) (eS (iH n Tryz.underlying3) rfl (by kernel_rfl) (eS (qY Tryz.underlying52 (by kernel_rfl) rd_exp) rfl (by kernel_rfl) (eS (aFq n Tryz.underlying27 Tryz.underlying3 (by kernel_rfl)) rfl (by kernel_rfl) rK))))
  (fun _=>rfl) (fun _=>a1K _) (fun b h _=>⟨by have:=h.2.2.1.1;show b.2.2.1.length<=_;omega,by have:=h.2.2.2.1;show b.2.2.2.1.length<=_;omega,fun e he=>a1C (h.2.2.1.2 e he) (by omega)⟩)
theorem aId:∀ n:Nat,RdP enc W n aS 135 (fun _=>0) (fun _=>True)
 | 0=>pA
 | n+1=>rC (T:=aS) (fun b:Int × Int × Unit=>⟨b.1,b.2.1⟩) Tryz.underlying135 (e:=2) (by kernel_rfl)
  (eS (iH n Tryz.underlying3) rfl (by kernel_rfl) (eS (iH n Tryz.underlying3) rfl (by kernel_rfl) rK))
  (fun _=>rfl) (fun _=>a1K _) (fun _ _ _=>trivial)
theorem aHW:∀ n:Nat,RdP enc W n aV 84 (fun _=>0) (fun _=>True)
 | 0=>pA
 | n+1=>rC (T:=aV) (fun b:Int × Int × Unit=>⟨b.1,b.2.1⟩) Tryz.underlying84 (e:=2) (by kernel_rfl)
  (eS (iH n Tryz.underlying3) rfl (by kernel_rfl) (eS (iH n Tryz.underlying3) rfl (by kernel_rfl) rK))
  (fun _=>rfl) (fun _=>a1K _) (fun _ _ _=>trivial)
theorem aIf:∀ n:Nat,RdP enc W n aU 81 (fun _=>0) (fun x=>x.AU.length<=2000000)
 | 0=>pA
 | n+1=>rC (T:=aU) (fun b:Int × List Int × Int × Unit=>⟨b.1,b.2.1,b.2.2.1⟩) Tryz.underlying81 (e:=3) (by kernel_rfl)
  (eS (iH n Tryz.underlying3) rfl (by kernel_rfl) (eS (aFq n Tryz.underlying27 Tryz.underlying3 (by kernel_rfl)) rfl (by kernel_rfl) (eS (iH n Tryz.underlying3) rfl (by kernel_rfl) rK)))
  (fun _=>rfl) (fun _=>a1K _) (fun b h _=>by have:=h.2.1;show b.2.1.length<=_;omega)
theorem aH6:∀ n:Nat,RdP enc W n aB 77 (fun _=>0) (smD)
 | 0=>pA
 | n+1=>rC (T:=aB) (fun b:List Al × List Aj × List Af × Unit=>⟨b.1,b.2.1,b.2.2.1⟩) Tryz.underlying77 (e:=3) (by kernel_rfl)
  (eS (qY Tryz.underlying73 (by kernel_rfl) aId) rfl (by kernel_rfl) (eS (qY Tryz.underlying74 (by kernel_rfl) aHW) rfl (by kernel_rfl) (eS (qY Tryz.underlying75 (by kernel_rfl) aIf) rfl (by kernel_rfl) rK)))
  (fun _=>rfl) (fun _=>a1K _) (fun b h _=>⟨by have:=h.1.1;show b.1.length<=_;omega,by have:=h.2.1.1;show b.2.1.length<=_;omega,by have:=h.2.2.1.1;show b.2.2.1.length<=_;omega,h.2.2.1.2⟩)
theorem aHb:∀ n:Nat,RdP enc W n cK 26 (fun _=>0) (SmP)
 | 0=>pA
 | n+1=>rC (T:=cK) (fun b:List ByteArray × List AW × List AM × Int × Unit=>⟨b.1,b.2.1,b.2.2.1,b.2.2.2.1⟩) Tryz.underlying26 (e:=4) (by kernel_rfl)
  (eS (qY (S:=fun s:ByteArray=>s.size<=1048576) Tryz.underlying22 (by kernel_rfl) (fun k=>(rd_str (n:=k) Tryz.underlying9))) rfl (by kernel_rfl) (eS (qY Tryz.underlying23 (by kernel_rfl) aJN) rfl (by kernel_rfl) (eS (qY Tryz.underlying24 (by kernel_rfl) aH6) rfl (by kernel_rfl) (eS (iH n Tryz.underlying3) rfl (by kernel_rfl) rK))))
  (fun _=>rfl) (fun _=>a1K _) (fun b h _=>⟨by have:=h.2.1.1;show b.2.1.length<=_;omega,by have:=h.2.2.1.1;show b.2.2.1.length<=_;omega,by have:=h.1.1;show b.1.length<=_;omega,fun x hx=>a1C (h.1.2 x hx) (by omega),h.2.1.2,h.2.2.1.2⟩)
end
end Go.Proofs.YtgidgoahhepmlaaGreat
namespace Go.SW
open Go.SX
theorem aIN {w w':World} (h:w.keptBut w' (fun _=>False)) {p:MemPlace} (hp:p.block<w.heap.size):w.sameAt w' p:=by
 obtain⟨_,_,h⟩:=h
 cases p with
 | cell b off=>
  have:=h b hp;show w'.cell? _=w.cell? _
  unfold World.cell?
  dsimp only at *
  cases h1:w.heap[b]? with
  | none=>rw [h1]at this;dsimp only at this;rw [this]
  | some o=>
   rw [h1]at this;cases o with
   | cells c t fr=>
    cases h2:w'.heap[b]? with
    | none=>rw [h2]at this;cases this
    | some o'=>
     rw [h2]at this;cases o' with
     | cells c' t' fr'=>
      dsimp only at this ⊢
      rw [this.2.2.2 off (fun f=>f)]
     | _=>cases this
   | map es clock=>
    cases h2:w'.heap[b]? with
    | none=>rfl
    | some o'=>
     rw [h2]at this;cases o' with
     | cells=>cases this
     | _=>rfl
   | _=>dsimp only at this;rw [this]
 | map b=>
  have:=h b hp;show w'.heap[b]? =w.heap[b]?
  cases h1:w.heap[b]? with
  | none=>rw [h1]at this;exact this
  | some o=>
   rw [h1]at this;cases o with
   | cells c t fr=>
    cases h2:w'.heap[b]? with
    | none=>rw [h2]at this;cases this
    | some o'=>
     rw [h2]at this;cases o' with
     | cells c' t' fr'=>
      dsimp only at this
      obtain⟨rfl,rfl,hs,hc⟩:=this;have:c'=c:=Array.ext_getElem? fun j=>hc j (fun f=>f)
      rw [this]
     | _=>cases this
   | map es clock=>
    cases h2:w'.heap[b]? with
    | none=>rw [h2]at this;cases this
    | some o'=>
     rw [h2]at this;cases o' with
     | map es' clock'=>
      rcases this with f | ⟨rfl,rfl⟩
      ·exact f.elim
      ·rfl
     | _=>cases this
   | _=>exact this
theorem aFH {H:Type} {enc:TypeId × Value->H} {P:Program} {W W':World} (hl:laidOutB P=true) (hm:mapsRowed P=true) (hz:∀ t e,t<P.types.size->P.underlying t=some (.slice e)->0<P.cellsOf e) (hk:W.keptBut W' (fun _=>False)):
 ∀ {ts:List TypeId} {vs:List Value} {ds:List (DataW H)} {ps:List MemPlace},(∀ t∈ts,t<P.types.size)->DataW.TrodAll enc P W 0 (fun _=>true) true ts vs ds ps->DataW.TrodAll enc P W' 0 (fun b=>decide (b<W.heap.size)) true ts vs ds ps
 | [],[],[],_,_,h=>h
 | t :: _,_ :: _,_ :: _,ps,ht,h=>by
  have hlt:=h.lt;obtain⟨p,q,⟨n,hn⟩,h2,e⟩:=h;refine⟨p,q,⟨n,?_⟩,aFH hl hm hz hk (fun t h=>ht t (.tail _ h)) h2,e⟩
  have hp:∀ x∈p,x.block<W.heap.size:=fun x hx=>hlt x (by rw [e];exact a1b _ hx)
  exact DataW.trod_stays (kids_rows hl hm) (fun a b=>hz _ _ a b) (fun f=>by cases f) (ht t (.head _)) hn (fun x hx=>aIN hk (hp x hx)) (fun x hx=>a1V (hp x hx))
 | [],_ :: _,_,_,_,h=>h.elim
 | [],[],_ :: _,_,_,h=>h.elim
 | _ :: _,[],_,_,_,h=>h.elim
 | _ :: _,_ :: _,[],_,_,h=>h.elim
end Go.SW
