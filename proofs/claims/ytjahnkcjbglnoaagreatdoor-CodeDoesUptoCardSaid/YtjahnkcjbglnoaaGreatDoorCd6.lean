/- Parts of the proof: lemmas, and the steps through the program. -/
import Derived.Test.YtjahnkcjbglnoaaGreatDoorCd5
import Derived.Test.YtjahnkcjbglnoaaGreatDoorRows
import Derived.ChangeSame
import Derived.ChangeReads
import Derived.ReadAgain
import Derived.ChangeStays
import Derived.ChangeBears
set_option linter.unusedVariables false
set_option linter.unusedSimpArgs false
set_option maxRecDepth 100000
set_option maxHeartbeats 2000000
namespace Go.Proofs.YtjahnkcjbglnoaaGreatDoor
open Go.SX Go.SW
theorem aGz {W:World} {a:Addr} {c:Value} (h:W.cell? a=some c):(iZ W).cell a=some c:=by
 unfold World.cell? at h
 unfold Mem.cell rL iZ
 cases hb:W.heap[a.block]? with
 | none=>rw [hb]at h;cases h
 | some o=>
  rw [hb]at h;cases o with
  | cells c t fr=>
   dsimp only at h ⊢
   first
    | exact h
    | (cases hs:a.spot with
       | none=>rw [hs]at h;simpa using h
       | some s=>rw [hs]at h;simp at h)
  | _=>cases h
theorem aDP {H:Type} {d:DataW H} {l:List (DataW H)} (h:d∈l):Rows.uptoBulk d ≤ Rows.uptoBulkAll l:=by
 induction l with
 | nil=>cases h
 | cons x r ih=>
  simp only [Rows.uptoBulkAll];cases h with
  | head=>omega
  | tail _ e=>have:=ih e;omega
theorem bulk_one {H:Type} (d:DataW H):1 ≤ Rows.uptoBulk d:=by
 cases d with
 | lit l=>cases l <;> simp [Rows.uptoBulk]
 | _=>simp [Rows.uptoBulk]
section
variable {H:Type} {enc:TypeId × Value → H} {P:Program} {W:World}
def Rd (enc:TypeId × Value → H) (P:Program) (W:World) (n:Nat) {α:Type} (T:Ty α) (t:TypeId) (μ:α → Nat) (S:α → Prop):Prop:=
 ∀ cs x,DataW.trod enc P W 0 (fun _=>true) true n t cs=some x → Rows.uptoBulk x.1 ≤ 1048576 → ∃ a,aX (T.leafs a) (iZ W) cs ∧ μ a ≤ Rows.uptoBulk x.1 ∧ S a
def RdF (enc:TypeId × Value → H) (P:Program) (W:World) (n:Nat) (fs:List Field) (o e:Nat) {β:Type} (L:β → List Fact) (μ:β → Nat) (S:β → Prop):Prop:=
 ∀ (cs:List Value) xs,cs.length=e → (fs.mapM fun f=>DataW.trod enc P W 0 (fun _=>true) true n f.type ((cs.drop f.offset).take (P.cellsOf f.type)))=some xs → Rows.uptoBulkAll (xs.map (·.1)) ≤ 1048576 → ∃ b,aX (L b) (iZ W) (cs.drop o) ∧ μ b ≤ Rows.uptoBulkAll (xs.map (·.1)) ∧ S b
theorem nR {α:Type} {T:Ty α} {t:TypeId} {μ:α → Nat} {S:α → Prop}:Rd enc P W 0 T t μ S:=fun cs x h=>by cases h
theorem pS {n e:Nat}:RdF enc P W n [] e e (β:=Unit) (fun _=>[]) (fun _=>0) (fun _=>True):=fun cs xs hl h hb=>⟨(),by rw [List.drop_of_length_le (by omega)];rfl,Nat.zero_le _,trivial⟩
theorem aCZ {α β:Type} {f:α → Option β} {x:α} {l:List α} {ys:List β} (h:(x :: l).mapM f=some ys):∃ y r,f x=some y ∧ l.mapM f=some r ∧ ys=y :: r:=by
 rw [List.mapM_cons]at h
 cases hx:f x with
 | none=>rw [hx]at h;cases h
 | some y=>
  cases hl:l.mapM f with
  | none=>rw [hx,hl]at h;cases h
  | some r=>rw [hx,hl]at h;cases h;exact⟨y,r,rfl,rfl,rfl⟩
theorem eR {n o e:Nat} {f:Field} {fs:List Field} {α β:Type} {T:Ty α} {μ:α → Nat} {S:α → Prop} {L:β → List Fact} {ν:β → Nat} {R:β → Prop} (h:Rd enc P W n T f.type μ S) (ho:f.offset=o) (hz:P.cellsOf f.type=T.sz) (k:RdF enc P W n fs (o+T.sz) e L ν R):
 RdF enc P W n (f :: fs) o e (fun x:α × β=>T.leafs x.1++L x.2) (fun x=>μ x.1+ν x.2) (fun x=>S x.1 ∧ R x.2):=fun cs xs hl hm hb=>by
 obtain⟨y,r,h1,h2,rfl⟩:=aCZ hm
 simp only [List.map_cons,Rows.uptoBulkAll]at hb
 obtain⟨a,a1,a2,a3⟩:=h _ _ h1 (by omega)
 obtain⟨b,b1,b2,b3⟩:=k cs r hl h2 (by omega)
 refine⟨(a,b),?_,by simp only [List.map_cons,Rows.uptoBulkAll];omega,a3,b3⟩
 have:=a1.append b1
 rw [ho,hz,← List.drop_drop,List.take_append_drop]at this
 exact this
theorem pH {n e:Nat} {α β:Type} {T:Ty α} {t:TypeId} {fs:Array Field} {μ:α → Nat} {S:α → Prop} {L:β → List Fact} {ν:β → Nat} {R:β → Prop} (mk:β → α) (ht:P.underlying t=some (.struct fs)) (hc:P.cellsOf t=e) (k:RdF enc P W n fs.toList 0 e L ν R)
 (hL:∀ b,T.leafs (mk b)=L b) (hμ:∀ b,μ (mk b) ≤ ν b+1) (hS:∀ b,R b → ν b+1 ≤ 1048576 → S (mk b)):Rd enc P W (n+1) T t μ S:=fun cs x h hb=>by
 rw [DataW.trod_step]at h
 unfold DataW.trodStep at h
 rw [ht]at h
 dsimp only at h
 split at h
 ·rename_i hcs;cases hm:(fs.toList.mapM fun f=>DataW.trod enc P W 0 (fun _=>true) true n f.type ((cs.drop f.offset).take (P.cellsOf f.type)))with
  | none=>rw [hm]at h;cases h
  | some xs=>
   rw [hm]at h;cases h;simp only [Rows.uptoBulk]at hb;obtain⟨b,b1,b2,b3⟩:=k cs xs (by omega) hm (by omega)
   rw [List.drop_zero]at b1;have:=hμ b;refine⟨mk b,by rw [hL];exact b1,by simp only [Rows.uptoBulk];omega,hS b b3 (by omega)⟩
 ·cases h
theorem rd_int {n:Nat} {t:TypeId} {k:IntKind} (ht:P.underlying t=some (.int k)):Rd enc P W n (dT k) t (fun _=>1) (fun i=>(Lit.int k i).wf=true):=fun cs x h hb=>by
 obtain _ | n:=n
 ·cases h
 rw [DataW.trod_step]at h
 unfold DataW.trodStep at h
 rw [ht]at h
 match cs,h with
 | [.int k' i],h=>
  dsimp only at h
  split at h
  ·rename_i hc;obtain⟨rfl,hw⟩:=hc;cases h;exact⟨i,⟨_,[],rfl,rfl,rfl⟩,Nat.le_refl _,hw⟩
  ·cases h
def msum {α:Type} (μ:α → Nat):List α → Nat
 | []=>0
 | a :: l=>μ a+msum μ l
theorem aDn {α:Type} {f:Nat → Option α} {n:Nat} {l:List α} (h:(List.range n).mapM f=some l):l.length=n ∧ ∀ i,i<n → ∃ y,l[i]? =some y ∧ f i=some y:=by
 have g:∀ (ks:List Nat) (l:List α),ks.mapM f=some l → l.length=ks.length ∧ ∀ (i k:Nat),ks[i]? =some k → ∃ y,l[i]? =some y ∧ f k=some y:=fun ks=>by
  induction ks with
  | nil=>intro l h;cases h;exact⟨rfl,fun i k h=>by simp at h⟩
  | cons k ks ih=>
   intro l h;obtain⟨y,r,h1,h2,rfl⟩:=aCZ h;obtain⟨a,b⟩:=ih r h2;refine⟨by simp [a],fun i q hq=>?_⟩
   cases i with
   | zero=>simp at hq;subst hq;exact⟨y,rfl,h1⟩
   | succ i=>exact b i q (by simpa using hq)
 obtain⟨a,b⟩:=g _ _ h
 exact⟨by simpa using a,fun i hi=>b i i (by simp [hi])⟩
theorem aGd {W:World} {b z:Nat} {a:Addr} {cs:List Value} (h:W.cells? b a z=some cs):∀ (j:Nat) c,cs[j]? =some c → W.cell? (a.add j)=some c:=by
 unfold World.cells? at h
 split at h
 ·obtain⟨h1,h2⟩:=aDn h;intro j c hj;have:=(List.getElem?_eq_some_iff.1 hj).1;obtain⟨y,y1,y2⟩:=h2 j (by omega)
  rw [hj]at y1;cases y1;exact y2
 ·cases h
theorem aDH {α γ:Type} {Q:γ → α → Prop}:∀ (l:List γ),(∀ c∈l,∃ a,Q c a) → ∃ r:List α,r.length=l.length ∧ ∀ (i:Nat) c,l[i]? =some c → ∃ a,r[i]? =some a ∧ Q c a
 | [],_=>⟨[],rfl,fun i c h=>by simp at h⟩
 | c :: l,h=>by
  obtain⟨a,ha⟩:=h c (.head _);obtain⟨r,h1,h2⟩:=aDH l (fun c hc=>h c (.tail _ hc))
  refine⟨a :: r,by simp [h1],fun i q hq=>?_⟩
  cases i with
  | zero=>simp at hq;subst hq;exact⟨a,rfl,ha⟩
  | succ i=>exact h2 i q (by simpa using hq)
theorem aCE {α:Type} {μ:α → Nat}:∀ {r:List α} {ds:List (DataW H)},r.length=ds.length → (∀ (i:Nat) d a,ds[i]? =some d → r[i]? =some a → μ a ≤ Rows.uptoBulk d) → msum μ r ≤ Rows.uptoBulkAll ds ∧ r.length ≤ Rows.uptoBulkAll ds
 | [],[],_,_=>⟨Nat.zero_le _,Nat.zero_le _⟩
 | a :: r,d :: ds,hl,h=>by
  obtain⟨h1,h2⟩:=aCE (r:=r) (ds:=ds) (by simpa using hl) (fun i d a hd ha=>h (i+1) d a (by simpa using hd) (by simpa using ha))
  have:=h 0 d a rfl rfl;have:=bulk_one d;simp only [msum,Rows.uptoBulkAll,List.length_cons];omega
theorem rd_sl {n:Nat} {t e:TypeId} {α:Type} {T:Ty α} {μ:α → Nat} {S:α → Prop} (ht:P.underlying t=some (.slice e)) (hz:P.cellsOf e=T.sz) (h:Rd enc P W n T e μ S):Rd enc P W (n+1) (tSl T) t (fun l=>msum μ l+1) (fun l=>l.length ≤ 1048576 ∧ ∀ a∈l,S a):=fun cs x hx hb=>by
 rw [DataW.trod_step]at hx
 unfold DataW.trodStep at hx
 rw [ht]at hx
 match cs,hx with
 | [.slice none 0 0],hx=>
  cases hx;exact⟨[],⟨_,[],rfl,dK (iZ W) _ rfl,rfl⟩,Nat.le_refl _,by simp,fun a ha=>by cases ha⟩
 | [.slice (some p) len cap],hx=>
  dsimp only at hx
  split at hx
  ·rename_i hc;cases h1:((List.range len).mapM fun i=>(W.cells? 0 (p.add (i*P.cellsOf e)) (P.cellsOf e)).bind (DataW.trod enc P W 0 (fun _=>true) true n e))with
   | none=>rw [h1]at hx;cases hx
   | some es=>
    rw [h1]at hx;obtain⟨rest,_,rfl⟩:=Option.map_eq_some_iff.1 hx;obtain⟨l1,l2⟩:=aDn h1;simp only [Rows.uptoBulk]at hb;have each:∀ y∈es,∃ a,(μ a ≤ Rows.uptoBulk y.1 ∧ S a) ∧ ∀ i cs',W.cells? 0 (p.add (i*P.cellsOf e)) (P.cellsOf e)=some cs' → DataW.trod enc P W 0 (fun _=>true) true n e cs'=some y → True:=fun y hy=>by
     obtain⟨i,hi,rfl⟩:=List.mem_iff_getElem.1 hy;obtain⟨y,y1,y2⟩:=l2 i (by omega)
     obtain⟨cs',c1,c2⟩:=Option.bind_eq_some_iff.1 y2;have e1:es[i]=y:=by rw [List.getElem?_eq_getElem hi]at y1;exact Option.some.inj y1
     have m1:Rows.uptoBulk y.1 ≤ Rows.uptoBulkAll (es.map (·.1)):=aDP (List.mem_map_of_mem (by rw [← e1];exact List.getElem_mem _))
     obtain⟨a,a1,a2,a3⟩:=h _ _ c2 (by omega)
     exact⟨a,⟨by rw [e1];exact a2,a3⟩,fun _ _ _ _=>trivial⟩
    have each2:∀ i∈List.range len,∃ a,(∃ y,es[i]? =some y ∧ μ a ≤ Rows.uptoBulk y.1) ∧ S a ∧ T.at (iZ W) (p.add (i*T.sz)) a:=fun i hi=>by
     obtain⟨y,y1,y2⟩:=l2 i (by simpa using hi)
     obtain⟨cs',c1,c2⟩:=Option.bind_eq_some_iff.1 y2;have m1:Rows.uptoBulk y.1 ≤ Rows.uptoBulkAll (es.map (·.1)):=aDP (List.mem_map_of_mem (List.mem_of_getElem? y1));obtain⟨a,a1,a2,a3⟩:=h _ _ c2 (by omega)
     exact⟨a,⟨y,y1,a2⟩,a3,cs',a1,fun j c hj=>by rw [← hz];exact aGz (aGd c1 j c hj)⟩
    obtain⟨r,r1,r2⟩:=aDH (List.range len) each2;have rl:r.length=len:=by simpa using r1
    have r3:∀ i,i<len → ∃ a,r[i]? =some a ∧ (∃ y,es[i]? =some y ∧ μ a ≤ Rows.uptoBulk y.1) ∧ S a ∧ T.at (iZ W) (p.add (i*T.sz)) a:=fun i hi=>r2 i i (by simp [hi])
    obtain⟨m1,m2⟩:=aCE (μ:=μ) (r:=r) (ds:=es.map (·.1)) (by simp [rl,l1]) (fun i d a hd ha=>by
     obtain⟨a',a1,⟨y,y1,y2⟩,_⟩:=r3 i (by have:=(List.getElem?_eq_some_iff.1 ha).1;omega)
     rw [ha]at a1;cases a1
     rw [List.getElem?_map,y1]at hd;cases hd
     exact y2)
    refine⟨r,⟨_,[],rfl,⟨fun i=>p.add (i*T.sz),⟨some p,cap,by rw [rl],by rw [rl];exact hc.2.1,fun i _=>⟨p,rfl,rfl⟩⟩,by omega,fun i a ha=>?_⟩,rfl⟩,by simp only [Rows.uptoBulk];omega,by omega,fun a ha=>?_⟩
    ·obtain⟨a',a1,_,_,a2⟩:=r3 i (by have:=(List.getElem?_eq_some_iff.1 ha).1;omega)
     rw [ha]at a1;cases a1;exact a2
    ·obtain⟨i,hi,rfl⟩:=List.mem_iff_getElem.1 ha;obtain⟨a',a1,_,a2,_⟩:=r3 i (by omega)
     rw [List.getElem?_eq_getElem hi]at a1;cases a1;exact a2
  ·cases hx
theorem Rd.mono {n:Nat} {α:Type} {T:Ty α} {t:TypeId} {μ ν:α → Nat} {S R:α → Prop} (h:Rd enc P W n T t μ S) (hμ:∀ a,ν a ≤ μ a) (hS:∀ a,S a → μ a ≤ 1048576 → R a):Rd enc P W n T t ν R:=fun cs x hx hb=>by
 obtain⟨a,a1,a2,a3⟩:=h cs x hx hb
 exact⟨a,a1,Nat.le_trans (hμ a) a2,hS a a3 (by omega)⟩
theorem arg_st {α:Type} {T:Ty α} {t:TypeId} {μ:α → Nat} {S:α → Prop} {fs:Array Field} {r:Reach} {b0:Nat} {v:Value} {d:DataW H} {ps:List MemPlace} (h:∀ n,Rd enc P W n T t μ S) (ht:P.underlying t=some (.struct fs)) (hval:Value.okWide P W r b0 t v)
 (hd:DataW.Trod enc P W 0 (fun _=>true) true t v d ps) (hb:Rows.uptoBulk d ≤ 1048576):∃ a,(fSt T a).p (iZ W) v ∧ S a:=by
 unfold Value.okWide at hval
 rw [ht]at hval
 obtain⟨cs,rfl,_⟩:=hval
 obtain⟨n,hn⟩:=hd
 obtain⟨a,a1,_,a2⟩:=h n _ _ hn hb
 exact⟨a,⟨cs.toList,by simp,a1⟩,a2⟩
end
open Go.SX Go.SW Go.Dt
section
variable {H:Type} {enc:TypeId × Value → H} {W:World}
abbrev RdP (enc:TypeId × Value → H) (W:World) (n:Nat) {α:Type} (T:Ty α) (t:TypeId) (μ:α → Nat) (S:α → Prop):Prop:=Rd enc Tryz.prog W n T t μ S
theorem fU (n:Nat) {t:TypeId} (ht:Tryz.prog.underlying t=some (.int .i64)):RdP enc W n (dT .i64) t (fun _=>1) (fun _=>True):=(rd_int ht).mono (fun _=>Nat.le_refl _) (fun _ _ _=>trivial)
theorem qW {n:Nat} {t e:TypeId} {α:Type} {T:Ty α} {μ:α → Nat} {S:α → Prop} (ht:Tryz.prog.underlying t=some (.slice e)) (hz:Tryz.prog.cellsOf e=T.sz) (h:∀ k,RdP enc W k T e μ S):RdP enc W n (tSl T) t (fun l=>msum μ l+1) (fun l=>l.length ≤ 1048576 ∧ ∀ a∈l,S a):=by
 cases n with
 | zero=>exact nR
 | succ n=>exact rd_sl ht hz (h n)
theorem rd_ints (n:Nat) {t e:TypeId} (ht:Tryz.prog.underlying t=some (.slice e)) (he:Tryz.prog.underlying e=some (.int .i64)) (hz:Tryz.prog.cellsOf e=1):RdP enc W n (tSl (dT .i64)) t (fun _=>0) (fun l=>l.length ≤ 1048576):=
 (qW ht hz (fun k=>fU k he)).mono (fun _=>Nat.zero_le _) (fun _ h _=>h.1)
theorem aGt:∀ n:Nat,RdP enc W n bG 110 (fun _=>0) (fun _=>True)
 | 0=>nR
 | n+1=>pH (T:=bG) (fun b:Int × Int × Unit=>⟨b.1,b.2.1⟩) Tryz.underlying110 (e:=2) (by kernel_rfl)
  (eR (fU n Tryz.underlying3) rfl (by kernel_rfl) (eR (fU n Tryz.underlying3) rfl (by kernel_rfl) pS))
  (fun _=>rfl) (fun _=>Nat.zero_le _) (fun _ _ _=>trivial)
theorem aGg:∀ n:Nat,RdP enc W n bQ 112 (fun _=>0) (fun _=>True)
 | 0=>nR
 | n+1=>pH (T:=bQ) (fun b:Int × Int × Unit=>⟨b.1,b.2.1⟩) Tryz.underlying112 (e:=2) (by kernel_rfl)
  (eR (fU n Tryz.underlying3) rfl (by kernel_rfl) (eR (fU n Tryz.underlying3) rfl (by kernel_rfl) pS))
  (fun _=>rfl) (fun _=>Nat.zero_le _) (fun _ _ _=>trivial)
theorem aGw:∀ n:Nat,RdP enc W n bR 114 (fun _=>0) (fun x=>x.Joins.length ≤ 2000000)
 | 0=>nR
 | n+1=>pH (T:=bR) (fun b:Int × List Int × Int × Unit=>⟨b.1,b.2.1,b.2.2.1⟩) Tryz.underlying114 (e:=3) (by kernel_rfl)
  (eR (fU n Tryz.underlying3) rfl (by kernel_rfl) (eR (rd_ints n Tryz.underlying40 Tryz.underlying3 (by kernel_rfl)) rfl (by kernel_rfl) (eR (fU n Tryz.underlying3) rfl (by kernel_rfl) pS)))
  (fun _=>rfl) (fun _=>Nat.zero_le _) (fun b h _=>by have:=h.2.1;show b.2.1.length ≤ _;omega)
theorem aGq:∀ n:Nat,RdP enc W n aF 63 (fun _=>0) (smD)
 | 0=>nR
 | n+1=>pH (T:=aF) (fun b:List ScopeChan × List ScopeSpot × List ScopeRule × Unit=>⟨b.1,b.2.1,b.2.2.1⟩) Tryz.underlying63 (e:=3) (by kernel_rfl)
  (eR (qW Tryz.underlying59 (by kernel_rfl) aGt) rfl (by kernel_rfl) (eR (qW Tryz.underlying60 (by kernel_rfl) aGg) rfl (by kernel_rfl) (eR (qW Tryz.underlying61 (by kernel_rfl) aGw) rfl (by kernel_rfl) pS)))
  (fun _=>rfl) (fun _=>Nat.zero_le _) (fun b h _=>⟨by have:=h.1.1;show b.1.length ≤ _;omega,by have:=h.2.1.1;show b.2.1.length ≤ _;omega,by have:=h.2.2.1.1;show b.2.2.1.length ≤ _;omega,h.2.2.1.2⟩)
theorem aHc:∀ n:Nat,RdP enc W n aH 73 (fun _=>0) (fun _=>True)
 | 0=>nR
 | n+1=>pH (T:=aH) (fun b:Int × Int × Int × Unit=>⟨b.1,b.2.1,b.2.2.1⟩) Tryz.underlying73 (e:=3) (by kernel_rfl)
  (eR (fU n Tryz.underlying56) rfl (by kernel_rfl) (eR (fU n Tryz.underlying3) rfl (by kernel_rfl) (eR (fU n Tryz.underlying3) rfl (by kernel_rfl) pS)))
  (fun _=>rfl) (fun _=>Nat.zero_le _) (fun _ _ _=>trivial)
theorem aHJ:∀ n:Nat,RdP enc W n fR 25 (fun _=>0) (fun c=>c.Code.length ≤ 2000000 ∧ c.Defs.length ≤ 2000000 ∧ ∀ d∈c.Defs,smD d)
 | 0=>nR
 | n+1=>pH (T:=fR) (fun b:Int × List ScopeDef × List CodeIns × Int × Unit=>⟨b.1,b.2.1,b.2.2.1,b.2.2.2.1⟩) Tryz.underlying25 (e:=4) (by kernel_rfl)
  (eR (fU n Tryz.underlying3) rfl (by kernel_rfl) (eR (qW Tryz.underlying22 (by kernel_rfl) aGq) rfl (by kernel_rfl) (eR (qW Tryz.underlying23 (by kernel_rfl) aHc) rfl (by kernel_rfl) (eR (fU n Tryz.underlying3) rfl (by kernel_rfl) pS))))
  (fun _=>rfl) (fun _=>Nat.zero_le _) (fun b h _=>⟨by have:=h.2.2.1.1;show b.2.2.1.length ≤ _;omega,by have:=h.2.1.1;show b.2.1.length ≤ _;omega,h.2.1.2⟩)
end
open Go.SX Go.SW Go.Dt
section
variable {H:Type} {enc:TypeId × Value → H} {W:World}
theorem aHk:∀ n:Nat,RdP enc W n aQ 70 (fun _=>0) (fun _=>True)
 | 0=>nR
 | n+1=>pH (T:=aQ) (fun b:Int × Int × Unit=>⟨b.1,b.2.1⟩) Tryz.underlying70 (e:=2) (by kernel_rfl)
  (eR (fU n Tryz.underlying68) rfl (by kernel_rfl) (eR (fU n Tryz.underlying3) rfl (by kernel_rfl) pS))
  (fun _=>rfl) (fun _=>Nat.zero_le _) (fun _ _ _=>trivial)
theorem rd_Doing:∀ n:Nat,RdP enc W n vV 47 (fun _=>0) (fun _=>True)
 | 0=>nR
 | n+1=>pH (T:=vV) (fun b:Int × Int × List SolVal × Int × Int × Unit=>⟨b.1,b.2.1,b.2.2.1,b.2.2.2.1,b.2.2.2.2.1⟩) Tryz.underlying47 (e:=5) (by kernel_rfl)
  (eR (fU n Tryz.underlying3) rfl (by kernel_rfl) (eR (fU n Tryz.underlying3) rfl (by kernel_rfl) (eR (qW Tryz.underlying45 (by kernel_rfl) aHk) rfl (by kernel_rfl) (eR (fU n Tryz.underlying3) rfl (by kernel_rfl) (eR (fU n Tryz.underlying3) rfl (by kernel_rfl) pS)))))
  (fun _=>rfl) (fun _=>Nat.zero_le _) (fun _ _ _=>trivial)
end
end Go.Proofs.YtjahnkcjbglnoaaGreatDoor
namespace Go.SW
open Go.SX
theorem aGZ {w w':World} (h:w.keptBut w' (fun _=>False)) {p:MemPlace} (hp:p.block<w.heap.size):w.sameAt w' p:=by
 obtain⟨_,_,h⟩:=h
 cases p with
 | cell b off=>
  have:=h b hp;show w'.cell? _=w.cell? _
  unfold World.cell?
  dsimp only at *
  cases h1:w.heap[b]? with
  | none=>rw [h1]at this;dsimp only at this;rw [this]
  | some o=>
   rw [h1]at this;cases o with
   | cells c t fr=>
    cases h2:w'.heap[b]? with
    | none=>rw [h2]at this;cases this
    | some o'=>
     rw [h2]at this;cases o' with
     | cells c' t' fr'=>
      dsimp only at this ⊢
      rw [this.2.2.2 off (fun f=>f)]
     | _=>cases this
   | map es clock=>
    cases h2:w'.heap[b]? with
    | none=>rfl
    | some o'=>
     rw [h2]at this;cases o' with
     | cells=>cases this
     | _=>rfl
   | _=>dsimp only at this;rw [this]
 | map b=>
  have:=h b hp;show w'.heap[b]? =w.heap[b]?
  cases h1:w.heap[b]? with
  | none=>rw [h1]at this;exact this
  | some o=>
   rw [h1]at this;cases o with
   | cells c t fr=>
    cases h2:w'.heap[b]? with
    | none=>rw [h2]at this;cases this
    | some o'=>
     rw [h2]at this;cases o' with
     | cells c' t' fr'=>
      dsimp only at this
      obtain⟨rfl,rfl,hs,hc⟩:=this;have:c'=c:=Array.ext_getElem? fun j=>hc j (fun f=>f)
      rw [this]
     | _=>cases this
   | map es clock=>
    cases h2:w'.heap[b]? with
    | none=>rw [h2]at this;cases this
    | some o'=>
     rw [h2]at this;cases o' with
     | map es' clock'=>
      rcases this with f | ⟨rfl,rfl⟩
      ·exact f.elim
      ·rfl
     | _=>cases this
   | _=>exact this
theorem aEH {H:Type} {enc:TypeId × Value → H} {P:Program} {W W':World} (hl:laidOutB P=true) (hm:mapsRowed P=true) (hz:∀ t e,t<P.types.size → P.underlying t=some (.slice e) → 0<P.cellsOf e) (hk:W.keptBut W' (fun _=>False)):
 ∀ {ts:List TypeId} {vs:List Value} {ds:List (DataW H)} {ps:List MemPlace},(∀ t∈ts,t<P.types.size) → DataW.TrodAll enc P W 0 (fun _=>true) true ts vs ds ps → DataW.TrodAll enc P W' 0 (fun b=>decide (b<W.heap.size)) true ts vs ds ps
 | [],[],[],_,_,h=>h
 | t :: _,_ :: _,_ :: _,ps,ht,h=>by
  have hlt:=h.lt;obtain⟨p,q,⟨n,hn⟩,h2,e⟩:=h;refine⟨p,q,⟨n,?_⟩,aEH hl hm hz hk (fun t h=>ht t (.tail _ h)) h2,e⟩
  have hp:∀ x∈p,x.block<W.heap.size:=fun x hx=>hlt x (by rw [e];exact List.mem_append_left _ hx)
  exact DataW.trod_stays (kids_rows hl hm) (fun a b=>hz _ _ a b) (fun f=>by cases f) (ht t (.head _)) hn (fun x hx=>aGZ hk (hp x hx)) (fun x hx=>decide_eq_true (hp x hx))
 | [],_ :: _,_,_,_,h=>h.elim
 | [],[],_ :: _,_,_,h=>h.elim
 | _ :: _,[],_,_,_,h=>h.elim
 | _ :: _,_ :: _,[],_,_,h=>h.elim
end Go.SW
