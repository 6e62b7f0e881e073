/- Parts of the proof: lemmas, and the steps through the program. -/
import Derived.Test.YtpbeacokfapklaaGreatDoorCb4
import Derived.Test.YtpbeacokfapklaaGreatDoorProg
import Derived.KernelRfl
import Derived.Test.YtpbeacokfapklaaGreatDoorRows
import Derived.ChangeSame
import Derived.ChangeReads
set_option linter.unusedVariables false
set_option linter.unusedSimpArgs false
set_option maxRecDepth 100000
set_option maxHeartbeats 2000000
namespace Go.Proofs.YtpbeacokfapklaaGreatDoor
open Go.SX Go.SW Go.BX
theorem aGV:okB (run0 Tryz.prog 1000000 7) true=true:=by kernel_rfl
def nO:Option Bool:=some true
theorem wN (r:Bool) (H:nO=some r):FnS Tryz.prog 7 [] [] (aL r) (fun _=>[]):=by
 cases H
 obtain⟨s,h⟩:=run_true aGV
 exact aCV (by kernel_rfl) rfl h
open Go.SX Go.SW Go.Dt
attribute [local irreducible] Code.wpIn wpListIn Exit.then Exit.inBlock
def zT (AA:Nat) (a0:AB) (a1:List Int):Option (Bool):=
 ((aAk (⟨a0.AH,a0.AD,a0.Code,a0.AG⟩:AB)).bind fun y1=>
 bif y1 then
  (nO).bind fun y2=>
  (some y2).bind fun r=>some (Sum.inr r)
 else
  if 4000<(a1.length:Int)then
   if (a1.length:Int)<=400000 then
    (nO).bind fun y3=>
    (some y3).bind fun r=>some (Sum.inr r)
   else
    if 400009<(a1.length:Int)then
     (nO).bind fun y4=>
     (some y4).bind fun r=>some (Sum.inr r)
    else
     some (Sum.inl ())
  else
   if 400009<(a1.length:Int)then
    (nO).bind fun y5=>
    (some y5).bind fun r=>some (Sum.inr r)
   else
    some (Sum.inl ())).bind fun o=>match o with
 | Sum.inr r=>some r
 | Sum.inl _=>
 (nG AA (⟨a0.AH,a0.AD,a0.Code,a0.AG⟩:AB)).bind fun y6=>
 (rB AA (⟨a0.AH,a0.AD,a0.Code,a0.AG⟩:AB)).bind fun y7=>
 (mJ AA a1).bind fun y8=>
 (nI AA a1).bind fun y9=>
 (if y6.2=y7.2 then
  (oM AA y6.1 y7.1).bind fun y10=>
  bif y10 then
   if y8.2=y9.2 then
    (qO AA (⟨y8.1.AH,y8.1.AD,y8.1.Code,y8.1.AG⟩:AB) (⟨y9.1.AH,y9.1.AD,y9.1.Code,y9.1.AG⟩:AB)).bind fun y11=>
    bif y11 then
     (nO).bind fun y12=>
     some y12
    else
     some false
   else
    some false
  else
   some false
 else
  some false).bind fun x1=>
 some x1
theorem aGU (AA:Nat)  (a0:AB) (a1:List Int) (r:Bool) (H:zT AA a0 a1=some r):FnS Tryz.prog 3 [fSt dX a0,fSl (aJ .u8) a1] [] (aL r) (fun _=>[]):=by
 unfold zT at H
 refine bY Tryz.func3 rfl Tryz.ntmps3 rfl (fun β=>?_)
 refine Z1 ?_
 refine Tn (cG rfl hh bW) fun b1=>?_
 revert H;refine B2z fun o1 H Hr1=>?_
 refine aO (ι:=Unit) (fun i=>o1=Sum.inl ()) (fun i=>[(1,fSl (aJ .u8) a1),(2,fEq (ptr b1))]) (fun i=>[aA b1 25 [fI a0.AH,fSl aE a0.AD,fSl aF a0.Code,fI a0.AG]]) ?_ ?_
 revert H;refine B2z fun y1 h1 H=>?_
 refine Tc (aIg _ _ h1) ?_
 refine Z1 ?_
 revert H;refine cs (fun c1 H=>?_) fun c1 H=>?_
 refine Z4 ?_
 refine bF (⟨_,_,_,_,rfl,rfl,rfl,nu⟩) rfl rfl ?_
 refine bF (⟨_,_,_,_,rfl,rfl,rfl,nu⟩) rfl rfl ?_
 refine bF (⟨_,_,_,_,rfl,rfl,rfl,nu⟩) rfl rfl ?_
 revert H;refine fP fun y2 h2 H=>?_
 refine Tc (wN _ h2) ?_
 revert H;refine B3z fun r1 H e1=>?_
 cases e1;cases Hr1
 cases H
 refine aC [] (by decide) ?_
 exact To
 revert H;refine I4z (fun c2 H=>?_) fun c2 H=>?_
 revert H;refine I6z (fun c3 H=>?_) fun c3 H=>?_
 revert H;refine B7z fun y3 h3 H=>?_
 refine Tc (wN _ h3) ?_
 revert H;refine B3z fun r2 H e2=>?_
 cases e2;cases Hr1
 cases H
 refine aC [] (by decide) ?_
 exact To
 revert H;refine I5z (fun c4 H=>?_) fun c4 H=>?_
 revert H;refine B2z fun y4 h4 H=>?_
 refine Tc (wN _ h4) ?_
 revert H;refine B3z fun r3 H e3=>?_
 cases e3;cases Hr1
 cases H
 refine aC [] (by decide) ?_
 exact To
 refine Z3 ?_
 exact Tm (()) (ij H)
 revert H;refine I11z (fun c5 H=>?_) fun c5 H=>?_
 revert H;refine B2z fun y5 h5 H=>?_
 refine Tc (wN _ h5) ?_
 revert H;refine B3z fun r4 H e4=>?_
 cases e4;cases Hr1
 cases H
 refine aC [] (by decide) ?_
 exact To
 refine Z3 ?_
 exact Tm (()) (ij H)
 rintro i hi;subst o1;replace H:=Hr1;clear Hr1;try dsimp only at H ⊢
 refine B2 H fun y6 h6 H=>?_
 refine Tc (aGe _ _ _ h6) ?_
 refine B8 H fun y7 h7 H=>?_
 refine Tc (aIk _ _ _ h7) ?_
 refine B8 H fun y8 h8 H=>?_
 refine Tc (aHS _ _ _ h8) ?_
 refine Z3 ?_
 refine Tn (bU rfl tU rfl) fun b2=>?_
 refine bT (φs':=[fI y8.1.AH,fSl aE y8.1.AD,fSl aF y8.1.Code,fI y8.1.AG]) a1I rfl rfl (has rfl) (has rfl) (aH (aD a1I) (aH (cA) (aH (cA) (aH (aD a1I) bL)))) (sz rfl) rfl rfl rfl ?_
 refine B4 H fun y9 h9 H=>?_
 refine Tc (aHP _ _ _ h9) ?_
 refine Z3 ?_
 refine Tn (bU rfl tU rfl) fun b3=>?_
 refine bT (φs':=[fI y9.1.AH,fSl aE y9.1.AD,fSl aF y9.1.Code,fI y9.1.AG]) a1I rfl rfl (has rfl) (has rfl) (aH (aD a1I) (aH (cA) (aH (cA) (aH (aD a1I) bL)))) (sz rfl) rfl rfl rfl ?_
 revert H;refine B2z fun o2 H Hr2=>?_
 refine aO (fun i=>o2=i) (fun i=>[(4,aL i)]) (fun i=>[aA b3 25 [fI y9.1.AH,fSl aE y9.1.AD,fSl aF y9.1.Code,fI y9.1.AG],aA b2 25 [fI y8.1.AH,fSl aE y8.1.AD,fSl aF y8.1.Code,fI y8.1.AG],aA b1 25 [fI a0.AH,fSl aE a0.AD,fSl aF a0.Code,fI a0.AG]]) ?_ ?_
 revert H;refine I5z (fun c6 H=>?_) fun c6 H=>?_
 revert H;refine B2z fun y10 h10 H=>?_
 refine Tc (aDr _ _ _ _ h10) ?_
 refine Z2 ?_
 revert H;refine cs (fun c7 H=>?_) fun c7 H=>?_
 revert H;refine I5z (fun c8 H=>?_) fun c8 H=>?_
 revert H;refine B2z fun y11 h11 H=>?_
 refine Tc (aHC _ _ _ _ h11) ?_
 refine Z2 ?_
 revert H;refine cs (fun c9 H=>?_) fun c9 H=>?_
 revert H;refine bs fun y12 h12 H=>?_
 refine Tc (wN _ h12) ?_
 refine Z3 ?_
 exact Tm (y12) (ij H)
 refine Z4 ?_
 exact Tm (false) (ij H)
 refine Z9 ?_
 exact Tm (false) (ij H)
 refine Z12 ?_
 refine Z2 ?_
 exact Tm (false) (ij H)
 refine Z12 ?_
 refine Z7 ?_
 exact Tm (false) (ij H)
 rintro x1 hi;subst o2;replace H:=Hr2;clear Hr2;try dsimp only at H ⊢
 refine Z1 ?_
 cases H
 refine aC [] (by decide) ?_
 exact To
open Go.SX Go.SW Go.Dt
theorem bsm {α γ:Type} {a:α} {f:α->Option γ}:(some a).bind f=f a:=by
 grind
theorem dO {α:Type} {xs:List α} {i:Nat} {y:α} (h:xs[i]? =some y):idx xs (i:Int)=some y:=by
 grind [idx]
theorem bS {α:Type} (AC AE:List α) (y:α):idx (AC++y :: AE) (AC.length:Int)=some y:=dO (by simp)
theorem aN {i:Int} (h:-9000000000000000000<=i/\i<=9000000000000000000):chk i=some i:=by grind [chk]
theorem cI {α:Type} (AC AE:List α) (y:α):(AC.length:Int)<((AC++y :: AE).length:Int):=by simp;omega
theorem fF {α:Type} (AC AE:List α) (y:α):AC++y :: AE=(AC++[y])++AE:=by simp
theorem cK {α:Type} (AC:List α) (y:α):(AC.length:Int)+1=((AC++[y]).length:Int):=by simp
theorem dU {α:Type} {xs:List α} {i:Int} (h0:0<=i) (h1:i<xs.length):idx xs i=some (xs[i.toNat]'(by omega)):=by
 grind [idx]
theorem dS {α:Type} {xs:List α} (h:xs.length<=1000000000):cY xs=some xs:=by grind [cY]
theorem aAj {α:Type} (AC AE:List α):slc (AC++AE) 0 (AC.length:Int)=some AC:=by
 unfold slc;rw [a1H (by simp;omega)];simp
def W:Value:= .iface 190 (.agg ([]:List Value).toArray)
theorem eD:bR true=some (.inl ()):=rfl
theorem dB:bR false=some (.inr W):=rfl
structure gA {α:Type} (g:aI Int α) (n:Nat):Prop where
 lt:∀ (k:Int) (y:α),g.get k=some y->0<=k/\k<(n:Int)
 size:g.size=((List.range n).filter fun (i:Nat)=>(g.get (i:Int)).isSome).length
theorem gA.none {α:Type} (n:Nat):gA (aI.none:aI Int α) n:=⟨(by grind [aI.none]),by
 have:(List.range n).filter (fun (i:Nat)=>((aI.none:aI Int α).get (i:Int)).isSome)=[]:=by simp_all [aI.none]
 rw [this];rfl⟩
theorem aFq (f:Nat->Bool) (j:Nat) (hf:f j=false):∀ n,(if j<n then 1 else 0)+((List.range n).filter f).length=((List.range n).filter fun i=>decide (i=j) || f i).length
 | 0=>by simp
 | n+1=>by
  have ih:=aFq f j hf n;rw [List.range_succ,List.filter_append,List.filter_append,a0I,a0I,<- ih]
  grind
theorem gA.upd {α:Type} {g:aI Int α} {n:Nat} (h:gA g n) {k:Int} {y:α} (hk:0<=k/\k<n):gA (g.upd k y) n:=by
 refine⟨fun k' y' h'=>?_,?_⟩
 ·by_cases e:k'=k
  ·subst e;exact hk
  ·exact h.lt k' y' (by simpa [aI.upd,e] using h')
 ·have hg:(fun i:Nat=>((g.upd k y).get (i:Int)).isSome)=fun i:Nat=>decide (i=k.toNat) || (g.get (i:Int)).isSome:=by
   grind [aI.upd]
  have hk':((k.toNat:Nat):Int)=k:=by omega
  rw [hg];simp only [aI.upd];cases hs:(g.get k).isSome with
  | true=>
   rw [a1H rfl,h.size];congr 2
   grind
  | false=>
   rw [a1G (by simp),<- aFq (fun i:Nat=>(g.get (i:Int)).isSome) k.toNat (by rw [hk',hs]) n,a1H (by omega),<- h.size];omega
theorem gA.full {α:Type} {g:aI Int α} {n:Nat} (h:gA g n):g.size=n ↔ ∀ i:Nat,i<n->(g.get (i:Int)).isSome=true:=by
 rw [h.size]
 constructor
 ·intro e i hi;have hl:(List.range n).length=n:=List.length_range;have:=List.filter_eq_self.1 ((List.filter_sublist (p:=fun i:Nat=>(g.get (i:Int)).isSome)).eq_of_length (by rw [e,hl])) i (List.mem_range.2 hi)
  exact this
 grind [List.filter_eq_self]
theorem aIs {c:Int} (AE:List Int):∀ (AC:List Int) (k:Nat),AE.length<k->AC.length+AE.length<=3000000->c ∉ AC ->
 ∃ r,oD (AC++AE) c k AC.length=some r/\((c∈AE/\∃ i:Int,r= .inr i/\0<=i)\/(c ∉ AE/\r= .inl ())):=by
 induction AE with
 | nil=>
  intro AC k hk _ _;obtain _ | k:=k
  ·omega
  grind [oD]
 | cons e AE ih=>
  intro AC k hk hB hn;obtain _ | k:=k
  ·omega
  simp only [a0J]at hk hB;by_cases he:c=e
  ·exact⟨_,by rw [oD,a1H (cI _ _ _),bS,bsm,a1H he];rfl,(by grind)⟩
  ·obtain⟨r,h1,h2⟩:=ih (AC++[e]) k (by omega) (by simp;omega) (by simp [hn,he])
   refine⟨r,?_,?_⟩
   ·rw [oD,a1H (cI _ _ _),bS,bsm,a1G he,aN (by omega),bsm,fF AC AE e,cK AC e];exact h1
   grind
theorem aHX {AA:Nat} {l:List Int} {c:Int} (hf:l.length<AA) (hB:l.length<=3000000):yC AA l c=some (decide (c∈l)):=by
 obtain⟨r,h1,h2⟩:=aIs (c:=c) l [] AA hf (by simpa using hB) (by simp)
 grind [yC,yT]
theorem has_loop {c:Int} (AE:List Int):∀ (AC:List Int) (k:Nat),AE.length<k->AC.length+AE.length<=3000000 ->
 pF (AC++AE) c k AC.length=some (if c∈AE then .inr true else .inl ()):=by
 induction AE with
 | nil=>
  intro AC k hk _;obtain _ | k:=k
  ·omega
  grind [pF]
 | cons e AE ih=>
  intro AC k hk hB;obtain _ | k:=k
  ·omega
  simp only [a0J]at hk hB;rw [pF,a1H (cI _ _ _),bS,bsm];by_cases he:e=c
  ·grind
  ·rw [a1G he,aN (by omega),bsm,fF AC AE e,cK AC e,ih (AC++[e]) k (by omega) (by simp;omega)]
   grind
theorem sW {AA:Nat} {l:List Int} {c:Int} (hf:l.length<AA) (hB:l.length<=3000000):vS AA l c=some (decide (c∈l)):=by
 have h:=has_loop (c:=c) l [] AA hf (by simpa using hB)
 grind [vS]
def gK (n:Nat) (c:Ad):Prop:=0<=c.At/\c.At<=(n:Int)/\0<=c.Ae/\c.Ae<=3
instance {n:Nat} {c:Ad}:Decidable (gK n c):=by unfold gK;infer_instance
def gN:Nat->List Ab->Prop
 | _,[]=>True
 | i,s :: l=>(0<=s.In/\s.In<=(i:Int))/\gN (i+1) l
instance gN.dec:∀ {i:Nat} {l:List Ab},Decidable (gN i l)
 | _,[]=>isTrue trivial
 | i,s :: l=>by unfold gN;have:=gN.dec (i:=i+1) (l:=l);infer_instance
def eM (ch:List Ad) (at_:Int):List Int->List Int->Prop
 | _,[]=>True
 | AC,j :: l=>(0<=j/\j<ch.length/\(∃ c,ch[j.toNat]? =some c/\c.At=at_)/\j ∉ AC)/\eM ch at_ (AC++[j]) l
def okR (n:Nat) (ch:List Ad) (r:AZ):Prop:=(0<=r.At/\r.At<=(n:Int)/\1<=r.AX.length/\r.AX.length<=3)/\eM ch r.At [] r.AX
def okD (d:AO):Prop:=(d.AQ.length<=30/\d.AN.length<=30/\d.AP.length<=30)/\(∀ c∈d.AQ,gK d.AN.length c)/\gN 0 d.AN/\(∀ r∈d.AP,okR d.AN.length d.AQ r)/\∀ i:Nat,i<d.AQ.length->∃ r∈d.AP,(i:Int)∈r.AX
def inD (n:Nat) (d:AO):Prop:=(∀ s∈d.AN,0<=s.AV/\s.AV<(n:Int))/\∀ r∈d.AP,0<=r.AV/\r.AV<(n:Int)
open Classical in
theorem oT (x:AR) (n:Int):kN x n=some (x,decide (0<=n/\n<x.AB.Code.length)):=by
 obtain⟨⟨a,b,c,d⟩,e,f,g,h⟩:=x
 grind [kN]
theorem aCW {a:Int} {d:AO}:tC a d=some (decide (0<=a/\a<=(d.AN.length:Int))):=by
 grind [tC]
open Go.SX Go.SW Go.Dt
def put (n:Int):List Int:=if h:128<=n then(n % 128+128) :: put (n / 128) else [IntKind.u8.wrap n]
termination_by n.toNat
decreasing_by omega
theorem pJ {n:Int} (h:n<128):put n=[IntKind.u8.wrap n]:=by rw [put,dif_neg (by omega)]
theorem sH {n:Int} (h:128<=n):put n=(n % 128+128) :: put (n / 128):=by rw [put,dif_pos h]
theorem oN (n:Int):1<=(put n).length:=by rw [put];split <;> simp
theorem aAE (n:Int):IntKind.u8.wrap n=n % 256:=by simp [IntKind.wrap,IntKind.signed,IntKind.bits]
def IsB (l:List Int):Prop:=∀ x∈l,0<=x/\x<256
def iF (canon:Bool):Nat->Int->Int->List Int->Option (Int × List Int)
 | 0,_,_,_=>none
 | _+1,_,_,[]=>none
 | k+1,by',n,c :: r=>if c<128 then(if canon=true/\by'≠1/\c=0 then none else some (n+c % 128*by',r)) else iF canon k (by'*128) (n+c % 128*by') r
theorem glue (m n b:Int):m+n % 128*b+n / 128*(b*128)=m+n*b:=by
 have h:n=n % 128+128*(n / 128):=by omega
 generalize n % 128=x at h ⊢;generalize n / 128=y at h ⊢;subst h;grind
theorem aCF {cn:Bool}:∀ (k:Nat) (n b m:Int) (r:List Int),0<=n->n<128 ^ (k+1)->(b≠1->n≠0)->iF cn (k+1) b m (put n++r)=some (m+n*b,r)
 | k,n,b,m,r,h0,h1,h2=>by
  by_cases c:128<=n
  ·rw [sH c];cases k with
   | zero=>omega
   | succ k=>
    have e:(n % 128+128) % 128=n % 128:=by omega
    rw [a0r,iF,a1G (by omega),e,aCF k (n / 128) (b*128) _ r (by omega) (by rw [a0l]at h1;omega) (fun _=>by omega),glue]
  ·rw [pJ (by omega),aAE];have e:n % 256=n:=by omega
   have e2:n % 128=n:=by omega
   rw [e,a0r,iF,a1H (by omega),a1G (fun h=>h2 h.2.1 h.2.2),e2];rfl
theorem aDN {cn:Bool}:∀ (k:Nat) (b m z:Int) (l r:List Int),IsB l->iF cn k b m l=some (z,r) ->
 ∃ n,0<=n/\n<128 ^ k/\z=m+n*b/\iF false k b m l=some (z,r)/\IsB r/\(put n).length+r.length<=l.length/\(cn=true->l=put n++r/\(b≠1->n≠0))
 | 0,_,_,_,_,_,_,h=>by cases h
 | _+1,_,_,_,[],_,_,h=>by cases h
 | k+1,b,m,z,c :: l,r,hb,h=>by
  have hc:=hb c (.head _);have hl:IsB l:=fun x hx=>hb x (.tail _ hx)
  rw [iF]at h;have hk:(1:Int)<=128 ^ k:=Int.pow_pos (by decide)
  by_cases c1:c<128
  ·rw [a1H c1]at h;split at h
   ·cases h
   ·rename_i c2;cases h;have e:c % 128=c:=by omega
    refine⟨c,hc.1,by rw [a0l];omega,by rw [e],by rw [iF,a1H c1,a1G (by simp)],hl,by rw [pJ c1];simp;omega,fun hcn=>⟨?_,fun hb1 h0=>c2 ⟨hcn,hb1,h0⟩⟩⟩
    rw [pJ c1,aAE,show c % 256=c by omega];rfl
  ·rw [a1G c1]at h;obtain⟨n,h0,h1,rfl,h3,h4,h5,h6⟩:=aDN k _ _ z l r hl h;refine⟨c % 128+128*n,by omega,by rw [a0l];omega,by grind,by rw [iF,a1G c1];exact h3,h4,?_,fun hcn=>?_⟩
   ·have hp:=oN n;rw [a0J];by_cases c2:n=0
    ·subst c2;rw [pJ (by omega)];simp;omega
    ·rw [sH (by omega),show(c % 128+128*n) / 128=n by omega];simp;omega
   obtain⟨h7,h8⟩:=h6 hcn;have hn:n≠0:=h8 (by omega)
   refine⟨?_,fun _=>by omega⟩
   rw [sH (by omega),h7,show(c % 128+128*n) % 128+128=c by omega,show(c % 128+128*n) / 128=n by omega];rfl
open Go.SX Go.SW Go.Dt
abbrev Bs:=List Int
structure Cd {α:Type} (f:Bool->Bs->Option (α × Bs)) (e:α->Bs) (ok:α->Prop):Prop where
 put:∀ cn x r,ok x->f cn (e x++r)=some (x,r)
 inv:∀ cn l x r,IsB l->f cn l=some (x,r)->ok x/\f false l=some (x,r)/\IsB r/\((e x).length+r.length<=l.length/\1<=(e x).length)/\(cn=true->l=e x++r)
def rN (cn:Bool) (l:Bs):Option (Int × Bs):=iF cn 6 1 0 l
def okN (n:Int):Prop:=0<=n/\n<4398046511104
theorem cQ:Cd rN put okN:=by
 refine⟨fun cn x r h=>?_,fun cn l x r hb h=>?_⟩
 ·rw [rN,aCF 5 x 1 0 r h.1 (by have:=h.2;omega) (by simp)];simp
 ·obtain⟨n,h0,h1,rfl,h3,h4,h5,h6⟩:=aDN 6 1 0 x l r hb h;rw [show 0+n*1=n by omega];rw [show 0+n*1=n by omega]at h3
  exact⟨⟨by omega,by omega⟩,h3,h4,⟨h5,oN n⟩,fun hc=>(h6 hc).1⟩
def fB {α β:Type} (f:Bool->Bs->Option (α × Bs)) (g:α->β) (cn:Bool) (l:Bs):Option (β × Bs):=(f cn l).map fun p=>(g p.1,p.2)
def cU {α:Type} (f:Bs->Option (α × Bs)):Nat->Bs->Option (List α × Bs)
 | 0,l=>some ([],l)
 | n+1,l=>(f l).bind fun p=>(cU f n p.2).map fun q=>(p.1 :: q.1,q.2)
def dA {α:Type} (f:Bool->Bs->Option (α × Bs)) (cn:Bool) (l:Bs):Option (List α × Bs):=(rN cn l).bind fun p=>cU (f cn) p.1.toNat p.2
def eI {α β:Type} (f:Bool->Bs->Option (α × Bs)) (g:Bool->Bs->Option (β × Bs)) (cn:Bool) (l:Bs):Option ((α × β) × Bs):=(f cn l).bind fun p=>(g cn p.2).map fun q=>((p.1,q.1),q.2)
section
variable {α β:Type} {f:Bool->Bs->Option (α × Bs)} {e:α->Bs} {ok:α->Prop} {g:Bool->Bs->Option (β × Bs)} {e':β->Bs} {ok':β->Prop}
theorem Cd.rep_put (h:Cd f e ok) (cn:Bool) (r:Bs):∀ xs:List α,(∀ x∈xs,ok x)->cU (f cn) xs.length (xs.flatMap e++r)=some (xs,r)
 | [],_=>rfl
 | x :: xs,hx=>by
  rw [a0J,cU,a0w,a0p,h.put cn x _ (hx x (.head _))];simp only [Option.bind_some];rw [Cd.rep_put h cn r xs fun y hy=>hx y (.tail _ hy)];rfl
theorem Cd.rep_inv (h:Cd f e ok) (cn:Bool):∀ (n:Nat) (l:Bs) (xs:List α) (r:Bs),IsB l->cU (f cn) n l=some (xs,r) ->
 xs.length=n/\(∀ x∈xs,ok x)/\cU (f false) n l=some (xs,r)/\IsB r/\((xs.flatMap e).length+r.length<=l.length/\n<=(xs.flatMap e).length)/\(cn=true->l=xs.flatMap e++r)
 | 0,l,xs,r,hb,q=>by cases q;exact⟨rfl,by simp,rfl,hb,⟨by simp,a1r _⟩,fun _=>rfl⟩
 | n+1,l,xs,r,hb,q=>by
  rw [cU]at q;obtain⟨⟨x,l1⟩,q1,q2⟩:=a1s.1 q;obtain⟨⟨ys,r'⟩,q3,q4⟩:=a1v.1 q2;cases q4;obtain⟨a1,a2,a3,a4,a5⟩:=h.inv cn l x l1 hb q1;obtain⟨b1,b2,b3,b4,b5,b6⟩:=Cd.rep_inv h cn n l1 ys r' a3 q3;refine⟨by simp [b1],?_,by rw [cU,a2];simp only [Option.bind_some];rw [b3];rfl,b4,(by simp only [a0w,a0I];omega),fun hc=>?_⟩
  ·intro y hy;rcases a0S.1 hy with rfl | hy
   ·exact a1
   ·exact b2 y hy
  ·rw [a5 hc,b6 hc];simp
theorem Cd.list (h:Cd f e ok):Cd (dA f) (fun xs=>Go.Proofs.YtpbeacokfapklaaGreatDoor.put xs.length++xs.flatMap e) (fun xs=>xs.length<4398046511104/\∀ x∈xs,ok x):=by
 refine⟨fun cn xs r hx=>?_,fun cn l xs r hb q=>?_⟩
 ·rw [dA,a0p,cQ.put cn _ _ ⟨by omega,by omega⟩];simp only [Option.bind_some,a0n];exact h.rep_put cn r xs hx.2
 ·rw [dA]at q;obtain⟨⟨n,l1⟩,q1,q2⟩:=a1s.1 q;obtain⟨a1,a2,a3,a4,a5⟩:=cQ.inv cn l n l1 hb q1;obtain⟨b1,b2,b3,b4,b5,b6⟩:=h.rep_inv cn _ l1 xs r a3 q2;have h1:=a1.1;have h2:=a1.2
  have e:n=(xs.length:Int):=by dsimp only at b1;omega
  refine⟨⟨by omega,b2⟩,by rw [dA,a2];simp only [Option.bind_some];exact b3,b4,(by simp only [a0I];rw [<- e];omega),fun hc=>?_⟩
  rw [a5 hc,b6 hc,e];simp
theorem Cd.two (h:Cd f e ok) (k:Cd g e' ok'):Cd (eI f g) (fun x=>e x.1++e' x.2) (fun x=>ok x.1/\ok' x.2):=by
 refine⟨fun cn x r hx=>?_,fun cn l x r hb q=>?_⟩
 ·rw [eI,a0p,h.put cn _ _ hx.1];simp only [Option.bind_some];rw [k.put cn _ _ hx.2];rfl
 ·rw [eI]at q;obtain⟨⟨a,l1⟩,q1,q2⟩:=a1s.1 q;obtain⟨⟨b,r'⟩,q3,q4⟩:=a1v.1 q2;cases q4;obtain⟨a1,a2,a3,a4,a5⟩:=h.inv cn l a l1 hb q1;obtain⟨b1,b2,b3,b4,b5⟩:=k.inv cn l1 b r' a3 q3;refine⟨⟨a1,b1⟩,by rw [eI,a2];simp only [Option.bind_some];rw [b2];rfl,b3,(by simp only [a0I];omega),fun hc=>?_⟩
  rw [a5 hc,b5 hc,a0p]
theorem Cd.map (h:Cd f e ok) (to:α->β) (fro:β->α) (hl:∀ x,ok x->fro (to x)=x) (hr:∀ y,ok' y->ok (fro y)/\to (fro y)=y) (ho:∀ x,ok x->ok' (to x)):Cd (fB f to) (fun y=>e (fro y)) ok':=by
 refine⟨fun cn y r hy=>?_,fun cn l y r hb q=>?_⟩
 ·rw [fB,h.put cn _ _ (hr y hy).1];simp [(hr y hy).2]
 ·rw [fB]at q;obtain⟨⟨x,r'⟩,q1,q2⟩:=a1v.1 q;cases q2;obtain⟨a1,a2,a3,a4,a5⟩:=h.inv cn l x r' hb q1;exact⟨ho x a1,by rw [fB,a2];rfl,a3,(by dsimp only;rw [hl x a1];exact a4),fun hc=>by dsimp only;rw [a5 hc,hl x a1]⟩
end
open Go.SX Go.SW Go.Dt
def rChan:=fB (eI rN rN) fun p=>(⟨p.1,p.2⟩:Ad)
def rSpot:=fB (eI rN rN) fun p=>(⟨p.1,p.2⟩:Ab)
def rRule:=fB (eI rN (eI rN (dA rN))) fun p=>(⟨p.1,p.2.2,p.2.1⟩:AZ)
def rDef:=fB (eI (dA rChan) (eI (dA rSpot) (dA rRule))) fun p=>(⟨p.1,p.2.1,p.2.2⟩:AO)
def qkL {α:Type} (ok:α->Prop) (xs:List α):Prop:=xs.length<4398046511104/\∀ x∈xs,ok x
def eL {α:Type} (e:α->Bs) (xs:List α):Bs:=put xs.length++xs.flatMap e
def iZ (x:Ad):Bs:=put x.At++put x.Ae
def iP (x:Ab):Bs:=put x.In++put x.AV
def gO (x:AZ):Bs:=put x.At++(put x.AV++eL put x.AX)
def fT (d:AO):Bs:=eL iZ d.AQ++(eL iP d.AN++eL gO d.AP)
def qkC (x:Ad):Prop:=okN x.At/\okN x.Ae
def qkS (x:Ab):Prop:=okN x.In/\okN x.AV
def qkR (x:AZ):Prop:=okN x.At/\okN x.AV/\qkL okN x.AX
def qkD (d:AO):Prop:=qkL qkC d.AQ/\qkL qkS d.AN/\qkL qkR d.AP
theorem aAv:Cd rChan iZ qkC:=(cQ.two cQ).map (fun p=>(⟨p.1,p.2⟩:Ad)) (fun y=>(y.At,y.Ae)) (fun _ _=>rfl) (fun _ h=>⟨h,rfl⟩) fun _ h=>h
theorem aAY:Cd rSpot iP qkS:=(cQ.two cQ).map (fun p=>(⟨p.1,p.2⟩:Ab)) (fun y=>(y.In,y.AV)) (fun _ _=>rfl) (fun _ h=>⟨h,rfl⟩) fun _ h=>h
theorem aCn:Cd rRule gO qkR:=(cQ.two (cQ.two cQ.list)).map (fun p=>(⟨p.1,p.2.2,p.2.1⟩:AZ)) (fun y=>(y.At,y.AV,y.AX)) (fun _ _=>rfl) (fun _ h=>⟨h,rfl⟩) fun _ h=>h
theorem aAg:Cd rDef fT qkD:=(aAv.list.two (aAY.list.two aCn.list)).map (fun p=>(⟨p.1,p.2.1,p.2.2⟩:AO)) (fun y=>(y.AQ,y.AN,y.AP)) (fun _ _=>rfl) (fun _ h=>⟨h,rfl⟩) fun _ h=>h
def dN (o:Int):Nat:=if o=8\/o=13\/o=15 then 2 else if o=1\/o=2\/9<=o/\o<=12 then 1 else 0
def fX (i:AL):Int:=if i.Op=1 then(if i.A<0 then -2*i.A - 1 else 2*i.A) else i.A
def unf (o a:Int):Int:=if o=1 then(if a % 2=1 then -((a+1) / 2) else a / 2) else a
def dT (i:AL):Bs:=put i.Op++((if 0<dN i.Op then put (fX i) else [])++if 1<dN i.Op then put i.B else [])
def fY (cn:Bool) (l:Bs):Option (AL × Bs):=(rN cn l).bind fun p=>if 1<=p.1/\p.1<=16 then(if 0<dN p.1 then(rN cn p.2).bind fun q=>if 1<dN p.1 then(rN cn q.2).map fun s=>(⟨p.1,unf p.1 q.1,s.1⟩,s.2) else some (⟨p.1,unf p.1 q.1,0⟩,q.2) else some (⟨p.1,0,0⟩,p.2)) else none
structure qkI (i:AL):Prop where
 op:1<=i.Op/\i.Op<=16
 a:okN (fX i)
 b:okN i.B
 a0:¬ 0<dN i.Op->i.A=0
 b0:¬ 1<dN i.Op->i.B=0
theorem aCR {i:AL}:unf i.Op (fX i)=i.A   :=by
 unfold unf fX;split
 ·split <;> split <;> omega
 ·rfl
theorem uB {o a b:Int} (h:0<=a):fX ⟨o,unf o a,b⟩=a:=by
 unfold unf fX;dsimp only;split
 ·split <;> split <;> omega
 ·rfl
theorem okN0:okN 0:=⟨by decide,by decide⟩
theorem aBq {o:Int}:1<dN o->0<dN o:=by omega
theorem aBI:Cd fY dT qkI:=by
 refine⟨fun cn i r h=>?_,fun cn l i r hb q=>?_⟩
 ·have hop:=h.op;rw [fY,dT,a0p,cQ.put cn _ _ ⟨by omega,by omega⟩];simp only [Option.bind_some];rw [a1H hop];by_cases c:0<dN i.Op
  ·rw [a1H c,a1H c,a0p,cQ.put cn _ _ h.a];simp only [Option.bind_some];by_cases c2:1<dN i.Op
   ·rw [a1H c2,a1H c2,cQ.put cn _ _ h.b,aCR];rfl
   ·rw [a1G c2,a1G c2,aCR,a0Z,<- h.b0 c2]
  ·rw [a1G c,a1G c,a1G (fun q=>c (aBq q)),a0Z,a0Z];have h1:=h.a0 c;have h2:=h.b0 (fun q=>c (aBq q))
   cases i;dsimp only at h1 h2 ⊢;rw [h1,h2]
 ·rw [fY]at q;obtain⟨⟨o,l1⟩,q1,q2⟩:=a1s.1 q;obtain⟨a1,a2,a3,a4,a5⟩:=cQ.inv cn l o l1 hb q1;dsimp only at q2
  rw [fY,a2];simp only [Option.bind_some];split at q2
  ·rename_i ho;rw [a1H ho];split at q2
   ·rename_i c;rw [a1H c];obtain⟨⟨a,l2⟩,q3,q4⟩:=a1s.1 q2;obtain⟨b1,b2,b3,b4,b5⟩:=cQ.inv cn l1 a l2 a3 q3;rw [b2];simp only [Option.bind_some];dsimp only at q4
    split at q4
    ·rename_i c2;rw [a1H c2];obtain⟨⟨b,l3⟩,q5,q6⟩:=a1v.1 q4;obtain⟨d1,d2,d3,d4,d5⟩:=cQ.inv cn l2 b l3 b3 q5;cases q6;refine⟨⟨ho,by rw [uB b1.1];exact b1,d1,fun n=>absurd c n,fun n=>absurd c2 n⟩,by rw [d2];rfl,d3,(by rw [dT];dsimp only;rw [a1H c,a1H c2,uB b1.1];simp only [a0I];omega),fun hc=>?_⟩
     rw [dT];dsimp only
     rw [a1H c,a1H c2,uB b1.1,a5 hc,b5 hc,d5 hc];simp
    ·rename_i c2;rw [a1G c2];cases q4;refine⟨⟨ho,by rw [uB b1.1];exact b1,okN0,fun n=>absurd c n,fun _=>rfl⟩,rfl,b3,(by rw [dT];dsimp only;rw [a1H c,a1G c2,uB b1.1];simp only [a0I,a0L];omega),fun hc=>?_⟩
     rw [dT];dsimp only
     rw [a1H c,a1G c2,uB b1.1,a5 hc,b5 hc];simp
   ·rename_i c;rw [a1G c];cases q2;have c2:¬ 1<dN o:=fun n=>c (aBq n)
    refine⟨⟨ho,?_,okN0,fun _=>rfl,fun _=>rfl⟩,rfl,a3,(by rw [dT];dsimp only;rw [a1G c,a1G c2];simpa using a4),fun hc=>?_⟩
    ·unfold fX;dsimp only;split
     ·exact okN0
     ·exact okN0
    ·rw [dT];dsimp only
     rw [a1G c,a1G c2,a5 hc];simp
  ·cases q2
def rProg:=fB (eI rN (eI rN (eI (dA rDef) (dA fY)))) fun p=>(⟨p.1,p.2.2.1,p.2.2.2,p.2.1⟩:AB)
def ePr (c:AB):Bs:=put c.AH++(put c.AG++(eL fT c.AD++eL dT c.Code))
def qkP (c:AB):Prop:=okN c.AH/\okN c.AG/\qkL qkD c.AD/\qkL qkI c.Code
theorem xH:Cd rProg ePr qkP:=(cQ.two (cQ.two (aAg.list.two aBI.list))).map (fun p=>(⟨p.1,p.2.2.1,p.2.2.2,p.2.1⟩:AB)) (fun y=>(y.AH,y.AG,y.AD,y.Code)) (fun _ _=>rfl) (fun _ h=>⟨h,rfl⟩) fun _ h=>h
theorem reads {l:Bs} (hb:IsB l) (c:AB):rProg true l=some (c,[]) ↔ rProg false l=some (c,[])/\ePr c=l:=by
 constructor
 ·intro h;obtain⟨_,h2,_,_,h5⟩:=xH.inv true l c [] hb h;exact⟨h2,by rw [h5 rfl,a0q]⟩
 ·intro ⟨h,e⟩
  obtain⟨h1,_⟩:=xH.inv false l c [] hb h;have:=xH.put true c [] h1
  rwa [a0q,e]at this
open Go.SX Go.SW Go.Dt
open Classical in
theorem pd1 {sp:List Ab} {ru:List AZ} (AE:List Ad):∀ (AC:List Ad) (k:Nat),AE.length<k->AC.length+AE.length<=3000000 ->
 qB ⟨AC++AE,sp,ru⟩ k AC.length=some (if ∀ c∈AE,gK sp.length c then .inl () else .inr (.inr W)):=by
 induction AE with
 | nil=>
  intro AC k hk _;obtain _ | k:=k
  ·omega
  grind [qB]
 | cons e AE ih=>
  intro AC k hk hB;obtain _ | k:=k
  ·omega
  simp only [a0J]at hk hB;rw [qB,a1H (cI _ _ _)];dsimp only
  rw [bS,bsm,aCW,bsm];dsimp only
  by_cases h:gK sp.length e
  ·obtain⟨h1,h2,h3,h4⟩:=h;rw [a1F ⟨h1,h2⟩,a1D,a1H h3,a1F h4,eD,bsm];simp only [bsm];rw [aN (by omega),bsm,fF AC AE e,cK AC e,ih (AC++[e]) k (by omega) (by simp;omega)]
   grind [gK]
  ·rw [a1G (fun g:∀ c∈e :: AE,gK sp.length c=>h (g e (.head _)))];by_cases h1:0<=e.At/\e.At<=(sp.length:Int)
   ·rw [a1F h1,a1D];by_cases h3:0<=e.Ae
    ·rw [a1H h3,a1E (fun h4=>h ⟨h1.1,h1.2,h3,h4⟩),dB];rfl
    grind [dB]
   grind [dB]
open Classical in
theorem pd2 {ch:List Ad} {ru:List AZ} {F M:Int} {D:List AO} {C:List AL} {b la td:List Int} {lv:aI Int AJ} (AE:List Ab):∀ (AC:List Ab) (k:Nat),AE.length<k->AC.length+AE.length<=3000000 ->
 pV ⟨ch,AC++AE,ru⟩ k AC.length F D C M b la lv td=some (if gN AC.length AE/\∀ s∈AE,0<=s.AV/\s.AV<(C.length:Int)then .inl (F,D,C,M,b,la,lv,td) else .inr (.inr W)):=by
 induction AE with
 | nil=>
  intro AC k hk _;obtain _ | k:=k
  ·omega
  rw [pV,a1G (by simp),a1H ⟨trivial,fun _ h=>by cases h⟩]
 | cons e AE ih=>
  intro AC k hk hB;obtain _ | k:=k
  ·omega
  simp only [a0J]at hk hB;rw [pV,a1H (cI _ _ _)];dsimp only
  rw [bS,bsm];by_cases h:(0<=e.In/\e.In<=(AC.length:Int))/\0<=e.AV/\e.AV<(C.length:Int)
  ·obtain⟨⟨h1,h2⟩,h3⟩:=h;rw [a1H h1,a1H h2,oT,bsm];dsimp only
   rw [a1F h3,eD,bsm];simp only [bsm];rw [aN (by omega),bsm,fF AC AE e,cK AC e,ih (AC++[e]) k (by omega) (by simp;omega)]
   grind [gN]
  ·rw [a1G (fun g:gN AC.length (e :: AE)/\∀ s∈e :: AE,0<=s.AV/\s.AV<(C.length:Int)=>h ⟨g.1.1,g.2 e (.head _)⟩)];by_cases h1:0<=e.In
   ·rw [a1H h1];by_cases h2:e.In<=(AC.length:Int)
    ·rw [a1H h2,oT,bsm]
     grind [dB]
    grind [dB]
   grind [dB]
def eK (g:aI Int Bool) (l:List Int):aI Int Bool:=l.foldl (fun g j=>g.upd j true) g
def updR (g:aI Int Bool) (l:List AZ):aI Int Bool:=l.foldl (fun g r=>eK g r.AX) g
theorem aER {n:Nat}:∀ (l:List Int) (g:aI Int Bool),gA g n->(∀ j∈l,0<=j/\j<(n:Int))->gA (eK g l) n/\∀ i,((eK g l).get i).isSome=true ↔ (g.get i).isSome=true\/i∈l
 | [],g,h,_=>by grind [eK]
 | j :: l,g,h,hl=>by
  obtain⟨h1,h2⟩:=aER l (g.upd j true) (h.upd (hl j (.head _))) fun x hx=>hl x (.tail _ hx)
  refine⟨h1,fun i=>(h2 i).trans ?_⟩
  grind [aI.upd]
theorem aA0 {ch:List Ad} {a:Int}:∀ {l AC:List Int},eM ch a AC l->∀ j∈l,0<=j/\j<(ch.length:Int)
 | j :: l,AC,h,x,hx=>by
  cases hx with
  | head=>exact⟨h.1.1,h.1.2.1⟩
  | tail _ hx=>exact aA0 h.2 x hx
theorem aFQ {n k:Nat} {ch:List Ad} (hn:ch.length=n):∀ (l:List AZ) (g:aI Int Bool),gA g n->(∀ r∈l,okR k ch r)->gA (updR g l) n/\∀ i,((updR g l).get i).isSome=true ↔ (g.get i).isSome=true\/∃ r∈l,i∈r.AX
 | [],g,h,_=>by grind [updR]
 | r :: l,g,h,hl=>by
  obtain⟨h1,h2⟩:=aER r.AX g h fun j hj=>by have:=aA0 (hl r (.head _)).2 j hj;omega
  obtain⟨h3,h4⟩:=aFQ hn l (eK g r.AX) h1 fun x hx=>hl x (.tail _ hx)
  refine⟨h3,fun i=>(h4 i).trans ?_⟩
  grind
open Classical in
theorem pd4 {AA:Nat} {ch:List Ad} {sp:List Ab} {ru:List AZ} {a nd:Int} {F M:Int} {D:List AO} {C:List AL} {b la td:List Int} {lv:aI Int AJ} (AE:List Int):∀ (AC:List Int) (k:Nat) (g:aI Int Bool),AE.length<k->AC.length+AE.length<=3000000->AC.length+AE.length<AA ->
 rD AA ⟨ch,sp,ru⟩ ⟨a,AC++AE,nd⟩ F D C M b la lv td k AC.length g=some (if eM ch a AC AE then .inl (F,D,C,M,b,la,lv,td,eK g AE) else .inr (.inr (.inr W))):=by
 induction AE with
 | nil=>
  intro AC k g hk _ _;obtain _ | k:=k
  ·omega
  rw [rD,a1G (by simp),a1H (show eM ch a AC []from trivial)];rfl
 | cons e AE ih=>
  intro AC k g hk hB hf;obtain _ | k:=k
  ·omega
  simp only [a0J]at hk hB hf;rw [rD,a1H (cI _ _ _)];dsimp only
  rw [bS,bsm];by_cases h0:0<=e/\e<(ch.length:Int)
  ·rw [a1H h0.1,a1H h0.2,dU h0.1 h0.2,bsm];have hc:ch[e.toNat]? =some (ch[e.toNat]'(by omega)):=by simp
   by_cases h1:(ch[e.toNat]'(by omega)).At=a
   ·rw [a1H h1,aAj,bsm,aHX (by omega) (by omega),bsm];by_cases h2:e∈AC
    ·rw [a1F h2,a0i,dB,a1G (fun g:eM ch a AC (e :: AE)=>g.1.2.2.2 h2)];rfl
    ·rw [a1E h2,Bool.not_false,eD,bsm];simp only [bsm];rw [aN (by omega),bsm,fF AC AE e,cK AC e,ih (AC++[e]) k _ (by omega) (by simp;omega) (by simp;omega)];by_cases hs:eM ch a (AC++[e]) AE
     ·rw [a1H hs,a1H ⟨⟨h0.1,h0.2,⟨_,hc,h1⟩,h2⟩,hs⟩];rfl
     ·rw [a1G hs,a1G (fun g=>hs g.2)]
   ·rw [a1G h1,dB,a1G (fun g=>by obtain⟨⟨_,_,⟨c,g1,g2⟩,_⟩,_⟩:=g;rw [hc]at g1;cases g1;exact h1 g2)];rfl
  ·rw [a1G (fun g:eM ch a AC (e :: AE)=>h0 ⟨g.1.1,g.1.2.1⟩)];by_cases h1:0<=e
   ·rw [a1H h1,a1G (fun h2=>h0 ⟨h1,h2⟩),dB];rfl
   ·rw [a1G h1,dB];rfl
open Classical in
theorem pd3 {AA:Nat} {ch:List Ad} {sp:List Ab} {F M:Int} {D:List AO} {C:List AL} {b la td:List Int} {lv:aI Int AJ} (hf:3000000<AA) (AE:List AZ):∀ (AC:List AZ) (k:Nat) (g:aI Int Bool),AE.length<k->AC.length+AE.length<=3000000->(∀ r∈AE,r.AX.length<=3000000) ->
 oS AA ⟨ch,sp,AC++AE⟩ k AC.length F D C M b la lv td g=some (if ∀ r∈AE,okR sp.length ch r/\0<=r.AV/\r.AV<(C.length:Int)then .inl (F,D,C,M,b,la,lv,td,updR g AE) else .inr (.inr W)):=by
 induction AE with
 | nil=>
  intro AC k g hk _ _;obtain _ | k:=k
  ·omega
  rw [oS,a1G (by simp),a1H (fun _ h=>by cases h)];rfl
 | cons e AE ih=>
  intro AC k g hk hB hj;obtain _ | k:=k
  ·omega
  simp only [a0J]at hk hB;obtain⟨ea,ej,en⟩:=e;rw [oS,a1H (cI _ _ _)];dsimp only
  rw [bS,bsm,aCW,bsm];dsimp only
  by_cases h1:0<=ea/\ea<=(sp.length:Int)
  ·rw [a1F h1,a1D];by_cases h2:1<=ej.length/\ej.length<=3
   ·rw [a1H (by omega),a1H (by omega),oT,bsm];dsimp only
    by_cases h3:0<=en/\en<(C.length:Int)
    ·rw [a1F h3,eD,bsm];simp only [bsm];have h4:=pd4 (AA:=AA) (ch:=ch) (sp:=sp) (ru:=AC++⟨ea,ej,en⟩ :: AE) (a:=ea) (nd:=en) (F:=F) (M:=M) (D:=D) (C:=C) (b:=b) (la:=la) (td:=td) (lv:=lv) ej [] AA g (by omega) (by simp;omega) (by simp;omega)
     simp only [a0Z,a0L,a0k]at h4;rw [h4];by_cases h5:eM ch ea [] ej
     ·rw [a1H h5,bsm];dsimp only
      rw [aN (by omega),bsm,fF AC AE _,cK AC _,ih (AC++[_]) k _ (by omega) (by simp;omega) (fun r hr=>hj r (.tail _ hr))];by_cases hs:∀ r∈AE,okR sp.length ch r/\0<=r.AV/\r.AV<(C.length:Int)
      ·rw [a1H hs,a1H (fun r hr=>by
        cases hr with
        | head=>exact⟨⟨⟨h1.1,h1.2,h2⟩,h5⟩,h3⟩
        | tail _ hr=>exact hs r hr)];rfl
      ·rw [a1G hs,a1G (fun g=>hs fun r hr=>g r (.tail _ hr))]
     ·rw [a1G h5,a1G (fun g=>h5 (g _ (.head _)).1.2)];rfl
    ·rw [a1E h3,dB,a1G (fun g=>h3 (g _ (.head _)).2)];rfl
   ·rw [a1G (fun g:∀ r∈(⟨ea,ej,en⟩:AZ) :: AE,okR sp.length ch r/\0<=r.AV/\r.AV<(C.length:Int)=>h2 (g ⟨ea,ej,en⟩ (.head _)).1.1.2.2)];by_cases h3:0<(ej.length:Int)
    ·rw [a1H h3,a1G (by omega),dB];rfl
    ·rw [a1G h3,dB];rfl
  ·rw [a1E h1,dB,a1G (fun g:∀ r∈(⟨ea,ej,en⟩:AZ) :: AE,okR sp.length ch r/\0<=r.AV/\r.AV<(C.length:Int)=>h1 ⟨(g _ (.head _)).1.1.1,(g _ (.head _)).1.1.2.1⟩)];rfl
def smD (d:AO):Prop:=d.AQ.length<=2000000/\d.AN.length<=2000000/\d.AP.length<=2000000/\∀ r∈d.AP,r.AX.length<=2000000
open Classical in
theorem aH3 {AA:Nat} {x:AR} {d:AO} (hf:4000000<=AA) (hs:smD d):xK AA x d=some (if okD d/\inD x.AB.Code.length d then .inl x else .inr W):=by
 obtain⟨ch,sp,ru⟩:=d
 obtain⟨⟨F,D,C,M⟩,b,la,lv,td⟩:=x
 obtain⟨s1,s2,s3,s4⟩:=hs
 simp only at s1 s2 s3 s4
 rw [xK]
 dsimp only
 by_cases h0:ch.length<=30/\sp.length<=30/\ru.length<=30
 ·rw [a1H (by omega),a1H (by omega),a1F (by omega),eD,bsm];simp only [bsm];have e1:=pd1 (sp:=sp) (ru:=ru) ch [] AA (by omega) (by simp;omega)
  have e2:=pd2 (ch:=ch) (ru:=ru) (F:=F) (M:=M) (D:=D) (C:=C) (b:=b) (la:=la) (td:=td) (lv:=lv) sp [] AA (by omega) (by simp;omega)
  have e3:=pd3 (AA:=AA) (ch:=ch) (sp:=sp) (F:=F) (M:=M) (D:=D) (C:=C) (b:=b) (la:=la) (td:=td) (lv:=lv) (by omega) ru [] AA aI.none (by omega) (by simp;omega) (fun r hr=>by have:=s4 r hr;omega)
  simp only [a0Z,a0L,a0k]at e1 e2 e3;rw [e1];by_cases h1:∀ c∈ch,gK sp.length c
  ·rw [a1H h1,bsm];dsimp only
   rw [e2];by_cases h2:gN 0 sp/\∀ s∈sp,0<=s.AV/\s.AV<(C.length:Int)
   ·rw [a1H h2,bsm];dsimp only
    rw [e3];by_cases h3:∀ r∈ru,okR sp.length ch r/\0<=r.AV/\r.AV<(C.length:Int)
    ·rw [a1H h3,bsm];dsimp only
     obtain⟨k1,k2⟩:=aFQ (k:=sp.length) rfl ru _ (gA.none ch.length) fun r hr=>(h3 r hr).1
     by_cases h4:(updR aI.none ru).size=ch.length
     ·rw [a1F (by omega),eD,bsm];dsimp only
      rw [a1H ⟨⟨h0,h1,h2.1,fun r hr=>(h3 r hr).1,fun i hi=>by
       have:=(k2 i).1 (k1.full.1 h4 i hi);simpa [aI.none] using this⟩,h2.2,fun r hr=>(h3 r hr).2⟩]
     ·rw [a1E (by omega),dB,bsm];dsimp only
      rw [a1G];rintro⟨⟨_,_,_,_,g⟩,_⟩
      grind [gA.full]
    ·rw [a1G h3,bsm];dsimp only
     rw [a1G (fun g=>h3 fun r hr=>⟨g.1.2.2.2.1 r hr,g.2.2 r hr⟩)]
   ·rw [a1G h2,bsm];dsimp only
    rw [a1G (fun g=>h2 ⟨g.1.2.2.1,g.2.1⟩)]
  ·rw [a1G h1,bsm];dsimp only
   rw [a1G (fun g=>h1 g.1.2.1)]
 ·rw [a1G (fun g:okD ⟨ch,sp,ru⟩/\inD C.length ⟨ch,sp,ru⟩=>h0 g.1.1)]
  grind [dB]
open Go.SX Go.SW Go.Dt
open Classical in
theorem rd1 {sp:List Ab} {ru:List AZ} (AE:List Ad):∀ (AC:List Ad) (k:Nat),AE.length<k->AC.length+AE.length<=3000000 ->
 rM ⟨AC++AE,sp,ru⟩ k AC.length=some (if ∀ c∈AE,gK sp.length c then .inl () else .inr false):=by
 induction AE with
 | nil=>
  intro AC k hk _;obtain _ | k:=k
  ·omega
  grind [rM]
 | cons e AE ih=>
  intro AC k hk hB;obtain _ | k:=k
  ·omega
  simp only [a0J]at hk hB;rw [rM,a1H (cI _ _ _)];dsimp only
  simp only [bS,bsm];by_cases h:gK sp.length e
  ·obtain⟨h1,h2,h3,h4⟩:=h;rw [a1G (by omega),a1G (by omega),a1G (by omega),a1G (by omega),aN (by omega),bsm,fF AC AE e,cK AC e,ih (AC++[e]) k (by omega) (by simp;omega)]
   grind [gK]
  ·rw [a1G (fun g:∀ c∈e :: AE,gK sp.length c=>h (g e (.head _)))];by_cases h1:e.At<0
   ·rw [a1H h1]
   ·rw [a1G h1];by_cases h2:(sp.length:Int)<e.At
    ·rw [a1H h2]
    ·rw [a1G h2];by_cases h3:e.Ae<0
     ·rw [a1H h3]
     ·rw [a1G h3,a1H (by
       rcases Int.lt_or_le 3 e.Ae with g | g
       ·exact g
       ·exact absurd (⟨by omega,by omega,by omega,g⟩:gK sp.length e) h)]
open Classical in
theorem rd2 {ch:List Ad} {ru:List AZ} (AE:List Ab):∀ (AC:List Ab) (k:Nat),AE.length<k->AC.length+AE.length<=3000000 ->
 rF ⟨ch,AC++AE,ru⟩ k AC.length=some (if gN AC.length AE then .inl () else .inr false):=by
 induction AE with
 | nil=>
  intro AC k hk _;obtain _ | k:=k
  ·omega
  rw [rF,a1G (by simp),a1H (show gN AC.length []from trivial)]
 | cons e AE ih=>
  intro AC k hk hB;obtain _ | k:=k
  ·omega
  simp only [a0J]at hk hB;rw [rF,a1H (cI _ _ _)];dsimp only
  simp only [bS,bsm];by_cases h:0<=e.In/\e.In<=(AC.length:Int)
  ·rw [a1G (by omega),a1G (by omega),aN (by omega),bsm,fF AC AE e,cK AC e,ih (AC++[e]) k (by omega) (by simp;omega)]
   grind [gN]
  grind [gN]
def fU (u:List Bool) (l:List Int):List Bool:=l.foldl (fun u j=>u.set j.toNat true) u
def setR (u:List Bool) (l:List AZ):List Bool:=l.foldl (fun u r=>fU u r.AX) u
theorem vD:∀ (l:List Int) (u:List Bool),(∀ j∈l,0<=j/\j<(u.length:Int))->(fU u l).length=u.length/\∀ i:Nat,(fU u l)[i]? =some true ↔ u[i]? =some true\/(i:Int)∈l
 | [],u,_=>by grind [fU]
 | j :: l,u,hl=>by
  have hj:=hl j (.head _);obtain⟨h1,h2⟩:=vD l (u.set j.toNat true) (by grind)
  refine⟨by grind [fU],fun i=>(h2 i).trans ?_⟩
  grind
theorem aDw {n k:Nat} {ch:List Ad} (hn:ch.length=n):∀ (l:List AZ) (u:List Bool),u.length=n->(∀ r∈l,okR k ch r)->(setR u l).length=n/\∀ i:Nat,(setR u l)[i]? =some true ↔ u[i]? =some true\/∃ r∈l,(i:Int)∈r.AX
 | [],u,h,_=>by grind [setR]
 | r :: l,u,h,hl=>by
  obtain⟨h1,h2⟩:=vD r.AX u fun j hj=>by have:=aA0 (hl r (.head _)).2 j hj;omega
  obtain⟨h3,h4⟩:=aDw hn l (fU u r.AX) (h1.trans h) fun x hx=>hl x (.tail _ hx)
  refine⟨h3,fun i=>(h4 i).trans ?_⟩
  grind
open Classical in
theorem rd4 {AA:Nat} {ch:List Ad} {sp:List Ab} {ru:List AZ} {a nd:Int} (AE:List Int):∀ (AC:List Int) (k:Nat) (u:List Bool),AE.length<k->AC.length+AE.length<=3000000->AC.length+AE.length<AA->u.length=ch.length ->
 rR AA ⟨ch,sp,ru⟩ ⟨a,AC++AE,nd⟩ k u AC.length=some (if eM ch a AC AE then .inl (fU u AE) else .inr (.inr false)):=by
 induction AE with
 | nil=>
  intro AC k u hk _ _ _;obtain _ | k:=k
  ·omega
  rw [rR,a1G (by simp),a1H (show eM ch a AC []from trivial)];rfl
 | cons e AE ih=>
  intro AC k u hk hB hf hu;obtain _ | k:=k
  ·omega
  simp only [a0J]at hk hB hf;rw [rR,a1H (cI _ _ _)];dsimp only
  rw [bS,bsm];by_cases h0:0<=e/\e<(ch.length:Int)
  ·rw [a1G (by omega),a1G (by omega),aAj,bsm,sW (by omega) (by omega),bsm];have hc:ch[e.toNat]? =some (ch[e.toNat]'(by omega)):=by simp
   by_cases h2:e∈AC
   ·grind [eM]
   ·rw [a1E h2,a1C,dU h0.1 h0.2,bsm];by_cases h1:(ch[e.toNat]'(by omega)).At=a
    ·rw [a1G (fun g=>g h1),dU h0.1 (by omega),bsm,aN (by omega),bsm,fF AC AE e,cK AC e,ih (AC++[e]) k _ (by omega) (by simp;omega) (by simp;omega) (by simpa using hu)];by_cases hs:eM ch a (AC++[e]) AE
     ·rw [a1H hs,a1H (show eM ch a AC (e :: AE)from⟨⟨h0.1,h0.2,⟨_,hc,h1⟩,h2⟩,hs⟩)];rfl
     grind [eM]
    grind [eM]
  grind [eM]
open Classical in
theorem rd3 {AA:Nat} {ch:List Ad} {sp:List Ab} (hf:3000000<AA) (AE:List AZ):∀ (AC:List AZ) (k:Nat) (u:List Bool),AE.length<k->AC.length+AE.length<=3000000->(∀ r∈AE,r.AX.length<=3000000)->u.length=ch.length ->
 qA AA ⟨ch,sp,AC++AE⟩ k u AC.length=some (if ∀ r∈AE,okR sp.length ch r then .inl (setR u AE) else .inr false):=by
 induction AE with
 | nil=>
  intro AC k u hk _ _ _;obtain _ | k:=k
  ·omega
  rw [qA,a1G (by simp),a1H (fun _ h=>by cases h)];rfl
 | cons e AE ih=>
  intro AC k u hk hB hj hu;obtain _ | k:=k
  ·omega
  simp only [a0J]at hk hB;obtain⟨ea,ej,en⟩:=e;rw [qA,a1H (cI _ _ _)];dsimp only
  rw [bS,bsm];dsimp only
  have hn:∀ {P:Prop},¬ P->(okR sp.length ch ⟨ea,ej,en⟩->P)->¬ ∀ r∈(⟨ea,ej,en⟩:AZ) :: AE,okR sp.length ch r:=fun h1 h2 g=>h1 (h2 (g _ (.head _)))
  by_cases h1:0<=ea/\ea<=(sp.length:Int)
  ·by_cases h2:1<=ej.length/\ej.length<=3
   ·rw [a1G (by omega),a1G (by omega),a1G (by omega),a1G (by omega)];have h4:=rd4 (AA:=AA) (ch:=ch) (sp:=sp) (ru:=AC++⟨ea,ej,en⟩ :: AE) (a:=ea) (nd:=en) ej [] AA u (by omega) (by simp;omega) (by simp;omega) hu
    simp only [a0Z,a0L,a0k]at h4;rw [h4];by_cases h5:eM ch ea [] ej
    ·rw [a1H h5,bsm];dsimp only
     have hl:=(vD ej u fun j hj=>by have:=aA0 h5 j hj;omega).1
     rw [aN (by omega),bsm,fF AC AE _,cK AC _,ih (AC++[_]) k _ (by omega) (by simp;omega) (fun r hr=>hj r (.tail _ hr)) (hl.trans hu)];by_cases hs:∀ r∈AE,okR sp.length ch r
     ·rw [a1H hs,a1H (fun r hr=>by
       cases hr with
       | head=>exact⟨⟨h1.1,h1.2,h2⟩,h5⟩
       | tail _ hr=>exact hs r hr)];rfl
     ·rw [a1G hs,a1G (fun g=>hs fun r hr=>g r (.tail _ hr))]
    ·rw [a1G h5,a1G (hn h5 fun g=>g.2)];rfl
   ·rw [a1G (by omega),a1G (by omega),a1G (hn h2 fun g=>g.1.2.2)];by_cases h3:(ej.length:Int)<1
    ·rw [a1H h3];rfl
    ·rw [a1G h3,a1H (by omega)];rfl
  ·rw [a1G (hn h1 fun g=>⟨g.1.1,g.1.2.1⟩)];by_cases h3:ea<0
   ·rw [a1H h3];rfl
   ·rw [a1G h3,a1H (by omega)];rfl
open Classical in
theorem rd5 (AE:List Bool):∀ (AC:List Bool) (k:Nat),AE.length<k->AC.length+AE.length<=3000000->oX (AC++AE) k AC.length=some (if ∀ b∈AE,b=true then .inl () else .inr false):=by
 induction AE with
 | nil=>
  intro AC k hk _;obtain _ | k:=k
  ·omega
  grind [oX]
 | cons e AE ih=>
  intro AC k hk hB;obtain _ | k:=k
  ·omega
  simp only [a0J]at hk hB;rw [oX,a1H (cI _ _ _),bS,bsm];cases e with
  | false=>simp_all
  | true=>
   rw [a1D,aN (by omega),bsm,fF AC AE _,cK AC _,ih (AC++[_]) k (by omega) (by simp;omega)]
   grind
theorem mk_ok {α:Type} {z:α} {n:Nat} (h:n<=1000000000):mk z (n:Int)=some (List.replicate n z):=by
 grind [mk]
open Classical in
theorem parts_eq {AA:Nat} {d:AO} (hf:4000000<=AA) (hs:smD d):wL AA d=some (decide (okD d)):=by
 obtain⟨ch,sp,ru⟩:=d
 obtain⟨s1,s2,s3,s4⟩:=hs
 simp only at s1 s2 s3 s4
 rw [wL]
 dsimp only
 by_cases h0:ch.length<=30/\sp.length<=30/\ru.length<=30
 ·rw [a1G (by omega),a1G (by omega),a1G (by omega),mk_ok (by omega),bsm];have e1:=rd1 (sp:=sp) (ru:=ru) ch [] AA (by omega) (by simp;omega)
  have e2:=rd2 (ch:=ch) (ru:=ru) sp [] AA (by omega) (by simp;omega)
  have e3:=rd3 (AA:=AA) (ch:=ch) (sp:=sp) (by omega) ru [] AA (List.replicate ch.length false) (by omega) (by simp;omega) (fun r hr=>by have:=s4 r hr;omega) (by simp)
  simp only [a0Z,a0L,a0k]at e1 e2 e3;rw [e1];by_cases h1:∀ c∈ch,gK sp.length c
  ·rw [a1H h1,bsm];dsimp only
   rw [e2];by_cases h2:gN 0 sp
   ·rw [a1H h2,bsm];dsimp only
    rw [e3];by_cases h3:∀ r∈ru,okR sp.length ch r
    ·rw [a1H h3,bsm];dsimp only
     obtain⟨k1,k2⟩:=aDw (k:=sp.length) rfl ru (List.replicate ch.length false) (by simp) h3
     have e5:=rd5 (setR (List.replicate ch.length false) ru) [] AA (by rw [k1];omega) (by simp [k1];omega)
     simp only [a0Z,a0L,a0k]at e5;rw [e5];have hall:(∀ b∈setR (List.replicate ch.length false) ru,b=true) ↔ ∀ i:Nat,i<ch.length->∃ r∈ru,(i:Int)∈r.AX:=by
      constructor
      ·intro g i hi;have h9:(setR (List.replicate ch.length false) ru)[i]? =some true:=by
        grind [_root_.List.getElem_mem]
       grind
      ·intro g b hb;obtain⟨i,hi,rfl⟩:=List.getElem_of_mem hb;have h9:=(k2 i).2 (.inr (g i (by omega)))
       grind
     by_cases h4:∀ b∈setR (List.replicate ch.length false) ru,b=true
     ·grind [okD]
     grind [okD]
    grind [okD]
   grind [okD]
  grind [okD]
 grind [okD]
open Go.SX Go.SW Go.Dt
def many (op:Int):Int:=if op=8\/op=13\/op=15 then 2 else if op=1\/op=2\/op=9\/op=10\/op=11\/op=12 then 1 else 0
structure okI (dl len:Nat) (n:Int) (i:AL):Prop where
 op:1<=i.Op/\i.Op<=16
 a:0<many i.Op\/i.A=0
 b:1<many i.Op\/i.B=0
 int:i.Op=1-> -1000000000<=i.A/\i.A<=1000000000
 send:i.Op=8->0<=i.B/\i.B<=3
 jump:i.Op=9\/i.Op=10->n<i.A/\i.A<(len:Int)
 df:i.Op=11->i.A<(dl:Int)
 pos:i.Op≠1->0<=i.A/\0<=i.B
def inI (len:Nat) (i:AL):Prop:=i.Op=13\/i.Op=15->i.B<(len:Int)
def right (dl len:Nat) (i:AL):Prop:=if i.Op=1 then -1000000000<=i.A/\i.A<=1000000000 else if i.Op=2\/i.Op=12 then 0<=i.A else if i.Op=8 then 0<=i.A/\0<=i.B/\i.B<=3 else if i.Op=11 then 0<=i.A/\i.A<(dl:Int) else if i.Op=13\/i.Op=15 then 0<=i.A/\0<=i.B/\i.B<(len:Int) else True
theorem aEi {dl len:Nat} {n:Int} {i:AL} (hn:0<=n):okI dl len n i/\inI len i ↔ (1<=i.Op/\i.Op<=16)/\right dl len i/\(0<many i.Op\/i.A=0)/\(1<many i.Op\/i.B=0)/\(i.Op=9\/i.Op=10->n<i.A/\i.A<(len:Int)):=by
 obtain⟨op,A,B⟩:=i
 constructor
 ·rintro⟨h,h2⟩
  refine⟨h.op,?_,h.a,h.b,h.jump⟩;unfold inI at h2;have h3:=h.int;have h4:=h.send;have h5:=h.df;have h6:=h.pos
  grind [right]
 ·rintro⟨h1,h2,h3,h4,h5⟩
  unfold right at h2;unfold many at h3 h4;simp only at *
  refine⟨⟨h1,by unfold many;exact h3,by unfold many;exact h4,?_,?_,h5,?_,?_⟩,?_⟩
  all_goals simp only [inI]
  all_goals intro g
  all_goals grind
open Classical in
theorem aCb {op:Int} (h:1<=op/\op<=16):∃ y,idx nH op=some y/\y.many=many op/\∀ (x:AR) (a b:Int),aA3 y.right x ⟨op,a,b⟩=some (x,decide (right x.AB.AD.length x.AB.Code.length ⟨op,a,b⟩)):=by
 have hx:∀ x:AR,(⟨(⟨x.AB.AH,x.AB.AD,x.AB.Code,x.AB.AG⟩:AB),x.AU,x.last,x.AK,x.AT⟩:AR)=x:=by grind
 have k1:∀ (x:AR) (i:AL),uU x i=some (x,decide (-1000000000<=i.A/\i.A<=1000000000)):=fun x i=>by
  rw [uU,hx]
  grind
 have k2:∀ (x:AR) (i:AL),vA x i=some (x,decide (0<=i.A/\0<=i.B/\i.B<=3)):=fun x i=>by
  rw [vA,hx]
  grind
 have k3:∀ (x:AR) (i:AL),yN x i=some (x,decide (0<=i.A/\i.A<(x.AB.AD.length:Int))):=fun x i=>by
  rw [yN,hx]
  grind
 have k4:∀ (x:AR) (i:AL),xL x i=some (x,decide (0<=i.A/\0<=i.B/\i.B<(x.AB.Code.length:Int))):=fun ⟨⟨F,D,C,M⟩,b,la,lv,td⟩ i=>by
  rw [xL]
  grind [oT]
 have k5:∀ (x:AR) (i:AL),yI x i=some (x,decide (0<=i.A/\0<=i.B/\i.B<(x.AB.Code.length:Int))):=fun ⟨⟨F,D,C,M⟩,b,la,lv,td⟩ i=>by
  rw [yI]
  grind [oT]
 have ks:∀ (x:AR) (i:AL),wY x i=some (x,decide (0<=i.A)):=fun x i=>by rw [wY,hx]
 have ko:∀ (x:AR) (i:AL),uL x i=some (x,true):=fun x i=>by rw [uL,hx]
 have hc:op=1\/op=2\/op=3\/op=4\/op=5\/op=6\/op=7\/op=8\/op=9\/op=10\/op=11\/op=12\/op=13\/op=14\/op=15\/op=16:=by omega
 rcases hc with rfl | rfl | rfl | rfl | rfl | rfl | rfl | rfl | rfl | rfl | rfl | rfl | rfl | rfl | rfl | rfl <;> refine⟨_,rfl,rfl,fun x a b=>?_⟩
 ·exact(k1 x _).trans (by simp [right])
 ·exact(ks x _).trans (by simp [right])
 ·exact(ko x ⟨3,a,b⟩).trans (by simp [right])
 ·exact(ko x ⟨4,a,b⟩).trans (by simp [right])
 ·exact(ko x ⟨5,a,b⟩).trans (by simp [right])
 ·exact(ko x ⟨6,a,b⟩).trans (by simp [right])
 ·exact(ko x ⟨7,a,b⟩).trans (by simp [right])
 ·exact(k2 x _).trans (by simp [right])
 ·exact(ko x ⟨9,a,b⟩).trans (by simp [right])
 ·exact(ko x ⟨10,a,b⟩).trans (by simp [right])
 ·exact(k3 x _).trans (by simp [right])
 ·exact(ks x _).trans (by simp [right])
 ·exact(k4 x _).trans (by simp [right])
 ·exact(ko x ⟨14,a,b⟩).trans (by simp [right])
 ·exact(k5 x _).trans (by simp [right])
 ·exact(ko x ⟨16,a,b⟩).trans (by simp [right])
def iG (dl len:Nat):Nat->List AL->Prop
 | _,[]=>True
 | n,i :: l=>(okI dl len n i/\inI len i)/\iG dl len (n+1) l
def eB:List Int->List AL->Prop
 | _,[]=>True
 | ds,i :: l=>(i.Op=11->i.A ∉ ds)/\eB (if i.Op=11 then ds++[i.A] else ds) l
def eS:List Int->List AL->List Int
 | ds,[]=>ds
 | ds,i :: l=>eS (if i.Op=11 then ds++[i.A] else ds) l
theorem aBP:∀ (l:List Int) (g:aI Int Bool) (k:Int),(eK g l).get k=if k∈l then some true else g.get k
 | [],g,k=>by simp [eK]
 | j :: l,g,k=>by
  show(eK (g.upd j true) l).get k=_
  rw [aBP l]
  grind [aI.upd]
theorem aDy (g:aI Int Bool) (l:List Int) (j:Int):eK g (l++[j])=(eK g l).upd j true:=by simp [eK]
theorem aC5 (a:Int):tZ a=some (decide (1<=a/\a<=16)):=by
 grind [tZ]
theorem bb {α γ δ:Type} {T:Option α} {G:α->Option γ} {G':γ->Option δ} {z:α} {r:Option δ} (h:T=some z) (k:(G z).bind G'=r):(T.bind G).bind G'=r:=by rw [h,bsm];exact k
open Classical in
theorem pi1 {F M:Int} {D:List AO} {b la td:List Int} {lv:aI Int AJ} {x0:AR} (AE:List AL):∀ (AC:List AL) (k:Nat) (ds:List Int),x0.AB.Code=AC++AE->AE.length<k->AC.length+AE.length<=3000000->(eK aI.none ds).size=ds.length ->
 nP x0 k AC.length F D (AC++AE) M b la lv td (eK aI.none ds)=some (if iG D.length (AC++AE).length AC.length AE/\eB ds AE then .inl (F,D,AC++AE,M,b,la,lv,td,eK aI.none (eS ds AE)) else .inr (.inr W))/\(eB ds AE->(eK aI.none (eS ds AE)).size=(eS ds AE).length):=by
 induction AE with
 | nil=>
  intro AC k ds hx hk _ hs;obtain _ | k:=k
  ·omega
  exact⟨by rw [nP,hx,a1G (by simp),a1H ⟨trivial,trivial⟩];rfl,fun _=>hs⟩
 | cons e AE ih=>
  intro AC k ds hx hk hB hs;obtain _ | k:=k
  ·omega
  simp only [a0J]at hk hB;have hle:(AC++[e]).length=AC.length+1:=by simp
  have hsn:AC++e :: AE=(AC++[e])++AE:=fF AC AE e;have hrest:∀ ds',(eK aI.none ds').size=ds'.length->(okI D.length (AC++e :: AE).length AC.length e/\inI (AC++e :: AE).length e)->(e.Op=11->e.A ∉ ds)->ds'=(if e.Op=11 then ds++[e.A] else ds) ->
   ((chk ((AC.length:Int)+1)).bind fun z=>nP x0 k z F D (AC++e :: AE) M b la lv td (eK aI.none ds'))=some (if iG D.length (AC++e :: AE).length AC.length (e :: AE)/\eB ds (e :: AE)then .inl (F,D,AC++e :: AE,M,b,la,lv,td,eK aI.none (eS ds (e :: AE))) else .inr (.inr W)):=by
   intro ds' h1 h2 h3 h4;have:=(ih (AC++[e]) k ds' (by rw [hx,hsn]) (by omega) (by simp;omega) h1).1
   rw [aN (by omega),bsm,cK,hsn,this,hle];congr 1
   subst h4;rw [hsn]at h2;by_cases g:iG D.length (AC++[e]++AE).length (AC.length+1) AE/\eB (if e.Op=11 then ds++[e.A] else ds) AE
   ·rw [a1H g,a1H (show iG D.length (AC++[e]++AE).length AC.length (e :: AE)/\eB ds (e :: AE)from⟨⟨h2,g.1⟩,h3,g.2⟩)];rfl
   ·rw [a1G g,a1G (fun q:iG D.length (AC++[e]++AE).length AC.length (e :: AE)/\eB ds (e :: AE)=>g ⟨q.1.2,q.2.2⟩)]
  have hsz:e.A ∉ ds->(eK aI.none (ds++[e.A])).size=(ds++[e.A]).length:=fun h=>by
   rw [aDy];have:((eK aI.none ds).get e.A).isSome=false:=by rw [aBP,a1G h];rfl
   simp [aI.upd,this,hs]
  refine⟨?_,fun h=>?_⟩
  ·rw [nP,hx,a1H (cI _ _ _),bS];simp only [bsm];rw [aC5,bsm];have hneg:¬ (okI D.length (AC++e :: AE).length AC.length e/\inI (AC++e :: AE).length e)->(some (if iG D.length (AC++e :: AE).length AC.length (e :: AE)/\eB ds (e :: AE)then .inl (F,D,AC++e :: AE,M,b,la,lv,td,eK aI.none (eS ds (e :: AE))) else .inr (.inr W)):Option ((Int × List AO × List AL × Int × List Int × List Int × aI Int AJ × List Int × aI Int Bool) ⊕ (AR ⊕ Value)))=some (.inr (.inr W)):=fun g=>by
    rw [a1G (fun q=>g q.1.1)]
   rw [aEi (by omega)]at hneg;by_cases h1:1<=e.Op/\e.Op<=16
   ·obtain⟨y,y1,y2,y3⟩:=aCb h1;rw [a1F h1,eD,bsm];simp only [y1,bsm,y3,y2];by_cases h2:right D.length (AC++e :: AE).length e
    ·rw [a1F (show right D.length (AC++e :: AE).length ⟨e.Op,e.A,e.B⟩from h2),a1D];by_cases h3:(0<many e.Op\/e.A=0)/\(1<many e.Op\/e.B=0)
     ·refine bb (z:= .inl (F,D,AC++e :: AE,M,b,la,lv,td)) ?_ ?_
      ·by_cases m0:0<many e.Op
       ·rw [a1H m0];by_cases m1:1<many e.Op
        ·rw [a1H m1]
        grind [eD]
       ·rw [a1G m0,a1H (h3.1.resolve_left m0)];by_cases m1:1<many e.Op
        ·rw [a1H m1]
        grind [eD]
      dsimp only
      by_cases h4:e.Op=9\/e.Op=10->(AC.length:Int)<e.A/\e.A<((AC++e :: AE).length:Int)
      ·have hok:=(aEi (by omega)).2 ⟨h1,h2,h3.1,h3.2,h4⟩
       refine bb (z:= .inl ()) ?_ ?_
       ·by_cases o9:e.Op=9
        ·grind [eD]
        ·rw [a1G o9];by_cases o10:e.Op=10
         ·grind [eD]
         ·rw [a1G o10]
       dsimp only
       by_cases h6:e.Op=11
       ·rw [a1H h6,aBP];by_cases h7:e.A∈ds
        ·rw [a1H h7];simp only [a1t,a0i,dB,bsm];rw [a1G (fun q=>q.2.1 h6 h7)]
        ·rw [a1G h7];have hg:(aI.none:aI Int Bool).get e.A=none:=rfl;simp only [hg,Option.getD_none,Bool.not_false,eD,bsm];rw [<- aDy]
         grind
       grind
      ·rw [hneg (fun q=>h4 q.2.2.2.2)];have o:e.Op=9\/e.Op=10:=by omega
       have h5:¬ ((AC.length:Int)<e.A/\e.A<((AC++e :: AE).length:Int)):=fun g=>h4 fun _=>g
       rcases o with o | o
       ·rw [a1H o];by_cases q:(AC.length:Int)<e.A
        ·rw [a1H q,a1E (fun w=>h5 ⟨q,w⟩),dB];rfl
        ·rw [a1G q,dB];rfl
       ·rw [a1G (by omega),a1H o];by_cases q:(AC.length:Int)<e.A
        ·rw [a1H q,a1E (fun w=>h5 ⟨q,w⟩),dB];rfl
        ·rw [a1G q,dB];rfl
     ·rw [hneg (fun q=>h3 ⟨q.2.2.1,q.2.2.2.1⟩)];by_cases m0:0<many e.Op
      ·rw [a1H m0];have m1:¬ 1<many e.Op:=by omega
       rw [a1G m1,a1E (fun q=>h3 ⟨.inl m0, .inr q⟩),dB];rfl
      ·rw [a1G m0];by_cases a0:e.A=0
       ·rw [a1H a0];have m1:¬ 1<many e.Op:=by omega
        rw [a1G m1,a1E (fun q=>h3 ⟨.inr a0, .inr q⟩),dB];rfl
       ·rw [a1G a0,dB];rfl
    ·rw [hneg (fun q=>h2 q.2.1),a1E (show ¬ right D.length (AC++e :: AE).length ⟨e.Op,e.A,e.B⟩from h2),dB];rfl
   ·rw [hneg (fun q=>h1 q.1),a1E h1,dB];rfl
  ·by_cases h6:e.Op=11
   ·have:=(ih (AC++[e]) k (ds++[e.A]) (by rw [hx,hsn]) (by omega) (by simp;omega) (hsz (h.1 h6))).2
    simp only [eB,eS,a1H h6]at h ⊢;exact this h.2
   ·have:=(ih (AC++[e]) k ds (by rw [hx,hsn]) (by omega) (by simp;omega) hs).2
    simp only [eB,eS,a1G h6]at h ⊢;exact this h.2
open Classical in
theorem aHr {AA:Nat} {x:AR} (hf:4000000<=AA) (hc:x.AB.Code.length<=2000000):
 vQ AA x=some (if (iG x.AB.AD.length x.AB.Code.length 0 x.AB.Code/\eB [] x.AB.Code)/\(eS [] x.AB.Code).length=x.AB.AD.length then .inl x else .inr W):=by
 obtain⟨⟨F,D,C,M⟩,b,la,lv,td⟩:=x
 simp only at hc
 obtain⟨e1,e2⟩:=pi1 (F:=F) (M:=M) (D:=D) (b:=b) (la:=la) (td:=td) (lv:=lv) (x0:=⟨⟨F,D,C,M⟩,b,la,lv,td⟩) C [] AA [] rfl (by omega) (by simp;omega) rfl
 simp only [a0Z,a0L,a0k]at e1
 have e3:eK aI.none []=aI.none:=rfl
 rw [e3]at e1
 rw [vQ,pD,bsm]
 dsimp only
 rw [e1]
 by_cases h:iG D.length C.length 0 C/\eB [] C
 ·rw [a1H h,bsm];dsimp only
  rw [e2 h.2];by_cases h2:(eS [] C).length=D.length
  ·grind [eD]
  ·rw [a1E (by omega),dB,bsm,a1G (fun g=>h2 g.2)]
 grind
open Go.SX Go.SW Go.Dt
theorem aAD:∀ (k:Nat) (n:Int),n<128 ^ (k+1)->(put n).length<=k+1
 | k,n,h=>by
  by_cases c:128<=n
  ·cases k with
   | zero=>omega
   | succ k=>rw [sH c];have:=aAD k (n / 128) (by rw [a0l]at h;omega);simp;omega
  ·rw [pJ (by omega)];simp
theorem aAp {x:Int} (h:-9223372036854775808<=x/\x<=9223372036854775807):IntKind.i64.wrap x=x:=wrap64_id h.1 h.2
theorem quo_eq {x:Int} (h:0<=x/\x<=9223372036854775807):hJ .i64 x 128=some (x / 128):=by
 unfold hJ;rw [a1G (by decide),a0m h.1,aAp (by omega)]
theorem aAN {x:Int} (h:0<=x):jB .i64 x 128=some (x % 128):=by
 unfold jB;rw [a1G (by decide),Int.tmod_eq_emod_of_nonneg h]
def fitN (x:Int):Prop:=x<=9223372036854775807
theorem num2:∀ (d k:Nat) (x:Int) (acc:Bs),fitN x->x<128 ^ (d+1)->d<k->acc.length+d<=1000000000 ->
 ∃ y AC,sE k x acc=some (y,acc++AC)/\put x=AC++[IntKind.u8.wrap y]
 | d,0,_,_,_,_,h,_=>by omega
 | d,k+1,x,acc,hf,hx,hk,hr=>by
  rw [sE];by_cases c:128<=x
  ·cases d with
   | zero=>omega
   | succ d=>
    rw [a1H c,aAN (by omega)];simp only [bsm];rw [aN (by omega)];simp only [bsm];rw [aAE,show(x % 128+128) % 256=x % 128+128 by omega,dS (by simp;omega)];simp only [bsm];rw [quo_eq ⟨by omega,hf⟩];simp only [bsm];obtain⟨y,AC,h1,h2⟩:=num2 d k (x / 128) (acc++[x % 128+128]) (by unfold fitN at *;omega) (by rw [a0l]at hx;omega) (by omega) (by simp;omega)
    exact⟨y,(x % 128+128) :: AC,by rw [h1];simp,by rw [sH c,h2];rfl⟩
  ·rw [a1G c];exact⟨x,[],by simp,by rw [pJ (by omega)];rfl⟩
theorem uR {x:Int} (h:fitN x):x<128 ^ (9+1):=by unfold fitN at h;omega
theorem num1 {AA:Nat} (hf:100<=AA):∀ (AE AC:Bs) (k:Nat) (acc:Bs),AE.length<k->AC.length+AE.length<=1000000->(∀ x∈AE,fitN x)->acc.length+10*AE.length<=1000000000 ->
 pW AA (AC++AE) k (AC.length:Int) acc=some (acc++AE.flatMap put)
 | [],AC,k+1,acc,_,_,_,_=>by rw [pW,a1G (by simp)];simp
 | x :: AE,AC,k+1,acc,h1,h2,h3,h4=>by
  have hx:=h3 x (.head _);simp only [a0J]at h1 h2 h4;rw [pW,a1H (cI AC AE x),bS];simp only [bsm];obtain⟨y,p,e1,e2⟩:=num2 9 AA x acc hx (uR hx) (by omega) (by omega)
  have hl:p.length<=9:=by have:=aAD 9 x (uR hx);rw [e2]at this;simpa using this
  rw [e1];simp only [bsm];rw [dS (by simp;omega)];simp only [bsm];rw [aN (by omega)];simp only [bsm];rw [fF,cK,num1 hf AE (AC++[x]) k _ (by omega) (by simp;omega) (fun z hz=>h3 z (.tail _ hz)) (by simp;omega),a0w,e2];simp
theorem aGy {AA:Nat} (hf:2000000<=AA) {acc l:Bs} (hl:l.length<=1000000) (h:∀ x∈l,fitN x) (hr:acc.length+10*l.length<=1000000000):fS AA acc l=some (acc++l.flatMap put):=by
 rw [fS]
 exact num1 (by omega) l [] AA acc (by omega) (by simp;omega) h hr
open Go.SX Go.SW Go.Dt
theorem emit {α:Type} {e:α->Bs} {L:Nat->Int->Bs->Option Bs} {xs:List α} {ok:α->Prop} (hs:∀ AC x AE k acc,xs=AC++x :: AE->ok x->acc.length+(e x).length<=900000000->L (k+1) (AC.length:Int) acc=L k ((AC.length:Int)+1) (acc++e x))
 (he:∀ k acc,L (k+1) (xs.length:Int) acc=some acc):∀ (AE AC:List α) (k:Nat) (acc:Bs),xs=AC++AE->(∀ x∈AE,ok x)->AE.length<k->acc.length+(AE.flatMap e).length<=900000000->L k (AC.length:Int) acc=some (acc++AE.flatMap e)
 | [],AC,k+1,acc,h1,_,_,_=>by rw [a0q]at h1;subst h1;rw [he];simp
 | x :: AE,AC,k+1,acc,h1,h2,h3,h4=>by
  simp only [a0J]at h3;rw [a0w,a0I]at h4;rw [hs AC x AE k acc h1 (h2 x (.head _)) (by omega),cK AC x,emit hs he AE (AC++[x]) k _ (by rw [h1];simp) (fun y hy=>h2 y (.tail _ hy)) (by omega) (by simp only [a0I];omega),a0w,a0p]
theorem iV {AA:Nat} (hf:2000000<=AA) {acc l:Bs} (hr:acc.length<=900000000) (hl:l.length<=1000) (h:∀ x∈l,fitN x):fS AA acc l=some (acc++l.flatMap put):=aGy hf (by omega) h (by omega)
structure wfD (d:AO):Prop where
 ln:d.AQ.length<=30/\d.AN.length<=30/\d.AP.length<=30
 ch:∀ x∈d.AQ,fitN x.At/\fitN x.Ae
 sp:∀ x∈d.AN,fitN x.In/\fitN x.AV
 ru:∀ x∈d.AP,fitN x.At/\fitN x.AV/\x.AX.length<=3/\∀ j∈x.AX,fitN j
theorem eY {n:Nat} (h:n<=1000000):fitN (n:Int):=by unfold fitN;omega
theorem wb2 {AA:Nat} (hf:2000000<=AA) {d:AO} (hd:wfD d) {acc:Bs} (hr:acc.length+(d.AQ.flatMap iZ).length<=900000000):rL AA d AA 0 acc=some (acc++d.AQ.flatMap iZ):=
 emit (xs:=d.AQ) (ok:=fun x=>fitN x.At/\fitN x.Ae) (fun AC x AE k acc h hx ha=>by
  have hl:d.AQ.length<=30:=hd.ln.1;have hp:AC.length<d.AQ.length:=by rw [h];simp
  rw [rL,a1H (by omega),h,bS];simp only [bsm];rw [iV hf (by omega) (by simp) (by simp [hx.1,hx.2])];simp only [bsm];rw [aN (by omega)];simp [iZ]) (fun k acc=>by rw [rL,a1G (by omega)]) d.AQ [] AA acc rfl hd.ch (by have:=hd.ln;omega) hr
theorem wb3 {AA:Nat} (hf:2000000<=AA) {d:AO} (hd:wfD d) {acc:Bs} (hr:acc.length+(d.AN.flatMap iP).length<=900000000):rS AA d AA 0 acc=some (acc++d.AN.flatMap iP):=
 emit (xs:=d.AN) (ok:=fun x=>fitN x.In/\fitN x.AV) (fun AC x AE k acc h hx ha=>by
  have hl:=hd.ln;have hp:AC.length<d.AN.length:=by rw [h];simp
  rw [rS,a1H (by omega),h,bS];simp only [bsm];rw [iV hf (by omega) (by simp) (by simp [hx.1,hx.2])];simp only [bsm];rw [aN (by omega)];simp [iP]) (fun k acc=>by rw [rS,a1G (by omega)]) d.AN [] AA acc rfl hd.sp (by have:=hd.ln;omega) hr
theorem wb4 {AA:Nat} (hf:2000000<=AA) {d:AO} (hd:wfD d) {acc:Bs} (hr:acc.length+(d.AP.flatMap gO).length<=900000000):qP AA d AA 0 acc=some (acc++d.AP.flatMap gO):=
 emit (xs:=d.AP) (ok:=fun x=>fitN x.At/\fitN x.AV/\x.AX.length<=3/\∀ j∈x.AX,fitN j) (fun AC x AE k acc h hx ha=>by
  have hl:=hd.ln;have hp:AC.length<d.AP.length:=by rw [h];simp
  obtain⟨h1,h2,h3,h4⟩:=hx;rw [qP,a1H (by omega),h,bS];simp only [bsm];rw [iV hf (by omega) (by simp) (by simp [h1,h2,eY (n:=x.AX.length) (by omega)])];simp only [bsm];rw [iV hf (by simp only [gO,eL,a0I]at ha;simp only [a0w,a0x,a0I,a0L];omega) (by omega) h4];simp only [bsm];rw [aN (by omega)];simp [gO,eL]) (fun k acc=>by rw [qP,a1G (by omega)]) d.AP [] AA acc rfl hd.ru (by have:=hd.ln;omega) hr
theorem wb1 {AA:Nat} (hf:2000000<=AA) {c:AB} (hl:c.AD.length<=12) (hd:∀ d∈c.AD,wfD d) {acc:Bs} (hr:acc.length+(c.AD.flatMap fT).length<=900000000):rE AA c AA 0 acc=some (acc++c.AD.flatMap fT):=
 emit (xs:=c.AD) (ok:=wfD) (fun AC d AE k acc h hx ha=>by
  have hp:AC.length<c.AD.length:=by rw [h];simp
  have hn:=hx.ln;simp only [fT,eL,a0I]at ha;rw [rE,a1H (by omega),h,bS];simp only [bsm];rw [iV hf (by omega) (by simp) (by simp [eY (n:=d.AQ.length) (by omega)])];simp only [bsm];rw [wb2 hf hx (by simp only [a0w,a0x,a0I,a0L];omega)];simp only [bsm];rw [iV hf (by simp only [a0w,a0x,a0I,a0L];omega) (by simp) (by simp [eY (n:=d.AN.length) (by omega)])];simp only [bsm];rw [wb3 hf hx (by simp only [a0w,a0x,a0I,a0L];omega)];simp only [bsm];rw [iV hf (by simp only [a0w,a0x,a0I,a0L];omega) (by simp) (by simp [eY (n:=d.AP.length) (by omega)])];simp only [bsm];rw [wb4 hf hx (by simp only [a0w,a0x,a0I,a0L];omega)];simp only [bsm];rw [aN (by omega)];simp [fT,eL]) (fun k acc=>by rw [rE,a1G (by omega)]) c.AD [] AA acc rfl hd (by omega) hr
structure wfI (i:AL):Prop where
 op:1<=i.Op/\i.Op<=16
 int:i.Op=1-> -1000000000<=i.A/\i.A<=1000000000
 a:fitN i.A
 b:fitN i.B
theorem zF (o:Int):many o=(dN o:Int):=by unfold many dN;split <;> (try rfl);split <;> split <;> first | rfl | omega
theorem wb5 {AA:Nat} (hf:2000000<=AA) {c:AB} (hl:c.Code.length<=12000) (hd:∀ d∈c.Code,wfI d) {acc:Bs} (hr:acc.length+(c.Code.flatMap dT).length<=900000000):qZ AA c AA 0 acc=some (acc++c.Code.flatMap dT):=
 emit (xs:=c.Code) (ok:=wfI) (fun AC i AE k acc h hx ha=>by
  have hp:AC.length<c.Code.length:=by rw [h];simp
  have hop:=hx.op;simp only [dT,a0I]at ha;rw [qZ,a1H (by omega),h,bS];simp only [bsm];rw [iV hf (by omega) (by simp) (by simp [fitN];omega)];simp only [bsm];have e1:(acc++[i.Op].flatMap put).length<=900000000:=by simp only [a0w,a0x,a0I,a0L];omega
  by_cases c1:i.Op=1
  ·have hi:=hx.int c1;have hm:dN 1=1:=rfl;rw [a1H c1];by_cases c2:i.A<0
   ·rw [a1H c2,aN (by omega)];simp only [bsm];rw [aN (by omega)];simp only [bsm];rw [iV hf e1 (by simp) (by simp [fitN];omega)];simp only [bsm];rw [aN (by omega)];simp [dT,hm,fX,c1,c2]
   ·rw [a1G c2,aN (by omega)];simp only [bsm];rw [iV hf e1 (by simp) (by simp [fitN];omega)];simp only [bsm];rw [aN (by omega)];simp [dT,hm,fX,c1,c2]
  ·rw [a1G c1];obtain⟨y,k1,k2,_⟩:=aCb hop;rw [k1];simp only [bsm];rw [k2,zF,yZ];have hm:dN i.Op=0\/dN i.Op=1\/dN i.Op=2:=by unfold dN;split <;> (try omega);split <;> omega
   have e2:∃ l:Bs,(slc [i.A,i.B] 0 (dN i.Op:Int))=some l/\l.flatMap put=(if 0<dN i.Op then put (fX i) else [])++(if 1<dN i.Op then put i.B else [])/\(∀ x∈l,fitN x)/\l.length<=2:=by
    have ef:fX i=i.A:=a1G c1;have ha':=hx.a;have hb':=hx.b
    rcases hm with hm | hm | hm <;> rw [hm,ef]
    ·exact⟨[],rfl,rfl,by simp,by simp⟩
    ·exact⟨[i.A],rfl,by simp,by simp [ha'],by simp⟩
    ·exact⟨[i.A,i.B],rfl,by simp,by simp [ha',hb'],by simp⟩
   obtain⟨l,l1,l2,l3,l4⟩:=e2;rw [l1];simp only [bsm];rw [iV hf e1 (by omega) l3];simp only [bsm];rw [aN (by omega),l2];simp [dT,bsm]) (fun k acc=>by rw [qZ,a1G (by omega)]) c.Code [] AA acc rfl hd (by omega) hr
theorem mB {α:Type} {e:α->Bs} {m:Nat}:∀ xs:List α,(∀ x∈xs,(e x).length<=m)->(xs.flatMap e).length<=m*xs.length
 | [],_=>by simp
 | x :: xs,h=>by
  have h1:=h x (.head _);have h2:=mB xs fun y hy=>h y (.tail _ hy)
  rw [a0w,a0I,a0J,Nat.mul_add];omega
theorem eQ {x:Int} (h:fitN x):(put x).length<=10:=aAD 9 x (uR h)
theorem aFW {d:AO} (h:wfD d):(fT d).length<=4000:=by
 have hn:=h.ln
 have c1:=mB (e:=iZ) (m:=20) d.AQ fun x hx=>by have:=h.ch x hx;have:=eQ this.1;have:=eQ (h.ch x hx).2;rw [iZ,a0I];omega
 have c2:=mB (e:=iP) (m:=20) d.AN fun x hx=>by have:=h.sp x hx;have:=eQ this.1;have:=eQ (h.sp x hx).2;rw [iP,a0I];omega
 have c3:=mB (e:=gO) (m:=60) d.AP fun x hx=>by
  obtain⟨h1,h2,h3,h4⟩:=h.ru x hx;have b1:=eQ h1;have b2:=eQ h2;have b3:=eQ (eY (n:=x.AX.length) (by omega));have b4:=mB (e:=put) (m:=10) x.AX fun j hj=>eQ (h4 j hj)
  simp only [gO,eL,a0I];omega
 have b1:=eQ (eY (n:=d.AQ.length) (by omega));have b2:=eQ (eY (n:=d.AN.length) (by omega));have b3:=eQ (eY (n:=d.AP.length) (by omega))
 simp only [fT,eL,a0I];omega
theorem fold_fit {i:AL} (h:wfI i):fitN (fX i):=by
 have h1:=h.int;have h2:=h.a
 unfold fX fitN at *;split
 ·have:=h1 (by assumption);split <;> omega
 ·exact h2
theorem aC9 {i:AL} (h:wfI i):(dT i).length<=30:=by
 have b1:=eQ (x:=i.Op) (by have:=h.op;unfold fitN;omega);have b2:=eQ (fold_fit h);have b3:=eQ h.b
 simp only [dT,a0I]
 split <;> split <;> simp <;> omega
theorem bytes_ok {AA:Nat} (hf:2000000<=AA) {c:AB} (hc:kW AA c=some 0) (h1:c.AD.length<=12) (h2:c.Code.length<=12000) (h3:∀ d∈c.AD,wfD d) (h4:∀ i∈c.Code,wfI i) (h5:fitN c.AH/\fitN c.AG):nG AA c=some (ePr c,0):=by
 have l1:=mB (e:=fT) c.AD fun d hd=>aFW (h3 d hd)
 have l2:=mB (e:=dT) c.Code fun d hd=>aC9 (h4 d hd)
 have p1:=eQ h5.1;have p2:=eQ h5.2;have p3:=eQ (eY (n:=c.AD.length) (by omega));have p4:=eQ (eY (n:=c.Code.length) (by omega))
 rw [nG]
 have hc':kW AA (⟨c.AH,c.AD,c.Code,c.AG⟩:AB)=some 0:=hc
 rw [hc']
 simp only [bsm]
 rw [a1G (by decide),iV hf (by simp) (by simp) (by simp [h5.1,h5.2,eY (n:=c.AD.length) (by omega)])]
 simp only [bsm]
 rw [wb1 hf h1 h3 (by simp only [a0w,a0x,a0I,a0L,a0Z];omega)]
 simp only [bsm]
 rw [iV hf (by simp only [a0w,a0x,a0I,a0L,a0Z];omega) (by simp) (by simp [eY (n:=c.Code.length) (by omega)])]
 simp only [bsm]
 rw [pD]
 simp only [bsm]
 rw [wb5 hf h2 h4 (by simp only [a0w,a0x,a0I,a0L,a0Z];omega)]
 simp [bsm,ePr,eL]
open Go.SX Go.SW Go.Dt
theorem b1 {α γ:Type} {T:Option α} {G:α->Option γ} {z:α} {r:Option γ} (h:T=some z) (k:G z=r):T.bind G=r:=by rw [h,bsm];exact k
theorem zD (op:Int):kU op=some (if 1<=op/\op<=16 then many op else -1):=by
 by_cases h:1<=op/\op<=16
 ·rw [a1H h];have hc:op=1\/op=2\/op=3\/op=4\/op=5\/op=6\/op=7\/op=8\/op=9\/op=10\/op=11\/op=12\/op=13\/op=14\/op=15\/op=16:=by omega
  rcases hc with rfl | rfl | rfl | rfl | rfl | rfl | rfl | rfl | rfl | rfl | rfl | rfl | rfl | rfl | rfl | rfl <;> rfl
 ·rw [a1G h,kU];have:op≠1/\op≠2/\op≠3/\op≠4/\op≠5/\op≠6/\op≠7/\op≠8/\op≠9/\op≠10/\op≠11/\op≠12/\op≠13/\op≠14/\op≠15/\op≠16:=by omega
  simp [this]
def fN (C:List AL) (n:Nat) (i:AL):Prop:=i.Op=9\/i.Op=10->∀ k:Nat,n<=k->(k:Int)<i.A->∀ j,C[k]? =some j->j.Op≠16
open Classical in
theorem ro1 {c:AB} {y:AL} {n:Nat} (hA:y.A<(c.Code.length:Int)):∀ (k m:Nat),n<=m->(m:Int)<=y.A->c.Code.length - m<k->c.Code.length<=2000000->(∀ q:Nat,n<=q->q<m->∀ j,c.Code[q]? =some j->j.Op≠16) ->
 tK c y k m=some (if ∀ q:Nat,n<=q->(q:Int)<y.A->∀ j,c.Code[q]? =some j->j.Op≠16 then .inl () else .inr (.inr false))
 | k+1,m,hm,hmA,hk,hc,hq=>by
  rw [tK];by_cases h:(m:Int)<y.A
  ·have hlt:m<c.Code.length:=by omega
   rw [a1H h,dU (by omega) (by omega),bsm];simp only [a0n];by_cases h2:(c.Code[m]).Op=16
   ·rw [a1H h2,a1G (fun g=>g m hm h _ (a0B hlt) h2)];rfl
   ·rw [a1G h2,aN (by omega),bsm];have:=ro1 (c:=c) (y:=y) (n:=n) hA k (m+1) (by omega) (by omega) (by omega) hc fun q h3 h4 j hj=>by
     grind
    simpa using this
  grind
open Classical in
theorem aGm {AA:Nat} {c:AB} {n:Nat} {i:AL} (hf:4000000<=AA) (hc:c.Code.length<=2000000) (hi:c.Code[n]? =some i):
 uM AA c n=some (decide (okI c.AD.length c.Code.length n i/\fN c.Code n i)):=by
 rw [uM,dO hi,bsm,zD,bsm]
 have hneg:∀ {P:Prop},¬ P->(okI c.AD.length c.Code.length n i->P)->decide (okI c.AD.length c.Code.length n i/\fN c.Code n i)=false:=by grind
 by_cases h1:1<=i.Op/\i.Op<=16
 ·rw [a1H h1];have hm:0<=many i.Op:=by
   grind [many]
  by_cases h2:(0<many i.Op\/i.A=0)/\(1<many i.Op\/i.B=0)
  ·refine b1 (z:= .inl ()) ?_ ?_
   ·grind
   dsimp only
   by_cases o1:i.Op=1
   ·rw [a1H o1];have e:decide (okI c.AD.length c.Code.length n i/\fN c.Code n i)=decide (-1000000000<=i.A/\i.A<=1000000000):=decide_eq_decide.2 ⟨fun g=>g.1.int o1,fun p=>⟨⟨h1,h2.1,h2.2,fun _=>p,fun g=>by omega,fun g=>by omega,fun g=>by omega,fun g=>absurd o1 g⟩,fun g=>by omega⟩⟩
    grind
   ·rw [a1G o1];by_cases o8:i.Op=8
    ·rw [a1H o8];have e:decide (okI c.AD.length c.Code.length n i/\fN c.Code n i)=decide (0<=i.A/\0<=i.B/\i.B<=3):=decide_eq_decide.2 ⟨fun g=>⟨(g.1.pos o1).1,g.1.send o8⟩,fun p=>⟨⟨h1,h2.1,h2.2,fun g=>absurd g o1,fun g=>p.2,fun g=>by omega,fun g=>by omega,fun g=>⟨p.1,p.2.1⟩⟩,fun g=>by omega⟩⟩
     grind
    ·rw [a1G o8];by_cases o9:i.Op=9\/i.Op=10
     ·have e0:(if i.Op=9 then some (decide (i.Op=9)) else some (decide (i.Op=10)))=some true:=by
       grind
      have hb0:i.B=0:=by grind [many]
      rw [e0,bsm,a1D];have e:decide (okI c.AD.length c.Code.length n i/\fN c.Code n i)=decide (((n:Int)<i.A/\i.A<(c.Code.length:Int))/\∀ q:Nat,n<=q->(q:Int)<i.A->∀ j,c.Code[q]? =some j->j.Op≠16):=
       decide_eq_decide.2 ⟨fun g=>⟨g.1.jump o9,g.2 o9⟩,fun p=>⟨⟨h1,h2.1,h2.2,fun g=>absurd g o1,fun g=>absurd g o8,fun _=>p.1,fun g=>by omega,(by omega)⟩,fun _=>p.2⟩⟩
      rw [e];by_cases a:i.A<=(n:Int)
      ·grind
      ·rw [a1G a];by_cases b:(c.Code.length:Int)<=i.A
       ·grind
       ·rw [a1G b,ro1 (n:=n) (by omega) AA n (a1l _) (by omega) (by omega) hc (fun q h3 h4=>by omega)]
        grind
     ·have e0:(if i.Op=9 then some (decide (i.Op=9)) else some (decide (i.Op=10)))=some false:=by grind
      rw [e0,bsm,a1C];by_cases o11:i.Op=11
      ·rw [a1H o11];have hb0:i.B=0:=by grind [many]
       have e:decide (okI c.AD.length c.Code.length n i/\fN c.Code n i)=decide (0<=i.A/\i.A<(c.AD.length:Int)):=decide_eq_decide.2 ⟨fun g=>⟨(g.1.pos o1).1,g.1.df o11⟩,fun p=>⟨⟨h1,h2.1,h2.2,fun g=>absurd g o1,fun g=>absurd g o8,fun g=>absurd g o9,fun _=>p.2,fun g=>⟨p.1,by omega⟩⟩,fun g=>absurd g o9⟩⟩
       grind
      ·rw [a1G o11,bsm];dsimp only
       have e:decide (okI c.AD.length c.Code.length n i/\fN c.Code n i)=decide (0<=i.A/\0<=i.B):=decide_eq_decide.2 ⟨fun g=>g.1.pos o1,fun p=>⟨⟨h1,h2.1,h2.2,fun g=>absurd g o1,fun g=>absurd g o8,fun g=>absurd g o9,fun g=>absurd g o11,fun _=>p⟩,fun g=>absurd g o9⟩⟩
       grind
  ·rw [hneg h2 fun g=>⟨g.a,g.b⟩]
   grind
 grind [okI.op]
open Classical in
theorem once1 {c:AB} {u0:List Bool} (hu0:u0=List.replicate c.AD.length false) (AE:List AL):∀ (AC:List AL) (k:Nat) (ds:List Int),c.Code=AC++AE->AE.length<k->AC.length+AE.length<=3000000->ds.length<=AC.length->(∀ i∈AE,i.Op=11->0<=i.A/\i.A<(c.AD.length:Int))->(∀ j∈ds,0<=j/\j<(c.AD.length:Int)) ->
 lD c k (fU u0 ds) ds.length AC.length=some (if eB ds AE then .inl (fU u0 (eS ds AE),((eS ds AE).length:Int)) else .inr false)/\(eB ds AE->∀ j∈eS ds AE,0<=j/\j<(c.AD.length:Int)):=by
 induction AE with
 | nil=>
  intro AC k ds hc hk _ _ _ hd;obtain _ | k:=k
  ·omega
  exact⟨by rw [lD,hc,a1G (by simp),a1H (show eB ds []from trivial)];rfl,fun _=>hd⟩
 | cons e AE ih=>
  intro AC k ds hc hk hB hl hr hd;obtain _ | k:=k
  ·omega
  simp only [a0J]at hk hB;have hsn:AC++e :: AE=(AC++[e])++AE:=fF AC AE e;have hul:u0.length=c.AD.length:=by rw [hu0];simp
  obtain⟨s1,s2⟩:=vD ds u0 (by rw [hul];exact hd)
  by_cases h6:e.Op=11
  ·have hA:=hr e (.head _) h6;by_cases h7:e.A∈ds
   ·refine⟨?_,fun g=>absurd h7 (g.1 h6)⟩
    have hg:(fU u0 ds)[e.A.toNat]? =some true:=by grind [Int.toNat_of_nonneg]
    have hx:idx (fU u0 ds) e.A=some true:=by grind [idx]
    rw [lD,hc,a1H (cI _ _ _)];simp only [bS,bsm];rw [a1H h6,hx,bsm,a1D,a1G (fun g=>g.1 h6 h7)];rfl
   ·obtain⟨i1,i2⟩:=ih (AC++[e]) k (ds++[e.A]) (by rw [hc,hsn]) (by omega) (by simp;omega) (by simp;omega) (fun i hi=>hr i (.tail _ hi)) (fun j hj=>by
     rcases a0P.1 hj with g | g
     ·exact hd j g
     grind)
    have hx:idx (fU u0 ds) e.A=some false:=by
     have hlt:e.A.toNat<(fU u0 ds).length:=by rw [s1,hul];omega
     unfold idx;rw [a1H hA.1,a0B hlt];congr 1
     cases hb:(fU u0 ds)[e.A.toNat]with
     | false=>rfl
     | true=>
      rcases(s2 e.A.toNat).1 (by grind)with g | g
      ·grind
      grind [Int.toNat_of_nonneg]
    have hset:fU u0 (ds++[e.A])=(fU u0 ds).set e.A.toNat true:=by simp [fU]
    constructor
    ·rw [lD,hc,a1H (cI _ _ _)];simp only [bS,bsm];rw [a1H h6,hx,bsm,a1C,bsm,aN (by omega),bsm,bsm];dsimp only
     rw [aN (by omega),bsm,<- hset,cK AC e];have e9:((ds.length:Int)+1)=((ds++[e.A]).length:Int):=by simp
     rw [e9,i1];by_cases g:eB (ds++[e.A]) AE
     ·rw [a1H g,a1H (show eB ds (e :: AE)from⟨fun _=>h7,by rw [a1H h6];exact g⟩)]
      grind [eS]
     grind [eB]
    ·intro g;have:=g.2;rw [a1H h6]at this;simp only [eS,a1H h6];exact i2 this
  ·obtain⟨i1,i2⟩:=ih (AC++[e]) k ds (by rw [hc,hsn]) (by omega) (by simp;omega) (by simp;omega) (fun i hi=>hr i (.tail _ hi)) hd
   constructor
   ·rw [lD,hc,a1H (cI _ _ _)];simp only [bS,bsm];rw [a1G h6,bsm];dsimp only
    rw [aN (by omega),bsm,cK AC e,i1];by_cases g:eB ds AE
    ·rw [a1H g,a1H (show eB ds (e :: AE)from⟨fun q=>absurd q h6,by rw [a1G h6];exact g⟩)]
     grind [eS]
    grind [eB]
   ·intro g;have:=g.2;rw [a1G h6]at this;simp only [eS,a1G h6];exact i2 this
open Classical in
theorem once_eq {AA:Nat} {c:AB} (hf:4000000<=AA) (hc:c.Code.length<=2000000) (hd:c.AD.length<=2000000) (hr:∀ i∈c.Code,i.Op=11->0<=i.A/\i.A<(c.AD.length:Int)):
 wI AA c=some (decide (eB [] c.Code/\(eS [] c.Code).length=c.AD.length)):=by
 obtain⟨e1,e2⟩:=once1 (c:=c) (u0:=List.replicate c.AD.length false) rfl c.Code [] AA [] rfl (by omega) (by simp;omega) (by simp) hr (fun _ h=>by cases h)
 simp only [a0L,a0k]at e1
 have e3:∀ u,fU u []=u:=fun _=>rfl
 rw [e3]at e1
 rw [wI,mk_ok (by omega),bsm,e1]
 by_cases h:eB [] c.Code
 ·have hl:=(vD (eS [] c.Code) (List.replicate c.AD.length false) (by simpa using e2 h)).1
  rw [a1H h,bsm];dsimp only
  rw [hl,List.length_replicate]
  grind [decide]
 grind
open Go.SX Go.SW Go.Dt
def bgD (d:AO):List Int:=d.AP.map (·.AV)++d.AN.map (·.AV)
def isOn (i:AL):Bool:=decide (i.Op=13\/i.Op=15)
def onB:List AL->List Int
 | []=>[]
 | i :: l=>(if isOn i=true then [i.B] else [])++onB l
def bgs (c:AB):List Int:=c.AG :: (c.AD.flatMap bgD++onB c.Code)
theorem aE8:∀ l:List AL,(onB l).length<=l.length
 | []=>a1l _
 | i :: l=>by have:=aE8 l;simp only [onB,a0I,a0J];split <;> simp <;> omega
structure SmB (c:AB):Prop where
 code:c.Code.length<=2000000
 Aa:c.AD.length<=12
 parts:∀ d∈c.AD,d.AP.length<=30/\d.AN.length<=30
theorem aBh {l:List AO} (h:∀ d∈l,d.AP.length<=30/\d.AN.length<=30):(l.flatMap bgD).length<=l.length*60:=by
 induction l with
 | nil=>simp
 | cons d l ih=>
  have:=ih fun x hx=>h x (.tail _ hx)
  grind [bgD]
theorem SmB.len {c:AB} (h:SmB c):(bgs c).length<=2001000:=by
 have h1:=aBh h.parts
 have h2:=aE8 c.Code
 grind [code,Aa,bgs]
theorem on_eq (a:Int):vF a=some (decide (a=13\/a=15)):=by
 grind [vF]
theorem aB7 (a:Int):nU a=some (decide (a=13\/a=15)):=on_eq a
theorem pb2 {y:AO} (AE:List AZ):∀ (AC:List AZ) (k:Nat) (acc:List Int),y.AP=AC++AE->AE.length<k->AC.length+AE.length<=3000000->acc.length+AE.length<=4000000->pA y k acc AC.length=some (acc++AE.map (·.AV)):=by
 induction AE with
 | nil=>
  intro AC k acc h hk _ _;obtain _ | k:=k
  ·omega
  grind [pA]
 | cons e AE ih=>
  intro AC k acc h hk hB hA;obtain _ | k:=k
  ·omega
  simp only [a0J]at hk hB hA;rw [pA,h,a1H (cI _ _ _),bS,bsm,dS (by simp;omega),bsm,aN (by omega),bsm,cK AC e,ih (AC++[e]) k _ (by rw [h];simp) (by omega) (by simp;omega) (by simp;omega)];simp
theorem pb3 {y:AO} (AE:List Ab):∀ (AC:List Ab) (k:Nat) (acc:List Int),y.AN=AC++AE->AE.length<k->AC.length+AE.length<=3000000->acc.length+AE.length<=4000000->qS y k acc AC.length=some (acc++AE.map (·.AV)):=by
 induction AE with
 | nil=>
  intro AC k acc h hk _ _;obtain _ | k:=k
  ·omega
  grind [qS]
 | cons e AE ih=>
  intro AC k acc h hk hB hA;obtain _ | k:=k
  ·omega
  simp only [a0J]at hk hB hA;rw [qS,h,a1H (cI _ _ _),bS,bsm,dS (by simp;omega),bsm,aN (by omega),bsm,cK AC e,ih (AC++[e]) k _ (by rw [h];simp) (by omega) (by simp;omega) (by simp;omega)];simp
theorem pb1 {AA:Nat} {c:AB} (hf:4000000<=AA) (AE:List AO):∀ (AC:List AO) (k:Nat) (acc:List Int),c.AD=AC++AE->AE.length<k->AC.length+AE.length<=12->acc.length+AE.length*60<=3000000->(∀ d∈AE,d.AP.length<=30/\d.AN.length<=30)->pE AA c k acc AC.length=some (acc++AE.flatMap bgD):=by
 induction AE with
 | nil=>
  intro AC k acc h hk _ _ _;obtain _ | k:=k
  ·omega
  grind [pE]
 | cons e AE ih=>
  intro AC k acc h hk hB hA hp;obtain _ | k:=k
  ·omega
  simp only [a0J]at hk hB hA;have he:=hp e (.head _);have e1:=pb2 (y:=e) e.AP [] AA acc rfl (by omega) (by simp;omega) (by omega)
  have e2:=pb3 (y:=e) e.AN [] AA (acc++e.AP.map (·.AV)) rfl (by omega) (by simp;omega) (by simp;omega)
  simp only [a0L,a0k]at e1 e2;rw [pE,h,a1H (cI _ _ _),bS,bsm,e1,bsm,e2,bsm,aN (by omega),bsm,cK AC e,ih (AC++[e]) k _ (by rw [h];simp) (by omega) (by simp;omega) (by simp;omega) (fun d hd=>hp d (.tail _ hd))];simp [bgD]
theorem pb4 {c:AB} (AE:List AL):∀ (AC:List AL) (k:Nat) (acc:List Int),c.Code=AC++AE->AE.length<k->AC.length+AE.length<=3000000->acc.length+AE.length<=4000000->qC c k acc AC.length=some (acc++onB AE):=by
 induction AE with
 | nil=>
  intro AC k acc h hk _ _;obtain _ | k:=k
  ·omega
  rw [qC,h,a1G (by simp)];simp [onB]
 | cons e AE ih=>
  intro AC k acc h hk hB hA;obtain _ | k:=k
  ·omega
  simp only [a0J]at hk hB hA;rw [qC,h,a1H (cI _ _ _),bS,bsm,on_eq,bsm];by_cases ho:e.Op=13\/e.Op=15
  ·have hi:isOn e=true:=a1F ho;rw [a1F ho,a1D,dS (by simp;omega),bsm,bsm,aN (by omega),bsm,cK AC e,ih (AC++[e]) k _ (by rw [h];simp) (by omega) (by simp;omega) (by simp;omega)]
   grind [onB]
  ·have hi:¬ isOn e=true:=by grind [isOn]
   rw [a1E ho,a1C,bsm,aN (by omega),bsm,cK AC e,ih (AC++[e]) k _ (by rw [h];simp) (by omega) (by simp;omega) (by omega)]
   grind [onB]
theorem aHi {AA:Nat} {c:AB} (hf:4000000<=AA) (h:SmB c):wO AA c=some (bgs c):=by
 have h1:=aBh h.parts
 have h3:=h.code
 have h4:=h.Aa
 have e1:=pb1 (AA:=AA) (c:=c) hf c.AD [] AA [c.AG] rfl (by omega) (by simp;omega) (by simp;omega) h.parts
 have e2:=pb4 (c:=c) c.Code [] AA ([c.AG]++c.AD.flatMap bgD) rfl (by omega) (by simp;omega) (by grind)
 grind [wO,bgs]
theorem rb2 {c:AB} {x:Int} {y:AO} (hx:idx c.AD x=some y) (AE:List AZ):∀ (AC:List AZ) (k:Nat) (acc:List Int),y.AP=AC++AE->AE.length<k->AC.length+AE.length<=3000000->acc.length+AE.length<=4000000->pT c x k acc AC.length=some (acc++AE.map (·.AV)):=by
 induction AE with
 | nil=>
  intro AC k acc h hk _ _;obtain _ | k:=k
  ·omega
  grind [pT]
 | cons e AE ih=>
  intro AC k acc h hk hB hA;obtain _ | k:=k
  ·omega
  simp only [a0J]at hk hB hA;rw [pT,hx,bsm,h,a1H (cI _ _ _),bsm,h,bS,bsm,dS (by simp;omega),bsm,aN (by omega),bsm,cK AC e,ih (AC++[e]) k _ (by rw [h];simp) (by omega) (by simp;omega) (by simp;omega)];simp
theorem rb3 {c:AB} {x:Int} {y:AO} (hx:idx c.AD x=some y) (AE:List Ab):∀ (AC:List Ab) (k:Nat) (acc:List Int),y.AN=AC++AE->AE.length<k->AC.length+AE.length<=3000000->acc.length+AE.length<=4000000->qI c x k acc AC.length=some (acc++AE.map (·.AV)):=by
 induction AE with
 | nil=>
  intro AC k acc h hk _ _;obtain _ | k:=k
  ·omega
  grind [qI]
 | cons e AE ih=>
  intro AC k acc h hk hB hA;obtain _ | k:=k
  ·omega
  simp only [a0J]at hk hB hA;rw [qI,hx,bsm,h,a1H (cI _ _ _),bsm,h,bS,bsm,dS (by simp;omega),bsm,aN (by omega),bsm,cK AC e,ih (AC++[e]) k _ (by rw [h];simp) (by omega) (by simp;omega) (by simp;omega)];simp
theorem rb1 {AA:Nat} {c:AB} (hf:4000000<=AA) (AE:List AO):∀ (AC:List AO) (k:Nat) (acc:List Int),c.AD=AC++AE->AE.length<k->AC.length+AE.length<=12->acc.length+AE.length*60<=3000000->(∀ d∈AE,d.AP.length<=30/\d.AN.length<=30)->rA AA c k acc AC.length=some (acc++AE.flatMap bgD):=by
 induction AE with
 | nil=>
  intro AC k acc h hk _ _ _;obtain _ | k:=k
  ·omega
  grind [rA]
 | cons e AE ih=>
  intro AC k acc h hk hB hA hp;obtain _ | k:=k
  ·omega
  simp only [a0J]at hk hB hA;have he:=hp e (.head _);have hx:idx c.AD (AC.length:Int)=some e:=by rw [h,bS]
  have e1:=rb2 (y:=e) hx e.AP [] AA acc rfl (by omega) (by simp;omega) (by omega)
  have e2:=rb3 (y:=e) hx e.AN [] AA (acc++e.AP.map (·.AV)) rfl (by omega) (by simp;omega) (by simp;omega)
  simp only [a0L,a0k]at e1 e2;rw [rA,a1H (by grind),e1,bsm,e2,bsm,aN (by omega),bsm,cK AC e,ih (AC++[e]) k _ (by rw [h];simp) (by omega) (by simp;omega) (by simp;omega) (fun d hd=>hp d (.tail _ hd))];simp [bgD]
theorem rb4 {c:AB} (AE:List AL):∀ (AC:List AL) (k:Nat) (acc:List Int),c.Code=AC++AE->AE.length<k->AC.length+AE.length<=3000000->acc.length+AE.length<=4000000->pO c k acc AC.length=some (acc++onB AE):=by
 induction AE with
 | nil=>
  intro AC k acc h hk _ _;obtain _ | k:=k
  ·omega
  rw [pO,h,a1G (by simp)];simp [onB]
 | cons e AE ih=>
  intro AC k acc h hk hB hA;obtain _ | k:=k
  ·omega
  simp only [a0J]at hk hB hA;rw [pO,h,a1H (cI _ _ _),bS,bsm,aB7,bsm];by_cases ho:e.Op=13\/e.Op=15
  ·have hi:isOn e=true:=a1F ho;rw [a1F ho,a1D,bsm,dS (by simp;omega),bsm,bsm,aN (by omega),bsm,cK AC e,ih (AC++[e]) k _ (by rw [h];simp) (by omega) (by simp;omega) (by simp;omega)]
   grind [onB]
  ·have hi:¬ isOn e=true:=by grind [isOn]
   rw [a1E ho,a1C,bsm,aN (by omega),bsm,cK AC e,ih (AC++[e]) k _ (by rw [h];simp) (by omega) (by simp;omega) (by omega)]
   grind [onB]
theorem aG2 {AA:Nat} {c:AB} (hf:4000000<=AA) (h:SmB c):wE AA c=some (bgs c):=by
 have h1:=aBh h.parts
 have h3:=h.code
 have h4:=h.Aa
 have e1:=rb1 (AA:=AA) (c:=c) hf c.AD [] AA [c.AG] rfl (by omega) (by simp;omega) (by simp;omega) h.parts
 have e2:=rb4 (c:=c) c.Code [] AA ([c.AG]++c.AD.flatMap bgD) rfl (by omega) (by simp;omega) (by grind)
 grind [wE,bgs]
def stA:Nat->Bool->List AL->List Int
 | _,_,[]=>[]
 | p,fr,i :: l=>(if fr=true then [(p:Int)] else [])++stA (p+1) (decide (i.Op=16)) l
def iI:List AL->Bool
 | []=>true
 | [i]=>decide (i.Op=16)
 | _ :: l=>iI l
theorem stA_ge:∀ (l:List AL) (p:Nat) (fr:Bool),∀ x∈stA p fr l,(p:Int)<=x/\x<((p+l.length:Nat):Int)
 | [],_,_,x,h=>by cases h
 | i :: l,p,fr,x,h=>by
  simp only [stA,a0P]at h;simp only [a0J];rcases h with h | h
  ·grind
  ·have:=stA_ge l _ _ x h;omega
theorem aBG:∀ (l:List AL) (p:Nat) (fr:Bool),(stA p fr l).Pairwise (fun a b=>a<b)
 | [],_,_=> .nil
 | i :: l,p,fr=>by
  simp only [stA];refine a1c.2 ⟨by split <;> simp,aBG l _ _,fun a ha b hb=>?_⟩
  have:=(stA_ge l _ _ b hb).1
  grind
theorem aD9:∀ (l:List AL) (p:Nat) (fr:Bool) (x:Int),x∈stA p fr l ↔ ∃ i:Nat,i<l.length/\x=((p+i:Nat):Int)/\((i=0/\fr=true)\/∃ j q,i=j+1/\l[j]? =some q/\q.Op=16)
 | [],_,_,x=>by simp [stA]
 | e :: l,p,fr,x=>by
  simp only [stA,a0P,aD9 l];constructor
  ·rintro(h | ⟨i,h1,h2,h3⟩)
   ·grind
   ·refine⟨i+1,by simp;omega,by rw [h2];congr 1;omega, .inr ?_⟩
    grind
  ·rintro⟨i,h1,h2,h3⟩
   rcases h3 with⟨rfl,rfl⟩ | ⟨j,q,rfl,h4,h5⟩
   ·left;simp [h2]
   grind
def ends (l:List AL):Nat:=(l.filter fun i=>decide (i.Op=16)).length
theorem aBn:∀ (l:List AL) (p:Nat) (fr:Bool),l≠[]->iI l=true->(stA p fr l).length+(if fr=true then 0 else 1)=ends l
 | [],_,_,h,_=>absurd rfl h
 | [i],p,fr,_,h=>by
  have h:decide (i.Op=16)=true:=h
  grind [stA,ends]
 | i :: j :: l,p,fr,_,h=>by
  have ih:=aBn (j :: l) (p+1) (decide (i.Op=16)) (by simp) h
  have he:ends (i :: j :: l)=(if i.Op=16 then 1 else 0)+ends (j :: l):=by
   grind [ends]
  have hs:(stA p fr (i :: j :: l)).length=(if fr=true then 1 else 0)+(stA (p+1) (decide (i.Op=16)) (j :: l)).length:=by
   grind [stA]
  grind
theorem aFI:∀ {l m:List Int},l.Perm m->l.Pairwise (fun a b=>a<=b)->m.Pairwise (fun a b=>a<=b)->l=m
 | [],m,h,_,_=>by rw [List.nil_perm.1 h]
 | a :: l,[],h,_,_=>by simp_all
 | a :: l,b :: m,h,h1,h2=>by
  have hab:a=b:=by
   have g1:a∈b :: m:=h.mem_iff.1 (.head _);have g2:b∈a :: l:=h.mem_iff.2 (.head _)
   grind [_root_.List.pairwise_cons]
  subst hab;rw [aFI (List.Perm.cons_inv h) (a1d.1 h1).2 (a1d.1 h2).2]
theorem aB5:∀ {l m:List Int},l.Nodup->(∀ x∈l,x∈m)->m.length<=l.length->l.Perm m
 | [],m,_,_,h=>by grind
 | a :: l,m,hn,hs,hl=>by
  have ha:a∈m:=hs a (.head _);have hp:=List.perm_cons_erase ha;have hn2:=a1b.1 hn;have hlen:=hp.length_eq;simp only [a0J]at hlen hl;have:=aB5 (l:=l) (m:=m.erase a) hn2.2 (by grind) (by omega)
  grind
theorem aAo (l:List Int):(cN l).Perm l:=List.mergeSort_perm _ _
theorem aEz (l:List Int):(cN l).Pairwise (fun a b=>a<=b):=by
 have:=List.pairwise_mergeSort (le:=fun x y:Int=>decide (x<=y)) (by intro a b c h1 h2;simp only [decide_eq_true_eq]at *;omega) (by intro a b;simp;omega) l
 exact this.imp fun h=>by simpa using h
def okB (c:AB):Prop:=c.Code≠[]/\cN (bgs c)=stA 0 true c.Code/\iI c.Code=true
theorem aB9 {c:AB} (hne:c.Code≠[]):okB c ↔ (bgs c).Nodup/\(∀ b∈bgs c,0<=b/\b<(c.Code.length:Int)/\(0<b->∃ q,c.Code[(b - 1).toNat]? =some q/\q.Op=16))/\ends c.Code=(bgs c).length/\iI c.Code=true:=by
 have hmem:∀ b:Int,b∈stA 0 true c.Code ↔ 0<=b/\b<(c.Code.length:Int)/\(0<b->∃ q,c.Code[(b - 1).toNat]? =some q/\q.Op=16):=fun b=>by
  rw [aD9];constructor
  ·grind [Int.toNat]
  ·rintro⟨h1,h2,h3⟩
   refine⟨b.toNat,by omega,by omega,?_⟩
   by_cases h0:b=0
   ·grind
   ·obtain⟨q,g1,g2⟩:=h3 (by omega)
    right;exact⟨(b - 1).toNat,q,by omega,g1,g2⟩
 have hsn:(stA 0 true c.Code).Nodup:=(aBG c.Code 0 true).imp fun h=>by omega
 constructor
 ·rintro⟨_,h1,h2⟩
  have hp:(bgs c).Perm (stA 0 true c.Code):=by grind [aAo]
  have hl:=aBn c.Code 0 true hne h2;simp only [if_true,Nat.add_zero]at hl
  grind [List.Perm.length_eq]
 ·rintro⟨h1,h2,h3,h4⟩
  have hl:=aBn c.Code 0 true hne h4;simp only [if_true,Nat.add_zero]at hl;have hp:(bgs c).Perm (stA 0 true c.Code):=by grind [aB5]
  exact⟨hne,aFI ((aAo _).trans hp) (aEz _) ((aBG _ _ _).imp fun h=>by omega),h4⟩
open Go.SX Go.SW Go.Dt
theorem aDh {d:Array Int} (hd:∀ i j,i<=j->j<d.size->d[i]! <=d[j]!):∀ m,m<=d.size->(Go.Lib.compactUpTo d m).Pairwise (fun a b=>a<b)/\(∀ a∈Go.Lib.compactUpTo d m,∃ j,j<m/\d[j]! =a)/\(∀ j,j<m->d[j]! ∈Go.Lib.compactUpTo d m)
 | 0,_=>⟨by simp [Go.Lib.compactUpTo],fun a h=>by simp [Go.Lib.compactUpTo]at h,fun j h=>by omega⟩
 | m+1,hm=>by
  obtain⟨h1,h2,h3⟩:=aDh hd m (by omega)
  rw [Go.Lib.compactUpTo_succ];by_cases hk:m=0\/d[m]! ≠d[m - 1]!
  ·rw [a1H (by simpa [Go.Lib.keeps] using hk)];refine⟨a1c.2 ⟨h1,List.pairwise_singleton _ _,fun a ha b hb=>?_⟩,fun a ha=>?_,fun j hj=>?_⟩
   ·rw [a0Y.1 hb];obtain⟨j,hj,rfl⟩:=h2 a ha;have q1:=hd j (m - 1) (by omega) (by omega)
    have q2:=hd (m - 1) m (by omega) (by omega)
    omega
   ·grind
   grind
  ·rw [a1G (by simpa [Go.Lib.keeps] using hk),a0q]
   grind
theorem aHF (l:List Int):(Go.Lib.compact (cN l)).Nodup/\∀ i,i∈Go.Lib.compact (cN l) ↔ i∈l:=by
 have hs:=aEz l
 have hd:∀ i j,i<=j->j<(cN l).toArray.size->(cN l).toArray[i]! <=(cN l).toArray[j]! :=fun i j hij hj=>by
  have hj':j<(cN l).length:=by simpa using hj
  have hi':i<(cN l).length:=by omega
  grind [List.pairwise_iff_getElem]
 obtain⟨h1,h2,h3⟩:=aDh hd (cN l).length (by simp)
 refine⟨h1.imp fun h=>by omega,fun i=>?_⟩
 have hm:i∈cN l ↔ i∈l:=(aAo l).mem_iff
 rw [<- hm]
 constructor
 ·intro h;obtain⟨j,hj,rfl⟩:=h2 i h;simp [hj]
 ·intro h;obtain⟨j,hj,rfl⟩:=a0T.1 h
  grind [Lib.compact]
theorem aEQ (l:List Int):(Go.Lib.compact (cN l)).length=l.length ↔ l.Nodup:=by
 obtain⟨h1,h2⟩:=aHF l
 constructor
 ·grind [List.Perm.nodup_iff,aB5]
 ·intro h;rcases Nat.le_total (Go.Lib.compact (cN l)).length l.length with g | g
  ·grind [List.Perm.length_eq]
  grind [List.Perm.length_eq]
theorem aDv {e:AL} (he:e.Op=16) (rest:List AL):∀ (AC:List AL) (p:Nat) (fr:Bool),(∀ i∈AC,i.Op≠16)->stA p fr (AC++e :: rest)=(if fr=true then [(p:Int)] else [])++stA (p+AC.length+1) true rest
 | [],p,fr,_=>by simp [stA,he]
 | i :: AC,p,fr,h=>by
  have h1:=h i (.head _);have ih:=aDv he rest AC (p+1) false fun j hj=>h j (.tail _ hj)
  grind [stA]
theorem aEA {e:AL} (he:e.Op=16) (rest:List AL):∀ (AC:List AL),iI (AC++e :: rest)=iI rest
 | []=>by
  grind [iI]
 | [i]=>by
  grind [iI]
 | i :: j :: AC=>by
  rw [<- aEA he rest (j :: AC)];rfl
theorem aEt:∀ {l:List AL},l≠[]->(∀ i∈l,i.Op≠16)->iI l=false
 | [],h,_=>absurd rfl h
 | [i],_,h=>a1E (h i (.head _))
 | i :: j :: l,_,h=>aEt (l:=j :: l) (by simp) fun x hx=>h x (.tail _ hx)
theorem aCp:∀ {l:List AL} {i:AL},l[l.length - 1]? =some i->iI l=decide (i.Op=16)
 | [],i,h=>by simp at h
 | [j],i,h=>by simp at h;subst h;rfl
 | j :: k :: l,i,h=>by
  have:=aCp (l:=k :: l) (i:=i) (by simpa using h)
  exact this
def nQ (C:List AL) (la:List Int) (m:Nat):Prop:=∀ i:Nat,i<m->∃ q:Nat,la[i]? =some (q:Int)/\i<=q/\q<C.length/\(∃ e,C[q]? =some e/\e.Op=16)/\∀ j:Nat,i<=j->j<q->∀ e,C[j]? =some e->e.Op≠16
theorem bk2 {x:AR} (hB:x.AB.Code.length<=2000000):∀ (k n:Nat),n<=x.AB.Code.length->x.AB.Code.length - n<k->∃ q:Nat,nM x k (n:Int)=some (q:Int)/\n<=q/\q<=x.AB.Code.length/\(∀ j:Nat,n<=j->j<q->∀ e,x.AB.Code[j]? =some e->e.Op≠16)/\(q<x.AB.Code.length->∃ e,x.AB.Code[q]? =some e/\e.Op=16)
 | 0,_,_,hk=>by omega
 | k+1,n,hn,hk=>by
  by_cases h:n<x.AB.Code.length
  ·have hi:=a0B h;by_cases ho:x.AB.Code[n].Op≠16
   ·obtain⟨q,h1,h2,h3,h4,h5⟩:=bk2 hB k (n+1) (by omega) (by omega)
    refine⟨q,?_,by omega,h3,fun j hj hq e he=>?_,h5⟩
    ·rw [nM,a1H (by omega),dO hi,bsm,a1H ho,aN (by omega),bsm];exact h1
    grind
   ·refine⟨n,by rw [nM,a1H (by omega),dO hi,bsm,a1G ho],by omega,by omega,fun j _ _=>by omega,(by grind)⟩
  grind [nM]
theorem bk3 {q:Nat} (hq:q<=2000000):∀ (k b:Nat) (la:List Int),b<=q+1->q+1 - b<k->q<la.length->∃ la',pC (q:Int) k (b:Int) la=some la'/\la'.length=la.length/\(∀ i:Nat,b<=i->i<=q->la'[i]? =some (q:Int))/\∀ i:Nat,i<b->la'[i]? =la[i]?
 | 0,_,_,_,hk,_=>by omega
 | k+1,b,la,hb,hk,hl=>by
  by_cases h:b<=q
  ·obtain⟨la',h1,h2,h3,h4⟩:=bk3 hq k (b+1) (la.set b (q:Int)) (by omega) (by omega) (by simpa using hl)
   refine⟨la',?_,by rw [h2,List.length_set],fun i hi hi2=>?_,fun i hi=>?_⟩
   ·rw [pC,a1H (by omega),dO (a0B (by omega:b<la.length)),bsm,aN (by omega),bsm];exact h1
   ·grind
   grind
  grind [pC]
theorem drop_run {C:List AL} {p q:Nat} {e:AL} (hpq:p<=q) (he:C[q]? =some e):∃ AC,C.drop p=AC++e :: C.drop (q+1)/\AC.length=q - p/\∀ i∈AC,∃ j,p<=j/\j<q/\C[j]? =some i:=by
 obtain⟨hq,rfl⟩:=a0C.1 he
 refine⟨(C.drop p).take (q - p),?_,by simp;omega,fun i hi=>?_⟩
 ·have h1:C.drop q=C[q] :: C.drop (q+1):=a0s hq;rw [<- h1,show C.drop q=(C.drop p).drop (q - p) by simp_all,a1f]
 ·obtain⟨j,hj,rfl⟩:=a0T.1 hi;have hj':j<q - p:=by simp at hj;omega
  refine⟨p+j,by omega,by omega,?_⟩
  grind
theorem aE9 {l:List Int} (h:l.length<=1000000000):wT l=some l:=by
 rw [wT,a0Z,dS h,bsm]
open Classical in
theorem bk1 {AA:Nat} {x:AR} (hf:4000000<=AA) (hB:x.AB.Code.length<=2000000) (AE:List Int):∀ (AC:List Int) (k p:Nat) (la:List Int),AE.length<k->AC.length+AE.length<=3000000->p<=x.AB.Code.length->la.length=x.AB.Code.length->nQ x.AB.Code la p ->
 ∃ r,lR AA x (AC++AE) k (p:Int) (AC.length:Int) la=some r/\(((AE=stA p true (x.AB.Code.drop p)/\iI (x.AB.Code.drop p)=true)/\∃ la',r= .inl ((x.AB.Code.length:Int),la')/\la'.length=x.AB.Code.length/\nQ x.AB.Code la' x.AB.Code.length)\/(¬ (AE=stA p true (x.AB.Code.drop p)/\iI (x.AB.Code.drop p)=true)/\(r= .inr (.inr W)\/∃ (p':Nat) (la':List Int),r= .inl ((p':Int),la')/\p'≠x.AB.Code.length))):=by
 induction AE with
 | nil=>
  intro AC k p la hk _ hp hl hla;obtain _ | k:=k
  ·omega
  refine⟨_,by rw [lR,a1G (by simp)],?_⟩
  by_cases h:p=x.AB.Code.length
  ·left
   refine⟨?_,la,by rw [h],hl,by rw [<- h];exact hla⟩
   rw [h,List.drop_length];exact⟨rfl,rfl⟩
  ·right
   refine⟨fun g=>?_, .inr ⟨p,la,rfl,h⟩⟩
   have hlt:p<x.AB.Code.length:=by omega
   rw [a0s hlt]at g
   grind [stA]
 | cons b AE ih=>
  intro AC k p la hk hl0 hp hl hla;obtain _ | k:=k
  ·omega
  simp only [a0J]at hk hl0;by_cases hbp:b=(p:Int)
  ·subst hbp;obtain⟨q,h1,h2,h3,h4,h5⟩:=bk2 (x:=x) hB AA p hp (by omega)
   by_cases hq:q<x.AB.Code.length
   ·obtain⟨e,he1,he2⟩:=h5 hq;obtain⟨la',g1,g2,g3,g4⟩:=bk3 (q:=q) (by omega) AA p la (by omega) (by omega) (by omega)
    obtain⟨run,r1,r2,r3⟩:=drop_run h2 he1;have hrun:∀ i∈run,i.Op≠16:=by grind
    have hst:stA p true (x.AB.Code.drop p)=(p:Int) :: stA (q+1) true (x.AB.Code.drop (q+1)):=by
     grind [aDv]
    have hle:iI (x.AB.Code.drop p)=iI (x.AB.Code.drop (q+1)):=by rw [r1,aEA he2]
    have hla':nQ x.AB.Code la' (q+1):=fun i hi=>by
     by_cases hip:i<p
     ·obtain⟨q',a1,a2⟩:=hla i hip
      grind
     grind
    obtain⟨r,i1,i2⟩:=ih (AC++[(p:Int)]) k (q+1) la' (by omega) (by simp;omega) (by omega) (by omega) hla'
    refine⟨r,?_,?_⟩
    ·rw [lR,a1H (cI _ _ _),bS];refine bb rfl ?_;refine bb (z:= .inl ()) (by rw [a1F rfl];rfl) ?_
     refine bb h1 ?_;refine bb (z:= .inl ()) (by rw [a1F (by omega)];rfl) ?_
     refine bb g1 ?_;refine bb (aN (by omega)) ?_
     refine b1 rfl ?_;dsimp only
     rw [aN (by omega),bsm,fF AC AE,cK AC (p:Int)];exact i1
    simp_all
   ·refine⟨.inr (.inr W),?_, .inr ⟨fun g=>?_, .inl rfl⟩⟩
    ·rw [lR,a1H (cI _ _ _),bS];refine bb rfl ?_;refine bb (z:= .inl ()) (by rw [a1F rfl];rfl) ?_
     refine bb h1 ?_;refine bb (z:= .inr W) (by rw [a1E (by omega)];rfl) ?_
     rfl
    ·have hne:x.AB.Code.drop p≠[]:=by grind [stA]
     rw [aEt hne fun i hi=>by
      obtain⟨j,hj,rfl⟩:=a0T.1 hi;rw [List.getElem_drop];have hj':p+j<x.AB.Code.length:=by simp at hj;omega
      exact h4 (p+j) (by omega) (by omega) _ (a0B hj')]at g
     grind
  ·refine⟨.inr (.inr W),?_, .inr ⟨fun g=>?_, .inl rfl⟩⟩
   ·rw [lR,a1H (cI _ _ _),bS];refine bb rfl ?_;refine bb (z:= .inr W) (by rw [a1E hbp];rfl) ?_
    rfl
   ·cases hd:x.AB.Code.drop p with
    | nil=>grind [stA]
    | cons i l=>grind [stA]
open Classical in
theorem aGY {AA:Nat} {x:AR} (hf:4000000<=AA) (hs:SmB x.AB) (hne:x.AB.Code≠[]):
 ∃ la,lF AA x=some (if okB x.AB then .inl ⟨x.AB,cN (bgs x.AB),la,x.AK,x.AT⟩ else .inr W)/\(okB x.AB->la.length=x.AB.Code.length/\nQ x.AB.Code la x.AB.Code.length):=by
 have hl:=hs.len
 have hsl:=(aAo (bgs x.AB)).length_eq
 have e1:=aHi hf hs
 have hcode:=hs.code
 obtain⟨r,h1,h2⟩:=bk1 (x:=x) hf hcode (cN (bgs x.AB)) [] AA 0 (List.replicate x.AB.Code.length 0) (by omega) (by simp;omega) (by omega) (by simp) (fun i hi=>by omega)
 simp only [a0Z,a0L,a0k,List.drop_zero]at h1 h2
 have hdo:∀ (P:Prop),lF AA x=some (.inr W)->¬ okB x.AB->∃ la,lF AA x=some (if okB x.AB then .inl ⟨x.AB,cN (bgs x.AB),la,x.AK,x.AT⟩ else .inr W)/\(okB x.AB->la.length=x.AB.Code.length/\nQ x.AB.Code la x.AB.Code.length):=by grind
 by_cases hn:(bgs x.AB).Nodup
 ·have hc:=(aEQ (bgs x.AB)).2 hn;have hpre:lF AA x=(some r).bind (fun o=>match o with | Sum.inr r=>some r | Sum.inl (x1,x2)=>(bR (decide (x1=(x.AB.Code.length:Int)))).bind fun y12=>match y12 with | Sum.inr pv4=>some (Sum.inr pv4) | Sum.inl y12=>some (Sum.inl (⟨(⟨x.AB.AH,x.AB.AD,x.AB.Code,x.AB.AG⟩:AB),cN (bgs x.AB),x2,x.AK,x.AT⟩:AR))):=by
   rw [lF];refine b1 e1 ?_;refine b1 (z:=cN (bgs x.AB)) rfl ?_;refine b1 (aE9 (by omega)) ?_
   refine b1 (z:=Go.Lib.compact (cN (bgs x.AB))) rfl ?_;refine b1 (z:= .inl ()) (by rw [a1F (by omega)];rfl) ?_
   refine b1 (mk_ok (by omega)) ?_
   rw [h1];rcases r with⟨a,b⟩ | r <;> rfl
  rcases h2 with⟨k1,la,k2,k3,k4⟩ | ⟨k1,k2⟩
  ·have hok:okB x.AB:=⟨hne,k1⟩;refine⟨la,?_,fun _=>⟨k3,k4⟩⟩
   rw [hpre,k2,bsm,a1H hok];refine b1 (z:= .inl ()) (by rw [a1F rfl];rfl) ?_
   rfl
  ·have hok:¬ okB x.AB:=fun g=>k1 g.2
   refine hdo True ?_ hok;rw [hpre];rcases k2 with rfl | ⟨p',la',rfl,k3⟩
   ·rfl
   ·rw [bsm];refine b1 (z:= .inr W) (by rw [a1E (by omega)];rfl) ?_
    rfl
 ·have hok:¬ okB x.AB:=by grind [aB9]
  refine hdo True ?_ hok;rw [lF];refine b1 e1 ?_;refine b1 (z:=cN (bgs x.AB)) rfl ?_;refine b1 (aE9 (by omega)) ?_
  refine b1 (z:=Go.Lib.compact (cN (bgs x.AB))) rfl ?_;refine b1 (z:= .inr W) (by rw [a1E fun g=>hn ((aEQ _).1 (by omega))];rfl) ?_
  rfl
def atB (C:List AL) (b:Int):Prop:=0<=b/\b<(C.length:Int)/\(0<b->∃ q,C[(b - 1).toNat]? =some q/\q.Op=16)
open Classical in
theorem rk1 {c:AB} (hB:c.Code.length<=2000000) (AE:List Int):∀ (AC:List Int) (k:Nat) (u:List Bool),AE.length<k->AC.length+AE.length<=3000000->u.length=c.Code.length->(∀ i:Nat,u[i]? =some true ↔ (i:Int)∈AC/\i<c.Code.length) ->
 nD c (AC++AE) k u (AC.length:Int)=some (if (∀ b∈AE,atB c.Code b/\b ∉ AC)/\AE.Nodup then .inl () else .inr false):=by
 induction AE with
 | nil=>
  intro AC k u hk _ _ _;obtain _ | k:=k
  ·omega
  grind [nD]
 | cons b AE ih=>
  intro AC k u hk hl hu hm;obtain _ | k:=k
  ·omega
  simp only [a0J]at hk hl;rw [nD,a1H (cI _ _ _),bS];refine b1 rfl ?_;have hbad:∀ {r:(Unit) ⊕ (Bool)},r= .inr false->¬ (atB c.Code b/\b ∉ AC)->some r=some (if (∀ b'∈b :: AE,atB c.Code b'/\b' ∉ AC)/\(b :: AE).Nodup then .inl () else .inr false):=by grind
  by_cases g1:b<0
  ·rw [a1H g1];exact hbad rfl (fun g=>by have:=g.1.1;omega)
  ·rw [a1G g1];by_cases g2:(c.Code.length:Int)<=b
   ·rw [a1H g2];exact hbad rfl (fun g=>by have:=g.1.2.1;omega)
   ·rw [a1G g2];have hlt:b.toNat<u.length:=by omega
    have hix:idx u b=some u[b.toNat]:=dU (by omega) (by omega)
    have hbb:((b.toNat:Nat):Int)=b:=by omega
    rw [hix];refine bb rfl ?_;cases hub:u[b.toNat]with
    | true=>
     grind
    | false=>
     have hnp:b ∉ AC:=fun g=>by
      grind
     rw [a1C];have hgo:(atB c.Code b)->nD c (AC++b :: AE) k (u.set b.toNat true) (AC.length+1:Int)=some (if (∀ b'∈b :: AE,atB c.Code b'/\b' ∉ AC)/\(b :: AE).Nodup then .inl () else .inr false):=fun hat=>by
      have:=ih (AC++[b]) k (u.set b.toNat true) (by omega) (by simp;omega) (by simpa using hu) (fun i=>by
       grind [List.getElem?_set_ne])
      rw [fF AC AE b,cK AC b,this];have e:((∀ b'∈AE,atB c.Code b'/\b' ∉ AC++[b])/\AE.Nodup) ↔ ((∀ b'∈b :: AE,atB c.Code b'/\b' ∉ AC)/\(b :: AE).Nodup):=by
       constructor
       ·grind
       ·rintro⟨a1,a2⟩
        refine⟨fun b' hb'=>⟨(a1 b' (.tail _ hb')).1,fun g=>?_⟩,(a1b.1 a2).2⟩
        grind
      grind
     by_cases g3:0<b
     ·have hlt2:(b - 1).toNat<c.Code.length:=by omega
      rw [a1H g3,aN (by omega)];refine bb rfl ?_;rw [dU (by omega) (by omega)];refine bb rfl ?_;by_cases g4:c.Code[(b - 1).toNat].Op≠16
      ·rw [a1H g4];exact hbad rfl (fun g=>by obtain⟨q,q1,q2⟩:=g.1.2.2 g3;rw [a0B hlt2]at q1;cases q1;exact g4 q2)
      ·rw [a1G g4];refine b1 rfl ?_;dsimp only
       refine b1 rfl ?_;refine b1 (aN (by omega)) ?_
       exact hgo ⟨by omega,by omega,fun _=>⟨_,a0B hlt2,by omega⟩⟩
     ·rw [a1G g3];refine b1 rfl ?_;dsimp only
      refine b1 rfl ?_;refine b1 (aN (by omega)) ?_
      exact hgo (by grind [atB])
theorem rk2 {c:AB} (AE:List AL):∀ (AC:List AL) (k n:Nat),c.Code=AC++AE->AE.length<k->AC.length+AE.length<=3000000->n<=AC.length->pX c k (n:Int) (AC.length:Int)=some ((n+ends AE:Nat):Int):=by
 induction AE with
 | nil=>
  intro AC k n h hk _ _;obtain _ | k:=k
  ·omega
  rw [pX,h,a1G (by simp)];rfl
 | cons e AE ih=>
  intro AC k n h hk hB hn;obtain _ | k:=k
  ·omega
  simp only [a0J]at hk hB;rw [pX,h,a1H (cI _ _ _),bS];refine bb rfl ?_;by_cases g:e.Op=16
  ·rw [a1H g,aN (by omega)];refine bb rfl ?_;refine b1 rfl ?_;refine b1 (aN (by omega)) ?_
   have:=ih (AC++[e]) k (n+1) (by rw [h];simp) (by omega) (by simp;omega) (by simp;omega)
   grind [ends]
  ·rw [a1G g];refine b1 rfl ?_;refine b1 (aN (by omega)) ?_
   have:=ih (AC++[e]) k n (by rw [h];simp) (by omega) (by simp;omega) (by simp;omega)
   grind [ends]
open Classical in
theorem aHu {AA:Nat} {c:AB} (hf:4000000<=AA) (hs:SmB c) (hne:c.Code≠[]):xG AA c=some (decide (okB c)):=by
 have hl:=hs.len
 have hcode:=hs.code
 have hpos:0<c.Code.length:=List.length_pos_iff.2 hne
 have e1:=aG2 hf hs
 have e2:=rk1 (c:=c) hcode (bgs c) [] AA (List.replicate c.Code.length false) (by omega) (by simp;omega) (by simp) (fun i=>by
  grind)
 have e3:=rk2 (c:=c) c.Code [] AA 0 rfl (by omega) (by simp;omega) (by omega)
 simp only [a0Z,a0L,a0k,a1q]at e2 e3
 have hiff:=aB9 hne
 rw [xG]
 refine b1 e1 ?_
 refine b1 (mk_ok (by omega)) ?_
 by_cases h:(∀ b∈bgs c,atB c.Code b/\b ∉ ([]:List Int))/\(bgs c).Nodup
 ·rw [a1H h]at e2;refine b1 e2 ?_;dsimp only
  refine b1 e3 ?_;by_cases g:ends c.Code=(bgs c).length
  ·have hlast:c.Code[c.Code.length - 1]? =some (c.Code[c.Code.length - 1]'(by omega)):=a0B _
   have hix:idx c.Code ((c.Code.length:Int) - 1)=some (c.Code[c.Code.length - 1]'(by omega)):=by
    grind [dO]
   rw [a1H (by omega),aN (by omega)];refine bb rfl ?_;rw [hix];refine bb rfl ?_;refine b1 rfl ?_;congr 1
   rw [decide_eq_decide,hiff];have hle:=aCp hlast;constructor
   ·intro q;exact⟨h.2,fun b hb=>(h.1 b hb).1,g,by grind⟩
   grind
  grind
 ·rw [a1G h]at e2;refine b1 e2 ?_;dsimp only
  rw [a1E fun q=>h ⟨fun b hb=>⟨(hiff.1 q).2.1 b hb,by simp⟩,(hiff.1 q).1⟩]
open Go.SX Go.SW Go.Dt
abbrev FT:=Int->Option AJ
abbrev SC:=Int->AJ->Option (List (Int × AJ))
def fup (f:FT) (m:Int) (l:AJ):FT:=fun x=>if x=m then some l else f x
open Classical in
noncomputable def psh:FT->List Int->List (Int × AJ)->Option (FT × List Int)
 | f,td,[]=>some (f,td)
 | f,td,p :: s=>match f p.1 with
  | some l'=>if l'=p.2 then psh f td s else none
  | none=>psh (fup f p.1 p.2) (td++[p.1]) s
def cnt (f:FT):Nat->Nat
 | 0=>0
 | n+1=>(if (f (n:Int)).isNone=true then 1 else 0)+cnt f n
theorem rC (f:FT):∀ n,cnt f n<=n
 | 0=>a1l _
 | n+1=>by have:=rC f n;simp only [cnt];split <;> omega
theorem aEb {f:FT} {m:Int} {l:AJ}:∀ n:Nat,(n:Int)<=m->cnt (fup f m l) n=cnt f n
 | 0,_=>rfl
 | n+1,h=>by
  rw [cnt,cnt,aEb n (by omega)]
  grind [fup]
theorem cnt_up {f:FT} {m:Int} {l:AJ} (hm:0<=m) (hf:f m=none):∀ n:Nat,m<(n:Int)->cnt (fup f m l) n+1=cnt f n
 | 0,h=>by omega
 | n+1,h=>by
  rw [cnt,cnt];by_cases g:m=(n:Int)
  ·have h1:fup f m l (n:Int)=some l:=a1H g.symm
   grind [aEb]
  ·have h1:fup f m l (n:Int)=f (n:Int):=a1G (Ne.symm g);have:=cnt_up (l:=l) hm hf n (by omega)
   rw [h1];omega
theorem aA8 {n:Nat}:∀ (s:List (Int × AJ)) (f:FT) (td:List Int) (f':FT) (td':List Int),psh f td s=some (f',td')->(∀ p∈s,0<=p.1/\p.1<(n:Int)) ->
 (∀ m l,f m=some l->f' m=some l)/\(∀ p∈s,f' p.1=some p.2)/\(∀ m l,f' m=some l->f m=some l\/((m,l)∈s/\m∈td'))/\(∀ m∈td,m∈td')/\(∀ m∈td',m∈td\/∃ p∈s,p.1=m)/\cnt f' n+td'.length=cnt f n+td.length
 | [],f,td,f',td',h,_=>by
  grind [psh]
 | p :: s,f,td,f',td',h,hr=>by
  have hr':∀ q∈s,0<=q.1/\q.1<(n:Int):=fun q hq=>hr q (.tail _ hq)
  have hp:=hr p (.head _);cases hf:f p.1 with
  | some l'=>
   simp only [psh,hf]at h;by_cases e:l'=p.2
   ·rw [a1H e]at h;obtain⟨a1,a2,a3,a4,a5,a6⟩:=aA8 s f td f' td' h hr'
    grind
   grind
  | none=>
   simp only [psh,hf]at h;obtain⟨a1,a2,a3,a4,a5,a6⟩:=aA8 s _ _ f' td' h hr';have hpn:f' p.1=some p.2:=a1 _ _ (a1H rfl);have hc:=cnt_up (l:=p.2) hp.1 hf n hp.2;refine⟨fun m l hm=>?_,fun q hq=>?_,fun m l hm=>?_,(by grind),fun m hm=>?_,?_⟩
   ·refine a1 m l ?_;have:m≠p.1:=by grind
    exact(a1G this).trans hm
   ·grind
   ·rcases a3 m l hm with g | ⟨g1,g2⟩
    ·by_cases e:m=p.1
     ·grind
     ·exact .inl ((a1G e).symm.trans g)
    grind
   ·grind
   grind
theorem aBf:∀ (s:List (Int × AJ)) (f:FT) (td:List Int),psh f td s=none->∃ p∈s,∃ l',l'≠p.2/\(f p.1=some l'\/(p.1,l')∈s)
 | [],f,td,h=>by simp [psh]at h
 | p :: s,f,td,h=>by
  cases hf:f p.1 with
  | some l'=>
   simp only [psh,hf]at h;by_cases e:l'=p.2
   ·rw [a1H e]at h;obtain⟨q,q1,l2,q2,q3⟩:=aBf s f td h
    grind
   grind
  | none=>
   simp only [psh,hf]at h;obtain⟨q,q1,l2,q2,q3⟩:=aBf s _ _ h
   grind [fup]
inductive R (sc:SC) (a:Int) (l0:AJ):Int->AJ->Prop
 | base:R sc a l0 a l0
 | step {n:Int} {l:AJ} {s:List (Int × AJ)} {p:Int × AJ}:R sc a l0 n l->sc n l=some s->p∈s->R sc a l0 p.1 p.2
def Bad (sc:SC) (a:Int) (l0:AJ):Prop:=∃ n l,R sc a l0 n l/\(sc n l=none\/∃ l',R sc a l0 n l'/\l'≠l)
def Sane (sc:SC) (n:Nat):Prop:=∀ m l s,0<=m->m<(n:Int)->0<=l.AM->0<=l.AS->sc m l=some s->∀ p∈s,(0<=p.1/\p.1<(n:Int))/\0<=p.2.AM/\p.2.AM<=l.AM+1000/\0<=p.2.AS/\p.2.AS<=l.AS+1000
structure LvI (sc:SC) (n:Nat) (a:Int) (l0:AJ) (f:FT) (td:List Int) (B:Int):Prop where
 has:∀ m∈td,∃ l,f m=some l
 r:∀ m l,f m=some l->R sc a l0 m l/\(0<=m/\m<(n:Int))/\(0<=l.AM/\l.AM<=B)/\(0<=l.AS/\l.AS<=B)
 c:∀ m l,f m=some l->m ∉ td->∃ s,sc m l=some s/\∀ p∈s,f p.1=some p.2
 d:f a=some l0
theorem LvI.step {sc:SC} {n:Nat} {a m:Int} {l0 l:AJ} {f f':FT} {td td':List Int} {B:Int} {s s':List (Int × AJ)} (hs:Sane sc n) (h:LvI sc n a l0 f (td++[m]) B) (hm:f m=some l) (hsc:sc m l=some s) (hss:∀ p,p∈s' ↔ p∈s) (hp:psh f td s'=some (f',td')):
 LvI sc n a l0 f' td' (B+1000)/\cnt f' n+td'.length=cnt f n+td.length:=by
 obtain⟨r1,r2,r3,r4⟩:=h.r m l hm
 have hr:∀ p∈s',0<=p.1/\p.1<(n:Int):=fun p hp=>(hs m l s r2.1 r2.2 r3.1 r4.1 hsc p ((hss p).1 hp)).1
 obtain⟨a1,a2,a3,a4,a5,a6⟩:=aA8 (n:=n) s' f td f' td' hp hr
 refine⟨⟨fun x hx=>?_,fun x y hx=>?_,fun x y hx hn=>?_,a1 _ _ h.d⟩,a6⟩
 ·rcases a5 x hx with g | ⟨p,g1,g2⟩
  ·obtain⟨y,hy⟩:=h.has x (a0Q _ g);exact⟨y,a1 _ _ hy⟩
  ·exact⟨p.2,by rw [<- g2];exact a2 p g1⟩
 ·rcases a3 x y hx with g | ⟨g1,g2⟩
  ·obtain⟨b1,b2,b3,b4⟩:=h.r x y g;exact⟨b1,b2,⟨b3.1,by omega⟩,⟨b4.1,by omega⟩⟩
  ·have g3:=(hss _).1 g1;obtain⟨c1,c2,c3,c4,c5⟩:=hs m l s r2.1 r2.2 r3.1 r4.1 hsc _ g3;dsimp only at c2 c3 c4 c5
   exact⟨R.step (p:=(x,y)) r1 hsc g3,c1,⟨c2,by omega⟩,⟨c4,by omega⟩⟩
 ·rcases a3 x y hx with g | ⟨g1,g2⟩
  ·by_cases e:x=m
   ·subst e;rw [hm]at g;cases g
    exact⟨s,hsc,fun p hp=>a2 p ((hss p).2 hp)⟩
   ·obtain⟨t,t1,t2⟩:=h.c x y g (fun q=>by
     rcases a0P.1 q with q | q
     ·exact hn (a4 x q)
     ·exact e (a0Y.1 q))
    exact⟨t,t1,fun p hp=>a1 _ _ (t2 p hp)⟩
  ·exact absurd g2 hn
theorem LvI.bad {sc:SC} {n:Nat} {a m:Int} {l0 l:AJ} {f:FT} {td td0:List Int} {B:Int} {s s':List (Int × AJ)} (h:LvI sc n a l0 f td0 B) (hm:f m=some l) (hsc:sc m l=some s) (hss:∀ p,p∈s' ↔ p∈s) (hp:psh f td s'=none):Bad sc a l0:=by
 obtain⟨p,p1,l',p2,p3⟩:=aBf s' f td hp
 have r1:=(h.r m l hm).1
 refine⟨p.1,p.2,R.step r1 hsc ((hss p).1 p1), .inr ⟨l',?_,p2⟩⟩
 rcases p3 with g | g
 ·exact(h.r _ _ g).1
 ·exact R.step (p:=(p.1,l')) r1 hsc ((hss _).1 g)
theorem LvI.closed {sc:SC} {n:Nat} {a:Int} {l0:AJ} {f:FT} {B:Int} (h:LvI sc n a l0 f [] B):∀ m l,R sc a l0 m l ↔ f m=some l:=fun m l=>by
 constructor
 ·intro hr;induction hr with
  | base=>exact h.d
  | step _ h2 h3 ih=>
   obtain⟨s,s1,s2⟩:=h.c _ _ ih (by simp)
   grind
 ·intro hf;exact(h.r m l hf).1
theorem LvI.good {sc:SC} {n:Nat} {a:Int} {l0:AJ} {f:FT} {B:Int} (h:LvI sc n a l0 f [] B):¬ Bad sc a l0:=by
 rintro⟨m,l,h1,h2⟩
 have hf:=(h.closed m l).1 h1
 rcases h2 with g | ⟨l',g1,g2⟩
 ·obtain⟨s,s1,_⟩:=h.c m l hf (by simp)
  rw [g]at s1;cases s1
 grind [closed]
def gD (ch:List Ad):List Int->Int
 | []=>0
 | j :: l=>(match ch[j.toNat]? with | some c=>c.Ae | none=>0)+gD ch l
def iN (d:AO) (k:Int):List (Int × AJ):=d.AN.map (fun s=>(s.AV,(⟨0,k⟩:AJ)))++d.AP.map (fun r=>(r.AV,(⟨0,k+gD d.AQ r.AX⟩:AJ)))
open Classical in
noncomputable def scI (c:AB) (n:Nat) (i:AL) (l:AJ):Option (List (Int × AJ)):=
 if i.Op=1 then some [((n:Int)+1,⟨l.AM+1,l.AS⟩)]
 else if i.Op=2 then(if i.A<l.AS then some [((n:Int)+1,⟨l.AM+1,l.AS⟩)] else none)
 else if 3<=i.Op/\i.Op<=7 then(if 2<=l.AM then some [((n:Int)+1,⟨l.AM - 1,l.AS⟩)] else none)
 else if i.Op=8 then(if i.A<l.AS/\i.B<=l.AM then some [((n:Int)+1,⟨l.AM - i.B,l.AS⟩)] else none)
 else if i.Op=9 then(if 1<=l.AM/\fN c.Code n i then some [(i.A,⟨l.AM - 1,l.AS⟩),((n:Int)+1,⟨l.AM - 1,l.AS⟩)] else none)
 else if i.Op=10 then(if fN c.Code n i then some [(i.A,l)] else none)
 else if i.Op=11 then(if l.AM=0 then match c.AD[i.A.toNat]? with
  | none=>none
  | some d=>some (iN d (l.AS+(d.AQ.length+d.AN.length:Nat))++[((n:Int)+1,⟨l.AM,l.AS+(d.AQ.length+d.AN.length:Nat)⟩)]) else none)
 else if i.Op=12 then(if i.A<=l.AS then some [((n:Int)+1,⟨l.AM,i.A⟩)] else none)
 else if i.Op=13\/i.Op=15 then(if i.A<l.AS/\l.AM=0 then some [(i.B,⟨0,l.AS⟩),((n:Int)+1,l)] else none)
 else if i.Op=14 then(if l.AM=0 then some [((n:Int)+1,l)] else none)
 else (if l.AM=0 then some [] else none)
noncomputable def scP (c:AB):SC:=fun n l=>match c.Code[n.toNat]? with
 | none=>none
 | some i=>scI c n.toNat i l
structure Pre (c:AB):Prop where
 len:c.Code.length<=12000
 Aa:c.AD.length<=12
 okD:∀ d∈c.AD,okD d/\inD c.Code.length d
 okI:∀ (n:Nat) i,c.Code[n]? =some i->okI c.AD.length c.Code.length n i/\inI c.Code.length i
 end_:∀ i,c.Code[c.Code.length - 1]? =some i->i.Op=16
theorem aBX {ch:List Ad} {a:Int} {n:Nat} (hc:∀ c∈ch,gK n c):∀ {l AC:List Int},eM ch a AC l->0<=gD ch l/\gD ch l<=3*(l.length:Int)
 | [],_,_=>by simp [gD]
 | j :: l,AC,h=>by
  obtain⟨⟨_,_,⟨c,hc1,_⟩,_⟩,h2⟩:=h;have ih:=aBX hc h2;have:=hc c (a0X hc1);simp only [gD,hc1,a0J];have h3:=this.2.2.1;have h4:=this.2.2.2
  omega
theorem defS_ok {c:AB} (hp:Pre c) {d:AO} (hd:d∈c.AD) {k:Int} (hk:0<=k):∀ p∈iN d k,(0<=p.1/\p.1<(c.Code.length:Int))/\0<=p.2.AM/\p.2.AM<=0/\0<=p.2.AS/\p.2.AS<=k+9:=fun p h=>by
 obtain⟨h1,h2⟩:=hp.okD d hd
 rcases a0P.1 h with h | h
 ·obtain⟨s,s1,rfl⟩:=a0V.1 h;exact⟨h2.1 s s1,by simp,by simp,hk,by simp;omega⟩
 ·obtain⟨r,r1,rfl⟩:=a0V.1 h;have hr:=h1.2.2.2.1 r r1;have hj:=aBX h1.2.1 hr.2;have:=hr.1;exact⟨h2.2 r r1,by simp,by simp,by simp;omega,by simp;omega⟩
theorem Pre.next {c:AB} (hp:Pre c) {n:Nat} {i:AL} (hi:c.Code[n]? =some i) (ho:i.Op≠16):n+1<c.Code.length:=by
 have hn:=(a0C.1 hi).1
 grind [end_]
theorem scI_ok {c:AB} (hp:Pre c) {n:Nat} {i:AL} {l:AJ} {s:List (Int × AJ)} (hi:c.Code[n]? =some i) (h1:0<=l.AM) (h2:0<=l.AS) (h:scI c n i l=some s):∀ p∈s,(0<=p.1/\p.1<(c.Code.length:Int))/\0<=p.2.AM/\p.2.AM<=l.AM+1000/\0<=p.2.AS/\p.2.AS<=l.AS+1000:=by
 obtain⟨hok,hin⟩:=hp.okI n i hi
 have hnx:=hp.next hi
 have hj:=hok.jump;have hs8:=hok.send;have h11:=hok.df;have hpos:=hok.pos
 unfold inI at hin
 rw [scI]at h
 by_cases o1:i.Op=1
 ·grind
 rw [a1G o1]at h
 by_cases o2:i.Op=2
 ·grind
 rw [a1G o2]at h
 by_cases o3:3<=i.Op/\i.Op<=7
 ·grind
 rw [a1G o3]at h
 by_cases o8:i.Op=8
 ·grind
 rw [a1G o8]at h
 by_cases o9:i.Op=9
 ·grind
 rw [a1G o9]at h
 by_cases o10:i.Op=10
 ·grind
 rw [a1G o10]at h
 by_cases o11:i.Op=11
 ·rw [a1H o11]at h;split at h
  ·split at h
   ·cases h
   ·rename_i d hd;have hdm:=a0X hd;have hdo:=(hp.okD d hdm).1.1;cases h;have:=hnx (by omega)
    intro p hpp;rcases a0P.1 hpp with g | g
    ·have:=defS_ok hp hdm (by omega) p g;omega
    grind
  ·cases h
 grind
theorem aD1 {c:AB} (hp:Pre c):Sane (scP c) c.Code.length:=fun m l s h1 h2 h3 h4 h=>by
 unfold scP at h
 split at h
 ·cases h
 ·rename_i i hi;exact scI_ok hp hi h3 h4 h
open Go.SX Go.SW Go.Dt
open Classical in
noncomputable def dK:AR->List (Int × AJ)->AR ⊕ Value
 | x,[]=> .inl x
 | x,p :: s=>match x.AK.get p.1 with
  | some l'=>if l'=p.2 then dK x s else .inr W
  | none=>dK ⟨x.AB,x.AU,x.last,x.AK.upd p.1 p.2,x.AT++[p.1]⟩ s
theorem yK:∀ (s t:List (Int × AJ)) (x:AR),dK x (s++t)=(match dK x s with | .inl y=>dK y t | .inr v=> .inr v)
 | [],_,_=>rfl
 | p :: s,t,x=>by
  rw [a0r,dK,dK];cases x.AK.get p.1 with
  | some l'=>
   dsimp only
   by_cases e:l'=p.2
   ·rw [a1H e,a1H e];exact yK s t x
   grind
  | none=>exact yK s t _
theorem aAV (p:Int × AJ) (s:List (Int × AJ)) (x:AR):dK x (p :: s)=(match dK x [p]with | .inl y=>dK y s | .inr v=> .inr v):=yK [p] s x
theorem nE:∀ (s:List (Int × AJ)) (x y:AR),dK x s= .inl y->y.AB=x.AB/\y.AU=x.AU/\y.last=x.last/\y.AT.length<=x.AT.length+s.length
 | [],x,y,h=>by grind [dK]
 | p :: s,x,y,h=>by
  rw [dK]at h;cases hx:x.AK.get p.1 with
  | some l'=>
   rw [hx]at h;dsimp only at h
   by_cases e:l'=p.2
   ·rw [a1H e]at h;obtain⟨a,b,c,d⟩:=nE s x y h
    grind
   grind
  | none=>
   rw [hx]at h;dsimp only at h
   obtain⟨a,b,c,d⟩:=nE s _ y h
   grind
theorem aB3 {n:Nat}:∀ (s:List (Int × AJ)) (x:AR),(∀ p∈s,0<=p.1/\p.1<(n:Int))->gA x.AK n->(match psh x.AK.get x.AT s with | none=>dK x s= .inr W | some (f,td)=>∃ lv,dK x s= .inl ⟨x.AB,x.AU,x.last,lv,td⟩/\lv.get=f/\gA lv n)
 | [],x,_,hk=>⟨x.AK,rfl,rfl,hk⟩
 | p :: s,x,hr,hk=>by
  have hr':∀ q∈s,0<=q.1/\q.1<(n:Int):=fun q hq=>hr q (.tail _ hq)
  rw [psh,dK];cases hx:x.AK.get p.1 with
  | some l'=>
   dsimp only
   by_cases e:l'=p.2
   ·rw [a1H e,a1H e];exact aB3 s x hr' hk
   grind
  | none=>exact aB3 s ⟨x.AB,x.AU,x.last,x.AK.upd p.1 p.2,x.AT++[p.1]⟩ hr' (hk.upd (hr p (.head _)))
theorem aBA {a b:AJ}:a=b ↔ (a.AM=b.AM/\a.AS=b.AS):=by
 obtain⟨a1,a2⟩:=a;obtain⟨b1,b2⟩:=b;simp
theorem gS {x:AR} {m:Int} {l:AJ} (ht:x.AT.length<=10000000):kG x m l=some (dK x [(m,l)]):=by
 rw [kG,dK]
 cases hx:x.AK.get m with
 | some l'=>
  simp only [Option.isSome_some,a1t];rw [a1D];by_cases e:l'=l
  ·have:=aBA.1 e;rw [a1F this.1,a1F this.2,a1H e];rfl
  ·have:(decide (l'.AM=l.AM) && decide (l'.AS=l.AS))=false:=by
    grind [aBA]
   rw [this,a1G e];rfl
 | none=>
  simp only [Option.isSome_none];rw [a1C,dS (by simp;omega)];rfl
theorem xO {l:AJ} {a b:Int} (h1:0<=l.AM/\l.AM<=100000000) (ha:0<=a/\a<=100) (hb:0<=b/\b<=100):lH l a b=some (if a<=l.AM then .inl ⟨l.AM - a+b,l.AS⟩ else .inr W):=by
 rw [lH]
 by_cases h:a<=l.AM
 ·rw [a1F h,eD,bsm,aN (by omega),bsm,aN (by omega),bsm,a1H h]
 grind [dB]
theorem f1_eq {i:AL} {l:AJ}:pP i l=some (if i.A<l.AS then .inl l else .inr W):=by
 rw [pP]
 by_cases h:i.A<l.AS
 ·simp_all [eD]
 grind [dB]
theorem f2_eq {l:AJ}:oF l=some (if l.AM=0 then .inl l else .inr W):=by
 rw [oF]
 by_cases h:l.AM=0
 ·rw [a1F h,eD,bsm,a1H h]
 grind [dB]
theorem pf1 {d:AO} {a:Int} (AE:List Ab):∀ (AC:List Ab) (k:Nat) (x:AR),d.AN=AC++AE->AE.length<k->AC.length+AE.length<=3000000->x.AT.length+AE.length<=9000000 ->
 pM d a k (AC.length:Int) x.AB.AH x.AB.AD x.AB.Code x.AB.AG x.AU x.last x.AK x.AT=some (match dK x (AE.map fun s=>(s.AV,(⟨0,a⟩:AJ)))with | .inl y=> .inl (y.AB.AH,y.AB.AD,y.AB.Code,y.AB.AG,y.AU,y.last,y.AK,y.AT) | .inr v=> .inr (.inr v)):=by
 induction AE with
 | nil=>
  intro AC k x h hk _ _;obtain _ | k:=k
  ·omega
  rw [pM,h,a1G (by simp)];rfl
 | cons e AE ih=>
  intro AC k x h hk hB hT;obtain _ | k:=k
  ·omega
  simp only [a0J]at hk hB hT;rw [pM,h,a1H (cI _ _ _),bS,bsm];refine b1 (gS (x:=x) (by omega)) ?_
  rw [a0O,aAV _ (AE.map fun s=>(s.AV,(⟨0,a⟩:AJ)))];cases hy:dK x [(e.AV,(⟨0,a⟩:AJ))]with
  | inr v=>rfl
  | inl y=>
   obtain⟨_,_,_,h4⟩:=nE _ _ _ hy;simp only [a0J,a0L]at h4;dsimp only
   rw [aN (by omega),bsm,cK AC e]
   grind
theorem pf3 {d:AO} {r:AZ} {n:Nat} (hc:∀ c∈d.AQ,gK n c) {at_:Int} (AE:List Int):∀ (AC pre':List Int) (k:Nat) (acc:Int),r.AX=AC++AE->eM d.AQ at_ pre' AE->AE.length<k->AC.length+AE.length<=3000000->0<=acc/\acc+3*(AE.length:Int)<=1000000000->qH d r k acc (AC.length:Int)=some (acc+gD d.AQ AE):=by
 induction AE with
 | nil=>
  intro AC pre' k acc h _ hk _ _;obtain _ | k:=k
  ·omega
  rw [qH,h,a1G (by simp),gD];simp
 | cons e AE ih=>
  intro AC pre' k acc h hj hk hB ha;obtain _ | k:=k
  ·omega
  simp only [a0J]at hk hB ha;obtain⟨⟨j1,j2,⟨c,c1,_⟩,_⟩,hj2⟩:=hj;have hm:=hc c (a0X c1);have hm1:=hm.2.2.1;have hm2:=hm.2.2.2;have hix:idx d.AQ e=some c:=by
   grind [dO]
  rw [qH,h,a1H (cI _ _ _),bS,bsm,hix,bsm,aN (by omega),bsm,aN (by omega),bsm,cK AC e,ih (AC++[e]) _ k _ (by rw [h];simp) hj2 (by omega) (by simp;omega) (by omega)]
  grind [gD]
theorem pf2 {AA:Nat} {d:AO} (hf:4000000<=AA) (hok:okD d) {a:Int} (ha:0<=a/\a<=100000000) (AE:List AZ):∀ (AC:List AZ) (k:Nat) (x:AR),d.AP=AC++AE->AE.length<k->AC.length+AE.length<=3000000->x.AT.length+AE.length<=9000000 ->
 pB AA d a k (AC.length:Int) x.AB.AH x.AB.AD x.AB.Code x.AB.AG x.AU x.last x.AK x.AT=some (dK x (AE.map fun r=>(r.AV,(⟨0,a+gD d.AQ r.AX⟩:AJ)))):=by
 induction AE with
 | nil=>
  intro AC k x h hk _ _;obtain _ | k:=k
  ·omega
  rw [pB,h,a1G (by simp)];rfl
 | cons e AE ih=>
  intro AC k x h hk hB hT;obtain _ | k:=k
  ·omega
  simp only [a0J]at hk hB hT;have he:=hok.2.2.2.1 e (by rw [h];simp)
  have hl3:=he.1.2.2.2;have e3:=pf3 (d:=d) (r:=e) hok.2.1 e.AX [] [] AA 0 rfl he.2 (by omega) (by simp;omega) (by omega)
  have hjs:=aBX hok.2.1 he.2;simp only [a0L,a0k,Int.zero_add]at e3;rw [pB,h,a1H (cI _ _ _),bS];refine bb rfl ?_;refine bb e3 ?_;refine bb (aN (by omega)) ?_
  refine bb (gS (x:=x) (by omega)) ?_
  rw [a0O,aAV _ (AE.map fun r=>(r.AV,(⟨0,a+gD d.AQ r.AX⟩:AJ)))];cases hy:dK x [(e.AV,(⟨0,a+gD d.AQ e.AX⟩:AJ))]with
  | inr v=>rfl
  | inl y=>
   obtain⟨_,_,_,h4⟩:=nE _ _ _ hy;simp only [a0J,a0L]at h4;refine b1 rfl ?_;dsimp only
   rw [aN (by omega),bsm,cK AC e]
   grind
theorem def_eq {AA:Nat} {d:AO} (hf:4000000<=AA) (hok:okD d) {a:Int} (ha:0<=a/\a<=100000000) {x:AR} (ht:x.AT.length<=1000000):xX AA x d a=some (dK x (iN d a)):=by
 obtain⟨⟨h1,h2,h3⟩,_⟩:=id hok
 have e1:=pf1 (d:=d) (a:=a) d.AN [] AA x rfl (by omega) (by simp;omega) (by omega)
 simp only [a0L,a0k]at e1
 rw [xX,e1,bsm,iN,yK]
 cases hy:dK x (d.AN.map fun s=>(s.AV,(⟨0,a⟩:AJ)))with
 | inr v=>rfl
 | inl y=>
  obtain⟨_,_,_,h4⟩:=nE _ _ _ hy;simp only [a0K]at h4;have e2:=pf2 (AA:=AA) (d:=d) hf hok ha d.AP [] AA y rfl (by omega) (by simp;omega) (by omega)
  simp only [a0L,a0k]at e2;exact e2
theorem grp5 (a:Int):(if a=3 then some (decide (a=3)) else if a=4 then some (decide (a=4)) else if a=5 then some (decide (a=5)) else if a=6 then some (decide (a=6)) else some (decide (a=7)))=some (decide (3<=a/\a<=7)):=by
 grind [decide]
theorem grp2 (a:Int):(if a=13 then some (decide (a=13)) else some (decide (a=15)))=some (decide (a=13\/a=15)):=by
 grind
theorem aFj {C:List AL} {la:List Int} (h:nQ C la C.length) {n:Nat} {i:AL} (hn:n<C.length) (ho:i.Op=9\/i.Op=10) (hA:(n:Int)<i.A/\i.A<(C.length:Int)):∃ q:Int,idx la (n:Int)=some q/\(i.A<=q ↔ fN C n i):=by
 obtain⟨q,h1,h2,h3,⟨e,h4,h5⟩,h6⟩:=h n hn
 refine⟨(q:Int),dO h1,fun g _ k k1 k2 j k3=>h6 k k1 (by omega) j k3,fun g=>?_⟩
 by_cases g2:(q:Int)<i.A
 ·exact absurd h5 (g ho q h2 g2 e h4)
 ·omega
open Go.SX Go.SW Go.Dt
theorem rr (r:AR ⊕ Value):(match r with | Sum.inr pv=>some (Sum.inr pv) | Sum.inl y=>some (Sum.inl (⟨(⟨y.AB.AH,y.AB.AD,y.AB.Code,y.AB.AG⟩:AB),y.AU,y.last,y.AK,y.AT⟩:AR)))=some r:=by cases r <;> rfl
theorem aId {AA:Nat} {x:AR} {n:Nat} {i:AL} {l:AJ} (hf:4000000<=AA) (hp:Pre x.AB) (hi:x.AB.Code[n]? =some i) (hl:x.AK.get (n:Int)=some l) (hla:nQ x.AB.Code x.last x.AB.Code.length)
 (hS:0<=l.AM/\l.AM<=80000000) (hK:0<=l.AS/\l.AS<=80000000) (ht:x.AT.length<=100000):
 tB AA x (n:Int)=some (match scI x.AB n i l with | none=> .inr W | some s=>dK x s):=by
 obtain⟨hok,hin⟩:=hp.okI n i hi
 have hn:=(a0C.1 hi).1
 have hlen:=hp.len
 have hj:=hok.jump;have hs8:=hok.send;have h11:=hok.df;have hpos:=hok.pos;have hop:=hok.op
 rw [tB]
 refine b1 (dO hi) ?_
 dsimp only
 rw [hl]
 dsimp only [_root_.Option.getD_some]
 rw [scI]
 by_cases o1:i.Op=1
 ·rw [a1H o1,a1H o1,xO (l:=⟨l.AM,l.AS⟩) (by dsimp only;omega) (by omega) (by omega),a1H (by dsimp only;omega)];refine bb rfl ?_;dsimp only
  refine b1 rfl ?_;dsimp only
  refine b1 (aN (by omega)) ?_
  refine b1 (gS (x:=x) (by omega)) ?_
  rw [show l.AM - 0+1=l.AM+1 by omega];exact rr _
 rw [a1G o1,a1G o1]
 by_cases o2:i.Op=2
 ·rw [a1H o2,a1H o2,f1_eq];by_cases g:i.A<l.AS
  ·rw [a1H g,a1H g];refine bb rfl ?_;dsimp only
   rw [xO (l:=⟨l.AM,l.AS⟩) (by dsimp only;omega) (by omega) (by omega),a1H (by dsimp only;omega)];refine bb rfl ?_;dsimp only
   refine b1 rfl ?_;dsimp only
   refine b1 (aN (by omega)) ?_
   refine b1 (gS (x:=x) (by omega)) ?_
   rw [show l.AM - 0+1=l.AM+1 by omega];exact rr _
  grind
 rw [a1G o2,a1G o2]
 refine bb (grp5 i.Op) ?_
 by_cases o3:3<=i.Op/\i.Op<=7
 ·rw [a1F o3,a1D,a1H o3,xO (l:=⟨l.AM,l.AS⟩) (by dsimp only;omega) (by omega) (by omega)];dsimp only
  by_cases g:2<=l.AM
  ·rw [a1H g,a1H g];refine bb rfl ?_;dsimp only
   refine b1 rfl ?_;dsimp only
   refine b1 (aN (by omega)) ?_
   refine b1 (gS (x:=x) (by omega)) ?_
   rw [show l.AM - 2+1=l.AM - 1 by omega];exact rr _
  grind
 rw [a1E o3,a1C,a1G o3]
 by_cases o8:i.Op=8
 ·have hb:=hs8 o8;rw [a1H o8,a1H o8,f1_eq];by_cases g:i.A<l.AS
  ·rw [a1H g];refine bb rfl ?_;dsimp only
   rw [xO (l:=⟨l.AM,l.AS⟩) (by dsimp only;omega) (by omega) (by omega)];dsimp only
   by_cases g2:i.B<=l.AM
   ·rw [a1H g2,a1H ⟨g,g2⟩];refine bb rfl ?_;dsimp only
    refine b1 rfl ?_;dsimp only
    refine b1 (aN (by omega)) ?_
    refine b1 (gS (x:=x) (by omega)) ?_
    rw [show l.AM - i.B+0=l.AM - i.B by omega];exact rr _
   grind
  grind
 rw [a1G o8,a1G o8]
 by_cases o9:i.Op=9
 ·obtain⟨q,q1,q2⟩:=aFj hla hn (.inl o9) (hj (.inl o9));rw [a1H o9,a1H o9,xO (l:=⟨l.AM,l.AS⟩) (by dsimp only;omega) (by omega) (by omega)];dsimp only
  by_cases g:1<=l.AM
  ·rw [a1H g];refine bb rfl ?_;dsimp only
   refine bb q1 ?_;by_cases g2:i.A<=q
   ·rw [a1F g2,eD,a1H ⟨g,q2.1 g2⟩,show l.AM - 1+0=l.AM - 1 by omega];refine bb rfl ?_;dsimp only
    rw [aAV _ [((n:Int)+1,_)]];refine bb (gS (x:=x) (by omega)) ?_
    cases hy:dK x [(i.A,(⟨l.AM - 1,l.AS⟩:AJ))]with
    | inr v=>rfl
    | inl y=>
     obtain⟨_,_,_,h4⟩:=nE _ _ _ hy;simp only [a0J,a0L]at h4;dsimp only
     refine b1 rfl ?_;dsimp only
     refine b1 (aN (by omega)) ?_
     refine b1 (gS (x:=y) (by omega)) ?_
     exact rr _
   ·rw [a1E g2,dB,a1G (fun z:1<=l.AM/\fN x.AB.Code n i=>g2 (q2.2 z.2))];rfl
  grind
 rw [a1G o9,a1G o9]
 by_cases o10:i.Op=10
 ·obtain⟨q,q1,q2⟩:=aFj hla hn (.inr o10) (hj (.inr o10));rw [a1H o10,a1H o10];refine bb q1 ?_;by_cases g2:i.A<=q
  ·rw [a1F g2,eD,a1H (q2.1 g2)];refine bb rfl ?_;dsimp only
   refine bb (gS (x:=x) (by omega)) ?_
   have:(⟨l.AM,l.AS⟩:AJ)=l:=rfl;rw [this];cases hy:dK x [(i.A,l)]with
   | inr v=>rfl
   | inl y=>rfl
  grind [dB]
 rw [a1G o10,a1G o10]
 by_cases o11:i.Op=11
 ·have hA:=h11 o11;have hA2:=hpos (by omega)
  rw [a1H o11,a1H o11,f2_eq];dsimp only
  by_cases g:l.AM=0
  ·rw [a1H g,a1H g];refine bb rfl ?_;dsimp only
   have hd:x.AB.AD[i.A.toNat]? =some (x.AB.AD[i.A.toNat]'(by omega)):=a0B _
   have hix:=dU (xs:=x.AB.AD) hA2.1 hA;have hdm:=a0X hd;rw [hd];refine bb hix ?_;generalize x.AB.AD[i.A.toNat]'(by omega)=d at hdm
   have hdo:=(hp.okD d hdm).1;have hd3:=hdo.1;refine bb (aN (by omega)) ?_
   refine bb (aN (by omega)) ?_
   have hk:l.AS+((d.AQ.length:Int)+(d.AN.length:Int))=l.AS+(d.AQ.length+d.AN.length:Nat):=by omega
   rw [hk];refine bb (def_eq (x:=x) hf hdo (by omega) (by omega)) ?_
   dsimp only
   rw [yK];cases hy:dK x (iN d (l.AS+(d.AQ.length+d.AN.length:Nat)))with
   | inr v=>rfl
   | inl y=>
    obtain⟨_,_,_,h4⟩:=nE _ _ _ hy;simp only [iN,a0I,a0K]at h4;dsimp only
    refine b1 rfl ?_;dsimp only
    refine b1 (aN (by omega)) ?_
    refine b1 (gS (x:=y) (by omega)) ?_
    exact rr _
  grind
 rw [a1G o11,a1G o11]
 by_cases o12:i.Op=12
 ·rw [a1H o12,a1H o12];by_cases g:i.A<=l.AS
  ·rw [a1F g,eD,a1H g];refine bb rfl ?_;dsimp only
   refine b1 rfl ?_;dsimp only
   refine b1 (aN (by omega)) ?_
   refine b1 (gS (x:=x) (by omega)) ?_
   exact rr _
  grind [dB]
 rw [a1G o12,a1G o12]
 refine bb (grp2 i.Op) ?_
 by_cases o13:i.Op=13\/i.Op=15
 ·rw [a1F o13,a1D,a1H o13,f1_eq];by_cases g:i.A<l.AS
  ·rw [a1H g];refine bb rfl ?_;dsimp only
   rw [f2_eq];dsimp only
   by_cases g2:l.AM=0
   ·rw [a1H g2,a1H ⟨g,g2⟩];refine bb rfl ?_;dsimp only
    rw [aAV _ [((n:Int)+1,_)]];refine bb (gS (x:=x) (by omega)) ?_
    cases hy:dK x [(i.B,(⟨0,l.AS⟩:AJ))]with
    | inr v=>rfl
    | inl y=>
     obtain⟨_,_,_,h4⟩:=nE _ _ _ hy;simp only [a0J,a0L]at h4;dsimp only
     refine b1 rfl ?_;dsimp only
     refine b1 (aN (by omega)) ?_
     refine b1 (gS (x:=y) (by omega)) ?_
     exact rr _
   grind
  grind
 rw [a1E o13,a1C,a1G o13]
 by_cases o14:i.Op=14
 ·rw [a1H o14,a1H o14,f2_eq];dsimp only
  by_cases g:l.AM=0
  ·rw [a1H g,a1H g];refine bb rfl ?_;dsimp only
   refine b1 rfl ?_;dsimp only
   refine b1 (aN (by omega)) ?_
   refine b1 (gS (x:=x) (by omega)) ?_
   exact rr _
  grind
 rw [a1G o14,a1G o14]
 have o16:i.Op=16:=by omega
 rw [a1H o16,f2_eq]
 dsimp only
 by_cases g:l.AM=0
 ·rw [a1H g,a1H g];rfl
 grind
open Go.SX Go.SW Go.Dt
theorem aCA {c:AB} {m:Int} {i:AL} (hi:c.Code[m.toNat]? =some i) (l:AJ):scP c m l=scI c m.toNat i l:=by unfold scP;rw [hi]
theorem pl2 {AA n:Nat} {c:AB} {b la:List Int} {a:Int} {l0:AJ} (hf:4000000<=AA) (hp:Pre c) (hn:n=c.Code.length) (hla:nQ c.Code la c.Code.length):∀ (k:Nat) (lv:aI Int AJ) (td:List Int) (B:Int),gA lv n->LvI (scP c) n a l0 lv.get td B->cnt lv.get n+td.length<k->0<=B->B+1000*((cnt lv.get n+td.length:Nat):Int)<=50000000 ->
 (∃ lv' B',kM AA k c.AH c.AD c.Code c.AG b la lv td=some (.inl (c.AH,c.AD,c.Code,c.AG,b,la,lv',[]))/\gA lv' n/\LvI (scP c) n a l0 lv'.get [] B')\/(kM AA k c.AH c.AD c.Code c.AG b la lv td=some (.inr (none,false))/\Bad (scP c) a l0)
 | 0,_,_,_,_,_,h,_,_=>by omega
 | k+1,lv,td,B,hk,hI,hm,hB0,hB=>by
  rcases List.eq_nil_or_concat td with rfl | ⟨td,m,rfl⟩
  ·grind [kM]
  ·rw [List.concat_eq_append]at *
   obtain⟨l,hl⟩:=hI.has m (by simp)
   obtain⟨r1,r2,r3,r4⟩:=hI.r m l hl;subst hn;have hmn:((m.toNat:Nat):Int)=m:=by omega
   have hi:c.Code[m.toNat]? =some (c.Code[m.toNat]'(by omega)):=a0B _
   have hlen:=hp.len;have hcl:=rC lv.get c.Code.length;simp only [a0I,List.length_singleton]at hm hB;have hfo:=aId (AA:=AA) (x:=⟨c,b,la,lv,td⟩) (n:=m.toNat) (l:=l) hf hp hi (by rw [hmn];exact hl) hla (by omega) (by omega) (by dsimp only;omega)
   rw [hmn]at hfo;have hsc:=aCA hi l;have hrest:∀ z,tB AA (⟨(⟨c.AH,c.AD,c.Code,c.AG⟩:AB),b,la,lv,td⟩:AR) m=some z->kM AA (k+1) c.AH c.AD c.Code c.AG b la lv (td++[m])=match z with
    | Sum.inr pv11=>((unW 190 pv11).bind fun e16=>some (none,false)).bind fun r=>some (Sum.inr r)
    | Sum.inl y15=>kM AA k y15.AB.AH y15.AB.AD y15.AB.Code y15.AB.AG y15.AU y15.last y15.AK y15.AT:=fun z hz=>by
    have e1:((td++[m]).length:Int) - 1=(td.length:Int):=by simp
    rw [kM,a1H (by simp),e1];refine b1 (aN (by omega)) ?_
    refine b1 (bS td [] m) ?_;refine b1 (aN (by omega)) ?_
    grind [aAj]
   cases hs:scI c m.toNat (c.Code[m.toNat]'(by omega)) l with
   | none=>
    rw [hs]at hfo hsc;refine .inr ⟨?_,m,l,r1, .inl hsc⟩;rw [hrest _ hfo];rfl
   | some s=>
    rw [hs]at hfo hsc;dsimp only at hfo
    have hsane:=aD1 hp;have hrs:∀ p∈s,0<=p.1/\p.1<(c.Code.length:Int):=fun p hp'=>(hsane m l s r2.1 r2.2 r3.1 r4.1 hsc p hp').1
    have hpp:=aB3 (n:=c.Code.length) s ⟨c,b,la,lv,td⟩ hrs hk;dsimp only at hpp
    cases hps:psh lv.get td s with
    | none=>
     rw [hps]at hpp;dsimp only at hpp
     refine .inr ⟨?_,hI.bad hl hsc (fun _=>Iff.rfl) hps⟩
     rw [hrest _ hfo,hpp];rfl
    | some ft=>
     obtain⟨f,td'⟩:=ft;rw [hps]at hpp;obtain⟨lv',p1,p2,p3⟩:=hpp;obtain⟨i1,i2⟩:=hI.step hsane hl hsc (fun _=>Iff.rfl) hps
     subst p2;rw [hrest _ hfo,p1];exact pl2 hf hp rfl hla k lv' td' (B+1000) p3 i1 (by omega) (by omega) (by omega)
open Classical in
theorem pl1 {AA n:Nat} {c:AB} {F M:Int} {D:List AO} {C:List AL} {b la td:List Int} {lv:aI Int AJ} (hf:4000000<=AA) (AE:List AO):∀ (AC:List AO) (k:Nat),c.AD=AC++AE->AE.length<k->AC.length+AE.length<=3000000->(∀ d∈AE,smD d) ->
 qW AA c k (AC.length:Int) F D C M b la lv td=some (if ∀ d∈AE,okD d/\inD C.length d then .inl (F,D,C,M,b,la,lv,td) else .inr (none,false)):=by
 induction AE with
 | nil=>
  intro AC k h hk _ _;obtain _ | k:=k
  ·omega
  grind [qW]
 | cons e AE ih=>
  intro AC k h hk hB hs;obtain _ | k:=k
  ·omega
  simp only [a0J]at hk hB;rw [qW,h,a1H (cI _ _ _),bS,bsm];refine b1 (aH3 (x:=⟨⟨F,D,C,M⟩,b,la,lv,td⟩) (d:=e) hf (hs e (.head _))) ?_;dsimp only
  by_cases g:okD e/\inD C.length e
  ·rw [a1H g];dsimp only
   rw [aN (by omega),bsm,cK AC e,ih (AC++[e]) k (by rw [h];simp) (by omega) (by simp;omega) (fun d hd=>hs d (.tail _ hd))]
   grind
  ·rw [a1G g,a1G (fun q:∀ d∈e :: AE,okD d/\inD C.length d=>g (q e (.head _)))];rfl
structure jR (c:AB):Prop where
 free:0<=c.AH/\c.AH<=12
 Aa:c.AD.length<=12
 code:0<c.Code.length/\c.Code.length<=12000
 main:0<=c.AG/\c.AG<(c.Code.length:Int)
 okD:∀ d∈c.AD,okD d/\inD c.Code.length d
 ins:(iG c.AD.length c.Code.length 0 c.Code/\eB [] c.Code)/\(eS [] c.Code).length=c.AD.length
 bl:okB c
theorem wK {dl len:Nat}:∀ {l:List AL} {n:Nat},iG dl len n l ↔ ∀ (j:Nat) i,l[j]? =some i->okI dl len ((n+j:Nat):Int) i/\inI len i
 | [],n=>by simp [iG]
 | e :: l,n=>by
  simp only [iG,wK (l:=l)];constructor
  ·grind
  ·intro h;refine⟨h 0 e rfl,fun j i hj=>?_⟩
   have:=h (j+1) i (by simpa using hj)
   grind
theorem jR.AC {c:AB} (h:jR c) (hl:c.Code.length<=12000):Pre c where
 len:=hl
 Aa:=h.Aa
 okD:=h.okD
 okI:=fun n i hi=>by have:=wK.1 h.ins.1.1 n i hi;rwa [a1q]at this
 end_:=fun i hi=>by
  have:=h.bl.2.2;rw [aCp hi]at this;exact of_decide_eq_true this
theorem smB_of {c:AB} (hd:c.AD.length<=12) (hl:c.Code.length<=12000) (hp:∀ d∈c.AD,okD d):SmB c:=⟨by omega,hd,fun d h=>⟨(hp d h).1.2.2,(hp d h).1.2.1⟩⟩
def lB (c:AB):Prop:=jR c/\¬ Bad (scP c) c.AG ⟨0,c.AH⟩/\∀ i:Nat,i<c.Code.length->∃ l,R (scP c) c.AG ⟨0,c.AH⟩ (i:Int) l
theorem aCQ {c:Prop} [Decidable c] (h:¬ c):bR (decide c)=some (.inr W):=by rw [a1E h];rfl
theorem start {c:AB} {f:FT} (hb:jR c) (h:f=fup (fun _=>none) c.AG ⟨0,c.AH⟩):LvI (scP c) c.Code.length c.AG ⟨0,c.AH⟩ f [c.AG] 12:=by
 subst h
 have h1:∀ m l,fup (fun _=>none) c.AG ⟨0,c.AH⟩ m=some l->m=c.AG/\l=⟨0,c.AH⟩:=by grind [fup]
 refine⟨fun m hm=>⟨⟨0,c.AH⟩,a1H (a0Y.1 hm)⟩,fun m l hm=>?_,fun m l hm hn=>?_,a1H rfl⟩
 ·obtain⟨rfl,rfl⟩:=h1 m l hm;exact⟨.base,hb.main,by simp,hb.free⟩
 grind
theorem aGh {AA:Nat} {c:AB} (hf:4000000<=AA) (hl:c.Code.length<=12000) (hd:∀ d∈c.AD,smD d):
 (lB c/\∃ x,fD AA c=some (some x,true)/\x.AU=cN (bgs c)/\∀ (i:Nat) l,x.AK.get (i:Int)=some l ↔ R (scP c) c.AG ⟨0,c.AH⟩ (i:Int) l)\/(¬ lB c/\fD AA c=some (none,false)):=by
 have hno:¬ jR c->fD AA c=some (none,false)->(lB c/\∃ x,fD AA c=some (some x,true)/\x.AU=cN (bgs c)/\∀ (i:Nat) l,x.AK.get (i:Int)=some l ↔ R (scP c) c.AG ⟨0,c.AH⟩ (i:Int) l)\/(¬ lB c/\fD AA c=some (none,false)):=fun h1 h2=> .inr ⟨fun g=>h1 g.1,h2⟩
 by_cases h1:0<=c.AH
 rotate_left
 ·refine hno (fun g=>h1 g.free.1) ?_
  rw [fD,a1G h1];rfl
 by_cases h2:c.AH<=12
 rotate_left
 ·refine hno (fun g=>h2 g.free.2) ?_
  rw [fD,a1H h1,a1G h2];rfl
 by_cases h3:(c.AD.length:Int)<=12
 rotate_left
 ·refine hno (by grind [jR.Aa]) ?_
  rw [fD,a1H h1,a1H h2,a1G h3];rfl
 by_cases h4:0<(c.Code.length:Int)
 rotate_left
 ·refine hno (by grind [jR.code]) ?_
  rw [fD,a1H h1,a1H h2,a1H h3,a1G h4];rfl
 by_cases h5:(c.Code.length:Int)<=12000
 rotate_left
 ·omega
 by_cases h6:0<=c.AG/\c.AG<(c.Code.length:Int)
 rotate_left
 ·refine hno (fun g=>h6 g.main) ?_
  rw [fD,a1H h1,a1H h2,a1H h3,a1H h4,a1H h5];refine bb (oT _ _) ?_;refine bb (aCQ h6) ?_;rfl
 have hins:∀ x:AR,x.AB=c->kN x c.AG=some (x,true):=by grind [oT]
 have e1:=pl1 (AA:=AA) (n:=0) (c:=c) (F:=c.AH) (M:=c.AG) (D:=c.AD) (C:=c.Code) (b:=[]) (la:=[]) (td:=[]) (lv:=aI.none) hf c.AD [] AA rfl (by omega) (by simp;omega) hd
 simp only [a0L,a0k]at e1
 by_cases h7:∀ d∈c.AD,okD d/\inD c.Code.length d
 rotate_left
 ·refine hno (fun g=>h7 g.okD) ?_
  rw [a1G h7]at e1;rw [fD,a1H h1,a1H h2,a1H h3,a1H h4,a1H h5]
  grind [eD]
 rw [a1H h7]at e1
 have e2:=aHr (AA:=AA) (x:=⟨c,[],[],aI.none,[]⟩) hf (by dsimp only;omega)
 dsimp only at e2
 by_cases h8:(iG c.AD.length c.Code.length 0 c.Code/\eB [] c.Code)/\(eS [] c.Code).length=c.AD.length
 rotate_left
 ·refine hno (fun g=>h8 g.ins) ?_
  rw [a1G h8]at e2;rw [fD,a1H h1,a1H h2,a1H h3,a1H h4,a1H h5];refine bb (hins _ rfl) ?_;refine bb eD ?_;refine b1 rfl ?_;dsimp only
  refine b1 e1 ?_;dsimp only
  refine b1 e2 ?_;rfl
 rw [a1H h8]at e2
 have hsm:=smB_of (by omega) hl fun d hd=>(h7 d hd).1
 obtain⟨la,e3,hla⟩:=aGY (AA:=AA) (x:=⟨c,[],[],aI.none,[]⟩) hf hsm (by grind)
 dsimp only at e3 hla
 by_cases h9:okB c
 rotate_left
 ·refine hno (fun g=>h9 g.bl) ?_
  rw [a1G h9]at e3;rw [fD,a1H h1,a1H h2,a1H h3,a1H h4,a1H h5];refine bb (hins _ rfl) ?_;refine bb eD ?_;refine b1 rfl ?_;dsimp only
  refine b1 e1 ?_;dsimp only
  refine b1 e2 ?_;dsimp only
  refine b1 e3 ?_;rfl
 rw [a1H h9]at e3
 have hbasic:jR c:=⟨⟨h1,h2⟩,by omega,⟨by omega,by omega⟩,h6,h7,h8,h9⟩
 have hpre:=hbasic.AC hl
 have e4:=gS (x:=⟨c,cN (bgs c),la,aI.none,[]⟩) (m:=c.AG) (l:=⟨0,c.AH⟩) (by simp)
 have e4':dK ⟨c,cN (bgs c),la,aI.none,[]⟩ [(c.AG,⟨0,c.AH⟩)]= .inl ⟨c,cN (bgs c),la,aI.none.upd c.AG ⟨0,c.AH⟩,[c.AG]⟩:=rfl
 rw [e4']at e4
 have hst:=start (f:=(aI.none.upd c.AG (⟨0,c.AH⟩:AJ)).get) hbasic rfl
 have hcl:=rC (aI.none.upd c.AG (⟨0,c.AH⟩:AJ)).get c.Code.length
 have e5:=pl2 (AA:=AA) (n:=c.Code.length) (c:=c) (b:=cN (bgs c)) (la:=la) hf hpre rfl (hla h9).2 AA (aI.none.upd c.AG ⟨0,c.AH⟩) [c.AG] 12 ((gA.none _).upd h6) hst (by grind) (by omega) (by grind)
 rcases e5 with⟨lv,B,e5,hk,hI⟩ | ⟨e5,hbad⟩
 ·have hcl:=hI.closed;by_cases h10:(lv.size:Int)=(c.Code.length:Int)
  ·refine .inl ⟨⟨hbasic,hI.good,fun i hi=>?_⟩,⟨c,cN (bgs c),la,lv,[]⟩,?_,rfl,fun i l=>(hcl _ _).symm⟩
   ·have:=hk.full.1 (by omega) i hi
    simp_all [Option.isSome_iff_exists]
   ·rw [fD,a1H h1,a1H h2,a1H h3,a1H h4,a1H h5]
    simp_all [eD]
  ·refine .inr ⟨fun g=>h10 ?_,?_⟩
   ·have:=hk.full.2 fun i hi=>by
     obtain⟨l,hl⟩:=g.2.2 i hi;rw [(hcl _ _).1 hl];rfl
    omega
   ·rw [fD,a1H h1,a1H h2,a1H h3,a1H h4,a1H h5];refine bb (hins _ rfl) ?_;refine bb eD ?_;refine b1 rfl ?_;dsimp only
    refine b1 e1 ?_;dsimp only
    refine b1 e2 ?_;dsimp only
    refine b1 e3 ?_;dsimp only
    refine b1 e4 ?_;dsimp only
    refine b1 e5 ?_;dsimp only
    refine b1 (aCQ h10) ?_;rfl
 ·refine .inr ⟨fun g=>g.2.1 hbad,?_⟩
  rw [fD,a1H h1,a1H h2,a1H h3,a1H h4,a1H h5]
  simp_all [eD]
open Go.SX Go.SW Go.Dt
def sT (c:AB):Prop:=∀ (n:Nat) i,c.Code[n]? =some i->fN c.Code n i
open Classical in
theorem rs1 {AA:Nat} {c:AB} (hf:4000000<=AA) (AE:List AO):∀ (AC:List AO) (k:Nat),c.AD=AC++AE->AE.length<k->AC.length+AE.length<=3000000->(∀ d∈AE,smD d) ->
 qV AA c k (AC.length:Int)=some (if ∀ d∈AE,okD d then .inl () else .inr false):=by
 induction AE with
 | nil=>
  intro AC k h hk _ _;obtain _ | k:=k
  ·omega
  grind [qV]
 | cons e AE ih=>
  intro AC k h hk hB hs;obtain _ | k:=k
  ·omega
  simp only [a0J]at hk hB;rw [qV,h,a1H (cI _ _ _),bS,bsm,parts_eq hf (hs e (.head _)),bsm];by_cases g:okD e
  ·rw [a1F g,a1D,aN (by omega),bsm,cK AC e,ih (AC++[e]) k (by rw [h];simp) (by omega) (by simp;omega) (fun d hd=>hs d (.tail _ hd))]
   grind
  grind
open Classical in
theorem rs2 {AA:Nat} {c:AB} (hf:4000000<=AA) (hl:c.Code.length<=2000000):∀ (k n:Nat),n<=c.Code.length->c.Code.length - n<k->oZ AA c k (n:Int)=some (if ∀ (j:Nat) i,n<=j->c.Code[j]? =some i->okI c.AD.length c.Code.length j i/\fN c.Code j i then .inl () else .inr false)
 | 0,_,_,hk=>by omega
 | k+1,n,hn,hk=>by
  by_cases h:n<c.Code.length
  ·have hi:=a0B h;rw [oZ,a1H (by omega)];refine b1 (aGm (c:=c) hf hl hi) ?_;by_cases g:okI c.AD.length c.Code.length n c.Code[n]/\fN c.Code n c.Code[n]
   ·rw [a1F g,a1D,aN (by omega),bsm];have:=rs2 hf hl k (n+1) (by omega) (by omega)
    grind
   grind
  grind [oZ]
theorem aDd {i:AL}:∀ {l:List AL},i∈l->(i.Op=13\/i.Op=15)->i.B∈onB l
 | e :: l,h,ho=>by
  rw [onB];cases h with
  | head=>grind [isOn]
  | tail _ h=>exact a0R _ (aDd h ho)
theorem bgs_in {c:AB} (hb:okB c):(0<=c.AG/\c.AG<(c.Code.length:Int))/\(∀ d∈c.AD,inD c.Code.length d)/\∀ i∈c.Code,inI c.Code.length i:=by
 have h:=(aB9 hb.1).1 hb
 have hr:∀ b∈bgs c,0<=b/\b<(c.Code.length:Int):=by grind
 refine⟨hr _ (.head _),fun d hd=>⟨fun s hs=>hr _ ?_,fun r h2=>hr _ ?_⟩,fun i hi ho=>(hr _ ?_).2⟩
 ·exact .tail _ (a0Q _ (List.mem_flatMap.2 ⟨d,hd,a0R _ (a0W hs)⟩))
 ·exact .tail _ (a0Q _ (List.mem_flatMap.2 ⟨d,hd,a0Q _ (a0W h2)⟩))
 ·exact .tail _ (a0R _ (aDd hi ho))
open Classical in
theorem still_eq {AA:Nat} {c:AB} (hf:4000000<=AA) (hl:c.Code.length<=12000) (hd:∀ d∈c.AD,smD d):wF AA c=some (decide (jR c/\sT c)):=by
 have hno:∀ {r:Option Bool},r=some false->¬ (jR c/\sT c)->r=some (decide (jR c/\sT c)):=fun h1 h2=>by rw [h1,a1E h2]
 rw [wF]
 by_cases h1:c.AH<0
 ·rw [a1H h1];exact hno rfl fun g=>by have:=g.1.free;omega
 rw [a1G h1]
 by_cases h2:12<c.AH
 ·rw [a1H h2];exact hno rfl fun g=>by have:=g.1.free;omega
 rw [a1G h2]
 by_cases h3:12<(c.AD.length:Int)
 ·rw [a1H h3];exact hno rfl fun g=>by have:=g.1.Aa;omega
 rw [a1G h3]
 by_cases h4:(c.Code.length:Int)<1
 ·rw [a1H h4];exact hno rfl fun g=>by have:=g.1.code;omega
 rw [a1G h4]
 by_cases h5:12000<(c.Code.length:Int)
 ·rw [a1H h5];exact hno rfl fun g=>by have:=g.1.code;omega
 rw [a1G h5]
 have e1:=rs1 (AA:=AA) (c:=c) hf c.AD [] AA rfl (by omega) (by simp;omega) hd
 have e2:=rs2 (AA:=AA) (c:=c) hf (by omega) AA 0 (by omega) (by omega)
 simp only [a0L,a0k,a1r,true_implies]at e1 e2
 by_cases h6:∀ d∈c.AD,okD d
 rotate_left
 ·rw [a1G h6]at e1;refine b1 e1 ?_;exact hno rfl fun g=>h6 fun d hd=>(g.1.okD d hd).1
 rw [a1H h6]at e1
 refine b1 e1 ?_
 dsimp only
 by_cases h7:∀ (j:Nat) i,c.Code[j]? =some i->okI c.AD.length c.Code.length j i/\fN c.Code j i
 rotate_left
 ·rw [a1G h7]at e2;refine b1 e2 ?_;exact hno rfl fun g=>h7 fun j i hi=>⟨by have:=(wK.1 g.1.ins.1.1 j i hi).1;rwa [a1q]at this,g.2 j i hi⟩
 rw [a1H h7]at e2
 refine b1 e2 ?_
 dsimp only
 have hsm:=smB_of (by omega) hl h6
 have hne:c.Code≠[]:=fun g=>by rw [g]at h4;simp at h4
 refine bb (aHu (c:=c) hf hsm hne) ?_
 by_cases h8:okB c
 rotate_left
 ·rw [a1E h8,a1C];exact hno rfl fun g=>h8 g.1.bl
 rw [a1F h8,a1D]
 obtain⟨b1',b2,b3⟩:=bgs_in h8
 refine bb (once_eq (c:=c) hf (by omega) (by omega) (fun i hi ho=>by
  obtain⟨j,hj⟩:=a0U.1 hi;have:=(h7 j i hj).1;exact⟨(this.pos (by omega)).1,this.df ho⟩)) ?_
 refine b1 rfl ?_
 congr 1
 rw [decide_eq_decide]
 constructor
 ·rintro⟨g1,g2⟩
  exact⟨⟨by omega,by omega,by omega,b1',fun d hd=>⟨h6 d hd,b2 d hd⟩,⟨⟨wK.2 fun j i hi=>⟨by rw [a1q];exact(h7 j i hi).1,b3 i (a0X hi)⟩,g1⟩,g2⟩,h8⟩,fun j i hi=>(h7 j i hi).2⟩
 ·rintro⟨g,_⟩
  exact⟨g.ins.1.2,g.ins.2⟩
open Classical in
noncomputable def to1 (f:Ref09_flow) (p:Int × AJ):Ref09_flow:=match f.AK[p.1.toNat]? with
 | none=>f
 | some l'=>if l'.AM<0 then⟨f.AK.set p.1.toNat p.2,f.wait++[p.1],f.wrong⟩ else ⟨f.AK,f.wait,f.wrong || !decide (l'=p.2)⟩
noncomputable def tos (f:Ref09_flow) (s:List (Int × AJ)):Ref09_flow:=s.foldl to1 f
theorem aFP (f:Ref09_flow) (s t:List (Int × AJ)):tos f (s++t)=tos (tos f s) t:=List.foldl_append
theorem zE (f:Ref09_flow) (p:Int × AJ) (s:List (Int × AJ)):tos f (p :: s)=tos (to1 f p) s:=rfl
theorem uX (f:Ref09_flow) (p:Int × AJ):(to1 f p).AK.length=f.AK.length/\(to1 f p).wait.length<=f.wait.length+1:=by
 grind [to1]
theorem zR:∀ (s:List (Int × AJ)) (f:Ref09_flow),(tos f s).AK.length=f.AK.length/\(tos f s).wait.length<=f.wait.length+s.length
 | [],f=>⟨rfl,by simp [tos]⟩
 | p :: s,f=>by
  have h1:=uX f p;have h2:=zR s (to1 f p)
  grind [tos]
open Classical in
theorem gW {f:Ref09_flow} {m a b:Int} (hm:0<=m/\m<(f.AK.length:Int)) (hw:f.wait.length<=80000000):fM f m a b=some (to1 f (m,⟨a,b⟩)):=by
 have hi:=dU hm.1 hm.2
 have hi2:f.AK[m.toNat]? =some (f.AK[m.toNat]'(by omega)):=a0B _
 rw [fM,hi,bsm,to1,hi2]
 dsimp only
 generalize f.AK[m.toNat]'(by omega)=l'
 by_cases h:l'.AM<0
 ·grind [cY]
 ·rw [a1G h,a1G h,bsm];cases f.wrong with
  | true=>rfl
  | false=>
   rw [a1C,Bool.false_or,<- Bool.decide_and]
   simp_all [aBA]
def eH (lv:List AJ):FT:=fun m=>if 0<=m then match lv[m.toNat]? with
 | some l=>if l.AM<0 then none else some l
 | none=>none else none
theorem aDP {lv:List AJ} {m:Int} {l:AJ} (hm:0<=m/\m<(lv.length:Int)) (hl:0<=l.AM):eH (lv.set m.toNat l)=fup (eH lv) m l:=by
 funext x
 simp only [eH,fup]
 grind
theorem aC3:∀ (s:List (Int × AJ)) (f:Ref09_flow),f.wrong=true->(tos f s).wrong=true
 | [],f,h=>h
 | p :: s,f,h=>by
  rw [zE];refine aC3 s _ ?_
  grind [to1]
open Classical in
theorem aBK:∀ (s:List (Int × AJ)) (f:Ref09_flow),f.wrong=false->(∀ p∈s,(0<=p.1/\p.1<(f.AK.length:Int))/\0<=p.2.AM)->(match psh (eH f.AK) f.wait s with | none=>(tos f s).wrong=true | some (g,td)=>∃ lv,tos f s=⟨lv,td,false⟩/\eH lv=g/\lv.length=f.AK.length)
 | [],f,hw,_=>⟨f.AK,by obtain⟨a,b,c⟩:=f;simp only at hw;subst hw;rfl,rfl,rfl⟩
 | p :: s,f,hw,hr=>by
  obtain⟨h1,h2⟩:=hr p (.head _);have hr':∀ q∈s,(0<=q.1/\q.1<(f.AK.length:Int))/\0<=q.2.AM:=fun q hq=>hr q (.tail _ hq)
  have hi2:f.AK[p.1.toNat]? =some (f.AK[p.1.toNat]'(by omega)):=a0B _
  rw [psh,zE,to1,hi2];dsimp only
  have habs:eH f.AK p.1=if (f.AK[p.1.toNat]'(by omega)).AM<0 then none else some (f.AK[p.1.toNat]'(by omega)):=by
   grind [eH]
  rw [habs];generalize f.AK[p.1.toNat]'(by omega)=l'
  by_cases h:l'.AM<0
  ·rw [a1H h,a1H h];dsimp only
   have:=aBK s ⟨f.AK.set p.1.toNat p.2,f.wait++[p.1],f.wrong⟩ hw (by grind)
   grind [aDP]
  ·rw [a1G h,a1G h];dsimp only
   by_cases e:l'=p.2
   ·rw [a1H e,a1F e,hw];exact aBK s ⟨f.AK,f.wait,false⟩ rfl hr'
   grind [aC3]
theorem rf1 {d:AO} {a:Int} (AE:List Ab):∀ (AC:List Ab) (k:Nat) (f:Ref09_flow),d.AN=AC++AE->AE.length<k->AC.length+AE.length<=3000000->f.wait.length+AE.length<=9000000->(∀ s∈AE,0<=s.AV/\s.AV<(f.AK.length:Int)) ->
 oU d a k (AC.length:Int) f.AK f.wait f.wrong=some ((tos f (AE.map fun s=>(s.AV,(⟨0,a⟩:AJ)))).AK,(tos f (AE.map fun s=>(s.AV,(⟨0,a⟩:AJ)))).wait,(tos f (AE.map fun s=>(s.AV,(⟨0,a⟩:AJ)))).wrong):=by
 induction AE with
 | nil=>
  intro AC k f h hk _ _ _;obtain _ | k:=k
  ·omega
  rw [oU,h,a1G (by simp)];rfl
 | cons e AE ih=>
  intro AC k f h hk hB hT hr;obtain _ | k:=k
  ·omega
  simp only [a0J]at hk hB hT;have hl:=uX f (e.AV,⟨0,a⟩);rw [oU,h,a1H (cI _ _ _),bS,bsm];refine b1 (gW (f:=f) (hr e (.head _)) (by omega)) ?_
  rw [aN (by omega),bsm,cK AC e,a0O,zE]
  grind
theorem rf3 {d:AO} {r:AZ} {x:Int} (hx:idx d.AP x=some r) {n:Nat} (hc:∀ c∈d.AQ,gK n c) {at_:Int} (AE:List Int):∀ (AC pre':List Int) (k:Nat) (acc:Int),r.AX=AC++AE->eM d.AQ at_ pre' AE->AE.length<k->AC.length+AE.length<=3000000->0<=acc/\acc+3*(AE.length:Int)<=1000000000->qF d x k acc (AC.length:Int)=some (acc+gD d.AQ AE):=by
 induction AE with
 | nil=>
  intro AC pre' k acc h _ hk _ _;obtain _ | k:=k
  ·omega
  rw [qF,hx,bsm,h,a1G (by simp),gD];simp
 | cons e AE ih=>
  intro AC pre' k acc h hj hk hB ha;obtain _ | k:=k
  ·omega
  simp only [a0J]at hk hB ha;obtain⟨⟨j1,j2,⟨c,c1,_⟩,_⟩,hj2⟩:=hj;have hm:=hc c (a0X c1);have hm1:=hm.2.2.1;have hm2:=hm.2.2.2;have hix:idx d.AQ e=some c:=by
   grind [dO]
  rw [qF,hx,bsm,h,a1H (cI _ _ _),bsm,h,bS,bsm,hix,bsm,aN (by omega),bsm,aN (by omega),bsm,cK AC e,ih (AC++[e]) _ k _ (by rw [h];simp) hj2 (by omega) (by simp;omega) (by omega)]
  grind [gD]
theorem rf2 {AA:Nat} {d:AO} (hf:4000000<=AA) (hok:okD d) {a:Int} (ha:0<=a/\a<=100000000) (AE:List AZ):∀ (AC:List AZ) (k:Nat) (f:Ref09_flow),d.AP=AC++AE->AE.length<k->AC.length+AE.length<=3000000->f.wait.length+AE.length<=9000000->(∀ r∈AE,0<=r.AV/\r.AV<(f.AK.length:Int)) ->
 qY AA d a k (AC.length:Int) f.AK f.wait f.wrong=some (tos f (AE.map fun r=>(r.AV,(⟨0,a+gD d.AQ r.AX⟩:AJ)))):=by
 induction AE with
 | nil=>
  intro AC k f h hk _ _ _;obtain _ | k:=k
  ·omega
  rw [qY,h,a1G (by simp)];rfl
 | cons e AE ih=>
  intro AC k f h hk hB hT hr;obtain _ | k:=k
  ·omega
  simp only [a0J]at hk hB hT;have he:=hok.2.2.2.1 e (by rw [h];simp)
  have hl3:=he.1.2.2.2;have hx:idx d.AP (AC.length:Int)=some e:=by rw [h,bS]
  have e3:=rf3 (d:=d) (r:=e) hx hok.2.1 e.AX [] [] AA a rfl he.2 (by omega) (by simp;omega) (by omega)
  have hl:=uX f (e.AV,⟨0,a+gD d.AQ e.AX⟩);simp only [a0L,a0k]at e3;rw [qY,a1H (by grind)];refine bb e3 ?_;refine bb hx ?_;refine bb (gW (f:=f) (hr e (.head _)) (by omega)) ?_
  refine b1 rfl ?_;dsimp only
  rw [aN (by omega),bsm,cK AC e,a0O,zE]
  grind
theorem aGF {AA:Nat} {d:AO} (hf:4000000<=AA) (hok:okD d) {k:Int} (hk:0<=k/\k<=80000000) {f:Ref09_flow} (hr:inD f.AK.length d) (ht:f.wait.length<=1000000):xF AA f d k=some (tos f (iN d (k+(d.AQ.length+d.AN.length:Nat)))):=by
 obtain⟨⟨h1,h2,h3⟩,_⟩:=id hok
 have hl:=zR (d.AN.map fun s=>(s.AV,(⟨0,k+(d.AQ.length+d.AN.length:Nat)⟩:AJ))) f
 rw [a0K]at hl
 have e1:=rf1 (d:=d) (a:=k+(d.AQ.length+d.AN.length:Nat)) d.AN [] AA f rfl (by omega) (by simp;omega) (by omega) hr.1
 have e2:=rf2 (AA:=AA) (d:=d) hf hok (a:=k+(d.AQ.length+d.AN.length:Nat)) (by omega) d.AP [] AA (tos f (d.AN.map fun s=>(s.AV,(⟨0,k+(d.AQ.length+d.AN.length:Nat)⟩:AJ)))) rfl (by omega) (by simp;omega) (by omega) (by rw [hl.1];exact hr.2)
 simp only [a0L,a0k]at e1 e2
 rw [xF,aN (by omega),bsm,aN (by omega),bsm,show k+(d.AQ.length:Int)+(d.AN.length:Int)=k+(d.AQ.length+d.AN.length:Nat) by omega]
 refine b1 e1 ?_
 dsimp only
 rw [e2,iN,aFP]
open Go.SX Go.SW Go.Dt
def isE (op:Int):Prop:=op=13\/op=15\/op=14\/op=11\/op=16
def isS (op:Int):Prop:=op=13\/op=15\/op=2\/op=8
instance {op:Int}:Decidable (isE op):=by unfold isE;infer_instance
instance {op:Int}:Decidable (isS op):=by unfold isS;infer_instance
def iM (op B:Int):Int:=if 3<=op/\op<=7 then 2 else if op=9 then 1 else if op=8 then B else 0
def oA (i:AL) (l:AJ):Prop:=l.AM<iM i.Op i.B\/(isE i.Op/\0<l.AM)\/(isS i.Op/\l.AS<=i.A)\/(i.Op=12/\l.AS<i.A)
theorem aEm (op B:Int):((uH op).bind fun y4=>bif y4 then some 2 else if op=9 then some 1 else if op=8 then some B else some 0)=some (iM op B):=by
 have h2:uH op=some (decide (3<=op/\op<=7)):=by
  grind [uH]
 rw [h2,bsm,iM]
 grind
theorem emp_eq (op:Int):((nU op).bind fun y5=>bif y5 then some true else if op=14 then some true else if op=11 then some true else some (decide (op=16)))=some (decide (isE op)):=by
 rw [aB7,bsm]
 by_cases h:op=13\/op=15
 ·grind [isE]
 ·rw [a1E h,a1C]
  grind [isE]
theorem slo_eq (op:Int):((nU op).bind fun y6=>bif y6 then some true else if op=2 then some true else some (decide (op=8)))=some (decide (isS op)):=by
 rw [aB7,bsm]
 by_cases h:op=13\/op=15
 ·grind [isS]
 ·rw [a1E h,a1C]
  grind [isS]
theorem grp12 (a:Int):(if a=1 then some (decide (a=1)) else some (decide (a=2)))=some (decide (a=1\/a=2)):=by
 grind
theorem aHH {c:AB} {n:Nat} {i:AL} {l:AJ} (h0:0<=l.AM) (hb:i.Op=8->0<=i.B) (h:oA i l):scI c n i l=none:=by
 unfold oA isE isS at h
 rw [scI]
 by_cases o1:i.Op=1
 ·unfold iM at h;rw [a1G (by omega),a1G (by omega),a1G (by omega)]at h;omega
 rw [a1G o1]
 by_cases o2:i.Op=2
 ·unfold iM at h;rw [a1G (by omega),a1G (by omega),a1G (by omega)]at h;rw [a1H o2,a1G (by omega)]
 rw [a1G o2]
 by_cases o3:3<=i.Op/\i.Op<=7
 ·unfold iM at h;rw [a1H o3]at h;rw [a1H o3,a1G (by omega)]
 rw [a1G o3]
 by_cases o8:i.Op=8
 ·unfold iM at h;rw [a1G o3,a1G (by omega),a1H o8]at h;rw [a1H o8,a1G (by omega)]
 rw [a1G o8]
 by_cases o9:i.Op=9
 ·unfold iM at h;rw [a1G o3,a1H o9]at h;rw [a1H o9,a1G (by rintro⟨g,_⟩;omega)]
 unfold iM at h;rw [a1G o3,a1G o9,a1G o8]at h
 rw [a1G o9]
 by_cases o10:i.Op=10
 ·omega
 rw [a1G o10]
 by_cases o11:i.Op=11
 ·rw [a1H o11,a1G (by omega)]
 rw [a1G o11]
 by_cases o12:i.Op=12
 ·rw [a1H o12,a1G (by omega)]
 rw [a1G o12]
 by_cases o13:i.Op=13\/i.Op=15
 ·rw [a1H o13,a1G (by omega)]
 rw [a1G o13]
 by_cases o14:i.Op=14
 ·rw [a1H o14,a1G (by omega)]
 rw [a1G o14,a1G (by omega)]
theorem blk_eq {op S K A need:Int} {E T:Prop} [Decidable E] [Decidable T] {r:Ref09_flow}:
 (if S<need then
  (some r).bind fun r=>some (Sum.inr r)
 else
  bif decide (E)then
   if 0<S then
    (some r).bind fun r=>some (Sum.inr r)
   else
    bif decide (T)then
     if K<=A then
      (some r).bind fun r=>some (Sum.inr r)
     else
      if op=12 then
       if K<A then
        (some r).bind fun r=>some (Sum.inr r)
       else
        some (Sum.inl ())
      else
       some (Sum.inl ())
    else
     if op=12 then
      if K<A then
       (some r).bind fun r=>some (Sum.inr r)
      else
       some (Sum.inl ())
     else
      some (Sum.inl ())
  else
   bif decide (T)then
    if K<=A then
     (some r).bind fun r=>some (Sum.inr r)
    else
     if op=12 then
      if K<A then
       (some r).bind fun r=>some (Sum.inr r)
      else
       some (Sum.inl ())
     else
      some (Sum.inl ())
   else
    if op=12 then
     if K<A then
      (some r).bind fun r=>some (Sum.inr r)
     else
      some (Sum.inl ())
    else
     some (Sum.inl ()))=some (if S<need\/(E/\0<S)\/(T/\K<=A)\/(op=12/\K<A)then(Sum.inr r:Unit ⊕ Ref09_flow) else Sum.inl ()):=by
 grind
theorem aGZ {AA:Nat} {f:Ref09_flow} {c:AB} {n:Nat} {i:AL} {l:AJ} (hi:c.Code[n]? =some i) (hl:f.AK[n]? =some l) (h:oA i l):nL AA f c (n:Int)=some ⟨f.AK,f.wait,true⟩:=by
 rw [nL]
 refine b1 (dO hl) ?_
 refine b1 (dO hl) ?_
 refine b1 (dO hi) ?_
 refine b1 (aEm _ _) ?_
 refine b1 (emp_eq _) ?_
 refine b1 (slo_eq _) ?_
 refine b1 blk_eq ?_
 unfold oA at h
 rw [a1H h]
theorem from_eq {AA:Nat} {f:Ref09_flow} {c:AB} {n:Nat} {i:AL} {l:AJ} (hf:4000000<=AA) (hp:Pre c) (hne:fN c.Code n i) (hi:c.Code[n]? =some i) (hl:f.AK[n]? =some l) (hlen:f.AK.length=c.Code.length)
 (hS:0<=l.AM/\l.AM<=80000000) (hK:0<=l.AS/\l.AS<=80000000) (ht:f.wait.length<=100000) (h:¬ oA i l):
 ∃ s s',scI c n i l=some s/\(∀ p,p∈s' ↔ p∈s)/\nL AA f c (n:Int)=some (tos f s'):=by
 obtain⟨hok,hin⟩:=hp.okI n i hi
 have hnx:=hp.next hi
 have hn:=(a0C.1 hi).1
 have hlen4:=hp.len
 have hj:=hok.jump;have hs8:=hok.send;have h11:=hok.df;have hpos:=hok.pos;have hop:=hok.op
 unfold inI at hin
 have hw:=h
 unfold oA isE isS at hw
 rw [scI,nL]
 have e0:=dO hl
 have e0':=dO hi
 rw [e0,bsm,bsm,e0',bsm,aEm,bsm,emp_eq,bsm,slo_eq,bsm]
 have h':=h
 unfold oA at h'
 rw [blk_eq,a1G h',bsm]
 dsimp only
 rw [grp12,bsm]
 by_cases o1:i.Op=1
 ·have:=hnx (by omega)
  rw [a1H o1,a1F (.inl o1),a1D];refine⟨_,_,rfl,fun _=>Iff.rfl,?_⟩
  refine b1 (aN (by omega)) ?_
  refine b1 (aN (by omega)) ?_
  refine b1 (gW (f:=f) (by omega) (by omega)) ?_
  rfl
 rw [a1G o1]
 by_cases o2:i.Op=2
 ·have:=hnx (by omega)
  unfold iM at hw;rw [a1G (by omega),a1G (by omega),a1G (by omega)]at hw;rw [a1H o2,a1H (by omega),a1F (.inr o2),a1D];refine⟨_,_,rfl,fun _=>Iff.rfl,?_⟩
  refine b1 (aN (by omega)) ?_
  refine b1 (aN (by omega)) ?_
  refine b1 (gW (f:=f) (by omega) (by omega)) ?_
  rfl
 rw [a1G o2,a1E (by omega),a1C]
 by_cases o3:3<=i.Op/\i.Op<=7
 ·have:=hnx (by omega)
  unfold iM at hw;rw [a1H o3]at hw;rw [a1H o3,a1H (by omega),a1G (by omega),a1G (by omega),a1G (by omega),a1G (by omega),a1G (by omega),grp2,bsm,a1E (by omega),a1C,a1G (by omega),a1G (by omega)];refine⟨_,_,rfl,fun _=>Iff.rfl,?_⟩
  refine b1 (aN (by omega)) ?_
  refine b1 (aN (by omega)) ?_
  refine b1 (gW (f:=f) (by omega) (by omega)) ?_
  rfl
 rw [a1G o3]
 by_cases o8:i.Op=8
 ·have:=hnx (by omega)
  have hb:=hs8 o8;unfold iM at hw;rw [a1G o3,a1G (by omega),a1H o8]at hw;rw [a1H o8,a1H o8,a1H (by omega)];refine⟨_,_,rfl,fun _=>Iff.rfl,?_⟩
  refine b1 (aN (by omega)) ?_
  refine b1 (aN (by omega)) ?_
  refine b1 (gW (f:=f) (by omega) (by omega)) ?_
  rfl
 rw [a1G o8,a1G o8]
 by_cases o9:i.Op=9
 ·have:=hnx (by omega)
  have hA:=hj (.inl o9);unfold iM at hw;rw [a1G o3,a1H o9]at hw;rw [a1H o9,a1H o9,a1H (show 1<=l.AM/\fN c.Code n i from⟨by omega,hne⟩)];refine⟨_,[((n:Int)+1,⟨l.AM - 1,l.AS⟩),(i.A,⟨l.AM - 1,l.AS⟩)],rfl,(by grind),?_⟩
  have h1:=uX f ((n:Int)+1,⟨l.AM - 1,l.AS⟩);refine b1 (aN (by omega)) ?_
  refine b1 (aN (by omega)) ?_
  refine b1 (gW (f:=f) (by omega) (by omega)) ?_
  refine b1 (aN (by omega)) ?_
  refine b1 (gW (f:=to1 f ((n:Int)+1,⟨l.AM - 1,l.AS⟩)) (by omega) (by omega)) ?_
  rfl
 unfold iM at hw;rw [a1G o3,a1G o9,a1G o8]at hw
 rw [a1G o9,a1G o9]
 by_cases o10:i.Op=10
 ·have hA:=hj (.inr o10);rw [a1H o10,a1H o10,a1H hne];refine⟨_,_,rfl,fun _=>Iff.rfl,?_⟩
  refine b1 (gW (f:=f) (by omega) (by omega)) ?_
  rfl
 rw [a1G o10,a1G o10]
 by_cases o11:i.Op=11
 ·have:=hnx (by omega)
  have hA:=h11 o11;have hA2:=hpos (by omega)
  have hd:c.AD[i.A.toNat]? =some (c.AD[i.A.toNat]'(by omega)):=a0B _
  have hix:=dU (xs:=c.AD) hA2.1 hA;have hdm:=a0X hd;rw [a1H o11,a1H o11,a1H (by omega),hd,hix];generalize c.AD[i.A.toNat]'(by omega)=d at hdm
  have hdo:=hp.okD d hdm;have hd3:=hdo.1.1;have h1:=zR (iN d (l.AS+(d.AQ.length+d.AN.length:Nat))) f;simp only [iN,a0I,a0K]at h1;refine⟨_,_,rfl,fun _=>Iff.rfl,?_⟩
  refine b1 rfl ?_;refine b1 (aGF (f:=f) hf hdo.1 (by omega) (by rw [hlen];exact hdo.2) (by omega)) ?_
  refine b1 (aN (by omega)) ?_
  refine b1 rfl ?_;refine b1 (aN (by omega)) ?_
  refine b1 rfl ?_;refine b1 (aN (by omega)) ?_
  refine b1 (gW (f:=tos f (iN d (l.AS+(d.AQ.length+d.AN.length:Nat)))) (by unfold iN;omega) (by unfold iN;omega)) ?_
  rw [aFP,show l.AS+(d.AQ.length:Int)+(d.AN.length:Int)=l.AS+(d.AQ.length+d.AN.length:Nat) by omega];rfl
 rw [a1G o11,a1G o11]
 by_cases o12:i.Op=12
 ·have:=hnx (by omega)
  rw [a1H o12,a1H o12,a1H (by omega)];refine⟨_,_,rfl,fun _=>Iff.rfl,?_⟩
  refine b1 (aN (by omega)) ?_
  refine b1 (gW (f:=f) (by omega) (by omega)) ?_
  rfl
 rw [a1G o12,a1G o12,grp2,bsm]
 by_cases o13:i.Op=13\/i.Op=15
 ·have:=hnx (by omega)
  have hB:=hin o13;have hB2:=hpos (by omega)
  rw [a1H o13,a1F o13,a1D,a1H (by omega)];refine⟨_,_,rfl,fun _=>Iff.rfl,?_⟩
  have h1:=uX f (i.B,⟨0,l.AS⟩);refine b1 (gW (f:=f) (by omega) (by omega)) ?_
  refine b1 (aN (by omega)) ?_
  refine b1 (gW (f:=to1 f (i.B,⟨0,l.AS⟩)) (by omega) (by omega)) ?_
  rfl
 rw [a1G o13,a1E o13,a1C]
 by_cases o14:i.Op=14
 ·have:=hnx (by omega)
  rw [a1H o14,a1H o14,a1H (by omega)];refine⟨_,_,rfl,fun _=>Iff.rfl,?_⟩
  refine b1 (aN (by omega)) ?_
  refine b1 (gW (f:=f) (by omega) (by omega)) ?_
  rfl
 rw [a1G o14,a1G o14,a1H (show l.AM=0 by omega),a1H (show i.Op=16 by omega)]
 exact⟨_,_,rfl,fun _=>Iff.rfl,rfl⟩
open Go.SX Go.SW Go.Dt
theorem aHc {lv:List AJ} {m:Int} {l:AJ} (h:eH lv m=some l):0<=m/\lv[m.toNat]? =some l/\0<=l.AM:=by
 unfold eH at h
 grind
theorem rstop {AA:Nat} {c:AB} {k:Nat} {lv:List AJ} {wt:List Int} (hk:0<k):jE AA c k lv wt true=some (lv,wt,true):=by
 obtain _ | k:=k
 ·omega
 grind [jE]
theorem rl2 {AA n:Nat} {c:AB} {a:Int} {l0:AJ} (hf:4000000<=AA) (hp:Pre c) (hne:sT c) (hn:n=c.Code.length):∀ (k:Nat) (lv:List AJ) (wt:List Int) (B:Int),lv.length=n->LvI (scP c) n a l0 (eH lv) wt B->cnt (eH lv) n+wt.length+1<k->0<=B->B+1000*((cnt (eH lv) n+wt.length:Nat):Int)<=50000000 ->
 (∃ lv' B',jE AA c k lv wt false=some (lv',[],false)/\lv'.length=n/\LvI (scP c) n a l0 (eH lv') [] B')\/(∃ lv' wt',jE AA c k lv wt false=some (lv',wt',true)/\lv'.length=n/\Bad (scP c) a l0)
 | 0,_,_,_,_,_,h,_,_=>by omega
 | k+1,lv,wt,B,hk,hI,hm,hB0,hB=>by
  rcases List.eq_nil_or_concat wt with rfl | ⟨wt,m,rfl⟩
  ·exact .inl ⟨lv,B,by rw [jE,a1G (by simp)],hk,hI⟩
  ·rw [List.concat_eq_append]at *
   obtain⟨l,hl⟩:=hI.has m (by simp)
   obtain⟨r1,r2,r3,r4⟩:=hI.r m l hl;obtain⟨_,hll,_⟩:=aHc hl;subst hn;have hmn:((m.toNat:Nat):Int)=m:=by omega
   have hi:c.Code[m.toNat]? =some (c.Code[m.toNat]'(by omega)):=a0B _
   have hlen:=hp.len;have hcl:=rC (eH lv) c.Code.length;simp only [a0I,List.length_singleton]at hm hB;have hsc:=aCA hi l;have hok:=(hp.okI _ _ hi).1;have hrest:∀ z,nL AA (⟨lv,wt,false⟩:Ref09_flow) c m=some z->jE AA c (k+1) lv (wt++[m]) false=jE AA c k z.AK z.wait z.wrong:=fun z hz=>by
    have e1:((wt++[m]).length:Int) - 1=(wt.length:Int):=by simp
    rw [jE,a1H (by simp),a1C,e1];refine b1 (aN (by omega)) ?_
    refine b1 (bS wt [] m) ?_;refine b1 (aN (by omega)) ?_
    refine b1 (aAj wt [m]) ?_;exact b1 hz rfl
   by_cases hw:oA (c.Code[m.toNat]'(by omega)) l
   ·have hfo:=aGZ (AA:=AA) (f:=⟨lv,wt,false⟩) hi hll hw;rw [hmn]at hfo;rw [aHH r3.1 (fun o8=>(hok.send o8).1) hw]at hsc;refine .inr ⟨lv,wt,?_,hk,m,l,r1, .inl hsc⟩;rw [hrest _ hfo];exact rstop (by omega)
   ·obtain⟨s,s',q1,q2,hfo⟩:=from_eq (AA:=AA) (f:=⟨lv,wt,false⟩) hf hp (hne _ _ hi) hi hll hk (by omega) (by omega) (by dsimp only;omega) hw
    rw [hmn]at hfo;rw [q1]at hsc;have hsane:=aD1 hp;have hrs:∀ p∈s',(0<=p.1/\p.1<(lv.length:Int))/\0<=p.2.AM:=fun p hp'=>by
     have:=hsane m l s r2.1 r2.2 r3.1 r4.1 hsc p ((q2 p).1 hp');rw [hk];exact⟨this.1,this.2.1⟩
    have hpp:=aBK s' ⟨lv,wt,false⟩ rfl hrs;have htl:=zR s' ⟨lv,wt,false⟩;dsimp only at hpp htl
    cases hps:psh (eH lv) wt s' with
    | none=>
     rw [hps]at hpp;dsimp only at hpp
     refine .inr ⟨(tos ⟨lv,wt,false⟩ s').AK,(tos ⟨lv,wt,false⟩ s').wait,?_,by rw [htl.1,hk],hI.bad hl hsc q2 hps⟩
     rw [hrest _ hfo,hpp];exact rstop (by omega)
    | some ft=>
     obtain⟨f,td'⟩:=ft;rw [hps]at hpp;obtain⟨lv',p1,p2,p3⟩:=hpp;obtain⟨i1,i2⟩:=hI.step hsane hl hsc q2 hps;subst p2;rw [hrest _ hfo,p1];exact rl2 hf hp hne rfl k lv' td' (B+1000) (by omega) i1 (by omega) (by omega) (by omega)
theorem rl1 {c:AB} (hl:c.Code.length<=2000000):∀ (k n:Nat),n<=c.Code.length->c.Code.length - n<k->rG c k (n:Int) (List.replicate n ⟨-1,-1⟩)=some (List.replicate c.Code.length ⟨-1,-1⟩)
 | 0,_,_,hk=>by omega
 | k+1,n,hn,hk=>by
  by_cases h:n<c.Code.length
  ·rw [rG,a1H (by omega),dS (by simp;omega),bsm,aN (by omega),bsm];have:=rl1 hl k (n+1) (by omega) (by omega)
   grind [List.replicate_succ']
  grind [rG]
theorem rl3 (AE:List AJ):∀ (AC:List AJ) (k:Nat) (b:Bool),AE.length<k->AC.length+AE.length<=3000000->nR (AC++AE) k (AC.length:Int) b=some (b || AE.any fun l=>decide (l.AM<0)):=by
 induction AE with
 | nil=>
  intro AC k b hk _;obtain _ | k:=k
  ·omega
  grind [nR]
 | cons e AE ih=>
  intro AC k b hk hB;obtain _ | k:=k
  ·omega
  simp only [a0J]at hk hB;rw [nR,a1H (cI _ _ _)];have hg:∀ b',nR (AC++e :: AE) k (AC.length+1:Int) b'=some (b' || AE.any fun l=>decide (l.AM<0)):=by grind [cK,fF]
  cases b with
  | true=>
   grind [chk]
  | false=>
   rw [a1C,bS];refine bb rfl ?_
   grind [chk]
theorem aGi {c:AB} (h:lB c):sT c:=fun n i hi ho=>by
 have hn:=(a0C.1 hi).1
 obtain⟨l,hl⟩:=h.2.2 n hn
 refine Classical.byContradiction fun g=>h.2.1 ⟨_,l,hl, .inl ?_⟩
 have hg:¬ fN c.Code n i:=fun q=>g (q ho)
 rw [aCA (by simpa using hi)]
 rw [a0n,scI,a1G (by omega),a1G (by omega),a1G (by omega),a1G (by omega)]
 grind
open Classical in
theorem aE5 {AA:Nat} {c:AB} (hf:4000000<=AA) (hl:c.Code.length<=12000) (hd:∀ d∈c.AD,smD d):
 (lB c/\∃ lv,oE AA c=some (lv,0)/\lv.length=c.Code.length/\∀ (i:Nat) l,lv[i]? =some l ↔ R (scP c) c.AG ⟨0,c.AH⟩ (i:Int) l)\/(¬ lB c/\oE AA c=some ([],2)):=by
 have e0:=still_eq (AA:=AA) hf hl hd
 by_cases h:jR c/\sT c
 rotate_left
 ·refine .inr ⟨fun g=>h ⟨g.1,aGi g⟩,?_⟩
  simp_all [oE]
 rw [a1F h]at e0
 obtain⟨hb,hne⟩:=h
 have hpre:=hb.AC hl
 have e1:=rl1 (c:=c) (by omega) AA 0 (by omega) (by omega)
 have e2:=gW (f:=⟨List.replicate c.Code.length ⟨-1,-1⟩,[],false⟩) (m:=c.AG) (a:=0) (b:=c.AH) (by have:=hb.main;simp;omega) (by simp)
 have hmain:=hb.main
 have e2':to1 ⟨List.replicate c.Code.length ⟨-1,-1⟩,[],false⟩ (c.AG,⟨0,c.AH⟩)=⟨(List.replicate c.Code.length (⟨-1,-1⟩:AJ)).set c.AG.toNat ⟨0,c.AH⟩,[c.AG],false⟩:=by
  grind [to1]
 rw [e2']at e2
 have habs:eH ((List.replicate c.Code.length (⟨-1,-1⟩:AJ)).set c.AG.toNat ⟨0,c.AH⟩)=fup (fun _=>none) c.AG ⟨0,c.AH⟩:=by
  rw [aDP (by simp;omega) (by simp)];congr 1
  grind [eH]
 have hst:=start (f:=eH ((List.replicate c.Code.length (⟨-1,-1⟩:AJ)).set c.AG.toNat ⟨0,c.AH⟩)) hb habs
 have hcl:=rC (eH ((List.replicate c.Code.length (⟨-1,-1⟩:AJ)).set c.AG.toNat ⟨0,c.AH⟩)) c.Code.length
 have e3:=rl2 (AA:=AA) (n:=c.Code.length) (c:=c) hf hpre hne rfl AA _ [c.AG] 12 (by simp) hst (by grind) (by omega) (by grind)
 have hgo:∀ lv wt b,jE AA c AA ((List.replicate c.Code.length (⟨-1,-1⟩:AJ)).set c.AG.toNat ⟨0,c.AH⟩) [c.AG] false=some (lv,wt,b)->lv.length=c.Code.length->oE AA c=bif (b || lv.any fun l=>decide (l.AM<0))then some ([],2) else some (lv,0):=fun lv wt b h1 h2=>by
  have e4:=rl3 lv [] AA b (by omega) (by simp;omega)
  simp_all [oE]
 rcases e3 with⟨lv,B,e3,hlv,hI⟩ | ⟨lv,wt,e3,hlv,hbad⟩
 ·rw [hgo _ _ _ e3 hlv,Bool.false_or];have hcls:=hI.closed;cases hany:lv.any fun l=>decide (l.AM<0)with
  | true=>
   refine .inr ⟨fun g=>?_,rfl⟩
   obtain⟨l,hl1,hl2⟩:=List.any_eq_true.1 hany;obtain⟨i,hi⟩:=a0U.1 hl1;have hin:=(a0C.1 hi).1;obtain⟨l',hl'⟩:=g.2.2 i (by omega)
   grind [eH]
  | false=>
   have hall:∀ (i:Nat) l,lv[i]? =some l ↔ eH lv (i:Int)=some l:=fun i l=>by
    constructor
    ·intro hi;have hs:¬ l.AM<0:=fun g=>by
      grind
     grind [eH]
    grind [eH]
   refine .inl ⟨⟨hb,hI.good,fun i hi=>⟨lv[i]'(by omega),(hcls _ _).2 ((hall _ _).1 (a0B _))⟩⟩,lv,rfl,hlv,(by grind)⟩
 ·rw [hgo _ _ _ e3 hlv];exact .inr ⟨fun g=>g.2.1 hbad,rfl⟩
open Go.SX Go.SW Go.Dt
theorem rput_l:∀ (d k:Nat) (x:Int) (acc:Bs),fitN x->x<128 ^ (d+1)->d<k->acc.length+d<=1000000000 ->
 ∃ y AC,sS k acc x=some (acc++AC,y)/\put x=AC++[IntKind.u8.wrap y]
 | d,0,_,_,_,_,h,_=>by omega
 | d,k+1,x,acc,hf,hx,hk,hr=>by
  rw [sS];by_cases c:128<=x
  ·cases d with
   | zero=>omega
   | succ d=>
    rw [a1H c,aAN (by omega)];simp only [bsm];rw [aN (by omega)];simp only [bsm];rw [aAE,show(128+x % 128) % 256=x % 128+128 by omega,dS (by simp;omega)];simp only [bsm];rw [quo_eq ⟨by omega,hf⟩];simp only [bsm];obtain⟨y,AC,h1,h2⟩:=rput_l d k (x / 128) (acc++[x % 128+128]) (by unfold fitN at *;omega) (by rw [a0l]at hx;omega) (by omega) (by simp;omega)
    exact⟨y,(x % 128+128) :: AC,by rw [h1];simp,by rw [sH c,h2];rfl⟩
  ·rw [a1G c];exact⟨x,[],by simp,by rw [pJ (by omega)];rfl⟩
theorem fK {AA:Nat} (hf:2000000<=AA) {acc:Bs} {x:Int} (h:fitN x) (hr:acc.length<=900000000):eR AA acc x=some (acc++put x):=by
 obtain⟨y,p,e1,e2⟩:=rput_l 9 AA x acc h (uR h) (by omega) (by omega)
 have hl:p.length<=9:=by have:=aAD 9 x (uR h);rw [e2]at this;simpa using this
 rw [eR,e1]
 simp only [bsm]
 rw [dS (by simp;omega),e2]
 simp
structure pkD (d:AO):Prop where
 ln:d.AQ.length<=1000000/\d.AN.length<=1000000/\d.AP.length<=1000000
 ch:∀ x∈d.AQ,fitN x.At/\fitN x.Ae
 sp:∀ x∈d.AN,fitN x.In/\fitN x.AV
 ru:∀ x∈d.AP,fitN x.At/\fitN x.AV/\x.AX.length<=1000000/\∀ j∈x.AX,fitN j
structure pkI (i:AL):Prop where
 op:1<=i.Op/\i.Op<=16
 int:i.Op=1-> -4000000000000000000<=i.A/\i.A<=4000000000000000000
 a:fitN i.A
 b:fitN i.B
theorem rW {α:Type} {e:α->Bs} {L:Nat->Bs->Int->Option Bs} {xs:List α} {ok:α->Prop} {AA:Nat} {acc:Bs} (hok:∀ x∈xs,ok x) (hl:xs.length<AA) (hr:acc.length+(xs.flatMap e).length<=900000000)
 (hs:∀ AC x AE k acc,xs=AC++x :: AE->ok x->acc.length+(e x).length<=900000000->L (k+1) acc (AC.length:Int)=L k (acc++e x) ((AC.length:Int)+1)) (he:∀ k acc,L (k+1) acc (xs.length:Int)=some acc):L AA acc 0=some (acc++xs.flatMap e):=
 emit (L:=fun k i a=>L k a i) (ok:=ok) hs he xs [] AA acc rfl hok hl hr
theorem rp2 {AA:Nat} (hf:2000000<=AA) {d:AO} (hd:pkD d) {acc:Bs} (hr:acc.length+(d.AQ.flatMap iZ).length<=900000000):nY AA d AA acc 0=some (acc++d.AQ.flatMap iZ):=
 rW (L:=nY AA d) hd.ch (by have:=hd.ln;omega) hr (fun AC x AE k acc h hx ha=>by
  have hl:=hd.ln;have hp:AC.length<d.AQ.length:=by rw [h];simp
  simp only [iZ,a0I]at ha;rw [nY,a1H (by omega),h,bS];simp only [bsm];rw [fK hf hx.1 (by omega)];simp only [bsm];rw [fK hf hx.2 (by simp only [a0I];omega)];simp only [bsm];rw [aN (by omega)];simp [iZ]) (fun k acc=>by rw [nY,a1G (by omega)])
theorem rp3 {AA:Nat} (hf:2000000<=AA) {d:AO} (hd:pkD d) {acc:Bs} (hr:acc.length+(d.AN.flatMap iP).length<=900000000):mX AA d AA acc 0=some (acc++d.AN.flatMap iP):=
 rW (L:=mX AA d) hd.sp (by have:=hd.ln;omega) hr (fun AC x AE k acc h hx ha=>by
  have hl:=hd.ln;have hp:AC.length<d.AN.length:=by rw [h];simp
  simp only [iP,a0I]at ha;rw [mX,a1H (by omega),h,bS];simp only [bsm];rw [fK hf hx.1 (by omega)];simp only [bsm];rw [fK hf hx.2 (by simp only [a0I];omega)];simp only [bsm];rw [aN (by omega)];simp [iP]) (fun k acc=>by rw [mX,a1G (by omega)])
theorem rp5 {AA:Nat} (hf:2000000<=AA) {d:AO} {r:AZ} {n:Int} (hn:idx d.AP n=some r) (hj:r.AX.length<=1000000/\∀ j∈r.AX,fitN j) {acc:Bs} (hr:acc.length+(r.AX.flatMap put).length<=900000000):mM AA d n AA acc 0=some (acc++r.AX.flatMap put):=
 rW (L:=mM AA d n) hj.2 (by omega) hr (fun AC x AE k acc h hx ha=>by
  have hp:AC.length<r.AX.length:=by rw [h];simp
  rw [mM,hn];simp only [bsm];rw [a1H (by omega),h,bS];simp only [bsm];rw [fK hf hx (by omega)];simp only [bsm];rw [aN (by omega)];simp) (fun k acc=>by rw [mM,hn];simp only [bsm];rw [a1G (by omega)])
theorem rp4 {AA:Nat} (hf:2000000<=AA) {d:AO} (hd:pkD d) {acc:Bs} (hr:acc.length+(d.AP.flatMap gO).length<=900000000):oO AA d AA acc 0=some (acc++d.AP.flatMap gO):=
 rW (L:=oO AA d) hd.ru (by have:=hd.ln;omega) hr (fun AC x AE k acc h hx ha=>by
  have hl:=hd.ln;have hp:AC.length<d.AP.length:=by rw [h];simp
  obtain⟨h1,h2,h3,h4⟩:=hx;have hi:idx d.AP (AC.length:Int)=some x:=by rw [h,bS]
  simp only [gO,eL,a0I]at ha;rw [oO,a1H (by omega),hi];simp only [bsm];rw [fK hf h1 (by omega)];simp only [bsm];rw [fK hf h2 (by simp only [a0I];omega)];simp only [bsm];rw [fK hf (eY h3) (by simp only [a0I];omega)];simp only [bsm];rw [rp5 hf hi ⟨h3,h4⟩ (by simp only [a0I];omega)];simp only [bsm];rw [aN (by omega)];simp [gO,eL]) (fun k acc=>by rw [oO,a1G (by omega)])
theorem rp1 {AA:Nat} (hf:2000000<=AA) {c:AB} (hl:c.AD.length<=1000000) (hd:∀ d∈c.AD,pkD d) {acc:Bs} (hr:acc.length+(c.AD.flatMap fT).length<=900000000):mV AA c AA acc 0=some (acc++c.AD.flatMap fT):=
 rW (L:=mV AA c) hd (by omega) hr (fun AC d AE k acc h hx ha=>by
  have hp:AC.length<c.AD.length:=by rw [h];simp
  have hn:=hx.ln;simp only [fT,eL,a0I]at ha;rw [mV,a1H (by omega),h,bS];simp only [bsm];rw [fK hf (eY hn.1) (by omega)];simp only [bsm];rw [rp2 hf hx (by simp only [a0I];omega)];simp only [bsm];rw [fK hf (eY hn.2.1) (by simp only [a0I];omega)];simp only [bsm];rw [rp3 hf hx (by simp only [a0I];omega)];simp only [bsm];rw [fK hf (eY hn.2.2) (by simp only [a0I];omega)];simp only [bsm];rw [rp4 hf hx (by simp only [a0I];omega)];simp only [bsm];rw [aN (by omega)];simp [fT,eL]) (fun k acc=>by rw [mV,a1G (by omega)])
theorem rp6 {AA:Nat} (hf:2000000<=AA) {c:AB} (hl:c.Code.length<=1000000) (hd:∀ d∈c.Code,pkI d) {acc:Bs} (hr:acc.length+(c.Code.flatMap dT).length<=900000000):mZ AA c AA acc 0=some (acc++c.Code.flatMap dT):=
 rW (L:=mZ AA c) hd (by omega) hr (fun AC i AE k acc h hx ha=>by
  have hp:AC.length<c.Code.length:=by rw [h];simp
  have hop:=hx.op;simp only [dT,a0I]at ha;rw [mZ,a1H (by omega),h,bS];simp only [bsm];rw [fK hf (by unfold fitN;omega) (by omega)];simp only [bsm];have e1:(if i.Op=1 then(xA i.A).bind fun y29=>some y29 else some i.A)=some (fX i):=by
   unfold fX;by_cases c1:i.Op=1
   ·have hi:=hx.int c1;rw [a1H c1,a1H c1,xA];by_cases c2:i.A<0
    ·rw [a1H c2,a1H c2,aN (by omega)];simp only [bsm];rw [aN (by omega)];rfl
    ·rw [a1G c2,a1G c2,aN (by omega)];rfl
   ·rw [a1G c1,a1G c1]
  have e2:fitN (fX i):=by
   unfold fX fitN;have:=hx.a;unfold fitN at this
   split
   ·have:=hx.int (by assumption);split <;> omega
   ·exact this
  have hb:=hx.b;rw [e1];simp only [bsm];rw [zD,a1H hop,zF];simp only [bsm];have hm:dN i.Op=0\/dN i.Op=1\/dN i.Op=2:=by unfold dN;split <;> (try omega);split <;> omega
  rcases hm with hm | hm | hm <;> rw [hm]at ha ⊢
  ·rw [a1G (by omega)];simp only [bsm];rw [a1G (by omega)];simp only [bsm];rw [aN (by omega)];simp [dT,hm]
  ·rw [a1H (by omega),fK hf e2 (by simp only [a0I];omega)];simp only [bsm];rw [a1G (by omega)];simp only [bsm];rw [aN (by omega)];simp [dT,hm]
  ·simp only [show(1:Nat)<2 from by decide,show(0:Nat)<2 from by decide,if_true]at ha
   rw [a1H (by omega),fK hf e2 (by simp only [a0I];omega)];simp only [bsm];rw [a1H (by omega),fK hf hb (by simp only [a0I];omega)];simp only [bsm];rw [aN (by omega)];simp [dT,hm]) (fun k acc=>by rw [mZ,a1G (by omega)])
theorem aD8 {AA:Nat} (hf:2000000<=AA) {c:AB} (h1:c.AD.length<=1000000) (h2:c.Code.length<=1000000) (h3:∀ d∈c.AD,pkD d) (h4:∀ i∈c.Code,pkI i) (h5:fitN c.AH/\fitN c.AG) (hr:(ePr c).length<=800000000):oV AA c=some (ePr c):=by
 simp only [ePr,eL,a0I]at hr
 rw [oV,fK hf h5.1 (by simp)]
 simp only [bsm]
 rw [fK hf h5.2 (by simp only [a0Z];omega)]
 simp only [bsm]
 rw [fK hf (eY h1) (by simp only [a0Z,a0I];omega)]
 simp only [bsm]
 rw [rp1 hf h1 h3 (by simp only [a0Z,a0I];omega)]
 simp only [bsm]
 rw [fK hf (eY h2) (by simp only [a0Z,a0I];omega)]
 simp only [bsm]
 rw [rp6 hf h2 h4 (by simp only [a0Z,a0I];omega)]
 simp [ePr,eL]
open Go.SX Go.SW Go.Dt
def Sat (b l:Bs) (r:bH):Prop:=r.bad=false/\r.b=b/\∃ n:Nat,r.at_=n/\n<=b.length/\b.drop n=l
def Out {α:Type} (b:Bs) (o:Option (α × Bs)) (r:bH) (x:α):Prop:=match o with
 | some (y,l)=>x=y/\Sat b l r
 | none=>r.bad=true
theorem Sat.isB {b l:Bs} {r:bH} (hb:IsB b) (h:Sat b l r):IsB l/\l.length<=b.length:=by
 obtain⟨_,_,n,_,_,rfl⟩:=h
 exact⟨fun z hz=>hb z (List.mem_of_mem_drop hz),by simp⟩
theorem aDi {x:Int} (h:0<=x/\x<256):IntKind.i64.wrap x=x:=aAp ⟨by omega,by omega⟩
theorem pow7 {i:Nat} (h:i<6):(1:Int)<=128 ^ i/\(128:Int) ^ i<=34359738368:=by
 have:i=0\/i=1\/i=2\/i=3\/i=4\/i=5:=by omega
 rcases this with rfl | rfl | rfl | rfl | rfl | rfl <;> decide
theorem digit {n p c:Int} (hn:0<=n/\n<=p) (hp:1<=p/\p<=34359738368) (hc:0<=c/\c<128):0<=c*p/\n+c*p<=p*128:=by
 have h1:0<=c*p:=Int.mul_nonneg hc.1 (by omega)
 have h2:c*p<=127*p:=Int.mul_le_mul_of_nonneg_right (by omega) (by omega)
 omega
theorem aDQ {b:Bs} {n:Nat} (h:n<b.length):b.drop n=b[n] :: b.drop (n+1):=a0s h
theorem next_l {AA:Nat} {r:bH} {b:Bs} (hb:IsB b) (hl:b.length<=400000) (h1:r.bad=false) (h2:r.b=b):∀ (j i k p:Nat) (n:Int),i+j=6->j<k->p<=b.length->0<=n/\n<=128 ^ i ->
 ∃ r' x,((mO r k n (128 ^ i) (i:Int) (p:Int)).bind fun o=>match o with
  | Sum.inr r=>some r
  | Sum.inl x1=>some ((⟨r.b,x1,true⟩:bH),0))=some (r',x)/\Out b (iF false j (128 ^ i) n (b.drop p)) r' x/\(r'.bad=true->x=0)
 | j,i,0,_,_,_,h,_,_=>by omega
 | 0,i,k+1,p,n,hij,_,_,_=>by
  rw [mO,a1G (by omega)];exact⟨_,_,rfl,rfl,fun _=>rfl⟩
 | j+1,i,k+1,p,n,hij,hk,hp,hn=>by
  have hpw:=pow7 (i:=i) (by omega)
  rw [mO,a1H (by omega),h1,a1C];by_cases c:p<b.length
  ·have hc:=hb b[p] (a0H _);obtain⟨d1,d2⟩:=digit (c:=b[p] % 128) hn hpw (by omega)
   have d3:(128:Int) ^ i*(b[p] % 128)=b[p] % 128*128 ^ i:=Int.mul_comm _ _;have hi:idx b (p:Int)=some b[p]:=dO (a0B c);rw [h2,a1G (by omega),hi];simp only [bsm];rw [aN (by omega)];simp only [bsm];rw [aDi hc,aAN hc.1];simp only [bsm];rw [aN (by omega)];simp only [bsm];rw [aN (by omega)];simp only [bsm];rw [aDQ c,iF];by_cases c1:b[p]<128
   ·rw [a1H c1,a1H c1,a1G (by simp)];simp only [bsm];exact⟨_,_,rfl,⟨by rw [d3],rfl,rfl,p+1,by simp,c,rfl⟩,fun h=>by cases h⟩
   ·rw [a1G c1,a1G c1,aN (by omega)];simp only [bsm];rw [aN (by omega)];simp only [bsm];have:=next_l (AA:=AA) hb hl h1 h2 j (i+1) k (p+1) (n+128 ^ i*(b[p] % 128)) (by omega) (by omega) c (by rw [a0l];omega)
    rw [a0l,d3]at this;rw [d3,h2]at *
    exact this
  ·rw [h2,a1H (by omega)];simp only [bsm];rw [a0t (by omega)];exact⟨_,_,rfl,rfl,fun _=>rfl⟩
theorem aDu {AA:Nat} (hf:2000000<=AA) {b l:Bs} (hb:IsB b) (hl:b.length<=400000) {r:bH} (h:Sat b l r):∃ r' x,dH AA r=some (r',x)/\Out b (rN false l) r' x/\(r'.bad=true->x=0):=by
 obtain⟨h1,h2,n,h3,h4,rfl⟩:=h
 rw [dH,h3]
 exact next_l (AA:=AA) hb hl h1 h2 6 0 AA n 0 rfl (by omega) h4 (by decide)
theorem aEY {AA:Nat} (hf:2000000<=AA) {r:bH} (h:r.bad=true):∃ r' x,dH AA r=some (r',x)/\r'.bad=true/\x=0:=by
 obtain⟨k,rfl⟩:∃ k,AA=k+1:=⟨AA - 1,by omega⟩
 rw [dH,mO,a1H (by decide),h,a1D]
 exact⟨_,_,rfl,rfl,rfl⟩
section
variable {AA:Nat} {b:Bs}
theorem Out.next (hf:2000000<=AA) (hb:IsB b) (hl:b.length<=400000) {γ:Type} {F:Option (γ × Bs)} {r:bH} {x:γ} (h:Out b F r x):∃ r' n,dH AA r=some (r',n)/\Out b (F.bind fun t=>(rN false t.2).map fun u=>((t.1,u.1),u.2)) r' (x,n)/\(r'.bad=true->n=0)/\okN n:=by
 rcases F with _ | ⟨y,l⟩
 ·obtain⟨r',n,e,o,z⟩:=aEY hf h;exact⟨r',n,e,o,fun _=>z,z ▸ okN0⟩
 ·obtain⟨rfl,h2⟩:=h;obtain⟨r',n,e,o,z⟩:=aDu hf hb hl h2;refine⟨r',n,e,?_⟩;simp only [Option.bind_some];rcases hN:rN false l with _ | ⟨m,l'⟩
  ·rw [hN]at o;exact⟨o,z,z o ▸ okN0⟩
  ·rw [hN]at o;exact⟨⟨by rw [o.1],o.2⟩,z,by rw [o.1];exact(cQ.inv false l m l' (h2.isB hb).1 hN).1⟩
theorem Out.map {γ α:Type} {F:Option (γ × Bs)} {r:bH} {x:γ} (h:Out b F r x) (g:γ->α) {G:Option (α × Bs)} (e:G=F.map fun t=>(g t.1,t.2)):Out b G r (g x):=by
 subst e
 rcases F with _ | ⟨y,l⟩
 ·exact h
 ·exact⟨by rw [h.1],h.2⟩
theorem Out.of {l:Bs} {r:bH} (h:Sat b l r):Out b (some ((),l)) r ():=⟨rfl,h⟩
theorem Out.sat {γ:Type} {F:Option (γ × Bs)} {r:bH} {x:γ} (h:Out b F r x) (hr:r.bad=false):∃ l,F=some (x,l)/\Sat b l r:=by
 rcases F with _ | ⟨y,l⟩
 ·exact absurd (show r.bad=true from h) (by rw [hr];decide)
 ·exact⟨l,by rw [h.1],h.2⟩
abbrev LT (α:Type):=Option (List Int × Int × Bool × List α)
theorem list_l {α:Type} {f:Bool->Bs->Option (α × Bs)} {e:α->Bs} {ok:α->Prop} (hc:Cd f e ok) (hb:IsB b) {L:Nat->Int->bH->List α->LT α} {n:Int}
 (h0:∀ k i r acc,n<=i\/r.bad=true->L (k+1) i r acc=some (r.b,r.at_,r.bad,acc))
 (h1:∀ k i r acc l,i<n->Sat b l r->0<=i/\i<=1000000->acc.length<=1000000->∃ r' x,L (k+1) i r acc=L k (i+1) r' (acc++[x])/\Out b (f false l) r' x):
 ∀ (k:Nat) (i:Int) (r:bH) (acc:List α) (l:Bs),IsB l->Sat b l r->l.length+1<k->0<=i->i+l.length<=1000000->acc.length+l.length<=1000000 ->
  ∃ r' ys,L k i r acc=some (r'.b,r'.at_,r'.bad,ys)/\Out b ((cU (f false) (n - i).toNat l).map fun t=>(acc++t.1,t.2)) r' ys
 | 0,_,_,_,_,_,_,h,_,_,_=>by omega
 | k+1,i,r,acc,l,hIl,hS,hk,hi,hi2,ha=>by
  by_cases c:n<=i
  ·refine⟨r,acc,h0 k i r acc (.inl c),?_⟩;rw [show(n - i).toNat=0 by omega];exact⟨by simp,hS⟩
  ·obtain⟨r',x,e1,o⟩:=h1 k i r acc l (by omega) hS ⟨hi,by omega⟩ (by omega)
   rw [e1,show(n - i).toNat=(n - (i+1)).toNat+1 by omega,cU];rcases hfl:f false l with _ | ⟨y,l'⟩
   ·rw [hfl]at o;obtain⟨k,rfl⟩:∃ k',k=k'+1:=⟨k - 1,by omega⟩
    exact⟨r',_,h0 k _ r' _ (.inr o),o⟩
   ·rw [hfl]at o;obtain⟨rfl,hS'⟩:=o;obtain⟨_,_,q3,q4,_⟩:=hc.inv false l x l' hIl hfl;obtain⟨r2,ys,e2,o2⟩:=list_l hc hb h0 h1 k (i+1) r' (acc++[x]) l' q3 hS' (by omega) (by omega) (by omega) (by simp;omega)
    refine⟨r2,ys,e2,?_⟩;simp only [Option.bind_some];rcases hr:cU (f false) (n - (i+1)).toNat l' with _ | ⟨xs,l2⟩
    ·rw [hr]at o2;exact o2
    ·rw [hr]at o2;exact⟨by rw [o2.1];simp,o2.2⟩
theorem Out.list (hf:2000000<=AA) (hb:IsB b) (hl:b.length<=400000) {α:Type} {f:Bool->Bs->Option (α × Bs)} {e:α->Bs} {ok:α->Prop} (hc:Cd f e ok) {L:bH × Int->Nat->Int->bH->List α->LT α}
 (h0:∀ y k i r acc,y.2<=i\/r.bad=true->L y (k+1) i r acc=some (r.b,r.at_,r.bad,acc))
 (h1:∀ y k i r acc l,i<y.2->IsB l->Sat b l r->0<=i/\i<=1000000->acc.length<=1000000->∃ r' x,L y (k+1) i r acc=L y k (i+1) r' (acc++[x])/\Out b (f false l) r' x)
 {γ:Type} {F:Option (γ × Bs)} {r:bH} {x:γ} (h:Out b F r x):
 ∃ y r' xs,dH AA r=some y/\L y AA 0 y.1 []=some (r'.b,r'.at_,r'.bad,xs)/\Out b (F.bind fun t=>(dA f false t.2).map fun u=>((t.1,u.1),u.2)) r' (x,xs):=by
 obtain⟨k,rfl⟩:∃ k,AA=k+1:=⟨AA - 1,by omega⟩
 rcases F with _ | ⟨y,l⟩
 ·obtain⟨r1,n,e1,o1,_⟩:=aEY hf h;exact⟨(r1,n),r1,[],e1,h0 _ _ _ _ _ (.inr o1),o1⟩
 ·obtain⟨rfl,h2⟩:=h;obtain⟨hI,hl2⟩:=h2.isB hb;obtain⟨r1,n,e1,o1,_⟩:=aDu hf hb hl h2;simp only [Option.bind_some];rcases hN:rN false l with _ | ⟨m,l'⟩
  ·rw [hN]at o1;refine⟨(r1,n),r1,[],e1,h0 _ _ _ _ _ (.inr o1),?_⟩;rw [dA,hN];exact o1
  ·rw [hN]at o1;obtain⟨rfl,hS⟩:=o1;obtain⟨_,_,q3,q4,_⟩:=cQ.inv false l n l' hI hN;obtain⟨r2,ys,e2,o2⟩:=list_l (n:=n) hc hb (L:=L (r1,n)) (fun k i r acc hh=>h0 (r1,n) k i r acc hh) (fun k i r acc l3 hlt hS3 hi ha=>h1 (r1,n) k i r acc l3 hlt (hS3.isB hb).1 hS3 hi ha) (k+1) 0 r1 [] l' q3 hS (by omega) (by omega) (by omega) (by simp;omega)
   refine⟨(r1,n),r2,ys,e1,e2,?_⟩;rw [dA,hN];simp only [Option.bind_some];rw [show(n - 0).toNat=n.toNat by simp]at o2
   rcases hr:cU (f false) n.toNat l' with _ | ⟨xs,l2⟩
   ·rw [hr]at o2;exact o2
   ·rw [hr]at o2;exact⟨by rw [o2.1];simp,o2.2⟩
end
open Go.SX Go.SW Go.Dt
theorem bno {α:Type} {c:Bool} {x y:α} (h:c=false):(bif c then x else y)=y:=by rw [h];rfl
section
variable {AA:Nat} {b:Bs}
theorem d2_eq (hf:2000000<=AA) (hb:IsB b) (hl:b.length<=400000) {γ:Type} {F:Option (γ × Bs)} {r:bH} {x:γ} (h:Out b F r x):
 ∃ y r' xs,dH AA r=some y/\lQ AA y AA 0 y.1.b y.1.at_ y.1.bad []=some (r'.b,r'.at_,r'.bad,xs)/\Out b (F.bind fun t=>(dA rChan false t.2).map fun u=>((t.1,u.1),u.2)) r' (x,xs):=
 Out.list hf hb hl aAv (L:=fun y k i r acc=>lQ AA y k i r.b r.at_ r.bad acc) (fun y k i r acc hh=>by
  by_cases c:i<y.2
  ·have hh:r.bad=true:=hh.resolve_left (by omega)
   rw [lQ,a1H c,hh,a1D]
  ·rw [lQ,a1G c]) (fun y k i r acc l hlt hI hS hi ha=>by
  obtain⟨r1,x1,e1,o1,_⟩:=Out.next hf hb hl (Out.of hS);obtain⟨r2,x2,e2,o2,_⟩:=Out.next hf hb hl o1;refine⟨r2,⟨x1,x2⟩,?_,o2.map (fun t=>(⟨t.1.2,t.2⟩:Ad)) ?_⟩
  ·rw [lQ,a1H hlt,bno hS.1];refine b1 e1 (b1 e2 ?_);rw [dS (by simp;omega),bsm,aN (by omega),bsm]
  ·unfold rChan fB eI;cases h1:rN false l with
   | none=>simp [h1]
   | some p=>cases h2:rN false p.2 <;> simp [h1,h2]) h
theorem d3_eq (hf:2000000<=AA) (hb:IsB b) (hl:b.length<=400000) {γ:Type} {F:Option (γ × Bs)} {r:bH} {x:γ} (h:Out b F r x):
 ∃ y r' xs,dH AA r=some y/\mD AA y AA 0 y.1.b y.1.at_ y.1.bad []=some (r'.b,r'.at_,r'.bad,xs)/\Out b (F.bind fun t=>(dA rSpot false t.2).map fun u=>((t.1,u.1),u.2)) r' (x,xs):=
 Out.list hf hb hl aAY (L:=fun y k i r acc=>mD AA y k i r.b r.at_ r.bad acc) (fun y k i r acc hh=>by
  by_cases c:i<y.2
  ·have hh:r.bad=true:=hh.resolve_left (by omega)
   rw [mD,a1H c,hh,a1D]
  ·rw [mD,a1G c]) (fun y k i r acc l hlt hI hS hi ha=>by
  obtain⟨r1,x1,e1,o1,_⟩:=Out.next hf hb hl (Out.of hS);obtain⟨r2,x2,e2,o2,_⟩:=Out.next hf hb hl o1;refine⟨r2,⟨x1,x2⟩,?_,o2.map (fun t=>(⟨t.1.2,t.2⟩:Ab)) ?_⟩
  ·rw [mD,a1H hlt,bno hS.1];refine b1 e1 (b1 e2 ?_);rw [dS (by simp;omega),bsm,aN (by omega),bsm]
  ·unfold rSpot fB eI;cases h1:rN false l with
   | none=>simp [h1]
   | some p=>cases h2:rN false p.2 <;> simp [h1,h2]) h
theorem d5_eq (hf:2000000<=AA) (hb:IsB b) (hl:b.length<=400000) {γ:Type} {F:Option (γ × Bs)} {r:bH} {x:γ} (h:Out b F r x):
 ∃ y r' xs,dH AA r=some y/\mH AA y AA 0 y.1.b y.1.at_ y.1.bad []=some (r'.b,r'.at_,r'.bad,xs)/\Out b (F.bind fun t=>(dA rN false t.2).map fun u=>((t.1,u.1),u.2)) r' (x,xs):=
 Out.list hf hb hl cQ (L:=fun y k i r acc=>mH AA y k i r.b r.at_ r.bad acc) (fun y k i r acc hh=>by
  by_cases c:i<y.2
  ·have hh:r.bad=true:=hh.resolve_left (by omega)
   rw [mH,a1H c,hh,a1D]
  ·rw [mH,a1G c]) (fun y k i r acc l hlt hI hS hi ha=>by
  obtain⟨r1,x1,e1,o1,_⟩:=Out.next hf hb hl (Out.of hS);refine⟨r1,x1,?_,o1.map (fun t=>t.2) ?_⟩
  ·rw [mH,a1H hlt,bno hS.1];refine b1 e1 ?_;rw [dS (by simp;omega),bsm,aN (by omega),bsm]
  ·cases h1:rN false l <;> simp [h1]) h
theorem d4_eq (hf:2000000<=AA) (hb:IsB b) (hl:b.length<=400000) {γ:Type} {F:Option (γ × Bs)} {r:bH} {x:γ} (h:Out b F r x):
 ∃ y r' xs,dH AA r=some y/\lE AA y AA 0 y.1.b y.1.at_ y.1.bad []=some (r'.b,r'.at_,r'.bad,xs)/\Out b (F.bind fun t=>(dA rRule false t.2).map fun u=>((t.1,u.1),u.2)) r' (x,xs):=
 Out.list hf hb hl aCn (L:=fun y k i r acc=>lE AA y k i r.b r.at_ r.bad acc) (fun y k i r acc hh=>by
  by_cases c:i<y.2
  ·have hh:r.bad=true:=hh.resolve_left (by omega)
   rw [lE,a1H c,hh,a1D]
  ·rw [lE,a1G c]) (fun y k i r acc l hlt hI hS hi ha=>by
  obtain⟨r1,x1,e1,o1,_⟩:=Out.next hf hb hl (Out.of hS);obtain⟨r2,x2,e2,o2,_⟩:=Out.next hf hb hl o1;obtain⟨y3,r3,xs,e3,e4,o3⟩:=d5_eq hf hb hl o2;refine⟨r3,⟨x1,xs,x2⟩,?_,o3.map (fun t=>(⟨t.1.1.2,t.2,t.1.2⟩:AZ)) ?_⟩
  ·rw [lE,a1H hlt,bno hS.1];refine bb e1 (bb e2 (bb e3 (bb e4 ?_)));dsimp only
   rw [dS (by simp;omega),bsm,bsm];dsimp only
   rw [aN (by omega),bsm]
  ·unfold rRule fB eI;cases h1:rN false l with
   | none=>simp [h1]
   | some p=>
    cases h2:rN false p.2 with
    | none=>simp [h1,h2]
    | some q=>cases h3:dA rN false q.2 <;> simp [h1,h2,h3]) h
theorem d1_eq (hf:2000000<=AA) (hb:IsB b) (hl:b.length<=400000) {γ:Type} {F:Option (γ × Bs)} {r:bH} {x:γ} (h:Out b F r x):
 ∃ y r' xs,dH AA r=some y/\yE AA y.1 y.2=some (r',xs)/\Out b (F.bind fun t=>(dA rDef false t.2).map fun u=>((t.1,u.1),u.2)) r' (x,xs):=by
 obtain⟨y,r',xs,e1,e2,o⟩:=Out.list hf hb hl aAg (L:=fun y k i r acc=>(mL AA y.2 k acc i r.b r.at_ r.bad).map fun t=>(t.2.1,t.2.2.1,t.2.2.2,t.1)) (fun y k i r acc hh=>by
  by_cases c:i<y.2
  ·have hh:r.bad=true:=hh.resolve_left (by omega)
   rw [mL,a1H c,hh,a1D];rfl
  ·rw [mL,a1G c];rfl) (fun y k i r acc l hlt hI hS hi ha=>by
  obtain⟨y1,r1,xs1,e1,e2,o1⟩:=d2_eq hf hb hl (Out.of hS);obtain⟨y2,r2,xs2,e3,e4,o2⟩:=d3_eq hf hb hl o1;obtain⟨y3,r3,xs3,e5,e6,o3⟩:=d4_eq hf hb hl o2;refine⟨r3,⟨xs1,xs2,xs3⟩,?_,o3.map (fun t=>(⟨t.1.1.2,t.1.2,t.2⟩:AO)) ?_⟩
  ·refine congrArg (Option.map _) ?_;rw [mL,a1H hlt,bno hS.1];refine bb e1 (bb e2 (bb e3 (bb e4 (bb e5 (bb e6 ?_)))));dsimp only
   rw [dS (by simp;omega),bsm,bsm];dsimp only
   rw [aN (by omega),bsm]
  ·unfold rDef fB eI;cases h1:dA rChan false l with
   | none=>simp [h1]
   | some p=>
    cases h2:dA rSpot false p.2 with
    | none=>simp [h1,h2]
    | some q=>cases h3:dA rRule false q.2 <;> simp [h1,h2,h3]) h
 obtain⟨⟨t1,t2,t3,t4⟩,e3,e4⟩:=a1v.1 e2
 cases e4
 refine⟨y,r',t1,e1,?_,o⟩
 rw [yE]
 exact b1 e3 rfl
theorem rK {o a:Int} (h:okN a):(if o=1 then(jB .i64 a 2).bind fun z1=>if z1=1 then(chk (a+1)).bind fun z2=>(chk (0 - z2)).bind fun z3=>(hJ .i64 z3 2).bind fun z4=>some z4 else (hJ .i64 a 2).bind fun z5=>some z5 else some a)=some (unf o a):=by
 obtain⟨h0,h1⟩:=h
 have e0:jB .i64 a 2=some (a % 2):=by unfold jB;rw [a1G (by decide),Int.tmod_eq_emod_of_nonneg h0]
 unfold unf
 by_cases c:o=1
 ·rw [a1H c,a1H c,e0,bsm];by_cases c2:a % 2=1
  ·rw [a1H c2,a1H c2,aN (by omega),bsm,aN (by omega),bsm];unfold hJ;rw [a1G (by decide),show(0:Int) - (a+1)=-(a+1) by omega,Int.neg_tdiv,a0m (by omega),aAp (by omega)];rfl
  ·rw [a1G c2,a1G c2];unfold hJ;rw [a1G (by decide),a0m h0,aAp (by omega)];rfl
 ·rw [a1G c,a1G c]
theorem aDb (o:Int):dN o=0\/dN o=1\/dN o=2:=by unfold dN;split <;> (try omega);split <;> omega
theorem ri_eq (hf:2000000<=AA) (hb:IsB b) (hl:b.length<=400000) {γ:Type} {F:Option (γ × Bs)} {r:bH} {x:γ} (h:Out b F r x):
 ∃ y r' xs,dH AA r=some y/\mA AA y AA 0 y.1.b y.1.at_ y.1.bad []=some (r'.b,r'.at_,r'.bad,xs)/\Out b (F.bind fun t=>(dA fY false t.2).map fun u=>((t.1,u.1),u.2)) r' (x,xs):=
 Out.list hf hb hl aBI (L:=fun y k i r acc=>mA AA y k i r.b r.at_ r.bad acc) (fun y k i r acc hh=>by
  by_cases c:i<y.2
  ·have hh:r.bad=true:=hh.resolve_left (by omega)
   rw [mA,a1H c,hh,a1D]
  ·rw [mA,a1G c]) (fun y k i r acc l hlt hI hS hi ha=>by
  obtain⟨r1,op,e1,o1,z1,n1⟩:=Out.next hf hb hl (Out.of hS);rw [mA,a1H hlt,bno hS.1];by_cases hop:1<=op/\op<=16
  ·have hr1:r1.bad=false:=by
    cases hq:r1.bad with
    | false=>rfl
    | true=>have:=z1 hq;omega
   have hm0:kU op=some (dN op:Int):=by rw [zD,a1H hop,zF]
   obtain⟨l1,f1,s1⟩:=o1.sat hr1;simp only [Option.bind_some,a1v,Prod.mk.injEq]at f1;obtain⟨⟨m,l1'⟩,f1,⟨-,f2⟩,f3⟩:=f1;dsimp only at f2 f3
   subst f2 f3;rcases aDb m with hm | hm | hm
   ·refine⟨r1,⟨m,unf m 0,0⟩,b1 e1 (b1 hm0 ?_),?_⟩
    ·rw [hm,a1G (by omega),bsm,a1G (by omega),bsm];dsimp only
     rw [a1G (by omega),bsm];dsimp only
     rw [rK okN0,bsm,dS (by simp;omega),bsm,aN (by omega),bsm]
    ·rw [fY,f1];simp only [Option.bind_some];rw [a1H hop,a1G (by omega)];refine⟨?_,s1⟩;have:m≠1:=fun q=>by rw [q]at hm;exact absurd hm (by decide)
     unfold unf;rw [a1G this]
   ·obtain⟨r2,a,e2,o2,z2,n2⟩:=Out.next hf hb hl (Out.of s1);refine⟨r2,⟨m,unf m a,0⟩,b1 e1 (b1 hm0 ?_),?_⟩
    ·rw [hm,a1G (by omega),bsm,a1H (by omega)];refine bb e2 ?_;rw [bsm];dsimp only
     rw [a1G (by omega),bsm];dsimp only
     rw [rK n2,bsm,dS (by simp;omega),bsm,aN (by omega),bsm]
    ·refine o2.map (fun t=>(⟨m,unf m t.2,0⟩:AL)) ?_
     rw [fY,f1];simp only [Option.bind_some];rw [a1H hop,a1H (by omega)];cases h2:rN false l1' with
     | none=>simp [h2]
     | some p=>simp [h2,hm]
   ·obtain⟨r2,a,e2,o2,z2,n2⟩:=Out.next hf hb hl (Out.of s1);obtain⟨r3,c,e3,o3,z3,n3⟩:=Out.next hf hb hl o2;refine⟨r3,⟨m,unf m a,c⟩,b1 e1 (b1 hm0 ?_),?_⟩
    ·rw [hm,a1G (by omega),bsm,a1H (by omega)];refine bb e2 ?_;rw [bsm];dsimp only
     rw [a1H (by omega)];refine bb e3 ?_;rw [bsm];dsimp only
     rw [rK n2,bsm,dS (by simp;omega),bsm,aN (by omega),bsm]
    ·refine o3.map (fun t=>(⟨m,unf m t.1.2,t.2⟩:AL)) ?_
     rw [fY,f1];simp only [Option.bind_some];rw [a1H hop,a1H (by omega)];cases h2:rN false l1' with
     | none=>simp [h2]
     | some p=>cases h3:rN false p.2 <;> simp [h2,h3,hm]
  ·have hm0:kU op=some (-1):=by rw [zD,a1G hop]
   refine⟨⟨r1.b,r1.at_,true⟩,⟨op,unf op 0,0⟩,b1 e1 (b1 hm0 ?_),?_⟩
   ·rw [a1H (by decide),bsm,a1G (by decide),bsm];dsimp only
    rw [a1G (by decide),bsm];dsimp only
    rw [rK okN0,bsm,dS (by simp;omega),bsm,aN (by omega),bsm]
   ·have:fY false l=none:=by
     rw [fY];cases h1:rN false l with
     | none=>rfl
     | some p=>
      rw [show Option.bind (some ((),l)) (fun t=>(rN false t.2).map fun u=>((t.1,u.1),u.2))=(rN false l).map fun u=>(((),u.1),u.2)from rfl,h1]at o1;have:op=p.1:=by have:=o1.1;cases this;rfl
      simp only [Option.bind_some];rw [a1G (by rw [<- this];exact hop)]
    rw [this];exact rfl) h
end
open Go.SX Go.SW Go.Dt
def Sh:Value:= .iface 93 (.agg ([]:List Value).toArray)
theorem uC:unW 93 Sh=some ():=rfl
def pan {α:Type} (o:Option (α × Bs)):(Bs × α) ⊕ Value:=match o with
 | some (x,r)=> .inl (r,x)
 | none=> .inr Sh
theorem slc_drop {α:Type} {l:List α} {n:Nat} (h:n<=l.length):slc l (n:Int) (l.length:Int)=some (l.drop n):=by
 unfold slc;rw [a1H (by omega)];simp
theorem num_l {b:Bs} (hb:IsB b) (hl:b.length<=400000):∀ (j i k:Nat) (n:Int),i+j=6->j<k->0<=n/\n<=128 ^ i->(i<=b.length) ->
 ((rH b k n (128 ^ i) (i:Int)).bind fun o=>match o with
   | Sum.inr r=>some r
   | Sum.inl _=>some (Sum.inr Sh))=some (pan (iF true j (128 ^ i) n (b.drop i)))
 | j,i,0,_,_,h,_,_=>by omega
 | 0,i,k+1,n,hij,_,_,_=>by
  rw [rH,a1G (by omega)];rfl
 | j+1,i,k+1,n,hij,hk,hn,hp=>by
  have hpw:=pow7 (i:=i) (by omega)
  rw [rH,a1H (by omega)];by_cases c:i<b.length
  ·have hc:=hb b[i] (a0H _);obtain⟨d1,d2⟩:=digit (c:=b[i] % 128) hn hpw (by omega)
   have hi:idx b (i:Int)=some b[i]:=dO (a0B c);rw [a1H (by omega),hi];simp only [bsm];rw [aDi hc,aAN hc.1];simp only [bsm];rw [aN (by omega)];simp only [bsm];rw [aN (by omega)];simp only [bsm];rw [aN (by omega)];simp only [bsm];rw [aDQ c,iF];by_cases c1:b[i]<128
   ·rw [a1H c1,a1H c1];have hs:slc b ((i:Int)+1) (b.length:Int)=some (b.drop (i+1)):=slc_drop (n:=i+1) c;by_cases c2:0<(i:Int)
    ·have h1:(128:Int) ^ i≠1:=by
      have:i=(i - 1)+1:=by omega
      rw [this,a0l];have:(1:Int)<=128 ^ (i - 1):=Int.pow_pos (by decide)
      omega
     rw [a1H c2];by_cases c3:b[i]=0
     ·rw [a1H c3,a1H ⟨rfl,h1,c3⟩];rfl
     ·rw [a1G c3,a1G (fun h=>c3 h.2.2)];simp only [bsm];rw [aN (by omega)];simp only [bsm];rw [hs];rfl
    ·have h0:i=0:=by omega
     rw [a1G c2,a1G (fun h=>h.2.1 (by rw [h0];rfl))];simp only [bsm];rw [aN (by omega)];simp only [bsm];rw [hs];rfl
   ·rw [a1G c1,a1G c1,aN (by omega)];simp only [bsm];have:=num_l hb hl j (i+1) k (n+b[i] % 128*128 ^ i) (by omega) (by omega) (by rw [a0l];omega) c
    rw [a0l]at this;exact this
  ·rw [a1G (by omega)];simp only [bsm];rw [a0t (by omega)];rfl
theorem fC {AA:Nat} (hf:2000000<=AA) {l:Bs} (hb:IsB l) (hl:l.length<=400000):eO AA l=some (pan (rN true l)):=by
 rw [eO]
 exact num_l hb hl 6 0 AA 0 rfl (by omega) (by decide) (a1r _)
theorem pQ {α R:Type} {f:Bool->Bs->Option (α × Bs)} {e:α->Bs} {ok:α->Prop} (hc:Cd f e ok) {L:Nat->Int->Bs->List α->Option R} {good:Bs->List α->R} {fail:R}
 (h0:∀ k n l acc,n<=0->L (k+1) n l acc=some (good l acc))
 (h1:∀ k n l acc,0<n->n<=4398046511104->IsB l->l.length<=400000->acc.length<=1000000->L (k+1) n l acc=match f true l with | none=>some fail | some (x,r)=>L k (n - 1) r (acc++[x])):
 ∀ (k:Nat) (n:Int) (l:Bs) (acc:List α),l.length<k->n<=4398046511104->IsB l->l.length<=400000->acc.length+l.length<=1000000->L k n l acc=some (match cU (f true) n.toNat l with | some (xs,r)=>good r (acc++xs) | none=>fail)
 | 0,_,_,_,h,_,_,_,_=>by omega
 | k+1,n,l,acc,hk,hn,hI,hl,ha=>by
  by_cases c:n<=0
  ·rw [h0 k n l acc c,show n.toNat=0 by omega,cU];simp
  ·rw [h1 k n l acc (by omega) hn hI hl (by omega),show n.toNat=(n - 1).toNat+1 by omega,cU];cases hf:f true l with
   | none=>rfl
   | some p=>
    obtain⟨x,r⟩:=p;obtain⟨_,_,q3,q4,_⟩:=hc.inv true l x r hI hf;dsimp only
    rw [pQ hc h0 h1 k (n - 1) r (acc++[x]) (by omega) (by omega) q3 (by omega) (by simp;omega)];simp only [Option.bind_some];cases cU (f true) (n - 1).toNat r with
    | none=>rfl
    | some q=>simp
theorem tR {α:Type} {f:Bool->Bs->Option (α × Bs)} {l r:Bs} {n:Int} (h:rN true l=some (n,r)):dA f true l=cU (f true) n.toNat r:=by rw [dA,h];rfl
section
variable {AA:Nat}
theorem p1_eq (hf:2000000<=AA) {n:Int} {l:Bs} (hn:n<=4398046511104) (hI:IsB l) (hl:l.length<=400000):oH AA AA n l []=some (match cU (rChan true) n.toNat l with | some (xs,r)=> .inl (r,xs) | none=> .inr (.inr Sh)):=by
 rw [pQ aAv (L:=oH AA) (good:=fun r xs=>Sum.inl (r,xs)) (fail:=Sum.inr (Sum.inr Sh)) (fun k n l acc c=>by rw [oH,a1G (by omega)]) (fun k n l acc c1 c2 hI hl ha=>?_) AA n l [] (by omega) hn hI hl (by simp;omega)]
 ·cases cU (rChan true) n.toNat l <;> rfl
 ·rw [oH,a1H c1,fC hf hI hl];simp only [bsm];rw [rChan,fB,eI];cases h1:rN true l with
  | none=>rfl
  | some p=>
   obtain⟨x,r⟩:=p;obtain⟨_,_,q3,q4,_⟩:=cQ.inv true l x r hI h1;simp only [pan,Option.bind_some];rw [fC hf q3 (by omega)];simp only [bsm];cases h2:rN true r with
   | none=>rfl
   | some q=>
    simp only [pan,a1w];rw [dS (by simp;omega),bsm,aN (by omega),bsm]
theorem p2_eq (hf:2000000<=AA) {n:Int} {l:Bs} (hn:n<=4398046511104) (hI:IsB l) (hl:l.length<=400000):mW AA AA n l []=some (match cU (rSpot true) n.toNat l with | some (xs,r)=> .inl (r,xs) | none=> .inr (.inr Sh)):=by
 rw [pQ aAY (L:=mW AA) (good:=fun r xs=>Sum.inl (r,xs)) (fail:=Sum.inr (Sum.inr Sh)) (fun k n l acc c=>by rw [mW,a1G (by omega)]) (fun k n l acc c1 c2 hI hl ha=>?_) AA n l [] (by omega) hn hI hl (by simp;omega)]
 ·cases cU (rSpot true) n.toNat l <;> rfl
 ·rw [mW,a1H c1,fC hf hI hl];simp only [bsm];rw [rSpot,fB,eI];cases h1:rN true l with
  | none=>rfl
  | some p=>
   obtain⟨x,r⟩:=p;obtain⟨_,_,q3,q4,_⟩:=cQ.inv true l x r hI h1;simp only [pan,Option.bind_some];rw [fC hf q3 (by omega)];simp only [bsm];cases h2:rN true r with
   | none=>rfl
   | some q=>
    simp only [pan,a1w];rw [dS (by simp;omega),bsm,aN (by omega),bsm]
theorem p4_eq (hf:2000000<=AA) {n:Int} {l:Bs} (hn:n<=4398046511104) (hI:IsB l) (hl:l.length<=400000):nF AA AA n l []=some (match cU (rN true) n.toNat l with | some (xs,r)=> .inl (r,xs) | none=> .inr (.inr (.inr (.inr Sh)))):=by
 rw [pQ cQ (L:=nF AA) (good:=fun r xs=>Sum.inl (r,xs)) (fail:=Sum.inr (Sum.inr (Sum.inr (Sum.inr Sh)))) (fun k n l acc c=>by rw [nF,a1G (by omega)]) (fun k n l acc c1 c2 hI hl ha=>?_) AA n l [] (by omega) hn hI hl (by simp;omega)]
 ·cases cU (rN true) n.toNat l <;> rfl
 ·rw [nF,a1H c1,fC hf hI hl];simp only [bsm];cases h1:rN true l with
  | none=>rfl
  | some p=>
   obtain⟨x,r⟩:=p;simp only [pan];rw [dS (by simp;omega),bsm,aN (by omega),bsm]
theorem p3_eq (hf:2000000<=AA) {n:Int} {l:Bs} (hn:n<=4398046511104) (hI:IsB l) (hl:l.length<=400000):oB AA AA n l []=some (match cU (rRule true) n.toNat l with | some (xs,r)=> .inl (r,xs) | none=> .inr (.inr Sh)):=by
 rw [pQ aCn (L:=oB AA) (good:=fun r xs=>Sum.inl (r,xs)) (fail:=Sum.inr (Sum.inr Sh)) (fun k n l acc c=>by rw [oB,a1G (by omega)]) (fun k n l acc c1 c2 hI hl ha=>?_) AA n l [] (by omega) hn hI hl (by simp;omega)]
 ·cases cU (rRule true) n.toNat l <;> rfl
 ·rw [oB,a1H c1,fC hf hI hl];simp only [bsm];simp only [rRule,fB,eI];cases h1:rN true l with
  | none=>rfl
  | some p=>
   obtain⟨x,r⟩:=p;obtain⟨_,_,q3,q4,_⟩:=cQ.inv true l x r hI h1;simp only [pan,Option.bind_some];rw [fC hf q3 (by omega)];simp only [bsm];cases h2:rN true r with
   | none=>rfl
   | some p2=>
    obtain⟨x2,r2⟩:=p2;obtain⟨_,_,q5,q6,_⟩:=cQ.inv true r x2 r2 q3 h2;simp only [pan,Option.bind_some];rw [fC hf q5 (by omega)];simp only [bsm];cases h3:rN true r2 with
    | none=>rw [dA,h3];rfl
    | some p3=>
     obtain⟨x3,r3⟩:=p3;obtain⟨q9,_,q7,q8,_⟩:=cQ.inv true r2 x3 r3 q5 h3;simp only [pan];rw [tR h3,p4_eq hf (by have:=q9.2;omega) q7 (by omega)];cases h4:cU (rN true) x3.toNat r3 with
     | none=>rfl
     | some p4=>
      obtain⟨x4,r4⟩:=p4;simp only [bsm,a1w];rw [dS (by simp;omega),bsm,bsm];dsimp only
      rw [aN (by omega),bsm]
theorem pdef_eq (hf:2000000<=AA) {l:Bs} (hI:IsB l) (hl:l.length<=400000):xV AA l=some (pan (rDef true l)):=by
 rw [xV,fC hf hI hl]
 simp only [bsm]
 simp only [rDef,fB,eI]
 cases h1:rN true l with
 | none=>rw [dA,h1];rfl
 | some p1=>
  obtain⟨n1,l1⟩:=p1;obtain⟨a1,_,a2,a3,_⟩:=cQ.inv true l n1 l1 hI h1;simp only [pan];rw [tR h1,p1_eq hf (by have:=a1.2;omega) a2 (by omega)];cases h2:cU (rChan true) n1.toNat l1 with
  | none=>rfl
  | some p2=>
   obtain⟨xs1,l2⟩:=p2;obtain⟨_,_,_,b1,b2,_⟩:=aAv.rep_inv true _ l1 xs1 l2 a2 h2;simp only [bsm,Option.bind_some];rw [fC hf b1 (by omega)];simp only [bsm];cases h3:rN true l2 with
   | none=>rw [dA,h3];rfl
   | some p3=>
    obtain⟨n2,l3⟩:=p3;obtain⟨c1,_,c2,c3,_⟩:=cQ.inv true l2 n2 l3 b1 h3;simp only [pan];rw [tR h3,p2_eq hf (by have:=c1.2;omega) c2 (by omega)];cases h4:cU (rSpot true) n2.toNat l3 with
    | none=>rfl
    | some p4=>
     obtain⟨xs2,l4⟩:=p4;obtain⟨_,_,_,d1,d2,_⟩:=aAY.rep_inv true _ l3 xs2 l4 c2 h4;simp only [bsm,Option.bind_some];rw [fC hf d1 (by omega)];simp only [bsm];cases h5:rN true l4 with
     | none=>rw [dA,h5];rfl
     | some p5=>
      obtain⟨n3,l5⟩:=p5;obtain⟨e1,_,e2,e3,_⟩:=cQ.inv true l4 n3 l5 d1 h5;simp only [pan];rw [tR h5,p3_eq hf (by have:=e1.2;omega) e2 (by omega)];cases h6:cU (rRule true) n3.toNat l5 with
      | none=>rfl
      | some p6=>rfl
theorem pins_eq (hf:2000000<=AA) {l:Bs} (hI:IsB l) (hl:l.length<=400000):uT AA l=some (pan (fY true l)):=by
 rw [uT,fC hf hI hl]
 simp only [bsm]
 rw [fY]
 cases h1:rN true l with
 | none=>rfl
 | some p1=>
  obtain⟨o,l1⟩:=p1;obtain⟨a1,_,a2,a3,_⟩:=cQ.inv true l o l1 hI h1;simp only [pan,Option.bind_some];rw [aC5];simp only [bsm];by_cases hop:1<=o/\o<=16
  ·obtain⟨y,k1,k2,_⟩:=aCb hop;have hk:pD=some ():=rfl;rw [a1F hop,a1D,a1H hop,hk];simp only [bsm];rw [k1];simp only [bsm];rw [k2,zF];rcases aDb o with hm | hm | hm
   ·rw [hm,a1G (show ¬ (0:Int)<((0:Nat):Int) by decide),a1G (show ¬ 0<0 by decide)];simp only [bsm];rw [a1G (show ¬ (1:Int)<((0:Nat):Int) by decide)];simp only [bsm];rw [rK okN0];have:o≠1:=fun q=>by rw [q]at hm;exact absurd hm (by decide)
    simp only [bsm];unfold unf;rw [a1G this]
   ·rw [hm,a1H (show(0:Int)<((1:Nat):Int) by decide),a1H (show 0<1 by decide),fC hf a2 (by omega)];simp only [bsm];cases h2:rN true l1 with
    | none=>rfl
    | some p2=>
     obtain⟨a,l2⟩:=p2;obtain⟨b1,_⟩:=cQ.inv true l1 a l2 a2 h2;simp only [pan,Option.bind_some,bsm];rw [a1G (show ¬ (1:Int)<((1:Nat):Int) by decide),a1G (show ¬ 1<1 by decide)];simp only [bsm];rw [rK b1];simp only [bsm]
   ·rw [hm,a1H (show(0:Int)<((2:Nat):Int) by decide),a1H (show 0<2 by decide),fC hf a2 (by omega)];simp only [bsm];cases h2:rN true l1 with
    | none=>rfl
    | some p2=>
     obtain⟨a,l2⟩:=p2;obtain⟨b1,_,b2,b3,_⟩:=cQ.inv true l1 a l2 a2 h2;simp only [pan,Option.bind_some,bsm];rw [a1H (show(1:Int)<((2:Nat):Int) by decide),a1H (show 1<2 by decide),fC hf b2 (by omega)];simp only [bsm];cases h3:rN true l2 with
     | none=>rfl
     | some p3=>
      simp only [pan,a1w,bsm];rw [rK b1];simp only [bsm]
  ·rw [a1E hop,a1C,a1G hop];rfl
theorem q1_eq (hf:2000000<=AA) {n:Int} {l:Bs} (hn:n<=4398046511104) (hI:IsB l) (hl:l.length<=400000):nT AA AA n l []=some (match cU (rDef true) n.toNat l with | some (xs,r)=> .inl (r,xs) | none=> .inr (⟨0,[],[],0⟩,4)):=by
 rw [pQ aAg (L:=nT AA) (good:=fun r xs=>Sum.inl (r,xs)) (fail:=Sum.inr (⟨0,[],[],0⟩,4)) (fun k n l acc c=>by rw [nT,a1G (by omega)]) (fun k n l acc c1 c2 hI hl ha=>?_) AA n l [] (by omega) hn hI hl (by simp;omega)]
 ·cases cU (rDef true) n.toNat l <;> rfl
 ·rw [nT,a1H c1,pdef_eq hf hI hl];simp only [bsm];cases h1:rDef true l with
  | none=>simp only [pan,uC,bsm]
  | some p=>
   simp only [pan];rw [dS (by simp;omega),bsm,aN (by omega),bsm]
theorem q2_eq (hf:2000000<=AA) {n:Int} {l:Bs} (hn:n<=4398046511104) (hI:IsB l) (hl:l.length<=400000):nN AA AA n l []=some (match cU (fY true) n.toNat l with | some (xs,r)=> .inl (r,xs) | none=> .inr (⟨0,[],[],0⟩,4)):=by
 rw [pQ aBI (L:=nN AA) (good:=fun r xs=>Sum.inl (r,xs)) (fail:=Sum.inr (⟨0,[],[],0⟩,4)) (fun k n l acc c=>by rw [nN,a1G (by omega)]) (fun k n l acc c1 c2 hI hl ha=>?_) AA n l [] (by omega) hn hI hl (by simp;omega)]
 ·cases cU (fY true) n.toNat l <;> rfl
 ·rw [nN,a1H c1,pins_eq hf hI hl];simp only [bsm];cases h1:fY true l with
  | none=>simp only [pan,uC,bsm]
  | some p=>
   simp only [pan];rw [dS (by simp;omega),bsm,aN (by omega),bsm]
theorem pread_eq (hf:2000000<=AA) {l:Bs} (hI:IsB l) (hl:l.length<=400000):mJ AA l=(match rProg true l with
 | none=>some (⟨0,[],[],0⟩,4)
 | some (c,r)=>(sM AA c (decide ((r.length:Int)=0))).bind fun y=>some (⟨y.1.AH,y.1.AD,y.1.Code,y.1.AG⟩,y.2)):=by
 rw [mJ,a1G (by omega),fC hf hI hl]
 simp only [bsm]
 simp only [rProg,fB,eI]
 cases h1:rN true l with
 | none=>simp only [pan,uC,bsm];rfl
 | some p1=>
  obtain⟨fr,l1⟩:=p1;obtain⟨_,_,a2,a3,_⟩:=cQ.inv true l fr l1 hI h1;simp only [pan,Option.bind_some];rw [fC hf a2 (by omega)];simp only [bsm];cases h2:rN true l1 with
  | none=>simp only [pan,uC,bsm];rfl
  | some p2=>
   obtain⟨ma,l2⟩:=p2;obtain⟨_,_,b2,b3,_⟩:=cQ.inv true l1 ma l2 a2 h2;simp only [pan,Option.bind_some];rw [fC hf b2 (by omega)];simp only [bsm];cases h3:rN true l2 with
   | none=>rw [dA,h3];simp only [pan,uC,bsm];rfl
   | some p3=>
    obtain⟨n1,l3⟩:=p3;obtain⟨c1,_,c2,c3,_⟩:=cQ.inv true l2 n1 l3 b2 h3;simp only [pan];rw [tR h3,q1_eq hf (by have:=c1.2;omega) c2 (by omega)];cases h4:cU (rDef true) n1.toNat l3 with
    | none=>rfl
    | some p4=>
     obtain⟨ds,l4⟩:=p4;obtain⟨_,_,_,d1,d2,_⟩:=aAg.rep_inv true _ l3 ds l4 c2 h4;simp only [bsm,Option.bind_some];rw [fC hf d1 (by omega)];simp only [bsm];cases h5:rN true l4 with
     | none=>rw [dA,h5];simp only [pan,uC,bsm];rfl
     | some p5=>
      obtain⟨n2,l5⟩:=p5;obtain⟨e1,_,e2,e3,_⟩:=cQ.inv true l4 n2 l5 d1 h5;simp only [pan];rw [tR h5,q2_eq hf (by have:=e1.2;omega) e2 (by omega)];cases h6:cU (fY true) n2.toNat l5 with
      | none=>rfl
      | some p6=>rfl
end
open Go.SX Go.SW
theorem aHd {W:World} {a:Addr} {c:Value} (h:W.cell? a=some c):(iJ W).cell a=some c:=by
 unfold World.cell? at h
 unfold Mem.cell sD iJ
 omega
theorem aEh {H:Type} {d:DataW H} {l:List (DataW H)} (h:d∈l):Rows.uptoBulk d<=Rows.uptoBulkAll l:=by
 induction l with
 | nil=>cases h
 | cons x r ih=>
  grind [Rows.uptoBulkAll]
theorem bulk_one {H:Type} (d:DataW H):1<=Rows.uptoBulk d:=by
 cases d with
 | lit l=>cases l <;> simp [Rows.uptoBulk]
 | _=>simp [Rows.uptoBulk]
section
variable {H:Type} {enc:TypeId × Value->H} {P:Program} {W:World}
def Rd (enc:TypeId × Value->H) (P:Program) (W:World) (n:Nat) {α:Type} (T:Ty α) (t:TypeId) (μ:α->Nat) (S:α->Prop):Prop:=
 ∀ cs x,DataW.trod enc P W 0 (fun _=>true) true n t cs=some x->Rows.uptoBulk x.1<=1048576->∃ a,aU (T.AY a) (iJ W) cs/\μ a<=Rows.uptoBulk x.1/\S a
def RdF (enc:TypeId × Value->H) (P:Program) (W:World) (n:Nat) (fs:List Field) (o e:Nat) {β:Type} (L:β->List AF) (μ:β->Nat) (S:β->Prop):Prop:=
 ∀ (cs:List Value) xs,cs.length=e->(fs.mapM fun f=>DataW.trod enc P W 0 (fun _=>true) true n f.type ((cs.drop f.offset).take (P.cellsOf f.type)))=some xs->Rows.uptoBulkAll (xs.map (·.1))<=1048576->∃ b,aU (L b) (iJ W) (cs.drop o)/\μ b<=Rows.uptoBulkAll (xs.map (·.1))/\S b
theorem qX {α:Type} {T:Ty α} {t:TypeId} {μ:α->Nat} {S:α->Prop}:Rd enc P W 0 T t μ S:=fun cs x h=>by cases h
theorem uD {n e:Nat}:RdF enc P W n [] e e (β:=Unit) (fun _=>[]) (fun _=>0) (fun _=>True):=fun cs xs hl h hb=>⟨(),by grind [aU],a1r _,trivial⟩
theorem aDs {α β:Type} {f:α->Option β} {x:α} {l:List α} {ys:List β} (h:(x :: l).mapM f=some ys):∃ y r,f x=some y/\l.mapM f=some r/\ys=y :: r:=by
 rw [List.mapM_cons]at h
 cases hx:f x with
 | none=>rw [hx]at h;cases h
 | some y=>
  cases hl:l.mapM f with
  | none=>grind
  | some r=>grind
theorem gF {n o e:Nat} {f:Field} {fs:List Field} {α β:Type} {T:Ty α} {μ:α->Nat} {S:α->Prop} {L:β->List AF} {ν:β->Nat} {R:β->Prop} (h:Rd enc P W n T f.type μ S) (ho:f.offset=o) (hz:P.cellsOf f.type=T.sz) (k:RdF enc P W n fs (o+T.sz) e L ν R):
 RdF enc P W n (f :: fs) o e (fun x:α × β=>T.AY x.1++L x.2) (fun x=>μ x.1+ν x.2) (fun x=>S x.1/\R x.2):=fun cs xs hl hm hb=>by
 obtain⟨y,r,h1,h2,rfl⟩:=aDs hm
 simp only [a0O,Rows.uptoBulkAll]at hb
 obtain⟨a,a1,a2,a3⟩:=h _ _ h1 (by omega)
 obtain⟨b,b1,b2,b3⟩:=k cs r hl h2 (by omega)
 refine⟨(a,b),?_,by grind [Rows.uptoBulkAll],a3,b3⟩
 have:=a1.append b1
 rw [ho,hz,<- List.drop_drop,a1f]at this
 exact this
theorem tP {n e:Nat} {α β:Type} {T:Ty α} {t:TypeId} {fs:Array Field} {μ:α->Nat} {S:α->Prop} {L:β->List AF} {ν:β->Nat} {R:β->Prop} (mk:β->α) (ht:P.underlying t=some (.struct fs)) (hc:P.cellsOf t=e) (k:RdF enc P W n fs.toList 0 e L ν R)
 (hL:∀ b,T.AY (mk b)=L b) (hμ:∀ b,μ (mk b)<=ν b+1) (hS:∀ b,R b->ν b+1<=1048576->S (mk b)):Rd enc P W (n+1) T t μ S:=fun cs x h hb=>by
 rw [DataW.trod_step]at h
 unfold DataW.trodStep at h
 rw [ht]at h
 dsimp only at h
 split at h
 ·rename_i hcs;cases hm:(fs.toList.mapM fun f=>DataW.trod enc P W 0 (fun _=>true) true n f.type ((cs.drop f.offset).take (P.cellsOf f.type)))with
  | none=>rw [hm]at h;cases h
  | some xs=>
   rw [hm]at h;cases h;simp only [Rows.uptoBulk]at hb;obtain⟨b,b1,b2,b3⟩:=k cs xs (by omega) hm (by omega)
   grind [Rows.uptoBulk]
 ·cases h
theorem aBd {n:Nat} {t:TypeId} {k:IntKind} (ht:P.underlying t=some (.int k)):Rd enc P W n (aJ k) t (fun _=>1) (fun i=>(Lit.int k i).wf=true):=fun cs x h hb=>by
 obtain _ | n:=n
 ·cases h
 rw [DataW.trod_step]at h
 unfold DataW.trodStep at h
 rw [ht]at h
 match cs,h with
 | [.int k' i],h=>
  dsimp only at h
  split at h
  ·rename_i hc;obtain⟨rfl,hw⟩:=hc;cases h;exact⟨i,⟨_,[],rfl,rfl,rfl⟩,a1l _,hw⟩
  ·cases h
def msum {α:Type} (μ:α->Nat):List α->Nat
 | []=>0
 | a :: l=>μ a+msum μ l
theorem aDM {α:Type} {f:Nat->Option α} {n:Nat} {l:List α} (h:(List.range n).mapM f=some l):l.length=n/\∀ i,i<n->∃ y,l[i]? =some y/\f i=some y:=by
 have g:∀ (ks:List Nat) (l:List α),ks.mapM f=some l->l.length=ks.length/\∀ (i k:Nat),ks[i]? =some k->∃ y,l[i]? =some y/\f k=some y:=fun ks=>by
  induction ks with
  | nil=>grind
  | cons k ks ih=>
   intro l h;obtain⟨y,r,h1,h2,rfl⟩:=aDs h
   grind
 obtain⟨a,b⟩:=g _ _ h
 exact⟨by simpa using a,fun i hi=>b i i (by simp [hi])⟩
theorem aGI {W:World} {b z:Nat} {a:Addr} {cs:List Value} (h:W.cells? b a z=some cs):∀ (j:Nat) c,cs[j]? =some c->W.cell? (a.add j)=some c:=by
 unfold World.cells? at h
 grind [aDM]
theorem aEa {α γ:Type} {Q:γ->α->Prop}:∀ (l:List γ),(∀ c∈l,∃ a,Q c a)->∃ r:List α,r.length=l.length/\∀ (i:Nat) c,l[i]? =some c->∃ a,r[i]? =some a/\Q c a
 | [],_=>⟨[],rfl,fun i c h=>by simp at h⟩
 | c :: l,h=>by
  obtain⟨a,ha⟩:=h c (.head _);obtain⟨r,h1,h2⟩:=aEa l (fun c hc=>h c (.tail _ hc))
  refine⟨a :: r,by simp [h1],fun i q hq=>?_⟩
  cases i with
  | zero=>simp at hq;subst hq;exact⟨a,rfl,ha⟩
  | succ i=>exact h2 i q (by simpa using hq)
theorem aC4 {α:Type} {μ:α->Nat}:∀ {r:List α} {ds:List (DataW H)},r.length=ds.length->(∀ (i:Nat) d a,ds[i]? =some d->r[i]? =some a->μ a<=Rows.uptoBulk d)->msum μ r<=Rows.uptoBulkAll ds/\r.length<=Rows.uptoBulkAll ds
 | [],[],_,_=>⟨a1r _,a1r _⟩
 | a :: r,d :: ds,hl,h=>by
  obtain⟨h1,h2⟩:=aC4 (r:=r) (ds:=ds) (by simpa using hl) (fun i d a hd ha=>h (i+1) d a (by simpa using hd) (by simpa using ha))
  have:=h 0 d a rfl rfl;have:=bulk_one d;simp only [msum,Rows.uptoBulkAll,a0J];omega
theorem rd_sl {n:Nat} {t e:TypeId} {α:Type} {T:Ty α} {μ:α->Nat} {S:α->Prop} (ht:P.underlying t=some (.slice e)) (hz:P.cellsOf e=T.sz) (h:Rd enc P W n T e μ S):Rd enc P W (n+1) (tSl T) t (fun l=>msum μ l+1) (fun l=>l.length<=1048576/\∀ a∈l,S a):=fun cs x hx hb=>by
 rw [DataW.trod_step]at hx
 unfold DataW.trodStep at hx
 rw [ht]at hx
 match cs,hx with
 | [.slice none 0 0],hx=>
  cases hx;exact⟨[],⟨_,[],rfl,cF (iJ W) _ rfl,rfl⟩,a1l _,by simp,fun a ha=>by cases ha⟩
 | [.slice (some p) len cap],hx=>
  dsimp only at hx
  split at hx
  ·rename_i hc;cases h1:((List.range len).mapM fun i=>(W.cells? 0 (p.add (i*P.cellsOf e)) (P.cellsOf e)).bind (DataW.trod enc P W 0 (fun _=>true) true n e))with
   | none=>rw [h1]at hx;cases hx
   | some es=>
    rw [h1]at hx;obtain⟨rest,_,rfl⟩:=a1v.1 hx;obtain⟨l1,l2⟩:=aDM h1;simp only [Rows.uptoBulk]at hb;have each:∀ y∈es,∃ a,(μ a<=Rows.uptoBulk y.1/\S a)/\∀ i cs',W.cells? 0 (p.add (i*P.cellsOf e)) (P.cellsOf e)=some cs'->DataW.trod enc P W 0 (fun _=>true) true n e cs'=some y->True:=fun y hy=>by
     obtain⟨i,hi,rfl⟩:=a0T.1 hy;obtain⟨y,y1,y2⟩:=l2 i (by omega)
     obtain⟨cs',c1,c2⟩:=a1s.1 y2;have e1:es[i]=y:=by rw [a0B hi]at y1;exact a1y y1
     have m1:Rows.uptoBulk y.1<=Rows.uptoBulkAll (es.map (·.1)):=aEh (a0W (by rw [<- e1];exact a0H _))
     obtain⟨a,a1,a2,a3⟩:=h _ _ c2 (by omega)
     exact⟨a,⟨by rw [e1];exact a2,a3⟩,fun _ _ _ _=>trivial⟩
    have each2:∀ i∈List.range len,∃ a,(∃ y,es[i]? =some y/\μ a<=Rows.uptoBulk y.1)/\S a/\T.at (iJ W) (p.add (i*T.sz)) a:=fun i hi=>by
     obtain⟨y,y1,y2⟩:=l2 i (by simpa using hi)
     obtain⟨cs',c1,c2⟩:=a1s.1 y2;have m1:Rows.uptoBulk y.1<=Rows.uptoBulkAll (es.map (·.1)):=aEh (a0W (a0X y1));obtain⟨a,a1,a2,a3⟩:=h _ _ c2 (by omega)
     exact⟨a,⟨y,y1,a2⟩,a3,cs',a1,fun j c hj=>by rw [<- hz];exact aHd (aGI c1 j c hj)⟩
    obtain⟨r,r1,r2⟩:=aEa (List.range len) each2;have rl:r.length=len:=by simpa using r1
    have r3:∀ i,i<len->∃ a,r[i]? =some a/\(∃ y,es[i]? =some y/\μ a<=Rows.uptoBulk y.1)/\S a/\T.at (iJ W) (p.add (i*T.sz)) a:=fun i hi=>r2 i i (by simp [hi])
    obtain⟨m1,m2⟩:=aC4 (μ:=μ) (r:=r) (ds:=es.map (·.1)) (by simp [rl,l1]) (fun i d a hd ha=>by
     obtain⟨a',a1,⟨y,y1,y2⟩,_⟩:=r3 i (by have:=(a0C.1 ha).1;omega)
     rw [ha]at a1;cases a1
     rw [a0D,y1]at hd;cases hd
     exact y2)
    refine⟨r,⟨_,[],rfl,⟨fun i=>p.add (i*T.sz),⟨some p,cap,by rw [rl],by rw [rl];exact hc.2.1,fun i _=>⟨p,rfl,rfl⟩⟩,by omega,fun i a ha=>?_⟩,rfl⟩,by simp only [Rows.uptoBulk];omega,by omega,fun a ha=>?_⟩
    ·obtain⟨a',a1,_,_,a2⟩:=r3 i (by have:=(a0C.1 ha).1;omega)
     rw [ha]at a1;cases a1;exact a2
    ·obtain⟨i,hi,rfl⟩:=a0T.1 ha;obtain⟨a',a1,_,a2,_⟩:=r3 i (by omega)
     rw [a0B hi]at a1;cases a1;exact a2
  ·cases hx
theorem Rd.mono {n:Nat} {α:Type} {T:Ty α} {t:TypeId} {μ ν:α->Nat} {S R:α->Prop} (h:Rd enc P W n T t μ S) (hμ:∀ a,ν a<=μ a) (hS:∀ a,S a->μ a<=1048576->R a):Rd enc P W n T t ν R:=by grind [Rd]
theorem arg_st {α:Type} {T:Ty α} {t:TypeId} {μ:α->Nat} {S:α->Prop} {fs:Array Field} {r:Reach} {b0:Nat} {v:Value} {d:DataW H} {ps:List MemPlace} (h:∀ n,Rd enc P W n T t μ S) (ht:P.underlying t=some (.struct fs)) (hval:Value.okWide P W r b0 t v)
 (hd:DataW.Trod enc P W 0 (fun _=>true) true t v d ps) (hb:Rows.uptoBulk d<=1048576):∃ a,(fSt T a).p (iJ W) v/\S a:=by
 unfold Value.okWide at hval
 rw [ht]at hval
 obtain⟨cs,rfl,_⟩:=hval
 obtain⟨n,hn⟩:=hd
 obtain⟨a,a1,_,a2⟩:=h n _ _ hn hb
 exact⟨a,⟨cs.toList,by simp,a1⟩,a2⟩
theorem arg_sl {α:Type} {T:Ty α} {t e:TypeId} {μ:List α->Nat} {S:List α->Prop} {r:Reach} {b0:Nat} {v:Value} {d:DataW H} {ps:List MemPlace} (h:∀ n,Rd enc P W n (tSl T) t μ S) (ht:P.underlying t=some (.slice e)) (hval:Value.okWide P W r b0 t v)
 (hd:DataW.Trod enc P W 0 (fun _=>true) true t v d ps) (hb:Rows.uptoBulk d<=1048576):∃ a,(fSl T a).p (iJ W) v/\S a:=by
 have hc:v.cells=#[v]:=by
  cases v with
  | agg cs=>simp [Value.okWide,ht,Cell.okWide,Cell.ok]at hval
  | _=>rfl
 obtain⟨n,hn⟩:=hd
 rw [hc]at hn
 obtain⟨a,⟨c,l,e1,a1,_⟩,_,a2⟩:=h n _ _ hn hb
 grind
end
open Go.SX Go.SW Go.Dt
section
variable {H:Type} {enc:TypeId × Value->H} {W:World}
abbrev RdP (enc:TypeId × Value->H) (W:World) (n:Nat) {α:Type} (T:Ty α) (t:TypeId) (μ:α->Nat) (S:α->Prop):Prop:=Rd enc Tryz.prog W n T t μ S
theorem jZ (n:Nat) {t:TypeId} (ht:Tryz.prog.underlying t=some (.int .i64)):RdP enc W n (aJ .i64) t (fun _=>1) (fun _=>True):=(aBd ht).mono (fun _=>a1l _) (fun _ _ _=>trivial)
theorem qK {n:Nat} {t e:TypeId} {α:Type} {T:Ty α} {μ:α->Nat} {S:α->Prop} (ht:Tryz.prog.underlying t=some (.slice e)) (hz:Tryz.prog.cellsOf e=T.sz) (h:∀ k,RdP enc W k T e μ S):RdP enc W n (tSl T) t (fun l=>msum μ l+1) (fun l=>l.length<=1048576/\∀ a∈l,S a):=by
 cases n with
 | zero=>exact qX
 | succ n=>exact rd_sl ht hz (h n)
theorem rd_ints (n:Nat) {t e:TypeId} (ht:Tryz.prog.underlying t=some (.slice e)) (he:Tryz.prog.underlying e=some (.int .i64)) (hz:Tryz.prog.cellsOf e=1):RdP enc W n (tSl (aJ .i64)) t (fun _=>0) (fun l=>l.length<=1048576):=
 (qK ht hz (fun k=>jZ k he)).mono (fun _=>a1r _) (fun _ h _=>h.1)
theorem aG6:∀ n:Nat,RdP enc W n aS 80 (fun _=>0) (fun _=>True)
 | 0=>qX
 | n+1=>tP (T:=aS) (fun b:Int × Int × Unit=>⟨b.1,b.2.1⟩) Tryz.underlying80 (e:=2) (by kernel_rfl)
  (gF (jZ n Tryz.underlying3) rfl (by kernel_rfl) (gF (jZ n Tryz.underlying3) rfl (by kernel_rfl) uD))
  (fun _=>rfl) (fun _=>a1r _) (fun _ _ _=>trivial)
theorem aGR:∀ n:Nat,RdP enc W n aV 82 (fun _=>0) (fun _=>True)
 | 0=>qX
 | n+1=>tP (T:=aV) (fun b:Int × Int × Unit=>⟨b.1,b.2.1⟩) Tryz.underlying82 (e:=2) (by kernel_rfl)
  (gF (jZ n Tryz.underlying3) rfl (by kernel_rfl) (gF (jZ n Tryz.underlying3) rfl (by kernel_rfl) uD))
  (fun _=>rfl) (fun _=>a1r _) (fun _ _ _=>trivial)
theorem aHa:∀ n:Nat,RdP enc W n aY 84 (fun _=>0) (fun x=>x.AX.length<=2000000)
 | 0=>qX
 | n+1=>tP (T:=aY) (fun b:Int × List Int × Int × Unit=>⟨b.1,b.2.1,b.2.2.1⟩) Tryz.underlying84 (e:=3) (by kernel_rfl)
  (gF (jZ n Tryz.underlying3) rfl (by kernel_rfl) (gF (rd_ints n Tryz.underlying50 Tryz.underlying3 (by kernel_rfl)) rfl (by kernel_rfl) (gF (jZ n Tryz.underlying3) rfl (by kernel_rfl) uD)))
  (fun _=>rfl) (fun _=>a1r _) (fun b h _=>by have:=h.2.1;show b.2.1.length<=_;omega)
theorem aG1:∀ n:Nat,RdP enc W n aE 78 (fun _=>0) (smD)
 | 0=>qX
 | n+1=>tP (T:=aE) (fun b:List Ad × List Ab × List AZ × Unit=>⟨b.1,b.2.1,b.2.2.1⟩) Tryz.underlying78 (e:=3) (by kernel_rfl)
  (gF (qK Tryz.underlying74 (by kernel_rfl) aG6) rfl (by kernel_rfl) (gF (qK Tryz.underlying75 (by kernel_rfl) aGR) rfl (by kernel_rfl) (gF (qK Tryz.underlying76 (by kernel_rfl) aHa) rfl (by kernel_rfl) uD)))
  (fun _=>rfl) (fun _=>a1r _) (fun b h _=>⟨by have:=h.1.1;show b.1.length<=_;omega,by have:=h.2.1.1;show b.2.1.length<=_;omega,by have:=h.2.2.1.1;show b.2.2.1.length<=_;omega,h.2.2.1.2⟩)
theorem rd_fit (n:Nat) {t:TypeId} (ht:Tryz.prog.underlying t=some (.int .i64)):RdP enc W n (aJ .i64) t (fun _=>1) fitN:=(aBd ht).mono (fun _=>a1l _) (fun i h _=>by simp [Lit.wf,IntKind.min,IntKind.max,IntKind.signed,IntKind.bits]at h;unfold fitN;omega)
theorem aHL:∀ n:Nat,RdP enc W n aF 54 (fun _=>0) (fun i=>fitN i.A)
 | 0=>qX
 | n+1=>tP (T:=aF) (fun b:Int × Int × Int × Unit=>⟨b.1,b.2.1,b.2.2.1⟩) Tryz.underlying54 (e:=3) (by kernel_rfl)
  (gF (jZ n Tryz.underlying52) rfl (by kernel_rfl) (gF (rd_fit n Tryz.underlying3) rfl (by kernel_rfl) (gF (jZ n Tryz.underlying3) rfl (by kernel_rfl) uD)))
  (fun _=>rfl) (fun _=>a1r _) (fun _ h _=>h.2.1)
theorem aIj:∀ n:Nat,RdP enc W n dX 25 (fun _=>0) (fun c=>c.Code.length<=2000000/\c.AD.length<=2000000/\(∀ d∈c.AD,smD d)/\∀ i∈c.Code,fitN i.A)
 | 0=>qX
 | n+1=>tP (T:=dX) (fun b:Int × List AO × List AL × Int × Unit=>⟨b.1,b.2.1,b.2.2.1,b.2.2.2.1⟩) Tryz.underlying25 (e:=4) (by kernel_rfl)
  (gF (jZ n Tryz.underlying3) rfl (by kernel_rfl) (gF (qK Tryz.underlying22 (by kernel_rfl) aG1) rfl (by kernel_rfl) (gF (qK Tryz.underlying23 (by kernel_rfl) aHL) rfl (by kernel_rfl) (gF (jZ n Tryz.underlying3) rfl (by kernel_rfl) uD))))
  (fun _=>rfl) (fun _=>a1r _) (fun b h _=>⟨by have:=h.2.2.1.1;show b.2.2.1.length<=_;omega,by have:=h.2.1.1;show b.2.1.length<=_;omega,h.2.1.2,h.2.2.1.2⟩)
theorem rd_bytes (n:Nat) {t e:TypeId} (ht:Tryz.prog.underlying t=some (.slice e)) (he:Tryz.prog.underlying e=some (.int .u8)) (hz:Tryz.prog.cellsOf e=1):RdP enc W n (tSl (aJ .u8)) t (fun _=>0) (fun l=>IsB l):=
 (qK (S:=fun x=>0<=x/\x<256) ht hz (fun k=>(aBd he).mono (fun _=>a1l _) (fun i h _=>by simp [Lit.wf,IntKind.min,IntKind.max,IntKind.signed,IntKind.bits]at h;omega))).mono (fun _=>a1r _) (fun _ h _=>h.2)
end
end Go.Proofs.YtpbeacokfapklaaGreatDoor
