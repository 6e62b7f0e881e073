/- Parts of the proof: lemmas, and the steps through the program. -/
import Derived.Test.YtgidgoahhepmlaaGreatFl0
import Derived.RangeFuncLeaves
import Derived.RangeFuncRecord
import Derived.RecoverIn
import Derived.Scope
import GoSem.ClaimChange
import Derived.Laws.StructEq
import Derived.Test.YtgidgoahhepmlaaGreatRows
set_option linter.unusedVariables false
set_option linter.unusedSimpArgs false
set_option maxRecDepth 100000
set_option maxHeartbeats 2000000
namespace Go.SW
open Go.SX
def YdX (P:Program) (l:Nat) (vs:List Value) (m:Mem) (L:Ag) (post:Mem->Ag->Prop):Prop:=
 ∀ w,St ⟨w,m,L.map Prod.fst⟩ m L w->∃ r:Loop,w.heap[l]? =some (.loop r)/\vs.toArray.size=r.params.size /\
  RoundIn (fw none) 0 P l r.fn (vJ r vs.toArray) r.assign r.body w fun e w'=>
   e= .returned (.bool true)/\∃ m' L',St ⟨w,m,L.map Prod.fst⟩ m' L' w'/\post m' L'
def iX (P:Program) {α σ:Type} (ρ:α->List AJ) (Y:α->σ->Option σ) (J:σ->Tk):AJ:=
 ⟨fun m v=>∃ l,v=lG l/\∀ m',Mem.le m m'->∀ x t t' vs H,Y x t=some t'->aT (ρ x) m' vs->(J t).p m' H->YdX P l vs m' H (fun m'' H'=>(J t').p m'' H'),
  fun h ⟨l,h1,h2⟩=>⟨l,h1,fun m' hle=>h2 m' (Mem.le_trans h hle)⟩⟩
section
variable {P:Program} {β:bC} {n:Nat} {ds:List Deferred} {Γ:Ctx} {Δ R:List Tk} {r:Option Nat} {Q Q':Exit->Act->World->Prop} {F:Act->World->Prop} {ops:Array Oper} {o:Oper} {rest:List Oper}
theorem aIv {α σ:Type} {ρ:α->List AJ} {Y:α->σ->Option σ} {J:σ->Tk}:eE (iX P ρ Y J):=fun _ _ ⟨_,h,_⟩=>by rw [h];trivial
theorem T_callY {α σ:Type} {ρ:α->List AJ} {Y:α->σ->Option σ} {J:σ->Tk} {g:Operand} {args:List Operand} {ts:Array TypeId} {d:Nat} (x:α) {s s':σ} (hw:cA ops Γ o) (ho:o.op= .call { callee:= .value g,args:=args.toArray,argTypes:=ts }) (hd:o.dst=some d)
 (hn:Nat.ble (d+1) n=true) (hg:Has Γ g (iX P ρ Y J)) (hargs:aK Γ args (ρ x)) (hY:Y x s=some s')
 (k:T β n ds ((d,aR true) :: Γ) (J s' :: Δ) (wpListIn (fw r) 0 P ops Q rest)):T β n ds Γ (J s :: Δ) (wpListIn (fw r) 0 P ops Q (o :: rest)):=fun m L a w hF hL hS=>by
 obtain⟨H,R,rfl,hJ,hR⟩:=hL
 obtain⟨l,hge,hy⟩:=hF.has hg
 simp only [wpListIn,hw.wanted hF,if_true]
 refine⟨fun _ _=>a2e,?_⟩
 have hnd:gO o.op=false:=by rw [ho];rfl
 have h3:o.semAt (fw r).round a.eval=execOp a.eval o:=Oper.semAt_eq _ _ _ fun c hc=>by rw [hc]at hnd;cases hnd
 obtain⟨rec,hr,hsz,hround⟩:=hy m (Mem.le_refl _) x s s' (args.map a.eval) H hY (hargs.all hF) hJ w hS.start
 have hrun:(execOp a.eval o).run P w= .ok (.round l rec.fn (vJ rec (args.map a.eval).toArray) rec.assign rec.body) w:=by
  have h3:=run_yield (P:=P) hr hsz;have h4:args.toArray.map a.eval=(args.map a.eval).toArray:=by simp
  simp [execOp,ho,resolve,hge,lG,Deferred.ofValue,invoke,a1W,Sem.run,pure,vJ];simpa using h3
 rw [h3,hrun,Oper.uponIn_round]
 refine⟨(fun h=>by cases h),?_⟩
 have hround':RoundIn (fw r) 0 P l rec.fn (vJ rec (args.map a.eval).toArray) rec.assign rec.body w _:=hround
 refine hround'.mono fun e w' ⟨he,m',L',hS',hp⟩=>?_
 subst he
 show wpListIn (fw r) 0 P ops Q rest (a.put o.dst (.bool true)) w'
 rw [hd]
 exact k m' _ _ _ ((hF.mono hS'.mle).put (a1F hn) rfl) ⟨L',R,rfl,hp,hR.mono hS'.mle⟩ (back hS hS')
def aBq:List Nat->List AJ->Ctx->Ctx
 | p :: ps,φ :: φs,Γ=>aBq ps φs ((p,φ) :: Γ)
 | _,_,Γ=>Γ
theorem aHc {m:Mem}:∀ {ps:List Nat} {φs:List AJ} {vs:List Value} {t:Array Value} {Γ:Ctx},(∀ p∈ps,p<t.size)->ps.length=φs.length->aT φs m vs->(∀ s φ,lk Γ s=some φ->∃ v,t[s]? =some v/\φ.p m v) ->
 ∀ s φ,lk (aBq ps φs Γ) s=some φ->∃ v,((ps.zip vs).foldl (fun tmps (x:Nat × Value)=>tmps.setIfInBounds x.1 x.2) t)[s]? =some v/\φ.p m v
 | [],[],_,t,Γ,_,_,hv,hg=>fun s φ h=>by
  have:(_:List Value)=[]:=hv;subst this;exact hg s φ h
 | p :: ps,ψ :: φs,_,t,Γ,hp,hl,⟨v,vs,e,h1,h2⟩,hg=>fun s φ h=>by
  subst e;simp only [List.zip_cons_cons,List.foldl_cons];refine aHc (t:=t.setIfInBounds p v) (fun q hq=>by simp;exact hp q (.tail _ hq)) (by simpa using hl) h2 (fun u χ hu=>?_) s φ h
  rcases sD hu with⟨rfl,rfl⟩ | ⟨hne,hu⟩
  ·exact⟨v,by simp [hp p (.head _)],h1⟩
  ·obtain⟨z,h3,h4⟩:=hg u χ hu;exact⟨z,by rw [a0f hne];exact h3,h4⟩
def aAH (β:bC) (l:Nat) (rec:Loop) (Δ':List Tk) (e:Ending) (w:World):Prop:=
 e= .returned (.bool true)/\∃ m' L',St β m' ((l, .loop rec) :: L') w/\bK Δ' m' L'
def BodyT (P:Program) (l:Nat) (β:bC) (rec:Loop) (Δ':List Tk) (body:Code) (a:Act) (w:World):Prop:=
 ∃ w₂,(Instr.beginRound l).run P w= .ok () w₂/\body.wpIn (fw (some l)) 0 P (roundPost P l (aAH β l rec Δ')) a w₂
def tObj (l:Nat) (o:Obj):Tk:=⟨fun _ H=>H=[(l,o)],fun _ h=>h⟩
def pT (rb:Nat):Tk:=tObj rb (.deferred (some []))
theorem T_begin {l:Nat} {rec:Loop} {Δ':List Tk} {body:Code} (hs:rec.state= .ready)
 (k:T β n ds Γ (tObj l (busy rec) :: Δ) (body.wpIn (fw (some l)) 0 P (roundPost P l (aAH β l rec Δ')))):T β n ds Γ (tObj l (.loop rec) :: Δ) (BodyT P l β rec Δ' body):=fun m L a w hF hL hS=>by
 obtain⟨H,R,rfl,h1,hR⟩:=hL
 have h1:H=[(l, .loop rec)]:=h1
 subst h1
 exact⟨_,run_beginRound (hS.own _ (.head _)) hs,k m ((l,busy rec) :: R) _ _ hF ⟨_,R,rfl,rfl,hR⟩ (hS.putObj (k:=0) rfl)⟩
theorem aKq {l:Nat} {rec:Loop} {Δ':List Tk} (hs:rec.state= .ready) (hp:rec.pending=none) (hd:Δ=Δ'):
 T β n ds Γ (tObj l (busy rec) :: Δ) (roundPost P l (aAH β l rec Δ') .normal):=fun m L a w hF hL hS=>by
 subst hd
 obtain⟨H,R,rfl,h1,hR⟩:=hL
 have h1:H=[(l,busy rec)]:=h1
 subst h1
 have h1:=hS.own (l,busy rec) (.head _)
 simp only [busy]at h1
 refine⟨_,_,run_endRound none h1,⟨rfl,m,R,?_,hR⟩⟩
 have h2:({ ({ rec with state:= .busy }:Loop)with state:=if (none:Option Code).isNone then .ready else .done,pending:=none }:Loop)=rec:=by
  cases rec;simp only at hs hp;subst hs hp;rfl
 rw [h2]
 exact hS.putObj (k:=0) (o':= .loop rec) rfl
theorem aIb {α σ:Type} {g:Operand} {ps:List Nat} {assign body:Code} {f:FuncId} {φs:List AJ} (ρ:α->List AJ) (Y:α->σ->Option σ) (Δf:σ->List Tk) {s s':σ} (hg:Has Γ g (bU f φs)) (hf:Ar P f) (hps:ps.all (fun p=>Nat.ble (p+1) n)=true)
 (hlen:∀ x,ps.length=(ρ x).length) (hΔ:Δ=Δf s++R)
 (hiter:∀ (J:σ->Tk),FnS P f (iX P ρ Y J :: φs) [J s] (cV []) (fun _=>[J s']))
 (hbody:∀ (β':bC) (l:Nat) (rec:Loop) x t t',rec.state= .ready->rec.pending=none->Y x t=some t' ->
  T β' n [] (aBq ps (ρ x) Γ) (tObj l (.loop rec) :: Δf t) (assign.wpIn (fw (some l)) 0 P (Exit.then (BodyT P l β' rec (Δf t') body) (fun _ _ _=>False))))
 (hnext:∀ rb:Nat,T β n (SX.mark rb :: ds) Γ (pT rb :: (Δf s'++R)) (Q .normal)):
 T β n ds Γ Δ ((Code.rangeFunc g ps.toArray assign body).wpIn (fw none) 0 P Q):=fun m L a w hF hL hS=>by
 subst hΔ
 obtain⟨A,B,rfl,hA,hB⟩:=hL.split
 obtain⟨cs,hge,hcs⟩:=hF.has hg
 have hps':∀ p∈ps,p<n:=fun p hp=>a1F (a0t.1 hps p hp)
 refine wpIn_rangeFunc fun fn _=>?_
 let rb:=w.heap.size
 let w₁:=w.alloc (.deferred (some []))
 let rec₀:Loop:={ state:= .ready,pending:=none,fn,tmps:=a.tmps,params:=ps.toArray,assign,body,defers:=rb }
 let l:=w₁.heap.size
 let w₂:=w₁.alloc (.loop rec₀)
 have hS₁:St β m ((rb, .deferred (some [])) :: (A++B)) w₁:=hS.alloc _
 have hS₂:St β m ((l, .loop rec₀) :: (rb, .deferred (some [])) :: (A++B)) w₂:=hS₁.alloc _
 have hl:l=w.heap.size+1:=by show w₁.heap.size=_;simp [w₁]
 refine⟨l,[SX.mark rb],w₂,{ target:= .fn (.func f) cs.toArray,args:=#[lG l] },w₂,f,(lG l :: cs).toArray,w₂,?_,?_,fun _ _=>a2e,?_,(fun h=>by cases h),?_⟩
 ·rw [hl];exact run_enterLoop_outer fn a.tmps ps.toArray assign body
 ·simp only [resolve,rangeCall,hge];simp [Act.eval,Deferred.ofValue,lG,Sem.run,pure]
 ·have h3:=run_callFunc hf ((lG l :: cs).toArray) w₂;simp only [invoke];have:(#[lG l]++cs.toArray)=(lG l :: cs).toArray:=by simp
  rw [this];exact h3
 ·let J:σ->Tk:=fun t=>⟨fun m' H=>∃ L',H=(l, .loop rec₀) :: L'/\bK (Δf t) m' L',fun h ⟨L',e,k⟩=>⟨L',e,k.mono h⟩⟩
  have hperm:((l,Obj.loop rec₀) :: (rb,Obj.deferred (some [])) :: (A++B)).Perm (((l,Obj.loop rec₀) :: A)++((rb,Obj.deferred (some [])) :: B)):=
   .cons _ (a1u (a:=(rb,Obj.deferred (some []))) (l₁:=A) (l₂:=B)).symm
  have hS₃:St β m (((l, .loop rec₀) :: A)++((rb, .deferred (some [])) :: B)) w₂:=hS₂.perm hperm;have hy:(iX P ρ Y J).p m (lG l):=⟨l,rfl,fun m' hle x t t' vs H hx hvs ⟨L',e,hL'⟩=>by
   subst e;intro w₄ hS₄;have hvl:ps.length=vs.length:=by rw [hlen x,hvs.length]
   refine⟨rec₀,hS₄.own _ (.head _),by simp [rec₀,hvl],?_⟩
   refine RoundIn.mono (R:=aAH ⟨w₄,m',((l,Obj.loop rec₀) :: L').map Prod.fst⟩ l rec₀ (Δf t')) ?_ fun e w' ⟨he,m'',L'',h1,h2⟩=>
    ⟨he,m'',(l, .loop rec₀) :: L'',h1,L'',rfl,h2⟩
   refine roundIn_of_wpIn a2e ?_;refine hbody ⟨w₄,m',((l,Obj.loop rec₀) :: L').map Prod.fst⟩ l rec₀ x t t' rfl rfl hx m' _ _ w₄ ⟨?_,rfl,fun t φ ht=>?_⟩ ⟨[_],L',rfl,rfl,hL'⟩ hS₄
   ·have:∀ (z:List (Nat × Value)) (t:Array Value),(z.foldl (fun tmps (t,a)=>tmps.setIfInBounds t a) t).size=t.size:=fun z=>by
     induction z with
     | nil=>intro t;rfl
     | cons x z ih=>intro t;simp [ih]
    have hz:ps.toArray.zip vs.toArray=(ps.zip vs).toArray:=by simp
    simp only [vJ,rec₀,hz,List.foldl_toArray,this,hF.size]
   ·have hz:ps.toArray.zip vs.toArray=(ps.zip vs).toArray:=by simp
    simp only [vJ,rec₀,hz,List.foldl_toArray];exact aHc (by rw [hF.size];exact hps') (hlen x) hvs (hF.mono hle).get t φ ht⟩
  have hfn:=hiter J m ((l, .loop rec₀) :: A) (lG l :: cs) ⟨_,_,rfl,hy,hcs⟩ ⟨_,[],by simp,⟨A,rfl,hA⟩,rfl⟩
  refine aDP ((hfn w₂ hS₃.start).mono fun e w' ⟨m',L₁,hS',v,he,_,hJ⟩=>?_)
  obtain⟨H,R0,hL1,⟨L',hH,hT⟩,hR0⟩:=hJ;have hR0:R0=[]:=hR0;subst he hH hR0;have hL1:L₁=(l,Obj.loop rec₀) :: L':=by rw [hL1];simp
  subst hL1;have hback:=back hS₃ hS';have hreco:w'.heap[l]? =some (.loop rec₀):=hback.own (l, .loop rec₀) (.head _);refine⟨none,_,run_endLoop hreco (by simp [rec₀]),?_⟩
  have h4:=(hback.putObj (k:=0) (o':= .loop { rec₀ with state:= .exhausted }) rfl).drop (L':=L'++((rb,Obj.deferred (some [])) :: B)) (by simp)
  have h5:=h4.perm (a1u (a:=(rb,Obj.deferred (some []))) (l₁:=L') (l₂:=B));have hF':=hF.mono hS'.mle;exact hnext rb m' _ { a with defers:=[SX.mark rb]++a.defers } _ ⟨hF'.size,by simp [hF'.Ad],hF'.get⟩ ⟨[_],L'++B,rfl,rfl,hT.append (hB.mono hS'.mle)⟩ h5
theorem FnX_ofM {f:FuncId} {fn:Func} {c:Code} {N:Nat} {args:List AJ} {post:Mem->Ag->Ending->Prop} (hf:P.funcs[f]? =some fn) (hb:fn.body=some c) (hN:fn.ntmps=N) (hle:Nat.ble args.length N=true)
 (k:∀ w m fp,T ⟨w,m,fp⟩ N [] (mJ args 0) Δ (c.wpIn (fw none) 0 P (bodyPostM (fw none) 0 P fn fun e w'=>∃ m' L',St ⟨w,m,fp⟩ m' L' w'/\post m' L' e))):
 ∀ m L vs,aT args m vs->bK Δ m L->FnX P f vs m L post:=fun m L vs hv hL w hS=>by
 refine(callsIn_wide (n:=0)).1 (callsIn_of_wp_marks hf hb a2e ?_)
 refine(k w m _ m L _ w ⟨?_,rfl,fun t φ h=>?_⟩ hL hS)
 ·have:=a1F hle;have hl:=hv.length;simp [hN];omega
 ·obtain⟨_,h2⟩:=aAo args 0 t φ h;simp only [Nat.sub_zero]at h2;obtain⟨c,h3,h4⟩:=hv.get h2;have hlt:=(a0K.1 h3).1;refine⟨c,?_,h4⟩;rw [a0c (by simpa using hlt)];simpa using h3
theorem aBD {f:FuncId} {fn:Func} {c:Code} {N:Nat} {args:List AJ} {Φ:AJ} {Δ':Value->List Tk} (hf:P.funcs[f]? =some fn) (hb:fn.body=some c) (hN:fn.ntmps=N) (hle:Nat.ble args.length N=true)
 (k:∀ β,T β N [] (mJ args 0) Δ (c.wpIn (fw none) 0 P (bodyPostM (fw none) 0 P fn (fM β Φ Δ')))):FnS P f args Δ Φ Δ':=FnX_ofM hf hb hN hle fun w m fp=>k ⟨w,m,fp⟩
theorem aG9 {m:Mem}:∀ (rbs:List Nat) {Δ:List Tk} {L:Ag},bK (rbs.map pT++Δ) m L->∃ R,L=rbs.map (fun rb=>(rb,Obj.deferred (some [])))++R/\bK Δ m R
 | [],_,L,h=>⟨L,rfl,h⟩
 | rb :: rbs,_,_,⟨H,R,e,h1,h2⟩=>by
  have h1:H=[(rb,Obj.deferred (some []))]:=h1;obtain⟨R',e2,h3⟩:=aG9 rbs h2;exact⟨R',by rw [e,h1,e2];rfl,h3⟩
theorem T_leave {fn:Func} {R:Ending->World->Prop} (rbs:List Nat) {Δ':List Tk} (hds:ds=rbs.map SX.mark) (hΔ:Δ=rbs.map pT++Δ')
 (k:T β n [] Γ Δ' (fun a w=>∃ v,(results fn a.tmps).run P w= .ok v w/\R (.returned v) w)):T β n ds Γ Δ (fun a w=>LeavesInM (fw none) 0 P fn a.tmps R a.defers .returning w):=fun m L a w hF hL hS=>by
 subst hΔ
 obtain⟨B,rfl,hB⟩:=aG9 rbs hL
 rw [hF.Ad,hds]
 let A:Ag:=rbs.map (fun rb=>(rb,Obj.deferred (some [])))
 have hnd:rbs.Nodup:=by
  have:=hS.nodup;rw [a0Y,a1b]at this;have h2:=(a1o.1 this).1;have h3:(Prod.fst ∘ fun rb=>(rb,Obj.deferred (some [])))=(id:Nat->Nat):=rfl
  rwa [h3,List.map_id]at h2
 refine aEV (β:=β) (m:=m) (A:=A) (L':=B) rbs _ w hS (fun rb hrb=>?_) hnd (by simp [A]) (by simp [A]) fun w' hS'=>?_
 ·obtain⟨j,hj⟩:=a1h.1 hrb;have hlt:=(a0K.1 hj).1;exact⟨j,by rw [a0E (by simpa using hlt)];simp [hj],by simpa [A] using hlt⟩
 ·exact k m B { a with defers:=[] } w' ⟨hF.size,rfl,hF.get⟩ hB hS'
theorem T_outM1 {fn:Func} {Φ:AJ} {Δ':List Tk} {t:Nat} (rbs:List Nat) (hr:fn.results=#[.tmp t]) (hv:iK Γ t Φ) (hds:ds=rbs.map SX.mark) (hd:Δ=rbs.map pT++Δ'):T β n ds Γ Δ (bodyPostM (fw none) 0 P fn (fM β Φ (fun _=>Δ')) .ret):=
 T_leave (P:=P) (fn:=fn) (R:=fM β Φ (fun _=>Δ')) rbs hds hd fun m L a w hF hL hS=>by
  obtain⟨ψ,h1,h2⟩:=hv;obtain⟨v,h3,h4⟩:=hF.get t ψ h1;exact⟨v,by simp [results,hr,a0b,h3,Sem.run,pure],m,L,hS,v,rfl,h2 m v h4,hL⟩
end
theorem aO.app:∀ {aa bs cs ds:List AJ},aO aa cs->aO bs ds->aO (aa++bs) (cs++ds)
 | [],_,_,_,h,k=>by cases h;exact k
 | a :: aa,_,_,_,⟨φ,φs,e,h1,h2⟩,k=>by subst e;exact⟨φ,φs++_,by simp,h1,aO.app h2 k⟩
open Go.SX
def FnD (P:Program) (f:FuncId) (args:List AJ) (Δ:List Tk) (u:FrameMode) (Δ':List Tk):Prop:=
 ∀ m L vs,aT args m vs->bK Δ m L->∀ w,St ⟨w,m,L.map Prod.fst⟩ m L w->CallsDIn (fw none) 0 P f vs.toArray u w fun e u' w'=>(∃ v,e= .returned v)/\settle u'= .returning/\∃ m' L',St ⟨w,m,L.map Prod.fst⟩ m' L' w'/\bK Δ' m' L'
def PostD (β:bC) (Δ':List Tk) (e:Ending) (u':FrameMode) (w':World):Prop:=(∃ v,e= .returned v)/\settle u'= .returning/\∃ m' L',St β m' L' w'/\bK Δ' m' L'
section
variable {P:Program} {β:bC} {n:Nat} {ds:List Deferred} {Γ:Ctx} {Δ R:List Tk} {r:Option Nat} {Q Q':Exit->Act->World->Prop} {F:Act->World->Prop} {ops:Array Oper} {o:Oper} {rest:List Oper}
theorem FnD_of {f:FuncId} {fn:Func} {c:Code} {N:Nat} {args:List AJ} {u:FrameMode} {Δ':List Tk} (hf:P.funcs[f]? =some fn) (hb:fn.body=some c) (hN:fn.ntmps=N) (hle:Nat.ble args.length N=true)
 (k:∀ β c₀ cs,c₀.mode=u->T β N [] (mJ args 0) Δ (fun a w=>c.wpSIn (fw none) 0 P (bodyPostS P fn c₀ cs (PostD β Δ')) a (c₀ :: cs) w)):FnD P f args Δ u Δ':=fun m L vs hv hL w hS=>by
 refine callsDIn_of_wpSIn hf hb a2e fun c₀ cs hu=>?_
 refine k ⟨w,m,_⟩ c₀ cs hu m L _ w ⟨?_,rfl,fun t φ h=>?_⟩ hL hS
 ·have:=a1F hle;have hl:=hv.length;simp [hN];omega
 ·obtain⟨_,h2⟩:=aAo args 0 t φ h;simp only [Nat.sub_zero]at h2;obtain⟨c,h3,h4⟩:=hv.get h2;have hlt:=(a0K.1 h3).1;refine⟨c,?_,h4⟩;rw [a0c (by simpa using hlt)];simpa using h3
theorem aG3 {x:Code} {id d e:Nat} {o0 o1:Oper} {S:Exit->Act->List Frame->World->Prop} {cs cs':List Frame} {v:Value} (hr:(match recoverD cs with | some p=>p | none=>(.nilIface,cs))=(v,cs'))
 (h0:o0.op= .call { callee:= .builtin .recover,args:=#[],argTypes:=#[] }) (g0:o0.guard=none) (d0:o0.dst=some d) (h1:o1.op= .assign (.tmp d)) (g1:o1.guard=none) (d1:o1.dst=some e) (hn:Nat.ble (d+1) n=true/\Nat.ble (e+1) n=true)
 (k:T β n ds ((e,fEq v) :: (d,fEq v) :: Γ) Δ (fun a w=>x.wpSIn (fw none) 0 P S a cs' w)):T β n ds Γ Δ (fun a w=>(Code.seq (.region id #[o0,o1] false) x).wpSIn (fw none) 0 P S a cs w):=fun m L a w hF hL hS=>by
 refine wpSIn_seq (wpSIn_region ?_)
 have hF1:FT n ds ((d,fEq v) :: Γ) m (a.put (some d) v):=hF.put (a1F hn.1) rfl
 have hF2:FT n ds ((e,fEq v) :: (d,fEq v) :: Γ) m ((a.put (some d) v).put (some e) v):=hF1.put (a1F hn.2) rfl
 have he0:∀ w,(execOp a.eval o0).run P w= .ok .recover w:=fun w=>by simp [execOp,h0,resolve,invoke,builtin,a1W,Sem.run,pure]
 have hev:(a.put (some d) v).eval (.tmp d)=v:=hF1.eval (x:= .tmp d) (ψ:=fEq v) (by simp [evT,lk])
 have he1:∀ w,(execOp (a.put (some d) v).eval o1).run P w= .ok (.value v) w:=fun w=>by simp [execOp,h1,hev,Sem.run,pure]
 have hl:List.range (#[o0,o1]:Array Oper).size=[0,1]:=rfl
 have i0:(#[o0,o1]:Array Oper)[0]? =some o0:=rfl
 have i1:(#[o0,o1]:Array Oper)[1]? =some o1:=rfl
 have w0:Region.wanted o0 (yielded #[o0,o1] a.tmps)=true:=by simp [Region.wanted,g0]
 have w1:Region.wanted o1 (yielded #[o0,o1] (a.put (some d) v).tmps)=true:=by simp [Region.wanted,g1]
 have hfin:wpOpsSIn (fw none) 0 P #[o0,o1] (Exit.thenS (x.wpSIn (fw none) 0 P S) S) [1] (a.put o0.dst v) cs' w:=by
  rw [d0];simp only [wpOpsSIn,i1,w1,if_true,he1];rw [d1];exact⟨fun _ _=>trivial,k m L _ w hF2 hL hS⟩
 rw [hl,wpOpsSIn]
 simp only [i0,w0,if_true,he0]
 refine⟨fun _ _=>a2e,?_⟩
 cases hrec:recoverD cs with
 | none=>rw [hrec]at hr;cases hr;exact hfin
 | some p=>rw [hrec]at hr;obtain⟨v',cs''⟩:=p;cases hr;exact hfin
theorem T_inS {x:Code} {S:Exit->Act->List Frame->World->Prop} {cs:List Frame} (k:T β n ds Γ Δ (x.wpIn (fw none) 0 P (fun e a w=>S e a cs w))):T β n ds Γ Δ (fun a w=>x.wpSIn (fw none) 0 P S a cs w):=
 k.mono fun _ _ h=>wpSIn_of_wpIn rfl h
theorem T_endD {fn:Func} {c₀:Frame} {cs cs':List Frame} {u':FrameMode} {Δ':List Tk} {e:Exit} (he:e= .ret\/e= .normal) (hr:fn.results=#[]) (hc:cs'={ c₀ with mode:=u' } :: cs) (hu:settle u'= .returning) (hd:Δ=Δ'):
 T β n [] Γ Δ (fun a w=>bodyPostS P fn c₀ cs (PostD β Δ') e a cs' w):=fun m L a w hF hL hS=>by
 subst hd
 have:a.defers=[]/\∃ u',cs'={ c₀ with mode:=u' } :: cs/\∃ v,(results fn a.tmps).run P w= .ok v w/\PostD β Δ (.returned v) u' w:=
  ⟨hF.Ad,u',hc, .tuple #[],by simp [results,hr,Sem.run,pure],⟨_,rfl⟩,hu,m,L,hS,hL⟩
 rcases he with rfl | rfl <;> exact this
theorem aDf {g:FuncId} {args:List Operand} {ts:Array TypeId} {vs:List Value} (hw:cA ops Γ o) (ho:o.op= .defer { callee:= .value (.func g),args:=args.toArray,argTypes:=ts }) (hd:o.dst=none) (ha:gA Γ args vs)
 (k:T β n ({ target:= .fn (.func g) #[],args:=vs.toArray } :: ds) Γ Δ (wpListIn (fw none) 0 P ops Q rest)):T β n ds Γ Δ (wpListIn (fw none) 0 P ops Q (o :: rest)):=fun m L a w hF hL hS=>by
 have hx:args.map a.eval=vs:=ha.eval (hF.evs o) (by rw [ho];intro x hx;simp [Op.operands,Call.operands,hx])
 simp only [wpListIn,hw.wanted hF,if_true]
 refine⟨fun _ _=>a2e,?_⟩
 have h3:o.semAt (fw none).round a.eval=execOp a.eval o:=Oper.semAt_none _ _
 have hrun:(execOp a.eval o).run P w= .ok (.defer { target:= .fn (.func g) #[],args:=vs.toArray }) w:=by
  have h4:args.toArray.map a.eval=(args.map a.eval).toArray:=by simp
  simp [execOp,ho,resolve,Act.eval,Deferred.ofValue,a1W,Sem.run,pure];rw [<- hx]
 rw [h3,hrun,Oper.uponIn_defer,hd]
 exact k m L _ w ⟨hF.size,by simp [Act.put,hF.Ad],hF.get⟩ hL hS
theorem uI {fn:Func} {g b c t:Nat} {T':TypeId} {φ ψ ψ':AJ} {u:FrameMode} (hu:u≠ .run) (hr:fn.results=#[.tmp t, .cell c T']) (hv:iK Γ t φ) (hc:lk Γ c=some (fEq (ptr b))) (hT:Scal P T') (hg:Ar P g)
 (hD:FnD P g [fEq (ptr b)] [aA b T' [ψ]] u [aA b T' [ψ']]) (hds:ds=[{ target:= .fn (.func g) #[],args:=#[ptr b] }]) (hΔ:Δ=[aA b T' [ψ]]):
 T β n ds Γ Δ (fun a w=>LeavesInM (fw none) 0 P fn a.tmps (fM β (cV [φ,ψ']) (fun _=>[])) a.defers u w):=fun m L a w hF hL hS=>by
 subst hΔ
 rw [hF.Ad,hds]
 refine⟨hu, .inr ⟨(fun h=>by cases h), .func g,#[],g,#[ptr b],rfl,?_,fun _ _=>a2e,?_⟩⟩
 ·have:=run_callFunc hg (#[ptr b]) w;simpa [invoke] using this
 ·have hS0:St β m (L++[]) w:=by rw [a0v];exact hS
  have hcall:=hD m L [ptr b] ⟨_,[],rfl,rfl,rfl⟩ hL w hS0.start;refine⟨a2e,fun c₀ cs hm hroom=>?_⟩
  obtain⟨_,hcall⟩:=hcall;obtain⟨e,u',w',fr,⟨⟨v,he⟩,hset,m',L',hS',hL'⟩,h2⟩:=hcall c₀ cs hm hroom;subst he;refine⟨_,u',w',fr,?_,h2⟩;simp only [hset];have hb:=back hS0 hS';rw [a0v]at hb;have hF':=hF.mono hS'.mle;obtain⟨χ,h3,h4⟩:=hv;obtain⟨v0,h5,h6⟩:=hF'.get t χ h3;obtain⟨v1,h7,h8⟩:=hF'.get c _ hc;have h8:v1=ptr b:=h8;subst h8;obtain⟨cs',h9,h10⟩:=aCc hL' hb;obtain⟨x,cr,e1,e2,e3⟩:=h9;have e3:cr=[]:=e3;subst e1 e3;have hcell:=h10 0 x rfl;have hload:(loadVar T' ⟨b,0,none⟩).run P w'= .ok x w':=by simp [loadVar,a1W,aE3 hT,Sem.run,pure,hcell]
  refine⟨.tuple #[v0,x],?_,m',[],?_,_,rfl,⟨[v0,x],rfl,v0,[x],rfl,h4 m' v0 h6,x,[],rfl,e2,rfl⟩,rfl⟩
  ·simp [results,hr,a0b,h5,h7,a1W,Sem.run,pure,ptr,asAddr,hload]
  ·exact hb.drop (List.nil_sublist _)
theorem aBY {fn:Func} {Φ:AJ} {Δ':Value->List Tk} (k:T β n ds Γ Δ (fun a w=>LeavesInM (fw none) 0 P fn a.tmps (fM β Φ Δ') a.defers .returning w)):T β n ds Γ Δ (bodyPostM (fw none) 0 P fn (fM β Φ Δ') .ret):=k
theorem aDX {fn:Func} {Φ:AJ} {Δ':Value->List Tk} {c:List PanicEntry} (k:T β n ds Γ Δ (fun a w=>LeavesInM (fw none) 0 P fn a.tmps (fM β Φ Δ') a.defers (.panicking c) w)):T β n ds Γ Δ (bodyPostM (fw none) 0 P fn (fM β Φ Δ') (.panic c)):=k
theorem aKN {S T':TypeId} {x:Operand} {v:Value} (ho:o.op= .typeAssert x S T' true) (hx:Has Γ x (fEq (.iface T' v))) (hT:niB P T'=true) {z:Value} (hz:cH P T'=some z):OpT P Γ [] o (cV [fEq v,aR true]):=
 sG ho hx hT hz (by simp [dO])
def unI (T:TypeId):Value->Option Int
 | .iface t (.agg vs)=>if t=T then(match vs.toList with | [.int .i64 e]=>some e | _=>none) else none
 | _=>none
theorem aCY {T:TypeId} {v:Value} {e:Int} (h:unI T v=some e):v= .iface T (.agg #[.int .i64 e]):=by
 unfold unI at h
 split at h
 ·rename_i t vs;split at h
  ·subst_vars
   split at h
   ·rename_i e' hv;cases h;have:vs=#[.int .i64 e]:=by rw [<- a0i (xs:=vs),hv]
    rw [this]
   ·cases h
  ·cases h
 ·cases h
def MethAt (P:Program) (T:TypeId) (u:Value) (name:String) (f:FuncId):Prop:=∀ w,(method (P.types.size+Made.depth) T u name).run P w= .ok (f,u) w
def Inv (P:Program) (v:Value) (name:String) (φs:List AJ) (Φ:AJ):Prop:=∃ t u f,v= .iface t u/\MethAt P t u name f/\Ar P f/\FnS P f (fEq u :: φs) [] Φ (fun _=>[])
theorem FnS.args {f:FuncId} {φs ψs:List AJ} {Φ:AJ} {Δ':Value->List Tk} (h:FnS P f φs Δ Φ Δ') (k:aO ψs φs):FnS P f ψs Δ Φ Δ':=fun m L vs hv hL=>h m L vs (k.all hv) hL
theorem wp_callI {x:Operand} {name:String} {args:List Operand} {ts:Array TypeId} {t:TypeId} {u:Value} {f:FuncId} {vs:List Value} {post:Mem->Ag->Ending->Prop} {m:Mem} {L R:Ag} {a:Act} {w:World} {K:Act->World->Prop}
 (ho:o.op= .call { callee:= .invoke x name,args:=args.toArray,argTypes:=ts }) (hx:a.eval x= .iface t u) (hm:MethAt P t u name f) (hall:u :: args.map a.eval=vs) (hf:Ar P f) (hc:FnX P f vs m L post) (hS:St β m (L++R) w)
 (kret:∀ m' L' v w',Mem.le m m'->post m' L' (.returned v)->St β m' (L'++R) w'->K (a.put o.dst v) w')
 (kpan:∀ m' L' c w',Mem.le m m'->post m' L' (.panicked c)->St β m' (L'++R) w'->Q (.panic c) a w') (kout:∀ m' L',post m' L' .outgrown->False):o.wpIn (fw r) 0 P a w K Q:=by
 have hnd:gO o.op=false:=by rw [ho];rfl
 have h3:o.semAt (fw r).round a.eval=execOp a.eval o:=Oper.semAt_eq _ _ _ fun c hc=>by rw [hc]at hnd;cases hnd
 refine⟨fun _ _=>a2e,?_⟩
 have hrun:(execOp a.eval o).run P w= .ok (.enter f vs.toArray) w:=by
  have h4:args.toArray.map a.eval=(args.map a.eval).toArray:=by simp
  have h5:(#[u]++(args.map a.eval).toArray)=vs.toArray:=by rw [<- hall];simp
  have h6:(#[a.eval x]++args.toArray.map a.eval).extract 1 (#[a.eval x]++args.toArray.map a.eval).size=(args.map a.eval).toArray:=by
   apply Array.ext';simp [a1x]
  have h7:(#[a.eval x]++args.toArray.map a.eval)[0]? =some (a.eval x):=by simp
  have h8:(callMethod (.iface t u) name (args.map a.eval).toArray).run P w= .ok (.enter f vs.toArray) w:=by
   simp only [callMethod,a1W,run_program,a1V,hm w,h5,run_callFunc hf]
  simp only [execOp,ho,resolve,a1W];show((invoke (.fn (.method name) #[]) (#[a.eval x]++args.toArray.map a.eval)).run P w)=_
  rw [hx]at h6 h7;simp only [invoke];rw [hx,h7];simp only
  rw [h6];exact h8
 rw [h3,hrun,Oper.uponIn_enter]
 refine⟨(fun h=>by cases h),aDP ((hc w hS.start).mono fun e w' ⟨m',L',hS',hp⟩=>?_)⟩
 have hb:=back hS hS'
 cases e with
 | returned v=>exact kret m' L' v w' hS'.mle hp hb
 | panicked c=>exact kpan m' L' c w' hS'.mle hp hb
 | outgrown=>exact(kout m' L' hp).elim
variable {l:List NO} {e:Env'} {i:Nat} {od:Env'->OD} {G:Env'->Cf->(Nat->Tk)->Prop}
theorem N_callI {x:Operand} {name:String} {args:List Operand} {ts:Array TypeId} {v:Value} {φs:List AJ} {Φ:AJ} {d:Nat} {Δ':Oc->List Tk} (hod:od e= .op [] true (fun _=>Φ) Δ') (hτ:∀ b,Δ' b=[]) (hw:cA ops Γ o) (ho:o.op= .call { callee:= .invoke x name,args:=args.toArray,argTypes:=ts }) (hd:o.dst=some d)
 (hx:Has Γ x (fEq v)) (hargs:aK Γ args φs) (hi:Inv P v name φs Φ)
 (k:∀ b,NC P r ops G l (e.set i b) (lk ((d,Φ) :: Γ)) (dOf Δ)):NC P r ops G ((i,o,od) :: l) e (lk Γ) (dOf Δ):=by
 refine⟨?_,fun b=>?_⟩
 ·simp only [hod];refine⟨hw,?_,fun b=>by rw [hτ];rfl⟩
  intro β n ds m L R a w K Q hF hL hS hk;have hL0:L=[]:=hL;subst hL0;have he:=pO hF;obtain⟨t,u,f,hv,hm,hf,hc⟩:=hi;subst hv;have hxx:=he.get hx (by rw [ho];simp [Op.operands,Call.operands])
  refine wp_callI (L:=[]) ho hxx hm rfl hf (hc m [] _ ⟨_,_,rfl,rfl,hargs.all' he (by rw [ho];intro x hx;simp [Op.operands,Call.operands,hx])⟩ rfl) hS (fun m' L' v w' hle ⟨u,hv,h3,h4⟩ hS'=>?_) (fun m' L' c w' _ ⟨u,hv,_⟩ _=>by cases hv) (fun m' L' ⟨u,hv,_⟩=>by cases hv)
  cases hv;have h4:L'=[]:=h4;subst h4;exact hk default m' [] v w' hle h3 (by simp only [OD.wr,if_true];rw [hτ];rfl) hS'
 ·simp only [hod,fH,eT,if_true,hd,hτ];rw [aDl];exact k b
end
open Go.SX
section
variable {P:Program} {β:bC} {n:Nat} {ds:List Deferred} {Γ:Ctx} {Δ R:List Tk} {r:Option Nat} {Q Q':Exit->Act->World->Prop} {F:Act->World->Prop} {ops:Array Oper} {o:Oper} {rest:List Oper}
variable {κ α:Type} {kd:Key κ} {vf:α->AJ} {g g1:aG κ α}
theorem aG.ext' {a b:aG κ α} (h:a.get=b.get) (k:a.size=b.size):a=b:=by
 cases a;cases b;simp at h k;simp [h,k]
structure aCV (kd:Key κ) (vf:α->AJ) (g g1:aG κ α) (m:Mem) (es:Array MapEntry) (clock since:Nat) (AX:Array Nat) (c0:Nat):Prop where
 is:iJ kd vf g m es clock
 old:∀ e∈es.toList,e.born<since
 sc:since<=c0
 cl:since<=clock
 part:∀ e∈es.toList,∀ k,e.key=kd.val k->g1.get k=if e.born∈AX.toList then g.get k else none
 none:∀ k,g.get k=none->g1.get k=none
 size:g1.size=es.toList.countP (fun e=>decide (e.born∈AX.toList))
theorem aCV.mono {m m':Mem} {es:Array MapEntry} {clock since:Nat} {AX:Array Nat} {c0:Nat} (hle:Mem.le m m') (h:aCV kd vf g g1 m es clock since AX c0):aCV kd vf g g1 m' es clock since AX c0:=
 ⟨h.is.mono hle,h.old,h.sc,h.cl,h.part,h.none,h.size⟩
end
open Go.SX
inductive OF where
 | pure (φ:AJ)
 | own (f:Value->Tk) (h:∀ v m H,(f v).p m H->dB v)
def OF.tk:OF->Value->Tk
 | .pure φ,v=>⟨fun m H=>H=[]/\φ.p m v/\dB v,fun h ⟨h1,h2,h3⟩=>⟨h1,φ.mono h h2,h3⟩⟩
 | .own f _,v=>f v
theorem OF.cell {f:OF} {v:Value} {m:Mem} {H:Ag} (h:(f.tk v).p m H):dB v:=by
 cases f with
 | pure φ=>exact h.2.2
 | own f hf=>exact hf v m H h
def eY:List OF->Mem->List Value->Ag->Prop
 | [],_,cs,H=>cs=[]/\H=[]
 | f :: fs,m,cs,H=>∃ c r H1 H2,cs=c :: r/\H=H1++H2/\(f.tk c).p m H1/\eY fs m r H2
theorem eY.mono {m m':Mem} (h:Mem.le m m'):∀ {fs:List OF} {cs:List Value} {H:Ag},eY fs m cs H->eY fs m' cs H
 | [],_,_,k=>k
 | _ :: _,_,_,⟨c,r,H1,H2,e1,e2,h1,h2⟩=>⟨c,r,H1,H2,e1,e2,Tk.mono _ h h1,h2.mono h⟩
theorem eY.length {m:Mem}:∀ {fs:List OF} {cs:List Value} {H:Ag},eY fs m cs H->cs.length=fs.length
 | [],_,_,⟨h,_⟩=>by rw [h];rfl
 | _ :: _,_,_,⟨c,r,H1,H2,e1,_,_,h2⟩=>by rw [e1];simp [h2.length]
theorem eY.cells {m:Mem}:∀ {fs:List OF} {cs:List Value} {H:Ag},eY fs m cs H->∀ c∈cs,dB c
 | [],_,_,⟨h,_⟩=>by rw [h];simp
 | _ :: _,_,_,⟨c,r,H1,H2,e1,_,h1,h2⟩=>by
  rw [e1];intro x hx
  cases hx with
  | head=>exact OF.cell h1
  | tail _ hx=>exact h2.cells x hx
theorem eY.append {m:Mem}:∀ {fs gs:List OF} {cs ds:List Value} {H K:Ag},eY fs m cs H->eY gs m ds K->eY (fs++gs) m (cs++ds) (H++K)
 | [],_,_,_,_,_,⟨h,h'⟩,k=>by rw [h,h'];exact k
 | _ :: _,_,_,_,_,_,⟨c,r,H1,H2,e1,e2,h1,h2⟩,k=>⟨c,r++_,H1,H2++_,by rw [e1];rfl,by rw [e2,a0u],h1,h2.append k⟩
theorem eY.at {m:Mem}:∀ {fs:List OF} {cs:List Value} {H:Ag} {p:Nat} {f:OF},eY fs m cs H->fs[p]? =some f->∃ c A K B,cs[p]? =some c/\H=A++(K++B)/\(f.tk c).p m K /\
 ∀ m' f' c' K',Mem.le m m'->(f'.tk c').p m' K'->eY (fs.set p f') m' (cs.set p c') (A++(K'++B))
 | [],_,_,p,f,_,hp=>by simp at hp
 | g :: fs,_,_,0,f,⟨c,r,H1,H2,e1,e2,h1,h2⟩,hp=>by
  have:g=f:=by simpa using hp
  subst this;exact⟨c,[],H1,H2,by rw [e1];rfl,by rw [e2];rfl,h1,fun m' f' c' K' hle hk=>⟨c',r,K',H2,by rw [e1];rfl,rfl,hk,h2.mono hle⟩⟩
 | g :: fs,_,_,p+1,f,⟨c,r,H1,H2,e1,e2,h1,h2⟩,hp=>by
  obtain⟨c0,A,K,B,h3,h4,h5,h6⟩:=eY.at h2 (by simpa using hp)
  exact⟨c0,H1++A,K,B,by rw [e1];simpa using h3,by rw [e2,h4,a0u],h5,fun m' f' c' K' hle hk=>⟨c,r.set p c',H1,A++(K'++B),by rw [e1];rfl,by rw [a0u],Tk.mono _ hle h1,h6 m' f' c' K' hle hk⟩⟩
structure OTy (α:Type) where
 sz:Nat
 Al:α->List OF
 len:∀ x,(Al x).length=sz
section
variable {P:Program} {β:bC} {n:Nat} {ds:List Deferred} {Γ:Ctx} {Δ R:List Tk} {r:Option Nat} {Q Q':Exit->Act->World->Prop} {F:Act->World->Prop} {ops:Array Oper} {o:Oper} {rest:List Oper}
theorem aAI {α:Type} {t:Ty α} {z:α} {zs:List α} {T e by':Nat} {x:Operand} {kd:IntKind} {k:Int} {zv:Value} (ho:o.op= .makeSlice T x x) (hx:Has Γ x (aW kd k)) (hT:ElT P T e t.sz by') (hb:Nat.ble by' 1000=true) (hz:SX.Zero P e zv) (hzz:aO (zv.cells.toList.map fEq) (t.Al z)) (h:mk z k=some zs):
 OpN P Γ o (fun b=> .slice (some ⟨b,0,none⟩) zs.length zs.length) (fun b=>aD (.slice (some ⟨b,0,none⟩) zs.length zs.length) e t zs):=
 ⟨by rw [ho];rfl,fun β m a w he _=>by
  obtain⟨ht,i,z',hi,h1,h2,hz',hzs⟩:=hT.spell;have hb:=a1F hb;have:z'=zv:=by
   unfold SX.Zero cH at hz;rw [hi]at hz;simp only [Option.bind_some]at hz;rw [hz']at hz;exact a1T hz
  subst this;unfold mk at h;split at h
  ·rename_i hk;cases h;obtain⟨j,rfl⟩:∃ j:Nat,k=(j:Int):=⟨k.toNat,by omega⟩
   have hj:j<=1000000000:=by omega
   have hx:a.eval x=_:=he.get hx (by rw [ho];simp [Op.operands])
   have hr:=run_make (P:=P) w T e i z' ht hi hz' kd kd j j (by omega) (by omega) (by
    rw [h2];have:by'*j<=1000*1000000000:=Nat.mul_le_mul hb hj
    have h5:((by'*j:Nat):Int)<=1000000000000:=by omega
    rw [Int.natCast_mul]at h5;omega) (by omega)
   simp only [a0r]at hr ⊢;rw [h1]at hr;refine⟨.cells (madeCells z'.cells (j*t.sz)) e,?_,?_⟩
   ·simp [execOp,ho,hx,a1W,hr,Sem.run,pure]
   ·have hmade:=aDV (m:=m) (hzz.all (iV z'.cells.toList)) j;rw [<- aCZ]at hmade;have hzl:z'.cells.toList.length=t.sz:=by simpa using hzs
    rw [hzl]at hmade;simp only [a0i]at hmade;have hl:=hmade.length;rw [pH]at hl;refine⟨_,⟨hl, .inr ⟨_,_,j,by simp,rfl,by simp [size_madeCells],by simp,by rw [a1w]⟩⟩,by simpa using hj,hmade⟩
  ·cases h⟩
def iA:List OF->List AJ->Prop
 | [],φs=>φs=[]
 | f :: fs,φs=>∃ φ r,φs=φ :: r/\(∀ v,Frz (f.tk v) φ v)/\iA fs r
theorem iA.nil:iA [] []:=by simp [iA]
theorem iA.cons {f:OF} {φ:AJ} {fs:List OF} {φs:List AJ} (h:∀ v,Frz (f.tk v) φ v) (k:iA fs φs):iA (f :: fs) (φ :: φs):=⟨φ,φs,by simp,h,k⟩
theorem iA.append:∀ {fs gs:List OF} {φs ψs:List AJ},iA fs φs->iA gs ψs->iA (fs++gs) (φs++ψs)
 | [],_,_,_,h,k=>by cases h;exact k
 | _ :: _,_,_,_,⟨φ,r,e,h1,h2⟩,k=>⟨φ,r++_,by rw [e];rfl,h1,h2.append k⟩
theorem iA.all {m m':Mem} (hle:Mem.le m m'):∀ {fs:List OF} {φs:List AJ} {cs:List Value} {H:Ag},iA fs φs->eY fs m cs H->(∀ x∈H,m' x.1=some x.2)->aT φs m' cs
 | [],_,_,_,h,⟨k,_⟩,_=>by cases h;rw [k];rfl
 | _ :: _,_,_,_,⟨φ,r,e,h1,h2⟩,⟨c,s,H1,H2,e1,e2,h3,h4⟩,hm=>by
  subst e e1 e2;exact⟨c,s,rfl,h1 c m H1 h3 m' hle (fun x hx=>hm x (a1d _ hx)),iA.all hle h2 h4 fun x hx=>hm x (a1e _ hx)⟩
def IndF (φ:AJ):Prop:=∀ m m' v,φ.p m v->φ.p m' v
def IndK (τ:Tk):Prop:=∀ m m' H,τ.p m H->τ.p m' H
def IndL (fs:List OF):Prop:=∀ f∈fs,∀ v,IndK (f.tk v)
theorem IndL.nil:IndL []:=fun _ h=>by cases h
theorem IndL.cons {f:OF} {fs:List OF} (h:∀ v,IndK (f.tk v)) (k:IndL fs):IndL (f :: fs):=fun g hg=>by
 cases hg with
 | head=>exact h
 | tail _ hg=>exact k g hg
theorem eY.ind {m m':Mem}:∀ {fs:List OF} {cs:List Value} {H:Ag},IndL fs->eY fs m cs H->eY fs m' cs H
 | [],_,_,_,k=>k
 | _ :: _,_,_,h,⟨c,r,H1,H2,e1,e2,h1,h2⟩=>⟨c,r,H1,H2,e1,e2,h _ (.head _) c m m' H1 h1,h2.ind fun g hg=>h g (.tail _ hg)⟩
theorem aT.ind {m m':Mem}:∀ {φs:List AJ} {cs:List Value},(∀ φ∈φs,IndF φ)->aT φs m cs->aT φs m' cs
 | [],_,_,k=>k
 | φ :: _,_,h,⟨c,r,e,h1,h2⟩=>⟨c,r,e,h φ (.head _) m m' c h1,aT.ind (fun ψ hψ=>h ψ (.tail _ hψ)) h2⟩
end
open Go.SX
open Classical in
def aAR (Λ:List (Value × AJ)) (m:Mem):Prop:=∀ p∈Λ,p.2.p m p.1
def FrzT (Δ:List Tk) (Λ:List (Value × AJ)):Prop:=∀ m L,bK Δ m L->∀ m',Mem.le m m'->(∀ x∈L,m' x.1=some x.2)->aAR Λ m'
theorem FrzT.nil:FrzT [] []:=fun _ _ _ _ _ _ _ h=>by cases h
theorem FrzT.cons {τ:Tk} {φ:AJ} {v:Value} {Δ:List Tk} {Λ:List (Value × AJ)} (h:Frz τ φ v) (k:FrzT Δ Λ):FrzT (τ :: Δ) ((v,φ) :: Λ):=fun m L ⟨H,R,e,h1,h2⟩ m' hle hm p hp=>by
 subst e
 cases hp with
 | head=>exact h m H h1 m' hle fun x hx=>hm x (a1d _ hx)
 | tail _ hp=>exact k m R h2 m' hle (fun x hx=>hm x (a1e _ hx)) p hp
def EntW (Λ:List (Value × AJ)) (ψ φ:AJ):Prop:=∀ m u,aAR Λ m->ψ.p m u->φ.p m u
def kZ (Λ:List (Value × AJ)):List AJ->List AJ->Prop
 | [],φs=>φs=[]
 | ψ :: ψs,φs=>∃ φ r,φs=φ :: r/\EntW Λ ψ φ/\kZ Λ ψs r
theorem kZ.nil {Λ:List (Value × AJ)}:kZ Λ [] []:=by simp [kZ]
theorem kZ.cons {Λ:List (Value × AJ)} {ψ φ:AJ} {ψs φs:List AJ} (h:EntW Λ ψ φ) (k:kZ Λ ψs φs):kZ Λ (ψ :: ψs) (φ :: φs):=⟨φ,φs,by simp,h,k⟩
theorem kZ.all {Λ:List (Value × AJ)} {m:Mem} (hl:aAR Λ m):∀ {ψs φs:List AJ} {cs:List Value},kZ Λ ψs φs->aT ψs m cs->aT φs m cs
 | [],_,_,h,k=>by rw [h];exact k
 | _ :: _,_,_,⟨φ,r,e,h1,h2⟩,⟨c,s,e2,h3,h4⟩=>by rw [e];exact⟨c,s,e2,h1 m c hl h3,kZ.all hl h2 h4⟩
def HasW (Γ:Ctx) (Λ:List (Value × AJ)):List Operand->List AJ->Prop
 | [],φs=>φs=[]
 | x :: xs,φs=>∃ φ r ψ,φs=φ :: r/\evT Γ x=some ψ/\EntW Λ ψ φ/\HasW Γ Λ xs r
theorem HasW.nil {Γ:Ctx} {Λ:List (Value × AJ)}:HasW Γ Λ [] []:=by simp [HasW]
theorem HasW.cons {Γ:Ctx} {Λ:List (Value × AJ)} {x:Operand} {φ ψ:AJ} {xs:List Operand} {φs:List AJ} (h:evT Γ x=some ψ) (h2:EntW Λ ψ φ) (k:HasW Γ Λ xs φs):HasW Γ Λ (x :: xs) (φ :: φs):=⟨φ,φs,ψ,by simp,h,h2,k⟩
theorem HasW.all {n:Nat} {ds:List Deferred} {Γ:Ctx} {Λ:List (Value × AJ)} {m m':Mem} {a:Act} (hF:FT n ds Γ m a) (hle:Mem.le m m') (hl:aAR Λ m'):∀ {xs:List Operand} {φs:List AJ},HasW Γ Λ xs φs->aT φs m' (xs.map a.eval)
 | [],_,h=>by rw [h];rfl
 | x :: xs,_,⟨φ,r,ψ,e,h1,h2,h3⟩=>by rw [e];exact⟨_,_,rfl,h2 m' _ hl (ψ.mono hle (hF.eval h1)),HasW.all hF hle hl h3⟩
theorem bK.ind {m m':Mem}:∀ {Δ:List Tk} {L:Ag},(∀ τ∈Δ,IndK τ)->bK Δ m L->bK Δ m' L
 | [],_,_,h=>h
 | τ :: Δ,_,h,⟨H,R,e,h1,h2⟩=>⟨H,R,e,h τ (.head _) m m' H h1,bK.ind (fun σ hσ=>h σ (.tail _ hσ)) h2⟩
section
variable {P:Program} {β:bC} {n:Nat} {ds:List Deferred} {Γ:Ctx} {Δ R:List Tk} {r:Option Nat} {Q Q':Exit->Act->World->Prop} {F:Act->World->Prop} {ops:Array Oper} {o:Oper} {rest:List Oper}
def jS:List OF->List AJ->List Tk->Prop
 | [],φs,Δ=>φs=[]/\Δ=[]
 | .pure ψ :: fs,φs,Δ=>∃ φ r,φs=φ :: r/\Ent φ ψ/\eE ψ/\jS fs r Δ
 | .own f _ :: fs,φs,Δ=>∃ u r Δ',φs=fEq u :: r/\Δ=f u :: Δ'/\jS fs r Δ'
theorem jS.nil:jS [] [] []:=⟨rfl,rfl⟩
theorem jS.pure {φ ψ:AJ} {fs:List OF} {φs:List AJ} {Δ:List Tk} (h:Ent φ ψ) (hl:eE ψ) (k:jS fs φs Δ):jS (.pure ψ :: fs) (φ :: φs) Δ:=⟨φ,φs,rfl,h,hl,k⟩
theorem jS.own {f:Value->Tk} {hf:∀ v m H,(f v).p m H->dB v} {u:Value} {fs:List OF} {φs:List AJ} {Δ:List Tk} (k:jS fs φs Δ):jS (.own f hf :: fs) (fEq u :: φs) (f u :: Δ):=⟨u,φs,Δ,rfl,rfl,k⟩
theorem jS.all {m:Mem}:∀ {fs:List OF} {φs:List AJ} {Δ:List Tk} {cs:List Value} {L:Ag},jS fs φs Δ->aT φs m cs->bK Δ m L->eY fs m cs L
 | [],_,_,_,_,⟨e1,e2⟩,h1,h2=>by subst e1 e2;exact⟨h1,h2⟩
 | .pure ψ :: fs,_,_,_,_,⟨φ,r,e1,he,hl,hk⟩,h1,h2=>by
  subst e1;obtain⟨c,s,e3,h3,h4⟩:=h1;exact⟨c,s,[],_,e3,rfl,⟨rfl,he m c h3,hl m c (he m c h3)⟩,hk.all h4 h2⟩
 | .own f _ :: fs,_,_,_,_,⟨u,r,Δ',e1,e2,hk⟩,h1,h2=>by
  subst e1 e2;obtain⟨c,s,e3,h3,h4⟩:=h1;obtain⟨H,R,e4,h5,h6⟩:=h2;have h3:c=u:=h3;subst h3;exact⟨c,s,H,R,e3,e4,h5,hk.all h4 h6⟩
variable {l:List NO} {e:Env'} {i:Nat} {od:Env'->OD} {G:Env'->Cf->(Nat->Tk)->Prop}
end
open Go.SX
theorem FnS.frz {P:Program} {f:FuncId} {args:List AJ} {Δ:List Tk} {τ:Value->Tk} {φ:AJ} (h:FnS P f args Δ fB (fun v=>[τ v])) (hf:∀ v,Frz (τ v) φ v):FnS P f args Δ φ (fun _=>[]):=fun m L vs hv hL w hS=>by
 refine(h m L vs hv hL w hS).mono fun e w' ⟨m',L',hS',v,he,_,hT⟩=>?_
 obtain⟨H,R,e1,h1,h2⟩:=hT
 have h2:R=[]:=h2
 subst h2 e1
 obtain⟨m'',h3,h4,h5⟩:=wG hS'
 exact⟨m'',[],h4,v,he,hf v m' H h1 m'' h3 h5,rfl⟩
open Go.SX
def fOpt {α:Type} (t:Ty α) (x:Option α):AJ:=⟨fun m v=>(x=none/\v= .pointer none)\/∃ y,x=some y/\(aB t y).p m v,fun h k=>k.imp id fun ⟨y,e,z⟩=>⟨y,e,(aB t y).mono h z⟩⟩
theorem ent_optS {α:Type} {t:Ty α} {y:α}:Ent (aB t y) (fOpt t (some y)):=fun _ _ h=> .inr ⟨y,rfl,h⟩
theorem qH {α:Type} {t:Ty α}:Ent (fEq (.pointer none)) (fOpt t none):=fun _ _ h=> .inl ⟨rfl,h⟩
theorem jN {α:Type} {t:Ty α} {x:Option α} {y:α} (h:x=some y):Ent (fOpt t x) (aB t y):=fun m v k=>by
 rcases k with⟨e,_⟩ | ⟨z,e,hz⟩
 ·rw [h]at e;cases e
 ·rw [h]at e;cases e;exact hz
section
variable {P:Program} {Γ:Ctx} {o:Oper}
theorem o_addW {T U:TypeId} {x y:Operand} {k:IntKind} {i j:Int} (ho:o.op= .binOp .add T x y U) (hx:Has Γ x (aW k i)) (hy:Has Γ y (aW k j)):OpT P Γ [] o (aW k (k.wrap (i+j))):=
 gJ ho hx hy jF fun w=>by simp [binOp,Op.intArith,Sem.run,pure]
theorem o_mulW {T U:TypeId} {x y:Operand} {k:IntKind} {i j:Int} (ho:o.op= .binOp .mul T x y U) (hx:Has Γ x (aW k i)) (hy:Has Γ y (aW k j)):OpT P Γ [] o (aW k (k.wrap (i*j))):=
 gJ ho hx hy jF fun w=>by simp [binOp,Op.intArith,Sem.run,pure]
def andI (k:IntKind) (x y:Int):Int:=k.wrap (BitVec.ofInt k.bits x &&& BitVec.ofInt k.bits y).toNat
theorem o_and {T U:TypeId} {x y:Operand} {k:IntKind} {i j:Int} (ho:o.op= .binOp .and T x y U) (hx:Has Γ x (aW k i)) (hy:Has Γ y (aW k j)):OpT P Γ [] o (aW k (andI k i j)):=
 gJ ho hx hy jF fun w=>by simp [binOp,Op.intBits,Sem.run,pure,andI]
def shrI (k:IntKind) (x y:Int):Option Int:=if y<0 then none else some (x.fdiv (2 ^ (min y.toNat k.bits)))
theorem guard_sh {op:BinOp} {T:TypeId} {x y:Operand} {k k':IntKind} {i j:Int} (w:World):(eqGuard op T x y (.int k i) (.int k' j)).run P w= .ok () w:=by cases op <;> simp [eqGuard,Sem.run,pure]
theorem o_shr {T U:TypeId} {x y:Operand} {k k':IntKind} {i j z:Int} (ho:o.op= .binOp .shr T x y U) (hx:Has Γ x (aW k i)) (hy:Has Γ y (aW k' j)) (h:shrI k i j=some z):OpT P Γ [] o (aW k z):=
 gJ ho hx hy guard_sh fun w=>by
  unfold shrI at h;split at h
  ·cases h
  ·rename_i hj;cases h;simp [binOp,Op.shift,Sem.run,pure,hj]
end
section
variable {β:bC} {n:Nat} {ds:List Deferred} {Γ:Ctx} {F:Act->World->Prop} {a0 a1 a2 a3 a4 a5 a6 a7 a8 a9 b0 b1 b2 b3 b4 b5 b6 b7 b8 b9 c0 c1 c2 c3 c4 c5 c6 c7 c8 c9 d:Tk} {R:List Tk}
theorem cL (h:T β n ds Γ (d :: a0 :: R) F):T β n ds Γ (a0 :: d :: R) F:=oI (a1u (l₁:=[a0])) h
theorem dT (h:T β n ds Γ (d :: a0 :: a1 :: R) F):T β n ds Γ (a0 :: a1 :: d :: R) F:=oI (a1u (l₁:=[a0,a1])) h
theorem eM (h:T β n ds Γ (d :: a0 :: a1 :: a2 :: R) F):T β n ds Γ (a0 :: a1 :: a2 :: d :: R) F:=oI (a1u (l₁:=[a0,a1,a2])) h
theorem dD (h:T β n ds Γ (d :: a0 :: a1 :: a2 :: a3 :: R) F):T β n ds Γ (a0 :: a1 :: a2 :: a3 :: d :: R) F:=oI (a1u (l₁:=[a0,a1,a2,a3])) h
theorem cO (h:T β n ds Γ (d :: a0 :: a1 :: a2 :: a3 :: a4 :: R) F):T β n ds Γ (a0 :: a1 :: a2 :: a3 :: a4 :: d :: R) F:=oI (a1u (l₁:=[a0,a1,a2,a3,a4])) h
theorem dA (h:T β n ds Γ (d :: a0 :: a1 :: a2 :: a3 :: a4 :: a5 :: R) F):T β n ds Γ (a0 :: a1 :: a2 :: a3 :: a4 :: a5 :: d :: R) F:=oI (a1u (l₁:=[a0,a1,a2,a3,a4,a5])) h
theorem jG (h:T β n ds Γ (d :: a0 :: a1 :: a2 :: a3 :: a4 :: a5 :: a6 :: R) F):T β n ds Γ (a0 :: a1 :: a2 :: a3 :: a4 :: a5 :: a6 :: d :: R) F:=oI (a1u (l₁:=[a0,a1,a2,a3,a4,a5,a6])) h
theorem T_fr8 (h:T β n ds Γ (d :: a0 :: a1 :: a2 :: a3 :: a4 :: a5 :: a6 :: a7 :: R) F):T β n ds Γ (a0 :: a1 :: a2 :: a3 :: a4 :: a5 :: a6 :: a7 :: d :: R) F:=oI (a1u (l₁:=[a0,a1,a2,a3,a4,a5,a6,a7])) h
theorem T_fr9 (h:T β n ds Γ (d :: a0 :: a1 :: a2 :: a3 :: a4 :: a5 :: a6 :: a7 :: a8 :: R) F):T β n ds Γ (a0 :: a1 :: a2 :: a3 :: a4 :: a5 :: a6 :: a7 :: a8 :: d :: R) F:=oI (a1u (l₁:=[a0,a1,a2,a3,a4,a5,a6,a7,a8])) h
end
open Go.SX
theorem aIk {β:bC} {m:Mem} {L:Ag} {w:World} (h:St β m L w) (hfp:β.fp=[]) (may:MemPlace->Prop):β.w.keptBut w may:=by
 refine⟨h.os,h.output,fun i hi=>?_⟩
 rw [h.frame i hi (by rw [hfp];exact List.not_mem_nil)]
 cases β.w.heap[i]? with
 | none=>rfl
 | some o=>
  cases o with
  | cells c t fr=>exact⟨rfl,rfl,rfl,fun j _=>rfl⟩
  | map es clock=>exact .inr ⟨rfl,rfl⟩
  | _=>rfl
def jA (W:World):Mem:=fun b=>W.heap[b]?
theorem st_memOf (W:World):St ⟨W,jA W,[]⟩ (jA W) [] W:=
 ⟨fun _ _ h=>h,fun x h=>(by cases h),fun x h=>(by cases h),List.nodup_nil,Mem.le_refl _,fun _ hb=>absurd rfl hb,fun x h=>(by cases h),a1G _,fun _ _ _=>rfl,rfl,rfl,rfl⟩
theorem FnS.calls {P:Program} {f:FuncId} {args:List AJ} {Φ:AJ} {W:World} {vs:List Value} (h:FnS P f args [] Φ (fun _=>[])) (hv:aT args (jA W) vs):
 Calls P f vs.toArray W fun e w'=>∃ m' v,e= .returned v/\Φ.p m' v/\St ⟨W,jA W,[]⟩ m' [] w':=
 (h (jA W) [] vs hv rfl W (st_memOf W)).mono fun e w' ⟨m',L',hS,v,he,hp,hL⟩=>⟨m',v,he,hp,by have:L'=[]:=hL;subst this;exact hS⟩
open Go.SX
theorem hh {Γ:Ctx} {x:Operand} {φ:AJ} (h:evT Γ x=some φ:=by exact rfl):Has Γ x φ:=has h
theorem bs {α γ:Type} {o:Option α} {f:α->Option γ} {r:γ} {G:Prop} (k:∀ x,o=some x->f x=some r->G) (h:o.bind f=some r):G:=let ⟨x,h1,h2⟩:=bind_some h;k x h1 h2
theorem is {γ:Type} {p:Prop} [Decidable p] {a b:Option γ} {r:γ} {G:Prop} (k:decide p=true->a=some r->G) (k':decide p=false->b=some r->G) (h:(if p then a else b)=some r):G:=(ite_some h).elim (fun x=>k x.1 x.2) (fun x=>k' x.1 x.2)
theorem cs {γ:Type} {c:Bool} {a b:Option γ} {r:γ} {G:Prop} (k:c=true->a=some r->G) (k':c=false->b=some r->G) (h:(bif c then a else b)=some r):G:=(aH1 h).elim (fun x=>k x.1 x.2) (fun x=>k' x.1 x.2)
section
variable {P:Program} {β:bC} {n:Nat} {ds:List Deferred} {Γ:Ctx} {Δ:List Tk} {r:Option Nat} {Q Q':Exit->Act->World->Prop} {N F:Act->World->Prop} {ops:Array Oper} {o:Oper} {rest:List Oper}
theorem Sr {id:Nat} {l:List Oper} {y:Code} (h:T β n ds Γ Δ (wpListIn (fw r) 0 P l.toArray (Exit.then (y.wpIn (fw r) 0 P Q) Q) l)):T β n ds Γ Δ ((Code.seq (Code.region id l.toArray false) y).wpIn (fw r) 0 P Q):=aJ (aFl h)
theorem Nn (h:T β n ds Γ Δ N):T β n ds Γ Δ (wpListIn (fw r) 0 P ops (Exit.then N Q) []):=T_nil (aGg h)
theorem Rr (h:T β n ds Γ Δ (Q .ret)):T β n ds Γ Δ (Code.ret.wpIn (fw r) 0 P (Exit.then N Q)):=T_retc (aFs h)
theorem Yy {d:Nat} {φ:AJ} (h:OpT P Γ [] o φ) (k:T β n ds ((d,φ) :: Γ) Δ (wpListIn (fw r) 0 P ops Q rest)) (hw:cA ops Γ o:=by exact trivial) (hd:o.dst=some d:=by exact rfl) (hn:Nat.ble (d+1) n=true:=by exact rfl):T β n ds Γ Δ (wpListIn (fw r) 0 P ops Q (o :: rest)):=T_y hw hd hn h k
theorem Ym {d:Nat} {x:Operand} {φ:AJ} (k:T β n ds ((d,φ) :: Γ) Δ (wpListIn (fw r) 0 P ops Q rest)) (hw:cA ops Γ o:=by exact trivial) (hd:o.dst=some d:=by exact rfl) (hn:Nat.ble (d+1) n=true:=by exact rfl) (ho:o.op= .move x:=by exact rfl) (hx:evT Γ x=some φ:=by exact rfl):
 T β n ds Γ Δ (wpListIn (fw r) 0 P ops Q (o :: rest)):=T_y hw hd hn (pA ho (has hx)) k
theorem Ya {d:Nat} {x:Operand} {φ:AJ} (k:T β n ds ((d,φ) :: Γ) Δ (wpListIn (fw r) 0 P ops Q rest)) (hw:cA ops Γ o:=by exact trivial) (hd:o.dst=some d:=by exact rfl) (hn:Nat.ble (d+1) n=true:=by exact rfl) (ho:o.op= .assign x:=by exact rfl) (hx:evT Γ x=some φ:=by exact rfl):
 T β n ds Γ Δ (wpListIn (fw r) 0 P ops Q (o :: rest)):=T_y hw hd hn (aBy ho (has hx)) k
theorem Sc {t:Nat} {φ:AJ} {Γ':Ctx} (k:dW Γ' Γ) (h:lk Γ t=some φ:=by exact rfl):dW ((t,φ) :: Γ') Γ:=dW.cons (bS h) k
def GW (ops:Array Oper) (Γ:Ctx) (o:Oper) (c want:Bool):Prop:=∃ j d,o.guard=some (j,want)/\(ops[j]?).bind (·.dst)=some d/\lk Γ d=some (aR c)
theorem GW.wants {c want:Bool} (h:GW ops Γ o c want) (hc:c=want):cA ops Γ o:=by
 obtain⟨j,d,h1,h2,h3⟩:=h
 unfold cA;rw [h1];exact⟨d,c,h2,h3,hc⟩
theorem GW.unwants {c want:Bool} (h:GW ops Γ o c want) (hc:c≠want):yM ops Γ o:=by
 obtain⟨j,d,h1,h2,h3⟩:=h
 exact⟨j,want,d,_,h1,h2,h3,nb hc⟩
theorem Yg {d:Nat} {φ:AJ} {c want:Bool} (hc:c=want) (h:OpT P Γ [] o φ) (k:T β n ds ((d,φ) :: Γ) Δ (wpListIn (fw r) 0 P ops Q rest)) (hg:GW ops Γ o c want:=by exact⟨_,_,rfl,rfl,rfl⟩) (hd:o.dst=some d:=by exact rfl) (hn:Nat.ble (d+1) n=true:=by exact rfl):
 T β n ds Γ Δ (wpListIn (fw r) 0 P ops Q (o :: rest)):=T_y (hg.wants hc) hd hn h k
theorem Yt {d:Nat} {c:Bool} (hc:c=true) (k:T β n ds ((d,fEq undef) :: Γ) Δ (wpListIn (fw r) 0 P ops Q rest)) (hg:GW ops Γ o c false:=by exact⟨_,_,rfl,rfl,rfl⟩) (hd:o.dst=some d:=by exact rfl) (hn:Nat.ble (d+1) n=true:=by exact rfl):
 T β n ds Γ Δ (wpListIn (fw r) 0 P ops Q (o :: rest)):=eO (hg.unwants (ne_ft hc)) hd hn k
theorem Yo {d:Nat} {φ:AJ} {τ:Tk} (i:Nat) (hτ:Δ[i]? =some τ) (h:OpT P Γ [τ] o φ) (k:T β n ds ((d,φ) :: Γ) Δ (wpListIn (fw r) 0 P ops Q rest)) (hw:cA ops Γ o:=by exact trivial) (hd:o.dst=some d:=by exact rfl) (hn:Nat.ble (d+1) n=true:=by exact rfl):
 T β n ds Γ Δ (wpListIn (fw r) 0 P ops Q (o :: rest)):=T_o1 i hw hτ hd hn h k
theorem Yh {d:Nat} {φ:AJ} {τ:Tk} {c want:Bool} (i:Nat) (hτ:Δ[i]? =some τ) (hc:c=want) (h:OpT P Γ [τ] o φ) (k:T β n ds ((d,φ) :: Γ) Δ (wpListIn (fw r) 0 P ops Q rest)) (hg:GW ops Γ o c want:=by exact⟨_,_,rfl,rfl,rfl⟩) (hd:o.dst=some d:=by exact rfl) (hn:Nat.ble (d+1) n=true:=by exact rfl):
 T β n ds Γ Δ (wpListIn (fw r) 0 P ops Q (o :: rest)):=T_o1 i (hg.wants hc) hτ hd hn h k
end
open Go.SX
def odS:Env'->OD:=fun _=> .skip
def odC (ps:List Nat) (wr:Bool) (φ:AJ) (Δo:List Tk):Env'->OD:=fun _=> .op ps wr (fun _=>φ) (fun _=>Δo)
def odN (ps:List Nat) (wr:Bool) (Φ:Nat->Value->AJ) (Δo:Nat->Value->List Tk):Env'->OD:=fun _=> .op ps wr (fun c=>Φ c.n c.v) (fun c=>Δo c.n c.v)
def od1 (j:Nat) (ps:List Nat) (wr:Bool) (Φ:Nat->Value->AJ) (Δo:Nat->Value->List Tk):Env'->OD:=fun e=> .op ps wr (fun _=>Φ (e j).n (e j).v) (fun _=>Δo (e j).n (e j).v)
def od2 (j k:Nat) (ps:List Nat) (wr:Bool) (Φ:Nat->Value->Nat->Value->AJ) (Δo:Nat->Value->Nat->Value->List Tk):Env'->OD:=
 fun e=> .op ps wr (fun _=>Φ (e j).n (e j).v (e k).n (e k).v) (fun _=>Δo (e j).n (e j).v (e k).n (e k).v)
def od3 (j k l:Nat) (ps:List Nat) (wr:Bool) (Φ:Nat->Value->Nat->Value->Nat->Value->AJ) (Δo:Nat->Value->Nat->Value->Nat->Value->List Tk):Env'->OD:=
 fun e=> .op ps wr (fun _=>Φ (e j).n (e j).v (e k).n (e k).v (e l).n (e l).v) (fun _=>Δo (e j).n (e j).v (e k).n (e k).v (e l).n (e l).v)
def odN1 (j:Nat) (ps:List Nat) (wr:Bool) (Φ:Nat->Value->Nat->Value->AJ) (Δo:Nat->Value->Nat->Value->List Tk):Env'->OD:=
 fun e=> .op ps wr (fun c=>Φ (e j).n (e j).v c.n c.v) (fun c=>Δo (e j).n (e j).v c.n c.v)
def odN2 (j k:Nat) (ps:List Nat) (wr:Bool) (Φ:Nat->Value->Nat->Value->Nat->Value->AJ) (Δo:Nat->Value->Nat->Value->Nat->Value->List Tk):Env'->OD:=
 fun e=> .op ps wr (fun c=>Φ (e j).n (e j).v (e k).n (e k).v c.n c.v) (fun c=>Δo (e j).n (e j).v (e k).n (e k).v c.n c.v)
def odN3 (j k l:Nat) (ps:List Nat) (wr:Bool) (Φ:Nat->Value->Nat->Value->Nat->Value->Nat->Value->AJ) (Δo:Nat->Value->Nat->Value->Nat->Value->Nat->Value->List Tk):Env'->OD:=
 fun e=> .op ps wr (fun c=>Φ (e j).n (e j).v (e k).n (e k).v (e l).n (e l).v c.n c.v) (fun c=>Δo (e j).n (e j).v (e k).n (e k).v (e l).n (e l).v c.n c.v)
section
variable {ods:List (Env'->OD)} {us:List Us} {ps:List Nat} {wr:Bool}
theorem FkS (h:cY ods us):cY (odS :: ods) (([],false,[]) :: us):= .cons (fits0 rfl rfl) h
theorem FkC {φ:AJ} {Δo:List Tk} (h:cY ods us):cY (odC ps wr φ Δo :: ods) ((ps,wr,[]) :: us):= .cons (fits0 rfl rfl) h
theorem FkN {Φ:Nat->Value->AJ} {Δo:Nat->Value->List Tk} (h:cY ods us):cY (odN ps wr Φ Δo :: ods) ((ps,wr,[]) :: us):= .cons (fits0 rfl rfl) h
theorem FkD1 {j:Nat} {Φ:Nat->Value->AJ} {Δo:Nat->Value->List Tk} (h:cY ods us):cY (od1 j ps wr Φ Δo :: ods) ((ps,wr,[j]) :: us):= .cons (fits1 (od:=fun c=> .op ps wr (fun _=>Φ c.n c.v) (fun _=>Δo c.n c.v)) fun _=>⟨rfl,rfl⟩) h
theorem FkD2 {j k:Nat} {Φ:Nat->Value->Nat->Value->AJ} {Δo:Nat->Value->Nat->Value->List Tk} (h:cY ods us):cY (od2 j k ps wr Φ Δo :: ods) ((ps,wr,[j,k]) :: us):=
 .cons (fits2 (od:=fun c d=> .op ps wr (fun _=>Φ c.n c.v d.n d.v) (fun _=>Δo c.n c.v d.n d.v)) fun _ _=>⟨rfl,rfl⟩) h
theorem FkD3 {j k l:Nat} {Φ:Nat->Value->Nat->Value->Nat->Value->AJ} {Δo:Nat->Value->Nat->Value->Nat->Value->List Tk} (h:cY ods us):cY (od3 j k l ps wr Φ Δo :: ods) ((ps,wr,[j,k,l]) :: us):=
 .cons (fits3 (od:=fun c d b=> .op ps wr (fun _=>Φ c.n c.v d.n d.v b.n b.v) (fun _=>Δo c.n c.v d.n d.v b.n b.v)) fun _ _ _=>⟨rfl,rfl⟩) h
theorem FkN1 {j:Nat} {Φ:Nat->Value->Nat->Value->AJ} {Δo:Nat->Value->Nat->Value->List Tk} (h:cY ods us):cY (odN1 j ps wr Φ Δo :: ods) ((ps,wr,[j]) :: us):= .cons (fits1 (od:=fun c=> .op ps wr (fun d=>Φ c.n c.v d.n d.v) (fun d=>Δo c.n c.v d.n d.v)) fun _=>⟨rfl,rfl⟩) h
theorem FkN2 {j k:Nat} {Φ:Nat->Value->Nat->Value->Nat->Value->AJ} {Δo:Nat->Value->Nat->Value->Nat->Value->List Tk} (h:cY ods us):cY (odN2 j k ps wr Φ Δo :: ods) ((ps,wr,[j,k]) :: us):=
 .cons (fits2 (od:=fun c d=> .op ps wr (fun b=>Φ c.n c.v d.n d.v b.n b.v) (fun b=>Δo c.n c.v d.n d.v b.n b.v)) fun _ _=>⟨rfl,rfl⟩) h
theorem FkN3 {j k l:Nat} {Φ:Nat->Value->Nat->Value->Nat->Value->Nat->Value->AJ} {Δo:Nat->Value->Nat->Value->Nat->Value->Nat->Value->List Tk} (h:cY ods us):cY (odN3 j k l ps wr Φ Δo :: ods) ((ps,wr,[j,k,l]) :: us):=
 .cons (fits3 (od:=fun c d a=> .op ps wr (fun b=>Φ c.n c.v d.n d.v a.n a.v b.n b.v) (fun b=>Δo c.n c.v d.n d.v a.n a.v b.n b.v)) fun _ _ _=>⟨rfl,rfl⟩) h
end
section
variable {P:Program} {r:Option Nat} {ops:Array Oper} {β:bC} {n:Nat} {ds:List Deferred} {Γ:Ctx} {Δ:List Tk} {o:Oper} {l:List NO} {e:Env'} {i:Nat} {G:Env'->Cf->(Nat->Tk)->Prop} {Q:Exit->Act->World->Prop}
theorem bW {id:Nat} {lo:List Oper} {ods:List (Env'->OD)} {us:List Us} (h k q:Nat) (hm:P.follows .mixedOrders=true) (hle:(lo.take h).length=h) (hol:ods.length=h) (hq:(Δ++List.replicate k eV).length=q)
 (hn:NC P r lo.toArray (NG P r lo.toArray β n ds Q (lo.drop h) q) (gZ 0 (lo.take h) ods) env0 (lk Γ) (dOf (Δ++List.replicate k eV))) (hu:cY ods us) (hB:(netB lo.toArray h us && ((lo.take h).zip us).all (wfU n q))=true):
 T β n ds Γ Δ ((Code.region id lo.toArray true).wpIn (fw r) 0 P Q):=by
 rw [a0k]at hB
 exact T_net h ods us k q hm hu hB.1 hle hol hB.2 hq hn
theorem My {d:Nat} {φ:AJ} (h:OpT P Γ [] o φ) (k:∀ b,NC P r ops G l (e.set i b) (lk ((d,φ) :: Γ)) (dOf Δ)) (hw:cA ops Γ o:=by exact trivial) (hd:o.dst=some d:=by exact rfl):
 NC P r ops G ((i,o,odC [] false φ []) :: l) e (lk Γ) (dOf Δ):=N_y rfl (fun _=>rfl) hw hd h k
theorem Mg {d:Nat} {φ:AJ} {c want:Bool} (hc:c=want) (h:OpT P Γ [] o φ) (k:∀ b,NC P r ops G l (e.set i b) (lk ((d,φ) :: Γ)) (dOf Δ)) (hg:GW ops Γ o c want:=by exact⟨_,_,rfl,rfl,rfl⟩) (hd:o.dst=some d:=by exact rfl):
 NC P r ops G ((i,o,odC [] false φ []) :: l) e (lk Γ) (dOf Δ):=N_y rfl (fun _=>rfl) (hg.wants hc) hd h k
theorem Mo {d:Nat} {φ:AJ} {τ:Tk} (p:Nat) (hp:[p].map (dOf Δ)=[τ]) (h:OpT P Γ [τ] o φ) (k:∀ b,NC P r ops G l (e.set i b) (lk ((d,φ) :: Γ)) (dOf Δ)) (hw:cA ops Γ o:=by exact trivial) (hd:o.dst=some d:=by exact rfl):
 NC P r ops G ((i,o,odC [p] false φ [eV]) :: l) e (lk Γ) (dOf Δ):=kD (ps:=[p]) rfl (fun _=>rfl) hw hp hd h k
theorem Mt {d:Nat} {c:Bool} (hc:c=true) (k:∀ b,NC P r ops G l (e.set i b) (lk ((d,fEq undef) :: Γ)) (dOf Δ)) (hg:GW ops Γ o c false:=by exact⟨_,_,rfl,rfl,rfl⟩) (hd:o.dst=some d:=by exact rfl):NC P r ops G ((i,o,odS) :: l) e (lk Γ) (dOf Δ):=N_skip rfl (hg.unwants (ne_ft hc)) hd k
theorem Mn {d:Nat} (p:Nat) (f:Nat->Value) (τ:Nat->Tk) (hp:Δ[p]? =some eV) (h:OpN P Γ o f τ) (k:∀ b u,NC P r ops G l (e.set i ⟨b,u⟩) (lk ((d,fEq (f b)) :: Γ)) (dOf (Δ.set p (τ b)))) (hw:cA ops Γ o:=by exact trivial) (hd:o.dst=some d:=by exact rfl):
 NC P r ops G ((i,o,odN [p] true (fun b _=>fEq (f b)) (fun b _=>[τ b])) :: l) e (lk Γ) (dOf Δ):=N_new rfl (fun _=>rfl) (fun _=>rfl) hw hp hd h k
theorem Mf {d:Nat} {f:Nat->Value} {τ:Nat->Tk} {φ:AJ} (h:OpN P Γ o f τ) (hz:∀ b,Frz (τ b) φ (f b)) (k:∀ b,NC P r ops G l (e.set i b) (lk ((d,φ) :: Γ)) (dOf Δ)) (hw:cA ops Γ o:=by exact trivial) (hd:o.dst=some d:=by exact rfl):
 NC P r ops G ((i,o,odC [] true φ []) :: l) e (lk Γ) (dOf Δ):=N_newF rfl (fun _=>rfl) hw hd h hz k
theorem D1 {d:Nat} (j:Nat) (b:Nat) (u:Value) (Φ:Nat->Value->AJ) (hj:e j=⟨b,u⟩) (h:OpT P Γ [] o (Φ b u)) (k:∀ c,NC P r ops G l (e.set i c) (lk ((d,Φ b u) :: Γ)) (dOf Δ)) (hw:cA ops Γ o:=by exact trivial) (hd:o.dst=some d:=by exact rfl):
 NC P r ops G ((i,o,od1 j [] false Φ (fun _ _=>[])) :: l) e (lk Γ) (dOf Δ):=N_y (f:=fun _=>[]) (by simp only [od1,hj]) (fun _=>rfl) hw hd h k
end
open Go.SX
structure cM (Q:Prop):Prop where
 h:Q
def tb:List (Nat × Nat)->Nat->Option Nat
 | [],_=>none
 | (a,b) :: l,t=>bif Nat.beq a t then some b else tb l t
theorem vX:∀ {l:List (Nat × Nat)} {t k:Nat},tb l t=some k->(t,k)∈l
 | (a,b) :: l,t,k,h=>by
  unfold tb at h;cases e:Nat.beq a t with
  | true=>rw [e]at h;cases h;have:=a1D e;subst this;exact .head _
  | false=>rw [e]at h;exact .tail _ (vX h)
def tb3:List (Nat × Nat × Nat)->Nat->Nat->Option Nat
 | [],_,_=>none
 | (a,b,c) :: l,s,f=>bif Nat.beq a s && Nat.beq b f then some c else tb3 l s f
theorem aEB:∀ {l:List (Nat × Nat × Nat)} {s f k:Nat},tb3 l s f=some k->(s,f,k)∈l
 | (a,b,c) :: l,s,f,k,h=>by
  unfold tb3 at h;cases e:Nat.beq a s && Nat.beq b f with
  | true=>
   rw [e]at h;cases h
   have e:=Bool.and_eq_true_iff.1 e;have:=a1D e.1;subst this;have:=a1D e.2;subst this;exact .head _
  | false=>rw [e]at h;exact .tail _ (aEB h)
def onb (x:Option Nat) (n:Nat):Bool:=match x with | some m=>Nat.beq m n | none=>false
theorem aBf {x:Option Nat} {n:Nat} (h:onb x n=true):x=some n:=by
 cases x with
 | none=>cases h
 | some m=>rw [a1D h]
section
variable {P:Program}
def slB (P:Program) (t:TypeId):Option Nat:=match P.underlying t with | some (.slice e)=>some e | _=>none
theorem us_of {l:List (Nat × Nat)} (h:(l.all fun p=>onb (slB P p.1) p.2)=true) {t e:Nat} (k:tb l t=some e):fX P t (.slice e):=by
 have:=aBf (a0t.1 h _ (vX k))
 unfold slB at this
 split at this
 ·rename_i q;cases this;exact q
 ·cases this
theorem el_of {l:List (Nat × Nat)} (h:(l.all fun p=>onb (uN P p.1) p.2)=true) {t e:Nat} (k:tb l t=some e):oX P t e:=aBf (a0t.1 h _ (vX k))
theorem sz_of {l:List (Nat × Nat)} (h:(l.all fun p=>onb (qW P p.1) p.2)=true) {t e:Nat} (k:tb l t=some e):jM P t e:=aBf (a0t.1 h _ (vX k))
theorem ag_of {l:List (Nat × Nat)} (h:(l.all fun p=>aggB P p.1 p.2)=true) {t e:Nat} (k:tb l t=some e):kM P t e:=a0t.1 h _ (vX k)
theorem sc_of {l:List Nat} (h:(l.all fun p=>scalB P p)=true) {t:Nat} (k:(l.any fun p=>Nat.beq p t)=true):Scal P t:=by
 obtain⟨p,hp,e⟩:=List.any_eq_true.1 k
 have:=a1D e;subst this
 exact a0t.1 h _ hp
theorem cb_of {l:List Nat} (h:(l.all fun p=>callB P p)=true) {t:Nat} (k:(l.any fun p=>Nat.beq p t)=true):Ar P t:=by
 obtain⟨p,hp,e⟩:=List.any_eq_true.1 k
 have:=a1D e;subst this
 exact a0t.1 h _ hp
theorem fa_of {l:List (Nat × Nat × Nat)} (h:(l.all fun p=>onb (aBm P p.1 p.2.1) p.2.2)=true) {s f k:Nat} (e:tb3 l s f=some k):sH P s f k:=aBf (a0t.1 h _ (aEB e))
def tb4:List (Nat × Nat × Nat × Nat)->Nat->Option (Nat × Nat × Nat)
 | [],_=>none
 | (a,b) :: l,t=>bif Nat.beq a t then some b else tb4 l t
theorem aHu:∀ {l:List (Nat × Nat × Nat × Nat)} {t:Nat} {k:Nat × Nat × Nat},tb4 l t=some k->(t,k)∈l
 | (a,b) :: l,t,k,h=>by
  unfold tb4 at h;cases e:Nat.beq a t with
  | true=>rw [e]at h;cases h;have:=a1D e;subst this;exact .head _
  | false=>rw [e]at h;exact .tail _ (aHu h)
theorem et_of {l:List (Nat × Nat × Nat × Nat)} (h:(l.all fun p=>elB P p.1 p.2.1 p.2.2.1 p.2.2.2)=true) {t e s b:Nat} (k:tb4 l t=some (e,s,b)):ElT P t e s b:=a0t.1 h _ (aHu k)
end
theorem o_fieldC {α γ:Type} {P:Program} {Γ:Ctx} {o:Oper} {t:Ty α} (t':Ty γ) (L:List (Nat × Nat × Nat)) {y:α} {z:γ} {S f k:Nat} {x:Operand} (ho:o.op= .fieldAddr S x f) (_:(tb3 L S f).isSome=true) (hx:Has Γ x (aB t y)) (hf:sH P S f k) (hs:((t.Al y).drop k).take t'.sz=t'.Al z):OpT P Γ [] o (aB t' z):=jT ho hx hf hs
theorem o_nilP {α:Type} {P:Program} {Γ:Ctx} {o:Oper} {t:Ty α} {y:α} {x:Operand} (ho:o.op= .nilCheck x) (hx:Has Γ x (aB t y)):OpT P Γ [] o (aB t y):=aFQ ho hx (fun _ _ ⟨p,h,_⟩=>⟨p,h⟩)
theorem o_nilE {P:Program} {Γ:Ctx} {o:Oper} {p:Addr} {x:Operand} (ho:o.op= .nilCheck x) (hx:Has Γ x (fEq (.pointer (some p)))):OpT P Γ [] o (fEq (.pointer (some p))):=aFQ ho hx (fun _ _ h=>⟨_,h⟩)
theorem cc {b w:Bool} (h:b=w:=by first | with_reducible assumption | exact rfl | exact yK (by with_reducible assumption) | exact aAg (by with_reducible assumption)):b=w:=h
theorem ct {b:Bool} (h:b=true:=by first | with_reducible assumption | exact rfl | exact aAg (by with_reducible assumption)):b=true:=h
theorem cf {b:Bool} (h:b=false:=by first | with_reducible assumption | exact rfl | exact yK (by with_reducible assumption)):b=false:=h
theorem cn {b w:Bool} (h:b≠w:=by first | exact ne_ft ct | exact ne_tf cf):b≠w:=h
section
variable {P:Program} {β:bC} {n:Nat} {ds:List Deferred} {Γ:Ctx} {Δ:List Tk} {r:Option Nat} {Q Q':Exit->Act->World->Prop} {N F:Act->World->Prop} {ops:Array Oper} {o:Oper} {rest:List Oper}
theorem hl {xs:List Operand} {φs:List AJ} (h:aK Γ xs φs:=by repeat (first | exact aK.nil | apply aK.cons (has rfl))):aK Γ xs φs:=h
theorem Tc {g:Operand} {args:List Operand} {ts:Array TypeId} {f:FuncId} {first captured:Array Value} {φs ψs:List AJ} {Δi Δr Δo:List Tk} {Φ:AJ} {d:Option Nat} (hc:FnS P f ψs Δi Φ (fun _=>Δo)) (k:T β n ds (putG d Φ Γ) (Δo++Δr) (wpListIn (fw r) 0 P ops Q rest))
 (hw:cA ops Γ o:=by first | exact trivial | exact⟨_,_,rfl,rfl,cc⟩) (ho:o.op= .call { callee:= .value g,args:=args.toArray,argTypes:=ts }:=by exact rfl) (hd:o.dst=d:=by exact rfl) (hn:dstOk d n=true:=by exact rfl) (hg:Has Γ g (fEq (.func (.func f) first captured)):=by exact has rfl)
 (hargs:aK Γ args φs:=by exact hl) (hall:first.toList.map fEq++φs++captured.toList.map fEq=ψs:=by exact rfl) (hf:Ar P f:=by exact cb rfl) (hΔ:Δ=Δi++Δr:=by exact rfl):T β n ds Γ Δ (wpListIn (fw r) 0 P ops Q (o :: rest)):=lT hw ho hd hn hg hargs hall hf hc hΔ k
theorem Tp {g:Operand} {args:List Operand} {ts:Array TypeId} {f:FuncId} {first captured:Array Value} {φs ψs:List AJ} {Δi Δr:List Tk} {c:List PanicEntry} (hc:FnP P f ψs Δi c) (k:T β n ds Γ Δr (Q (.panic c))) (hw:cA ops Γ o:=by first | exact trivial | exact⟨_,_,rfl,rfl,cc⟩)
 (ho:o.op= .call { callee:= .value g,args:=args.toArray,argTypes:=ts }:=by exact rfl) (hg:Has Γ g (fEq (.func (.func f) first captured)):=by exact has rfl) (hargs:aK Γ args φs:=by exact hl) (hall:first.toList.map fEq++φs++captured.toList.map fEq=ψs:=by exact rfl) (hf:Ar P f:=by exact cb rfl)
 (hΔ:Δ=Δi++Δr:=by exact rfl):T β n ds Γ Δ (wpListIn (fw r) 0 P ops Q (o :: rest)):=T_callP hw ho hg hargs hall hf hc hΔ k
def AllE (Γ:Ctx) (v:Value):List Nat->Prop
 | []=>True
 | s :: ss=>lk Γ s=some (fEq v)/\AllE Γ v ss
theorem AllE.all {v:Value}:∀ {ss:List Nat},AllE Γ v ss->∀ s∈ss,lk Γ s=some (fEq v)
 | _ :: _,h,_, .head _=>h.1
 | _ :: _,h,s, .tail _ k=>AllE.all h.2 s k
theorem fz {v:Value} {ss:List Nat} (h:AllE Γ v ss:=by repeat (first | exact trivial | refine⟨by exact rfl,?_⟩)):∀ s∈ss,lk Γ s=some (fEq v):=h.all
theorem Tn {d:Nat} {f:Nat->Value} {τ:Nat->Tk} (h:OpN P Γ o f τ) (k:∀ b,T β n ds ((d,fEq (f b)) :: Γ) (τ b :: Δ) (wpListIn (fw r) 0 P ops Q rest)) (hw:cA ops Γ o:=by first | exact trivial | exact⟨_,_,rfl,rfl,cc⟩) (hd:o.dst=some d:=by exact rfl) (hn:Nat.ble (d+1) n=true:=by exact rfl):
 T β n ds Γ Δ (wpListIn (fw r) 0 P ops Q (o :: rest)):=T_new hw hd hn h k
theorem sb {Γ' Γ:Ctx} (h:dW Γ' Γ:=by repeat (first | exact dW.nil | refine Sc ?_)):dW Γ' Γ:=h
theorem Tm {ι:Type} {ok:ι->Prop} {Γf:ι->Ctx} {Δf:ι->List Tk} (i:ι) (h:ok i) (hs:dW (Γf i) Γ:=by exact sb) (hd:Δ=Δf i:=by exact rfl):T β n ds Γ Δ (fun a w=>∃ i,ok i/\AtT β n ds (Γf i) (Δf i) a w):=sE i h hs hd
theorem ij {α:Type} {a b:α} (h:some a=some b):b=a:=(a1T h).symm
theorem ls {n:Nat}:n<n+1:=a1K n
theorem Tl {ι:Type} {c:Code} (ok:ι->Prop) (μ:ι->Nat) (Γf:ι->Ctx) (Δf:ι->List Tk) (i₀:ι) (h₀:ok i₀) (round:∀ i,ok i->T β n ds (Γf i) (Δf i) (c.wpIn (fw r) 0 P (Exit.then (fun a w=>∃ j,(ok j/\μ j<μ i)/\AtT β n ds (Γf j) (Δf j) a w) Q)))
 (hs:dW (Γf i₀) Γ:=by exact sb) (hd:Δ=Δf i₀:=by exact rfl):T β n ds Γ Δ ((Code.loop c).wpIn (fw r) 0 P Q):=aAK ok μ Γf Δf i₀ h₀ hs hd round
theorem To {fn:Func} {Φ:AJ} {Δ':List Tk} {t:Nat} (hr:fn.results=#[.tmp t]:=by exact rfl) (hv:iK Γ t Φ:=by exact bS rfl) (hd:Δ=Δ':=by exact rfl):T β n [] Γ Δ (bodyPost P fn (fM β Φ (fun _=>Δ')) .ret):=dR hr hv hd
theorem Zy {d:Nat} {φ:AJ} (hw:cA ops Γ o) (h:OpT P Γ [] o φ) (hd:o.dst=some d) (hn:Nat.ble (d+1) n=true) (k:T β n ds ((d,φ) :: Γ) Δ (wpListIn (fw r) 0 P ops Q rest)):T β n ds Γ Δ (wpListIn (fw r) 0 P ops Q (o :: rest)):=T_y hw hd hn h k
theorem Zg {d:Nat} {φ:AJ} {c want:Bool} (hg:GW ops Γ o c want) (hc:c=want) (h:OpT P Γ [] o φ) (hd:o.dst=some d) (hn:Nat.ble (d+1) n=true) (k:T β n ds ((d,φ) :: Γ) Δ (wpListIn (fw r) 0 P ops Q rest)):
 T β n ds Γ Δ (wpListIn (fw r) 0 P ops Q (o :: rest)):=T_y (hg.wants hc) hd hn h k
theorem Zk {d:Nat} {c want:Bool} (hg:GW ops Γ o c want) (hc:c≠want) (hd:o.dst=some d) (hn:Nat.ble (d+1) n=true) (k:T β n ds ((d,fEq undef) :: Γ) Δ (wpListIn (fw r) 0 P ops Q rest)):
 T β n ds Γ Δ (wpListIn (fw r) 0 P ops Q (o :: rest)):=eO (hg.unwants hc) hd hn k
theorem Zo {d:Nat} {φ:AJ} {τ:Tk} (i:Nat) (hw:cA ops Γ o) (hτ:Δ[i]? =some τ) (h:OpT P Γ [τ] o φ) (hd:o.dst=some d) (hn:Nat.ble (d+1) n=true) (k:T β n ds ((d,φ) :: Γ) Δ (wpListIn (fw r) 0 P ops Q rest)):
 T β n ds Γ Δ (wpListIn (fw r) 0 P ops Q (o :: rest)):=T_o1 i hw hτ hd hn h k
theorem Zh {d:Nat} {φ:AJ} {τ:Tk} {c want:Bool} (i:Nat) (hg:GW ops Γ o c want) (hc:c=want) (hτ:Δ[i]? =some τ) (h:OpT P Γ [τ] o φ) (hd:o.dst=some d) (hn:Nat.ble (d+1) n=true) (k:T β n ds ((d,φ) :: Γ) Δ (wpListIn (fw r) 0 P ops Q rest)):
 T β n ds Γ Δ (wpListIn (fw r) 0 P ops Q (o :: rest)):=T_o1 i (hg.wants hc) hτ hd hn h k
end
section
variable {P:Program} {r:Option Nat} {ops:Array Oper} {β:bC} {n:Nat} {ds:List Deferred} {Γ:Ctx} {Δ:List Tk} {o:Oper} {l:List NO} {e:Env'} {i:Nat} {G:Env'->Cf->(Nat->Tk)->Prop} {Q:Exit->Act->World->Prop}
theorem Ny {d:Nat} {φ:AJ} (hw:cA ops Γ o) (h:OpT P Γ [] o φ) (hd:o.dst=some d) (k:∀ b,NC P r ops G l (e.set i b) (lk ((d,φ) :: Γ)) (dOf Δ)):
 NC P r ops G ((i,o,odC [] false φ []) :: l) e (lk Γ) (dOf Δ):=N_y rfl (fun _=>rfl) hw hd h k
theorem Ng {d:Nat} {φ:AJ} {c want:Bool} (hg:GW ops Γ o c want) (hc:c=want) (h:OpT P Γ [] o φ) (hd:o.dst=some d) (k:∀ b,NC P r ops G l (e.set i b) (lk ((d,φ) :: Γ)) (dOf Δ)):
 NC P r ops G ((i,o,odC [] false φ []) :: l) e (lk Γ) (dOf Δ):=N_y rfl (fun _=>rfl) (hg.wants hc) hd h k
theorem No {d:Nat} {φ:AJ} {τ:Tk} (p:Nat) (hw:cA ops Γ o) (hp:[p].map (dOf Δ)=[τ]) (h:OpT P Γ [τ] o φ) (hd:o.dst=some d) (k:∀ b,NC P r ops G l (e.set i b) (lk ((d,φ) :: Γ)) (dOf Δ)):
 NC P r ops G ((i,o,odC [p] false φ [eV]) :: l) e (lk Γ) (dOf Δ):=kD (ps:=[p]) rfl (fun _=>rfl) hw hp hd h k
theorem Nh {d:Nat} {φ:AJ} {τ:Tk} {c want:Bool} (p:Nat) (hg:GW ops Γ o c want) (hc:c=want) (hp:[p].map (dOf Δ)=[τ]) (h:OpT P Γ [τ] o φ) (hd:o.dst=some d) (k:∀ b,NC P r ops G l (e.set i b) (lk ((d,φ) :: Γ)) (dOf Δ)):
 NC P r ops G ((i,o,odC [p] false φ [eV]) :: l) e (lk Γ) (dOf Δ):=kD (ps:=[p]) rfl (fun _=>rfl) (hg.wants hc) hp hd h k
theorem Nc {g:Operand} {args:List Operand} {ts:Array TypeId} {f:FuncId} {first captured:Array Value} {φs ψs:List AJ} {Φ:AJ} {d:Nat} (hc:FnS P f ψs [] Φ (fun _=>[])) (k:∀ b,NC P r ops G l (e.set i b) (lk ((d,Φ) :: Γ)) (dOf Δ)) (hw:cA ops Γ o:=by first | exact trivial | exact⟨_,_,rfl,rfl,cc⟩)
 (ho:o.op= .call { callee:= .value g,args:=args.toArray,argTypes:=ts }:=by exact rfl) (hd:o.dst=some d:=by exact rfl) (hg:Has Γ g (fEq (.func (.func f) first captured)):=by exact has rfl) (hargs:aK Γ args φs:=by exact hl) (hall:first.toList.map fEq++φs++captured.toList.map fEq=ψs:=by exact rfl) (hf:Ar P f:=by exact cb rfl):
 NC P r ops G ((i,o,odC [] true Φ []) :: l) e (lk Γ) (dOf Δ):=vH (od:=odC [] true Φ []) rfl (fun _=>rfl) hw ho hd hg hargs hall hf hc k
theorem Nk {d:Nat} {c want:Bool} (hg:GW ops Γ o c want) (hc:c≠want) (hd:o.dst=some d) (k:∀ b,NC P r ops G l (e.set i b) (lk ((d,fEq undef) :: Γ)) (dOf Δ)):NC P r ops G ((i,o,odS) :: l) e (lk Γ) (dOf Δ):=N_skip rfl (hg.unwants hc) hd k
theorem fk {ods:List (Env'->OD)} {us:List Us} (h:cY ods us:=by repeat first | exact cY.nil | apply FkC | apply FkS | apply FkN | apply FkD1 | apply FkD2 | apply FkD3 | apply FkN1 | apply FkN2 | apply FkN3):cY ods us:=h
end
end Go.SW
namespace Go.Dt
open Go.SX Go.SW
abbrev fI (n:Int):AJ:=aW .i64 n
abbrev tI:Ty Int:=cP .i64
structure AT where
 Op:Int
 N:Int
 AO:List AT
inductive rV (m:Mem):Addr->AT->Prop
 | mk (p:Addr) (x:AT) (v2:Value) (q2:Nat->Addr):(∃ u,m.cell p=some u/\(aW .i64 x.Op).p m u)->(∃ u,m.cell (p.add 1)=some u/\(aW .i64 x.N).p m u)->m.cell (p.add 2)=some v2->Sl v2 x.AO.length 3 q2->x.AO.length<=1000000000->(∀ (i:Nat) y,x.AO[i]? =some y->rV m (q2 i) y)->rV m p x
theorem rV.mono {m m':Mem} (h:Mem.le m m'):∀ {p:Addr} {x:AT},rV m p x->rV m' p x:=fun {p x} k=>by
 induction k with
 | mk p x v2 q2 e0 e1 c2 s2 l2 _r2 ih2=>exact .mk p x v2 q2 (let ⟨u,a,b⟩:=e0;⟨u,Mem.cell_mono h a,AJ.mono _ h b⟩) (let ⟨u,a,b⟩:=e1;⟨u,Mem.cell_mono h a,AJ.mono _ h b⟩) (Mem.cell_mono h c2) s2 l2 ih2
def dK (xs:List AT):AJ:=⟨fun m v=>∃ q,Sl v xs.length 3 q/\xs.length<=1000000000/\∀ (i:Nat) y,xs[i]? =some y->rV m (q i) y,fun h ⟨q,h1,h2,h3⟩=>⟨q,h1,h2,fun i y hy=>(h3 i y hy).mono h⟩⟩
theorem kP {xs:List AT}:eE (dK xs):=fun _ _ ⟨_,h,_⟩=>h.isCell
def aN:Ty AT:=⟨3,fun x=>[aW .i64 x.Op,aW .i64 x.N,dK x.AO],fun _=>rfl,fun x=>(aC (aI trivial) (aC (aI trivial) (aC (kP) bD)))⟩
theorem aEQ {m:Mem} {p:Addr} {x:AT}:aN.at m p x ↔ rV m p x:=by
 constructor
 ·rintro⟨cs,⟨c0,r0,rfl,h0,⟨c1,r1,rfl,h1,⟨c2,r2,rfl,h2,hn⟩⟩⟩,hc⟩
  have hn:r2=[]:=hn;subst hn;obtain⟨q2,s2,l2,a2⟩:=h2;exact .mk p x c2 q2 ⟨c0,hc 0 _ rfl,h0⟩ ⟨c1,hc 1 _ rfl,h1⟩ (hc 2 _ rfl) s2 l2 a2
 ·rintro⟨p,x,v2,q2,⟨u0,g0,e0⟩,⟨u1,g1,e1⟩,g2,s2,l2,a2⟩
  refine⟨[u0,u1,v2],⟨u0,[u1,v2],rfl,e0,⟨u1,[v2],rfl,e1,⟨v2,[],rfl,⟨q2,s2,l2,a2⟩,rfl⟩⟩⟩,fun j c hj=>?_⟩
  match j,hj with
  | 0,hj=>cases hj;exact g0
  | 1,hj=>cases hj;exact g1
  | 2,hj=>cases hj;exact g2
  | j+3,hj=>simp at hj
theorem iB {xs:List AT}:dK xs=fSl aN xs:=AJ.ext' fun m v=>by
 constructor
 ·rintro⟨q,h1,h2,h3⟩;exact⟨q,h1,h2,fun i x hx=>aEQ.2 (h3 i x hx)⟩
 ·rintro⟨q,h1,h2,h3⟩;exact⟨q,h1,h2,fun i x hx=>aEQ.1 (h3 i x hx)⟩
theorem yG {φ:AJ} {xs:List AT} (h:Ent φ (fSl aN xs)):Ent φ (dK xs):=by rw [iB];exact h
structure AV where
 Op:Int
 N:Int
 AW:List AT
 AO:List Int
def aY:Ty AV:=⟨4,fun x=>[aW .i64 x.Op,aW .i64 x.N,fSl aN x.AW,fSl (cP .i64) x.AO],fun _=>rfl,fun x=>(aC (aI trivial) (aC (aI trivial) (aC (aP) (aC (aP) bD))))⟩
structure An where
 At:Int
 Ap:Int
def bX:Ty An:=⟨2,fun x=>[aW .i64 x.At,aW .i64 x.Ap],fun _=>rfl,fun x=>(aC (aI trivial) (aC (aI trivial) bD))⟩
structure Am where
 In:Int
 AU:Int
def bQ:Ty Am:=⟨2,fun x=>[aW .i64 x.In,aW .i64 x.AU],fun _=>rfl,fun x=>(aC (aI trivial) (aC (aI trivial) bD))⟩
structure Ai where
 At:Int
 Ab:List Int
 AU:Int
def bF:Ty Ai:=⟨3,fun x=>[aW .i64 x.At,fSl (cP .i64) x.Ab,aW .i64 x.AU],fun _=>rfl,fun x=>(aC (aI trivial) (aC (aP) (aC (aI trivial) bD)))⟩
structure AN where
 AQ:List An
 AS:List Am
 AP:List Ai
def aE:Ty AN:=⟨3,fun x=>[fSl bX x.AQ,fSl bQ x.AS,fSl bF x.AP],fun _=>rfl,fun x=>(aC (aP) (aC (aP) (aC (aP) bD)))⟩
structure AI where
 AH:List ByteArray
 AD:List AV
 AF:List AN
 AG:Int
def cK:Ty AI:=⟨4,fun x=>[fSl aL x.AH,fSl aY x.AD,fSl aE x.AF,aW .i64 x.AG],fun _=>rfl,fun x=>(aC (aP) (aC (aP) (aC (aP) (aC (aI trivial) bD))))⟩
structure Ah where
 Op:Int
 N:Int
 AW:List AT
 AO:List Int
 AM:List Int
def bH:Ty Ah:=⟨5,fun x=>[aW .i64 x.Op,aW .i64 x.N,fSl aN x.AW,fSl (cP .i64) x.AO,fSl (cP .i64) x.AM],fun _=>rfl,fun x=>(aC (aI trivial) (aC (aI trivial) (aC (aP) (aC (aP) (aC (aP) bD)))))⟩
structure AE where
 AH:List ByteArray
 AM:List Int
 AD:List Ah
 AF:List AN
 AG:Int
def lF:Ty AE:=⟨5,fun x=>[fSl aL x.AH,fSl (cP .i64) x.AM,fSl bH x.AD,fSl aE x.AF,aW .i64 x.AG],fun _=>rfl,fun x=>(aC (aP) (aC (aP) (aC (aP) (aC (aP) (aC (aI trivial) bD)))))⟩
structure SolSpot where
 In:Int
 Dead:Bool
structure yQ where
 Kind:Int
 N:Int
structure SolGroup where
 Def:Int
 At:Int
 Env:List yQ
structure SolMsg where
 Vals:List yQ
structure SolQ where
 Group:Int
 Index:Int
 At:Int
 Queue:List SolMsg
structure SolWait where
 At:Int
 AU:Int
 Env:List yQ
structure Sol where
 AS:List SolSpot
 Groups:List SolGroup
 AQ:List SolQ
 Waits:List SolWait
structure Af where
 AE:AE
 Aa:List (List Int)
 AZ:List (List Int)
 AX:List Bool
 AK:AI
def aAO:Ty Af:=⟨12,fun x=>lF.Al x.AE++[fSl (tSl (cP .i64)) x.Aa,fSl (tSl (cP .i64)) x.AZ,fSl bE x.AX]++cK.Al x.AK,fun _=>rfl,fun x=>(aCh (aCh (lF.cell x.AE) (aC (aP) (aC (aP) (aC (aP) bD)))) (cK.cell x.AK))⟩
structure Ref07_opener where
 f:AE
 AX:List Bool
 Aa:List (List Int)
 Ak:List Int
 AZ:List (List Int)
 p:AI
 bad:Bool
structure Aj where
 p:AI
 Ak:List Int
 Aq:List Int
 Ao:List Int
 bad:Bool
structure Ae where
 p:AI
 Ak:List Int
 AR:List Bool
 Ad:List Bool
def bR:Ty Ae:=⟨7,fun x=>cK.Al x.p++[fSl (cP .i64) x.Ak,fSl bE x.AR,fSl bE x.Ad],fun _=>rfl,fun x=>(aCh (cK.cell x.p) (aC (aP) (aC (aP) (aC (aP) bD))))⟩
structure aE0 where
 Deed:Int
 At:Int
 N:Int
 M:Int
 Vals:List yQ
structure Flat_machine where
 Sol:Sol
 v:Value
 events:List aE0
 work:Int
structure Scope_speaks where
def aJM:Ty Scope_speaks:=⟨0,fun x=>[],fun _=>rfl,fun x=>bD⟩
structure Scope_travels where
def aKw:Ty Scope_travels:=⟨0,fun x=>[],fun _=>rfl,fun x=>bD⟩
structure Scope_decides where
def aIR:Ty Scope_decides:=⟨0,fun x=>[],fun _=>rfl,fun x=>bD⟩
structure Scope_declares where
def aJ3:Ty Scope_declares:=⟨0,fun x=>[],fun _=>rfl,fun x=>bD⟩
structure Scope_flaw where
 e:Int
structure Sol_flaw where
 e:Int
structure Sol_machine where
 Sol:Sol
 p:AI
 Ak:List Int
 groups:List Int
 acts:aG Int Value
 events:List aE0
 work:Int
structure Sol_job where
 node:Int
 at_:Int
 env:List yQ
end Go.Dt
namespace Go.SW
open Go.SX
section
variable {P:Program} {β:bC} {n:Nat} {Γ:Ctx} {Δ:List Tk}
theorem pG {fn:Func} {Φ ψ:AJ} {Δ':List Tk} {t u b sz:Nat} {ty ty':TypeId} {φs:List AJ} (hr:fn.results=#[.cell t ty, .tmp u]) (hT:kM P ty sz) (hz:φs.length=sz) (hv:iK Γ t (fEq (ptr b))) (hu:iK Γ u ψ) (he:Ent (dV φs) Φ) (hd:Δ=aA b ty' φs :: Δ'):
 T β n [] Γ Δ (bodyPost P fn (fM β (cV [Φ,ψ]) (fun _=>Δ')) .ret):=fun m L a w hF hL hS=>by
 subst hd
 obtain⟨χ,h1,h2⟩:=hv
 obtain⟨v,h3,h4⟩:=hF.get t χ h1
 have h5:v=ptr b:=h2 m v h4
 subst h5
 obtain⟨_,g1,g2⟩:=hu
 obtain⟨z,g3,g4⟩:=hF.get u _ g1
 obtain⟨cs,R,rfl,h6,h7⟩:=yC hL
 have hlen:cs.length=sz:=by rw [h6.length,hz]
 have hc:∀ (j:Nat) c,cs[j]? =some c->w.cell? (Addr.add ⟨b,0,none⟩ j)=some c:=fun j c hj=>by
  rw [uO];exact hS.own_cell (k:=0) (b:=b) (c:=cs.toArray) (T:=ty') (fz:=(0,0)) rfl rfl rfl (by simpa using hj)
 refine⟨hF.Ad, .tuple #[.agg cs.toArray,z],?_,m,R,hS.drop (List.sublist_cons_self _ _),_,rfl,⟨[.agg cs.toArray,z],rfl,_,[z],rfl,he m _ ⟨cs,rfl,h6⟩,z,[],rfl,g2 m z g4,rfl⟩,h7⟩
 have h8:=SX.run_loadCellsFrom (P:=P) (w:=w) (p:=⟨b,0,none⟩) cs 0 #[] (fun j v hj=>by simpa using hc j v hj)
 have hload:(loadVar ty ⟨b,0,none⟩).run P w= .ok (.agg cs.toArray) w:=by
  rw [hlen]at h8;simp [loadVar,a1W,aCu hT,aDM hT,loadCells,Sem.run,pure,h8]
 simp [results,hr,a0b,h3,g3,a1W,Sem.run,pure,ptr,asAddr]
 rw [hload]
 rfl
end
section
variable {P:Program} {Γ:Ctx} {o:Oper}
theorem aKV {T e:TypeId} {a:Option Addr} (hT:fX P T (.pointer e)) (n:Nat) (w:World):(Op.equalIn (n+1) T (.pointer a) (.pointer none)).run P w= .ok a.isNone w:=by
 cases a <;> simp [Op.equalIn,a1W,run_underlying hT,Sem.run,pure]
theorem aIi {T e:TypeId} {a:Option Addr} (hT:fX P T (.pointer e)) (w:World):(Op.equal T (.pointer a) (.pointer none)).run P w= .ok a.isNone w:=aKV hT 9999 w
theorem opt_val {α:Type} {t:Ty α} {y:Option α} {m:Mem} {v:Value} (h:(fOpt t y).p m v):∃ a,v= .pointer a/\a.isNone=y.isNone:=by
 rcases h with⟨rfl,rfl⟩ | ⟨z,rfl,h⟩
 ·exact⟨none,rfl,rfl⟩
 ·obtain⟨a,rfl,_⟩:=h;exact⟨some a,rfl,rfl⟩
theorem aDi {α:Type} {t:Ty α} {T U e:TypeId} {x:Operand} {y:Option α} (ho:o.op= .binOp .eql T x (.const (.pointer none)) U) (hx:Has Γ x (fOpt t y)) (hT:fX P T (.pointer e)):OpT P Γ [] o (aR y.isNone):=
 eD (by rw [ho];rfl) fun β m a w he _=>by
  obtain⟨b,h1,h2⟩:=opt_val (he.get hx (by rw [ho];simp [Op.operands]))
  refine⟨.bool b.isNone,?_,by rw [h2];rfl⟩
  simp only [execOp,ho,h1];rw [show a.eval (.const (.pointer none))= .pointer none from rfl,a1W,a1W];cases b <;> simp [eqGuard,binOp,a1W,aIi hT,Sem.run,pure]
end
open Go.SX
section
variable {P:Program} {Γ:Ctx} {o:Oper}
def fld2 (P:Program) (f:Field) (n:Nat):Bool:=f.name != "_" && Nat.beq f.offset n && (match P.underlying f.type with | some (.int .i64)=>true | _=>false)
def two (P:Program) (T:TypeId):Bool:=!P.stoodInHeld T && !P.eqGuardType P.depth T && match P.underlying T with
 | some (.struct fs)=>(match fs.toList with | [f,g]=>fld2 P f 0 && fld2 P g 1 | _=>false)
 | _=>false
theorem aFU {f:Field} {n:Nat} (h:fld2 P f n=true):f.name≠ "_" /\f.offset=n/\P.underlying f.type=some (.int .i64):=by
 simp only [fld2,a0k,bne_iff_ne,ne_eq]at h
 refine⟨h.1.1,a1D h.1.2,?_⟩
 have h2:=h.2
 split at h2
 ·assumption
 ·cases h2
theorem two_eq {T:TypeId} (h:two P T=true):∃ f g,P.stoodInHeld T=false/\P.eqGuardType P.depth T=false/\P.underlying T=some (.struct (P.fieldsOf T))/\(P.fieldsOf T).toList=[f,g]/\fld2 P f 0=true/\fld2 P g 1=true:=by
 simp only [two,a0k,Bool.not_eq_true']at h
 obtain⟨⟨h1,h2⟩,h3⟩:=h
 split at h3
 ·rename_i fs hu;split at h3
  ·rename_i f g hl;rw [a0k]at h3;exact⟨f,g,h1,h2,by simp [Program.fieldsOf,hu],by simp [Program.fieldsOf,hu,hl],h3.1,h3.2⟩
  ·cases h3
 ·cases h3
theorem aBI {T:TypeId} (hT:P.underlying T=some (.int .i64)) (w:World) {xs:Array Value} {i:Nat} {v:Value} (h:xs[i]? =some v):(part T xs i).run P w= .ok v w:=by
 have:(isAgg T).run P w= .ok false w:=by simp [isAgg,a1W,run_underlying hT,Sem.run,pure]
 simp [part,a1W,this,h,Sem.run,pure]
theorem run_two {T:TypeId} (h:two P T=true) (a b c d:Int) (w:World):
 (Op.equalIn 10000 T (.agg #[.int .i64 a, .int .i64 b]) (.agg #[.int .i64 c, .int .i64 d])).run P w= .ok (decide (a=c) && decide (b=d)) w:=by
 obtain⟨f,g,h1,h2,h3,h4,hf,hg⟩:=two_eq h
 obtain⟨f1,f2,f3⟩:=aFU hf
 obtain⟨g1,g2,g3⟩:=aFU hg
 have e (x y:Int):(x==y)=decide (x=y):=by
  rw [a0l];simp
 rw [run_equalIn_agg w 9999 T _ _ h3 h1,h4]
 simp only [Op.eqFields,a2d f1,a2d g1,a1W,f2,g2]
 rw [aBI f3 w (v:= .int .i64 a) rfl,a1V,aBI f3 w (v:= .int .i64 c) rfl,a1V,run_equalIn_int w 9998 f.type _ _ _ _ f3,a1V,e]
 cases hac:decide (a=c)
 ·simp [Sem.run,pure]
 ·simp only [a0o,Bool.false_eq_true,if_false,a0p,a1W];rw [aBI g3 w (v:= .int .i64 b) rfl,a1V,aBI g3 w (v:= .int .i64 d) rfl,a1V,run_equalIn_int w 9998 g.type _ _ _ _ g3,a1V,e];cases decide (b=d) <;> simp [Sem.run,pure]
theorem st_two {α:Type} {t:Ty α} {u:α} {i j:Int} (hl:t.Al u=[aW .i64 i,aW .i64 j]) {m:Mem} {v:Value} (h:(fSt t u).p m v):v= .agg #[.int .i64 i, .int .i64 j]:=by
 obtain⟨cs,rfl,h2⟩:=h
 rw [hl]at h2
 obtain⟨_,_,rfl,rfl,_,_,rfl,rfl,rfl⟩:=h2
 rfl
theorem aFt {α:Type} {t:Ty α} {T U:TypeId} {x y:Operand} {u v:α} {i j i' j':Int} (ho:o.op= .binOp .neq T x y U) (hx:Has Γ x (fSt t u)) (hy:Has Γ y (fSt t v)) (hl:t.Al u=[aW .i64 i,aW .i64 j]) (hl':t.Al v=[aW .i64 i',aW .i64 j']) (hT:two P T=true):
 OpT P Γ [] o (aR !(decide (i=i') && decide (j=j'))):=
 eD (by rw [ho];rfl) fun β m a w he _=>by
  have h1:=st_two hl (he.get hx (by rw [ho];simp [Op.operands]))
  have h2:=st_two hl' (he.get hy (by rw [ho];simp [Op.operands]))
  obtain⟨_,_,_,hg,_⟩:=two_eq hT;refine⟨.bool !(decide (i=i') && decide (j=j')),?_,rfl⟩;simp only [execOp,ho,h1,h2,a1W,run_eqGuard_agg w .neq T _ _ _ _ hg,a1V,run_neq_struct,run_two hT];rfl
end
section
variable {P:Program} {r:Option Nat} {ops:Array Oper} {Γ:Ctx} {Δ:List Tk} {o:Oper} {l:List NO} {e:Env'} {i:Nat} {od:Env'->OD} {G:Env'->Cf->(Nat->Tk)->Prop}
theorem N_callT {g:Operand} {args:List Operand} {ts:Array TypeId} {f:FuncId} {first captured:Array Value} {φs ψs:List AJ} {Φ:AJ} {p d:Nat} {τ:Tk} {Δ':Oc->List Tk} (hod:od e= .op [p] true (fun _=>Φ) Δ') (hτ:∀ b,Δ' b=[eV]) (hw:cA ops Γ o) (hp:Δ[p]? =some τ)
 (ho:o.op= .call { callee:= .value g,args:=args.toArray,argTypes:=ts }) (hd:o.dst=some d)
 (hg:Has Γ g (fEq (.func (.func f) first captured))) (hargs:aK Γ args φs) (hall:first.toList.map fEq++φs++captured.toList.map fEq=ψs) (hf:Ar P f) (hc:FnS P f ψs [τ] Φ (fun _=>[]))
 (k:∀ b,NC P r ops G l (e.set i b) (lk ((d,Φ) :: Γ)) (dOf (Δ.set p eV))):NC P r ops G ((i,o,od) :: l) e (lk Γ) (dOf Δ):=by
 refine⟨?_,fun b=>?_⟩
 ·simp only [hod];refine⟨hw,?_,fun b=>by rw [hτ];rfl⟩
  intro β n ds m L R a w K Q hF hL hS hk;have hL:bK [τ] m L:=by
   simp only [a1a,List.map_nil,dOf,hp,a1Q]at hL;exact hL
  have he:=pO hF;have hge:a.eval g=_:=he.get hg (by rw [ho];simp [Op.operands,Call.operands])
  have hall':aT ψs m (first.toList++args.map a.eval++captured.toList):=hall ▸ (((iV _).append (hargs.all' he (by rw [ho];intro x hx;simp [Op.operands,Call.operands,hx]))).append (iV _))
  refine pS (L:=L) ho hge rfl hf (hc m L _ hall' hL) hS (fun m' L' v w' hle ⟨u,hv,h3,h4⟩ hS'=>?_) (fun m' L' c w' _ ⟨u,hv,_⟩ _=>by cases hv) (fun m' L' ⟨u,hv,_⟩=>by cases hv)
  cases hv;have h4:L'=[]:=h4;subst h4;exact hk default m' [] v w' hle h3 (by simp only [OD.wr,if_true];rw [hτ];exact⟨[],[],rfl,rfl,rfl⟩) hS'
 ·have hlt:=(a0K.1 hp).1;simp only [hod,fH,eT,if_true,hd,hτ];rw [aBG hlt];exact k b
end
end Go.SW
namespace Go.Proofs.YtgidgoahhepmlaaGreat
open Go.SX Go.SW Go.Dt
theorem bV:Tryz.prog.follows .mixedOrders=true:=by kernel_rfl
theorem aJs:iE Tryz.prog 113 [(0,5),(5,1),(6,1),(7,1),(8,4)] (.agg #[.slice none 0 0, .slice none 0 0, .slice none 0 0, .slice none 0 0, .int .i64 0, .slice none 0 0, .slice none 0 0, .slice none 0 0, .slice none 0 0, .slice none 0 0, .slice none 0 0, .int .i64 0]):=⟨(by kernel_rfl:gT Tryz.prog 113=some [(0,5),(5,1),(6,1),(7,1),(8,4)]),(by kernel_rfl:cH Tryz.prog 113=some (.agg #[.slice none 0 0, .slice none 0 0, .slice none 0 0, .slice none 0 0, .int .i64 0, .slice none 0 0, .slice none 0 0, .slice none 0 0, .slice none 0 0, .slice none 0 0, .slice none 0 0, .int .i64 0]))⟩
theorem aIg:iE Tryz.prog 131 [(0,4),(4,1),(5,1),(6,1)] (.agg #[.slice none 0 0, .slice none 0 0, .slice none 0 0, .int .i64 0, .slice none 0 0, .slice none 0 0, .slice none 0 0]):=⟨(by kernel_rfl:gT Tryz.prog 131=some [(0,4),(4,1),(5,1),(6,1)]),(by kernel_rfl:cH Tryz.prog 131=some (.agg #[.slice none 0 0, .slice none 0 0, .slice none 0 0, .int .i64 0, .slice none 0 0, .slice none 0 0, .slice none 0 0]))⟩
theorem aKx:iE Tryz.prog 207 [] (.agg #[]):=⟨(by kernel_rfl:gT Tryz.prog 207=some []),(by kernel_rfl:cH Tryz.prog 207=some (.agg #[]))⟩
theorem aJF:iE Tryz.prog 208 [] (.agg #[]):=⟨(by kernel_rfl:gT Tryz.prog 208=some []),(by kernel_rfl:cH Tryz.prog 208=some (.agg #[]))⟩
theorem aJZ:iE Tryz.prog 236 [] (.agg #[]):=⟨(by kernel_rfl:gT Tryz.prog 236=some []),(by kernel_rfl:cH Tryz.prog 236=some (.agg #[]))⟩
theorem aKU:iE Tryz.prog 237 [] (.agg #[]):=⟨(by kernel_rfl:gT Tryz.prog 237=some []),(by kernel_rfl:cH Tryz.prog 237=some (.agg #[]))⟩
theorem aK9:iE Tryz.prog 245 [(0,1)] (.agg #[.int .i64 0]):=⟨(by kernel_rfl:gT Tryz.prog 245=some [(0,1)]),(by kernel_rfl:cH Tryz.prog 245=some (.agg #[.int .i64 0]))⟩
theorem aDp:iE Tryz.prog 26 [(0,1),(1,1),(2,1),(3,1)] (.agg #[.slice none 0 0, .slice none 0 0, .slice none 0 0, .int .i64 0]):=⟨(by kernel_rfl:gT Tryz.prog 26=some [(0,1),(1,1),(2,1),(3,1)]),(by kernel_rfl:cH Tryz.prog 26=some (.agg #[.slice none 0 0, .slice none 0 0, .slice none 0 0, .int .i64 0]))⟩
theorem aGC:iE Tryz.prog 30 [(0,1),(1,1),(2,1),(3,1),(4,1)] (.agg #[.slice none 0 0, .slice none 0 0, .slice none 0 0, .slice none 0 0, .int .i64 0]):=⟨(by kernel_rfl:gT Tryz.prog 30=some [(0,1),(1,1),(2,1),(3,1),(4,1)]),(by kernel_rfl:cH Tryz.prog 30=some (.agg #[.slice none 0 0, .slice none 0 0, .slice none 0 0, .slice none 0 0, .int .i64 0]))⟩
theorem ty_bu_54:iE Tryz.prog 54 [(0,1),(1,1),(2,1),(3,1),(4,1)] (.agg #[.int .i64 0, .int .i64 0, .slice none 0 0, .slice none 0 0, .slice none 0 0]):=⟨(by kernel_rfl:gT Tryz.prog 54=some [(0,1),(1,1),(2,1),(3,1),(4,1)]),(by kernel_rfl:cH Tryz.prog 54=some (.agg #[.int .i64 0, .int .i64 0, .slice none 0 0, .slice none 0 0, .slice none 0 0]))⟩
theorem ty_bu_65:iE Tryz.prog 65 [(0,1),(1,1),(2,1),(3,1)] (.agg #[.int .i64 0, .int .i64 0, .slice none 0 0, .slice none 0 0]):=⟨(by kernel_rfl:gT Tryz.prog 65=some [(0,1),(1,1),(2,1),(3,1)]),(by kernel_rfl:cH Tryz.prog 65=some (.agg #[.int .i64 0, .int .i64 0, .slice none 0 0, .slice none 0 0]))⟩
theorem aFC:iE Tryz.prog 71 [(0,1),(1,1),(2,1)] (.agg #[.int .i64 0, .int .i64 0, .slice none 0 0]):=⟨(by kernel_rfl:gT Tryz.prog 71=some [(0,1),(1,1),(2,1)]),(by kernel_rfl:cH Tryz.prog 71=some (.agg #[.int .i64 0, .int .i64 0, .slice none 0 0]))⟩
theorem ty_bu_77:iE Tryz.prog 77 [(0,1),(1,1),(2,1)] (.agg #[.slice none 0 0, .slice none 0 0, .slice none 0 0]):=⟨(by kernel_rfl:gT Tryz.prog 77=some [(0,1),(1,1),(2,1)]),(by kernel_rfl:cH Tryz.prog 77=some (.agg #[.slice none 0 0, .slice none 0 0, .slice none 0 0]))⟩
theorem vB:kV Tryz.prog 201 bO (.bool false):=⟨3,4,by kernel_rfl,by kernel_rfl,by kernel_rfl⟩
theorem kG:kV Tryz.prog 273 kStr (.bool false):=⟨9,4,by kernel_rfl,by kernel_rfl,by kernel_rfl⟩
theorem qU:kV Tryz.prog 55 bO (.slice none 0 0):=⟨3,27,by kernel_rfl,by kernel_rfl,by kernel_rfl⟩
theorem aCk:niB Tryz.prog 207=true:=by kernel_rfl
theorem aDe:niB Tryz.prog 208=true:=by kernel_rfl
theorem aHr:niB Tryz.prog 235=true:=by kernel_rfl
theorem aHH:niB Tryz.prog 236=true:=by kernel_rfl
theorem aF1:niB Tryz.prog 237=true:=by kernel_rfl
theorem aFK:niB Tryz.prog 245=true:=by kernel_rfl
theorem aJG:two Tryz.prog 135=true:=by kernel_rfl
theorem aH0:two Tryz.prog 84=true:=by kernel_rfl
theorem aJS:fX Tryz.prog 4 .bool:=(by kernel_rfl:Tryz.prog.underlying 4=some .bool)
theorem aF4:Tryz.prog.underlying 20=some (.interface ((Tryz.prog.underlying 20).elim #[] fun | .interface ms=>ms | _=>#[])):=by kernel_rfl
theorem aHx:Tryz.prog.underlying 205=some (.interface ((Tryz.prog.underlying 205).elim #[] fun | .interface ms=>ms | _=>#[])):=by kernel_rfl
theorem aDQ:fX Tryz.prog 109 (.pointer 113):=(by kernel_rfl:Tryz.prog.underlying 109=some (.pointer 113))
theorem aAi:fX Tryz.prog 9 .string:=(by kernel_rfl:Tryz.prog.underlying 9=some .string)
theorem aEJ:cH Tryz.prog 207=some (.agg #[]):=by kernel_rfl
theorem aE8:cH Tryz.prog 208=some (.agg #[]):=by kernel_rfl
theorem aI4:cH Tryz.prog 236=some (.agg #[]):=by kernel_rfl
theorem aJO:cH Tryz.prog 237=some (.agg #[]):=by kernel_rfl
theorem aJ6:cH Tryz.prog 245=some (.agg #[.int .i64 0]):=by kernel_rfl
theorem aIc:SX.Zero Tryz.prog 135 (.agg #[.int .i64 0, .int .i64 0]):=(by kernel_rfl:cH Tryz.prog 135=some (.agg #[.int .i64 0, .int .i64 0]))
theorem aJa:SX.Zero Tryz.prog 201 (.map none):=(by kernel_rfl:cH Tryz.prog 201=some (.map none))
theorem aKi:SX.Zero Tryz.prog 234 (.nilFunc):=(by kernel_rfl:cH Tryz.prog 234=some (.nilFunc))
theorem aK0:SX.Zero Tryz.prog 245 (.agg #[.int .i64 0]):=(by kernel_rfl:cH Tryz.prog 245=some (.agg #[.int .i64 0]))
theorem aHN:SX.Zero Tryz.prog 26 (.agg #[.slice none 0 0, .slice none 0 0, .slice none 0 0, .int .i64 0]):=(by kernel_rfl:cH Tryz.prog 26=some (.agg #[.slice none 0 0, .slice none 0 0, .slice none 0 0, .int .i64 0]))
theorem aAb:SX.Zero Tryz.prog 27 (.slice none 0 0):=(by kernel_rfl:cH Tryz.prog 27=some (.slice none 0 0))
theorem aIF:SX.Zero Tryz.prog 276 (.nilFunc):=(by kernel_rfl:cH Tryz.prog 276=some (.nilFunc))
theorem aBo:SX.Zero Tryz.prog 3 (.int .i64 0):=(by kernel_rfl:cH Tryz.prog 3=some (.int .i64 0))
theorem aD0:SX.Zero Tryz.prog 30 (.agg #[.slice none 0 0, .slice none 0 0, .slice none 0 0, .slice none 0 0, .int .i64 0]):=(by kernel_rfl:cH Tryz.prog 30=some (.agg #[.slice none 0 0, .slice none 0 0, .slice none 0 0, .slice none 0 0, .int .i64 0]))
theorem aCa:SX.Zero Tryz.prog 31 (.int .i64 0):=(by kernel_rfl:cH Tryz.prog 31=some (.int .i64 0))
theorem aDh:SX.Zero Tryz.prog 4 (.bool false):=(by kernel_rfl:cH Tryz.prog 4=some (.bool false))
theorem ty_ze_45:SX.Zero Tryz.prog 45 (.slice none 0 0):=(by kernel_rfl:cH Tryz.prog 45=some (.slice none 0 0))
theorem zD:SX.Zero Tryz.prog 54 (.agg #[.int .i64 0, .int .i64 0, .slice none 0 0, .slice none 0 0, .slice none 0 0]):=(by kernel_rfl:cH Tryz.prog 54=some (.agg #[.int .i64 0, .int .i64 0, .slice none 0 0, .slice none 0 0, .slice none 0 0]))
theorem aHY:SX.Zero Tryz.prog 55 (.map none):=(by kernel_rfl:cH Tryz.prog 55=some (.map none))
theorem ty_ze_63:SX.Zero Tryz.prog 63 (.nilFunc):=(by kernel_rfl:cH Tryz.prog 63=some (.nilFunc))
theorem sI:SX.Zero Tryz.prog 65 (.agg #[.int .i64 0, .int .i64 0, .slice none 0 0, .slice none 0 0]):=(by kernel_rfl:cH Tryz.prog 65=some (.agg #[.int .i64 0, .int .i64 0, .slice none 0 0, .slice none 0 0]))
theorem hO:SX.Zero Tryz.prog 71 (.agg #[.int .i64 0, .int .i64 0, .slice none 0 0]):=(by kernel_rfl:cH Tryz.prog 71=some (.agg #[.int .i64 0, .int .i64 0, .slice none 0 0]))
theorem uD:SX.Zero Tryz.prog 77 (.agg #[.slice none 0 0, .slice none 0 0, .slice none 0 0]):=(by kernel_rfl:cH Tryz.prog 77=some (.agg #[.slice none 0 0, .slice none 0 0, .slice none 0 0]))
theorem sJ:SX.Zero Tryz.prog 81 (.agg #[.int .i64 0, .slice none 0 0, .int .i64 0]):=(by kernel_rfl:cH Tryz.prog 81=some (.agg #[.int .i64 0, .slice none 0 0, .int .i64 0]))
theorem vL:SX.Zero Tryz.prog 84 (.agg #[.int .i64 0, .int .i64 0]):=(by kernel_rfl:cH Tryz.prog 84=some (.agg #[.int .i64 0, .int .i64 0]))
def aD9 (b:Nat) (x:Ae) (v0 v1 v2:Value):List Tk:=[aA b 131 [fSl aL x.p.AH,fSl aY x.p.AD,fSl aE x.p.AF,aW .i64 x.p.AG,fEq v0,fEq v1,fEq v2],aD v0 3 (cP .i64) x.Ak,aD v1 4 bE x.AR,aD v2 4 bE x.Ad]
def aEf (b:Nat) (x:Ae) (v0 v1:Value):List Tk:=[tEx (aD9 b x v0 v1)]
def aEx (b:Nat) (x:Ae) (v0:Value):List Tk:=[tEx (aEf b x v0)]
def aBP (b:Nat) (x:Ae):Tk:=tEx (aEx b x)
theorem wJ {β:bC} {n:Nat} {ds:List Deferred} {Γ:Ctx} {Δ:List Tk} {F:Act->World->Prop} {b:Nat} {x:Ae} (h:∀ v0 v1 v2,T β n ds Γ (aA b 131 [fSl aL x.p.AH,fSl aY x.p.AD,fSl aE x.p.AF,aW .i64 x.p.AG,fEq v0,fEq v1,fEq v2] :: aD v0 3 (cP .i64) x.Ak :: aD v1 4 bE x.AR :: aD v2 4 bE x.Ad :: Δ) F):T β n ds Γ (aBP b x :: Δ) F:=mV (fun v0=>mV (fun v1=>mV (fun v2=>h v0 v1 v2)))
theorem xN {β:bC} {n:Nat} {ds:List Deferred} {Γ:Ctx} {Δ:List Tk} {F:Act->World->Prop} {b:Nat} {x:Ae} {v0 v1 v2:Value} (h:T β n ds Γ (aBP b x :: Δ) F):T β n ds Γ (aA b 131 [fSl aL x.p.AH,fSl aY x.p.AD,fSl aE x.p.AF,aW .i64 x.p.AG,fEq v0,fEq v1,fEq v2] :: aD v0 3 (cP .i64) x.Ak :: aD v1 4 bE x.AR :: aD v2 4 bE x.Ad :: Δ) F:=nA (f:=aD9 b x v0 v1) v2 (nA (f:=aEf b x v0) v1 (nA (f:=aEx b x) v0 (h)))
def aES (b:Nat) (x:(List Int)) (v0:Value):List Tk:=[aA b 27 [fEq v0],aD v0 3 (cP .i64) x]
def aAV (b:Nat) (x:(List Int)):Tk:=tEx (aES b x)
theorem aDL {β:bC} {n:Nat} {ds:List Deferred} {Γ:Ctx} {Δ:List Tk} {F:Act->World->Prop} {b:Nat} {x:(List Int)} (h:∀ v0,T β n ds Γ (aA b 27 [fEq v0] :: aD v0 3 (cP .i64) x :: Δ) F):T β n ds Γ (aAV b x :: Δ) F:=mV (fun v0=>h v0)
theorem aDq {β:bC} {n:Nat} {ds:List Deferred} {Γ:Ctx} {Δ:List Tk} {F:Act->World->Prop} {b:Nat} {x:(List Int)} {v0:Value} (h:T β n ds Γ (aAV b x :: Δ) F):T β n ds Γ (aA b 27 [fEq v0] :: aD v0 3 (cP .i64) x :: Δ) F:=nA (f:=aES b x) v0 (h)
def aGj (b:Nat) (x:AE) (v0:Value):List Tk:=[aA b 30 [fSl aL x.AH,fSl (cP .i64) x.AM,fEq v0,fSl aE x.AF,aW .i64 x.AG],aD v0 54 bH x.AD]
def aAk (b:Nat) (x:AE):Tk:=tEx (aGj b x)
theorem aAj {β:bC} {n:Nat} {ds:List Deferred} {Γ:Ctx} {Δ:List Tk} {F:Act->World->Prop} {b:Nat} {x:AE} (h:∀ v0,T β n ds Γ (aA b 30 [fSl aL x.AH,fSl (cP .i64) x.AM,fEq v0,fSl aE x.AF,aW .i64 x.AG] :: aD v0 54 bH x.AD :: Δ) F):T β n ds Γ (aAk b x :: Δ) F:=mV (fun v0=>h v0)
theorem zU {β:bC} {n:Nat} {ds:List Deferred} {Γ:Ctx} {Δ:List Tk} {F:Act->World->Prop} {b:Nat} {x:AE} {v0:Value} (h:T β n ds Γ (aAk b x :: Δ) F):T β n ds Γ (aA b 30 [fSl aL x.AH,fSl (cP .i64) x.AM,fEq v0,fSl aE x.AF,aW .i64 x.AG] :: aD v0 54 bH x.AD :: Δ) F:=nA (f:=aGj b x) v0 (h)
def aEl (b:Nat) (x:Af) (v0 v1 v2 v3:Value):List Tk:=[aA b 113 [fSl aL x.AE.AH,fSl (cP .i64) x.AE.AM,fSl bH x.AE.AD,fSl aE x.AE.AF,aW .i64 x.AE.AG,fEq v0,fEq v1,fEq v2,fSl aL x.AK.AH,fEq v3,fSl aE x.AK.AF,aW .i64 x.AK.AG],aD v0 27 (tSl (cP .i64)) x.Aa,aD v1 27 (tSl (cP .i64)) x.AZ,aD v2 4 bE x.AX,aD v3 65 aY x.AK.AD]
def aFk (b:Nat) (x:Af) (v0 v1 v2:Value):List Tk:=[tEx (aEl b x v0 v1 v2)]
def aEs (b:Nat) (x:Af) (v0 v1:Value):List Tk:=[tEx (aFk b x v0 v1)]
def aFp (b:Nat) (x:Af) (v0:Value):List Tk:=[tEx (aEs b x v0)]
def lB (b:Nat) (x:Af):Tk:=tEx (aFp b x)
theorem mG {β:bC} {n:Nat} {ds:List Deferred} {Γ:Ctx} {Δ:List Tk} {F:Act->World->Prop} {b:Nat} {x:Af} (h:∀ v0 v1 v2 v3,T β n ds Γ (aA b 113 [fSl aL x.AE.AH,fSl (cP .i64) x.AE.AM,fSl bH x.AE.AD,fSl aE x.AE.AF,aW .i64 x.AE.AG,fEq v0,fEq v1,fEq v2,fSl aL x.AK.AH,fEq v3,fSl aE x.AK.AF,aW .i64 x.AK.AG] :: aD v0 27 (tSl (cP .i64)) x.Aa :: aD v1 27 (tSl (cP .i64)) x.AZ :: aD v2 4 bE x.AX :: aD v3 65 aY x.AK.AD :: Δ) F):T β n ds Γ (lB b x :: Δ) F:=mV (fun v0=>mV (fun v1=>mV (fun v2=>mV (fun v3=>h v0 v1 v2 v3))))
theorem eG {β:bC} {n:Nat} {ds:List Deferred} {Γ:Ctx} {Δ:List Tk} {F:Act->World->Prop} {b:Nat} {x:Af} {v0 v1 v2 v3:Value} (h:T β n ds Γ (lB b x :: Δ) F):T β n ds Γ (aA b 113 [fSl aL x.AE.AH,fSl (cP .i64) x.AE.AM,fSl bH x.AE.AD,fSl aE x.AE.AF,aW .i64 x.AE.AG,fEq v0,fEq v1,fEq v2,fSl aL x.AK.AH,fEq v3,fSl aE x.AK.AF,aW .i64 x.AK.AG] :: aD v0 27 (tSl (cP .i64)) x.Aa :: aD v1 27 (tSl (cP .i64)) x.AZ :: aD v2 4 bE x.AX :: aD v3 65 aY x.AK.AD :: Δ) F:=nA (f:=aEl b x v0 v1 v2) v3 (nA (f:=aFk b x v0 v1) v2 (nA (f:=aEs b x v0) v1 (nA (f:=aFp b x) v0 (h))))
def usL:List (Nat × Nat):=[(22,9),(23,65),(24,77),(27,3),(28,54),(45,27),(52,71),(73,135),(74,84),(75,81),(111,4)]
theorem usK:(usL.all fun p=>onb (slB Tryz.prog p.1) p.2)=true:=by kernel_rfl
theorem us {t e:Nat} (h:tb usL t=some e):fX Tryz.prog t (.slice e):=us_of usK h
def elL:List (Nat × Nat):=[(22,1),(23,4),(24,3),(27,1),(28,5),(45,1),(52,3),(73,2),(74,2),(75,3),(111,1)]
theorem elK:(elL.all fun p=>onb (uN Tryz.prog p.1) p.2)=true:=by kernel_rfl
theorem el {t e:Nat} (h:tb elL t=some e):oX Tryz.prog t e:=el_of elK h
def szL:List (Nat × Nat):=[(3,1),(4,1),(26,4),(27,1),(30,5),(31,1),(45,1),(52,1),(54,5),(55,1),(63,1),(65,4),(71,3),(75,1),(77,3),(81,3),(84,2),(135,2),(201,1),(234,1),(245,1),(276,1)]
theorem szK:(szL.all fun p=>onb (qW Tryz.prog p.1) p.2)=true:=by kernel_rfl
theorem sz {t e:Nat} (h:tb szL t=some e):jM Tryz.prog t e:=sz_of szK h
def agL:List (Nat × Nat):=[(26,4),(30,5),(54,5),(65,4),(71,3),(77,3),(81,3),(84,2),(135,2)]
theorem agK:(agL.all fun p=>aggB Tryz.prog p.1 p.2)=true:=by kernel_rfl
theorem ag {t e:Nat} (h:tb agL t=some e):kM Tryz.prog t e:=ag_of agK h
def scL:List (Nat):=[3,4,9,22,23,24,27,28,31,45,51,52,55,63,69,73,74,75,111,129,132,163,201,234,276]
theorem scK:(scL.all fun p=>scalB Tryz.prog p)=true:=by kernel_rfl
theorem sc {t:Nat} (h:(scL.any fun p=>Nat.beq p t)=true):Scal Tryz.prog t:=sc_of scK h
def cbL:List (Nat):=[7,10,11,13,15,18,19,20,21,22,23,24,25,26,27,28,29,30,31,32,33,37,38,45,47,49,50,52,53,54,55,56,57,58,59,76,77,78,81,85,86,87,90,91,106,107,108,109,110,111,120,121,122,123,124,136,137,154,155,162,163,164,165,174,175,176,177,178,179,202,203,204,218,236,237,238,239,240]
theorem cbK:(cbL.all fun p=>callB Tryz.prog p)=true:=by kernel_rfl
theorem cb {t:Nat} (h:(cbL.any fun p=>Nat.beq p t)=true):Ar Tryz.prog t:=cb_of cbK h
def faL:List (Nat × Nat × Nat):=[(26,0,0),(26,1,1),(26,2,2),(26,3,3),(30,0,0),(30,1,1),(30,2,2),(30,3,3),(30,4,4),(54,0,0),(54,1,1),(54,2,2),(54,3,3),(54,4,4),(65,0,0),(65,1,1),(65,2,2),(65,3,3),(71,0,0),(71,1,1),(71,2,2),(77,0,0),(77,1,1),(77,2,2),(81,0,0),(81,1,1),(81,2,2),(84,0,0),(84,1,1),(113,0,0),(113,1,5),(113,2,6),(113,3,7),(113,4,8),(131,0,0),(131,1,4),(131,2,5),(131,3,6),(135,0,0),(135,1,1),(245,0,0)]
theorem faK:(faL.all fun p=>onb (aBm Tryz.prog p.1 p.2.1) p.2.2)=true:=by kernel_rfl
theorem fa {s f t:Nat} (h:tb3 faL s f=some t):sH Tryz.prog s f t:=fa_of faK h
def etL:List (Nat × Nat × Nat × Nat):=[(22,9,1,16),(23,65,4,64),(24,77,3,72),(27,3,1,8),(28,54,5,88),(45,27,1,24),(52,71,3,40),(73,135,2,16),(74,84,2,16),(75,81,3,40),(111,4,1,1)]
theorem etK:(etL.all fun p=>elB Tryz.prog p.1 p.2.1 p.2.2.1 p.2.2.2)=true:=by kernel_rfl
theorem et {t e s b:Nat} (h:tb4 etL t=some (e,s,b)):ElT Tryz.prog t e s b:=et_of etK h
def aIz:List (Nat × Nat × Nat):=[(113,4,0),(131,0,0)]
theorem ox {Γ:Ctx} {o:Oper} {φ:AJ} (h:OpT Tryz.prog Γ [] o φ:=by first
 | exact o_fieldC cK aIz rfl (by exact rfl) hh (fa rfl) (by exact rfl)
 | exact pA rfl hh
 | exact rE rfl hh (sc rfl) (by exact rfl)
 | exact gC rfl hh hh (el (by exact rfl)) (by with_reducible assumption)
 | exact wK rfl hh (us rfl)
 | exact uZ rfl hh cf hh
 | exact yH rfl hh ct hh
 | exact o_lss rfl hh hh
 | exact o_eql rfl hh hh
 | exact xO rfl hh hh
 | exact o_gtr rfl hh hh
 | exact o_leq rfl hh hh
 | exact o_geq rfl hh hh
 | exact o_add rfl hh hh (by with_reducible assumption)
 | exact aBy rfl hh
 | exact aI0 rfl hh (by exact rfl)
 | exact o_not rfl hh
 | exact o_nilP rfl hh
 | exact o_nilE rfl hh
 | exact o_loadS rfl hh (ag (by exact rfl))
 | exact kJ _ rfl hh (fa rfl) rfl
 | exact jT (t':=cP _) rfl hh (fa rfl) (by exact rfl)
 | exact jT (t':=tSl _) rfl hh (fa rfl) (by exact rfl)
 | exact jT (t':=bE) rfl hh (fa rfl) (by exact rfl)
 | exact jT (t':=aL) rfl hh (fa rfl) (by exact rfl)
 | exact jT (t':=tRaw) rfl hh (fa rfl) (by exact rfl)
 | exact o_sub rfl hh hh (by with_reducible assumption)
 | exact o_mul rfl hh hh (by with_reducible assumption)
 | exact o_shr rfl hh hh (by with_reducible assumption)
 | exact o_min rfl hh hh
 | exact o_mulW rfl hh hh
 | exact o_addW rfl hh hh
 | exact o_and rfl hh hh):OpT Tryz.prog Γ [] o φ:=h
theorem oo {Γ:Ctx} {o:Oper} {φ:AJ} {τ:Tk} (h:OpT Tryz.prog Γ [τ] o φ:=by first
 | exact eQ rfl hh (sc rfl) (by exact rfl) Ent.rfl
 | exact o_loadBS rfl hh (ag (by exact rfl)) (by exact rfl) (by exact rfl)
 | exact o_indexR rfl hh hh (el (by exact rfl)) (by with_reducible assumption)
 | exact o_lenR rfl hh (us rfl)):OpT Tryz.prog Γ [τ] o φ:=h
theorem Z1 {P Q:Prop} (q:Q) (h:cM Q->P:=by
 intro q
 first
 | refine Nn ?_
 | refine Ym ?_
 | refine Sr ?_
 | refine Ya ?_
 | refine Zy (by exact trivial) ox (by exact rfl) (by exact rfl) ?_
 | refine Zk (by exact⟨_,_,rfl,rfl,rfl⟩) cn (by exact rfl) (by exact rfl) ?_
 | refine Zg (by exact⟨_,_,rfl,rfl,rfl⟩) cc ox (by exact rfl) (by exact rfl) ?_
 | refine aGg ?_
 | refine pV hh ct ?_
 | refine pI hh cf ?_
 | refine Rr ?_
 | refine aFs ?_
 | refine T_in_ret ?_
 | refine aKd ?_
 | refine T_skip ?_
 | refine T_block ?_
 | refine aFl ?_
 | refine T_in_n ?_
 | refine T_exit ?_
 | refine T_in_hit ?_
 | refine aJd rfl ?_
 | refine T_retc ?_
 | refine N_done rfl ?_
 | refine aLc ?_
 | refine aJ8 ?_
 | refine T_nil ?_
 | refine Zo 0 (by exact trivial) (by exact rfl) oo (by exact rfl) (by exact rfl) ?_
 | refine Zo 1 (by exact trivial) (by exact rfl) oo (by exact rfl) (by exact rfl) ?_
 | refine Zo 2 (by exact trivial) (by exact rfl) oo (by exact rfl) (by exact rfl) ?_
 | refine Zo 3 (by exact trivial) (by exact rfl) oo (by exact rfl) (by exact rfl) ?_
 | refine Zo 4 (by exact trivial) (by exact rfl) oo (by exact rfl) (by exact rfl) ?_
 | refine Zo 5 (by exact trivial) (by exact rfl) oo (by exact rfl) (by exact rfl) ?_
 | refine Zo 6 (by exact trivial) (by exact rfl) oo (by exact rfl) (by exact rfl) ?_
 | refine Zo 7 (by exact trivial) (by exact rfl) oo (by exact rfl) (by exact rfl) ?_
 | refine Zh 0 (by exact⟨_,_,rfl,rfl,rfl⟩) cc (by exact rfl) oo (by exact rfl) (by exact rfl) ?_
 | refine Zh 1 (by exact⟨_,_,rfl,rfl,rfl⟩) cc (by exact rfl) oo (by exact rfl) (by exact rfl) ?_
 | refine Zh 2 (by exact⟨_,_,rfl,rfl,rfl⟩) cc (by exact rfl) oo (by exact rfl) (by exact rfl) ?_
 | refine Zh 3 (by exact⟨_,_,rfl,rfl,rfl⟩) cc (by exact rfl) oo (by exact rfl) (by exact rfl) ?_
 | refine Zh 4 (by exact⟨_,_,rfl,rfl,rfl⟩) cc (by exact rfl) oo (by exact rfl) (by exact rfl) ?_
 | refine Zh 5 (by exact⟨_,_,rfl,rfl,rfl⟩) cc (by exact rfl) oo (by exact rfl) (by exact rfl) ?_
 | refine Zh 6 (by exact⟨_,_,rfl,rfl,rfl⟩) cc (by exact rfl) oo (by exact rfl) (by exact rfl) ?_
 | refine Zh 7 (by exact⟨_,_,rfl,rfl,rfl⟩) cc (by exact rfl) oo (by exact rfl) (by exact rfl) ?_
 exact q.h):P:=h ⟨q⟩
theorem Z2 {P Q:Prop} (q:Q) (h:cM Q->P:=by
 intro q
 refine Z1 ?_
 refine Z1 ?_
 exact q.h):P:=h ⟨q⟩
theorem Z3 {P Q:Prop} (q:Q) (h:cM Q->P:=by
 intro q
 refine Z1 ?_
 refine Z1 ?_
 refine Z1 ?_
 exact q.h):P:=h ⟨q⟩
theorem Z4 {P Q:Prop} (q:Q) (h:cM Q->P:=by
 intro q
 refine Z1 ?_
 refine Z1 ?_
 refine Z1 ?_
 refine Z1 ?_
 exact q.h):P:=h ⟨q⟩
theorem Z5 {P Q:Prop} (q:Q) (h:cM Q->P:=by
 intro q
 refine Z2 ?_
 refine Z3 ?_
 exact q.h):P:=h ⟨q⟩
theorem Z6 {P Q:Prop} (q:Q) (h:cM Q->P:=by
 intro q
 refine Z3 ?_
 refine Z3 ?_
 exact q.h):P:=h ⟨q⟩
theorem Z7 {P Q:Prop} (q:Q) (h:cM Q->P:=by
 intro q
 refine Z3 ?_
 refine Z4 ?_
 exact q.h):P:=h ⟨q⟩
theorem Z8 {P Q:Prop} (q:Q) (h:cM Q->P:=by
 intro q
 refine Z4 ?_
 refine Z4 ?_
 exact q.h):P:=h ⟨q⟩
theorem Z9 {P Q:Prop} (q:Q) (h:cM Q->P:=by
 intro q
 refine Z4 ?_
 refine Z5 ?_
 exact q.h):P:=h ⟨q⟩
theorem Z10 {P Q:Prop} (q:Q) (h:cM Q->P:=by
 intro q
 refine Z5 ?_
 refine Z5 ?_
 exact q.h):P:=h ⟨q⟩
theorem Z11 {P Q:Prop} (q:Q) (h:cM Q->P:=by
 intro q
 refine Z5 ?_
 refine Z6 ?_
 exact q.h):P:=h ⟨q⟩
theorem Z12 {P Q:Prop} (q:Q) (h:cM Q->P:=by
 intro q
 refine Z6 ?_
 refine Z6 ?_
 exact q.h):P:=h ⟨q⟩
theorem B1 {α γ:Type} {o:Option α} {f:α->Option γ} {r:γ} {P Q:Prop} (q:∀ x,o=some x->f x=some r->Q) (h:cM Q->P:=by
 intro q
 refine Z1 ?_
 exact q.h) (e:o.bind f=some r):P:=bs (fun x a b=>h ⟨q x a b⟩) e
theorem I1 {γ:Type} {p:Prop} [Decidable p] {a b:Option γ} {r:γ} {P Q:Prop} (k:decide p=true->a=some r->Q) (k':decide p=false->b=some r->Q) (h:cM Q->P:=by
 intro q
 refine Z1 ?_
 exact q.h) (e:(if p then a else b)=some r):P:=is (fun c a=>h ⟨k c a⟩) (fun c a=>h ⟨k' c a⟩) e
theorem B2 {α γ:Type} {o:Option α} {f:α->Option γ} {r:γ} {P Q:Prop} (q:∀ x,o=some x->f x=some r->Q) (h:cM Q->P:=by
 intro q
 refine Z2 ?_
 exact q.h) (e:o.bind f=some r):P:=bs (fun x a b=>h ⟨q x a b⟩) e
theorem I2 {γ:Type} {p:Prop} [Decidable p] {a b:Option γ} {r:γ} {P Q:Prop} (k:decide p=true->a=some r->Q) (k':decide p=false->b=some r->Q) (h:cM Q->P:=by
 intro q
 refine Z2 ?_
 exact q.h) (e:(if p then a else b)=some r):P:=is (fun c a=>h ⟨k c a⟩) (fun c a=>h ⟨k' c a⟩) e
theorem B3 {α γ:Type} {o:Option α} {f:α->Option γ} {r:γ} {P Q:Prop} (q:∀ x,o=some x->f x=some r->Q) (h:cM Q->P:=by
 intro q
 refine Z3 ?_
 exact q.h) (e:o.bind f=some r):P:=bs (fun x a b=>h ⟨q x a b⟩) e
theorem I3 {γ:Type} {p:Prop} [Decidable p] {a b:Option γ} {r:γ} {P Q:Prop} (k:decide p=true->a=some r->Q) (k':decide p=false->b=some r->Q) (h:cM Q->P:=by
 intro q
 refine Z3 ?_
 exact q.h) (e:(if p then a else b)=some r):P:=is (fun c a=>h ⟨k c a⟩) (fun c a=>h ⟨k' c a⟩) e
theorem B4 {α γ:Type} {o:Option α} {f:α->Option γ} {r:γ} {P Q:Prop} (q:∀ x,o=some x->f x=some r->Q) (h:cM Q->P:=by
 intro q
 refine Z4 ?_
 exact q.h) (e:o.bind f=some r):P:=bs (fun x a b=>h ⟨q x a b⟩) e
theorem I4 {γ:Type} {p:Prop} [Decidable p] {a b:Option γ} {r:γ} {P Q:Prop} (k:decide p=true->a=some r->Q) (k':decide p=false->b=some r->Q) (h:cM Q->P:=by
 intro q
 refine Z4 ?_
 exact q.h) (e:(if p then a else b)=some r):P:=is (fun c a=>h ⟨k c a⟩) (fun c a=>h ⟨k' c a⟩) e
theorem B5 {α γ:Type} {o:Option α} {f:α->Option γ} {r:γ} {P Q:Prop} (q:∀ x,o=some x->f x=some r->Q) (h:cM Q->P:=by
 intro q
 refine Z5 ?_
 exact q.h) (e:o.bind f=some r):P:=bs (fun x a b=>h ⟨q x a b⟩) e
theorem I5 {γ:Type} {p:Prop} [Decidable p] {a b:Option γ} {r:γ} {P Q:Prop} (k:decide p=true->a=some r->Q) (k':decide p=false->b=some r->Q) (h:cM Q->P:=by
 intro q
 refine Z5 ?_
 exact q.h) (e:(if p then a else b)=some r):P:=is (fun c a=>h ⟨k c a⟩) (fun c a=>h ⟨k' c a⟩) e
theorem B6 {α γ:Type} {o:Option α} {f:α->Option γ} {r:γ} {P Q:Prop} (q:∀ x,o=some x->f x=some r->Q) (h:cM Q->P:=by
 intro q
 refine Z6 ?_
 exact q.h) (e:o.bind f=some r):P:=bs (fun x a b=>h ⟨q x a b⟩) e
theorem I6 {γ:Type} {p:Prop} [Decidable p] {a b:Option γ} {r:γ} {P Q:Prop} (k:decide p=true->a=some r->Q) (k':decide p=false->b=some r->Q) (h:cM Q->P:=by
 intro q
 refine Z6 ?_
 exact q.h) (e:(if p then a else b)=some r):P:=is (fun c a=>h ⟨k c a⟩) (fun c a=>h ⟨k' c a⟩) e
theorem B7 {α γ:Type} {o:Option α} {f:α->Option γ} {r:γ} {P Q:Prop} (q:∀ x,o=some x->f x=some r->Q) (h:cM Q->P:=by
 intro q
 refine Z7 ?_
 exact q.h) (e:o.bind f=some r):P:=bs (fun x a b=>h ⟨q x a b⟩) e
theorem I7 {γ:Type} {p:Prop} [Decidable p] {a b:Option γ} {r:γ} {P Q:Prop} (k:decide p=true->a=some r->Q) (k':decide p=false->b=some r->Q) (h:cM Q->P:=by
 intro q
 refine Z7 ?_
 exact q.h) (e:(if p then a else b)=some r):P:=is (fun c a=>h ⟨k c a⟩) (fun c a=>h ⟨k' c a⟩) e
theorem B8 {α γ:Type} {o:Option α} {f:α->Option γ} {r:γ} {P Q:Prop} (q:∀ x,o=some x->f x=some r->Q) (h:cM Q->P:=by
 intro q
 refine Z8 ?_
 exact q.h) (e:o.bind f=some r):P:=bs (fun x a b=>h ⟨q x a b⟩) e
theorem I8 {γ:Type} {p:Prop} [Decidable p] {a b:Option γ} {r:γ} {P Q:Prop} (k:decide p=true->a=some r->Q) (k':decide p=false->b=some r->Q) (h:cM Q->P:=by
 intro q
 refine Z8 ?_
 exact q.h) (e:(if p then a else b)=some r):P:=is (fun c a=>h ⟨k c a⟩) (fun c a=>h ⟨k' c a⟩) e
theorem B9 {α γ:Type} {o:Option α} {f:α->Option γ} {r:γ} {P Q:Prop} (q:∀ x,o=some x->f x=some r->Q) (h:cM Q->P:=by
 intro q
 refine Z9 ?_
 exact q.h) (e:o.bind f=some r):P:=bs (fun x a b=>h ⟨q x a b⟩) e
theorem I9 {γ:Type} {p:Prop} [Decidable p] {a b:Option γ} {r:γ} {P Q:Prop} (k:decide p=true->a=some r->Q) (k':decide p=false->b=some r->Q) (h:cM Q->P:=by
 intro q
 refine Z9 ?_
 exact q.h) (e:(if p then a else b)=some r):P:=is (fun c a=>h ⟨k c a⟩) (fun c a=>h ⟨k' c a⟩) e
theorem B10 {α γ:Type} {o:Option α} {f:α->Option γ} {r:γ} {P Q:Prop} (q:∀ x,o=some x->f x=some r->Q) (h:cM Q->P:=by
 intro q
 refine Z10 ?_
 exact q.h) (e:o.bind f=some r):P:=bs (fun x a b=>h ⟨q x a b⟩) e
theorem I10 {γ:Type} {p:Prop} [Decidable p] {a b:Option γ} {r:γ} {P Q:Prop} (k:decide p=true->a=some r->Q) (k':decide p=false->b=some r->Q) (h:cM Q->P:=by
 intro q
 refine Z10 ?_
 exact q.h) (e:(if p then a else b)=some r):P:=is (fun c a=>h ⟨k c a⟩) (fun c a=>h ⟨k' c a⟩) e
theorem B11 {α γ:Type} {o:Option α} {f:α->Option γ} {r:γ} {P Q:Prop} (q:∀ x,o=some x->f x=some r->Q) (h:cM Q->P:=by
 intro q
 refine Z11 ?_
 exact q.h) (e:o.bind f=some r):P:=bs (fun x a b=>h ⟨q x a b⟩) e
theorem B12 {α γ:Type} {o:Option α} {f:α->Option γ} {r:γ} {P Q:Prop} (q:∀ x,o=some x->f x=some r->Q) (h:cM Q->P:=by
 intro q
 refine Z12 ?_
 exact q.h) (e:o.bind f=some r):P:=bs (fun x a b=>h ⟨q x a b⟩) e
theorem ND {P Q:Prop} (q:Q) (h:cM Q->P:=by
 intro q
 dsimp only [gZ,List.take,List.replicate,List.append,List.drop]
 exact q.h):P:=h ⟨q⟩
theorem M1 {P Q:Prop} (q:Q) (h:cM Q->P:=by
 intro q
 first
 | refine Ny (by exact trivial) ox (by exact rfl) ?_
 | refine Nk (by exact⟨_,_,rfl,rfl,rfl⟩) cn (by exact rfl) ?_
 | refine Ng (by exact⟨_,_,rfl,rfl,rfl⟩) cc ox (by exact rfl) ?_
 | refine No 0 (by exact trivial) (by exact rfl) oo (by exact rfl) ?_
 | refine No 1 (by exact trivial) (by exact rfl) oo (by exact rfl) ?_
 | refine No 2 (by exact trivial) (by exact rfl) oo (by exact rfl) ?_
 | refine No 3 (by exact trivial) (by exact rfl) oo (by exact rfl) ?_
 | refine No 4 (by exact trivial) (by exact rfl) oo (by exact rfl) ?_
 | refine No 5 (by exact trivial) (by exact rfl) oo (by exact rfl) ?_
 | refine No 6 (by exact trivial) (by exact rfl) oo (by exact rfl) ?_
 | refine No 7 (by exact trivial) (by exact rfl) oo (by exact rfl) ?_
 | refine Nh 0 (by exact⟨_,_,rfl,rfl,rfl⟩) cc (by exact rfl) oo (by exact rfl) ?_
 | refine Nh 1 (by exact⟨_,_,rfl,rfl,rfl⟩) cc (by exact rfl) oo (by exact rfl) ?_
 | refine Nh 2 (by exact⟨_,_,rfl,rfl,rfl⟩) cc (by exact rfl) oo (by exact rfl) ?_
 | refine Nh 3 (by exact⟨_,_,rfl,rfl,rfl⟩) cc (by exact rfl) oo (by exact rfl) ?_
 | refine Nh 4 (by exact⟨_,_,rfl,rfl,rfl⟩) cc (by exact rfl) oo (by exact rfl) ?_
 | refine Nh 5 (by exact⟨_,_,rfl,rfl,rfl⟩) cc (by exact rfl) oo (by exact rfl) ?_
 | refine Nh 6 (by exact⟨_,_,rfl,rfl,rfl⟩) cc (by exact rfl) oo (by exact rfl) ?_
 | refine Nh 7 (by exact⟨_,_,rfl,rfl,rfl⟩) cc (by exact rfl) oo (by exact rfl) ?_
 exact q.h):P:=h ⟨q⟩
theorem M2 {P Q:Prop} (q:Q) (h:cM Q->P:=by
 intro q
 refine M1 ?_
 intro b1
 refine M1 ?_
 revert b1
 exact q.h):P:=h ⟨q⟩
theorem M3 {P Q:Prop} (q:Q) (h:cM Q->P:=by
 intro q
 refine M1 ?_
 intro b1
 refine M1 ?_
 intro b2
 refine M1 ?_
 revert b1 b2
 exact q.h):P:=h ⟨q⟩
theorem M4 {P Q:Prop} (q:Q) (h:cM Q->P:=by
 intro q
 refine M1 ?_
 intro b1
 refine M1 ?_
 intro b2
 refine M1 ?_
 intro b3
 refine M1 ?_
 revert b1 b2 b3
 exact q.h):P:=h ⟨q⟩
theorem M5 {P Q:Prop} (q:Q) (h:cM Q->P:=by
 intro q
 refine M1 ?_
 intro b1
 refine M1 ?_
 intro b2
 refine M1 ?_
 intro b3
 refine M1 ?_
 intro b4
 refine M1 ?_
 revert b1 b2 b3 b4
 exact q.h):P:=h ⟨q⟩
theorem M6 {P Q:Prop} (q:Q) (h:cM Q->P:=by
 intro q
 refine M1 ?_
 intro b1
 refine M1 ?_
 intro b2
 refine M1 ?_
 intro b3
 refine M1 ?_
 intro b4
 refine M1 ?_
 intro b5
 refine M1 ?_
 revert b1 b2 b3 b4 b5
 exact q.h):P:=h ⟨q⟩
theorem M7 {P Q:Prop} (q:Q) (h:cM Q->P:=by
 intro q
 refine M1 ?_
 intro b1
 refine M1 ?_
 intro b2
 refine M1 ?_
 intro b3
 refine M1 ?_
 intro b4
 refine M1 ?_
 intro b5
 refine M1 ?_
 intro b6
 refine M1 ?_
 revert b1 b2 b3 b4 b5 b6
 exact q.h):P:=h ⟨q⟩
theorem M8 {P Q:Prop} (q:Q) (h:cM Q->P:=by
 intro q
 refine M1 ?_
 intro b1
 refine M1 ?_
 intro b2
 refine M1 ?_
 intro b3
 refine M1 ?_
 intro b4
 refine M1 ?_
 intro b5
 refine M1 ?_
 intro b6
 refine M1 ?_
 intro b7
 refine M1 ?_
 revert b1 b2 b3 b4 b5 b6 b7
 exact q.h):P:=h ⟨q⟩
open Go.SX Go.SW Go.Dt
attribute [local irreducible] Code.wpIn wpListIn Exit.then Exit.inBlock
theorem aCn (p0:Nat) (e0:Int):FnD Tryz.prog 136 [fEq (ptr p0)] [aA p0 31 [fI e0]] (.returning) [aA p0 31 [fI e0]]:=by
 refine FnD_of Tryz.func136 rfl Tryz.ntmps136 rfl (fun β c₀ cs hc=>?_)
 refine aG3 (v:= .nilIface) (cs':=c₀ :: cs) (by simp [recoverD,hc]) rfl rfl rfl rfl rfl rfl ⟨rfl,rfl⟩ ?_
 refine T_inS ?_
 refine Z2 ?_
 refine Yy (aA7 rfl hh aF4 (rfl:iL _=some true)) ?_
 refine Z3 ?_
 exact T_endD (u':= .returning) (.inr rfl) rfl (by cases c₀;cases hc;rfl) rfl rfl
theorem aDY (p0:Nat) (e0 e1:Int):FnD Tryz.prog 136 [fEq (ptr p0)] [aA p0 31 [fI e0]] (.panicking [{ v:=(.iface 245 (.agg #[.int .i64 e1])),recovered:=false }]) [aA p0 31 [fI e1]]:=by
 refine FnD_of Tryz.func136 rfl Tryz.ntmps136 rfl (fun β c₀ cs hc=>?_)
 refine aG3 (v:=(.iface 245 (.agg #[.int .i64 e1]))) (cs':={ c₀ with mode:= .panicking [{ v:=(.iface 245 (.agg #[.int .i64 e1])),recovered:=true }] } :: cs) (by simp [recoverD,hc]) rfl rfl rfl rfl rfl rfl ⟨rfl,rfl⟩ ?_
 refine T_inS ?_
 refine Z2 ?_
 refine Yy (aA7 rfl hh aF4 (rfl:iL _=some false)) ?_
 refine Z4 ?_
 refine Yy (aKN rfl hh aFK aJ6) ?_
 refine Z2 ?_
 refine iN 11 rfl (vQ [(.int .i64 e1)]) ?_
 refine Z1 ?_
 refine Tn (bG rfl aK0 rfl) fun b1=>?_
 refine bZ (φs':=[fI e1]) a2e rfl rfl (has rfl) (has rfl) (aC (aI a2e) bD) (sz rfl) rfl rfl rfl ?_
 refine Z2 ?_
 refine aJ ?_
 refine Z12 ?_
 refine cL ?_
 refine dN (φs':=[fI e1]) a2e rfl rfl (has rfl) (has rfl) (aI a2e) (sz rfl) rfl rfl ?_
 refine Z1 ?_
 refine aH [0] (by decide) ?_
 exact T_endD (u':= .panicking [{ v:=(.iface 245 (.agg #[.int .i64 e1])),recovered:=true }]) (.inr rfl) rfl rfl rfl rfl
def bI (a0:Bool):Option (Unit ⊕ Value):=
 bif a0 then
  some (Sum.inl ())
 else
  some (Sum.inr (.iface 245 (.agg ([(.int .i64 2)]:List Value).toArray)))
theorem aQ  (a0:Bool) (r:Unit ⊕ Value) (H:bI a0=some r):FnE Tryz.prog 162 [aR a0] [] r (fun r=>cV []) (fun r=>[]):=by
 unfold bI at H
 refine rL Tryz.func162 rfl Tryz.ntmps162 rfl (fun β=>?_)
 refine Z4 ?_
 revert H;refine cs (fun c1 H=>?_) fun c1 H=>?_
 refine Z2 ?_
 cases H
 refine qQ ?_
 exact jQ (.inr rfl) rfl rfl
 refine Z2 ?_
 refine Yy (fY (ψs:=[fI 2]) rfl aK9 rfl (bJ.cons (has rfl) (cJ (aI a2e)) bJ.nil) rfl) ?_
 refine Yy (sR rfl (fF rfl (yF [(.int .i64 2)])) aFK) ?_
 refine T_panic a2e rfl (has rfl) ?_
 cases H
 exact bP
def aAP  :Option (aG ByteArray Bool):=
 some (aG.upd (aG.upd (aG.upd (aG.upd (aG.upd (aG.upd (aG.upd (aG.upd (aG.upd (aG.upd (aG.none:aG ByteArray Bool) ({ data:=#[97,110,100] }) true) ({ data:=#[100,101,102] }) true) ({ data:=#[101,108,115,101] }) true) ({ data:=#[103,111] }) true) ({ data:=#[105,102] }) true) ({ data:=#[105,110] }) true) ({ data:=#[112,108,97,99,101] }) true) ({ data:=#[115,116,111,112] }) true) ({ data:=#[116,104,101,110] }) true) ({ data:=#[119,97,116,99,104] }) true)
theorem aJh   (r:aG ByteArray Bool) (H:aAP=some r):FnS Tryz.prog 174 [] [] (jO kStr (fun y=>aR y) r) (fun _=>[]):=by
 unfold aAP at H
 refine bL Tryz.func174 rfl Tryz.ntmps174 rfl (fun β=>?_)
 refine Z4 ?_
 refine Tn (aBd (fun y=>aR y) kStr rfl) fun b1=>?_
 refine fZ (k:={ data:=#[97,110,100] }) (y:=true) a2e (.inr rfl) rfl (has rfl) (has rfl) rfl (has rfl) rfl kG ?_
 refine fZ (k:={ data:=#[100,101,102] }) (y:=true) a2e (.inr rfl) rfl (has rfl) (has rfl) rfl (has rfl) rfl kG ?_
 refine fZ (k:={ data:=#[101,108,115,101] }) (y:=true) a2e (.inr rfl) rfl (has rfl) (has rfl) rfl (has rfl) rfl kG ?_
 refine fZ (k:={ data:=#[103,111] }) (y:=true) a2e (.inr rfl) rfl (has rfl) (has rfl) rfl (has rfl) rfl kG ?_
 refine fZ (k:={ data:=#[105,102] }) (y:=true) a2e (.inr rfl) rfl (has rfl) (has rfl) rfl (has rfl) rfl kG ?_
 refine fZ (k:={ data:=#[105,110] }) (y:=true) a2e (.inr rfl) rfl (has rfl) (has rfl) rfl (has rfl) rfl kG ?_
 refine fZ (k:={ data:=#[112,108,97,99,101] }) (y:=true) a2e (.inr rfl) rfl (has rfl) (has rfl) rfl (has rfl) rfl kG ?_
 refine fZ (k:={ data:=#[115,116,111,112] }) (y:=true) a2e (.inr rfl) rfl (has rfl) (has rfl) rfl (has rfl) rfl kG ?_
 refine fZ (k:={ data:=#[116,104,101,110] }) (y:=true) a2e (.inr rfl) rfl (has rfl) (has rfl) rfl (has rfl) rfl kG ?_
 refine fZ (k:={ data:=#[119,97,116,99,104] }) (y:=true) a2e (.inr rfl) rfl (has rfl) (has rfl) rfl (has rfl) rfl kG ?_
 refine Z4 ?_
 refine cF (φ:=jO kStr (fun y=>aR y) (aG.upd (aG.upd (aG.upd (aG.upd (aG.upd (aG.upd (aG.upd (aG.upd (aG.upd (aG.upd (aG.none:aG ByteArray Bool) ({ data:=#[97,110,100] }) true) ({ data:=#[100,101,102] }) true) ({ data:=#[101,108,115,101] }) true) ({ data:=#[103,111] }) true) ({ data:=#[105,102] }) true) ({ data:=#[105,110] }) true) ({ data:=#[112,108,97,99,101] }) true) ({ data:=#[115,116,111,112] }) true) ({ data:=#[116,104,101,110] }) true) ({ data:=#[119,97,116,99,104] }) true)) (v:= .map (some b1)) [0,1,2] aG2 fz ?_
 refine cE ?_
 cases H
 exact To
def gW (a0:ByteArray):Nat->Int->Option ((Unit) ⊕ (Bool))
| 0,_=>none
| k+1,x2=>
 if x2<(a0.size:Int)then
  (sidx a0 x2).bind fun z1=>
  if z1<97 then
   (some false).bind fun r=>some (Sum.inr r)
  else
   (sidx a0 x2).bind fun z2=>
   if 122<z2 then
    (some false).bind fun r=>some (Sum.inr r)
   else
    (chk (x2+1)).bind fun z3=>
    gW a0 k z3
 else
  some (Sum.inl ())
def rK (AA:Nat) (a0:ByteArray):Option (Bool):=
 (gW a0 AA 0).bind fun o=>match o with
 | Sum.inr r=>some r
 | Sum.inl _=>
 (if 0<(a0.size:Int)then
  if (a0.size:Int)<=8 then
   (aAP).bind fun y1=>
   some (!((y1.get a0).getD false))
  else
   some false
 else
  some false).bind fun x3=>
 some x3
theorem aK6 (AA:Nat)  (a0:ByteArray) (r:Bool) (H:rK AA a0=some r):FnS Tryz.prog 163 [fStr a0] [] (aR r) (fun _=>[]):=by
 unfold rK at H
 refine bL Tryz.func163 rfl Tryz.ntmps163 rfl (fun β=>?_)
 revert H;refine B3 fun o1 H Hr1=>?_
 refine aS (ι:=Unit) (fun i=>o1=Sum.inl ()) (fun i=>[(0,fStr a0)]) (fun i=>[]) ?_ ?_
 refine Z2 ?_
 refine Yy (aCd rfl hh aAi) ?_
 refine Z3 ?_
 refine Tl (ι:=Nat × Int) (fun i=>gW a0 i.1 i.2=_) (fun i=>i.1) (fun i=>[(0,fStr a0),(5,fI (a0.size:Int)),(6,fI i.2)]) (fun i=>[]) (AA,0) H ?_
 clear H;rintro⟨k1,x2⟩ H
 replace H:gW a0 k1 x2=_:=H
 try dsimp only
 obtain _ | k1:=k1
 rw [gW]at H;cases H
 rw [gW]at H
 refine Z3 ?_
 refine aJ ?_
 revert H;refine is (fun c1 H=>?_) fun c1 H=>?_
 refine Z3 ?_
 refine aJ ?_
 revert H;refine B8 fun z1 h1 H=>?_
 refine Yy (aGI rfl hh hh aAi h1) ?_
 revert H;refine I2 (fun c2 H=>?_) fun c2 H=>?_
 refine Z12 ?_
 revert H;refine B4 fun r1 H e1=>?_
 cases e1;cases Hr1
 cases H
 exact To
 revert H;refine B2 fun z2 h2 H=>?_
 refine Yg c2 (aGI rfl hh hh aAi h2) ?_
 revert H;refine I3 (fun c3 H=>?_) fun c3 H=>?_
 revert H;refine B10 fun r2 H e2=>?_
 cases e2;cases Hr1
 cases H
 exact To
 revert H;refine B5 fun z3 h3 H=>?_
 refine Z3 ?_
 exact Tm ((k1,z3)) ⟨H,ls⟩
 refine Z6 ?_
 exact Tm (()) (ij H)
 clear H;intro i hi;subst o1;have H:=Hr1;clear Hr1;try dsimp only at H
 try dsimp only
 revert H;refine bs fun o2 H Hr2=>?_
 refine aS (ι:=Bool) (fun i=>o2=i) (fun i=>[(2,aR i)]) (fun i=>[]) ?_ ?_
 refine Z2 ?_
 refine Yy (aCd rfl hh aAi) ?_
 revert H;refine I2 (fun c4 H=>?_) fun c4 H=>?_
 refine Z1 ?_
 refine Yg c4 (aCd rfl hh aAi) ?_
 revert H;refine I3 (fun c5 H=>?_) fun c5 H=>?_
 revert H;refine bs fun y1 h4 H=>?_
 refine Tc (aJh _ h4) ?_
 refine Z1 ?_
 refine Yg c5 (uJ (zα:=false) (k:=a0) rfl hh hh rfl kG Ent.rfl) ?_
 refine Z4 ?_
 exact Tm (!((y1.get a0).getD false)) (ij H)
 refine Z7 ?_
 exact Tm (false) (ij H)
 refine Z12 ?_
 exact Tm (false) (ij H)
 clear H;intro x3 hi;subst o2;have H:=Hr2;clear Hr2;try dsimp only at H
 try dsimp only
 refine Z1 ?_
 cases H
 exact To
def hP (a0:Int):Option (Value):=
 (if a0=1 then
  some (decide (a0=1))
 else
  some (decide (a0=7))).bind fun x1=>
 bif x1 then
  some ((.iface 235 (.int .i64 0)):Value)
 else
  if a0=3 then
   some ((.iface 235 (.int .i64 2)):Value)
  else
   if a0=2 then
    some ((.iface 207 (.agg ([]:List Value).toArray)):Value)
   else
    if a0=5 then
     some ((.iface 236 (.agg ([]:List Value).toArray)):Value)
    else
     (if a0=6 then
      some (decide (a0=6))
     else
      some (decide (a0=8))).bind fun x2=>
     bif x2 then
      some ((.iface 208 (.agg ([]:List Value).toArray)):Value)
     else
      if a0=4 then
       some ((.iface 237 (.agg ([]:List Value).toArray)):Value)
      else
       some (Go.Value.nilIface:Value)
theorem aGY  (a0:Int) (r:Value) (H:hP a0=some r):FnS Tryz.prog 123 [fI a0] [] (fRaw r) (fun _=>[]):=by
 unfold hP at H
 refine bL Tryz.func123 rfl Tryz.ntmps123 rfl (fun β=>?_)
 refine Z3 ?_
 refine aJ ?_
 revert H;refine B4 fun o1 H Hr1=>?_
 refine aS (ι:=Bool) (fun i=>o1=i) (fun i=>[(3,fI a0),(4,aR i)]) (fun i=>[]) ?_ ?_
 revert H;refine I4 (fun c1 H=>?_) fun c1 H=>?_
 refine Z3 ?_
 exact Tm (decide (a0=1)) (ij H)
 refine Z5 ?_
 exact Tm (decide (a0=7)) (ij H)
 clear H;intro x1 hi;subst o1;have H:=Hr1;clear Hr1;try dsimp only at H
 try dsimp only
 revert H;refine cs (fun c2 H=>?_) fun c2 H=>?_
 refine Z2 ?_
 refine Yy (sR rfl hh aHr) ?_
 refine Z5 ?_
 cases H
 exact dR rfl (eL rfl (sM trivial)) rfl
 revert H;refine I5 (fun c3 H=>?_) fun c3 H=>?_
 refine Z2 ?_
 refine Yy (sR rfl hh aHr) ?_
 refine Z5 ?_
 cases H
 exact dR rfl (eL rfl (sM trivial)) rfl
 revert H;refine I5 (fun c4 H=>?_) fun c4 H=>?_
 refine Z2 ?_
 refine Yy (fY (ψs:=[]) rfl aKx rfl bJ.nil rfl) ?_
 refine Yy (sR rfl (fF rfl (yF [])) aCk) ?_
 refine Z5 ?_
 cases H
 exact dR rfl (eL rfl (sM trivial)) rfl
 revert H;refine I5 (fun c5 H=>?_) fun c5 H=>?_
 refine Z2 ?_
 refine Yy (fY (ψs:=[]) rfl aJZ rfl bJ.nil rfl) ?_
 refine Yy (sR rfl (fF rfl (yF [])) aHH) ?_
 refine Z5 ?_
 cases H
 exact dR rfl (eL rfl (sM trivial)) rfl
 revert H;refine B1 fun o2 H Hr2=>?_
 refine aS (ι:=Bool) (fun i=>o2=i) (fun i=>[(3,fI a0),(19,aR i)]) (fun i=>[]) ?_ ?_
 revert H;refine I4 (fun c6 H=>?_) fun c6 H=>?_
 refine Z3 ?_
 exact Tm (decide (a0=6)) (ij H)
 refine Z5 ?_
 exact Tm (decide (a0=8)) (ij H)
 clear H;intro x2 hi;subst o2;have H:=Hr2;clear Hr2;try dsimp only at H
 try dsimp only
 revert H;refine cs (fun c7 H=>?_) fun c7 H=>?_
 refine Z2 ?_
 refine Yy (fY (ψs:=[]) rfl aJF rfl bJ.nil rfl) ?_
 refine Yy (sR rfl (fF rfl (yF [])) aDe) ?_
 refine Z5 ?_
 cases H
 exact dR rfl (eL rfl (sM trivial)) rfl
 revert H;refine I5 (fun c8 H=>?_) fun c8 H=>?_
 refine Z2 ?_
 refine Yy (fY (ψs:=[]) rfl aKU rfl bJ.nil rfl) ?_
 refine Yy (sR rfl (fF rfl (yF [])) aF1) ?_
 refine Z5 ?_
 cases H
 exact dR rfl (eL rfl (sM trivial)) rfl
 refine Z8 ?_
 cases H
 exact dR rfl (eL rfl (sM trivial)) rfl
def nV (rec_scope_exp_1:AT->Int->Int->Int->Option (Int ⊕ Value)) (a0:AT) (a1:Int) (w1:Int):Nat->Int->Int->Option (Int ⊕ Value)
| 0,_,_=>none
| k+1,x4,x5=>
 if x4<(a0.AO.length:Int)then
  (idx a0.AO x4).bind fun y12=>
  (chk (a1+1)).bind fun z2=>
  (rec_scope_exp_1 (⟨y12.Op,y12.N,y12.AO⟩:AT) z2 x5 w1).bind fun y13=>
  match y13 with
  | Sum.inr pv12=>some (Sum.inr pv12)
  | Sum.inl y13=>
  (chk (x4+1)).bind fun z3=>
  nV rec_scope_exp_1 a0 a1 w1 k z3 y13
 else
  some (Sum.inl x5)
def lZ:Nat->AT->Int->Int->Int->Option (Int ⊕ Value)
| 0,_,_,_,_=>none
| AA+1,a0,a1,w0,w1=>
 (chk (w0+1)).bind fun z1=>
 (if z1<=60 then
  (bI (decide (a1<=12))).bind fun y1=>
  match y1 with
  | Sum.inr pv1=>(some (Sum.inr pv1)).bind fun r=>some (Sum.inr r)
  | Sum.inl y1=>
  some (Sum.inl ())
 else
  (bI false).bind fun y2=>
  match y2 with
  | Sum.inr pv2=>(some (Sum.inr pv2)).bind fun r=>some (Sum.inr r)
  | Sum.inl y2=>
  some (Sum.inl ())).bind fun o=>match o with
 | Sum.inr r=>some r
 | Sum.inl _=>
 (if a0.Op=1 then
  if (-1000000000)<=a0.N then
   if a0.N<=1000000000 then
    (bI (decide ((a0.AO.length:Int)=0))).bind fun y3=>
    match y3 with
    | Sum.inr pv3=>(some (Sum.inr pv3)).bind fun r=>some (Sum.inr r)
    | Sum.inl y3=>
    some (Sum.inl ())
   else
    (bI false).bind fun y4=>
    match y4 with
    | Sum.inr pv4=>(some (Sum.inr pv4)).bind fun r=>some (Sum.inr r)
    | Sum.inl y4=>
    some (Sum.inl ())
  else
   (bI false).bind fun y5=>
   match y5 with
   | Sum.inr pv5=>(some (Sum.inr pv5)).bind fun r=>some (Sum.inr r)
   | Sum.inl y5=>
   some (Sum.inl ())
 else
  if a0.Op=2 then
   if 0<=a0.N then
    if a0.N<w1 then
     (bI (decide ((a0.AO.length:Int)=0))).bind fun y6=>
     match y6 with
     | Sum.inr pv6=>(some (Sum.inr pv6)).bind fun r=>some (Sum.inr r)
     | Sum.inl y6=>
     some (Sum.inl ())
    else
     (bI false).bind fun y7=>
     match y7 with
     | Sum.inr pv7=>(some (Sum.inr pv7)).bind fun r=>some (Sum.inr r)
     | Sum.inl y7=>
     some (Sum.inl ())
   else
    (bI false).bind fun y8=>
    match y8 with
    | Sum.inr pv8=>(some (Sum.inr pv8)).bind fun r=>some (Sum.inr r)
    | Sum.inl y8=>
    some (Sum.inl ())
  else
   (if a0.Op=3 then
    some (decide (a0.Op=3))
   else
    if a0.Op=4 then
     some (decide (a0.Op=4))
    else
     if a0.Op=5 then
      some (decide (a0.Op=5))
     else
      if a0.Op=6 then
       some (decide (a0.Op=6))
      else
       some (decide (a0.Op=7))).bind fun x1=>
   bif x1 then
    if a0.N=0 then
     (bI (decide ((a0.AO.length:Int)=2))).bind fun y9=>
     match y9 with
     | Sum.inr pv9=>(some (Sum.inr pv9)).bind fun r=>some (Sum.inr r)
     | Sum.inl y9=>
     some (Sum.inl ())
    else
     (bI false).bind fun y10=>
     match y10 with
     | Sum.inr pv10=>(some (Sum.inr pv10)).bind fun r=>some (Sum.inr r)
     | Sum.inl y10=>
     some (Sum.inl ())
   else
    (bI false).bind fun y11=>
    match y11 with
    | Sum.inr pv11=>(some (Sum.inr pv11)).bind fun r=>some (Sum.inr r)
    | Sum.inl y11=>
    some (Sum.inl ())).bind fun o=>match o with
 | Sum.inr r=>some r
 | Sum.inl _=>
 nV (lZ AA) a0 a1 w1 AA 0 z1
theorem aFY:∀ (AA:Nat),(∀ (q0:Nat) (q2:Nat) (a0:AT) (a1:Int) (w0:Int) (w1:Int) (r:Int ⊕ Value) (H:lZ AA a0 a1 w0 w1=some r),FnE Tryz.prog 202 [fSt aN a0,fI a1,fEq (.pointer (some ⟨q0,0,none⟩)),aB tI w1,fEq (.pointer (some ⟨q2,0,none⟩))] [aA q0 3 [fI w0],aA q2 276 [bU 202 [fEq (.pointer (some ⟨q0,0,none⟩)),aB tI w1,fEq (.pointer (some ⟨q2,0,none⟩))]]] r (fun r=>cV []) (fun r=>[aA q0 3 [fI r],aA q2 276 [bU 202 [fEq (.pointer (some ⟨q0,0,none⟩)),aB tI w1,fEq (.pointer (some ⟨q2,0,none⟩))]]])):=by
 intro AA
 induction AA with
 | zero=>exact fun q0 q2 a0 a1 w0 w1 r H=>(by rw [lZ]at H;cases H)
 | succ AA ih=>
 have ih_scope_exp_1:=@ih
 refine ?_
 intro q0 q2 a0 a1 w0 w1 r H
 rw [lZ]at H
 refine rL Tryz.func202 rfl Tryz.ntmps202 rfl (fun β=>?_)
 refine Z1 ?_
 refine Tn (cC rfl hh cB) fun b1=>?_
 revert H;refine B3 fun z1 h1 H=>?_
 refine Z1 ?_
 refine cL ?_
 refine dN (φs':=[fI z1]) a2e rfl rfl (has rfl) (has rfl) (aI a2e) (sz rfl) rfl rfl ?_
 revert H;refine B1 fun o1 H Hr1=>?_
 refine aS (ι:=Unit) (fun i=>o1=Sum.inl ()) (fun i=>[(1,fI a1),(2,fEq (ptr q0)),(3,aB tI w1),(4,fEq (ptr q2)),(5,fEq (ptr b1))]) (fun i=>[aA q0 3 [fI z1],aA b1 71 [fI a0.Op,fI a0.N,dK a0.AO],aA q2 276 [bU 202 [fEq (ptr q0),aB tI w1,fEq (ptr q2)]]]) ?_ ?_
 revert H;refine I4 (fun c1 H=>?_) fun c1 H=>?_
 revert H;refine B3 fun y1 h2 H=>?_
 rcases y1 with y1 | pv1 <;> dsimp only at H
 refine Tc (aQ _ _ h2).s ?_
 refine Z1 ?_
 exact Tm (()) (ij H)
 refine Tp (aQ _ _ h2).pan ?_
 revert H;refine B1 fun r1 H e1=>?_
 cases e1;cases Hr1
 cases H
 exact bP
 revert H;refine B3 fun y2 h3 H=>?_
 rcases y2 with y2 | pv2 <;> dsimp only at H
 refine Tc (aQ _ _ h3).s ?_
 refine Z1 ?_
 exact Tm (()) (ij H)
 refine Tp (aQ _ _ h3).pan ?_
 revert H;refine B1 fun r2 H e2=>?_
 cases e2;cases Hr1
 cases H
 exact bP
 clear H;intro i hi;subst o1;have H:=Hr1;clear Hr1;try dsimp only at H
 try dsimp only
 revert H;refine bs fun o2 H Hr2=>?_
 refine aS (ι:=Unit) (fun i=>o2=Sum.inl ()) (fun i=>[(1,fI a1),(2,fEq (ptr q0)),(4,fEq (ptr q2)),(5,fEq (ptr b1))]) (fun i=>[aA q0 3 [fI z1],aA b1 71 [fI a0.Op,fI a0.N,dK a0.AO],aA q2 276 [bU 202 [fEq (ptr q0),aB tI w1,fEq (ptr q2)]]]) ?_ ?_
 revert H;refine I9 (fun c2 H=>?_) fun c2 H=>?_
 revert H;refine I6 (fun c3 H=>?_) fun c3 H=>?_
 revert H;refine I5 (fun c4 H=>?_) fun c4 H=>?_
 refine Z1 ?_
 refine Yh 1 rfl c4 (eQ rfl hh (sc rfl) rfl (jI iB)) ?_
 revert H;refine B3 fun y3 h4 H=>?_
 rcases y3 with y3 | pv3 <;> dsimp only at H
 refine Tc (aQ _ _ h4).s ?_
 refine Z3 ?_
 exact Tm (()) (ij H)
 refine Tp (aQ _ _ h4).pan ?_
 revert H;refine B2 fun r3 H e3=>?_
 cases e3;cases Hr2
 cases H
 exact bP
 revert H;refine B5 fun y4 h5 H=>?_
 rcases y4 with y4 | pv4 <;> dsimp only at H
 refine Tc (aQ _ _ h5).s ?_
 refine Z3 ?_
 exact Tm (()) (ij H)
 refine Tp (aQ _ _ h5).pan ?_
 revert H;refine B2 fun r4 H e4=>?_
 cases e4;cases Hr2
 cases H
 exact bP
 revert H;refine B10 fun y5 h6 H=>?_
 rcases y5 with y5 | pv5 <;> dsimp only at H
 refine Tc (aQ _ _ h6).s ?_
 refine Z3 ?_
 exact Tm (()) (ij H)
 refine Tp (aQ _ _ h6).pan ?_
 revert H;refine B2 fun r5 H e5=>?_
 cases e5;cases Hr2
 cases H
 exact bP
 revert H;refine I5 (fun c5 H=>?_) fun c5 H=>?_
 revert H;refine I6 (fun c6 H=>?_) fun c6 H=>?_
 revert H;refine I6 (fun c7 H=>?_) fun c7 H=>?_
 refine Z1 ?_
 refine Yh 1 rfl c7 (eQ rfl hh (sc rfl) rfl (jI iB)) ?_
 revert H;refine B3 fun y6 h7 H=>?_
 rcases y6 with y6 | pv6 <;> dsimp only at H
 refine Tc (aQ _ _ h7).s ?_
 refine Z3 ?_
 exact Tm (()) (ij H)
 refine Tp (aQ _ _ h7).pan ?_
 revert H;refine B2 fun r6 H e6=>?_
 cases e6;cases Hr2
 cases H
 exact bP
 revert H;refine B5 fun y7 h8 H=>?_
 rcases y7 with y7 | pv7 <;> dsimp only at H
 refine Tc (aQ _ _ h8).s ?_
 refine Z3 ?_
 exact Tm (()) (ij H)
 refine Tp (aQ _ _ h8).pan ?_
 revert H;refine B2 fun r7 H e7=>?_
 cases e7;cases Hr2
 cases H
 exact bP
 revert H;refine B11 fun y8 h9 H=>?_
 rcases y8 with y8 | pv8 <;> dsimp only at H
 refine Tc (aQ _ _ h9).s ?_
 refine Z3 ?_
 exact Tm (()) (ij H)
 refine Tp (aQ _ _ h9).pan ?_
 revert H;refine B2 fun r8 H e8=>?_
 cases e8;cases Hr2
 cases H
 exact bP
 revert H;refine B1 fun o3 H Hr3=>?_
 refine aS (ι:=Bool) (fun i=>o3=i) (fun i=>[(1,fI a1),(2,fEq (ptr q0)),(4,fEq (ptr q2)),(5,fEq (ptr b1)),(56,aR i)]) (fun i=>[aA q0 3 [fI z1],aA b1 71 [fI a0.Op,fI a0.N,dK a0.AO],aA q2 276 [bU 202 [fEq (ptr q0),aB tI w1,fEq (ptr q2)]]]) ?_ ?_
 revert H;refine I4 (fun c8 H=>?_) fun c8 H=>?_
 refine Z3 ?_
 exact Tm (decide (a0.Op=3)) (ij H)
 revert H;refine I5 (fun c9 H=>?_) fun c9 H=>?_
 refine Z3 ?_
 exact Tm (decide (a0.Op=4)) (ij H)
 revert H;refine I5 (fun c10 H=>?_) fun c10 H=>?_
 refine Z3 ?_
 exact Tm (decide (a0.Op=5)) (ij H)
 revert H;refine I5 (fun c11 H=>?_) fun c11 H=>?_
 refine Z3 ?_
 exact Tm (decide (a0.Op=6)) (ij H)
 refine Z5 ?_
 exact Tm (decide (a0.Op=7)) (ij H)
 clear H;intro x1 hi;subst o3;have H:=Hr3;clear Hr3;try dsimp only at H
 try dsimp only
 revert H;refine cs (fun c12 H=>?_) fun c12 H=>?_
 revert H;refine I6 (fun c13 H=>?_) fun c13 H=>?_
 refine Z1 ?_
 refine Yh 1 rfl c13 (eQ rfl hh (sc rfl) rfl (jI iB)) ?_
 revert H;refine B3 fun y9 h10 H=>?_
 rcases y9 with y9 | pv9 <;> dsimp only at H
 refine Tc (aQ _ _ h10).s ?_
 refine Z3 ?_
 exact Tm (()) (ij H)
 refine Tp (aQ _ _ h10).pan ?_
 revert H;refine B2 fun r9 H e9=>?_
 cases e9;cases Hr2
 cases H
 exact bP
 revert H;refine B5 fun y10 h11 H=>?_
 rcases y10 with y10 | pv10 <;> dsimp only at H
 refine Tc (aQ _ _ h11).s ?_
 refine Z3 ?_
 exact Tm (()) (ij H)
 refine Tp (aQ _ _ h11).pan ?_
 revert H;refine B2 fun r10 H e10=>?_
 cases e10;cases Hr2
 cases H
 exact bP
 revert H;refine B2 fun y11 h12 H=>?_
 rcases y11 with y11 | pv11 <;> dsimp only at H
 refine Tc (aQ _ _ h12).s ?_
 refine Z3 ?_
 exact Tm (()) (ij H)
 refine Tp (aQ _ _ h12).pan ?_
 revert H;refine B2 fun r11 H e11=>?_
 cases e11;cases Hr2
 cases H
 exact bP
 clear H;intro i hi;subst o2;have H:=Hr2;clear Hr2;try dsimp only at H
 try dsimp only
 refine Z2 ?_
 refine Yo 1 rfl (eQ rfl hh (sc rfl) rfl (jI iB)) ?_
 refine Z4 ?_
 refine Tl (ι:=Nat × Int × Int) (fun i=>nV (lZ AA) a0 a1 w1 i.1 i.2.1 i.2.2=_) (fun i=>i.1) (fun i=>[(1,fI a1),(2,fEq (ptr q0)),(4,fEq (ptr q2)),(73,fSl aN a0.AO),(74,fI (a0.AO.length:Int)),(75,fI i.2.1)]) (fun i=>[aA q0 3 [fI i.2.2],aA b1 71 [fI a0.Op,fI a0.N,dK a0.AO],aA q2 276 [bU 202 [fEq (ptr q0),aB tI w1,fEq (ptr q2)]]]) (AA,0,z1) H ?_
 clear H;rintro⟨k1,x4,x5⟩ H
 replace H:nV (lZ AA) a0 a1 w1 k1 x4 x5=_:=H
 try dsimp only
 obtain _ | k1:=k1
 rw [nV]at H;cases H
 rw [nV]at H
 refine Z3 ?_
 refine aJ ?_
 revert H;refine is (fun c14 H=>?_) fun c14 H=>?_
 refine Z3 ?_
 refine aJ ?_
 revert H;refine B2 fun y12 h13 H=>?_
 refine Z2 ?_
 refine Tn (bG rfl hO rfl) fun b2=>?_
 refine bZ (φs':=[fI y12.Op,fI y12.N,dK y12.AO]) a2e rfl rfl (has rfl) (has rfl) (aC (aI a2e) (aC (aI a2e) (aC (kP) bD))) (sz rfl) rfl rfl rfl ?_
 revert H;refine B5 fun z2 h14 H=>?_
 refine Z1 ?_
 refine eM ?_
 refine dT ?_
 revert H;refine bs fun y13 h15 H=>?_
 rcases y13 with y13 | pv12 <;> dsimp only at H
 refine gI a2e rfl rfl rfl (has rfl) (aK.cons (has rfl) (aK.cons (has rfl) aK.nil)) rfl (cb rfl) (ih_scope_exp_1 q0 q2 (⟨y12.Op,y12.N,y12.AO⟩:AT) z2 x5 w1 (Sum.inl y13) h15).s rfl ?_
 revert H;refine B4 fun z3 h16 H=>?_
 refine Z3 ?_
 refine aH [0,3,1] (by decide) ?_
 exact Tm ((k1,z3,y13)) ⟨H,ls⟩
 refine aBv a2e rfl (has rfl) (aK.cons (has rfl) (aK.cons (has rfl) aK.nil)) rfl (cb rfl) (ih_scope_exp_1 q0 q2 (⟨y12.Op,y12.N,y12.AO⟩:AT) z2 x5 w1 (Sum.inr pv12) h15).pan rfl ?_
 refine Z4 ?_
 cases H
 exact bP
 refine Z5 ?_
 cases H
 refine qQ ?_
 refine aH [0,2] (by decide) ?_
 exact jQ (.inr rfl) rfl rfl
def yE (AA:Nat) (a0:AT) (a1:Int):Option (Unit ⊕ Value):=
 (lZ AA (⟨a0.Op,a0.N,a0.AO⟩:AT) 1 0 a1).bind fun y1=>
 match y1 with
 | Sum.inr pv1=>some (Sum.inr pv1)
 | Sum.inl y1=>
 some (Sum.inl ())
theorem aEY (AA:Nat)  (a0:AT) (a1:Int) (r:Unit ⊕ Value) (H:yE AA a0 a1=some r):FnE Tryz.prog 175 [fSt aN a0,fI a1] [] r (fun r=>cV []) (fun r=>[]):=by
 unfold yE at H
 refine rL Tryz.func175 rfl Tryz.ntmps175 rfl (fun β=>?_)
 refine Z1 ?_
 refine Tn (cC rfl hh cB) fun b1=>?_
 refine Tn (cC rfl (has rfl) (cJ (aI a2e))) fun b2=>?_
 refine Z2 ?_
 refine Tn (bG rfl aBo rfl) fun b3=>?_
 refine dN (φs':=[fI 0]) a2e rfl rfl (has rfl) (has rfl) (aI a2e) (sz rfl) rfl rfl ?_
 refine Z2 ?_
 refine Tn (bG rfl aIF rfl) fun b4=>?_
 refine Z2 ?_
 refine dT ?_
 refine cF (φ:=aB tI a1) (v:=ptr b2) [3] (gH aO.rfl) fz ?_
 refine cE ?_
 refine Yy (mR rfl (aK.cons hh (aK.cons hh (aK.cons hh aK.nil)))) ?_
 refine dN (φs':=[bU 202 [fEq (ptr b3),aB tI a1,fEq (ptr b4)]]) a2e rfl rfl (has rfl) (has rfl) (aDt) (sz rfl) rfl rfl ?_
 refine Z4 ?_
 refine cL ?_
 revert H;refine bs fun y1 h1 H=>?_
 rcases y1 with y1 | pv1 <;> dsimp only at H
 refine gI a2e rfl rfl rfl (has rfl) (aK.cons (has rfl) (aK.cons (has rfl) aK.nil)) rfl (cb rfl) (aFY AA b3 b4 (⟨a0.Op,a0.N,a0.AO⟩:AT) 1 0 a1 (Sum.inl y1) h1).s rfl ?_
 refine Z1 ?_
 cases H
 refine qQ ?_
 refine aH [] (by decide) ?_
 exact jQ (.inr rfl) rfl rfl
 refine aBv a2e rfl (has rfl) (aK.cons (has rfl) (aK.cons (has rfl) aK.nil)) rfl (cb rfl) (aFY AA b3 b4 (⟨a0.Op,a0.N,a0.AO⟩:AT) 1 0 a1 (Sum.inr pv1) h1).pan rfl ?_
 cases H
 exact bP
def lX (a0:List Int) (a1:Int):Nat->Int->Option ((Unit) ⊕ (Int))
| 0,_=>none
| k+1,x2=>
 if x2<(a0.length:Int)then
  (idx a0 x2).bind fun y1=>
  if a1=y1 then
   (some x2).bind fun r=>some (Sum.inr r)
  else
   (chk (x2+1)).bind fun z1=>
   lX a0 a1 k z1
 else
  some (Sum.inl ())
def aAn (AA:Nat) (a0:List Int) (a1:Int):Option (Int):=
 (lX a0 a1 AA 0).bind fun o=>match o with
 | Sum.inr r=>some r
 | Sum.inl _=>
 some (-1)
theorem aKL (AA:Nat)  (a0:List Int) (a1:Int) (r:Int) (H:aAn AA a0 a1=some r):FnS Tryz.prog 218 [fSl tI a0,fI a1] [] (fI r) (fun _=>[]):=by
 unfold aAn at H
 refine bL Tryz.func218 rfl Tryz.ntmps218 rfl (fun β=>?_)
 revert H;refine B3 fun o1 H Hr1=>?_
 refine aS (ι:=Unit) (fun i=>o1=Sum.inl ()) (fun i=>[]) (fun i=>[]) ?_ ?_
 refine Z6 ?_
 refine Tl (ι:=Nat × Int) (fun i=>lX a0 a1 i.1 i.2=_) (fun i=>i.1) (fun i=>[(0,fSl tI a0),(1,fI a1),(7,fI (a0.length:Int)),(8,fI i.2)]) (fun i=>[]) (AA,0) H ?_
 clear H;rintro⟨k1,x2⟩ H
 replace H:lX a0 a1 k1 x2=_:=H
 try dsimp only
 obtain _ | k1:=k1
 rw [lX]at H;cases H
 rw [lX]at H
 refine Z3 ?_
 refine aJ ?_
 revert H;refine is (fun c1 H=>?_) fun c1 H=>?_
 refine Z3 ?_
 refine aJ ?_
 revert H;refine B9 fun y1 h1 H=>?_
 revert H;refine I4 (fun c2 H=>?_) fun c2 H=>?_
 revert H;refine B11 fun r1 H e1=>?_
 cases e1;cases Hr1
 cases H
 exact To
 revert H;refine B5 fun z1 h2 H=>?_
 refine Z3 ?_
 exact Tm ((k1,z1)) ⟨H,ls⟩
 refine Z6 ?_
 exact Tm (()) (ij H)
 clear H;intro i hi;subst o1;have H:=Hr1;clear Hr1;try dsimp only at H
 try dsimp only
 refine Z4 ?_
 cases H
 exact To
def zM (AA:Nat) (a0:List Int) (a1:Int):Option (Bool):=
 (aAn AA a0 a1).bind fun y1=>
 some (decide (0<=y1))
theorem aJv (AA:Nat)  (a0:List Int) (a1:Int) (r:Bool) (H:zM AA a0 a1=some r):FnS Tryz.prog 204 [fSl tI a0,fI a1] [] (aR r) (fun _=>[]):=by
 unfold zM at H
 refine bL Tryz.func204 rfl Tryz.ntmps204 rfl (fun β=>?_)
 revert H;refine B6 fun y1 h1 H=>?_
 refine Tc (aKL _ _ _ _ h1) ?_
 refine Z4 ?_
 cases H
 exact To
open Go.SX Go.SW Go.Dt
def tQ (a0:Int) (w0:AN):Option (Unit ⊕ Value):=
 if 0<=a0 then
  (bI (decide (a0<=(w0.AS.length:Int)))).bind fun y1=>
  match y1 with
  | Sum.inr pv1=>some (Sum.inr pv1)
  | Sum.inl y1=>
  some (Sum.inl ())
 else
  (bI false).bind fun y2=>
  match y2 with
  | Sum.inr pv2=>some (Sum.inr pv2)
  | Sum.inl y2=>
  some (Sum.inl ())
theorem aBT  (a0:Int) (w0:AN) (r:Unit ⊕ Value) (H:tQ a0 w0=some r):FnE Tryz.prog 203 [fI a0,aB aE w0] [] r (fun r=>cV []) (fun r=>[]):=by
 unfold tQ at H
 refine rL Tryz.func203 rfl Tryz.ntmps203 rfl (fun β=>?_)
 revert H;refine I4 (fun c1 H=>?_) fun c1 H=>?_
 revert H;refine B6 fun y1 h1 H=>?_
 rcases y1 with y1 | pv1 <;> dsimp only at H
 refine Tc (aQ _ _ h1).s ?_
 refine Z1 ?_
 cases H
 refine qQ ?_
 exact jQ (.inr rfl) rfl rfl
 refine Tp (aQ _ _ h1).pan ?_
 cases H
 exact bP
 revert H;refine B6 fun y2 h2 H=>?_
 rcases y2 with y2 | pv2 <;> dsimp only at H
 refine Tc (aQ _ _ h2).s ?_
 refine Z1 ?_
 cases H
 refine qQ ?_
 exact jQ (.inr rfl) rfl rfl
 refine Tp (aQ _ _ h2).pan ?_
 cases H
 exact bP
def oH (a0:AN):Nat->Int->Option ((Unit) ⊕ (Unit ⊕ Value))
| 0,_=>none
| k+1,x2=>
 if x2<(((⟨a0.AQ,a0.AS,a0.AP⟩:AN).AQ).length:Int)then
  ((idx ((⟨a0.AQ,a0.AS,a0.AP⟩:AN).AQ) x2).bind fun y4=>
  (tQ y4.At (⟨a0.AQ,a0.AS,a0.AP⟩:AN)).bind fun y5=>
  match y5 with
  | Sum.inr pv4=>((some (Sum.inr pv4)).bind fun r=>some (Sum.inr r)).bind fun r=>some (Sum.inr r)
  | Sum.inl y5=>
  if 0<=y4.Ap then
   (bI (decide (y4.Ap<=3))).bind fun y6=>
   match y6 with
   | Sum.inr pv5=>((some (Sum.inr pv5)).bind fun r=>some (Sum.inr r)).bind fun r=>some (Sum.inr r)
   | Sum.inl y6=>
   some (Sum.inl ())
  else
   (bI false).bind fun y7=>
   match y7 with
   | Sum.inr pv6=>((some (Sum.inr pv6)).bind fun r=>some (Sum.inr r)).bind fun r=>some (Sum.inr r)
   | Sum.inl y7=>
   some (Sum.inl ())).bind fun o=>match o with
  | Sum.inr r=>some r
  | Sum.inl _=>
  (chk (x2+1)).bind fun z1=>
  oH a0 k z1
 else
  some (Sum.inl ())
def mZ (a0:AN):Nat->Int->Option ((Unit) ⊕ (Unit ⊕ Value))
| 0,_=>none
| k+1,x4=>
 if x4<(((⟨a0.AQ,a0.AS,a0.AP⟩:AN).AS).length:Int)then
  ((idx ((⟨a0.AQ,a0.AS,a0.AP⟩:AN).AS) x4).bind fun y8=>
  if 0<=y8.In then
   (bI (decide (y8.In<=x4))).bind fun y9=>
   match y9 with
   | Sum.inr pv7=>((some (Sum.inr pv7)).bind fun r=>some (Sum.inr r)).bind fun r=>some (Sum.inr r)
   | Sum.inl y9=>
   some (Sum.inl ())
  else
   (bI false).bind fun y10=>
   match y10 with
   | Sum.inr pv8=>((some (Sum.inr pv8)).bind fun r=>some (Sum.inr r)).bind fun r=>some (Sum.inr r)
   | Sum.inl y10=>
   some (Sum.inl ())).bind fun o=>match o with
  | Sum.inr r=>some r
  | Sum.inl _=>
  (chk (x4+1)).bind fun z2=>
  mZ a0 k z2
 else
  some (Sum.inl ())
def jH (AA:Nat) (a0:AN) (y11:Ai):Nat->Int->(aG Int Bool)->Option ((aG Int Bool) ⊕ ((aG Int Bool) ⊕ (Unit ⊕ Value)))
| 0,_,_=>none
| k+1,x13,x14=>
 if x13<(y11.Ab.length:Int)then
  (idx y11.Ab x13).bind fun y15=>
  (if 0<=y15 then
   if y15<(((⟨a0.AQ,a0.AS,a0.AP⟩:AN).AQ).length:Int)then
    (idx ((⟨a0.AQ,a0.AS,a0.AP⟩:AN).AQ) y15).bind fun y16=>
    if y16.At=y11.At then
     (slc y11.Ab 0 x13).bind fun y17=>
     (zM AA y17 y15).bind fun y18=>
     (bI (!y18)).bind fun y19=>
     match y19 with
     | Sum.inr pv12=>(((some (Sum.inr pv12)).bind fun r=>some (Sum.inr r)).bind fun r=>some (Sum.inr r)).bind fun r=>some (Sum.inr r)
     | Sum.inl y19=>
     some (Sum.inl ())
    else
     (bI false).bind fun y20=>
     match y20 with
     | Sum.inr pv13=>(((some (Sum.inr pv13)).bind fun r=>some (Sum.inr r)).bind fun r=>some (Sum.inr r)).bind fun r=>some (Sum.inr r)
     | Sum.inl y20=>
     some (Sum.inl ())
   else
    (bI false).bind fun y21=>
    match y21 with
    | Sum.inr pv14=>(((some (Sum.inr pv14)).bind fun r=>some (Sum.inr r)).bind fun r=>some (Sum.inr r)).bind fun r=>some (Sum.inr r)
    | Sum.inl y21=>
    some (Sum.inl ())
  else
   (bI false).bind fun y22=>
   match y22 with
   | Sum.inr pv15=>(((some (Sum.inr pv15)).bind fun r=>some (Sum.inr r)).bind fun r=>some (Sum.inr r)).bind fun r=>some (Sum.inr r)
   | Sum.inl y22=>
   some (Sum.inl ())).bind fun o=>match o with
  | Sum.inr r=>some r
  | Sum.inl _=>
  (chk (x13+1)).bind fun z3=>
  jH AA a0 y11 k z3 (aG.upd x14 y15 true)
 else
  some (Sum.inl x14)
def mD (AA:Nat) (a0:AN):Nat->Int->(aG Int Bool)->Option ((aG Int Bool) ⊕ (Unit ⊕ Value))
| 0,_,_=>none
| k+1,x8,x9=>
 if x8<(((⟨a0.AQ,a0.AS,a0.AP⟩:AN).AP).length:Int)then
  ((idx ((⟨a0.AQ,a0.AS,a0.AP⟩:AN).AP) x8).bind fun y11=>
  (tQ y11.At (⟨a0.AQ,a0.AS,a0.AP⟩:AN)).bind fun y12=>
  match y12 with
  | Sum.inr pv9=>((some (Sum.inr pv9)).bind fun r=>some (Sum.inr r)).bind fun r=>some (Sum.inr r)
  | Sum.inl y12=>
  (if 0<(y11.Ab.length:Int)then
   (bI (decide ((y11.Ab.length:Int)<=3))).bind fun y13=>
   match y13 with
   | Sum.inr pv10=>(((some (Sum.inr pv10)).bind fun r=>some (Sum.inr r)).bind fun r=>some (Sum.inr r)).bind fun r=>some (Sum.inr r)
   | Sum.inl y13=>
   some (Sum.inl ())
  else
   (bI false).bind fun y14=>
   match y14 with
   | Sum.inr pv11=>(((some (Sum.inr pv11)).bind fun r=>some (Sum.inr r)).bind fun r=>some (Sum.inr r)).bind fun r=>some (Sum.inr r)
   | Sum.inl y14=>
   some (Sum.inl ())).bind fun o=>match o with
  | Sum.inr r=>some r
  | Sum.inl _=>
  jH AA a0 y11 AA 0 x9).bind fun o=>match o with
  | Sum.inr r=>some r
  | Sum.inl x10=>
  (chk (x8+1)).bind fun z4=>
  mD AA a0 k z4 x10
 else
  some (Sum.inl x9)
def tY (AA:Nat) (a0:AN):Option (Unit ⊕ Value):=
 (if (a0.AQ.length:Int)<=30 then
  if (a0.AS.length:Int)<=30 then
   (bI (decide ((a0.AP.length:Int)<=30))).bind fun y1=>
   match y1 with
   | Sum.inr pv1=>(some (Sum.inr pv1)).bind fun r=>some (Sum.inr r)
   | Sum.inl y1=>
   some (Sum.inl ())
  else
   (bI false).bind fun y2=>
   match y2 with
   | Sum.inr pv2=>(some (Sum.inr pv2)).bind fun r=>some (Sum.inr r)
   | Sum.inl y2=>
   some (Sum.inl ())
 else
  (bI false).bind fun y3=>
  match y3 with
  | Sum.inr pv3=>(some (Sum.inr pv3)).bind fun r=>some (Sum.inr r)
  | Sum.inl y3=>
  some (Sum.inl ())).bind fun o=>match o with
 | Sum.inr r=>some r
 | Sum.inl _=>
 (oH a0 AA 0).bind fun o=>match o with
 | Sum.inr r=>some r
 | Sum.inl _=>
 (mZ a0 AA 0).bind fun o=>match o with
 | Sum.inr r=>some r
 | Sum.inl _=>
 (mD AA a0 AA 0 (aG.none:aG Int Bool)).bind fun o=>match o with
 | Sum.inr r=>some r
 | Sum.inl x5=>
 (bI (decide ((x5.size:Int)=(((⟨a0.AQ,a0.AS,a0.AP⟩:AN).AQ).length:Int)))).bind fun y23=>
 match y23 with
 | Sum.inr pv16=>some (Sum.inr pv16)
 | Sum.inl y23=>
 some (Sum.inl ())
theorem aEL (AA:Nat)  (a0:AN) (r:Unit ⊕ Value) (H:tY AA a0=some r):FnE Tryz.prog 176 [fSt aE a0] [] r (fun r=>cV []) (fun r=>[]):=by
 unfold tY at H
 refine rL Tryz.func176 rfl Tryz.ntmps176 rfl (fun β=>?_)
 refine Z1 ?_
 refine Tn (cC rfl hh cB) fun b1=>?_
 revert H;refine B1 fun o1 H Hr1=>?_
 refine aS (ι:=Unit) (fun i=>o1=Sum.inl ()) (fun i=>[(1,fEq (ptr b1))]) (fun i=>[aA b1 77 [fSl bX a0.AQ,fSl bQ a0.AS,fSl bF a0.AP]]) ?_ ?_
 revert H;refine I6 (fun c1 H=>?_) fun c1 H=>?_
 revert H;refine I6 (fun c2 H=>?_) fun c2 H=>?_
 revert H;refine B5 fun y1 h1 H=>?_
 rcases y1 with y1 | pv1 <;> dsimp only at H
 refine Tc (aQ _ _ h1).s ?_
 refine Z1 ?_
 exact Tm (()) (ij H)
 refine Tp (aQ _ _ h1).pan ?_
 revert H;refine B1 fun r1 H e1=>?_
 cases e1;cases Hr1
 cases H
 exact bP
 revert H;refine B5 fun y2 h2 H=>?_
 rcases y2 with y2 | pv2 <;> dsimp only at H
 refine Tc (aQ _ _ h2).s ?_
 refine Z1 ?_
 exact Tm (()) (ij H)
 refine Tp (aQ _ _ h2).pan ?_
 revert H;refine B1 fun r2 H e2=>?_
 cases e2;cases Hr1
 cases H
 exact bP
 revert H;refine B11 fun y3 h3 H=>?_
 rcases y3 with y3 | pv3 <;> dsimp only at H
 refine Tc (aQ _ _ h3).s ?_
 refine Z1 ?_
 exact Tm (()) (ij H)
 refine Tp (aQ _ _ h3).pan ?_
 revert H;refine B1 fun r3 H e3=>?_
 cases e3;cases Hr1
 cases H
 exact bP
 clear H;intro i hi;subst o1;have H:=Hr1;clear Hr1;try dsimp only at H
 try dsimp only
 refine Z1 ?_
 refine cF (φ:=aB aE (⟨a0.AQ,a0.AS,a0.AP⟩:AN)) (v:=ptr b1) [1] (gH aO.rfl) fz ?_
 refine cE ?_
 refine Yy (mR rfl (aK.cons hh aK.nil)) ?_
 revert H;refine B2 fun o2 H Hr2=>?_
 refine aS (ι:=Unit) (fun i=>o2=Sum.inl ()) (fun i=>[(1,aB aE (⟨a0.AQ,a0.AS,a0.AP⟩:AN)),(2,bU 203 [aB aE (⟨a0.AQ,a0.AS,a0.AP⟩:AN)])]) (fun i=>[]) ?_ ?_
 refine Z7 ?_
 refine Tl (ι:=Nat × Int) (fun i=>oH a0 i.1 i.2=_) (fun i=>i.1) (fun i=>[(1,aB aE (⟨a0.AQ,a0.AS,a0.AP⟩:AN)),(2,bU 203 [aB aE (⟨a0.AQ,a0.AS,a0.AP⟩:AN)]),(31,fSl bX ((⟨a0.AQ,a0.AS,a0.AP⟩:AN).AQ)),(32,fI (((⟨a0.AQ,a0.AS,a0.AP⟩:AN).AQ).length:Int)),(33,fI i.2)]) (fun i=>[]) (AA,0) H ?_
 clear H;rintro⟨k1,x2⟩ H
 replace H:oH a0 k1 x2=_:=H
 try dsimp only
 obtain _ | k1:=k1
 rw [oH]at H;cases H
 rw [oH]at H
 refine Z3 ?_
 refine aJ ?_
 revert H;refine is (fun c3 H=>?_) fun c3 H=>?_
 revert H;refine B3 fun o3 H Hr3=>?_
 refine aS (ι:=Unit) (fun i=>o3=Sum.inl ()) (fun i=>[(1,aB aE (⟨a0.AQ,a0.AS,a0.AP⟩:AN)),(2,bU 203 [aB aE (⟨a0.AQ,a0.AS,a0.AP⟩:AN)]),(31,fSl bX ((⟨a0.AQ,a0.AS,a0.AP⟩:AN).AQ)),(32,fI (((⟨a0.AQ,a0.AS,a0.AP⟩:AN).AQ).length:Int)),(33,fI x2)]) (fun i=>[]) ?_ ?_
 revert H;refine B2 fun y4 h4 H=>?_
 refine Z2 ?_
 refine Tn (bG rfl aIc rfl) fun b2=>?_
 refine bZ (φs':=[fI y4.At,fI y4.Ap]) a2e rfl rfl (has rfl) (has rfl) (aC (aI a2e) (aC (aI a2e) bD)) (sz rfl) rfl rfl rfl ?_
 revert H;refine B5 fun y5 h5 H=>?_
 rcases y5 with y5 | pv4 <;> dsimp only at H
 refine gI a2e rfl rfl rfl (has rfl) (aK.cons (has rfl) aK.nil) rfl (cb rfl) (aBT y4.At (⟨a0.AQ,a0.AS,a0.AP⟩:AN) (Sum.inl y5) h5).s rfl ?_
 revert H;refine I6 (fun c4 H=>?_) fun c4 H=>?_
 revert H;refine B4 fun y6 h6 H=>?_
 rcases y6 with y6 | pv5 <;> dsimp only at H
 refine Tc (aQ _ _ h6).s ?_
 refine Z3 ?_
 refine aH [] (by decide) ?_
 exact Tm (()) (ij H)
 refine Tp (aQ _ _ h6).pan ?_
 revert H;refine B2 fun r4 H e4=>?_
 cases e4;cases Hr3
 revert H;refine B3 fun r5 H e5=>?_
 cases e5;cases Hr2
 cases H
 exact bP
 revert H;refine B4 fun y7 h7 H=>?_
 rcases y7 with y7 | pv6 <;> dsimp only at H
 refine Tc (aQ _ _ h7).s ?_
 refine Z3 ?_
 refine aH [] (by decide) ?_
 exact Tm (()) (ij H)
 refine Tp (aQ _ _ h7).pan ?_
 revert H;refine B2 fun r6 H e6=>?_
 cases e6;cases Hr3
 revert H;refine B3 fun r7 H e7=>?_
 cases e7;cases Hr2
 cases H
 exact bP
 refine aBv a2e rfl (has rfl) (aK.cons (has rfl) aK.nil) rfl (cb rfl) (aBT y4.At (⟨a0.AQ,a0.AS,a0.AP⟩:AN) (Sum.inr pv4) h5).pan rfl ?_
 revert H;refine B3 fun r8 H e8=>?_
 cases e8;cases Hr3
 revert H;refine B3 fun r9 H e9=>?_
 cases e9;cases Hr2
 cases H
 exact bP
 clear H;intro i hi;subst o3;have H:=Hr3;clear Hr3;try dsimp only at H
 try dsimp only
 revert H;refine B1 fun z1 h8 H=>?_
 refine Z3 ?_
 exact Tm ((k1,z1)) ⟨H,ls⟩
 refine Z6 ?_
 exact Tm (()) (ij H)
 clear H;intro i hi;subst o2;have H:=Hr2;clear Hr2;try dsimp only at H
 try dsimp only
 revert H;refine bs fun o4 H Hr4=>?_
 refine aS (ι:=Unit) (fun i=>o4=Sum.inl ()) (fun i=>[(1,aB aE (⟨a0.AQ,a0.AS,a0.AP⟩:AN)),(2,bU 203 [aB aE (⟨a0.AQ,a0.AS,a0.AP⟩:AN)])]) (fun i=>[]) ?_ ?_
 refine Z7 ?_
 refine Tl (ι:=Nat × Int) (fun i=>mZ a0 i.1 i.2=_) (fun i=>i.1) (fun i=>[(1,aB aE (⟨a0.AQ,a0.AS,a0.AP⟩:AN)),(2,bU 203 [aB aE (⟨a0.AQ,a0.AS,a0.AP⟩:AN)]),(52,fSl bQ ((⟨a0.AQ,a0.AS,a0.AP⟩:AN).AS)),(53,fI (((⟨a0.AQ,a0.AS,a0.AP⟩:AN).AS).length:Int)),(54,fI i.2)]) (fun i=>[]) (AA,0) H ?_
 clear H;rintro⟨k2,x4⟩ H
 replace H:mZ a0 k2 x4=_:=H
 try dsimp only
 obtain _ | k2:=k2
 rw [mZ]at H;cases H
 rw [mZ]at H
 refine Z3 ?_
 refine aJ ?_
 revert H;refine is (fun c5 H=>?_) fun c5 H=>?_
 revert H;refine B3 fun o5 H Hr5=>?_
 refine aS (ι:=Unit) (fun i=>o5=Sum.inl ()) (fun i=>[(1,aB aE (⟨a0.AQ,a0.AS,a0.AP⟩:AN)),(2,bU 203 [aB aE (⟨a0.AQ,a0.AS,a0.AP⟩:AN)]),(52,fSl bQ ((⟨a0.AQ,a0.AS,a0.AP⟩:AN).AS)),(53,fI (((⟨a0.AQ,a0.AS,a0.AP⟩:AN).AS).length:Int)),(54,fI x4)]) (fun i=>[]) ?_ ?_
 revert H;refine B3 fun y8 h9 H=>?_
 refine Z2 ?_
 refine Tn (bG rfl vL rfl) fun b3=>?_
 refine Z1 ?_
 refine bZ (φs':=[fI y8.In,fI y8.AU]) a2e rfl rfl (has rfl) (has rfl) (aC (aI a2e) (aC (aI a2e) bD)) (sz rfl) rfl rfl rfl ?_
 revert H;refine I6 (fun c6 H=>?_) fun c6 H=>?_
 revert H;refine B5 fun y9 h10 H=>?_
 rcases y9 with y9 | pv7 <;> dsimp only at H
 refine Tc (aQ _ _ h10).s ?_
 refine Z3 ?_
 refine aH [] (by decide) ?_
 exact Tm (()) (ij H)
 refine Tp (aQ _ _ h10).pan ?_
 revert H;refine B2 fun r10 H e10=>?_
 cases e10;cases Hr5
 revert H;refine B3 fun r11 H e11=>?_
 cases e11;cases Hr4
 cases H
 exact bP
 revert H;refine B5 fun y10 h11 H=>?_
 rcases y10 with y10 | pv8 <;> dsimp only at H
 refine Tc (aQ _ _ h11).s ?_
 refine Z3 ?_
 refine aH [] (by decide) ?_
 exact Tm (()) (ij H)
 refine Tp (aQ _ _ h11).pan ?_
 revert H;refine B2 fun r12 H e12=>?_
 cases e12;cases Hr5
 revert H;refine B3 fun r13 H e13=>?_
 cases e13;cases Hr4
 cases H
 exact bP
 clear H;intro i hi;subst o5;have H:=Hr5;clear Hr5;try dsimp only at H
 try dsimp only
 revert H;refine B1 fun z2 h12 H=>?_
 refine Z3 ?_
 exact Tm ((k2,z2)) ⟨H,ls⟩
 refine Z6 ?_
 exact Tm (()) (ij H)
 clear H;intro i hi;subst o4;have H:=Hr4;clear Hr4;try dsimp only at H
 try dsimp only
 refine Z1 ?_
 refine Tn (aBd (fun y=>aR y) bO rfl) fun b4=>?_
 revert H;refine B2 fun o6 H Hr6=>?_
 refine aS (ι:=aG Int Bool) (fun i=>o6=Sum.inl i) (fun i=>[(1,aB aE (⟨a0.AQ,a0.AS,a0.AP⟩:AN)),(7,fEq (.map (some b4)))]) (fun i=>[dH bO (fun y=>aR y) b4 i]) ?_ ?_
 refine Z7 ?_
 refine Tl (ι:=Nat × Int × aG Int Bool) (fun i=>mD AA a0 i.1 i.2.1 i.2.2=_) (fun i=>i.1) (fun i=>[(1,aB aE (⟨a0.AQ,a0.AS,a0.AP⟩:AN)),(2,bU 203 [aB aE (⟨a0.AQ,a0.AS,a0.AP⟩:AN)]),(7,fEq (.map (some b4))),(72,fSl bF ((⟨a0.AQ,a0.AS,a0.AP⟩:AN).AP)),(73,fI (((⟨a0.AQ,a0.AS,a0.AP⟩:AN).AP).length:Int)),(74,fI i.2.1)]) (fun i=>[dH bO (fun y=>aR y) b4 i.2.2]) (AA,0,(aG.none:aG Int Bool)) H ?_
 clear H;rintro⟨k3,x8,x9⟩ H
 replace H:mD AA a0 k3 x8 x9=_:=H
 try dsimp only
 obtain _ | k3:=k3
 rw [mD]at H;cases H
 rw [mD]at H
 refine Z3 ?_
 refine aJ ?_
 revert H;refine is (fun c7 H=>?_) fun c7 H=>?_
 revert H;refine B3 fun o7 H Hr7=>?_
 refine aS (ι:=aG Int Bool) (fun i=>o7=Sum.inl i) (fun i=>[(1,aB aE (⟨a0.AQ,a0.AS,a0.AP⟩:AN)),(2,bU 203 [aB aE (⟨a0.AQ,a0.AS,a0.AP⟩:AN)]),(7,fEq (.map (some b4))),(72,fSl bF ((⟨a0.AQ,a0.AS,a0.AP⟩:AN).AP)),(73,fI (((⟨a0.AQ,a0.AS,a0.AP⟩:AN).AP).length:Int)),(74,fI x8)]) (fun i=>[dH bO (fun y=>aR y) b4 i]) ?_ ?_
 revert H;refine B2 fun y11 h13 H=>?_
 refine Z2 ?_
 refine Tn (bG rfl sJ rfl) fun b5=>?_
 refine bZ (φs':=[fI y11.At,fSl tI y11.Ab,fI y11.AU]) a2e rfl rfl (has rfl) (has rfl) (aC (aI a2e) (aC (aP) (aC (aI a2e) bD))) (sz rfl) rfl rfl rfl ?_
 revert H;refine B5 fun y12 h14 H=>?_
 rcases y12 with y12 | pv9 <;> dsimp only at H
 refine gI a2e rfl rfl rfl (has rfl) (aK.cons (has rfl) aK.nil) rfl (cb rfl) (aBT y11.At (⟨a0.AQ,a0.AS,a0.AP⟩:AN) (Sum.inl y12) h14).s rfl ?_
 revert H;refine B1 fun o8 H Hr8=>?_
 refine aS (ι:=Unit) (fun i=>o8=Sum.inl ()) (fun i=>[(1,aB aE (⟨a0.AQ,a0.AS,a0.AP⟩:AN)),(2,bU 203 [aB aE (⟨a0.AQ,a0.AS,a0.AP⟩:AN)]),(7,fEq (.map (some b4))),(72,fSl bF ((⟨a0.AQ,a0.AS,a0.AP⟩:AN).AP)),(73,fI (((⟨a0.AQ,a0.AS,a0.AP⟩:AN).AP).length:Int)),(74,fI x8),(9,fEq (ptr b5))]) (fun i=>[aA b5 81 [fI y11.At,fSl tI y11.Ab,fI y11.AU],dH bO (fun y=>aR y) b4 x9]) ?_ ?_
 revert H;refine I6 (fun c8 H=>?_) fun c8 H=>?_
 revert H;refine B5 fun y13 h15 H=>?_
 rcases y13 with y13 | pv10 <;> dsimp only at H
 refine Tc (aQ _ _ h15).s ?_
 refine Z1 ?_
 exact Tm (()) (ij H)
 refine Tp (aQ _ _ h15).pan ?_
 revert H;refine B1 fun r14 H e14=>?_
 cases e14;cases Hr8
 revert H;refine B2 fun r15 H e15=>?_
 cases e15;cases Hr7
 revert H;refine B3 fun r16 H e16=>?_
 cases e16;cases Hr6
 cases H
 exact bP
 revert H;refine B5 fun y14 h16 H=>?_
 rcases y14 with y14 | pv11 <;> dsimp only at H
 refine Tc (aQ _ _ h16).s ?_
 refine Z1 ?_
 exact Tm (()) (ij H)
 refine Tp (aQ _ _ h16).pan ?_
 revert H;refine B1 fun r17 H e17=>?_
 cases e17;cases Hr8
 revert H;refine B2 fun r18 H e18=>?_
 cases e18;cases Hr7
 revert H;refine B3 fun r19 H e19=>?_
 cases e19;cases Hr6
 cases H
 exact bP
 clear H;intro i hi;subst o8;have H:=Hr8;clear Hr8;try dsimp only at H
 try dsimp only
 refine Z7 ?_
 refine Tl (ι:=Nat × Int × aG Int Bool) (fun i=>jH AA a0 y11 i.1 i.2.1 i.2.2=_) (fun i=>i.1) (fun i=>[(1,aB aE (⟨a0.AQ,a0.AS,a0.AP⟩:AN)),(2,bU 203 [aB aE (⟨a0.AQ,a0.AS,a0.AP⟩:AN)]),(7,fEq (.map (some b4))),(72,fSl bF ((⟨a0.AQ,a0.AS,a0.AP⟩:AN).AP)),(73,fI (((⟨a0.AQ,a0.AS,a0.AP⟩:AN).AP).length:Int)),(74,fI x8),(9,fEq (ptr b5)),(94,fSl tI y11.Ab),(95,fI (y11.Ab.length:Int)),(96,fI i.2.1)]) (fun i=>[aA b5 81 [fI y11.At,fSl tI y11.Ab,fI y11.AU],dH bO (fun y=>aR y) b4 i.2.2]) (AA,0,x9) H ?_
 clear H;rintro⟨k4,x13,x14⟩ H
 replace H:jH AA a0 y11 k4 x13 x14=_:=H
 try dsimp only
 obtain _ | k4:=k4
 rw [jH]at H;cases H
 rw [jH]at H
 refine Z3 ?_
 refine aJ ?_
 revert H;refine is (fun c9 H=>?_) fun c9 H=>?_
 refine Z3 ?_
 refine aJ ?_
 revert H;refine B3 fun y15 h17 H=>?_
 revert H;refine B5 fun o9 H Hr9=>?_
 refine aS (ι:=Unit) (fun i=>o9=Sum.inl ()) (fun i=>[(1,aB aE (⟨a0.AQ,a0.AS,a0.AP⟩:AN)),(2,bU 203 [aB aE (⟨a0.AQ,a0.AS,a0.AP⟩:AN)]),(7,fEq (.map (some b4))),(72,fSl bF ((⟨a0.AQ,a0.AS,a0.AP⟩:AN).AP)),(73,fI (((⟨a0.AQ,a0.AS,a0.AP⟩:AN).AP).length:Int)),(74,fI x8),(9,fEq (ptr b5)),(94,fSl tI y11.Ab),(95,fI (y11.Ab.length:Int)),(96,fI x13),(11,fI y15)]) (fun i=>[aA b5 81 [fI y11.At,fSl tI y11.Ab,fI y11.AU],dH bO (fun y=>aR y) b4 x14]) ?_ ?_
 revert H;refine is (fun c10 H=>?_) fun c10 H=>?_
 revert H;refine is (fun c11 H=>?_) fun c11 H=>?_
 revert H;refine bs fun y16 h18 H=>?_
 revert H;refine is (fun c12 H=>?_) fun c12 H=>?_
 revert H;refine bs fun y17 h19 H=>?_
 revert H;refine bs fun y18 h20 H=>?_
 apply bW (ods:=[_,_,_,_,_,_,_,_,_,_,_,_,_,_,_,_,_,_,_,_,_,_,_,_,_,_,_,_,_]) 29 0 2 bV rfl rfl rfl
 refine ND ?_
 refine M8 ?_
 intros
 refine M8 ?_
 intros
 refine M8 ?_
 intros
 refine Mg c12 (o_slice (t:=tI) rfl hh aJ9 (aIM hh) (el rfl) h19) fun _=>?_
 refine M1 ?_
 intros
 refine Nc (aJv _ _ _ _ h20) fun _=>?_
 refine M2 ?_
 intros
 revert H;refine B1 fun y19 h21 H=>?_
 rcases y19 with y19 | pv12 <;> dsimp only at H
 refine Tc (aQ _ _ h21).s ?_
 refine Z1 ?_
 exact Tm (()) (ij H)
 refine Tp (aQ _ _ h21).pan ?_
 revert H;refine B1 fun r20 H e20=>?_
 cases e20;cases Hr9
 revert H;refine B6 fun r21 H e21=>?_
 cases e21;cases Hr7
 revert H;refine B3 fun r22 H e22=>?_
 cases e22;cases Hr6
 cases H
 exact bP
 exact fk
 kernel_rfl
 apply bW (ods:=[_,_,_,_,_,_,_,_,_,_,_,_,_,_,_,_,_,_,_,_,_,_,_,_,_,_,_,_,_]) 29 0 2 bV rfl rfl rfl
 refine ND ?_
 refine M8 ?_
 intros
 refine M8 ?_
 intros
 refine M8 ?_
 intros
 refine M5 ?_
 intros
 revert H;refine B1 fun y20 h22 H=>?_
 rcases y20 with y20 | pv13 <;> dsimp only at H
 refine Tc (aQ _ _ h22).s ?_
 refine Z1 ?_
 exact Tm (()) (ij H)
 refine Tp (aQ _ _ h22).pan ?_
 revert H;refine B1 fun r23 H e23=>?_
 cases e23;cases Hr9
 revert H;refine B6 fun r24 H e24=>?_
 cases e24;cases Hr7
 revert H;refine B3 fun r25 H e25=>?_
 cases e25;cases Hr6
 cases H
 exact bP
 exact fk
 kernel_rfl
 apply bW (ods:=[_,_,_,_,_,_,_,_,_,_,_,_,_,_,_,_,_,_,_,_,_,_,_,_,_,_,_,_,_]) 29 0 2 bV rfl rfl rfl
 refine ND ?_
 refine M8 ?_
 intros
 refine M8 ?_
 intros
 refine M8 ?_
 intros
 refine M5 ?_
 intros
 revert H;refine B1 fun y21 h23 H=>?_
 rcases y21 with y21 | pv14 <;> dsimp only at H
 refine Tc (aQ _ _ h23).s ?_
 refine Z1 ?_
 exact Tm (()) (ij H)
 refine Tp (aQ _ _ h23).pan ?_
 revert H;refine B1 fun r26 H e26=>?_
 cases e26;cases Hr9
 revert H;refine B6 fun r27 H e27=>?_
 cases e27;cases Hr7
 revert H;refine B3 fun r28 H e28=>?_
 cases e28;cases Hr6
 cases H
 exact bP
 exact fk
 kernel_rfl
 apply bW (ods:=[_,_,_,_,_,_,_,_,_,_,_,_,_,_,_,_,_,_,_,_,_,_,_,_,_,_,_,_,_]) 29 0 2 bV rfl rfl rfl
 refine ND ?_
 refine M8 ?_
 intros
 refine M8 ?_
 intros
 refine M8 ?_
 intros
 refine M5 ?_
 intros
 revert H;refine B1 fun y22 h24 H=>?_
 rcases y22 with y22 | pv15 <;> dsimp only at H
 refine Tc (aQ _ _ h24).s ?_
 refine Z1 ?_
 exact Tm (()) (ij H)
 refine Tp (aQ _ _ h24).pan ?_
 revert H;refine B1 fun r29 H e29=>?_
 cases e29;cases Hr9
 revert H;refine B6 fun r30 H e30=>?_
 cases e30;cases Hr7
 revert H;refine B3 fun r31 H e31=>?_
 cases e31;cases Hr6
 cases H
 exact bP
 exact fk
 kernel_rfl
 clear H;intro i hi;subst o9;have H:=Hr9;clear Hr9;try dsimp only at H
 try dsimp only
 refine Z3 ?_
 refine cL ?_
 refine fZ (k:=y15) (y:=true) a2e (.inl rfl) rfl (has rfl) (has rfl) rfl (has rfl) rfl vB ?_
 revert H;refine B4 fun z3 h25 H=>?_
 refine Z3 ?_
 refine aH [1,0] (by decide) ?_
 exact Tm ((k4,z3,aG.upd x14 y15 true)) ⟨H,ls⟩
 refine Z7 ?_
 refine aH [1] (by decide) ?_
 exact Tm (x14) (ij H)
 refine aBv a2e rfl (has rfl) (aK.cons (has rfl) aK.nil) rfl (cb rfl) (aBT y11.At (⟨a0.AQ,a0.AS,a0.AP⟩:AN) (Sum.inr pv9) h14).pan rfl ?_
 revert H;refine B3 fun r32 H e32=>?_
 cases e32;cases Hr7
 revert H;refine B3 fun r33 H e33=>?_
 cases e33;cases Hr6
 cases H
 exact bP
 clear H;intro x10 hi;subst o7;have H:=Hr7;clear Hr7;try dsimp only at H
 try dsimp only
 revert H;refine B1 fun z4 h26 H=>?_
 refine Z3 ?_
 exact Tm ((k3,z4,x10)) ⟨H,ls⟩
 refine Z6 ?_
 exact Tm (x9) (ij H)
 clear H;intro x5 hi;subst o6;have H:=Hr6;clear Hr6;try dsimp only at H
 try dsimp only
 refine Z2 ?_
 refine Yo 0 rfl (o_lenMO rfl hh vB) ?_
 revert H;refine B4 fun y23 h27 H=>?_
 rcases y23 with y23 | pv16 <;> dsimp only at H
 refine Tc (aQ _ _ h27).s ?_
 refine Z1 ?_
 cases H
 refine qQ ?_
 refine aH [] (by decide) ?_
 exact jQ (.inr rfl) rfl rfl
 refine Tp (aQ _ _ h27).pan ?_
 cases H
 exact bP
def vC (a0:AN):Option (Int):=
 (chk ((a0.AQ.length:Int)+(a0.AS.length:Int))).bind fun z1=>
 some z1
theorem aJ2  (a0:AN) (r:Int) (H:vC a0=some r):FnS Tryz.prog 177 [fSt aE a0] [] (fI r) (fun _=>[]):=by
 unfold vC at H
 refine bL Tryz.func177 rfl Tryz.ntmps177 rfl (fun β=>?_)
 refine Z1 ?_
 refine Tn (cC rfl hh cB) fun b1=>?_
 revert H;refine B9 fun z1 h1 H=>?_
 refine Z4 ?_
 cases H
 refine aH [] (by decide) ?_
 exact To
def oD (a0:AN) (a1:Ai):Nat->Int->Int->Option (Int)
| 0,_,_=>none
| k+1,x4,x5=>
 if x5<(a1.Ab.length:Int)then
  (idx a1.Ab x5).bind fun y1=>
  (idx a0.AQ y1).bind fun y2=>
  (chk (x4+y2.Ap)).bind fun z1=>
  (chk (x5+1)).bind fun z2=>
  oD a0 a1 k z1 z2
 else
  some x4
def yB (AA:Nat) (a0:AN) (a1:Ai):Option (Int):=
 (oD a0 a1 AA 0 0).bind fun x1=>
 some x1
theorem aJc (AA:Nat)  (a0:AN) (a1:Ai) (r:Int) (H:yB AA a0 a1=some r):FnS Tryz.prog 178 [fSt aE a0,fSt bF a1] [] (fI r) (fun _=>[]):=by
 unfold yB at H
 refine bL Tryz.func178 rfl Tryz.ntmps178 rfl (fun β=>?_)
 refine Z1 ?_
 refine Tn (cC rfl hh cB) fun b1=>?_
 refine Tn (cC rfl hh cB) fun b2=>?_
 revert H;refine B5 fun o1 H Hr1=>?_
 refine aS (ι:=Int) (fun i=>o1=i) (fun i=>[(5,fI i)]) (fun i=>[aA b2 81 [fI a1.At,fSl tI a1.Ab,fI a1.AU],aA b1 77 [fSl bX a0.AQ,fSl bQ a0.AS,fSl bF a0.AP]]) ?_ ?_
 refine Z7 ?_
 refine Tl (ι:=Nat × Int × Int) (fun i=>oD a0 a1 i.1 i.2.1 i.2.2=_) (fun i=>i.1) (fun i=>[(2,fEq (ptr b1)),(5,fI i.2.1),(9,fSl tI a1.Ab),(10,fI (a1.Ab.length:Int)),(11,fI i.2.2)]) (fun i=>[aA b2 81 [fI a1.At,fSl tI a1.Ab,fI a1.AU],aA b1 77 [fSl bX a0.AQ,fSl bQ a0.AS,fSl bF a0.AP]]) (AA,0,0) H ?_
 clear H;rintro⟨k1,x4,x5⟩ H
 replace H:oD a0 a1 k1 x4 x5=_:=H
 try dsimp only
 obtain _ | k1:=k1
 rw [oD]at H;cases H
 rw [oD]at H
 refine Z3 ?_
 refine aJ ?_
 revert H;refine is (fun c1 H=>?_) fun c1 H=>?_
 refine Z3 ?_
 refine aJ ?_
 revert H;refine B2 fun y1 h1 H=>?_
 revert H;refine B9 fun y2 h2 H=>?_
 revert H;refine B3 fun z1 h3 H=>?_
 revert H;refine B6 fun z2 h4 H=>?_
 refine Z3 ?_
 exact Tm ((k1,z1,z2)) ⟨H,ls⟩
 refine Z6 ?_
 exact Tm (x4) (ij H)
 clear H;intro x1 hi;subst o1;have H:=Hr1;clear Hr1;try dsimp only at H
 try dsimp only
 refine Z5 ?_
 cases H
 refine aH [] (by decide) ?_
 exact To
open Go.SX Go.SW Go.Dt
def aC4 (a0:Scope_speaks):Option (Int):=
 some 0
theorem aJ7  (a0:Scope_speaks) (r:Int) (H:aC4 a0=some r):FnS Tryz.prog 236 [fSt aJM a0] [] (fI r) (fun _=>[]):=by
 unfold aC4 at H
 refine bL Tryz.func236 rfl Tryz.ntmps236 rfl (fun β=>?_)
 refine Z1 ?_
 refine Tn (cC rfl hh cB) fun b1=>?_
 refine Z6 ?_
 cases H
 refine aH [] (by decide) ?_
 exact To
def aCX (a0:Scope_travels):Option (Int):=
 some 1
theorem aKj  (a0:Scope_travels) (r:Int) (H:aCX a0=some r):FnS Tryz.prog 237 [fSt aKw a0] [] (fI r) (fun _=>[]):=by
 unfold aCX at H
 refine bL Tryz.func237 rfl Tryz.ntmps237 rfl (fun β=>?_)
 refine Z1 ?_
 refine Tn (cC rfl hh cB) fun b1=>?_
 refine Z6 ?_
 cases H
 refine aH [] (by decide) ?_
 exact To
def aCS (a0:Int):Option (Int):=
 some a0
theorem aIQ  (a0:Int) (r:Int) (H:aCS a0=some r):FnS Tryz.prog 238 [fI a0] [] (fI r) (fun _=>[]):=by
 unfold aCS at H
 refine bL Tryz.func238 rfl Tryz.ntmps238 rfl (fun β=>?_)
 refine Z8 ?_
 cases H
 exact To
def aCq (a0:Scope_decides):Option (Int):=
 some 2
theorem aIy  (a0:Scope_decides) (r:Int) (H:aCq a0=some r):FnS Tryz.prog 239 [fSt aIR a0] [] (fI r) (fun _=>[]):=by
 unfold aCq at H
 refine bL Tryz.func239 rfl Tryz.ntmps239 rfl (fun β=>?_)
 refine Z1 ?_
 refine Tn (cC rfl hh cB) fun b1=>?_
 refine Z6 ?_
 cases H
 refine aH [] (by decide) ?_
 exact To
def aD5 (a0:Scope_declares):Option (Int):=
 some 1
theorem aI9  (a0:Scope_declares) (r:Int) (H:aD5 a0=some r):FnS Tryz.prog 240 [fSt aJ3 a0] [] (fI r) (fun _=>[]):=by
 unfold aD5 at H
 refine bL Tryz.func240 rfl Tryz.ntmps240 rfl (fun β=>?_)
 refine Z1 ?_
 refine Tn (cC rfl hh cB) fun b1=>?_
 refine Z6 ?_
 cases H
 refine aH [] (by decide) ?_
 exact To
def kY:Value->Option Int
 | .iface 207 (.agg ⟨[]⟩)=>aC4 ⟨⟩
 | .iface 208 (.agg ⟨[]⟩)=>aCX ⟨⟩
 | .iface 235 (.int .i64 n)=>aCS n
 | .iface 236 (.agg ⟨[]⟩)=>aCq ⟨⟩
 | .iface 237 (.agg ⟨[]⟩)=>aD5 ⟨⟩
 | _=>none
theorem aIs (v:Value) (r:Int) (H:kY v=some r):Inv Tryz.prog v "cabotage/scope.kids" [] (fI r):=by
 unfold kY at H
 split at H
 exact⟨_,_,236,rfl,fun w=>by kernel_rfl,(cb rfl),(aJ7 ⟨⟩ r H).args (aO.cons (vQ []) aO.nil)⟩
 exact⟨_,_,237,rfl,fun w=>by kernel_rfl,(cb rfl),(aKj ⟨⟩ r H).args (aO.cons (vQ []) aO.nil)⟩
 rename_i n;exact⟨_,_,238,rfl,fun w=>by kernel_rfl,(cb rfl),(aIQ n r H).args aO.rfl⟩
 exact⟨_,_,239,rfl,fun w=>by kernel_rfl,(cb rfl),(aIy ⟨⟩ r H).args (aO.cons (vQ []) aO.nil)⟩
 exact⟨_,_,240,rfl,fun w=>by kernel_rfl,(cb rfl),(aI9 ⟨⟩ r H).args (aO.cons (vQ []) aO.nil)⟩
 cases H
def lI (AA:Nat) (a2:Int) (y7:AV):Nat->Int->Option ((Unit) ⊕ (Ae ⊕ Value))
| 0,_=>none
| k+1,x8=>
 if x8<(y7.AW.length:Int)then
  (idx y7.AW x8).bind fun y27=>
  (yE AA (⟨y27.Op,y27.N,y27.AO⟩:AT) a2).bind fun y28=>
  match y28 with
  | Sum.inr pv16=>(some (Sum.inr pv16)).bind fun r=>some (Sum.inr r)
  | Sum.inl y28=>
  (chk (x8+1)).bind fun z1=>
  lI AA a2 y7 k z1
 else
  some (Sum.inl ())
def lP (AA:Nat) (rec_scope_looker_node:Ae->Int->Int->Option (Ae ⊕ Value)) (y30:AN) (z2:Int):Nat->Int->(List ByteArray)->(List AV)->(List AN)->Int->(List Int)->(List Bool)->(List Bool)->Option ((List ByteArray × List AV × List AN × Int × List Int × List Bool × List Bool) ⊕ ((Int × List ByteArray × List AV × List AN × Int × List Int × List Bool × List Bool) ⊕ (Ae ⊕ Value)))
| 0,_,_,_,_,_,_,_,_=>none
| k+1,x32,x33,x34,x35,x36,x37,x38,x39=>
 if x32<(y30.AP.length:Int)then
  (idx y30.AP x32).bind fun y33=>
  (yB AA (⟨y30.AQ,y30.AS,y30.AP⟩:AN) (⟨y33.At,y33.Ab,y33.AU⟩:Ai)).bind fun y34=>
  (chk (z2+y34)).bind fun z3=>
  (rec_scope_looker_node (⟨(⟨x33,x34,x35,x36⟩:AI),x37,x38,x39⟩:Ae) y33.AU z3).bind fun y35=>
  match y35 with
  | Sum.inr pv18=>((some (Sum.inr pv18)).bind fun r=>some (Sum.inr r)).bind fun r=>some (Sum.inr r)
  | Sum.inl y35=>
  (chk (x32+1)).bind fun z4=>
  lP AA rec_scope_looker_node y30 z2 k z4 y35.p.AH y35.p.AD y35.p.AF y35.p.AG y35.Ak y35.AR y35.Ad
 else
  some (Sum.inl (x33,x34,x35,x36,x37,x38,x39))
def lQ (rec_scope_looker_node:Ae->Int->Int->Option (Ae ⊕ Value)) (y30:AN) (z2:Int):Nat->Int->(List ByteArray)->(List AV)->(List AN)->Int->(List Int)->(List Bool)->(List Bool)->Option ((Int × List ByteArray × List AV × List AN × Int × List Int × List Bool × List Bool) ⊕ (Ae ⊕ Value))
| 0,_,_,_,_,_,_,_,_=>none
| k+1,x48,x49,x50,x51,x52,x53,x54,x55=>
 if x48<(y30.AS.length:Int)then
  (idx y30.AS x48).bind fun y36=>
  (rec_scope_looker_node (⟨(⟨x49,x50,x51,x52⟩:AI),x53,x54,x55⟩:Ae) y36.AU z2).bind fun y37=>
  match y37 with
  | Sum.inr pv19=>(some (Sum.inr pv19)).bind fun r=>some (Sum.inr r)
  | Sum.inl y37=>
  (chk (x48+1)).bind fun z5=>
  lQ rec_scope_looker_node y30 z2 k z5 y37.p.AH y37.p.AD y37.p.AF y37.p.AG y37.Ak y37.AR y37.Ad
 else
  some (Sum.inl (z2,x49,x50,x51,x52,x53,x54,x55))
def mA (rec_scope_looker_node:Ae->Int->Int->Option (Ae ⊕ Value)) (y7:AV) (x9:Int):Nat->Int->(List ByteArray)->(List AV)->(List AN)->Int->(List Int)->(List Bool)->(List Bool)->Option (Ae ⊕ Value)
| 0,_,_,_,_,_,_,_,_=>none
| k+1,x64,x65,x66,x67,x68,x69,x70,x71=>
 if x64<(y7.AO.length:Int)then
  (idx y7.AO x64).bind fun y38=>
  (rec_scope_looker_node (⟨(⟨x65,x66,x67,x68⟩:AI),x69,x70,x71⟩:Ae) y38 x9).bind fun y39=>
  match y39 with
  | Sum.inr pv20=>some (Sum.inr pv20)
  | Sum.inl y39=>
  (chk (x64+1)).bind fun z6=>
  mA rec_scope_looker_node y7 x9 k z6 y39.p.AH y39.p.AD y39.p.AF y39.p.AG y39.Ak y39.AR y39.Ad
 else
  some (Sum.inl (⟨(⟨x65,x66,x67,x68⟩:AI),x69,x70,x71⟩:Ae))
def eP:Nat->Ae->Int->Int->Option (Ae ⊕ Value)
| 0,_,_,_=>none
| AA+1,a0,a1,a2=>
 (if 0<=a1 then
  if a1<(a0.p.AD.length:Int)then
   (idx a0.AR a1).bind fun y1=>
   (bI (!y1)).bind fun y2=>
   match y2 with
   | Sum.inr pv1=>(some (Sum.inr pv1)).bind fun r=>some (Sum.inr r)
   | Sum.inl y2=>
   some (Sum.inl ())
  else
   (bI false).bind fun y3=>
   match y3 with
   | Sum.inr pv2=>(some (Sum.inr pv2)).bind fun r=>some (Sum.inr r)
   | Sum.inl y3=>
   some (Sum.inl ())
 else
  (bI false).bind fun y4=>
  match y4 with
  | Sum.inr pv3=>(some (Sum.inr pv3)).bind fun r=>some (Sum.inr r)
  | Sum.inl y4=>
  some (Sum.inl ())).bind fun o=>match o with
 | Sum.inr r=>some r
 | Sum.inl _=>
 (idx a0.AR a1).bind fun y5=>
 (idx a0.Ak a1).bind fun y6=>
 (idx a0.p.AD a1).bind fun y7=>
 (hP y7.Op).bind fun y8=>
 ((iL y8).bind fun x1=>
 bif !x1 then
  (kY y8).bind fun y9=>
  (bI (decide ((y7.AO.length:Int)=y9))).bind fun y10=>
  match y10 with
  | Sum.inr pv4=>(some (Sum.inr pv4)).bind fun r=>some (Sum.inr r)
  | Sum.inl y10=>
  some (Sum.inl ())
 else
  (bI false).bind fun y11=>
  match y11 with
  | Sum.inr pv5=>(some (Sum.inr pv5)).bind fun r=>some (Sum.inr r)
  | Sum.inl y11=>
  some (Sum.inl ())).bind fun o=>match o with
 | Sum.inr r=>some r
 | Sum.inl _=>
 ((dO 207 (.agg #[]) y8).bind fun y12=>
 match y12 with
 | (u1,x3)=>
 bif x3 then
  if 0<=y7.N then
   (bI (decide (y7.N<a2))).bind fun y13=>
   match y13 with
   | Sum.inr pv6=>(some (Sum.inr pv6)).bind fun r=>some (Sum.inr r)
   | Sum.inl y13=>
   some (Sum.inl (min (y7.AW.length:Int) 3))
  else
   (bI false).bind fun y14=>
   match y14 with
   | Sum.inr pv7=>(some (Sum.inr pv7)).bind fun r=>some (Sum.inr r)
   | Sum.inl y14=>
   some (Sum.inl (min (y7.AW.length:Int) 3))
 else
  (dO 208 (.agg #[]) y8).bind fun y15=>
  match y15 with
  | (u2,x4)=>
  bif x4 then
   if 0<=y7.N then
    (bI (decide (y7.N<a2))).bind fun y16=>
    match y16 with
    | Sum.inr pv8=>(some (Sum.inr pv8)).bind fun r=>some (Sum.inr r)
    | Sum.inl y16=>
    some (Sum.inl 0)
   else
    (bI false).bind fun y17=>
    match y17 with
    | Sum.inr pv9=>(some (Sum.inr pv9)).bind fun r=>some (Sum.inr r)
    | Sum.inl y17=>
    some (Sum.inl 0)
  else
   (dO 237 (.agg #[]) y8).bind fun y18=>
   match y18 with
   | (u3,x5)=>
   bif x5 then
    if 0<=y7.N then
     if y7.N<(a0.p.AF.length:Int)then
      (idx a0.Ad y7.N).bind fun y19=>
      (bI (!y19)).bind fun y20=>
      match y20 with
      | Sum.inr pv10=>(some (Sum.inr pv10)).bind fun r=>some (Sum.inr r)
      | Sum.inl y20=>
      some (Sum.inl 0)
     else
      (bI false).bind fun y21=>
      match y21 with
      | Sum.inr pv11=>(some (Sum.inr pv11)).bind fun r=>some (Sum.inr r)
      | Sum.inl y21=>
      some (Sum.inl 0)
    else
     (bI false).bind fun y22=>
     match y22 with
     | Sum.inr pv12=>(some (Sum.inr pv12)).bind fun r=>some (Sum.inr r)
     | Sum.inl y22=>
     some (Sum.inl 0)
   else
    (dO 236 (.agg #[]) y8).bind fun y23=>
    match y23 with
    | (u4,x6)=>
    bif x6 then
     (bI (decide (y7.N=0))).bind fun y24=>
     match y24 with
     | Sum.inr pv13=>(some (Sum.inr pv13)).bind fun r=>some (Sum.inr r)
     | Sum.inl y24=>
     some (Sum.inl 1)
    else
     (bI (decide (y7.N=0))).bind fun y25=>
     match y25 with
     | Sum.inr pv14=>(some (Sum.inr pv14)).bind fun r=>some (Sum.inr r)
     | Sum.inl y25=>
     some (Sum.inl 0)).bind fun o=>match o with
 | Sum.inr r=>some r
 | Sum.inl x2=>
 (bI (decide ((y7.AW.length:Int)=x2))).bind fun y26=>
 match y26 with
 | Sum.inr pv15=>some (Sum.inr pv15)
 | Sum.inl y26=>
 (lI AA a2 y7 AA 0).bind fun o=>match o with
 | Sum.inr r=>some r
 | Sum.inl _=>
 (if y7.Op=4 then
  (idx a0.Ad y7.N).bind fun y29=>
  (idx a0.p.AF y7.N).bind fun y30=>
  (tY AA (⟨y30.AQ,y30.AS,y30.AP⟩:AN)).bind fun y31=>
  match y31 with
  | Sum.inr pv17=>(some (Sum.inr pv17)).bind fun r=>some (Sum.inr r)
  | Sum.inl y31=>
  (vC (⟨y30.AQ,y30.AS,y30.AP⟩:AN)).bind fun y32=>
  (chk (a2+y32)).bind fun z2=>
  (lP AA (eP AA) y30 z2 AA 0 a0.p.AH a0.p.AD a0.p.AF a0.p.AG (a0.Ak.set a1.toNat a2) (a0.AR.set a1.toNat true) (a0.Ad.set y7.N.toNat true)).bind fun o=>match o with
  | Sum.inr r=>some r
  | Sum.inl (x17,x18,x19,x20,x21,x22,x23)=>
  lQ (eP AA) y30 z2 AA 0 x17 x18 x19 x20 x21 x22 x23
 else
  some (Sum.inl (a2,a0.p.AH,a0.p.AD,a0.p.AF,a0.p.AG,a0.Ak.set a1.toNat a2,a0.AR.set a1.toNat true,a0.Ad))).bind fun o=>match o with
 | Sum.inr r=>some r
 | Sum.inl (x9,x10,x11,x12,x13,x14,x15,x16)=>
 mA (eP AA) y7 x9 AA 0 x10 x11 x12 x13 x14 x15 x16
theorem aEM:∀ (AA:Nat),(∀ (p0:Nat) (a0:Ae) (a1:Int) (a2:Int) (r:Ae ⊕ Value) (H:eP AA a0 a1 a2=some r),FnE Tryz.prog 164 [fEq (.pointer (some ⟨p0,0,none⟩)),fI a1,fI a2] [aBP p0 a0] r (fun r=>cV []) (fun r=>[aBP p0 r])):=by
 intro AA
 induction AA with
 | zero=>exact fun p0 a0 a1 a2 r H=>(by rw [eP]at H;cases H)
 | succ AA ih=>
 have ih_scope_looker_node:=@ih
 refine ?_
 intro p0 a0 a1 a2 r H
 rw [eP]at H
 refine rL Tryz.func164 rfl Tryz.ntmps164 rfl (fun β=>?_)
 refine wJ (fun v1 v2 v3=>?_)
 refine aF 1 rfl (fun hc_v1=>?_)
 refine aF 2 rfl (fun hc_v2=>?_)
 refine aF 3 rfl (fun hc_v3=>?_)
 revert H;refine bs fun o1 H Hr1=>?_
 refine aS (ι:=Unit) (fun i=>o1=Sum.inl ()) (fun i=>[(0,fEq (ptr p0)),(1,fI a1),(2,fI a2)]) (fun i=>[aA p0 131 [fSl aL a0.p.AH,fSl aY a0.p.AD,fSl aE a0.p.AF,fI a0.p.AG,fEq v1,fEq v2,fEq v3],aD v1 3 tI a0.Ak,aD v2 4 bE a0.AR,aD v3 4 bE a0.Ad]) ?_ ?_
 revert H;refine I4 (fun c1 H=>?_) fun c1 H=>?_
 revert H;refine I10 (fun c2 H=>?_) fun c2 H=>?_
 revert H;refine B5 fun y1 h1 H=>?_
 refine Z1 ?_
 refine Yh 2 rfl c2 (zQ rfl rfl hh (sc rfl) (gD h1) rfl) ?_
 revert H;refine B2 fun y2 h2 H=>?_
 rcases y2 with y2 | pv1 <;> dsimp only at H
 refine Tc (aQ _ _ h2).s ?_
 refine Z1 ?_
 exact Tm (()) (ij H)
 refine Tp (aQ _ _ h2).pan ?_
 revert H;refine B1 fun r1 H e1=>?_
 cases e1;cases Hr1
 cases H
 exact bP
 revert H;refine B9 fun y3 h3 H=>?_
 rcases y3 with y3 | pv2 <;> dsimp only at H
 refine Tc (aQ _ _ h3).s ?_
 refine Z1 ?_
 exact Tm (()) (ij H)
 refine Tp (aQ _ _ h3).pan ?_
 revert H;refine B1 fun r2 H e2=>?_
 cases e2;cases Hr1
 cases H
 exact bP
 refine Z12 ?_
 revert H;refine B7 fun y4 h4 H=>?_
 rcases y4 with y4 | pv3 <;> dsimp only at H
 refine Tc (aQ _ _ h4).s ?_
 refine Z1 ?_
 exact Tm (()) (ij H)
 refine Tp (aQ _ _ h4).pan ?_
 revert H;refine B1 fun r3 H e3=>?_
 cases e3;cases Hr1
 cases H
 exact bP
 clear H;intro i hi;subst o1;have H:=Hr1;clear Hr1;try dsimp only at H
 try dsimp only
 refine aJ ?_
 revert H;refine bs fun y5 h5 H=>?_
 revert H;refine bs fun y6 h6 H=>?_
 apply bW (ods:=[_,_,_,_,_,_,_,_,_,_,_,_,_,_,_]) 15 0 4 bV rfl rfl rfl
 refine ND ?_
 refine M8 ?_
 intros
 refine M4 ?_
 intros
 refine tL (od:=odC [2] true (fB) [aD v2 4 bE (a0.AR.set a1.toNat true)]) (p:=2) (z':=true) rfl (fun _=>rfl) (fun _=>rfl) a2e rfl rfl rfl rfl (has rfl) (has rfl) (aI a2e) (sz rfl) (gD h5) rfl rfl (fun _=>?_)
 refine M1 ?_
 intros
 refine tL (od:=odC [1] true (fB) [aD v1 3 tI (a0.Ak.set a1.toNat a2)]) (p:=1) (z':=a2) rfl (fun _=>rfl) (fun _=>rfl) a2e rfl rfl rfl rfl (has rfl) (has rfl) (aI a2e) (sz rfl) (gD h6) rfl rfl (fun _=>?_)
 revert H;refine B9 fun y7 h7 H=>?_
 refine Z2 ?_
 refine Tn (bG rfl sI rfl) fun b1=>?_
 refine bZ (φs':=[fI y7.Op,fI y7.N,fSl aN y7.AW,fSl tI y7.AO]) a2e rfl rfl (has rfl) (has rfl) (aC (aI a2e) (aC (aI a2e) (aC (aP) (aC (aP) bD)))) (sz rfl) rfl rfl rfl ?_
 revert H;refine B4 fun y8 h8 H=>?_
 refine Tc (aGY _ _ h8) ?_
 revert H;refine B2 fun o2 H Hr2=>?_
 refine aS (ι:=Unit) (fun i=>o2=Sum.inl ()) (fun i=>[(0,fEq (ptr p0)),(2,fI a2),(6,fEq (ptr b1)),(7,fRaw y8)]) (fun i=>[aA b1 65 [fI y7.Op,fI y7.N,fSl aN y7.AW,fSl tI y7.AO],aA p0 131 [fSl aL a0.p.AH,fSl aY a0.p.AD,fSl aE a0.p.AF,fI a0.p.AG,fEq v1,fEq v2,fEq v3],aD v1 3 tI (a0.Ak.set a1.toNat a2),aD v2 4 bE (a0.AR.set a1.toNat true),aD v3 4 bE a0.Ad]) ?_ ?_
 revert H;refine bs fun x1 h9 H=>?_
 revert H;refine cs (fun c3 H=>?_) fun c3 H=>?_
 revert H;refine bs fun y9 h10 H=>?_
 apply bW (ods:=[_,_,_,_,_,_,_,_,_,_]) 10 0 5 bV rfl rfl rfl
 refine ND ?_
 refine M1 ?_
 intros
 refine My (aA7 rfl (fF rfl mI) aHx h9) fun _=>?_
 refine M5 ?_
 intros
 refine N_callI (od:=odC [] true (fI y9) []) (Φ:=fI y9) rfl (fun _=>rfl) ⟨_,_,rfl,rfl,c3⟩ rfl rfl (fF rfl mI) aK.nil (aIs y8 y9 h10) (fun _=>?_)
 refine M2 ?_
 intros
 revert H;refine B1 fun y10 h11 H=>?_
 rcases y10 with y10 | pv4 <;> dsimp only at H
 refine Tc (aQ _ _ h11).s ?_
 refine Z1 ?_
 exact Tm (()) (ij H)
 refine Tp (aQ _ _ h11).pan ?_
 revert H;refine B1 fun r4 H e4=>?_
 cases e4;cases Hr2
 cases H
 exact bP
 exact fk
 kernel_rfl
 apply bW (ods:=[_,_,_,_,_,_,_,_,_,_]) 10 0 5 bV rfl rfl rfl
 refine ND ?_
 refine M1 ?_
 intros
 refine My (aA7 rfl (fF rfl mI) aHx h9) fun _=>?_
 refine M8 ?_
 intros
 revert H;refine B1 fun y11 h12 H=>?_
 rcases y11 with y11 | pv5 <;> dsimp only at H
 refine Tc (aQ _ _ h12).s ?_
 refine Z1 ?_
 exact Tm (()) (ij H)
 refine Tp (aQ _ _ h12).pan ?_
 revert H;refine B1 fun r5 H e5=>?_
 cases e5;cases Hr2
 cases H
 exact bP
 exact fk
 kernel_rfl
 clear H;intro i hi;subst o2;have H:=Hr2;clear Hr2;try dsimp only at H
 try dsimp only
 revert H;refine B3 fun o3 H Hr3=>?_
 refine aS (ι:=Int) (fun i=>o3=Sum.inl i) (fun i=>[(0,fEq (ptr p0)),(2,fI a2),(6,fEq (ptr b1)),(8,fI i)]) (fun i=>[aA b1 65 [fI y7.Op,fI y7.N,fSl aN y7.AW,fSl tI y7.AO],aA p0 131 [fSl aL a0.p.AH,fSl aY a0.p.AD,fSl aE a0.p.AF,fI a0.p.AG,fEq v1,fEq v2,fEq v3],aD v1 3 tI (a0.Ak.set a1.toNat a2),aD v2 4 bE (a0.AR.set a1.toNat true),aD v3 4 bE a0.Ad]) ?_ ?_
 revert H;refine B5 fun y12 h13 H=>?_
 obtain⟨u1,x3⟩:=y12;dsimp only at H
 refine Yy (sG rfl (fF rfl mI) aCk aEJ h13) ?_
 refine Z3 ?_
 revert H;refine cs (fun c4 H=>?_) fun c4 H=>?_
 refine Z12 ?_
 revert H;refine I1 (fun c5 H=>?_) fun c5 H=>?_
 revert H;refine B5 fun y13 h14 H=>?_
 rcases y13 with y13 | pv6 <;> dsimp only at H
 refine Tc (aQ _ _ h14).s ?_
 refine Z3 ?_
 exact Tm (min (y7.AW.length:Int) 3) (ij H)
 refine Tp (aQ _ _ h14).pan ?_
 revert H;refine B2 fun r6 H e6=>?_
 cases e6;cases Hr3
 cases H
 exact bP
 revert H;refine B5 fun y14 h15 H=>?_
 rcases y14 with y14 | pv7 <;> dsimp only at H
 refine Tc (aQ _ _ h15).s ?_
 refine Z3 ?_
 exact Tm (min (y7.AW.length:Int) 3) (ij H)
 refine Tp (aQ _ _ h15).pan ?_
 revert H;refine B2 fun r7 H e7=>?_
 cases e7;cases Hr3
 cases H
 exact bP
 revert H;refine B2 fun y15 h16 H=>?_
 obtain⟨u2,x4⟩:=y15;dsimp only at H
 refine Yy (sG rfl (fF rfl mI) aDe aE8 h16) ?_
 refine Z3 ?_
 revert H;refine cs (fun c6 H=>?_) fun c6 H=>?_
 revert H;refine I6 (fun c7 H=>?_) fun c7 H=>?_
 revert H;refine B5 fun y16 h17 H=>?_
 rcases y16 with y16 | pv8 <;> dsimp only at H
 refine Tc (aQ _ _ h17).s ?_
 refine Z3 ?_
 exact Tm (0) (ij H)
 refine Tp (aQ _ _ h17).pan ?_
 revert H;refine B2 fun r8 H e8=>?_
 cases e8;cases Hr3
 cases H
 exact bP
 revert H;refine B5 fun y17 h18 H=>?_
 rcases y17 with y17 | pv9 <;> dsimp only at H
 refine Tc (aQ _ _ h18).s ?_
 refine Z3 ?_
 exact Tm (0) (ij H)
 refine Tp (aQ _ _ h18).pan ?_
 revert H;refine B2 fun r9 H e9=>?_
 cases e9;cases Hr3
 cases H
 exact bP
 revert H;refine B2 fun y18 h19 H=>?_
 obtain⟨u3,x5⟩:=y18;dsimp only at H
 refine Yy (sG rfl (fF rfl mI) aF1 aJO h19) ?_
 refine Z3 ?_
 revert H;refine cs (fun c8 H=>?_) fun c8 H=>?_
 revert H;refine I1 (fun c9 H=>?_) fun c9 H=>?_
 revert H;refine is (fun c10 H=>?_) fun c10 H=>?_
 revert H;refine bs fun y19 h20 H=>?_
 apply bW (ods:=[_,_,_,_,_,_,_,_,_,_,_,_,_,_,_,_,_,_,_,_,_,_,_,_,_]) 25 0 5 bV rfl rfl rfl
 refine ND ?_
 refine M8 ?_
 intros
 refine M8 ?_
 intros
 refine M6 ?_
 intros
 refine kD (od:=odC [4] false (aR y19) [eV]) (ps:=[4]) (φ:=aR y19) rfl (fun _=>rfl) ⟨_,_,rfl,rfl,c10⟩ rfl rfl (zQ rfl rfl hh (sc rfl) (gD h20) rfl) (fun _=>?_)
 refine M2 ?_
 intros
 revert H;refine B1 fun y20 h21 H=>?_
 rcases y20 with y20 | pv10 <;> dsimp only at H
 refine Tc (aQ _ _ h21).s ?_
 refine Z3 ?_
 exact Tm (0) (ij H)
 refine Tp (aQ _ _ h21).pan ?_
 revert H;refine B2 fun r10 H e10=>?_
 cases e10;cases Hr3
 cases H
 exact bP
 exact fk
 kernel_rfl
 apply bW (ods:=[_,_,_,_,_,_,_,_,_,_,_,_,_,_,_,_,_,_,_,_,_,_,_,_,_]) 25 0 5 bV rfl rfl rfl
 refine ND ?_
 refine M8 ?_
 intros
 refine M8 ?_
 intros
 refine M8 ?_
 intros
 refine M1 ?_
 intros
 revert H;refine B1 fun y21 h22 H=>?_
 rcases y21 with y21 | pv11 <;> dsimp only at H
 refine Tc (aQ _ _ h22).s ?_
 refine Z3 ?_
 exact Tm (0) (ij H)
 refine Tp (aQ _ _ h22).pan ?_
 revert H;refine B2 fun r11 H e11=>?_
 cases e11;cases Hr3
 cases H
 exact bP
 exact fk
 kernel_rfl
 apply bW (ods:=[_,_,_,_,_,_,_,_,_,_,_,_,_,_,_,_,_,_,_,_,_,_,_,_,_]) 25 0 5 bV rfl rfl rfl
 refine ND ?_
 refine M8 ?_
 intros
 refine M8 ?_
 intros
 refine M8 ?_
 intros
 refine M1 ?_
 intros
 revert H;refine B1 fun y22 h23 H=>?_
 rcases y22 with y22 | pv12 <;> dsimp only at H
 refine Tc (aQ _ _ h23).s ?_
 refine Z3 ?_
 exact Tm (0) (ij H)
 refine Tp (aQ _ _ h23).pan ?_
 revert H;refine B2 fun r12 H e12=>?_
 cases e12;cases Hr3
 cases H
 exact bP
 exact fk
 kernel_rfl
 revert H;refine B2 fun y23 h24 H=>?_
 obtain⟨u4,x6⟩:=y23;dsimp only at H
 refine Yy (sG rfl (fF rfl mI) aHH aI4 h24) ?_
 refine Z3 ?_
 revert H;refine cs (fun c11 H=>?_) fun c11 H=>?_
 revert H;refine B8 fun y24 h25 H=>?_
 rcases y24 with y24 | pv13 <;> dsimp only at H
 refine Tc (aQ _ _ h25).s ?_
 refine Z3 ?_
 exact Tm (1) (ij H)
 refine Tp (aQ _ _ h25).pan ?_
 revert H;refine B2 fun r13 H e13=>?_
 cases e13;cases Hr3
 cases H
 exact bP
 revert H;refine B5 fun y25 h26 H=>?_
 rcases y25 with y25 | pv14 <;> dsimp only at H
 refine Tc (aQ _ _ h26).s ?_
 refine Z3 ?_
 exact Tm (0) (ij H)
 refine Tp (aQ _ _ h26).pan ?_
 revert H;refine B2 fun r14 H e14=>?_
 cases e14;cases Hr3
 cases H
 exact bP
 clear H;intro x2 hi;subst o3;have H:=Hr3;clear Hr3;try dsimp only at H
 try dsimp only
 revert H;refine B6 fun y26 h27 H=>?_
 rcases y26 with y26 | pv15 <;> dsimp only at H
 refine Tc (aQ _ _ h27).s ?_
 revert H;refine B1 fun o4 H Hr4=>?_
 refine aS (ι:=Unit) (fun i=>o4=Sum.inl ()) (fun i=>[(0,fEq (ptr p0)),(2,fI a2),(6,fEq (ptr b1))]) (fun i=>[aA b1 65 [fI y7.Op,fI y7.N,fSl aN y7.AW,fSl tI y7.AO],aA p0 131 [fSl aL a0.p.AH,fSl aY a0.p.AD,fSl aE a0.p.AF,fI a0.p.AG,fEq v1,fEq v2,fEq v3],aD v1 3 tI (a0.Ak.set a1.toNat a2),aD v2 4 bE (a0.AR.set a1.toNat true),aD v3 4 bE a0.Ad]) ?_ ?_
 refine Z7 ?_
 refine Tl (ι:=Nat × Int) (fun i=>lI AA a2 y7 i.1 i.2=_) (fun i=>i.1) (fun i=>[(0,fEq (ptr p0)),(2,fI a2),(6,fEq (ptr b1)),(154,fSl aN y7.AW),(155,fI (y7.AW.length:Int)),(156,fI i.2)]) (fun i=>[aA b1 65 [fI y7.Op,fI y7.N,fSl aN y7.AW,fSl tI y7.AO],aA p0 131 [fSl aL a0.p.AH,fSl aY a0.p.AD,fSl aE a0.p.AF,fI a0.p.AG,fEq v1,fEq v2,fEq v3],aD v1 3 tI (a0.Ak.set a1.toNat a2),aD v2 4 bE (a0.AR.set a1.toNat true),aD v3 4 bE a0.Ad]) (AA,0) H ?_
 clear H;rintro⟨k1,x8⟩ H
 replace H:lI AA a2 y7 k1 x8=_:=H
 try dsimp only
 obtain _ | k1:=k1
 rw [lI]at H;cases H
 rw [lI]at H
 refine Z3 ?_
 refine aJ ?_
 revert H;refine is (fun c12 H=>?_) fun c12 H=>?_
 refine Z3 ?_
 refine aJ ?_
 revert H;refine B2 fun y27 h28 H=>?_
 refine Z2 ?_
 refine Tn (bG rfl hO rfl) fun b2=>?_
 refine bZ (φs':=[fI y27.Op,fI y27.N,dK y27.AO]) a2e rfl rfl (has rfl) (has rfl) (aC (aI a2e) (aC (aI a2e) (aC (kP) bD))) (sz rfl) rfl rfl rfl ?_
 revert H;refine B4 fun y28 h29 H=>?_
 rcases y28 with y28 | pv16 <;> dsimp only at H
 refine Tc (aEY _ _ _ _ h29).s ?_
 revert H;refine B4 fun z1 h30 H=>?_
 refine Z3 ?_
 refine aH [1,2,3,4,5] (by decide) ?_
 exact Tm ((k1,z1)) ⟨H,ls⟩
 refine Tp (aEY _ _ _ _ h29).pan ?_
 revert H;refine B5 fun r15 H e15=>?_
 cases e15;cases Hr4
 cases H
 exact bP
 refine Z6 ?_
 exact Tm (()) (ij H)
 clear H;intro i hi;subst o4;have H:=Hr4;clear Hr4;try dsimp only at H
 try dsimp only
 revert H;refine bs fun o5 H Hr5=>?_
 refine aS (ι:=Int × List ByteArray × List AV × List AN × Int × List Int × List Bool × List Bool × Value × Value × Value) (fun i=>o5=Sum.inl (i.1,i.2.1,i.2.2.1,i.2.2.2.1,i.2.2.2.2.1,i.2.2.2.2.2.1,i.2.2.2.2.2.2.1,i.2.2.2.2.2.2.2.1)) (fun i=>[(0,fEq (ptr p0)),(2,fI i.1),(6,fEq (ptr b1))]) (fun i=>[aA b1 65 [fI y7.Op,fI y7.N,fSl aN y7.AW,fSl tI y7.AO],aA p0 131 [fSl aL i.2.1,fSl aY i.2.2.1,fSl aE i.2.2.2.1,fI i.2.2.2.2.1,fEq i.2.2.2.2.2.2.2.2.1,fEq i.2.2.2.2.2.2.2.2.2.1,fEq i.2.2.2.2.2.2.2.2.2.2],aD i.2.2.2.2.2.2.2.2.1 3 tI i.2.2.2.2.2.1,aD i.2.2.2.2.2.2.2.2.2.1 4 bE i.2.2.2.2.2.2.1,aD i.2.2.2.2.2.2.2.2.2.2 4 bE i.2.2.2.2.2.2.2.1]) ?_ ?_
 revert H;refine I5 (fun c13 H=>?_) fun c13 H=>?_
 refine Z1 ?_
 refine aJ ?_
 revert H;refine bs fun y29 h31 H=>?_
 apply bW (ods:=[_,_,_,_,_,_,_,_]) 8 0 5 bV rfl rfl rfl
 refine ND ?_
 refine M7 ?_
 intros
 refine tL (od:=odC [4] true (fB) [aD v3 4 bE (a0.Ad.set y7.N.toNat true)]) (p:=4) (z':=true) rfl (fun _=>rfl) (fun _=>rfl) a2e rfl rfl rfl rfl (has rfl) (has rfl) (aI a2e) (sz rfl) (gD h31) rfl rfl (fun _=>?_)
 refine Z2 ?_
 refine aJ ?_
 revert H;refine bs fun y30 h32 H=>?_
 apply bW (ods:=[_,_,_,_,_,_,_,_,_,_,_]) 11 1 6 bV rfl rfl rfl
 refine ND ?_
 refine M8 ?_
 intros
 refine M1 ?_
 intros
 refine Mn 5 (fun b3=>ptr b3) (fun b3=>aA b3 77 [fEq (.slice none 0 0),fEq (.slice none 0 0),fEq (.slice none 0 0)]) rfl (bG rfl uD rfl) (fun b3 u5=>?_)
 refine rX (od:=od1 9 [5] true (fun b3 _=>fB) (fun b3 _=>[aA b3 77 [fSl bX y30.AQ,fSl bQ y30.AS,fSl bF y30.AP]])) (p:=5) (φs':=[fSl bX y30.AQ,fSl bQ y30.AS,fSl bF y30.AP]) rfl (fun _=>rfl) (fun _=>rfl) a2e rfl rfl rfl (has rfl) (has rfl) (aC (aP) (aC (aP) (aC (aP) bD))) (sz rfl) rfl rfl rfl (fun _=>?_)
 revert H;refine B4 fun y31 h33 H=>?_
 rcases y31 with y31 | pv17 <;> dsimp only at H
 refine Tc (aEL _ _ _ h33).s ?_
 revert H;refine B4 fun y32 h34 H=>?_
 refine Tc (aJ2 _ _ h34) ?_
 revert H;refine bs fun z2 h35 H=>?_
 revert H;refine B3 fun o6 H Hr6=>?_
 refine aS (ι:=List ByteArray × List AV × List AN × Int × List Int × List Bool × List Bool × Value × Value × Value) (fun i=>o6=Sum.inl (i.1,i.2.1,i.2.2.1,i.2.2.2.1,i.2.2.2.2.1,i.2.2.2.2.2.1,i.2.2.2.2.2.2.1)) (fun i=>[(0,fEq (ptr p0)),(2,fI z2),(6,fEq (ptr b1)),(11,fEq (ptr b3))]) (fun i=>[aA b1 65 [fI y7.Op,fI y7.N,fSl aN y7.AW,fSl tI y7.AO],aA p0 131 [fSl aL i.1,fSl aY i.2.1,fSl aE i.2.2.1,fI i.2.2.2.1,fEq i.2.2.2.2.2.2.2.1,fEq i.2.2.2.2.2.2.2.2.1,fEq i.2.2.2.2.2.2.2.2.2],aA b3 77 [fSl bX y30.AQ,fSl bQ y30.AS,fSl bF y30.AP],aD i.2.2.2.2.2.2.2.1 3 tI i.2.2.2.2.1,aD i.2.2.2.2.2.2.2.2.1 4 bE i.2.2.2.2.2.1,aD i.2.2.2.2.2.2.2.2.2 4 bE i.2.2.2.2.2.2.1]) ?_ ?_
 refine Z7 ?_
 refine aH [0,1,5,2,3,4] (by decide) ?_
 refine Tl (ι:=Nat × Int × List ByteArray × List AV × List AN × Int × List Int × List Bool × List Bool × Value × Value × Value) (fun i=>lP AA (eP AA) y30 z2 i.1 i.2.1 i.2.2.1 i.2.2.2.1 i.2.2.2.2.1 i.2.2.2.2.2.1 i.2.2.2.2.2.2.1 i.2.2.2.2.2.2.2.1 i.2.2.2.2.2.2.2.2.1=_) (fun i=>i.1) (fun i=>[(0,fEq (ptr p0)),(2,fI z2),(6,fEq (ptr b1)),(11,fEq (ptr b3)),(190,fSl bF y30.AP),(191,fI (y30.AP.length:Int)),(192,fI i.2.1)]) (fun i=>[aA b1 65 [fI y7.Op,fI y7.N,fSl aN y7.AW,fSl tI y7.AO],aA p0 131 [fSl aL i.2.2.1,fSl aY i.2.2.2.1,fSl aE i.2.2.2.2.1,fI i.2.2.2.2.2.1,fEq i.2.2.2.2.2.2.2.2.2.1,fEq i.2.2.2.2.2.2.2.2.2.2.1,fEq i.2.2.2.2.2.2.2.2.2.2.2],aA b3 77 [fSl bX y30.AQ,fSl bQ y30.AS,fSl bF y30.AP],aD i.2.2.2.2.2.2.2.2.2.1 3 tI i.2.2.2.2.2.2.1,aD i.2.2.2.2.2.2.2.2.2.2.1 4 bE i.2.2.2.2.2.2.2.1,aD i.2.2.2.2.2.2.2.2.2.2.2 4 bE i.2.2.2.2.2.2.2.2.1]) (AA,0,a0.p.AH,a0.p.AD,a0.p.AF,a0.p.AG,a0.Ak.set a1.toNat a2,a0.AR.set a1.toNat true,a0.Ad.set y7.N.toNat true,v1,v2,v3) H ?_
 clear H;rintro⟨k2,x32,x33,x34,x35,x36,x37,x38,x39,v13,v14,v15⟩ H
 replace H:lP AA (eP AA) y30 z2 k2 x32 x33 x34 x35 x36 x37 x38 x39=_:=H
 try dsimp only
 obtain _ | k2:=k2
 rw [lP]at H;cases H
 rw [lP]at H
 refine aF 3 rfl (fun hc_v13=>?_)
 refine aF 4 rfl (fun hc_v14=>?_)
 refine aF 5 rfl (fun hc_v15=>?_)
 refine Z3 ?_
 refine aJ ?_
 revert H;refine is (fun c14 H=>?_) fun c14 H=>?_
 refine Z3 ?_
 refine aJ ?_
 revert H;refine B2 fun y33 h36 H=>?_
 refine Z2 ?_
 refine Tn (bG rfl sJ rfl) fun b4=>?_
 refine bZ (φs':=[fI y33.At,fSl tI y33.Ab,fI y33.AU]) a2e rfl rfl (has rfl) (has rfl) (aC (aI a2e) (aC (aP) (aC (aI a2e) bD))) (sz rfl) rfl rfl rfl ?_
 revert H;refine B1 fun y34 h37 H=>?_
 revert H;refine bs fun z3 h38 H=>?_
 apply bW (ods:=[_,_,_,_,_,_,_,_]) 8 0 7 bV rfl rfl rfl
 refine ND ?_
 refine M6 ?_
 intros
 refine Nc (aJc _ _ _ _ h37) fun _=>?_
 refine M1 ?_
 intros
 refine Z1 ?_
 refine dA ?_
 refine dA ?_
 refine dA ?_
 refine cO ?_
 refine xN (x:=(⟨(⟨x33,x34,x35,x36⟩:AI),x37,x38,x39⟩:Ae)) ?_
 revert H;refine bs fun y35 h39 H=>?_
 rcases y35 with y35 | pv18 <;> dsimp only at H
 refine Tc (ih_scope_looker_node _ _ _ _ _ h39).s ?_
 refine wJ (fun v16 v17 v18=>?_)
 refine aF 1 rfl (fun hc_v16=>?_)
 refine aF 2 rfl (fun hc_v17=>?_)
 refine aF 3 rfl (fun hc_v18=>?_)
 revert H;refine B4 fun z4 h40 H=>?_
 refine Z3 ?_
 refine aH [5,0,6,1,2,3] (by decide) ?_
 exact Tm ((k2,z4,y35.p.AH,y35.p.AD,y35.p.AF,y35.p.AG,y35.Ak,y35.AR,y35.Ad,v16,v17,v18)) ⟨H,ls⟩
 refine Tp (ih_scope_looker_node _ _ _ _ _ h39).pan ?_
 revert H;refine B5 fun r16 H e16=>?_
 cases e16;cases Hr6
 revert H;refine B1 fun r17 H e17=>?_
 cases e17;cases Hr5
 cases H
 exact bP
 exact fk
 kernel_rfl
 refine Z6 ?_
 exact Tm ((x33,x34,x35,x36,x37,x38,x39,v13,v14,v15)) (ij H)
 clear H;intro i hi;obtain⟨x17,x18,x19,x20,x21,x22,x23,v7,v8,v9⟩:=i;subst o6;have H:=Hr6;clear Hr6;try dsimp only at H
 try dsimp only
 refine aF 3 rfl (fun hc_v7=>?_)
 refine aF 4 rfl (fun hc_v8=>?_)
 refine aF 5 rfl (fun hc_v9=>?_)
 refine Z7 ?_
 refine Tl (ι:=Nat × Int × List ByteArray × List AV × List AN × Int × List Int × List Bool × List Bool × Value × Value × Value) (fun i=>lQ (eP AA) y30 z2 i.1 i.2.1 i.2.2.1 i.2.2.2.1 i.2.2.2.2.1 i.2.2.2.2.2.1 i.2.2.2.2.2.2.1 i.2.2.2.2.2.2.2.1 i.2.2.2.2.2.2.2.2.1=_) (fun i=>i.1) (fun i=>[(0,fEq (ptr p0)),(2,fI z2),(6,fEq (ptr b1)),(207,fSl bQ y30.AS),(208,fI (y30.AS.length:Int)),(209,fI i.2.1)]) (fun i=>[aA b1 65 [fI y7.Op,fI y7.N,fSl aN y7.AW,fSl tI y7.AO],aA p0 131 [fSl aL i.2.2.1,fSl aY i.2.2.2.1,fSl aE i.2.2.2.2.1,fI i.2.2.2.2.2.1,fEq i.2.2.2.2.2.2.2.2.2.1,fEq i.2.2.2.2.2.2.2.2.2.2.1,fEq i.2.2.2.2.2.2.2.2.2.2.2],aA b3 77 [fSl bX y30.AQ,fSl bQ y30.AS,fSl bF y30.AP],aD i.2.2.2.2.2.2.2.2.2.1 3 tI i.2.2.2.2.2.2.1,aD i.2.2.2.2.2.2.2.2.2.2.1 4 bE i.2.2.2.2.2.2.2.1,aD i.2.2.2.2.2.2.2.2.2.2.2 4 bE i.2.2.2.2.2.2.2.2.1]) (AA,0,x17,x18,x19,x20,x21,x22,x23,v7,v8,v9) H ?_
 clear H;rintro⟨k3,x48,x49,x50,x51,x52,x53,x54,x55,v22,v23,v24⟩ H
 replace H:lQ (eP AA) y30 z2 k3 x48 x49 x50 x51 x52 x53 x54 x55=_:=H
 try dsimp only
 obtain _ | k3:=k3
 rw [lQ]at H;cases H
 rw [lQ]at H
 refine aF 3 rfl (fun hc_v22=>?_)
 refine aF 4 rfl (fun hc_v23=>?_)
 refine aF 5 rfl (fun hc_v24=>?_)
 refine Z3 ?_
 refine aJ ?_
 revert H;refine is (fun c15 H=>?_) fun c15 H=>?_
 refine Z3 ?_
 refine aJ ?_
 revert H;refine B2 fun y36 h41 H=>?_
 refine Z2 ?_
 refine Tn (bG rfl vL rfl) fun b5=>?_
 refine bZ (φs':=[fI y36.In,fI y36.AU]) a2e rfl rfl (has rfl) (has rfl) (aC (aI a2e) (aC (aI a2e) bD)) (sz rfl) rfl rfl rfl ?_
 refine Z6 ?_
 refine dA ?_
 refine dA ?_
 refine dA ?_
 refine cO ?_
 refine xN (x:=(⟨(⟨x49,x50,x51,x52⟩:AI),x53,x54,x55⟩:Ae)) ?_
 revert H;refine bs fun y37 h42 H=>?_
 rcases y37 with y37 | pv19 <;> dsimp only at H
 refine Tc (ih_scope_looker_node _ _ _ _ _ h42).s ?_
 refine wJ (fun v25 v26 v27=>?_)
 refine aF 1 rfl (fun hc_v25=>?_)
 refine aF 2 rfl (fun hc_v26=>?_)
 refine aF 3 rfl (fun hc_v27=>?_)
 revert H;refine B4 fun z5 h43 H=>?_
 refine Z3 ?_
 refine aH [5,0,6,1,2,3] (by decide) ?_
 exact Tm ((k3,z5,y37.p.AH,y37.p.AD,y37.p.AF,y37.p.AG,y37.Ak,y37.AR,y37.Ad,v25,v26,v27)) ⟨H,ls⟩
 refine Tp (ih_scope_looker_node _ _ _ _ _ h42).pan ?_
 revert H;refine B5 fun r18 H e18=>?_
 cases e18;cases Hr5
 cases H
 exact bP
 refine Z6 ?_
 refine aH [0,1,3,4,5] (by decide) ?_
 exact Tm ((z2,x49,x50,x51,x52,x53,x54,x55,v22,v23,v24)) (ij H)
 refine Tp (aEL _ _ _ h33).pan ?_
 revert H;refine B2 fun r19 H e19=>?_
 cases e19;cases Hr5
 cases H
 exact bP
 exact fk
 kernel_rfl
 exact fk
 kernel_rfl
 refine Z3 ?_
 exact Tm ((a2,a0.p.AH,a0.p.AD,a0.p.AF,a0.p.AG,a0.Ak.set a1.toNat a2,a0.AR.set a1.toNat true,a0.Ad,v1,v2,v3)) (ij H)
 clear H;intro i hi;obtain⟨x9,x10,x11,x12,x13,x14,x15,x16,v4,v5,v6⟩:=i;subst o5;have H:=Hr5;clear Hr5;try dsimp only at H
 try dsimp only
 refine aF 2 rfl (fun hc_v4=>?_)
 refine aF 3 rfl (fun hc_v5=>?_)
 refine aF 4 rfl (fun hc_v6=>?_)
 refine Z7 ?_
 refine Tl (ι:=Nat × Int × List ByteArray × List AV × List AN × Int × List Int × List Bool × List Bool × Value × Value × Value) (fun i=>mA (eP AA) y7 x9 i.1 i.2.1 i.2.2.1 i.2.2.2.1 i.2.2.2.2.1 i.2.2.2.2.2.1 i.2.2.2.2.2.2.1 i.2.2.2.2.2.2.2.1 i.2.2.2.2.2.2.2.2.1=_) (fun i=>i.1) (fun i=>[(0,fEq (ptr p0)),(2,fI x9),(220,fSl tI y7.AO),(221,fI (y7.AO.length:Int)),(222,fI i.2.1)]) (fun i=>[aA b1 65 [fI y7.Op,fI y7.N,fSl aN y7.AW,fSl tI y7.AO],aA p0 131 [fSl aL i.2.2.1,fSl aY i.2.2.2.1,fSl aE i.2.2.2.2.1,fI i.2.2.2.2.2.1,fEq i.2.2.2.2.2.2.2.2.2.1,fEq i.2.2.2.2.2.2.2.2.2.2.1,fEq i.2.2.2.2.2.2.2.2.2.2.2],aD i.2.2.2.2.2.2.2.2.2.1 3 tI i.2.2.2.2.2.2.1,aD i.2.2.2.2.2.2.2.2.2.2.1 4 bE i.2.2.2.2.2.2.2.1,aD i.2.2.2.2.2.2.2.2.2.2.2 4 bE i.2.2.2.2.2.2.2.2.1]) (AA,0,x10,x11,x12,x13,x14,x15,x16,v4,v5,v6) H ?_
 clear H;rintro⟨k4,x64,x65,x66,x67,x68,x69,x70,x71,v31,v32,v33⟩ H
 replace H:mA (eP AA) y7 x9 k4 x64 x65 x66 x67 x68 x69 x70 x71=_:=H
 try dsimp only
 obtain _ | k4:=k4
 rw [mA]at H;cases H
 rw [mA]at H
 refine aF 2 rfl (fun hc_v31=>?_)
 refine aF 3 rfl (fun hc_v32=>?_)
 refine aF 4 rfl (fun hc_v33=>?_)
 refine Z3 ?_
 refine aJ ?_
 revert H;refine is (fun c16 H=>?_) fun c16 H=>?_
 refine Z3 ?_
 refine aJ ?_
 revert H;refine B2 fun y38 h44 H=>?_
 refine Z8 ?_
 refine dD ?_
 refine dD ?_
 refine dD ?_
 refine dD ?_
 refine xN (x:=(⟨(⟨x65,x66,x67,x68⟩:AI),x69,x70,x71⟩:Ae)) ?_
 revert H;refine bs fun y39 h45 H=>?_
 rcases y39 with y39 | pv20 <;> dsimp only at H
 refine Tc (ih_scope_looker_node _ _ _ _ _ h45).s ?_
 refine wJ (fun v34 v35 v36=>?_)
 refine aF 1 rfl (fun hc_v34=>?_)
 refine aF 2 rfl (fun hc_v35=>?_)
 refine aF 3 rfl (fun hc_v36=>?_)
 revert H;refine B4 fun z6 h46 H=>?_
 refine Z3 ?_
 refine aH [4,0,1,2,3] (by decide) ?_
 exact Tm ((k4,z6,y39.p.AH,y39.p.AD,y39.p.AF,y39.p.AG,y39.Ak,y39.AR,y39.Ad,v34,v35,v36)) ⟨H,ls⟩
 refine Tp (ih_scope_looker_node _ _ _ _ _ h45).pan ?_
 refine Z4 ?_
 cases H
 exact bP
 refine Z5 ?_
 refine dD ?_
 refine dD ?_
 refine dD ?_
 refine dD ?_
 refine xN (x:=(⟨(⟨x65,x66,x67,x68⟩:AI),x69,x70,x71⟩:Ae)) ?_
 cases H
 refine qQ ?_
 refine aH [0] (by decide) ?_
 exact jQ (.inr rfl) rfl rfl
 refine Tp (aQ _ _ h27).pan ?_
 refine Z1 ?_
 cases H
 exact bP
 exact fk
 kernel_rfl
open Go.SX Go.SW Go.Dt
def oG (a0:List Bool) (a1:Bool):Nat->Int->Option ((Unit) ⊕ (Int))
| 0,_=>none
| k+1,x2=>
 if x2<(a0.length:Int)then
  (idx a0 x2).bind fun y1=>
  bif a1==y1 then
   (some x2).bind fun r=>some (Sum.inr r)
  else
   (chk (x2+1)).bind fun z1=>
   oG a0 a1 k z1
 else
  some (Sum.inl ())
def aBE (AA:Nat) (a0:List Bool) (a1:Bool):Option (Int):=
 (oG a0 a1 AA 0).bind fun o=>match o with
 | Sum.inr r=>some r
 | Sum.inl _=>
 some (-1)
theorem aKQ (AA:Nat)  (a0:List Bool) (a1:Bool) (r:Int) (H:aBE AA a0 a1=some r):FnS Tryz.prog 179 [fSl bE a0,aR a1] [] (fI r) (fun _=>[]):=by
 unfold aBE at H
 refine bL Tryz.func179 rfl Tryz.ntmps179 rfl (fun β=>?_)
 revert H;refine B3 fun o1 H Hr1=>?_
 refine aS (ι:=Unit) (fun i=>o1=Sum.inl ()) (fun i=>[]) (fun i=>[]) ?_ ?_
 refine Z6 ?_
 refine Tl (ι:=Nat × Int) (fun i=>oG a0 a1 i.1 i.2=_) (fun i=>i.1) (fun i=>[(0,fSl bE a0),(1,aR a1),(7,fI (a0.length:Int)),(8,fI i.2)]) (fun i=>[]) (AA,0) H ?_
 clear H;rintro⟨k1,x2⟩ H
 replace H:oG a0 a1 k1 x2=_:=H
 try dsimp only
 obtain _ | k1:=k1
 rw [oG]at H;cases H
 rw [oG]at H
 refine Z3 ?_
 refine aJ ?_
 revert H;refine is (fun c1 H=>?_) fun c1 H=>?_
 refine Z3 ?_
 refine aJ ?_
 revert H;refine B9 fun y1 h1 H=>?_
 refine Z2 ?_
 refine Yy (o_eqlB rfl hh hh aJS) ?_
 refine Z1 ?_
 revert H;refine cs (fun c2 H=>?_) fun c2 H=>?_
 revert H;refine B11 fun r1 H e1=>?_
 cases e1;cases Hr1
 cases H
 exact To
 revert H;refine B5 fun z1 h2 H=>?_
 refine Z3 ?_
 exact Tm ((k1,z1)) ⟨H,ls⟩
 refine Z6 ?_
 exact Tm (()) (ij H)
 clear H;intro i hi;subst o1;have H:=Hr1;clear Hr1;try dsimp only at H
 try dsimp only
 refine Z4 ?_
 cases H
 exact To
def uL (AA:Nat) (a0:List Bool) (a1:Bool):Option (Bool):=
 (aBE AA a0 a1).bind fun y1=>
 some (decide (0<=y1))
theorem aFM (AA:Nat)  (a0:List Bool) (a1:Bool) (r:Bool) (H:uL AA a0 a1=some r):FnS Tryz.prog 165 [fSl bE a0,aR a1] [] (aR r) (fun _=>[]):=by
 unfold uL at H
 refine bL Tryz.func165 rfl Tryz.ntmps165 rfl (fun β=>?_)
 revert H;refine B6 fun y1 h1 H=>?_
 refine Tc (aKQ _ _ _ _ h1) ?_
 refine Z4 ?_
 cases H
 exact To
def lS (AA:Nat) (a0:AI):Nat->Int->Option ((Unit) ⊕ (Ae ⊕ Value))
| 0,_=>none
| k+1,x2=>
 if x2<(a0.AH.length:Int)then
  ((idx a0.AH x2).bind fun y4=>
  (rK AA y4).bind fun y5=>
  bif y5 then
   if x2=0 then
    (bI true).bind fun y6=>
    match y6 with
    | Sum.inr pv4=>((some (Sum.inr pv4)).bind fun r=>some (Sum.inr r)).bind fun r=>some (Sum.inr r)
    | Sum.inl y6=>
    some (Sum.inl ())
   else
    (chk (x2 - 1)).bind fun z1=>
    (idx a0.AH z1).bind fun y7=>
    (bI (slt y7 y4)).bind fun y8=>
    match y8 with
    | Sum.inr pv5=>((some (Sum.inr pv5)).bind fun r=>some (Sum.inr r)).bind fun r=>some (Sum.inr r)
    | Sum.inl y8=>
    some (Sum.inl ())
  else
   (bI false).bind fun y9=>
   match y9 with
   | Sum.inr pv6=>((some (Sum.inr pv6)).bind fun r=>some (Sum.inr r)).bind fun r=>some (Sum.inr r)
   | Sum.inl y9=>
   some (Sum.inl ())).bind fun o=>match o with
  | Sum.inr r=>some r
  | Sum.inl _=>
  (chk (x2+1)).bind fun z2=>
  lS AA a0 k z2
 else
  some (Sum.inl ())
def sL (AA:Nat) (a0:AI):Option (Ae ⊕ Value):=
 (if (a0.AH.length:Int)<=12 then
  if (a0.AD.length:Int)<=60 then
   (bI (decide ((a0.AF.length:Int)<=12))).bind fun y1=>
   match y1 with
   | Sum.inr pv1=>(some (Sum.inr pv1)).bind fun r=>some (Sum.inr r)
   | Sum.inl y1=>
   some (Sum.inl ())
  else
   (bI false).bind fun y2=>
   match y2 with
   | Sum.inr pv2=>(some (Sum.inr pv2)).bind fun r=>some (Sum.inr r)
   | Sum.inl y2=>
   some (Sum.inl ())
 else
  (bI false).bind fun y3=>
  match y3 with
  | Sum.inr pv3=>(some (Sum.inr pv3)).bind fun r=>some (Sum.inr r)
  | Sum.inl y3=>
  some (Sum.inl ())).bind fun o=>match o with
 | Sum.inr r=>some r
 | Sum.inl _=>
 (lS AA a0 AA 0).bind fun o=>match o with
 | Sum.inr r=>some r
 | Sum.inl _=>
 (mk 0 (a0.AD.length:Int)).bind fun y10=>
 (mk false (a0.AD.length:Int)).bind fun y11=>
 (mk false (a0.AF.length:Int)).bind fun y12=>
 (eP AA (⟨(⟨a0.AH,a0.AD,a0.AF,a0.AG⟩:AI),y10,y11,y12⟩:Ae) a0.AG (a0.AH.length:Int)).bind fun y13=>
 match y13 with
 | Sum.inr pv7=>some (Sum.inr pv7)
 | Sum.inl y13=>
 ((uL AA y13.AR false).bind fun y14=>
 bif !y14 then
  (uL AA y13.Ad false).bind fun y15=>
  (bI (!y15)).bind fun y16=>
  match y16 with
  | Sum.inr pv8=>(some (Sum.inr pv8)).bind fun r=>some (Sum.inr r)
  | Sum.inl y16=>
  some (Sum.inl y13.Ad)
 else
  (bI false).bind fun y17=>
  match y17 with
  | Sum.inr pv9=>(some (Sum.inr pv9)).bind fun r=>some (Sum.inr r)
  | Sum.inl y17=>
  some (Sum.inl y13.Ad)).bind fun o=>match o with
 | Sum.inr r=>some r
 | Sum.inl x3=>
 some (Sum.inl (⟨(⟨y13.p.AH,y13.p.AD,y13.p.AF,y13.p.AG⟩:AI),y13.Ak,y13.AR,x3⟩:Ae))
theorem uY (AA:Nat)  (a0:AI) (r:Ae ⊕ Value) (H:sL AA a0=some r):FnE Tryz.prog 137 [fSt cK a0] [] r (fun r=>aB bR r) (fun r=>[]):=by
 unfold sL at H
 refine rL Tryz.func137 rfl Tryz.ntmps137 rfl (fun β=>?_)
 refine Z1 ?_
 refine Tn (cC rfl hh cB) fun b1=>?_
 revert H;refine B2 fun o1 H Hr1=>?_
 refine aS (ι:=Unit) (fun i=>o1=Sum.inl ()) (fun i=>[(1,fEq (ptr b1))]) (fun i=>[aA b1 26 [fSl aL a0.AH,fSl aY a0.AD,fSl aE a0.AF,fI a0.AG]]) ?_ ?_
 revert H;refine I6 (fun c1 H=>?_) fun c1 H=>?_
 revert H;refine I6 (fun c2 H=>?_) fun c2 H=>?_
 revert H;refine B5 fun y1 h1 H=>?_
 rcases y1 with y1 | pv1 <;> dsimp only at H
 refine Tc (aQ _ _ h1).s ?_
 refine Z1 ?_
 exact Tm (()) (ij H)
 refine Tp (aQ _ _ h1).pan ?_
 revert H;refine B1 fun r1 H e1=>?_
 cases e1;cases Hr1
 cases H
 exact bP
 revert H;refine B5 fun y2 h2 H=>?_
 rcases y2 with y2 | pv2 <;> dsimp only at H
 refine Tc (aQ _ _ h2).s ?_
 refine Z1 ?_
 exact Tm (()) (ij H)
 refine Tp (aQ _ _ h2).pan ?_
 revert H;refine B1 fun r2 H e2=>?_
 cases e2;cases Hr1
 cases H
 exact bP
 revert H;refine B11 fun y3 h3 H=>?_
 rcases y3 with y3 | pv3 <;> dsimp only at H
 refine Tc (aQ _ _ h3).s ?_
 refine Z1 ?_
 exact Tm (()) (ij H)
 refine Tp (aQ _ _ h3).pan ?_
 revert H;refine B1 fun r3 H e3=>?_
 cases e3;cases Hr1
 cases H
 exact bP
 clear H;intro i hi;subst o1;have H:=Hr1;clear Hr1;try dsimp only at H
 try dsimp only
 revert H;refine bs fun o2 H Hr2=>?_
 refine aS (ι:=Unit) (fun i=>o2=Sum.inl ()) (fun i=>[(1,fEq (ptr b1))]) (fun i=>[aA b1 26 [fSl aL a0.AH,fSl aY a0.AD,fSl aE a0.AF,fI a0.AG]]) ?_ ?_
 refine Z7 ?_
 refine Tl (ι:=Nat × Int) (fun i=>lS AA a0 i.1 i.2=_) (fun i=>i.1) (fun i=>[(1,fEq (ptr b1)),(24,fSl aL a0.AH),(25,fI (a0.AH.length:Int)),(26,fI i.2)]) (fun i=>[aA b1 26 [fSl aL a0.AH,fSl aY a0.AD,fSl aE a0.AF,fI a0.AG]]) (AA,0) H ?_
 clear H;rintro⟨k1,x2⟩ H
 replace H:lS AA a0 k1 x2=_:=H
 try dsimp only
 obtain _ | k1:=k1
 rw [lS]at H;cases H
 rw [lS]at H
 refine Z3 ?_
 refine aJ ?_
 revert H;refine is (fun c3 H=>?_) fun c3 H=>?_
 revert H;refine B3 fun o3 H Hr3=>?_
 refine aS (ι:=Unit) (fun i=>o3=Sum.inl ()) (fun i=>[(1,fEq (ptr b1)),(24,fSl aL a0.AH),(25,fI (a0.AH.length:Int)),(26,fI x2)]) (fun i=>[aA b1 26 [fSl aL a0.AH,fSl aY a0.AD,fSl aE a0.AF,fI a0.AG]]) ?_ ?_
 revert H;refine B3 fun y4 h4 H=>?_
 revert H;refine B7 fun y5 h5 H=>?_
 refine Tc (aK6 _ _ _ h5) ?_
 refine Z1 ?_
 revert H;refine cs (fun c4 H=>?_) fun c4 H=>?_
 revert H;refine I3 (fun c5 H=>?_) fun c5 H=>?_
 revert H;refine B10 fun y6 h6 H=>?_
 rcases y6 with y6 | pv4 <;> dsimp only at H
 refine Tc (aQ _ _ h6).s ?_
 refine Z3 ?_
 exact Tm (()) (ij H)
 refine Tp (aQ _ _ h6).pan ?_
 revert H;refine B2 fun r4 H e4=>?_
 cases e4;cases Hr3
 revert H;refine B3 fun r5 H e5=>?_
 cases e5;cases Hr2
 cases H
 exact bP
 revert H;refine B3 fun z1 h7 H=>?_
 revert H;refine B1 fun y7 h8 H=>?_
 refine Z3 ?_
 refine Yg c5 (o_lssS rfl hh hh) ?_
 revert H;refine B2 fun y8 h9 H=>?_
 rcases y8 with y8 | pv5 <;> dsimp only at H
 refine Tc (aQ _ _ h9).s ?_
 refine Z3 ?_
 exact Tm (()) (ij H)
 refine Tp (aQ _ _ h9).pan ?_
 revert H;refine B2 fun r6 H e6=>?_
 cases e6;cases Hr3
 revert H;refine B3 fun r7 H e7=>?_
 cases e7;cases Hr2
 cases H
 exact bP
 refine Z3 ?_
 refine eO (⟨_,_,_,_,rfl,rfl,rfl,nu⟩) rfl rfl ?_
 refine eO (⟨_,_,_,_,rfl,rfl,rfl,nu⟩) rfl rfl ?_
 refine eO (⟨_,_,_,_,rfl,rfl,rfl,nu⟩) rfl rfl ?_
 refine eO (⟨_,_,_,_,rfl,rfl,rfl,nu⟩) rfl rfl ?_
 refine eO (⟨_,_,_,_,rfl,rfl,rfl,nu⟩) rfl rfl ?_
 refine eO (⟨_,_,_,_,rfl,rfl,rfl,nu⟩) rfl rfl ?_
 refine eO (⟨_,_,_,_,rfl,rfl,rfl,nu⟩) rfl rfl ?_
 refine eO (⟨_,_,_,_,rfl,rfl,rfl,nu⟩) rfl rfl ?_
 revert H;refine B2 fun y9 h10 H=>?_
 rcases y9 with y9 | pv6 <;> dsimp only at H
 refine Tc (aQ _ _ h10).s ?_
 refine Z3 ?_
 exact Tm (()) (ij H)
 refine Tp (aQ _ _ h10).pan ?_
 revert H;refine B2 fun r8 H e8=>?_
 cases e8;cases Hr3
 revert H;refine B3 fun r9 H e9=>?_
 cases e9;cases Hr2
 cases H
 exact bP
 clear H;intro i hi;subst o3;have H:=Hr3;clear Hr3;try dsimp only at H
 try dsimp only
 revert H;refine B1 fun z2 h11 H=>?_
 refine Z3 ?_
 exact Tm ((k1,z2)) ⟨H,ls⟩
 refine Z6 ?_
 exact Tm (()) (ij H)
 clear H;intro i hi;subst o2;have H:=Hr2;clear Hr2;try dsimp only at H
 try dsimp only
 refine aJ ?_
 revert H;refine bs fun y10 h12 H=>?_
 revert H;refine bs fun y11 h13 H=>?_
 revert H;refine bs fun y12 h14 H=>?_
 apply bW (ods:=[_,_,_,_,_,_,_,_,_,_,_,_,_,_,_,_]) 16 4 5 bV rfl rfl rfl
 refine ND ?_
 refine M4 ?_
 intros
 refine Mn 1 (fun b2=> .slice (some ⟨b2,0,none⟩) y10.length y10.length) (fun b2=>aD (.slice (some ⟨b2,0,none⟩) y10.length y10.length) 3 tI y10) rfl (aA1 (t:=tI) (z:=0) rfl (has rfl) (et rfl) rfl aBo rfl h12) (fun b2 u1=>?_)
 refine M3 ?_
 intros
 refine Mn 2 (fun b3=> .slice (some ⟨b3,0,none⟩) y11.length y11.length) (fun b3=>aD (.slice (some ⟨b3,0,none⟩) y11.length y11.length) 4 bE y11) rfl (aA1 (t:=bE) (z:=false) rfl (has rfl) (et rfl) rfl aDh rfl h13) (fun b3 u2=>?_)
 refine M3 ?_
 intros
 refine Mn 3 (fun b4=> .slice (some ⟨b4,0,none⟩) y12.length y12.length) (fun b4=>aD (.slice (some ⟨b4,0,none⟩) y12.length y12.length) 4 bE y12) rfl (aA1 (t:=bE) (z:=false) rfl (has rfl) (et rfl) rfl aDh rfl h14) (fun b4 u3=>?_)
 refine N_y (od:=od3 4 8 12 [] false (fun b2 _ b3 _ b4 _=>dV [fSl aL a0.AH,fSl aY a0.AD,fSl aE a0.AF,fI a0.AG,fEq (.slice (some ⟨b2,0,none⟩) y10.length y10.length),fEq (.slice (some ⟨b3,0,none⟩) y11.length y11.length),fEq (.slice (some ⟨b4,0,none⟩) y12.length y12.length)]) (fun b2 _ b3 _ b4 _=>[])) (φ:=dV [fSl aL a0.AH,fSl aY a0.AD,fSl aE a0.AF,fI a0.AG,fEq (.slice (some ⟨b2,0,none⟩) y10.length y10.length),fEq (.slice (some ⟨b3,0,none⟩) y11.length y11.length),fEq (.slice (some ⟨b4,0,none⟩) y12.length y12.length)]) rfl (fun _=>rfl) a2e rfl (fY (ψs:=[fSl aL a0.AH,fSl aY a0.AD,fSl aE a0.AF,fI a0.AG,fEq (.slice (some ⟨b2,0,none⟩) y10.length y10.length),fEq (.slice (some ⟨b3,0,none⟩) y11.length y11.length),fEq (.slice (some ⟨b4,0,none⟩) y12.length y12.length)]) rfl aIg rfl (bJ.cons (has rfl) cB (bJ.cons (has rfl) (cJ (aI a2e)) (bJ.cons (has rfl) (cJ (aI a2e)) (bJ.cons (has rfl) (cJ (aI a2e)) bJ.nil)))) rfl) (fun _=>?_)
 refine N_new (od:=odN3 4 8 12 [4] true (fun b2 _ b3 _ b4 _ b5 _=>fEq (ptr b5)) (fun b2 _ b3 _ b4 _ b5 _=>[aA b5 131 [fSl aL a0.AH,fSl aY a0.AD,fSl aE a0.AF,fI a0.AG,fEq (.slice (some ⟨b2,0,none⟩) y10.length y10.length),fEq (.slice (some ⟨b3,0,none⟩) y11.length y11.length),fEq (.slice (some ⟨b4,0,none⟩) y12.length y12.length)]])) (p:=4) (f:=fun b5=>ptr b5) (τ:=fun b5=>aA b5 131 [fSl aL a0.AH,fSl aY a0.AD,fSl aE a0.AF,fI a0.AG,fEq (.slice (some ⟨b2,0,none⟩) y10.length y10.length),fEq (.slice (some ⟨b3,0,none⟩) y11.length y11.length),fEq (.slice (some ⟨b4,0,none⟩) y12.length y12.length)]) rfl (fun _=>rfl) (fun _=>rfl) a2e rfl rfl (cC rfl (has rfl) cB) (fun b5 u4=>?_)
 refine D1 14 b5 _ (fun b5 _=>fEq (ptr b5)) rfl (aBy rfl hh) (fun _=>?_)
 refine Z1 ?_
 generalize (Value.slice (some ⟨b2,0,none⟩) _ _)=v1
 refine aF 1 rfl (fun hc_v1=>?_)
 generalize (Value.slice (some ⟨b3,0,none⟩) _ _)=v2
 refine aF 2 rfl (fun hc_v2=>?_)
 generalize (Value.slice (some ⟨b4,0,none⟩) _ _)=v3
 refine aF 3 rfl (fun hc_v3=>?_)
 refine Z8 ?_
 refine eM ?_
 refine eM ?_
 refine eM ?_
 refine dD ?_
 refine xN (x:=(⟨(⟨a0.AH,a0.AD,a0.AF,a0.AG⟩:AI),y10,y11,y12⟩:Ae)) ?_
 revert H;refine bs fun y13 h15 H=>?_
 rcases y13 with y13 | pv7 <;> dsimp only at H
 refine Tc (aEM _ _ _ _ _ _ h15).s ?_
 refine wJ (fun v4 v5 v6=>?_)
 refine aF 1 rfl (fun hc_v4=>?_)
 refine aF 2 rfl (fun hc_v5=>?_)
 refine aF 3 rfl (fun hc_v6=>?_)
 revert H;refine B1 fun o4 H Hr4=>?_
 refine aS (ι:=List Bool) (fun i=>o4=Sum.inl i) (fun i=>[(5,fEq (ptr b5))]) (fun i=>[aA b5 131 [fSl aL y13.p.AH,fSl aY y13.p.AD,fSl aE y13.p.AF,fI y13.p.AG,fEq v4,fSl bE y13.AR,fSl bE i],aA b1 26 [fSl aL a0.AH,fSl aY a0.AD,fSl aE a0.AF,fI a0.AG],aD v4 3 tI y13.Ak]) ?_ ?_
 refine Z5 ?_
 refine dT ?_
 refine cF (φ:=fSl bE y13.AR) (v:=v5) [74] dC fz ?_
 refine fJ (φs':=[fSl aL y13.p.AH,fSl aY y13.p.AD,fSl aE y13.p.AF,fI y13.p.AG,fEq v4,fSl bE y13.AR,fEq v6]) (i:=5) rfl rfl ?_
 refine cE ?_
 revert H;refine bs fun y14 h16 H=>?_
 refine Tc (aFM _ _ _ _ h16) ?_
 refine Z2 ?_
 revert H;refine cs (fun c6 H=>?_) fun c6 H=>?_
 refine Z4 ?_
 refine dT ?_
 refine cF (φ:=fSl bE y13.Ad) (v:=v6) [81] dC fz ?_
 refine fJ (φs':=[fSl aL y13.p.AH,fSl aY y13.p.AD,fSl aE y13.p.AF,fI y13.p.AG,fEq v4,fSl bE y13.AR,fSl bE y13.Ad]) (i:=6) rfl rfl ?_
 refine cE ?_
 revert H;refine bs fun y15 h17 H=>?_
 refine Tc (aFM _ _ _ _ h17) ?_
 revert H;refine B2 fun y16 h18 H=>?_
 rcases y16 with y16 | pv8 <;> dsimp only at H
 refine Tc (aQ _ _ h18).s ?_
 refine Z1 ?_
 refine aH [0,2,1] (by decide) ?_
 exact Tm (y13.Ad) (ij H)
 refine Tp (aQ _ _ h18).pan ?_
 revert H;refine B1 fun r10 H e10=>?_
 cases e10;cases Hr4
 cases H
 exact bP
 revert H;refine B7 fun y17 h19 H=>?_
 rcases y17 with y17 | pv9 <;> dsimp only at H
 refine Tc (aQ _ _ h19).s ?_
 refine Z1 ?_
 refine dT ?_
 refine cF (φ:=fSl bE y13.Ad) (v:=v6) [] dC (fun _ h=>nomatch h) ?_
 refine fJ (φs':=[fSl aL y13.p.AH,fSl aY y13.p.AD,fSl aE y13.p.AF,fI y13.p.AG,fEq v4,fSl bE y13.AR,fSl bE y13.Ad]) (i:=6) rfl rfl ?_
 refine cE ?_
 refine aH [0,2,1] (by decide) ?_
 exact Tm (y13.Ad) (ij H)
 refine Tp (aQ _ _ h19).pan ?_
 revert H;refine B1 fun r11 H e11=>?_
 cases e11;cases Hr4
 cases H
 exact bP
 clear H;intro x3 hi;subst o4;have H:=Hr4;clear Hr4;try dsimp only at H
 try dsimp only
 refine Z5 ?_
 refine dT ?_
 refine cF (φ:=fSl tI y13.Ak) (v:=v4) [] dC (fun _ h=>nomatch h) ?_
 refine fJ (φs':=[fSl aL y13.p.AH,fSl aY y13.p.AD,fSl aE y13.p.AF,fI y13.p.AG,fSl tI y13.Ak,fSl bE y13.AR,fSl bE x3]) (i:=4) rfl rfl ?_
 refine cE ?_
 refine cF (φ:=aB bR (⟨(⟨y13.p.AH,y13.p.AD,y13.p.AF,y13.p.AG⟩:AI),y13.Ak,y13.AR,x3⟩:Ae)) (v:=ptr b5) [5,86,2] (gH aO.rfl) fz ?_
 refine cE ?_
 cases H
 refine qQ ?_
 refine aH [] (by decide) ?_
 exact To
 refine Tp (aEM _ _ _ _ _ _ h15).pan ?_
 refine Z1 ?_
 cases H
 exact bP
 exact fk
 kernel_rfl
def aA0 (AA:Nat) (a0:AI) (a1:Ae->Option (List Int)):Option ((List Int) × Int):=
 (sL AA (⟨a0.AH,a0.AD,a0.AF,a0.AG⟩:AI)).bind fun y1=>
 match y1 with
 | Sum.inr pv1=>(unI 245 pv1).bind fun e1=>some ([],e1)
 | Sum.inl y1=>
 (a1 y1).bind fun y2=>
 some (y2,0)
theorem aKX (AA:Nat)  (a0:AI) (a1:Ae->Option (List Int)) (r:(List Int) × Int) (H:aA0 AA a0 a1=some r):FnS Tryz.prog 90 [fSt cK a0,fFn Tryz.prog (fun (x:Ae)=>[aB bR x]) (fun (r:List Int)=>fSl tI r) a1] [] (cV [fSl tI r.1,fI r.2]) (fun _=>[]):=by
 unfold aA0 at H
 refine aBD Tryz.func90 rfl Tryz.ntmps90 rfl (fun β=>?_)
 refine Z1 ?_
 refine Tn (cC rfl hh cB) fun b1=>?_
 refine Z1 ?_
 refine Tn (bG rfl aCa rfl) fun b2=>?_
 refine Z2 ?_
 refine aDf a2e rfl rfl (gA.cons (has rfl) gA.nil) ?_
 revert H;refine B4 fun y1 h1 H=>?_
 rcases y1 with y1 | pv1 <;> dsimp only at H
 refine Tc (uY _ _ _ h1).s ?_
 revert H;refine bs fun y2 h2 H=>?_
 refine xD y1 a2e rfl rfl rfl (has rfl) (aK.cons (has rfl) aK.nil) h2 ?_
 refine Z1 ?_
 refine dN (φs':=[fI 0]) a2e rfl rfl (has rfl) (has rfl) (aI a2e) (sz rfl) rfl rfl ?_
 refine Z2 ?_
 cases H
 refine aH [0] (by decide) ?_
 exact aBY (uI (u:= .returning) (by simp) rfl (bS rfl) rfl (sc rfl) (cb rfl) (aCn b2 0) rfl rfl)
 refine Tp (uY _ _ _ h1).pan ?_
 refine Z1 ?_
 have H0:=H;clear H;obtain⟨e1,h3,H⟩:=bind_some H0;clear H0;have hv_e1:=aCY h3;subst hv_e1
 cases H
 refine aH [0] (by decide) ?_
 exact aDX (uI (u:= .panicking [{ v:= .iface 245 (.agg #[.int .i64 e1]),recovered:=false }]) (by simp) rfl (eL rfl cW) rfl (sc rfl) (cb rfl) (aDY b2 0 e1) rfl rfl)
def lH (a0:Ae) (w0:AI) (w1:Ae × Int->Option Int):Nat->(List Int)->Int->Option (List Int)
| 0,_,_=>none
| k+1,x4,x5=>
 if x5<(w0.AD.length:Int)then
  (w1 (a0,x5)).bind fun y1=>
  (cQ (x4++[y1])).bind fun z1=>
  (chk (x5+1)).bind fun z2=>
  lH a0 w0 w1 k z1 z2
 else
  some x4
def xT (AA:Nat) (a0:Ae) (w0:AI) (w1:Ae × Int->Option Int):Option (List Int):=
 (lH a0 w0 w1 AA [] 0).bind fun x1=>
 some x1
theorem aJw (AA:Nat)  (a0:Ae) (w0:AI) (w1:Ae × Int->Option Int) (r:List Int) (H:xT AA a0 w0 w1=some r):FnS Tryz.prog 91 [aB bR a0,aB cK w0,aB (tFn Tryz.prog (fun (x:Ae × Int)=>[aB bR x.1,fI x.2]) (fun (r:Int)=>fI r)) w1] [] (fSl tI r) (fun _=>[]):=by
 unfold xT at H
 refine bL Tryz.func91 rfl Tryz.ntmps91 rfl (fun β=>?_)
 revert H;refine B6 fun o1 H Hr1=>?_
 refine aS (ι:=List Int × Value) (fun i=>o1=i.1) (fun i=>[(5,fEq i.2)]) (fun i=>[aD i.2 3 tI i.1]) ?_ ?_
 refine Z7 ?_
 refine gM tI 3 ?_
 refine Tl (ι:=Nat × List Int × Int × Value) (fun i=>lH a0 w0 w1 i.1 i.2.1 i.2.2.1=_) (fun i=>i.1) (fun i=>[(0,aB bR a0),(2,aB (tFn Tryz.prog (fun (x:Ae × Int)=>[aB bR x.1,fI x.2]) (fun (r:Int)=>fI r)) w1),(5,fEq i.2.2.2),(9,fI (w0.AD.length:Int)),(10,fI i.2.2.1)]) (fun i=>[aD i.2.2.2 3 tI i.2.1]) (AA,[],0,(.slice none 0 0)) H ?_
 clear H;rintro⟨k1,x4,x5,v3⟩ H
 replace H:lH a0 w0 w1 k1 x4 x5=_:=H
 try dsimp only
 obtain _ | k1:=k1
 rw [lH]at H;cases H
 rw [lH]at H
 refine aF 0 rfl (fun hc_v3=>?_)
 refine Z3 ?_
 refine aJ ?_
 revert H;refine is (fun c1 H=>?_) fun c1 H=>?_
 refine Z3 ?_
 refine aJ ?_
 revert H;refine B10 fun y1 h1 H=>?_
 refine xD (a0,x5) a2e rfl rfl rfl (has rfl) (aK.cons (has rfl) (aK.cons (has rfl) aK.nil)) h1 ?_
 refine Tn (fN (t:=tI) (xs:=[y1]) rfl (et rfl) (cI.cons rfl (has rfl) (cJ (aI a2e)) cI.nil) rfl rfl rfl) fun b1=>?_
 generalize (Value.slice (some ⟨b1,0,none⟩) _ _)=v4
 refine aF 0 rfl (fun hc_v4=>?_)
 revert H;refine bs fun z1 h2 H=>?_
 refine jE a2e rfl rfl rfl (has rfl) (has rfl) (et rfl) rfl h2 (fun v5=>?_)
 refine aF 0 rfl (fun hc_v5=>?_)
 revert H;refine B5 fun z2 h3 H=>?_
 refine Z3 ?_
 exact Tm ((k1,z1,z2,v5)) ⟨H,ls⟩
 refine Z6 ?_
 exact Tm ((x4,v3)) (ij H)
 clear H;intro i hi;obtain⟨x1,v1⟩:=i;subst o1;have H:=Hr1;clear Hr1;try dsimp only at H
 try dsimp only
 refine aF 0 rfl (fun hc_v1=>?_)
 refine Z5 ?_
 refine cF (φ:=fSl tI x1) (v:=v1) [5,21,4] dC fz ?_
 refine cE ?_
 cases H
 exact To
def aBz (AA:Nat) (a0:AI) (a1:Ae × Int->Option Int):Option ((List Int) × Int):=
 (aA0 AA (⟨a0.AH,a0.AD,a0.AF,a0.AG⟩:AI) (fun x=>xT AA x (⟨a0.AH,a0.AD,a0.AF,a0.AG⟩:AI) a1)).bind fun y1=>
 some (y1.1,y1.2)
theorem aH6 (AA:Nat)  (a0:AI) (a1:Ae × Int->Option Int) (r:(List Int) × Int) (H:aBz AA a0 a1=some r):FnS Tryz.prog 56 [fSt cK a0,fFn Tryz.prog (fun (x:Ae × Int)=>[aB bR x.1,fI x.2]) (fun (r:Int)=>fI r) a1] [] (cV [fSl tI r.1,fI r.2]) (fun _=>[]):=by
 unfold aBz at H
 refine bL Tryz.func56 rfl Tryz.ntmps56 rfl (fun β=>?_)
 refine Z1 ?_
 refine Tn (cC rfl hh cB) fun b1=>?_
 refine Tn (cC rfl (has rfl) (cJ (aDB))) fun b2=>?_
 refine Z5 ?_
 refine cL ?_
 refine cF (φ:=aB cK (⟨a0.AH,a0.AD,a0.AF,a0.AG⟩:AI)) (v:=ptr b1) [2] (gH aO.rfl) fz ?_
 refine cE ?_
 refine cF (φ:=aB (tFn Tryz.prog (fun (x:Ae × Int)=>[aB bR x.1,fI x.2]) (fun (r:Int)=>fI r)) a1) (v:=ptr b2) [3] (gH aO.rfl) fz ?_
 refine cE ?_
 refine Yy (mR rfl (aK.cons hh (aK.cons hh aK.nil))) ?_
 revert H;refine bs fun y1 h1 H=>?_
 refine lT a2e rfl rfl rfl hh (aK.cons hh (aK.cons (fF rfl (ent_fn (cb rfl) (fun x r hx=>aJw AA x (⟨a0.AH,a0.AD,a0.AF,a0.AG⟩:AI) a1 r hx))) aK.nil)) rfl (cb rfl) (aKX AA (⟨a0.AH,a0.AD,a0.AF,a0.AG⟩:AI) (fun x=>xT AA x (⟨a0.AH,a0.AD,a0.AF,a0.AG⟩:AI) a1) y1 h1) rfl ?_
 refine Z6 ?_
 cases H
 exact iH rfl (bS rfl) (bS rfl) rfl
def rD (a0:Ae) (a1:Int):Option (Int):=
 (idx a0.Ak a1).bind fun y1=>
 some y1
theorem aKn  (a0:Ae) (a1:Int) (r:Int) (H:rD a0 a1=some r):FnS Tryz.prog 57 [aB bR a0,fI a1] [] (fI r) (fun _=>[]):=by
 unfold rD at H
 refine bL Tryz.func57 rfl Tryz.ntmps57 rfl (fun β=>?_)
 revert H;refine B9 fun y1 h1 H=>?_
 refine Z5 ?_
 cases H
 exact To
def uX (AA:Nat) (a0:AI):Option ((List Int) × Int):=
 (aBz AA (⟨a0.AH,a0.AD,a0.AF,a0.AG⟩:AI) (fun x=>rD x.1 x.2)).bind fun y1=>
 some (y1.1,y1.2)
theorem aFS (AA:Nat)  (a0:AI) (r:(List Int) × Int) (H:uX AA a0=some r):FnS Tryz.prog 22 [fSt cK a0] [] (cV [fSl tI r.1,fI r.2]) (fun _=>[]):=by
 unfold uX at H
 refine bL Tryz.func22 rfl Tryz.ntmps22 rfl (fun β=>?_)
 refine Z1 ?_
 refine Tn (cC rfl hh cB) fun b1=>?_
 revert H;refine B5 fun y1 h1 H=>?_
 refine lT a2e rfl rfl rfl hh (aK.cons hh (aK.cons (fF rfl (aCl (cb rfl) (fun (x:Ae × Int) r hx=>aKn x.1 x.2 r hx))) aK.nil)) rfl (cb rfl) (aH6 AA (⟨a0.AH,a0.AD,a0.AF,a0.AG⟩:AI) (fun x=>rD x.1 x.2) y1 h1) rfl ?_
 refine Z6 ?_
 cases H
 refine aH [] (by decide) ?_
 exact iH rfl (bS rfl) (bS rfl) rfl
def aBB (AA:Nat) (a0:AI) (a1:Ae->Option (List (List Int))):Option ((List (List Int)) × Int):=
 (sL AA (⟨a0.AH,a0.AD,a0.AF,a0.AG⟩:AI)).bind fun y1=>
 match y1 with
 | Sum.inr pv1=>(unI 245 pv1).bind fun e1=>some ([],e1)
 | Sum.inl y1=>
 (a1 y1).bind fun y2=>
 some (y2,0)
theorem aIC (AA:Nat)  (a0:AI) (a1:Ae->Option (List (List Int))) (r:(List (List Int)) × Int) (H:aBB AA a0 a1=some r):FnS Tryz.prog 120 [fSt cK a0,fFn Tryz.prog (fun (x:Ae)=>[aB bR x]) (fun (r:List (List Int))=>fSl (tSl tI) r) a1] [] (cV [fSl (tSl tI) r.1,fI r.2]) (fun _=>[]):=by
 unfold aBB at H
 refine aBD Tryz.func120 rfl Tryz.ntmps120 rfl (fun β=>?_)
 refine Z1 ?_
 refine Tn (cC rfl hh cB) fun b1=>?_
 refine Z1 ?_
 refine Tn (bG rfl aCa rfl) fun b2=>?_
 refine Z2 ?_
 refine aDf a2e rfl rfl (gA.cons (has rfl) gA.nil) ?_
 revert H;refine B4 fun y1 h1 H=>?_
 rcases y1 with y1 | pv1 <;> dsimp only at H
 refine Tc (uY _ _ _ h1).s ?_
 revert H;refine bs fun y2 h2 H=>?_
 refine xD y1 a2e rfl rfl rfl (has rfl) (aK.cons (has rfl) aK.nil) h2 ?_
 refine Z1 ?_
 refine dN (φs':=[fI 0]) a2e rfl rfl (has rfl) (has rfl) (aI a2e) (sz rfl) rfl rfl ?_
 refine Z2 ?_
 cases H
 refine aH [0] (by decide) ?_
 exact aBY (uI (u:= .returning) (by simp) rfl (bS rfl) rfl (sc rfl) (cb rfl) (aCn b2 0) rfl rfl)
 refine Tp (uY _ _ _ h1).pan ?_
 refine Z1 ?_
 have H0:=H;clear H;obtain⟨e1,h3,H⟩:=bind_some H0;clear H0;have hv_e1:=aCY h3;subst hv_e1
 cases H
 refine aH [0] (by decide) ?_
 exact aDX (uI (u:= .panicking [{ v:= .iface 245 (.agg #[.int .i64 e1]),recovered:=false }]) (by simp) rfl (eL rfl cW) rfl (sc rfl) (cb rfl) (aDY b2 0 e1) rfl rfl)
def mN (a0:Ae) (w0:AI) (w1:Ae × Int->Option (List Int)):Nat->(List (List Int))->Int->Option (List (List Int))
| 0,_,_=>none
| k+1,x4,x5=>
 if x5<(w0.AD.length:Int)then
  (w1 (a0,x5)).bind fun y1=>
  (cQ (x4++[y1])).bind fun z1=>
  (chk (x5+1)).bind fun z2=>
  mN a0 w0 w1 k z1 z2
 else
  some x4
def yR (AA:Nat) (a0:Ae) (w0:AI) (w1:Ae × Int->Option (List Int)):Option (List (List Int)):=
 (mN a0 w0 w1 AA [] 0).bind fun x1=>
 some x1
theorem aJk (AA:Nat)  (a0:Ae) (w0:AI) (w1:Ae × Int->Option (List Int)) (r:List (List Int)) (H:yR AA a0 w0 w1=some r):FnS Tryz.prog 121 [aB bR a0,aB cK w0,aB (tFn Tryz.prog (fun (x:Ae × Int)=>[aB bR x.1,fI x.2]) (fun (r:List Int)=>fSl tI r)) w1] [] (fSl (tSl tI) r) (fun _=>[]):=by
 unfold yR at H
 refine bL Tryz.func121 rfl Tryz.ntmps121 rfl (fun β=>?_)
 revert H;refine B6 fun o1 H Hr1=>?_
 refine aS (ι:=List (List Int) × Value) (fun i=>o1=i.1) (fun i=>[(5,fEq i.2)]) (fun i=>[aD i.2 27 (tSl tI) i.1]) ?_ ?_
 refine Z7 ?_
 refine gM (tSl tI) 27 ?_
 refine Tl (ι:=Nat × List (List Int) × Int × Value) (fun i=>mN a0 w0 w1 i.1 i.2.1 i.2.2.1=_) (fun i=>i.1) (fun i=>[(0,aB bR a0),(2,aB (tFn Tryz.prog (fun (x:Ae × Int)=>[aB bR x.1,fI x.2]) (fun (r:List Int)=>fSl tI r)) w1),(5,fEq i.2.2.2),(9,fI (w0.AD.length:Int)),(10,fI i.2.2.1)]) (fun i=>[aD i.2.2.2 27 (tSl tI) i.2.1]) (AA,[],0,(.slice none 0 0)) H ?_
 clear H;rintro⟨k1,x4,x5,v3⟩ H
 replace H:mN a0 w0 w1 k1 x4 x5=_:=H
 try dsimp only
 obtain _ | k1:=k1
 rw [mN]at H;cases H
 rw [mN]at H
 refine aF 0 rfl (fun hc_v3=>?_)
 refine Z3 ?_
 refine aJ ?_
 revert H;refine is (fun c1 H=>?_) fun c1 H=>?_
 refine Z3 ?_
 refine aJ ?_
 revert H;refine B10 fun y1 h1 H=>?_
 refine xD (a0,x5) a2e rfl rfl rfl (has rfl) (aK.cons (has rfl) (aK.cons (has rfl) aK.nil)) h1 ?_
 refine Tn (fN (t:=(tSl tI)) (xs:=[y1]) rfl (et rfl) (cI.cons rfl (has rfl) (cJ (aP)) cI.nil) rfl rfl rfl) fun b1=>?_
 generalize (Value.slice (some ⟨b1,0,none⟩) _ _)=v4
 refine aF 0 rfl (fun hc_v4=>?_)
 revert H;refine bs fun z1 h2 H=>?_
 refine jE a2e rfl rfl rfl (has rfl) (has rfl) (et rfl) rfl h2 (fun v5=>?_)
 refine aF 0 rfl (fun hc_v5=>?_)
 revert H;refine B5 fun z2 h3 H=>?_
 refine Z3 ?_
 exact Tm ((k1,z1,z2,v5)) ⟨H,ls⟩
 refine Z6 ?_
 exact Tm ((x4,v3)) (ij H)
 clear H;intro i hi;obtain⟨x1,v1⟩:=i;subst o1;have H:=Hr1;clear Hr1;try dsimp only at H
 try dsimp only
 refine aF 0 rfl (fun hc_v1=>?_)
 refine Z5 ?_
 refine cF (φ:=fSl (tSl tI) x1) (v:=v1) [5,21,4] dC fz ?_
 refine cE ?_
 cases H
 exact To
def aBn (AA:Nat) (a0:AI) (a1:Ae × Int->Option (List Int)):Option ((List (List Int)) × Int):=
 (aBB AA (⟨a0.AH,a0.AD,a0.AF,a0.AG⟩:AI) (fun x=>yR AA x (⟨a0.AH,a0.AD,a0.AF,a0.AG⟩:AI) a1)).bind fun y1=>
 some (y1.1,y1.2)
theorem aK7 (AA:Nat)  (a0:AI) (a1:Ae × Int->Option (List Int)) (r:(List (List Int)) × Int) (H:aBn AA a0 a1=some r):FnS Tryz.prog 85 [fSt cK a0,fFn Tryz.prog (fun (x:Ae × Int)=>[aB bR x.1,fI x.2]) (fun (r:List Int)=>fSl tI r) a1] [] (cV [fSl (tSl tI) r.1,fI r.2]) (fun _=>[]):=by
 unfold aBn at H
 refine bL Tryz.func85 rfl Tryz.ntmps85 rfl (fun β=>?_)
 refine Z1 ?_
 refine Tn (cC rfl hh cB) fun b1=>?_
 refine Tn (cC rfl (has rfl) (cJ (aDB))) fun b2=>?_
 refine Z5 ?_
 refine cL ?_
 refine cF (φ:=aB cK (⟨a0.AH,a0.AD,a0.AF,a0.AG⟩:AI)) (v:=ptr b1) [2] (gH aO.rfl) fz ?_
 refine cE ?_
 refine cF (φ:=aB (tFn Tryz.prog (fun (x:Ae × Int)=>[aB bR x.1,fI x.2]) (fun (r:List Int)=>fSl tI r)) a1) (v:=ptr b2) [3] (gH aO.rfl) fz ?_
 refine cE ?_
 refine Yy (mR rfl (aK.cons hh (aK.cons hh aK.nil))) ?_
 revert H;refine bs fun y1 h1 H=>?_
 refine lT a2e rfl rfl rfl hh (aK.cons hh (aK.cons (fF rfl (ent_fn (cb rfl) (fun x r hx=>aJk AA x (⟨a0.AH,a0.AD,a0.AF,a0.AG⟩:AI) a1 r hx))) aK.nil)) rfl (cb rfl) (aIC AA (⟨a0.AH,a0.AD,a0.AF,a0.AG⟩:AI) (fun x=>yR AA x (⟨a0.AH,a0.AD,a0.AF,a0.AG⟩:AI) a1) y1 h1) rfl ?_
 refine Z6 ?_
 cases H
 exact iH rfl (bS rfl) (bS rfl) rfl
end Go.Proofs.YtgidgoahhepmlaaGreat
