/- Parts of the proof: lemmas, and the steps through the program. -/
import Derived.Test.YtgidgoahhepmlaaGreatFb0
import Derived.RangeFuncLeaves
import Derived.RangeFuncRecord
import Derived.RecoverIn
import Derived.Scope
import GoSem.ClaimChange
import Derived.Laws.StructEq
import Derived.Test.YtgidgoahhepmlaaGreatRows
set_option linter.unusedVariables false
set_option linter.unusedSimpArgs false
set_option maxRecDepth 100000
set_option maxHeartbeats 2000000
namespace Go.SW
open Go.SX
def YdX (P:Program) (l:Nat) (vs:List Value) (m:Mem) (L:Ag) (post:Mem->Ag->Prop):Prop:=
 ∀ w,St ⟨w,m,L.map Prod.fst⟩ m L w->∃ r:Loop,w.heap[l]? =some (.loop r)/\vs.toArray.size=r.params.size /\
  RoundIn (fw none) 0 P l r.fn (wX r vs.toArray) r.assign r.body w fun e w'=>
   e= .returned (.bool true)/\∃ m' L',St ⟨w,m,L.map Prod.fst⟩ m' L' w'/\post m' L'
def jM (P:Program) {α σ:Type} (ρ:α->List AJ) (Y:α->σ->Option σ) (J:σ->Tk):AJ:=
 ⟨fun m v=>∃ l,v=lZ l/\∀ m',Mem.le m m'->∀ x t t' vs H,Y x t=some t'->aU (ρ x) m' vs->(J t).p m' H->YdX P l vs m' H (fun m'' H'=>(J t').p m'' H'),
  fun h ⟨l,h1,h2⟩=>⟨l,h1,fun m' hle=>h2 m' (Mem.le_trans h hle)⟩⟩
section
variable {P:Program} {β:bI} {n:Nat} {ds:List Deferred} {Γ:Ctx} {Δ R:List Tk} {r:Option Nat} {Q Q':Exit->Act->World->Prop} {F:Act->World->Prop} {ops:Array Oper} {o:Oper} {rest:List Oper}
theorem aIJ {α σ:Type} {ρ:α->List AJ} {Y:α->σ->Option σ} {J:σ->Tk}:eH (jM P ρ Y J):=fun _ _ ⟨_,h,_⟩=>by rw [h];trivial
theorem T_callY {α σ:Type} {ρ:α->List AJ} {Y:α->σ->Option σ} {J:σ->Tk} {g:Operand} {args:List Operand} {ts:Array TypeId} {d:Nat} (x:α) {s s':σ} (hw:cI ops Γ o) (ho:o.op= .call { callee:= .value g,args:=args.toArray,argTypes:=ts }) (hd:o.dst=some d)
 (hn:Nat.ble (d+1) n=true) (hg:Has Γ g (jM P ρ Y J)) (hargs:aN Γ args (ρ x)) (hY:Y x s=some s')
 (k:T β n ds ((d,aK true) :: Γ) (J s' :: Δ) (wpListIn (fw r) 0 P ops Q rest)):T β n ds Γ (J s :: Δ) (wpListIn (fw r) 0 P ops Q (o :: rest)):=fun m L a w hF hL hS=>by
 obtain⟨H,R,rfl,hJ,hR⟩:=hL
 obtain⟨l,hge,hy⟩:=hF.has hg
 simp only [wpListIn,hw.wanted hF,if_true]
 refine⟨fun _ _=>a2g,?_⟩
 have hnd:gT o.op=false:=by rw [ho];rfl
 have h3:o.semAt (fw r).round a.eval=execOp a.eval o:=Oper.semAt_eq _ _ _ fun c hc=>by rw [hc]at hnd;cases hnd
 obtain⟨rec,hr,hsz,hround⟩:=hy m (Mem.le_refl _) x s s' (args.map a.eval) H hY (hargs.all hF) hJ w hS.start
 have hrun:(execOp a.eval o).run P w= .ok (.round l rec.fn (wX rec (args.map a.eval).toArray) rec.assign rec.body) w:=by
  have h3:=run_yield (P:=P) hr hsz;have h4:args.toArray.map a.eval=(args.map a.eval).toArray:=by simp
  simp [execOp,ho,resolve,hge,lZ,Deferred.ofValue,invoke,a1Y,Sem.run,pure,wX];simpa using h3
 rw [h3,hrun,Oper.uponIn_round]
 refine⟨(fun h=>by cases h),?_⟩
 have hround':RoundIn (fw r) 0 P l rec.fn (wX rec (args.map a.eval).toArray) rec.assign rec.body w _:=hround
 refine hround'.mono fun e w' ⟨he,m',L',hS',hp⟩=>?_
 subst he
 show wpListIn (fw r) 0 P ops Q rest (a.put o.dst (.bool true)) w'
 rw [hd]
 exact k m' _ _ _ ((hF.mono hS'.mle).put (a1H hn) rfl) ⟨L',R,rfl,hp,hR.mono hS'.mle⟩ (back hS hS')
def aBL:List Nat->List AJ->Ctx->Ctx
 | p :: ps,φ :: φs,Γ=>aBL ps φs ((p,φ) :: Γ)
 | _,_,Γ=>Γ
theorem aHl {m:Mem}:∀ {ps:List Nat} {φs:List AJ} {vs:List Value} {t:Array Value} {Γ:Ctx},(∀ p∈ps,p<t.size)->ps.length=φs.length->aU φs m vs->(∀ s φ,lk Γ s=some φ->∃ v,t[s]? =some v/\φ.p m v) ->
 ∀ s φ,lk (aBL ps φs Γ) s=some φ->∃ v,((ps.zip vs).foldl (fun tmps (x:Nat × Value)=>tmps.setIfInBounds x.1 x.2) t)[s]? =some v/\φ.p m v
 | [],[],_,t,Γ,_,_,hv,hg=>fun s φ h=>by
  have:(_:List Value)=[]:=hv;subst this;exact hg s φ h
 | p :: ps,ψ :: φs,_,t,Γ,hp,hl,⟨v,vs,e,h1,h2⟩,hg=>fun s φ h=>by
  subst e;simp only [List.zip_cons_cons,List.foldl_cons];refine aHl (t:=t.setIfInBounds p v) (fun q hq=>by simp;exact hp q (.tail _ hq)) (by simpa using hl) h2 (fun u χ hu=>?_) s φ h
  rcases tM hu with⟨rfl,rfl⟩ | ⟨hne,hu⟩
  ·exact⟨v,by simp [hp p (.head _)],h1⟩
  ·obtain⟨z,h3,h4⟩:=hg u χ hu;exact⟨z,by rw [a0f hne];exact h3,h4⟩
def aA7 (β:bI) (l:Nat) (rec:Loop) (Δ':List Tk) (e:Ending) (w:World):Prop:=
 e= .returned (.bool true)/\∃ m' L',St β m' ((l, .loop rec) :: L') w/\bT Δ' m' L'
def BodyT (P:Program) (l:Nat) (β:bI) (rec:Loop) (Δ':List Tk) (body:Code) (a:Act) (w:World):Prop:=
 ∃ w₂,(Instr.beginRound l).run P w= .ok () w₂/\body.wpIn (fw (some l)) 0 P (roundPost P l (aA7 β l rec Δ')) a w₂
def tObj (l:Nat) (o:Obj):Tk:=⟨fun _ H=>H=[(l,o)],fun _ h=>h⟩
def rF (rb:Nat):Tk:=tObj rb (.deferred (some []))
theorem T_begin {l:Nat} {rec:Loop} {Δ':List Tk} {body:Code} (hs:rec.state= .ready)
 (k:T β n ds Γ (tObj l (busy rec) :: Δ) (body.wpIn (fw (some l)) 0 P (roundPost P l (aA7 β l rec Δ')))):T β n ds Γ (tObj l (.loop rec) :: Δ) (BodyT P l β rec Δ' body):=fun m L a w hF hL hS=>by
 obtain⟨H,R,rfl,h1,hR⟩:=hL
 have h1:H=[(l, .loop rec)]:=h1
 subst h1
 exact⟨_,run_beginRound (hS.own _ (.head _)) hs,k m ((l,busy rec) :: R) _ _ hF ⟨_,R,rfl,rfl,hR⟩ (hS.putObj (k:=0) rfl)⟩
theorem aKN {l:Nat} {rec:Loop} {Δ':List Tk} (hs:rec.state= .ready) (hp:rec.pending=none) (hd:Δ=Δ'):
 T β n ds Γ (tObj l (busy rec) :: Δ) (roundPost P l (aA7 β l rec Δ') .normal):=fun m L a w hF hL hS=>by
 subst hd
 obtain⟨H,R,rfl,h1,hR⟩:=hL
 have h1:H=[(l,busy rec)]:=h1
 subst h1
 have h1:=hS.own (l,busy rec) (.head _)
 simp only [busy]at h1
 refine⟨_,_,run_endRound none h1,⟨rfl,m,R,?_,hR⟩⟩
 have h2:({ ({ rec with state:= .busy }:Loop)with state:=if (none:Option Code).isNone then .ready else .done,pending:=none }:Loop)=rec:=by
  cases rec;simp only at hs hp;subst hs hp;rfl
 rw [h2]
 exact hS.putObj (k:=0) (o':= .loop rec) rfl
theorem aIp {α σ:Type} {g:Operand} {ps:List Nat} {assign body:Code} {f:FuncId} {φs:List AJ} (ρ:α->List AJ) (Y:α->σ->Option σ) (Δf:σ->List Tk) {s s':σ} (hg:Has Γ g (cB f φs)) (hf:Ar P f) (hps:ps.all (fun p=>Nat.ble (p+1) n)=true)
 (hlen:∀ x,ps.length=(ρ x).length) (hΔ:Δ=Δf s++R)
 (hiter:∀ (J:σ->Tk),FnS P f (jM P ρ Y J :: φs) [J s] (dF []) (fun _=>[J s']))
 (hbody:∀ (β':bI) (l:Nat) (rec:Loop) x t t',rec.state= .ready->rec.pending=none->Y x t=some t' ->
  T β' n [] (aBL ps (ρ x) Γ) (tObj l (.loop rec) :: Δf t) (assign.wpIn (fw (some l)) 0 P (Exit.then (BodyT P l β' rec (Δf t') body) (fun _ _ _=>False))))
 (hnext:∀ rb:Nat,T β n (SX.mark rb :: ds) Γ (rF rb :: (Δf s'++R)) (Q .normal)):
 T β n ds Γ Δ ((Code.rangeFunc g ps.toArray assign body).wpIn (fw none) 0 P Q):=fun m L a w hF hL hS=>by
 subst hΔ
 obtain⟨A,B,rfl,hA,hB⟩:=hL.split
 obtain⟨cs,hge,hcs⟩:=hF.has hg
 have hps':∀ p∈ps,p<n:=fun p hp=>a1H (a0t.1 hps p hp)
 refine wpIn_rangeFunc fun fn _=>?_
 let rb:=w.heap.size
 let w₁:=w.alloc (.deferred (some []))
 let rec₀:Loop:={ state:= .ready,pending:=none,fn,tmps:=a.tmps,params:=ps.toArray,assign,body,defers:=rb }
 let l:=w₁.heap.size
 let w₂:=w₁.alloc (.loop rec₀)
 have hS₁:St β m ((rb, .deferred (some [])) :: (A++B)) w₁:=hS.alloc _
 have hS₂:St β m ((l, .loop rec₀) :: (rb, .deferred (some [])) :: (A++B)) w₂:=hS₁.alloc _
 have hl:l=w.heap.size+1:=by show w₁.heap.size=_;simp [w₁]
 refine⟨l,[SX.mark rb],w₂,{ target:= .fn (.func f) cs.toArray,args:=#[lZ l] },w₂,f,(lZ l :: cs).toArray,w₂,?_,?_,fun _ _=>a2g,?_,(fun h=>by cases h),?_⟩
 ·rw [hl];exact run_enterLoop_outer fn a.tmps ps.toArray assign body
 ·simp only [resolve,rangeCall,hge];simp [Act.eval,Deferred.ofValue,lZ,Sem.run,pure]
 ·have h3:=run_callFunc hf ((lZ l :: cs).toArray) w₂;simp only [invoke];have:(#[lZ l]++cs.toArray)=(lZ l :: cs).toArray:=by simp
  rw [this];exact h3
 ·let J:σ->Tk:=fun t=>⟨fun m' H=>∃ L',H=(l, .loop rec₀) :: L'/\bT (Δf t) m' L',fun h ⟨L',e,k⟩=>⟨L',e,k.mono h⟩⟩
  have hperm:((l,Obj.loop rec₀) :: (rb,Obj.deferred (some [])) :: (A++B)).Perm (((l,Obj.loop rec₀) :: A)++((rb,Obj.deferred (some [])) :: B)):=
   .cons _ (a1w (a:=(rb,Obj.deferred (some []))) (l₁:=A) (l₂:=B)).symm
  have hS₃:St β m (((l, .loop rec₀) :: A)++((rb, .deferred (some [])) :: B)) w₂:=hS₂.perm hperm;have hy:(jM P ρ Y J).p m (lZ l):=⟨l,rfl,fun m' hle x t t' vs H hx hvs ⟨L',e,hL'⟩=>by
   subst e;intro w₄ hS₄;have hvl:ps.length=vs.length:=by rw [hlen x,hvs.length]
   refine⟨rec₀,hS₄.own _ (.head _),by simp [rec₀,hvl],?_⟩
   refine RoundIn.mono (R:=aA7 ⟨w₄,m',((l,Obj.loop rec₀) :: L').map Prod.fst⟩ l rec₀ (Δf t')) ?_ fun e w' ⟨he,m'',L'',h1,h2⟩=>
    ⟨he,m'',(l, .loop rec₀) :: L'',h1,L'',rfl,h2⟩
   refine roundIn_of_wpIn a2g ?_;refine hbody ⟨w₄,m',((l,Obj.loop rec₀) :: L').map Prod.fst⟩ l rec₀ x t t' rfl rfl hx m' _ _ w₄ ⟨?_,rfl,fun t φ ht=>?_⟩ ⟨[_],L',rfl,rfl,hL'⟩ hS₄
   ·have:∀ (z:List (Nat × Value)) (t:Array Value),(z.foldl (fun tmps (t,a)=>tmps.setIfInBounds t a) t).size=t.size:=fun z=>by
     induction z with
     | nil=>intro t;rfl
     | cons x z ih=>intro t;simp [ih]
    have hz:ps.toArray.zip vs.toArray=(ps.zip vs).toArray:=by simp
    simp only [wX,rec₀,hz,List.foldl_toArray,this,hF.size]
   ·have hz:ps.toArray.zip vs.toArray=(ps.zip vs).toArray:=by simp
    simp only [wX,rec₀,hz,List.foldl_toArray];exact aHl (by rw [hF.size];exact hps') (hlen x) hvs (hF.mono hle).get t φ ht⟩
  have hfn:=hiter J m ((l, .loop rec₀) :: A) (lZ l :: cs) ⟨_,_,rfl,hy,hcs⟩ ⟨_,[],by simp,⟨A,rfl,hA⟩,rfl⟩
  refine aDZ ((hfn w₂ hS₃.start).mono fun e w' ⟨m',L₁,hS',v,he,_,hJ⟩=>?_)
  obtain⟨H,R0,hL1,⟨L',hH,hT⟩,hR0⟩:=hJ;have hR0:R0=[]:=hR0;subst he hH hR0;have hL1:L₁=(l,Obj.loop rec₀) :: L':=by rw [hL1];simp
  subst hL1;have hback:=back hS₃ hS';have hreco:w'.heap[l]? =some (.loop rec₀):=hback.own (l, .loop rec₀) (.head _);refine⟨none,_,run_endLoop hreco (by simp [rec₀]),?_⟩
  have h4:=(hback.putObj (k:=0) (o':= .loop { rec₀ with state:= .exhausted }) rfl).drop (L':=L'++((rb,Obj.deferred (some [])) :: B)) (by simp)
  have h5:=h4.perm (a1w (a:=(rb,Obj.deferred (some []))) (l₁:=L') (l₂:=B));have hF':=hF.mono hS'.mle;exact hnext rb m' _ { a with defers:=[SX.mark rb]++a.defers } _ ⟨hF'.size,by simp [hF'.Aa],hF'.get⟩ ⟨[_],L'++B,rfl,rfl,hT.append (hB.mono hS'.mle)⟩ h5
theorem FnX_ofM {f:FuncId} {fn:Func} {c:Code} {N:Nat} {args:List AJ} {post:Mem->Ag->Ending->Prop} (hf:P.funcs[f]? =some fn) (hb:fn.body=some c) (hN:fn.ntmps=N) (hle:Nat.ble args.length N=true)
 (k:∀ w m fp,T ⟨w,m,fp⟩ N [] (nS args 0) Δ (c.wpIn (fw none) 0 P (bodyPostM (fw none) 0 P fn fun e w'=>∃ m' L',St ⟨w,m,fp⟩ m' L' w'/\post m' L' e))):
 ∀ m L vs,aU args m vs->bT Δ m L->FnX P f vs m L post:=fun m L vs hv hL w hS=>by
 refine(callsIn_wide (n:=0)).1 (callsIn_of_wp_marks hf hb a2g ?_)
 refine(k w m _ m L _ w ⟨?_,rfl,fun t φ h=>?_⟩ hL hS)
 ·have:=a1H hle;have hl:=hv.length;simp [hN];omega
 ·obtain⟨_,h2⟩:=aAQ args 0 t φ h;simp only [Nat.sub_zero]at h2;obtain⟨c,h3,h4⟩:=hv.get h2;have hlt:=(a0K.1 h3).1;refine⟨c,?_,h4⟩;rw [a0c (by simpa using hlt)];simpa using h3
theorem aBW {f:FuncId} {fn:Func} {c:Code} {N:Nat} {args:List AJ} {Φ:AJ} {Δ':Value->List Tk} (hf:P.funcs[f]? =some fn) (hb:fn.body=some c) (hN:fn.ntmps=N) (hle:Nat.ble args.length N=true)
 (k:∀ β,T β N [] (nS args 0) Δ (c.wpIn (fw none) 0 P (bodyPostM (fw none) 0 P fn (gA β Φ Δ')))):FnS P f args Δ Φ Δ':=FnX_ofM hf hb hN hle fun w m fp=>k ⟨w,m,fp⟩
theorem aHi {m:Mem}:∀ (rbs:List Nat) {Δ:List Tk} {L:Ag},bT (rbs.map rF++Δ) m L->∃ R,L=rbs.map (fun rb=>(rb,Obj.deferred (some [])))++R/\bT Δ m R
 | [],_,L,h=>⟨L,rfl,h⟩
 | rb :: rbs,_,_,⟨H,R,e,h1,h2⟩=>by
  have h1:H=[(rb,Obj.deferred (some []))]:=h1;obtain⟨R',e2,h3⟩:=aHi rbs h2;exact⟨R',by rw [e,h1,e2];rfl,h3⟩
theorem T_leave {fn:Func} {R:Ending->World->Prop} (rbs:List Nat) {Δ':List Tk} (hds:ds=rbs.map SX.mark) (hΔ:Δ=rbs.map rF++Δ')
 (k:T β n [] Γ Δ' (fun a w=>∃ v,(results fn a.tmps).run P w= .ok v w/\R (.returned v) w)):T β n ds Γ Δ (fun a w=>LeavesInM (fw none) 0 P fn a.tmps R a.defers .returning w):=fun m L a w hF hL hS=>by
 subst hΔ
 obtain⟨B,rfl,hB⟩:=aHi rbs hL
 rw [hF.Aa,hds]
 let A:Ag:=rbs.map (fun rb=>(rb,Obj.deferred (some [])))
 have hnd:rbs.Nodup:=by
  have:=hS.nodup;rw [a1a,a1d]at this;have h2:=(a1q.1 this).1;have h3:(Prod.fst ∘ fun rb=>(rb,Obj.deferred (some [])))=(id:Nat->Nat):=rfl
  rwa [h3,List.map_id]at h2
 refine aE4 (β:=β) (m:=m) (A:=A) (L':=B) rbs _ w hS (fun rb hrb=>?_) hnd (by simp [A]) (by simp [A]) fun w' hS'=>?_
 ·obtain⟨j,hj⟩:=a1j.1 hrb;have hlt:=(a0K.1 hj).1;exact⟨j,by rw [a0E (by simpa using hlt)];simp [hj],by simpa [A] using hlt⟩
 ·exact k m B { a with defers:=[] } w' ⟨hF.size,rfl,hF.get⟩ hB hS'
theorem T_outM1 {fn:Func} {Φ:AJ} {Δ':List Tk} {t:Nat} (rbs:List Nat) (hr:fn.results=#[.tmp t]) (hv:hP Γ t Φ) (hds:ds=rbs.map SX.mark) (hd:Δ=rbs.map rF++Δ'):T β n ds Γ Δ (bodyPostM (fw none) 0 P fn (gA β Φ (fun _=>Δ')) .ret):=
 T_leave (P:=P) (fn:=fn) (R:=gA β Φ (fun _=>Δ')) rbs hds hd fun m L a w hF hL hS=>by
  obtain⟨ψ,h1,h2⟩:=hv;obtain⟨v,h3,h4⟩:=hF.get t ψ h1;exact⟨v,by simp [results,hr,a0b,h3,Sem.run,pure],m,L,hS,v,rfl,h2 m v h4,hL⟩
end
theorem aP.app:∀ {aa bs cs ds:List AJ},aP aa cs->aP bs ds->aP (aa++bs) (cs++ds)
 | [],_,_,_,h,k=>by cases h;exact k
 | a :: aa,_,_,_,⟨φ,φs,e,h1,h2⟩,k=>by subst e;exact⟨φ,φs++_,by simp,h1,aP.app h2 k⟩
open Go.SX
def FnD (P:Program) (f:FuncId) (args:List AJ) (Δ:List Tk) (u:FrameMode) (Δ':List Tk):Prop:=
 ∀ m L vs,aU args m vs->bT Δ m L->∀ w,St ⟨w,m,L.map Prod.fst⟩ m L w->CallsDIn (fw none) 0 P f vs.toArray u w fun e u' w'=>(∃ v,e= .returned v)/\settle u'= .returning/\∃ m' L',St ⟨w,m,L.map Prod.fst⟩ m' L' w'/\bT Δ' m' L'
def PostD (β:bI) (Δ':List Tk) (e:Ending) (u':FrameMode) (w':World):Prop:=(∃ v,e= .returned v)/\settle u'= .returning/\∃ m' L',St β m' L' w'/\bT Δ' m' L'
section
variable {P:Program} {β:bI} {n:Nat} {ds:List Deferred} {Γ:Ctx} {Δ R:List Tk} {r:Option Nat} {Q Q':Exit->Act->World->Prop} {F:Act->World->Prop} {ops:Array Oper} {o:Oper} {rest:List Oper}
theorem FnD_of {f:FuncId} {fn:Func} {c:Code} {N:Nat} {args:List AJ} {u:FrameMode} {Δ':List Tk} (hf:P.funcs[f]? =some fn) (hb:fn.body=some c) (hN:fn.ntmps=N) (hle:Nat.ble args.length N=true)
 (k:∀ β c₀ cs,c₀.mode=u->T β N [] (nS args 0) Δ (fun a w=>c.wpSIn (fw none) 0 P (bodyPostS P fn c₀ cs (PostD β Δ')) a (c₀ :: cs) w)):FnD P f args Δ u Δ':=fun m L vs hv hL w hS=>by
 refine callsDIn_of_wpSIn hf hb a2g fun c₀ cs hu=>?_
 refine k ⟨w,m,_⟩ c₀ cs hu m L _ w ⟨?_,rfl,fun t φ h=>?_⟩ hL hS
 ·have:=a1H hle;have hl:=hv.length;simp [hN];omega
 ·obtain⟨_,h2⟩:=aAQ args 0 t φ h;simp only [Nat.sub_zero]at h2;obtain⟨c,h3,h4⟩:=hv.get h2;have hlt:=(a0K.1 h3).1;refine⟨c,?_,h4⟩;rw [a0c (by simpa using hlt)];simpa using h3
theorem aHc {x:Code} {id d e:Nat} {o0 o1:Oper} {S:Exit->Act->List Frame->World->Prop} {cs cs':List Frame} {v:Value} (hr:(match recoverD cs with | some p=>p | none=>(.nilIface,cs))=(v,cs'))
 (h0:o0.op= .call { callee:= .builtin .recover,args:=#[],argTypes:=#[] }) (g0:o0.guard=none) (d0:o0.dst=some d) (h1:o1.op= .assign (.tmp d)) (g1:o1.guard=none) (d1:o1.dst=some e) (hn:Nat.ble (d+1) n=true/\Nat.ble (e+1) n=true)
 (k:T β n ds ((e,fEq v) :: (d,fEq v) :: Γ) Δ (fun a w=>x.wpSIn (fw none) 0 P S a cs' w)):T β n ds Γ Δ (fun a w=>(Code.seq (.region id #[o0,o1] false) x).wpSIn (fw none) 0 P S a cs w):=fun m L a w hF hL hS=>by
 refine wpSIn_seq (wpSIn_region ?_)
 have hF1:FT n ds ((d,fEq v) :: Γ) m (a.put (some d) v):=hF.put (a1H hn.1) rfl
 have hF2:FT n ds ((e,fEq v) :: (d,fEq v) :: Γ) m ((a.put (some d) v).put (some e) v):=hF1.put (a1H hn.2) rfl
 have he0:∀ w,(execOp a.eval o0).run P w= .ok .recover w:=fun w=>by simp [execOp,h0,resolve,invoke,builtin,a1Y,Sem.run,pure]
 have hev:(a.put (some d) v).eval (.tmp d)=v:=hF1.eval (x:= .tmp d) (ψ:=fEq v) (by simp [evT,lk])
 have he1:∀ w,(execOp (a.put (some d) v).eval o1).run P w= .ok (.value v) w:=fun w=>by simp [execOp,h1,hev,Sem.run,pure]
 have hl:List.range (#[o0,o1]:Array Oper).size=[0,1]:=rfl
 have i0:(#[o0,o1]:Array Oper)[0]? =some o0:=rfl
 have i1:(#[o0,o1]:Array Oper)[1]? =some o1:=rfl
 have w0:Region.wanted o0 (yielded #[o0,o1] a.tmps)=true:=by simp [Region.wanted,g0]
 have w1:Region.wanted o1 (yielded #[o0,o1] (a.put (some d) v).tmps)=true:=by simp [Region.wanted,g1]
 have hfin:wpOpsSIn (fw none) 0 P #[o0,o1] (Exit.thenS (x.wpSIn (fw none) 0 P S) S) [1] (a.put o0.dst v) cs' w:=by
  rw [d0];simp only [wpOpsSIn,i1,w1,if_true,he1];rw [d1];exact⟨fun _ _=>trivial,k m L _ w hF2 hL hS⟩
 rw [hl,wpOpsSIn]
 simp only [i0,w0,if_true,he0]
 refine⟨fun _ _=>a2g,?_⟩
 cases hrec:recoverD cs with
 | none=>rw [hrec]at hr;cases hr;exact hfin
 | some p=>rw [hrec]at hr;obtain⟨v',cs''⟩:=p;cases hr;exact hfin
theorem T_inS {x:Code} {S:Exit->Act->List Frame->World->Prop} {cs:List Frame} (k:T β n ds Γ Δ (x.wpIn (fw none) 0 P (fun e a w=>S e a cs w))):T β n ds Γ Δ (fun a w=>x.wpSIn (fw none) 0 P S a cs w):=
 k.mono fun _ _ h=>wpSIn_of_wpIn rfl h
theorem T_endD {fn:Func} {c₀:Frame} {cs cs':List Frame} {u':FrameMode} {Δ':List Tk} {e:Exit} (he:e= .ret\/e= .normal) (hr:fn.results=#[]) (hc:cs'={ c₀ with mode:=u' } :: cs) (hu:settle u'= .returning) (hd:Δ=Δ'):
 T β n [] Γ Δ (fun a w=>bodyPostS P fn c₀ cs (PostD β Δ') e a cs' w):=fun m L a w hF hL hS=>by
 subst hd
 have:a.defers=[]/\∃ u',cs'={ c₀ with mode:=u' } :: cs/\∃ v,(results fn a.tmps).run P w= .ok v w/\PostD β Δ (.returned v) u' w:=
  ⟨hF.Aa,u',hc, .tuple #[],by simp [results,hr,Sem.run,pure],⟨_,rfl⟩,hu,m,L,hS,hL⟩
 rcases he with rfl | rfl <;> exact this
theorem aDq {g:FuncId} {args:List Operand} {ts:Array TypeId} {vs:List Value} (hw:cI ops Γ o) (ho:o.op= .defer { callee:= .value (.func g),args:=args.toArray,argTypes:=ts }) (hd:o.dst=none) (ha:gX Γ args vs)
 (k:T β n ({ target:= .fn (.func g) #[],args:=vs.toArray } :: ds) Γ Δ (wpListIn (fw none) 0 P ops Q rest)):T β n ds Γ Δ (wpListIn (fw none) 0 P ops Q (o :: rest)):=fun m L a w hF hL hS=>by
 have hx:args.map a.eval=vs:=ha.eval (hF.evs o) (by rw [ho];intro x hx;simp [Op.operands,Call.operands,hx])
 simp only [wpListIn,hw.wanted hF,if_true]
 refine⟨fun _ _=>a2g,?_⟩
 have h3:o.semAt (fw none).round a.eval=execOp a.eval o:=Oper.semAt_none _ _
 have hrun:(execOp a.eval o).run P w= .ok (.defer { target:= .fn (.func g) #[],args:=vs.toArray }) w:=by
  have h4:args.toArray.map a.eval=(args.map a.eval).toArray:=by simp
  simp [execOp,ho,resolve,Act.eval,Deferred.ofValue,a1Y,Sem.run,pure];rw [<- hx]
 rw [h3,hrun,Oper.uponIn_defer,hd]
 exact k m L _ w ⟨hF.size,by simp [Act.put,hF.Aa],hF.get⟩ hL hS
theorem vT {fn:Func} {g b c t:Nat} {T':TypeId} {φ ψ ψ':AJ} {u:FrameMode} (hu:u≠ .run) (hr:fn.results=#[.tmp t, .cell c T']) (hv:hP Γ t φ) (hc:lk Γ c=some (fEq (ptr b))) (hT:Scal P T') (hg:Ar P g)
 (hD:FnD P g [fEq (ptr b)] [aA b T' [ψ]] u [aA b T' [ψ']]) (hds:ds=[{ target:= .fn (.func g) #[],args:=#[ptr b] }]) (hΔ:Δ=[aA b T' [ψ]]):
 T β n ds Γ Δ (fun a w=>LeavesInM (fw none) 0 P fn a.tmps (gA β (dF [φ,ψ']) (fun _=>[])) a.defers u w):=fun m L a w hF hL hS=>by
 subst hΔ
 rw [hF.Aa,hds]
 refine⟨hu, .inr ⟨(fun h=>by cases h), .func g,#[],g,#[ptr b],rfl,?_,fun _ _=>a2g,?_⟩⟩
 ·have:=run_callFunc hg (#[ptr b]) w;simpa [invoke] using this
 ·have hS0:St β m (L++[]) w:=by rw [a0v];exact hS
  have hcall:=hD m L [ptr b] ⟨_,[],rfl,rfl,rfl⟩ hL w hS0.start;refine⟨a2g,fun c₀ cs hm hroom=>?_⟩
  obtain⟨_,hcall⟩:=hcall;obtain⟨e,u',w',fr,⟨⟨v,he⟩,hset,m',L',hS',hL'⟩,h2⟩:=hcall c₀ cs hm hroom;subst he;refine⟨_,u',w',fr,?_,h2⟩;simp only [hset];have hb:=back hS0 hS';rw [a0v]at hb;have hF':=hF.mono hS'.mle;obtain⟨χ,h3,h4⟩:=hv;obtain⟨v0,h5,h6⟩:=hF'.get t χ h3;obtain⟨v1,h7,h8⟩:=hF'.get c _ hc;have h8:v1=ptr b:=h8;subst h8;obtain⟨cs',h9,h10⟩:=aCu hL' hb;obtain⟨x,cr,e1,e2,e3⟩:=h9;have e3:cr=[]:=e3;subst e1 e3;have hcell:=h10 0 x rfl;have hload:(loadVar T' ⟨b,0,none⟩).run P w'= .ok x w':=by simp [loadVar,a1Y,aFc hT,Sem.run,pure,hcell]
  refine⟨.tuple #[v0,x],?_,m',[],?_,_,rfl,⟨[v0,x],rfl,v0,[x],rfl,h4 m' v0 h6,x,[],rfl,e2,rfl⟩,rfl⟩
  ·simp [results,hr,a0b,h5,h7,a1Y,Sem.run,pure,ptr,asAddr,hload]
  ·exact hb.drop (List.nil_sublist _)
theorem aCg {fn:Func} {Φ:AJ} {Δ':Value->List Tk} (k:T β n ds Γ Δ (fun a w=>LeavesInM (fw none) 0 P fn a.tmps (gA β Φ Δ') a.defers .returning w)):T β n ds Γ Δ (bodyPostM (fw none) 0 P fn (gA β Φ Δ') .ret):=k
theorem aD8 {fn:Func} {Φ:AJ} {Δ':Value->List Tk} {c:List PanicEntry} (k:T β n ds Γ Δ (fun a w=>LeavesInM (fw none) 0 P fn a.tmps (gA β Φ Δ') a.defers (.panicking c) w)):T β n ds Γ Δ (bodyPostM (fw none) 0 P fn (gA β Φ Δ') (.panic c)):=k
theorem aLc {S T':TypeId} {x:Operand} {v:Value} (ho:o.op= .typeAssert x S T' true) (hx:Has Γ x (fEq (.iface T' v))) (hT:niB P T'=true) {z:Value} (hz:cS P T'=some z):OpT P Γ [] o (dF [fEq v,aK true]):=
 tO ho hx hT hz (by simp [eA])
def unI (T:TypeId):Value->Option Int
 | .iface t (.agg vs)=>if t=T then(match vs.toList with | [.int .i64 e]=>some e | _=>none) else none
 | _=>none
theorem aDb {T:TypeId} {v:Value} {e:Int} (h:unI T v=some e):v= .iface T (.agg #[.int .i64 e]):=by
 unfold unI at h
 split at h
 ·rename_i t vs;split at h
  ·subst_vars
   split at h
   ·rename_i e' hv;cases h;have:vs=#[.int .i64 e]:=by rw [<- a0i (xs:=vs),hv]
    rw [this]
   ·cases h
  ·cases h
 ·cases h
def MethAt (P:Program) (T:TypeId) (u:Value) (name:String) (f:FuncId):Prop:=∀ w,(method (P.types.size+Made.depth) T u name).run P w= .ok (f,u) w
def Inv (P:Program) (v:Value) (name:String) (φs:List AJ) (Φ:AJ):Prop:=∃ t u f,v= .iface t u/\MethAt P t u name f/\Ar P f/\FnS P f (fEq u :: φs) [] Φ (fun _=>[])
theorem FnS.args {f:FuncId} {φs ψs:List AJ} {Φ:AJ} {Δ':Value->List Tk} (h:FnS P f φs Δ Φ Δ') (k:aP ψs φs):FnS P f ψs Δ Φ Δ':=fun m L vs hv hL=>h m L vs (k.all hv) hL
theorem wp_callI {x:Operand} {name:String} {args:List Operand} {ts:Array TypeId} {t:TypeId} {u:Value} {f:FuncId} {vs:List Value} {post:Mem->Ag->Ending->Prop} {m:Mem} {L R:Ag} {a:Act} {w:World} {K:Act->World->Prop}
 (ho:o.op= .call { callee:= .invoke x name,args:=args.toArray,argTypes:=ts }) (hx:a.eval x= .iface t u) (hm:MethAt P t u name f) (hall:u :: args.map a.eval=vs) (hf:Ar P f) (hc:FnX P f vs m L post) (hS:St β m (L++R) w)
 (kret:∀ m' L' v w',Mem.le m m'->post m' L' (.returned v)->St β m' (L'++R) w'->K (a.put o.dst v) w')
 (kpan:∀ m' L' c w',Mem.le m m'->post m' L' (.panicked c)->St β m' (L'++R) w'->Q (.panic c) a w') (kout:∀ m' L',post m' L' .outgrown->False):o.wpIn (fw r) 0 P a w K Q:=by
 have hnd:gT o.op=false:=by rw [ho];rfl
 have h3:o.semAt (fw r).round a.eval=execOp a.eval o:=Oper.semAt_eq _ _ _ fun c hc=>by rw [hc]at hnd;cases hnd
 refine⟨fun _ _=>a2g,?_⟩
 have hrun:(execOp a.eval o).run P w= .ok (.enter f vs.toArray) w:=by
  have h4:args.toArray.map a.eval=(args.map a.eval).toArray:=by simp
  have h5:(#[u]++(args.map a.eval).toArray)=vs.toArray:=by rw [<- hall];simp
  have h6:(#[a.eval x]++args.toArray.map a.eval).extract 1 (#[a.eval x]++args.toArray.map a.eval).size=(args.map a.eval).toArray:=by
   apply Array.ext';simp [a1z]
  have h7:(#[a.eval x]++args.toArray.map a.eval)[0]? =some (a.eval x):=by simp
  have h8:(callMethod (.iface t u) name (args.map a.eval).toArray).run P w= .ok (.enter f vs.toArray) w:=by
   simp only [callMethod,a1Y,run_program,a1X,hm w,h5,run_callFunc hf]
  simp only [execOp,ho,resolve,a1Y];show((invoke (.fn (.method name) #[]) (#[a.eval x]++args.toArray.map a.eval)).run P w)=_
  rw [hx]at h6 h7;simp only [invoke];rw [hx,h7];simp only
  rw [h6];exact h8
 rw [h3,hrun,Oper.uponIn_enter]
 refine⟨(fun h=>by cases h),aDZ ((hc w hS.start).mono fun e w' ⟨m',L',hS',hp⟩=>?_)⟩
 have hb:=back hS hS'
 cases e with
 | returned v=>exact kret m' L' v w' hS'.mle hp hb
 | panicked c=>exact kpan m' L' c w' hS'.mle hp hb
 | outgrown=>exact(kout m' L' hp).elim
variable {l:List NO} {e:Env'} {i:Nat} {od:Env'->OD} {G:Env'->Cf->(Nat->Tk)->Prop}
theorem N_callI {x:Operand} {name:String} {args:List Operand} {ts:Array TypeId} {v:Value} {φs:List AJ} {Φ:AJ} {d:Nat} {Δ':Oc->List Tk} (hod:od e= .op [] true (fun _=>Φ) Δ') (hτ:∀ b,Δ' b=[]) (hw:cI ops Γ o) (ho:o.op= .call { callee:= .invoke x name,args:=args.toArray,argTypes:=ts }) (hd:o.dst=some d)
 (hx:Has Γ x (fEq v)) (hargs:aN Γ args φs) (hi:Inv P v name φs Φ)
 (k:∀ b,NC P r ops G l (e.set i b) (lk ((d,Φ) :: Γ)) (dOf Δ)):NC P r ops G ((i,o,od) :: l) e (lk Γ) (dOf Δ):=by
 refine⟨?_,fun b=>?_⟩
 ·simp only [hod];refine⟨hw,?_,fun b=>by rw [hτ];rfl⟩
  intro β n ds m L R a w K Q hF hL hS hk;have hL0:L=[]:=hL;subst hL0;have he:=oT hF;obtain⟨t,u,f,hv,hm,hf,hc⟩:=hi;subst hv;have hxx:=he.get hx (by rw [ho];simp [Op.operands,Call.operands])
  refine wp_callI (L:=[]) ho hxx hm rfl hf (hc m [] _ ⟨_,_,rfl,rfl,hargs.all' he (by rw [ho];intro x hx;simp [Op.operands,Call.operands,hx])⟩ rfl) hS (fun m' L' v w' hle ⟨u,hv,h3,h4⟩ hS'=>?_) (fun m' L' c w' _ ⟨u,hv,_⟩ _=>by cases hv) (fun m' L' ⟨u,hv,_⟩=>by cases hv)
  cases hv;have h4:L'=[]:=h4;subst h4;exact hk default m' [] v w' hle h3 (by simp only [OD.wr,if_true];rw [hτ];rfl) hS'
 ·simp only [hod,fW,fH,if_true,hd,hτ];rw [aDw];exact k b
end
open Go.SX
section
variable {P:Program} {β:bI} {n:Nat} {ds:List Deferred} {Γ:Ctx} {Δ R:List Tk} {r:Option Nat} {Q Q':Exit->Act->World->Prop} {F:Act->World->Prop} {ops:Array Oper} {o:Oper} {rest:List Oper}
variable {κ α:Type} {kd:Key κ} {vf:α->AJ} {g g1:aL κ α}
theorem aL.ext' {a b:aL κ α} (h:a.get=b.get) (k:a.size=b.size):a=b:=by
 cases a;cases b;simp at h k;simp [h,k]
structure aC8 (kd:Key κ) (vf:α->AJ) (g g1:aL κ α) (m:Mem) (es:Array MapEntry) (clock since:Nat) (AZ:Array Nat) (c0:Nat):Prop where
 is:jA kd vf g m es clock
 old:∀ e∈es.toList,e.born<since
 sc:since<=c0
 cl:since<=clock
 part:∀ e∈es.toList,∀ k,e.key=kd.val k->g1.get k=if e.born∈AZ.toList then g.get k else none
 none:∀ k,g.get k=none->g1.get k=none
 size:g1.size=es.toList.countP (fun e=>decide (e.born∈AZ.toList))
theorem aC8.mono {m m':Mem} {es:Array MapEntry} {clock since:Nat} {AZ:Array Nat} {c0:Nat} (hle:Mem.le m m') (h:aC8 kd vf g g1 m es clock since AZ c0):aC8 kd vf g g1 m' es clock since AZ c0:=
 ⟨h.is.mono hle,h.old,h.sc,h.cl,h.part,h.none,h.size⟩
end
open Go.SX
inductive OF where
 | pure (φ:AJ)
 | own (f:Value->Tk) (h:∀ v m H,(f v).p m H->dR v)
def OF.tk:OF->Value->Tk
 | .pure φ,v=>⟨fun m H=>H=[]/\φ.p m v/\dR v,fun h ⟨h1,h2,h3⟩=>⟨h1,φ.mono h h2,h3⟩⟩
 | .own f _,v=>f v
theorem OF.cell {f:OF} {v:Value} {m:Mem} {H:Ag} (h:(f.tk v).p m H):dR v:=by
 cases f with
 | pure φ=>exact h.2.2
 | own f hf=>exact hf v m H h
def fV:List OF->Mem->List Value->Ag->Prop
 | [],_,cs,H=>cs=[]/\H=[]
 | f :: fs,m,cs,H=>∃ c r H1 H2,cs=c :: r/\H=H1++H2/\(f.tk c).p m H1/\fV fs m r H2
theorem fV.mono {m m':Mem} (h:Mem.le m m'):∀ {fs:List OF} {cs:List Value} {H:Ag},fV fs m cs H->fV fs m' cs H
 | [],_,_,k=>k
 | _ :: _,_,_,⟨c,r,H1,H2,e1,e2,h1,h2⟩=>⟨c,r,H1,H2,e1,e2,Tk.mono _ h h1,h2.mono h⟩
theorem fV.length {m:Mem}:∀ {fs:List OF} {cs:List Value} {H:Ag},fV fs m cs H->cs.length=fs.length
 | [],_,_,⟨h,_⟩=>by rw [h];rfl
 | _ :: _,_,_,⟨c,r,H1,H2,e1,_,_,h2⟩=>by rw [e1];simp [h2.length]
theorem fV.cells {m:Mem}:∀ {fs:List OF} {cs:List Value} {H:Ag},fV fs m cs H->∀ c∈cs,dR c
 | [],_,_,⟨h,_⟩=>by rw [h];simp
 | _ :: _,_,_,⟨c,r,H1,H2,e1,_,h1,h2⟩=>by
  rw [e1];intro x hx
  cases hx with
  | head=>exact OF.cell h1
  | tail _ hx=>exact h2.cells x hx
theorem fV.append {m:Mem}:∀ {fs gs:List OF} {cs ds:List Value} {H K:Ag},fV fs m cs H->fV gs m ds K->fV (fs++gs) m (cs++ds) (H++K)
 | [],_,_,_,_,_,⟨h,h'⟩,k=>by rw [h,h'];exact k
 | _ :: _,_,_,_,_,_,⟨c,r,H1,H2,e1,e2,h1,h2⟩,k=>⟨c,r++_,H1,H2++_,by rw [e1];rfl,by rw [e2,a0u],h1,h2.append k⟩
theorem fV.at {m:Mem}:∀ {fs:List OF} {cs:List Value} {H:Ag} {p:Nat} {f:OF},fV fs m cs H->fs[p]? =some f->∃ c A K B,cs[p]? =some c/\H=A++(K++B)/\(f.tk c).p m K /\
 ∀ m' f' c' K',Mem.le m m'->(f'.tk c').p m' K'->fV (fs.set p f') m' (cs.set p c') (A++(K'++B))
 | [],_,_,p,f,_,hp=>by simp at hp
 | g :: fs,_,_,0,f,⟨c,r,H1,H2,e1,e2,h1,h2⟩,hp=>by
  have:g=f:=by simpa using hp
  subst this;exact⟨c,[],H1,H2,by rw [e1];rfl,by rw [e2];rfl,h1,fun m' f' c' K' hle hk=>⟨c',r,K',H2,by rw [e1];rfl,rfl,hk,h2.mono hle⟩⟩
 | g :: fs,_,_,p+1,f,⟨c,r,H1,H2,e1,e2,h1,h2⟩,hp=>by
  obtain⟨c0,A,K,B,h3,h4,h5,h6⟩:=fV.at h2 (by simpa using hp)
  exact⟨c0,H1++A,K,B,by rw [e1];simpa using h3,by rw [e2,h4,a0u],h5,fun m' f' c' K' hle hk=>⟨c,r.set p c',H1,A++(K'++B),by rw [e1];rfl,by rw [a0u],Tk.mono _ hle h1,h6 m' f' c' K' hle hk⟩⟩
structure OTy (α:Type) where
 sz:Nat
 An:α->List OF
 len:∀ x,(An x).length=sz
section
variable {P:Program} {β:bI} {n:Nat} {ds:List Deferred} {Γ:Ctx} {Δ R:List Tk} {r:Option Nat} {Q Q':Exit->Act->World->Prop} {F:Act->World->Prop} {ops:Array Oper} {o:Oper} {rest:List Oper}
theorem aA8 {α:Type} {t:Ty α} {z:α} {zs:List α} {T e by':Nat} {x:Operand} {kd:IntKind} {k:Int} {zv:Value} (ho:o.op= .makeSlice T x x) (hx:Has Γ x (aX kd k)) (hT:ElT P T e t.sz by') (hb:Nat.ble by' 1000=true) (hz:SX.Zero P e zv) (hzz:aP (zv.cells.toList.map fEq) (t.An z)) (h:mk z k=some zs):
 OpN P Γ o (fun b=> .slice (some ⟨b,0,none⟩) zs.length zs.length) (fun b=>aC (.slice (some ⟨b,0,none⟩) zs.length zs.length) e t zs):=
 ⟨by rw [ho];rfl,fun β m a w he _=>by
  obtain⟨ht,i,z',hi,h1,h2,hz',hzs⟩:=hT.spell;have hb:=a1H hb;have:z'=zv:=by
   unfold SX.Zero cS at hz;rw [hi]at hz;simp only [Option.bind_some]at hz;rw [hz']at hz;exact a1V hz
  subst this;unfold mk at h;split at h
  ·rename_i hk;cases h;obtain⟨j,rfl⟩:∃ j:Nat,k=(j:Int):=⟨k.toNat,by omega⟩
   have hj:j<=1000000000:=by omega
   have hx:a.eval x=_:=he.get hx (by rw [ho];simp [Op.operands])
   have hr:=run_make (P:=P) w T e i z' ht hi hz' kd kd j j (by omega) (by omega) (by
    rw [h2];have:by'*j<=1000*1000000000:=Nat.mul_le_mul hb hj
    have h5:((by'*j:Nat):Int)<=1000000000000:=by omega
    rw [Int.natCast_mul]at h5;omega) (by omega)
   simp only [a0r]at hr ⊢;rw [h1]at hr;refine⟨.cells (madeCells z'.cells (j*t.sz)) e,?_,?_⟩
   ·simp [execOp,ho,hx,a1Y,hr,Sem.run,pure]
   ·have hmade:=aD6 (m:=m) (hzz.all (iY z'.cells.toList)) j;rw [<- aDc]at hmade;have hzl:z'.cells.toList.length=t.sz:=by simpa using hzs
    rw [hzl]at hmade;simp only [a0i]at hmade;have hl:=hmade.length;rw [nW]at hl;refine⟨_,⟨hl, .inr ⟨_,_,j,by simp,rfl,by simp [size_madeCells],by simp,by rw [a1y]⟩⟩,by simpa using hj,hmade⟩
  ·cases h⟩
def iS:List OF->List AJ->Prop
 | [],φs=>φs=[]
 | f :: fs,φs=>∃ φ r,φs=φ :: r/\(∀ v,Frz (f.tk v) φ v)/\iS fs r
theorem iS.nil:iS [] []:=by simp [iS]
theorem iS.cons {f:OF} {φ:AJ} {fs:List OF} {φs:List AJ} (h:∀ v,Frz (f.tk v) φ v) (k:iS fs φs):iS (f :: fs) (φ :: φs):=⟨φ,φs,by simp,h,k⟩
theorem iS.append:∀ {fs gs:List OF} {φs ψs:List AJ},iS fs φs->iS gs ψs->iS (fs++gs) (φs++ψs)
 | [],_,_,_,h,k=>by cases h;exact k
 | _ :: _,_,_,_,⟨φ,r,e,h1,h2⟩,k=>⟨φ,r++_,by rw [e];rfl,h1,h2.append k⟩
theorem iS.all {m m':Mem} (hle:Mem.le m m'):∀ {fs:List OF} {φs:List AJ} {cs:List Value} {H:Ag},iS fs φs->fV fs m cs H->(∀ x∈H,m' x.1=some x.2)->aU φs m' cs
 | [],_,_,_,h,⟨k,_⟩,_=>by cases h;rw [k];rfl
 | _ :: _,_,_,_,⟨φ,r,e,h1,h2⟩,⟨c,s,H1,H2,e1,e2,h3,h4⟩,hm=>by
  subst e e1 e2;exact⟨c,s,rfl,h1 c m H1 h3 m' hle (fun x hx=>hm x (a1g _ hx)),iS.all hle h2 h4 fun x hx=>hm x (a1h _ hx)⟩
def IndF (φ:AJ):Prop:=∀ m m' v,φ.p m v->φ.p m' v
def IndK (τ:Tk):Prop:=∀ m m' H,τ.p m H->τ.p m' H
def IndL (fs:List OF):Prop:=∀ f∈fs,∀ v,IndK (f.tk v)
theorem IndL.nil:IndL []:=fun _ h=>by cases h
theorem IndL.cons {f:OF} {fs:List OF} (h:∀ v,IndK (f.tk v)) (k:IndL fs):IndL (f :: fs):=fun g hg=>by
 cases hg with
 | head=>exact h
 | tail _ hg=>exact k g hg
theorem fV.ind {m m':Mem}:∀ {fs:List OF} {cs:List Value} {H:Ag},IndL fs->fV fs m cs H->fV fs m' cs H
 | [],_,_,_,k=>k
 | _ :: _,_,_,h,⟨c,r,H1,H2,e1,e2,h1,h2⟩=>⟨c,r,H1,H2,e1,e2,h _ (.head _) c m m' H1 h1,h2.ind fun g hg=>h g (.tail _ hg)⟩
theorem aU.ind {m m':Mem}:∀ {φs:List AJ} {cs:List Value},(∀ φ∈φs,IndF φ)->aU φs m cs->aU φs m' cs
 | [],_,_,k=>k
 | φ :: _,_,h,⟨c,r,e,h1,h2⟩=>⟨c,r,e,h φ (.head _) m m' c h1,aU.ind (fun ψ hψ=>h ψ (.tail _ hψ)) h2⟩
end
open Go.SX
open Classical in
def aBh (Λ:List (Value × AJ)) (m:Mem):Prop:=∀ p∈Λ,p.2.p m p.1
def FrzT (Δ:List Tk) (Λ:List (Value × AJ)):Prop:=∀ m L,bT Δ m L->∀ m',Mem.le m m'->(∀ x∈L,m' x.1=some x.2)->aBh Λ m'
theorem FrzT.nil:FrzT [] []:=fun _ _ _ _ _ _ _ h=>by cases h
theorem FrzT.cons {τ:Tk} {φ:AJ} {v:Value} {Δ:List Tk} {Λ:List (Value × AJ)} (h:Frz τ φ v) (k:FrzT Δ Λ):FrzT (τ :: Δ) ((v,φ) :: Λ):=fun m L ⟨H,R,e,h1,h2⟩ m' hle hm p hp=>by
 subst e
 cases hp with
 | head=>exact h m H h1 m' hle fun x hx=>hm x (a1g _ hx)
 | tail _ hp=>exact k m R h2 m' hle (fun x hx=>hm x (a1h _ hx)) p hp
def EntW (Λ:List (Value × AJ)) (ψ φ:AJ):Prop:=∀ m u,aBh Λ m->ψ.p m u->φ.p m u
def lQ (Λ:List (Value × AJ)):List AJ->List AJ->Prop
 | [],φs=>φs=[]
 | ψ :: ψs,φs=>∃ φ r,φs=φ :: r/\EntW Λ ψ φ/\lQ Λ ψs r
theorem lQ.nil {Λ:List (Value × AJ)}:lQ Λ [] []:=by simp [lQ]
theorem lQ.cons {Λ:List (Value × AJ)} {ψ φ:AJ} {ψs φs:List AJ} (h:EntW Λ ψ φ) (k:lQ Λ ψs φs):lQ Λ (ψ :: ψs) (φ :: φs):=⟨φ,φs,by simp,h,k⟩
theorem lQ.all {Λ:List (Value × AJ)} {m:Mem} (hl:aBh Λ m):∀ {ψs φs:List AJ} {cs:List Value},lQ Λ ψs φs->aU ψs m cs->aU φs m cs
 | [],_,_,h,k=>by rw [h];exact k
 | _ :: _,_,_,⟨φ,r,e,h1,h2⟩,⟨c,s,e2,h3,h4⟩=>by rw [e];exact⟨c,s,e2,h1 m c hl h3,lQ.all hl h2 h4⟩
def HasW (Γ:Ctx) (Λ:List (Value × AJ)):List Operand->List AJ->Prop
 | [],φs=>φs=[]
 | x :: xs,φs=>∃ φ r ψ,φs=φ :: r/\evT Γ x=some ψ/\EntW Λ ψ φ/\HasW Γ Λ xs r
theorem HasW.nil {Γ:Ctx} {Λ:List (Value × AJ)}:HasW Γ Λ [] []:=by simp [HasW]
theorem HasW.cons {Γ:Ctx} {Λ:List (Value × AJ)} {x:Operand} {φ ψ:AJ} {xs:List Operand} {φs:List AJ} (h:evT Γ x=some ψ) (h2:EntW Λ ψ φ) (k:HasW Γ Λ xs φs):HasW Γ Λ (x :: xs) (φ :: φs):=⟨φ,φs,ψ,by simp,h,h2,k⟩
theorem HasW.all {n:Nat} {ds:List Deferred} {Γ:Ctx} {Λ:List (Value × AJ)} {m m':Mem} {a:Act} (hF:FT n ds Γ m a) (hle:Mem.le m m') (hl:aBh Λ m'):∀ {xs:List Operand} {φs:List AJ},HasW Γ Λ xs φs->aU φs m' (xs.map a.eval)
 | [],_,h=>by rw [h];rfl
 | x :: xs,_,⟨φ,r,ψ,e,h1,h2,h3⟩=>by rw [e];exact⟨_,_,rfl,h2 m' _ hl (ψ.mono hle (hF.eval h1)),HasW.all hF hle hl h3⟩
theorem bT.ind {m m':Mem}:∀ {Δ:List Tk} {L:Ag},(∀ τ∈Δ,IndK τ)->bT Δ m L->bT Δ m' L
 | [],_,_,h=>h
 | τ :: Δ,_,h,⟨H,R,e,h1,h2⟩=>⟨H,R,e,h τ (.head _) m m' H h1,bT.ind (fun σ hσ=>h σ (.tail _ hσ)) h2⟩
section
variable {P:Program} {β:bI} {n:Nat} {ds:List Deferred} {Γ:Ctx} {Δ R:List Tk} {r:Option Nat} {Q Q':Exit->Act->World->Prop} {F:Act->World->Prop} {ops:Array Oper} {o:Oper} {rest:List Oper}
def kG:List OF->List AJ->List Tk->Prop
 | [],φs,Δ=>φs=[]/\Δ=[]
 | .pure ψ :: fs,φs,Δ=>∃ φ r,φs=φ :: r/\Ent φ ψ/\eH ψ/\kG fs r Δ
 | .own f _ :: fs,φs,Δ=>∃ u r Δ',φs=fEq u :: r/\Δ=f u :: Δ'/\kG fs r Δ'
theorem kG.nil:kG [] [] []:=⟨rfl,rfl⟩
theorem kG.pure {φ ψ:AJ} {fs:List OF} {φs:List AJ} {Δ:List Tk} (h:Ent φ ψ) (hl:eH ψ) (k:kG fs φs Δ):kG (.pure ψ :: fs) (φ :: φs) Δ:=⟨φ,φs,rfl,h,hl,k⟩
theorem kG.own {f:Value->Tk} {hf:∀ v m H,(f v).p m H->dR v} {u:Value} {fs:List OF} {φs:List AJ} {Δ:List Tk} (k:kG fs φs Δ):kG (.own f hf :: fs) (fEq u :: φs) (f u :: Δ):=⟨u,φs,Δ,rfl,rfl,k⟩
theorem kG.all {m:Mem}:∀ {fs:List OF} {φs:List AJ} {Δ:List Tk} {cs:List Value} {L:Ag},kG fs φs Δ->aU φs m cs->bT Δ m L->fV fs m cs L
 | [],_,_,_,_,⟨e1,e2⟩,h1,h2=>by subst e1 e2;exact⟨h1,h2⟩
 | .pure ψ :: fs,_,_,_,_,⟨φ,r,e1,he,hl,hk⟩,h1,h2=>by
  subst e1;obtain⟨c,s,e3,h3,h4⟩:=h1;exact⟨c,s,[],_,e3,rfl,⟨rfl,he m c h3,hl m c (he m c h3)⟩,hk.all h4 h2⟩
 | .own f _ :: fs,_,_,_,_,⟨u,r,Δ',e1,e2,hk⟩,h1,h2=>by
  subst e1 e2;obtain⟨c,s,e3,h3,h4⟩:=h1;obtain⟨H,R,e4,h5,h6⟩:=h2;have h3:c=u:=h3;subst h3;exact⟨c,s,H,R,e3,e4,h5,hk.all h4 h6⟩
variable {l:List NO} {e:Env'} {i:Nat} {od:Env'->OD} {G:Env'->Cf->(Nat->Tk)->Prop}
end
open Go.SX
theorem FnS.frz {P:Program} {f:FuncId} {args:List AJ} {Δ:List Tk} {τ:Value->Tk} {φ:AJ} (h:FnS P f args Δ dX (fun v=>[τ v])) (hf:∀ v,Frz (τ v) φ v):FnS P f args Δ φ (fun _=>[]):=fun m L vs hv hL w hS=>by
 refine(h m L vs hv hL w hS).mono fun e w' ⟨m',L',hS',v,he,_,hT⟩=>?_
 obtain⟨H,R,e1,h1,h2⟩:=hT
 have h2:R=[]:=h2
 subst h2 e1
 obtain⟨m'',h3,h4,h5⟩:=xU hS'
 exact⟨m'',[],h4,v,he,hf v m' H h1 m'' h3 h5,rfl⟩
open Go.SX
def fOpt {α:Type} (t:Ty α) (x:Option α):AJ:=⟨fun m v=>(x=none/\v= .pointer none)\/∃ y,x=some y/\(aG t y).p m v,fun h k=>k.imp id fun ⟨y,e,z⟩=>⟨y,e,(aG t y).mono h z⟩⟩
theorem ent_optS {α:Type} {t:Ty α} {y:α}:Ent (aG t y) (fOpt t (some y)):=fun _ _ h=> .inr ⟨y,rfl,h⟩
theorem rR {α:Type} {t:Ty α}:Ent (fEq (.pointer none)) (fOpt t none):=fun _ _ h=> .inl ⟨rfl,h⟩
theorem rG {α:Type} {t:Ty α} {x:Option α} {y:α} (h:x=some y):Ent (fOpt t x) (aG t y):=fun m v k=>by
 rcases k with⟨e,_⟩ | ⟨z,e,hz⟩
 ·rw [h]at e;cases e
 ·rw [h]at e;cases e;exact hz
section
variable {P:Program} {Γ:Ctx} {o:Oper}
theorem o_addW {T U:TypeId} {x y:Operand} {k:IntKind} {i j:Int} (ho:o.op= .binOp .add T x y U) (hx:Has Γ x (aX k i)) (hy:Has Γ y (aX k j)):OpT P Γ [] o (aX k (k.wrap (i+j))):=
 gO ho hx hy jS fun w=>by simp [binOp,Op.intArith,Sem.run,pure]
theorem o_mulW {T U:TypeId} {x y:Operand} {k:IntKind} {i j:Int} (ho:o.op= .binOp .mul T x y U) (hx:Has Γ x (aX k i)) (hy:Has Γ y (aX k j)):OpT P Γ [] o (aX k (k.wrap (i*j))):=
 gO ho hx hy jS fun w=>by simp [binOp,Op.intArith,Sem.run,pure]
def andI (k:IntKind) (x y:Int):Int:=k.wrap (BitVec.ofInt k.bits x &&& BitVec.ofInt k.bits y).toNat
theorem o_and {T U:TypeId} {x y:Operand} {k:IntKind} {i j:Int} (ho:o.op= .binOp .and T x y U) (hx:Has Γ x (aX k i)) (hy:Has Γ y (aX k j)):OpT P Γ [] o (aX k (andI k i j)):=
 gO ho hx hy jS fun w=>by simp [binOp,Op.intBits,Sem.run,pure,andI]
def shrI (k:IntKind) (x y:Int):Option Int:=if y<0 then none else some (x.fdiv (2 ^ (min y.toNat k.bits)))
theorem guard_sh {op:BinOp} {T:TypeId} {x y:Operand} {k k':IntKind} {i j:Int} (w:World):(eqGuard op T x y (.int k i) (.int k' j)).run P w= .ok () w:=by cases op <;> simp [eqGuard,Sem.run,pure]
theorem o_shr {T U:TypeId} {x y:Operand} {k k':IntKind} {i j z:Int} (ho:o.op= .binOp .shr T x y U) (hx:Has Γ x (aX k i)) (hy:Has Γ y (aX k' j)) (h:shrI k i j=some z):OpT P Γ [] o (aX k z):=
 gO ho hx hy guard_sh fun w=>by
  unfold shrI at h;split at h
  ·cases h
  ·rename_i hj;cases h;simp [binOp,Op.shift,Sem.run,pure,hj]
end
section
variable {β:bI} {n:Nat} {ds:List Deferred} {Γ:Ctx} {F:Act->World->Prop} {a0 a1 a2 a3 a4 a5 a6 a7 a8 a9 b0 b1 b2 b3 b4 b5 b6 b7 b8 b9 c0 c1 c2 c3 c4 c5 c6 c7 c8 c9 d:Tk} {R:List Tk}
theorem cK (h:T β n ds Γ (d :: a0 :: R) F):T β n ds Γ (a0 :: d :: R) F:=pS (a1w (l₁:=[a0])) h
theorem dK (h:T β n ds Γ (d :: a0 :: a1 :: R) F):T β n ds Γ (a0 :: a1 :: d :: R) F:=pS (a1w (l₁:=[a0,a1])) h
theorem cY (h:T β n ds Γ (d :: a0 :: a1 :: a2 :: R) F):T β n ds Γ (a0 :: a1 :: a2 :: d :: R) F:=pS (a1w (l₁:=[a0,a1,a2])) h
theorem aZ (h:T β n ds Γ (d :: a0 :: a1 :: a2 :: a3 :: R) F):T β n ds Γ (a0 :: a1 :: a2 :: a3 :: d :: R) F:=pS (a1w (l₁:=[a0,a1,a2,a3])) h
theorem dA (h:T β n ds Γ (d :: a0 :: a1 :: a2 :: a3 :: a4 :: R) F):T β n ds Γ (a0 :: a1 :: a2 :: a3 :: a4 :: d :: R) F:=pS (a1w (l₁:=[a0,a1,a2,a3,a4])) h
theorem dQ (h:T β n ds Γ (d :: a0 :: a1 :: a2 :: a3 :: a4 :: a5 :: R) F):T β n ds Γ (a0 :: a1 :: a2 :: a3 :: a4 :: a5 :: d :: R) F:=pS (a1w (l₁:=[a0,a1,a2,a3,a4,a5])) h
theorem jT (h:T β n ds Γ (d :: a0 :: a1 :: a2 :: a3 :: a4 :: a5 :: a6 :: R) F):T β n ds Γ (a0 :: a1 :: a2 :: a3 :: a4 :: a5 :: a6 :: d :: R) F:=pS (a1w (l₁:=[a0,a1,a2,a3,a4,a5,a6])) h
theorem T_fr8 (h:T β n ds Γ (d :: a0 :: a1 :: a2 :: a3 :: a4 :: a5 :: a6 :: a7 :: R) F):T β n ds Γ (a0 :: a1 :: a2 :: a3 :: a4 :: a5 :: a6 :: a7 :: d :: R) F:=pS (a1w (l₁:=[a0,a1,a2,a3,a4,a5,a6,a7])) h
theorem T_fr9 (h:T β n ds Γ (d :: a0 :: a1 :: a2 :: a3 :: a4 :: a5 :: a6 :: a7 :: a8 :: R) F):T β n ds Γ (a0 :: a1 :: a2 :: a3 :: a4 :: a5 :: a6 :: a7 :: a8 :: d :: R) F:=pS (a1w (l₁:=[a0,a1,a2,a3,a4,a5,a6,a7,a8])) h
end
open Go.SX
theorem aIy {β:bI} {m:Mem} {L:Ag} {w:World} (h:St β m L w) (hfp:β.fp=[]) (may:MemPlace->Prop):β.w.keptBut w may:=by
 refine⟨h.os,h.output,fun i hi=>?_⟩
 rw [h.frame i hi (by rw [hfp];exact List.not_mem_nil)]
 cases β.w.heap[i]? with
 | none=>rfl
 | some o=>
  cases o with
  | cells c t fr=>exact⟨rfl,rfl,rfl,fun j _=>rfl⟩
  | map es clock=>exact .inr ⟨rfl,rfl⟩
  | _=>rfl
def jO (W:World):Mem:=fun b=>W.heap[b]?
theorem st_memOf (W:World):St ⟨W,jO W,[]⟩ (jO W) [] W:=
 ⟨fun _ _ h=>h,fun x h=>(by cases h),fun x h=>(by cases h),List.nodup_nil,Mem.le_refl _,fun _ hb=>absurd rfl hb,fun x h=>(by cases h),a1I _,fun _ _ _=>rfl,rfl,rfl,rfl⟩
theorem FnS.calls {P:Program} {f:FuncId} {args:List AJ} {Φ:AJ} {W:World} {vs:List Value} (h:FnS P f args [] Φ (fun _=>[])) (hv:aU args (jO W) vs):
 Calls P f vs.toArray W fun e w'=>∃ m' v,e= .returned v/\Φ.p m' v/\St ⟨W,jO W,[]⟩ m' [] w':=
 (h (jO W) [] vs hv rfl W (st_memOf W)).mono fun e w' ⟨m',L',hS,v,he,hp,hL⟩=>⟨m',v,he,hp,by have:L'=[]:=hL;subst this;exact hS⟩
open Go.SX
theorem hh {Γ:Ctx} {x:Operand} {φ:AJ} (h:evT Γ x=some φ:=by exact rfl):Has Γ x φ:=has h
theorem bs {α γ:Type} {o:Option α} {f:α->Option γ} {r:γ} {G:Prop} (k:∀ x,o=some x->f x=some r->G) (h:o.bind f=some r):G:=let ⟨x,h1,h2⟩:=bind_some h;k x h1 h2
theorem is {γ:Type} {p:Prop} [Decidable p] {a b:Option γ} {r:γ} {G:Prop} (k:decide p=true->a=some r->G) (k':decide p=false->b=some r->G) (h:(if p then a else b)=some r):G:=(ite_some h).elim (fun x=>k x.1 x.2) (fun x=>k' x.1 x.2)
theorem cs {γ:Type} {c:Bool} {a b:Option γ} {r:γ} {G:Prop} (k:c=true->a=some r->G) (k':c=false->b=some r->G) (h:(bif c then a else b)=some r):G:=(aIc h).elim (fun x=>k x.1 x.2) (fun x=>k' x.1 x.2)
section
variable {P:Program} {β:bI} {n:Nat} {ds:List Deferred} {Γ:Ctx} {Δ:List Tk} {r:Option Nat} {Q Q':Exit->Act->World->Prop} {N F:Act->World->Prop} {ops:Array Oper} {o:Oper} {rest:List Oper}
theorem Sr {id:Nat} {l:List Oper} {y:Code} (h:T β n ds Γ Δ (wpListIn (fw r) 0 P l.toArray (Exit.then (y.wpIn (fw r) 0 P Q) Q) l)):T β n ds Γ Δ ((Code.seq (Code.region id l.toArray false) y).wpIn (fw r) 0 P Q):=aI (aFu h)
theorem Nn (h:T β n ds Γ Δ N):T β n ds Γ Δ (wpListIn (fw r) 0 P ops (Exit.then N Q) []):=T_nil (aGn h)
theorem Rr (h:T β n ds Γ Δ (Q .ret)):T β n ds Γ Δ (Code.ret.wpIn (fw r) 0 P (Exit.then N Q)):=T_retc (aFC h)
theorem Yy {d:Nat} {φ:AJ} (h:OpT P Γ [] o φ) (k:T β n ds ((d,φ) :: Γ) Δ (wpListIn (fw r) 0 P ops Q rest)) (hw:cI ops Γ o:=by exact trivial) (hd:o.dst=some d:=by exact rfl) (hn:Nat.ble (d+1) n=true:=by exact rfl):T β n ds Γ Δ (wpListIn (fw r) 0 P ops Q (o :: rest)):=T_y hw hd hn h k
theorem Ym {d:Nat} {x:Operand} {φ:AJ} (k:T β n ds ((d,φ) :: Γ) Δ (wpListIn (fw r) 0 P ops Q rest)) (hw:cI ops Γ o:=by exact trivial) (hd:o.dst=some d:=by exact rfl) (hn:Nat.ble (d+1) n=true:=by exact rfl) (ho:o.op= .move x:=by exact rfl) (hx:evT Γ x=some φ:=by exact rfl):
 T β n ds Γ Δ (wpListIn (fw r) 0 P ops Q (o :: rest)):=T_y hw hd hn (cF ho (has hx)) k
theorem Ya {d:Nat} {x:Operand} {φ:AJ} (k:T β n ds ((d,φ) :: Γ) Δ (wpListIn (fw r) 0 P ops Q rest)) (hw:cI ops Γ o:=by exact trivial) (hd:o.dst=some d:=by exact rfl) (hn:Nat.ble (d+1) n=true:=by exact rfl) (ho:o.op= .assign x:=by exact rfl) (hx:evT Γ x=some φ:=by exact rfl):
 T β n ds Γ Δ (wpListIn (fw r) 0 P ops Q (o :: rest)):=T_y hw hd hn (aBS ho (has hx)) k
theorem Sc {t:Nat} {φ:AJ} {Γ':Ctx} (k:eM Γ' Γ) (h:lk Γ t=some φ:=by exact rfl):eM ((t,φ) :: Γ') Γ:=eM.cons (bP h) k
def GW (ops:Array Oper) (Γ:Ctx) (o:Oper) (c want:Bool):Prop:=∃ j d,o.guard=some (j,want)/\(ops[j]?).bind (·.dst)=some d/\lk Γ d=some (aK c)
theorem GW.wants {c want:Bool} (h:GW ops Γ o c want) (hc:c=want):cI ops Γ o:=by
 obtain⟨j,d,h1,h2,h3⟩:=h
 unfold cI;rw [h1];exact⟨d,c,h2,h3,hc⟩
theorem GW.unwants {c want:Bool} (h:GW ops Γ o c want) (hc:c≠want):zZ ops Γ o:=by
 obtain⟨j,d,h1,h2,h3⟩:=h
 exact⟨j,want,d,_,h1,h2,h3,nb hc⟩
theorem Yg {d:Nat} {φ:AJ} {c want:Bool} (hc:c=want) (h:OpT P Γ [] o φ) (k:T β n ds ((d,φ) :: Γ) Δ (wpListIn (fw r) 0 P ops Q rest)) (hg:GW ops Γ o c want:=by exact⟨_,_,rfl,rfl,rfl⟩) (hd:o.dst=some d:=by exact rfl) (hn:Nat.ble (d+1) n=true:=by exact rfl):
 T β n ds Γ Δ (wpListIn (fw r) 0 P ops Q (o :: rest)):=T_y (hg.wants hc) hd hn h k
theorem Yt {d:Nat} {c:Bool} (hc:c=true) (k:T β n ds ((d,fEq undef) :: Γ) Δ (wpListIn (fw r) 0 P ops Q rest)) (hg:GW ops Γ o c false:=by exact⟨_,_,rfl,rfl,rfl⟩) (hd:o.dst=some d:=by exact rfl) (hn:Nat.ble (d+1) n=true:=by exact rfl):
 T β n ds Γ Δ (wpListIn (fw r) 0 P ops Q (o :: rest)):=cR (hg.unwants (ne_ft hc)) hd hn k
theorem Yf {d:Nat} {c:Bool} (hc:c=false) (k:T β n ds ((d,fEq undef) :: Γ) Δ (wpListIn (fw r) 0 P ops Q rest)) (hg:GW ops Γ o c true:=by exact⟨_,_,rfl,rfl,rfl⟩) (hd:o.dst=some d:=by exact rfl) (hn:Nat.ble (d+1) n=true:=by exact rfl):
 T β n ds Γ Δ (wpListIn (fw r) 0 P ops Q (o :: rest)):=cR (hg.unwants (ne_tf hc)) hd hn k
theorem Yo {d:Nat} {φ:AJ} {τ:Tk} (i:Nat) (hτ:Δ[i]? =some τ) (h:OpT P Γ [τ] o φ) (k:T β n ds ((d,φ) :: Γ) Δ (wpListIn (fw r) 0 P ops Q rest)) (hw:cI ops Γ o:=by exact trivial) (hd:o.dst=some d:=by exact rfl) (hn:Nat.ble (d+1) n=true:=by exact rfl):
 T β n ds Γ Δ (wpListIn (fw r) 0 P ops Q (o :: rest)):=T_o1 i hw hτ hd hn h k
theorem Yh {d:Nat} {φ:AJ} {τ:Tk} {c want:Bool} (i:Nat) (hτ:Δ[i]? =some τ) (hc:c=want) (h:OpT P Γ [τ] o φ) (k:T β n ds ((d,φ) :: Γ) Δ (wpListIn (fw r) 0 P ops Q rest)) (hg:GW ops Γ o c want:=by exact⟨_,_,rfl,rfl,rfl⟩) (hd:o.dst=some d:=by exact rfl) (hn:Nat.ble (d+1) n=true:=by exact rfl):
 T β n ds Γ Δ (wpListIn (fw r) 0 P ops Q (o :: rest)):=T_o1 i (hg.wants hc) hτ hd hn h k
end
open Go.SX
def odS:Env'->OD:=fun _=> .skip
def odC (ps:List Nat) (wr:Bool) (φ:AJ) (Δo:List Tk):Env'->OD:=fun _=> .op ps wr (fun _=>φ) (fun _=>Δo)
def odN (ps:List Nat) (wr:Bool) (Φ:Nat->Value->AJ) (Δo:Nat->Value->List Tk):Env'->OD:=fun _=> .op ps wr (fun c=>Φ c.n c.v) (fun c=>Δo c.n c.v)
def od1 (j:Nat) (ps:List Nat) (wr:Bool) (Φ:Nat->Value->AJ) (Δo:Nat->Value->List Tk):Env'->OD:=fun e=> .op ps wr (fun _=>Φ (e j).n (e j).v) (fun _=>Δo (e j).n (e j).v)
def od2 (j k:Nat) (ps:List Nat) (wr:Bool) (Φ:Nat->Value->Nat->Value->AJ) (Δo:Nat->Value->Nat->Value->List Tk):Env'->OD:=
 fun e=> .op ps wr (fun _=>Φ (e j).n (e j).v (e k).n (e k).v) (fun _=>Δo (e j).n (e j).v (e k).n (e k).v)
def od3 (j k l:Nat) (ps:List Nat) (wr:Bool) (Φ:Nat->Value->Nat->Value->Nat->Value->AJ) (Δo:Nat->Value->Nat->Value->Nat->Value->List Tk):Env'->OD:=
 fun e=> .op ps wr (fun _=>Φ (e j).n (e j).v (e k).n (e k).v (e l).n (e l).v) (fun _=>Δo (e j).n (e j).v (e k).n (e k).v (e l).n (e l).v)
def odN1 (j:Nat) (ps:List Nat) (wr:Bool) (Φ:Nat->Value->Nat->Value->AJ) (Δo:Nat->Value->Nat->Value->List Tk):Env'->OD:=
 fun e=> .op ps wr (fun c=>Φ (e j).n (e j).v c.n c.v) (fun c=>Δo (e j).n (e j).v c.n c.v)
def odN2 (j k:Nat) (ps:List Nat) (wr:Bool) (Φ:Nat->Value->Nat->Value->Nat->Value->AJ) (Δo:Nat->Value->Nat->Value->Nat->Value->List Tk):Env'->OD:=
 fun e=> .op ps wr (fun c=>Φ (e j).n (e j).v (e k).n (e k).v c.n c.v) (fun c=>Δo (e j).n (e j).v (e k).n (e k).v c.n c.v)
def odN3 (j k l:Nat) (ps:List Nat) (wr:Bool) (Φ:Nat->Value->Nat->Value->Nat->Value->Nat->Value->AJ) (Δo:Nat->Value->Nat->Value->Nat->Value->Nat->Value->List Tk):Env'->OD:=
 fun e=> .op ps wr (fun c=>Φ (e j).n (e j).v (e k).n (e k).v (e l).n (e l).v c.n c.v) (fun c=>Δo (e j).n (e j).v (e k).n (e k).v (e l).n (e l).v c.n c.v)
section
variable {ods:List (Env'->OD)} {us:List Us} {ps:List Nat} {wr:Bool}
theorem FkS (h:dO ods us):dO (odS :: ods) (([],false,[]) :: us):= .cons (fits0 rfl rfl) h
theorem FkC {φ:AJ} {Δo:List Tk} (h:dO ods us):dO (odC ps wr φ Δo :: ods) ((ps,wr,[]) :: us):= .cons (fits0 rfl rfl) h
theorem FkN {Φ:Nat->Value->AJ} {Δo:Nat->Value->List Tk} (h:dO ods us):dO (odN ps wr Φ Δo :: ods) ((ps,wr,[]) :: us):= .cons (fits0 rfl rfl) h
theorem FkD1 {j:Nat} {Φ:Nat->Value->AJ} {Δo:Nat->Value->List Tk} (h:dO ods us):dO (od1 j ps wr Φ Δo :: ods) ((ps,wr,[j]) :: us):= .cons (fits1 (od:=fun c=> .op ps wr (fun _=>Φ c.n c.v) (fun _=>Δo c.n c.v)) fun _=>⟨rfl,rfl⟩) h
theorem FkD2 {j k:Nat} {Φ:Nat->Value->Nat->Value->AJ} {Δo:Nat->Value->Nat->Value->List Tk} (h:dO ods us):dO (od2 j k ps wr Φ Δo :: ods) ((ps,wr,[j,k]) :: us):=
 .cons (fits2 (od:=fun c d=> .op ps wr (fun _=>Φ c.n c.v d.n d.v) (fun _=>Δo c.n c.v d.n d.v)) fun _ _=>⟨rfl,rfl⟩) h
theorem FkD3 {j k l:Nat} {Φ:Nat->Value->Nat->Value->Nat->Value->AJ} {Δo:Nat->Value->Nat->Value->Nat->Value->List Tk} (h:dO ods us):dO (od3 j k l ps wr Φ Δo :: ods) ((ps,wr,[j,k,l]) :: us):=
 .cons (fits3 (od:=fun c d b=> .op ps wr (fun _=>Φ c.n c.v d.n d.v b.n b.v) (fun _=>Δo c.n c.v d.n d.v b.n b.v)) fun _ _ _=>⟨rfl,rfl⟩) h
theorem FkN1 {j:Nat} {Φ:Nat->Value->Nat->Value->AJ} {Δo:Nat->Value->Nat->Value->List Tk} (h:dO ods us):dO (odN1 j ps wr Φ Δo :: ods) ((ps,wr,[j]) :: us):= .cons (fits1 (od:=fun c=> .op ps wr (fun d=>Φ c.n c.v d.n d.v) (fun d=>Δo c.n c.v d.n d.v)) fun _=>⟨rfl,rfl⟩) h
theorem FkN2 {j k:Nat} {Φ:Nat->Value->Nat->Value->Nat->Value->AJ} {Δo:Nat->Value->Nat->Value->Nat->Value->List Tk} (h:dO ods us):dO (odN2 j k ps wr Φ Δo :: ods) ((ps,wr,[j,k]) :: us):=
 .cons (fits2 (od:=fun c d=> .op ps wr (fun b=>Φ c.n c.v d.n d.v b.n b.v) (fun b=>Δo c.n c.v d.n d.v b.n b.v)) fun _ _=>⟨rfl,rfl⟩) h
theorem FkN3 {j k l:Nat} {Φ:Nat->Value->Nat->Value->Nat->Value->Nat->Value->AJ} {Δo:Nat->Value->Nat->Value->Nat->Value->Nat->Value->List Tk} (h:dO ods us):dO (odN3 j k l ps wr Φ Δo :: ods) ((ps,wr,[j,k,l]) :: us):=
 .cons (fits3 (od:=fun c d a=> .op ps wr (fun b=>Φ c.n c.v d.n d.v a.n a.v b.n b.v) (fun b=>Δo c.n c.v d.n d.v a.n a.v b.n b.v)) fun _ _ _=>⟨rfl,rfl⟩) h
end
section
variable {P:Program} {r:Option Nat} {ops:Array Oper} {β:bI} {n:Nat} {ds:List Deferred} {Γ:Ctx} {Δ:List Tk} {o:Oper} {l:List NO} {e:Env'} {i:Nat} {G:Env'->Cf->(Nat->Tk)->Prop} {Q:Exit->Act->World->Prop}
theorem bL {id:Nat} {lo:List Oper} {ods:List (Env'->OD)} {us:List Us} (h k q:Nat) (hm:P.follows .mixedOrders=true) (hle:(lo.take h).length=h) (hol:ods.length=h) (hq:(Δ++List.replicate k cQ).length=q)
 (hn:NC P r lo.toArray (NG P r lo.toArray β n ds Q (lo.drop h) q) (iO 0 (lo.take h) ods) env0 (lk Γ) (dOf (Δ++List.replicate k cQ))) (hu:dO ods us) (hB:(netB lo.toArray h us && ((lo.take h).zip us).all (wfU n q))=true):
 T β n ds Γ Δ ((Code.region id lo.toArray true).wpIn (fw r) 0 P Q):=by
 rw [a0k]at hB
 exact T_net h ods us k q hm hu hB.1 hle hol hB.2 hq hn
theorem My {d:Nat} {φ:AJ} (h:OpT P Γ [] o φ) (k:∀ b,NC P r ops G l (e.set i b) (lk ((d,φ) :: Γ)) (dOf Δ)) (hw:cI ops Γ o:=by exact trivial) (hd:o.dst=some d:=by exact rfl):
 NC P r ops G ((i,o,odC [] false φ []) :: l) e (lk Γ) (dOf Δ):=N_y rfl (fun _=>rfl) hw hd h k
theorem Mg {d:Nat} {φ:AJ} {c want:Bool} (hc:c=want) (h:OpT P Γ [] o φ) (k:∀ b,NC P r ops G l (e.set i b) (lk ((d,φ) :: Γ)) (dOf Δ)) (hg:GW ops Γ o c want:=by exact⟨_,_,rfl,rfl,rfl⟩) (hd:o.dst=some d:=by exact rfl):
 NC P r ops G ((i,o,odC [] false φ []) :: l) e (lk Γ) (dOf Δ):=N_y rfl (fun _=>rfl) (hg.wants hc) hd h k
theorem Mo {d:Nat} {φ:AJ} {τ:Tk} (p:Nat) (hp:[p].map (dOf Δ)=[τ]) (h:OpT P Γ [τ] o φ) (k:∀ b,NC P r ops G l (e.set i b) (lk ((d,φ) :: Γ)) (dOf Δ)) (hw:cI ops Γ o:=by exact trivial) (hd:o.dst=some d:=by exact rfl):
 NC P r ops G ((i,o,odC [p] false φ [cQ]) :: l) e (lk Γ) (dOf Δ):=dJ (ps:=[p]) rfl (fun _=>rfl) hw hp hd h k
theorem Mt {d:Nat} {c:Bool} (hc:c=true) (k:∀ b,NC P r ops G l (e.set i b) (lk ((d,fEq undef) :: Γ)) (dOf Δ)) (hg:GW ops Γ o c false:=by exact⟨_,_,rfl,rfl,rfl⟩) (hd:o.dst=some d:=by exact rfl):NC P r ops G ((i,o,odS) :: l) e (lk Γ) (dOf Δ):=eL rfl (hg.unwants (ne_ft hc)) hd k
theorem Mz {d:Nat} {c:Bool} (hc:c=false) (k:∀ b,NC P r ops G l (e.set i b) (lk ((d,fEq undef) :: Γ)) (dOf Δ)) (hg:GW ops Γ o c true:=by exact⟨_,_,rfl,rfl,rfl⟩) (hd:o.dst=some d:=by exact rfl):NC P r ops G ((i,o,odS) :: l) e (lk Γ) (dOf Δ):=eL rfl (hg.unwants (ne_tf hc)) hd k
theorem Mn {d:Nat} (p:Nat) (f:Nat->Value) (τ:Nat->Tk) (hp:Δ[p]? =some cQ) (h:OpN P Γ o f τ) (k:∀ b u,NC P r ops G l (e.set i ⟨b,u⟩) (lk ((d,fEq (f b)) :: Γ)) (dOf (Δ.set p (τ b)))) (hw:cI ops Γ o:=by exact trivial) (hd:o.dst=some d:=by exact rfl):
 NC P r ops G ((i,o,odN [p] true (fun b _=>fEq (f b)) (fun b _=>[τ b])) :: l) e (lk Γ) (dOf Δ):=N_new rfl (fun _=>rfl) (fun _=>rfl) hw hp hd h k
theorem Mf {d:Nat} {f:Nat->Value} {τ:Nat->Tk} {φ:AJ} (h:OpN P Γ o f τ) (hz:∀ b,Frz (τ b) φ (f b)) (k:∀ b,NC P r ops G l (e.set i b) (lk ((d,φ) :: Γ)) (dOf Δ)) (hw:cI ops Γ o:=by exact trivial) (hd:o.dst=some d:=by exact rfl):
 NC P r ops G ((i,o,odC [] true φ []) :: l) e (lk Γ) (dOf Δ):=N_newF rfl (fun _=>rfl) hw hd h hz k
theorem D1 {d:Nat} (j:Nat) (b:Nat) (u:Value) (Φ:Nat->Value->AJ) (hj:e j=⟨b,u⟩) (h:OpT P Γ [] o (Φ b u)) (k:∀ c,NC P r ops G l (e.set i c) (lk ((d,Φ b u) :: Γ)) (dOf Δ)) (hw:cI ops Γ o:=by exact trivial) (hd:o.dst=some d:=by exact rfl):
 NC P r ops G ((i,o,od1 j [] false Φ (fun _ _=>[])) :: l) e (lk Γ) (dOf Δ):=N_y (f:=fun _=>[]) (by simp only [od1,hj]) (fun _=>rfl) hw hd h k
end
open Go.SX
structure cX (Q:Prop):Prop where
 h:Q
def tb:List (Nat × Nat)->Nat->Option Nat
 | [],_=>none
 | (a,b) :: l,t=>bif Nat.beq a t then some b else tb l t
theorem xK:∀ {l:List (Nat × Nat)} {t k:Nat},tb l t=some k->(t,k)∈l
 | (a,b) :: l,t,k,h=>by
  unfold tb at h;cases e:Nat.beq a t with
  | true=>rw [e]at h;cases h;have:=a1F e;subst this;exact .head _
  | false=>rw [e]at h;exact .tail _ (xK h)
def tb3:List (Nat × Nat × Nat)->Nat->Nat->Option Nat
 | [],_,_=>none
 | (a,b,c) :: l,s,f=>bif Nat.beq a s && Nat.beq b f then some c else tb3 l s f
theorem aEK:∀ {l:List (Nat × Nat × Nat)} {s f k:Nat},tb3 l s f=some k->(s,f,k)∈l
 | (a,b,c) :: l,s,f,k,h=>by
  unfold tb3 at h;cases e:Nat.beq a s && Nat.beq b f with
  | true=>
   rw [e]at h;cases h
   have e:=Bool.and_eq_true_iff.1 e;have:=a1F e.1;subst this;have:=a1F e.2;subst this;exact .head _
  | false=>rw [e]at h;exact .tail _ (aEK h)
def onb (x:Option Nat) (n:Nat):Bool:=match x with | some m=>Nat.beq m n | none=>false
theorem aBB {x:Option Nat} {n:Nat} (h:onb x n=true):x=some n:=by
 cases x with
 | none=>cases h
 | some m=>rw [a1F h]
section
variable {P:Program}
def slB (P:Program) (t:TypeId):Option Nat:=match P.underlying t with | some (.slice e)=>some e | _=>none
theorem us_of {l:List (Nat × Nat)} (h:(l.all fun p=>onb (slB P p.1) p.2)=true) {t e:Nat} (k:tb l t=some e):gS P t (.slice e):=by
 have:=aBB (a0t.1 h _ (xK k))
 unfold slB at this
 split at this
 ·rename_i q;cases this;exact q
 ·cases this
theorem el_of {l:List (Nat × Nat)} (h:(l.all fun p=>onb (vZ P p.1) p.2)=true) {t e:Nat} (k:tb l t=some e):qK P t e:=aBB (a0t.1 h _ (xK k))
theorem sz_of {l:List (Nat × Nat)} (h:(l.all fun p=>onb (nC P p.1) p.2)=true) {t e:Nat} (k:tb l t=some e):iC P t e:=aBB (a0t.1 h _ (xK k))
theorem ag_of {l:List (Nat × Nat)} (h:(l.all fun p=>aggB P p.1 p.2)=true) {t e:Nat} (k:tb l t=some e):lB P t e:=a0t.1 h _ (xK k)
theorem sc_of {l:List Nat} (h:(l.all fun p=>scalB P p)=true) {t:Nat} (k:(l.any fun p=>Nat.beq p t)=true):Scal P t:=by
 obtain⟨p,hp,e⟩:=List.any_eq_true.1 k
 have:=a1F e;subst this
 exact a0t.1 h _ hp
theorem cb_of {l:List Nat} (h:(l.all fun p=>callB P p)=true) {t:Nat} (k:(l.any fun p=>Nat.beq p t)=true):Ar P t:=by
 obtain⟨p,hp,e⟩:=List.any_eq_true.1 k
 have:=a1F e;subst this
 exact a0t.1 h _ hp
theorem fa_of {l:List (Nat × Nat × Nat)} (h:(l.all fun p=>onb (aBI P p.1 p.2.1) p.2.2)=true) {s f k:Nat} (e:tb3 l s f=some k):tP P s f k:=aBB (a0t.1 h _ (aEK e))
def tb4:List (Nat × Nat × Nat × Nat)->Nat->Option (Nat × Nat × Nat)
 | [],_=>none
 | (a,b) :: l,t=>bif Nat.beq a t then some b else tb4 l t
theorem aHE:∀ {l:List (Nat × Nat × Nat × Nat)} {t:Nat} {k:Nat × Nat × Nat},tb4 l t=some k->(t,k)∈l
 | (a,b) :: l,t,k,h=>by
  unfold tb4 at h;cases e:Nat.beq a t with
  | true=>rw [e]at h;cases h;have:=a1F e;subst this;exact .head _
  | false=>rw [e]at h;exact .tail _ (aHE h)
theorem et_of {l:List (Nat × Nat × Nat × Nat)} (h:(l.all fun p=>elB P p.1 p.2.1 p.2.2.1 p.2.2.2)=true) {t e s b:Nat} (k:tb4 l t=some (e,s,b)):ElT P t e s b:=a0t.1 h _ (aHE k)
end
theorem o_fieldC {α γ:Type} {P:Program} {Γ:Ctx} {o:Oper} {t:Ty α} (t':Ty γ) (L:List (Nat × Nat × Nat)) {y:α} {z:γ} {S f k:Nat} {x:Operand} (ho:o.op= .fieldAddr S x f) (_:(tb3 L S f).isSome=true) (hx:Has Γ x (aG t y)) (hf:tP P S f k) (hs:((t.An y).drop k).take t'.sz=t'.An z):OpT P Γ [] o (aG t' z):=gD ho hx hf hs
theorem o_nilP {α:Type} {P:Program} {Γ:Ctx} {o:Oper} {t:Ty α} {y:α} {x:Operand} (ho:o.op= .nilCheck x) (hx:Has Γ x (aG t y)):OpT P Γ [] o (aG t y):=kC ho hx (fun _ _ ⟨p,h,_⟩=>⟨p,h⟩)
theorem o_nilE {P:Program} {Γ:Ctx} {o:Oper} {p:Addr} {x:Operand} (ho:o.op= .nilCheck x) (hx:Has Γ x (fEq (.pointer (some p)))):OpT P Γ [] o (fEq (.pointer (some p))):=kC ho hx (fun _ _ h=>⟨_,h⟩)
theorem cc {b w:Bool} (h:b=w:=by first | with_reducible assumption | exact rfl | exact pL (by with_reducible assumption) | exact qJ (by with_reducible assumption)):b=w:=h
theorem ct {b:Bool} (h:b=true:=by first | with_reducible assumption | exact rfl | exact qJ (by with_reducible assumption)):b=true:=h
theorem cf {b:Bool} (h:b=false:=by first | with_reducible assumption | exact rfl | exact pL (by with_reducible assumption)):b=false:=h
theorem cn {b w:Bool} (h:b≠w:=by first | exact ne_ft ct | exact ne_tf cf):b≠w:=h
section
variable {P:Program} {β:bI} {n:Nat} {ds:List Deferred} {Γ:Ctx} {Δ:List Tk} {r:Option Nat} {Q Q':Exit->Act->World->Prop} {N F:Act->World->Prop} {ops:Array Oper} {o:Oper} {rest:List Oper}
theorem hl {xs:List Operand} {φs:List AJ} (h:aN Γ xs φs:=by repeat (first | exact aN.nil | apply aN.cons (has rfl))):aN Γ xs φs:=h
theorem Tc {g:Operand} {args:List Operand} {ts:Array TypeId} {f:FuncId} {first captured:Array Value} {φs ψs:List AJ} {Δi Δr Δo:List Tk} {Φ:AJ} {d:Option Nat} (hc:FnS P f ψs Δi Φ (fun _=>Δo)) (k:T β n ds (putG d Φ Γ) (Δo++Δr) (wpListIn (fw r) 0 P ops Q rest))
 (hw:cI ops Γ o:=by first | exact trivial | exact⟨_,_,rfl,rfl,cc⟩) (ho:o.op= .call { callee:= .value g,args:=args.toArray,argTypes:=ts }:=by exact rfl) (hd:o.dst=d:=by exact rfl) (hn:dstOk d n=true:=by exact rfl) (hg:Has Γ g (fEq (.func (.func f) first captured)):=by exact has rfl)
 (hargs:aN Γ args φs:=by exact hl) (hall:first.toList.map fEq++φs++captured.toList.map fEq=ψs:=by exact rfl) (hf:Ar P f:=by exact cb rfl) (hΔ:Δ=Δi++Δr:=by exact rfl):T β n ds Γ Δ (wpListIn (fw r) 0 P ops Q (o :: rest)):=pI hw ho hd hn hg hargs hall hf hc hΔ k
theorem Tp {g:Operand} {args:List Operand} {ts:Array TypeId} {f:FuncId} {first captured:Array Value} {φs ψs:List AJ} {Δi Δr:List Tk} {c:List PanicEntry} (hc:FnP P f ψs Δi c) (k:T β n ds Γ Δr (Q (.panic c))) (hw:cI ops Γ o:=by first | exact trivial | exact⟨_,_,rfl,rfl,cc⟩)
 (ho:o.op= .call { callee:= .value g,args:=args.toArray,argTypes:=ts }:=by exact rfl) (hg:Has Γ g (fEq (.func (.func f) first captured)):=by exact has rfl) (hargs:aN Γ args φs:=by exact hl) (hall:first.toList.map fEq++φs++captured.toList.map fEq=ψs:=by exact rfl) (hf:Ar P f:=by exact cb rfl)
 (hΔ:Δ=Δi++Δr:=by exact rfl):T β n ds Γ Δ (wpListIn (fw r) 0 P ops Q (o :: rest)):=T_callP hw ho hg hargs hall hf hc hΔ k
def AllE (Γ:Ctx) (v:Value):List Nat->Prop
 | []=>True
 | s :: ss=>lk Γ s=some (fEq v)/\AllE Γ v ss
theorem AllE.all {v:Value}:∀ {ss:List Nat},AllE Γ v ss->∀ s∈ss,lk Γ s=some (fEq v)
 | _ :: _,h,_, .head _=>h.1
 | _ :: _,h,s, .tail _ k=>AllE.all h.2 s k
theorem fz {v:Value} {ss:List Nat} (h:AllE Γ v ss:=by repeat (first | exact trivial | refine⟨by exact rfl,?_⟩)):∀ s∈ss,lk Γ s=some (fEq v):=h.all
theorem Tn {d:Nat} {f:Nat->Value} {τ:Nat->Tk} (h:OpN P Γ o f τ) (k:∀ b,T β n ds ((d,fEq (f b)) :: Γ) (τ b :: Δ) (wpListIn (fw r) 0 P ops Q rest)) (hw:cI ops Γ o:=by first | exact trivial | exact⟨_,_,rfl,rfl,cc⟩) (hd:o.dst=some d:=by exact rfl) (hn:Nat.ble (d+1) n=true:=by exact rfl):
 T β n ds Γ Δ (wpListIn (fw r) 0 P ops Q (o :: rest)):=T_new hw hd hn h k
theorem sb {Γ' Γ:Ctx} (h:eM Γ' Γ:=by repeat (first | exact eM.nil | refine Sc ?_)):eM Γ' Γ:=h
theorem Tm {ι:Type} {ok:ι->Prop} {Γf:ι->Ctx} {Δf:ι->List Tk} (i:ι) (h:ok i) (hs:eM (Γf i) Γ:=by exact sb) (hd:Δ=Δf i:=by exact rfl):T β n ds Γ Δ (fun a w=>∃ i,ok i/\AtT β n ds (Γf i) (Δf i) a w):=tN i h hs hd
theorem ij {α:Type} {a b:α} (h:some a=some b):b=a:=(a1V h).symm
theorem ls {n:Nat}:n<n+1:=a1M n
theorem Tl {ι:Type} {c:Code} (ok:ι->Prop) (μ:ι->Nat) (Γf:ι->Ctx) (Δf:ι->List Tk) (i₀:ι) (h₀:ok i₀) (round:∀ i,ok i->T β n ds (Γf i) (Δf i) (c.wpIn (fw r) 0 P (Exit.then (fun a w=>∃ j,(ok j/\μ j<μ i)/\AtT β n ds (Γf j) (Δf j) a w) Q)))
 (hs:eM (Γf i₀) Γ:=by exact sb) (hd:Δ=Δf i₀:=by exact rfl):T β n ds Γ Δ ((Code.loop c).wpIn (fw r) 0 P Q):=aBa ok μ Γf Δf i₀ h₀ hs hd round
theorem To {fn:Func} {Φ:AJ} {Δ':List Tk} {t:Nat} (hr:fn.results=#[.tmp t]:=by exact rfl) (hv:hP Γ t Φ:=by exact bP rfl) (hd:Δ=Δ':=by exact rfl):T β n [] Γ Δ (bodyPost P fn (gA β Φ (fun _=>Δ')) .ret):=eD hr hv hd
theorem Zy {d:Nat} {φ:AJ} (hw:cI ops Γ o) (h:OpT P Γ [] o φ) (hd:o.dst=some d) (hn:Nat.ble (d+1) n=true) (k:T β n ds ((d,φ) :: Γ) Δ (wpListIn (fw r) 0 P ops Q rest)):T β n ds Γ Δ (wpListIn (fw r) 0 P ops Q (o :: rest)):=T_y hw hd hn h k
theorem Zg {d:Nat} {φ:AJ} {c want:Bool} (hg:GW ops Γ o c want) (hc:c=want) (h:OpT P Γ [] o φ) (hd:o.dst=some d) (hn:Nat.ble (d+1) n=true) (k:T β n ds ((d,φ) :: Γ) Δ (wpListIn (fw r) 0 P ops Q rest)):
 T β n ds Γ Δ (wpListIn (fw r) 0 P ops Q (o :: rest)):=T_y (hg.wants hc) hd hn h k
theorem Zk {d:Nat} {c want:Bool} (hg:GW ops Γ o c want) (hc:c≠want) (hd:o.dst=some d) (hn:Nat.ble (d+1) n=true) (k:T β n ds ((d,fEq undef) :: Γ) Δ (wpListIn (fw r) 0 P ops Q rest)):
 T β n ds Γ Δ (wpListIn (fw r) 0 P ops Q (o :: rest)):=cR (hg.unwants hc) hd hn k
theorem Zo {d:Nat} {φ:AJ} {τ:Tk} (i:Nat) (hw:cI ops Γ o) (hτ:Δ[i]? =some τ) (h:OpT P Γ [τ] o φ) (hd:o.dst=some d) (hn:Nat.ble (d+1) n=true) (k:T β n ds ((d,φ) :: Γ) Δ (wpListIn (fw r) 0 P ops Q rest)):
 T β n ds Γ Δ (wpListIn (fw r) 0 P ops Q (o :: rest)):=T_o1 i hw hτ hd hn h k
theorem Zh {d:Nat} {φ:AJ} {τ:Tk} {c want:Bool} (i:Nat) (hg:GW ops Γ o c want) (hc:c=want) (hτ:Δ[i]? =some τ) (h:OpT P Γ [τ] o φ) (hd:o.dst=some d) (hn:Nat.ble (d+1) n=true) (k:T β n ds ((d,φ) :: Γ) Δ (wpListIn (fw r) 0 P ops Q rest)):
 T β n ds Γ Δ (wpListIn (fw r) 0 P ops Q (o :: rest)):=T_o1 i (hg.wants hc) hτ hd hn h k
end
section
variable {P:Program} {r:Option Nat} {ops:Array Oper} {β:bI} {n:Nat} {ds:List Deferred} {Γ:Ctx} {Δ:List Tk} {o:Oper} {l:List NO} {e:Env'} {i:Nat} {G:Env'->Cf->(Nat->Tk)->Prop} {Q:Exit->Act->World->Prop}
theorem Ny {d:Nat} {φ:AJ} (hw:cI ops Γ o) (h:OpT P Γ [] o φ) (hd:o.dst=some d) (k:∀ b,NC P r ops G l (e.set i b) (lk ((d,φ) :: Γ)) (dOf Δ)):
 NC P r ops G ((i,o,odC [] false φ []) :: l) e (lk Γ) (dOf Δ):=N_y rfl (fun _=>rfl) hw hd h k
theorem Ng {d:Nat} {φ:AJ} {c want:Bool} (hg:GW ops Γ o c want) (hc:c=want) (h:OpT P Γ [] o φ) (hd:o.dst=some d) (k:∀ b,NC P r ops G l (e.set i b) (lk ((d,φ) :: Γ)) (dOf Δ)):
 NC P r ops G ((i,o,odC [] false φ []) :: l) e (lk Γ) (dOf Δ):=N_y rfl (fun _=>rfl) (hg.wants hc) hd h k
theorem No {d:Nat} {φ:AJ} {τ:Tk} (p:Nat) (hw:cI ops Γ o) (hp:[p].map (dOf Δ)=[τ]) (h:OpT P Γ [τ] o φ) (hd:o.dst=some d) (k:∀ b,NC P r ops G l (e.set i b) (lk ((d,φ) :: Γ)) (dOf Δ)):
 NC P r ops G ((i,o,odC [p] false φ [cQ]) :: l) e (lk Γ) (dOf Δ):=dJ (ps:=[p]) rfl (fun _=>rfl) hw hp hd h k
theorem Nh {d:Nat} {φ:AJ} {τ:Tk} {c want:Bool} (p:Nat) (hg:GW ops Γ o c want) (hc:c=want) (hp:[p].map (dOf Δ)=[τ]) (h:OpT P Γ [τ] o φ) (hd:o.dst=some d) (k:∀ b,NC P r ops G l (e.set i b) (lk ((d,φ) :: Γ)) (dOf Δ)):
 NC P r ops G ((i,o,odC [p] false φ [cQ]) :: l) e (lk Γ) (dOf Δ):=dJ (ps:=[p]) rfl (fun _=>rfl) (hg.wants hc) hp hd h k
theorem Nc {g:Operand} {args:List Operand} {ts:Array TypeId} {f:FuncId} {first captured:Array Value} {φs ψs:List AJ} {Φ:AJ} {d:Nat} (hc:FnS P f ψs [] Φ (fun _=>[])) (k:∀ b,NC P r ops G l (e.set i b) (lk ((d,Φ) :: Γ)) (dOf Δ)) (hw:cI ops Γ o:=by first | exact trivial | exact⟨_,_,rfl,rfl,cc⟩)
 (ho:o.op= .call { callee:= .value g,args:=args.toArray,argTypes:=ts }:=by exact rfl) (hd:o.dst=some d:=by exact rfl) (hg:Has Γ g (fEq (.func (.func f) first captured)):=by exact has rfl) (hargs:aN Γ args φs:=by exact hl) (hall:first.toList.map fEq++φs++captured.toList.map fEq=ψs:=by exact rfl) (hf:Ar P f:=by exact cb rfl):
 NC P r ops G ((i,o,odC [] true Φ []) :: l) e (lk Γ) (dOf Δ):=wV (od:=odC [] true Φ []) rfl (fun _=>rfl) hw ho hd hg hargs hall hf hc k
theorem Nk {d:Nat} {c want:Bool} (hg:GW ops Γ o c want) (hc:c≠want) (hd:o.dst=some d) (k:∀ b,NC P r ops G l (e.set i b) (lk ((d,fEq undef) :: Γ)) (dOf Δ)):NC P r ops G ((i,o,odS) :: l) e (lk Γ) (dOf Δ):=eL rfl (hg.unwants hc) hd k
theorem fk {ods:List (Env'->OD)} {us:List Us} (h:dO ods us:=by repeat first | exact dO.nil | apply FkC | apply FkS | apply FkN | apply FkD1 | apply FkD2 | apply FkD3 | apply FkN1 | apply FkN2 | apply FkN3):dO ods us:=h
end
end Go.SW
namespace Go.Dt
open Go.SX Go.SW
abbrev fI (n:Int):AJ:=aX .i64 n
abbrev tI:Ty Int:=cH .i64
structure AS where
 Op:Int
 N:Int
 AM:List AS
inductive tG (m:Mem):Addr->AS->Prop
 | mk (p:Addr) (x:AS) (v2:Value) (q2:Nat->Addr):(∃ u,m.cell p=some u/\(aX .i64 x.Op).p m u)->(∃ u,m.cell (p.add 1)=some u/\(aX .i64 x.N).p m u)->m.cell (p.add 2)=some v2->Sl v2 x.AM.length 3 q2->x.AM.length<=1000000000->(∀ (i:Nat) y,x.AM[i]? =some y->tG m (q2 i) y)->tG m p x
theorem tG.mono {m m':Mem} (h:Mem.le m m'):∀ {p:Addr} {x:AS},tG m p x->tG m' p x:=fun {p x} k=>by
 induction k with
 | mk p x v2 q2 e0 e1 c2 s2 l2 _r2 ih2=>exact .mk p x v2 q2 (let ⟨u,a,b⟩:=e0;⟨u,Mem.cell_mono h a,AJ.mono _ h b⟩) (let ⟨u,a,b⟩:=e1;⟨u,Mem.cell_mono h a,AJ.mono _ h b⟩) (Mem.cell_mono h c2) s2 l2 ih2
def cU (xs:List AS):AJ:=⟨fun m v=>∃ q,Sl v xs.length 3 q/\xs.length<=1000000000/\∀ (i:Nat) y,xs[i]? =some y->tG m (q i) y,fun h ⟨q,h1,h2,h3⟩=>⟨q,h1,h2,fun i y hy=>(h3 i y hy).mono h⟩⟩
theorem lE {xs:List AS}:eH (cU xs):=fun _ _ ⟨_,h,_⟩=>h.isCell
def aO:Ty AS:=⟨3,fun x=>[aX .i64 x.Op,aX .i64 x.N,cU x.AM],fun _=>rfl,fun x=>(aF (aH trivial) (aF (aH trivial) (aF (lE) bF)))⟩
theorem aEZ {m:Mem} {p:Addr} {x:AS}:aO.at m p x ↔ tG m p x:=by
 constructor
 ·rintro⟨cs,⟨c0,r0,rfl,h0,⟨c1,r1,rfl,h1,⟨c2,r2,rfl,h2,hn⟩⟩⟩,hc⟩
  have hn:r2=[]:=hn;subst hn;obtain⟨q2,s2,l2,a2⟩:=h2;exact .mk p x c2 q2 ⟨c0,hc 0 _ rfl,h0⟩ ⟨c1,hc 1 _ rfl,h1⟩ (hc 2 _ rfl) s2 l2 a2
 ·rintro⟨p,x,v2,q2,⟨u0,g0,e0⟩,⟨u1,g1,e1⟩,g2,s2,l2,a2⟩
  refine⟨[u0,u1,v2],⟨u0,[u1,v2],rfl,e0,⟨u1,[v2],rfl,e1,⟨v2,[],rfl,⟨q2,s2,l2,a2⟩,rfl⟩⟩⟩,fun j c hj=>?_⟩
  match j,hj with
  | 0,hj=>cases hj;exact g0
  | 1,hj=>cases hj;exact g1
  | 2,hj=>cases hj;exact g2
  | j+3,hj=>simp at hj
theorem eG {xs:List AS}:cU xs=fSl aO xs:=AJ.ext' fun m v=>by
 constructor
 ·rintro⟨q,h1,h2,h3⟩;exact⟨q,h1,h2,fun i x hx=>aEZ.2 (h3 i x hx)⟩
 ·rintro⟨q,h1,h2,h3⟩;exact⟨q,h1,h2,fun i x hx=>aEZ.1 (h3 i x hx)⟩
theorem zV {φ:AJ} {xs:List AS} (h:Ent φ (fSl aO xs)):Ent φ (cU xs):=by rw [eG];exact h
structure AW where
 Op:Int
 N:Int
 AU:List AS
 AM:List Int
def aM:Ty AW:=⟨4,fun x=>[aX .i64 x.Op,aX .i64 x.N,fSl aO x.AU,fSl (cH .i64) x.AM],fun _=>rfl,fun x=>(aF (aH trivial) (aF (aH trivial) (aF (aS) (aF (aS) bF))))⟩
structure Aq where
 At:Int
 Ap:Int
def aW:Ty Aq:=⟨2,fun x=>[aX .i64 x.At,aX .i64 x.Ap],fun _=>rfl,fun x=>(aF (aH trivial) (aF (aH trivial) bF))⟩
structure Ao where
 In:Int
 AV:Int
def bD:Ty Ao:=⟨2,fun x=>[aX .i64 x.In,aX .i64 x.AV],fun _=>rfl,fun x=>(aF (aH trivial) (aF (aH trivial) bF))⟩
structure Am where
 At:Int
 AY:List Int
 AV:Int
def aY:Ty Am:=⟨3,fun x=>[aX .i64 x.At,fSl (cH .i64) x.AY,aX .i64 x.AV],fun _=>rfl,fun x=>(aF (aH trivial) (aF (aS) (aF (aH trivial) bF)))⟩
structure AO where
 AN:List Aq
 AR:List Ao
 AP:List Am
def aB:Ty AO:=⟨3,fun x=>[fSl aW x.AN,fSl bD x.AR,fSl aY x.AP],fun _=>rfl,fun x=>(aF (aS) (aF (aS) (aF (aS) bF)))⟩
structure AI where
 AF:List ByteArray
 AD:List AW
 AE:List AO
 AG:Int
def cN:Ty AI:=⟨4,fun x=>[fSl aD x.AF,fSl aM x.AD,fSl aB x.AE,aX .i64 x.AG],fun _=>rfl,fun x=>(aF (aS) (aF (aS) (aF (aS) (aF (aH trivial) bF))))⟩
structure Aj where
 Op:Int
 N:Int
 AU:List AS
 AM:List Int
 AQ:List Int
def bM:Ty Aj:=⟨5,fun x=>[aX .i64 x.Op,aX .i64 x.N,fSl aO x.AU,fSl (cH .i64) x.AM,fSl (cH .i64) x.AQ],fun _=>rfl,fun x=>(aF (aH trivial) (aF (aH trivial) (aF (aS) (aF (aS) (aF (aS) bF)))))⟩
structure AH where
 AF:List ByteArray
 AQ:List Int
 AD:List Aj
 AE:List AO
 AG:Int
def oK:Ty AH:=⟨5,fun x=>[fSl aD x.AF,fSl (cH .i64) x.AQ,fSl bM x.AD,fSl aB x.AE,aX .i64 x.AG],fun _=>rfl,fun x=>(aF (aS) (aF (aS) (aF (aS) (aF (aS) (aF (aH trivial) bF)))))⟩
structure SolSpot where
 In:Int
 Dead:Bool
structure aAc where
 Kind:Int
 N:Int
structure SolGroup where
 Def:Int
 At:Int
 Env:List aAc
structure SolMsg where
 Vals:List aAc
structure SolQ where
 Group:Int
 Index:Int
 At:Int
 Queue:List SolMsg
structure SolWait where
 At:Int
 AV:Int
 Env:List aAc
structure Sol where
 AR:List SolSpot
 Groups:List SolGroup
 AN:List SolQ
 Waits:List SolWait
structure Ae where
 AH:AH
 Ai:List (List Int)
 Ab:List (List Int)
 AZ:List Bool
 AK:AI
def aBd:Ty Ae:=⟨12,fun x=>oK.An x.AH++[fSl (tSl (cH .i64)) x.Ai,fSl (tSl (cH .i64)) x.Ab,fSl bE x.AZ]++cN.An x.AK,fun _=>rfl,fun x=>(aAY (aAY (oK.cell x.AH) (aF (aS) (aF (aS) (aF (aS) bF)))) (cN.cell x.AK))⟩
structure Ref07_opener where
 f:AH
 AZ:List Bool
 Ai:List (List Int)
 Af:List Int
 Ab:List (List Int)
 p:AI
 bad:Bool
structure Ah where
 p:AI
 Af:List Int
 Al:List Int
 Ak:List Int
 bad:Bool
def vJ:Ty Ah:=⟨8,fun x=>cN.An x.p++[fSl (cH .i64) x.Af,fSl (cH .i64) x.Al,fSl (cH .i64) x.Ak,aK x.bad],fun _=>rfl,fun x=>(aAY (cN.cell x.p) (aF (aS) (aF (aS) (aF (aS) (aF (aH trivial) bF)))))⟩
structure Ad where
 p:AI
 Af:List Int
 AT:List Bool
 Aa:List Bool
def bZ:Ty Ad:=⟨7,fun x=>cN.An x.p++[fSl (cH .i64) x.Af,fSl bE x.AT,fSl bE x.Aa],fun _=>rfl,fun x=>(aAY (cN.cell x.p) (aF (aS) (aF (aS) (aF (aS) bF))))⟩
structure aE9 where
 Deed:Int
 At:Int
 N:Int
 M:Int
 Vals:List aAc
structure Flat_machine where
 Sol:Sol
 v:Value
 events:List aE9
 work:Int
structure Scope_speaks where
def aJ2:Ty Scope_speaks:=⟨0,fun x=>[],fun _=>rfl,fun x=>bF⟩
structure Scope_travels where
def aKU:Ty Scope_travels:=⟨0,fun x=>[],fun _=>rfl,fun x=>bF⟩
structure Scope_decides where
def aI7:Ty Scope_decides:=⟨0,fun x=>[],fun _=>rfl,fun x=>bF⟩
structure Scope_declares where
def aKo:Ty Scope_declares:=⟨0,fun x=>[],fun _=>rfl,fun x=>bF⟩
structure Scope_flaw where
 e:Int
structure Sol_flaw where
 e:Int
structure Sol_machine where
 Sol:Sol
 p:AI
 Af:List Int
 groups:List Int
 acts:aL Int Value
 events:List aE9
 work:Int
structure Sol_job where
 node:Int
 at_:Int
 env:List aAc
end Go.Dt
namespace Go.SW
open Go.SX
section
variable {P:Program} {β:bI} {n:Nat} {Γ:Ctx} {Δ:List Tk}
theorem qT {fn:Func} {Φ ψ:AJ} {Δ':List Tk} {t u b sz:Nat} {ty ty':TypeId} {φs:List AJ} (hr:fn.results=#[.cell t ty, .tmp u]) (hT:lB P ty sz) (hz:φs.length=sz) (hv:hP Γ t (fEq (ptr b))) (hu:hP Γ u ψ) (he:Ent (eI φs) Φ) (hd:Δ=aA b ty' φs :: Δ'):
 T β n [] Γ Δ (bodyPost P fn (gA β (dF [Φ,ψ]) (fun _=>Δ')) .ret):=fun m L a w hF hL hS=>by
 subst hd
 obtain⟨χ,h1,h2⟩:=hv
 obtain⟨v,h3,h4⟩:=hF.get t χ h1
 have h5:v=ptr b:=h2 m v h4
 subst h5
 obtain⟨_,g1,g2⟩:=hu
 obtain⟨z,g3,g4⟩:=hF.get u _ g1
 obtain⟨cs,R,rfl,h6,h7⟩:=vS hL
 have hlen:cs.length=sz:=by rw [h6.length,hz]
 have hc:∀ (j:Nat) c,cs[j]? =some c->w.cell? (Addr.add ⟨b,0,none⟩ j)=some c:=fun j c hj=>by
  rw [wA];exact hS.own_cell (k:=0) (b:=b) (c:=cs.toArray) (T:=ty') (fz:=(0,0)) rfl rfl rfl (by simpa using hj)
 refine⟨hF.Aa, .tuple #[.agg cs.toArray,z],?_,m,R,hS.drop (List.sublist_cons_self _ _),_,rfl,⟨[.agg cs.toArray,z],rfl,_,[z],rfl,he m _ ⟨cs,rfl,h6⟩,z,[],rfl,g2 m z g4,rfl⟩,h7⟩
 have h8:=SX.run_loadCellsFrom (P:=P) (w:=w) (p:=⟨b,0,none⟩) cs 0 #[] (fun j v hj=>by simpa using hc j v hj)
 have hload:(loadVar ty ⟨b,0,none⟩).run P w= .ok (.agg cs.toArray) w:=by
  rw [hlen]at h8;simp [loadVar,a1Y,aCM hT,aDX hT,loadCells,Sem.run,pure,h8]
 simp [results,hr,a0b,h3,g3,a1Y,Sem.run,pure,ptr,asAddr]
 rw [hload]
 rfl
end
section
variable {P:Program} {Γ:Ctx} {o:Oper}
theorem aLk {T e:TypeId} {a:Option Addr} (hT:gS P T (.pointer e)) (n:Nat) (w:World):(Op.equalIn (n+1) T (.pointer a) (.pointer none)).run P w= .ok a.isNone w:=by
 cases a <;> simp [Op.equalIn,a1Y,run_underlying hT,Sem.run,pure]
theorem aIw {T e:TypeId} {a:Option Addr} (hT:gS P T (.pointer e)) (w:World):(Op.equal T (.pointer a) (.pointer none)).run P w= .ok a.isNone w:=aLk hT 9999 w
theorem opt_val {α:Type} {t:Ty α} {y:Option α} {m:Mem} {v:Value} (h:(fOpt t y).p m v):∃ a,v= .pointer a/\a.isNone=y.isNone:=by
 rcases h with⟨rfl,rfl⟩ | ⟨z,rfl,h⟩
 ·exact⟨none,rfl,rfl⟩
 ·obtain⟨a,rfl,_⟩:=h;exact⟨some a,rfl,rfl⟩
theorem aDt {α:Type} {t:Ty α} {T U e:TypeId} {x:Operand} {y:Option α} (ho:o.op= .binOp .eql T x (.const (.pointer none)) U) (hx:Has Γ x (fOpt t y)) (hT:gS P T (.pointer e)):OpT P Γ [] o (aK y.isNone):=
 eK (by rw [ho];rfl) fun β m a w he _=>by
  obtain⟨b,h1,h2⟩:=opt_val (he.get hx (by rw [ho];simp [Op.operands]))
  refine⟨.bool b.isNone,?_,by rw [h2];rfl⟩
  simp only [execOp,ho,h1];rw [show a.eval (.const (.pointer none))= .pointer none from rfl,a1Y,a1Y];cases b <;> simp [eqGuard,binOp,a1Y,aIw hT,Sem.run,pure]
end
open Go.SX
section
variable {P:Program} {Γ:Ctx} {o:Oper}
def fld2 (P:Program) (f:Field) (n:Nat):Bool:=f.name != "_" && Nat.beq f.offset n && (match P.underlying f.type with | some (.int .i64)=>true | _=>false)
def two (P:Program) (T:TypeId):Bool:=!P.stoodInHeld T && !P.eqGuardType P.depth T && match P.underlying T with
 | some (.struct fs)=>(match fs.toList with | [f,g]=>fld2 P f 0 && fld2 P g 1 | _=>false)
 | _=>false
theorem aF2 {f:Field} {n:Nat} (h:fld2 P f n=true):f.name≠ "_" /\f.offset=n/\P.underlying f.type=some (.int .i64):=by
 simp only [fld2,a0k,bne_iff_ne,ne_eq]at h
 refine⟨h.1.1,a1F h.1.2,?_⟩
 have h2:=h.2
 split at h2
 ·assumption
 ·cases h2
theorem two_eq {T:TypeId} (h:two P T=true):∃ f g,P.stoodInHeld T=false/\P.eqGuardType P.depth T=false/\P.underlying T=some (.struct (P.fieldsOf T))/\(P.fieldsOf T).toList=[f,g]/\fld2 P f 0=true/\fld2 P g 1=true:=by
 simp only [two,a0k,Bool.not_eq_true']at h
 obtain⟨⟨h1,h2⟩,h3⟩:=h
 split at h3
 ·rename_i fs hu;split at h3
  ·rename_i f g hl;rw [a0k]at h3;exact⟨f,g,h1,h2,by simp [Program.fieldsOf,hu],by simp [Program.fieldsOf,hu,hl],h3.1,h3.2⟩
  ·cases h3
 ·cases h3
theorem aB2 {T:TypeId} (hT:P.underlying T=some (.int .i64)) (w:World) {xs:Array Value} {i:Nat} {v:Value} (h:xs[i]? =some v):(part T xs i).run P w= .ok v w:=by
 have:(isAgg T).run P w= .ok false w:=by simp [isAgg,a1Y,run_underlying hT,Sem.run,pure]
 simp [part,a1Y,this,h,Sem.run,pure]
theorem run_two {T:TypeId} (h:two P T=true) (a b c d:Int) (w:World):
 (Op.equalIn 10000 T (.agg #[.int .i64 a, .int .i64 b]) (.agg #[.int .i64 c, .int .i64 d])).run P w= .ok (decide (a=c) && decide (b=d)) w:=by
 obtain⟨f,g,h1,h2,h3,h4,hf,hg⟩:=two_eq h
 obtain⟨f1,f2,f3⟩:=aF2 hf
 obtain⟨g1,g2,g3⟩:=aF2 hg
 have e (x y:Int):(x==y)=decide (x=y):=by
  rw [a0l];simp
 rw [run_equalIn_agg w 9999 T _ _ h3 h1,h4]
 simp only [Op.eqFields,a2f f1,a2f g1,a1Y,f2,g2]
 rw [aB2 f3 w (v:= .int .i64 a) rfl,a1X,aB2 f3 w (v:= .int .i64 c) rfl,a1X,run_equalIn_int w 9998 f.type _ _ _ _ f3,a1X,e]
 cases hac:decide (a=c)
 ·simp [Sem.run,pure]
 ·simp only [a0o,Bool.false_eq_true,if_false,a0p,a1Y];rw [aB2 g3 w (v:= .int .i64 b) rfl,a1X,aB2 g3 w (v:= .int .i64 d) rfl,a1X,run_equalIn_int w 9998 g.type _ _ _ _ g3,a1X,e];cases decide (b=d) <;> simp [Sem.run,pure]
theorem st_two {α:Type} {t:Ty α} {u:α} {i j:Int} (hl:t.An u=[aX .i64 i,aX .i64 j]) {m:Mem} {v:Value} (h:(fSt t u).p m v):v= .agg #[.int .i64 i, .int .i64 j]:=by
 obtain⟨cs,rfl,h2⟩:=h
 rw [hl]at h2
 obtain⟨_,_,rfl,rfl,_,_,rfl,rfl,rfl⟩:=h2
 rfl
theorem aFD {α:Type} {t:Ty α} {T U:TypeId} {x y:Operand} {u v:α} {i j i' j':Int} (ho:o.op= .binOp .neq T x y U) (hx:Has Γ x (fSt t u)) (hy:Has Γ y (fSt t v)) (hl:t.An u=[aX .i64 i,aX .i64 j]) (hl':t.An v=[aX .i64 i',aX .i64 j']) (hT:two P T=true):
 OpT P Γ [] o (aK !(decide (i=i') && decide (j=j'))):=
 eK (by rw [ho];rfl) fun β m a w he _=>by
  have h1:=st_two hl (he.get hx (by rw [ho];simp [Op.operands]))
  have h2:=st_two hl' (he.get hy (by rw [ho];simp [Op.operands]))
  obtain⟨_,_,_,hg,_⟩:=two_eq hT;refine⟨.bool !(decide (i=i') && decide (j=j')),?_,rfl⟩;simp only [execOp,ho,h1,h2,a1Y,run_eqGuard_agg w .neq T _ _ _ _ hg,a1X,run_neq_struct,run_two hT];rfl
end
section
variable {P:Program} {r:Option Nat} {ops:Array Oper} {Γ:Ctx} {Δ:List Tk} {o:Oper} {l:List NO} {e:Env'} {i:Nat} {od:Env'->OD} {G:Env'->Cf->(Nat->Tk)->Prop}
theorem N_callT {g:Operand} {args:List Operand} {ts:Array TypeId} {f:FuncId} {first captured:Array Value} {φs ψs:List AJ} {Φ:AJ} {p d:Nat} {τ:Tk} {Δ':Oc->List Tk} (hod:od e= .op [p] true (fun _=>Φ) Δ') (hτ:∀ b,Δ' b=[cQ]) (hw:cI ops Γ o) (hp:Δ[p]? =some τ)
 (ho:o.op= .call { callee:= .value g,args:=args.toArray,argTypes:=ts }) (hd:o.dst=some d)
 (hg:Has Γ g (fEq (.func (.func f) first captured))) (hargs:aN Γ args φs) (hall:first.toList.map fEq++φs++captured.toList.map fEq=ψs) (hf:Ar P f) (hc:FnS P f ψs [τ] Φ (fun _=>[]))
 (k:∀ b,NC P r ops G l (e.set i b) (lk ((d,Φ) :: Γ)) (dOf (Δ.set p cQ))):NC P r ops G ((i,o,od) :: l) e (lk Γ) (dOf Δ):=by
 refine⟨?_,fun b=>?_⟩
 ·simp only [hod];refine⟨hw,?_,fun b=>by rw [hτ];rfl⟩
  intro β n ds m L R a w K Q hF hL hS hk;have hL:bT [τ] m L:=by
   simp only [a1c,a1e,dOf,hp,a1S]at hL;exact hL
  have he:=oT hF;have hge:a.eval g=_:=he.get hg (by rw [ho];simp [Op.operands,Call.operands])
  have hall':aU ψs m (first.toList++args.map a.eval++captured.toList):=hall ▸ (((iY _).append (hargs.all' he (by rw [ho];intro x hx;simp [Op.operands,Call.operands,hx]))).append (iY _))
  refine rE (L:=L) ho hge rfl hf (hc m L _ hall' hL) hS (fun m' L' v w' hle ⟨u,hv,h3,h4⟩ hS'=>?_) (fun m' L' c w' _ ⟨u,hv,_⟩ _=>by cases hv) (fun m' L' ⟨u,hv,_⟩=>by cases hv)
  cases hv;have h4:L'=[]:=h4;subst h4;exact hk default m' [] v w' hle h3 (by simp only [OD.wr,if_true];rw [hτ];exact⟨[],[],rfl,rfl,rfl⟩) hS'
 ·have hlt:=(a0K.1 hp).1;simp only [hod,fW,fH,if_true,hd,hτ];rw [aAv hlt];exact k b
end
end Go.SW
namespace Go.Proofs.YtgidgoahhepmlaaGreat
open Go.SX Go.SW Go.Dt
theorem bK:Tryz.prog.follows .mixedOrders=true:=by kernel_rfl
theorem aJH:iJ Tryz.prog 113 [(0,5),(5,1),(6,1),(7,1),(8,4)] (.agg #[.slice none 0 0, .slice none 0 0, .slice none 0 0, .slice none 0 0, .int .i64 0, .slice none 0 0, .slice none 0 0, .slice none 0 0, .slice none 0 0, .slice none 0 0, .slice none 0 0, .int .i64 0]):=⟨(by kernel_rfl:iE Tryz.prog 113=some [(0,5),(5,1),(6,1),(7,1),(8,4)]),(by kernel_rfl:cS Tryz.prog 113=some (.agg #[.slice none 0 0, .slice none 0 0, .slice none 0 0, .slice none 0 0, .int .i64 0, .slice none 0 0, .slice none 0 0, .slice none 0 0, .slice none 0 0, .slice none 0 0, .slice none 0 0, .int .i64 0]))⟩
theorem aIE:iJ Tryz.prog 122 [(0,4),(4,1),(5,1),(6,1),(7,1)] (.agg #[.slice none 0 0, .slice none 0 0, .slice none 0 0, .int .i64 0, .slice none 0 0, .slice none 0 0, .slice none 0 0, .bool false]):=⟨(by kernel_rfl:iE Tryz.prog 122=some [(0,4),(4,1),(5,1),(6,1),(7,1)]),(by kernel_rfl:cS Tryz.prog 122=some (.agg #[.slice none 0 0, .slice none 0 0, .slice none 0 0, .int .i64 0, .slice none 0 0, .slice none 0 0, .slice none 0 0, .bool false]))⟩
theorem aIu:iJ Tryz.prog 131 [(0,4),(4,1),(5,1),(6,1)] (.agg #[.slice none 0 0, .slice none 0 0, .slice none 0 0, .int .i64 0, .slice none 0 0, .slice none 0 0, .slice none 0 0]):=⟨(by kernel_rfl:iE Tryz.prog 131=some [(0,4),(4,1),(5,1),(6,1)]),(by kernel_rfl:cS Tryz.prog 131=some (.agg #[.slice none 0 0, .slice none 0 0, .slice none 0 0, .int .i64 0, .slice none 0 0, .slice none 0 0, .slice none 0 0]))⟩
theorem aKV:iJ Tryz.prog 207 [] (.agg #[]):=⟨(by kernel_rfl:iE Tryz.prog 207=some []),(by kernel_rfl:cS Tryz.prog 207=some (.agg #[]))⟩
theorem aJV:iJ Tryz.prog 208 [] (.agg #[]):=⟨(by kernel_rfl:iE Tryz.prog 208=some []),(by kernel_rfl:cS Tryz.prog 208=some (.agg #[]))⟩
theorem aKj:iJ Tryz.prog 236 [] (.agg #[]):=⟨(by kernel_rfl:iE Tryz.prog 236=some []),(by kernel_rfl:cS Tryz.prog 236=some (.agg #[]))⟩
theorem aLj:iJ Tryz.prog 237 [] (.agg #[]):=⟨(by kernel_rfl:iE Tryz.prog 237=some []),(by kernel_rfl:cS Tryz.prog 237=some (.agg #[]))⟩
theorem aLy:iJ Tryz.prog 245 [(0,1)] (.agg #[.int .i64 0]):=⟨(by kernel_rfl:iE Tryz.prog 245=some [(0,1)]),(by kernel_rfl:cS Tryz.prog 245=some (.agg #[.int .i64 0]))⟩
theorem aGV:iJ Tryz.prog 26 [(0,1),(1,1),(2,1),(3,1)] (.agg #[.slice none 0 0, .slice none 0 0, .slice none 0 0, .int .i64 0]):=⟨(by kernel_rfl:iE Tryz.prog 26=some [(0,1),(1,1),(2,1),(3,1)]),(by kernel_rfl:cS Tryz.prog 26=some (.agg #[.slice none 0 0, .slice none 0 0, .slice none 0 0, .int .i64 0]))⟩
theorem aDr:iJ Tryz.prog 30 [(0,1),(1,1),(2,1),(3,1),(4,1)] (.agg #[.slice none 0 0, .slice none 0 0, .slice none 0 0, .slice none 0 0, .int .i64 0]):=⟨(by kernel_rfl:iE Tryz.prog 30=some [(0,1),(1,1),(2,1),(3,1),(4,1)]),(by kernel_rfl:cS Tryz.prog 30=some (.agg #[.slice none 0 0, .slice none 0 0, .slice none 0 0, .slice none 0 0, .int .i64 0]))⟩
theorem ty_bu_54:iJ Tryz.prog 54 [(0,1),(1,1),(2,1),(3,1),(4,1)] (.agg #[.int .i64 0, .int .i64 0, .slice none 0 0, .slice none 0 0, .slice none 0 0]):=⟨(by kernel_rfl:iE Tryz.prog 54=some [(0,1),(1,1),(2,1),(3,1),(4,1)]),(by kernel_rfl:cS Tryz.prog 54=some (.agg #[.int .i64 0, .int .i64 0, .slice none 0 0, .slice none 0 0, .slice none 0 0]))⟩
theorem ty_bu_65:iJ Tryz.prog 65 [(0,1),(1,1),(2,1),(3,1)] (.agg #[.int .i64 0, .int .i64 0, .slice none 0 0, .slice none 0 0]):=⟨(by kernel_rfl:iE Tryz.prog 65=some [(0,1),(1,1),(2,1),(3,1)]),(by kernel_rfl:cS Tryz.prog 65=some (.agg #[.int .i64 0, .int .i64 0, .slice none 0 0, .slice none 0 0]))⟩
theorem aFL:iJ Tryz.prog 71 [(0,1),(1,1),(2,1)] (.agg #[.int .i64 0, .int .i64 0, .slice none 0 0]):=⟨(by kernel_rfl:iE Tryz.prog 71=some [(0,1),(1,1),(2,1)]),(by kernel_rfl:cS Tryz.prog 71=some (.agg #[.int .i64 0, .int .i64 0, .slice none 0 0]))⟩
theorem ty_bu_77:iJ Tryz.prog 77 [(0,1),(1,1),(2,1)] (.agg #[.slice none 0 0, .slice none 0 0, .slice none 0 0]):=⟨(by kernel_rfl:iE Tryz.prog 77=some [(0,1),(1,1),(2,1)]),(by kernel_rfl:cS Tryz.prog 77=some (.agg #[.slice none 0 0, .slice none 0 0, .slice none 0 0]))⟩
theorem wM:lK Tryz.prog 201 bX (.bool false):=⟨3,4,by kernel_rfl,by kernel_rfl,by kernel_rfl⟩
theorem kV:lK Tryz.prog 273 kStr (.bool false):=⟨9,4,by kernel_rfl,by kernel_rfl,by kernel_rfl⟩
theorem sG:lK Tryz.prog 55 bX (.slice none 0 0):=⟨3,27,by kernel_rfl,by kernel_rfl,by kernel_rfl⟩
theorem aCC:niB Tryz.prog 207=true:=by kernel_rfl
theorem aDp:niB Tryz.prog 208=true:=by kernel_rfl
theorem aHB:niB Tryz.prog 235=true:=by kernel_rfl
theorem aHR:niB Tryz.prog 236=true:=by kernel_rfl
theorem aF8:niB Tryz.prog 237=true:=by kernel_rfl
theorem aFU:niB Tryz.prog 245=true:=by kernel_rfl
theorem aJW:two Tryz.prog 135=true:=by kernel_rfl
theorem aIb:two Tryz.prog 84=true:=by kernel_rfl
theorem aJ8:gS Tryz.prog 4 .bool:=(by kernel_rfl:Tryz.prog.underlying 4=some .bool)
theorem aGb:Tryz.prog.underlying 20=some (.interface ((Tryz.prog.underlying 20).elim #[] fun | .interface ms=>ms | _=>#[])):=by kernel_rfl
theorem aHH:Tryz.prog.underlying 205=some (.interface ((Tryz.prog.underlying 205).elim #[] fun | .interface ms=>ms | _=>#[])):=by kernel_rfl
theorem aD0:gS Tryz.prog 109 (.pointer 113):=(by kernel_rfl:Tryz.prog.underlying 109=some (.pointer 113))
theorem nH:gS Tryz.prog 9 .string:=(by kernel_rfl:Tryz.prog.underlying 9=some .string)
theorem aES:cS Tryz.prog 207=some (.agg #[]):=by kernel_rfl
theorem aFf:cS Tryz.prog 208=some (.agg #[]):=by kernel_rfl
theorem aJj:cS Tryz.prog 236=some (.agg #[]):=by kernel_rfl
theorem aJ4:cS Tryz.prog 237=some (.agg #[]):=by kernel_rfl
theorem aKr:cS Tryz.prog 245=some (.agg #[.int .i64 0]):=by kernel_rfl
theorem aIq:SX.Zero Tryz.prog 135 (.agg #[.int .i64 0, .int .i64 0]):=(by kernel_rfl:cS Tryz.prog 135=some (.agg #[.int .i64 0, .int .i64 0]))
theorem aJo:SX.Zero Tryz.prog 201 (.map none):=(by kernel_rfl:cS Tryz.prog 201=some (.map none))
theorem aKD:SX.Zero Tryz.prog 234 (.nilFunc):=(by kernel_rfl:cS Tryz.prog 234=some (.nilFunc))
theorem aLo:SX.Zero Tryz.prog 245 (.agg #[.int .i64 0]):=(by kernel_rfl:cS Tryz.prog 245=some (.agg #[.int .i64 0]))
theorem aHY:SX.Zero Tryz.prog 26 (.agg #[.slice none 0 0, .slice none 0 0, .slice none 0 0, .int .i64 0]):=(by kernel_rfl:cS Tryz.prog 26=some (.agg #[.slice none 0 0, .slice none 0 0, .slice none 0 0, .int .i64 0]))
theorem aAF:SX.Zero Tryz.prog 27 (.slice none 0 0):=(by kernel_rfl:cS Tryz.prog 27=some (.slice none 0 0))
theorem aIU:SX.Zero Tryz.prog 276 (.nilFunc):=(by kernel_rfl:cS Tryz.prog 276=some (.nilFunc))
theorem tQ:SX.Zero Tryz.prog 3 (.int .i64 0):=(by kernel_rfl:cS Tryz.prog 3=some (.int .i64 0))
theorem aEb:SX.Zero Tryz.prog 30 (.agg #[.slice none 0 0, .slice none 0 0, .slice none 0 0, .slice none 0 0, .int .i64 0]):=(by kernel_rfl:cS Tryz.prog 30=some (.agg #[.slice none 0 0, .slice none 0 0, .slice none 0 0, .slice none 0 0, .int .i64 0]))
theorem aCs:SX.Zero Tryz.prog 31 (.int .i64 0):=(by kernel_rfl:cS Tryz.prog 31=some (.int .i64 0))
theorem aBE:SX.Zero Tryz.prog 4 (.bool false):=(by kernel_rfl:cS Tryz.prog 4=some (.bool false))
theorem ty_ze_45:SX.Zero Tryz.prog 45 (.slice none 0 0):=(by kernel_rfl:cS Tryz.prog 45=some (.slice none 0 0))
theorem tR:SX.Zero Tryz.prog 54 (.agg #[.int .i64 0, .int .i64 0, .slice none 0 0, .slice none 0 0, .slice none 0 0]):=(by kernel_rfl:cS Tryz.prog 54=some (.agg #[.int .i64 0, .int .i64 0, .slice none 0 0, .slice none 0 0, .slice none 0 0]))
theorem aH8:SX.Zero Tryz.prog 55 (.map none):=(by kernel_rfl:cS Tryz.prog 55=some (.map none))
theorem ty_ze_63:SX.Zero Tryz.prog 63 (.nilFunc):=(by kernel_rfl:cS Tryz.prog 63=some (.nilFunc))
theorem rP:SX.Zero Tryz.prog 65 (.agg #[.int .i64 0, .int .i64 0, .slice none 0 0, .slice none 0 0]):=(by kernel_rfl:cS Tryz.prog 65=some (.agg #[.int .i64 0, .int .i64 0, .slice none 0 0, .slice none 0 0]))
theorem iP:SX.Zero Tryz.prog 71 (.agg #[.int .i64 0, .int .i64 0, .slice none 0 0]):=(by kernel_rfl:cS Tryz.prog 71=some (.agg #[.int .i64 0, .int .i64 0, .slice none 0 0]))
theorem vI:SX.Zero Tryz.prog 77 (.agg #[.slice none 0 0, .slice none 0 0, .slice none 0 0]):=(by kernel_rfl:cS Tryz.prog 77=some (.agg #[.slice none 0 0, .slice none 0 0, .slice none 0 0]))
theorem rU:SX.Zero Tryz.prog 81 (.agg #[.int .i64 0, .slice none 0 0, .int .i64 0]):=(by kernel_rfl:cS Tryz.prog 81=some (.agg #[.int .i64 0, .slice none 0 0, .int .i64 0]))
theorem xB:SX.Zero Tryz.prog 84 (.agg #[.int .i64 0, .int .i64 0]):=(by kernel_rfl:cS Tryz.prog 84=some (.agg #[.int .i64 0, .int .i64 0]))
def aEl (b:Nat) (x:Ad) (v0 v1 v2:Value):List Tk:=[aA b 131 [fSl aD x.p.AF,fSl aM x.p.AD,fSl aB x.p.AE,aX .i64 x.p.AG,fEq v0,fEq v1,fEq v2],aC v0 3 (cH .i64) x.Af,aC v1 4 bE x.AT,aC v2 4 bE x.Aa]
def aEp (b:Nat) (x:Ad) (v0 v1:Value):List Tk:=[tEx (aEl b x v0 v1)]
def aEG (b:Nat) (x:Ad) (v0:Value):List Tk:=[tEx (aEp b x v0)]
def aCa (b:Nat) (x:Ad):Tk:=tEx (aEG b x)
theorem xX {β:bI} {n:Nat} {ds:List Deferred} {Γ:Ctx} {Δ:List Tk} {F:Act->World->Prop} {b:Nat} {x:Ad} (h:∀ v0 v1 v2,T β n ds Γ (aA b 131 [fSl aD x.p.AF,fSl aM x.p.AD,fSl aB x.p.AE,aX .i64 x.p.AG,fEq v0,fEq v1,fEq v2] :: aC v0 3 (cH .i64) x.Af :: aC v1 4 bE x.AT :: aC v2 4 bE x.Aa :: Δ) F):T β n ds Γ (aCa b x :: Δ) F:=jW (fun v0=>jW (fun v1=>jW (fun v2=>h v0 v1 v2)))
theorem zG {β:bI} {n:Nat} {ds:List Deferred} {Γ:Ctx} {Δ:List Tk} {F:Act->World->Prop} {b:Nat} {x:Ad} {v0 v1 v2:Value} (h:T β n ds Γ (aCa b x :: Δ) F):T β n ds Γ (aA b 131 [fSl aD x.p.AF,fSl aM x.p.AD,fSl aB x.p.AE,aX .i64 x.p.AG,fEq v0,fEq v1,fEq v2] :: aC v0 3 (cH .i64) x.Af :: aC v1 4 bE x.AT :: aC v2 4 bE x.Aa :: Δ) F:=jY (f:=aEl b x v0 v1) v2 (jY (f:=aEp b x v0) v1 (jY (f:=aEG b x) v0 (h)))
def aE1 (b:Nat) (x:(List Int)) (v0:Value):List Tk:=[aA b 27 [fEq v0],aC v0 3 (cH .i64) x]
def aBl (b:Nat) (x:(List Int)):Tk:=tEx (aE1 b x)
theorem aDW {β:bI} {n:Nat} {ds:List Deferred} {Γ:Ctx} {Δ:List Tk} {F:Act->World->Prop} {b:Nat} {x:(List Int)} (h:∀ v0,T β n ds Γ (aA b 27 [fEq v0] :: aC v0 3 (cH .i64) x :: Δ) F):T β n ds Γ (aBl b x :: Δ) F:=jW (fun v0=>h v0)
theorem aDA {β:bI} {n:Nat} {ds:List Deferred} {Γ:Ctx} {Δ:List Tk} {F:Act->World->Prop} {b:Nat} {x:(List Int)} {v0:Value} (h:T β n ds Γ (aBl b x :: Δ) F):T β n ds Γ (aA b 27 [fEq v0] :: aC v0 3 (cH .i64) x :: Δ) F:=jY (f:=aE1 b x) v0 (h)
def aGq (b:Nat) (x:AH) (v0:Value):List Tk:=[aA b 30 [fSl aD x.AF,fSl (cH .i64) x.AQ,fEq v0,fSl aB x.AE,aX .i64 x.AG],aC v0 54 bM x.AD]
def aAM (b:Nat) (x:AH):Tk:=tEx (aGq b x)
theorem aAL {β:bI} {n:Nat} {ds:List Deferred} {Γ:Ctx} {Δ:List Tk} {F:Act->World->Prop} {b:Nat} {x:AH} (h:∀ v0,T β n ds Γ (aA b 30 [fSl aD x.AF,fSl (cH .i64) x.AQ,fEq v0,fSl aB x.AE,aX .i64 x.AG] :: aC v0 54 bM x.AD :: Δ) F):T β n ds Γ (aAM b x :: Δ) F:=jW (fun v0=>h v0)
theorem aAz {β:bI} {n:Nat} {ds:List Deferred} {Γ:Ctx} {Δ:List Tk} {F:Act->World->Prop} {b:Nat} {x:AH} {v0:Value} (h:T β n ds Γ (aAM b x :: Δ) F):T β n ds Γ (aA b 30 [fSl aD x.AF,fSl (cH .i64) x.AQ,fEq v0,fSl aB x.AE,aX .i64 x.AG] :: aC v0 54 bM x.AD :: Δ) F:=jY (f:=aGq b x) v0 (h)
def aEu (b:Nat) (x:Ae) (v0 v1 v2 v3:Value):List Tk:=[aA b 113 [fSl aD x.AH.AF,fSl (cH .i64) x.AH.AQ,fSl bM x.AH.AD,fSl aB x.AH.AE,aX .i64 x.AH.AG,fEq v0,fEq v1,fEq v2,fSl aD x.AK.AF,fEq v3,fSl aB x.AK.AE,aX .i64 x.AK.AG],aC v0 27 (tSl (cH .i64)) x.Ai,aC v1 27 (tSl (cH .i64)) x.Ab,aC v2 4 bE x.AZ,aC v3 65 aM x.AK.AD]
def aFt (b:Nat) (x:Ae) (v0 v1 v2:Value):List Tk:=[tEx (aEu b x v0 v1 v2)]
def aEB (b:Nat) (x:Ae) (v0 v1:Value):List Tk:=[tEx (aFt b x v0 v1)]
def aFy (b:Nat) (x:Ae) (v0:Value):List Tk:=[tEx (aEB b x v0)]
def lU (b:Nat) (x:Ae):Tk:=tEx (aFy b x)
theorem nI {β:bI} {n:Nat} {ds:List Deferred} {Γ:Ctx} {Δ:List Tk} {F:Act->World->Prop} {b:Nat} {x:Ae} (h:∀ v0 v1 v2 v3,T β n ds Γ (aA b 113 [fSl aD x.AH.AF,fSl (cH .i64) x.AH.AQ,fSl bM x.AH.AD,fSl aB x.AH.AE,aX .i64 x.AH.AG,fEq v0,fEq v1,fEq v2,fSl aD x.AK.AF,fEq v3,fSl aB x.AK.AE,aX .i64 x.AK.AG] :: aC v0 27 (tSl (cH .i64)) x.Ai :: aC v1 27 (tSl (cH .i64)) x.Ab :: aC v2 4 bE x.AZ :: aC v3 65 aM x.AK.AD :: Δ) F):T β n ds Γ (lU b x :: Δ) F:=jW (fun v0=>jW (fun v1=>jW (fun v2=>jW (fun v3=>h v0 v1 v2 v3))))
theorem eW {β:bI} {n:Nat} {ds:List Deferred} {Γ:Ctx} {Δ:List Tk} {F:Act->World->Prop} {b:Nat} {x:Ae} {v0 v1 v2 v3:Value} (h:T β n ds Γ (lU b x :: Δ) F):T β n ds Γ (aA b 113 [fSl aD x.AH.AF,fSl (cH .i64) x.AH.AQ,fSl bM x.AH.AD,fSl aB x.AH.AE,aX .i64 x.AH.AG,fEq v0,fEq v1,fEq v2,fSl aD x.AK.AF,fEq v3,fSl aB x.AK.AE,aX .i64 x.AK.AG] :: aC v0 27 (tSl (cH .i64)) x.Ai :: aC v1 27 (tSl (cH .i64)) x.Ab :: aC v2 4 bE x.AZ :: aC v3 65 aM x.AK.AD :: Δ) F:=jY (f:=aEu b x v0 v1 v2) v3 (jY (f:=aFt b x v0 v1) v2 (jY (f:=aEB b x v0) v1 (jY (f:=aFy b x) v0 (h))))
def aHo (b:Nat) (x:Ah) (v0 v1 v2:Value):List Tk:=[aA b 122 [fSl aD x.p.AF,fSl aM x.p.AD,fSl aB x.p.AE,aX .i64 x.p.AG,fEq v0,fEq v1,fEq v2,aK x.bad],aC v0 3 (cH .i64) x.Af,aC v1 3 (cH .i64) x.Al,aC v2 3 (cH .i64) x.Ak]
def aEO (b:Nat) (x:Ah) (v0 v1:Value):List Tk:=[tEx (aHo b x v0 v1)]
def aHK (b:Nat) (x:Ah) (v0:Value):List Tk:=[tEx (aEO b x v0)]
def qU (b:Nat) (x:Ah):Tk:=tEx (aHK b x)
theorem tZ {β:bI} {n:Nat} {ds:List Deferred} {Γ:Ctx} {Δ:List Tk} {F:Act->World->Prop} {b:Nat} {x:Ah} (h:∀ v0 v1 v2,T β n ds Γ (aA b 122 [fSl aD x.p.AF,fSl aM x.p.AD,fSl aB x.p.AE,aX .i64 x.p.AG,fEq v0,fEq v1,fEq v2,aK x.bad] :: aC v0 3 (cH .i64) x.Af :: aC v1 3 (cH .i64) x.Al :: aC v2 3 (cH .i64) x.Ak :: Δ) F):T β n ds Γ (qU b x :: Δ) F:=jW (fun v0=>jW (fun v1=>jW (fun v2=>h v0 v1 v2)))
theorem fZ {β:bI} {n:Nat} {ds:List Deferred} {Γ:Ctx} {Δ:List Tk} {F:Act->World->Prop} {b:Nat} {x:Ah} {v0 v1 v2:Value} (h:T β n ds Γ (qU b x :: Δ) F):T β n ds Γ (aA b 122 [fSl aD x.p.AF,fSl aM x.p.AD,fSl aB x.p.AE,aX .i64 x.p.AG,fEq v0,fEq v1,fEq v2,aK x.bad] :: aC v0 3 (cH .i64) x.Af :: aC v1 3 (cH .i64) x.Al :: aC v2 3 (cH .i64) x.Ak :: Δ) F:=jY (f:=aHo b x v0 v1) v2 (jY (f:=aEO b x v0) v1 (jY (f:=aHK b x) v0 (h)))
def usL:List (Nat × Nat):=[(22,9),(23,65),(24,77),(27,3),(28,54),(52,71),(73,135),(74,84),(75,81),(111,4)]
theorem usK:(usL.all fun p=>onb (slB Tryz.prog p.1) p.2)=true:=by kernel_rfl
theorem us {t e:Nat} (h:tb usL t=some e):gS Tryz.prog t (.slice e):=us_of usK h
def elL:List (Nat × Nat):=[(22,1),(23,4),(24,3),(27,1),(28,5),(45,1),(52,3),(73,2),(74,2),(75,3),(111,1)]
theorem elK:(elL.all fun p=>onb (vZ Tryz.prog p.1) p.2)=true:=by kernel_rfl
theorem el {t e:Nat} (h:tb elL t=some e):qK Tryz.prog t e:=el_of elK h
def szL:List (Nat × Nat):=[(3,1),(4,1),(26,4),(27,1),(30,5),(31,1),(45,1),(52,1),(54,5),(55,1),(63,1),(65,4),(71,3),(75,1),(77,3),(81,3),(84,2),(135,2),(201,1),(234,1),(245,1),(276,1)]
theorem szK:(szL.all fun p=>onb (nC Tryz.prog p.1) p.2)=true:=by kernel_rfl
theorem sz {t e:Nat} (h:tb szL t=some e):iC Tryz.prog t e:=sz_of szK h
def agL:List (Nat × Nat):=[(26,4),(30,5),(54,5),(65,4),(71,3),(77,3),(81,3),(84,2),(135,2)]
theorem agK:(agL.all fun p=>aggB Tryz.prog p.1 p.2)=true:=by kernel_rfl
theorem ag {t e:Nat} (h:tb agL t=some e):lB Tryz.prog t e:=ag_of agK h
def scL:List (Nat):=[3,4,9,22,23,24,27,28,31,45,51,52,55,63,69,73,74,75,111,129,132,163,201,234,276]
theorem scK:(scL.all fun p=>scalB Tryz.prog p)=true:=by kernel_rfl
theorem sc {t:Nat} (h:(scL.any fun p=>Nat.beq p t)=true):Scal Tryz.prog t:=sc_of scK h
def cbL:List (Nat):=[7,9,10,11,13,15,16,17,21,22,23,24,25,26,27,28,29,30,31,32,33,37,38,39,45,47,49,50,51,52,53,54,55,56,57,58,59,76,77,78,81,82,83,84,85,86,87,90,91,106,107,108,109,110,111,113,116,117,118,119,120,121,122,123,124,136,137,150,151,152,153,154,155,162,163,164,165,174,175,176,177,178,179,202,203,204,218,236,237,238,239,240]
theorem cbK:(cbL.all fun p=>callB Tryz.prog p)=true:=by kernel_rfl
theorem cb {t:Nat} (h:(cbL.any fun p=>Nat.beq p t)=true):Ar Tryz.prog t:=cb_of cbK h
def faL:List (Nat × Nat × Nat):=[(26,0,0),(26,1,1),(26,2,2),(26,3,3),(30,0,0),(30,1,1),(30,2,2),(30,3,3),(30,4,4),(54,0,0),(54,1,1),(54,2,2),(54,3,3),(54,4,4),(65,0,0),(65,1,1),(65,2,2),(65,3,3),(71,0,0),(71,1,1),(71,2,2),(77,0,0),(77,1,1),(77,2,2),(81,0,0),(81,1,1),(81,2,2),(84,0,0),(84,1,1),(113,0,0),(113,1,5),(113,2,6),(113,3,7),(113,4,8),(122,0,0),(122,1,4),(122,2,5),(122,3,6),(122,4,7),(131,0,0),(131,1,4),(131,2,5),(131,3,6),(135,0,0),(135,1,1),(245,0,0)]
theorem faK:(faL.all fun p=>onb (aBI Tryz.prog p.1 p.2.1) p.2.2)=true:=by kernel_rfl
theorem fa {s f t:Nat} (h:tb3 faL s f=some t):tP Tryz.prog s f t:=fa_of faK h
def etL:List (Nat × Nat × Nat × Nat):=[(22,9,1,16),(23,65,4,64),(24,77,3,72),(27,3,1,8),(28,54,5,88),(45,27,1,24),(52,71,3,40),(73,135,2,16),(74,84,2,16),(75,81,3,40),(111,4,1,1)]
theorem etK:(etL.all fun p=>elB Tryz.prog p.1 p.2.1 p.2.2.1 p.2.2.2)=true:=by kernel_rfl
theorem et {t e s b:Nat} (h:tb4 etL t=some (e,s,b)):ElT Tryz.prog t e s b:=et_of etK h
def aIO:List (Nat × Nat × Nat):=[(113,4,0),(131,0,0)]
theorem ox {Γ:Ctx} {o:Oper} {φ:AJ} (h:OpT Tryz.prog Γ [] o φ:=by first
 | exact o_fieldC cN aIO rfl (by exact rfl) hh (fa rfl) (by exact rfl)
 | exact cF rfl hh
 | exact fY rfl hh (sc rfl) (by exact rfl)
 | exact cT rfl hh hh (el (by exact rfl)) (by with_reducible assumption)
 | exact fC rfl hh (us rfl)
 | exact cL rfl hh cf hh
 | exact cZ rfl hh ct hh
 | exact xA rfl hh hh
 | exact o_eql rfl hh hh
 | exact mK rfl hh hh
 | exact gV rfl hh hh
 | exact o_leq rfl hh hh
 | exact sI rfl hh hh
 | exact fP rfl hh hh (by with_reducible assumption)
 | exact aBS rfl hh
 | exact aJg rfl hh (by exact rfl)
 | exact mV rfl hh
 | exact o_nilP rfl hh
 | exact o_nilE rfl hh
 | exact aCi rfl hh (ag (by exact rfl))
 | exact bV _ rfl hh (fa rfl) rfl
 | exact gD (t':=cH _) rfl hh (fa rfl) (by exact rfl)
 | exact gD (t':=tSl _) rfl hh (fa rfl) (by exact rfl)
 | exact gD (t':=bE) rfl hh (fa rfl) (by exact rfl)
 | exact gD (t':=aD) rfl hh (fa rfl) (by exact rfl)
 | exact gD (t':=tRaw) rfl hh (fa rfl) (by exact rfl)
 | exact o_sub rfl hh hh (by with_reducible assumption)
 | exact o_mul rfl hh hh (by with_reducible assumption)
 | exact o_shr rfl hh hh (by with_reducible assumption)
 | exact o_min rfl hh hh
 | exact o_mulW rfl hh hh
 | exact o_addW rfl hh hh
 | exact o_and rfl hh hh):OpT Tryz.prog Γ [] o φ:=h
theorem oo {Γ:Ctx} {o:Oper} {φ:AJ} {τ:Tk} (h:OpT Tryz.prog Γ [τ] o φ:=by first
 | exact bB rfl hh (sc rfl) (by exact rfl) Ent.rfl
 | exact o_loadBS rfl hh (ag (by exact rfl)) (by exact rfl) (by exact rfl)
 | exact jR rfl hh hh (el (by exact rfl)) (by with_reducible assumption)
 | exact o_lenR rfl hh (us rfl)):OpT Tryz.prog Γ [τ] o φ:=h
theorem Z1 {P Q:Prop} (q:Q) (h:cX Q->P:=by
 intro q
 first
 | refine Nn ?_
 | refine Ym ?_
 | refine Sr ?_
 | refine Ya ?_
 | refine Zy (by exact trivial) ox (by exact rfl) (by exact rfl) ?_
 | refine Zk (by exact⟨_,_,rfl,rfl,rfl⟩) cn (by exact rfl) (by exact rfl) ?_
 | refine Zg (by exact⟨_,_,rfl,rfl,rfl⟩) cc ox (by exact rfl) (by exact rfl) ?_
 | refine aGn ?_
 | refine dD hh ct ?_
 | refine dB hh cf ?_
 | refine Rr ?_
 | refine aFC ?_
 | refine T_in_ret ?_
 | refine aKy ?_
 | refine T_skip ?_
 | refine T_block ?_
 | refine aFu ?_
 | refine T_in_n ?_
 | refine T_exit ?_
 | refine T_in_hit ?_
 | refine aJr rfl ?_
 | refine T_retc ?_
 | refine N_done rfl ?_
 | refine aLC ?_
 | refine aKt ?_
 | refine T_nil ?_
 | refine Zo 0 (by exact trivial) (by exact rfl) oo (by exact rfl) (by exact rfl) ?_
 | refine Zo 1 (by exact trivial) (by exact rfl) oo (by exact rfl) (by exact rfl) ?_
 | refine Zo 2 (by exact trivial) (by exact rfl) oo (by exact rfl) (by exact rfl) ?_
 | refine Zo 3 (by exact trivial) (by exact rfl) oo (by exact rfl) (by exact rfl) ?_
 | refine Zo 4 (by exact trivial) (by exact rfl) oo (by exact rfl) (by exact rfl) ?_
 | refine Zo 5 (by exact trivial) (by exact rfl) oo (by exact rfl) (by exact rfl) ?_
 | refine Zo 6 (by exact trivial) (by exact rfl) oo (by exact rfl) (by exact rfl) ?_
 | refine Zo 7 (by exact trivial) (by exact rfl) oo (by exact rfl) (by exact rfl) ?_
 | refine Zh 0 (by exact⟨_,_,rfl,rfl,rfl⟩) cc (by exact rfl) oo (by exact rfl) (by exact rfl) ?_
 | refine Zh 1 (by exact⟨_,_,rfl,rfl,rfl⟩) cc (by exact rfl) oo (by exact rfl) (by exact rfl) ?_
 | refine Zh 2 (by exact⟨_,_,rfl,rfl,rfl⟩) cc (by exact rfl) oo (by exact rfl) (by exact rfl) ?_
 | refine Zh 3 (by exact⟨_,_,rfl,rfl,rfl⟩) cc (by exact rfl) oo (by exact rfl) (by exact rfl) ?_
 | refine Zh 4 (by exact⟨_,_,rfl,rfl,rfl⟩) cc (by exact rfl) oo (by exact rfl) (by exact rfl) ?_
 | refine Zh 5 (by exact⟨_,_,rfl,rfl,rfl⟩) cc (by exact rfl) oo (by exact rfl) (by exact rfl) ?_
 | refine Zh 6 (by exact⟨_,_,rfl,rfl,rfl⟩) cc (by exact rfl) oo (by exact rfl) (by exact rfl) ?_
 | refine Zh 7 (by exact⟨_,_,rfl,rfl,rfl⟩) cc (by exact rfl) oo (by exact rfl) (by exact rfl) ?_
 exact q.h):P:=h ⟨q⟩
theorem Z2 {P Q:Prop} (q:Q) (h:cX Q->P:=by
 intro q
 refine Z1 ?_
 refine Z1 ?_
 exact q.h):P:=h ⟨q⟩
theorem Z3 {P Q:Prop} (q:Q) (h:cX Q->P:=by
 intro q
 refine Z1 ?_
 refine Z1 ?_
 refine Z1 ?_
 exact q.h):P:=h ⟨q⟩
theorem Z4 {P Q:Prop} (q:Q) (h:cX Q->P:=by
 intro q
 refine Z1 ?_
 refine Z1 ?_
 refine Z1 ?_
 refine Z1 ?_
 exact q.h):P:=h ⟨q⟩
theorem Z5 {P Q:Prop} (q:Q) (h:cX Q->P:=by
 intro q
 refine Z2 ?_
 refine Z3 ?_
 exact q.h):P:=h ⟨q⟩
theorem Z6 {P Q:Prop} (q:Q) (h:cX Q->P:=by
 intro q
 refine Z3 ?_
 refine Z3 ?_
 exact q.h):P:=h ⟨q⟩
theorem Z7 {P Q:Prop} (q:Q) (h:cX Q->P:=by
 intro q
 refine Z3 ?_
 refine Z4 ?_
 exact q.h):P:=h ⟨q⟩
theorem Z8 {P Q:Prop} (q:Q) (h:cX Q->P:=by
 intro q
 refine Z4 ?_
 refine Z4 ?_
 exact q.h):P:=h ⟨q⟩
theorem Z9 {P Q:Prop} (q:Q) (h:cX Q->P:=by
 intro q
 refine Z4 ?_
 refine Z5 ?_
 exact q.h):P:=h ⟨q⟩
theorem Z10 {P Q:Prop} (q:Q) (h:cX Q->P:=by
 intro q
 refine Z5 ?_
 refine Z5 ?_
 exact q.h):P:=h ⟨q⟩
theorem Z11 {P Q:Prop} (q:Q) (h:cX Q->P:=by
 intro q
 refine Z5 ?_
 refine Z6 ?_
 exact q.h):P:=h ⟨q⟩
theorem Z12 {P Q:Prop} (q:Q) (h:cX Q->P:=by
 intro q
 refine Z6 ?_
 refine Z6 ?_
 exact q.h):P:=h ⟨q⟩
theorem B1 {α γ:Type} {o:Option α} {f:α->Option γ} {r:γ} {P Q:Prop} (q:∀ x,o=some x->f x=some r->Q) (h:cX Q->P:=by
 intro q
 refine Z1 ?_
 exact q.h) (e:o.bind f=some r):P:=bs (fun x a b=>h ⟨q x a b⟩) e
theorem I1 {γ:Type} {p:Prop} [Decidable p] {a b:Option γ} {r:γ} {P Q:Prop} (k:decide p=true->a=some r->Q) (k':decide p=false->b=some r->Q) (h:cX Q->P:=by
 intro q
 refine Z1 ?_
 exact q.h) (e:(if p then a else b)=some r):P:=is (fun c a=>h ⟨k c a⟩) (fun c a=>h ⟨k' c a⟩) e
theorem B2 {α γ:Type} {o:Option α} {f:α->Option γ} {r:γ} {P Q:Prop} (q:∀ x,o=some x->f x=some r->Q) (h:cX Q->P:=by
 intro q
 refine Z2 ?_
 exact q.h) (e:o.bind f=some r):P:=bs (fun x a b=>h ⟨q x a b⟩) e
theorem I2 {γ:Type} {p:Prop} [Decidable p] {a b:Option γ} {r:γ} {P Q:Prop} (k:decide p=true->a=some r->Q) (k':decide p=false->b=some r->Q) (h:cX Q->P:=by
 intro q
 refine Z2 ?_
 exact q.h) (e:(if p then a else b)=some r):P:=is (fun c a=>h ⟨k c a⟩) (fun c a=>h ⟨k' c a⟩) e
theorem B3 {α γ:Type} {o:Option α} {f:α->Option γ} {r:γ} {P Q:Prop} (q:∀ x,o=some x->f x=some r->Q) (h:cX Q->P:=by
 intro q
 refine Z3 ?_
 exact q.h) (e:o.bind f=some r):P:=bs (fun x a b=>h ⟨q x a b⟩) e
theorem I3 {γ:Type} {p:Prop} [Decidable p] {a b:Option γ} {r:γ} {P Q:Prop} (k:decide p=true->a=some r->Q) (k':decide p=false->b=some r->Q) (h:cX Q->P:=by
 intro q
 refine Z3 ?_
 exact q.h) (e:(if p then a else b)=some r):P:=is (fun c a=>h ⟨k c a⟩) (fun c a=>h ⟨k' c a⟩) e
theorem B4 {α γ:Type} {o:Option α} {f:α->Option γ} {r:γ} {P Q:Prop} (q:∀ x,o=some x->f x=some r->Q) (h:cX Q->P:=by
 intro q
 refine Z4 ?_
 exact q.h) (e:o.bind f=some r):P:=bs (fun x a b=>h ⟨q x a b⟩) e
theorem I4 {γ:Type} {p:Prop} [Decidable p] {a b:Option γ} {r:γ} {P Q:Prop} (k:decide p=true->a=some r->Q) (k':decide p=false->b=some r->Q) (h:cX Q->P:=by
 intro q
 refine Z4 ?_
 exact q.h) (e:(if p then a else b)=some r):P:=is (fun c a=>h ⟨k c a⟩) (fun c a=>h ⟨k' c a⟩) e
theorem B5 {α γ:Type} {o:Option α} {f:α->Option γ} {r:γ} {P Q:Prop} (q:∀ x,o=some x->f x=some r->Q) (h:cX Q->P:=by
 intro q
 refine Z5 ?_
 exact q.h) (e:o.bind f=some r):P:=bs (fun x a b=>h ⟨q x a b⟩) e
theorem I5 {γ:Type} {p:Prop} [Decidable p] {a b:Option γ} {r:γ} {P Q:Prop} (k:decide p=true->a=some r->Q) (k':decide p=false->b=some r->Q) (h:cX Q->P:=by
 intro q
 refine Z5 ?_
 exact q.h) (e:(if p then a else b)=some r):P:=is (fun c a=>h ⟨k c a⟩) (fun c a=>h ⟨k' c a⟩) e
theorem B6 {α γ:Type} {o:Option α} {f:α->Option γ} {r:γ} {P Q:Prop} (q:∀ x,o=some x->f x=some r->Q) (h:cX Q->P:=by
 intro q
 refine Z6 ?_
 exact q.h) (e:o.bind f=some r):P:=bs (fun x a b=>h ⟨q x a b⟩) e
theorem I6 {γ:Type} {p:Prop} [Decidable p] {a b:Option γ} {r:γ} {P Q:Prop} (k:decide p=true->a=some r->Q) (k':decide p=false->b=some r->Q) (h:cX Q->P:=by
 intro q
 refine Z6 ?_
 exact q.h) (e:(if p then a else b)=some r):P:=is (fun c a=>h ⟨k c a⟩) (fun c a=>h ⟨k' c a⟩) e
theorem B7 {α γ:Type} {o:Option α} {f:α->Option γ} {r:γ} {P Q:Prop} (q:∀ x,o=some x->f x=some r->Q) (h:cX Q->P:=by
 intro q
 refine Z7 ?_
 exact q.h) (e:o.bind f=some r):P:=bs (fun x a b=>h ⟨q x a b⟩) e
theorem I7 {γ:Type} {p:Prop} [Decidable p] {a b:Option γ} {r:γ} {P Q:Prop} (k:decide p=true->a=some r->Q) (k':decide p=false->b=some r->Q) (h:cX Q->P:=by
 intro q
 refine Z7 ?_
 exact q.h) (e:(if p then a else b)=some r):P:=is (fun c a=>h ⟨k c a⟩) (fun c a=>h ⟨k' c a⟩) e
theorem B8 {α γ:Type} {o:Option α} {f:α->Option γ} {r:γ} {P Q:Prop} (q:∀ x,o=some x->f x=some r->Q) (h:cX Q->P:=by
 intro q
 refine Z8 ?_
 exact q.h) (e:o.bind f=some r):P:=bs (fun x a b=>h ⟨q x a b⟩) e
theorem B9 {α γ:Type} {o:Option α} {f:α->Option γ} {r:γ} {P Q:Prop} (q:∀ x,o=some x->f x=some r->Q) (h:cX Q->P:=by
 intro q
 refine Z9 ?_
 exact q.h) (e:o.bind f=some r):P:=bs (fun x a b=>h ⟨q x a b⟩) e
theorem I9 {γ:Type} {p:Prop} [Decidable p] {a b:Option γ} {r:γ} {P Q:Prop} (k:decide p=true->a=some r->Q) (k':decide p=false->b=some r->Q) (h:cX Q->P:=by
 intro q
 refine Z9 ?_
 exact q.h) (e:(if p then a else b)=some r):P:=is (fun c a=>h ⟨k c a⟩) (fun c a=>h ⟨k' c a⟩) e
theorem B10 {α γ:Type} {o:Option α} {f:α->Option γ} {r:γ} {P Q:Prop} (q:∀ x,o=some x->f x=some r->Q) (h:cX Q->P:=by
 intro q
 refine Z10 ?_
 exact q.h) (e:o.bind f=some r):P:=bs (fun x a b=>h ⟨q x a b⟩) e
theorem I10 {γ:Type} {p:Prop} [Decidable p] {a b:Option γ} {r:γ} {P Q:Prop} (k:decide p=true->a=some r->Q) (k':decide p=false->b=some r->Q) (h:cX Q->P:=by
 intro q
 refine Z10 ?_
 exact q.h) (e:(if p then a else b)=some r):P:=is (fun c a=>h ⟨k c a⟩) (fun c a=>h ⟨k' c a⟩) e
theorem B11 {α γ:Type} {o:Option α} {f:α->Option γ} {r:γ} {P Q:Prop} (q:∀ x,o=some x->f x=some r->Q) (h:cX Q->P:=by
 intro q
 refine Z11 ?_
 exact q.h) (e:o.bind f=some r):P:=bs (fun x a b=>h ⟨q x a b⟩) e
theorem B12 {α γ:Type} {o:Option α} {f:α->Option γ} {r:γ} {P Q:Prop} (q:∀ x,o=some x->f x=some r->Q) (h:cX Q->P:=by
 intro q
 refine Z12 ?_
 exact q.h) (e:o.bind f=some r):P:=bs (fun x a b=>h ⟨q x a b⟩) e
theorem ND {P Q:Prop} (q:Q) (h:cX Q->P:=by
 intro q
 dsimp only [iO,List.take,List.replicate,List.append,List.drop]
 exact q.h):P:=h ⟨q⟩
theorem M1 {P Q:Prop} (q:Q) (h:cX Q->P:=by
 intro q
 first
 | refine Ny (by exact trivial) ox (by exact rfl) ?_
 | refine Nk (by exact⟨_,_,rfl,rfl,rfl⟩) cn (by exact rfl) ?_
 | refine Ng (by exact⟨_,_,rfl,rfl,rfl⟩) cc ox (by exact rfl) ?_
 | refine No 0 (by exact trivial) (by exact rfl) oo (by exact rfl) ?_
 | refine No 1 (by exact trivial) (by exact rfl) oo (by exact rfl) ?_
 | refine No 2 (by exact trivial) (by exact rfl) oo (by exact rfl) ?_
 | refine No 3 (by exact trivial) (by exact rfl) oo (by exact rfl) ?_
 | refine No 4 (by exact trivial) (by exact rfl) oo (by exact rfl) ?_
 | refine No 5 (by exact trivial) (by exact rfl) oo (by exact rfl) ?_
 | refine No 6 (by exact trivial) (by exact rfl) oo (by exact rfl) ?_
 | refine No 7 (by exact trivial) (by exact rfl) oo (by exact rfl) ?_
 | refine Nh 0 (by exact⟨_,_,rfl,rfl,rfl⟩) cc (by exact rfl) oo (by exact rfl) ?_
 | refine Nh 1 (by exact⟨_,_,rfl,rfl,rfl⟩) cc (by exact rfl) oo (by exact rfl) ?_
 | refine Nh 2 (by exact⟨_,_,rfl,rfl,rfl⟩) cc (by exact rfl) oo (by exact rfl) ?_
 | refine Nh 3 (by exact⟨_,_,rfl,rfl,rfl⟩) cc (by exact rfl) oo (by exact rfl) ?_
 | refine Nh 4 (by exact⟨_,_,rfl,rfl,rfl⟩) cc (by exact rfl) oo (by exact rfl) ?_
 | refine Nh 5 (by exact⟨_,_,rfl,rfl,rfl⟩) cc (by exact rfl) oo (by exact rfl) ?_
 | refine Nh 6 (by exact⟨_,_,rfl,rfl,rfl⟩) cc (by exact rfl) oo (by exact rfl) ?_
 | refine Nh 7 (by exact⟨_,_,rfl,rfl,rfl⟩) cc (by exact rfl) oo (by exact rfl) ?_
 exact q.h):P:=h ⟨q⟩
theorem M2 {P Q:Prop} (q:Q) (h:cX Q->P:=by
 intro q
 refine M1 ?_
 intro b1
 refine M1 ?_
 revert b1
 exact q.h):P:=h ⟨q⟩
theorem M3 {P Q:Prop} (q:Q) (h:cX Q->P:=by
 intro q
 refine M1 ?_
 intro b1
 refine M1 ?_
 intro b2
 refine M1 ?_
 revert b1 b2
 exact q.h):P:=h ⟨q⟩
theorem M4 {P Q:Prop} (q:Q) (h:cX Q->P:=by
 intro q
 refine M1 ?_
 intro b1
 refine M1 ?_
 intro b2
 refine M1 ?_
 intro b3
 refine M1 ?_
 revert b1 b2 b3
 exact q.h):P:=h ⟨q⟩
theorem M5 {P Q:Prop} (q:Q) (h:cX Q->P:=by
 intro q
 refine M1 ?_
 intro b1
 refine M1 ?_
 intro b2
 refine M1 ?_
 intro b3
 refine M1 ?_
 intro b4
 refine M1 ?_
 revert b1 b2 b3 b4
 exact q.h):P:=h ⟨q⟩
theorem M6 {P Q:Prop} (q:Q) (h:cX Q->P:=by
 intro q
 refine M1 ?_
 intro b1
 refine M1 ?_
 intro b2
 refine M1 ?_
 intro b3
 refine M1 ?_
 intro b4
 refine M1 ?_
 intro b5
 refine M1 ?_
 revert b1 b2 b3 b4 b5
 exact q.h):P:=h ⟨q⟩
theorem M7 {P Q:Prop} (q:Q) (h:cX Q->P:=by
 intro q
 refine M1 ?_
 intro b1
 refine M1 ?_
 intro b2
 refine M1 ?_
 intro b3
 refine M1 ?_
 intro b4
 refine M1 ?_
 intro b5
 refine M1 ?_
 intro b6
 refine M1 ?_
 revert b1 b2 b3 b4 b5 b6
 exact q.h):P:=h ⟨q⟩
theorem M8 {P Q:Prop} (q:Q) (h:cX Q->P:=by
 intro q
 refine M1 ?_
 intro b1
 refine M1 ?_
 intro b2
 refine M1 ?_
 intro b3
 refine M1 ?_
 intro b4
 refine M1 ?_
 intro b5
 refine M1 ?_
 intro b6
 refine M1 ?_
 intro b7
 refine M1 ?_
 revert b1 b2 b3 b4 b5 b6 b7
 exact q.h):P:=h ⟨q⟩
open Go.SX Go.SW Go.Dt
attribute [local irreducible] Code.wpIn wpListIn Exit.then Exit.inBlock
theorem aCF (p0:Nat) (e0:Int):FnD Tryz.prog 136 [fEq (ptr p0)] [aA p0 31 [fI e0]] (.returning) [aA p0 31 [fI e0]]:=by
 refine FnD_of Tryz.func136 rfl Tryz.ntmps136 rfl (fun β c₀ cs hc=>?_)
 refine aHc (v:= .nilIface) (cs':=c₀ :: cs) (by simp [recoverD,hc]) rfl rfl rfl rfl rfl rfl ⟨rfl,rfl⟩ ?_
 refine T_inS ?_
 refine Z2 ?_
 refine Yy (aBw rfl hh aGb (rfl:jB _=some true)) ?_
 refine Z3 ?_
 exact T_endD (u':= .returning) (.inr rfl) rfl (by cases c₀;cases hc;rfl) rfl rfl
theorem aD9 (p0:Nat) (e0 e1:Int):FnD Tryz.prog 136 [fEq (ptr p0)] [aA p0 31 [fI e0]] (.panicking [{ v:=(.iface 245 (.agg #[.int .i64 e1])),recovered:=false }]) [aA p0 31 [fI e1]]:=by
 refine FnD_of Tryz.func136 rfl Tryz.ntmps136 rfl (fun β c₀ cs hc=>?_)
 refine aHc (v:=(.iface 245 (.agg #[.int .i64 e1]))) (cs':={ c₀ with mode:= .panicking [{ v:=(.iface 245 (.agg #[.int .i64 e1])),recovered:=true }] } :: cs) (by simp [recoverD,hc]) rfl rfl rfl rfl rfl rfl ⟨rfl,rfl⟩ ?_
 refine T_inS ?_
 refine Z2 ?_
 refine Yy (aBw rfl hh aGb (rfl:jB _=some false)) ?_
 refine Z4 ?_
 refine Yy (aLc rfl hh aFU aKr) ?_
 refine Z2 ?_
 refine nP 11 rfl (xE [(.int .i64 e1)]) ?_
 refine Z1 ?_
 refine Tn (bN rfl aLo rfl) fun b1=>?_
 refine cG (φs':=[fI e1]) a2g rfl rfl (has rfl) (has rfl) (aF (aH a2g) bF) (sz rfl) rfl rfl rfl ?_
 refine Z2 ?_
 refine aI ?_
 refine Z12 ?_
 refine cK ?_
 refine cC (φs':=[fI e1]) a2g rfl rfl (has rfl) (has rfl) (aH a2g) (sz rfl) rfl rfl ?_
 refine Z1 ?_
 refine aE [0] (by decide) ?_
 exact T_endD (u':= .panicking [{ v:=(.iface 245 (.agg #[.int .i64 e1])),recovered:=true }]) (.inr rfl) rfl rfl rfl rfl
def bR (a0:Bool):Option (Unit ⊕ Value):=
 bif a0 then
  some (Sum.inl ())
 else
  some (Sum.inr (.iface 245 (.agg ([(.int .i64 2)]:List Value).toArray)))
theorem aT  (a0:Bool) (r:Unit ⊕ Value) (H:bR a0=some r):FnE Tryz.prog 162 [aK a0] [] r (fun r=>dF []) (fun r=>[]):=by
 unfold bR at H
 refine sX Tryz.func162 rfl Tryz.ntmps162 rfl (fun β=>?_)
 refine Z4 ?_
 revert H;refine cs (fun c1 H=>?_) fun c1 H=>?_
 refine Z2 ?_
 cases H
 refine rZ ?_
 exact eP (.inr rfl) rfl rfl
 refine Z2 ?_
 refine Yy (gP (ψs:=[fI 2]) rfl aLy rfl (bQ.cons (has rfl) (cJ (aH a2g)) bQ.nil) rfl) ?_
 refine Yy (uA rfl (gC rfl (zU [(.int .i64 2)])) aFU) ?_
 refine T_panic a2g rfl (has rfl) ?_
 cases H
 exact bY
def aBe  :Option (aL ByteArray Bool):=
 some (aL.upd (aL.upd (aL.upd (aL.upd (aL.upd (aL.upd (aL.upd (aL.upd (aL.upd (aL.upd (aL.none:aL ByteArray Bool) ({ data:=#[97,110,100] }) true) ({ data:=#[100,101,102] }) true) ({ data:=#[101,108,115,101] }) true) ({ data:=#[103,111] }) true) ({ data:=#[105,102] }) true) ({ data:=#[105,110] }) true) ({ data:=#[112,108,97,99,101] }) true) ({ data:=#[115,116,111,112] }) true) ({ data:=#[116,104,101,110] }) true) ({ data:=#[119,97,116,99,104] }) true)
theorem aJv   (r:aL ByteArray Bool) (H:aBe=some r):FnS Tryz.prog 174 [] [] (kE kStr (fun y=>aK y) r) (fun _=>[]):=by
 unfold aBe at H
 refine bG Tryz.func174 rfl Tryz.ntmps174 rfl (fun β=>?_)
 refine Z4 ?_
 refine Tn (aBz (fun y=>aK y) kStr rfl) fun b1=>?_
 refine gW (k:={ data:=#[97,110,100] }) (y:=true) a2g (.inr rfl) rfl (has rfl) (has rfl) rfl (has rfl) rfl kV ?_
 refine gW (k:={ data:=#[100,101,102] }) (y:=true) a2g (.inr rfl) rfl (has rfl) (has rfl) rfl (has rfl) rfl kV ?_
 refine gW (k:={ data:=#[101,108,115,101] }) (y:=true) a2g (.inr rfl) rfl (has rfl) (has rfl) rfl (has rfl) rfl kV ?_
 refine gW (k:={ data:=#[103,111] }) (y:=true) a2g (.inr rfl) rfl (has rfl) (has rfl) rfl (has rfl) rfl kV ?_
 refine gW (k:={ data:=#[105,102] }) (y:=true) a2g (.inr rfl) rfl (has rfl) (has rfl) rfl (has rfl) rfl kV ?_
 refine gW (k:={ data:=#[105,110] }) (y:=true) a2g (.inr rfl) rfl (has rfl) (has rfl) rfl (has rfl) rfl kV ?_
 refine gW (k:={ data:=#[112,108,97,99,101] }) (y:=true) a2g (.inr rfl) rfl (has rfl) (has rfl) rfl (has rfl) rfl kV ?_
 refine gW (k:={ data:=#[115,116,111,112] }) (y:=true) a2g (.inr rfl) rfl (has rfl) (has rfl) rfl (has rfl) rfl kV ?_
 refine gW (k:={ data:=#[116,104,101,110] }) (y:=true) a2g (.inr rfl) rfl (has rfl) (has rfl) rfl (has rfl) rfl kV ?_
 refine gW (k:={ data:=#[119,97,116,99,104] }) (y:=true) a2g (.inr rfl) rfl (has rfl) (has rfl) rfl (has rfl) rfl kV ?_
 refine Z4 ?_
 refine cE (φ:=kE kStr (fun y=>aK y) (aL.upd (aL.upd (aL.upd (aL.upd (aL.upd (aL.upd (aL.upd (aL.upd (aL.upd (aL.upd (aL.none:aL ByteArray Bool) ({ data:=#[97,110,100] }) true) ({ data:=#[100,101,102] }) true) ({ data:=#[101,108,115,101] }) true) ({ data:=#[103,111] }) true) ({ data:=#[105,102] }) true) ({ data:=#[105,110] }) true) ({ data:=#[112,108,97,99,101] }) true) ({ data:=#[115,116,111,112] }) true) ({ data:=#[116,104,101,110] }) true) ({ data:=#[119,97,116,99,104] }) true)) (v:= .map (some b1)) [0,1,2] aHb fz ?_
 refine cD ?_
 cases H
 exact To
def iL (a0:ByteArray):Nat->Int->Option ((Unit) ⊕ (Bool))
| 0,_=>none
| k+1,x2=>
 if x2<(a0.size:Int)then
  (sidx a0 x2).bind fun z1=>
  if z1<97 then
   (some false).bind fun r=>some (Sum.inr r)
  else
   (sidx a0 x2).bind fun z2=>
   if 122<z2 then
    (some false).bind fun r=>some (Sum.inr r)
   else
    (chk (x2+1)).bind fun z3=>
    iL a0 k z3
 else
  some (Sum.inl ())
def sW (AA:Nat) (a0:ByteArray):Option (Bool):=
 (iL a0 AA 0).bind fun o=>match o with
 | Sum.inr r=>some r
 | Sum.inl _=>
 (if 0<(a0.size:Int)then
  if (a0.size:Int)<=8 then
   (aBe).bind fun y1=>
   some (!((y1.get a0).getD false))
  else
   some false
 else
  some false).bind fun x3=>
 some x3
theorem aLv (AA:Nat)  (a0:ByteArray) (r:Bool) (H:sW AA a0=some r):FnS Tryz.prog 163 [gH a0] [] (aK r) (fun _=>[]):=by
 unfold sW at H
 refine bG Tryz.func163 rfl Tryz.ntmps163 rfl (fun β=>?_)
 revert H;refine B3 fun o1 H Hr1=>?_
 refine aR (ι:=Unit) (fun i=>o1=Sum.inl ()) (fun i=>[(0,gH a0)]) (fun i=>[]) ?_ ?_
 refine Z2 ?_
 refine Yy (uM rfl hh nH) ?_
 refine Z3 ?_
 refine Tl (ι:=Nat × Int) (fun i=>iL a0 i.1 i.2=_) (fun i=>i.1) (fun i=>[(0,gH a0),(5,fI (a0.size:Int)),(6,fI i.2)]) (fun i=>[]) (AA,0) H ?_
 clear H;rintro⟨k1,x2⟩ H
 replace H:iL a0 k1 x2=_:=H
 try dsimp only
 obtain _ | k1:=k1
 rw [iL]at H;cases H
 rw [iL]at H
 refine Z3 ?_
 refine aI ?_
 revert H;refine is (fun c1 H=>?_) fun c1 H=>?_
 refine Z3 ?_
 refine aI ?_
 revert H;refine B8 fun z1 h1 H=>?_
 refine Yy (aBH rfl hh hh nH h1) ?_
 revert H;refine I2 (fun c2 H=>?_) fun c2 H=>?_
 refine Z12 ?_
 revert H;refine B4 fun r1 H e1=>?_
 cases e1;cases Hr1
 cases H
 exact To
 revert H;refine B2 fun z2 h2 H=>?_
 refine Yg c2 (aBH rfl hh hh nH h2) ?_
 revert H;refine I3 (fun c3 H=>?_) fun c3 H=>?_
 revert H;refine B10 fun r2 H e2=>?_
 cases e2;cases Hr1
 cases H
 exact To
 revert H;refine B5 fun z3 h3 H=>?_
 refine Z3 ?_
 exact Tm ((k1,z3)) ⟨H,ls⟩
 refine Z6 ?_
 exact Tm (()) (ij H)
 clear H;intro i hi;subst o1;have H:=Hr1;clear Hr1;try dsimp only at H
 try dsimp only
 revert H;refine bs fun o2 H Hr2=>?_
 refine aR (ι:=Bool) (fun i=>o2=i) (fun i=>[(2,aK i)]) (fun i=>[]) ?_ ?_
 refine Z2 ?_
 refine Yy (uM rfl hh nH) ?_
 revert H;refine I2 (fun c4 H=>?_) fun c4 H=>?_
 refine Z1 ?_
 refine Yg c4 (uM rfl hh nH) ?_
 revert H;refine I3 (fun c5 H=>?_) fun c5 H=>?_
 revert H;refine bs fun y1 h4 H=>?_
 refine Tc (aJv _ h4) ?_
 refine Z1 ?_
 refine Yg c5 (vU (zα:=false) (k:=a0) rfl hh hh rfl kV Ent.rfl) ?_
 refine Z4 ?_
 exact Tm (!((y1.get a0).getD false)) (ij H)
 refine Z7 ?_
 exact Tm (false) (ij H)
 refine Z12 ?_
 exact Tm (false) (ij H)
 clear H;intro x3 hi;subst o2;have H:=Hr2;clear Hr2;try dsimp only at H
 try dsimp only
 refine Z1 ?_
 cases H
 exact To
def iR (a0:Int):Option (Value):=
 (if a0=1 then
  some (decide (a0=1))
 else
  some (decide (a0=7))).bind fun x1=>
 bif x1 then
  some ((.iface 235 (.int .i64 0)):Value)
 else
  if a0=3 then
   some ((.iface 235 (.int .i64 2)):Value)
  else
   if a0=2 then
    some ((.iface 207 (.agg ([]:List Value).toArray)):Value)
   else
    if a0=5 then
     some ((.iface 236 (.agg ([]:List Value).toArray)):Value)
    else
     (if a0=6 then
      some (decide (a0=6))
     else
      some (decide (a0=8))).bind fun x2=>
     bif x2 then
      some ((.iface 208 (.agg ([]:List Value).toArray)):Value)
     else
      if a0=4 then
       some ((.iface 237 (.agg ([]:List Value).toArray)):Value)
      else
       some (Go.Value.nilIface:Value)
theorem aG7  (a0:Int) (r:Value) (H:iR a0=some r):FnS Tryz.prog 123 [fI a0] [] (fRaw r) (fun _=>[]):=by
 unfold iR at H
 refine bG Tryz.func123 rfl Tryz.ntmps123 rfl (fun β=>?_)
 refine Z3 ?_
 refine aI ?_
 revert H;refine B4 fun o1 H Hr1=>?_
 refine aR (ι:=Bool) (fun i=>o1=i) (fun i=>[(3,fI a0),(4,aK i)]) (fun i=>[]) ?_ ?_
 revert H;refine I4 (fun c1 H=>?_) fun c1 H=>?_
 refine Z3 ?_
 exact Tm (decide (a0=1)) (ij H)
 refine Z5 ?_
 exact Tm (decide (a0=7)) (ij H)
 clear H;intro x1 hi;subst o1;have H:=Hr1;clear Hr1;try dsimp only at H
 try dsimp only
 revert H;refine cs (fun c2 H=>?_) fun c2 H=>?_
 refine Z2 ?_
 refine Yy (uA rfl hh aHB) ?_
 refine Z5 ?_
 cases H
 exact eD rfl (fM rfl (tU trivial)) rfl
 revert H;refine I5 (fun c3 H=>?_) fun c3 H=>?_
 refine Z2 ?_
 refine Yy (uA rfl hh aHB) ?_
 refine Z5 ?_
 cases H
 exact eD rfl (fM rfl (tU trivial)) rfl
 revert H;refine I5 (fun c4 H=>?_) fun c4 H=>?_
 refine Z2 ?_
 refine Yy (gP (ψs:=[]) rfl aKV rfl bQ.nil rfl) ?_
 refine Yy (uA rfl (gC rfl (zU [])) aCC) ?_
 refine Z5 ?_
 cases H
 exact eD rfl (fM rfl (tU trivial)) rfl
 revert H;refine I5 (fun c5 H=>?_) fun c5 H=>?_
 refine Z2 ?_
 refine Yy (gP (ψs:=[]) rfl aKj rfl bQ.nil rfl) ?_
 refine Yy (uA rfl (gC rfl (zU [])) aHR) ?_
 refine Z5 ?_
 cases H
 exact eD rfl (fM rfl (tU trivial)) rfl
 revert H;refine B1 fun o2 H Hr2=>?_
 refine aR (ι:=Bool) (fun i=>o2=i) (fun i=>[(3,fI a0),(19,aK i)]) (fun i=>[]) ?_ ?_
 revert H;refine I4 (fun c6 H=>?_) fun c6 H=>?_
 refine Z3 ?_
 exact Tm (decide (a0=6)) (ij H)
 refine Z5 ?_
 exact Tm (decide (a0=8)) (ij H)
 clear H;intro x2 hi;subst o2;have H:=Hr2;clear Hr2;try dsimp only at H
 try dsimp only
 revert H;refine cs (fun c7 H=>?_) fun c7 H=>?_
 refine Z2 ?_
 refine Yy (gP (ψs:=[]) rfl aJV rfl bQ.nil rfl) ?_
 refine Yy (uA rfl (gC rfl (zU [])) aDp) ?_
 refine Z5 ?_
 cases H
 exact eD rfl (fM rfl (tU trivial)) rfl
 revert H;refine I5 (fun c8 H=>?_) fun c8 H=>?_
 refine Z2 ?_
 refine Yy (gP (ψs:=[]) rfl aLj rfl bQ.nil rfl) ?_
 refine Yy (uA rfl (gC rfl (zU [])) aF8) ?_
 refine Z5 ?_
 cases H
 exact eD rfl (fM rfl (tU trivial)) rfl
 refine Z8 ?_
 cases H
 exact eD rfl (fM rfl (tU trivial)) rfl
def pE (rec_scope_exp_1:AS->Int->Int->Int->Option (Int ⊕ Value)) (a0:AS) (a1:Int) (w1:Int):Nat->Int->Int->Option (Int ⊕ Value)
| 0,_,_=>none
| k+1,x4,x5=>
 if x4<(a0.AM.length:Int)then
  (idx a0.AM x4).bind fun y12=>
  (chk (a1+1)).bind fun z2=>
  (rec_scope_exp_1 (⟨y12.Op,y12.N,y12.AM⟩:AS) z2 x5 w1).bind fun y13=>
  match y13 with
  | Sum.inr pv12=>some (Sum.inr pv12)
  | Sum.inl y13=>
  (chk (x4+1)).bind fun z3=>
  pE rec_scope_exp_1 a0 a1 w1 k z3 y13
 else
  some (Sum.inl x5)
def mZ:Nat->AS->Int->Int->Int->Option (Int ⊕ Value)
| 0,_,_,_,_=>none
| AA+1,a0,a1,w0,w1=>
 (chk (w0+1)).bind fun z1=>
 (if z1<=60 then
  (bR (decide (a1<=12))).bind fun y1=>
  match y1 with
  | Sum.inr pv1=>(some (Sum.inr pv1)).bind fun r=>some (Sum.inr r)
  | Sum.inl y1=>
  some (Sum.inl ())
 else
  (bR false).bind fun y2=>
  match y2 with
  | Sum.inr pv2=>(some (Sum.inr pv2)).bind fun r=>some (Sum.inr r)
  | Sum.inl y2=>
  some (Sum.inl ())).bind fun o=>match o with
 | Sum.inr r=>some r
 | Sum.inl _=>
 (if a0.Op=1 then
  if (-1000000000)<=a0.N then
   if a0.N<=1000000000 then
    (bR (decide ((a0.AM.length:Int)=0))).bind fun y3=>
    match y3 with
    | Sum.inr pv3=>(some (Sum.inr pv3)).bind fun r=>some (Sum.inr r)
    | Sum.inl y3=>
    some (Sum.inl ())
   else
    (bR false).bind fun y4=>
    match y4 with
    | Sum.inr pv4=>(some (Sum.inr pv4)).bind fun r=>some (Sum.inr r)
    | Sum.inl y4=>
    some (Sum.inl ())
  else
   (bR false).bind fun y5=>
   match y5 with
   | Sum.inr pv5=>(some (Sum.inr pv5)).bind fun r=>some (Sum.inr r)
   | Sum.inl y5=>
   some (Sum.inl ())
 else
  if a0.Op=2 then
   if 0<=a0.N then
    if a0.N<w1 then
     (bR (decide ((a0.AM.length:Int)=0))).bind fun y6=>
     match y6 with
     | Sum.inr pv6=>(some (Sum.inr pv6)).bind fun r=>some (Sum.inr r)
     | Sum.inl y6=>
     some (Sum.inl ())
    else
     (bR false).bind fun y7=>
     match y7 with
     | Sum.inr pv7=>(some (Sum.inr pv7)).bind fun r=>some (Sum.inr r)
     | Sum.inl y7=>
     some (Sum.inl ())
   else
    (bR false).bind fun y8=>
    match y8 with
    | Sum.inr pv8=>(some (Sum.inr pv8)).bind fun r=>some (Sum.inr r)
    | Sum.inl y8=>
    some (Sum.inl ())
  else
   (if a0.Op=3 then
    some (decide (a0.Op=3))
   else
    if a0.Op=4 then
     some (decide (a0.Op=4))
    else
     if a0.Op=5 then
      some (decide (a0.Op=5))
     else
      if a0.Op=6 then
       some (decide (a0.Op=6))
      else
       some (decide (a0.Op=7))).bind fun x1=>
   bif x1 then
    if a0.N=0 then
     (bR (decide ((a0.AM.length:Int)=2))).bind fun y9=>
     match y9 with
     | Sum.inr pv9=>(some (Sum.inr pv9)).bind fun r=>some (Sum.inr r)
     | Sum.inl y9=>
     some (Sum.inl ())
    else
     (bR false).bind fun y10=>
     match y10 with
     | Sum.inr pv10=>(some (Sum.inr pv10)).bind fun r=>some (Sum.inr r)
     | Sum.inl y10=>
     some (Sum.inl ())
   else
    (bR false).bind fun y11=>
    match y11 with
    | Sum.inr pv11=>(some (Sum.inr pv11)).bind fun r=>some (Sum.inr r)
    | Sum.inl y11=>
    some (Sum.inl ())).bind fun o=>match o with
 | Sum.inr r=>some r
 | Sum.inl _=>
 pE (mZ AA) a0 a1 w1 AA 0 z1
theorem aF6:∀ (AA:Nat),(∀ (q0:Nat) (q2:Nat) (a0:AS) (a1:Int) (w0:Int) (w1:Int) (r:Int ⊕ Value) (H:mZ AA a0 a1 w0 w1=some r),FnE Tryz.prog 202 [fSt aO a0,fI a1,fEq (.pointer (some ⟨q0,0,none⟩)),aG tI w1,fEq (.pointer (some ⟨q2,0,none⟩))] [aA q0 3 [fI w0],aA q2 276 [cB 202 [fEq (.pointer (some ⟨q0,0,none⟩)),aG tI w1,fEq (.pointer (some ⟨q2,0,none⟩))]]] r (fun r=>dF []) (fun r=>[aA q0 3 [fI r],aA q2 276 [cB 202 [fEq (.pointer (some ⟨q0,0,none⟩)),aG tI w1,fEq (.pointer (some ⟨q2,0,none⟩))]]])):=by
 intro AA
 induction AA with
 | zero=>exact fun q0 q2 a0 a1 w0 w1 r H=>(by rw [mZ]at H;cases H)
 | succ AA ih=>
 have ih_scope_exp_1:=@ih
 refine ?_
 intro q0 q2 a0 a1 w0 w1 r H
 rw [mZ]at H
 refine sX Tryz.func202 rfl Tryz.ntmps202 rfl (fun β=>?_)
 refine Z1 ?_
 refine Tn (bU rfl hh bS) fun b1=>?_
 revert H;refine B3 fun z1 h1 H=>?_
 refine Z1 ?_
 refine cK ?_
 refine cC (φs':=[fI z1]) a2g rfl rfl (has rfl) (has rfl) (aH a2g) (sz rfl) rfl rfl ?_
 revert H;refine B1 fun o1 H Hr1=>?_
 refine aR (ι:=Unit) (fun i=>o1=Sum.inl ()) (fun i=>[(1,fI a1),(2,fEq (ptr q0)),(3,aG tI w1),(4,fEq (ptr q2)),(5,fEq (ptr b1))]) (fun i=>[aA q0 3 [fI z1],aA b1 71 [fI a0.Op,fI a0.N,cU a0.AM],aA q2 276 [cB 202 [fEq (ptr q0),aG tI w1,fEq (ptr q2)]]]) ?_ ?_
 revert H;refine I4 (fun c1 H=>?_) fun c1 H=>?_
 revert H;refine B3 fun y1 h2 H=>?_
 rcases y1 with y1 | pv1 <;> dsimp only at H
 refine Tc (aT _ _ h2).s ?_
 refine Z1 ?_
 exact Tm (()) (ij H)
 refine Tp (aT _ _ h2).pan ?_
 revert H;refine B1 fun r1 H e1=>?_
 cases e1;cases Hr1
 cases H
 exact bY
 revert H;refine B3 fun y2 h3 H=>?_
 rcases y2 with y2 | pv2 <;> dsimp only at H
 refine Tc (aT _ _ h3).s ?_
 refine Z1 ?_
 exact Tm (()) (ij H)
 refine Tp (aT _ _ h3).pan ?_
 revert H;refine B1 fun r2 H e2=>?_
 cases e2;cases Hr1
 cases H
 exact bY
 clear H;intro i hi;subst o1;have H:=Hr1;clear Hr1;try dsimp only at H
 try dsimp only
 revert H;refine bs fun o2 H Hr2=>?_
 refine aR (ι:=Unit) (fun i=>o2=Sum.inl ()) (fun i=>[(1,fI a1),(2,fEq (ptr q0)),(4,fEq (ptr q2)),(5,fEq (ptr b1))]) (fun i=>[aA q0 3 [fI z1],aA b1 71 [fI a0.Op,fI a0.N,cU a0.AM],aA q2 276 [cB 202 [fEq (ptr q0),aG tI w1,fEq (ptr q2)]]]) ?_ ?_
 revert H;refine I9 (fun c2 H=>?_) fun c2 H=>?_
 revert H;refine I6 (fun c3 H=>?_) fun c3 H=>?_
 revert H;refine I5 (fun c4 H=>?_) fun c4 H=>?_
 refine Z1 ?_
 refine Yh 1 rfl c4 (bB rfl hh (sc rfl) rfl (eS eG)) ?_
 revert H;refine B3 fun y3 h4 H=>?_
 rcases y3 with y3 | pv3 <;> dsimp only at H
 refine Tc (aT _ _ h4).s ?_
 refine Z3 ?_
 exact Tm (()) (ij H)
 refine Tp (aT _ _ h4).pan ?_
 revert H;refine B2 fun r3 H e3=>?_
 cases e3;cases Hr2
 cases H
 exact bY
 revert H;refine B5 fun y4 h5 H=>?_
 rcases y4 with y4 | pv4 <;> dsimp only at H
 refine Tc (aT _ _ h5).s ?_
 refine Z3 ?_
 exact Tm (()) (ij H)
 refine Tp (aT _ _ h5).pan ?_
 revert H;refine B2 fun r4 H e4=>?_
 cases e4;cases Hr2
 cases H
 exact bY
 revert H;refine B10 fun y5 h6 H=>?_
 rcases y5 with y5 | pv5 <;> dsimp only at H
 refine Tc (aT _ _ h6).s ?_
 refine Z3 ?_
 exact Tm (()) (ij H)
 refine Tp (aT _ _ h6).pan ?_
 revert H;refine B2 fun r5 H e5=>?_
 cases e5;cases Hr2
 cases H
 exact bY
 revert H;refine I5 (fun c5 H=>?_) fun c5 H=>?_
 revert H;refine I6 (fun c6 H=>?_) fun c6 H=>?_
 revert H;refine I6 (fun c7 H=>?_) fun c7 H=>?_
 refine Z1 ?_
 refine Yh 1 rfl c7 (bB rfl hh (sc rfl) rfl (eS eG)) ?_
 revert H;refine B3 fun y6 h7 H=>?_
 rcases y6 with y6 | pv6 <;> dsimp only at H
 refine Tc (aT _ _ h7).s ?_
 refine Z3 ?_
 exact Tm (()) (ij H)
 refine Tp (aT _ _ h7).pan ?_
 revert H;refine B2 fun r6 H e6=>?_
 cases e6;cases Hr2
 cases H
 exact bY
 revert H;refine B5 fun y7 h8 H=>?_
 rcases y7 with y7 | pv7 <;> dsimp only at H
 refine Tc (aT _ _ h8).s ?_
 refine Z3 ?_
 exact Tm (()) (ij H)
 refine Tp (aT _ _ h8).pan ?_
 revert H;refine B2 fun r7 H e7=>?_
 cases e7;cases Hr2
 cases H
 exact bY
 revert H;refine B11 fun y8 h9 H=>?_
 rcases y8 with y8 | pv8 <;> dsimp only at H
 refine Tc (aT _ _ h9).s ?_
 refine Z3 ?_
 exact Tm (()) (ij H)
 refine Tp (aT _ _ h9).pan ?_
 revert H;refine B2 fun r8 H e8=>?_
 cases e8;cases Hr2
 cases H
 exact bY
 revert H;refine B1 fun o3 H Hr3=>?_
 refine aR (ι:=Bool) (fun i=>o3=i) (fun i=>[(1,fI a1),(2,fEq (ptr q0)),(4,fEq (ptr q2)),(5,fEq (ptr b1)),(56,aK i)]) (fun i=>[aA q0 3 [fI z1],aA b1 71 [fI a0.Op,fI a0.N,cU a0.AM],aA q2 276 [cB 202 [fEq (ptr q0),aG tI w1,fEq (ptr q2)]]]) ?_ ?_
 revert H;refine I4 (fun c8 H=>?_) fun c8 H=>?_
 refine Z3 ?_
 exact Tm (decide (a0.Op=3)) (ij H)
 revert H;refine I5 (fun c9 H=>?_) fun c9 H=>?_
 refine Z3 ?_
 exact Tm (decide (a0.Op=4)) (ij H)
 revert H;refine I5 (fun c10 H=>?_) fun c10 H=>?_
 refine Z3 ?_
 exact Tm (decide (a0.Op=5)) (ij H)
 revert H;refine I5 (fun c11 H=>?_) fun c11 H=>?_
 refine Z3 ?_
 exact Tm (decide (a0.Op=6)) (ij H)
 refine Z5 ?_
 exact Tm (decide (a0.Op=7)) (ij H)
 clear H;intro x1 hi;subst o3;have H:=Hr3;clear Hr3;try dsimp only at H
 try dsimp only
 revert H;refine cs (fun c12 H=>?_) fun c12 H=>?_
 revert H;refine I6 (fun c13 H=>?_) fun c13 H=>?_
 refine Z1 ?_
 refine Yh 1 rfl c13 (bB rfl hh (sc rfl) rfl (eS eG)) ?_
 revert H;refine B3 fun y9 h10 H=>?_
 rcases y9 with y9 | pv9 <;> dsimp only at H
 refine Tc (aT _ _ h10).s ?_
 refine Z3 ?_
 exact Tm (()) (ij H)
 refine Tp (aT _ _ h10).pan ?_
 revert H;refine B2 fun r9 H e9=>?_
 cases e9;cases Hr2
 cases H
 exact bY
 revert H;refine B5 fun y10 h11 H=>?_
 rcases y10 with y10 | pv10 <;> dsimp only at H
 refine Tc (aT _ _ h11).s ?_
 refine Z3 ?_
 exact Tm (()) (ij H)
 refine Tp (aT _ _ h11).pan ?_
 revert H;refine B2 fun r10 H e10=>?_
 cases e10;cases Hr2
 cases H
 exact bY
 revert H;refine B2 fun y11 h12 H=>?_
 rcases y11 with y11 | pv11 <;> dsimp only at H
 refine Tc (aT _ _ h12).s ?_
 refine Z3 ?_
 exact Tm (()) (ij H)
 refine Tp (aT _ _ h12).pan ?_
 revert H;refine B2 fun r11 H e11=>?_
 cases e11;cases Hr2
 cases H
 exact bY
 clear H;intro i hi;subst o2;have H:=Hr2;clear Hr2;try dsimp only at H
 try dsimp only
 refine Z2 ?_
 refine Yo 1 rfl (bB rfl hh (sc rfl) rfl (eS eG)) ?_
 refine Z4 ?_
 refine Tl (ι:=Nat × Int × Int) (fun i=>pE (mZ AA) a0 a1 w1 i.1 i.2.1 i.2.2=_) (fun i=>i.1) (fun i=>[(1,fI a1),(2,fEq (ptr q0)),(4,fEq (ptr q2)),(73,fSl aO a0.AM),(74,fI (a0.AM.length:Int)),(75,fI i.2.1)]) (fun i=>[aA q0 3 [fI i.2.2],aA b1 71 [fI a0.Op,fI a0.N,cU a0.AM],aA q2 276 [cB 202 [fEq (ptr q0),aG tI w1,fEq (ptr q2)]]]) (AA,0,z1) H ?_
 clear H;rintro⟨k1,x4,x5⟩ H
 replace H:pE (mZ AA) a0 a1 w1 k1 x4 x5=_:=H
 try dsimp only
 obtain _ | k1:=k1
 rw [pE]at H;cases H
 rw [pE]at H
 refine Z3 ?_
 refine aI ?_
 revert H;refine is (fun c14 H=>?_) fun c14 H=>?_
 refine Z3 ?_
 refine aI ?_
 revert H;refine B2 fun y12 h13 H=>?_
 refine Z2 ?_
 refine Tn (bN rfl iP rfl) fun b2=>?_
 refine cG (φs':=[fI y12.Op,fI y12.N,cU y12.AM]) a2g rfl rfl (has rfl) (has rfl) (aF (aH a2g) (aF (aH a2g) (aF (lE) bF))) (sz rfl) rfl rfl rfl ?_
 revert H;refine B5 fun z2 h14 H=>?_
 refine Z1 ?_
 refine cY ?_
 refine dK ?_
 revert H;refine bs fun y13 h15 H=>?_
 rcases y13 with y13 | pv12 <;> dsimp only at H
 refine iB a2g rfl rfl rfl (has rfl) (aN.cons (has rfl) (aN.cons (has rfl) aN.nil)) rfl (cb rfl) (ih_scope_exp_1 q0 q2 (⟨y12.Op,y12.N,y12.AM⟩:AS) z2 x5 w1 (Sum.inl y13) h15).s rfl ?_
 revert H;refine B4 fun z3 h16 H=>?_
 refine Z3 ?_
 refine aE [0,3,1] (by decide) ?_
 exact Tm ((k1,z3,y13)) ⟨H,ls⟩
 refine aBP a2g rfl (has rfl) (aN.cons (has rfl) (aN.cons (has rfl) aN.nil)) rfl (cb rfl) (ih_scope_exp_1 q0 q2 (⟨y12.Op,y12.N,y12.AM⟩:AS) z2 x5 w1 (Sum.inr pv12) h15).pan rfl ?_
 refine Z4 ?_
 cases H
 exact bY
 refine Z5 ?_
 cases H
 refine rZ ?_
 refine aE [0,2] (by decide) ?_
 exact eP (.inr rfl) rfl rfl
def zS (AA:Nat) (a0:AS) (a1:Int):Option (Unit ⊕ Value):=
 (mZ AA (⟨a0.Op,a0.N,a0.AM⟩:AS) 1 0 a1).bind fun y1=>
 match y1 with
 | Sum.inr pv1=>some (Sum.inr pv1)
 | Sum.inl y1=>
 some (Sum.inl ())
theorem aE7 (AA:Nat)  (a0:AS) (a1:Int) (r:Unit ⊕ Value) (H:zS AA a0 a1=some r):FnE Tryz.prog 175 [fSt aO a0,fI a1] [] r (fun r=>dF []) (fun r=>[]):=by
 unfold zS at H
 refine sX Tryz.func175 rfl Tryz.ntmps175 rfl (fun β=>?_)
 refine Z1 ?_
 refine Tn (bU rfl hh bS) fun b1=>?_
 refine Tn (bU rfl (has rfl) (cJ (aH a2g))) fun b2=>?_
 refine Z2 ?_
 refine Tn (bN rfl tQ rfl) fun b3=>?_
 refine cC (φs':=[fI 0]) a2g rfl rfl (has rfl) (has rfl) (aH a2g) (sz rfl) rfl rfl ?_
 refine Z2 ?_
 refine Tn (bN rfl aIU rfl) fun b4=>?_
 refine Z2 ?_
 refine dK ?_
 refine cE (φ:=aG tI a1) (v:=ptr b2) [3] (fQ aP.rfl) fz ?_
 refine cD ?_
 refine Yy (oB rfl (aN.cons hh (aN.cons hh (aN.cons hh aN.nil)))) ?_
 refine cC (φs':=[cB 202 [fEq (ptr b3),aG tI a1,fEq (ptr b4)]]) a2g rfl rfl (has rfl) (has rfl) (aDD) (sz rfl) rfl rfl ?_
 refine Z4 ?_
 refine cK ?_
 revert H;refine bs fun y1 h1 H=>?_
 rcases y1 with y1 | pv1 <;> dsimp only at H
 refine iB a2g rfl rfl rfl (has rfl) (aN.cons (has rfl) (aN.cons (has rfl) aN.nil)) rfl (cb rfl) (aF6 AA b3 b4 (⟨a0.Op,a0.N,a0.AM⟩:AS) 1 0 a1 (Sum.inl y1) h1).s rfl ?_
 refine Z1 ?_
 cases H
 refine rZ ?_
 refine aE [] (by decide) ?_
 exact eP (.inr rfl) rfl rfl
 refine aBP a2g rfl (has rfl) (aN.cons (has rfl) (aN.cons (has rfl) aN.nil)) rfl (cb rfl) (aF6 AA b3 b4 (⟨a0.Op,a0.N,a0.AM⟩:AS) 1 0 a1 (Sum.inr pv1) h1).pan rfl ?_
 cases H
 exact bY
def mX (a0:List Int) (a1:Int):Nat->Int->Option ((Unit) ⊕ (Int))
| 0,_=>none
| k+1,x2=>
 if x2<(a0.length:Int)then
  (idx a0 x2).bind fun y1=>
  if a1=y1 then
   (some x2).bind fun r=>some (Sum.inr r)
  else
   (chk (x2+1)).bind fun z1=>
   mX a0 a1 k z1
 else
  some (Sum.inl ())
def aAP (AA:Nat) (a0:List Int) (a1:Int):Option (Int):=
 (mX a0 a1 AA 0).bind fun o=>match o with
 | Sum.inr r=>some r
 | Sum.inl _=>
 some (-1)
theorem aK9 (AA:Nat)  (a0:List Int) (a1:Int) (r:Int) (H:aAP AA a0 a1=some r):FnS Tryz.prog 218 [fSl tI a0,fI a1] [] (fI r) (fun _=>[]):=by
 unfold aAP at H
 refine bG Tryz.func218 rfl Tryz.ntmps218 rfl (fun β=>?_)
 revert H;refine B3 fun o1 H Hr1=>?_
 refine aR (ι:=Unit) (fun i=>o1=Sum.inl ()) (fun i=>[]) (fun i=>[]) ?_ ?_
 refine Z6 ?_
 refine Tl (ι:=Nat × Int) (fun i=>mX a0 a1 i.1 i.2=_) (fun i=>i.1) (fun i=>[(0,fSl tI a0),(1,fI a1),(7,fI (a0.length:Int)),(8,fI i.2)]) (fun i=>[]) (AA,0) H ?_
 clear H;rintro⟨k1,x2⟩ H
 replace H:mX a0 a1 k1 x2=_:=H
 try dsimp only
 obtain _ | k1:=k1
 rw [mX]at H;cases H
 rw [mX]at H
 refine Z3 ?_
 refine aI ?_
 revert H;refine is (fun c1 H=>?_) fun c1 H=>?_
 refine Z3 ?_
 refine aI ?_
 revert H;refine B9 fun y1 h1 H=>?_
 revert H;refine I4 (fun c2 H=>?_) fun c2 H=>?_
 revert H;refine B11 fun r1 H e1=>?_
 cases e1;cases Hr1
 cases H
 exact To
 revert H;refine B5 fun z1 h2 H=>?_
 refine Z3 ?_
 exact Tm ((k1,z1)) ⟨H,ls⟩
 refine Z6 ?_
 exact Tm (()) (ij H)
 clear H;intro i hi;subst o1;have H:=Hr1;clear Hr1;try dsimp only at H
 try dsimp only
 refine Z4 ?_
 cases H
 exact To
def aAt (AA:Nat) (a0:List Int) (a1:Int):Option (Bool):=
 (aAP AA a0 a1).bind fun y1=>
 some (decide (0<=y1))
theorem aJL (AA:Nat)  (a0:List Int) (a1:Int) (r:Bool) (H:aAt AA a0 a1=some r):FnS Tryz.prog 204 [fSl tI a0,fI a1] [] (aK r) (fun _=>[]):=by
 unfold aAt at H
 refine bG Tryz.func204 rfl Tryz.ntmps204 rfl (fun β=>?_)
 revert H;refine B6 fun y1 h1 H=>?_
 refine Tc (aK9 _ _ _ _ h1) ?_
 refine Z4 ?_
 cases H
 exact To
open Go.SX Go.SW Go.Dt
def uW (a0:Int) (w0:AO):Option (Unit ⊕ Value):=
 if 0<=a0 then
  (bR (decide (a0<=(w0.AR.length:Int)))).bind fun y1=>
  match y1 with
  | Sum.inr pv1=>some (Sum.inr pv1)
  | Sum.inl y1=>
  some (Sum.inl ())
 else
  (bR false).bind fun y2=>
  match y2 with
  | Sum.inr pv2=>some (Sum.inr pv2)
  | Sum.inl y2=>
  some (Sum.inl ())
theorem aCc  (a0:Int) (w0:AO) (r:Unit ⊕ Value) (H:uW a0 w0=some r):FnE Tryz.prog 203 [fI a0,aG aB w0] [] r (fun r=>dF []) (fun r=>[]):=by
 unfold uW at H
 refine sX Tryz.func203 rfl Tryz.ntmps203 rfl (fun β=>?_)
 revert H;refine I4 (fun c1 H=>?_) fun c1 H=>?_
 revert H;refine B6 fun y1 h1 H=>?_
 rcases y1 with y1 | pv1 <;> dsimp only at H
 refine Tc (aT _ _ h1).s ?_
 refine Z1 ?_
 cases H
 refine rZ ?_
 exact eP (.inr rfl) rfl rfl
 refine Tp (aT _ _ h1).pan ?_
 cases H
 exact bY
 revert H;refine B6 fun y2 h2 H=>?_
 rcases y2 with y2 | pv2 <;> dsimp only at H
 refine Tc (aT _ _ h2).s ?_
 refine Z1 ?_
 cases H
 refine rZ ?_
 exact eP (.inr rfl) rfl rfl
 refine Tp (aT _ _ h2).pan ?_
 cases H
 exact bY
def pQ (a0:AO):Nat->Int->Option ((Unit) ⊕ (Unit ⊕ Value))
| 0,_=>none
| k+1,x2=>
 if x2<(((⟨a0.AN,a0.AR,a0.AP⟩:AO).AN).length:Int)then
  ((idx ((⟨a0.AN,a0.AR,a0.AP⟩:AO).AN) x2).bind fun y4=>
  (uW y4.At (⟨a0.AN,a0.AR,a0.AP⟩:AO)).bind fun y5=>
  match y5 with
  | Sum.inr pv4=>((some (Sum.inr pv4)).bind fun r=>some (Sum.inr r)).bind fun r=>some (Sum.inr r)
  | Sum.inl y5=>
  if 0<=y4.Ap then
   (bR (decide (y4.Ap<=3))).bind fun y6=>
   match y6 with
   | Sum.inr pv5=>((some (Sum.inr pv5)).bind fun r=>some (Sum.inr r)).bind fun r=>some (Sum.inr r)
   | Sum.inl y6=>
   some (Sum.inl ())
  else
   (bR false).bind fun y7=>
   match y7 with
   | Sum.inr pv6=>((some (Sum.inr pv6)).bind fun r=>some (Sum.inr r)).bind fun r=>some (Sum.inr r)
   | Sum.inl y7=>
   some (Sum.inl ())).bind fun o=>match o with
  | Sum.inr r=>some r
  | Sum.inl _=>
  (chk (x2+1)).bind fun z1=>
  pQ a0 k z1
 else
  some (Sum.inl ())
def oI (a0:AO):Nat->Int->Option ((Unit) ⊕ (Unit ⊕ Value))
| 0,_=>none
| k+1,x4=>
 if x4<(((⟨a0.AN,a0.AR,a0.AP⟩:AO).AR).length:Int)then
  ((idx ((⟨a0.AN,a0.AR,a0.AP⟩:AO).AR) x4).bind fun y8=>
  if 0<=y8.In then
   (bR (decide (y8.In<=x4))).bind fun y9=>
   match y9 with
   | Sum.inr pv7=>((some (Sum.inr pv7)).bind fun r=>some (Sum.inr r)).bind fun r=>some (Sum.inr r)
   | Sum.inl y9=>
   some (Sum.inl ())
  else
   (bR false).bind fun y10=>
   match y10 with
   | Sum.inr pv8=>((some (Sum.inr pv8)).bind fun r=>some (Sum.inr r)).bind fun r=>some (Sum.inr r)
   | Sum.inl y10=>
   some (Sum.inl ())).bind fun o=>match o with
  | Sum.inr r=>some r
  | Sum.inl _=>
  (chk (x4+1)).bind fun z2=>
  oI a0 k z2
 else
  some (Sum.inl ())
def jV (AA:Nat) (a0:AO) (y11:Am):Nat->Int->(aL Int Bool)->Option ((aL Int Bool) ⊕ ((aL Int Bool) ⊕ (Unit ⊕ Value)))
| 0,_,_=>none
| k+1,x13,x14=>
 if x13<(y11.AY.length:Int)then
  (idx y11.AY x13).bind fun y15=>
  (if 0<=y15 then
   if y15<(((⟨a0.AN,a0.AR,a0.AP⟩:AO).AN).length:Int)then
    (idx ((⟨a0.AN,a0.AR,a0.AP⟩:AO).AN) y15).bind fun y16=>
    if y16.At=y11.At then
     (slc y11.AY 0 x13).bind fun y17=>
     (aAt AA y17 y15).bind fun y18=>
     (bR (!y18)).bind fun y19=>
     match y19 with
     | Sum.inr pv12=>(((some (Sum.inr pv12)).bind fun r=>some (Sum.inr r)).bind fun r=>some (Sum.inr r)).bind fun r=>some (Sum.inr r)
     | Sum.inl y19=>
     some (Sum.inl ())
    else
     (bR false).bind fun y20=>
     match y20 with
     | Sum.inr pv13=>(((some (Sum.inr pv13)).bind fun r=>some (Sum.inr r)).bind fun r=>some (Sum.inr r)).bind fun r=>some (Sum.inr r)
     | Sum.inl y20=>
     some (Sum.inl ())
   else
    (bR false).bind fun y21=>
    match y21 with
    | Sum.inr pv14=>(((some (Sum.inr pv14)).bind fun r=>some (Sum.inr r)).bind fun r=>some (Sum.inr r)).bind fun r=>some (Sum.inr r)
    | Sum.inl y21=>
    some (Sum.inl ())
  else
   (bR false).bind fun y22=>
   match y22 with
   | Sum.inr pv15=>(((some (Sum.inr pv15)).bind fun r=>some (Sum.inr r)).bind fun r=>some (Sum.inr r)).bind fun r=>some (Sum.inr r)
   | Sum.inl y22=>
   some (Sum.inl ())).bind fun o=>match o with
  | Sum.inr r=>some r
  | Sum.inl _=>
  (chk (x13+1)).bind fun z3=>
  jV AA a0 y11 k z3 (aL.upd x14 y15 true)
 else
  some (Sum.inl x14)
def nF (AA:Nat) (a0:AO):Nat->Int->(aL Int Bool)->Option ((aL Int Bool) ⊕ (Unit ⊕ Value))
| 0,_,_=>none
| k+1,x8,x9=>
 if x8<(((⟨a0.AN,a0.AR,a0.AP⟩:AO).AP).length:Int)then
  ((idx ((⟨a0.AN,a0.AR,a0.AP⟩:AO).AP) x8).bind fun y11=>
  (uW y11.At (⟨a0.AN,a0.AR,a0.AP⟩:AO)).bind fun y12=>
  match y12 with
  | Sum.inr pv9=>((some (Sum.inr pv9)).bind fun r=>some (Sum.inr r)).bind fun r=>some (Sum.inr r)
  | Sum.inl y12=>
  (if 0<(y11.AY.length:Int)then
   (bR (decide ((y11.AY.length:Int)<=3))).bind fun y13=>
   match y13 with
   | Sum.inr pv10=>(((some (Sum.inr pv10)).bind fun r=>some (Sum.inr r)).bind fun r=>some (Sum.inr r)).bind fun r=>some (Sum.inr r)
   | Sum.inl y13=>
   some (Sum.inl ())
  else
   (bR false).bind fun y14=>
   match y14 with
   | Sum.inr pv11=>(((some (Sum.inr pv11)).bind fun r=>some (Sum.inr r)).bind fun r=>some (Sum.inr r)).bind fun r=>some (Sum.inr r)
   | Sum.inl y14=>
   some (Sum.inl ())).bind fun o=>match o with
  | Sum.inr r=>some r
  | Sum.inl _=>
  jV AA a0 y11 AA 0 x9).bind fun o=>match o with
  | Sum.inr r=>some r
  | Sum.inl x10=>
  (chk (x8+1)).bind fun z4=>
  nF AA a0 k z4 x10
 else
  some (Sum.inl x9)
def vF (AA:Nat) (a0:AO):Option (Unit ⊕ Value):=
 (if (a0.AN.length:Int)<=30 then
  if (a0.AR.length:Int)<=30 then
   (bR (decide ((a0.AP.length:Int)<=30))).bind fun y1=>
   match y1 with
   | Sum.inr pv1=>(some (Sum.inr pv1)).bind fun r=>some (Sum.inr r)
   | Sum.inl y1=>
   some (Sum.inl ())
  else
   (bR false).bind fun y2=>
   match y2 with
   | Sum.inr pv2=>(some (Sum.inr pv2)).bind fun r=>some (Sum.inr r)
   | Sum.inl y2=>
   some (Sum.inl ())
 else
  (bR false).bind fun y3=>
  match y3 with
  | Sum.inr pv3=>(some (Sum.inr pv3)).bind fun r=>some (Sum.inr r)
  | Sum.inl y3=>
  some (Sum.inl ())).bind fun o=>match o with
 | Sum.inr r=>some r
 | Sum.inl _=>
 (pQ a0 AA 0).bind fun o=>match o with
 | Sum.inr r=>some r
 | Sum.inl _=>
 (oI a0 AA 0).bind fun o=>match o with
 | Sum.inr r=>some r
 | Sum.inl _=>
 (nF AA a0 AA 0 (aL.none:aL Int Bool)).bind fun o=>match o with
 | Sum.inr r=>some r
 | Sum.inl x5=>
 (bR (decide ((x5.size:Int)=(((⟨a0.AN,a0.AR,a0.AP⟩:AO).AN).length:Int)))).bind fun y23=>
 match y23 with
 | Sum.inr pv16=>some (Sum.inr pv16)
 | Sum.inl y23=>
 some (Sum.inl ())
theorem aEU (AA:Nat)  (a0:AO) (r:Unit ⊕ Value) (H:vF AA a0=some r):FnE Tryz.prog 176 [fSt aB a0] [] r (fun r=>dF []) (fun r=>[]):=by
 unfold vF at H
 refine sX Tryz.func176 rfl Tryz.ntmps176 rfl (fun β=>?_)
 refine Z1 ?_
 refine Tn (bU rfl hh bS) fun b1=>?_
 revert H;refine B1 fun o1 H Hr1=>?_
 refine aR (ι:=Unit) (fun i=>o1=Sum.inl ()) (fun i=>[(1,fEq (ptr b1))]) (fun i=>[aA b1 77 [fSl aW a0.AN,fSl bD a0.AR,fSl aY a0.AP]]) ?_ ?_
 revert H;refine I6 (fun c1 H=>?_) fun c1 H=>?_
 revert H;refine I6 (fun c2 H=>?_) fun c2 H=>?_
 revert H;refine B5 fun y1 h1 H=>?_
 rcases y1 with y1 | pv1 <;> dsimp only at H
 refine Tc (aT _ _ h1).s ?_
 refine Z1 ?_
 exact Tm (()) (ij H)
 refine Tp (aT _ _ h1).pan ?_
 revert H;refine B1 fun r1 H e1=>?_
 cases e1;cases Hr1
 cases H
 exact bY
 revert H;refine B5 fun y2 h2 H=>?_
 rcases y2 with y2 | pv2 <;> dsimp only at H
 refine Tc (aT _ _ h2).s ?_
 refine Z1 ?_
 exact Tm (()) (ij H)
 refine Tp (aT _ _ h2).pan ?_
 revert H;refine B1 fun r2 H e2=>?_
 cases e2;cases Hr1
 cases H
 exact bY
 revert H;refine B11 fun y3 h3 H=>?_
 rcases y3 with y3 | pv3 <;> dsimp only at H
 refine Tc (aT _ _ h3).s ?_
 refine Z1 ?_
 exact Tm (()) (ij H)
 refine Tp (aT _ _ h3).pan ?_
 revert H;refine B1 fun r3 H e3=>?_
 cases e3;cases Hr1
 cases H
 exact bY
 clear H;intro i hi;subst o1;have H:=Hr1;clear Hr1;try dsimp only at H
 try dsimp only
 refine Z1 ?_
 refine cE (φ:=aG aB (⟨a0.AN,a0.AR,a0.AP⟩:AO)) (v:=ptr b1) [1] (fQ aP.rfl) fz ?_
 refine cD ?_
 refine Yy (oB rfl (aN.cons hh aN.nil)) ?_
 revert H;refine B2 fun o2 H Hr2=>?_
 refine aR (ι:=Unit) (fun i=>o2=Sum.inl ()) (fun i=>[(1,aG aB (⟨a0.AN,a0.AR,a0.AP⟩:AO)),(2,cB 203 [aG aB (⟨a0.AN,a0.AR,a0.AP⟩:AO)])]) (fun i=>[]) ?_ ?_
 refine Z7 ?_
 refine Tl (ι:=Nat × Int) (fun i=>pQ a0 i.1 i.2=_) (fun i=>i.1) (fun i=>[(1,aG aB (⟨a0.AN,a0.AR,a0.AP⟩:AO)),(2,cB 203 [aG aB (⟨a0.AN,a0.AR,a0.AP⟩:AO)]),(31,fSl aW ((⟨a0.AN,a0.AR,a0.AP⟩:AO).AN)),(32,fI (((⟨a0.AN,a0.AR,a0.AP⟩:AO).AN).length:Int)),(33,fI i.2)]) (fun i=>[]) (AA,0) H ?_
 clear H;rintro⟨k1,x2⟩ H
 replace H:pQ a0 k1 x2=_:=H
 try dsimp only
 obtain _ | k1:=k1
 rw [pQ]at H;cases H
 rw [pQ]at H
 refine Z3 ?_
 refine aI ?_
 revert H;refine is (fun c3 H=>?_) fun c3 H=>?_
 revert H;refine B3 fun o3 H Hr3=>?_
 refine aR (ι:=Unit) (fun i=>o3=Sum.inl ()) (fun i=>[(1,aG aB (⟨a0.AN,a0.AR,a0.AP⟩:AO)),(2,cB 203 [aG aB (⟨a0.AN,a0.AR,a0.AP⟩:AO)]),(31,fSl aW ((⟨a0.AN,a0.AR,a0.AP⟩:AO).AN)),(32,fI (((⟨a0.AN,a0.AR,a0.AP⟩:AO).AN).length:Int)),(33,fI x2)]) (fun i=>[]) ?_ ?_
 revert H;refine B2 fun y4 h4 H=>?_
 refine Z2 ?_
 refine Tn (bN rfl aIq rfl) fun b2=>?_
 refine cG (φs':=[fI y4.At,fI y4.Ap]) a2g rfl rfl (has rfl) (has rfl) (aF (aH a2g) (aF (aH a2g) bF)) (sz rfl) rfl rfl rfl ?_
 revert H;refine B5 fun y5 h5 H=>?_
 rcases y5 with y5 | pv4 <;> dsimp only at H
 refine iB a2g rfl rfl rfl (has rfl) (aN.cons (has rfl) aN.nil) rfl (cb rfl) (aCc y4.At (⟨a0.AN,a0.AR,a0.AP⟩:AO) (Sum.inl y5) h5).s rfl ?_
 revert H;refine I6 (fun c4 H=>?_) fun c4 H=>?_
 revert H;refine B4 fun y6 h6 H=>?_
 rcases y6 with y6 | pv5 <;> dsimp only at H
 refine Tc (aT _ _ h6).s ?_
 refine Z3 ?_
 refine aE [] (by decide) ?_
 exact Tm (()) (ij H)
 refine Tp (aT _ _ h6).pan ?_
 revert H;refine B2 fun r4 H e4=>?_
 cases e4;cases Hr3
 revert H;refine B3 fun r5 H e5=>?_
 cases e5;cases Hr2
 cases H
 exact bY
 revert H;refine B4 fun y7 h7 H=>?_
 rcases y7 with y7 | pv6 <;> dsimp only at H
 refine Tc (aT _ _ h7).s ?_
 refine Z3 ?_
 refine aE [] (by decide) ?_
 exact Tm (()) (ij H)
 refine Tp (aT _ _ h7).pan ?_
 revert H;refine B2 fun r6 H e6=>?_
 cases e6;cases Hr3
 revert H;refine B3 fun r7 H e7=>?_
 cases e7;cases Hr2
 cases H
 exact bY
 refine aBP a2g rfl (has rfl) (aN.cons (has rfl) aN.nil) rfl (cb rfl) (aCc y4.At (⟨a0.AN,a0.AR,a0.AP⟩:AO) (Sum.inr pv4) h5).pan rfl ?_
 revert H;refine B3 fun r8 H e8=>?_
 cases e8;cases Hr3
 revert H;refine B3 fun r9 H e9=>?_
 cases e9;cases Hr2
 cases H
 exact bY
 clear H;intro i hi;subst o3;have H:=Hr3;clear Hr3;try dsimp only at H
 try dsimp only
 revert H;refine B1 fun z1 h8 H=>?_
 refine Z3 ?_
 exact Tm ((k1,z1)) ⟨H,ls⟩
 refine Z6 ?_
 exact Tm (()) (ij H)
 clear H;intro i hi;subst o2;have H:=Hr2;clear Hr2;try dsimp only at H
 try dsimp only
 revert H;refine bs fun o4 H Hr4=>?_
 refine aR (ι:=Unit) (fun i=>o4=Sum.inl ()) (fun i=>[(1,aG aB (⟨a0.AN,a0.AR,a0.AP⟩:AO)),(2,cB 203 [aG aB (⟨a0.AN,a0.AR,a0.AP⟩:AO)])]) (fun i=>[]) ?_ ?_
 refine Z7 ?_
 refine Tl (ι:=Nat × Int) (fun i=>oI a0 i.1 i.2=_) (fun i=>i.1) (fun i=>[(1,aG aB (⟨a0.AN,a0.AR,a0.AP⟩:AO)),(2,cB 203 [aG aB (⟨a0.AN,a0.AR,a0.AP⟩:AO)]),(52,fSl bD ((⟨a0.AN,a0.AR,a0.AP⟩:AO).AR)),(53,fI (((⟨a0.AN,a0.AR,a0.AP⟩:AO).AR).length:Int)),(54,fI i.2)]) (fun i=>[]) (AA,0) H ?_
 clear H;rintro⟨k2,x4⟩ H
 replace H:oI a0 k2 x4=_:=H
 try dsimp only
 obtain _ | k2:=k2
 rw [oI]at H;cases H
 rw [oI]at H
 refine Z3 ?_
 refine aI ?_
 revert H;refine is (fun c5 H=>?_) fun c5 H=>?_
 revert H;refine B3 fun o5 H Hr5=>?_
 refine aR (ι:=Unit) (fun i=>o5=Sum.inl ()) (fun i=>[(1,aG aB (⟨a0.AN,a0.AR,a0.AP⟩:AO)),(2,cB 203 [aG aB (⟨a0.AN,a0.AR,a0.AP⟩:AO)]),(52,fSl bD ((⟨a0.AN,a0.AR,a0.AP⟩:AO).AR)),(53,fI (((⟨a0.AN,a0.AR,a0.AP⟩:AO).AR).length:Int)),(54,fI x4)]) (fun i=>[]) ?_ ?_
 revert H;refine B3 fun y8 h9 H=>?_
 refine Z2 ?_
 refine Tn (bN rfl xB rfl) fun b3=>?_
 refine Z1 ?_
 refine cG (φs':=[fI y8.In,fI y8.AV]) a2g rfl rfl (has rfl) (has rfl) (aF (aH a2g) (aF (aH a2g) bF)) (sz rfl) rfl rfl rfl ?_
 revert H;refine I6 (fun c6 H=>?_) fun c6 H=>?_
 revert H;refine B5 fun y9 h10 H=>?_
 rcases y9 with y9 | pv7 <;> dsimp only at H
 refine Tc (aT _ _ h10).s ?_
 refine Z3 ?_
 refine aE [] (by decide) ?_
 exact Tm (()) (ij H)
 refine Tp (aT _ _ h10).pan ?_
 revert H;refine B2 fun r10 H e10=>?_
 cases e10;cases Hr5
 revert H;refine B3 fun r11 H e11=>?_
 cases e11;cases Hr4
 cases H
 exact bY
 revert H;refine B5 fun y10 h11 H=>?_
 rcases y10 with y10 | pv8 <;> dsimp only at H
 refine Tc (aT _ _ h11).s ?_
 refine Z3 ?_
 refine aE [] (by decide) ?_
 exact Tm (()) (ij H)
 refine Tp (aT _ _ h11).pan ?_
 revert H;refine B2 fun r12 H e12=>?_
 cases e12;cases Hr5
 revert H;refine B3 fun r13 H e13=>?_
 cases e13;cases Hr4
 cases H
 exact bY
 clear H;intro i hi;subst o5;have H:=Hr5;clear Hr5;try dsimp only at H
 try dsimp only
 revert H;refine B1 fun z2 h12 H=>?_
 refine Z3 ?_
 exact Tm ((k2,z2)) ⟨H,ls⟩
 refine Z6 ?_
 exact Tm (()) (ij H)
 clear H;intro i hi;subst o4;have H:=Hr4;clear Hr4;try dsimp only at H
 try dsimp only
 refine Z1 ?_
 refine Tn (aBz (fun y=>aK y) bX rfl) fun b4=>?_
 revert H;refine B2 fun o6 H Hr6=>?_
 refine aR (ι:=aL Int Bool) (fun i=>o6=Sum.inl i) (fun i=>[(1,aG aB (⟨a0.AN,a0.AR,a0.AP⟩:AO)),(7,fEq (.map (some b4)))]) (fun i=>[dU bX (fun y=>aK y) b4 i]) ?_ ?_
 refine Z7 ?_
 refine Tl (ι:=Nat × Int × aL Int Bool) (fun i=>nF AA a0 i.1 i.2.1 i.2.2=_) (fun i=>i.1) (fun i=>[(1,aG aB (⟨a0.AN,a0.AR,a0.AP⟩:AO)),(2,cB 203 [aG aB (⟨a0.AN,a0.AR,a0.AP⟩:AO)]),(7,fEq (.map (some b4))),(72,fSl aY ((⟨a0.AN,a0.AR,a0.AP⟩:AO).AP)),(73,fI (((⟨a0.AN,a0.AR,a0.AP⟩:AO).AP).length:Int)),(74,fI i.2.1)]) (fun i=>[dU bX (fun y=>aK y) b4 i.2.2]) (AA,0,(aL.none:aL Int Bool)) H ?_
 clear H;rintro⟨k3,x8,x9⟩ H
 replace H:nF AA a0 k3 x8 x9=_:=H
 try dsimp only
 obtain _ | k3:=k3
 rw [nF]at H;cases H
 rw [nF]at H
 refine Z3 ?_
 refine aI ?_
 revert H;refine is (fun c7 H=>?_) fun c7 H=>?_
 revert H;refine B3 fun o7 H Hr7=>?_
 refine aR (ι:=aL Int Bool) (fun i=>o7=Sum.inl i) (fun i=>[(1,aG aB (⟨a0.AN,a0.AR,a0.AP⟩:AO)),(2,cB 203 [aG aB (⟨a0.AN,a0.AR,a0.AP⟩:AO)]),(7,fEq (.map (some b4))),(72,fSl aY ((⟨a0.AN,a0.AR,a0.AP⟩:AO).AP)),(73,fI (((⟨a0.AN,a0.AR,a0.AP⟩:AO).AP).length:Int)),(74,fI x8)]) (fun i=>[dU bX (fun y=>aK y) b4 i]) ?_ ?_
 revert H;refine B2 fun y11 h13 H=>?_
 refine Z2 ?_
 refine Tn (bN rfl rU rfl) fun b5=>?_
 refine cG (φs':=[fI y11.At,fSl tI y11.AY,fI y11.AV]) a2g rfl rfl (has rfl) (has rfl) (aF (aH a2g) (aF (aS) (aF (aH a2g) bF))) (sz rfl) rfl rfl rfl ?_
 revert H;refine B5 fun y12 h14 H=>?_
 rcases y12 with y12 | pv9 <;> dsimp only at H
 refine iB a2g rfl rfl rfl (has rfl) (aN.cons (has rfl) aN.nil) rfl (cb rfl) (aCc y11.At (⟨a0.AN,a0.AR,a0.AP⟩:AO) (Sum.inl y12) h14).s rfl ?_
 revert H;refine B1 fun o8 H Hr8=>?_
 refine aR (ι:=Unit) (fun i=>o8=Sum.inl ()) (fun i=>[(1,aG aB (⟨a0.AN,a0.AR,a0.AP⟩:AO)),(2,cB 203 [aG aB (⟨a0.AN,a0.AR,a0.AP⟩:AO)]),(7,fEq (.map (some b4))),(72,fSl aY ((⟨a0.AN,a0.AR,a0.AP⟩:AO).AP)),(73,fI (((⟨a0.AN,a0.AR,a0.AP⟩:AO).AP).length:Int)),(74,fI x8),(9,fEq (ptr b5))]) (fun i=>[aA b5 81 [fI y11.At,fSl tI y11.AY,fI y11.AV],dU bX (fun y=>aK y) b4 x9]) ?_ ?_
 revert H;refine I6 (fun c8 H=>?_) fun c8 H=>?_
 revert H;refine B5 fun y13 h15 H=>?_
 rcases y13 with y13 | pv10 <;> dsimp only at H
 refine Tc (aT _ _ h15).s ?_
 refine Z1 ?_
 exact Tm (()) (ij H)
 refine Tp (aT _ _ h15).pan ?_
 revert H;refine B1 fun r14 H e14=>?_
 cases e14;cases Hr8
 revert H;refine B2 fun r15 H e15=>?_
 cases e15;cases Hr7
 revert H;refine B3 fun r16 H e16=>?_
 cases e16;cases Hr6
 cases H
 exact bY
 revert H;refine B5 fun y14 h16 H=>?_
 rcases y14 with y14 | pv11 <;> dsimp only at H
 refine Tc (aT _ _ h16).s ?_
 refine Z1 ?_
 exact Tm (()) (ij H)
 refine Tp (aT _ _ h16).pan ?_
 revert H;refine B1 fun r17 H e17=>?_
 cases e17;cases Hr8
 revert H;refine B2 fun r18 H e18=>?_
 cases e18;cases Hr7
 revert H;refine B3 fun r19 H e19=>?_
 cases e19;cases Hr6
 cases H
 exact bY
 clear H;intro i hi;subst o8;have H:=Hr8;clear Hr8;try dsimp only at H
 try dsimp only
 refine Z7 ?_
 refine Tl (ι:=Nat × Int × aL Int Bool) (fun i=>jV AA a0 y11 i.1 i.2.1 i.2.2=_) (fun i=>i.1) (fun i=>[(1,aG aB (⟨a0.AN,a0.AR,a0.AP⟩:AO)),(2,cB 203 [aG aB (⟨a0.AN,a0.AR,a0.AP⟩:AO)]),(7,fEq (.map (some b4))),(72,fSl aY ((⟨a0.AN,a0.AR,a0.AP⟩:AO).AP)),(73,fI (((⟨a0.AN,a0.AR,a0.AP⟩:AO).AP).length:Int)),(74,fI x8),(9,fEq (ptr b5)),(94,fSl tI y11.AY),(95,fI (y11.AY.length:Int)),(96,fI i.2.1)]) (fun i=>[aA b5 81 [fI y11.At,fSl tI y11.AY,fI y11.AV],dU bX (fun y=>aK y) b4 i.2.2]) (AA,0,x9) H ?_
 clear H;rintro⟨k4,x13,x14⟩ H
 replace H:jV AA a0 y11 k4 x13 x14=_:=H
 try dsimp only
 obtain _ | k4:=k4
 rw [jV]at H;cases H
 rw [jV]at H
 refine Z3 ?_
 refine aI ?_
 revert H;refine is (fun c9 H=>?_) fun c9 H=>?_
 refine Z3 ?_
 refine aI ?_
 revert H;refine B3 fun y15 h17 H=>?_
 revert H;refine B5 fun o9 H Hr9=>?_
 refine aR (ι:=Unit) (fun i=>o9=Sum.inl ()) (fun i=>[(1,aG aB (⟨a0.AN,a0.AR,a0.AP⟩:AO)),(2,cB 203 [aG aB (⟨a0.AN,a0.AR,a0.AP⟩:AO)]),(7,fEq (.map (some b4))),(72,fSl aY ((⟨a0.AN,a0.AR,a0.AP⟩:AO).AP)),(73,fI (((⟨a0.AN,a0.AR,a0.AP⟩:AO).AP).length:Int)),(74,fI x8),(9,fEq (ptr b5)),(94,fSl tI y11.AY),(95,fI (y11.AY.length:Int)),(96,fI x13),(11,fI y15)]) (fun i=>[aA b5 81 [fI y11.At,fSl tI y11.AY,fI y11.AV],dU bX (fun y=>aK y) b4 x14]) ?_ ?_
 revert H;refine is (fun c10 H=>?_) fun c10 H=>?_
 revert H;refine is (fun c11 H=>?_) fun c11 H=>?_
 revert H;refine bs fun y16 h18 H=>?_
 revert H;refine is (fun c12 H=>?_) fun c12 H=>?_
 revert H;refine bs fun y17 h19 H=>?_
 revert H;refine bs fun y18 h20 H=>?_
 apply bL (ods:=[_,_,_,_,_,_,_,_,_,_,_,_,_,_,_,_,_,_,_,_,_,_,_,_,_,_,_,_,_]) 29 0 2 bK rfl rfl rfl
 refine ND ?_
 refine M8 ?_
 intros
 refine M8 ?_
 intros
 refine M8 ?_
 intros
 refine Mg c12 (o_slice (t:=tI) rfl hh aKv (aI2 hh) (el rfl) h19) fun _=>?_
 refine M1 ?_
 intros
 refine Nc (aJL _ _ _ _ h20) fun _=>?_
 refine M2 ?_
 intros
 revert H;refine B1 fun y19 h21 H=>?_
 rcases y19 with y19 | pv12 <;> dsimp only at H
 refine Tc (aT _ _ h21).s ?_
 refine Z1 ?_
 exact Tm (()) (ij H)
 refine Tp (aT _ _ h21).pan ?_
 revert H;refine B1 fun r20 H e20=>?_
 cases e20;cases Hr9
 revert H;refine B6 fun r21 H e21=>?_
 cases e21;cases Hr7
 revert H;refine B3 fun r22 H e22=>?_
 cases e22;cases Hr6
 cases H
 exact bY
 exact fk
 kernel_rfl
 apply bL (ods:=[_,_,_,_,_,_,_,_,_,_,_,_,_,_,_,_,_,_,_,_,_,_,_,_,_,_,_,_,_]) 29 0 2 bK rfl rfl rfl
 refine ND ?_
 refine M8 ?_
 intros
 refine M8 ?_
 intros
 refine M8 ?_
 intros
 refine M5 ?_
 intros
 revert H;refine B1 fun y20 h22 H=>?_
 rcases y20 with y20 | pv13 <;> dsimp only at H
 refine Tc (aT _ _ h22).s ?_
 refine Z1 ?_
 exact Tm (()) (ij H)
 refine Tp (aT _ _ h22).pan ?_
 revert H;refine B1 fun r23 H e23=>?_
 cases e23;cases Hr9
 revert H;refine B6 fun r24 H e24=>?_
 cases e24;cases Hr7
 revert H;refine B3 fun r25 H e25=>?_
 cases e25;cases Hr6
 cases H
 exact bY
 exact fk
 kernel_rfl
 apply bL (ods:=[_,_,_,_,_,_,_,_,_,_,_,_,_,_,_,_,_,_,_,_,_,_,_,_,_,_,_,_,_]) 29 0 2 bK rfl rfl rfl
 refine ND ?_
 refine M8 ?_
 intros
 refine M8 ?_
 intros
 refine M8 ?_
 intros
 refine M5 ?_
 intros
 revert H;refine B1 fun y21 h23 H=>?_
 rcases y21 with y21 | pv14 <;> dsimp only at H
 refine Tc (aT _ _ h23).s ?_
 refine Z1 ?_
 exact Tm (()) (ij H)
 refine Tp (aT _ _ h23).pan ?_
 revert H;refine B1 fun r26 H e26=>?_
 cases e26;cases Hr9
 revert H;refine B6 fun r27 H e27=>?_
 cases e27;cases Hr7
 revert H;refine B3 fun r28 H e28=>?_
 cases e28;cases Hr6
 cases H
 exact bY
 exact fk
 kernel_rfl
 apply bL (ods:=[_,_,_,_,_,_,_,_,_,_,_,_,_,_,_,_,_,_,_,_,_,_,_,_,_,_,_,_,_]) 29 0 2 bK rfl rfl rfl
 refine ND ?_
 refine M8 ?_
 intros
 refine M8 ?_
 intros
 refine M8 ?_
 intros
 refine M5 ?_
 intros
 revert H;refine B1 fun y22 h24 H=>?_
 rcases y22 with y22 | pv15 <;> dsimp only at H
 refine Tc (aT _ _ h24).s ?_
 refine Z1 ?_
 exact Tm (()) (ij H)
 refine Tp (aT _ _ h24).pan ?_
 revert H;refine B1 fun r29 H e29=>?_
 cases e29;cases Hr9
 revert H;refine B6 fun r30 H e30=>?_
 cases e30;cases Hr7
 revert H;refine B3 fun r31 H e31=>?_
 cases e31;cases Hr6
 cases H
 exact bY
 exact fk
 kernel_rfl
 clear H;intro i hi;subst o9;have H:=Hr9;clear Hr9;try dsimp only at H
 try dsimp only
 refine Z3 ?_
 refine cK ?_
 refine gW (k:=y15) (y:=true) a2g (.inl rfl) rfl (has rfl) (has rfl) rfl (has rfl) rfl wM ?_
 revert H;refine B4 fun z3 h25 H=>?_
 refine Z3 ?_
 refine aE [1,0] (by decide) ?_
 exact Tm ((k4,z3,aL.upd x14 y15 true)) ⟨H,ls⟩
 refine Z7 ?_
 refine aE [1] (by decide) ?_
 exact Tm (x14) (ij H)
 refine aBP a2g rfl (has rfl) (aN.cons (has rfl) aN.nil) rfl (cb rfl) (aCc y11.At (⟨a0.AN,a0.AR,a0.AP⟩:AO) (Sum.inr pv9) h14).pan rfl ?_
 revert H;refine B3 fun r32 H e32=>?_
 cases e32;cases Hr7
 revert H;refine B3 fun r33 H e33=>?_
 cases e33;cases Hr6
 cases H
 exact bY
 clear H;intro x10 hi;subst o7;have H:=Hr7;clear Hr7;try dsimp only at H
 try dsimp only
 revert H;refine B1 fun z4 h26 H=>?_
 refine Z3 ?_
 exact Tm ((k3,z4,x10)) ⟨H,ls⟩
 refine Z6 ?_
 exact Tm (x9) (ij H)
 clear H;intro x5 hi;subst o6;have H:=Hr6;clear Hr6;try dsimp only at H
 try dsimp only
 refine Z2 ?_
 refine Yo 0 rfl (o_lenMO rfl hh wM) ?_
 revert H;refine B4 fun y23 h27 H=>?_
 rcases y23 with y23 | pv16 <;> dsimp only at H
 refine Tc (aT _ _ h27).s ?_
 refine Z1 ?_
 cases H
 refine rZ ?_
 refine aE [] (by decide) ?_
 exact eP (.inr rfl) rfl rfl
 refine Tp (aT _ _ h27).pan ?_
 cases H
 exact bY
def wN (a0:AO):Option (Int):=
 (chk ((a0.AN.length:Int)+(a0.AR.length:Int))).bind fun z1=>
 some z1
theorem aKn  (a0:AO) (r:Int) (H:wN a0=some r):FnS Tryz.prog 177 [fSt aB a0] [] (fI r) (fun _=>[]):=by
 unfold wN at H
 refine bG Tryz.func177 rfl Tryz.ntmps177 rfl (fun β=>?_)
 refine Z1 ?_
 refine Tn (bU rfl hh bS) fun b1=>?_
 revert H;refine B9 fun z1 h1 H=>?_
 refine Z4 ?_
 cases H
 refine aE [] (by decide) ?_
 exact To
def pK (a0:AO) (a1:Am):Nat->Int->Int->Option (Int)
| 0,_,_=>none
| k+1,x4,x5=>
 if x5<(a1.AY.length:Int)then
  (idx a1.AY x5).bind fun y1=>
  (idx a0.AN y1).bind fun y2=>
  (chk (x4+y2.Ap)).bind fun z1=>
  (chk (x5+1)).bind fun z2=>
  pK a0 a1 k z1 z2
 else
  some x4
def zP (AA:Nat) (a0:AO) (a1:Am):Option (Int):=
 (pK a0 a1 AA 0 0).bind fun x1=>
 some x1
theorem aJq (AA:Nat)  (a0:AO) (a1:Am) (r:Int) (H:zP AA a0 a1=some r):FnS Tryz.prog 178 [fSt aB a0,fSt aY a1] [] (fI r) (fun _=>[]):=by
 unfold zP at H
 refine bG Tryz.func178 rfl Tryz.ntmps178 rfl (fun β=>?_)
 refine Z1 ?_
 refine Tn (bU rfl hh bS) fun b1=>?_
 refine Tn (bU rfl hh bS) fun b2=>?_
 revert H;refine B5 fun o1 H Hr1=>?_
 refine aR (ι:=Int) (fun i=>o1=i) (fun i=>[(5,fI i)]) (fun i=>[aA b2 81 [fI a1.At,fSl tI a1.AY,fI a1.AV],aA b1 77 [fSl aW a0.AN,fSl bD a0.AR,fSl aY a0.AP]]) ?_ ?_
 refine Z7 ?_
 refine Tl (ι:=Nat × Int × Int) (fun i=>pK a0 a1 i.1 i.2.1 i.2.2=_) (fun i=>i.1) (fun i=>[(2,fEq (ptr b1)),(5,fI i.2.1),(9,fSl tI a1.AY),(10,fI (a1.AY.length:Int)),(11,fI i.2.2)]) (fun i=>[aA b2 81 [fI a1.At,fSl tI a1.AY,fI a1.AV],aA b1 77 [fSl aW a0.AN,fSl bD a0.AR,fSl aY a0.AP]]) (AA,0,0) H ?_
 clear H;rintro⟨k1,x4,x5⟩ H
 replace H:pK a0 a1 k1 x4 x5=_:=H
 try dsimp only
 obtain _ | k1:=k1
 rw [pK]at H;cases H
 rw [pK]at H
 refine Z3 ?_
 refine aI ?_
 revert H;refine is (fun c1 H=>?_) fun c1 H=>?_
 refine Z3 ?_
 refine aI ?_
 revert H;refine B2 fun y1 h1 H=>?_
 revert H;refine B9 fun y2 h2 H=>?_
 revert H;refine B3 fun z1 h3 H=>?_
 revert H;refine B6 fun z2 h4 H=>?_
 refine Z3 ?_
 exact Tm ((k1,z1,z2)) ⟨H,ls⟩
 refine Z6 ?_
 exact Tm (x4) (ij H)
 clear H;intro x1 hi;subst o1;have H:=Hr1;clear Hr1;try dsimp only at H
 try dsimp only
 refine Z5 ?_
 cases H
 refine aE [] (by decide) ?_
 exact To
open Go.SX Go.SW Go.Dt
def aDh (a0:Scope_speaks):Option (Int):=
 some 0
theorem aKs  (a0:Scope_speaks) (r:Int) (H:aDh a0=some r):FnS Tryz.prog 236 [fSt aJ2 a0] [] (fI r) (fun _=>[]):=by
 unfold aDh at H
 refine bG Tryz.func236 rfl Tryz.ntmps236 rfl (fun β=>?_)
 refine Z1 ?_
 refine Tn (bU rfl hh bS) fun b1=>?_
 refine Z6 ?_
 cases H
 refine aE [] (by decide) ?_
 exact To
def aDa (a0:Scope_travels):Option (Int):=
 some 1
theorem aKE  (a0:Scope_travels) (r:Int) (H:aDa a0=some r):FnS Tryz.prog 237 [fSt aKU a0] [] (fI r) (fun _=>[]):=by
 unfold aDa at H
 refine bG Tryz.func237 rfl Tryz.ntmps237 rfl (fun β=>?_)
 refine Z1 ?_
 refine Tn (bU rfl hh bS) fun b1=>?_
 refine Z6 ?_
 cases H
 refine aE [] (by decide) ?_
 exact To
def aC6 (a0:Int):Option (Int):=
 some a0
theorem aI6  (a0:Int) (r:Int) (H:aC6 a0=some r):FnS Tryz.prog 238 [fI a0] [] (fI r) (fun _=>[]):=by
 unfold aC6 at H
 refine bG Tryz.func238 rfl Tryz.ntmps238 rfl (fun β=>?_)
 refine Z8 ?_
 cases H
 exact To
def aCI (a0:Scope_decides):Option (Int):=
 some 2
theorem aIN  (a0:Scope_decides) (r:Int) (H:aCI a0=some r):FnS Tryz.prog 239 [fSt aI7 a0] [] (fI r) (fun _=>[]):=by
 unfold aCI at H
 refine bG Tryz.func239 rfl Tryz.ntmps239 rfl (fun β=>?_)
 refine Z1 ?_
 refine Tn (bU rfl hh bS) fun b1=>?_
 refine Z6 ?_
 cases H
 refine aE [] (by decide) ?_
 exact To
def aEh (a0:Scope_declares):Option (Int):=
 some 1
theorem aJn  (a0:Scope_declares) (r:Int) (H:aEh a0=some r):FnS Tryz.prog 240 [fSt aKo a0] [] (fI r) (fun _=>[]):=by
 unfold aEh at H
 refine bG Tryz.func240 rfl Tryz.ntmps240 rfl (fun β=>?_)
 refine Z1 ?_
 refine Tn (bU rfl hh bS) fun b1=>?_
 refine Z6 ?_
 cases H
 refine aE [] (by decide) ?_
 exact To
def lP:Value->Option Int
 | .iface 207 (.agg ⟨[]⟩)=>aDh ⟨⟩
 | .iface 208 (.agg ⟨[]⟩)=>aDa ⟨⟩
 | .iface 235 (.int .i64 n)=>aC6 n
 | .iface 236 (.agg ⟨[]⟩)=>aCI ⟨⟩
 | .iface 237 (.agg ⟨[]⟩)=>aEh ⟨⟩
 | _=>none
theorem aIG (v:Value) (r:Int) (H:lP v=some r):Inv Tryz.prog v "cabotage/scope.kids" [] (fI r):=by
 unfold lP at H
 split at H
 exact⟨_,_,236,rfl,fun w=>by kernel_rfl,(cb rfl),(aKs ⟨⟩ r H).args (aP.cons (xE []) aP.nil)⟩
 exact⟨_,_,237,rfl,fun w=>by kernel_rfl,(cb rfl),(aKE ⟨⟩ r H).args (aP.cons (xE []) aP.nil)⟩
 rename_i n;exact⟨_,_,238,rfl,fun w=>by kernel_rfl,(cb rfl),(aI6 n r H).args aP.rfl⟩
 exact⟨_,_,239,rfl,fun w=>by kernel_rfl,(cb rfl),(aIN ⟨⟩ r H).args (aP.cons (xE []) aP.nil)⟩
 exact⟨_,_,240,rfl,fun w=>by kernel_rfl,(cb rfl),(aJn ⟨⟩ r H).args (aP.cons (xE []) aP.nil)⟩
 cases H
def mB (AA:Nat) (a2:Int) (y7:AW):Nat->Int->Option ((Unit) ⊕ (Ad ⊕ Value))
| 0,_=>none
| k+1,x8=>
 if x8<(y7.AU.length:Int)then
  (idx y7.AU x8).bind fun y27=>
  (zS AA (⟨y27.Op,y27.N,y27.AM⟩:AS) a2).bind fun y28=>
  match y28 with
  | Sum.inr pv16=>(some (Sum.inr pv16)).bind fun r=>some (Sum.inr r)
  | Sum.inl y28=>
  (chk (x8+1)).bind fun z1=>
  mB AA a2 y7 k z1
 else
  some (Sum.inl ())
def mI (AA:Nat) (rec_scope_looker_node:Ad->Int->Int->Option (Ad ⊕ Value)) (y30:AO) (z2:Int):Nat->Int->(List ByteArray)->(List AW)->(List AO)->Int->(List Int)->(List Bool)->(List Bool)->Option ((List ByteArray × List AW × List AO × Int × List Int × List Bool × List Bool) ⊕ ((Int × List ByteArray × List AW × List AO × Int × List Int × List Bool × List Bool) ⊕ (Ad ⊕ Value)))
| 0,_,_,_,_,_,_,_,_=>none
| k+1,x32,x33,x34,x35,x36,x37,x38,x39=>
 if x32<(y30.AP.length:Int)then
  (idx y30.AP x32).bind fun y33=>
  (zP AA (⟨y30.AN,y30.AR,y30.AP⟩:AO) (⟨y33.At,y33.AY,y33.AV⟩:Am)).bind fun y34=>
  (chk (z2+y34)).bind fun z3=>
  (rec_scope_looker_node (⟨(⟨x33,x34,x35,x36⟩:AI),x37,x38,x39⟩:Ad) y33.AV z3).bind fun y35=>
  match y35 with
  | Sum.inr pv18=>((some (Sum.inr pv18)).bind fun r=>some (Sum.inr r)).bind fun r=>some (Sum.inr r)
  | Sum.inl y35=>
  (chk (x32+1)).bind fun z4=>
  mI AA rec_scope_looker_node y30 z2 k z4 y35.p.AF y35.p.AD y35.p.AE y35.p.AG y35.Af y35.AT y35.Aa
 else
  some (Sum.inl (x33,x34,x35,x36,x37,x38,x39))
def mJ (rec_scope_looker_node:Ad->Int->Int->Option (Ad ⊕ Value)) (y30:AO) (z2:Int):Nat->Int->(List ByteArray)->(List AW)->(List AO)->Int->(List Int)->(List Bool)->(List Bool)->Option ((Int × List ByteArray × List AW × List AO × Int × List Int × List Bool × List Bool) ⊕ (Ad ⊕ Value))
| 0,_,_,_,_,_,_,_,_=>none
| k+1,x48,x49,x50,x51,x52,x53,x54,x55=>
 if x48<(y30.AR.length:Int)then
  (idx y30.AR x48).bind fun y36=>
  (rec_scope_looker_node (⟨(⟨x49,x50,x51,x52⟩:AI),x53,x54,x55⟩:Ad) y36.AV z2).bind fun y37=>
  match y37 with
  | Sum.inr pv19=>(some (Sum.inr pv19)).bind fun r=>some (Sum.inr r)
  | Sum.inl y37=>
  (chk (x48+1)).bind fun z5=>
  mJ rec_scope_looker_node y30 z2 k z5 y37.p.AF y37.p.AD y37.p.AE y37.p.AG y37.Af y37.AT y37.Aa
 else
  some (Sum.inl (z2,x49,x50,x51,x52,x53,x54,x55))
def nA (rec_scope_looker_node:Ad->Int->Int->Option (Ad ⊕ Value)) (y7:AW) (x9:Int):Nat->Int->(List ByteArray)->(List AW)->(List AO)->Int->(List Int)->(List Bool)->(List Bool)->Option (Ad ⊕ Value)
| 0,_,_,_,_,_,_,_,_=>none
| k+1,x64,x65,x66,x67,x68,x69,x70,x71=>
 if x64<(y7.AM.length:Int)then
  (idx y7.AM x64).bind fun y38=>
  (rec_scope_looker_node (⟨(⟨x65,x66,x67,x68⟩:AI),x69,x70,x71⟩:Ad) y38 x9).bind fun y39=>
  match y39 with
  | Sum.inr pv20=>some (Sum.inr pv20)
  | Sum.inl y39=>
  (chk (x64+1)).bind fun z6=>
  nA rec_scope_looker_node y7 x9 k z6 y39.p.AF y39.p.AD y39.p.AE y39.p.AG y39.Af y39.AT y39.Aa
 else
  some (Sum.inl (⟨(⟨x65,x66,x67,x68⟩:AI),x69,x70,x71⟩:Ad))
def fG:Nat->Ad->Int->Int->Option (Ad ⊕ Value)
| 0,_,_,_=>none
| AA+1,a0,a1,a2=>
 (if 0<=a1 then
  if a1<(a0.p.AD.length:Int)then
   (idx a0.AT a1).bind fun y1=>
   (bR (!y1)).bind fun y2=>
   match y2 with
   | Sum.inr pv1=>(some (Sum.inr pv1)).bind fun r=>some (Sum.inr r)
   | Sum.inl y2=>
   some (Sum.inl ())
  else
   (bR false).bind fun y3=>
   match y3 with
   | Sum.inr pv2=>(some (Sum.inr pv2)).bind fun r=>some (Sum.inr r)
   | Sum.inl y3=>
   some (Sum.inl ())
 else
  (bR false).bind fun y4=>
  match y4 with
  | Sum.inr pv3=>(some (Sum.inr pv3)).bind fun r=>some (Sum.inr r)
  | Sum.inl y4=>
  some (Sum.inl ())).bind fun o=>match o with
 | Sum.inr r=>some r
 | Sum.inl _=>
 (idx a0.AT a1).bind fun y5=>
 (idx a0.Af a1).bind fun y6=>
 (idx a0.p.AD a1).bind fun y7=>
 (iR y7.Op).bind fun y8=>
 ((jB y8).bind fun x1=>
 bif !x1 then
  (lP y8).bind fun y9=>
  (bR (decide ((y7.AM.length:Int)=y9))).bind fun y10=>
  match y10 with
  | Sum.inr pv4=>(some (Sum.inr pv4)).bind fun r=>some (Sum.inr r)
  | Sum.inl y10=>
  some (Sum.inl ())
 else
  (bR false).bind fun y11=>
  match y11 with
  | Sum.inr pv5=>(some (Sum.inr pv5)).bind fun r=>some (Sum.inr r)
  | Sum.inl y11=>
  some (Sum.inl ())).bind fun o=>match o with
 | Sum.inr r=>some r
 | Sum.inl _=>
 ((eA 207 (.agg #[]) y8).bind fun y12=>
 match y12 with
 | (u1,x3)=>
 bif x3 then
  if 0<=y7.N then
   (bR (decide (y7.N<a2))).bind fun y13=>
   match y13 with
   | Sum.inr pv6=>(some (Sum.inr pv6)).bind fun r=>some (Sum.inr r)
   | Sum.inl y13=>
   some (Sum.inl (min (y7.AU.length:Int) 3))
  else
   (bR false).bind fun y14=>
   match y14 with
   | Sum.inr pv7=>(some (Sum.inr pv7)).bind fun r=>some (Sum.inr r)
   | Sum.inl y14=>
   some (Sum.inl (min (y7.AU.length:Int) 3))
 else
  (eA 208 (.agg #[]) y8).bind fun y15=>
  match y15 with
  | (u2,x4)=>
  bif x4 then
   if 0<=y7.N then
    (bR (decide (y7.N<a2))).bind fun y16=>
    match y16 with
    | Sum.inr pv8=>(some (Sum.inr pv8)).bind fun r=>some (Sum.inr r)
    | Sum.inl y16=>
    some (Sum.inl 0)
   else
    (bR false).bind fun y17=>
    match y17 with
    | Sum.inr pv9=>(some (Sum.inr pv9)).bind fun r=>some (Sum.inr r)
    | Sum.inl y17=>
    some (Sum.inl 0)
  else
   (eA 237 (.agg #[]) y8).bind fun y18=>
   match y18 with
   | (u3,x5)=>
   bif x5 then
    if 0<=y7.N then
     if y7.N<(a0.p.AE.length:Int)then
      (idx a0.Aa y7.N).bind fun y19=>
      (bR (!y19)).bind fun y20=>
      match y20 with
      | Sum.inr pv10=>(some (Sum.inr pv10)).bind fun r=>some (Sum.inr r)
      | Sum.inl y20=>
      some (Sum.inl 0)
     else
      (bR false).bind fun y21=>
      match y21 with
      | Sum.inr pv11=>(some (Sum.inr pv11)).bind fun r=>some (Sum.inr r)
      | Sum.inl y21=>
      some (Sum.inl 0)
    else
     (bR false).bind fun y22=>
     match y22 with
     | Sum.inr pv12=>(some (Sum.inr pv12)).bind fun r=>some (Sum.inr r)
     | Sum.inl y22=>
     some (Sum.inl 0)
   else
    (eA 236 (.agg #[]) y8).bind fun y23=>
    match y23 with
    | (u4,x6)=>
    bif x6 then
     (bR (decide (y7.N=0))).bind fun y24=>
     match y24 with
     | Sum.inr pv13=>(some (Sum.inr pv13)).bind fun r=>some (Sum.inr r)
     | Sum.inl y24=>
     some (Sum.inl 1)
    else
     (bR (decide (y7.N=0))).bind fun y25=>
     match y25 with
     | Sum.inr pv14=>(some (Sum.inr pv14)).bind fun r=>some (Sum.inr r)
     | Sum.inl y25=>
     some (Sum.inl 0)).bind fun o=>match o with
 | Sum.inr r=>some r
 | Sum.inl x2=>
 (bR (decide ((y7.AU.length:Int)=x2))).bind fun y26=>
 match y26 with
 | Sum.inr pv15=>some (Sum.inr pv15)
 | Sum.inl y26=>
 (mB AA a2 y7 AA 0).bind fun o=>match o with
 | Sum.inr r=>some r
 | Sum.inl _=>
 (if y7.Op=4 then
  (idx a0.Aa y7.N).bind fun y29=>
  (idx a0.p.AE y7.N).bind fun y30=>
  (vF AA (⟨y30.AN,y30.AR,y30.AP⟩:AO)).bind fun y31=>
  match y31 with
  | Sum.inr pv17=>(some (Sum.inr pv17)).bind fun r=>some (Sum.inr r)
  | Sum.inl y31=>
  (wN (⟨y30.AN,y30.AR,y30.AP⟩:AO)).bind fun y32=>
  (chk (a2+y32)).bind fun z2=>
  (mI AA (fG AA) y30 z2 AA 0 a0.p.AF a0.p.AD a0.p.AE a0.p.AG (a0.Af.set a1.toNat a2) (a0.AT.set a1.toNat true) (a0.Aa.set y7.N.toNat true)).bind fun o=>match o with
  | Sum.inr r=>some r
  | Sum.inl (x17,x18,x19,x20,x21,x22,x23)=>
  mJ (fG AA) y30 z2 AA 0 x17 x18 x19 x20 x21 x22 x23
 else
  some (Sum.inl (a2,a0.p.AF,a0.p.AD,a0.p.AE,a0.p.AG,a0.Af.set a1.toNat a2,a0.AT.set a1.toNat true,a0.Aa))).bind fun o=>match o with
 | Sum.inr r=>some r
 | Sum.inl (x9,x10,x11,x12,x13,x14,x15,x16)=>
 nA (fG AA) y7 x9 AA 0 x10 x11 x12 x13 x14 x15 x16
theorem aEV:∀ (AA:Nat),(∀ (p0:Nat) (a0:Ad) (a1:Int) (a2:Int) (r:Ad ⊕ Value) (H:fG AA a0 a1 a2=some r),FnE Tryz.prog 164 [fEq (.pointer (some ⟨p0,0,none⟩)),fI a1,fI a2] [aCa p0 a0] r (fun r=>dF []) (fun r=>[aCa p0 r])):=by
 intro AA
 induction AA with
 | zero=>exact fun p0 a0 a1 a2 r H=>(by rw [fG]at H;cases H)
 | succ AA ih=>
 have ih_scope_looker_node:=@ih
 refine ?_
 intro p0 a0 a1 a2 r H
 rw [fG]at H
 refine sX Tryz.func164 rfl Tryz.ntmps164 rfl (fun β=>?_)
 refine xX (fun v1 v2 v3=>?_)
 refine aJ 1 rfl (fun hc_v1=>?_)
 refine aJ 2 rfl (fun hc_v2=>?_)
 refine aJ 3 rfl (fun hc_v3=>?_)
 revert H;refine bs fun o1 H Hr1=>?_
 refine aR (ι:=Unit) (fun i=>o1=Sum.inl ()) (fun i=>[(0,fEq (ptr p0)),(1,fI a1),(2,fI a2)]) (fun i=>[aA p0 131 [fSl aD a0.p.AF,fSl aM a0.p.AD,fSl aB a0.p.AE,fI a0.p.AG,fEq v1,fEq v2,fEq v3],aC v1 3 tI a0.Af,aC v2 4 bE a0.AT,aC v3 4 bE a0.Aa]) ?_ ?_
 revert H;refine I4 (fun c1 H=>?_) fun c1 H=>?_
 revert H;refine I10 (fun c2 H=>?_) fun c2 H=>?_
 revert H;refine B5 fun y1 h1 H=>?_
 refine Z1 ?_
 refine Yh 2 rfl c2 (kI rfl rfl hh (sc rfl) (eF h1) rfl) ?_
 revert H;refine B2 fun y2 h2 H=>?_
 rcases y2 with y2 | pv1 <;> dsimp only at H
 refine Tc (aT _ _ h2).s ?_
 refine Z1 ?_
 exact Tm (()) (ij H)
 refine Tp (aT _ _ h2).pan ?_
 revert H;refine B1 fun r1 H e1=>?_
 cases e1;cases Hr1
 cases H
 exact bY
 revert H;refine B9 fun y3 h3 H=>?_
 rcases y3 with y3 | pv2 <;> dsimp only at H
 refine Tc (aT _ _ h3).s ?_
 refine Z1 ?_
 exact Tm (()) (ij H)
 refine Tp (aT _ _ h3).pan ?_
 revert H;refine B1 fun r2 H e2=>?_
 cases e2;cases Hr1
 cases H
 exact bY
 refine Z12 ?_
 revert H;refine B7 fun y4 h4 H=>?_
 rcases y4 with y4 | pv3 <;> dsimp only at H
 refine Tc (aT _ _ h4).s ?_
 refine Z1 ?_
 exact Tm (()) (ij H)
 refine Tp (aT _ _ h4).pan ?_
 revert H;refine B1 fun r3 H e3=>?_
 cases e3;cases Hr1
 cases H
 exact bY
 clear H;intro i hi;subst o1;have H:=Hr1;clear Hr1;try dsimp only at H
 try dsimp only
 refine aI ?_
 revert H;refine bs fun y5 h5 H=>?_
 revert H;refine bs fun y6 h6 H=>?_
 apply bL (ods:=[_,_,_,_,_,_,_,_,_,_,_,_,_,_,_]) 15 0 4 bK rfl rfl rfl
 refine ND ?_
 refine M8 ?_
 intros
 refine M4 ?_
 intros
 refine sS (od:=odC [2] true (dX) [aC v2 4 bE (a0.AT.set a1.toNat true)]) (p:=2) (z':=true) rfl (fun _=>rfl) (fun _=>rfl) a2g rfl rfl rfl rfl (has rfl) (has rfl) (aH a2g) (sz rfl) (eF h5) rfl rfl (fun _=>?_)
 refine M1 ?_
 intros
 refine sS (od:=odC [1] true (dX) [aC v1 3 tI (a0.Af.set a1.toNat a2)]) (p:=1) (z':=a2) rfl (fun _=>rfl) (fun _=>rfl) a2g rfl rfl rfl rfl (has rfl) (has rfl) (aH a2g) (sz rfl) (eF h6) rfl rfl (fun _=>?_)
 revert H;refine B9 fun y7 h7 H=>?_
 refine Z2 ?_
 refine Tn (bN rfl rP rfl) fun b1=>?_
 refine cG (φs':=[fI y7.Op,fI y7.N,fSl aO y7.AU,fSl tI y7.AM]) a2g rfl rfl (has rfl) (has rfl) (aF (aH a2g) (aF (aH a2g) (aF (aS) (aF (aS) bF)))) (sz rfl) rfl rfl rfl ?_
 revert H;refine B4 fun y8 h8 H=>?_
 refine Tc (aG7 _ _ h8) ?_
 revert H;refine B2 fun o2 H Hr2=>?_
 refine aR (ι:=Unit) (fun i=>o2=Sum.inl ()) (fun i=>[(0,fEq (ptr p0)),(2,fI a2),(6,fEq (ptr b1)),(7,fRaw y8)]) (fun i=>[aA b1 65 [fI y7.Op,fI y7.N,fSl aO y7.AU,fSl tI y7.AM],aA p0 131 [fSl aD a0.p.AF,fSl aM a0.p.AD,fSl aB a0.p.AE,fI a0.p.AG,fEq v1,fEq v2,fEq v3],aC v1 3 tI (a0.Af.set a1.toNat a2),aC v2 4 bE (a0.AT.set a1.toNat true),aC v3 4 bE a0.Aa]) ?_ ?_
 revert H;refine bs fun x1 h9 H=>?_
 revert H;refine cs (fun c3 H=>?_) fun c3 H=>?_
 revert H;refine bs fun y9 h10 H=>?_
 apply bL (ods:=[_,_,_,_,_,_,_,_,_,_]) 10 0 5 bK rfl rfl rfl
 refine ND ?_
 refine M1 ?_
 intros
 refine My (aBw rfl (gC rfl nR) aHH h9) fun _=>?_
 refine M5 ?_
 intros
 refine N_callI (od:=odC [] true (fI y9) []) (Φ:=fI y9) rfl (fun _=>rfl) ⟨_,_,rfl,rfl,c3⟩ rfl rfl (gC rfl nR) aN.nil (aIG y8 y9 h10) (fun _=>?_)
 refine M2 ?_
 intros
 revert H;refine B1 fun y10 h11 H=>?_
 rcases y10 with y10 | pv4 <;> dsimp only at H
 refine Tc (aT _ _ h11).s ?_
 refine Z1 ?_
 exact Tm (()) (ij H)
 refine Tp (aT _ _ h11).pan ?_
 revert H;refine B1 fun r4 H e4=>?_
 cases e4;cases Hr2
 cases H
 exact bY
 exact fk
 kernel_rfl
 apply bL (ods:=[_,_,_,_,_,_,_,_,_,_]) 10 0 5 bK rfl rfl rfl
 refine ND ?_
 refine M1 ?_
 intros
 refine My (aBw rfl (gC rfl nR) aHH h9) fun _=>?_
 refine M8 ?_
 intros
 revert H;refine B1 fun y11 h12 H=>?_
 rcases y11 with y11 | pv5 <;> dsimp only at H
 refine Tc (aT _ _ h12).s ?_
 refine Z1 ?_
 exact Tm (()) (ij H)
 refine Tp (aT _ _ h12).pan ?_
 revert H;refine B1 fun r5 H e5=>?_
 cases e5;cases Hr2
 cases H
 exact bY
 exact fk
 kernel_rfl
 clear H;intro i hi;subst o2;have H:=Hr2;clear Hr2;try dsimp only at H
 try dsimp only
 revert H;refine B3 fun o3 H Hr3=>?_
 refine aR (ι:=Int) (fun i=>o3=Sum.inl i) (fun i=>[(0,fEq (ptr p0)),(2,fI a2),(6,fEq (ptr b1)),(8,fI i)]) (fun i=>[aA b1 65 [fI y7.Op,fI y7.N,fSl aO y7.AU,fSl tI y7.AM],aA p0 131 [fSl aD a0.p.AF,fSl aM a0.p.AD,fSl aB a0.p.AE,fI a0.p.AG,fEq v1,fEq v2,fEq v3],aC v1 3 tI (a0.Af.set a1.toNat a2),aC v2 4 bE (a0.AT.set a1.toNat true),aC v3 4 bE a0.Aa]) ?_ ?_
 revert H;refine B5 fun y12 h13 H=>?_
 obtain⟨u1,x3⟩:=y12;dsimp only at H
 refine Yy (tO rfl (gC rfl nR) aCC aES h13) ?_
 refine Z3 ?_
 revert H;refine cs (fun c4 H=>?_) fun c4 H=>?_
 refine Z12 ?_
 revert H;refine I1 (fun c5 H=>?_) fun c5 H=>?_
 revert H;refine B5 fun y13 h14 H=>?_
 rcases y13 with y13 | pv6 <;> dsimp only at H
 refine Tc (aT _ _ h14).s ?_
 refine Z3 ?_
 exact Tm (min (y7.AU.length:Int) 3) (ij H)
 refine Tp (aT _ _ h14).pan ?_
 revert H;refine B2 fun r6 H e6=>?_
 cases e6;cases Hr3
 cases H
 exact bY
 revert H;refine B5 fun y14 h15 H=>?_
 rcases y14 with y14 | pv7 <;> dsimp only at H
 refine Tc (aT _ _ h15).s ?_
 refine Z3 ?_
 exact Tm (min (y7.AU.length:Int) 3) (ij H)
 refine Tp (aT _ _ h15).pan ?_
 revert H;refine B2 fun r7 H e7=>?_
 cases e7;cases Hr3
 cases H
 exact bY
 revert H;refine B2 fun y15 h16 H=>?_
 obtain⟨u2,x4⟩:=y15;dsimp only at H
 refine Yy (tO rfl (gC rfl nR) aDp aFf h16) ?_
 refine Z3 ?_
 revert H;refine cs (fun c6 H=>?_) fun c6 H=>?_
 revert H;refine I6 (fun c7 H=>?_) fun c7 H=>?_
 revert H;refine B5 fun y16 h17 H=>?_
 rcases y16 with y16 | pv8 <;> dsimp only at H
 refine Tc (aT _ _ h17).s ?_
 refine Z3 ?_
 exact Tm (0) (ij H)
 refine Tp (aT _ _ h17).pan ?_
 revert H;refine B2 fun r8 H e8=>?_
 cases e8;cases Hr3
 cases H
 exact bY
 revert H;refine B5 fun y17 h18 H=>?_
 rcases y17 with y17 | pv9 <;> dsimp only at H
 refine Tc (aT _ _ h18).s ?_
 refine Z3 ?_
 exact Tm (0) (ij H)
 refine Tp (aT _ _ h18).pan ?_
 revert H;refine B2 fun r9 H e9=>?_
 cases e9;cases Hr3
 cases H
 exact bY
 revert H;refine B2 fun y18 h19 H=>?_
 obtain⟨u3,x5⟩:=y18;dsimp only at H
 refine Yy (tO rfl (gC rfl nR) aF8 aJ4 h19) ?_
 refine Z3 ?_
 revert H;refine cs (fun c8 H=>?_) fun c8 H=>?_
 revert H;refine I1 (fun c9 H=>?_) fun c9 H=>?_
 revert H;refine is (fun c10 H=>?_) fun c10 H=>?_
 revert H;refine bs fun y19 h20 H=>?_
 apply bL (ods:=[_,_,_,_,_,_,_,_,_,_,_,_,_,_,_,_,_,_,_,_,_,_,_,_,_]) 25 0 5 bK rfl rfl rfl
 refine ND ?_
 refine M8 ?_
 intros
 refine M8 ?_
 intros
 refine M6 ?_
 intros
 refine dJ (od:=odC [4] false (aK y19) [cQ]) (ps:=[4]) (φ:=aK y19) rfl (fun _=>rfl) ⟨_,_,rfl,rfl,c10⟩ rfl rfl (kI rfl rfl hh (sc rfl) (eF h20) rfl) (fun _=>?_)
 refine M2 ?_
 intros
 revert H;refine B1 fun y20 h21 H=>?_
 rcases y20 with y20 | pv10 <;> dsimp only at H
 refine Tc (aT _ _ h21).s ?_
 refine Z3 ?_
 exact Tm (0) (ij H)
 refine Tp (aT _ _ h21).pan ?_
 revert H;refine B2 fun r10 H e10=>?_
 cases e10;cases Hr3
 cases H
 exact bY
 exact fk
 kernel_rfl
 apply bL (ods:=[_,_,_,_,_,_,_,_,_,_,_,_,_,_,_,_,_,_,_,_,_,_,_,_,_]) 25 0 5 bK rfl rfl rfl
 refine ND ?_
 refine M8 ?_
 intros
 refine M8 ?_
 intros
 refine M8 ?_
 intros
 refine M1 ?_
 intros
 revert H;refine B1 fun y21 h22 H=>?_
 rcases y21 with y21 | pv11 <;> dsimp only at H
 refine Tc (aT _ _ h22).s ?_
 refine Z3 ?_
 exact Tm (0) (ij H)
 refine Tp (aT _ _ h22).pan ?_
 revert H;refine B2 fun r11 H e11=>?_
 cases e11;cases Hr3
 cases H
 exact bY
 exact fk
 kernel_rfl
 apply bL (ods:=[_,_,_,_,_,_,_,_,_,_,_,_,_,_,_,_,_,_,_,_,_,_,_,_,_]) 25 0 5 bK rfl rfl rfl
 refine ND ?_
 refine M8 ?_
 intros
 refine M8 ?_
 intros
 refine M8 ?_
 intros
 refine M1 ?_
 intros
 revert H;refine B1 fun y22 h23 H=>?_
 rcases y22 with y22 | pv12 <;> dsimp only at H
 refine Tc (aT _ _ h23).s ?_
 refine Z3 ?_
 exact Tm (0) (ij H)
 refine Tp (aT _ _ h23).pan ?_
 revert H;refine B2 fun r12 H e12=>?_
 cases e12;cases Hr3
 cases H
 exact bY
 exact fk
 kernel_rfl
 revert H;refine B2 fun y23 h24 H=>?_
 obtain⟨u4,x6⟩:=y23;dsimp only at H
 refine Yy (tO rfl (gC rfl nR) aHR aJj h24) ?_
 refine Z3 ?_
 revert H;refine cs (fun c11 H=>?_) fun c11 H=>?_
 revert H;refine B8 fun y24 h25 H=>?_
 rcases y24 with y24 | pv13 <;> dsimp only at H
 refine Tc (aT _ _ h25).s ?_
 refine Z3 ?_
 exact Tm (1) (ij H)
 refine Tp (aT _ _ h25).pan ?_
 revert H;refine B2 fun r13 H e13=>?_
 cases e13;cases Hr3
 cases H
 exact bY
 revert H;refine B5 fun y25 h26 H=>?_
 rcases y25 with y25 | pv14 <;> dsimp only at H
 refine Tc (aT _ _ h26).s ?_
 refine Z3 ?_
 exact Tm (0) (ij H)
 refine Tp (aT _ _ h26).pan ?_
 revert H;refine B2 fun r14 H e14=>?_
 cases e14;cases Hr3
 cases H
 exact bY
 clear H;intro x2 hi;subst o3;have H:=Hr3;clear Hr3;try dsimp only at H
 try dsimp only
 revert H;refine B6 fun y26 h27 H=>?_
 rcases y26 with y26 | pv15 <;> dsimp only at H
 refine Tc (aT _ _ h27).s ?_
 revert H;refine B1 fun o4 H Hr4=>?_
 refine aR (ι:=Unit) (fun i=>o4=Sum.inl ()) (fun i=>[(0,fEq (ptr p0)),(2,fI a2),(6,fEq (ptr b1))]) (fun i=>[aA b1 65 [fI y7.Op,fI y7.N,fSl aO y7.AU,fSl tI y7.AM],aA p0 131 [fSl aD a0.p.AF,fSl aM a0.p.AD,fSl aB a0.p.AE,fI a0.p.AG,fEq v1,fEq v2,fEq v3],aC v1 3 tI (a0.Af.set a1.toNat a2),aC v2 4 bE (a0.AT.set a1.toNat true),aC v3 4 bE a0.Aa]) ?_ ?_
 refine Z7 ?_
 refine Tl (ι:=Nat × Int) (fun i=>mB AA a2 y7 i.1 i.2=_) (fun i=>i.1) (fun i=>[(0,fEq (ptr p0)),(2,fI a2),(6,fEq (ptr b1)),(154,fSl aO y7.AU),(155,fI (y7.AU.length:Int)),(156,fI i.2)]) (fun i=>[aA b1 65 [fI y7.Op,fI y7.N,fSl aO y7.AU,fSl tI y7.AM],aA p0 131 [fSl aD a0.p.AF,fSl aM a0.p.AD,fSl aB a0.p.AE,fI a0.p.AG,fEq v1,fEq v2,fEq v3],aC v1 3 tI (a0.Af.set a1.toNat a2),aC v2 4 bE (a0.AT.set a1.toNat true),aC v3 4 bE a0.Aa]) (AA,0) H ?_
 clear H;rintro⟨k1,x8⟩ H
 replace H:mB AA a2 y7 k1 x8=_:=H
 try dsimp only
 obtain _ | k1:=k1
 rw [mB]at H;cases H
 rw [mB]at H
 refine Z3 ?_
 refine aI ?_
 revert H;refine is (fun c12 H=>?_) fun c12 H=>?_
 refine Z3 ?_
 refine aI ?_
 revert H;refine B2 fun y27 h28 H=>?_
 refine Z2 ?_
 refine Tn (bN rfl iP rfl) fun b2=>?_
 refine cG (φs':=[fI y27.Op,fI y27.N,cU y27.AM]) a2g rfl rfl (has rfl) (has rfl) (aF (aH a2g) (aF (aH a2g) (aF (lE) bF))) (sz rfl) rfl rfl rfl ?_
 revert H;refine B4 fun y28 h29 H=>?_
 rcases y28 with y28 | pv16 <;> dsimp only at H
 refine Tc (aE7 _ _ _ _ h29).s ?_
 revert H;refine B4 fun z1 h30 H=>?_
 refine Z3 ?_
 refine aE [1,2,3,4,5] (by decide) ?_
 exact Tm ((k1,z1)) ⟨H,ls⟩
 refine Tp (aE7 _ _ _ _ h29).pan ?_
 revert H;refine B5 fun r15 H e15=>?_
 cases e15;cases Hr4
 cases H
 exact bY
 refine Z6 ?_
 exact Tm (()) (ij H)
 clear H;intro i hi;subst o4;have H:=Hr4;clear Hr4;try dsimp only at H
 try dsimp only
 revert H;refine bs fun o5 H Hr5=>?_
 refine aR (ι:=Int × List ByteArray × List AW × List AO × Int × List Int × List Bool × List Bool × Value × Value × Value) (fun i=>o5=Sum.inl (i.1,i.2.1,i.2.2.1,i.2.2.2.1,i.2.2.2.2.1,i.2.2.2.2.2.1,i.2.2.2.2.2.2.1,i.2.2.2.2.2.2.2.1)) (fun i=>[(0,fEq (ptr p0)),(2,fI i.1),(6,fEq (ptr b1))]) (fun i=>[aA b1 65 [fI y7.Op,fI y7.N,fSl aO y7.AU,fSl tI y7.AM],aA p0 131 [fSl aD i.2.1,fSl aM i.2.2.1,fSl aB i.2.2.2.1,fI i.2.2.2.2.1,fEq i.2.2.2.2.2.2.2.2.1,fEq i.2.2.2.2.2.2.2.2.2.1,fEq i.2.2.2.2.2.2.2.2.2.2],aC i.2.2.2.2.2.2.2.2.1 3 tI i.2.2.2.2.2.1,aC i.2.2.2.2.2.2.2.2.2.1 4 bE i.2.2.2.2.2.2.1,aC i.2.2.2.2.2.2.2.2.2.2 4 bE i.2.2.2.2.2.2.2.1]) ?_ ?_
 revert H;refine I5 (fun c13 H=>?_) fun c13 H=>?_
 refine Z1 ?_
 refine aI ?_
 revert H;refine bs fun y29 h31 H=>?_
 apply bL (ods:=[_,_,_,_,_,_,_,_]) 8 0 5 bK rfl rfl rfl
 refine ND ?_
 refine M7 ?_
 intros
 refine sS (od:=odC [4] true (dX) [aC v3 4 bE (a0.Aa.set y7.N.toNat true)]) (p:=4) (z':=true) rfl (fun _=>rfl) (fun _=>rfl) a2g rfl rfl rfl rfl (has rfl) (has rfl) (aH a2g) (sz rfl) (eF h31) rfl rfl (fun _=>?_)
 refine Z2 ?_
 refine aI ?_
 revert H;refine bs fun y30 h32 H=>?_
 apply bL (ods:=[_,_,_,_,_,_,_,_,_,_,_]) 11 1 6 bK rfl rfl rfl
 refine ND ?_
 refine M8 ?_
 intros
 refine M1 ?_
 intros
 refine Mn 5 (fun b3=>ptr b3) (fun b3=>aA b3 77 [fEq (.slice none 0 0),fEq (.slice none 0 0),fEq (.slice none 0 0)]) rfl (bN rfl vI rfl) (fun b3 u5=>?_)
 refine pA (od:=od1 9 [5] true (fun b3 _=>dX) (fun b3 _=>[aA b3 77 [fSl aW y30.AN,fSl bD y30.AR,fSl aY y30.AP]])) (p:=5) (φs':=[fSl aW y30.AN,fSl bD y30.AR,fSl aY y30.AP]) rfl (fun _=>rfl) (fun _=>rfl) a2g rfl rfl rfl (has rfl) (has rfl) (aF (aS) (aF (aS) (aF (aS) bF))) (sz rfl) rfl rfl rfl (fun _=>?_)
 revert H;refine B4 fun y31 h33 H=>?_
 rcases y31 with y31 | pv17 <;> dsimp only at H
 refine Tc (aEU _ _ _ h33).s ?_
 revert H;refine B4 fun y32 h34 H=>?_
 refine Tc (aKn _ _ h34) ?_
 revert H;refine bs fun z2 h35 H=>?_
 revert H;refine B3 fun o6 H Hr6=>?_
 refine aR (ι:=List ByteArray × List AW × List AO × Int × List Int × List Bool × List Bool × Value × Value × Value) (fun i=>o6=Sum.inl (i.1,i.2.1,i.2.2.1,i.2.2.2.1,i.2.2.2.2.1,i.2.2.2.2.2.1,i.2.2.2.2.2.2.1)) (fun i=>[(0,fEq (ptr p0)),(2,fI z2),(6,fEq (ptr b1)),(11,fEq (ptr b3))]) (fun i=>[aA b1 65 [fI y7.Op,fI y7.N,fSl aO y7.AU,fSl tI y7.AM],aA p0 131 [fSl aD i.1,fSl aM i.2.1,fSl aB i.2.2.1,fI i.2.2.2.1,fEq i.2.2.2.2.2.2.2.1,fEq i.2.2.2.2.2.2.2.2.1,fEq i.2.2.2.2.2.2.2.2.2],aA b3 77 [fSl aW y30.AN,fSl bD y30.AR,fSl aY y30.AP],aC i.2.2.2.2.2.2.2.1 3 tI i.2.2.2.2.1,aC i.2.2.2.2.2.2.2.2.1 4 bE i.2.2.2.2.2.1,aC i.2.2.2.2.2.2.2.2.2 4 bE i.2.2.2.2.2.2.1]) ?_ ?_
 refine Z7 ?_
 refine aE [0,1,5,2,3,4] (by decide) ?_
 refine Tl (ι:=Nat × Int × List ByteArray × List AW × List AO × Int × List Int × List Bool × List Bool × Value × Value × Value) (fun i=>mI AA (fG AA) y30 z2 i.1 i.2.1 i.2.2.1 i.2.2.2.1 i.2.2.2.2.1 i.2.2.2.2.2.1 i.2.2.2.2.2.2.1 i.2.2.2.2.2.2.2.1 i.2.2.2.2.2.2.2.2.1=_) (fun i=>i.1) (fun i=>[(0,fEq (ptr p0)),(2,fI z2),(6,fEq (ptr b1)),(11,fEq (ptr b3)),(190,fSl aY y30.AP),(191,fI (y30.AP.length:Int)),(192,fI i.2.1)]) (fun i=>[aA b1 65 [fI y7.Op,fI y7.N,fSl aO y7.AU,fSl tI y7.AM],aA p0 131 [fSl aD i.2.2.1,fSl aM i.2.2.2.1,fSl aB i.2.2.2.2.1,fI i.2.2.2.2.2.1,fEq i.2.2.2.2.2.2.2.2.2.1,fEq i.2.2.2.2.2.2.2.2.2.2.1,fEq i.2.2.2.2.2.2.2.2.2.2.2],aA b3 77 [fSl aW y30.AN,fSl bD y30.AR,fSl aY y30.AP],aC i.2.2.2.2.2.2.2.2.2.1 3 tI i.2.2.2.2.2.2.1,aC i.2.2.2.2.2.2.2.2.2.2.1 4 bE i.2.2.2.2.2.2.2.1,aC i.2.2.2.2.2.2.2.2.2.2.2 4 bE i.2.2.2.2.2.2.2.2.1]) (AA,0,a0.p.AF,a0.p.AD,a0.p.AE,a0.p.AG,a0.Af.set a1.toNat a2,a0.AT.set a1.toNat true,a0.Aa.set y7.N.toNat true,v1,v2,v3) H ?_
 clear H;rintro⟨k2,x32,x33,x34,x35,x36,x37,x38,x39,v13,v14,v15⟩ H
 replace H:mI AA (fG AA) y30 z2 k2 x32 x33 x34 x35 x36 x37 x38 x39=_:=H
 try dsimp only
 obtain _ | k2:=k2
 rw [mI]at H;cases H
 rw [mI]at H
 refine aJ 3 rfl (fun hc_v13=>?_)
 refine aJ 4 rfl (fun hc_v14=>?_)
 refine aJ 5 rfl (fun hc_v15=>?_)
 refine Z3 ?_
 refine aI ?_
 revert H;refine is (fun c14 H=>?_) fun c14 H=>?_
 refine Z3 ?_
 refine aI ?_
 revert H;refine B2 fun y33 h36 H=>?_
 refine Z2 ?_
 refine Tn (bN rfl rU rfl) fun b4=>?_
 refine cG (φs':=[fI y33.At,fSl tI y33.AY,fI y33.AV]) a2g rfl rfl (has rfl) (has rfl) (aF (aH a2g) (aF (aS) (aF (aH a2g) bF))) (sz rfl) rfl rfl rfl ?_
 revert H;refine B1 fun y34 h37 H=>?_
 revert H;refine bs fun z3 h38 H=>?_
 apply bL (ods:=[_,_,_,_,_,_,_,_]) 8 0 7 bK rfl rfl rfl
 refine ND ?_
 refine M6 ?_
 intros
 refine Nc (aJq _ _ _ _ h37) fun _=>?_
 refine M1 ?_
 intros
 refine Z1 ?_
 refine dQ ?_
 refine dQ ?_
 refine dQ ?_
 refine dA ?_
 refine zG (x:=(⟨(⟨x33,x34,x35,x36⟩:AI),x37,x38,x39⟩:Ad)) ?_
 revert H;refine bs fun y35 h39 H=>?_
 rcases y35 with y35 | pv18 <;> dsimp only at H
 refine Tc (ih_scope_looker_node _ _ _ _ _ h39).s ?_
 refine xX (fun v16 v17 v18=>?_)
 refine aJ 1 rfl (fun hc_v16=>?_)
 refine aJ 2 rfl (fun hc_v17=>?_)
 refine aJ 3 rfl (fun hc_v18=>?_)
 revert H;refine B4 fun z4 h40 H=>?_
 refine Z3 ?_
 refine aE [5,0,6,1,2,3] (by decide) ?_
 exact Tm ((k2,z4,y35.p.AF,y35.p.AD,y35.p.AE,y35.p.AG,y35.Af,y35.AT,y35.Aa,v16,v17,v18)) ⟨H,ls⟩
 refine Tp (ih_scope_looker_node _ _ _ _ _ h39).pan ?_
 revert H;refine B5 fun r16 H e16=>?_
 cases e16;cases Hr6
 revert H;refine B1 fun r17 H e17=>?_
 cases e17;cases Hr5
 cases H
 exact bY
 exact fk
 kernel_rfl
 refine Z6 ?_
 exact Tm ((x33,x34,x35,x36,x37,x38,x39,v13,v14,v15)) (ij H)
 clear H;intro i hi;obtain⟨x17,x18,x19,x20,x21,x22,x23,v7,v8,v9⟩:=i;subst o6;have H:=Hr6;clear Hr6;try dsimp only at H
 try dsimp only
 refine aJ 3 rfl (fun hc_v7=>?_)
 refine aJ 4 rfl (fun hc_v8=>?_)
 refine aJ 5 rfl (fun hc_v9=>?_)
 refine Z7 ?_
 refine Tl (ι:=Nat × Int × List ByteArray × List AW × List AO × Int × List Int × List Bool × List Bool × Value × Value × Value) (fun i=>mJ (fG AA) y30 z2 i.1 i.2.1 i.2.2.1 i.2.2.2.1 i.2.2.2.2.1 i.2.2.2.2.2.1 i.2.2.2.2.2.2.1 i.2.2.2.2.2.2.2.1 i.2.2.2.2.2.2.2.2.1=_) (fun i=>i.1) (fun i=>[(0,fEq (ptr p0)),(2,fI z2),(6,fEq (ptr b1)),(207,fSl bD y30.AR),(208,fI (y30.AR.length:Int)),(209,fI i.2.1)]) (fun i=>[aA b1 65 [fI y7.Op,fI y7.N,fSl aO y7.AU,fSl tI y7.AM],aA p0 131 [fSl aD i.2.2.1,fSl aM i.2.2.2.1,fSl aB i.2.2.2.2.1,fI i.2.2.2.2.2.1,fEq i.2.2.2.2.2.2.2.2.2.1,fEq i.2.2.2.2.2.2.2.2.2.2.1,fEq i.2.2.2.2.2.2.2.2.2.2.2],aA b3 77 [fSl aW y30.AN,fSl bD y30.AR,fSl aY y30.AP],aC i.2.2.2.2.2.2.2.2.2.1 3 tI i.2.2.2.2.2.2.1,aC i.2.2.2.2.2.2.2.2.2.2.1 4 bE i.2.2.2.2.2.2.2.1,aC i.2.2.2.2.2.2.2.2.2.2.2 4 bE i.2.2.2.2.2.2.2.2.1]) (AA,0,x17,x18,x19,x20,x21,x22,x23,v7,v8,v9) H ?_
 clear H;rintro⟨k3,x48,x49,x50,x51,x52,x53,x54,x55,v22,v23,v24⟩ H
 replace H:mJ (fG AA) y30 z2 k3 x48 x49 x50 x51 x52 x53 x54 x55=_:=H
 try dsimp only
 obtain _ | k3:=k3
 rw [mJ]at H;cases H
 rw [mJ]at H
 refine aJ 3 rfl (fun hc_v22=>?_)
 refine aJ 4 rfl (fun hc_v23=>?_)
 refine aJ 5 rfl (fun hc_v24=>?_)
 refine Z3 ?_
 refine aI ?_
 revert H;refine is (fun c15 H=>?_) fun c15 H=>?_
 refine Z3 ?_
 refine aI ?_
 revert H;refine B2 fun y36 h41 H=>?_
 refine Z2 ?_
 refine Tn (bN rfl xB rfl) fun b5=>?_
 refine cG (φs':=[fI y36.In,fI y36.AV]) a2g rfl rfl (has rfl) (has rfl) (aF (aH a2g) (aF (aH a2g) bF)) (sz rfl) rfl rfl rfl ?_
 refine Z6 ?_
 refine dQ ?_
 refine dQ ?_
 refine dQ ?_
 refine dA ?_
 refine zG (x:=(⟨(⟨x49,x50,x51,x52⟩:AI),x53,x54,x55⟩:Ad)) ?_
 revert H;refine bs fun y37 h42 H=>?_
 rcases y37 with y37 | pv19 <;> dsimp only at H
 refine Tc (ih_scope_looker_node _ _ _ _ _ h42).s ?_
 refine xX (fun v25 v26 v27=>?_)
 refine aJ 1 rfl (fun hc_v25=>?_)
 refine aJ 2 rfl (fun hc_v26=>?_)
 refine aJ 3 rfl (fun hc_v27=>?_)
 revert H;refine B4 fun z5 h43 H=>?_
 refine Z3 ?_
 refine aE [5,0,6,1,2,3] (by decide) ?_
 exact Tm ((k3,z5,y37.p.AF,y37.p.AD,y37.p.AE,y37.p.AG,y37.Af,y37.AT,y37.Aa,v25,v26,v27)) ⟨H,ls⟩
 refine Tp (ih_scope_looker_node _ _ _ _ _ h42).pan ?_
 revert H;refine B5 fun r18 H e18=>?_
 cases e18;cases Hr5
 cases H
 exact bY
 refine Z6 ?_
 refine aE [0,1,3,4,5] (by decide) ?_
 exact Tm ((z2,x49,x50,x51,x52,x53,x54,x55,v22,v23,v24)) (ij H)
 refine Tp (aEU _ _ _ h33).pan ?_
 revert H;refine B2 fun r19 H e19=>?_
 cases e19;cases Hr5
 cases H
 exact bY
 exact fk
 kernel_rfl
 exact fk
 kernel_rfl
 refine Z3 ?_
 exact Tm ((a2,a0.p.AF,a0.p.AD,a0.p.AE,a0.p.AG,a0.Af.set a1.toNat a2,a0.AT.set a1.toNat true,a0.Aa,v1,v2,v3)) (ij H)
 clear H;intro i hi;obtain⟨x9,x10,x11,x12,x13,x14,x15,x16,v4,v5,v6⟩:=i;subst o5;have H:=Hr5;clear Hr5;try dsimp only at H
 try dsimp only
 refine aJ 2 rfl (fun hc_v4=>?_)
 refine aJ 3 rfl (fun hc_v5=>?_)
 refine aJ 4 rfl (fun hc_v6=>?_)
 refine Z7 ?_
 refine Tl (ι:=Nat × Int × List ByteArray × List AW × List AO × Int × List Int × List Bool × List Bool × Value × Value × Value) (fun i=>nA (fG AA) y7 x9 i.1 i.2.1 i.2.2.1 i.2.2.2.1 i.2.2.2.2.1 i.2.2.2.2.2.1 i.2.2.2.2.2.2.1 i.2.2.2.2.2.2.2.1 i.2.2.2.2.2.2.2.2.1=_) (fun i=>i.1) (fun i=>[(0,fEq (ptr p0)),(2,fI x9),(220,fSl tI y7.AM),(221,fI (y7.AM.length:Int)),(222,fI i.2.1)]) (fun i=>[aA b1 65 [fI y7.Op,fI y7.N,fSl aO y7.AU,fSl tI y7.AM],aA p0 131 [fSl aD i.2.2.1,fSl aM i.2.2.2.1,fSl aB i.2.2.2.2.1,fI i.2.2.2.2.2.1,fEq i.2.2.2.2.2.2.2.2.2.1,fEq i.2.2.2.2.2.2.2.2.2.2.1,fEq i.2.2.2.2.2.2.2.2.2.2.2],aC i.2.2.2.2.2.2.2.2.2.1 3 tI i.2.2.2.2.2.2.1,aC i.2.2.2.2.2.2.2.2.2.2.1 4 bE i.2.2.2.2.2.2.2.1,aC i.2.2.2.2.2.2.2.2.2.2.2 4 bE i.2.2.2.2.2.2.2.2.1]) (AA,0,x10,x11,x12,x13,x14,x15,x16,v4,v5,v6) H ?_
 clear H;rintro⟨k4,x64,x65,x66,x67,x68,x69,x70,x71,v31,v32,v33⟩ H
 replace H:nA (fG AA) y7 x9 k4 x64 x65 x66 x67 x68 x69 x70 x71=_:=H
 try dsimp only
 obtain _ | k4:=k4
 rw [nA]at H;cases H
 rw [nA]at H
 refine aJ 2 rfl (fun hc_v31=>?_)
 refine aJ 3 rfl (fun hc_v32=>?_)
 refine aJ 4 rfl (fun hc_v33=>?_)
 refine Z3 ?_
 refine aI ?_
 revert H;refine is (fun c16 H=>?_) fun c16 H=>?_
 refine Z3 ?_
 refine aI ?_
 revert H;refine B2 fun y38 h44 H=>?_
 refine Z8 ?_
 refine aZ ?_
 refine aZ ?_
 refine aZ ?_
 refine aZ ?_
 refine zG (x:=(⟨(⟨x65,x66,x67,x68⟩:AI),x69,x70,x71⟩:Ad)) ?_
 revert H;refine bs fun y39 h45 H=>?_
 rcases y39 with y39 | pv20 <;> dsimp only at H
 refine Tc (ih_scope_looker_node _ _ _ _ _ h45).s ?_
 refine xX (fun v34 v35 v36=>?_)
 refine aJ 1 rfl (fun hc_v34=>?_)
 refine aJ 2 rfl (fun hc_v35=>?_)
 refine aJ 3 rfl (fun hc_v36=>?_)
 revert H;refine B4 fun z6 h46 H=>?_
 refine Z3 ?_
 refine aE [4,0,1,2,3] (by decide) ?_
 exact Tm ((k4,z6,y39.p.AF,y39.p.AD,y39.p.AE,y39.p.AG,y39.Af,y39.AT,y39.Aa,v34,v35,v36)) ⟨H,ls⟩
 refine Tp (ih_scope_looker_node _ _ _ _ _ h45).pan ?_
 refine Z4 ?_
 cases H
 exact bY
 refine Z5 ?_
 refine aZ ?_
 refine aZ ?_
 refine aZ ?_
 refine aZ ?_
 refine zG (x:=(⟨(⟨x65,x66,x67,x68⟩:AI),x69,x70,x71⟩:Ad)) ?_
 cases H
 refine rZ ?_
 refine aE [0] (by decide) ?_
 exact eP (.inr rfl) rfl rfl
 refine Tp (aT _ _ h27).pan ?_
 refine Z1 ?_
 cases H
 exact bY
 exact fk
 kernel_rfl
open Go.SX Go.SW Go.Dt
def pP (a0:List Bool) (a1:Bool):Nat->Int->Option ((Unit) ⊕ (Int))
| 0,_=>none
| k+1,x2=>
 if x2<(a0.length:Int)then
  (idx a0 x2).bind fun y1=>
  bif a1==y1 then
   (some x2).bind fun r=>some (Sum.inr r)
  else
   (chk (x2+1)).bind fun z1=>
   pP a0 a1 k z1
 else
  some (Sum.inl ())
def aBX (AA:Nat) (a0:List Bool) (a1:Bool):Option (Int):=
 (pP a0 a1 AA 0).bind fun o=>match o with
 | Sum.inr r=>some r
 | Sum.inl _=>
 some (-1)
theorem aLg (AA:Nat)  (a0:List Bool) (a1:Bool) (r:Int) (H:aBX AA a0 a1=some r):FnS Tryz.prog 179 [fSl bE a0,aK a1] [] (fI r) (fun _=>[]):=by
 unfold aBX at H
 refine bG Tryz.func179 rfl Tryz.ntmps179 rfl (fun β=>?_)
 revert H;refine B3 fun o1 H Hr1=>?_
 refine aR (ι:=Unit) (fun i=>o1=Sum.inl ()) (fun i=>[]) (fun i=>[]) ?_ ?_
 refine Z6 ?_
 refine Tl (ι:=Nat × Int) (fun i=>pP a0 a1 i.1 i.2=_) (fun i=>i.1) (fun i=>[(0,fSl bE a0),(1,aK a1),(7,fI (a0.length:Int)),(8,fI i.2)]) (fun i=>[]) (AA,0) H ?_
 clear H;rintro⟨k1,x2⟩ H
 replace H:pP a0 a1 k1 x2=_:=H
 try dsimp only
 obtain _ | k1:=k1
 rw [pP]at H;cases H
 rw [pP]at H
 refine Z3 ?_
 refine aI ?_
 revert H;refine is (fun c1 H=>?_) fun c1 H=>?_
 refine Z3 ?_
 refine aI ?_
 revert H;refine B9 fun y1 h1 H=>?_
 refine Z2 ?_
 refine Yy (o_eqlB rfl hh hh aJ8) ?_
 refine Z1 ?_
 revert H;refine cs (fun c2 H=>?_) fun c2 H=>?_
 revert H;refine B11 fun r1 H e1=>?_
 cases e1;cases Hr1
 cases H
 exact To
 revert H;refine B5 fun z1 h2 H=>?_
 refine Z3 ?_
 exact Tm ((k1,z1)) ⟨H,ls⟩
 refine Z6 ?_
 exact Tm (()) (ij H)
 clear H;intro i hi;subst o1;have H:=Hr1;clear Hr1;try dsimp only at H
 try dsimp only
 refine Z4 ?_
 cases H
 exact To
def vX (AA:Nat) (a0:List Bool) (a1:Bool):Option (Bool):=
 (aBX AA a0 a1).bind fun y1=>
 some (decide (0<=y1))
theorem aFW (AA:Nat)  (a0:List Bool) (a1:Bool) (r:Bool) (H:vX AA a0 a1=some r):FnS Tryz.prog 165 [fSl bE a0,aK a1] [] (aK r) (fun _=>[]):=by
 unfold vX at H
 refine bG Tryz.func165 rfl Tryz.ntmps165 rfl (fun β=>?_)
 revert H;refine B6 fun y1 h1 H=>?_
 refine Tc (aLg _ _ _ _ h1) ?_
 refine Z4 ?_
 cases H
 exact To
def mM (AA:Nat) (a0:AI):Nat->Int->Option ((Unit) ⊕ (Ad ⊕ Value))
| 0,_=>none
| k+1,x2=>
 if x2<(a0.AF.length:Int)then
  ((idx a0.AF x2).bind fun y4=>
  (sW AA y4).bind fun y5=>
  bif y5 then
   if x2=0 then
    (bR true).bind fun y6=>
    match y6 with
    | Sum.inr pv4=>((some (Sum.inr pv4)).bind fun r=>some (Sum.inr r)).bind fun r=>some (Sum.inr r)
    | Sum.inl y6=>
    some (Sum.inl ())
   else
    (chk (x2 - 1)).bind fun z1=>
    (idx a0.AF z1).bind fun y7=>
    (bR (slt y7 y4)).bind fun y8=>
    match y8 with
    | Sum.inr pv5=>((some (Sum.inr pv5)).bind fun r=>some (Sum.inr r)).bind fun r=>some (Sum.inr r)
    | Sum.inl y8=>
    some (Sum.inl ())
  else
   (bR false).bind fun y9=>
   match y9 with
   | Sum.inr pv6=>((some (Sum.inr pv6)).bind fun r=>some (Sum.inr r)).bind fun r=>some (Sum.inr r)
   | Sum.inl y9=>
   some (Sum.inl ())).bind fun o=>match o with
  | Sum.inr r=>some r
  | Sum.inl _=>
  (chk (x2+1)).bind fun z2=>
  mM AA a0 k z2
 else
  some (Sum.inl ())
def tT (AA:Nat) (a0:AI):Option (Ad ⊕ Value):=
 (if (a0.AF.length:Int)<=12 then
  if (a0.AD.length:Int)<=60 then
   (bR (decide ((a0.AE.length:Int)<=12))).bind fun y1=>
   match y1 with
   | Sum.inr pv1=>(some (Sum.inr pv1)).bind fun r=>some (Sum.inr r)
   | Sum.inl y1=>
   some (Sum.inl ())
  else
   (bR false).bind fun y2=>
   match y2 with
   | Sum.inr pv2=>(some (Sum.inr pv2)).bind fun r=>some (Sum.inr r)
   | Sum.inl y2=>
   some (Sum.inl ())
 else
  (bR false).bind fun y3=>
  match y3 with
  | Sum.inr pv3=>(some (Sum.inr pv3)).bind fun r=>some (Sum.inr r)
  | Sum.inl y3=>
  some (Sum.inl ())).bind fun o=>match o with
 | Sum.inr r=>some r
 | Sum.inl _=>
 (mM AA a0 AA 0).bind fun o=>match o with
 | Sum.inr r=>some r
 | Sum.inl _=>
 (mk 0 (a0.AD.length:Int)).bind fun y10=>
 (mk false (a0.AD.length:Int)).bind fun y11=>
 (mk false (a0.AE.length:Int)).bind fun y12=>
 (fG AA (⟨(⟨a0.AF,a0.AD,a0.AE,a0.AG⟩:AI),y10,y11,y12⟩:Ad) a0.AG (a0.AF.length:Int)).bind fun y13=>
 match y13 with
 | Sum.inr pv7=>some (Sum.inr pv7)
 | Sum.inl y13=>
 ((vX AA y13.AT false).bind fun y14=>
 bif !y14 then
  (vX AA y13.Aa false).bind fun y15=>
  (bR (!y15)).bind fun y16=>
  match y16 with
  | Sum.inr pv8=>(some (Sum.inr pv8)).bind fun r=>some (Sum.inr r)
  | Sum.inl y16=>
  some (Sum.inl y13.Aa)
 else
  (bR false).bind fun y17=>
  match y17 with
  | Sum.inr pv9=>(some (Sum.inr pv9)).bind fun r=>some (Sum.inr r)
  | Sum.inl y17=>
  some (Sum.inl y13.Aa)).bind fun o=>match o with
 | Sum.inr r=>some r
 | Sum.inl x3=>
 some (Sum.inl (⟨(⟨y13.p.AF,y13.p.AD,y13.p.AE,y13.p.AG⟩:AI),y13.Af,y13.AT,x3⟩:Ad))
theorem wJ (AA:Nat)  (a0:AI) (r:Ad ⊕ Value) (H:tT AA a0=some r):FnE Tryz.prog 137 [fSt cN a0] [] r (fun r=>aG bZ r) (fun r=>[]):=by
 unfold tT at H
 refine sX Tryz.func137 rfl Tryz.ntmps137 rfl (fun β=>?_)
 refine Z1 ?_
 refine Tn (bU rfl hh bS) fun b1=>?_
 revert H;refine B2 fun o1 H Hr1=>?_
 refine aR (ι:=Unit) (fun i=>o1=Sum.inl ()) (fun i=>[(1,fEq (ptr b1))]) (fun i=>[aA b1 26 [fSl aD a0.AF,fSl aM a0.AD,fSl aB a0.AE,fI a0.AG]]) ?_ ?_
 revert H;refine I6 (fun c1 H=>?_) fun c1 H=>?_
 revert H;refine I6 (fun c2 H=>?_) fun c2 H=>?_
 revert H;refine B5 fun y1 h1 H=>?_
 rcases y1 with y1 | pv1 <;> dsimp only at H
 refine Tc (aT _ _ h1).s ?_
 refine Z1 ?_
 exact Tm (()) (ij H)
 refine Tp (aT _ _ h1).pan ?_
 revert H;refine B1 fun r1 H e1=>?_
 cases e1;cases Hr1
 cases H
 exact bY
 revert H;refine B5 fun y2 h2 H=>?_
 rcases y2 with y2 | pv2 <;> dsimp only at H
 refine Tc (aT _ _ h2).s ?_
 refine Z1 ?_
 exact Tm (()) (ij H)
 refine Tp (aT _ _ h2).pan ?_
 revert H;refine B1 fun r2 H e2=>?_
 cases e2;cases Hr1
 cases H
 exact bY
 revert H;refine B11 fun y3 h3 H=>?_
 rcases y3 with y3 | pv3 <;> dsimp only at H
 refine Tc (aT _ _ h3).s ?_
 refine Z1 ?_
 exact Tm (()) (ij H)
 refine Tp (aT _ _ h3).pan ?_
 revert H;refine B1 fun r3 H e3=>?_
 cases e3;cases Hr1
 cases H
 exact bY
 clear H;intro i hi;subst o1;have H:=Hr1;clear Hr1;try dsimp only at H
 try dsimp only
 revert H;refine bs fun o2 H Hr2=>?_
 refine aR (ι:=Unit) (fun i=>o2=Sum.inl ()) (fun i=>[(1,fEq (ptr b1))]) (fun i=>[aA b1 26 [fSl aD a0.AF,fSl aM a0.AD,fSl aB a0.AE,fI a0.AG]]) ?_ ?_
 refine Z7 ?_
 refine Tl (ι:=Nat × Int) (fun i=>mM AA a0 i.1 i.2=_) (fun i=>i.1) (fun i=>[(1,fEq (ptr b1)),(24,fSl aD a0.AF),(25,fI (a0.AF.length:Int)),(26,fI i.2)]) (fun i=>[aA b1 26 [fSl aD a0.AF,fSl aM a0.AD,fSl aB a0.AE,fI a0.AG]]) (AA,0) H ?_
 clear H;rintro⟨k1,x2⟩ H
 replace H:mM AA a0 k1 x2=_:=H
 try dsimp only
 obtain _ | k1:=k1
 rw [mM]at H;cases H
 rw [mM]at H
 refine Z3 ?_
 refine aI ?_
 revert H;refine is (fun c3 H=>?_) fun c3 H=>?_
 revert H;refine B3 fun o3 H Hr3=>?_
 refine aR (ι:=Unit) (fun i=>o3=Sum.inl ()) (fun i=>[(1,fEq (ptr b1)),(24,fSl aD a0.AF),(25,fI (a0.AF.length:Int)),(26,fI x2)]) (fun i=>[aA b1 26 [fSl aD a0.AF,fSl aM a0.AD,fSl aB a0.AE,fI a0.AG]]) ?_ ?_
 revert H;refine B3 fun y4 h4 H=>?_
 revert H;refine B7 fun y5 h5 H=>?_
 refine Tc (aLv _ _ _ h5) ?_
 refine Z1 ?_
 revert H;refine cs (fun c4 H=>?_) fun c4 H=>?_
 revert H;refine I3 (fun c5 H=>?_) fun c5 H=>?_
 revert H;refine B10 fun y6 h6 H=>?_
 rcases y6 with y6 | pv4 <;> dsimp only at H
 refine Tc (aT _ _ h6).s ?_
 refine Z3 ?_
 exact Tm (()) (ij H)
 refine Tp (aT _ _ h6).pan ?_
 revert H;refine B2 fun r4 H e4=>?_
 cases e4;cases Hr3
 revert H;refine B3 fun r5 H e5=>?_
 cases e5;cases Hr2
 cases H
 exact bY
 revert H;refine B3 fun z1 h7 H=>?_
 revert H;refine B1 fun y7 h8 H=>?_
 refine Z3 ?_
 refine Yg c5 (o_lssS rfl hh hh) ?_
 revert H;refine B2 fun y8 h9 H=>?_
 rcases y8 with y8 | pv5 <;> dsimp only at H
 refine Tc (aT _ _ h9).s ?_
 refine Z3 ?_
 exact Tm (()) (ij H)
 refine Tp (aT _ _ h9).pan ?_
 revert H;refine B2 fun r6 H e6=>?_
 cases e6;cases Hr3
 revert H;refine B3 fun r7 H e7=>?_
 cases e7;cases Hr2
 cases H
 exact bY
 refine Z3 ?_
 refine cR (⟨_,_,_,_,rfl,rfl,rfl,nu⟩) rfl rfl ?_
 refine cR (⟨_,_,_,_,rfl,rfl,rfl,nu⟩) rfl rfl ?_
 refine cR (⟨_,_,_,_,rfl,rfl,rfl,nu⟩) rfl rfl ?_
 refine cR (⟨_,_,_,_,rfl,rfl,rfl,nu⟩) rfl rfl ?_
 refine cR (⟨_,_,_,_,rfl,rfl,rfl,nu⟩) rfl rfl ?_
 refine cR (⟨_,_,_,_,rfl,rfl,rfl,nu⟩) rfl rfl ?_
 refine cR (⟨_,_,_,_,rfl,rfl,rfl,nu⟩) rfl rfl ?_
 refine cR (⟨_,_,_,_,rfl,rfl,rfl,nu⟩) rfl rfl ?_
 revert H;refine B2 fun y9 h10 H=>?_
 rcases y9 with y9 | pv6 <;> dsimp only at H
 refine Tc (aT _ _ h10).s ?_
 refine Z3 ?_
 exact Tm (()) (ij H)
 refine Tp (aT _ _ h10).pan ?_
 revert H;refine B2 fun r8 H e8=>?_
 cases e8;cases Hr3
 revert H;refine B3 fun r9 H e9=>?_
 cases e9;cases Hr2
 cases H
 exact bY
 clear H;intro i hi;subst o3;have H:=Hr3;clear Hr3;try dsimp only at H
 try dsimp only
 revert H;refine B1 fun z2 h11 H=>?_
 refine Z3 ?_
 exact Tm ((k1,z2)) ⟨H,ls⟩
 refine Z6 ?_
 exact Tm (()) (ij H)
 clear H;intro i hi;subst o2;have H:=Hr2;clear Hr2;try dsimp only at H
 try dsimp only
 refine aI ?_
 revert H;refine bs fun y10 h12 H=>?_
 revert H;refine bs fun y11 h13 H=>?_
 revert H;refine bs fun y12 h14 H=>?_
 apply bL (ods:=[_,_,_,_,_,_,_,_,_,_,_,_,_,_,_,_]) 16 4 5 bK rfl rfl rfl
 refine ND ?_
 refine M4 ?_
 intros
 refine Mn 1 (fun b2=> .slice (some ⟨b2,0,none⟩) y10.length y10.length) (fun b2=>aC (.slice (some ⟨b2,0,none⟩) y10.length y10.length) 3 tI y10) rfl (rC (t:=tI) (z:=0) rfl (has rfl) (et rfl) rfl tQ rfl h12) (fun b2 u1=>?_)
 refine M3 ?_
 intros
 refine Mn 2 (fun b3=> .slice (some ⟨b3,0,none⟩) y11.length y11.length) (fun b3=>aC (.slice (some ⟨b3,0,none⟩) y11.length y11.length) 4 bE y11) rfl (rC (t:=bE) (z:=false) rfl (has rfl) (et rfl) rfl aBE rfl h13) (fun b3 u2=>?_)
 refine M3 ?_
 intros
 refine Mn 3 (fun b4=> .slice (some ⟨b4,0,none⟩) y12.length y12.length) (fun b4=>aC (.slice (some ⟨b4,0,none⟩) y12.length y12.length) 4 bE y12) rfl (rC (t:=bE) (z:=false) rfl (has rfl) (et rfl) rfl aBE rfl h14) (fun b4 u3=>?_)
 refine N_y (od:=od3 4 8 12 [] false (fun b2 _ b3 _ b4 _=>eI [fSl aD a0.AF,fSl aM a0.AD,fSl aB a0.AE,fI a0.AG,fEq (.slice (some ⟨b2,0,none⟩) y10.length y10.length),fEq (.slice (some ⟨b3,0,none⟩) y11.length y11.length),fEq (.slice (some ⟨b4,0,none⟩) y12.length y12.length)]) (fun b2 _ b3 _ b4 _=>[])) (φ:=eI [fSl aD a0.AF,fSl aM a0.AD,fSl aB a0.AE,fI a0.AG,fEq (.slice (some ⟨b2,0,none⟩) y10.length y10.length),fEq (.slice (some ⟨b3,0,none⟩) y11.length y11.length),fEq (.slice (some ⟨b4,0,none⟩) y12.length y12.length)]) rfl (fun _=>rfl) a2g rfl (gP (ψs:=[fSl aD a0.AF,fSl aM a0.AD,fSl aB a0.AE,fI a0.AG,fEq (.slice (some ⟨b2,0,none⟩) y10.length y10.length),fEq (.slice (some ⟨b3,0,none⟩) y11.length y11.length),fEq (.slice (some ⟨b4,0,none⟩) y12.length y12.length)]) rfl aIu rfl (bQ.cons (has rfl) bS (bQ.cons (has rfl) (cJ (aH a2g)) (bQ.cons (has rfl) (cJ (aH a2g)) (bQ.cons (has rfl) (cJ (aH a2g)) bQ.nil)))) rfl) (fun _=>?_)
 refine N_new (od:=odN3 4 8 12 [4] true (fun b2 _ b3 _ b4 _ b5 _=>fEq (ptr b5)) (fun b2 _ b3 _ b4 _ b5 _=>[aA b5 131 [fSl aD a0.AF,fSl aM a0.AD,fSl aB a0.AE,fI a0.AG,fEq (.slice (some ⟨b2,0,none⟩) y10.length y10.length),fEq (.slice (some ⟨b3,0,none⟩) y11.length y11.length),fEq (.slice (some ⟨b4,0,none⟩) y12.length y12.length)]])) (p:=4) (f:=fun b5=>ptr b5) (τ:=fun b5=>aA b5 131 [fSl aD a0.AF,fSl aM a0.AD,fSl aB a0.AE,fI a0.AG,fEq (.slice (some ⟨b2,0,none⟩) y10.length y10.length),fEq (.slice (some ⟨b3,0,none⟩) y11.length y11.length),fEq (.slice (some ⟨b4,0,none⟩) y12.length y12.length)]) rfl (fun _=>rfl) (fun _=>rfl) a2g rfl rfl (bU rfl (has rfl) bS) (fun b5 u4=>?_)
 refine D1 14 b5 _ (fun b5 _=>fEq (ptr b5)) rfl (aBS rfl hh) (fun _=>?_)
 refine Z1 ?_
 generalize (Value.slice (some ⟨b2,0,none⟩) _ _)=v1
 refine aJ 1 rfl (fun hc_v1=>?_)
 generalize (Value.slice (some ⟨b3,0,none⟩) _ _)=v2
 refine aJ 2 rfl (fun hc_v2=>?_)
 generalize (Value.slice (some ⟨b4,0,none⟩) _ _)=v3
 refine aJ 3 rfl (fun hc_v3=>?_)
 refine Z8 ?_
 refine cY ?_
 refine cY ?_
 refine cY ?_
 refine aZ ?_
 refine zG (x:=(⟨(⟨a0.AF,a0.AD,a0.AE,a0.AG⟩:AI),y10,y11,y12⟩:Ad)) ?_
 revert H;refine bs fun y13 h15 H=>?_
 rcases y13 with y13 | pv7 <;> dsimp only at H
 refine Tc (aEV _ _ _ _ _ _ h15).s ?_
 refine xX (fun v4 v5 v6=>?_)
 refine aJ 1 rfl (fun hc_v4=>?_)
 refine aJ 2 rfl (fun hc_v5=>?_)
 refine aJ 3 rfl (fun hc_v6=>?_)
 revert H;refine B1 fun o4 H Hr4=>?_
 refine aR (ι:=List Bool) (fun i=>o4=Sum.inl i) (fun i=>[(5,fEq (ptr b5))]) (fun i=>[aA b5 131 [fSl aD y13.p.AF,fSl aM y13.p.AD,fSl aB y13.p.AE,fI y13.p.AG,fEq v4,fSl bE y13.AT,fSl bE i],aA b1 26 [fSl aD a0.AF,fSl aM a0.AD,fSl aB a0.AE,fI a0.AG],aC v4 3 tI y13.Af]) ?_ ?_
 refine Z5 ?_
 refine dK ?_
 refine cE (φ:=fSl bE y13.AT) (v:=v5) [74] dI fz ?_
 refine eY (φs':=[fSl aD y13.p.AF,fSl aM y13.p.AD,fSl aB y13.p.AE,fI y13.p.AG,fEq v4,fSl bE y13.AT,fEq v6]) (i:=5) rfl rfl ?_
 refine cD ?_
 revert H;refine bs fun y14 h16 H=>?_
 refine Tc (aFW _ _ _ _ h16) ?_
 refine Z2 ?_
 revert H;refine cs (fun c6 H=>?_) fun c6 H=>?_
 refine Z4 ?_
 refine dK ?_
 refine cE (φ:=fSl bE y13.Aa) (v:=v6) [81] dI fz ?_
 refine eY (φs':=[fSl aD y13.p.AF,fSl aM y13.p.AD,fSl aB y13.p.AE,fI y13.p.AG,fEq v4,fSl bE y13.AT,fSl bE y13.Aa]) (i:=6) rfl rfl ?_
 refine cD ?_
 revert H;refine bs fun y15 h17 H=>?_
 refine Tc (aFW _ _ _ _ h17) ?_
 revert H;refine B2 fun y16 h18 H=>?_
 rcases y16 with y16 | pv8 <;> dsimp only at H
 refine Tc (aT _ _ h18).s ?_
 refine Z1 ?_
 refine aE [0,2,1] (by decide) ?_
 exact Tm (y13.Aa) (ij H)
 refine Tp (aT _ _ h18).pan ?_
 revert H;refine B1 fun r10 H e10=>?_
 cases e10;cases Hr4
 cases H
 exact bY
 revert H;refine B7 fun y17 h19 H=>?_
 rcases y17 with y17 | pv9 <;> dsimp only at H
 refine Tc (aT _ _ h19).s ?_
 refine Z1 ?_
 refine dK ?_
 refine cE (φ:=fSl bE y13.Aa) (v:=v6) [] dI (fun _ h=>nomatch h) ?_
 refine eY (φs':=[fSl aD y13.p.AF,fSl aM y13.p.AD,fSl aB y13.p.AE,fI y13.p.AG,fEq v4,fSl bE y13.AT,fSl bE y13.Aa]) (i:=6) rfl rfl ?_
 refine cD ?_
 refine aE [0,2,1] (by decide) ?_
 exact Tm (y13.Aa) (ij H)
 refine Tp (aT _ _ h19).pan ?_
 revert H;refine B1 fun r11 H e11=>?_
 cases e11;cases Hr4
 cases H
 exact bY
 clear H;intro x3 hi;subst o4;have H:=Hr4;clear Hr4;try dsimp only at H
 try dsimp only
 refine Z5 ?_
 refine dK ?_
 refine cE (φ:=fSl tI y13.Af) (v:=v4) [] dI (fun _ h=>nomatch h) ?_
 refine eY (φs':=[fSl aD y13.p.AF,fSl aM y13.p.AD,fSl aB y13.p.AE,fI y13.p.AG,fSl tI y13.Af,fSl bE y13.AT,fSl bE x3]) (i:=4) rfl rfl ?_
 refine cD ?_
 refine cE (φ:=aG bZ (⟨(⟨y13.p.AF,y13.p.AD,y13.p.AE,y13.p.AG⟩:AI),y13.Af,y13.AT,x3⟩:Ad)) (v:=ptr b5) [5,86,2] (fQ aP.rfl) fz ?_
 refine cD ?_
 cases H
 refine rZ ?_
 refine aE [] (by decide) ?_
 exact To
 refine Tp (aEV _ _ _ _ _ _ h15).pan ?_
 refine Z1 ?_
 cases H
 exact bY
 exact fk
 kernel_rfl
def aBp (AA:Nat) (a0:AI) (a1:Ad->Option (List Int)):Option ((List Int) × Int):=
 (tT AA (⟨a0.AF,a0.AD,a0.AE,a0.AG⟩:AI)).bind fun y1=>
 match y1 with
 | Sum.inr pv1=>(unI 245 pv1).bind fun e1=>some ([],e1)
 | Sum.inl y1=>
 (a1 y1).bind fun y2=>
 some (y2,0)
theorem aLm (AA:Nat)  (a0:AI) (a1:Ad->Option (List Int)) (r:(List Int) × Int) (H:aBp AA a0 a1=some r):FnS Tryz.prog 90 [fSt cN a0,fFn Tryz.prog (fun (x:Ad)=>[aG bZ x]) (fun (r:List Int)=>fSl tI r) a1] [] (dF [fSl tI r.1,fI r.2]) (fun _=>[]):=by
 unfold aBp at H
 refine aBW Tryz.func90 rfl Tryz.ntmps90 rfl (fun β=>?_)
 refine Z1 ?_
 refine Tn (bU rfl hh bS) fun b1=>?_
 refine Z1 ?_
 refine Tn (bN rfl aCs rfl) fun b2=>?_
 refine Z2 ?_
 refine aDq a2g rfl rfl (gX.cons (has rfl) gX.nil) ?_
 revert H;refine B4 fun y1 h1 H=>?_
 rcases y1 with y1 | pv1 <;> dsimp only at H
 refine Tc (wJ _ _ _ h1).s ?_
 revert H;refine bs fun y2 h2 H=>?_
 refine yU y1 a2g rfl rfl rfl (has rfl) (aN.cons (has rfl) aN.nil) h2 ?_
 refine Z1 ?_
 refine cC (φs':=[fI 0]) a2g rfl rfl (has rfl) (has rfl) (aH a2g) (sz rfl) rfl rfl ?_
 refine Z2 ?_
 cases H
 refine aE [0] (by decide) ?_
 exact aCg (vT (u:= .returning) (by simp) rfl (bP rfl) rfl (sc rfl) (cb rfl) (aCF b2 0) rfl rfl)
 refine Tp (wJ _ _ _ h1).pan ?_
 refine Z1 ?_
 have H0:=H;clear H;obtain⟨e1,h3,H⟩:=bind_some H0;clear H0;have hv_e1:=aDb h3;subst hv_e1
 cases H
 refine aE [0] (by decide) ?_
 exact aD8 (vT (u:= .panicking [{ v:= .iface 245 (.agg #[.int .i64 e1]),recovered:=false }]) (by simp) rfl (fM rfl cW) rfl (sc rfl) (cb rfl) (aD9 b2 0 e1) rfl rfl)
def mA (a0:Ad) (w0:AI) (w1:Ad × Int->Option Int):Nat->(List Int)->Int->Option (List Int)
| 0,_,_=>none
| k+1,x4,x5=>
 if x5<(w0.AD.length:Int)then
  (w1 (a0,x5)).bind fun y1=>
  (dG (x4++[y1])).bind fun z1=>
  (chk (x5+1)).bind fun z2=>
  mA a0 w0 w1 k z1 z2
 else
  some x4
def zK (AA:Nat) (a0:Ad) (w0:AI) (w1:Ad × Int->Option Int):Option (List Int):=
 (mA a0 w0 w1 AA [] 0).bind fun x1=>
 some x1
theorem aJM (AA:Nat)  (a0:Ad) (w0:AI) (w1:Ad × Int->Option Int) (r:List Int) (H:zK AA a0 w0 w1=some r):FnS Tryz.prog 91 [aG bZ a0,aG cN w0,aG (tFn Tryz.prog (fun (x:Ad × Int)=>[aG bZ x.1,fI x.2]) (fun (r:Int)=>fI r)) w1] [] (fSl tI r) (fun _=>[]):=by
 unfold zK at H
 refine bG Tryz.func91 rfl Tryz.ntmps91 rfl (fun β=>?_)
 revert H;refine B6 fun o1 H Hr1=>?_
 refine aR (ι:=List Int × Value) (fun i=>o1=i.1) (fun i=>[(5,fEq i.2)]) (fun i=>[aC i.2 3 tI i.1]) ?_ ?_
 refine Z7 ?_
 refine iW tI 3 ?_
 refine Tl (ι:=Nat × List Int × Int × Value) (fun i=>mA a0 w0 w1 i.1 i.2.1 i.2.2.1=_) (fun i=>i.1) (fun i=>[(0,aG bZ a0),(2,aG (tFn Tryz.prog (fun (x:Ad × Int)=>[aG bZ x.1,fI x.2]) (fun (r:Int)=>fI r)) w1),(5,fEq i.2.2.2),(9,fI (w0.AD.length:Int)),(10,fI i.2.2.1)]) (fun i=>[aC i.2.2.2 3 tI i.2.1]) (AA,[],0,(.slice none 0 0)) H ?_
 clear H;rintro⟨k1,x4,x5,v3⟩ H
 replace H:mA a0 w0 w1 k1 x4 x5=_:=H
 try dsimp only
 obtain _ | k1:=k1
 rw [mA]at H;cases H
 rw [mA]at H
 refine aJ 0 rfl (fun hc_v3=>?_)
 refine Z3 ?_
 refine aI ?_
 revert H;refine is (fun c1 H=>?_) fun c1 H=>?_
 refine Z3 ?_
 refine aI ?_
 revert H;refine B10 fun y1 h1 H=>?_
 refine yU (a0,x5) a2g rfl rfl rfl (has rfl) (aN.cons (has rfl) (aN.cons (has rfl) aN.nil)) h1 ?_
 refine Tn (gR (t:=tI) (xs:=[y1]) rfl (et rfl) (cM.cons rfl (has rfl) (cJ (aH a2g)) cM.nil) rfl rfl rfl) fun b1=>?_
 generalize (Value.slice (some ⟨b1,0,none⟩) _ _)=v4
 refine aJ 0 rfl (fun hc_v4=>?_)
 revert H;refine bs fun z1 h2 H=>?_
 refine lL a2g rfl rfl rfl (has rfl) (has rfl) (et rfl) rfl h2 (fun v5=>?_)
 refine aJ 0 rfl (fun hc_v5=>?_)
 revert H;refine B5 fun z2 h3 H=>?_
 refine Z3 ?_
 exact Tm ((k1,z1,z2,v5)) ⟨H,ls⟩
 refine Z6 ?_
 exact Tm ((x4,v3)) (ij H)
 clear H;intro i hi;obtain⟨x1,v1⟩:=i;subst o1;have H:=Hr1;clear Hr1;try dsimp only at H
 try dsimp only
 refine aJ 0 rfl (fun hc_v1=>?_)
 refine Z5 ?_
 refine cE (φ:=fSl tI x1) (v:=v1) [5,21,4] dI fz ?_
 refine cD ?_
 cases H
 exact To
def aBT (AA:Nat) (a0:AI) (a1:Ad × Int->Option Int):Option ((List Int) × Int):=
 (aBp AA (⟨a0.AF,a0.AD,a0.AE,a0.AG⟩:AI) (fun x=>zK AA x (⟨a0.AF,a0.AD,a0.AE,a0.AG⟩:AI) a1)).bind fun y1=>
 some (y1.1,y1.2)
theorem aIj (AA:Nat)  (a0:AI) (a1:Ad × Int->Option Int) (r:(List Int) × Int) (H:aBT AA a0 a1=some r):FnS Tryz.prog 56 [fSt cN a0,fFn Tryz.prog (fun (x:Ad × Int)=>[aG bZ x.1,fI x.2]) (fun (r:Int)=>fI r) a1] [] (dF [fSl tI r.1,fI r.2]) (fun _=>[]):=by
 unfold aBT at H
 refine bG Tryz.func56 rfl Tryz.ntmps56 rfl (fun β=>?_)
 refine Z1 ?_
 refine Tn (bU rfl hh bS) fun b1=>?_
 refine Tn (bU rfl (has rfl) (cJ (aDL))) fun b2=>?_
 refine Z5 ?_
 refine cK ?_
 refine cE (φ:=aG cN (⟨a0.AF,a0.AD,a0.AE,a0.AG⟩:AI)) (v:=ptr b1) [2] (fQ aP.rfl) fz ?_
 refine cD ?_
 refine cE (φ:=aG (tFn Tryz.prog (fun (x:Ad × Int)=>[aG bZ x.1,fI x.2]) (fun (r:Int)=>fI r)) a1) (v:=ptr b2) [3] (fQ aP.rfl) fz ?_
 refine cD ?_
 refine Yy (oB rfl (aN.cons hh (aN.cons hh aN.nil))) ?_
 revert H;refine bs fun y1 h1 H=>?_
 refine pI a2g rfl rfl rfl hh (aN.cons hh (aN.cons (gC rfl (ent_fn (cb rfl) (fun x r hx=>aJM AA x (⟨a0.AF,a0.AD,a0.AE,a0.AG⟩:AI) a1 r hx))) aN.nil)) rfl (cb rfl) (aLm AA (⟨a0.AF,a0.AD,a0.AE,a0.AG⟩:AI) (fun x=>zK AA x (⟨a0.AF,a0.AD,a0.AE,a0.AG⟩:AI) a1) y1 h1) rfl ?_
 refine Z6 ?_
 cases H
 exact pU rfl (bP rfl) (bP rfl) rfl
def sP (a0:Ad) (a1:Int):Option (Int):=
 (idx a0.Af a1).bind fun y1=>
 some y1
theorem aKK  (a0:Ad) (a1:Int) (r:Int) (H:sP a0 a1=some r):FnS Tryz.prog 57 [aG bZ a0,fI a1] [] (fI r) (fun _=>[]):=by
 unfold sP at H
 refine bG Tryz.func57 rfl Tryz.ntmps57 rfl (fun β=>?_)
 revert H;refine B9 fun y1 h1 H=>?_
 refine Z5 ?_
 cases H
 exact To
def wH (AA:Nat) (a0:AI):Option ((List Int) × Int):=
 (aBT AA (⟨a0.AF,a0.AD,a0.AE,a0.AG⟩:AI) (fun x=>sP x.1 x.2)).bind fun y1=>
 some (y1.1,y1.2)
theorem aF1 (AA:Nat)  (a0:AI) (r:(List Int) × Int) (H:wH AA a0=some r):FnS Tryz.prog 22 [fSt cN a0] [] (dF [fSl tI r.1,fI r.2]) (fun _=>[]):=by
 unfold wH at H
 refine bG Tryz.func22 rfl Tryz.ntmps22 rfl (fun β=>?_)
 refine Z1 ?_
 refine Tn (bU rfl hh bS) fun b1=>?_
 revert H;refine B5 fun y1 h1 H=>?_
 refine pI a2g rfl rfl rfl hh (aN.cons hh (aN.cons (gC rfl (aCD (cb rfl) (fun (x:Ad × Int) r hx=>aKK x.1 x.2 r hx))) aN.nil)) rfl (cb rfl) (aIj AA (⟨a0.AF,a0.AD,a0.AE,a0.AG⟩:AI) (fun x=>sP x.1 x.2) y1 h1) rfl ?_
 refine Z6 ?_
 cases H
 refine aE [] (by decide) ?_
 exact pU rfl (bP rfl) (bP rfl) rfl
def aAr (AA:Nat) (a0:AI) (a1:Ad->Option (List (List Int))):Option ((List (List Int)) × Int):=
 (tT AA (⟨a0.AF,a0.AD,a0.AE,a0.AG⟩:AI)).bind fun y1=>
 match y1 with
 | Sum.inr pv1=>(unI 245 pv1).bind fun e1=>some ([],e1)
 | Sum.inl y1=>
 (a1 y1).bind fun y2=>
 some (y2,0)
theorem aIR (AA:Nat)  (a0:AI) (a1:Ad->Option (List (List Int))) (r:(List (List Int)) × Int) (H:aAr AA a0 a1=some r):FnS Tryz.prog 120 [fSt cN a0,fFn Tryz.prog (fun (x:Ad)=>[aG bZ x]) (fun (r:List (List Int))=>fSl (tSl tI) r) a1] [] (dF [fSl (tSl tI) r.1,fI r.2]) (fun _=>[]):=by
 unfold aAr at H
 refine aBW Tryz.func120 rfl Tryz.ntmps120 rfl (fun β=>?_)
 refine Z1 ?_
 refine Tn (bU rfl hh bS) fun b1=>?_
 refine Z1 ?_
 refine Tn (bN rfl aCs rfl) fun b2=>?_
 refine Z2 ?_
 refine aDq a2g rfl rfl (gX.cons (has rfl) gX.nil) ?_
 revert H;refine B4 fun y1 h1 H=>?_
 rcases y1 with y1 | pv1 <;> dsimp only at H
 refine Tc (wJ _ _ _ h1).s ?_
 revert H;refine bs fun y2 h2 H=>?_
 refine yU y1 a2g rfl rfl rfl (has rfl) (aN.cons (has rfl) aN.nil) h2 ?_
 refine Z1 ?_
 refine cC (φs':=[fI 0]) a2g rfl rfl (has rfl) (has rfl) (aH a2g) (sz rfl) rfl rfl ?_
 refine Z2 ?_
 cases H
 refine aE [0] (by decide) ?_
 exact aCg (vT (u:= .returning) (by simp) rfl (bP rfl) rfl (sc rfl) (cb rfl) (aCF b2 0) rfl rfl)
 refine Tp (wJ _ _ _ h1).pan ?_
 refine Z1 ?_
 have H0:=H;clear H;obtain⟨e1,h3,H⟩:=bind_some H0;clear H0;have hv_e1:=aDb h3;subst hv_e1
 cases H
 refine aE [0] (by decide) ?_
 exact aD8 (vT (u:= .panicking [{ v:= .iface 245 (.agg #[.int .i64 e1]),recovered:=false }]) (by simp) rfl (fM rfl cW) rfl (sc rfl) (cb rfl) (aD9 b2 0 e1) rfl rfl)
def nX (a0:Ad) (w0:AI) (w1:Ad × Int->Option (List Int)):Nat->(List (List Int))->Int->Option (List (List Int))
| 0,_,_=>none
| k+1,x4,x5=>
 if x5<(w0.AD.length:Int)then
  (w1 (a0,x5)).bind fun y1=>
  (dG (x4++[y1])).bind fun z1=>
  (chk (x5+1)).bind fun z2=>
  nX a0 w0 w1 k z1 z2
 else
  some x4
def aAd (AA:Nat) (a0:Ad) (w0:AI) (w1:Ad × Int->Option (List Int)):Option (List (List Int)):=
 (nX a0 w0 w1 AA [] 0).bind fun x1=>
 some x1
theorem aJz (AA:Nat)  (a0:Ad) (w0:AI) (w1:Ad × Int->Option (List Int)) (r:List (List Int)) (H:aAd AA a0 w0 w1=some r):FnS Tryz.prog 121 [aG bZ a0,aG cN w0,aG (tFn Tryz.prog (fun (x:Ad × Int)=>[aG bZ x.1,fI x.2]) (fun (r:List Int)=>fSl tI r)) w1] [] (fSl (tSl tI) r) (fun _=>[]):=by
 unfold aAd at H
 refine bG Tryz.func121 rfl Tryz.ntmps121 rfl (fun β=>?_)
 revert H;refine B6 fun o1 H Hr1=>?_
 refine aR (ι:=List (List Int) × Value) (fun i=>o1=i.1) (fun i=>[(5,fEq i.2)]) (fun i=>[aC i.2 27 (tSl tI) i.1]) ?_ ?_
 refine Z7 ?_
 refine iW (tSl tI) 27 ?_
 refine Tl (ι:=Nat × List (List Int) × Int × Value) (fun i=>nX a0 w0 w1 i.1 i.2.1 i.2.2.1=_) (fun i=>i.1) (fun i=>[(0,aG bZ a0),(2,aG (tFn Tryz.prog (fun (x:Ad × Int)=>[aG bZ x.1,fI x.2]) (fun (r:List Int)=>fSl tI r)) w1),(5,fEq i.2.2.2),(9,fI (w0.AD.length:Int)),(10,fI i.2.2.1)]) (fun i=>[aC i.2.2.2 27 (tSl tI) i.2.1]) (AA,[],0,(.slice none 0 0)) H ?_
 clear H;rintro⟨k1,x4,x5,v3⟩ H
 replace H:nX a0 w0 w1 k1 x4 x5=_:=H
 try dsimp only
 obtain _ | k1:=k1
 rw [nX]at H;cases H
 rw [nX]at H
 refine aJ 0 rfl (fun hc_v3=>?_)
 refine Z3 ?_
 refine aI ?_
 revert H;refine is (fun c1 H=>?_) fun c1 H=>?_
 refine Z3 ?_
 refine aI ?_
 revert H;refine B10 fun y1 h1 H=>?_
 refine yU (a0,x5) a2g rfl rfl rfl (has rfl) (aN.cons (has rfl) (aN.cons (has rfl) aN.nil)) h1 ?_
 refine Tn (gR (t:=(tSl tI)) (xs:=[y1]) rfl (et rfl) (cM.cons rfl (has rfl) (cJ (aS)) cM.nil) rfl rfl rfl) fun b1=>?_
 generalize (Value.slice (some ⟨b1,0,none⟩) _ _)=v4
 refine aJ 0 rfl (fun hc_v4=>?_)
 revert H;refine bs fun z1 h2 H=>?_
 refine lL a2g rfl rfl rfl (has rfl) (has rfl) (et rfl) rfl h2 (fun v5=>?_)
 refine aJ 0 rfl (fun hc_v5=>?_)
 revert H;refine B5 fun z2 h3 H=>?_
 refine Z3 ?_
 exact Tm ((k1,z1,z2,v5)) ⟨H,ls⟩
 refine Z6 ?_
 exact Tm ((x4,v3)) (ij H)
 clear H;intro i hi;obtain⟨x1,v1⟩:=i;subst o1;have H:=Hr1;clear Hr1;try dsimp only at H
 try dsimp only
 refine aJ 0 rfl (fun hc_v1=>?_)
 refine Z5 ?_
 refine cE (φ:=fSl (tSl tI) x1) (v:=v1) [5,21,4] dI fz ?_
 refine cD ?_
 cases H
 exact To
def aAi (AA:Nat) (a0:AI) (a1:Ad × Int->Option (List Int)):Option ((List (List Int)) × Int):=
 (aAr AA (⟨a0.AF,a0.AD,a0.AE,a0.AG⟩:AI) (fun x=>aAd AA x (⟨a0.AF,a0.AD,a0.AE,a0.AG⟩:AI) a1)).bind fun y1=>
 some (y1.1,y1.2)
theorem aLw (AA:Nat)  (a0:AI) (a1:Ad × Int->Option (List Int)) (r:(List (List Int)) × Int) (H:aAi AA a0 a1=some r):FnS Tryz.prog 85 [fSt cN a0,fFn Tryz.prog (fun (x:Ad × Int)=>[aG bZ x.1,fI x.2]) (fun (r:List Int)=>fSl tI r) a1] [] (dF [fSl (tSl tI) r.1,fI r.2]) (fun _=>[]):=by
 unfold aAi at H
 refine bG Tryz.func85 rfl Tryz.ntmps85 rfl (fun β=>?_)
 refine Z1 ?_
 refine Tn (bU rfl hh bS) fun b1=>?_
 refine Tn (bU rfl (has rfl) (cJ (aDL))) fun b2=>?_
 refine Z5 ?_
 refine cK ?_
 refine cE (φ:=aG cN (⟨a0.AF,a0.AD,a0.AE,a0.AG⟩:AI)) (v:=ptr b1) [2] (fQ aP.rfl) fz ?_
 refine cD ?_
 refine cE (φ:=aG (tFn Tryz.prog (fun (x:Ad × Int)=>[aG bZ x.1,fI x.2]) (fun (r:List Int)=>fSl tI r)) a1) (v:=ptr b2) [3] (fQ aP.rfl) fz ?_
 refine cD ?_
 refine Yy (oB rfl (aN.cons hh (aN.cons hh aN.nil))) ?_
 revert H;refine bs fun y1 h1 H=>?_
 refine pI a2g rfl rfl rfl hh (aN.cons hh (aN.cons (gC rfl (ent_fn (cb rfl) (fun x r hx=>aJz AA x (⟨a0.AF,a0.AD,a0.AE,a0.AG⟩:AI) a1 r hx))) aN.nil)) rfl (cb rfl) (aIR AA (⟨a0.AF,a0.AD,a0.AE,a0.AG⟩:AI) (fun x=>aAd AA x (⟨a0.AF,a0.AD,a0.AE,a0.AG⟩:AI) a1) y1 h1) rfl ?_
 refine Z6 ?_
 cases H
 exact pU rfl (bP rfl) (bP rfl) rfl
end Go.Proofs.YtgidgoahhepmlaaGreat
