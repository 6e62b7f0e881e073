/- Parts of the proof: lemmas, and the steps through the program. -/
import Derived.Test.YtgidgoahhepmlaaGreatFb5
import Derived.Test.YtgidgoahhepmlaaGreatRows
import Derived.ChangeSame
import Derived.ChangeReads
import Derived.ReadAgain
import Derived.ChangeStays
import Derived.ChangeBears
set_option linter.unusedVariables false
set_option linter.unusedSimpArgs false
set_option maxRecDepth 100000
set_option maxHeartbeats 2000000
namespace Go.Proofs.YtgidgoahhepmlaaGreat
open Go.SX Go.SW Go.Dt
def fndA (x:Int):List Int->Int->Int
 | [],_=>-1
 | y :: l,k=>if x=y then k else fndA x l (k+1)
def fnd (l:List Int) (x:Int):Int:=fndA x l 0
theorem aJs {x:Int} (AC:List Int):∀ (AB:List Int) (k:Nat),AC.length<k->AB.length+AC.length<=900000000 ->
 ∃ r,pJ (AB++AC) x k AB.length=some r/\((r= .inl ()/\fndA x AC AB.length=-1)\/r= .inr (fndA x AC AB.length)):=by
 induction AC with
 | nil=>
  intro AB k hk _;obtain _ | k:=k
  ·omega
  rw [pJ,a2e (by simp)];exact⟨_,rfl, .inl ⟨rfl,rfl⟩⟩
 | cons e AC ih=>
  intro AB k hk hB;obtain _ | k:=k
  ·omega
  simp only [a0U]at hk hB;rw [pJ,a2f (bA _ _ _),bC,bsm];by_cases h:x=e
  ·rw [a2f h,bsm];exact⟨_,rfl, .inr (by rw [fndA,a2f h])⟩
  ·rw [a2e h,aQ (by omega),bsm,fndA,a2e h,bJ,aV];exact ih (AB++[e]) k (by omega) (by simp;omega)
theorem zQ {AA:Nat} {l:List Int} {x:Int} (hf:l.length<AA) (hB:l.length<=900000000):kY AA l x=some (fnd l x):=by
 obtain⟨r,e,h⟩:=aJs (x:=x) l [] AA hf (by simp;omega)
 simp only [a1p,a0Y,a0q]at e h
 rw [kY,e,bsm]
 rcases h with⟨rfl,h⟩ | rfl
 ·dsimp only;rw [fnd,h]
 ·rfl
theorem aJf {AA:Nat} {list:List Int} (hf:list.length<AA) (hB:list.length<=900000000) (AC:List Int):∀ (AB acc:List Int) (k:Nat),AC.length<k->AB.length+AC.length<=900000000->acc.length+AC.length<=900000000 ->
 oW AA list (AB++AC) k acc AB.length=some (acc++AC.map (fnd list)):=by
 induction AC with
 | nil=>
  intro AB acc k hk _ _;obtain _ | k:=k
  ·omega
  rw [oW,a2e (by simp)];simp
 | cons e AC ih=>
  intro AB acc k hk hB1 hA;obtain _ | k:=k
  ·omega
  simp only [a0U]at hk hB1 hA;rw [oW,a2f (bA _ _ _),bC,bsm,zQ hf hB,bsm,dS (by simp;omega),bsm,aQ (by omega),bsm,bJ,aV,ih (AB++[e]) (acc++[fnd list e]) k (by omega) (by simp;omega) (by simp;omega)];simp
theorem inds_p {AA:Nat} {list l:List Int} (hf:list.length<AA) (hB:list.length<=900000000) (hf2:l.length<AA) (hB2:l.length<=900000000):wY AA list l=some (l.map (fnd list)):=by
 have:=aJf hf hB l [] [] AA hf2 (by simp;omega) (by simp;omega)
 simp only [a1p,a0Y,a0q]at this
 rw [wY,this,bsm]
mutual
def flE (l:List Int):AS->AS
 | ⟨op,n,ks⟩=>⟨op,if op=2 then fnd l n else n,flL l ks⟩
def flL (l:List Int):List AS->List AS
 | []=>[]
 | k :: ks=>flE l k :: flL l ks
end
theorem aJX {rec:AS->List Int->Option AS} {op n:Int} {l:List Int} (AC:List AS):∀ (AB acc:List AS) (k:Nat),AC.length<k->AB.length+AC.length<=3000000->acc.length+AC.length<=900000000 ->
 (∀ e∈AC,rec e l=some (flE l e))->pX rec ⟨op,n,AB++AC⟩ l k AB.length acc=some (acc++flL l AC):=by
 induction AC with
 | nil=>
  intro AB acc k hk _ _ _;obtain _ | k:=k
  ·omega
  rw [pX,a2e (by simp)];simp [flL]
 | cons e AC ih=>
  intro AB acc k hk hB hA hr;obtain _ | k:=k
  ·omega
  simp only [a0U]at hk hB hA;rw [pX,a2f (bA _ _ _),bC,bsm,kK,hr e (.head _),bsm,dS (by simp;omega),bsm,aQ (by omega),bsm,bJ,aV,ih (AB++[e]) (acc++[flE l e]) k (by omega) (by simp;omega) (by simp;omega) (fun x hx=>hr x (.tail _ hx))];simp [flL]
theorem flexp_p {l:List Int} (hl:l.length<=1000000) (AA:Nat):∀ (e:AS),1000001+nE e<AA->nE e<=2000000->nB AA e l=some (flE l e):=by
 induction AA with
 | zero=>intro e h;omega
 | succ AA ih=>
  intro ⟨op,n,ks⟩ hf hB
  simp only [nE]at hf hB;have hlen:=mT ks;have hloop:=aJX (rec:=nB AA) (op:=op) (n:=n) (l:=l) ks [] [] AA (by omega) (by simp;omega) (by simp;omega) (fun e he=>ih e (by have:=gK he;omega) (by have:=gK he;omega))
  simp only [a1p,a0Y,a0q]at hloop;rw [nB];dsimp only
  by_cases o2:op=2
  ·rw [a2f o2,zQ (by omega) (by omega),bsm,bsm,hloop,bsm,flE,a2f o2]
  ·rw [a2e o2,bsm,hloop,bsm,flE,a2e o2]
theorem args_p {AA:Nat} {l:List Int} (hl:l.length<=1000000) (hf:2000000<AA) {op n:Int} {ks:List Int} (AC:List AS):∀ (AB acc:List AS) (k:Nat),AC.length<k->AB.length+AC.length<=3000000->acc.length+AC.length<=900000000->(∀ e∈AC,nE e<=60) ->
 oL AA l ⟨op,n,AB++AC,ks⟩ k AB.length acc=some (acc++flL l AC):=by
 induction AC with
 | nil=>
  intro AB acc k hk _ _ _;obtain _ | k:=k
  ·omega
  rw [oL,a2e (by simp)];simp [flL]
 | cons e AC ih=>
  intro AB acc k hk hB hA hr;obtain _ | k:=k
  ·omega
  simp only [a0U]at hk hB hA;have:=hr e (.head _);rw [oL,a2f (bA _ _ _),bC,bsm,kK,flexp_p hl AA e (by omega) (by omega),bsm,dS (by simp;omega),bsm,aQ (by omega),bsm,bJ,aV,ih (AB++[e]) (acc++[flE l e]) k (by omega) (by simp;omega) (by simp;omega) (fun x hx=>hr x (.tail _ hx))];simp [flL]
theorem aCQ {ch:List Aq}:∀ {js:List Int},(∀ c∈js,∃ y,idx ch c=some y/\0<=y.Ap/\y.Ap<=3)->iI ch js=some (brs ch js)
 | [],_=>rfl
 | c :: js,h=>by
  obtain⟨y,hy,hm⟩:=h c (.head _);rw [iI,hy,bsm,a2f hm,aCQ fun c hc=>h c (.tail _ hc),bsm,brs,hy]
theorem aHD {AA:Nat} {d:AO} {r:Am} (hf:3000<AA) (okd:okD d=true) (hr:r∈d.AP):nV AA d r=some (brs d.AN r.AY)/\aCm AA d r=some (brs d.AN r.AY)/\0<=brs d.AN r.AY/\brs d.AN r.AY<=9:=by
 have h:=(gU okd).2.2.2.2 r hr
 have hb:=wK h.2
 have hm:=aCQ h.2
 refine⟨?_,?_,hb.1,by omega⟩
 ·rw [aD5 (by omega) (by omega),hm]
 ·rw [bring_r (by omega) (by omega),a2f h.1,hm]
def yN (x:AW) (list w:List Int):Int:=if x.Op=6\/x.Op=8 then fnd w x.N else if x.Op=2 then fnd list x.N else x.N
def yT (x:AW) (list w:List Int):List Int:=if eU x.Op=true then w.map (fnd list) else []
def yOf (x:AW) (list w:List Int):Aj:=⟨x.Op,yN x list w,flL list x.AU,x.AM,yT x list w⟩
abbrev C3:=Int × List Int × Int
def fR (d:AO) (z:Int) (ins:List Int):List C3:=d.AP.map fun r=>(r.AV,ins++upto (z+own d) (brs d.AN r.AY).toNat,z+own d+brs d.AN r.AY)
def fS (d:AO) (z:Int) (ins:List Int):List C3:=d.AR.map fun y=>(y.AV,ins,z+own d)
def insW (w:List Int) (z:Int) (d:AO):List Int:=w++upto z (own d).toNat
def fD (p:AI) (x:AW) (z:Int) (w:List Int):List C3:=
 if x.Op=4 then match idx p.AE x.N with
  | some d=>fR d z (insW w z d)++fS d z (insW w z d)
  | none=>[]
 else []
def fK (p:AI) (x:AW) (list:List Int) (z:Int) (w:List Int):List C3:=
 if x.Op=4 then match idx p.AE x.N with
  | some d=>x.AM.map fun k=>(k,list++upto z (own d).toNat,z+own d)
  | none=>[]
 else x.AM.map fun k=>(k,if x.Op=6\/x.Op=8 then w else list,z)
def gF (g:Int->List Int->Int->List Aj->List Aj):List C3->List Aj->List Aj
 | [],nd=>nd
 | c :: l,nd=>gF g l (g c.1 c.2.1 c.2.2 nd)
theorem aDi {g:Int->List Int->Int->List Aj->List Aj}:∀ (l m:List C3) (nd:List Aj),gF g (l++m) nd=gF g m (gF g l nd)
 | [],_,_=>rfl
 | c :: l,m,nd=>aDi l m _
def put (p:AI):Nat->Int->List Int->Int->List Aj->List Aj
 | 0,_,_,_,nd=>nd
 | h+1,n,list,z,nd=>match idx p.AD n with
  | none=>nd
  | some x=>gF (put p h) (fK p x list z (bH p n)) (gF (put p h) (fD p x z (bH p n)) (nd.set n.toNat (yOf x list (bH p n))))
theorem aD7 {g:Int->List Int->Int->List Aj->List Aj} (hg:∀ n l z nd,(g n l z nd).length=nd.length):∀ (l:List C3) (nd:List Aj),(gF g l nd).length=nd.length
 | [],_=>rfl
 | c :: l,nd=>(aD7 hg l _).trans (hg _ _ _ _)
theorem wG {p:AI}:∀ (h:Nat) (n:Int) (l:List Int) (z:Int) (nd:List Aj),(put p h n l z nd).length=nd.length
 | 0,_,_,_,_=>rfl
 | h+1,n,l,z,nd=>by
  rw [put];split
  ·rfl
  ·rw [aD7 (wG h),aD7 (wG h),a0Z]
theorem fD_kd {p:AI} {x:AW} {z:Int} {w:List Int} {c:C3} (h:c∈fD p x z w):(c.1,c.2.2)∈gE p x z:=by
 unfold fD at h;unfold gE
 split at h
 ·rename_i o4;rw [a2f o4];cases e:idx p.AE x.N with
  | none=>rw [e]at h;cases h
  | some d=>
   rw [e]at h;simp only [fR,fS,a1f,a1k]at h;simp only [chD,a1f,a1k];rcases h with⟨r,hr,rfl⟩ | ⟨y,hy,rfl⟩
   ·exact .inl (.inl ⟨r,hr,rfl⟩)
   ·exact .inl (.inr ⟨y,hy,rfl⟩)
 ·cases h
theorem fK_kd {p:AI} {x:AW} {list:List Int} {z:Int} {w:List Int} {c:C3} (h:c∈fK p x list z w):(c.1,c.2.2)∈gE p x z:=by
 unfold fK at h;unfold gE
 split at h
 ·rename_i o4;rw [a2f o4];cases e:idx p.AE x.N with
  | none=>rw [e]at h;cases h
  | some d=>
   rw [e]at h;obtain⟨k,hk,rfl⟩:=a1k.1 h;simp only [a1f,a1k];exact .inr ⟨k,hk,rfl⟩
 ·rename_i o4;rw [a2e o4];obtain⟨k,hk,rfl⟩:=a1k.1 h;exact a1k.2 ⟨k,hk,rfl⟩
theorem Fm.child {p:AI} {sz:List Int} {rk:Int->Nat} (hm:Fm p sz rk) {n:Int} {x:AW} {z:Int} (G:gZ p sz rk n x z) {c:Int × Int} (h:c∈gE p x z):rk c.1<rk n/\∃ y,gZ p sz rk c.1 y c.2:=by
 obtain⟨q1,q2,_⟩:=G.below c h
 have h1:=eT q1
 have:=hm.len
 obtain⟨_,y,w,G',_⟩:=hm.good c.1 h1.1 (by omega)
 have e:=G'.size
 rw [q1]at e;cases e
 exact⟨q2,y,G'⟩
open Go.SX Go.SW Go.Dt
abbrev RecF:=Int->List Int->AI->aL Int (List Int)->AH->List Int->Option AH
section
variable {p:AI} {rec:RecF} {G:aL Int (List Int)} {sz:List Int} {g:Int->List Int->Int->List Aj->List Aj} {Fr:List ByteArray} {Tk:List Int} {Df:List AO} {Mn:Int} {N:Nat}
def RunF (p:AI) (rec:RecF) (G:aL Int (List Int)) (sz:List Int) (g:Int->List Int->Int->List Aj->List Aj) (Fr:List ByteArray) (Tk:List Int) (Df:List AO) (Mn:Int) (N:Nat) (c:C3):Prop:=
 ∀ nd:List Aj,nd.length=N->rec c.1 c.2.1 p G ⟨Fr,Tk,nd,Df,Mn⟩ sz=some ⟨Fr,Tk,g c.1 c.2.1 c.2.2 nd,Df,Mn⟩/\(g c.1 c.2.1 c.2.2 nd).length=N
theorem fl2 {d:AO} {n z:Int} (hz:idx sz n=some z) (h0:0<=z/\z<=6012) (okd:okD d=true) {ol ins:List Int} (hol:(ol.length:Int)=own d) (hins:ins.length<=100000) {AA:Nat} (hf:10000<AA) (AC:List Am):
 ∀ (AB:List Am) (k:Nat) (nd:List Aj),d.AP=AB++AC->AC.length<k->AB.length+AC.length<=3000000->nd.length=N ->
 (∀ r∈AC,RunF p rec G sz g Fr Tk Df Mn N (r.AV,ins++upto (z+own d) (brs d.AN r.AY).toNat,z+own d+brs d.AN r.AY)) ->
 oY AA rec n p G sz d ol ins k AB.length Fr Tk nd Df Mn=some (Fr,Tk,gF g (AC.map fun r=>(r.AV,ins++upto (z+own d) (brs d.AN r.AY).toNat,z+own d+brs d.AN r.AY)) nd,Df,Mn)/\(gF g (AC.map fun r=>(r.AV,ins++upto (z+own d) (brs d.AN r.AY).toNat,z+own d+brs d.AN r.AY)) nd).length=N:=by
 have hl:=gU okd
 have ho:0<=own d/\own d<=60:=⟨aCA d,by unfold own;omega⟩
 induction AC with
 | nil=>
  intro AB k nd he hk _ hN _;obtain _ | k:=k
  ·omega
  rw [oY,he,a2e (by simp)];exact⟨rfl,hN⟩
 | cons e AC ih=>
  intro AB k nd he hk hB hN hr;obtain _ | k:=k
  ·omega
  simp only [a0U]at hk hB;have hmem:e∈d.AP:=by rw [he];simp
  obtain⟨m1,_,m2,m3⟩:=aHD (AA:=AA) (by omega) okd hmem
  obtain⟨r1,r2⟩:=hr e (.head _) nd hN;obtain⟨i1,i2⟩:=ih (AB++[e]) k (g e.AV (ins++upto (z+own d) (brs d.AN e.AY).toNat) (z+own d+brs d.AN e.AY) nd) (by rw [he];simp) (by omega) (by simp;omega) r2 (fun r h=>hr r (.tail _ h))
  refine⟨?_,i2⟩;rw [oY,a2f (by rw [he];exact bA _ _ _),show idx d.AP (AB.length:Int)=some e from by rw [he];exact bC _ _ _,bsm,hz,bsm,hol,aQ (by omega),bsm,
   show(⟨d.AN,d.AR,d.AP⟩:AO)=d from rfl,show(⟨e.At,e.AY,e.AV⟩:Am)=e from rfl,m1,bsm,aBF (by omega) m2 (by omega) (by omega),bsm,uS (by rw [gY];omega),bsm,r1,bsm,aQ (by omega),bsm,aV AB e,i1]
  rfl
theorem fl3 {d:AO} {ins:List Int} {w:Int} (AC:List Ao):
 ∀ (AB:List Ao) (k:Nat) (nd:List Aj),d.AR=AB++AC->AC.length<k->AB.length+AC.length<=3000000->nd.length=N->(∀ r∈AC,RunF p rec G sz g Fr Tk Df Mn N (r.AV,ins,w)) ->
 qH rec p G sz d ins k AB.length Fr Tk nd Df Mn=some (Fr,Tk,gF g (AC.map fun r=>(r.AV,ins,w)) nd,Df,Mn)/\(gF g (AC.map fun r=>(r.AV,ins,w)) nd).length=N:=by
 induction AC with
 | nil=>
  intro AB k nd he hk _ hN _;obtain _ | k:=k
  ·omega
  rw [qH,he,a2e (by simp)];exact⟨rfl,hN⟩
 | cons e AC ih=>
  intro AB k nd he hk hB hN hr;obtain _ | k:=k
  ·omega
  simp only [a0U]at hk hB;obtain⟨r1,r2⟩:=hr e (.head _) nd hN;obtain⟨i1,i2⟩:=ih (AB++[e]) k (g e.AV ins w nd) (by rw [he];simp) (by omega) (by simp;omega) r2 (fun r h=>hr r (.tail _ h))
  refine⟨?_,i2⟩;rw [qH,a2f (by rw [he];exact bA _ _ _),show idx d.AR (AB.length:Int)=some e from by rw [he];exact bC _ _ _,bsm,r1,bsm,aQ (by omega),bsm,aV AB e,i1];rfl
theorem fl4 {x:AW} {ins:List Int} {w:Int} (AC:List Int):
 ∀ (AB:List Int) (k:Nat) (nd:List Aj),x.AM=AB++AC->AC.length<k->AB.length+AC.length<=3000000->nd.length=N->(∀ r∈AC,RunF p rec G sz g Fr Tk Df Mn N (r,ins,w)) ->
 nY rec p G sz x ins k AB.length Fr Tk nd Df Mn=some ⟨Fr,Tk,gF g (AC.map fun r=>(r,ins,w)) nd,Df,Mn⟩/\(gF g (AC.map fun r=>(r,ins,w)) nd).length=N:=by
 induction AC with
 | nil=>
  intro AB k nd he hk _ hN _;obtain _ | k:=k
  ·omega
  rw [nY,he,a2e (by simp)];exact⟨rfl,hN⟩
 | cons e AC ih=>
  intro AB k nd he hk hB hN hr;obtain _ | k:=k
  ·omega
  simp only [a0U]at hk hB;obtain⟨r1,r2⟩:=hr e (.head _) nd hN;obtain⟨i1,i2⟩:=ih (AB++[e]) k (g e ins w nd) (by rw [he];simp) (by omega) (by simp;omega) r2 (fun r h=>hr r (.tail _ h))
  refine⟨?_,i2⟩;rw [nY,a2f (by rw [he];exact bA _ _ _),show idx x.AM (AB.length:Int)=some e from by rw [he];exact bC _ _ _,bsm,r1,bsm,aQ (by omega),bsm,aV AB e,i1];rfl
end
structure Nd (p:AI) (s:VS) (rk:Int->Nat) (n:Int) (x:AW) (z:Int):Prop where
 g:gZ p s.sz rk n x z
 z6:z<=6012
theorem Cx.child {p:AI} {s:VS} {rk:Int->Nat} (C:Cx p s rk) {n:Int} {x:AW} {z:Int} (G:gZ p s.sz rk n x z) {c:Int × Int} (h:c∈gE p x z):rk c.1<rk n/\∃ y,Nd p s rk c.1 y c.2:=by
 obtain⟨q1,q2,_⟩:=G.below c h
 have h1:=eT q1
 have:=C.fm.len
 obtain⟨_,y,w,G',hw⟩:=C.fm.good c.1 h1.1 (by omega)
 have e:=G'.size
 rw [q1]at e;cases e
 exact⟨q2,y,G',hw⟩
theorem Cx.want_len {p:AI} {s:VS} {rk:Int->Nat} (C:Cx p s rk) {n:Int} {x:AW} {z:Int} (K:Nd p s rk n x z):((bH p n).length:Int)<=z:=by
 have h0:=K.g.pos
 by_cases o4:x.Op=4
 ·obtain⟨d,_,_,_,iw⟩:=aBf C K.g K.z6 o4;have:=uU iw.1 (a:=0) (b:=z) fun i hi=>⟨((iw.2 i).1 hi).1,((iw.2 i).1 hi).2.1⟩
  omega
 ·rw [(yJ C K.g o4).2];have hn:=eT K.g.node;obtain⟨_,w,G',_,N⟩:=C.need hn.1 hn.2;have e:=G'.size;rw [K.g.size]at e;cases e
  exact N.len
theorem aDx {l:List Int} (h:l.length<=900000000):gQ l=some l:=by
 rw [gQ,a1p,dS (by omega),bsm]
theorem take_seg {AA:Nat} {x:AW} {l w:List Int} (hl:l.length<AA) (hw:w.length<AA) (hl2:l.length<=900000000) (hw2:w.length<=900000000):
 ((qS x.Op).bind fun y3=>bif y3 then(wY AA l w).bind fun y4=>some y4 else some [])=some (yT x l w):=by
 rw [aCG,bsm,inds_p hl hl2 hw hw2,bsm]
 unfold yT
 cases h:eU x.Op <;> simp
theorem name_seg {AA:Nat} {x:AW} {l w:List Int} (hl:l.length<AA) (hw:w.length<AA) (hl2:l.length<=900000000) (hw2:w.length<=900000000):
 ((if x.Op=6 then some (decide (x.Op=6)) else some (decide (x.Op=8))).bind fun x4=>
 bif x4 then(gQ w).bind fun y5=>(kY AA y5 x.N).bind fun y6=>some (y5,y6)
 else if x.Op=2 then(kY AA l x.N).bind fun y7=>some (l,y7) else some (l,x.N))=some (if x.Op=6\/x.Op=8 then w else l,yN x l w):=by
 have e:(if x.Op=6 then some (decide (x.Op=6)) else some (decide (x.Op=8)))=some (decide (x.Op=6\/x.Op=8)):=by
  by_cases o6:x.Op=6
  ·rw [a2f o6,a2c o6,a2c (.inl o6)]
  ·rw [a2e o6];by_cases o8:x.Op=8
   ·rw [a2c o8,a2c (.inr o8)]
   ·rw [a2b o8,a2b (fun q=>q.elim o6 o8)]
 rw [e,bsm,aDx hw2,bsm,zQ hw hw2,bsm,zQ hl hl2,bsm]
 unfold yN
 by_cases o:x.Op=6\/x.Op=8
 ·rw [a2c o,a2a,a2f o,a2f o]
 ·rw [a2b o,a1Z,a2e o,a2e o];by_cases o2:x.Op=2
  ·rw [a2f o2,a2f o2]
  ·rw [a2e o2,a2e o2]
theorem flat1_p {p:AI} {s:VS} {rk:Int->Nat} (C:Cx p s rk) {G:aL Int (List Int)} (hG:Asks p G p.AD.length) {Fr:List ByteArray} {Tk:List Int} {Df:List AO} {Mn:Int}:
 ∀ (h AA:Nat) (n:Int) (x:AW) (z:Int) (l:List Int),Nd p s rk n x z->rk n<h->10000000+h<=AA->(l.length:Int)<=z->RunF p (fU AA) G s.sz (put p h) Fr Tk Df Mn p.AD.length (n,l,z):=by
 intro h
 induction h with
 | zero=>intro AA n x z l _ hr;omega
 | succ h ih=>
  intro AA n x z l K hr hf hl nd hN;obtain _ | AA:=AA
  ·omega
  refine⟨?_,by rw [wG];exact hN⟩
  have hn:=eT K.g.node;have h0:=K.g.pos;have h6:=K.z6;have hw:=C.want_len K;have ok:=K.g.ok;have hla:=ok.la;have hlk:=ok.lk;have hget:(G.get n).getD []=bH p n:=by rw [hG n hn.1 hn.2];rfl
  have hargs:=args_p (AA:=AA) (l:=l) (by omega) (by omega) (op:=x.Op) (n:=x.N) (ks:=x.AM) x.AU [] [] AA (by omega) (by simp;omega) (by simp;omega) ok.exps
  simp only [a1p,a0Y,a0q]at hargs;rw [show(⟨x.Op,x.N,x.AU,x.AM⟩:AW)=x from rfl]at hargs;obtain⟨y0,hy0⟩:=fT (xs:=nd) hn.1 (by rw [hN];exact hn.2)
  have sub:∀ c:C3,(c.1,c.2.2)∈gE p x z->(c.2.1.length:Int)<=c.2.2->RunF p (fU AA) G s.sz (put p h) Fr Tk Df Mn p.AD.length c:=fun c hc hlen=>by
   obtain⟨q1,y,K'⟩:=C.child K.g hc;exact ih AA c.1 y c.2.2 c.2.1 K' (by simp only at *;omega) (by omega) hlen
  show fU (AA+1) n l p G ⟨Fr,Tk,nd,Df,Mn⟩ s.sz=some ⟨Fr,Tk,put p (h+1) n l z nd,Df,Mn⟩
  rw [fU,K.g.node,bsm,aDx (by omega),bsm,hget];rw [take_seg (by omega) (by omega) (by omega) (by omega),bsm,name_seg (by omega) (by omega) (by omega) (by omega),bsm];dsimp only
  rw [hargs,bsm,hy0,bsm];simp only [put];rw [K.g.node];dsimp only
  have hnd:(nd.set n.toNat (yOf x l (bH p n))).length=p.AD.length:=by rw [a0Z];exact hN
  by_cases o4:x.Op=4
  ·obtain⟨d,ed,okd⟩:=ok.def_ o4;have hlim:=gU okd;have ho:0<=own d/\own d<=60:=⟨aCA d,by unfold own;omega⟩
   have hol:(((upto z (own d).toNat).length:Nat):Int)=own d:=by rw [gY];omega
   rw [a2f o4,ed,bsm,K.g.size,bsm,aQ (by omega),bsm,show(d.AN.length:Int)+(d.AR.length:Int)=own d from rfl,aBF (by omega) ho.1 (by omega) (by omega),bsm,uS (by rw [gY];omega),bsm];have hins:(((bH p n++upto z (own d).toNat).length:Nat):Int)=(bH p n).length+own d:=by rw [a0T,gY];omega
   obtain⟨e2,n2⟩:=fl2 (p:=p) (rec:=fU AA) (G:=G) (g:=put p h) (Fr:=Fr) (Tk:=Tk) (Df:=Df) (Mn:=Mn) (N:=p.AD.length) K.g.size ⟨h0,h6⟩ okd hol (ins:=bH p n++upto z (own d).toNat) (by omega) (AA:=AA) (by omega) d.AP [] AA
    (nd.set n.toNat (yOf x l (bH p n))) rfl (by omega) (by simp;omega) hnd (fun r hr=>by
     have hb:=(aHD (AA:=AA) (by omega) okd hr).2.2
     refine sub _ ?_ ?_
     ·exact fD_kd (w:=bH p n) (by unfold fD;rw [a2f o4,ed];exact a1g _ (a1k.2 ⟨r,hr,rfl⟩))
     ·simp only [a0T,gY];omega)
   obtain⟨e3,n3⟩:=fl3 (p:=p) (rec:=fU AA) (G:=G) (sz:=s.sz) (g:=put p h) (Fr:=Fr) (Tk:=Tk) (Df:=Df) (Mn:=Mn) (N:=p.AD.length) (d:=d) (ins:=bH p n++upto z (own d).toNat) (w:=z+own d) d.AR [] AA _ rfl (by omega) (by simp;omega) n2 (fun r hr=>by
    refine sub _ ?_ ?_
    ·exact fD_kd (w:=bH p n) (by unfold fD;rw [a2f o4,ed];exact a1h _ (a1k.2 ⟨r,hr,rfl⟩))
    ·simp only [a0T,gY];omega)
   obtain⟨e4,n4⟩:=fl4 (p:=p) (rec:=fU AA) (G:=G) (sz:=s.sz) (g:=put p h) (Fr:=Fr) (Tk:=Tk) (Df:=Df) (Mn:=Mn) (N:=p.AD.length) (x:=x) (ins:=l++upto z (own d).toNat) (w:=z+own d) x.AM [] AA _ rfl (by omega) (by simp;omega) n3 (fun r hr=>by
    refine sub _ ?_ ?_
    ·exact fK_kd (list:=l) (w:=bH p n) (by unfold fK;rw [a2f o4,ed];exact a1k.2 ⟨r,hr,rfl⟩)
    ·simp only [a0T,gY];omega)
   simp only [a0Y,a0q]at e2 e3 e4;rw [show(⟨x.Op,yN x l (bH p n),flL l x.AU,x.AM,yT x l (bH p n)⟩:Aj)=yOf x l (bH p n)from rfl,e2,bsm];dsimp only
   rw [e3,bsm];dsimp only
   rw [uS (by rw [gY];omega),bsm,bsm];dsimp only
   rw [e4];simp only [fK,fD,a2f o4,ed,aDi,insW,fR,fS]
  ·have hin:(((if x.Op=6\/x.Op=8 then bH p n else l).length:Nat):Int)<=z:=by split <;> omega
   obtain⟨e4,n4⟩:=fl4 (p:=p) (rec:=fU AA) (G:=G) (sz:=s.sz) (g:=put p h) (Fr:=Fr) (Tk:=Tk) (Df:=Df) (Mn:=Mn) (N:=p.AD.length) (x:=x) (ins:=if x.Op=6\/x.Op=8 then bH p n else l) (w:=z) x.AM [] AA _ rfl (by omega) (by simp;omega) hnd (fun r hr=>by
    refine sub _ ?_ hin;exact fK_kd (list:=l) (w:=bH p n) (by unfold fK;rw [a2e o4];exact a1k.2 ⟨r,hr,rfl⟩))
   simp only [a0Y,a0q]at e4;rw [a2e o4,bsm];dsimp only
   rw [show(⟨x.Op,yN x l (bH p n),flL l x.AU,x.AM,yT x l (bH p n)⟩:Aj)=yOf x l (bH p n)from rfl,e4];simp only [fK,fD,a2e o4,gF]
open Go.SX Go.SW Go.Dt
theorem aIL (AC:List Int):∀ (AB:List Int) (k:Nat),AC.length<k->AB.length+AC.length<=900000000->qC (AB++AC) (AB++AC) k AB.length=some (.inl ()):=by
 induction AC with
 | nil=>
  intro AB k hk _;obtain _ | k:=k
  ·omega
  rw [qC,a2e (by simp)]
 | cons e AC ih=>
  intro AB k hk hB;obtain _ | k:=k
  ·omega
  simp only [a0U]at hk hB;rw [qC,a2f (bA _ _ _),bC,bsm,bsm,a2e (by simp),aQ (by omega),bsm,bJ,aV];exact ih (AB++[e]) k (by omega) (by simp;omega)
theorem aAK {AA:Nat} {l:List Int} (hf:l.length<AA) (h:l.length<=900000000):qM AA l l=some true:=by
 have g:=aIL l [] AA hf (by simp;omega)
 simp only [a1p,a0Y,a0q]at g
 rw [qM,a2e (by simp),g,bsm]
theorem sdef1 {sp:List Ao} {ru:List Am} (AC:List Aq):∀ (AB:List Aq) (k:Nat),AC.length<k->AB.length+AC.length<=900000000->oC ⟨AB++AC,sp,ru⟩ ⟨AB++AC,sp,ru⟩ k AB.length=some (.inl ()):=by
 induction AC with
 | nil=>
  intro AB k hk _;obtain _ | k:=k
  ·omega
  rw [oC,a2e (by simp)]
 | cons e AC ih=>
  intro AB k hk hB;obtain _ | k:=k
  ·omega
  simp only [a0U]at hk hB;rw [oC,a2f (bA _ _ _),bC,bsm,bsm,a2c rfl,a2c rfl,Bool.and_self,a2a,aQ (by omega),bsm,bJ,aV];exact ih (AB++[e]) k (by omega) (by simp;omega)
theorem sdef2 {ch:List Aq} {ru:List Am} (AC:List Ao):∀ (AB:List Ao) (k:Nat),AC.length<k->AB.length+AC.length<=900000000->oN ⟨ch,AB++AC,ru⟩ ⟨ch,AB++AC,ru⟩ k AB.length=some (.inl ()):=by
 induction AC with
 | nil=>
  intro AB k hk _;obtain _ | k:=k
  ·omega
  rw [oN,a2e (by simp)]
 | cons e AC ih=>
  intro AB k hk hB;obtain _ | k:=k
  ·omega
  simp only [a0U]at hk hB;rw [oN,a2f (bA _ _ _),bC,bsm,bsm,a2c rfl,a2c rfl,Bool.and_self,a2a,aQ (by omega),bsm,bJ,aV];exact ih (AB++[e]) k (by omega) (by simp;omega)
theorem sdef3 {AA:Nat} {ch:List Aq} {sp:List Ao} (AC:List Am):∀ (AB:List Am) (k:Nat),AC.length<k->AB.length+AC.length<=900000000->(∀ r∈AC,r.AY.length<AA/\r.AY.length<=900000000)->oX AA ⟨ch,sp,AB++AC⟩ ⟨ch,sp,AB++AC⟩ k AB.length=some (.inl ()):=by
 induction AC with
 | nil=>
  intro AB k hk _ _;obtain _ | k:=k
  ·omega
  rw [oX,a2e (by simp)]
 | cons e AC ih=>
  intro AB k hk hB hr;obtain _ | k:=k
  ·omega
  simp only [a0U]at hk hB;have h:=hr e (.head _);rw [oX,a2f (bA _ _ _),bC,bsm,bsm,a2e (by simp),bsm,bsm,a2e (by simp),bsm,bsm,aAK h.1 h.2,bsm,a2a,aQ (by omega),bsm,bJ,aV];exact ih (AB++[e]) k (by omega) (by simp;omega) (fun r hr'=>hr r (.tail _ hr'))
theorem sdef {AA:Nat} {d:AO} (hf:3000<AA) (okd:okD d=true):wI AA d d=some true:=by
 obtain⟨ch,sp,ru⟩:=d
 have hl:=gU okd
 dsimp only at hl
 have e1:=sdef1 (sp:=sp) (ru:=ru) ch [] AA (by omega) (by simp;omega)
 have e2:=sdef2 (ch:=ch) (ru:=ru) sp [] AA (by omega) (by simp;omega)
 have e3:=sdef3 (AA:=AA) (ch:=ch) (sp:=sp) ru [] AA (by omega) (by simp;omega) (fun r hr=>by have:=(hl.2.2.2.2 r hr).1;omega)
 simp only [a1p,a0Y,a0q]at e1 e2 e3
 rw [wI,a2e (by simp),a2e (by simp),a2e (by simp),e1,bsm]
 dsimp only
 rw [e2,bsm]
 dsimp only
 rw [e3,bsm]
theorem aJI {rec:AS->AS->Option Bool} {op n:Int} (AC:List AS):∀ (AB:List AS) (k:Nat),AC.length<k->AB.length+AC.length<=900000000->(∀ e∈AC,rec e e=some true)->oJ rec ⟨op,n,AB++AC⟩ ⟨op,n,AB++AC⟩ k AB.length=some (.inl ()):=by
 induction AC with
 | nil=>
  intro AB k hk _ _;obtain _ | k:=k
  ·omega
  rw [oJ,a2e (by simp)]
 | cons e AC ih=>
  intro AB k hk hB hr;obtain _ | k:=k
  ·omega
  simp only [a0U]at hk hB;rw [oJ,a2f (bA _ _ _),bC,bsm,bsm,hr e (.head _),bsm,a2a,aQ (by omega),bsm,bJ,aV];exact ih (AB++[e]) k (by omega) (by simp;omega) (fun x hx=>hr x (.tail _ hx))
theorem sexp (AA:Nat):∀ (e:AS),nE e<AA->nE e<=2000000->mN AA e e=some true:=by
 induction AA with
 | zero=>intro e h;omega
 | succ AA ih=>
  intro ⟨op,n,ks⟩ hf hB
  simp only [nE]at hf hB;have hlen:=mT ks;have e1:=aJI (rec:=mN AA) (op:=op) (n:=n) ks [] AA (by omega) (by simp;omega) (fun e he=>ih e (by have:=gK he;omega) (by have:=gK he;omega))
  simp only [a1p,a0Y,a0q]at e1;rw [mN,a2e (by simp),a2e (by simp),a2e (by simp),e1,bsm]
structure SmN (y:Aj):Prop where
 la:y.AU.length<=3
 ex:∀ e∈y.AU,nE e<=60
 lk:y.AM.length<=2
 lt:y.AQ.length<=6012
theorem same4 {AA:Nat} (hf:3000<AA) {op n:Int} {ks tk:List Int} (AC:List AS):∀ (AB:List AS) (k:Nat),AC.length<k->AB.length+AC.length<=900000000->(∀ e∈AC,nE e<=60)->pR AA ⟨op,n,AB++AC,ks,tk⟩ ⟨op,n,AB++AC,ks,tk⟩ k AB.length=some (.inl ()):=by
 induction AC with
 | nil=>
  intro AB k hk _ _;obtain _ | k:=k
  ·omega
  rw [pR,a2e (by simp)]
 | cons e AC ih=>
  intro AB k hk hB hr;obtain _ | k:=k
  ·omega
  simp only [a0U]at hk hB;have:=hr e (.head _);rw [pR,a2f (bA _ _ _),bC,bsm,bsm,sexp AA e (by omega) (by omega),bsm,a2a,aQ (by omega),bsm,bJ,aV];exact ih (AB++[e]) k (by omega) (by simp;omega) (fun x hx=>hr x (.tail _ hx))
theorem same1 {f:AH} (AC:List ByteArray):∀ (AB:List ByteArray) (k:Nat),f.AF=AB++AC->AC.length<k->AB.length+AC.length<=900000000->pB f f k AB.length=some (.inl ()):=by
 induction AC with
 | nil=>
  intro AB k he hk _;obtain _ | k:=k
  ·omega
  rw [pB,he,a2e (by simp)]
 | cons e AC ih=>
  intro AB k he hk hB;obtain _ | k:=k
  ·omega
  simp only [a0U]at hk hB;rw [pB,he,a2f (bA _ _ _),bC,bsm,bsm,a2e (by simp),aQ (by omega),bsm,aV AB e];exact ih (AB++[e]) k (by rw [he];simp) (by omega) (by simp;omega)
theorem same2 {AA:Nat} (hf:3000<AA) {f:AH} (AC:List AO):∀ (AB:List AO) (k:Nat),f.AE=AB++AC->AC.length<k->AB.length+AC.length<=900000000->(∀ d∈AC,okD d=true)->pM AA f f k AB.length=some (.inl ()):=by
 induction AC with
 | nil=>
  intro AB k he hk _ _;obtain _ | k:=k
  ·omega
  rw [pM,he,a2e (by simp)]
 | cons e AC ih=>
  intro AB k he hk hB hr;obtain _ | k:=k
  ·omega
  simp only [a0U]at hk hB;rw [pM,he,a2f (bA _ _ _),bC,bsm,bsm,sdef hf (hr e (.head _)),bsm,a2a,aQ (by omega),bsm,aV AB e];exact ih (AB++[e]) k (by rw [he];simp) (by omega) (by simp;omega) (fun d hd=>hr d (.tail _ hd))
theorem same3 {AA:Nat} (hf:10000<AA) {f:AH} (AC:List Aj):∀ (AB:List Aj) (k:Nat),f.AD=AB++AC->AC.length<k->AB.length+AC.length<=900000000->(∀ y∈AC,SmN y)->qI AA f f k AB.length=some (.inl ()):=by
 induction AC with
 | nil=>
  intro AB k he hk _ _;obtain _ | k:=k
  ·omega
  rw [qI,he,a2e (by simp)]
 | cons e AC ih=>
  intro AB k he hk hB hr;obtain _ | k:=k
  ·omega
  simp only [a0U]at hk hB;have h:=hr e (.head _);have e4:=same4 (AA:=AA) (by omega) (op:=e.Op) (n:=e.N) (ks:=e.AM) (tk:=e.AQ) e.AU [] AA (by have:=h.la;omega) (by have:=h.la;simp;omega) h.ex
  simp only [a1p,a0Y,a0q]at e4;rw [show(⟨e.Op,e.N,e.AU,e.AM,e.AQ⟩:Aj)=e from rfl]at e4;have h1:=h.lk;have h2:=h.lt;rw [qI,he,a2f (bA _ _ _),bC,bsm,bsm,a2e (by simp),a2e (by simp),a2e (by simp),aAK (by omega) (by omega),bsm,a0o,a1Z,aAK (by omega) (by omega),bsm,a2a,e4,bsm];dsimp only
  rw [aQ (by omega),bsm,aV AB e];exact ih (AB++[e]) k (by rw [he];simp) (by omega) (by simp;omega) (fun d hd=>hr d (.tail _ hd))
theorem aK7 {AA:Nat} (hf:10000<AA) {f:AH} (h1:f.AF.length<=12) (h2:f.AQ.length<=6012) (h3:f.AD.length<=60) (h4:f.AE.length<=12) (hn:∀ y∈f.AD,SmN y) (hd:∀ d∈f.AE,okD d=true):yL AA f f=some true:=by
 have e1:=same1 (f:=f) f.AF [] AA rfl (by omega) (by simp;omega)
 have e2:=same2 (AA:=AA) (by omega) (f:=f) f.AE [] AA rfl (by omega) (by simp;omega) hd
 have e3:=same3 (AA:=AA) hf (f:=f) f.AD [] AA rfl (by omega) (by simp;omega) hn
 simp only [a0Y,a0q]at e1 e2 e3
 rw [yL,a2e (by simp),a2e (by simp),aAK (by omega) (by omega),bsm,a0o,a1Z,a2e (by simp),a2e (by simp),e1,bsm]
 dsimp only
 rw [e2,bsm]
 dsimp only
 rw [e3,bsm]
theorem aGD {l:List Int}:(∀ e,nE (flE l e)=nE e)/\∀ ks,nL (flL l ks)=nL ks/\(flL l ks).length=ks.length:=⟨go,goL⟩
where
 go:∀ e,nE (flE l e)=nE e
  | ⟨op,n,ks⟩=>by simp only [flE,nE];rw [(goL ks).1]
 goL:∀ ks,nL (flL l ks)=nL ks/\(flL l ks).length=ks.length
  | []=>⟨rfl,rfl⟩
  | k :: ks=>by simp only [flL,nL,a0U];rw [go k,(goL ks).1,(goL ks).2];exact⟨rfl,rfl⟩
theorem fl_mem {l:List Int} {R:Nat->Prop}:∀ {ks:List AS},(∀ e∈ks,R (nE e))->∀ e∈flL l ks,R (nE e)
 | [],_,e,he=>by cases he
 | k :: ks,h,e,he=>by
  rcases a1i.1 he with rfl | he
  ·rw [aGD.1];exact h k (.head _)
  ·exact fl_mem (fun e he=>h e (.tail _ he)) e he
theorem yOf_sm {p:AI} {s:VS} {rk:Int->Nat} (C:Cx p s rk) {n:Int} {x:AW} {z:Int} (K:Nd p s rk n x z) (l:List Int):SmN (yOf x l (bH p n)):=by
 have hw:=C.want_len K
 have h6:=K.z6
 refine⟨?_,?_,K.g.ok.lk,?_⟩
 ·show(flL l x.AU).length<=3
  rw [(aGD.2 x.AU).2];exact K.g.ok.la
 ·exact fl_mem (R:=fun k=>k<=60) K.g.ok.exps
 ·show(yT x l (bH p n)).length<=6012
  unfold yT;split
  ·rw [a0X];omega
  ·simp
theorem aC5 {g:Int->List Int->Int->List Aj->List Aj}:∀ (l:List C3) (nd:List Aj),(∀ c∈l,∀ nd,(∀ y∈nd,SmN y)->∀ y∈g c.1 c.2.1 c.2.2 nd,SmN y)->(∀ y∈nd,SmN y)->∀ y∈gF g l nd,SmN y
 | [],_,_,h=>h
 | c :: l,nd,hg,h=>aC5 l _ (fun c hc=>hg c (.tail _ hc)) (hg c (.head _) nd h)
theorem aCP {p:AI} {s:VS} {rk:Int->Nat} (C:Cx p s rk):∀ (h:Nat) (n:Int) (x:AW) (z:Int) (l:List Int) (nd:List Aj),Nd p s rk n x z->(∀ y∈nd,SmN y)->∀ y∈put p h n l z nd,SmN y
 | 0,_,_,_,_,_,_,h=>h
 | h+1,n,x,z,l,nd,K,hs=>by
  rw [put,K.g.node];dsimp only
  refine aC5 _ _ (fun c hc nd hnd=>?_) (aC5 _ _ (fun c hc nd hnd=>?_) fun y hy=>?_)
  ·obtain⟨_,x',K'⟩:=C.child K.g (fK_kd hc);exact aCP C h c.1 x' c.2.2 c.2.1 nd K' hnd
  ·obtain⟨_,x',K'⟩:=C.child K.g (fD_kd hc);exact aCP C h c.1 x' c.2.2 c.2.1 nd K' hnd
  ·rcases List.mem_or_eq_of_mem_set hy with q | q
   ·exact hs y q
   ·rw [q];exact yOf_sm C K l
def rX:Aj:=⟨0,0,[],[],[]⟩
def eJ (p:AI):AH:=⟨p.AF,bO p p.AG,put p 60 p.AG (bO p p.AG) p.AF.length (List.replicate p.AD.length rX),p.AE,p.AG⟩
theorem Cx.main {p:AI} {s:VS} {rk:Int->Nat} (C:Cx p s rk):∃ x,Nd p s rk p.AG x p.AF.length/\rk p.AG<60/\NeedB p s p.AG p.AF.length:=by
 have h1:=eT C.fm.main
 have:=C.fm.len
 obtain⟨hr,x,z,G,hz⟩:=C.fm.good p.AG h1.1 (by omega)
 have e:=G.size
 rw [C.fm.main]at e;cases e
 obtain⟨_,w,G',_,N⟩:=C.need (n:=p.AG) h1.1 (by omega)
 have e:=G'.size
 rw [C.fm.main]at e;cases e
 exact⟨x,⟨G,hz⟩,hr,N⟩
theorem flat_S {p:AI} {s:VS} {rk:Int->Nat} (C:Cx p s rk):tS F p=some (eJ p,0):=by
 have h60:=C.fm.n60
 have h12:=C.fm.f12
 obtain⟨g,e1,ha,hm⟩:=aGB C
 obtain⟨x,K,hr,N⟩:=C.main
 have hl:=N.len
 obtain⟨e2,_⟩:=flat1_p C ha (Fr:=p.AF) (Tk:=bO p p.AG) (Df:=p.AE) (Mn:=p.AG) 60 F p.AG x p.AF.length (bO p p.AG) K hr (by decide) hl (List.replicate p.AD.length rX) (by simp)
 unfold tS
 rw [show(⟨p.AF,p.AD,p.AE,p.AG⟩:AI)=p from rfl,e1,bsm]
 simp only [ne_eq,not_true_eq_false,if_false]
 rw [aGt C.sm C.chk_ C.fm.len h60,bsm,vB,a1p,dS (by omega),bsm,bsm,hm,a1S,aDx (by omega),bsm,aAj (by omega),bsm,aEo (by unfold F;omega) C.sm.Aa C.sm.AX,bsm,
  show(⟨0,0,[],[],[]⟩:Aj)=rX from rfl]
 simp only at e2
 rw [e2,bsm]
 rfl
open Go.SX Go.SW Go.Dt
theorem aEz {l:List Int} {R:Nat->Prop}:∀ {ks a:List AS},opL l ks=some a->(∀ e∈ks,R (nE e))->∀ e∈a,R (nE e)
 | [],a,h,_,e,he=>by rw [opL]at h;cases h;cases he
 | k :: ks,a,h,hk,e,he=>by
  obtain⟨k',ks',rfl,h1,h2⟩:=aEd h;cases he with
  | head=>rw [(aFG h1).1];exact hk k (.head _)
  | tail _ he=>exact aEz h2 (fun e he=>hk e (.tail _ he)) e he
theorem aIf {f:AH} (hm:SmF f) {s:FS} (hi:InvF f s) (hl:s.nd.length=f.AD.length):SmP (gG f s):=by
 refine⟨by show s.nd.length<=_;rw [hl];exact hm.nodes,hm.Aa,hm.free,hm.names,fun w hw=>?_,hm.AX⟩
 obtain⟨i,hi2⟩:=a1j.1 hw
 rcases hi i w hi2 with rfl | ⟨y,l,t,h1,h2⟩
 ·exact⟨by simp [wZ],by simp [wZ],fun e he=>by simp [wZ]at he⟩
 ·obtain⟨a1,a2,a3⟩:=hm.args y (a1m h1);unfold opN at h2;obtain⟨m,_,h2⟩:=bind_some h2;obtain⟨a,ha,h2⟩:=bind_some h2;cases h2;exact⟨by rw [aEL ha];exact a1,a2,aEz (R:=fun n=>n<=2000000) ha a3⟩
theorem aBO {x:Bool} {f:AH} (h:¬ ((f.AD.length<=60/\f.AF.length<=12/\f.AE.length<=12)/\dN f.AF.length none f.AQ=true)):iQ x f=none:=by
 unfold iQ wQ;rw [a2e h];rfl
theorem aCr {x:Bool} {f:AH} (h:(f.AD.length<=60/\f.AF.length<=12/\f.AE.length<=12)/\dN f.AF.length none f.AQ=true):wQ x f=dC x f f.AD.length (iA f) f.AG f.AQ f.AF.length:=by
 unfold wQ;rw [a2f h]
theorem aFQ {f:AH}:WF f (iA f):=⟨by simp [iA],by simp [iA],by simp [iA],by simp [iA]⟩
theorem start_un {f:AH}:unF (iA f)<=f.AD.length:=by simp [unF,iA,List.countP_replicate]
theorem aJk {f:AH} (AC:List AO):∀ (AB:List AO) (k:Nat),f.AE=AB++AC->AC.length<k->AB.length+AC.length<=3000000->∃ r,mF f k AB.length=some r/\((∀ d∈AC,d.AN.length<=30/\d.AR.length<=30)/\r= .inl ()\/(¬ ∀ d∈AC,d.AN.length<=30/\d.AR.length<=30)/\r= .inr none):=by
 induction AC with
 | nil=>
  intro AB k hd hk _;obtain _ | k:=k
  ·omega
  exact⟨_,by rw [mF,hd,a2e (by simp)], .inl ⟨(fun d h=>by cases h),rfl⟩⟩
 | cons e AC ih=>
  intro AB k hd hk hB;obtain _ | k:=k
  ·omega
  simp only [a0U]at hk hB;rw [mF,a2f (by rw [hd];exact bA _ _ _),show idx f.AE (AB.length:Int)=some e from by rw [hd];exact bC _ _ _,bsm];by_cases c1:30<(e.AN.length:Int)
  ·rw [a2f c1];exact⟨_,rfl, .inr ⟨fun h=>by have:=(h e (.head _)).1;omega,rfl⟩⟩
  rw [a2e c1];by_cases c2:30<(e.AR.length:Int)
  ·rw [a2f c2];exact⟨_,rfl, .inr ⟨fun h=>by have:=(h e (.head _)).2;omega,rfl⟩⟩
  rw [a2e c2,aQ (by omega),bsm,aV];obtain⟨r,g1,g2⟩:=ih (AB++[e]) k (by rw [hd,bJ]) (by omega) (by simp;omega)
  refine⟨r,g1,?_⟩;rcases g2 with⟨g2,g3⟩ | ⟨g2,g3⟩
  ·refine .inl ⟨fun d hd=>?_,g3⟩
   cases hd with
   | head=>omega
   | tail _ h=>exact g2 d h
  ·exact .inr ⟨fun h=>g2 fun d hd=>h d (.tail _ hd),g3⟩
theorem aCw {f:AH} (hm:SmF f):tJ F f=some (match iQ false f with | some s=>some (cvP f s) | none=>none):=by
 have m1:=hm.nodes;have m2:=hm.free;have m3:=hm.Aa;have m4:=hm.take
 rw [tJ]
 by_cases c1:60<(f.AD.length:Int)
 ·rw [a2f c1,aBO (by omega)]
 rw [a2e c1]
 by_cases c2:12<(f.AF.length:Int)
 ·rw [a2f c2,aBO (by omega)]
 rw [a2e c2]
 by_cases c3:12<(f.AE.length:Int)
 ·rw [a2f c3,aBO (by omega)]
 rw [a2e c3,aHm (by show _<1000000000;omega) (by omega),bsm]
 by_cases hr:dN f.AF.length none f.AQ=true
 ·have hc:(f.AD.length<=60/\f.AF.length<=12/\f.AE.length<=12)/\dN f.AF.length none f.AQ=true:=⟨by omega,hr⟩
  obtain⟨r,g1,g2⟩:=aJk (f:=f) f.AE [] F rfl (by show _<1000000000;omega) (by simp;omega)
  rw [hr,a2a,show mF f F 0=_ from g1,bsm];rcases g2 with⟨hD,rfl⟩ | ⟨hD,rfl⟩
  ·dsimp only
   have htl:=aH6 (b:=f.AF.length) (by omega) hr
   obtain⟨r,q1,q2⟩:=(pvisF hm hD f.AD.length F (by show _<1000000000;omega)).run (iA f) f.AG f.AQ f.AF.length aFQ start_un htl (by omega)
   rw [aAj (by omega),bsm,bsm,aAj (by omega),bsm,vB,a1p,dS (by omega),bsm,bsm,aAj (by omega),bsm,aEo (by show _<1000000000;omega) m3 hm.AX,bsm,gQ,a1p,dS (by omega),bsm,bsm,
    show eC F (⟨(⟨f.AF,f.AQ,f.AD,f.AE,f.AG⟩:AH),List.replicate f.AD.length [],List.replicate f.AD.length [],List.replicate f.AD.length false,(⟨f.AF,List.replicate f.AD.length (⟨0,0,[],[]⟩:AW),f.AE,f.AG⟩:AI)⟩:Ae) f.AG f.AQ f.AF.length=_ from q1,bsm]
   unfold iQ;rw [aCr hc];cases hq:dC false f f.AD.length (iA f) f.AG f.AQ f.AF.length with
   | none=>rw [hq]at q2;obtain⟨s',rfl⟩:=q2;rfl
   | some s=>
    rw [hq]at q2;have q2:r=(cvP f s,true):=q2;subst q2;obtain⟨i1,i2⟩:=aGv (x:=false) (f:=f) (s:=s) (by rw [aCr hc];exact hq)
    rw [bsm];dsimp only
    rw [a0o,a1Z,show vA F (⟨(cvP f s).AK.AF,(cvP f s).AK.AD,(cvP f s).AK.AE,(cvP f s).AK.AG⟩:AI)=some (if (dZ (gG f s)).isSome=true then 0 else 2)from check_eq (aIf hm i1 i2),bsm];by_cases hk:(dZ (gG f s)).isSome=true
    ·rw [a2f hk,a2f hk,a2e (by decide)]
    ·rw [a2e hk,a2e hk,a2f (by decide)]
  ·have:iQ false f=none:=by
    cases ha:iQ false f with
    | none=>rfl
    | some s=>
     unfold iQ at ha;obtain⟨t,_,ha⟩:=bind_some ha;split at ha
     ·rename_i hk;obtain⟨vs,hvs⟩:=Option.isSome_iff_exists.1 hk;exact absurd (fun d hd=>by obtain⟨h1,h2,_⟩:=gU (aCq hvs d hd);exact⟨h1,h2⟩) hD
     ·cases ha
   rw [this]
 ·rw [Bool.eq_false_iff.2 hr,a1Z,aBO (fun h=>hr h.2)]
open Go.SX Go.SW Go.Dt
theorem aEk {x:Int}:∀ (l:List Int) (k:Int),x∈l->∃ i:Nat,fndA x l k=k+i/\l[i]? =some x
 | [],_,h=>by cases h
 | y :: l,k,h=>by
  rw [fndA];by_cases e:x=y
  ·rw [a2f e];exact⟨0,by simp,by simp [e]⟩
  ·rw [a2e e];rcases a1i.1 h with h | h
   ·exact absurd h e
   ·obtain⟨i,h1,h2⟩:=aEk l (k+1) h;exact⟨i+1,by rw [h1];simp only [Int.natCast_add];omega,by simpa using h2⟩
theorem aAH {l:List Int} {x:Int} (h:x∈l):∃ i:Nat,fnd l x=(i:Int)/\l[i]? =some x:=by
 obtain⟨i,h1,h2⟩:=aEk l 0 h
 exact⟨i,by rw [fnd,h1];omega,h2⟩
theorem aBJ {l:List Int} {x:Int} (h:x∈l):idx l (fnd l x)=some x:=by
 obtain⟨i,h1,h2⟩:=aAH h
 rw [h1];exact jU h2
theorem pick_fnd {l w:List Int} (h:∀ i∈w,i∈l):pick l (w.map (fnd l))=w:=by
 rw [pick,a1d]
 exact(a1b (g:=id) fun i hi=>by simp [aBJ (h i hi)]).trans (List.map_id _)
theorem fnd_lt {l:List Int} (hs:Srt l) {a b:Int} (ha:a∈l) (hb:b∈l) (h:a<b):fnd l a<fnd l b:=by
 obtain⟨i,h1,h2⟩:=aAH ha
 obtain⟨j,h3,h4⟩:=aAH hb
 obtain⟨hi,e1⟩:=a0K.1 h2
 obtain⟨hj,e2⟩:=a0K.1 h4
 rw [h1,h3]
 by_cases hij:i<j
 ·omega
 ·by_cases hji:j<i
  ·have:=a1u.1 hs j i hj hi hji;omega
  ·have:i=j:=by omega
   subst this;omega
theorem aGS {b:Int} {q:Option Int} {n:Int} {l:List Int}:dN b q (n :: l)=((decide (0<=n/\n<b) && (match q with | none=>true | some q=>decide (q<n))) && dN b (some n) l):=by cases q <;> rfl
theorem aGA {l:List Int} (hs:Srt l):∀ (w:List Int) (q:Option Int),Srt w->(∀ i∈w,i∈l)->(∀ a,q=some a->∀ i∈w,a<fnd l i)->dN l.length q (w.map (fnd l))=true
 | [],q,_,_,_=>by cases q <;> rfl
 | i :: w,q,h,hm,hq=>by
  obtain⟨h1,h2⟩:=a1t.1 h;obtain⟨j,e1,e2⟩:=aAH (hm i (.head _));have hj:j<l.length:=(a0K.1 e2).1;have ih:=aGA hs w (some (fnd l i)) h2 (fun a ha=>hm a (.tail _ ha)) (fun a ha b hb=>by cases ha;exact fnd_lt hs (hm i (.head _)) (hm b (.tail _ hb)) (h1 b hb))
  rw [a1c,aGS,ih,Bool.and_true,a2c (by omega),a0p];cases q with
  | none=>rfl
  | some a=>exact a2c (hq a rfl i (.head _))
theorem op_fl {l:List Int}:(∀ e,(∀ i∈nmE e,i∈l)->opE l (flE l e)=some e)/\∀ ks,(∀ i∈nmL ks,i∈l)->opL l (flL l ks)=some ks:=⟨go,goL⟩
where
 go:∀ e,(∀ i∈nmE e,i∈l)->opE l (flE l e)=some e
  | ⟨op,n,ks⟩,h=>by
   simp only [nmE]at h;have hk:=goL ks (fun i hi=>h i (a1h _ hi))
   rw [flE,opE];by_cases o:op=2
   ·rw [a2f o,a2f o,aBJ (h n (by rw [a2f o];simp)),bsm,hk,bsm]
   ·rw [a2e o,a2e o,bsm,hk,bsm]
 goL:∀ ks,(∀ i∈nmL ks,i∈l)->opL l (flL l ks)=some ks
  | [],_=>by rw [flL,opL]
  | k :: ks,h=>by
   simp only [nmL]at h;rw [flL,opL,go k (fun i hi=>h i (a1g _ hi)),bsm,goL ks (fun i hi=>h i (a1h _ hi)),bsm]
def jC (s s':VS) (i:Int):Prop:=idx s.AT i≠some true/\idx s'.AT i=some true
theorem sJ {g:VS->Int->Int->Option VS} (H:∀ s n z s',g s n z=some s'->∀ i,idx s.AT i=some true->idx s'.AT i=some true):∀ (l:List (Int × Int)) (s s':VS),cO g s l=some s'->∀ i,idx s.AT i=some true->idx s'.AT i=some true
 | [],s,s',h,i,hi=>by cases h;exact hi
 | c :: l,s,s',h,i,hi=>by
  obtain⟨s1,h1,h2⟩:=bind_some h;exact sJ H l s1 s' h2 i (H _ _ _ _ h1 i hi)
theorem lO {s:VS} {n z:Int} {x:AW} {i:Int} (hn:idx s.AT n=some false):idx (mark s n z x).AT i=if i=n then some true else idx s.AT i:=by
 have:=eT hn
 split
 ·rename_i e;subst e;exact sN this.1 this.2
 ·rename_i e;exact sL this.1 e
theorem mU {p:AI}:∀ (k:Nat) (s:VS) (n z:Int) (s':VS),vis p k s n z=some s'->∀ i,idx s.AT i=some true->idx s'.AT i=some true
 | 0,_,_,_,_,h,_,_=>by simp [vis]at h
 | k+1,s,n,z,s',h,i,hi=>by
  obtain⟨x,_,hn,_,_,h⟩:=yI h;refine sJ (mU k) _ _ _ h i ?_;rw [lO hn];split
  ·rfl
  ·exact hi
abbrev c2 (c:C3):Int × Int:=(c.1,c.2.2)
def cs3 (p:AI) (x:AW) (list:List Int) (z:Int) (w:List Int):List C3:=fD p x z w++fK p x list z w
theorem aBK {p:AI} {x:AW} {list:List Int} {z:Int} {w:List Int}:(cs3 p x list z w).map c2=gE p x z:=by
 unfold cs3 fD fK gE
 by_cases h:x.Op=4
 ·simp only [a2f h];cases idx p.AE x.N with
  | none=>rfl
  | some d=>simp [fR,fS,chD,Function.comp_def]
 ·simp only [a2e h];simp [Function.comp_def]
theorem cs3_w {p:AI} {x:AW} {list:List Int} {z:Int} {w w':List Int} (h:eU x.Op=true->w=w'):cs3 p x list z w=cs3 p x list z w':=by
 by_cases t:eU x.Op=true
 ·rw [h t]
 ·have o:¬ (x.Op=4\/x.Op=6\/x.Op=7\/x.Op=8):=fun q=>t (a2c q)
  unfold cs3 fD fK;simp only [a2e (show ¬ x.Op=4 by omega),a2e (show ¬ (x.Op=6\/x.Op=8) by omega)]
theorem aDm {p:AI} {h:Nat} {n:Int} {list:List Int} {z:Int} {nd:List Aj} {x:AW} (e:idx p.AD n=some x):put p (h+1) n list z nd=gF (put p h) (cs3 p x list z (bH p n)) (nd.set n.toNat (yOf x list (bH p n))):=by
 rw [put,e]
 dsimp only
 rw [cs3,aDi]
theorem aBr {p:AI} {k h:Nat} (H:∀ (s:VS) (c:C3) (s':VS) (nd:List Aj),vis p k s c.1 c.2.2=some s'->∀ i,¬ jC s s' i->idx (put p h c.1 c.2.1 c.2.2 nd) i=idx nd i):∀ (cs:List C3) (s s':VS) (nd:List Aj),cO (vis p k) s (cs.map c2)=some s'->∀ i,¬ jC s s' i->idx (gF (put p h) cs nd) i=idx nd i
 | [],_,_,_,_,_,_=>rfl
 | c :: cs,s,s',nd,h1,i,hi=>by
  obtain⟨s1,e1,e2⟩:=bind_some h1;have m2:=sJ (mU k) _ _ _ e2;rw [gF,aBr H cs s1 s' _ e2 i (fun q=>hi ⟨fun h=>q.1 (mU k _ _ _ _ e1 i h),q.2⟩),H s c s1 nd e1 i (fun q=>hi ⟨q.1,m2 i q.2⟩)]
theorem aDN {p:AI}:∀ (k h:Nat) (s:VS) (c:C3) (s':VS) (nd:List Aj),k<=h->vis p k s c.1 c.2.2=some s'->∀ i,¬ jC s s' i->idx (put p h c.1 c.2.1 c.2.2 nd) i=idx nd i
 | 0,_,_,_,_,_,_,h,_,_=>by simp [vis]at h
 | k+1,0,_,_,_,_,h,_,_,_=>by omega
 | k+1,h+1,s,c,s',nd,hk,hv,i,hi=>by
  obtain⟨x,ex,hn,_,_,hv⟩:=yI hv;have hm:=sJ (mU k) _ _ _ hv;rw [<- aBK (list:=c.2.1) (w:=bH p c.1)]at hv;have hne:i≠c.1:=fun e=>hi ⟨by rw [e,hn];simp,hm i (by rw [lO hn,a2f e])⟩
  rw [aDm ex,aBr (fun s c s' nd=>aDN k h s c s' nd (by omega)) _ _ _ _ hv i (fun q=>hi ⟨fun h=>q.1 (by rw [lO hn,a2e hne];exact h),q.2⟩),sL (eT hn).1 hne]
def gJ (p:AI) (g:AH):Nat->Int->List Int->Int->Prop
 | 0,_,_,_=>True
 | k+1,n,list,z=>∃ x,idx p.AD n=some x/\idx g.AD n=some (yOf x list (bH p n))/\∀ c∈cs3 p x list z (bH p n),gJ p g k c.1 c.2.1 c.2.2
theorem aGZ {p:AI} {g:AH} {k h:Nat} (hk:k<=h) (H:∀ (s:VS) (c:C3) (s':VS) (nd:List Aj),nd.length=p.AD.length->vis p k s c.1 c.2.2=some s'->(∀ i,jC s s' i->idx g.AD i=idx (put p h c.1 c.2.1 c.2.2 nd) i)->gJ p g k c.1 c.2.1 c.2.2):
 ∀ (cs:List C3) (s s':VS) (nd:List Aj),nd.length=p.AD.length->cO (vis p k) s (cs.map c2)=some s'->(∀ i,jC s s' i->idx g.AD i=idx (gF (put p h) cs nd) i)->∀ c∈cs,gJ p g k c.1 c.2.1 c.2.2
 | [],_,_,_,_,_,_,c,hc=>by cases hc
 | d :: cs,s,s',nd,hl,h1,hg,c,hc=>by
  obtain⟨s1,e1,e2⟩:=bind_some h1;have m1:=mU k _ _ _ _ e1;have m2:=sJ (mU k) _ _ _ e2;rcases a1i.1 hc with rfl | hc
  ·refine H s c s1 nd hl e1 fun i hi=>?_
   rw [hg i ⟨hi.1,m2 i hi.2⟩,gF,aBr (fun s c s' nd=>aDN k h s c s' nd hk) _ _ _ _ e2 i (fun q=>q.1 hi.2)]
  ·exact aGZ hk H cs s1 s' _ ((wG _ _ _ _ _).trans hl) e2 (fun i hi=>hg i ⟨fun h=>hi.1 (m1 i h),hi.2⟩) c hc
theorem aFO {p:AI} {g:AH}:∀ (k h:Nat) (s:VS) (c:C3) (s':VS) (nd:List Aj),k<=h->nd.length=p.AD.length->vis p k s c.1 c.2.2=some s'->(∀ i,jC s s' i->idx g.AD i=idx (put p h c.1 c.2.1 c.2.2 nd) i)->gJ p g k c.1 c.2.1 c.2.2
 | 0,_,_,_,_,_,_,_,_,_=>by rw [gJ];trivial
 | k+1,0,_,_,_,_,h,_,_,_=>by omega
 | k+1,h+1,s,c,s',nd,hk,hl,hv,hg=>by
  obtain⟨x,ex,hn,_,_,hv⟩:=yI hv;have hm:=sJ (mU k) _ _ _ hv;rw [<- aBK (list:=c.2.1) (w:=bH p c.1)]at hv;have hx:=eT ex;rw [gJ];refine⟨x,ex,?_,aGZ (h:=h) (by omega) (fun s c s' nd hl=>aFO k h s c s' nd (by omega) hl) _ _ _ (nd.set c.1.toNat (yOf x c.2.1 (bH p c.1))) (by rw [a0Z];exact hl) hv fun i hi=>?_⟩
  ·rw [hg c.1 ⟨by rw [hn];simp,hm _ (by rw [lO hn,a2f rfl])⟩,aDm ex,aBr (fun s c s' nd=>aDN k h s c s' nd (by omega)) _ _ _ _ hv c.1 (fun q=>q.1 (by rw [lO hn,a2f rfl])),sN hx.1 (by rw [hl];exact hx.2)]
  ·rw [<- aDm ex];exact hg i ⟨fun h=>hi.1 (by rw [lO hn];split<;>first|rfl|exact h),hi.2⟩
theorem aCh {g:FS->Int->List Int->Int->Option FS}:∀ (l m:List (Option (Int × List Int × Int))) (s:FS),fB g s (l++m)=(fB g s l).bind fun s=>fB g s m
 | [],m,s=>rfl
 | none :: l,m,s=>rfl
 | some t :: l,m,s=>by
  simp only [a0w,fB];cases g s t.1 t.2.1 t.2.2 with
  | none=>rfl
  | some s1=>exact aCh l m s1
theorem aDk {d:AO}:own d=(dV d:Int):=by unfold own dV;omega
theorem inner_eq {f:AH} {p:AI} {g:FS->Int->List Int->Int->Option FS} {s:FS} {y:Aj} {x:AW} {list tk:List Int} {z:Int} (hd:f.AE=p.AE) (ho:y.Op=x.Op) (hn:x.Op=4->y.N=x.N) (hk:y.AM=x.AM) (hok:x.Op=4->∃ d,idx p.AE x.N=some d/\okD d=true):
 mR false f g s y list tk z=fB g s ((cs3 p x list z tk).map some):=by
 unfold mR cs3 fD fK
 rw [ho,hd,hk]
 by_cases h:x.Op=4
 ·obtain⟨d,ed,okd⟩:=hok h;rw [a2f h,a2f h,a2f h,hn h,ed,bsm,a2f (by intro q;cases q)];dsimp only
  have hr:d.AP.map (rV false d (tk++upto z (dV d)) (z+dV d))=(fR d z (insW tk z d)).map some:=by
   rw [fR,a1d];refine a1b fun r hr=>?_
   rw [aDs,aCQ ((gU okd).2.2.2.2 r hr).2,bsm];simp only [Function.comp_def,insW,aDk,a0r]
  have hs:(d.AR.map fun p=>some (p.AV,tk++upto z (dV d),z+(dV d:Int)))=(fS d z (insW tk z d)).map some:=by
   rw [fS,a1d];refine a1b fun r hr=>?_
   simp only [Function.comp_def,insW,aDk,a0r]
  rw [hr,hs,a1a,a1a,aCh,aCh,Option.bind_assoc];simp only [a1d,Function.comp_def,aDk,a0r]
 ·rw [a2e h,a2e h,a2e h,a1p,a1d];simp only [Function.comp_def,iG,ho]
open Go.SX Go.SW Go.Dt
structure Lo (p:AI) (list:List Int) (n z:Int):Prop where
 srt:Srt list
 bnd:∀ i∈list,0<=i/\i<z
 has:∀ i∈bO p n,i∈list
theorem sT {z i:Int} {k:Nat}:i∈upto z k ↔ z<=i/\i<z+k:=by
 simp only [upto,a1k,a1n]
 constructor
 ·rintro⟨j,hj,rfl⟩;omega
 ·intro h;exact⟨(i - z).toNat,by omega,by omega⟩
theorem aGd {z:Int}:∀ k,Srt (upto z k)
 | 0=>by simp [upto]
 | k+1=>by
  rw [aFY];refine a1s.2 ⟨aGd k,by simp,fun a ha b hb=>?_⟩
  have:=sT.1 ha;simp only [a1o]at hb;omega
theorem aDu {l:List Int} {z:Int} {k:Nat} (h0:0<=z) (h:Srt l) (hb:∀ i∈l,0<=i/\i<z):Srt (l++upto z k)/\∀ i∈l++upto z k,0<=i/\i<z+k:=by
 refine⟨a1s.2 ⟨h,aGd k,fun a ha b hb'=>?_⟩,fun i hi=>?_⟩
 ·have:=hb a ha;have:=sT.1 hb';omega
 ·rcases a1f.1 hi with q | q
  ·have:=hb i q;omega
  ·have:=sT.1 q;omega
theorem aHN {b:Int}:∀ (w:List Int) (q:Option Int),Srt w->(∀ i∈w,0<=i/\i<b)->(∀ a,q=some a->∀ i∈w,a<i)->dN b q w=true
 | [],q,_,_,_=>by cases q <;> rfl
 | i :: w,q,h,hm,hq=>by
  obtain⟨h1,h2⟩:=a1t.1 h;have ih:=aHN w (some i) h2 (fun a ha=>hm a (.tail _ ha)) (fun a ha b hb=>by cases ha;exact h1 b hb)
  rw [aGS,ih,Bool.and_true,a2c (hm i (.head _)),a0p];cases q with
  | none=>rfl
  | some a=>exact a2c (hq a rfl i (.head _))
variable {p:AI} {vs:VS} {rk:Int->Nat}
theorem Cx.isNeed (C:Cx p vs rk) {n:Int} {x:AW} {z:Int} (K:Nd p vs rk n x z):tC p n z (bO p n):=by
 have hn:=eT K.g.node
 obtain⟨_,w,G',_,N⟩:=C.need hn.1 hn.2
 have e:=G'.size
 rw [K.g.size]at e;cases e
 exact N.is
theorem Cx.need_kid (C:Cx p vs rk) {n:Int} {x:AW} {z:Int} (K:Nd p vs rk n x z) {m:Int} (hm:m∈kd p x) {i:Int} (hi:i∈bO p m) (h:i<z):i∈bO p n:=by
 obtain⟨w,hw⟩:=uN (z:=z) hm
 obtain⟨_,y,K'⟩:=C.child K.g hw
 have q:=((C.isNeed K').2 i).1 hi
 exact((C.isNeed K).2 i).2 ⟨q.1,h,(aBZ K.g.node).2 (.inr ⟨m,hm,q.2.2⟩)⟩
theorem Cx.name_need (C:Cx p vs rk) {n:Int} {x:AW} {z:Int} (K:Nd p vs rk n x z) {i:Int} (hi:i∈nmN x):i∈bO p n:=
 ((C.isNeed K).2 i).2 ⟨(K.g.ok.names i hi).1,(K.g.ok.names i hi).2,(aBZ K.g.node).2 (.inl hi)⟩
theorem dks_kd {x:AW} {d:AO} (o4:x.Op=4) (ed:idx p.AE x.N=some d) {m:Int} (h:m∈dks d):m∈kd p x:=by
 unfold kd
 rw [a2f o4,ed]
 exact a1g _ h
theorem Cx.isWant (C:Cx p vs rk) {n:Int} {x:AW} {z:Int} (K:Nd p vs rk n x z):Srt (bH p n)/\(∀ i∈bH p n,i∈bO p n)/\∀ i∈bH p n,0<=i/\i<z:=by
 have nb:∀ i∈bO p n,0<=i/\i<z:=fun i hi=>⟨(((C.isNeed K).2 i).1 hi).1,(((C.isNeed K).2 i).1 hi).2.1⟩
 by_cases o4:x.Op=4
 ·obtain⟨d,ed,okd,_,iw⟩:=aBf C K.g K.z6 o4;refine⟨iw.1,fun i hi=>?_,fun i hi=>⟨((iw.2 i).1 hi).1,((iw.2 i).1 hi).2.1⟩⟩
  obtain⟨_,h2,m,hm,h3⟩:=(iw.2 i).1 hi;exact C.need_kid K (dks_kd o4 ed hm) h3 h2
 ·rw [(yJ C K.g o4).2];exact⟨(C.isNeed K).1,fun i h=>h,nb⟩
theorem Cx.lo (C:Cx p vs rk) {n:Int} {x:AW} {z:Int} (K:Nd p vs rk n x z) {list:List Int} (L:Lo p list n z) {c:C3} (hc:c∈cs3 p x list z (bH p n)):Lo p c.2.1 c.1 c.2.2/\∃ y,Nd p vs rk c.1 y c.2.2:=by
 have h0:=K.g.pos
 obtain⟨w1,w2,w3⟩:=C.isWant K
 have hcd:c2 c∈gE p x z:=by rw [<- aBK (list:=list) (w:=bH p n)];exact a1l hc
 obtain⟨_,y,K'⟩:=C.child K.g hcd
 have nb:∀ i∈bO p c.1,0<=i/\i<c.2.2:=fun i hi=>⟨(((C.isNeed K').2 i).1 hi).1,(((C.isNeed K').2 i).1 hi).2.1⟩
 refine⟨?_,y,K'⟩
 clear K' hcd
 unfold cs3 fD fK at hc
 by_cases o4:x.Op=4
 ·obtain⟨d,ed,okd,_,iw⟩:=aBf C K.g K.z6 o4;rw [a2f o4,a2f o4,ed]at hc;have ho:0<=own d:=by unfold own;omega
  have e1:=aDu (k:=(own d).toNat) h0 w1 w3;have inw:∀ m∈Go.Proofs.YtgidgoahhepmlaaGreat.dks d,∀ i∈bO p m,0<=i->i<z->i∈bH p n:=fun m hm i hi h1 h2=>(iw.2 i).2 ⟨h1,h2,m,hm,hi⟩
  simp only [a1f,fR,fS,a1k]at hc;rcases hc with(⟨r,hr,rfl⟩ | ⟨y',hy,rfl⟩) | ⟨k,hk,rfl⟩
  ·have hb:=wK ((gU okd).2.2.2.2 r hr).2;have e2:=aDu (k:=(brs d.AN r.AY).toNat) (z:=z+own d) (by omega) (l:=insW (bH p n) z d) e1.1 (fun i hi=>by have:=e1.2 i hi;omega)
   refine⟨e2.1,fun i hi=>by have:=e2.2 i hi;dsimp only;omega,fun i hi=>?_⟩
   have b:=nb i hi;dsimp only at b hi ⊢
   by_cases hz:i<z
   ·exact a1g _ (a1g _ (inw r.AV (a1g _ (a1k.2 ⟨r,hr,rfl⟩)) i hi b.1 hz))
   ·by_cases hz2:i<z+own d
    ·exact a1g _ (a1h _ (sT.2 (by omega)))
    ·exact a1h _ (sT.2 (by omega))
  ·refine⟨e1.1,fun i hi=>by have:=e1.2 i hi;dsimp only;omega,fun i hi=>?_⟩
   have b:=nb i hi;dsimp only at b hi ⊢
   by_cases hz:i<z
   ·exact a1g _ (inw y'.AV (a1h _ (a1k.2 ⟨y',hy,rfl⟩)) i hi b.1 hz)
   ·exact a1h _ (sT.2 (by omega))
  ·have e3:=aDu (k:=(own d).toNat) h0 L.srt L.bnd;refine⟨e3.1,fun i hi=>by have:=e3.2 i hi;dsimp only;omega,fun i hi=>?_⟩
   have b:=nb i hi;dsimp only at b hi ⊢
   by_cases hz:i<z
   ·exact a1g _ (L.has i (C.need_kid K (by unfold kd;rw [a2f o4,ed];exact a1h _ hk) hi hz))
   ·exact a1h _ (sT.2 (by omega))
 ·rw [a2e o4,a2e o4,a1p]at hc;have ew:=(yJ C K.g o4).2;obtain⟨k,hk,rfl⟩:=a1k.1 hc;have hkd:k∈kd p x:=by unfold kd;rw [a2e o4];exact hk
  have hs:∀ i∈bO p k,i∈bO p n:=fun i hi=>C.need_kid K hkd hi (nb i hi).2
  dsimp only
  split
  ·exact⟨w1,w3,fun i hi=>by rw [ew];exact hs i hi⟩
  ·exact⟨L.srt,L.bnd,fun i hi=>L.has i (hs i hi)⟩
theorem Cx.op_back (C:Cx p vs rk) {n:Int} {x:AW} {z:Int} (K:Nd p vs rk n x z) {list:List Int} (L:Lo p list n z):opN (yOf x list (bH p n)) list (if eU x.Op=true then bH p n else [])=some x:=by
 have hi:∀ i∈nmN x,i∈list:=fun i hi=>L.has i (C.name_need K hi)
 have ha:opL list (flL list x.AU)=some x.AU:=op_fl.2 _ fun i h=>hi i (a1h _ h)
 have hm:opI (yOf x list (bH p n)) list (if eU x.Op=true then bH p n else [])=some x.N:=by
  unfold opI yOf yN;dsimp only
  by_cases o2:x.Op=2
  ·rw [a2f o2,a2e (by omega),a2f o2];exact aBJ (hi _ (a1g _ (by unfold nmO;rw [a2f (.inl o2)];exact .head _)))
  ·by_cases o6:x.Op=6\/x.Op=8
   ·have ot:eU x.Op=true:=a2c (by omega)
    have o4:x.Op≠4:=by omega
    rw [a2e o2,a2f o6,a2f o6,a2f ot,(yJ C K.g o4).2];exact aBJ (C.name_need K (a1g _ (by unfold nmO;rw [a2f (.inr o6)];exact .head _)))
   ·rw [a2e o2,a2e o6,a2e o6,a2e o2]
 unfold opN
 rw [hm,bsm]
 show((opL list (flL list x.AU)).bind fun a=>some (⟨x.Op,x.N,a,x.AM⟩:AW))=some x
 rw [ha,bsm]
structure Rk (p:AI) (s s':VS) (t t':FS):Prop where
 AZ:t'.AZ=s'.AT
 new:∀ i x,jC s s' i->idx p.AD i=some x->idx t'.nd i=some x/\idx t'.Ab i=some (if eU x.Op=true then bH p i else [])
 old:∀ i,¬ jC s s' i->idx t'.nd i=idx t.nd i/\idx t'.Ab i=idx t.Ab i
theorem aE3 {g:AH} {k:Nat} (H:∀ (s:VS) (c:C3) (s':VS) (x:AW) (t:FS),vis p k s c.1 c.2.2=some s'->Nd p vs rk c.1 x c.2.2->gJ p g k c.1 c.2.1 c.2.2->Lo p c.2.1 c.1 c.2.2->WF g t->t.AZ=s.AT->∃ t',dC false g k t c.1 c.2.1 c.2.2=some t'/\WF g t'/\Rk p s s' t t'):
 ∀ (cs:List C3) (s s':VS) (t:FS),(∀ c∈cs,(Lo p c.2.1 c.1 c.2.2/\∃ y,Nd p vs rk c.1 y c.2.2)/\gJ p g k c.1 c.2.1 c.2.2)->cO (vis p k) s (cs.map c2)=some s'->WF g t->t.AZ=s.AT->∃ t',fB (dC false g k) t (cs.map some)=some t'/\WF g t'/\Rk p s s' t t'
 | [],s,s',t,_,h,hw,hs=>by cases h;exact⟨t,rfl,hw,hs,fun i x h=>absurd h.2 h.1,fun i _=>⟨rfl,rfl⟩⟩
 | c :: cs,s,s',t,hc,h,hw,hs=>by
  obtain⟨s1,e1,e2⟩:=bind_some h;obtain⟨⟨L,y,K⟩,hf⟩:=hc c (.head _);obtain⟨t1,f1,w1,r1⟩:=H s c s1 y t e1 K hf L hw hs;obtain⟨t2,f2,w2,r2⟩:=aE3 H cs s1 s' t1 (fun c h=>hc c (.tail _ h)) e2 w1 r1.AZ
  have m1:=mU k _ _ _ _ e1;have m2:=sJ (mU k) _ _ _ e2;refine⟨t2,by rw [a1c,fB,f1,bsm];exact f2,w2,r2.AZ,fun i x hi ex=>?_,fun i hi=>?_⟩
  ·by_cases q:jC s1 s' i
   ·exact r2.new i x q ex
   ·have o:=r2.old i q;have n1:jC s s1 i:=⟨hi.1,Classical.byContradiction fun h=>q ⟨h,hi.2⟩⟩
    rw [o.1,o.2];exact r1.new i x n1 ex
  ·have o2:=r2.old i (fun q=>hi ⟨fun h=>q.1 (m1 i h),q.2⟩)
   have o1:=r1.old i (fun q=>hi ⟨q.1,m2 i q.2⟩)
   exact⟨o2.1.trans o1.1,o2.2.trans o1.2⟩
theorem run_g (C:Cx p vs rk) {g:AH} (hd:g.AE=p.AE) (hl:g.AD.length=p.AD.length):∀ (k:Nat) (s:VS) (c:C3) (s':VS) (x:AW) (t:FS),vis p k s c.1 c.2.2=some s'->Nd p vs rk c.1 x c.2.2->gJ p g k c.1 c.2.1 c.2.2->Lo p c.2.1 c.1 c.2.2->WF g t->t.AZ=s.AT->∃ t',dC false g k t c.1 c.2.1 c.2.2=some t'/\WF g t'/\Rk p s s' t t'
 | 0,s,c,s',x,t,h,_,_,_,_,_=>by simp [vis]at h
 | k+1,s,⟨n,list,z⟩,s',x,t,hv,K,hf,L,hw,hs=>by
  dsimp only at hv K hf L ⊢
  obtain⟨x',ex,hn,hok,hdef,hv⟩:=yI hv;have e:=K.g.node;rw [ex]at e;cases e
  rw [gJ]at hf;obtain⟨x'',ex'',eg,hc⟩:=hf;rw [ex]at ex'';cases ex''
  obtain⟨w1,w2,w3⟩:=C.isWant K;have hwl:∀ i∈bH p n,i∈list:=fun i hi=>L.has i (w2 i hi)
  have hnl:=eT ex;have htk:pick list (yT x list (bH p n))=if eU x.Op=true then bH p n else []:=by
   unfold yT;split
   ·exact pick_fnd hwl
   ·rfl
  have hnode:yY false (yOf x list (bH p n)) list:=by
   refine⟨⟨?_,?_⟩,fun h=>by cases h⟩
   ·show eU x.Op=true\/yT x list (bH p n)=[]
    by_cases ht:eU x.Op=true
    ·exact .inl ht
    ·exact .inr (by unfold yT;rw [a2e ht])
   ·show dN list.length none (yT x list (bH p n))=true
    unfold yT;split
    ·exact aGA L.srt _ _ w1 hwl (fun a h=>by cases h)
    ·rfl
  rw [<- aBK (list:=list) (w:=bH p n)]at hv;obtain⟨t',f',w',r'⟩:=aE3 (run_g C hd hl k) (cs3 p x list z (bH p n)) _ s' (t.put n list (if eU x.Op=true then bH p n else []) x) (fun c h=>⟨C.lo K L h,hc c h⟩) hv hw.put (by simp only [FS.put,mark,hs])
  have hm:=sJ (mU k) _ _ _ hv;have hnm:idx s'.AT n=some true:=hm n (by rw [lO hn,a2f rfl])
  have hnn:jC s s' n:=⟨by rw [hn];simp,hnm⟩
  have hni:¬ jC (mark s n z x) s' n:=fun q=>q.1 (by rw [lO hn,a2f rfl])
  refine⟨t',?_,w',r'.AZ,fun i y hi ey=>?_,fun i hi=>?_⟩
  ·rw [dC,a2f ⟨hnl.1,by rw [hl];exact hnl.2,by rw [hs];exact hn⟩,eg,bsm,a2f hnode,show(yOf x list (bH p n)).AQ=yT x list (bH p n)from rfl,htk,C.op_back K L,bsm,inner_eq hd rfl (fun o=>by show yN x list (bH p n)=x.N;unfold yN;rw [a2e (by omega),a2e (by omega)]) rfl hdef,cs3_w (w':=bH p n) (fun h=>by rw [a2f h])]
   exact f'
  ·by_cases hin:i=n
   ·subst hin;rw [ex]at ey;cases ey
    obtain⟨o1,o2⟩:=r'.old i hni;rw [o1,o2];exact⟨sN hnl.1 (by rw [hw.nd,hl];exact hnl.2),sN hnl.1 (by rw [hw.Ab,hl];exact hnl.2)⟩
   ·exact r'.new i y ⟨by rw [lO hn,a2e hin];exact hi.1,hi.2⟩ ey
  ·have hin:i≠n:=fun e=>hi (by rw [e];exact hnn)
   obtain⟨o1,o2⟩:=r'.old i (fun q=>hi ⟨by have:=q.1;rwa [lO hn,a2e hin]at this,q.2⟩)
   rw [o1,o2];exact⟨sL hnl.1 hin,sL hnl.1 hin⟩
theorem Cx.back (C:Cx p vs rk):∃ t,iQ false (eJ p)=some t/\gG (eJ p) t=p/\∀ i x,idx p.AD i=some x->idx t.Ab i=some (if eU x.Op=true then bH p i else []):=by
 have hc:=C.chk_
 unfold dZ at hc
 split at hc
 ·obtain⟨s1,hv,hc⟩:=bind_some hc;split at hc
  ·rename_i hall;cases hc;obtain⟨x,K,hr,N⟩:=C.main;have hgl:(eJ p).AD.length=p.AD.length:=by show(put _ _ _ _ _ _).length=_;rw [wG];simp
   have hf:gJ p (eJ p) p.AD.length p.AG (bO p p.AG) p.AF.length:=aFO p.AD.length 60 (start p) (p.AG,bO p p.AG,(p.AF.length:Int)) vs (List.replicate p.AD.length rX) C.fm.n60 (by simp) hv (fun i _=>rfl)
   have nb:∀ i∈bO p p.AG,0<=i/\i<(p.AF.length:Int):=fun i hi=>⟨((N.is.2 i).1 hi).1,((N.is.2 i).1 hi).2.1⟩
   obtain⟨t,e,w,r⟩:=run_g C (g:=eJ p) rfl hgl p.AD.length (start p) (p.AG,bO p p.AG,(p.AF.length:Int)) vs x (iA (eJ p)) hv K hf ⟨N.is.1,nb,fun i h=>h⟩ aFQ (by simp only [iA,start,hgl])
   have all:∀ i x,idx p.AD i=some x->jC (start p) vs i:=fun i x hi=>by
    have hl:=eT hi;refine⟨fun h=>?_,?_⟩
    ·have:=gI h;simp [start]at this
    ·obtain⟨b,hb⟩:=fT (xs:=vs.AT) hl.1 (by rw [<- r.AZ,w.AZ,hgl];exact hl.2)
     rw [hb,show b=true from a0t.1 hall.1 b (gI hb)]
   have hnd:t.nd=p.AD:=by
    refine a0A fun i=>?_
    by_cases h:i<p.AD.length
    ·have hx:idx p.AD (i:Int)=some p.AD[i]:=jU (a0I h);have:=eF (r.new i _ (all i _ hx) hx).1;rw [a0r]at this;rw [this,a0I h]
    ·rw [a0J (by rw [w.nd,hgl];omega),a0J (by omega)]
   have hop:gG (eJ p) t=p:=by show(⟨p.AF,t.nd,p.AE,p.AG⟩:AI)=p;rw [hnd]
   refine⟨t,?_,hop,fun i x ex=>(r.new i x (all i x ex) ex).2⟩
   unfold iQ;rw [aCr ⟨⟨by rw [hgl];exact C.fm.n60,C.fm.f12,C.fm.d12⟩,aHN _ _ N.is.1 nb (fun a h=>by cases h)⟩,hgl,show dC false (eJ p) p.AD.length (iA (eJ p)) (eJ p).AG (eJ p).AQ (eJ p).AF.length=some t from e,bsm,hop,C.chk_]
   rfl
  ·cases hc
 ·cases hc
open Go.SX Go.SW Go.Dt
def sp1 (w l:List Int):Nat:=l.countP fun i=>decide (fnd w i<0)
theorem aFA {w:List Int} {e:Int} {l:List Int}:sp1 w (e :: l)=sp1 w l+if fnd w e<0 then 1 else 0:=by
 unfold sp1
 rw [List.countP_cons]
 simp only [a2d]
theorem sp1_le {w:List Int}:∀ {l:List Int},sp1 w l<=l.length:=List.countP_le_length
theorem aLq {AA:Nat} {n:Int} {w:List Int} {g:aL Int (List Int)} (hg:g.get n=some w) (hf:w.length<AA) (hw:w.length<=900000000) (AC:List Int):∀ (AB:List Int) (k:Nat) (acc:Int),AC.length<k->AB.length+AC.length<=900000000->0<=acc->acc+AC.length<=900000000 ->
 oV AA n (AB++AC) g k AB.length acc=some (acc+(sp1 w AC:Int)):=by
 induction AC with
 | nil=>
  intro AB k acc hk _ _ _;obtain _ | k:=k
  ·omega
  rw [oV,a2e (by simp)];simp [sp1]
 | cons e AC ih=>
  intro AB k acc hk hB h0 hA;obtain _ | k:=k
  ·omega
  simp only [a0U]at hk hB hA;rw [oV,a2f (bA _ _ _),bC,bsm,hg,a1S,zQ hf hw,bsm,aFA];by_cases h:fnd w e<0
  ·rw [a2f h,a2f h,aQ (by omega),bsm,bsm,aQ (by omega),bsm,bJ,aV,ih (AB++[e]) k (acc+1) (by omega) (by simp;omega) (by omega) (by omega)];congr 1;omega
  ·rw [a2e h,a2e h,bsm,aQ (by omega),bsm,bJ,aV,ih (AB++[e]) k acc (by omega) (by simp;omega) (by omega) (by omega)];congr 1
theorem aGf {AA:Nat} {n:Int} {w l:List Int} {g:aL Int (List Int)} {acc:Int} (hg:g.get n=some w) (hf:1000000<AA) (hw:w.length<=1000000) (hl:l.length<=1000000) (h0:0<=acc) (ha:acc<=800000000):sY AA n l g acc=some (acc+(sp1 w l:Int)):=by
 have:=aLq (AA:=AA) hg (by omega) (by omega) l [] AA acc (by omega) (by simp;omega) h0 (by omega)
 simp only [a1p,a0Y,a0q]at this
 rw [sY,this]
def spN (wf tk:Int->List Int):List Aj->Int->Int
 | [],_=>0
 | y :: l,i=>(if eU y.Op=true then(sp1 (wf i) (tk i):Int) else 0)+spN wf tk l (i+1)
theorem aIx {f:AH} {v:Ae} {g:aL Int (List Int)} {e0:Int} {wf tk:Int->List Int}
 (hw:∀ i y,idx f.AD i=some y->eU y.Op=true->idx v.Ab i=some (tk i)/\g.get i=some (wf i)/\(wf i).length<=1000000/\(tk i).length<=1000000) (AC:List Aj):
 ∀ (AB:List Aj) (k:Nat) (acc:Int),f.AD=AB++AC->AC.length<k->AB.length+AC.length<=60->0<=acc->acc+1000000*AC.length<=100000000->oM F f v (g,e0) k AB.length acc=some (acc+spN wf tk AC AB.length):=by
 induction AC with
 | nil=>
  intro AB k acc he hk _ _ _;obtain _ | k:=k
  ·omega
  rw [oM,he,a2e (by simp),spN,Int.add_zero]
 | cons e AC ih=>
  intro AB k acc he hk hB h0 hA;obtain _ | k:=k
  ·omega
  simp only [a0U]at hk hB hA;have hi:idx f.AD (AB.length:Int)=some e:=by rw [he];exact bC _ _ _
  rw [oM,a2f (by rw [he];exact bA _ _ _),hi,bsm,aCG,bsm,spN];by_cases ht:eU e.Op=true
  ·obtain⟨h1,h2,h3,h4⟩:=hw _ _ hi ht;have:=sp1_le (w:=wf AB.length) (l:=tk AB.length);rw [ht,a2a,a2f rfl,h1,bsm,aGf h2 (by decide) h3 h4 h0 (by omega),bsm,bsm,aQ (by omega),bsm,aV AB e,ih (AB++[e]) k (acc+(sp1 (wf AB.length) (tk AB.length):Int)) (by rw [he];simp) (by omega) (by simp;omega) (by omega) (by omega)];congr 1;omega
  ·rw [Bool.not_eq_true]at ht;rw [ht,a1Z,a2e (by decide),bsm,aQ (by omega),bsm,aV AB e,ih (AB++[e]) k acc (by rw [he];simp) (by omega) (by simp;omega) h0 (by omega)];congr 1;omega
theorem open_S {f:AH} (hm:SmF f) {s:FS} (ha:iQ false f=some s):xI F f=some (gG f s,0):=by
 rw [xI,show(⟨f.AF,f.AQ,f.AD,f.AE,f.AG⟩:AH)=f from rfl,aCw hm,ha,bsm]
 rfl
theorem check_S {f:AH} (hm:SmF f) {s:FS} (ha:iQ false f=some s):xN F f=some 0:=by
 rw [xN,show(⟨f.AF,f.AQ,f.AD,f.AE,f.AG⟩:AH)=f from rfl,aCw hm,ha,bsm]
 rfl
theorem spare_S {f:AH} (hm:SmF f) {s:FS} (ha:iQ false f=some s) {vs:VS} {rk:Int->Nat} (C:Cx (gG f s) vs rk) (hn:f.AD.length<=60) (ht:f.AQ.length<=1000000) (hd:(bO (gG f s) f.AG).length<=1000000)
 {tk:Int->List Int} (hw:∀ i y,idx f.AD i=some y->eU y.Op=true->idx s.Ab i=some (tk i)/\(bH (gG f s) i).length<=1000000/\(tk i).length<=1000000) (hnl:(gG f s).AD.length=f.AD.length):
 aAa F f=some ((sp1 (bO (gG f s) f.AG) f.AQ:Int)+spN (bH (gG f s)) tk f.AD 0,0):=by
 obtain⟨g,e1,ha1,hm1⟩:=aGB C
 have hs:=sp1_le (w:=bO (gG f s) f.AG) (l:=f.AQ)
 have e2:sY F (-1) f.AQ g 0=some (0+(sp1 (bO (gG f s) f.AG) f.AQ:Int)):=aGf hm1 (by decide) hd ht (by omega) (by omega)
 have e3:=aIx (f:=f) (v:=cvP f s) (g:=g) (e0:=0) (wf:=bH (gG f s)) (tk:=tk) (fun i y hi ht=>by
  obtain⟨h1,h2,h3⟩:=hw i y hi ht;have:=eT hi;exact⟨h1,ha1 i this.1 (by rw [hnl];exact this.2),h2,h3⟩) f.AD [] F (0+(sp1 (bO (gG f s) f.AG) f.AQ:Int)) rfl (by show _<1000000000;omega) (by simp;omega) (by omega) (by omega)
 simp only [a0Y,a0q,Int.zero_add]at e3
 rw [Int.zero_add]at e2
 rw [aAa,show(⟨f.AF,f.AQ,f.AD,f.AE,f.AG⟩:AH)=f from rfl,aCw hm,ha,bsm]
 dsimp only
 rw [Option.isNone_some,a1Z,bsm,show(cvP f s).AK=gG f s from rfl,e1,bsm,a2e (by simp),e2,bsm,e3,bsm]
theorem aCy {w:List Int}:∀ {l:List Int},(∀ i∈l,i∈w)->sp1 w l=0
 | [],_=>rfl
 | e :: l,h=>by
  obtain⟨i,h1,_⟩:=aAH (h e (.head _));rw [aFA,aCy fun i hi=>h i (.tail _ hi),a2e (by omega)]
theorem aHU {wf tk:Int->List Int}:∀ (l:List Aj) (j:Int),(∀ i,∀ a∈tk i,a∈wf i)->spN wf tk l j=0
 | [],_,_=>rfl
 | y :: l,j,h=>by
  rw [spN,aHU l (j+1) h,aCy (h j)];split <;> rfl
theorem aLt (AC:List ByteArray):∀ (AB:List ByteArray) (k:Nat),AC.length<k->AB.length+AC.length<=900000000->oO (AB++AC) (AB++AC) k AB.length=some (.inl ()):=by
 induction AC with
 | nil=>
  intro AB k hk _;obtain _ | k:=k
  ·omega
  rw [oO,a2e (by simp)]
 | cons e AC ih=>
  intro AB k hk hB;obtain _ | k:=k
  ·omega
  simp only [a0U]at hk hB;rw [oO,a2f (bA _ _ _),bC,bsm,bsm,a2e (by simp),aQ (by omega),bsm,bJ,aV];exact ih (AB++[e]) k (by omega) (by simp;omega)
theorem aKg {l:List ByteArray} (h:l.length<=12):xS F l l=some true:=by
 have g:=aLt l [] F (by show _<1000000000;omega) (by simp;omega)
 simp only [a1p,a0Y,a0q]at g
 rw [xS,a2e (by simp),g,bsm]
theorem sxp_loop {rec:AS->AS->Option Bool} {op n:Int} (AC:List AS):∀ (AB:List AS) (k:Nat),AC.length<k->AB.length+AC.length<=900000000->(∀ e∈AC,rec e e=some true)->nN rec ⟨op,n,AB++AC⟩ ⟨op,n,AB++AC⟩ k AB.length=some (.inl ()):=by
 induction AC with
 | nil=>
  intro AB k hk _ _;obtain _ | k:=k
  ·omega
  rw [nN,a2e (by simp)]
 | cons e AC ih=>
  intro AB k hk hB hr;obtain _ | k:=k
  ·omega
  simp only [a0U]at hk hB;rw [nN,a2f (bA _ _ _),bC,bsm,bsm,hr e (.head _),bsm,a2a,aQ (by omega),bsm,bJ,aV];exact ih (AB++[e]) k (by omega) (by simp;omega) (fun x hx=>hr x (.tail _ hx))
theorem sxp (AA:Nat):∀ (e:AS),nE e<AA->nE e<=2000000->mQ AA e e=some true:=by
 induction AA with
 | zero=>intro e h;omega
 | succ AA ih=>
  intro ⟨op,n,ks⟩ hf hB
  simp only [nE]at hf hB;have hlen:=mT ks;have e1:=sxp_loop (rec:=mQ AA) (op:=op) (n:=n) ks [] AA (by omega) (by simp;omega) (fun e he=>ih e (by have:=gK he;omega) (by have:=gK he;omega))
  simp only [a1p,a0Y,a0q]at e1;rw [mQ,a2e (by simp),a2e (by simp),a2e (by simp),e1,bsm]
theorem aJt {op n:Int} {ks:List Int} (AC:List AS):∀ (AB:List AS) (k:Nat),AC.length<k->AB.length+AC.length<=900000000->(∀ e∈AC,nE e<=60)->oA F ⟨op,n,AB++AC,ks⟩ ⟨op,n,AB++AC,ks⟩ k AB.length=some (.inl ()):=by
 induction AC with
 | nil=>
  intro AB k hk _ _;obtain _ | k:=k
  ·omega
  rw [oA,a2e (by simp)]
 | cons e AC ih=>
  intro AB k hk hB hr;obtain _ | k:=k
  ·omega
  simp only [a0U]at hk hB;have:=hr e (.head _);rw [oA,a2f (bA _ _ _),bC,bsm,bsm,sxp F e (by show _<1000000000;omega) (by omega),bsm,a2a,aQ (by omega),bsm,bJ,aV];exact ih (AB++[e]) k (by omega) (by simp;omega) (fun x hx=>hr x (.tail _ hx))
theorem snode {x:AW} (h1:x.AU.length<=3) (h2:x.AM.length<=2) (h3:∀ e∈x.AU,nE e<=60):wT F x x=some true:=by
 obtain⟨op,n,as_,ks⟩:=x
 dsimp only at h1 h2 h3
 have e1:=aJt (op:=op) (n:=n) (ks:=ks) as_ [] F (by show _<1000000000;omega) (by simp;omega) h3
 simp only [a1p,a0Y,a0q]at e1
 rw [wT,a2e (by simp),a2e (by simp),a2e (by simp)]
 dsimp only
 rw [aAK (by show _<1000000000;omega) (by omega),bsm,a2a,e1,bsm]
theorem sprog1 {p:AI} (AC:List AW):∀ (AB:List AW) (k:Nat),p.AD=AB++AC->AC.length<k->AB.length+AC.length<=900000000->(∀ x∈AC,wT F x x=some true)->qF F p p k AB.length=some (.inl ()):=by
 induction AC with
 | nil=>
  intro AB k he hk _ _;obtain _ | k:=k
  ·omega
  rw [qF,he,a2e (by simp)]
 | cons e AC ih=>
  intro AB k he hk hB hr;obtain _ | k:=k
  ·omega
  simp only [a0U]at hk hB;rw [qF,he,a2f (bA _ _ _),bC,bsm,bsm,hr e (.head _),bsm,a2a,aQ (by omega),bsm,aV AB e];exact ih (AB++[e]) k (by rw [he];simp) (by omega) (by simp;omega) (fun x hx=>hr x (.tail _ hx))
theorem sprog2 {p:AI} (AC:List AO):∀ (AB:List AO) (k:Nat),p.AE=AB++AC->AC.length<k->AB.length+AC.length<=900000000->(∀ d∈AC,okD d=true)->nZ F p p k AB.length=some (.inl ()):=by
 induction AC with
 | nil=>
  intro AB k he hk _ _;obtain _ | k:=k
  ·omega
  rw [nZ,he,a2e (by simp)]
 | cons e AC ih=>
  intro AB k he hk hB hr;obtain _ | k:=k
  ·omega
  simp only [a0U]at hk hB;rw [nZ,he,a2f (bA _ _ _),bC,bsm,bsm,sdef (by decide) (hr e (.head _)),bsm,a2a,aQ (by omega),bsm,aV AB e];exact ih (AB++[e]) k (by rw [he];simp) (by omega) (by simp;omega) (fun x hx=>hr x (.tail _ hx))
variable {p:AI} {vs:VS} {rk:Int->Nat}
theorem Cx.self (C:Cx p vs rk):aAD F p p=some true:=by
 have h60:=C.fm.n60
 have h12:=C.fm.d12
 have e1:=sprog1 (p:=p) p.AD [] F rfl (by show _<1000000000;omega) (by simp;omega) (fun x hx=>by
  obtain⟨i,hi⟩:=a1j.1 hx;have hi:=jU hi;have hl:=eT hi;obtain⟨_,x',z,G,_⟩:=C.fm.good i hl.1 hl.2;have e:=G.node;rw [hi]at e;cases e
  exact snode G.ok.la G.ok.lk G.ok.exps)
 have e2:=sprog2 (p:=p) p.AE [] F rfl (by show _<1000000000;omega) (by simp;omega) C.fm.oks
 simp only [a0Y,a0q]at e1 e2
 rw [aAD,aKg C.fm.f12,bsm,a0o,a1Z,a2e (by simp),a2e (by simp),a2e (by simp),e1,bsm]
 dsimp only
 rw [e2,bsm]
theorem Cx.flat_sm (C:Cx p vs rk):∀ y∈(eJ p).AD,SmN y:=by
 obtain⟨x,K,hr,N⟩:=C.main
 exact aCP C 60 p.AG x p.AF.length (bO p p.AG) (List.replicate p.AD.length rX) K (fun y hy=>by
  rw [List.eq_of_mem_replicate hy];exact⟨by simp [rX],fun e h=>(by cases h),by simp [rX],by simp [rX]⟩)
theorem aCe:(eJ p).AD.length=p.AD.length:=by show(put _ _ _ _ _ _).length=_;rw [wG];simp
theorem Cx.smF (C:Cx p vs rk):SmF (eJ p):=by
 obtain⟨x,K,hr,N⟩:=C.main
 have h12:=C.fm.f12
 have h60:=C.fm.n60
 have hl:=N.len
 refine⟨by rw [aCe];omega,C.sm.Aa,C.sm.free,C.sm.names,fun y hy=>?_,fun y hy=>?_,C.sm.AX,by show(bO p p.AG).length<=_;omega⟩
 ·have S:=C.flat_sm y hy;have h1:=S.la;have h2:=S.lk;exact⟨by omega,by omega,fun e he=>by have:=S.ex e he;omega⟩
 ·have:=(C.flat_sm y hy).lt;omega
theorem aKW {f:AH} {s:FS} (ha:iQ false f=some s) {i:Int} {y:Aj} {x:AW} (hi:idx f.AD i=some y) (hx:idx s.nd i=some x):x.Op=y.Op:=by
 unfold iQ at ha
 obtain⟨t,h1,h2⟩:=bind_some ha
 split at h2
 ·rename_i hk;cases h2;obtain⟨vs,hvs⟩:=Option.isSome_iff_exists.1 hk;rcases(aGv h1).1 i.toNat x (eF hx)with rfl | ⟨y',l,t,e1,e2⟩
  ·obtain⟨s0,z0,ok⟩:=aKq hvs i.toNat wZ (eF hx);exact absurd rfl (aHx ok).2.2.2
  ·rw [eF hi]at e1;cases e1
   unfold opN at e2;obtain⟨m,_,e2⟩:=bind_some e2;obtain⟨a,_,e2⟩:=bind_some e2;cases e2;rfl
 ·cases h2
theorem aJ7 (hm:SmP p) (hc:dZ p=none):tS F p=some (⟨[],[],[],[],0⟩,2):=by
 unfold tS sR
 rw [show(⟨p.AF,p.AD,p.AE,p.AG⟩:AI)=p from rfl,wR,aAi,aAr,show(⟨p.AF,p.AD,p.AE,p.AG⟩:AI)=p from rfl,aB3 hm,bsm,hc]
 rfl
theorem aJ9 {p:AI} (hm:SmP p):aB0 F p=some true:=by
 have hk:aBy=some true:=rfl
 unfold aB0
 rw [show(⟨p.AF,p.AD,p.AE,p.AG⟩:AI)=p from rfl]
 cases hc:dZ p with
 | none=>
  have e3:=aK7 (AA:=F) (by decide) (f:=⟨[],[],[],[],0⟩) (by simp) (by simp) (by simp) (by simp) (fun y h=>by cases h) (fun y h=>by cases h)
  rw [aJ7 hm hc,bsm,aFn hm,hc,bsm,a2f (by decide),a2f rfl];dsimp only
  rw [e3,bsm,a2a,hk,bsm,bsm]
 | some s=>
  obtain⟨rk,fm⟩:=fm_of hc;have C:Cx p s rk:=⟨hm,hc,fm⟩;obtain⟨t,ha,ho,ht⟩:=C.back;obtain⟨x,K,hr,N⟩:=C.main;have hl:=N.len;have h12:=fm.f12;have h60:=fm.n60;have hs:=spare_S C.smF ha (vs:=s) (rk:=rk) (by rw [ho];exact C) (by rw [aCe];exact h60) (by show(bO p p.AG).length<=_;omega) (by rw [ho];show(bO p p.AG).length<=_;omega) (tk:=bH p) (fun i y hi hty=>by
   have hil:=eT hi;rw [aCe]at hil;obtain⟨_,x',z,G,h6⟩:=fm.good i hil.1 hil.2;have hw:=C.want_len ⟨G,h6⟩;have hx:=ht i x' G.node;have hop:=aKW ha hi (x:=x') (by rw [show t.nd=p.AD from congrArg AI.AD ho];exact G.node)
   rw [hop,a2f hty]at hx;rw [ho];exact⟨hx,by omega,by omega⟩) (by rw [ho,aCe])
  have hz:(sp1 (bO p (eJ p).AG) (eJ p).AQ:Int)+spN (bH p) (bH p) (eJ p).AD 0=0:=by
   rw [aCy (w:=bO p (eJ p).AG) (l:=(eJ p).AQ) (fun i h=>h),aHU _ _ (fun _ _ h=>h)];rfl
  rw [ho,hz]at hs;rw [flat_S C,bsm,aFn hm,hc,bsm,a2e (by simp)];rw [show(⟨(eJ p).AF,(eJ p).AQ,(eJ p).AD,(eJ p).AE,(eJ p).AG⟩:AH)=eJ p from rfl,open_S C.smF ha,bsm,hs,bsm,a2f rfl,a2f rfl,a2f rfl,a2f rfl,ho,check_S C.smF ha,bsm,a2f rfl,C.self,bsm,a2a,hk,bsm,bsm]
open Go.SX Go.SW
theorem aJZ {W:World} {a:Addr} {c:Value} (h:W.cell? a=some c):(jO W).cell a=some c:=by
 unfold World.cell? at h
 unfold Mem.cell uQ jO
 cases hb:W.heap[a.block]? with
 | none=>rw [hb]at h;cases h
 | some o=>
  rw [hb]at h;cases o with
  | cells c t fr=>
   dsimp only at h ⊢
   first
    | exact h
    | (cases hs:a.spot with
       | none=>rw [hs]at h;simpa using h
       | some s=>rw [hs]at h;simp at h)
  | _=>cases h
theorem aGa {H:Type} {d:DataW H} {l:List (DataW H)} (h:d∈l):Rows.uptoBulk d<=Rows.uptoBulkAll l:=by
 induction l with
 | nil=>cases h
 | cons x r ih=>
  simp only [Rows.uptoBulkAll];cases h with
  | head=>omega
  | tail _ e=>have:=ih e;omega
theorem bulk_one {H:Type} (d:DataW H):1<=Rows.uptoBulk d:=by
 cases d with
 | lit l=>cases l <;> simp [Rows.uptoBulk]
 | _=>simp [Rows.uptoBulk]
section
variable {H:Type} {enc:TypeId × Value->H} {P:Program} {W:World}
def Rd (enc:TypeId × Value->H) (P:Program) (W:World) (n:Nat) {α:Type} (T:Ty α) (t:TypeId) (μ:α->Nat) (S:α->Prop):Prop:=
 ∀ cs x,DataW.trod enc P W 0 (fun _=>true) true n t cs=some x->Rows.uptoBulk x.1<=1048576->∃ a,aU (T.An a) (jO W) cs/\μ a<=Rows.uptoBulk x.1/\S a
def RdF (enc:TypeId × Value->H) (P:Program) (W:World) (n:Nat) (fs:List Field) (o e:Nat) {β:Type} (L:β->List AJ) (μ:β->Nat) (S:β->Prop):Prop:=
 ∀ (cs:List Value) xs,cs.length=e->(fs.mapM fun f=>DataW.trod enc P W 0 (fun _=>true) true n f.type ((cs.drop f.offset).take (P.cellsOf f.type)))=some xs->Rows.uptoBulkAll (xs.map (·.1))<=1048576->∃ b,aU (L b) (jO W) (cs.drop o)/\μ b<=Rows.uptoBulkAll (xs.map (·.1))/\S b
theorem qB {α:Type} {T:Ty α} {t:TypeId} {μ:α->Nat} {S:α->Prop}:Rd enc P W 0 T t μ S:=fun cs x h=>by cases h
theorem sF {n e:Nat}:RdF enc P W n [] e e (β:=Unit) (fun _=>[]) (fun _=>0) (fun _=>True):=fun cs xs hl h hb=>⟨(),by rw [a0y (by omega)];rfl,a1R _,trivial⟩
theorem aFh {α β:Type} {f:α->Option β} {x:α} {l:List α} {ys:List β} (h:(x :: l).mapM f=some ys):∃ y r,f x=some y/\l.mapM f=some r/\ys=y :: r:=by
 rw [List.mapM_cons]at h
 cases hx:f x with
 | none=>rw [hx]at h;cases h
 | some y=>
  cases hl:l.mapM f with
  | none=>rw [hx,hl]at h;cases h
  | some r=>rw [hx,hl]at h;cases h;exact⟨y,r,rfl,rfl,rfl⟩
theorem fF {n o e:Nat} {f:Field} {fs:List Field} {α β:Type} {T:Ty α} {μ:α->Nat} {S:α->Prop} {L:β->List AJ} {ν:β->Nat} {R:β->Prop} (h:Rd enc P W n T f.type μ S) (ho:f.offset=o) (hz:P.cellsOf f.type=T.sz) (k:RdF enc P W n fs (o+T.sz) e L ν R):
 RdF enc P W n (f :: fs) o e (fun x:α × β=>T.An x.1++L x.2) (fun x=>μ x.1+ν x.2) (fun x=>S x.1/\R x.2):=fun cs xs hl hm hb=>by
 obtain⟨y,r,h1,h2,rfl⟩:=aFh hm
 simp only [a1c,Rows.uptoBulkAll]at hb
 obtain⟨a,a1,a2,a3⟩:=h _ _ h1 (by omega)
 obtain⟨b,b1,b2,b3⟩:=k cs r hl h2 (by omega)
 refine⟨(a,b),?_,by simp only [a1c,Rows.uptoBulkAll];omega,a3,b3⟩
 have:=a1.append b1
 rw [ho,hz,<- List.drop_drop,List.take_append_drop]at this
 exact this
theorem rQ {n e:Nat} {α β:Type} {T:Ty α} {t:TypeId} {fs:Array Field} {μ:α->Nat} {S:α->Prop} {L:β->List AJ} {ν:β->Nat} {R:β->Prop} (mk:β->α) (ht:P.underlying t=some (.struct fs)) (hc:P.cellsOf t=e) (k:RdF enc P W n fs.toList 0 e L ν R)
 (hL:∀ b,T.An (mk b)=L b) (hμ:∀ b,μ (mk b)<=ν b+1) (hS:∀ b,R b->ν b+1<=1048576->S (mk b)):Rd enc P W (n+1) T t μ S:=fun cs x h hb=>by
 rw [DataW.trod_step]at h
 unfold DataW.trodStep at h
 rw [ht]at h
 dsimp only at h
 split at h
 ·rename_i hcs;cases hm:(fs.toList.mapM fun f=>DataW.trod enc P W 0 (fun _=>true) true n f.type ((cs.drop f.offset).take (P.cellsOf f.type)))with
  | none=>rw [hm]at h;cases h
  | some xs=>
   rw [hm]at h;cases h;simp only [Rows.uptoBulk]at hb;obtain⟨b,b1,b2,b3⟩:=k cs xs (by omega) hm (by omega)
   rw [List.drop_zero]at b1;have:=hμ b;refine⟨mk b,by rw [hL];exact b1,by simp only [Rows.uptoBulk];omega,hS b b3 (by omega)⟩
 ·cases h
theorem rd_int {n:Nat} {t:TypeId} {k:IntKind} (ht:P.underlying t=some (.int k)):Rd enc P W n (cH k) t (fun _=>1) (fun i=>(Lit.int k i).wf=true):=fun cs x h hb=>by
 obtain _ | n:=n
 ·cases h
 rw [DataW.trod_step]at h
 unfold DataW.trodStep at h
 rw [ht]at h
 match cs,h with
 | [.int k' i],h=>
  dsimp only at h
  split at h
  ·rename_i hc;obtain⟨rfl,hw⟩:=hc;cases h;exact⟨i,⟨_,[],rfl,rfl,rfl⟩,a1I _,hw⟩
  ·cases h
theorem rd_str {n:Nat} {t:TypeId} (ht:P.underlying t=some .string):Rd enc P W n aD t (fun s=>s.size+1) (fun s=>s.size<=1048576):=fun cs x h hb=>by
 obtain _ | n:=n
 ·cases h
 rw [DataW.trod_step]at h
 unfold DataW.trodStep at h
 rw [ht]at h
 match cs,h with
 | [.string s],h=>
  dsimp only at h
  split at h
  ·cases h;have e:s.data.toList.length=s.size:=rfl;simp only [Rows.uptoBulk]at hb;exact⟨s,⟨_,[],rfl,rfl,rfl⟩,by simp only [Rows.uptoBulk];omega,by omega⟩
  ·cases h
def msum {α:Type} (μ:α->Nat):List α->Nat
 | []=>0
 | a :: l=>μ a+msum μ l
theorem aFI {α:Type} {f:Nat->Option α} {n:Nat} {l:List α} (h:(List.range n).mapM f=some l):l.length=n/\∀ i,i<n->∃ y,l[i]? =some y/\f i=some y:=by
 have g:∀ (ks:List Nat) (l:List α),ks.mapM f=some l->l.length=ks.length/\∀ (i k:Nat),ks[i]? =some k->∃ y,l[i]? =some y/\f k=some y:=fun ks=>by
  induction ks with
  | nil=>intro l h;cases h;exact⟨rfl,fun i k h=>by simp at h⟩
  | cons k ks ih=>
   intro l h;obtain⟨y,r,h1,h2,rfl⟩:=aFh h;obtain⟨a,b⟩:=ih r h2;refine⟨by simp [a],fun i q hq=>?_⟩
   cases i with
   | zero=>simp at hq;subst hq;exact⟨y,rfl,h1⟩
   | succ i=>exact b i q (by simpa using hq)
 obtain⟨a,b⟩:=g _ _ h
 exact⟨by simpa using a,fun i hi=>b i i (by simp [hi])⟩
theorem aJl {W:World} {b z:Nat} {a:Addr} {cs:List Value} (h:W.cells? b a z=some cs):∀ (j:Nat) c,cs[j]? =some c->W.cell? (a.add j)=some c:=by
 unfold World.cells? at h
 split at h
 ·obtain⟨h1,h2⟩:=aFI h;intro j c hj;have:=(a0K.1 hj).1;obtain⟨y,y1,y2⟩:=h2 j (by omega)
  rw [hj]at y1;cases y1;exact y2
 ·cases h
theorem aF3 {α γ:Type} {Q:γ->α->Prop}:∀ (l:List γ),(∀ c∈l,∃ a,Q c a)->∃ r:List α,r.length=l.length/\∀ (i:Nat) c,l[i]? =some c->∃ a,r[i]? =some a/\Q c a
 | [],_=>⟨[],rfl,fun i c h=>by simp at h⟩
 | c :: l,h=>by
  obtain⟨a,ha⟩:=h c (.head _);obtain⟨r,h1,h2⟩:=aF3 l (fun c hc=>h c (.tail _ hc))
  refine⟨a :: r,by simp [h1],fun i q hq=>?_⟩
  cases i with
  | zero=>simp at hq;subst hq;exact⟨a,rfl,ha⟩
  | succ i=>exact h2 i q (by simpa using hq)
theorem aET {α:Type} {μ:α->Nat}:∀ {r:List α} {ds:List (DataW H)},r.length=ds.length->(∀ (i:Nat) d a,ds[i]? =some d->r[i]? =some a->μ a<=Rows.uptoBulk d)->msum μ r<=Rows.uptoBulkAll ds/\r.length<=Rows.uptoBulkAll ds
 | [],[],_,_=>⟨a1R _,a1R _⟩
 | a :: r,d :: ds,hl,h=>by
  obtain⟨h1,h2⟩:=aET (r:=r) (ds:=ds) (by simpa using hl) (fun i d a hd ha=>h (i+1) d a (by simpa using hd) (by simpa using ha))
  have:=h 0 d a rfl rfl;have:=bulk_one d;simp only [msum,Rows.uptoBulkAll,a0U];omega
theorem rd_sl {n:Nat} {t e:TypeId} {α:Type} {T:Ty α} {μ:α->Nat} {S:α->Prop} (ht:P.underlying t=some (.slice e)) (hz:P.cellsOf e=T.sz) (h:Rd enc P W n T e μ S):Rd enc P W (n+1) (tSl T) t (fun l=>msum μ l+1) (fun l=>l.length<=1048576/\∀ a∈l,S a):=fun cs x hx hb=>by
 rw [DataW.trod_step]at hx
 unfold DataW.trodStep at hx
 rw [ht]at hx
 match cs,hx with
 | [.slice none 0 0],hx=>
  cases hx;exact⟨[],⟨_,[],rfl,cW (jO W) _ rfl,rfl⟩,a1I _,by simp,fun a ha=>by cases ha⟩
 | [.slice (some p) len cap],hx=>
  dsimp only at hx
  split at hx
  ·rename_i hc;cases h1:((List.range len).mapM fun i=>(W.cells? 0 (p.add (i*P.cellsOf e)) (P.cellsOf e)).bind (DataW.trod enc P W 0 (fun _=>true) true n e))with
   | none=>rw [h1]at hx;cases hx
   | some es=>
    rw [h1]at hx;obtain⟨rest,_,rfl⟩:=a1T.1 hx;obtain⟨l1,l2⟩:=aFI h1;simp only [Rows.uptoBulk]at hb;have each:∀ y∈es,∃ a,(μ a<=Rows.uptoBulk y.1/\S a)/\∀ i cs',W.cells? 0 (p.add (i*P.cellsOf e)) (P.cellsOf e)=some cs'->DataW.trod enc P W 0 (fun _=>true) true n e cs'=some y->True:=fun y hy=>by
     obtain⟨i,hi,rfl⟩:=List.mem_iff_getElem.1 hy;obtain⟨y,y1,y2⟩:=l2 i (by omega)
     obtain⟨cs',c1,c2⟩:=Option.bind_eq_some_iff.1 y2;have e1:es[i]=y:=by rw [a0I hi]at y1;exact a1V y1
     have m1:Rows.uptoBulk y.1<=Rows.uptoBulkAll (es.map (·.1)):=aGa (a1l (by rw [<- e1];exact a0S _))
     obtain⟨a,a1,a2,a3⟩:=h _ _ c2 (by omega)
     exact⟨a,⟨by rw [e1];exact a2,a3⟩,fun _ _ _ _=>trivial⟩
    have each2:∀ i∈List.range len,∃ a,(∃ y,es[i]? =some y/\μ a<=Rows.uptoBulk y.1)/\S a/\T.at (jO W) (p.add (i*T.sz)) a:=fun i hi=>by
     obtain⟨y,y1,y2⟩:=l2 i (by simpa using hi)
     obtain⟨cs',c1,c2⟩:=Option.bind_eq_some_iff.1 y2;have m1:Rows.uptoBulk y.1<=Rows.uptoBulkAll (es.map (·.1)):=aGa (a1l (a1m y1));obtain⟨a,a1,a2,a3⟩:=h _ _ c2 (by omega)
     exact⟨a,⟨y,y1,a2⟩,a3,cs',a1,fun j c hj=>by rw [<- hz];exact aJZ (aJl c1 j c hj)⟩
    obtain⟨r,r1,r2⟩:=aF3 (List.range len) each2;have rl:r.length=len:=by simpa using r1
    have r3:∀ i,i<len->∃ a,r[i]? =some a/\(∃ y,es[i]? =some y/\μ a<=Rows.uptoBulk y.1)/\S a/\T.at (jO W) (p.add (i*T.sz)) a:=fun i hi=>r2 i i (by simp [hi])
    obtain⟨m1,m2⟩:=aET (μ:=μ) (r:=r) (ds:=es.map (·.1)) (by simp [rl,l1]) (fun i d a hd ha=>by
     obtain⟨a',a1,⟨y,y1,y2⟩,_⟩:=r3 i (by have:=(a0K.1 ha).1;omega)
     rw [ha]at a1;cases a1
     rw [a0L,y1]at hd;cases hd
     exact y2)
    refine⟨r,⟨_,[],rfl,⟨fun i=>p.add (i*T.sz),⟨some p,cap,by rw [rl],by rw [rl];exact hc.2.1,fun i _=>⟨p,rfl,rfl⟩⟩,by omega,fun i a ha=>?_⟩,rfl⟩,by simp only [Rows.uptoBulk];omega,by omega,fun a ha=>?_⟩
    ·obtain⟨a',a1,_,_,a2⟩:=r3 i (by have:=(a0K.1 ha).1;omega)
     rw [ha]at a1;cases a1;exact a2
    ·obtain⟨i,hi,rfl⟩:=List.mem_iff_getElem.1 ha;obtain⟨a',a1,_,a2,_⟩:=r3 i (by omega)
     rw [a0I hi]at a1;cases a1;exact a2
  ·cases hx
theorem Rd.mono {n:Nat} {α:Type} {T:Ty α} {t:TypeId} {μ ν:α->Nat} {S R:α->Prop} (h:Rd enc P W n T t μ S) (hμ:∀ a,ν a<=μ a) (hS:∀ a,S a->μ a<=1048576->R a):Rd enc P W n T t ν R:=fun cs x hx hb=>by
 obtain⟨a,a1,a2,a3⟩:=h cs x hx hb
 exact⟨a,a1,a1J (hμ a) a2,hS a a3 (by omega)⟩
theorem arg_st {α:Type} {T:Ty α} {t:TypeId} {μ:α->Nat} {S:α->Prop} {fs:Array Field} {r:Reach} {b0:Nat} {v:Value} {d:DataW H} {ps:List MemPlace} (h:∀ n,Rd enc P W n T t μ S) (ht:P.underlying t=some (.struct fs)) (hval:Value.okWide P W r b0 t v)
 (hd:DataW.Trod enc P W 0 (fun _=>true) true t v d ps) (hb:Rows.uptoBulk d<=1048576):∃ a,(fSt T a).p (jO W) v/\S a:=by
 unfold Value.okWide at hval
 rw [ht]at hval
 obtain⟨cs,rfl,_⟩:=hval
 obtain⟨n,hn⟩:=hd
 obtain⟨a,a1,_,a2⟩:=h n _ _ hn hb
 exact⟨a,⟨cs.toList,by simp,a1⟩,a2⟩
end
open Go.SX Go.SW Go.Dt
section
variable {H:Type} {enc:TypeId × Value->H} {W:World}
abbrev RdP (enc:TypeId × Value->H) (W:World) (n:Nat) {α:Type} (T:Ty α) (t:TypeId) (μ:α->Nat) (S:α->Prop):Prop:=Rd enc Tryz.prog W n T t μ S
theorem iX (n:Nat) {t:TypeId} (ht:Tryz.prog.underlying t=some (.int .i64)):RdP enc W n (cH .i64) t (fun _=>1) (fun _=>True):=(rd_int ht).mono (fun _=>a1I _) (fun _ _ _=>trivial)
theorem rM {n:Nat} {t e:TypeId} {α:Type} {T:Ty α} {μ:α->Nat} {S:α->Prop} (ht:Tryz.prog.underlying t=some (.slice e)) (hz:Tryz.prog.cellsOf e=T.sz) (h:∀ k,RdP enc W k T e μ S):RdP enc W n (tSl T) t (fun l=>msum μ l+1) (fun l=>l.length<=1048576/\∀ a∈l,S a):=by
 cases n with
 | zero=>exact qB
 | succ n=>exact rd_sl ht hz (h n)
theorem aGN (n:Nat) {t e:TypeId} (ht:Tryz.prog.underlying t=some (.slice e)) (he:Tryz.prog.underlying e=some (.int .i64)) (hz:Tryz.prog.cellsOf e=1):RdP enc W n (tSl (cH .i64)) t (fun _=>0) (fun l=>l.length<=1048576):=
 (rM ht hz (fun k=>iX k he)).mono (fun _=>a1R _) (fun _ h _=>h.1)
theorem zL:∀ l:List AS,nL l=msum nE l
 | []=>rfl
 | a :: l=>by simp only [nL,msum,zL l]
theorem aHe (a b:Int) (c:List AS):aO.An ⟨a,b,c⟩=[aX .i64 a,aX .i64 b,fSl aO c]:=by
 show [_,_,cU c]=_
 rw [eG]
theorem rd_exp:∀ n:Nat,RdP enc W n aO 71 nE (fun e=>nE e<=1048576)
 | 0=>qB
 | 1=>fun cs x h hb=>(rQ (μ:=nE) (S:=fun e=>nE e<=1048576) (T:=aO) (fun b:Int × Int × List AS × Unit=>⟨b.1,b.2.1,b.2.2.1⟩) Tryz.underlying71 (e:=3) (by kernel_rfl)
  (fF (iX 0 Tryz.underlying69) rfl (by kernel_rfl) (fF (iX 0 Tryz.underlying3) rfl (by kernel_rfl) (fF (T:=tSl aO) (μ:=fun l=>msum nE l+1) (S:=fun _=>True) qB rfl (by kernel_rfl) sF)))
  (fun b=>aHe b.1 b.2.1 b.2.2.1) (fun b=>by simp only [nE,zL];omega) (fun b _ hb=>by simp only [nE,zL]at *;omega)) cs x h hb
 | n+2=>fun cs x h hb=>(rQ (μ:=nE) (S:=fun e=>nE e<=1048576) (T:=aO) (fun b:Int × Int × List AS × Unit=>⟨b.1,b.2.1,b.2.2.1⟩) Tryz.underlying71 (e:=3) (by kernel_rfl)
  (fF (iX _ Tryz.underlying69) rfl (by kernel_rfl) (fF (iX _ Tryz.underlying3) rfl (by kernel_rfl) (fF (rd_sl Tryz.underlying52 (by kernel_rfl) (rd_exp n)) rfl (by kernel_rfl) sF)))
  (fun b=>aHe b.1 b.2.1 b.2.2.1) (fun b=>by simp only [nE,zL];omega) (fun b _ hb=>by simp only [nE,zL]at *;omega)) cs x h hb
theorem aLA:∀ n:Nat,RdP enc W n aM 65 (fun _=>0) (fun x=>x.AU.length<=2000000/\x.AM.length<=2000000/\∀ e∈x.AU,nE e<=2000000)
 | 0=>qB
 | n+1=>rQ (T:=aM) (fun b:Int × Int × List AS × List Int × Unit=>⟨b.1,b.2.1,b.2.2.1,b.2.2.2.1⟩) Tryz.underlying65 (e:=4) (by kernel_rfl)
  (fF (iX n Tryz.underlying51) rfl (by kernel_rfl) (fF (iX n Tryz.underlying3) rfl (by kernel_rfl) (fF (rM Tryz.underlying52 (by kernel_rfl) rd_exp) rfl (by kernel_rfl) (fF (aGN n Tryz.underlying27 Tryz.underlying3 (by kernel_rfl)) rfl (by kernel_rfl) sF))))
  (fun _=>rfl) (fun _=>a1R _) (fun b h _=>⟨by have:=h.2.2.1.1;show b.2.2.1.length<=_;omega,by have:=h.2.2.2.1;show b.2.2.2.1.length<=_;omega,fun e he=>a1J (h.2.2.1.2 e he) (by omega)⟩)
theorem aJR:∀ n:Nat,RdP enc W n aW 135 (fun _=>0) (fun _=>True)
 | 0=>qB
 | n+1=>rQ (T:=aW) (fun b:Int × Int × Unit=>⟨b.1,b.2.1⟩) Tryz.underlying135 (e:=2) (by kernel_rfl)
  (fF (iX n Tryz.underlying3) rfl (by kernel_rfl) (fF (iX n Tryz.underlying3) rfl (by kernel_rfl) sF))
  (fun _=>rfl) (fun _=>a1R _) (fun _ _ _=>trivial)
theorem aJB:∀ n:Nat,RdP enc W n bD 84 (fun _=>0) (fun _=>True)
 | 0=>qB
 | n+1=>rQ (T:=bD) (fun b:Int × Int × Unit=>⟨b.1,b.2.1⟩) Tryz.underlying84 (e:=2) (by kernel_rfl)
  (fF (iX n Tryz.underlying3) rfl (by kernel_rfl) (fF (iX n Tryz.underlying3) rfl (by kernel_rfl) sF))
  (fun _=>rfl) (fun _=>a1R _) (fun _ _ _=>trivial)
theorem aJT:∀ n:Nat,RdP enc W n aY 81 (fun _=>0) (fun x=>x.AY.length<=2000000)
 | 0=>qB
 | n+1=>rQ (T:=aY) (fun b:Int × List Int × Int × Unit=>⟨b.1,b.2.1,b.2.2.1⟩) Tryz.underlying81 (e:=3) (by kernel_rfl)
  (fF (iX n Tryz.underlying3) rfl (by kernel_rfl) (fF (aGN n Tryz.underlying27 Tryz.underlying3 (by kernel_rfl)) rfl (by kernel_rfl) (fF (iX n Tryz.underlying3) rfl (by kernel_rfl) sF)))
  (fun _=>rfl) (fun _=>a1R _) (fun b h _=>by have:=h.2.1;show b.2.1.length<=_;omega)
theorem aJK:∀ n:Nat,RdP enc W n aB 77 (fun _=>0) (smD)
 | 0=>qB
 | n+1=>rQ (T:=aB) (fun b:List Aq × List Ao × List Am × Unit=>⟨b.1,b.2.1,b.2.2.1⟩) Tryz.underlying77 (e:=3) (by kernel_rfl)
  (fF (rM Tryz.underlying73 (by kernel_rfl) aJR) rfl (by kernel_rfl) (fF (rM Tryz.underlying74 (by kernel_rfl) aJB) rfl (by kernel_rfl) (fF (rM Tryz.underlying75 (by kernel_rfl) aJT) rfl (by kernel_rfl) sF)))
  (fun _=>rfl) (fun _=>a1R _) (fun b h _=>⟨by have:=h.1.1;show b.1.length<=_;omega,by have:=h.2.1.1;show b.2.1.length<=_;omega,by have:=h.2.2.1.1;show b.2.2.1.length<=_;omega,h.2.2.1.2⟩)
theorem aIM:∀ n:Nat,RdP enc W n cN 26 (fun _=>0) (SmP)
 | 0=>qB
 | n+1=>rQ (T:=cN) (fun b:List ByteArray × List AW × List AO × Int × Unit=>⟨b.1,b.2.1,b.2.2.1,b.2.2.2.1⟩) Tryz.underlying26 (e:=4) (by kernel_rfl)
  (fF (rM (S:=fun s:ByteArray=>s.size<=1048576) Tryz.underlying22 (by kernel_rfl) (fun k=>(rd_str (n:=k) Tryz.underlying9))) rfl (by kernel_rfl) (fF (rM Tryz.underlying23 (by kernel_rfl) aLA) rfl (by kernel_rfl) (fF (rM Tryz.underlying24 (by kernel_rfl) aJK) rfl (by kernel_rfl) (fF (iX n Tryz.underlying3) rfl (by kernel_rfl) sF))))
  (fun _=>rfl) (fun _=>a1R _) (fun b h _=>⟨by have:=h.2.1.1;show b.2.1.length<=_;omega,by have:=h.2.2.1.1;show b.2.2.1.length<=_;omega,by have:=h.1.1;show b.1.length<=_;omega,fun x hx=>a1J (h.1.2 x hx) (by omega),h.2.1.2,h.2.2.1.2⟩)
end
end Go.Proofs.YtgidgoahhepmlaaGreat
namespace Go.SW
open Go.SX
theorem aKu {w w':World} (h:w.keptBut w' (fun _=>False)) {p:MemPlace} (hp:p.block<w.heap.size):w.sameAt w' p:=by
 obtain⟨_,_,h⟩:=h
 cases p with
 | cell b off=>
  have:=h b hp;show w'.cell? _=w.cell? _
  unfold World.cell?
  dsimp only at *
  cases h1:w.heap[b]? with
  | none=>rw [h1]at this;dsimp only at this;rw [this]
  | some o=>
   rw [h1]at this;cases o with
   | cells c t fr=>
    cases h2:w'.heap[b]? with
    | none=>rw [h2]at this;cases this
    | some o'=>
     rw [h2]at this;cases o' with
     | cells c' t' fr'=>
      dsimp only at this ⊢
      rw [this.2.2.2 off (fun f=>f)]
     | _=>cases this
   | map es clock=>
    cases h2:w'.heap[b]? with
    | none=>rfl
    | some o'=>
     rw [h2]at this;cases o' with
     | cells=>cases this
     | _=>rfl
   | _=>dsimp only at this;rw [this]
 | map b=>
  have:=h b hp;show w'.heap[b]? =w.heap[b]?
  cases h1:w.heap[b]? with
  | none=>rw [h1]at this;exact this
  | some o=>
   rw [h1]at this;cases o with
   | cells c t fr=>
    cases h2:w'.heap[b]? with
    | none=>rw [h2]at this;cases this
    | some o'=>
     rw [h2]at this;cases o' with
     | cells c' t' fr'=>
      dsimp only at this
      obtain⟨rfl,rfl,hs,hc⟩:=this;have:c'=c:=Array.ext_getElem? fun j=>hc j (fun f=>f)
      rw [this]
     | _=>cases this
   | map es clock=>
    cases h2:w'.heap[b]? with
    | none=>rw [h2]at this;cases this
    | some o'=>
     rw [h2]at this;cases o' with
     | map es' clock'=>
      rcases this with f | ⟨rfl,rfl⟩
      ·exact f.elim
      ·rfl
     | _=>cases this
   | _=>exact this
theorem aG6 {H:Type} {enc:TypeId × Value->H} {P:Program} {W W':World} (hl:laidOutB P=true) (hm:mapsRowed P=true) (hz:∀ t e,t<P.types.size->P.underlying t=some (.slice e)->0<P.cellsOf e) (hk:W.keptBut W' (fun _=>False)):
 ∀ {ts:List TypeId} {vs:List Value} {ds:List (DataW H)} {ps:List MemPlace},(∀ t∈ts,t<P.types.size)->DataW.TrodAll enc P W 0 (fun _=>true) true ts vs ds ps->DataW.TrodAll enc P W' 0 (fun b=>decide (b<W.heap.size)) true ts vs ds ps
 | [],[],[],_,_,h=>h
 | t :: _,_ :: _,_ :: _,ps,ht,h=>by
  have hlt:=h.lt;obtain⟨p,q,⟨n,hn⟩,h2,e⟩:=h;refine⟨p,q,⟨n,?_⟩,aG6 hl hm hz hk (fun t h=>ht t (.tail _ h)) h2,e⟩
  have hp:∀ x∈p,x.block<W.heap.size:=fun x hx=>hlt x (by rw [e];exact a1g _ hx)
  exact DataW.trod_stays (kids_rows hl hm) (fun a b=>hz _ _ a b) (fun f=>by cases f) (ht t (.head _)) hn (fun x hx=>aKu hk (hp x hx)) (fun x hx=>a2c (hp x hx))
 | [],_ :: _,_,_,_,h=>h.elim
 | [],[],_ :: _,_,_,h=>h.elim
 | _ :: _,[],_,_,_,h=>h.elim
 | _ :: _,_ :: _,[],_,_,h=>h.elim
end Go.SW
