/- Parts of the proof: lemmas, and the steps through the program. -/
import Derived.Test.YtgidgoahhepmlaaGreatFl2
import Derived.DefersIn
import Derived.Below
import Derived.Laws.MakeOwn
import Derived.Great.BuildSlice
import Derived.Laws.Append
import Derived.RangeFuncLeaves
import Derived.RangeFuncRecord
import Derived.RecoverIn
set_option linter.unusedVariables false
set_option linter.unusedSimpArgs false
set_option maxRecDepth 100000
set_option maxHeartbeats 2000000
namespace Go.BX
noncomputable section
inductive V where
 | int (k:IntKind) (n:Int)
 | bool (b:Bool)
 | str (s:ByteArray)
 | ptr (b off:Nat)
 | nilp
 | sl (b off len cap:Nat)
 | so (b off len es:Nat)
 | nils
 | map (b:Nat)
 | nilm
 | fn (f:Nat) (first cap:List V)
 | yld (l:Nat)
 | nilf
 | iface (t:Nat) (v:V)
 | nili
 | agg (cs:List V)
 | tup (vs:List V)
 deriving Inhabited
structure PE where
 v:V
 r:Bool
inductive O where
 | val (v:V)
 | panic (ch:List PE)
inductive Tr (α:Type) where
 | leaf
 | node (l:Tr α) (v:Option α) (r:Tr α)
inductive Pa where
 | h
 | l (p:Pa)
 | r (p:Pa)
def paD (d:Nat):Nat->Pa:=Nat.rec (fun _=> .h) (fun _ ih n=>Bool.rec (Bool.rec (.r (ih (Nat.sub (Nat.div n 2) 1))) (.l (ih (Nat.div n 2))) (Nat.beq (Nat.mod n 2) 1)) .h (Nat.beq n 0)) d
def pa (n:Nat):Pa:=paD (Nat.succ n) n
def gp {α:Type} (t:Tr α):Pa->Option α:=Tr.rec (fun _=>none) (fun _ v _ il ir p=>Pa.rec v (fun q _=>il q) (fun q _=>ir q) p) t
def one' {α β:Type} (v:Option α) (p:Pa):(Tr α->β)->β:=Pa.rec (fun k=>k (.node .leaf v .leaf)) (fun _ ih k=>ih fun t=>k (.node t none .leaf)) (fun _ ih k=>ih fun t=>k (.node .leaf none t)) p
def pp {α β:Type} (t:Tr α) (v:Option α):Pa->(Tr α->β)->β:=Tr.rec (fun p k=>one' v p k) (fun l x r il ir p k=>Pa.rec (k (.node l v r)) (fun q _=>il q fun l'=>k (.node l' x r)) (fun q _=>ir q fun r'=>k (.node l x r')) p) t
def tX {α β:Type} (l:List α):Nat->Tr α->(Tr α->β)->β:=List.rec (fun _ t k=>k t) (fun x _ ih n t k=>pp t (some x) (pa n) fun t=>ih (Nat.succ n) t k) l
def eK {β:Type} (n:Nat) (d:β) (f:Nat->β):β:=Nat.rec d (fun m _=>f m) (Nat.succ n)
def nth {α:Type} (l:List α):Nat->Option α:=List.rec (fun _=>none) (fun x _ ih n=>Nat.rec (some x) (fun m _=>ih m) n) l
def dr {α:Type} (n:Nat):List α->List α:=Nat.rec (fun l=>l) (fun _ ih l=>List.rec [] (fun _ r _=>ih r) l) n
def tk {α:Type} (n:Nat):List α->Option (List α):=Nat.rec (fun _=>some []) (fun _ ih l=>List.rec none (fun x r _=>Option.rec none (fun t=>some (x :: t)) (ih r)) l) n
def ap {α:Type} (l m:List α):List α:=List.rec m (fun x _ ih=>x :: ih) l
def ln {α:Type} (l:List α):Nat->Nat:=List.rec (fun n=>n) (fun _ _ ih n=>ih (Nat.succ n)) l
def ov {α:Type} (new:List α):List α->Option (List α):=List.rec (fun c=>some c) (fun x _ ih c=>List.rec none (fun _ r _=>Option.rec none (fun t=>some (x :: t)) (ih r)) c) new
def pl {α:Type} (new:List α) (off:Nat):List α->Option (List α):=Nat.rec (fun c=>ov new c) (fun _ ih c=>List.rec none (fun x r _=>Option.rec none (fun t=>some (x :: t)) (ih r)) c) off
def rep {α:Type} (l:List α) (n:Nat):List α:=Nat.rec [] (fun _ ih=>ap l ih) n
structure Ent where
 key:V
 val:V
 born:Nat
inductive Ob where
 | map (es:List Ent) (clock:Nat)
 | loop (st:LoopState) (pend:Option Code) (f:Nat) (e:Tr V) (n:Nat) (ps:List Nat) (sg bd:Code) (d:Nat)
 | dfr (live:Bool)
inductive Blk where
 | cells (c:List V) (t:Nat) (op:Nat)
 | obj (o:Ob)
inductive Fp where
 | cell (b lo hi:Nat) (w:Bool)
 | fresh (n0 n1:Nat)
structure S where
 h:Tr Blk
 nx:Nat
 log:List Fp
inductive AL where
 | ret (o:O)
 | fail
 | rd (b off n:Nat) (k:List V->AL)
 | rd1 (b off:Nat) (k:V->AL)
 | wr (b off:Nat) (l:List V) (k:AL)
 | sz (b:Nat) (k:Nat->Nat->Nat->AL)
 | new (c:List V) (t op:Nat) (k:Nat->AL)
 | del (b:Nat) (k:AL)
 | newO (o:Ob) (k:Nat->AL)
 | getO (b:Nat) (k:Ob->AL)
 | setO (b:Nat) (o:Ob) (k:AL)
 | sub (p:AL) (k:V->List Fp->AL)
def dS (n0 n1:Nat) (l:List Fp):List Fp:=List.rec [] (fun f _ ih=>Fp.rec (fun b lo hi w=>Bool.rec (Bool.rec (.cell b lo hi w :: ih) ih (Nat.blt b n1)) (.cell b lo hi w :: ih) (Nat.blt b n0)) (fun m0 m1=>Bool.rec (.fresh m0 m1 :: ih) (Bool.rec (.fresh m0 m1 :: ih) ih (Nat.ble m1 n1)) (Nat.ble n0 m0)) f) l
def ifN {β:Type} (b:Bool) (d p:β):β:=Bool.rec d p b
abbrev R:=Option (O × S)
abbrev St:=Tr Blk->Nat->List Fp->R
def rowK {β:Type} (x:Blk):(List V->Nat->Nat->β)->β->β:=Blk.rec (motive:=fun _=>(List V->Nat->Nat->β)->β->β) (fun c t op=>fun f _=>f c t op) (fun _=>fun _ d=>d) x
def obK {β:Type} (x:Blk):(Ob->β)->β->β:=Blk.rec (motive:=fun _=>(Ob->β)->β->β) (fun _ _ _=>fun _ d=>d) (fun o=>fun f _=>f o) x
def opt {α β:Type} (o:Option α) (d:β) (f:α->β):β:=Option.rec d f o
def rRd (b off n:Nat) (ih:List V->St):St:=fun h nx lg=>opt (gp h (pa b)) none fun k=>rowK k (fun c _ _=>opt (tk n (dr off c)) none fun l=>ifN (Nat.blt 0 n) none (ih l h nx (.cell b off (Nat.add off n) false :: lg))) none
def rRd1 (b off:Nat) (ih:V->St):St:=fun h nx lg=>opt (gp h (pa b)) none fun k=>rowK k (fun c _ _=>opt (nth c off) none fun v=>ih v h nx (.cell b off (Nat.succ off) false :: lg)) none
def rWr (b off:Nat) (l:List V) (ih:St):St:=fun h nx lg=>opt (gp h (pa b)) none fun k=>rowK k (fun c t op=>opt (pl l off c) none fun c'=>pp h (some (.cells c' t op)) (pa b) fun h=>ifN (Nat.blt 0 (ln l 0)) none (ih h nx (.cell b off (Nat.add off (ln l 0)) true :: lg))) none
def rSz (b:Nat) (ih:Nat->Nat->Nat->St):St:=fun h nx lg=>opt (gp h (pa b)) none fun k=>rowK k (fun c t op=>eK (ln c 0) none fun n=>ih n t op h nx (.cell b n (Nat.succ n) false :: lg)) none
def rNew (x:Blk) (ih:Nat->St):St:=fun h nx lg=>eK nx none fun n=>opt (gp h (pa n)) (pp h (some x) (pa n) fun h=>ih n h (Nat.succ n) (.fresh n (Nat.succ n) :: lg)) fun _=>none
def rDel (b:Nat) (ih:St):St:=fun h nx lg=>opt (gp h (pa b)) none fun k=>rowK k (fun c _ _=>pp h none (pa b) fun h=>ih h nx (.cell b 0 (Nat.succ (ln c 0)) true :: lg)) none
def rGetO (b:Nat) (ih:Ob->St):St:=fun h nx lg=>opt (gp h (pa b)) none fun k=>obK k (fun o=>ih o h nx (.cell b 0 1 false :: lg)) none
def rSetO (b:Nat) (o:Ob) (ih:St):St:=fun h nx lg=>opt (gp h (pa b)) none fun k=>obK k (fun _=>pp h (some (.obj o)) (pa b) fun h=>ih h nx (.cell b 0 1 true :: lg)) none
def rSub1 (ih:V->List Fp->St) (nx:Nat) (lg:List Fp) (r:R):R:=match r with
 | some (o,s)=>match o with
  | .val v=>match s with
   | ⟨h',nx',lg'⟩=>ih v (.fresh nx nx' :: dS nx nx' lg') h' nx' (.fresh nx nx' :: ap (dS nx nx' lg') lg)
  | .panic _=>none
 | none=>none
def rSub (ihp:St) (ih:V->List Fp->St):St:=fun h nx lg=>rSub1 ih nx lg (ihp h nx [])
def run (p:AL):St:=AL.rec (fun o h nx lg=>some (o,⟨h,nx,lg⟩)) (fun _ _ _=>none) (fun b off n _ ih=>rRd b off n ih) (fun b off _ ih=>rRd1 b off ih) (fun b off l _ ih=>rWr b off l ih)
 (fun b _ ih=>rSz b ih) (fun c t op _ ih=>rNew (.cells c t op) ih) (fun b _ ih=>rDel b ih) (fun o _ ih=>rNew (.obj o) ih) (fun b _ ih=>rGetO b ih) (fun b o _ ih=>rSetO b o ih) (fun _ _ ihp ih=>rSub ihp ih) p
end
noncomputable section
def tys (P:Program):Tr TypeInfo:=tX P.types.toList 0 .leaf fun t=>t
def fns (P:Program):Tr Func:=tX P.funcs.toList 0 .leaf fun t=>t
def info (P:Program) (t:Nat):Option TypeInfo:=gp (tys P) (pa t)
def fnAt (P:Program) (f:Nat):Option Func:=gp (fns P) (pa f)
def und1 (P:Program) (i:TypeInfo):Option TypeDesc:=match i.desc with
 | .named _ u=>match info P u with
  | some j=>some j.desc
  | none=>none
 | d=>some d
def und (P:Program) (t:Nat):Option TypeDesc:=match info P t with
 | some i=>und1 P i
 | none=>none
def szT (P:Program) (t:Nat):Option Nat:=match info P t with
 | some i=>some i.size
 | none=>none
def shp (P:Program) (t:Nat):Option (Option Nat):=match und P t with
 | some (.struct _)=>match szT P t with
  | some n=>some (some n)
  | none=>none
 | some (.array _ _)=>match szT P t with
  | some n=>some (some n)
  | none=>none
 | some _=>some none
 | none=>none
def isC:V->Bool
 | .agg _=>false
 | .tup _=>false
 | _=>true
def iC:List V->Bool
 | []=>true
 | v :: l=>match isC v with
  | true=>iC l
  | false=>false
mutual
def ofC:Value->Option V
 | .int k n=>some (.int k n)
 | .bool b=>some (.bool b)
 | .string s=>some (.str s)
 | .pointer none=>some .nilp
 | .slice none 0 0=>some .nils
 | .map none=>some .nilm
 | .nilFunc=>some .nilf
 | .nilIface=>some .nili
 | .iface t v=>match ofC v with
  | some x=>some (.iface t x)
  | none=>none
 | .agg cs=>match ofA cs with
  | some l=>match iC l with
   | true=>some (.agg l)
   | false=>none
  | none=>none
 | .tuple cs=>match ofA cs with
  | some l=>some (.tup l)
  | none=>none
 | _=>none
def ofA:Array Value->Option (List V)
 | ⟨l⟩=>ofL l
def ofL:List Value->Option (List V)
 | []=>some []
 | v :: l=>match ofC v with
  | some x=>match ofL l with
   | some r=>some (x :: r)
   | none=>none
  | none=>none
end
def zer (P:Program) (t:Nat):Option V:=match info P t with
 | some i=>match i.zero with
  | some z=>ofC z
  | none=>none
 | none=>none
def eI:V:= .tup []
def vc0 (x:V):V->Option (List V):=V.rec (motive_1:=fun _=>V->Option (List V)) (motive_2:=fun _=>Unit) (fun _ _=>fun v=>some [v]) (fun _=>fun v=>some [v]) (fun _=>fun v=>some [v]) (fun _ _=>fun v=>some [v]) (fun v=>some [v]) (fun _ _ _ _=>fun v=>some [v]) (fun _ _ _ _=>fun v=>some [v]) (fun v=>some [v]) (fun _=>fun v=>some [v]) (fun v=>some [v]) (fun _ _ _ _ _=>fun v=>some [v]) (fun _=>fun v=>some [v]) (fun v=>some [v]) (fun _ _ _=>fun v=>some [v]) (fun v=>some [v]) (fun cs _=>fun _=>some cs) (fun _ _=>fun _=>none) () (fun _ _ _ _=>()) x
def vc (v:V):Option (List V):=vc0 v v
inductive Df where
 | fn (f:Nat) (args cap:List V)
 | col (r:Nat)
structure Ac where
 e:Tr V
 n:Nat
 ds:List Df
 ro:Option Nat
inductive X where
 | normal
 | exit (id:Nat)
 | ret
 | panic (ch:List PE)
abbrev KX:=X->Ac->AL
abbrev Ex:=Code->Ac->KX->AL
abbrev KV:=V->AL
abbrev H:=Program->Ex->Tr V->KV->(List PE->AL)->(Df->AL)->AL
def ev (x:Operand):Tr V->Option V:=Operand.rec (motive:=fun _=>Tr V->Option V) (fun t=>fun e=>gp e (pa t)) (fun c=>fun _=>ofC c) (fun _=>fun _=>none) (fun f=>fun _=>some (.fn f [] [])) x
def cD (x:Operand) (e:Tr V) (f:V->AL):AL:=Option.rec .fail f (ev x e)
def dP (x y:Operand) (e:Tr V) (f:V->V->AL):AL:=Option.rec .fail (fun v=>Option.rec .fail (f v) (ev y e)) (ev x e)
def eJ (x y z:Operand) (e:Tr V) (f:V->V->V->AL):AL:=cD x e fun v=>dP y z e (f v)
def evs (l:List Operand) (e:Tr V):Option (List V):=List.rec (some []) (fun x _ ih=>Option.rec none (fun v=>Option.rec none (fun vs=>some (v :: vs)) ih) (ev x e)) l
def eR (l:List Operand) (e:Tr V) (f:List V->AL):AL:=opt (evs l e) .fail f
def evO (x:Option Operand) (e:Tr V):Option (Option V):=match x with
 | none=>some none
 | some x=>match ev x e with
  | some v=>some (some v)
  | none=>none
def yL (x:Option Operand) (e:Tr V) (f:Option V->AL):AL:=opt (evO x e) .fail f
def prt:List (Nat × Operand)->List Operand
 | []=>[]
 | (_,x) :: l=>x :: prt l
def cU (b:Bool) (p:AL):AL:=Bool.rec .fail p b
def ife {β:Type} (b:Bool) (p q:β):β:=Bool.rec q p b
def oo {α:Type} (o:Option α) (f:α->AL):AL:=opt o .fail f
def vG (x:V):(Nat->Nat->AL)->AL:=V.rec (motive_1:=fun _=>(Nat->Nat->AL)->AL) (motive_2:=fun _=>Unit) (fun _ _=>fun _=> .fail) (fun _=>fun _=> .fail) (fun _=>fun _=> .fail) (fun b off=>fun f=>f b off) (fun _=> .fail) (fun _ _ _ _=>fun _=> .fail) (fun _ _ _ _=>fun _=> .fail) (fun _=> .fail) (fun _=>fun _=> .fail) (fun _=> .fail) (fun _ _ _ _ _=>fun _=> .fail) (fun _=>fun _=> .fail) (fun _=> .fail) (fun _ _ _=>fun _=> .fail) (fun _=> .fail) (fun _ _=>fun _=> .fail) (fun _ _=>fun _=> .fail) () (fun _ _ _ _=>()) x
def wU {β:Type} (x:V):(IntKind->Int->β)->β->β:=V.rec (motive_1:=fun _=>(IntKind->Int->β)->β->β) (motive_2:=fun _=>Unit) (fun k n=>fun f _=>f k n) (fun _=>fun _ d=>d) (fun _=>fun _ d=>d) (fun _ _=>fun _ d=>d) (fun _ d=>d) (fun _ _ _ _=>fun _ d=>d) (fun _ _ _ _=>fun _ d=>d) (fun _ d=>d) (fun _=>fun _ d=>d) (fun _ d=>d) (fun _ _ _ _ _=>fun _ d=>d) (fun _=>fun _ d=>d) (fun _ d=>d) (fun _ _ _=>fun _ d=>d) (fun _ d=>d) (fun _ _=>fun _ d=>d) (fun _ _=>fun _ d=>d) () (fun _ _ _ _=>()) x
def asBool {β:Type} (x:V):(Bool->β)->β->β:=V.rec (motive_1:=fun _=>(Bool->β)->β->β) (motive_2:=fun _=>Unit) (fun _ _=>fun _ d=>d) (fun b=>fun f _=>f b) (fun _=>fun _ d=>d) (fun _ _=>fun _ d=>d) (fun _ d=>d) (fun _ _ _ _=>fun _ d=>d) (fun _ _ _ _=>fun _ d=>d) (fun _ d=>d) (fun _=>fun _ d=>d) (fun _ d=>d) (fun _ _ _ _ _=>fun _ d=>d) (fun _=>fun _ d=>d) (fun _ d=>d) (fun _ _ _=>fun _ d=>d) (fun _ d=>d) (fun _ _=>fun _ d=>d) (fun _ _=>fun _ d=>d) () (fun _ _ _ _=>()) x
def asAgg {β:Type} (x:V):(List V->β)->β->β:=V.rec (motive_1:=fun _=>(List V->β)->β->β) (motive_2:=fun _=>Unit) (fun _ _=>fun _ d=>d) (fun _=>fun _ d=>d) (fun _=>fun _ d=>d) (fun _ _=>fun _ d=>d) (fun _ d=>d) (fun _ _ _ _=>fun _ d=>d) (fun _ _ _ _=>fun _ d=>d) (fun _ d=>d) (fun _=>fun _ d=>d) (fun _ d=>d) (fun _ _ _ _ _=>fun _ d=>d) (fun _=>fun _ d=>d) (fun _ d=>d) (fun _ _ _=>fun _ d=>d) (fun _ d=>d) (fun cs _=>fun f _=>f cs) (fun _ _=>fun _ d=>d) () (fun _ _ _ _=>()) x
def asTup (x:V):(List V->AL)->AL:=V.rec (motive_1:=fun _=>(List V->AL)->AL) (motive_2:=fun _=>Unit) (fun _ _=>fun _=> .fail) (fun _=>fun _=> .fail) (fun _=>fun _=> .fail) (fun _ _=>fun _=> .fail) (fun _=> .fail) (fun _ _ _ _=>fun _=> .fail) (fun _ _ _ _=>fun _=> .fail) (fun _=> .fail) (fun _=>fun _=> .fail) (fun _=> .fail) (fun _ _ _ _ _=>fun _=> .fail) (fun _=>fun _=> .fail) (fun _=> .fail) (fun _ _ _=>fun _=> .fail) (fun _=> .fail) (fun _ _=>fun _=> .fail) (fun cs _=>fun f=>f cs) () (fun _ _ _ _=>()) x
def wW {β:Type} (x:V):(ByteArray->β)->β->β:=V.rec (motive_1:=fun _=>(ByteArray->β)->β->β) (motive_2:=fun _=>Unit) (fun _ _=>fun _ d=>d) (fun _=>fun _ d=>d) (fun s=>fun f _=>f s) (fun _ _=>fun _ d=>d) (fun _ d=>d) (fun _ _ _ _=>fun _ d=>d) (fun _ _ _ _=>fun _ d=>d) (fun _ d=>d) (fun _=>fun _ d=>d) (fun _ d=>d) (fun _ _ _ _ _=>fun _ d=>d) (fun _=>fun _ d=>d) (fun _ d=>d) (fun _ _ _=>fun _ d=>d) (fun _ d=>d) (fun _ _=>fun _ d=>d) (fun _ _=>fun _ d=>d) () (fun _ _ _ _=>()) x
def asSl (x:V):(Nat->Nat->Nat->Nat->AL)->(Nat->Nat->Nat->Nat->AL)->AL->AL->AL:=V.rec (motive_1:=fun _=>(Nat->Nat->Nat->Nat->AL)->(Nat->Nat->Nat->Nat->AL)->AL->AL->AL) (motive_2:=fun _=>Unit) (fun _ _=>fun _ _ _ d=>d) (fun _=>fun _ _ _ d=>d) (fun _=>fun _ _ _ d=>d) (fun _ _=>fun _ _ _ d=>d) (fun _ _ _ d=>d) (fun b off len cap=>fun f _ _ _=>f b off len cap) (fun b off len es=>fun _ g _ _=>g b off len es) (fun _ _ n _=>n) (fun _=>fun _ _ _ d=>d) (fun _ _ _ d=>d) (fun _ _ _ _ _=>fun _ _ _ d=>d) (fun _=>fun _ _ _ d=>d) (fun _ _ _ d=>d) (fun _ _ _=>fun _ _ _ d=>d) (fun _ _ _ d=>d) (fun _ _=>fun _ _ _ d=>d) (fun _ _=>fun _ _ _ d=>d) () (fun _ _ _ _=>()) x
def asMap (x:V):(Nat->AL)->AL->AL:=V.rec (motive_1:=fun _=>(Nat->AL)->AL->AL) (motive_2:=fun _=>Unit) (fun _ _=>fun _ _=> .fail) (fun _=>fun _ _=> .fail) (fun _=>fun _ _=> .fail) (fun _ _=>fun _ _=> .fail) (fun _ _=> .fail) (fun _ _ _ _=>fun _ _=> .fail) (fun _ _ _ _=>fun _ _=> .fail) (fun _ _=> .fail) (fun b=>fun f _=>f b) (fun _ n=>n) (fun _ _ _ _ _=>fun _ _=> .fail) (fun _=>fun _ _=> .fail) (fun _ _=> .fail) (fun _ _ _=>fun _ _=> .fail) (fun _ _=> .fail) (fun _ _=>fun _ _=> .fail) (fun _ _=>fun _ _=> .fail) () (fun _ _ _ _=>()) x
def asIf (x:V):(Nat->V->AL)->AL->AL:=V.rec (motive_1:=fun _=>(Nat->V->AL)->AL->AL) (motive_2:=fun _=>Unit) (fun _ _=>fun _ _=> .fail) (fun _=>fun _ _=> .fail) (fun _=>fun _ _=> .fail) (fun _ _=>fun _ _=> .fail) (fun _ _=> .fail) (fun _ _ _ _=>fun _ _=> .fail) (fun _ _ _ _=>fun _ _=> .fail) (fun _ _=> .fail) (fun _=>fun _ _=> .fail) (fun _ _=> .fail) (fun _ _ _ _ _=>fun _ _=> .fail) (fun _=>fun _ _=> .fail) (fun _ _=> .fail) (fun t v _=>fun f _=>f t v) (fun _ n=>n) (fun _ _=>fun _ _=> .fail) (fun _ _=>fun _ _=> .fail) () (fun _ _ _ _=>()) x
def asFn (x:V):(Nat->List V->List V->AL)->(Nat->AL)->AL:=V.rec (motive_1:=fun _=>(Nat->List V->List V->AL)->(Nat->AL)->AL) (motive_2:=fun _=>Unit) (fun _ _=>fun _ _=> .fail) (fun _=>fun _ _=> .fail) (fun _=>fun _ _=> .fail) (fun _ _=>fun _ _=> .fail) (fun _ _=> .fail) (fun _ _ _ _=>fun _ _=> .fail) (fun _ _ _ _=>fun _ _=> .fail) (fun _ _=> .fail) (fun _=>fun _ _=> .fail) (fun _ _=> .fail) (fun g a c _ _=>fun f _=>f g a c) (fun l=>fun _ y=>y l) (fun _ _=> .fail) (fun _ _ _=>fun _ _=> .fail) (fun _ _=> .fail) (fun _ _=>fun _ _=> .fail) (fun _ _=>fun _ _=> .fail) () (fun _ _ _ _=>()) x
def noNil (x:V):AL->AL:=V.rec (motive_1:=fun _=>AL->AL) (motive_2:=fun _=>Unit) (fun _ _=>fun _=> .fail) (fun _=>fun _=> .fail) (fun _=>fun _=> .fail) (fun _ _=>fun k=>k) (fun _=> .fail) (fun _ _ _ _=>fun _=> .fail) (fun _ _ _ _=>fun _=> .fail) (fun _=> .fail) (fun _=>fun _=> .fail) (fun _=> .fail) (fun _ _ _ _ _=>fun k=>k) (fun _=>fun k=>k) (fun _=> .fail) (fun _ _ _=>fun _=> .fail) (fun _=> .fail) (fun _ _=>fun _=> .fail) (fun _ _=>fun _=> .fail) () (fun _ _ _ _=>()) x
def OPEN:Nat:=9223372036854775808
def natI (x:Int):Option Nat:=Int.rec (motive:=fun _=>Option Nat) (fun k=>some k) (fun _=>none) x
def pN (v:V):Option Nat:=wU v (fun _ n=>natI n) none
def inR (x:Int):(Int->AL)->AL:=Int.rec (motive:=fun _=>(Int->AL)->AL) (fun n=>fun k=>eK n .fail fun n=>cU (Nat.blt n OPEN) (k (.ofNat n))) (fun n=>fun k=>eK n .fail fun n=>cU (Nat.blt n OPEN) (k (.negSucc n))) x
def ltI (i j:Int):Bool:=match i,j with
 | .ofNat a, .ofNat b=>Nat.blt a b
 | .negSucc _, .ofNat _=>true
 | .negSucc a, .negSucc b=>Nat.blt b a
 | .ofNat _, .negSucc _=>false
def eqI (i j:Int):Bool:=match i,j with
 | .ofNat a, .ofNat b=>Nat.beq a b
 | .negSucc a, .negSucc b=>Nat.beq a b
 | _,_=>false
mutual
def gv:V->Option Value
 | .int k n=>some (.int k n)
 | .bool b=>some (.bool b)
 | .str s=>some (.string s)
 | .nilp=>some (.pointer none)
 | .nils=>some (.slice none 0 0)
 | .nilm=>some (.map none)
 | .nilf=>some .nilFunc
 | .nili=>some .nilIface
 | .iface t v=>match gv v with
  | some x=>some (.iface t x)
  | none=>none
 | .agg cs=>match iC cs with
  | true=>match gvs cs with
   | some l=>some (.agg ⟨l⟩)
   | none=>none
  | false=>none
 | .tup cs=>match gvs cs with
  | some l=>some (.tuple ⟨l⟩)
  | none=>none
 | _=>none
def gvs:List V->Option (List Value)
 | []=>some []
 | v :: l=>match gv v with
  | some x=>match gvs l with
   | some r=>some (x :: r)
   | none=>none
  | none=>none
end
def aAX (P:Program) {α:Type}:Sem α->Option α
 | .pure a=>some a
 | .program k=>aAX P (k P)
 | .mark _ k=>aAX P k
 | _=>none
def gen (P:Program) (m:Sem Value) (k:V->AL):AL:=oo (aAX P m) fun v=>oo (ofC v) k
def gen1 (P:Program) (m:Value->Sem Value) (x:V) (k:V->AL):AL:=oo (gv x) fun a=>gen P (m a) k
def gen2 (P:Program) (m:Value->Value->Sem Value) (x y:V) (k:V->AL):AL:=oo (gv x) fun a=>oo (gv y) fun b=>gen P (m a b) k
def iR (n:Int):V:= .int .i64 n
def binI (x:BinOp):Int->Int->(V->AL)->AL->AL:=BinOp.rec (motive:=fun _=>Int->Int->(V->AL)->AL->AL) (fun i j k _=>inR (i+j) fun n=>k (.int .i64 n)) (fun i j k _=>inR (i - j) fun n=>k (.int .i64 n)) (fun i j k _=>inR (i*j) fun n=>k (.int .i64 n)) (fun _ _ _ d=>d) (fun _ _ _ d=>d) (fun _ _ _ d=>d) (fun _ _ _ d=>d) (fun _ _ _ d=>d) (fun _ _ _ d=>d) (fun _ _ _ d=>d) (fun _ _ _ d=>d) (fun i j k _=>k (.bool (eqI i j))) (fun i j k _=>k (.bool (Bool.not (eqI i j)))) (fun i j k _=>k (.bool (ltI i j))) (fun i j k _=>k (.bool (Bool.not (ltI j i)))) (fun i j k _=>k (.bool (ltI j i))) (fun i j k _=>k (.bool (Bool.not (ltI i j)))) x
def eqN1:V->V->Option Bool
 | .nilp, .ptr _ _=>some false
 | .ptr _ _, .nilp=>some false
 | .ptr b o, .ptr c q=>match Nat.beq b c with
  | true=>some (Nat.beq o q)
  | false=>none
 | _,_=>none
def eqN2:V->V->Option Bool
 | .nils, .sl _ _ _ _=>some false
 | .nils, .so _ _ _ _=>some false
 | .sl _ _ _ _, .nils=>some false
 | .so _ _ _ _, .nils=>some false
 | _,_=>none
def eqN3:V->V->Option Bool
 | .nilm, .map _=>some false
 | .map _, .nilm=>some false
 | _,_=>none
def eqN4:V->V->Option Bool
 | .nilf, .fn _ _ _=>some false
 | .fn _ _ _, .nilf=>some false
 | _,_=>none
def eqN5:V->V->Option Bool
 | .nili, .iface _ _=>some false
 | .iface _ _, .nili=>some false
 | _,_=>none
def eqN (P:Program) (T:Nat) (a b:V):Option Bool:=match und P T with
 | some (.pointer el)=>match szT P el with
  | some (_+1)=>eqN1 a b
  | _=>none
 | some (.slice _)=>eqN2 a b
 | some (.map _ _)=>eqN3 a b
 | some (.func _ _ _)=>eqN4 a b
 | some (.interface _)=>eqN5 a b
 | _=>none
def eqK (x:BinOp):Bool->(V->AL)->AL:=BinOp.rec (motive:=fun _=>Bool->(V->AL)->AL) (fun _ _=> .fail) (fun _ _=> .fail) (fun _ _=> .fail) (fun _ _=> .fail) (fun _ _=> .fail) (fun _ _=> .fail) (fun _ _=> .fail) (fun _ _=> .fail) (fun _ _=> .fail) (fun _ _=> .fail) (fun _ _=> .fail) (fun r k=>k (.bool r)) (fun r k=>k (.bool (Bool.not r))) (fun _ _=> .fail) (fun _ _=> .fail) (fun _ _=> .fail) (fun _ _=> .fail) x
def binG (P:Program) (op:BinOp) (T:Nat) (x y:Operand) (a b:V) (k:V->AL):AL:=opt (eqN P T a b) (gen2 P (fun a b=>do eqGuard op T x y a b;binOp op T a b) a b k) fun r=>eqK op r k
def isI64 (k:IntKind):Bool:=match k with
 | .i64=>true
 | _=>false
def binB (op:BinOp) (u v:V) (k:V->AL) (d:AL):AL:=wU u (fun ku i=>wU v (fun kv j=>ife (isI64 ku) (ife (isI64 kv) (binI op i j k d) d) d) d) d
def hBin (op:BinOp) (T:Nat) (x y:Operand):H:=fun P _ e k _ _=>dP x y e fun u v=>binB op u v k (binG P op T x y u v k)
def oM (x:Operand):H:=fun _ _ e k _ _=>cD x e k
def yJ (c x y:Operand):H:=fun _ _ e k _ _=>eJ c x y e fun c x y=>asBool c (fun b=>ife b (k x) (k y)) .fail
def loadS (s:Option Nat) (b off:Nat) (k:V->AL):AL:=opt s (.rd1 b off k) fun n=>ife (Nat.beq n 0) (k (.agg [])) (.rd b off n fun l=>k (.agg l))
def aAe (t:Nat) (x:Operand):H:=fun P _ e k _ _=>cD x e fun v=>oo (shp P t) fun s=>vG v fun b off=>loadS s b off k
def wX (t:Nat) (x y:Operand):H:=fun P _ e k _ _=>dP x y e fun p v=>oo (szT P t) fun n=>vG p fun b off=>oo (vc v) fun c=>cU (Nat.beq (ln c 0) n) (ife (Nat.beq n 0) (k eI) (.wr b off c (k eI)))
def aAr (t:Nat):H:=fun P _ e k _ _=>oo (zer P t) fun z=>oo (vc z) fun c=> .new c t 0 fun b=>k (.ptr b 0)
def hBox (t:Nat) (x:Operand):H:=fun _ _ e k _ _=>cD x e fun v=>oo (vc v) fun c=> .new c t 0 fun b=>k (.ptr b 0)
def fldOf (P:Program) (t f:Nat):Option (Nat × Nat):=match und P t with
 | some (.struct fs)=>match nth fs.toList f with
  | some fd=>some (fd.offset,fd.type)
  | none=>none
 | _=>none
def fldA (P:Program) (t f:Nat):Option Nat:=match fldOf P t f with
 | some (o,ft)=>match szT P ft with
  | some n=>match Nat.blt 0 n with
   | true=>some o
   | false=>none
  | none=>none
 | none=>none
def zA (t:Nat) (x:Operand) (f:Nat):H:=fun P _ e k _ _=>cD x e fun v=>oo (fldA P t f) fun o=>vG v fun b off=>eK (Nat.add off o) .fail fun n=>k (.ptr b n)
def partV (s:Option Nat) (off:Nat) (cs:List V) (k:V->AL):AL:=opt s (oo (nth cs off) k) fun n=>oo (tk n (dr off cs)) fun l=>k (.agg l)
def fldV (P:Program) (t f:Nat):Option (Nat × Option Nat):=match fldOf P t f with
 | some (o,ft)=>match shp P ft with
  | some s=>some (o,s)
  | none=>none
 | none=>none
def zJ (t:Nat) (x:Operand) (f:Nat):H:=fun P _ e k _ _=>cD x e fun v=>oo (fldV P t f) fun q=>asAgg v (fun cs=>partV q.2 q.1 cs k) .fail
def elOf (P:Program) (t:Nat):Option Nat:=match und P t with
 | some (.slice el)=>some el
 | _=>none
def arOf (P:Program) (t:Nat):Option (Nat × Nat):=match und P t with
 | some (.array n el)=>some (n,el)
 | _=>none
def ixOf (P:Program) (t:Nat):Option (Nat × Option Nat):=match und P t with
 | some (.slice el)=>match szT P el with
  | some es=>some (es,none)
  | none=>none
 | some (.array n el)=>match szT P el with
  | some es=>some (es,some n)
  | none=>none
 | _=>none
def at' (b off es len:Nat) (i:V) (k:V->AL):AL:=oo (pN i) fun j=>cU (Nat.blt j len) (eK (Nat.add off (Nat.mul j es)) .fail fun n=>k (.ptr b n))
def yU (t:Nat) (x i:Operand):H:=fun P _ e k _ _=>dP x i e fun v i=>oo (ixOf P t) fun q=>
 opt q.2 (asSl v (fun b off len _=>at' b off q.1 len i k) (fun b off len _=>at' b off q.1 len i k) .fail .fail) fun n=>vG v fun b off=>at' b off q.1 n i k
def hIdx (t:Nat) (x i:Operand):H:=fun P _ e k _ _=>dP x i e fun v i=>asAgg v (fun cs=>oo (arOf P t) fun q=>oo (szT P q.2) fun es=>oo (shp P q.2) fun s=>oo (pN i) fun j=>cU (Nat.blt j q.1) (partV s (Nat.mul j es) cs k))
 (gen2 P (Instr.index t) v i k)
def hUn (op:UnOp) (_:Nat) (x:Operand):H:=fun P _ e k _ _=>cD x e fun v=>match op with
 | .not=>asBool v (fun b=>k (.bool (Bool.not b))) .fail
 | op=>gen1 P (Op.unary op) v k
def hNil (x:Operand):H:=fun _ _ e k _ _=>cD x e fun v=>noNil v (k v)
def hExt (x:Operand) (i:Nat):H:=fun _ _ e k _ _=>cD x e fun v=>asTup v fun l=>oo (nth l i) k
def noIf (P:Program) (t:Nat):Bool:=match und P t with
 | none=>false
 | some (.interface _)=>false
 | some _=>true
def hMkI (t:Nat) (x:Operand):H:=fun P _ e k _ _=>cD x e fun v=>cU (noIf P t) (k (.iface t v))
def fnOf (x:Fn):Option Nat:=Fn.rec (motive:=fun _=>Option Nat) (fun g=>some g) (fun _=>none) (fun _ _=>none) (fun _ _ _ _=>none) (fun _=>none) x
def hMkF (fn:Fn) (f c:Array Operand):H:=fun _ _ e k _ _=>oo (fnOf fn) fun g=>eR f.toList e fun f=>eR c.toList e fun c=>k (.fn g f c)
def okT (ok b:Bool) (v:V):V:=match ok with
 | true=> .tup [v, .bool b]
 | false=>v
def hTa (x:Operand) (_ T:Nat) (ok:Bool):H:=fun P _ e k _ _=>cD x e fun v=>cU (noIf P T) (asIf v (fun t w=>ife (Nat.beq t T) (k (okT ok true w)) (cU ok (oo (zer P T) fun z=>k (.tup [z, .bool false]))))
 (cU ok (oo (zer P T) fun z=>k (.tup [z, .bool false]))))
def plc (P:Program) (fs:List Field) (i:Nat):Option (Nat × Nat):=match nth fs i with
 | some f=>match szT P f.type with
  | some n=>some (f.offset,n)
  | none=>none
 | none=>none
def uS (pc:Nat->Option (Nat × Nat)) (ps:List (Nat × Operand)):List V->List V->Option (List V):=List.rec (fun _ c=>some c) (fun p _ ih vs c=>List.rec none (fun v r _=>Option.rec none (fun q=>Option.rec none (fun u=>Bool.rec none (Option.rec none (fun c'=>ih r c') (pl u q.1 c)) (Nat.beq (ln u 0) q.2)) (vc v)) (pc p.1)) vs) ps
def szs (P:Program):List Field->Bool
 | []=>true
 | f :: r=>match szT P f.type with
  | some _=>szs P r
  | none=>false
def plcOf (P:Program) (t:Nat):Option (Nat->Option (Nat × Nat)):=match und P t with
 | some (.struct fs)=>match szs P fs.toList with
  | true=>some (plc P fs.toList)
  | false=>none
 | some (.array _ el)=>match szT P el with
  | some es=>some fun i=>some (Nat.mul i es,es)
  | none=>none
 | _=>none
def zN (t:Nat) (ps:Array (Nat × Operand)):H:=fun P _ e k _ _=>eR (prt ps.toList) e fun vs=>oo (zer P t) fun z=>oo (plcOf P t) fun pc=>oo (asAgg z some none) fun z=>oo (uS pc ps.toList vs z) fun c=>k (.agg c)
def lim:Nat:=1048576
def tZ (P:Program) (t:Nat):Option (Nat × Nat × List V):=match elOf P t with
 | some el=>match info P el with
  | some i=>match zer P el with
   | some z=>match vc z with
    | some c=>match Bool.and (Nat.beq (ln c 0) i.size) (Bool.and (Nat.ble i.size lim) (Nat.ble i.bytes lim))with
     | true=>some (el,i.size,c)
     | false=>none
    | none=>none
   | none=>none
  | none=>none
 | none=>none
def vU (t len:Nat) (ps:Array (Nat × Operand)):H:=fun P _ e k _ _=>eR (prt ps.toList) e fun vs=>oo (tZ P t) fun q=>
 cU (Nat.ble (Nat.mul len q.2.1) lim) (oo (uS (fun i=>some (Nat.mul i q.2.1,q.2.1)) ps.toList vs (rep q.2.2 len)) fun c=> .new c q.1 0 fun b=>k (.sl b 0 len len))
def hMks (t:Nat) (x y:Operand):H:=fun P _ e k _ _=>dP x y e fun l c=>oo (tZ P t) fun q=>oo (pN l) fun l=>oo (pN c) fun c=>
 cU (Bool.and (Nat.ble l c) (Nat.ble c lim)) (.new (rep q.2.2 c) q.1 0 fun b=>k (.sl b 0 l c))
def isStr (P:Program) (t:Nat):Bool:=match und P t with
 | some .string=>true
 | _=>false
def ofB (x:Option V) (d:Nat) (f:Nat->AL):AL:=opt x (f d) fun v=>oo (pN v) f
def slN (es b off cap l h m:Nat) (k:V->AL):AL:=cU (Bool.and (Nat.ble l h) (Bool.and (Nat.ble h m) (Nat.ble m cap))) (ife (Nat.beq m l) (k (.sl b off (Nat.sub h l) (Nat.sub m l)))
 (eK (Nat.add off (Nat.mul l es)) .fail fun o=>eK (Nat.sub h l) .fail fun n=>eK (Nat.sub m l) .fail fun c=>k (.sl b o n c)))
def slO (es b off len l h:Nat) (k:V->AL):AL:=cU (Bool.and (Nat.blt 0 es) (Bool.and (Nat.ble l h) (Bool.and (Nat.ble h len) (Bool.or (Nat.beq l 0) (Nat.blt l len)))))
 (eK (Nat.add off (Nat.mul l es)) .fail fun o=>eK (Nat.sub h l) .fail fun n=>k (.so b o n es))
def soOk (es b off len es0:Nat) (p:AL):AL:=cU (Bool.and (Nat.blt 0 es) (Nat.beq es0 es)) (.sz b fun cl _ op=>cU (Bool.and (Nat.beq op es) (Nat.ble (Nat.add off (Nat.mul len es)) cl)) p)
def hiOk (hi mx:Option V):Bool:=opt mx true fun _=>opt hi false fun _=>true
def vY (t:Nat) (x:Operand) (lo hi mx:Option Operand):H:=fun P _ e k _ _=>cD x e fun v=>yL lo e fun lo=>yL hi e fun hi=>yL mx e fun mx=>cU (hiOk hi mx) (match elOf P t with
 | some el=>oo (szT P el) fun es=>asSl v (fun b off len cap=>ofB lo 0 fun l=>ofB hi len fun h=>ofB mx cap fun m=>slN es b off cap l h m k)
  (fun b off len es0=>soOk es b off len es0 (ofB lo 0 fun l=>ofB hi len fun h=>opt mx (slO es b off len l h k) fun _=>ofB mx 0 fun m=>slN es b off len l h m k))
  (ofB lo 0 fun l=>ofB hi 0 fun h=>ofB mx 0 fun m=>cU (Nat.beq (Nat.add l (Nat.add h m)) 0) (k .nils)) .fail
 | none=>cU (isStr P t) (opt mx (wW v (fun s=>ofB lo 0 fun l=>ofB hi s.size fun h=>cU (Bool.and (Nat.ble l h) (Nat.ble h s.size)) (k (.str (s.extract l h)))) .fail) fun _=> .fail))
def aAN (s:ByteArray):List V:=s.data.toList.map fun b=> .int .u8 (Int.ofNat b.toNat)
def rdN (b off n:Nat) (k:List V->AL):AL:=ife (Nat.beq n 0) (k []) (.rd b off n k)
def cellsOf (es:Nat) (v:V) (f:Nat->List V->AL):AL:=asSl v (fun b off len _=>rdN b off (Nat.mul len es) (f len)) (fun b off len _=>rdN b off (Nat.mul len es) (f len)) (f 0 [])
 (wW v (fun s=>cU (Nat.beq es 1) (f s.size (aAN s))) .fail)
def grow (el es n:Nat) (c:List V) (k:V->AL):AL:=cU (Nat.ble n lim) (.new c el es fun b=>k (.so b 0 n es))
def appO (el es b off len n:Nat) (new:List V) (k:V->AL):AL:= .sz b fun cl t op=>cU (Bool.and (Nat.beq op es) (Nat.beq t el)) (eK (Nat.add len n) .fail fun ln'=>ife (Nat.ble (Nat.add off (Nat.mul ln' es)) cl)
 (.wr b (Nat.add off (Nat.mul len es)) new (k (.so b off ln' es)))
 (cU (Bool.and (Nat.beq off 0) (Nat.beq (Nat.mul len es) cl)) (rdN b 0 (Nat.mul len es) fun old=> .del b (grow el es ln' (ap old new) k))))
def appL (el es:Nat) (s:V) (n:Nat) (new:List V) (k:V->AL):AL:=ife (Nat.beq n 0) (asSl s (fun _ _ len cap=>cU (Nat.ble len cap) (k s)) (fun b off len es0=>soOk es b off len es0 (k s)) (k s) .fail)
 (asSl s (fun b off len cap=>eK (Nat.add len n) .fail fun ln'=>ife (Nat.ble ln' cap) (.wr b (Nat.add off (Nat.mul len es)) new (k (.sl b off ln' cap))) (rdN b off (Nat.mul len es) fun old=>grow el es ln' (ap old new) k))
  (fun b off len es0=>cU (Nat.beq es0 es) (appO el es b off len n new k)) (grow el es n new k) .fail)
def isInt (P:Program) (t:Nat):Bool:=match und P t with
 | some (.int _)=>true
 | none=>true
 | _=>false
def wB (c:Call):H:=fun P _ e k _ _=>eR c.args.toList e fun vs=>match c.argTypes.toList,vs with
 | T :: U :: _,s :: x :: _=>oo (tZ P T) fun q=>cU (Bool.and (Nat.blt 0 q.2.1) (Bool.not (isInt P U))) (cellsOf q.2.1 x fun n new=>appL q.1 q.2.1 s n new k)
 | _,_=> .fail
def mapK (x:Ob):(List Ent->Nat->AL)->AL:=Ob.rec (motive:=fun _=>(List Ent->Nat->AL)->AL) (fun es c=>fun f=>f es c) (fun _ _ _ _ _ _ _ _ _=>fun _=> .fail) (fun _=>fun _=> .fail) x
def hLen (c:Call):H:=fun P _ e k _ _=>eR c.args.toList e fun vs=>match c.argTypes.toList,vs with
 | T :: _,v :: _=>match und P T with
  | some (.slice _)=>asSl v (fun _ _ len _=>k (iR (.ofNat len))) (fun _ _ len _=>k (iR (.ofNat len))) (k (iR (.ofNat 0))) .fail
  | some .string=>wW v (fun s=>k (iR (.ofNat s.size))) .fail
  | some (.map _ _)=>asMap v (fun b=> .getO b fun o=>mapK o (fun es _=>k (iR (.ofNat (ln es 0))))) (k (iR (.ofNat 0)))
  | some (.array n _)=>k (iR (.ofNat n))
  | _=> .fail
 | _,_=> .fail
def hMm (least:Bool) (c:Call):H:=fun _ _ e k _ _=>eR c.args.toList e fun vs=>match vs with
 | [.int .i64 i, .int .i64 j]=>ife least (ife (ltI j i) (k (iR j)) (k (iR i))) (ife (ltI i j) (k (iR j)) (k (iR i)))
 | _=> .fail
def xG (c:Call):H:=fun P _ e k _ _=>eR c.args.toList e fun vs=>match c.argTypes.toList,vs with
 | T :: _,v :: _=>oo (tZ P T) fun q=>asSl v (fun b off len _=>ife (Nat.beq len 0) (k eI) (.wr b off (rep q.2.2 len) (k eI))) (fun b off len _=>ife (Nat.beq len 0) (k eI) (.wr b off (rep q.2.2 len) (k eI))) (k eI) .fail
 | _,_=> .fail
def isKey (P:Program) (t:Nat):Option Bool:=match und P t with
 | some (.int _)=>some false
 | some .string=>some true
 | _=>none
def rZ:V->V->Option Bool
 | .int .i64 a, .int .i64 b=>some (eqI a b)
 | .int .u8 a, .int .u8 b=>some (eqI a b)
 | .str a, .str b=>some (a==b)
 | _,_=>none
def keyOk (t:Bool) (v:V):Bool:=wU v (fun _ _=>Bool.not t) (wW v (fun _=>t) false)
def wR (x:V):List Ent->Option (Option V)
 | []=>some none
 | e :: es=>match rZ x e.key with
  | some true=>some (some e.val)
  | some false=>wR x es
  | none=>none
def mapOf (P:Program) (t:Nat):Option (Nat × Bool):=match und P t with
 | some (.map kt el)=>match isKey P kt with
  | some b=>some (el,b)
  | none=>none
 | _=>none
def vV (t:Nat) (x y:Operand) (ok:Bool):H:=fun P _ e k _ _=>dP x y e fun m x=>oo (mapOf P t) fun m'=>oo (zer P m'.1) fun z=>cU (keyOk m'.2 x) (asMap m
 (fun b=> .getO b fun o=>mapK o fun es _=>oo (wR x es) fun r=>opt r (k (okT ok false z)) fun v=>k (okT ok true v)) (k (okT ok false z)))
def setE (x v:V) (c:Nat):List Ent->Option (List Ent × Nat)
 | []=>some ([⟨x,v,c⟩],Nat.succ c)
 | e :: es=>match rZ x e.key with
  | some true=>some (⟨x,v,e.born⟩ :: es,c)
  | some false=>match setE x v c es with
   | some (l,c')=>some (e :: l,c')
   | none=>none
  | none=>none
def hUpd (t:Nat) (x y z:Operand):H:=fun P _ e k _ _=>eJ x y z e fun m x v=>oo (mapOf P t) fun m'=>cU (keyOk m'.2 x) (asMap m
 (fun b=> .getO b fun o=>mapK o fun es c=>oo (setE x v c es) fun q=> .setO b (.map q.1 q.2) (k eI)) .fail)
def hMapN (_:Nat) (r:Option Operand):H:=fun _ _ _ k _ _=>opt r (.newO (.map [] 0) fun b=>k (.map b)) fun _=> .fail
def zH (s t:Nat) (x:Operand):H:=fun P _ e k _ _=>cD x e fun v=>gen1 P (convert s t) v k
def cZ:H:=fun _ _ _ _ _ _=> .fail
def opB (x:Builtin):Call->H:=Builtin.rec (motive:=fun _=>Call->H) (wB) (fun _=>cZ) (xG) (fun _=>cZ) (fun _=>cZ) (fun _=>cZ) (fun _=>cZ) (fun _=>cZ) (hLen) (fun _=>cZ) (hMm false) (hMm true) (fun _=>cZ) (fun _=>cZ) (fun _=>cZ) (fun _=>cZ) (fun _=>cZ) (fun _=>cZ) (fun _=>cZ) (fun _=>cZ) (fun _=>cZ) (fun _=>cZ) (fun _=>cZ) (fun _=>cZ) (fun _=>cZ) (fun _=>cZ) x
end
noncomputable section
def insE (d:Option Nat) (v:V) (e:Tr V) (n:Nat) (k:Tr V->AL):AL:=Option.rec (k e) (fun t=>Bool.rec .fail (pp e (some v) (pa t) k) (Nat.blt t n)) d
def acK {β:Type} (a:Ac) (f:Tr V->Nat->List Df->Option Nat->β):β:=Ac.rec f a
def insK (d:Option Nat) (a:Ac) (v:V) (k:Ac->AL):AL:=acK a fun e n ds ro=>insE d v e n fun e=>k ⟨e,n,ds,ro⟩
inductive FM where
 | ret
 | pan (ch:List PE)
def wT:FM->FM
 | .pan (⟨_,true⟩ :: _)=> .ret
 | u=>u
def aCF (u:FM) (ch:List PE):FM:=match u with
 | .pan old=> .pan (ap ch old)
 | .ret=> .pan ch
def rcv:FM->V × FM
 | .pan (⟨v,false⟩ :: dS)=>(v, .pan (⟨v,true⟩ :: dS))
 | u=>(.nili,u)
def bod (P:Program) (f:Nat):Option (Func × Code):=match fnAt P f with
 | none=>none
 | some fn=>match fn.body with
  | none=>none
  | some c=>match fn.name== "runtime.NumGoroutine" with
   | true=>none
   | false=>some (fn,c)
def aCQ (l:List V):Nat->Tr V->(Tr V->AL)->AL:=List.rec (fun _ e k=>k e) (fun v _ ih n e k=>pp e (some v) (pa n) fun e=>ih (Nat.succ n) e k) l
def res1 (P:Program) (e:Tr V) (r:ResultVar) (k:V->AL):AL:=match r with
 | .tmp t=>oo (gp e (pa t)) k
 | .cell t T=>oo (gp e (pa t)) fun v=>oo (shp P T) fun s=>vG v fun b off=>loadS s b off k
def resA (P:Program) (e:Tr V) (rs:List ResultVar):(List V->AL)->AL:=List.rec (fun k=>k []) (fun r _ ih k=>res1 P e r fun v=>ih fun vs=>k (v :: vs)) rs
def pQ (l:List V):V:=match l with
 | [v]=>v
 | l=> .tup l
def after (x:X) (ds:List Df) (u:FM):Option FM:=match ds with
 | _ :: _=>none
 | []=>match x with
  | .normal=>some (wT u)
  | .ret=>some (wT u)
  | .panic ch=>some (aCF u ch)
  | .exit _=>none
def pB (o:Oper):Option Nat:=match o.guard with
 | some _=>none
 | none=>match o.op with
  | .call c=>match c.callee with
   | .builtin .recover=>match c.args.toList with
    | []=>o.dst
    | _=>none
   | _=>none
  | _=>none
def xA (d:Nat) (o:Oper):Option Nat:=match o.guard with
 | some _=>none
 | none=>match o.op with
  | .assign (.tmp t)=>match Nat.beq t d with
   | true=>o.dst
   | false=>none
  | _=>none
def recB (c:Code):Option (Nat × Option Nat × Code):=match c with
 | .seq (.region _ ops false) y=>match ops.toList with
  | [o,p]=>match pB o with
   | some d=>match xA d p with
    | some e=>some (d,some e,y)
    | none=>none
   | none=>none
  | [o]=>match pB o with
   | some d=>some (d,none,y)
   | none=>none
  | _=>none
 | _=>none
def aDG (fn:Func) (args:List V) (k:Ac->AL):AL:=cU (Nat.ble (ln args 0) fn.ntmps) (aCQ args 0 .leaf fun e=>k ⟨e,fn.ntmps,[],none⟩)
def noRes (l:List ResultVar):Bool:=match l with
 | []=>true
 | _ :: _=>false
def defer1 (P:Program) (ex:Ex) (d:Df) (u:FM) (k:FM->AL):AL:=match d with
 | .col r=> .getO r fun o=>match o with
  | .dfr true=> .setO r (.dfr false) (k u)
  | _=> .fail
 | .fn f args cap=>oo (bod P f) fun q=>cU (noRes q.1.results.toList) (aDG q.1 (ap args cap) fun a=>match recB q.2 with
  | some (d,e,y)=>insK (some d) a (rcv u).1 fun a=>insK e a (rcv u).1 fun a=>ex y a fun x a=>oo (after x a.ds (rcv u).2) k
  | none=>ex q.2 a fun x a=>oo (after x a.ds u) k)
def gone (P:Program) (fn:Func) (e:Tr V) (u:FM) (k:O->AL):AL:=match u with
 | .ret=>resA P e fn.results.toList fun l=>k (.val (pQ l))
 | .pan ch=>k (.panic ch)
def kO (P:Program) (ex:Ex) (fn:Func) (e:Tr V) (k:O->AL) (ds:List Df):FM->AL:=List.rec (fun u=>gone P fn e u k) (fun d _ ih u=>defer1 P ex d u ih) ds
def left (x:X):Option FM:=X.rec (motive:=fun _=>Option FM) (some .ret) (fun _=>none) (some .ret) (fun ch=>some (.pan ch)) x
def left1 (P:Program) (ex:Ex) (fn:Func) (k:O->AL) (x:X) (a:Ac):AL:=oo (left x) fun u=>acK a fun e _ ds _=>kO P ex fn e k ds u
def uG (P:Program) (ex:Ex) (f:Nat) (args:List V) (k:O->AL):AL:=oo (bod P f) fun q=>aDG q.1 args fun a=>ex q.2 a (left1 P ex q.1 k)
def pendOf (x:X) (ds:List Df):Option (Option Code):=match ds with
 | _ :: _=>none
 | []=>match x with
  | .normal=>some none
  | .ret=>some (some .ret)
  | .exit id=>some (some (.exit id))
  | .panic _=>none
def putPs (ts:List Nat) (n:Nat):List V->Tr V->(Tr V->AL)->AL:=List.rec (fun vs e k=>List.rec (k e) (fun _ _ _=> .fail) vs) (fun t _ ih vs e k=>List.rec .fail (fun v r _=>cU (Nat.blt t n) (pp e (some v) (pa t) fun e=>ih r e k)) vs) ts
def stOf (j:Option Code):LoopState:=match j with
 | none=> .ready
 | some _=> .done
def aB6 (ex:Ex) (l:Nat) (args:List V) (k:O->AL):AL:= .getO l fun o=>match o with
 | .loop .ready p f e n ps sg bd d=>putPs ps n args e fun e'=>ex sg ⟨e',n,[],some l⟩ fun x a=>match x with
  | .normal=> .getO l fun o=>match o with
   | .loop .ready p f e n ps sg' bd' d=> .setO l (.loop .busy p f e n ps sg' bd' d) (ex bd a fun x a=>oo (pendOf x a.ds) fun j=> .getO l fun o=>match o with
    | .loop _ _ f e n ps sg bd d=> .setO l (.loop (stOf j) j f e n ps sg bd d) (k (.val (.bool j.isNone)))
    | _=> .fail)
   | _=> .fail
  | _=> .fail
 | _=> .fail
def invokeA (P:Program) (ex:Ex) (args:List V) (k:O->AL) (v:V):AL:=asFn v (fun f first cap=>uG P ex f (ap first (ap args cap)) k) (fun l=>aB6 ex l args k)
def aAS (P:Program) (t:Nat) (name:String):Option Nat:=match info P t with
 | some i=>match i.methods.find? (·.name==name)with
  | some m=>match m.path.toList with
   | []=>match m.func with
    | some (f,p)=>match und P t with
     | some (.pointer _)=>match p with
      | true=>some f
      | false=>none
     | some _=>match p with
      | true=>none
      | false=>some f
     | none=>none
    | none=>none
   | _=>none
  | none=>none
 | none=>none
def oOut (x:O):KV->(List PE->AL)->AL:=O.rec (motive:=fun _=>KV->(List PE->AL)->AL) (fun v=>fun k _=>k v) (fun ch=>fun _ kp=>kp ch) x
def aAU (f:Operand) (c:Call):H:=fun P ex e k kp _=>cD f e fun fv=>eR c.args.toList e fun args=>invokeA P ex args (fun o=>oOut o k kp) fv
def hInv (x:Operand) (name:String) (c:Call):H:=fun P ex e k kp _=>cD x e fun v=>eR c.args.toList e fun args=>asIf v (fun t w=>oo (aAS P t name) fun f=>uG P ex f (w :: args) fun o=>oOut o k kp) .fail
def hCal (x:Callee):Call->H:=Callee.rec (motive:=fun _=>Call->H) (fun f=>aAU f) (fun x name=>hInv x name) (fun b=>opB b) x
def hCall (c:Call):H:=hCal c.callee c
def valOf (x:Callee):Option Operand:=Callee.rec (motive:=fun _=>Option Operand) (fun f=>some f) (fun _ _=>none) (fun _=>none) x
def uA (c:Call):H:=fun _ _ e _ _ kd=>oo (valOf c.callee) fun f=>cD f e fun fv=>eR c.args.toList e fun args=>asFn fv (fun g first cap=>kd (.fn g (ap first args) cap)) fun _=> .fail
def aBr (x:Operand):H:=fun _ _ e _ kp _=>cD x e fun v=>asIf v (fun t w=>kp [⟨.iface t w,false⟩]) .fail
def opH (x:Op):H:=Op.rec (motive:=fun _=>H) (fun x=>oM x) (fun x=>oM x) (fun c x y=>yJ c x y) (fun t=>aAr t) (fun t x=>hBox t x) (fun t ps=>zN t ps) (fun t n ps=>vU t n ps) (fun t x y z=>hUpd t x y z) (fun t x=>aAe t x) (fun t x y=>wX t x y) (fun _=>cZ) (fun _=>cZ) (fun x=>hNil x) (fun op t x y _=>hBin op t x y) (fun op t x=>hUn op t x) (fun s t x=>zH s t x) (fun _ _=>cZ) (fun t x=>hMkI t x) (fun fn f c=>hMkF fn f c) (fun t r=>hMapN t r) (fun _ _=>cZ) (fun t x y=>hMks t x y) (fun t x lo hi mx=>vY t x lo hi mx) (fun t x f=>zA t x f) (fun t x f=>zJ t x f) (fun t x i=>yU t x i) (fun t x i=>hIdx t x i) (fun t x y ok=>vV t x y ok) (fun t x y z=>hUpd t x y z) (fun _ _ _=>cZ) (fun _ _ _ _=>cZ) (fun _ _=>cZ) (fun _ _=>cZ) (fun _=>cZ) (fun x t T ok=>hTa x t T ok) (fun x i=>hExt x i) (fun c=>hCall c) (fun _=>cZ) (fun c=>uA c) (fun x=>aBr x) (fun _ _=>cZ) (fun _ _ _=>cZ) (fun _ _=>cZ) x
def jX (ops:List Oper) (j:Nat):Option Nat:=opt (nth ops j) none fun o=>o.dst
def aDu (ops:List Oper) (j:Nat) (w:Bool) (e:Tr V) (yes no:AL):AL:=opt (jX ops j) no fun d=>oo (gp e (pa d)) fun v=>asBool v (fun b=>ife b (ife w yes no) (ife w no yes)) no
def fin (d:Option Nat) (e:Tr V) (n:Nat) (ds:List Df) (ro:Option Nat) (ih:Ac->KX->AL) (kx:KX) (v:V):AL:=insE d v e n fun e=>ih ⟨e,n,ds,ro⟩ kx
def pan (kx:KX) (a:Ac) (ch:List PE):AL:=kx (.panic ch) a
def dfr (d:Option Nat) (e:Tr V) (n:Nat) (ds:List Df) (ro:Option Nat) (ih:Ac->KX->AL) (kx:KX) (x:Df):AL:=opt ro (insE d eI e n fun e=>ih ⟨e,n,x :: ds,ro⟩ kx) fun _=> .fail
def opG (g:Option (Nat × Bool)) (all:List Oper) (e:Tr V) (yes no:AL):AL:=opt g yes fun g=>aDu all g.1 g.2 e yes no
def opO (all:List Oper) (P:Program) (ex:Ex) (o:Oper) (ih:Ac->KX->AL) (a:Ac) (k:KX):AL:=acK a fun e n ds ro=>opG o.guard all e (opH o.op P ex e (fin o.dst e n ds ro ih k) (pan k ⟨e,n,ds,ro⟩) (dfr o.dst e n ds ro ih k)) (fin o.dst e n ds ro ih k eI)
def opsA (all:List Oper) (P:Program) (ex:Ex) (ops:List Oper):Ac->KX->AL:=List.rec (fun a k=>k .normal a) (fun o _ ih=>opO all P ex o ih) ops
def bit (n:Nat):Nat:=Nat.shiftLeft 1 n
def has (m i:Nat):Bool:=Nat.beq (Nat.land (Nat.shiftRight m i) 1) 1
def dis (a b:Nat):Bool:=Nat.beq (Nat.land a b) 0
def opTmp:Operand->Nat
 | .tmp t=>bit t
 | _=>0
def mW:List Operand->Nat
 | []=>0
 | x :: r=>Nat.lor (opTmp x) (mW r)
def qI (ds:List Nat) (n:Nat) (l:List Edge):Option Nat:=List.rec (some 0) (fun e _ ih=>Option.rec none (fun m=>Bool.rec (some m) (Bool.rec none (Option.rec none (fun x=>eK (Nat.lor (Nat.lor (bit e.on) x) m) none some) (nth ds (Nat.sub (Nat.sub n 1) e.on))) (Nat.blt e.on n)) (Region.binds .any e)) ih) l
def pE:Option Nat->Nat
 | some t=>bit t
 | none=>0
def gBit (all:List Oper):Option (Nat × Bool)->Nat
 | none=>0
 | some (j,_)=>pE (jX all j)
structure Inf where
 anc:Nat
 tr:Nat
 tw:Nat
def plain?:Op->Bool
 | .defer _=>false
 | .panic _=>false
 | .select _ _=>false
 | _=>true
def infs (all:List Oper) (l:List Oper):List Nat->Nat->(List Inf->Option (List Inf))->Option (List Inf):=List.rec (fun _ _ k=>k []) (fun o _ ih ds n k=>Option.rec none (fun x=>Bool.rec none (eK (Nat.lor (mW o.op.operands.toList) (gBit all o.guard)) none fun tr=>eK (pE o.dst) none fun tw=>ih (x :: ds) (Nat.succ n) fun l=>k (⟨x,tr,tw⟩ :: l)) (plain? o.op)) (qI ds n o.after.toList)) l
def tF (x:Inf) (l:List Inf):Nat->Bool:=List.rec (fun _=>true) (fun y _ ih n=>Bool.rec (Bool.rec false (Bool.rec false (ih (Nat.sub n 1)) (dis y.tw x.tr)) (dis x.tw (Nat.lor y.tr y.tw))) (ih (Nat.sub n 1)) (has x.anc n)) l
def zG (l:List Inf):Nat->List Inf->Bool:=List.rec (fun _ _=>true) (fun x _ ih n done=>Bool.rec false (ih (Nat.succ n) (x :: done)) (tF x done (Nat.sub n 1))) l
def drawn (ops:List Oper):Option (List Inf):=infs ops ops [] 0 fun l=>ife (zG l 0 []) (some l) none
def fpAp (f g:Fp):Bool:=Fp.rec (fun b lo hi w g=>Fp.rec (fun b' lo' hi' w'=>Bool.rec true (Bool.rec (Bool.rec (Bool.rec (Bool.not w') false w) true (Nat.ble hi' lo)) true (Nat.ble hi lo')) (Nat.beq b b')) (fun n0 n1=>Bool.rec (Nat.ble n1 b) true (Nat.blt b n0)) g)
 (fun n0 n1 g=>Fp.rec (fun b _ _ _=>Bool.rec (Nat.ble n1 b) true (Nat.blt b n0)) (fun m0 m1=>Bool.rec (Nat.ble m1 n0) true (Nat.ble n1 m0)) g) f g
def ap1 (f:Fp) (l:List Fp):Bool:=List.rec true (fun g _ ih=>Bool.rec false ih (fpAp f g)) l
def apL (l m:List Fp):Bool:=List.rec true (fun f _ ih=>Bool.rec false ih (ap1 f m)) l
def apart (anc:Nat) (lg:List Fp) (l:List (Nat × List Fp)):Bool:=List.rec true (fun p _ ih=>Bool.rec (Bool.rec false ih (apL lg p.2)) ih (has anc p.1)) l
def retV (v:V):AL:= .ret (.val v)
def noPan (_:List PE):AL:= .fail
def noDfr (_:Df):AL:= .fail
def opD1 (all:List Oper) (P:Program) (ex:Ex) (o:Oper) (x:Inf) (i:Nat) (lg:List (Nat × List Fp)) (e:Tr V) (n:Nat) (ih:Nat->List (Nat × List Fp)->Tr V->AL):AL:=
 opG o.guard all e (.sub (opH o.op P ex e retV noPan noDfr) fun v l=>cU (apart x.anc l lg) (insE o.dst v e n (ih (Nat.succ i) ((i,l) :: lg)))) (insE o.dst eI e n (ih (Nat.succ i) lg))
def opD (all:List Oper) (P:Program) (ex:Ex) (o:Oper) (x:Inf) (ih:Nat->List (Nat × List Fp)->Ac->KX->AL) (i:Nat) (lg:List (Nat × List Fp)) (a:Ac) (k:KX):AL:=acK a fun e n ds ro=>opD1 all P ex o x i lg e n fun i lg e=>ih i lg ⟨e,n,ds,ro⟩ k
def opsD (all:List Oper) (P:Program) (ex:Ex) (ops:List Oper):List Inf->Nat->List (Nat × List Fp)->Ac->KX->AL:=List.rec (fun _ _ _ a k=>k .normal a) (fun o _ ih is=>List.rec (fun _ _ _ _=> .fail) (fun x is _=>opD all P ex o x (ih is)) is) ops
def aGO (ops:Array Oper) (draw:Bool) (P:Program) (ex:Ex) (a:Ac) (k:KX):AL:=ife draw (oo (drawn ops.toList) fun is=>opsD ops.toList P ex ops.toList is 0 [] a k) (opsA ops.toList P ex ops.toList a k)
def blkX (x:X):Nat->KX->Ac->AL:=X.rec (motive:=fun _=>Nat->KX->Ac->AL) (fun _ k=>k .normal) (fun i=>fun id k=>ife (Nat.beq i id) (k .normal) (k (.exit i))) (fun _ k=>k .ret) (fun ch=>fun _ k=>k (.panic ch)) x
def seqX (x:X):(Ac->KX->AL)->KX->Ac->AL:=X.rec (motive:=fun _=>(Ac->KX->AL)->KX->Ac->AL) (fun f k a=>f a k) (fun i=>fun _ k a=>k (.exit i) a) (fun _ k a=>k .ret a) (fun ch=>fun _ k a=>k (.panic ch) a) x
def condX (t f:Ac->KX->AL) (c:Operand) (a:Ac) (k:KX):AL:=cD c a.e fun v=>asBool v (fun b=>ife b t f) (fun _ _=> .fail) a k
def markA (a:Ac) (k:Nat->Ac->AL):AL:=match a with
 | ⟨e,n,ds,ro⟩=>opt ro (.newO (.dfr true) fun r=>k r ⟨e,n, .col r :: ds,ro⟩) fun l=> .getO l fun o=>match o with
  | .loop _ _ _ _ _ _ _ _ d=>k d ⟨e,n,ds,ro⟩
  | _=> .fail
def jumpX:Option Code->Option X
 | none=>some .normal
 | some .ret=>some .ret
 | some (.exit id)=>some (.exit id)
 | _=>none
def isVal (x:O):AL->(List PE->AL)->AL:=O.rec (motive:=fun _=>AL->(List PE->AL)->AL) (fun _=>fun p _=>p) (fun ch=>fun _ f=>f ch) x
def aHl (l:Nat) (k:X->AL):AL:= .getO l fun o=>match o with
 | .loop st p f e n ps sg bd d=>match st with
  | .busy=> .fail
  | _=> .setO l (.loop .exhausted p f e n ps sg bd d) (oo (jumpX p) k)
 | _=> .fail
def rangeA (f:Operand) (ps:Array Tmp) (sg bd:Code) (P:Program) (ex:Ex) (a:Ac) (k:KX):AL:=cD f a.e fun fv=>markA a fun d a=>
 .newO (.loop .ready none 0 a.e a.n ps.toList sg bd d) fun l=>asFn fv (fun g first cap=>uG P ex g (ap first (ap [.yld l] cap)) fun o=>isVal o (aHl l fun x=>k x a) (fun ch=>k (.panic ch) a)) fun _=> .fail
def qE (P:Program) (ex:Ex) (c:Code):Ac->KX->AL:=Code.rec (fun a k=>k .normal a) (fun _ ops d a k=>aGO ops d P ex a k) (fun _ _ ia ib a k=>ia a fun x=>seqX x ib k) (fun c _ _ it if_ a k=>condX it if_ c a k)
 (fun id _ ib a k=>ib a fun x=>blkX x id k) (fun b ib a k=>ib a fun x=>seqX x (ex (.loop b)) k) (fun f ps sg bd _ _ a k=>rangeA f ps sg bd P ex a k) (fun id a k=>k (.exit id) a)
 (fun _ _ _ _=> .fail) (fun _ a k=>k .normal a) (fun _ _ _=> .fail) (fun a k=>k .ret a) (fun _ _ _=> .fail) c
def exec (P:Program) (n:Nat):Ex:=Nat.rec (fun _ _ _=> .fail) (fun _ ex c=>qE P ex c) n
def run0 (P:Program) (n:Nat) (f:Nat):R:=run (uG P (exec P n) f [] .ret) .leaf 0 []
def okB (r:R) (b:Bool):Bool:=match r with
 | some (.val (.bool c),_)=>c==b
 | _=>false
end
noncomputable section
theorem aGR (d n:Nat):paD (d+1) n=bif Nat.beq n 0 then .h else bif Nat.beq (n % 2) 1 then .l (paD d (n / 2)) else .r (paD d (n / 2 - 1)):=by
 show(Bool.rec (Bool.rec (Pa.r (paD d (n / 2 - 1))) (Pa.l (paD d (n / 2))) (Nat.beq (n % 2) 1)) Pa.h (Nat.beq n 0):Pa)=_
 cases Nat.beq n 0 <;> cases Nat.beq (n % 2) 1 <;> rfl
theorem qY {a b:Nat} (h:a≠b):Nat.beq a b=false:=by
 cases hb:Nat.beq a b with
 | false=>rfl
 | true=>exact absurd (a1D hb) h
theorem tR {a b:Nat} (h:a=b):Nat.beq a b=true:=by subst h;simp
theorem aDA:∀ (d n e m:Nat),n<d->m<e->paD d n=paD e m->n=m
 | 0,_,_,_,h,_,_=>by omega
 | _+1,_,0,_,_,h,_=>by omega
 | d+1,n,e+1,m,hn,hm,h=>by
  rw [aGR,aGR]at h;rcases a1E n with h0 | h0 <;> rcases a1E m with g0 | g0
  ·omega
  ·subst h0;rw [tR rfl,qY (by omega:m≠0)]at h;simp only [a1Y,a1X]at h;cases hb:Nat.beq (m % 2) 1 <;> rw [hb]at h <;> cases h
  ·subst g0;rw [tR rfl,qY (by omega:n≠0)]at h;simp only [a1Y,a1X]at h;cases hb:Nat.beq (n % 2) 1 <;> rw [hb]at h <;> cases h
  ·rw [qY (by omega:n≠0),qY (by omega:m≠0)]at h;simp only [a1X]at h;by_cases h1:n % 2=1 <;> by_cases g1:m % 2=1
   ·rw [tR h1,tR g1]at h;simp only [a1Y,Pa.l.injEq]at h;have:=aDA d (n / 2) e (m / 2) (by omega) (by omega) h
    omega
   ·rw [tR h1,qY g1]at h;cases h
   ·rw [qY h1,tR g1]at h;cases h
   ·rw [qY h1,qY g1]at h;simp only [a1X,Pa.r.injEq]at h;have:=aDA d (n / 2 - 1) e (m / 2 - 1) (by omega) (by omega) h
    omega
theorem pa_inj {n m:Nat} (h:pa n=pa m):n=m:=aDA (n+1) n (m+1) m (by omega) (by omega) h
section
variable {α:Type}
theorem gp_l (l r:Tr α) (v:Option α) (p:Pa):gp (.node l v r) (.l p)=gp l p:=rfl
theorem gp_r (l r:Tr α) (v:Option α) (p:Pa):gp (.node l v r) (.r p)=gp r p:=rfl
def put (t:Tr α) (v:Option α) (p:Pa):Tr α:=pp t v p fun t=>t
theorem rW (v:Option α):∀ (p:Pa) {β:Type} (k:Tr α->β),one' v p k=k (one' v p fun t=>t)
 | .h,_,_=>rfl
 | .l p,_,k=>by
  show one' v p _=k (one' v p _)
  rw [rW v p,rW v p (fun t=>Tr.node t none .leaf)]
 | .r p,_,k=>by
  show one' v p _=k (one' v p _)
  rw [rW v p,rW v p (fun t=>Tr.node .leaf none t)]
theorem pp_k (v:Option α):∀ (t:Tr α) (p:Pa) {β:Type} (k:Tr α->β),pp t v p k=k (put t v p)
 | .leaf,p,_,k=>rW v p k
 | .node l x r, .h,_,k=>rfl
 | .node l x r, .l p,_,k=>by
  show pp l v p _=k (pp l v p _)
  rw [pp_k v l p,pp_k v l p (fun l'=>Tr.node l' x r)]
 | .node l x r, .r p,_,k=>by
  show pp r v p _=k (pp r v p _)
  rw [pp_k v r p,pp_k v r p (fun r'=>Tr.node l x r')]
theorem aBH (v:Option α) (p:Pa):put (.leaf:Tr α) v (.l p)= .node (put .leaf v p) none .leaf:=by
 show one' v p _=_;rw [rW];rfl
theorem aAM (v:Option α) (p:Pa):put (.leaf:Tr α) v (.r p)= .node .leaf none (put .leaf v p):=by
 show one' v p _=_;rw [rW];rfl
theorem put_l (l r:Tr α) (x v:Option α) (p:Pa):put (.node l x r) v (.l p)= .node (put l v p) x r:=by
 show pp l v p _=_;rw [pp_k]
theorem put_r (l r:Tr α) (x v:Option α) (p:Pa):put (.node l x r) v (.r p)= .node l x (put r v p):=by
 show pp r v p _=_;rw [pp_k]
theorem wY (v:Option α):∀ (t:Tr α) (p:Pa),gp (put t v p) p=v
 | .leaf, .h=>rfl
 | .leaf, .l p=>by rw [aBH,gp_l];exact wY v .leaf p
 | .leaf, .r p=>by rw [aAM,gp_r];exact wY v .leaf p
 | .node l x r, .h=>rfl
 | .node l x r, .l p=>by rw [put_l,gp_l];exact wY v l p
 | .node l x r, .r p=>by rw [put_r,gp_r];exact wY v r p
theorem xI (v:Option α):∀ (t:Tr α) (p q:Pa),p≠q->gp (put t v p) q=gp t q
 | .leaf, .h, .h,h=>absurd rfl h
 | .leaf, .h, .l q,_=>rfl
 | .leaf, .h, .r q,_=>rfl
 | .leaf, .l p, .h,_=>by rw [aBH];rfl
 | .leaf, .l p, .l q,h=>by rw [aBH,gp_l,xI v .leaf p q (fun e=>h (e ▸ rfl))];rfl
 | .leaf, .l p, .r q,_=>by rw [aBH];rfl
 | .leaf, .r p, .h,_=>by rw [aAM];rfl
 | .leaf, .r p, .l q,_=>by rw [aAM];rfl
 | .leaf, .r p, .r q,h=>by rw [aAM,gp_r,xI v .leaf p q (fun e=>h (e ▸ rfl))];rfl
 | .node l x r, .h, .h,h=>absurd rfl h
 | .node l x r, .h, .l q,_=>rfl
 | .node l x r, .h, .r q,_=>rfl
 | .node l x r, .l p, .h,_=>by rw [put_l];rfl
 | .node l x r, .l p, .l q,h=>by rw [put_l,gp_l,gp_l,xI v l p q (fun e=>h (e ▸ rfl))]
 | .node l x r, .l p, .r q,_=>by rw [put_l];rfl
 | .node l x r, .r p, .h,_=>by rw [put_r];rfl
 | .node l x r, .r p, .l q,_=>by rw [put_r];rfl
 | .node l x r, .r p, .r q,h=>by rw [put_r,gp_r,gp_r,xI v r p q (fun e=>h (e ▸ rfl))]
def at_ (t:Tr α) (n:Nat):Option α:=gp t (pa n)
def pu (t:Tr α) (n:Nat) (v:Option α):Tr α:=put t v (pa n)
theorem fQ (t:Tr α) (n m:Nat) (v:Option α):at_ (pu t n v) m=if m=n then v else at_ t m:=by
 by_cases h:m=n
 ·subst h;rw [a2d rfl];exact wY v t _
 ·rw [a2c h];exact xI v t _ _ fun e=>h (pa_inj e).symm
theorem at_same {t:Tr α} {n:Nat} {v:Option α}:at_ (pu t n v) n=v:=by rw [fQ,a2d rfl]
theorem at_ne {t:Tr α} {n m:Nat} {v:Option α} (h:m≠n):at_ (pu t n v) m=at_ t m:=by rw [fQ,a2c h]
theorem xZ (n:Nat):at_ (.leaf:Tr α) n=none:=rfl
theorem mX {β:Type} (t:Tr α) (v:Option α) (n:Nat) (k:Tr α->β):pp t v (pa n) k=k (pu t n v):=pp_k v t _ k
theorem aCm:∀ (l:List α) (n:Nat) (t:Tr α) (m:Nat),at_ (tX l n t fun t=>t) m=if n<=m/\m<n+l.length then l[m - n]? else at_ t m
 | [],n,t,m=>by rw [a2c (by simp)];rfl
 | x :: l,n,t,m=>by
  show at_ (pp t (some x) (pa n) _) m=_
  rw [mX];show at_ (tX l (n+1) (pu t n (some x)) fun t=>t) m=_
  rw [aCm l (n+1) _ m];by_cases h1:n+1<=m/\m<n+1+l.length
  ·rw [a2d h1,a2d (by simp;omega),show m - n=(m - (n+1))+1 from by omega,a0F]
  ·rw [a2c h1,fQ];by_cases h2:m=n
   ·subst h2;rw [a2d rfl,a2d (by simp)];simp
   ·rw [a2c h2,a2c (by simp;omega)]
end
section
variable {α:Type}
theorem lV:∀ (l:List α) (n:Nat),nth l n=l[n]?
 | [],_=>rfl
 | _ :: _,0=>rfl
 | _ :: l,n+1=>by rw [a0F,<- lV l n];rfl
theorem dr_eq:∀ (n:Nat) (l:List α),dr n l=l.drop n
 | 0,_=>rfl
 | _+1,[]=>rfl
 | n+1,_ :: l=>by rw [List.drop_succ_cons,<- dr_eq n l];rfl
theorem xK:∀ (n:Nat) (l r:List α),tk n l=some r ↔ n<=l.length/\r=l.take n
 | 0,l,r=>by show some []=some r ↔ _;simp [eq_comm]
 | n+1,[],r=>by show none=some r ↔ _;simp
 | n+1,x :: l,r=>by
  show(Option.rec none (fun t=>some (x :: t)) (tk n l):Option (List α))=some r ↔ _
  cases h:tk n l with
  | none=>
   have:¬ n<=l.length:=fun e=>by have:=(xK n l (l.take n)).2 ⟨e,rfl⟩;rw [h]at this;cases this
   simp;omega
  | some t=>
   have:=(xK n l t).1 h;simp only [a1U,a0S,List.take_succ_cons];constructor
   ·rintro rfl;exact⟨by omega,by rw [this.2]⟩
   ·rintro⟨_,rfl⟩;rw [this.2]
theorem jD:∀ (l m:List α),ap l m=l++m
 | [],_=>rfl
 | x :: l,m=>by rw [a0w,<- jD l m];rfl
theorem ln_eq:∀ (l:List α) (n:Nat),ln l n=l.length+n
 | [],n=>by simp;rfl
 | _ :: l,n=>by
  show ln l (n+1)=_
  rw [ln_eq l (n+1),a0S];omega
theorem ln0 (l:List α):ln l 0=l.length:=ln_eq l 0
theorem ov_eq:∀ (new c r:List α),ov new c=some r ↔ new.length<=c.length/\r=new++c.drop new.length
 | [],c,r=>by show some c=some r ↔ _;simp [eq_comm]
 | x :: l,[],r=>by show none=some r ↔ _;simp
 | x :: l,_ :: c,r=>by
  show(Option.rec none (fun t=>some (x :: t)) (ov l c):Option (List α))=some r ↔ _
  cases h:ov l c with
  | none=>
   have:¬ l.length<=c.length:=fun e=>by have:=(ov_eq l c _).2 ⟨e,rfl⟩;rw [h]at this;cases this
   simp only [a0S];constructor
   ·intro e;cases e
   ·rintro⟨e,_⟩;omega
  | some t=>
   have:=(ov_eq l c t).1 h;simp only [a1U,a0S,a0w,List.drop_succ_cons];constructor
   ·rintro rfl;exact⟨by omega,by rw [this.2]⟩
   ·rintro⟨_,rfl⟩;rw [this.2]
theorem tO (new:List α):∀ (off:Nat) (c r:List α),pl new off c=some r ↔ off+new.length<=c.length/\r=c.take off++new++c.drop (off+new.length)
 | 0,c,r=>by
  show ov new c=some r ↔ _
  rw [ov_eq];simp
 | off+1,[],r=>by show none=some r ↔ _;simp
 | off+1,x :: c,r=>by
  show(Option.rec none (fun t=>some (x :: t)) (pl new off c):Option (List α))=some r ↔ _
  cases h:pl new off c with
  | none=>
   have:¬ off+new.length<=c.length:=fun e=>by have:=(tO new off c _).2 ⟨e,rfl⟩;rw [h]at this;cases this
   constructor
   ·intro e;cases e
   ·rintro⟨e,_⟩;simp at e;omega
  | some t=>
   have:=(tO new off c t).1 h;have e:off+1+new.length=(off+new.length)+1:=by omega
   simp only [a1U,a0S,e,List.take_succ_cons,List.drop_succ_cons,a0w];constructor
   ·rintro rfl;exact⟨by omega,by rw [this.2]⟩
   ·rintro⟨_,rfl⟩;rw [this.2]
theorem aDZ (l:List α):∀ n,rep l n=(List.replicate n l).flatten
 | 0=>rfl
 | n+1=>by
  show ap l (rep l n)=_
  rw [jD,aDZ l n,List.replicate_succ,List.flatten_cons]
theorem wM {β:Type} (n:Nat) (d:β) (f:Nat->β):eK n d f=f n:=rfl
end
end
noncomputable section
inductive CV where
 | val (v:V)
 | mark (n t op:Nat)
 | obj (o:Ob)
def cvB (k:Option Blk) (i:Nat):Option CV:=match k with
 | none=>none
 | some (.cells c t op)=>if i=c.length then some (.mark i t op) else c[i]?.map .val
 | some (.obj o)=>if i=0 then some (.obj o) else none
def cv (h:Tr Blk) (b i:Nat):Option CV:=cvB (at_ h b) i
theorem lR {k:Option Blk} {i:Nat} {v:V}:cvB k i=some (.val v) ↔ ∃ c t op,k=some (.cells c t op)/\c[i]? =some v:=by
 match k with
 | none=>simp [cvB]
 | some (.obj o)=>simp only [cvB];split <;> simp
 | some (.cells c t op)=>
  simp only [cvB,a1U,Blk.cells.injEq];constructor
  ·intro h;split at h
   ·cases h
   ·exact⟨c,t,op,⟨rfl,rfl,rfl⟩,by simpa using h⟩
  ·rintro⟨c',t',op',⟨rfl,rfl,rfl⟩,h⟩
   rw [a2c (by have:=(a0K.1 h).1;omega),h];rfl
theorem vI {k:Option Blk} {i n t op:Nat}:cvB k i=some (.mark n t op) ↔ ∃ c,k=some (.cells c t op)/\c.length=n/\i=n:=by
 match k with
 | none=>simp [cvB]
 | some (.obj o)=>simp only [cvB];split <;> simp
 | some (.cells c t' op')=>
  simp only [cvB,a1U,Blk.cells.injEq];constructor
  ·intro h;split at h
   ·cases h;exact⟨c,⟨rfl,rfl,rfl⟩,by omega,rfl⟩
   ·simp at h
  ·rintro⟨c',⟨rfl,rfl,rfl⟩,rfl,rfl⟩
   rw [a2d rfl]
theorem qZ {k:Option Blk} {i:Nat} {o:Ob}:cvB k i=some (.obj o) ↔ k=some (.obj o)/\i=0:=by
 match k with
 | none=>simp [cvB]
 | some (.obj o')=>simp only [cvB,a1U,Blk.obj.injEq];split <;> simp_all
 | some (.cells c t' op')=>
  simp only [cvB,a1U];constructor
  ·intro h;split at h
   ·cases h
   ·simp at h
  ·rintro⟨h,_⟩;cases h
theorem aGr {k:Option Blk} (h:∀ i,cvB k i=none):k=none:=by
 match k with
 | none=>rfl
 | some (.obj o)=>have:=h 0;simp [cvB]at this
 | some (.cells c t op)=>have:=h c.length;simp [cvB]at this
theorem cvB_ext {k k':Option Blk} (h:∀ i,cvB k i=cvB k' i):k=k':=by
 match k with
 | none=>exact(aGr fun i=>(h i).symm).symm
 | some (.obj o)=>
  have:=(h 0).symm.trans (qZ.2 ⟨rfl,rfl⟩);exact(qZ.1 this).1.symm
 | some (.cells c t op)=>
  have h1:cvB (some (.cells c t op)) c.length=some (.mark c.length t op):=vI.2 ⟨c,rfl,rfl,rfl⟩;obtain⟨c',hk,hl,_⟩:=vI.1 ((h _).symm.trans h1);subst hk;have:c'=c:=by
   apply a0A
   intro i;by_cases hi:i<c.length
   ·have h2:cvB (some (.cells c t op)) i=some (.val c[i]):=lR.2 ⟨c,t,op,rfl,by simp [hi]⟩
    obtain⟨_,_,_,e,h3⟩:=lR.1 ((h _).symm.trans h2);cases e;rw [h3];simp [hi]
   ·rw [a0J (by omega),a0J (by omega)]
  rw [this]
def Fp.t:Fp->Nat->Nat->Prop
 | .cell b lo hi _,c,i=>c=b/\lo<=i/\i<hi
 | .fresh n0 n1,c,_=>n0<=c/\c<n1
def Fp.w:Fp->Nat->Nat->Prop
 | .cell b lo hi w,c,i=>w=true/\c=b/\lo<=i/\i<hi
 | .fresh n0 n1,c,_=>n0<=c/\c<n1
def T (l:List Fp) (b i:Nat):Prop:=∃ f∈l,f.t b i
def W (l:List Fp) (b i:Nat):Prop:=∃ f∈l,f.w b i
theorem w_t {f:Fp} {b i:Nat} (h:f.w b i):f.t b i:=by
 cases f with
 | cell=>exact h.2
 | fresh=>exact h
theorem W.t {l:List Fp} {b i:Nat} (h:W l b i):T l b i:=let ⟨f,m,x⟩:=h;⟨f,m,w_t x⟩
theorem T_app {l m:List Fp} {b i:Nat}:T (l++m) b i ↔ T l b i\/T m b i:=by simp [T,or_and_right,exists_or]
theorem yW {l m:List Fp} {b i:Nat}:W (l++m) b i ↔ W l b i\/W m b i:=by simp [W,or_and_right,exists_or]
theorem zX {f:Fp} {b i:Nat}:T [f] b i ↔ f.t b i:=by simp [T]
theorem uU {f:Fp} {b i:Nat}:W [f] b i ↔ f.w b i:=by simp [W]
theorem aEm {b i:Nat}:¬ W [] b i:=fun ⟨_,h,_⟩=>by cases h
def Agr (l:List Fp) (g h:Tr Blk):Prop:=∀ b i,T l b i->cv g b i=cv h b i
structure Dif (l:List Fp) (g h1 g1:Tr Blk):Prop where
 inn:∀ b i,W l b i->cv g1 b i=cv h1 b i
 out:∀ b i,¬ W l b i->cv g1 b i=cv g b i
abbrev Pr (α:Type):=Tr Blk->Nat->Option (α × Tr Blk × Nat × List Fp)
structure iD {α:Type} (pr:Pr α):Prop where
 mono:∀ {h nx x h1 n1 l},pr h nx=some (x,h1,n1,l)->nx<=n1
 out:∀ {h nx x h1 n1 l},pr h nx=some (x,h1,n1,l)->∀ b i,¬ W l b i->cv h1 b i=cv h b i
 loc:∀ {h nx x h1 n1 l},pr h nx=some (x,h1,n1,l)->∀ g,Agr l g h->∃ g1,pr g nx=some (x,g1,n1,l)/\Dif l g h1 g1
structure Loc (f:St):Prop where
 shape:∀ {h nx lg r},f h nx lg=some r->∃ l,r.2.log=l++lg/\nx<=r.2.nx/\(∀ b i,¬ W l b i->cv r.2.h b i=cv h b i) /\
  ∀ g lg2,Agr l g h->∃ g1,f g nx lg2=some (r.1,⟨g1,r.2.nx,l++lg2⟩)/\Dif l g r.2.h g1
theorem Agr.app1 {l m:List Fp} {g h:Tr Blk} (a:Agr (m++l) g h):Agr l g h:=fun b i t=>a b i (T_app.2 (.inr t))
theorem Loc.seq {α:Type} {pr:Pr α} {k:α->St} {f:St} (hp:iD pr) (hk:∀ x,Loc (k x))
 (hf:∀ h nx lg,f h nx lg=match pr h nx with
  | none=>none
  | some (x,h1,n1,l)=>k x h1 n1 (l++lg)):Loc f:=⟨fun {h nx lg r} e=>by
 rw [hf]at e
 cases hq:pr h nx with
 | none=>rw [hq]at e;cases e
 | some q=>
  obtain⟨x,h1,n1,l1⟩:=q;rw [hq]at e;obtain⟨l2,e1,e2,e3,e4⟩:=(hk x).shape e;refine⟨l2++l1,by rw [e1];simp,a1H (hp.mono hq) e2,fun b i hw=>?_,fun g lg2 ha=>?_⟩
  ·rw [e3 b i fun w=>hw (yW.2 (.inl w)),hp.out hq b i fun w=>hw (yW.2 (.inr w))]
  ·obtain⟨g1,f1,d1⟩:=hp.loc hq g ha.app1;have ha2:Agr l2 g1 h1:=fun b i t=>by
    by_cases hw:W l1 b i
    ·exact d1.inn b i hw
    ·rw [d1.out b i hw,ha b i (T_app.2 (.inl t)),hp.out hq b i hw]
   obtain⟨g2,f2,d2⟩:=e4 g1 (l1++lg2) ha2;refine⟨g2,by rw [hf,f1];simp only [];rw [f2,a0u],fun b i hw=>?_,fun b i hw=>?_⟩
   ·by_cases hw2:W l2 b i
    ·exact d2.inn b i hw2
    ·rw [d2.out b i hw2,e3 b i hw2];exact d1.inn b i ((yW.1 hw).resolve_left hw2)
   ·rw [d2.out b i fun w=>hw (yW.2 (.inl w)),d1.out b i fun w=>hw (yW.2 (.inr w))]⟩
theorem sN {h:Tr Blk} {b c i:Nat} {k:Option Blk}:cv (pu h b k) c i=if c=b then cvB k i else cv h c i:=by
 unfold cv;rw [fQ];split <;> rfl
def pRd (b off n:Nat):Pr (List V):=fun h nx=>match at_ h b with
 | some (.cells c _ _)=>match tk n (dr off c)with
  | some l=>if 0<n then some (l,h,nx,[.cell b off (off+n) false]) else none
  | none=>none
 | _=>none
theorem tk_dr {n off:Nat} {c l:List V}:tk n (dr off c)=some l ↔ (n=l.length/\(0<n->off+n<=c.length)/\∀ j,j<n->c[off+j]? =l[j]?):=by
 rw [dr_eq,xK]
 constructor
 ·rintro⟨h,rfl⟩
  simp only [a0T]at h;refine⟨by simp;omega,fun _=>by omega,fun j hj=>?_⟩
  rw [a0P hj,a0H]
 ·rintro⟨h1,h2,h3⟩
  have hle:n<=(c.drop off).length:=by
   rcases a1E n with h0 | h0
   ·omega
   ·have:=h2 h0;simp;omega
  refine⟨hle,a0A fun j=>?_⟩
  by_cases hj:j<n
  ·rw [a0P hj,a0H,h3 j hj]
  ·rw [a0J (by omega),a0J (by simp;omega)]
theorem pRd_loc (b off n:Nat):iD (pRd b off n):=by
 have inv:∀ {h nx x h1 n1 l},pRd b off n h nx=some (x,h1,n1,l)->h1=h/\n1=nx/\l=[.cell b off (off+n) false]/\0<n/\n=x.length/\∀ j,j<n->cv h b (off+j)=x[j]?.map .val:=by
  intro h nx x h1 n1 l e;unfold pRd at e;split at e
  ·rename_i c t op hb;split at e
   ·rename_i l' htk;split at e
    ·rename_i hn;cases e;obtain⟨e1,e2,e3⟩:=tk_dr.1 htk;refine⟨rfl,rfl,rfl,hn,e1,fun j hj=>?_⟩
     have hx:j<x.length:=by omega
     rw [a0I hx,a1S];exact lR.2 ⟨c,t,op,hb,by rw [e3 j hj,a0I hx]⟩
    ·cases e
   ·cases e
  ·cases e
 refine⟨fun e=>?_,fun e b i _=>?_,fun {h nx x h1 n1 l} e g ha=>?_⟩
 ·obtain⟨_,rfl,_⟩:=inv e;exact a1G _
 ·obtain⟨rfl,_⟩:=inv e;rfl
 ·obtain⟨rfl,rfl,rfl,hn,hx,hv⟩:=inv e;refine⟨g,?_,fun c i hw=>?_,fun _ _ _=>rfl⟩
  ·have hg:∀ j,j<n->cv g b (off+j)=x[j]?.map .val:=fun j hj=>by
    rw [ha b (off+j) (zX.2 ⟨rfl,by omega,by omega⟩)];exact hv j hj
   have h0:=hg 0 hn;rw [a0I (by omega),a1S]at h0;obtain⟨c,t,op,hb,_⟩:=lR.1 h0;have:tk n (dr off c)=some x:=tk_dr.2 ⟨hx,fun _=>?_,fun j hj=>?_⟩
   ·unfold pRd;rw [hb];simp only [];rw [this];simp only [hn,if_true]
   ·have h1:=hg (n - 1) (by omega)
    rw [a0I (by omega),a1S]at h1;obtain⟨c',_,_,hb',h2⟩:=lR.1 h1;rw [hb]at hb';cases hb'
    have:=(a0K.1 h2).1;omega
   ·have h1:=hg j hj;rw [a0I (by omega),a1S]at h1;obtain⟨c',_,_,hb',h2⟩:=lR.1 h1;rw [hb]at hb';cases hb'
    rw [h2,a0I]
  ·rw [uU]at hw;cases hw.1
theorem aAY {g h:Tr Blk} {b:Nat} {k k':Option Blk} {l:List Fp} (hl:∀ c i,W l c i->c=b) (hi:∀ i,W l b i->cvB k' i=cvB k i) (ho:∀ i,¬ W l b i->cvB k' i=cv g b i):Dif l g (pu h b k) (pu g b k'):=
 ⟨fun c i hw=>by obtain rfl:=hl c i hw;rw [sN,sN,a2d rfl,a2d rfl];exact hi i hw,
  fun c i hw=>by rw [sN];split
                 ·rename_i e;subst e;exact ho i hw
                 ·rfl⟩
theorem aAm {g h:Tr Blk} {l:List Fp} (hl:∀ c i,¬ W l c i):Dif l g h g:=⟨fun c i hw=>absurd hw (hl c i),fun _ _ _=>rfl⟩
def pRd1 (b off:Nat):Pr V:=fun h nx=>match at_ h b with
 | some (.cells c _ _)=>match c[off]? with
  | some v=>some (v,h,nx,[.cell b off (off+1) false])
  | none=>none
 | _=>none
theorem xF {b off:Nat} {h:Tr Blk} {nx:Nat} {q:V × Tr Blk × Nat × List Fp}:pRd1 b off h nx=some q ↔ cv h b off=some (.val q.1)/\q.2=(h,nx,[.cell b off (off+1) false]):=by
 obtain⟨v,q⟩:=q
 unfold pRd1 cv
 rw [lR]
 constructor
 ·intro e;split at e
  ·rename_i c t op hb;split at e
   ·rename_i u hu;cases e;exact⟨⟨c,t,op,hb,hu⟩,rfl⟩
   ·cases e
  ·cases e
 ·rintro⟨⟨c,t,op,hb,hu⟩,rfl⟩
  rw [hb];simp only [];simp only at hu;rw [hu]
theorem aCf {b lo hi:Nat}:∀ c i,¬ W [.cell b lo hi false] c i:=fun c i hw=>by rw [uU]at hw;cases hw.1
theorem pRd1_loc (b off:Nat):iD (pRd1 b off):=by
 refine⟨fun e=>?_,fun e b i _=>?_,fun e g ha=>?_⟩
 ·have:=(xF.1 e).2;cases this;exact a1G _
 ·have:=(xF.1 e).2;cases this;rfl
 ·obtain⟨e1,e2⟩:=xF.1 e;cases e2;exact⟨g,xF.2 ⟨by rw [ha b off (zX.2 ⟨rfl,by omega,by omega⟩)];exact e1,rfl⟩,aAm aCf⟩
def pWr (b off:Nat) (l:List V):Pr Unit:=fun h nx=>match at_ h b with
 | some (.cells c t op)=>match pl l off c with
  | some c'=>if 0<l.length then some ((),pu h b (some (.cells c' t op)),nx,[.cell b off (off+l.length) true]) else none
  | none=>none
 | _=>none
theorem over_get {c l:List V} {off i:Nat} (h:off+l.length<=c.length):(c.take off++l++c.drop (off+l.length))[i]? =if off<=i/\i<off+l.length then l[i - off]? else c[i]?:=by
 rw [a0u,List.getElem?_append,List.length_take,a1L (by omega)]
 by_cases h1:i<off
 ·rw [a2d h1,a2c (by omega),a0P h1]
 ·rw [a2c h1,List.getElem?_append];by_cases h2:i - off<l.length
  ·rw [a2d h2,a2d (by omega)]
  ·rw [a2c h2,a2c (by omega),a0H];congr 1;omega
theorem over_len {c l:List V} {off:Nat} (h:off+l.length<=c.length):(c.take off++l++c.drop (off+l.length)).length=c.length:=by
 simp;omega
theorem aBs {c l:List V} {off t op i:Nat} (h:off+l.length<=c.length):cvB (some (.cells (c.take off++l++c.drop (off+l.length)) t op)) i =
 if off<=i/\i<off+l.length then l[i - off]?.map .val else cvB (some (.cells c t op)) i:=by
 simp only [cvB,over_len h,over_get h]
 by_cases h1:off<=i/\i<off+l.length
 ·rw [a2d h1,a2d h1,a2c (by omega)]
 ·rw [a2c h1,a2c h1]
theorem pWr_loc (b off:Nat) (l:List V):iD (pWr b off l):=by
 have inv:∀ {h nx q},pWr b off l h nx=some q ↔ ∃ c t op,at_ h b=some (.cells c t op)/\off+l.length<=c.length/\0<l.length/\q=((),pu h b (some (.cells (c.take off++l++c.drop (off+l.length)) t op)),nx,[.cell b off (off+l.length) true]):=by
  intro h nx q;unfold pWr;constructor
  ·intro e;split at e
   ·rename_i c t op hb;split at e
    ·rename_i c' hpl;split at e
     ·rename_i hn;cases e;obtain⟨h1,rfl⟩:=(tO l off c c').1 hpl;exact⟨c,t,op,hb,h1,hn,rfl⟩
     ·cases e
    ·cases e
   ·cases e
  ·rintro⟨c,t,op,hb,h1,hn,rfl⟩
   rw [hb];simp only [];rw [(tO l off c _).2 ⟨h1,rfl⟩];simp only [hn,if_true]
 have hw:∀ c i,W [.cell b off (off+l.length) true] c i ↔ c=b/\off<=i/\i<off+l.length:=fun c i=>by rw [uU];exact⟨fun h=>h.2,fun h=>⟨rfl,h⟩⟩
 refine⟨fun e=>?_,fun e c i hn=>?_,fun {h nx x h1 n1 m} e g ha=>?_⟩
 ·obtain⟨_,_,_,_,_,_,q⟩:=inv.1 e;cases q;exact a1G _
 ·obtain⟨cs,t,op,hb,hle,_,q⟩:=inv.1 e;cases q;rw [sN];split
  ·rename_i hc;subst hc
   rw [aBs hle,a2c fun hx=>hn ((hw _ _).2 ⟨rfl,hx⟩)];unfold cv;rw [hb]
  ·rfl
 ·obtain⟨cs,t,op,hb,hle,hpos,q⟩:=inv.1 e;cases q;have hcell:∀ j,off<=j->j<off+l.length->∃ c' t' op',at_ g b=some (.cells c' t' op')/\j<c'.length:=fun j h1 h2=>by
   have hx:cv h b j=some (.val (cs[j]'(by omega))):=lR.2 ⟨cs,t,op,hb,by simp⟩
   obtain⟨c',t',op',e1,e2⟩:=lR.1 ((ha b j (zX.2 ⟨rfl,h1,h2⟩)).trans hx);exact⟨c',t',op',e1,(a0K.1 e2).1⟩
  obtain⟨c',t',op',hg,_⟩:=hcell off (by omega) (by omega)
  have hle':off+l.length<=c'.length:=by
   obtain⟨c'',_,_,hg',hl⟩:=hcell (off+l.length - 1) (by omega) (by omega)
   rw [hg]at hg';cases hg';omega
  refine⟨_,inv.2 ⟨c',t',op',hg,hle',hpos,rfl⟩,aAY (fun c i h=>((hw c i).1 h).1) (fun i h=>?_) fun i h=>?_⟩
  ·have:=((hw _ _).1 h).2;rw [aBs hle',aBs hle,a2d this,a2d this]
  ·rw [aBs hle',a2c fun hx=>h ((hw _ _).2 ⟨rfl,hx⟩)];unfold cv;rw [hg]
def pSz (b:Nat):Pr (Nat × Nat × Nat):=fun h nx=>match at_ h b with
 | some (.cells c t op)=>some ((c.length,t,op),h,nx,[.cell b c.length (c.length+1) false])
 | _=>none
theorem pSz_loc (b:Nat):iD (pSz b):=by
 have inv:∀ {h nx q},pSz b h nx=some q ↔ ∃ n t op,cv h b n=some (.mark n t op)/\q=((n,t,op),h,nx,[.cell b n (n+1) false]):=by
  intro h nx q;unfold pSz cv;constructor
  ·intro e;split at e
   ·rename_i c t op hb;cases e;exact⟨c.length,t,op,by rw [hb];exact vI.2 ⟨c,rfl,rfl,rfl⟩,rfl⟩
   ·cases e
  ·rintro⟨n,t,op,h1,rfl⟩
   obtain⟨c,hb,rfl,_⟩:=vI.1 h1;rw [hb]
 refine⟨fun e=>?_,fun e b i _=>?_,fun e g ha=>?_⟩
 ·obtain⟨_,_,_,_,q⟩:=inv.1 e;cases q;exact a1G _
 ·obtain⟨_,_,_,_,q⟩:=inv.1 e;cases q;rfl
 ·obtain⟨n,t,op,h1,q⟩:=inv.1 e;cases q;exact⟨g,inv.2 ⟨n,t,op,by rw [ha b n (zX.2 ⟨rfl,by omega,by omega⟩)];exact h1,rfl⟩,aAm aCf⟩
def iT (x:Blk):Pr Nat:=fun h nx=>match at_ h nx with
 | none=>some (nx,pu h nx (some x),nx+1,[.fresh nx (nx+1)])
 | some _=>none
theorem aEk (x:Blk):iD (iT x):=by
 have inv:∀ {h nx q},iT x h nx=some q ↔ at_ h nx=none/\q=(nx,pu h nx (some x),nx+1,[.fresh nx (nx+1)]):=by
  intro h nx q;unfold iT;constructor
  ·intro e;split at e
   ·rename_i hb;cases e;exact⟨hb,rfl⟩
   ·cases e
  ·rintro⟨h1,rfl⟩;rw [h1]
 have hw:∀ {nx c i},W [.fresh nx (nx+1)] c i ↔ c=nx:=fun {nx c i}=>by rw [uU];show _/\_ ↔ _;omega
 refine⟨fun e=>?_,fun e c i hn=>?_,fun {h nx y h1 n1 m} e g ha=>?_⟩
 ·obtain⟨_,q⟩:=inv.1 e;cases q;omega
 ·obtain⟨_,q⟩:=inv.1 e;cases q;rw [sN,a2c fun h=>hn (hw.2 h)]
 ·obtain⟨h0,q⟩:=inv.1 e;cases q;have:at_ g nx=none:=aGr fun i=>by
   have:=ha nx i (W.t (hw.2 rfl));unfold cv at this;rw [this,h0];rfl
  exact⟨_,inv.2 ⟨this,rfl⟩,aAY (fun c i h=>hw.1 h) (fun _ _=>rfl) fun i h=>absurd (hw.2 rfl) h⟩
def pDel (b:Nat):Pr Unit:=fun h nx=>match at_ h b with
 | some (.cells c _ _)=>some ((),pu h b none,nx,[.cell b 0 (c.length+1) true])
 | _=>none
theorem aHV {c:List V} {t op i:Nat} (h:c.length<i):cvB (some (.cells c t op)) i=none:=by
 simp only [cvB];rw [a2c (by omega),a0J (by omega)];rfl
theorem pDel_loc (b:Nat):iD (pDel b):=by
 have inv:∀ {h nx q},pDel b h nx=some q ↔ ∃ c t op,at_ h b=some (.cells c t op)/\q=((),pu h b none,nx,[.cell b 0 (c.length+1) true]):=by
  intro h nx q;unfold pDel;constructor
  ·intro e;split at e
   ·rename_i c t op hb;cases e;exact⟨c,t,op,hb,rfl⟩
   ·cases e
  ·rintro⟨c,t,op,h1,rfl⟩;rw [h1]
 have hw:∀ {n c i},W [.cell b 0 (n+1) true] c i ↔ c=b/\i<=n:=fun {n c i}=>by rw [uU];show _/\_/\_/\_ ↔ _;simp;omega
 refine⟨fun e=>?_,fun e c i hn=>?_,fun {h nx y h1 n1 m} e g ha=>?_⟩
 ·obtain⟨_,_,_,_,q⟩:=inv.1 e;cases q;exact a1G _
 ·obtain⟨cs,t,op,hb,q⟩:=inv.1 e;cases q;rw [sN];split
  ·rename_i hc;subst hc
   have:cs.length<i:=by
    rcases a1J cs.length i with h | h
    ·exact h
    ·exact absurd (hw.2 ⟨rfl,h⟩) hn
   unfold cv;rw [hb,aHV this];rfl
  ·rfl
 ·obtain⟨cs,t,op,hb,q⟩:=inv.1 e;cases q;have h1:cv h b cs.length=some (.mark cs.length t op):=vI.2 ⟨cs,hb,rfl,rfl⟩;obtain⟨c',hg,hl,_⟩:=vI.1 ((ha b _ (W.t (hw.2 ⟨rfl,a1G _⟩))).trans h1);refine⟨_,inv.2 ⟨c',t,op,hg,by rw [hl]⟩,aAY (fun c i h=>(hw.1 h).1) (fun _ _=>rfl) fun i h=>?_⟩
  have:c'.length<i:=by
   rcases a1J c'.length i with h' | h'
   ·exact h'
   ·exact absurd (hw.2 ⟨rfl,by omega⟩) h
  unfold cv;rw [hg,aHV this];rfl
def pD (b:Nat):Pr Ob:=fun h nx=>match at_ h b with
 | some (.obj o)=>some (o,h,nx,[.cell b 0 1 false])
 | _=>none
theorem aKE (b:Nat):iD (pD b):=by
 have inv:∀ {h nx q},pD b h nx=some q ↔ cv h b 0=some (.obj q.1)/\q.2=(h,nx,[.cell b 0 1 false]):=by
  intro h nx q;obtain⟨o,q⟩:=q;unfold pD cv;rw [qZ];constructor
  ·intro e;split at e
   ·rename_i o' hb;cases e;exact⟨⟨hb,rfl⟩,rfl⟩
   ·cases e
  ·rintro⟨⟨h1,_⟩,rfl⟩;rw [h1]
 refine⟨fun e=>?_,fun e b i _=>?_,fun e g ha=>?_⟩
 ·have:=(inv.1 e).2;cases this;exact a1G _
 ·have:=(inv.1 e).2;cases this;rfl
 ·obtain⟨e1,e2⟩:=inv.1 e;cases e2;exact⟨g,inv.2 ⟨by rw [ha b 0 (zX.2 ⟨rfl,by omega,by omega⟩)];exact e1,rfl⟩,aAm aCf⟩
def qR (b:Nat) (o:Ob):Pr Unit:=fun h nx=>match at_ h b with
 | some (.obj _)=>some ((),pu h b (some (.obj o)),nx,[.cell b 0 1 true])
 | _=>none
theorem aJn (b:Nat) (o:Ob):iD (qR b o):=by
 have inv:∀ {h nx q},qR b o h nx=some q ↔ (∃ o',cv h b 0=some (.obj o'))/\q=((),pu h b (some (.obj o)),nx,[.cell b 0 1 true]):=by
  intro h nx q;unfold qR cv;constructor
  ·intro e;split at e
   ·rename_i o' hb;cases e;exact⟨⟨o',qZ.2 ⟨hb,rfl⟩⟩,rfl⟩
   ·cases e
  ·rintro⟨⟨o',h1⟩,rfl⟩;rw [(qZ.1 h1).1]
 have hw:∀ {c i},W [.cell b 0 1 true] c i ↔ c=b/\i=0:=fun {c i}=>by rw [uU];show _/\_/\_/\_ ↔ _;simp
 have far:∀ (o:Ob) i,i≠0->cvB (some (.obj o)) i=none:=fun o i h=>by simp [cvB,h]
 refine⟨fun e=>?_,fun e c i hn=>?_,fun {h nx y h1 n1 m} e g ha=>?_⟩
 ·obtain⟨_,q⟩:=inv.1 e;cases q;exact a1G _
 ·obtain⟨⟨o',h0⟩,q⟩:=inv.1 e;cases q;rw [sN];split
  ·rename_i hc;subst hc
   have:i≠0:=fun e=>hn (hw.2 ⟨rfl,e⟩)
   unfold cv;rw [(qZ.1 h0).1,far _ _ this,far _ _ this]
  ·rfl
 ·obtain⟨⟨o',h0⟩,q⟩:=inv.1 e;cases q;have hg:=(ha b 0 (W.t (hw.2 ⟨rfl,rfl⟩))).trans h0;refine⟨_,inv.2 ⟨⟨o',hg⟩,rfl⟩,aAY (fun c i h=>(hw.1 h).1) (fun _ _=>rfl) fun i h=>?_⟩
  have:i≠0:=fun e=>h (hw.2 ⟨rfl,e⟩)
  unfold cv;rw [(qZ.1 hg).1,far _ _ this,far _ _ this]
theorem aDI {n0 n1:Nat} {f:Fp}:∀ {l:List Fp},f∈l->f∈dS n0 n1 l\/∀ b i,f.t b i->n0<=b/\b<n1
 | [],h=>by cases h
 | g :: l,h=>by
  have key:(dS n0 n1 (g :: l)=g :: dS n0 n1 l)\/(dS n0 n1 (g :: l)=dS n0 n1 l/\∀ b i,g.t b i->n0<=b/\b<n1):=by
   cases g with
   | cell b lo hi w=>
    have e:dS n0 n1 (.cell b lo hi w :: l)=bif Nat.blt b n0 then .cell b lo hi w :: dS n0 n1 l else bif Nat.blt b n1 then dS n0 n1 l else .cell b lo hi w :: dS n0 n1 l:=by
     show(Bool.rec (Bool.rec (Fp.cell b lo hi w :: dS n0 n1 l) (dS n0 n1 l) (Nat.blt b n1)) (Fp.cell b lo hi w :: dS n0 n1 l) (Nat.blt b n0):List Fp)=_
     cases Nat.blt b n0 <;> cases Nat.blt b n1 <;> rfl
    rw [e];cases h1:Nat.blt b n0 with
    | true=>exact .inl rfl
    | false=>
     cases h2:Nat.blt b n1 with
     | false=>exact .inl rfl
     | true=>
      refine .inr ⟨rfl,fun c i hc=>?_⟩
      obtain⟨rfl,_⟩:=hc;have h3:¬ c<n0:=fun hlt=>by rw [(a1C ▸ hlt:Nat.blt c n0=true)]at h1;cases h1
      exact⟨by omega,by rw [a1C]at h2;exact h2⟩
   | fresh m0 m1=>
    have e:dS n0 n1 (.fresh m0 m1 :: l)=bif Nat.ble n0 m0 then(bif Nat.ble m1 n1 then dS n0 n1 l else .fresh m0 m1 :: dS n0 n1 l) else .fresh m0 m1 :: dS n0 n1 l:=by
     show(Bool.rec (Fp.fresh m0 m1 :: dS n0 n1 l) (Bool.rec (Fp.fresh m0 m1 :: dS n0 n1 l) (dS n0 n1 l) (Nat.ble m1 n1)) (Nat.ble n0 m0):List Fp)=_
     cases Nat.ble n0 m0 <;> cases Nat.ble m1 n1 <;> rfl
    rw [e];cases h1:Nat.ble n0 m0 with
    | false=>exact .inl rfl
    | true=>
     cases h2:Nat.ble m1 n1 with
     | false=>exact .inl rfl
     | true=>
      refine .inr ⟨rfl,fun c i hc=>?_⟩
      have:=a1F h1;have:=a1F h2;have:m0<=c/\c<m1:=hc;omega
  rcases a1f.1 h with rfl | h
  ·rcases key with k | k
   ·exact .inl (by rw [k];exact .head _)
   ·exact .inr k.2
  ·rcases aDI h with o | o
   ·rcases key with k | k
    ·exact .inl (by rw [k];exact .tail _ o)
    ·exact .inl (by rw [k.1];exact o)
   ·exact .inr o
def kT (p:St):Pr (V × List Fp):=fun h nx=>match p h nx []with
 | some (.val v,s)=>some ((v, .fresh nx s.nx :: dS nx s.nx s.log),s.h,s.nx, .fresh nx s.nx :: dS nx s.nx s.log)
 | _=>none
theorem aEX {p:St} (hp:Loc p):iD (kT p):=by
 have inv:∀ {h nx q},kT p h nx=some q ↔ ∃ v s,p h nx []=some (.val v,s)/\q=((v, .fresh nx s.nx :: dS nx s.nx s.log),s.h,s.nx, .fresh nx s.nx :: dS nx s.nx s.log):=by
  intro h nx q;unfold kT;constructor
  ·intro e;split at e
   ·rename_i v s hs;cases e;exact⟨v,s,hs,rfl⟩
   ·cases e
  ·rintro⟨v,s,h1,rfl⟩;rw [h1]
 have sub:∀ {n0 n1 l b i},T l b i->T (.fresh n0 n1 :: dS n0 n1 l) b i:=fun {n0 n1 l b i} ⟨f,hf,ht⟩=>by
  rcases aDI hf with h | h
  ·exact⟨f, .tail _ h,ht⟩
  ·exact⟨_, .head _,h b i ht⟩
 have subw:∀ {n0 n1 l b i},W l b i->W (.fresh n0 n1 :: dS n0 n1 l) b i:=fun {n0 n1 l b i} ⟨f,hf,ht⟩=>by
  rcases aDI hf with h | h
  ·exact⟨f, .tail _ h,ht⟩
  ·exact⟨_, .head _,h b i (w_t ht)⟩
 refine⟨fun e=>?_,fun e b i hn=>?_,fun {h nx y h1 n1 m} e g ha=>?_⟩
 ·obtain⟨v,s,h1,q⟩:=inv.1 e;cases q;obtain⟨l,_,h2,_⟩:=hp.shape h1;exact h2
 ·obtain⟨v,s,h1,q⟩:=inv.1 e;cases q;obtain⟨l,h0,_,h3,_⟩:=hp.shape h1;simp only [a0v]at h0;subst h0;exact h3 b i fun w=>hn (subw w)
 ·obtain⟨v,s,h1,q⟩:=inv.1 e;cases q;obtain⟨l,h0,_,h3,h4⟩:=hp.shape h1;simp only [a0v]at h0;subst h0;obtain⟨g1,f1,d1⟩:=h4 g [] fun b i t=>ha b i (sub t)
  simp only [a0v]at f1;refine⟨g1,inv.2 ⟨v,_,f1,rfl⟩,fun b i hw=>?_,fun b i hw=>d1.out b i fun w=>hw (subw w)⟩
  by_cases hw':W s.log b i
  ·exact d1.inn b i hw'
  ·rw [d1.out b i hw',ha b i hw.t,h3 b i hw']
theorem ifN_eq {β:Type} (a b:Nat) (d p:β):ifN (Nat.blt a b) d p=if a<b then p else d:=by
 cases h:Nat.blt a b with
 | true=>rw [a1C]at h;rw [a2d h];rfl
 | false=>rw [a2c fun e=>by rw [(a1C ▸ e:Nat.blt a b=true)]at h;cases h];rfl
section
variable {α:Type} (h:Tr Blk) (nx:Nat) (lg:List Fp)
def thn (pr:Pr α) (ih:α->St):St:=fun h nx lg=>match pr h nx with
 | none=>none
 | some (x,h1,n1,l)=>ih x h1 n1 (l++lg)
theorem rRd_eq (b off n:Nat) (ih:List V->St):rRd b off n ih h nx lg=thn (pRd b off n) ih h nx lg:=by
 unfold rRd thn pRd at_
 cases gp h (pa b)with
 | none=>rfl
 | some x=>cases x with
  | obj o=>rfl
  | cells c t op=>
   show opt (tk n (dr off c)) none _=_
   simp only [];cases tk n (dr off c)with
   | none=>rfl
   | some l=>
    show ifN (Nat.blt 0 n) none _=_
    rw [ifN_eq];by_cases hn:0<n
    ·simp only [a2d hn];rfl
    ·simp only [a2c hn]
theorem rRd1_eq (b off:Nat) (ih:V->St):rRd1 b off ih h nx lg=thn (pRd1 b off) ih h nx lg:=by
 unfold rRd1 thn pRd1 at_
 cases gp h (pa b)with
 | none=>rfl
 | some x=>cases x with
  | obj o=>rfl
  | cells c t op=>
   show opt (nth c off) none _=_
   rw [lV];simp only [];cases c[off]? <;> rfl
theorem rWr_eq (b off:Nat) (l:List V) (ih:St):rWr b off l ih h nx lg=thn (pWr b off l) (fun _=>ih) h nx lg:=by
 unfold rWr thn pWr at_
 cases gp h (pa b)with
 | none=>rfl
 | some x=>cases x with
  | obj o=>rfl
  | cells c t op=>
   show opt (pl l off c) none _=_
   simp only [];cases pl l off c with
   | none=>rfl
   | some c'=>
    show pp h _ (pa b) _=_
    rw [mX,ifN_eq,ln0];by_cases hn:0<l.length
    ·simp only [a2d hn];rfl
    ·simp only [a2c hn]
theorem rSz_eq (b:Nat) (ih:Nat->Nat->Nat->St):rSz b ih h nx lg=thn (pSz b) (fun x=>ih x.1 x.2.1 x.2.2) h nx lg:=by
 unfold rSz thn pSz at_
 cases gp h (pa b)with
 | none=>rfl
 | some x=>cases x with
  | obj o=>rfl
  | cells c t op=>
   show eK (ln c 0) none (fun n=>ih n t op h nx (.cell b n (Nat.succ n) false :: lg))=_
   rw [wM,ln0];rfl
theorem aFb (x:Blk) (ih:Nat->St):rNew x ih h nx lg=thn (iT x) ih h nx lg:=by
 unfold rNew thn iT
 rw [wM]
 show opt (at_ h nx) _ _=_
 cases at_ h nx with
 | none=>
  show pp h _ (pa nx) _=_
  rw [mX];rfl
 | some x=>rfl
theorem rDel_eq (b:Nat) (ih:St):rDel b ih h nx lg=thn (pDel b) (fun _=>ih) h nx lg:=by
 unfold rDel thn pDel at_
 cases gp h (pa b)with
 | none=>rfl
 | some x=>cases x with
  | obj o=>rfl
  | cells c t op=>
   show pp h none (pa b) _=_
   rw [mX,ln0];rfl
theorem rGetO_eq (b:Nat) (ih:Ob->St):rGetO b ih h nx lg=thn (pD b) ih h nx lg:=by
 unfold rGetO thn pD at_
 cases gp h (pa b)with
 | none=>rfl
 | some x=>cases x with
  | obj o=>rfl
  | cells c t op=>rfl
theorem rSetO_eq (b:Nat) (o:Ob) (ih:St):rSetO b o ih h nx lg=thn (qR b o) (fun _=>ih) h nx lg:=by
 unfold rSetO thn qR at_
 cases gp h (pa b)with
 | none=>rfl
 | some x=>cases x with
  | obj o'=>
   show pp h _ (pa b) _=_
   rw [mX];rfl
  | cells c t op=>rfl
theorem rSub_eq (p:St) (ih:V->List Fp->St):rSub p ih h nx lg=thn (kT p) (fun x=>ih x.1 x.2) h nx lg:=by
 unfold rSub rSub1 thn kT
 cases p h nx []with
 | none=>rfl
 | some r=>
  obtain⟨o,s⟩:=r;cases o with
  | panic ch=>rfl
  | val v=>simp only [];rw [jD];rfl
end
theorem aCE (b off n:Nat) (k:List V->AL):run (.rd b off n k)=thn (pRd b off n) fun x=>run (k x):=funext fun h=>funext fun nx=>funext fun lg=>rRd_eq h nx lg b off n fun x=>run (k x)
theorem aGd (b off:Nat) (k:V->AL):run (.rd1 b off k)=thn (pRd1 b off) fun x=>run (k x):=funext fun h=>funext fun nx=>funext fun lg=>rRd1_eq h nx lg b off fun x=>run (k x)
theorem aAc (b off:Nat) (l:List V) (k:AL):run (.wr b off l k)=thn (pWr b off l) fun _=>run k:=funext fun h=>funext fun nx=>funext fun lg=>rWr_eq h nx lg b off l (run k)
theorem aB4 (b:Nat) (k:Nat->Nat->Nat->AL):run (.sz b k)=thn (pSz b) fun x=>run (k x.1 x.2.1 x.2.2):=funext fun h=>funext fun nx=>funext fun lg=>rSz_eq h nx lg b fun x y z=>run (k x y z)
theorem aBi (c:List V) (t op:Nat) (k:Nat->AL):run (.new c t op k)=thn (iT (.cells c t op)) fun x=>run (k x):=funext fun h=>funext fun nx=>funext fun lg=>aFb h nx lg _ fun x=>run (k x)
theorem aF5 (b:Nat) (k:AL):run (.del b k)=thn (pDel b) fun _=>run k:=funext fun h=>funext fun nx=>funext fun lg=>rDel_eq h nx lg b (run k)
theorem aBM (o:Ob) (k:Nat->AL):run (.newO o k)=thn (iT (.obj o)) fun x=>run (k x):=funext fun h=>funext fun nx=>funext fun lg=>aFb h nx lg _ fun x=>run (k x)
theorem lO (b:Nat) (k:Ob->AL):run (.getO b k)=thn (pD b) fun x=>run (k x):=funext fun h=>funext fun nx=>funext fun lg=>rGetO_eq h nx lg b fun x=>run (k x)
theorem tP (b:Nat) (o:Ob) (k:AL):run (.setO b o k)=thn (qR b o) fun _=>run k:=funext fun h=>funext fun nx=>funext fun lg=>rSetO_eq h nx lg b o (run k)
theorem aEW (p:AL) (k:V->List Fp->AL):run (.sub p k)=thn (kT (run p)) fun x=>run (k x.1 x.2):=funext fun h=>funext fun nx=>funext fun lg=>rSub_eq h nx lg (run p) fun x y=>run (k x y)
theorem gL:∀ p:AL,Loc (run p)
 | .ret o=>⟨fun {h nx lg r} e=>by cases e;exact⟨[],rfl,a1G _,fun _ _ _=>rfl,fun g lg2 _=>⟨g,rfl,aAm fun _ _=>aEm⟩⟩⟩
 | .fail=>⟨fun e=>by cases e⟩
 | .rd b off n k=>Loc.seq (pRd_loc b off n) (fun x=>gL (k x)) fun h nx lg=>by rw [aCE];rfl
 | .rd1 b off k=>Loc.seq (pRd1_loc b off) (fun x=>gL (k x)) fun h nx lg=>by rw [aGd];rfl
 | .wr b off l k=>Loc.seq (pWr_loc b off l) (fun _=>gL k) fun h nx lg=>by rw [aAc];rfl
 | .sz b k=>Loc.seq (pSz_loc b) (fun x=>gL (k x.1 x.2.1 x.2.2)) fun h nx lg=>by rw [aB4];rfl
 | .new c t op k=>Loc.seq (aEk (.cells c t op)) (fun x=>gL (k x)) fun h nx lg=>by rw [aBi];rfl
 | .del b k=>Loc.seq (pDel_loc b) (fun _=>gL k) fun h nx lg=>by rw [aF5];rfl
 | .newO o k=>Loc.seq (aEk (.obj o)) (fun x=>gL (k x)) fun h nx lg=>by rw [aBM];rfl
 | .getO b k=>Loc.seq (aKE b) (fun x=>gL (k x)) fun h nx lg=>by rw [lO];rfl
 | .setO b o k=>Loc.seq (aJn b o) (fun _=>gL k) fun h nx lg=>by rw [tP];rfl
 | .sub p k=>Loc.seq (aEX (gL p)) (fun x=>gL (k x.1 x.2)) fun h nx lg=>by rw [aEW];rfl
end
noncomputable section
abbrev Rho:=Nat->Option (Nat × Nat)
def Rho.le (ρ ρ':Rho):Prop:=∀ b x,ρ b=some x->ρ' b=some x
theorem Rho.le_refl (ρ:Rho):ρ.le ρ:=fun _ _ h=>h
theorem Rho.le_trans {a b c:Rho} (h:a.le b) (k:b.le c):a.le c:=fun x y e=>k x y (h x y e)
mutual
def tv (ρ:Rho):V->Option Value
 | .int k n=>some (.int k n)
 | .bool b=>some (.bool b)
 | .str s=>some (.string s)
 | .ptr b off=>(ρ b).map fun x=> .pointer (some ⟨x.1,off,none⟩)
 | .nilp=>some (.pointer none)
 | .sl b off len cap=>(ρ b).map fun x=> .slice (some ⟨x.1,off,none⟩) len cap
 | .so b off len es=>(ρ b).map fun x=> .slice (some ⟨x.1,off,none⟩) len (x.2 - off / es)
 | .nils=>some (.slice none 0 0)
 | .map b=>(ρ b).map fun x=> .map (some x.1)
 | .nilm=>some (.map none)
 | .fn f a c=>match tvs ρ a with
  | some x=>match tvs ρ c with
   | some y=>some (.func (.func f) ⟨x⟩ ⟨y⟩)
   | none=>none
  | none=>none
 | .yld l=>(ρ l).map fun x=> .func (.yield x.1) #[] #[]
 | .nilf=>some .nilFunc
 | .iface t v=>match tv ρ v with
  | some x=>some (.iface t x)
  | none=>none
 | .nili=>some .nilIface
 | .agg cs=>match iC cs with
  | true=>match tvs ρ cs with
   | some l=>some (.agg ⟨l⟩)
   | none=>none
  | false=>none
 | .tup vs=>match tvs ρ vs with
  | some l=>some (.tuple ⟨l⟩)
  | none=>none
def tvs (ρ:Rho):List V->Option (List Value)
 | []=>some []
 | v :: l=>match tv ρ v with
  | some x=>match tvs ρ l with
   | some r=>some (x :: r)
   | none=>none
  | none=>none
end
theorem wP {α:Type} {ρ ρ':Rho} (h:ρ.le ρ') {b:Nat} {f:Nat × Nat->α} {y:α} (e:(ρ b).map f=some y):(ρ' b).map f=some y:=by
 cases hb:ρ b with
 | none=>rw [hb]at e;cases e
 | some x=>rw [h b x hb];rw [hb]at e;exact e
mutual
theorem mY {ρ ρ':Rho} (h:ρ.le ρ'):∀ (v:V) {x:Value},tv ρ v=some x->tv ρ' v=some x
 | .int _ _,_,e=>e
 | .bool _,_,e=>e
 | .str _,_,e=>e
 | .ptr _ _,_,e=>wP h e
 | .nilp,_,e=>e
 | .sl _ _ _ _,_,e=>wP h e
 | .so _ _ _ _,_,e=>wP h e
 | .nils,_,e=>e
 | .map _,_,e=>wP h e
 | .nilm,_,e=>e
 | .fn f a c,x,e=>by
  simp only [tv]at e ⊢;cases ha:tvs ρ a with
  | none=>rw [ha]at e;cases e
  | some y=>
   rw [ha]at e;cases hc:tvs ρ c with
   | none=>rw [hc]at e;cases e
   | some z=>rw [hc]at e;rw [pZ h a ha,pZ h c hc];exact e
 | .yld _,_,e=>wP h e
 | .nilf,_,e=>e
 | .iface t v,x,e=>by
  simp only [tv]at e ⊢;cases ha:tv ρ v with
  | none=>rw [ha]at e;cases e
  | some y=>rw [ha]at e;rw [mY h v ha];exact e
 | .nili,_,e=>e
 | .agg cs,x,e=>by
  simp only [tv]at e ⊢;cases hc:iC cs with
  | false=>rw [hc]at e;cases e
  | true=>
   rw [hc]at e;simp only at e ⊢
   cases ha:tvs ρ cs with
   | none=>rw [ha]at e;cases e
   | some y=>rw [ha]at e;rw [pZ h cs ha];exact e
 | .tup cs,x,e=>by
  simp only [tv]at e ⊢;cases ha:tvs ρ cs with
  | none=>rw [ha]at e;cases e
  | some y=>rw [ha]at e;rw [pZ h cs ha];exact e
theorem pZ {ρ ρ':Rho} (h:ρ.le ρ'):∀ (l:List V) {x:List Value},tvs ρ l=some x->tvs ρ' l=some x
 | [],_,e=>e
 | v :: l,x,e=>by
  simp only [tvs]at e ⊢;cases ha:tv ρ v with
  | none=>rw [ha]at e;cases e
  | some y=>
   rw [ha]at e;cases hc:tvs ρ l with
   | none=>rw [hc]at e;cases e
   | some z=>rw [hc]at e;rw [mY h v ha,pZ h l hc];exact e
end
theorem eA {ρ:Rho} {v:V} {l:List V} {r:List Value}:tvs ρ (v :: l)=some r ↔ ∃ x y,tv ρ v=some x/\tvs ρ l=some y/\r=x :: y:=by
 simp only [tvs]
 cases tv ρ v with
 | none=>simp
 | some x=>cases tvs ρ l with
  | none=>simp
  | some y=>simp [eq_comm]
theorem sT {ρ:Rho} {r:List Value}:tvs ρ []=some r ↔ r=[]:=by simp [tvs,eq_comm]
theorem lJ {ρ:Rho}:∀ {l m:List V} {r:List Value},tvs ρ (l++m)=some r ↔ ∃ x y,tvs ρ l=some x/\tvs ρ m=some y/\r=x++y
 | [],m,r=>by
  constructor
  ·intro h;exact⟨[],r,rfl,h,rfl⟩
  ·rintro⟨x,y,h1,h2,rfl⟩;rw [sT]at h1;subst h1;exact h2
 | v :: l,m,r=>by
  rw [a0w,eA];constructor
  ·rintro⟨x,y,h1,h2,rfl⟩
   obtain⟨a,b,h3,h4,rfl⟩:=lJ.1 h2;exact⟨x :: a,b,eA.2 ⟨x,a,h1,h3,rfl⟩,h4,rfl⟩
  ·rintro⟨a,b,h1,h2,rfl⟩
   obtain⟨x,y,h3,h4,rfl⟩:=eA.1 h1;exact⟨x,y++b,h3,lJ.2 ⟨y,b,h4,h2,rfl⟩,rfl⟩
theorem uH {ρ:Rho}:∀ {l:List V} {r:List Value},tvs ρ l=some r->r.length=l.length
 | [],r,h=>by rw [sT]at h;subst h;rfl
 | v :: l,r,h=>by
  obtain⟨x,y,_,h2,rfl⟩:=eA.1 h;simp [uH h2]
theorem aBF {ρ:Rho}:∀ {l:List V} {r:List Value} {i:Nat} {v:V},tvs ρ l=some r->l[i]? =some v->∃ x,r[i]? =some x/\tv ρ v=some x
 | [],_,_,_,_,h=>by simp at h
 | u :: l,r,0,v,h,e=>by
  obtain⟨x,y,h1,h2,rfl⟩:=eA.1 h;simp only [a0G,a1U]at e ⊢;subst e;exact⟨x,rfl,h1⟩
 | u :: l,r,i+1,v,h,e=>by
  obtain⟨x,y,h1,h2,rfl⟩:=eA.1 h;simp only [a0F]at e ⊢;exact aBF h2 e
theorem aGf {ρ:Rho} {l:List V} {r:List Value} (n:Nat) (h:tvs ρ l=some r):tvs ρ (l.take n)=some (r.take n)/\tvs ρ (l.drop n)=some (r.drop n):=by
 have h':=h
 rw [<- List.take_append_drop n l,lJ]at h'
 obtain⟨x,y,h1,h2,rfl⟩:=h'
 have hx:=uH h1
 have hy:=uH h2
 simp only [List.length_take,a0T]at hx hy
 by_cases hn:n<=l.length
 ·have:x.length=n:=by omega
  rw [h1,h2,List.take_left' this,List.drop_left' this];exact⟨rfl,rfl⟩
 ·have hy0:y=[]:=a0z (by omega)
  subst hy0;rw [h1,h2,a0v,a1x (by omega),a0y (by omega)];exact⟨rfl,rfl⟩
def dB:Value->Prop
 | .agg _ | .tuple _=>False
 | _=>True
theorem sW {v:V} {l:List V}:iC (v :: l)=true ↔ isC v=true/\iC l=true:=by
 simp only [iC];cases isC v <;> simp
theorem oR:∀ {l:List V},iC l=true ↔ ∀ v∈l,isC v=true
 | []=>by simp [iC]
 | v :: l=>by rw [sW,oR (l:=l)];simp
theorem aCv {ρ:Rho}:∀ {v:V} {x:Value},isC v=true->tv ρ v=some x->dB x
 | .int _ _,_,_,e=>by cases e;trivial
 | .bool _,_,_,e=>by cases e;trivial
 | .str _,_,_,e=>by cases e;trivial
 | .ptr _ _,_,_,e=>by simp only [tv,a1R]at e;obtain⟨y,_,rfl⟩:=e;trivial
 | .nilp,_,_,e=>by cases e;trivial
 | .sl _ _ _ _,_,_,e=>by simp only [tv,a1R]at e;obtain⟨y,_,rfl⟩:=e;trivial
 | .so _ _ _ _,_,_,e=>by simp only [tv,a1R]at e;obtain⟨y,_,rfl⟩:=e;trivial
 | .nils,_,_,e=>by cases e;trivial
 | .map _,_,_,e=>by simp only [tv,a1R]at e;obtain⟨y,_,rfl⟩:=e;trivial
 | .nilm,_,_,e=>by cases e;trivial
 | .fn _ a c,x,_,e=>by
  simp only [tv]at e;cases ha:tvs ρ a with
  | none=>rw [ha]at e;cases e
  | some y=>rw [ha]at e;cases hc:tvs ρ c with
   | none=>rw [hc]at e;cases e
   | some z=>rw [hc]at e;cases e;trivial
 | .yld _,_,_,e=>by simp only [tv,a1R]at e;obtain⟨y,_,rfl⟩:=e;trivial
 | .nilf,_,_,e=>by cases e;trivial
 | .iface _ v,x,_,e=>by
  simp only [tv]at e;cases ha:tv ρ v with
  | none=>rw [ha]at e;cases e
  | some y=>rw [ha]at e;cases e;trivial
 | .nili,_,_,e=>by cases e;trivial
 | .agg _,_,h,_=>by cases h
 | .tup _,_,h,_=>by cases h
def cells (ρ:Rho) (l:List V) (r:List Value):Prop:=iC l=true/\tvs ρ l=some r
theorem cells.is {ρ:Rho}:∀ {l:List V} {r:List Value},cells ρ l r->∀ x∈r,dB x
 | [],r,h,x,hx=>by rw [sT.1 h.2]at hx;cases hx
 | v :: l,r,h,x,hx=>by
  obtain⟨y,z,h1,h2,rfl⟩:=eA.1 h.2;obtain⟨h3,h4⟩:=sW.1 h.1;rcases a1f.1 hx with rfl | hx
  ·exact aCv h3 h1
  ·exact cells.is ⟨h4,h2⟩ x hx
theorem cells.mono {ρ ρ':Rho} (h:ρ.le ρ') {l:List V} {r:List Value} (c:cells ρ l r):cells ρ' l r:=⟨c.1,pZ h l c.2⟩
theorem cells.app {ρ:Rho} {l m:List V} {r s:List Value} (c:cells ρ l r) (d:cells ρ m s):cells ρ (l++m) (r++s):=
 ⟨oR.2 fun v hv=>by
  rcases a1c.1 hv with h | h
  ·exact oR.1 c.1 v h
  ·exact oR.1 d.1 v h,lJ.2 ⟨r,s,c.2,d.2,rfl⟩⟩
theorem cells.take {ρ:Rho} {l:List V} {r:List Value} (c:cells ρ l r) (n:Nat):cells ρ (l.take n) (r.take n):=⟨oR.2 fun v hv=>oR.1 c.1 v (List.mem_of_mem_take hv),(aGf n c.2).1⟩
theorem cells.drop {ρ:Rho} {l:List V} {r:List Value} (c:cells ρ l r) (n:Nat):cells ρ (l.drop n) (r.drop n):=⟨oR.2 fun v hv=>oR.1 c.1 v (List.mem_of_mem_drop hv),(aGf n c.2).2⟩
theorem cells.len {ρ:Rho} {l:List V} {r:List Value} (c:cells ρ l r):r.length=l.length:=uH c.2
theorem cells.nil {ρ:Rho}:cells ρ [] []:=⟨rfl,rfl⟩
theorem cells.get {ρ:Rho} {l:List V} {r:List Value} (c:cells ρ l r) {i:Nat} {v:V} (h:l[i]? =some v):∃ x,r[i]? =some x/\tv ρ v=some x/\isC v=true:=
 let ⟨x,h1,h2⟩:=aBF c.2 h
 ⟨x,h1,h2,oR.1 c.1 v (a1k h)⟩
theorem dB.cells {v:Value} (h:dB v):v.cells=#[v]:=by cases v <;> first | rfl | exact h.elim
theorem gY {ρ:Rho} {v:V} {x:Value} (hc:isC v=true) (e:tv ρ v=some x):vc v=some [v]/\BX.cells ρ [v] x.cells.toList:=
 ⟨(by cases v <;> first | rfl | cases hc),sW.2 ⟨hc,rfl⟩,eA.2 ⟨x,[],e,rfl,by rw [(aCv hc e).cells]⟩⟩
theorem aBQ {ρ:Rho} {cs:List V} {x:Value} (e:tv ρ (.agg cs)=some x):∃ l,cells ρ cs l/\x= .agg ⟨l⟩:=by
 simp only [tv]at e
 cases hc:iC cs with
 | false=>rw [hc]at e;cases e
 | true=>
  rw [hc]at e;simp only at e
  cases ha:tvs ρ cs with
  | none=>rw [ha]at e;cases e
  | some y=>rw [ha]at e;cases e;exact⟨y,⟨hc,ha⟩,rfl⟩
theorem vR {ρ:Rho}:∀ {v:V} {x:Value} {c:List V},vc v=some c->tv ρ v=some x->BX.cells ρ c x.cells.toList
 | .agg cs,x,c,h,e=>by
  obtain⟨l,h1,rfl⟩:=aBQ e;cases h;exact h1
 | .tup _,_,_,h,_=>by cases h
 | .int _ _,_,_,h,e=>by cases h;exact(gY rfl e).2
 | .bool _,_,_,h,e=>by cases h;exact(gY rfl e).2
 | .str _,_,_,h,e=>by cases h;exact(gY rfl e).2
 | .ptr _ _,_,_,h,e=>by cases h;exact(gY rfl e).2
 | .nilp,_,_,h,e=>by cases h;exact(gY rfl e).2
 | .sl _ _ _ _,_,_,h,e=>by cases h;exact(gY rfl e).2
 | .so _ _ _ _,_,_,h,e=>by cases h;exact(gY rfl e).2
 | .nils,_,_,h,e=>by cases h;exact(gY rfl e).2
 | .map _,_,_,h,e=>by cases h;exact(gY rfl e).2
 | .nilm,_,_,h,e=>by cases h;exact(gY rfl e).2
 | .fn _ _ _,_,_,h,e=>by cases h;exact(gY rfl e).2
 | .yld _,_,_,h,e=>by cases h;exact(gY rfl e).2
 | .nilf,_,_,h,e=>by cases h;exact(gY rfl e).2
 | .iface _ _,_,_,h,e=>by cases h;exact(gY rfl e).2
 | .nili,_,_,h,e=>by cases h;exact(gY rfl e).2
theorem aAZ {ρ:Rho} {cs:List V} {l:List Value} (h:cells ρ cs l):tv ρ (.agg cs)=some (.agg ⟨l⟩):=by
 simp only [tv,h.1,h.2]
def entR (ρ:Rho) (e:Ent) (m:MapEntry):Prop:=tv ρ e.key=some m.key/\tv ρ e.val=some m.val/\m.born=e.born
def kN (ρ:Rho):List Ent->List MapEntry->Prop
 | [],[]=>True
 | e :: es,m :: ms=>entR ρ e m/\kN ρ es ms
 | _,_=>False
structure bT (ρ:Rho) (e:Tr V) (n:Nat) (a:Array Value):Prop where
 size:a.size=n
 get:∀ t v,at_ e t=some v->∃ x,a[t]? =some x/\tv ρ v=some x
def obR (ρ:Rho):Ob->Obj->Prop
 | .map es c, .map ms c'=>c'=c/\kN ρ es ms.toList
 | .loop st p _ e n ps sg bd d, .loop r=>r.state=st/\r.pending=p/\bT ρ e n r.tmps/\r.params.toList=ps/\r.assign=sg/\r.body=bd/\∃ x,ρ d=some x/\r.defers=x.1
 | .dfr l, .deferred c=>c=if l then some [] else none
 | _,_=>False
def blkR (ρ:Rho) (κ:Nat):Blk->Obj->Prop
 | .cells c t op, .cells a t' fz=>t'=t/\fz=(0,0)/\∃ l junk,cells ρ c l/\a=⟨l++junk⟩/\(op=0->junk=[])/\(0<op->l.length+junk.length=κ*op)
 | .obj o,o'=>obR ρ o o'
 | _,_=>False
structure G where
 w:World
 lo:Nat
 hi:Nat
 ρ:Rho
structure Rel (g:G) (ρ:Rho) (h:Tr Blk) (nx:Nat) (w:World):Prop where
 blk:∀ b k,at_ h b=some k->∃ x o,ρ b=some x/\w.heap[x.1]? =some o/\blkR ρ x.2 k o
 inj:∀ b b' x x',at_ h b≠none->at_ h b'≠none->ρ b=some x->ρ b'=some x'->x.1=x'.1->b=b'
 new:∀ b x,ρ b=some x->g.w.heap.size<=x.1
 below:RowKit.Below g.w.heap.size g.w w
 lo:g.lo<=nx
 fresh:∀ b,nx<=b->b<g.hi->ρ b=none
 le:g.ρ.le ρ
 out:∀ b,b<g.lo\/g.hi<=b->ρ b=g.ρ b
theorem entR.mono {ρ ρ':Rho} (h:ρ.le ρ') {e:Ent} {m:MapEntry} (r:entR ρ e m):entR ρ' e m:=⟨mY h _ r.1,mY h _ r.2.1,r.2.2⟩
theorem kN.mono {ρ ρ':Rho} (h:ρ.le ρ'):∀ {es:List Ent} {ms:List MapEntry},kN ρ es ms->kN ρ' es ms
 | [],[],_=>trivial
 | _ :: _,_ :: _,r=>⟨r.1.mono h,kN.mono h r.2⟩
 | [],_ :: _,r=>r.elim
 | _ :: _,[],r=>r.elim
theorem bT.mono {ρ ρ':Rho} (h:ρ.le ρ') {e:Tr V} {n:Nat} {a:Array Value} (r:bT ρ e n a):bT ρ' e n a:=
 ⟨r.size,fun t v ht=>let ⟨x,h1,h2⟩:=r.get t v ht;⟨x,h1,mY h v h2⟩⟩
theorem obR.mono {ρ ρ':Rho} (h:ρ.le ρ') {o:Ob} {o':Obj} (r:obR ρ o o'):obR ρ' o o':=by
 cases o with
 | map es c=>cases o' <;> first | exact⟨r.1,r.2.mono h⟩ | exact r.elim
 | loop st p f e n ps sg bd d=>
  cases o' <;> first
   | (obtain⟨h1,h2,h3,h4,h5,h6,x,h7,h8⟩:=r;exact⟨h1,h2,h3.mono h,h4,h5,h6,x,h _ _ h7,h8⟩)
   | exact r.elim
 | dfr b=>cases o' <;> exact r
theorem blkR.mono {ρ ρ':Rho} (h:ρ.le ρ') {κ:Nat} {k:Blk} {o:Obj} (r:blkR ρ κ k o):blkR ρ' κ k o:=by
 cases k with
 | obj o'=>exact obR.mono h r
 | cells c t op=>
  cases o <;> first
   | (obtain⟨h1,h2,l,j,h3,h4⟩:=r;exact⟨h1,h2,l,j,h3.mono h,h4⟩)
   | exact r.elim
end
open RowKit (Below)
noncomputable section
section
variable {h:Tr Blk} {nx:Nat} {lg:List Fp} {r:O × S}
theorem kL {α:Type} {o:Option α} {p:AL} {f:α->AL} (e:run (opt o p f) h nx lg=some r):(o=none/\run p h nx lg=some r)\/∃ a,o=some a/\run (f a) h nx lg=some r:=by
 cases o with
 | none=>exact .inl ⟨rfl,e⟩
 | some a=>exact .inr ⟨a,rfl,e⟩
theorem bN {α:Type} {o:Option α} {f:α->AL} (e:run (oo o f) h nx lg=some r):∃ a,o=some a/\run (f a) h nx lg=some r:=by
 rcases kL e with⟨_,e⟩ | e
 ·cases e
 ·exact e
theorem fT {x:Operand} {e:Tr V} {f:V->AL} (q:run (cD x e f) h nx lg=some r):∃ v,ev x e=some v/\run (f v) h nx lg=some r:=bN (o:=ev x e) (f:=f) q
theorem sP {x y:Operand} {e:Tr V} {f:V->V->AL} (q:run (dP x y e f) h nx lg=some r):∃ v u,ev x e=some v/\ev y e=some u/\run (f v u) h nx lg=some r:=by
 obtain⟨v,h1,q⟩:=bN (o:=ev x e) (f:=fun v=>oo (ev y e) (f v)) q
 obtain⟨u,h2,q⟩:=bN q
 exact⟨v,u,h1,h2,q⟩
theorem aEG {x y z:Operand} {e:Tr V} {f:V->V->V->AL} (q:run (eJ x y z e f) h nx lg=some r):∃ v u t,ev x e=some v/\ev y e=some u/\ev z e=some t/\run (f v u t) h nx lg=some r:=by
 obtain⟨v,h1,q⟩:=fT q
 obtain⟨u,t,h2,h3,q⟩:=sP q
 exact⟨v,u,t,h1,h2,h3,q⟩
theorem kA {l:List Operand} {e:Tr V} {f:List V->AL} (q:run (eR l e f) h nx lg=some r):∃ vs,evs l e=some vs/\run (f vs) h nx lg=some r:=bN q
theorem aDC {x:Option Operand} {e:Tr V} {f:Option V->AL} (q:run (yL x e f) h nx lg=some r):∃ v,evO x e=some v/\run (f v) h nx lg=some r:=bN q
theorem dG {b:Bool} {p:AL} (q:run (cU b p) h nx lg=some r):b=true/\run p h nx lg=some r:=by
 cases b with
 | true=>exact⟨rfl,q⟩
 | false=>cases q
theorem gU {b:Bool} {p p':AL} (q:run (ife b p p') h nx lg=some r):(b=true/\run p h nx lg=some r)\/(b=false/\run p' h nx lg=some r):=by
 cases b with
 | true=>exact .inl ⟨rfl,q⟩
 | false=>exact .inr ⟨rfl,q⟩
theorem wF {v:V} {f:Nat->Nat->AL} (q:run (vG v f) h nx lg=some r):∃ b off,v= .ptr b off/\run (f b off) h nx lg=some r:=by
 cases v <;> first
  | exact⟨_,_,rfl,q⟩
  | cases q
theorem aHF {v:V} {f:Bool->AL} (q:run (asBool v f .fail) h nx lg=some r):∃ b,v= .bool b/\run (f b) h nx lg=some r:=by
 cases v <;> first
  | exact⟨_,rfl,q⟩
  | cases q
theorem aIS {v:V} {f:List V->AL} (q:run (asTup v f) h nx lg=some r):∃ l,v= .tup l/\run (f l) h nx lg=some r:=by
 cases v <;> first
  | exact⟨_,rfl,q⟩
  | cases q
theorem aCL {v:V} {f:Nat->AL} {p:AL} (q:run (asMap v f p) h nx lg=some r):(∃ b,v= .map b/\run (f b) h nx lg=some r)\/(v= .nilm/\run p h nx lg=some r):=by
 cases v <;> first
  | exact .inl ⟨_,rfl,q⟩
  | exact .inr ⟨rfl,q⟩
  | cases q
theorem aDy {v:V} {f:Nat->V->AL} {p:AL} (q:run (asIf v f p) h nx lg=some r):(∃ t u,v= .iface t u/\run (f t u) h nx lg=some r)\/(v= .nili/\run p h nx lg=some r):=by
 cases v <;> first
  | exact .inl ⟨_,_,rfl,q⟩
  | exact .inr ⟨rfl,q⟩
  | cases q
theorem aDF {v:V} {f:Nat->List V->List V->AL} {y:Nat->AL} (q:run (asFn v f y) h nx lg=some r):(∃ g a c,v= .fn g a c/\run (f g a c) h nx lg=some r)\/(∃ l,v= .yld l/\run (y l) h nx lg=some r):=by
 cases v <;> first
  | exact .inl ⟨_,_,_,rfl,q⟩
  | exact .inr ⟨_,rfl,q⟩
  | cases q
theorem sQ {v:V} {f:Nat->Nat->Nat->Nat->AL} {f':Nat->Nat->Nat->Nat->AL} {p d:AL} (q:run (asSl v f f' p d) h nx lg=some r):
 (∃ b off len cap,v= .sl b off len cap/\run (f b off len cap) h nx lg=some r)\/(∃ b off len es,v= .so b off len es/\run (f' b off len es) h nx lg=some r)\/(v= .nils/\run p h nx lg=some r)\/run d h nx lg=some r:=by
 cases v <;> first
  | exact .inl ⟨_,_,_,_,rfl,q⟩
  | exact .inr (.inl ⟨_,_,_,_,rfl,q⟩)
  | exact .inr (.inr (.inl ⟨rfl,q⟩))
  | exact .inr (.inr (.inr q))
theorem aGx {v:V} {f:IntKind->Int->AL} {d:AL} (q:run (wU v f d) h nx lg=some r):(∃ k n,v= .int k n/\run (f k n) h nx lg=some r)\/run d h nx lg=some r:=by
 cases v <;> first
  | exact .inl ⟨_,_,rfl,q⟩
  | exact .inr q
theorem aHp {v:V} {f:List V->AL} {d:AL} (q:run (asAgg v f d) h nx lg=some r):(∃ cs,v= .agg cs/\run (f cs) h nx lg=some r)\/run d h nx lg=some r:=by
 cases v <;> first
  | exact .inl ⟨_,rfl,q⟩
  | exact .inr q
theorem aB2 {v:V} {f:ByteArray->AL} {d:AL} (q:run (wW v f d) h nx lg=some r):(∃ s,v= .str s/\run (f s) h nx lg=some r)\/run d h nx lg=some r:=by
 cases v <;> first
  | exact .inl ⟨_,rfl,q⟩
  | exact .inr q
theorem dJ {α:Type} {pr:Pr α} {k:α->St} (q:thn pr k h nx lg=some r):∃ x h1 n1 l,pr h nx=some (x,h1,n1,l)/\k x h1 n1 (l++lg)=some r:=by
 unfold thn at q
 cases hq:pr h nx with
 | none=>rw [hq]at q;cases q
 | some y=>
  obtain⟨x,h1,n1,l⟩:=y;rw [hq]at q;exact⟨x,h1,n1,l,rfl,q⟩
theorem xW {v:V} {n:Nat} (q:pN v=some n):∃ k,v= .int k (.ofNat n):=by
 cases v <;> try (cases q;done)
 rename_i k i
 cases i with
 | ofNat m=>exact⟨k,by cases q;rfl⟩
 | negSucc m=>cases q
theorem rQ {p:AL} (q:run p h nx lg=some r):nx<=r.2.nx:=let ⟨_,_,h2,_⟩:=(gL p).shape q;h2
end
mutual
theorem vO (ρ:Rho):∀ (c:Value) {v:V},ofC c=some v->tv ρ v=some c
 | .int _ _,_,e=>by cases e;rfl
 | .bool _,_,e=>by cases e;rfl
 | .float _ _,_,e=>by cases e
 | .complex _ _ _,_,e=>by cases e
 | .string _,_,e=>by cases e;rfl
 | .pointer none,_,e=>by cases e;rfl
 | .pointer (some _),_,e=>by cases e
 | .slice none 0 0,_,e=>by cases e;rfl
 | .slice none 0 (_+1),_,e=>by cases e
 | .slice none (_+1) _,_,e=>by cases e
 | .slice (some _) _ _,_,e=>by cases e
 | .map none,_,e=>by cases e;rfl
 | .map (some _),_,e=>by cases e
 | .chan _,_,e=>by cases e
 | .func _ _ _,_,e=>by cases e
 | .nilFunc,_,e=>by cases e;rfl
 | .nilIface,_,e=>by cases e;rfl
 | .iface t c,v,e=>by
  simp only [ofC]at e;cases h:ofC c with
  | none=>rw [h]at e;cases e
  | some x=>rw [h]at e;cases e;simp only [tv,vO ρ c h]
 | .agg cs,v,e=>by
  simp only [ofC]at e;cases h:ofA cs with
  | none=>rw [h]at e;cases e
  | some l=>
   rw [h]at e;simp only at e
   cases hc:iC l with
   | false=>rw [hc]at e;cases e
   | true=>rw [hc]at e;cases e;simp only [tv,hc,ofA_tv ρ cs h]
 | .tuple cs,v,e=>by
  simp only [ofC]at e;cases h:ofA cs with
  | none=>rw [h]at e;cases e
  | some l=>rw [h]at e;cases e;simp only [tv,ofA_tv ρ cs h]
theorem ofA_tv (ρ:Rho):∀ (cs:Array Value) {l:List V},ofA cs=some l->tvs ρ l=some cs.toList
 | ⟨l⟩,_,e=>ofL_tv ρ l e
theorem ofL_tv (ρ:Rho):∀ (cs:List Value) {l:List V},ofL cs=some l->tvs ρ l=some cs
 | [],_,e=>by cases e;rfl
 | c :: cs,l,e=>by
  simp only [ofL]at e;cases h:ofC c with
  | none=>rw [h]at e;cases e
  | some x=>
   rw [h]at e;simp only at e
   cases h2:ofL cs with
   | none=>rw [h2]at e;cases e
   | some y=>rw [h2]at e;cases e;exact eA.2 ⟨c,cs,vO ρ c h,ofL_tv ρ cs h2,rfl⟩
end
theorem cR {ρ:Rho} {e:Tr V} {n:Nat} {a:Act} (he:bT ρ e n a.tmps):∀ {x:Operand} {v:V},ev x e=some v->tv ρ v=some (a.eval x)
 | .tmp t,v,q=>by
  obtain⟨x,h1,h2⟩:=he.get t v q;rw [h2];simp [Act.eval,a0b,h1]
 | .const c,v,q=>vO ρ c q
 | .global _,_,q=>by cases q
 | .func f,v,q=>by cases q;rfl
theorem jJ {ρ:Rho} {e:Tr V} {n:Nat} {a:Act} (he:bT ρ e n a.tmps):∀ {l:List Operand} {vs:List V},evs l e=some vs->tvs ρ vs=some (l.map a.eval)
 | [],vs,q=>by cases q;rfl
 | x :: l,vs,q=>by
  have q':(Option.rec none (fun v=>Option.rec none (fun vs=>some (v :: vs)) (evs l e)) (ev x e):Option (List V))=some vs:=q
  cases h1:ev x e with
  | none=>rw [h1]at q';cases q'
  | some v=>
   rw [h1]at q';cases h2:evs l e with
   | none=>simp only [h2]at q';cases q'
   | some us=>
    simp only [h2]at q';cases q';exact eA.2 ⟨_,_,cR he h1,jJ he h2,rfl⟩
theorem bT.put {ρ:Rho} {e:Tr V} {n:Nat} {a:Act} (he:bT ρ e n a.tmps) {t:Nat} (ht:t<n) {v:V} {x:Value} (hv:tv ρ v=some x):bT ρ (pu e t (some v)) n (a.put (some t) x).tmps:=by
 refine⟨by simp [Act.put,he.size],fun s u hu=>?_⟩
 rw [fQ]at hu
 by_cases hs:s=t
 ·subst hs;rw [a2d rfl]at hu;cases hu
  exact⟨x,by simp [Act.put,he.size,ht],hv⟩
 ·rw [a2c hs]at hu;obtain⟨y,h1,h2⟩:=he.get s u hu;exact⟨y,by simp [Act.put,a0f (Ne.symm hs),h1],h2⟩
theorem Rel.lt {g:G} {ρ:Rho} {h:Tr Blk} {nx:Nat} {w:World} (R:Rel g ρ h nx w) {b:Nat} {k:Blk} (e:at_ h b=some k):∃ x o,ρ b=some x/\w.heap[x.1]? =some o/\blkR ρ x.2 k o/\x.1<w.heap.size:=by
 obtain⟨x,o,h1,h2,h3⟩:=R.blk b k e
 exact⟨x,o,h1,h2,h3,SX.heap_lt h2⟩
theorem Rel.row {g:G} {ρ:Rho} {h:Tr Blk} {nx:Nat} {w:World} (R:Rel g ρ h nx w) {b:Nat} {c:List V} {t op:Nat} (e:at_ h b=some (.cells c t op)):
 ∃ x l junk,ρ b=some x/\w.heap[x.1]? =some (.cells ⟨l++junk⟩ t (0,0))/\cells ρ c l/\(op=0->junk=[])/\(0<op->l.length+junk.length=x.2*op):=by
 obtain⟨x,o,h1,h2,h3⟩:=R.blk b _ e
 cases o <;> first
  | (obtain⟨rfl,rfl,l,j,h4,rfl,h5,h6⟩:=h3;exact⟨x,l,j,h1,h2,h4,h5,h6⟩)
  | exact h3.elim
theorem zB (b off i:Nat):Addr.add ⟨b,off,none⟩ i=⟨b,off+i,none⟩:=by
 unfold Addr.add;split
 ·subst_vars;rfl
 ·rfl
theorem yP {w:World} {x:Nat} {a:Array Value} {t:Nat} {fz:Nat × Nat} (h:w.heap[x]? =some (.cells a t fz)) (i:Nat):w.cell? ⟨x,i,none⟩=a[i]?:=by
 simp [World.cell?,h]
theorem aD2 {P:Program} {g:G} {ρ:Rho} {h:Tr Blk} {nx:Nat} {w:World} (R:Rel g ρ h nx w) {b off n:Nat} {l:List V} {h1:Tr Blk} {n1:Nat} {m:List Fp}
 (e:pRd b off n h nx=some (l,h1,n1,m)):∃ x r,ρ b=some x/\(loadCells ⟨x.1,off,none⟩ n).run P w= .ok ⟨r⟩ w/\cells ρ l r/\l.length=n/\h1=h/\n1=nx:=by
 unfold pRd at e
 split at e
 ·rename_i c t op hb;split at e
  ·rename_i l' htk;split at e
   ·cases e;obtain⟨x,cl,junk,hx,hw,hc,_,_⟩:=R.row hb;rw [dr_eq,xK]at htk;obtain⟨h2,rfl⟩:=htk;simp only [a0T]at h2;have hcl:=hc.len;have hlen:((cl.drop off).take n).length=n:=by simp;omega
    refine⟨x,(cl.drop off).take n,hx,?_,(hc.drop off).take n,by simp;omega,rfl,rfl⟩
    have:=SX.run_loadCellsFrom (P:=P) (w:=w) (p:=⟨x.1,off,none⟩) ((cl.drop off).take n) 0 #[] (fun j v hj=>by
     rw [zB,yP hw];have hjn:j<n:=by have:=(a0K.1 hj).1;omega
     rw [a0P hjn,a0H]at hj;rw [a0Q,a1O,a0E (a0K.1 hj).1];exact hj)
    rw [hlen]at this;unfold loadCells;rw [this];simp
   ·cases e
  ·cases e
 ·cases e
theorem aIT {g:G} {ρ:Rho} {h:Tr Blk} {nx:Nat} {w:World} (R:Rel g ρ h nx w) {b off:Nat} {v:V} {h1:Tr Blk} {n1:Nat} {m:List Fp}
 (e:pRd1 b off h nx=some (v,h1,n1,m)):∃ x u,ρ b=some x/\w.cell? ⟨x.1,off,none⟩=some u/\tv ρ v=some u/\isC v=true/\h1=h/\n1=nx:=by
 obtain⟨e1,e2⟩:=xF.1 e
 cases e2
 obtain⟨c,t,op,hb,hv⟩:=lR.1 e1
 obtain⟨x,cl,junk,hx,hw,hc,_,_⟩:=R.row hb
 obtain⟨u,h2,h3,h4⟩:=hc.get hv
 refine⟨x,u,hx,?_,h3,h4,rfl,rfl⟩
 rw [yP hw,a0Q,a0E (a0K.1 h2).1];exact h2
theorem Rel.ext {g:G} {ρ:Rho} {h h':Tr Blk} {nx:Nat} {w:World} (R:Rel g ρ h nx w) (e:∀ b,at_ h' b=at_ h b):Rel g ρ h' nx w:=
 ⟨fun b k q=>R.blk b k (by rw [<- e];exact q),fun b b' x x' p q=>R.inj b b' x x' (by rw [<- e];exact p) (by rw [<- e];exact q),R.new,R.below,R.lo,R.fresh,R.le,R.out⟩
theorem Rel.write {g:G} {ρ:Rho} {h:Tr Blk} {nx:Nat} {w w':World} (R:Rel g ρ h nx w) {b:Nat} {x:Nat × Nat} {k k':Blk} {o':Obj} (hb:at_ h b=some k) (hx:ρ b=some x) (hw:w'.heap[x.1]? =some o')
 (ho:∀ c,c≠x.1->w'.heap[c]? =w.heap[c]?) (hsz:w'.heap.size=w.heap.size) (hos:w'.os=w.os) (hout:w'.output=w.output) (htp:w'.tape=w.tape) (hk:blkR ρ x.2 k' o'):Rel g ρ (pu h b (some k')) nx w':=by
 refine⟨fun c q hc=>?_,fun c c' y y' h1 h2 h3 h4 h5=>?_,R.new,⟨hos.trans R.below.os,htp.trans R.below.tape,hout.trans R.below.output,by rw [hsz];exact R.below.size,fun c hc=>?_⟩,R.lo,R.fresh,R.le,R.out⟩
 ·rw [fQ]at hc;by_cases e:c=b
  ·subst e;rw [a2d rfl]at hc;cases hc;exact⟨x,o',hx,hw,hk⟩
  ·rw [a2c e]at hc;obtain⟨y,o,h1,h2,h3⟩:=R.blk c q hc;refine⟨y,o,h1,?_,h3⟩;rw [ho y.1 fun e2=>e (R.inj c b y x (by rw [hc];simp) (by rw [hb];simp) h1 hx e2)];exact h2
 ·refine R.inj c c' y y' (fun e=>h1 ?_) (fun e=>h2 ?_) h3 h4 h5
  ·rw [fQ];split
   ·subst_vars;rw [hb]at e;cases e
   ·exact e
  ·rw [fQ];split
   ·subst_vars;rw [hb]at e;cases e
   ·exact e
 ·have:=R.new b x hx;rw [ho c (by omega)];exact R.below.block c hc
theorem aHa {w:World} {b off:Nat} {a:Array Value} {t:Nat} {fz:Nat × Nat} (h:w.heap[b]? =some (.cells a t fz)) (u:Value):
 (w.setCell ⟨b,off,none⟩ u).heap[b]? =some (.cells (a.setIfInBounds off u) t fz):=SX.setCell_self w ⟨b,off,none⟩ u h rfl
theorem aD6 {α:Type} {c l:List α} {off:Nat} {v:α} (h:off+(v :: l).length<=c.length):((c.set off v).take (off+1)++l++(c.set off v).drop (off+1+l.length))=c.take off++(v :: l)++c.drop (off+(v :: l).length):=by
 simp only [a0S]at h
 have h2:(c.set off v).take (off+1)=c.take off++[v]:=by
  rw [List.take_set,a1y (by omega),List.set_append_right _ _ (by simp;omega)];simp [a1L (by omega:off<=c.length)]
 have h3:(c.set off v).drop (off+1+l.length)=c.drop (off+(v :: l).length):=by
  rw [List.drop_set,a2d (by omega)];congr 1;simp;omega
 rw [h2,h3];simp
theorem aIJ {ρ:Rho} {c:List V} {l:List Value} (h:cells ρ c l) {i:Nat} {v:V} {u:Value} (hv:isC v=true) (e:tv ρ v=some u) (hi:i<c.length):cells ρ (c.set i v) (l.set i u):=by
 have hl:=h.len
 have e1:c.set i v=c.take i++v :: c.drop (i+1):=by rw [List.set_eq_take_append_cons_drop,a2d hi]
 have e2:l.set i u=l.take i++u :: l.drop (i+1):=by rw [List.set_eq_take_append_cons_drop,a2d (by omega)]
 rw [e1,e2]
 have h1:cells ρ [v] [u]:=⟨sW.2 ⟨hv,rfl⟩,eA.2 ⟨u,[],e,rfl,rfl⟩⟩
 exact(h.take i).app (h1.app (h.drop (i+1)))
theorem aHP {P:Program} {g:G} {ρ:Rho} {nx:Nat} {b t op:Nat} {x:Nat × Nat}:∀ (l:List V) (r:List Value) (off:Nat) (c:List V) (h:Tr Blk) (w:World) (k i:Nat),Rel g ρ h nx w->at_ h b=some (.cells c t op)->ρ b=some x ->
 cells ρ l r->off+l.length<=c.length->off=k+i->∃ w',(storeCells ⟨x.1,k,none⟩ r i).run P w= .ok () w'/\Rel g ρ (pu h b (some (.cells (c.take off++l++c.drop (off+l.length)) t op))) nx w'
 | [],r,off,c,h,w,k,i,R,hb,hx,hc,hle,hk=>by
  rw [sT.1 hc.2];refine⟨w,rfl,R.ext fun d=>?_⟩
  rw [fQ];split
  ·subst_vars;rw [hb];simp
  ·rfl
 | v :: l,r,off,c,h,w,k,i,R,hb,hx,hc,hle,hk=>by
  obtain⟨u,r,h1,h2,rfl⟩:=eA.1 hc.2;obtain⟨h3,h4⟩:=sW.1 hc.1;obtain⟨y,cl,junk,hy,hw,hcc,hj0,hj1⟩:=R.row hb;rw [hx]at hy;cases hy
  have hlen:=hcc.len;have hoff:off<c.length:=by simp at hle;omega
  have hcell:w.cell? ⟨x.1,off,none⟩=some (cl[off]'(by omega)):=by
   rw [yP hw,a0Q,a0E (by omega)];simp
  have hfr:w.frozen? ⟨x.1,off,none⟩=false:=by simp [World.frozen?,hw]
  have hrun:(Go.store ⟨x.1,off,none⟩ u).run P w= .ok () (w.setCell ⟨x.1,off,none⟩ u):=SX.run_store (P:=P) (by
   have:=aCv h3 h1;cases u <;> first | exact this.elim | trivial) hcell hfr
  have hcc':=aIJ hcc h3 h1 hoff;have R':Rel g ρ (pu h b (some (.cells (c.set off v) t op))) nx (w.setCell ⟨x.1,off,none⟩ u):=
   R.write hb hx (aHa hw u) (fun d hd=>SX.setCell_other w ⟨x.1,off,none⟩ u hd) (SX.setCell_size _ _ _) rfl rfl rfl
    ⟨rfl,rfl,cl.set off u,junk,hcc',by simp [List.set_append_left _ _ (by omega:off<cl.length)],hj0,fun h=>by simp;exact hj1 h⟩
  obtain⟨w',hr,hR⟩:=aHP (P:=P) l r (off+1) (c.set off v) _ _ k (i+1) R' at_same hx ⟨h4,h2⟩ (by simp at hle ⊢;omega) (by omega)
  refine⟨w',?_,hR.ext fun d=>?_⟩
  ·have e0:Addr.add ⟨x.1,k,none⟩ i=⟨x.1,off,none⟩:=by rw [zB,hk]
   simp only [storeCells,a1W,e0,hrun];exact hr
  ·rw [fQ,fQ];split
   ·rw [aD6 hle]
   ·rw [at_ne (by assumption)]
theorem aAC {P:Program} {g:G} {ρ:Rho} {h:Tr Blk} {nx:Nat} {w:World} (R:Rel g ρ h nx w) {b off:Nat} {l:List V} {r:List Value} {h1:Tr Blk} {n1:Nat} {m:List Fp}
 (e:pWr b off l h nx=some ((),h1,n1,m)) (hc:cells ρ l r):∃ x w',ρ b=some x/\(storeCells ⟨x.1,off,none⟩ r).run P w= .ok () w'/\Rel g ρ h1 n1 w':=by
 unfold pWr at e
 split at e
 ·rename_i c t op hb;split at e
  ·rename_i c' hpl;split at e
   ·cases e;obtain⟨h2,rfl⟩:=(tO l off c c').1 hpl;obtain⟨x,_,_,hx,_⟩:=R.row hb;obtain⟨w',h3,h4⟩:=aHP (P:=P) l r off c h w off 0 R hb hx hc h2 rfl;exact⟨x,w',hx,h3,h4⟩
   ·cases e
  ·cases e
 ·cases e
def Rho.ins (ρ:Rho) (b:Nat) (x:Nat × Nat):Rho:=fun c=>if c=b then some x else ρ c
theorem Rho.le_ins {ρ:Rho} {b:Nat} {x:Nat × Nat} (h:ρ b=none):ρ.le (ρ.ins b x):=fun c y e=>by
 unfold Rho.ins;split
 ·subst c;rw [h]at e;cases e
 ·exact e
theorem Rho.ins_self {ρ:Rho} {b:Nat} {x:Nat × Nat}:ρ.ins b x b=some x:=by simp [Rho.ins]
theorem zV {g:G} {ρ:Rho} {h:Tr Blk} {nx:Nat} {w:World} (R:Rel g ρ h nx w) {k:Blk} {b:Nat} {h1:Tr Blk} {n1:Nat} {m:List Fp}
 (e:iT k h nx=some (b,h1,n1,m)) (hi:n1<=g.hi) (κ:Nat) (o:Obj) (hk:blkR (ρ.ins nx (w.heap.size,κ)) κ k o):b=nx/\ρ.le (ρ.ins nx (w.heap.size,κ))/\Rel g (ρ.ins nx (w.heap.size,κ)) h1 n1 (w.alloc o):=by
 unfold iT at e
 split at e
 ·rename_i h0;cases e;have hn:ρ nx=none:=R.fresh nx (a1G _) hi;have hle:=Rho.le_ins (x:=(w.heap.size,κ)) hn;have hnew:(w.alloc o).heap[w.heap.size]? =some o:=by show(w.heap.push o)[w.heap.size]? =_;simp
  refine⟨rfl,hle,⟨fun c q hc=>?_,fun c c' y y' h1 h2 h3 h4 h5=>?_,fun c y hy=>?_,R.below.alloc R.below.size o,Nat.le_succ_of_le R.lo,fun c hc hc2=>?_,Rho.le_trans R.le hle,fun c hc=>?_⟩⟩
  ·rw [fQ]at hc;by_cases e:c=nx
   ·subst e;rw [a2d rfl]at hc;cases hc;exact⟨_,o,Rho.ins_self,hnew,hk⟩
   ·rw [a2c e]at hc;obtain⟨y,o2,h1,h2,h3,h4⟩:=R.lt hc;exact⟨y,o2,hle _ _ h1,by rw [Below.heap_alloc w o y.1 h4];exact h2,h3.mono hle⟩
  ·have key:∀ {d:Nat} {z:Nat × Nat},at_ (pu h nx (some k)) d≠none->ρ.ins nx (w.heap.size,κ) d=some z->(d=nx/\z.1=w.heap.size)\/(d≠nx/\at_ h d≠none/\ρ d=some z/\z.1<w.heap.size):=fun {d z} hd hz=>by
    by_cases e:d=nx
    ·subst e;rw [Rho.ins_self]at hz;cases hz;exact .inl ⟨rfl,rfl⟩
    ·rw [at_ne e]at hd;have hz':ρ d=some z:=by simpa [Rho.ins,e] using hz
     refine .inr ⟨e,hd,hz',?_⟩;cases hq:at_ h d with
     | none=>exact absurd hq hd
     | some q=>
      obtain⟨y,o2,g1,g2,_,g4⟩:=R.lt hq;rw [hz']at g1;cases g1;exact g4
   rcases key h1 h3 with⟨a1,a2⟩ | ⟨a1,a2,a3,a4⟩ <;> rcases key h2 h4 with⟨b1,b2⟩ | ⟨b1,b2,b3,b4⟩
   ·omega
   ·omega
   ·omega
   ·exact R.inj c c' y y' a2 b2 a3 b3 h5
  ·unfold Rho.ins at hy;split at hy
   ·cases hy;exact R.below.size
   ·exact R.new c y hy
  ·have:c≠nx:=by omega
   simp only [Rho.ins,a2c this];exact R.fresh c (by omega) hc2
  ·have:=R.lo;have:c≠nx:=by omega
   simp only [Rho.ins,a2c this];exact R.out c hc
 ·cases e
theorem aKm {g:G} {ρ:Rho} {h:Tr Blk} {nx:Nat} {w:World} (R:Rel g ρ h nx w) {b:Nat} {h1:Tr Blk} {n1:Nat} {m:List Fp} (e:pDel b h nx=some ((),h1,n1,m)):Rel g ρ h1 n1 w:=by
 unfold pDel at e
 split at e
 ·cases e;refine⟨fun c q hc=>?_,fun c c' y y' h1 h2=>R.inj c c' y y' (fun e=>h1 ?_) (fun e=>h2 ?_),R.new,R.below,R.lo,R.fresh,R.le,R.out⟩
  ·rw [fQ]at hc;split at hc
   ·cases hc
   ·exact R.blk c q hc
  ·rw [fQ];split
   ·rfl
   ·exact e
  ·rw [fQ];split
   ·rfl
   ·exact e
 ·cases e
theorem mU {g:G} {ρ:Rho} {h:Tr Blk} {nx:Nat} {w:World} (R:Rel g ρ h nx w) {b:Nat} {o:Ob} {h1:Tr Blk} {n1:Nat} {m:List Fp} (e:pD b h nx=some (o,h1,n1,m)):
 ∃ x o',ρ b=some x/\w.heap[x.1]? =some o'/\obR ρ o o'/\at_ h b=some (.obj o)/\h1=h/\n1=nx:=by
 unfold pD at e
 split at e
 ·rename_i hb;cases e
  obtain⟨x,o',h1,h2,h3⟩:=R.blk b _ hb;exact⟨x,o',h1,h2,h3,hb,rfl,rfl⟩
 ·cases e
theorem uM {g:G} {ρ:Rho} {h:Tr Blk} {nx:Nat} {w:World} (R:Rel g ρ h nx w) {b:Nat} {o:Ob} {x:Nat × Nat} {o1:Obj} {h1:Tr Blk} {n1:Nat} {m:List Fp} (e:qR b o h nx=some ((),h1,n1,m)) (hx:ρ b=some x) (ho:obR ρ o o1):
 Rel g ρ h1 n1 { w with heap:=w.heap.setIfInBounds x.1 o1 }:=by
 unfold qR at e
 split at e
 ·rename_i o0 hb;cases e
  obtain⟨y,o',h1,h2,h3,h4⟩:=R.lt hb;rw [hx]at h1;cases h1
  refine R.write hb hx ?_ (fun c hc=>?_) (by simp) rfl rfl rfl ho
  ·simp [h4]
  ·simp [a0f (Ne.symm hc)]
 ·cases e
end
open RowKit (Below)
noncomputable section
section
variable {P:Program}
theorem sC {t:Nat} {i:TypeInfo} (h:info P t=some i):P.info? t=some i:=by
 have e:at_ (tX P.types.toList 0 .leaf fun t=>t) t=some i:=h
 rw [aCm]at e
 split at e
 ·rename_i hlt;have:t<P.types.size:=by simpa using hlt.2
  unfold Tables.info?
  rw [a2d this];simpa using e
 ·rw [xZ]at e;cases e
theorem dM {t:Nat} {d:TypeDesc} (h:und P t=some d):P.underlying t=some d:=by
 unfold und at h
 unfold Program.underlying
 cases hi:info P t with
 | none=>rw [hi]at h;cases h
 | some i=>
  rw [hi]at h;rw [sC hi];simp only [und1]at h ⊢;obtain⟨desc,a1,a2,a3,a4,a5,a6,a7,a8,a9⟩:=i;cases desc <;> first
   | exact h
   | (rename_i nm u
      simp only at h ⊢
      cases hu:info P u with
      | none=>rw [hu]at h;cases h
      | some j=>rw [hu]at h;rw [sC hu];exact h)
theorem uF {t n:Nat} (h:szT P t=some n):∃ i,P.info? t=some i/\i.size=n:=by
 unfold szT at h
 cases hi:info P t with
 | none=>rw [hi]at h;cases h
 | some i=>rw [hi]at h;cases h;exact⟨i,sC hi,rfl⟩
theorem zer_tv {t:Nat} {z:V} (ρ:Rho) (h:zer P t=some z):∃ i zv,P.info? t=some i/\i.zero=some zv/\tv ρ z=some zv:=by
 unfold zer at h
 cases hi:info P t with
 | none=>rw [hi]at h;cases h
 | some i=>
  rw [hi]at h;simp only at h
  cases hz:i.zero with
  | none=>rw [hz]at h;cases h
  | some zv=>rw [hz]at h;exact⟨i,zv,sC hi,hz,vO ρ zv h⟩
theorem kU {t:Nat} {z:V} {ρ:Rho} (h:zer P t=some z) (w:World):∃ zv,(zeroValue t).run P w= .ok zv w/\tv ρ z=some zv:=by
 obtain⟨i,zv,h1,h2,h3⟩:=zer_tv ρ h
 exact⟨zv,by simp [zeroValue,a1W,SX.run_typeInfo h1,h2,Sem.run,pure],h3⟩
theorem aAf {t n:Nat} (h:szT P t=some n) (w:World):(sizeOf t).run P w= .ok n w:=by
 obtain⟨i,h1,rfl⟩:=uF h
 exact SX.run_sizeOf h1 w
theorem aGy {t:Nat} {s:Option Nat} (h:shp P t=some s) (w:World):(isAgg t).run P w= .ok s.isSome w/\∀ n,s=some n->(sizeOf t).run P w= .ok n w:=by
 unfold shp at h
 cases hu:und P t with
 | none=>rw [hu]at h;cases h
 | some d=>
  rw [hu]at h;have hU:=SX.run_underlying (dM hu) w;cases d <;> simp only at h <;> first
   | (cases h;exact⟨by simp [isAgg,a1W,hU,Sem.run,pure],fun n e=>by cases e⟩)
   | (cases hs:szT P t with
      | none=>rw [hs]at h;cases h
      | some m=>rw [hs]at h;cases h;exact⟨by simp [isAgg,a1W,hU,Sem.run,pure],fun n e=>by cases e;exact aAf hs w⟩)
end
def OkV (P:Program) (o:Oper) (a:Act) (w:World) (g:G) (ρ:Rho) (r:O × S) (kv:KV):Prop:=
 ∃ v x ρ' h' nx' lg' w',((execOp a.eval o).run P w= .ok (.value x) w'\/((execOp a.eval o).run P w= .ok .skip w'/\x=undef))/\ρ.le ρ'/\Rel g ρ' h' nx' w'/\tv ρ' v=some x/\run (kv v) h' nx' lg'=some r
section
variable {P:Program} {o:Oper} {a:Act} {w:World} {g:G} {ρ:Rho} {r:O × S} {kv:KV} {kp:List PE->AL} {kd:Df->AL} {e:Tr V} {n:Nat} {h:Tr Blk} {nx:Nat} {lg:List Fp} {ex:Ex}
theorem OkV.pure {v:V} {x:Value} (R:Rel g ρ h nx w) (hx:(execOp a.eval o).run P w= .ok (.value x) w) (ht:tv ρ v=some x) (q:run (kv v) h nx lg=some r):OkV P o a w g ρ r kv:=
 ⟨v,x,ρ,h,nx,lg,w, .inl hx,Rho.le_refl ρ,R,ht,q⟩
theorem qD {k:IntKind} {n:Int} {x:Value} (h:tv ρ (.int k n)=some x):x= .int k n:=by cases h;rfl
theorem aFI {b:Bool} {x:Value} (h:tv ρ (.bool b)=some x):x= .bool b:=by cases h;rfl
theorem lA {b off:Nat} {x:Value} (h:tv ρ (.ptr b off)=some x):∃ y,ρ b=some y/\x= .pointer (some ⟨y.1,off,none⟩):=by
 simp only [tv,a1R]at h
 obtain⟨y,h1,rfl⟩:=h;exact⟨y,h1,rfl⟩
theorem tv_tup {l:List V} {x:Value} (h:tv ρ (.tup l)=some x):∃ r,tvs ρ l=some r/\x= .tuple ⟨r⟩:=by
 simp only [tv]at h
 cases ha:tvs ρ l with
 | none=>rw [ha]at h;cases h
 | some r=>rw [ha]at h;cases h;exact⟨r,rfl,rfl⟩
theorem s_move {x:Operand} (ho:o.op= .move x\/o.op= .assign x) (he:bT ρ e n a.tmps) (R:Rel g ρ h nx w) (q:run (oM x P ex e kv kp kd) h nx lg=some r):OkV P o a w g ρ r kv:=by
 obtain⟨v,h1,q1⟩:=fT q
 exact .pure R (by rcases ho with ho | ho <;> simp [execOp,ho,Sem.run,Pure.pure]) (cR he h1) q1
theorem s_pick {c x y:Operand} (ho:o.op= .pick c x y) (he:bT ρ e n a.tmps) (R:Rel g ρ h nx w) (q:run (yJ c x y P ex e kv kp kd) h nx lg=some r):OkV P o a w g ρ r kv:=by
 obtain⟨v,u,t,h1,h2,h3,q1⟩:=aEG q
 obtain⟨b,rfl,q2⟩:=aHF q1
 have hb:=aFI (cR he h1)
 cases b with
 | true=>exact .pure R (by simp [execOp,ho,hb,Go.asBool,a1W,Sem.run,Pure.pure]) (cR he h2) q2
 | false=>exact .pure R (by simp [execOp,ho,hb,Go.asBool,a1W,Sem.run,Pure.pure]) (cR he h3) q2
theorem aFq {t:Nat} {s:Option Nat} {b off:Nat} {y:Nat × Nat} {k:V->AL} (R:Rel g ρ h nx w) (hs:shp P t=some s) (hb:ρ b=some y) (q:run (loadS s b off k) h nx lg=some r):
 ∃ v x lg',(loadVar t ⟨y.1,off,none⟩).run P w= .ok x w/\tv ρ v=some x/\run (k v) h nx lg'=some r:=by
 obtain⟨hA,hsz⟩:=aGy hs w
 rcases kL q with⟨rfl,q1⟩ | ⟨m,rfl,q1⟩
 ·rw [aGd]at q1;obtain⟨v,h1,n1,l,e1,q2⟩:=dJ q1;obtain⟨x,u,h2,h3,h4,_,rfl,rfl⟩:=aIT R e1;rw [hb]at h2;cases h2
  exact⟨v,u,_,by simp [loadVar,a1W,hA,Go.load,Sem.run,h3],h4,q2⟩
 ·have hm:=hsz m rfl;rcases gU q1 with⟨h0,q3⟩ | ⟨_,q3⟩
  ·have:=a1D h0;subst this;exact⟨.agg [], .agg #[],lg,by simp [loadVar,a1W,hA,hm,loadCells,loadCellsFrom,Sem.run,Pure.pure],rfl,q3⟩
  ·rw [aCE]at q3;obtain⟨v,h1,n1,l,e1,q4⟩:=dJ q3;obtain⟨x,rr,h2,h3,h4,_,rfl,rfl⟩:=aD2 (P:=P) R e1;rw [hb]at h2;cases h2
   exact⟨.agg v, .agg ⟨rr⟩,_,by simp [loadVar,a1W,hA,hm,h3,Sem.run,Pure.pure],aAZ h4,q4⟩
theorem s_load {t:Nat} {x:Operand} (ho:o.op= .load t x) (he:bT ρ e n a.tmps) (R:Rel g ρ h nx w) (q:run (aAe t x P ex e kv kp kd) h nx lg=some r):OkV P o a w g ρ r kv:=by
 obtain⟨v,h1,q1⟩:=fT q
 obtain⟨s,hs,q2⟩:=bN q1
 obtain⟨b,off,rfl,q3⟩:=wF q2
 obtain⟨y,hb,hx⟩:=lA (cR he h1)
 obtain⟨u,z,lg',h2,h3,q4⟩:=aFq R hs hb q3
 exact .pure R (by simp [execOp,ho,hx,Instr.loadAt,Instr.sureAddr,a1W,h2,Sem.run,Pure.pure]) h3 q4
theorem s_store {t:Nat} {x y:Operand} (ho:o.op= .store t x y) (he:bT ρ e n a.tmps) (R:Rel g ρ h nx w) (q:run (wX t x y P ex e kv kp kd) h nx lg=some r):OkV P o a w g ρ r kv:=by
 obtain⟨p,v,h1,h2,q1⟩:=sP q
 obtain⟨sz,hs,q2⟩:=bN q1
 obtain⟨b,off,rfl,q3⟩:=wF q2
 obtain⟨c,hc,q4⟩:=bN q3
 obtain⟨hlen,q5⟩:=dG q4
 rw [ln0]at hlen
 have hlen:=a1D hlen
 obtain⟨y',hb,hx⟩:=lA (cR he h1)
 have hcc:=vR hc (cR he h2)
 have hl:=hcc.len
 have hsz:=aAf hs w
 rcases gU q5 with⟨h0,q6⟩ | ⟨_,q6⟩
 ·have:=a1D h0;subst this;have h0':(a.eval y).cells.toList=[]:=a0z (by omega)
  have h0s:(a.eval y).cells.size=0:=by rw [<- a0h,h0'];rfl
  refine⟨eI,undef,ρ,h,nx,lg,w, .inr ⟨?_,rfl⟩,Rho.le_refl ρ,R,rfl,q6⟩;simp [execOp,ho,hx,Instr.storeAt,Instr.sureAddr,storeVar,a1W,hsz,h0s,h0',storeCells,Sem.run,Pure.pure]
 ·rw [aAc]at q6;obtain⟨_,h1',n1,l,e1,q7⟩:=dJ q6;obtain⟨y2,w',g1,g2,g3⟩:=aAC (P:=P) R e1 hcc;rw [hb]at g1;cases g1
  have h0s:(a.eval y).cells.size=sz:=by rw [<- a0h];omega
  refine⟨eI,undef,ρ,h1',n1,_,w', .inr ⟨?_,rfl⟩,Rho.le_refl ρ,g3,rfl,q7⟩;simp [execOp,ho,hx,Instr.storeAt,Instr.sureAddr,storeVar,a1W,hsz,h0s,g2,Sem.run,Pure.pure]
theorem aA4 {c:List V} {l:List Value} {t:Nat} {k:Nat->AL} (R:Rel g ρ h nx w) (hc:cells ρ c l) (hi:r.2.nx<=g.hi) (q:run (.new c t 0 k) h nx lg=some r):
 ∃ b ρ' h' nx' lg',(Go.newRow t ⟨l⟩).run P w= .ok ⟨w.heap.size,0,none⟩ (w.alloc (.cells ⟨l⟩ t))/\ρ.le ρ'/\Rel g ρ' h' nx' (w.alloc (.cells ⟨l⟩ t))/\(∃ κ,ρ' b=some (w.heap.size,κ))/\run (k b) h' nx' lg'=some r:=by
 rw [aBi]at q
 obtain⟨b,h1,n1,m,e1,q1⟩:=dJ q
 have hn1:=a1H (rQ q1) hi
 have hn:ρ nx=none:=by
  unfold iT at e1;split at e1
  ·cases e1;exact R.fresh nx (a1G _) hn1
  ·cases e1
 have hle:=Rho.le_ins (x:=(w.heap.size,0)) hn
 obtain⟨rfl,h2,h3⟩:=zV R e1 hn1 0 (.cells ⟨l⟩ t) ⟨rfl,rfl,l,[],hc.mono hle,by simp,fun _=>rfl,fun h=>absurd h (Nat.lt_irrefl 0)⟩
 exact⟨b,_,h1,n1,_,by simp [newRow,newObj,a1W,Sem.run,Pure.pure],h2,h3,⟨0,Rho.ins_self⟩,q1⟩
theorem xE {b off:Nat} {x κ:Nat} (h:ρ b=some (x,κ)):tv ρ (.ptr b off)=some (.pointer (some ⟨x,off,none⟩)):=by simp [tv,h]
theorem s_alloc {t:Nat} (ho:o.op= .alloc t) (hi:r.2.nx<=g.hi) (R:Rel g ρ h nx w) (q:run (aAr t P ex e kv kp kd) h nx lg=some r):OkV P o a w g ρ r kv:=by
 obtain⟨z,hz,q1⟩:=bN q
 obtain⟨c,hc,q2⟩:=bN q1
 obtain⟨zv,h1,h2⟩:=kU (ρ:=ρ) hz w
 obtain⟨b,ρ',h',nx',lg',g1,g2,g3,⟨κ,g4⟩,q3⟩:=aA4 (P:=P) R (vR hc h2) hi q2
 refine⟨.ptr b 0,_,ρ',h',nx',lg',_, .inl ?_,g2,g3,xE g4,q3⟩
 simp [execOp,ho,Instr.alloc,a1W,h1,newVar,g1,Sem.run,Pure.pure]
theorem s_box {t:Nat} {x:Operand} (ho:o.op= .box t x) (he:bT ρ e n a.tmps) (hi:r.2.nx<=g.hi) (R:Rel g ρ h nx w) (q:run (hBox t x P ex e kv kp kd) h nx lg=some r):OkV P o a w g ρ r kv:=by
 obtain⟨v,h1,q1⟩:=fT q
 obtain⟨c,hc,q2⟩:=bN q1
 obtain⟨b,ρ',h',nx',lg',g1,g2,g3,⟨κ,g4⟩,q3⟩:=aA4 (P:=P) R (vR hc (cR he h1)) hi q2
 refine⟨.ptr b 0,_,ρ',h',nx',lg',_, .inl ?_,g2,g3,xE g4,q3⟩
 simp [execOp,ho,Instr.box,a1W,newVar,g1,Sem.run,Pure.pure]
theorem s_nil {x:Operand} (ho:o.op= .nilCheck x) (he:bT ρ e n a.tmps) (R:Rel g ρ h nx w) (q:run (hNil x P ex e kv kp kd) h nx lg=some r):OkV P o a w g ρ r kv:=by
 obtain⟨v,h1,q1⟩:=fT q
 have ht:=cR he h1
 have key:run (kv v) h nx lg=some r/\(execOp a.eval o).run P w= .ok (.value (a.eval x)) w:=by
  cases v <;> first
   | (cases q1;done)
   | skip
  ·obtain⟨y,_,hx⟩:=lA ht;exact⟨q1,by simp [execOp,ho,hx,Sem.run,Pure.pure]⟩
  ·simp only [tv]at ht;rename_i f a1 c1;cases ha:tvs ρ a1 with
   | none=>rw [ha]at ht;cases ht
   | some y=>
    rw [ha]at ht;simp only at ht
    cases hc:tvs ρ c1 with
    | none=>rw [hc]at ht;cases ht
    | some z=>rw [hc]at ht;simp only [a1U]at ht;exact⟨q1,by simp [execOp,ho,<- ht,Sem.run,Pure.pure]⟩
  ·simp only [tv,a1R]at ht;obtain⟨y,_,hx⟩:=ht;exact⟨q1,by simp [execOp,ho,<- hx,Sem.run,Pure.pure]⟩
 exact .pure R key.2 ht key.1
theorem s_ext {x:Operand} {i:Nat} (ho:o.op= .extract x i) (he:bT ρ e n a.tmps) (R:Rel g ρ h nx w) (q:run (hExt x i P ex e kv kp kd) h nx lg=some r):OkV P o a w g ρ r kv:=by
 obtain⟨v,h1,q1⟩:=fT q
 obtain⟨l,rfl,q2⟩:=aIS q1
 obtain⟨u,h2,q3⟩:=bN q2
 obtain⟨rr,h3,hx⟩:=tv_tup (cR he h1)
 rw [lV]at h2
 obtain⟨y,h4,h5⟩:=aBF h3 h2
 exact .pure R (by simp [execOp,ho,hx,Instr.extract,h4,a1W,Sem.run,Pure.pure]) h5 q3
theorem aFZ {t:Nat} (hh:noIf P t=true):∃ d,P.underlying t=some d/\∀ ms,d≠ .interface ms:=by
 unfold noIf at hh
 cases hu:und P t with
 | none=>rw [hu]at hh;cases hh
 | some d=>
  refine⟨d,dM hu,fun ms e=>?_⟩
  subst e;rw [hu]at hh;cases hh
theorem s_mkI {t:Nat} {x:Operand} (ho:o.op= .makeInterface t x) (he:bT ρ e n a.tmps) (R:Rel g ρ h nx w) (q:run (hMkI t x P ex e kv kp kd) h nx lg=some r):OkV P o a w g ρ r kv:=by
 obtain⟨v,h1,q1⟩:=fT q
 obtain⟨hn,q2⟩:=dG q1
 obtain⟨d,hd,hni⟩:=aFZ hn
 have hU:=SX.run_underlying hd w
 refine .pure (x:= .iface t (a.eval x)) R ?_ (by simp only [tv,cR he h1]) q2
 cases d <;> first
  | exact absurd rfl (hni _)
  | simp [execOp,ho,Instr.makeInterface,a1W,hU,Sem.run,Pure.pure]
theorem s_mkF {fn:Fn} {f c:Array Operand} (ho:o.op= .makeFunc fn f c) (he:bT ρ e n a.tmps) (R:Rel g ρ h nx w) (q:run (hMkF fn f c P ex e kv kp kd) h nx lg=some r):OkV P o a w g ρ r kv:=by
 obtain⟨gf,h1,q1⟩:=bN q
 obtain⟨fs,h2,q2⟩:=kA q1
 obtain⟨cs,h3,q3⟩:=kA q2
 have:fn= .func gf:=by cases fn <;> first | (cases h1;rfl) | cases h1
 subst this
 have hf:=jJ he h2
 have hc:=jJ he h3
 refine .pure (x:= .func (.func gf) (f.map a.eval) (c.map a.eval)) R (by simp [execOp,ho,Instr.makeFunc,a1W,Sem.run,Pure.pure]) ?_ q3
 simp only [tv,hf,hc]
 rw [<- Array.toList_map,<- Array.toList_map]
theorem s_mapN {t:Nat} {rr:Option Operand} (ho:o.op= .makeMap t rr) (hi:r.2.nx<=g.hi) (R:Rel g ρ h nx w) (q:run (hMapN t rr P ex e kv kp kd) h nx lg=some r):OkV P o a w g ρ r kv:=by
 rcases kL q with⟨rfl,q1⟩ | ⟨_,_,q1⟩
 ·rw [aBM]at q1;obtain⟨b,h1,n1,m,e1,q2⟩:=dJ q1;obtain⟨rfl,h2,h3⟩:=zV R e1 (a1H (rQ q2) hi) 0 (.map #[] 0) ⟨rfl,trivial⟩;refine⟨.map b, .map (some w.heap.size),_,h1,n1,_,_, .inl ?_,h2,h3,by simp [tv,Rho.ins_self],q2⟩
  simp [execOp,ho,Instr.makeMap,newObj,a1W,Sem.run,Pure.pure]
 ·cases q1
end
end
open RowKit (Below)
noncomputable section
section
variable {P:Program} {o:Oper} {a:Act} {w:World} {g:G} {ρ:Rho} {r:O × S} {kv:KV} {kp:List PE->AL} {kd:Df->AL} {e:Tr V} {n:Nat} {h:Tr Blk} {nx:Nat} {lg:List Fp} {ex:Ex}
theorem aHA {t f:Nat} {q:Nat × Nat} (hf:fldOf P t f=some q):∃ fs fd,P.underlying t=some (.struct fs)/\fs[f]? =some fd/\fd.offset=q.1/\fd.type=q.2:=by
 unfold fldOf at hf
 split at hf
 ·rename_i fs hu;split at hf
  ·rename_i fd hn;cases hf;rw [lV]at hn;exact⟨fs,fd,dM hu,by simpa using hn,rfl,rfl⟩
  ·cases hf
 ·cases hf
theorem fldA_eq {t f k:Nat} (hf:fldA P t f=some k):∃ fs fd i,P.underlying t=some (.struct fs)/\fs[f]? =some fd/\fd.offset=k/\P.info? fd.type=some i/\i.size≠0:=by
 unfold fldA at hf
 split at hf
 ·rename_i k' ft hq;split at hf
  ·rename_i m hs;split at hf
   ·rename_i hpos;cases hf;obtain⟨fs,fd,h1,h2,h3,h4⟩:=aHA hq;simp only at h3 h4
    subst h3 h4;obtain⟨i,h5,h6⟩:=uF hs;rw [a1C]at hpos;exact⟨fs,fd,i,h1,h2,rfl,h5,by omega⟩
   ·cases hf
  ·cases hf
 ·cases hf
theorem aIK {k:Nat} {d:AL} {f:Nat->AL} (q:run (eK k d f) h nx lg=some r):run (f k) h nx lg=some r:=q
theorem mL {y off k:Nat}:Addr.add ⟨y,off,none⟩ k=⟨y,off+k,none⟩:=zB y off k
theorem s_fieldA {t f:Nat} {x:Operand} (ho:o.op= .fieldAddr t x f) (he:bT ρ e n a.tmps) (R:Rel g ρ h nx w) (q:run (zA t x f P ex e kv kp kd) h nx lg=some r):OkV P o a w g ρ r kv:=by
 obtain⟨v,h1,q1⟩:=fT q
 obtain⟨k,hk,q2⟩:=bN q1
 obtain⟨b,off,rfl,q3⟩:=wF q2
 have q4:=aIK q3
 obtain⟨y,hb,hx⟩:=lA (cR he h1)
 obtain⟨fs,fd,i,g1,g2,g3,g4,g5⟩:=fldA_eq hk
 refine .pure (x:= .pointer (some ⟨y.1,off+k,none⟩)) R ?_ (xE (κ:=y.2) hb) q4
 simp [execOp,ho,hx,Instr.fieldAt,Instr.sureAddr,fieldPlace,a1W,SX.run_underlying g1,g2,SX.run_sizeOf g4,g5,Sem.run,Pure.pure,mL,g3]
theorem aGc {t off:Nat} {s:Option Nat} {cs:List V} {l:List Value} {k:V->AL} (hs:shp P t=some s) (hc:cells ρ cs l) (q:run (partV s off cs k) h nx lg=some r):
 ∃ v x,(part t ⟨l⟩ off).run P w= .ok x w/\tv ρ v=some x/\run (k v) h nx lg=some r:=by
 obtain⟨hA,hsz⟩:=aGy hs w
 rcases kL q with⟨rfl,q1⟩ | ⟨m,rfl,q1⟩
 ·obtain⟨v,hv,q2⟩:=bN q1;rw [lV]at hv;obtain⟨x,h1,h2,_⟩:=hc.get hv;exact⟨v,x,by simp [part,a1W,hA,h1,Sem.run,Pure.pure],h2,q2⟩
 ·obtain⟨c',hc',q2⟩:=bN q1;rw [dr_eq,xK]at hc';obtain⟨h1,rfl⟩:=hc';have h2:=(hc.drop off).take m;refine⟨_,_,?_,aAZ h2,q2⟩;have h3:((⟨l⟩:Array Value).extract off (off+m))=⟨(l.drop off).take m⟩:=by
   apply Array.ext'
   simp [List.extract_eq_take_drop]
  simp [part,a1W,hA,hsz m rfl,Sem.run,Pure.pure,h3]
theorem s_field {t f:Nat} {x:Operand} (ho:o.op= .field t x f) (he:bT ρ e n a.tmps) (R:Rel g ρ h nx w) (q:run (zJ t x f P ex e kv kp kd) h nx lg=some r):OkV P o a w g ρ r kv:=by
 obtain⟨v,h1,q1⟩:=fT q
 obtain⟨p,hp,q2⟩:=bN q1
 rcases aHp q2 with⟨cs,rfl,q3⟩ | q3
 ·obtain⟨l,hl,hx⟩:=aBQ (cR he h1);unfold fldV at hp;split at hp
  ·rename_i k ft hq;split at hp
   ·rename_i s hs;cases hp;obtain⟨fs,fd,g1,g2,g3,g4⟩:=aHA hq;simp only at g3 g4
    subst g3 g4;obtain⟨u,z,g5,g6,q4⟩:=aGc (w:=w) hs hl q3;exact .pure R (by simp [execOp,ho,hx,Instr.field,Go.asAgg,a1W,SX.run_underlying g1,g2,g5,Sem.run,Pure.pure]) g6 q4
   ·cases hp
  ·cases hp
 ·cases q3
theorem at_inv {b off es len:Nat} {i:V} {k:V->AL} (q:run (at' b off es len i k) h nx lg=some r):∃ kd j,i= .int kd (.ofNat j)/\j<len/\run (k (.ptr b (off+j*es))) h nx lg=some r:=by
 obtain⟨j,hj,q1⟩:=bN q
 obtain⟨hlt,q2⟩:=dG q1
 obtain⟨kd,rfl⟩:=xW hj
 rw [a1C]at hlt
 exact⟨kd,j,rfl,hlt,q2⟩
theorem mK {b off len cap:Nat} {x:Value} (h:tv ρ (.sl b off len cap)=some x):∃ y,ρ b=some y/\x= .slice (some ⟨y.1,off,none⟩) len cap:=by
 simp only [tv,a1R]at h
 obtain⟨y,h1,rfl⟩:=h;exact⟨y,h1,rfl⟩
theorem nW {b off len es:Nat} {x:Value} (h:tv ρ (.so b off len es)=some x):∃ y,ρ b=some y/\x= .slice (some ⟨y.1,off,none⟩) len (y.2 - off / es):=by
 simp only [tv,a1R]at h
 obtain⟨y,h1,rfl⟩:=h;exact⟨y,h1,rfl⟩
theorem aHo {t el:Nat} (hh:elOf P t=some el):P.underlying t=some (.slice el):=by
 unfold elOf at hh
 split at hh
 ·rename_i u hu;cases hh;exact dM hu
 ·cases hh
theorem arOf_eq {t:Nat} {q:Nat × Nat} (hh:arOf P t=some q):P.underlying t=some (.array q.1 q.2):=by
 unfold arOf at hh
 split at hh
 ·rename_i m u hu;cases hh;exact dM hu
 ·cases hh
theorem ixOf_eq {t:Nat} {q:Nat × Option Nat} (hh:ixOf P t=some q):∃ el i,P.info? el=some i/\i.size=q.1/\(q.2=none/\P.underlying t=some (.slice el)\/∃ m,q.2=some m/\P.underlying t=some (.array m el)):=by
 unfold ixOf at hh
 split at hh
 ·rename_i el hu;split at hh
  ·rename_i es hs;cases hh
   obtain⟨i,h1,h2⟩:=uF hs;exact⟨el,i,h1,h2, .inl ⟨rfl,dM hu⟩⟩
  ·cases hh
 ·rename_i m el hu;split at hh
  ·rename_i es hs;cases hh
   obtain⟨i,h1,h2⟩:=uF hs;exact⟨el,i,h1,h2, .inr ⟨m,rfl,dM hu⟩⟩
  ·cases hh
 ·cases hh
theorem s_idxA {t:Nat} {x ix:Operand} (ho:o.op= .indexAddr t x ix) (he:bT ρ e n a.tmps) (R:Rel g ρ h nx w) (q:run (yU t x ix P ex e kv kp kd) h nx lg=some r):OkV P o a w g ρ r kv:=by
 obtain⟨v,i,h1,h2,q1⟩:=sP q
 obtain⟨p,hp,q2⟩:=bN q1
 obtain⟨el,inf,g1,g2,g3⟩:=ixOf_eq hp
 have hsz:=SX.run_sizeOf g1 w
 have hv:=cR he h1
 have hi:=cR he h2
 have fin:∀ (y:Nat × Nat) (b off len cap:Nat),ρ b=some y->P.underlying t=some (.slice el)->a.eval x= .slice (some ⟨y.1,off,none⟩) len cap->run (at' b off p.1 len i kv) h nx lg=some r->OkV P o a w g ρ r kv:=by
  intro y b off len cap hb hu hx q3;obtain⟨kd',j,rfl,hj,q4⟩:=at_inv q3;have hj':=qD hi;refine .pure (x:= .pointer (some ⟨y.1,off+j*p.1,none⟩)) R ?_ (xE (κ:=y.2) hb) q4;have h1:(0:Int)<=(j:Int)/\(j:Int)<(len:Int):=by omega
  simp [execOp,ho,hx,hj',Instr.indexAt,asIntOf,a1W,SX.run_underlying hu,Sem.run,Pure.pure,hsz,g2,mL,hj]
 rcases g3 with⟨g3,hu⟩ | ⟨m,g3,hu⟩
 ·rw [g3]at q2;rcases sQ q2 with⟨b,off,len,cap,rfl,q3⟩ | ⟨b,off,len,es,rfl,q3⟩ | ⟨_,q3⟩ | q3
  ·obtain⟨y,hb,hx⟩:=mK hv;exact fin y b off len _ hb hu hx q3
  ·obtain⟨y,hb,hx⟩:=nW hv;exact fin y b off len _ hb hu hx q3
  ·cases q3
  ·cases q3
 ·rw [g3]at q2;obtain⟨b,off,rfl,q3⟩:=wF (v:=v) (f:=fun b off=>at' b off p.1 m i kv) q2
  obtain⟨y,hb,hx⟩:=lA hv;obtain⟨kd',j,rfl,hj,q4⟩:=at_inv q3;have hj':=qD hi;refine .pure (x:= .pointer (some ⟨y.1,off+j*p.1,none⟩)) R ?_ (xE (κ:=y.2) hb) q4;have h1:(0:Int)<=(j:Int)/\(j:Int)<(m:Int):=by omega
  simp [execOp,ho,hx,hj',Instr.indexAt,Instr.sureAddr,asIntOf,a1W,SX.run_underlying hu,Sem.run,Pure.pure,hsz,g2,mL,hj]
mutual
theorem yV (ρ:Rho):∀ {v:V} {c:Value},gv v=some c->tv ρ v=some c
 | .int _ _,_,q=>by cases q;rfl
 | .bool _,_,q=>by cases q;rfl
 | .str _,_,q=>by cases q;rfl
 | .ptr _ _,_,q=>by cases q
 | .nilp,_,q=>by cases q;rfl
 | .sl _ _ _ _,_,q=>by cases q
 | .so _ _ _ _,_,q=>by cases q
 | .nils,_,q=>by cases q;rfl
 | .map _,_,q=>by cases q
 | .nilm,_,q=>by cases q;rfl
 | .fn _ _ _,_,q=>by cases q
 | .yld _,_,q=>by cases q
 | .nilf,_,q=>by cases q;rfl
 | .iface t v,c,q=>by
  simp only [gv]at q;cases hq:gv v with
  | none=>rw [hq]at q;cases q
  | some x=>rw [hq]at q;cases q;simp only [tv,yV ρ hq]
 | .nili,_,q=>by cases q;rfl
 | .agg cs,c,q=>by
  simp only [gv]at q;cases hc:iC cs with
  | false=>rw [hc]at q;cases q
  | true=>
   rw [hc]at q;simp only at q
   cases hq:gvs cs with
   | none=>rw [hq]at q;cases q
   | some x=>rw [hq]at q;cases q;simp only [tv,hc,aDx ρ hq]
 | .tup cs,c,q=>by
  simp only [gv]at q;cases hq:gvs cs with
  | none=>rw [hq]at q;cases q
  | some x=>rw [hq]at q;cases q;simp only [tv,aDx ρ hq]
theorem aDx (ρ:Rho):∀ {l:List V} {c:List Value},gvs l=some c->tvs ρ l=some c
 | [],_,q=>by cases q;rfl
 | v :: l,c,q=>by
  simp only [gvs]at q;cases hq:gv v with
  | none=>rw [hq]at q;cases q
  | some x=>
   rw [hq]at q;simp only at q
   cases h2:gvs l with
   | none=>rw [h2]at q;cases q
   | some y=>rw [h2]at q;cases q;exact eA.2 ⟨x,y,yV ρ hq,aDx ρ h2,rfl⟩
end
theorem aCw {α:Type}:∀ (m:Sem α) {x:α},aAX P m=some x->m.run P w= .ok x w
 | .pure a,x,q=>by cases q;rfl
 | .program k,x,q=>aCw (k P) q
 | .mark _ k,x,q=>aCw k q
 | .load _ _ _,_,q=>by cases q
 | .store _ _ _ _,_,q=>by cases q
 | .new _ _,_,q=>by cases q
 | .shape _ _,_,q=>by cases q
 | .freeze _ _ _,_,q=>by cases q
 | .frozen _ _,_,q=>by cases q
 | .getObj _ _,_,q=>by cases q
 | .setObj _ _ _,_,q=>by cases q
 | .choose _ _,_,q=>by cases q
 | .sys _ _,_,q=>by cases q
 | .halt _,_,q=>by cases q
theorem aGV {m:Sem Value} {k:V->AL} (q:run (gen P m k) h nx lg=some r):∃ v x,m.run P w= .ok x w/\tv ρ v=some x/\run (k v) h nx lg=some r:=by
 obtain⟨x,h1,q1⟩:=bN q
 obtain⟨v,h2,q2⟩:=bN q1
 exact⟨v,x,aCw m h1,vO ρ x h2,q2⟩
theorem aHn {m:Value->Sem Value} {v:V} {x:Value} {k:V->AL} (hv:tv ρ v=some x) (q:run (gen1 P m v k) h nx lg=some r):∃ u y,(m x).run P w= .ok y w/\tv ρ u=some y/\run (k u) h nx lg=some r:=by
 obtain⟨c,h1,q1⟩:=bN q
 have:=(yV ρ h1).symm.trans hv
 cases this
 exact aGV q1
theorem aHq {m:Value->Value->Sem Value} {v v':V} {x x':Value} {k:V->AL} (hv:tv ρ v=some x) (hv':tv ρ v'=some x') (q:run (gen2 P m v v' k) h nx lg=some r):∃ u y,(m x x').run P w= .ok y w/\tv ρ u=some y/\run (k u) h nx lg=some r:=by
 obtain⟨c,h1,q1⟩:=bN q
 obtain⟨c',h2,q2⟩:=bN q1
 have:=(yV ρ h1).symm.trans hv
 cases this
 have:=(yV ρ h2).symm.trans hv'
 cases this
 exact aGV q2
theorem s_idx {t:Nat} {x ix:Operand} (ho:o.op= .index t x ix) (he:bT ρ e n a.tmps) (R:Rel g ρ h nx w) (q:run (hIdx t x ix P ex e kv kp kd) h nx lg=some r):OkV P o a w g ρ r kv:=by
 obtain⟨v,i,h1,h2,q1⟩:=sP q
 have hv:=cR he h1
 have hi:=cR he h2
 rcases aHp q1 with⟨cs,rfl,q2⟩ | q2
 ·obtain⟨p,hp,q3⟩:=bN q2;obtain⟨es,hes,q4⟩:=bN q3;obtain⟨s,hs,q5⟩:=bN q4;obtain⟨j,hj,q6⟩:=bN q5;obtain⟨hlt,q7⟩:=dG q6;obtain⟨kd',rfl⟩:=xW hj;have hj':=qD hi;obtain⟨l,hl,hx⟩:=aBQ hv;obtain⟨u,z,g5,g6,q8⟩:=aGc (w:=w) hs hl q7;rw [a1C]at hlt;have g5':(part p.2 ⟨l⟩ (j*es)).run P w= .ok z w:=g5;exact .pure R (by simp [execOp,ho,hx,hj',Instr.index,asIntOf,a1W,SX.run_underlying (arOf_eq hp),aAf hes w,hlt,g5',Sem.run,Pure.pure]) g6 q8
 ·obtain⟨u,y,g1,g2,q3⟩:=aHq (w:=w) hv hi q2;exact .pure R (by simp [execOp,ho,a1W,g1,Sem.run,Pure.pure]) g2 q3
theorem s_un {op:UnOp} {t:Nat} {x:Operand} (ho:o.op= .unOp op t x) (he:bT ρ e n a.tmps) (R:Rel g ρ h nx w) (q:run (hUn op t x P ex e kv kp kd) h nx lg=some r):OkV P o a w g ρ r kv:=by
 obtain⟨v,h1,q1⟩:=fT q
 have hv:=cR he h1
 have gen:run (gen1 P (Op.unary op) v kv) h nx lg=some r->OkV P o a w g ρ r kv:=fun q2=>by
  obtain⟨u,y,g1,g2,q3⟩:=aHn (w:=w) hv q2;exact .pure R (by simp [execOp,ho,a1W,g1,Sem.run,Pure.pure]) g2 q3
 cases op with
 | not=>
  obtain⟨b,rfl,q2⟩:=aHF (v:=v) (f:=fun b=>kv (.bool (Bool.not b))) q1
  have hb:=aFI hv;exact .pure (x:= .bool (!b)) R (by simp [execOp,ho,hb,Op.unary,a1W,Sem.run,Pure.pure]) rfl q2
 | neg=>exact gen q1
 | xor=>exact gen q1
 | plus=>exact gen q1
theorem s_conv {s t:Nat} {x:Operand} (ho:o.op= .convert s t x) (he:bT ρ e n a.tmps) (R:Rel g ρ h nx w) (q:run (zH s t x P ex e kv kp kd) h nx lg=some r):OkV P o a w g ρ r kv:=by
 obtain⟨v,h1,q1⟩:=fT q
 obtain⟨u,y,g1,g2,q3⟩:=aHn (w:=w) (cR he h1) q1
 exact .pure R (by simp [execOp,ho,a1W,g1,Sem.run,Pure.pure]) g2 q3
end
end
open RowKit (Below)
noncomputable section
section
variable {P:Program} {o:Oper} {a:Act} {w:World} {g:G} {ρ:Rho} {r:O × S} {kv:KV} {kp:List PE->AL} {kd:Df->AL} {e:Tr V} {n:Nat} {h:Tr Blk} {nx:Nat} {lg:List Fp} {ex:Ex}
theorem aC6 {i:Int} {k:Int->AL} (q:run (inR i k) h nx lg=some r):-9223372036854775808<=i/\i<=9223372036854775807/\run (k i) h nx lg=some r:=by
 cases i with
 | ofNat m=>
  obtain⟨h1,q1⟩:=dG (b:=Nat.blt m OPEN) (p:=k (.ofNat m)) q;rw [a1C]at h1;have:m<9223372036854775808:=h1;exact⟨by show _<=(m:Int);omega,by show(m:Int)<=_;omega,q1⟩
 | negSucc m=>
  obtain⟨h1,q1⟩:=dG (b:=Nat.blt m OPEN) (p:=k (.negSucc m)) q;rw [a1C]at h1;have:m<9223372036854775808:=h1;exact⟨by rw [Int.negSucc_eq];omega,by rw [Int.negSucc_eq];omega,q1⟩
theorem aFE (a b:Nat):Nat.beq a b=decide (a=b):=by
 rw [a0l];simp
theorem aAJ (i j:Int):eqI i j=decide (i=j):=by
 cases i <;> cases j <;> simp only [eqI,aFE] <;> rw [a0l] <;> simp <;> omega
theorem blt_dec (a b:Nat):Nat.blt a b=decide (a<b):=by
 rw [a0l,a1C];simp
theorem tC (i j:Int):ltI i j=decide (i<j):=by
 cases i <;> cases j <;> simp only [ltI,blt_dec] <;> rw [a0l] <;> simp <;> omega
theorem aBC {op:BinOp} {T:Nat} {x y:Operand} {U:Nat} {i j:Int} {v:Value} (ho:o.op= .binOp op T x y U) (hx:a.eval x= .int .i64 i) (hy:a.eval y= .int .i64 j)
 (hh:(binOp op T (.int .i64 i) (.int .i64 j)).run P w= .ok v w):(execOp a.eval o).run P w= .ok (.value v) w:=by
 have h1:(eqGuard op T x y (.int .i64 i) (.int .i64 j)).run P w= .ok () w:=by cases op <;> simp [eqGuard,Sem.run,Pure.pure]
 simp [execOp,ho,hx,hy,a1W,h1,hh,Sem.run,Pure.pure]
theorem s_binI {op:BinOp} {T:Nat} {x y:Operand} {U:Nat} {i j:Int} {d:AL} (ho:o.op= .binOp op T x y U) (hx:a.eval x= .int .i64 i) (hy:a.eval y= .int .i64 j) (R:Rel g ρ h nx w)
 (q:run (binI op i j kv d) h nx lg=some r):OkV P o a w g ρ r kv\/run d h nx lg=some r:=by
 have cmp:∀ (b:Bool),(binOp op T (.int .i64 i) (.int .i64 j)).run P w= .ok (.bool b) w->run (kv (.bool b)) h nx lg=some r->OkV P o a w g ρ r kv\/run d h nx lg=some r:=
  fun b h1 q=> .inl (.pure R (aBC ho hx hy h1) rfl q)
 cases op with
 | add=>obtain⟨g1,g2,q1⟩:=aC6 (k:=fun n=>kv (.int .i64 n)) q;exact .inl (.pure R (aBC ho hx hy (by simp [binOp,Op.intArith,Sem.run,Pure.pure,SX.wrap64_id g1 g2])) rfl q1)
 | sub=>obtain⟨g1,g2,q1⟩:=aC6 (k:=fun n=>kv (.int .i64 n)) q;exact .inl (.pure R (aBC ho hx hy (by simp [binOp,Op.intArith,Sem.run,Pure.pure,SX.wrap64_id g1 g2])) rfl q1)
 | mul=>obtain⟨g1,g2,q1⟩:=aC6 (k:=fun n=>kv (.int .i64 n)) q;exact .inl (.pure R (aBC ho hx hy (by simp [binOp,Op.intArith,Sem.run,Pure.pure,SX.wrap64_id g1 g2])) rfl q1)
 | eql=>exact cmp (eqI i j) (by have:(i==j)=decide (i=j):=by rw [a0l];simp
                                simp [binOp,Op.intCmp,Sem.run,Pure.pure,aAJ,this]) q
 | neq=>exact cmp (Bool.not (eqI i j)) (by have:(i==j)=decide (i=j):=by rw [a0l];simp
                                           simp [binOp,Op.intCmp,Sem.run,Pure.pure,aAJ,bne,this]) q
 | lss=>exact cmp (ltI i j) (by simp [binOp,Op.intCmp,Sem.run,Pure.pure,tC]) q
 | gtr=>exact cmp (ltI j i) (by simp [binOp,Op.intCmp,Sem.run,Pure.pure,tC]) q
 | leq=>exact cmp (Bool.not (ltI j i)) (by have:decide (i<=j)=!decide (j<i):=by rw [a0l];simp
                                           simp only [binOp,ne_eq,not_true_eq_false,if_false,Op.intCmp,Sem.run,Pure.pure,tC,this]) q
 | geq=>exact cmp (Bool.not (ltI i j)) (by have:decide (i ≥ j)=!decide (i<j):=by rw [a0l];simp
                                           simp only [binOp,ne_eq,not_true_eq_false,if_false,Op.intCmp,Sem.run,Pure.pure,tC,this]) q
 | quo=>exact .inr q
 | rem=>exact .inr q
 | and=>exact .inr q
 | or=>exact .inr q
 | xor=>exact .inr q
 | shl=>exact .inr q
 | shr=>exact .inr q
 | andNot=>exact .inr q
theorem s_eqK {op:BinOp} {T:Nat} {x y:Operand} {U:Nat} {b:Bool} (ho:o.op= .binOp op T x y U) (hg:(eqGuard op T x y (a.eval x) (a.eval y)).run P w= .ok () w)
 (h1:op= .eql->(binOp .eql T (a.eval x) (a.eval y)).run P w= .ok (.bool b) w) (h2:op= .neq->(binOp .neq T (a.eval x) (a.eval y)).run P w= .ok (.bool (!b)) w)
 (R:Rel g ρ h nx w) (q:run (eqK op b kv) h nx lg=some r):OkV P o a w g ρ r kv:=by
 cases op <;> first
  | (cases q;done)
  | skip
 ·exact .pure (x:= .bool b) R (by simp [execOp,ho,a1W,hg,h1 rfl,Sem.run,Pure.pure]) rfl q
 ·exact .pure (x:= .bool (!b)) R (by simp [execOp,ho,a1W,hg,h2 rfl,Sem.run,Pure.pure]) rfl q
theorem eqN1_inv {u v:V} {x y:Value} {b:Bool} (hu:tv ρ u=some x) (hv:tv ρ v=some y) (hq:eqN1 u v=some b):
 ∃ p q:Option Addr,x= .pointer p/\y= .pointer q/\((p=none/\q.isSome=true/\b=false)\/(p.isSome=true/\q=none/\b=false)\/∃ c d:Addr,p=some c/\q=some d/\c.block=d.block/\b=(c==d)):=by
 cases u <;> cases v <;> first
  | (cases hq;done)
  | skip
 ·obtain⟨z,_,rfl⟩:=lA hu;obtain⟨z',_,rfl⟩:=lA hv;rename_i b1 o1 b2 o2 z1 z2;simp only [eqN1]at hq;split at hq
  ·rename_i hb;have:=a1D hb;subst this;have:z=z':=by rw [z1]at z2;exact a1T z2
   subst this;refine⟨_,_,rfl,rfl, .inr (.inr ⟨_,_,rfl,rfl,rfl,?_⟩)⟩;cases hq;rw [aFE,a0l];simp
  ·cases hq
 ·obtain⟨z,_,rfl⟩:=lA hu;cases hv;exact⟨_,_,rfl,rfl, .inr (.inl ⟨rfl,rfl,by cases hq;rfl⟩)⟩
 ·obtain⟨z,_,rfl⟩:=lA hv;cases hu;exact⟨_,_,rfl,rfl, .inl ⟨rfl,rfl,by cases hq;rfl⟩⟩
theorem s_eqN {op:BinOp} {T:Nat} {x y:Operand} {U:Nat} {u v:V} {b:Bool} (ho:o.op= .binOp op T x y U) (hu:tv ρ u=some (a.eval x)) (hv:tv ρ v=some (a.eval y)) (hq:eqN P T u v=some b)
 (R:Rel g ρ h nx w) (q:run (eqK op b kv) h nx lg=some r):OkV P o a w g ρ r kv:=by
 obtain⟨dd,ED⟩:∃ d,∀ X Y,Op.equal T X Y=Op.equalIn (d+1) T X Y:=⟨9999,fun _ _=>rfl⟩
 have fin:∀ {X Y:Value},a.eval x=X->a.eval y=Y->(eqGuard op T x y X Y).run P w= .ok () w->(∀ z,(Op.equal T X Y).run P z= .ok b z)->(binOp .eql T X Y=do pure (.bool (<- Op.equal T X Y)))->(binOp .neq T X Y=do pure (.bool (!(<- Op.equal T X Y))))->OkV P o a w g ρ r kv:=
  fun {X Y} hX hY hg he h1 h2=>by
   refine s_eqK ho (by rw [hX,hY];exact hg) (fun _=>?_) (fun _=>?_) R q
   ·rw [hX,hY,h1];simp [a1W,he,Sem.run,Pure.pure]
   ·rw [hX,hY,h2];simp [a1W,he,Sem.run,Pure.pure]
 unfold eqN at hq
 split at hq
 ·rename_i el hU;split at hq
  ·rename_i m hs;obtain⟨p,p',hX,hY,hc⟩:=eqN1_inv hu hv hq;obtain⟨i,hi,hi2⟩:=uF hs;have hsz:i.size≠0:=by omega
   refine fin hX hY (by cases op <;> simp [eqGuard,Sem.run,Pure.pure]) (fun z=>?_) rfl rfl
   rcases hc with⟨rfl,h1,rfl⟩ | ⟨h1,rfl,rfl⟩ | ⟨c,d,rfl,rfl,h1,rfl⟩
   ·cases p' with
    | none=>cases h1
    | some c=>simp [ED,Op.equalIn,a1W,SX.run_underlying (dM hU),Sem.run,Pure.pure]
   ·cases p with
    | none=>cases h1
    | some c=>simp [ED,Op.equalIn,a1W,SX.run_underlying (dM hU),Sem.run,Pure.pure]
   ·simp [ED,Op.equalIn,a1W,SX.run_underlying (dM hU),SX.run_sizeOf hi,hsz,sameAddr,h1,Sem.run,Pure.pure]
  ·cases hq
 ·rename_i el hU;have key:∃ p q l1 c1 l2 c2,a.eval x= .slice p l1 c1/\a.eval y= .slice q l2 c2/\b=false/\(p=none/\q.isSome=true\/p.isSome=true/\q=none):=by
   generalize a.eval x=X at hu
   generalize a.eval y=Y at hv
   cases u <;> cases v <;> first
    | (cases hq;done)
    | (obtain⟨z,_,rfl⟩:=mK hu;cases hv;exact⟨_,_,_,_,_,_,rfl,rfl,by cases hq;rfl, .inr ⟨rfl,rfl⟩⟩)
    | (obtain⟨z,_,rfl⟩:=nW hu;cases hv;exact⟨_,_,_,_,_,_,rfl,rfl,by cases hq;rfl, .inr ⟨rfl,rfl⟩⟩)
    | (obtain⟨z,_,rfl⟩:=mK hv;cases hu;exact⟨_,_,_,_,_,_,rfl,rfl,by cases hq;rfl, .inl ⟨rfl,rfl⟩⟩)
    | (obtain⟨z,_,rfl⟩:=nW hv;cases hu;exact⟨_,_,_,_,_,_,rfl,rfl,by cases hq;rfl, .inl ⟨rfl,rfl⟩⟩)
  obtain⟨p,p',l1,c1,l2,c2,hX,hY,rfl,hc⟩:=key;refine fin hX hY (by cases op <;> simp [eqGuard,Sem.run,Pure.pure]) (fun z=>?_) rfl rfl
  rcases hc with⟨rfl,h1⟩ | ⟨h1,rfl⟩
  ·cases p' with
   | none=>cases h1
   | some c=>simp [ED,Op.equalIn,a1W,SX.run_underlying (dM hU),Sem.run,Pure.pure]
  ·cases p with
   | none=>cases h1
   | some c=>simp [ED,Op.equalIn,a1W,SX.run_underlying (dM hU),Sem.run,Pure.pure]
 ·rename_i k1 el hU;have key:∃ p q,a.eval x= .map p/\a.eval y= .map q/\b=false/\(p=none/\q.isSome=true\/p.isSome=true/\q=none):=by
   generalize a.eval x=X at hu
   generalize a.eval y=Y at hv
   cases u <;> cases v <;> first
    | (cases hq;done)
    | (simp only [tv,a1R]at hu;obtain⟨z,_,rfl⟩:=hu;cases hv;exact⟨_,_,rfl,rfl,by cases hq;rfl, .inr ⟨rfl,rfl⟩⟩)
    | (simp only [tv,a1R]at hv;obtain⟨z,_,rfl⟩:=hv;cases hu;exact⟨_,_,rfl,rfl,by cases hq;rfl, .inl ⟨rfl,rfl⟩⟩)
  obtain⟨p,p',hX,hY,rfl,hc⟩:=key;refine fin hX hY (by cases op <;> simp [eqGuard,Sem.run,Pure.pure]) (fun z=>?_) rfl rfl
  rcases hc with⟨rfl,h1⟩ | ⟨h1,rfl⟩
  ·cases p' with
   | none=>cases h1
   | some c=>simp [ED,Op.equalIn,a1W,SX.run_underlying (dM hU),Sem.run,Pure.pure]
  ·cases p with
   | none=>cases h1
   | some c=>simp [ED,Op.equalIn,a1W,SX.run_underlying (dM hU),Sem.run,Pure.pure]
 ·rename_i p1 p2 p3 hU;have key:(∃ f c d,a.eval x= .func f c d/\a.eval y= .nilFunc/\b=false)\/(∃ f c d,a.eval y= .func f c d/\a.eval x= .nilFunc/\b=false):=by
   generalize a.eval x=X at hu
   generalize a.eval y=Y at hv
   have fn:∀ {f a c Z},tv ρ (.fn f a c)=some Z->∃ p q,Z= .func (.func f) p q:=fun {f a c Z} hz=>by
    simp only [tv]at hz;cases ha:tvs ρ a with
    | none=>rw [ha]at hz;cases hz
    | some l=>rw [ha]at hz;simp only at hz;cases hc:tvs ρ c with
     | none=>rw [hc]at hz;cases hz
     | some m=>rw [hc]at hz;cases hz;exact⟨_,_,rfl⟩
   cases u <;> cases v <;> first
    | (cases hq;done)
    | (obtain⟨p,q,rfl⟩:=fn hu;cases hv;exact .inl ⟨_,_,_,rfl,rfl,by cases hq;rfl⟩)
    | (obtain⟨p,q,rfl⟩:=fn hv;cases hu;exact .inr ⟨_,_,_,rfl,rfl,by cases hq;rfl⟩)
  rcases key with⟨f,c,d,hX,hY,rfl⟩ | ⟨f,c,d,hY,hX,rfl⟩
  ·exact fin hX hY (by cases op <;> simp [eqGuard,Sem.run,Pure.pure]) (fun z=>by simp [ED,Op.equalIn,a1W,SX.run_underlying (dM hU),Sem.run,Pure.pure]) rfl rfl
  ·exact fin hX hY (by cases op <;> simp [eqGuard,Sem.run,Pure.pure]) (fun z=>by simp [ED,Op.equalIn,a1W,SX.run_underlying (dM hU),Sem.run,Pure.pure]) rfl rfl
 ·rename_i ms hU;have key:(∃ t z,a.eval x= .iface t z/\a.eval y= .nilIface/\b=false)\/(∃ t z,a.eval y= .iface t z/\a.eval x= .nilIface/\b=false):=by
   generalize a.eval x=X at hu
   generalize a.eval y=Y at hv
   have fn:∀ {t v Z},tv ρ (.iface t v)=some Z->∃ z,Z= .iface t z:=fun {t v Z} hz=>by
    simp only [tv]at hz;cases ha:tv ρ v with
    | none=>rw [ha]at hz;cases hz
    | some l=>rw [ha]at hz;cases hz;exact⟨_,rfl⟩
   cases u <;> cases v <;> first
    | (cases hq;done)
    | (obtain⟨p,rfl⟩:=fn hu;cases hv;exact .inl ⟨_,_,rfl,rfl,by cases hq;rfl⟩)
    | (obtain⟨p,rfl⟩:=fn hv;cases hu;exact .inr ⟨_,_,rfl,rfl,by cases hq;rfl⟩)
  rcases key with⟨f,c,hX,hY,rfl⟩ | ⟨f,c,hY,hX,rfl⟩
  ·exact fin hX hY (by cases op <;> simp [eqGuard,Sem.run,Pure.pure]) (fun z=>by simp [ED,Op.equalIn,a1W,SX.run_underlying (dM hU),Sem.run,Pure.pure]) rfl rfl
  ·exact fin hX hY (by cases op <;> simp [eqGuard,Sem.run,Pure.pure]) (fun z=>by simp [ED,Op.equalIn,a1W,SX.run_underlying (dM hU),Sem.run,Pure.pure]) rfl rfl
 ·cases hq
theorem s_binG {op:BinOp} {T:Nat} {x y:Operand} {U:Nat} {u v:V} (ho:o.op= .binOp op T x y U) (hu:tv ρ u=some (a.eval x)) (hv:tv ρ v=some (a.eval y)) (R:Rel g ρ h nx w)
 (q:run (binG P op T x y u v kv) h nx lg=some r):OkV P o a w g ρ r kv:=by
 rcases kL q with⟨_,q1⟩ | ⟨b,hb,q1⟩
 ·obtain⟨t,z,g1,g2,q2⟩:=aHq (w:=w) hu hv q1;refine .pure R ?_ g2 q2;simp only [execOp,ho];rw [a1W,g1];rfl
 ·exact s_eqN ho hu hv hb R q1
theorem s_bin {op:BinOp} {T:Nat} {x y:Operand} {U:Nat} (ho:o.op= .binOp op T x y U) (he:bT ρ e n a.tmps) (R:Rel g ρ h nx w) (q:run (hBin op T x y P ex e kv kp kd) h nx lg=some r):OkV P o a w g ρ r kv:=by
 obtain⟨u,v,h1,h2,q1⟩:=sP q
 have hu:=cR he h1
 have hv:=cR he h2
 have G:run (binG P op T x y u v kv) h nx lg=some r->OkV P o a w g ρ r kv:=fun q=>s_binG ho hu hv R q
 rcases aGx q1 with⟨ku,i,rfl,q2⟩ | q2
 ·rcases aGx q2 with⟨kv',j,rfl,q3⟩ | q3
  ·rcases gU q3 with⟨e1,q4⟩ | ⟨_,q4⟩
   ·rcases gU q4 with⟨e2,q5⟩ | ⟨_,q5⟩
    ·have k1:ku= .i64:=by cases ku <;> first | rfl | cases e1
     have k2:kv'= .i64:=by cases kv' <;> first | rfl | cases e2
     subst k1 k2;rcases s_binI ho (qD hu) (qD hv) R q5 with h | h
     ·exact h
     ·exact G h
    ·exact G q5
   ·exact G q4
  ·exact G q3
 ·exact G q2
end
end
open RowKit (Below)
noncomputable section
section
variable {P:Program} {o:Oper} {a:Act} {w:World} {g:G} {ρ:Rho} {r:O × S} {kv:KV} {kp:List PE->AL} {kd:Df->AL} {e:Tr V} {n:Nat} {h:Tr Blk} {nx:Nat} {lg:List Fp} {ex:Ex}
theorem s_ta {x:Operand} {xt T:Nat} {ok:Bool} (ho:o.op= .typeAssert x xt T ok) (he:bT ρ e n a.tmps) (R:Rel g ρ h nx w) (q:run (hTa x xt T ok P ex e kv kp kd) h nx lg=some r):OkV P o a w g ρ r kv:=by
 obtain⟨v,h1,q1⟩:=fT q
 obtain⟨hn,q2⟩:=dG q1
 obtain⟨d,hd,hni⟩:=aFZ hn
 have hU:=SX.run_underlying hd w
 have hv:=cR he h1
 have miss:∀ {X:Value},a.eval x=X->(X= .nilIface\/∃ t z,X= .iface t z/\t≠T)->run (cU ok (oo (zer P T) fun z=>kv (.tup [z, .bool false]))) h nx lg=some r->OkV P o a w g ρ r kv:=by
  intro X hX hc q3;obtain⟨hok,q4⟩:=dG q3;obtain⟨z,hz,q5⟩:=bN q4;obtain⟨zv,h2,h3⟩:=kU (ρ:=ρ) hz w;subst hok;refine .pure (x:= .tuple #[zv, .bool false]) R ?_ (by simp only [tv,tvs,h3]) q5
  rcases hc with rfl | ⟨t,z',rfl,hne⟩
  ·cases d <;> first
    | exact absurd rfl (hni _)
    | simp [execOp,ho,hX,Instr.typeAssert,a1W,hU,h2,Sem.run,Pure.pure]
  ·cases d <;> first
    | exact absurd rfl (hni _)
    | simp [execOp,ho,hX,Instr.typeAssert,a1W,hU,h2,hne,Sem.run,Pure.pure]
 rcases aDy q2 with⟨t,u,rfl,q3⟩ | ⟨rfl,q3⟩
 ·simp only [tv]at hv;cases hu:tv ρ u with
  | none=>rw [hu]at hv;cases hv
  | some z=>
   rw [hu]at hv;have hX:a.eval x= .iface t z:=(a1T hv).symm;rcases gU q3 with⟨ht,q4⟩ | ⟨ht,q4⟩
   ·have:=a1D ht;subst this;cases ok with
    | true=>
     refine .pure (x:= .tuple #[z, .bool true]) R ?_ (by simp only [okT,tv,tvs,hu]) q4
     cases d <;> first
      | exact absurd rfl (hni _)
      | simp [execOp,ho,hX,Instr.typeAssert,a1W,hU,Sem.run,Pure.pure]
    | false=>
     refine .pure (x:=z) R ?_ (by simp only [okT,hu]) q4
     cases d <;> first
      | exact absurd rfl (hni _)
      | simp [execOp,ho,hX,Instr.typeAssert,a1W,hU,Sem.run,Pure.pure]
   ·exact miss hX (.inr ⟨t,z,rfl,fun e=>by subst e;simp at ht⟩) q4
 ·exact miss (a1T hv).symm (.inl rfl) q3
theorem aFR {off:Nat}:∀ (l:List Value) (k:Nat) (c:Array Value),off+k+l.length<=c.size->(l.zipIdx k).foldl (fun cs (x:Value × Nat)=>cs.setIfInBounds (off+x.2) x.1) c=⟨c.toList.take (off+k)++l++c.toList.drop (off+k+l.length)⟩
 | [],k,c,_=>by apply Array.ext';simp
 | v :: l,k,c,hk=>by
  rw [List.zipIdx_cons,List.foldl_cons,aFR l (k+1) _ (by simp at hk ⊢;omega)];apply Array.ext'
  have h1:(c.setIfInBounds (off+k) v).toList=c.toList.set (off+k) v:=by simp
  simp only [h1];have:=aD6 (c:=c.toList) (l:=l) (off:=off+k) (v:=v) (by simpa using hk)
  rw [show off+(k+1)=off+k+1 from by omega];exact this
theorem aKc {pc:Nat->Option (Nat × Nat)} {i:Nat} {x:Operand} {ps:List (Nat × Operand)} {vs c c':List V} (hf:uS pc ((i,x) :: ps) vs c=some c'):
 ∃ v us q u c1,vs=v :: us/\pc i=some q/\vc v=some u/\u.length=q.2/\pl u q.1 c=some c1/\uS pc ps us c1=some c':=by
 cases vs with
 | nil=>cases hf
 | cons v us=>
  have hf':(Option.rec none (fun q=>Option.rec none (fun u=>Bool.rec none (Option.rec none (fun c'=>uS pc ps us c') (pl u q.1 c)) (Nat.beq (ln u 0) q.2)) (vc v)) (pc i):Option (List V))=some c':=hf
  cases h1:pc i with
  | none=>rw [h1]at hf';cases hf'
  | some q=>
   rw [h1]at hf';cases h2:vc v with
   | none=>simp only [h2]at hf';cases hf'
   | some u=>
    simp only [h2]at hf';cases h3:Nat.beq (ln u 0) q.2 with
    | false=>simp only [h3]at hf';cases hf'
    | true=>
     simp only [h3]at hf';cases h4:pl u q.1 c with
     | none=>simp only [h4]at hf';cases hf'
     | some c1=>
      simp only [h4]at hf';have h5:=a1D h3;rw [ln0]at h5;exact⟨v,us,q,u,c1,rfl,rfl,h2,h5,h4,hf'⟩
theorem sO {pc place:Nat->Option (Nat × Nat)} (hp:∀ i q,pc i=some q->place i=some q):∀ {ps:List (Nat × Operand)} {vs c c':List V} {l:List Value},uS pc ps vs c=some c'->tvs ρ vs=some ((prt ps).map a.eval)->cells ρ c l ->
 ∃ l',Instr.fill place ⟨l⟩ (ps.map fun p=>(p.1,a.eval p.2))=some ⟨l'⟩/\cells ρ c' l'
 | [],vs,c,c',l,hf,_,hc=>by cases hf;exact⟨l,rfl,hc⟩
 | (i,x) :: ps,vs,c,c',l,hf,hv,hc=>by
  obtain⟨v,us,q,u,c1,rfl,h1,h2,h3,h4,h5⟩:=aKc hf;obtain⟨y,ys,g1,g2,g3⟩:=eA.1 hv;simp only [prt,a1a,List.cons.injEq]at g3;obtain⟨rfl,rfl⟩:=g3;obtain⟨h6,rfl⟩:=(tO u q.1 c c1).1 h4;have hcc:=vR h2 g1;have hl1:=hcc.len;have hl2:=hc.len;have hnew:cells ρ (c.take q.1++u++c.drop (q.1+u.length)) (l.take q.1++(a.eval x).cells.toList++l.drop (q.1+(a.eval x).cells.toList.length)):=by
   rw [hl1];exact((hc.take _).app hcc).app (hc.drop _)
  obtain⟨l',h7,h8⟩:=sO hp h5 g2 hnew;refine⟨l',?_,h8⟩;have hsz:(a.eval x).cells.size=q.2:=by rw [<- a0h];omega
  simp only [a1a,Instr.fill,hp i q h1];rw [a2c (by simp [hsz];omega),<- a0a,Array.toList_zipIdx,aFR _ 0 ⟨l⟩ (by simp [hsz];omega)];exact h7
theorem plcOf_eq {t:Nat} {pc:Nat->Option (Nat × Nat)} (hp:plcOf P t=some pc):(∃ fs,P.underlying t=some (.struct fs)/\szs P fs.toList=true/\pc=plc P fs.toList)\/(∃ m el es,P.underlying t=some (.array m el)/\szT P el=some es/\pc=fun i=>some (i*es,es)):=by
 unfold plcOf at hp
 split at hp
 ·rename_i fs hu;split at hp
  ·rename_i hs;cases hp;exact .inl ⟨fs,dM hu,hs,rfl⟩
  ·cases hp
 ·rename_i m el hu;split at hp
  ·rename_i es hs;cases hp;exact .inr ⟨m,el,es,dM hu,hs,rfl⟩
  ·cases hp
 ·cases hp
theorem aGA:∀ {fs:List Field},szs P fs=true->∃ l:List (Nat × Nat),(fs.mapM (m:=Sem) fun f=>do Pure.pure (f.offset,<- sizeOf f.type)).run P w= .ok l w/\∀ i,l[i]? =plc P fs i
 | [],_=>⟨[],by simp [Sem.run,Pure.pure],fun i=>by simp [plc,lV]⟩
 | f :: fs,hs=>by
  simp only [szs]at hs;cases h1:szT P f.type with
  | none=>rw [h1]at hs;cases hs
  | some m=>
   rw [h1]at hs;obtain⟨l,h2,h3⟩:=aGA (fs:=fs) hs;refine⟨(f.offset,m) :: l,?_,fun i=>?_⟩
   ·simp only [List.mapM_cons,a1W,aAf h1 w,a1V];simp only [Pure.pure]at h2;simp [a1W,Sem.run,Pure.pure,h2]
   ·cases i with
    | zero=>simp [plc,lV,h1]
    | succ i=>rw [a0F,h3 i];simp [plc,lV]
theorem s_build {t:Nat} {ps:Array (Nat × Operand)} (ho:o.op= .build t ps) (he:bT ρ e n a.tmps) (R:Rel g ρ h nx w) (q:run (zN t ps P ex e kv kp kd) h nx lg=some r):OkV P o a w g ρ r kv:=by
 obtain⟨vs,h1,q1⟩:=kA q
 obtain⟨z,hz,q2⟩:=bN q1
 obtain⟨pc,hp,q3⟩:=bN q2
 obtain⟨zc,hzc,q4⟩:=bN q3
 obtain⟨c',hf,q5⟩:=bN q4
 obtain⟨zv,g1,g2⟩:=kU (ρ:=ρ) hz w
 have hvs:=jJ he h1
 have:z= .agg zc:=by
  cases z <;> first
   | (cases hzc;done)
   | (cases hzc;rfl)
 subst this
 obtain⟨l,hl,rfl⟩:=aBQ g2
 have hmap:(ps.map fun (y:Nat × Operand)=>(y.1,a.eval y.2)).toList=ps.toList.map fun p=>(p.1,a.eval p.2):=by simp
 rcases plcOf_eq hp with⟨fs,hu,hs,rfl⟩ | ⟨m,el,es,hu,hs,rfl⟩
 ·obtain⟨pls,k1,k2⟩:=aGA (w:=w) hs;obtain⟨l',h2,h3⟩:=sO (place:=(pls.toArray[·]?)) (fun i q hq=>by simp [k2,hq]) hf hvs hl
  refine .pure R ?_ (aAZ h3) q5;have hm:(fs.mapM (m:=Sem) fun f=>do Pure.pure (f.offset,<- sizeOf f.type)).run P w= .ok pls.toArray w:=by
   rw [<- a0i (xs:=fs),List.mapM_toArray];rw [map_eq_pure_bind,a1W,k1];simp [Sem.run,Pure.pure]
  simp only [execOp,ho,a1W,Instr.build,g1,a1V,SX.run_underlying hu,hm,Value.cells];rw [hmap,h2];simp [Sem.run,Pure.pure]
 ·obtain⟨l',h2,h3⟩:=sO (place:=fun i=>some (i*es,es)) (fun i q hq=>hq) hf hvs hl
  refine .pure R ?_ (aAZ h3) q5;simp only [execOp,ho,a1W,Instr.build,g1,a1V,SX.run_underlying hu,aAf hs w,Value.cells];rw [hmap,h2];simp [Sem.run,Pure.pure]
end
end
open RowKit (Below)
noncomputable section
section
variable {P:Program} {o:Oper} {a:Act} {w:World} {g:G} {ρ:Rho} {r:O × S} {kv:KV} {kp:List PE->AL} {kd:Df->AL} {e:Tr V} {n:Nat} {h:Tr Blk} {nx:Nat} {lg:List Fp} {ex:Ex}
structure RowT (P:Program) (ρ:Rho) (t el es:Nat) (z:List V) (i:TypeInfo) (zv:Value):Prop where
 und:P.underlying t=some (.slice el)
 info:P.info? el=some i
 zero:i.zero=some zv
 size:i.size=es
 small:es<=1048576
 bytes:i.bytes<=1048576
 zc:cells ρ z zv.cells.toList
 zl:z.length=es
theorem and_true {a b:Bool} (h:Bool.and a b=true):a=true/\b=true:=by cases a <;> cases b <;> first | exact⟨rfl,rfl⟩ | cases h
theorem aAF {t:Nat} {q:Nat × Nat × List V} (ρ:Rho) (hq:tZ P t=some q):∃ i zv,RowT P ρ t q.1 q.2.1 q.2.2 i zv:=by
 unfold tZ at hq
 split at hq
 ·rename_i el hel;split at hq
  ·rename_i i hi;split at hq
   ·rename_i z hz;split at hq
    ·rename_i c hc;split at hq
     ·rename_i hb;cases hq;obtain⟨b1,b2⟩:=and_true hb;obtain⟨b2,b3⟩:=and_true b2;have b1:=a1D b1;rw [ln0]at b1;obtain⟨i',zv,h1,h2,h3⟩:=zer_tv ρ hz;rw [sC hi]at h1;cases h1
      exact⟨i,zv,aHo hel,sC hi,h2,rfl,a1F b2,a1F b3,vR hc h3,b1⟩
     ·cases hq
    ·cases hq
   ·cases hq
  ·cases hq
 ·cases hq
theorem aBL {z:List V} {zv:Array Value} (hz:cells ρ z zv.toList):∀ k,cells ρ (rep z k) (madeCells zv (k*z.length)).toList
 | 0=>by rw [Nat.zero_mul];have:(madeCells zv 0).toList=[]:=by simp [madeCells]
         rw [this];exact cells.nil
 | k+1=>by
  have hl:=hz.len;have e:(madeCells zv ((k+1)*z.length)).toList=(madeCells zv (k*z.length)).toList++zv.toList:=by
   rw [<- hl];apply List.ext_getElem
   ·simp [madeCells,a1A]
   ·intro i h1 h2;by_cases hi:i<k*zv.toList.length
    ·rw [List.getElem_append_left (by simpa [madeCells] using hi)];simp [madeCells]
    ·have hlt:i<(k+1)*zv.toList.length:=by simpa [madeCells] using h1
     rw [a1A,Nat.one_mul]at hlt;rw [List.getElem_append_right (by simp [madeCells]at hi ⊢;omega)];have hmod:i % zv.toList.length=i - k*zv.toList.length:=by
      have h3:i=(i - k*zv.toList.length)+zv.toList.length*k:=by rw [Nat.mul_comm zv.toList.length k];omega
      conv=>lhs;rw [h3]
      rw [Nat.add_mul_mod_self_left,Nat.mod_eq_of_lt (by omega)]
     have hin:i - k*zv.toList.length<zv.toList.length:=by omega
     have hmod':i % zv.size=i - k*zv.size:=by simpa using hmod
     have hin':i - k*zv.size<zv.size:=by simpa using hin
     simp [madeCells,hmod',getElem!_pos zv (i - k*zv.size) hin']
  have e2:rep z (k+1)=rep z k++z:=by rw [aDZ,aDZ,List.replicate_succ',List.flatten_concat]
  rw [e,e2];exact(aBL hz k).app hz
theorem qM {b off len cap x κ:Nat} (h:ρ b=some (x,κ)):tv ρ (.sl b off len cap)=some (.slice (some ⟨x,off,none⟩) len cap):=by simp [tv,h]
theorem s_buildS {t len:Nat} {ps:Array (Nat × Operand)} (ho:o.op= .buildSlice t len ps) (he:bT ρ e n a.tmps) (hi:r.2.nx<=g.hi) (R:Rel g ρ h nx w) (q:run (vU t len ps P ex e kv kp kd) h nx lg=some r):OkV P o a w g ρ r kv:=by
 obtain⟨vs,h1,q1⟩:=kA q
 obtain⟨p,hp,q2⟩:=bN q1
 obtain⟨hb,q3⟩:=dG q2
 obtain⟨c,hf,q4⟩:=bN q3
 obtain⟨i,zv,RT⟩:=aAF ρ hp
 have hb:len*p.2.1<=1048576:=a1F hb
 have hz:=aBL (ρ:=ρ) RT.zc len
 rw [RT.zl]at hz
 obtain⟨l',g1,g2⟩:=sO (place:=fun i=>some (i*p.2.1,p.2.1)) (fun i q hq=>hq) hf (jJ he h1) hz
 obtain⟨b,ρ',h',nx',lg',g3,g4,g5,⟨κ,g6⟩,q5⟩:=aA4 (P:=P) R g2 hi q4
 refine⟨.sl b 0 len len, .slice (some ⟨w.heap.size,0,none⟩) len len,ρ',h',nx',lg',_, .inl ?_,g4,g5,qM g6,q5⟩
 have hmap:(ps.map fun (y:Nat × Operand)=>(y.1,a.eval y.2)).toList=ps.toList.map fun p=>(p.1,a.eval p.2):=by simp
 have hr:(Instr.buildSlice t len (ps.map fun (y:Nat × Operand)=>(y.1,a.eval y.2))).run P w= .ok (.slice (some ⟨w.heap.size,0,none⟩) len len) (w.alloc (.cells ⟨l'⟩ p.1)):=by
  by_cases h0:len*i.size=0
  ·have e0:(⟨(madeCells zv.cells (len*p.2.1)).toList⟩:Array Value)=#[]:=by rw [<- RT.size,h0];simp [madeCells]
   rw [e0]at g1;rw [<- RT.size]at g1;have h7:¬ len*i.size > 2 ^ 24:=by rw [RT.size];omega
   simp only [Instr.buildSlice,a1W,SX.run_underlying RT.und,SX.run_sizeOf RT.info,a1V,a2c h7,h0,if_true];have h8:Array.range 0=#[]:=rfl;rw [hmap];simp [a1W,Sem.run,Pure.pure,g1,newRow,newObj,h8]
  ·rw [run_buildSlice (P:=P) w t p.1 len _ ⟨l'⟩ i zv RT.und RT.info RT.zero (by rw [RT.size];omega) h0 (by rw [hmap,RT.size];exact g1)]
 simp only [execOp,ho,a1W]
 rw [hr];simp [Sem.run,Pure.pure]
theorem s_mks {t:Nat} {x y:Operand} (ho:o.op= .makeSlice t x y) (he:bT ρ e n a.tmps) (hi:r.2.nx<=g.hi) (R:Rel g ρ h nx w) (q:run (hMks t x y P ex e kv kp kd) h nx lg=some r):OkV P o a w g ρ r kv:=by
 obtain⟨u,v,h1,h2,q1⟩:=sP q
 obtain⟨p,hp,q2⟩:=bN q1
 obtain⟨l,hl,q3⟩:=bN q2
 obtain⟨c,hc,q4⟩:=bN q3
 obtain⟨hb,q5⟩:=dG q4
 obtain⟨i,zv,RT⟩:=aAF ρ hp
 obtain⟨b1,b2⟩:=and_true hb
 have b1:l<=c:=a1F b1
 have b2:c<=1048576:=a1F b2
 obtain⟨k1,rfl⟩:=xW hl
 obtain⟨k2,rfl⟩:=xW hc
 have hx:=qD (cR he h1)
 have hy:=qD (cR he h2)
 have hz:=aBL (ρ:=ρ) RT.zc c
 rw [RT.zl]at hz
 obtain⟨b,ρ',h',nx',lg',g3,g4,g5,⟨κ,g6⟩,q6⟩:=aA4 (P:=P) R hz hi q5
 have hby:(i.bytes:Int)*(c:Int)<=281474976710656:=by
  have h3:i.bytes*c<=1048576*1048576:=Nat.mul_le_mul RT.bytes b2;have h5:((i.bytes*c:Nat):Int)<=281474976710656:=by omega
  rwa [Int.natCast_mul]at h5
 have hr:=run_make (P:=P) w t p.1 i zv RT.und RT.info RT.zero k1 k2 (l:Int) (c:Int) (by omega) (by omega) hby (by omega)
 simp only [a0r,RT.size]at hr
 refine⟨.sl b 0 l c, .slice (some ⟨w.heap.size,0,none⟩) l c,ρ',h',nx',lg',_, .inl ?_,g4,g5,qM g6,q6⟩
 have hx':a.eval x= .int k1 (l:Int):=hx
 have hy':a.eval y= .int k2 (c:Int):=hy
 simp [execOp,ho,hx',hy',a1W,hr,Sem.run,Pure.pure]
theorem yI {c:Call} {b:Builtin} {x:Value} {w':World} (ho:o.op= .call c) (hc:c.callee= .builtin b) (h1:∀ (T:Array Bool),(builtin b c.argTypes o.type T (c.args.map a.eval)).run P w= .ok (.value x) w'):
 (execOp a.eval o).run P w= .ok (.value x) w':=by
 unfold execOp resolve
 rw [ho]
 simp only [hc]
 show((Sem.pure _:Sem Deferred).bind _).run P w=_
 exact h1 _
theorem argsL {c:Call} {vs:List Value} (h:c.args.toList.map a.eval=vs):c.args.map a.eval=vs.toArray:=by
 rw [<- h];apply Array.ext';rw [Array.toList_map]
theorem aKe {v:V} {x:Value} {m:Nat} (hv:tv ρ v=some x) (h:pN v=some m):∃ k,x= .int k (m:Int):=by
 obtain⟨k,rfl⟩:=xW h
 exact⟨k,qD hv⟩
theorem s_len {c:Call} (ho:o.op= .call c) (hc:c.callee= .builtin .len) (he:bT ρ e n a.tmps) (R:Rel g ρ h nx w) (q:run (hLen c P ex e kv kp kd) h nx lg=some r):OkV P o a w g ρ r kv:=by
 obtain⟨vs,h1,q1⟩:=kA q
 have hvs:=jJ he h1
 split at q1
 ·rename_i T ts v us hT;obtain⟨x,xs,g1,g2,g3⟩:=eA.1 hvs;have hargs:=argsL g3;have hT':c.argTypes[0]? =some T:=by rw [<- a0g,hT];rfl
  have fin:∀ {k:Int} {lg'},(Builtin.len_ c.argTypes o.type (x :: xs).toArray).run P w= .ok (.int .i64 k) w->run (kv (iR k)) h nx lg'=some r->OkV P o a w g ρ r kv:=fun hr q2=>
   .pure R (yI ho hc fun _=>by rw [hargs];simp [builtin,a1W,hr,Sem.run,Pure.pure]) rfl q2
  split at q1
  ·rename_i el hu;have hU:=SX.run_underlying (dM hu) w;rcases sQ q1 with⟨b,off,len,cap,rfl,q2⟩ | ⟨b,off,len,es,rfl,q2⟩ | ⟨rfl,q2⟩ | q2
   ·obtain⟨y,_,rfl⟩:=mK g1;exact fin (by simp [Builtin.len_,hT',a1W,hU,goInt,Sem.run,Pure.pure]) q2
   ·obtain⟨y,_,rfl⟩:=nW g1;exact fin (by simp [Builtin.len_,hT',a1W,hU,goInt,Sem.run,Pure.pure]) q2
   ·cases g1;exact fin (by simp [Builtin.len_,hT',a1W,hU,goInt,Sem.run,Pure.pure]) q2
   ·cases q2
  ·rename_i hu;have hU:=SX.run_underlying (dM hu) w;rcases aB2 q1 with⟨s,rfl,q2⟩ | q2
   ·cases g1;exact fin (by simp [Builtin.len_,hT',a1W,hU,goInt,Sem.run,Pure.pure]) q2
   ·cases q2
  ·rename_i kt el hu;have hU:=SX.run_underlying (dM hu) w;rcases aCL q1 with⟨b,rfl,q2⟩ | ⟨rfl,q2⟩
   ·rw [lO]at q2;obtain⟨ob,h1',n1,l,e1,q3⟩:=dJ q2;obtain⟨y,o',k1,k2,k3,_,rfl,rfl⟩:=mU R e1;cases ob with
    | map es ck=>
     cases o' <;> first
      | exact k3.elim
      | skip
     rename_i ms ck';simp only [tv,k1,a1S,a1U]at g1;subst g1;have hlen:ms.size=es.length:=by
      have:∀ {es:List Ent} {ms:List MapEntry},kN ρ es ms->ms.length=es.length:=fun {es}=>by
       induction es with
       | nil=>intro ms hm;cases ms with
        | nil=>rfl
        | cons=>exact hm.elim
       | cons e es ih=>intro ms hm;cases ms with
        | nil=>exact hm.elim
        | cons m ms=>simp [ih hm.2]
      simpa using this k3.2
     have q4:run (kv (iR (.ofNat (ln es 0)))) h1' n1 (l++lg)=some r:=q3;rw [ln0]at q4;exact fin (by simp [Builtin.len_,hT',a1W,hU,getObj,k2,hlen,goInt,Sem.run,Pure.pure]) q4
    | loop=>cases q3
    | dfr=>cases q3
   ·cases g1;exact fin (by simp [Builtin.len_,hT',a1W,hU,goInt,Sem.run,Pure.pure]) q2
  ·rename_i m el hu;have hU:=SX.run_underlying (dM hu) w;exact fin (by simp [Builtin.len_,hT',a1W,hU,goInt,Sem.run,Pure.pure]) q1
  ·cases q1
 ·cases q1
theorem s_mm {least:Bool} {c:Call} (ho:o.op= .call c) (hc:c.callee= .builtin (if least then .min else .max)) (he:bT ρ e n a.tmps) (R:Rel g ρ h nx w) (q:run (hMm least c P ex e kv kp kd) h nx lg=some r):OkV P o a w g ρ r kv:=by
 obtain⟨vs,h1,q1⟩:=kA q
 have hvs:=jJ he h1
 split at q1
 ·rename_i i j;obtain⟨x,xs,g1,g2,g3⟩:=eA.1 hvs;obtain⟨y,ys,g4,g5,rfl⟩:=eA.1 g2;cases sT.1 g5;cases g1;cases g4
  have hargs:=argsL g3;cases least with
  | true=>
   rcases gU (b:=true) q1 with⟨_,q2⟩ | ⟨hh,_⟩
   ·rcases gU q2 with⟨hl,q3⟩ | ⟨hl,q3⟩ <;> rw [tC]at hl <;>
     exact .pure R (yI ho hc fun _=>by rw [hargs];simp at hl;simp [builtin,Builtin.min_,Builtin.min2,a1W,hl,Int.not_lt.2,Sem.run,Pure.pure]) rfl q3
   ·cases hh
  | false=>
   rcases gU (b:=false) q1 with⟨hh,_⟩ | ⟨_,q2⟩
   ·cases hh
   ·rcases gU q2 with⟨hl,q3⟩ | ⟨hl,q3⟩ <;> rw [tC]at hl <;>
     exact .pure R (yI ho hc fun _=>by rw [hargs];simp at hl;simp [builtin,Builtin.max_,Builtin.max2,a1W,hl,Int.not_lt.2,Sem.run,Pure.pure]) rfl q3
 ·cases q1
end
end
open RowKit (Below)
noncomputable section
section
variable {P:Program} {o:Oper} {a:Act} {w:World} {g:G} {ρ:Rho} {r:O × S} {kv:KV} {kp:List PE->AL} {kd:Df->AL} {e:Tr V} {n:Nat} {h:Tr Blk} {nx:Nat} {lg:List Fp} {ex:Ex}
theorem ba_eq {s t:ByteArray} (h:(s==t)=true):s=t:=by
 have:ByteArray.beq s t=true:=h
 unfold ByteArray.beq at this
 cases s;cases t
 simp at this
 simp [this]
theorem ba_refl (s:ByteArray):(s==s)=true:=by
 show ByteArray.beq s s=true
 unfold ByteArray.beq
 simp
def KeyK (d:TypeDesc) (v:V) (x:Value):Prop:=(∃ k k' i,d= .int k/\v= .int k' i/\x= .int k' i)\/(∃ s,d= .string/\v= .str s/\x= .string s)
theorem aHs {kt:Nat} {b:Bool} {v:V} {x:Value} (hk:isKey P kt=some b) (hv:keyOk b v=true) (hx:tv ρ v=some x):∃ d,P.underlying kt=some d/\KeyK d v x:=by
 unfold isKey at hk
 split at hk
 ·rename_i k hu;cases hk;cases v <;> first
   | (cases hv;done)
   | skip
  cases hx;exact⟨_,dM hu, .inl ⟨_,_,_,rfl,rfl,rfl⟩⟩
 ·rename_i hu;cases hk;cases v <;> first
   | (cases hv;done)
   | skip
  cases hx;exact⟨_,dM hu, .inr ⟨_,rfl,rfl,rfl⟩⟩
 ·cases hk
theorem aG4 {d:TypeDesc} {v v':V} {x x':Value} {b:Bool} (hk:KeyK d v x) (h:rZ v v'=some b) (hx':tv ρ v'=some x'):Instr.sameNow d x x'=some b/\(b=true->Instr.sameBits 10000 x' x=true):=by
 have beqi:∀ (i j:Int),eqI i j=(i==j):=fun i j=>by rw [aAJ,a0l];simp
 rcases hk with⟨k,k',i,rfl,rfl,rfl⟩ | ⟨s,rfl,rfl,rfl⟩
 ·cases v' <;> first
   | (cases k' <;> cases h;done)
   | skip
  rename_i k2 j;cases hx';cases k' <;> cases k2 <;> first
   | (cases h;done)
   | (simp only [rZ,a1U]at h
      subst h;refine⟨by simp [Instr.sameNow,beqi],fun hb=>?_⟩
      rw [aAJ]at hb;simp only [a2b]at hb;subst hb;simp [Instr.sameBits])
 ·cases v' <;> first
   | (cases h;done)
   | skip
  rename_i s';cases hx';simp only [rZ,a1U]at h;subst h;refine⟨by simp [Instr.sameNow],fun hb=>?_⟩
  have:=ba_eq hb;subst this;simp [Instr.sameBits,ba_refl]
theorem aGG {d:TypeDesc} {v:V} {x:Value} (hk:KeyK d v x):∀ {es:List Ent} {ms:List MapEntry} {rr:Option V} (i:Nat),kN ρ es ms->wR v es=some rr ->
 (rr=none/\Instr.findNow d x ms i=some none)\/∃ u y j,rr=some u/\tv ρ u=some y/\Instr.findNow d x ms i=some (some (j,y))
 | [],[],rr,i,_,hf=>by cases hf;exact .inl ⟨rfl,rfl⟩
 | [],_ :: _,_,_,hr,_=>hr.elim
 | _ :: _,[],_,_,hr,_=>hr.elim
 | e :: es,m :: ms,rr,i,hr,hf=>by
  obtain⟨⟨h1,h2,h3⟩,h4⟩:=hr;simp only [wR]at hf;cases hq:rZ v e.key with
  | none=>rw [hq]at hf;cases hf
  | some b=>
   rw [hq]at hf;obtain⟨h5,_⟩:=aG4 hk hq h1;cases b with
   | true=>cases hf;exact .inr ⟨_,_,i,rfl,h2,by simp [Instr.findNow,h5]⟩
   | false=>
    rcases aGG hk (i+1) h4 hf with⟨h6,h7⟩ | ⟨u,y,j,h6,h7,h8⟩
    ·exact .inl ⟨h6,by simp [Instr.findNow,h5,h7]⟩
    ·exact .inr ⟨u,y,j,h6,h7,by simp [Instr.findNow,h5,h8]⟩
theorem aEF {d:TypeDesc} {v u:V} {x y:Value} {c:Nat} (hk:KeyK d v x) (hv:tv ρ v=some x) (hu:tv ρ u=some y):∀ {es:List Ent} {ms:List MapEntry} {q:List Ent × Nat} (i:Nat),kN ρ es ms->setE v u c es=some q ->
 (∃ j m,Instr.findNow d x ms i=some (some (i+j,m.val))/\ms[j]? =some m/\Instr.sameBits 10000 m.key x=true/\q.2=c/\kN ρ q.1 (ms.modify j fun e=>{ e with key:=x,val:=y })) \/
 (Instr.findNow d x ms i=some none/\q.2=c+1/\kN ρ q.1 (ms++[{ key:=x,val:=y,born:=c }]))
 | [],[],q,i,_,hf=>by cases hf;exact .inr ⟨rfl,rfl,⟨hv,hu,rfl⟩,trivial⟩
 | [],_ :: _,_,_,hr,_=>hr.elim
 | _ :: _,[],_,_,hr,_=>hr.elim
 | e :: es,m :: ms,q,i,hr,hf=>by
  obtain⟨⟨h1,h2,h3⟩,h4⟩:=hr;simp only [setE]at hf;cases hq:rZ v e.key with
  | none=>rw [hq]at hf;cases hf
  | some b=>
   rw [hq]at hf;obtain⟨h5,h6⟩:=aG4 hk hq h1;cases b with
   | true=>
    cases hf;exact .inl ⟨0,m,by simp [Instr.findNow,h5],rfl,h6 rfl,rfl,⟨hv,hu,h3⟩,h4⟩
   | false=>
    simp only at hf
    cases hs:setE v u c es with
    | none=>rw [hs]at hf;cases hf
    | some q'=>
     rw [hs]at hf;cases hf;rcases aEF hk hv hu (i+1) h4 hs with⟨j,m',g1,g2,g3,g4,g5⟩ | ⟨g1,g2,g3⟩
     ·exact .inl ⟨j+1,m',by simp [Instr.findNow,h5,g1];omega,by simpa using g2,g3,g4,by rw [List.modify_succ_cons];exact⟨⟨h1,h2,h3⟩,g5⟩⟩
     ·exact .inr ⟨by simp [Instr.findNow,h5,g1],g2,⟨h1,h2,h3⟩,g3⟩
theorem aHG {t:Nat} {q:Nat × Bool} (hq:mapOf P t=some q):∃ kt,P.underlying t=some (.map kt q.1)/\isKey P kt=some q.2:=by
 unfold mapOf at hq
 split at hq
 ·rename_i kt el hu;split at hq
  ·rename_i b hb;cases hq;exact⟨kt,dM hu,hb⟩
  ·cases hq
 ·cases hq
theorem aC0 {kt:Nat} {d:TypeDesc} {v:V} {x:Value} {b:Bool} (hd:P.underlying kt=some d) (hk:KeyK d v x):(Instr.checkKey b 10000 kt x).run P w= .ok () w:=by
 obtain⟨dd,ED⟩:∃ d,∀ b t v,Instr.checkKey b 10000 t v=Instr.checkKey b (d+1) t v:=⟨9999,fun _ _ _=>rfl⟩
 rw [ED]
 rcases hk with⟨k,k',i,rfl,rfl,rfl⟩ | ⟨s,rfl,rfl,rfl⟩ <;> simp [Instr.checkKey,a1W,SX.run_underlying hd,Sem.run,Pure.pure]
theorem wV {kt:Nat} {d:TypeDesc} {x:Value} {ms:List MapEntry} {rr:Option (Nat × Value)} (hd:P.underlying kt=some d) (hf:Instr.findNow d x ms 0=some rr):(Instr.findKey kt x ms).run P w= .ok rr w:=by
 simp [Instr.findKey,a1W,SX.run_underlying hd,hf,Sem.run,Pure.pure]
theorem aD7 {ok b:Bool} {v:V} {y:Value} (hv:tv ρ v=some y):tv ρ (okT ok b v)=some (if ok then .tuple #[y, .bool b] else y):=by
 cases ok with
 | true=>simp only [okT,tv,tvs,hv];rfl
 | false=>simp only [okT,hv];rfl
theorem s_look {t:Nat} {x y:Operand} {ok:Bool} (ho:o.op= .lookup t x y ok) (he:bT ρ e n a.tmps) (R:Rel g ρ h nx w) (q:run (vV t x y ok P ex e kv kp kd) h nx lg=some r):OkV P o a w g ρ r kv:=by
 obtain⟨m,v,h1,h2,q1⟩:=sP q
 obtain⟨p,hp,q2⟩:=bN q1
 obtain⟨z,hz,q3⟩:=bN q2
 obtain⟨hk,q4⟩:=dG q3
 obtain⟨kt,hU,hK⟩:=aHG hp
 have hm:=cR he h1
 have hv:=cR he h2
 obtain⟨d,hd,hkk⟩:=aHs hK hk hv
 obtain⟨zv,g1,g2⟩:=kU (ρ:=ρ) hz w
 have hUr:=SX.run_underlying hU w
 rcases aCL q4 with⟨b,rfl,q5⟩ | ⟨rfl,q5⟩
 ·rw [lO]at q5;obtain⟨ob,h1',n1,l,e1,q6⟩:=dJ q5;obtain⟨y',o',k1,k2,k3,_,rfl,rfl⟩:=mU R e1;cases ob with
  | loop=>cases q6
  | dfr=>cases q6
  | map es ck=>
   cases o' <;> first
    | exact k3.elim
    | skip
   rename_i ms ck';simp only [tv,k1,a1S,a1U]at hm;obtain⟨rr,hf,q7⟩:=bN (o:=wR v es) (f:=fun r=>opt r (kv (okT ok false z)) fun v=>kv (okT ok true v)) q6
   have hck:=aC0 (P:=P) (w:=w) (b:=ms.isEmpty) hd hkk;rcases aGG hkk 0 k3.2 hf with⟨rfl,h7⟩ | ⟨u,y2,j,rfl,h6,h7⟩
   ·have hfr:=wV (P:=P) (w:=w) hd h7;refine .pure R ?_ (aD7 (b:=false) g2) q7;simp [execOp,ho,<- hm,Instr.lookup,a1W,hUr,getObj,k2,hck,hfr,g1,Sem.run,Pure.pure]
   ·have hfr:=wV (P:=P) (w:=w) hd h7;refine .pure R ?_ (aD7 (b:=true) h6) q7;simp [execOp,ho,<- hm,Instr.lookup,a1W,hUr,getObj,k2,hck,hfr,Sem.run,Pure.pure]
 ·cases hm':a.eval x <;> rw [hm']at hm <;> cases hm
  have hck:=aC0 (P:=P) (w:=w) (b:=true) hd hkk;have hfr:=wV (P:=P) (w:=w) (x:=a.eval y) (ms:=[]) (rr:=none) hd rfl;refine .pure R ?_ (aD7 (b:=false) g2) q5;simp [execOp,ho,hm',Instr.lookup,a1W,hUr,hck,hfr,g1,Sem.run,Pure.pure]
theorem s_upd {t:Nat} {x y z:Operand} (ho:o.op= .mapUpdate t x y z\/o.op= .insert t x y z) (he:bT ρ e n a.tmps) (R:Rel g ρ h nx w) (q:run (hUpd t x y z P ex e kv kp kd) h nx lg=some r):OkV P o a w g ρ r kv:=by
 obtain⟨m,v,u,h1,h2,h3,q1⟩:=aEG q
 obtain⟨p,hp,q2⟩:=bN q1
 obtain⟨hk,q3⟩:=dG q2
 obtain⟨kt,hU,hK⟩:=aHG hp
 have hm:=cR he h1
 have hv:=cR he h2
 have hu:=cR he h3
 obtain⟨d,hd,hkk⟩:=aHs hK hk hv
 have hUr:=SX.run_underlying hU w
 rcases aCL q3 with⟨b,rfl,q5⟩ | ⟨rfl,q5⟩
 ·rw [lO]at q5;obtain⟨ob,h1',n1,l,e1,q6⟩:=dJ q5;obtain⟨y',o',k1,k2,k3,_,rfl,rfl⟩:=mU R e1;cases ob with
  | loop=>cases q6
  | dfr=>cases q6
  | map es ck=>
   cases o' <;> first
    | exact k3.elim
    | skip
   rename_i ms ck';obtain⟨hck0,hents⟩:=k3;subst hck0;simp only [tv,k1,a1S,a1U]at hm;obtain⟨qq,hf,q7⟩:=bN (o:=setE v u ck' es) (f:=fun q=>AL.setO b (.map q.1 q.2) (kv eI)) q6
   rw [tP]at q7;obtain⟨_,h2',n2,l2,e2,q8⟩:=dJ q7;have hck:=aC0 (P:=P) (w:=w) (b:=false) hd hkk;rcases aEF hkk hv hu 0 hents hf with⟨j,m',f1,f2,f3,f4,f5⟩ | ⟨f1,f2,f3⟩
   ·have hfr:=wV (P:=P) (w:=w) hd f1;have hRel:=uM R e2 k1 (o1:= .map (ms.modify j fun e=>{ e with key:=a.eval y,val:=a.eval z }) qq.2) ⟨rfl,by rw [Array.toList_modify];exact f5⟩
    refine⟨eI,undef,ρ,h2',n2,_,_, .inr ⟨?_,rfl⟩,Rho.le_refl ρ,hRel,rfl,q8⟩;have f2':ms[j]? =some m':=by simpa using f2
    rw [a1O]at hfr;rcases ho with ho | ho <;> simp [execOp,ho,<- hm,Instr.mapUpdate,a1W,hUr,getObj,setObj,k2,hck,hfr,f2',Instr.keyThatStays,f3,f4,Sem.run,Pure.pure]
   ·have hfr:=wV (P:=P) (w:=w) hd f1;have hRel:=uM R e2 k1 (o1:= .map (ms.push { key:=a.eval y,val:=a.eval z,born:=ck' }) qq.2) ⟨rfl,by rw [a0j];exact f3⟩
    refine⟨eI,undef,ρ,h2',n2,_,_, .inr ⟨?_,rfl⟩,Rho.le_refl ρ,hRel,rfl,q8⟩;rcases ho with ho | ho <;> simp [execOp,ho,<- hm,Instr.mapUpdate,a1W,hUr,getObj,setObj,k2,hck,hfr,f2,Sem.run,Pure.pure]
 ·cases q5
end
end
open RowKit (Below)
noncomputable section
section
variable {P:Program} {o:Oper} {a:Act} {w:World} {g:G} {ρ:Rho} {r:O × S} {kv:KV} {kp:List PE->AL} {kd:Df->AL} {e:Tr V} {n:Nat} {h:Tr Blk} {nx:Nat} {lg:List Fp} {ex:Ex}
theorem wN (he:bT ρ e n a.tmps) {x:Option Operand} {v:Option V} (hv:evO x e=some v):(x=none/\v=none)\/∃ y u,x=some y/\v=some u/\tv ρ u=some (a.eval y):=by
 unfold evO at hv
 split at hv
 ·cases hv;exact .inl ⟨rfl,rfl⟩
 ·rename_i y;split at hv
  ·rename_i u hu;cases hv;exact .inr ⟨y,u,rfl,rfl,cR he hu⟩
  ·cases hv
def Bd (a:Act) (x:Option Operand) (d m:Nat):Prop:=(x=none/\m=d)\/∃ y k,x=some y/\a.eval y= .int k (m:Int)
theorem jZ (he:bT ρ e n a.tmps) {x:Option Operand} {v:Option V} {d:Nat} {f:Nat->AL} (hv:evO x e=some v) (q:run (ofB v d f) h nx lg=some r):∃ m,Bd a x d m/\run (f m) h nx lg=some r:=by
 rcases wN he hv with⟨rfl,rfl⟩ | ⟨y,u,rfl,rfl,ht⟩
 ·exact⟨d, .inl ⟨rfl,rfl⟩,q⟩
 ·obtain⟨m,hm,q1⟩:=bN (o:=pN u) (f:=f) q;obtain⟨k,hk⟩:=aKe ht hm;exact⟨m, .inr ⟨y,k,rfl,hk⟩,q1⟩
theorem nU {x:Value} {k:IntKind} {m y:Nat} {cd:BoundsCode} (hx:x= .int k (m:Int)) (hm:m<=y):(Instr.sliceBound x y cd).run P w= .ok m w:=by
 subst hx
 have h1:(0:Int)<=(m:Int)/\(m:Int)<=(y:Int):=by omega
 simp [Instr.sliceBound,asIntOf,a1W,Sem.run,Pure.pure,hm]
theorem wS {len cap l hh m:Nat} {lo hi mx:Option Operand} {is:Bool} (hl:Bd a lo 0 l) (hhi:Bd a hi len hh) (hm:Bd a mx cap m) (hok:mx=none\/hi≠none) (h1:l<=hh) (h2:hh<=m) (h3:m<=cap):
 (Instr.sliceBounds is len cap (lo.map a.eval) (hi.map a.eval) (mx.map a.eval)).run P w= .ok (l,hh,m) w:=by
 rcases hm with⟨rfl,rfl⟩ | ⟨ym,km,rfl,em⟩ <;> rcases hhi with⟨rfl,rfl⟩ | ⟨yh,kh,rfl,eh⟩ <;> rcases hl with⟨rfl,rfl⟩ | ⟨yl,kl,rfl,el⟩ <;>
  first
   | (rcases hok with hok | hok <;> first | cases hok | exact absurd rfl hok)
   | skip
 ·simp [Instr.sliceBounds,a1W,Sem.run,Pure.pure]
 ·simp [Instr.sliceBounds,a1W,Sem.run,Pure.pure,nU el h1]
 ·simp [Instr.sliceBounds,a1W,Sem.run,Pure.pure,nU eh h2]
 ·simp [Instr.sliceBounds,a1W,Sem.run,Pure.pure,nU eh h2,nU el h1]
 ·simp [Instr.sliceBounds,a1W,Sem.run,Pure.pure,nU em h3,nU eh h2]
 ·simp [Instr.sliceBounds,a1W,Sem.run,Pure.pure,nU em h3,nU eh h2,nU el h1]
theorem hiOk_eq (he:bT ρ e n a.tmps) {hi mx:Option Operand} {vh vm:Option V} (h1:evO hi e=some vh) (h2:evO mx e=some vm) (hh:hiOk vh vm=true):mx=none\/hi≠none:=by
 rcases wN he h2 with⟨rfl,rfl⟩ | ⟨y,u,rfl,rfl,_⟩
 ·exact .inl rfl
 ·rcases wN he h1 with⟨rfl,rfl⟩ | ⟨y,u,rfl,rfl,_⟩
  ·cases hh
  ·exact .inr (by simp)
theorem aAs {t el:Nat} {i:TypeInfo} {base:Option Addr} {len cap l hh m:Nat} {x:Operand} {lo hi mx:Option Operand} (ho:o.op= .slice t x lo hi mx) (hU:P.underlying t=some (.slice el)) (hi':P.info? el=some i) (hx:a.eval x= .slice base len cap)
 (hb:(Instr.sliceBounds true len cap (lo.map a.eval) (hi.map a.eval) (mx.map a.eval)).run P w= .ok (l,hh,m) w):(execOp a.eval o).run P w= .ok (.value (.slice (if m=l then base else base.map (·.add (l*i.size))) (hh - l) (m - l))) w:=by
 simp [execOp,ho,hx,Instr.sliceAt,Instr.slice,a1W,SX.run_underlying hU,hb,SX.run_sizeOf hi',Sem.run,Pure.pure]
theorem aF9 {es b off cap l hh m:Nat} {k:V->AL} (q:run (slN es b off cap l hh m k) h nx lg=some r):l<=hh/\hh<=m/\m<=cap/\((m=l/\run (k (.sl b off (hh - l) (m - l))) h nx lg=some r)\/(m≠l/\run (k (.sl b (off+l*es) (hh - l) (m - l))) h nx lg=some r)):=by
 obtain⟨h1,q1⟩:=dG q
 obtain⟨a1,h2⟩:=and_true h1
 obtain⟨a2,a3⟩:=and_true h2
 refine⟨a1F a1,a1F a2,a1F a3,?_⟩
 rcases gU q1 with⟨hb,q2⟩ | ⟨hb,q2⟩
 ·exact .inl ⟨a1D hb,q2⟩
 ·exact .inr ⟨fun e=>by subst e;simp at hb,q2⟩
theorem aG0 {es b off len es0:Nat} {p:AL} (R:Rel g ρ h nx w) (q:run (soOk es b off len es0 p) h nx lg=some r):0<es/\es0=es/\(∃ y,ρ b=some y/\off+len*es<=y.2*es/\len<=y.2 - off / es)/\∃ lg',run p h nx lg'=some r:=by
 obtain⟨h0,q1⟩:=dG q
 obtain⟨hes,h1⟩:=and_true h0
 have h1:=a1D h1
 rw [a1C]at hes
 rw [aB4]at q1
 obtain⟨x,h',n1,l,e1,q2⟩:=dJ q1
 unfold pSz at e1
 split at e1
 ·rename_i c t op hb;cases e1;obtain⟨h2,q3⟩:=dG q2;obtain⟨a1,a2⟩:=and_true h2;have a1:op=es:=a1D a1;have a2:off+len*es<=c.length:=a1F a2;subst a1;obtain⟨y,cl,junk,hy,hw,hc,_,hj⟩:=R.row hb;have:=hj hes;have hl:=hc.len;have hle:off+len*op<=y.2*op:=by omega
  refine⟨hes,h1,⟨y,hy,hle,?_⟩,_,q3⟩;have h4:(off+len*op) / op<=y.2:=by
   have:=Nat.div_le_div_right (c:=op) hle
   rwa [Nat.mul_div_cancel _ hes]at this
  rw [Nat.add_mul_div_right _ _ hes]at h4;omega
 ·cases e1
theorem wQ {b off len es x κ:Nat} (h:ρ b=some (x,κ)):tv ρ (.so b off len es)=some (.slice (some ⟨x,off,none⟩) len (κ - off / es)):=by simp [tv,h]
theorem s_slice {t:Nat} {x:Operand} {lo hi mx:Option Operand} (ho:o.op= .slice t x lo hi mx) (he:bT ρ e n a.tmps) (R:Rel g ρ h nx w) (q:run (vY t x lo hi mx P ex e kv kp kd) h nx lg=some r):OkV P o a w g ρ r kv:=by
 obtain⟨v,h1,q1⟩:=fT q
 obtain⟨vl,hl,q2⟩:=aDC q1
 obtain⟨vh,hh,q3⟩:=aDC q2
 obtain⟨vm,hm,q4⟩:=aDC q3
 obtain⟨hok,q5⟩:=dG q4
 have hok:=hiOk_eq he hh hm hok
 have hv:=cR he h1
 split at q5
 ·rename_i el hel;have hU:=aHo hel;obtain⟨es,hes,q6⟩:=bN q5;obtain⟨i,hi',hsz⟩:=uF hes;rcases sQ q6 with⟨b,off,len,cap,rfl,q7⟩ | ⟨b,off,len,es0,rfl,q7⟩ | ⟨rfl,q7⟩ | q7
  ·obtain⟨y,hb,hx⟩:=mK hv;obtain⟨l,bl,q8⟩:=jZ he hl q7;obtain⟨u,bh,q9⟩:=jZ he hh q8;obtain⟨m,bm,q10⟩:=jZ he hm q9;obtain⟨k1,k2,k3,k4⟩:=aF9 q10;have hr:=aAs (w:=w) ho hU hi' hx (wS bl bh bm hok k1 k2 k3);rcases k4 with⟨k4,q11⟩ | ⟨k4,q11⟩
   ·rw [a2d k4]at hr;exact .pure R hr (qM (κ:=y.2) hb) q11
   ·rw [a2c k4,a1S,mL,hsz]at hr;exact .pure R hr (qM (κ:=y.2) hb) q11
  ·obtain⟨y,hb,hx⟩:=nW hv
   ·obtain⟨h0,rfl,⟨y',hb',hle,hcap⟩,lg1,q8⟩:=aG0 R q7;rw [hb]at hb';cases hb'
    obtain⟨l,bl,q9⟩:=jZ he hl q8;obtain⟨u,bh,q10⟩:=jZ he hh q9;rcases kL q10 with⟨hmn,q11⟩ | ⟨vm',hmn,q11⟩
    ·have hmx:mx=none:=by
      rcases wN he hm with⟨h2,_⟩ | ⟨_,_,_,h3,_⟩
      ·exact h2
      ·rw [h3]at hmn;cases hmn
     subst hmx;obtain⟨c1,q12⟩:=dG q11;obtain⟨_,c2⟩:=and_true c1;obtain⟨c3,c4⟩:=and_true c2;obtain⟨c5,c6⟩:=and_true c4;have c3:l<=u:=a1F c3;have c5:u<=len:=a1F c5;have c7:l=0\/l<len:=by
      cases hz:Nat.beq l 0 with
      | true=>exact .inl (a1D hz)
      | false=>rw [hz]at c6;exact .inr (by have:Nat.blt l len=true:=c6;rwa [a1C]at this)
     have hr:=aAs (w:=w) ho hU hi' hx (wS bl bh (.inl ⟨rfl,rfl⟩) hok c3 (by omega) (a1G _))
     have haddr:(if (y.2 - off / es0)=l then(some (⟨y.1,off,none⟩:Addr)) else (some ⟨y.1,off,none⟩:Option Addr).map (·.add (l*i.size)))=some ⟨y.1,off+l*es0,none⟩:=by
      split
      ·have:l=0:=by omega
       subst this;simp
      ·rw [a1S,mL,hsz]
     rw [haddr]at hr;refine .pure R hr ?_ q12;show tv ρ (.so b (off+l*es0) (u - l) es0)=_
     have:=wQ (off:=off+l*es0) (len:=u - l) (es:=es0) (κ:=y.2) hb;rw [this,Nat.add_mul_div_right _ _ h0,Nat.sub_sub]
    ·obtain⟨m,bm,q12⟩:=jZ he hm q11;obtain⟨k1,k2,k3,k4⟩:=aF9 q12;have bm':Bd a mx (y.2 - off / es0) m:=by
      rcases bm with⟨h2,_⟩ | h2
      ·subst h2;unfold evO at hm;cases hm;cases hmn
      ·exact .inr h2
     have hr:=aAs (w:=w) ho hU hi' hx (wS bl bh bm' hok k1 k2 (by omega))
     rcases k4 with⟨k4,q13⟩ | ⟨k4,q13⟩
     ·rw [a2d k4]at hr;exact .pure R hr (qM (κ:=y.2) hb) q13
     ·rw [a2c k4,a1S,mL,hsz]at hr;exact .pure R hr (qM (κ:=y.2) hb) q13
  ·have hx:a.eval x= .slice none 0 0:=(a1T hv).symm;obtain⟨l,bl,q8⟩:=jZ he hl q7;obtain⟨u,bh,q9⟩:=jZ he hh q8;obtain⟨m,bm,q10⟩:=jZ he hm q9;obtain⟨h0,q11⟩:=dG q10;have h0:l+(u+m)=0:=a1D h0;obtain⟨rfl,rfl,rfl⟩:l=0/\u=0/\m=0:=by omega
   have hr:=aAs (w:=w) ho hU hi' hx (wS bl bh bm hok (a1G _) (a1G _) (a1G _));exact .pure R hr rfl q11
  ·cases q7
 ·obtain⟨hs,q6⟩:=dG q5;have hU:P.underlying t=some .string:=by
   unfold isStr at hs;split at hs
   ·rename_i hu;exact dM hu
   ·cases hs
  rcases kL q6 with⟨hmn,q7⟩ | ⟨_,_,q7⟩
  ·have hmx:mx=none:=by
    rcases wN he hm with⟨h2,_⟩ | ⟨_,_,_,h3,_⟩
    ·exact h2
    ·rw [h3]at hmn;cases hmn
   subst hmx;rcases aB2 q7 with⟨s,rfl,q8⟩ | q8
   ·have hx:a.eval x= .string s:=(a1T hv).symm;obtain⟨l,bl,q9⟩:=jZ he hl q8;obtain⟨u,bh,q10⟩:=jZ he hh q9;obtain⟨c1,q11⟩:=dG q10;obtain⟨c2,c3⟩:=and_true c1;have hb:=wS (P:=P) (w:=w) (is:=false) bl bh (.inl ⟨rfl,rfl⟩) hok (a1F c2) (a1F c3) (a1G _);refine .pure (x:= .string (s.extract l u)) R ?_ rfl q11;simp only [Option.map_none]at hb;simp [execOp,ho,hx,Instr.sliceAt,Instr.slice,a1W,SX.run_underlying hU,hb,Sem.run,Pure.pure]
   ·cases q8
  ·cases q7
end
end
open RowKit (Below)
noncomputable section
section
variable {P:Program} {o:Oper} {a:Act} {w:World} {g:G} {ρ:Rho} {r:O × S} {kv:KV} {kp:List PE->AL} {kd:Df->AL} {e:Tr V} {n:Nat} {h:Tr Blk} {nx:Nat} {lg:List Fp} {ex:Ex}
theorem Rel.drew (R:Rel g ρ h nx w):Rel g ρ h nx w.drew:=⟨R.blk,R.inj,R.new,R.below.drew,R.lo,R.fresh,R.le,R.out⟩
theorem cells.uniq {l:List V} {x y:List Value} (h1:cells ρ l x) (h2:cells ρ l y):x=y:=a1T (h1.2.symm.trans h2.2)
theorem aBA {b off m:Nat} {y:Nat × Nat} {k:List V->AL} (R:Rel g ρ h nx w) (hb:ρ b=some y) (q:run (rdN b off m k) h nx lg=some r):
 ∃ vs l lg',run (k vs) h nx lg'=some r/\cells ρ vs l/\vs.length=m/\∀ w',Rel g ρ h nx w'->(loadCells ⟨y.1,off,none⟩ m).run P w'= .ok ⟨l⟩ w':=by
 rcases gU q with⟨h0,q1⟩ | ⟨_,q1⟩
 ·have:=a1D h0;subst this;exact⟨[],[],lg,q1,cells.nil,rfl,fun w' _=>by simp [loadCells,loadCellsFrom,Sem.run,Pure.pure]⟩
 ·rw [aCE]at q1;obtain⟨vs,h1,n1,l,e1,q2⟩:=dJ q1;obtain⟨x,rr,h2,h3,h4,h5,h6,h7⟩:=aD2 (P:=P) R e1;subst h6 h7;rw [hb]at h2;cases h2
  refine⟨vs,rr,_,q2,h4,h5,fun w' R'=>?_⟩
  obtain⟨x',rr',g2,g3,g4,_⟩:=aD2 (P:=P) R' e1;rw [hb]at g2;cases g2
  rw [h4.uniq g4];exact g3
theorem aKT (s:ByteArray):cells ρ (aAN s) (s.data.toList.map fun b=>Value.int .u8 b.toNat):=by
 unfold aAN
 generalize s.data.toList=l
 induction l with
 | nil=>exact cells.nil
 | cons b l ih=>exact⟨sW.2 ⟨rfl,ih.1⟩,eA.2 ⟨_,_,rfl,ih.2,rfl⟩⟩
theorem aJV {es:Nat} {v:V} {x:Value} {f:Nat->List V->AL} (R:Rel g ρ h nx w) (hv:tv ρ v=some x) (q:run (cellsOf es v f) h nx lg=some r):
 ∃ m vs l lg',run (f m vs) h nx lg'=some r/\cells ρ vs l/\vs.length=m*es/\∀ w',Rel g ρ h nx w'->(Builtin.lenOf x).run P w'= .ok m w'/\(Builtin.firstCells es m x).run P w'= .ok ⟨l⟩ w':=by
 rcases sQ q with⟨b,off,len,cap,rfl,q1⟩ | ⟨b,off,len,es0,rfl,q1⟩ | ⟨rfl,q1⟩ | q1
 ·obtain⟨y,hb,rfl⟩:=mK hv;obtain⟨vs,l,lg',q2,h1,h2,h3⟩:=aBA (P:=P) R hb q1;exact⟨len,vs,l,lg',q2,h1,h2,fun w' R'=>⟨by simp [Builtin.lenOf,Sem.run,Pure.pure],by simp only [Builtin.firstCells];exact h3 w' R'⟩⟩
 ·obtain⟨y,hb,rfl⟩:=nW hv;obtain⟨vs,l,lg',q2,h1,h2,h3⟩:=aBA (P:=P) R hb q1;exact⟨len,vs,l,lg',q2,h1,h2,fun w' R'=>⟨by simp [Builtin.lenOf,Sem.run,Pure.pure],by simp only [Builtin.firstCells];exact h3 w' R'⟩⟩
 ·cases hv;exact⟨0,[],[],lg,q1,cells.nil,by simp,fun w' R'=>⟨by simp [Builtin.lenOf,Sem.run,Pure.pure],by simp [Builtin.firstCells,Sem.run,Pure.pure]⟩⟩
 ·rcases aB2 q1 with⟨s,rfl,q2⟩ | q2
  ·cases hv;obtain⟨h1,q3⟩:=dG q2;have h1:=a1D h1;subst h1;refine⟨s.size,_,_,lg,q3,aKT s,by simp [aAN],fun w' R'=>⟨by simp [Builtin.lenOf,Sem.run,Pure.pure],?_⟩⟩
   have hx:(Array.map (fun b:UInt8=>Value.int IntKind.u8 (b.toNat:Int)) s.data).extract 0 s.size=Array.map (fun b:UInt8=>Value.int IntKind.u8 (b.toNat:Int)) s.data:=by
    have hs:s.size=(Array.map (fun b:UInt8=>Value.int IntKind.u8 (b.toNat:Int)) s.data).size:=by rw [Array.size_map];rfl
    rw [hs,Array.extract_size]
   simp [Builtin.firstCells,Sem.run,Pure.pure,hx];apply Array.ext';simp
  ·cases q2
structure ApT (P:Program) (ts:Array TypeId) (T U el:Nat) (i:TypeInfo) (zv:Value):Prop where
 t0:ts[0]? =some T
 t1:ts[1]? =some U
 und:P.underlying T=some (.slice el)
 und2:∃ d,P.underlying U=some d/\∀ k,d≠ .int k
 info:P.info? el=some i
 zero:i.zero=some zv
theorem vD {ts:Array TypeId} {T U el ty:Nat} {i:TypeInfo} {zv x:Value} {base:Option Addr} {len cap m:Nat} {news:List Value} {rest:List Value} {w':World} (A:ApT P ts T U el i zv)
 (hl:(Builtin.lenOf x).run P w= .ok m w) (hf:(Builtin.firstCells i.size m x).run P w= .ok ⟨news⟩ w) (hr:len+m<=cap)
 (hs:match base with | some p=>(storeCells (p.add (len*i.size)) news).run P w= .ok () w' | none=>w'=w):
 (Builtin.append_ ts ty (.slice base len cap :: x :: rest).toArray).run P w= .ok (.slice base (len+m) cap) w':=by
 obtain⟨d,hd,hk⟩:=A.und2
 have hnum:(match d with | .int _=>true | _=>false)=false:=by cases d <;> first | rfl | exact absurd rfl (hk _)
 cases base with
 | none=>
  subst hs;cases d <;> first
   | exact absurd rfl (hk _)
   | simp [Builtin.append_,A.t0,A.t1,a1W,SX.run_underlying A.und,SX.run_underlying hd,SX.run_sizeOf A.info,hl,hf,hr,Sem.run,Pure.pure]
 | some p=>
  simp only at hs
  cases d <;> first
   | exact absurd rfl (hk _)
   | simp [Builtin.append_,A.t0,A.t1,a1W,SX.run_underlying A.und,SX.run_underlying hd,SX.run_sizeOf A.info,hl,hf,hr,hs,Sem.run,Pure.pure]
theorem app_grow {ts:Array TypeId} {T U el ty:Nat} {i:TypeInfo} {zv x:Value} {base:Option Addr} {len cap m:Nat} {olds news:List Value} {rest:List Value} (A:ApT P ts T U el i zv)
 (hl:(Builtin.lenOf x).run P w= .ok m w) (hf:(Builtin.firstCells i.size m x).run P w.drew= .ok ⟨news⟩ w.drew) (ho:(Builtin.firstCells i.size len (.slice base len cap)).run P w.drew= .ok ⟨olds⟩ w.drew)
 (hg:cap<len+m) (hlim:len+m<=1048576) (hby:i.bytes<=1048576):
 (Builtin.append_ ts ty (.slice base len cap :: x :: rest).toArray).run P w= .ok (.slice (some ⟨w.heap.size,0,none⟩) (len+m) (grownCap w (len+m) cap el))
  (w.drew.alloc (.cells (⟨olds++news++(Builtin.zeroCells zv.cells (grownCap w (len+m) cap el - (len+m))).toList⟩) el)):=by
 obtain⟨d,hd,hk⟩:=A.und2
 have hn:¬ (len+m<=cap):=by omega
 have h63:¬ (9223372036854775807<((len:Int)+(m:Int))):=by omega
 have hfit:=growslice_fits (bytes:=i.bytes) hg (by
  have:(len+m)*i.bytes<=1048576*1048576:=Nat.mul_le_mul hlim hby;omega)
 have h48:¬ (281474976710656<Builtin.nextslicecap (len+m) cap*i.bytes):=by omega
 have e:(⟨olds⟩++⟨news⟩++Builtin.zeroCells zv.cells (grownCap w (len+m) cap el - (len+m)):Array Value)=⟨olds++news++(Builtin.zeroCells zv.cells (grownCap w (len+m) cap el - (len+m))).toList⟩:=by
  apply Array.ext';simp
 rw [<- e]
 have hU:=fun w=>SX.run_underlying (P:=P) A.und w
 have hD:=fun w=>SX.run_underlying (P:=P) hd w
 cases d <;> first
  | exact absurd rfl (hk _)
  | (simp [Builtin.append_,A.t0,A.t1,hU,hD,sizeOf,typeInfo,zeroValue,A.info,A.zero,hl,hn,h63,h48,Question.forced,hf,ho,newRow,grownCap]
     apply congrArg
     congr 1
     apply Array.ext';simp)
end
end
open RowKit (Below)
noncomputable section
section
variable {P:Program} {o:Oper} {a:Act} {w:World} {g:G} {ρ:Rho} {r:O × S} {kv:KV} {kp:List PE->AL} {kd:Df->AL} {e:Tr V} {n:Nat} {h:Tr Blk} {nx:Nat} {lg:List Fp} {ex:Ex}
structure Same (w w':World) (b:Nat):Prop where
 other:∀ c,c≠b->w'.heap[c]? =w.heap[c]?
 size:w'.heap.size=w.heap.size
 os:w'.os=w.os
 output:w'.output=w.output
 tape:w'.tape=w.tape
theorem wA {b t:Nat}:∀ (vs:List Value) (l:List Value) (w:World) (k i off:Nat),w.heap[b]? =some (.cells ⟨l⟩ t (0,0))->(∀ v∈vs,dB v)->off+vs.length<=l.length->off=k+i ->
 ∃ w',(storeCells ⟨b,k,none⟩ vs i).run P w= .ok () w'/\w'.heap[b]? =some (.cells ⟨l.take off++vs++l.drop (off+vs.length)⟩ t (0,0))/\Same w w' b
 | [],l,w,k,i,off,hw,_,_,_=>⟨w,rfl,by simpa using hw,fun _ _=>rfl,rfl,rfl,rfl,rfl⟩
 | v :: vs,l,w,k,i,off,hw,hv,hle,hk=>by
  have hoff:off<l.length:=by simp at hle;omega
  have hcell:w.cell? ⟨b,off,none⟩=some l[off]:=by rw [yP hw];simp [hoff]
  have hfr:w.frozen? ⟨b,off,none⟩=false:=by simp [World.frozen?,hw]
  have hrun:(Go.store ⟨b,off,none⟩ v).run P w= .ok () (w.setCell ⟨b,off,none⟩ v):=SX.run_store (P:=P) (by
   have:=hv v (.head _);cases v <;> first | exact this.elim | trivial) hcell hfr
  have hset:=aHa hw v (off:=off);have e1:(Array.setIfInBounds ⟨l⟩ off v:Array Value)=⟨l.set off v⟩:=by apply Array.ext';simp
  rw [e1]at hset;obtain⟨w',h1,h2,h3⟩:=wA vs (l.set off v) _ k (i+1) (off+1) hset (fun u hu=>hv u (.tail _ hu)) (by simp at hle ⊢;omega) (by omega)
  refine⟨w',?_,?_,fun c hc=>(h3.other c hc).trans (SX.setCell_other w ⟨b,off,none⟩ v hc),h3.size.trans (SX.setCell_size _ _ _),h3.os,h3.output,h3.tape⟩
  ·have e0:Addr.add ⟨b,k,none⟩ i=⟨b,off,none⟩:=by rw [zB,hk]
   simp only [storeCells,a1W,e0,hrun];exact h1
  ·rw [h2,aD6 hle]
theorem aIH {z:Array Value} (k:Nat):(Builtin.zeroCells z k).toList.length=k*z.size:=by simp [Builtin.zeroCells]
theorem grow_run {el es m nc:Nat} {c:List V} {l zs:List Value} {k:V->AL} (R:Rel g ρ h nx w) (hc:cells ρ c l) (hl:l.length=m*es) (hz:zs.length=(nc - m)*es) (hes:0<es) (hnc:m<=nc) (hi:r.2.nx<=g.hi) (q:run (grow el es m c k) h nx lg=some r):
 m<=1048576/\∃ b ρ' h' nx' lg',ρ.le ρ'/\Rel g ρ' h' nx' (w.alloc (.cells ⟨l++zs⟩ el))/\ρ' b=some (w.heap.size,nc)/\run (k (.so b 0 m es)) h' nx' lg'=some r:=by
 obtain⟨hm,q1⟩:=dG q
 rw [aBi]at q1
 obtain⟨b,h1,n1,mm,e1,q2⟩:=dJ q1
 have hn1:=a1H (rQ q2) hi
 have hn:ρ nx=none:=by
  unfold iT at e1;split at e1
  ·cases e1;exact R.fresh nx (a1G _) hn1
  ·cases e1
 have hle:=Rho.le_ins (x:=(w.heap.size,nc)) hn
 obtain⟨rfl,h2,h3⟩:=zV R e1 hn1 nc (.cells ⟨l++zs⟩ el) ⟨rfl,rfl,l,zs,hc.mono hle,rfl,fun h=>absurd h (by omega),fun _=>by
  rw [hl,hz,<- a1A];congr 1;omega⟩
 exact⟨a1F hm,b,_,h1,n1,_,h2,h3,Rho.ins_self,q2⟩
theorem aJ4 (w:World) (need old:Nat) (el:TypeId):need<=grownCap w need old el:=by
 unfold grownCap;simp only [Question.cut];omega
theorem adopt {b:Nat} {k k':Blk} {x:Nat × Nat} {o':Obj} {w':World} (R:Rel g ρ h nx w) (hb:at_ h b=some k) (hx:ρ b=some x) (hn:nx+1<=g.hi) (hw:w'.heap[x.1]? =some o') (hs:Same w w' x.1) (hk:blkR (ρ.ins nx x) x.2 k' o'):
 ρ.le (ρ.ins nx x)/\Rel g (ρ.ins nx x) (pu (pu h b none) nx (some k')) (nx+1) w':=by
 have hnn:ρ nx=none:=R.fresh nx (a1G _) hn
 have hle:=Rho.le_ins (x:=x) hnn
 have hne:b≠nx:=fun e=>by subst e;rw [hnn]at hx;cases hx
 have key:∀ {c:Nat} {q:Blk},at_ (pu (pu h b none) nx (some k')) c=some q->(c=nx/\q=k')\/(c≠nx/\c≠b/\at_ h c=some q):=fun {c q} hc=>by
  rw [fQ]at hc;split at hc
  ·cases hc;exact .inl ⟨by assumption,rfl⟩
  ·rw [fQ]at hc;split at hc
   ·cases hc
   ·exact .inr ⟨by assumption,by assumption,hc⟩
 have insne:∀ {c:Nat},c≠nx->ρ.ins nx x c=ρ c:=fun hc=>by simp [Rho.ins,hc]
 refine⟨hle,fun c q hc=>?_,fun c c' y y' h1 h2 h3 h4 h5=>?_,fun c y hy=>?_,⟨hs.os.trans R.below.os,hs.tape.trans R.below.tape,hs.output.trans R.below.output,by rw [hs.size];exact R.below.size,fun c hc=>?_⟩,Nat.le_succ_of_le R.lo,fun c h1 h2=>?_,Rho.le_trans R.le hle,fun c hc=>?_⟩
 ·rcases key hc with⟨rfl,rfl⟩ | ⟨g1,g2,g3⟩
  ·exact⟨x,o',Rho.ins_self,hw,hk⟩
  ·obtain⟨y,o2,k1,k2,k3⟩:=R.blk c q g3;refine⟨y,o2,hle _ _ k1,?_,k3.mono hle⟩;rw [hs.other y.1 fun e=>g2 (R.inj c b y x (by rw [g3];simp) (by rw [hb];simp) k1 hx e)];exact k2
 ·obtain⟨q,hq⟩:=Option.ne_none_iff_exists'.1 h1;obtain⟨q',hq'⟩:=Option.ne_none_iff_exists'.1 h2;rcases key hq with⟨rfl,_⟩ | ⟨g1,g2,g3⟩ <;> rcases key hq' with⟨rfl,_⟩ | ⟨f1,f2,f3⟩
  ·rfl
  ·rw [Rho.ins_self]at h3;cases h3
   rw [insne f1]at h4;exact absurd (R.inj c' b y' x (by rw [f3];simp) (by rw [hb];simp) h4 hx h5.symm) f2
  ·rw [Rho.ins_self]at h4;cases h4
   rw [insne g1]at h3;exact absurd (R.inj c b y x (by rw [g3];simp) (by rw [hb];simp) h3 hx h5) g2
  ·rw [insne g1]at h3;rw [insne f1]at h4;exact R.inj c c' y y' (by rw [g3];simp) (by rw [f3];simp) h3 h4 h5
 ·unfold Rho.ins at hy;split at hy
  ·cases hy;exact R.new b x hx
  ·exact R.new c y hy
 ·have:=R.new b x hx;rw [hs.other c (by omega)];exact R.below.block c hc
 ·have:c≠nx:=by omega
  rw [insne this];exact R.fresh c (by omega) h2
 ·have:=R.lo;have:c≠nx:=by omega
  rw [insne this];exact R.out c hc
theorem aLb {U:Nat} (hh:Bool.not (isInt P U)=true):∃ d,P.underlying U=some d/\∀ k,d≠ .int k:=by
 unfold isInt at hh
 split at hh
 ·cases hh
 ·cases hh
 ·rename_i x h1 h2;cases hu:und P U with
  | none=>exact absurd hu (by intro h;exact h2 h)
  | some d=>exact⟨d,dM hu,fun k e=>by subst e;exact h1 k hu⟩
theorem s_append {c:Call} (ho:o.op= .call c) (hc:c.callee= .builtin .append) (he:bT ρ e n a.tmps) (hi:r.2.nx<=g.hi) (R:Rel g ρ h nx w) (q:run (wB c P ex e kv kp kd) h nx lg=some r):OkV P o a w g ρ r kv:=by
 obtain⟨vs,h1,q1⟩:=kA q
 have hvs:=jJ he h1
 split at q1
 ·rename_i T U ts s x us hT;obtain⟨xs,xr,g1,g2,g3⟩:=eA.1 hvs;obtain⟨xx,xr',g4,g5,rfl⟩:=eA.1 g2;have hargs:=argsL g3;have t0:c.argTypes[0]? =some T:=by rw [<- a0g,hT];rfl
  have t1:c.argTypes[1]? =some U:=by rw [<- a0g,hT];rfl
  obtain⟨p,hp,q2⟩:=bN q1;obtain⟨hb,q3⟩:=dG q2;obtain⟨hes,hU⟩:=and_true hb;rw [a1C]at hes;obtain⟨i,zv,RT⟩:=aAF ρ hp;have A:ApT P c.argTypes T U p.1 i zv:=⟨t0,t1,RT.und,aLb hU,RT.info,RT.zero⟩;obtain⟨m,news,nl,lg1,q4,n1,n2,n3⟩:=aJV (P:=P) R g4 q3;have hnl:=n1.len;have hsz:i.size=p.2.1:=RT.size;have hzs:zv.cells.size=p.2.1:=by have h1:=RT.zc.len;have h2:=RT.zl;rw [<- a0h];omega
  have hl:=fun w' R'=>(n3 w' R').1
  have hf:=fun w' R'=>(n3 w' R').2
  rw [<- hsz]at hf;have fin:∀ {u:V} {X:Value} {ρ' h' nx' lg' w'},(Builtin.append_ c.argTypes o.type (xs :: xx :: xr').toArray).run P w= .ok X w'->ρ.le ρ'->Rel g ρ' h' nx' w'->tv ρ' u=some X->run (kv u) h' nx' lg'=some r->OkV P o a w g ρ r kv:=
   fun {u X ρ' h' nx' lg' w'} hr k1 k2 k3 k4=>⟨u,X,ρ',h',nx',lg',w', .inl (yI ho hc fun _=>by rw [hargs];simp only [builtin];rw [a1W,hr];rfl),k1,k2,k3,k4⟩
  have grw:∀ {base:Option Addr} {len cap:Nat} {oldsV:List V} {olds:List Value} {lg'},xs= .slice base len cap->cap<len+m->cells ρ oldsV olds->oldsV.length=len*p.2.1 ->
   (Builtin.firstCells i.size len (.slice base len cap)).run P w.drew= .ok ⟨olds⟩ w.drew->∀ {h0:Tr Blk},Rel g ρ h0 nx w->run (grow p.1 p.2.1 (len+m) (ap oldsV news) kv) h0 nx lg'=some r->OkV P o a w g ρ r kv:=by
   intro base len cap oldsV olds lg' hX hg hco hlo hfo h0 R0 q5;have hlen:(olds++nl).length=(len+m)*p.2.1:=by rw [a0R,hco.len,hnl,hlo,n2,a1A]
   rw [jD]at q5;obtain⟨k0,b,ρ',h',nx',lg2,k1,k2,k3,k4⟩:=grow_run (nc:=grownCap w (len+m) cap p.1) (zs:=(Builtin.zeroCells zv.cells (grownCap w (len+m) cap p.1 - (len+m))).toList) R0.drew (hco.app n1) hlen
    (by rw [aIH,hzs]) hes (aJ4 _ _ _ _) hi q5
   have hr:=app_grow (P:=P) (ty:=o.type) (rest:=xr') (olds:=olds) A (hl w R) (hf w.drew R.drew) hfo hg k0 RT.bytes;rw [hX]at fin;refine fin hr k1 k2 ?_ k4;rw [wQ k3];simp
  rcases gU q4 with⟨hm0,q5⟩ | ⟨hm0,q5⟩
  ·have hm0:=a1D hm0;subst hm0;have hnil:nl=[]:=a0z (by rw [hnl,n2];simp)
   subst hnil;rcases sQ q5 with⟨b,off,len,cap,rfl,q6⟩ | ⟨b,off,len,es0,rfl,q6⟩ | ⟨rfl,q6⟩ | q6
   ·obtain⟨hle,q7⟩:=dG q6;obtain⟨y,hb',rfl⟩:=mK g1;exact fin (vD (w':=w) A (hl w R) (hf w R) (a1F hle) (by simp [storeCells,Sem.run,Pure.pure])) (Rho.le_refl ρ) R (qM (κ:=y.2) hb') q7
   ·obtain⟨_,rfl,⟨y',hb',_,hcap⟩,lg2,q7⟩:=aG0 R q6;obtain⟨y,hb'',rfl⟩:=nW g1;rw [hb']at hb'';cases hb''
    exact fin (vD (w':=w) A (hl w R) (hf w R) hcap (by simp [storeCells,Sem.run,Pure.pure])) (Rho.le_refl ρ) R (wQ (κ:=y'.2) hb') q7
   ·cases g1;exact fin (vD (w':=w) A (hl w R) (hf w R) (a1G _) rfl) (Rho.le_refl ρ) R rfl q6
   ·cases q6
  ·have hm:0<m:=Nat.pos_of_ne_zero fun e=>by subst e;simp at hm0
   have hnpos:0<news.length:=by rw [n2];exact Nat.mul_pos hm hes
   rcases sQ q5 with⟨b,off,len,cap,rfl,q6⟩ | ⟨b,off,len,es0,rfl,q6⟩ | ⟨rfl,q6⟩ | q6
   ·obtain⟨y,hb',rfl⟩:=mK g1;have q6':run (ife (Nat.ble (len+m) cap) (.wr b (off+len*p.2.1) news (kv (.sl b off (len+m) cap))) (rdN b off (len*p.2.1) fun old=>grow p.1 p.2.1 (len+m) (ap old news) kv)) h nx lg1=some r:=q6
    rcases gU q6' with⟨hle,q7⟩ | ⟨hle,q7⟩
    ·have hle:=a1F hle;rw [aAc]at q7;obtain⟨_,h',n',l',e1,q8⟩:=dJ q7;obtain⟨y2,w',k1,k2,k3⟩:=aAC (P:=P) R e1 n1;rw [hb']at k1;cases k1
     exact fin (vD (w':=w') A (hl w R) (hf w R) hle (by simp only [mL,hsz];exact k2)) (Rho.le_refl ρ) k3 (qM (κ:=y.2) hb') q8
    ·have hgt:cap<len+m:=by
      rcases a1J cap (len+m)with h | h
      ·exact h
      ·rw [Nat.ble_eq_true_of_le h]at hle;cases hle
     obtain⟨ov,ol,lg2,q8,k1,k2,k3⟩:=aBA (P:=P) R hb' q7;exact grw rfl hgt k1 k2 (by simp only [Builtin.firstCells,hsz];exact k3 w.drew R.drew) R q8
   ·obtain⟨h00,q7⟩:=dG q6;have h00:=a1D h00;subst h00;obtain⟨y,hb',rfl⟩:=nW g1;have q8:=q7;unfold appO at q8;rw [aB4]at q8;obtain⟨X,h',n',l',e1,q9⟩:=dJ q8;unfold pSz at e1;split at e1
    ·rename_i cc t op hcb;cases e1;obtain⟨hh,q10⟩:=dG q9;obtain⟨a1,a2⟩:=and_true hh;have hop:op=p.2.1:=a1D a1;have htt:t=p.1:=a1D a2;clear a1 a2 hh;subst hop htt;obtain⟨y',cl,junk,hy,hw,hcl,_,hj⟩:=R.row hcb;rw [hb']at hy;cases hy
     have hj:=hj hes;have hcll:=hcl.len;have q11:run (ife (Nat.ble (off+(len+m)*p.2.1) cc.length) (.wr b (off+len*p.2.1) news (kv (.so b off (len+m) p.2.1)))
      (cU (Bool.and (Nat.beq off 0) (Nat.beq (len*p.2.1) cc.length)) (rdN b 0 (len*p.2.1) fun old=> .del b (grow p.1 p.2.1 (len+m) (ap old news) kv)))) h nx _=some r:=q10
     rcases gU q11 with⟨hle,q12⟩ | ⟨_,q12⟩
     ·have hle:off+(len+m)*p.2.1<=cc.length:=a1F hle;have hroom:len+m<=y.2 - off / p.2.1:=by
       have h5:off+(len+m)*p.2.1<=y.2*p.2.1:=by omega
       have h4:(off+(len+m)*p.2.1) / p.2.1<=y.2:=by
        have:=Nat.div_le_div_right (c:=p.2.1) h5
        rwa [Nat.mul_div_cancel _ hes]at this
       rw [Nat.add_mul_div_right _ _ hes]at h4;omega
      rw [aAc]at q12;obtain⟨_,h2',n2',l2',e2,q13⟩:=dJ q12;obtain⟨y2,w',k1,k2,k3⟩:=aAC (P:=P) R e2 n1;rw [hb']at k1;cases k1
      exact fin (vD (w':=w') A (hl w R) (hf w R) hroom (by simp only [mL,hsz];exact k2)) (Rho.le_refl ρ) k3 (wQ (κ:=y.2) hb') q13
     ·obtain⟨hh2,q13⟩:=dG q12;obtain⟨b1,b2⟩:=and_true hh2;have b1:=a1D b1;have b2:len*p.2.1=cc.length:=a1D b2;subst b1;simp only [Nat.zero_div,Nat.sub_zero]at fin grw;obtain⟨ov,ol,lg2,q14,k1,k2,k3⟩:=aBA (P:=P) R hb' q13;rw [aF5]at q14;obtain⟨_,h3',n3',l3',e3,q15⟩:=dJ q14;have hR3:=aKm R e3;have e3':h3'=pu h b none/\n3'=nx:=by
       unfold pDel at e3;rw [hcb]at e3;cases e3;exact⟨rfl,rfl⟩
      obtain⟨rfl,rfl⟩:=e3';by_cases hroom:len+m<=y.2
      ·have hol:ol=cl:=by
        have h6:=k3 w R;have h7:=SX.run_loadCellsFrom (P:=P) (w:=w) (p:=⟨y.1,0,none⟩) cl 0 #[] (fun j v hj=>by
         rw [zB,yP hw,a0Q,a1O,a1O,a0E (a0K.1 hj).1];exact hj)
        rw [hcll,<- b2]at h7;unfold loadCells at h6;rw [h7]at h6;simp only [Result.ok.injEq]at h6;have:=congrArg Array.toList h6.1;simpa using this.symm
       subst hol;obtain⟨_,q16⟩:=dG q15;rw [aBi]at q16;obtain⟨b',h4,n4,l4,e4,q17⟩:=dJ q16;have hn4:=a1H (rQ q17) hi;have e4':b'=n3'/\h4=pu (pu h b none) n3' (some (.cells (ov++news) p.1 p.2.1))/\n4=n3'+1:=by
        unfold iT at e4;split at e4
        ·cases e4;rw [jD];exact⟨rfl,rfl,rfl⟩
        ·cases e4
       obtain⟨rfl,rfl,rfl⟩:=e4';have hlen:len*p.2.1+nl.length<=(ol++junk).length:=by
        have h5:(len+m)*p.2.1<=y.2*p.2.1:=a1M _ hroom;rw [a1A]at h5;rw [a0R,hj,hnl,n2];exact h5
       obtain⟨w',s1,s2,s3⟩:=wA (P:=P) nl (ol++junk) w (0+len*p.2.1) 0 (len*p.2.1) hw n1.is hlen (by omega)
       have e5:(ol++junk).take (len*p.2.1)++nl++(ol++junk).drop (len*p.2.1+nl.length)=(ol++nl)++junk.drop nl.length:=by
        have h5:len*p.2.1=ol.length:=by omega
        rw [h5,List.take_left,List.drop_append];congr 1
        rw [a0y (by omega)];simp
       rw [e5]at s2;have hRa:=adopt R hcb hb' hn4 s2 s3 (k':= .cells (ov++news) p.1 p.2.1) ⟨rfl,rfl,ol++nl,junk.drop nl.length,((k1.app n1).mono (Rho.le_ins (R.fresh _ (a1G _) hn4))),rfl,fun h=>absurd h (by omega),fun _=>by
        rw [a0R]at hlen;simp only [a0R,a0T];omega⟩
       have s1':(storeCells ⟨y.1,0+len*p.2.1,none⟩ nl).run P w= .ok () w':=s1;refine fin (vD (w':=w') A (hl w R) (hf w R) hroom (by simp only [mL,hsz];exact s1')) hRa.1 hRa.2 ?_ q17
       rw [wQ Rho.ins_self];simp
      ·exact grw rfl (by omega) k1 k2 (by simp only [Builtin.firstCells,hsz];exact k3 w.drew R.drew) hR3 q15
    ·cases e1
   ·cases g1;exact grw (olds:=[]) (oldsV:=[]) rfl (by omega) cells.nil (by simp) (by simp [Builtin.firstCells,Sem.run,Pure.pure]) R (by
     rw [jD,a1n,a1O];exact q6)
   ·cases q6
 ·cases q1
theorem s_clear {c:Call} (ho:o.op= .call c) (hc:c.callee= .builtin .clear) (he:bT ρ e n a.tmps) (R:Rel g ρ h nx w) (q:run (xG c P ex e kv kp kd) h nx lg=some r):OkV P o a w g ρ r kv:=by
 obtain⟨vs,h1,q1⟩:=kA q
 have hvs:=jJ he h1
 split at q1
 ·rename_i T ts v us hT;obtain⟨x,xs,g1,g2,g3⟩:=eA.1 hvs;have hargs:=argsL g3;have t0:c.argTypes[0]? =some T:=by rw [<- a0g,hT];rfl
  obtain⟨p,hp,q2⟩:=bN q1;obtain⟨i,zv,RT⟩:=aAF ρ hp;have hU:=SX.run_underlying RT.und w;have fin:∀ {h' nx' lg' w'},(Builtin.clear_ c.argTypes o.type (x :: xs).toArray).run P w= .ok (.tuple #[]) w'->Rel g ρ h' nx' w'->run (kv eI) h' nx' lg'=some r->OkV P o a w g ρ r kv:=
   fun {h' nx' lg' w'} hr k2 k4=>⟨eI, .tuple #[],ρ,h',nx',lg',w', .inl (yI ho hc fun _=>by rw [hargs];simp only [builtin];rw [a1W,hr];rfl),Rho.le_refl ρ,k2,rfl,k4⟩
  have main:∀ {b off len cap:Nat} {y:Nat × Nat},ρ b=some y->x= .slice (some ⟨y.1,off,none⟩) len cap->run (ife (Nat.beq len 0) (kv eI) (.wr b off (rep p.2.2 len) (kv eI))) h nx lg=some r->OkV P o a w g ρ r kv:=by
   intro b off len cap y hb hx q3;subst hx;rcases gU q3 with⟨h0,q4⟩ | ⟨h0,q4⟩
   ·have:=a1D h0;subst this;exact fin (by simp [Builtin.clear_,t0,a1W,hU,Sem.run,Pure.pure]) R q4
   ·obtain⟨k,rfl⟩:∃ k,len=k+1:=⟨len - 1,by cases len with | zero=>simp at h0 | succ k=>rfl⟩
    rw [aAc]at q4;obtain⟨_,h',n',l',e1,q5⟩:=dJ q4;have hz:=aBL (ρ:=ρ) RT.zc (k+1);obtain⟨y2,w',k1,k2,k3⟩:=aAC (P:=P) R e1 hz;rw [hb]at k1;cases k1
    have hzz:(madeCells zv.cells ((k+1)*p.2.2.length)).toList=(Builtin.zeroCells zv.cells (k+1)).toList:=by
     have:p.2.2.length=zv.cells.size:=by have:=RT.zc.len;rw [<- a0h];omega
     rw [this];rfl
    rw [hzz]at k2;have hzr:(zeroValue p.1).run P w= .ok zv w:=by simp [zeroValue,typeInfo,RT.info,RT.zero,program,a1W,Sem.run,Pure.pure]
    exact fin (by simp [Builtin.clear_,t0,a1W,hU,hzr,k2,Sem.run,Pure.pure]) k3 q5
  rcases sQ q2 with⟨b,off,len,cap,rfl,q3⟩ | ⟨b,off,len,es0,rfl,q3⟩ | ⟨rfl,q3⟩ | q3
  ·obtain⟨y,hb,hx⟩:=mK g1;exact main hb hx q3
  ·obtain⟨y,hb,hx⟩:=nW g1;exact main hb hx q3
  ·cases g1;exact fin (by simp [Builtin.clear_,t0,a1W,hU,Sem.run,Pure.pure]) R q3
  ·cases q3
 ·cases q1
end
end
open RowKit (Below)
noncomputable section
def peR (ρ:Rho) (p:PE) (q:PanicEntry):Prop:=tv ρ p.v=some q.v/\q.recovered=p.r/\q.goexit=false
def gG (ρ:Rho):List PE->List PanicEntry->Prop
 | [],[]=>True
 | p :: ps,q :: qs=>peR ρ p q/\gG ρ ps qs
 | _,_=>False
def dfR (ρ:Rho):Df->Deferred->Prop
 | .fn f args cap,d=>∃ xs ys,tvs ρ args=some xs/\tvs ρ cap=some ys/\d={ target:= .fn (.func f) ⟨ys⟩,args:=⟨xs⟩ }
 | .col r,d=>∃ x,ρ r=some x/\d={ target:= .collected x.1,args:=#[] }
def kQ (ρ:Rho):List Df->List Deferred->Prop
 | [],[]=>True
 | p :: ps,q :: qs=>dfR ρ p q/\kQ ρ ps qs
 | _,_=>False
def xR (ρ:Rho):X->Exit->Prop
 | .normal, .normal=>True
 | .exit i, .exit j=>i=j
 | .ret, .ret=>True
 | .panic ch, .panic ch'=>gG ρ ch ch'
 | _,_=>False
structure AcR (ρ:Rho) (c:Ac) (a:Act):Prop where
 env:bT ρ c.e c.n a.tmps
 ds:kQ ρ c.ds a.defers
def roR (ρ:Rho):Option Nat->Option Nat->Prop
 | none,none=>True
 | some l,some l'=>∃ x,ρ l=some x/\l'=x.1
 | _,_=>False
theorem gG.mono {ρ ρ':Rho} (h:ρ.le ρ'):∀ {p:List PE} {q:List PanicEntry},gG ρ p q->gG ρ' p q
 | [],[],_=>trivial
 | _ :: _,_ :: _,r=>⟨⟨mY h _ r.1.1,r.1.2⟩,gG.mono h r.2⟩
 | [],_ :: _,r=>r.elim
 | _ :: _,[],r=>r.elim
theorem dfR.mono {ρ ρ':Rho} (h:ρ.le ρ') {p:Df} {q:Deferred} (r:dfR ρ p q):dfR ρ' p q:=by
 cases p with
 | fn f a c=>obtain⟨x,y,h1,h2,h3⟩:=r;exact⟨x,y,pZ h _ h1,pZ h _ h2,h3⟩
 | col l=>obtain⟨x,h1,h2⟩:=r;exact⟨x,h _ _ h1,h2⟩
theorem kQ.mono {ρ ρ':Rho} (h:ρ.le ρ'):∀ {p:List Df} {q:List Deferred},kQ ρ p q->kQ ρ' p q
 | [],[],_=>trivial
 | _ :: _,_ :: _,r=>⟨r.1.mono h,kQ.mono h r.2⟩
 | [],_ :: _,r=>r.elim
 | _ :: _,[],r=>r.elim
theorem AcR.mono {ρ ρ':Rho} (h:ρ.le ρ') {c:Ac} {a:Act} (r:AcR ρ c a):AcR ρ' c a:=⟨r.env.mono h,r.ds.mono h⟩
theorem roR.mono {ρ ρ':Rho} (h:ρ.le ρ') {x y:Option Nat} (r:roR ρ x y):roR ρ' x y:=by
 cases x <;> cases y <;> first
  | exact r
  | (obtain⟨z,h1,h2⟩:=r;exact⟨z,h _ _ h1,h2⟩)
def KQ (g:G) (ρ:Rho) (ro:Option Nat) (k:KX) (r:O × S):Exit->Act->World->Prop:=fun ex a w=>
 ∃ x ac ρ' h nx lg,ρ.le ρ'/\xR ρ' x ex/\AcR ρ' ac a/\ac.ro=ro/\Rel g ρ' h nx w/\run (k x ac) h nx lg=some r
def CR (g:G) (ρ:Rho) (k:O->AL) (r:O × S):Ending->World->Prop
 | .returned v,w=>∃ u ρ' h nx lg,ρ.le ρ'/\Rel g ρ' h nx w/\tv ρ' u=some v/\run (k (.val u)) h nx lg=some r
 | .panicked ch',w=>∃ ch ρ' h nx lg,ρ.le ρ'/\Rel g ρ' h nx w/\gG ρ' ch ch'/\run (k (.panic ch)) h nx lg=some r
 | .outgrown,_=>False
def SimC (P:Program) (ex:Ex):Prop:=∀ (c:Code) (g:G) (ρ:Rho) (ac:Ac) (a:Act) (h:Tr Blk) (nx:Nat) (lg:List Fp) (w:World) (k:KX) (r:O × S) (rr:Option Nat),
 AcR ρ ac a->Rel g ρ h nx w->r.2.nx<=g.hi->roR ρ ac.ro rr->run (ex c ac k) h nx lg=some r->c.wpIn (SX.fw rr) 0 P (KQ g ρ ac.ro k r) a w
def SimA (P:Program) (ex:Ex):Prop:=∀ (f:Nat) (args:List V) (xs:List Value) (g:G) (ρ:Rho) (h:Tr Blk) (nx:Nat) (lg:List Fp) (w:World) (k:O->AL) (r:O × S),
 tvs ρ args=some xs->Rel g ρ h nx w->r.2.nx<=g.hi->run (uG P ex f args k) h nx lg=some r->SX.Ar P f/\CallsIn (SX.fw none) 0 P f ⟨xs⟩ w (CR g ρ k r)
def SimY (P:Program) (ex:Ex):Prop:=∀ (l:Nat) (args:List V) (xs:List Value) (g:G) (ρ:Rho) (h:Tr Blk) (nx:Nat) (lg:List Fp) (w:World) (k:O->AL) (r:O × S),
 tvs ρ args=some xs->Rel g ρ h nx w->r.2.nx<=g.hi->run (aB6 ex l args k) h nx lg=some r->∃ x f tmps sg bd,ρ l=some x/\(Instr.yield x.1 ⟨xs⟩).run P w= .ok (.round x.1 f tmps sg bd) w/\RoundIn (SX.fw none) 0 P x.1 f tmps sg bd w (CR g ρ k r)
theorem aEg {P:Program} {f:FuncId} {args:Array Value} {w:World} {R:Ending->World->Prop} {rr:Option Nat} (h:CallsIn (SX.fw none) 0 P f args w R):CallsIn (SX.fw rr) 0 P f args w R:=h
theorem aJE {P:Program} {l f:Nat} {t:Array Value} {sg bd:Code} {w:World} {R:Ending->World->Prop} {rr:Option Nat} (h:RoundIn (SX.fw none) 0 P l f t sg bd w R):RoundIn (SX.fw rr) 0 P l f t sg bd w R:=h
section
variable {P:Program} {o:Oper} {a:Act} {w:World} {g:G} {ρ:Rho} {r:O × S} {kv:KV} {kp:List PE->AL} {kd:Df->AL} {e:Tr V} {n:Nat} {h:Tr Blk} {nx:Nat} {lg:List Fp} {ex:Ex} {rr:Option Nat} {N:Act->World->Prop} {Q:Exit->Act->World->Prop}
theorem aAt (hnd:∀ c,o.op≠ .defer c) (rr:Option Nat):o.semAt rr a.eval=execOp a.eval o:=Oper.semAt_eq _ _ _ hnd
theorem wp_ok (hnd:∀ c,o.op≠ .defer c) (hk:OkV P o a w g ρ r kv) (hv:∀ v x ρ' h' nx' lg' w',ρ.le ρ'->Rel g ρ' h' nx' w'->tv ρ' v=some x->run (kv v) h' nx' lg'=some r->N (a.put o.dst x) w'):o.wpIn (SX.fw rr) 0 P a w N Q:=by
 obtain⟨v,x,ρ',h',nx',lg',w',h1,h2,h3,h4,h5⟩:=hk
 refine⟨fun _ _=>a2e,?_⟩
 rw [aAt hnd]
 rcases h1 with h1 | ⟨h1,rfl⟩
 ·rw [h1,Oper.uponIn_value];exact hv v x ρ' h' nx' lg' w' h2 h3 h4 h5
 ·rw [h1,Oper.uponIn_skip];exact hv v undef ρ' h' nx' lg' w' h2 h3 h4 h5
theorem meth_run {t f:Nat} {name:String} (z:Value) (hm:aAS P t name=some f) (k:Nat):(method (k+1) t z name).run P w= .ok (f,z) w:=by
 unfold aAS at hm
 split at hm
 ·rename_i i hi;have hi':=sC hi;split at hm
  ·rename_i m hmm;split at hm
   ·rename_i hpath;split at hm
    ·rename_i f' p hfunc;split at hm
     ·rename_i el hu;split at hm
      ·cases hm;simp [method,a1W,SX.run_typeInfo hi',hmm,hpath,follow,hfunc,receiverAt,SX.run_underlying (dM hu),Place.get,Sem.run,Pure.pure]
      ·cases hm
     ·rename_i d hne hu;split at hm
      ·cases hm
      ·cases hm;cases d <;> first
        | exact(hne _ rfl).elim
        | simp [method,a1W,SX.run_typeInfo hi',hmm,hpath,follow,hfunc,receiverAt,SX.run_underlying (dM hu),Place.get,Sem.run,Pure.pure]
     ·cases hm
    ·cases hm
   ·cases hm
  ·cases hm
 ·cases hm
theorem op_sim (SA:SimA P ex) (SY:SimY P ex) (he:bT ρ e n a.tmps) (R:Rel g ρ h nx w) (hi:r.2.nx<=g.hi) (q:run (opH o.op P ex e kv kp kd) h nx lg=some r)
 (hv:∀ v x ρ' h' nx' lg' w',ρ.le ρ'->Rel g ρ' h' nx' w'->tv ρ' v=some x->run (kv v) h' nx' lg'=some r->N (a.put o.dst x) w')
 (hp:∀ ch ch' ρ' h' nx' lg' w',ρ.le ρ'->Rel g ρ' h' nx' w'->gG ρ' ch ch'->run (kp ch) h' nx' lg'=some r->Q (.panic ch') a w')
 (hd:∀ d d' lg',dfR ρ d d'->run (kd d) h nx lg'=some r->rr=none/\N ({ a with defers:=d' :: a.defers }.put o.dst undef) w):o.wpIn (SX.fw rr) 0 P a w N Q:=by
 have ok:(∀ c,o.op≠ .defer c)->OkV P o a w g ρ r kv->o.wpIn (SX.fw rr) 0 P a w N Q:=fun hnd hk=>wp_ok hnd hk hv
 have call:∀ {f:Nat} {args:List V} {xs:List Value},(∀ c,o.op≠ .defer c)->(execOp a.eval o).run P w= .ok (.enter f ⟨xs⟩) w->CallsIn (SX.fw none) 0 P f ⟨xs⟩ w (CR g ρ (fun o=>oOut o kv kp) r)->o.wpIn (SX.fw rr) 0 P a w N Q:=by
  intro f args xs hnd hr hc;refine⟨fun _ _=>a2e,?_⟩
  rw [aAt hnd,hr,Oper.uponIn_enter];refine⟨(fun h=>by cases h),CallsIn.mono (aEg hc) fun e' w' he'=>?_⟩
  cases e' with
  | returned v=>obtain⟨u,ρ',h',nx',lg',k1,k2,k3,k4⟩:=he';exact hv u v ρ' h' nx' lg' w' k1 k2 k3 k4
  | panicked ch'=>obtain⟨ch,ρ',h',nx',lg',k1,k2,k3,k4⟩:=he';exact hp ch ch' ρ' h' nx' lg' w' k1 k2 k3 k4
  | outgrown=>exact he'.elim
 have nd:∀ {x:Op},o.op=x->(∀ c,x≠ .defer c)->∀ c,o.op≠ .defer c:=fun h1 h2 c=>by rw [h1];exact h2 c
 cases ho:o.op with
 | move x=>rw [ho]at q;exact ok (nd ho (by intro c h;cases h)) (s_move (ex:=ex) (kp:=kp) (kd:=kd) (.inl ho) he R q)
 | assign x=>rw [ho]at q;exact ok (nd ho (by intro c h;cases h)) (s_move (ex:=ex) (kp:=kp) (kd:=kd) (.inr ho) he R q)
 | pick _ _ _=>rw [ho]at q;exact ok (nd ho (by intro c h;cases h)) (s_pick (ex:=ex) (kp:=kp) (kd:=kd) ho he R q)
 | alloc _=>rw [ho]at q;exact ok (nd ho (by intro c h;cases h)) (s_alloc (e:=e) (ex:=ex) (kp:=kp) (kd:=kd) ho hi R q)
 | box _ _=>rw [ho]at q;exact ok (nd ho (by intro c h;cases h)) (s_box (ex:=ex) (kp:=kp) (kd:=kd) ho he hi R q)
 | build _ _=>rw [ho]at q;exact ok (nd ho (by intro c h;cases h)) (s_build (ex:=ex) (kp:=kp) (kd:=kd) ho he R q)
 | buildSlice _ _ _=>rw [ho]at q;exact ok (nd ho (by intro c h;cases h)) (s_buildS (ex:=ex) (kp:=kp) (kd:=kd) ho he hi R q)
 | insert _ _ _ _=>rw [ho]at q;exact ok (nd ho (by intro c h;cases h)) (s_upd (ex:=ex) (kp:=kp) (kd:=kd) (.inr ho) he R q)
 | load _ _=>rw [ho]at q;exact ok (nd ho (by intro c h;cases h)) (s_load (ex:=ex) (kp:=kp) (kd:=kd) ho he R q)
 | store _ _ _=>rw [ho]at q;exact ok (nd ho (by intro c h;cases h)) (s_store (ex:=ex) (kp:=kp) (kd:=kd) ho he R q)
 | ready _=>rw [ho]at q;cases q
 | waits _=>rw [ho]at q;cases q
 | nilCheck _=>rw [ho]at q;exact ok (nd ho (by intro c h;cases h)) (s_nil (ex:=ex) (kp:=kp) (kd:=kd) ho he R q)
 | binOp _ _ _ _ _=>rw [ho]at q;exact ok (nd ho (by intro c h;cases h)) (s_bin (ex:=ex) (kp:=kp) (kd:=kd) ho he R q)
 | unOp _ _ _=>rw [ho]at q;exact ok (nd ho (by intro c h;cases h)) (s_un (ex:=ex) (kp:=kp) (kd:=kd) ho he R q)
 | convert _ _ _=>rw [ho]at q;exact ok (nd ho (by intro c h;cases h)) (s_conv (ex:=ex) (kp:=kp) (kd:=kd) ho he R q)
 | sliceToArrayPointer _ _=>rw [ho]at q;cases q
 | makeInterface _ _=>rw [ho]at q;exact ok (nd ho (by intro c h;cases h)) (s_mkI (ex:=ex) (kp:=kp) (kd:=kd) ho he R q)
 | makeFunc _ _ _=>rw [ho]at q;exact ok (nd ho (by intro c h;cases h)) (s_mkF (ex:=ex) (kp:=kp) (kd:=kd) ho he R q)
 | makeMap _ _=>rw [ho]at q;exact ok (nd ho (by intro c h;cases h)) (s_mapN (e:=e) (ex:=ex) (kp:=kp) (kd:=kd) ho hi R q)
 | makeChan _ _=>rw [ho]at q;cases q
 | makeSlice _ _ _=>rw [ho]at q;exact ok (nd ho (by intro c h;cases h)) (s_mks (ex:=ex) (kp:=kp) (kd:=kd) ho he hi R q)
 | slice _ _ _ _ _=>rw [ho]at q;exact ok (nd ho (by intro c h;cases h)) (s_slice (ex:=ex) (kp:=kp) (kd:=kd) ho he R q)
 | fieldAddr _ _ _=>rw [ho]at q;exact ok (nd ho (by intro c h;cases h)) (s_fieldA (ex:=ex) (kp:=kp) (kd:=kd) ho he R q)
 | field _ _ _=>rw [ho]at q;exact ok (nd ho (by intro c h;cases h)) (s_field (ex:=ex) (kp:=kp) (kd:=kd) ho he R q)
 | indexAddr _ _ _=>rw [ho]at q;exact ok (nd ho (by intro c h;cases h)) (s_idxA (ex:=ex) (kp:=kp) (kd:=kd) ho he R q)
 | index _ _ _=>rw [ho]at q;exact ok (nd ho (by intro c h;cases h)) (s_idx (ex:=ex) (kp:=kp) (kd:=kd) ho he R q)
 | lookup _ _ _ _=>rw [ho]at q;exact ok (nd ho (by intro c h;cases h)) (s_look (ex:=ex) (kp:=kp) (kd:=kd) ho he R q)
 | mapUpdate _ _ _ _=>rw [ho]at q;exact ok (nd ho (by intro c h;cases h)) (s_upd (ex:=ex) (kp:=kp) (kd:=kd) (.inl ho) he R q)
 | mapEntry _ _ _=>rw [ho]at q;cases q
 | entryStore _ _ _ _=>rw [ho]at q;cases q
 | range _ _=>rw [ho]at q;cases q
 | next _ _=>rw [ho]at q;cases q
 | entry _=>rw [ho]at q;cases q
 | typeAssert _ _ _ _=>rw [ho]at q;exact ok (nd ho (by intro c h;cases h)) (s_ta (ex:=ex) (kp:=kp) (kd:=kd) ho he R q)
 | extract _ _=>rw [ho]at q;exact ok (nd ho (by intro c h;cases h)) (s_ext (ex:=ex) (kp:=kp) (kd:=kd) ho he R q)
 | call c=>
  rw [ho]at q;have hnd:∀ c',o.op≠ .defer c':=nd ho (by intro c h;cases h)
  have q0:run (hCal c.callee c P ex e kv kp kd) h nx lg=some r:=q;cases hc:c.callee with
  | builtin b=>
   rw [hc]at q0;cases b with
   | append=>exact ok hnd (s_append (ex:=ex) (kp:=kp) (kd:=kd) ho hc he hi R q0)
   | len=>exact ok hnd (s_len (ex:=ex) (kp:=kp) (kd:=kd) ho hc he R q0)
   | min=>exact ok hnd (s_mm (least:=true) (ex:=ex) (kp:=kp) (kd:=kd) ho hc he R q0)
   | max=>exact ok hnd (s_mm (least:=false) (ex:=ex) (kp:=kp) (kd:=kd) ho hc he R q0)
   | clear=>exact ok hnd (s_clear (ex:=ex) (kp:=kp) (kd:=kd) ho hc he R q0)
   | _=>cases q0
  | value f=>
   rw [hc]at q0;obtain⟨fv,h1,q1⟩:=fT q0;obtain⟨args,h2,q2⟩:=kA q1;have hfv:=cR he h1;have hargs:=jJ he h2;have hres:∀ {t:Target} {az9:Array Value},Deferred.ofValue (a.eval f) (c.args.map a.eval)=Sem.pure { target:=t,args:=az9 }->∀ {y:Result Next},(invoke t az9).run P w=y->(execOp a.eval o).run P w=y:=by
    intro t az9 h3 y h4;have:execOp a.eval o=invoke t az9:=by
     unfold execOp;rw [ho];show((resolve a.eval c o.type).bind fun d=>invoke d.target d.args)=_
     have h5:resolve a.eval c o.type=Sem.pure { target:=t,args:=az9 }:=by
      unfold resolve;rw [hc];exact h3
     rw [h5];rfl
    rw [this];exact h4
   rcases aDF q2 with⟨gf,first,cap,rfl,q3⟩ | ⟨l,rfl,q3⟩
   ·simp only [tv]at hfv;cases hf1:tvs ρ first with
    | none=>rw [hf1]at hfv;cases hfv
    | some xs=>
     rw [hf1]at hfv;simp only at hfv
     cases hf2:tvs ρ cap with
     | none=>rw [hf2]at hfv;cases hfv
     | some ys=>
      rw [hf2]at hfv;have hX:a.eval f= .func (.func gf) ⟨xs⟩ ⟨ys⟩:=(a1T hfv).symm;rw [jD,jD]at q3;have hall:tvs ρ (first++(args++cap))=some (xs++(c.args.toList.map a.eval++ys)):=lJ.2 ⟨_,_,hf1,lJ.2 ⟨_,_,hargs,hf2,rfl⟩,rfl⟩;obtain⟨hcall,hC⟩:=SA gf _ _ g ρ h nx lg w _ r hall R hi q3;refine call (args:=first++(args++cap)) hnd (hres (t:= .fn (.func gf) ⟨ys⟩) (az9:=⟨xs⟩++c.args.map a.eval) (by rw [hX];rfl) ?_) hC
      have e1:(⟨xs⟩++c.args.map a.eval++⟨ys⟩:Array Value)=⟨xs++(c.args.toList.map a.eval++ys)⟩:=by apply Array.ext';simp
      simp only [invoke];rw [e1];exact SX.run_callFunc hcall _ w
   ·simp only [tv,a1R]at hfv;obtain⟨x,hx,hX⟩:=hfv;obtain⟨x',f',tmps,sg,bd,k1,k2,k3⟩:=SY l args _ g ρ h nx lg w _ r hargs R hi q3;rw [hx]at k1;cases k1
    refine⟨fun _ _=>a2e,?_⟩
    have e1:(⟨c.args.toList.map a.eval⟩:Array Value)=c.args.map a.eval:=by apply Array.ext';simp
    rw [e1]at k2;rw [aAt hnd,hres (t:= .fn (.yield x.1) #[]) (az9:=#[]++c.args.map a.eval) (by rw [<- hX];rfl) (by simp only [invoke,Array.empty_append];exact k2),Oper.uponIn_round];refine⟨(fun h=>by cases h),RoundIn.mono (aJE k3) fun e' w' he'=>?_⟩
    cases e' with
    | returned v=>obtain⟨u,ρ',h',nx',lg',k1,k2,k3,k4⟩:=he';exact hv u v ρ' h' nx' lg' w' k1 k2 k3 k4
    | panicked ch'=>obtain⟨ch,ρ',h',nx',lg',k1,k2,k3,k4⟩:=he';exact hp ch ch' ρ' h' nx' lg' w' k1 k2 k3 k4
    | outgrown=>exact he'.elim
  | invoke x name=>
   rw [hc]at q0;obtain⟨v,h1,q1⟩:=fT q0;obtain⟨args,h2,q2⟩:=kA q1;have hxv:=cR he h1;have hargs:=jJ he h2;rcases aDy q2 with⟨t,u,rfl,q3⟩ | ⟨_,q3⟩
   ·obtain⟨f,hm,q4⟩:=bN (o:=aAS P t name) q3;simp only [tv]at hxv;cases hu:tv ρ u with
    | none=>rw [hu]at hxv;cases hxv
    | some z=>
     rw [hu]at hxv;have hX:a.eval x= .iface t z:=(a1T hxv).symm;have hall:tvs ρ (u :: args)=some (z :: c.args.toList.map a.eval):=eA.2 ⟨_,_,hu,hargs,rfl⟩;obtain⟨hcall,hC⟩:=SA f _ _ g ρ h nx lg w _ r hall R hi q4;refine call (args:=u :: args) hnd ?_ hC;have e1:(#[z]++c.args.map a.eval:Array Value)=⟨z :: c.args.toList.map a.eval⟩:=by apply Array.ext';simp
     have e2:execOp a.eval o=invoke (.fn (.method name) #[]) (#[a.eval x]++c.args.map a.eval):=by
      unfold execOp;rw [ho];show((resolve a.eval c o.type).bind fun d=>invoke d.target d.args)=_
      have h5:resolve a.eval c o.type=Sem.pure { target:= .fn (.method name) #[],args:=#[a.eval x]++c.args.map a.eval }:=by
       unfold resolve;rw [hc];rfl
      rw [h5];rfl
     rw [e2,hX];have hmr:(method (P.types.size+Made.depth) t z name).run P w= .ok (f,z) w:=meth_run (w:=w) z hm (P.types.size+99);have h0:(#[Value.iface t z]++c.args.map a.eval)[0]? =some (.iface t z):=by rw [a0c (by simp)];rfl
     have h9:(#[Value.iface t z]++c.args.map a.eval).extract 1 (#[Value.iface t z]++c.args.map a.eval).size=c.args.map a.eval:=by
      apply Array.ext';rw [Array.toList_extract];simp [List.extract_eq_take_drop];exact a1x (by simp)
     have hcm:(callMethod (.iface t z) name (c.args.map a.eval)).run P w= .ok (.enter f (#[z]++c.args.map a.eval)) w:=by
      have hprog:(program:Sem Program).run P w= .ok P w:=rfl;unfold callMethod;simp only [a1W,hprog,a1V,hmr];exact SX.run_callFunc hcall _ w
     rw [<- e1];simp only [invoke,h0,h9];exact hcm
   ·cases q3
 | go _=>rw [ho]at q;cases q
 | defer c=>
  rw [ho]at q;obtain⟨f,hf,q1⟩:=bN (o:=valOf c.callee) q;have hc:c.callee= .value f:=by
   cases hcc:c.callee <;> rw [hcc]at hf <;> cases hf
   rfl
  obtain⟨fv,h1,q2⟩:=fT q1;obtain⟨args,h2,q3⟩:=kA q2;have hfv:=cR he h1;have hargs:=jJ he h2;rcases aDF q3 with⟨gf,first,cap,rfl,q4⟩ | ⟨l,rfl,q4⟩
  ·simp only [tv]at hfv;cases hf1:tvs ρ first with
   | none=>rw [hf1]at hfv;cases hfv
   | some xs=>
    rw [hf1]at hfv;simp only at hfv
    cases hf2:tvs ρ cap with
    | none=>rw [hf2]at hfv;cases hfv
    | some ys=>
     rw [hf2]at hfv;have hX:a.eval f= .func (.func gf) ⟨xs⟩ ⟨ys⟩:=(a1T hfv).symm;rw [jD]at q4;obtain⟨rfl,hN⟩:=hd (.fn gf (first++args) cap) { target:= .fn (.func gf) ⟨ys⟩,args:=⟨xs++c.args.toList.map a.eval⟩ } lg ⟨_,_,lJ.2 ⟨_,_,hf1,hargs,rfl⟩,hf2,rfl⟩ q4;refine⟨fun _ _=>a2e,?_⟩
     have e1:(⟨xs⟩++c.args.map a.eval:Array Value)=⟨xs++c.args.toList.map a.eval⟩:=by apply Array.ext';simp
     have e2:execOp a.eval o=Sem.pure (.defer { target:= .fn (.func gf) ⟨ys⟩,args:=⟨xs++c.args.toList.map a.eval⟩ }):=by
      unfold execOp;rw [ho];show((resolve a.eval c o.type).bind fun d=>Sem.pure (Next.defer d))=_
      have h5:resolve a.eval c o.type=Sem.pure { target:= .fn (.func gf) ⟨ys⟩,args:=⟨xs⟩++c.args.map a.eval }:=by
       unfold resolve;rw [hc];show Deferred.ofValue (a.eval f) _=_;rw [hX];rfl
      rw [h5,e1];rfl
     show o.uponIn _ _ _ _ _ _ ((o.semAt none a.eval).run P w)
     rw [Oper.semAt_none,e2];exact hN
  ·cases q4
 | panic x=>
  rw [ho]at q;have hnd:∀ c',o.op≠ .defer c':=nd ho (by intro c h;cases h)
  obtain⟨v,h1,q1⟩:=fT q;have hxv:=cR he h1;rcases aDy q1 with⟨t,u,rfl,q3⟩ | ⟨_,q3⟩
  ·have hxv':=hxv;simp only [tv]at hxv;cases hu:tv ρ u with
   | none=>rw [hu]at hxv;cases hxv
   | some z=>
    rw [hu]at hxv;have hX:a.eval x= .iface t z:=(a1T hxv).symm;refine⟨fun _ _=>a2e,?_⟩
    rw [aAt hnd];have hr:(execOp a.eval o).run P w= .halt (.panic (.iface t z)) w:=by simp [execOp,ho,hX,Instr.panic,goPanic,a1W,Sem.run]
    rw [hr,Oper.uponIn_panic];exact hp [⟨.iface t u,false⟩] _ ρ h nx lg w (Rho.le_refl ρ) R ⟨⟨by rw [<- hX];exact hxv',rfl,rfl⟩,trivial⟩ q3
  ·cases q3
 | send _ _=>rw [ho]at q;cases q
 | recv _ _ _=>rw [ho]at q;cases q
 | select _ _=>rw [ho]at q;cases q
end
end
open RowKit (Below)
noncomputable section
section
variable {P:Program} {a:Act} {w:World} {g:G} {ρ:Rho} {r:O × S} {e:Tr V} {n:Nat} {h:Tr Blk} {nx:Nat} {lg:List Fp} {ex:Ex} {rr:Option Nat}
theorem bod_eq {f:Nat} {q:Func × Code} (hq:bod P f=some q):P.funcs[f]? =some q.1/\q.1.body=some q.2/\SX.Ar P f:=by
 unfold bod at hq
 split at hq
 ·cases hq
 ·rename_i fn hf;have hf':P.funcs[f]? =some fn:=by
   have e:at_ (tX P.funcs.toList 0 .leaf fun t=>t) f=some fn:=hf
   rw [aCm]at e;split at e
   ·simpa using e
   ·rw [xZ]at e;cases e
  split at hq
  ·cases hq
  ·rename_i c hb;split at hq
   ·cases hq
   ·rename_i hn;cases hq;refine⟨hf',hb,?_⟩;unfold SX.Ar SX.callB;rw [hf'];simp only [hb,Option.isSome_some,Bool.and_true];simpa [bne] using hn
theorem aF7:∀ (l:List V) (i:Nat) (e0:Tr V) {k:Tr V->AL},run (aCQ l i e0 k) h nx lg=some r->∃ e1,run (k e1) h nx lg=some r/\∀ t,at_ e1 t=if i<=t/\t<i+l.length then l[t - i]? else at_ e0 t
 | [],i,e0,k,q=>⟨e0,q,fun t=>by rw [a2c (by simp)]⟩
 | v :: l,i,e0,k,q=>by
  have q':run (pp e0 (some v) (pa i) fun e=>aCQ l (i+1) e k) h nx lg=some r:=q
  rw [mX]at q';obtain⟨e1,q1,h1⟩:=aF7 l (i+1) _ q';refine⟨e1,q1,fun t=>?_⟩
  rw [h1 t];by_cases h2:i+1<=t/\t<i+1+l.length
  ·rw [a2d h2,a2d (by simp;omega),show t - i=(t - (i+1))+1 from by omega,a0F]
  ·rw [a2c h2,fQ];by_cases h3:t=i
   ·subst h3;rw [a2d rfl,a2d (by simp)];simp
   ·rw [a2c h3,a2c (by simp;omega)]
theorem aFz {fn:Func} {args:List V} {xs:List Value} {k:Ac->AL} (hx:tvs ρ args=some xs) (q:run (aDG fn args k) h nx lg=some r):
 ∃ ac,run (k ac) h nx lg=some r/\ac.ro=none/\AcR ρ ac { tmps:=(⟨xs⟩:Array Value)++Array.replicate (fn.ntmps - (⟨xs⟩:Array Value).size) undef,defers:=[] }/\ac.n=fn.ntmps:=by
 obtain⟨hb,q1⟩:=dG q
 rw [ln0]at hb
 have hb:args.length<=fn.ntmps:=a1F hb
 obtain⟨e1,q2,h1⟩:=aF7 args 0 .leaf q1
 have hl:=uH hx
 refine⟨_,q2,rfl,⟨⟨by simp;omega,fun t v ht=>?_⟩,trivial⟩,rfl⟩
 rw [h1 t]at ht
 split at ht
 ·rw [Nat.sub_zero]at ht;obtain⟨x,k1,k2⟩:=aBF hx ht;refine⟨x,?_,k2⟩;have hlt:=(a0K.1 k1).1;rw [a0c (by simpa using hlt)];simpa using k1
 ·rw [xZ]at ht;cases ht
theorem res1_run {rv:ResultVar} {t:Array Value} {k:V->AL} (he:bT ρ e n t) (R:Rel g ρ h nx w) (q:run (res1 P e rv k) h nx lg=some r):
 ∃ v x lg',(match rv with
  | .tmp i=>(Pure.pure (t.getD i undef):Sem Value)
  | .cell i T=>do loadVar T (<- Go.asAddr (t.getD i undef))).run P w= .ok x w/\tv ρ v=some x/\run (k v) h nx lg'=some r:=by
 cases rv with
 | tmp i=>
  obtain⟨v,hv,q1⟩:=bN (o:=gp e (pa i)) q;obtain⟨x,h1,h2⟩:=he.get i v hv;exact⟨v,x,lg,by simp [a0b,h1,Sem.run,Pure.pure],h2,q1⟩
 | cell i T=>
  obtain⟨v,hv,q1⟩:=bN (o:=gp e (pa i)) q;obtain⟨s,hs,q2⟩:=bN q1;obtain⟨b,off,rfl,q3⟩:=wF q2;obtain⟨x,h1,h2⟩:=he.get i _ hv;obtain⟨y,hb,rfl⟩:=lA h2;obtain⟨u,z,lg',h3,h4,q4⟩:=aFq R hs hb q3;exact⟨u,z,lg',by simp [a0b,h1,Go.asAddr,a1W,h3,Sem.run,Pure.pure],h4,q4⟩
theorem aG1 {t:Array Value} (he:bT ρ e n t) (R:Rel g ρ h nx w):∀ (rs:List ResultVar) {k:List V->AL} {lg:List Fp},run (resA P e rs k) h nx lg=some r ->
 ∃ vs xs lg',(rs.mapM (m:=Sem) fun
  | .tmp i=>Pure.pure (t.getD i undef)
  | .cell i T=>do loadVar T (<- Go.asAddr (t.getD i undef))).run P w= .ok xs w/\tvs ρ vs=some xs/\run (k vs) h nx lg'=some r
 | [],k,lg,q=>⟨[],[],lg,by simp [Sem.run,Pure.pure],rfl,q⟩
 | rv :: rs,k,lg,q=>by
  obtain⟨v,x,lg1,h1,h2,q1⟩:=res1_run (k:=fun v=>resA P e rs fun vs=>k (v :: vs)) he R q
  obtain⟨vs,xs,lg2,h3,h4,q2⟩:=aG1 he R rs q1;refine⟨v :: vs,x :: xs,lg2,?_,eA.2 ⟨x,xs,h2,h4,rfl⟩,q2⟩;simp only [List.mapM_cons,a1W];rw [h1];simp only [a1V];rw [h3];rfl
theorem oneOf_tv {vs:List V} {xs:List Value} (h:tvs ρ vs=some xs):tv ρ (pQ vs)=some (if h:xs.toArray.size=1 then xs.toArray[0] else .tuple xs.toArray):=by
 have hl:=uH h
 match vs,xs with
 | [],[]=>simp [pQ,tv,tvs]
 | [v],[x]=>
  obtain⟨y,ys,h1,_,h2⟩:=eA.1 h;cases h2;simp [pQ,h1]
 | v :: u :: vs,x :: y :: xs=>
  have:pQ (v :: u :: vs)= .tup (v :: u :: vs):=rfl;rw [this,dif_neg (by simp)];simp only [tv,h]
 | [],_ :: _=>simp at hl
 | _ :: _,[]=>simp at hl
 | [_],_ :: _ :: _=>simp at hl
 | _ :: _ :: _,[_]=>simp at hl
theorem aJA {fn:Func} {t:Array Value} {k:List V->AL} (he:bT ρ e n t) (R:Rel g ρ h nx w) (q:run (resA P e fn.results.toList k) h nx lg=some r):
 ∃ vs x lg',(results fn t).run P w= .ok x w/\tv ρ (pQ vs)=some x/\run (k vs) h nx lg'=some r:=by
 obtain⟨vs,xs,lg',h1,h2,q1⟩:=aG1 he R fn.results.toList q
 refine⟨vs,_,lg',?_,oneOf_tv h2,q1⟩
 unfold results
 have hm:(fn.results.mapM (m:=Sem) fun
  | .tmp i=>Pure.pure (t.getD i undef)
  | .cell i T=>do loadVar T (<- Go.asAddr (t.getD i undef))).run P w= .ok xs.toArray w:=by
  rw [<- a0i (xs:=fn.results),List.mapM_toArray,map_eq_pure_bind,a1W];rw [h1];simp [Sem.run,Pure.pure]
 rw [a1W]
 exact Eq.trans (congrArg (fun z=>Result.andThen z fun (vs:Array Value) w'=>Sem.run P (Pure.pure (if h:vs.size=1 then vs[0] else .tuple vs)) w') hm) rfl
def fmR (ρ:Rho):FM->FrameMode->Prop
 | .ret, .returning=>True
 | .pan ch, .panicking ch'=>gG ρ ch ch'
 | _,_=>False
theorem fmR.mono {ρ ρ':Rho} (hl:ρ.le ρ') {u:FM} {u':FrameMode} (r:fmR ρ u u'):fmR ρ' u u':=by
 cases u <;> cases u' <;> first
  | exact r
  | exact gG.mono hl r
theorem aEu {ρ:Rho}:∀ {a b:List PE} {c d:List PanicEntry},gG ρ a c->gG ρ b d->gG ρ (a++b) (c++d)
 | [],_,[],_,_,h=>h
 | _ :: _,_,_ :: _,_,h1,h2=>⟨h1.1,aEu h1.2 h2⟩
 | [],_,_ :: _,_,h,_=>h.elim
 | _ :: _,_,[],_,h,_=>h.elim
theorem aEv {ρ:Rho}:∀ {a:List PE} {c:List PanicEntry},gG ρ a c->c.dropWhile (fun p=>!p.goexit)=[]
 | [],[],_=>rfl
 | _ :: _,q :: qs,h=>by
  rw [List.dropWhile_cons];simp only [h.1.2.2,a0n,if_true];exact aEv h.2
 | [],_ :: _,h=>h.elim
 | _ :: _,[],h=>h.elim
theorem aHb {u:FM} {u':FrameMode} (hu:fmR ρ u u'):fmR ρ (wT u) (settle u'):=by
 cases u with
 | ret=>cases u' <;> first | exact hu | exact hu.elim
 | pan ch=>
  cases u' with
  | returning=>exact hu.elim
  | run=>exact hu.elim
  | panicking ch'=>
   match ch,ch',hu with
   | [],[],_=>exact trivial
   | ⟨v,true⟩ :: ps,q :: qs,hu=>
    obtain⟨qv,qr,qg⟩:=q;have h1:qr=true:=hu.1.2.1;subst h1;have:=aEv hu.2;simp only [wT,settle,this];trivial
   | ⟨v,false⟩ :: ps,q :: qs,hu=>
    obtain⟨qv,qr,qg⟩:=q;have h1:qr=false:=hu.1.2.1;subst h1;exact hu
theorem aHw {u:FM} {u':FrameMode} {ch:List PE} {ch':List PanicEntry} (hu:fmR ρ u u') (hc:gG ρ ch ch'):fmR ρ (aCF u ch) (raised u' ch'):=by
 cases u with
 | ret=>cases u' <;> first | exact hc | exact hu.elim
 | pan old=>
  cases u' <;> first
   | exact hu.elim
   | (show gG ρ (ap ch old) _;rw [jD];exact aEu hc hu)
theorem fmR_run {u:FM} {u':FrameMode} (hu:fmR ρ u u'):u'≠ .run:=fun e=>by subst e;cases u <;> exact hu.elim
end
end
end Go.BX
