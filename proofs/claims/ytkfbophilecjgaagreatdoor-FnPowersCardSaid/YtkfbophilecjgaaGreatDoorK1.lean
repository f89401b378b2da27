/- Part 1: the abstract machine, its soundness, contracts of functions. -/
import Derived.Orders
import Derived.Laws.IdiomCopy
import Derived.Laws.Entries
import Derived.Laws.MakeOwn
set_option linter.unusedVariables false
set_option linter.unusedSimpArgs false
namespace Go.V
def globT:List (Nat×List Value):=[(4,[.int .u8 0,.int .u8 1,.int .u8 28,.int .u8 2,.int .u8 29,.int .u8 14,.int .u8 24,.int .u8 3,.int .u8 30,.int .u8 22,.int .u8 20,.int .u8 15,.int .u8 25,.int .u8 17,.int .u8 4,.int .u8 8,.int .u8 31,.int .u8 27,.int .u8 13,.int .u8 23,.int .u8 21,.int .u8 19,.int .u8 16,.int .u8 7,.int .u8 26,.int .u8 12,.int .u8 18,.int .u8 6,.int .u8 11,.int .u8 5,.int .u8 10,.int .u8 9]),
 (5,[.int .u8 0,.int .u8 1,.int .u8 56,.int .u8 2,.int .u8 57,.int .u8 49,.int .u8 28,.int .u8 3,.int .u8 61,.int .u8 58,.int .u8 42,.int .u8 50,.int .u8 38,.int .u8 29,.int .u8 17,.int .u8 4,.int .u8 62,.int .u8 47,.int .u8 59,.int .u8 36,.int .u8 45,.int .u8 43,.int .u8 51,.int .u8 22,.int .u8 53,.int .u8 39,.int .u8 33,.int .u8 30,.int .u8 24,.int .u8 18,.int .u8 12,.int .u8 5,.int .u8 63,.int .u8 55,.int .u8 48,.int .u8 27,.int .u8 60,.int .u8 41,.int .u8 37,.int .u8 16,.int .u8 46,.int .u8 35,.int .u8 44,.int .u8 21,.int .u8 52,.int .u8 32,.int .u8 23,.int .u8 11,.int .u8 54,.int .u8 26,.int .u8 40,.int .u8 15,.int .u8 34,.int .u8 20,.int .u8 31,.int .u8 10,.int .u8 25,.int .u8 14,.int .u8 19,.int .u8 9,.int .u8 13,.int .u8 8,.int .u8 7,.int .u8 6]),
 (1,[.int .u64 1,.int .u64 10,.int .u64 100,.int .u64 1000,.int .u64 10000,.int .u64 100000,.int .u64 1000000,.int .u64 10000000,.int .u64 100000000,.int .u64 1000000000,.int .u64 10000000000,.int .u64 100000000000,.int .u64 1000000000000,.int .u64 10000000000000,.int .u64 100000000000000,.int .u64 1000000000000000,.int .u64 10000000000000000,.int .u64 100000000000000000,.int .u64 1000000000000000000,.int .u64 10000000000000000000])]
end Go.V
namespace Go.V
theorem gD {α:Type _} {l:List α} {i:Nat} {a:α}:l.getD i a=(l[i]?).getD a:=List.getD_eq_getElem?_getD
inductive C where
 | s (x:Value)
 | sl (rows:List (List C))
 | ptr (cells:List C)
 | fn (f:FuncId) (caps:List C)
 | ifc
 deriving Inhabited
inductive AV where
 | j
 | d (c:C)
 | ag (cs:List AV)
 | tup (cs:List AV)
 | lp (id off:Nat)
 | pe (id i f sz:Nat)
 | ap (id n sz:Nat)
 | ls (id lo len sz:Nat)
 | ep (rows:List (List C)) (i f sz:Nat)
 | pp (cells:List C) (off:Nat)
 | ms (id r lo len sz:Nat)
 | me (id r i f sz:Nat)
 deriving Inhabited
inductive MC where
 | d (c:C)
 | r (i lo n:Nat)
 deriving Inhabited
inductive Ob where
 | no
 | box (w:Bool) (cells:List AV)
 | row (w:Bool) (sz:Nat) (rows:List (List C))
 | mat (sz:Nat) (ix:List MC) (rows:List (List (List C)))
 deriving Inhabited
abbrev TL:=List (Nat×AV)
abbrev LL:=List (Nat×Ob)
def get (i:Nat):TL→AV
 | []=>.j
 | (k,x) :: r=>bif Nat.beq i k then x else get i r
def lget (i:Nat):LL→Ob
 | []=>.no
 | (k,x) :: r=>bif Nat.beq i k then x else lget i r
def lset (i:Nat) (o:Ob):LL→LL
 | []=>[]
 | (k,x) :: r=>bif Nat.beq i k then (k,o) :: r else (k,x) :: lset i o r
def push (d:Option Nat) (x:AV) (t:TL):TL :=
 match d with
 | some i=>(i,x) :: t
 | none=>t
mutual
def AV.ment (id:Nat):AV→Bool
 | .lp k _=>Nat.beq k id
 | .pe k _ _ _=>Nat.beq k id
 | .ap k _ _=>Nat.beq k id
 | .ls k _ _ _=>Nat.beq k id
 | .ms k _ _ _ _=>Nat.beq k id
 | .me k _ _ _ _=>Nat.beq k id
 | .ag cs=>AV.ments id cs
 | .tup cs=>AV.ments id cs
 | _=>false
def AV.ments (id:Nat):List AV→Bool
 | []=>false
 | x :: r=>AV.ment id x || AV.ments id r
end
def tment (id:Nat):TL→Bool
 | []=>false
 | (_,x) :: r=>AV.ment id x || tment id r
def lment (id:Nat):LL→Bool
 | []=>false
 | (k,.box _ cs) :: r=>Nat.beq k id || AV.ments id cs || lment id r
 | (k,_) :: r=>Nat.beq k id || lment id r
structure Ty where
 size:Nat
 agg:Bool
 zero:List Value
 fields:List (Nat×Nat×Bool)
 esize:Nat
 ebytes:Nat
 ezero:List Value
 kind:Option IntKind
 sh:Nat
 deriving Inhabited
def Ty.none:Ty:=⟨0,false,[],[],0,0,[],Option.none,99⟩
def isAggD:TypeDesc→Bool
 | .struct _ | .array _ _=>true
 | _=>false
def zeroOf:Option Value→List Value
 | some v=>v.cells.toList
 | Option.none=>[]
def fieldOf (P:Program) (f:Field):Nat×Nat×Bool :=
 match P.info? f.type,P.underlying f.type with
 | some fi,some fu=>(f.offset,fi.size,isAggD fu)
 | _,_=>(0,0,false)
def u8f (P:Program) (e:TypeId):List (Nat×Nat×Bool) :=
 match P.underlying e with
 | some (.int .u8)=>[(8,8,true)]
 | _=>[]
def tyOf (P:Program) (t:TypeId):Ty :=
 match P.info? t,P.underlying t with
 | some i,some u =>
  match u with
  | .struct fs=>⟨i.size,true,zeroOf i.zero,fs.toList.map (fieldOf P),0,0,[],Option.none,5⟩
  | .array n e=>match P.info? e with
   | some ei=>⟨i.size,true,zeroOf i.zero,[],ei.size,n,zeroOf ei.zero,Option.none,6⟩
   | Option.none=>Ty.none
  | .slice e=>match P.info? e with
   | some ei=>⟨i.size,false,zeroOf i.zero,u8f P e,ei.size,ei.bytes,zeroOf ei.zero,Option.none,4⟩
   | Option.none=>Ty.none
  | .int k=>⟨i.size,false,zeroOf i.zero,[],0,0,[],some k,2⟩
  | .bool=>⟨i.size,false,zeroOf i.zero,[],0,0,[],Option.none,1⟩
  | .string=>⟨i.size,false,zeroOf i.zero,[],0,0,[],Option.none,3⟩
  | .pointer _=>⟨i.size,false,zeroOf i.zero,[],0,0,[],Option.none,7⟩
  | .func _ _ _=>⟨i.size,false,zeroOf i.zero,[],0,0,[],Option.none,8⟩
  | .interface _=>⟨i.size,false,zeroOf i.zero,[],0,0,[],Option.none,9⟩
  | _=>Ty.none
 | _,_=>Ty.none
structure Chk (p:Prop) (K:Prop):Prop where
 l:p
 r:K
def Br (c:Bool) (A B:Prop):Prop :=
 match c with
 | true=>A
 | false=>B
theorem Br.t {c:Bool} {A B:Prop} (h:Br c A B) (e:c=true):A:=by subst e;exact h
theorem Br.f {c:Bool} {A B:Prop} (h:Br c A B) (e:c=false):B:=by subst e;exact h
theorem Br.mk {c:Bool} {A B:Prop} (ht:c=true→A) (hf:c=false→B):Br c A B:=by
 cases c with
 | true=>exact ht rfl
 | false=>exact hf rfl
inductive At (rows:List (List C)) (i:Nat) (K:List C→Prop):Prop
 | mk (row:List C) (h:rows[i]? = some row) (k:K row)
inductive AtX (ix:List MC) (i:Nat) (K:MC→Prop):Prop
 | mk (c:MC) (h:ix[i]? = some c) (k:K c)
inductive AtR (rows:List (List (List C))) (i:Nat) (K:List (List C)→Prop):Prop
 | mk (row:List (List C)) (h:rows[i]? = some row) (k:K row)
inductive Wr (z:Int) (k:IntKind) (K:Int→Prop):Prop
 | mk (out:K (k.wrap z))
inductive Sub (rows:List (List C)) (lo len:Nat) (K:List (List C)→Prop):Prop
 | mk (r:List (List C)) (h:(rows.drop lo).take len=r) (hl:lo+len≤rows.length) (k:K r)
def ifB (b:Bool) (A:Prop):Prop :=
 match b with
 | true=>A
 | false=>False
def forceV (x:Value) (K:Value→Prop):Prop :=
 match x with
 | .int k n=>K (.int k n)
 | .bool b=>K (.bool b)
 | .string s=>K (.string s)
 | .slice a n c=>K (.slice a n c)
 | y=>K y
def forceC (c:C) (K:C→Prop):Prop :=
 match c with
 | .s x=>forceV x fun x=>K (.s x)
 | .sl r=>K (.sl r)
 | .ptr r=>K (.ptr r)
 | .fn f r=>K (.fn f r)
 | .ifc=>K .ifc
def force (x:AV) (K:AV→Prop):Prop :=
 match x with
 | .d c=>forceC c fun c=>K (.d c)
 | .j=>K .j
 | .ag cs=>K (.ag cs)
 | .tup cs=>K (.tup cs)
 | .lp a b=>K (.lp a b)
 | .pe a b c e=>K (.pe a b c e)
 | .ap a b c=>K (.ap a b c)
 | .ls a b c e=>K (.ls a b c e)
 | .ep a b c e=>K (.ep a b c e)
 | .pp a b=>K (.pp a b)
 | .ms a b c e f=>K (.ms a b c e f)
 | .me a b c e f=>K (.me a b c e f)
theorem forceV_eq (x:Value) (K:Value→Prop):forceV x K=K x:=by cases x <;> rfl
theorem forceC_eq (x:C) (K:C→Prop):forceC x K=K x:=by cases x <;> simp [forceC,forceV_eq]
theorem force_eq (x:AV) (K:AV→Prop):force x K=K x:=by cases x <;> simp [force,forceC_eq]
def gget (i:Nat):List (Nat×List Value)→List Value
 | []=>[]
 | (k,x) :: r=>bif Nat.beq i k then x else gget i r
def gptr (g:Nat) (vs:List Value):AV :=
 match vs with
 | []=>.d (.s (.pointer (some ⟨g,0,none⟩)))
 | v :: r=>.pp ((v :: r).map .s) 0
def ev (t:TL):Operand→AV
 | .tmp i=>get i t
 | .const c=>.d (.s c)
 | .global g=>gptr g (gget g globT)
 | .func f=>.d (.fn f [])
def evK (t:TL) (x:Operand) (K:AV→Prop):Prop:=force (ev t x) K
def evs (t:TL):List Operand→List AV
 | []=>[]
 | x :: r=>ev t x :: evs t r
def evsK (t:TL):List Operand→(List AV→Prop)→Prop
 | [],K=>K []
 | x :: r,K=>evK t x fun a=>evsK t r fun as=>K (a :: as)
theorem evK_eq (t:TL) (x:Operand) (K:AV→Prop):evK t x K=K (ev t x):=force_eq _ _
theorem evsK_eq (t:TL):∀(xs:List Operand) (K:List AV→Prop),evsK t xs K=K (evs t xs)
 | [],_=>rfl
 | x :: r,K=>by simp only [evsK,evK_eq,evsK_eq t r,evs]
def toCs:List AV→Option (List C)
 | []=>some []
 | .d c :: r=>match toCs r with
  | some cs=>some (c :: cs)
  | none=>none
 | _=>none
def cellsOf:AV→List AV
 | .ag cs=>cs
 | x=>[x]
def dIs (cs:List C):List AV:=cs.map .d
def capA (c:C):AV :=
 match c with
 | .ptr cs=>.pp cs 0
 | c=>.d c
def capAs (cs:List C):List AV:=cs.map capA
def thawA (id:Nat) (cs:List C) (x:AV):AV :=
 match x with
 | .lp k o=>match Nat.beq k id with
  | true=>.pp cs o
  | false=>.lp k o
 | x=>x
def thawT (id:Nat) (cs:List C):TL→TL
 | []=>[]
 | (i,x) :: r=>(i,thawA id cs x) :: thawT id cs r
def live (id:Nat) (l:LL):Bool :=
 match lget id l with
 | .no=>false
 | _=>true
def arithK (k k':IntKind) (z:Int) (K:AV→Prop):Prop:=ifB (k == k') (Wr z k fun z=>K (.d (.s (.int k z))))
def cmpK (k k':IntKind) (b:Bool) (K:AV→Prop):Prop:=ifB (k == k') (K (.d (.s (.bool b))))
def binIK (op:BinOp) (k:IntKind) (a:Int) (k':IntKind) (b:Int) (K:AV→Prop):Prop :=
 match op with
 | .add=>arithK k k' (a+b) K
 | .sub=>arithK k k' (a - b) K
 | .mul=>arithK k k' (a*b) K
 | .quo=>Chk (b≠0) (arithK k k' (a.tdiv b) K)
 | .rem=>Chk (b≠0) (ifB (k == k') (K (.d (.s (.int k (a.tmod b))))))
 | .and=>arithK k k' (BitVec.ofInt k.bits a &&& BitVec.ofInt k.bits b).toNat K
 | .or=>arithK k k' (BitVec.ofInt k.bits a ||| BitVec.ofInt k.bits b).toNat K
 | .xor=>arithK k k' (BitVec.ofInt k.bits a ^^^ BitVec.ofInt k.bits b).toNat K
 | .shl=>Chk (0≤b) (Wr (a*2 ^ (min b.toNat k.bits)) k fun z=>K (.d (.s (.int k z))))
 | .shr=>Chk (0≤b) (K (.d (.s (.int k (a.fdiv (2 ^ (min b.toNat k.bits)))))))
 | .eql=>cmpK k k' (decide (a=b)) K
 | .neq=>cmpK k k' (!decide (a=b)) K
 | .lss=>cmpK k k' (decide (a < b)) K
 | .leq=>cmpK k k' (decide (a≤b)) K
 | .gtr=>cmpK k k' (decide (b < a)) K
 | .geq=>cmpK k k' (decide (b≤a)) K
 | _=>False
def binSK (op:BinOp) (a b:ByteArray) (K:AV→Prop):Prop :=
 match op with
 | .add=>Chk (a.size+b.size < 2 ^ 62) (K (.d (.s (.string (a++b)))))
 | .eql=>K (.d (.s (.bool (a.toList == b.toList))))
 | .neq=>K (.d (.s (.bool (!(a.toList == b.toList)))))
 | .lss=>K (.d (.s (.bool (Op.bytesLess a.toList b.toList))))
 | _=>False
def binBK (op:BinOp) (a b:Bool) (K:AV→Prop):Prop :=
 match op with
 | .eql=>K (.d (.s (.bool (a == b))))
 | .neq=>K (.d (.s (.bool (!(a == b)))))
 | _=>False
def binNsK (op:BinOp) (sh:Nat) (c:C) (K:AV→Prop):Prop :=
 match op,c with
 | .eql,.sl rows=>ifB (Nat.beq sh 4) (Chk (rows≠[]) (K (.d (.s (.bool false)))))
 | .neq,.sl rows=>ifB (Nat.beq sh 4) (Chk (rows≠[]) (K (.d (.s (.bool true)))))
 | .eql,.s (.slice none 0 0)=>ifB (Nat.beq sh 4) (K (.d (.s (.bool true))))
 | .neq,.s (.slice none 0 0)=>ifB (Nat.beq sh 4) (K (.d (.s (.bool false))))
 | _,_=>False
def binNiK (op:BinOp) (sh:Nat) (c:C) (K:AV→Prop):Prop :=
 match op,c with
 | .eql,.ifc=>ifB (Nat.beq sh 9) (K (.d (.s (.bool false))))
 | .neq,.ifc=>ifB (Nat.beq sh 9) (K (.d (.s (.bool true))))
 | .eql,.s .nilIface=>ifB (Nat.beq sh 9) (K (.d (.s (.bool true))))
 | .neq,.s .nilIface=>ifB (Nat.beq sh 9) (K (.d (.s (.bool false))))
 | _,_=>False
def binK (op:BinOp) (sh:Nat) (cst:Bool) (x y:AV) (K:AV→Prop):Prop :=
 match x,y with
 | .d (.s (.int k a)),.d (.s (.int k' b))=>binIK op k a k' b K
 | .d (.s (.string a)),.d (.s (.string b))=>binSK op a b K
 | .d (.s (.bool a)),.d (.s (.bool b))=>ifB (Nat.beq sh 1) (binBK op a b K)
 | .d c,.d (.s (.slice none 0 0))=>ifB cst (binNsK op sh c K)
 | .d c,.d (.s .nilIface)=>ifB cst (binNiK op sh c K)
 | _,_=>False
def lsNil (x y:AV):Option Nat :=
 match x,y with
 | .ls id _ _ _,.d (.s (.slice none 0 0))=>some id
 | _,_=>none
def nilBK (op:BinOp) (K:AV→Prop):Prop :=
 match op with
 | .eql=>K (.d (.s (.bool false)))
 | .neq=>K (.d (.s (.bool true)))
 | _=>False
def binLK (op:BinOp) (sh:Nat) (cst:Bool) (x y:AV) (l:LL) (K:AV→Prop):Prop :=
 match lsNil x y with
 | some id=>ifB (cst && (Nat.beq sh 4 && live id l)) (nilBK op K)
 | none=>binK op sh cst x y K
def unK (op:UnOp) (x:AV) (K:AV→Prop):Prop :=
 match op,x with
 | .not,.d (.s (.bool b))=>K (.d (.s (.bool (!b))))
 | .neg,.d (.s (.int k n))=>Wr (0 - n) k fun z=>K (.d (.s (.int k z)))
 | _,_=>False
def convK (T:Ty) (x:AV) (K:AV→Prop):Prop :=
 match x with
 | .d (.s (.int _ n))=>match T.kind with
  | some k=>Wr n k fun z=>K (.d (.s (.int k z)))
  | none=>False
 | .d (.s (.string s))=>ifB (Nat.beq T.sh 3) (K (.d (.s (.string s))))
 | _=>False
inductive ByK (r:List (List C)) (K:ByteArray→Prop):Prop
 | mk (s:ByteArray) (h:r=s.data.toList.map fun b=>[.s (.int .u8 b.toNat)]) (k:K s)
def conv2K (Te Tb:Ty) (x:AV) (l:LL) (K:AV→Prop):Prop :=
 ifB (Nat.beq Te.sh 4 && Nat.beq Te.esize 1 && Nat.beq Tb.sh 3 && Nat.beq Te.fields.length 1) (match x with
  | .ls id lo n sz=>match lget id l with
   | .row _ sz' rows=>ifB (Nat.beq sz 1 && Nat.beq sz' 1) (Sub rows lo n fun r=>ByK r fun s=>K (.d (.s (.string s))))
   | _=>False
  | .d (.sl rows)=>ByK rows fun s=>K (.d (.s (.string s)))
  | _=>False)
def isConst:Operand→Bool
 | .const _=>true
 | _=>false
def headK (cs:List AV) (K:AV→Prop):Prop :=
 match cs with
 | x :: _=>force x K
 | []=>False
def headCK (cs:List C) (K:AV→Prop):Prop :=
 match cs with
 | x :: _=>forceC x fun x=>K (.d x)
 | []=>False
def partK (T:Ty) (off:Nat) (cs:List AV) (K:AV→Prop):Prop :=
 match T.agg with
 | true=>match Nat.beq off 0 && Nat.beq cs.length T.size with
  | true=>K (.ag cs)
  | false=>ifB (Nat.ble (off+T.size) cs.length) (K (.ag ((cs.drop off).take T.size)))
 | false=>headK (cs.drop off) K
def rowK (T:Ty) (sz f:Nat) (rows:List (List C)) (i:Nat) (K:AV→Prop):Prop :=
 match T.agg with
 | true=>ifB (Nat.beq f 0 && Nat.beq T.size sz) (At rows i fun r=>K (.ag (dIs r)))
 | false=>At rows i fun r=>headCK (r.drop f) K
def mcK (id sz:Nat) (c:MC) (K:AV→Prop):Prop :=
 match c with
 | .d c=>forceC c fun c=>K (.d c)
 | .r r lo n=>K (.ms id r lo n sz)
def loadK (T:Ty) (a:AV) (l:LL) (K:AV→Prop):Prop :=
 match a with
 | .lp id off=>match lget id l with
  | .box _ cs=>partK T off cs K
  | _=>False
 | .pe id i f sz=>match lget id l with
  | .row _ sz' rows=>ifB (Nat.beq sz sz') (rowK T sz f rows i K)
  | .mat sz' ix _=>ifB (Nat.beq sz 1 && Nat.beq f 0 && !T.agg) (AtX ix i fun c=>mcK id sz' c K)
  | _=>False
 | .me id r i f sz=>match lget id l with
  | .mat sz' _ rows=>ifB (Nat.beq sz sz') (AtR rows r fun row=>rowK T sz f row i K)
  | _=>False
 | .ep rows i f sz=>rowK T sz f rows i K
 | .pp cs off=>partK T off (dIs cs) K
 | _=>False
def setK (cs:List AV) (off:Nat) (x:AV) (K:List AV→Prop):Prop :=
 match cs,off with
 | _ :: r,0=>K (x :: r)
 | c :: r,n+1=>setK r n x fun r'=>K (c :: r')
 | [],_=>False
def lsetK (i:Nat) (o:Ob) (l:LL) (K:LL→Prop):Prop :=
 match l with
 | []=>K []
 | (k,x) :: r=>match Nat.beq i k with
  | true=>K ((k,o) :: r)
  | false=>lsetK i o r fun r'=>K ((k,x) :: r')
def oneV:Value→Bool
 | .agg _=>false
 | .tuple _=>false
 | _=>true
def oneC:C→Bool
 | .s x=>oneV x
 | _=>true
def oneCell (l:LL):AV→Bool
 | .d c=>oneC c
 | .lp id _=>live id l
 | .ls id _ _ _=>live id l
 | .ms id _ _ _ _=>live id l
 | _=>false
def oneCs:List C→Bool
 | []=>true
 | c :: r=>oneC c && oneCs r
def setRowK (T:Ty) (sz f:Nat) (rows:List (List C)) (i:Nat) (x:AV) (K:List (List C)→Prop):Prop :=
 match x with
 | .ag xs=>match toCs xs with
  | some cs=>ifB (Nat.beq f 0 && Nat.beq T.size sz && Nat.beq cs.length sz && oneCs cs && Nat.blt 0 sz) (Chk (i < rows.length) (K (rows.set i cs)))
  | none=>False
 | .d c=>ifB (Nat.beq T.size 1 && Nat.blt f sz && oneC c) (At rows i fun r=>K (rows.set i (r.set f c)))
 | _=>False
def storeK (T:Ty) (a x:AV) (l:LL) (K:LL→Prop):Prop :=
 match a with
 | .lp id off=>match lget id l with
  | .box true cs=>match x with
   | .ag xs=>ifB (Nat.beq xs.length T.size && Nat.blt 0 T.size) (match Nat.beq off 0 && Nat.beq cs.length T.size with
    | true=>lsetK id (.box true xs) l K
    | false=>ifB (Nat.ble (off+T.size) cs.length) (lsetK id (.box true (cs.take off++(xs++cs.drop (off+T.size)))) l K))
   | y=>ifB (Nat.beq T.size 1 && oneCell l y) (setK cs off y fun cs=>lsetK id (.box true cs) l K)
  | _=>False
 | .pe id i f sz=>match lget id l with
  | .row true sz' rows=>ifB (Nat.beq sz sz') (setRowK T sz f rows i x fun rows=>lsetK id (.row true sz rows) l K)
  | .mat sz' ix rows=>ifB (Nat.beq sz 1 && Nat.beq f 0 && Nat.beq T.size 1) (match x with
   | .d c=>ifB (oneC c) (Chk (i < ix.length) (lsetK id (.mat sz' (ix.set i (.d c)) rows) l K))
   | .ms id2 r lo n sz2=>ifB (Nat.beq id id2 && Nat.beq sz2 sz') (Chk (i < ix.length) (lsetK id (.mat sz' (ix.set i (.r r lo n)) rows) l K))
   | _=>False)
  | _=>False
 | .me id r i f sz=>match lget id l with
  | .mat sz' ix rows=>ifB (Nat.beq sz sz') (AtR rows r fun row=>setRowK T sz f row i x fun row'=>lsetK id (.mat sz' ix (rows.set r row')) l K)
  | _=>False
 | _=>False
def fieldAddrK (T:Ty) (x:AV) (i:Nat) (l:LL) (K:AV→Prop):Prop :=
 match T.fields.drop i with
 | (off,n,_) :: _=>ifB (Nat.blt 0 n) (match x with
  | .lp id o=>ifB (live id l) (K (.lp id (o+off)))
  | .pe id k f sz=>ifB (live id l) (K (.pe id k (f+off) sz))
  | .me id r k f sz=>ifB (live id l) (K (.me id r k (f+off) sz))
  | .ep rows k f sz=>K (.ep rows k (f+off) sz)
  | .pp cs o=>K (.pp cs (o+off))
  | _=>False)
 | []=>False
def indexAddrK (T:Ty) (x i:AV) (l:LL) (K:AV→Prop):Prop :=
 match x,i with
 | .ls id lo len sz,.d (.s (.int _ n))=>ifB (Nat.beq T.sh 4 && Nat.beq T.esize sz && live id l) (Chk (0≤n∧n < len) (K (.pe id (n.toNat+lo) 0 sz)))
 | .ms id r lo len sz,.d (.s (.int _ n))=>ifB (Nat.beq T.sh 4 && Nat.beq T.esize sz && live id l) (Chk (0≤n∧n < len) (K (.me id r (n.toNat+lo) 0 sz)))
 | .ap id m sz,.d (.s (.int _ n))=>ifB (Nat.beq T.sh 6 && Nat.beq T.esize sz && Nat.beq T.ebytes m && live id l) (Chk (0≤n∧n < m) (K (.pe id n.toNat 0 sz)))
 | .pp cs 0,.d (.s (.int _ n))=>ifB (Nat.beq T.sh 6 && Nat.beq T.esize 1 && Nat.beq T.ebytes cs.length) (Chk (0≤n∧n < cs.length) (K (.ep (cs.map fun c=>[c]) n.toNat 0 1)))
 | .d (.sl rows),.d (.s (.int _ n))=>ifB (Nat.beq T.sh 4) (Chk ((0≤n∧n < rows.length)∧∀r,r∈rows→r.length=T.esize) (K (.ep rows n.toNat 0 T.esize)))
 | _,_=>False
def indexK (x i:AV) (K:AV→Prop):Prop :=
 match x,i with
 | .d (.s (.string s)),.d (.s (.int _ n))=>Chk (0≤n∧n < s.size) (K (.d (.s (.int .u8 (s.data.toList.getD n.toNat 0).toNat))))
 | _,_=>False
def nilK (x:AV) (l:LL) (K:AV→Prop):Prop :=
 match x with
 | .lp id off=>ifB (live id l) (K (.lp id off))
 | .pe id i f sz=>ifB (live id l) (K (.pe id i f sz))
 | .pp cs off=>K (.pp cs off)
 | .d (.fn f cs)=>K (.d (.fn f cs))
 | .d (.ptr cs)=>K (.d (.ptr cs))
 | _=>False
def boundK (x:Option AV) (dflt:Int) (K:Int→Prop):Prop :=
 match x with
 | none=>K dflt
 | some (.d (.s (.int _ i)))=>K i
 | _=>False
def sliceK (T:Ty) (x:AV) (lo hi:Option AV) (l:LL) (K:AV→Prop):Prop :=
 match x with
 | .d (.s (.string s))=>ifB (Nat.beq T.sh 3) (boundK lo 0 fun a=>boundK hi s.size fun h=>Chk (0≤a∧a≤h∧h≤s.size) (K (.d (.s (.string (s.extract a.toNat h.toNat))))))
 | .d (.sl rows)=>ifB (Nat.beq T.sh 4) (boundK lo 0 fun a=>boundK hi rows.length fun h=>Chk ((0≤a∧a≤h∧h≤rows.length)∧∀r,r∈rows→r.length=T.esize)
   (K (.d (.sl ((rows.take h.toNat).drop a.toNat)))))
 | .ls id b len sz=>match lget id l with
  | .row _ sz' rows=>ifB (Nat.beq T.sh 4 && Nat.beq T.esize sz && Nat.beq sz sz') (boundK lo 0 fun a=>boundK hi len fun h =>
    Chk (0≤a∧a≤h∧h.toNat+b≤rows.length) (K (.ls id (a.toNat+b) (h - a).toNat sz)))
  | .mat _ ix _=>ifB (Nat.beq T.sh 4 && Nat.beq T.esize sz && Nat.beq sz 1) (boundK lo 0 fun a=>boundK hi len fun h =>
    Chk (0≤a∧a≤h∧h.toNat+b≤ix.length) (K (.ls id (a.toNat+b) (h - a).toNat sz)))
  | _=>False
 | .ms id r b len sz=>ifB (Nat.beq T.sh 4 && Nat.beq T.esize sz && live id l) (boundK lo 0 fun a=>boundK hi len fun h=>Chk (0≤a∧a≤h∧h≤len) (K (.ms id r (a.toNat+b) (h - a).toNat sz)))
 | .ap id n sz=>ifB (Nat.beq T.sh 6 && Nat.beq T.esize sz && Nat.beq T.ebytes n && live id l) (boundK lo 0 fun a=>boundK hi n fun h=>Chk (0≤a∧a≤h∧h≤n) (K (.ls id a.toNat (h - a).toNat sz)))
 | _=>False
def extractK (x:AV) (i:Nat) (K:AV→Prop):Prop :=
 match x with
 | .tup cs=>headK (cs.drop i) K
 | _=>False
def lenK (sh:Nat) (x:AV) (l:LL) (K:AV→Prop):Prop :=
 match x with
 | .d (.s (.string s))=>ifB (Nat.beq sh 3) (K (.d (.s (.int .i64 s.size))))
 | .d (.s (.slice none 0 0))=>ifB (Nat.beq sh 4) (K (.d (.s (.int .i64 0))))
 | .d (.sl rows)=>ifB (Nat.beq sh 4) (K (.d (.s (.int .i64 rows.length))))
 | .ls id _ len _=>ifB (Nat.beq sh 4 && live id l) (K (.d (.s (.int .i64 len))))
 | .ms id _ _ len _=>ifB (Nat.beq sh 4 && live id l) (K (.d (.s (.int .i64 len))))
 | _=>False
def maxK (x y:AV) (K:AV→Prop):Prop :=
 match x,y with
 | .d (.s (.int k a)),.d (.s (.int _ b))=>K (.d (.s (.int k (max a b))))
 | _,_=>False
def minK (x y:AV) (K:AV→Prop):Prop :=
 match x,y with
 | .d (.s (.int k a)),.d (.s (.int _ b))=>K (.d (.s (.int k (min a b))))
 | _,_=>False
def dropM (k:Nat):TL→TL
 | []=>[]
 | (i,x) :: r=>match AV.ment k x with
  | true=>(i,.j) :: dropM k r
  | false=>(i,x) :: dropM k r
def lrem (i:Nat):LL→LL
 | []=>[]
 | (k,x) :: r=>bif Nat.beq i k then lrem i r else (k,x) :: lrem i r
def newK (dst:Option Nat) (x:Nat→AV) (o:Ob) (t:TL) (l:LL) (K:AV→TL→LL→Prop):Prop :=
 match dst with
 | some k=>match tment k t || lment k l || Nat.ble 1000000 k with
  | false=>K (x k) t ((k,o) :: l)
  | true=>False
 | none=>False
def boxK (dst:Option Nat) (x:AV) (t:TL) (l:LL) (K:AV→TL→LL→Prop):Prop :=
 match x with
 | .ag cs=>newK dst (fun k=>.lp k 0) (.box true cs) t l K
 | y=>ifB (oneCell l y) (newK dst (fun k=>.lp k 0) (.box true [y]) t l K)
def zeros (vs:List Value):List AV:=vs.map fun v=>.d (.s v)
def oneVs:List Value→Bool
 | []=>true
 | v :: r=>oneV v && oneVs r
def allPos:List (Nat×Nat×Bool)→Bool
 | []=>true
 | (_,n,_) :: r=>Nat.blt 0 n && allPos r
def okS (T:Ty):Bool:=Nat.beq T.sh 5 && Nat.blt 0 T.zero.length && allPos T.fields && oneVs T.zero
def allocK (T:Ty) (dst:Option Nat) (t:TL) (l:LL) (K:AV→TL→LL→Prop):Prop :=
 match Nat.beq T.sh 6 with
 | true=>ifB (Nat.beq T.zero.length T.size && Nat.blt 0 T.zero.length && oneVs T.zero && Nat.beq T.esize 1 && Nat.beq T.ebytes T.size) (newK dst (fun k=>.ap k T.ebytes 1) (.row true 1 (T.zero.map fun v=>[.s v])) t l K)
 | false=>ifB (Nat.beq T.zero.length T.size && Nat.blt 0 T.zero.length && oneVs T.zero) (newK dst (fun k=>.lp k 0) (.box true (zeros T.zero)) t l K)
def partsK (t:TL):List (Nat×Operand)→(List (Nat×AV)→Prop)→Prop
 | [],K=>K []
 | (i,x) :: r,K=>evK t x fun a=>partsK t r fun as=>K ((i,a) :: as)
def buildK (T:Ty) (l:LL) (cs:List AV) (ps:List (Nat×AV)) (K:AV→Prop):Prop :=
 match ps with
 | []=>K (.ag cs)
 | (i,x) :: r=>match T.fields.drop i with
  | (off,n,_) :: _=>match x with
   | .ag xs=>ifB (Nat.beq xs.length n && Nat.ble (off+n) cs.length) (buildK T l (cs.take off++(xs++cs.drop (off+n))) r K)
   | y=>ifB (Nat.beq n 1 && oneCell l y) (setK cs off y fun cs=>buildK T l cs r K)
  | []=>False
def rowsK (n:Nat):Nat→List (Nat×AV)→(List (List C)→Prop)→Prop
 | _,[],K=>K []
 | k,(i,x) :: r,K=>ifB (Nat.beq i k) (match toCs (cellsOf x) with
  | some cs=>ifB (Nat.beq cs.length n && oneCs cs) (rowsK n (k+1) r fun rs=>K (cs :: rs))
  | none=>False)
def buildSliceK0 (T:Ty) (n:Nat) (ps:List (Nat×AV)) (dst:Option Nat) (t:TL) (l:LL) (K:AV→TL→LL→Prop):Prop :=
 ifB (Nat.beq T.sh 4 && Nat.beq ps.length n && Nat.ble (n*T.esize) 16777216 && Nat.beq T.ezero.length T.esize && Nat.blt 0 T.ezero.length)
  (rowsK T.esize 0 ps fun rows=>newK dst (fun k=>.ls k 0 n T.esize) (.row true T.esize rows) t l K)
def buildSliceK (T:Ty) (n:Nat) (ps:List (Nat×AV)) (dst:Option Nat) (t:TL) (l:LL) (K:AV→TL→LL→Prop):Prop :=
 match ps with
 | [(0,.ls id2 lo n2 sz2)]=>ifB (Nat.beq T.sh 4 && Nat.beq n 1 && Nat.beq T.esize 1 && Nat.beq T.ezero.length 1 && live id2 l) (newK dst (fun k=>.ls k 0 1 1) (.box true [.ls id2 lo n2 sz2]) t l K)
 | ps=>buildSliceK0 T n ps dst t l K
def makeK (T:Ty) (n m:AV) (dst:Option Nat) (t:TL) (l:LL) (K:AV→TL→LL→Prop):Prop :=
 match n,m with
 | .d (.s (.int .i64 a)),.d (.s (.int .i64 b)) =>
  ifB (Nat.beq T.sh 4 && Nat.beq T.ezero.length T.esize && Nat.blt 0 T.ezero.length && oneVs T.ezero) (Chk (0≤a∧a≤b∧b*T.ebytes≤2 ^ 47∧b < 2 ^ 47)
   (newK dst (fun k=>.ls k 0 a.toNat T.esize) (.row true T.esize (List.replicate a.toNat (T.ezero.map .s))) t l K))
 | _,_=>False
def srcK (T:Ty) (y:AV) (l:LL) (K:Nat→List (List C)→Prop):Prop :=
 match y with
 | .ls id lo n s2=>match lget id l with
  | .row _ sz rows=>ifB (Nat.beq sz T.esize && Nat.beq s2 sz) (Sub rows lo n fun r=>K n r)
  | _=>False
 | .d (.sl rows)=>Chk (∀r,r∈rows→r.length=T.esize) (K rows.length rows)
 | .d (.s (.slice none 0 0))=>K 0 []
 | .d (.s (.string s))=>ifB (Nat.beq T.esize 1) (K s.size (s.data.toList.map fun b=>[.s (.int .u8 b.toNat)]))
 | _=>False
def appK0 (T:Ty) (sh2:Nat) (dst:Option Nat) (x y:AV) (t:TL) (l:LL) (K:AV→TL→LL→Prop):Prop :=
 match dst with
 | none=>False
 | some k=>ifB (Nat.beq T.sh 4 && Nat.beq T.ezero.length T.esize && Nat.blt 0 T.ezero.length && Nat.blt 0 T.ebytes && (Nat.beq sh2 3 || Nat.beq sh2 4)) (srcK T y l fun n2 r2=>match x with
  | .d (.s (.slice none 0 0))=>Br (Nat.beq n2 0) (K (.d (.s (.slice none 0 0))) t l)
    (Chk (n2*T.ebytes≤2 ^ 45) (newK (some k) (fun k=>.ls k 0 n2 T.esize) (.row true T.esize r2) t l K))
  | .ls id lo n sz=>match lget id l with
   | .row true sz' rows=>ifB (Nat.beq sz sz' && Nat.beq sz T.esize) (Sub rows lo n fun r1=>Chk ((n+n2)*T.ebytes≤2 ^ 45)
     (newK (some k) (fun k=>.ls k 0 (n+n2) T.esize) (.row true T.esize (r1++r2)) (dropM id t) (lrem id l) K))
   | _=>False
  | _=>False)
def appMK (T:Ty) (sh2:Nat) (dst:Option Nat) (x:AV) (id2 sz2 lo n:Nat) (rows2:List (List C)) (t:TL) (l:LL) (K:AV→TL→LL→Prop):Prop :=
 match dst with
 | none=>False
 | some k=>ifB (Nat.beq T.sh 4 && Nat.beq T.ezero.length 1 && Nat.beq T.esize 1 && Nat.blt 0 T.ebytes && Nat.beq sh2 4) (match x with
  | .d (.s (.slice none 0 0))=>Chk (T.ebytes≤2 ^ 45) (newK (some k) (fun k=>.ls k 0 1 1) (.mat sz2 [.r 0 lo n] [rows2]) (dropM id2 t) (lrem id2 l) K)
  | .ls id b m s=>match lget id l with
   | .mat sz ix rows=>ifB (Nat.beq sz sz2 && !Nat.beq id id2 && Nat.beq b 0 && Nat.beq s 1 && Nat.blt id 1000000) (Chk (m=ix.length∧(m+1)*T.ebytes≤2 ^ 45)
     (newK (some k) (fun k=>.ls k 0 (m+1) 1) (.mat sz (ix++[.r rows.length lo n]) (rows++[rows2])) (dropM id (dropM id2 t)) (lrem id (lrem id2 l)) K))
   | _=>False
  | _=>False)
def appK (T:Ty) (sh2:Nat) (dst:Option Nat) (x y:AV) (t:TL) (l:LL) (K:AV→TL→LL→Prop):Prop :=
 match y with
 | .ls k2 lo2 n2 s2=>match lget k2 l with
  | .box _ [.ls id2 lo n sz2]=>match lget id2 l with
   | .row true sz3 rows2=>ifB (Nat.beq lo2 0 && Nat.beq n2 1 && Nat.beq s2 1 && Nat.beq sz2 sz3) (appMK T sh2 dst x id2 sz2 lo n rows2 t l K)
   | _=>False
  | _=>appK0 T sh2 dst x y t l K
 | _=>appK0 T sh2 dst x y t l K
def moveK (T:Ty) (a:AV) (id2 lo n sz2:Nat) (t:TL) (l:LL) (K:TL→LL→Prop):Prop :=
 match a with
 | .pe id i f sz=>match lget id l with
  | .mat sz' ix rows=>match lget id2 l with
   | .row true sz3 rows2=>ifB (Nat.beq sz 1 && Nat.beq f 0 && Nat.beq T.size 1 && Nat.beq sz' sz2 && Nat.beq sz2 sz3 && !Nat.beq id id2 && Nat.blt id 1000000)
     (Chk (i < ix.length) (lsetK id (.mat sz' (ix.set i (.r rows.length lo n)) (rows++[rows2])) (lrem id2 l) (K (dropM id2 t))))
   | _=>False
  | _=>False
 | _=>False
def copyK (T:Ty) (x y:AV) (l:LL) (K:AV→LL→Prop):Prop :=
 ifB (Nat.beq T.sh 4) (srcK T y l fun n2 r2=>match x with
  | .ls id lo n sz=>match lget id l with
   | .row true sz' rows=>ifB (Nat.beq sz sz' && Nat.beq sz T.esize) (Chk (lo+n≤rows.length)
     (lsetK id (.row true sz' (rows.take lo++(r2.take (Nat.min n2 n)++rows.drop (lo+Nat.min n2 n)))) l fun l=>K (.d (.s (.int .i64 (Nat.min n2 n)))) l))
   | _=>False
  | _=>False)
def capK (xs:List AV) (t:TL) (l:LL) (K:List C→TL→LL→Prop):Prop :=
 match xs with
 | []=>K [] t l
 | x :: r=>match x with
  | .d c=>capK r t l fun cs t l=>K (c :: cs) t l
  | .pp cs 0=>capK r t l fun cs' t l=>K (.ptr cs :: cs') t l
  | .lp id 0=>match lget id l with
   | .box true bs=>match toCs bs with
    | some cs=>capK r (thawT id cs t) (lrem id l) fun cs' t l=>K (.ptr cs :: cs') t l
    | none=>False
   | _=>False
  | _=>False
def optK (t:TL) (x:Option Operand) (K:Option AV→Prop):Prop :=
 match x with
 | none=>K none
 | some x=>evK t x fun a=>K (some a)
end Go.V
namespace Go.V
abbrev Know:=Nat→Nat→Value→Prop
def Know.le (κ κ':Know):Prop:=∀b o x,κ b o x→κ' b o x
inductive Repr (κ:Know):Value→C→Prop
 | s (x:Value):Repr κ x (.s x)
 | nil:Repr κ (.slice none 0 0) (.sl [])
 | none (a:Option Addr) (cap:Nat):Repr κ (.slice a 0 cap) (.sl [])
 | sl (b off n cap:Nat) (rows:List (List C)) (vs:Nat→Value) (hn:n=rows.length) (hc:n≤cap)
   (hk:∀(k:Nat) (c:C),rows.flatten[k]? = some c→κ b (off+k) (vs k)) (hr:∀(k:Nat) (c:C),rows.flatten[k]? = some c→Repr κ (vs k) c) :
   Repr κ (.slice (some ⟨b,off,Option.none⟩) n cap) (.sl rows)
 | ptr (b off:Nat) (cs:List C) (vs:Nat→Value) (hk:∀(k:Nat) (c:C),cs[k]? = some c→κ b (off+k) (vs k)) (hr:∀(k:Nat) (c:C),cs[k]? = some c→Repr κ (vs k) c) :
   Repr κ (.pointer (some ⟨b,off,Option.none⟩)) (.ptr cs)
 | fn (f:FuncId) (caps:Array Value) (cs:List C) (hn:caps.size=cs.length) (hr:∀(k:Nat) (v:Value) (c:C),caps[k]? = some v→cs[k]? = some c→Repr κ v c) :
   Repr κ (.func (.func f) #[] caps) (.fn f cs)
 | ifc (t:TypeId) (v:Value):Repr κ (.iface t v) .ifc
structure Pl where
 b:Nat
 o:Nat
 N:Nat
 kn:Nat
structure Loc where
 b:Nat
 o:Nat
 N:Nat
 kn:Nat
 ib:List Pl
def Loc.has (L:Loc) (b:Nat):Prop:=b=L.b∨∃M,M∈L.ib∧b=M.b
theorem Loc.has_b (L:Loc):L.has L.b:=.inl rfl
theorem Loc.has_i {L:Loc} {r:Nat} {M:Pl} (h:L.ib[r]? = some M):L.has M.b:=.inr ⟨M,List.mem_of_getElem? h,rfl⟩
def SlAt (M:Pl) (lo len sz:Nat) (x:Value):Prop:=∃cap A,x = .slice (some A) len cap∧(A=⟨M.b,M.o+lo*sz,none⟩∨cap=0)∧len≤cap∧M.o+(lo+cap)*sz≤M.N∧M.kn≤lo+cap
abbrev Place:=Nat→Option Loc
inductive AVR (κ:Know) (ρ:Place):Value→AV→Prop
 | j (x:Value):AVR κ ρ x .j
 | d (x:Value) (c:C) (h:Repr κ x c):AVR κ ρ x (.d c)
 | ag (vs:Array Value) (cs:List AV) (hn:vs.size=cs.length) (ho:∀(k:Nat) (v:Value),vs[k]? = some v→oneV v=true) (h:∀(k:Nat) (v:Value) (c:AV),vs[k]? = some v→cs[k]? = some c→AVR κ ρ v c):AVR κ ρ (.agg vs) (.ag cs)
 | tup (vs:Array Value) (cs:List AV) (hn:vs.size=cs.length) (h:∀(k:Nat) (v:Value) (c:AV),vs[k]? = some v→cs[k]? = some c→AVR κ ρ v c):AVR κ ρ (.tuple vs) (.tup cs)
 | lp (x:Value) (id off:Nat) (h:∀L,ρ id=some L→x = .pointer (some ⟨L.b,L.o+off,none⟩)):AVR κ ρ x (.lp id off)
 | pe (x:Value) (id i f sz:Nat) (h:∀L,ρ id=some L→x = .pointer (some ⟨L.b,L.o+(i*sz+f),none⟩)):AVR κ ρ x (.pe id i f sz)
 | ap (x:Value) (id n sz:Nat) (h:∀L,ρ id=some L→x = .pointer (some ⟨L.b,L.o,none⟩)∧L.kn≤n∧L.o+n*sz≤L.N):AVR κ ρ x (.ap id n sz)
 | ls (x:Value) (id lo len sz:Nat) (h:∀L,ρ id=some L→∃cap A,x = .slice (some A) len cap∧(A=⟨L.b,L.o+lo*sz,none⟩∨cap=0)∧len≤cap∧L.o+(lo+cap)*sz≤L.N∧L.kn≤lo+cap):AVR κ ρ x (.ls id lo len sz)
 | ep (b off:Nat) (rows:List (List C)) (i f sz:Nat) (vs:Nat→Value) (hz:∀r,r∈rows→r.length=sz)
   (hk:∀(k:Nat) (c:C),rows.flatten[k]? = some c→κ b (off+k) (vs k)) (hr:∀(k:Nat) (c:C),rows.flatten[k]? = some c→Repr κ (vs k) c) :
   AVR κ ρ (.pointer (some ⟨b,off+(i*sz+f),none⟩)) (.ep rows i f sz)
 | pp (b off:Nat) (cs:List C) (o:Nat) (vs:Nat→Value)
   (hk:∀(k:Nat) (c:C),cs[k]? = some c→κ b (off+k) (vs k)) (hr:∀(k:Nat) (c:C),cs[k]? = some c→Repr κ (vs k) c) :
   AVR κ ρ (.pointer (some ⟨b,off+o,none⟩)) (.pp cs o)
 | ms (x:Value) (id r lo len sz:Nat) (h:∀L,ρ id=some L→∃M,L.ib[r]? = some M∧SlAt M lo len sz x):AVR κ ρ x (.ms id r lo len sz)
 | me (x:Value) (id r i f sz:Nat) (h:∀L,ρ id=some L→∃M,L.ib[r]? = some M∧x = .pointer (some ⟨M.b,M.o+(i*sz+f),none⟩)):AVR κ ρ x (.me id r i f sz)
def Ob.wr:Ob→Bool
 | .no=>false
 | .box w _=>w
 | .row w _ _=>w
 | .mat _ _ _=>true
def RowC (κ:Know) (o sz kn:Nat) (rows:List (List C)) (arr:Array Value):Prop :=
 (∀r,r∈rows→r.length=sz)∧rows.length≤kn∧∀(k:Nat) (c:C),rows.flatten[k]? = some c→∃x,arr[o+k]? = some x∧Repr κ x c∧oneV x=true
def MCR (κ:Know) (ib:List Pl) (sz:Nat) (x:Value):MC→Prop
 | .d c=>Repr κ x c
 | .r i lo n=>∃M,ib[i]? = some M∧SlAt M lo n sz x
def MatR (κ:Know) (w:World) (L:Loc) (sz:Nat) (ix:List MC) (rows:List (List (List C))):Prop :=
 (∃arr E,w.heap[L.b]? = some (.cells arr E (0,0))∧arr.size=L.N∧ix.length≤L.kn∧∀(k:Nat) c,ix[k]? = some c→∃x,arr[L.o+k]? = some x∧MCR κ L.ib sz x c∧oneV x=true) ∧
 L.ib.length=rows.length∧(∀(r:Nat) (M:Pl) (row:List (List C)),L.ib[r]? = some M→rows[r]? = some row→∃arr E,w.heap[M.b]? = some (.cells arr E (0,0))∧arr.size=M.N∧RowC κ M.o sz M.kn row arr) ∧
 (∀(r:Nat) (M:Pl),L.ib[r]? = some M→M.b≠L.b)∧∀(i j:Nat) (M M':Pl),L.ib[i]? = some M→L.ib[j]? = some M'→i≠j→M.b≠M'.b
def ObR (κ:Know) (ρ:Place) (w:World) (id:Nat):Ob→Prop
 | .no=>ρ id=none
 | .box m cs=>∃L arr E fz,ρ id=some L∧w.heap[L.b]? = some (.cells arr E fz)∧arr.size=L.N∧(m=true→fz=(0,0)) ∧
   ∀(k:Nat) (c:AV),cs[k]? = some c→∃x,arr[L.o+k]? = some x∧AVR κ ρ x c∧oneV x=true
 | .row m sz rows=>∃L arr E fz,ρ id=some L∧w.heap[L.b]? = some (.cells arr E fz)∧arr.size=L.N∧(m=true→fz=(0,0)) ∧
   (∀r,r∈rows→r.length=sz)∧rows.length≤L.kn ∧
   ∀(k:Nat) (c:C),rows.flatten[k]? = some c→∃x,arr[L.o+k]? = some x∧Repr κ x c∧oneV x=true
 | .mat sz ix rows=>∃L,ρ id=some L∧MatR κ w L sz ix rows
structure Ctx where
 w0:World
 M:Nat→Prop
 κ0:Know
 n:Nat
 ρ0:Place
structure Fr (G:Ctx) (w:World):Prop where
 os:w.os=G.w0.os
 tape:w.tape=G.w0.tape
 output:w.output=G.w0.output
 size:G.w0.heap.size≤w.heap.size
 block:∀k,k < G.w0.heap.size→¬G.M k→w.heap[k]? = G.w0.heap[k]?
def glob:Know:=fun b o x=>(gget b globT)[o]? = some x
structure Mem (G:Ctx) (κ:Know) (ρ:Place) (l:LL) (w:World):Prop where
 ob:∀id,ObR κ ρ w id (lget id l)
 sep:∀i j Li Lj,i≠j→ρ i=some Li→ρ j=some Lj→(lget i l).wr=true→∀b,Li.has b→¬Lj.has b
 fre:∀i L,ρ i=some L→(lget i l).wr=true→∀b,L.has b→(∀o x,¬κ b o x)∧(G.w0.heap.size≤b∨G.M b)
 own:∀i L,ρ i=some L→∀b,L.has b→b < w.heap.size
 kn:∀b o x,κ b o x→w.cell? ⟨b,o,none⟩=some x
 one:(∀b o x,κ b o x→oneV x=true)∧glob.le κ
 kn0:∀b o x,κ b o x→G.κ0 b o x∨G.w0.heap.size≤b∨G.M b
 fr:Fr G w
 par:∀i L,1000000≤i→ρ i=some L→G.ρ0 i=some L
structure Rel (G:Ctx) (κ:Know) (ρ:Place) (t:TL) (l:LL) (a:Act) (w:World):Prop where
 m:Mem G κ ρ l w
 df:a.defers=[]
 sz:a.tmps.size=G.n
 tm:∀i,AVR κ ρ (a.tmps.getD i undef) (get i t)
inductive Ex where
 | n | r | x (id:Nat)
def exOf:Exit→Option Ex
 | .normal=>some .n
 | .ret=>some .r
 | .exit id=>some (.x id)
 | _=>none
def Lift (G:Ctx) (κ:Know) (Q:Ex→TL→LL→Prop):Exit→Act→World→Prop:=fun e a' w' =>
 ∃x κ' ρ' t' l',exOf e=some x∧κ.le κ'∧Rel G κ' ρ' t' l' a' w'∧Q x t' l'
def Enters (P:Program) (f:FuncId):Prop:=∃fn,P.funcs[f]? = some fn∧fn.body.isSome=true∧(fn.name == "runtime.NumGoroutine")=false
structure VCall (P:Program) (f:FuncId) (xs:List AV) (dst:Option Nat) (t:TL) (l:LL) (K:AV→TL→LL→Prop):Prop where
 en:Enters P f
 out:∀G κ ρ a w (vs:Array Value),Rel G κ ρ t l a w→vs.size=xs.length→(∀(i:Nat) v x,vs[i]? = some v→xs[i]? = some x→AVR κ ρ v x) →
  Calls P f vs w fun e w'=>∃v κ' ρ' x t' l',e = .returned v∧κ.le κ'∧Rel G κ' ρ' t' l' a w'∧AVR κ' ρ' v x∧K x t' l'
def dstOps (n:Nat):List Oper→Bool
 | []=>true
 | o :: r=>(match o.dst with | some d=>Nat.blt d n | none=>true) && dstOps n r
def dstCode (n:Nat):Code→Bool
 | .region _ ops _=>dstOps n ops.toList
 | .seq a b=>dstCode n a && dstCode n b
 | .block _ c=>dstCode n c
 | .loop b=>dstCode n b
 | .cond _ a b=>dstCode n a && dstCode n b
 | _=>true
structure VLoop (P:Program) (ty:TypeId→Ty) (ks:List Nat) (b:Code) (t:TL) (l:LL) (Q:Ex→TL→LL→Prop):Prop where
 out:∀G κ ρ a w,dstCode G.n b=true→Rel G κ ρ t l a w→(Code.loop b).wp P (Lift G κ Q) a w
structure VDraw (P:Program) (ty:TypeId→Ty) (ops:Array Oper) (t:TL) (l:LL) (K:TL→LL→Prop):Prop where
 out:∀G κ ρ a w,Rel G κ ρ t l a w→(∀o,o∈ops.toList→∀d,o.dst=some d→d < G.n)→∀(id:Nat) (Q:Exit→Act→World→Prop),
  (∀κ' ρ' t' l' a' w',κ.le κ'→Rel G κ' ρ' t' l' a' w'→K t' l'→Q .normal a' w')→(Code.region id ops true).wp P Q a w
def callK (P:Program) (x:AV) (xs:List AV) (dst:Option Nat) (t:TL) (l:LL) (K:AV→TL→LL→Prop):Prop :=
 match x with
 | .d (.fn f caps)=>VCall P f (xs++capAs caps) dst t l K
 | _=>False
def builtinK (ty:TypeId→Ty) (b:Builtin) (tys:List TypeId) (xs:List AV) (dst:Option Nat) (t:TL) (l:LL) (K:AV→TL→LL→Prop):Prop :=
 match b,tys,xs with
 | .len,e :: _,[x]=>lenK (ty e).sh x l fun v=>K v t l
 | .max,_,[x,y]=>maxK x y fun v=>K v t l
 | .min,_,[x,y]=>minK x y fun v=>K v t l
 | .append,[e,e'],[x,y]=>appK (ty e) (ty e').sh dst x y t l K
 | .copy,[e,_],[x,y]=>copyK (ty e) x y l fun v l=>K v t l
 | _,_,_=>False
def storeX (T:Ty) (a x:AV) (t:TL) (l:LL) (K:TL→LL→Prop):Prop :=
 match a,x with
 | .pe id i f sz,.ls id2 lo n sz2=>moveK T (.pe id i f sz) id2 lo n sz2 t l K
 | a,x=>storeK T a x l (K t)
def okT (T:Ty):Bool:=Nat.blt T.sh 99
def vcOp (P:Program) (ty:TypeId→Ty) (op:Op) (dst:Option Nat) (t:TL) (l:LL) (K:AV→TL→LL→Prop):Prop :=
 match op with
 | .move x=>evK t x fun v=>K v t l
 | .assign x=>evK t x fun v=>K v t l
 | .pick c a b=>evK t c fun c=>match c with
  | .d (.s (.bool true))=>evK t a fun v=>K v t l
  | .d (.s (.bool false))=>evK t b fun v=>K v t l
  | _=>False
 | .alloc e=>ifB (okT (ty e)) (allocK (ty e) dst t l K)
 | .box e x=>evK t x fun v=>boxK dst v t l K
 | .build e ps=>ifB (okS (ty e)) (partsK t ps.toList fun ps=>buildK (ty e) l (zeros (ty e).zero) ps fun v=>K v t l)
 | .buildSlice e n ps=>partsK t ps.toList fun ps=>buildSliceK (ty e) n ps dst t l K
 | .load e a=>evK t a fun a=>ifB (okT (ty e)) (loadK (ty e) a l fun v=>K v t l)
 | .store e a x=>evK t a fun a=>evK t x fun x=>ifB (okT (ty e)) (storeX (ty e) a x t l fun t l=>K .j t l)
 | .nilCheck x=>evK t x fun x=>nilK x l fun v=>K v t l
 | .binOp op e x y _=>evK t x fun a=>evK t y fun b=>ifB (okT (ty e)) (binLK op (ty e).sh (isConst y) a b l fun v=>K v t l)
 | .unOp op _ x=>evK t x fun x=>unK op x fun v=>K v t l
 | .convert e b x=>evK t x fun x=>match Nat.beq (ty e).sh 4 with
  | true=>conv2K (ty e) (ty b) x l fun v=>K v t l
  | false=>ifB ((Nat.beq (ty e).sh 2 || Nat.beq (ty e).sh 3) && okT (ty b)) (convK (ty b) x fun v=>K v t l)
 | .makeSlice e n c=>evK t n fun n=>evK t c fun c=>makeK (ty e) n c dst t l K
 | .slice e x lo hi none=>evK t x fun x=>optK t lo fun lo=>optK t hi fun hi=>sliceK (ty e) x lo hi l fun v=>K v t l
 | .fieldAddr e x i=>evK t x fun x=>ifB (Nat.beq (ty e).sh 5) (fieldAddrK (ty e) x i l fun v=>K v t l)
 | .indexAddr e x i=>evK t x fun x=>evK t i fun i=>indexAddrK (ty e) x i l fun v=>K v t l
 | .index e x i=>evK t x fun x=>evK t i fun i=>ifB (Nat.beq (ty e).sh 3) (indexK x i fun v=>K v t l)
 | .extract x i=>evK t x fun x=>extractK x i fun v=>K v t l
 | .makeFunc (.func f) first caps=>match first.toList with
  | []=>evsK t caps.toList fun xs=>capK xs t l fun cs t l=>K (.d (.fn f cs)) t l
  | _=>False
 | .call ⟨.builtin b,args,tys⟩=>evsK t args.toList fun xs=>builtinK ty b tys.toList xs dst t l K
 | .call ⟨.value f,args,_⟩=>evK t f fun f=>evsK t args.toList fun xs=>callK P f xs dst t l K
 | _=>False
def gslot (D:List (Option Nat)) (j:Nat):Option Nat:=D.getD j none
def skipV:AV:=.d (.s (.tuple #[]))
def guardO (g:Nat) (want:Bool) (x:AV) (t:TL) (Y N:TL→Prop):Prop :=
 match x with
 | .d (.s (.bool c))=>match want with
  | true=>Br c (Y ((g,.d (.s (.bool true))) :: t)) (N ((g,.d (.s (.bool false))) :: t))
  | false=>Br c (N ((g,.d (.s (.bool true))) :: t)) (Y ((g,.d (.s (.bool false))) :: t))
 | .d (.s (.tuple _))=>N t
 | _=>False
def vcOps (P:Program) (ty:TypeId→Ty) (D:List (Option Nat)):List Oper→TL→LL→(TL→LL→Prop)→Prop
 | [],t,l,K=>K t l
 | o :: r,t,l,K=>match o.guard with
  | none=>vcOp P ty o.op o.dst t l fun x t l=>vcOps P ty D r (push o.dst x t) l K
  | some (j,want)=>match gslot D j with
   | none=>False
   | some g=>guardO g want (get g t) t (fun t=>vcOp P ty o.op o.dst t l fun x t l=>vcOps P ty D r (push o.dst x t) l K) (fun t=>vcOps P ty D r (push o.dst skipV t) l K)
def condK (x:AV) (A B:Prop):Prop :=
 match x with
 | .d (.s (.bool c))=>Br c A B
 | _=>False
def keepK (ks:List Nat) (t t':TL) (K:TL→Prop):Prop :=
 match ks with
 | []=>K t'
 | k :: r=>match get k t with
  | .j=>keepK r t t' K
  | x=>force x fun x=>keepK r t ((k,x) :: t') K
def inBoxes (id:Nat):LL→Bool
 | []=>false
 | (_,.box _ cs) :: r=>AV.ments id cs || inBoxes id r
 | _ :: r=>inBoxes id r
def gcK (t:TL) (l l0:LL) (K:LL→Prop):Prop :=
 match l with
 | []=>K []
 | (k,o) :: r=>match tment k t || inBoxes k l0 || Nat.ble 1000000 k with
  | true=>gcK t r l0 fun r'=>K ((k,o) :: r')
  | false=>gcK t r l0 K
def vcCode (P:Program) (ty:TypeId→Ty) (ks:List Nat):Code→TL→LL→(Ex→TL→LL→Prop)→Prop
 | .skip,t,l,Q=>Q .n t l
 | .region _ ops false,t,l,Q=>vcOps P ty (ops.toList.map (·.dst)) ops.toList t l fun t l=>keepK ks t [] fun t=>gcK t l l fun l=>Q .n t l
 | .region _ ops true,t,l,Q=>VDraw P ty ops t l fun t l=>keepK ks t [] fun t=>gcK t l l fun l=>Q .n t l
 | .seq a b,t,l,Q=>vcCode P ty ks a t l fun e t l=>match e with
  | .n=>vcCode P ty ks b t l Q
  | .r=>Q .r t l
  | .x i=>Q (.x i) t l
 | .block id c,t,l,Q=>vcCode P ty ks c t l fun e t l=>match e with
  | .x i=>match Nat.beq i id with
   | true=>Q .n t l
   | false=>Q (.x i) t l
  | .n=>Q .n t l
  | .r=>Q .r t l
 | .loop b,t,l,Q=>VLoop P ty ks b t l Q
 | .cond c a b,t,l,Q=>condK (ev t c) (vcCode P ty ks a t l Q) (vcCode P ty ks b t l Q)
 | .exit id,t,l,Q=>Q (.x id) t l
 | .ret,t,l,Q=>Q .r t l
 | _,_,_,_=>False
end Go.V
namespace Go.V
theorem Know.le_refl (κ:Know):κ.le κ:=fun _ _ _ h=>h
theorem Know.le_trans {κ κ' κ'':Know} (h:κ.le κ') (h':κ'.le κ''):κ.le κ'':=fun b o x k=>h' b o x (h b o x k)
theorem Repr.mono {κ κ':Know} (hk:κ.le κ') {x:Value} {c:C} (h:Repr κ x c):Repr κ' x c:=by
 induction h with
 | s x=>exact .s x
 | nil=>exact .nil
 | none a cap=>exact .none a cap
 | sl b off n cap rows vs hn hc hk' _ ih=>exact .sl b off n cap rows vs hn hc (fun k c h=>hk _ _ _ (hk' k c h)) ih
 | ptr b off cs vs hk' _ ih=>exact .ptr b off cs vs (fun k c h=>hk _ _ _ (hk' k c h)) ih
 | fn f caps cs hn _ ih=>exact .fn f caps cs hn ih
 | ifc t v=>exact .ifc t v
theorem AVR.mono {κ κ':Know} {ρ:Place} (hk:κ.le κ') {x:Value} {c:AV} (h:AVR κ ρ x c):AVR κ' ρ x c:=by
 induction h with
 | j x=>exact .j x
 | d x c h=>exact .d x c (h.mono hk)
 | ag vs cs hn ho _ ih=>exact .ag vs cs hn ho ih
 | tup vs cs hn _ ih=>exact .tup vs cs hn ih
 | lp x id off h=>exact .lp x id off h
 | pe x id i f sz h=>exact .pe x id i f sz h
 | ap x id n sz h=>exact .ap x id n sz h
 | ls x id lo len sz h=>exact .ls x id lo len sz h
 | ep b off rows i f sz vs hz h1 h2=>exact .ep b off rows i f sz vs hz (fun k c h=>hk _ _ _ (h1 k c h)) (fun k c h=>(h2 k c h).mono hk)
 | pp b off cs o vs h1 h2=>exact .pp b off cs o vs (fun k c h=>hk _ _ _ (h1 k c h)) (fun k c h=>(h2 k c h).mono hk)
 | ms x id r lo len sz h=>exact .ms x id r lo len sz h
 | me x id r i f sz h=>exact .me x id r i f sz h
theorem get_cons (i k:Nat) (x:AV) (t:TL):get i ((k,x) :: t)=if i=k then x else get i t:=by
 show (bif Nat.beq i k then x else get i t)=_
 by_cases h:i=k
 ·subst h;simp
 ·have:Nat.beq i k=false:=Bool.eq_false_iff.2 fun e=>h (Nat.eq_of_beq_eq_true e)
  simp [this,h]
theorem lget_cons (i k:Nat) (x:Ob) (t:LL):lget i ((k,x) :: t)=if i=k then x else lget i t:=by
 show (bif Nat.beq i k then x else lget i t)=_
 by_cases h:i=k
 ·subst h;simp
 ·have:Nat.beq i k=false:=Bool.eq_false_iff.2 fun e=>h (Nat.eq_of_beq_eq_true e)
  simp [this,h]
theorem Rel.push {G:Ctx} {κ:Know} {ρ:Place} {t:TL} {l:LL} {a:Act} {w:World} (h:Rel G κ ρ t l a w) {d:Option Nat} {v:Value} {x:AV}
  (hv:AVR κ ρ v x) (hd:∀i,d=some i→i < G.n):Rel G κ ρ (push d x t) l (a.put d v) w:=by
 cases d with
 | none=>exact h
 | some i =>
  refine ⟨h.m,h.df,by simpa [Act.put] using h.sz,fun k=>?_⟩;have hi:=hd i rfl;show AVR κ ρ ((a.tmps.setIfInBounds i v).getD k undef) (get k ((i,x) :: t));rw [get_cons];by_cases hk:k=i
  ·subst hk;have hs:k < a.tmps.size:=by rw [h.sz];exact hi
   rw [if_pos rfl];simp [Array.getD,hs];exact hv
  ·rw [if_neg hk];have:=h.tm k;simp only [Array.getD_eq_getD_getElem?] at this ⊢;rw [Array.getElem?_setIfInBounds_ne (Ne.symm hk)];exact this
theorem Rel.told {G:Ctx} {κ:Know} {ρ:Place} {t:TL} {l:LL} {a:Act} {w:World} (h:Rel G κ ρ t l a w) {i:Nat} {x:AV}
  (hv:AVR κ ρ (a.tmps.getD i undef) x):Rel G κ ρ ((i,x) :: t) l a w:=by
 refine ⟨h.m,h.df,h.sz,fun k=>?_⟩
 rw [get_cons]
 by_cases hk:k=i
 ·subst hk;rw [if_pos rfl];exact hv
 ·rw [if_neg hk];exact h.tm k
theorem ment_gptr (k g:Nat) (vs:List Value):AV.ment k (gptr g vs)=false:=by
 unfold gptr;split <;> rfl
theorem Rel.ev {G:Ctx} {κ:Know} {ρ:Place} {t:TL} {l:LL} {a:Act} {w:World} (h:Rel G κ ρ t l a w) (o:Operand):AVR κ ρ (a.eval o) (ev t o):=by
 cases o with
 | tmp i=>exact h.tm i
 | const c=>exact .d _ _ (.s c)
 | global g =>
  show AVR κ ρ (.pointer (some ⟨g,0,none⟩)) (gptr g (gget g globT))
  have hg:=h.m.one.2
  cases hv:gget g globT with
  | nil=>exact .d _ _ (.s _)
  | cons v r =>
   have:=AVR.pp (κ:=κ) (ρ:=ρ) g 0 ((v :: r).map .s) 0 (fun k=>((v :: r)[k]?).getD undef) (fun k c hc=>?_) (fun k c hc=>?_)
   ·exact this
   all_goals
    rw [List.getElem?_map,Option.map_eq_some_iff] at hc
    obtain ⟨u,hu,rfl⟩:=hc
    rw [hu]
   ·rw [Nat.zero_add]
    exact hg g k u (by unfold glob;rw [hv];exact hu)
   ·exact .s u
 | func f=>exact .d _ _ (.fn f #[] [] rfl (fun k v c h _=>by simp at h))
theorem AVR.int {κ:Know} {ρ:Place} {v:Value} {k:IntKind} {n:Int} (h:AVR κ ρ v (.d (.s (.int k n)))):v = .int k n:=by
 cases h with | d _ _ h=>cases h;rfl
theorem AVR.val {κ:Know} {ρ:Place} {v x:Value} (h:AVR κ ρ v (.d (.s x))):v=x:=by
 cases h with | d _ _ h=>cases h;rfl
theorem AVR.mk {κ:Know} {ρ:Place} (x:Value):AVR κ ρ x (.d (.s x)):=.d _ _ (.s x)
theorem AVR.repr {κ:Know} {ρ:Place} {v:Value} {c:C} (h:AVR κ ρ v (.d c)):Repr κ v c:=by
 cases h with | d _ _ h=>exact h
theorem AVR.agg {κ:Know} {ρ:Place} {v:Value} {cs:List AV} (h:AVR κ ρ v (.ag cs)):∃vs:Array Value,v = .agg vs∧vs.size=cs.length∧(∀(k:Nat) (v:Value),vs[k]? = some v→oneV v=true) ∧
  ∀(k:Nat) (v:Value) (c:AV),vs[k]? = some v→cs[k]? = some c→AVR κ ρ v c:=by
 cases h with | ag vs cs hn ho h=>exact ⟨vs,rfl,hn,ho,h⟩
theorem AVR.tuple {κ:Know} {ρ:Place} {v:Value} {cs:List AV} (h:AVR κ ρ v (.tup cs)):∃vs:Array Value,v = .tuple vs∧vs.size=cs.length ∧
  ∀(k:Nat) (v:Value) (c:AV),vs[k]? = some v→cs[k]? = some c→AVR κ ρ v c:=by
 cases h with | tup vs cs hn h=>exact ⟨vs,rfl,hn,h⟩
theorem beq_kind {k k':IntKind} (h:(k == k')=true):k=k':=by cases k <;> cases k' <;> first | rfl | exact absurd h (by decide)
theorem ifB_iff {b:Bool} {A:Prop}:ifB b A↔b=true∧A:=by cases b <;> simp [ifB]
end Go.V
namespace Go.V
theorem okT_ne {T:Ty} (h:okT T=true):T.sh < 99:=Nat.le_of_ble_eq_true h
theorem tyOf_ok {P:Program} {t:TypeId} (h:okT (tyOf P t)=true):∃i u,P.info? t=some i∧P.underlying t=some u∧(tyOf P t).size=i.size∧(tyOf P t).zero=zeroOf i.zero∧(tyOf P t).agg=isAggD u:=by
 have h':=okT_ne h
 unfold tyOf at h' ⊢
 cases hi:P.info? t with
 | none=>simp [hi,Ty.none] at h'
 | some i =>
  cases hu:P.underlying t with
  | none=>simp [hi,hu,Ty.none] at h'
  | some u =>
   refine ⟨i,u,rfl,rfl,?_⟩
   simp only [hi,hu] at h'
   cases u with
   | slice e =>
    simp only at h' ⊢
    cases he:P.info? e with
    | none=>simp [he,Ty.none] at h'
    | some ei=>exact ⟨rfl,rfl,rfl⟩
   | struct fs=>exact ⟨rfl,rfl,rfl⟩
   | array n e =>
    simp only at h' ⊢
    cases he:P.info? e with
    | none=>simp [he,Ty.none] at h'
    | some ei=>exact ⟨rfl,rfl,rfl⟩
   | int k=>exact ⟨rfl,rfl,rfl⟩
   | bool=>exact ⟨rfl,rfl,rfl⟩
   | string=>exact ⟨rfl,rfl,rfl⟩
   | pointer e=>exact ⟨rfl,rfl,rfl⟩
   | func a b c=>exact ⟨rfl,rfl,rfl⟩
   | interface m=>exact ⟨rfl,rfl,rfl⟩
   | _=>simp [Ty.none] at h'
def ShOk (P:Program) (i:TypeInfo) (u:TypeDesc) (T:Ty):Nat→Prop
 | 1=>u = .bool
 | 2=>∃k,u = .int k∧T.kind=some k
 | 3=>u = .string
 | 4=>∃e ei,u = .slice e∧P.info? e=some ei∧T.esize=ei.size∧T.ebytes=ei.bytes∧T.ezero=zeroOf ei.zero∧T.fields=u8f P e
 | 5=>∃fs,u = .struct fs∧T.fields=fs.toList.map (fieldOf P)∧T.zero=zeroOf i.zero
 | 6=>∃n e ei,u = .array n e∧P.info? e=some ei∧T.esize=ei.size∧T.ebytes=n∧T.size=i.size
 | 9=>∃m,u = .interface m
 | _=>True
theorem tyOf_sh' {P:Program} {t:TypeId} {T:Ty} (hT:tyOf P t=T) (hn:T.sh < 99):∃i u,P.info? t=some i∧P.underlying t=some u∧ShOk P i u T T.sh:=by
 unfold tyOf at hT
 cases hi:P.info? t with
 | none=>simp only [hi] at hT;subst hT;simp [Ty.none] at hn
 | some i =>
  cases hu:P.underlying t with
  | none=>simp only [hi,hu] at hT;subst hT;simp [Ty.none] at hn
  | some u =>
   refine ⟨i,u,rfl,rfl,?_⟩
   simp only [hi,hu] at hT
   cases u with
   | slice e =>
    simp only at hT
    cases he:P.info? e with
    | none=>simp only [he] at hT;subst hT;simp [Ty.none] at hn
    | some ei=>simp only [he] at hT;subst hT;exact ⟨e,ei,rfl,he,rfl,rfl,rfl,rfl⟩
   | struct fs=>simp only at hT;subst hT;exact ⟨fs,rfl,rfl,rfl⟩
   | array n e =>
    simp only at hT
    cases he:P.info? e with
    | none=>simp only [he] at hT;subst hT;simp [Ty.none] at hn
    | some ei=>simp only [he] at hT;subst hT;exact ⟨n,e,ei,rfl,he,rfl,rfl,rfl⟩
   | int k=>simp only at hT;subst hT;exact ⟨k,rfl,rfl⟩
   | bool=>simp only at hT;subst hT;exact rfl
   | string=>simp only at hT;subst hT;exact rfl
   | pointer e=>simp only at hT;subst hT;trivial
   | func a b c=>simp only at hT;subst hT;trivial
   | interface m=>simp only at hT;subst hT;exact ⟨m,rfl⟩
   | _=>simp only at hT;subst hT;simp [Ty.none] at hn
theorem tyOf_sh {P:Program} {t:TypeId} {n:Nat} (h:(tyOf P t).sh=n) (hn:n < 99):∃i u,P.info? t=some i∧P.underlying t=some u∧ShOk P i u (tyOf P t) n:=by
 have:=tyOf_sh' (rfl:tyOf P t=tyOf P t) (by omega)
 rwa [h] at this
theorem tyOf_slice {P:Program} {t:TypeId} (h:Nat.beq (tyOf P t).sh 4=true):∃e ei,P.underlying t=some (.slice e)∧P.info? e=some ei∧(tyOf P t).esize=ei.size∧(tyOf P t).ebytes=ei.bytes∧(tyOf P t).ezero=zeroOf ei.zero:=by
 obtain ⟨i,u,_,hu,e,ei,rfl,h1,h2,h3,h4,_⟩:=tyOf_sh (Nat.eq_of_beq_eq_true h) (by decide)
 exact ⟨e,ei,hu,h1,h2,h3,h4⟩
theorem tyOf_slice8 {P:Program} {t:TypeId} (h:Nat.beq (tyOf P t).sh 4=true) (h8:Nat.beq (tyOf P t).fields.length 1=true):∃e ei,P.underlying t=some (.slice e)∧P.info? e=some ei∧P.underlying e=some (.int .u8)∧(tyOf P t).esize=ei.size:=by
 obtain ⟨i,u,_,hu,e,ei,rfl,h1,h2,h3,h4,h5⟩:=tyOf_sh (Nat.eq_of_beq_eq_true h) (by decide)
 refine ⟨e,ei,hu,h1,?_,h2⟩
 rw [h5] at h8
 unfold u8f at h8
 split at h8
 ·assumption
 ·simp at h8
theorem tyOf_array {P:Program} {t:TypeId} (h:Nat.beq (tyOf P t).sh 6=true):∃i n e ei,P.info? t=some i∧P.underlying t=some (.array n e)∧P.info? e=some ei∧(tyOf P t).esize=ei.size∧(tyOf P t).ebytes=n∧(tyOf P t).size=i.size:=by
 obtain ⟨i,u,hi,hu,n,e,ei,rfl,h1,h2,h3,h4⟩:=tyOf_sh (Nat.eq_of_beq_eq_true h) (by omega);exact ⟨i,n,e,ei,hi,hu,h1,h2,h3,h4⟩
theorem tyOf_string {P:Program} {t:TypeId} (h:Nat.beq (tyOf P t).sh 3=true):P.underlying t=some .string:=by
 obtain ⟨i,u,_,hu,rfl⟩:=tyOf_sh (Nat.eq_of_beq_eq_true h) (by decide);exact hu
theorem tyOf_bool {P:Program} {t:TypeId} (h:Nat.beq (tyOf P t).sh 1=true):P.underlying t=some .bool:=by
 obtain ⟨i,u,_,hu,rfl⟩:=tyOf_sh (Nat.eq_of_beq_eq_true h) (by decide);exact hu
theorem tyOf_int {P:Program} {t:TypeId} (h:Nat.beq (tyOf P t).sh 2=true):∃k,P.underlying t=some (.int k):=by
 obtain ⟨i,u,_,hu,k,rfl,_⟩:=tyOf_sh (Nat.eq_of_beq_eq_true h) (by decide);exact ⟨k,hu⟩
theorem tyOf_iface {P:Program} {t:TypeId} (h:Nat.beq (tyOf P t).sh 9=true):∃m,P.underlying t=some (.interface m):=by
 obtain ⟨i,u,_,hu,m,rfl⟩:=tyOf_sh (Nat.eq_of_beq_eq_true h) (by decide);exact ⟨m,hu⟩
theorem tyOf_struct {P:Program} {t:TypeId} (h:Nat.beq (tyOf P t).sh 5=true):∃i fs,P.info? t=some i∧P.underlying t=some (.struct fs)∧(tyOf P t).fields=fs.toList.map (fieldOf P)∧(tyOf P t).zero=zeroOf i.zero:=by
 obtain ⟨i,u,hi,hu,fs,rfl,h1,h2⟩:=tyOf_sh (Nat.eq_of_beq_eq_true h) (by decide);exact ⟨i,fs,hi,hu,h1,h2⟩
theorem tyOf_kind {P:Program} {t:TypeId} {k:IntKind} (h:(tyOf P t).kind=some k):P.underlying t=some (.int k):=by
 unfold tyOf at h
 cases hi:P.info? t with
 | none=>simp [hi,Ty.none] at h
 | some i =>
  cases hu:P.underlying t with
  | none=>simp [hi,hu,Ty.none] at h
  | some u =>
   simp only [hi,hu] at h
   cases u with
   | int k'=>simp at h;rw [h]
   | slice e=>simp only at h;cases he:P.info? e <;> simp [he,Ty.none] at h
   | array n e=>simp only at h;cases he:P.info? e <;> simp [he,Ty.none] at h
   | _=>simp [Ty.none] at h
def Pure (P:Program) (κ:Know) (ρ:Place) (w:World) (s:Sem Value) (K:AV→Prop):Prop:=∃v x,s.run P w = .ok v w∧AVR κ ρ v x∧K x
section
variable {P:Program} {κ:Know} {ρ:Place} {w:World} {K:AV→Prop}
theorem Pure.mk {s:Sem Value} {v:Value} {x:AV} (h:s.run P w = .ok v w) (hv:AVR κ ρ v x) (hk:K x):Pure P κ ρ w s K:=⟨v,x,h,hv,hk⟩
theorem Pure.c {s:Sem Value} {v:Value} (h:s.run P w = .ok v w) (hk:K (.d (.s v))):Pure P κ ρ w s K:=⟨v,_,h,.mk v,hk⟩
theorem arithK_sound {k k':IntKind} {z:Int} {s:Sem Value} (h:arithK k k' z K) (hs:k=k'→s.run P w = .ok (.int k (k.wrap z)) w):Pure P κ ρ w s K:=by
 obtain ⟨h1,h2⟩:=ifB_iff.1 h
 obtain ⟨h3⟩:=h2
 exact .c (hs (beq_kind h1)) h3
theorem cmpK_sound {k k':IntKind} {b:Bool} {s:Sem Value} (h:cmpK k k' b K) (hs:k=k'→s.run P w = .ok (.bool b) w):Pure P κ ρ w s K:=by
 obtain ⟨h1,h2⟩:=ifB_iff.1 h
 exact .c (hs (beq_kind h1)) h2
theorem binIK_sound {op:BinOp} {t:TypeId} {k k':IntKind} {a b:Int} (h:binIK op k a k' b K):Pure P κ ρ w (binOp op t (.int k a) (.int k' b)) K:=by
 cases op <;> simp only [binIK] at h
 case add=>exact arithK_sound h fun e=>by subst e;simp [binOp,Op.intArith]
 case sub=>exact arithK_sound h fun e=>by subst e;simp [binOp,Op.intArith]
 case mul=>exact arithK_sound h fun e=>by subst e;simp [binOp,Op.intArith]
 case quo=>obtain ⟨h0,h⟩:=h;exact arithK_sound h fun e=>by subst e;simp [binOp,Op.intDiv,h0]
 case rem =>
  obtain ⟨h0,h'⟩:=h;obtain ⟨h1,h⟩:=ifB_iff.1 h';have:=beq_kind h1;subst this
  exact .c (by simp [binOp,Op.intDiv,h0]) h
 case and=>exact arithK_sound h fun e=>by subst e;simp [binOp,Op.intBits]
 case or=>exact arithK_sound h fun e=>by subst e;simp [binOp,Op.intBits]
 case xor=>exact arithK_sound h fun e=>by subst e;simp [binOp,Op.intBits]
 case shl=>obtain ⟨h0,⟨h⟩⟩:=h;exact .c (by simp [binOp,Op.shift,Int.not_lt.2 h0]) h
 case shr=>obtain ⟨h0,h⟩:=h;exact .c (by simp [binOp,Op.shift,Int.not_lt.2 h0]) h
 case eql=>exact cmpK_sound h fun e=>by subst e;simp [binOp,Op.intCmp];rfl
 case neq=>exact cmpK_sound h fun e=>by subst e;simp [binOp,Op.intCmp];by_cases e:a=b <;> simp [e,bne]
 case lss=>exact cmpK_sound h fun e=>by subst e;simp [binOp,Op.intCmp]
 case leq=>exact cmpK_sound h fun e=>by subst e;simp [binOp,Op.intCmp]
 case gtr=>exact cmpK_sound h fun e=>by subst e;simp [binOp,Op.intCmp]
 case geq=>exact cmpK_sound h fun e=>by subst e;simp [binOp,Op.intCmp]
theorem binSK_sound {op:BinOp} {t:TypeId} {a b:ByteArray} (h:binSK op a b K):Pure P κ ρ w (binOp op t (.string a) (.string b)) K:=by
 cases op <;> simp only [binSK] at h
 case add =>
  obtain ⟨h0,h⟩:=h;refine .c ?_ h;have:¬(((a.size+b.size:Nat):Int) > IntKind.i64.max):=by
   have e:IntKind.i64.max=9223372036854775807:=by decide
   rw [e];omega
  simp only [binOp,Op.stringOp];rw [if_neg this];rfl
 case eql=>exact .c (by simp [binOp,Op.stringOp]) h
 case neq=>exact .c (by simp [binOp,Op.stringOp]) h
 case lss=>exact .c (by simp [binOp,Op.stringOp]) h
theorem eqIn_bool (d:Nat) {t:TypeId} (ht:P.underlying t=some .bool) (a b:Bool):(Op.equalIn (d+1) t (.bool a) (.bool b)).run P w = .ok (a == b) w:=by
 simp [Op.equalIn,run_underlying ht]
theorem eqIn_slice (d:Nat) {t e:TypeId} (ht:P.underlying t=some (.slice e)) (a:Option Addr) (n c:Nat):(Op.equalIn (d+1) t (.slice a n c) (.slice none 0 0)).run P w = .ok a.isNone w:=by
 cases a <;> simp [Op.equalIn,run_underlying ht]
theorem eqIn_iface (d:Nat) {t:TypeId} {m:Array (String×TypeId)} (ht:P.underlying t=some (.interface m)) (u:TypeId) (v:Value):(Op.equalIn (d+1) t (.iface u v) .nilIface).run P w = .ok false w:=by
 simp [Op.equalIn,run_underlying ht]
theorem eqIn_nil (d:Nat) {t:TypeId} {m:Array (String×TypeId)} (ht:P.underlying t=some (.interface m)):(Op.equalIn (d+1) t .nilIface .nilIface).run P w = .ok true w:=by
 simp [Op.equalIn,run_underlying ht]
theorem run_eqne {op:BinOp} {t:TypeId} {x y:Value} {r:Bool} (hop:op = .eql∨op = .neq) (hb:binOp .eql t x y=(do pure (.bool (←Op.equal t x y)))) (hb':binOp .neq t x y=(do pure (.bool (!(←Op.equal t x y)))))
  (h:(Op.equalIn (9999+1) t x y).run P w = .ok r w):(binOp op t x y).run P w = .ok (.bool (if op = .eql then r else !r)) w:=by
 have h':(Op.equal t x y).run P w = .ok r w:=h
 rcases hop with rfl | rfl
 ·rw [hb];simp only [Sem.run_bind,h',Result.andThen_ok,Sem.run_pure];rfl
 ·rw [hb'];simp only [Sem.run_bind,h',Result.andThen_ok,Sem.run_pure];rfl
theorem binBK_sound {op:BinOp} {t:TypeId} {a b:Bool} (ht:P.underlying t=some .bool) (h:binBK op a b K):Pure P κ ρ w (binOp op t (.bool a) (.bool b)) K:=by
 have hr:=eqIn_bool (P:=P) (w:=w) 9999 ht a b
 cases op <;> simp only [binBK] at h
 case eql=>exact .c (run_eqne (.inl rfl) rfl rfl hr) h
 case neq=>exact .c (run_eqne (.inr rfl) rfl rfl hr) h
theorem binN_slice {op:BinOp} {t e:TypeId} (ht:P.underlying t=some (.slice e)) (hop:op = .eql∨op = .neq) (a:Option Addr) (n c:Nat) :
  (binOp op t (.slice a n c) (.slice none 0 0)).run P w = .ok (.bool (if op = .eql then a.isNone else !a.isNone)) w :=
 run_eqne hop rfl rfl (eqIn_slice 9999 ht a n c)
theorem eqGuard_run {op : BinOp} {t : TypeId} {ox oy : Operand} {a b : Value} (h1 : a = .nilIface → b = .nilIface → isConst oy = true) (h2 : ∀ p q, a = .agg p → b = .agg q → False) : (eqGuard op t ox oy a b).run P w = .ok () w := by
  unfold eqGuard
  cases op <;> first
    | rfl
    | (simp only [Bool.not_true, Bool.false_eq_true, if_false]
       split
       · have hc := h1 rfl rfl
         cases oy <;> simp [isConst] at hc
         simp
       · exact (h2 _ _ rfl rfl).elim
       · rfl)
theorem Pure.guarded {op:BinOp} {t:TypeId} {ox oy:Operand} {a b:Value} (h1:a = .nilIface→b = .nilIface→isConst oy=true) (h2:∀p q,a = .agg p→b = .agg q→False)
  {s:Sem Value} (h:Pure P κ ρ w s K):Pure P κ ρ w (do eqGuard op t ox oy a b;s) K:=by
 obtain ⟨v,x,hr,h3⟩:=h
 exact ⟨v,x,by simp only [Sem.run_bind,eqGuard_run h1 h2,Result.andThen_ok,hr],h3⟩
theorem binNsK_sound {op:BinOp} {t:TypeId} {c:C} {vx:Value} (h:binNsK op (tyOf P t).sh c K) (hx:Repr κ vx c):Pure P κ ρ w (binOp op t vx (.slice none 0 0)) K:=by
 unfold binNsK at h
 split at h
 ·obtain ⟨hs,hne,h⟩:=ifB_iff.1 h
  obtain ⟨e,ei,hu,_⟩:=tyOf_slice hs
  cases hx with
  | nil=>exact absurd rfl hne
  | none=>exact absurd rfl hne
  | sl b off n cap rows vs hn hcp hk hr=>exact .c (binN_slice hu (.inl rfl) _ _ _) h
 ·obtain ⟨hs,hne,h⟩:=ifB_iff.1 h
  obtain ⟨e,ei,hu,_⟩:=tyOf_slice hs
  cases hx with
  | nil=>exact absurd rfl hne
  | none=>exact absurd rfl hne
  | sl b off n cap rows vs hn hcp hk hr=>exact .c (binN_slice hu (.inr rfl) _ _ _) h
 ·obtain ⟨hs,h⟩:=ifB_iff.1 h
  obtain ⟨e,ei,hu,_⟩:=tyOf_slice hs
  cases hx;exact .c (binN_slice hu (.inl rfl) _ _ _) h
 ·obtain ⟨hs,h⟩:=ifB_iff.1 h
  obtain ⟨e,ei,hu,_⟩:=tyOf_slice hs
  cases hx;exact .c (binN_slice hu (.inr rfl) _ _ _) h
 ·exact h.elim
theorem binNiK_sound {op:BinOp} {t:TypeId} {c:C} {vx:Value} (h:binNiK op (tyOf P t).sh c K) (hx:Repr κ vx c):Pure P κ ρ w (binOp op t vx .nilIface) K:=by
 unfold binNiK at h
 split at h
 ·obtain ⟨hs,h⟩:=ifB_iff.1 h
  obtain ⟨m,hu⟩:=tyOf_iface hs
  cases hx;exact .c (run_eqne (.inl rfl) rfl rfl (eqIn_iface 9999 hu _ _)) h
 ·obtain ⟨hs,h⟩:=ifB_iff.1 h
  obtain ⟨m,hu⟩:=tyOf_iface hs
  cases hx;exact .c (run_eqne (.inr rfl) rfl rfl (eqIn_iface 9999 hu _ _)) h
 ·obtain ⟨hs,h⟩:=ifB_iff.1 h
  obtain ⟨m,hu⟩:=tyOf_iface hs
  cases hx;exact .c (run_eqne (.inl rfl) rfl rfl (eqIn_nil 9999 hu)) h
 ·obtain ⟨hs,h⟩:=ifB_iff.1 h
  obtain ⟨m,hu⟩:=tyOf_iface hs
  cases hx;exact .c (run_eqne (.inr rfl) rfl rfl (eqIn_nil 9999 hu)) h
 ·exact h.elim
theorem binK_sound {op:BinOp} {t:TypeId} {x y:AV} {ox oy:Operand} {vx vy:Value} (h:binK op (tyOf P t).sh (isConst oy) x y K) (hx:AVR κ ρ vx x) (hy:AVR κ ρ vy y) :
  Pure P κ ρ w (do eqGuard op t ox oy vx vy;binOp op t vx vy) K:=by
 unfold binK at h
 split at h
 ·have e1:=hx.val;have e2:=hy.val;subst e1;subst e2
  exact Pure.guarded (by intro e;cases e) (by intro p q e;cases e) (binIK_sound h)
 ·have e1:=hx.val;have e2:=hy.val;subst e1;subst e2
  exact Pure.guarded (by intro e;cases e) (by intro p q e;cases e) (binSK_sound h)
 ·have e1:=hx.val;have e2:=hy.val;subst e1;subst e2
  obtain ⟨hs,h⟩:=ifB_iff.1 h
  exact Pure.guarded (by intro e;cases e) (by intro p q e;cases e) (binBK_sound (tyOf_bool hs) h)
 ·have e2:=hy.val;subst e2
  obtain ⟨hc,h⟩:=ifB_iff.1 h
  exact Pure.guarded (by intro _ e;cases e) (by intro p q _ e;cases e) (binNsK_sound h hx.repr)
 ·have e2:=hy.val;subst e2
  obtain ⟨hc,h⟩:=ifB_iff.1 h
  exact Pure.guarded (fun _ _=>hc) (by intro p q _ e;cases e) (binNiK_sound h hx.repr)
 ·exact h.elim
theorem unK_sound {op:UnOp} {x:AV} {vx:Value} (h:unK op x K) (hx:AVR κ ρ vx x):Pure P κ ρ w (Op.unary op vx) K:=by
 unfold unK at h
 split at h
 ·have e:=hx.val;subst e;exact .c (by simp [Op.unary]) h
 ·have e:=hx.val;subst e;obtain ⟨h⟩:=h;exact .c (by simp [Op.unary,Op.intArith]) h
 ·exact h.elim
theorem convK_sound {a b:TypeId} {x:AV} {vx:Value} (ha:(∃k,P.underlying a=some (.int k))∨P.underlying a=some .string) (h:convK (tyOf P b) x K) (hx:AVR κ ρ vx x):Pure P κ ρ w (convert a b vx) K:=by
 unfold convK at h
 split at h
 ·have e:=hx.val;subst e
  split at h
  ·rename_i k hk
   obtain ⟨h⟩:=h
   have hb:=tyOf_kind hk
   rcases ha with ⟨k',ha⟩ | ha <;> exact .c (by simp [convert,run_underlying ha,run_underlying hb,Conv.intToInt]) h
  ·exact h.elim
 ·have e:=hx.val;subst e
  obtain ⟨hs,h⟩:=ifB_iff.1 h
  have hb:=tyOf_string hs
  rcases ha with ⟨k',ha⟩ | ha <;> exact .c (by simp [convert,run_underlying ha,run_underlying hb]) h
 ·exact h.elim
theorem maxK_sound {x y:AV} {vx vy:Value} {tys:Array TypeId} {ty:TypeId} (h:maxK x y K) (hx:AVR κ ρ vx x) (hy:AVR κ ρ vy y):Pure P κ ρ w (Builtin.max_ tys ty #[vx,vy]) K:=by
 unfold maxK at h;split at h
 ·rename_i k a k' b;have e1:=hx.val;have e2:=hy.val;subst e1;subst e2;refine .c ?_ h;have:(if b > a then b else a)=max a b:=by simp only [Int.max_def];split <;> split <;> omega
  simp [Builtin.max_,Builtin.max2,this]
 ·exact h.elim
theorem minK_sound {x y:AV} {vx vy:Value} {tys:Array TypeId} {ty:TypeId} (h:minK x y K) (hx:AVR κ ρ vx x) (hy:AVR κ ρ vy y):Pure P κ ρ w (Builtin.min_ tys ty #[vx,vy]) K:=by
 unfold minK at h;split at h
 ·rename_i k a k' b;have e1:=hx.val;have e2:=hy.val;subst e1;subst e2;refine .c ?_ h;have:(if b < a then b else a)=min a b:=by simp only [Int.min_def];split <;> split <;> omega
  simp [Builtin.min_,Builtin.min2,this]
 ·exact h.elim
theorem indexK_sound {t:TypeId} {x i:AV} {vx vi:Value} (ht:P.underlying t=some .string) (h:indexK x i K) (hx:AVR κ ρ vx x) (hi:AVR κ ρ vi i):Pure P κ ρ w (Instr.index t vx vi) K:=by
 unfold indexK at h;split at h
 ·rename_i s k n;have e1:=hx.val;have e2:=hi.val;subst e1;subst e2;obtain ⟨⟨h0,h1⟩,h⟩:=h;refine .c ?_ h;have hn:n.toNat < s.size:=by omega
  have e:s.data.toList.getD n.toNat 0=s[n.toNat]:=by
   have:n.toNat < s.data.toList.length:=by simpa using hn
   rw [gD,List.getElem?_eq_getElem this];rfl
  rw [e];simp [Instr.index,asIntOf,run_underlying ht,h0,hn]
 ·exact h.elim
theorem headK_iff {cs:List AV}:headK cs K↔∃x,cs[0]? = some x∧K x:=by
 cases cs <;> simp [headK,force_eq]
theorem headCK_iff {cs:List C}:headCK cs K↔∃x,cs[0]? = some x∧K (.d x):=by
 cases cs <;> simp [headCK,forceC_eq]
theorem extractK_sound {x:AV} {i:Nat} {vx:Value} (h:extractK x i K) (hx:AVR κ ρ vx x):Pure P κ ρ w (Instr.extract vx i) K:=by
 unfold extractK at h;split at h
 ·rename_i cs;obtain ⟨y,hy,hk⟩:=headK_iff.1 h;obtain ⟨vs,rfl,hn,hv⟩:=hx.tuple;have hy':cs[i]? = some y:=by simpa using hy
  have hi:i < cs.length:=by
   rcases Nat.lt_or_ge i cs.length with h | h
   ·exact h
   ·rw [List.getElem?_eq_none h] at hy';cases hy'
  have hv':vs[i]? = some vs[i]:=by simp
  exact ⟨vs[i],y,by simp [Instr.extract,hv'],hv i _ _ hv' hy',hk⟩
 ·exact h.elim
end
end Go.V
namespace Go.V
theorem Addr.add_none (b o n:Nat):(⟨b,o,none⟩:Addr).add n=⟨b,o+n,none⟩:=by
 unfold Addr.add;split
 ·rename_i h;subst h;rfl
 ·rfl
theorem flatten_get {α:Type} {sz:Nat}:∀{rows:List (List α)} {i:Nat} {r:List α},(∀r,r∈rows→r.length=sz)→rows[i]? = some r→∀k,k < sz→rows.flatten[i*sz+k]? = r[k]?
 | [],i,r,_,h,k,_=>by simp at h
 | q :: rows,0,r,hz,h,k,hk=>by
  simp at h;subst h
  have hq:q.length=sz:=hz q (by simp)
  simp only [List.flatten_cons,Nat.zero_mul,Nat.zero_add]
  rw [List.getElem?_append_left (by omega)]
 | q :: rows,i+1,r,hz,h,k,hk=>by
  have hq:q.length=sz:=hz q (by simp)
  have ih:=flatten_get (rows:=rows) (i:=i) (r:=r) (fun r hr=>hz r (by simp [hr])) (by simpa using h) k hk
  simp only [List.flatten_cons]
  rw [List.getElem?_append_right (by rw [hq];rw [Nat.add_mul];omega),hq,←ih]
  congr 1
  rw [Nat.add_mul];omega
theorem flatten_length {α:Type} {sz:Nat}:∀{rows:List (List α)},(∀r,r∈rows→r.length=sz)→rows.flatten.length=rows.length*sz
 | [],_=>by simp
 | q :: rows,hz=>by
  have hq:q.length=sz:=hz q (by simp)
  have ih:=flatten_length (rows:=rows) (fun r hr=>hz r (by simp [hr]))
  simp only [List.flatten_cons,List.length_append,List.length_cons,ih,hq]
  rw [Nat.add_mul];omega
theorem cell_heap {w:World} {b:Nat} {arr:Array Value} {e:TypeId} {fz:Nat×Nat} (h:w.heap[b]? = some (.cells arr e fz)) (o:Nat):w.cell? ⟨b,o,none⟩=arr[o]? := by
 simp [World.cell?,h]
section
variable {P:Program} {G:Ctx} {κ:Know} {ρ:Place} {l:LL} {w:World} {K:AV→Prop}
theorem live_some (hm:Mem G κ ρ l w) {id:Nat} (h:live id l=true):∃L,ρ id=some L:=by
 unfold live at h
 have:=hm.ob id
 cases ho:lget id l with
 | no=>rw [ho] at h;cases h
 | box m cs=>rw [ho] at this;obtain ⟨L,_,_,_,h1,_⟩:=this;exact ⟨L,h1⟩
 | row m sz rows=>rw [ho] at this;obtain ⟨L,_,_,_,h1,_⟩:=this;exact ⟨L,h1⟩
 | mat sz ix rows=>rw [ho] at this;obtain ⟨L,h1,_⟩:=this;exact ⟨L,h1⟩
theorem AVR.ms_at {vx:Value} {id r lo len sz:Nat} {L:Loc} (hL:ρ id=some L) (hx:AVR κ ρ vx (.ms id r lo len sz)):∃M,L.ib[r]? = some M∧SlAt M lo len sz vx:=by
 cases hx with | ms _ _ _ _ _ _ h=>exact h L hL
theorem AVR.me_at {vx:Value} {id r i f sz:Nat} {L:Loc} (hL:ρ id=some L) (hx:AVR κ ρ vx (.me id r i f sz)):∃M,L.ib[r]? = some M∧vx = .pointer (some ⟨M.b,M.o+(i*sz+f),none⟩):=by
 cases hx with | me _ _ _ _ _ _ h=>exact h L hL
theorem AVR.lp_at {vx:Value} {id off:Nat} {L:Loc} (hL:ρ id=some L) (hx:AVR κ ρ vx (.lp id off)):vx = .pointer (some ⟨L.b,L.o+off,none⟩):=by
 cases hx with | lp _ _ _ h=>exact h L hL
theorem AVR.ap_at {vx:Value} {id n sz:Nat} {L:Loc} (hL:ρ id=some L) (hx:AVR κ ρ vx (.ap id n sz)):vx = .pointer (some ⟨L.b,L.o,none⟩)∧L.kn≤n∧L.o+n*sz≤L.N:=by
 cases hx with | ap _ _ _ _ h=>exact h L hL
theorem AVR.pe_at {vx:Value} {id i f sz:Nat} {L:Loc} (hL:ρ id=some L) (hx:AVR κ ρ vx (.pe id i f sz)):vx = .pointer (some ⟨L.b,L.o+(i*sz+f),none⟩):=by
 cases hx with | pe _ _ _ _ _ h=>exact h L hL
theorem AVR.ls_at {vx:Value} {id lo len sz:Nat} {L:Loc} (hL:ρ id=some L) (hx:AVR κ ρ vx (.ls id lo len sz)) :
  ∃cap A,vx = .slice (some A) len cap∧(A=⟨L.b,L.o+lo*sz,none⟩∨cap=0)∧len≤cap∧L.o+(lo+cap)*sz≤L.N∧L.kn≤lo+cap:=by
 cases hx with | ls _ _ _ _ _ h=>exact h L hL
theorem run_sizeOf' {t:TypeId} {i:TypeInfo} (h:P.info? t=some i):(sizeOf t).run P w = .ok i.size w:=by
 simp [sizeOf,typeInfo,h]
theorem run_fieldAt {t:TypeId} {i:Nat} {off n:Nat} {ag:Bool} {r:List (Nat×Nat×Bool)} (ht:Nat.beq (tyOf P t).sh 5=true) (hf:(tyOf P t).fields.drop i=(off,n,ag) :: r) (hn:Nat.blt 0 n=true) (b o:Nat) :
  (Instr.fieldAt t (.pointer (some ⟨b,o,none⟩)) i).run P w = .ok (.pointer (some ⟨b,o+off,none⟩)) w:=by
 obtain ⟨ti,fs,hi,hu,hfs,_⟩:=tyOf_struct ht;have hn':0 < n:=Nat.le_of_ble_eq_true hn;have h0:(tyOf P t).fields[i]? = some (off,n,ag):=by
  have:((tyOf P t).fields.drop i)[0]? = some (off,n,ag):=by rw [hf];rfl
  simpa using this
 rw [hfs] at h0;simp only [List.getElem?_map,Option.map_eq_some_iff] at h0;obtain ⟨f,hf1,hf2⟩:=h0;have hf1':fs[i]? = some f:=by simpa using hf1
 unfold fieldOf at hf2;cases hfi:P.info? f.type with
 | none=>simp [hfi] at hf2;omega
 | some fi =>
  cases hfu:P.underlying f.type with
  | none=>simp [hfi,hfu] at hf2;omega
  | some fu =>
   simp only [hfi,hfu,Prod.mk.injEq] at hf2;obtain ⟨rfl,rfl,_⟩:=hf2;simp [Instr.fieldAt,run_underlying hu,hf1',Instr.sureAddr,fieldPlace,run_sizeOf' hfi,Nat.ne_of_gt hn',Addr.add_none]
theorem fieldAddrK_sound {t:TypeId} {i:Nat} {x:AV} {vx:Value} (hm:Mem G κ ρ l w) (ht:Nat.beq (tyOf P t).sh 5=true) (h:fieldAddrK (tyOf P t) x i l K) (hx:AVR κ ρ vx x):Pure P κ ρ w (Instr.fieldAt t vx i) K:=by
 unfold fieldAddrK at h
 split at h
 ·rename_i off n ag r hf
  have hn:=(ifB_iff.1 h).1
  replace h:=(ifB_iff.1 h).2
  split at h
  ·rename_i id o
   obtain ⟨hl,h⟩:=ifB_iff.1 h
   obtain ⟨L,hL⟩:=live_some hm hl
   have e:=hx.lp_at hL;subst e
   exact .mk (run_fieldAt ht hf hn _ _) (.lp _ _ _ fun L' hL'=>by rw [hL] at hL';cases hL';rw [Nat.add_assoc]) h
  ·rename_i id k f sz
   obtain ⟨hl,h⟩:=ifB_iff.1 h
   obtain ⟨L,hL⟩:=live_some hm hl
   have e:=hx.pe_at hL;subst e
   exact .mk (run_fieldAt ht hf hn _ _) (.pe _ _ _ _ _ fun L' hL'=>by rw [hL] at hL';cases hL';rw [Nat.add_assoc,Nat.add_assoc]) h
  ·rename_i id r' k f sz
   obtain ⟨hl,h⟩:=ifB_iff.1 h
   obtain ⟨L,hL⟩:=live_some hm hl
   obtain ⟨M,hM,e⟩:=hx.me_at hL;subst e
   exact .mk (run_fieldAt ht hf hn _ _) (.me _ _ _ _ _ _ fun L' hL'=>by rw [hL] at hL';cases hL';exact ⟨M,hM,by rw [Nat.add_assoc,Nat.add_assoc]⟩) h
  ·rename_i rows k f sz
   cases hx with
   | ep b o _ _ _ _ vs hz hk hr=>exact .mk (run_fieldAt ht hf hn _ _) (by have:=AVR.ep (ρ:=ρ) b o rows k (f+off) sz vs hz hk hr;rwa [show o+(k*sz+(f+off))=o+(k*sz+f)+off by omega] at this) h
  ·rename_i cs o
   cases hx with
   | pp b o' _ _ vs hk hr=>exact .mk (run_fieldAt ht hf hn _ _) (by have:=AVR.pp (ρ:=ρ) b o' cs (o+off) vs hk hr;rwa [←Nat.add_assoc] at this) h
  ·exact h.elim
 ·exact h.elim
theorem flat_ones {α:Type}:∀cs:List α,(cs.map fun c=>[c]).flatten=cs
 | []=>rfl
 | c :: r=>by simp [flat_ones r]
theorem indexAddrK_sound {t:TypeId} {x i:AV} {vx vi:Value} (hm:Mem G κ ρ l w) (h:indexAddrK (tyOf P t) x i l K) (hx:AVR κ ρ vx x) (hi:AVR κ ρ vi i):Pure P κ ρ w (Instr.indexAt t vx vi) K:=by
 unfold indexAddrK at h;split at h
 ·rename_i id lo len sz k n;have e2:=hi.val;subst e2;have hb:=(ifB_iff.1 h).1;replace h:=(ifB_iff.1 h).2;simp only [Bool.and_eq_true] at hb;obtain ⟨⟨hs,hz⟩,hl⟩:=hb;obtain ⟨⟨h0,h1⟩,h⟩:=h;obtain ⟨L,hL⟩:=live_some hm hl;obtain ⟨cap,A,rfl,hA,hcl,_⟩:=hx.ls_at hL;have hA':A=⟨L.b,L.o+lo*sz,none⟩:=hA.resolve_right (by omega);subst hA';obtain ⟨e,ei,hu,he,hes,_⟩:=tyOf_slice hs;have hz':ei.size=sz:=by rw [←hes];exact Nat.eq_of_beq_eq_true hz
  refine .mk (v:=.pointer (some ⟨L.b,L.o+lo*sz+n.toNat*sz,none⟩)) ?_ (.pe _ _ _ _ _ fun L' hL'=>?_) h
  ·simp [Instr.indexAt,asIntOf,run_underlying hu,h0,h1,run_sizeOf' he,hz',Addr.add_none]
  ·rw [hL] at hL';cases hL';rw [Nat.add_mul];congr 3;omega
 ·rename_i id r lo len sz k n;have e2:=hi.val;subst e2;have hb:=(ifB_iff.1 h).1;replace h:=(ifB_iff.1 h).2;simp only [Bool.and_eq_true] at hb;obtain ⟨⟨hs,hz⟩,hl⟩:=hb;obtain ⟨⟨h0,h1⟩,h⟩:=h;obtain ⟨L,hL⟩:=live_some hm hl;obtain ⟨M,hM,cap,A,rfl,hA,hcl,_⟩:=hx.ms_at hL;have hA':A=⟨M.b,M.o+lo*sz,none⟩:=hA.resolve_right (by omega);subst hA';obtain ⟨e,ei,hu,he,hes,_⟩:=tyOf_slice hs;have hz':ei.size=sz:=by rw [←hes];exact Nat.eq_of_beq_eq_true hz
  refine .mk (v:=.pointer (some ⟨M.b,M.o+lo*sz+n.toNat*sz,none⟩)) ?_ (.me _ _ _ _ _ _ fun L' hL'=>?_) h
  ·simp [Instr.indexAt,asIntOf,run_underlying hu,h0,h1,run_sizeOf' he,hz',Addr.add_none]
  ·rw [hL] at hL';cases hL';refine ⟨M,hM,?_⟩;rw [Nat.add_mul];congr 3;omega
 ·rename_i id m sz k n;have e2:=hi.val;subst e2;have hb:=(ifB_iff.1 h).1;replace h:=(ifB_iff.1 h).2;simp only [Bool.and_eq_true] at hb;obtain ⟨⟨⟨hs,hz⟩,hn⟩,hl⟩:=hb;obtain ⟨⟨h0,h1⟩,h⟩:=h;obtain ⟨L,hL⟩:=live_some hm hl;obtain ⟨hxv,_⟩:=hx.ap_at hL;subst hxv;obtain ⟨i,n',e,ei,_,hu,he,hes,hen,_⟩:=tyOf_array hs;have hz':ei.size=sz:=by rw [←hes];exact Nat.eq_of_beq_eq_true hz
  have hn':n'=m:=by rw [←hen];exact Nat.eq_of_beq_eq_true hn
  subst hn';refine .mk (v:=.pointer (some ⟨L.b,L.o+n.toNat*sz,none⟩)) ?_ (.pe _ _ _ _ _ fun L' hL'=>?_) h
  ·simp [Instr.indexAt,Instr.sureAddr,asIntOf,run_underlying hu,h0,h1,run_sizeOf' he,hz',Addr.add_none]
  ·rw [hL] at hL';cases hL';rfl
 ·rename_i cs k n;have e2:=hi.val;subst e2;have hb:=(ifB_iff.1 h).1;replace h:=(ifB_iff.1 h).2;simp only [Bool.and_eq_true] at hb;obtain ⟨⟨hs,hz⟩,hn⟩:=hb;obtain ⟨⟨h0,h1⟩,h⟩:=h;obtain ⟨i,n',e,ei,_,hu,he,hes,hen,_⟩:=tyOf_array hs;have hz':ei.size=1:=by rw [←hes];exact Nat.eq_of_beq_eq_true hz
  have hn':n'=cs.length:=by rw [←hen];exact Nat.eq_of_beq_eq_true hn
  subst hn';cases hx with
  | pp b off _ _ vs hk hr =>
   refine .mk (v:=.pointer (some ⟨b,off+0+n.toNat*1,none⟩)) ?_ ?_ h
   ·simp [Instr.indexAt,Instr.sureAddr,asIntOf,run_underlying hu,h0,h1,run_sizeOf' he,hz',Addr.add_none]
   ·have hf:(cs.map fun c=>[c]).flatten=cs:=by
     exact flat_ones cs
    have:=AVR.ep (κ:=κ) (ρ:=ρ) b off (cs.map fun c=>[c]) n.toNat 0 1 vs (fun r hr=>by obtain ⟨c,_,rfl⟩:=List.mem_map.1 hr;rfl) (fun k c hc=>hk k c (by rwa [hf] at hc)) (fun k c hc=>hr k c (by rwa [hf] at hc));simpa using this
 ·rename_i rows k n;have e2:=hi.val;subst e2;obtain ⟨hs,⟨⟨h0,h1⟩,hz⟩,h⟩:=ifB_iff.1 h;obtain ⟨e,ei,hu,he,hes,_⟩:=tyOf_slice hs;have hr:=hx.repr;cases hr with
  | nil=>simp at h1;omega
  | none=>simp at h1;omega
  | sl b off m cap _ vs hn hc hk hr =>
   subst hn;refine .mk (v:=.pointer (some ⟨b,off+n.toNat*ei.size,none⟩)) ?_ ?_ h
   ·simp [Instr.indexAt,asIntOf,run_underlying hu,h0,h1,run_sizeOf' he,Addr.add_none]
   ·have:=AVR.ep (ρ:=ρ) b off rows n.toNat 0 (tyOf P t).esize vs hz hk hr;rw [Nat.add_zero] at this;rw [←hes];exact this
 ·exact h.elim
theorem nilK_sound {x:AV} {y:Operand} {vx:Value} (hm:Mem G κ ρ l w) (h:nilK x l K) (hx:AVR κ ρ vx x) (o:Oper) (ho:o.op = .nilCheck y) (a:Act) (hy:a.eval y=vx) :
  ∃v x,(execOp a.eval o).run P w = .ok (.value v) w∧AVR κ ρ v x∧K x:=by
 unfold nilK at h
 split at h
 ·obtain ⟨hl,h⟩:=ifB_iff.1 h
  obtain ⟨L,hL⟩:=live_some hm hl
  have e:=hx.lp_at hL
  exact ⟨vx,_,by simp only [execOp,ho,hy,e];rfl,hx,h⟩
 ·obtain ⟨hl,h⟩:=ifB_iff.1 h
  obtain ⟨L,hL⟩:=live_some hm hl
  have e:=hx.pe_at hL
  exact ⟨vx,_,by simp only [execOp,ho,hy,e];rfl,hx,h⟩
 ·refine ⟨vx,_,?_,hx,h⟩
  cases hx with
  | pp b o' cs off vs hk hr=>simp only [execOp,ho,hy];rfl
 ·refine ⟨vx,_,?_,hx,h⟩
  have hr:=hx.repr
  cases hr with
  | fn f caps cs hn hr=>simp only [execOp,ho,hy];rfl
 ·refine ⟨vx,_,?_,hx,h⟩
  have hr:=hx.repr
  cases hr with
  | ptr b off cs vs hk hr=>simp only [execOp,ho,hy];rfl
 ·exact h.elim
theorem lsNil_some {x y:AV} {id:Nat} (h:lsNil x y=some id):(∃lo n sz,x = .ls id lo n sz)∧y = .d (.s (.slice none 0 0)):=by
 unfold lsNil at h
 split at h
 ·cases h;exact ⟨⟨_,_,_,rfl⟩,rfl⟩
 ·cases h
theorem binLK_sound {op:BinOp} {t:TypeId} {x y:AV} {ox oy:Operand} {vx vy:Value} (hm:Mem G κ ρ l w) (h:binLK op (tyOf P t).sh (isConst oy) x y l K) (hx:AVR κ ρ vx x) (hy:AVR κ ρ vy y) :
  Pure P κ ρ w (do eqGuard op t ox oy vx vy;Go.binOp op t vx vy) K:=by
 unfold binLK at h
 cases e:lsNil x y with
 | none=>rw [e] at h;exact binK_sound h hx hy
 | some id =>
  rw [e] at h
  obtain ⟨⟨lo,n,sz,rfl⟩,rfl⟩:=lsNil_some e
  obtain ⟨hb,h⟩:=ifB_iff.1 h
  simp only [Bool.and_eq_true] at hb
  obtain ⟨hc,hs,hl⟩:=hb
  obtain ⟨L,hL⟩:=live_some hm hl
  obtain ⟨cap,A,e1,_⟩:=hx.ls_at hL
  have e2:=hy.val
  subst e1;subst e2
  obtain ⟨_,_,hu,_⟩:=tyOf_slice hs
  unfold nilBK at h
  split at h
  ·exact Pure.guarded (by intro e;cases e) (by intro p q e;cases e) (.c (binN_slice hu (.inl rfl) _ _ _) h)
  ·exact Pure.guarded (by intro e;cases e) (by intro p q e;cases e) (.c (binN_slice hu (.inr rfl) _ _ _) h)
  ·exact h.elim
theorem lenK_sound {t ty:TypeId} {x:AV} {vx:Value} (hm:Mem G κ ρ l w) (h:lenK (tyOf P t).sh x l K) (hx:AVR κ ρ vx x) (tys:Array TypeId) (hty:tys[0]? = some t) :
  Pure P κ ρ w (Builtin.len_ tys ty #[vx]) K:=by
 unfold lenK at h
 split at h
 ·have e:=hx.val;subst e
  obtain ⟨hs,h⟩:=ifB_iff.1 h
  have hu:=tyOf_string hs
  exact .c (by simp [Builtin.len_,hty,run_underlying hu,goInt]) h
 ·have e:=hx.val;subst e
  obtain ⟨hs,h⟩:=ifB_iff.1 h
  obtain ⟨e,_,hu,_⟩:=tyOf_slice hs
  exact .c (by simp [Builtin.len_,hty,run_underlying hu,goInt]) h
 ·rename_i rows
  obtain ⟨hs,h⟩:=ifB_iff.1 h
  obtain ⟨e,_,hu,_⟩:=tyOf_slice hs
  have hr:=hx.repr
  cases hr with
  | nil=>exact .c (by simp [Builtin.len_,hty,run_underlying hu,goInt]) h
  | none=>exact .c (by simp [Builtin.len_,hty,run_underlying hu,goInt]) h
  | sl b off n cap _ vs hn=>subst hn;exact .c (by simp [Builtin.len_,hty,run_underlying hu,goInt]) h
 ·rename_i id lo len sz
  have hb:=(ifB_iff.1 h).1
  replace h:=(ifB_iff.1 h).2
  simp only [Bool.and_eq_true] at hb
  obtain ⟨e,_,hu,_⟩:=tyOf_slice hb.1
  obtain ⟨L,hL⟩:=live_some hm hb.2
  obtain ⟨cap,A,rfl,_⟩:=hx.ls_at hL
  exact .c (by simp [Builtin.len_,hty,run_underlying hu,goInt]) h
 ·rename_i id r lo len sz
  have hb:=(ifB_iff.1 h).1
  replace h:=(ifB_iff.1 h).2
  simp only [Bool.and_eq_true] at hb
  obtain ⟨e,_,hu,_⟩:=tyOf_slice hb.1
  obtain ⟨L,hL⟩:=live_some hm hb.2
  obtain ⟨M,hM,cap,A,rfl,_⟩:=hx.ms_at hL
  exact .c (by simp [Builtin.len_,hty,run_underlying hu,goInt]) h
 ·exact h.elim
theorem bound_ok {x:Option AV} {vx:Option Value} {dflt:Int} {K':Int→Prop} (h:boundK x dflt K') (hx:∀a,x=some a→∃v,vx=some v∧AVR κ ρ v a) (hn:x=none→vx=none) :
  ∃i:Int,K' i∧((x=none∧vx=none∧i=dflt)∨∃k,vx=some (.int k i)):=by
 unfold boundK at h
 split at h
 ·exact ⟨dflt,h,.inl ⟨rfl,hn rfl,rfl⟩⟩
 ·obtain ⟨v,hv,hr⟩:=hx _ rfl
  have e:=hr.val;subst e
  exact ⟨_,h,.inr ⟨_,hv⟩⟩
 ·exact h.elim
theorem run_sliceBound (k:IntKind) (i:Int) (y:Nat) (c:BoundsCode) (h0:0≤i) (h1:i≤y):(Instr.sliceBound (.int k i) y c).run P w = .ok i.toNat w:=by
 simp [Instr.sliceBound,asIntOf,h0,h1]
theorem run_sliceBounds (isS:Bool) (len cap:Nat) (lo hi:Option Value) (a b:Int) (ha:(lo=none∧a=0)∨∃k,lo=some (.int k a)) (hb:(hi=none∧b=len)∨∃k,hi=some (.int k b)) (h0:0≤a) (h1:a≤b) (h2:b≤cap) :
  (Instr.sliceBounds isS len cap lo hi none).run P w = .ok (a.toNat,b.toNat,cap) w:=by
 have hb0:0≤b:=by omega
 have hab:a≤(b.toNat:Int):=by omega
 have e1:=fun k=>run_sliceBound (P:=P) (w:=w) k a b.toNat .sliceB h0 hab;have e2:=fun k c=>run_sliceBound (P:=P) (w:=w) k b cap c hb0 h2;rcases ha with ⟨rfl,rfl⟩ | ⟨k,rfl⟩ <;> rcases hb with ⟨rfl,rfl⟩ | ⟨k',rfl⟩ <;> simp only [Instr.sliceBounds,Sem.run_bind,Sem.run_pure,Result.andThen_ok,e2,Option.isSome_none,Bool.false_eq_true,if_false,Int.toNat_natCast,Int.toNat_zero]
 ·have:=e1 k;simp only [Int.toNat_natCast] at this;simp only [this,Result.andThen_ok]
 ·simp only [e1,Result.andThen_ok]
theorem sliceK_sound {t:TypeId} {x:AV} {vx:Value} {lo hi:Option AV} {vlo vhi:Option Value} (hm:Mem G κ ρ l w) (h:sliceK (tyOf P t) x lo hi l K) (hx:AVR κ ρ vx x)
  (hlo:∀a,lo=some a→∃v,vlo=some v∧AVR κ ρ v a) (hlo0:lo=none→vlo=none) (hhi:∀a,hi=some a→∃v,vhi=some v∧AVR κ ρ v a) (hhi0:hi=none→vhi=none) :
  Pure P κ ρ w (Instr.sliceAt t vx vlo vhi none) K:=by
 unfold sliceK at h;split at h
 ·rename_i s;have e:=hx.val;subst e;obtain ⟨hs,h⟩:=ifB_iff.1 h;have hu:=tyOf_string hs;obtain ⟨a,h,ha⟩:=bound_ok h hlo hlo0;obtain ⟨b,h,hb⟩:=bound_ok h hhi hhi0;obtain ⟨⟨h0,h1,h2⟩,h⟩:=h;have hr:=run_sliceBounds (P:=P) (w:=w) false s.size s.size vlo vhi a b (ha.imp (fun h=>⟨h.2.1,h.2.2⟩) id) (hb.imp (fun h=>⟨h.2.1,h.2.2⟩) id) h0 h1 h2;exact .c (by simp [Instr.sliceAt,Instr.slice,run_underlying hu,hr]) h
 ·rename_i rows;obtain ⟨hs,h⟩:=ifB_iff.1 h;obtain ⟨e,ei,hu,he,hes,_⟩:=tyOf_slice hs;obtain ⟨a,h,ha⟩:=bound_ok h hlo hlo0;obtain ⟨b,h,hb⟩:=bound_ok h hhi hhi0;obtain ⟨⟨⟨h0,h1,h2⟩,hz⟩,h⟩:=h;have hr:=hx.repr;have go:∀(A:Option Addr) (cap:Nat),rows.length≤cap→(Instr.sliceAt t (.slice A rows.length cap) vlo vhi none).run P w =
    .ok (.slice (if cap=a.toNat then A else A.map (·.add (a.toNat*ei.size))) (b.toNat - a.toNat) (cap - a.toNat)) w:=by
   intro A cap hc;have hr:=run_sliceBounds (P:=P) (w:=w) true rows.length cap vlo vhi a b (ha.imp (fun h=>⟨h.2.1,h.2.2⟩) id) (hb.imp (fun h=>⟨h.2.1,h.2.2⟩) id) h0 h1 (by omega);simp [Instr.sliceAt,Instr.slice,run_underlying hu,hr,run_sizeOf' he]
  have hlen:((rows.take b.toNat).drop a.toNat).length=b.toNat - a.toNat:=by simp;omega
  cases hr with
  | nil =>
   have ea:a.toNat=0:=by simp at h2;omega
   have eb:b.toNat=0:=by simp at h2;omega
   refine ⟨_,_,go none 0 (by simp),?_,h⟩;rw [ea,eb];simp only [List.take_zero,List.drop_zero];exact .d _ _ (.none _ _)
  | none A cap =>
   have ea:a.toNat=0:=by simp at h2;omega
   have eb:b.toNat=0:=by simp at h2;omega
   refine ⟨_,_,go A cap (by simp),?_,h⟩;rw [ea,eb];simp only [List.take_zero,List.drop_zero];exact .d _ _ (.none _ _)
  | sl bl off n cap _ vs hn hc hk hr =>
   subst hn;refine ⟨_,_,go _ cap hc,?_,h⟩;by_cases hca:cap=a.toNat
   ·have:b.toNat - a.toNat=0:=by omega
    have e2:(rows.take b.toNat).drop a.toNat=[]:=List.eq_nil_of_length_eq_zero (by rw [hlen,this]);rw [this,e2];exact .d _ _ (.none _ _)
   ·rw [if_neg hca];simp only [Option.map_some,Addr.add_none];have hfl:∀(k:Nat) (c:C),((rows.take b.toNat).drop a.toNat).flatten[k]? = some c→rows.flatten[a.toNat*ei.size+k]? = some c:=by
     intro k c hkc;have e1:rows.flatten=(rows.take a.toNat).flatten++(rows.drop a.toNat).flatten:=by rw [←List.flatten_append,List.take_append_drop]
     have e2:(rows.drop a.toNat).flatten=((rows.take b.toNat).drop a.toNat).flatten++(rows.drop b.toNat).flatten:=by
      rw [←List.flatten_append];congr 1;have:rows.take b.toNat++rows.drop b.toNat=rows:=List.take_append_drop _ _
      conv=>lhs;rw [←this]
      rw [List.drop_append_of_le_length (by simp;omega)]
     have e3:(rows.take a.toNat).flatten.length=a.toNat*ei.size:=by
      rw [flatten_length (sz:=ei.size) (fun r hr=>by rw [←hes];exact hz r (List.mem_of_mem_take hr))]
      congr 1;simp;omega
     rw [e1,List.getElem?_append_right (by omega),e3,Nat.add_sub_cancel_left,e2];have hkl:k < ((rows.take b.toNat).drop a.toNat).flatten.length:=by
      rcases Nat.lt_or_ge k ((rows.take b.toNat).drop a.toNat).flatten.length with h | h
      ·exact h
      ·rw [List.getElem?_eq_none h] at hkc;cases hkc
     rw [List.getElem?_append_left hkl];exact hkc
    refine .d _ _ (.sl bl (off+a.toNat*ei.size) _ _ _ (fun k=>vs (a.toNat*ei.size+k)) hlen.symm (by omega) (fun k c hkc=>?_) (fun k c hkc=>hr _ _ (hfl k c hkc)));have:=hk _ _ (hfl k c hkc);rwa [←Nat.add_assoc] at this
 ·rename_i id bo len sz;split at h
  ·rename_i m sz' rows hl;have hb:=(ifB_iff.1 h).1;replace h:=(ifB_iff.1 h).2;simp only [Bool.and_eq_true] at hb;obtain ⟨⟨hs,hz⟩,hz'⟩:=hb;obtain ⟨e,ei,hu,he,hes,_⟩:=tyOf_slice hs;have hz1:ei.size=sz:=by rw [←hes];exact Nat.eq_of_beq_eq_true hz
   obtain ⟨a,h,ha⟩:=bound_ok h hlo hlo0;obtain ⟨b,h,hb⟩:=bound_ok h hhi hhi0;obtain ⟨⟨h0,h1,h2⟩,h⟩:=h;have hob:=hm.ob id;rw [hl] at hob;obtain ⟨L,arr,E,fz,hL,_,_,_,_,hkn,_⟩:=hob;obtain ⟨cap,A,rfl,hA,hc1,hc2,hc3⟩:=hx.ls_at hL;have hr:=run_sliceBounds (P:=P) (w:=w) true len cap vlo vhi a b (ha.imp (fun h=>⟨h.2.1,h.2.2⟩) (fun h=>h)) (hb.imp (fun h=>⟨h.2.1,h.2.2⟩) (fun h=>h)) h0 h1 (by omega);have hnm:((b - a).toNat)=b.toNat - a.toNat:=by omega
   refine .mk (v:=.slice (some (if cap=a.toNat then A else A.add (a.toNat*sz))) (b.toNat - a.toNat) (cap - a.toNat)) ?_ (.ls _ _ _ _ _ fun L' hL'=>?_) h
   ·have hrun:(Instr.sliceAt t (.slice (some A) len cap) vlo vhi none).run P w = .ok (.slice (if cap=a.toNat then some A else (some A).map (·.add (a.toNat*sz))) (b.toNat - a.toNat) (cap - a.toNat)) w:=by
     simp [Instr.sliceAt,Instr.slice,run_underlying hu,hr,run_sizeOf' he,hz1]
    rw [hrun];congr 2;by_cases hca:cap=a.toNat
    ·rw [if_pos hca,if_pos hca]
    ·rw [if_neg hca,if_neg hca];rfl
   ·rw [hL] at hL';cases hL';have hab:b.toNat≤cap:=by omega
    refine ⟨_,_,by rw [hnm],?_,by rw [hnm];omega,?_,by omega⟩
    ·by_cases hca:cap=a.toNat
     ·exact .inr (by omega)
     ·rw [if_neg hca];rcases hA with rfl | h0
      ·left;rw [Addr.add_none];congr 1;rw [Nat.add_mul];omega
      ·exact absurd h0 (by omega)
    ·have:a.toNat+bo+(cap - a.toNat)=bo+cap:=by omega
     rw [this];exact hc2
  ·rename_i sz' ix rows hl;have hb:=(ifB_iff.1 h).1;replace h:=(ifB_iff.1 h).2;simp only [Bool.and_eq_true] at hb;obtain ⟨⟨hs,hz⟩,hz'⟩:=hb;obtain ⟨e,ei,hu,he,hes,_⟩:=tyOf_slice hs;have hz1:ei.size=sz:=by rw [←hes];exact Nat.eq_of_beq_eq_true hz
   obtain ⟨a,h,ha⟩:=bound_ok h hlo hlo0;obtain ⟨b,h,hb⟩:=bound_ok h hhi hhi0;obtain ⟨⟨h0,h1,h2⟩,h⟩:=h;have hob:=hm.ob id;rw [hl] at hob;obtain ⟨L,hL,⟨arr,E,_,_,hkn,_⟩,_⟩:=hob;obtain ⟨cap,A,rfl,hA,hc1,hc2,hc3⟩:=hx.ls_at hL;have hr:=run_sliceBounds (P:=P) (w:=w) true len cap vlo vhi a b (ha.imp (fun h=>⟨h.2.1,h.2.2⟩) (fun h=>h)) (hb.imp (fun h=>⟨h.2.1,h.2.2⟩) (fun h=>h)) h0 h1 (by omega);have hnm:((b - a).toNat)=b.toNat - a.toNat:=by omega
   refine .mk (v:=.slice (some (if cap=a.toNat then A else A.add (a.toNat*sz))) (b.toNat - a.toNat) (cap - a.toNat)) ?_ (.ls _ _ _ _ _ fun L' hL'=>?_) h
   ·have hrun:(Instr.sliceAt t (.slice (some A) len cap) vlo vhi none).run P w = .ok (.slice (if cap=a.toNat then some A else (some A).map (·.add (a.toNat*sz))) (b.toNat - a.toNat) (cap - a.toNat)) w:=by
     simp [Instr.sliceAt,Instr.slice,run_underlying hu,hr,run_sizeOf' he,hz1]
    rw [hrun];congr 2;by_cases hca:cap=a.toNat
    ·rw [if_pos hca,if_pos hca]
    ·rw [if_neg hca,if_neg hca];rfl
   ·rw [hL] at hL';cases hL';have hab:b.toNat≤cap:=by omega
    refine ⟨_,_,by rw [hnm],?_,by rw [hnm];omega,?_,by omega⟩
    ·by_cases hca:cap=a.toNat
     ·exact .inr (by omega)
     ·rw [if_neg hca];rcases hA with rfl | h0
      ·left;rw [Addr.add_none];congr 1;rw [Nat.add_mul];omega
      ·exact absurd h0 (by omega)
    ·have:a.toNat+bo+(cap - a.toNat)=bo+cap:=by omega
     rw [this];exact hc2
  ·exact h.elim
 ·rename_i id r bo len sz;have hb:=(ifB_iff.1 h).1;replace h:=(ifB_iff.1 h).2;simp only [Bool.and_eq_true] at hb;obtain ⟨⟨hs,hz⟩,hl⟩:=hb;obtain ⟨e,ei,hu,he,hes,_⟩:=tyOf_slice hs;have hz1:ei.size=sz:=by rw [←hes];exact Nat.eq_of_beq_eq_true hz
  obtain ⟨a,h,ha⟩:=bound_ok h hlo hlo0;obtain ⟨b,h,hb⟩:=bound_ok h hhi hhi0;obtain ⟨⟨h0,h1,h2⟩,h⟩:=h;obtain ⟨L,hL⟩:=live_some hm hl;obtain ⟨M,hM,cap,A,rfl,hA,hc1,hc2,hc3⟩:=hx.ms_at hL;have hr:=run_sliceBounds (P:=P) (w:=w) true len cap vlo vhi a b (ha.imp (fun h=>⟨h.2.1,h.2.2⟩) (fun h=>h)) (hb.imp (fun h=>⟨h.2.1,h.2.2⟩) (fun h=>h)) h0 h1 (by omega);have hnm:((b - a).toNat)=b.toNat - a.toNat:=by omega
  refine .mk (v:=.slice (some (if cap=a.toNat then A else A.add (a.toNat*sz))) (b.toNat - a.toNat) (cap - a.toNat)) ?_ (.ms _ _ _ _ _ _ fun L' hL'=>?_) h
  ·have hrun:(Instr.sliceAt t (.slice (some A) len cap) vlo vhi none).run P w = .ok (.slice (if cap=a.toNat then some A else (some A).map (·.add (a.toNat*sz))) (b.toNat - a.toNat) (cap - a.toNat)) w:=by
    simp [Instr.sliceAt,Instr.slice,run_underlying hu,hr,run_sizeOf' he,hz1]
   rw [hrun];congr 2;by_cases hca:cap=a.toNat
   ·rw [if_pos hca,if_pos hca]
   ·rw [if_neg hca,if_neg hca];rfl
  ·rw [hL] at hL';cases hL';have hab:b.toNat≤cap:=by omega
   refine ⟨M,hM,_,_,by rw [hnm],?_,by rw [hnm];omega,?_,by omega⟩
   ·by_cases hca:cap=a.toNat
    ·exact .inr (by omega)
    ·rw [if_neg hca];rcases hA with rfl | h0
     ·left;rw [Addr.add_none];congr 1;rw [Nat.add_mul];omega
     ·exact absurd h0 (by omega)
   ·have:a.toNat+bo+(cap - a.toNat)=bo+cap:=by omega
    rw [this];exact hc2
 ·rename_i id n sz;obtain ⟨hb,h⟩:=ifB_iff.1 h;simp only [Bool.and_eq_true] at hb;obtain ⟨⟨⟨hs,hz⟩,hn⟩,hl⟩:=hb;obtain ⟨L,hL⟩:=live_some hm hl;obtain ⟨hxv,hkn,hN⟩:=hx.ap_at hL;subst hxv;obtain ⟨i,n',e,ei,_,hu,he,hes,hen,_⟩:=tyOf_array hs;have hz1:ei.size=sz:=by rw [←hes];exact Nat.eq_of_beq_eq_true hz
  have hn':n'=n:=by rw [←hen];exact Nat.eq_of_beq_eq_true hn
  subst hn';obtain ⟨a,h,ha⟩:=bound_ok h hlo hlo0;obtain ⟨b,h,hb⟩:=bound_ok h hhi hhi0;obtain ⟨⟨h0,h1,h2⟩,h⟩:=h;have hr:=run_sliceBounds (P:=P) (w:=w) false n' n' vlo vhi a b (ha.imp (fun h=>⟨h.2.1,h.2.2⟩) (fun h=>h)) (hb.imp (fun h=>⟨h.2.1,h.2.2⟩) (fun h=>h)) h0 h1 (by omega);have hnm:((b - a).toNat)=b.toNat - a.toNat:=by omega
  refine .mk (v:=.slice (some (if n'=a.toNat then (⟨L.b,L.o,none⟩:Addr) else (⟨L.b,L.o,none⟩:Addr).add (a.toNat*sz))) (b.toNat - a.toNat) (n' - a.toNat)) ?_ (.ls _ _ _ _ _ fun L' hL'=>?_) h
  ·simp [Instr.sliceAt,Instr.sureAddr,run_underlying hu,hr,run_sizeOf' he,hz1]
  ·rw [hL] at hL';cases hL';have e1:a.toNat+(n' - a.toNat)=n':=by omega
   refine ⟨_,_,by rw [hnm],?_,by rw [hnm];omega,by rw [e1];exact hN,by rw [e1];exact hkn⟩;by_cases hca:n'=a.toNat
   ·exact .inr (by omega)
   ·rw [if_neg hca,Addr.add_none];exact .inl rfl
 ·exact h.elim
end
end Go.V
namespace Go.V
section
variable {P:Program} {G:Ctx} {κ:Know} {ρ:Place} {l:LL} {w:World} {K:AV→Prop}
theorem exists_vals {cs:List AV} {b o:Nat} (hc:∀(k:Nat) (c:AV),cs[k]? = some c→∃x,w.cell? ⟨b,o+k,none⟩=some x∧AVR κ ρ x c∧oneV x=true) (off:Nat):∀n,off+n≤cs.length →
  ∃vs:List Value,vs.length=n∧(∀(k:Nat) v,vs[k]? = some v→w.cell? ⟨b,o+(off+k),none⟩=some v∧oneV v=true)∧∀(k:Nat) v c,vs[k]? = some v→cs[off+k]? = some c→AVR κ ρ v c
 | 0,_=>⟨[],rfl,by simp,by simp⟩
 | n+1,h=>by
  obtain ⟨vs,h1,h2,h3⟩:=exists_vals hc off n (by omega);have hl:off+n < cs.length:=by omega
  obtain ⟨x,hx1,hx2,hx3⟩:=hc (off+n) cs[off+n] (List.getElem?_eq_getElem hl);refine ⟨vs++[x],by simp [h1],fun k v hk=>?_,fun k v c hk hcs=>?_⟩
  ·rcases Nat.lt_or_ge k n with hkn | hkn
   ·rw [List.getElem?_append_left (by omega)] at hk;exact h2 k v hk
   ·rw [List.getElem?_append_right (by omega),h1] at hk;have:k - n=0:=by
     rcases Nat.eq_zero_or_pos (k - n) with h | h
     ·exact h
     ·rw [List.getElem?_eq_none (by simp;omega)] at hk;cases hk
    rw [this] at hk;simp at hk;subst hk;have:k=n:=by omega
    subst this;exact ⟨hx1,hx3⟩
  ·rcases Nat.lt_or_ge k n with hkn | hkn
   ·rw [List.getElem?_append_left (by omega)] at hk;exact h3 k v c hk hcs
   ·rw [List.getElem?_append_right (by omega),h1] at hk;have:k - n=0:=by
     rcases Nat.eq_zero_or_pos (k - n) with h | h
     ·exact h
     ·rw [List.getElem?_eq_none (by simp;omega)] at hk;cases hk
    rw [this] at hk;simp at hk;subst hk;have:k=n:=by omega
    subst this;rw [List.getElem?_eq_getElem hl] at hcs;cases hcs;exact hx2
theorem run_isAgg' {t:TypeId} {u:TypeDesc} (h:P.underlying t=some u):(isAgg t).run P w = .ok (isAggD u) w:=by
 simp only [isAgg,Sem.run_bind,run_underlying h,Result.andThen_ok]
 cases u <;> rfl
theorem run_loadVar_agg {t:TypeId} {i:TypeInfo} {u:TypeDesc} (hu:P.underlying t=some u) (hi:P.info? t=some i) (ha:isAggD u=true) (b o:Nat) (vs:List Value) (hn:vs.length=i.size)
  (h:∀(k:Nat) v,vs[k]? = some v→w.cell? ⟨b,o+k,none⟩=some v):(loadVar t ⟨b,o,none⟩).run P w = .ok (.agg vs.toArray) w:=by
 have hl:=run_loadCells_list (P:=P) w ⟨b,o,none⟩ vs (fun j v hj=>by rw [Addr.add_none];exact h j v hj)
 rw [hn] at hl
 simp [loadVar,run_isAgg' hu,ha,run_sizeOf' hi,hl]
theorem run_loadVar_one {t:TypeId} {u:TypeDesc} (hu:P.underlying t=some u) (ha:isAggD u=false) (b o:Nat) (v:Value) (h:w.cell? ⟨b,o,none⟩=some v):(loadVar t ⟨b,o,none⟩).run P w = .ok v w:=by
 simp [loadVar,run_isAgg' hu,ha,h]
theorem getElem?_dt {α:Type} (cs:List α) (off n k:Nat) (h:k < n):((cs.drop off).take n)[k]? = cs[off+k]? := by
 rw [List.getElem?_take_of_lt h,List.getElem?_drop]
theorem partK_sound {t:TypeId} {off b o:Nat} {cs:List AV} (ht:okT (tyOf P t)=true) (hc:∀(k:Nat) (c:AV),cs[k]? = some c→∃x,w.cell? ⟨b,o+k,none⟩=some x∧AVR κ ρ x c∧oneV x=true) (h:partK (tyOf P t) off cs K) :
  Pure P κ ρ w (loadVar t ⟨b,o+off,none⟩) K:=by
 obtain ⟨i,u,hi,hu,hs,_,hg⟩:=tyOf_ok ht;unfold partK at h;split at h
 ·rename_i hag;have ha:isAggD u=true:=by rw [←hg];exact hag
  have key:∀n,n=i.size→off+n≤cs.length→∃vs:List Value,(loadVar t ⟨b,o+off,none⟩).run P w = .ok (.agg vs.toArray) w∧vs.length=n∧(∀(k:Nat) v,vs[k]? = some v→oneV v=true)∧∀(k:Nat) v c,vs[k]? = some v→cs[off+k]? = some c→AVR κ ρ v c:=by
   intro n hn hle;obtain ⟨vs,h1,h2,h3⟩:=exists_vals hc off n hle;exact ⟨vs,run_loadVar_agg hu hi ha b (o+off) vs (by rw [h1,hn]) (fun k v hk=>by rw [Nat.add_assoc];exact (h2 k v hk).1),h1,fun k v hk=>(h2 k v hk).2,h3⟩
  split at h
  ·rename_i hb;simp only [Bool.and_eq_true] at hb;have e0:=Nat.eq_of_beq_eq_true hb.1;have e1:=Nat.eq_of_beq_eq_true hb.2;obtain ⟨vs,h1,h2,ho,h3⟩:=key (tyOf P t).size hs (by omega);refine .mk h1 (.ag _ _ (by simp;omega) (fun k v hk=>ho k v (by simpa using hk)) fun k v c hk hcs=>?_) h;exact h3 k v c (by simpa using hk) (by rw [e0,Nat.zero_add];exact hcs)
  ·obtain ⟨hle,h⟩:=ifB_iff.1 h;obtain ⟨vs,h1,h2,ho,h3⟩:=key (tyOf P t).size hs (Nat.le_of_ble_eq_true hle);have hle':=Nat.le_of_ble_eq_true hle;refine .mk h1 (.ag _ _ (by simp;omega) (fun k v hk=>ho k v (by simpa using hk)) fun k v c hk hcs=>?_) h;have hk':vs[k]? = some v:=by simpa using hk
   have hkl:k < (tyOf P t).size:=by
    rcases Nat.lt_or_ge k vs.length with h | h
    ·omega
    ·rw [List.getElem?_eq_none h] at hk';cases hk'
   rw [getElem?_dt _ _ _ _ hkl] at hcs;exact h3 k v c hk' hcs
 ·rename_i hag;have ha:isAggD u=false:=by rw [←hg];exact hag
  obtain ⟨x,hx,hk⟩:=headK_iff.1 h;have hx':cs[off]? = some x:=by simpa using hx
  obtain ⟨v,hv1,hv2,_⟩:=hc off x hx';exact .mk (run_loadVar_one hu ha b (o+off) v hv1) hv2 hk
theorem dIs_get {cs:List C} {k:Nat} {c:AV} (h:(dIs cs)[k]? = some c):∃c',cs[k]? = some c'∧c = .d c':=by
 simp only [dIs,List.getElem?_map,Option.map_eq_some_iff] at h
 obtain ⟨c',h1,h2⟩:=h
 exact ⟨c',h1,h2.symm⟩
theorem rowK_sound {t:TypeId} {sz f b o i:Nat} {rows:List (List C)} (ht:okT (tyOf P t)=true) (hz:∀r,r∈rows→r.length=sz)
  (hc:∀(k:Nat) (c:C),rows.flatten[k]? = some c→∃x,w.cell? ⟨b,o+k,none⟩=some x∧Repr κ x c∧oneV x=true) (h:rowK (tyOf P t) sz f rows i K) :
  Pure P κ ρ w (loadVar t ⟨b,o+(i*sz+f),none⟩) K:=by
 obtain ⟨ti,u,hi,hu,hs,_,hg⟩:=tyOf_ok ht;unfold rowK at h;split at h
 ·rename_i hag;obtain ⟨hb,r,hr,hk⟩:=ifB_iff.1 h;simp only [Bool.and_eq_true] at hb;have e0:=Nat.eq_of_beq_eq_true hb.1;have e1:=Nat.eq_of_beq_eq_true hb.2;subst e0;have hrl:r.length=sz:=hz r (List.mem_of_getElem? hr);have hc':∀(k:Nat) (c:AV),(dIs r)[k]? = some c→∃x,w.cell? ⟨b,(o+i*sz)+k,none⟩=some x∧AVR κ ρ x c∧oneV x=true:=by
   intro k c hkc;obtain ⟨c',h1,rfl⟩:=dIs_get hkc;have hks:k < sz:=by
    rcases Nat.lt_or_ge k r.length with h | h
    ·omega
    ·rw [List.getElem?_eq_none h] at h1;cases h1
   obtain ⟨x,hx1,hx2,hx3⟩:=hc (i*sz+k) c' (by rw [flatten_get hz hr k hks];exact h1);exact ⟨x,by rw [Nat.add_assoc];exact hx1,.d _ _ hx2,hx3⟩
  have:=partK_sound (P:=P) (K:=K) (off:=0) ht hc' (by
   unfold partK;rw [hag];have:(Nat.beq 0 0 && Nat.beq (dIs r).length (tyOf P t).size)=true:=by
    simp only [Bool.and_eq_true];exact ⟨rfl,by simp [dIs,hrl,e1]⟩
   simp only [this];exact hk)
  rw [←Nat.add_assoc];exact this
 ·rename_i hag;obtain ⟨r,hr,hk⟩:=h;obtain ⟨c,hcr,hk⟩:=headCK_iff.1 hk;have hcr':r[f]? = some c:=by simpa using hcr
  have hrl:r.length=sz:=hz r (List.mem_of_getElem? hr);have hfs:f < sz:=by
   rcases Nat.lt_or_ge f r.length with h | h
   ·omega
   ·rw [List.getElem?_eq_none h] at hcr';cases hcr'
  obtain ⟨x,hx1,hx2,_⟩:=hc (i*sz+f) c (by rw [flatten_get hz hr f hfs];exact hcr');have ha:isAggD u=false:=by rw [←hg];exact hag
  exact .mk (run_loadVar_one hu ha b _ x hx1) (.d _ _ hx2) hk
theorem loadK_sound {t:TypeId} {a:AV} {va:Value} (hm:Mem G κ ρ l w) (ht:okT (tyOf P t)=true) (h:loadK (tyOf P t) a l K) (ha:AVR κ ρ va a):Pure P κ ρ w (Instr.loadAt t va) K:=by
 have at_:∀(b o:Nat),(Instr.loadAt t (.pointer (some ⟨b,o,none⟩)))=loadVar t ⟨b,o,none⟩:=fun _ _=>rfl
 unfold loadK at h
 split at h
 ·rename_i id off
  split at h
  ·rename_i m cs hl
   have hob:=hm.ob id
   rw [hl] at hob
   obtain ⟨L,arr,E,fz,hL,hh,_,_,hcs⟩:=hob
   have e:=ha.lp_at hL;subst e
   rw [at_]
   exact partK_sound ht (fun k c hk=>by obtain ⟨x,h1,h2,h3⟩:=hcs k c hk;exact ⟨x,by rw [cell_heap hh];exact h1,h2,h3⟩) h
  ·exact h.elim
 ·rename_i id i f sz
  split at h
  ·rename_i m sz' rows hl
   have hz:=(ifB_iff.1 h).1
   replace h:=(ifB_iff.1 h).2
   have e0:=Nat.eq_of_beq_eq_true hz
   subst e0
   have hob:=hm.ob id
   rw [hl] at hob
   obtain ⟨L,arr,E,fz,hL,hh,_,_,hz,_,hcs⟩:=hob
   have e:=ha.pe_at hL;subst e
   rw [at_]
   exact rowK_sound ht hz (fun k c hk=>by obtain ⟨x,h1,h2,h3⟩:=hcs k c hk;exact ⟨x,by rw [cell_heap hh];exact h1,h2,h3⟩) h
  ·rename_i sz' ix rows hl
   obtain ⟨hb,c,hc,h⟩:=ifB_iff.1 h
   simp only [Bool.and_eq_true,Bool.not_eq_true'] at hb
   have e0:=Nat.eq_of_beq_eq_true hb.1.1
   have e1:=Nat.eq_of_beq_eq_true hb.1.2
   subst e0;subst e1
   have hob:=hm.ob id
   rw [hl] at hob
   obtain ⟨L,hL,⟨arr,E,hh,_,_,hcs⟩,_⟩:=hob
   have e:=ha.pe_at hL;subst e
   rw [at_]
   obtain ⟨ti,u,hi,hu,hs,_,hg⟩:=tyOf_ok ht
   obtain ⟨x,h1,h2,h3⟩:=hcs i c hc
   refine .mk (run_loadVar_one hu (by rw [←hg];exact hb.2) L.b _ x (by rw [cell_heap hh,Nat.mul_one,Nat.add_zero];exact h1)) (x:=match c with | .d c=>.d c | .r r lo n=>.ms id r lo n sz') ?_ ?_
   ·cases c with
    | d c=>exact .d _ _ h2
    | r r lo n=>exact .ms _ _ _ _ _ _ fun L' hL'=>by rw [hL] at hL';cases hL';exact h2
   ·cases c with
    | d c=>exact (forceC_eq c fun c=>K (.d c))▸h
    | r r lo n=>exact h
  ·exact h.elim
 ·rename_i id r i f sz
  split at h
  ·rename_i sz' ix rows hl
   have hz:=(ifB_iff.1 h).1
   replace h:=(ifB_iff.1 h).2
   obtain ⟨row,hrow,h⟩:=h
   have e0:=Nat.eq_of_beq_eq_true hz
   subst e0
   have hob:=hm.ob id
   rw [hl] at hob
   obtain ⟨L,hL,_,_,hrows,_⟩:=hob
   obtain ⟨M,hM,e⟩:=ha.me_at hL;subst e
   obtain ⟨arr,E,hh,_,hz,_,hcs⟩:=hrows r M row hM hrow
   rw [at_]
   exact rowK_sound ht hz (fun k c hk=>by obtain ⟨x,h1,h2,h3⟩:=hcs k c hk;exact ⟨x,by rw [cell_heap hh];exact h1,h2,h3⟩) h
  ·exact h.elim
 ·rename_i rows i f sz
  cases ha with
  | ep b o _ _ _ _ vs hz hk hr =>
   rw [at_]
   exact rowK_sound ht hz (fun k c hkc=>⟨vs k,hm.kn _ _ _ (hk k c hkc),hr k c hkc,hm.one.1 _ _ _ (hk k c hkc)⟩) h
 ·rename_i cs off
  cases ha with
  | pp b o _ _ vs hk hr =>
   rw [at_]
   exact partK_sound ht (fun k c hkc=>by obtain ⟨c',h1,rfl⟩:=dIs_get hkc;exact ⟨vs k,hm.kn _ _ _ (hk k c' h1),.d _ _ (hr k c' h1),hm.one.1 _ _ _ (hk k c' h1)⟩) h
 ·exact h.elim
theorem setK_iff {x:AV}:∀{cs:List AV} {off:Nat} {K:List AV→Prop},setK cs off x K↔off < cs.length∧K (cs.set off x)
 | [],off,K=>by cases off <;> simp [setK]
 | c :: r,0,K=>by simp [setK]
 | c :: r,n+1,K=>by simp [setK,setK_iff]
theorem evK_iff {t:TL} {x:Operand} {K:AV→Prop}:evK t x K↔K (ev t x):=by rw [evK_eq]
def evps (t:TL):List (Nat×Operand)→List (Nat×AV)
 | []=>[]
 | (i,x) :: r=>(i,ev t x) :: evps t r
theorem partsK_iff {t:TL}:∀{ps:List (Nat×Operand)} {K:List (Nat×AV)→Prop},partsK t ps K↔K (evps t ps)
 | [],K=>by simp [partsK,evps]
 | (i,x) :: r,K=>by simp [partsK,evps,evK_eq,partsK_iff]
def CellsR (κ:Know) (ρ:Place) (vs:Array Value) (cs:List AV):Prop:=vs.size=cs.length∧(∀(k:Nat) v,vs[k]? = some v→oneV v=true)∧∀(k:Nat) v c,vs[k]? = some v→cs[k]? = some c→AVR κ ρ v c
theorem CellsR.agg {vs:Array Value} {cs:List AV} (h:CellsR κ ρ vs cs):AVR κ ρ (.agg vs) (.ag cs):=.ag _ _ h.1 h.2.1 h.2.2
theorem oneVs_get:∀{vs:List Value},oneVs vs=true→∀(i:Nat) v,vs[i]? = some v→oneV v=true
 | [],_,i,v,h=>by simp at h
 | x :: r,hv,0,v,h=>by simp only [oneVs,Bool.and_eq_true] at hv;simp at h;subst h;exact hv.1
 | x :: r,hv,i+1,v,h=>by simp only [oneVs,Bool.and_eq_true] at hv;exact oneVs_get hv.2 i v (by simpa using h)
theorem CellsR.zeros (vs:List Value) (ho:oneVs vs=true):CellsR κ ρ vs.toArray (zeros vs):=by
 refine ⟨by simp [Go.V.zeros],fun k v hk=>oneVs_get ho k v (by simpa using hk),fun k v c hk hc=>?_⟩;simp only [Go.V.zeros,List.getElem?_map,Option.map_eq_some_iff] at hc;obtain ⟨u,h1,rfl⟩:=hc;have:vs[k]? = some v:=by simpa using hk
 rw [this] at h1;cases h1;exact .mk _
theorem CellsR.set {vs:Array Value} {cs:List AV} (h:CellsR κ ρ vs cs) {v:Value} {c:AV} (hv:AVR κ ρ v c) (ho:oneV v=true) (i:Nat):CellsR κ ρ (vs.setIfInBounds i v) (cs.set i c):=by
 refine ⟨by simpa using h.1,fun k u hk=>?_,fun k u d hk hd=>?_⟩
 ·by_cases hki:i=k
  ·subst hki;by_cases hi:i < vs.size
   ·rw [Array.getElem?_setIfInBounds_self_of_lt hi] at hk;cases hk;exact ho
   ·rw [Array.getElem?_eq_none (by simp;omega)] at hk;cases hk
  ·rw [Array.getElem?_setIfInBounds_ne hki] at hk;exact h.2.1 k u hk
 by_cases hki:i=k
 ·subst hki;by_cases hi:i < vs.size
  ·have hi':i < cs.length:=by rw [←h.1];exact hi
   rw [Array.getElem?_setIfInBounds_self_of_lt hi] at hk;rw [List.getElem?_set_self hi'] at hd;cases hk;cases hd;exact hv
  ·have hi':¬i < cs.length:=by rw [←h.1];exact hi
   rw [List.getElem?_eq_none (by simp;omega)] at hd;cases hd
 ·rw [Array.getElem?_setIfInBounds_ne hki] at hk;rw [List.getElem?_set_ne hki] at hd;exact h.2.2 k u d hk hd
def setAll (vs:Array Value) (off:Nat):List Value→Array Value
 | []=>vs
 | v :: r=>setAll (vs.setIfInBounds off v) (off+1) r
theorem fold_setAll (off:Nat):∀(xs:List Value) (j:Nat) (vs:Array Value),(xs.zipIdx j).foldl (fun cs (c,i)=>cs.setIfInBounds (off+i) c) vs=setAll vs (off+j) xs
 | [],_,_=>rfl
 | x :: r,j,vs=>by
  simp only [List.zipIdx_cons,List.foldl_cons,setAll]
  rw [fold_setAll off r (j+1)];congr 1
theorem CellsR.setAll:∀{xs:List Value} {ys:List AV} {vs:Array Value} {cs:List AV} {off:Nat},CellsR κ ρ vs cs→xs.length=ys.length→(∀(k:Nat) v,xs[k]? = some v→oneV v=true)→(∀(k:Nat) v c,xs[k]? = some v→ys[k]? = some c→AVR κ ρ v c)→off+ys.length≤cs.length →
  CellsR κ ρ (Go.V.setAll vs off xs) (cs.take off++(ys++cs.drop (off+ys.length)))
 | [],[],vs,cs,off,h,_,_,_,_=>by simpa [Go.V.setAll] using h
 | [],_ :: _,_,_,_,_,hl,_,_,_=>by simp at hl
 | _ :: _,[],_,_,_,_,hl,_,_,_=>by simp at hl
 | x :: xs,y :: ys,vs,cs,off,h,hl,ho,hv,hle=>by
  have h1:=CellsR.setAll (xs:=xs) (ys:=ys) (off:=off+1) (h.set (hv 0 x y rfl rfl) (ho 0 x rfl) off) (by simpa using hl) (fun k v hk=>ho (k+1) v (by simpa using hk)) (fun k v c hk hc=>hv (k+1) v c (by simpa using hk) (by simpa using hc)) (by simp at hle ⊢;omega);have hoff:off < cs.length:=by simp at hle;omega
  have e:(cs.set off y).take (off+1)++(ys++(cs.set off y).drop (off+1+ys.length))=cs.take off++(y :: ys++cs.drop (off+(y :: ys).length)):=by
   rw [List.take_succ_eq_append_getElem (by simpa using hoff),List.take_set_of_le (by omega),List.drop_set_of_lt (by omega)];simp
   congr 1;omega
  rw [e] at h1;exact h1
theorem CellsR.size {vs:Array Value} {cs:List AV} (h:CellsR κ ρ vs cs):vs.size=cs.length:=h.1
end
end Go.V
namespace Go.V
section
variable {P:Program} {G:Ctx} {κ:Know} {ρ:Place} {l:LL} {w:World} {K:AV→Prop}
theorem mapM_list {α β:Type} (f:α→Sem β) (g:α→β):∀(xs:List α),(∀x,x∈xs→(f x).run P w = .ok (g x) w)→(xs.mapM f).run P w = .ok (xs.map g) w
 | [],_=>by simp
 | x :: r,h=>by
  have ih:=mapM_list f g r (fun y hy=>h y (by simp [hy]))
  simp only [List.mapM_cons,Sem.run_bind,h x (by simp),Result.andThen_ok,ih,Sem.run_pure,List.map_cons]
theorem mapM_array {α β:Type} (f:α→Sem β) (g:α→β) (xs:Array α) (h:∀x,x∈xs.toList→(f x).run P w = .ok (g x) w):(xs.mapM f).run P w = .ok (xs.map g) w:=by
 rw [Array.mapM_eq_mapM_toList]
 simp only [Sem.run_map,mapM_list f g xs.toList h,Result.andThen_ok]
 congr 1
 apply Array.ext'
 simp
theorem zero_some {z:Option Value} {n:Nat} (h:(zeroOf z).length=n) (hn:0 < n):∃v,z=some v∧v.cells.toList=zeroOf z:=by
 cases z with
 | none=>simp [zeroOf] at h;omega
 | some v=>exact ⟨v,rfl,rfl⟩
theorem run_zeroValue' {t:TypeId} {i:TypeInfo} {v:Value} (hi:P.info? t=some i) (hz:i.zero=some v):(zeroValue t).run P w = .ok v w:=by
 simp [zeroValue,typeInfo,hi,hz]
theorem allPos_mem:∀{fs:List (Nat×Nat×Bool)},allPos fs=true→∀x,x∈fs→0 < x.2.1
 | [],_,x,h=>by simp at h
 | (o,n,g) :: r,h,x,hx=>by
  simp only [allPos,Bool.and_eq_true] at h
  rcases List.mem_cons.1 hx with rfl | hx
  ·exact Nat.le_of_ble_eq_true h.1
  ·exact allPos_mem h.2 x hx
theorem field_some {f:Field} (h:0 < (fieldOf P f).2.1):∃fi,P.info? f.type=some fi∧(fieldOf P f).1=f.offset∧(fieldOf P f).2.1=fi.size:=by
 unfold fieldOf at h ⊢
 cases hi:P.info? f.type with
 | none=>simp [hi] at h
 | some fi =>
  cases hu:P.underlying f.type with
  | none=>simp [hi,hu] at h
  | some fu=>exact ⟨fi,rfl,rfl,rfl⟩
theorem oneV_cells {v:Value} (h:oneV v=true):v.cells = #[v]:=by cases v <;> first | rfl | (simp [oneV] at h)
theorem oneCell_sound (hm:Mem G κ ρ l w) {y:AV} {v:Value} (h:oneCell l y=true) (hv:AVR κ ρ v y):oneV v=true:=by
 cases y with
 | d c =>
  cases hv.repr with
  | s x=>exact h
  | _=>rfl
 | lp id off=>obtain ⟨L,hL⟩:=live_some hm h;rw [hv.lp_at hL];rfl
 | ls id lo len sz=>obtain ⟨L,hL⟩:=live_some hm h;obtain ⟨_,_,e,_⟩:=hv.ls_at hL;rw [e];rfl
 | ms id r lo len sz=>obtain ⟨L,hL⟩:=live_some hm h;obtain ⟨_,_,_,_,e,_⟩:=hv.ms_at hL;rw [e];rfl
 | _=>simp [oneCell] at h
theorem fill_sound {T:Ty} {places:Array (Nat×Nat)} (hp:∀(i:Nat) off n g r,T.fields.drop i=(off,n,g) :: r→places[i]? = some (off,n))
  (hone:∀y v,oneCell l y=true→AVR κ ρ v y→oneV v=true) :
  ∀{ps:List (Nat×AV)} {vs:List (Nat×Value)} {arr:Array Value} {cs:List AV},buildK T l cs ps K→CellsR κ ρ arr cs→ps.length=vs.length →
   (∀(k:Nat) i x j v,ps[k]? = some (i,x)→vs[k]? = some (j,v)→i=j∧AVR κ ρ v x) →
   ∃arr' cs',Instr.fill (places[·]?) arr vs=some arr'∧CellsR κ ρ arr' cs'∧K (.ag cs')
 | [],[],arr,cs,h,hc,_,_=>⟨arr,cs,rfl,hc,h⟩
 | [],_ :: _,_,_,_,_,hl,_=>by simp at hl
 | _ :: _,[],_,_,_,_,hl,_=>by simp at hl
 | (i,x) :: ps,(j,v) :: vs,arr,cs,h,hc,hl,hv=>by
  obtain ⟨rfl,hx⟩:=hv 0 i x j v rfl rfl;have hv':∀(k:Nat) i x j v,ps[k]? = some (i,x)→vs[k]? = some (j,v)→i=j∧AVR κ ρ v x:=fun k i x j v h1 h2=>hv (k+1) i x j v (by simpa using h1) (by simpa using h2);have hsz:=hc.1;unfold buildK at h;split at h
  ·rename_i off n g r hf;have hpl:=hp _ _ _ _ _ hf;split at h
   ·rename_i xs;obtain ⟨hb,h⟩:=ifB_iff.1 h;simp only [Bool.and_eq_true] at hb;have e1:=Nat.eq_of_beq_eq_true hb.1;have e2:=Nat.le_of_ble_eq_true hb.2;obtain ⟨ys,rfl,hn,hyo,hys⟩:=hx.agg;have hset:=hc.setAll (xs:=ys.toList) (ys:=xs) (off:=off) (by simpa using hn) (fun k v hk=>hyo k v (by simpa using hk)) (fun k v c hk hcc=>hys k v c (by simpa using hk) hcc) (by omega);rw [e1] at hset;obtain ⟨arr',cs',h2,h3,h4⟩:=fill_sound hp hone h hset (by simpa using hl) hv';refine ⟨arr',cs',?_,h3,h4⟩;have hf:ys.zipIdx.foldl (fun cs (c,j)=>cs.setIfInBounds (off+j) c) arr=setAll arr off ys.toList:=by
     rw [←Array.foldl_toList,Array.toList_zipIdx,fold_setAll off ys.toList 0 arr];rfl
    have hy1:ys.size=n:=by omega
    have hy2:¬arr.size < off+ys.size:=by omega
    rw [←h2];simp only [Instr.fill,hpl,Value.cells,hf];simp [hy1];intro h;omega
   ·obtain ⟨hb,h⟩:=ifB_iff.1 h;simp only [Bool.and_eq_true] at hb;have h1:=hone _ _ hb.2 hx;obtain ⟨hlt,h⟩:=setK_iff.1 h;have e1:=Nat.eq_of_beq_eq_true hb.1;obtain ⟨arr',cs',h2,h3,h4⟩:=fill_sound hp hone h (hc.set hx h1 off) (by simpa using hl) hv';refine ⟨arr',cs',?_,h3,h4⟩;have hcond:(decide ((#[v]:Array Value).size≠n) || decide (off+(#[v]:Array Value).size > arr.size))=false:=by simp;omega
    simp only [Instr.fill,hpl,oneV_cells h1,hcond,Bool.false_eq_true,if_false];simpa using h2
  ·exact h.elim
theorem buildK_sound {t:TypeId} {ps:List (Nat×AV)} {vs:Array (Nat×Value)} (hm:Mem G κ ρ l w) (ht:okS (tyOf P t)=true) (h:buildK (tyOf P t) l (zeros (tyOf P t).zero) ps K) (hl:ps.length=vs.size)
  (hv:∀(k:Nat) i x j v,ps[k]? = some (i,x)→vs[k]? = some (j,v)→i=j∧AVR κ ρ v x):Pure P κ ρ w (Instr.build t vs) K:=by
 simp only [okS,Bool.and_eq_true] at ht;obtain ⟨⟨⟨hs,hz⟩,hp⟩,hoz⟩:=ht;obtain ⟨i,fs,hi,hu,hfs,hzo⟩:=tyOf_struct hs;have hz':0 < (tyOf P t).zero.length:=Nat.le_of_ble_eq_true hz;rw [hzo] at hz' h hoz;obtain ⟨zv,hzv,hcl⟩:=zero_some (z:=i.zero) rfl hz';have hfi:∀f,f∈fs.toList→∃fi,P.info? f.type=some fi∧(fieldOf P f).1=f.offset∧(fieldOf P f).2.1=fi.size:=fun f hf =>
  field_some (allPos_mem hp _ (by rw [hfs];exact List.mem_map_of_mem hf))
 have hmap:=mapM_array (P:=P) (w:=w) (fun f:Field=>do pure (f.offset,←sizeOf f.type)) (fun f=>((fieldOf P f).1,(fieldOf P f).2.1)) fs (fun f hf=>by
  obtain ⟨fi,h1,h2,h3⟩:=hfi f hf;simp [run_sizeOf' h1,h2,h3])
 have hplaces:∀(i:Nat) off n g r,(tyOf P t).fields.drop i=(off,n,g) :: r→(fs.map fun f=>((fieldOf P f).1,(fieldOf P f).2.1))[i]? = some (off,n):=by
  intro k off n g r hd;have h0:(tyOf P t).fields[k]? = some (off,n,g):=by
   have:((tyOf P t).fields.drop k)[0]? = some (off,n,g):=by rw [hd];rfl
   simpa using this
  rw [hfs] at h0;simp only [List.getElem?_map,Option.map_eq_some_iff] at h0;obtain ⟨f,h1,h2⟩:=h0;have h1':fs[k]? = some f:=by simpa using h1
  simp [h1',h2]
 rw [←hcl] at h hoz;have hcr:CellsR κ ρ zv.cells (zeros zv.cells.toList):=by
  have:=CellsR.zeros (κ:=κ) (ρ:=ρ) zv.cells.toList hoz;simpa using this
 obtain ⟨arr',cs',h2,h3,h4⟩:=fill_sound (vs:=vs.toList) hplaces (fun y v=>oneCell_sound hm) h hcr (by simpa using hl) (fun k i x j v h1 h2=>hv k i x j v h1 (by simpa using h2));refine .mk ?_ h3.agg h4;simp only [Instr.build,Sem.run_bind,run_zeroValue' hi hzv,Result.andThen_ok,run_underlying hu,hmap,h2,Sem.run_pure]
end
end Go.V
namespace Go.V
def Place.put (ρ:Place) (k:Nat) (L:Option Loc):Place:=fun i=>if i=k then L else ρ i
theorem ments_get {k:Nat}:∀{cs:List AV},AV.ments k cs=false→∀(i:Nat) c,cs[i]? = some c→AV.ment k c=false
 | [],_,i,c,h=>by simp at h
 | x :: r,hm,0,c,h=>by
  simp only [AV.ments,Bool.or_eq_false_iff] at hm
  simp at h;subst h;exact hm.1
 | x :: r,hm,i+1,c,h=>by
  simp only [AV.ments,Bool.or_eq_false_iff] at hm
  exact ments_get hm.2 i c (by simpa using h)
theorem AVR.put {κ:Know} {ρ:Place} {k:Nat} {L:Option Loc} {v:Value} {x:AV} (h:AVR κ ρ v x) (hm:AV.ment k x=false):AVR κ (ρ.put k L) v x:=by
 have ne:∀{id:Nat},Nat.beq id k=false→(ρ.put k L) id=ρ id:=fun {id} h=>if_neg (fun e=>by subst e;simp at h)
 induction h with
 | j x=>exact .j x
 | d x c h=>exact .d x c h
 | ag vs cs hn ho h ih=>exact .ag vs cs hn ho fun i v c h1 h2=>ih i v c h1 h2 (ments_get (by simpa [AV.ment] using hm) i c h2)
 | tup vs cs hn h ih=>exact .tup vs cs hn fun i v c h1 h2=>ih i v c h1 h2 (ments_get (by simpa [AV.ment] using hm) i c h2)
 | lp x id off h=>exact .lp x id off fun L' hL'=>h L' (by rw [ne (by simpa [AV.ment] using hm)] at hL';exact hL')
 | pe x id i f sz h=>exact .pe x id i f sz fun L' hL'=>h L' (by rw [ne (by simpa [AV.ment] using hm)] at hL';exact hL')
 | ap x id n sz h=>exact .ap x id n sz fun L' hL'=>h L' (by rw [ne (by simpa [AV.ment] using hm)] at hL';exact hL')
 | ls x id lo len sz h=>exact .ls x id lo len sz fun L' hL'=>h L' (by rw [ne (by simpa [AV.ment] using hm)] at hL';exact hL')
 | ep b off rows i f sz vs hz h1 h2=>exact .ep b off rows i f sz vs hz h1 h2
 | pp b off cs o vs h1 h2=>exact .pp b off cs o vs h1 h2
 | ms x id r lo len sz h=>exact .ms x id r lo len sz fun L' hL'=>h L' (by rw [ne (by simpa [AV.ment] using hm)] at hL';exact hL')
 | me x id r i f sz h=>exact .me x id r i f sz fun L' hL'=>h L' (by rw [ne (by simpa [AV.ment] using hm)] at hL';exact hL')
theorem AVR.gone {κ:Know} {ρ:Place} {k:Nat} {v:Value} {x:AV} (h:AVR κ ρ v x):AVR κ (ρ.put k none) v x:=by
 have ne:∀{id:Nat} {L:Loc},(ρ.put k none) id=some L→ρ id=some L:=fun {id L} h=>by
  unfold Place.put at h;split at h
  ·cases h
  ·exact h
 induction h with
 | j x=>exact .j x
 | d x c h=>exact .d x c h
 | ag vs cs hn ho h ih=>exact .ag vs cs hn ho fun i v c h1 h2=>ih i v c h1 h2
 | tup vs cs hn h ih=>exact .tup vs cs hn fun i v c h1 h2=>ih i v c h1 h2
 | lp x id off h=>exact .lp x id off fun L' hL'=>h L' (ne hL')
 | pe x id i f sz h=>exact .pe x id i f sz fun L' hL'=>h L' (ne hL')
 | ap x id n sz h=>exact .ap x id n sz fun L' hL'=>h L' (ne hL')
 | ls x id lo len sz h=>exact .ls x id lo len sz fun L' hL'=>h L' (ne hL')
 | ep b off rows i f sz vs hz h1 h2=>exact .ep b off rows i f sz vs hz h1 h2
 | pp b off cs o vs h1 h2=>exact .pp b off cs o vs h1 h2
 | ms x id r lo len sz h=>exact .ms x id r lo len sz fun L' hL'=>h L' (ne hL')
 | me x id r i f sz h=>exact .me x id r i f sz fun L' hL'=>h L' (ne hL')
theorem tment_get {k:Nat}:∀{t:TL},tment k t=false→∀i,AV.ment k (get i t)=false
 | [],_,i=>rfl
 | (j,x) :: r,h,i=>by
  simp only [tment,Bool.or_eq_false_iff] at h
  rw [get_cons];split
  ·exact h.1
  ·exact tment_get h.2 i
theorem lment_get {k:Nat}:∀{l:LL},lment k l=false→lget k l = .no∧∀i w cs,lget i l = .box w cs→AV.ments k cs=false
 | [],_=>⟨rfl,fun i w cs h=>by simp [lget] at h⟩
 | (j,.box m cs) :: r,h=>by
  simp only [lment,Bool.or_eq_false_iff] at h
  obtain ⟨⟨h1,h2⟩,h3⟩:=h
  obtain ⟨h4,h5⟩:=lment_get h3
  have hjk:k≠j:=fun e=>by subst e;simp at h1
  refine ⟨by rw [lget_cons,if_neg hjk];exact h4,fun i w cs' h=>?_⟩
  rw [lget_cons] at h;split at h
  ·cases h;exact h2
  ·exact h5 i w cs' h
 | (j,.no) :: r,h=>by
  simp only [lment,Bool.or_eq_false_iff] at h
  obtain ⟨h4,h5⟩:=lment_get h.2
  have hjk:k≠j:=fun e=>by subst e;simp at h
  refine ⟨by rw [lget_cons,if_neg hjk];exact h4,fun i w cs' h'=>?_⟩
  rw [lget_cons] at h';split at h'
  ·cases h'
  ·exact h5 i w cs' h'
 | (j,.row m sz rows) :: r,h=>by
  simp only [lment,Bool.or_eq_false_iff] at h
  obtain ⟨h4,h5⟩:=lment_get h.2
  have hjk:k≠j:=fun e=>by subst e;simp at h
  refine ⟨by rw [lget_cons,if_neg hjk];exact h4,fun i w cs' h'=>?_⟩
  rw [lget_cons] at h';split at h'
  ·cases h'
  ·exact h5 i w cs' h'
 | (j,.mat sz ix rows) :: r,h=>by
  simp only [lment,Bool.or_eq_false_iff] at h
  obtain ⟨h4,h5⟩:=lment_get h.2
  have hjk:k≠j:=fun e=>by subst e;simp at h
  refine ⟨by rw [lget_cons,if_neg hjk];exact h4,fun i w cs' h'=>?_⟩
  rw [lget_cons] at h';split at h'
  ·cases h'
  ·exact h5 i w cs' h'
theorem heap_lt {w:World} {b:Nat} {o:Obj} (h:w.heap[b]? = some o):b < w.heap.size:=(Array.getElem?_eq_some_iff.1 h).1
theorem RowC.mono {κ κ':Know} (hk:κ.le κ') {o sz kn:Nat} {rows:List (List C)} {arr:Array Value} (h:RowC κ o sz kn rows arr):RowC κ' o sz kn rows arr :=
 ⟨h.1,h.2.1,fun k c hc=>by obtain ⟨x,h1,h2,h3⟩:=h.2.2 k c hc;exact ⟨x,h1,h2.mono hk,h3⟩⟩
theorem MCR.mono {κ κ':Know} (hk:κ.le κ') {ib:List Pl} {sz:Nat} {x:Value} {c:MC} (h:MCR κ ib sz x c):MCR κ' ib sz x c:=by
 cases c with
 | d c=>exact Repr.mono hk h
 | r i lo n=>exact h
theorem MatR.move {κ κ':Know} {w w':World} {L:Loc} {sz:Nat} {ix:List MC} {rows:List (List (List C))} (hk:κ.le κ') (hb:∀b,L.has b→w'.heap[b]? = w.heap[b]?) (h:MatR κ w L sz ix rows):MatR κ' w' L sz ix rows:=by
 obtain ⟨⟨arr,E,h1,h2,h3,h4⟩,h5,h6,h7⟩:=h
 refine ⟨⟨arr,E,by rw [hb _ L.has_b];exact h1,h2,h3,fun k c hc=>?_⟩,h5,fun r M row hM hr=>?_,h7⟩
 ·obtain ⟨x,g1,g2,g3⟩:=h4 k c hc;exact ⟨x,g1,g2.mono hk,g3⟩
 ·obtain ⟨arr,E,g1,g2,g3⟩:=h6 r M row hM hr
  exact ⟨arr,E,by rw [hb _ (Loc.has_i hM)];exact g1,g2,g3.mono hk⟩
theorem ObR.move {κ κ':Know} {ρ ρ':Place} {w w':World} {id:Nat} {o:Ob} (hk:κ.le κ') (h:ObR κ ρ w id o) (hρ:ρ' id=ρ id) (hb:∀L,ρ id=some L→∀b,L.has b→w'.heap[b]? = w.heap[b]?)
  (ha:∀w cs,o = .box w cs→∀(i:Nat) c v,cs[i]? = some c→AVR κ ρ v c→AVR κ' ρ' v c):ObR κ' ρ' w' id o:=by
 cases o with
 | no=>simp only [ObR] at h ⊢;rw [hρ];exact h
 | box m cs =>
  obtain ⟨L,arr,E,fz,h1,h2,h3,h4,h5⟩:=h
  exact ⟨L,arr,E,fz,by rw [hρ];exact h1,by rw [hb L h1 L.b L.has_b];exact h2,h3,h4,fun k c hc=>by obtain ⟨x,h6,h7,h8⟩:=h5 k c hc;exact ⟨x,h6,ha _ _ rfl k c x hc h7,h8⟩⟩
 | row m sz rows =>
  obtain ⟨L,arr,E,fz,h1,h2,h3,h4,h5,h6,h7⟩:=h
  exact ⟨L,arr,E,fz,by rw [hρ];exact h1,by rw [hb L h1 L.b L.has_b];exact h2,h3,h4,h5,h6,fun k c hc=>by obtain ⟨x,h8,h9,h10⟩:=h7 k c hc;exact ⟨x,h8,h9.mono hk,h10⟩⟩
 | mat sz ix rows =>
  obtain ⟨L,h1,h2⟩:=h
  exact ⟨L,by rw [hρ];exact h1,h2.move hk (hb L h1)⟩
def Ob.mine:Ob→Prop
 | .row true _ _=>True
 | .mat _ _ _=>True
 | _=>False
theorem Ob.mine.wr {o:Ob} (h:o.mine):o.wr=true:=by
 cases o with
 | no=>exact h.elim
 | box m cs=>exact h.elim
 | row m sz rows=>cases m with
  | true=>rfl
  | false=>exact h.elim
 | mat sz ix rows=>rfl
theorem Ob.mine.ne {o:Ob} (h:o.mine):o≠.no:=fun e=>by subst e;exact h
theorem Ob.mine.nb {o:Ob} (h:o.mine) (m:Bool) (cs:List AV):o≠.box m cs:=fun e=>by subst e;exact h
theorem ObR.mine {κ:Know} {ρ ρ':Place} {w:World} {id id':Nat} {o:Ob} (h:ObR κ ρ w id o) (ho:o.mine) (hρ:ρ' id'=ρ id):ObR κ ρ' w id' o:=by
 cases o with
 | no=>exact ho.elim
 | box m cs=>exact ho.elim
 | row m sz rows =>
  obtain ⟨L,arr,E,fz,g1,g2⟩:=h
  exact ⟨L,arr,E,fz,hρ.trans g1,g2⟩
 | mat sz ix rows =>
  obtain ⟨L,g1,g2⟩:=h
  exact ⟨L,hρ.trans g1,g2⟩
theorem ObR.loc {κ:Know} {ρ:Place} {w:World} {id:Nat} {o:Ob} (h:ObR κ ρ w id o) (ho:o.mine):∃L,ρ id=some L:=by
 cases o with
 | no=>exact ho.elim
 | box m cs=>exact ho.elim
 | row m sz rows =>
  obtain ⟨L,arr,E,fz,g1,g2⟩:=h
  exact ⟨L,g1⟩
 | mat sz ix rows =>
  obtain ⟨L,g1,g2⟩:=h
  exact ⟨L,g1⟩
section
variable {P:Program} {G:Ctx} {κ:Know} {ρ:Place} {t:TL} {l:LL} {a:Act} {w:World}
theorem Mem.known_block (hm:Mem G κ ρ l w) {b o:Nat} {x:Value} (h:κ b o x):b < w.heap.size:=by
 have:=hm.kn b o x h
 simp only [World.cell?] at this
 split at this
 ·rename_i hh;exact heap_lt hh
 ·cases this
theorem Rel.allocI (hr:Rel G κ ρ t l a w) {k:Nat} {o:Ob} {arr:Array Value} {E:TypeId} {kn:Nat} (ht:tment k t=false) (hl:lment k l=false) (hk:k < 1000000)
  (ib:List Pl) (hib:∀M,M∈ib→(∀j Lj,j≠k→ρ j=some Lj→¬Lj.has M.b)∧(∀o x,¬κ M.b o x)∧(G.w0.heap.size≤M.b∨G.M M.b)∧M.b < w.heap.size)
  (w':World) (hw':w'.heap=w.heap.push (.cells arr E)) (hos:w'.os=w.os) (htp:w'.tape=w.tape) (hou:w'.output=w.output)
  (ho:ObR κ (ρ.put k (some ⟨w.heap.size,0,arr.size,kn,ib⟩)) w' k o):Rel G κ (ρ.put k (some ⟨w.heap.size,0,arr.size,kn,ib⟩)) t ((k,o) :: l) a w':=by
 obtain ⟨hm,hdf,hsz,htm⟩:=hr;obtain ⟨hl1,hl2⟩:=lment_get hl;have hold:∀b,b < w.heap.size→w'.heap[b]? = w.heap[b]? := fun b hb=>by rw [hw',Array.getElem?_push,if_neg (by omega)]
 have hρk:∀i,i≠k→(ρ.put k (some ⟨w.heap.size,0,arr.size,kn,ib⟩)) i=ρ i:=fun i hi=>if_neg hi;have hcell:∀b o x,w.cell? ⟨b,o,none⟩=some x→w'.cell? ⟨b,o,none⟩=some x:=by
  intro b o x h;simp only [World.cell?] at h ⊢;have hb:b < w.heap.size:=by
   split at h
   ·rename_i hh;exact heap_lt hh
   ·cases h
  rw [hold b hb];exact h
 refine ⟨⟨fun id=>?_,fun i j Li Lj hij hi hj hwi=>?_,fun i L hi hwi=>?_,fun i L hi b hb=>?_,fun b o x h=>hcell _ _ _ (hm.kn b o x h),hm.one,hm.kn0,?_,fun i L hi h=>?_⟩,hdf,hsz,fun i=>(htm i).put (tment_get ht i)⟩
 ·rw [lget_cons];split
  ·rename_i e;subst e;exact ho
  ·rename_i hne;refine (hm.ob id).move (Know.le_refl _) (hρk id hne) (fun L hL b hb=>hold b (hm.own id L hL b hb)) ?_;intro m cs hb i c v hc hv;exact hv.put (ments_get (hl2 id m cs hb) i c hc)
 ·by_cases hik:i=k
  ·subst hik;have:Li=⟨w.heap.size,0,arr.size,kn,ib⟩:=by simpa [Place.put] using hi.symm
   subst this;rw [hρk j (Ne.symm hij)] at hj;intro b hb hb';rcases hb with e | ⟨M,h,e⟩
   ·have:=hm.own j Lj hj b hb';simp only at e;omega
   ·rw [e] at hb';exact (hib M h).1 j Lj (Ne.symm hij) hj hb'
  ·rw [hρk i hik] at hi;rw [lget_cons,if_neg hik] at hwi;by_cases hjk:j=k
   ·subst hjk;have:Lj=⟨w.heap.size,0,arr.size,kn,ib⟩:=by simpa [Place.put] using hj.symm
    subst this;intro b hb hb';rcases hb' with e | ⟨M,h,e⟩
    ·have:=hm.own i Li hi b hb;simp only at e;omega
    ·rw [e] at hb;exact (hib M h).1 i Li hik hi hb
   ·rw [hρk j hjk] at hj;exact hm.sep i j Li Lj hij hi hj hwi
 ·by_cases hik:i=k
  ·subst hik;have:L=⟨w.heap.size,0,arr.size,kn,ib⟩:=by simpa [Place.put] using hi.symm
   subst this;intro b hb;rcases hb with e | ⟨M,h,e⟩
   ·simp only at e;subst e;exact ⟨fun o x h=>Nat.lt_irrefl _ (hm.known_block h),.inl hm.fr.size⟩
   ·rw [e];exact ⟨(hib M h).2.1,(hib M h).2.2.1⟩
  ·rw [hρk i hik] at hi;rw [lget_cons,if_neg hik] at hwi;exact hm.fre i L hi hwi
 ·rw [hw',Array.size_push];by_cases hik:i=k
  ·subst hik;have:L=⟨w.heap.size,0,arr.size,kn,ib⟩:=by simpa [Place.put] using hi.symm
   subst this;rcases hb with e | ⟨M,h,e⟩
   ·simp only at e;omega
   ·have:=(hib M h).2.2.2;omega
  ·rw [hρk i hik] at hi;have:=hm.own i L hi b hb;omega
 ·have:=hm.fr;exact ⟨hos.trans this.os,htp.trans this.tape,hou.trans this.output,by rw [hw',Array.size_push];have:=this.size;omega,
   fun b hb hM=>by rw [hold b (Nat.lt_of_lt_of_le hb this.size)];exact this.block b hb hM⟩
 ·rw [hρk i (by omega)] at h;exact hm.par i L hi h
theorem Rel.alloc (hr:Rel G κ ρ t l a w) {k:Nat} {o:Ob} {arr:Array Value} {E:TypeId} {kn:Nat} (ht:tment k t=false) (hl:lment k l=false) (hk:k < 1000000)
  (w':World) (hw':w'.heap=w.heap.push (.cells arr E)) (hos:w'.os=w.os) (htp:w'.tape=w.tape) (hou:w'.output=w.output)
  (ho:ObR κ (ρ.put k (some ⟨w.heap.size,0,arr.size,kn,[]⟩)) w' k o):Rel G κ (ρ.put k (some ⟨w.heap.size,0,arr.size,kn,[]⟩)) t ((k,o) :: l) a w' :=
 hr.allocI ht hl hk [] (fun M h=>by cases h) w' hw' hos htp hou ho
end
end Go.V
namespace Go.V
section
variable {P:Program} {G:Ctx} {κ:Know} {ρ:Place} {t:TL} {l:LL} {a:Act} {w:World} {K:AV→TL→LL→Prop}
def Goes (G:Ctx) (κ:Know) (a:Act) (r:Result Value) (K:AV→TL→LL→Prop):Prop :=
 ∃v w' κ' ρ' x t' l',r = .ok v w'∧κ.le κ'∧Rel G κ' ρ' t' l' a w'∧AVR κ' ρ' v x∧K x t' l'
theorem oneC_sound {c:C} {v:Value} (h:oneC c=true) (hv:Repr κ v c):oneV v=true:=by
 cases hv with
 | s x=>exact h
 | _=>rfl
theorem ev_ment {k:Nat} (ht:tment k t=false) (o:Operand):AV.ment k (ev t o)=false:=by
 cases o with
 | tmp i=>exact tment_get ht i
 | global g=>exact (show AV.ment k (gptr g (gget g globT))=false from ment_gptr _ _ _)
 | _=>rfl
theorem small {k:Nat} (h:Nat.ble 1000000 k=false):k < 1000000:=by
 rcases Nat.lt_or_ge k 1000000 with h' | h'
 ·exact h'
 ·rw [Nat.ble_eq_true_of_le h'] at h;cases h
theorem newK_sound {dst:Option Nat} {x:Nat→AV} {o:Ob} (hr:Rel G κ ρ t l a w) (h:newK dst x o t l K) {arr:Array Value} {E:TypeId} {kn:Nat} {v:Value} {r:Result Value}
  (hrun:r = .ok v { w with heap:=w.heap.push (.cells arr E) })
  (ho:∀k,tment k t=false→lment k l=false→ObR κ (ρ.put k (some ⟨w.heap.size,0,arr.size,kn,[]⟩)) { w with heap:=w.heap.push (.cells arr E) } k o∧AVR κ (ρ.put k (some ⟨w.heap.size,0,arr.size,kn,[]⟩)) v (x k)) :
  Goes G κ a r K:=by
 unfold newK at h
 split at h
 ·rename_i k
  split at h
  ·rename_i hm
   simp only [Bool.or_eq_false_iff] at hm
   obtain ⟨h1,h2⟩:=ho k hm.1.1 hm.1.2
   exact ⟨v,_,κ,_,x k,t,_,hrun,Know.le_refl _,hr.alloc hm.1.1 hm.1.2 (small hm.2) { w with heap:=w.heap.push (.cells arr E) } rfl rfl rfl rfl h1,h2,h⟩
  ·exact h.elim
 ·exact h.elim
theorem heap_push_self (w:World) (o:Obj):({ w with heap:=w.heap.push o }:World).heap[w.heap.size]? = some o:=by simp
theorem put_self (k:Nat) (L:Option Loc):ρ.put k L k=L:=if_pos rfl
theorem lp_new (k b N kn:Nat):AVR κ (ρ.put k (some ⟨b,0,N,kn,[]⟩)) (.pointer (some ⟨b,0,none⟩)) (.lp k 0) :=
 .lp _ _ _ fun L hL=>by rw [put_self] at hL;cases hL;rfl
theorem allocK_sound {e:TypeId} {dst:Option Nat} (hr:Rel G κ ρ t l a w) (ht:okT (tyOf P e)=true) (h:allocK (tyOf P e) dst t l K):Goes G κ a ((Instr.alloc e true (.tuple #[])).run P w) K:=by
 obtain ⟨i,u,hi,hu,hs,hz,hg⟩:=tyOf_ok ht;unfold allocK at h;split at h
 ·rename_i h6;obtain ⟨hb,h⟩:=ifB_iff.1 h;simp only [Bool.and_eq_true] at hb;obtain ⟨⟨⟨⟨hb1,hb2⟩,hb3⟩,hb4⟩,hb5⟩:=hb;have hz':0 < (tyOf P e).zero.length:=Nat.le_of_ble_eq_true hb2;have hlen:(tyOf P e).zero.length=(tyOf P e).size:=Nat.eq_of_beq_eq_true hb1;have hlen2:(tyOf P e).ebytes=(tyOf P e).size:=Nat.eq_of_beq_eq_true hb5;rw [hz] at hz' h hb3 hlen;obtain ⟨zv,hzv,hcl⟩:=zero_some (z:=i.zero) rfl hz';rw [←hcl] at h hb3 hlen;have hsz:zv.cells.size=(tyOf P e).ebytes:=by rw [hlen2,←hlen];simp
  have hrl:∀r,r∈(zv.cells.toList.map fun v=>[C.s v])→r.length=1:=fun r hr=>by obtain ⟨v,_,rfl⟩:=List.mem_map.1 hr;rfl
  have hfl:(zv.cells.toList.map fun v=>[C.s v]).flatten=zv.cells.toList.map C.s:=by
   generalize zv.cells.toList=q;induction q with
   | nil=>rfl
   | cons x r ih=>simp [ih]
  refine newK_sound (kn:=(tyOf P e).ebytes) (arr:=zv.cells) (E:=e) (v:=.pointer (some ⟨w.heap.size,0,none⟩)) hr h ?_ ?_
  ·simp only [Instr.alloc,Sem.run_bind,run_zeroValue' hi hzv,Result.andThen_ok,newVar,newRow,run_newObj,Sem.run_pure]
  ·intro k h3 h4;refine ⟨⟨_,zv.cells,e,(0,0),put_self _ _,heap_push_self _ _,rfl,fun _=>rfl,hrl,by simp [hsz],fun j c hc=>?_⟩,.ap _ _ _ _ fun L hL=>?_⟩
   ·rw [hfl] at hc;simp only [List.getElem?_map,Option.map_eq_some_iff] at hc;obtain ⟨v,hv,rfl⟩:=hc;exact ⟨v,by simpa using hv,.s v,oneVs_get hb3 j v hv⟩
   ·rw [put_self] at hL;cases hL;exact ⟨rfl,Nat.le_refl _,by simp [hsz]⟩
 rename_i h6;obtain ⟨hb,h⟩:=ifB_iff.1 h;simp only [Bool.and_eq_true] at hb;obtain ⟨⟨hb1,hb2⟩,hb3⟩:=hb;have hz':0 < (tyOf P e).zero.length:=Nat.le_of_ble_eq_true hb2;rw [hz] at hz' h hb3;obtain ⟨zv,hzv,hcl⟩:=zero_some (z:=i.zero) rfl hz';rw [←hcl] at h hb3;refine newK_sound (kn:=0) (arr:=zv.cells) (E:=e) (v:=.pointer (some ⟨w.heap.size,0,none⟩)) hr h ?_ ?_
 ·simp only [Instr.alloc,Sem.run_bind,run_zeroValue' hi hzv,Result.andThen_ok,newVar,newRow,run_newObj,Sem.run_pure]
 ·intro k h3 h4;refine ⟨⟨_,zv.cells,e,(0,0),put_self _ _,heap_push_self _ _,rfl,fun _=>rfl,fun j c hc=>?_⟩,lp_new _ _ _ _⟩;simp only [zeros,List.getElem?_map,Option.map_eq_some_iff] at hc;obtain ⟨v,hv,rfl⟩:=hc;exact ⟨v,by simpa using hv,.mk v,oneVs_get hb3 j v hv⟩
theorem boxK_sound {e:TypeId} {dst:Option Nat} {x:AV} {vx:Value} (hr:Rel G κ ρ t l a w) (h:boxK dst x t l K) (hx:AVR κ ρ vx x) (hn:∀k,tment k t=false→AV.ment k x=false):Goes G κ a ((Instr.box e vx).run P w) K:=by
 have hrun:(Instr.box e vx).run P w = .ok (.pointer (some ⟨w.heap.size,0,none⟩)) { w with heap:=w.heap.push (.cells vx.cells e) }:=by
  simp only [Instr.box,Sem.run_bind,newVar,newRow,run_newObj,Result.andThen_ok,Sem.run_pure]
 unfold boxK at h;split at h
 ·rename_i cs;obtain ⟨vs,rfl,hvn,hvo,hv⟩:=hx.agg;refine newK_sound (kn:=0) (arr:=vs) (E:=e) hr h hrun ?_;intro k h3 h4;refine ⟨⟨_,vs,e,(0,0),put_self _ _,heap_push_self _ _,rfl,fun _=>rfl,fun j c hc=>?_⟩,lp_new _ _ _ _⟩;have hj:j < vs.size:=by
   rcases Nat.lt_or_ge j cs.length with h | h
   ·omega
   ·rw [List.getElem?_eq_none h] at hc;cases hc
  have hvj:vs[j]? = some vs[j]:=by simp
  exact ⟨vs[j],by simp,(hv j _ c hvj hc).put (ments_get (by simpa [AV.ment] using hn k h3) j c hc),hvo j _ hvj⟩
 ·obtain ⟨hb,h⟩:=ifB_iff.1 h;have h1:=oneCell_sound hr.m hb hx;refine newK_sound (kn:=0) (arr:=vx.cells) (E:=e) hr h hrun ?_;intro k h4 h5;refine ⟨⟨_,vx.cells,e,(0,0),put_self _ _,heap_push_self _ _,rfl,fun _=>rfl,fun j c hc=>?_⟩,lp_new _ _ _ _⟩;have hj:j=0:=by
   rcases Nat.eq_zero_or_pos j with h | h
   ·exact h
   ·rw [List.getElem?_eq_none (by simp;omega)] at hc;cases hc
  subst hj;simp at hc;subst hc;exact ⟨vx,by rw [oneV_cells h1];rfl,hx.put (hn k h4),h1⟩
theorem toCs_dIs:∀{xs:List AV} {cs:List C},toCs xs=some cs→xs=dIs cs
 | [],cs,h=>by simp [toCs] at h;subst h;rfl
 | .d c :: r,cs,h=>by
  simp only [toCs] at h
  split at h
  ·rename_i cs' hc;cases h;rw [toCs_dIs hc];rfl
  ·cases h
 | .j :: _,_,h | .ag _ :: _,_,h | .tup _ :: _,_,h | .lp _ _ :: _,_,h | .pe _ _ _ _ :: _,_,h | .ap _ _ _ :: _,_,h | .ls _ _ _ _ :: _,_,h | .ep _ _ _ _ :: _,_,h | .pp _ _ :: _,_,h | .ms _ _ _ _ _ :: _,_,h | .me _ _ _ _ _ :: _,_,h=>by simp [toCs] at h
def RowR (κ:Know) (vs:List Value) (cs:List C):Prop:=vs.length=cs.length∧(∀(k:Nat) v,vs[k]? = some v→oneV v=true)∧∀(k:Nat) v c,vs[k]? = some v→cs[k]? = some c→Repr κ v c
theorem cells_rowR {x:AV} {v:Value} {cs:List C} (hx:AVR κ ρ v x) (h:toCs (cellsOf x)=some cs) (ho:oneCs cs=true):RowR κ v.cells.toList cs:=by
 have e:=toCs_dIs h
 cases x with
 | ag xs =>
  obtain ⟨vs,rfl,hn,hvo,hv⟩:=hx.agg
  simp only [cellsOf] at e
  subst e
  refine ⟨by simpa [Value.cells,dIs] using hn,fun k u hk=>hvo k u (by simpa [Value.cells] using hk),fun k u c hk hc=>?_⟩
  exact (hv k u (.d c) (by simpa [Value.cells] using hk) (by simp [dIs,hc])).repr
 | d c =>
  simp only [cellsOf,dIs] at e
  have e':cs=[c]:=by
   match cs,e with
   | [c'],e=>simp at e;rw [e]
  subst e'
  have h1:oneV v=true:=oneC_sound (by simpa [oneCs] using ho) hx.repr
  rw [oneV_cells h1]
  refine ⟨rfl,fun k u hk=>?_,fun k u c' hk hc=>?_⟩
  ·match k with
   | 0=>simp at hk;subst hk;exact h1
   | k+1=>simp at hk
  ·match k with
   | 0=>simp at hk hc;subst hk;subst hc;exact hx.repr
   | k+1=>simp at hk
 | _=>simp [cellsOf,toCs] at h
end
end Go.V
namespace Go.V
section
variable {P:Program} {G:Ctx} {κ:Know} {ρ:Place} {t:TL} {l:LL} {a:Act} {w:World} {K:AV→TL→LL→Prop}
def CellsC (κ:Know) (vs:List Value) (cs:List C):Prop:=(∀(k:Nat) v,vs[k]? = some v→oneV v=true)∧∀(k:Nat) v c,vs[k]? = some v→cs[k]? = some c→Repr κ v c
theorem setAll_size:∀(vs:List Value) (arr:Array Value) (o:Nat),(setAll arr o vs).size=arr.size
 | [],_,_=>rfl
 | v :: r,arr,o=>by rw [setAll,setAll_size r];simp
theorem setAll_out:∀(vs:List Value) (arr:Array Value) (o k:Nat),k < o∨o+vs.length≤k→(setAll arr o vs)[k]? = arr[k]?
 | [],_,_,_,_=>rfl
 | v :: r,arr,o,k,h=>by
  simp only [List.length_cons] at h
  rw [setAll,setAll_out r _ (o+1) k (by omega),Array.getElem?_setIfInBounds_ne (by omega)]
theorem setAll_in:∀(vs:List Value) (arr:Array Value) (o k:Nat),o+vs.length≤arr.size→k < vs.length→(setAll arr o vs)[o+k]? = vs[k]?
 | [],_,_,_,_,h=>by simp at h
 | v :: r,arr,o,0,h,_=>by
  simp only [List.length_cons] at h
  rw [Nat.add_zero,setAll,setAll_out r _ (o+1) o (by omega),Array.getElem?_setIfInBounds_self_of_lt (by omega)]
  rfl
 | v :: r,arr,o,k+1,h,hk=>by
  simp only [List.length_cons] at h hk
  have:=setAll_in r (arr.setIfInBounds o v) (o+1) k (by simp;omega) (by omega)
  rw [setAll,show o+(k+1)=o+1+k by omega,this]
  rfl
theorem fill_rows {n:Nat}:∀{ps:List (Nat×AV)} {vs:List (Nat×Value)} {arr:Array Value} {m:Nat} {K:List (List C)→Prop},rowsK n m ps K→ps.length=vs.length→(m+ps.length)*n≤arr.size →
  (∀(k:Nat) i x j v,ps[k]? = some (i,x)→vs[k]? = some (j,v)→i=j∧AVR κ ρ v x) →
  ∃news rows,Instr.fill (fun i=>some (i*n,n)) arr vs=some (setAll arr (m*n) news)∧news.length=ps.length*n∧rows.length=ps.length∧(∀r,r∈rows→r.length=n)∧CellsC κ news rows.flatten∧K rows
 | [],[],arr,m,K,h,_,_,_=>⟨[],[],rfl,by simp,rfl,by simp,⟨by simp,by simp⟩,h⟩
 | [],_ :: _,_,_,_,_,hl,_,_=>by simp at hl
 | _ :: _,[],_,_,_,_,hl,_,_=>by simp at hl
 | (i,x) :: ps,(j,v) :: vs,arr,m,K,h,hl,hs,hv=>by
  obtain ⟨rfl,hx⟩:=hv 0 i x j v rfl rfl;have hv':∀(k:Nat) i x j v,ps[k]? = some (i,x)→vs[k]? = some (j,v)→i=j∧AVR κ ρ v x:=fun k i x j v h1 h2=>hv (k+1) i x j v (by simpa using h1) (by simpa using h2);unfold rowsK at h;obtain ⟨him,h⟩:=ifB_iff.1 h;have e:=Nat.eq_of_beq_eq_true him;subst e;split at h
  ·rename_i cs hcs;obtain ⟨hb,h⟩:=ifB_iff.1 h;simp only [Bool.and_eq_true] at hb;have hn:=Nat.eq_of_beq_eq_true hb.1;obtain ⟨r1,r2,r3⟩:=cells_rowR hx hcs hb.2;have hvn:v.cells.size=n:=by rw [←hn,←r1];simp
   simp only [List.length_cons] at hs hl;have hs1:i*n+(n+ps.length*n)≤arr.size:=by
    have:(i+(ps.length+1))*n=i*n+(n+ps.length*n):=by rw [Nat.add_mul,Nat.add_mul];omega
    omega
   obtain ⟨news,rows,h1,h2,h3,h4,h5,h6⟩:=fill_rows (vs:=vs) (arr:=setAll arr (i*n) v.cells.toList) (m:=i+1) h (by omega) (by
    rw [setAll_size];have:(i+1+ps.length)*n=i*n+(n+ps.length*n):=by rw [Nat.add_mul,Nat.add_mul];omega
    omega) hv'
   refine ⟨v.cells.toList++news,cs :: rows,?_,?_,by simp [h3],?_,?_,h6⟩
   ·have hf:v.cells.zipIdx.foldl (fun cs (c,j)=>cs.setIfInBounds (i*n+j) c) arr=setAll arr (i*n) v.cells.toList:=by
     rw [←Array.foldl_toList,Array.toList_zipIdx,fold_setAll (i*n) v.cells.toList 0 arr];rfl
    have hcond:(decide (v.cells.size≠n) || decide (i*n+v.cells.size > arr.size))=false:=by simp [hvn];omega
    have happ:∀(xs ys:List Value) (arr:Array Value) (o:Nat),setAll arr o (xs++ys)=setAll (setAll arr o xs) (o+xs.length) ys:=by
     intro xs;induction xs with
     | nil=>intro ys arr o;rfl
     | cons x r ih=>intro ys arr o;simp only [List.cons_append,setAll,List.length_cons];rw [ih];congr 1;omega
    rw [happ];have:i*n+v.cells.toList.length=(i+1)*n:=by rw [Nat.add_mul,Array.length_toList,hvn];omega
    rw [this,←h1];simp only [Instr.fill,hcond,Bool.false_eq_true,if_false];simp only [hf]
   ·simp only [List.length_append,Array.length_toList,hvn,h2,List.length_cons];rw [Nat.add_mul];omega
   ·intro r hr;rcases List.mem_cons.1 hr with rfl | hr
    ·exact hn
    ·exact h4 r hr
   ·have hcl:cs.length=v.cells.toList.length:=r1.symm;refine ⟨fun k u hk=>?_,fun k u c hk hc=>?_⟩
    ·rcases Nat.lt_or_ge k v.cells.toList.length with hlt | hge
     ·rw [List.getElem?_append_left hlt] at hk;exact r2 k u hk
     ·rw [List.getElem?_append_right hge] at hk;exact h5.1 _ u hk
    ·rw [List.flatten_cons] at hc;rcases Nat.lt_or_ge k v.cells.toList.length with hlt | hge
     ·rw [List.getElem?_append_left hlt] at hk;rw [List.getElem?_append_left (by omega)] at hc;exact r3 k u c hk hc
     ·rw [List.getElem?_append_right hge] at hk;rw [List.getElem?_append_right (by omega),hcl] at hc;exact h5.2 _ u c hk hc
  ·exact h.elim
theorem row_new {k:Nat} {arr:Array Value} {e:TypeId} {w':World} {sz n cap:Nat} {rows:List (List C)} {b:Nat} (hb:w'.heap[b]? = some (.cells arr e (0,0))) (hz:∀r,r∈rows→r.length=sz) (hn:rows.length=n) (hc:n≤cap) (hs:arr.size=cap*sz)
  (hcells:∀(k:Nat) (c:C),rows.flatten[k]? = some c→∃x,arr[k]? = some x∧Repr κ x c∧oneV x=true) :
  ObR κ (ρ.put k (some ⟨b,0,arr.size,n,[]⟩)) w' k (.row true sz rows)∧AVR κ (ρ.put k (some ⟨b,0,arr.size,n,[]⟩)) (.slice (some ⟨b,0,none⟩) n cap) (.ls k 0 n sz):=by
 refine ⟨⟨_,arr,e,(0,0),put_self _ _,hb,rfl,fun _=>rfl,hz,by simp [hn],fun j c hc=>?_⟩,.ls _ _ _ _ _ fun L hL=>?_⟩
 ·simpa using hcells j c hc
 ·rw [put_self] at hL;cases hL
  exact ⟨cap,_,rfl,.inl (by simp),hc,by simp [hs],by simpa using hc⟩
theorem buildSliceK0_sound {e:TypeId} {n:Nat} {ps:List (Nat×AV)} {vs:Array (Nat×Value)} {dst:Option Nat} (hr:Rel G κ ρ t l a w) (h:buildSliceK0 (tyOf P e) n ps dst t l K) (hl:ps.length=vs.size)
  (hv:∀(k:Nat) i x j v,ps[k]? = some (i,x)→vs[k]? = some (j,v)→i=j∧AVR κ ρ v x):Goes G κ a ((Instr.buildSlice e n vs).run P w) K:=by
 obtain ⟨hb,h⟩:=ifB_iff.1 h;simp only [Bool.and_eq_true] at hb;obtain ⟨⟨⟨⟨hs,hpn⟩,hle⟩,hez⟩,hep⟩:=hb;have hpn:=Nat.eq_of_beq_eq_true hpn;have hle:=Nat.le_of_ble_eq_true hle;have hez:=Nat.eq_of_beq_eq_true hez;have hep:=Nat.le_of_ble_eq_true hep;obtain ⟨el,ei,hu,hei,hes,_,hezo⟩:=tyOf_slice hs;obtain ⟨zv,hzv,hcl⟩:=zero_some (z:=ei.zero) rfl (by rw [←hezo];exact hep);have hes':0 < ei.size:=by rw [←hes];omega
 rw [hes] at h hle;let zarr:Array Value:=if n*ei.size=0 then #[] else zv.cells
 obtain ⟨news,rows,h1,h2,h3,h4,h5,h6⟩:=fill_rows (κ:=κ) (ρ:=ρ) (vs:=vs.toList) (arr:=(Array.range (n*ei.size)).map (zarr[· % zarr.size]!)) (m:=0) h (by simpa using hl) (by simp [hpn]) (fun k i x j v h1 h2=>hv k i x j v h1 (by simpa using h2));rw [Nat.zero_mul] at h1;have hasz:(setAll ((Array.range (n*ei.size)).map (zarr[· % zarr.size]!)) 0 news).size=n*ei.size:=by rw [setAll_size];simp
 refine newK_sound (kn:=n) (arr:=setAll ((Array.range (n*ei.size)).map (zarr[· % zarr.size]!)) 0 news) (E:=el) (v:=.slice (some ⟨w.heap.size,0,none⟩) n n) hr h6 ?_ ?_
 ·have hng:¬(n*ei.size > 2 ^ 24):=by omega
  by_cases h0:n*ei.size=0
  ·simp only [zarr,if_pos h0] at h1;simp only [Instr.buildSlice,Sem.run_bind,run_underlying hu,Result.andThen_ok,run_sizeOf' hei,if_neg hng,if_pos h0,Sem.run_pure,h1,newRow,run_newObj,zarr]
  ·simp only [zarr,if_neg h0] at h1;simp only [Instr.buildSlice,Sem.run_bind,run_underlying hu,Result.andThen_ok,run_sizeOf' hei,if_neg hng,if_neg h0,run_zeroValue' hei hzv,Sem.run_pure,h1,newRow,run_newObj,zarr]
 ·intro k _ _;have hrn:rows.length=n:=by rw [h3,hpn]
  refine row_new (heap_push_self _ _) h4 hrn (Nat.le_refl n) hasz fun j c hc=>?_;have hj:j < news.length:=by
   have:rows.flatten.length=rows.length*ei.size:=flatten_length h4;rcases Nat.lt_or_ge j rows.flatten.length with hh | hh
   ·rw [h2,←h3];omega
   ·rw [List.getElem?_eq_none hh] at hc;cases hc
  have hg:=setAll_in news ((Array.range (n*ei.size)).map (zarr[· % zarr.size]!)) 0 j (by simp [h2,hpn]) hj;rw [Nat.zero_add] at hg;exact ⟨news[j],by rw [hg];simp,h5.2 j _ c (by simp) hc,h5.1 j _ (by simp)⟩
theorem replicate_flatten {α:Type} (r:List α):∀(n k:Nat) (c:α),(List.replicate n r).flatten[k]? = some c→r[k % r.length]? = some c∧k < n*r.length
 | 0,k,c,h=>by simp at h
 | n+1,k,c,h=>by
  rw [List.replicate_succ,List.flatten_cons] at h
  rcases Nat.lt_or_ge k r.length with hlt | hge
  ·rw [List.getElem?_append_left hlt] at h
   rw [Nat.mod_eq_of_lt hlt]
   exact ⟨h,by rw [Nat.add_mul];omega⟩
  ·rw [List.getElem?_append_right hge] at h
   obtain ⟨h1,h2⟩:=replicate_flatten r n _ c h
   rw [Nat.mod_eq_sub_mod hge]
   exact ⟨h1,by rw [Nat.add_mul];omega⟩
theorem makeK_sound {e:TypeId} {n m:AV} {vn vm:Value} {dst:Option Nat} (hr:Rel G κ ρ t l a w) (h:makeK (tyOf P e) n m dst t l K) (hn:AVR κ ρ vn n) (hm:AVR κ ρ vm m):Goes G κ a ((Instr.makeSlice e vn vm).run P w) K:=by
 unfold makeK at h;split at h
 ·rename_i x y;have e1:=hn.val;subst e1;have e2:=hm.val;subst e2;obtain ⟨hb,⟨hc1,hc2,hc3,hc4⟩,h⟩:=ifB_iff.1 h;simp only [Bool.and_eq_true] at hb;obtain ⟨⟨⟨hs,hez⟩,hep⟩,hov⟩:=hb;have hez:=Nat.eq_of_beq_eq_true hez;have hep:=Nat.le_of_ble_eq_true hep;obtain ⟨el,ei,hu,hei,hes,heb,hezo⟩:=tyOf_slice hs;obtain ⟨zv,hzv,hcl⟩:=zero_some (z:=ei.zero) rfl (by rw [←hezo];exact hep);have hzs:zv.cells.size=ei.size:=by rw [←hes,←hez,hezo,←hcl];simp
  have hsp:0 < ei.size:=by rw [←hes];omega
  rw [heb] at hc3;rw [hes,hezo,←hcl] at h;rw [hezo,←hcl] at hov;have hrun:=run_make (P:=P) w e el ei zv hu hei hzv .i64 .i64 x y hc1 hc2 (by have:=Int.mul_comm y ei.bytes;omega) (by omega);refine newK_sound (kn:=x.toNat) (arr:=madeCells zv.cells (y.toNat*ei.size)) (E:=el) (v:=.slice (some ⟨w.heap.size,0,none⟩) x.toNat y.toNat) hr h hrun ?_;intro k _ _;refine row_new (heap_push_self _ _) (by intro r hr;rw [List.eq_of_mem_replicate hr];simp [hzs]) (by simp) (by omega) (size_madeCells _ _) fun j c hc=>?_;obtain ⟨h1,h2⟩:=replicate_flatten _ _ _ _ hc;simp only [List.getElem?_map,List.length_map,Array.length_toList,hzs,Option.map_eq_some_iff] at h1 h2;obtain ⟨u,h3,rfl⟩:=h1;refine ⟨u,?_,.s u,oneVs_get hov _ u h3⟩;have hxy:x.toNat*ei.size≤y.toNat*ei.size:=Nat.mul_le_mul_right _ (by omega);have hj:j < y.toNat*ei.size:=by omega
  have h4:zv.cells[j % ei.size]? = some u:=by simpa using h3
  simp only [madeCells];rw [Array.getElem?_map,Array.getElem?_range,if_pos hj,hzs];simp only [Option.map_some]
  congr 1
  rw [getElem!_def,h4]
 ·exact h.elim
end
end Go.V
namespace Go.V
section
variable {P:Program} {G:Ctx} {κ:Know} {ρ:Place} {t:TL} {l:LL} {a:Act} {w:World}
structure ButB (w w':World) (b:Nat):Prop where
 os:w'.os=w.os
 tape:w'.tape=w.tape
 output:w'.output=w.output
 size:w'.heap.size=w.heap.size
 block:∀k,k≠b→w'.heap[k]? = w.heap[k]?
theorem ButB.refl (w:World) (b:Nat):ButB w w b:=⟨rfl,rfl,rfl,rfl,fun _ _=>rfl⟩
theorem ButB.trans {w w' w'':World} {b:Nat} (h:ButB w w' b) (h':ButB w' w'' b):ButB w w'' b :=
 ⟨h'.os.trans h.os,h'.tape.trans h.tape,h'.output.trans h.output,h'.size.trans h.size,fun k hk=>(h'.block k hk).trans (h.block k hk)⟩
theorem heap_setCell {w:World} {b o:Nat} {arr:Array Value} {E:TypeId} {fz:Nat×Nat} (h:w.heap[b]? = some (.cells arr E fz)) (v:Value) :
  (w.setCell ⟨b,o,none⟩ v).heap[b]? = some (.cells (arr.setIfInBounds o v) E fz)∧ButB w (w.setCell ⟨b,o,none⟩ v) b:=by
 refine ⟨?_,rfl,rfl,rfl,by simp [World.setCell],fun k hk=>?_⟩
 ·simp [World.setCell,Array.getElem?_modify,h]
 ·simp [World.setCell,Array.getElem?_modify,Ne.symm hk]
theorem heap_setCells {b:Nat} {E:TypeId} {fz:Nat×Nat}:∀(vs:List Value) (w:World) (o:Nat) (arr:Array Value),w.heap[b]? = some (.cells arr E fz) →
  (w.setCells b o vs).heap[b]? = some (.cells (setAll arr o vs) E fz)∧ButB w (w.setCells b o vs) b
 | [],w,o,arr,h=>⟨h,ButB.refl w b⟩
 | v :: r,w,o,arr,h=>by
  obtain ⟨h1,h2⟩:=heap_setCell (o:=o) h v
  obtain ⟨h3,h4⟩:=heap_setCells r _ (o+1) _ h1
  exact ⟨h3,h2.trans h4⟩
theorem oneV_cell' {v:Value} (h:oneV v=true):v.oneCell'=true:=by cases v <;> first | rfl | (simp [oneV] at h)
theorem run_storeCells' {b o:Nat} {arr:Array Value} {E:TypeId} (h:w.heap[b]? = some (.cells arr E (0,0))) (vs:List Value) (hle:o+vs.length≤arr.size) (ho:∀(k:Nat) v,vs[k]? = some v→oneV v=true) :
  (storeCells ⟨b,o,none⟩ vs).run P w = .ok () (w.setCells b o vs):=by
 have:=run_storeCells_cells (P:=P) b o vs 0 w (fun j hj=>by rw [cell_heap h];simp;omega) (fun j hj=>by simp [World.frozen?,h]) (fun v hv=>by
  obtain ⟨k,hk⟩:=List.mem_iff_getElem?.1 hv
  exact oneV_cell' (ho k v hk))
 simpa using this
theorem Mem.change {k:Nat} {o':Ob} {l':LL} {ρ':Place} {b:Nat} {w':World} (hm:Mem G κ ρ l w) (hw:ButB w w' b)
  (hb:∀j L,j≠k→ρ j=some L→¬L.has b) (hκ:∀o x,¬κ b o x) (hfr:G.w0.heap.size≤b∨G.M b)
  (hρ:∀j,j≠k→ρ' j=ρ j∨ρ' j=none∧lget j l' = .no) (hl:∀j,j≠k→lget j l'=lget j l∨ρ' j=none∧lget j l' = .no) (hk:∀L,ρ' k=some L→∀b',L.has b'→(b'=b∨((∀j Lj,j≠k→ρ j=some Lj→¬Lj.has b')∧(∀o x,¬κ b' o x)∧(G.w0.heap.size≤b'∨G.M b')))∧b' < w'.heap.size)
  (hav:∀v x j m cs,lget j l = .box m cs→x∈cs→AVR κ ρ v x→AVR κ ρ' v x) (hll:lget k l'=o') (ho:ObR κ ρ' w' k o') (hpk:∀L,1000000≤k→ρ' k=some L→G.ρ0 k=some L):Mem G κ ρ' l' w':=by
 have hbk:∀j L,j≠k→ρ' j=some L→ρ j=some L∧lget j l'=lget j l:=fun j L hj hL=>by
  rcases hρ j hj with h1 | ⟨h1,_⟩
  ·rcases hl j hj with h2 | ⟨h2,_⟩
   ·exact ⟨h1▸hL,h2⟩
   ·rw [h2] at hL;cases hL
  ·rw [h1] at hL;cases hL
 have hkk:∀L,ρ' k=some L→∀b',L.has b'→∀j Lj,j≠k→ρ j=some Lj→¬Lj.has b':=fun L hL b' h j Lj hj hLj=>by
  rcases (hk L hL b' h).1 with e | e
  ·rw [e];exact hb j Lj hj hLj
  ·exact e.1 j Lj hj hLj
 refine ⟨fun id=>?_,fun i j Li Lj hij hi hj hwi=>?_,fun i L hi hwi=>?_,fun i L hi b' h=>?_,fun c o x h=>?_,hm.one,hm.kn0,?_,fun i L hi h=>?_⟩
 ·by_cases hid:id=k
  ·subst hid;rw [hll];exact ho
  ·rcases hl id hid with h2 | ⟨h2,h3⟩
   ·rcases hρ id hid with h1 | ⟨h1,h3⟩
    ·rw [h2]
     refine (hm.ob id).move (Know.le_refl _) h1 (fun L hL b' hb'=>hw.block b' fun e=>hb id L hid hL (e▸hb')) ?_
     intro m cs e i c v hc hv
     exact hav v c id m cs e (List.mem_of_getElem? hc) hv
    ·rw [h3];exact h1
   ·rw [h3];exact h2
 ·by_cases hik:i=k
  ·subst hik
   exact fun b' h1 h2=>hkk Li hi b' h1 j Lj (Ne.symm hij) (hbk j Lj (Ne.symm hij) hj).1 h2
  ·obtain ⟨hi1,hi2⟩:=hbk i Li hik hi
   by_cases hjk:j=k
   ·subst hjk
    exact fun b' h1 h2=>hkk Lj hj b' h2 i Li hik hi1 h1
   ·rw [hi2] at hwi
    exact hm.sep i j Li Lj hij hi1 (hbk j Lj hjk hj).1 hwi
 ·by_cases hik:i=k
  ·subst hik
   intro b' h
   rcases (hk L hi b' h).1 with e | e
   ·rw [e];exact ⟨hκ,hfr⟩
   ·exact e.2
  ·obtain ⟨hi1,hi2⟩:=hbk i L hik hi
   rw [hi2] at hwi
   exact hm.fre i L hi1 hwi
 ·by_cases hik:i=k
  ·subst hik;exact (hk L hi b' h).2
  ·rw [hw.size];exact hm.own i L (hbk i L hik hi).1 b' h
 ·have hc:c≠b:=fun e=>hκ o x (e▸h)
  have:=hm.kn c o x h
  simp only [World.cell?] at this ⊢
  rw [hw.block c hc];exact this
 ·have:=hm.fr
  refine ⟨hw.os.trans this.os,hw.tape.trans this.tape,hw.output.trans this.output,by rw [hw.size];exact this.size,fun c hc hM=>?_⟩
  have hcb:c≠b:=fun e=>by
   subst e
   rcases hfr with h | h
   ·omega
   ·exact hM h
  rw [hw.block c hcb];exact this.block c hc hM
 ·by_cases hik:i=k
  ·subst hik;exact hpk L hi h
  ·exact hm.par i L hi (hbk i L hik h).1
theorem lget_lset {i:Nat} {o:Ob}:∀{l:LL},lget i l≠.no→∀j,lget j (lset i o l)=if j=i then o else lget j l
 | [],h,j=>by exact absurd rfl h
 | (k,x) :: r,h,j=>by
  have e:lset i o ((k,x) :: r)=if i=k then (k,o) :: r else (k,x) :: lset i o r:=by
   show (bif Nat.beq i k then (k,o) :: r else (k,x) :: lset i o r)=_
   by_cases h:i=k
   ·subst h;simp
   ·have:Nat.beq i k=false:=Bool.eq_false_iff.2 fun e=>h (Nat.eq_of_beq_eq_true e)
    simp [this,h]
  rw [lget_cons] at h
  rw [e]
  by_cases hik:i=k
  ·subst hik
   rw [if_pos rfl,lget_cons,lget_cons]
   split <;> rfl
  ·rw [if_neg hik] at h
   rw [if_neg hik,lget_cons,lget_cons,lget_lset h j]
   by_cases hjk:j=k
   ·subst hjk;simp [Ne.symm hik]
   ·simp [hjk]
theorem lsetK_iff {i:Nat} {o:Ob}:∀{l:LL} {K:LL→Prop},lsetK i o l K↔K (lset i o l)
 | [],K=>Iff.rfl
 | (k,x) :: r,K=>by
  show (match Nat.beq i k with | true=>K ((k,o) :: r) | false=>lsetK i o r fun r'=>K ((k,x) :: r'))↔K (bif Nat.beq i k then (k,o) :: r else (k,x) :: lset i o r)
  cases Nat.beq i k with
  | true=>exact Iff.rfl
  | false=>exact lsetK_iff (l:=r)
theorem Mem.rewriteB {id:Nat} {o o':Ob} {L:Loc} {w':World} {b:Nat} (hm:Mem G κ ρ l w) (hL:ρ id=some L) (ho:lget id l=o) (hwr:o.wr=true) (hLb:L.has b) (hw:ButB w w' b) (ho':ObR κ ρ w' id o') :
  Mem G κ ρ (lset id o' l) w':=by
 have hne:lget id l≠.no:=fun e=>by rw [ho] at e;rw [e] at hwr;cases hwr
 have hg:=lget_lset (o:=o') hne
 have hf:=hm.fre id L hL (by rw [ho];exact hwr)
 have hs:∀b',L.has b'→∀j Lj,j≠id→ρ j=some Lj→¬Lj.has b':=fun b' h j Lj hj hLj=>hm.sep id j L Lj (Ne.symm hj) hL hLj (by rw [ho];exact hwr) b' h
 refine hm.change (k:=id) hw (fun j Lj hj hLj=>hs b hLb j Lj hj hLj) (hf b hLb).1 (hf b hLb).2 (fun j _=>.inl rfl) (fun j hj=>.inl (by rw [hg,if_neg hj])) (fun L' h' b' hb'=>?_) (fun _ _ _ _ _ _ _ h=>h) (by rw [hg,if_pos rfl]) ho' (fun L hi h=>hm.par id L hi h)
 rw [hL] at h';cases h'
 exact ⟨.inr ⟨hs b' hb',hf b' hb'⟩,by rw [hw.size];exact hm.own id L hL b' hb'⟩
theorem Mem.rewrite {id:Nat} {o o':Ob} {L:Loc} {w':World} (hm:Mem G κ ρ l w) (hL:ρ id=some L) (ho:lget id l=o) (hwr:o.wr=true) (hw:ButB w w' L.b) (ho':ObR κ ρ w' id o') :
  Mem G κ ρ (lset id o' l) w':=hm.rewriteB hL ho hwr L.has_b hw ho'
theorem flatten_set {α:Type} {sz:Nat} {r':List α} (hr':r'.length=sz):∀{rows:List (List α)} {i:Nat},(∀r,r∈rows→r.length=sz)→i < rows.length→∀(k:Nat) c,(rows.set i r').flatten[k]? = some c →
  (∃j,k=i*sz+j∧j < sz∧r'[j]? = some c)∨((k < i*sz∨i*sz+sz≤k)∧rows.flatten[k]? = some c)
 | [],i,_,h,_,_,_=>by simp at h
 | q :: rows,0,hz,_,k,c,hc=>by
  have hq:q.length=sz:=hz q (by simp);rw [List.set_cons_zero,List.flatten_cons] at hc;rcases Nat.lt_or_ge k sz with hlt | hge
  ·rw [List.getElem?_append_left (by omega)] at hc;exact .inl ⟨k,by omega,hlt,hc⟩
  ·rw [List.getElem?_append_right (by omega)] at hc;refine .inr ⟨.inr (by omega),?_⟩;rw [List.flatten_cons,List.getElem?_append_right (by omega),hq,←hr'];exact hc
 | q :: rows,i+1,hz,hi,k,c,hc=>by
  have hq:q.length=sz:=hz q (by simp);have e:(i+1)*sz=i*sz+sz:=by rw [Nat.add_mul];omega
  rw [List.set_cons_succ,List.flatten_cons] at hc;rcases Nat.lt_or_ge k sz with hlt | hge
  ·rw [List.getElem?_append_left (by omega)] at hc;refine .inr ⟨.inl (by omega),?_⟩;rw [List.flatten_cons,List.getElem?_append_left (by omega)];exact hc
  ·rw [List.getElem?_append_right (by omega)] at hc;rcases flatten_set hr' (fun r hr=>hz r (by simp [hr])) (by simpa using hi) _ c hc with ⟨j,h1,h2,h3⟩ | ⟨h1,h2⟩
   ·exact .inl ⟨j,by omega,h2,h3⟩
   ·refine .inr ⟨by omega,?_⟩;rw [List.flatten_cons,List.getElem?_append_right (by omega)];exact h2
theorem run_storeVar {t:TypeId} {i:TypeInfo} (hi:P.info? t=some i) {b o:Nat} {arr:Array Value} {E:TypeId} (h:w.heap[b]? = some (.cells arr E (0,0))) (v:Value) (hs:v.cells.size=i.size) (hle:o+v.cells.size≤arr.size)
  (ho:∀(k:Nat) u,v.cells[k]? = some u→oneV u=true):(Instr.storeAt t (.pointer (some ⟨b,o,none⟩)) v).run P w = .ok () (w.setCells b o v.cells.toList):=by
 have hs':=run_storeCells' (P:=P) h v.cells.toList (by simpa using hle) (fun k u hk=>ho k u (by simpa using hk))
 have:(Instr.storeAt t (.pointer (some ⟨b,o,none⟩)) v)=storeVar t ⟨b,o,none⟩ v:=rfl
 rw [this]
 simp [storeVar,run_sizeOf' hi,hs,hs']
theorem some_lt {α:Type} {xs:List α} {k:Nat} {c:α} (h:xs[k]? = some c):k < xs.length:=(List.getElem?_eq_some_iff.1 h).1
theorem setRow_run {e:TypeId} {y:AV} {vx:Value} {b o sz f i kn:Nat} {rows:List (List C)} {arr:Array Value} {E:TypeId} {K:List (List C)→Prop} (ht:okT (tyOf P e)=true) (hh:w.heap[b]? = some (.cells arr E (0,0))) (hR:RowC κ o sz kn rows arr)
  (h:setRowK (tyOf P e) sz f rows i y K) (hx:AVR κ ρ vx y):∃w' arr' rows',(Instr.storeAt e (.pointer (some ⟨b,o+(i*sz+f),none⟩)) vx).run P w = .ok () w'∧ButB w w' b∧w'.heap[b]? = some (.cells arr' E (0,0))∧arr'.size=arr.size∧RowC κ o sz kn rows' arr'∧K rows':=by
 obtain ⟨ti,u,hi,hu,hs,_,_⟩:=tyOf_ok ht;obtain ⟨hz,hkn,hcs⟩:=hR;have hin:∀k,k < rows.flatten.length→o+k < arr.size:=fun k hk=>by
  obtain ⟨x,h1,_⟩:=hcs k rows.flatten[k] (List.getElem?_eq_getElem hk);exact (Array.getElem?_eq_some_iff.1 h1).1
 have hfl:rows.flatten.length=rows.length*sz:=flatten_length hz;have key:∀(r r':List C),rows[i]? = some r→r'.length=sz→0 < vx.cells.size→f+vx.cells.size≤sz→vx.cells.size=ti.size→(∀(k:Nat) u,vx.cells[k]? = some u→oneV u=true) →
   (∀(k:Nat) c,r'[k]? = some c→(∃j u,k=f+j∧vx.cells[j]? = some u∧Repr κ u c)∨((k < f∨f+vx.cells.size≤k)∧r[k]? = some c)) →
   K (rows.set i r')→∃w' arr' rows',(Instr.storeAt e (.pointer (some ⟨b,o+(i*sz+f),none⟩)) vx).run P w = .ok () w'∧ButB w w' b∧w'.heap[b]? = some (.cells arr' E (0,0))∧arr'.size=arr.size∧RowC κ o sz kn rows' arr'∧K rows':=by
  intro r r' hr hr' hpos hle hsz hone hcell hK;have hil:=some_lt hr;have hisz:i*sz+sz≤rows.length*sz:=by
   have:(i+1)*sz≤rows.length*sz:=Nat.mul_le_mul_right _ hil;rw [Nat.add_mul] at this;omega
  have hbound:o+(i*sz+f)+vx.cells.toList.length≤arr.size:=by
   have:=hin (i*sz+f+vx.cells.size - 1) (by omega);simp;omega
  obtain ⟨h1,h2⟩:=heap_setCells (b:=b) vx.cells.toList w (o+(i*sz+f)) arr hh;refine ⟨_,_,_,run_storeVar (P:=P) hi hh vx hsz (by simpa using hbound) hone,h2,h1,setAll_size _ _ _,⟨?_,by simpa using hkn,fun k c hk=>?_⟩,hK⟩
  ·intro q hq;rcases List.mem_or_eq_of_mem_set hq with h | h
   ·exact hz q h
   ·rw [h];exact hr'
  ·have old:rows.flatten[k]? = some c→(k < i*sz+f∨i*sz+f+vx.cells.size≤k)→∃x,(setAll arr (o+(i*sz+f)) vx.cells.toList)[o+k]? = some x∧Repr κ x c∧oneV x=true:=by
    intro hc hk;obtain ⟨x,h3,h4⟩:=hcs k c hc;exact ⟨x,by rw [setAll_out _ _ _ _ (by simp;omega)];exact h3,h4⟩
   rcases flatten_set hr' hz hil k c hk with ⟨j,rfl,hj1,hj2⟩ | ⟨hk1,hk2⟩
   ·rcases hcell j c hj2 with ⟨q,u,rfl,hu1,hu2⟩ | ⟨h5,h6⟩
    ·have hq:q < vx.cells.size:=(Array.getElem?_eq_some_iff.1 hu1).1;refine ⟨u,?_,hu2,hone q u hu1⟩;rw [show o+(i*sz+(f+q))=o+(i*sz+f)+q by omega,setAll_in _ _ _ _ hbound (by simpa using hq)];simpa using hu1
    ·exact old (by rw [flatten_get hz hr j hj1];exact h6) (by omega)
   ·exact old hk2 (by omega)
 unfold setRowK at h;split at h
 ·rename_i xs;split at h
  ·rename_i cs hcs';obtain ⟨hb,hil,hKK⟩:=ifB_iff.1 h;simp only [Bool.and_eq_true] at hb;obtain ⟨⟨⟨⟨hb1,hb2⟩,hb3⟩,hb4⟩,hb5⟩:=hb;have h0:0 < sz:=Nat.le_of_ble_eq_true hb5;have e1:=Nat.eq_of_beq_eq_true hb1;have e2:=Nat.eq_of_beq_eq_true hb2;have e3:=Nat.eq_of_beq_eq_true hb3;subst e1;obtain ⟨r1,r2,r3⟩:=cells_rowR hx (by simpa [cellsOf] using hcs') hb4;have hvs:vx.cells.size=sz:=by simp at r1;omega
   refine key rows[i] cs (List.getElem?_eq_getElem hil) e3 (by omega) (by omega) (by omega) (fun k u hk=>r2 k u (by simpa using hk)) (fun k c hk=>.inl ?_) hKK;have hkl:=some_lt hk;have hkv:vx.cells[k]? = some (vx.cells[k]'(by omega)):=by simp
   exact ⟨k,_,by omega,hkv,r3 k _ c (by simp) hk⟩
  ·exact h.elim
 ·rename_i c;obtain ⟨hb,r,hr,h⟩:=ifB_iff.1 h;simp only [Bool.and_eq_true] at hb;obtain ⟨⟨hb1,hb2⟩,hb3⟩:=hb;have e1:=Nat.eq_of_beq_eq_true hb1;have e2:f < sz:=Nat.le_of_ble_eq_true hb2;have h1v:=oneC_sound hb3 hx.repr;have hcells:=oneV_cells h1v;have hrl:r.length=sz:=hz r (List.mem_of_getElem? hr);refine key r (r.set f c) hr (by simpa using hrl) (by rw [hcells];simp) (by rw [hcells];simp;omega) (by rw [hcells];simp;omega) (fun k u hk=>by
   rw [hcells] at hk
   match k with
   | 0=>simp at hk;subst hk;exact h1v
   | k+1=>simp at hk) (fun k c' hk=>?_) h
  by_cases hkf:k=f
  ·subst hkf;rw [List.getElem?_set_self (by omega)] at hk;cases hk;exact .inl ⟨0,vx,rfl,by rw [hcells];rfl,hx.repr⟩
  ·rw [List.getElem?_set_ne (Ne.symm hkf)] at hk;exact .inr ⟨by rw [hcells];simp;omega,hk⟩
 ·exact h.elim
theorem mat_cell {e:TypeId} {L:Loc} {sz i:Nat} {ix:List MC} {rows:List (List (List C))} {c:MC} {vx:Value} (ht:okT (tyOf P e)=true) (hs1:(tyOf P e).size=1) (h:MatR κ w L sz ix rows) (hi:i < ix.length) (hc:MCR κ L.ib sz vx c) (h1v:oneV vx=true) :
  ∃w',(Instr.storeAt e (.pointer (some ⟨L.b,L.o+i,none⟩)) vx).run P w = .ok () w'∧ButB w w' L.b∧MatR κ w' L sz (ix.set i c) rows:=by
 obtain ⟨ti,u,hti,hu,hs,_,_⟩:=tyOf_ok ht
 obtain ⟨⟨arr,E,hh,hN,hkn,hcs⟩,h5,h6,h7,h8⟩:=h
 have hcells:=oneV_cells h1v
 obtain ⟨x0,hx0,_⟩:=hcs i ix[i] (List.getElem?_eq_getElem hi)
 have hin:=(Array.getElem?_eq_some_iff.1 hx0).1
 obtain ⟨g1,g2⟩:=heap_setCells (b:=L.b) vx.cells.toList w (L.o+i) arr hh
 refine ⟨_,run_storeVar (P:=P) hti hh vx (by rw [hcells];simp;omega) (by rw [hcells];simp;omega) (fun k u hk=>by
  rw [hcells] at hk
  match k with
  | 0=>simp at hk;subst hk;exact h1v
  | k+1=>simp at hk),g2,⟨_,E,g1,by rw [setAll_size];exact hN,by simpa using hkn,fun k d hk=>?_⟩,h5,fun r M row hM hr=>?_,h7,h8⟩
 ·rw [hcells]
  by_cases hki:k=i
  ·subst hki
   rw [List.getElem?_set_self hi] at hk;cases hk
   refine ⟨vx,?_,hc,h1v⟩
   have:=setAll_in [vx] arr (L.o+k) 0 (by simp;omega) (by simp)
   simpa using this
  ·rw [List.getElem?_set_ne (Ne.symm hki)] at hk
   obtain ⟨x,h3,h4⟩:=hcs k d hk
   exact ⟨x,by rw [setAll_out _ _ _ _ (by simp;omega)];exact h3,h4⟩
 ·obtain ⟨arr',E',f1,f2⟩:=h6 r M row hM hr
  exact ⟨arr',E',by rw [g2.block _ (h7 r M hM)];exact f1,f2⟩
theorem mat_row {L:Loc} {sz r:Nat} {ix:List MC} {rows:List (List (List C))} {row':List (List C)} {M:Pl} {w':World} (h:MatR κ w L sz ix rows) (hM:L.ib[r]? = some M) (hw:ButB w w' M.b)
  (hr:∃arr E,w'.heap[M.b]? = some (.cells arr E (0,0))∧arr.size=M.N∧RowC κ M.o sz M.kn row' arr):MatR κ w' L sz ix (rows.set r row'):=by
 obtain ⟨⟨arr,E,hh,hN,hkn,hcs⟩,h5,h6,h7,h8⟩:=h
 refine ⟨⟨arr,E,by rw [hw.block _ (Ne.symm (h7 r M hM))];exact hh,hN,hkn,hcs⟩,by simpa using h5,fun r' M' row hM' hr'=>?_,h7,h8⟩
 by_cases e:r'=r
 ·subst e
  rw [hM] at hM';cases hM'
  rw [List.getElem?_set_self (by rw [←h5];exact some_lt hM)] at hr';cases hr'
  exact hr
 ·rw [List.getElem?_set_ne (Ne.symm e)] at hr'
  obtain ⟨arr',E',f1,f2⟩:=h6 r' M' row hM' hr'
  exact ⟨arr',E',by rw [hw.block _ (h8 r' r M' M hM' hM e)];exact f1,f2⟩
def Stores (P:Program) (G:Ctx) (κ:Know) (ρ:Place) (w:World) (m:Sem Unit) (K:LL→Prop):Prop :=
 ∃w' l',m.run P w = .ok () w'∧Mem G κ ρ l' w'∧K l'
theorem storeK_sound {e:TypeId} {x y:AV} {va vx:Value} {K:LL→Prop} (hm:Mem G κ ρ l w) (ht:okT (tyOf P e)=true) (h:storeK (tyOf P e) x y l K) (ha:AVR κ ρ va x) (hx:AVR κ ρ vx y) :
  Stores P G κ ρ w (Instr.storeAt e va vx) K:=by
 obtain ⟨ti,u,hi,hu,hs,_,_⟩:=tyOf_ok ht;unfold storeK at h;split at h
 ·rename_i id off;split at h
  ·rename_i cs hl;have hob:=hm.ob id;rw [hl] at hob;obtain ⟨L,arr,E,fz,hL,hh,hN,hfz,hcs⟩:=hob;have hfz:=hfz rfl;subst hfz;have e0:=ha.lp_at hL;subst e0;have hin:∀k,k < cs.length→L.o+k < arr.size:=fun k hk=>by
    obtain ⟨x,h1,_⟩:=hcs k cs[k] (List.getElem?_eq_getElem hk);exact (Array.getElem?_eq_some_iff.1 h1).1
   split at h
   ·rename_i xs;have hb:=(ifB_iff.1 h).1;replace h:=(ifB_iff.1 h).2;simp only [Bool.and_eq_true] at hb;have hxl:=Nat.eq_of_beq_eq_true hb.1;have hxp:0 < (tyOf P e).size:=Nat.le_of_ble_eq_true hb.2;obtain ⟨vs,rfl,hvn,hvo,hv⟩:=hx.agg;have key:off+xs.length≤cs.length→∀cs',(∀(k:Nat) c,cs'[k]? = some c→(∃j,k=off+j∧xs[j]? = some c)∨((k < off∨off+xs.length≤k)∧cs[k]? = some c)) →
      K (lset id (.box true cs') l)→Stores P G κ ρ w (Instr.storeAt e (.pointer (some ⟨L.b,L.o+off,none⟩)) (.agg vs)) K:=by
     intro hle cs' hcs' hK;have hbound:L.o+off+vs.toList.length≤arr.size:=by
      have:=hin (cs.length - 1) (by omega);simp;omega
     refine ⟨_,_,run_storeVar (P:=P) hi hh (.agg vs) (by simp [Value.cells];omega) (by simpa [Value.cells] using hbound) (fun k u hk=>hvo k u (by simpa [Value.cells] using hk)),?_,hK⟩;obtain ⟨h1,h2⟩:=heap_setCells (b:=L.b) vs.toList w (L.o+off) arr hh;refine hm.rewrite hL hl rfl h2 ⟨L,_,E,(0,0),hL,h1,by rw [setAll_size];exact hN,fun _=>rfl,fun k c hk=>?_⟩;rcases hcs' k c hk with ⟨j,rfl,hj⟩ | ⟨hk1,hk2⟩
     ·have hjl:=some_lt hj;have hvj:vs[j]? = some (vs[j]'(by omega)):=by simp
      refine ⟨vs[j]'(by omega),?_,hv j _ c hvj hj,hvo j _ hvj⟩;rw [←Nat.add_assoc,setAll_in _ _ _ _ hbound (by simp;omega)];simp
     ·obtain ⟨x,h3,h4⟩:=hcs k c hk2;exact ⟨x,by rw [setAll_out _ _ _ _ (by simp;omega)];exact h3,h4⟩
    split at h
    ·rename_i hb2;simp only [Bool.and_eq_true] at hb2;have e0:=Nat.eq_of_beq_eq_true hb2.1;have e1:=Nat.eq_of_beq_eq_true hb2.2;subst e0;exact key (by omega) xs (fun k c hk=>.inl ⟨k,by omega,hk⟩) (lsetK_iff.1 h)
    ·obtain ⟨hb2,h⟩:=ifB_iff.1 h;have hle:=Nat.le_of_ble_eq_true hb2;refine key (by omega) _ (fun k c hk=>?_) (lsetK_iff.1 h);rcases Nat.lt_or_ge k off with hlt | hge
     ·rw [List.getElem?_append_left (by simp;omega)] at hk;rw [List.getElem?_take_of_lt hlt] at hk;exact .inr ⟨.inl hlt,hk⟩
     ·rw [List.getElem?_append_right (by simp;omega)] at hk;have:(cs.take off).length=off:=by simp;omega
      rw [this] at hk;rcases Nat.lt_or_ge (k - off) xs.length with hlt2 | hge2
      ·rw [List.getElem?_append_left hlt2] at hk;exact .inl ⟨k - off,by omega,hk⟩
      ·rw [List.getElem?_append_right hge2,List.getElem?_drop] at hk;refine .inr ⟨.inr (by omega),?_⟩;rwa [show off+(tyOf P e).size+(k - off - xs.length)=k by omega] at hk
   ·obtain ⟨hb,h⟩:=ifB_iff.1 h;simp only [Bool.and_eq_true] at hb;have hsz:=Nat.eq_of_beq_eq_true hb.1;have h1v:=oneCell_sound hm hb.2 hx;obtain ⟨hoff,h⟩:=setK_iff.1 h;have hcells:=oneV_cells h1v;have hbound:=hin off hoff;refine ⟨_,_,run_storeVar (P:=P) hi hh vx (by rw [hcells];simp;omega) (by rw [hcells];simp;omega) (fun k u hk=>by
     rw [hcells] at hk
     match k with
     | 0=>simp at hk;subst hk;exact h1v
     | k+1=>simp at hk),?_,lsetK_iff.1 h⟩
    obtain ⟨h1,h2⟩:=heap_setCells (b:=L.b) vx.cells.toList w (L.o+off) arr hh;refine hm.rewrite hL hl rfl h2 ⟨L,_,E,(0,0),hL,h1,by rw [setAll_size];exact hN,fun _=>rfl,fun k c hk=>?_⟩;rw [hcells];by_cases hko:k=off
    ·subst hko;rw [List.getElem?_set_self hoff] at hk;cases hk;refine ⟨vx,?_,hx,h1v⟩;have:=setAll_in [vx] arr (L.o+k) 0 (by simp;omega) (by simp);simpa using this
    ·rw [List.getElem?_set_ne (Ne.symm hko)] at hk;obtain ⟨x,h3,h4⟩:=hcs k c hk;exact ⟨x,by rw [setAll_out _ _ _ _ (by simp;omega)];exact h3,h4⟩
  ·exact h.elim
 ·rename_i id i f sz;split at h
  ·rename_i sz' rows hl;have hz0:=(ifB_iff.1 h).1;replace h:=(ifB_iff.1 h).2;have e0:=Nat.eq_of_beq_eq_true hz0;subst e0;have hob:=hm.ob id;rw [hl] at hob;obtain ⟨L,arr,E,fz,hL,hh,hN,hfz,hz,hkn,hcs⟩:=hob;have hfz:=hfz rfl;subst hfz;have e0:=ha.pe_at hL;subst e0;obtain ⟨w',arr',rows',g1,g2,g3,g4,⟨g5,g6,g7⟩,hK⟩:=setRow_run ht hh ⟨hz,hkn,hcs⟩ h hx;exact ⟨w',_,g1,hm.rewrite (o':=.row true sz rows') hL hl rfl g2 ⟨L,arr',E,(0,0),hL,g3,by rw [g4];exact hN,fun _=>rfl,g5,g6,g7⟩,lsetK_iff.1 hK⟩
  ·rename_i sz' ix rows hl;have hb:=(ifB_iff.1 h).1;replace h:=(ifB_iff.1 h).2;simp only [Bool.and_eq_true] at hb;have e0:=Nat.eq_of_beq_eq_true hb.1.1;have e1:=Nat.eq_of_beq_eq_true hb.1.2;have e2:=Nat.eq_of_beq_eq_true hb.2;subst e0;subst e1;have hob:=hm.ob id;rw [hl] at hob;obtain ⟨L,hL,hR⟩:=hob;have e:=ha.pe_at hL;subst e;rw [Nat.mul_one,Nat.add_zero];split at h
   ·rename_i c;obtain ⟨ho,hi',hK⟩:=ifB_iff.1 h;have h1v:=oneC_sound ho hx.repr;obtain ⟨w',g1,g2,g3⟩:=mat_cell (c:=.d c) ht e2 hR hi' hx.repr h1v;exact ⟨w',_,g1,hm.rewrite (o':=.mat sz' (ix.set i (.d c)) rows) hL hl rfl g2 ⟨L,hL,g3⟩,lsetK_iff.1 hK⟩
   ·rename_i id2 r lo n sz2;have ho:=(ifB_iff.1 h).1;replace h:=(ifB_iff.1 h).2;obtain ⟨hi',hK⟩:=h;simp only [Bool.and_eq_true] at ho;have e3:=Nat.eq_of_beq_eq_true ho.1;have e4:=Nat.eq_of_beq_eq_true ho.2;subst e3;subst e4;have hms:=hx.ms_at hL;have h1v:oneV vx=true:=by obtain ⟨_,_,_,_,e,_⟩:=hms;rw [e];rfl
    obtain ⟨w',g1,g2,g3⟩:=mat_cell (c:=.r r lo n) ht e2 hR hi' hms h1v;exact ⟨w',_,g1,hm.rewrite (o':=.mat _ (ix.set i (.r r lo n)) rows) hL hl rfl g2 ⟨L,hL,g3⟩,lsetK_iff.1 hK⟩
   ·exact h.elim
  ·exact h.elim
 ·rename_i id r i f sz;split at h
  ·rename_i sz' ix rows hl;have hz0:=(ifB_iff.1 h).1;replace h:=(ifB_iff.1 h).2;obtain ⟨row,hrow,h⟩:=h;have e0:=Nat.eq_of_beq_eq_true hz0;subst e0;have hob:=hm.ob id;rw [hl] at hob;obtain ⟨L,hL,hR⟩:=hob;obtain ⟨M,hM,e⟩:=ha.me_at hL;subst e;obtain ⟨arr,E,hh,hN,hC⟩:=hR.2.2.1 r M row hM hrow;obtain ⟨w',arr',rows',g1,g2,g3,g4,g5,hK⟩:=setRow_run ht hh hC h hx;exact ⟨w',_,g1,hm.rewriteB (o':=.mat sz ix (rows.set r rows')) hL hl rfl (Loc.has_i hM) g2 ⟨L,hL,mat_row hR hM g2 ⟨arr',E,g3,by rw [g4];exact hN,g5⟩⟩,lsetK_iff.1 hK⟩
  ·exact h.elim
 ·exact h.elim
end
end Go.V
