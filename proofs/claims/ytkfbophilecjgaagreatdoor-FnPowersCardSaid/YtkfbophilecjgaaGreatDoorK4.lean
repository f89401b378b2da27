/- Part 4: the abstract machine, its soundness, contracts of functions. -/
import Derived.Test.YtkfbophilecjgaaGreatDoorK3
import Derived.KernelRfl
import Derived.Test.YtkfbophilecjgaaGreatDoorProg
import Derived.Lib.ItoaNum
set_option linter.unusedVariables false
set_option linter.unusedSimpArgs false
namespace Go.V
def selT (L:Nat):List (Nat×Nat×AV)→TL→TL
 | [],t=>t
 | (i,d,x) :: r,t=>match bitB L i with
  | true=>(d,x) :: selT L r t
  | false=>selT L r t
def selL (L:Nat):List (Nat×Nat×Ob)→LL→LL
 | [],l=>l
 | (i,d,x) :: r,l=>match bitB L i with
  | true=>(d,x) :: selL L r l
  | false=>selL L r l
def selN (L:Nat):List (Nat×Nat×Ob)→LL→LL
 | [],l=>l
 | (i,d,x) :: r,l=>match bitB L i with
  | true=>selN L r l
  | false=>(d,x) :: selN L r l
def selTN (L:Nat):List (Nat×Nat×AV)→TL→TL
 | [],t=>t
 | (i,d,x) :: r,t=>match bitB L i with
  | true=>selTN L r t
  | false=>(d,x) :: selTN L r t
def addN (x:Nat):List Nat→List Nat
 | []=>[x]
 | y :: r=>match Nat.beq x y with
  | true=>y :: r
  | false=>y :: addN x r
def addAll (L:Nat):List Nat→List Nat→List Nat
 | [],acc=>acc
 | i :: r,acc=>addAll L r (addN (Nat.lor L (Nat.shiftLeft 1 i)) acc)
def nextL (ops:List Oper):List Nat→List Nat→List Nat
 | [],acc=>acc
 | L :: r,acc=>nextL ops r (addAll L (rdy L 0 ops) acc)
def downs (ops:List Oper):Nat→List Nat→List Nat
 | 0,Ls=>Ls
 | n+1,Ls=>Ls++downs ops n (nextL ops Ls [])
def hasN (x:Nat):List Nat→Bool
 | []=>false
 | y :: r=>Nat.beq x y || hasN x r
def goOk (Ls:List Nat) (L:Nat):List Nat→Bool
 | []=>true
 | i :: r=>hasN (Nat.lor L (Nat.shiftLeft 1 i)) Ls && goOk Ls L r
def dpSet (ops:List Oper) (Ls:List Nat) (F:Nat):List Nat→Bool
 | []=>true
 | L :: r=>(match rdy L 0 ops with
  | []=>Nat.beq L F
  | i :: s=>goOk Ls L (i :: s)) && dpSet ops Ls F r
def dpOk (ops:Array Oper):Bool :=
 opsOk 0 [] (ops.toList.map (·.dst)) (ancT ops.toList []) ops.toList 0 ops.toList && hasN 0 (downs ops.toList ops.size [0]) && dpSet ops.toList (downs ops.toList ops.size [0]) (2 ^ ops.size - 1) (downs ops.toList ops.size [0])
def dpAll (P:Program) (ty:TypeId→Ty) (D:List (Option Nat)) (ops:List Oper) (xs:List (Nat×Nat×AV)) (ys zs:List (Nat×Nat×Ob)) (zt:List (Nat×Nat×AV)) (tb:TL) (lb:LL):List Nat→Prop
 | []=>True
 | L :: r=>(allK (rdy L 0 ops) fun i=>match nth ops i with
  | some o=>vcG P ty D o (selT L xs (selTN L zt tb)) (selL L ys (selN L zs lb)) fun t l=>entT t (selT (Nat.lor L (Nat.shiftLeft 1 i)) xs (selTN (Nat.lor L (Nat.shiftLeft 1 i)) zt tb))∧entL l (selL (Nat.lor L (Nat.shiftLeft 1 i)) ys (selN (Nat.lor L (Nat.shiftLeft 1 i)) zs lb))
  | none=>False)∧dpAll P ty D ops xs ys zs zt tb lb r
theorem hasN_mem {x:Nat}:∀{r:List Nat},hasN x r=true→x∈r
 | [],h=>by cases h
 | y :: r,h=>by
  simp only [hasN,Bool.or_eq_true] at h
  rcases h with h | h
  ·rw [Nat.eq_of_beq_eq_true h];simp
  ·exact List.mem_cons_of_mem _ (hasN_mem h)
theorem goOk_mem {Ls:List Nat} {L:Nat}:∀{r:List Nat},goOk Ls L r=true→∀i,i∈r→Nat.lor L (Nat.shiftLeft 1 i)∈Ls
 | [],_,i,hi=>by cases hi
 | j :: r,h,i,hi=>by
  simp only [goOk,Bool.and_eq_true] at h
  rcases List.mem_cons.1 hi with rfl | hi
  ·exact hasN_mem h.1
  ·exact goOk_mem h.2 i hi
theorem dpSet_mem {ops:List Oper} {Ls:List Nat} {F:Nat}:∀{r:List Nat},dpSet ops Ls F r=true→∀L,L∈r→(rdy L 0 ops=[]→L=F)∧∀i,i∈rdy L 0 ops→Nat.lor L (Nat.shiftLeft 1 i)∈Ls
 | [],_,L,hL=>by cases hL
 | M :: r,h,L,hL=>by
  simp only [dpSet,Bool.and_eq_true] at h
  rcases List.mem_cons.1 hL with rfl | hL
  ·have h1:=h.1
   cases e:rdy L 0 ops with
   | nil =>
    rw [e] at h1
    exact ⟨fun _=>Nat.eq_of_beq_eq_true h1,fun i hi=>by cases hi⟩
   | cons j s =>
    rw [e] at h1
    exact ⟨fun h=>(by cases h),fun i hi=>goOk_mem h1 i hi⟩
  ·exact dpSet_mem h.2 L hL
theorem dpAll_mem {P:Program} {ty:TypeId→Ty} {D:List (Option Nat)} {ops:List Oper} {xs:List (Nat×Nat×AV)} {ys zs:List (Nat×Nat×Ob)} {zt:List (Nat×Nat×AV)} {tb:TL} {lb:LL}:∀{r:List Nat},dpAll P ty D ops xs ys zs zt tb lb r→∀L,L∈r →
  allK (rdy L 0 ops) fun i=>match nth ops i with
   | some o=>vcG P ty D o (selT L xs (selTN L zt tb)) (selL L ys (selN L zs lb)) fun t l=>entT t (selT (Nat.lor L (Nat.shiftLeft 1 i)) xs (selTN (Nat.lor L (Nat.shiftLeft 1 i)) zt tb))∧entL l (selL (Nat.lor L (Nat.shiftLeft 1 i)) ys (selN (Nat.lor L (Nat.shiftLeft 1 i)) zs lb))
   | none=>False
 | [],_,L,hL=>by cases hL
 | M :: r,h,L,hL=>by
  rcases List.mem_cons.1 hL with rfl | hL
  ·exact h.1
  ·exact dpAll_mem h.2 L hL
theorem cnt_full {S:Nat→Bool} {n:Nat} (h:cnt S n=n):∀i,i < n→S i=true:=fun i hi=>by
 apply Classical.byContradiction
 intro hs
 have h1:=cnt_set (S:=S) (i:=i) (by simpa using hs) hi
 have h2:=cnt_le (S:=setS S i) n
 omega
section
variable {P:Program} {G:Ctx}
theorem dp_sound {ty:TypeId→Ty} (hty:TyOk P ty) {ops:Array Oper} {Q:Exit→Act→World→Prop} (hd:∀o,o∈ops.toList→∀d,o.dst=some d→d < G.n)
  (hed:∀j o,ops.toList[j]? = some o→∀e,e∈o.after.toList→Region.binds .any e=true→e.on < j)
  {Ls:List Nat} {F:Nat} {xs:List (Nat×Nat×AV)} {ys zs:List (Nat×Nat×Ob)} {zt:List (Nat×Nat×AV)} {tb:TL} {lb:LL}
  (hset:∀L,L∈Ls→(rdy L 0 ops.toList=[]→L=F)∧∀i,i∈rdy L 0 ops.toList→Nat.lor L (Nat.shiftLeft 1 i)∈Ls)
  (hall:dpAll P ty (ops.toList.map (·.dst)) ops.toList xs ys zs zt tb lb Ls) (κ0:Know)
  (hQ:∀κ' ρ' a' w',κ0.le κ'→Rel G κ' ρ' (selT F xs (selTN F zt tb)) (selL F ys (selN F zs lb)) a' w'→Q .normal a' w') :
  ∀(n:Nat) (L:Nat) (listed:Array Bool) (κ:Know) (ρ:Place) (a:Act) (w:World),L∈Ls→listed.size=ops.size→(∀i,i < ops.size→listed.getD i false=L.testBit i) →
   n+cnt (fun i=>listed.getD i false) ops.size=ops.size→κ0.le κ→Rel G κ ρ (selT L xs (selTN L zt tb)) (selL L ys (selN L zs lb)) a w→wpAny P .any ops Q n listed a w:=by
 have same:∀{L:Nat} {listed:Array Bool},listed.size=ops.size→(∀i,i < ops.size→listed.getD i false=L.testBit i) →
   ∀i,i∈Region.ready .any ops listed↔i∈rdy L 0 ops.toList:=by
  intro L listed hs hL i;rw [mem_ready,mem_rdy];constructor
  ·rintro ⟨h1,o,h2,h3⟩;have hi:i < ops.size:=(Array.getElem?_eq_some_iff.1 h2).1;refine ⟨Nat.zero_le _,o,by rw [Nat.sub_zero,Array.getElem?_toList];exact h2,?_,fun e he hb=>?_⟩
   ·rw [←hL i hi];rw [Array.getD_eq_getD_getElem?] at h1 ⊢;rw [Array.getElem?_eq_getElem (by omega)] at h1 ⊢;exact h1
   ·have:=h3 e (by simpa using he) hb;have hlt:=hed i o (by rw [Array.getElem?_toList];exact h2) e he hb;rw [←hL e.on (by omega)];exact this
  ·rintro ⟨_,o,h2,h3,h4⟩;rw [Nat.sub_zero,Array.getElem?_toList] at h2;have hi:i < ops.size:=(Array.getElem?_eq_some_iff.1 h2).1;refine ⟨?_,o,h2,fun e he hb=>?_⟩
   ·rw [←hL i hi] at h3;rw [Array.getD_eq_getD_getElem?] at h3 ⊢;rw [Array.getElem?_eq_getElem (by omega)] at h3 ⊢;exact h3
   ·have hlt:=hed i o (by rw [Array.getElem?_toList];exact h2) e (by simpa using he) hb;rw [hL e.on (by omega)];exact h4 e (by simpa using he) hb
 intro n;induction n with
 | zero =>
  intro L listed κ ρ a w hm hs hL hn hle hr;have hfull:=cnt_full (S:=fun i=>listed.getD i false) (n:=ops.size) (by omega);have e:rdy L 0 ops.toList=[]:=by
   apply List.eq_nil_iff_forall_not_mem.2;intro i hi;obtain ⟨_,o,h2,h3,_⟩:=mem_rdy.1 hi;rw [Nat.sub_zero,Array.getElem?_toList] at h2;have hi':i < ops.size:=(Array.getElem?_eq_some_iff.1 h2).1;rw [←hL i hi',hfull i hi'] at h3;cases h3
  have hF:=(hset L hm).1 e;subst hF;refine ⟨?_,hQ κ ρ a w hle hr⟩;apply List.eq_nil_iff_forall_not_mem.2;intro i hi;rw [same hs hL i,e] at hi;cases hi
 | succ n ih =>
  intro L listed κ ρ a w hm hs hL hn hle hr;cases e:rdy L 0 ops.toList with
  | nil =>
   have hF:=(hset L hm).1 e;subst hF;exact ⟨fun _=>hQ κ ρ a w hle hr,fun i hi=>by rw [same hs hL i,e] at hi;cases hi⟩
  | cons i0 r =>
   refine ⟨fun e'=>?_,fun i hi=>?_⟩
   ·have:i0∈Region.ready .any ops listed:=by rw [same hs hL,e];simp
    rw [e'] at this;cases this
   ·rw [same hs hL i] at hi;have hm':=(hset L hm).2 i hi;have h1:=allK_mem (dpAll_mem hall L hm) i hi;obtain ⟨_,o1,_,hbit,_⟩:=mem_rdy.1 hi;rw [nth_eq] at h1;split at h1
    ·rename_i o ho;have ho':ops[i]? = some o:=by rw [←Array.getElem?_toList];exact ho
     have hmem:o∈ops.toList:=List.mem_of_getElem? ho;have hi':i < ops.size:=(Array.getElem?_eq_some_iff.1 ho').1;have hl0:listed.getD i false=false:=by rw [hL i hi'];exact hbit
     have hSS:(fun j=>(listed.setIfInBounds i true).getD j false)=setS (fun j=>listed.getD j false) i:=by
      funext j
      rw [setS_eq];by_cases e:j=i
      ·subst e;simp [Array.getD,hs,hi']
      ·rw [if_neg e,Array.getD_eq_getD_getElem?,Array.getD_eq_getD_getElem?,Array.getElem?_setIfInBounds_ne (fun h=>e h.symm)]
     refine vcG_sound hty ho' (hd o hmem) hr h1 fun κ' ρ' t' l' a' w' k1 k2 k3=>?_;obtain ⟨ρ2,_,hr2⟩:=k2.less (entT_get k3.1) (entL_get k3.2);refine ih _ _ κ' ρ2 a' w' hm' (by simpa using hs) (fun j hj=>?_) ?_ (Know.le_trans hle k1) hr2
     ·have e1:(Nat.lor L (Nat.shiftLeft 1 i)).testBit j=(L.testBit j || decide (i=j)):=by
       show (L ||| (1 <<< i)).testBit j=_;rw [Nat.testBit_or,Nat.one_shiftLeft,Nat.testBit_two_pow]
      rw [e1];by_cases hij:i=j
      ·subst hij;simp [Array.getD,hs,hi']
      ·rw [Array.getD_eq_getD_getElem?,Array.getElem?_setIfInBounds_ne hij,←Array.getD_eq_getD_getElem?,hL j hj];simp [hij]
     ·rw [hSS,cnt_set hl0 hi'];omega
    ·exact h1.elim
theorem VDraw.dpS {ty:TypeId→Ty} (hmo:P.follows .mixedOrders=true) (hty:TyOk P ty) {ops:Array Oper} {t:TL} {l:LL} {K:TL→LL→Prop} (tb:TL) (lb:LL) (xs:List (Nat×Nat×AV)) (ys zs:List (Nat×Nat×Ob)) (zt:List (Nat×Nat×AV)) (hc:dpOk ops=true)
  (ht:entT t (selTN 0 zt tb)) (hl:entL l (selN 0 zs lb)) (hall:dpAll P ty (ops.toList.map (·.dst)) ops.toList xs ys zs zt tb lb (downs ops.toList ops.size [0])) (hK:K (selT (2 ^ ops.size - 1) xs (selTN (2 ^ ops.size - 1) zt tb)) (selL (2 ^ ops.size - 1) ys (selN (2 ^ ops.size - 1) zs lb))):VDraw P ty ops t l K where
 out:=fun G κ ρ a w hr hd id Q hQ=>by
  unfold dpOk at hc;simp only [Bool.and_eq_true] at hc;obtain ⟨⟨h1,h2⟩,h3⟩:=hc;have hed:∀j o,ops.toList[j]? = some o→∀e,e∈o.after.toList→Region.binds .any e=true→e.on < j:=fun j o ho=>by
   have:=(opsOk_spec h1 j o ho).ed;rwa [Nat.zero_add] at this
  have z1:∀(xs:List (Nat×Nat×AV)) (tb:TL),selT 0 xs tb=tb:=fun xs tb=>by
   induction xs with
   | nil=>rfl
   | cons x r ih =>
    obtain ⟨i,d,x⟩:=x;have e:bitB 0 i=false:=by rw [bitB_eq];exact Nat.zero_testBit i
    rw [selT,e];exact ih
  have z2:∀(xs:List (Nat×Nat×Ob)) (lb:LL),selL 0 xs lb=lb:=fun xs lb=>by
   induction xs with
   | nil=>rfl
   | cons x r ih =>
    obtain ⟨i,d,x⟩:=x;have e:bitB 0 i=false:=by rw [bitB_eq];exact Nat.zero_testBit i
    rw [selL,e];exact ih
  obtain ⟨ρ2,_,hr2⟩:=hr.less (entT_get ht) (entL_get hl);refine wp_region_any hmo (dp_sound hty hd hed (fun L hL=>dpSet_mem h3 L hL) hall κ (fun κ' ρ' a' w' hk hr'=>hQ κ' ρ' _ _ a' w' hk hr' hK) ops.size 0 _ κ ρ2 a _ (hasN_mem h2) (by simp) (fun i hi=>?_) ?_ (Know.le_refl _) ?_)
  ·rw [Nat.zero_testBit,Array.getD_eq_getD_getElem?,Array.getElem?_replicate];split <;> rfl
  ·have:cnt (fun i=>(Array.replicate ops.size false).getD i false) ops.size=0:=by
    have h':∀n,cnt (fun i=>(Array.replicate ops.size false).getD i false) n=0:=by
     intro n;induction n with
     | zero=>rfl
     | succ n ih =>
      unfold cnt;rw [ih];have:(Array.replicate ops.size false).getD n false=false:=by
       rw [Array.getD_eq_getD_getElem?,Array.getElem?_replicate];split <;> rfl
      rw [this];rfl
    exact h' _
   rw [this];rfl
  ·rw [z1,z2];exact hr2.grown rfl rfl rfl (Nat.le_refl _) (fun _ _=>rfl)
theorem VDraw.dp {ty:TypeId→Ty} (hmo:P.follows .mixedOrders=true) (hty:TyOk P ty) {ops:Array Oper} {t:TL} {l:LL} {K:TL→LL→Prop} (tb:TL) (lb:LL) (xs:List (Nat×Nat×AV)) (ys zs:List (Nat×Nat×Ob)) (hc:dpOk ops=true)
  (ht:entT t tb) (hl:entL l (selN 0 zs lb)) (hall:dpAll P ty (ops.toList.map (·.dst)) ops.toList xs ys zs [] tb lb (downs ops.toList ops.size [0])) (hK:K (selT (2 ^ ops.size - 1) xs tb) (selL (2 ^ ops.size - 1) ys (selN (2 ^ ops.size - 1) zs lb))):VDraw P ty ops t l K :=
 VDraw.dpS hmo hty tb lb xs ys zs [] hc ht hl hall hK
end
end Go.V
namespace Go.V
section
variable {P:Program} {G:Ctx} {κ:Know} {ρ:Place} {t:TL} {l:LL} {a:Act} {w:World}
end
end Go.V
namespace Go.V
open Go.Proofs
set_option maxRecDepth 10000
def tyTab:List (Nat×Ty):=[
 (2,⟨1,false,[(.int .i64 0)],[],0,0,[],(some .i64),2⟩),
 (3,⟨1,false,[(.int .i64 0)],[],0,0,[],(some .i64),2⟩),
 (4,⟨1,false,[(.bool false)],[],0,0,[],none,1⟩),
 (5,⟨1,false,[(.int .u8 0)],[],0,0,[],(some .u8),2⟩),
 (9,⟨1,false,[(.string .empty)],[],0,0,[],none,3⟩),
 (20,⟨1,false,[.nilIface],[],0,0,[],none,9⟩),
 (21,⟨1,false,[(.int .i32 0)],[],0,0,[],(some .i32),2⟩),
 (22,⟨1,false,[(.slice none 0 0)],[(8,8,true)],1,1,[(.int .u8 0)],none,4⟩),
 (24,⟨1,false,[(.slice none 0 0)],[],1,24,[(.slice none 0 0)],none,4⟩),
 (26,⟨1,true,[(.slice none 0 0)],[(0,1,false)],0,0,[],none,5⟩),
 (31,⟨1,false,[(.slice none 0 0)],[],1,16,[(.string .empty)],none,4⟩),
 (43,⟨1,false,[(.pointer none)],[],0,0,[],none,7⟩),
 (46,⟨1,false,[(.slice none 0 0)],[],1,24,[(.slice none 0 0)],none,4⟩),
 (52,⟨1,false,[(.slice none 0 0)],[],3,56,[(.bool false),(.slice none 0 0),(.slice none 0 0)],none,4⟩),
 (58,⟨1,false,[.nilFunc],[],0,0,[],none,8⟩),
 (60,⟨1,false,[(.slice none 0 0)],[],1,4,[(.int .u32 0)],none,4⟩),
 (62,⟨3,true,[(.bool false),(.slice none 0 0),(.slice none 0 0)],[(0,1,false),(1,1,false),(2,1,false)],0,0,[],none,5⟩),
 (70,⟨1,false,[(.int .u64 0)],[],0,0,[],(some .u64),2⟩),
 (72,⟨3,true,[(.slice none 0 0),(.int .i64 0),(.int .u64 0)],[(0,1,false),(1,1,false),(2,1,false)],0,0,[],none,5⟩),
 (87,⟨1,false,[(.slice none 0 0)],[],1,8,[(.int .i64 0)],none,4⟩),
 (89,⟨3,true,[(.bool false),(.slice none 0 0),(.slice none 0 0)],[(0,1,false),(1,1,false),(2,1,false)],0,0,[],none,5⟩),
 (91,⟨1,false,[(.slice none 0 0)],[],3,56,[(.bool false),(.slice none 0 0),(.slice none 0 0)],none,4⟩),
 (96,⟨1,false,[.nilFunc],[],0,0,[],none,8⟩),
 (110,⟨1,false,[(.int .u64 0)],[],0,0,[],(some .u64),2⟩),
 (119,⟨1,false,[(.int .u32 0)],[],0,0,[],(some .u32),2⟩),
 (131,⟨1,false,[.nilIface],[],0,0,[],none,9⟩),
 (144,⟨1,false,[(.pointer none)],[],0,0,[],none,7⟩),
 (146,⟨2,true,[(.pointer none),(.slice none 0 0)],[(0,1,false),(1,1,false)],0,0,[],none,5⟩),
 (159,⟨24,true,[(.int .u8 0),(.int .u8 0),(.int .u8 0),(.int .u8 0),(.int .u8 0),(.int .u8 0),(.int .u8 0),(.int .u8 0),(.int .u8 0),(.int .u8 0),(.int .u8 0),(.int .u8 0),(.int .u8 0),(.int .u8 0),(.int .u8 0),(.int .u8 0),(.int .u8 0),(.int .u8 0),(.int .u8 0),(.int .u8 0),(.int .u8 0),(.int .u8 0),(.int .u8 0),(.int .u8 0)],[],1,24,[(.int .u8 0)],none,6⟩),
 (164,⟨1,false,[(.pointer none)],[],0,0,[],none,7⟩),
 (170,⟨1,false,[(.pointer none)],[],0,0,[],none,7⟩),
 (181,⟨20,true,[(.int .u64 0),(.int .u64 0),(.int .u64 0),(.int .u64 0),(.int .u64 0),(.int .u64 0),(.int .u64 0),(.int .u64 0),(.int .u64 0),(.int .u64 0),(.int .u64 0),(.int .u64 0),(.int .u64 0),(.int .u64 0),(.int .u64 0),(.int .u64 0),(.int .u64 0),(.int .u64 0),(.int .u64 0),(.int .u64 0)],[],1,20,[(.int .u64 0)],none,6⟩),
 (182,⟨65,true,[(.int .u8 0),(.int .u8 0),(.int .u8 0),(.int .u8 0),(.int .u8 0),(.int .u8 0),(.int .u8 0),(.int .u8 0),(.int .u8 0),(.int .u8 0),(.int .u8 0),(.int .u8 0),(.int .u8 0),(.int .u8 0),(.int .u8 0),(.int .u8 0),(.int .u8 0),(.int .u8 0),(.int .u8 0),(.int .u8 0),(.int .u8 0),(.int .u8 0),(.int .u8 0),(.int .u8 0),(.int .u8 0),(.int .u8 0),(.int .u8 0),(.int .u8 0),(.int .u8 0),(.int .u8 0),(.int .u8 0),(.int .u8 0),(.int .u8 0),(.int .u8 0),(.int .u8 0),(.int .u8 0),(.int .u8 0),(.int .u8 0),(.int .u8 0),(.int .u8 0),(.int .u8 0),(.int .u8 0),(.int .u8 0),(.int .u8 0),(.int .u8 0),(.int .u8 0),(.int .u8 0),(.int .u8 0),(.int .u8 0),(.int .u8 0),(.int .u8 0),(.int .u8 0),(.int .u8 0),(.int .u8 0),(.int .u8 0),(.int .u8 0),(.int .u8 0),(.int .u8 0),(.int .u8 0),(.int .u8 0),(.int .u8 0),(.int .u8 0),(.int .u8 0),(.int .u8 0),(.int .u8 0)],[],1,65,[(.int .u8 0)],none,6⟩),
 (191,⟨3,true,[(.string .empty),(.string .empty),.nilIface],[(0,1,false),(1,1,false),(2,1,false)],0,0,[],none,5⟩),
 (193,⟨1,false,[(.pointer none)],[],0,0,[],none,7⟩),
 (195,⟨1,true,[(.string .empty)],[(0,1,false)],0,0,[],none,5⟩),
 (196,⟨32,true,[(.int .u8 0),(.int .u8 0),(.int .u8 0),(.int .u8 0),(.int .u8 0),(.int .u8 0),(.int .u8 0),(.int .u8 0),(.int .u8 0),(.int .u8 0),(.int .u8 0),(.int .u8 0),(.int .u8 0),(.int .u8 0),(.int .u8 0),(.int .u8 0),(.int .u8 0),(.int .u8 0),(.int .u8 0),(.int .u8 0),(.int .u8 0),(.int .u8 0),(.int .u8 0),(.int .u8 0),(.int .u8 0),(.int .u8 0),(.int .u8 0),(.int .u8 0),(.int .u8 0),(.int .u8 0),(.int .u8 0),(.int .u8 0)],[],1,32,[(.int .u8 0)],none,6⟩),
 (197,⟨64,true,[(.int .u8 0),(.int .u8 0),(.int .u8 0),(.int .u8 0),(.int .u8 0),(.int .u8 0),(.int .u8 0),(.int .u8 0),(.int .u8 0),(.int .u8 0),(.int .u8 0),(.int .u8 0),(.int .u8 0),(.int .u8 0),(.int .u8 0),(.int .u8 0),(.int .u8 0),(.int .u8 0),(.int .u8 0),(.int .u8 0),(.int .u8 0),(.int .u8 0),(.int .u8 0),(.int .u8 0),(.int .u8 0),(.int .u8 0),(.int .u8 0),(.int .u8 0),(.int .u8 0),(.int .u8 0),(.int .u8 0),(.int .u8 0),(.int .u8 0),(.int .u8 0),(.int .u8 0),(.int .u8 0),(.int .u8 0),(.int .u8 0),(.int .u8 0),(.int .u8 0),(.int .u8 0),(.int .u8 0),(.int .u8 0),(.int .u8 0),(.int .u8 0),(.int .u8 0),(.int .u8 0),(.int .u8 0),(.int .u8 0),(.int .u8 0),(.int .u8 0),(.int .u8 0),(.int .u8 0),(.int .u8 0),(.int .u8 0),(.int .u8 0),(.int .u8 0),(.int .u8 0),(.int .u8 0),(.int .u8 0),(.int .u8 0),(.int .u8 0),(.int .u8 0),(.int .u8 0)],[],1,64,[(.int .u8 0)],none,6⟩)]
abbrev ty (i:TypeId):Ty:=tyGet i tyTab
theorem tabOk:TabOk Tryz.prog tyTab:=⟨by kernel_rfl,by kernel_rfl,by kernel_rfl,by kernel_rfl,by kernel_rfl,by kernel_rfl,by kernel_rfl,by kernel_rfl,by kernel_rfl,by kernel_rfl,by kernel_rfl,by kernel_rfl,by kernel_rfl,by kernel_rfl,by kernel_rfl,by kernel_rfl,by kernel_rfl,by kernel_rfl,by kernel_rfl,by kernel_rfl,by kernel_rfl,by kernel_rfl,by kernel_rfl,by kernel_rfl,by kernel_rfl,by kernel_rfl,by kernel_rfl,by kernel_rfl,by kernel_rfl,by kernel_rfl,by kernel_rfl,by kernel_rfl,by kernel_rfl,by kernel_rfl,by kernel_rfl,by kernel_rfl,by kernel_rfl,by kernel_rfl,trivial⟩
theorem hty:TyOk Tryz.prog ty:=tyOk_tab tabOk
theorem hmo:Tryz.prog.follows .mixedOrders=true:=by kernel_rfl
abbrev I (n:Int):AV:=.d (.s (.int .i64 n))
abbrev B (b:Bool):AV:=.d (.s (.bool b))
end Go.V
namespace Go.V
def vl (B:Nat):List Nat→Nat
 | []=>0
 | x :: r=>x+B*vl B r
def dgF (B:Nat):Nat→Nat→List Nat
 | 0,_=>[]
 | f+1,n=>if n=0 then [] else n % B :: dgF B f (n / B)
def dg (B n:Nat):List Nat:=dgF B n n
def Cn (B:Nat) (l:List Nat):Prop:=(∀x,x∈l→x < B)∧l.getLast? ≠ some 0
section
variable {B:Nat}
theorem div_fuel (hB:2≤B) {n f:Nat} (h:n≤f+1) (h0:n≠0):n / B≤f:=by
 have:=Nat.div_lt_self (by omega:0 < n) (by omega:1 < B)
 omega
theorem vl_dgF (hB : 2 ≤ B) : ∀ f n, n ≤ f → vl B (dgF B f n) = n
  | 0, n, h => by have : n = 0 := by omega
                  subst this; rfl
  | f + 1, n, h => by
    unfold dgF
    split
    · rename_i h0; rw [h0]; rfl
    · rename_i h0
      rw [vl, vl_dgF hB f _ (div_fuel hB h h0)]
      exact Nat.mod_add_div n B
theorem dgF_lt (hB:2≤B):∀f n x,x∈dgF B f n→x < B
 | 0,n,x,h=>by simp [dgF] at h
 | f+1,n,x,h=>by
  unfold dgF at h
  split at h
  ·simp at h
  ·rcases List.mem_cons.1 h with rfl | h
   ·exact Nat.mod_lt _ (by omega)
   ·exact dgF_lt hB f _ x h
theorem getLast_cons {x:Nat} {r:List Nat}:(x :: r).getLast? = if r=[] then some x else r.getLast? := by
 cases r with
 | nil=>rfl
 | cons y s=>simp [List.getLast?_cons_cons]
theorem dgF_nz (hB:2≤B):∀f n,n≤f→(dgF B f n).getLast? ≠ some 0
 | 0,n,h=>by simp [dgF]
 | f+1,n,h=>by
  unfold dgF
  split
  ·simp
  ·rename_i h0
   rw [getLast_cons]
   have ih:=vl_dgF hB f _ (div_fuel hB h h0)
   have ih2:=dgF_nz hB f _ (div_fuel hB h h0)
   split
   ·rename_i he
    rw [he] at ih
    have h1:n / B=0:=ih.symm
    have h2:=Nat.mod_add_div n B
    simp only [ne_eq,Option.some.injEq]
    intro h3
    rw [h1,h3] at h2
    exact h0 (by omega)
   ·exact ih2
theorem vl_dg (hB:2≤B) (n:Nat):vl B (dg B n)=n:=vl_dgF hB n n (Nat.le_refl _)
theorem dg_lt (hB:2≤B) {n x:Nat} (h:x∈dg B n):x < B:=dgF_lt hB n n x h
theorem cn_dg (hB:2≤B) (n:Nat):Cn B (dg B n):=⟨fun _ h=>dg_lt hB h,dgF_nz hB n n (Nat.le_refl _)⟩
theorem dg_zero (B:Nat):dg B 0=[]:=rfl
theorem Cn.nil:Cn B []:=⟨by simp,by simp⟩
theorem Cn.tail {x:Nat} {r:List Nat} (h:Cn B (x :: r)):Cn B r:=⟨fun y hy=>h.1 y (by simp [hy]),by
 have:=h.2
 rw [getLast_cons] at this
 split at this
 ·rename_i e;rw [e];simp
 ·exact this⟩
theorem vl_pos (hB:2≤B):∀{l:List Nat},Cn B l→l≠[]→0 < vl B l
 | [],_,h=>absurd rfl h
 | x :: r,h,_=>by
  unfold vl
  cases r with
  | nil =>
   have:=h.2
   simp [getLast_cons] at this
   omega
  | cons y s =>
   have:=vl_pos hB h.tail (by simp)
   have:=Nat.mul_pos (by omega:0 < B) this
   omega
theorem vl_inj (hB:2≤B):∀{l m:List Nat},Cn B l→Cn B m→vl B l=vl B m→l=m
 | [],[],_,_,_=>rfl
 | [],y :: s,_,hm,e=>by have:=vl_pos hB hm (by simp);rw [←e] at this;simp [vl] at this
 | x :: r,[],hl,_,e=>by have:=vl_pos hB hl (by simp);rw [e] at this;simp [vl] at this
 | x :: r,y :: s,hl,hm,e=>by
  unfold vl at e;have hx:=hl.1 x (by simp);have hy:=hm.1 y (by simp);have e1:x=y:=by
   have:=congrArg (· % B) e;simpa [Nat.add_mul_mod_self_left,Nat.mod_eq_of_lt hx,Nat.mod_eq_of_lt hy] using this
  have e2:vl B r=vl B s:=by
   have:B*vl B r=B*vl B s:=by omega
   exact Nat.eq_of_mul_eq_mul_left (by omega) this
  rw [e1,vl_inj hB hl.tail hm.tail e2]
theorem dg_vl (hB:2≤B) {l:List Nat} (h:Cn B l):dg B (vl B l)=l:=vl_inj hB (cn_dg hB _) h (vl_dg hB _)
theorem dg_of (hB:2≤B) {l:List Nat} {n:Nat} (h:Cn B l) (e:vl B l=n):dg B n=l:=by rw [←e];exact dg_vl hB h
theorem vl_append:∀(l m:List Nat),vl B (l++m)=vl B l+B ^ l.length*vl B m
 | [],m=>by simp [vl]
 | x :: r,m=>by
  simp only [List.cons_append,vl,vl_append r m,List.length_cons,Nat.pow_succ]
  rw [Nat.mul_add,Nat.add_assoc,←Nat.mul_assoc,Nat.mul_comm B (B ^ r.length)]
theorem vl_snoc (l:List Nat) (x:Nat):vl B (l++[x])=vl B l+B ^ l.length*x:=by rw [vl_append];simp [vl]
theorem vl_lt:∀{l:List Nat},(∀x,x∈l→x < B)→vl B l < B ^ l.length
 | [],_=>by simp [vl]
 | x :: r,h=>by
  have ih:=vl_lt (l:=r) fun y hy=>h y (by simp [hy])
  have hx:=h x (by simp)
  simp only [vl,List.length_cons,Nat.pow_succ]
  have:=Nat.mul_le_mul_left B ih
  rw [Nat.mul_comm (B ^ r.length) B]
  have e:B*(vl B r).succ=B*vl B r+B:=Nat.mul_succ _ _
  omega
theorem vl_zeros:∀n,vl B (List.replicate n 0)=0
 | 0=>rfl
 | n+1=>by simp [List.replicate_succ,vl,vl_zeros n]
theorem vl_take_succ {l:List Nat} {k:Nat} (h:k < l.length):vl B (l.take (k+1))=vl B (l.take k)+B ^ k*l[k]:=by
 rw [List.take_succ_eq_append_getElem h,vl_snoc,List.length_take,Nat.min_eq_left (by omega)]
theorem vl_split (l:List Nat) (k:Nat) (h:k≤l.length):vl B l=vl B (l.take k)+B ^ k*vl B (l.drop k):=by
 conv=>lhs;rw [←List.take_append_drop k l]
 rw [vl_append,List.length_take,Nat.min_eq_left h]
theorem vl_drop {l:List Nat} {k:Nat} (h:k < l.length):vl B (l.drop k)=l[k]+B*vl B (l.drop (k+1)):=by
 rw [List.drop_eq_getElem_cons h];rfl
theorem vl_set:∀{l:List Nat} {j d:Nat} (h:j < l.length),vl B (l.set j d)+B ^ j*l[j]=vl B l+B ^ j*d
 | x :: r,0,d,_=>by simp [vl];omega
 | x :: r,j+1,d,h=>by
  have ih:=vl_set (l:=r) (j:=j) (d:=d) (by simpa using h)
  simp only [List.set_cons_succ,vl,List.getElem_cons_succ,Nat.pow_succ]
  have:=congrArg (B * ·) ih
  simp only [Nat.mul_add] at this
  have e:∀z,B ^ j*B*z=B*(B ^ j*z):=fun z=>by rw [Nat.mul_comm (B ^ j) B,Nat.mul_assoc]
  rw [e,e];omega
theorem Cn.of_take {l:List Nat} (hl:∀x,x∈l→x < B) {k:Nat} (hk:k≤l.length) (h:∀j (hj:j < l.length),k=j+1→l[j]≠0):Cn B (l.take k):=by
 refine ⟨fun x hx=>hl x (List.mem_of_mem_take hx),?_⟩
 cases k with
 | zero=>simp
 | succ j =>
  rw [List.take_succ_eq_append_getElem (by omega),List.getLast?_append]
  simp only [List.getLast?_singleton,Option.some_or,ne_eq,Option.some.injEq]
  exact h j (by omega) rfl
theorem dg_len_le (hB:2≤B) {n k:Nat} (h:n < B ^ k):(dg B n).length≤k:=by
 apply Nat.le_of_not_lt;intro hk;have hc:=cn_dg hB n;have hv:=vl_dg hB n;have hlen:0 < (dg B n).length:=by omega
 have hs:=vl_split (B:=B) (dg B n) ((dg B n).length - 1) (by omega);rw [hv,vl_drop (by omega:(dg B n).length - 1 < (dg B n).length),show (dg B n).length - 1+1=(dg B n).length by omega,List.drop_length] at hs;have hlast:(dg B n)[(dg B n).length - 1]≠0:=fun e=>by
  apply hc.2;rw [List.getLast?_eq_getElem?,List.getElem?_eq_getElem (by omega),e]
 have h1:B ^ k≤B ^ ((dg B n).length - 1):=Nat.pow_le_pow_right (by omega) (by omega);have h2:B ^ ((dg B n).length - 1)*1≤B ^ ((dg B n).length - 1)*((dg B n)[(dg B n).length - 1]+B*vl B []):=Nat.mul_le_mul_left _ (by omega);omega
theorem lt_of_len (hB:2≤B) (n:Nat):n < B ^ (dg B n).length:=by
 have:=vl_lt (B:=B) (l:=dg B n) fun x h=>dg_lt hB h
 rwa [vl_dg hB] at this
theorem vl_lt_len (hB:2≤B) {a b:List Nat} (ha:Cn B a) (hb:Cn B b) (h:a.length < b.length):vl B a < vl B b:=by
 apply Nat.lt_of_not_le
 intro hle
 have h1:vl B b < B ^ a.length:=Nat.lt_of_le_of_lt hle (vl_lt ha.1)
 have:=dg_len_le hB h1
 rw [dg_vl hB hb] at this
 omega
theorem vl_cmp {a b:List Nat} (ha:∀x,x∈a→x < B) {k:Nat} (h1:k < a.length) (h2:k < b.length) (e:a.drop (k+1)=b.drop (k+1)) (h:a[k] < b[k]):vl B a < vl B b:=by
 rw [vl_split a k (by omega),vl_split b k (by omega),vl_drop h1,vl_drop h2,e]
 have h3:=vl_lt (B:=B) (l:=a.take k) fun x hx=>ha x (List.mem_of_mem_take hx)
 rw [List.length_take,Nat.min_eq_left (by omega)] at h3
 have h4:B ^ k*(a[k]+1)≤B ^ k*b[k]:=Nat.mul_le_mul_left _ h
 rw [Nat.mul_add] at h4
 rw [Nat.mul_add,Nat.mul_add]
 omega
theorem dg_small (hB:2≤B) {n:Nat} (h:n < B) (h0:n≠0):dg B n=[n]:=dg_of hB ⟨by simpa using h,by simpa using h0⟩ (by simp [vl])
theorem dg_nil_iff (hB:2≤B) {n:Nat}:dg B n=[]↔n=0:=by
 constructor
 ·intro h;have:=vl_dg hB n;rw [h] at this;exact this.symm
 ·rintro rfl;rfl
theorem dg_len_zero (hB:2≤B) {n:Nat}:(dg B n).length=0↔n=0:=by rw [List.length_eq_zero_iff,dg_nil_iff hB]
end
def bl (n:Nat):Nat:=(dg 2 n).length
theorem lt_bl (n:Nat):n < 2 ^ bl n:=lt_of_len (by decide) n
theorem bl_le {n k:Nat} (h:n < 2 ^ k):bl n≤k:=dg_len_le (by decide) h
theorem bl_mono {a b:Nat} (h:a≤b):bl a≤bl b:=bl_le (Nat.lt_of_le_of_lt h (lt_bl b))
theorem bl_mul (a b:Nat):bl (a*b)≤bl a+bl b:=bl_le (by
 rw [Nat.pow_add]
 exact Nat.lt_of_lt_of_le (Nat.lt_of_le_of_lt (Nat.mul_le_mul_left a (Nat.le_of_lt (lt_bl b))) ((Nat.mul_lt_mul_right (Nat.pow_pos (by decide))).2 (lt_bl a))) (Nat.le_refl _))
theorem bl_add (a b:Nat):bl (a+b)≤max (bl a) (bl b)+1:=bl_le (by
 have h1:2 ^ bl a≤2 ^ max (bl a) (bl b):=Nat.pow_le_pow_right (by decide) (by omega)
 have h2:2 ^ bl b≤2 ^ max (bl a) (bl b):=Nat.pow_le_pow_right (by decide) (by omega)
 have h3:=lt_bl a
 have h4:=lt_bl b
 rw [Nat.pow_succ];omega)
theorem dg_len {B:Nat} (hB:2≤B) (n:Nat):(dg B n).length≤bl n:=dg_len_le hB (Nat.lt_of_lt_of_le (lt_bl n) (Nat.pow_le_pow_left hB _))
end Go.V
namespace Go.V
theorem guess_hi {B m top next ul vl head r guess left:Nat} (hu:ul < m) (he:guess*top+left=head) (hUV:(head*B+r)*m+ul < B*((top*B+next)*m+vl))
  (hc:B≤guess∨left*B+r < guess*next):(head*B+r)*m+ul < guess*((top*B+next)*m+vl):=by
 rcases hc with hc | hc
 ·exact Nat.lt_of_lt_of_le hUV (Nat.mul_le_mul_right _ hc)
 ·have h1:head*B+r+1≤guess*(top*B+next):=by
   subst he;have:guess*(top*B+next)=guess*top*B+guess*next:=by grind
   have:(guess*top+left)*B=guess*top*B+left*B:=by grind
   omega
  have h2:=Nat.mul_le_mul_right m h1;have h3:guess*((top*B+next)*m+vl)=guess*(top*B+next)*m+guess*vl:=by grind
  have h4:(head*B+r+1)*m=(head*B+r)*m+m:=by grind
  omega
theorem guess_lo {B m top next ul vl head r guess left:Nat} (hv:vl≤m) (he:guess*top+left=head) (hg:guess≤top*B+next)
  (hc:guess*next≤left*B+r):guess*((top*B+next)*m+vl)≤(head*B+r)*m+ul+((top*B+next)*m+vl):=by
 have h1:guess*(top*B+next)≤head*B+r:=by
  subst he;have:guess*(top*B+next)=guess*top*B+guess*next:=by grind
  have:(guess*top+left)*B=guess*top*B+left*B:=by grind
  omega
 have h2:=Nat.mul_le_mul_right m h1;have h3:guess*((top*B+next)*m+vl)=guess*(top*B+next)*m+guess*vl:=by grind
 have h4:guess*vl≤(top*B+next)*m:=Nat.mul_le_mul hg hv;omega
theorem guess_rest {B top next head r guess left:Nat} (hn:next < B) (he:guess*top+left=head) (hh:head < top*B+B) (ht:0 < top) (hl:B≤left):guess < B∧guess*next≤left*B+r:=by
 have h1:guess < B:=by
  apply Nat.lt_of_not_le
  intro h
  have:=Nat.mul_le_mul_right top h
  have:B*top=top*B:=Nat.mul_comm _ _
  omega
 refine ⟨h1,?_⟩
 have h2:guess*next≤B*left:=Nat.mul_le_mul (by omega) (by omega)
 have:B*left=left*B:=Nat.mul_comm _ _
 omega
theorem div_unique {a b q r:Nat} (h:r+b*q=a) (hr:r < b):a / b=q∧a % b=r:=by
 subst h
 rw [Nat.add_mul_div_left _ _ (by omega),Nat.div_eq_of_lt hr,Nat.add_mul_mod_self_left,Nat.mod_eq_of_lt hr]
 omega
theorem guess_div {U V g:Nat} (h1:U < (g+1)*V) (h2:g*V≤U+V) :
  (g*V≤U→U / V=g∧U % V=U - g*V)∧(U < g*V→U / V=g - 1∧U % V=U+V - g*V∧1≤g):=by
 have e:(g+1)*V=g*V+V:=Nat.succ_mul _ _
 constructor
 ·intro h
  exact div_unique (by rw [Nat.mul_comm V g];omega) (by omega)
 ·intro h
  have hg:1≤g:=by
   rcases Nat.eq_zero_or_pos g with h0 | h0
   ·subst h0;simp at h
   ·exact h0
  have e2:V*(g - 1)+V=g*V:=by
   obtain ⟨k,rfl⟩:∃k,g=k+1:=⟨g - 1,by omega⟩
   grind
  have:=div_unique (a:=U) (b:=V) (q:=g - 1) (r:=U+V - g*V) (by omega) (by omega)
  exact ⟨this.1,this.2,hg⟩
end Go.V
namespace Go.V
theorem pow_lt_absurd {B n x y:Nat} (hy:y≠0) (h:x+B ^ n*y < B ^ n):False:=by
 have:=Nat.mul_le_mul_left (B ^ n) (by omega:1≤y)
 omega
section
variable {B:Nat}
theorem div_step (hB:2≤B) {R:List Nat} {i n V:Nat} (hlen:i+n+1≤R.length) (hR:∀x,x∈R→x < B) (hV:V < B ^ n) (hlt:vl B (R.drop (i+1)) < V) :
  vl B ((R.drop i).take (n+1)) < B*V∧vl B (R.drop (i+n+1))=0 ∧
  ∀W',W'.length=n+1→vl B W'=vl B ((R.drop i).take (n+1)) % V →
   (R.take i++(W'++R.drop (i+n+1))).length=R.length∧vl B ((R.take i++(W'++R.drop (i+n+1))).drop i) < V ∧
   vl B (R.take i++(W'++R.drop (i+n+1)))+V*(B ^ i*(vl B ((R.drop i).take (n+1)) / V))=vl B R:=by
 have z:vl B (R.drop (i+n+1))=0:=by
  have:=vl_split (B:=B) (R.drop (i+1)) n (by rw [List.length_drop];omega);rw [List.drop_drop,show i+1+n=i+n+1 by omega] at this;apply Classical.byContradiction;intro h0;exact pow_lt_absurd h0 (by rw [←this];omega:vl B ((R.drop (i+1)).take n)+B ^ n*vl B (R.drop (i+n+1)) < B ^ n)
 have e1:vl B (R.drop i)=vl B ((R.drop i).take (n+1)):=by
  have:=vl_split (B:=B) (R.drop i) (n+1) (by rw [List.length_drop];omega);rw [List.drop_drop,show i+(n+1)=i+n+1 by omega,z] at this;simpa using this
 have hU:vl B ((R.drop i).take (n+1)) < B*V:=by
  rw [←e1,vl_drop (by omega:i < R.length)];have h1:=hR R[i] (by simp);have h2:=Nat.mul_le_mul_left B (Nat.succ_le_of_lt hlt);rw [Nat.mul_succ] at h2;omega
 have hV0:0 < V:=by omega
 refine ⟨hU,z,fun W' hw hv=>?_⟩;have ht:(R.take i).length=i:=by rw [List.length_take];omega
 have hd:(R.take i++(W'++R.drop (i+n+1))).drop i=W'++R.drop (i+n+1):=by
  rw [List.drop_append,ht];simp
 refine ⟨?_,?_,?_⟩
 ·simp only [List.length_append,List.length_take,List.length_drop,hw];omega
 ·rw [hd,vl_append,z,hv];simp;exact Nat.mod_lt _ hV0
 ·rw [vl_append,vl_append,z,ht,hv];have h1:=vl_split (B:=B) R i (by omega);rw [h1,e1];have h2:=Nat.mod_add_div (vl B ((R.drop i).take (n+1))) V;generalize vl B ((R.drop i).take (n+1))=U at *;generalize U % V=m at *;generalize U / V=q at *;have:B ^ i*U=B ^ i*m+B ^ i*(V*q):=by rw [←h2,Nat.mul_add]
  have:V*(B ^ i*q)=B ^ i*(V*q):=by grind
  simp only [Nat.mul_zero,Nat.add_zero];omega
theorem div_done {s a b V R q:Nat} (hs:0 < s) (hV:V=b*s) (h:R+V*q=a*s) (hR:R < V):a / b=q∧a % b=R / s∧R % s=0:=by
 subst hV;have e:R=s*(R / s)+R % s:=(Nat.div_add_mod R s).symm;have h0:R % s=0:=by
  have:R % s=(R+b*s*q) % s:=by
   rw [show b*s*q=s*(b*q) by grind,Nat.add_mul_mod_self_left]
  rw [this,h,Nat.mul_mod_left]
 have h1:s*(R / s)=R:=by omega
 have h2:R / s+b*q=a:=by
  apply Nat.eq_of_mul_eq_mul_left hs;rw [Nat.mul_add,h1,show s*(b*q)=b*s*q by grind,h,Nat.mul_comm]
 have h3:R / s < b:=by
  apply Nat.lt_of_mul_lt_mul_left (a:=s);rw [h1,Nat.mul_comm s b];exact hR
 obtain ⟨h4,h5⟩:=div_unique h2 h3;exact ⟨h4,h5,h0⟩
theorem shift_step {w r s c:Nat} (hc:B=s*c) (hs:0 < s) (hr:r < B):(r+B*w) / s % B=r / s+c*(w % s)∧(r+B*w) / s=(r+B*w) / s % B+B*(w / s):=by
 have key:(r+B*w) / s=r / s+c*w:=by
  rw [hc,Nat.mul_assoc,Nat.add_mul_div_left _ _ hs]
 have h1:=Nat.div_add_mod w s
 have h2:=Nat.mod_lt w hs
 have h3:r / s < c:=Nat.div_lt_of_lt_mul (by rw [←hc];exact hr)
 have h4:c*(w % s)+c≤B:=by
  have:=Nat.mul_le_mul_left c (Nat.succ_le_of_lt h2)
  rw [Nat.mul_succ,Nat.mul_comm c s,←hc] at this
  exact this
 have h5:c*w=B*(w / s)+c*(w % s):=by
  rw [hc,show s*c*(w / s)=c*(s*(w / s)) by grind,←Nat.mul_add,h1]
 have h6:(r+B*w) / s % B=r / s+c*(w % s):=by
  rw [key,h5,show r / s+(B*(w / s)+c*(w % s))=r / s+c*(w % s)+B*(w / s) by omega,Nat.add_mul_mod_self_left,Nat.mod_eq_of_lt (by omega)]
 exact ⟨h6,by rw [h6,key,h5];omega⟩
theorem shift_same {w w' r s c:Nat} (hc:B=s*c) (hs:0 < s) (hr:r < B) (h:w % B=w' % B):(r+B*w) / s % B=(r+B*w') / s % B:=by
 rw [(shift_step hc hs hr).1,(shift_step hc hs hr).1]
 have:∀z,z % s=z % B % s:=fun z=>by rw [Nat.mod_mod_of_dvd z ⟨c,hc⟩]
 rw [this w,this w',h]
end
end Go.V
namespace Go.V
def sgn (s:Bool) (n:Nat):Int:=if s then -(n:Int) else n
theorem sgn_f (n:Nat):sgn false n=n:=rfl
theorem sgn_t (n:Nat):sgn true n = -(n:Int):=rfl
def ng (q:Rat):Bool:=decide (q.num < 0)
def tp (q:Rat):Nat:=q.num.natAbs
theorem sgn_abs (s:Bool) (n:Nat):(sgn s n).natAbs=n:=by cases s <;> simp [sgn]
theorem sgn_parts (q:Rat):sgn (ng q) (tp q)=q.num:=by
 unfold sgn ng tp
 by_cases h:q.num < 0
 ·simp [h];omega
 ·simp [h];omega
theorem mk_parts (q:Rat):mkRat (sgn (ng q) (tp q)) q.den=q:=by rw [sgn_parts,Rat.mkRat_self]
theorem mkRat_parts {s:Bool} {t b:Nat} (hb:b≠0):ng (mkRat (sgn s t) b)=(s && decide (t≠0))∧tp (mkRat (sgn s t) b)=t / t.gcd b∧(mkRat (sgn s t) b).den=b / t.gcd b:=by
 have hn:(mkRat (sgn s t) b).num=sgn s t / (t.gcd b:Int):=by
  rw [←Rat.normalize_eq_mkRat hb,Rat.normalize_eq];show sgn s t / (((sgn s t).natAbs.gcd b:Nat):Int)=_;rw [sgn_abs]
 have hdn:(mkRat (sgn s t) b).den=b / t.gcd b:=by
  rw [←Rat.normalize_eq_mkRat hb,Rat.normalize_eq];show b / (sgn s t).natAbs.gcd b=_;rw [sgn_abs]
 have hg:0 < t.gcd b:=Nat.gcd_pos_of_pos_right t (by omega);have hd:t.gcd b∣t:=Nat.gcd_dvd_left t b;obtain ⟨c,hc⟩:=hd;have hq:t / t.gcd b=c:=Nat.div_eq_of_eq_mul_right hg hc;have hz:(t.gcd b:Int)≠0:=by omega
 have hs:sgn s t / (t.gcd b:Int)=sgn s c:=by
  cases s with
  | false =>
   rw [sgn_f,sgn_f,show (t:Int)=(t.gcd b:Int)*(c:Int) by rw [←Int.natCast_mul,←hc]];exact Int.mul_ediv_cancel_left _ hz
  | true =>
   rw [sgn_t,sgn_t,show -(t:Int)=(t.gcd b:Int) * -(c:Int) by rw [Int.mul_neg,←Int.natCast_mul,←hc]];exact Int.mul_ediv_cancel_left _ hz
 rw [hs] at hn;have ht:(t=0)↔(c=0):=by
  constructor
  ·intro h;rcases Nat.mul_eq_zero.1 (hc.symm.trans h) with h | h
   ·omega
   ·exact h
  ·intro h;rw [hc,h,Nat.mul_zero]
 refine ⟨?_,?_,hdn⟩
 ·have e:ng (mkRat (sgn s t) b)=decide (sgn s c < 0):=by unfold ng;simp only [hn]
  rw [e];cases s with
  | false=>rw [sgn_f];simp
  | true =>
   rw [sgn_t,Bool.true_and];by_cases h0:c=0
   ·simp [h0,ht.2 h0]
   ·have:t≠0:=fun h=>h0 (ht.1 h);simp [this];omega
 ·unfold tp;rw [hn,hq,sgn_abs]
theorem parts_of {s:Bool} {t b:Nat} (hb:b≠0) (hg:t.gcd b=1) (hs:t=0→s=false):ng (mkRat (sgn s t) b)=s∧tp (mkRat (sgn s t) b)=t∧(mkRat (sgn s t) b).den=b:=by
 obtain ⟨h1,h2,h3⟩:=mkRat_parts (s:=s) (t:=t) hb
 rw [hg,Nat.div_one] at h2 h3
 refine ⟨?_,h2,h3⟩
 rw [h1]
 by_cases h0:t=0
 ·simp [h0,hs h0]
 ·simp [h0]
theorem tp_zero {q:Rat}:tp q=0↔q=0:=by unfold tp;rw [Int.natAbs_eq_zero,Rat.num_eq_zero]
theorem ng_zero {q:Rat} (h:tp q=0):ng q=false:=by rw [tp_zero] at h;subst h;rfl
theorem den_pos (q:Rat):0 < q.den:=Nat.pos_of_ne_zero q.den_nz
theorem cop (q:Rat):(tp q).gcd q.den=1:=q.reduced
theorem num_sgn (q:Rat):q.num=sgn (ng q) (tp q):=(sgn_parts q).symm
theorem sgn_mul (s:Bool) (n m:Nat):sgn s n*(m:Int)=sgn s (n*m):=by cases s <;> simp [sgn,Int.neg_mul]
theorem sgn_mul_sgn (s s':Bool) (n m:Nat):sgn s n*sgn s' m=sgn (s != s') (n*m):=by cases s <;> cases s' <;> simp [sgn,Int.neg_mul,Int.mul_neg]
theorem sgn_add (s s':Bool) (x y:Nat):sgn s x+sgn s' y=if s=s' then sgn s (x+y) else if y≤x then sgn s (x - y) else sgn s' (y - x):=by
 cases s <;> cases s' <;> by_cases h:y≤x <;> simp [sgn,h] <;> omega
theorem add_parts (a b:Rat):a+b=mkRat (sgn (ng a) (tp a*b.den)+sgn (ng b) (tp b*a.den)) (a.den*b.den):=by
 rw [Rat.add_def,Rat.normalize_eq_mkRat,num_sgn a,num_sgn b,sgn_mul,sgn_mul]
theorem add_same {a b:Rat} (h:a.den=b.den):a+b=mkRat (sgn (ng a) (tp a)+sgn (ng b) (tp b)) a.den:=by
 rw [add_parts,←h,←sgn_mul,←sgn_mul,←Int.add_mul,Int.mul_comm]
 exact Rat.mkRat_mul_left a.den_nz
theorem mul_parts (a b:Rat):a*b=mkRat (sgn (ng a != ng b) (tp a*tp b)) (a.den*b.den):=by
 rw [Rat.mul_def,Rat.normalize_eq_mkRat,num_sgn a,num_sgn b,sgn_mul_sgn]
theorem neg_parts (a:Rat):ng (-a)=(!ng a && decide (tp a≠0))∧tp (-a)=tp a∧(-a).den=a.den:=by
 refine ⟨?_,?_,Rat.neg_den a⟩
 ·unfold ng tp
  rw [Rat.neg_num]
  by_cases h:a.num < 0
  ·simp [h];omega
  ·by_cases h0:a.num=0
   ·simp [h0]
   ·simp [h,h0];omega
 ·unfold tp;rw [Rat.neg_num];simp
theorem inv_parts {a:Rat} (h:a≠0):ng a⁻¹=ng a∧tp a⁻¹=a.den∧a⁻¹.den=tp a:=by
 have h0:a.num≠0:=fun e=>h (Rat.num_eq_zero.1 e)
 have hd:=a.den_nz
 unfold ng tp
 show decide ((Rat.inv a).num < 0)=_∧(Rat.inv a).num.natAbs=_∧(Rat.inv a).den=_
 unfold Rat.inv
 by_cases h1:a.num < 0
 ·rw [dif_pos h1];simp [h1];omega
 ·rw [dif_neg h1,dif_pos (by omega:a.num > 0)];simp [h1]
theorem div_parts (a:Rat) {b:Rat} (h:b≠0):a / b=mkRat (sgn (ng a != ng b) (tp a*b.den)) (a.den*tp b):=by
 obtain ⟨h1,h2,h3⟩:=inv_parts h
 rw [Rat.div_def,mul_parts,h1,h2,h3]
theorem eq_cross (a b:Rat):a=b↔ng a=ng b∧tp a*b.den=tp b*a.den:=by
 constructor
 ·rintro rfl;exact ⟨rfl,rfl⟩
 ·rintro ⟨h1,h2⟩
  rw [←mk_parts a,←mk_parts b,Rat.mkRat_eq_iff a.den_nz b.den_nz,sgn_mul,sgn_mul,h1,h2]
theorem lt_cross (a b:Rat):a < b↔sgn (ng a) (tp a*b.den) < sgn (ng b) (tp b*a.den):=by
 rw [Rat.lt_iff,num_sgn a,num_sgn b,sgn_mul,sgn_mul]
theorem lowest_mul {a b:Rat}:tp (a*b)=(tp a / (tp a).gcd b.den)*(tp b / (tp b).gcd a.den)∧(a*b).den=(b.den / (tp a).gcd b.den)*(a.den / (tp b).gcd a.den)∧ng (a*b)=((ng a != ng b) && decide (tp a≠0) && decide (tp b≠0)):=by
 have e:=mul_parts a b;have hd:a.den*b.den≠0:=Nat.mul_ne_zero a.den_nz b.den_nz;obtain ⟨h1,h2,h3⟩:=mkRat_parts (s:=ng a != ng b) (t:=tp a*tp b) hd;rw [←e] at h1 h2 h3;have hg1:0 < (tp a).gcd b.den:=Nat.gcd_pos_of_pos_right _ (den_pos b);have hg2:0 < (tp b).gcd a.den:=Nat.gcd_pos_of_pos_right _ (den_pos a);obtain ⟨x,hx⟩:=Nat.gcd_dvd_left (tp a) b.den;obtain ⟨y,hy⟩:=Nat.gcd_dvd_right (tp a) b.den;obtain ⟨z,hz⟩:=Nat.gcd_dvd_left (tp b) a.den;obtain ⟨u,hu⟩:=Nat.gcd_dvd_right (tp b) a.den;have ca:=cop a;have cb:=cop b;have c1:=Nat.coprime_div_gcd_div_gcd (m:=tp a) (n:=b.den) hg1;have c2:=Nat.coprime_div_gcd_div_gcd (m:=tp b) (n:=a.den) hg2;generalize (tp a).gcd b.den=g1 at *;generalize (tp b).gcd a.den=g2 at *;have dx:tp a / g1=x:=by rw [hx];exact Nat.mul_div_cancel_left x hg1
 have dy:b.den / g1=y:=by rw [hy];exact Nat.mul_div_cancel_left y hg1
 have dz:tp b / g2=z:=by rw [hz];exact Nat.mul_div_cancel_left z hg2
 have du:a.den / g2=u:=by rw [hu];exact Nat.mul_div_cancel_left u hg2
 rw [dx,dy] at c1;rw [dz,du] at c2;rw [dx,dy,dz,du];have cxu:x.gcd u=1:=(fun h=>Nat.eq_one_of_dvd_one (by rw [←ca];exact h)) (Nat.dvd_gcd (Nat.dvd_trans (Nat.gcd_dvd_left x u) ⟨g1,by rw [hx,Nat.mul_comm]⟩) (Nat.dvd_trans (Nat.gcd_dvd_right x u) ⟨g2,by rw [hu,Nat.mul_comm]⟩));have czy:z.gcd y=1:=(fun h=>Nat.eq_one_of_dvd_one (by rw [←cb];exact h)) (Nat.dvd_gcd (Nat.dvd_trans (Nat.gcd_dvd_left z y) ⟨g2,by rw [hz,Nat.mul_comm]⟩) (Nat.dvd_trans (Nat.gcd_dvd_right z y) ⟨g1,by rw [hy,Nat.mul_comm]⟩));have cop2:(x*z).gcd (y*u)=1 :=
  Nat.Coprime.mul_left (Nat.Coprime.mul_right c1 cxu) (Nat.Coprime.mul_right czy c2)
 have eg:(tp a*tp b).gcd (a.den*b.den)=g1*g2:=by
  rw [hx,hy,hz,hu,show g1*x*(g2*z)=g1*g2*(x*z) by grind,show g2*u*(g1*y)=g1*g2*(y*u) by grind,Nat.gcd_mul_left,cop2,Nat.mul_one]
 have hgg:0 < g1*g2:=Nat.mul_pos hg1 hg2;rw [eg] at h2 h3;refine ⟨?_,?_,?_⟩
 ·rw [h2,hx,hz,show g1*x*(g2*z)=g1*g2*(x*z) by grind];exact Nat.mul_div_cancel_left _ hgg
 ·rw [h3,hy,hu,show g2*u*(g1*y)=g1*g2*(y*u) by grind];exact Nat.mul_div_cancel_left _ hgg
 ·rw [h1];by_cases ha:tp a=0
  ·simp [ha]
  ·by_cases hb:tp b=0
   ·simp [hb]
   ·simp [ha,hb,Nat.mul_eq_zero]
end Go.V
namespace Go.V
section
variable {B:Nat}
theorem getD_lt {l:List Nat} (h:∀x,x∈l→x < B) (hB:0 < B) (k:Nat):l.getD k 0 < B:=by
 rw [gD]
 by_cases hk:k < l.length
 ·rw [List.getElem?_eq_getElem hk];exact h _ (by simp)
 ·rw [List.getElem?_eq_none (by omega)];exact hB
theorem vl_take_getD (l:List Nat) (k:Nat):vl B (l.take (k+1))=vl B (l.take k)+B ^ k*l.getD k 0:=by
 by_cases hk:k < l.length
 ·rw [vl_take_succ hk,gD,List.getElem?_eq_getElem hk];rfl
 ·rw [List.take_of_length_le (by omega),List.take_of_length_le (by omega),gD,List.getElem?_eq_none (by omega)];simp
theorem split_digit {P x:Nat}:P*x=P*(x % B)+P*B*(x / B):=by
 conv=>lhs;rw [←Nat.mod_add_div x B,Nat.mul_add,←Nat.mul_assoc]
theorem add_step {a b r:List Nat} {c:Nat} (h:vl B r+B ^ r.length*c=vl B (a.take r.length)+vl B (b.take r.length)) :
  vl B (r++[(c+a.getD r.length 0+b.getD r.length 0) % B])+B ^ (r.length+1)*((c+a.getD r.length 0+b.getD r.length 0) / B)=vl B (a.take (r.length+1))+vl B (b.take (r.length+1)):=by
 rw [vl_snoc,vl_take_getD,vl_take_getD,Nat.pow_succ]
 have:=split_digit (B:=B) (P:=B ^ r.length) (x:=c+a.getD r.length 0+b.getD r.length 0)
 rw [Nat.mul_add,Nat.mul_add] at this
 omega
theorem sub_step {a b r:List Nat} {c d c':Nat} (h:vl B r+vl B (b.take r.length)=vl B (a.take r.length)+B ^ r.length*c)
  (hd:d+c+b.getD r.length 0=a.getD r.length 0+B*c') :
  vl B (r++[d])+vl B (b.take (r.length+1))=vl B (a.take (r.length+1))+B ^ (r.length+1)*c':=by
 rw [vl_snoc,vl_take_getD,vl_take_getD,Nat.pow_succ]
 have h2:=congrArg (B ^ r.length * ·) hd
 simp only [Nat.mul_add,←Nat.mul_assoc] at h2
 omega
theorem mul_step {O b:List Nat} {i k x c M:Nat} (hk:i+k < O.length) (h:vl B O+B ^ (i+k)*c=M+B ^ i*(x*vl B (b.take k))) :
  vl B (O.set (i+k) ((c+(x*b.getD k 0+O[i+k])) % B))+B ^ (i+(k+1))*((c+(x*b.getD k 0+O[i+k])) / B)=M+B ^ i*(x*vl B (b.take (k+1))):=by
 have h1:=vl_set (B:=B) (d:=(c+(x*b.getD k 0+O[i+k])) % B) hk
 have h2:=split_digit (B:=B) (P:=B ^ (i+k)) (x:=c+(x*b.getD k 0+O[i+k]))
 rw [vl_take_getD,←Nat.add_assoc i k 1,Nat.pow_succ]
 have h3:B ^ i*(x*(vl B (b.take k)+B ^ k*b.getD k 0))=B ^ i*(x*vl B (b.take k))+B ^ (i+k)*(x*b.getD k 0):=by
  rw [Nat.pow_add];grind
 rw [h3]
 rw [Nat.mul_add,Nat.mul_add] at h2
 omega
theorem mul_bound {x y o c:Nat} (hx:x < B) (hy:y < B) (ho:o < B) (hc:c < B):c+(x*y+o) < B*B∧(c+(x*y+o)) / B < B:=by
 have h1:c+(x*y+o) < B*B:=by
  have h2:x*y≤(B - 1)*(B - 1):=Nat.mul_le_mul (by omega) (by omega);obtain ⟨n,rfl⟩:∃n,B=n+1:=⟨B - 1,by omega⟩;simp only [Nat.add_sub_cancel] at h2;have:(n+1)*(n+1)=n*n+2*n+1:=by grind
  omega
 exact ⟨h1,Nat.div_lt_of_lt_mul h1⟩
theorem mul_last {O:List Nat} {i n c M:Nat} (hk:i+n < O.length) (h0:O[i+n]=0) (h:vl B O+B ^ (i+n)*c=M):vl B (O.set (i+n) c)=M:=by
 have h1:=vl_set (B:=B) (d:=c) hk
 rw [h0] at h1
 omega
theorem short_step {a:List Nat} {i q r b:Nat} (hi:i < a.length) (hb:0 < b) (hr:r < b) (h:vl B (a.drop (i+1))=b*q+r) (ha:a[i] < B) :
  vl B (a.drop i)=b*((r*B+a[i]) / b+B*q)+(r*B+a[i]) % b∧(r*B+a[i]) / b < B∧(r*B+a[i]) % b < b:=by
 refine ⟨?_,?_,Nat.mod_lt _ hb⟩
 ·rw [vl_drop hi,h];have:=Nat.div_add_mod (r*B+a[i]) b;have e:B*(b*q+r)=b*(B*q)+r*B:=by grind
  rw [e,Nat.mul_add];omega
 ·apply Nat.div_lt_of_lt_mul;have h1:(r+1)*B≤b*B:=Nat.mul_le_mul_right _ hr;have h2:(r+1)*B=r*B+B:=Nat.succ_mul _ _;omega
theorem take_step {a b r:List Nat} {g c l d l':Nat} (h:vl B r+g*vl B (b.take r.length)=vl B (a.take r.length)+B ^ r.length*(c+l))
  (hd:d+(c+g*b.getD r.length 0) % B+l=a.getD r.length 0+B*l') :
  vl B (r++[d])+g*vl B (b.take (r.length+1))=vl B (a.take (r.length+1))+B ^ (r.length+1)*((c+g*b.getD r.length 0) / B+l'):=by
 rw [vl_snoc,vl_take_getD,vl_take_getD,Nat.pow_succ]
 have h2:=congrArg (B ^ r.length * ·) hd
 have h3:=split_digit (B:=B) (P:=B ^ r.length) (x:=c+g*b.getD r.length 0)
 simp only [Nat.mul_add,←Nat.mul_assoc] at h2 h3 h ⊢
 rw [show g*B ^ r.length*b.getD r.length 0=B ^ r.length*g*b.getD r.length 0 by grind]
 omega
theorem take_end {n U V g w k:Nat} (hw:w < B ^ (n+1)) (hU:U < B ^ (n+1)) (hV:V < B ^ n) (hB:2≤B) (h:w+g*V=U+B ^ (n+1)*k) (hg:g*V≤U+V) :
  (k=0→g*V≤U∧w=U - g*V)∧(k≠0→U < g*V∧k=1∧w+V=(U+V - g*V)+B ^ (n+1)):=by
 constructor
 ·rintro rfl;omega
 ·intro hk;have hk1:k=1:=by
   apply Classical.byContradiction;intro h1;have h2:=Nat.mul_le_mul_left (B ^ (n+1)) (by omega:2≤k);have h3:B ^ n*2≤B ^ (n+1):=by rw [Nat.pow_succ];exact Nat.mul_le_mul_left _ hB
   omega
  subst hk1;omega
end
end Go.V
namespace Go.V
open Go.Proofs
set_option maxRecDepth 10000
abbrev B32:Nat:=4294967296
abbrev B9:Nat:=1000000000
theorem b32:2≤B32:=by decide
theorem b9:2≤B9:=by decide
def cW (k:IntKind) (l:List Nat):List (List C):=l.map fun (n:Nat)=>[.s (.int k (n:Int))]
theorem cW_len (k:IntKind) (l:List Nat):(cW k l).length=l.length:=by simp [cW]
theorem cW_sz (k:IntKind) (l:List Nat):∀r,r∈cW k l→r.length=1:=by
 intro r hr;simp only [cW,List.mem_map] at hr;obtain ⟨n,_,rfl⟩:=hr;rfl
theorem cW_get {k:IntKind} {l:List Nat} {i:Nat} (h:i < l.length):(cW k l)[i]? = some [.s (.int k l[i])]:=by simp [cW,h]
theorem cW_set (k:IntKind) (l:List Nat) (i n:Nat):(cW k l).set i [.s (.int k n)]=cW k (l.set i n):=by simp [cW,List.map_set]
theorem cW_append (k:IntKind) (l m:List Nat):cW k l++cW k m=cW k (l++m):=by simp [cW]
theorem cW_take (k:IntKind) (l:List Nat) (n:Nat):(cW k l).take n=cW k (l.take n):=by simp [cW,List.map_take]
theorem cW_drop (k:IntKind) (l:List Nat) (n:Nat):(cW k l).drop n=cW k (l.drop n):=by simp [cW,List.map_drop]
theorem cW_rep (k:IntKind) (n:Nat):List.replicate n [C.s (.int k 0)]=cW k (List.replicate n 0):=by simp [cW]
theorem wrap_u32 {z:Int}:IntKind.u32.wrap z=z % 4294967296:=by
 simp only [IntKind.wrap,IntKind.signed,IntKind.bits];simp
theorem wrap_u64 {z:Int}:IntKind.u64.wrap z=z % 18446744073709551616:=by
 simp only [IntKind.wrap,IntKind.signed,IntKind.bits];simp
theorem wrap_u8 {z:Int}:IntKind.u8.wrap z=z % 256:=by
 simp only [IntKind.wrap,IntKind.signed,IntKind.bits];simp
theorem Wr.is {z y:Int} {k:IntKind} {K:Int→Prop} (h:k.wrap z=y) (hk:K y):Wr z k K:=⟨by rw [h];exact hk⟩
theorem Sub.full {rows:List (List C)} {n:Nat} {K:List (List C)→Prop} (h:rows.length=n) (hk:K rows):Sub rows 0 n K :=
 ⟨rows,by rw [List.drop_zero,List.take_of_length_le (by omega)],by omega,hk⟩
theorem Sub.lo {rows:List (List C)} {lo n:Nat} {K:List (List C)→Prop} (h:lo+n≤rows.length) (hk:K ((rows.drop lo).take n)):Sub rows lo n K:=⟨_,rfl,h,hk⟩
theorem Wr.w32 {z:Int} {n:Nat} {K:Int→Prop} (h:z=(n:Int)) (hk:K (n % B32:Nat)):Wr z .u32 K:=.is (by rw [wrap_u32,h];rfl) hk
theorem Wr.n32 {z:Int} {n:Nat} {K:Int→Prop} (h:z=(n:Int)) (hn:n < 4294967296) (hk:K n):Wr z .u32 K:=.is (by rw [wrap_u32,h];omega) hk
theorem Wr.n64 {z:Int} {n:Nat} {K:Int→Prop} (h:z=(n:Int)) (hn:n < 18446744073709551616) (hk:K n):Wr z .u64 K:=.is (by rw [wrap_u64,h];omega) hk
theorem Wr.i64 {z y:Int} {K:Int→Prop} (h:z=y) (h1:-9223372036854775808≤y) (h2:y≤9223372036854775807) (hk:K y):Wr z .i64 K:=.is (by rw [h,wrap_i64 h1 h2]) hk
theorem put_digit {r:List Nat} {m d:Nat}:(r++List.replicate (m+1) 0).set r.length d=(r++[d])++List.replicate m 0:=by
 rw [List.set_append_right _ _ (Nat.le_refl _),Nat.sub_self,List.replicate_succ,List.set_cons_zero];simp
abbrev nI (n:Nat):AV:=.d (.sl (cW .u32 (dg B32 n)))
abbrev nS (n:Nat):AV:=.d (.sl (cW .i64 (dg B9 n)))
end Go.V
namespace Go.V
open Lib (decDigits)
def pd:Nat→Nat→List UInt8
 | 0,_=>[]
 | k+1,r=>pd k (r / 10)++[UInt8.ofNat (48+r % 10)]
theorem dec_one {u:Nat} (h:u < 10):decDigits u=[UInt8.ofNat (48+u)]:=by rw [decDigits,dif_pos h]
theorem dec_more {u:Nat} (h:¬u < 10):decDigits u=decDigits (u / 10)++[UInt8.ofNat (48+u % 10)]:=by rw [decDigits,dif_neg h]
theorem pd_zero:∀k,pd k 0=List.replicate k 48
 | 0=>rfl
 | k+1=>by
  rw [pd,show 0 / 10=0 from rfl,pd_zero k,List.replicate_succ']
  rfl
theorem pd_dec:∀{k r:Nat},r < 10 ^ (k+1)→pd (k+1) r=List.replicate (k+1 - (decDigits r).length) 48++decDigits r∧(decDigits r).length≤k+1
 | 0,r,h=>by
  have:r < 10:=by simpa using h
  rw [dec_one this];simp [pd,Nat.mod_eq_of_lt this]
 | k+1,r,h=>by
  by_cases h1:r < 10
  ·rw [dec_one h1,pd,show r / 10=0 by omega,pd_zero,Nat.mod_eq_of_lt h1];simp
  ·obtain ⟨h2,h3⟩:=pd_dec (k:=k) (r:=r / 10) (by rw [Nat.pow_succ] at h;omega);rw [dec_more h1,pd,h2];simp only [List.length_append,List.length_singleton,List.append_assoc];refine ⟨?_,by omega⟩;rw [show k+1 - (decDigits (r / 10)).length=k+1+1 - ((decDigits (r / 10)).length+1) by omega]
end Go.V
namespace Go.V
open Go.Proofs
set_option maxRecDepth 10000
def cB (l:List UInt8):List (List C):=l.map fun b=>[.s (.int .u8 b.toNat)]
theorem cB_len (l:List UInt8):(cB l).length=l.length:=by simp [cB]
abbrev Str (l:List UInt8):AV:=.d (.s (.string ⟨l.toArray⟩))
theorem dec_len {u:Nat} (h:u≤9223372036854775808):(Lib.decDigits u).length≤19:=(pd_dec (k:=18) (by omega)).2
def DecI (n:Int) (s:Int×List UInt8):Prop:=s.1.natAbs≤n.natAbs∧(s.2=[]→s.1=n)∧(s.2≠[]→Lib.decDigits n.natAbs=(if s.1=0 then [] else Lib.decDigits s.1.natAbs)++s.2)
theorem DecI.len {n:Int} {s:Int×List UInt8} (h:DecI n s) (hn:n.natAbs≤9223372036854775808):s.2.length≤19:=by
 by_cases h0:s.2=[]
 ·rw [h0];simp
 ·have:=h.2.2 h0
  have h1:=dec_len hn
  rw [this,List.length_append] at h1
  omega
theorem DecI.step {n:Int} {s:Int×List UInt8} (h:DecI n s) (hc:s.2=[]∨s.1≠0):DecI n (s.1.tdiv 10,UInt8.ofNat (48+s.1.natAbs % 10) :: s.2):=by
 obtain ⟨r,out⟩:=s;simp only at hc ⊢;have hd:(r.tdiv 10).natAbs=r.natAbs / 10:=by rw [Int.natAbs_tdiv];rfl
 have hz:r.tdiv 10=0↔r.natAbs < 10:=by omega
 obtain ⟨h1,h2,h3⟩:=h;simp only at h1 h2 h3;refine ⟨by simp only [hd];omega,by simp,fun _=>?_⟩;simp only [hd];have key:Lib.decDigits r.natAbs=(if r.tdiv 10=0 then [] else Lib.decDigits (r.natAbs / 10))++[UInt8.ofNat (48+r.natAbs % 10)]:=by
  by_cases hs:r.natAbs < 10
  ·rw [dec_one hs,if_pos (hz.2 hs),Nat.mod_eq_of_lt hs];rfl
  ·rw [dec_more hs,if_neg (fun e=>hs (hz.1 e))]
 by_cases h0:out=[]
 ·rw [←h2 h0,key,h0]
 ·have hr:r≠0:=hc.resolve_left h0;rw [h3 h0,if_neg hr,key,List.append_assoc];rfl
theorem fn_l01Dec (n:Int) (h1:-9223372036854775808≤n) (h2:n≤9223372036854775807):Fn Tryz.prog 97 [I n] [] (Str (Lib.itoa n)) []:=by
 refine Fn.intro (ks:=[0,2,3,4,5,14,18,30]) hty rfl rfl rfl rfl rfl ?_;conv=>whnf
 refine VLoop.ren 6 900 rfl ?_;refine VLoop.invR hty (S:=Int×List UInt8) [(26,900)] (fun s=>[(4,I s.1),(3,.ls 900 0 s.2.length 1),(0,I n)]) (fun s=>[(900,.row true 1 (cB s.2))])
  (DecI n) (fun s=>2*s.1.natAbs+if s.2=[] then 1 else 0) (n,[]) ⟨Nat.le_refl _,fun _=>rfl,fun h=>absurd rfl h⟩ ⟨rfl,rfl,rfl,trivial⟩ ⟨rfl,trivial⟩ ?_
 intro s hI;have hl:=hI.len (by omega);have hr:=hI.1;conv=>whnf
 refine Br.mk (fun h=>?b) (fun h=>?c)
 case' b =>
  have h0:s.2=[]:=by simpa using h
  have hc:s.2=[]∨s.1≠0:=.inl h0
 case' c =>
  have h0:s.2≠[]:=by simpa using h
  conv=>whnf
  refine Br.mk (fun h=>?b2) (fun h=>?e)
  case' b2 =>
   have hr0:s.1≠0:=by simpa using h
   have hc:s.2=[]∨s.1≠0:=.inr hr0
  case e =>
   have hr0:s.1=0:=by simpa using h
   have hD:=hI.2.2 h0;simp only [hr0,if_true,List.nil_append] at hD;conv=>whnf
   by_cases hn:n < 0
   ·rw [decide_eq_true hn];conv=>whnf
    refine Sub.full (cB_len _) ?_;conv=>whnf
    refine Sub.full rfl ?_;conv=>whnf
    refine ⟨by show (1+s.2.length)*1≤_;omega,?_⟩;conv=>whnf
    refine Sub.full (by simp [cB_len,Nat.add_comm]) ?_;conv=>whnf
    refine ⟨⟨(45 :: s.2).toArray⟩,by simp [cB],?_⟩;conv=>whnf
    refine ⟨?_,trivial,rfl⟩;rw [Lib.itoa,if_pos hn,hD]
   ·rw [decide_eq_false hn];conv=>whnf
    refine Sub.full (cB_len _) ?_;conv=>whnf
    refine ⟨⟨s.2.toArray⟩,by simp [cB],?_⟩;conv=>whnf
    refine ⟨?_,trivial,rfl⟩;rw [Lib.itoa,if_neg hn,←hD,show n.natAbs=n.toNat by omega]
 all_goals
  have em:(s.1.tmod 10).natAbs=s.1.natAbs % 10:=Int.natAbs_tmod s.1 10;have ed:(s.1.tdiv 10).natAbs=s.1.natAbs / 10:=by rw [Int.natAbs_tdiv];rfl
  have hS:=hI.step hc;have hb:(48+(s.1.natAbs % 10:Nat):Int)=((48+s.1.natAbs % 10:Nat):Int):=by omega
  conv=>whnf
  refine ⟨by decide,?_⟩;conv=>whnf
  refine Br.mk (fun hs=>?_) (fun hs=>?_)
  case' refine_1 =>
   have hs:s.1.tmod 10 < 0:=by simpa using hs
   conv=>whnf
   refine Wr.i64 (y:=(s.1.natAbs % 10:Nat)) (by omega) (by omega) (by omega) ?_
  case' refine_2 =>
   have hs:¬s.1.tmod 10 < 0:=by simpa using hs
   have e:s.1.tmod 10=(s.1.natAbs % 10:Nat):=by omega
   rw [e]
  all_goals
   conv=>whnf
   refine Wr.i64 (y:=(48+s.1.natAbs % 10:Nat)) (by omega) (by omega) (by omega) ?_;conv=>whnf
   refine Wr.is (y:=((UInt8.ofNat (48+s.1.natAbs % 10)).toNat:Int)) (by
    rw [wrap_u8,UInt8.toNat_ofNat'];omega) ?_
   conv=>whnf
   refine Sub.full (cB_len _) ?_;conv=>whnf
   refine Sub.full rfl ?_;conv=>whnf
   refine ⟨by show (1+s.2.length)*1≤_;omega,?_⟩;conv=>whnf
   refine ⟨by decide,?_⟩;conv=>whnf
   refine Wr.i64 (y:=s.1.tdiv 10) rfl (by omega) (by omega) ?_;conv=>whnf
   refine ⟨(s.1.tdiv 10,UInt8.ofNat (48+s.1.natAbs % 10) :: s.2),hS,?_,rfl,⟨rfl,?_,rfl,trivial⟩,?_,trivial⟩
   ·show 2*(s.1.tdiv 10).natAbs+0 < _;rw [ed];rcases hc with hc | hc
    ·rw [if_pos hc];omega
    ·omega
   ·show AV.ls 900 0 (1+s.2.length) 1=AV.ls 900 0 (s.2.length+1) 1;rw [Nat.add_comm]
   ·rfl
end Go.V
namespace Go.V
open Go.Proofs
set_option maxRecDepth 10000
theorem vl_take_zero {B:Nat} {l:List Nat} {k:Nat} (h:k < l.length) (h0:l[k]=0):vl B (l.take (k+1))=vl B (l.take k):=by rw [vl_take_succ h,h0,Nat.mul_zero,Nat.add_zero]
def TrimI (B:Nat) (l:List Nat) (k:Nat):Prop:=k≤l.length∧vl B (l.take k)=vl B l
theorem TrimI.done {B:Nat} (hB:2≤B) {l:List Nat} (hl:∀x,x∈l→x < B) {k:Nat} (h:TrimI B l k) (h0:∀j (hj:j < l.length),k=j+1→l[j]≠0):dg B (vl B l)=l.take k:=by
 rw [←h.2];exact dg_vl hB (Cn.of_take hl h.1 h0)
theorem fn_trimO (l:List Nat) (hl:∀x,x∈l→x < B32) (hn:l.length≤1000000000000000) :
  Fn Tryz.prog 79 [.ls 1000000 0 l.length 1] [(1000000,.row true 1 (cW .u32 l))] (.ls 1000000 0 (dg B32 (vl B32 l)).length 1) [(1000000,.row true 1 (cW .u32 l))]:=by
 refine Fn.intro (ks:=[0,2,14]) hty rfl rfl rfl rfl rfl ?_;conv=>whnf
 refine VLoop.inv hty (S:=Nat) (fun k=>[(0,.ls 1000000 0 k 1)]) (fun _=>[(1000000,.row true 1 (cW .u32 l))]) (TrimI B32 l) (fun k=>k) l.length ⟨Nat.le_refl _,by rw [List.take_length]⟩ ⟨rfl,trivial⟩ ⟨rfl,trivial⟩ ?_;intro k hI;have hk:=hI.1;conv=>whnf
 refine Br.mk (fun h=>?_) (fun h=>?_)
 ·have hk0:0 < k:=by simpa using h
  conv=>whnf
  refine Wr.i64 (y:=((k - 1:Nat):Int)) (by omega) (by omega) (by omega) ?_;conv=>whnf
  refine ⟨by omega,?_⟩;conv=>whnf
  have hk1:k - 1 < l.length:=by omega
  refine ⟨_,cW_get hk1,?_⟩;conv=>whnf
  refine Br.mk (fun h2=>?_) (fun h2=>?_)
  ·have h2:l[k - 1]=0:=by simpa using h2
   conv=>whnf
   refine Wr.i64 (y:=((k - 1:Nat):Int)) (by omega) (by omega) (by omega) ?_;conv=>whnf
   refine ⟨by rw [cW_len];omega,?_⟩;conv=>whnf
   refine ⟨k - 1,⟨by omega,?_⟩,by omega,⟨?_,trivial⟩,⟨rfl,trivial⟩⟩
   ·rw [←vl_take_zero hk1 h2,show k - 1+1=k by omega];exact hI.2
   ·show AV.ls 1000000 0 _ 1=_;simp
  ·have h2:l[k - 1]≠0:=by simpa using h2
   have e:(dg B32 (vl B32 l)).length=k:=by
    rw [hI.done b32 hl fun j hj e=>by subst e;exact h2,List.length_take];omega
   conv=>whnf
   exact ⟨⟨rfl,rfl,e,rfl,rfl⟩,⟨rfl,trivial⟩,rfl⟩
 ·have hk0:k=0:=by simp at h;omega
  have e:(dg B32 (vl B32 l)).length=k:=by
   rw [hI.done b32 hl fun j hj e=>by omega,List.length_take];omega
  conv=>whnf
  exact ⟨⟨rfl,rfl,e,rfl,rfl⟩,⟨rfl,trivial⟩,rfl⟩
theorem dg_take (B:Nat) (hB:2≤B) (l:List Nat) (hl:∀x,x∈l→x < B):dg B (vl B l)=l.take (dg B (vl B l)).length:=by
 suffices h:∀k,k≤l.length→vl B (l.take k)=vl B l→∃m,m≤l.length∧dg B (vl B l)=l.take m by
  obtain ⟨m,h1,h2⟩:=h l.length (Nat.le_refl _) (by rw [List.take_length])
  conv=>lhs;rw [h2]
  rw [h2,List.length_take]
  congr 1;omega
 intro k;induction k with
 | zero=>intro h1 h2;exact ⟨0,Nat.zero_le _,TrimI.done hB hl ⟨h1,h2⟩ fun j hj e=>by omega⟩
 | succ k ih =>
  intro h1 h2;by_cases h0:l[k]=0
  ·exact ih (by omega) (by rw [←vl_take_zero (by omega) h0];exact h2)
  ·exact ⟨k+1,h1,TrimI.done hB hl ⟨h1,h2⟩ fun j hj e=>by
    have:j=k:=by omega
    subst this;exact h0⟩
theorem fn_trim (l:List Nat) (hl:∀x,x∈l→x < B32) (hn:l.length≤1000000000000000):Fn Tryz.prog 79 [.d (.sl (cW .u32 l))] [] (nI (vl B32 l)) []:=by
 refine Fn.intro (ks:=[0,2,14]) hty rfl rfl rfl rfl rfl ?_;conv=>whnf
 refine VLoop.inv hty (S:=Nat) (fun k=>[(0,.d (.sl (cW .u32 (l.take k))))]) (fun _=>[]) (TrimI B32 l) (fun k=>k) l.length ⟨Nat.le_refl _,by rw [List.take_length]⟩ ⟨by rw [List.take_length];rfl,trivial⟩ trivial ?_;intro k hI;have hk:=hI.1;have hlen:(l.take k).length=k:=by rw [List.length_take];omega
 have hL:((cW .u32 (l.take k)).length:Int)=k:=by rw [cW_len,hlen]
 conv=>whnf
 refine Br.mk (fun h=>?_) (fun h=>?_)
 ·have hk0:0 < k:=by simp only [decide_eq_true_eq] at h;omega
  conv=>whnf
  refine Wr.i64 (y:=((k - 1:Nat):Int)) (by omega) (by omega) (by omega) ?_;conv=>whnf
  refine ⟨⟨by rw [cW_len,hlen];omega,cW_sz _ _⟩,?_⟩;conv=>whnf
  have hk1:k - 1 < l.length:=by omega
  refine ⟨_,cW_get (by rw [hlen];show k - 1 < k;omega),?_⟩;have ge:(l.take k)[k - 1]'(by rw [hlen];omega)=l[k - 1]:=by simp
  conv=>whnf
  refine Br.mk (fun h2=>?_) (fun h2=>?_)
  ·have h2:l[k - 1]=0:=by rw [←ge];simpa using h2
   conv=>whnf
   refine Wr.i64 (y:=((k - 1:Nat):Int)) (by omega) (by omega) (by omega) ?_;conv=>whnf
   refine ⟨⟨by rw [cW_len];omega,cW_sz _ _⟩,?_⟩;conv=>whnf
   refine ⟨k - 1,⟨by omega,?_⟩,by omega,⟨?_,trivial⟩,trivial⟩
   ·rw [←vl_take_zero hk1 h2,show k - 1+1=k by omega];exact hI.2
   ·show AV.d (.sl (List.drop 0 (List.take (k - 1) (cW .u32 (l.take k)))))=_;rw [List.drop_zero,cW_take,List.take_take,show min (k - 1) k=k - 1 by omega]
  ·have h2:l[k - 1]≠0:=by rw [←ge];simpa using h2
   conv=>whnf
   refine ⟨?_,trivial,rfl⟩;rw [hI.done b32 hl fun j hj e=>by subst e;exact h2]
 ·have hk0:k=0:=by simp only [decide_eq_false_iff_not] at h;omega
  conv=>whnf
  refine ⟨?_,trivial,rfl⟩;rw [hI.done b32 hl fun j hj e=>by omega]
abbrev N64 (n:Nat):AV:=.d (.s (.int .u64 n))
theorem shr_nat (n k:Nat):(n:Int).fdiv (2 ^ k)=((n / 2 ^ k:Nat):Int):=by
 rw [Int.fdiv_eq_ediv_of_nonneg _ (by exact Int.le_of_lt (Int.pow_pos (by decide)))]
 simp
theorem fn_natOf (n:Nat) (hn:n < 18446744073709551616):Fn Tryz.prog 58 [N64 n] [] (nI n) []:=by
 refine Fn.intro (ks:=[0,2]) hty rfl rfl rfl rfl rfl ?_
 conv=>whnf
 refine Wr.w32 rfl ?_
 conv=>whnf
 refine ⟨by decide,?_⟩
 conv=>whnf
 refine Wr.n32 (n:=n / 4294967296) (shr_nat n 32) (by omega) ?_
 conv=>whnf
 have hv:vl B32 [n % B32,n / 4294967296]=n:=by
  show n % B32+B32*(n / 4294967296+B32*0)=n
  rw [Nat.mul_zero,Nat.add_zero];exact Nat.mod_add_div n B32
 have hc:=fn_trim [n % B32,n / 4294967296] (by
  intro x hx
  simp only [List.mem_cons,List.not_mem_nil,or_false] at hx
  rcases hx with rfl | rfl
  ·exact Nat.mod_lt _ (by decide)
  ·show n / 4294967296 < 4294967296;omega) (by simp)
 rw [hv] at hc
 refine VCall.frz 8 hc rfl ⟨⟨rfl,rfl,Nat.le_refl _,rfl⟩,trivial⟩ (nd _) ?_
 conv=>whnf
 exact ⟨rfl,trivial,rfl⟩
theorem vl_two {l:List Nat} (hl:∀x,x∈l→x < B32) (h:l.length≤2):vl B32 l < 18446744073709551616:=by
 have h1:=vl_lt hl;have h2:B32 ^ l.length≤B32 ^ 2:=Nat.pow_le_pow_right (by decide) h;have h3:B32 ^ 2=18446744073709551616:=by decide
 omega
theorem fn_smallL (l:List Nat) (hl:∀x,x∈l→x < B32) (hn:l.length≤1000000000000000) :
  Fn Tryz.prog 90 [.d (.sl (cW .u32 l))] [] (.tup [N64 (if l.length≤2 then vl B32 l else 0),B (decide (l.length≤2))]) []:=by
 have hL:((cW .u32 l).length:Int)=l.length:=by rw [cW_len]
 refine Fn.intro (ks:=[0,2,3,4,5,15]) hty rfl rfl rfl rfl rfl ?_;conv=>whnf
 refine Wr.i64 (y:=(l.length:Int) - 1) (by omega) (by omega) (by omega) ?_;conv=>whnf
 refine VLoop.inv hty (S:=Nat) (fun k=>[(5,I ((k:Int) - 1)),(4,N64 (vl B32 (l.drop k))),(0,.d (.sl (cW .u32 l)))]) (fun _=>[]) (fun k=>k≤l.length∧(k < l.length→l.length≤2)) (fun k=>k) l.length ⟨Nat.le_refl _,fun h=>absurd h (by omega)⟩
  ⟨rfl,by rw [List.drop_length];rfl,rfl,trivial⟩ trivial ?_
 intro k hI;obtain ⟨hk,hI⟩:=hI;conv=>whnf
 refine Br.mk (fun h=>?_) (fun h=>?_)
 ·have hk0:0 < k:=by simp only [decide_eq_true_eq] at h;omega
  conv=>whnf
  refine Br.mk (fun h2=>?_) (fun h2=>?_)
  ·have h2:l.length≤2:=by simp only [decide_eq_true_eq] at h2;omega
   have hk1:k - 1 < l.length:=by omega
   have hd:vl B32 (l.drop (k - 1))=l[k - 1]+B32*vl B32 (l.drop k):=by
    rw [vl_drop hk1,show k - 1+1=k by omega]
   have hb:=vl_two (l:=l.drop (k - 1)) (fun x hx=>hl x (List.mem_of_mem_drop hx)) (by rw [List.length_drop];omega);have hg:l[k - 1] < 4294967296:=hl _ (by simp);have hB:B32*vl B32 (l.drop k)=vl B32 (l.drop k)*4294967296:=Nat.mul_comm _ _;conv=>whnf
   refine ⟨by decide,?_⟩;conv=>whnf
   refine Wr.n64 (n:=vl B32 (l.drop k)*4294967296) (by rw [Int.natCast_mul];rfl) (by omega) ?_;conv=>whnf
   refine ⟨⟨⟨by omega,by omega⟩,cW_sz _ _⟩,?_⟩;conv=>whnf
   refine ⟨_,(by rw [show (((k:Int) - 1).toNat)=k - 1 by omega];exact cW_get hk1),?_⟩;conv=>whnf
   refine Wr.n64 (n:=l[k - 1]) rfl (by omega) ?_;conv=>whnf
   refine Wr.n64 (n:=vl B32 (l.drop (k - 1))) (by rw [hd,hB];omega) hb ?_;conv=>whnf
   refine Wr.i64 (y:=((k - 1:Nat):Int) - 1) (by omega) (by omega) (by omega) ?_;conv=>whnf
   exact ⟨k - 1,⟨by omega,fun _=>h2⟩,by omega,⟨rfl,rfl,rfl,trivial⟩,trivial⟩
  ·have h2:¬l.length≤2:=by simp only [decide_eq_false_iff_not] at h2;omega
   have hk2:k=l.length:=Classical.byContradiction fun hne=>h2 (hI (by omega));conv=>whnf
   refine ⟨?_,?_,trivial,rfl⟩
   ·rw [hk2,List.drop_length,if_neg h2];rfl
   ·rw [decide_eq_false h2,decide_eq_false (by omega)]
 ·have hk0:k=0:=by simp only [decide_eq_false_iff_not] at h;omega
  subst hk0;conv=>whnf
  have h2:l.length≤2:=by
   rcases Nat.eq_zero_or_pos l.length with h | h
   ·omega
   ·exact hI h
  refine ⟨?_,?_,trivial,rfl⟩
  ·rw [if_pos h2];rfl
  ·rw [decide_eq_true h2,decide_eq_true (by omega)]
theorem fn_small (n:Nat) (hs:bl n≤1000000000000000):Fn Tryz.prog 90 [nI n] [] (.tup [N64 (if (dg B32 n).length≤2 then n else 0),B (decide ((dg B32 n).length≤2))]) []:=by
 have:=fn_smallL (dg B32 n) (fun x h=>dg_lt b32 h) (Nat.le_trans (dg_len b32 n) hs)
 rwa [vl_dg b32] at this
end Go.V
namespace Go.V
open Go.Proofs
set_option maxRecDepth 10000
def cmpZ (a b:Nat):Int:=if a < b then -1 else if b < a then 1 else 0
theorem cmpZ_lt {a b:Nat} (h:a < b):cmpZ a b = -1:=if_pos h
theorem cmpZ_gt {a b:Nat} (h:b < a):cmpZ a b=1:=by rw [cmpZ,if_neg (by omega),if_pos h]
theorem cmpZ_eq (a:Nat):cmpZ a a=0:=by rw [cmpZ,if_neg (by omega),if_neg (by omega)]
theorem fn_cmpL (a b:List Nat) (ha:Cn B32 a) (hb:Cn B32 b) (hn:a.length≤1000000000000000) (hm:b.length≤1000000000000000) :
  Fn Tryz.prog 64 [.d (.sl (cW .u32 a)),.d (.sl (cW .u32 b))] [] (I (cmpZ (vl B32 a) (vl B32 b))) []:=by
 have hA:((cW .u32 a).length:Int)=a.length:=by rw [cW_len]
 have hB:((cW .u32 b).length:Int)=b.length:=by rw [cW_len]
 refine Fn.intro (ks:=[0,1,4,5,10,15,20,31,40]) hty rfl rfl rfl rfl rfl ?_;conv=>whnf
 refine Br.mk (fun h=>?_) (fun h=>?_)
 ·have h:a.length≠b.length:=by
   intro e;rw [hA,hB,e] at h;simp at h
  conv=>whnf
  refine Br.mk (fun h2=>?_) (fun h2=>?_)
  ·have h2:a.length < b.length:=by simp only [decide_eq_true_eq] at h2;omega
   conv=>whnf
   exact ⟨by rw [cmpZ_lt (vl_lt_len b32 ha hb h2)],trivial,rfl⟩
  ·have h2:b.length < a.length:=by simp only [decide_eq_false_iff_not] at h2;omega
   conv=>whnf
   exact ⟨by rw [cmpZ_gt (vl_lt_len b32 hb ha h2)],trivial,rfl⟩
 ·have h:a.length=b.length:=by simp at h;rw [cW_len,cW_len] at h;omega
  conv=>whnf
  refine Wr.i64 (y:=(a.length:Int) - 1) (by omega) (by omega) (by omega) ?_;conv=>whnf
  refine VLoop.inv hty (S:=Nat) (fun k=>[(5,I ((k:Int) - 1)),(1,.d (.sl (cW .u32 b))),(0,.d (.sl (cW .u32 a)))]) (fun _=>[]) (fun k=>k≤a.length∧a.drop k=b.drop k) (fun k=>k) a.length ⟨Nat.le_refl _,by rw [List.drop_length,h,List.drop_length]⟩
   ⟨rfl,rfl,rfl,trivial⟩ trivial ?_
  intro k hI;obtain ⟨hk,hI⟩:=hI;conv=>whnf
  refine Br.mk (fun h2=>?_) (fun h2=>?_)
  ·have hk0:0 < k:=by simp only [decide_eq_true_eq] at h2;omega
   have hk1:k - 1 < a.length:=by omega
   have hk2:k - 1 < b.length:=by omega
   have hd:a.drop (k - 1+1)=b.drop (k - 1+1):=by rw [show k - 1+1=k by omega];exact hI
   conv=>whnf
   refine VDraw.go hmo hty 9 [] rfl ?_;conv=>whnf
   refine ⟨⟨⟨by omega,by omega⟩,cW_sz _ _⟩,?_⟩;conv=>whnf
   refine ⟨_,(by rw [show (((k:Int) - 1).toNat)=k - 1 by omega];exact cW_get hk1),?_⟩;conv=>whnf
   refine ⟨⟨⟨by omega,by omega⟩,cW_sz _ _⟩,?_⟩;conv=>whnf
   refine ⟨_,(by rw [show (((k:Int) - 1).toNat)=k - 1 by omega];exact cW_get hk2),?_⟩;conv=>whnf
   refine Br.mk (fun h3=>?_) (fun h3=>?_)
   ·have h3:a[k - 1]≠b[k - 1]:=by simp at h3;omega
    conv=>whnf
    refine VDraw.go hmo hty 9 [] rfl ?_;conv=>whnf
    refine ⟨⟨⟨by omega,by omega⟩,cW_sz _ _⟩,?_⟩;conv=>whnf
    refine ⟨_,(by rw [show (((k:Int) - 1).toNat)=k - 1 by omega];exact cW_get hk1),?_⟩;conv=>whnf
    refine ⟨⟨⟨by omega,by omega⟩,cW_sz _ _⟩,?_⟩;conv=>whnf
    refine ⟨_,(by rw [show (((k:Int) - 1).toNat)=k - 1 by omega];exact cW_get hk2),?_⟩;conv=>whnf
    refine Br.mk (fun h4=>?_) (fun h4=>?_)
    ·have h4:a[k - 1] < b[k - 1]:=by simp at h4;omega
     conv=>whnf
     exact ⟨by rw [cmpZ_lt (vl_cmp ha.1 hk1 hk2 hd h4)],trivial,rfl⟩
    ·have h4:b[k - 1] < a[k - 1]:=by simp at h4;omega
     conv=>whnf
     exact ⟨by rw [cmpZ_gt (vl_cmp hb.1 hk2 hk1 hd.symm h4)],trivial,rfl⟩
   ·have h3:a[k - 1]=b[k - 1]:=by simp at h3;omega
    conv=>whnf
    refine Wr.i64 (y:=((k - 1:Nat):Int) - 1) (by omega) (by omega) (by omega) ?_;conv=>whnf
    refine ⟨k - 1,⟨by omega,?_⟩,by omega,⟨rfl,rfl,rfl,trivial⟩,trivial⟩;rw [List.drop_eq_getElem_cons hk1,List.drop_eq_getElem_cons hk2,hd,h3]
  ·have hk0:k=0:=by simp only [decide_eq_false_iff_not] at h2;omega
   subst hk0;have e:a=b:=by simpa using hI
   conv=>whnf
   exact ⟨by rw [e,cmpZ_eq],trivial,rfl⟩
theorem fn_cmp (a b:Nat) (ha:bl a≤1000000000000000) (hb:bl b≤1000000000000000):Fn Tryz.prog 64 [nI a,nI b] [] (I (cmpZ a b)) []:=by
 have:=fn_cmpL (dg B32 a) (dg B32 b) (cn_dg b32 a) (cn_dg b32 b) (Nat.le_trans (dg_len b32 a) ha) (Nat.le_trans (dg_len b32 b) hb)
 rwa [vl_dg b32,vl_dg b32] at this
def AddI (a b:List Nat) (s:List Nat×Nat):Prop:=s.1.length≤a.length∧(∀x,x∈s.1→x < B32)∧s.2≤1∧vl B32 s.1+B32 ^ s.1.length*s.2=vl B32 (a.take s.1.length)+vl B32 (b.take s.1.length)
theorem row_step {s:List Nat} {m d:Nat} (h:m≠0):(cW .u32 (s++List.replicate m 0)).set s.length [.s (.int .u32 d)]=cW .u32 (s++[d]++List.replicate (m - 1) 0):=by
 obtain ⟨n,rfl⟩:∃n,m=n+1:=⟨m - 1,by omega⟩
 rw [cW_set,put_digit,Nat.add_sub_cancel]
theorem cW_at {k:IntKind} {l:List Nat} {i:Nat} (h:i < l.length):(cW k l)[i]? = some [.s (.int k (l.getD i 0:Nat))]:=by
 rw [cW_get h,gD,List.getElem?_eq_getElem h];rfl
theorem fn_addL (a b:List Nat) (ha:∀x,x∈a→x < B32) (hb:∀x,x∈b→x < B32) (hn:a.length≤1000000000000) (hm:b.length≤1000000000000) :
  Fn Tryz.prog 70 [.d (.sl (cW .u32 a)),.d (.sl (cW .u32 b))] [] (nI (vl B32 a+vl B32 b)) []:=by
 have hA:((cW .u32 a).length:Int)=a.length:=by rw [cW_len]
 have hB:((cW .u32 b).length:Int)=b.length:=by rw [cW_len]
 refine Fn.intro (ks:=[0,1,4,5,6,7,12,20,21,22,34]) hty rfl rfl rfl rfl rfl ?_;conv=>whnf
 refine Br.mk (fun h=>?_) (fun h=>?_)
 ·have h:a.length < b.length:=by simp only [decide_eq_true_eq] at h;omega
  conv=>whnf
  refine Wr.i64 (y:=((b.length+1:Nat):Int)) (by rw [cW_len];omega) (by omega) (by omega) ?_;conv=>whnf
  refine ⟨⟨by omega,by omega,by show ((b.length+1:Nat):Int)*((4:Nat):Int)≤_;omega,by omega⟩,?_⟩;conv=>whnf
  refine VLoop.inv hty (S:=List Nat×Nat) (fun s=>[(21,I s.1.length),(20,I b.length),(6,N64 s.2),(5,.ls 18 0 (b.length+1) 1),(1,.d (.sl (cW .u32 a))),(0,.d (.sl (cW .u32 b)))])
   (fun s=>[(18,.row true 1 (cW .u32 (s.1++List.replicate (b.length+1 - s.1.length) 0)))]) (AddI b a) (fun s=>b.length - s.1.length) ([],0) ⟨Nat.zero_le _,by simp,Nat.zero_le _,by simp [vl]⟩
   ⟨rfl,by show AV.d (.s (.int .i64 ((cW .u32 b).length:Int)))=_;rw [cW_len],rfl,by show AV.ls 18 0 ((b.length+1:Nat):Int).toNat 1=_;rfl,rfl,rfl,trivial⟩ ⟨by show Ob.row true 1 (List.replicate ((b.length+1:Nat):Int).toNat [.s (.int .u32 0)])=_;rw [show ((b.length+1:Nat):Int).toNat=b.length+1 from rfl,cW_rep];rfl,trivial⟩ ?_
  intro s hI;obtain ⟨hk,hd,hc,hv⟩:=hI;conv=>whnf
  refine Br.mk (fun h2=>?_) (fun h2=>?_)
  ·have hk1:s.1.length < b.length:=by simp only [decide_eq_true_eq] at h2;omega
   have hstep:=add_step hv;have hx:=getD_lt (B:=B32) hb (by decide) s.1.length;have hy:=getD_lt (B:=B32) ha (by decide) s.1.length;have hx:b.getD s.1.length 0 < 4294967296:=hx;have hy:a.getD s.1.length 0 < 4294967296:=hy;conv=>whnf
   refine ⟨⟨⟨by omega,by omega⟩,cW_sz _ _⟩,?_⟩;conv=>whnf
   refine ⟨_,cW_at (i:=s.1.length) hk1,?_⟩;conv=>whnf
   refine Wr.n64 rfl (by omega) ?_;conv=>whnf
   refine Wr.n64 (n:=s.2+b.getD s.1.length 0) rfl (by omega) ?_;conv=>whnf
   have fin:∀c,c=s.2+b.getD s.1.length 0+a.getD s.1.length 0→(b.length - (s.1++[c % B32]).length < b.length - s.1.length)∧AddI b a (s.1++[c % B32],c / 4294967296):=by
    rintro c rfl;refine ⟨by simp;omega,by simp;omega,fun x hx=>?_,by show (s.2+b.getD s.1.length 0+a.getD s.1.length 0) / 4294967296≤1;omega,by simpa using hstep⟩;rcases List.mem_append.1 hx with hx | hx
    ·exact hd x hx
    ·simp only [List.mem_singleton] at hx;subst hx;exact Nat.mod_lt _ (by decide)
   refine Br.mk (fun h3=>?_) (fun h3=>?_)
   ·have hk2:s.1.length < a.length:=by simp only [decide_eq_true_eq] at h3;omega
    conv=>whnf
    refine ⟨⟨⟨by omega,by omega⟩,cW_sz _ _⟩,?_⟩;conv=>whnf
    refine ⟨_,cW_at (i:=s.1.length) hk2,?_⟩;conv=>whnf
    refine Wr.n64 rfl (by omega) ?_;conv=>whnf
    refine Wr.n64 (n:=s.2+b.getD s.1.length 0+a.getD s.1.length 0) rfl (by omega) ?_;conv=>whnf
    refine Wr.w32 rfl ?_;conv=>whnf
    refine ⟨by omega,?_⟩;conv=>whnf
    refine ⟨_,cW_at (i:=s.1.length) (by simp;omega),?_⟩;conv=>whnf
    refine ⟨by decide,?_⟩;conv=>whnf
    refine Wr.i64 (y:=((s.1.length+1:Nat):Int)) (by omega) (by omega) (by omega) ?_;conv=>whnf
    obtain ⟨f1,f2⟩:=fin (s.2+b.getD s.1.length 0+a.getD s.1.length 0) rfl;refine ⟨(s.1++[(s.2+b.getD s.1.length 0+a.getD s.1.length 0) % B32],(s.2+b.getD s.1.length 0+a.getD s.1.length 0) / 4294967296),f2,f1,⟨?_,rfl,?_,rfl,rfl,rfl,trivial⟩,?_,trivial⟩
    ·show AV.d (.s (.int .i64 ((s.1.length+1:Nat):Int)))=I ((s.1++[_]).length:Nat);rw [List.length_append];rfl
    ·show AV.d (.s (.int .u64 (((((s.2+b.getD s.1.length 0+a.getD s.1.length 0):Nat):Int)).fdiv (2 ^ 32))))=_;rw [shr_nat]
    ·show Ob.row true 1 ((cW .u32 _).set s.1.length [.s (.int .u32 (((s.2+b.getD s.1.length 0+a.getD s.1.length 0) % B32:Nat):Int))])=_;rw [row_step (by omega),List.length_append];rfl
   ·have hk2:¬s.1.length < a.length:=by simp only [decide_eq_false_iff_not] at h3;omega
    have hy0:a.getD s.1.length 0=0:=by rw [gD,List.getElem?_eq_none (by omega)];rfl
    conv=>whnf
    refine Wr.w32 rfl ?_;conv=>whnf
    refine ⟨by omega,?_⟩;conv=>whnf
    refine ⟨_,cW_at (i:=s.1.length) (by simp;omega),?_⟩;conv=>whnf
    refine ⟨by decide,?_⟩;conv=>whnf
    refine Wr.i64 (y:=((s.1.length+1:Nat):Int)) (by omega) (by omega) (by omega) ?_;conv=>whnf
    obtain ⟨f1,f2⟩:=fin (s.2+b.getD s.1.length 0) (by rw [hy0,Nat.add_zero]);refine ⟨(s.1++[(s.2+b.getD s.1.length 0) % B32],(s.2+b.getD s.1.length 0) / 4294967296),f2,f1,⟨?_,rfl,?_,rfl,rfl,rfl,trivial⟩,?_,trivial⟩
    ·show AV.d (.s (.int .i64 ((s.1.length+1:Nat):Int)))=I ((s.1++[_]).length:Nat);rw [List.length_append];rfl
    ·show AV.d (.s (.int .u64 (((((s.2+b.getD s.1.length 0):Nat):Int)).fdiv (2 ^ 32))))=_;rw [shr_nat]
    ·show Ob.row true 1 ((cW .u32 _).set s.1.length [.s (.int .u32 (((s.2+b.getD s.1.length 0) % B32:Nat):Int))])=_;rw [row_step (by omega),List.length_append];rfl
  ·have hk1:s.1.length=b.length:=by simp only [decide_eq_false_iff_not] at h2;omega
   have hL:∀x,x∈s.1++[s.2]→x < B32:=fun x hx=>by
    rcases List.mem_append.1 hx with hx | hx
    ·exact hd x hx
    ·simp only [List.mem_singleton] at hx;subst hx;exact Nat.lt_of_le_of_lt hc (by decide)
   have hvL:vl B32 (s.1++[s.2])=vl B32 a+vl B32 b:=by
    rw [vl_snoc,hv,hk1,List.take_of_length_le (by omega),List.take_of_length_le (by omega)];try omega
   have hcall:=fn_trim (s.1++[s.2]) hL (by rw [List.length_append,List.length_singleton];omega);rw [hvL] at hcall;conv=>whnf
   refine Wr.n32 rfl (by omega) ?_;conv=>whnf
   refine ⟨by rw [cW_len];omega,?_⟩;conv=>whnf
   refine ⟨_,cW_at (l:=s.1++List.replicate (b.length+1 - s.1.length) 0) (i:=(cW .u32 b).length) (by rw [List.length_append,List.length_replicate,cW_len];omega),?_⟩;conv=>whnf
   have er:(cW .u32 (s.1++List.replicate (b.length+1 - s.1.length) 0)).set (cW .u32 b).length [.s (.int .u32 (s.2:Nat))]=cW .u32 (s.1++[s.2]):=by
    rw [cW_len,←hk1,row_step (by omega),show s.1.length+1 - s.1.length - 1=0 by omega];simp
   refine VCall.frz 18 hcall rfl ⟨⟨rfl,rfl,?_,?_⟩,trivial⟩ (nd _) ?_
   ·show (b.length+1)+0≤((cW .u32 (s.1++List.replicate (b.length+1 - s.1.length) 0)).set (cW .u32 b).length [.s (.int .u32 (s.2:Nat))]).length;rw [er,cW_len,List.length_append,List.length_singleton];omega
   ·show List.take (b.length+1) (List.drop 0 ((cW .u32 (s.1++List.replicate (b.length+1 - s.1.length) 0)).set (cW .u32 b).length [.s (.int .u32 (s.2:Nat))]))=_;rw [er,List.drop_zero,List.take_of_length_le (by rw [cW_len,List.length_append,List.length_singleton];omega)]
   conv=>whnf
   exact ⟨rfl,trivial,rfl⟩
 ·have h:b.length≤a.length:=by simp only [decide_eq_false_iff_not] at h;omega
  conv=>whnf
  refine Wr.i64 (y:=((a.length+1:Nat):Int)) (by rw [cW_len];omega) (by omega) (by omega) ?_;conv=>whnf
  refine ⟨⟨by omega,by omega,by show ((a.length+1:Nat):Int)*((4:Nat):Int)≤_;omega,by omega⟩,?_⟩;conv=>whnf
  refine VLoop.inv hty (S:=List Nat×Nat) (fun s=>[(21,I s.1.length),(20,I a.length),(6,N64 s.2),(5,.ls 18 0 (a.length+1) 1),(1,.d (.sl (cW .u32 b))),(0,.d (.sl (cW .u32 a)))])
   (fun s=>[(18,.row true 1 (cW .u32 (s.1++List.replicate (a.length+1 - s.1.length) 0)))]) (AddI a b) (fun s=>a.length - s.1.length) ([],0) ⟨Nat.zero_le _,by simp,Nat.zero_le _,by simp [vl]⟩
   ⟨rfl,by show AV.d (.s (.int .i64 ((cW .u32 a).length:Int)))=_;rw [cW_len],rfl,by show AV.ls 18 0 ((a.length+1:Nat):Int).toNat 1=_;rfl,rfl,rfl,trivial⟩ ⟨by show Ob.row true 1 (List.replicate ((a.length+1:Nat):Int).toNat [.s (.int .u32 0)])=_;rw [show ((a.length+1:Nat):Int).toNat=a.length+1 from rfl,cW_rep];rfl,trivial⟩ ?_
  intro s hI;obtain ⟨hk,hd,hc,hv⟩:=hI;conv=>whnf
  refine Br.mk (fun h2=>?_) (fun h2=>?_)
  ·have hk1:s.1.length < a.length:=by simp only [decide_eq_true_eq] at h2;omega
   have hstep:=add_step hv;have hx:=getD_lt (B:=B32) ha (by decide) s.1.length;have hy:=getD_lt (B:=B32) hb (by decide) s.1.length;have hx:a.getD s.1.length 0 < 4294967296:=hx;have hy:b.getD s.1.length 0 < 4294967296:=hy;conv=>whnf
   refine ⟨⟨⟨by omega,by omega⟩,cW_sz _ _⟩,?_⟩;conv=>whnf
   refine ⟨_,cW_at (i:=s.1.length) hk1,?_⟩;conv=>whnf
   refine Wr.n64 rfl (by omega) ?_;conv=>whnf
   refine Wr.n64 (n:=s.2+a.getD s.1.length 0) rfl (by omega) ?_;conv=>whnf
   have fin:∀c,c=s.2+a.getD s.1.length 0+b.getD s.1.length 0→(a.length - (s.1++[c % B32]).length < a.length - s.1.length)∧AddI a b (s.1++[c % B32],c / 4294967296):=by
    rintro c rfl;refine ⟨by simp;omega,by simp;omega,fun x hx=>?_,by show (s.2+a.getD s.1.length 0+b.getD s.1.length 0) / 4294967296≤1;omega,by simpa using hstep⟩;rcases List.mem_append.1 hx with hx | hx
    ·exact hd x hx
    ·simp only [List.mem_singleton] at hx;subst hx;exact Nat.mod_lt _ (by decide)
   refine Br.mk (fun h3=>?_) (fun h3=>?_)
   ·have hk2:s.1.length < b.length:=by simp only [decide_eq_true_eq] at h3;omega
    conv=>whnf
    refine ⟨⟨⟨by omega,by omega⟩,cW_sz _ _⟩,?_⟩;conv=>whnf
    refine ⟨_,cW_at (i:=s.1.length) hk2,?_⟩;conv=>whnf
    refine Wr.n64 rfl (by omega) ?_;conv=>whnf
    refine Wr.n64 (n:=s.2+a.getD s.1.length 0+b.getD s.1.length 0) rfl (by omega) ?_;conv=>whnf
    refine Wr.w32 rfl ?_;conv=>whnf
    refine ⟨by omega,?_⟩;conv=>whnf
    refine ⟨_,cW_at (i:=s.1.length) (by simp;omega),?_⟩;conv=>whnf
    refine ⟨by decide,?_⟩;conv=>whnf
    refine Wr.i64 (y:=((s.1.length+1:Nat):Int)) (by omega) (by omega) (by omega) ?_;conv=>whnf
    obtain ⟨f1,f2⟩:=fin (s.2+a.getD s.1.length 0+b.getD s.1.length 0) rfl;refine ⟨(s.1++[(s.2+a.getD s.1.length 0+b.getD s.1.length 0) % B32],(s.2+a.getD s.1.length 0+b.getD s.1.length 0) / 4294967296),f2,f1,⟨?_,rfl,?_,rfl,rfl,rfl,trivial⟩,?_,trivial⟩
    ·show AV.d (.s (.int .i64 ((s.1.length+1:Nat):Int)))=I ((s.1++[_]).length:Nat);rw [List.length_append];rfl
    ·show AV.d (.s (.int .u64 (((((s.2+a.getD s.1.length 0+b.getD s.1.length 0):Nat):Int)).fdiv (2 ^ 32))))=_;rw [shr_nat]
    ·show Ob.row true 1 ((cW .u32 _).set s.1.length [.s (.int .u32 (((s.2+a.getD s.1.length 0+b.getD s.1.length 0) % B32:Nat):Int))])=_;rw [row_step (by omega),List.length_append];rfl
   ·have hk2:¬s.1.length < b.length:=by simp only [decide_eq_false_iff_not] at h3;omega
    have hy0:b.getD s.1.length 0=0:=by rw [gD,List.getElem?_eq_none (by omega)];rfl
    conv=>whnf
    refine Wr.w32 rfl ?_;conv=>whnf
    refine ⟨by omega,?_⟩;conv=>whnf
    refine ⟨_,cW_at (i:=s.1.length) (by simp;omega),?_⟩;conv=>whnf
    refine ⟨by decide,?_⟩;conv=>whnf
    refine Wr.i64 (y:=((s.1.length+1:Nat):Int)) (by omega) (by omega) (by omega) ?_;conv=>whnf
    obtain ⟨f1,f2⟩:=fin (s.2+a.getD s.1.length 0) (by rw [hy0,Nat.add_zero]);refine ⟨(s.1++[(s.2+a.getD s.1.length 0) % B32],(s.2+a.getD s.1.length 0) / 4294967296),f2,f1,⟨?_,rfl,?_,rfl,rfl,rfl,trivial⟩,?_,trivial⟩
    ·show AV.d (.s (.int .i64 ((s.1.length+1:Nat):Int)))=I ((s.1++[_]).length:Nat);rw [List.length_append];rfl
    ·show AV.d (.s (.int .u64 (((((s.2+a.getD s.1.length 0):Nat):Int)).fdiv (2 ^ 32))))=_;rw [shr_nat]
    ·show Ob.row true 1 ((cW .u32 _).set s.1.length [.s (.int .u32 (((s.2+a.getD s.1.length 0) % B32:Nat):Int))])=_;rw [row_step (by omega),List.length_append];rfl
  ·have hk1:s.1.length=a.length:=by simp only [decide_eq_false_iff_not] at h2;omega
   have hL:∀x,x∈s.1++[s.2]→x < B32:=fun x hx=>by
    rcases List.mem_append.1 hx with hx | hx
    ·exact hd x hx
    ·simp only [List.mem_singleton] at hx;subst hx;exact Nat.lt_of_le_of_lt hc (by decide)
   have hvL:vl B32 (s.1++[s.2])=vl B32 a+vl B32 b:=by
    rw [vl_snoc,hv,hk1,List.take_of_length_le (by omega),List.take_of_length_le (by omega)];try omega
   have hcall:=fn_trim (s.1++[s.2]) hL (by rw [List.length_append,List.length_singleton];omega);rw [hvL] at hcall;conv=>whnf
   refine Wr.n32 rfl (by omega) ?_;conv=>whnf
   refine ⟨by rw [cW_len];omega,?_⟩;conv=>whnf
   refine ⟨_,cW_at (l:=s.1++List.replicate (a.length+1 - s.1.length) 0) (i:=(cW .u32 a).length) (by rw [List.length_append,List.length_replicate,cW_len];omega),?_⟩;conv=>whnf
   have er:(cW .u32 (s.1++List.replicate (a.length+1 - s.1.length) 0)).set (cW .u32 a).length [.s (.int .u32 (s.2:Nat))]=cW .u32 (s.1++[s.2]):=by
    rw [cW_len,←hk1,row_step (by omega),show s.1.length+1 - s.1.length - 1=0 by omega];simp
   refine VCall.frz 18 hcall rfl ⟨⟨rfl,rfl,?_,?_⟩,trivial⟩ (nd _) ?_
   ·show (a.length+1)+0≤((cW .u32 (s.1++List.replicate (a.length+1 - s.1.length) 0)).set (cW .u32 a).length [.s (.int .u32 (s.2:Nat))]).length;rw [er,cW_len,List.length_append,List.length_singleton];omega
   ·show List.take (a.length+1) (List.drop 0 ((cW .u32 (s.1++List.replicate (a.length+1 - s.1.length) 0)).set (cW .u32 a).length [.s (.int .u32 (s.2:Nat))]))=_;rw [er,List.drop_zero,List.take_of_length_le (by rw [cW_len,List.length_append,List.length_singleton];omega)]
   conv=>whnf
   exact ⟨rfl,trivial,rfl⟩
theorem fn_add (a b:Nat) (ha:bl a≤1000000000000) (hb:bl b≤1000000000000):Fn Tryz.prog 70 [nI a,nI b] [] (nI (a+b)) []:=by
 have:=fn_addL (dg B32 a) (dg B32 b) (fun x h=>dg_lt b32 h) (fun x h=>dg_lt b32 h) (Nat.le_trans (dg_len b32 a) ha) (Nat.le_trans (dg_len b32 b) hb)
 rwa [vl_dg b32,vl_dg b32] at this
end Go.V
namespace Go.V
open Go.Proofs
set_option maxRecDepth 10000
def SubI (a b:List Nat) (s:List Nat×Nat):Prop:=s.1.length≤a.length∧(∀x,x∈s.1→x < B32)∧s.2≤1∧vl B32 s.1+vl B32 (b.take s.1.length)=vl B32 (a.take s.1.length)+B32 ^ s.1.length*s.2
theorem snoc_lt {B d:Nat} {r:List Nat} (h:∀x,x∈r→x < B) (hd:d < B):∀x,x∈r++[d]→x < B:=fun x hx=>by
 rcases List.mem_append.1 hx with hx | hx
 ·exact h x hx
 ·simp only [List.mem_singleton] at hx;subst hx;exact hd
theorem fn_subL (a b:List Nat) (ha:∀x,x∈a→x < B32) (hb:∀x,x∈b→x < B32) (hn:a.length≤1000000000000) (hm:b.length≤a.length) (hle:vl B32 b≤vl B32 a) :
  Fn Tryz.prog 71 [.d (.sl (cW .u32 a)),.d (.sl (cW .u32 b))] [] (nI (vl B32 a - vl B32 b)) []:=by
 have hA:((cW .u32 a).length:Int)=a.length:=by rw [cW_len]
 have hB:((cW .u32 b).length:Int)=b.length:=by rw [cW_len]
 refine Fn.intro (ks:=[0,1,4,5,6,7,8,13,14,15,27,36]) hty rfl rfl rfl rfl rfl ?_;conv=>whnf
 refine ⟨⟨by omega,by omega,by show ((cW .u32 a).length:Int)*((4:Nat):Int)≤_;omega,by omega⟩,?_⟩;conv=>whnf
 refine VLoop.inv hty (S:=List Nat×Nat) (fun s=>[(14,I s.1.length),(13,I a.length),(6,I s.2),(5,.ls 11 0 a.length 1),(1,.d (.sl (cW .u32 b))),(0,.d (.sl (cW .u32 a)))])
  (fun s=>[(11,.row true 1 (cW .u32 (s.1++List.replicate (a.length - s.1.length) 0)))]) (SubI a b) (fun s=>a.length - s.1.length) ([],0) ⟨Nat.zero_le _,by simp,Nat.zero_le _,by simp [vl]⟩
  ⟨rfl,by show AV.d (.s (.int .i64 ((cW .u32 a).length:Int)))=_;rw [cW_len],rfl,by show AV.ls 11 0 ((cW .u32 a).length:Int).toNat 1=_;rw [cW_len];rfl,rfl,rfl,trivial⟩
  ⟨by show Ob.row true 1 (List.replicate ((cW .u32 a).length:Int).toNat [.s (.int .u32 0)])=_;rw [cW_len,show ((a.length:Nat):Int).toNat=a.length from rfl,cW_rep];rfl,trivial⟩ ?_
 intro s hI;obtain ⟨hk,hd,hc,hv⟩:=hI;conv=>whnf
 refine Br.mk (fun h2=>?_) (fun h2=>?_)
 ·have hk1:s.1.length < a.length:=by simp only [decide_eq_true_eq] at h2;omega
  have hx:a.getD s.1.length 0 < 4294967296:=getD_lt (B:=B32) ha (by decide) s.1.length;have hy:b.getD s.1.length 0 < 4294967296:=getD_lt (B:=B32) hb (by decide) s.1.length;conv=>whnf
  refine ⟨⟨⟨by omega,by omega⟩,cW_sz _ _⟩,?_⟩;conv=>whnf
  refine ⟨_,cW_at (i:=s.1.length) hk1,?_⟩;conv=>whnf
  refine Wr.i64 rfl (by omega) (by omega) ?_;conv=>whnf
  refine Wr.i64 rfl (by omega) (by omega) ?_;conv=>whnf
  refine Br.mk (fun h3=>?_) (fun h3=>?_)
  ·have hk2:s.1.length < b.length:=by simp only [decide_eq_true_eq] at h3;omega
   conv=>whnf
   refine ⟨⟨⟨by omega,by omega⟩,cW_sz _ _⟩,?_⟩;conv=>whnf
   refine ⟨_,cW_at (i:=s.1.length) hk2,?_⟩;conv=>whnf
   refine Wr.i64 rfl (by omega) (by omega) ?_;conv=>whnf
   refine Wr.i64 (y:=(a.getD s.1.length 0:Int) - s.2 - b.getD s.1.length 0) rfl (by omega) (by omega) ?_;have hd2:∃d c,d < B32∧c≤1∧d+s.2+b.getD s.1.length 0=a.getD s.1.length 0+4294967296*c∧((c=1∧((a.getD s.1.length 0:Int) - s.2 - b.getD s.1.length 0) < 0)∨(c=0∧0≤((a.getD s.1.length 0:Int) - s.2 - b.getD s.1.length 0)))∧(((a.getD s.1.length 0:Int) - s.2 - b.getD s.1.length 0) % 4294967296=(d:Int)):=by
    rcases Int.lt_or_le ((a.getD s.1.length 0:Int) - s.2 - b.getD s.1.length 0) 0 with hz | hz
    ·exact ⟨(((a.getD s.1.length 0:Int) - s.2 - b.getD s.1.length 0)+4294967296).toNat,1,by show (((a.getD s.1.length 0:Int) - s.2 - b.getD s.1.length 0)+4294967296).toNat < 4294967296;omega,by omega,by omega,.inl ⟨rfl,hz⟩,by omega⟩
    ·exact ⟨(((a.getD s.1.length 0:Int) - s.2 - b.getD s.1.length 0)).toNat,0,by show (((a.getD s.1.length 0:Int) - s.2 - b.getD s.1.length 0)).toNat < 4294967296;omega,by omega,by omega,.inr ⟨rfl,hz⟩,by omega⟩
   obtain ⟨d,c,hdB,hc1,hdc,hsign,hdz⟩:=hd2;have hstep:=sub_step hv hdc;conv=>whnf
   refine Br.mk (fun h4=>?_) (fun h4=>?_)
   case' refine_1 =>
    have hc2:c=1:=by simp only [decide_eq_true_eq] at h4;omega
   case' refine_2 =>
    have hc2:c=0:=by simp only [decide_eq_false_iff_not] at h4;omega
   all_goals
    conv=>whnf
    refine Wr.is (y:=(d:Int)) (by rw [wrap_u32];exact hdz) ?_;conv=>whnf
    refine ⟨by omega,?_⟩;conv=>whnf
    refine ⟨_,cW_at (i:=s.1.length) (by rw [List.length_append,List.length_replicate];omega),?_⟩;conv=>whnf
    refine Wr.i64 (y:=((s.1.length+1:Nat):Int)) (by omega) (by omega) (by omega) ?_;conv=>whnf
    refine ⟨(s.1++[d],c),⟨by simp;omega,snoc_lt hd hdB,hc1,by rw [List.length_append];exact hstep⟩,by simp;omega,⟨?_,rfl,?_,rfl,rfl,rfl,trivial⟩,?_,trivial⟩
    ·show AV.d (.s (.int .i64 ((s.1.length+1:Nat):Int)))=I ((s.1++[_]).length:Nat);rw [List.length_append];rfl
    ·rw [hc2];rfl
    ·show Ob.row true 1 ((cW .u32 _).set s.1.length [.s (.int .u32 (d:Int))])=_;rw [row_step (by omega),List.length_append];rfl
  ·have hk2:¬s.1.length < b.length:=by simp only [decide_eq_false_iff_not] at h3;omega
   have hy0:b.getD s.1.length 0=0:=by rw [gD,List.getElem?_eq_none (by omega)];rfl
   have hd2:∃d c,d < B32∧c≤1∧d+s.2+b.getD s.1.length 0=a.getD s.1.length 0+4294967296*c∧((c=1∧((a.getD s.1.length 0:Int) - s.2) < 0)∨(c=0∧0≤((a.getD s.1.length 0:Int) - s.2)))∧(((a.getD s.1.length 0:Int) - s.2) % 4294967296=(d:Int)):=by
    rcases Int.lt_or_le ((a.getD s.1.length 0:Int) - s.2) 0 with hz | hz
    ·exact ⟨(((a.getD s.1.length 0:Int) - s.2)+4294967296).toNat,1,by show (((a.getD s.1.length 0:Int) - s.2)+4294967296).toNat < 4294967296;omega,by omega,by omega,.inl ⟨rfl,hz⟩,by omega⟩
    ·exact ⟨(((a.getD s.1.length 0:Int) - s.2)).toNat,0,by show (((a.getD s.1.length 0:Int) - s.2)).toNat < 4294967296;omega,by omega,by omega,.inr ⟨rfl,hz⟩,by omega⟩
   obtain ⟨d,c,hdB,hc1,hdc,hsign,hdz⟩:=hd2;have hstep:=sub_step hv hdc;conv=>whnf
   refine Br.mk (fun h4=>?_) (fun h4=>?_)
   case' refine_1 =>
    have hc2:c=1:=by simp only [decide_eq_true_eq] at h4;omega
   case' refine_2 =>
    have hc2:c=0:=by simp only [decide_eq_false_iff_not] at h4;omega
   all_goals
    conv=>whnf
    refine Wr.is (y:=(d:Int)) (by rw [wrap_u32];exact hdz) ?_;conv=>whnf
    refine ⟨by omega,?_⟩;conv=>whnf
    refine ⟨_,cW_at (i:=s.1.length) (by rw [List.length_append,List.length_replicate];omega),?_⟩;conv=>whnf
    refine Wr.i64 (y:=((s.1.length+1:Nat):Int)) (by omega) (by omega) (by omega) ?_;conv=>whnf
    refine ⟨(s.1++[d],c),⟨by simp;omega,snoc_lt hd hdB,hc1,by rw [List.length_append];exact hstep⟩,by simp;omega,⟨?_,rfl,?_,rfl,rfl,rfl,trivial⟩,?_,trivial⟩
    ·show AV.d (.s (.int .i64 ((s.1.length+1:Nat):Int)))=I ((s.1++[_]).length:Nat);rw [List.length_append];rfl
    ·rw [hc2];rfl
    ·show Ob.row true 1 ((cW .u32 _).set s.1.length [.s (.int .u32 (d:Int))])=_;rw [row_step (by omega),List.length_append];rfl
 ·have hk1:s.1.length=a.length:=by simp only [decide_eq_false_iff_not] at h2;omega
  rw [hk1,List.take_of_length_le (by omega),List.take_of_length_le (by omega)] at hv;have hlt:=vl_lt hd;rw [hk1] at hlt;have h0:s.2=0:=by
   rcases Nat.eq_zero_or_pos s.2 with h | h
   ·exact h
   ·have:s.2=1:=by omega
    rw [this] at hv;omega
  have hvL:vl B32 s.1=vl B32 a - vl B32 b:=by rw [h0] at hv;omega
  have hcall:=fn_trim s.1 hd (by omega);rw [hvL] at hcall;have er:cW .u32 (s.1++List.replicate (a.length - s.1.length) 0)=cW .u32 s.1:=by rw [show a.length - s.1.length=0 by omega];simp
  conv=>whnf
  refine VCall.frz 11 hcall rfl ⟨⟨rfl,rfl,?_,?_⟩,trivial⟩ (nd _) ?_
  ·rw [er,cW_len];omega
  ·rw [er,List.drop_zero,List.take_of_length_le (by rw [cW_len];omega)]
  conv=>whnf
  exact ⟨rfl,trivial,rfl⟩
theorem fn_sub (a b:Nat) (ha:bl a≤1000000000000) (hle:b≤a):Fn Tryz.prog 71 [nI a,nI b] [] (nI (a - b)) []:=by
 have:=fn_subL (dg B32 a) (dg B32 b) (fun x h=>dg_lt b32 h) (fun x h=>dg_lt b32 h) (Nat.le_trans (dg_len b32 a) ha)
  (dg_len_le b32 (Nat.lt_of_le_of_lt hle (lt_of_len b32 a))) (by rw [vl_dg b32,vl_dg b32];exact hle)
 rwa [vl_dg b32,vl_dg b32] at this
theorem getD_set_ne {l:List Nat} {i j d:Nat} (h:i≠j):(l.set i d).getD j 0=l.getD j 0:=by
 simp only [gD,List.getElem?_set_ne h]
theorem set_lt {l:List Nat} {i d B:Nat} (h:∀x,x∈l→x < B) (hd:d < B):∀x,x∈l.set i d→x < B:=fun x hx=>by
 rcases List.mem_or_eq_of_mem_set hx with hx | hx
 ·exact h x hx
 ·subst hx;exact hd
theorem getD_get {l:List Nat} {i:Nat} (h:i < l.length):l.getD i 0=l[i]:=by rw [gD,List.getElem?_eq_getElem h];rfl
def MulI (a b:List Nat) (s:List Nat×Nat):Prop:=s.1.length=a.length+b.length∧(∀x,x∈s.1→x < B32)∧s.2≤a.length∧vl B32 s.1=vl B32 (a.take s.2)*vl B32 b∧∀j,s.2+b.length≤j→s.1.getD j 0=0
def MulJ (a b:List Nat) (i:Nat) (s:List Nat×Nat×Nat):Prop:=s.1.length=a.length+b.length∧(∀x,x∈s.1→x < B32)∧s.2.1≤b.length∧s.2.2 < B32 ∧
 vl B32 s.1+B32 ^ (i+s.2.1)*s.2.2=vl B32 (a.take i)*vl B32 b+B32 ^ i*(a.getD i 0*vl B32 (b.take s.2.1))∧∀j,i+b.length≤j→s.1.getD j 0=0
theorem MulJ.step {a b:List Nat} {i:Nat} {s:List Nat×Nat×Nat} (h:MulJ a b i s) (ha:∀x,x∈a→x < B32) (hb:∀x,x∈b→x < B32) (hi:i < a.length) (hk:s.2.1 < b.length) :
  let t:=s.2.2+(a.getD i 0*b.getD s.2.1 0+s.1.getD (i+s.2.1) 0)
  t < B32*B32∧MulJ a b i (s.1.set (i+s.2.1) (t % B32),s.2.1+1,t / B32):=by
 obtain ⟨h1,h2,h3,h4,h5,h6⟩:=h;have hlt:i+s.2.1 < s.1.length:=by omega
 have hbd:=mul_bound (getD_lt ha (by decide) i) (getD_lt hb (by decide) s.2.1) (getD_lt h2 (by decide) (i+s.2.1)) h4;refine ⟨hbd.1,by rw [List.length_set];exact h1,set_lt h2 (Nat.mod_lt _ (by decide)),hk,hbd.2,?_,fun j hj=>?_⟩
 ·have:=mul_step hlt h5;rw [←getD_get hlt] at this;exact this
 ·show (s.1.set _ _).getD j 0=0;rw [getD_set_ne (by omega)];exact h6 j hj
theorem MulJ.last {a b:List Nat} {i c:Nat} {O:List Nat} (h:MulJ a b i (O,b.length,c)) (hi:i < a.length):MulI a b (O.set (i+b.length) c,i+1):=by
 obtain ⟨h1,h2,h3,h4,h5,h6⟩:=h;simp only at h1 h2 h4 h5 h6;have hlt:i+b.length < O.length:=by omega
 refine ⟨by rw [List.length_set];exact h1,set_lt h2 h4,hi,?_,fun j hj=>?_⟩
 ·show vl B32 (O.set _ _)=_;rw [mul_last hlt (by rw [←getD_get hlt];exact h6 _ (Nat.le_refl _)) h5,vl_take_getD,List.take_length,Nat.add_mul,Nat.mul_assoc]
 ·show (O.set _ _).getD j 0=0;rw [getD_set_ne (by simp only at hj;omega)];exact h6 j (by simp only at hj;omega)
abbrev N4 (n:Nat):AV:=.d (.s (.int .u32 n))
theorem fn_mulL (a b:List Nat) (ha:∀x,x∈a→x < B32) (hb:∀x,x∈b→x < B32) (hn:a.length≤1000000000000) (hm:b.length≤1000000000000) :
  Fn Tryz.prog 63 [.d (.sl (cW .u32 a)),.d (.sl (cW .u32 b))] [] (nI (vl B32 a*vl B32 b)) []:=by
 have hA:((cW .u32 a).length:Int)=a.length:=by rw [cW_len]
 have hB:((cW .u32 b).length:Int)=b.length:=by rw [cW_len]
 refine Fn.intro (ks:=[0,1,4,5,6,7,8,9,10,17,18,19,20,24,25,26,27]) hty rfl rfl rfl rfl rfl ?_;conv=>whnf
 refine Wr.i64 (y:=((a.length+b.length:Nat):Int)) (by omega) (by omega) (by omega) ?_;conv=>whnf
 refine ⟨⟨by omega,by omega,by show ((a.length+b.length:Nat):Int)*((4:Nat):Int)≤_;omega,by omega⟩,?_⟩;conv=>whnf
 refine VLoop.inv hty (S:=List Nat×Nat) (fun s=>[(19,I s.2),(18,I a.length),(17,.d (.sl (cW .u32 a))),(5,.ls 16 0 (a.length+b.length) 1),(1,.d (.sl (cW .u32 b))),(0,.d (.sl (cW .u32 a)))])
  (fun s=>[(16,.row true 1 (cW .u32 s.1))]) (MulI a b) (fun s=>a.length - s.2) (List.replicate (a.length+b.length) 0,0)
  ⟨by simp,fun x hx=>by rw [(List.mem_replicate.1 hx).2];decide,Nat.zero_le _,by simp [vl_zeros,vl],fun j _=>by simp [gD,List.getElem?_replicate];split <;> rfl⟩
  ⟨rfl,by show AV.d (.s (.int .i64 ((cW .u32 a).length:Int)))=_;rw [cW_len],rfl,rfl,rfl,rfl,trivial⟩
  ⟨by show Ob.row true 1 (List.replicate ((a.length+b.length:Nat):Int).toNat [.s (.int .u32 0)])=_;rw [show ((a.length+b.length:Nat):Int).toNat=a.length+b.length from rfl,cW_rep],trivial⟩ ?_
 intro s hI;conv=>whnf
 refine Br.mk (fun h2=>?_) (fun h2=>?_)
 ·have hk1:s.2 < a.length:=by simp only [decide_eq_true_eq] at h2;omega
  obtain ⟨g1,g2,g3,g4,g5⟩:=hI;conv=>whnf
  refine ⟨⟨⟨by omega,by omega⟩,cW_sz _ _⟩,?_⟩;conv=>whnf
  refine ⟨_,cW_at (i:=s.2) hk1,?_⟩;conv=>whnf
  refine VLoop.inv hty (S:=List Nat×Nat×Nat) (fun q=>[(26,I q.2.1),(25,I b.length),(24,.d (.sl (cW .u32 b))),(8,N64 q.2.2),(7,N4 (a.getD s.2 0)),(6,I s.2),(19,I s.2),(18,I a.length),(17,.d (.sl (cW .u32 a))),(5,.ls 16 0 (a.length+b.length) 1),(1,.d (.sl (cW .u32 b))),(0,.d (.sl (cW .u32 a)))])
   (fun q=>[(16,.row true 1 (cW .u32 q.1))]) (MulJ a b s.2) (fun q=>b.length - q.2.1) (s.1,0,0)
   ⟨g1,g2,Nat.zero_le _,(by show 0 < B32;decide),by simp [g4,vl],g5⟩
   ⟨rfl,by show AV.d (.s (.int .i64 ((cW .u32 b).length:Int)))=_;rw [cW_len],rfl,rfl,rfl,rfl,rfl,rfl,rfl,rfl,rfl,rfl,trivial⟩ ⟨rfl,trivial⟩ ?_
  intro q hJ;have hq:=hJ.1;have hqc:=hJ.2.2.2.1;have hqc:q.2.2 < 4294967296:=hqc;conv=>whnf
  refine Br.mk (fun h3=>?_) (fun h3=>?_)
  ·have hk2:q.2.1 < b.length:=by simp only [decide_eq_true_eq] at h3;omega
   have hx:a.getD s.2 0 < 4294967296:=getD_lt (B:=B32) ha (by decide) s.2;have hy:b.getD q.2.1 0 < 4294967296:=getD_lt (B:=B32) hb (by decide) q.2.1;have ho:q.1.getD (s.2+q.2.1) 0 < 4294967296:=getD_lt (B:=B32) hJ.2.1 (by decide) _;obtain ⟨hbig,hS⟩:=hJ.step ha hb hk1 hk2;have hbig:q.2.2+(a.getD s.2 0*b.getD q.2.1 0+q.1.getD (s.2+q.2.1) 0) < 18446744073709551616:=hbig;conv=>whnf
   refine ⟨⟨⟨by omega,by omega⟩,cW_sz _ _⟩,?_⟩;conv=>whnf
   refine ⟨_,cW_at (i:=q.2.1) hk2,?_⟩;conv=>whnf
   refine Wr.n64 rfl (by omega) ?_;conv=>whnf
   refine Wr.n64 rfl (by omega) ?_;conv=>whnf
   refine Wr.n64 (n:=a.getD s.2 0*b.getD q.2.1 0) (by rw [Int.natCast_mul]) (by omega) ?_;conv=>whnf
   refine Wr.i64 (y:=((s.2+q.2.1:Nat):Int)) (by omega) (by omega) (by omega) ?_;conv=>whnf
   refine ⟨by omega,?_⟩;conv=>whnf
   refine ⟨_,cW_at (i:=s.2+q.2.1) (by omega),?_⟩;conv=>whnf
   refine Wr.n64 rfl (by omega) ?_;conv=>whnf
   refine Wr.n64 (n:=a.getD s.2 0*b.getD q.2.1 0+q.1.getD (s.2+q.2.1) 0) rfl (by omega) ?_;conv=>whnf
   refine Wr.n64 (n:=q.2.2+(a.getD s.2 0*b.getD q.2.1 0+q.1.getD (s.2+q.2.1) 0)) rfl (by omega) ?_;conv=>whnf
   refine Wr.i64 (y:=((s.2+q.2.1:Nat):Int)) (by omega) (by omega) (by omega) ?_;conv=>whnf
   refine Wr.w32 rfl ?_;conv=>whnf
   refine ⟨by omega,?_⟩;conv=>whnf
   refine ⟨_,cW_at (i:=s.2+q.2.1) (by omega),?_⟩;conv=>whnf
   refine ⟨by decide,?_⟩;conv=>whnf
   refine Wr.i64 (y:=((q.2.1+1:Nat):Int)) (by omega) (by omega) (by omega) ?_;conv=>whnf
   refine ⟨_,hS,by show b.length - (q.2.1+1) < b.length - q.2.1;omega,⟨rfl,rfl,rfl,?_,rfl,rfl,rfl,rfl,rfl,rfl,rfl,rfl,trivial⟩,?_,trivial⟩
   ·show AV.d (.s (.int .u64 (((_:Nat):Int).fdiv (2 ^ 32))))=_;rw [shr_nat]
   ·show Ob.row true 1 ((cW .u32 q.1).set (s.2+q.2.1) [.s (.int .u32 ((_:Nat):Int))])=_;rw [cW_set]
  ·have hk2:q.2.1=b.length:=by
    have:=hJ.2.2.1;simp only [decide_eq_false_iff_not] at h3;omega
   have hM:MulI a b (q.1.set (s.2+b.length) q.2.2,s.2+1):=MulJ.last (by rw [←hk2];exact hJ) hk1;conv=>whnf
   refine Wr.i64 (y:=((s.2+b.length:Nat):Int)) (by omega) (by omega) (by omega) ?_;conv=>whnf
   refine Wr.n32 rfl hqc ?_;conv=>whnf
   refine ⟨by omega,?_⟩;conv=>whnf
   refine ⟨_,cW_at (i:=s.2+b.length) (by omega),?_⟩;conv=>whnf
   refine Wr.i64 (y:=((s.2+1:Nat):Int)) (by omega) (by omega) (by omega) ?_;conv=>whnf
   refine ⟨_,hM,by show a.length - (s.2+1) < a.length - s.2;omega,⟨rfl,rfl,rfl,rfl,rfl,rfl,trivial⟩,?_,trivial⟩;show Ob.row true 1 ((cW .u32 q.1).set (s.2+b.length) [.s (.int .u32 ((q.2.2:Nat):Int))])=_;rw [cW_set]
 ·obtain ⟨g1,g2,g3,g4,g5⟩:=hI;have hk1:s.2=a.length:=by simp only [decide_eq_false_iff_not] at h2;omega
  have hcall:=fn_trim s.1 g2 (by omega);rw [g4,hk1,List.take_length] at hcall;conv=>whnf
  refine VCall.frz 16 hcall rfl ⟨⟨rfl,rfl,?_,?_⟩,trivial⟩ (nd _) ?_
  ·rw [cW_len];omega
  ·rw [List.drop_zero,List.take_of_length_le (by rw [cW_len];omega)]
  conv=>whnf
  exact ⟨rfl,trivial,rfl⟩
theorem fn_mul (a b:Nat) (ha:bl a≤1000000000000) (hb:bl b≤1000000000000):Fn Tryz.prog 63 [nI a,nI b] [] (nI (a*b)) []:=by
 have:=fn_mulL (dg B32 a) (dg B32 b) (fun x h=>dg_lt b32 h) (fun x h=>dg_lt b32 h) (Nat.le_trans (dg_len b32 a) ha) (Nat.le_trans (dg_len b32 b) hb)
 rwa [vl_dg b32,vl_dg b32] at this
end Go.V
namespace Go.V
open Go.Proofs
set_option maxRecDepth 10000
theorem shl32 (n:Nat):(n:Int)*2 ^ (min (Int.toNat 32) IntKind.u64.bits)=((n*4294967296:Nat):Int):=by
 simp [IntKind.bits]
def ShortI (a:List Nat) (b:Nat) (s:Nat×List Nat×Nat):Prop:=s.1+s.2.1.length=a.length∧(∀x,x∈s.2.1→x < B32)∧s.2.2 < b∧vl B32 (a.drop s.1)=b*vl B32 s.2.1+s.2.2
theorem row_down {i d:Nat} {q:List Nat} (h:i≠0):(cW .u32 (List.replicate i 0++q)).set (i - 1) [.s (.int .u32 d)]=cW .u32 (List.replicate (i - 1) 0++(d :: q)):=by
 obtain ⟨n,rfl⟩:∃n,i=n+1:=⟨i - 1,by omega⟩
 rw [cW_set,Nat.add_sub_cancel,List.replicate_succ',List.append_assoc,List.set_append_right _ _ (by simp)]
 simp
theorem fn_divSmallL (a:List Nat) (b:Nat) (ha:∀x,x∈a→x < B32) (hn:a.length≤1000000000000) (hb0:0 < b) (hb:b < 4294967296) :
  Fn Tryz.prog 80 [.d (.sl (cW .u32 a)),N4 b] [] (.tup [nI (vl B32 a / b),N4 (vl B32 a % b)]) []:=by
 have hA:((cW .u32 a).length:Int)=a.length:=by rw [cW_len]
 refine Fn.intro (ks:=[0,1,4,5,6,7,8,16]) hty rfl rfl rfl rfl rfl ?_;conv=>whnf
 refine ⟨⟨by omega,by omega,by show ((cW .u32 a).length:Int)*((4:Nat):Int)≤_;omega,by omega⟩,?_⟩;conv=>whnf
 refine Wr.i64 (y:=(a.length:Int) - 1) (by omega) (by omega) (by omega) ?_;conv=>whnf
 refine VLoop.inv hty (S:=Nat×List Nat×Nat) (fun s=>[(8,I ((s.1:Int) - 1)),(7,N64 s.2.2),(6,.ls 11 0 a.length 1),(1,N4 b),(0,.d (.sl (cW .u32 a)))])
  (fun s=>[(11,.row true 1 (cW .u32 (List.replicate s.1 0++s.2.1)))]) (ShortI a b) (fun s=>s.1) (a.length,[],0) ⟨by simp,by simp,hb0,by simp [vl]⟩
  ⟨rfl,rfl,by show AV.ls 11 0 ((cW .u32 a).length:Int).toNat 1=_;rw [cW_len];rfl,rfl,rfl,trivial⟩
  ⟨by show Ob.row true 1 (List.replicate ((cW .u32 a).length:Int).toNat [.s (.int .u32 0)])=_;rw [cW_len,show ((a.length:Nat):Int).toNat=a.length from rfl,cW_rep,List.append_nil],trivial⟩ ?_
 intro s hI;obtain ⟨hk,hd,hr,hv⟩:=hI;conv=>whnf
 refine Br.mk (fun h2=>?_) (fun h2=>?_)
 ·have hk0:0 < s.1:=by simp only [decide_eq_true_eq] at h2;omega
  have hk1:s.1 - 1 < a.length:=by omega
  have hx:a[s.1 - 1] < 4294967296:=ha _ (by simp);obtain ⟨g1,g2,g3⟩:=short_step (B:=B32) (i:=s.1 - 1) (q:=vl B32 s.2.1) hk1 hb0 hr (by rw [show s.1 - 1+1=s.1 by omega];exact hv) hx;have ei:(((s.1:Int) - 1).toNat)=s.1 - 1:=by omega
  have hbig:s.2.2*4294967296+a[s.1 - 1] < 18446744073709551616:=by
   have:=Nat.mul_le_mul_right 4294967296 (by omega:s.2.2≤4294967294);omega
  conv=>whnf
  refine ⟨by decide,?_⟩;conv=>whnf
  refine Wr.n64 (n:=s.2.2*4294967296) (shl32 _) (Nat.lt_of_le_of_lt (Nat.le_add_right _ _) hbig) ?_;conv=>whnf
  refine ⟨⟨⟨by omega,by omega⟩,cW_sz _ _⟩,?_⟩;conv=>whnf
  refine ⟨_,(by rw [ei];exact cW_get hk1),?_⟩;conv=>whnf
  refine Wr.n64 rfl (by omega) ?_;conv=>whnf
  refine Wr.n64 (n:=s.2.2*4294967296+a[s.1 - 1]) (by rw [Int.natCast_add]) hbig ?_;conv=>whnf
  refine Wr.n64 (n:=b) rfl (by omega) ?_;conv=>whnf
  refine ⟨by omega,?_⟩;conv=>whnf
  refine Wr.n64 (n:=(s.2.2*4294967296+a[s.1 - 1]) / b) (Int.ofNat_tdiv _ _).symm (Nat.lt_of_le_of_lt (Nat.div_le_self _ _) hbig) ?_;conv=>whnf
  refine Wr.n32 (n:=(s.2.2*4294967296+a[s.1 - 1]) / b) rfl g2 ?_;conv=>whnf
  refine ⟨by omega,?_⟩;conv=>whnf
  refine ⟨_,(by rw [show (((s.1:Int) - 1).toNat+0)=s.1 - 1 by omega];exact cW_at (by rw [List.length_append,List.length_replicate];omega)),?_⟩;conv=>whnf
  refine Wr.n64 (n:=b) rfl (by omega) ?_;conv=>whnf
  refine ⟨by omega,?_⟩;conv=>whnf
  refine Wr.i64 (y:=((s.1 - 1:Nat):Int) - 1) (by omega) (by omega) (by omega) ?_;conv=>whnf
  refine ⟨(s.1 - 1,(s.2.2*B32+a[s.1 - 1]) / b :: s.2.1,(s.2.2*B32+a[s.1 - 1]) % b),⟨by simp only [List.length_cons];omega,fun x hx=>?_,g3,g1⟩,by show s.1 - 1 < s.1;omega,⟨rfl,rfl,rfl,rfl,rfl,trivial⟩,?_,trivial⟩
  ·rcases List.mem_cons.1 hx with rfl | hx
   ·exact g2
   ·exact hd x hx
  ·show Ob.row true 1 ((cW .u32 _).set (((s.1:Int) - 1).toNat+0) [.s (.int .u32 (((s.2.2*4294967296+a[s.1 - 1]) / b:Nat):Int))])=_;rw [show (((s.1:Int) - 1).toNat+0)=s.1 - 1 by omega,row_down (by omega)]
 ·have hk0:s.1=0:=by simp only [decide_eq_false_iff_not] at h2;omega
  rw [hk0,List.drop_zero] at hv;obtain ⟨e1,e2⟩:=div_unique (a:=vl B32 a) (b:=b) (q:=vl B32 s.2.1) (r:=s.2.2) (by omega) hr;have hcall:=fn_trim s.2.1 hd (by omega);rw [←e1] at hcall;have er:cW .u32 (List.replicate s.1 0++s.2.1)=cW .u32 s.2.1:=by rw [hk0];simp
  conv=>whnf
  refine VCall.frz 11 hcall rfl ⟨⟨rfl,rfl,?_,?_⟩,trivial⟩ (nd _) ?_
  ·rw [er,cW_len];omega
  ·rw [er,List.drop_zero,List.take_of_length_le (by rw [cW_len];omega)]
  conv=>whnf
  refine Wr.n32 (n:=s.2.2) rfl (by omega) ?_;conv=>whnf
  refine ⟨rfl,?_,trivial,rfl⟩;rw [e2]
theorem fn_divSmall (a b:Nat) (ha:bl a≤1000000000000) (hb0:0 < b) (hb:b < 4294967296):Fn Tryz.prog 80 [nI a,N4 b] [] (.tup [nI (a / b),N4 (a % b)]) []:=by
 have:=fn_divSmallL (dg B32 a) b (fun x h=>dg_lt b32 h) (Nat.le_trans (dg_len b32 a) ha) hb0 hb
 rwa [vl_dg b32] at this
end Go.V
namespace Go.V
open Go.Proofs
set_option maxRecDepth 10000
theorem bl_double (n k:Nat) (h:2 ^ k≤n):bl n=bl (n / 2 ^ k)+k:=by
 have hp:0 < 2 ^ k:=Nat.pow_pos (by decide)
 have h1:bl n≤bl (n / 2 ^ k)+k:=bl_le (by
  rw [Nat.pow_add]
  exact Nat.lt_of_not_le fun h=>by
   have:=(Nat.le_div_iff_mul_le hp).2 h
   have:=lt_bl (n / 2 ^ k)
   omega)
 apply Nat.le_antisymm h1
 have h0:n / 2 ^ k≠0:=by
  have:=Nat.div_pos h hp;omega
 have h2:bl (n / 2 ^ k)≤bl n - k:=bl_le (by
  have:=lt_bl n
  have hk:k≤bl n:=by
   apply Nat.le_of_not_lt;intro hlt
   have:=Nat.pow_le_pow_right (by decide:0 < 2) (Nat.le_of_lt hlt)
   omega
  apply Nat.div_lt_of_lt_mul
  rw [←Nat.pow_add,show k+(bl n - k)=bl n by omega];exact this)
 have hk:k≤bl n:=by
  apply Nat.le_of_not_lt;intro hlt
  have:=Nat.pow_le_pow_right (by decide:0 < 2) (Nat.le_of_lt hlt)
  have:=lt_bl n
  omega
 omega
theorem fn_Len32 (n:Nat) (hn:n < 4294967296):Fn Tryz.prog 122 [N4 n] [] (I (bl n)) []:=by
 refine Fn.intro (ks:=[0,2,4,8]) hty rfl rfl rfl rfl rfl ?_;conv=>whnf
 refine Br.mk (fun h=>?_) (fun h=>?_)
 ·have h2:65536≤n:=by simp only [decide_eq_true_eq] at h;omega
  have e1:bl n=16+bl (n / 65536):=by rw [bl_double n 16 h2];show bl (n / 65536)+16=_;omega
  conv=>whnf
  refine ⟨by decide,?_⟩;rw [show ((n:Int).fdiv (2 ^ min (Int.toNat 16) IntKind.u32.bits))=((n / 65536:Nat):Int) from shr_nat n 16];conv=>whnf
  refine Br.mk (fun h=>?_) (fun h=>?_)
  ·have h3:256≤n / 65536:=by simp only [decide_eq_true_eq] at h;omega
   conv=>whnf
   refine ⟨by decide,?_⟩;rw [show (((n / 65536:Nat):Int).fdiv (2 ^ min (Int.toNat 8) IntKind.u32.bits))=((n / 65536 / 256:Nat):Int) from shr_nat _ 8];conv=>whnf
   refine Wr.i64 (y:=16+8) (by decide) (by decide) (by decide) ?_;have hx:n / 65536 / 256 < 256:=by omega
   have hbl:bl n=16+8+bl (n / 65536 / 256):=by (rw [e1,bl_double (n / 65536) 8 h3];show _+(bl (n / 65536 / 256)+8)=_;omega)
   have hb8:bl (n / 65536 / 256)≤8:=bl_le (by omega);conv=>whnf
   refine Wr.is (y:=((n / 65536 / 256:Nat):Int)) (by rw [wrap_u8];omega) ?_;conv=>whnf
   refine ⟨⟨by omega,Int.lt_of_lt_of_le (b:=256) (by omega) (Int.le_of_eq rfl)⟩,?_⟩;conv=>whnf
   refine Wr.i64 (y:=((bl (n / 65536 / 256):Nat):Int)) (by
    show (((List.getD (α:=UInt8) _ (n / 65536 / 256) 0).toNat:Nat):Int)=_
    congr 1
    generalize n / 65536 / 256=x at hx ⊢
    revert x
    decide) (by omega) (by omega) ?_
   conv=>whnf
   refine Wr.i64 (y:=((bl n:Nat):Int)) (by omega) (by omega) (by omega) ?_;conv=>whnf
   exact ⟨rfl,trivial,rfl⟩
  ·have h3:¬256≤n / 65536:=by simp only [decide_eq_false_iff_not] at h;omega
   have hx:n / 65536 < 256:=by omega
   have hbl:bl n=16+bl (n / 65536):=by exact e1
   have hb8:bl (n / 65536)≤8:=bl_le (by omega);conv=>whnf
   refine Wr.is (y:=((n / 65536:Nat):Int)) (by rw [wrap_u8];omega) ?_;conv=>whnf
   refine ⟨⟨by omega,Int.lt_of_lt_of_le (b:=256) (by omega) (Int.le_of_eq rfl)⟩,?_⟩;conv=>whnf
   refine Wr.i64 (y:=((bl (n / 65536):Nat):Int)) (by
    show (((List.getD (α:=UInt8) _ (n / 65536) 0).toNat:Nat):Int)=_
    congr 1
    generalize n / 65536=x at hx ⊢
    revert x
    decide) (by omega) (by omega) ?_
   conv=>whnf
   refine Wr.i64 (y:=((bl n:Nat):Int)) (by omega) (by omega) (by omega) ?_;conv=>whnf
   exact ⟨rfl,trivial,rfl⟩
 ·have h2:¬65536≤n:=by simp only [decide_eq_false_iff_not] at h;omega
  have e1:bl n=0+bl n:=by omega
  conv=>whnf
  refine Br.mk (fun h=>?_) (fun h=>?_)
  ·have h3:256≤n:=by simp only [decide_eq_true_eq] at h;omega
   conv=>whnf
   refine ⟨by decide,?_⟩;rw [show (((n:Nat):Int).fdiv (2 ^ min (Int.toNat 8) IntKind.u32.bits))=((n / 256:Nat):Int) from shr_nat _ 8];conv=>whnf
   refine Wr.i64 (y:=0+8) (by decide) (by decide) (by decide) ?_;have hx:n / 256 < 256:=by omega
   have hbl:bl n=0+8+bl (n / 256):=by (rw [e1,bl_double (n) 8 h3];show _+(bl (n / 256)+8)=_;omega)
   have hb8:bl (n / 256)≤8:=bl_le (by omega);conv=>whnf
   refine Wr.is (y:=((n / 256:Nat):Int)) (by rw [wrap_u8];omega) ?_;conv=>whnf
   refine ⟨⟨by omega,Int.lt_of_lt_of_le (b:=256) (by omega) (Int.le_of_eq rfl)⟩,?_⟩;conv=>whnf
   refine Wr.i64 (y:=((bl (n / 256):Nat):Int)) (by
    show (((List.getD (α:=UInt8) _ (n / 256) 0).toNat:Nat):Int)=_
    congr 1
    generalize n / 256=x at hx ⊢
    revert x
    decide) (by omega) (by omega) ?_
   conv=>whnf
   refine Wr.i64 (y:=((bl n:Nat):Int)) (by omega) (by omega) (by omega) ?_;conv=>whnf
   exact ⟨rfl,trivial,rfl⟩
  ·have h3:¬256≤n:=by simp only [decide_eq_false_iff_not] at h;omega
   have hx:n < 256:=by omega
   have hbl:bl n=0+bl (n):=by exact e1
   have hb8:bl (n)≤8:=bl_le (by omega);conv=>whnf
   refine Wr.is (y:=((n:Nat):Int)) (by rw [wrap_u8];omega) ?_;conv=>whnf
   refine ⟨⟨by omega,Int.lt_of_lt_of_le (b:=256) (by omega) (Int.le_of_eq rfl)⟩,?_⟩;conv=>whnf
   refine Wr.i64 (y:=((bl (n):Nat):Int)) (by
    show (((List.getD (α:=UInt8) _ (n) 0).toNat:Nat):Int)=_
    congr 1
    generalize n=x at hx ⊢
    revert x
    decide) (by omega) (by omega) ?_
   conv=>whnf
   refine Wr.i64 (y:=((bl n:Nat):Int)) (by omega) (by omega) (by omega) ?_;conv=>whnf
   exact ⟨rfl,trivial,rfl⟩
theorem fn_LeadingZeros32 (n:Nat) (hn:n < 4294967296):Fn Tryz.prog 104 [N4 n] [] (I (32 - (bl n:Int))) []:=by
 have hb:bl n≤32:=bl_le (by omega)
 refine Fn.intro (ks:=[0,2]) hty rfl rfl rfl rfl rfl ?_
 conv=>whnf
 refine VCall.of_data (fn_Len32 n hn) (nd _) ?_
 conv=>whnf
 refine Wr.i64 (y:=32 - (bl n:Int)) rfl (by omega) (by omega) ?_
 conv=>whnf
 exact ⟨rfl,trivial,rfl⟩
end Go.V
namespace Go.V
open Go.Proofs
set_option maxRecDepth 10000
def pad (B m n:Nat):List Nat:=dg B n++List.replicate (m - (dg B n).length) 0
theorem vl_pad {B:Nat} (hB:2≤B) (m n:Nat):vl B (pad B m n)=n:=by rw [pad,vl_append,vl_dg hB,vl_zeros];simp
theorem pad_of {B:Nat} (hB:2≤B) {l:List Nat} (h:∀x,x∈l→x < B):l=pad B l.length (vl B l):=by
 have h1:=dg_take B hB l h;have hlen:(dg B (vl B l)).length≤l.length:=by rw [h1,List.length_take];omega
 have h2:=vl_split (B:=B) l (dg B (vl B l)).length hlen;rw [←h1,vl_dg hB] at h2;have hz:vl B (l.drop (dg B (vl B l)).length)=0:=by
  have:B ^ (dg B (vl B l)).length*vl B (l.drop (dg B (vl B l)).length)=0:=by omega
  rcases Nat.mul_eq_zero.1 this with h | h
  ·exact absurd h (Nat.ne_of_gt (Nat.pow_pos (by omega)))
  ·exact h
 have zeros:∀(r:List Nat),vl B r=0→r=List.replicate r.length 0:=by
  intro r;induction r with
  | nil=>intro _;rfl
  | cons x r ih =>
   intro h;unfold vl at h;have hx:x=0:=by omega
   have hr:vl B r=0:=by
    have:B*vl B r=0:=by omega
    rcases Nat.mul_eq_zero.1 this with h | h
    ·omega
    ·exact h
   rw [hx,ih hr];simp [List.replicate_succ]
 conv=>lhs;rw [←List.take_append_drop (dg B (vl B l)).length l]
 rw [←h1,zeros _ hz,List.length_drop]
 rfl
theorem pad_lt {B:Nat} (hB:2≤B) (m n:Nat):∀x,x∈pad B m n→x < B:=fun x hx=>by
 rcases List.mem_append.1 hx with hx | hx
 ·exact dg_lt hB hx
 ·rw [(List.mem_replicate.1 hx).2];omega
theorem pad_len {B:Nat} (hB:2≤B) {m n:Nat} (h:n < B ^ m):(pad B m n).length=m:=by
 have:=dg_len_le hB h
 rw [pad,List.length_append,List.length_replicate];omega
theorem or_add {h y k:Nat} (hk:k≤32) (hh:h < 2 ^ k) (hy:y < 4294967296):h ||| (y*2 ^ k) % 4294967296=(y*2 ^ k) % 4294967296+h∧(y*2 ^ k) % 4294967296+h < 4294967296:=by
 have e:(4294967296:Nat)=2 ^ (32 - k)*2 ^ k:=by rw [←Nat.pow_add,show 32 - k+k=32 by omega]
 have hm:(y*2 ^ k) % 4294967296=(y % 2 ^ (32 - k))*2 ^ k:=by
  rw [e,Nat.mul_mod_mul_right]
 rw [hm];have hlt:y % 2 ^ (32 - k) < 2 ^ (32 - k):=Nat.mod_lt _ (Nat.pow_pos (by decide));constructor
 ·have:=Nat.shiftLeft_add_eq_or_of_lt hh (y % 2 ^ (32 - k));rw [Nat.shiftLeft_eq] at this;rw [this,Nat.or_comm]
 ·have:=Nat.mul_le_mul_right (2 ^ k) (Nat.succ_le_of_lt hlt);rw [Nat.succ_mul,←e] at this;omega
theorem or_bv (a b:Nat) (ha:a < 4294967296) (hb:b < 4294967296):((BitVec.ofInt IntKind.u32.bits (a:Int) ||| BitVec.ofInt IntKind.u32.bits (b:Int)).toNat:Int)=((a ||| b:Nat):Int):=by
 rw [BitVec.toNat_or,BitVec.toNat_ofInt,BitVec.toNat_ofInt]
 congr 2
 ·show ((a:Int) % ((2 ^ 32:Nat):Int)).toNat=a
  omega
 ·show ((b:Int) % ((2 ^ 32:Nat):Int)).toNat=b
  omega
def ShI (a:List Nat) (k:Nat) (s:List Nat×Nat):Prop:=s.1.length≤a.length∧(∀x,x∈s.1→x < B32)∧s.2 < 2 ^ k∧vl B32 s.1+B32 ^ s.1.length*s.2=vl B32 (a.take s.1.length)*2 ^ k
theorem ShI.step {a:List Nat} {k:Nat} {s:List Nat×Nat} (h:ShI a k s) (hk:k≤32) (ha:∀x,x∈a→x < B32) (hi:s.1.length < a.length) :
  ShI a k (s.1++[(a.getD s.1.length 0*2 ^ k) % B32+s.2],(a.getD s.1.length 0*2 ^ k) / B32):=by
 obtain ⟨h1,h2,h3,h4⟩:=h
 have hx:a.getD s.1.length 0 < B32:=getD_lt ha (by decide) _
 refine ⟨by simp;omega,snoc_lt h2 (or_add hk h3 hx).2,Nat.div_lt_of_lt_mul ((Nat.mul_lt_mul_right (Nat.pow_pos (by decide))).2 hx),?_⟩
 rw [List.length_append]
 show vl B32 (s.1++[_])+B32 ^ (s.1.length+1)*(a.getD s.1.length 0*2 ^ k / B32)=vl B32 (a.take (s.1.length+1))*2 ^ k
 have hs:=split_digit (B:=B32) (P:=B32 ^ s.1.length) (x:=a.getD s.1.length 0*2 ^ k)
 rw [vl_snoc,vl_take_getD,Nat.add_mul,←h4,Nat.mul_assoc,hs,Nat.mul_add,Nat.pow_succ]
 omega
theorem sh_row {r:List Nat} {h d e m:Nat} (hm:m≠0):((cW .u32 (r++(h :: List.replicate m 0))).set r.length [.s (.int .u32 d)]).set (r.length+1) [.s (.int .u32 e)]=cW .u32 ((r++[d])++(e :: List.replicate (m - 1) 0)):=by
 obtain ⟨n,rfl⟩:∃n,m=n+1:=⟨m - 1,by omega⟩
 rw [cW_set,cW_set,List.set_append_right _ _ (Nat.le_refl _),Nat.sub_self,List.set_cons_zero,List.set_append_right _ _ (by omega),show r.length+1 - r.length=1 by omega,List.replicate_succ]
 simp
theorem set_at {rows:List (List C)} {i j:Nat} {r x:List C} (h:i≠j) (hr:rows[j]? = some x):(rows.set i r)[j]? = some x:=by
 rw [List.getElem?_set_ne h];exact hr
theorem fn_shiftedL (a:List Nat) (k:Nat) (ha:∀x,x∈a→x < B32) (hn:a.length≤1000000000000) (hk:k≤31) :
  Fn Tryz.prog 105 [.d (.sl (cW .u32 a)),I k] [] (.ls 0 0 (a.length+1) 1) [(0,.row true 1 (cW .u32 (pad B32 (a.length+1) (vl B32 a*2 ^ k))))]:=by
 have hA:((cW .u32 a).length:Int)=a.length:=by rw [cW_len]
 have hp:2 ^ k≤2 ^ 31:=Nat.pow_le_pow_right (by decide) hk;have hp0:0 < 2 ^ k:=Nat.pow_pos (by decide);refine Fn.intro (ks:=[0,1,4,5,6,7,8,13,14,15,16]) hty rfl rfl rfl rfl rfl ?_;conv=>whnf
 refine Wr.i64 (y:=((a.length+1:Nat):Int)) (by omega) (by omega) (by omega) ?_;conv=>whnf
 refine ⟨⟨by omega,by omega,by show ((a.length+1:Nat):Int)*((4:Nat):Int)≤_;omega,by omega⟩,?_⟩;conv=>whnf
 refine VLoop.inv hty (S:=List Nat×Nat) (fun s=>[(15,I s.1.length),(14,I a.length),(13,.d (.sl (cW .u32 a))),(5,.ls 12 0 (a.length+1) 1),(1,I k),(0,.d (.sl (cW .u32 a)))])
  (fun s=>[(12,.row true 1 (cW .u32 (s.1++(s.2 :: List.replicate (a.length - s.1.length) 0))))]) (ShI a k) (fun s=>a.length - s.1.length) ([],0) ⟨Nat.zero_le _,by simp,hp0,by simp [vl]⟩
  ⟨rfl,by show AV.d (.s (.int .i64 ((cW .u32 a).length:Int)))=_;rw [cW_len],rfl,rfl,rfl,rfl,trivial⟩
  ⟨by show Ob.row true 1 (List.replicate ((a.length+1:Nat):Int).toNat [.s (.int .u32 0)])=_;rw [show ((a.length+1:Nat):Int).toNat=a.length+1 from rfl,cW_rep];rfl,trivial⟩ ?_
 intro s hI;obtain ⟨g1,g2,g3,g4⟩:=id hI;conv=>whnf
 refine Br.mk (fun h2=>?_) (fun h2=>?_)
 ·have hk1:s.1.length < a.length:=by simp only [decide_eq_true_eq] at h2;omega
  have hx:a.getD s.1.length 0 < 4294967296:=getD_lt (B:=B32) ha (by decide) s.1.length;have hS:=hI.step (by omega) ha hk1;obtain ⟨o1,o2⟩:=or_add (k:=k) (by omega) g3 hx;have hy:a.getD s.1.length 0*2 ^ k < 18446744073709551616:=by
   have:=Nat.mul_le_mul (Nat.le_of_lt hx) hp;have e:4294967296*2 ^ 31 < 18446744073709551616:=by decide
   omega
  have hL:(s.1++(s.2 :: List.replicate (a.length - s.1.length) 0)).length=a.length+1:=by simp;omega
  have hg:(s.1++(s.2 :: List.replicate (a.length - s.1.length) 0)).getD s.1.length 0=s.2:=by
   rw [gD,List.getElem?_append_right (Nat.le_refl _),Nat.sub_self];rfl
  conv=>whnf
  refine ⟨⟨⟨by omega,by omega⟩,cW_sz _ _⟩,?_⟩;conv=>whnf
  refine ⟨_,cW_at (i:=s.1.length) hk1,?_⟩;conv=>whnf
  refine Wr.n64 rfl (by omega) ?_;conv=>whnf
  refine ⟨by omega,?_⟩;conv=>whnf
  refine Wr.n64 (n:=a.getD s.1.length 0*2 ^ k) (by
   show _*(2:Int) ^ (min k 64)=_;rw [show min k 64=k by omega];simp) hy ?_
  conv=>whnf
  refine ⟨by omega,?_⟩;conv=>whnf
  refine ⟨_,cW_at (i:=s.1.length) (by omega),?_⟩;rw [hg];conv=>whnf
  refine Wr.w32 rfl ?_;conv=>whnf
  refine Wr.n32 (n:=(a.getD s.1.length 0*2 ^ k) % 4294967296+s.2) (by rw [←o1];exact or_bv _ _ (by omega) (Nat.mod_lt _ (by decide))) o2 ?_;conv=>whnf
  refine ⟨by omega,?_⟩;conv=>whnf
  refine ⟨_,cW_at (i:=s.1.length) (by omega),?_⟩;conv=>whnf
  refine Wr.i64 (y:=((s.1.length+1:Nat):Int)) (by omega) (by omega) (by omega) ?_;conv=>whnf
  refine ⟨by decide,?_⟩;conv=>whnf
  refine Wr.n32 (n:=(a.getD s.1.length 0*2 ^ k) / 4294967296) (shr_nat _ 32) (by omega) ?_;conv=>whnf
  refine ⟨by omega,?_⟩;conv=>whnf
  refine ⟨_,set_at (i:=s.1.length) (j:=s.1.length+1) (by omega) (cW_at (i:=s.1.length+1) (by omega)),?_⟩;conv=>whnf
  refine Wr.i64 (y:=((s.1.length+1:Nat):Int)) (by omega) (by omega) (by omega) ?_;conv=>whnf
  refine ⟨_,hS,by simp;omega,⟨?_,rfl,rfl,rfl,rfl,rfl,trivial⟩,?_,trivial⟩
  ·show AV.d (.s (.int .i64 ((s.1.length+1:Nat):Int)))=I ((s.1++[_]).length:Nat);rw [List.length_append];rfl
  ·show Ob.row true 1 (((cW .u32 _).set s.1.length [.s (.int .u32 (((a.getD s.1.length 0*2 ^ k) % 4294967296+s.2:Nat):Int))]).set (s.1.length+1) [.s (.int .u32 (((a.getD s.1.length 0*2 ^ k) / 4294967296:Nat):Int))])=_;rw [sh_row (by omega),List.length_append];rfl
 ·have hk1:s.1.length=a.length:=by simp only [decide_eq_false_iff_not] at h2;omega
  have er:s.1++(s.2 :: List.replicate (a.length - s.1.length) 0)=pad B32 (a.length+1) (vl B32 a*2 ^ k):=by
   have h1:s.1++(s.2 :: List.replicate (a.length - s.1.length) 0)=s.1++[s.2]:=by rw [show a.length - s.1.length=0 by omega];rfl
   have h3:=pad_of b32 (snoc_lt g2 (Nat.lt_of_lt_of_le g3 (Nat.le_trans hp (by decide))):∀x,x∈s.1++[s.2]→x < B32);rw [vl_snoc,g4,hk1,List.take_length,List.length_append,hk1] at h3;rw [h1];exact h3
  rw [er];conv=>whnf
  exact ⟨⟨rfl,rfl,rfl,rfl,rfl,rfl⟩,[],rfl,trivial,rfl⟩
theorem fn_shifted (n k:Nat) (hn:bl n≤1000000000000) (hk:k≤31) :
  Fn Tryz.prog 105 [nI n,I k] [] (.ls 0 0 ((dg B32 n).length+1) 1) [(0,.row true 1 (cW .u32 (pad B32 ((dg B32 n).length+1) (n*2 ^ k))))]:=by
 have:=fn_shiftedL (dg B32 n) k (fun x h=>dg_lt b32 h) (Nat.le_trans (dg_len b32 n) hn) hk
 rwa [vl_dg b32] at this
end Go.V
namespace Go.V
open Go.Proofs
set_option maxRecDepth 10000
def win (R:List Nat) (lo:Nat) (r:List Nat):List Nat:=R.take lo++(r++R.drop (lo+r.length))
theorem win_nil (R:List Nat) (lo:Nat):win R lo []=R:=by simp [win]
theorem win_len {R:List Nat} {lo:Nat} {r:List Nat} (h:lo+r.length≤R.length):(win R lo r).length=R.length:=by
 simp only [win,List.length_append,List.length_take,List.length_drop];omega
theorem win_getD {R:List Nat} {lo:Nat} {r:List Nat} (h:lo+r.length≤R.length):(win R lo r).getD (lo+r.length) 0=R.getD (lo+r.length) 0:=by
 have e:(R.take lo).length=lo:=by rw [List.length_take];omega
 simp only [win,gD];rw [List.getElem?_append_right (by omega),e,show lo+r.length - lo=r.length by omega,List.getElem?_append_right (Nat.le_refl _),Nat.sub_self,List.getElem?_drop,Nat.add_zero]
theorem win_set {R:List Nat} {lo d:Nat} {r:List Nat} (h:lo+r.length < R.length):(cW .u32 (win R lo r)).set (lo+r.length) [.s (.int .u32 d)]=cW .u32 (win R lo (r++[d])):=by
 have e:(R.take lo).length=lo:=by rw [List.length_take];omega
 rw [cW_set]
 congr 1
 simp only [win];rw [List.set_append_right _ _ (by omega),e,show lo+r.length - lo=r.length by omega,List.set_append_right _ _ (Nat.le_refl _),Nat.sub_self,List.drop_eq_getElem_cons h,List.set_cons_zero,List.length_append];simp [Nat.add_assoc]
theorem win_drop {R:List Nat} {lo:Nat} {r:List Nat} (h:lo+r.length≤R.length):((win R lo r).drop lo).take r.length=r:=by
 have e:(R.take lo).length=lo:=by rw [List.length_take];omega
 simp only [win];rw [List.drop_append,e,Nat.sub_self,List.drop_zero,List.drop_of_length_le (by omega),List.nil_append,List.take_append,Nat.sub_self];simp
theorem win_win {R:List Nat} {lo:Nat} {r r':List Nat} (h:lo+r.length≤R.length) (h':r'.length=r.length):win (win R lo r) lo r'=win R lo r':=by
 have e:(R.take lo).length=lo:=by rw [List.length_take];omega
 have e1:(win R lo r).take lo=R.take lo:=by
  simp only [win];rw [List.take_append,e,Nat.sub_self,List.take_zero,List.append_nil,List.take_of_length_le (by omega)]
 have e2:(win R lo r).drop (lo+r'.length)=R.drop (lo+r'.length):=by
  rw [h'];simp only [win];rw [List.drop_append,e,List.drop_of_length_le (by omega),List.nil_append,show lo+r.length - lo=r.length by omega,List.drop_append,List.drop_of_length_le (by omega),Nat.sub_self,List.drop_zero,List.nil_append]
 show (win R lo r).take lo++(r'++(win R lo r).drop (lo+r'.length))=_;rw [e1,e2];rfl
theorem win_lt {R:List Nat} {lo B:Nat} {r:List Nat} (hR:∀x,x∈R→x < B) (hr:∀x,x∈r→x < B):∀x,x∈win R lo r→x < B:=fun x hx=>by
 simp only [win,List.mem_append] at hx
 rcases hx with hx | hx | hx
 ·exact hR x (List.mem_of_mem_take hx)
 ·exact hr x hx
 ·exact hR x (List.mem_of_mem_drop hx)
theorem win_at {R:List Nat} {lo:Nat} (r:List Nat) (hl:(win R lo r).length=R.length) (h:lo+r.length < R.length):(cW .u32 (win R lo r))[r.length+lo]? = some [.s (.int .u32 ((win R lo r).getD (lo+r.length) 0:Nat))]:=by
 rw [Nat.add_comm];exact cW_at (by omega)
theorem part_getD {R:List Nat} {lo m i:Nat} (hi:i < m):((R.drop lo).take m).getD i 0=R.getD (lo+i) 0:=by
 simp only [gD,List.getElem?_take,List.getElem?_drop,if_pos hi]
def TakI (W b:List Nat) (g:Nat) (s:List Nat×Nat×Nat):Prop:=s.1.length≤W.length∧(∀x,x∈s.1→x < B32)∧s.2.1 < B32∧s.2.2≤1 ∧
 vl B32 s.1+g*vl B32 (b.take s.1.length)=vl B32 (W.take s.1.length)+B32 ^ s.1.length*(s.2.1+s.2.2)
def BakI (W b:List Nat) (s:List Nat×Nat):Prop:=s.1.length≤W.length∧(∀x,x∈s.1→x < B32)∧s.2≤1∧vl B32 s.1+B32 ^ s.1.length*s.2=vl B32 (W.take s.1.length)+vl B32 (b.take s.1.length)
theorem carry_le {g y c:Nat} (hg:g≤B32) (hy:y < B32) (hc:c < B32):c+g*y < 18446744073709551616∧(c+g*y) / B32 < B32:=by
 have h1:g*y≤B32*(B32 - 1):=Nat.mul_le_mul hg (by omega);have h2:B32*(B32 - 1)+B32=B32*B32:=by decide
 have h3:B32*B32=18446744073709551616:=by decide
 have h4:c+g*y < B32*B32:=by omega
 exact ⟨by omega,Nat.div_lt_of_lt_mul h4⟩
theorem fn_takeAwayL (R b:List Nat) (lo m g:Nat) (hR:∀x,x∈R→x < B32) (hb:∀x,x∈b→x < B32) (hn:R.length≤10000000000000) (hm:m=b.length+1) (hlo:lo+m≤R.length) (hg:g≤B32) (hgV:g*vl B32 b≤vl B32 ((R.drop lo).take m)+vl B32 b) :
  Fn Tryz.prog 106 [.ls 1000000 lo m 1,.d (.sl (cW .u32 b)),N64 g] [(1000000,.row true 1 (cW .u32 R))] (B (decide (vl B32 ((R.drop lo).take m) < g*vl B32 b)))
   [(1000000,.row true 1 (cW .u32 (win R lo (pad B32 m (if vl B32 ((R.drop lo).take m) < g*vl B32 b then vl B32 ((R.drop lo).take m)+vl B32 b - g*vl B32 b else vl B32 ((R.drop lo).take m) - g*vl B32 b)))))]:=by
 have hB:((cW .u32 b).length:Int)=b.length:=by rw [cW_len]
 have hW:((R.drop lo).take m).length=m:=by rw [List.length_take,List.length_drop];omega
 have hWl:∀x,x∈(R.drop lo).take m→x < B32:=fun x hx=>hR x (List.mem_of_mem_drop (List.mem_of_mem_take hx));refine Fn.intro (ks:=[0,1,2,6,7,8,9,10,11,13,14,15,20,44,56,58,59,60,72]) hty rfl rfl rfl rfl rfl ?_;conv=>whnf
 refine VLoop.inv hty (S:=List Nat×Nat×Nat) (fun s=>[(14,I s.1.length),(13,I m),(8,I s.2.2),(7,N64 s.2.1),(2,N64 g),(1,.d (.sl (cW .u32 b))),(0,.ls 1000000 lo m 1)])
  (fun s=>[(1000000,.row true 1 (cW .u32 (win R lo s.1)))]) (TakI ((R.drop lo).take m) b g) (fun s=>m - s.1.length) ([],0,0) ⟨Nat.zero_le _,by simp,(by show 0 < B32;decide),Nat.zero_le _,by simp [vl]⟩
  ⟨rfl,rfl,rfl,rfl,rfl,rfl,rfl,trivial⟩ ⟨by rw [win_nil];rfl,trivial⟩ ?_
 intro s hI;obtain ⟨hk,hd,hc,hl,hv⟩:=hI;rw [hW] at hk;conv=>whnf
 refine Br.mk (fun h2=>?_) (fun h2=>?_)
 ·have hk1:s.1.length < m:=by simp only [decide_eq_true_eq] at h2;omega
  have hwl:(win R lo s.1).length=R.length:=win_len (by omega);have hx:((R.drop lo).take m).getD s.1.length 0 < 4294967296:=getD_lt (B:=B32) hWl (by decide) _;have hy:b.getD s.1.length 0 < 4294967296:=getD_lt (B:=B32) hb (by decide) s.1.length;have hcc:=carry_le hg hy hc;have hcc1:=hcc.1;have hc:s.2.1 < 4294967296:=hc;have hg:g≤4294967296:=hg;have hmod:(s.2.1+g*b.getD s.1.length 0) % B32 < 4294967296:=Nat.mod_lt _ (by decide);conv=>whnf
  refine Br.mk (fun h3=>?_) (fun h3=>?_)
  ·have hk2:s.1.length < b.length:=by simp only [decide_eq_true_eq] at h3;omega
   conv=>whnf
   refine ⟨⟨⟨by omega,by omega⟩,cW_sz _ _⟩,?_⟩;conv=>whnf
   refine ⟨_,cW_at (i:=s.1.length) hk2,?_⟩;conv=>whnf
   refine Wr.n64 rfl (by omega) ?_;conv=>whnf
   refine Wr.n64 (n:=g*b.getD s.1.length 0) (by rw [Int.natCast_mul]) (by omega) ?_;conv=>whnf
   refine Wr.n64 (n:=s.2.1+g*b.getD s.1.length 0) (by rw [Int.natCast_add]) hcc1 ?_;have hmc:(s.2.1+g*b.getD s.1.length 0) % B32 < 4294967296:=Nat.mod_lt _ (by decide);conv=>whnf
   refine ⟨by omega,?_⟩;conv=>whnf
   refine ⟨_,win_at s.1 (by omega) (by omega),?_⟩;rw [win_getD (by omega),←part_getD (m:=m) hk1];conv=>whnf
   refine Wr.i64 rfl (by omega) (by omega) ?_;conv=>whnf
   refine Wr.w32 rfl ?_;conv=>whnf
   refine Wr.i64 rfl (by omega) (by omega) ?_;conv=>whnf
   refine Wr.i64 rfl (by omega) (by omega) ?_;conv=>whnf
   refine Wr.i64 (y:=(((R.drop lo).take m).getD s.1.length 0:Int) - (((s.2.1+g*b.getD s.1.length 0) % B32:Nat):Int) - s.2.2) rfl (by omega) (by omega) ?_;have hd2:∃d l',d < B32∧l'≤1∧d+(s.2.1+g*b.getD s.1.length 0) % B32+s.2.2=((R.drop lo).take m).getD s.1.length 0+B32*l'∧((l'=1∧(((R.drop lo).take m).getD s.1.length 0:Int) - (((s.2.1+g*b.getD s.1.length 0) % B32:Nat):Int) - s.2.2 < 0)∨(l'=0∧0≤(((R.drop lo).take m).getD s.1.length 0:Int) - (((s.2.1+g*b.getD s.1.length 0) % B32:Nat):Int) - s.2.2))∧((((R.drop lo).take m).getD s.1.length 0:Int) - (((s.2.1+g*b.getD s.1.length 0) % B32:Nat):Int) - s.2.2) % 4294967296=(d:Int):=by
    rw [show s.2.1+g*b.getD s.1.length 0=s.2.1+g*b.getD s.1.length 0 from rfl];have hm:=hmod;rw [show s.2.1+g*b.getD s.1.length 0=s.2.1+g*b.getD s.1.length 0 from rfl] at hm;generalize (s.2.1+g*b.getD s.1.length 0) % B32=c0 at hm ⊢;rcases Int.lt_or_le ((((R.drop lo).take m).getD s.1.length 0:Int) - (c0:Int) - s.2.2) 0 with hz | hz
    ·exact ⟨((((R.drop lo).take m).getD s.1.length 0:Int) - (c0:Int) - s.2.2+4294967296).toNat,1,by show _ < 4294967296;omega,by omega,by show _=_+4294967296*1;omega,.inl ⟨rfl,hz⟩,by omega⟩
    ·exact ⟨((((R.drop lo).take m).getD s.1.length 0:Int) - (c0:Int) - s.2.2).toNat,0,by show _ < 4294967296;omega,by omega,by omega,.inr ⟨rfl,hz⟩,by omega⟩
   obtain ⟨d,c,hdB,hc1,hdc,hsign,hdz⟩:=hd2;have hstep:=take_step hv hdc;conv=>whnf
   refine ⟨by decide,?_⟩;conv=>whnf
   refine Br.mk (fun h4=>?_) (fun h4=>?_)
   case' refine_1 =>
    have hc2:c=1:=by simp only [decide_eq_true_eq] at h4;omega
   case' refine_2 =>
    have hc2:c=0:=by simp only [decide_eq_false_iff_not] at h4;omega
   all_goals
    conv=>whnf
    refine Wr.is (y:=(d:Int)) (by rw [wrap_u32];exact hdz) ?_;conv=>whnf
    refine ⟨by omega,?_⟩;conv=>whnf
    refine ⟨_,win_at s.1 (by omega) (by omega),?_⟩;conv=>whnf
    refine Wr.i64 (y:=((s.1.length+1:Nat):Int)) (by omega) (by omega) (by omega) ?_;conv=>whnf
    refine ⟨(s.1++[d],(s.2.1+g*b.getD s.1.length 0) / B32,c),⟨by simp only [List.length_append,List.length_singleton];omega,snoc_lt hd hdB,hcc.2,hc1,by rw [List.length_append];exact hstep⟩,by simp only [List.length_append,List.length_singleton];omega,⟨?_,rfl,?_,?_,rfl,rfl,rfl,trivial⟩,?_,trivial⟩
    ·show AV.d (.s (.int .i64 ((s.1.length+1:Nat):Int)))=I ((s.1++[_]).length:Nat);rw [List.length_append];rfl
    ·rw [hc2];rfl
    ·show AV.d (.s (.int .u64 ((((s.2.1+g*b.getD s.1.length 0:Nat):Int)).fdiv (2 ^ 32))))=_;rw [shr_nat,show s.2.1+g*b.getD s.1.length 0=s.2.1+g*b.getD s.1.length 0 from rfl]
    ·show Ob.row true 1 ((cW .u32 _).set (s.1.length+lo) [.s (.int .u32 (d:Int))])=_;rw [Nat.add_comm,win_set (by omega)]
  ·have hk2:¬s.1.length < b.length:=by simp only [decide_eq_false_iff_not] at h3;omega
   have hy0:b.getD s.1.length 0=0:=by rw [gD,List.getElem?_eq_none (by omega)];rfl
   have ec:s.2.1+g*b.getD s.1.length 0=s.2.1:=by rw [hy0,Nat.mul_zero,Nat.add_zero]
   have hmc:(s.2.1) % B32 < 4294967296:=Nat.mod_lt _ (by decide);conv=>whnf
   refine ⟨by omega,?_⟩;conv=>whnf
   refine ⟨_,win_at s.1 (by omega) (by omega),?_⟩;rw [win_getD (by omega),←part_getD (m:=m) hk1];conv=>whnf
   refine Wr.i64 rfl (by omega) (by omega) ?_;conv=>whnf
   refine Wr.w32 rfl ?_;conv=>whnf
   refine Wr.i64 rfl (by omega) (by omega) ?_;conv=>whnf
   refine Wr.i64 rfl (by omega) (by omega) ?_;conv=>whnf
   refine Wr.i64 (y:=(((R.drop lo).take m).getD s.1.length 0:Int) - (((s.2.1) % B32:Nat):Int) - s.2.2) rfl (by omega) (by omega) ?_;have hd2:∃d l',d < B32∧l'≤1∧d+(s.2.1+g*b.getD s.1.length 0) % B32+s.2.2=((R.drop lo).take m).getD s.1.length 0+B32*l'∧((l'=1∧(((R.drop lo).take m).getD s.1.length 0:Int) - (((s.2.1) % B32:Nat):Int) - s.2.2 < 0)∨(l'=0∧0≤(((R.drop lo).take m).getD s.1.length 0:Int) - (((s.2.1) % B32:Nat):Int) - s.2.2))∧((((R.drop lo).take m).getD s.1.length 0:Int) - (((s.2.1) % B32:Nat):Int) - s.2.2) % 4294967296=(d:Int):=by
    rw [ec];have hm:=hmod;rw [ec] at hm;generalize (s.2.1) % B32=c0 at hm ⊢;rcases Int.lt_or_le ((((R.drop lo).take m).getD s.1.length 0:Int) - (c0:Int) - s.2.2) 0 with hz | hz
    ·exact ⟨((((R.drop lo).take m).getD s.1.length 0:Int) - (c0:Int) - s.2.2+4294967296).toNat,1,by show _ < 4294967296;omega,by omega,by show _=_+4294967296*1;omega,.inl ⟨rfl,hz⟩,by omega⟩
    ·exact ⟨((((R.drop lo).take m).getD s.1.length 0:Int) - (c0:Int) - s.2.2).toNat,0,by show _ < 4294967296;omega,by omega,by omega,.inr ⟨rfl,hz⟩,by omega⟩
   obtain ⟨d,c,hdB,hc1,hdc,hsign,hdz⟩:=hd2;have hstep:=take_step hv hdc;conv=>whnf
   refine ⟨by decide,?_⟩;conv=>whnf
   refine Br.mk (fun h4=>?_) (fun h4=>?_)
   case' refine_1 =>
    have hc2:c=1:=by simp only [decide_eq_true_eq] at h4;omega
   case' refine_2 =>
    have hc2:c=0:=by simp only [decide_eq_false_iff_not] at h4;omega
   all_goals
    conv=>whnf
    refine Wr.is (y:=(d:Int)) (by rw [wrap_u32];exact hdz) ?_;conv=>whnf
    refine ⟨by omega,?_⟩;conv=>whnf
    refine ⟨_,win_at s.1 (by omega) (by omega),?_⟩;conv=>whnf
    refine Wr.i64 (y:=((s.1.length+1:Nat):Int)) (by omega) (by omega) (by omega) ?_;conv=>whnf
    refine ⟨(s.1++[d],(s.2.1+g*b.getD s.1.length 0) / B32,c),⟨by simp only [List.length_append,List.length_singleton];omega,snoc_lt hd hdB,hcc.2,hc1,by rw [List.length_append];exact hstep⟩,by simp only [List.length_append,List.length_singleton];omega,⟨?_,rfl,?_,?_,rfl,rfl,rfl,trivial⟩,?_,trivial⟩
    ·show AV.d (.s (.int .i64 ((s.1.length+1:Nat):Int)))=I ((s.1++[_]).length:Nat);rw [List.length_append];rfl
    ·rw [hc2];rfl
    ·show AV.d (.s (.int .u64 ((((s.2.1:Nat):Int)).fdiv (2 ^ 32))))=_;rw [shr_nat,ec]
    ·show Ob.row true 1 ((cW .u32 _).set (s.1.length+lo) [.s (.int .u32 (d:Int))])=_;rw [Nat.add_comm,win_set (by omega)]
 ·have hk1:s.1.length=m:=by simp only [decide_eq_false_iff_not] at h2;omega
  rw [hk1,List.take_of_length_le (by omega),List.take_of_length_le (by omega)] at hv;have hwB:vl B32 s.1 < B32 ^ (b.length+1):=by have:=vl_lt hd;rwa [hk1,hm] at this
  have hUB:vl B32 ((R.drop lo).take m) < B32 ^ (b.length+1):=by rw [←hm];have:=vl_lt hWl;rwa [hW] at this
  obtain ⟨e1,e2⟩:=take_end hwB hUB (vl_lt hb) b32 (by rw [←hm];exact hv) hgV;have hwp:s.1=pad B32 m (vl B32 s.1):=by have:=pad_of b32 hd;rwa [hk1] at this
  conv=>whnf
  refine Br.mk (fun h3=>?_) (fun h3=>?_)
  case' refine_1 =>
   have h3:s.2.2=0:=by simp only [decide_eq_true_eq] at h3;omega
   conv=>whnf
   refine Br.mk (fun h4=>?_) (fun h4=>?_)
   case' refine_1 =>
    have h4:s.2.1=0:=by simp only [decide_eq_true_eq] at h4;omega
    obtain ⟨f1,f2⟩:=e1 (by omega);have hge:¬vl B32 ((R.drop lo).take m) < g*vl B32 b:=by omega
    rw [if_neg hge,←f2,←hwp];conv=>whnf
    exact ⟨by rw [decide_eq_false hge],⟨rfl,trivial⟩,rfl⟩
   case' refine_2 =>
    have hne:s.2.1+s.2.2≠0:=by simp only [decide_eq_false_iff_not] at h4;omega
  case' refine_2 =>
   have hne:s.2.1+s.2.2≠0:=by simp only [decide_eq_false_iff_not] at h3;omega
  all_goals
   obtain ⟨f1,f2,f3⟩:=e2 hne;rw [if_pos f1];conv=>whnf
   refine VLoop.inv hty (S:=List Nat×Nat) (fun q=>[(59,I q.1.length),(58,I m),(7,N64 q.2),(1,.d (.sl (cW .u32 b))),(0,.ls 1000000 lo m 1)])
    (fun q=>[(1000000,.row true 1 (cW .u32 (win (win R lo s.1) lo q.1)))]) (BakI s.1 b) (fun q=>m - q.1.length) ([],0) ⟨Nat.zero_le _,by simp,Nat.zero_le _,by simp [vl]⟩
    ⟨rfl,rfl,rfl,rfl,rfl,trivial⟩ ⟨by rw [win_nil];rfl,trivial⟩ ?_
   intro q hQ;obtain ⟨qk,qd,qc,qv⟩:=hQ;rw [hk1] at qk;have hwl1:(win R lo s.1).length=R.length:=win_len (by omega);conv=>whnf
   refine Br.mk (fun h5=>?_) (fun h5=>?_)
   ·have qk1:q.1.length < m:=by simp only [decide_eq_true_eq] at h5;omega
    have hwl:(win (win R lo s.1) lo q.1).length=R.length:=by rw [win_len (by omega)];exact hwl1
    have hx:s.1.getD q.1.length 0 < 4294967296:=getD_lt (B:=B32) hd (by decide) _;have hy:b.getD q.1.length 0 < 4294967296:=getD_lt (B:=B32) hb (by decide) q.1.length;have hstep:=add_step qv;have hwx:(win R lo s.1).getD (lo+q.1.length) 0=s.1.getD q.1.length 0:=by
     rw [←part_getD (R:=win R lo s.1) (m:=m) qk1,←hk1,win_drop (by omega)]
    conv=>whnf
    refine ⟨by omega,?_⟩;conv=>whnf
    refine ⟨_,win_at q.1 (by omega) (by omega),?_⟩;rw [win_getD (by omega),hwx];conv=>whnf
    refine Wr.n64 rfl (by omega) ?_;conv=>whnf
    refine Wr.n64 (n:=q.2+s.1.getD q.1.length 0) (by rw [Int.natCast_add]) (by omega) ?_;conv=>whnf
    refine Br.mk (fun h6=>?_) (fun h6=>?_)
    ·have qk2:q.1.length < b.length:=by simp only [decide_eq_true_eq] at h6;omega
     conv=>whnf
     refine ⟨⟨⟨by omega,by omega⟩,cW_sz _ _⟩,?_⟩;conv=>whnf
     refine ⟨_,cW_at (i:=q.1.length) qk2,?_⟩;conv=>whnf
     refine Wr.n64 rfl (by omega) ?_;conv=>whnf
     refine Wr.n64 (n:=q.2+s.1.getD q.1.length 0+b.getD q.1.length 0) (by omega) (by omega) ?_;conv=>whnf
     refine Wr.w32 rfl ?_;conv=>whnf
     refine ⟨by omega,?_⟩;conv=>whnf
     refine ⟨_,win_at q.1 (by omega) (by omega),?_⟩;conv=>whnf
     refine ⟨by decide,?_⟩;conv=>whnf
     refine Wr.i64 (y:=((q.1.length+1:Nat):Int)) (by omega) (by omega) (by omega) ?_;conv=>whnf
     refine ⟨(q.1++[(q.2+s.1.getD q.1.length 0+b.getD q.1.length 0) % B32],(q.2+s.1.getD q.1.length 0+b.getD q.1.length 0) / B32),⟨by simp only [List.length_append,List.length_singleton];omega,snoc_lt qd (Nat.mod_lt _ (by decide)),by show (q.2+s.1.getD q.1.length 0+b.getD q.1.length 0) / 4294967296≤1;omega,by rw [List.length_append];exact hstep⟩,by simp only [List.length_append,List.length_singleton];omega,⟨?_,rfl,?_,rfl,rfl,trivial⟩,?_,trivial⟩
     ·show AV.d (.s (.int .i64 ((q.1.length+1:Nat):Int)))=I ((q.1++[_]).length:Nat);rw [List.length_append];rfl
     ·show AV.d (.s (.int .u64 ((((q.2+s.1.getD q.1.length 0+b.getD q.1.length 0:Nat):Int)).fdiv (2 ^ 32))))=_;rw [shr_nat,show q.2+s.1.getD q.1.length 0+b.getD q.1.length 0=q.2+s.1.getD q.1.length 0+b.getD q.1.length 0 from rfl]
     ·show Ob.row true 1 ((cW .u32 _).set (q.1.length+lo) [.s (.int .u32 ((((q.2+s.1.getD q.1.length 0+b.getD q.1.length 0) % B32:Nat)):Int))])=_;rw [Nat.add_comm q.1.length lo,win_set (by omega),show q.2+s.1.getD q.1.length 0+b.getD q.1.length 0=q.2+s.1.getD q.1.length 0+b.getD q.1.length 0 from rfl]
    ·have qk2:¬q.1.length < b.length:=by simp only [decide_eq_false_iff_not] at h6;omega
     have hy0:b.getD q.1.length 0=0:=by rw [gD,List.getElem?_eq_none (by omega)];rfl
     have ec:q.2+s.1.getD q.1.length 0+b.getD q.1.length 0=q.2+s.1.getD q.1.length 0:=by rw [hy0,Nat.add_zero]
     conv=>whnf
     refine Wr.w32 rfl ?_;conv=>whnf
     refine ⟨by omega,?_⟩;conv=>whnf
     refine ⟨_,win_at q.1 (by omega) (by omega),?_⟩;conv=>whnf
     refine ⟨by decide,?_⟩;conv=>whnf
     refine Wr.i64 (y:=((q.1.length+1:Nat):Int)) (by omega) (by omega) (by omega) ?_;conv=>whnf
     refine ⟨(q.1++[(q.2+s.1.getD q.1.length 0+b.getD q.1.length 0) % B32],(q.2+s.1.getD q.1.length 0+b.getD q.1.length 0) / B32),⟨by simp only [List.length_append,List.length_singleton];omega,snoc_lt qd (Nat.mod_lt _ (by decide)),by show (q.2+s.1.getD q.1.length 0+b.getD q.1.length 0) / 4294967296≤1;omega,by rw [List.length_append];exact hstep⟩,by simp only [List.length_append,List.length_singleton];omega,⟨?_,rfl,?_,rfl,rfl,trivial⟩,?_,trivial⟩
     ·show AV.d (.s (.int .i64 ((q.1.length+1:Nat):Int)))=I ((q.1++[_]).length:Nat);rw [List.length_append];rfl
     ·show AV.d (.s (.int .u64 ((((q.2+s.1.getD q.1.length 0:Nat):Int)).fdiv (2 ^ 32))))=_;rw [shr_nat,ec]
     ·show Ob.row true 1 ((cW .u32 _).set (q.1.length+lo) [.s (.int .u32 ((((q.2+s.1.getD q.1.length 0) % B32:Nat)):Int))])=_;rw [Nat.add_comm q.1.length lo,win_set (by omega),ec]
   ·have qk1:q.1.length=m:=by simp only [decide_eq_false_iff_not] at h5;omega
    rw [qk1,List.take_of_length_le (by omega),List.take_of_length_le (by omega)] at qv;have hq1:vl B32 q.1=vl B32 ((R.drop lo).take m)+vl B32 b - g*vl B32 b:=by
     have hqB:vl B32 q.1 < B32 ^ m:=by have:=vl_lt qd;rwa [qk1] at this
     rw [f3,←hm] at qv;have hbB:vl B32 b < B32 ^ b.length:=vl_lt hb;have hpw:B32 ^ b.length*1≤B32 ^ b.length*B32:=Nat.mul_le_mul_left _ (by decide);have hpm:B32 ^ m=B32 ^ b.length*B32:=by rw [hm,Nat.pow_succ]
     rcases Nat.eq_zero_or_pos q.2 with h0 | h0
     ·rw [h0] at qv;omega
     ·have:q.2=1:=by omega
      rw [this] at qv;omega
    have hqp:q.1=pad B32 m (vl B32 q.1):=by have:=pad_of b32 qd;rwa [qk1] at this
    rw [win_win (by omega) (by omega),←hq1,←hqp];conv=>whnf
    exact ⟨by rw [decide_eq_true f1],⟨rfl,trivial⟩,rfl⟩
end Go.V
namespace Go.V
section
variable {B:Nat}
theorem two_digits {u:List Nat} {n:Nat} (h:u.length=n+2):vl B u=(u.getD (n+1) 0*B+u.getD n 0)*B ^ n+vl B (u.take n):=by
 have h1:=vl_take_getD (B:=B) u (n+1)
 have h2:=vl_take_getD (B:=B) u n
 rw [List.take_of_length_le (by omega)] at h1
 have e1:B ^ (n+1)=B ^ n*B:=Nat.pow_succ ..
 rw [h1,h2,e1]
 clear h1 h2 e1
 generalize B ^ n=p
 generalize u.getD (n+1) 0=x
 generalize u.getD n 0=y
 grind
theorem three_digits {u:List Nat} {n:Nat} (h:u.length=n+3):vl B u=((u.getD (n+2) 0*B+u.getD (n+1) 0)*B+u.getD n 0)*B ^ n+vl B (u.take n):=by
 have h0:=vl_take_getD (B:=B) u (n+2);have h1:=vl_take_getD (B:=B) u (n+1);have h2:=vl_take_getD (B:=B) u n;rw [List.take_of_length_le (by omega)] at h0;have e1:B ^ (n+1)=B ^ n*B:=Nat.pow_succ ..;have e2:B ^ (n+2)=B ^ n*B*B:=by rw [Nat.pow_succ,Nat.pow_succ]
 rw [h0,h1,h2,e1,e2];clear h0 h1 h2 e1 e2;generalize B ^ n=p;generalize u.getD (n+2) 0=z;generalize u.getD (n+1) 0=x;generalize u.getD n 0=y;grind
theorem top_le {V x y n t:Nat} (hV:V=t*B ^ n+y) (hy:y < B ^ n) (h:x*B ^ n < V):x≤t:=by
 apply Nat.le_of_not_lt
 intro hlt
 have h1:=Nat.mul_le_mul_right (B ^ n) (Nat.succ_le_of_lt hlt)
 rw [Nat.succ_mul] at h1
 omega
end
end Go.V
namespace Go.V
structure Dig (B m top next low head r ul U V:Nat):Prop where
 hn:next < B
 hr:r < B
 hu:ul < m
 hl:low < m
 ht:0 < top
 hh:head < top*B+B
 eU:U=(head*B+r)*m+ul
 eV:V=(top*B+next)*m+low
 lt:U < B*V
section
variable {B m top next low head r ul U V:Nat}
def GI (top head U V:Nat) (s:Nat×Nat):Prop:=s.1*top+s.2=head∧U < (s.1+1)*V
theorem Dig.init (h:Dig B m top next low head r ul U V):GI top head U V (head / top,head % top):=by
 have hd:=Nat.div_add_mod head top;have hm:=Nat.mod_lt head h.ht;refine ⟨by show head / top*top+head % top=head;rw [Nat.mul_comm];exact hd,?_⟩;show U < (head / top+1)*V;generalize head / top=g at *;have h1:head+1≤(g+1)*top:=by rw [Nat.succ_mul,Nat.mul_comm g top];omega
 have h2:=Nat.mul_le_mul_right (B*m) h1;have h3:(g+1)*top*(B*m)≤(g+1)*V:=by
  rw [h.eV,Nat.mul_assoc];apply Nat.mul_le_mul_left;have:top*(B*m)=top*B*m:=(Nat.mul_assoc ..).symm;rw [this,Nat.add_mul];omega
 have h4:(head+1)*(B*m)=head*B*m+B*m:=by grind
 have h5:(head*B+r)*m=head*B*m+r*m:=Nat.add_mul ..;have h6:(r+1)*m≤B*m:=Nat.mul_le_mul_right _ h.hr;rw [Nat.succ_mul] at h6;have:=h.hu;rw [h.eU];omega
theorem Dig.step (h:Dig B m top next low head r ul U V) {s:Nat×Nat} (hs:GI top head U V s) (hc:B≤s.1∨s.2*B+r < s.1*next):1≤s.1∧GI top head U V (s.1 - 1,s.2+top):=by
 have hB:0 < B:=by have:=h.hn;omega
 have h1:1≤s.1:=by
  rcases hc with hc | hc
  ·omega
  ·apply Nat.pos_of_ne_zero;intro e;rw [e] at hc;simp at hc
 have h2:=guess_hi (vl:=low) h.hu hs.1 (by rw [←h.eU,←h.eV];exact h.lt) hc;rw [←h.eU,←h.eV] at h2;refine ⟨h1,?_,?_⟩
 ·show (s.1 - 1)*top+(s.2+top)=head;obtain ⟨g,hg⟩:∃g,s.1=g+1:=⟨s.1 - 1,by omega⟩;have h3:=hs.1;rw [hg,Nat.succ_mul] at h3;rw [hg,Nat.add_sub_cancel];omega
 ·show U < (s.1 - 1+1)*V;rw [show s.1 - 1+1=s.1 by omega];exact h2
def Fine (B U V g:Nat):Prop:=g < B∧U < (g+1)*V∧g*V≤U+V
theorem Dig.stop (h:Dig B m top next low head r ul U V) {s:Nat×Nat} (hs:GI top head U V s) (h1:s.1 < B) (h2:s.1*next≤s.2*B+r):Fine B U V s.1:=by
 refine ⟨h1,hs.2,?_⟩
 have h3:1*B≤top*B:=Nat.mul_le_mul_right _ h.ht
 have:=guess_lo (ul:=ul) (Nat.le_of_lt h.hl) hs.1 (by omega) h2
 rw [←h.eU,←h.eV] at this
 exact this
theorem Dig.brk (h:Dig B m top next low head r ul U V) {s:Nat×Nat} (hs:GI top head U V s) (h1:B≤s.2):Fine B U V s.1:=by
 obtain ⟨h2,h3⟩:=guess_rest (r:=r) h.hn hs.1 h.hh h.ht h1
 exact h.stop hs h2 h3
theorem Dig.of {W u:List Nat} {n:Nat} (hW:W.length=n+3) (hu:u.length=n+2) (hWl:∀x,x∈W→x < B) (hul:∀x,x∈u→x < B) (hB:2≤B) (ht:u.getD (n+1) 0≠0)
  (hlt:vl B (W.drop 1) < vl B u):Dig B (B ^ n) (u.getD (n+1) 0) (u.getD n 0) (vl B (u.take n)) (W.getD (n+2) 0*B+W.getD (n+1) 0) (W.getD n 0) (vl B (W.take n)) (vl B W) (vl B u):=by
 have g:∀{l:List Nat},(∀x,x∈l→x < B)→∀k,l.getD k 0 < B:=fun {l} h k=>by
  rw [gD]
  by_cases hk:k < l.length
  ·rw [List.getElem?_eq_getElem hk];exact h _ (by simp)
  ·rw [List.getElem?_eq_none (by omega)];show 0 < B;omega
 have tk:∀{l:List Nat},(∀x,x∈l→x < B)→n≤l.length→vl B (l.take n) < B ^ n:=fun {l} h hn=>by
  have:=vl_lt (B:=B) (l:=l.take n) fun x hx=>h x (List.mem_of_mem_take hx)
  rwa [List.length_take,Nat.min_eq_left hn] at this
 have e2:=two_digits (B:=B) hu
 have e3:=three_digits (B:=B) hW
 have hx:W.getD (n+2) 0≤u.getD (n+1) 0:=by
  have h1:=vl_take_getD (B:=B) u (n+1)
  rw [List.take_of_length_le (by omega)] at h1
  have h2:=vl_take_getD (B:=B) (W.drop 1) (n+1)
  rw [List.take_of_length_le (by rw [List.length_drop];omega)] at h2
  have h3:(W.drop 1).getD (n+1) 0=W.getD (n+2) 0:=by
   simp only [gD,List.getElem?_drop]
   rw [show 1+(n+1)=n+2 by omega]
  rw [h3] at h2
  have h4:=vl_lt (B:=B) (l:=u.take (n+1)) fun x hx=>hul x (List.mem_of_mem_take hx)
  rw [List.length_take,Nat.min_eq_left (by omega)] at h4
  refine top_le (B:=B) (n:=n+1) (V:=vl B u) (by rw [Nat.mul_comm];omega) h4 ?_
  rw [Nat.mul_comm];omega
 refine ⟨g hul n,g hWl n,tk hWl (by omega),tk hul (by omega),Nat.pos_of_ne_zero ht,?_,e3,e2,?_⟩
 ·have h1:=Nat.mul_le_mul_right B hx
  have h2:=g hWl (n+1)
  omega
 ·have h1:=vl_drop (B:=B) (l:=W) (k:=0) (by omega)
  rw [List.drop_zero] at h1
  have h2:=hWl W[0] (by simp)
  have h3:=Nat.mul_le_mul_left B (Nat.succ_le_of_lt hlt)
  rw [Nat.mul_succ] at h3
  rw [h1];simp only [Nat.zero_add];omega
end
end Go.V
namespace Go.V
open Go.Proofs
set_option maxRecDepth 10000
def DivI (B A V N n:Nat) (s:Nat×List Nat×List Nat):Prop:=s.2.1.length=N∧(∀x,x∈s.2.1→x < B)∧s.1+s.2.2.length+n=N∧(∀x,x∈s.2.2→x < B)∧vl B (s.2.1.drop s.1) < V∧vl B s.2.1+V*(B ^ s.1*vl B s.2.2)=A
theorem fn_divA (a b:Nat) (ha:bl a≤100000000000) (hb:bl b≤100000000000) (hlt:a < b):Fn Tryz.prog 86 [nI a,nI b] [] (.tup [nI (a / b),nI (a % b)]) []:=by
 refine Fn.intro (ks:=[0,1,4,5,6,7,8,9,10,11,12,13,14,15,16,17,18,19,20,24,28,79,121,128,136,147,148,149,155]) hty rfl rfl rfl rfl rfl ?_
 have c1:=fn_cmp a b (by omega) (by omega)
 rw [cmpZ_lt hlt] at c1
 rw [Nat.div_eq_of_lt hlt,Nat.mod_eq_of_lt hlt]
 conv=>whnf
 refine VCall.of_data c1 (nd _) ?_
 conv=>whnf
 exact ⟨rfl,trivial,rfl⟩
theorem fn_divB (a b:Nat) (ha:bl a≤100000000000) (hb0:0 < b) (hb:b < 4294967296) (hle:b≤a):Fn Tryz.prog 86 [nI a,nI b] [] (.tup [nI (a / b),nI (a % b)]) []:=by
 have hbb:=bl_mono hle;have c1:=fn_cmp a b (by omega) (by omega);have hz:0≤cmpZ a b:=by
  rcases Nat.lt_or_ge b a with h | h
  ·rw [cmpZ_gt h];decide
  ·have:a=b:=by omega
   rw [this,cmpZ_eq];decide
 have c2:=fn_divSmall a b (by omega) hb0 hb;have hd:dg B32 b=[b]:=dg_small b32 hb (by omega);have hm:a % b < b:=Nat.mod_lt _ hb0;have c3:=fn_trim [a % b] (by intro x hx;simp only [List.mem_singleton] at hx;subst hx;show a % b < 4294967296;omega) (by simp);rw [show vl B32 [a % b]=a % b by simp [vl]] at c3;refine Fn.intro (ks:=[0,1,4,5,6,7,8,9,10,11,12,13,14,15,16,17,18,19,20,24,28,79,121,128,136,147,148,149,155]) hty rfl rfl rfl rfl rfl ?_;conv=>whnf
 refine VCall.of_data c1 (nd _) ?_;conv=>whnf
 refine Br.mk (fun h=>?_) (fun h=>?_)
 ·simp only [decide_eq_true_eq] at h;omega
 ·conv=>whnf
  refine Br.mk (fun h2=>?_) (fun h2=>?_)
  ·conv=>whnf
   refine ⟨⟨⟨by omega,by rw [cW_len,hd];show (0:Int) < 1;decide⟩,cW_sz _ _⟩,?_⟩;conv=>whnf
   refine ⟨[.s (.int .u32 (b:Nat))],by rw [hd];rfl,?_⟩;conv=>whnf
   refine VCall.of_data c2 (ndT (fun k=>rfl)) ?_;conv=>whnf
   refine VCall.frz 39 c3 rfl ⟨⟨rfl,rfl,Nat.le_refl _,rfl⟩,trivial⟩ (nd _) ?_;conv=>whnf
   exact ⟨rfl,rfl,trivial,rfl⟩
  ·rw [cW_len,hd] at h2;simp at h2
structure Up (B b s n:Nat) (u:List Nat):Prop where
 len:u.length=n+2
 top:u.getD (n+1) 0≠0
 lt:∀x,x∈u→x < B
 eq:vl B u=b*s
 dgs:dg B (b*s)=u
theorem top_of {B:Nat} (hB:2≤B) {b:Nat} (hn:2≤(dg B b).length):∃t,(dg B b)[(dg B b).length - 1]? = some t∧t≠0∧t < B∧B ^ ((dg B b).length - 1)*t≤b∧b < B ^ ((dg B b).length - 1)*(t+1):=by
 have hc:=cn_dg hB b;have hv:=vl_dg hB b;generalize hl:dg B b=l at hc hv hn ⊢;have hlast:l.length - 1 < l.length:=by omega
 have ht:l[l.length - 1]≠0:=fun e=>by
  apply hc.2;rw [List.getLast?_eq_getElem?,List.getElem?_eq_getElem hlast,e]
 have htB:l[l.length - 1] < B:=hc.1 _ (by simp);have h1:=vl_take_succ (B:=B) hlast;rw [show l.length - 1+1=l.length by omega,List.take_length,hv] at h1;have h2:=vl_lt (B:=B) (l:=l.take (l.length - 1)) fun x hx=>hc.1 x (List.mem_of_mem_take hx);rw [List.length_take,Nat.min_eq_left (by omega)] at h2;refine ⟨l[l.length - 1],List.getElem?_eq_getElem hlast,ht,htB,by omega,?_⟩;rw [Nat.mul_succ];omega
theorem Up.of {B:Nat} (hB:2≤B) {b t s:Nat} (hn:2≤(dg B b).length) (hs:0 < s) (ht:t≠0) (hts:(t+1)*s≤B) (hlo:B ^ ((dg B b).length - 1)*t≤b) (hhi:b < B ^ ((dg B b).length - 1)*(t+1)) :
  Up B b s ((dg B b).length - 2) (dg B (b*s)):=by
 generalize (dg B b).length=n at *;have hpw:B ^ n=B ^ (n - 1)*B:=by rw [←Nat.pow_succ,show (n - 1).succ=n by omega]
 have hup1:b*s < B ^ n:=by
  have h4:=(Nat.mul_lt_mul_right hs).2 hhi;rw [Nat.mul_assoc] at h4;have h5:=Nat.mul_le_mul_left (B ^ (n - 1)) hts;omega
 have hlo1:B ^ (n - 1)≤b*s:=by
  have h3:B ^ (n - 1)*1≤B ^ (n - 1)*t:=Nat.mul_le_mul_left _ (by omega);have h4:=Nat.mul_le_mul_left b hs;rw [Nat.mul_one] at h4;omega
 have hlen:(dg B (b*s)).length=n:=by
  apply Nat.le_antisymm (dg_len_le hB hup1);apply Nat.le_of_not_lt;intro hlt;have h3:=lt_of_len hB (b*s);have h4:=Nat.pow_le_pow_right (by omega:0 < B) (by omega:(dg B (b*s)).length≤n - 1);omega
 have hc2:=cn_dg hB (b*s);refine ⟨by omega,fun e=>?_,hc2.1,vl_dg hB _,rfl⟩;apply hc2.2;rw [List.getLast?_eq_getElem?,hlen];rw [show n - 2+1=n - 1 by omega,gD] at e;rw [List.getElem?_eq_getElem (by omega)] at e ⊢;exact congrArg some e
theorem up_of {b:Nat} (hn:2≤(dg B32 b).length):∃t,(dg B32 b)[(dg B32 b).length - 1]? = some t∧bl t≤32∧1≤bl t∧t < 4294967296∧Up B32 b (2 ^ (32 - bl t)) ((dg B32 b).length - 2) (dg B32 (b*2 ^ (32 - bl t))):=by
 obtain ⟨t,hg,ht,htB,hlo,hhi⟩:=top_of b32 hn
 have hb1:bl t≤32:=bl_le htB
 have hb2:1≤bl t:=by
  apply Nat.pos_of_ne_zero;intro e
  have:=lt_bl t
  rw [e] at this;simp at this;exact ht this
 refine ⟨t,hg,hb1,hb2,htB,.of b32 hn (Nat.pow_pos (by decide)) ht ?_ hlo hhi⟩
 have h3:=lt_bl t
 have h4:=Nat.mul_le_mul_right (2 ^ (32 - bl t)) (Nat.succ_le_of_lt h3)
 rw [←Nat.pow_add,show bl t+(32 - bl t)=32 by omega] at h4
 exact h4
theorem DivI.init {B:Nat} (hB:2≤B) {a b s n:Nat} {u:List Nat} (hs:0 < s) (hu:Up B b s n u) (hb:(dg B b).length=n+2) (hpa:a*s < B ^ ((dg B a).length+1)) (hlab:n+2≤(dg B a).length) :
  DivI B (a*s) (vl B u) ((dg B a).length+1) (n+2) ((dg B a).length - (n+1),pad B ((dg B a).length+1) (a*s),[]):=by
 refine ⟨pad_len hB hpa,pad_lt hB _ _,by simp;omega,by simp,?_,by simp [vl_pad hB,vl]⟩;simp only;have h1:=vl_split (B:=B) (pad B ((dg B a).length+1) (a*s)) ((dg B a).length - (n+1)) (by rw [pad_len hB hpa];omega);rw [vl_pad hB] at h1;have h2:=(Nat.mul_lt_mul_right hs).2 (lt_of_len hB a);have h3:B ^ (n+1)≤b:=by
  apply Nat.le_of_not_lt;intro h;have:=dg_len_le hB h;omega
 have h4:B ^ (dg B a).length=B ^ ((dg B a).length - (n+1))*B ^ (n+1):=by rw [←Nat.pow_add,show (dg B a).length - (n+1)+(n+1)=(dg B a).length by omega]
 rw [h4] at h2;have h5:=Nat.mul_le_mul_right s (Nat.mul_le_mul_left (B ^ ((dg B a).length - (n+1))) h3);rw [Nat.mul_assoc,Nat.mul_assoc] at h5;rw [Nat.mul_assoc] at h2;rw [hu.eq];apply Nat.lt_of_mul_lt_mul_left (a:=B ^ ((dg B a).length - (n+1)));omega
theorem DivI.dig {B:Nat} (hB:2≤B) {A b k n N:Nat} {u:List Nat} {s:Nat×List Nat×List Nat} (hu:Up B b k n u) (h:DivI B A (vl B u) N (n+2) s) (h0:0 < s.1) :
  Dig B (B ^ n) (u.getD (n+1) 0) (u.getD n 0) (vl B (u.take n)) (s.2.1.getD (s.1 - 1+(n+2)) 0*B+s.2.1.getD (s.1 - 1+(n+1)) 0) (s.2.1.getD (s.1 - 1+n) 0)
   (vl B (((s.2.1.drop (s.1 - 1)).take (n+3)).take n)) (vl B ((s.2.1.drop (s.1 - 1)).take (n+3))) (vl B u):=by
 obtain ⟨g1,g2,g3,g4,g5,g6⟩:=h;have hW:((s.2.1.drop (s.1 - 1)).take (n+3)).length=n+3:=by rw [List.length_take,List.length_drop];omega
 have:=Dig.of (B:=B) (W:=(s.2.1.drop (s.1 - 1)).take (n+3)) (u:=u) hW hu.len (fun x hx=>g2 x (List.mem_of_mem_drop (List.mem_of_mem_take hx))) hu.lt hB hu.top (by
  rw [List.drop_take,List.drop_drop,show s.1 - 1+1=s.1 by omega,show n+3 - 1=n+2 by omega];have:=vl_split (B:=B) (s.2.1.drop s.1) (n+2) (by rw [List.length_drop];omega);omega)
 rw [part_getD (by omega),part_getD (by omega),part_getD (by omega)] at this;exact this
theorem DivI.step {B:Nat} (hB:2≤B) {A V N n j:Nat} {R Q:List Nat} (h:DivI B A V N (n+2) (j+1,R,Q)) (hV:V < B ^ (n+2)) :
  DivI B A V N (n+2) (j,win R j (pad B (n+3) (vl B ((R.drop j).take (n+3)) % V)),vl B ((R.drop j).take (n+3)) / V :: Q):=by
 obtain ⟨g1,g2,g3,g4,g5,g6⟩:=h;simp only at g1 g2 g3 g4 g5 g6;obtain ⟨d1,d2,d3⟩:=div_step (B:=B) hB (R:=R) (i:=j) (n:=n+2) (V:=V) (by omega) g2 hV g5;have hV0:0 < V:=by omega
 have hmod:vl B ((R.drop j).take (n+3)) % V < B ^ (n+3):=Nat.lt_trans (Nat.mod_lt _ hV0) (Nat.lt_of_lt_of_le hV (Nat.pow_le_pow_right (by omega) (by omega)));have hpl:=pad_len hB hmod;obtain ⟨e1,e2,e3⟩:=d3 (pad B (n+3) (vl B ((R.drop j).take (n+3)) % V)) hpl (vl_pad hB _ _);have ew:R.take j++(pad B (n+3) (vl B ((R.drop j).take (n+3)) % V)++R.drop (j+(n+2)+1))=win R j (pad B (n+3) (vl B ((R.drop j).take (n+3)) % V)):=by
  unfold win;rw [hpl];rfl
 rw [ew] at e1 e2 e3;refine ⟨e1.trans g1,win_lt g2 (pad_lt hB _ _),by simp only [List.length_cons];omega,fun x hx=>?_,e2,?_⟩
 ·rcases List.mem_cons.1 hx with rfl | hx
  ·exact Nat.div_lt_of_lt_mul (by rw [Nat.mul_comm];exact d1)
  ·exact g4 x hx
 ·simp only [vl];rw [←g6,←e3,Nat.pow_succ];generalize vl B ((R.drop j).take (n+3)) / V=d;generalize vl B Q=q;generalize B ^ j=p;have:V*(p*(d+B*q))=V*(p*d)+V*(p*B*q):=by grind
  omega
end Go.V
