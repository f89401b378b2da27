/- Part 9: the abstract machine, its soundness, contracts of functions. -/
import Derived.Test.YtnohbinebhhlpaaGreatDoorK8
import Derived.Test.YtnohbinebhhlpaaGreatDoorK3
import Derived.Test.YtnohbinebhhlpaaGreatDoorK4
import Derived.Test.YtnohbinebhhlpaaGreatDoorK7
import Derived.Test.YtnohbinebhhlpaaGreatDoorK6
set_option linter.unusedVariables false
set_option linter.unusedSimpArgs false
namespace Go.V
open Go.Proofs Go.RowKit
set_option maxRecDepth 10000
set_option maxHeartbeats 1000000
noncomputable def oneB (p:Mt):Bool:=decide ((clsN p.length (rb p.length (ent p)) p.length).2.length=1)
theorem fn_oneClass (p:Mt) (t:Nat) (hp:MtR p t) (ht:t≤1000000000):Fn Tryz.prog 120 [lM p] [] (B (oneB p)) []:=by
 have c1:=fn_classes p t hp ht;unfold oneB;generalize clsN p.length (rb p.length (ent p)) p.length=z at c1 ⊢;obtain ⟨o,b⟩:=z;dsimp only at c1 ⊢;have hz:((cBo b).length:Int)=b.length:=by rw [cBo_len]
 refine Fn.intro (ks:=[0,2,4]) hty rfl rfl rfl rfl rfl ?_;conv=>whnf
 refine VCall.of_data c1 (ndT fun _=>rfl) ?_;conv=>whnf
 rw [hz];rw [show decide ((b.length:Int)=1)=decide (b.length=1) from decide_eq_decide.2 (by omega)];exact ⟨rfl,trivial,rfl⟩
theorem one_iff {p:Mt} {t:Nat} (hp:MtR p t):oneB p=true↔∀j,j < p.length→(clsN p.length (rb p.length (ent p)) p.length).1.getD j 0=0:=by
 have h:=clsN_ok (r:=rb p.length (ent p)) (fun j _=>rb_self) (fun j k l _ _ _ h1 h2=>rb_trans h1 h2) p.length (Nat.le_refl _)
 have n1:=hp.n1
 unfold oneB
 generalize clsN p.length (rb p.length (ent p)) p.length=z at h ⊢
 obtain ⟨o,b⟩:=z
 dsimp only at h ⊢
 rw [decide_eq_true_eq]
 constructor
 ·intro e j hj
  have h1:=h.done j hj
  have h2:=h.lt j hj
  dsimp only at h1 h2
  omega
 ·intro e
  have h0:=h.lt 0 (by omega)
  have e0:=e 0 (by omega)
  dsimp only at h0
  apply Classical.byContradiction
  intro hne
  obtain ⟨j,hj,h3⟩:=h.used 1 (by dsimp only;omega)
  dsimp only at h3
  have:=e j hj
  omega
theorem fn_sMany (p:Mt) (t:Nat) (hp:MtR p t) (ht:t≤1000000000):Fn Tryz.prog 112 [mP p] [] (B (!oneB p)) []:=by
 have c1:=fn_sClasses p t hp ht;have hio:=one_iff hp;have hol:=clsN_len p.length (rb p.length (ent p)) p.length;have n2:=hp.n2;generalize clsN p.length (rb p.length (ent p)) p.length=z at c1 hio hol;obtain ⟨o,b⟩:=z;dsimp only at c1 hio hol;generalize oneB p=q at hio ⊢;have hz:((cI o).length:Int)=p.length:=by rw [cI_len,hol]
 refine Fn.intro (ks:=[0,2,3,5,14,21]) hty rfl rfl rfl rfl rfl ?_;conv=>whnf
 refine VCall.of_data c1 (ndT fun _=>rfl) ?_;conv=>whnf
 refine VLoop.inv hty (S:=Nat) (fun j=>[(5,I j),(3,.d (.sl (cI o)))]) (fun _=>[]) (fun j=>j≤p.length∧∀k,k < j→o.getD k 0=0) (fun j=>p.length - j) 0 ⟨Nat.zero_le _,fun k h=>by omega⟩ ⟨rfl,rfl,trivial⟩ trivial ?_;rintro j ⟨hj,hk⟩;conv=>whnf
 rw [hz];refine Br.mk (fun h=>?_) (fun h=>?_)
 ·have h:j < p.length:=by simp only [decide_eq_true_eq] at h;omega
  obtain ⟨x,ex⟩:∃x,o.getD j 0=x:=⟨_,rfl⟩;conv=>whnf
  refine ⟨⟨⟨by omega,by rw [cI_len];omega⟩,cI_sz _⟩,?_⟩;conv=>whnf
  refine ⟨_,cI_as (by omega) ex,?_⟩;conv=>whnf
  by_cases hx:x=0
  ·rw [decide_eq_true hx];conv=>whnf
   refine Wr.i64 (y:=((j+1:Nat):Int)) rfl (by omega) (by omega) ?_;conv=>whnf
   refine ⟨j+1,⟨h,fun k hk2=>?_⟩,by show p.length - (j+1) < p.length - j;omega,⟨rfl,rfl,trivial⟩,trivial⟩;by_cases e:k=j
   ·subst e;rw [ex];exact hx
   ·exact hk k (by omega)
  ·have hq:q=false:=by
    cases q with
    | false=>rfl
    | true=>exact absurd (ex▸hio.1 rfl j h) hx
   rw [decide_eq_false hx,hq];conv=>whnf
   exact ⟨rfl,trivial,rfl⟩
 ·have h:j=p.length:=by simp only [decide_eq_false_iff_not] at h;omega
  have hq:q=true:=hio.2 fun k h2=>hk k (by omega);rw [hq];conv=>whnf
  exact ⟨rfl,trivial,rfl⟩
end Go.V
namespace Go.V
open Go.Proofs Go.RowKit
set_option maxRecDepth 10000
set_option maxHeartbeats 1000000
def cmpN (x y:Nat):Int:=if x < y then -1 else if y < x then 1 else 0
theorem fn_cmpI (x y:Nat):Fn Tryz.prog 182 [I x,I y] [] (I (cmpN x y)) []:=by
 have hnan:∀x:Nat,Fn Tryz.prog 212 [I x] [] (B false) []:=fun x=>by
  refine Fn.intro (ks:=[0,2]) hty rfl rfl rfl rfl rfl ?_
  conv=>whnf
  rw [decide_eq_true (rfl:(x:Int)=(x:Int))]
  exact ⟨rfl,trivial,rfl⟩
 refine Fn.intro (ks:=[0,1,4,5,6,11,12,13,16,19]) hty rfl rfl rfl rfl rfl ?_
 conv=>whnf
 refine VCall.of_data (hnan x) (nd _) ?_
 conv=>whnf
 refine VCall.of_data (hnan y) (nd _) ?_
 conv=>whnf
 unfold cmpN
 by_cases h:x < y
 ·rw [decide_eq_true (show (x:Int) < (y:Int) by omega),if_pos h]
  conv=>whnf
  exact ⟨rfl,trivial,rfl⟩
 ·rw [decide_eq_false (show ¬(x:Int) < (y:Int) by omega),if_neg h]
  conv=>whnf
  by_cases h2:y < x
  ·rw [decide_eq_true (show (y:Int) < (x:Int) by omega),if_pos h2]
   conv=>whnf
   exact ⟨rfl,trivial,rfl⟩
  ·rw [decide_eq_false (show ¬(y:Int) < (x:Int) by omega),if_neg h2]
   conv=>whnf
   exact ⟨rfl,trivial,rfl⟩
def lexB:List Nat→List Nat→Bool
 | [],[]=>false
 | [],_ :: _=>true
 | _ :: _,[]=>false
 | x :: a,y :: b=>if x=y then lexB a b else decide (x < y)
def cmpL:List Nat→List Nat→Int
 | [],[]=>0
 | [],_ :: _=>-1
 | _ :: _,[]=>1
 | x :: a,y :: b=>if x=y then cmpL a b else cmpN x y
theorem cmpL_neg:∀a b,cmpL a b < 0↔lexB a b=true
 | [],[]=>by simp [cmpL,lexB]
 | [],_ :: _=>by simp [cmpL,lexB]
 | _ :: _,[]=>by simp [cmpL,lexB]
 | x :: a,y :: b=>by
  unfold cmpL lexB
  by_cases h:x=y
  ·rw [if_pos h,if_pos h];exact cmpL_neg a b
  ·rw [if_neg h,if_neg h,decide_eq_true_eq]
   unfold cmpN
   by_cases h2:x < y
   ·rw [if_pos h2];simp [h2]
   ·rw [if_neg h2,if_pos (by omega)];simp [h2]
theorem drop_at {a:List Nat} {i:Nat} (h:i < a.length):a.drop i=a.getD i 0 :: a.drop (i+1):=by
 rw [List.drop_eq_getElem_cons h,gD,List.getElem?_eq_getElem h];rfl
theorem cmpL_step {a b:List Nat} {i:Nat} (ha:i < a.length) (hb:i < b.length):cmpL (a.drop i) (b.drop i)=if a.getD i 0=b.getD i 0 then cmpL (a.drop (i+1)) (b.drop (i+1)) else cmpN (a.getD i 0) (b.getD i 0):=by
 rw [drop_at ha,drop_at hb];rfl
theorem fn_slCompare (a b:List Nat) (ha:a.length≤1000000) (hb:b.length≤1000000):Fn Tryz.prog 126 [lNs a,lNs b] [] (I (cmpL a b)) []:=by
 have za:((cW .i64 a).length:Int)=a.length:=by rw [cN_len]
 have zb:((cW .i64 b).length:Int)=b.length:=by rw [cN_len]
 refine Fn.intro (ks:=[0,1,4,5,6,7,8,9,10,11,12,19,28,35]) hty rfl rfl rfl rfl rfl ?_;conv=>whnf
 rw [za];refine VLoop.inv hty (S:=Nat) (fun i=>[(11,I i),(10,I a.length),(9,lNs a),(1,lNs b),(0,lNs a)]) (fun _=>[]) (fun i=>i≤a.length∧i≤b.length∧cmpL a b=cmpL (a.drop i) (b.drop i)) (fun i=>a.length - i) 0 ⟨Nat.zero_le _,Nat.zero_le _,rfl⟩ ⟨rfl,rfl,rfl,rfl,rfl,trivial⟩ trivial ?_;rintro i ⟨hi,hib,hc⟩;conv=>whnf
 refine Br.mk (fun h=>?_) (fun h=>?_)
 ·have h:i < a.length:=by simp only [decide_eq_true_eq] at h;omega
  obtain ⟨x,ex⟩:∃x,a.getD i 0=x:=⟨_,rfl⟩;conv=>whnf
  refine ⟨⟨⟨by omega,by omega⟩,cN_sz _⟩,?_⟩;conv=>whnf
  refine ⟨_,cN_as h ex,?_⟩;conv=>whnf
  rw [zb];by_cases hb2:i < b.length
  ·have hs:=cmpL_step h hb2;rw [decide_eq_false (show ¬(b.length:Int)≤(i:Int) by omega)];obtain ⟨y,ey⟩:∃y,b.getD i 0=y:=⟨_,rfl⟩;rw [ex,ey] at hs;conv=>whnf
   refine ⟨⟨⟨by omega,by omega⟩,cN_sz _⟩,?_⟩;conv=>whnf
   refine ⟨_,cN_as hb2 ey,?_⟩;conv=>whnf
   refine VCall.of_data (fn_cmpI x y) (nd _) ?_;conv=>whnf
   by_cases e:x=y
   ·rw [if_pos e] at hs;have e0:cmpN x y=0:=by unfold cmpN;rw [if_neg (by omega),if_neg (by omega)]
    rw [e0];conv=>whnf
    refine Wr.i64 (y:=((i+1:Nat):Int)) rfl (by omega) (by omega) ?_;conv=>whnf
    exact ⟨i+1,⟨h,hb2,by rw [hc,hs]⟩,by show a.length - (i+1) < a.length - i;omega,⟨rfl,rfl,rfl,rfl,rfl,trivial⟩,trivial⟩
   ·rw [if_neg e] at hs;have e0:¬cmpN x y=0:=by unfold cmpN;split;omega;split <;> omega
    rw [decide_eq_false e0];rw [hc,hs];conv=>whnf
    exact ⟨rfl,trivial,rfl⟩
  ·rw [decide_eq_true (show (b.length:Int)≤(i:Int) by omega)];rw [hc,drop_at h,List.drop_eq_nil_of_le (show b.length≤i by omega)];conv=>whnf
   exact ⟨rfl,trivial,rfl⟩
 ·have h:i=a.length:=by simp only [decide_eq_false_iff_not] at h;omega
  rw [List.drop_eq_nil_of_le (by omega:a.length≤i)] at hc;conv=>whnf
  rw [za,zb];by_cases hb2:a.length < b.length
  ·rw [decide_eq_true (show (a.length:Int) < (b.length:Int) by omega),hc,drop_at (by omega:i < b.length)];conv=>whnf
   exact ⟨rfl,trivial,rfl⟩
  ·rw [decide_eq_false (show ¬(a.length:Int) < (b.length:Int) by omega),hc,List.drop_eq_nil_of_le (show b.length≤i by omega)];conv=>whnf
   exact ⟨rfl,trivial,rfl⟩
end Go.V
namespace Go.V
open Go.Proofs Go.RowKit
set_option maxRecDepth 10000
set_option maxHeartbeats 1000000
theorem one_rb {p:Mt} {t:Nat} (hp:MtR p t) (h1:oneB p=true):∀i j,i < p.length→j < p.length→rb p.length (ent p) i j=true:=fun i j hi hj=>by
 have h:=clsN_ok (r:=rb p.length (ent p)) (fun j _=>rb_self) (fun j k l _ _ _ h1 h2=>rb_trans h1 h2) p.length (Nat.le_refl _)
 have e:=(one_iff hp).1 h1
 exact (h.same i j hi hj (by rw [e i hi];exact Int.le_refl 0) (by rw [e i hi,e j hj])).1
theorem one_cl {p:Mt} {t:Nat} (hp:MtR p t) (h1:oneB p=true):∀s,s < p.length→Cl p.length (ent p) s:=fun s hs=>Cl.of fun i hi=>rb_iff.1 (one_rb hp h1 i s hi hs)
theorem one_restO {p:Mt} {t:Nat} (hp:MtR p t) (h1:oneB p=true):∃u,restO p=some u:=by
 have:=hp.n1
 unfold restO
 rw [dif_pos ⟨0,by omega,one_cl hp h1 0 (by omega)⟩]
 exact ⟨_,rfl⟩
theorem one_pos {p:Mt} {t:Nat} (hp:MtR p t) (h1:oneB p=true) {u:List Rat} (hu:restO p=some u):∀i,i < p.length→0 < u.getD i 0:=by
 obtain ⟨s,hs,hc,e⟩:=restO_some hu
 obtain ⟨g1,g2,g3,_⟩:=hp.rest hs hc
 rw [←e] at g1 g2 g3
 obtain ⟨i0,hi0,h0⟩:∃i,i < p.length∧0 < u.getD i 0:=by
  apply Classical.byContradiction
  intro hno
  have h2:∀i,i < p.length→u.getD i 0=0:=fun i hi=>by
   have h3:=g2 i hi
   have h4:¬0 < u.getD i 0:=fun h=>hno ⟨i,hi,h⟩
   grind
  rw [sN_congr (g:=fun _=>(0:Rat)) h2,sN_zero] at g3
  exact absurd g3 (by decide)
 intro j hj
 exact Rc.keep (T:=fun i=>0 < u.getD i 0) (fun i j hi hj h1 h2=>g1.spread hp.sto g2 hi hj h1 h2) hi0 h0 (rb_iff.1 (one_rb hp h1 i0 j hi0 hj))
theorem setW_pos {n:Nat} {u:List Rat} {b:Nat→Bool} (hu:∀i,i < n→0 < u.getD i 0) {i:Nat} (hi:i < n) (hb:b i=true):0 < setW n u b:=by
 have h:=sN_one_le (f:=fun i=>if b i=true then u.getD i 0 else 0) hi (fun k hk=>by
  split
  ·have:=hu k hk;grind
  ·exact Rat.le_refl)
 rw [if_pos hb] at h
 have:=hu i hi
 unfold setW
 grind
def bM (n m i:Nat):Bool:=decide (i < n) && m.testBit i
def bsM (n m:Nat):List Bool:=(List.range n).map (bM n m)
def sM (n m:Nat):List Nat:=(List.range n).filter (bM n m)
theorem bsM_len (n m:Nat):(bsM n m).length=n:=by simp [bsM]
theorem bsM_at (n m:Nat):(fun i=>(bsM n m).getD i false)=bM n m:=by
 funext i
 by_cases h:i < n
 ·exact map_at h
 ·have:(bsM n m).length≤i:=by rw [bsM_len];omega
  rw [gD,List.getElem?_eq_none this];unfold bM;rw [decide_eq_false h]
  rfl
theorem setI_bsM (n m:Nat):setI (bsM n m)=sM n m:=by
 unfold setI sM
 rw [bsM_len]
 show (List.range n).filter (fun i=>(bsM n m).getD i false)=_
 rw [bsM_at]
theorem sM_iff {n m i:Nat}:bM n m i=true↔i∈sM n m:=by
 unfold sM
 rw [List.mem_filter,List.mem_range]
 constructor
 ·intro h
  refine ⟨?_,h⟩
  unfold bM at h
  simp at h
  exact h.1
 ·exact fun h=>h.2
theorem sM_len (n m:Nat):(sM n m).length≤n:=by
 have:=List.length_filter_le (bM n m) (List.range n)
 rwa [List.length_range] at this
theorem bM_ex {n m:Nat} (h1:1≤m) (h2:m < 2 ^ n):∃i,i < n∧bM n m i=true:=by
 obtain ⟨i,hi⟩:=Nat.exists_testBit_of_ne_zero (show m≠0 by omega)
 have hin:i < n:=by
  apply Classical.byContradiction
  intro h
  rw [Nat.testBit_lt_two_pow (Nat.lt_of_lt_of_le h2 (Nat.pow_le_pow_right (by decide) (by omega)))] at hi
  cases hi
 exact ⟨i,hin,by unfold bM;rw [decide_eq_true hin,hi];rfl⟩
theorem sM_ne {n m:Nat} (h1:1≤m) (h2:m < 2 ^ n):sM n m≠[]:=by
 obtain ⟨i,_,h⟩:=bM_ex h1 h2
 intro e
 have:=sM_iff.1 h
 rw [e] at this
 cases this
noncomputable def nrT (p:Mt) (u:List Rat) (S:List Nat×Rat) (m:Nat):List Nat×Rat :=
 if 1 < 2*setW p.length u (bM p.length m) then S
 else if S.1=[]∨setO p.length p u (bM p.length m) / setW p.length u (bM p.length m) < S.2∨(setO p.length p u (bM p.length m) / setW p.length u (bM p.length m)=S.2∧lexB (sM p.length m) S.1=true) then (sM p.length m,setO p.length p u (bM p.length m) / setW p.length u (bM p.length m)) else S
noncomputable def nrM (p:Mt) (u:List Rat):Nat→List Nat×Rat
 | 0=>([],0)
 | k+1=>nrT p u (nrM p u k) (k+1)
theorem nrM_len (p:Mt) (u:List Rat):∀k,(nrM p u k).1.length≤p.length
 | 0=>Nat.zero_le _
 | k+1=>by
  have h:=nrM_len p u k
  show (nrT p u (nrM p u k) (k+1)).1.length≤_
  unfold nrT
  split
  ·exact h
  ·split
   ·exact sM_len _ _
   ·exact h
theorem quot_sz {p:Mt} {u:List Rat} (hp:MtOk p) (h6:p.length≤6) (hu:∀q,q∈u→sz q≤60000000) (b:Nat→Bool):sz (setW p.length u b)≤400000000∧sz (setO p.length p u b)≤3000000000 :=
 ⟨setW_sz h6 hu _ (Nat.le_refl _),setO_sz h6 hu (fun i j hi hj=>hp.ent_sz hi hj) _ (Nat.le_refl _)⟩
theorem nrM_sz {p:Mt} {u:List Rat} (hp:MtOk p) (h6:p.length≤6) (hu:∀q,q∈u→sz q≤60000000) (h0:∀i,i < p.length→0 < u.getD i 0):∀k,k < 2 ^ p.length→sz (nrM p u k).2≤3400000000
 | 0,_=>Nat.le_trans (by decide:sz (0:Rat)≤1) (by decide)
 | k+1,hk=>by
  have h:=nrM_sz hp h6 hu h0 k (by omega)
  obtain ⟨z1,z2⟩:=quot_sz hp h6 hu (bM p.length (k+1))
  obtain ⟨i,hi,hb⟩:=bM_ex (n:=p.length) (m:=k+1) (by omega) hk
  have hw:=setW_pos h0 hi hb
  show sz (nrT p u (nrM p u k) (k+1)).2≤_
  unfold nrT
  split
  ·exact h
  ·split
   ·have:=sz_div (setO p.length p u (bM p.length (k+1))) (b:=setW p.length u (bM p.length (k+1))) (fun e=>by rw [e] at hw;exact absurd hw (by decide))
    dsimp only
    omega
   ·exact h
open Classical in
noncomputable def narrowO (rows:List (List (List UInt8))):Option (List Nat×Rat) :=
 (chainQ rows).bind fun p=>(restO p).bind fun u=>if oneB p=true∧2≤p.length∧p.length≤6∧(nrM p u (2 ^ p.length - 1)).1≠[]∧fitsQ (nrM p u (2 ^ p.length - 1)).2=true then some (nrM p u (2 ^ p.length - 1)) else none
end Go.V
namespace Go.V
section
variable {P:Program} {G:Ctx}
end
end Go.V
namespace Go.V
section
variable {P:Program} {G:Ctx} {κ:Know} {ρ:Place} {t:TL} {l:LL} {a:Act} {w:World}
end
end Go.V
namespace Go.V
open Classical in
theorem VLoop.invE {P:Program} {t:TL} {l:LL} {ty:TypeId→Ty} {ks:List Nat} {b:Code} {Q:Ex→TL→LL→Prop} (hty:TyOk P ty) {S:Type} (T:S→TL) (L:S→LL) (I:S→Prop) (μ:S→Nat) (s0:S) (h0:I s0)
  (hT:entT t (T s0)) (hL:entL l (L s0))
  (round:∀s,I s→vcCode P ty ks b (T s) (L s) fun e t' l'=>match e with
   | .n=>∃s' rs,I s'∧μ s' < μ s∧renAll rs t' l' fun t' l'=>entT t' (T s')∧entL l' (L s')
   | .r=>Q .r t' l'
   | .x i=>Q (.x i) t' l'):VLoop P ty ks b t l Q where
 out:=fun G κ ρ a w hd hr=>by
  let J:Act→World→Nat→Prop:=fun a' w' n=>∃s κ' ρ',μ s=n∧I s∧κ.le κ'∧Rel G κ' ρ' (T s) (L s) a' w'
  let M:Act→World→Nat:=fun a' w'=>if h:∃n,J a' w' n then Classical.choose (least h) else 0
  have hM:∀{a' w'},(∃n,J a' w' n)→J a' w' (M a' w')∧∀m,J a' w' m→M a' w'≤m:=fun {a' w'} h=>by
   have:M a' w'=Classical.choose (least h):=dif_pos h
   rw [this];exact Classical.choose_spec (least h)
  refine wp_loop (fun a' w'=>∃n,J a' w' n) M ?_ ?_
  ·obtain ⟨ρ',_,h⟩:=hr.less (entT_get hT) (entL_get hL)
   exact ⟨_,s0,κ,ρ',rfl,h0,Know.le_refl _,h⟩
  ·intro a1 w1 hJ
   obtain ⟨⟨s,κ1,ρ1,hs,hI,hk1,hr1⟩,_⟩:=hM hJ
   refine Code.wp_mono ?_ (vcCode_sound hty b _ κ1 ρ1 _ _ a1 w1 hd hr1 (round s hI))
   rintro e a2 w2 ⟨x,κ2,ρ2,t2,l2,h1,h2,h3,h4⟩
   cases e with
   | normal =>
    have h1':some Ex.n=some x:=h1
    cases h1'
    obtain ⟨s',rs,g1,g2,g3⟩:=h4
    obtain ⟨t3,l3,ρ3,hr3,hT3,hL3⟩:=renAll_sound (P:=P) g3 h3
    obtain ⟨ρ',_,h⟩:=hr3.less (entT_get hT3) (entL_get hL3)
    have hJ2:J a2 w2 (μ s'):=⟨s',κ2,ρ',rfl,g1,Know.le_trans hk1 h2,h⟩
    have:=(hM ⟨_,hJ2⟩).2 _ hJ2
    exact ⟨⟨_,hJ2⟩,by omega⟩
   | ret=>have h1':some Ex.r=some x:=h1;cases h1';exact ⟨.r,κ2,ρ2,t2,l2,rfl,Know.le_trans hk1 h2,h3,h4⟩
   | exit id=>have h1':some (Ex.x id)=some x:=h1;cases h1';exact ⟨.x id,κ2,ρ2,t2,l2,rfl,Know.le_trans hk1 h2,h3,h4⟩
   | _=>simp [exOf] at h1
end Go.V
namespace Go.V
open Go.Proofs Go.RowKit
set_option maxRecDepth 10000
set_option maxHeartbeats 0
theorem bit_and (m i:Nat) (hm:m < 9223372036854775808) (hi:i≤60):(((BitVec.ofInt 64 (Int.fdiv (m:Int) (2 ^ (min ((i:Int)).toNat 64))) &&& BitVec.ofInt 64 1).toNat:Nat):Int)=if m.testBit i=true then 1 else 0:=by
 rw [Int.toNat_natCast,Nat.min_eq_left (by omega:i≤64)]
 have e1:Int.fdiv (m:Int) (2 ^ i)=((m / 2 ^ i:Nat):Int):=by
  rw [Int.fdiv_eq_ediv_of_nonneg _ (Int.le_of_lt (Int.pow_pos (by decide))),Int.natCast_ediv,Int.natCast_pow]
  rfl
 rw [e1,BitVec.ofInt_natCast,BitVec.toNat_and,BitVec.toNat_ofNat,Nat.mod_eq_of_lt (Nat.lt_of_le_of_lt (Nat.div_le_self _ _) (by omega))]
 rw [show (BitVec.ofInt 64 1).toNat=1 from rfl,Nat.and_one_is_mod,Nat.testBit_eq_decide_div_mod_eq]
 by_cases h:m / 2 ^ i % 2=1
 ·rw [h,if_pos (by rfl)];rfl
 ·rw [if_neg (by simp [h])];omega
theorem shl1 (n:Nat) (h:n≤60):(1*2 ^ (min ((n:Int)).toNat 64):Int)=((2 ^ n:Nat):Int):=by
 rw [Int.toNat_natCast,Nat.min_eq_left (by omega:n≤64),Int.one_mul,Int.natCast_pow];rfl
theorem half_lt (w:Rat):mkRat 1 2 < w↔1 < 2*w:=by
 have:mkRat 1 2=1 / 2:=by rw [Rat.mkRat_eq_div];rfl
 have:mkRat 1 2*2=1:=by grind
 constructor <;> intro h <;> grind
def bsK (n m k:Nat):List Bool:=(List.range k).map (bM n m)++List.replicate (n - k) false
theorem bsK_len {n m k:Nat} (h:k≤n):(bsK n m k).length=n:=by simp [bsK];omega
theorem bsK_zero (n m:Nat):bsK n m 0=List.replicate n false:=by simp [bsK]
theorem bsK_all (n m:Nat):bsK n m n=bsM n m:=by simp [bsK,bsM]
theorem bsK_set {n m k:Nat} (h:k < n):(bsK n m k).set k (bM n m k)=bsK n m (k+1):=by
 unfold bsK
 rw [List.set_append_right _ _ (by simp),List.range_succ,List.map_append,List.append_assoc]
 congr 1
 rw [List.length_map,List.length_range,Nat.sub_self,show n - k=(n - (k+1))+1 by omega,List.replicate_succ,List.set_cons_zero]
 rfl
def bV:List Nat→AV
 | []=>.d (.s (.slice none 0 0))
 | _ :: l=>.ls 201 0 (l.length+1) 1
def bO:List Nat→LL
 | []=>[]
 | x :: l=>[(201,.row true 1 (cW .i64 (x :: l)))]
noncomputable def narA (o:Option (List Nat×Rat)):List Nat×List UInt8×Bool:=match o with
 | some s=>(s.1,toldT s.2,true)
 | none=>([],[],false)
noncomputable def narX (o:Option (List Nat×Rat)):AV:=match o with
 | some s=>.tup [.ls 0 0 s.1.length 1,Str (toldT s.2),B true]
 | none=>.tup [.d (.sl []),Str [],B false]
noncomputable def narL (o:Option (List Nat×Rat)):LL:=match o with
 | some s=>[(0,.row true 1 (cW .i64 s.1))]
 | none=>[]
theorem lend_N {id:Nat} {l:LL} {s:List Nat} {m:Nat} (h:lget id l = .row true 1 (cW .i64 s)) (hm:s.length=m):lend1 l (.ls id 0 m 1) (lNs s):=by
 subst hm
 unfold lend1
 simp only [h]
 exact ⟨trivial,by rw [cN_len];omega,by rw [List.drop_zero,List.take_of_length_le (by rw [cN_len];exact Nat.le_refl _)]⟩
theorem nrM_at {p:Mt} {u:List Rat} {m:Nat} (h:1≤m):nrM p u m=nrT p u (nrM p u (m - 1)) m:=by
 obtain ⟨k,rfl⟩:∃k,m=k+1:=⟨m - 1,by omega⟩
 rfl
theorem fn_NarrowOf (rows:List (List (List UInt8))) (hi:ChIn rows):Fn Tryz.prog 49 [chI rows] [] (narX (narrowO rows)) (narL (narrowO rows)):=by
 have c1:=fn_restWeights rows hi;refine Fn.intro (ks:=[0,1,2,3,4,5,6,7,8,9,10,11,12,13,14,15,16,17,18,19,38,47,54,55,56,77,101,114]) hty rfl rfl rfl rfl rfl ?_;conv=>whnf
 cases h:chainQ rows with
 | none =>
  have e:narrowO rows=none:=by unfold narrowO;rw [h];rfl
  rw [e];rw [h] at c1;replace c1:Fn Tryz.prog 108 [chI rows] [] (.tup [lM [],lQ [],B false]) []:=c1;refine VCall.of_data c1 (ndT fun _=>rfl) ?_;conv=>whnf
  exact ⟨rfl,rfl,trivial,rfl⟩
 | some p =>
  have hp:=chainQ_ok h;rw [h] at c1;replace c1:Fn Tryz.prog 108 [chI rows] [] (.tup [lM p,lQ ((restO p).getD []),B (restO p).isSome]) []:=c1;cases hu:restO p with
  | none =>
   have e:narrowO rows=none:=by unfold narrowO;rw [h];show (restO p).bind _=none;rw [hu];rfl
   rw [e];rw [hu] at c1;replace c1:Fn Tryz.prog 108 [chI rows] [] (.tup [lM p,lQ [],B false]) []:=c1;refine VCall.of_data c1 (ndT fun _=>rfl) ?_;conv=>whnf
   exact ⟨rfl,rfl,trivial,rfl⟩
  | some u =>
   have e:narrowO rows=if oneB p=true∧2≤p.length∧p.length≤6∧(nrM p u (2 ^ p.length - 1)).1≠[]∧fitsQ (nrM p u (2 ^ p.length - 1)).2=true then some (nrM p u (2 ^ p.length - 1)) else none:=by
    unfold narrowO;rw [h];show (restO p).bind _=_;rw [hu];rfl
   rw [hu] at c1;replace c1:Fn Tryz.prog 108 [chI rows] [] (.tup [lM p,lQ u,B true]) []:=c1;have c2:=fn_oneClass p 9602 hp.toR (by decide);have c3:=fn_in p.length 2 6;rw [inB] at c3;have hz:((cM p).length:Int)=p.length:=by rw [cM_len]
   have hpos:=fun h1=>one_pos hp.toR h1 hu;have hul:=restO_len hu;rw [e];clear e;generalize oneB p=ob at c2 hpos ⊢;refine VCall.of_data c1 (ndT fun _=>rfl) ?_;conv=>whnf
   refine VCall.of_data c2 (nd _) ?_;conv=>whnf
   cases ob with
   | false =>
    rw [if_neg (fun h=>by cases h.1)];exact ⟨rfl,rfl,trivial,rfl⟩
   | true =>
    have hpos:=hpos rfl;conv=>whnf
    rw [hz];refine VCall.of_data c3 (nd _) ?_;conv=>whnf
    by_cases hn:2≤p.length∧p.length≤6
    case neg =>
     rw [decide_eq_false (by omega),if_neg (fun h=>hn ⟨h.2.1,h.2.2.1⟩)];exact ⟨rfl,rfl,trivial,rfl⟩
    obtain ⟨hn2,h6⟩:=hn;have hsu:∀q,q∈u→sz q≤60000000:=by
     obtain ⟨s,hs,hc,e⟩:=restO_some hu;rw [e];exact hp.rest_sz6 h6 hs hc
    have hNs:=nrM_sz hp h6 hsu hpos;have hNl:=nrM_len p u;have hN:2 ^ p.length≤64:=Nat.pow_le_pow_right (n:=2) (by decide) h6;have hN1:1 < 2 ^ p.length:=Nat.one_lt_two_pow (by omega);have k0:=fn_whole 0 (by decide) (by decide);have h0:((0:Int):Rat)=(nrM p u (1 - 1)).2:=rfl;rw [h0] at k0;have kn1:=fn_natOf 1 (by decide);have kn2:=fn_natOf 2 (by decide);have kl:=fn_lowest false 1 2 (by decide) (by decide) (by decide);have hsH:sz (mkRat (sgn false 1) 2)≤100:=Nat.le_trans (sz_mkRat (by decide)) (by decide);have hH:∀w,mkRat (sgn false 1) 2 < w↔1 < 2*w:=half_lt;generalize mkRat (sgn false 1) 2=H at kl hsH hH;rw [decide_eq_true (by omega)];conv=>whnf
    refine VCall.of_data k0 (ndA fun k=>rfl) ?_;conv=>whnf
    refine VCall.of_data kn1 (nd _) ?_;conv=>whnf
    refine VCall.of_data kn2 (nd _) ?_;conv=>whnf
    refine VCall.of_data kl (ndA fun k=>rfl) ?_;conv=>whnf
    refine VLoop.invE hty (S:=Nat) (fun m=>[(11,I m),(10,.lp 10 0),(9,.lp 9 0),(8,bV (nrM p u (m - 1)).1),(6,lQ u),(5,lM p)])
     (fun m=>(10,.box true [B (ng H),nI (tp H),nI H.den]) :: (9,.box true [B (ng (nrM p u (m - 1)).2),nI (tp (nrM p u (m - 1)).2),nI (nrM p u (m - 1)).2.den]) :: bO (nrM p u (m - 1)).1) (fun m=>1≤m∧m≤2 ^ p.length) (fun m=>2 ^ p.length - m) 1 ⟨Nat.le_refl _,by omega⟩
     ⟨rfl,rfl,rfl,rfl,rfl,rfl,trivial⟩ ⟨rfl,rfl,trivial⟩ ?_
    rintro m ⟨hm1,hm2⟩;have hT:=nrM_at (p:=p) (u:=u) hm1;have hNs:=hNs (m - 1) (by omega);have hNl:=hNl (m - 1);generalize eS:nrM p u (m - 1)=S at hT hNs hNl ⊢;obtain ⟨L,q⟩:=S;dsimp only at hNs hNl ⊢;cases L with
    | nil =>
     conv=>whnf
     rw [hz];refine ⟨by omega,?_⟩;conv=>whnf
     refine Wr.i64 (y:=((2 ^ p.length:Nat):Int)) (shl1 _ (by omega)) (by omega) (by omega) ?_;conv=>whnf
     refine Br.mk (fun h2=>?_) (fun h2=>?_)
     rotate_left
     ·have h2:m=2 ^ p.length:=by simp only [decide_eq_false_iff_not] at h2;omega
      have c4:=fn_told q (by omega);rw [h2] at eS;rw [eS,if_neg (fun h=>h.2.2.2.1 rfl)];conv=>whnf
      refine VCall.of_data c4 (ndT fun _=>rfl) ?_;conv=>whnf
      exact ⟨rfl,rfl,trivial,rfl⟩
     have h2:m < 2 ^ p.length:=by simp only [decide_eq_true_eq] at h2;omega
     conv=>whnf
     rw [hz];refine ⟨⟨by omega,by omega,by show (p.length:Int)*1≤2 ^ 47;omega,by omega⟩,?_⟩;conv=>whnf
     refine VLoop.inv hty (S:=Nat) (fun k=>[(55,I k),(54,I p.length),(12,.ls 52 0 p.length 1),(11,I m),(10,.lp 10 0),(9,.lp 9 0),(8,.d (.s (.slice none 0 0))),(6,lQ u),(5,lM p)])
      (fun k=>[(52,.row true 1 (cBo (bsK p.length m k))),(10,.box true [B (ng H),nI (tp H),nI H.den]),(9,.box true [B (ng q),nI (tp q),nI q.den])]) (fun k=>k≤p.length) (fun k=>p.length - k) 0 (Nat.zero_le _)
      ⟨rfl,?_,?_,rfl,rfl,rfl,rfl,rfl,rfl,trivial⟩ ⟨ ?_,rfl,rfl,trivial⟩ ?_
     ·show I ((p.length:Nat):Int)=I p.length
      rfl
     ·show AV.ls 52 0 ((p.length:Int)).toNat 1=AV.ls 52 0 p.length 1;rw [Int.toNat_natCast]
     ·show Ob.row true 1 (List.replicate (p.length:Int).toNat [C.s (.bool false)])=_;rw [Int.toNat_natCast,bsK_zero,cBo_rep]
     intro k hk;conv=>whnf
     refine Br.mk (fun h4=>?_) (fun h4=>?_)
     ·have h4:k < p.length:=by simp only [decide_eq_true_eq] at h4;omega
      have hbit:=bit_and m k (by omega) (by omega);have hbm:decide ((if m.testBit k=true then (1:Int) else 0)=1)=bM p.length m k:=by unfold bM;rw [decide_eq_true h4];cases m.testBit k <;> rfl
      have hbl:=bsK_len (n:=p.length) (m:=m) (k:=k) (by omega);have hst:=bsK_set (n:=p.length) (m:=m) (k:=k) h4;obtain ⟨c,ec⟩:∃c,(bsK p.length m k).getD k false=c:=⟨_,rfl⟩;conv=>whnf
      refine ⟨by omega,?_⟩;conv=>whnf
      refine Wr.i64 (y:=if m.testBit k=true then 1 else 0) hbit (by split <;> decide) (by split <;> decide) ?_;conv=>whnf
      rw [hbm];conv=>whnf
      refine ⟨⟨by omega,by omega⟩,?_⟩;conv=>whnf
      refine ⟨_,cBo_as (by omega) ec,?_⟩;conv=>whnf
      refine Wr.i64 (y:=((k+1:Nat):Int)) rfl (by omega) (by omega) ?_;conv=>whnf
      refine ⟨k+1,h4,by show p.length - (k+1) < p.length - k;omega,⟨rfl,rfl,rfl,rfl,rfl,rfl,rfl,rfl,rfl,trivial⟩,  ?_,rfl,rfl,trivial⟩;show Ob.row true 1 ((cBo _).set k [.s (.bool _)])=_;rw [cBo_set,hst]
     have h4:k=p.length:=by simp only [decide_eq_false_iff_not] at h4;omega
     have cn:=fn_narrow p u (bsM p.length m) hp h6 hul (bsM_len _ _) hsu;have co:=fn_setOf (bsM p.length m) (by rw [bsM_len];omega);obtain ⟨z1,z2⟩:=quot_sz hp h6 hsu (bM p.length m);obtain ⟨i0,hi0,hb0⟩:=bM_ex hm1 h2;have hw:=setW_pos hpos hi0 hb0;have hsl:=sM_len p.length m;have hsn:=sM_ne hm1 h2;have hbsl:=bsM_len p.length m;have hT:=hT;unfold nrT at hT;dsimp only at hT;rw [bsM_at] at cn;rw [setI_bsM] at co;rw [h4,bsK_all];obtain ⟨bs,ebs⟩:∃bs,bsM p.length m=bs:=⟨_,rfl⟩;obtain ⟨w,ew⟩:∃w,setW p.length u (bM p.length m)=w:=⟨_,rfl⟩;obtain ⟨o,eo⟩:∃o,setO p.length p u (bM p.length m)=o:=⟨_,rfl⟩;obtain ⟨sm,esm⟩:∃s,sM p.length m=s:=⟨_,rfl⟩;rw [ebs] at cn co hbsl ⊢;rw [ew] at cn z1 hw hT;rw [eo] at cn z2 hT;rw [esm] at co hsl hsn hT;obtain ⟨y1,l1,e1⟩:∃y l,sm=y :: l:=List.exists_cons_of_ne_nil hsn;rw [e1] at co hsl hT;conv=>whnf
     refine VCall.frzD 52 (n:=p.length) (sz:=1) (D:=cBo bs) ⟨rfl,rfl⟩ (by rw [cBo_len];exact hbsl) (by repeat first | exact trivial | refine ⟨⟨rfl,rfl,rfl⟩,?_⟩ | refine ⟨trivial,?_⟩) (by repeat first | exact trivial | refine ⟨⟨rfl,rfl,rfl⟩,?_⟩ | refine ⟨trivial,?_⟩) ?_;refine VCall.of_data cn (ndT fun _=>rfl) ?_;conv=>whnf
     have cc:=fn_rcmp w H (by omega) (by omega);have hrc:=rcI_pos w H;rw [decide_eq_decide] at hrc;refine VCall.of_data cc (nd _) ?_;conv=>whnf
     by_cases h7:H < w
     ·rw [decide_eq_true (hrc.2 h7)];rw [if_pos ((hH w).1 h7)] at hT;conv=>whnf
      refine Wr.i64 (y:=((m+1:Nat):Int)) rfl (by omega) (by omega) ?_;conv=>whnf
      refine ⟨m+1,[],⟨by omega,h2⟩,by show 2 ^ p.length - (m+1) < 2 ^ p.length - m;omega,?_⟩;rw [show nrM p u (m+1 - 1)=([],q) from hT];exact ⟨⟨rfl,rfl,rfl,rfl,rfl,rfl,trivial⟩,rfl,rfl,  trivial⟩
     rw [decide_eq_false (fun e=>h7 (hrc.1 e))];rw [if_neg (fun e=>h7 ((hH w).2 e))] at hT;have hw0:w≠0:=fun e=>by rw [e] at hw;exact absurd hw (by decide)
     have zd:=sz_div o hw0;have cv:=fn_rover o w (by omega) (by omega) hw0;obtain ⟨d,ed⟩:∃d,o / w=d:=⟨_,rfl⟩;rw [ed] at zd cv hT;have cq:=fn_rcmp d q (by omega) (by omega);have hq1:=rcI_neg (p:=d) (q:=q);have hq2:=rcI_zero (p:=d) (q:=q);conv=>whnf
     refine VCall.of_data cv (ndA fun k=>rfl) ?_;conv=>whnf
     refine VCall.of_ls (k:=82) co rfl ?_;conv=>whnf
     refine VCall.of_data cq (nd _) ?_;conv=>whnf
     rw [if_pos (.inl rfl)] at hT;refine VDraw.go hmo hty 3 [] rfl ?_;conv=>whnf
     refine Wr.i64 (y:=((m+1:Nat):Int)) rfl (by omega) (by omega) ?_;conv=>whnf
     refine ⟨m+1,[(82,201)],⟨by omega,h2⟩,by show 2 ^ p.length - (m+1) < 2 ^ p.length - m;omega,?_⟩;rw [show nrM p u (m+1 - 1)=(y1 :: l1,d) from hT];exact ⟨rfl,⟨rfl,rfl,rfl,rfl,rfl,rfl,trivial⟩,rfl,rfl,rfl,trivial⟩
    | cons y L =>
     conv=>whnf
     rw [hz];refine ⟨by omega,?_⟩;conv=>whnf
     refine Wr.i64 (y:=((2 ^ p.length:Nat):Int)) (shl1 _ (by omega)) (by omega) (by omega) ?_;conv=>whnf
     refine Br.mk (fun h2=>?_) (fun h2=>?_)
     rotate_left
     ·have h2:m=2 ^ p.length:=by simp only [decide_eq_false_iff_not] at h2;omega
      have c4:=fn_told q (by omega);rw [h2] at eS;rw [eS];obtain ⟨f,ef⟩:∃f,fitsQ q=f:=⟨_,rfl⟩;rw [ef] at c4 ⊢;conv=>whnf
      refine VCall.of_data c4 (ndT fun _=>rfl) ?_;conv=>whnf
      cases f with
      | false =>
       rw [if_neg (fun h=>by cases h.2.2.2.2)];conv=>whnf
       exact ⟨rfl,rfl,trivial,rfl⟩
      | true =>
       rw [if_pos ⟨rfl,hn2,h6,List.cons_ne_nil _ _,rfl⟩];conv=>whnf
       exact ⟨⟨rfl,rfl,rfl,rfl,rfl,rfl⟩,[],rfl,rfl,rfl,trivial,rfl⟩
     have h2:m < 2 ^ p.length:=by simp only [decide_eq_true_eq] at h2;omega
     conv=>whnf
     rw [hz];refine ⟨⟨by omega,by omega,by show (p.length:Int)*1≤2 ^ 47;omega,by omega⟩,?_⟩;conv=>whnf
     refine VLoop.inv hty (S:=Nat) (fun k=>[(55,I k),(54,I p.length),(12,.ls 52 0 p.length 1),(11,I m),(10,.lp 10 0),(9,.lp 9 0),(8,.ls 201 0 (L.length+1) 1),(6,lQ u),(5,lM p)])
      (fun k=>[(201,.row true 1 (cW .i64 (y :: L))),(52,.row true 1 (cBo (bsK p.length m k))),(10,.box true [B (ng H),nI (tp H),nI H.den]),(9,.box true [B (ng q),nI (tp q),nI q.den])]) (fun k=>k≤p.length) (fun k=>p.length - k) 0 (Nat.zero_le _)
      ⟨rfl,?_,?_,rfl,rfl,rfl,rfl,rfl,rfl,trivial⟩ ⟨rfl,?_,rfl,rfl,trivial⟩ ?_
     ·show I ((p.length:Nat):Int)=I p.length
      rfl
     ·show AV.ls 52 0 ((p.length:Int)).toNat 1=AV.ls 52 0 p.length 1;rw [Int.toNat_natCast]
     ·show Ob.row true 1 (List.replicate (p.length:Int).toNat [C.s (.bool false)])=_;rw [Int.toNat_natCast,bsK_zero,cBo_rep]
     intro k hk;conv=>whnf
     refine Br.mk (fun h4=>?_) (fun h4=>?_)
     ·have h4:k < p.length:=by simp only [decide_eq_true_eq] at h4;omega
      have hbit:=bit_and m k (by omega) (by omega);have hbm:decide ((if m.testBit k=true then (1:Int) else 0)=1)=bM p.length m k:=by unfold bM;rw [decide_eq_true h4];cases m.testBit k <;> rfl
      have hbl:=bsK_len (n:=p.length) (m:=m) (k:=k) (by omega);have hst:=bsK_set (n:=p.length) (m:=m) (k:=k) h4;obtain ⟨c,ec⟩:∃c,(bsK p.length m k).getD k false=c:=⟨_,rfl⟩;conv=>whnf
      refine ⟨by omega,?_⟩;conv=>whnf
      refine Wr.i64 (y:=if m.testBit k=true then 1 else 0) hbit (by split <;> decide) (by split <;> decide) ?_;conv=>whnf
      rw [hbm];conv=>whnf
      refine ⟨⟨by omega,by omega⟩,?_⟩;conv=>whnf
      refine ⟨_,cBo_as (by omega) ec,?_⟩;conv=>whnf
      refine Wr.i64 (y:=((k+1:Nat):Int)) rfl (by omega) (by omega) ?_;conv=>whnf
      refine ⟨k+1,h4,by show p.length - (k+1) < p.length - k;omega,⟨rfl,rfl,rfl,rfl,rfl,rfl,rfl,rfl,rfl,trivial⟩,rfl,?_,rfl,rfl,trivial⟩;show Ob.row true 1 ((cBo _).set k [.s (.bool _)])=_;rw [cBo_set,hst]
     have h4:k=p.length:=by simp only [decide_eq_false_iff_not] at h4;omega
     have cn:=fn_narrow p u (bsM p.length m) hp h6 hul (bsM_len _ _) hsu;have co:=fn_setOf (bsM p.length m) (by rw [bsM_len];omega);obtain ⟨z1,z2⟩:=quot_sz hp h6 hsu (bM p.length m);obtain ⟨i0,hi0,hb0⟩:=bM_ex hm1 h2;have hw:=setW_pos hpos hi0 hb0;have hsl:=sM_len p.length m;have hsn:=sM_ne hm1 h2;have hbsl:=bsM_len p.length m;have hT:=hT;unfold nrT at hT;dsimp only at hT;rw [bsM_at] at cn;rw [setI_bsM] at co;rw [h4,bsK_all];obtain ⟨bs,ebs⟩:∃bs,bsM p.length m=bs:=⟨_,rfl⟩;obtain ⟨w,ew⟩:∃w,setW p.length u (bM p.length m)=w:=⟨_,rfl⟩;obtain ⟨o,eo⟩:∃o,setO p.length p u (bM p.length m)=o:=⟨_,rfl⟩;obtain ⟨sm,esm⟩:∃s,sM p.length m=s:=⟨_,rfl⟩;rw [ebs] at cn co hbsl ⊢;rw [ew] at cn z1 hw hT;rw [eo] at cn z2 hT;rw [esm] at co hsl hsn hT;obtain ⟨y1,l1,e1⟩:∃y l,sm=y :: l:=List.exists_cons_of_ne_nil hsn;rw [e1] at co hsl hT;conv=>whnf
     refine VCall.frzD 52 (n:=p.length) (sz:=1) (D:=cBo bs) ⟨rfl,rfl⟩ (by rw [cBo_len];exact hbsl) (by repeat first | exact trivial | refine ⟨⟨rfl,rfl,rfl⟩,?_⟩ | refine ⟨trivial,?_⟩) (by repeat first | exact trivial | refine ⟨⟨rfl,rfl,rfl⟩,?_⟩ | refine ⟨trivial,?_⟩) ?_;refine VCall.of_data cn (ndT fun _=>rfl) ?_;conv=>whnf
     have cc:=fn_rcmp w H (by omega) (by omega);have hrc:=rcI_pos w H;rw [decide_eq_decide] at hrc;refine VCall.of_data cc (nd _) ?_;conv=>whnf
     by_cases h7:H < w
     ·rw [decide_eq_true (hrc.2 h7)];rw [if_pos ((hH w).1 h7)] at hT;conv=>whnf
      refine Wr.i64 (y:=((m+1:Nat):Int)) rfl (by omega) (by omega) ?_;conv=>whnf
      refine ⟨m+1,[],⟨by omega,h2⟩,by show 2 ^ p.length - (m+1) < 2 ^ p.length - m;omega,?_⟩;rw [show nrM p u (m+1 - 1)=((y :: L),q) from hT];exact ⟨⟨rfl,rfl,rfl,rfl,rfl,rfl,trivial⟩,rfl,rfl,rfl,trivial⟩
     rw [decide_eq_false (fun e=>h7 (hrc.1 e))];rw [if_neg (fun e=>h7 ((hH w).2 e))] at hT;have hw0:w≠0:=fun e=>by rw [e] at hw;exact absurd hw (by decide)
     have zd:=sz_div o hw0;have cv:=fn_rover o w (by omega) (by omega) hw0;obtain ⟨d,ed⟩:∃d,o / w=d:=⟨_,rfl⟩;rw [ed] at zd cv hT;have cq:=fn_rcmp d q (by omega) (by omega);have hq1:=rcI_neg (p:=d) (q:=q);have hq2:=rcI_zero (p:=d) (q:=q);conv=>whnf
     refine VCall.of_data cv (ndA fun k=>rfl) ?_;conv=>whnf
     refine VCall.of_ls (k:=82) co rfl ?_;conv=>whnf
     refine VCall.of_data cq (nd _) ?_;conv=>whnf
     have cs:=fn_slCompare (y1 :: l1) (y :: L) (by omega) (by omega);have hcn:=cmpL_neg (y1 :: l1) (y :: L);by_cases h8:d < q
     ·rw [decide_eq_true (hq1.2 h8)];rw [if_pos (.inr (.inl h8))] at hT;conv=>whnf
      refine VDraw.go hmo hty 3 [] rfl ?_;conv=>whnf
      refine Wr.i64 (y:=((m+1:Nat):Int)) rfl (by omega) (by omega) ?_;conv=>whnf
      refine ⟨m+1,[(82,201)],⟨by omega,h2⟩,by show 2 ^ p.length - (m+1) < 2 ^ p.length - m;omega,?_⟩;rw [show nrM p u (m+1 - 1)=(y1 :: l1,d) from hT];exact ⟨rfl,⟨rfl,rfl,rfl,rfl,rfl,rfl,trivial⟩,rfl,rfl,rfl,trivial⟩
     rw [decide_eq_false (fun e=>h8 (hq1.1 e))];conv=>whnf
     by_cases h9:d=q
     ·rw [decide_eq_true (hq2.2 h9)];conv=>whnf
      refine VCall.lend cs ⟨lend_N rfl rfl,lend_N rfl rfl,trivial⟩ rfl ?_;conv=>whnf
      by_cases h10:lexB (y1 :: l1) (y :: L)=true
      ·rw [decide_eq_true (hcn.2 h10)];rw [if_pos (.inr (.inr ⟨h9,h10⟩))] at hT;conv=>whnf
       refine VDraw.go hmo hty 3 [] rfl ?_;conv=>whnf
       refine Wr.i64 (y:=((m+1:Nat):Int)) rfl (by omega) (by omega) ?_;conv=>whnf
       refine ⟨m+1,[(82,201)],⟨by omega,h2⟩,by show 2 ^ p.length - (m+1) < 2 ^ p.length - m;omega,?_⟩;rw [show nrM p u (m+1 - 1)=(y1 :: l1,d) from hT];exact ⟨rfl,⟨rfl,rfl,rfl,rfl,rfl,rfl,trivial⟩,rfl,rfl,rfl,trivial⟩
      ·rw [decide_eq_false (fun e=>h10 (hcn.1 e))];rw [if_neg (fun e=>by rcases e with e | e | e;cases e;exact h8 e;exact h10 e.2)] at hT;conv=>whnf
       refine Wr.i64 (y:=((m+1:Nat):Int)) rfl (by omega) (by omega) ?_;conv=>whnf
       refine ⟨m+1,[],⟨by omega,h2⟩,by show 2 ^ p.length - (m+1) < 2 ^ p.length - m;omega,?_⟩;rw [show nrM p u (m+1 - 1)=((y :: L),q) from hT];exact ⟨⟨rfl,rfl,rfl,rfl,rfl,rfl,trivial⟩,rfl,rfl,rfl,trivial⟩
     ·rw [decide_eq_false (fun e=>h9 (hq2.1 e))];rw [if_neg (fun e=>by rcases e with e | e | e;cases e;exact h8 e;exact h9 e.1)] at hT;conv=>whnf
      refine Wr.i64 (y:=((m+1:Nat):Int)) rfl (by omega) (by omega) ?_;conv=>whnf
      refine ⟨m+1,[],⟨by omega,h2⟩,by show 2 ^ p.length - (m+1) < 2 ^ p.length - m;omega,?_⟩;rw [show nrM p u (m+1 - 1)=((y :: L),q) from hT];exact ⟨⟨rfl,rfl,rfl,rfl,rfl,rfl,trivial⟩,rfl,rfl,rfl,trivial⟩
end Go.V
namespace Go.V
open Go.Proofs Go.RowKit
set_option maxRecDepth 10000
set_option maxHeartbeats 1000000
theorem lexB_step {a b:List Nat} {i:Nat} (ha:i < a.length) (hb:i < b.length):lexB (a.drop i) (b.drop i)=if a.getD i 0=b.getD i 0 then lexB (a.drop (i+1)) (b.drop (i+1)) else decide (a.getD i 0 < b.getD i 0):=by
 rw [drop_at ha,drop_at hb];rfl
theorem lexB_end {a b:List Nat} {i:Nat} (ha:i≤a.length) (hb:i≤b.length) (h:¬(i < a.length∧i < b.length)):lexB (a.drop i) (b.drop i)=decide (a.length < b.length):=by
 by_cases h1:i < a.length
 ·have:b.length≤i:=by omega
  rw [drop_at h1,List.drop_eq_nil_of_le this,decide_eq_false (by omega)];rfl
 ·rw [List.drop_eq_nil_of_le (show a.length≤i by omega)];by_cases h2:i < b.length
  ·rw [drop_at h2,decide_eq_true (by omega)];rfl
  ·rw [List.drop_eq_nil_of_le (show b.length≤i by omega),decide_eq_false (by omega)];rfl
theorem fn_sBefore (a b:List Nat) (ha:a.length≤1000000) (hb:b.length≤1000000):Fn Tryz.prog 119 [lNs a,lNs b] [] (B (lexB a b)) []:=by
 have za:((cW .i64 a).length:Int)=a.length:=by rw [cN_len]
 have zb:((cW .i64 b).length:Int)=b.length:=by rw [cN_len]
 refine Fn.intro (ks:=[0,1,4,5,15,26]) hty rfl rfl rfl rfl rfl ?_;conv=>whnf
 refine VLoop.inv hty (S:=Nat) (fun i=>[(5,I i),(1,lNs b),(0,lNs a)]) (fun _=>[]) (fun i=>i≤a.length∧i≤b.length∧lexB a b=lexB (a.drop i) (b.drop i)) (fun i=>a.length - i) 0 ⟨Nat.zero_le _,Nat.zero_le _,rfl⟩ ⟨rfl,rfl,rfl,trivial⟩ trivial ?_;rintro i ⟨hi,hib,hc⟩;conv=>whnf
 rw [za];by_cases h:i < a.length∧i < b.length
 ·rw [decide_eq_true (show (i:Int) < (a.length:Int) by omega)];conv=>whnf
  rw [zb,decide_eq_true (show (i:Int) < (b.length:Int) by omega)];have hs:=lexB_step h.1 h.2;obtain ⟨x,ex⟩:∃x,a.getD i 0=x:=⟨_,rfl⟩;obtain ⟨y,ey⟩:∃y,b.getD i 0=y:=⟨_,rfl⟩;rw [ex,ey] at hs;conv=>whnf
  refine VDraw.go hmo hty 9 [] rfl ?_;conv=>whnf
  refine ⟨⟨⟨by omega,by omega⟩,cN_sz _⟩,?_⟩;conv=>whnf
  refine ⟨_,cN_as h.1 ex,?_⟩;conv=>whnf
  refine ⟨⟨⟨by omega,by omega⟩,cN_sz _⟩,?_⟩;conv=>whnf
  refine ⟨_,cN_as h.2 ey,?_⟩;conv=>whnf
  by_cases e:x=y
  ·rw [decide_eq_true (show (x:Int)=(y:Int) by omega)];rw [if_pos e] at hs;conv=>whnf
   refine Wr.i64 (y:=((i+1:Nat):Int)) rfl (by omega) (by omega) ?_;conv=>whnf
   exact ⟨i+1,⟨h.1,h.2,by rw [hc,hs]⟩,by show a.length - (i+1) < a.length - i;omega,⟨rfl,rfl,rfl,trivial⟩,trivial⟩
  ·rw [decide_eq_false (show ¬(x:Int)=(y:Int) by omega)];rw [if_neg e] at hs;rw [hc,hs];conv=>whnf
   refine VDraw.go hmo hty 10 [] rfl ?_;conv=>whnf
   refine ⟨⟨⟨by omega,by omega⟩,cN_sz _⟩,?_⟩;conv=>whnf
   refine ⟨_,cN_as h.1 ex,?_⟩;conv=>whnf
   refine ⟨⟨⟨by omega,by omega⟩,cN_sz _⟩,?_⟩;conv=>whnf
   refine ⟨_,cN_as h.2 ey,?_⟩;conv=>whnf
   rw [show decide ((x:Int) < (y:Int))=decide (x < y) from decide_eq_decide.2 (by omega)];exact ⟨rfl,trivial,rfl⟩
 ·have he:=lexB_end hi hib h;rw [hc,he];by_cases h1:i < a.length
  ·rw [decide_eq_true (show (i:Int) < (a.length:Int) by omega)];conv=>whnf
   rw [zb,decide_eq_false (show ¬(i:Int) < (b.length:Int) by omega)];conv=>whnf
   rw [za,zb];rw [show decide ((a.length:Int) < (b.length:Int))=decide (a.length < b.length) from decide_eq_decide.2 (by omega)];exact ⟨rfl,trivial,rfl⟩
  ·rw [decide_eq_false (show ¬(i:Int) < (a.length:Int) by omega)];conv=>whnf
   rw [za,zb];rw [show decide ((a.length:Int) < (b.length:Int))=decide (a.length < b.length) from decide_eq_decide.2 (by omega)];exact ⟨rfl,trivial,rfl⟩
end Go.V
namespace Go.V
open Go.Proofs Go.RowKit
set_option maxRecDepth 10000
set_option maxHeartbeats 0
theorem narrowO_no {rows:List (List (List UInt8))} {p:Mt} (h:chainQ rows=some p) (hn:¬(oneB p=true∧2≤p.length∧p.length≤6)):narrowO rows=none:=by
 unfold narrowO
 rw [h]
 show (restO p).bind _=none
 cases restO p with
 | none=>rfl
 | some u =>
  show (if _ then _ else none)=none
  rw [if_neg (fun e=>hn ⟨e.1,e.2.1,e.2.2.1⟩)]
theorem filt_step {b:Nat→Bool} (k:Nat):(List.range (k+1)).filter b=(List.range k).filter b++if b k=true then [k] else []:=by
 rw [List.range_succ,List.filter_append]
 congr 1
 cases h:b k <;> simp [h]
theorem fn_sNarrowOf (rows:List (List (List UInt8))) (hi:ChIn rows):Fn Tryz.prog 48 [chI rows] [] (.tup [lNs (narA (narrowO rows)).1,Str (narA (narrowO rows)).2.1,B (narA (narrowO rows)).2.2]) []:=by
 refine Fn.intro (ks:=[0,1,2,3,4,5,6,7,9,10,11,12,13,14,15,16,17,18,39,52,60,68,83,104,118]) hty rfl rfl rfl rfl rfl ?_;conv=>whnf
 have c1:=fn_l03Parse rows hi.l hi.r hi.s;refine VCall.thaw 1 (cs:=[.sl (cTT rows)]) rfl ?_;cases h:chainQ rows with
 | none =>
  rw [h] at c1;refine VCall.of_data c1 (ndT fun _=>rfl) ?_;conv=>whnf
  rw [show narrowO rows=none by unfold narrowO;rw [h];rfl];exact ⟨rfl,rfl,trivial,rfl⟩
 | some p =>
  have hp:=chainQ_ok h;rw [h] at c1;replace c1:Fn Tryz.prog 100 [chP rows] [] (.tup [mS p,B true]) []:=c1;refine VCall.of_data c1 (ndT fun _=>rfl) ?_;conv=>whnf
  have hz:((cMS p).length:Int)=p.length:=by rw [cMS_len]
  have hn0:=narrowO_no h;rw [hz];by_cases hn2:p.length < 2
  ·rw [decide_eq_true (show (p.length:Int) < 2 by omega),hn0 (fun e=>by omega)];conv=>whnf
   exact ⟨rfl,rfl,trivial,rfl⟩
  rw [decide_eq_false (show ¬(p.length:Int) < 2 by omega)];conv=>whnf
  rw [hz];by_cases h6:p.length≤6
  case neg =>
   rw [decide_eq_true (show (6:Int) < (p.length:Int) by omega),hn0 (fun e=>by omega)];conv=>whnf
   exact ⟨rfl,rfl,trivial,rfl⟩
  rw [decide_eq_false (show ¬(6:Int) < (p.length:Int) by omega)];conv=>whnf
  have cm:=fn_sMany p 9602 hp.toR (by decide);refine VCall.thaw 5 (cs:=[.sl (cMS p)]) rfl ?_;refine VCall.of_data cm (nd _) ?_;conv=>whnf
  cases ho:oneB p with
  | false =>
   rw [hn0 (fun e=>by rw [ho] at e;cases e.1)];exact ⟨rfl,rfl,trivial,rfl⟩
  | true =>
   obtain ⟨u,hu⟩:=one_restO hp.toR ho;have hpos:=one_pos hp.toR ho hu;have hul:=restO_len hu;have e:narrowO rows=if oneB p=true∧2≤p.length∧p.length≤6∧(nrM p u (2 ^ p.length - 1)).1≠[]∧fitsQ (nrM p u (2 ^ p.length - 1)).2=true then some (nrM p u (2 ^ p.length - 1)) else none:=by
    unfold narrowO;rw [h];show (restO p).bind _=_;rw [hu];rfl
   rw [ho] at e;have c2:=fn_sRestO p 9602 hp.toR (by decide);rw [hu] at c2;replace c2:Fn Tryz.prog 102 [mP p] [] (.tup [lS u,B true]) []:=c2;have hsu:∀q,q∈u→sz q≤60000000:=by
    obtain ⟨s,hs,hc,e⟩:=restO_some hu;rw [e];exact hp.rest_sz6 h6 hs hc
   have hNs:=nrM_sz hp h6 hsu hpos;have hNl:=nrM_len p u;have hN:2 ^ p.length≤64:=Nat.pow_le_pow_right (n:=2) (by decide) h6;have hN1:1 < 2 ^ p.length:=Nat.one_lt_two_pow (by omega);have k0:=fn_sNone;have h0:(0:Rat)=(nrM p u (1 - 1)).2:=rfl;rw [h0] at k0;rw [e];clear e;conv=>whnf
   refine VCall.of_data c2 (ndT fun _=>rfl) ?_;conv=>whnf
   refine VCall.of_data k0 (ndA fun k=>rfl) ?_;conv=>whnf
   refine VLoop.frzD 44 (n:=0) (sz:=1) (D:=[]) ⟨rfl,rfl⟩ rfl (by repeat first | exact trivial | refine ⟨⟨rfl,rfl,rfl⟩,?_⟩ | refine ⟨trivial,?_⟩) ?_;refine VLoop.inv hty (S:=Nat) (fun m=>[(11,I m),(10,.lp 10 0),(9,lNs (nrM p u (m - 1)).1),(7,lS u),(5,mP p)])
    (fun m=>[(10,.box true [B (ng (nrM p u (m - 1)).2),nS (tp (nrM p u (m - 1)).2),nS (nrM p u (m - 1)).2.den])]) (fun m=>1≤m∧m≤2 ^ p.length) (fun m=>2 ^ p.length - m) 1 ⟨Nat.le_refl _,by omega⟩
    ⟨rfl,rfl,rfl,rfl,rfl,trivial⟩ ⟨rfl,trivial⟩ ?_
   rintro m ⟨hm1,hm2⟩;have hT:=nrM_at (p:=p) (u:=u) hm1;have hNs:=hNs (m - 1) (by omega);have hNl:=hNl (m - 1);generalize eS:nrM p u (m - 1)=S at hT hNs hNl ⊢;obtain ⟨L,q⟩:=S;dsimp only at hNs hNl ⊢;have hzL:((cW .i64 L).length:Int)=L.length:=by rw [cN_len]
   conv=>whnf
   rw [hz];refine Wr.n64 (n:=p.length) rfl (by omega) ?_;conv=>whnf
   refine ⟨by omega,?_⟩;conv=>whnf
   refine Wr.i64 (y:=((2 ^ p.length:Nat):Int)) (shl1 _ (by omega)) (by omega) (by omega) ?_;conv=>whnf
   refine Br.mk (fun h2=>?_) (fun h2=>?_)
   rotate_left
   ·have h2:m=2 ^ p.length:=by simp only [decide_eq_false_iff_not] at h2;omega
    have c4:=fn_sGive q (by omega);rw [h2] at eS;rw [eS];obtain ⟨f,ef⟩:∃f,fitsQ q=f:=⟨_,rfl⟩;rw [ef] at c4 ⊢;conv=>whnf
    refine VCall.of_data c4 (ndT fun _=>rfl) ?_;conv=>whnf
    rw [hzL];by_cases hL:L=[]
    ·rw [decide_eq_true (show (L.length:Int)=0 by rw [hL];rfl),if_neg (fun h=>h.2.2.2.1 hL)];conv=>whnf
     exact ⟨rfl,rfl,trivial,rfl⟩
    ·have hL0:L.length≠0:=fun e=>hL (List.length_eq_zero_iff.1 e);rw [decide_eq_false (show ¬(L.length:Int)=0 by omega)];cases f with
     | false =>
      rw [if_neg (fun h=>by cases h.2.2.2.2)];conv=>whnf
      exact ⟨rfl,rfl,trivial,rfl⟩
     | true =>
      rw [if_pos ⟨rfl,by omega,h6,hL,rfl⟩];conv=>whnf
      exact ⟨rfl,rfl,rfl,trivial,rfl⟩
   have h2:m < 2 ^ p.length:=by simp only [decide_eq_true_eq] at h2;omega
   conv=>whnf
   refine VLoop.ren 55 72 rfl ?_;refine VLoop.inv hty (S:=Nat) (fun i=>[(13,I i),(12,.ls 72 0 ((List.range i).filter (bM p.length m)).length 1),(11,I m),(10,.lp 10 0),(9,lNs L),(7,lS u),(5,mP p)])
    (fun i=>[(72,.row true 1 (cW .i64 ((List.range i).filter (bM p.length m)))),(10,.box true [B (ng q),nS (tp q),nS q.den])]) (fun i=>i≤p.length) (fun i=>p.length - i) 0 (Nat.zero_le _)
    ⟨rfl,rfl,rfl,rfl,rfl,rfl,rfl,trivial⟩ ⟨rfl,rfl,trivial⟩ ?_
   intro i hi2;conv=>whnf
   rw [hz];refine Br.mk (fun h4=>?_) (fun h4=>?_)
   ·have h4:i < p.length:=by simp only [decide_eq_true_eq] at h4;omega
    have hbit:=bit_and m i (by omega) (by omega);have hbm:decide ((if m.testBit i=true then (1:Int) else 0)=1)=bM p.length m i:=by unfold bM;rw [decide_eq_true h4];cases m.testBit i <;> rfl
    have es:=filt_step (b:=bM p.length m) i;have hle:=filt_le (bM p.length m) i;obtain ⟨F,eF⟩:∃F,(List.range i).filter (bM p.length m)=F:=⟨_,rfl⟩;rw [eF] at es hle ⊢;conv=>whnf
    refine Wr.n64 (n:=i) rfl (by omega) ?_;conv=>whnf
    refine ⟨by omega,?_⟩;conv=>whnf
    refine Wr.i64 (y:=if m.testBit i=true then 1 else 0) hbit (by split <;> decide) (by split <;> decide) ?_;conv=>whnf
    rw [hbm];obtain ⟨b,eb⟩:∃b,bM p.length m i=b:=⟨_,rfl⟩;rw [eb] at es ⊢;cases b with
    | false =>
     rw [if_neg (by decide),List.append_nil] at es;conv=>whnf
     refine Wr.i64 (y:=((i+1:Nat):Int)) rfl (by omega) (by omega) ?_;conv=>whnf
     refine ⟨i+1,h4,by show p.length - (i+1) < p.length - i;omega,⟨rfl,?_,rfl,rfl,rfl,rfl,rfl,trivial⟩,?_,rfl,trivial⟩
     ·rw [es];rfl
     ·rw [es];rfl
    | true =>
     rw [if_pos rfl] at es;conv=>whnf
     refine Sub.full rfl ?_;conv=>whnf
     refine Sub.full (by rw [cN_len]) ?_;conv=>whnf
     refine ⟨by show (F.length+1)*8≤_;omega,?_⟩;conv=>whnf
     refine Wr.i64 (y:=((i+1:Nat):Int)) rfl (by omega) (by omega) ?_;conv=>whnf
     refine ⟨i+1,h4,by show p.length - (i+1) < p.length - i;omega,⟨rfl,?_,rfl,rfl,rfl,rfl,rfl,trivial⟩,?_,rfl,trivial⟩
     ·rw [es];show AV.ls 72 0 (F.length+1) 1=AV.ls 72 0 (F++[i]).length 1;rw [List.length_append,List.length_singleton]
     ·rw [es];show Ob.row true 1 (cW .i64 F++[[.s (.int .i64 i)]])=_;rw [cN_app]
   have h4:i=p.length:=by simp only [decide_eq_false_iff_not] at h4;omega
   have hsl:=sM_len p.length m;have co:=fn_sOut p u (bM p.length m) (sM p.length m) hp h6 hul (fun i=>sM_iff) (by omega) hsu;obtain ⟨z1,z2⟩:=quot_sz hp h6 hsu (bM p.length m);obtain ⟨i0,hi0,hb0⟩:=bM_ex hm1 h2;have hw:=setW_pos hpos hi0 hb0;have hsn:=sM_ne hm1 h2;unfold nrT at hT;dsimp only at hT;rw [h4,show (List.range p.length).filter (bM p.length m)=sM p.length m from rfl];obtain ⟨w,ew⟩:∃w,setW p.length u (bM p.length m)=w:=⟨_,rfl⟩;obtain ⟨o,eo⟩:∃o,setO p.length p u (bM p.length m)=o:=⟨_,rfl⟩;obtain ⟨sm,esm⟩:∃s,sM p.length m=s:=⟨_,rfl⟩;rw [ew] at co z1 hw hT;rw [eo] at co z2 hT;rw [esm] at co hsl hsn hT ⊢;have k1:=fn_sOne;have k2:=fn_sInt 2 (by decide) (by decide);rw [show ((2:Int):Rat)=2 from rfl] at k2;have s2:sz (2:Rat)≤10:=by decide
   have k3:=fn_sTimes 2 w (by omega);have z3:=sz_mul 2 w;have k4:=fn_sLess2 1 (2*w) (by decide) (by omega);have hw0:w≠0:=fun e=>by rw [e] at hw;exact absurd hw (by decide)
   have zd:=sz_div o hw0;have cv:=fn_sOver o w (by omega) hw0;obtain ⟨d,ed⟩:∃d,o / w=d:=⟨_,rfl⟩;rw [ed] at zd cv hT;have cl:=fn_sLess2 d q (by omega) (by omega);have ce:=fn_sEqual d q (by omega) (by omega);have cb:=fn_sBefore sm L (by omega) (by omega);conv=>whnf
   refine VCall.frzD 72 (n:=sm.length) (sz:=1) (D:=cW .i64 sm) ⟨rfl,rfl⟩ (by rw [cN_len]) (by repeat first | exact trivial | refine ⟨⟨rfl,rfl,rfl⟩,?_⟩ | refine ⟨trivial,?_⟩) (by repeat first | exact trivial | refine ⟨⟨rfl,rfl,rfl⟩,?_⟩ | refine ⟨trivial,?_⟩) ?_;refine VCall.of_data co (ndT fun _=>rfl) ?_;conv=>whnf
   refine VDraw.go hmo hty 5 [] rfl ?_;conv=>whnf
   refine QCall.of_data k1 (ndA fun k=>rfl) ?_;conv=>whnf
   refine QCall.of_data k2 (ndA fun k=>rfl) ?_;conv=>whnf
   refine QCall.of_data k3 (ndA fun k=>rfl) ?_;conv=>whnf
   refine QCall.of_data k4 (nd _) ?_;conv=>whnf
   by_cases h7:1 < 2*w
   ·rw [decide_eq_true h7];rw [if_pos h7] at hT;conv=>whnf
    refine Wr.i64 (y:=((m+1:Nat):Int)) rfl (by omega) (by omega) ?_;conv=>whnf
    refine ⟨m+1,⟨by omega,h2⟩,by show 2 ^ p.length - (m+1) < 2 ^ p.length - m;omega,⟨rfl,rfl,?_,rfl,rfl,trivial⟩,?_,trivial⟩
    ·show _=lNs (nrM p u m).1;rw [hT];rfl
    ·show _=Ob.box true [B (ng (nrM p u m).2),nS (tp (nrM p u m).2),nS (nrM p u m).2.den];rw [hT];rfl
   rw [decide_eq_false h7];rw [if_neg h7] at hT;conv=>whnf
   refine VCall.of_data cv (ndA fun k=>rfl) ?_;conv=>whnf
   rw [hzL];by_cases hL:L=[]
   ·rw [decide_eq_true (show (L.length:Int)=0 by rw [hL];rfl)];rw [if_pos (.inl hL)] at hT;conv=>whnf
    refine Wr.i64 (y:=((m+1:Nat):Int)) rfl (by omega) (by omega) ?_;conv=>whnf
    refine ⟨m+1,⟨by omega,h2⟩,by show 2 ^ p.length - (m+1) < 2 ^ p.length - m;omega,⟨rfl,rfl,?_,rfl,rfl,trivial⟩,?_,trivial⟩
    ·show _=lNs (nrM p u m).1;rw [hT];rfl
    ·show _=Ob.box true [B (ng (nrM p u m).2),nS (tp (nrM p u m).2),nS (nrM p u m).2.den];rw [hT];rfl
   have hL0:L.length≠0:=fun e=>hL (List.length_eq_zero_iff.1 e);rw [decide_eq_false (show ¬(L.length:Int)=0 by omega)];conv=>whnf
   refine VCall.of_data cl (nd _) ?_;conv=>whnf
   by_cases h8:d < q
   ·rw [decide_eq_true h8];rw [if_pos (.inr (.inl h8))] at hT;conv=>whnf
    refine Wr.i64 (y:=((m+1:Nat):Int)) rfl (by omega) (by omega) ?_;conv=>whnf
    refine ⟨m+1,⟨by omega,h2⟩,by show 2 ^ p.length - (m+1) < 2 ^ p.length - m;omega,⟨rfl,rfl,?_,rfl,rfl,trivial⟩,?_,trivial⟩
    ·show _=lNs (nrM p u m).1;rw [hT];rfl
    ·show _=Ob.box true [B (ng (nrM p u m).2),nS (tp (nrM p u m).2),nS (nrM p u m).2.den];rw [hT];rfl
   rw [decide_eq_false h8];conv=>whnf
   refine VCall.of_data ce (nd _) ?_;conv=>whnf
   by_cases h9:d=q
   ·rw [decide_eq_true h9];conv=>whnf
    refine VCall.of_data cb (nd _) ?_;conv=>whnf
    by_cases h10:lexB sm L=true
    ·rw [h10];rw [if_pos (.inr (.inr ⟨h9,h10⟩))] at hT;conv=>whnf
     refine Wr.i64 (y:=((m+1:Nat):Int)) rfl (by omega) (by omega) ?_;conv=>whnf
     refine ⟨m+1,⟨by omega,h2⟩,by show 2 ^ p.length - (m+1) < 2 ^ p.length - m;omega,⟨rfl,rfl,?_,rfl,rfl,trivial⟩,?_,trivial⟩
     ·show _=lNs (nrM p u m).1;rw [hT];rfl
     ·show _=Ob.box true [B (ng (nrM p u m).2),nS (tp (nrM p u m).2),nS (nrM p u m).2.den];rw [hT];rfl
    ·rw [Bool.eq_false_iff.2 h10];rw [if_neg (fun e=>by rcases e with e | e | e;exact hL e;exact h8 e;exact h10 e.2)] at hT;conv=>whnf
     refine Wr.i64 (y:=((m+1:Nat):Int)) rfl (by omega) (by omega) ?_;conv=>whnf
     refine ⟨m+1,⟨by omega,h2⟩,by show 2 ^ p.length - (m+1) < 2 ^ p.length - m;omega,⟨rfl,rfl,?_,rfl,rfl,trivial⟩,?_,trivial⟩
     ·show _=lNs (nrM p u m).1;rw [hT];rfl
     ·show _=Ob.box true [B (ng (nrM p u m).2),nS (tp (nrM p u m).2),nS (nrM p u m).2.den];rw [hT];rfl
   ·rw [decide_eq_false h9];rw [if_neg (fun e=>by rcases e with e | e | e;exact hL e;exact h8 e;exact h9 e.1)] at hT;conv=>whnf
    refine Wr.i64 (y:=((m+1:Nat):Int)) rfl (by omega) (by omega) ?_;conv=>whnf
    refine ⟨m+1,⟨by omega,h2⟩,by show 2 ^ p.length - (m+1) < 2 ^ p.length - m;omega,⟨rfl,rfl,?_,rfl,rfl,trivial⟩,?_,trivial⟩
    ·show _=lNs (nrM p u m).1;rw [hT];rfl
    ·show _=Ob.box true [B (ng (nrM p u m).2),nS (tp (nrM p u m).2),nS (nrM p u m).2.den];rw [hT];rfl
end Go.V
namespace Go.V
open Go.Proofs Go.RowKit
set_option maxRecDepth 10000
set_option maxHeartbeats 0
theorem narrowO_in {rows:Tss} {s:List Nat×Rat} (h:narrowO rows=some s):s.1.length≤6:=by
 unfold narrowO at h
 cases hc:chainQ rows with
 | none=>rw [hc] at h;cases h
 | some p =>
  rw [hc] at h
  replace h:(restO p).bind _=some s:=h
  cases hu:restO p with
  | none=>rw [hu] at h;cases h
  | some u =>
   rw [hu] at h
   replace h:(if _ then _ else none)=some s:=h
   split at h
   ·rename_i hh
    cases h
    have:=nrM_len p u (2 ^ p.length - 1)
    omega
   ·cases h
theorem law_narrowOf (rows:Tss) (h0:rows.length < 2 ^ 47) (hr0:∀r,r∈rows→r.length < 2 ^ 47) (hs0:∀r,r∈rows→∀x,x∈r→x.length < 2 ^ 47):Fn Tryz.prog 13 [chI rows] [] (B true) []:=by
 have c0:=fn_szChain rows 1000000 (by omega) (fun r hr=>by have:=hr0 r hr;omega) (fun r hr x hx=>by have:=hs0 r hr x hx;omega) (by decide) (by decide);refine Fn.intro (ks:=[0,1,2,3,4,5,6,7,8,9,10,11,12,13,14,15,16,21,50,55,76,84,87,108,113,116]) hty rfl rfl rfl rfl rfl ?_;conv=>whnf
 refine VCall.of_data c0 (nd _) ?_;obtain ⟨m,em⟩:∃m,szRR 1000000 rows=m:=⟨_,rfl⟩;rw [em];conv=>whnf
 refine Br.mk (fun h=>?_) (fun h=>?_)
 ·conv=>whnf
  exact ⟨rfl,trivial,rfl⟩
 ·have h:0≤m:=by simpa using h
  have hi:=szRR_in (em▸h) (by decide);have hsum:=szRR_sum (em▸h);have cs:=fn_sNarrowOf rows hi;have ci:=fn_NarrowOf rows hi;have cx:=fn_markChain (allR rows) (lensR rows) rows.length 101 (by rw [lensR_len];omega) (by rw [lensR_len,allR_len]) hi.l (fun i hi2=>by
   obtain ⟨e1,e2⟩:=lens_at hi2;have hm:rows.getD i []∈rows:=getD_mem hi2;rw [e1,e2];exact ⟨by simp [withRoomT],hi.r _ hm⟩) (by rw [lens_take];omega)
  rw [lens_take] at cx;obtain ⟨z1,ez1⟩:∃z:Int,((101+(rows.map List.length).sum:Nat):Int)=z:=⟨_,rfl⟩;have hz1:0≤z1:=by omega
  rw [ez1] at cx;have dz1:decide (z1 < 0)=false:=decide_eq_false (by omega);cases hc:narrowO rows with
  | none =>
   rw [hc] at cs ci;obtain ⟨r2,er⟩:∃r:List UInt8,r=[]:=⟨_,rfl⟩;replace cs:Fn Tryz.prog 48 [chI rows] [] (.tup [.d (.sl []),Str [],B false]) []:=cs;replace ci:Fn Tryz.prog 49 [chI rows] [] (.tup [.d (.sl []),Str [],B false]) []:=ci;rw [show Str []=Str r2 by rw [er]] at cs ci;have ce:=fn_eqT [] (by decide);have cg:=fn_markI0 101;have ch:=fn_heldI 0 101 (by decide) (by decide);replace ce:Fn Tryz.prog 50 [.d (.sl []),.d (.sl [])] [] (B true) []:=ce;replace ch:Fn Tryz.prog 52 [.d (.sl []),I 101] [] (I 101) []:=ch;conv=>whnf
   refine VCall.of_data (fn_toChaind rows false hi) (ndA fun k=>rfl) ?_;conv=>whnf
   refine VCall.of_data cs (ndT fun _=>rfl) ?_;conv=>whnf
   refine VCall.of_fn (k:=30) (fn_toChain rows hi) namesCh rfl ?_;conv=>whnf
   refine VCall.lend ci ⟨lend_ch rfl,trivial⟩ rfl ?_;conv=>whnf
   refine VCall.of_data ce (nd _) ?_;conv=>whnf
   rw [show ((⟨r2.toArray⟩:ByteArray).toList == (⟨r2.toArray⟩:ByteArray).toList)=true by simp];conv=>whnf
   refine VDraw.canon [(55,B false),(10,B false),(9,Str r2),(8,.d (.sl [])),(7,.lp 7 0),(6,B false),(5,Str r2),(4,.d (.sl [])),(1,.lp 1 0)] [(7,.box true [.ls 30 0 rows.length 1]),(30,laidM rows),(1,.box true [.d (.sl (cTT rows))])] ?_ ?_
   ·refine VDraw.go hmo hty 0 [] rfl ?_;conv=>whnf
    refine ⟨?_,?_⟩
    ·
     conv=>whnf
     refine VCall.of_fn (k:=53) (fn_toChain rows hi) namesCh rfl ?_;conv=>whnf
     refine VCall.parN [(1000000,30),(1000001,53)] (fn_intactChain rows hi) ⟨⟨⟨rfl,rfl,rfl,rfl⟩,trivial⟩,⟨⟨rfl,rfl,rfl,rfl⟩,trivial⟩,trivial⟩ ⟨⟨rfl,rfl⟩,⟨rfl,rfl⟩,trivial⟩ rfl rfl rfl rfl ?_;conv=>whnf
     exact ⟨⟨rfl,rfl,rfl,rfl,rfl,rfl,rfl,rfl,rfl,trivial⟩,⟨rfl,rfl,rfl,trivial⟩⟩
    ·conv=>whnf
     refine ⟨?_,?_⟩
     ·
      conv=>whnf
      refine VCall.of_fn (k:=53) (fn_toChain rows hi) namesCh rfl ?_;conv=>whnf
      refine VCall.parN [(1000000,30),(1000001,53)] (fn_intactChain rows hi) ⟨⟨⟨rfl,rfl,rfl,rfl⟩,trivial⟩,⟨⟨rfl,rfl,rfl,rfl⟩,trivial⟩,trivial⟩ ⟨⟨rfl,rfl⟩,⟨rfl,rfl⟩,trivial⟩ rfl rfl rfl rfl ?_;conv=>whnf
      exact ⟨⟨rfl,rfl,rfl,rfl,rfl,rfl,rfl,rfl,rfl,trivial⟩,⟨rfl,rfl,rfl,trivial⟩⟩
     ·
      conv=>whnf
      refine VCall.of_fn (k:=53) (fn_toChain rows hi) namesCh rfl ?_;conv=>whnf
      refine VCall.parN [(1000000,30),(1000001,53)] (fn_intactChain rows hi) ⟨⟨⟨rfl,rfl,rfl,rfl⟩,trivial⟩,⟨⟨rfl,rfl,rfl,rfl⟩,trivial⟩,trivial⟩ ⟨⟨rfl,rfl⟩,⟨rfl,rfl⟩,trivial⟩ rfl rfl rfl rfl ?_;conv=>whnf
      exact ⟨⟨rfl,rfl,rfl,rfl,rfl,rfl,rfl,rfl,rfl,trivial⟩,⟨rfl,rfl,rfl,trivial⟩⟩
   conv=>whnf
   refine VCall.parN [(1000000,30)] cx ⟨⟨⟨rfl,rfl,rfl,rfl⟩,trivial⟩,rfl,trivial⟩ ⟨⟨rfl,rfl⟩,trivial⟩ rfl rfl rfl rfl ?_;conv=>whnf
   rw [dz1];conv=>whnf
   refine VCall.of_data ce (nd _) ?_;conv=>whnf
   rw [show ((⟨r2.toArray⟩:ByteArray).toList == (⟨r2.toArray⟩:ByteArray).toList)=true by simp];conv=>whnf
   refine VCall.of_data cg (nd _) ?_;conv=>whnf
   refine VCall.of_data ch (nd _) ?_;conv=>whnf
   refine VCall.of_data (fn_toChaind rows true hi) (ndA fun k=>rfl) ?_;conv=>whnf
   refine VCall.of_data ci (ndT fun _=>rfl) ?_;conv=>whnf
   refine VCall.of_data ce (nd _) ?_;conv=>whnf
   rw [show ((⟨r2.toArray⟩:ByteArray).toList == (⟨r2.toArray⟩:ByteArray).toList)=true by simp];conv=>whnf
   refine VCall.of_data ch (nd _) ?_;conv=>whnf
   exact ⟨rfl,trivial,rfl⟩
  | some s =>
   rw [hc] at cs ci;have hl6:=narrowO_in hc;obtain ⟨st,q⟩:=s;replace cs:Fn Tryz.prog 48 [chI rows] [] (.tup [.d (.sl (cW .i64 st)),Str (toldT q),B true]) []:=cs;replace ci:Fn Tryz.prog 49 [chI rows] [] (.tup [.ls 0 0 st.length 1,Str (toldT q),B true]) [(0,.row true 1 (cW .i64 st))]:=ci;rw [show st.length=(st.map Int.ofNat).length by simp] at ci;rw [cW_cI] at cs ci;have hl7:(st.map Int.ofNat).length≤6:=by simpa using hl6
   generalize toldT q=r2 at cs ci;generalize st.map Int.ofNat=ys at cs ci hl7;have c2:=ci.freezeT (by rw [cI_len];omega) rfl;rw [show (List.drop 0 (cI ys)).take ys.length=cI ys by rw [List.drop_zero,List.take_of_length_le (by rw [cI_len];omega)]] at c2;have ce:=fn_eqT ys (by omega);have cg:=fn_markI ys ys.length 101 (Nat.le_refl _) (by omega) (by omega);have ch:=fn_heldI ys.length 101 (by omega) (by omega);obtain ⟨z2,ez2⟩:∃z:Int,((101+ys.length:Nat):Int)=z:=⟨_,rfl⟩;have hz2:0≤z2:=by omega
   have dz2:decide (z2 < 0)=false:=decide_eq_false (by omega);rw [ez2] at cg ch;have hm:∀l:LL,lget 33 l = .row true 1 (cI (marks 101 ys.length++List.drop ys.length ys))→lend1 l (.ls 33 0 ys.length 1) (.d (.sl (cI (marks 101 ys.length)))):=fun l h=>by
    have:=lend_whole (xs:=marks 101 ys.length) h;rwa [marks_len] at this
   conv=>whnf
   refine VCall.of_data (fn_toChaind rows false hi) (ndA fun k=>rfl) ?_;conv=>whnf
   refine VCall.of_data cs (ndT fun _=>rfl) ?_;conv=>whnf
   refine VCall.of_fn (k:=30) (fn_toChain rows hi) namesCh rfl ?_;conv=>whnf
   refine VCall.lendT (k:=33) ci ⟨lend_ch rfl,trivial⟩ (cI_flat _) rfl rfl ?_;conv=>whnf
   refine VCall.lend ce ⟨lend_all rfl,rfl,trivial⟩ rfl ?_;conv=>whnf
   rw [show ((⟨r2.toArray⟩:ByteArray).toList == (⟨r2.toArray⟩:ByteArray).toList)=true by simp];conv=>whnf
   refine VDraw.canon [(55,B false),(10,B true),(9,Str r2),(8,.ls 33 0 ys.length 1),(7,.lp 7 0),(6,B true),(5,Str r2),(4,.d (.sl (cI ys))),(1,.lp 1 0)] [(33,.row true 1 (cI ys)),(7,.box true [.ls 30 0 rows.length 1]),(30,laidM rows),(1,.box true [.d (.sl (cTT rows))])] ?_ ?_
   ·refine VDraw.go hmo hty 0 [] rfl ?_;conv=>whnf
    refine ⟨?_,?_⟩
    ·
     conv=>whnf
     refine VCall.of_fn (k:=53) (fn_toChain rows hi) namesCh rfl ?_;conv=>whnf
     refine VCall.parN [(1000000,30),(1000001,53)] (fn_intactChain rows hi) ⟨⟨⟨rfl,rfl,rfl,rfl⟩,trivial⟩,⟨⟨rfl,rfl,rfl,rfl⟩,trivial⟩,trivial⟩ ⟨⟨rfl,rfl⟩,⟨rfl,rfl⟩,trivial⟩ rfl rfl rfl rfl ?_;conv=>whnf
     exact ⟨⟨rfl,rfl,rfl,rfl,rfl,rfl,rfl,rfl,rfl,trivial⟩,⟨rfl,rfl,rfl,rfl,trivial⟩⟩
    ·conv=>whnf
     refine ⟨?_,?_⟩
     ·
      conv=>whnf
      refine VCall.of_fn (k:=53) (fn_toChain rows hi) namesCh rfl ?_;conv=>whnf
      refine VCall.parN [(1000000,30),(1000001,53)] (fn_intactChain rows hi) ⟨⟨⟨rfl,rfl,rfl,rfl⟩,trivial⟩,⟨⟨rfl,rfl,rfl,rfl⟩,trivial⟩,trivial⟩ ⟨⟨rfl,rfl⟩,⟨rfl,rfl⟩,trivial⟩ rfl rfl rfl rfl ?_;conv=>whnf
      exact ⟨⟨rfl,rfl,rfl,rfl,rfl,rfl,rfl,rfl,rfl,trivial⟩,⟨rfl,rfl,rfl,rfl,trivial⟩⟩
     ·
      conv=>whnf
      refine VCall.of_fn (k:=53) (fn_toChain rows hi) namesCh rfl ?_;conv=>whnf
      refine VCall.parN [(1000000,30),(1000001,53)] (fn_intactChain rows hi) ⟨⟨⟨rfl,rfl,rfl,rfl⟩,trivial⟩,⟨⟨rfl,rfl,rfl,rfl⟩,trivial⟩,trivial⟩ ⟨⟨rfl,rfl⟩,⟨rfl,rfl⟩,trivial⟩ rfl rfl rfl rfl ?_;conv=>whnf
      exact ⟨⟨rfl,rfl,rfl,rfl,rfl,rfl,rfl,rfl,rfl,trivial⟩,⟨rfl,rfl,rfl,rfl,trivial⟩⟩
   conv=>whnf
   refine VCall.parN [(1000000,30)] cx ⟨⟨⟨rfl,rfl,rfl,rfl⟩,trivial⟩,rfl,trivial⟩ ⟨⟨rfl,rfl⟩,trivial⟩ rfl rfl rfl rfl ?_;conv=>whnf
   rw [dz1];conv=>whnf
   refine VCall.lend ce ⟨lend_all rfl,rfl,trivial⟩ rfl ?_;conv=>whnf
   rw [show ((⟨r2.toArray⟩:ByteArray).toList == (⟨r2.toArray⟩:ByteArray).toList)=true by simp];conv=>whnf
   refine VCall.par1 33 cg ⟨⟨rfl,rfl,rfl,rfl⟩,rfl,trivial⟩ rfl ?_;conv=>whnf
   refine VCall.lend ch ⟨hm _ rfl,rfl,trivial⟩ rfl ?_;conv=>whnf
   rw [dz2];conv=>whnf
   rw [decide_eq_true (rfl:z2=z2)];conv=>whnf
   refine VCall.of_data (fn_toChaind rows true hi) (ndA fun k=>rfl) ?_;conv=>whnf
   refine VCall.of_data c2 (ndT fun _=>rfl) ?_;conv=>whnf
   refine VCall.of_data ce (nd _) ?_;conv=>whnf
   rw [show ((⟨r2.toArray⟩:ByteArray).toList == (⟨r2.toArray⟩:ByteArray).toList)=true by simp];conv=>whnf
   refine VCall.lend ch ⟨hm _ rfl,rfl,trivial⟩ rfl ?_;conv=>whnf
   rw [dz2];conv=>whnf
   rw [decide_eq_true (rfl:z2=z2)];conv=>whnf
   exact ⟨rfl,trivial,rfl⟩
end Go.V
