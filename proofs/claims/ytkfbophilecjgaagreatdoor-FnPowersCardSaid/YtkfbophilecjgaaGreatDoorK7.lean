/- Part 7: the abstract machine, its soundness, contracts of functions. -/
import Derived.Test.YtkfbophilecjgaaGreatDoorK6
import Derived.Test.YtkfbophilecjgaaGreatDoorK3
import Derived.Test.YtkfbophilecjgaaGreatDoorK4
set_option linter.unusedVariables false
set_option linter.unusedSimpArgs false
namespace Go.V
abbrev Fm:=Nat→Nat→Rat
def rowX (n:Nat) (A:Fm) (x:Nat→Rat) (r:Nat):Rat:=sN n fun j=>A r j*x j
def Sol (n:Nat) (A:Fm) (x:Nat→Rat):Prop:=∀r,r < n→rowX n A x r=A r n
def Hom (n:Nat) (A:Fm) (x:Nat→Rat):Prop:=∀r,r < n→rowX n A x r=0
def Inj (n:Nat) (A:Fm):Prop:=∀x,Hom n A x→∀j,j < n→x j=0
structure Eqv (n:Nat) (A B:Fm):Prop where
 s:∀x,Sol n A x↔Sol n B x
 h:∀x,Hom n A x↔Hom n B x
theorem Eqv.refl (n:Nat) (A:Fm):Eqv n A A:=⟨fun _=>Iff.rfl,fun _=>Iff.rfl⟩
theorem Eqv.trans {n:Nat} {A B C:Fm} (h1:Eqv n A B) (h2:Eqv n B C):Eqv n A C:=⟨fun x=>(h1.s x).trans (h2.s x),fun x=>(h1.h x).trans (h2.h x)⟩
theorem Eqv.inj {n:Nat} {A B:Fm} (h:Eqv n A B) (hi:Inj n A):Inj n B:=fun x hx=>hi x ((h.h x).2 hx)
theorem Eqv.congr {n:Nat} {A B:Fm} (h:∀r,r < n→∀j,j≤n→A r j=B r j):Eqv n A B:=by
 have hr:∀x r,r < n→rowX n A x r=rowX n B x r:=fun x r hr=>sN_congr fun j hj=>by rw [h r hr j (by omega)]
 refine ⟨fun x=>⟨fun H r h1=>?_,fun H r h1=>?_⟩,fun x=>⟨fun H r h1=>?_,fun H r h1=>?_⟩⟩
 ·rw [←hr x r h1,←h r h1 n (Nat.le_refl _)];exact H r h1
 ·rw [hr x r h1,h r h1 n (Nat.le_refl _)];exact H r h1
 ·rw [←hr x r h1];exact H r h1
 ·rw [hr x r h1];exact H r h1
theorem Eqv.swap {n:Nat} {A B:Fm} (f:Nat→Nat) (hf:∀r,r < n→f r < n) (hff:∀r,r < n→f (f r)=r) (h:∀r,r < n→∀j,j≤n→B r j=A (f r) j):Eqv n A B:=by
 have hr:∀x r,r < n→rowX n B x r=rowX n A x (f r):=fun x r hr=>sN_congr fun j hj=>by rw [h r hr j (by omega)]
 refine ⟨fun x=>⟨fun H r h1=>?_,fun H r h1=>?_⟩,fun x=>⟨fun H r h1=>?_,fun H r h1=>?_⟩⟩
 ·rw [hr x r h1,h r h1 n (Nat.le_refl _)];exact H _ (hf r h1)
 ·have h2:=H _ (hf r h1)
  rw [hr x _ (hf r h1),h _ (hf r h1) n (Nat.le_refl _),hff r h1] at h2
  exact h2
 ·rw [hr x r h1];exact H _ (hf r h1)
 ·have h2:=H _ (hf r h1)
  rw [hr x _ (hf r h1),hff r h1] at h2
  exact h2
theorem Eqv.sub {n i:Nat} {A B:Fm} (hi:i < n) (f:Nat→Rat) (hf:f i=0) (h:∀r,r < n→∀j,j≤n→B r j=A r j - f r*A i j):Eqv n A B:=by
 have hr:∀x r,r < n→rowX n B x r=rowX n A x r - f r*rowX n A x i:=fun x r hr=>by
  unfold rowX
  rw [←sN_mul]
  have:(sN n fun j=>A r j*x j)=(sN n fun j=>B r j*x j)+sN n fun j=>f r*(A i j*x j):=by
   rw [←sN_add]
   exact sN_congr fun j hj=>by rw [h r hr j (by omega)];grind
  rw [this];grind
 have hb:∀x r,r < n→rowX n A x r=rowX n B x r+f r*rowX n B x i:=fun x r h1=>by
  rw [hr x r h1,hr x i hi,hf];grind
 refine ⟨fun x=>⟨fun H r h1=>?_,fun H r h1=>?_⟩,fun x=>⟨fun H r h1=>?_,fun H r h1=>?_⟩⟩
 ·rw [hr x r h1,h r h1 n (Nat.le_refl _),H r h1,H i hi]
 ·rw [hb x r h1,H r h1,H i hi,h r h1 n (Nat.le_refl _),h i hi n (Nat.le_refl _),hf];grind
 ·rw [hr x r h1,H r h1,H i hi,Rat.mul_zero];grind
 ·rw [hb x r h1,H r h1,H i hi,Rat.mul_zero];grind
theorem sN_two {n a b:Nat} {f:Nat→Rat} (ha:a < n) (hb:b < n) (hab:a≠b) (h:∀i,i < n→i≠a→i≠b→f i=0):sN n f=f a+f b:=by
 have h1:sN n f=(sN n fun i=>if i=a then f i else 0)+sN n fun i=>if i=b then f i else 0:=by
  rw [←sN_add]
  refine sN_congr fun i hi=>?_
  by_cases e1:i=a
  ·rw [if_pos e1,if_neg (by omega),Rat.add_zero]
  ·rw [if_neg e1,Rat.zero_add]
   by_cases e2:i=b
   ·rw [if_pos e2]
   ·rw [if_neg e2,h i hi e1 e2]
 rw [h1,sN_delta,sN_delta,if_pos ha,if_pos hb]
theorem sN_only {n a:Nat} {f:Nat→Rat} (ha:a < n) (h:∀i,i < n→i≠a→f i=0):sN n f=f a:=by
 have h1:sN n f=sN n fun i=>if i=a then f i else 0:=sN_congr fun i hi=>by
  by_cases e1:i=a
  ·rw [if_pos e1]
  ·rw [if_neg e1,h i hi e1]
 rw [h1,sN_delta,if_pos ha]
def Dia (n:Nat) (A:Fm) (i:Nat):Prop:=∀c,c < i→A c c≠0∧∀r,r < n→r≠c→A r c=0
theorem Dia.pivot {n i:Nat} {A:Fm} (hd:Dia n A i) (hj:Inj n A) (hi:i < n):∃k,i≤k∧k < n∧A k i≠0:=by
 apply Classical.byContradiction
 intro hno
 have h0:∀k,i≤k→k < n→A k i=0:=fun k h1 h2=>Classical.byContradiction fun h3=>hno ⟨k,h1,h2,h3⟩
 have hx:=hj (fun j=>if j < i then -(A j i / A j j) else if j=i then 1 else 0) (fun r hr=>by
  unfold rowX
  by_cases hri:r < i
  ·rw [sN_two (a:=r) (b:=i) hr hi (by omega) (fun j hj h1 h2=>by
    dsimp only
    by_cases h3:j < i
    ·rw [(hd j h3).2 r hr (Ne.symm h1),Rat.zero_mul]
    ·rw [if_neg h3,if_neg h2,Rat.mul_zero])]
   dsimp only
   rw [if_pos hri,if_neg (by omega),if_pos rfl]
   have:=(hd r hri).1
   have h4:=Rat.div_mul_cancel (a:=A r i) this
   grind
  ·rw [sN_only (a:=i) hi (fun j hj h1=>by
    dsimp only
    by_cases h3:j < i
    ·rw [(hd j h3).2 r hr (by omega),Rat.zero_mul]
    ·rw [if_neg h3,if_neg h1,Rat.mul_zero])]
   rw [h0 r (by omega) hr,Rat.zero_mul]) i hi
 rw [if_neg (by omega),if_pos rfl] at hx
 exact absurd hx (by decide)
theorem Inj.uniq {n:Nat} {A:Fm} (h:Inj n A) {x y:Nat→Rat} (hx:Sol n A x) (hy:Sol n A y):∀j,j < n→x j=y j:=by
 intro j hj
 have:=h (fun j=>x j - y j) (fun r hr=>by
  have e:rowX n A x r=rowX n A (fun j=>x j - y j) r+rowX n A y r:=by
   unfold rowX
   rw [←sN_add]
   exact sN_congr fun j hj=>by grind
  have h1:=hx r hr
  have h2:=hy r hr
  grind) j hj
 grind
def Tri (n:Nat) (A:Fm) (i:Nat):Prop:=∀c,c < i→A c c≠0∧∀r,r < n→c < r→A r c=0
theorem Tri.part {n i:Nat} {A:Fm} (hd:Tri n A i) (hi:i < n):∀d,d≤i→∃x:Nat→Rat,x i=1∧(∀j,i < j→x j=0)∧∀r,i - d≤r→r < i→rowX n A x r=0
 | 0,_=>⟨fun j=>if j=i then 1 else 0,if_pos rfl,fun j hj=>if_neg (by omega),fun r h1 h2=>by omega⟩
 | d+1,h=>by
  obtain ⟨x,h1,h2,h3⟩:=Tri.part hd hi d (by omega);obtain ⟨c,hc⟩:∃c,c=i - (d+1):=⟨_,rfl⟩;have hci:c < i:=by omega
  refine ⟨fun j=>if j=c then x c - rowX n A x c / A c c else x j,?_,fun j hj=>?_,fun r h4 h5=>?_⟩
  ·show (if i=c then _ else x i)=1;rw [if_neg (by omega),h1]
  ·show (if j=c then _ else x j)=0;rw [if_neg (by omega),h2 j hj]
  ·have e:rowX n A (fun j=>if j=c then x c - rowX n A x c / A c c else x j) r=rowX n A x r - A r c*(rowX n A x c / A c c):=by
    unfold rowX;have:(sN n fun j=>A r j*(if j=c then x c - (sN n fun j=>A c j*x j) / A c c else x j))+(sN n fun j=>if j=c then A r c*((sN n fun j=>A c j*x j) / A c c) else 0)=sN n fun j=>A r j*x j:=by
     rw [←sN_add];refine sN_congr fun j hj=>?_;by_cases e:j=c
     ·subst e;rw [if_pos rfl,if_pos rfl];grind
     ·rw [if_neg e,if_neg e];grind
    rw [sN_delta n c fun _=>A r c*((sN n fun j=>A c j*x j) / A c c),if_pos (by omega)] at this;grind
   rw [e];by_cases hr:r=c
   ·subst hr;have:=Rat.div_mul_cancel (a:=rowX n A x r) (hd r hci).1;grind
   ·rw [h3 r (by omega) h5,(hd c hci).2 r (by omega) (by omega)];grind
theorem Tri.pivot {n i:Nat} {A:Fm} (hd:Tri n A i) (hj:Inj n A) (hi:i < n):∃k,i≤k∧k < n∧A k i≠0:=by
 apply Classical.byContradiction
 intro hno
 have h0:∀k,i≤k→k < n→A k i=0:=fun k h1 h2=>Classical.byContradiction fun h3=>hno ⟨k,h1,h2,h3⟩
 obtain ⟨x,h1,h2,h3⟩:=hd.part hi i (Nat.le_refl _)
 have:=hj x (fun r hr=>by
  by_cases hri:r < i
  ·exact h3 r (by omega) hri
  ·unfold rowX
   have:(sN n fun j=>A r j*x j)=sN n fun _=>0:=sN_congr fun j hj=>by
    by_cases e1:j < i
    ·rw [(hd j e1).2 r hr (by omega),Rat.zero_mul]
    ·by_cases e2:j=i
     ·subst e2;rw [h0 r (by omega) hr,Rat.zero_mul]
     ·rw [h2 j (by omega),Rat.mul_zero]
   rw [this,sN_zero]) i hi
 rw [h1] at this
 exact absurd this (by decide)
end Go.V
namespace Go.V
def RowB (t:Nat) (r:List Rat):Prop:=∃E:Nat,E≠0∧bl E < t∧∀q,q∈r→∃z:Int,q*((E:Int):Rat)=(z:Rat)∧bl z.natAbs < t
theorem RowB.mono {t u:Nat} {r:List Rat} (h:RowB t r) (hu:t≤u):RowB u r:=by
 obtain ⟨E,h1,h2,h3⟩:=h
 refine ⟨E,h1,by omega,fun q hq=>?_⟩
 obtain ⟨z,h4,h5⟩:=h3 q hq
 exact ⟨z,h4,by omega⟩
theorem RowB.sz {t:Nat} {r:List Rat} (h:RowB t r) {q:Rat} (hq:q∈r):Go.V.sz q < t:=by
 obtain ⟨E,h1,h2,h3⟩:=h;obtain ⟨z,hz,h5⟩:=h3 q hq;have hp:(0:Rat) < ((E:Int):Rat):=by
  have:(0:Int) < (E:Int):=by omega
  exact_mod_cast this
 have e:q=mkRat (sgn (decide (z < 0)) z.natAbs) E:=by
  have h2:=natc E;have h6:sgn (decide (z < 0)) z.natAbs=z:=by
   unfold sgn;by_cases h:z < 0
   ·rw [decide_eq_true h,if_pos rfl];omega
   ·rw [decide_eq_false h];simp;omega
  rw [h6,Rat.mkRat_eq_div,←hz,h2,Rat.div_def,Rat.mul_assoc,Rat.mul_inv_cancel _ (Rat.ne_of_gt hp),Rat.mul_one]
 rw [e];have:=sz_mkRat (s:=decide (z < 0)) (t:=z.natAbs) h1;omega
theorem RowB.of_iz {E t:Nat} {r:List Rat} (hE:E≠0) (h1:bl E < t) (M:Nat) (hM:bl (M*E) < t) (h:∀q,q∈r→Iz E q∧-((M:Int):Rat)≤q∧q≤((M:Int):Rat)):RowB t r:=by
 refine ⟨E,hE,h1,fun q hq=>?_⟩;obtain ⟨⟨z,hz⟩,h2,h3⟩:=h q hq;refine ⟨z,hz,?_⟩;have hp:(0:Rat)≤((E:Int):Rat):=by exact_mod_cast (by omega:(0:Int)≤(E:Int))
 have hz1:z≤((M*E:Nat):Int):=by
  have:(z:Rat)≤(((M*E:Nat):Int):Rat):=by
   rw [←hz,Int.natCast_mul,Rat.intCast_mul];exact Rat.mul_le_mul_of_nonneg_right h3 hp
  exact_mod_cast this
 have hz2:-((M*E:Nat):Int)≤z:=by
  have:((-((M*E:Nat):Int):Int):Rat)≤(z:Rat):=by
   rw [←hz,Rat.intCast_neg,Int.natCast_mul,Rat.intCast_mul,←Rat.neg_mul];exact Rat.mul_le_mul_of_nonneg_right h2 hp
  exact_mod_cast this
 have:=bl_mono (a:=z.natAbs) (b:=M*E) (by omega);omega
def subRow (c m:Nat) (f:Rat) (b a:List Rat):List Rat:=(List.range a.length).map fun j=>if c≤j∧j < m then a.getD j 0 - f*b.getD j 0 else a.getD j 0
theorem subRow_len (c m:Nat) (f:Rat) (b a:List Rat):(subRow c m f b a).length=a.length:=by simp [subRow]
theorem subRow_at {c m:Nat} {f:Rat} {b a:List Rat} {j:Nat} (h:j < a.length):(subRow c m f b a).getD j 0=if c≤j∧j < m then a.getD j 0 - f*b.getD j 0 else a.getD j 0:=by
 rw [gD,List.getElem?_eq_getElem (by rw [subRow_len];exact h)];simp [subRow]
theorem gsetD {α:Type} {xs:List α} {i j:Nat} {x d:α} (hi:i < xs.length):(xs.set i x).getD j d=if j=i then x else xs.getD j d:=by
 rw [gD,List.getElem?_set]
 by_cases h:i=j
 ·rw [if_pos h,if_pos hi,if_pos h.symm];rfl
 ·rw [if_neg h,if_neg (Ne.symm h),gD]
theorem RowB.sub {t c m:Nat} {a b:List Rat} (ha:RowB t a) (hb:RowB t b) (hac:c < a.length) (hl:a.length≤b.length) (h0:b.getD c 0≠0):RowB (2*t) (subRow c m (a.getD c 0 / b.getD c 0) b a):=by
 obtain ⟨E,e1,e2,e3⟩:=ha;obtain ⟨F,f1,f2,f3⟩:=hb;obtain ⟨y,hy,hyb⟩:=f3 _ (getD_mem (xs:=b) (i:=c) (d:=0) (by omega));obtain ⟨x,hx,hxb⟩:=e3 _ (getD_mem (xs:=a) (i:=c) (d:=0) hac);have hF:((F:Int):Rat)≠0:=by exact_mod_cast (by omega:(F:Int)≠0)
 have hy0:y≠0:=fun e=>by
  rw [e] at hy;rcases Rat.mul_eq_zero.1 (show b.getD c 0*((F:Int):Rat)=0 from hy) with h | h
  ·exact h0 h
  ·exact hF h
 have hdiv:=Rat.div_mul_cancel (a:=a.getD c 0) h0;obtain ⟨f,ef⟩:∃f,a.getD c 0 / b.getD c 0=f:=⟨_,rfl⟩;rw [ef] at hdiv ⊢;obtain ⟨s,hs,hs2⟩:∃s:Int,((y.natAbs:Nat):Int)=s*y∧s.natAbs=1:=by
  by_cases h:0≤y
  ·exact ⟨1,by omega,rfl⟩
  ·exact ⟨-1,by omega,rfl⟩
 have bE:=bl_mul E y.natAbs;refine ⟨E*y.natAbs,Nat.mul_ne_zero e1 (by omega),by omega,fun q hq=>?_⟩;have eN:(((E*y.natAbs:Nat):Int):Rat)=((E:Int):Rat)*((s:Rat)*(y:Rat)):=by rw [Int.natCast_mul,Rat.intCast_mul,hs,Rat.intCast_mul]
 obtain ⟨j,hj,rfl⟩:=List.mem_map.1 hq;have hj:j < a.length:=by simpa using hj
 obtain ⟨xj,hxj,hxjb⟩:=e3 _ (getD_mem (xs:=a) (i:=j) (d:=0) hj);obtain ⟨yj,hyj,hyjb⟩:=f3 _ (getD_mem (xs:=b) (i:=j) (d:=0) (by omega));rw [eN];split
 ·refine ⟨s*(xj*y - x*yj),?_,?_⟩
  ·rw [Rat.intCast_mul,Rat.intCast_sub,Rat.intCast_mul,Rat.intCast_mul,←hxj,←hyj,←hx];have:f*(y:Rat)=a.getD c 0*((F:Int):Rat):=by rw [←hy,←Rat.mul_assoc,hdiv]
   grind
  ·have h1:(s*(xj*y - x*yj)).natAbs≤xj.natAbs*y.natAbs+x.natAbs*yj.natAbs:=by
    rw [Int.natAbs_mul,hs2,Nat.one_mul];have h1:=Int.natAbs_sub_le (xj*y) (x*yj);rw [Int.natAbs_mul,Int.natAbs_mul] at h1;omega
   have h2:=bl_mono h1;have h3:=bl_add (xj.natAbs*y.natAbs) (x.natAbs*yj.natAbs);have h4:=bl_mul xj.natAbs y.natAbs;have h5:=bl_mul x.natAbs yj.natAbs;omega
 ·refine ⟨s*(xj*y),?_,?_⟩
  ·rw [Rat.intCast_mul,Rat.intCast_mul,←hxj];grind
  ·rw [Int.natAbs_mul,hs2,Nat.one_mul,Int.natAbs_mul];have h4:=bl_mul xj.natAbs y.natAbs;omega
def lg (p:List Nat) (R:Mt) (r:Nat):List Rat:=R.getD (p.getD r 0) []
def lgF (p:List Nat) (R:Mt):Fm:=fun r j=>(lg p R r).getD j 0
def swapL {α:Type} (d:α) (xs:List α) (i k:Nat):List α:=(xs.set i (xs.getD k d)).set k (xs.getD i d)
theorem swapL_len {α:Type} (d:α) (xs:List α) (i k:Nat):(swapL d xs i k).length=xs.length:=by simp [swapL]
def swF (i k r:Nat):Nat:=if r=k then i else if r=i then k else r
theorem swapL_at {α:Type} {d:α} {xs:List α} {i k r:Nat} (hi:i < xs.length) (hk:k < xs.length):(swapL d xs i k).getD r d=xs.getD (swF i k r) d:=by
 unfold swapL swF
 rw [gsetD (by rw [List.length_set];exact hk),gsetD hi]
 by_cases h1:r=k
 ·rw [if_pos h1,if_pos h1]
 ·rw [if_neg h1,if_neg h1]
  by_cases h2:r=i
  ·rw [if_pos h2,if_pos h2]
  ·rw [if_neg h2,if_neg h2]
theorem swF_lt {n i k r:Nat} (hi:i < n) (hk:k < n) (hr:r < n):swF i k r < n:=by unfold swF;split;exact hi;split;exact hk;exact hr
theorem swF_two (i k r:Nat):swF i k (swF i k r)=r:=by
 unfold swF
 by_cases h1:r=k
 ·rw [if_pos h1]
  by_cases h2:i=k
  ·rw [if_pos h2];omega
  ·rw [if_neg h2,if_pos rfl,h1]
 ·rw [if_neg h1]
  by_cases h2:r=i
  ·rw [if_pos h2,if_pos rfl,h2]
  ·rw [if_neg h2,if_neg h1,if_neg h2]
structure Plc (n w:Nat) (p:List Nat) (R:Mt):Prop where
 pl:p.length=n
 rl:R.length=n
 lt:∀r,r < n→p.getD r 0 < n
 inj:∀r q,r < n→q < n→p.getD r 0=p.getD q 0→r=q
 wd:∀r,r < n→(lg p R r).length=w
theorem Plc.swap {n w:Nat} {p:List Nat} {R:Mt} (h:Plc n w p R) {i k:Nat} (hi:i < n) (hk:k < n):Plc n w (swapL 0 p i k) R:=by
 have e:∀r,(swapL 0 p i k).getD r 0=p.getD (swF i k r) 0:=fun r=>swapL_at (by rw [h.pl];exact hi) (by rw [h.pl];exact hk)
 refine ⟨by rw [swapL_len,h.pl],h.rl,fun r hr=>?_,fun r q hr hq hh=>?_,fun r hr=>?_⟩
 ·rw [e];exact h.lt _ (swF_lt hi hk hr)
 ·rw [e,e] at hh
  have:=h.inj _ _ (swF_lt hi hk hr) (swF_lt hi hk hq) hh
  rw [←swF_two i k r,this,swF_two]
 ·unfold lg;rw [e];exact h.wd _ (swF_lt hi hk hr)
theorem lg_swap {n w:Nat} {p:List Nat} {R:Mt} (h:Plc n w p R) {i k:Nat} (hi:i < n) (hk:k < n) (r:Nat):lg (swapL 0 p i k) R r=lg p R (swF i k r):=by
 unfold lg
 rw [swapL_at (by rw [h.pl];exact hi) (by rw [h.pl];exact hk)]
theorem lg_set {n w:Nat} {p:List Nat} {R:Mt} (h:Plc n w p R) {r q:Nat} {x:List Rat} (hr:r < n) (hq:q < n):lg p (R.set (p.getD r 0) x) q=if q=r then x else lg p R q:=by
 unfold lg
 rw [gsetD (by rw [h.rl];exact h.lt r hr)]
 by_cases e:q=r
 ·subst e;rw [if_pos rfl,if_pos rfl]
 ·rw [if_neg e,if_neg (fun hh=>e (h.inj q r hq hr hh))]
theorem Plc.set {n w:Nat} {p:List Nat} {R:Mt} (h:Plc n w p R) {r:Nat} {x:List Rat} (hr:r < n) (hx:x.length=w):Plc n w p (R.set (p.getD r 0) x) :=
 ⟨h.pl,by rw [List.length_set,h.rl],h.lt,h.inj,fun q hq=>by
  rw [lg_set h hr hq]
  split
  ·exact hx
  ·exact h.wd q hq⟩
def elRow (c:Nat) (sk:Nat→Bool) (b a:List Rat) (r:Nat):List Rat:=if sk r=true∨a.getD c 0=0 then a else subRow c a.length (a.getD c 0 / b.getD c 0) b a
def elimR (p:List Nat) (c:Nat) (sk:Nat→Bool):Nat→Mt→Mt
 | 0,R=>R
 | r+1,R=>(elimR p c sk r R).set (p.getD r 0) (elRow c sk (lg p (elimR p c sk r R) c) (lg p (elimR p c sk r R) r) r)
theorem elRow_len (c:Nat) (sk:Nat→Bool) (b a:List Rat) (r:Nat):(elRow c sk b a r).length=a.length:=by unfold elRow;split;rfl;exact subRow_len _ _ _ _ _
theorem elimR_is {n w c:Nat} {p:List Nat} {R:Mt} {sk:Nat→Bool} (h:Plc n w p R) (hc:c < n) (hs:sk c=true):∀r,r≤n→Plc n w p (elimR p c sk r R)∧∀q,q < n→lg p (elimR p c sk r R) q=if q < r then elRow c sk (lg p R c) (lg p R q) q else lg p R q
 | 0,_=>⟨h,fun q hq=>by rw [if_neg (by omega)];rfl⟩
 | r+1,hr=>by
  obtain ⟨h1,h2⟩:=elimR_is h hc hs r (by omega);have ec:lg p (elimR p c sk r R) c=lg p R c:=by
   rw [h2 c hc];split
   ·unfold elRow;rw [if_pos (.inl hs)]
   ·rfl
  have er:lg p (elimR p c sk r R) r=lg p R r:=by rw [h2 r (by omega),if_neg (by omega)]
  refine ⟨h1.set (by omega) (by rw [elRow_len,er];exact h.wd r (by omega)),fun q hq=>?_⟩;show lg p ((elimR p c sk r R).set (p.getD r 0) _) q=_;rw [lg_set h1 (by omega) hq,ec,er];by_cases e:q=r
  ·subst e;rw [if_pos rfl,if_pos (by omega)]
  ·rw [if_neg e,h2 q hq];by_cases e2:q < r
   ·rw [if_pos e2,if_pos (by omega)]
   ·rw [if_neg e2,if_neg (by omega)]
theorem elRow_at {c:Nat} {sk:Nat→Bool} {b a:List Rat} {r j w:Nat} (ha:a.length=w) (hj:j < w) (hb:∀j,j < c→b.getD j 0=0) :
  (elRow c sk b a r).getD j 0=a.getD j 0 - (if sk r=true then 0 else a.getD c 0 / b.getD c 0)*b.getD j 0:=by
 unfold elRow
 by_cases h:sk r=true
 ·rw [if_pos (.inl h),if_pos h,Rat.zero_mul];grind
 ·rw [if_neg h]
  by_cases h2:a.getD c 0=0
  ·rw [if_pos (.inr h2),h2,Rat.div_def,Rat.zero_mul,Rat.zero_mul];grind
  ·rw [if_neg (by rintro (h3 | h3);exact h h3;exact h2 h3),subRow_at (by omega)]
   by_cases h3:c≤j∧j < a.length
   ·rw [if_pos h3]
   ·rw [if_neg h3,hb j (by omega),Rat.mul_zero];grind
theorem elim_step {n i k:Nat} {p:List Nat} {R:Mt} {sk:Nat→Bool} (h:Plc n (n+1) p R) (hi:i < n) (hk:k < n) (hs:sk i=true) (h0:lgF p R k i≠0) (hb:∀j,j < i→lgF p R k j=0) :
  Plc n (n+1) (swapL 0 p i k) (elimR (swapL 0 p i k) i sk n R)∧Eqv n (lgF p R) (lgF (swapL 0 p i k) (elimR (swapL 0 p i k) i sk n R)) ∧
   ∀r,r < n→∀j,j≤n→lgF (swapL 0 p i k) (elimR (swapL 0 p i k) i sk n R) r j=lgF p R (swF i k r) j - (if sk r=true then 0 else lgF p R (swF i k r) i / lgF p R k i)*lgF p R k j:=by
 have hp:=h.swap hi hk;obtain ⟨g1,g2⟩:=elimR_is hp hi hs n (Nat.le_refl _);have esw:swF i k i=k:=by unfold swF;by_cases e:i=k;rw [if_pos e];exact e;rw [if_neg e,if_pos rfl]
 have ei:lg (swapL 0 p i k) R i=lg p R k:=by rw [lg_swap h hi hk,esw]
 have hent:∀r,r < n→∀j,j≤n→lgF (swapL 0 p i k) (elimR (swapL 0 p i k) i sk n R) r j=lgF p R (swF i k r) j - (if sk r=true then 0 else lgF p R (swF i k r) i / lgF p R k i)*lgF p R k j:=fun r hr j hj=>by
  unfold lgF;rw [g2 r hr,if_pos hr,ei,lg_swap h hi hk,elRow_at (w:=n+1) (h.wd _ (swF_lt hi hk hr)) (by omega) hb]
 refine ⟨g1,?_,hent⟩;have e1:Eqv n (lgF p R) (fun r j=>lgF p R (swF i k r) j):=Eqv.swap (swF i k) (fun r hr=>swF_lt hi hk hr) (fun r _=>swF_two i k r) fun r _ j _=>rfl;refine e1.trans (Eqv.sub hi (fun r=>if sk r=true then 0 else lgF p R (swF i k r) i / lgF p R k i) (if_pos hs) fun r hr j hj=>?_);rw [hent r hr j hj,esw]
theorem RowB.el {t c r:Nat} {sk:Nat→Bool} {a b:List Rat} (ha:RowB t a) (hb:RowB t b) (hac:c < a.length) (hl:a.length≤b.length) (h0:b.getD c 0≠0):RowB (2*t) (elRow c sk b a r):=by
 unfold elRow
 split
 ·exact ha.mono (by omega)
 ·exact ha.sub hb hac hl h0
structure Gj (n t:Nat) (A:Fm) (p:List Nat) (R:Mt) (i:Nat):Prop where
 pl:Plc n (n+1) p R
 eq:Eqv n A (lgF p R)
 dia:Dia n (lgF p R) i
 row:∀r,r < n→RowB (2 ^ i*t) (lg p R r)
abbrev skJ (i r:Nat):Bool:=decide (r=i)
theorem Gj.next {n t i:Nat} {A:Fm} {p:List Nat} {R:Mt} (h:Gj n t A p R i) (hi:i < n) {k:Nat} (hik:i≤k) (hk:k < n) (h0:lgF p R k i≠0):Gj n t A (swapL 0 p i k) (elimR (swapL 0 p i k) i (skJ i) n R) (i+1):=by
 have hb:∀j,j < i→lgF p R k j=0:=fun j hj=>(h.dia j hj).2 k hk (by omega);obtain ⟨g1,g2,g3⟩:=elim_step h.pl hi hk (sk:=skJ i) (decide_eq_true rfl) h0 hb;refine ⟨g1,h.eq.trans g2,fun c hc=>?_,fun r hr=>?_⟩
 ·by_cases e:c=i
  ·subst e;refine ⟨?_,fun r hr hne=>?_⟩
   ·rw [g3 c hi c (by omega),if_pos (decide_eq_true rfl)];have esw:swF c k c=k:=by unfold swF;by_cases e:c=k;rw [if_pos e];exact e;rw [if_neg e,if_pos rfl]
    rw [esw];grind
   ·rw [g3 r hr c (by omega),if_neg (by rw [decide_eq_true_eq];exact hne)];have:=Rat.div_mul_cancel (a:=lgF p R (swF c k r) c) h0;grind
  ·have hci:c < i:=by omega
   obtain ⟨d1,d2⟩:=h.dia c hci;have z:∀r,r < n→r≠c→lgF p R (swF i k r) c=0:=fun r hr hne=>d2 _ (swF_lt hi hk hr) (by unfold swF;split;omega;split;omega;exact hne);refine ⟨?_,fun r hr hne=>?_⟩
   ·rw [g3 c (by omega) c (by omega),hb c hci,Rat.mul_zero];have:swF i k c=c:=by unfold swF;rw [if_neg (by omega),if_neg e]
    rw [this];grind
   ·rw [g3 r hr c (by omega),hb c hci,Rat.mul_zero,z r hr hne];grind
 ·have hp:=h.pl.swap hi hk;obtain ⟨_,g5⟩:=elimR_is (sk:=skJ i) hp hi (decide_eq_true rfl) n (Nat.le_refl _);rw [g5 r hr,if_pos hr,lg_swap h.pl hi hk,lg_swap h.pl hi hk];have esw:swF i k i=k:=by unfold swF;by_cases e:i=k;rw [if_pos e];exact e;rw [if_neg e,if_pos rfl]
  rw [esw];have w1:=h.pl.wd _ (swF_lt hi hk hr);have w2:=h.pl.wd _ hk;have:=(h.row _ (swF_lt hi hk hr)).el (r:=r) (sk:=skJ i) (h.row _ hk) (c:=i) (by omega) (by omega) h0;rwa [←Nat.mul_assoc,←Nat.pow_succ'] at this
end Go.V
namespace Go.V
def St (n:Nat) (m:Fm) (w:Nat→Rat):Prop:=∀j,j < n→(sN n fun i=>w i*m i j)=w j
structure Sto (n:Nat) (m:Fm):Prop where
 pos:∀i j,i < n→j < n→0≤m i j
 one:∀i,i < n→sN n (m i)=1
def Cl (n:Nat) (m:Fm) (s:Nat):Prop:=∀T:Nat→Prop,(∃i,i < n∧T i)→(∀i j,i < n→j < n→T i→0 < m i j→T j)→T s
theorem sN_eq_zero {n:Nat} {f:Nat→Rat} (h:∀i,i < n→0≤f i) (h0:sN n f=0):∀i,i < n→f i=0:=by
 intro i hi
 have h1:=sN_one_le hi h
 have h2:=h i hi
 grind
theorem sN_neg (n:Nat) (f:Nat→Rat):(sN n fun i=>-f i) = -sN n f:=by
 have:=sN_mul n (-1) f
 have e:(sN n fun i=>-f i)=sN n fun i=>(-1)*f i:=sN_congr fun i _=>by grind
 rw [e,this];grind
theorem St.abs {n:Nat} {P:Fm} (hP:Sto n P) {w a:Nat→Rat} (hw:St n P w) (ha:∀i,i < n→w i≤a i∧-w i≤a i∧(a i=w i∨a i = -w i)):St n P a:=by
 have hd:∀j,j < n→0≤(sN n fun i=>a i*P i j) - a j:=fun j hj=>by
  have h1:(sN n fun i=>w i*P i j)≤sN n fun i=>a i*P i j:=sN_le fun i hi=>Rat.mul_le_mul_of_nonneg_right (ha i hi).1 (hP.pos i j hi hj)
  have h2:(sN n fun i=>(-w i)*P i j)≤sN n fun i=>a i*P i j:=sN_le fun i hi=>Rat.mul_le_mul_of_nonneg_right (ha i hi).2.1 (hP.pos i j hi hj)
  have h3:(sN n fun i=>(-w i)*P i j) = -(sN n fun i=>w i*P i j):=by
   rw [←sN_neg];exact sN_congr fun i _=>Rat.neg_mul _ _
  have h4:=hw j hj
  rcases (ha j hj).2.2 with h | h <;> rw [h] <;> grind
 have hs:(sN n fun j=>(sN n fun i=>a i*P i j) - a j)=0:=by
  have e1:(sN n fun j=>(sN n fun i=>a i*P i j) - a j)=(sN n fun j=>sN n fun i=>a i*P i j)+sN n fun j=>-a j:=by
   rw [←sN_add];exact sN_congr fun j _=>Rat.sub_eq_add_neg _ _
  rw [e1,←sN_comm,sN_neg]
  have e2:(sN n fun i=>sN n fun j=>a i*P i j)=sN n a:=sN_congr fun i hi=>by rw [sN_mul,hP.one i hi,Rat.mul_one]
  rw [e2];grind
 intro j hj
 have:=sN_eq_zero hd hs j hj
 grind
theorem St.spread {n:Nat} {P:Fm} (hP:Sto n P) {u:Nat→Rat} (hu:St n P u) (h0:∀i,i < n→0≤u i) {i j:Nat} (hi:i < n) (hj:j < n) (h1:0 < u i) (h2:0 < P i j):0 < u j:=by
 rw [←hu j hj]
 have h3:=sN_one_le (f:=fun i=>u i*P i j) hi fun k hk=>Rat.mul_nonneg (h0 k hk) (hP.pos k j hk hj)
 have h4:=Rat.mul_pos h1 h2
 grind
theorem St.add {n:Nat} {P:Fm} {u v:Nat→Rat} (hu:St n P u) (hv:St n P v):St n P fun i=>u i+v i:=fun j hj=>by
 have e:(sN n fun i=>(u i+v i)*P i j)=(sN n fun i=>u i*P i j)+sN n fun i=>v i*P i j:=by
  rw [←sN_add];exact sN_congr fun i _=>Rat.add_mul _ _ _
 rw [e,hu j hj,hv j hj]
theorem St.smul {n:Nat} {P:Fm} {u:Nat→Rat} (hu:St n P u) (c:Rat):St n P fun i=>c*u i:=fun j hj=>by
 have e:(sN n fun i=>c*u i*P i j)=c*sN n fun i=>u i*P i j:=by
  rw [←sN_mul];exact sN_congr fun i _=>Rat.mul_assoc _ _ _
 rw [e,hu j hj]
theorem St.uniq {n s:Nat} {P:Fm} (hP:Sto n P) (hc:Cl n P s) (hs:s < n) {w:Nat→Rat} (hw:St n P w) (h0:sN n w=0):∀i,i < n→w i=0:=by
 have ha:∀i,i < n→w i≤(if w i < 0 then -w i else w i)∧-w i≤(if w i < 0 then -w i else w i)∧((if w i < 0 then -w i else w i)=w i∨(if w i < 0 then -w i else w i) = -w i):=fun i _=>by
  by_cases h:w i < 0
  ·rw [if_pos h];exact ⟨by grind,by grind,.inr rfl⟩
  ·rw [if_neg h];have:=Rat.not_lt.1 h;exact ⟨by grind,by grind,.inl rfl⟩
 obtain ⟨a,ea⟩:∃a:Nat→Rat,a=fun i=>if w i < 0 then -w i else w i:=⟨_,rfl⟩
 have ha:∀i,i < n→w i≤a i∧-w i≤a i∧(a i=w i∨a i = -w i):=by rw [ea];exact ha
 have hA:=hw.abs hP ha;have hu:=hA.add hw;have hv:=hA.add (hw.smul (-1));have u0:∀i,i < n→0≤a i+w i:=fun i hi=>by have:=(ha i hi).2.1;grind
 have v0:∀i,i < n→0≤a i+(-1)*w i:=fun i hi=>by have:=(ha i hi).1;grind
 by_cases h1:∃i,i < n∧0 < a i+w i
 ·have us:=hc (fun i=>0 < a i+w i) h1 fun i j hi hj h2 h3=>hu.spread hP u0 hi hj h2 h3;have hz:∀i,i < n→a i+(-1)*w i=0:=fun i hi=>Classical.byContradiction fun hne=>by
   have hp:0 < a i+(-1)*w i:=by have:=v0 i hi;grind
   have vs:=hc (fun i=>0 < a i+(-1)*w i) ⟨i,hi,hp⟩ fun i j hi hj h2 h3=>hv.spread hP v0 hi hj h2 h3;rcases (ha s hs).2.2 with h | h <;> grind
  exact sN_eq_zero (fun i hi=>by have:=hz i hi;have:=(ha i hi).2.1;grind) h0
 ·have hz:∀i,i < n→a i+w i=0:=fun i hi=>Classical.byContradiction fun hne=>h1 ⟨i,hi,by have:=u0 i hi;grind⟩;intro i hi;have h2:sN n (fun i=>-w i)=0:=by rw [sN_neg,h0];grind
  have:=sN_eq_zero (f:=fun i=>-w i) (fun i hi=>by have:=hz i hi;have:=(ha i hi).1;grind) h2 i hi;grind
def outM (m:Fm) (k:Nat):Rat:=sN k (m k)
def redM (m:Fm) (k:Nat):Fm:=fun i j=>if i < k∧j < k then m i j+m i k / outM m k*m k j else if i < k∧j=k then m i k / outM m k else m i j
theorem Cl.out {k:Nat} {m:Fm} (hm:Sto (k+1) m) (hc:Cl (k+1) m 0) (hk:1≤k):0 < outM m k:=by
 have h0:0≤outM m k:=sN_nonneg fun j hj=>hm.pos k j (by omega) (by omega);refine Classical.byContradiction fun hn=>?_;have hz:outM m k=0:=by grind
 have:=hc (fun i=>i=k) ⟨k,by omega,rfl⟩ fun i j hi hj h1 h2=>by
  subst h1;refine Classical.byContradiction fun hne=>?_;have:=sN_eq_zero (fun j hj=>hm.pos i j (by omega) (by omega)) hz j (by omega);rw [this] at h2;exact absurd h2 (by decide)
 omega
theorem Sto.red {k:Nat} {m:Fm} (hm:Sto (k+1) m) (hc:Cl (k+1) m 0) (hk:1≤k):Sto k (redM m k):=by
 have ho:=hc.out hm hk;have hne:=Rat.ne_of_gt ho;refine ⟨fun i j hi hj=>?_,fun i hi=>?_⟩
 ·unfold redM;rw [if_pos ⟨hi,hj⟩];have h1:=hm.pos i j (by omega) (by omega);have h2:=hm.pos i k (by omega) (by omega);have h3:=hm.pos k j (by omega) (by omega);have h4:0≤m i k / outM m k:=by rw [Rat.div_def];exact Rat.mul_nonneg h2 (Rat.le_of_lt (Rat.inv_pos.2 ho))
  have h5:=Rat.mul_nonneg h4 h3;grind
 ·have e:sN k (redM m k i)=sN k fun j=>m i j+m i k / outM m k*m k j:=sN_congr fun j hj=>by unfold redM;rw [if_pos ⟨hi,hj⟩]
  rw [e,sN_add,sN_mul];have h1:sN k (fun j=>m k j)=outM m k:=rfl;rw [h1,Rat.div_mul_cancel hne];exact hm.one i (by omega)
theorem Cl.red {k:Nat} {m:Fm} (hm:Sto (k+1) m) (hc:Cl (k+1) m 0) (hk:1≤k):Cl k (redM m k) 0:=by
 have ho:=hc.out hm hk;intro T ⟨i0,hi0,hT⟩ hcl;have hge:∀i j,i < k→j < k→0 < m i j→0 < redM m k i j:=fun i j hi hj h=>by
  unfold redM;rw [if_pos ⟨hi,hj⟩];have h2:=hm.pos i k (by omega) (by omega);have h3:=hm.pos k j (by omega) (by omega);have h4:0≤m i k / outM m k:=by rw [Rat.div_def];exact Rat.mul_nonneg h2 (Rat.le_of_lt (Rat.inv_pos.2 ho))
  have h5:=Rat.mul_nonneg h4 h3;grind
 have hvia:∀i j,i < k→j < k→0 < m i k→0 < m k j→0 < redM m k i j:=fun i j hi hj h h'=>by
  unfold redM;rw [if_pos ⟨hi,hj⟩];have h1:=hm.pos i j (by omega) (by omega);have h4:0 < m i k / outM m k:=by rw [Rat.div_def];exact Rat.mul_pos h (Rat.inv_pos.2 ho)
  have h5:=Rat.mul_pos h4 h';grind
 have:=hc (fun i=>(i < k∧T i)∨(i=k∧∃q,q < k∧T q∧0 < m q k)) ⟨i0,by omega,.inl ⟨hi0,hT⟩⟩ fun i j hi hj h1 h2=>by
  rcases h1 with ⟨h3,h4⟩ | ⟨h3,q,h4,h5,h6⟩
  ·by_cases hjk:j < k
   ·exact .inl ⟨hjk,hcl i j h3 hjk h4 (hge i j h3 hjk h2)⟩
   ·have:j=k:=by omega
    subst this;exact .inr ⟨rfl,i,h3,h4,h2⟩
  ·subst h3;by_cases hjk:j < i
   ·exact .inl ⟨hjk,hcl q j h4 hjk h5 (hvia q j h4 hjk h6 h2)⟩
   ·have:j=i:=by omega
    exact .inr ⟨this,q,h4,h5,h6⟩
 rcases this with ⟨_,h⟩ | ⟨h,_⟩
 ·exact h
 ·omega
def gthM:Nat→Fm→Fm
 | 0,m=>m
 | k+1,m=>gthM k (redM m (k+1))
theorem gthM_col {c i:Nat}:∀{k:Nat} {m:Fm},k < c→gthM k m i c=m i c
 | 0,_,_=>rfl
 | k+1,m,h=>by
  show gthM k (redM m (k+1)) i c=m i c
  rw [gthM_col (by omega)]
  unfold redM
  rw [if_neg (by omega),if_neg (by omega)]
def wL (M:Fm):Nat→List Rat
 | 0=>[1]
 | k+1=>wL M k++[sN (k+1) fun i=>(wL M k).getD i 0*M i (k+1)]
theorem wL_len (M:Fm):∀k,(wL M k).length=k+1
 | 0=>rfl
 | k+1=>by simp [wL,wL_len M k]
theorem wL_low {M:Fm} {k i:Nat} (h:i≤k):(wL M (k+1)).getD i 0=(wL M k).getD i 0:=by
 show (wL M k++_).getD i 0=_
 rw [gD,List.getElem?_append_left (by rw [wL_len];omega),gD]
theorem wL_top {M:Fm} {k:Nat}:(wL M (k+1)).getD (k+1) 0=sN (k+1) fun i=>(wL M k).getD i 0*M i (k+1):=by
 show (wL M k++_).getD (k+1) 0=_
 rw [gD,List.getElem?_append_right (by rw [wL_len];omega),wL_len]
 simp
theorem gth_st:∀(k:Nat) (m:Fm),Sto (k+1) m→Cl (k+1) m 0→St (k+1) m (fun i=>(wL (gthM k m) k).getD i 0)∧(∀i,i≤k→0≤(wL (gthM k m) k).getD i 0)∧(wL (gthM k m) k).getD 0 0=1
 | 0,m,hm,_=>by
  refine ⟨fun j hj=>?_,fun i hi=>?_,rfl⟩
  ·have:j=0:=by omega
   subst this;have h1:=hm.one 0 (by omega);have h2:sN 1 (m 0)=0+m 0 0:=rfl;show (0:Rat)+1*m 0 0=1;grind
  ·have:i=0:=by omega
   subst this;show (0:Rat)≤1;decide
 | k+1,m,hm,hc=>by
  have ho:=hc.out hm (by omega);have hne:=Rat.ne_of_gt ho;obtain ⟨h1,h2,h3⟩:=gth_st k (redM m (k+1)) (hm.red hc (by omega)) (hc.red hm (by omega));obtain ⟨M,eM⟩:∃M,gthM k (redM m (k+1))=M:=⟨_,rfl⟩;rw [eM] at h1 h2 h3;have eM2:gthM (k+1) m=M:=eM;rw [eM2];have hcol:∀i,i < k+1→M i (k+1)=m i (k+1) / outM m (k+1):=fun i hi=>by
   rw [←eM,gthM_col (by omega)];unfold redM;rw [if_neg (by omega),if_pos ⟨hi,rfl⟩]
  obtain ⟨v,ev⟩:∃v:Nat→Rat,(fun i=>(wL M k).getD i 0)=v:=⟨_,rfl⟩;obtain ⟨x,ex⟩:∃x:Rat,(wL M (k+1)).getD (k+1) 0=x:=⟨_,rfl⟩;have hv:∀i,(wL M k).getD i 0=v i:=fun i=>by rw [←ev]
  have hw:∀i,i < k+1→(wL M (k+1)).getD i 0=v i:=fun i hi=>by rw [wL_low (by omega),hv]
  have hx:x*outM m (k+1)=sN (k+1) fun i=>v i*m i (k+1):=by
   rw [←ex,wL_top];have e:(sN (k+1) fun i=>(wL M k).getD i 0*M i (k+1))=sN (k+1) fun i=>(outM m (k+1))⁻¹*(v i*m i (k+1)):=sN_congr fun i hi=>by
    rw [hcol i hi,hv,Rat.div_def];grind
   rw [e,sN_mul];have:=Rat.mul_inv_cancel _ hne;grind
  rw [ev] at h1;refine ⟨fun j hj=>?_,fun i hi=>?_,?_⟩
  ·have es:(sN (k+1+1) fun i=>(wL M (k+1)).getD i 0*m i j)=(sN (k+1) fun i=>v i*m i j)+x*m (k+1) j:=by
    show (sN (k+1) fun i=>(wL M (k+1)).getD i 0*m i j)+(wL M (k+1)).getD (k+1) 0*m (k+1) j=_;rw [ex]
    congr 1
    exact sN_congr fun i hi=>by rw [hw i hi]
   rw [es];dsimp only;by_cases hjk:j < k+1
   ·rw [hw j hjk];have h4:=h1 j hjk;have e5:(sN (k+1) fun i=>v i*redM m (k+1) i j)=(sN (k+1) fun i=>v i*m i j)+x*m (k+1) j:=by
     have:(sN (k+1) fun i=>v i*redM m (k+1) i j)=(sN (k+1) fun i=>v i*m i j)+sN (k+1) fun i=>(m (k+1) j / outM m (k+1))*(v i*m i (k+1)):=by
      rw [←sN_add];refine sN_congr fun i hi=>?_;unfold redM;rw [if_pos ⟨hi,hjk⟩,Rat.div_def,Rat.div_def];grind
     rw [this,sN_mul,←hx,Rat.div_def];have:=Rat.mul_inv_cancel _ hne;grind
    rw [←e5,h4]
   ·have:j=k+1:=by omega
    subst this;rw [ex,←hx];have h6:=hm.one (k+1) (by omega);have h7:sN (k+1+1) (m (k+1))=outM m (k+1)+m (k+1) (k+1):=rfl;have:x*outM m (k+1)+x*m (k+1) (k+1)=x*(outM m (k+1)+m (k+1) (k+1)):=by grind
    rw [this,←h7,h6,Rat.mul_one]
  ·by_cases hik:i < k+1
   ·rw [hw i hik,←hv];exact h2 i (by omega)
   ·have:i=k+1:=by omega
    subst this;rw [wL_top];refine sN_nonneg fun q hq=>Rat.mul_nonneg (h2 q (by omega)) ?_;rw [hcol q hq,Rat.div_def];exact Rat.mul_nonneg (hm.pos q (k+1) (by omega) (by omega)) (Rat.le_of_lt (Rat.inv_pos.2 ho))
  ·rw [hw 0 (by omega),←hv];exact h3
end Go.V
namespace Go.V
open Go.Proofs Go.RowKit
set_option maxRecDepth 10000
set_option maxHeartbeats 1000000
theorem abs_nn (q:Rat):0≤absQ q:=by unfold absQ;split <;> grind
theorem abs_ge (q:Rat):q≤absQ q∧-q≤absQ q:=by unfold absQ;split <;> constructor <;> grind
theorem abs_le {q m:Rat} (h1:q≤m) (h2:-q≤m):absQ q≤m:=by unfold absQ;split <;> grind
theorem abs_mul {a:Rat} (h:0≤a) (q:Rat):absQ (a*q)≤a*absQ q:=by
 obtain ⟨h1,h2⟩:=abs_ge q
 have g1:=Rat.mul_le_mul_of_nonneg_left h1 h
 have g2:=Rat.mul_le_mul_of_nonneg_left h2 h
 exact abs_le g1 (by grind)
theorem sN_sub (n:Nat) (f g:Nat→Rat):(sN n fun i=>f i - g i)=sN n f - sN n g:=by
 induction n with
 | zero=>show (0:Rat)=0 - 0;grind
 | succ n ih =>
  show (sN n fun i=>f i - g i)+(f n - g n)=(sN n f+f n) - (sN n g+g n)
  rw [ih];grind
theorem abs_sN (n:Nat) (f:Nat→Rat):absQ (sN n f)≤sN n fun i=>absQ (f i):=by
 refine abs_le (sN_le fun i _=>(abs_ge (f i)).1) ?_
 rw [←sN_neg]
 exact sN_le fun i _=>(abs_ge (f i)).2
def pz (q:Rat):Rat:=if q < 0 then 0 else q
def nz (q:Rat):Rat:=if q < 0 then -q else 0
theorem pz_nn (q:Rat):0≤pz q:=by unfold pz;split <;> grind
theorem nz_nn (q:Rat):0≤nz q:=by unfold nz;split <;> grind
theorem pn_sub (q:Rat):q=pz q - nz q:=by unfold pz nz;split <;> grind
theorem pn_add (q:Rat):absQ q=pz q+nz q:=by unfold absQ pz nz;split <;> grind
theorem contract {n:Nat} {P:Nat→Nat→Rat} {z:Nat→Rat} {d:Rat} (hz:sN n z=0) (hd:∀i k,i < n→k < n→(sN n fun j=>absQ (P i j - P k j))≤2*d) :
  (sN n fun j=>absQ (sN n fun i=>z i*P i j))≤d*sN n fun i=>absQ (z i):=by
 obtain ⟨s,es⟩:∃s,(sN n fun i=>pz (z i))=s:=⟨_,rfl⟩;have hn:(sN n fun i=>nz (z i))=s:=by
  have h1:sN n z=sN n fun i=>pz (z i) - nz (z i):=sN_congr fun i _=>pn_sub (z i);rw [sN_sub,hz,es] at h1;grind
 have hN:(sN n fun i=>absQ (z i))=2*s:=by
  have h1:(sN n fun i=>absQ (z i))=sN n fun i=>pz (z i)+nz (z i):=sN_congr fun i _=>pn_add (z i);rw [sN_add,es,hn] at h1;rw [h1];grind
 rw [hN];have s0:0≤s:=by rw [←es];exact sN_nonneg fun i _=>pz_nn (z i)
 by_cases hs:s=0
 ·have p0:=sN_eq_zero (f:=fun i=>pz (z i)) (fun i _=>pz_nn (z i)) (by rw [es,hs]);have n0:=sN_eq_zero (f:=fun i=>nz (z i)) (fun i _=>nz_nn (z i)) (by rw [hn,hs]);have z0:∀i,i < n→z i=0:=fun i hi=>by
   have h1:=p0 i hi;have h2:=n0 i hi;have h3:=pn_sub (z i);rw [h1,h2] at h3;rw [h3];grind
  have hl:(sN n fun j=>absQ (sN n fun i=>z i*P i j))=sN n fun _=>0:=sN_congr fun j _=>by
   have:(sN n fun i=>z i*P i j)=sN n fun _=>0:=sN_congr fun i hi=>by rw [z0 i hi,Rat.zero_mul]
   rw [this,sN_zero];decide
  rw [hl,sN_zero,hs];grind
 ·have sp:0 < s:=by grind
  have key:∀j,s*(sN n fun i=>z i*P i j)=sN n fun i=>sN n fun k=>pz (z i)*nz (z k)*(P i j - P k j):=fun j=>by
   obtain ⟨B,eB⟩:∃B,(sN n fun k=>nz (z k)*P k j)=B:=⟨_,rfl⟩;have e1:∀i,(sN n fun k=>pz (z i)*nz (z k)*(P i j - P k j))=pz (z i)*(P i j*s - B):=fun i=>by
    have e2:(sN n fun k=>pz (z i)*nz (z k)*(P i j - P k j))=sN n fun k=>pz (z i)*(P i j*nz (z k) - nz (z k)*P k j):=sN_congr fun k _=>by grind
    rw [e2,sN_mul,sN_sub,sN_mul,hn,eB]
   have e3:(sN n fun i=>sN n fun k=>pz (z i)*nz (z k)*(P i j - P k j))=sN n fun i=>s*(pz (z i)*P i j) - B*pz (z i):=sN_congr fun i _=>by rw [e1 i];grind
   rw [e3,sN_sub,sN_mul,sN_mul,es];have e4:(sN n fun i=>z i*P i j)=sN n fun i=>pz (z i)*P i j - nz (z i)*P i j:=sN_congr fun i _=>by have:=pn_sub (z i);grind
   rw [e4,sN_sub,eB];grind
  have h1:∀j,s*absQ (sN n fun i=>z i*P i j)≤sN n fun i=>sN n fun k=>pz (z i)*nz (z k)*absQ (P i j - P k j):=fun j=>by
   have e:s*absQ (sN n fun i=>z i*P i j)≤absQ (s*(sN n fun i=>z i*P i j)):=by
    unfold absQ;by_cases h:(sN n fun i=>z i*P i j) < 0
    ·have h2:s*(sN n fun i=>z i*P i j) < 0:=by
      have:=Rat.mul_pos sp (show 0 < -(sN n fun i=>z i*P i j) by grind);grind
     rw [if_pos h,if_pos h2];grind
    ·have h2:¬s*(sN n fun i=>z i*P i j) < 0:=by
      have:=Rat.mul_nonneg s0 (show 0≤(sN n fun i=>z i*P i j) by grind);grind
     rw [if_neg h,if_neg h2];exact Rat.le_refl
   refine Rat.le_trans e ?_;rw [key j];refine Rat.le_trans (abs_sN n _) (sN_le fun i _=>Rat.le_trans (abs_sN n _) (sN_le fun k _=>?_));exact abs_mul (Rat.mul_nonneg (pz_nn _) (nz_nn _)) _
  have h2:s*(sN n fun j=>absQ (sN n fun i=>z i*P i j))≤sN n fun i=>sN n fun k=>pz (z i)*nz (z k)*(2*d):=by
   rw [←sN_mul];refine Rat.le_trans (sN_le fun j _=>h1 j) ?_;rw [sN_comm];refine sN_le fun i hi=>?_;rw [sN_comm];refine sN_le fun k hk=>?_;rw [sN_mul];exact Rat.mul_le_mul_of_nonneg_left (hd i k hi hk) (Rat.mul_nonneg (pz_nn _) (nz_nn _))
  have h3:(sN n fun i=>sN n fun k=>pz (z i)*nz (z k)*(2*d))=s*(d*(2*s)):=by
   have e1:(sN n fun i=>sN n fun k=>pz (z i)*nz (z k)*(2*d))=sN n fun i=>(2*d*s)*pz (z i):=sN_congr fun i _=>by
    have e2:(sN n fun k=>pz (z i)*nz (z k)*(2*d))=sN n fun k=>(pz (z i)*(2*d))*nz (z k):=sN_congr fun k _=>by grind
    rw [e2,sN_mul,hn];grind
   rw [e1,sN_mul,es];grind
  rw [h3] at h2;exact Rat.le_of_mul_le_mul_left h2 sp
theorem map_atG {α:Type} {n j:Nat} {f:Nat→α} {d:α} (h:j < n):((List.range n).map f).getD j d=f j:=by
 rw [gD,List.getElem?_eq_getElem (by simpa using h)];simp
theorem dI_le {p:Mt} (h:MtOk p) {i k:Nat} (hi:i < p.length) (hk:k < p.length):dI p i k≤widestQ p:=by
 have hm:=mx_spec (PI p p.length 0) 0
 have hlt:∀a b,a < p.length→b < a→dI p a b≤widestQ p:=fun a b ha hb=>hm.2.1 _ (by
  unfold PI
  simp only [List.mem_append,List.mem_flatMap,List.mem_map,List.mem_range]
  exact .inl ⟨a,ha,b,hb,rfl⟩)
 rcases Nat.lt_trichotomy i k with g | g | g
 ·rw [dI_symm h.toSz hi hk];exact hlt k i hk g
 ·subst g
  have e:dI p i i=0:=by
   unfold dI distQ
   have:sN (p.getD i []).length (distT (p.getD i []) (p.getD i []))=sN (p.getD i []).length fun _=>0:=sN_congr fun j _=>by
    unfold distT
    rw [show (p.getD i []).getD j 0 - (p.getD i []).getD j 0=0 by grind]
    decide
   rw [this,sN_zero]
   grind
  rw [e];exact hm.1
 ·exact hlt i k hi g
theorem step_at {p:Mt} {w:List Rat} {n:Nat} (hw:w.length=n) {j:Nat} (hj:j < n):(stepQ p w).getD j 0=sN n fun i=>w.getD i 0*ent p i j:=by
 rw [gD,List.getElem?_eq_getElem (by rw [stepQ_len,hw];exact hj)]
 unfold stepQ stepAt
 simp [hw]
theorem step_sum {p:Mt} (h:MtOk p) {w:List Rat} (hw:w.length=p.length):(sN p.length fun j=>(stepQ p w).getD j 0)=sN p.length fun i=>w.getD i 0:=by
 have e:(sN p.length fun j=>(stepQ p w).getD j 0)=sN p.length fun j=>sN p.length fun i=>w.getD i 0*ent p i j:=sN_congr fun j hj=>step_at hw hj
 rw [e,sN_comm]
 refine sN_congr fun i hi=>?_
 rw [sN_mul,h.row_one hi,Rat.mul_one]
theorem dist_step {p:Mt} (h:MtOk p) {a b:List Rat} (ha:a.length=p.length) (hb:b.length=p.length) (hs:(sN p.length fun i=>a.getD i 0)=sN p.length fun i=>b.getD i 0) :
  distQ (stepQ p a) (stepQ p b)≤widestQ p*distQ a b:=by
 have c:=contract (n:=p.length) (P:=ent p) (z:=fun i=>a.getD i 0 - b.getD i 0) (d:=widestQ p) (by rw [sN_sub,hs];grind) fun i k hi hk=>by
  have g:=dI_le h hi hk;unfold dI distQ distT at g;rw [h.sq _ (getD_mem hi)] at g;have g2:(sN p.length fun j=>absQ (ent p i j - ent p k j)) / 2≤widestQ p:=g;grind
 unfold distQ;rw [stepQ_len,ha];have e1:sN p.length (distT (stepQ p a) (stepQ p b))=sN p.length fun j=>absQ (sN p.length fun i=>(a.getD i 0 - b.getD i 0)*ent p i j):=sN_congr fun j hj=>by
  unfold distT;rw [step_at ha hj,step_at hb hj,←sN_sub]
  congr 1
  exact sN_congr fun i _=>by grind
 rw [e1];have e2:sN p.length (distT a b)=sN p.length fun i=>absQ (a.getD i 0 - b.getD i 0):=rfl;rw [e2];obtain ⟨A,eA⟩:∃A,(sN p.length fun j=>absQ (sN p.length fun i=>(a.getD i 0 - b.getD i 0)*ent p i j))=A:=⟨_,rfl⟩;obtain ⟨B,eB⟩:∃B,(sN p.length fun i=>absQ (a.getD i 0 - b.getD i 0))=B:=⟨_,rfl⟩;rw [eA,eB] at c;rw [eA,eB];have h2:widestQ p*(B / 2)=(widestQ p*B) / 2:=by grind
 rw [h2];grind
theorem after_sum {p:Mt} (h:MtOk p) {i:Nat} (hi:i < p.length):∀k,(sN p.length fun j=>(afterQ p k (pointQ p.length i)).getD j 0)=1
 | 0=>by
  have e:(sN p.length fun j=>(afterQ p 0 (pointQ p.length i)).getD j 0)=sN p.length fun j=>if j=i then (fun _=>(1:Rat)) j else 0:=sN_congr fun j hj=>pointQ_at hj
  rw [e,sN_delta,if_pos hi]
 | k+1=>by
  show (sN p.length fun j=>(stepQ p (afterQ p k (pointQ p.length i))).getD j 0)=1
  rw [step_sum h (by rw [afterQ_len,pointQ_len])]
  exact after_sum h hi k
theorem widest_nn (p:Mt):0≤widestQ p:=(mx_spec (PI p p.length 0) 0).1
theorem dist_after {p:Mt} (h:MtOk p) {i l:Nat} (hi:i < p.length) (hl:l < p.length):∀k,distQ (afterQ p (k+1) (pointQ p.length i)) (afterQ p (k+1) (pointQ p.length l))≤widestQ p ^ (k+1)
 | 0=>by
  show distQ (stepQ p (pointQ p.length i)) (stepQ p (pointQ p.length l))≤_
  rw [step_point h hi,step_point h hl,Nat.zero_add,Rat.pow_one]
  exact dI_le h hi hl
 | k+1=>by
  have ih:=dist_after h hi hl k
  have g:=dist_step h (a:=afterQ p (k+1) (pointQ p.length i)) (b:=afterQ p (k+1) (pointQ p.length l)) (by rw [afterQ_len,pointQ_len]) (by rw [afterQ_len,pointQ_len]) (by rw [after_sum h hi,after_sum h hl])
  refine Rat.le_trans g ?_
  have g2:=Rat.mul_le_mul_of_nonneg_left ih (widest_nn p)
  rw [Rat.pow_succ (widestQ p) (k+1),Rat.mul_comm (widestQ p ^ (k+1))]
  exact g2
theorem widest_pow {p:Mt} (h:MtOk p) (k:Nat):widestQ (powM p (k+1))≤widestQ p ^ (k+1):=by
 have hp:(0:Rat)≤widestQ p ^ (k+1):=by
  have:∀j:Nat,0≤widestQ p ^ j:=fun j=>by
   induction j with
   | zero=>rw [Rat.pow_zero];decide
   | succ j ih=>rw [Rat.pow_succ];exact Rat.mul_nonneg ih (widest_nn p)
  exact this _
 rcases (mx_spec (PI (powM p (k+1)) (powM p (k+1)).length 0) 0).2.2 with e | e
 ·show mx 0 _≤_
  rw [e];exact hp
 ·rcases PI_mem e with ⟨a,b,h1,h2,h3⟩ | ⟨b,h2,_⟩
  ·show mx 0 _≤_
   rw [h3]
   rw [powM_len] at h1
   unfold dI
   have e1:(powM p (k+1)).getD a []=afterQ p (k+1) (pointQ p.length a):=map_atG h1
   have e2:(powM p (k+1)).getD b []=afterQ p (k+1) (pointQ p.length b):=map_atG (by omega)
   rw [e1,e2]
   exact dist_after h h1 (by omega) k
  ·omega
end Go.V
namespace Go.V
mutual
def AV.okB (id:Nat):AV→Bool
 | .ls k lo n _=>!Nat.beq k id || Nat.blt 0 (lo+n)
 | .ap k _ _=>!Nat.beq k id
 | .ms k _ _ _ _=>!Nat.beq k id
 | .me k _ _ _ _=>!Nat.beq k id
 | .ag cs=>AV.okBs id cs
 | .tup cs=>AV.okBs id cs
 | _=>true
def AV.okBs (id:Nat):List AV→Bool
 | []=>true
 | x :: r=>AV.okB id x && AV.okBs id r
end
theorem okBs_get {id:Nat}:∀{cs:List AV},AV.okBs id cs=true→∀x,x∈cs→AV.okB id x=true
 | [],_,x,h=>by cases h
 | y :: r,h,x,hx=>by
  simp only [AV.okBs,Bool.and_eq_true] at h
  rcases List.mem_cons.1 hx with rfl | hx
  ·exact h.1
  ·exact okBs_get h.2 x hx
def okBL (id:Nat):LL→Bool
 | []=>true
 | (k,.box _ cs) :: r=>(Nat.beq k id || AV.okBs id cs) && okBL id r
 | _ :: r=>okBL id r
theorem okBL_get {id:Nat}:∀{l:LL},okBL id l=true→∀j m cs,j≠id→lget j l = .box m cs→AV.okBs id cs=true
 | [],_,j,m,cs,_,h=>by simp [lget] at h
 | (k,.box w cs) :: r,h,j,m,cs',hj,hb=>by
  simp only [okBL,Bool.and_eq_true,Bool.or_eq_true] at h
  rw [lget_cons] at hb;split at hb
  ·rename_i e
   cases hb
   exact h.1.resolve_left fun e2=>hj (e.trans (Nat.eq_of_beq_eq_true e2))
  ·exact okBL_get h.2 j m cs' hj hb
 | (k,.no) :: r,h,j,m,cs',hj,hb | (k,.row _ _ _) :: r,h,j,m,cs',hj,hb | (k,.mat _ _ _) :: r,h,j,m,cs',hj,hb=>by
  rw [lget_cons] at hb;split at hb
  ·cases hb
  ·exact okBL_get (l:=r) h j m cs' hj hb
theorem AVR.toB {κ:Know} {ρ:Place} {id:Nat} {L:Loc} {ib:List Pl} {v:Value} {x:AV} (hL:ρ id=some L) (h:AVR κ ρ v x) (hx:AV.okB id x=true):AVR κ (ρ.put id (some ⟨L.b,L.o,L.N,1,ib⟩)) v x:=by
 have old:∀{i L'},(ρ.put id (some ⟨L.b,L.o,L.N,1,ib⟩)) i=some L'→∃L0,ρ i=some L0∧L0.b=L'.b∧L0.o=L'.o:=fun {i L'} h=>by
  by_cases hi:i=id
  ·subst hi;rw [put_self] at h;cases h;exact ⟨L,hL,rfl,rfl⟩
  ·rw [put_ne hi] at h;exact ⟨L',h,rfl,rfl⟩
 have ne:∀{i},(!Nat.beq i id)=true→i≠id:=fun {i} h e=>by subst e;simp at h
 induction h with
 | j x=>exact .j x
 | d x c h=>exact .d x c h
 | ag vs cs hn ho h ih=>exact .ag vs cs hn ho fun k v c h1 h2=>ih k v c h1 h2 (okBs_get (by simpa [AV.okB] using hx) c (List.mem_of_getElem? h2))
 | tup vs cs hn h ih=>exact .tup vs cs hn fun k v c h1 h2=>ih k v c h1 h2 (okBs_get (by simpa [AV.okB] using hx) c (List.mem_of_getElem? h2))
 | lp x i off h=>exact .lp x i off fun L' hL'=>by obtain ⟨L0,g1,g2,g3⟩:=old hL';rw [←g2,←g3];exact h L0 g1
 | pe x i j f sz h=>exact .pe x i j f sz fun L' hL'=>by obtain ⟨L0,g1,g2,g3⟩:=old hL';rw [←g2,←g3];exact h L0 g1
 | ap x i n sz h =>
  have hi:=ne (by simpa [AV.okB] using hx)
  exact .ap x i n sz fun L' hL'=>h L' (by rw [put_ne hi] at hL';exact hL')
 | ls x i lo len sz h =>
  refine .ls x i lo len sz fun L' hL'=>?_
  by_cases hi:i=id
  ·subst hi
   rw [put_self] at hL';cases hL'
   obtain ⟨cap,A,h1,h2,h3,h4,h5⟩:=h L hL
   have hp:0 < lo+len:=by
    have:(!Nat.beq i i || Nat.blt 0 (lo+len))=true:=hx
    rw [show Nat.beq i i=true from Nat.beq_refl i,Bool.not_true,Bool.false_or] at this
    exact Nat.le_of_ble_eq_true this
   exact ⟨cap,A,h1,h2,h3,h4,by show 1≤lo+cap;omega⟩
  ·exact h L' (by rw [put_ne hi] at hL';exact hL')
 | ep b off rows i f sz vs hz h1 h2=>exact .ep b off rows i f sz vs hz h1 h2
 | pp b off cs o vs h1 h2=>exact .pp b off cs o vs h1 h2
 | ms x i r lo len sz h =>
  have hi:=ne (by simpa [AV.okB] using hx)
  exact .ms x i r lo len sz fun L' hL'=>h L' (by rw [put_ne hi] at hL';exact hL')
 | me x i r j f sz h =>
  have hi:=ne (by simpa [AV.okB] using hx)
  exact .me x i r j f sz fun L' hL'=>h L' (by rw [put_ne hi] at hL';exact hL')
section
variable {P:Program} {G:Ctx} {κ:Know} {ρ:Place} {t:TL} {l:LL} {a:Act} {w:World}
theorem Mem.toB (hm:Mem G κ ρ l w) {id id2 lo n sz:Nat} {rows:List (List C)} (hl:lget id l = .box true [.ls id2 lo n sz]) (hl2:lget id2 l = .row true sz rows) (hne:id≠id2) (hid:id < 1000000) (hok:okBL id l=true) :
  ∃ρ',Mem G κ ρ' ((id,.mat sz [.r 0 lo n] [rows]) :: lrem id2 l) w∧∀v x,AV.okB id x=true→AVR κ ρ v x→AVR κ ρ' v x:=by
 have hob:=hm.ob id;rw [hl] at hob;obtain ⟨L,arr,E,fz,hL,hh,hN,hfz,hcs⟩:=hob;have:=hfz rfl;subst this;have hob2:=hm.ob id2;rw [hl2] at hob2;obtain ⟨L2,arr2,E2,fz2,hL2,hh2,hN2,hfz2,hz2,hkn2,hcs2⟩:=hob2;have:=hfz2 rfl;subst this;have w1:(lget id l).wr=true:=by rw [hl];rfl
 have w2:(lget id2 l).wr=true:=by rw [hl2];rfl
 have hd:=hm.drop id2;let L':Loc:=⟨L.b,L.o,L.N,1,[L2.pl]⟩;have hL1:(ρ.put id2 Option.none) id=some L:=by rw [put_ne hne];exact hL
 have hAV:∀v x,AV.okB id x=true→AVR κ ρ v x→AVR κ ((ρ.put id2 Option.none).put id (some L')) v x:=fun v x hx hv=>AVR.toB hL1 hv.gone hx;have hhas:∀b,L'.has b→b=L.b∨b=L2.b:=fun b h=>h.imp (fun e=>e) fun ⟨M,hM,e⟩=>by
  have:M=L2.pl:=by simpa [L'] using hM
  subst this;exact e
 have hb12:L2.b≠L.b:=fun e=>hm.sep id id2 L L2 hne hL hL2 w1 L.b L.has_b (e▸L2.has_b);have hg:∀i,lget i ((id,.mat sz [.r 0 lo n] [rows]) :: lrem id2 l)=if i=id then .mat sz [.r 0 lo n] [rows] else if i=id2 then .no else lget i l:=fun i=>by
  rw [lget_cons,lget_lrem]
 have hρ:∀{i Li},i≠id→((ρ.put id2 Option.none).put id (some L')) i=some Li→i≠id2∧ρ i=some Li:=fun {i Li} hi h=>by
  rw [put_ne hi] at h;exact put_none_some h
 refine ⟨(ρ.put id2 Option.none).put id (some L'),⟨fun i=>?_,fun i j Li Lj hij hi hj hw b hb=>?_,fun i Li hi hw b hb=>?_,fun i Li hi b hb=>?_,hm.kn,hm.one,hm.kn0,hm.fr,fun i Li h1 hi=>?_⟩,hAV⟩
 ·rw [hg];by_cases h1:i=id
  ·subst h1;rw [if_pos rfl];refine ⟨L',put_self _ _,⟨arr,E,hh,hN,Nat.le_refl _,fun k c hc=>?_⟩,rfl,fun r M row hM hr=>?_,fun r M hM=>?_,fun p q M M' hp hq hpq=>?_⟩
   ·cases k with
    | zero =>
     have hc:MC.r 0 lo n=c:=by simpa using hc
     subst hc;obtain ⟨x,f1,f2,f3⟩:=hcs 0 (.ls id2 lo n sz) rfl;exact ⟨x,f1,⟨L2.pl,rfl,f2.ls_at hL2⟩,f3⟩
    | succ k=>simp at hc
   ·cases r with
    | zero =>
     have hM:L2.pl=M:=by simpa [L'] using hM
     have hr:rows=row:=by simpa using hr
     subst hM;subst hr;exact ⟨arr2,E2,hh2,hN2,hz2,hkn2,hcs2⟩
    | succ r=>simp at hr
   ·cases r with
    | zero =>
     have hM:L2.pl=M:=by simpa [L'] using hM
     subst hM;exact hb12
    | succ r=>simp [L'] at hM
   ·have hp':=some_lt hp;have hq':=some_lt hq;simp [L'] at hp' hq';omega
  ·rw [if_neg h1];by_cases h2:i=id2
   ·subst h2;rw [if_pos rfl];show ((ρ.put i Option.none).put id (some L')) i=Option.none;rw [put_ne h1,put_self]
   ·rw [if_neg h2];refine (hm.ob i).move (Know.le_refl _) (by rw [put_ne h1,put_ne h2]) (fun _ _ _ _=>rfl) fun m cs hb k c v hc hv=>hAV v c (okBs_get (okBL_get hok i m cs h1 hb) c (List.mem_of_getElem? hc)) hv
 ·rw [hg] at hw;by_cases h1:i=id
  ·subst h1;rw [put_self] at hi;cases hi;obtain ⟨h2,h3⟩:=hρ (Ne.symm hij) hj;rcases hhas b hb with e | e
   ·rw [e];exact hm.sep i j L Lj hij hL h3 w1 _ L.has_b
   ·rw [e];exact hm.sep id2 j L2 Lj (Ne.symm h2) hL2 h3 w2 _ L2.has_b
  ·obtain ⟨h2,h3⟩:=hρ h1 hi;rw [if_neg h1,if_neg h2] at hw;by_cases h4:j=id
   ·subst h4;rw [put_self] at hj;cases hj;intro hb2;rcases hhas b hb2 with e | e
    ·exact hm.sep i j Li L h1 h3 hL hw b hb (e▸L.has_b)
    ·exact hm.sep i id2 Li L2 h2 h3 hL2 hw b hb (e▸L2.has_b)
   ·obtain ⟨_,h6⟩:=hρ h4 hj;exact hm.sep i j Li Lj hij h3 h6 hw b hb
 ·rw [hg] at hw;by_cases h1:i=id
  ·subst h1;rw [put_self] at hi;cases hi;rcases hhas b hb with e | e
   ·rw [e];exact hm.fre i L hL w1 _ L.has_b
   ·rw [e];exact hm.fre id2 L2 hL2 w2 _ L2.has_b
  ·obtain ⟨h2,h3⟩:=hρ h1 hi;rw [if_neg h1,if_neg h2] at hw;exact hm.fre i Li h3 hw b hb
 ·by_cases h1:i=id
  ·subst h1;rw [put_self] at hi;cases hi;rcases hhas b hb with e | e
   ·rw [e];exact hm.own i L hL _ L.has_b
   ·rw [e];exact hm.own id2 L2 hL2 _ L2.has_b
  ·exact hm.own i Li (hρ h1 hi).2 b hb
 ·by_cases h2:i=id
  ·omega
  ·exact hm.par i Li h1 (hρ h2 hi).2
end
end Go.V
namespace Go.V
section
variable {P:Program} {G:Ctx} {κ:Know} {ρ:Place} {t:TL} {l:LL} {a:Act} {w:World}
end
end Go.V
namespace Go.V
section
variable {P:Program} {G:Ctx}
end
end Go.V
namespace Go.V
section
variable {P:Program} {G:Ctx} {κ:Know} {ρ:Place} {t:TL} {l:LL} {a:Act} {w:World}
theorem Mem.toP (hm:Mem G κ ρ l w) {id:Nat} {cs:List C} (hl:lget id l = .box true (cs.map .d)) (hid:id < 1000000) (hok:okBL id l=true) :
  ∃ρ',Mem G κ ρ' ((id,.row true cs.length [cs]) :: l) w∧∀v x,AV.okB id x=true→AVR κ ρ v x→AVR κ ρ' v x:=by
 have hob:=hm.ob id;rw [hl] at hob;obtain ⟨L,arr,E,fz,hL,hh,hN,hfz,hcs⟩:=hob;let L':Loc:=⟨L.b,L.o,L.N,1,L.ib⟩;have hAV:∀v x,AV.okB id x=true→AVR κ ρ v x→AVR κ (ρ.put id (some L')) v x:=fun v x hx hv=>AVR.toB hL hv hx;have hg:∀i,lget i ((id,.row true cs.length [cs]) :: l)=if i=id then .row true cs.length [cs] else lget i l:=fun i=>by rw [lget_cons]
 have hρ:∀{i Li},(ρ.put id (some L')) i=some Li→∃L0,ρ i=some L0∧∀b,Li.has b↔L0.has b:=fun {i Li} h=>by
  by_cases hi:i=id
  ·subst hi;rw [put_self] at h;cases h;exact ⟨L,hL,fun b=>Iff.rfl⟩
  ·rw [put_ne hi] at h;exact ⟨Li,h,fun b=>Iff.rfl⟩
 have hw:∀i,(lget i ((id,.row true cs.length [cs]) :: l)).wr=(lget i l).wr:=fun i=>by
  rw [hg];split
  ·rename_i e;subst e;rw [hl];rfl
  ·rfl
 refine ⟨ρ.put id (some L'),⟨fun i=>?_,fun i j Li Lj hij hi hj hwi b hb=>?_,fun i Li hi hwi b hb=>?_,fun i Li hi b hb=>?_,hm.kn,hm.one,hm.kn0,hm.fr,fun i Li h1 hi=>?_⟩,hAV⟩
 ·rw [hg];by_cases h1:i=id
  ·subst h1;rw [if_pos rfl];refine ⟨L',arr,E,fz,put_self _ _,hh,hN,hfz,fun r hr=>by simp at hr;rw [hr],Nat.le_refl _,fun k c hc=>?_⟩;have hc:cs[k]? = some c:=by simpa using hc
   obtain ⟨x,f1,f2,f3⟩:=hcs k (.d c) (by rw [List.getElem?_map,hc];rfl);exact ⟨x,f1,f2.repr,f3⟩
  ·rw [if_neg h1];refine (hm.ob i).move (Know.le_refl _) (by rw [put_ne h1]) (fun _ _ _ _=>rfl) fun m cs hb k c v hc hv=>hAV v c (okBs_get (okBL_get hok i m cs h1 hb) c (List.mem_of_getElem? hc)) hv
 ·obtain ⟨L1,g1,g2⟩:=hρ hi;obtain ⟨L2,g3,g4⟩:=hρ hj;rw [hw] at hwi;exact fun e=>hm.sep i j L1 L2 hij g1 g3 hwi b ((g2 b).1 hb) ((g4 b).1 e)
 ·obtain ⟨L1,g1,g2⟩:=hρ hi;rw [hw] at hwi;exact hm.fre i L1 g1 hwi b ((g2 b).1 hb)
 ·obtain ⟨L1,g1,g2⟩:=hρ hi;exact hm.own i L1 g1 b ((g2 b).1 hb)
 ·have:i≠id:=fun e=>by omega
  rw [put_ne this] at hi;exact hm.par i Li h1 hi
def endP (ty:TypeId→Ty) (rs:List ResultVar) (id:Nat) (cs:List C) (e:Ex) (t:TL) (l:LL):Prop :=
 match e with
 | .x _=>False
 | _=>resK ty t l rs fun ys=>(ys=[.lp id 0]∧lget id l = .box true (cs.map .d))∧(okBL id l && Nat.blt id 1000000)=true
theorem Fn.introP {ty:TypeId→Ty} {ks:List Nat} {f:FuncId} {fn:Func} {c:Code} {xs:List AV} {l0:LL} (id:Nat) (cs:List C) (hty:TyOk P ty) (hf:P.funcs[f]? = some fn) (hb:fn.body=some c)
  (hname:(fn.name == "runtime.NumGoroutine")=false) (hx:Nat.ble xs.length fn.ntmps=true) (hd:dstCode fn.ntmps c=true)
  (h:vcCode P ty ks c (slots 0 xs) l0 (endP ty fn.results.toList id cs)):Fn P f xs l0 (.pe id 0 0 cs.length) [(id,.row true cs.length [cs])] where
 en:=⟨fn,hf,by rw [hb];rfl,hname⟩
 out:=fun κ ρ w vs hm hvs hv=>by
  have hxl:=Nat.le_of_ble_eq_true hx;refine calls_of_wp hf hb (Code.wp_mono ?_ (vcCode_sound (G:=⟨w,Mof ρ l0,κ,fn.ntmps,ρ⟩) hty c _ κ ρ _ _ _ w hd ?_ h))
  ·rintro e a' w' ⟨x,κ',ρ',t',l',h1,h2,h3,h4⟩;have key:endP ty fn.results.toList id cs .n t' l'→a'.defers=[]∧∃v,(results fn a'.tmps).run P w' = .ok v w'∧∃v_1 κ' ρ',Ending.returned v = .returned v_1∧κ.le κ'∧Mem ⟨w,Mof ρ l0,κ,0,ρ⟩ κ' ρ' [(id,.row true cs.length [cs])] w'∧AVR κ' ρ' v_1 (.pe id 0 0 cs.length):=by
    intro h4;refine ⟨h3.df,?_⟩;unfold endP at h4;obtain ⟨us,ys,g1,g2,g3,g4⟩:=resK_sound hty h3 h4;obtain ⟨⟨k6,hl⟩,q1⟩:=g4;simp only [Bool.and_eq_true] at q1;refine ⟨_,results_run g1,(if h:us.toArray.size=1 then us.toArray[0] else .tuple us.toArray),?_⟩;have hm3:Mem ⟨w,Mof ρ l0,κ,0,ρ⟩ κ' ρ' l' w':=⟨h3.m.ob,h3.m.sep,h3.m.fre,h3.m.own,h3.m.kn,h3.m.one,h3.m.kn0,⟨h3.m.fr.os,h3.m.fr.tape,h3.m.fr.output,h3.m.fr.size,h3.m.fr.block⟩,h3.m.par⟩;obtain ⟨ρ2,hm4,hAV⟩:=hm3.toP hl (Nat.le_of_ble_eq_true q1.2) q1.1;have hr:Rel ⟨w,Mof ρ l0,κ,0,ρ⟩ κ' ρ2 [] ((id,.row true cs.length [cs]) :: l') ⟨Array.replicate 0 undef,[]⟩ w':=⟨hm4,rfl,by simp,fun i=>.j _⟩;obtain ⟨ρ3,f1,f2⟩:=hr.less (t':=[]) (l':=[(id,.row true cs.length [cs])]) (fun i=>.inl rfl) (fun i=>by
     rw [lget_cons,lget_cons];by_cases hi:i=id
     ·rw [if_pos hi,if_pos hi];exact .inr rfl
     ·rw [if_neg hi];exact .inl rfl)
    have hl1:us.length=1:=by rw [g2,k6];rfl
    refine ⟨κ',ρ3,rfl,h2,f2.m,?_⟩
    match us,ys,hl1,k6,g2 with
    | [u],[y'],_,k6,_ =>
     have e:y' = .lp id 0:=by simpa using k6
     subst e;have h5:=hAV u (.lp id 0) rfl (g3 0 u _ rfl rfl);show AVR κ' ρ3 u (.pe id 0 0 cs.length);cases h5 with
     | lp _ _ _ h6=>exact .pe _ _ _ _ _ fun L hL=>by rw [h6 L (f1 id L hL)];simp
   cases e with
   | normal=>have h1':some Ex.n=some x:=h1;cases h1';exact key h4
   | ret=>have h1':some Ex.r=some x:=h1;cases h1';exact key h4
   | exit id=>have h1':some (Ex.x id)=some x:=h1;cases h1';exact (show False from h4).elim
   | _=>simp [exOf] at h1
  ·refine ⟨⟨hm.ob,hm.sep,hm.fre,hm.own,hm.kn,hm.one,hm.kn0,⟨rfl,rfl,rfl,Nat.le_refl _,fun _ _ _=>rfl⟩,fun i L _ h=>h⟩,rfl,(by show (vs++Array.replicate (fn.ntmps - vs.size) undef).size=fn.ntmps;rw [Array.size_append,Array.size_replicate];omega),fun i=>?_⟩;rw [get_slots,if_pos (Nat.zero_le _)];simp only [Nat.sub_zero];rcases Nat.lt_or_ge i vs.size with hlt | hge
   ·have h1:(vs++Array.replicate (fn.ntmps - vs.size) undef).getD i undef=vs[i]:=by
     rw [Array.getD_eq_getD_getElem?,Array.getElem?_append_left hlt,Array.getElem?_eq_getElem hlt];rfl
    rw [h1];have hix:i < xs.length:=by omega
    have h2:xs.getD i .j=xs[i]:=by simp [gD,hix]
    rw [h2];exact hv i _ _ (by simp) (List.getElem?_eq_getElem hix)
   ·have:xs.getD i .j = .j:=by rw [gD,List.getElem?_eq_none (by omega)];rfl
    rw [this];exact .j _
end
end Go.V
namespace Go.V
open Go.Proofs Go.RowKit
set_option maxRecDepth 10000
set_option maxHeartbeats 1000000
theorem dd_isD (n:Nat):∀b,b∈dd n→IsD b:=by
 induction n using Nat.strongRecOn with
 | _ n ih =>
  intro b hb
  by_cases h:n < 10
  ·rw [dd_small h] at hb
   rw [List.mem_singleton.1 hb]
   have:=isD_ofNat h
   unfold IsD;omega
  ·rw [dd_big h] at hb
   rcases List.mem_append.1 hb with hb | hb
   ·exact ih _ (by omega) b hb
   ·rw [List.mem_singleton.1 hb]
    have:=isD_ofNat (d:=n % 10) (by omega)
    unfold IsD;omega
theorem dd_head (n:Nat):(dd n).length=1∨(dd n).head? ≠ some 48:=by
 induction n using Nat.strongRecOn with
 | _ n ih =>
  by_cases h:n < 10
  ·exact .inl (by rw [dd_small h];rfl)
  ·refine .inr ?_
   rw [dd_big h]
   have hne:=dd_ne (n / 10)
   rcases ih (n / 10) (by omega) with h1 | h1
   ·by_cases h9:n / 10 < 10
    ·rw [dd_small h9]
     simp only [List.singleton_append,List.head?_cons,ne_eq,Option.some.injEq]
     intro e
     have:=isD_ofNat h9
     rw [e] at this
     have e2:(48:UInt8).toNat=48:=rfl
     omega
    ·have h2:1 < (dd (n / 10)).length:=by
      rw [dd_big h9,List.length_append]
      have:=List.length_pos_iff.2 (dd_ne (n / 10 / 10))
      simp only [List.length_singleton];omega
     omega
   ·intro e
    apply h1
    cases hd:dd (n / 10) with
    | nil=>exact absurd hd hne
    | cons a t=>rw [hd] at e;simpa using e
theorem okN_dd {n:Nat} (h:(dd n).length≤200):okN (dd n):=⟨dd_ne n,h,dd_isD n,dd_head n⟩
theorem dv_dd (n:Nat):dv (dd n)=n:=dv_dec n
theorem cutB_none {c:UInt8} {s:List UInt8} (h:c ∉ s):cutB c s=(s,[],false):=by
 unfold cutB
 rcases indexByte_spec c s with ⟨_,h2⟩ | ⟨p,r,h1,_,_⟩
 ·rw [h2];rfl
 ·exact absurd (by rw [h1];simp) h
theorem cutB_some {c:UInt8} {p r:List UInt8} (h:c ∉ p):cutB c (p++c :: r)=(p,r,true):=by
 have hx:Lib.indexByte (p++c :: r) c=p.length:=by
  induction p with
  | nil=>simp [Lib.indexByte]
  | cons b p ih =>
   have hb:(b == c)=false:=by
    have:b≠c:=fun e=>h (by rw [e];simp);simpa using this
   have h2:=ih fun e=>h (List.mem_cons_of_mem _ e);have h3:((p.length:Int) == -1)=false:=by simp
   simp [Lib.indexByte,hb,h2,h3]
 unfold cutB;rw [hx];show (_,_,_)=_;simp
theorem not47 {s:List UInt8} (h:∀b,b∈s→IsD b):(47:UInt8) ∉ s:=fun e=>by
 have:=h _ e
 unfold IsD at this
 have e2:(47:UInt8).toNat=47:=rfl
 omega
theorem pre_dd (g:Bool) (n:Nat):Lib.hasPrefix ((if g then [45] else [])++dd n) [45]=g∧Lib.trimPrefix ((if g then [45] else [])++dd n) [45]=dd n:=by
 cases g
 ·have h:Lib.hasPrefix (dd n) [45]=false:=by
   cases hd:dd n with
   | nil=>rfl
   | cons a t =>
    have:=dd_isD n a (by rw [hd];simp)
    unfold Lib.hasPrefix
    have hb:((45:UInt8) == a)=false:=by
     have:(45:UInt8)≠a:=fun e=>by
      subst e;unfold IsD at this
      have e2:(45:UInt8).toNat=45:=rfl
      omega
     simpa using this
    simp [List.isPrefixOf,hb]
  refine ⟨by simpa using h,?_⟩
  unfold Lib.trimPrefix
  simp [h]
 ·constructor
  ·simp [Lib.hasPrefix,List.isPrefixOf]
  ·simp [Lib.trimPrefix,Lib.hasPrefix,List.isPrefixOf]
theorem rdRat_ratT {q:Rat} (h:fitsQ q=true):rdRat (ratT q)=some q:=by
 unfold fitsQ at h;simp only [Bool.and_eq_true,decide_eq_true_eq] at h;obtain ⟨h1,h2⟩:=h;have n1:=not47 (dd_isD (tp q));have hp:(47:UInt8) ∉ (if ng q=true then [45] else [])++dd (tp q):=by
  intro e;rcases List.mem_append.1 e with e | e
  ·split at e
   ·rw [List.mem_singleton] at e;cases e
   ·cases e
  ·exact n1 e
 obtain ⟨p1,p2⟩:=pre_dd (ng q) (tp q);have hz:¬(ng q=true∧tp q=0):=fun ⟨a,b⟩=>by rw [ng_zero b] at a;cases a
 have hm:=mk_parts q;unfold rdRat ratT;by_cases hd:q.den=1
 ·rw [if_pos hd,List.append_nil,cutB_none hp];simp only [p1,p2,dv_dd];rw [if_neg (by rintro (e | e);exact e (okN_dd h1);exact hz e)];simp only [if_true];rw [hd] at hm;rw [hm]
 ·rw [if_neg hd,cutB_some hp];simp only [p1,p2,dv_dd];rw [if_neg (by rintro (e | e);exact e (okN_dd h1);exact hz e)];have hg:(tp q).gcd q.den=1:=by have:=q.reduced;unfold tp;exact this
  have h0:=q.den_nz;simp only [Bool.true_eq_false,if_false];rw [if_neg (by rintro (e | e | e);exact e (okN_dd h2);omega;exact e hg),hm]
end Go.V
namespace Go.V
open Go.Proofs Go.RowKit
set_option maxRecDepth 10000
set_option maxHeartbeats 1000000
theorem fn_compared (p q:Rat) (hp:sz p≤100000000000) (hq:sz q≤100000000000):Fn Tryz.prog 30 [rI p,rI q] [] (I (if p < q then -1 else if q < p then 1 else 0)) []:=by
 have c:=fn_rcmp p q hp hq
 have h1:=@rcI_neg p q
 have h2:=@rcI_zero p q
 refine Fn.intro (ks:=[0,1,2,3,4,5,9,12]) hty rfl rfl rfl rfl rfl ?_
 conv=>whnf
 refine VCall.of_data c (nd _) ?_
 generalize rcI p q=r at h1 h2
 conv=>whnf
 by_cases hr:r < 0
 ·rw [decide_eq_true hr]
  conv=>whnf
  exact ⟨by rw [if_pos (h1.1 hr)],trivial,rfl⟩
 ·rw [decide_eq_false hr]
  conv=>whnf
  by_cases hr2:0 < r
  ·rw [decide_eq_true hr2]
   conv=>whnf
   refine ⟨?_,trivial,rfl⟩
   have h3:¬p < q:=fun e=>hr (h1.2 e)
   have h4:q < p:=by
    have h5:¬p=q:=fun e=>by have:=h2.2 e;omega
    grind
   rw [if_neg h3,if_pos h4]
  ·rw [decide_eq_false hr2]
   conv=>whnf
   refine ⟨?_,trivial,rfl⟩
   have h5:p=q:=h2.1 (by omega)
   subst h5
   rw [if_neg (show ¬p < p by grind),if_neg (show ¬p < p by grind)]
def rNg:Option Rat→Bool
 | some q=>ng q
 | none=>false
def rTp:Option Rat→Nat
 | some q=>tp q
 | none=>0
def rDn:Option Rat→Nat
 | some q=>q.den
 | none=>0
theorem rO_eq (o:Option Rat):rO o = .ag [B (rNg o),nI (rTp o),nI (rDn o)]:=by cases o <;> rfl
theorem fn_two (s t:List UInt8) (hs:s.length≤1000000000000) (ht:t.length≤1000000000000):Fn Tryz.prog 29 [Str s,Str t] [] (.tup [rO (rdRat s),rO (rdRat t),B ((rdRat s).isSome && (rdRat t).isSome)]) []:=by
 have c1:=fn_readRat s hs
 have c2:=fn_readRat t ht
 rw [rO_eq] at c1 c2
 rw [rO_eq,rO_eq]
 generalize rNg (rdRat s)=x1 at c1 ⊢
 generalize rTp (rdRat s)=x2 at c1 ⊢
 generalize rDn (rdRat s)=x3 at c1 ⊢
 generalize (rdRat s).isSome=x4 at c1 ⊢
 generalize rNg (rdRat t)=y1 at c2 ⊢
 generalize rTp (rdRat t)=y2 at c2 ⊢
 generalize rDn (rdRat t)=y3 at c2 ⊢
 generalize (rdRat t).isSome=y4 at c2 ⊢
 refine Fn.intro (ks:=[0,1,4,5,6,7,8,9,10]) hty rfl rfl rfl rfl rfl ?_
 conv=>whnf
 refine VCall.of_data c1 (ndT (fun k=>rfl)) ?_
 conv=>whnf
 refine VCall.of_data c2 (ndT (fun k=>rfl)) ?_
 conv=>whnf
 cases x4
 ·refine VDraw.dp hmo hty [(10,B y4),(9,.lp 9 0),(8,B false),(7,.lp 7 0),(5,.lp 5 0),(4,.lp 4 0)] [(9,.box true [B y1,nI y2,nI y3]),(7,.box true [B x1,nI x2,nI x3])]
   [(0,21,.ag [B x1,nI x2,nI x3]),(1,22,.ag [B y1,nI y2,nI y3]),(2,23,B false),(3,24,B false),(5,26,B false),(8,6,B false)] [(6,4,.box true [B x1,nI x2,nI x3]),(7,5,.box true [B y1,nI y2,nI y3])] [(6,4,.box true _),(7,5,.box true _)] rfl ⟨rfl,rfl,rfl,rfl,rfl,rfl,trivial⟩ ⟨rfl,rfl,rfl,rfl,trivial⟩ ?_ ?_
  ·
   conv=>whnf
   repeat' (first
    | (refine ⟨?_,?_⟩ <;> conv=>whnf)
    | exact rfl
    | exact trivial)
  ·
   conv=>whnf
   repeat' (first
    | exact rfl
    | exact trivial
    | refine ⟨?_,?_⟩)
 ·refine VDraw.dp hmo hty [(10,B y4),(9,.lp 9 0),(8,B true),(7,.lp 7 0),(5,.lp 5 0),(4,.lp 4 0)] [(9,.box true [B y1,nI y2,nI y3]),(7,.box true [B x1,nI x2,nI x3])]
   [(0,21,.ag [B x1,nI x2,nI x3]),(1,22,.ag [B y1,nI y2,nI y3]),(2,23,B true),(3,24,B true),(4,25,B y4),(5,26,B y4),(8,6,B y4)] [(6,4,.box true [B x1,nI x2,nI x3]),(7,5,.box true [B y1,nI y2,nI y3])] [(6,4,.box true _),(7,5,.box true _)] rfl ⟨rfl,rfl,rfl,rfl,rfl,rfl,trivial⟩ ⟨rfl,rfl,rfl,rfl,trivial⟩ ?_ ?_
  ·
   conv=>whnf
   repeat' (first
    | (refine ⟨?_,?_⟩ <;> conv=>whnf)
    | exact rfl
    | exact trivial)
  ·
   conv=>whnf
   repeat' (first
    | exact rfl
    | exact trivial
    | refine ⟨?_,?_⟩)
end Go.V
namespace Go.V
open Go.Proofs Go.RowKit
set_option maxRecDepth 10000
set_option maxHeartbeats 1000000
def cmpO (s t:List UInt8):Int×Bool:=match rdRat s,rdRat t with
 | some p,some q=>(if p < q then -1 else if q < p then 1 else 0,true)
 | _,_=>(0,false)
theorem fn_CompareFractions (s t:List UInt8) (hs:s.length≤1000000000000) (ht:t.length≤1000000000000):Fn Tryz.prog 11 [Str s,Str t] [] (.tup [I (cmpO s t).1,B (cmpO s t).2]) []:=by
 have c:=fn_two s t hs ht
 refine Fn.intro (ks:=[0,1,4,5,6,7,8,17]) hty rfl rfl rfl rfl rfl ?_
 conv=>whnf
 unfold cmpO
 cases h1:rdRat s with
 | none =>
  rw [h1,rO_eq,rO_eq] at c
  refine VCall.of_data c (ndT (fun k=>rfl)) ?_
  conv=>whnf
  exact ⟨rfl,rfl,trivial,rfl⟩
 | some p =>
  cases h2:rdRat t with
  | none =>
   rw [h1,h2,rO_eq,rO_eq] at c
   refine VCall.of_data c (ndT (fun k=>rfl)) ?_
   conv=>whnf
   exact ⟨rfl,rfl,trivial,rfl⟩
  | some q =>
   rw [h1,h2] at c
   have z1:=rdRat_sz h1
   have z2:=rdRat_sz h2
   have c2:=fn_compared p q (by omega) (by omega)
   refine VCall.of_data c (ndT (fun k=>rfl)) ?_
   conv=>whnf
   refine VCall.of_data c2 (nd _) ?_
   conv=>whnf
   exact ⟨rfl,rfl,trivial,rfl⟩
end Go.V
namespace Go.V
open Go.Proofs Go.RowKit
set_option maxRecDepth 10000
set_option maxHeartbeats 1000000
end Go.V
namespace Go.V
open Go.Proofs Go.RowKit
set_option maxRecDepth 10000
set_option maxHeartbeats 1000000
abbrev lB (bs:List Nat):AV:=.d (.sl (cW .u8 bs))
theorem fn_r8Long (a b:List Nat):Fn Tryz.prog 4 [lB a,lB b] [] (B (decide (48 < a.length) || decide (48 < b.length))) []:=by
 refine Fn.intro (ks:=[0,1,4]) hty rfl rfl rfl rfl rfl ?_
 conv=>whnf
 rw [cW_len]
 by_cases h:48 < a.length
 ·rw [show decide ((48:Int) < (a.length:Int))=true by simp;omega]
  conv=>whnf
  exact ⟨by simp [h],trivial,rfl⟩
 ·rw [show decide ((48:Int) < (a.length:Int))=false by simp;omega]
  conv=>whnf
  rw [cW_len]
  refine ⟨?_,trivial,rfl⟩
  rw [show decide ((48:Int) < (b.length:Int))=decide (48 < b.length) by rw [decide_eq_decide];omega]
  simp [h]
def at8 (a:List Nat) (k m:Nat):Nat:=if m≤1∨a.length≤k then 0 else a.getD k 0 % m
theorem fn_r8At (a:List Nat) (k m:Nat) (hm:m≤1000000) (hk:k≤1000000) (ha:∀x,x∈a→x < 256):Fn Tryz.prog 6 [lB a,I k,I m] [] (I (at8 a k m)) []:=by
 refine Fn.intro (ks:=[0,1,2,6,14]) hty rfl rfl rfl rfl rfl ?_;conv=>whnf
 unfold at8;by_cases h1:m≤1
 ·rw [show decide ((m:Int)≤1)=true by simp;omega];conv=>whnf
  exact ⟨by rw [if_pos (.inl h1)];rfl,trivial,rfl⟩
 ·rw [show decide ((m:Int)≤1)=false by simp;omega];conv=>whnf
  rw [cW_len];by_cases h2:a.length≤k
  ·rw [show decide ((a.length:Int)≤(k:Int))=true by simp;omega];conv=>whnf
   exact ⟨by rw [if_pos (.inr h2)];rfl,trivial,rfl⟩
  ·rw [show decide ((a.length:Int)≤(k:Int))=false by simp;omega];conv=>whnf
   obtain ⟨x,ex⟩:∃x,a.getD k 0=x:=⟨_,rfl⟩;have hx:x < 256:=by rw [←ex,gD,List.getElem?_eq_getElem (by omega)];exact ha _ (List.getElem_mem _)
   refine ⟨⟨⟨by omega,by rw [cW_len];omega⟩,cW_sz _ _⟩,?_⟩;conv=>whnf
   refine ⟨_,cW_as (by omega) ex,?_⟩;conv=>whnf
   refine Wr.fit (wrap_i64 (by omega) (by omega)) ?_;conv=>whnf
   refine ⟨by omega,?_⟩;conv=>whnf
   obtain ⟨y,ey⟩:∃y,x % m=y:=⟨_,rfl⟩;have hy:(x:Int).tmod (m:Int)=(y:Int):=by rw [←ey];exact (Int.ofNat_tmod x m).symm
   have hyl:y≤x:=by rw [←ey];exact Nat.mod_le _ _
   rw [if_neg (by omega),ex,ey,hy];exact ⟨rfl,trivial,rfl⟩
end Go.V
namespace Go.V
open Go.Proofs Go.RowKit
set_option maxRecDepth 10000
set_option maxHeartbeats 1000000
structure Src where
 code:List Nat
 k:Nat
 seed:Nat
abbrev srcC (code:List Nat) (k seed:Nat):List C:=[.sl (cW .u8 code),.s (.int .i64 (k:Int)),.s (.int .u64 (seed:Int))]
abbrev srcO (code:List Nat) (k seed:Nat):Ob:=.row true 3 [srcC code k seed]
abbrev Src.o (s:Src):Ob:=srcO s.code s.k s.seed
def byS (code:List Nat) (k:Nat):Nat:=if k < code.length then code.getD k 0 else 0
def sdS (seed b:Nat):Nat:=(((seed*6364136223846793005) % 18446744073709551616+b) % 18446744073709551616+1442695040888963407) % 18446744073709551616
def nxS (code:List Nat) (k seed:Nat):Nat:=if k+1≤code.length then byS code k else sdS seed (byS code k) / 1099511627776 % 256
structure Src.Ok (s:Src):Prop where
 l:s.code.length≤2000000
 b:∀x,x∈s.code→x < 256
 s:s.seed < 18446744073709551616
theorem byS_lt {code:List Nat} (hb:∀x,x∈code→x < 256) (k:Nat):byS code k < 256:=by
 unfold byS
 split
 ·rename_i h
  rw [gD,List.getElem?_eq_getElem h];exact hb _ (List.getElem_mem _)
 ·decide
theorem sdS_lt (seed b:Nat):sdS seed b < 18446744073709551616:=Nat.mod_lt _ (by decide)
theorem nxS_lt {code:List Nat} (hb:∀x,x∈code→x < 256) (k seed:Nat):nxS code k seed < 256:=by
 unfold nxS
 split
 ·exact byS_lt hb k
 ·exact Nat.mod_lt _ (by decide)
theorem and255 {x:Nat} (hx:x < 18446744073709551616):(((BitVec.ofInt 64 (Int.fdiv (x:Int) (2 ^ (min ((40:Int)).toNat 64))) &&& BitVec.ofInt 64 255).toNat:Nat):Int) % 18446744073709551616=((x / 1099511627776 % 256:Nat):Int):=by
 have e0:(min ((40:Int)).toNat 64)=40:=by decide
 have e1:Int.fdiv (x:Int) (2 ^ 40)=((x / 2 ^ 40:Nat):Int):=by
  rw [Int.fdiv_eq_ediv_of_nonneg _ (Int.le_of_lt (Int.pow_pos (by decide))),Int.natCast_ediv,Int.natCast_pow]
  rfl
 rw [e0,e1,BitVec.ofInt_natCast,BitVec.toNat_and,BitVec.toNat_ofNat,Nat.mod_eq_of_lt (Nat.lt_of_le_of_lt (Nat.div_le_self _ _) (by omega))];rw [show (BitVec.ofInt 64 255).toNat=2 ^ 8 - 1 from rfl,Nat.and_two_pow_sub_one_eq_mod];omega
theorem fn_next (code:List Nat) (k seed:Nat) (hk:k≤1000000) (hl:code.length≤2000000) (hb:∀x,x∈code→x < 256) (hs:seed < 18446744073709551616) :
  Fn Tryz.prog 48 [.pe 1000000 0 0 3] [(1000000,srcO code k seed)] (I (nxS code k seed)) [(1000000,srcO code (k+1) (sdS seed (byS code k)))]:=by
 have hz:((cW .u8 code).length:Int)=code.length:=by rw [cW_len]
 refine Fn.intro (ks:=[0,2,3,13,53]) hty rfl rfl rfl rfl rfl ?_;conv=>whnf
 have hb2:byS code k < 256:=byS_lt hb k;obtain ⟨b,eb⟩:∃b,byS code k=b:=⟨_,rfl⟩;unfold nxS;rw [eb] at hb2 ⊢;obtain ⟨m1,e1⟩:∃m,seed*6364136223846793005 % 18446744073709551616=m:=⟨_,rfl⟩;obtain ⟨m2,e2⟩:∃m,(m1+b) % 18446744073709551616=m:=⟨_,rfl⟩;obtain ⟨m3,e3⟩:∃m,(m2+1442695040888963407) % 18446744073709551616=m:=⟨_,rfl⟩;have e4:sdS seed b=m3:=by unfold sdS;rw [e1,e2,e3]
 rw [e4];have f1:IntKind.u64.wrap ((seed:Int)*6364136223846793005)=(m1:Int):=by rw [wrap_u64];omega
 have f2:IntKind.u64.wrap ((m1:Int)+(b:Int))=(m2:Int):=by rw [wrap_u64];omega
 have f3:IntKind.u64.wrap ((m2:Int)+1442695040888963407)=(m3:Int):=by rw [wrap_u64];omega
 have hm3:m3 < 18446744073709551616:=by omega
 clear e1 e2 e3 e4;refine VDraw.go hmo hty 10 [] rfl ?_;conv=>whnf
 refine ⟨_,rfl,?_⟩;conv=>whnf
 refine ⟨_,rfl,?_⟩;conv=>whnf
 rw [hz];by_cases h:k < code.length
 ·rw [decide_eq_true (show (k:Int) < (code.length:Int) by omega)];have hby:code.getD k 0=b:=by rw [←eb];unfold byS;rw [if_pos h]
  conv=>whnf
  refine VDraw.go hmo hty 12 [] rfl ?_;conv=>whnf
  refine ⟨_,rfl,?_⟩;conv=>whnf
  refine ⟨_,rfl,?_⟩;conv=>whnf
  refine ⟨⟨⟨by omega,by rw [cW_len];omega⟩,cW_sz _ _⟩,?_⟩;conv=>whnf
  refine ⟨_,cW_as h hby,?_⟩;conv=>whnf
  refine Wr.i64 (y:=(b:Int)) rfl (by omega) (by omega) ?_;conv=>whnf
  refine ⟨_,rfl,?_⟩;conv=>whnf
  refine Wr.i64 (y:=((k+1:Nat):Int)) rfl (by omega) (by omega) ?_;conv=>whnf
  refine ⟨_,rfl,?_⟩;conv=>whnf
  refine ⟨_,rfl,?_⟩;conv=>whnf
  refine Wr.is f1 ?_;conv=>whnf
  refine Wr.n64 (n:=b) rfl (by omega) ?_;conv=>whnf
  refine Wr.is f2 ?_;conv=>whnf
  refine Wr.is f3 ?_;conv=>whnf
  refine ⟨_,rfl,?_⟩;conv=>whnf
  refine VDraw.go hmo hty 10 [] rfl ?_;conv=>whnf
  refine ⟨_,rfl,?_⟩;conv=>whnf
  refine ⟨_,rfl,?_⟩;conv=>whnf
  rw [hz];by_cases h5:k+1≤code.length
  ·rw [decide_eq_true (show ((k+1:Nat):Int)≤(code.length:Int) by omega),if_pos h5];conv=>whnf
   exact ⟨rfl,⟨rfl,trivial⟩,rfl⟩
  ·rw [decide_eq_false (show ¬((k+1:Nat):Int)≤(code.length:Int) by omega),if_neg h5];conv=>whnf
   refine ⟨_,rfl,?_⟩;conv=>whnf
   refine ⟨by decide,?_⟩;conv=>whnf
   refine Wr.is (y:=((m3 / 1099511627776 % 256:Nat):Int)) (by rw [wrap_u64];exact and255 hm3) ?_;conv=>whnf
   refine Wr.i64 (y:=((m3 / 1099511627776 % 256:Nat):Int)) rfl (by omega) (by omega) ?_;conv=>whnf
   exact ⟨rfl,⟨rfl,trivial⟩,rfl⟩
 ·rw [decide_eq_false (show ¬(k:Int) < (code.length:Int) by omega)];have hby:b=0:=by rw [←eb];unfold byS;rw [if_neg h]
  subst hby;conv=>whnf
  refine ⟨_,rfl,?_⟩;conv=>whnf
  refine Wr.i64 (y:=((k+1:Nat):Int)) rfl (by omega) (by omega) ?_;conv=>whnf
  refine ⟨_,rfl,?_⟩;conv=>whnf
  refine ⟨_,rfl,?_⟩;conv=>whnf
  refine Wr.is f1 ?_;conv=>whnf
  refine Wr.n64 (n:=0) rfl (by omega) ?_;conv=>whnf
  refine Wr.is f2 ?_;conv=>whnf
  refine Wr.is f3 ?_;conv=>whnf
  refine ⟨_,rfl,?_⟩;conv=>whnf
  refine VDraw.go hmo hty 10 [] rfl ?_;conv=>whnf
  refine ⟨_,rfl,?_⟩;conv=>whnf
  refine ⟨_,rfl,?_⟩;conv=>whnf
  rw [hz];by_cases h5:k+1≤code.length
  ·rw [decide_eq_true (show ((k+1:Nat):Int)≤(code.length:Int) by omega),if_pos h5];conv=>whnf
   exact ⟨rfl,⟨rfl,trivial⟩,rfl⟩
  ·rw [decide_eq_false (show ¬((k+1:Nat):Int)≤(code.length:Int) by omega),if_neg h5];conv=>whnf
   refine ⟨_,rfl,?_⟩;conv=>whnf
   refine ⟨by decide,?_⟩;conv=>whnf
   refine Wr.is (y:=((m3 / 1099511627776 % 256:Nat):Int)) (by rw [wrap_u64];exact and255 hm3) ?_;conv=>whnf
   refine Wr.i64 (y:=((m3 / 1099511627776 % 256:Nat):Int)) rfl (by omega) (by omega) ?_;conv=>whnf
   exact ⟨rfl,⟨rfl,trivial⟩,rfl⟩
theorem fn_pick (code:List Nat) (k seed n:Nat) (h1:2≤n) (h2:n≤200) (hk:k≤1000000) (hl:code.length≤2000000) (hb:∀x,x∈code→x < 256) (hs:seed < 18446744073709551616) :
  Fn Tryz.prog 35 [.pe 1000000 0 0 3,I n] [(1000000,srcO code k seed)] (I ((nxS code k seed % n:Nat):Int)) [(1000000,srcO code (k+1) (sdS seed (byS code k)))]:=by
 have c1:=fn_next code k seed hk hl hb hs
 have hx:=nxS_lt hb k seed
 refine Fn.intro (ks:=[0,1,4,5,7,11]) hty rfl rfl rfl rfl rfl ?_
 conv=>whnf
 rw [decide_eq_false (show ¬(n:Int)≤1 by omega)]
 obtain ⟨x,ex⟩:∃x,nxS code k seed=x:=⟨_,rfl⟩
 rw [ex] at c1 hx ⊢
 conv=>whnf
 refine VCall.par1 1000000 c1 ⟨⟨rfl,rfl,rfl,rfl⟩,trivial⟩ rfl ?_
 conv=>whnf
 rw [decide_eq_false (show ¬(200:Int) < (n:Int) by omega)]
 conv=>whnf
 refine ⟨by omega,?_⟩
 conv=>whnf
 rw [show (x:Int).tmod (n:Int)=((x % n:Nat):Int) from (Int.ofNat_tmod x n).symm]
 exact ⟨rfl,⟨rfl,trivial⟩,rfl⟩
theorem fn_from (code:List Nat):Fn Tryz.prog 16 [lB code] [] (.pe 5 0 0 3) [(5,srcO code 0 0)]:=by
 refine Fn.introP 5 (srcC code 0 0) (ks:=[0,2]) hty rfl rfl rfl rfl rfl ?_
 conv=>whnf
 exact ⟨⟨rfl,rfl⟩,rfl⟩
end Go.V
namespace Go.V
open Go.Proofs Go.RowKit
set_option maxRecDepth 10000
set_option maxHeartbeats 1000000
structure SrcK (code:List Nat) (m k seed:Nat):Prop where
 l:code.length≤2000000
 b:∀x,x∈code→x < 256
 k:k≤m
 s:seed < 18446744073709551616
theorem fn_pick1 (code:List Nat) (k seed:Nat):Fn Tryz.prog 35 [.pe 1000000 0 0 3,I 1] [(1000000,srcO code k seed)] (I 0) [(1000000,srcO code k seed)]:=by
 refine Fn.intro (ks:=[0,1,4,5,7,11]) hty rfl rfl rfl rfl rfl ?_
 conv=>whnf
 exact ⟨rfl,⟨rfl,trivial⟩,rfl⟩
theorem ex_pick {code:List Nat} {m k seed:Nat} (h:SrcK code m k seed) (hm:m≤1000000) (n:Nat) (h1:1≤n) (h2:n≤200) :
  ∃v k' seed',v < n∧SrcK code (m+1) k' seed'∧Fn Tryz.prog 35 [.pe 1000000 0 0 3,I n] [(1000000,srcO code k seed)] (I v) [(1000000,srcO code k' seed')]:=by
 have hk:=h.k
 by_cases e:n=1
 ·subst e
  exact ⟨0,k,seed,by decide,⟨h.l,h.b,by omega,h.s⟩,fn_pick1 code k seed⟩
 ·exact ⟨_,_,_,Nat.mod_lt _ (by omega),⟨h.l,h.b,by omega,sdS_lt _ _⟩,fn_pick code k seed n (by omega) h2 (by omega) h.l h.b h.s⟩
theorem ex_one {code:List Nat} {m k seed:Nat} (h:SrcK code m k seed) (hm:m≤1000000) (n:Nat) (h1:1≤n) (h2:n≤200) :
  ∃b k' seed',SrcK code (m+1) k' seed'∧Fn Tryz.prog 37 [.pe 1000000 0 0 3,I n] [(1000000,srcO code k seed)] (B b) [(1000000,srcO code k' seed')]:=by
 obtain ⟨v,k',seed',hv,hs,c⟩:=ex_pick h hm n h1 h2
 refine ⟨decide ((v:Int)=0),k',seed',hs,?_⟩
 refine Fn.intro (ks:=[0,1,4]) hty rfl rfl rfl rfl rfl ?_
 conv=>whnf
 refine VCall.par1 1000000 c ⟨⟨rfl,rfl,rfl,rfl⟩,rfl,trivial⟩ rfl ?_
 conv=>whnf
 exact ⟨rfl,⟨rfl,trivial⟩,rfl⟩
theorem fits_smallQ {q:Rat} (h:sz q≤190):fitsQ q=true:=by
 have h1:=dd_bl (tp q)
 have h2:=dd_bl q.den
 have h3:=bl_tp q
 have h4:=bl_den q
 unfold fitsQ
 rw [decide_eq_true (by omega),decide_eq_true (by omega)];rfl
end Go.V
namespace Go.V
open Go.Proofs Go.RowKit
set_option maxRecDepth 10000
set_option maxHeartbeats 1000000
theorem powM_at {p:Mt} {n i:Nat} (h:i < p.length):(powM p n).getD i []=afterQ p n (pointQ p.length i):=by
 rw [gD,List.getElem?_eq_getElem (by rw [powM_len];exact h)];simp [powM]
theorem mt_ext {xs ys:Mt} (hl:xs.length=ys.length) (h:∀i,i < xs.length→xs.getD i []=ys.getD i []):xs=ys:=by
 apply List.ext_getElem hl
 intro i h1 h2
 have:=h i h1
 rwa [gD,gD,List.getElem?_eq_getElem h1,List.getElem?_eq_getElem h2] at this
theorem powM_one {p:Mt} (hp:MtOk p):powM p 1=p:=by
 apply mt_ext (powM_len p 1)
 intro i hi
 rw [powM_len] at hi
 rw [powM_at hi]
 exact step_point hp hi
theorem powM_mem {p:Mt} {n:Nat} {r:List Rat} (h:r∈powM p n):∃i,i < p.length∧r=afterQ p n (pointQ p.length i):=by
 obtain ⟨i,hi,rfl⟩:=List.mem_map.1 h
 exact ⟨i,by simpa using hi,rfl⟩
theorem powM_wk {p:Mt} (hp:MtOk p) {n:Nat} {r:List Rat} (h:r∈powM p n):Wk p.length (2+n*115210) r:=by
 obtain ⟨i,hi,rfl⟩:=powM_mem h
 exact (pointQ_wk p.length i).after hp n
theorem powM_sz {p:Mt} (hp:MtOk p) (n:Nat):MtSz (powM p n) (2+n*115210) :=
 ⟨by rw [powM_len];exact hp.n1,by rw [powM_len];exact hp.n2,fun r hr=>by rw [powM_len];exact (powM_wk hp hr).1,fun r hr q hq=>(powM_wk hp hr).sz hq⟩
theorem powM_pos {p:Mt} (hp:MtOk p) (n:Nat):0≤commonQ (powM p n):=by
 refine sN_nonneg fun j hj=>?_
 obtain ⟨i,h1,h2⟩:=minC_mem (p:=powM p n) (by rw [powM_len];exact hp.n1) j (powM p n).length (Nat.le_refl _)
 show 0≤minC (powM p n) j (powM p n).length
 rw [h2]
 have hm:(powM p n).getD i []∈powM p n:=getD_mem h1
 exact (powM_wk hp hm).pos (getD_mem (by rw [(powM_sz hp n).sq _ hm];exact hj))
def caF (p:Mt) (n:Nat):Nat→Nat×List UInt8×Bool
 | 0=>(0,[],false)
 | k+1=>if commonQ (powM p n)=0 then caF p (n+1) k else if fitsQ (commonQ (powM p n)) then (n,toldT (commonQ (powM p n)),true) else (0,[],false)
def caQ (rows:List (List (List UInt8))) (m:Int):Nat×List UInt8×Bool:=match chainQ rows with
 | none=>(0,[],false)
 | some p=>if 1≤m∧m≤40 then caF p 1 m.toNat else (0,[],false)
abbrev caV (x:Nat×List UInt8×Bool):AV:=.tup [I x.1,Str x.2.1,B x.2.2]
theorem sgI_gt {q:Rat} (h:0≤q):decide (0 < sgI q) = !decide (q=0):=by
 by_cases h0:q=0
 ·subst h0;rfl
 ·have h1:ng q=false:=by rw [ng_lt];exact decide_eq_false (fun e=>by have:=Rat.not_le.2 e;exact this h)
  have h2:tp q≠0:=fun e=>h0 (tp_zero.1 e);unfold sgI;rw [if_neg h2,h1,decide_eq_false h0]
  rfl
theorem fn_CommonAfter (rows:List (List (List UInt8))) (m:Int) (hi:ChIn rows):Fn Tryz.prog 14 [chI rows,I m] [] (caV (caQ rows m)) []:=by
 have ci:=fn_in m 1 40;rw [inB] at ci;have c1:=fn_chainOf rows hi.l hi.r hi.s;refine Fn.intro (ks:=[0,1,2,4,5,6,7,8,9,10,11,12,13,14,16,28,32,39,46,50,51,52,53]) hty rfl rfl rfl rfl rfl ?_;conv=>whnf
 cases h:chainQ rows with
 | none =>
  rw [h] at c1;refine VCall.of_data c1 (ndT fun _=>rfl) ?_;conv=>whnf
  rw [show caQ rows m=(0,[],false) by unfold caQ;rw [h]];exact ⟨rfl,rfl,rfl,trivial,rfl⟩
 | some p =>
  have hp:=chainQ_ok h;have hn2:=hp.n2;rw [h] at c1;replace c1:Fn Tryz.prog 18 [chI rows] [] (.tup [lM p,B true]) []:=c1;refine VCall.of_data c1 (ndT fun _=>rfl) ?_;conv=>whnf
  refine VCall.of_data ci (nd _) ?_;conv=>whnf
  by_cases hn:1≤m∧m≤40
  ·obtain ⟨k,rfl⟩:∃k:Nat,m=k:=⟨m.toNat,by omega⟩;have hk:k≤40:=by omega
   rw [decide_eq_true hn,show caQ rows k=caF p 1 k by unfold caQ;rw [h];exact if_pos hn];conv=>whnf
   refine VLoop.invF hty 61 (S:=Nat) (fun n=>[(10,I n),(9,lM (powM p n)),(7,lM p),(1,I k)]) (fun _=>[]) (fun n=>1≤n∧n≤k+1∧caF p 1 k=caF p n (k+1 - n)) (fun n=>k+1 - n) 1 ⟨Nat.le_refl _,by omega,by rw [Nat.add_sub_cancel]⟩
    ⟨rfl,by show lM p=lM (powM p 1);rw [powM_one hp],rfl,rfl,trivial⟩ trivial ?_
   rintro n ⟨h1,h2,h3⟩;rw [h3];conv=>whnf
   refine Br.mk (fun hb=>?_) (fun hb=>?_)
   ·have hb:n≤k:=by simp only [decide_eq_true_eq] at hb;omega
    have e1:k+1 - n=(k - n)+1:=by omega
    have zz:n*115210≤40*115210:=Nat.mul_le_mul_right _ (by omega);have zc:=common_sz (powM_sz hp n);have c2:=fn_common (powM p n) _ (powM_sz hp n) (by omega);have c3:=fn_sign (commonQ (powM p n)) (by omega);have c4:=fn_told (commonQ (powM p n)) (by omega);have cp:=sgI_gt (powM_pos hp n);have ec:caF p n (k+1 - n)=if commonQ (powM p n)=0 then caF p (n+1) (k - n) else if fitsQ (commonQ (powM p n)) then (n,toldT (commonQ (powM p n)),true) else (0,[],false):=by rw [e1];rfl
    rw [ec];rw [ec] at h3;conv=>whnf
    refine VCall.of_data c2 (ndA fun k=>rfl) ?_;conv=>whnf
    refine VCall.of_data c3 (nd _) ?_;conv=>whnf
    rw [cp];by_cases h0:commonQ (powM p n)=0
    ·rw [if_pos h0] at h3;rw [decide_eq_true h0,if_pos h0];conv=>whnf
     have hz:((cM (powM p n)).length:Int)=p.length:=by rw [cM_len,powM_len]
     rw [hz];refine VLoop.ren 49 61 rfl ?_;refine VLoop.inv hty (S:=Nat) (fun i=>[(52,I i),(51,I p.length),(50,lM (powM p n)),(14,.ls 61 0 i 1),(10,I n),(7,lM p),(1,I k)]) (fun i=>[(61,.row true 1 (cM (powL p (n+1) i)))]) (fun i=>i≤p.length) (fun i=>p.length - i) 0 (Nat.zero_le _)
      ⟨rfl,rfl,rfl,rfl,rfl,rfl,rfl,trivial⟩ ⟨rfl,trivial⟩ ?_
     intro i hi2;conv=>whnf
     refine Br.mk (fun hc=>?_) (fun hc=>?_)
     ·have hc:i < p.length:=by simp only [decide_eq_true_eq] at hc;omega
      have hw:=(pointQ_wk p.length i).after hp n;have cs:=fn_stepped p _ _ hp hw (by omega);conv=>whnf
      refine ⟨⟨⟨by omega,by rw [cM_len,powM_len];omega⟩,cM_sz _⟩,?_⟩;conv=>whnf
      refine ⟨_,cM_as (x:=afterQ p n (pointQ p.length i)) (by rw [powM_len];omega) (powM_at hc),?_⟩;conv=>whnf
      refine VCall.of_data cs (nd _) ?_;conv=>whnf
      refine Sub.full rfl ?_;conv=>whnf
      refine Sub.full (by rw [cM_len,powL_len]) ?_;conv=>whnf
      refine ⟨by show (i+1)*24≤_;omega,?_⟩;conv=>whnf
      refine Wr.i64 (y:=((i+1:Nat):Int)) rfl (by omega) (by omega) ?_;conv=>whnf
      refine ⟨i+1,hc,by show p.length - (i+1) < p.length - i;omega,⟨rfl,rfl,rfl,rfl,rfl,rfl,rfl,trivial⟩,?_,trivial⟩;show Ob.row true 1 (cM _++[[.sl (cQ _)]])=_;rw [cM_append1,powL_next];rfl
     ·have hc:i=p.length:=by simp only [decide_eq_false_iff_not] at hc;omega
      rw [hc];conv=>whnf
      refine Wr.i64 (y:=((n+1:Nat):Int)) rfl (by omega) (by omega) ?_;conv=>whnf
      refine ⟨n+1,⟨by omega,by omega,?_⟩,by show k+1 - (n+1) < k+1 - n;omega,p.length,1,cM (powM p (n+1)),⟨rfl,rfl⟩,by rw [cM_len,powM_len],by repeat first | exact trivial | refine ⟨⟨rfl,rfl,rfl⟩,?_⟩,⟨rfl,rfl,rfl,rfl,trivial⟩,trivial⟩;rw [show k+1 - (n+1)=k - n by omega]
    ·rw [decide_eq_false h0,if_neg h0];conv=>whnf
     refine VCall.of_data c4 (ndT fun _=>rfl) ?_;conv=>whnf
     cases hf:fitsQ (commonQ (powM p n)) with
     | false =>
      conv=>whnf
      exact ⟨rfl,rfl,rfl,trivial,rfl⟩
     | true =>
      conv=>whnf
      exact ⟨rfl,rfl,rfl,trivial,rfl⟩
   ·have hb:n=k+1:=by simp only [decide_eq_false_iff_not] at hb;omega
    rw [hb,Nat.sub_self];conv=>whnf
    exact ⟨rfl,rfl,rfl,trivial,rfl⟩
  ·rw [decide_eq_false hn,show caQ rows m=(0,[],false) by unfold caQ;rw [h];exact if_neg hn];conv=>whnf
   exact ⟨rfl,rfl,rfl,trivial,rfl⟩
end Go.V
namespace Go.V
open Go.Proofs Go.RowKit
set_option maxRecDepth 10000
set_option maxHeartbeats 1000000
end Go.V
namespace Go.V
open Go.Proofs Go.RowKit
set_option maxRecDepth 10000
set_option maxHeartbeats 1000000
abbrev ownW (w:List Rat):LL:=[(1000000,.row true 3 (cQ w))]
theorem fn_steppedR (p:Mt) (w:List Rat) (s:Nat) (hp:MtOk p) (hw:Wk p.length s w) (hs:s≤10000000000):Fn Tryz.prog 34 [lM p,.ls 1000000 0 w.length 3] (ownW w) (lQ (stepQ p w)) (ownW w):=by
 have hn1:=hp.n1;have hn2:=hp.n2;have hl:=hw.1;have hzw:((cQ w).length:Int)=w.length:=by rw [cQ_len]
 have c0:=fn_whole 0 (by decide) (by decide);have cr:=fn_slRepeat 0 w.length (by omega) (by omega);refine Fn.intro (ks:=[0,1,4,5,6,7,8,9,15,16,17,18,24,28,29,30,31]) hty rfl rfl rfl rfl rfl ?_;conv=>whnf
 refine VCall.of_data c0 (ndA fun k=>rfl) ?_;conv=>whnf
 try rw [cQ_len w]
 refine VCall.frzD 11 (n:=1) (sz:=3) (D:=cQ [0]) ⟨rfl,rfl⟩ (by rw [cQ_len];rfl) (by repeat first | exact trivial | refine ⟨⟨rfl,rfl,rfl⟩,?_⟩) ⟨⟨rfl,rfl,rfl⟩,trivial⟩ ?_;refine VCall.of_ls (k:=14) cr rfl ?_;conv=>whnf
 refine VLoop.inv hty (S:=Nat) (fun i=>[(17,I i),(16,I w.length),(15,.ls 1000000 0 w.length 3),(5,.ls 14 0 w.length 3),(0,lM p)]) (fun i=>[(14,.row true 3 (cQ (outQ p w i 0))),(1000000,.row true 3 (cQ w))]) (fun i=>i≤w.length) (fun i=>w.length - i) 0 (Nat.zero_le _)
  ⟨rfl,rfl,rfl,rfl,rfl,trivial⟩ ⟨by rw [outQ_zero];rfl,rfl,trivial⟩ ?_
 intro i hi;conv=>whnf
 refine Br.mk (fun hb=>?_) (fun hb=>?_)
 ·have hb:i < w.length:=by simp only [decide_eq_true_eq] at hb;omega
  obtain ⟨a,ea⟩:∃a,w.getD i 0=a:=⟨_,rfl⟩;have za:sz a≤s:=by rw [←ea];exact hw.sz (getD_mem hb)
  have cs:=fn_sign a (by omega);conv=>whnf
  refine ⟨by omega,?_⟩;conv=>whnf
  refine ⟨_,cQ_as hb ea,?_⟩;conv=>whnf
  refine VCall.of_data cs (nd _) ?_;conv=>whnf
  rw [sgI_zeroD];by_cases h0:a=0
  ·rw [decide_eq_true h0];conv=>whnf
   refine Wr.i64 (y:=((i+1:Nat):Int)) rfl (by omega) (by omega) ?_;conv=>whnf
   refine ⟨i+1,hb,by show w.length - (i+1) < w.length - i;omega,⟨rfl,rfl,rfl,rfl,rfl,trivial⟩,⟨?_,rfl,trivial⟩⟩;rw [outQ_skip (ea.trans h0)];rfl
  ·rw [decide_eq_false h0];conv=>whnf
   have hrl:(p.getD i []).length=w.length:=by rw [hp.toSz.len (by omega),hl]
   refine ⟨⟨⟨by omega,by rw [cM_len];omega⟩,cM_sz _⟩,?_⟩;conv=>whnf
   refine ⟨_,cM_as (x:=p.getD i []) (by omega) rfl,?_⟩;conv=>whnf
   refine VLoop.inv hty (S:=Nat) (fun j=>[(30,I j),(29,I w.length),(28,lQ (p.getD i [])),(17,I i),(16,I w.length),(15,.ls 1000000 0 w.length 3),(7,.lp 7 0),(6,I i),(5,.ls 14 0 w.length 3),(0,lM p)])
    (fun j=>[(14,.row true 3 (cQ (outQ p w i j))),(7,.box true [B (ng a),nI (tp a),nI a.den]),(1000000,.row true 3 (cQ w))]) (fun j=>j≤w.length) (fun j=>w.length - j) 0 (Nat.zero_le _)
    ⟨rfl,by show I ((cQ (p.getD i [])).length:Nat)=_;rw [cQ_len,hrl],rfl,rfl,rfl,rfl,rfl,rfl,rfl,rfl,trivial⟩ ⟨rfl,rfl,rfl,trivial⟩ ?_
   intro j hj;conv=>whnf
   refine Br.mk (fun hc=>?_) (fun hc=>?_)
   ·have hc:j < w.length:=by simp only [decide_eq_true_eq] at hc;omega
    have z1:=hp.ent_sz (i:=i) (j:=j) (by omega) (by omega);have z2:=step_sz hp hw (j:=j) (k:=i) (by omega) (by omega);have z3:=sz_mul a (ent p i j);have cm:=fn_rmul a (ent p i j) (by omega) (by omega);have ca:=fn_radd (stepAt p w j i) (a*ent p i j) (by omega);have e1:stepAt p w j i+a*ent p i j=stepAt p w j (i+1):=by rw [←ea];rfl
    rw [e1] at ca;have eo:(outQ p w i j).getD j 0=stepAt p w j i:=by rw [outQ_at hc,if_neg (by omega)]
    have es:=outQ_set (p:=p) (w:=w) (i:=i) hc;have hol:=outQ_len p w i j;conv=>whnf
    refine ⟨⟨⟨by omega,by rw [cQ_len,hrl];omega⟩,cQ_sz _⟩,?_⟩;conv=>whnf
    refine ⟨_,cQ_as (x:=ent p i j) (by rw [hrl];exact hc) rfl,?_⟩;conv=>whnf
    refine VDraw.go hmo hty 11 [] rfl ?_;conv=>whnf
    refine ⟨by omega,?_⟩;conv=>whnf
    refine ⟨_,cQ_as (by rw [hol];exact hc) eo,?_⟩;conv=>whnf
    refine QCall.of_data cm (ndA fun k=>rfl) ?_;conv=>whnf
    refine QCall.of_data ca (ndA fun k=>rfl) ?_;conv=>whnf
    refine ⟨by omega,?_⟩;conv=>whnf
    refine ⟨by rw [cQ_len,hol];show j+0 < _;omega,?_⟩;conv=>whnf
    refine Wr.i64 (y:=((j+1:Nat):Int)) rfl (by omega) (by omega) ?_;conv=>whnf
    refine ⟨j+1,hc,by show w.length - (j+1) < w.length - j;omega,⟨rfl,rfl,rfl,rfl,rfl,rfl,rfl,rfl,rfl,rfl,trivial⟩,⟨?_,rfl,rfl,trivial⟩⟩;show Ob.row true 3 ((cQ _).set j (c1Q (stepAt p w j (i+1))))=_;rw [cQ_set,es]
   ·have hc:j=w.length:=by simp only [decide_eq_false_iff_not] at hc;omega
    rw [hc,outQ_next];conv=>whnf
    refine Wr.i64 (y:=((i+1:Nat):Int)) rfl (by omega) (by omega) ?_;conv=>whnf
    exact ⟨i+1,hb,by show w.length - (i+1) < w.length - i;omega,⟨rfl,rfl,rfl,rfl,rfl,trivial⟩,⟨rfl,rfl,trivial⟩⟩
 ·have hb:i=w.length:=by simp only [decide_eq_false_iff_not] at hb;omega
  rw [hb,outQ_all];conv=>whnf
  refine ⟨⟨rfl,by rw [cQ_len,stepQ_len];omega,?_⟩,⟨rfl,trivial⟩,rfl⟩;rw [List.drop_zero,List.take_of_length_le (by rw [cQ_len,stepQ_len];omega)]
theorem fn_after0 (p:Mt) (w:List Rat):Fn Tryz.prog 24 [lM p,.ls 1000000 0 w.length 3,I 0] (ownW w) (.ls 1000000 0 w.length 3) (ownW w):=by
 refine Fn.intro (ks:=[0,1,2,6,7,8,9]) hty rfl rfl rfl rfl rfl ?_
 conv=>whnf
 refine VLoop.inv hty (S:=Unit) (fun _=>[(8,I 0),(7,I 0),(1,.ls 1000000 0 w.length 3)]) (fun _=>ownW w) (fun _=>True) (fun _=>0) () trivial ⟨rfl,rfl,rfl,trivial⟩ ⟨rfl,trivial⟩ ?_
 intro _ _
 conv=>whnf
 exact ⟨⟨rfl,rfl,rfl,rfl,rfl⟩,⟨rfl,trivial⟩,rfl⟩
def afT (p:Mt) (w:List Rat):Nat→AV
 | 0=>.ls 1000000 0 w.length 3
 | k+1=>lQ (afterQ p (k+1) w)
theorem fn_afterR (p:Mt) (w:List Rat) (n:Nat) (hp:MtOk p) (hw:Wk p.length 2 w) (hn:n < 40):Fn Tryz.prog 24 [lM p,.ls 1000000 0 w.length 3,I ((n+1:Nat):Int)] (ownW w) (lQ (afterQ p (n+1) w)) (ownW w):=by
 refine Fn.intro (ks:=[0,1,2,6,7,8,9]) hty rfl rfl rfl rfl rfl ?_;conv=>whnf
 refine VLoop.inv hty (S:=Nat) (fun k=>[(8,I k),(7,I ((n+1:Nat):Int)),(1,afT p w k),(0,lM p)]) (fun _=>ownW w) (fun k=>k≤n+1) (fun k=>n+1 - k) 0 (Nat.zero_le _) ⟨rfl,rfl,rfl,rfl,trivial⟩ ⟨rfl,trivial⟩ ?_;rintro (_ | k) hk
 ·conv=>whnf
  refine Br.mk (fun h=>?_) (fun h=>?_)
  ·conv=>whnf
   refine VCall.par1 1000000 (fn_steppedR p w 2 hp hw (by decide)) ⟨rfl,⟨rfl,rfl,rfl,rfl⟩,trivial⟩ rfl ?_;conv=>whnf
   refine Wr.i64 (y:=1) rfl (by omega) (by omega) ?_;conv=>whnf
   exact ⟨1,by omega,by show n+1 - 1 < n+1 - 0;omega,⟨rfl,rfl,rfl,rfl,trivial⟩,⟨rfl,trivial⟩⟩
  ·simp at h
 ·conv=>whnf
  refine Br.mk (fun h=>?_) (fun h=>?_)
  ·have h:k+1 < n+1:=by simp only [decide_eq_true_eq] at h;omega
   have h2:=hw.after hp (k+1);have cs:=fn_stepped p _ _ hp h2 (by omega);conv=>whnf
   refine VCall.of_data cs (nd _) ?_;conv=>whnf
   refine Wr.i64 (y:=((k+1+1:Nat):Int)) rfl (by omega) (by omega) ?_;conv=>whnf
   exact ⟨k+1+1,h,by show n+1 - (k+1+1) < n+1 - (k+1);omega,⟨rfl,rfl,rfl,rfl,trivial⟩,⟨rfl,trivial⟩⟩
  ·have h:k=n:=by simp only [decide_eq_false_iff_not] at h;omega
   rw [h];conv=>whnf
   exact ⟨rfl,⟨rfl,trivial⟩,rfl⟩
theorem fn_zeros (n:Nat) (h1:1≤n) (hn:n≤12):Fn Tryz.prog 39 [I n] [] (.ls 0 0 n 1) [(0,.mat 3 (ixF 0 (List.replicate n n)) (List.replicate n (cQ (List.replicate n 0))))]:=by
 have c0:=fn_whole 0 (by decide) (by decide);have cr:=fn_slRepeat 0 n (by omega) (by omega);refine Fn.intro (ks:=[0,2,3,4,8,9,10]) hty rfl rfl rfl rfl rfl ?_;conv=>whnf
 refine ⟨⟨by omega,by omega,by show (n:Int)*((24:Nat):Int)≤_;omega,by omega⟩,?_⟩;conv=>whnf
 refine VLoop.toMat 6 3 (cs:=List.replicate n (.s (.slice none 0 0))) (by rw [List.map_replicate];rfl) rfl ?_;refine VLoop.inv hty (S:=Nat) (fun k=>[(9,I k),(8,I n),(3,.ls 6 0 n 1),(0,I n)])
  (fun k=>[(6,.mat 3 (ixF 0 (List.replicate k n)++List.replicate (n - k) nilM) (List.replicate k (cQ (List.replicate n 0))))])
  (fun k=>k≤n) (fun k=>n - k) 0 (Nat.zero_le _) ⟨rfl,rfl,rfl,rfl,trivial⟩ ⟨by show Ob.mat 3 (List.map MC.d _) []=Ob.mat 3 _ _;rw [List.map_replicate];rfl,trivial⟩ ?_
 intro k hk;conv=>whnf
 refine Br.mk (fun h=>?_) (fun h=>?_)
 ·have h:k < n:=by simp only [decide_eq_true_eq] at h;omega
  have hA:(ixF 0 (List.replicate k n)).length=k:=by rw [ixF_len,List.length_replicate]
  conv=>whnf
  refine VCall.of_data c0 (ndA fun k=>rfl) ?_;conv=>whnf
  refine VCall.frzD 15 (n:=1) (sz:=3) (D:=cQ [0]) ⟨rfl,rfl⟩ (by rw [cQ_len];rfl) (by repeat first | exact trivial | refine ⟨⟨rfl,rfl,rfl⟩,?_⟩) ⟨⟨rfl,rfl,rfl⟩,trivial⟩ ?_;refine VCall.of_ls (k:=17) cr rfl ?_;conv=>whnf
  refine ⟨by omega,?_⟩;conv=>whnf
  refine ⟨by show k+0 < (ixF 0 (List.replicate k n)++List.replicate (n - k) nilM).length;rw [List.length_append,hA,List.length_replicate];omega,?_⟩;conv=>whnf
  refine Wr.i64 (y:=((k+1:Nat):Int)) rfl (by omega) (by omega) ?_;conv=>whnf
  refine ⟨k+1,h,by show n - (k+1) < n - k;omega,⟨rfl,rfl,rfl,rfl,trivial⟩,?_,trivial⟩;have e1:=put_rep (ixF 0 (List.replicate k n)) (n - (k+1)) nilM (.r k 0 n);rw [hA,show n - (k+1)+1=n - k by omega] at e1;show Ob.mat 3 (List.set _ _ (MC.r (List.length _) 0 n)) (_++[cQ (List.replicate n 0)])=Ob.mat 3 _ _;rw [List.length_replicate,List.replicate_succ' (n:=k),ixF_snoc,List.length_replicate,Nat.zero_add,←List.replicate_succ' (n:=k)]
  congr 1
 ·have h:k=n:=by simp only [decide_eq_false_iff_not] at h;omega
  rw [h,Nat.sub_self,List.replicate_zero,List.append_nil];conv=>whnf
  exact ⟨⟨rfl,rfl,rfl,rfl,rfl⟩,[],rfl,trivial,rfl⟩
end Go.V
namespace Go.V
open Go.Proofs Go.RowKit
set_option maxRecDepth 10000
set_option maxHeartbeats 1000000
def inP (p:Mt) (s n k:Nat):MC:=if s=0 then .r k 0 n else .d (.sl (cQ (afterQ p s (pointQ n k))))
def ixP (p:Mt) (s n i:Nat):List MC:=(List.range n).map fun k=>if k < i then inP p s n k else .r k 0 n
def rowsP (n i:Nat):List (List (List C)):=(List.range n).map fun k=>cQ (if k < i then pointQ n k else List.replicate n 0)
theorem ixP_len (p:Mt) (s n i:Nat):(ixP p s n i).length=n:=by simp [ixP]
theorem rowsP_len (n i:Nat):(rowsP n i).length=n:=by simp [rowsP]
theorem ixP_at {p:Mt} {s n i:Nat} (h:i < n):(ixP p s n i)[i]? = some (.r i 0 n):=by simp [ixP,h]
theorem rowsP_at {n i:Nat} (h:i < n):(rowsP n i)[i]? = some (cQ (List.replicate n 0)):=by simp [rowsP,h]
theorem rowsP_next {n i:Nat} (h:i < n):(rowsP n (i+1))[i]? = some (cQ (pointQ n i)):=by simp [rowsP,h]
theorem map_set {α:Type} {n i:Nat} (f g:Nat→α) (he:∀k,k≠i→f k=g k):((List.range n).map f).set i (g i)=(List.range n).map g:=by
 apply List.ext_getElem (by simp)
 intro k h1 h2
 rw [List.getElem_set]
 simp only [List.getElem_map,List.getElem_range]
 by_cases e:i=k
 ·rw [if_pos e,e]
 ·rw [if_neg e,he k (Ne.symm e)]
theorem ixP_set {p:Mt} {s n i:Nat}:(ixP p s n i).set i (inP p s n i)=ixP p s n (i+1):=by
 unfold ixP
 have:=map_set (n:=n) (i:=i) (fun k=>if k < i then inP p s n k else .r k 0 n) (fun k=>if k < i+1 then inP p s n k else .r k 0 n) fun k hk=>by
  by_cases h:k < i
  ·rw [if_pos h,if_pos (by omega)]
  ·rw [if_neg h,if_neg (by omega)]
 rw [←this,if_pos (by omega)]
theorem rowsP_set {n i:Nat}:(rowsP n i).set i (cQ (pointQ n i))=rowsP n (i+1):=by
 unfold rowsP
 have:=map_set (n:=n) (i:=i) (fun k=>cQ (if k < i then pointQ n k else List.replicate n 0)) (fun k=>cQ (if k < i+1 then pointQ n k else List.replicate n 0)) fun k hk=>by
  by_cases h:k < i
  ·rw [if_pos h,if_pos (by omega)]
  ·rw [if_neg h,if_neg (by omega)]
 rw [←this,if_pos (by omega)]
theorem rowsP_zero (n:Nat):rowsP n 0=List.replicate n (cQ (List.replicate n 0)):=by
 apply List.ext_getElem (by simp [rowsP_len])
 intro k h1 h2
 simp [rowsP]
theorem ixP_zero (p:Mt) (s n:Nat):ixP p s n 0=ixF 0 (List.replicate n n):=by
 apply List.ext_getElem (by rw [ixP_len,ixF_len,List.length_replicate])
 intro k h1 h2
 rw [ixP_len] at h1
 have h3:=ixF_get (k:=0) (ns:=List.replicate n n) (i:=k) (n:=n) (by simpa using h1) (by rw [gD,List.getElem?_eq_getElem (by simpa using h1)];simp)
 have h4:(ixF 0 (List.replicate n n))[k] = .r (0+k) 0 n:=by
  have:=List.getElem?_eq_getElem h2
  rw [h3] at this
  exact (Option.some.inj this).symm
 rw [h4,Nat.zero_add]
 simp [ixP]
theorem matD_map (R:List (List (List C))) (f:Nat→MC) (g:Nat→List C):∀l:List Nat,(∀k,k∈l→matD R [f k]=[g k])→matD R (l.map f)=l.map g
 | [],_=>rfl
 | k :: l,h=>by
  have ih:=matD_map R f g l fun k hk=>h k (List.mem_cons_of_mem _ hk)
  have h0:=h k (by simp)
  rw [List.map_cons,List.map_cons,←ih]
  cases e:f k with
  | d c=>rw [e] at h0;show [c] :: _=_;rw [show g k=[c] from (List.cons.inj h0).1.symm]
  | r i lo n=>rw [e] at h0;show [C.sl _] :: _=_;rw [←(List.cons.inj h0).1]
theorem matD_ixP (p:Mt) (s:Nat):matD (rowsP p.length p.length) (ixP p s p.length p.length)=cM (powM p s):=by
 have:=matD_map (rowsP p.length p.length) (fun k=>if k < p.length then inP p s p.length k else .r k 0 p.length) (fun k=>[.sl (cQ (afterQ p s (pointQ p.length k)))]) (List.range p.length) fun k hk=>by
  have hk:k < p.length:=by simpa using hk
  rw [if_pos hk];by_cases h:s=0
  ·subst h;show [[C.sl ((((rowsP p.length p.length).getD k []).drop 0).take p.length)]]=[[.sl (cQ (pointQ p.length k))]];have e:(rowsP p.length p.length).getD k []=cQ (pointQ p.length k):=by
    rw [gD,List.getElem?_eq_getElem (by rw [rowsP_len];exact hk)];simp [rowsP,hk]
   rw [e,List.drop_zero,List.take_of_length_le (by rw [cQ_len,pointQ_len];omega)]
  ·rw [inP,if_neg h];rfl
 unfold ixP;rw [this];simp [cM,powM]
theorem matIn_ixP (p:Mt) (s n:Nat):matIn (rowsP n n) (ixP p s n n):=fun i lo m hm=>by
 obtain ⟨k,hk,e⟩:=List.mem_map.1 hm;have hk:k < n:=by simpa using hk
 rw [if_pos hk] at e;unfold inP at e;split at e
 ·cases e;rw [gD,List.getElem?_eq_getElem (by rw [rowsP_len];exact hk)];simp [rowsP,hk,cQ_len,pointQ_len]
 ·cases e
theorem fn_powerOfChain (p:Mt) (s:Nat) (hp:MtOk p) (hs:s≤40):Fn Tryz.prog 21 [lM p,I s] [] (lM (powM p s)) []:=by
 have h1:=hp.n1;have h2:=hp.n2;have hz:((cM p).length:Int)=p.length:=by rw [cM_len]
 have c1:=fn_whole 1 (by decide) (by decide);have g:Fn Tryz.prog 21 [lM p,I s] [] (.ls 0 0 p.length 1) [(0,.mat 3 (ixP p s p.length p.length) (rowsP p.length p.length))]:=by
  obtain ⟨n,en⟩:∃n,p.length=n:=⟨_,rfl⟩;have cz:=fn_zeros n (by omega) (by omega);rw [←rowsP_zero,←ixP_zero p s] at cz;rw [en] at hz h1 h2 ⊢;refine Fn.intro (ks:=[0,1,4,5,6,11,12,13]) hty rfl rfl rfl rfl rfl ?_;conv=>whnf
  rw [hz];refine VCall.of_fn (k:=9) cz (fun j hj=>by
   have:0=j:=Nat.eq_of_beq_eq_true hj;rw [lget_cons,if_pos this.symm];simp) rfl ?_
  conv=>whnf
  refine VLoop.inv hty (S:=Nat) (fun i=>[(12,I i),(11,I n),(5,.ls 9 0 n 1),(1,I s),(0,lM p)]) (fun i=>[(9,.mat 3 (ixP p s n i) (rowsP n i))]) (fun i=>i≤n) (fun i=>n - i) 0 (Nat.zero_le _) ⟨rfl,rfl,rfl,rfl,rfl,trivial⟩ ⟨rfl,trivial⟩ ?_;intro i hi;conv=>whnf
  refine Br.mk (fun h=>?_) (fun h=>?_)
  ·have h:i < n:=by simp only [decide_eq_true_eq] at h;omega
   have a1:=ixP_at (p:=p) (s:=s) h;have a2:=rowsP_at h;have a3:=rowsP_next h;have hw:Wk p.length 2 (pointQ n i):=by rw [en];exact pointQ_wk n i
   have hpl:=pointQ_len n i;have er:(rowsP n i).set i ((cQ (List.replicate n 0)).set i (c1Q 1))=rowsP n (i+1):=by rw [cQ_set,point_set,rowsP_set]
   have ep:(rowsP n (i+1)).set i (cQ (pointQ n i))=rowsP n (i+1):=by
    obtain ⟨hlt,e⟩:=List.getElem?_eq_some_iff.1 a3;rw [←e];exact List.set_getElem_self hlt
   have e0:∀R:List (List (List C)),R=rowsP n (i+1)→R[i]? = some (cQ (pointQ n i))∧R.set i (cQ (pointQ n i))=rowsP n (i+1):=fun R e=>by subst e;exact ⟨a3,ep⟩
   obtain ⟨f1,f2⟩:=e0 _ er;have es:(ixP p s n i).set i (inP p s n i)=ixP p s n (i+1):=ixP_set;conv=>whnf
   refine VDraw.go hmo hty 7 [] rfl ?_;conv=>whnf
   refine ⟨by omega,?_⟩;conv=>whnf
   refine ⟨_,a1,?_⟩;conv=>whnf
   refine QCall.of_data c1 (ndA fun k=>rfl) ?_;conv=>whnf
   refine ⟨by omega,?_⟩;conv=>whnf
   refine ⟨_,a2,?_⟩;conv=>whnf
   refine ⟨by rw [cQ_len,List.length_replicate];show i+0 < _;omega,?_⟩;conv=>whnf
   refine ⟨by omega,?_⟩;conv=>whnf
   refine ⟨_,a1,?_⟩;conv=>whnf
   rcases s with _ | s
   ·have ca:=fn_after0 p (pointQ n i);rw [hpl] at ca;refine VCall.parMs 9 i ca rfl f1 ⟨rfl,⟨rfl,rfl,rfl,rfl,rfl,rfl⟩,rfl,trivial⟩ ?_;conv=>whnf
    refine ⟨by omega,?_⟩;conv=>whnf
    refine ⟨by rw [ixP_len];show i+0 < _;omega,?_⟩;conv=>whnf
    refine Wr.i64 (y:=((i+1:Nat):Int)) rfl (by omega) (by omega) ?_;conv=>whnf
    refine ⟨i+1,h,by show n - (i+1) < n - i;omega,⟨rfl,rfl,rfl,rfl,rfl,trivial⟩,?_,trivial⟩;show Ob.mat 3 ((ixP p 0 n i).set i (inP p 0 n i)) (List.set (List.set (rowsP n i) i ((cQ (List.replicate n 0)).set i (c1Q 1))) i (cQ (pointQ n i)))=Ob.mat 3 _ _;rw [f2,es]
   ·have ca:=fn_afterR p (pointQ n i) s hp hw (by omega);rw [hpl] at ca;refine VCall.parMd 9 i ca rfl f1 ⟨rfl,⟨rfl,rfl,rfl,rfl,rfl,rfl⟩,rfl,trivial⟩ ?_;conv=>whnf
    refine ⟨by omega,?_⟩;conv=>whnf
    refine ⟨by rw [ixP_len];show i+0 < _;omega,?_⟩;conv=>whnf
    refine Wr.i64 (y:=((i+1:Nat):Int)) rfl (by omega) (by omega) ?_;conv=>whnf
    refine ⟨i+1,h,by show n - (i+1) < n - i;omega,⟨rfl,rfl,rfl,rfl,rfl,trivial⟩,?_,trivial⟩;show Ob.mat 3 ((ixP p (s+1) n i).set i (inP p (s+1) n i)) (List.set (List.set (rowsP n i) i ((cQ (List.replicate n 0)).set i (c1Q 1))) i (cQ (pointQ n i)))=Ob.mat 3 _ _;rw [f2,es]
  ·have h:i=n:=by simp only [decide_eq_false_iff_not] at h;omega
   rw [h];conv=>whnf
   exact ⟨⟨rfl,rfl,rfl,rfl,rfl⟩,[],rfl,trivial,rfl⟩
 have:=g.freezeM (by rw [ixP_len];omega) (matIn_ixP p s p.length);rwa [matD_ixP,List.drop_zero,List.take_of_length_le (by rw [cM_len,powM_len];omega)] at this
end Go.V
namespace Go.V
open Go.Proofs Go.RowKit
set_option maxRecDepth 10000
set_option maxHeartbeats 1000000
def toldP (p:Mt) (k:Nat):Tss:=(p.take k).map fun r=>r.map ratT
def toldC (p:Mt):Option Tss:=if p.all (fun r=>r.all fitsQ) then some (p.map fun r=>r.map ratT) else none
def ansC:Option Tss→AV×LL
 | some ts=>(.tup [.ag [.ls 0 0 ts.length 1],B true],[(0,.mat 1 (ixF 0 (ts.map List.length)) (ts.map cT))])
 | none=>(.tup [.ag [.d (.sl [])],B false],[])
abbrev toldM (p:Mt) (k:Nat):Ob:=.mat 1 (ixF 0 ((toldP p k).map List.length)) ((toldP p k).map cT)
def tcL (a b:Nat) (p:Mt):Nat→LL
 | 0=>[(a,.box true [.d (.s (.slice none 0 0))]),(b,.box true [.d (.s (.slice none 0 0))])]
 | k+1=>[(200,toldM p (k+1)),(a,.box true [.ls 200 0 (k+1) 1]),(b,.box true [.d (.s (.slice none 0 0))])]
theorem toldP_len {p:Mt} {k:Nat} (h:k≤p.length):(toldP p k).length=k:=by simp [toldP];omega
theorem toldP_next {p:Mt} {k:Nat} {r:List Rat} (h:k < p.length) (e:p.getD k []=r):toldP p (k+1)=toldP p k++[r.map ratT]:=by
 unfold toldP
 rw [List.take_succ_eq_append_getElem h,List.map_append,←e,gD,List.getElem?_eq_getElem h];rfl
theorem toldM_next {p:Mt} {k:Nat} {r:List Rat} (h:k < p.length) (e:p.getD k []=r) :
  toldM p (k+1) = .mat 1 (ixF 0 ((toldP p k).map List.length)++[.r ((toldP p k).map cT).length 0 (r.map ratT).length]) ((toldP p k).map cT++[cT (r.map ratT)]):=by
 unfold toldM
 rw [toldP_next h e,List.map_append,List.map_append]
 show Ob.mat 1 (ixF 0 (_++[(r.map ratT).length])) (_++[cT (r.map ratT)])=_
 rw [ixF_snoc,Nat.zero_add]
 simp only [List.length_map]
theorem fn_toldChain (p:Mt) (hn1:1≤p.length) (hn:p.length≤1000000) (hl:∀r,r∈p→r.length≤1000000) (hs:∀r,r∈p→∀q,q∈r→sz q≤100000000000):Fn Tryz.prog 20 [lM p] [] (ansC (toldC p)).1 (ansC (toldC p)).2:=by
 have hz:((cM p).length:Int)=p.length:=by rw [cM_len]
 refine Fn.intro (ks:=[0,2,3,4,6,7,8,10,11,12,13,22]) hty rfl rfl rfl rfl rfl ?_;conv=>whnf
 rw [hz];refine VLoop.invR hty (S:=Nat) [(28,200)] (fun k=>[(12,I k),(11,I p.length),(10,lM p),(4,.lp 4 0),(2,.lp 2 0)]) (tcL 4 2 p)
  (fun k=>k≤p.length∧(p.take k).all (fun r=>r.all fitsQ)=true) (fun k=>p.length - k) 0 ⟨Nat.zero_le _,rfl⟩ ⟨rfl,rfl,rfl,rfl,rfl,trivial⟩ ⟨rfl,rfl,trivial⟩ ?_
 rintro (_ | k) ⟨hk,hp⟩
 ·skip
  conv=>whnf
  refine Br.mk (fun h=>?_) (fun h=>?_)
  ·have h:0 < p.length:=by simp only [decide_eq_true_eq] at h;omega
   obtain ⟨r,er⟩:∃r,p.getD 0 []=r:=⟨_,rfl⟩;have hm:r∈p:=by rw [←er];exact getD_mem h
   have ct:=fn_toldList r (by have:=hl r hm;omega) (hs r hm);have en:=toldM_next h er;have el:=toldP_len (p:=p) (k:=0) (by omega);conv=>whnf
   refine ⟨⟨⟨by omega,by rw [cM_len];omega⟩,cM_sz _⟩,?_⟩;conv=>whnf
   refine ⟨_,cM_as h er,?_⟩;conv=>whnf
   cases hf:r.all fitsQ with
   | false =>
    have hall:¬(p.all (fun r=>r.all fitsQ)=true):=fun ha=>by rw [List.all_eq_true.1 ha r hm] at hf;cases hf
    rw [show toldTs r=none by unfold toldTs;rw [hf];rfl] at ct;refine VCall.of_data (x:=.tup [.d (.sl []),B false]) ct (ndT fun _=>rfl) ?_;conv=>whnf
    rw [show toldC p=none from if_neg hall]
    first | exact ⟨rfl,trivial,rfl⟩ | exact ⟨rfl,rfl,trivial,rfl⟩
   | true =>
    have hp2:(p.take (0+1)).all (fun r=>r.all fitsQ)=true:=by
     have e2:p[0]=r:=by rw [←er,gD,List.getElem?_eq_getElem h];rfl
     rw [List.take_succ_eq_append_getElem h,List.all_append,hp,e2];simp [hf]
    rw [show toldTs r=some (r.map ratT) by unfold toldTs;rw [hf];rfl] at ct;refine VCall.of_fnT (k:=18) (show Fn Tryz.prog _ _ [] (.tup [.ls 0 0 (r.map ratT).length 1,B true]) [(0,.row true 1 (cT (r.map ratT)))] from ct) rfl rfl ?_;conv=>whnf
    refine ⟨by decide,?_⟩;conv=>whnf
    refine Wr.i64 (y:=((0+1:Nat):Int)) rfl (by omega) (by omega) ?_;conv=>whnf
    refine ⟨0+1,⟨h,hp2⟩,by show p.length - (0+1) < p.length - 0;omega,rfl,?_⟩;conv=>whnf
    refine ⟨⟨rfl,rfl,rfl,rfl,rfl,trivial⟩,⟨?_,rfl,rfl,trivial⟩⟩;rw [en];rfl
  ·have h:p.length=0:=by simp only [decide_eq_false_iff_not] at h;have h:¬(0:Int) < p.length:=h;omega
   omega
 ·skip
  conv=>whnf
  refine Br.mk (fun h=>?_) (fun h=>?_)
  ·have h:(k+1) < p.length:=by simp only [decide_eq_true_eq] at h;omega
   obtain ⟨r,er⟩:∃r,p.getD (k+1) []=r:=⟨_,rfl⟩;have hm:r∈p:=by rw [←er];exact getD_mem h
   have ct:=fn_toldList r (by have:=hl r hm;omega) (hs r hm);have en:=toldM_next h er;have el:=toldP_len (p:=p) (k:=(k+1)) (by omega);conv=>whnf
   refine ⟨⟨⟨by omega,by rw [cM_len];omega⟩,cM_sz _⟩,?_⟩;conv=>whnf
   refine ⟨_,cM_as h er,?_⟩;conv=>whnf
   cases hf:r.all fitsQ with
   | false =>
    have hall:¬(p.all (fun r=>r.all fitsQ)=true):=fun ha=>by rw [List.all_eq_true.1 ha r hm] at hf;cases hf
    rw [show toldTs r=none by unfold toldTs;rw [hf];rfl] at ct;refine VCall.of_data (x:=.tup [.d (.sl []),B false]) ct (ndT fun _=>rfl) ?_;conv=>whnf
    rw [show toldC p=none from if_neg hall]
    first | exact ⟨rfl,trivial,rfl⟩ | exact ⟨rfl,rfl,trivial,rfl⟩
   | true =>
    have hp2:(p.take ((k+1)+1)).all (fun r=>r.all fitsQ)=true:=by
     have e2:p[(k+1)]=r:=by rw [←er,gD,List.getElem?_eq_getElem h];rfl
     rw [List.take_succ_eq_append_getElem h,List.all_append,hp,e2];simp [hf]
    rw [show toldTs r=some (r.map ratT) by unfold toldTs;rw [hf];rfl] at ct;refine VCall.of_fnT (k:=18) (show Fn Tryz.prog _ _ [] (.tup [.ls 0 0 (r.map ratT).length 1,B true]) [(0,.row true 1 (cT (r.map ratT)))] from ct) rfl rfl ?_;conv=>whnf
    refine ⟨⟨by rw [ixF_len,List.length_map,el],by show (k+1+1)*24≤_;omega⟩,?_⟩;conv=>whnf
    refine Wr.i64 (y:=(((k+1)+1:Nat):Int)) rfl (by omega) (by omega) ?_;conv=>whnf
    refine ⟨(k+1)+1,⟨h,hp2⟩,by show p.length - ((k+1)+1) < p.length - (k+1);omega,rfl,?_⟩;conv=>whnf
    refine ⟨⟨rfl,rfl,rfl,rfl,rfl,trivial⟩,⟨?_,rfl,rfl,trivial⟩⟩;rw [en];rfl
  ·have h:k+1=p.length:=by simp only [decide_eq_false_iff_not] at h;omega
   have e3:toldP p (k+1)=p.map fun r=>r.map ratT:=by rw [h];unfold toldP;rw [List.take_length]
   rw [h,List.take_length] at hp;rw [show toldC p=some (toldP p (k+1)) by rw [e3];exact if_pos hp];have el:=toldP_len (p:=p) (k:=k+1) (by omega);conv=>whnf
   exact ⟨⟨rfl,rfl,rfl,el,rfl⟩,_,rfl,rfl,trivial,rfl⟩
theorem namesTC {R:Ob} {n:Nat} (hR:R≠.no):namesIn [(0,R)] (.tup [.ag [.ls 0 0 n 1],B true]):=fun j hj=>by
 have:Nat.beq 0 j=true:=by
  have:(AV.ment j (.tup [.ag [.ls 0 0 n 1],B true]))=((Nat.beq 0 j || false) || (false || false)):=rfl
  rw [this] at hj;simpa using hj
 have e:=Nat.eq_of_beq_eq_true this
 rw [lget_cons,if_pos e.symm];exact hR
def powC (rows:Tss) (n:Int):Option Tss:=match chainQ rows with
 | none=>none
 | some p=>if 0≤n∧n≤40 then toldC (powM p n.toNat) else none
theorem powM_in {p:Mt} (hp:MtOk p) (n:Nat) (hn:n≤40):1≤(powM p n).length∧(powM p n).length≤1000000∧(∀r,r∈powM p n→r.length≤1000000)∧∀r,r∈powM p n→∀q,q∈r→sz q≤100000000000:=by
 have h1:=hp.n1
 have h2:=hp.n2
 have hz:=powM_sz hp n
 have zz:n*115210≤40*115210:=Nat.mul_le_mul_right _ hn
 refine ⟨by rw [powM_len];exact h1,by rw [powM_len];omega,fun r hr=>by rw [hz.sq r hr,powM_len];omega,fun r hr q hq=>by have:=hz.sz r hr q hq;omega⟩
theorem fn_PowerOfChain (rows:Tss) (n:Int) (hi:ChIn rows):Fn Tryz.prog 7 [chI rows,I n] [] (ansC (powC rows n)).1 (ansC (powC rows n)).2:=by
 have ci:=fn_in n 0 40;rw [inB] at ci;have c1:=fn_chainOf rows hi.l hi.r hi.s;refine Fn.intro (ks:=[0,1,2,4,5,6,7,19]) hty rfl rfl rfl rfl rfl ?_;conv=>whnf
 cases h:chainQ rows with
 | none =>
  rw [h] at c1;refine VCall.of_data c1 (ndT fun _=>rfl) ?_;conv=>whnf
  rw [show powC rows n=none by unfold powC;rw [h]]
  first | exact ⟨rfl,trivial,rfl⟩ | exact ⟨rfl,rfl,trivial,rfl⟩
 | some p =>
  have hp:=chainQ_ok h;rw [h] at c1;replace c1:Fn Tryz.prog 18 [chI rows] [] (.tup [lM p,B true]) []:=c1;refine VCall.of_data c1 (ndT fun _=>rfl) ?_;conv=>whnf
  refine VCall.of_data ci (nd _) ?_;conv=>whnf
  by_cases hn:0≤n∧n≤40
  ·obtain ⟨k,rfl⟩:∃k:Nat,n=k:=⟨n.toNat,by omega⟩;have hk:k≤40:=by omega
   obtain ⟨g1,g2,g3,g4⟩:=powM_in hp k hk;have c2:=fn_powerOfChain p k hp hk;have c3:=fn_toldChain (powM p k) g1 g2 g3 g4;rw [decide_eq_true hn,show powC rows k=toldC (powM p k) by unfold powC;rw [h];exact if_pos hn];conv=>whnf
   cases h4:toldC (powM p k) with
   | none =>
    rw [h4] at c3
    skip
    refine VCall.of_data c2 (nd _) ?_;conv=>whnf
    refine VCall.of_data c3 (ndT fun _=>rfl) ?_;conv=>whnf
    first | exact ⟨rfl,trivial,rfl⟩ | exact ⟨rfl,rfl,trivial,rfl⟩
   | some ts =>
    rw [h4] at c3
    skip
    refine VCall.of_data c2 (nd _) ?_;conv=>whnf
    refine VCall.of_fn (k:=24) c3 (namesTC (fun e=>by cases e)) rfl ?_;conv=>whnf
    exact ⟨⟨rfl,rfl,rfl,rfl,rfl⟩,_,rfl,rfl,trivial,rfl⟩
  ·rw [decide_eq_false hn,show powC rows n=none by unfold powC;rw [h];exact if_neg hn];conv=>whnf
   first | exact ⟨rfl,trivial,rfl⟩ | exact ⟨rfl,rfl,trivial,rfl⟩
end Go.V
namespace Go.V
open Go.Proofs Go.RowKit
set_option maxRecDepth 10000
set_option maxHeartbeats 1000000
structure ChS (P:Mt) (D:Nat):Prop where
 ok:MtOk P
 n5:P.length≤5
 d0:D≠0
 d:D≤371293
 iz:∀r,r∈P→∀q,q∈r→Iz D q
theorem ChS.ent_iz {P:Mt} {D:Nat} (h:ChS P D) {i j:Nat} (hi:i < P.length) (hj:j < P.length):Iz D (ent P i j):=h.iz _ (h.ok.ent_mem hi hj).1 _ (h.ok.ent_mem hi hj).2
theorem ChS.after {P:Mt} {D:Nat} (h:ChS P D) {i:Nat}:∀k j,j < P.length→0≤(afterQ P k (pointQ P.length i)).getD j 0∧Iz (D ^ k) ((afterQ P k (pointQ P.length i)).getD j 0)
 | 0,j,hj=>by
  show 0≤(pointQ P.length i).getD j 0∧Iz (D ^ 0) ((pointQ P.length i).getD j 0)
  rw [pointQ_at hj]
  split
  ·exact ⟨by decide,Iz.one _⟩
  ·exact ⟨by decide,Iz.zero _⟩
 | k+1,j,hj=>by
  have e:=step_at (p:=P) (w:=afterQ P k (pointQ P.length i)) (n:=P.length) (by rw [afterQ_len,pointQ_len]) hj
  show 0≤(stepQ P (afterQ P k (pointQ P.length i))).getD j 0∧Iz (D ^ (k+1)) ((stepQ P (afterQ P k (pointQ P.length i))).getD j 0)
  rw [e]
  refine ⟨sN_nonneg fun a ha=>Rat.mul_nonneg (h.after k a ha).1 (h.ok.ent_pos ha hj),?_⟩
  rw [Nat.pow_succ]
  exact sN_iz fun a ha=>(h.after k a ha).2.mul (h.ent_iz ha hj)
theorem ChS.le1 {P:Mt} {D:Nat} (h:ChS P D) {i:Nat} (hi:i < P.length) (k:Nat) {j:Nat} (hj:j < P.length):(afterQ P k (pointQ P.length i)).getD j 0≤1:=by
 rw [←after_sum h.ok hi k]
 exact sN_one_le (f:=fun j=>(afterQ P k (pointQ P.length i)).getD j 0) hj fun a ha=>(h.after k a ha).1
theorem ChS.bl {P:Mt} {D:Nat} (h:ChS P D) {k:Nat} (hk:k≤3):Go.V.bl (D ^ k)≤58:=by
 have h1:=bl_pow D (by have:=h.d0;omega) k
 have h2:Go.V.bl D≤19:=bl_le (Nat.lt_of_le_of_lt h.d (by decide))
 have h3:k*Go.V.bl D≤3*19:=Nat.mul_le_mul hk h2
 omega
theorem ChS.row {P:Mt} {D:Nat} (h:ChS P D) {i:Nat} (hi:i < P.length) (k:Nat) {q:Rat} (hq:q∈afterQ P k (pointQ P.length i)):0≤q∧q≤1∧Iz (D ^ k) q:=by
 obtain ⟨j,hj,rfl⟩:=List.mem_iff_getElem.1 hq;have hj2:j < P.length:=by rw [afterQ_len,pointQ_len] at hj;exact hj
 have e:(afterQ P k (pointQ P.length i))[j]=(afterQ P k (pointQ P.length i)).getD j 0:=by rw [gD,List.getElem?_eq_getElem hj];rfl
 rw [e];exact ⟨(h.after k j hj2).1,h.le1 hi k hj2,(h.after k j hj2).2⟩
theorem ChS.pw {P:Mt} {D:Nat} (h:ChS P D) {k:Nat} {r:List Rat} (hr:r∈powM P k) {q:Rat} (hq:q∈r):0≤q∧q≤1∧Iz (D ^ k) q:=by
 obtain ⟨i,hi,rfl⟩:=powM_mem hr
 exact h.row hi k hq
theorem ChS.dk {P:Mt} {D:Nat} (h:ChS P D) (k:Nat):D ^ k≠0:=by
 have:=Nat.pow_pos (n:=k) (Nat.pos_of_ne_zero h.d0)
 omega
theorem ChS.row_sz {P:Mt} {D:Nat} (h:ChS P D) {i:Nat} (hi:i < P.length) {k:Nat} (hk:k≤3) {q:Rat} (hq:q∈afterQ P k (pointQ P.length i)):sz q≤58:=by
 obtain ⟨h1,h2,h3⟩:=h.row hi k hq
 exact Nat.le_trans (h3.sz1 (h.dk k) h1 h2) (h.bl hk)
theorem ChS.pw_sz {P:Mt} {D:Nat} (h:ChS P D) {k:Nat} (hk:k≤3) {r:List Rat} (hr:r∈powM P k) {q:Rat} (hq:q∈r):sz q≤58:=by
 obtain ⟨h1,h2,h3⟩:=h.pw hr hq
 exact Nat.le_trans (h3.sz1 (h.dk k) h1 h2) (h.bl hk)
theorem ChS.pow {P:Mt} {D:Nat} (h:ChS P D) {k:Nat} (hk:k≤3):MtOk (powM P k) :=
 ⟨by rw [powM_len];exact h.ok.n1,by rw [powM_len];exact h.ok.n2,fun r hr=>by obtain ⟨i,hi,rfl⟩:=powM_mem hr;rw [afterQ_len,pointQ_len,powM_len],
  fun r hr q hq=>(h.pw hr hq).1,fun r hr q hq=>Nat.le_trans (h.pw_sz hk hr hq) (by decide),fun r hr=>by
   obtain ⟨i,hi,rfl⟩:=powM_mem hr
   rw [afterQ_len,pointQ_len]
   exact after_sum h.ok hi k⟩
theorem ChS.sz {P:Mt} {D:Nat} (h:ChS P D) {r:List Rat} (hr:r∈P) {q:Rat} (hq:q∈r):Go.V.sz q≤58:=by
 rw [←powM_one h.ok] at hr
 exact h.pw_sz (by decide) hr hq
theorem ChS.ent_pw {P:Mt} {D:Nat} (h:ChS P D) {k i j:Nat} (hi:i < P.length) (hj:j < P.length):0≤ent (powM P k) i j∧ent (powM P k) i j≤1∧Iz (D ^ k) (ent (powM P k) i j):=by
 unfold ent
 rw [powM_at hi]
 exact ⟨(h.after k j hj).1,h.le1 hi k hj,(h.after k j hj).2⟩
theorem min_le (p:Mt) (j:Nat):∀k,minC p j k≤ent p 0 j
 | 0=>Rat.le_refl
 | k+1=>by
  have ih:=min_le p j k
  unfold minC
  split
  ·rename_i h;exact Rat.le_trans (Rat.le_of_lt h) ih
  ·exact ih
theorem ChS.common {P:Mt} {D:Nat} (h:ChS P D) {k:Nat} (hk:k≤3):Go.V.sz (commonQ (powM P k))≤58:=by
 have hm:∀j,j < P.length→0≤commonT (powM P k) j∧commonT (powM P k) j≤ent (powM P k) 0 j∧Iz (D ^ k) (commonT (powM P k) j):=fun j hj=>by
  obtain ⟨i,h1,h2⟩:=minC_mem (p:=powM P k) (by rw [powM_len];exact h.ok.n1) j (powM P k).length (Nat.le_refl _);rw [powM_len] at h1;have e:=h.ent_pw (k:=k) h1 hj;have l:=min_le (powM P k) j (powM P k).length;unfold commonT;rw [h2] at l ⊢;exact ⟨e.1,l,e.2.2⟩
 have hn:=h.ok.n1;have h0:0≤commonQ (powM P k):=by unfold commonQ;rw [powM_len];exact sN_nonneg fun j hj=>(hm j hj).1
 have h1:commonQ (powM P k)≤1:=by
  have e:=(h.pow hk).row_one (i:=0) (by rw [powM_len];omega);rw [powM_len] at e;unfold commonQ;rw [powM_len,←e];exact sN_le fun j hj=>(hm j hj).2.1
 have h2:Iz (D ^ k) (commonQ (powM P k)):=by unfold commonQ;rw [powM_len];exact sN_iz fun j hj=>(hm j hj).2.2
 exact Nat.le_trans (h2.sz1 (h.dk k) h0 h1) (h.bl hk)
theorem Iz.abs {E:Nat} {a:Rat} (h:Iz E a):Iz E (absQ a):=by
 unfold absQ
 split
 ·exact h.neg
 ·exact h
theorem Iz.half {E:Nat} {a:Rat} (h:Iz E a):Iz (E*2) (a / 2):=by
 obtain ⟨z,hz⟩:=h
 refine ⟨z,?_⟩
 rw [←hz,Int.natCast_mul,Rat.intCast_mul]
 show a / 2*(((E:Int):Rat)*2)=a*((E:Int):Rat)
 grind
theorem abs_diff {a b:Rat} (ha:0≤a) (hb:0≤b):absQ (a - b)≤a+b:=abs_le (by grind) (by grind)
theorem ChS.dist {P:Mt} {D:Nat} (h:ChS P D) {k a b:Nat} (ha:a < P.length) (hb:b < P.length):0≤dI (powM P k) a b∧dI (powM P k) a b≤1∧Iz (D ^ k*2) (dI (powM P k) a b):=by
 unfold dI
 rw [powM_at ha,powM_at hb]
 unfold distQ
 rw [afterQ_len,pointQ_len]
 have sa:=after_sum h.ok ha k
 have sb:=after_sum h.ok hb k
 have ea:∀j,j < P.length→_:=fun j hj=>h.after (i:=a) k j hj
 have eb:∀j,j < P.length→_:=fun j hj=>h.after (i:=b) k j hj
 generalize afterQ P k (pointQ P.length a)=x at sa ea
 generalize afterQ P k (pointQ P.length b)=y at sb eb
 have h0:0≤sN P.length (distT x y):=sN_nonneg fun j _=>abs_nn _
 have h1:sN P.length (distT x y)≤2:=by
  have g:sN P.length (distT x y)≤sN P.length fun j=>x.getD j 0+y.getD j 0:=sN_le fun j hj=>abs_diff (ea j hj).1 (eb j hj).1
  rw [sN_add,sa,sb] at g
  exact Rat.le_trans g (by grind)
 have h2:Iz (D ^ k) (sN P.length (distT x y)):=sN_iz fun j hj=>by
  show Iz (D ^ k) (absQ (x.getD j 0 - y.getD j 0))
  rw [show x.getD j 0 - y.getD j 0=x.getD j 0 + -(y.getD j 0) by grind]
  exact ((ea j hj).2.add (eb j hj).2.neg).abs
 refine ⟨by grind,by grind,h2.half⟩
theorem ChS.widest {P:Mt} {D:Nat} (h:ChS P D) {k:Nat} (hk:k≤3):Go.V.sz (widestQ (powM P k))≤60:=by
 have hb:=h.bl hk;have hb2:=bl_mul (D ^ k) 2;have e2:Go.V.bl 2=2:=by decide
 have hd:D ^ k*2≠0:=Nat.mul_ne_zero (h.dk k) (by decide);rcases (mx_spec (PI (powM P k) (powM P k).length 0) 0).2.2 with e | e
 ·show Go.V.sz (mx 0 (PI (powM P k) (powM P k).length 0))≤60;rw [e,sz_zero];decide
 ·rcases PI_mem e with ⟨a,b,h1,h2,h3⟩ | ⟨b,h2,_⟩
  ·show Go.V.sz (mx 0 (PI (powM P k) (powM P k).length 0))≤60;rw [h3];rw [powM_len] at h1;obtain ⟨g1,g2,g3⟩:=h.dist (k:=k) h1 (show b < P.length by omega);exact Nat.le_trans (g3.sz1 hd g1 g2) (by omega)
  ·omega
theorem ChS.bound {P:Mt} {D:Nat} (h:ChS P D) {k:Nat} (hk:k≤3):Go.V.sz (widestQ P ^ k)≤181:=by
 have h1:=h.widest (k:=1) (by decide)
 rw [powM_one h.ok] at h1
 have h2:=sz_pow (widestQ P) k
 have h3:k*Go.V.sz (widestQ P)≤3*60:=Nat.mul_le_mul hk h1
 omega
theorem rdRats_told {xs:List Rat} (hl:xs.length≤300) (h:∀q,q∈xs→Go.V.sz q≤190):rdRats (xs.map ratT)=some xs:=by
 unfold rdRats
 rw [if_neg (by rw [List.length_map];omega)]
 clear hl
 induction xs with
 | nil=>rfl
 | cons x xs ih =>
  have h1:=rdRat_ratT (fits_smallQ (h x (by simp)))
  have h2:=ih fun q hq=>h q (List.mem_cons_of_mem _ hq)
  show allO rdRat (ratT x :: xs.map ratT)=_
  unfold allO
  rw [h1,h2]
theorem wQ_told {xs:List Rat} (hl:xs.length≤300) (h:∀q,q∈xs→Go.V.sz q≤190) (hp:∀q,q∈xs→0≤q) (h1:sN xs.length (xs.getD · 0)=1):wQ (xs.map ratT)=some xs:=by
 unfold wQ
 rw [rdRats_told hl h]
 dsimp only
 rw [if_pos]
 unfold isW
 rw [Bool.and_eq_true,List.all_eq_true,decide_eq_true_eq,rsum_sN]
 exact ⟨fun q hq=>by simpa using Rat.not_lt.2 (hp q hq),h1⟩
theorem chainL_told {n:Nat} (hn:n≤300):∀{p:Mt},(∀r,r∈p→r.length=n∧(∀q,q∈r→0≤q∧Go.V.sz q≤190)∧sN r.length (r.getD · 0)=1)→chainL n (p.map fun r=>r.map ratT)=some p
 | [],_=>rfl
 | r :: p,h=>by
  obtain ⟨h1,h2,h3⟩:=h r (by simp)
  have ih:=chainL_told hn (p:=p) fun r hr=>h r (List.mem_cons_of_mem _ hr)
  show chainL n (r.map ratT :: p.map fun r=>r.map ratT)=_
  unfold chainL
  rw [show rowQ n (r.map ratT)=some r by unfold rowQ;rw [if_pos (by rw [List.length_map,h1]),wQ_told (by omega) (fun q hq=>(h2 q hq).2) (fun q hq=>(h2 q hq).1) h3]]
  dsimp only
  rw [ih]
  rfl
abbrev tellM (p:Mt):Tss:=p.map fun r=>r.map ratT
theorem chainQ_told {p:Mt} (h:MtOk p) (hs:∀r,r∈p→∀q,q∈r→Go.V.sz q≤190):chainQ (tellM p)=some p:=by
 have:=h.n1
 have:=h.n2
 unfold chainQ
 rw [if_neg (by rw [List.length_map];omega),List.length_map]
 exact chainL_told (by omega) fun r hr=>⟨h.sq r hr,fun q hq=>⟨h.pos r hr q hq,hs r hr q hq⟩,h.one r hr⟩
theorem toldC_told {p:Mt} (hs:∀r,r∈p→∀q,q∈r→Go.V.sz q≤190):toldC p=some (tellM p):=by
 unfold toldC
 rw [if_pos]
 rw [List.all_eq_true]
 intro r hr
 rw [List.all_eq_true]
 exact fun q hq=>fits_smallQ (hs r hr q hq)
theorem len190 {q:Rat} (h:Go.V.sz q≤190):(ratT q).length≤1000:=by
 have h:=fits_smallQ h
 unfold fitsQ at h
 simp only [Bool.and_eq_true,decide_eq_true_eq] at h
 unfold ratT
 simp only [List.length_append]
 split <;> split <;> simp <;> omega
theorem tellM_in {p:Mt} (h:MtOk p) (hs:∀r,r∈p→∀q,q∈r→Go.V.sz q≤190):ChIn (tellM p):=by
 have h1:=h.n1
 have h2:=h.n2
 refine ⟨by rw [List.length_map];omega,fun r hr=>?_,fun r hr x hx=>?_⟩
 ·obtain ⟨r0,hr0,rfl⟩:=List.mem_map.1 hr
  rw [List.length_map,h.sq r0 hr0];omega
 ·obtain ⟨r0,hr0,rfl⟩:=List.mem_map.1 hr
  obtain ⟨q,hq,rfl⟩:=List.mem_map.1 hx
  have:=len190 (hs r0 hr0 q hq)
  omega
end Go.V
namespace Go.V
open Classical in
theorem VLoop.invE {P:Program} {t:TL} {l:LL} {ty:TypeId→Ty} {ks:List Nat} {b:Code} {Q:Ex→TL→LL→Prop} (hty:TyOk P ty) {S:Type} (T:S→TL) (L:S→LL) (I:S→Prop) (μ:S→Nat) (s0:S) (h0:I s0)
  (hT:entT t (T s0)) (hL:entL l (L s0))
  (round:∀s,I s→vcCode P ty ks b (T s) (L s) fun e t' l'=>match e with
   | .n=>∃s' rs,I s'∧μ s' < μ s∧renAll rs t' l' fun t' l'=>entT t' (T s')∧entL l' (L s')
   | .r=>Q .r t' l'
   | .x i=>Q (.x i) t' l'):VLoop P ty ks b t l Q where
 out:=fun G κ ρ a w hd hr=>by
  let J:Act→World→Nat→Prop:=fun a' w' n=>∃s κ' ρ',μ s=n∧I s∧κ.le κ'∧Rel G κ' ρ' (T s) (L s) a' w'
  let M:Act→World→Nat:=fun a' w'=>if h:∃n,J a' w' n then Classical.choose (least h) else 0
  have hM:∀{a' w'},(∃n,J a' w' n)→J a' w' (M a' w')∧∀m,J a' w' m→M a' w'≤m:=fun {a' w'} h=>by
   have:M a' w'=Classical.choose (least h):=dif_pos h
   rw [this];exact Classical.choose_spec (least h)
  refine wp_loop (fun a' w'=>∃n,J a' w' n) M ?_ ?_
  ·obtain ⟨ρ',_,h⟩:=hr.less (entT_get hT) (entL_get hL)
   exact ⟨_,s0,κ,ρ',rfl,h0,Know.le_refl _,h⟩
  ·intro a1 w1 hJ
   obtain ⟨⟨s,κ1,ρ1,hs,hI,hk1,hr1⟩,_⟩:=hM hJ
   refine Code.wp_mono ?_ (vcCode_sound hty b _ κ1 ρ1 _ _ a1 w1 hd hr1 (round s hI))
   rintro e a2 w2 ⟨x,κ2,ρ2,t2,l2,h1,h2,h3,h4⟩
   cases e with
   | normal =>
    have h1':some Ex.n=some x:=h1
    cases h1'
    obtain ⟨s',rs,g1,g2,g3⟩:=h4
    obtain ⟨t3,l3,ρ3,hr3,hT3,hL3⟩:=renAll_sound (P:=P) g3 h3
    obtain ⟨ρ',_,h⟩:=hr3.less (entT_get hT3) (entL_get hL3)
    have hJ2:J a2 w2 (μ s'):=⟨s',κ2,ρ',rfl,g1,Know.le_trans hk1 h2,h⟩
    have:=(hM ⟨_,hJ2⟩).2 _ hJ2
    exact ⟨⟨_,hJ2⟩,by omega⟩
   | ret=>have h1':some Ex.r=some x:=h1;cases h1';exact ⟨.r,κ2,ρ2,t2,l2,rfl,Know.le_trans hk1 h2,h3,h4⟩
   | exit id=>have h1':some (Ex.x id)=some x:=h1;cases h1';exact ⟨.x id,κ2,ρ2,t2,l2,rfl,Know.le_trans hk1 h2,h3,h4⟩
   | _=>simp [exOf] at h1
end Go.V
namespace Go.V
open Go.Proofs Go.RowKit
set_option maxRecDepth 10000
set_option maxHeartbeats 4000000
theorem ex_iter {St:Type} {n:Nat} {I:Nat→St→Prop} {R:Nat→St→St→Prop} (s0:St) (h0:I 0 s0) (step:∀i s,i < n→I i s→∃s',I (i+1) s'∧R i s s') :
  ∃f:Nat→St,f 0=s0∧(∀i,i≤n→I i (f i))∧∀i,i < n→R i (f i) (f (i+1)):=by
 have key:∀j,j≤n→∃f:Nat→St,f 0=s0∧(∀i,i≤j→I i (f i))∧∀i,i < j→R i (f i) (f (i+1)):=by
  intro j
  induction j with
  | zero=>intro _;exact ⟨fun _=>s0,rfl,fun i hi=>by rw [show i=0 by omega];exact h0,fun i hi=>by omega⟩
  | succ j ih =>
   intro hj
   obtain ⟨f,e,h1,h2⟩:=ih (by omega)
   obtain ⟨s',g1,g2⟩:=step j (f j) (by omega) (h1 j (Nat.le_refl _))
   refine ⟨fun i=>if i=j+1 then s' else f i,?_,fun i hi=>?_,fun i hi=>?_⟩
   ·dsimp only
    rw [if_neg (by omega)];exact e
   ·dsimp only
    by_cases e1:i=j+1
    ·rw [if_pos e1,e1];exact g1
    ·rw [if_neg e1];exact h1 i (by omega)
   ·dsimp only
    rw [if_neg (show ¬i=j+1 by omega)]
    by_cases e1:i=j
    ·rw [if_pos (by omega),e1];exact g2
    ·rw [if_neg (by omega)];exact h2 i (by omega)
 exact key n (Nat.le_refl _)
structure RowS (n:Nat) (w:List Rat):Prop where
 l:w.length=n
 pos:∀q,q∈w→0≤q
 iz:∀q,q∈w→Iz 360360 q
 one:sN w.length (w.getD · 0)=1
theorem point_rowS {n i:Nat} (h:i < n):RowS n (pointQ n i):=by
 refine ⟨pointQ_len n i,fun q hq=>?_,fun q hq=>?_,?_⟩
 ·exact (pointQ_wk n i).pos hq
 ·obtain ⟨j,_,rfl⟩:=List.mem_map.1 hq
  split
  ·exact Iz.one _
  ·exact Iz.zero _
 ·rw [pointQ_len]
  have e:(sN n fun j=>(pointQ n i).getD j 0)=sN n fun j=>if j=i then (fun _=>(1:Rat)) j else 0:=sN_congr fun j hj=>pointQ_at hj
  rw [e,sN_delta,if_pos h]
def dvChk:Bool:=(List.range 16).all fun t=>decide (t=0) || decide (360360 % t=0)
theorem dvChk_t:dvChk=true:=by decide +kernel
theorem dv15 {t:Nat} (h1:1≤t) (h2:t≤15):t∣360360:=by
 have h:=List.all_eq_true.1 dvChk_t t (List.mem_range.2 (by omega))
 rw [decide_eq_false (by omega),Bool.false_or,decide_eq_true_eq] at h
 exact Nat.dvd_of_mod_eq_zero h
def rN (g:Nat→Nat) (n:Nat):List Rat:=(List.range n).map fun i=>(((g i:Nat):Int):Rat)
theorem rN_len (g:Nat→Nat) (n:Nat):(rN g n).length=n:=by simp [rN]
theorem rN_at {g:Nat→Nat} {n i:Nat} (h:i < n):(rN g n).getD i 0=(((g i:Nat):Int):Rat):=by
 rw [gD,List.getElem?_eq_getElem (by rw [rN_len];exact h)];simp [rN]
theorem rN_next (g:Nat→Nat) (n:Nat):rN g (n+1)=rN g n++[(((g n:Nat):Int):Rat)]:=by unfold rN;rw [List.range_succ,List.map_append];rfl
theorem iz1 (z:Int):Iz 1 ((z:Int):Rat):=⟨z,by show (z:Rat)*1=z;rw [Rat.mul_one]⟩
theorem int_le {a b:Int} (h:a≤b):(a:Rat)≤(b:Rat):=Rat.intCast_le_intCast.2 h
theorem rN_sum {g:Nat→Nat} {n i:Nat} (hn:n≤5) (hg:∀k,k < n→g k≤3) (hi:i < n) (h1:1≤g i):∃t:Nat,1≤t∧t≤15∧rsum (rN g n)=((t:Int):Rat):=by
 have e:rsum (rN g n)=sN n fun k=>(((g k:Nat):Int):Rat):=by
  rw [rsum_sN,rN_len];exact sN_congr fun k hk=>rN_at hk
 have h0:∀k,k < n→(0:Rat)≤(((g k:Nat):Int):Rat):=fun k _=>int_le (a:=0) (by omega);obtain ⟨z,hz⟩:=sN_iz (E:=1) (n:=n) (f:=fun k=>(((g k:Nat):Int):Rat)) fun k _=>iz1 _;have hz:(sN n fun k=>(((g k:Nat):Int):Rat))=(z:Rat):=by rw [←hz];exact (Rat.mul_one _).symm
 have l1:=sN_one_le (f:=fun k=>(((g k:Nat):Int):Rat)) hi h0;have l2:=sN_const_le (n:=n) (f:=fun k=>(((g k:Nat):Int):Rat)) (M:=3) fun k hk=>int_le (by have:=hg k hk;omega);rw [hz] at l1 l2;have l1:=Rat.intCast_le_intCast.1 l1;have l2:=Rat.intCast_le_intCast.1 l2;refine ⟨z.toNat,by omega,by omega,?_⟩;rw [e,hz]
 congr 1
 omega
theorem rN_row {g:Nat→Nat} {n:Nat} {t:Nat} (h1:1≤t) (h2:t≤15) (h:rsum (rN g n)=((t:Int):Rat)):RowS n ((rN g n).map (· / rsum (rN g n))):=by
 have ht:(0:Rat) < ((t:Int):Rat):=Rat.intCast_pos.2 (by omega)
 have hne:((t:Int):Rat)≠0:=Rat.ne_of_gt ht
 rw [h]
 refine ⟨by rw [List.length_map,rN_len],fun q hq=>?_,fun q hq=>?_,?_⟩
 ·obtain ⟨x,hx,rfl⟩:=List.mem_map.1 hq
  obtain ⟨i,_,rfl⟩:=List.mem_map.1 hx
  rw [Rat.div_def]
  exact Rat.mul_nonneg (int_le (a:=0) (by omega)) (Rat.le_of_lt (Rat.inv_pos.2 ht))
 ·obtain ⟨x,hx,rfl⟩:=List.mem_map.1 hq
  obtain ⟨i,_,rfl⟩:=List.mem_map.1 hx
  refine Iz.of_dvd (E:=t) ⟨(g i:Int),?_⟩ (dv15 h1 h2)
  exact Rat.div_mul_cancel hne
 ·rw [List.length_map,rN_len]
  have e:(sN n fun j=>((rN g n).map (· / ((t:Int):Rat))).getD j 0)=sN n fun j=>((t:Int):Rat)⁻¹*(rN g n).getD j 0:=sN_congr fun j hj=>by
   rw [gD,gD,List.getElem?_map,List.getElem?_eq_getElem (by rw [rN_len];exact hj)]
   show _ / _=_
   rw [Rat.div_def,Rat.mul_comm];rfl
  rw [e,sN_mul]
  rw [rsum_sN,rN_len] at h
  rw [h]
  exact Rat.inv_mul_cancel _ hne
def swG (g:Nat→Nat) (a i:Nat):Nat:=if i=a then g 0 else if i=0 then g a else g i
theorem swG_set (g:Nat→Nat) {n a:Nat} (ha:a < n):((cS (rN g n)).set 0 (c1S (((g a:Nat):Int):Rat))).set a (c1S (((g 0:Nat):Int):Rat))=cS (rN (swG g a) n):=by
 apply List.ext_getElem (by simp [cS,rN]);intro i h1 h2;have hi:i < n:=by simpa [cS,rN] using h2
 simp only [List.getElem_set,cS,rN,List.getElem_map,List.getElem_range];unfold swG;by_cases e1:i=a
 ·rw [if_pos e1.symm,if_pos e1]
 ·rw [if_neg (fun h=>e1 h.symm),if_neg e1];by_cases e2:i=0
  ·rw [if_pos e2.symm,if_pos e2]
  ·rw [if_neg (fun h=>e2 h.symm),if_neg e2]
theorem swG_le {g:Nat→Nat} {n a:Nat} (hg:∀k,k < n→g k≤3) (ha:a < n):∀k,k < n→swG g a k≤3:=fun k hk=>by
 unfold swG
 split
 ·exact hg 0 (by omega)
 ·split
  ·exact hg a ha
  ·exact hg k hk
end Go.V
namespace Go.V
open Go.Proofs Go.RowKit
set_option maxRecDepth 10000
set_option maxHeartbeats 4000000
theorem VCall.par1l {P:Program} {t:TL} {l:LL} {f:FuncId} {xs xs0:List AV} {sz sz' s n k:Nat} {rows rows' R:List (List C)} {dst:Option Nat} {K:AV→TL→LL→Prop} (a:Nat)
  (h:Fn P f xs0 [(1000000,.row true sz rows)] (.ls 0 0 n s) [(0,.row true s R),(1000000,.row true sz' rows')]) (ha:argR (pmap [(1000000,a)]) xs xs0) (hl:lget a l = .row true sz rows)
  (hf:freshR (pmap [(1000000,a)]) k t l [(1000000,.row true sz rows)] [(0,.row true s R),(1000000,.row true sz' rows')]=true)
  (hK:K (AV.ren (ret (pmap [(1000000,a)]) k) (.ls 0 0 n s)) t (retL (pmap [(1000000,a)]) k [(0,.row true s R),(1000000,.row true sz' rows')]++l)):VCall P f xs dst t l K :=
 VCall.of_fnR (k:=k) (pmap [(1000000,a)]) h ha ⟨⟨hl,fun p h=>absurd rfl h⟩,trivial⟩ rfl (fun p hp=>by
  by_cases e:p=1000000
  ·subst e;intro h2;cases h2
  ·exact absurd (by rw [lget_cons,if_neg e];rfl) hp) (fun j hj=>by
  have h1:(AV.ment j (.ls 0 0 n s))=Nat.beq 0 j:=rfl
  rw [h1] at hj
  have:0=j:=Nat.eq_of_beq_eq_true hj
  subst this;intro h2;cases h2) hf hK
theorem ex_Weights {code:List Nat} {m k seed:Nat} (h:SrcK code m k seed) (hm:m≤1000) (n:Nat) (h1:1≤n) (h5:n≤5) :
  ∃w k' seed',RowS n w∧SrcK code (m+10) k' seed'∧Fn Tryz.prog 36 [.pe 1000000 0 0 3,I n] [(1000000,srcO code k seed)] (.ls 0 0 n 1) [(0,.row true 1 (cT (w.map ratT))),(1000000,srcO code k' seed')]:=by
 obtain ⟨f,f0,fI,fR⟩:=ex_iter (St:=Nat×Nat×Nat) (n:=n - 1) (I:=fun i s=>SrcK code (m+i) s.1 s.2.1∧s.2.2 < 4)
  (R:=fun _ s s'=>Fn Tryz.prog 35 [.pe 1000000 0 0 3,I 4] [(1000000,srcO code s.1 s.2.1)] (I s'.2.2) [(1000000,srcO code s'.1 s'.2.1)]) (k,seed,1) ⟨h,show 1 < 4 by decide⟩ (fun i s hi hs=>by
   obtain ⟨v,k',s',g1,g2,c⟩:=ex_pick hs.1 (by omega) 4 (by decide) (by decide);exact ⟨(k',s',v),⟨g2,g1⟩,c⟩)
 obtain ⟨a,ka,sa,ha,hsa,ca⟩:=ex_pick (fI (n - 1) (Nat.le_refl _)).1 (by omega) n h1 (by omega);obtain ⟨g,eg⟩:∃g:Nat→Nat,(fun i=>(f i).2.2)=g:=⟨_,rfl⟩;have hg:∀k,k < n→g k≤3:=fun k hk=>by rw [←eg];have:=(fI k (by omega)).2;show (f k).2.2≤3;omega
 have g0:g 0=1:=by rw [←eg];show (f 0).2.2=1;rw [f0]
 obtain ⟨t,t1,t2,t3⟩:=rN_sum (g:=swG g a) (i:=a) h5 (swG_le hg ha) ha (by unfold swG;rw [if_pos rfl,g0];exact Nat.le_refl _);have hw:=rN_row t1 t2 t3;have z2:∀q,q∈rN (swG g a) n→sz q≤2:=fun q hq=>by
  obtain ⟨i,hi,rfl⟩:=List.mem_map.1 hq;have e:=(iz1 (swG g a i:Nat)).sz (by decide) (int_le (a:=0) (by omega)) 3 (int_le (by have:=swG_le hg ha i (by simpa using hi);omega));exact Nat.le_trans e (by decide)
 have cn:=(fn_sNorm (rN (swG g a) n) 2 z2 (by decide) (by rw [rN_len];omega) (by decide) (by rw [t3];exact Rat.ne_of_gt (Rat.intCast_pos.2 (by omega)))).freeze (by rw [cS_len,List.length_map];omega);rw [List.drop_zero,List.take_of_length_le (by rw [cS_len,List.length_map];exact Nat.le_refl _)] at cn;have hq:∀q,q∈(rN (swG g a) n).map (· / rsum (rN (swG g a) n))→sz q≤190:=fun q hq=>by
  have e1:q≤1:=by
   obtain ⟨j,hj,e⟩:=List.mem_iff_getElem.1 hq;have:=sN_one_le (f:=fun j=>((rN (swG g a) n).map (· / rsum (rN (swG g a) n))).getD j 0) hj fun k hk=>hw.pos _ (getD_mem hk);rw [hw.one] at this;rw [←e];rw [gD,List.getElem?_eq_getElem hj] at this;exact this
  exact Nat.le_trans ((hw.iz q hq).sz1 (by decide) (hw.pos q hq) e1) (by decide)
 generalize (rN (swG g a) n).map (· / rsum (rN (swG g a) n))=w at hw cn hq;refine ⟨w,ka,sa,hw,⟨hsa.l,hsa.b,by have:=hsa.k;omega,hsa.s⟩,?_⟩;have hwl:=hw.l;have e1:=fn_sInt 1 (by decide) (by decide);refine Fn.intro (ks:=[0,1,4,5,6,7,8,9,10,11,16,45,46,47]) hty rfl rfl rfl rfl rfl ?_;conv=>whnf
 refine VCall.of_data (fn_sOne) (ndA fun k=>rfl) ?_;conv=>whnf
 refine VLoop.ren 13 24 rfl ?_;refine VLoop.inv hty (S:=Nat) (fun j=>[(6,I j),(5,.ls 24 0 j 3),(4,.d (.s (.slice none 0 0))),(1,I n),(0,.pe 1000000 0 0 3)]) (fun j=>[(24,.row true 3 (cS (rN g j))),(1000000,srcO code (f (j - 1)).1 (f (j - 1)).2.1)])
  (fun j=>1≤j∧j≤n) (fun j=>n - j) 1 ⟨Nat.le_refl _,h1⟩ ⟨rfl,rfl,rfl,rfl,rfl,trivial⟩ ⟨?_,?_,trivial⟩ ?_
 ·show Ob.row true 3 (cS [1])=Ob.row true 3 (cS [(((g 0:Nat):Int):Rat)]);rw [g0];rfl
 ·show srcO code k seed=srcO code (f 0).1 (f 0).2.1;rw [f0]
 rintro j ⟨j1,j2⟩;conv=>whnf
 refine Br.mk (fun h=>?_) (fun h=>?_)
 ·have h:j < n:=by simp only [decide_eq_true_eq] at h;omega
  have c1:=fR (j - 1) (by omega);rw [show j - 1+1=j by omega] at c1;have ex:(f j).2.2=g j:=by rw [←eg]
  rw [ex] at c1;have c2:=fn_sInt (g j:Nat) (by omega) (by have:=hg j h;omega);have en:=rN_next g j;have hl:=rN_len g j;generalize (((g j:Nat):Int):Rat)=x at c2 en;generalize rN g j=F at en hl ⊢;conv=>whnf
  refine VCall.par1 1000000 c1 ⟨⟨rfl,rfl,rfl,rfl⟩,rfl,trivial⟩ rfl ?_;conv=>whnf
  refine VCall.of_data c2 (ndA fun k=>rfl) ?_;conv=>whnf
  refine Sub.full rfl ?_;conv=>whnf
  refine Sub.full (by rw [cS_len];exact hl) ?_;conv=>whnf
  refine ⟨by show (j+1)*56≤_;omega,?_⟩;conv=>whnf
  refine Wr.i64 (y:=((j+1:Nat):Int)) rfl (by omega) (by omega) ?_;conv=>whnf
  refine ⟨j+1,⟨by omega,h⟩,by show n - (j+1) < n - j;omega,⟨rfl,rfl,rfl,rfl,rfl,trivial⟩,?_,?_,trivial⟩
  ·show Ob.row true 3 (cS F++[c1S x])=_;rw [en];simp [cS]
  ·rfl
 ·have h:j=n:=by simp only [decide_eq_false_iff_not] at h;omega
  subst h;have hgl:=rN_len g j;have e0:(rN g j).getD 0 0=(((g 0:Nat):Int):Rat):=rN_at (by omega);have ea:(rN g j).getD a 0=(((g a:Nat):Int):Rat):=rN_at ha;have es:=swG_set g ha;generalize (((g 0:Nat):Int):Rat)=x at e0 es;generalize (((g a:Nat):Int):Rat)=y at ea es;generalize rN (swG g a) j=G at cn es;generalize rN g j=F at e0 ea es hgl ⊢;conv=>whnf
  refine VCall.par1 1000000 ca ⟨⟨rfl,rfl,rfl,rfl⟩,rfl,trivial⟩ rfl ?_;conv=>whnf
  refine ⟨by omega,?_⟩;conv=>whnf
  refine ⟨_,cS_as (i:=0) (by omega) e0,?_⟩;conv=>whnf
  refine ⟨⟨by omega,by omega⟩,?_⟩;conv=>whnf
  refine ⟨_,cS_as (by omega) ea,?_⟩;conv=>whnf
  refine ⟨by omega,?_⟩;conv=>whnf
  refine ⟨by rw [cS_len,hgl];show 0+0 < j;omega,?_⟩;conv=>whnf
  have el:((cS F).set 0 (c1S y)).length=j:=by rw [List.length_set,cS_len];exact hgl
  refine ⟨⟨by omega,by omega⟩,?_⟩;conv=>whnf
  refine ⟨by show ((a:Nat):Int).toNat+0 < ((cS F).set 0 (c1S y)).length;omega,?_⟩;conv=>whnf
  have hgG:G.length=j:=by
   have:=congrArg List.length es;rw [List.length_set,el,cS_len] at this;exact this.symm
  refine VCall.frzD 24 (n:=j) (sz:=3) (D:=cS G) ⟨rfl,(by show ((cS F).set 0 (c1S y)).set (((a:Nat):Int).toNat+0) (c1S x)=cS G;rw [Int.toNat_natCast,Nat.add_zero];exact es)⟩ (by rw [cS_len,hgG]) (by repeat first | exact trivial | refine ⟨⟨rfl,rfl,rfl⟩,?_⟩) ⟨⟨rfl,rfl,rfl⟩,trivial⟩ ?_;refine VCall.of_data cn (nd _) ?_;conv=>whnf
  rw [cS_len,hwl];refine VLoop.ren 41 56 rfl ?_;refine VLoop.inv hty (S:=Nat) (fun i=>[(46,I i),(45,I j),(10,lS w),(9,.ls 56 0 i 1)]) (fun i=>[(56,.row true 1 (cT ((w.take i).map ratT))),(1000000,srcO code ka sa)])
   (fun i=>i≤j) (fun i=>j - i) 0 (Nat.zero_le _) ⟨rfl,rfl,rfl,rfl,trivial⟩ ⟨rfl,rfl,trivial⟩ ?_
  intro i hi;conv=>whnf
  refine Br.mk (fun h=>?_) (fun h=>?_)
  ·have h:i < j:=by simp only [decide_eq_true_eq] at h;omega
   have et:w.take (i+1)=w.take i++[w.getD i 0]:=by rw [List.take_succ_eq_append_getElem (by omega),gD,List.getElem?_eq_getElem (by omega)];rfl
   obtain ⟨z,ez⟩:∃z,w.getD i 0=z:=⟨_,rfl⟩;have hz:=hq z (by rw [←ez];exact getD_mem (by omega));have c3:=fn_sShow z (by omega);rw [ez] at et;have hl:((w.take i).map ratT).length=i:=by rw [List.length_map,List.length_take];omega
   conv=>whnf
   refine ⟨⟨⟨by omega,by rw [cS_len];omega⟩,cS_sz _⟩,?_⟩;conv=>whnf
   refine ⟨_,cS_as (by omega) ez,?_⟩;conv=>whnf
   refine VCall.of_data c3 (nd _) ?_;conv=>whnf
   refine Sub.full rfl ?_;conv=>whnf
   refine Sub.full (by rw [cT_len];exact hl) ?_;conv=>whnf
   refine ⟨by show (i+1)*16≤_;omega,?_⟩;conv=>whnf
   refine Wr.i64 (y:=((i+1:Nat):Int)) rfl (by omega) (by omega) ?_;conv=>whnf
   refine ⟨i+1,h,by show j - (i+1) < j - i;omega,⟨rfl,rfl,rfl,rfl,trivial⟩,?_,rfl,trivial⟩;show Ob.row true 1 (cT _++cT [ratT z])=_;rw [et,List.map_append,cT_append];rfl
  ·have h:i=j:=by simp only [decide_eq_false_iff_not] at h;omega
   subst h;rw [List.take_of_length_le (by omega)];conv=>whnf
   exact ⟨⟨rfl,rfl,rfl,rfl,rfl,rfl⟩,_,rfl,⟨rfl,trivial⟩,rfl⟩
end Go.V
namespace Go.V
open Go.Proofs Go.RowKit
set_option maxRecDepth 10000
set_option maxHeartbeats 4000000
def fsT (Q:Nat→List Rat) (i:Nat):Tss:=(List.range i).map fun j=>(Q j).map ratT
theorem fsT_len (Q:Nat→List Rat) (i:Nat):(fsT Q i).length=i:=by simp [fsT]
abbrev tldM (ts:Tss):Ob:=.mat 1 (ixF 0 (ts.map List.length)) (ts.map cT)
theorem tldM_next (Q:Nat→List Rat) (i:Nat) {r:List (List UInt8)} (e:(Q i).map ratT=r) :
  tldM (fsT Q (i+1)) = .mat 1 (ixF 0 ((fsT Q i).map List.length)++[.r ((fsT Q i).map cT).length 0 r.length]) ((fsT Q i).map cT++[cT r]):=by
 have e1:fsT Q (i+1)=fsT Q i++[r]:=by unfold fsT;rw [List.range_succ,List.map_append,←e];rfl
 unfold tldM;rw [e1,List.map_append,List.map_append];show Ob.mat 1 (ixF 0 (_++[r.length])) (_++[cT r])=_;rw [ixF_snoc,Nat.zero_add];simp only [List.length_map]
def dcL (Q:Nat→List Rat) (o:Nat→Ob):Nat→LL
 | 0=>[(1000000,o 0),(4,.box true [.d (.s (.slice none 0 0))]),(2,.box true [.d (.s (.slice none 0 0))])]
 | i+1=>[(1000000,o (i+1)),(200,tldM (fsT Q (i+1))),(4,.box true [.ls 200 0 (i+1) 1]),(2,.box true [.d (.s (.slice none 0 0))])]
def DcR (code:List Nat) (n kd:Nat) (s s':Nat×Nat×List Rat):Prop :=
 RowS n s'.2.2∧∃w k1 s1,w.length=n∧Fn Tryz.prog 36 [.pe 1000000 0 0 3,I n] [(1000000,srcO code s.1 s.2.1)] (.ls 0 0 n 1) [(0,.row true 1 (cT (w.map ratT))),(1000000,srcO code k1 s1)] ∧
  (if kd=0 then ∃b k2 s2,Fn Tryz.prog 37 [.pe 1000000 0 0 3,I 2] [(1000000,srcO code k1 s1)] (B b) [(1000000,srcO code k2 s2)] ∧
   (if b=true then ∃v,v < n∧Fn Tryz.prog 35 [.pe 1000000 0 0 3,I n] [(1000000,srcO code k2 s2)] (I (v:Nat)) [(1000000,srcO code s'.1 s'.2.1)]∧s'.2.2=pointQ n v else s'=(k2,s2,w)) else s'=(k1,s1,w))
theorem ex_row {code:List Nat} {m k seed:Nat} (h:SrcK code m k seed) (hm:m≤500) (n kd:Nat) (h1:1≤n) (h5:n≤5) (r:List Rat):∃s':Nat×Nat×List Rat,SrcK code (m+13) s'.1 s'.2.1∧DcR code n kd (k,seed,r) s':=by
 obtain ⟨w,k1,s1,g1,g2,c1⟩:=ex_Weights h (by omega) n h1 h5
 have up:∀{m k s},SrcK code m k s→∀j,m≤j→SrcK code j k s:=fun h j hj=>⟨h.l,h.b,by have:=h.k;omega,h.s⟩
 by_cases hk:kd=0
 ·obtain ⟨b,k2,s2,g3,c2⟩:=ex_one g2 (by omega) 2 (by decide) (by decide)
  cases b with
  | true =>
   obtain ⟨v,k3,s3,hv,g4,c3⟩:=ex_pick g3 (by omega) n h1 (by omega)
   refine ⟨(k3,s3,pointQ n v),up g4 _ (by omega),point_rowS hv,w,k1,s1,g1.l,c1,?_⟩
   rw [if_pos hk]
   refine ⟨true,k2,s2,c2,?_⟩
   rw [if_pos rfl]
   exact ⟨v,hv,c3,rfl⟩
  | false =>
   refine ⟨(k2,s2,w),up g3 _ (by omega),g1,w,k1,s1,g1.l,c1,?_⟩
   rw [if_pos hk]
   refine ⟨false,k2,s2,c2,?_⟩
   rw [if_neg (by decide)]
 ·refine ⟨(k1,s1,w),up g2 _ (by omega),g1,w,k1,s1,g1.l,c1,?_⟩
  rw [if_neg hk]
def zrT (xs:List (List UInt8)) (j:Nat):List (List UInt8):=List.replicate j [48]++xs.drop j
theorem zrT_len {xs:List (List UInt8)} {j:Nat} (h:j≤xs.length):(zrT xs j).length=xs.length:=by simp [zrT];omega
theorem zrT_next {xs:List (List UInt8)} {j:Nat} (h:j < xs.length):(zrT xs j).set j [48]=zrT xs (j+1):=by
 unfold zrT
 rw [List.set_append_right _ _ (by simp),List.length_replicate,Nat.sub_self,List.drop_eq_getElem_cons h,List.set_cons_zero,List.replicate_succ' (n:=j),List.append_assoc]
 rfl
theorem zrT_all {xs:List (List UInt8)} {n:Nat} (h:xs.length=n):zrT xs n=List.replicate n [48]:=by unfold zrT;rw [List.drop_of_length_le (by omega),List.append_nil]
theorem ratT_0:ratT 0=[48]:=by decide +kernel
theorem ratT_1:ratT 1=[49]:=by decide +kernel
theorem pointT_set {n v:Nat} (hv:v < n):(List.replicate n ([48]:List UInt8)).set v [49]=(pointQ n v).map ratT:=by
 apply List.ext_getElem (by simp [pointQ])
 intro i h1 h2
 simp only [pointQ,List.getElem_map,List.getElem_range,List.getElem_set,List.getElem_replicate]
 by_cases e:i=v
 ·rw [if_pos e.symm,if_pos e,ratT_1]
 ·rw [if_neg (fun h=>e h.symm),if_neg e,ratT_0]
theorem ex_Chain {code:List Nat} {m k seed:Nat} (h:SrcK code m k seed) (hm:m≤100) :
  ∃P k' seed',ChS P 360360∧Fn Tryz.prog 17 [.pe 1000000 0 0 3] [(1000000,srcO code k seed)] (.ag [.ls 0 0 P.length 1]) [(0,tldM (tellM P)),(1000000,srcO code k' seed')]:=by
 obtain ⟨n0,k1,s1,hn0,hs1,c1⟩:=ex_pick h (by omega) 5 (by decide) (by decide);obtain ⟨kd,k2,s2,hkd,hs2,c2⟩:=ex_pick hs1 (by omega) 4 (by decide) (by decide);obtain ⟨n,en⟩:∃n,1+n0=n:=⟨_,rfl⟩;obtain ⟨f,f0,fI,fR⟩:=ex_iter (St:=Nat×Nat×List Rat) (n:=n) (I:=fun i s=>SrcK code (m+2+13*i) s.1 s.2.1) (R:=fun _ s s'=>DcR code n kd s s') (k2,s2,[]) (by exact ⟨hs2.l,hs2.b,by have:=hs2.k;show k2≤_;omega,hs2.s⟩) (fun i s hi hs=>by
  obtain ⟨s',g1,g2⟩:=ex_row (r:=s.2.2) hs (by omega) n kd (by omega) (by omega);exact ⟨s',by rw [show m+2+13*(i+1)=m+2+13*i+13 by omega];exact g1,g2⟩)
 obtain ⟨Q,eQ⟩:∃Q:Nat→List Rat,(fun i=>(f (i+1)).2.2)=Q:=⟨_,rfl⟩;have hQ:∀i,i < n→RowS n (Q i):=fun i hi=>by rw [←eQ];exact (fR i hi).1
 have hP:∀r,r∈(List.range n).map Q→RowS n r:=fun r hr=>by
  obtain ⟨i,hi,rfl⟩:=List.mem_map.1 hr;exact hQ i (by simpa using hi)
 have hPl:((List.range n).map Q).length=n:=by simp
 have le1:∀r,r∈(List.range n).map Q→∀q,q∈r→q≤1:=fun r hr q hq=>by
  obtain ⟨j,hj,e⟩:=List.mem_iff_getElem.1 hq;have:=sN_one_le (f:=fun j=>r.getD j 0) hj fun k hk=>(hP r hr).pos _ (getD_mem hk);rw [(hP r hr).one] at this;rw [←e];rw [gD,List.getElem?_eq_getElem hj] at this;exact this
 refine ⟨(List.range n).map Q,(f n).1,(f n).2.1,⟨⟨by omega,by omega,fun r hr=>by rw [(hP r hr).l,hPl],fun r hr=>(hP r hr).pos,fun r hr q hq=>Nat.le_trans (((hP r hr).iz q hq).sz1 (by decide) ((hP r hr).pos q hq) (le1 r hr q hq)) (by decide),fun r hr=>(hP r hr).one⟩,by omega,by decide,by decide,fun r hr=>(hP r hr).iz⟩,?_⟩;rw [hPl];have eT:tellM ((List.range n).map Q)=fsT Q n:=by unfold tellM fsT;rw [List.map_map];rfl
 rw [eT];have e2:srcO code k2 s2=srcO code (f 0).1 (f 0).2.1:=by rw [f0]
 refine Fn.intro (ks:=[0,2,3,4,5,6,7,8,9,18,29,34,35,36]) hty rfl rfl rfl rfl rfl ?_;conv=>whnf
 refine VCall.par1 1000000 c1 ⟨⟨rfl,rfl,rfl,rfl⟩,rfl,trivial⟩ rfl ?_;conv=>whnf
 refine Wr.i64 (y:=(n:Int)) (by omega) (by omega) (by omega) ?_;conv=>whnf
 refine VCall.par1 1000000 c2 ⟨⟨rfl,rfl,rfl,rfl⟩,rfl,trivial⟩ rfl ?_;conv=>whnf
 refine VLoop.invE hty (S:=Nat) (fun i=>[(6,I i),(5,I kd),(4,.lp 4 0),(3,I n),(2,.lp 2 0),(0,.pe 1000000 0 0 3)]) (dcL Q fun i=>srcO code (f i).1 (f i).2.1)
  (fun i=>i≤n) (fun i=>n - i) 0 (Nat.zero_le _) ⟨rfl,rfl,rfl,rfl,rfl,rfl,trivial⟩ ⟨e2,rfl,rfl,trivial⟩ ?_
 rintro (_ | i) hi
 ·skip
  conv=>whnf
  refine Br.mk (fun h=>?_) (fun h=>?_)
  ·have h:0 < n:=by simp only [decide_eq_true_eq] at h;omega
   obtain ⟨hrow,w,k1,s1,hwl,cw,hr⟩:=fR 0 h;have eQ1:Q 0=(f (0+1)).2.2:=by rw [←eQ]
   obtain ⟨s',es'⟩:∃s',f (0+1)=s':=⟨_,rfl⟩;rw [es'] at hr eQ1;conv=>whnf
   refine VCall.par1l (k:=23) 1000000 cw ⟨⟨rfl,rfl,rfl,rfl⟩,rfl,trivial⟩ rfl rfl ?_;conv=>whnf
   by_cases hk:kd=0
   ·rw [if_pos hk] at hr;obtain ⟨b,k2,s2,co,hr⟩:=hr;rw [decide_eq_true (show (kd:Int)=0 by omega)];conv=>whnf
    refine VCall.par1 1000000 co ⟨⟨rfl,rfl,rfl,rfl⟩,rfl,trivial⟩ rfl ?_;conv=>whnf
    cases b with
    | true =>
     rw [if_pos rfl] at hr;obtain ⟨v,hv,cp,eP⟩:=hr;conv=>whnf
     refine VCall.par1 1000000 cp ⟨⟨rfl,rfl,rfl,rfl⟩,rfl,trivial⟩ rfl ?_;conv=>whnf
     have hts:(w.map ratT).length=n:=by rw [List.length_map,hwl]
     obtain ⟨ts,ets⟩:∃ts,w.map ratT=ts:=⟨_,rfl⟩;rw [ets] at hts;refine VLoop.inv hty (S:=Nat) (fun j=>[(35,I j),(34,I n),(8,I v),(7,.ls 23 0 n 1),(6,I (0:Nat)),(5,I kd),(4,.lp 4 0),(3,I n),(2,.lp 2 0),(0,.pe 1000000 0 0 3)]) (fun j=>(23,.row true 1 (cT (zrT ts j))) :: dcL Q (fun _=>srcO code s'.1 s'.2.1) (0))
      (fun j=>j≤n) (fun j=>n - j) 0 (Nat.zero_le _) ⟨rfl,rfl,rfl,rfl,rfl,rfl,rfl,rfl,rfl,rfl,trivial⟩ ⟨by rw [←ets];rfl,rfl,rfl,rfl,trivial⟩ ?_
     intro j hj;have hzl:=zrT_len (xs:=ts) (j:=j) (by omega);conv=>whnf
     refine Br.mk (fun h3=>?_) (fun h3=>?_)
     ·have h3:j < n:=by simp only [decide_eq_true_eq] at h3;omega
      conv=>whnf
      refine ⟨⟨by omega,by omega⟩,?_⟩;conv=>whnf
      refine ⟨_,cT_as (xs:=zrT ts j) (i:=j) (by omega) rfl,?_⟩;conv=>whnf
      refine Wr.i64 (y:=((j+1:Nat):Int)) rfl (by omega) (by omega) ?_;conv=>whnf
      refine ⟨j+1,h3,by show n - (j+1) < n - j;omega,⟨rfl,rfl,rfl,rfl,rfl,rfl,rfl,rfl,rfl,rfl,trivial⟩,?_,rfl,rfl,rfl,trivial⟩;show Ob.row true 1 ((cT (zrT ts j)).set (((j:Nat):Int).toNat+0) [.s (.string ⟨([48]:List UInt8).toArray⟩)])=Ob.row true 1 (cT (zrT ts (j+1)));rw [Int.toNat_natCast,Nat.add_zero,cT_set,zrT_next (by omega)]
     ·have h3:j=n:=by simp only [decide_eq_false_iff_not] at h3;omega
      rw [h3,zrT_all hts];conv=>whnf
      refine ⟨⟨by omega,by omega⟩,?_⟩;conv=>whnf
      refine ⟨_,cT_as (xs:=List.replicate n [48]) (i:=v) (by rw [List.length_replicate];exact hv) rfl,?_⟩;conv=>whnf
      have hrl:((pointQ n v).map ratT).length=n:=by rw [List.length_map,pointQ_len]
      have en:=tldM_next Q 0 (r:=(pointQ n v).map ratT) (by rw [eQ1,eP]);have ec:(cT (List.replicate n [48])).set (((v:Nat):Int).toNat+0) [.s (.string ⟨([49]:List UInt8).toArray⟩)]=cT ((pointQ n v).map ratT):=by rw [Int.toNat_natCast,Nat.add_zero,cT_set,pointT_set hv]
      conv=>whnf
      refine ⟨by decide,?_⟩;conv=>whnf
      refine Wr.i64 (y:=((0+1:Nat):Int)) rfl (by omega) (by omega) ?_;conv=>whnf
      refine ⟨0+1,[(49,200)],h,by show n - (0+1) < n - 0;omega,rfl,?_⟩;conv=>whnf
      refine ⟨⟨rfl,rfl,rfl,rfl,rfl,rfl,trivial⟩,⟨?_,?_,rfl,rfl,trivial⟩⟩
      ·show srcO code s'.1 s'.2.1=srcO code (f (0+1)).1 (f (0+1)).2.1;rw [es']
      ·rw [en,←ec,hrl];rfl
    | false =>
     rw [if_neg (by decide)] at hr;subst hr;conv=>whnf
     have hrl:(w.map ratT).length=n:=by rw [List.length_map,hwl]
     have en:=tldM_next Q 0 (r:=w.map ratT) (by rw [eQ1]);have ec:cT (w.map ratT)=cT (w.map ratT):=by rfl
     conv=>whnf
     refine ⟨by decide,?_⟩;conv=>whnf
     refine Wr.i64 (y:=((0+1:Nat):Int)) rfl (by omega) (by omega) ?_;conv=>whnf
     refine ⟨0+1,[(49,200)],h,by show n - (0+1) < n - 0;omega,rfl,?_⟩;conv=>whnf
     refine ⟨⟨rfl,rfl,rfl,rfl,rfl,rfl,trivial⟩,⟨?_,?_,rfl,rfl,trivial⟩⟩
     ·show srcO code k2 s2=srcO code (f (0+1)).1 (f (0+1)).2.1;rw [es']
     ·rw [en,←ec,hrl];rfl
   ·rw [if_neg hk] at hr;subst hr;rw [decide_eq_false (show ¬(kd:Int)=0 by omega)];conv=>whnf
    have hrl:(w.map ratT).length=n:=by rw [List.length_map,hwl]
    have en:=tldM_next Q 0 (r:=w.map ratT) (by rw [eQ1]);have ec:cT (w.map ratT)=cT (w.map ratT):=by rfl
    conv=>whnf
    refine ⟨by decide,?_⟩;conv=>whnf
    refine Wr.i64 (y:=((0+1:Nat):Int)) rfl (by omega) (by omega) ?_;conv=>whnf
    refine ⟨0+1,[(49,200)],h,by show n - (0+1) < n - 0;omega,rfl,?_⟩;conv=>whnf
    refine ⟨⟨rfl,rfl,rfl,rfl,rfl,rfl,trivial⟩,⟨?_,?_,rfl,rfl,trivial⟩⟩
    ·show srcO code k1 s1=srcO code (f (0+1)).1 (f (0+1)).2.1;rw [es']
    ·rw [en,←ec,hrl];rfl
  ·have h:0=n:=by simp only [decide_eq_false_iff_not] at h;omega
   omega
 ·skip
  have hfl:=fsT_len Q (i+1);conv=>whnf
  refine Br.mk (fun h=>?_) (fun h=>?_)
  ·have h:(i+1) < n:=by simp only [decide_eq_true_eq] at h;omega
   obtain ⟨hrow,w,k1,s1,hwl,cw,hr⟩:=fR (i+1) h;have eQ1:Q (i+1)=(f ((i+1)+1)).2.2:=by rw [←eQ]
   obtain ⟨s',es'⟩:∃s',f ((i+1)+1)=s':=⟨_,rfl⟩;rw [es'] at hr eQ1;conv=>whnf
   refine VCall.par1l (k:=23) 1000000 cw ⟨⟨rfl,rfl,rfl,rfl⟩,rfl,trivial⟩ rfl rfl ?_;conv=>whnf
   by_cases hk:kd=0
   ·rw [if_pos hk] at hr;obtain ⟨b,k2,s2,co,hr⟩:=hr;rw [decide_eq_true (show (kd:Int)=0 by omega)];conv=>whnf
    refine VCall.par1 1000000 co ⟨⟨rfl,rfl,rfl,rfl⟩,rfl,trivial⟩ rfl ?_;conv=>whnf
    cases b with
    | true =>
     rw [if_pos rfl] at hr;obtain ⟨v,hv,cp,eP⟩:=hr;conv=>whnf
     refine VCall.par1 1000000 cp ⟨⟨rfl,rfl,rfl,rfl⟩,rfl,trivial⟩ rfl ?_;conv=>whnf
     have hts:(w.map ratT).length=n:=by rw [List.length_map,hwl]
     obtain ⟨ts,ets⟩:∃ts,w.map ratT=ts:=⟨_,rfl⟩;rw [ets] at hts;refine VLoop.inv hty (S:=Nat) (fun j=>[(35,I j),(34,I n),(8,I v),(7,.ls 23 0 n 1),(6,I ((i+1):Nat)),(5,I kd),(4,.lp 4 0),(3,I n),(2,.lp 2 0),(0,.pe 1000000 0 0 3)]) (fun j=>(23,.row true 1 (cT (zrT ts j))) :: dcL Q (fun _=>srcO code s'.1 s'.2.1) ((i+1)))
      (fun j=>j≤n) (fun j=>n - j) 0 (Nat.zero_le _) ⟨rfl,rfl,rfl,rfl,rfl,rfl,rfl,rfl,rfl,rfl,trivial⟩ ⟨by rw [←ets];rfl,rfl,rfl,rfl,rfl,trivial⟩ ?_
     intro j hj;have hzl:=zrT_len (xs:=ts) (j:=j) (by omega);conv=>whnf
     refine Br.mk (fun h3=>?_) (fun h3=>?_)
     ·have h3:j < n:=by simp only [decide_eq_true_eq] at h3;omega
      conv=>whnf
      refine ⟨⟨by omega,by omega⟩,?_⟩;conv=>whnf
      refine ⟨_,cT_as (xs:=zrT ts j) (i:=j) (by omega) rfl,?_⟩;conv=>whnf
      refine Wr.i64 (y:=((j+1:Nat):Int)) rfl (by omega) (by omega) ?_;conv=>whnf
      refine ⟨j+1,h3,by show n - (j+1) < n - j;omega,⟨rfl,rfl,rfl,rfl,rfl,rfl,rfl,rfl,rfl,rfl,trivial⟩,?_,rfl,rfl,rfl,rfl,trivial⟩;show Ob.row true 1 ((cT (zrT ts j)).set (((j:Nat):Int).toNat+0) [.s (.string ⟨([48]:List UInt8).toArray⟩)])=Ob.row true 1 (cT (zrT ts (j+1)));rw [Int.toNat_natCast,Nat.add_zero,cT_set,zrT_next (by omega)]
     ·have h3:j=n:=by simp only [decide_eq_false_iff_not] at h3;omega
      rw [h3,zrT_all hts];conv=>whnf
      refine ⟨⟨by omega,by omega⟩,?_⟩;conv=>whnf
      refine ⟨_,cT_as (xs:=List.replicate n [48]) (i:=v) (by rw [List.length_replicate];exact hv) rfl,?_⟩;conv=>whnf
      have hrl:((pointQ n v).map ratT).length=n:=by rw [List.length_map,pointQ_len]
      have en:=tldM_next Q (i+1) (r:=(pointQ n v).map ratT) (by rw [eQ1,eP]);have ec:(cT (List.replicate n [48])).set (((v:Nat):Int).toNat+0) [.s (.string ⟨([49]:List UInt8).toArray⟩)]=cT ((pointQ n v).map ratT):=by rw [Int.toNat_natCast,Nat.add_zero,cT_set,pointT_set hv]
      conv=>whnf
      refine ⟨⟨by rw [ixF_len,List.length_map,hfl],by show (i+1+1)*24≤_;omega⟩,?_⟩;conv=>whnf
      refine Wr.i64 (y:=(((i+1)+1:Nat):Int)) rfl (by omega) (by omega) ?_;conv=>whnf
      refine ⟨(i+1)+1,[(49,200)],h,by show n - ((i+1)+1) < n - (i+1);omega,rfl,?_⟩;conv=>whnf
      refine ⟨⟨rfl,rfl,rfl,rfl,rfl,rfl,trivial⟩,⟨?_,?_,rfl,rfl,trivial⟩⟩
      ·show srcO code s'.1 s'.2.1=srcO code (f ((i+1)+1)).1 (f ((i+1)+1)).2.1;rw [es']
      ·rw [en,←ec,hrl];rfl
    | false =>
     rw [if_neg (by decide)] at hr;subst hr;conv=>whnf
     have hrl:(w.map ratT).length=n:=by rw [List.length_map,hwl]
     have en:=tldM_next Q (i+1) (r:=w.map ratT) (by rw [eQ1]);have ec:cT (w.map ratT)=cT (w.map ratT):=by rfl
     conv=>whnf
     refine ⟨⟨by rw [ixF_len,List.length_map,hfl],by show (i+1+1)*24≤_;omega⟩,?_⟩;conv=>whnf
     refine Wr.i64 (y:=(((i+1)+1:Nat):Int)) rfl (by omega) (by omega) ?_;conv=>whnf
     refine ⟨(i+1)+1,[(49,200)],h,by show n - ((i+1)+1) < n - (i+1);omega,rfl,?_⟩;conv=>whnf
     refine ⟨⟨rfl,rfl,rfl,rfl,rfl,rfl,trivial⟩,⟨?_,?_,rfl,rfl,trivial⟩⟩
     ·show srcO code k2 s2=srcO code (f ((i+1)+1)).1 (f ((i+1)+1)).2.1;rw [es']
     ·rw [en,←ec,hrl];rfl
   ·rw [if_neg hk] at hr;subst hr;rw [decide_eq_false (show ¬(kd:Int)=0 by omega)];conv=>whnf
    have hrl:(w.map ratT).length=n:=by rw [List.length_map,hwl]
    have en:=tldM_next Q (i+1) (r:=w.map ratT) (by rw [eQ1]);have ec:cT (w.map ratT)=cT (w.map ratT):=by rfl
    conv=>whnf
    refine ⟨⟨by rw [ixF_len,List.length_map,hfl],by show (i+1+1)*24≤_;omega⟩,?_⟩;conv=>whnf
    refine Wr.i64 (y:=(((i+1)+1:Nat):Int)) rfl (by omega) (by omega) ?_;conv=>whnf
    refine ⟨(i+1)+1,[(49,200)],h,by show n - ((i+1)+1) < n - (i+1);omega,rfl,?_⟩;conv=>whnf
    refine ⟨⟨rfl,rfl,rfl,rfl,rfl,rfl,trivial⟩,⟨?_,?_,rfl,rfl,trivial⟩⟩
    ·show srcO code k1 s1=srcO code (f ((i+1)+1)).1 (f ((i+1)+1)).2.1;rw [es']
    ·rw [en,←ec,hrl];rfl
  ·have h:i+1=n:=by simp only [decide_eq_false_iff_not] at h;omega
   subst h;conv=>whnf
   exact ⟨⟨rfl,rfl,rfl,rfl,rfl⟩,_,rfl,⟨rfl,trivial⟩,rfl⟩
end Go.V
namespace Go.V
open Go.Proofs Go.RowKit
set_option maxRecDepth 10000
set_option maxHeartbeats 1000000
end Go.V
namespace Go.V
open Go.Proofs Go.RowKit
set_option maxRecDepth 10000
set_option maxHeartbeats 1000000
end Go.V
namespace Go.V
open Go.Proofs Go.RowKit
set_option maxRecDepth 10000
set_option maxHeartbeats 1000000
end Go.V
