/- Part 7: the abstract machine, its soundness, contracts of functions. -/
import Derived.Test.YtnohbinebhhlpaaGreatDoorK6
import Derived.Test.YtnohbinebhhlpaaGreatDoorK5
import Derived.Test.YtnohbinebhhlpaaGreatDoorK4
set_option linter.unusedVariables false
set_option linter.unusedSimpArgs false
namespace Go.V
open Go.Proofs Go.RowKit
set_option maxRecDepth 10000
set_option maxHeartbeats 1000000
end Go.V
namespace Go.V
open Go.Proofs Go.RowKit
set_option maxRecDepth 10000
set_option maxHeartbeats 1000000
end Go.V
namespace Go.V
open Go.Proofs Go.RowKit
set_option maxRecDepth 10000
set_option maxHeartbeats 1000000
end Go.V
namespace Go.V
open Go.Proofs Go.RowKit
set_option maxRecDepth 10000
set_option maxHeartbeats 1000000
end Go.V
namespace Go.V
open Go.Proofs Go.RowKit
set_option maxRecDepth 10000
set_option maxHeartbeats 1000000
end Go.V
namespace Go.V
def Iz (E:Nat) (q:Rat):Prop:=∃z:Int,q*((E:Int):Rat)=(z:Rat)
theorem Iz.zero (E:Nat):Iz E 0:=⟨0,by simp [Rat.zero_mul]⟩
theorem Iz.one (E:Nat):Iz E 1:=⟨(E:Int),by rw [Rat.one_mul]⟩
theorem Iz.add {E:Nat} {a b:Rat} (h1:Iz E a) (h2:Iz E b):Iz E (a+b):=by
 obtain ⟨x,hx⟩:=h1;obtain ⟨y,hy⟩:=h2
 exact ⟨x+y,by rw [Rat.add_mul,hx,hy,Rat.intCast_add]⟩
theorem Iz.neg {E:Nat} {a:Rat} (h:Iz E a):Iz E (-a):=by
 obtain ⟨x,hx⟩:=h
 exact ⟨-x,by rw [Rat.neg_mul,hx,Rat.intCast_neg]⟩
theorem Iz.mul {E F:Nat} {a b:Rat} (h1:Iz E a) (h2:Iz F b):Iz (E*F) (a*b):=by
 obtain ⟨x,hx⟩:=h1;obtain ⟨y,hy⟩:=h2
 refine ⟨x*y,?_⟩
 rw [Rat.intCast_mul,←hx,←hy,Int.natCast_mul,Rat.intCast_mul]
 grind
theorem Iz.more {E:Nat} {a:Rat} (h:Iz E a) (F:Nat):Iz (E*F) a:=by
 have:=h.mul (Iz.one F)
 rwa [Rat.mul_one] at this
theorem Iz.more' {E:Nat} {a:Rat} (h:Iz E a) (F:Nat):Iz (F*E) a:=by rw [Nat.mul_comm];exact h.more F
theorem natc (n:Nat):((n:Nat):Rat)=((n:Int):Rat):=(Rat.intCast_natCast n).symm
theorem Iz.den (a:Rat):Iz a.den a:=⟨a.num,by
 have h:mkRat a.num a.den=a:=Rat.mkRat_self a
 have hp:((a.den:Int):Rat)≠0:=by have:=a.den_nz;exact_mod_cast this
 rw [Rat.mkRat_eq_div,natc] at h
 have h3:=Rat.div_mul_cancel (a:=((a.num:Int):Rat)) hp
 rw [h] at h3
 exact h3⟩
theorem Iz.of_dvd {E F:Nat} {a:Rat} (h:Iz E a) (d:E∣F):Iz F a:=by obtain ⟨k,rfl⟩:=d;exact h.more k
theorem Iz.sz {E:Nat} {a:Rat} (h:Iz E a) (hE:E≠0) (h0:0≤a) (M:Nat) (h1:a≤((M:Int):Rat)):sz a≤max (bl (M*E)) (bl E):=by
 obtain ⟨z,hz⟩:=h
 have hp:(0:Rat) < ((E:Int):Rat):=by
  have:(0:Int) < (E:Int):=by omega
  exact_mod_cast this
 have hz0:0≤z:=by
  have:(0:Rat)≤(z:Rat):=by rw [←hz];exact Rat.mul_nonneg h0 (Rat.le_of_lt hp)
  exact_mod_cast this
 have hz1:z≤((M*E:Nat):Int):=by
  have:(z:Rat)≤(((M*E:Nat):Int):Rat):=by
   rw [←hz,Int.natCast_mul,Rat.intCast_mul]
   exact Rat.mul_le_mul_of_nonneg_right h1 (Rat.le_of_lt hp)
  exact_mod_cast this
 obtain ⟨t,rfl⟩:∃t:Nat,z=(t:Int):=⟨z.toNat,by omega⟩
 have ea:a=mkRat (sgn false t) E:=by
  have h2:=natc E
  rw [sgn_f,Rat.mkRat_eq_div,←hz,h2,Rat.div_def,Rat.mul_assoc,Rat.mul_inv_cancel _ (Rat.ne_of_gt hp),Rat.mul_one]
 rw [ea]
 refine Nat.le_trans (sz_mkRat hE) ?_
 have:=bl_mono (a:=t) (b:=M*E) (by omega)
 omega
def dens:List Rat→Nat
 | []=>1
 | q :: r=>q.den*dens r
theorem dens_pos:∀xs,dens xs≠0
 | []=>by decide
 | q :: r=>Nat.mul_ne_zero q.den_nz (dens_pos r)
theorem dens_dvd {q:Rat}:∀{xs:List Rat},q∈xs→q.den∣dens xs
 | x :: r,h=>by
  rcases List.mem_cons.1 h with rfl | h
  ·exact ⟨dens r,rfl⟩
  ·exact Nat.dvd_trans (dens_dvd h) ⟨x.den,Nat.mul_comm _ _⟩
theorem dens_bl {m:Nat}:∀{xs:List Rat},(∀q,q∈xs→Go.V.sz q≤m)→bl (dens xs)≤xs.length*m+1
 | [],_=>by show bl 1≤_;rw [bl_one];omega
 | x :: r,h=>by
  show bl (x.den*dens r)≤(r.length+1)*m+1
  have h1:=bl_mul x.den (dens r)
  have h2:=dens_bl (xs:=r) fun q hq=>h q (List.mem_cons_of_mem _ hq)
  have h3:=h x (by simp)
  have h4:=bl_den x
  have:(r.length+1)*m=r.length*m+m:=Nat.succ_mul _ _
  omega
end Go.V
namespace Go.V
def sN:Nat→(Nat→Rat)→Rat
 | 0,_=>0
 | n+1,f=>sN n f+f n
theorem sN_congr {n:Nat} {f g:Nat→Rat} (h:∀i,i < n→f i=g i):sN n f=sN n g:=by
 induction n with
 | zero=>rfl
 | succ n ih=>show sN n f+f n=sN n g+g n;rw [ih fun i hi=>h i (by omega),h n (by omega)]
theorem sN_zero (n:Nat):(sN n fun _=>0)=0:=by
 induction n with
 | zero=>rfl
 | succ n ih=>show sN n _+0=0;rw [ih,Rat.add_zero]
theorem sN_add (n:Nat) (f g:Nat→Rat):(sN n fun i=>f i+g i)=sN n f+sN n g:=by
 induction n with
 | zero=>show (0:Rat)=0+0;rw [Rat.add_zero]
 | succ n ih=>show (sN n fun i=>f i+g i)+(f n+g n)=(sN n f+f n)+(sN n g+g n);rw [ih];grind
theorem sN_mul (n:Nat) (a:Rat) (f:Nat→Rat):(sN n fun i=>a*f i)=a*sN n f:=by
 induction n with
 | zero=>show (0:Rat)=a*0;rw [Rat.mul_zero]
 | succ n ih=>show (sN n fun i=>a*f i)+a*f n=a*(sN n f+f n);rw [ih,Rat.mul_add]
theorem sN_comm (n m:Nat) (f:Nat→Nat→Rat):(sN n fun i=>sN m (f i))=sN m fun j=>sN n fun i=>f i j:=by
 induction n with
 | zero=>exact (sN_zero m).symm
 | succ n ih =>
  show (sN n fun i=>sN m (f i))+sN m (f n)=sN m fun j=>(sN n fun i=>f i j)+f n j
  rw [ih,←sN_add]
theorem sN_nonneg {n:Nat} {f:Nat→Rat} (h:∀i,i < n→0≤f i):0≤sN n f:=by
 induction n with
 | zero=>exact Rat.le_refl
 | succ n ih =>
  have h1:=ih fun i hi=>h i (by omega)
  have h2:=h n (by omega)
  show 0≤sN n f+f n
  grind
theorem sN_le {n:Nat} {f g:Nat→Rat} (h:∀i,i < n→f i≤g i):sN n f≤sN n g:=by
 induction n with
 | zero=>exact Rat.le_refl
 | succ n ih =>
  have h1:=ih fun i hi=>h i (by omega)
  have h2:=h n (by omega)
  show sN n f+f n≤sN n g+g n
  grind
theorem sN_mono {n m:Nat} {f:Nat→Rat} (hm:m≤n) (h:∀i,i < n→0≤f i):sN m f≤sN n f:=by
 induction n with
 | zero=>rw [show m=0 by omega];exact Rat.le_refl
 | succ n ih =>
  by_cases e:m=n+1
  ·subst e;exact Rat.le_refl
  ·have h1:=ih (by omega) fun i hi=>h i (by omega)
   have h2:=h n (by omega)
   show sN m f≤sN n f+f n
   grind
theorem sN_one_le {n k:Nat} {f:Nat→Rat} (hk:k < n) (h:∀i,i < n→0≤f i):f k≤sN n f:=by
 have h1:=sN_mono (m:=k+1) (by omega) h
 have h2:0≤sN k f:=sN_nonneg fun i hi=>h i (by omega)
 have h3:sN (k+1) f=sN k f+f k:=rfl
 grind
theorem sN_delta (n k:Nat) (f:Nat→Rat):(sN n fun i=>if i=k then f i else 0)=if k < n then f k else 0:=by
 induction n with
 | zero=>rfl
 | succ n ih =>
  show (sN n fun i=>if i=k then f i else 0)+(if n=k then f n else 0)=_
  rw [ih]
  by_cases h1:n=k
  ·subst h1;rw [if_neg (by omega),if_pos rfl,if_pos (by omega),Rat.zero_add]
  ·rw [if_neg h1,Rat.add_zero]
   by_cases h2:k < n
   ·rw [if_pos h2,if_pos (by omega)]
   ·rw [if_neg h2,if_neg (by omega)]
theorem sN_const_le {n:Nat} {f:Nat→Rat} {M:Nat} (h:∀i,i < n→f i≤((M:Int):Rat)):sN n f≤(((n*M:Nat):Int):Rat):=by
 induction n with
 | zero=>simp [sN]
 | succ n ih =>
  have h1:=ih fun i hi=>h i (by omega)
  have h2:=h n (by omega)
  show sN n f+f n≤_
  rw [Nat.succ_mul,Int.natCast_add,Rat.intCast_add]
  grind
theorem sN_iz {E n:Nat} {f:Nat→Rat} (h:∀i,i < n→Iz E (f i)):Iz E (sN n f):=by
 induction n with
 | zero=>exact Iz.zero E
 | succ n ih=>exact (ih fun i hi=>h i (by omega)).add (h n (by omega))
end Go.V
namespace Go.V
abbrev Mt:=List (List Rat)
def ent (p:Mt) (i j:Nat):Rat:=(p.getD i []).getD j 0
def stepAt (p:Mt) (w:List Rat) (j k:Nat):Rat:=sN k fun i=>w.getD i 0*ent p i j
def stepQ (p:Mt) (w:List Rat):List Rat:=(List.range w.length).map fun j=>stepAt p w j w.length
theorem stepQ_len (p:Mt) (w:List Rat):(stepQ p w).length=w.length:=by simp [stepQ]
def afterQ (p:Mt):Nat→List Rat→List Rat
 | 0,w=>w
 | k+1,w=>stepQ p (afterQ p k w)
theorem afterQ_len (p:Mt):∀(k:Nat) (w:List Rat),(afterQ p k w).length=w.length
 | 0,_=>rfl
 | k+1,w=>by show (stepQ p _).length=_;rw [stepQ_len,afterQ_len p k w]
theorem getD_mem {α:Type} {xs:List α} {i:Nat} {d:α} (h:i < xs.length):xs.getD i d∈xs:=by
 rw [List.getD_eq_getElem?_getD,List.getElem?_eq_getElem h];exact List.getElem_mem h
structure MtOk (p:Mt):Prop where
 n1:1≤p.length
 n2:p.length≤12
 sq:∀r,r∈p→r.length=p.length
 pos:∀r,r∈p→∀q,q∈r→0≤q
 sz:∀r,r∈p→∀q,q∈r→Go.V.sz q≤800
 one:∀r,r∈p→sN r.length (r.getD · 0)=1
theorem MtOk.ent_mem {p:Mt} (h:MtOk p) {i j:Nat} (hi:i < p.length) (hj:j < p.length):p.getD i []∈p∧ent p i j∈p.getD i []:=by
 have h1:p.getD i []∈p:=getD_mem hi
 exact ⟨h1,getD_mem (by rw [h.sq _ h1];exact hj)⟩
theorem MtOk.ent_pos {p:Mt} (h:MtOk p) {i j:Nat} (hi:i < p.length) (hj:j < p.length):0≤ent p i j:=h.pos _ (h.ent_mem hi hj).1 _ (h.ent_mem hi hj).2
theorem MtOk.ent_sz {p:Mt} (h:MtOk p) {i j:Nat} (hi:i < p.length) (hj:j < p.length):Go.V.sz (ent p i j)≤800:=h.sz _ (h.ent_mem hi hj).1 _ (h.ent_mem hi hj).2
theorem MtOk.row_one {p:Mt} (h:MtOk p) {i:Nat} (hi:i < p.length):sN p.length (ent p i)=1:=by
 have h1:p.getD i []∈p:=getD_mem hi
 have h2:=h.one _ h1
 rw [h.sq _ h1] at h2
 exact h2
theorem MtOk.ent_le {p:Mt} (h:MtOk p) {i j:Nat} (hi:i < p.length) (hj:j < p.length):ent p i j≤1:=by
 rw [←h.row_one hi]
 exact sN_one_le (f:=ent p i) hj fun k hk=>h.ent_pos hi hk
def dM (p:Mt):Nat:=dens p.flatten
theorem dM_pos (p:Mt):dM p≠0:=dens_pos _
theorem flat_len {m:Nat}:∀{p:Mt},(∀r,r∈p→r.length=m)→p.flatten.length=p.length*m
 | [],_=>by simp
 | r :: p,h=>by
  have h1:=flat_len (p:=p) fun r hr=>h r (List.mem_cons_of_mem _ hr)
  rw [List.flatten_cons,List.length_append,h1,h r (by simp),List.length_cons,Nat.succ_mul,Nat.add_comm]
theorem MtOk.dM_bl {p:Mt} (h:MtOk p):bl (dM p)≤115201:=by
 have h1:=dens_bl (xs:=p.flatten) (m:=800) fun q hq=>by
  obtain ⟨r,hr,hq⟩:=List.mem_flatten.1 hq
  exact h.sz r hr q hq
 rw [flat_len h.sq] at h1
 have h2:p.length*p.length≤12*12:=Nat.mul_le_mul h.n2 h.n2
 have h3:p.length*p.length*800≤144*800:=Nat.mul_le_mul_right _ h2
 unfold dM
 omega
theorem MtOk.ent_iz {p:Mt} (h:MtOk p) {i j:Nat} (hi:i < p.length) (hj:j < p.length):Iz (dM p) (ent p i j) :=
 (Iz.den _).of_dvd (dens_dvd (List.mem_flatten.2 ⟨_,(h.ent_mem hi hj).1,(h.ent_mem hi hj).2⟩))
def Wk (n s:Nat) (w:List Rat):Prop:=w.length=n∧∃E M:Nat,E≠0∧bl M+bl E≤s∧∀q,q∈w→0≤q∧q≤((M:Int):Rat)∧Iz E q
theorem Iz.sz2 {E M:Nat} {a:Rat} (h:Iz E a) (hE:E≠0) (h0:0≤a) (h1:a≤((M:Int):Rat)):Go.V.sz a≤bl M+bl E:=by
 have h2:=h.sz hE h0 M h1
 have h3:=bl_mul M E
 omega
theorem Wk.sz {n s:Nat} {w:List Rat} (h:Wk n s w) {q:Rat} (hq:q∈w):Go.V.sz q≤s:=by
 obtain ⟨_,E,M,h1,h2,h3⟩:=h
 obtain ⟨h4,h5,h6⟩:=h3 q hq
 have:=h6.sz2 h1 h4 h5
 omega
theorem Wk.pos {n s:Nat} {w:List Rat} (h:Wk n s w) {q:Rat} (hq:q∈w):0≤q:=by
 obtain ⟨_,E,M,h1,h2,h3⟩:=h
 exact (h3 q hq).1
theorem step_part {p:Mt} (hp:MtOk p) {s:Nat} {w:List Rat} (h:Wk p.length s w) :
  ∃E M:Nat,E≠0∧bl M+bl E≤s+115210∧∀j k,j < p.length→k≤p.length→0≤stepAt p w j k∧stepAt p w j k≤((M:Int):Rat)∧Iz E (stepAt p w j k):=by
 obtain ⟨hl,E,M,h1,h2,h3⟩:=h
 have hb:=hp.dM_bl
 have h12:bl (p.length*M)≤4+bl M:=by
  have h4:=bl_mul p.length M
  have h5:bl p.length≤4:=bl_le (by have:=hp.n2;omega)
  omega
 have h6:=bl_mul E (dM p)
 refine ⟨E*dM p,p.length*M,Nat.mul_ne_zero h1 (dM_pos p),by omega,fun j k hj hk=>?_⟩
 have hm:∀i,i < p.length→0≤w.getD i 0∧w.getD i 0≤((M:Int):Rat)∧Iz E (w.getD i 0):=fun i hi=>h3 _ (getD_mem (by omega))
 have t0:∀i,i < p.length→0≤w.getD i 0*ent p i j:=fun i hi=>Rat.mul_nonneg (hm i hi).1 (hp.ent_pos hi hj)
 refine ⟨sN_nonneg fun i hi=>t0 i (by omega),?_,sN_iz fun i hi=>(hm i (by omega)).2.2.mul (hp.ent_iz (by omega) hj)⟩
 refine Rat.le_trans (sN_mono hk t0) (sN_const_le fun i hi=>?_)
 have h7:=Rat.mul_le_mul_of_nonneg_left (hp.ent_le hi hj) (hm i hi).1
 rw [Rat.mul_one] at h7
 exact Rat.le_trans h7 (hm i hi).2.1
theorem step_sz {p:Mt} (hp:MtOk p) {s:Nat} {w:List Rat} (h:Wk p.length s w) {j k:Nat} (hj:j < p.length) (hk:k≤p.length):sz (stepAt p w j k)≤s+115210:=by
 obtain ⟨E,M,h1,h2,h3⟩:=step_part hp h
 obtain ⟨h4,h5,h6⟩:=h3 j k hj hk
 have:=h6.sz2 h1 h4 h5
 omega
theorem Wk.step {p:Mt} (hp:MtOk p) {s:Nat} {w:List Rat} (h:Wk p.length s w):Wk p.length (s+115210) (stepQ p w):=by
 obtain ⟨E,M,h1,h2,h3⟩:=step_part hp h
 refine ⟨by rw [stepQ_len,h.1],E,M,h1,h2,fun q hq=>?_⟩
 obtain ⟨j,hj,rfl⟩:=List.mem_map.1 hq
 rw [h.1] at hj ⊢
 exact h3 j p.length (by simpa using hj) (Nat.le_refl _)
theorem Wk.after {p:Mt} (hp:MtOk p) {s:Nat} {w:List Rat} (h:Wk p.length s w):∀k,Wk p.length (s+k*115210) (afterQ p k w)
 | 0=>by rw [Nat.zero_mul];exact h
 | k+1=>by
  have:=(Wk.after hp h k).step hp
  rwa [Nat.add_assoc,←Nat.succ_mul] at this
def pointQ (n i:Nat):List Rat:=(List.range n).map fun j=>if j=i then 1 else 0
theorem pointQ_len (n i:Nat):(pointQ n i).length=n:=by simp [pointQ]
theorem pointQ_wk (n i:Nat):Wk n 2 (pointQ n i):=by
 refine ⟨pointQ_len n i,1,1,by decide,by decide,fun q hq=>?_⟩
 obtain ⟨j,_,rfl⟩:=List.mem_map.1 hq
 by_cases h:j=i
 ·rw [if_pos h];exact ⟨by decide,by decide,Iz.one 1⟩
 ·rw [if_neg h];exact ⟨by decide,by decide,Iz.zero 1⟩
theorem list_getD_ext {xs ys:List Rat} (hl:xs.length=ys.length) (h:∀i,i < xs.length→xs.getD i 0=ys.getD i 0):xs=ys:=by
 apply List.ext_getElem hl
 intro i h1 h2
 have:=h i h1
 rwa [List.getD_eq_getElem?_getD,List.getD_eq_getElem?_getD,List.getElem?_eq_getElem h1,List.getElem?_eq_getElem h2] at this
end Go.V
namespace Go.V
open Go.Proofs Go.RowKit
set_option maxRecDepth 10000
set_option maxHeartbeats 1000000
theorem fn_rminus (q:Rat) (hs:sz q≤1000000000000):Fn Tryz.prog 144 [rI q] [] (rI (-q)) []:=by
 have hz:=dg_len_zero b32 (n:=tp q)
 obtain ⟨h1,h2,h3⟩:=neg_parts q
 have e:(decide (0 < ((cW .u32 (dg B32 (tp q))).length:Int)))=decide (tp q≠0):=decide_eq_decide.2 (by rw [cW_len];constructor <;> intro h <;> omega)
 refine Fn.intro (ks:=[0,1,2]) hty rfl rfl rfl rfl rfl ?_
 conv=>whnf
 refine Br.mk (fun h=>?_) (fun h=>?_)
 ·conv=>whnf
  refine ⟨?_,?_,?_,trivial,rfl⟩
  ·rw [e,h1]
   have h':ng q=false:=by simpa using h
   rw [h'];rfl
  ·rw [h2]
  ·rw [h3]
 ·conv=>whnf
  refine ⟨?_,?_,?_,trivial,rfl⟩
  ·rw [h1]
   have h':ng q=true:=by simpa using h
   rw [h'];rfl
  ·rw [h2]
  ·rw [h3]
theorem fn_sOpp (q:Rat) (hs:sz q≤1000000000000):Fn Tryz.prog 146 [rS q] [] (rS (-q)) []:=by
 have hz:=dg_len_zero b9 (n:=tp q)
 obtain ⟨h1,h2,h3⟩:=neg_parts q
 have e:(decide (0 < ((cW .i64 (dg B9 (tp q))).length:Int)))=decide (tp q≠0):=decide_eq_decide.2 (by rw [cW_len];constructor <;> intro h <;> omega)
 refine Fn.intro (ks:=[0,1,2]) hty rfl rfl rfl rfl rfl ?_
 conv=>whnf
 refine Br.mk (fun h=>?_) (fun h=>?_)
 ·conv=>whnf
  refine ⟨?_,?_,?_,trivial,rfl⟩
  ·rw [e,h1]
   have h':ng q=false:=by simpa using h
   rw [h'];rfl
  ·rw [h2]
  ·rw [h3]
 ·conv=>whnf
  refine ⟨?_,?_,?_,trivial,rfl⟩
  ·rw [h1]
   have h':ng q=true:=by simpa using h
   rw [h'];rfl
  ·rw [h2]
  ·rw [h3]
theorem fn_rsub (p q:Rat) (hs:sz p+sz q≤99999999999):Fn Tryz.prog 142 [rI p,rI q] [] (rI (p - q)) []:=by
 have c1:=fn_rminus q (by omega)
 have c2:=fn_radd p (-q) (by rw [sz_neg];exact hs)
 rw [←Rat.sub_eq_add_neg] at c2
 refine Fn.intro (ks:=[0,1,2,3,4]) hty rfl rfl rfl rfl rfl ?_
 conv=>whnf
 refine VDraw.go hmo hty 4 [] rfl ?_
 conv=>whnf
 refine QCall.of_data c1 (ndA fun k=>rfl) ?_
 conv=>whnf
 refine QCall.of_data c2 (ndA fun k=>rfl) ?_
 conv=>whnf
 exact ⟨rfl,rfl,rfl,trivial,rfl⟩
theorem fn_sMinus (p q:Rat) (hs:sz p+sz q≤99999999999):Fn Tryz.prog 129 [rS p,rS q] [] (rS (p - q)) []:=by
 have c1:=fn_sOpp q (by omega)
 have c2:=fn_sSum p (-q) (by rw [sz_neg];exact hs)
 rw [←Rat.sub_eq_add_neg] at c2
 refine Fn.intro (ks:=[0,1,2,3,4]) hty rfl rfl rfl rfl rfl ?_
 conv=>whnf
 refine VDraw.go hmo hty 4 [] rfl ?_
 conv=>whnf
 refine QCall.of_data c1 (ndA fun k=>rfl) ?_
 conv=>whnf
 refine QCall.of_data c2 (ndA fun k=>rfl) ?_
 conv=>whnf
 exact ⟨rfl,rfl,rfl,trivial,rfl⟩
theorem cmpZ_zero' {a b:Nat}:cmpZ a b=0↔a=b:=by
 unfold cmpZ;split
 ·simp;omega
 ·split
  ·simp;omega
  ·simp;omega
theorem fn_sEqual (p q:Rat) (hp:sz p≤10000000000) (hq:sz q≤10000000000):Fn Tryz.prog 118 [rS p,rS q] [] (B (decide (p=q))) []:=by
 have b1:=bl_tp p
 have b2:=bl_den p
 have b3:=bl_tp q
 have b4:=bl_den q
 have k1:=bl_mul (tp p) q.den
 have k2:=bl_mul (tp q) p.den
 have m1:=fn_sMul (tp p) q.den (by omega) (by omega)
 have m2:=fn_sMul (tp q) p.den (by omega) (by omega)
 have cc:=fn_sCmp (tp p*q.den) (tp q*p.den) (by omega) (by omega)
 obtain ⟨c,ec⟩:∃x,cmpZ (tp p*q.den) (tp q*p.den)=x:=⟨_,rfl⟩
 have e:=eq_cross p q
 rw [←cmpZ_zero',ec] at e
 rw [ec] at cc
 refine Fn.intro (ks:=[0,1,2,3,4]) hty rfl rfl rfl rfl rfl ?_
 conv=>whnf
 refine VDraw.go hmo hty 20 [] rfl ?_
 conv=>whnf
 by_cases h:ng p=ng q
 ·rw [show (ng p == ng q)=true by simpa using h]
  conv=>whnf
  refine QCall.of_data m1 (nd _) ?_
  conv=>whnf
  refine QCall.of_data m2 (nd _) ?_
  conv=>whnf
  refine QCall.of_data cc (nd _) ?_
  conv=>whnf
  exact ⟨by rw [decide_eq_decide.2 (show p=q↔c=0 from e.trans ⟨fun x=>x.2,fun x=>⟨h,x⟩⟩)],trivial,rfl⟩
 ·rw [show (ng p == ng q)=false by simpa using h]
  conv=>whnf
  exact ⟨by rw [decide_eq_false (fun x=>h (e.1 x).1)],trivial,rfl⟩
def absQ (q:Rat):Rat:=if q < 0 then -q else q
theorem absQ_parts (q:Rat):ng (absQ q)=false∧tp (absQ q)=tp q∧(absQ q).den=q.den:=by
 unfold absQ
 by_cases h:q < 0
 ·rw [if_pos h]
  obtain ⟨h1,h2,h3⟩:=neg_parts q
  have:ng q=true:=by unfold ng;simp;have:=Rat.num_nonneg (q:=q);have h2:=Rat.not_le.2 h;exact Int.not_le.1 fun e=>h2 (this.1 e)
  rw [h1,this]
  exact ⟨rfl,h2,h3⟩
 ·rw [if_neg h]
  refine ⟨?_,rfl,rfl⟩
  unfold ng
  rw [decide_eq_false]
  intro h'
  exact h (Rat.not_le.1 fun e=>by have:=(Rat.num_nonneg (q:=q)).2 e;omega)
theorem sz_abs (q:Rat):sz (absQ q)=sz q:=by
 obtain ⟨_,h2,h3⟩:=absQ_parts q
 unfold sz;rw [h2,h3]
theorem sz_sN {m n:Nat} {f:Nat→Rat} (h:∀i,i < n→sz (f i)≤m):∀k,k≤n→sz (sN k f)≤k*(m+1)+1
 | 0,_=>by show sz (0:Rat)≤_;exact Nat.le_trans (by decide:sz (0:Rat)≤1) (by omega)
 | k+1,hk=>by
  show sz (sN k f+f k)≤_
  have h1:=sz_add (sN k f) (f k)
  have h2:=sz_sN h k (by omega)
  have h3:=h k (by omega)
  have:(k+1)*(m+1)=k*(m+1)+(m+1):=Nat.succ_mul _ _
  omega
theorem psum_sN (xs:List Rat):∀k,psum xs k=sN k (xs.getD · 0)
 | 0=>rfl
 | k+1=>by show psum xs k+_=sN k _+_;rw [psum_sN xs k]
theorem rsum_sN (xs:List Rat):rsum xs=sN xs.length (xs.getD · 0):=psum_sN xs _
def distT (a b:List Rat) (i:Nat):Rat:=absQ (a.getD i 0 - b.getD i 0)
def distQ (a b:List Rat):Rat:=sN a.length (distT a b) / 2
theorem sz_two:sz (2:Rat)=2:=by decide
end Go.V
namespace Go.V
open Go.Proofs Go.RowKit
set_option maxRecDepth 10000
set_option maxHeartbeats 1000000
theorem ng_lt (q:Rat):ng q=decide (q < 0):=by
 unfold ng
 refine decide_eq_decide.2 ?_
 have h:=Rat.num_nonneg (q:=q)
 rw [←Rat.not_le,←h];omega
theorem sgI_negD (q:Rat):decide (sgI q < 0)=decide (q < 0):=by
 rw [←ng_lt]
 unfold sgI
 by_cases h:tp q=0
 ·rw [if_pos h]
  have:q=0:=tp_zero.1 h
  subst this;rfl
 ·rw [if_neg h]
  cases ng q <;> rfl
def isW (x:List Rat):Bool:=(x.all fun q=>!decide (q < 0)) && decide (rsum x=1)
def wQ (xs:List (List UInt8)):Option (List Rat):=match rdRats xs with
 | none=>none
 | some x=>if isW x then some x else none
theorem fn_weightsOf (xs:List (List UInt8)) (hl:xs.length≤1000000) (hs:∀x,x∈xs→x.length≤1000000):Fn Tryz.prog 203 [lT xs] [] (.tup [lQ ((wQ xs).getD []),B (wQ xs).isSome]) []:=by
 have c1:=fn_rats xs (by omega) (fun x hx=>by have:=hs x hx;omega)
 refine Fn.intro (ks:=[0,2,3,4,5,22]) hty rfl rfl rfl rfl rfl ?_
 cases h:rdRats xs with
 | none =>
  rw [h] at c1
  rw [show wQ xs=none by unfold wQ;rw [h]]
  conv=>whnf
  refine VCall.of_data c1 (ndT fun _=>rfl) ?_
  conv=>whnf
  exact ⟨rfl,trivial,rfl⟩
 | some x =>
  obtain ⟨l1,l2,l3⟩:=rdRats_sz h
  rw [h] at c1
  replace c1:Fn Tryz.prog 230 [lT xs] [] (.tup [lQ x,B true]) []:=c1
  have c2:=fn_containsQ 134 (fun q=>decide (sgI q < 0)) x (by omega) (fun q hq=>fn_isMinus q (by have:=l3 q hq;omega))
  have hm:x.length*801≤300*801:=Nat.mul_le_mul_right _ l1
  have c3:=fn_sum x 800 l3 (by decide) (by omega) (by omega)
  have z3:=sz_psum l3 (by decide) x.length
  have c4:=fn_isOne (rsum x) (by show sz (psum x x.length)≤_;omega)
  have e:(x.any fun q=>decide (sgI q < 0)) = !(x.all fun q=>!decide (q < 0)):=by
   rw [List.not_all_eq_any_not]
   congr 1
   funext q
   rw [Bool.not_not];exact sgI_negD q
  rw [e] at c2
  obtain ⟨b1,e1⟩:∃b,(x.all fun q=>!decide (q < 0))=b:=⟨_,rfl⟩
  obtain ⟨b2,e2⟩:∃b,decide (rsum x=1)=b:=⟨_,rfl⟩
  have hw:wQ xs=if (b1 && b2)=true then some x else none:=by unfold wQ isW;rw [h,←e1,←e2]
  rw [e1] at c2
  rw [e2] at c4
  rw [hw]
  conv=>whnf
  refine VCall.of_data c1 (ndT fun _=>rfl) ?_
  conv=>whnf
  refine VCall.of_data c2 (nd _) ?_
  conv=>whnf
  cases b1 with
  | false =>
   conv=>whnf
   exact ⟨rfl,trivial,rfl⟩
  | true =>
   conv=>whnf
   refine VCall.of_data c3 (ndA fun k=>rfl) ?_
   conv=>whnf
   refine VCall.of_data c4 (nd _) ?_
   conv=>whnf
   cases b2 with
   | false =>
    conv=>whnf
    exact ⟨rfl,trivial,rfl⟩
   | true =>
    conv=>whnf
    exact ⟨rfl,rfl,trivial,rfl⟩
theorem fn_sWeights (x:List Rat) (hn:x.length≤1000) (hz:∀q,q∈x→sz q≤800):Fn Tryz.prog 169 [lS x] [] (B (isW x)) []:=by
 have c1:=fn_sPositive x (by omega)
 have hm:x.length*801≤1000*801:=Nat.mul_le_mul_right _ hn
 have c2:=fn_sTotal x 800 hz (by decide) (by omega) (by omega)
 have z3:=sz_psum hz (by decide) x.length
 have c3:=fn_sEqual (rsum x) 1 (by show sz (psum x x.length)≤_;omega) (by decide)
 have e:(x.all fun q=>!ng q)=(x.all fun q=>!decide (q < 0)):=by
  congr 1;funext q;rw [ng_lt]
 rw [e] at c1
 refine Fn.intro (ks:=[0,2]) hty rfl rfl rfl rfl rfl ?_
 unfold isW
 conv=>whnf
 refine VCall.of_data c1 (nd _) ?_
 conv=>whnf
 cases (x.all fun q=>!decide (q < 0)) with
 | false =>
  conv=>whnf
  exact ⟨rfl,trivial,rfl⟩
 | true =>
  conv=>whnf
  refine VCall.of_data c2 (ndA fun k=>rfl) ?_
  conv=>whnf
  refine VCall.of_data fn_sOne (ndA fun k=>rfl) ?_
  conv=>whnf
  refine VCall.of_data c3 (nd _) ?_
  conv=>whnf
  exact ⟨rfl,trivial,rfl⟩
def cTT (rows:List (List (List UInt8))):List (List C):=rows.map fun r=>[.sl (cT r)]
def cM (p:Mt):List (List C):=p.map fun r=>[.sl (cQ r)]
def cMS (p:Mt):List (List C):=p.map fun r=>[.sl (cS r)]
theorem cTT_len (p:List (List (List UInt8))):(cTT p).length=p.length:=by simp [cTT]
theorem cM_len (p:Mt):(cM p).length=p.length:=by simp [cM]
theorem cMS_len (p:Mt):(cMS p).length=p.length:=by simp [cMS]
theorem cTT_sz (p:List (List (List UInt8))):∀r,r∈cTT p→r.length=1:=by intro r hr;obtain ⟨n,_,rfl⟩:=List.mem_map.1 hr;rfl
theorem cM_sz (p:Mt):∀r,r∈cM p→r.length=1:=by intro r hr;obtain ⟨n,_,rfl⟩:=List.mem_map.1 hr;rfl
theorem cMS_sz (p:Mt):∀r,r∈cMS p→r.length=1:=by intro r hr;obtain ⟨n,_,rfl⟩:=List.mem_map.1 hr;rfl
theorem cTT_as {p:List (List (List UInt8))} {i:Nat} {x:List (List UInt8)} (h:i < p.length) (e:p.getD i []=x):(cTT p)[i]? = some [.sl (cT x)]:=by
 subst e;rw [List.getD_eq_getElem?_getD,List.getElem?_eq_getElem h];simp [cTT,h]
theorem cM_as {p:Mt} {i:Nat} {x:List Rat} (h:i < p.length) (e:p.getD i []=x):(cM p)[i]? = some [.sl (cQ x)]:=by
 subst e;rw [List.getD_eq_getElem?_getD,List.getElem?_eq_getElem h];simp [cM,h]
theorem cMS_as {p:Mt} {i:Nat} {x:List Rat} (h:i < p.length) (e:p.getD i []=x):(cMS p)[i]? = some [.sl (cS x)]:=by
 subst e;rw [List.getD_eq_getElem?_getD,List.getElem?_eq_getElem h];simp [cMS,h]
theorem cM_append1 (p:Mt) (x:List Rat):cM p++[[.sl (cQ x)]]=cM (p++[x]):=by simp [cM]
theorem cMS_append1 (p:Mt) (x:List Rat):cMS p++[[.sl (cS x)]]=cMS (p++[x]):=by simp [cMS]
abbrev lM (p:Mt):AV:=.d (.sl (cM p))
abbrev chI (rows:List (List (List UInt8))):AV:=.ag [.d (.sl (cTT rows))]
abbrev chP (rows:List (List (List UInt8))):AV:=.pp [.sl (cTT rows)] 0
abbrev mS (p:Mt):AV:=.ag [.d (.sl (cMS p))]
abbrev mP (p:Mt):AV:=.pp [.sl (cMS p)] 0
def rowQ (n:Nat) (r:List (List UInt8)):Option (List Rat):=if r.length=n then wQ r else none
def chainL (n:Nat):List (List (List UInt8))→Option Mt
 | []=>some []
 | r :: rs=>match rowQ n r with
  | none=>none
  | some x=>(chainL n rs).map (x :: ·)
def chainQ (rows:List (List (List UInt8))):Option Mt:=if rows.length < 1∨12 < rows.length then none else chainL rows.length rows
theorem wQ_len {r:List (List UInt8)} {x:List Rat} (h:wQ r=some x):x.length=r.length∧(∀q,q∈x→sz q≤800)∧(∀q,q∈x→0≤q)∧rsum x=1:=by
 unfold wQ at h
 cases h2:rdRats r with
 | none=>rw [h2] at h;cases h
 | some y =>
  rw [h2] at h
  dsimp only at h
  split at h
  ·rename_i hw
   cases h
   obtain ⟨_,l2,l3⟩:=rdRats_sz h2
   unfold isW at hw
   rw [Bool.and_eq_true,List.all_eq_true,decide_eq_true_eq] at hw
   exact ⟨l2,l3,fun q hq=>by have:=hw.1 q hq;simp at this;exact Rat.not_lt.1 this,hw.2⟩
  ·cases h
theorem chainL_ok {n:Nat}:∀{rows:List (List (List UInt8))} {p:Mt},chainL n rows=some p→p.length=rows.length∧∀r,r∈p→r.length=n∧(∀q,q∈r→sz q≤800)∧(∀q,q∈r→0≤q)∧rsum r=1
 | [],p,h=>by cases h;exact ⟨rfl,fun r hr=>(by cases hr)⟩
 | r :: rs,p,h=>by
  unfold chainL at h
  cases h1:rowQ n r with
  | none=>rw [h1] at h;cases h
  | some x =>
   rw [h1] at h
   dsimp only at h
   cases h2:chainL n rs with
   | none=>rw [h2] at h;cases h
   | some q =>
    rw [h2] at h
    cases h
    obtain ⟨g1,g2⟩:=chainL_ok h2
    refine ⟨by simp [g1],fun s hs=>?_⟩
    rcases List.mem_cons.1 hs with rfl | hs
    ·unfold rowQ at h1
     split at h1
     ·rename_i hn
      obtain ⟨w1,w2⟩:=wQ_len h1
      exact ⟨w1.trans hn,w2⟩
     ·cases h1
    ·exact g2 s hs
theorem chainQ_ok {rows:List (List (List UInt8))} {p:Mt} (h:chainQ rows=some p):MtOk p:=by
 unfold chainQ at h
 split at h
 ·cases h
 ·rename_i hn
  obtain ⟨g1,g2⟩:=chainL_ok h
  exact ⟨by omega,by omega,fun r hr=>by rw [(g2 r hr).1,g1],fun r hr=>(g2 r hr).2.2.1,fun r hr=>(g2 r hr).2.1,fun r hr=>by rw [←rsum_sN];exact (g2 r hr).2.2.2⟩
theorem chainL_step {n:Nat} {rows:List (List (List UInt8))} {i:Nat} {acc:Mt} {r:List (List UInt8)} (h:i < rows.length) (er:rows.getD i []=r) (hI:chainL n rows=(chainL n (rows.drop i)).map (acc ++ ·)) :
  (rowQ n r=none→chainL n rows=none)∧∀x,rowQ n r=some x→chainL n rows=(chainL n (rows.drop (i+1))).map ((acc++[x]) ++ ·):=by
 have e:rows.drop i=r :: rows.drop (i+1):=by
  rw [List.drop_eq_getElem_cons h,←er,List.getD_eq_getElem?_getD,List.getElem?_eq_getElem h];rfl
 rw [e] at hI
 refine ⟨fun hn=>by rw [hI,chainL,hn];rfl,fun x hx=>?_⟩
 rw [hI,chainL,hx]
 dsimp only
 cases chainL n (rows.drop (i+1)) with
 | none=>rfl
 | some q=>simp
theorem fn_chainOf (rows:List (List (List UInt8))) (hl:rows.length≤1000000) (hr:∀r,r∈rows→r.length≤1000000) (hs:∀r,r∈rows→∀x,x∈r→x.length≤1000000) :
  Fn Tryz.prog 173 [chI rows] [] (.tup [lM ((chainQ rows).getD []),B (chainQ rows).isSome]) []:=by
 have hz:((cTT rows).length:Int)=rows.length:=by rw [cTT_len]
 refine Fn.intro (ks:=[0,1,2,3,4,6,7,8,18,21,22,23,24,41]) hty rfl rfl rfl rfl rfl ?_
 conv=>whnf
 rw [hz]
 refine Br.mk (fun h=>?_) (fun h=>?_)
 ·have h:rows.length < 1:=by simp only [decide_eq_true_eq] at h;omega
  rw [show chainQ rows=none by unfold chainQ;rw [if_pos (.inl h)]]
  conv=>whnf
  exact ⟨rfl,trivial,rfl⟩
 ·have h1:¬rows.length < 1:=by simp only [decide_eq_false_iff_not] at h;omega
  conv=>whnf
  rw [hz]
  refine Br.mk (fun h=>?_) (fun h=>?_)
  ·have h:12 < rows.length:=by simp only [decide_eq_true_eq] at h;omega
   rw [show chainQ rows=none by unfold chainQ;rw [if_pos (.inr h)]]
   conv=>whnf
   exact ⟨rfl,trivial,rfl⟩
  ·have h2:¬12 < rows.length:=by simp only [decide_eq_false_iff_not] at h;omega
   have hq:chainQ rows=chainL rows.length rows:=by unfold chainQ;rw [if_neg (by omega)]
   rw [hq]
   conv=>whnf
   refine VLoop.ren 19 45 rfl ?_
   refine VLoop.inv hty (S:=Mt×Nat) (fun x=>[(23,I x.2),(22,I rows.length),(21,.d (.sl (cTT rows))),(4,.ls 45 0 x.2 1),(1,.lp 1 0)]) (fun x=>[(45,.row true 1 (cM x.1)),(1,.box true [.d (.sl (cTT rows))])])
    (fun x=>x.2≤rows.length∧x.1.length=x.2∧chainL rows.length rows=(chainL rows.length (rows.drop x.2)).map (x.1 ++ ·)) (fun x=>rows.length - x.2) ([],0) ⟨Nat.zero_le _,rfl,by rw [List.drop_zero];cases chainL rows.length rows <;> simp⟩
    ⟨rfl,congrArg I hz,rfl,rfl,rfl,trivial⟩ ⟨rfl,rfl,trivial⟩ ?_
   intro x hx
   obtain ⟨g1,g2,g3⟩:=hx
   conv=>whnf
   refine Br.mk (fun h=>?_) (fun h=>?_)
   ·have h:x.2 < rows.length:=by simp only [decide_eq_true_eq] at h;omega
    obtain ⟨r,er⟩:∃r,rows.getD x.2 []=r:=⟨_,rfl⟩
    have hm:r∈rows:=by rw [←er];exact getD_mem h
    have c1:=fn_weightsOf r (hr r hm) (hs r hm)
    obtain ⟨s1,s2⟩:=chainL_step h er g3
    conv=>whnf
    refine ⟨⟨⟨by omega,by rw [cTT_len];omega⟩,cTT_sz _⟩,?_⟩
    conv=>whnf
    refine ⟨_,cTT_as h er,?_⟩
    conv=>whnf
    cases hw:wQ r with
    | none =>
     rw [hw] at c1
     refine VCall.of_data c1 (ndT fun _=>rfl) ?_
     conv=>whnf
     rw [s1 (by unfold rowQ;rw [hw,ite_self])]
     exact ⟨rfl,trivial,rfl⟩
    | some y =>
     have hy:=(wQ_len hw).1
     rw [hw] at c1
     replace c1:Fn Tryz.prog 203 [lT r] [] (.tup [lQ y,B true]) []:=c1
     refine VCall.of_data c1 (ndT fun _=>rfl) ?_
     conv=>whnf
     rw [hz,cQ_len]
     by_cases he:y.length=rows.length
     ·rw [decide_eq_true (show (y.length:Int)=rows.length by omega)]
      conv=>whnf
      refine Sub.full rfl ?_
      conv=>whnf
      refine Sub.full (by rw [cM_len,g2]) ?_
      conv=>whnf
      refine ⟨by show (x.2+1)*24≤_;omega,?_⟩
      conv=>whnf
      refine Wr.i64 (y:=((x.2+1:Nat):Int)) rfl (by omega) (by omega) ?_
      conv=>whnf
      refine ⟨(x.1++[y],x.2+1),⟨h,by simp [g2],s2 y (by unfold rowQ;rw [if_pos (by omega),hw])⟩,by show rows.length - (x.2+1) < rows.length - x.2;omega,⟨rfl,rfl,rfl,rfl,rfl,trivial⟩,?_,rfl,trivial⟩
      show Ob.row true 1 (cM x.1++_)=_
      rw [cM_append1]
     ·rw [decide_eq_false (show ¬(y.length:Int)=rows.length by omega)]
      rw [s1 (by unfold rowQ;rw [if_neg (by omega)])]
      conv=>whnf
      exact ⟨rfl,trivial,rfl⟩
   ·have h:x.2=rows.length:=by simp only [decide_eq_false_iff_not] at h;omega
    rw [g3,h,List.drop_length]
    conv=>whnf
    refine ⟨⟨rfl,by rw [cM_len,g2];omega,?_⟩,rfl,trivial,rfl⟩
    rw [List.drop_zero,List.take_of_length_le (by rw [cM_len,g2];omega)]
    show cM x.1=cM (x.1++[])
    rw [List.append_nil]
end Go.V
namespace Go.V
open Go.Proofs Go.RowKit
set_option maxRecDepth 10000
set_option maxHeartbeats 1000000
def parL:Mt→LL
 | []=>[(5,.box true [.d (.s (.slice none 0 0))]),(2,.box true [.d (.s (.slice none 0 0))])]
 | y :: ys=>[(200,.row true 1 (cMS (y :: ys))),(5,.box true [.ls 200 0 (ys.length+1) 1]),(2,.box true [.d (.s (.slice none 0 0))])]
theorem fn_l03Parse (rows:List (List (List UInt8))) (hl:rows.length≤1000000) (hr:∀r,r∈rows→r.length≤1000000) (hs:∀r,r∈rows→∀x,x∈r→x.length≤1000000) :
  Fn Tryz.prog 100 [chP rows] [] (.tup [mS ((chainQ rows).getD []),B (chainQ rows).isSome]) []:=by
 have hz:((cTT rows).length:Int)=rows.length:=by rw [cTT_len]
 refine Fn.intro (ks:=[0,2,3,4,5,6,7,8,19,26,27,28,39,58]) hty rfl rfl rfl rfl rfl ?_
 conv=>whnf
 rw [hz]
 refine Br.mk (fun h=>?_) (fun h=>?_)
 ·have h:rows.length < 1:=by simp only [decide_eq_true_eq] at h;omega
  rw [show chainQ rows=none by unfold chainQ;rw [if_pos (.inl h)]]
  conv=>whnf
  exact ⟨rfl,trivial,rfl⟩
 ·have h1:¬rows.length < 1:=by simp only [decide_eq_false_iff_not] at h;omega
  refine Br.mk (fun h=>?_) (fun h=>?_)
  ·have h:12 < rows.length:=by simp only [decide_eq_true_eq] at h;omega
   rw [show chainQ rows=none by unfold chainQ;rw [if_pos (.inr h)]]
   conv=>whnf
   exact ⟨rfl,trivial,rfl⟩
  ·have h2:¬12 < rows.length:=by simp only [decide_eq_false_iff_not] at h;omega
   have hq:chainQ rows=chainL rows.length rows:=by unfold chainQ;rw [if_neg (by omega)]
   rw [hq]
   conv=>whnf
   refine VLoop.invR hty (S:=Mt) [(64,200)] (fun acc=>[(27,I acc.length),(26,I rows.length),(5,.lp 5 0),(4,I rows.length),(2,.lp 2 0),(0,chP rows)]) parL
    (fun acc=>acc.length≤rows.length∧chainL rows.length rows=(chainL rows.length (rows.drop acc.length)).map (acc ++ ·)) (fun acc=>rows.length - acc.length) [] ⟨Nat.zero_le _,by show chainL rows.length rows=_;rw [List.length_nil,List.drop_zero];cases chainL rows.length rows <;> simp⟩
    ⟨rfl,congrArg I hz,rfl,rfl,rfl,rfl,trivial⟩ ⟨rfl,rfl,trivial⟩ ?_
   intro acc hx
   obtain ⟨g1,g3⟩:=hx
   obtain ⟨r,er⟩:∃r,rows.getD acc.length []=r:=⟨_,rfl⟩
   cases acc with
   | nil =>
    conv=>whnf
    refine Br.mk (fun h=>?_) (fun h=>?_)
    ·have h:(([]:Mt)).length < rows.length:=by simp only [decide_eq_true_eq] at h;exact Int.ofNat_lt.1 h
     obtain ⟨s1,s2⟩:=chainL_step (r:=r) h er g3
     have hm:r∈rows:=by rw [←er];exact getD_mem h
     have c1:=fn_sList r (by have:=hr r hm;omega) (fun x hx=>by have:=hs r hm x hx;omega)
     conv=>whnf
     refine ⟨⟨⟨by omega,by rw [cTT_len];omega⟩,cTT_sz _⟩,?_⟩
     conv=>whnf
     refine ⟨_,cTT_as h er,?_⟩
     conv=>whnf
     rw [cT_len]
     by_cases he:r.length=rows.length
     ·rw [decide_eq_true (show (r.length:Int)=rows.length by omega)]
      conv=>whnf
      refine ⟨⟨⟨by omega,by rw [cTT_len];omega⟩,cTT_sz _⟩,?_⟩
      conv=>whnf
      refine ⟨_,cTT_as h er,?_⟩
      conv=>whnf
      cases hw:rdRats r with
      | none =>
       rw [hw] at c1
       have e0:=s1 (by unfold rowQ wQ;rw [hw,ite_self])
       refine VCall.of_data c1 (ndT fun _=>rfl) ?_
       conv=>whnf
       rw [e0]
       exact ⟨rfl,trivial,rfl⟩
      | some z =>
       obtain ⟨w1,w2,w3⟩:=rdRats_sz hw
       rw [hw] at c1
       replace c1:Fn Tryz.prog 168 [lT r] [] (.tup [lS z,B true]) []:=c1
       have c2:=fn_sWeights z (by omega) w3
       refine VCall.of_data c1 (ndT fun _=>rfl) ?_
       conv=>whnf
       refine VCall.of_data c2 (nd _) ?_
       conv=>whnf
       cases hi:isW z with
       | false =>
        have e0:=s1 (by unfold rowQ wQ;rw [hw];simp [hi])
        rw [e0]
        conv=>whnf
        exact ⟨rfl,trivial,rfl⟩
       | true =>
        have e0:=s2 z (by unfold rowQ wQ;rw [hw];simp [hi,he])
        conv=>whnf
        refine Sub.full rfl ?_
        conv=>whnf
        refine ⟨by show 1*24≤_;omega,?_⟩
        conv=>whnf
        refine Wr.i64 (y:=(((([]:Mt)).length+1:Nat):Int)) rfl (by omega) (by omega) ?_
        conv=>whnf
        refine ⟨([]:Mt)++[z],⟨by simp at h ⊢;omega,by rw [show (([]:Mt)++[z]).length=(([]:Mt)).length+1 by simp];exact e0⟩,by simp at h ⊢;omega,rfl,?_⟩
        conv=>whnf
        refine ⟨⟨?_,rfl,rfl,rfl,rfl,rfl,trivial⟩,?_⟩
        ·show I _=I _
         simp
        ·refine ⟨?_,?_,rfl,trivial⟩
         ·first | rfl | (show Ob.row true 1 (cMS _++_)=_;rw [cMS_append1];rfl)
         ·show Ob.box true [.ls 200 0 _ 1]=Ob.box true [.ls 200 0 _ 1]
          simp
     ·rw [decide_eq_false (show ¬(r.length:Int)=rows.length by omega)]
      have e0:=s1 (by unfold rowQ;rw [if_neg he])
      rw [e0]
      conv=>whnf
      exact ⟨rfl,trivial,rfl⟩
    ·have h:rows.length=0:=by simp only [decide_eq_false_iff_not] at h;have h:¬(0:Int) < rows.length:=h;omega
     omega
   | cons y ys =>
    conv=>whnf
    refine Br.mk (fun h=>?_) (fun h=>?_)
    ·have h:((y :: ys)).length < rows.length:=by simp only [decide_eq_true_eq] at h;exact Int.ofNat_lt.1 h
     obtain ⟨s1,s2⟩:=chainL_step (r:=r) h er g3
     have hm:r∈rows:=by rw [←er];exact getD_mem h
     have c1:=fn_sList r (by have:=hr r hm;omega) (fun x hx=>by have:=hs r hm x hx;omega)
     conv=>whnf
     refine ⟨⟨⟨by omega,by rw [cTT_len];omega⟩,cTT_sz _⟩,?_⟩
     conv=>whnf
     refine ⟨_,cTT_as h er,?_⟩
     conv=>whnf
     rw [cT_len]
     by_cases he:r.length=rows.length
     ·rw [decide_eq_true (show (r.length:Int)=rows.length by omega)]
      conv=>whnf
      refine ⟨⟨⟨by omega,by rw [cTT_len];omega⟩,cTT_sz _⟩,?_⟩
      conv=>whnf
      refine ⟨_,cTT_as h er,?_⟩
      conv=>whnf
      cases hw:rdRats r with
      | none =>
       rw [hw] at c1
       have e0:=s1 (by unfold rowQ wQ;rw [hw,ite_self])
       refine VCall.of_data c1 (ndT fun _=>rfl) ?_
       conv=>whnf
       rw [e0]
       exact ⟨rfl,trivial,rfl⟩
      | some z =>
       obtain ⟨w1,w2,w3⟩:=rdRats_sz hw
       rw [hw] at c1
       replace c1:Fn Tryz.prog 168 [lT r] [] (.tup [lS z,B true]) []:=c1
       have c2:=fn_sWeights z (by omega) w3
       refine VCall.of_data c1 (ndT fun _=>rfl) ?_
       conv=>whnf
       refine VCall.of_data c2 (nd _) ?_
       conv=>whnf
       cases hi:isW z with
       | false =>
        have e0:=s1 (by unfold rowQ wQ;rw [hw];simp [hi])
        rw [e0]
        conv=>whnf
        exact ⟨rfl,trivial,rfl⟩
       | true =>
        have e0:=s2 z (by unfold rowQ wQ;rw [hw];simp [hi,he])
        conv=>whnf
        refine Sub.full rfl ?_
        conv=>whnf
        refine Sub.full (by rw [cMS_len];rfl) ?_
        conv=>whnf
        refine ⟨by show (ys.length+1+1)*24≤_;have:ys.length+1≤rows.length:=g1;omega,?_⟩
        conv=>whnf
        refine Wr.i64 (y:=((((y :: ys)).length+1:Nat):Int)) rfl (by omega) (by omega) ?_
        conv=>whnf
        refine ⟨(y :: ys)++[z],⟨by simp at h ⊢;omega,by rw [show ((y :: ys)++[z]).length=((y :: ys)).length+1 by simp];exact e0⟩,by simp at h ⊢;omega,rfl,?_⟩
        conv=>whnf
        refine ⟨⟨?_,rfl,rfl,rfl,rfl,rfl,trivial⟩,?_⟩
        ·show I _=I _
         simp
        ·refine ⟨?_,?_,rfl,trivial⟩
         ·first | rfl | (show Ob.row true 1 (cMS _++_)=_;rw [cMS_append1];rfl)
         ·show Ob.box true [.ls 200 0 _ 1]=Ob.box true [.ls 200 0 _ 1]
          simp
     ·rw [decide_eq_false (show ¬(r.length:Int)=rows.length by omega)]
      have e0:=s1 (by unfold rowQ;rw [if_neg he])
      rw [e0]
      conv=>whnf
      exact ⟨rfl,trivial,rfl⟩
    ·have h:(y :: ys).length=rows.length:=by simp only [decide_eq_false_iff_not] at h;have h:¬((y :: ys).length:Int) < rows.length:=h;omega
     rw [h,List.drop_length] at g3
     rw [g3]
     conv=>whnf
     refine ⟨⟨rfl,by rw [cMS_len];simp,?_⟩,rfl,trivial,rfl⟩
     rw [List.drop_zero,List.take_of_length_le (by rw [cMS_len];simp)]
     show cMS (y :: ys)=cMS ((y :: ys)++[])
     rw [List.append_nil]
end Go.V
namespace Go.V
open Go.Proofs Go.RowKit
set_option maxRecDepth 10000
set_option maxHeartbeats 1000000
structure MtSz (p:Mt) (m:Nat):Prop where
 n1:1≤p.length
 n2:p.length≤12
 sq:∀r,r∈p→r.length=p.length
 sz:∀r,r∈p→∀q,q∈r→Go.V.sz q≤m
theorem MtOk.toSz {p:Mt} (h:MtOk p):MtSz p 800:=⟨h.n1,h.n2,h.sq,h.sz⟩
theorem MtSz.ent_sz {p:Mt} {m:Nat} (h:MtSz p m) {i j:Nat} (hi:i < p.length) (hj:j < p.length):Go.V.sz (ent p i j)≤m:=by
 have h1:p.getD i []∈p:=getD_mem hi
 exact h.sz _ h1 _ (getD_mem (by rw [h.sq _ h1];exact hj))
theorem MtSz.len {p:Mt} {m:Nat} (h:MtSz p m) {i:Nat} (hi:i < p.length):(p.getD i []).length=p.length:=h.sq _ (getD_mem hi)
end Go.V
namespace Go.V
open Go.Proofs Go.RowKit
set_option maxRecDepth 10000
set_option maxHeartbeats 1000000
end Go.V
namespace Go.V
open Go.Proofs Go.RowKit
set_option maxRecDepth 10000
set_option maxHeartbeats 1000000
structure ChIn (rows:List (List (List UInt8))):Prop where
 l:rows.length≤1000000
 r:∀r,r∈rows→r.length≤1000000
 s:∀r,r∈rows→∀x,x∈r→x.length≤1000000
theorem inB (n a b:Int):(decide (a≤n) && decide (n≤b))=decide (a≤n∧n≤b):=by simp
theorem fn_sSteps (n:Int):Fn Tryz.prog 101 [I n] [] (B (decide (0≤n∧n≤40))) []:=by
 have c1:=fn_l00In n 0 40
 rw [inB] at c1
 refine Fn.intro (ks:=[0,2]) hty rfl rfl rfl rfl rfl ?_
 conv=>whnf
 refine VCall.of_data c1 (nd _) ?_
 conv=>whnf
 exact ⟨rfl,trivial,rfl⟩
end Go.V
namespace Go.V
open Go.Proofs Go.RowKit
set_option maxRecDepth 10000
set_option maxHeartbeats 1000000
abbrev Tss:=List (List (List UInt8))
theorem drop_cons_getD1 {xs:Tss} {i:Nat} {r:List (List UInt8)} (h:i < xs.length) (e:xs.getD i []=r):xs.drop i=r :: xs.drop (i+1):=by
 rw [List.drop_eq_getElem_cons h,←e,List.getD_eq_getElem?_getD,List.getElem?_eq_getElem h];rfl
def szR:Int→Tss→Int
 | n,[]=>n
 | n,r :: rs=>if szTT n r < 0 then -1 else szR (szTT n r) rs
def szRR (n:Int) (rows:Tss):Int:=if n - rows.length < 0 then -1 else szR (n - rows.length) rows
theorem szR_fits:∀{rows:Tss} {n:Int},0≤n→0≤szR n rows→szR n rows≤n∧∀r,r∈rows→(r.length:Int)≤n∧∀x,x∈r→(x.length:Int)≤n
 | [],n,_,h=>⟨Int.le_refl n,fun r hr=>(by cases hr)⟩
 | r :: rs,n,h0,h=>by
  unfold szR at h ⊢
  split at h
  ·omega
  ·rename_i hc
   rw [if_neg hc]
   have h1:=szTT_fits (n:=n) (xs:=r) (by omega)
   have h2:=szTT_le (xs:=r) (n:=n) (by omega)
   obtain ⟨g1,g2⟩:=szR_fits (rows:=rs) (by omega) h
   refine ⟨by omega,fun s hs=>?_⟩
   rcases List.mem_cons.1 hs with rfl | hs
   ·exact ⟨h1.1,h1.2⟩
   ·obtain ⟨u1,u2⟩:=g2 s hs
    exact ⟨by omega,fun x hx=>by have:=u2 x hx;omega⟩
theorem szRR_in {rows:Tss} {n:Int} (h:0≤szRR n rows) (hn:n≤1000000):ChIn rows:=by
 unfold szRR at h
 split at h
 ·omega
 ·obtain ⟨g1,g2⟩:=szR_fits (by omega) h
  exact ⟨by omega,fun r hr=>by have:=(g2 r hr).1;omega,fun r hr x hx=>by have:=(g2 r hr).2 x hx;omega⟩
theorem fn_szSS (rows:Tss) (n:Int) (hl:rows.length≤281474976710656) (hr:∀r,r∈rows→r.length≤281474976710656) (hs:∀r,r∈rows→∀x,x∈r→x.length≤281474976710656) (hn:n≤1000000) (hn0:-281474976710656≤n) :
  Fn Tryz.prog 99 [.d (.sl (cTT rows)),I n] [] (I (szRR n rows)) []:=by
 refine Fn.intro (ks:=[0,1,4,5,11,15,25]) hty rfl rfl rfl rfl rfl ?_
 conv=>whnf
 rw [cTT_len]
 refine Wr.fit (wrap_i64 (by omega) (by omega)) ?_
 conv=>whnf
 unfold szRR
 refine Br.mk (fun h=>?_) (fun h=>?_)
 ·have h:n - rows.length < 0:=by simpa using h
  conv=>whnf
  refine ⟨?_,trivial,rfl⟩
  rw [if_pos h]
 ·have h:¬n - (rows.length:Int) < 0:=by simpa using h
  rw [if_neg h]
  conv=>whnf
  obtain ⟨m0,e0⟩:∃m0,n - (rows.length:Int)=m0:=⟨_,rfl⟩
  rw [e0] at h ⊢
  refine VLoop.inv hty (S:=Nat×Int) (fun s=>[(5,I s.1),(1,I s.2),(0,.d (.sl (cTT rows)))]) (fun _=>[]) (fun s=>s.1≤rows.length∧0≤s.2∧s.2≤n∧szR s.2 (rows.drop s.1)=szR m0 rows) (fun s=>rows.length - s.1) (0,m0)
   ⟨Nat.zero_le _,by omega,by omega,rfl⟩ ⟨rfl,rfl,rfl,trivial⟩ trivial ?_
  rintro s ⟨hk,h0,h1,hp⟩
  conv=>whnf
  rw [cTT_len]
  refine Br.mk (fun h=>?_) (fun h=>?_)
  ·have hk':s.1 < rows.length:=by simp at h;omega
   obtain ⟨r,er⟩:∃r,rows.getD s.1 []=r:=⟨_,rfl⟩
   have hm:r∈rows:=by rw [←er];exact getD_mem hk'
   have c1:=fn_szT r s.2 (hr r hm) (hs r hm) (by omega) (by omega)
   have hle:=szTT_le (xs:=r) (n:=s.2) (by omega)
   rw [drop_cons_getD1 hk' er,szR] at hp
   obtain ⟨m1,e1⟩:∃m1,szTT s.2 r=m1:=⟨_,rfl⟩
   rw [e1] at c1 hle hp
   conv=>whnf
   refine ⟨⟨⟨by omega,by rw [cTT_len];omega⟩,cTT_sz _⟩,?_⟩
   conv=>whnf
   refine ⟨_,cTT_as hk' er,?_⟩
   conv=>whnf
   refine VCall.of_data c1 (nd _) ?_
   conv=>whnf
   refine Br.mk (fun h=>?_) (fun h=>?_)
   ·have h:m1 < 0:=by simpa using h
    rw [if_pos h] at hp
    conv=>whnf
    exact ⟨by rw [←hp],trivial,rfl⟩
   ·have h:¬m1 < 0:=by simpa using h
    rw [if_neg h] at hp
    conv=>whnf
    refine Wr.fit (wrap_i64 (by omega) (by omega)) ?_
    conv=>whnf
    exact ⟨(s.1+1,m1),⟨by omega,by omega,by omega,hp⟩,by omega,⟨rfl,rfl,rfl,trivial⟩,trivial⟩
  ·have hk':s.1=rows.length:=by simp at h;omega
   conv=>whnf
   refine ⟨?_,trivial,rfl⟩
   rw [←hp,hk',List.drop_length,szR]
theorem fn_szChain (rows:Tss) (n:Int) (hl:rows.length≤281474976710656) (hr:∀r,r∈rows→r.length≤281474976710656) (hs:∀r,r∈rows→∀x,x∈r→x.length≤281474976710656) (hn:n≤1000000) (hn0:-281474976710656≤n) :
  Fn Tryz.prog 43 [chI rows,I n] [] (I (szRR n rows)) []:=by
 have c:=fn_szSS rows n hl hr hs hn hn0
 have hd:szRR n rows < 0→szRR n rows = -1:=by
  unfold szRR
  split
  ·intro _;rfl
  ·intro h
   have key:∀(rs:Tss) (m:Int),0≤m→szR m rs < 0→szR m rs = -1:=by
    intro rs
    induction rs with
    | nil=>intro m h0 h;unfold szR at h;omega
    | cons r rs ih =>
     intro m h0 h
     unfold szR at h ⊢
     split at h
     ·rename_i hc;rw [if_pos hc]
     ·rename_i hc;rw [if_neg hc];exact ih _ (by omega) h
   exact key _ _ (by omega) h
 generalize szRR n rows=m at c hd ⊢
 refine Fn.intro (ks:=[0,1,2,4,10]) hty rfl rfl rfl rfl rfl ?_
 conv=>whnf
 refine VCall.of_data c (nd _) ?_
 conv=>whnf
 refine Br.mk (fun h=>?_) (fun h=>?_)
 ·have h:m < 0:=by simpa using h
  rw [hd h]
  conv=>whnf
  exact ⟨rfl,trivial,rfl⟩
 ·conv=>whnf
  exact ⟨rfl,trivial,rfl⟩
def ixF:Nat→List Nat→List MC
 | _,[]=>[]
 | k,n :: ns=>.r k 0 n :: ixF (k+1) ns
theorem ixF_len:∀(k:Nat) (ns:List Nat),(ixF k ns).length=ns.length
 | _,[]=>rfl
 | k,n :: ns=>by simp [ixF,ixF_len (k+1) ns]
theorem ixF_snoc:∀(k:Nat) (ns:List Nat) (n:Nat),ixF k (ns++[n])=ixF k ns++[.r (k+ns.length) 0 n]
 | k,[],n=>rfl
 | k,a :: ns,n=>by
  show MC.r k 0 a :: ixF (k+1) (ns++[n])=_
  rw [ixF_snoc (k+1) ns n]
  show _=(MC.r k 0 a :: ixF (k+1) ns)++[.r (k+(ns.length+1)) 0 n]
  rw [show k+1+ns.length=k+(ns.length+1) by omega];rfl
theorem ixF_get:∀{k:Nat} {ns:List Nat} {i n:Nat},i < ns.length→ns.getD i 0=n→(ixF k ns)[i]? = some (.r (k+i) 0 n)
 | k,a :: ns,0,n,_,e=>by simp at e;subst e;rfl
 | k,a :: ns,i+1,n,h,e=>by
  show (ixF (k+1) ns)[i]? = _
  rw [ixF_get (by simpa using h) (by simpa using e),show k+1+i=k+(i+1) by omega]
theorem ixF_append:∀(k:Nat) (ns ms:List Nat),ixF k (ns++ms)=ixF k ns++ixF (k+ns.length) ms
 | k,[],ms=>rfl
 | k,a :: ns,ms=>by
  show MC.r k 0 a :: ixF (k+1) (ns++ms)=_
  rw [ixF_append (k+1) ns ms,show k+1+ns.length=k+(ns.length+1) by omega];rfl
theorem put_rep {α:Type} (A:List α) (m:Nat) (x y:α):(A++List.replicate (m+1) x).set A.length y=(A++[y])++List.replicate m x:=by
 rw [List.set_append_right _ _ (Nat.le_refl _),Nat.sub_self,List.replicate_succ,List.set_cons_zero];simp
abbrev nilM:MC:=.d (.s (.slice none 0 0))
def spR:List (List UInt8):=[spT]
def allR (rows:Tss):Tss:=rows.map withRoomT++List.replicate (room rows.length) spR
def lensR (rows:Tss):List Nat:=rows.map List.length++List.replicate (room rows.length) 1
theorem lensR_len (rows:Tss):(lensR rows).length=rows.length+room rows.length:=by simp [lensR]
theorem spare_step (IX:List MC) (b j m:Nat) (h:j < m):((IX++ixF b (List.replicate j 1))++List.replicate (m - j) nilM).set (IX.length+j) (.r (b+j) 0 1)=(IX++ixF b (List.replicate (j+1) 1))++List.replicate (m - (j+1)) nilM:=by
 have e:=put_rep (IX++ixF b (List.replicate j 1)) (m - (j+1)) nilM (.r (b+j) 0 1)
 rw [List.length_append,ixF_len,List.length_replicate,show m - (j+1)+1=m - j by omega] at e
 rw [e,List.replicate_succ',ixF_snoc,List.length_replicate,List.append_assoc IX]
theorem matD_data (R:List (List (List C))) (cs:List C):matD R (cs.map MC.d)=cs.map fun c=>[c]:=by
 induction cs with
 | nil=>rfl
 | cons c cs ih=>show [c] :: matD R (cs.map MC.d)=_;rw [ih];rfl
theorem matD_append (R:List (List (List C))) (a b:List MC):matD R (a++b)=matD R a++matD R b:=by
 induction a with
 | nil=>rfl
 | cons c cs ih=>cases c <;> (show _ :: matD R (cs++b)=_;rw [ih];rfl)
theorem fn_toSS (rows:Tss) (hi:ChIn rows):Fn Tryz.prog 107 [.d (.sl (cTT rows)),B false] [] (.ls 0 0 rows.length 1) [(0,.mat 1 (ixF 0 (lensR rows)) ((allR rows).map cT))]:=by
 have hl:=hi.l
 unfold allR lensR
 have hr:=room_le rows.length
 generalize hm:room rows.length=m at hr
 have c1:=fn_room rows.length hi.l
 rw [hm] at c1
 refine Fn.intro (ks:=[0,1,4,5,6,7,13,24,41]) hty rfl rfl rfl rfl rfl ?_
 conv=>whnf
 rw [cTT_len]
 refine VCall.of_data c1 (nd _) ?_
 conv=>whnf
 refine Wr.i64 (y:=((rows.length+m:Nat):Int)) rfl (by omega) (by have:=hi.l;omega) ?_
 conv=>whnf
 refine ⟨⟨by omega,by omega,by show ((rows.length+m:Nat):Int)*((24:Nat):Int)≤_;have:=hi.l;omega,by have:=hi.l;omega⟩,?_⟩
 conv=>whnf
 refine VLoop.toMat 20 1 (cs:=List.replicate (rows.length+m) (.s (.slice none 0 0))) (by rw [List.map_replicate];rfl) rfl ?_
 refine VLoop.inv hty (S:=Nat) (fun k=>[(6,I k),(5,.ls 20 0 (rows.length+m) 1),(1,B false),(0,.d (.sl (cTT rows)))])
  (fun k=>[(20,.mat 1 (ixF 0 ((rows.take k).map List.length)++List.replicate (rows.length+m - k) nilM) ((rows.take k).map fun r=>cT (withRoomT r)))])
  (fun k=>k≤rows.length) (fun k=>rows.length - k) 0 (Nat.zero_le _) ⟨rfl,rfl,rfl,rfl,trivial⟩ ⟨by show Ob.mat 1 (List.map MC.d _) []=Ob.mat 1 _ _;rw [List.map_replicate];rfl,trivial⟩ ?_
 intro k hk
 conv=>whnf
 rw [cTT_len]
 refine Br.mk (fun h=>?_) (fun h=>?_)
 ·have h:k < rows.length:=by simp only [decide_eq_true_eq] at h;omega
  obtain ⟨r,er⟩:∃r,rows.getD k []=r:=⟨_,rfl⟩
  have hmr:r∈rows:=by rw [←er];exact getD_mem h
  have ct:=fn_toT r false (.inl rfl) (hi.r r hmr)
  have et:rows.take (k+1)=rows.take k++[r]:=by rw [List.take_succ_eq_append_getElem h,←er,List.getD_eq_getElem?_getD,List.getElem?_eq_getElem h];rfl
  have hA:(ixF 0 ((rows.take k).map List.length)).length=k:=by rw [ixF_len,List.length_map,List.length_take];omega
  have hB:((rows.take k).map fun r=>cT (withRoomT r)).length=k:=by rw [List.length_map,List.length_take];omega
  conv=>whnf
  refine ⟨⟨⟨by omega,by rw [cTT_len];omega⟩,cTT_sz _⟩,?_⟩
  conv=>whnf
  refine ⟨_,cTT_as h er,?_⟩
  conv=>whnf
  refine VCall.of_ls (k:=34) ct rfl ?_
  conv=>whnf
  refine ⟨by omega,?_⟩
  conv=>whnf
  refine ⟨by show k+0 < (ixF 0 ((rows.take k).map List.length)++List.replicate (rows.length+m - k) nilM).length;rw [List.length_append,hA,List.length_replicate];omega,?_⟩
  conv=>whnf
  refine Wr.i64 (y:=((k+1:Nat):Int)) (by omega) (by omega) (by omega) ?_
  conv=>whnf
  refine ⟨k+1,h,by show rows.length - (k+1) < rows.length - k;omega,⟨rfl,rfl,rfl,rfl,trivial⟩,?_,trivial⟩
  have e1:=put_rep (ixF 0 ((rows.take k).map List.length)) (rows.length+m - (k+1)) nilM (.r k 0 r.length)
  rw [hA,show rows.length+m - (k+1)+1=rows.length+m - k by omega] at e1
  show Ob.mat 1 (List.set _ _ (MC.r (List.length _) 0 r.length)) (_++[cT (withRoomT r)])=Ob.mat 1 _ _
  rw [et,List.map_append,List.map_append]
  show Ob.mat 1 (List.set _ _ (MC.r (List.length _) 0 r.length)) (_++[cT (withRoomT r)])=Ob.mat 1 (ixF 0 (_++[r.length])++_) (_++[cT (withRoomT r)])
  rw [hB,ixF_snoc,List.length_map,List.length_take,show 0+min k rows.length=k by omega]
  congr 1
 ·have h:k=rows.length:=by simp only [decide_eq_false_iff_not] at h;omega
  subst h
  rw [List.take_length,show rows.length+m - rows.length=m by omega]
  conv=>whnf
  obtain ⟨IX,eIX⟩:∃z,ixF 0 (rows.map List.length)=z:=⟨_,rfl⟩
  obtain ⟨R0,eR⟩:∃z,(rows.map fun r=>cT (withRoomT r))=z:=⟨_,rfl⟩
  have hR0:R0.length=rows.length:=by rw [←eR,List.length_map]
  rw [eIX,eR]
  have hbase:(IX).length=rows.length:=by rw [←eIX,ixF_len,List.length_map]
  rw [cTT_len]
  refine VLoop.inv hty (S:=Nat) (fun j=>[(7,I ((rows.length+j:Nat):Int)),(5,.ls 20 0 (rows.length+m) 1),(0,.d (.sl (cTT rows)))])
   (fun j=>[(20,.mat 1 ((IX++ixF (R0).length (List.replicate j 1))++List.replicate (m - j) nilM) (R0++List.replicate j (cT spR)))])
   (fun j=>j≤m) (fun j=>m - j) 0 (Nat.zero_le _) ⟨rfl,rfl,rfl,trivial⟩ ⟨?_,trivial⟩ ?_
  ·show Ob.mat 1 _ _=Ob.mat 1 _ _
   simp [ixF]
  intro j hj
  conv=>whnf
  refine Br.mk (fun h=>?_) (fun h=>?_)
  ·have h:j < m:=by simp only [decide_eq_true_eq] at h;omega
   have hA:(IX++ixF (R0).length (List.replicate j 1)).length=rows.length+j:=by rw [List.length_append,hbase,ixF_len,List.length_replicate]
   conv=>whnf
   refine ⟨by omega,?_⟩
   conv=>whnf
   refine ⟨by show (rows.length+j)+0 < ((IX++ixF (R0).length (List.replicate j 1))++List.replicate (m - j) nilM).length;rw [List.length_append,hA,List.length_replicate];omega,?_⟩
   conv=>whnf
   refine Wr.i64 (y:=((rows.length+(j+1):Nat):Int)) (by omega) (by omega) (by omega) ?_
   conv=>whnf
   refine ⟨j+1,h,by show m - (j+1) < m - j;omega,⟨rfl,rfl,rfl,trivial⟩,?_,trivial⟩
   have e1:=spare_step (IX) (R0).length j m h
   rw [hbase] at e1
   show Ob.mat 1 (List.set _ _ (MC.r _ 0 1)) (_++[cT spR])=Ob.mat 1 _ _
   congr 1
   ·rw [List.length_append,List.length_replicate]
    exact e1
   ·rw [List.append_assoc,←List.replicate_succ']
  ·have h:j=m:=by simp only [decide_eq_false_iff_not] at h;omega
   subst h
   conv=>whnf
   rw [cTT_len]
   refine ⟨⟨by omega,by omega,by show rows.length+0≤((IX++ixF (R0).length (List.replicate j 1))++List.replicate (j - j) nilM).length;rw [List.length_append,List.length_append,hbase];omega⟩,?_⟩
   conv=>whnf
   refine ⟨⟨rfl,rfl,rfl,by omega,rfl⟩,[],?_,trivial,rfl⟩
   rw [show j - j=0 by omega]
   show [(0,Ob.mat 1 _ _)]=[(0,Ob.mat 1 _ _)]
   congr 3
   ·rw [ixF_append,eIX,List.length_map,hR0,Nat.zero_add,List.replicate_zero,List.append_nil]
   ·rw [List.map_append,List.map_map,List.map_replicate,←eR];rfl
theorem fn_toSSd (rows:Tss) (b:Bool) (hi:ChIn rows):Fn Tryz.prog 107 [.d (.sl (cTT rows)),B b] [] (.d (.sl (cTT rows))) []:=by
 have hl:=hi.l
 by_cases hb:b=true∧rows=[]
 ·obtain ⟨rfl,rfl⟩:=hb
  refine Fn.intro (ks:=[0,1,4,5,6,7,13,24,41]) hty rfl rfl rfl rfl rfl ?_
  conv=>whnf
  exact ⟨trivial,rfl⟩
 ·
  have hr:=room_le rows.length
  generalize hm:room rows.length=m at hr
  have c1:=fn_room rows.length hi.l
  rw [hm] at c1
  refine Fn.intro (ks:=[0,1,4,5,6,7,13,24,41]) hty rfl rfl rfl rfl rfl ?_
  cases b
  case' true =>
   conv=>whnf
   refine Br.mk (fun h=>absurd h ?_) (fun _=>?_)
   ·rw [cTT_len]
    have:¬rows=[]:=fun e=>hb ⟨rfl,e⟩
    have:=List.length_pos_iff.2 this
    simp;omega
  all_goals
   clear hb
   conv=>whnf
   rw [cTT_len]
   refine VCall.of_data c1 (nd _) ?_
   conv=>whnf
   refine Wr.i64 (y:=((rows.length+m:Nat):Int)) rfl (by omega) (by have:=hi.l;omega) ?_
   conv=>whnf
   refine ⟨⟨by omega,by omega,by show ((rows.length+m:Nat):Int)*((24:Nat):Int)≤_;have:=hi.l;omega,by have:=hi.l;omega⟩,?_⟩
   conv=>whnf
   refine VLoop.toMat 20 1 (cs:=List.replicate (rows.length+m) (.s (.slice none 0 0))) (by rw [List.map_replicate];rfl) rfl ?_
   refine VLoop.inv hty (S:=Nat) (fun k=>[(6,I k),(5,.ls 20 0 (rows.length+m) 1),(1,B _),(0,.d (.sl (cTT rows)))])
    (fun k=>[(20,.mat 1 (((rows.take k).map fun r=>MC.d (.sl (cT r)))++List.replicate (rows.length+m - k) nilM) [])])
    (fun k=>k≤rows.length) (fun k=>rows.length - k) 0 (Nat.zero_le _) ⟨rfl,rfl,rfl,rfl,trivial⟩ ⟨by show Ob.mat 1 (List.map MC.d _) []=Ob.mat 1 _ _;rw [List.map_replicate];rfl,trivial⟩ ?_
   intro k hk
   conv=>whnf
   rw [cTT_len]
   refine Br.mk (fun h=>?_) (fun h=>?_)
   ·have h:k < rows.length:=by simp only [decide_eq_true_eq] at h;omega
    obtain ⟨r,er⟩:∃r,rows.getD k []=r:=⟨_,rfl⟩
    have hmr:r∈rows:=by rw [←er];exact getD_mem h
    have ct:=fun b=>fn_toTd r b (hi.r r hmr)
    have et:rows.take (k+1)=rows.take k++[r]:=by rw [List.take_succ_eq_append_getElem h,←er,List.getD_eq_getElem?_getD,List.getElem?_eq_getElem h];rfl
    have hA:((rows.take k).map fun r=>MC.d (.sl (cT r))).length=k:=by rw [List.length_map,List.length_take];omega
    conv=>whnf
    refine ⟨⟨⟨by omega,by rw [cTT_len];omega⟩,cTT_sz _⟩,?_⟩
    conv=>whnf
    refine ⟨_,cTT_as h er,?_⟩
    conv=>whnf
    refine VCall.of_data (ct _) (nd _) ?_
    conv=>whnf
    refine ⟨by omega,?_⟩
    conv=>whnf
    refine ⟨by show k+0 < (((rows.take k).map fun r=>MC.d (.sl (cT r)))++List.replicate (rows.length+m - k) nilM).length;rw [List.length_append,hA,List.length_replicate];omega,?_⟩
    conv=>whnf
    refine Wr.i64 (y:=((k+1:Nat):Int)) (by omega) (by omega) (by omega) ?_
    conv=>whnf
    refine ⟨k+1,h,by show rows.length - (k+1) < rows.length - k;omega,⟨rfl,rfl,rfl,rfl,trivial⟩,?_,trivial⟩
    have e1:=put_rep ((rows.take k).map fun r=>MC.d (.sl (cT r))) (rows.length+m - (k+1)) nilM (.d (.sl (cT r)))
    rw [hA,show rows.length+m - (k+1)+1=rows.length+m - k by omega] at e1
    show Ob.mat 1 (List.set _ _ (MC.d (.sl (cT r)))) []=Ob.mat 1 _ []
    rw [et,List.map_append]
    congr 1
   ·have h:k=rows.length:=by simp only [decide_eq_false_iff_not] at h;omega
    subst h
    rw [List.take_length,show rows.length+m - rows.length=m by omega]
    conv=>whnf
    obtain ⟨IX,eIX⟩:∃z,(rows.map fun r=>MC.d (.sl (cT r)))=z:=⟨_,rfl⟩
    rw [eIX]
    have hbase:(IX).length=rows.length:=by rw [←eIX,List.length_map]
    rw [cTT_len]
    refine VLoop.inv hty (S:=Nat) (fun j=>[(7,I ((rows.length+j:Nat):Int)),(5,.ls 20 0 (rows.length+m) 1),(0,.d (.sl (cTT rows)))])
     (fun j=>[(20,.mat 1 ((IX++ixF (([]:List (List (List C)))).length (List.replicate j 1))++List.replicate (m - j) nilM) (([]:List (List (List C)))++List.replicate j (cT spR)))])
     (fun j=>j≤m) (fun j=>m - j) 0 (Nat.zero_le _) ⟨rfl,rfl,rfl,trivial⟩ ⟨?_,trivial⟩ ?_
    ·show Ob.mat 1 _ _=Ob.mat 1 _ _
     simp [ixF]
    intro j hj
    conv=>whnf
    refine Br.mk (fun h=>?_) (fun h=>?_)
    ·have h:j < m:=by simp only [decide_eq_true_eq] at h;omega
     have hA:(IX++ixF (([]:List (List (List C)))).length (List.replicate j 1)).length=rows.length+j:=by rw [List.length_append,hbase,ixF_len,List.length_replicate]
     conv=>whnf
     refine ⟨by omega,?_⟩
     conv=>whnf
     refine ⟨by show (rows.length+j)+0 < ((IX++ixF (([]:List (List (List C)))).length (List.replicate j 1))++List.replicate (m - j) nilM).length;rw [List.length_append,hA,List.length_replicate];omega,?_⟩
     conv=>whnf
     refine Wr.i64 (y:=((rows.length+(j+1):Nat):Int)) (by omega) (by omega) (by omega) ?_
     conv=>whnf
     refine ⟨j+1,h,by show m - (j+1) < m - j;omega,⟨rfl,rfl,rfl,trivial⟩,?_,trivial⟩
     have e1:=spare_step (IX) (([]:List (List (List C)))).length j m h
     rw [hbase] at e1
     show Ob.mat 1 (List.set _ _ (MC.r _ 0 1)) (_++[cT spR])=Ob.mat 1 _ _
     congr 1
     ·rw [List.length_append,List.length_replicate]
      exact e1
     ·rw [List.append_assoc,←List.replicate_succ']
    ·have h:j=m:=by simp only [decide_eq_false_iff_not] at h;omega
     subst h
     conv=>whnf
     rw [cTT_len]
     refine ⟨⟨by omega,by omega,by show rows.length+0≤((IX++ixF (([]:List (List (List C)))).length (List.replicate j 1))++List.replicate (j - j) nilM).length;rw [List.length_append,List.length_append,hbase];omega⟩,?_⟩
     conv=>whnf
     refine ⟨⟨rfl,?_,?_,?_⟩,trivial,rfl⟩
     ·show rows.length+0≤List.length _
      rw [List.length_append,List.length_append,hbase];omega
     ·intro i lo n hmem
      rw [show j - j=0 by omega,List.replicate_zero,List.append_nil,←eIX] at hmem
      rcases List.mem_append.1 hmem with hmem | hmem
      ·obtain ⟨r,_,hr⟩:=List.mem_map.1 hmem
       cases hr
      ·obtain ⟨q,hq,hg⟩:=List.mem_iff_getElem.1 hmem
       rw [ixF_len,List.length_replicate] at hq
       have:=ixF_get (k:=([]:List (List (List C))).length) (ns:=List.replicate j 1) (i:=q) (n:=1) (by rw [List.length_replicate];exact hq) (by rw [List.getD_eq_getElem?_getD,List.getElem?_replicate,if_pos hq];rfl)
       rw [List.getElem?_eq_getElem (by rw [ixF_len,List.length_replicate];exact hq),hg] at this
       cases this
       show 1+0≤_
       rw [List.getD_eq_getElem?_getD,List.nil_append,List.getElem?_replicate,if_pos (by simpa using hq)]
       decide
     ·show List.take ((rows.length:Int) - 0).toNat (matD _ _)=_
      rw [show ((rows.length:Int) - 0).toNat=rows.length by omega,matD_append,matD_append,←eIX]
      rw [show (rows.map fun r=>MC.d (.sl (cT r)))=(rows.map fun r=>C.sl (cT r)).map MC.d by rw [List.map_map];rfl,matD_data,List.append_assoc,List.take_append_of_le_length (by rw [List.length_map,List.length_map];exact Nat.le_refl _),List.take_of_length_le (by rw [List.length_map,List.length_map];exact Nat.le_refl _),List.map_map]
      rfl
end Go.V
namespace Go.V
open Go.Proofs Go.RowKit
set_option maxRecDepth 10000
set_option maxHeartbeats 1000000
theorem fn_eqSS (xs ys:Tss) (hl:xs.length≤3000000) (hl':ys.length≤3000000) (hr:∀r,r∈xs→r.length≤3000000) (hr':∀r,r∈ys→r.length≤3000000) :
  Fn Tryz.prog 75 [.d (.sl (cTT xs)),.d (.sl (cTT ys))] [] (B (decide (xs=ys))) []:=by
 refine Fn.intro (ks:=[0,1,4,5,10,14,26]) hty rfl rfl rfl rfl rfl ?_
 conv=>whnf
 rw [cTT_len,cTT_len]
 refine Br.mk (fun h=>?_) (fun h=>?_)
 ·have h:¬xs.length=ys.length:=by simp at h;omega
  conv=>whnf
  refine ⟨?_,trivial,rfl⟩
  rw [decide_eq_false fun e=>h (by rw [e])]
 ·have hxy:xs.length=ys.length:=by simp at h;omega
  conv=>whnf
  refine VLoop.inv hty (S:=Nat) (fun k=>[(5,I k),(1,.d (.sl (cTT ys))),(0,.d (.sl (cTT xs)))]) (fun _=>[]) (fun k=>k≤xs.length∧xs.take k=ys.take k) (fun k=>xs.length - k) 0 ⟨Nat.zero_le _,rfl⟩
   ⟨rfl,rfl,rfl,trivial⟩ trivial ?_
  rintro k ⟨hk,hp⟩
  conv=>whnf
  rw [cTT_len]
  refine Br.mk (fun h=>?_) (fun h=>?_)
  ·have hk':k < xs.length:=by simp at h;omega
   obtain ⟨x,ex⟩:∃x,xs.getD k []=x:=⟨_,rfl⟩
   obtain ⟨y,ey⟩:∃y,ys.getD k []=y:=⟨_,rfl⟩
   have ex':xs[k]=x:=by rw [←ex,List.getD_eq_getElem?_getD,List.getElem?_eq_getElem hk'];rfl
   have ey':ys[k]'(by omega)=y:=by rw [←ey,List.getD_eq_getElem?_getD,List.getElem?_eq_getElem (by omega)];rfl
   have c:=fn_eqS x y (hr x (by rw [←ex];exact getD_mem hk')) (hr' y (by rw [←ey];exact getD_mem (by omega)))
   conv=>whnf
   refine VDraw.go hmo hty 10 [] rfl ?_
   conv=>whnf
   refine ⟨⟨⟨by omega,by rw [cTT_len];omega⟩,cTT_sz _⟩,?_⟩
   conv=>whnf
   refine ⟨_,cTT_as hk' ex,?_⟩
   conv=>whnf
   refine ⟨⟨⟨by omega,by rw [cTT_len];omega⟩,cTT_sz _⟩,?_⟩
   conv=>whnf
   refine ⟨_,cTT_as (by omega) ey,?_⟩
   conv=>whnf
   refine QCall.of_data c (nd _) ?_
   conv=>whnf
   by_cases h2:x=y
   ·rw [decide_eq_true h2]
    conv=>whnf
    refine Wr.fit (wrap_i64 (by omega) (by omega)) ?_
    conv=>whnf
    refine ⟨k+1,⟨hk',?_⟩,by omega,⟨rfl,rfl,rfl,trivial⟩,trivial⟩
    rw [List.take_succ_eq_append_getElem hk',List.take_succ_eq_append_getElem (by omega),hp,ex',ey',h2]
   ·rw [decide_eq_false h2]
    conv=>whnf
    refine ⟨?_,trivial,rfl⟩
    rw [decide_eq_false fun e=>h2 (by subst e;exact ex.symm.trans ey)]
  ·have hk':k=xs.length:=by simp at h;omega
   conv=>whnf
   refine ⟨?_,trivial,rfl⟩
   subst hk'
   rw [List.take_length,List.take_of_length_le (by omega)] at hp
   rw [decide_eq_true hp]
theorem matD_ixF (R:List (List (List C))):∀(k:Nat) (ns:List Nat) (vis:Tss),ns.length=vis.length→(∀i,i < ns.length→((R.getD (k+i) []).drop 0).take (ns.getD i 0)=cT (vis.getD i []))→matD R (ixF k ns)=cTT vis
 | k,[],[],_,_=>rfl
 | k,[],_ :: _,h,_=>by simp at h
 | k,_ :: _,[],h,_=>by simp at h
 | k,n :: ns,v :: vis,h,hi=>by
  have h0:=hi 0 (by simp)
  have ih:=matD_ixF R (k+1) ns vis (by simpa using h) fun i hh=>by
   have:=hi (i+1) (by simp;omega)
   rw [show k+1+i=k+(i+1) by omega]
   simpa using this
  show [C.sl (((R.getD k []).drop 0).take n)] :: matD R (ixF (k+1) ns)=[C.sl (cT v)] :: cTT vis
  rw [ih]
  have h0':((R.getD k []).drop 0).take n=cT v:=h0
  rw [h0']
theorem ixF_mem:∀{k:Nat} {ns:List Nat} {i lo n:Nat},MC.r i lo n∈ixF k ns→lo=0∧k≤i∧i - k < ns.length∧n=ns.getD (i - k) 0
 | k,[],i,lo,n,h=>by cases h
 | k,a :: ns,i,lo,n,h=>by
  rcases List.mem_cons.1 h with h | h
  ·cases h;exact ⟨rfl,Nat.le_refl _,by simp,by simp⟩
  ·obtain ⟨h1,h2,h3,h4⟩:=ixF_mem (k:=k+1) h
   refine ⟨h1,by omega,by simp;omega,?_⟩
   rw [h4,show i - k=(i - (k+1))+1 by omega];simp
theorem matIn_ixF {R:List (List (List C))} {ns:List Nat} (h:∀i,i < ns.length→ns.getD i 0≤(R.getD i []).length):matIn R (ixF 0 ns):=fun i lo n hm=>by
 obtain ⟨rfl,_,h3,rfl⟩:=ixF_mem hm
 have:=h i (by simpa using h3)
 simpa using this
def visR (rows:Tss):Tss:=rows++List.replicate (room rows.length) spR
theorem visR_len (rows:Tss):(visR rows).length=rows.length+room rows.length:=by simp [visR]
theorem laid_at (rows:Tss) {i:Nat} (h:i < rows.length+room rows.length):∃full seen:List (List UInt8),(allR rows).getD i []=full∧(visR rows).getD i []=seen∧(lensR rows).getD i 0=seen.length∧∃more,full=seen++more:=by
 by_cases hi:i < rows.length
 ·refine ⟨withRoomT (rows.getD i []),rows.getD i [],?_,?_,?_,_,rfl⟩
  ·unfold allR;rw [List.getD_eq_getElem?_getD,List.getElem?_append_left (by simpa using hi),List.getElem?_map,List.getD_eq_getElem?_getD,List.getElem?_eq_getElem hi];rfl
  ·unfold visR;rw [List.getD_eq_getElem?_getD,List.getElem?_append_left hi,List.getD_eq_getElem?_getD]
  ·unfold lensR;rw [List.getD_eq_getElem?_getD,List.getElem?_append_left (by simpa using hi),List.getElem?_map,List.getD_eq_getElem?_getD,List.getElem?_eq_getElem hi];rfl
 ·have hr:i - rows.length < room rows.length:=by omega
  refine ⟨spR,spR,?_,?_,?_,[],by simp⟩
  ·unfold allR;rw [List.getD_eq_getElem?_getD,List.getElem?_append_right (by simp;omega),List.length_map,List.getElem?_replicate,if_pos hr];rfl
  ·unfold visR;rw [List.getD_eq_getElem?_getD,List.getElem?_append_right (by omega),List.getElem?_replicate,if_pos hr];rfl
  ·unfold lensR;rw [List.getD_eq_getElem?_getD,List.getElem?_append_right (by simp;omega),List.length_map,List.getElem?_replicate,if_pos hr];rfl
theorem getD_map_cT (R:Tss) (i:Nat):(R.map cT).getD i []=cT (R.getD i []):=by
 rw [List.getD_eq_getElem?_getD,List.getD_eq_getElem?_getD,List.getElem?_map]
 cases R[i]? <;> rfl
theorem laid_data (rows:Tss):matD ((allR rows).map cT) (ixF 0 (lensR rows))=cTT (visR rows):=by
 refine matD_ixF _ 0 _ _ (by rw [lensR_len,visR_len]) fun i hi=>?_
 rw [lensR_len] at hi
 obtain ⟨full,seen,h1,h2,h3,more,h4⟩:=laid_at rows hi
 rw [Nat.zero_add,getD_map_cT,h1,h2,h3,List.drop_zero,h4]
 simp [cT]
theorem laid_in (rows:Tss):matIn ((allR rows).map cT) (ixF 0 (lensR rows)):=matIn_ixF fun i hi=>by
 rw [lensR_len] at hi
 obtain ⟨full,seen,h1,h2,h3,more,h4⟩:=laid_at rows hi
 rw [getD_map_cT,h1,h3,h4,cT_len,List.length_append];omega
theorem laid_ix (rows:Tss):(ixF 0 (lensR rows)).length=rows.length+room rows.length:=by rw [ixF_len,lensR_len]
abbrev laidM (rows:Tss):Ob:=.mat 1 (ixF 0 (lensR rows)) ((allR rows).map cT)
theorem lend1_mat {l:LL} {id lo n sz:Nat} {ix:List MC} {rows:List (List (List C))} {r:List (List C)} (h:lget id l = .mat sz ix rows) (h1:n+lo≤ix.length) (h2:matIn rows ix) (h3:((matD rows ix).drop lo).take n=r):lend1 l (.ls id lo n 1) (.d (.sl r)):=by
 show (match lget id l with
  | .row _ sz' rows=>1=sz'∧n+lo≤rows.length∧(rows.drop lo).take n=r
  | .mat _ ix rows=>1=1∧n+lo≤ix.length∧matIn rows ix∧((matD rows ix).drop lo).take n=r
  | _=>False)
 rw [h]
 exact ⟨rfl,h1,h2,h3⟩
theorem fn_intactSS (rows:Tss) (hi:ChIn rows):Fn Tryz.prog 111 [.ls 1000000 0 rows.length 1,.ls 1000001 0 rows.length 1] [(1000000,laidM rows),(1000001,laidM rows)] (B true) [(1000000,laidM rows),(1000001,laidM rows)]:=by
 have hl:=hi.l
 have hrm:=room_le rows.length
 have c1:=fn_room rows.length hi.l
 have ceq:=fn_eqSS (List.replicate (room rows.length) spR) (List.replicate (room rows.length) spR) (by rw [List.length_replicate];omega) (by rw [List.length_replicate];omega)
  (fun r hr=>by rw [List.eq_of_mem_replicate hr];decide) (fun r hr=>by rw [List.eq_of_mem_replicate hr];decide)
 rw [decide_eq_true rfl] at ceq
 have hix:=laid_ix rows
 have hmd:=laid_data rows
 have hmi:=laid_in rows
 refine Fn.intro (ks:=[0,1,4,5,6,17,21,33]) hty rfl rfl rfl rfl rfl ?_
 conv=>whnf
 refine VCall.of_data c1 (nd _) ?_
 conv=>whnf
 refine Wr.i64 (y:=((rows.length+room rows.length:Nat):Int)) rfl (by omega) (by omega) ?_
 conv=>whnf
 rw [decide_eq_true (rfl:((rows.length:Nat):Int)=((rows.length:Nat):Int))]
 conv=>whnf
 refine VLoop.inv hty (S:=Nat) (fun k=>[(6,I k),(5,I ((rows.length+room rows.length:Nat):Int)),(1,.ls 1000001 0 rows.length 1),(0,.ls 1000000 0 rows.length 1)]) (fun _=>[(1000000,laidM rows),(1000001,laidM rows)])
  (fun k=>k≤rows.length) (fun k=>rows.length - k) 0 (Nat.zero_le _) ⟨rfl,rfl,rfl,rfl,trivial⟩ ⟨rfl,rfl,trivial⟩ ?_
 intro k hk
 conv=>whnf
 refine Br.mk (fun h=>?_) (fun h=>?_)
 ·have h:k < rows.length:=by simp only [decide_eq_true_eq] at h;omega
  obtain ⟨r,er⟩:∃r,rows.getD k []=r:=⟨_,rfl⟩
  have hmr:r∈rows:=by rw [←er];exact getD_mem h
  have ci:=fn_intactT r (hi.r r hmr)
  have e1:(ixF 0 (lensR rows))[k+0]? = some (.r k 0 r.length):=by
   rw [ixF_get (n:=r.length) (by rw [lensR_len];omega),Nat.zero_add];rfl
   unfold lensR
   rw [List.getD_eq_getElem?_getD,List.getElem?_append_left (by simpa using h),List.getElem?_map]
   rw [List.getD_eq_getElem?_getD] at er
   cases hq:rows[k]? with
   | none=>rw [List.getElem?_eq_none_iff] at hq;omega
   | some v=>rw [hq] at er;simp at er;rw [←er];rfl
  have e2:((allR rows).map cT)[k]? = some (cT (withRoomT r)):=by
   unfold allR
   rw [List.map_append,List.getElem?_append_left (by simpa using h),List.getElem?_map,List.getElem?_map]
   rw [List.getD_eq_getElem?_getD] at er
   cases hq:rows[k]? with
   | none=>rw [List.getElem?_eq_none_iff] at hq;omega
   | some v=>rw [hq] at er;simp at er;rw [←er];rfl
  conv=>whnf
  refine VDraw.go hmo hty 10 [] rfl ?_
  conv=>whnf
  refine ⟨by omega,?_⟩
  conv=>whnf
  refine ⟨_,e1,?_⟩
  conv=>whnf
  refine ⟨by omega,?_⟩
  conv=>whnf
  refine ⟨_,e1,?_⟩
  conv=>whnf
  refine QCall.parMM 1000000 k 1000001 k ci (by decide) rfl e2 rfl e2 ⟨⟨.inl ⟨rfl,rfl,rfl⟩,rfl,rfl,rfl⟩,⟨.inr ⟨rfl,rfl,rfl⟩,rfl,rfl,rfl⟩,trivial⟩ rfl rfl rfl ?_
  conv=>whnf
  refine Wr.i64 (y:=((k+1:Nat):Int)) rfl (by omega) (by omega) ?_
  conv=>whnf
  exact ⟨k+1,h,by show rows.length - (k+1) < rows.length - k;omega,⟨rfl,rfl,rfl,rfl,trivial⟩,⟨rfl,rfl,trivial⟩⟩
 ·have h:k=rows.length:=by simp only [decide_eq_false_iff_not] at h;omega
  conv=>whnf
  refine VDraw.go hmo hty 12 [] rfl ?_
  conv=>whnf
  refine ⟨⟨by omega,by omega,by show rows.length+room rows.length+0≤_;omega⟩,?_⟩
  conv=>whnf
  refine ⟨⟨by omega,by omega,by show rows.length+room rows.length+0≤_;omega⟩,?_⟩
  conv=>whnf
  have lend:∀(l:LL) (id:Nat),lget id l=laidM rows→lend1 l (.ls id (((rows.length:Nat):Int).toNat+0) (((rows.length+room rows.length:Nat):Int) - ((rows.length:Nat):Int)).toNat 1) (.d (.sl (cTT (List.replicate (room rows.length) spR)))):=fun l id hg=>by
   refine lend1_mat hg (by rw [hix];omega) hmi ?_
   rw [hmd,show (((rows.length:Nat):Int).toNat+0)=rows.length from rfl,show (((rows.length+room rows.length:Nat):Int) - ((rows.length:Nat):Int)).toNat=room rows.length by omega]
   unfold visR cTT
   rw [List.map_append,List.drop_append_of_le_length (by simp),List.drop_of_length_le (by simp),List.nil_append,List.take_of_length_le (by simp)]
  refine QCall.lend ceq ⟨lend _ _ rfl,lend _ _ rfl,trivial⟩ rfl ?_
  conv=>whnf
  exact ⟨rfl,⟨rfl,rfl,trivial⟩,rfl⟩
theorem namesCh {rows:Tss}:namesIn [(0,laidM rows)] (.ag [.ls 0 0 rows.length 1]):=fun j hj=>by
 have:Nat.beq 0 j=true:=by
  have:(AV.ment j (.ag [.ls 0 0 rows.length 1]))=(Nat.beq 0 j || false):=rfl
  rw [this] at hj;simpa using hj
 have e:=Nat.eq_of_beq_eq_true this
 rw [lget_cons,if_pos e.symm];exact fun e=>by cases e
theorem fn_toChain (rows:Tss) (hi:ChIn rows):Fn Tryz.prog 45 [chI rows,B false] [] (.ag [.ls 0 0 rows.length 1]) [(0,laidM rows)]:=by
 have c:=fn_toSS rows hi
 refine Fn.intro (ks:=[0,1,2,4,5]) hty rfl rfl rfl rfl rfl ?_
 conv=>whnf
 refine VCall.of_fn (k:=9) c (namesIn_ls (by simp)) rfl ?_
 conv=>whnf
 exact ⟨⟨rfl,rfl,rfl,rfl,rfl⟩,[],rfl,trivial,rfl⟩
theorem fn_toChaind (rows:Tss) (b:Bool) (hi:ChIn rows):Fn Tryz.prog 45 [chI rows,B b] [] (chI rows) []:=by
 have c:=fn_toSSd rows b hi
 refine Fn.intro (ks:=[0,1,2,4,5]) hty rfl rfl rfl rfl rfl ?_
 conv=>whnf
 refine VCall.of_data c (nd _) ?_
 conv=>whnf
 exact ⟨rfl,trivial,rfl⟩
theorem fn_intactChain (rows:Tss) (hi:ChIn rows):Fn Tryz.prog 47 [.ag [.ls 1000000 0 rows.length 1],.ag [.ls 1000001 0 rows.length 1]] [(1000000,laidM rows),(1000001,laidM rows)] (B true) [(1000000,laidM rows),(1000001,laidM rows)]:=by
 have c:=fn_intactSS rows hi
 refine Fn.intro (ks:=[0,1,2,3,4,10]) hty rfl rfl rfl rfl rfl ?_
 conv=>whnf
 refine VCall.parN [(1000000,1000000),(1000001,1000001)] c ⟨⟨rfl,rfl,rfl,rfl⟩,⟨rfl,rfl,rfl,rfl⟩,trivial⟩ ⟨⟨rfl,rfl⟩,⟨rfl,rfl⟩,trivial⟩ rfl rfl rfl rfl ?_
 conv=>whnf
 exact ⟨rfl,⟨rfl,rfl,trivial⟩,rfl⟩
theorem lend_ch {l:LL} {id:Nat} {rows:Tss} (h:lget id l=laidM rows):lends1 l [.ls id 0 rows.length 1] [.d (.sl (cTT rows))]:=by
 refine ⟨?_,trivial⟩
 refine lend1_mat h (by rw [laid_ix];omega) (laid_in rows) ?_
 rw [laid_data]
 unfold visR cTT
 rw [List.drop_zero,List.map_append,List.take_append_of_le_length (by simp),List.take_of_length_le (by simp)]
end Go.V
namespace Go.V
open Go.Proofs Go.RowKit
set_option maxRecDepth 10000
set_option maxHeartbeats 1000000
theorem fit_T' {c:C} (h:Fit c (.sl [.s])):∃xs:List (List UInt8),c = .sl (cT xs)∧xs.length < 2 ^ 47∧∀x,x∈xs→x.length < 2 ^ 47:=by
 obtain ⟨ys,rfl,h1,h2⟩:=fit_strs h
 refine ⟨ys.map fun y=>y.data.toList,by simp [cT],by simpa using h1,fun x hx=>?_⟩
 obtain ⟨y,hy,rfl⟩:=List.mem_map.1 hx
 have:=h2 y hy
 rwa [Array.length_toList]
theorem fit_TT {c:C} (h:Fit c (.sl [.sl [.s]])):∃rows:Tss,c = .sl (cTT rows)∧rows.length < 2 ^ 47∧(∀r,r∈rows→r.length < 2 ^ 47)∧∀r,r∈rows→∀x,x∈r→x.length < 2 ^ 47:=by
 cases h with
 | sl rows _ h hl hf =>
  obtain ⟨xs,h1⟩:=rows_one (α:={ r:List (List UInt8) // r.length < 2 ^ 47∧∀x,x∈r→x.length < 2 ^ 47 }) (p:=fun c=>Fit c (.sl [.s])) (g:=fun n=>.sl (cT n.1)) (fun c hc=>by
   obtain ⟨n,h1,h2⟩:=fit_T' hc;exact ⟨⟨n,h2⟩,h1⟩) hl (fun r hr c hc=>hf r hr 0 c _ hc rfl)
  subst h1
  refine ⟨xs.map (·.1),by simp [cTT],by have:=reach_lt;simp at h ⊢;omega,fun r hr=>?_,fun r hr=>?_⟩
  ·obtain ⟨y,_,rfl⟩:=List.mem_map.1 hr
   exact y.2.1
  ·obtain ⟨y,_,rfl⟩:=List.mem_map.1 hr
   exact y.2.2
theorem fit_chain {rs:List C} (hl:rs.length=1) (h:∀(i:Nat) c k,rs[i]? = some c→([K.sl [.sl [.s]]]:List K)[i]? = some k→Fit c k) :
  ∃rows:Tss,rs=[.sl (cTT rows)]∧rows.length < 2 ^ 47∧(∀r,r∈rows→r.length < 2 ^ 47)∧∀r,r∈rows→∀x,x∈r→x.length < 2 ^ 47:=by
 match rs,hl with
 | [a],_ =>
  obtain ⟨us,rfl,h1,h2,h3⟩:=fit_TT (h 0 a _ rfl rfl)
  exact ⟨us,rfl,h1,h2,h3⟩
end Go.V
namespace Go.V
open Go.Proofs Go.RowKit
end Go.V
namespace Go.V
open Go.Proofs Go.RowKit
set_option maxRecDepth 10000
set_option maxHeartbeats 1000000
end Go.V
namespace Go.V
section
variable {P:Program} {G:Ctx} {κ:Know} {ρ:Place} {t:TL} {l:LL} {a:Act} {w:World}
theorem VCall.parMd {f:FuncId} {xs xs0:List AV} {c:C} {dst:Option Nat} {K:AV→TL→LL→Prop} (id i:Nat) {sz:Nat} {ix:List MC} {rows:List (List (List C))} {row row':List (List C)} (h:Fn P f xs0 [(1000000,.row true sz row)] (.d c) [(1000000,.row true sz row')])
  (hl:lget id l = .mat sz ix rows) (hi:rows[i]? = some row) (ha:argM id i xs xs0) (hK:K (.d c) t (lset id (.mat sz ix (rows.set i row')) l)):VCall P f xs dst t l K where
 en:=h.en
 out:=fun G κ ρ a w vs hr hs hv=>by
  have hm:=hr.m
  have hob:=hm.ob id
  rw [hl] at hob
  obtain ⟨L,hL,hR⟩:=hob
  have hR':=hR
  obtain ⟨_,h5,h6,h7,h8⟩:=hR'
  have hil:i < L.ib.length:=by rw [h5];exact some_lt hi
  obtain ⟨M,hM⟩:∃M,L.ib[i]? = some M:=⟨_,List.getElem?_eq_getElem hil⟩
  have hLM:=Loc.has_i hM
  have hf:=hm.fre id L hL (by rw [hl];rfl)
  let LM:Loc:=⟨M.b,M.o,M.N,M.kn,[]⟩
  let ρ0:Place:=fun p=>if p=1000000 then some LM else none
  have hρ0:∀{p L'},ρ0 p=some L'→p=1000000∧L'=LM:=fun {p L'} h=>by
   simp only [ρ0] at h;split at h
   ·rename_i e;cases h;exact ⟨e,rfl⟩
   ·cases h
  have hLMh:∀{b},LM.has b→b=M.b:=fun {b} h=>h.elim (fun e=>e) fun ⟨M,h,_⟩=>by cases h
  let l0:LL:=[(1000000,.row true sz row)]
  have hl0:∀p,lget p l0=if p=1000000 then .row true sz row else .no:=fun p=>by simp only [l0];rw [lget_cons];rfl
  obtain ⟨arr,E,k1,k2,k3⟩:=h6 i M row hM hi
  have hm0:Mem ⟨w,Mof ρ0 l0,κ,0,ρ0⟩ κ ρ0 l0 w:=by
   refine ⟨fun p=>?_,fun i j Li Lj hij hi hj=>?_,fun i L hi _ b hb=>?_,fun i L hi b hb=>?_,hm.kn,hm.one,fun b o x h=>.inl h,⟨rfl,rfl,rfl,Nat.le_refl _,fun _ _ _=>rfl⟩,fun i L _ h=>h⟩
   ·rw [hl0];split
    ·rename_i e;subst e
     exact ⟨LM,arr,E,(0,0),if_pos rfl,k1,k2,fun _=>rfl,k3⟩
    ·rename_i e;exact if_neg e
   ·exact absurd ((hρ0 hi).1.trans (hρ0 hj).1.symm) hij
   ·obtain ⟨rfl,rfl⟩:=hρ0 hi
    rw [hLMh hb]
    exact ⟨(hf _ hLM).1,.inr ⟨1000000,LM,hi,by rw [hl0,if_pos rfl];rfl,.inl rfl⟩⟩
   ·obtain ⟨rfl,rfl⟩:=hρ0 hi
    rw [hLMh hb];exact hm.own id L hL _ hLM
  obtain ⟨e1,e2⟩:=argM_get (κ:=κ) (ρ0:=ρ0) hL hM (fun L' hL'=>by rw [(hρ0 hL').2];rfl) ha
  refine Calls.mono (h.out κ ρ0 w vs hm0 (hs.trans e1) fun i v y h1 h2=>?_) ?_
  ·have hi:i < xs.length:=by rw [←hs];exact (Array.getElem?_eq_some_iff.1 h1).1
   exact e2 i v _ y (List.getElem?_eq_getElem hi) h2 (hv i v _ h1 (List.getElem?_eq_getElem hi))
  ·rintro e w' ⟨v,κ',ρ1,he,hk,hm1,h3⟩
   have hMof:∀b,Mof ρ0 l0 b→b=M.b:=fun b ⟨p,Lp,g1,_,g3⟩=>by
    obtain ⟨rfl,rfl⟩:=hρ0 g1;exact hLMh g3
   have hblk:∀b,b < w.heap.size→b≠M.b→w'.heap[b]? = w.heap[b]? := fun b hb hne=>hm1.fr.block b hb fun h=>hne (hMof b h)
   have hob1:=hm1.ob 1000000
   obtain ⟨L1,arr1,E1,fz1,q1,q2,q3,q4,q5⟩:ObR κ' ρ1 w' 1000000 (.row true sz row'):=hob1
   obtain ⟨_,rfl⟩:=hρ0 (show ρ0 1000000=some L1 from hm1.par 1000000 L1 (Nat.le_refl _) q1)
   have:=q4 rfl;subst this
   have hfre1:=hm1.fre 1000000 LM q1 rfl M.b (.inl rfl)
   have hne:lget id l≠.no:=by rw [hl];exact fun e=>by cases e
   have hg:=lget_lset (o:=.mat sz ix (rows.set i row')) (l:=l) (i:=id) hne
   have hsepM:∀j Lj,j≠id→ρ j=some Lj→∀b,Lj.has b→b≠M.b:=fun j Lj hj hLj b hb e=>hm.sep id j L Lj (Ne.symm hj) hL hLj (by rw [hl];rfl) M.b hLM (e▸hb)
   have hwr:∀j,(lget j (lset id (.mat sz ix (rows.set i row')) l)).wr=(lget j l).wr:=fun j=>by
    rw [hg];split
    ·rename_i e;subst e;rw [hl];rfl
    ·rfl
   have hm':Mem G κ' ρ (lset id (.mat sz ix (rows.set i row')) l) w':=by
    refine ⟨fun j=>?_,fun p q Lp Lq hpq hp hq hw=>hm.sep p q Lp Lq hpq hp hq (by rw [←hwr p];exact hw),fun p Lp hp hw b hb=>?_,fun p Lp hp b hb=>Nat.lt_of_lt_of_le (hm.own p Lp hp b hb) hm1.fr.size,hm1.kn,hm1.one,fun b o x h=>?_,?_,hm.par⟩
    ·rw [hg];split
     ·rename_i e;subst e
      obtain ⟨⟨arr0,E0,g1,g2,g3,g4⟩,_⟩:=hR
      refine ⟨L,hL,⟨arr0,E0,by rw [hblk _ (hm.own _ L hL _ L.has_b) (Ne.symm (h7 i M hM))];exact g1,g2,g3,fun k c hc=>?_⟩,by simpa using h5,fun r M' row0 hM' hr'=>?_,h7,h8⟩
      ·obtain ⟨x,f1,f2,f3⟩:=g4 k c hc;exact ⟨x,f1,f2.mono hk,f3⟩
      ·by_cases e:r=i
       ·subst e
        rw [hM] at hM';cases hM'
        rw [List.getElem?_set_self (by rw [←h5];exact hil)] at hr';cases hr'
        exact ⟨arr1,E1,q2,q3,q5⟩
       ·rw [List.getElem?_set_ne (Ne.symm e)] at hr'
        obtain ⟨arr',E',f1,f2,f3⟩:=h6 r M' row0 hM' hr'
        exact ⟨arr',E',by rw [hblk _ (hm.own _ L hL _ (Loc.has_i hM')) (h8 r i M' M hM' hM e)];exact f1,f2,f3.mono hk⟩
     ·rename_i e
      exact (hm.ob j).move hk rfl (fun Lj hLj b hb=>hblk b (hm.own j Lj hLj b hb) (hsepM j Lj e hLj b hb)) (fun _ _ _ _ _ _ _ h=>h.mono hk)
    ·obtain ⟨g1,g2⟩:=hm.fre p Lp hp (by rw [←hwr p];exact hw) b hb
     refine ⟨fun o x hx=>?_,g2⟩
     rcases hm1.kn0 b o x hx with h | h | h
     ·exact g1 o x h
     ·have:=hm.own p Lp hp b hb;simp only at h;omega
     ·have:=hMof b h;subst this;exact hfre1.1 o x hx
    ·rcases hm1.kn0 b o x h with h | h | h
     ·exact hm.kn0 b o x h
     ·exact .inr (.inl (Nat.le_trans hm.fr.size h))
     ·have:=hMof b h;subst this;exact .inr (hf _ hLM).2
    ·have f1:=hm.fr;have f2:=hm1.fr
     refine ⟨f2.os.trans f1.os,f2.tape.trans f1.tape,f2.output.trans f1.output,Nat.le_trans f1.size f2.size,fun b hb hMb=>?_⟩
     refine (hblk b (Nat.lt_of_lt_of_le hb f1.size) fun e=>?_).trans (f1.block b hb hMb)
     subst e
     rcases (hf _ hLM).2 with h | h
     ·omega
     ·exact hMb h
   exact ⟨v,κ',ρ,.d c,t,_,he,hk,⟨hm',hr.df,hr.sz,fun i=>(hr.tm i).mono hk⟩,.d _ _ h3.repr,hK⟩
theorem VCall.parMs {f:FuncId} {xs xs0:List AV} {lo n s:Nat} {dst:Option Nat} {K:AV→TL→LL→Prop} (id i:Nat) {sz:Nat} {ix:List MC} {rows:List (List (List C))} {row row':List (List C)} (h:Fn P f xs0 [(1000000,.row true sz row)] (.ls 1000000 lo n s) [(1000000,.row true sz row')])
  (hl:lget id l = .mat sz ix rows) (hi:rows[i]? = some row) (ha:argM id i xs xs0) (hK:K (.ms id i lo n s) t (lset id (.mat sz ix (rows.set i row')) l)):VCall P f xs dst t l K where
 en:=h.en
 out:=fun G κ ρ a w vs hr hs hv=>by
  have hm:=hr.m
  have hob:=hm.ob id
  rw [hl] at hob
  obtain ⟨L,hL,hR⟩:=hob
  have hR':=hR
  obtain ⟨_,h5,h6,h7,h8⟩:=hR'
  have hil:i < L.ib.length:=by rw [h5];exact some_lt hi
  obtain ⟨M,hM⟩:∃M,L.ib[i]? = some M:=⟨_,List.getElem?_eq_getElem hil⟩
  have hLM:=Loc.has_i hM
  have hf:=hm.fre id L hL (by rw [hl];rfl)
  let LM:Loc:=⟨M.b,M.o,M.N,M.kn,[]⟩
  let ρ0:Place:=fun p=>if p=1000000 then some LM else none
  have hρ0:∀{p L'},ρ0 p=some L'→p=1000000∧L'=LM:=fun {p L'} h=>by
   simp only [ρ0] at h;split at h
   ·rename_i e;cases h;exact ⟨e,rfl⟩
   ·cases h
  have hLMh:∀{b},LM.has b→b=M.b:=fun {b} h=>h.elim (fun e=>e) fun ⟨M,h,_⟩=>by cases h
  let l0:LL:=[(1000000,.row true sz row)]
  have hl0:∀p,lget p l0=if p=1000000 then .row true sz row else .no:=fun p=>by simp only [l0];rw [lget_cons];rfl
  obtain ⟨arr,E,k1,k2,k3⟩:=h6 i M row hM hi
  have hm0:Mem ⟨w,Mof ρ0 l0,κ,0,ρ0⟩ κ ρ0 l0 w:=by
   refine ⟨fun p=>?_,fun i j Li Lj hij hi hj=>?_,fun i L hi _ b hb=>?_,fun i L hi b hb=>?_,hm.kn,hm.one,fun b o x h=>.inl h,⟨rfl,rfl,rfl,Nat.le_refl _,fun _ _ _=>rfl⟩,fun i L _ h=>h⟩
   ·rw [hl0];split
    ·rename_i e;subst e
     exact ⟨LM,arr,E,(0,0),if_pos rfl,k1,k2,fun _=>rfl,k3⟩
    ·rename_i e;exact if_neg e
   ·exact absurd ((hρ0 hi).1.trans (hρ0 hj).1.symm) hij
   ·obtain ⟨rfl,rfl⟩:=hρ0 hi
    rw [hLMh hb]
    exact ⟨(hf _ hLM).1,.inr ⟨1000000,LM,hi,by rw [hl0,if_pos rfl];rfl,.inl rfl⟩⟩
   ·obtain ⟨rfl,rfl⟩:=hρ0 hi
    rw [hLMh hb];exact hm.own id L hL _ hLM
  obtain ⟨e1,e2⟩:=argM_get (κ:=κ) (ρ0:=ρ0) hL hM (fun L' hL'=>by rw [(hρ0 hL').2];rfl) ha
  refine Calls.mono (h.out κ ρ0 w vs hm0 (hs.trans e1) fun i v y h1 h2=>?_) ?_
  ·have hi:i < xs.length:=by rw [←hs];exact (Array.getElem?_eq_some_iff.1 h1).1
   exact e2 i v _ y (List.getElem?_eq_getElem hi) h2 (hv i v _ h1 (List.getElem?_eq_getElem hi))
  ·rintro e w' ⟨v,κ',ρ1,he,hk,hm1,h3⟩
   have hMof:∀b,Mof ρ0 l0 b→b=M.b:=fun b ⟨p,Lp,g1,_,g3⟩=>by
    obtain ⟨rfl,rfl⟩:=hρ0 g1;exact hLMh g3
   have hblk:∀b,b < w.heap.size→b≠M.b→w'.heap[b]? = w.heap[b]? := fun b hb hne=>hm1.fr.block b hb fun h=>hne (hMof b h)
   have hob1:=hm1.ob 1000000
   obtain ⟨L1,arr1,E1,fz1,q1,q2,q3,q4,q5⟩:ObR κ' ρ1 w' 1000000 (.row true sz row'):=hob1
   obtain ⟨_,rfl⟩:=hρ0 (show ρ0 1000000=some L1 from hm1.par 1000000 L1 (Nat.le_refl _) q1)
   have:=q4 rfl;subst this
   have hfre1:=hm1.fre 1000000 LM q1 rfl M.b (.inl rfl)
   have hne:lget id l≠.no:=by rw [hl];exact fun e=>by cases e
   have hg:=lget_lset (o:=.mat sz ix (rows.set i row')) (l:=l) (i:=id) hne
   have hsepM:∀j Lj,j≠id→ρ j=some Lj→∀b,Lj.has b→b≠M.b:=fun j Lj hj hLj b hb e=>hm.sep id j L Lj (Ne.symm hj) hL hLj (by rw [hl];rfl) M.b hLM (e▸hb)
   have hwr:∀j,(lget j (lset id (.mat sz ix (rows.set i row')) l)).wr=(lget j l).wr:=fun j=>by
    rw [hg];split
    ·rename_i e;subst e;rw [hl];rfl
    ·rfl
   have hm':Mem G κ' ρ (lset id (.mat sz ix (rows.set i row')) l) w':=by
    refine ⟨fun j=>?_,fun p q Lp Lq hpq hp hq hw=>hm.sep p q Lp Lq hpq hp hq (by rw [←hwr p];exact hw),fun p Lp hp hw b hb=>?_,fun p Lp hp b hb=>Nat.lt_of_lt_of_le (hm.own p Lp hp b hb) hm1.fr.size,hm1.kn,hm1.one,fun b o x h=>?_,?_,hm.par⟩
    ·rw [hg];split
     ·rename_i e;subst e
      obtain ⟨⟨arr0,E0,g1,g2,g3,g4⟩,_⟩:=hR
      refine ⟨L,hL,⟨arr0,E0,by rw [hblk _ (hm.own _ L hL _ L.has_b) (Ne.symm (h7 i M hM))];exact g1,g2,g3,fun k c hc=>?_⟩,by simpa using h5,fun r M' row0 hM' hr'=>?_,h7,h8⟩
      ·obtain ⟨x,f1,f2,f3⟩:=g4 k c hc;exact ⟨x,f1,f2.mono hk,f3⟩
      ·by_cases e:r=i
       ·subst e
        rw [hM] at hM';cases hM'
        rw [List.getElem?_set_self (by rw [←h5];exact hil)] at hr';cases hr'
        exact ⟨arr1,E1,q2,q3,q5⟩
       ·rw [List.getElem?_set_ne (Ne.symm e)] at hr'
        obtain ⟨arr',E',f1,f2,f3⟩:=h6 r M' row0 hM' hr'
        exact ⟨arr',E',by rw [hblk _ (hm.own _ L hL _ (Loc.has_i hM')) (h8 r i M' M hM' hM e)];exact f1,f2,f3.mono hk⟩
     ·rename_i e
      exact (hm.ob j).move hk rfl (fun Lj hLj b hb=>hblk b (hm.own j Lj hLj b hb) (hsepM j Lj e hLj b hb)) (fun _ _ _ _ _ _ _ h=>h.mono hk)
    ·obtain ⟨g1,g2⟩:=hm.fre p Lp hp (by rw [←hwr p];exact hw) b hb
     refine ⟨fun o x hx=>?_,g2⟩
     rcases hm1.kn0 b o x hx with h | h | h
     ·exact g1 o x h
     ·have:=hm.own p Lp hp b hb;simp only at h;omega
     ·have:=hMof b h;subst this;exact hfre1.1 o x hx
    ·rcases hm1.kn0 b o x h with h | h | h
     ·exact hm.kn0 b o x h
     ·exact .inr (.inl (Nat.le_trans hm.fr.size h))
     ·have:=hMof b h;subst this;exact .inr (hf _ hLM).2
    ·have f1:=hm.fr;have f2:=hm1.fr
     refine ⟨f2.os.trans f1.os,f2.tape.trans f1.tape,f2.output.trans f1.output,Nat.le_trans f1.size f2.size,fun b hb hMb=>?_⟩
     refine (hblk b (Nat.lt_of_lt_of_le hb f1.size) fun e=>?_).trans (f1.block b hb hMb)
     subst e
     rcases (hf _ hLM).2 with h | h
     ·omega
     ·exact hMb h
   refine ⟨v,κ',ρ,.ms id i lo n s,t,_,he,hk,⟨hm',hr.df,hr.sz,fun i=>(hr.tm i).mono hk⟩,.ms _ _ _ _ _ _ fun L' hL'=>?_,hK⟩
   rw [hL] at hL';cases hL'
   obtain ⟨cap,A,g1,g2,g3,g4,g5⟩:=h3.ls_at q1
   exact ⟨M,hM,cap,A,g1,g2,g3,g4,g5⟩
end
end Go.V
namespace Go.V
open Go.Proofs Go.RowKit
set_option maxRecDepth 10000
set_option maxHeartbeats 1000000
theorem and32 {y:Nat} (h:y < 4294967296):(((BitVec.ofInt IntKind.u64.bits (y:Int) &&& BitVec.ofInt IntKind.u64.bits 4294967295).toNat:Nat):Int)=(y:Int):=by
 rw [BitVec.toNat_and]
 have e1:(BitVec.ofInt IntKind.u64.bits (y:Int)).toNat=y:=by
  show (BitVec.ofInt 64 (y:Int)).toNat=y
  rw [BitVec.toNat_ofInt];omega
 have e2:(BitVec.ofInt IntKind.u64.bits 4294967295).toNat=2 ^ 32 - 1:=rfl
 rw [e1,e2,Nat.and_two_pow_sub_one_eq_mod,Nat.mod_eq_of_lt h]
theorem shr0 {y:Nat} (h:y < 4294967296):((y:Nat):Int).fdiv (2 ^ min (Int.toNat 32) IntKind.u64.bits)=0:=by
 rw [show (2:Int) ^ min (Int.toNat 32) IntKind.u64.bits=4294967296 from rfl,Int.fdiv_eq_ediv_of_nonneg _ (by decide)]
 omega
theorem fn_Mul64 (y:Nat) (hy:y≤1000000):Fn Tryz.prog 221 [N64 1,N64 y] [] (.tup [N64 0,N64 y]) []:=by
 refine Fn.intro (ks:=[0,1,4,5,6,7,8,9,10,11,12,13]) hty rfl rfl rfl rfl rfl ?_
 conv=>whnf
 refine Wr.n64 (n:=1) (and32 (y:=1) (by omega)) (by omega) ?_
 conv=>whnf
 refine ⟨by decide,?_⟩
 conv=>whnf
 refine Wr.n64 (n:=y) (and32 (y:=y) (by omega)) (by omega) ?_
 conv=>whnf
 refine ⟨by decide,?_⟩
 conv=>whnf
 have e1:=shr0 (y:=1) (by omega)
 have ey:=shr0 (y:=y) (by omega)
 refine Wr.n64 (n:=y) (by omega) (by omega) ?_
 conv=>whnf
 refine Wr.n64 (n:=0) (by rw [e1];simp) (by omega) ?_
 conv=>whnf
 refine ⟨by decide,?_⟩
 conv=>whnf
 refine Wr.n64 (n:=0) (by rw [ey];rfl) (by omega) ?_
 conv=>whnf
 refine Wr.n64 (n:=0) (and32 (y:=0) (by omega)) (by omega) ?_
 conv=>whnf
 refine ⟨by decide,?_⟩
 conv=>whnf
 refine Wr.n64 (n:=0) (by rw [ey];rfl) (by omega) ?_
 conv=>whnf
 refine Wr.n64 (n:=0) rfl (by omega) ?_
 conv=>whnf
 refine Wr.n64 (n:=0) (by rw [e1,ey];rfl) (by omega) ?_
 conv=>whnf
 refine Wr.n64 (n:=0) (by rw [shr0 (y:=0) (by omega)];rfl) (by omega) ?_
 conv=>whnf
 refine ⟨by decide,?_⟩
 conv=>whnf
 refine Wr.n64 (n:=0) (by rw [shr0 (y:=0) (by omega)];rfl) (by omega) ?_
 conv=>whnf
 refine Wr.n64 (n:=y) (by omega) (by omega) ?_
 conv=>whnf
 exact ⟨rfl,rfl,trivial,rfl⟩
theorem fn_Mul (y:Nat) (hy:y≤1000000):Fn Tryz.prog 192 [N64 1,N64 y] [] (.tup [N64 0,N64 y]) []:=by
 refine Fn.intro (ks:=[0,1,4,5,6,7,8,9]) hty rfl rfl rfl rfl rfl ?_
 conv=>whnf
 refine VCall.of_data (fn_Mul64 y hy) (ndT fun _=>rfl) ?_
 conv=>whnf
 exact ⟨rfl,rfl,trivial,rfl⟩
abbrev zrQ:List C:=[.s (.bool false),.s (.slice none 0 0),.s (.slice none 0 0)]
def repQ (a:Rat) (n k:Nat):List (List C):=cQ (List.replicate k a)++List.replicate (n - k) zrQ
theorem repQ_len {a:Rat} {n k:Nat} (h:k≤n):(repQ a n k).length=n:=by
 unfold repQ;rw [List.length_append,cQ_len,List.length_replicate,List.length_replicate];omega
theorem repQ_all (a:Rat) (n:Nat):repQ a n n=cQ (List.replicate n a):=by unfold repQ;rw [Nat.sub_self];simp
theorem cQ_take (xs:List Rat) (k:Nat):(cQ xs).take k=cQ (xs.take k):=by unfold cQ;rw [List.map_take]
theorem repQ_copy {a:Rat} {n k m:Nat} (h:k≤n) (hm:m≤n - k) (hk:m≤k):(repQ a n k).take k++(((repQ a n k).take k).take m++(repQ a n k).drop (k+m))=repQ a n (k+m):=by
 have e1:(repQ a n k).take k=cQ (List.replicate k a):=by
  unfold repQ
  rw [List.take_append_of_le_length (by rw [cQ_len,List.length_replicate];exact Nat.le_refl _),List.take_of_length_le (by rw [cQ_len,List.length_replicate];exact Nat.le_refl _)]
 have e2:(repQ a n k).drop (k+m)=List.replicate (n - (k+m)) zrQ:=by
  unfold repQ
  rw [List.drop_append,List.drop_of_length_le (by rw [cQ_len,List.length_replicate];omega),cQ_len,List.length_replicate,List.drop_replicate]
  rw [List.nil_append];congr 1;omega
 rw [e1,e2,cQ_take,List.take_replicate,Nat.min_eq_left hk,←List.append_assoc,cQ_append,List.replicate_append_replicate]
 rfl
theorem fn_slRepeat (a:Rat) (n:Nat) (h1:1≤n) (hn:n≤20):Fn Tryz.prog 141 [lQ [a],I n] [] (.ls 0 0 n 3) [(0,.row true 3 (cQ (List.replicate n a)))]:=by
 refine Fn.intro (ks:=[0,1,4,5,6,7,8,10,26,37]) hty rfl rfl rfl rfl rfl ?_
 conv=>whnf
 rw [show decide ((n:Int) < 0)=false by simp]
 conv=>whnf
 refine Wr.n64 (n:=1) (by rw [cQ_len];rfl) (by omega) ?_
 conv=>whnf
 refine Wr.n64 (n:=n) rfl (by omega) ?_
 conv=>whnf
 refine VCall.of_data (fn_Mul n (by omega)) (ndT fun _=>rfl) ?_
 conv=>whnf
 rw [show decide (((9223372036854775807:Int)) < (n:Int))=false by simp;omega]
 conv=>whnf
 refine Wr.fit (wrap_i64 (by omega) (by omega)) ?_
 conv=>whnf
 refine ⟨⟨by omega,by omega,by show (n:Int)*((56:Nat):Int)≤_;omega,by omega⟩,?_⟩
 conv=>whnf
 refine ⟨cQ_sz _,?_⟩
 conv=>whnf
 refine ⟨by show 0+((n:Int)).toNat≤(List.replicate ((n:Int)).toNat _).length;rw [List.length_replicate];omega,?_⟩
 conv=>whnf
 have e0:List.take 0 (List.replicate ((n:Int)).toNat zrQ)++((cQ [a]).take (Nat.min 1 ((n:Int)).toNat)++(List.replicate ((n:Int)).toNat zrQ).drop (0+Nat.min 1 ((n:Int)).toNat))=repQ a n 1:=by
  rw [show ((n:Int)).toNat=n by omega,show Nat.min 1 n=1 from Nat.min_eq_left h1,List.drop_replicate]
  unfold repQ
  rw [List.take_zero,List.nil_append,List.take_of_length_le (by rw [cQ_len];simp)]
  rfl
 refine VLoop.inv hty (S:=Nat) (fun k=>[(8,I k),(7,.ls 30 0 n 3)]) (fun k=>[(30,.row true 3 (repQ a n k))]) (fun k=>1≤k∧k≤n) (fun k=>n - k) 1 ⟨Nat.le_refl _,h1⟩
  ⟨?_,?_,trivial⟩ ⟨?_,trivial⟩ ?_
 ·show I ((Nat.min 1 ((n:Int)).toNat:Nat):Int)=I 1
  rw [show Nat.min 1 ((n:Int)).toNat=1 from Nat.min_eq_left (by omega)];rfl
 ·show AV.ls 30 0 ((n:Int)).toNat 3=AV.ls 30 0 n 3
  rw [show ((n:Int)).toNat=n by omega]
 ·rw [←e0];rfl
 rintro k ⟨hk1,hk2⟩
 conv=>whnf
 refine Br.mk (fun h=>?_) (fun h=>?_)
 ·have h:k < n:=by simp only [decide_eq_true_eq] at h;omega
  have hl:=repQ_len (a:=a) hk2
  have g1:(0≤(k:Int)∧(k:Int)≤n∧((n:Int)).toNat+0≤(repQ a n k).length):=⟨by omega,by omega,by rw [hl];omega⟩
  have g2:(0≤(0:Int)∧(0:Int)≤k∧((k:Int)).toNat+0≤(repQ a n k).length):=⟨by omega,by omega,by rw [hl];omega⟩
  have hc:=repQ_copy (a:=a) (n:=n) (k:=k) (m:=min k (n - k)) hk2 (Nat.min_le_right _ _) (Nat.min_le_left _ _)
  have hmin:1≤min k (n - k):=by omega
  conv=>whnf
  have hs:(0:Int).toNat+0+((k:Int) - 0).toNat≤(repQ a n k).length:=by rw [hl];omega
  have hd:(k:Int).toNat+0+((n:Int) - (k:Int)).toNat≤(repQ a n k).length:=by rw [hl];omega
  have hmm:Nat.min ((k:Int) - 0).toNat ((n:Int) - (k:Int)).toNat=min k (n - k):=by
   show min _ _=_
   rw [show ((k:Int) - 0).toNat=k by omega,show ((n:Int) - (k:Int)).toNat=n - k by omega]
  refine VDraw.goS hmo hty [0,1,2,4,5] rfl ?_
  conv=>whnf
  repeat' (first
   | (refine ⟨g1,?_⟩;conv=>whnf)
   | (refine ⟨g2,?_⟩;conv=>whnf)
   | (refine Sub.lo hs ?_;conv=>whnf)
   | (refine ⟨hd,?_⟩;conv=>whnf)
   | (refine Wr.i64 (y:=((k+min k (n - k):Nat):Int)) (by rw [hmm];rfl) (by omega) (by omega) ?_;conv=>whnf)
   | (refine ⟨k+min k (n - k),⟨by omega,by omega⟩,by show n - (k+min k (n - k)) < n - k;omega,⟨rfl,rfl,trivial⟩,?_,trivial⟩;rw [←hc,←hmm];rfl)
   | (refine ⟨?_,?_⟩ <;> conv=>whnf))
 ·have h:k=n:=by simp only [decide_eq_false_iff_not] at h;omega
  subst h
  rw [repQ_all]
  conv=>whnf
  exact ⟨⟨rfl,rfl,rfl,rfl,rfl,rfl⟩,[],rfl,trivial,rfl⟩
end Go.V
namespace Go.V
open Go.Proofs Go.RowKit
set_option maxRecDepth 10000
set_option maxHeartbeats 1000000
def outQ (p:Mt) (w:List Rat) (i j:Nat):List Rat:=(List.range w.length).map fun k=>stepAt p w k (if k < j then i+1 else i)
theorem outQ_len (p:Mt) (w:List Rat) (i j:Nat):(outQ p w i j).length=w.length:=by simp [outQ]
theorem outQ_at {p:Mt} {w:List Rat} {i j k:Nat} (h:k < w.length):(outQ p w i j).getD k 0=stepAt p w k (if k < j then i+1 else i):=by
 rw [List.getD_eq_getElem?_getD,List.getElem?_eq_getElem (by rw [outQ_len];exact h)];simp [outQ]
theorem outQ_zero (p:Mt) (w:List Rat):outQ p w 0 0=List.replicate w.length 0:=by
 apply List.ext_getElem (by simp [outQ_len])
 intro k h1 h2
 simp [outQ,stepAt,sN]
theorem outQ_next (p:Mt) (w:List Rat) (i:Nat):outQ p w i w.length=outQ p w (i+1) 0:=by
 unfold outQ
 apply List.map_congr_left
 intro k hk
 rw [if_pos (by simpa using hk),if_neg (by omega)]
theorem outQ_skip {p:Mt} {w:List Rat} {i:Nat} (h:w.getD i 0=0):outQ p w (i+1) 0=outQ p w i 0:=by
 unfold outQ
 apply List.map_congr_left
 intro k hk
 rw [if_neg (by omega),if_neg (by omega)]
 show stepAt p w k i+w.getD i 0*ent p i k=stepAt p w k i
 rw [h,Rat.zero_mul,Rat.add_zero]
theorem outQ_set {p:Mt} {w:List Rat} {i j:Nat} (h:j < w.length):(outQ p w i j).set j (stepAt p w j (i+1))=outQ p w i (j+1):=by
 apply List.ext_getElem (by simp [outQ_len])
 intro k h1 h2
 rw [List.getElem_set]
 simp only [outQ,List.getElem_map,List.getElem_range]
 by_cases e:j=k
 ·subst e;rw [if_pos rfl,if_pos (by omega)]
 ·rw [if_neg e]
  by_cases h3:k < j
  ·rw [if_pos h3,if_pos (by omega)]
  ·rw [if_neg h3,if_neg (by omega)]
theorem outQ_all {p:Mt} {w:List Rat}:outQ p w w.length 0=stepQ p w:=by
 unfold outQ stepQ
 apply List.map_congr_left
 intro k hk
 rw [if_neg (by omega)]
theorem cQ_set (xs:List Rat) (k:Nat) (x:Rat):(cQ xs).set k (c1Q x)=cQ (xs.set k x):=by unfold cQ;rw [List.map_set]
theorem sgI_zeroD (q:Rat):decide (sgI q=0)=decide (q=0):=decide_eq_decide.2 sgI_zero
theorem fn_stepped (p:Mt) (w:List Rat) (s:Nat) (hp:MtOk p) (hw:Wk p.length s w) (hs:s≤10000000000):Fn Tryz.prog 204 [lM p,lQ w] [] (lQ (stepQ p w)) []:=by
 have hn1:=hp.n1
 have hn2:=hp.n2
 have hl:=hw.1
 have hzw:((cQ w).length:Int)=w.length:=by rw [cQ_len]
 have c0:=fn_whole 0 (by decide) (by decide)
 have cr:=fn_slRepeat 0 w.length (by omega) (by omega)
 refine Fn.intro (ks:=[0,1,4,5,6,7,8,9,15,16,17,18,24,28,29,30,31]) hty rfl rfl rfl rfl rfl ?_
 conv=>whnf
 refine VCall.of_data c0 (ndA fun k=>rfl) ?_
 conv=>whnf
 try rw [cQ_len w]
 refine VCall.frzD 11 (n:=1) (sz:=3) (D:=cQ [0]) ⟨rfl,rfl⟩ (by rw [cQ_len];rfl) (by repeat first | exact trivial | refine ⟨⟨rfl,rfl,rfl⟩,?_⟩) ⟨⟨rfl,rfl,rfl⟩,trivial⟩ ?_
 refine VCall.of_ls (k:=14) cr rfl ?_
 conv=>whnf
 refine VLoop.inv hty (S:=Nat) (fun i=>[(17,I i),(16,I w.length),(15,lQ w),(5,.ls 14 0 w.length 3),(0,lM p)]) (fun i=>[(14,.row true 3 (cQ (outQ p w i 0)))]) (fun i=>i≤w.length) (fun i=>w.length - i) 0 (Nat.zero_le _)
  ⟨rfl,by show I ((cQ w).length:Nat)=_;rw [cQ_len],rfl,rfl,rfl,trivial⟩ ⟨by rw [outQ_zero];rfl,trivial⟩ ?_
 intro i hi
 conv=>whnf
 refine Br.mk (fun hb=>?_) (fun hb=>?_)
 ·have hb:i < w.length:=by simp only [decide_eq_true_eq] at hb;omega
  obtain ⟨a,ea⟩:∃a,w.getD i 0=a:=⟨_,rfl⟩
  have za:sz a≤s:=by rw [←ea];exact hw.sz (getD_mem hb)
  have cs:=fn_sign a (by omega)
  conv=>whnf
  refine ⟨⟨⟨by omega,by rw [cQ_len];omega⟩,cQ_sz _⟩,?_⟩
  conv=>whnf
  refine ⟨_,cQ_as hb ea,?_⟩
  conv=>whnf
  refine VCall.of_data cs (nd _) ?_
  conv=>whnf
  rw [sgI_zeroD]
  by_cases h0:a=0
  ·rw [decide_eq_true h0]
   conv=>whnf
   refine Wr.i64 (y:=((i+1:Nat):Int)) rfl (by omega) (by omega) ?_
   conv=>whnf
   refine ⟨i+1,hb,by show w.length - (i+1) < w.length - i;omega,⟨rfl,rfl,rfl,rfl,rfl,trivial⟩,⟨?_,trivial⟩⟩
   rw [outQ_skip (ea.trans h0)];rfl
  ·rw [decide_eq_false h0]
   conv=>whnf
   have hrl:(p.getD i []).length=w.length:=by rw [hp.toSz.len (by omega),hl]
   refine ⟨⟨⟨by omega,by rw [cM_len];omega⟩,cM_sz _⟩,?_⟩
   conv=>whnf
   refine ⟨_,cM_as (x:=p.getD i []) (by omega) rfl,?_⟩
   conv=>whnf
   refine VLoop.inv hty (S:=Nat) (fun j=>[(30,I j),(29,I w.length),(28,lQ (p.getD i [])),(17,I i),(16,I w.length),(15,lQ w),(7,.lp 7 0),(6,I i),(5,.ls 14 0 w.length 3),(0,lM p)])
    (fun j=>[(14,.row true 3 (cQ (outQ p w i j))),(7,.box true [B (ng a),nI (tp a),nI a.den])]) (fun j=>j≤w.length) (fun j=>w.length - j) 0 (Nat.zero_le _)
    ⟨rfl,by show I ((cQ (p.getD i [])).length:Nat)=_;rw [cQ_len,hrl],rfl,rfl,rfl,rfl,rfl,rfl,rfl,rfl,trivial⟩ ⟨rfl,rfl,trivial⟩ ?_
   intro j hj
   conv=>whnf
   refine Br.mk (fun hc=>?_) (fun hc=>?_)
   ·have hc:j < w.length:=by simp only [decide_eq_true_eq] at hc;omega
    have z1:=hp.ent_sz (i:=i) (j:=j) (by omega) (by omega)
    have z2:=step_sz hp hw (j:=j) (k:=i) (by omega) (by omega)
    have z3:=sz_mul a (ent p i j)
    have cm:=fn_rmul a (ent p i j) (by omega) (by omega)
    have ca:=fn_radd (stepAt p w j i) (a*ent p i j) (by omega)
    have e1:stepAt p w j i+a*ent p i j=stepAt p w j (i+1):=by rw [←ea];rfl
    rw [e1] at ca
    have eo:(outQ p w i j).getD j 0=stepAt p w j i:=by rw [outQ_at hc,if_neg (by omega)]
    have es:=outQ_set (p:=p) (w:=w) (i:=i) hc
    have hol:=outQ_len p w i j
    conv=>whnf
    refine ⟨⟨⟨by omega,by rw [cQ_len,hrl];omega⟩,cQ_sz _⟩,?_⟩
    conv=>whnf
    refine ⟨_,cQ_as (x:=ent p i j) (by rw [hrl];exact hc) rfl,?_⟩
    conv=>whnf
    refine VDraw.go hmo hty 11 [] rfl ?_
    conv=>whnf
    refine ⟨by omega,?_⟩
    conv=>whnf
    refine ⟨_,cQ_as (by rw [hol];exact hc) eo,?_⟩
    conv=>whnf
    refine QCall.of_data cm (ndA fun k=>rfl) ?_
    conv=>whnf
    refine QCall.of_data ca (ndA fun k=>rfl) ?_
    conv=>whnf
    refine ⟨by omega,?_⟩
    conv=>whnf
    refine ⟨by rw [cQ_len,hol];show j+0 < _;omega,?_⟩
    conv=>whnf
    refine Wr.i64 (y:=((j+1:Nat):Int)) rfl (by omega) (by omega) ?_
    conv=>whnf
    refine ⟨j+1,hc,by show w.length - (j+1) < w.length - j;omega,⟨rfl,rfl,rfl,rfl,rfl,rfl,rfl,rfl,rfl,rfl,trivial⟩,⟨?_,rfl,trivial⟩⟩
    show Ob.row true 3 ((cQ _).set j (c1Q (stepAt p w j (i+1))))=_
    rw [cQ_set,es]
   ·have hc:j=w.length:=by simp only [decide_eq_false_iff_not] at hc;omega
    rw [hc,outQ_next]
    conv=>whnf
    refine Wr.i64 (y:=((i+1:Nat):Int)) rfl (by omega) (by omega) ?_
    conv=>whnf
    exact ⟨i+1,hb,by show w.length - (i+1) < w.length - i;omega,⟨rfl,rfl,rfl,rfl,rfl,trivial⟩,⟨rfl,trivial⟩⟩
 ·have hb:i=w.length:=by simp only [decide_eq_false_iff_not] at hb;omega
  rw [hb,outQ_all]
  conv=>whnf
  refine ⟨⟨rfl,by rw [cQ_len,stepQ_len];omega,?_⟩,trivial,rfl⟩
  rw [List.drop_zero,List.take_of_length_le (by rw [cQ_len,stepQ_len];omega)]
end Go.V
namespace Go.V
open Go.Proofs Go.RowKit
set_option maxRecDepth 10000
set_option maxHeartbeats 1000000
theorem cS_set (xs:List Rat) (k:Nat) (x:Rat):(cS xs).set k (c1S x)=cS (xs.set k x):=by unfold cS;rw [List.map_set]
theorem fn_sRow (n:Nat) (hn:n≤1000):Fn Tryz.prog 171 [I n] [] (.ls 0 0 n 3) [(0,.row true 3 (cS (List.replicate n 0)))]:=by
 refine Fn.intro (ks:=[0,2,3,4,8]) hty rfl rfl rfl rfl rfl ?_
 conv=>whnf
 refine VLoop.ren 5 14 rfl ?_
 refine VLoop.inv hty (S:=Nat) (fun k=>[(4,I k),(3,.ls 14 0 k 3),(0,I n)]) (fun k=>[(14,.row true 3 (cS (List.replicate k 0)))]) (fun k=>k≤n) (fun k=>n - k) 0 (Nat.zero_le _)
  ⟨rfl,rfl,rfl,trivial⟩ ⟨rfl,trivial⟩ ?_
 intro k hk
 conv=>whnf
 refine Br.mk (fun h=>?_) (fun h=>?_)
 ·have h:k < n:=by simp only [decide_eq_true_eq] at h;omega
  conv=>whnf
  refine VCall.of_data fn_sNone (ndA fun k=>rfl) ?_
  conv=>whnf
  refine Sub.full rfl ?_
  conv=>whnf
  refine Sub.full (by rw [cS_len,List.length_replicate]) ?_
  conv=>whnf
  refine ⟨by show (k+1)*56≤_;omega,?_⟩
  conv=>whnf
  refine Wr.i64 (y:=((k+1:Nat):Int)) rfl (by omega) (by omega) ?_
  conv=>whnf
  refine ⟨k+1,h,by show n - (k+1) < n - k;omega,⟨rfl,rfl,rfl,trivial⟩,?_,trivial⟩
  show Ob.row true 3 (cS (List.replicate k 0)++cS [0])=_
  rw [cS_append,show (List.replicate (k+1) (0:Rat))=List.replicate k 0++[0] from List.replicate_succ']
 ·have h:k=n:=by simp only [decide_eq_false_iff_not] at h;omega
  rw [h]
  conv=>whnf
  exact ⟨⟨rfl,rfl,rfl,rfl,rfl,rfl⟩,[],rfl,trivial,rfl⟩
theorem point_set (n i:Nat):(List.replicate n (0:Rat)).set i 1=pointQ n i:=by
 apply List.ext_getElem (by simp [pointQ_len])
 intro k h1 h2
 rw [List.getElem_set]
 simp only [pointQ,List.getElem_map,List.getElem_range,List.getElem_replicate]
 by_cases e:i=k
 ·rw [if_pos e,if_pos e.symm]
 ·rw [if_neg e,if_neg (fun h=>e h.symm)]
theorem fn_sPoint (n i:Nat) (hn:n≤1000) (hi:i < n):Fn Tryz.prog 103 [I n,I i] [] (.ls 0 0 n 3) [(0,.row true 3 (cS (pointQ n i)))]:=by
 refine Fn.intro (ks:=[0,1,4,5]) hty rfl rfl rfl rfl rfl ?_
 conv=>whnf
 refine VCall.of_ls (k:=7) (fn_sRow n hn) rfl ?_
 conv=>whnf
 refine VCall.of_data fn_sOne (ndA fun k=>rfl) ?_
 conv=>whnf
 refine ⟨by omega,?_⟩
 conv=>whnf
 refine ⟨by rw [cS_len,List.length_replicate];show i+0 < _;omega,?_⟩
 conv=>whnf
 refine ⟨⟨rfl,rfl,rfl,rfl,rfl,rfl⟩,[],?_,trivial,rfl⟩
 show [(0,Ob.row true 3 (cS (pointQ n i)))]=[(0,Ob.row true 3 ((cS (List.replicate n 0)).set i (c1S 1)))]
 rw [cS_set,point_set]
theorem fn_sPointd (n i:Nat) (hn:n≤1000) (hi:i < n):Fn Tryz.prog 103 [I n,I i] [] (lS (pointQ n i)) []:=by
 have:=(fn_sPoint n i hn hi).freeze (by rw [cS_len,pointQ_len];omega)
 rwa [List.drop_zero,List.take_of_length_le (by rw [cS_len,pointQ_len];omega)] at this
theorem step_next {p:Mt} {w:List Rat} {j:Nat}:(List.range (j+1)).map (fun j=>stepAt p w j w.length)=(List.range j).map (fun j=>stepAt p w j w.length)++[stepAt p w j w.length]:=by
 rw [List.range_succ,List.map_append];rfl
theorem fn_sStep (p:Mt) (w:List Rat) (s:Nat) (hp:MtOk p) (hw:Wk p.length s w) (hs:s≤10000000000):Fn Tryz.prog 104 [mP p,lS w] [] (lS (stepQ p w)) []:=by
 have hn2:=hp.n2
 have hl:=hw.1
 have hzw:((cS w).length:Int)=w.length:=by rw [cS_len]
 have g:Fn Tryz.prog 104 [mP p,lS w] [] (.ls 0 0 (stepQ p w).length 3) [(0,.row true 3 (cS (stepQ p w)))]:=by
  refine Fn.intro (ks:=[0,1,4,5,6,7,8,11,12,13,17,18,19]) hty rfl rfl rfl rfl rfl ?_
  conv=>whnf
  rw [hzw]
  refine VLoop.ren 9 42 rfl ?_
  refine VLoop.inv hty (S:=Nat) (fun j=>[(12,I j),(11,I w.length),(5,.ls 42 0 j 3),(1,lS w),(0,mP p)]) (fun j=>[(42,.row true 3 (cS ((List.range j).map fun j=>stepAt p w j w.length)))]) (fun j=>j≤w.length) (fun j=>w.length - j) 0 (Nat.zero_le _)
   ⟨rfl,rfl,rfl,rfl,rfl,trivial⟩ ⟨rfl,trivial⟩ ?_
  intro j hj
  conv=>whnf
  refine Br.mk (fun hb=>?_) (fun hb=>?_)
  ·have hb:j < w.length:=by simp only [decide_eq_true_eq] at hb;omega
   conv=>whnf
   refine VCall.of_data fn_sNone (ndA fun k=>rfl) ?_
   conv=>whnf
   rw [hzw]
   refine VLoop.inv hty (S:=Nat) (fun i=>[(18,I i),(17,I w.length),(12,I j),(11,I w.length),(7,.lp 7 0),(6,I j),(5,.ls 42 0 j 3),(1,lS w),(0,mP p)])
    (fun i=>[(42,.row true 3 (cS ((List.range j).map fun j=>stepAt p w j w.length))),(7,.box true [B (ng (stepAt p w j i)),nS (tp (stepAt p w j i)),nS (stepAt p w j i).den])]) (fun i=>i≤w.length) (fun i=>w.length - i) 0 (Nat.zero_le _)
    ⟨rfl,rfl,rfl,rfl,rfl,rfl,rfl,rfl,rfl,trivial⟩ ⟨rfl,rfl,trivial⟩ ?_
   intro i hi
   conv=>whnf
   refine Br.mk (fun hc=>?_) (fun hc=>?_)
   ·have hc:i < w.length:=by simp only [decide_eq_true_eq] at hc;omega
    obtain ⟨a,ea⟩:∃a,w.getD i 0=a:=⟨_,rfl⟩
    have za:sz a≤s:=by rw [←ea];exact hw.sz (getD_mem hc)
    have z1:=hp.ent_sz (i:=i) (j:=j) (by omega) (by omega)
    have z2:=step_sz hp hw (j:=j) (k:=i) (by omega) (by omega)
    have z3:=sz_mul a (ent p i j)
    have cm:=fn_sTimes a (ent p i j) (by omega)
    have ca:=fn_sSum (stepAt p w j i) (a*ent p i j) (by omega)
    have e1:stepAt p w j i+a*ent p i j=stepAt p w j (i+1):=by rw [←ea];rfl
    rw [e1] at ca
    have hrl:(p.getD i []).length=w.length:=by rw [hp.toSz.len (by omega),hl]
    conv=>whnf
    refine VDraw.go hmo hty 17 [] rfl ?_
    conv=>whnf
    refine ⟨⟨⟨by omega,by rw [cS_len];omega⟩,cS_sz _⟩,?_⟩
    conv=>whnf
    refine ⟨_,cS_as hc ea,?_⟩
    conv=>whnf
    refine ⟨⟨⟨by omega,by rw [cMS_len];omega⟩,cMS_sz _⟩,?_⟩
    conv=>whnf
    refine ⟨_,cMS_as (x:=p.getD i []) (by omega) rfl,?_⟩
    conv=>whnf
    refine ⟨⟨⟨by omega,by rw [cS_len,hrl];omega⟩,cS_sz _⟩,?_⟩
    conv=>whnf
    refine ⟨_,cS_as (x:=ent p i j) (by rw [hrl];exact hb) rfl,?_⟩
    conv=>whnf
    refine QCall.of_data cm (ndA fun k=>rfl) ?_
    conv=>whnf
    refine QCall.of_data ca (ndA fun k=>rfl) ?_
    conv=>whnf
    refine Wr.i64 (y:=((i+1:Nat):Int)) rfl (by omega) (by omega) ?_
    conv=>whnf
    exact ⟨i+1,hc,by show w.length - (i+1) < w.length - i;omega,⟨rfl,rfl,rfl,rfl,rfl,rfl,rfl,rfl,rfl,trivial⟩,rfl,rfl,trivial⟩
   ·have hc:i=w.length:=by simp only [decide_eq_false_iff_not] at hc;omega
    rw [hc]
    conv=>whnf
    refine Sub.full rfl ?_
    conv=>whnf
    refine Sub.full (by rw [cS_len,List.length_map,List.length_range]) ?_
    conv=>whnf
    refine ⟨by show (j+1)*56≤_;omega,?_⟩
    conv=>whnf
    refine Wr.i64 (y:=((j+1:Nat):Int)) rfl (by omega) (by omega) ?_
    conv=>whnf
    refine ⟨j+1,hb,by show w.length - (j+1) < w.length - j;omega,⟨rfl,rfl,rfl,rfl,rfl,trivial⟩,?_,trivial⟩
    show Ob.row true 3 (cS _++cS [stepAt p w j w.length])=_
    rw [cS_append,step_next]
  ·have hb:j=w.length:=by simp only [decide_eq_false_iff_not] at hb;omega
   rw [hb]
   conv=>whnf
   refine ⟨⟨rfl,rfl,rfl,rfl,?_,rfl⟩,[],rfl,trivial,rfl⟩
   rw [stepQ_len]
 have:=g.freeze (by rw [cS_len];omega)
 rwa [List.drop_zero,List.take_of_length_le (by rw [cS_len];omega)] at this
def powM (p:Mt) (n:Nat):Mt:=(List.range p.length).map fun i=>afterQ p n (pointQ p.length i)
theorem powM_len (p:Mt) (n:Nat):(powM p n).length=p.length:=by simp [powM]
end Go.V
namespace Go.V
open Go.Proofs Go.RowKit
set_option maxRecDepth 10000
set_option maxHeartbeats 1000000
theorem powM_at {p:Mt} {n i:Nat} (h:i < p.length):(powM p n).getD i []=afterQ p n (pointQ p.length i):=by
 rw [List.getD_eq_getElem?_getD,List.getElem?_eq_getElem (by rw [powM_len];exact h)];simp [powM]
theorem sgI_gt {q:Rat} (h:0≤q):decide (0 < sgI q) = !decide (q=0):=by
 by_cases h0:q=0
 ·subst h0;rfl
 ·have h1:ng q=false:=by rw [ng_lt];exact decide_eq_false (fun e=>by have:=Rat.not_le.2 e;exact this h)
  have h2:tp q≠0:=fun e=>h0 (tp_zero.1 e)
  unfold sgI
  rw [if_neg h2,h1,decide_eq_false h0]
  rfl
end Go.V
namespace Go.V
open Go.Proofs Go.RowKit
set_option maxRecDepth 10000
set_option maxHeartbeats 1000000
end Go.V
namespace Go.V
open Go.Proofs Go.RowKit
set_option maxRecDepth 10000
set_option maxHeartbeats 1000000
abbrev ownW (w:List Rat):LL:=[(1000000,.row true 3 (cQ w))]
theorem fn_steppedR (p:Mt) (w:List Rat) (s:Nat) (hp:MtOk p) (hw:Wk p.length s w) (hs:s≤10000000000):Fn Tryz.prog 204 [lM p,.ls 1000000 0 w.length 3] (ownW w) (lQ (stepQ p w)) (ownW w):=by
 have hn1:=hp.n1
 have hn2:=hp.n2
 have hl:=hw.1
 have hzw:((cQ w).length:Int)=w.length:=by rw [cQ_len]
 have c0:=fn_whole 0 (by decide) (by decide)
 have cr:=fn_slRepeat 0 w.length (by omega) (by omega)
 refine Fn.intro (ks:=[0,1,4,5,6,7,8,9,15,16,17,18,24,28,29,30,31]) hty rfl rfl rfl rfl rfl ?_
 conv=>whnf
 refine VCall.of_data c0 (ndA fun k=>rfl) ?_
 conv=>whnf
 try rw [cQ_len w]
 refine VCall.frzD 11 (n:=1) (sz:=3) (D:=cQ [0]) ⟨rfl,rfl⟩ (by rw [cQ_len];rfl) (by repeat first | exact trivial | refine ⟨⟨rfl,rfl,rfl⟩,?_⟩) ⟨⟨rfl,rfl,rfl⟩,trivial⟩ ?_
 refine VCall.of_ls (k:=14) cr rfl ?_
 conv=>whnf
 refine VLoop.inv hty (S:=Nat) (fun i=>[(17,I i),(16,I w.length),(15,.ls 1000000 0 w.length 3),(5,.ls 14 0 w.length 3),(0,lM p)]) (fun i=>[(14,.row true 3 (cQ (outQ p w i 0))),(1000000,.row true 3 (cQ w))]) (fun i=>i≤w.length) (fun i=>w.length - i) 0 (Nat.zero_le _)
  ⟨rfl,rfl,rfl,rfl,rfl,trivial⟩ ⟨by rw [outQ_zero];rfl,rfl,trivial⟩ ?_
 intro i hi
 conv=>whnf
 refine Br.mk (fun hb=>?_) (fun hb=>?_)
 ·have hb:i < w.length:=by simp only [decide_eq_true_eq] at hb;omega
  obtain ⟨a,ea⟩:∃a,w.getD i 0=a:=⟨_,rfl⟩
  have za:sz a≤s:=by rw [←ea];exact hw.sz (getD_mem hb)
  have cs:=fn_sign a (by omega)
  conv=>whnf
  refine ⟨by omega,?_⟩
  conv=>whnf
  refine ⟨_,cQ_as hb ea,?_⟩
  conv=>whnf
  refine VCall.of_data cs (nd _) ?_
  conv=>whnf
  rw [sgI_zeroD]
  by_cases h0:a=0
  ·rw [decide_eq_true h0]
   conv=>whnf
   refine Wr.i64 (y:=((i+1:Nat):Int)) rfl (by omega) (by omega) ?_
   conv=>whnf
   refine ⟨i+1,hb,by show w.length - (i+1) < w.length - i;omega,⟨rfl,rfl,rfl,rfl,rfl,trivial⟩,⟨?_,rfl,trivial⟩⟩
   rw [outQ_skip (ea.trans h0)];rfl
  ·rw [decide_eq_false h0]
   conv=>whnf
   have hrl:(p.getD i []).length=w.length:=by rw [hp.toSz.len (by omega),hl]
   refine ⟨⟨⟨by omega,by rw [cM_len];omega⟩,cM_sz _⟩,?_⟩
   conv=>whnf
   refine ⟨_,cM_as (x:=p.getD i []) (by omega) rfl,?_⟩
   conv=>whnf
   refine VLoop.inv hty (S:=Nat) (fun j=>[(30,I j),(29,I w.length),(28,lQ (p.getD i [])),(17,I i),(16,I w.length),(15,.ls 1000000 0 w.length 3),(7,.lp 7 0),(6,I i),(5,.ls 14 0 w.length 3),(0,lM p)])
    (fun j=>[(14,.row true 3 (cQ (outQ p w i j))),(7,.box true [B (ng a),nI (tp a),nI a.den]),(1000000,.row true 3 (cQ w))]) (fun j=>j≤w.length) (fun j=>w.length - j) 0 (Nat.zero_le _)
    ⟨rfl,by show I ((cQ (p.getD i [])).length:Nat)=_;rw [cQ_len,hrl],rfl,rfl,rfl,rfl,rfl,rfl,rfl,rfl,trivial⟩ ⟨rfl,rfl,rfl,trivial⟩ ?_
   intro j hj
   conv=>whnf
   refine Br.mk (fun hc=>?_) (fun hc=>?_)
   ·have hc:j < w.length:=by simp only [decide_eq_true_eq] at hc;omega
    have z1:=hp.ent_sz (i:=i) (j:=j) (by omega) (by omega)
    have z2:=step_sz hp hw (j:=j) (k:=i) (by omega) (by omega)
    have z3:=sz_mul a (ent p i j)
    have cm:=fn_rmul a (ent p i j) (by omega) (by omega)
    have ca:=fn_radd (stepAt p w j i) (a*ent p i j) (by omega)
    have e1:stepAt p w j i+a*ent p i j=stepAt p w j (i+1):=by rw [←ea];rfl
    rw [e1] at ca
    have eo:(outQ p w i j).getD j 0=stepAt p w j i:=by rw [outQ_at hc,if_neg (by omega)]
    have es:=outQ_set (p:=p) (w:=w) (i:=i) hc
    have hol:=outQ_len p w i j
    conv=>whnf
    refine ⟨⟨⟨by omega,by rw [cQ_len,hrl];omega⟩,cQ_sz _⟩,?_⟩
    conv=>whnf
    refine ⟨_,cQ_as (x:=ent p i j) (by rw [hrl];exact hc) rfl,?_⟩
    conv=>whnf
    refine VDraw.go hmo hty 11 [] rfl ?_
    conv=>whnf
    refine ⟨by omega,?_⟩
    conv=>whnf
    refine ⟨_,cQ_as (by rw [hol];exact hc) eo,?_⟩
    conv=>whnf
    refine QCall.of_data cm (ndA fun k=>rfl) ?_
    conv=>whnf
    refine QCall.of_data ca (ndA fun k=>rfl) ?_
    conv=>whnf
    refine ⟨by omega,?_⟩
    conv=>whnf
    refine ⟨by rw [cQ_len,hol];show j+0 < _;omega,?_⟩
    conv=>whnf
    refine Wr.i64 (y:=((j+1:Nat):Int)) rfl (by omega) (by omega) ?_
    conv=>whnf
    refine ⟨j+1,hc,by show w.length - (j+1) < w.length - j;omega,⟨rfl,rfl,rfl,rfl,rfl,rfl,rfl,rfl,rfl,rfl,trivial⟩,⟨?_,rfl,rfl,trivial⟩⟩
    show Ob.row true 3 ((cQ _).set j (c1Q (stepAt p w j (i+1))))=_
    rw [cQ_set,es]
   ·have hc:j=w.length:=by simp only [decide_eq_false_iff_not] at hc;omega
    rw [hc,outQ_next]
    conv=>whnf
    refine Wr.i64 (y:=((i+1:Nat):Int)) rfl (by omega) (by omega) ?_
    conv=>whnf
    exact ⟨i+1,hb,by show w.length - (i+1) < w.length - i;omega,⟨rfl,rfl,rfl,rfl,rfl,trivial⟩,⟨rfl,rfl,trivial⟩⟩
 ·have hb:i=w.length:=by simp only [decide_eq_false_iff_not] at hb;omega
  rw [hb,outQ_all]
  conv=>whnf
  refine ⟨⟨rfl,by rw [cQ_len,stepQ_len];omega,?_⟩,⟨rfl,trivial⟩,rfl⟩
  rw [List.drop_zero,List.take_of_length_le (by rw [cQ_len,stepQ_len];omega)]
theorem fn_after0 (p:Mt) (w:List Rat):Fn Tryz.prog 174 [lM p,.ls 1000000 0 w.length 3,I 0] (ownW w) (.ls 1000000 0 w.length 3) (ownW w):=by
 refine Fn.intro (ks:=[0,1,2,6,7,8,9]) hty rfl rfl rfl rfl rfl ?_
 conv=>whnf
 refine VLoop.inv hty (S:=Unit) (fun _=>[(8,I 0),(7,I 0),(1,.ls 1000000 0 w.length 3)]) (fun _=>ownW w) (fun _=>True) (fun _=>0) () trivial ⟨rfl,rfl,rfl,trivial⟩ ⟨rfl,trivial⟩ ?_
 intro _ _
 conv=>whnf
 exact ⟨⟨rfl,rfl,rfl,rfl,rfl⟩,⟨rfl,trivial⟩,rfl⟩
def afT (p:Mt) (w:List Rat):Nat→AV
 | 0=>.ls 1000000 0 w.length 3
 | k+1=>lQ (afterQ p (k+1) w)
theorem fn_afterR (p:Mt) (w:List Rat) (n:Nat) (hp:MtOk p) (hw:Wk p.length 2 w) (hn:n < 40):Fn Tryz.prog 174 [lM p,.ls 1000000 0 w.length 3,I ((n+1:Nat):Int)] (ownW w) (lQ (afterQ p (n+1) w)) (ownW w):=by
 refine Fn.intro (ks:=[0,1,2,6,7,8,9]) hty rfl rfl rfl rfl rfl ?_
 conv=>whnf
 refine VLoop.inv hty (S:=Nat) (fun k=>[(8,I k),(7,I ((n+1:Nat):Int)),(1,afT p w k),(0,lM p)]) (fun _=>ownW w) (fun k=>k≤n+1) (fun k=>n+1 - k) 0 (Nat.zero_le _) ⟨rfl,rfl,rfl,rfl,trivial⟩ ⟨rfl,trivial⟩ ?_
 rintro (_ | k) hk
 ·conv=>whnf
  refine Br.mk (fun h=>?_) (fun h=>?_)
  ·conv=>whnf
   refine VCall.par1 1000000 (fn_steppedR p w 2 hp hw (by decide)) ⟨rfl,⟨rfl,rfl,rfl,rfl⟩,trivial⟩ rfl ?_
   conv=>whnf
   refine Wr.i64 (y:=1) rfl (by omega) (by omega) ?_
   conv=>whnf
   exact ⟨1,by omega,by show n+1 - 1 < n+1 - 0;omega,⟨rfl,rfl,rfl,rfl,trivial⟩,⟨rfl,trivial⟩⟩
  ·simp at h
 ·conv=>whnf
  refine Br.mk (fun h=>?_) (fun h=>?_)
  ·have h:k+1 < n+1:=by simp only [decide_eq_true_eq] at h;omega
   have h2:=hw.after hp (k+1)
   have cs:=fn_stepped p _ _ hp h2 (by omega)
   conv=>whnf
   refine VCall.of_data cs (nd _) ?_
   conv=>whnf
   refine Wr.i64 (y:=((k+1+1:Nat):Int)) rfl (by omega) (by omega) ?_
   conv=>whnf
   exact ⟨k+1+1,h,by show n+1 - (k+1+1) < n+1 - (k+1);omega,⟨rfl,rfl,rfl,rfl,trivial⟩,⟨rfl,trivial⟩⟩
  ·have h:k=n:=by simp only [decide_eq_false_iff_not] at h;omega
   rw [h]
   conv=>whnf
   exact ⟨rfl,⟨rfl,trivial⟩,rfl⟩
theorem fn_zeros (n:Nat) (h1:1≤n) (hn:n≤12):Fn Tryz.prog 145 [I n] [] (.ls 0 0 n 1) [(0,.mat 3 (ixF 0 (List.replicate n n)) (List.replicate n (cQ (List.replicate n 0))))]:=by
 have c0:=fn_whole 0 (by decide) (by decide)
 have cr:=fn_slRepeat 0 n (by omega) (by omega)
 refine Fn.intro (ks:=[0,2,3,4,8,9,10]) hty rfl rfl rfl rfl rfl ?_
 conv=>whnf
 refine ⟨⟨by omega,by omega,by show (n:Int)*((24:Nat):Int)≤_;omega,by omega⟩,?_⟩
 conv=>whnf
 refine VLoop.toMat 6 3 (cs:=List.replicate n (.s (.slice none 0 0))) (by rw [List.map_replicate];rfl) rfl ?_
 refine VLoop.inv hty (S:=Nat) (fun k=>[(9,I k),(8,I n),(3,.ls 6 0 n 1),(0,I n)])
  (fun k=>[(6,.mat 3 (ixF 0 (List.replicate k n)++List.replicate (n - k) nilM) (List.replicate k (cQ (List.replicate n 0))))])
  (fun k=>k≤n) (fun k=>n - k) 0 (Nat.zero_le _) ⟨rfl,rfl,rfl,rfl,trivial⟩ ⟨by show Ob.mat 3 (List.map MC.d _) []=Ob.mat 3 _ _;rw [List.map_replicate];rfl,trivial⟩ ?_
 intro k hk
 conv=>whnf
 refine Br.mk (fun h=>?_) (fun h=>?_)
 ·have h:k < n:=by simp only [decide_eq_true_eq] at h;omega
  have hA:(ixF 0 (List.replicate k n)).length=k:=by rw [ixF_len,List.length_replicate]
  conv=>whnf
  refine VCall.of_data c0 (ndA fun k=>rfl) ?_
  conv=>whnf
  refine VCall.frzD 15 (n:=1) (sz:=3) (D:=cQ [0]) ⟨rfl,rfl⟩ (by rw [cQ_len];rfl) (by repeat first | exact trivial | refine ⟨⟨rfl,rfl,rfl⟩,?_⟩) ⟨⟨rfl,rfl,rfl⟩,trivial⟩ ?_
  refine VCall.of_ls (k:=17) cr rfl ?_
  conv=>whnf
  refine ⟨by omega,?_⟩
  conv=>whnf
  refine ⟨by show k+0 < (ixF 0 (List.replicate k n)++List.replicate (n - k) nilM).length;rw [List.length_append,hA,List.length_replicate];omega,?_⟩
  conv=>whnf
  refine Wr.i64 (y:=((k+1:Nat):Int)) rfl (by omega) (by omega) ?_
  conv=>whnf
  refine ⟨k+1,h,by show n - (k+1) < n - k;omega,⟨rfl,rfl,rfl,rfl,trivial⟩,?_,trivial⟩
  have e1:=put_rep (ixF 0 (List.replicate k n)) (n - (k+1)) nilM (.r k 0 n)
  rw [hA,show n - (k+1)+1=n - k by omega] at e1
  show Ob.mat 3 (List.set _ _ (MC.r (List.length _) 0 n)) (_++[cQ (List.replicate n 0)])=Ob.mat 3 _ _
  rw [List.length_replicate,List.replicate_succ' (n:=k),ixF_snoc,List.length_replicate,Nat.zero_add,←List.replicate_succ' (n:=k)]
  congr 1
 ·have h:k=n:=by simp only [decide_eq_false_iff_not] at h;omega
  rw [h,Nat.sub_self,List.replicate_zero,List.append_nil]
  conv=>whnf
  exact ⟨⟨rfl,rfl,rfl,rfl,rfl⟩,[],rfl,trivial,rfl⟩
end Go.V
namespace Go.V
open Go.Proofs Go.RowKit
set_option maxRecDepth 10000
set_option maxHeartbeats 1000000
def inP (p:Mt) (s n k:Nat):MC:=if s=0 then .r k 0 n else .d (.sl (cQ (afterQ p s (pointQ n k))))
def ixP (p:Mt) (s n i:Nat):List MC:=(List.range n).map fun k=>if k < i then inP p s n k else .r k 0 n
def rowsP (n i:Nat):List (List (List C)):=(List.range n).map fun k=>cQ (if k < i then pointQ n k else List.replicate n 0)
theorem ixP_len (p:Mt) (s n i:Nat):(ixP p s n i).length=n:=by simp [ixP]
theorem rowsP_len (n i:Nat):(rowsP n i).length=n:=by simp [rowsP]
theorem ixP_at {p:Mt} {s n i:Nat} (h:i < n):(ixP p s n i)[i]? = some (.r i 0 n):=by simp [ixP,h]
theorem rowsP_at {n i:Nat} (h:i < n):(rowsP n i)[i]? = some (cQ (List.replicate n 0)):=by simp [rowsP,h]
theorem rowsP_next {n i:Nat} (h:i < n):(rowsP n (i+1))[i]? = some (cQ (pointQ n i)):=by simp [rowsP,h]
theorem map_set {α:Type} {n i:Nat} (f g:Nat→α) (he:∀k,k≠i→f k=g k):((List.range n).map f).set i (g i)=(List.range n).map g:=by
 apply List.ext_getElem (by simp)
 intro k h1 h2
 rw [List.getElem_set]
 simp only [List.getElem_map,List.getElem_range]
 by_cases e:i=k
 ·rw [if_pos e,e]
 ·rw [if_neg e,he k (Ne.symm e)]
theorem ixP_set {p:Mt} {s n i:Nat}:(ixP p s n i).set i (inP p s n i)=ixP p s n (i+1):=by
 unfold ixP
 have:=map_set (n:=n) (i:=i) (fun k=>if k < i then inP p s n k else .r k 0 n) (fun k=>if k < i+1 then inP p s n k else .r k 0 n) fun k hk=>by
  by_cases h:k < i
  ·rw [if_pos h,if_pos (by omega)]
  ·rw [if_neg h,if_neg (by omega)]
 rw [←this,if_pos (by omega)]
theorem rowsP_set {n i:Nat}:(rowsP n i).set i (cQ (pointQ n i))=rowsP n (i+1):=by
 unfold rowsP
 have:=map_set (n:=n) (i:=i) (fun k=>cQ (if k < i then pointQ n k else List.replicate n 0)) (fun k=>cQ (if k < i+1 then pointQ n k else List.replicate n 0)) fun k hk=>by
  by_cases h:k < i
  ·rw [if_pos h,if_pos (by omega)]
  ·rw [if_neg h,if_neg (by omega)]
 rw [←this,if_pos (by omega)]
theorem rowsP_zero (n:Nat):rowsP n 0=List.replicate n (cQ (List.replicate n 0)):=by
 apply List.ext_getElem (by simp [rowsP_len])
 intro k h1 h2
 simp [rowsP]
theorem ixP_zero (p:Mt) (s n:Nat):ixP p s n 0=ixF 0 (List.replicate n n):=by
 apply List.ext_getElem (by rw [ixP_len,ixF_len,List.length_replicate])
 intro k h1 h2
 rw [ixP_len] at h1
 have h3:=ixF_get (k:=0) (ns:=List.replicate n n) (i:=k) (n:=n) (by simpa using h1) (by rw [List.getD_eq_getElem?_getD,List.getElem?_eq_getElem (by simpa using h1)];simp)
 have h4:(ixF 0 (List.replicate n n))[k] = .r (0+k) 0 n:=by
  have:=List.getElem?_eq_getElem h2
  rw [h3] at this
  exact (Option.some.inj this).symm
 rw [h4,Nat.zero_add]
 simp [ixP]
theorem matD_map (R:List (List (List C))) (f:Nat→MC) (g:Nat→List C):∀l:List Nat,(∀k,k∈l→matD R [f k]=[g k])→matD R (l.map f)=l.map g
 | [],_=>rfl
 | k :: l,h=>by
  have ih:=matD_map R f g l fun k hk=>h k (List.mem_cons_of_mem _ hk)
  have h0:=h k (by simp)
  rw [List.map_cons,List.map_cons,←ih]
  cases e:f k with
  | d c=>rw [e] at h0;show [c] :: _=_;rw [show g k=[c] from (List.cons.inj h0).1.symm]
  | r i lo n=>rw [e] at h0;show [C.sl _] :: _=_;rw [←(List.cons.inj h0).1]
theorem matD_ixP (p:Mt) (s:Nat):matD (rowsP p.length p.length) (ixP p s p.length p.length)=cM (powM p s):=by
 have:=matD_map (rowsP p.length p.length) (fun k=>if k < p.length then inP p s p.length k else .r k 0 p.length) (fun k=>[.sl (cQ (afterQ p s (pointQ p.length k)))]) (List.range p.length) fun k hk=>by
  have hk:k < p.length:=by simpa using hk
  rw [if_pos hk]
  by_cases h:s=0
  ·subst h
   show [[C.sl ((((rowsP p.length p.length).getD k []).drop 0).take p.length)]]=[[.sl (cQ (pointQ p.length k))]]
   have e:(rowsP p.length p.length).getD k []=cQ (pointQ p.length k):=by
    rw [List.getD_eq_getElem?_getD,List.getElem?_eq_getElem (by rw [rowsP_len];exact hk)];simp [rowsP,hk]
   rw [e,List.drop_zero,List.take_of_length_le (by rw [cQ_len,pointQ_len];omega)]
  ·rw [inP,if_neg h];rfl
 unfold ixP
 rw [this]
 simp [cM,powM]
theorem matIn_ixP (p:Mt) (s n:Nat):matIn (rowsP n n) (ixP p s n n):=fun i lo m hm=>by
 obtain ⟨k,hk,e⟩:=List.mem_map.1 hm
 have hk:k < n:=by simpa using hk
 rw [if_pos hk] at e
 unfold inP at e
 split at e
 ·cases e
  rw [List.getD_eq_getElem?_getD,List.getElem?_eq_getElem (by rw [rowsP_len];exact hk)]
  simp [rowsP,hk,cQ_len,pointQ_len]
 ·cases e
theorem fn_powerOfChain (p:Mt) (s:Nat) (hp:MtOk p) (hs:s≤40):Fn Tryz.prog 109 [lM p,I s] [] (lM (powM p s)) []:=by
 have h1:=hp.n1
 have h2:=hp.n2
 have hz:((cM p).length:Int)=p.length:=by rw [cM_len]
 have c1:=fn_whole 1 (by decide) (by decide)
 have g:Fn Tryz.prog 109 [lM p,I s] [] (.ls 0 0 p.length 1) [(0,.mat 3 (ixP p s p.length p.length) (rowsP p.length p.length))]:=by
  obtain ⟨n,en⟩:∃n,p.length=n:=⟨_,rfl⟩
  have cz:=fn_zeros n (by omega) (by omega)
  rw [←rowsP_zero,←ixP_zero p s] at cz
  rw [en] at hz h1 h2 ⊢
  refine Fn.intro (ks:=[0,1,4,5,6,11,12,13]) hty rfl rfl rfl rfl rfl ?_
  conv=>whnf
  rw [hz]
  refine VCall.of_fn (k:=9) cz (fun j hj=>by
   have:0=j:=Nat.eq_of_beq_eq_true hj
   rw [lget_cons,if_pos this.symm];simp) rfl ?_
  conv=>whnf
  refine VLoop.inv hty (S:=Nat) (fun i=>[(12,I i),(11,I n),(5,.ls 9 0 n 1),(1,I s),(0,lM p)]) (fun i=>[(9,.mat 3 (ixP p s n i) (rowsP n i))]) (fun i=>i≤n) (fun i=>n - i) 0 (Nat.zero_le _) ⟨rfl,rfl,rfl,rfl,rfl,trivial⟩ ⟨rfl,trivial⟩ ?_
  intro i hi
  conv=>whnf
  refine Br.mk (fun h=>?_) (fun h=>?_)
  ·have h:i < n:=by simp only [decide_eq_true_eq] at h;omega
   have a1:=ixP_at (p:=p) (s:=s) h
   have a2:=rowsP_at h
   have a3:=rowsP_next h
   have hw:Wk p.length 2 (pointQ n i):=by rw [en];exact pointQ_wk n i
   have hpl:=pointQ_len n i
   have er:(rowsP n i).set i ((cQ (List.replicate n 0)).set i (c1Q 1))=rowsP n (i+1):=by rw [cQ_set,point_set,rowsP_set]
   have ep:(rowsP n (i+1)).set i (cQ (pointQ n i))=rowsP n (i+1):=by
    obtain ⟨hlt,e⟩:=List.getElem?_eq_some_iff.1 a3
    rw [←e];exact List.set_getElem_self hlt
   have e0:∀R:List (List (List C)),R=rowsP n (i+1)→R[i]? = some (cQ (pointQ n i))∧R.set i (cQ (pointQ n i))=rowsP n (i+1):=fun R e=>by subst e;exact ⟨a3,ep⟩
   obtain ⟨f1,f2⟩:=e0 _ er
   have es:(ixP p s n i).set i (inP p s n i)=ixP p s n (i+1):=ixP_set
   conv=>whnf
   refine VDraw.go hmo hty 7 [] rfl ?_
   conv=>whnf
   refine ⟨by omega,?_⟩
   conv=>whnf
   refine ⟨_,a1,?_⟩
   conv=>whnf
   refine QCall.of_data c1 (ndA fun k=>rfl) ?_
   conv=>whnf
   refine ⟨by omega,?_⟩
   conv=>whnf
   refine ⟨_,a2,?_⟩
   conv=>whnf
   refine ⟨by rw [cQ_len,List.length_replicate];show i+0 < _;omega,?_⟩
   conv=>whnf
   refine ⟨by omega,?_⟩
   conv=>whnf
   refine ⟨_,a1,?_⟩
   conv=>whnf
   rcases s with _ | s
   ·have ca:=fn_after0 p (pointQ n i)
    rw [hpl] at ca
    refine VCall.parMs 9 i ca rfl f1 ⟨rfl,⟨rfl,rfl,rfl,rfl,rfl,rfl⟩,rfl,trivial⟩ ?_
    conv=>whnf
    refine ⟨by omega,?_⟩
    conv=>whnf
    refine ⟨by rw [ixP_len];show i+0 < _;omega,?_⟩
    conv=>whnf
    refine Wr.i64 (y:=((i+1:Nat):Int)) rfl (by omega) (by omega) ?_
    conv=>whnf
    refine ⟨i+1,h,by show n - (i+1) < n - i;omega,⟨rfl,rfl,rfl,rfl,rfl,trivial⟩,?_,trivial⟩
    show Ob.mat 3 ((ixP p 0 n i).set i (inP p 0 n i)) (List.set (List.set (rowsP n i) i ((cQ (List.replicate n 0)).set i (c1Q 1))) i (cQ (pointQ n i)))=Ob.mat 3 _ _
    rw [f2,es]
   ·have ca:=fn_afterR p (pointQ n i) s hp hw (by omega)
    rw [hpl] at ca
    refine VCall.parMd 9 i ca rfl f1 ⟨rfl,⟨rfl,rfl,rfl,rfl,rfl,rfl⟩,rfl,trivial⟩ ?_
    conv=>whnf
    refine ⟨by omega,?_⟩
    conv=>whnf
    refine ⟨by rw [ixP_len];show i+0 < _;omega,?_⟩
    conv=>whnf
    refine Wr.i64 (y:=((i+1:Nat):Int)) rfl (by omega) (by omega) ?_
    conv=>whnf
    refine ⟨i+1,h,by show n - (i+1) < n - i;omega,⟨rfl,rfl,rfl,rfl,rfl,trivial⟩,?_,trivial⟩
    show Ob.mat 3 ((ixP p (s+1) n i).set i (inP p (s+1) n i)) (List.set (List.set (rowsP n i) i ((cQ (List.replicate n 0)).set i (c1Q 1))) i (cQ (pointQ n i)))=Ob.mat 3 _ _
    rw [f2,es]
  ·have h:i=n:=by simp only [decide_eq_false_iff_not] at h;omega
   rw [h]
   conv=>whnf
   exact ⟨⟨rfl,rfl,rfl,rfl,rfl⟩,[],rfl,trivial,rfl⟩
 have:=g.freezeM (by rw [ixP_len];omega) (matIn_ixP p s p.length)
 rwa [matD_ixP,List.drop_zero,List.take_of_length_le (by rw [cM_len,powM_len];omega)] at this
end Go.V
namespace Go.V
open Go.Proofs Go.RowKit
set_option maxRecDepth 10000
set_option maxHeartbeats 1000000
end Go.V
namespace Go.V
open Go.Proofs Go.RowKit
set_option maxRecDepth 10000
set_option maxHeartbeats 1000000
end Go.V
namespace Go.V
open Go.Proofs Go.RowKit
set_option maxRecDepth 10000
set_option maxHeartbeats 1000000
end Go.V
namespace Go.V
open Go.Proofs Go.RowKit
set_option maxRecDepth 10000
set_option maxHeartbeats 1000000
end Go.V
namespace Go.V
open Go.Proofs Go.RowKit
set_option maxRecDepth 10000
set_option maxHeartbeats 1000000
end Go.V
namespace Go.V
open Go.Proofs Go.RowKit
set_option maxRecDepth 10000
set_option maxHeartbeats 1000000
end Go.V
namespace Go.V
theorem Iz.szA {E M:Nat} {a:Rat} (h:Iz E a) (hE:E≠0) (h0:-((M:Int):Rat)≤a) (h1:a≤((M:Int):Rat)):Go.V.sz a≤bl M+bl E:=by
 by_cases hn:0≤a
 ·exact h.sz2 hE hn h1
 ·have h2:=h.neg.sz2 (M:=M) hE (by grind) (by grind)
  rwa [sz_neg] at h2
def Vk (E M:Nat) (v:List Rat):Prop:=∀q,q∈v→-((M:Int):Rat)≤q∧q≤((M:Int):Rat)∧Iz E q
theorem Vk.sz {E M:Nat} {v:List Rat} (h:Vk E M v) (hE:E≠0) {q:Rat} (hq:q∈v):Go.V.sz q≤bl M+bl E:=(h q hq).2.2.szA hE (h q hq).1 (h q hq).2.1
structure Mo where
 room:Nat
 come:Rat
 serve:Rat
 reward:Rat
 cost:Rat
def Mo.stay (m:Mo):Rat:=1 - m.come - m.serve
def vAt (v:List Rat) (n:Nat):Rat:=v.getD n 0
theorem vAt_mem {v:List Rat} {n:Nat} (h:n < v.length):vAt v n∈v:=getD_mem h
theorem le_tp {q:Rat} (h:0≤q):q≤((tp q:Int):Rat):=by
 have h1:q*((q.den:Int):Rat)=(q.num:Rat):=by
  have h:mkRat q.num q.den=q:=Rat.mkRat_self q
  have hp:((q.den:Int):Rat)≠0:=by have:=q.den_nz;exact_mod_cast this
  rw [Rat.mkRat_eq_div,natc] at h
  have h3:=Rat.div_mul_cancel (a:=((q.num:Int):Rat)) hp
  rw [h] at h3
  exact h3
 have h2:(1:Rat)≤((q.den:Int):Rat):=by
  have:(1:Int)≤(q.den:Int):=by have:=q.den_nz;omega
  exact_mod_cast this
 have h3:=Rat.mul_le_mul_of_nonneg_left h2 h
 rw [Rat.mul_one,h1] at h3
 have h4:(q.num:Int)≤(tp q:Int):=by unfold tp;omega
 have h5:(q.num:Rat)≤((tp q:Int):Rat):=by exact_mod_cast h4
 grind
end Go.V
namespace Go.V
abbrev Fm:=Nat→Nat→Rat
def rowX (n:Nat) (A:Fm) (x:Nat→Rat) (r:Nat):Rat:=sN n fun j=>A r j*x j
def Sol (n:Nat) (A:Fm) (x:Nat→Rat):Prop:=∀r,r < n→rowX n A x r=A r n
def Hom (n:Nat) (A:Fm) (x:Nat→Rat):Prop:=∀r,r < n→rowX n A x r=0
def Inj (n:Nat) (A:Fm):Prop:=∀x,Hom n A x→∀j,j < n→x j=0
structure Eqv (n:Nat) (A B:Fm):Prop where
 s:∀x,Sol n A x↔Sol n B x
 h:∀x,Hom n A x↔Hom n B x
theorem Eqv.refl (n:Nat) (A:Fm):Eqv n A A:=⟨fun _=>Iff.rfl,fun _=>Iff.rfl⟩
theorem Eqv.trans {n:Nat} {A B C:Fm} (h1:Eqv n A B) (h2:Eqv n B C):Eqv n A C:=⟨fun x=>(h1.s x).trans (h2.s x),fun x=>(h1.h x).trans (h2.h x)⟩
theorem Eqv.inj {n:Nat} {A B:Fm} (h:Eqv n A B) (hi:Inj n A):Inj n B:=fun x hx=>hi x ((h.h x).2 hx)
theorem Eqv.congr {n:Nat} {A B:Fm} (h:∀r,r < n→∀j,j≤n→A r j=B r j):Eqv n A B:=by
 have hr:∀x r,r < n→rowX n A x r=rowX n B x r:=fun x r hr=>sN_congr fun j hj=>by rw [h r hr j (by omega)]
 refine ⟨fun x=>⟨fun H r h1=>?_,fun H r h1=>?_⟩,fun x=>⟨fun H r h1=>?_,fun H r h1=>?_⟩⟩
 ·rw [←hr x r h1,←h r h1 n (Nat.le_refl _)];exact H r h1
 ·rw [hr x r h1,h r h1 n (Nat.le_refl _)];exact H r h1
 ·rw [←hr x r h1];exact H r h1
 ·rw [hr x r h1];exact H r h1
theorem Eqv.swap {n:Nat} {A B:Fm} (f:Nat→Nat) (hf:∀r,r < n→f r < n) (hff:∀r,r < n→f (f r)=r) (h:∀r,r < n→∀j,j≤n→B r j=A (f r) j):Eqv n A B:=by
 have hr:∀x r,r < n→rowX n B x r=rowX n A x (f r):=fun x r hr=>sN_congr fun j hj=>by rw [h r hr j (by omega)]
 refine ⟨fun x=>⟨fun H r h1=>?_,fun H r h1=>?_⟩,fun x=>⟨fun H r h1=>?_,fun H r h1=>?_⟩⟩
 ·rw [hr x r h1,h r h1 n (Nat.le_refl _)];exact H _ (hf r h1)
 ·have h2:=H _ (hf r h1)
  rw [hr x _ (hf r h1),h _ (hf r h1) n (Nat.le_refl _),hff r h1] at h2
  exact h2
 ·rw [hr x r h1];exact H _ (hf r h1)
 ·have h2:=H _ (hf r h1)
  rw [hr x _ (hf r h1),hff r h1] at h2
  exact h2
theorem Eqv.sub {n i:Nat} {A B:Fm} (hi:i < n) (f:Nat→Rat) (hf:f i=0) (h:∀r,r < n→∀j,j≤n→B r j=A r j - f r*A i j):Eqv n A B:=by
 have hr:∀x r,r < n→rowX n B x r=rowX n A x r - f r*rowX n A x i:=fun x r hr=>by
  unfold rowX
  rw [←sN_mul]
  have:(sN n fun j=>A r j*x j)=(sN n fun j=>B r j*x j)+sN n fun j=>f r*(A i j*x j):=by
   rw [←sN_add]
   exact sN_congr fun j hj=>by rw [h r hr j (by omega)];grind
  rw [this];grind
 have hb:∀x r,r < n→rowX n A x r=rowX n B x r+f r*rowX n B x i:=fun x r h1=>by
  rw [hr x r h1,hr x i hi,hf];grind
 refine ⟨fun x=>⟨fun H r h1=>?_,fun H r h1=>?_⟩,fun x=>⟨fun H r h1=>?_,fun H r h1=>?_⟩⟩
 ·rw [hr x r h1,h r h1 n (Nat.le_refl _),H r h1,H i hi]
 ·rw [hb x r h1,H r h1,H i hi,h r h1 n (Nat.le_refl _),h i hi n (Nat.le_refl _),hf];grind
 ·rw [hr x r h1,H r h1,H i hi,Rat.mul_zero];grind
 ·rw [hb x r h1,H r h1,H i hi,Rat.mul_zero];grind
theorem sN_two {n a b:Nat} {f:Nat→Rat} (ha:a < n) (hb:b < n) (hab:a≠b) (h:∀i,i < n→i≠a→i≠b→f i=0):sN n f=f a+f b:=by
 have h1:sN n f=(sN n fun i=>if i=a then f i else 0)+sN n fun i=>if i=b then f i else 0:=by
  rw [←sN_add]
  refine sN_congr fun i hi=>?_
  by_cases e1:i=a
  ·rw [if_pos e1,if_neg (by omega),Rat.add_zero]
  ·rw [if_neg e1,Rat.zero_add]
   by_cases e2:i=b
   ·rw [if_pos e2]
   ·rw [if_neg e2,h i hi e1 e2]
 rw [h1,sN_delta,sN_delta,if_pos ha,if_pos hb]
theorem sN_only {n a:Nat} {f:Nat→Rat} (ha:a < n) (h:∀i,i < n→i≠a→f i=0):sN n f=f a:=by
 have h1:sN n f=sN n fun i=>if i=a then f i else 0:=sN_congr fun i hi=>by
  by_cases e1:i=a
  ·rw [if_pos e1]
  ·rw [if_neg e1,h i hi e1]
 rw [h1,sN_delta,if_pos ha]
def Dia (n:Nat) (A:Fm) (i:Nat):Prop:=∀c,c < i→A c c≠0∧∀r,r < n→r≠c→A r c=0
theorem Dia.pivot {n i:Nat} {A:Fm} (hd:Dia n A i) (hj:Inj n A) (hi:i < n):∃k,i≤k∧k < n∧A k i≠0:=by
 apply Classical.byContradiction
 intro hno
 have h0:∀k,i≤k→k < n→A k i=0:=fun k h1 h2=>Classical.byContradiction fun h3=>hno ⟨k,h1,h2,h3⟩
 have hx:=hj (fun j=>if j < i then -(A j i / A j j) else if j=i then 1 else 0) (fun r hr=>by
  unfold rowX
  by_cases hri:r < i
  ·rw [sN_two (a:=r) (b:=i) hr hi (by omega) (fun j hj h1 h2=>by
    dsimp only
    by_cases h3:j < i
    ·rw [(hd j h3).2 r hr (Ne.symm h1),Rat.zero_mul]
    ·rw [if_neg h3,if_neg h2,Rat.mul_zero])]
   dsimp only
   rw [if_pos hri,if_neg (by omega),if_pos rfl]
   have:=(hd r hri).1
   have h4:=Rat.div_mul_cancel (a:=A r i) this
   grind
  ·rw [sN_only (a:=i) hi (fun j hj h1=>by
    dsimp only
    by_cases h3:j < i
    ·rw [(hd j h3).2 r hr (by omega),Rat.zero_mul]
    ·rw [if_neg h3,if_neg h1,Rat.mul_zero])]
   rw [h0 r (by omega) hr,Rat.zero_mul]) i hi
 rw [if_neg (by omega),if_pos rfl] at hx
 exact absurd hx (by decide)
theorem Dia.sol {n:Nat} {A:Fm} (hd:Dia n A n) {x:Nat→Rat} (hx:∀r,r < n→x r=A r n / A r r):Sol n A x:=by
 intro r hr
 unfold rowX
 rw [sN_only (a:=r) hr (fun j hj h1=>by rw [(hd j hj).2 r hr (Ne.symm h1),Rat.zero_mul]),hx r hr]
 have:=Rat.div_mul_cancel (a:=A r n) (hd r hr).1
 grind
theorem Inj.uniq {n:Nat} {A:Fm} (h:Inj n A) {x y:Nat→Rat} (hx:Sol n A x) (hy:Sol n A y):∀j,j < n→x j=y j:=by
 intro j hj
 have:=h (fun j=>x j - y j) (fun r hr=>by
  have e:rowX n A x r=rowX n A (fun j=>x j - y j) r+rowX n A y r:=by
   unfold rowX
   rw [←sN_add]
   exact sN_congr fun j hj=>by grind
  have h1:=hx r hr
  have h2:=hy r hr
  grind) j hj
 grind
def Tri (n:Nat) (A:Fm) (i:Nat):Prop:=∀c,c < i→A c c≠0∧∀r,r < n→c < r→A r c=0
theorem Tri.part {n i:Nat} {A:Fm} (hd:Tri n A i) (hi:i < n):∀d,d≤i→∃x:Nat→Rat,x i=1∧(∀j,i < j→x j=0)∧∀r,i - d≤r→r < i→rowX n A x r=0
 | 0,_=>⟨fun j=>if j=i then 1 else 0,if_pos rfl,fun j hj=>if_neg (by omega),fun r h1 h2=>by omega⟩
 | d+1,h=>by
  obtain ⟨x,h1,h2,h3⟩:=Tri.part hd hi d (by omega)
  obtain ⟨c,hc⟩:∃c,c=i - (d+1):=⟨_,rfl⟩
  have hci:c < i:=by omega
  refine ⟨fun j=>if j=c then x c - rowX n A x c / A c c else x j,?_,fun j hj=>?_,fun r h4 h5=>?_⟩
  ·show (if i=c then _ else x i)=1
   rw [if_neg (by omega),h1]
  ·show (if j=c then _ else x j)=0
   rw [if_neg (by omega),h2 j hj]
  ·have e:rowX n A (fun j=>if j=c then x c - rowX n A x c / A c c else x j) r=rowX n A x r - A r c*(rowX n A x c / A c c):=by
    unfold rowX
    have:(sN n fun j=>A r j*(if j=c then x c - (sN n fun j=>A c j*x j) / A c c else x j))+(sN n fun j=>if j=c then A r c*((sN n fun j=>A c j*x j) / A c c) else 0)=sN n fun j=>A r j*x j:=by
     rw [←sN_add]
     refine sN_congr fun j hj=>?_
     by_cases e:j=c
     ·subst e;rw [if_pos rfl,if_pos rfl];grind
     ·rw [if_neg e,if_neg e];grind
    rw [sN_delta n c fun _=>A r c*((sN n fun j=>A c j*x j) / A c c),if_pos (by omega)] at this
    grind
   rw [e]
   by_cases hr:r=c
   ·subst hr
    have:=Rat.div_mul_cancel (a:=rowX n A x r) (hd r hci).1
    grind
   ·rw [h3 r (by omega) h5,(hd c hci).2 r (by omega) (by omega)];grind
theorem Tri.pivot {n i:Nat} {A:Fm} (hd:Tri n A i) (hj:Inj n A) (hi:i < n):∃k,i≤k∧k < n∧A k i≠0:=by
 apply Classical.byContradiction
 intro hno
 have h0:∀k,i≤k→k < n→A k i=0:=fun k h1 h2=>Classical.byContradiction fun h3=>hno ⟨k,h1,h2,h3⟩
 obtain ⟨x,h1,h2,h3⟩:=hd.part hi i (Nat.le_refl _)
 have:=hj x (fun r hr=>by
  by_cases hri:r < i
  ·exact h3 r (by omega) hri
  ·unfold rowX
   have:(sN n fun j=>A r j*x j)=sN n fun _=>0:=sN_congr fun j hj=>by
    by_cases e1:j < i
    ·rw [(hd j e1).2 r hr (by omega),Rat.zero_mul]
    ·by_cases e2:j=i
     ·subst e2;rw [h0 r (by omega) hr,Rat.zero_mul]
     ·rw [h2 j (by omega),Rat.mul_zero]
   rw [this,sN_zero]) i hi
 rw [h1] at this
 exact absurd this (by decide)
end Go.V
namespace Go.V
def RowB (t:Nat) (r:List Rat):Prop:=∃E:Nat,E≠0∧bl E < t∧∀q,q∈r→∃z:Int,q*((E:Int):Rat)=(z:Rat)∧bl z.natAbs < t
theorem RowB.mono {t u:Nat} {r:List Rat} (h:RowB t r) (hu:t≤u):RowB u r:=by
 obtain ⟨E,h1,h2,h3⟩:=h
 refine ⟨E,h1,by omega,fun q hq=>?_⟩
 obtain ⟨z,h4,h5⟩:=h3 q hq
 exact ⟨z,h4,by omega⟩
theorem RowB.sz {t:Nat} {r:List Rat} (h:RowB t r) {q:Rat} (hq:q∈r):Go.V.sz q < t:=by
 obtain ⟨E,h1,h2,h3⟩:=h
 obtain ⟨z,hz,h5⟩:=h3 q hq
 have hp:(0:Rat) < ((E:Int):Rat):=by
  have:(0:Int) < (E:Int):=by omega
  exact_mod_cast this
 have e:q=mkRat (sgn (decide (z < 0)) z.natAbs) E:=by
  have h2:=natc E
  have h6:sgn (decide (z < 0)) z.natAbs=z:=by
   unfold sgn
   by_cases h:z < 0
   ·rw [decide_eq_true h,if_pos rfl];omega
   ·rw [decide_eq_false h];simp;omega
  rw [h6,Rat.mkRat_eq_div,←hz,h2,Rat.div_def,Rat.mul_assoc,Rat.mul_inv_cancel _ (Rat.ne_of_gt hp),Rat.mul_one]
 rw [e]
 have:=sz_mkRat (s:=decide (z < 0)) (t:=z.natAbs) h1
 omega
theorem RowB.of_iz {E t:Nat} {r:List Rat} (hE:E≠0) (h1:bl E < t) (M:Nat) (hM:bl (M*E) < t) (h:∀q,q∈r→Iz E q∧-((M:Int):Rat)≤q∧q≤((M:Int):Rat)):RowB t r:=by
 refine ⟨E,hE,h1,fun q hq=>?_⟩
 obtain ⟨⟨z,hz⟩,h2,h3⟩:=h q hq
 refine ⟨z,hz,?_⟩
 have hp:(0:Rat)≤((E:Int):Rat):=by exact_mod_cast (by omega:(0:Int)≤(E:Int))
 have hz1:z≤((M*E:Nat):Int):=by
  have:(z:Rat)≤(((M*E:Nat):Int):Rat):=by
   rw [←hz,Int.natCast_mul,Rat.intCast_mul]
   exact Rat.mul_le_mul_of_nonneg_right h3 hp
  exact_mod_cast this
 have hz2:-((M*E:Nat):Int)≤z:=by
  have:((-((M*E:Nat):Int):Int):Rat)≤(z:Rat):=by
   rw [←hz,Rat.intCast_neg,Int.natCast_mul,Rat.intCast_mul,←Rat.neg_mul]
   exact Rat.mul_le_mul_of_nonneg_right h2 hp
  exact_mod_cast this
 have:=bl_mono (a:=z.natAbs) (b:=M*E) (by omega)
 omega
def subRow (c m:Nat) (f:Rat) (b a:List Rat):List Rat:=(List.range a.length).map fun j=>if c≤j∧j < m then a.getD j 0 - f*b.getD j 0 else a.getD j 0
theorem subRow_len (c m:Nat) (f:Rat) (b a:List Rat):(subRow c m f b a).length=a.length:=by simp [subRow]
theorem subRow_at {c m:Nat} {f:Rat} {b a:List Rat} {j:Nat} (h:j < a.length):(subRow c m f b a).getD j 0=if c≤j∧j < m then a.getD j 0 - f*b.getD j 0 else a.getD j 0:=by
 rw [List.getD_eq_getElem?_getD,List.getElem?_eq_getElem (by rw [subRow_len];exact h)];simp [subRow]
theorem subRow_none {c:Nat} {f:Rat} {b a:List Rat}:subRow c c f b a=a:=by
 apply list_getD_ext (subRow_len _ _ _ _ _)
 intro j hj
 rw [subRow_len] at hj
 rw [subRow_at hj,if_neg (by omega)]
theorem gsetD {α:Type} {xs:List α} {i j:Nat} {x d:α} (hi:i < xs.length):(xs.set i x).getD j d=if j=i then x else xs.getD j d:=by
 rw [List.getD_eq_getElem?_getD,List.getElem?_set]
 by_cases h:i=j
 ·rw [if_pos h,if_pos hi,if_pos h.symm];rfl
 ·rw [if_neg h,if_neg (Ne.symm h),List.getD_eq_getElem?_getD]
theorem subRow_next {c m:Nat} {f:Rat} {b a:List Rat} (hc:c≤m) (hm:m < a.length):(subRow c m f b a).set m (a.getD m 0 - f*b.getD m 0)=subRow c (m+1) f b a:=by
 apply list_getD_ext (by rw [List.length_set,subRow_len,subRow_len])
 intro j hj
 rw [List.length_set,subRow_len] at hj
 rw [gsetD (by rw [subRow_len];exact hm),subRow_at hj,subRow_at hj]
 by_cases h:j=m
 ·subst h;rw [if_pos rfl,if_pos ⟨hc,by omega⟩]
 ·rw [if_neg h]
  by_cases h2:c≤j∧j < m
  ·rw [if_pos h2,if_pos ⟨h2.1,by omega⟩]
  ·rw [if_neg h2,if_neg (by omega)]
theorem RowB.sub {t c m:Nat} {a b:List Rat} (ha:RowB t a) (hb:RowB t b) (hac:c < a.length) (hl:a.length≤b.length) (h0:b.getD c 0≠0):RowB (2*t) (subRow c m (a.getD c 0 / b.getD c 0) b a):=by
 obtain ⟨E,e1,e2,e3⟩:=ha
 obtain ⟨F,f1,f2,f3⟩:=hb
 obtain ⟨y,hy,hyb⟩:=f3 _ (getD_mem (xs:=b) (i:=c) (d:=0) (by omega))
 obtain ⟨x,hx,hxb⟩:=e3 _ (getD_mem (xs:=a) (i:=c) (d:=0) hac)
 have hF:((F:Int):Rat)≠0:=by exact_mod_cast (by omega:(F:Int)≠0)
 have hy0:y≠0:=fun e=>by
  rw [e] at hy
  rcases Rat.mul_eq_zero.1 (show b.getD c 0*((F:Int):Rat)=0 from hy) with h | h
  ·exact h0 h
  ·exact hF h
 have hdiv:=Rat.div_mul_cancel (a:=a.getD c 0) h0
 obtain ⟨f,ef⟩:∃f,a.getD c 0 / b.getD c 0=f:=⟨_,rfl⟩
 rw [ef] at hdiv ⊢
 obtain ⟨s,hs,hs2⟩:∃s:Int,((y.natAbs:Nat):Int)=s*y∧s.natAbs=1:=by
  by_cases h:0≤y
  ·exact ⟨1,by omega,rfl⟩
  ·exact ⟨-1,by omega,rfl⟩
 have bE:=bl_mul E y.natAbs
 refine ⟨E*y.natAbs,Nat.mul_ne_zero e1 (by omega),by omega,fun q hq=>?_⟩
 have eN:(((E*y.natAbs:Nat):Int):Rat)=((E:Int):Rat)*((s:Rat)*(y:Rat)):=by rw [Int.natCast_mul,Rat.intCast_mul,hs,Rat.intCast_mul]
 obtain ⟨j,hj,rfl⟩:=List.mem_map.1 hq
 have hj:j < a.length:=by simpa using hj
 obtain ⟨xj,hxj,hxjb⟩:=e3 _ (getD_mem (xs:=a) (i:=j) (d:=0) hj)
 obtain ⟨yj,hyj,hyjb⟩:=f3 _ (getD_mem (xs:=b) (i:=j) (d:=0) (by omega))
 rw [eN]
 split
 ·refine ⟨s*(xj*y - x*yj),?_,?_⟩
  ·rw [Rat.intCast_mul,Rat.intCast_sub,Rat.intCast_mul,Rat.intCast_mul,←hxj,←hyj,←hx]
   have:f*(y:Rat)=a.getD c 0*((F:Int):Rat):=by rw [←hy,←Rat.mul_assoc,hdiv]
   grind
  ·have h1:(s*(xj*y - x*yj)).natAbs≤xj.natAbs*y.natAbs+x.natAbs*yj.natAbs:=by
    rw [Int.natAbs_mul,hs2,Nat.one_mul]
    have h1:=Int.natAbs_sub_le (xj*y) (x*yj)
    rw [Int.natAbs_mul,Int.natAbs_mul] at h1
    omega
   have h2:=bl_mono h1
   have h3:=bl_add (xj.natAbs*y.natAbs) (x.natAbs*yj.natAbs)
   have h4:=bl_mul xj.natAbs y.natAbs
   have h5:=bl_mul x.natAbs yj.natAbs
   omega
 ·refine ⟨s*(xj*y),?_,?_⟩
  ·rw [Rat.intCast_mul,Rat.intCast_mul,←hxj];grind
  ·rw [Int.natAbs_mul,hs2,Nat.one_mul,Int.natAbs_mul]
   have h4:=bl_mul xj.natAbs y.natAbs
   omega
def lg (p:List Nat) (R:Mt) (r:Nat):List Rat:=R.getD (p.getD r 0) []
def lgF (p:List Nat) (R:Mt):Fm:=fun r j=>(lg p R r).getD j 0
def swapL {α:Type} (d:α) (xs:List α) (i k:Nat):List α:=(xs.set i (xs.getD k d)).set k (xs.getD i d)
theorem swapL_len {α:Type} (d:α) (xs:List α) (i k:Nat):(swapL d xs i k).length=xs.length:=by simp [swapL]
def swF (i k r:Nat):Nat:=if r=k then i else if r=i then k else r
theorem swapL_at {α:Type} {d:α} {xs:List α} {i k r:Nat} (hi:i < xs.length) (hk:k < xs.length):(swapL d xs i k).getD r d=xs.getD (swF i k r) d:=by
 unfold swapL swF
 rw [gsetD (by rw [List.length_set];exact hk),gsetD hi]
 by_cases h1:r=k
 ·rw [if_pos h1,if_pos h1]
 ·rw [if_neg h1,if_neg h1]
  by_cases h2:r=i
  ·rw [if_pos h2,if_pos h2]
  ·rw [if_neg h2,if_neg h2]
theorem swF_lt {n i k r:Nat} (hi:i < n) (hk:k < n) (hr:r < n):swF i k r < n:=by unfold swF;split;exact hi;split;exact hk;exact hr
theorem swF_two (i k r:Nat):swF i k (swF i k r)=r:=by
 unfold swF
 by_cases h1:r=k
 ·rw [if_pos h1]
  by_cases h2:i=k
  ·rw [if_pos h2];omega
  ·rw [if_neg h2,if_pos rfl,h1]
 ·rw [if_neg h1]
  by_cases h2:r=i
  ·rw [if_pos h2,if_pos rfl,h2]
  ·rw [if_neg h2,if_neg h1,if_neg h2]
structure Plc (n w:Nat) (p:List Nat) (R:Mt):Prop where
 pl:p.length=n
 rl:R.length=n
 lt:∀r,r < n→p.getD r 0 < n
 inj:∀r q,r < n→q < n→p.getD r 0=p.getD q 0→r=q
 wd:∀r,r < n→(lg p R r).length=w
theorem Plc.swap {n w:Nat} {p:List Nat} {R:Mt} (h:Plc n w p R) {i k:Nat} (hi:i < n) (hk:k < n):Plc n w (swapL 0 p i k) R:=by
 have e:∀r,(swapL 0 p i k).getD r 0=p.getD (swF i k r) 0:=fun r=>swapL_at (by rw [h.pl];exact hi) (by rw [h.pl];exact hk)
 refine ⟨by rw [swapL_len,h.pl],h.rl,fun r hr=>?_,fun r q hr hq hh=>?_,fun r hr=>?_⟩
 ·rw [e];exact h.lt _ (swF_lt hi hk hr)
 ·rw [e,e] at hh
  have:=h.inj _ _ (swF_lt hi hk hr) (swF_lt hi hk hq) hh
  rw [←swF_two i k r,this,swF_two]
 ·unfold lg;rw [e];exact h.wd _ (swF_lt hi hk hr)
theorem lg_swap {n w:Nat} {p:List Nat} {R:Mt} (h:Plc n w p R) {i k:Nat} (hi:i < n) (hk:k < n) (r:Nat):lg (swapL 0 p i k) R r=lg p R (swF i k r):=by
 unfold lg
 rw [swapL_at (by rw [h.pl];exact hi) (by rw [h.pl];exact hk)]
theorem lg_set {n w:Nat} {p:List Nat} {R:Mt} (h:Plc n w p R) {r q:Nat} {x:List Rat} (hr:r < n) (hq:q < n):lg p (R.set (p.getD r 0) x) q=if q=r then x else lg p R q:=by
 unfold lg
 rw [gsetD (by rw [h.rl];exact h.lt r hr)]
 by_cases e:q=r
 ·subst e;rw [if_pos rfl,if_pos rfl]
 ·rw [if_neg e,if_neg (fun hh=>e (h.inj q r hq hr hh))]
theorem Plc.set {n w:Nat} {p:List Nat} {R:Mt} (h:Plc n w p R) {r:Nat} {x:List Rat} (hr:r < n) (hx:x.length=w):Plc n w p (R.set (p.getD r 0) x) :=
 ⟨h.pl,by rw [List.length_set,h.rl],h.lt,h.inj,fun q hq=>by
  rw [lg_set h hr hq]
  split
  ·exact hx
  ·exact h.wd q hq⟩
def pivF (A:Fm) (c:Nat):Nat→Nat→Nat
 | 0,k=>k
 | f+1,k=>if A k c=0 then pivF A c f (k+1) else k
theorem pivF_next {A:Fm} {c n k:Nat} (h:k < n):pivF A c (n - k) k=if A k c=0 then pivF A c (n - (k+1)) (k+1) else k:=by
 rw [show n - k=(n - (k+1))+1 by omega,pivF]
theorem pivF_is {A:Fm} {c:Nat}:∀(f k:Nat),(∃j,k≤j∧j < k+f∧A j c≠0)→k≤pivF A c f k∧pivF A c f k < k+f∧A (pivF A c f k) c≠0
 | 0,k,⟨j,h1,h2,_⟩=>by omega
 | f+1,k,⟨j,h1,h2,h3⟩=>by
  unfold pivF
  by_cases h:A k c=0
  ·rw [if_pos h]
   have:=pivF_is f (k+1) ⟨j,by rcases Nat.lt_or_eq_of_le h1 with h4 | h4;omega;subst h4;exact absurd h h3,by omega,h3⟩
   exact ⟨by omega,by omega,this.2.2⟩
  ·rw [if_neg h];exact ⟨Nat.le_refl _,by omega,h⟩
def elRow (c:Nat) (sk:Nat→Bool) (b a:List Rat) (r:Nat):List Rat:=if sk r=true∨a.getD c 0=0 then a else subRow c a.length (a.getD c 0 / b.getD c 0) b a
def elimR (p:List Nat) (c:Nat) (sk:Nat→Bool):Nat→Mt→Mt
 | 0,R=>R
 | r+1,R=>(elimR p c sk r R).set (p.getD r 0) (elRow c sk (lg p (elimR p c sk r R) c) (lg p (elimR p c sk r R) r) r)
theorem elRow_len (c:Nat) (sk:Nat→Bool) (b a:List Rat) (r:Nat):(elRow c sk b a r).length=a.length:=by unfold elRow;split;rfl;exact subRow_len _ _ _ _ _
theorem elimR_is {n w c:Nat} {p:List Nat} {R:Mt} {sk:Nat→Bool} (h:Plc n w p R) (hc:c < n) (hs:sk c=true):∀r,r≤n→Plc n w p (elimR p c sk r R)∧∀q,q < n→lg p (elimR p c sk r R) q=if q < r then elRow c sk (lg p R c) (lg p R q) q else lg p R q
 | 0,_=>⟨h,fun q hq=>by rw [if_neg (by omega)];rfl⟩
 | r+1,hr=>by
  obtain ⟨h1,h2⟩:=elimR_is h hc hs r (by omega)
  have ec:lg p (elimR p c sk r R) c=lg p R c:=by
   rw [h2 c hc]
   split
   ·unfold elRow;rw [if_pos (.inl hs)]
   ·rfl
  have er:lg p (elimR p c sk r R) r=lg p R r:=by rw [h2 r (by omega),if_neg (by omega)]
  refine ⟨h1.set (by omega) (by rw [elRow_len,er];exact h.wd r (by omega)),fun q hq=>?_⟩
  show lg p ((elimR p c sk r R).set (p.getD r 0) _) q=_
  rw [lg_set h1 (by omega) hq,ec,er]
  by_cases e:q=r
  ·subst e;rw [if_pos rfl,if_pos (by omega)]
  ·rw [if_neg e,h2 q hq]
   by_cases e2:q < r
   ·rw [if_pos e2,if_pos (by omega)]
   ·rw [if_neg e2,if_neg (by omega)]
def gjN (n:Nat) (sk:Nat→Nat→Bool) (s:List Nat×Mt):Nat→List Nat×Mt
 | 0=>s
 | i+1 =>
  let p:=swapL 0 (gjN n sk s i).1 i (pivF (lgF (gjN n sk s i).1 (gjN n sk s i).2) i (n - i) i)
  (p,elimR p i (sk i) n (gjN n sk s i).2)
theorem elRow_at {c:Nat} {sk:Nat→Bool} {b a:List Rat} {r j w:Nat} (ha:a.length=w) (hj:j < w) (hb:∀j,j < c→b.getD j 0=0) :
  (elRow c sk b a r).getD j 0=a.getD j 0 - (if sk r=true then 0 else a.getD c 0 / b.getD c 0)*b.getD j 0:=by
 unfold elRow
 by_cases h:sk r=true
 ·rw [if_pos (.inl h),if_pos h,Rat.zero_mul];grind
 ·rw [if_neg h]
  by_cases h2:a.getD c 0=0
  ·rw [if_pos (.inr h2),h2,Rat.div_def,Rat.zero_mul,Rat.zero_mul];grind
  ·rw [if_neg (by rintro (h3 | h3);exact h h3;exact h2 h3),subRow_at (by omega)]
   by_cases h3:c≤j∧j < a.length
   ·rw [if_pos h3]
   ·rw [if_neg h3,hb j (by omega),Rat.mul_zero];grind
theorem elim_step {n i k:Nat} {p:List Nat} {R:Mt} {sk:Nat→Bool} (h:Plc n (n+1) p R) (hi:i < n) (hk:k < n) (hs:sk i=true) (h0:lgF p R k i≠0) (hb:∀j,j < i→lgF p R k j=0) :
  Plc n (n+1) (swapL 0 p i k) (elimR (swapL 0 p i k) i sk n R)∧Eqv n (lgF p R) (lgF (swapL 0 p i k) (elimR (swapL 0 p i k) i sk n R)) ∧
   ∀r,r < n→∀j,j≤n→lgF (swapL 0 p i k) (elimR (swapL 0 p i k) i sk n R) r j=lgF p R (swF i k r) j - (if sk r=true then 0 else lgF p R (swF i k r) i / lgF p R k i)*lgF p R k j:=by
 have hp:=h.swap hi hk
 obtain ⟨g1,g2⟩:=elimR_is hp hi hs n (Nat.le_refl _)
 have esw:swF i k i=k:=by unfold swF;by_cases e:i=k;rw [if_pos e];exact e;rw [if_neg e,if_pos rfl]
 have ei:lg (swapL 0 p i k) R i=lg p R k:=by rw [lg_swap h hi hk,esw]
 have hent:∀r,r < n→∀j,j≤n→lgF (swapL 0 p i k) (elimR (swapL 0 p i k) i sk n R) r j=lgF p R (swF i k r) j - (if sk r=true then 0 else lgF p R (swF i k r) i / lgF p R k i)*lgF p R k j:=fun r hr j hj=>by
  unfold lgF
  rw [g2 r hr,if_pos hr,ei,lg_swap h hi hk,elRow_at (w:=n+1) (h.wd _ (swF_lt hi hk hr)) (by omega) hb]
 refine ⟨g1,?_,hent⟩
 have e1:Eqv n (lgF p R) (fun r j=>lgF p R (swF i k r) j):=Eqv.swap (swF i k) (fun r hr=>swF_lt hi hk hr) (fun r _=>swF_two i k r) fun r _ j _=>rfl
 refine e1.trans (Eqv.sub hi (fun r=>if sk r=true then 0 else lgF p R (swF i k r) i / lgF p R k i) (if_pos hs) fun r hr j hj=>?_)
 rw [hent r hr j hj,esw]
theorem RowB.el {t c r:Nat} {sk:Nat→Bool} {a b:List Rat} (ha:RowB t a) (hb:RowB t b) (hac:c < a.length) (hl:a.length≤b.length) (h0:b.getD c 0≠0):RowB (2*t) (elRow c sk b a r):=by
 unfold elRow
 split
 ·exact ha.mono (by omega)
 ·exact ha.sub hb hac hl h0
structure Gj (n t:Nat) (A:Fm) (p:List Nat) (R:Mt) (i:Nat):Prop where
 pl:Plc n (n+1) p R
 eq:Eqv n A (lgF p R)
 dia:Dia n (lgF p R) i
 row:∀r,r < n→RowB (2 ^ i*t) (lg p R r)
abbrev skJ (i r:Nat):Bool:=decide (r=i)
theorem Gj.piv {n t i:Nat} {A:Fm} {p:List Nat} {R:Mt} (h:Gj n t A p R i) (hA:Inj n A) (hi:i < n):i≤pivF (lgF p R) i (n - i) i∧pivF (lgF p R) i (n - i) i < n∧lgF p R (pivF (lgF p R) i (n - i) i) i≠0:=by
 obtain ⟨k,h1,h2,h3⟩:=h.dia.pivot (h.eq.inj hA) hi
 have:=pivF_is (A:=lgF p R) (c:=i) (n - i) i ⟨k,h1,by omega,h3⟩
 exact ⟨this.1,by omega,this.2.2⟩
theorem Gj.next {n t i:Nat} {A:Fm} {p:List Nat} {R:Mt} (h:Gj n t A p R i) (hi:i < n) {k:Nat} (hik:i≤k) (hk:k < n) (h0:lgF p R k i≠0):Gj n t A (swapL 0 p i k) (elimR (swapL 0 p i k) i (skJ i) n R) (i+1):=by
 have hb:∀j,j < i→lgF p R k j=0:=fun j hj=>(h.dia j hj).2 k hk (by omega)
 obtain ⟨g1,g2,g3⟩:=elim_step h.pl hi hk (sk:=skJ i) (decide_eq_true rfl) h0 hb
 refine ⟨g1,h.eq.trans g2,fun c hc=>?_,fun r hr=>?_⟩
 ·by_cases e:c=i
  ·subst e
   refine ⟨?_,fun r hr hne=>?_⟩
   ·rw [g3 c hi c (by omega),if_pos (decide_eq_true rfl)]
    have esw:swF c k c=k:=by unfold swF;by_cases e:c=k;rw [if_pos e];exact e;rw [if_neg e,if_pos rfl]
    rw [esw];grind
   ·rw [g3 r hr c (by omega),if_neg (by rw [decide_eq_true_eq];exact hne)]
    have:=Rat.div_mul_cancel (a:=lgF p R (swF c k r) c) h0
    grind
  ·have hci:c < i:=by omega
   obtain ⟨d1,d2⟩:=h.dia c hci
   have z:∀r,r < n→r≠c→lgF p R (swF i k r) c=0:=fun r hr hne=>d2 _ (swF_lt hi hk hr) (by unfold swF;split;omega;split;omega;exact hne)
   refine ⟨?_,fun r hr hne=>?_⟩
   ·rw [g3 c (by omega) c (by omega),hb c hci,Rat.mul_zero]
    have:swF i k c=c:=by unfold swF;rw [if_neg (by omega),if_neg e]
    rw [this];grind
   ·rw [g3 r hr c (by omega),hb c hci,Rat.mul_zero,z r hr hne];grind
 ·have hp:=h.pl.swap hi hk
  obtain ⟨_,g5⟩:=elimR_is (sk:=skJ i) hp hi (decide_eq_true rfl) n (Nat.le_refl _)
  rw [g5 r hr,if_pos hr,lg_swap h.pl hi hk,lg_swap h.pl hi hk]
  have esw:swF i k i=k:=by unfold swF;by_cases e:i=k;rw [if_pos e];exact e;rw [if_neg e,if_pos rfl]
  rw [esw]
  have w1:=h.pl.wd _ (swF_lt hi hk hr)
  have w2:=h.pl.wd _ hk
  have:=(h.row _ (swF_lt hi hk hr)).el (r:=r) (sk:=skJ i) (h.row _ hk) (c:=i) (by omega) (by omega) h0
  rwa [←Nat.mul_assoc,←Nat.pow_succ'] at this
theorem gjN_ok {n t:Nat} {A:Fm} {s:List Nat×Mt} (h:Gj n t A s.1 s.2 0) (hA:Inj n A):∀i,i≤n→Gj n t A (gjN n skJ s i).1 (gjN n skJ s i).2 i
 | 0,_=>h
 | i+1,hi=>by
  have ih:=gjN_ok h hA i (by omega)
  obtain ⟨h1,h2,h3⟩:=ih.piv hA (by omega)
  exact ih.next (by omega) h1 h2 h3
def gjX (n:Nat) (s:List Nat×Mt):List Rat:=(List.range n).map fun i=>lgF (gjN n skJ s n).1 (gjN n skJ s n).2 i n / lgF (gjN n skJ s n).1 (gjN n skJ s n).2 i i
theorem gjX_len (n:Nat) (s:List Nat×Mt):(gjX n s).length=n:=by simp [gjX]
theorem gjX_at {n:Nat} {s:List Nat×Mt} {i:Nat} (h:i < n):(gjX n s).getD i 0=lgF (gjN n skJ s n).1 (gjN n skJ s n).2 i n / lgF (gjN n skJ s n).1 (gjN n skJ s n).2 i i:=by
 rw [List.getD_eq_getElem?_getD,List.getElem?_eq_getElem (by rw [gjX_len];exact h)];simp [gjX]
theorem gjX_sol {n t:Nat} {A:Fm} {s:List Nat×Mt} (h:Gj n t A s.1 s.2 0) (hA:Inj n A):Sol n A fun i=>(gjX n s).getD i 0 :=
 ((gjN_ok h hA n (Nat.le_refl _)).eq.s _).2 ((gjN_ok h hA n (Nat.le_refl _)).dia.sol fun r hr=>gjX_at hr)
theorem gjX_is {n t:Nat} {A:Fm} {s:List Nat×Mt} (h:Gj n t A s.1 s.2 0) (hA:Inj n A) {x:List Rat} (hl:x.length=n) (hx:Sol n A fun i=>x.getD i 0):gjX n s=x:=by
 apply list_getD_ext (by rw [gjX_len,hl])
 intro i hi
 rw [gjX_len] at hi
 exact hA.uniq (gjX_sol h hA) hx i hi
end Go.V
namespace Go.V
def St (n:Nat) (m:Fm) (w:Nat→Rat):Prop:=∀j,j < n→(sN n fun i=>w i*m i j)=w j
structure Sto (n:Nat) (m:Fm):Prop where
 pos:∀i j,i < n→j < n→0≤m i j
 one:∀i,i < n→sN n (m i)=1
def Cl (n:Nat) (m:Fm) (s:Nat):Prop:=∀T:Nat→Prop,(∃i,i < n∧T i)→(∀i j,i < n→j < n→T i→0 < m i j→T j)→T s
theorem sN_eq_zero {n:Nat} {f:Nat→Rat} (h:∀i,i < n→0≤f i) (h0:sN n f=0):∀i,i < n→f i=0:=by
 intro i hi
 have h1:=sN_one_le hi h
 have h2:=h i hi
 grind
theorem sN_neg (n:Nat) (f:Nat→Rat):(sN n fun i=>-f i) = -sN n f:=by
 have:=sN_mul n (-1) f
 have e:(sN n fun i=>-f i)=sN n fun i=>(-1)*f i:=sN_congr fun i _=>by grind
 rw [e,this];grind
theorem St.abs {n:Nat} {P:Fm} (hP:Sto n P) {w a:Nat→Rat} (hw:St n P w) (ha:∀i,i < n→w i≤a i∧-w i≤a i∧(a i=w i∨a i = -w i)):St n P a:=by
 have hd:∀j,j < n→0≤(sN n fun i=>a i*P i j) - a j:=fun j hj=>by
  have h1:(sN n fun i=>w i*P i j)≤sN n fun i=>a i*P i j:=sN_le fun i hi=>Rat.mul_le_mul_of_nonneg_right (ha i hi).1 (hP.pos i j hi hj)
  have h2:(sN n fun i=>(-w i)*P i j)≤sN n fun i=>a i*P i j:=sN_le fun i hi=>Rat.mul_le_mul_of_nonneg_right (ha i hi).2.1 (hP.pos i j hi hj)
  have h3:(sN n fun i=>(-w i)*P i j) = -(sN n fun i=>w i*P i j):=by
   rw [←sN_neg];exact sN_congr fun i _=>Rat.neg_mul _ _
  have h4:=hw j hj
  rcases (ha j hj).2.2 with h | h <;> rw [h] <;> grind
 have hs:(sN n fun j=>(sN n fun i=>a i*P i j) - a j)=0:=by
  have e1:(sN n fun j=>(sN n fun i=>a i*P i j) - a j)=(sN n fun j=>sN n fun i=>a i*P i j)+sN n fun j=>-a j:=by
   rw [←sN_add];exact sN_congr fun j _=>Rat.sub_eq_add_neg _ _
  rw [e1,←sN_comm,sN_neg]
  have e2:(sN n fun i=>sN n fun j=>a i*P i j)=sN n a:=sN_congr fun i hi=>by rw [sN_mul,hP.one i hi,Rat.mul_one]
  rw [e2];grind
 intro j hj
 have:=sN_eq_zero hd hs j hj
 grind
theorem St.spread {n:Nat} {P:Fm} (hP:Sto n P) {u:Nat→Rat} (hu:St n P u) (h0:∀i,i < n→0≤u i) {i j:Nat} (hi:i < n) (hj:j < n) (h1:0 < u i) (h2:0 < P i j):0 < u j:=by
 rw [←hu j hj]
 have h3:=sN_one_le (f:=fun i=>u i*P i j) hi fun k hk=>Rat.mul_nonneg (h0 k hk) (hP.pos k j hk hj)
 have h4:=Rat.mul_pos h1 h2
 grind
theorem St.add {n:Nat} {P:Fm} {u v:Nat→Rat} (hu:St n P u) (hv:St n P v):St n P fun i=>u i+v i:=fun j hj=>by
 have e:(sN n fun i=>(u i+v i)*P i j)=(sN n fun i=>u i*P i j)+sN n fun i=>v i*P i j:=by
  rw [←sN_add];exact sN_congr fun i _=>Rat.add_mul _ _ _
 rw [e,hu j hj,hv j hj]
theorem St.smul {n:Nat} {P:Fm} {u:Nat→Rat} (hu:St n P u) (c:Rat):St n P fun i=>c*u i:=fun j hj=>by
 have e:(sN n fun i=>c*u i*P i j)=c*sN n fun i=>u i*P i j:=by
  rw [←sN_mul];exact sN_congr fun i _=>Rat.mul_assoc _ _ _
 rw [e,hu j hj]
theorem St.uniq {n s:Nat} {P:Fm} (hP:Sto n P) (hc:Cl n P s) (hs:s < n) {w:Nat→Rat} (hw:St n P w) (h0:sN n w=0):∀i,i < n→w i=0:=by
 have ha:∀i,i < n→w i≤(if w i < 0 then -w i else w i)∧-w i≤(if w i < 0 then -w i else w i)∧((if w i < 0 then -w i else w i)=w i∨(if w i < 0 then -w i else w i) = -w i):=fun i _=>by
  by_cases h:w i < 0
  ·rw [if_pos h];exact ⟨by grind,by grind,.inr rfl⟩
  ·rw [if_neg h];have:=Rat.not_lt.1 h;exact ⟨by grind,by grind,.inl rfl⟩
 obtain ⟨a,ea⟩:∃a:Nat→Rat,a=fun i=>if w i < 0 then -w i else w i:=⟨_,rfl⟩
 have ha:∀i,i < n→w i≤a i∧-w i≤a i∧(a i=w i∨a i = -w i):=by rw [ea];exact ha
 have hA:=hw.abs hP ha
 have hu:=hA.add hw
 have hv:=hA.add (hw.smul (-1))
 have u0:∀i,i < n→0≤a i+w i:=fun i hi=>by have:=(ha i hi).2.1;grind
 have v0:∀i,i < n→0≤a i+(-1)*w i:=fun i hi=>by have:=(ha i hi).1;grind
 by_cases h1:∃i,i < n∧0 < a i+w i
 ·have us:=hc (fun i=>0 < a i+w i) h1 fun i j hi hj h2 h3=>hu.spread hP u0 hi hj h2 h3
  have hz:∀i,i < n→a i+(-1)*w i=0:=fun i hi=>Classical.byContradiction fun hne=>by
   have hp:0 < a i+(-1)*w i:=by have:=v0 i hi;grind
   have vs:=hc (fun i=>0 < a i+(-1)*w i) ⟨i,hi,hp⟩ fun i j hi hj h2 h3=>hv.spread hP v0 hi hj h2 h3
   rcases (ha s hs).2.2 with h | h <;> grind
  exact sN_eq_zero (fun i hi=>by have:=hz i hi;have:=(ha i hi).2.1;grind) h0
 ·have hz:∀i,i < n→a i+w i=0:=fun i hi=>Classical.byContradiction fun hne=>h1 ⟨i,hi,by have:=u0 i hi;grind⟩
  intro i hi
  have h2:sN n (fun i=>-w i)=0:=by rw [sN_neg,h0];grind
  have:=sN_eq_zero (f:=fun i=>-w i) (fun i hi=>by have:=hz i hi;have:=(ha i hi).1;grind) h2 i hi
  grind
def outM (m:Fm) (k:Nat):Rat:=sN k (m k)
def redM (m:Fm) (k:Nat):Fm:=fun i j=>if i < k∧j < k then m i j+m i k / outM m k*m k j else if i < k∧j=k then m i k / outM m k else m i j
theorem Cl.out {k:Nat} {m:Fm} (hm:Sto (k+1) m) (hc:Cl (k+1) m 0) (hk:1≤k):0 < outM m k:=by
 have h0:0≤outM m k:=sN_nonneg fun j hj=>hm.pos k j (by omega) (by omega)
 refine Classical.byContradiction fun hn=>?_
 have hz:outM m k=0:=by grind
 have:=hc (fun i=>i=k) ⟨k,by omega,rfl⟩ fun i j hi hj h1 h2=>by
  subst h1
  refine Classical.byContradiction fun hne=>?_
  have:=sN_eq_zero (fun j hj=>hm.pos i j (by omega) (by omega)) hz j (by omega)
  rw [this] at h2
  exact absurd h2 (by decide)
 omega
theorem Sto.red {k:Nat} {m:Fm} (hm:Sto (k+1) m) (hc:Cl (k+1) m 0) (hk:1≤k):Sto k (redM m k):=by
 have ho:=hc.out hm hk
 have hne:=Rat.ne_of_gt ho
 refine ⟨fun i j hi hj=>?_,fun i hi=>?_⟩
 ·unfold redM
  rw [if_pos ⟨hi,hj⟩]
  have h1:=hm.pos i j (by omega) (by omega)
  have h2:=hm.pos i k (by omega) (by omega)
  have h3:=hm.pos k j (by omega) (by omega)
  have h4:0≤m i k / outM m k:=by rw [Rat.div_def];exact Rat.mul_nonneg h2 (Rat.le_of_lt (Rat.inv_pos.2 ho))
  have h5:=Rat.mul_nonneg h4 h3
  grind
 ·have e:sN k (redM m k i)=sN k fun j=>m i j+m i k / outM m k*m k j:=sN_congr fun j hj=>by unfold redM;rw [if_pos ⟨hi,hj⟩]
  rw [e,sN_add,sN_mul]
  have h1:sN k (fun j=>m k j)=outM m k:=rfl
  rw [h1,Rat.div_mul_cancel hne]
  exact hm.one i (by omega)
theorem Cl.red {k:Nat} {m:Fm} (hm:Sto (k+1) m) (hc:Cl (k+1) m 0) (hk:1≤k):Cl k (redM m k) 0:=by
 have ho:=hc.out hm hk
 intro T ⟨i0,hi0,hT⟩ hcl
 have hge:∀i j,i < k→j < k→0 < m i j→0 < redM m k i j:=fun i j hi hj h=>by
  unfold redM
  rw [if_pos ⟨hi,hj⟩]
  have h2:=hm.pos i k (by omega) (by omega)
  have h3:=hm.pos k j (by omega) (by omega)
  have h4:0≤m i k / outM m k:=by rw [Rat.div_def];exact Rat.mul_nonneg h2 (Rat.le_of_lt (Rat.inv_pos.2 ho))
  have h5:=Rat.mul_nonneg h4 h3
  grind
 have hvia:∀i j,i < k→j < k→0 < m i k→0 < m k j→0 < redM m k i j:=fun i j hi hj h h'=>by
  unfold redM
  rw [if_pos ⟨hi,hj⟩]
  have h1:=hm.pos i j (by omega) (by omega)
  have h4:0 < m i k / outM m k:=by rw [Rat.div_def];exact Rat.mul_pos h (Rat.inv_pos.2 ho)
  have h5:=Rat.mul_pos h4 h'
  grind
 have:=hc (fun i=>(i < k∧T i)∨(i=k∧∃q,q < k∧T q∧0 < m q k)) ⟨i0,by omega,.inl ⟨hi0,hT⟩⟩ fun i j hi hj h1 h2=>by
  rcases h1 with ⟨h3,h4⟩ | ⟨h3,q,h4,h5,h6⟩
  ·by_cases hjk:j < k
   ·exact .inl ⟨hjk,hcl i j h3 hjk h4 (hge i j h3 hjk h2)⟩
   ·have:j=k:=by omega
    subst this
    exact .inr ⟨rfl,i,h3,h4,h2⟩
  ·subst h3
   by_cases hjk:j < i
   ·exact .inl ⟨hjk,hcl q j h4 hjk h5 (hvia q j h4 hjk h6 h2)⟩
   ·have:j=i:=by omega
    exact .inr ⟨this,q,h4,h5,h6⟩
 rcases this with ⟨_,h⟩ | ⟨h,_⟩
 ·exact h
 ·omega
def gthM:Nat→Fm→Fm
 | 0,m=>m
 | k+1,m=>gthM k (redM m (k+1))
theorem gthM_col {c i:Nat}:∀{k:Nat} {m:Fm},k < c→gthM k m i c=m i c
 | 0,_,_=>rfl
 | k+1,m,h=>by
  show gthM k (redM m (k+1)) i c=m i c
  rw [gthM_col (by omega)]
  unfold redM
  rw [if_neg (by omega),if_neg (by omega)]
def wL (M:Fm):Nat→List Rat
 | 0=>[1]
 | k+1=>wL M k++[sN (k+1) fun i=>(wL M k).getD i 0*M i (k+1)]
theorem wL_len (M:Fm):∀k,(wL M k).length=k+1
 | 0=>rfl
 | k+1=>by simp [wL,wL_len M k]
theorem wL_low {M:Fm} {k i:Nat} (h:i≤k):(wL M (k+1)).getD i 0=(wL M k).getD i 0:=by
 show (wL M k++_).getD i 0=_
 rw [List.getD_eq_getElem?_getD,List.getElem?_append_left (by rw [wL_len];omega),List.getD_eq_getElem?_getD]
theorem wL_top {M:Fm} {k:Nat}:(wL M (k+1)).getD (k+1) 0=sN (k+1) fun i=>(wL M k).getD i 0*M i (k+1):=by
 show (wL M k++_).getD (k+1) 0=_
 rw [List.getD_eq_getElem?_getD,List.getElem?_append_right (by rw [wL_len];omega),wL_len]
 simp
theorem gth_st:∀(k:Nat) (m:Fm),Sto (k+1) m→Cl (k+1) m 0→St (k+1) m (fun i=>(wL (gthM k m) k).getD i 0)∧(∀i,i≤k→0≤(wL (gthM k m) k).getD i 0)∧(wL (gthM k m) k).getD 0 0=1
 | 0,m,hm,_=>by
  refine ⟨fun j hj=>?_,fun i hi=>?_,rfl⟩
  ·have:j=0:=by omega
   subst this
   have h1:=hm.one 0 (by omega)
   have h2:sN 1 (m 0)=0+m 0 0:=rfl
   show (0:Rat)+1*m 0 0=1
   grind
  ·have:i=0:=by omega
   subst this
   show (0:Rat)≤1
   decide
 | k+1,m,hm,hc=>by
  have ho:=hc.out hm (by omega)
  have hne:=Rat.ne_of_gt ho
  obtain ⟨h1,h2,h3⟩:=gth_st k (redM m (k+1)) (hm.red hc (by omega)) (hc.red hm (by omega))
  obtain ⟨M,eM⟩:∃M,gthM k (redM m (k+1))=M:=⟨_,rfl⟩
  rw [eM] at h1 h2 h3
  have eM2:gthM (k+1) m=M:=eM
  rw [eM2]
  have hcol:∀i,i < k+1→M i (k+1)=m i (k+1) / outM m (k+1):=fun i hi=>by
   rw [←eM,gthM_col (by omega)]
   unfold redM
   rw [if_neg (by omega),if_pos ⟨hi,rfl⟩]
  obtain ⟨v,ev⟩:∃v:Nat→Rat,(fun i=>(wL M k).getD i 0)=v:=⟨_,rfl⟩
  obtain ⟨x,ex⟩:∃x:Rat,(wL M (k+1)).getD (k+1) 0=x:=⟨_,rfl⟩
  have hv:∀i,(wL M k).getD i 0=v i:=fun i=>by rw [←ev]
  have hw:∀i,i < k+1→(wL M (k+1)).getD i 0=v i:=fun i hi=>by rw [wL_low (by omega),hv]
  have hx:x*outM m (k+1)=sN (k+1) fun i=>v i*m i (k+1):=by
   rw [←ex,wL_top]
   have e:(sN (k+1) fun i=>(wL M k).getD i 0*M i (k+1))=sN (k+1) fun i=>(outM m (k+1))⁻¹*(v i*m i (k+1)):=sN_congr fun i hi=>by
    rw [hcol i hi,hv,Rat.div_def];grind
   rw [e,sN_mul]
   have:=Rat.mul_inv_cancel _ hne
   grind
  rw [ev] at h1
  refine ⟨fun j hj=>?_,fun i hi=>?_,?_⟩
  ·have es:(sN (k+1+1) fun i=>(wL M (k+1)).getD i 0*m i j)=(sN (k+1) fun i=>v i*m i j)+x*m (k+1) j:=by
    show (sN (k+1) fun i=>(wL M (k+1)).getD i 0*m i j)+(wL M (k+1)).getD (k+1) 0*m (k+1) j=_
    rw [ex]
    congr 1
    exact sN_congr fun i hi=>by rw [hw i hi]
   rw [es]
   dsimp only
   by_cases hjk:j < k+1
   ·rw [hw j hjk]
    have h4:=h1 j hjk
    have e5:(sN (k+1) fun i=>v i*redM m (k+1) i j)=(sN (k+1) fun i=>v i*m i j)+x*m (k+1) j:=by
     have:(sN (k+1) fun i=>v i*redM m (k+1) i j)=(sN (k+1) fun i=>v i*m i j)+sN (k+1) fun i=>(m (k+1) j / outM m (k+1))*(v i*m i (k+1)):=by
      rw [←sN_add]
      refine sN_congr fun i hi=>?_
      unfold redM
      rw [if_pos ⟨hi,hjk⟩,Rat.div_def,Rat.div_def];grind
     rw [this,sN_mul,←hx,Rat.div_def]
     have:=Rat.mul_inv_cancel _ hne
     grind
    rw [←e5,h4]
   ·have:j=k+1:=by omega
    subst this
    rw [ex,←hx]
    have h6:=hm.one (k+1) (by omega)
    have h7:sN (k+1+1) (m (k+1))=outM m (k+1)+m (k+1) (k+1):=rfl
    have:x*outM m (k+1)+x*m (k+1) (k+1)=x*(outM m (k+1)+m (k+1) (k+1)):=by grind
    rw [this,←h7,h6,Rat.mul_one]
  ·by_cases hik:i < k+1
   ·rw [hw i hik,←hv];exact h2 i (by omega)
   ·have:i=k+1:=by omega
    subst this
    rw [wL_top]
    refine sN_nonneg fun q hq=>Rat.mul_nonneg (h2 q (by omega)) ?_
    rw [hcol q hq,Rat.div_def]
    exact Rat.mul_nonneg (hm.pos q (k+1) (by omega) (by omega)) (Rat.le_of_lt (Rat.inv_pos.2 ho))
  ·rw [hw 0 (by omega),←hv];exact h3
end Go.V
