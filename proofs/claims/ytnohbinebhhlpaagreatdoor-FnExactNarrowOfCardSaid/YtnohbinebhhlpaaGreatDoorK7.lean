/- Part 7: the abstract machine, its soundness, contracts of functions. -/
import Derived.Test.YtnohbinebhhlpaaGreatDoorK6
import Derived.Test.YtnohbinebhhlpaaGreatDoorK4
set_option linter.unusedVariables false
set_option linter.unusedSimpArgs false
namespace Go.V
def sN:Nat→(Nat→Rat)→Rat
 | 0,_=>0
 | n+1,f=>sN n f+f n
theorem sN_congr {n:Nat} {f g:Nat→Rat} (h:∀i,i < n→f i=g i):sN n f=sN n g:=by
 induction n with
 | zero=>rfl
 | succ n ih=>show sN n f+f n=sN n g+g n;rw [ih fun i hi=>h i (by omega),h n (by omega)]
theorem sN_zero (n:Nat):(sN n fun _=>0)=0:=by
 induction n with
 | zero=>rfl
 | succ n ih=>show sN n _+0=0;rw [ih,Rat.add_zero]
theorem sN_add (n:Nat) (f g:Nat→Rat):(sN n fun i=>f i+g i)=sN n f+sN n g:=by
 induction n with
 | zero=>show (0:Rat)=0+0;rw [Rat.add_zero]
 | succ n ih=>show (sN n fun i=>f i+g i)+(f n+g n)=(sN n f+f n)+(sN n g+g n);rw [ih];grind
theorem sN_mul (n:Nat) (a:Rat) (f:Nat→Rat):(sN n fun i=>a*f i)=a*sN n f:=by
 induction n with
 | zero=>show (0:Rat)=a*0;rw [Rat.mul_zero]
 | succ n ih=>show (sN n fun i=>a*f i)+a*f n=a*(sN n f+f n);rw [ih,Rat.mul_add]
theorem sN_comm (n m:Nat) (f:Nat→Nat→Rat):(sN n fun i=>sN m (f i))=sN m fun j=>sN n fun i=>f i j:=by
 induction n with
 | zero=>exact (sN_zero m).symm
 | succ n ih =>
  show (sN n fun i=>sN m (f i))+sN m (f n)=sN m fun j=>(sN n fun i=>f i j)+f n j
  rw [ih,←sN_add]
theorem sN_nonneg {n:Nat} {f:Nat→Rat} (h:∀i,i < n→0≤f i):0≤sN n f:=by
 induction n with
 | zero=>exact Rat.le_refl
 | succ n ih =>
  have h1:=ih fun i hi=>h i (by omega)
  have h2:=h n (by omega)
  show 0≤sN n f+f n
  grind
theorem sN_le {n:Nat} {f g:Nat→Rat} (h:∀i,i < n→f i≤g i):sN n f≤sN n g:=by
 induction n with
 | zero=>exact Rat.le_refl
 | succ n ih =>
  have h1:=ih fun i hi=>h i (by omega)
  have h2:=h n (by omega)
  show sN n f+f n≤sN n g+g n
  grind
theorem sN_mono {n m:Nat} {f:Nat→Rat} (hm:m≤n) (h:∀i,i < n→0≤f i):sN m f≤sN n f:=by
 induction n with
 | zero=>rw [show m=0 by omega];exact Rat.le_refl
 | succ n ih =>
  by_cases e:m=n+1
  ·subst e;exact Rat.le_refl
  ·have h1:=ih (by omega) fun i hi=>h i (by omega)
   have h2:=h n (by omega)
   show sN m f≤sN n f+f n
   grind
theorem sN_one_le {n k:Nat} {f:Nat→Rat} (hk:k < n) (h:∀i,i < n→0≤f i):f k≤sN n f:=by
 have h1:=sN_mono (m:=k+1) (by omega) h
 have h2:0≤sN k f:=sN_nonneg fun i hi=>h i (by omega)
 have h3:sN (k+1) f=sN k f+f k:=rfl
 grind
theorem sN_delta (n k:Nat) (f:Nat→Rat):(sN n fun i=>if i=k then f i else 0)=if k < n then f k else 0:=by
 induction n with
 | zero=>rfl
 | succ n ih =>
  show (sN n fun i=>if i=k then f i else 0)+(if n=k then f n else 0)=_
  rw [ih]
  by_cases h1:n=k
  ·subst h1;rw [if_neg (by omega),if_pos rfl,if_pos (by omega),Rat.zero_add]
  ·rw [if_neg h1,Rat.add_zero]
   by_cases h2:k < n
   ·rw [if_pos h2,if_pos (by omega)]
   ·rw [if_neg h2,if_neg (by omega)]
theorem sN_const_le {n:Nat} {f:Nat→Rat} {M:Nat} (h:∀i,i < n→f i≤((M:Int):Rat)):sN n f≤(((n*M:Nat):Int):Rat):=by
 induction n with
 | zero=>simp [sN]
 | succ n ih =>
  have h1:=ih fun i hi=>h i (by omega)
  have h2:=h n (by omega)
  show sN n f+f n≤_
  rw [Nat.succ_mul,Int.natCast_add,Rat.intCast_add]
  grind
theorem sN_iz {E n:Nat} {f:Nat→Rat} (h:∀i,i < n→Iz E (f i)):Iz E (sN n f):=by
 induction n with
 | zero=>exact Iz.zero E
 | succ n ih=>exact (ih fun i hi=>h i (by omega)).add (h n (by omega))
end Go.V
namespace Go.V
abbrev Mt:=List (List Rat)
def ent (p:Mt) (i j:Nat):Rat:=(p.getD i []).getD j 0
def stepAt (p:Mt) (w:List Rat) (j k:Nat):Rat:=sN k fun i=>w.getD i 0*ent p i j
def stepQ (p:Mt) (w:List Rat):List Rat:=(List.range w.length).map fun j=>stepAt p w j w.length
theorem stepQ_len (p:Mt) (w:List Rat):(stepQ p w).length=w.length:=by simp [stepQ]
def afterQ (p:Mt):Nat→List Rat→List Rat
 | 0,w=>w
 | k+1,w=>stepQ p (afterQ p k w)
theorem getD_mem {α:Type} {xs:List α} {i:Nat} {d:α} (h:i < xs.length):xs.getD i d∈xs:=by
 rw [gD,List.getElem?_eq_getElem h];exact List.getElem_mem h
structure MtOk (p:Mt):Prop where
 n1:1≤p.length
 n2:p.length≤12
 sq:∀r,r∈p→r.length=p.length
 pos:∀r,r∈p→∀q,q∈r→0≤q
 sz:∀r,r∈p→∀q,q∈r→Go.V.sz q≤800
 one:∀r,r∈p→sN r.length (r.getD · 0)=1
theorem MtOk.ent_mem {p:Mt} (h:MtOk p) {i j:Nat} (hi:i < p.length) (hj:j < p.length):p.getD i []∈p∧ent p i j∈p.getD i []:=by
 have h1:p.getD i []∈p:=getD_mem hi
 exact ⟨h1,getD_mem (by rw [h.sq _ h1];exact hj)⟩
theorem MtOk.ent_pos {p:Mt} (h:MtOk p) {i j:Nat} (hi:i < p.length) (hj:j < p.length):0≤ent p i j:=h.pos _ (h.ent_mem hi hj).1 _ (h.ent_mem hi hj).2
theorem MtOk.ent_sz {p:Mt} (h:MtOk p) {i j:Nat} (hi:i < p.length) (hj:j < p.length):Go.V.sz (ent p i j)≤800:=h.sz _ (h.ent_mem hi hj).1 _ (h.ent_mem hi hj).2
theorem MtOk.row_one {p:Mt} (h:MtOk p) {i:Nat} (hi:i < p.length):sN p.length (ent p i)=1:=by
 have h1:p.getD i []∈p:=getD_mem hi
 have h2:=h.one _ h1
 rw [h.sq _ h1] at h2
 exact h2
theorem MtOk.ent_le {p:Mt} (h:MtOk p) {i j:Nat} (hi:i < p.length) (hj:j < p.length):ent p i j≤1:=by
 rw [←h.row_one hi]
 exact sN_one_le (f:=ent p i) hj fun k hk=>h.ent_pos hi hk
def dM (p:Mt):Nat:=dens p.flatten
theorem dM_pos (p:Mt):dM p≠0:=dens_pos _
theorem flat_len {m:Nat}:∀{p:Mt},(∀r,r∈p→r.length=m)→p.flatten.length=p.length*m
 | [],_=>by simp
 | r :: p,h=>by
  have h1:=flat_len (p:=p) fun r hr=>h r (List.mem_cons_of_mem _ hr)
  rw [List.flatten_cons,List.length_append,h1,h r (by simp),List.length_cons,Nat.succ_mul,Nat.add_comm]
theorem MtOk.dM_bl {p:Mt} (h:MtOk p):bl (dM p)≤115201:=by
 have h1:=dens_bl (xs:=p.flatten) (m:=800) fun q hq=>by
  obtain ⟨r,hr,hq⟩:=List.mem_flatten.1 hq
  exact h.sz r hr q hq
 rw [flat_len h.sq] at h1
 have h2:p.length*p.length≤12*12:=Nat.mul_le_mul h.n2 h.n2
 have h3:p.length*p.length*800≤144*800:=Nat.mul_le_mul_right _ h2
 unfold dM
 omega
theorem MtOk.ent_iz {p:Mt} (h:MtOk p) {i j:Nat} (hi:i < p.length) (hj:j < p.length):Iz (dM p) (ent p i j) :=
 (Iz.den _).of_dvd (dens_dvd (List.mem_flatten.2 ⟨_,(h.ent_mem hi hj).1,(h.ent_mem hi hj).2⟩))
def Wk (n s:Nat) (w:List Rat):Prop:=w.length=n∧∃E M:Nat,E≠0∧bl M+bl E≤s∧∀q,q∈w→0≤q∧q≤((M:Int):Rat)∧Iz E q
theorem Iz.sz2 {E M:Nat} {a:Rat} (h:Iz E a) (hE:E≠0) (h0:0≤a) (h1:a≤((M:Int):Rat)):Go.V.sz a≤bl M+bl E:=by
 have h2:=h.sz hE h0 M h1
 have h3:=bl_mul M E
 omega
theorem Wk.sz {n s:Nat} {w:List Rat} (h:Wk n s w) {q:Rat} (hq:q∈w):Go.V.sz q≤s:=by
 obtain ⟨_,E,M,h1,h2,h3⟩:=h
 obtain ⟨h4,h5,h6⟩:=h3 q hq
 have:=h6.sz2 h1 h4 h5
 omega
theorem Wk.pos {n s:Nat} {w:List Rat} (h:Wk n s w) {q:Rat} (hq:q∈w):0≤q:=by
 obtain ⟨_,E,M,h1,h2,h3⟩:=h
 exact (h3 q hq).1
theorem step_part {p:Mt} (hp:MtOk p) {s:Nat} {w:List Rat} (h:Wk p.length s w) :
  ∃E M:Nat,E≠0∧bl M+bl E≤s+115210∧∀j k,j < p.length→k≤p.length→0≤stepAt p w j k∧stepAt p w j k≤((M:Int):Rat)∧Iz E (stepAt p w j k):=by
 obtain ⟨hl,E,M,h1,h2,h3⟩:=h
 have hb:=hp.dM_bl
 have h12:bl (p.length*M)≤4+bl M:=by
  have h4:=bl_mul p.length M
  have h5:bl p.length≤4:=bl_le (by have:=hp.n2;omega)
  omega
 have h6:=bl_mul E (dM p)
 refine ⟨E*dM p,p.length*M,Nat.mul_ne_zero h1 (dM_pos p),by omega,fun j k hj hk=>?_⟩
 have hm:∀i,i < p.length→0≤w.getD i 0∧w.getD i 0≤((M:Int):Rat)∧Iz E (w.getD i 0):=fun i hi=>h3 _ (getD_mem (by omega))
 have t0:∀i,i < p.length→0≤w.getD i 0*ent p i j:=fun i hi=>Rat.mul_nonneg (hm i hi).1 (hp.ent_pos hi hj)
 refine ⟨sN_nonneg fun i hi=>t0 i (by omega),?_,sN_iz fun i hi=>(hm i (by omega)).2.2.mul (hp.ent_iz (by omega) hj)⟩
 refine Rat.le_trans (sN_mono hk t0) (sN_const_le fun i hi=>?_)
 have h7:=Rat.mul_le_mul_of_nonneg_left (hp.ent_le hi hj) (hm i hi).1
 rw [Rat.mul_one] at h7
 exact Rat.le_trans h7 (hm i hi).2.1
theorem Wk.step {p:Mt} (hp:MtOk p) {s:Nat} {w:List Rat} (h:Wk p.length s w):Wk p.length (s+115210) (stepQ p w):=by
 obtain ⟨E,M,h1,h2,h3⟩:=step_part hp h
 refine ⟨by rw [stepQ_len,h.1],E,M,h1,h2,fun q hq=>?_⟩
 obtain ⟨j,hj,rfl⟩:=List.mem_map.1 hq
 rw [h.1] at hj ⊢
 exact h3 j p.length (by simpa using hj) (Nat.le_refl _)
theorem Wk.after {p:Mt} (hp:MtOk p) {s:Nat} {w:List Rat} (h:Wk p.length s w):∀k,Wk p.length (s+k*115210) (afterQ p k w)
 | 0=>by rw [Nat.zero_mul];exact h
 | k+1=>by
  have:=(Wk.after hp h k).step hp
  rwa [Nat.add_assoc,←Nat.succ_mul] at this
theorem list_getD_ext {xs ys:List Rat} (hl:xs.length=ys.length) (h:∀i,i < xs.length→xs.getD i 0=ys.getD i 0):xs=ys:=by
 apply List.ext_getElem hl
 intro i h1 h2
 have:=h i h1
 rwa [gD,gD,List.getElem?_eq_getElem h1,List.getElem?_eq_getElem h2] at this
end Go.V
namespace Go.V
open Go.Proofs Go.RowKit
set_option maxRecDepth 10000
set_option maxHeartbeats 1000000
theorem fn_sOpp (q:Rat) (hs:sz q≤1000000000000):Fn Tryz.prog 146 [rS q] [] (rS (-q)) []:=by
 have hz:=dg_len_zero b9 (n:=tp q);obtain ⟨h1,h2,h3⟩:=neg_parts q;have e:(decide (0 < ((cW .i64 (dg B9 (tp q))).length:Int)))=decide (tp q≠0):=decide_eq_decide.2 (by rw [cW_len];constructor <;> intro h <;> omega);refine Fn.intro (ks:=[0,1,2]) hty rfl rfl rfl rfl rfl ?_;conv=>whnf
 refine Br.mk (fun h=>?_) (fun h=>?_)
 ·conv=>whnf
  refine ⟨?_,?_,?_,trivial,rfl⟩
  ·rw [e,h1];have h':ng q=false:=by simpa using h
   rw [h'];rfl
  ·rw [h2]
  ·rw [h3]
 ·conv=>whnf
  refine ⟨?_,?_,?_,trivial,rfl⟩
  ·rw [h1];have h':ng q=true:=by simpa using h
   rw [h'];rfl
  ·rw [h2]
  ·rw [h3]
theorem fn_sMinus (p q:Rat) (hs:sz p+sz q≤99999999999):Fn Tryz.prog 129 [rS p,rS q] [] (rS (p - q)) []:=by
 have c1:=fn_sOpp q (by omega)
 have c2:=fn_sSum p (-q) (by rw [sz_neg];exact hs)
 rw [←Rat.sub_eq_add_neg] at c2
 refine Fn.intro (ks:=[0,1,2,3,4]) hty rfl rfl rfl rfl rfl ?_
 conv=>whnf
 refine VDraw.go hmo hty 4 [] rfl ?_
 conv=>whnf
 refine QCall.of_data c1 (ndA fun k=>rfl) ?_
 conv=>whnf
 refine QCall.of_data c2 (ndA fun k=>rfl) ?_
 conv=>whnf
 exact ⟨rfl,rfl,rfl,trivial,rfl⟩
theorem cmpZ_zero' {a b:Nat}:cmpZ a b=0↔a=b:=by
 unfold cmpZ;split
 ·simp;omega
 ·split
  ·simp;omega
  ·simp;omega
theorem fn_sEqual (p q:Rat) (hp:sz p≤10000000000) (hq:sz q≤10000000000):Fn Tryz.prog 118 [rS p,rS q] [] (B (decide (p=q))) []:=by
 have b1:=bl_tp p
 have b2:=bl_den p
 have b3:=bl_tp q
 have b4:=bl_den q
 have k1:=bl_mul (tp p) q.den
 have k2:=bl_mul (tp q) p.den
 have m1:=fn_sMul (tp p) q.den (by omega) (by omega)
 have m2:=fn_sMul (tp q) p.den (by omega) (by omega)
 have cc:=fn_sCmp (tp p*q.den) (tp q*p.den) (by omega) (by omega)
 obtain ⟨c,ec⟩:∃x,cmpZ (tp p*q.den) (tp q*p.den)=x:=⟨_,rfl⟩
 have e:=eq_cross p q
 rw [←cmpZ_zero',ec] at e
 rw [ec] at cc
 refine Fn.intro (ks:=[0,1,2,3,4]) hty rfl rfl rfl rfl rfl ?_
 conv=>whnf
 refine VDraw.go hmo hty 20 [] rfl ?_
 conv=>whnf
 by_cases h:ng p=ng q
 ·rw [show (ng p == ng q)=true by simpa using h]
  conv=>whnf
  refine QCall.of_data m1 (nd _) ?_
  conv=>whnf
  refine QCall.of_data m2 (nd _) ?_
  conv=>whnf
  refine QCall.of_data cc (nd _) ?_
  conv=>whnf
  exact ⟨by rw [decide_eq_decide.2 (show p=q↔c=0 from e.trans ⟨fun x=>x.2,fun x=>⟨h,x⟩⟩)],trivial,rfl⟩
 ·rw [show (ng p == ng q)=false by simpa using h]
  conv=>whnf
  exact ⟨by rw [decide_eq_false (fun x=>h (e.1 x).1)],trivial,rfl⟩
theorem sz_sN {m n:Nat} {f:Nat→Rat} (h:∀i,i < n→sz (f i)≤m):∀k,k≤n→sz (sN k f)≤k*(m+1)+1
 | 0,_=>by show sz (0:Rat)≤_;exact Nat.le_trans (by decide:sz (0:Rat)≤1) (by omega)
 | k+1,hk=>by
  show sz (sN k f+f k)≤_
  have h1:=sz_add (sN k f) (f k)
  have h2:=sz_sN h k (by omega)
  have h3:=h k (by omega)
  have:(k+1)*(m+1)=k*(m+1)+(m+1):=Nat.succ_mul _ _
  omega
theorem psum_sN (xs:List Rat):∀k,psum xs k=sN k (xs.getD · 0)
 | 0=>rfl
 | k+1=>by show psum xs k+_=sN k _+_;rw [psum_sN xs k]
theorem rsum_sN (xs:List Rat):rsum xs=sN xs.length (xs.getD · 0):=psum_sN xs _
end Go.V
namespace Go.V
open Go.Proofs Go.RowKit
set_option maxRecDepth 10000
set_option maxHeartbeats 1000000
theorem ng_lt (q:Rat):ng q=decide (q < 0):=by
 unfold ng
 refine decide_eq_decide.2 ?_
 have h:=Rat.num_nonneg (q:=q)
 rw [←Rat.not_le,←h];omega
theorem sgI_negD (q:Rat):decide (sgI q < 0)=decide (q < 0):=by
 rw [←ng_lt]
 unfold sgI
 by_cases h:tp q=0
 ·rw [if_pos h]
  have:q=0:=tp_zero.1 h
  subst this;rfl
 ·rw [if_neg h]
  cases ng q <;> rfl
def isW (x:List Rat):Bool:=(x.all fun q=>!decide (q < 0)) && decide (rsum x=1)
def wQ (xs:List (List UInt8)):Option (List Rat):=match rdRats xs with
 | none=>none
 | some x=>if isW x then some x else none
theorem fn_weightsOf (xs:List (List UInt8)) (hl:xs.length≤1000000) (hs:∀x,x∈xs→x.length≤1000000):Fn Tryz.prog 203 [lT xs] [] (.tup [lQ ((wQ xs).getD []),B (wQ xs).isSome]) []:=by
 have c1:=fn_rats xs (by omega) (fun x hx=>by have:=hs x hx;omega);refine Fn.intro (ks:=[0,2,3,4,5,22]) hty rfl rfl rfl rfl rfl ?_;cases h:rdRats xs with
 | none =>
  rw [h] at c1;rw [show wQ xs=none by unfold wQ;rw [h]];conv=>whnf
  refine VCall.of_data c1 (ndT fun _=>rfl) ?_;conv=>whnf
  exact ⟨rfl,trivial,rfl⟩
 | some x =>
  obtain ⟨l1,l2,l3⟩:=rdRats_sz h;rw [h] at c1;replace c1:Fn Tryz.prog 230 [lT xs] [] (.tup [lQ x,B true]) []:=c1;have c2:=fn_containsQ 134 (fun q=>decide (sgI q < 0)) x (by omega) (fun q hq=>fn_isMinus q (by have:=l3 q hq;omega));have hm:x.length*801≤300*801:=Nat.mul_le_mul_right _ l1;have c3:=fn_sum x 800 l3 (by decide) (by omega) (by omega);have z3:=sz_psum l3 (by decide) x.length;have c4:=fn_isOne (rsum x) (by show sz (psum x x.length)≤_;omega);have e:(x.any fun q=>decide (sgI q < 0)) = !(x.all fun q=>!decide (q < 0)):=by
   rw [List.not_all_eq_any_not]
   congr 1
   funext q
   rw [Bool.not_not];exact sgI_negD q
  rw [e] at c2;obtain ⟨b1,e1⟩:∃b,(x.all fun q=>!decide (q < 0))=b:=⟨_,rfl⟩;obtain ⟨b2,e2⟩:∃b,decide (rsum x=1)=b:=⟨_,rfl⟩;have hw:wQ xs=if (b1 && b2)=true then some x else none:=by unfold wQ isW;rw [h,←e1,←e2]
  rw [e1] at c2;rw [e2] at c4;rw [hw];conv=>whnf
  refine VCall.of_data c1 (ndT fun _=>rfl) ?_;conv=>whnf
  refine VCall.of_data c2 (nd _) ?_;conv=>whnf
  cases b1 with
  | false =>
   conv=>whnf
   exact ⟨rfl,trivial,rfl⟩
  | true =>
   conv=>whnf
   refine VCall.of_data c3 (ndA fun k=>rfl) ?_;conv=>whnf
   refine VCall.of_data c4 (nd _) ?_;conv=>whnf
   cases b2 with
   | false =>
    conv=>whnf
    exact ⟨rfl,trivial,rfl⟩
   | true =>
    conv=>whnf
    exact ⟨rfl,rfl,trivial,rfl⟩
theorem fn_sWeights (x:List Rat) (hn:x.length≤1000) (hz:∀q,q∈x→sz q≤800):Fn Tryz.prog 169 [lS x] [] (B (isW x)) []:=by
 have c1:=fn_sPositive x (by omega)
 have hm:x.length*801≤1000*801:=Nat.mul_le_mul_right _ hn
 have c2:=fn_sTotal x 800 hz (by decide) (by omega) (by omega)
 have z3:=sz_psum hz (by decide) x.length
 have c3:=fn_sEqual (rsum x) 1 (by show sz (psum x x.length)≤_;omega) (by decide)
 have e:(x.all fun q=>!ng q)=(x.all fun q=>!decide (q < 0)):=by
  congr 1;funext q;rw [ng_lt]
 rw [e] at c1
 refine Fn.intro (ks:=[0,2]) hty rfl rfl rfl rfl rfl ?_
 unfold isW
 conv=>whnf
 refine VCall.of_data c1 (nd _) ?_
 conv=>whnf
 cases (x.all fun q=>!decide (q < 0)) with
 | false =>
  conv=>whnf
  exact ⟨rfl,trivial,rfl⟩
 | true =>
  conv=>whnf
  refine VCall.of_data c2 (ndA fun k=>rfl) ?_
  conv=>whnf
  refine VCall.of_data fn_sOne (ndA fun k=>rfl) ?_
  conv=>whnf
  refine VCall.of_data c3 (nd _) ?_
  conv=>whnf
  exact ⟨rfl,trivial,rfl⟩
def cTT (rows:List (List (List UInt8))):List (List C):=rows.map fun r=>[.sl (cT r)]
def cM (p:Mt):List (List C):=p.map fun r=>[.sl (cQ r)]
def cMS (p:Mt):List (List C):=p.map fun r=>[.sl (cS r)]
theorem cTT_len (p:List (List (List UInt8))):(cTT p).length=p.length:=by simp [cTT]
theorem cM_len (p:Mt):(cM p).length=p.length:=by simp [cM]
theorem cMS_len (p:Mt):(cMS p).length=p.length:=by simp [cMS]
theorem cTT_sz (p:List (List (List UInt8))):∀r,r∈cTT p→r.length=1:=by intro r hr;obtain ⟨n,_,rfl⟩:=List.mem_map.1 hr;rfl
theorem cM_sz (p:Mt):∀r,r∈cM p→r.length=1:=by intro r hr;obtain ⟨n,_,rfl⟩:=List.mem_map.1 hr;rfl
theorem cMS_sz (p:Mt):∀r,r∈cMS p→r.length=1:=by intro r hr;obtain ⟨n,_,rfl⟩:=List.mem_map.1 hr;rfl
theorem cTT_as {p:List (List (List UInt8))} {i:Nat} {x:List (List UInt8)} (h:i < p.length) (e:p.getD i []=x):(cTT p)[i]? = some [.sl (cT x)]:=by
 subst e;rw [gD,List.getElem?_eq_getElem h];simp [cTT,h]
theorem cM_as {p:Mt} {i:Nat} {x:List Rat} (h:i < p.length) (e:p.getD i []=x):(cM p)[i]? = some [.sl (cQ x)]:=by
 subst e;rw [gD,List.getElem?_eq_getElem h];simp [cM,h]
theorem cMS_as {p:Mt} {i:Nat} {x:List Rat} (h:i < p.length) (e:p.getD i []=x):(cMS p)[i]? = some [.sl (cS x)]:=by
 subst e;rw [gD,List.getElem?_eq_getElem h];simp [cMS,h]
theorem cM_append1 (p:Mt) (x:List Rat):cM p++[[.sl (cQ x)]]=cM (p++[x]):=by simp [cM]
theorem cMS_append1 (p:Mt) (x:List Rat):cMS p++[[.sl (cS x)]]=cMS (p++[x]):=by simp [cMS]
abbrev lM (p:Mt):AV:=.d (.sl (cM p))
abbrev chI (rows:List (List (List UInt8))):AV:=.ag [.d (.sl (cTT rows))]
abbrev chP (rows:List (List (List UInt8))):AV:=.pp [.sl (cTT rows)] 0
abbrev mS (p:Mt):AV:=.ag [.d (.sl (cMS p))]
abbrev mP (p:Mt):AV:=.pp [.sl (cMS p)] 0
def rowQ (n:Nat) (r:List (List UInt8)):Option (List Rat):=if r.length=n then wQ r else none
def chainL (n:Nat):List (List (List UInt8))→Option Mt
 | []=>some []
 | r :: rs=>match rowQ n r with
  | none=>none
  | some x=>(chainL n rs).map (x :: ·)
def chainQ (rows:List (List (List UInt8))):Option Mt:=if rows.length < 1∨12 < rows.length then none else chainL rows.length rows
theorem wQ_len {r:List (List UInt8)} {x:List Rat} (h:wQ r=some x):x.length=r.length∧(∀q,q∈x→sz q≤800)∧(∀q,q∈x→0≤q)∧rsum x=1:=by
 unfold wQ at h
 cases h2:rdRats r with
 | none=>rw [h2] at h;cases h
 | some y =>
  rw [h2] at h
  dsimp only at h
  split at h
  ·rename_i hw
   cases h
   obtain ⟨_,l2,l3⟩:=rdRats_sz h2
   unfold isW at hw
   rw [Bool.and_eq_true,List.all_eq_true,decide_eq_true_eq] at hw
   exact ⟨l2,l3,fun q hq=>by have:=hw.1 q hq;simp at this;exact Rat.not_lt.1 this,hw.2⟩
  ·cases h
theorem chainL_ok {n:Nat}:∀{rows:List (List (List UInt8))} {p:Mt},chainL n rows=some p→p.length=rows.length∧∀r,r∈p→r.length=n∧(∀q,q∈r→sz q≤800)∧(∀q,q∈r→0≤q)∧rsum r=1
 | [],p,h=>by cases h;exact ⟨rfl,fun r hr=>(by cases hr)⟩
 | r :: rs,p,h=>by
  unfold chainL at h
  cases h1:rowQ n r with
  | none=>rw [h1] at h;cases h
  | some x =>
   rw [h1] at h
   dsimp only at h
   cases h2:chainL n rs with
   | none=>rw [h2] at h;cases h
   | some q =>
    rw [h2] at h
    cases h
    obtain ⟨g1,g2⟩:=chainL_ok h2
    refine ⟨by simp [g1],fun s hs=>?_⟩
    rcases List.mem_cons.1 hs with rfl | hs
    ·unfold rowQ at h1
     split at h1
     ·rename_i hn
      obtain ⟨w1,w2⟩:=wQ_len h1
      exact ⟨w1.trans hn,w2⟩
     ·cases h1
    ·exact g2 s hs
theorem chainQ_ok {rows:List (List (List UInt8))} {p:Mt} (h:chainQ rows=some p):MtOk p:=by
 unfold chainQ at h
 split at h
 ·cases h
 ·rename_i hn
  obtain ⟨g1,g2⟩:=chainL_ok h
  exact ⟨by omega,by omega,fun r hr=>by rw [(g2 r hr).1,g1],fun r hr=>(g2 r hr).2.2.1,fun r hr=>(g2 r hr).2.1,fun r hr=>by rw [←rsum_sN];exact (g2 r hr).2.2.2⟩
theorem chainL_step {n:Nat} {rows:List (List (List UInt8))} {i:Nat} {acc:Mt} {r:List (List UInt8)} (h:i < rows.length) (er:rows.getD i []=r) (hI:chainL n rows=(chainL n (rows.drop i)).map (acc ++ ·)) :
  (rowQ n r=none→chainL n rows=none)∧∀x,rowQ n r=some x→chainL n rows=(chainL n (rows.drop (i+1))).map ((acc++[x]) ++ ·):=by
 have e:rows.drop i=r :: rows.drop (i+1):=by
  rw [List.drop_eq_getElem_cons h,←er,gD,List.getElem?_eq_getElem h];rfl
 rw [e] at hI
 refine ⟨fun hn=>by rw [hI,chainL,hn];rfl,fun x hx=>?_⟩
 rw [hI,chainL,hx]
 dsimp only
 cases chainL n (rows.drop (i+1)) with
 | none=>rfl
 | some q=>simp
theorem fn_chainOf (rows:List (List (List UInt8))) (hl:rows.length≤1000000) (hr:∀r,r∈rows→r.length≤1000000) (hs:∀r,r∈rows→∀x,x∈r→x.length≤1000000) :
  Fn Tryz.prog 173 [chI rows] [] (.tup [lM ((chainQ rows).getD []),B (chainQ rows).isSome]) []:=by
 have hz:((cTT rows).length:Int)=rows.length:=by rw [cTT_len]
 refine Fn.intro (ks:=[0,1,2,3,4,6,7,8,18,21,22,23,24,41]) hty rfl rfl rfl rfl rfl ?_;conv=>whnf
 rw [hz];refine Br.mk (fun h=>?_) (fun h=>?_)
 ·have h:rows.length < 1:=by simp only [decide_eq_true_eq] at h;omega
  rw [show chainQ rows=none by unfold chainQ;rw [if_pos (.inl h)]];conv=>whnf
  exact ⟨rfl,trivial,rfl⟩
 ·have h1:¬rows.length < 1:=by simp only [decide_eq_false_iff_not] at h;omega
  conv=>whnf
  rw [hz];refine Br.mk (fun h=>?_) (fun h=>?_)
  ·have h:12 < rows.length:=by simp only [decide_eq_true_eq] at h;omega
   rw [show chainQ rows=none by unfold chainQ;rw [if_pos (.inr h)]];conv=>whnf
   exact ⟨rfl,trivial,rfl⟩
  ·have h2:¬12 < rows.length:=by simp only [decide_eq_false_iff_not] at h;omega
   have hq:chainQ rows=chainL rows.length rows:=by unfold chainQ;rw [if_neg (by omega)]
   rw [hq];conv=>whnf
   refine VLoop.ren 19 45 rfl ?_;refine VLoop.inv hty (S:=Mt×Nat) (fun x=>[(23,I x.2),(22,I rows.length),(21,.d (.sl (cTT rows))),(4,.ls 45 0 x.2 1),(1,.lp 1 0)]) (fun x=>[(45,.row true 1 (cM x.1)),(1,.box true [.d (.sl (cTT rows))])])
    (fun x=>x.2≤rows.length∧x.1.length=x.2∧chainL rows.length rows=(chainL rows.length (rows.drop x.2)).map (x.1 ++ ·)) (fun x=>rows.length - x.2) ([],0) ⟨Nat.zero_le _,rfl,by rw [List.drop_zero];cases chainL rows.length rows <;> simp⟩
    ⟨rfl,congrArg I hz,rfl,rfl,rfl,trivial⟩ ⟨rfl,rfl,trivial⟩ ?_
   intro x hx;obtain ⟨g1,g2,g3⟩:=hx;conv=>whnf
   refine Br.mk (fun h=>?_) (fun h=>?_)
   ·have h:x.2 < rows.length:=by simp only [decide_eq_true_eq] at h;omega
    obtain ⟨r,er⟩:∃r,rows.getD x.2 []=r:=⟨_,rfl⟩;have hm:r∈rows:=by rw [←er];exact getD_mem h
    have c1:=fn_weightsOf r (hr r hm) (hs r hm);obtain ⟨s1,s2⟩:=chainL_step h er g3;conv=>whnf
    refine ⟨⟨⟨by omega,by rw [cTT_len];omega⟩,cTT_sz _⟩,?_⟩;conv=>whnf
    refine ⟨_,cTT_as h er,?_⟩;conv=>whnf
    cases hw:wQ r with
    | none =>
     rw [hw] at c1;refine VCall.of_data c1 (ndT fun _=>rfl) ?_;conv=>whnf
     rw [s1 (by unfold rowQ;rw [hw,ite_self])];exact ⟨rfl,trivial,rfl⟩
    | some y =>
     have hy:=(wQ_len hw).1;rw [hw] at c1;replace c1:Fn Tryz.prog 203 [lT r] [] (.tup [lQ y,B true]) []:=c1;refine VCall.of_data c1 (ndT fun _=>rfl) ?_;conv=>whnf
     rw [hz,cQ_len];by_cases he:y.length=rows.length
     ·rw [decide_eq_true (show (y.length:Int)=rows.length by omega)];conv=>whnf
      refine Sub.full rfl ?_;conv=>whnf
      refine Sub.full (by rw [cM_len,g2]) ?_;conv=>whnf
      refine ⟨by show (x.2+1)*24≤_;omega,?_⟩;conv=>whnf
      refine Wr.i64 (y:=((x.2+1:Nat):Int)) rfl (by omega) (by omega) ?_;conv=>whnf
      refine ⟨(x.1++[y],x.2+1),⟨h,by simp [g2],s2 y (by unfold rowQ;rw [if_pos (by omega),hw])⟩,by show rows.length - (x.2+1) < rows.length - x.2;omega,⟨rfl,rfl,rfl,rfl,rfl,trivial⟩,?_,rfl,trivial⟩;show Ob.row true 1 (cM x.1++_)=_;rw [cM_append1]
     ·rw [decide_eq_false (show ¬(y.length:Int)=rows.length by omega)];rw [s1 (by unfold rowQ;rw [if_neg (by omega)])];conv=>whnf
      exact ⟨rfl,trivial,rfl⟩
   ·have h:x.2=rows.length:=by simp only [decide_eq_false_iff_not] at h;omega
    rw [g3,h,List.drop_length];conv=>whnf
    refine ⟨⟨rfl,by rw [cM_len,g2];omega,?_⟩,rfl,trivial,rfl⟩;rw [List.drop_zero,List.take_of_length_le (by rw [cM_len,g2];omega)];show cM x.1=cM (x.1++[]);rw [List.append_nil]
end Go.V
namespace Go.V
open Go.Proofs Go.RowKit
set_option maxRecDepth 10000
set_option maxHeartbeats 1000000
def parL:Mt→LL
 | []=>[(5,.box true [.d (.s (.slice none 0 0))]),(2,.box true [.d (.s (.slice none 0 0))])]
 | y :: ys=>[(200,.row true 1 (cMS (y :: ys))),(5,.box true [.ls 200 0 (ys.length+1) 1]),(2,.box true [.d (.s (.slice none 0 0))])]
theorem fn_l03Parse (rows:List (List (List UInt8))) (hl:rows.length≤1000000) (hr:∀r,r∈rows→r.length≤1000000) (hs:∀r,r∈rows→∀x,x∈r→x.length≤1000000) :
  Fn Tryz.prog 100 [chP rows] [] (.tup [mS ((chainQ rows).getD []),B (chainQ rows).isSome]) []:=by
 have hz:((cTT rows).length:Int)=rows.length:=by rw [cTT_len]
 refine Fn.intro (ks:=[0,2,3,4,5,6,7,8,19,26,27,28,39,58]) hty rfl rfl rfl rfl rfl ?_;conv=>whnf
 rw [hz];refine Br.mk (fun h=>?_) (fun h=>?_)
 ·have h:rows.length < 1:=by simp only [decide_eq_true_eq] at h;omega
  rw [show chainQ rows=none by unfold chainQ;rw [if_pos (.inl h)]];conv=>whnf
  exact ⟨rfl,trivial,rfl⟩
 ·have h1:¬rows.length < 1:=by simp only [decide_eq_false_iff_not] at h;omega
  refine Br.mk (fun h=>?_) (fun h=>?_)
  ·have h:12 < rows.length:=by simp only [decide_eq_true_eq] at h;omega
   rw [show chainQ rows=none by unfold chainQ;rw [if_pos (.inr h)]];conv=>whnf
   exact ⟨rfl,trivial,rfl⟩
  ·have h2:¬12 < rows.length:=by simp only [decide_eq_false_iff_not] at h;omega
   have hq:chainQ rows=chainL rows.length rows:=by unfold chainQ;rw [if_neg (by omega)]
   rw [hq];conv=>whnf
   refine VLoop.invR hty (S:=Mt) [(64,200)] (fun acc=>[(27,I acc.length),(26,I rows.length),(5,.lp 5 0),(4,I rows.length),(2,.lp 2 0),(0,chP rows)]) parL
    (fun acc=>acc.length≤rows.length∧chainL rows.length rows=(chainL rows.length (rows.drop acc.length)).map (acc ++ ·)) (fun acc=>rows.length - acc.length) [] ⟨Nat.zero_le _,by show chainL rows.length rows=_;rw [List.length_nil,List.drop_zero];cases chainL rows.length rows <;> simp⟩
    ⟨rfl,congrArg I hz,rfl,rfl,rfl,rfl,trivial⟩ ⟨rfl,rfl,trivial⟩ ?_
   intro acc hx;obtain ⟨g1,g3⟩:=hx;obtain ⟨r,er⟩:∃r,rows.getD acc.length []=r:=⟨_,rfl⟩;cases acc with
   | nil =>
    conv=>whnf
    refine Br.mk (fun h=>?_) (fun h=>?_)
    ·have h:(([]:Mt)).length < rows.length:=by simp only [decide_eq_true_eq] at h;exact Int.ofNat_lt.1 h
     obtain ⟨s1,s2⟩:=chainL_step (r:=r) h er g3;have hm:r∈rows:=by rw [←er];exact getD_mem h
     have c1:=fn_sList r (by have:=hr r hm;omega) (fun x hx=>by have:=hs r hm x hx;omega);conv=>whnf
     refine ⟨⟨⟨by omega,by rw [cTT_len];omega⟩,cTT_sz _⟩,?_⟩;conv=>whnf
     refine ⟨_,cTT_as h er,?_⟩;conv=>whnf
     rw [cT_len];by_cases he:r.length=rows.length
     ·rw [decide_eq_true (show (r.length:Int)=rows.length by omega)];conv=>whnf
      refine ⟨⟨⟨by omega,by rw [cTT_len];omega⟩,cTT_sz _⟩,?_⟩;conv=>whnf
      refine ⟨_,cTT_as h er,?_⟩;conv=>whnf
      cases hw:rdRats r with
      | none =>
       rw [hw] at c1;have e0:=s1 (by unfold rowQ wQ;rw [hw,ite_self]);refine VCall.of_data c1 (ndT fun _=>rfl) ?_;conv=>whnf
       rw [e0];exact ⟨rfl,trivial,rfl⟩
      | some z =>
       obtain ⟨w1,w2,w3⟩:=rdRats_sz hw;rw [hw] at c1;replace c1:Fn Tryz.prog 168 [lT r] [] (.tup [lS z,B true]) []:=c1;have c2:=fn_sWeights z (by omega) w3;refine VCall.of_data c1 (ndT fun _=>rfl) ?_;conv=>whnf
       refine VCall.of_data c2 (nd _) ?_;conv=>whnf
       cases hi:isW z with
       | false =>
        have e0:=s1 (by unfold rowQ wQ;rw [hw];simp [hi]);rw [e0];conv=>whnf
        exact ⟨rfl,trivial,rfl⟩
       | true =>
        have e0:=s2 z (by unfold rowQ wQ;rw [hw];simp [hi,he]);conv=>whnf
        refine Sub.full rfl ?_;conv=>whnf
        refine ⟨by show 1*24≤_;omega,?_⟩;conv=>whnf
        refine Wr.i64 (y:=(((([]:Mt)).length+1:Nat):Int)) rfl (by omega) (by omega) ?_;conv=>whnf
        refine ⟨([]:Mt)++[z],⟨by simp at h ⊢;omega,by rw [show (([]:Mt)++[z]).length=(([]:Mt)).length+1 by simp];exact e0⟩,by simp at h ⊢;omega,rfl,?_⟩;conv=>whnf
        refine ⟨⟨?_,rfl,rfl,rfl,rfl,rfl,trivial⟩,?_⟩
        ·show I _=I _;simp
        ·refine ⟨?_,?_,rfl,trivial⟩
         ·first | rfl | (show Ob.row true 1 (cMS _++_)=_;rw [cMS_append1];rfl)
         ·show Ob.box true [.ls 200 0 _ 1]=Ob.box true [.ls 200 0 _ 1];simp
     ·rw [decide_eq_false (show ¬(r.length:Int)=rows.length by omega)];have e0:=s1 (by unfold rowQ;rw [if_neg he]);rw [e0];conv=>whnf
      exact ⟨rfl,trivial,rfl⟩
    ·have h:rows.length=0:=by simp only [decide_eq_false_iff_not] at h;have h:¬(0:Int) < rows.length:=h;omega
     omega
   | cons y ys =>
    conv=>whnf
    refine Br.mk (fun h=>?_) (fun h=>?_)
    ·have h:((y :: ys)).length < rows.length:=by simp only [decide_eq_true_eq] at h;exact Int.ofNat_lt.1 h
     obtain ⟨s1,s2⟩:=chainL_step (r:=r) h er g3;have hm:r∈rows:=by rw [←er];exact getD_mem h
     have c1:=fn_sList r (by have:=hr r hm;omega) (fun x hx=>by have:=hs r hm x hx;omega);conv=>whnf
     refine ⟨⟨⟨by omega,by rw [cTT_len];omega⟩,cTT_sz _⟩,?_⟩;conv=>whnf
     refine ⟨_,cTT_as h er,?_⟩;conv=>whnf
     rw [cT_len];by_cases he:r.length=rows.length
     ·rw [decide_eq_true (show (r.length:Int)=rows.length by omega)];conv=>whnf
      refine ⟨⟨⟨by omega,by rw [cTT_len];omega⟩,cTT_sz _⟩,?_⟩;conv=>whnf
      refine ⟨_,cTT_as h er,?_⟩;conv=>whnf
      cases hw:rdRats r with
      | none =>
       rw [hw] at c1;have e0:=s1 (by unfold rowQ wQ;rw [hw,ite_self]);refine VCall.of_data c1 (ndT fun _=>rfl) ?_;conv=>whnf
       rw [e0];exact ⟨rfl,trivial,rfl⟩
      | some z =>
       obtain ⟨w1,w2,w3⟩:=rdRats_sz hw;rw [hw] at c1;replace c1:Fn Tryz.prog 168 [lT r] [] (.tup [lS z,B true]) []:=c1;have c2:=fn_sWeights z (by omega) w3;refine VCall.of_data c1 (ndT fun _=>rfl) ?_;conv=>whnf
       refine VCall.of_data c2 (nd _) ?_;conv=>whnf
       cases hi:isW z with
       | false =>
        have e0:=s1 (by unfold rowQ wQ;rw [hw];simp [hi]);rw [e0];conv=>whnf
        exact ⟨rfl,trivial,rfl⟩
       | true =>
        have e0:=s2 z (by unfold rowQ wQ;rw [hw];simp [hi,he]);conv=>whnf
        refine Sub.full rfl ?_;conv=>whnf
        refine Sub.full (by rw [cMS_len];rfl) ?_;conv=>whnf
        refine ⟨by show (ys.length+1+1)*24≤_;have:ys.length+1≤rows.length:=g1;omega,?_⟩;conv=>whnf
        refine Wr.i64 (y:=((((y :: ys)).length+1:Nat):Int)) rfl (by omega) (by omega) ?_;conv=>whnf
        refine ⟨(y :: ys)++[z],⟨by simp at h ⊢;omega,by rw [show ((y :: ys)++[z]).length=((y :: ys)).length+1 by simp];exact e0⟩,by simp at h ⊢;omega,rfl,?_⟩;conv=>whnf
        refine ⟨⟨?_,rfl,rfl,rfl,rfl,rfl,trivial⟩,?_⟩
        ·show I _=I _;simp
        ·refine ⟨?_,?_,rfl,trivial⟩
         ·first | rfl | (show Ob.row true 1 (cMS _++_)=_;rw [cMS_append1];rfl)
         ·show Ob.box true [.ls 200 0 _ 1]=Ob.box true [.ls 200 0 _ 1];simp
     ·rw [decide_eq_false (show ¬(r.length:Int)=rows.length by omega)];have e0:=s1 (by unfold rowQ;rw [if_neg he]);rw [e0];conv=>whnf
      exact ⟨rfl,trivial,rfl⟩
    ·have h:(y :: ys).length=rows.length:=by simp only [decide_eq_false_iff_not] at h;have h:¬((y :: ys).length:Int) < rows.length:=h;omega
     rw [h,List.drop_length] at g3;rw [g3];conv=>whnf
     refine ⟨⟨rfl,by rw [cMS_len];simp,?_⟩,rfl,trivial,rfl⟩;rw [List.drop_zero,List.take_of_length_le (by rw [cMS_len];simp)];show cMS (y :: ys)=cMS ((y :: ys)++[]);rw [List.append_nil]
end Go.V
namespace Go.V
open Go.Proofs Go.RowKit
set_option maxRecDepth 10000
set_option maxHeartbeats 1000000
structure MtSz (p:Mt) (m:Nat):Prop where
 n1:1≤p.length
 n2:p.length≤12
 sq:∀r,r∈p→r.length=p.length
 sz:∀r,r∈p→∀q,q∈r→Go.V.sz q≤m
theorem MtSz.ent_sz {p:Mt} {m:Nat} (h:MtSz p m) {i j:Nat} (hi:i < p.length) (hj:j < p.length):Go.V.sz (ent p i j)≤m:=by
 have h1:p.getD i []∈p:=getD_mem hi
 exact h.sz _ h1 _ (getD_mem (by rw [h.sq _ h1];exact hj))
theorem MtSz.len {p:Mt} {m:Nat} (h:MtSz p m) {i:Nat} (hi:i < p.length):(p.getD i []).length=p.length:=h.sq _ (getD_mem hi)
end Go.V
namespace Go.V
open Go.Proofs Go.RowKit
set_option maxRecDepth 10000
set_option maxHeartbeats 1000000
end Go.V
namespace Go.V
open Go.Proofs Go.RowKit
set_option maxRecDepth 10000
set_option maxHeartbeats 1000000
structure ChIn (rows:List (List (List UInt8))):Prop where
 l:rows.length≤1000000
 r:∀r,r∈rows→r.length≤1000000
 s:∀r,r∈rows→∀x,x∈r→x.length≤1000000
theorem inB (n a b:Int):(decide (a≤n) && decide (n≤b))=decide (a≤n∧n≤b):=by simp
end Go.V
namespace Go.V
open Go.Proofs Go.RowKit
set_option maxRecDepth 10000
set_option maxHeartbeats 1000000
abbrev Tss:=List (List (List UInt8))
theorem drop_cons_getD1 {xs:Tss} {i:Nat} {r:List (List UInt8)} (h:i < xs.length) (e:xs.getD i []=r):xs.drop i=r :: xs.drop (i+1):=by
 rw [List.drop_eq_getElem_cons h,←e,gD,List.getElem?_eq_getElem h];rfl
def szR:Int→Tss→Int
 | n,[]=>n
 | n,r :: rs=>if szTT n r < 0 then -1 else szR (szTT n r) rs
def szRR (n:Int) (rows:Tss):Int:=if n - rows.length < 0 then -1 else szR (n - rows.length) rows
theorem szR_fits:∀{rows:Tss} {n:Int},0≤n→0≤szR n rows→szR n rows≤n∧∀r,r∈rows→(r.length:Int)≤n∧∀x,x∈r→(x.length:Int)≤n
 | [],n,_,h=>⟨Int.le_refl n,fun r hr=>(by cases hr)⟩
 | r :: rs,n,h0,h=>by
  unfold szR at h ⊢
  split at h
  ·omega
  ·rename_i hc
   rw [if_neg hc]
   have h1:=szTT_fits (n:=n) (xs:=r) (by omega)
   have h2:=szTT_le (xs:=r) (n:=n) (by omega)
   obtain ⟨g1,g2⟩:=szR_fits (rows:=rs) (by omega) h
   refine ⟨by omega,fun s hs=>?_⟩
   rcases List.mem_cons.1 hs with rfl | hs
   ·exact ⟨h1.1,h1.2⟩
   ·obtain ⟨u1,u2⟩:=g2 s hs
    exact ⟨by omega,fun x hx=>by have:=u2 x hx;omega⟩
theorem szRR_in {rows:Tss} {n:Int} (h:0≤szRR n rows) (hn:n≤1000000):ChIn rows:=by
 unfold szRR at h
 split at h
 ·omega
 ·obtain ⟨g1,g2⟩:=szR_fits (by omega) h
  exact ⟨by omega,fun r hr=>by have:=(g2 r hr).1;omega,fun r hr x hx=>by have:=(g2 r hr).2 x hx;omega⟩
theorem fn_szSS (rows:Tss) (n:Int) (hl:rows.length≤281474976710656) (hr:∀r,r∈rows→r.length≤281474976710656) (hs:∀r,r∈rows→∀x,x∈r→x.length≤281474976710656) (hn:n≤1000000) (hn0:-281474976710656≤n) :
  Fn Tryz.prog 99 [.d (.sl (cTT rows)),I n] [] (I (szRR n rows)) []:=by
 refine Fn.intro (ks:=[0,1,4,5,11,15,25]) hty rfl rfl rfl rfl rfl ?_;conv=>whnf
 rw [cTT_len];refine Wr.fit (wrap_i64 (by omega) (by omega)) ?_;conv=>whnf
 unfold szRR;refine Br.mk (fun h=>?_) (fun h=>?_)
 ·have h:n - rows.length < 0:=by simpa using h
  conv=>whnf
  refine ⟨?_,trivial,rfl⟩;rw [if_pos h]
 ·have h:¬n - (rows.length:Int) < 0:=by simpa using h
  rw [if_neg h];conv=>whnf
  obtain ⟨m0,e0⟩:∃m0,n - (rows.length:Int)=m0:=⟨_,rfl⟩;rw [e0] at h ⊢;refine VLoop.inv hty (S:=Nat×Int) (fun s=>[(5,I s.1),(1,I s.2),(0,.d (.sl (cTT rows)))]) (fun _=>[]) (fun s=>s.1≤rows.length∧0≤s.2∧s.2≤n∧szR s.2 (rows.drop s.1)=szR m0 rows) (fun s=>rows.length - s.1) (0,m0)
   ⟨Nat.zero_le _,by omega,by omega,rfl⟩ ⟨rfl,rfl,rfl,trivial⟩ trivial ?_
  rintro s ⟨hk,h0,h1,hp⟩;conv=>whnf
  rw [cTT_len];refine Br.mk (fun h=>?_) (fun h=>?_)
  ·have hk':s.1 < rows.length:=by simp at h;omega
   obtain ⟨r,er⟩:∃r,rows.getD s.1 []=r:=⟨_,rfl⟩;have hm:r∈rows:=by rw [←er];exact getD_mem hk'
   have c1:=fn_szT r s.2 (hr r hm) (hs r hm) (by omega) (by omega);have hle:=szTT_le (xs:=r) (n:=s.2) (by omega);rw [drop_cons_getD1 hk' er,szR] at hp;obtain ⟨m1,e1⟩:∃m1,szTT s.2 r=m1:=⟨_,rfl⟩;rw [e1] at c1 hle hp;conv=>whnf
   refine ⟨⟨⟨by omega,by rw [cTT_len];omega⟩,cTT_sz _⟩,?_⟩;conv=>whnf
   refine ⟨_,cTT_as hk' er,?_⟩;conv=>whnf
   refine VCall.of_data c1 (nd _) ?_;conv=>whnf
   refine Br.mk (fun h=>?_) (fun h=>?_)
   ·have h:m1 < 0:=by simpa using h
    rw [if_pos h] at hp;conv=>whnf
    exact ⟨by rw [←hp],trivial,rfl⟩
   ·have h:¬m1 < 0:=by simpa using h
    rw [if_neg h] at hp;conv=>whnf
    refine Wr.fit (wrap_i64 (by omega) (by omega)) ?_;conv=>whnf
    exact ⟨(s.1+1,m1),⟨by omega,by omega,by omega,hp⟩,by omega,⟨rfl,rfl,rfl,trivial⟩,trivial⟩
  ·have hk':s.1=rows.length:=by simp at h;omega
   conv=>whnf
   refine ⟨?_,trivial,rfl⟩;rw [←hp,hk',List.drop_length,szR]
theorem fn_szChain (rows:Tss) (n:Int) (hl:rows.length≤281474976710656) (hr:∀r,r∈rows→r.length≤281474976710656) (hs:∀r,r∈rows→∀x,x∈r→x.length≤281474976710656) (hn:n≤1000000) (hn0:-281474976710656≤n) :
  Fn Tryz.prog 43 [chI rows,I n] [] (I (szRR n rows)) []:=by
 have c:=fn_szSS rows n hl hr hs hn hn0;have hd:szRR n rows < 0→szRR n rows = -1:=by
  unfold szRR;split
  ·intro _;rfl
  ·intro h;have key:∀(rs:Tss) (m:Int),0≤m→szR m rs < 0→szR m rs = -1:=by
    intro rs;induction rs with
    | nil=>intro m h0 h;unfold szR at h;omega
    | cons r rs ih =>
     intro m h0 h;unfold szR at h ⊢;split at h
     ·rename_i hc;rw [if_pos hc]
     ·rename_i hc;rw [if_neg hc];exact ih _ (by omega) h
   exact key _ _ (by omega) h
 generalize szRR n rows=m at c hd ⊢;refine Fn.intro (ks:=[0,1,2,4,10]) hty rfl rfl rfl rfl rfl ?_;conv=>whnf
 refine VCall.of_data c (nd _) ?_;conv=>whnf
 refine Br.mk (fun h=>?_) (fun h=>?_)
 ·have h:m < 0:=by simpa using h
  rw [hd h];conv=>whnf
  exact ⟨rfl,trivial,rfl⟩
 ·conv=>whnf
  exact ⟨rfl,trivial,rfl⟩
def ixF:Nat→List Nat→List MC
 | _,[]=>[]
 | k,n :: ns=>.r k 0 n :: ixF (k+1) ns
theorem ixF_len:∀(k:Nat) (ns:List Nat),(ixF k ns).length=ns.length
 | _,[]=>rfl
 | k,n :: ns=>by simp [ixF,ixF_len (k+1) ns]
theorem ixF_snoc:∀(k:Nat) (ns:List Nat) (n:Nat),ixF k (ns++[n])=ixF k ns++[.r (k+ns.length) 0 n]
 | k,[],n=>rfl
 | k,a :: ns,n=>by
  show MC.r k 0 a :: ixF (k+1) (ns++[n])=_
  rw [ixF_snoc (k+1) ns n]
  show _=(MC.r k 0 a :: ixF (k+1) ns)++[.r (k+(ns.length+1)) 0 n]
  rw [show k+1+ns.length=k+(ns.length+1) by omega];rfl
theorem ixF_get:∀{k:Nat} {ns:List Nat} {i n:Nat},i < ns.length→ns.getD i 0=n→(ixF k ns)[i]? = some (.r (k+i) 0 n)
 | k,a :: ns,0,n,_,e=>by simp at e;subst e;rfl
 | k,a :: ns,i+1,n,h,e=>by
  show (ixF (k+1) ns)[i]? = _
  rw [ixF_get (by simpa using h) (by simpa using e),show k+1+i=k+(i+1) by omega]
theorem ixF_append:∀(k:Nat) (ns ms:List Nat),ixF k (ns++ms)=ixF k ns++ixF (k+ns.length) ms
 | k,[],ms=>rfl
 | k,a :: ns,ms=>by
  show MC.r k 0 a :: ixF (k+1) (ns++ms)=_
  rw [ixF_append (k+1) ns ms,show k+1+ns.length=k+(ns.length+1) by omega];rfl
theorem put_rep {α:Type} (A:List α) (m:Nat) (x y:α):(A++List.replicate (m+1) x).set A.length y=(A++[y])++List.replicate m x:=by
 rw [List.set_append_right _ _ (Nat.le_refl _),Nat.sub_self,List.replicate_succ,List.set_cons_zero];simp
abbrev nilM:MC:=.d (.s (.slice none 0 0))
def spR:List (List UInt8):=[spT]
def allR (rows:Tss):Tss:=rows.map withRoomT++List.replicate (room rows.length) spR
def lensR (rows:Tss):List Nat:=rows.map List.length++List.replicate (room rows.length) 1
theorem allR_len (rows:Tss):(allR rows).length=rows.length+room rows.length:=by simp [allR]
theorem lensR_len (rows:Tss):(lensR rows).length=rows.length+room rows.length:=by simp [lensR]
theorem spare_step (IX:List MC) (b j m:Nat) (h:j < m):((IX++ixF b (List.replicate j 1))++List.replicate (m - j) nilM).set (IX.length+j) (.r (b+j) 0 1)=(IX++ixF b (List.replicate (j+1) 1))++List.replicate (m - (j+1)) nilM:=by
 have e:=put_rep (IX++ixF b (List.replicate j 1)) (m - (j+1)) nilM (.r (b+j) 0 1)
 rw [List.length_append,ixF_len,List.length_replicate,show m - (j+1)+1=m - j by omega] at e
 rw [e,List.replicate_succ',ixF_snoc,List.length_replicate,List.append_assoc IX]
theorem matD_data (R:List (List (List C))) (cs:List C):matD R (cs.map MC.d)=cs.map fun c=>[c]:=by
 induction cs with
 | nil=>rfl
 | cons c cs ih=>show [c] :: matD R (cs.map MC.d)=_;rw [ih];rfl
theorem matD_append (R:List (List (List C))) (a b:List MC):matD R (a++b)=matD R a++matD R b:=by
 induction a with
 | nil=>rfl
 | cons c cs ih=>cases c <;> (show _ :: matD R (cs++b)=_;rw [ih];rfl)
theorem fn_toSS (rows:Tss) (hi:ChIn rows):Fn Tryz.prog 107 [.d (.sl (cTT rows)),B false] [] (.ls 0 0 rows.length 1) [(0,.mat 1 (ixF 0 (lensR rows)) ((allR rows).map cT))]:=by
 have hl:=hi.l;unfold allR lensR;have hr:=room_le rows.length;generalize hm:room rows.length=m at hr;have c1:=fn_room rows.length hi.l;rw [hm] at c1;refine Fn.intro (ks:=[0,1,4,5,6,7,13,24,41]) hty rfl rfl rfl rfl rfl ?_;conv=>whnf
 rw [cTT_len];refine VCall.of_data c1 (nd _) ?_;conv=>whnf
 refine Wr.i64 (y:=((rows.length+m:Nat):Int)) rfl (by omega) (by have:=hi.l;omega) ?_;conv=>whnf
 refine ⟨⟨by omega,by omega,by show ((rows.length+m:Nat):Int)*((24:Nat):Int)≤_;have:=hi.l;omega,by have:=hi.l;omega⟩,?_⟩;conv=>whnf
 refine VLoop.toMat 20 1 (cs:=List.replicate (rows.length+m) (.s (.slice none 0 0))) (by rw [List.map_replicate];rfl) rfl ?_;refine VLoop.inv hty (S:=Nat) (fun k=>[(6,I k),(5,.ls 20 0 (rows.length+m) 1),(1,B false),(0,.d (.sl (cTT rows)))])
  (fun k=>[(20,.mat 1 (ixF 0 ((rows.take k).map List.length)++List.replicate (rows.length+m - k) nilM) ((rows.take k).map fun r=>cT (withRoomT r)))])
  (fun k=>k≤rows.length) (fun k=>rows.length - k) 0 (Nat.zero_le _) ⟨rfl,rfl,rfl,rfl,trivial⟩ ⟨by show Ob.mat 1 (List.map MC.d _) []=Ob.mat 1 _ _;rw [List.map_replicate];rfl,trivial⟩ ?_
 intro k hk;conv=>whnf
 rw [cTT_len];refine Br.mk (fun h=>?_) (fun h=>?_)
 ·have h:k < rows.length:=by simp only [decide_eq_true_eq] at h;omega
  obtain ⟨r,er⟩:∃r,rows.getD k []=r:=⟨_,rfl⟩;have hmr:r∈rows:=by rw [←er];exact getD_mem h
  have ct:=fn_toT r false (.inl rfl) (hi.r r hmr);have et:rows.take (k+1)=rows.take k++[r]:=by rw [List.take_succ_eq_append_getElem h,←er,gD,List.getElem?_eq_getElem h];rfl
  have hA:(ixF 0 ((rows.take k).map List.length)).length=k:=by rw [ixF_len,List.length_map,List.length_take];omega
  have hB:((rows.take k).map fun r=>cT (withRoomT r)).length=k:=by rw [List.length_map,List.length_take];omega
  conv=>whnf
  refine ⟨⟨⟨by omega,by rw [cTT_len];omega⟩,cTT_sz _⟩,?_⟩;conv=>whnf
  refine ⟨_,cTT_as h er,?_⟩;conv=>whnf
  refine VCall.of_ls (k:=34) ct rfl ?_;conv=>whnf
  refine ⟨by omega,?_⟩;conv=>whnf
  refine ⟨by show k+0 < (ixF 0 ((rows.take k).map List.length)++List.replicate (rows.length+m - k) nilM).length;rw [List.length_append,hA,List.length_replicate];omega,?_⟩;conv=>whnf
  refine Wr.i64 (y:=((k+1:Nat):Int)) (by omega) (by omega) (by omega) ?_;conv=>whnf
  refine ⟨k+1,h,by show rows.length - (k+1) < rows.length - k;omega,⟨rfl,rfl,rfl,rfl,trivial⟩,?_,trivial⟩;have e1:=put_rep (ixF 0 ((rows.take k).map List.length)) (rows.length+m - (k+1)) nilM (.r k 0 r.length);rw [hA,show rows.length+m - (k+1)+1=rows.length+m - k by omega] at e1;show Ob.mat 1 (List.set _ _ (MC.r (List.length _) 0 r.length)) (_++[cT (withRoomT r)])=Ob.mat 1 _ _;rw [et,List.map_append,List.map_append];show Ob.mat 1 (List.set _ _ (MC.r (List.length _) 0 r.length)) (_++[cT (withRoomT r)])=Ob.mat 1 (ixF 0 (_++[r.length])++_) (_++[cT (withRoomT r)]);rw [hB,ixF_snoc,List.length_map,List.length_take,show 0+min k rows.length=k by omega]
  congr 1
 ·have h:k=rows.length:=by simp only [decide_eq_false_iff_not] at h;omega
  subst h;rw [List.take_length,show rows.length+m - rows.length=m by omega];conv=>whnf
  obtain ⟨IX,eIX⟩:∃z,ixF 0 (rows.map List.length)=z:=⟨_,rfl⟩;obtain ⟨R0,eR⟩:∃z,(rows.map fun r=>cT (withRoomT r))=z:=⟨_,rfl⟩;have hR0:R0.length=rows.length:=by rw [←eR,List.length_map]
  rw [eIX,eR];have hbase:(IX).length=rows.length:=by rw [←eIX,ixF_len,List.length_map]
  rw [cTT_len];refine VLoop.inv hty (S:=Nat) (fun j=>[(7,I ((rows.length+j:Nat):Int)),(5,.ls 20 0 (rows.length+m) 1),(0,.d (.sl (cTT rows)))])
   (fun j=>[(20,.mat 1 ((IX++ixF (R0).length (List.replicate j 1))++List.replicate (m - j) nilM) (R0++List.replicate j (cT spR)))])
   (fun j=>j≤m) (fun j=>m - j) 0 (Nat.zero_le _) ⟨rfl,rfl,rfl,trivial⟩ ⟨?_,trivial⟩ ?_
  ·show Ob.mat 1 _ _=Ob.mat 1 _ _;simp [ixF]
  intro j hj;conv=>whnf
  refine Br.mk (fun h=>?_) (fun h=>?_)
  ·have h:j < m:=by simp only [decide_eq_true_eq] at h;omega
   have hA:(IX++ixF (R0).length (List.replicate j 1)).length=rows.length+j:=by rw [List.length_append,hbase,ixF_len,List.length_replicate]
   conv=>whnf
   refine ⟨by omega,?_⟩;conv=>whnf
   refine ⟨by show (rows.length+j)+0 < ((IX++ixF (R0).length (List.replicate j 1))++List.replicate (m - j) nilM).length;rw [List.length_append,hA,List.length_replicate];omega,?_⟩;conv=>whnf
   refine Wr.i64 (y:=((rows.length+(j+1):Nat):Int)) (by omega) (by omega) (by omega) ?_;conv=>whnf
   refine ⟨j+1,h,by show m - (j+1) < m - j;omega,⟨rfl,rfl,rfl,trivial⟩,?_,trivial⟩;have e1:=spare_step (IX) (R0).length j m h;rw [hbase] at e1;show Ob.mat 1 (List.set _ _ (MC.r _ 0 1)) (_++[cT spR])=Ob.mat 1 _ _
   congr 1
   ·rw [List.length_append,List.length_replicate];exact e1
   ·rw [List.append_assoc,←List.replicate_succ']
  ·have h:j=m:=by simp only [decide_eq_false_iff_not] at h;omega
   subst h;conv=>whnf
   rw [cTT_len];refine ⟨⟨by omega,by omega,by show rows.length+0≤((IX++ixF (R0).length (List.replicate j 1))++List.replicate (j - j) nilM).length;rw [List.length_append,List.length_append,hbase];omega⟩,?_⟩;conv=>whnf
   refine ⟨⟨rfl,rfl,rfl,by omega,rfl⟩,[],?_,trivial,rfl⟩;rw [show j - j=0 by omega];show [(0,Ob.mat 1 _ _)]=[(0,Ob.mat 1 _ _)]
   congr 3
   ·rw [ixF_append,eIX,List.length_map,hR0,Nat.zero_add,List.replicate_zero,List.append_nil]
   ·rw [List.map_append,List.map_map,List.map_replicate,←eR];rfl
theorem fn_toSSd (rows:Tss) (b:Bool) (hi:ChIn rows):Fn Tryz.prog 107 [.d (.sl (cTT rows)),B b] [] (.d (.sl (cTT rows))) []:=by
 have hl:=hi.l;by_cases hb:b=true∧rows=[]
 ·obtain ⟨rfl,rfl⟩:=hb;refine Fn.intro (ks:=[0,1,4,5,6,7,13,24,41]) hty rfl rfl rfl rfl rfl ?_;conv=>whnf
  exact ⟨trivial,rfl⟩
 ·
  have hr:=room_le rows.length;generalize hm:room rows.length=m at hr;have c1:=fn_room rows.length hi.l;rw [hm] at c1;refine Fn.intro (ks:=[0,1,4,5,6,7,13,24,41]) hty rfl rfl rfl rfl rfl ?_;cases b
  case' true =>
   conv=>whnf
   refine Br.mk (fun h=>absurd h ?_) (fun _=>?_)
   ·rw [cTT_len];have:¬rows=[]:=fun e=>hb ⟨rfl,e⟩;have:=List.length_pos_iff.2 this;simp;omega
  all_goals
   clear hb;conv=>whnf
   rw [cTT_len];refine VCall.of_data c1 (nd _) ?_;conv=>whnf
   refine Wr.i64 (y:=((rows.length+m:Nat):Int)) rfl (by omega) (by have:=hi.l;omega) ?_;conv=>whnf
   refine ⟨⟨by omega,by omega,by show ((rows.length+m:Nat):Int)*((24:Nat):Int)≤_;have:=hi.l;omega,by have:=hi.l;omega⟩,?_⟩;conv=>whnf
   refine VLoop.toMat 20 1 (cs:=List.replicate (rows.length+m) (.s (.slice none 0 0))) (by rw [List.map_replicate];rfl) rfl ?_;refine VLoop.inv hty (S:=Nat) (fun k=>[(6,I k),(5,.ls 20 0 (rows.length+m) 1),(1,B _),(0,.d (.sl (cTT rows)))])
    (fun k=>[(20,.mat 1 (((rows.take k).map fun r=>MC.d (.sl (cT r)))++List.replicate (rows.length+m - k) nilM) [])])
    (fun k=>k≤rows.length) (fun k=>rows.length - k) 0 (Nat.zero_le _) ⟨rfl,rfl,rfl,rfl,trivial⟩ ⟨by show Ob.mat 1 (List.map MC.d _) []=Ob.mat 1 _ _;rw [List.map_replicate];rfl,trivial⟩ ?_
   intro k hk;conv=>whnf
   rw [cTT_len];refine Br.mk (fun h=>?_) (fun h=>?_)
   ·have h:k < rows.length:=by simp only [decide_eq_true_eq] at h;omega
    obtain ⟨r,er⟩:∃r,rows.getD k []=r:=⟨_,rfl⟩;have hmr:r∈rows:=by rw [←er];exact getD_mem h
    have ct:=fun b=>fn_toTd r b (hi.r r hmr);have et:rows.take (k+1)=rows.take k++[r]:=by rw [List.take_succ_eq_append_getElem h,←er,gD,List.getElem?_eq_getElem h];rfl
    have hA:((rows.take k).map fun r=>MC.d (.sl (cT r))).length=k:=by rw [List.length_map,List.length_take];omega
    conv=>whnf
    refine ⟨⟨⟨by omega,by rw [cTT_len];omega⟩,cTT_sz _⟩,?_⟩;conv=>whnf
    refine ⟨_,cTT_as h er,?_⟩;conv=>whnf
    refine VCall.of_data (ct _) (nd _) ?_;conv=>whnf
    refine ⟨by omega,?_⟩;conv=>whnf
    refine ⟨by show k+0 < (((rows.take k).map fun r=>MC.d (.sl (cT r)))++List.replicate (rows.length+m - k) nilM).length;rw [List.length_append,hA,List.length_replicate];omega,?_⟩;conv=>whnf
    refine Wr.i64 (y:=((k+1:Nat):Int)) (by omega) (by omega) (by omega) ?_;conv=>whnf
    refine ⟨k+1,h,by show rows.length - (k+1) < rows.length - k;omega,⟨rfl,rfl,rfl,rfl,trivial⟩,?_,trivial⟩;have e1:=put_rep ((rows.take k).map fun r=>MC.d (.sl (cT r))) (rows.length+m - (k+1)) nilM (.d (.sl (cT r)));rw [hA,show rows.length+m - (k+1)+1=rows.length+m - k by omega] at e1;show Ob.mat 1 (List.set _ _ (MC.d (.sl (cT r)))) []=Ob.mat 1 _ [];rw [et,List.map_append]
    congr 1
   ·have h:k=rows.length:=by simp only [decide_eq_false_iff_not] at h;omega
    subst h;rw [List.take_length,show rows.length+m - rows.length=m by omega];conv=>whnf
    obtain ⟨IX,eIX⟩:∃z,(rows.map fun r=>MC.d (.sl (cT r)))=z:=⟨_,rfl⟩;rw [eIX];have hbase:(IX).length=rows.length:=by rw [←eIX,List.length_map]
    rw [cTT_len];refine VLoop.inv hty (S:=Nat) (fun j=>[(7,I ((rows.length+j:Nat):Int)),(5,.ls 20 0 (rows.length+m) 1),(0,.d (.sl (cTT rows)))])
     (fun j=>[(20,.mat 1 ((IX++ixF (([]:List (List (List C)))).length (List.replicate j 1))++List.replicate (m - j) nilM) (([]:List (List (List C)))++List.replicate j (cT spR)))])
     (fun j=>j≤m) (fun j=>m - j) 0 (Nat.zero_le _) ⟨rfl,rfl,rfl,trivial⟩ ⟨?_,trivial⟩ ?_
    ·show Ob.mat 1 _ _=Ob.mat 1 _ _;simp [ixF]
    intro j hj;conv=>whnf
    refine Br.mk (fun h=>?_) (fun h=>?_)
    ·have h:j < m:=by simp only [decide_eq_true_eq] at h;omega
     have hA:(IX++ixF (([]:List (List (List C)))).length (List.replicate j 1)).length=rows.length+j:=by rw [List.length_append,hbase,ixF_len,List.length_replicate]
     conv=>whnf
     refine ⟨by omega,?_⟩;conv=>whnf
     refine ⟨by show (rows.length+j)+0 < ((IX++ixF (([]:List (List (List C)))).length (List.replicate j 1))++List.replicate (m - j) nilM).length;rw [List.length_append,hA,List.length_replicate];omega,?_⟩;conv=>whnf
     refine Wr.i64 (y:=((rows.length+(j+1):Nat):Int)) (by omega) (by omega) (by omega) ?_;conv=>whnf
     refine ⟨j+1,h,by show m - (j+1) < m - j;omega,⟨rfl,rfl,rfl,trivial⟩,?_,trivial⟩;have e1:=spare_step (IX) (([]:List (List (List C)))).length j m h;rw [hbase] at e1;show Ob.mat 1 (List.set _ _ (MC.r _ 0 1)) (_++[cT spR])=Ob.mat 1 _ _
     congr 1
     ·rw [List.length_append,List.length_replicate];exact e1
     ·rw [List.append_assoc,←List.replicate_succ']
    ·have h:j=m:=by simp only [decide_eq_false_iff_not] at h;omega
     subst h;conv=>whnf
     rw [cTT_len];refine ⟨⟨by omega,by omega,by show rows.length+0≤((IX++ixF (([]:List (List (List C)))).length (List.replicate j 1))++List.replicate (j - j) nilM).length;rw [List.length_append,List.length_append,hbase];omega⟩,?_⟩;conv=>whnf
     refine ⟨⟨rfl,?_,?_,?_⟩,trivial,rfl⟩
     ·show rows.length+0≤List.length _;rw [List.length_append,List.length_append,hbase];omega
     ·intro i lo n hmem;rw [show j - j=0 by omega,List.replicate_zero,List.append_nil,←eIX] at hmem;rcases List.mem_append.1 hmem with hmem | hmem
      ·obtain ⟨r,_,hr⟩:=List.mem_map.1 hmem;cases hr
      ·obtain ⟨q,hq,hg⟩:=List.mem_iff_getElem.1 hmem;rw [ixF_len,List.length_replicate] at hq;have:=ixF_get (k:=([]:List (List (List C))).length) (ns:=List.replicate j 1) (i:=q) (n:=1) (by rw [List.length_replicate];exact hq) (by rw [gD,List.getElem?_replicate,if_pos hq];rfl);rw [List.getElem?_eq_getElem (by rw [ixF_len,List.length_replicate];exact hq),hg] at this;cases this;show 1+0≤_;rw [gD,List.nil_append,List.getElem?_replicate,if_pos (by simpa using hq)];decide
     ·show List.take ((rows.length:Int) - 0).toNat (matD _ _)=_;rw [show ((rows.length:Int) - 0).toNat=rows.length by omega,matD_append,matD_append,←eIX];rw [show (rows.map fun r=>MC.d (.sl (cT r)))=(rows.map fun r=>C.sl (cT r)).map MC.d by rw [List.map_map];rfl,matD_data,List.append_assoc,List.take_append_of_le_length (by rw [List.length_map,List.length_map];exact Nat.le_refl _),List.take_of_length_le (by rw [List.length_map,List.length_map];exact Nat.le_refl _),List.map_map]
      rfl
end Go.V
namespace Go.V
open Go.Proofs Go.RowKit
set_option maxRecDepth 10000
set_option maxHeartbeats 1000000
theorem fn_eqSS (xs ys:Tss) (hl:xs.length≤3000000) (hl':ys.length≤3000000) (hr:∀r,r∈xs→r.length≤3000000) (hr':∀r,r∈ys→r.length≤3000000) :
  Fn Tryz.prog 75 [.d (.sl (cTT xs)),.d (.sl (cTT ys))] [] (B (decide (xs=ys))) []:=by
 refine Fn.intro (ks:=[0,1,4,5,10,14,26]) hty rfl rfl rfl rfl rfl ?_;conv=>whnf
 rw [cTT_len,cTT_len];refine Br.mk (fun h=>?_) (fun h=>?_)
 ·have h:¬xs.length=ys.length:=by simp at h;omega
  conv=>whnf
  refine ⟨?_,trivial,rfl⟩;rw [decide_eq_false fun e=>h (by rw [e])]
 ·have hxy:xs.length=ys.length:=by simp at h;omega
  conv=>whnf
  refine VLoop.inv hty (S:=Nat) (fun k=>[(5,I k),(1,.d (.sl (cTT ys))),(0,.d (.sl (cTT xs)))]) (fun _=>[]) (fun k=>k≤xs.length∧xs.take k=ys.take k) (fun k=>xs.length - k) 0 ⟨Nat.zero_le _,rfl⟩
   ⟨rfl,rfl,rfl,trivial⟩ trivial ?_
  rintro k ⟨hk,hp⟩;conv=>whnf
  rw [cTT_len];refine Br.mk (fun h=>?_) (fun h=>?_)
  ·have hk':k < xs.length:=by simp at h;omega
   obtain ⟨x,ex⟩:∃x,xs.getD k []=x:=⟨_,rfl⟩;obtain ⟨y,ey⟩:∃y,ys.getD k []=y:=⟨_,rfl⟩;have ex':xs[k]=x:=by rw [←ex,gD,List.getElem?_eq_getElem hk'];rfl
   have ey':ys[k]'(by omega)=y:=by rw [←ey,gD,List.getElem?_eq_getElem (by omega)];rfl
   have c:=fn_eqS x y (hr x (by rw [←ex];exact getD_mem hk')) (hr' y (by rw [←ey];exact getD_mem (by omega)));conv=>whnf
   refine VDraw.go hmo hty 10 [] rfl ?_;conv=>whnf
   refine ⟨⟨⟨by omega,by rw [cTT_len];omega⟩,cTT_sz _⟩,?_⟩;conv=>whnf
   refine ⟨_,cTT_as hk' ex,?_⟩;conv=>whnf
   refine ⟨⟨⟨by omega,by rw [cTT_len];omega⟩,cTT_sz _⟩,?_⟩;conv=>whnf
   refine ⟨_,cTT_as (by omega) ey,?_⟩;conv=>whnf
   refine QCall.of_data c (nd _) ?_;conv=>whnf
   by_cases h2:x=y
   ·rw [decide_eq_true h2];conv=>whnf
    refine Wr.fit (wrap_i64 (by omega) (by omega)) ?_;conv=>whnf
    refine ⟨k+1,⟨hk',?_⟩,by omega,⟨rfl,rfl,rfl,trivial⟩,trivial⟩;rw [List.take_succ_eq_append_getElem hk',List.take_succ_eq_append_getElem (by omega),hp,ex',ey',h2]
   ·rw [decide_eq_false h2];conv=>whnf
    refine ⟨?_,trivial,rfl⟩;rw [decide_eq_false fun e=>h2 (by subst e;exact ex.symm.trans ey)]
  ·have hk':k=xs.length:=by simp at h;omega
   conv=>whnf
   refine ⟨?_,trivial,rfl⟩;subst hk';rw [List.take_length,List.take_of_length_le (by omega)] at hp;rw [decide_eq_true hp]
theorem matD_ixF (R:List (List (List C))):∀(k:Nat) (ns:List Nat) (vis:Tss),ns.length=vis.length→(∀i,i < ns.length→((R.getD (k+i) []).drop 0).take (ns.getD i 0)=cT (vis.getD i []))→matD R (ixF k ns)=cTT vis
 | k,[],[],_,_=>rfl
 | k,[],_ :: _,h,_=>by simp at h
 | k,_ :: _,[],h,_=>by simp at h
 | k,n :: ns,v :: vis,h,hi=>by
  have h0:=hi 0 (by simp)
  have ih:=matD_ixF R (k+1) ns vis (by simpa using h) fun i hh=>by
   have:=hi (i+1) (by simp;omega)
   rw [show k+1+i=k+(i+1) by omega]
   simpa using this
  show [C.sl (((R.getD k []).drop 0).take n)] :: matD R (ixF (k+1) ns)=[C.sl (cT v)] :: cTT vis
  rw [ih]
  have h0':((R.getD k []).drop 0).take n=cT v:=h0
  rw [h0']
theorem ixF_mem:∀{k:Nat} {ns:List Nat} {i lo n:Nat},MC.r i lo n∈ixF k ns→lo=0∧k≤i∧i - k < ns.length∧n=ns.getD (i - k) 0
 | k,[],i,lo,n,h=>by cases h
 | k,a :: ns,i,lo,n,h=>by
  rcases List.mem_cons.1 h with h | h
  ·cases h;exact ⟨rfl,Nat.le_refl _,by simp,by simp⟩
  ·obtain ⟨h1,h2,h3,h4⟩:=ixF_mem (k:=k+1) h
   refine ⟨h1,by omega,by simp;omega,?_⟩
   rw [h4,show i - k=(i - (k+1))+1 by omega];simp
theorem matIn_ixF {R:List (List (List C))} {ns:List Nat} (h:∀i,i < ns.length→ns.getD i 0≤(R.getD i []).length):matIn R (ixF 0 ns):=fun i lo n hm=>by
 obtain ⟨rfl,_,h3,rfl⟩:=ixF_mem hm
 have:=h i (by simpa using h3)
 simpa using this
def visR (rows:Tss):Tss:=rows++List.replicate (room rows.length) spR
theorem visR_len (rows:Tss):(visR rows).length=rows.length+room rows.length:=by simp [visR]
theorem laid_at (rows:Tss) {i:Nat} (h:i < rows.length+room rows.length):∃full seen:List (List UInt8),(allR rows).getD i []=full∧(visR rows).getD i []=seen∧(lensR rows).getD i 0=seen.length∧∃more,full=seen++more:=by
 by_cases hi:i < rows.length
 ·refine ⟨withRoomT (rows.getD i []),rows.getD i [],?_,?_,?_,_,rfl⟩
  ·unfold allR;rw [gD,List.getElem?_append_left (by simpa using hi),List.getElem?_map,gD,List.getElem?_eq_getElem hi];rfl
  ·unfold visR;rw [gD,List.getElem?_append_left hi,gD]
  ·unfold lensR;rw [gD,List.getElem?_append_left (by simpa using hi),List.getElem?_map,gD,List.getElem?_eq_getElem hi];rfl
 ·have hr:i - rows.length < room rows.length:=by omega
  refine ⟨spR,spR,?_,?_,?_,[],by simp⟩
  ·unfold allR;rw [gD,List.getElem?_append_right (by simp;omega),List.length_map,List.getElem?_replicate,if_pos hr];rfl
  ·unfold visR;rw [gD,List.getElem?_append_right (by omega),List.getElem?_replicate,if_pos hr];rfl
  ·unfold lensR;rw [gD,List.getElem?_append_right (by simp;omega),List.length_map,List.getElem?_replicate,if_pos hr];rfl
theorem getD_map_cT (R:Tss) (i:Nat):(R.map cT).getD i []=cT (R.getD i []):=by
 rw [gD,gD,List.getElem?_map]
 cases R[i]? <;> rfl
theorem laid_data (rows:Tss):matD ((allR rows).map cT) (ixF 0 (lensR rows))=cTT (visR rows):=by
 refine matD_ixF _ 0 _ _ (by rw [lensR_len,visR_len]) fun i hi=>?_
 rw [lensR_len] at hi
 obtain ⟨full,seen,h1,h2,h3,more,h4⟩:=laid_at rows hi
 rw [Nat.zero_add,getD_map_cT,h1,h2,h3,List.drop_zero,h4]
 simp [cT]
theorem laid_in (rows:Tss):matIn ((allR rows).map cT) (ixF 0 (lensR rows)):=matIn_ixF fun i hi=>by
 rw [lensR_len] at hi
 obtain ⟨full,seen,h1,h2,h3,more,h4⟩:=laid_at rows hi
 rw [getD_map_cT,h1,h3,h4,cT_len,List.length_append];omega
theorem laid_ix (rows:Tss):(ixF 0 (lensR rows)).length=rows.length+room rows.length:=by rw [ixF_len,lensR_len]
abbrev laidM (rows:Tss):Ob:=.mat 1 (ixF 0 (lensR rows)) ((allR rows).map cT)
theorem lend1_mat {l:LL} {id lo n sz:Nat} {ix:List MC} {rows:List (List (List C))} {r:List (List C)} (h:lget id l = .mat sz ix rows) (h1:n+lo≤ix.length) (h2:matIn rows ix) (h3:((matD rows ix).drop lo).take n=r):lend1 l (.ls id lo n 1) (.d (.sl r)):=by
 show (match lget id l with
  | .row _ sz' rows=>1=sz'∧n+lo≤rows.length∧(rows.drop lo).take n=r
  | .mat _ ix rows=>1=1∧n+lo≤ix.length∧matIn rows ix∧((matD rows ix).drop lo).take n=r
  | _=>False)
 rw [h]
 exact ⟨rfl,h1,h2,h3⟩
theorem fn_intactSS (rows:Tss) (hi:ChIn rows):Fn Tryz.prog 111 [.ls 1000000 0 rows.length 1,.ls 1000001 0 rows.length 1] [(1000000,laidM rows),(1000001,laidM rows)] (B true) [(1000000,laidM rows),(1000001,laidM rows)]:=by
 have hl:=hi.l;have hrm:=room_le rows.length;have c1:=fn_room rows.length hi.l;have ceq:=fn_eqSS (List.replicate (room rows.length) spR) (List.replicate (room rows.length) spR) (by rw [List.length_replicate];omega) (by rw [List.length_replicate];omega)
  (fun r hr=>by rw [List.eq_of_mem_replicate hr];decide) (fun r hr=>by rw [List.eq_of_mem_replicate hr];decide)
 rw [decide_eq_true rfl] at ceq;have hix:=laid_ix rows;have hmd:=laid_data rows;have hmi:=laid_in rows;refine Fn.intro (ks:=[0,1,4,5,6,17,21,33]) hty rfl rfl rfl rfl rfl ?_;conv=>whnf
 refine VCall.of_data c1 (nd _) ?_;conv=>whnf
 refine Wr.i64 (y:=((rows.length+room rows.length:Nat):Int)) rfl (by omega) (by omega) ?_;conv=>whnf
 rw [decide_eq_true (rfl:((rows.length:Nat):Int)=((rows.length:Nat):Int))];conv=>whnf
 refine VLoop.inv hty (S:=Nat) (fun k=>[(6,I k),(5,I ((rows.length+room rows.length:Nat):Int)),(1,.ls 1000001 0 rows.length 1),(0,.ls 1000000 0 rows.length 1)]) (fun _=>[(1000000,laidM rows),(1000001,laidM rows)])
  (fun k=>k≤rows.length) (fun k=>rows.length - k) 0 (Nat.zero_le _) ⟨rfl,rfl,rfl,rfl,trivial⟩ ⟨rfl,rfl,trivial⟩ ?_
 intro k hk;conv=>whnf
 refine Br.mk (fun h=>?_) (fun h=>?_)
 ·have h:k < rows.length:=by simp only [decide_eq_true_eq] at h;omega
  obtain ⟨r,er⟩:∃r,rows.getD k []=r:=⟨_,rfl⟩;have hmr:r∈rows:=by rw [←er];exact getD_mem h
  have ci:=fn_intactT r (hi.r r hmr);have e1:(ixF 0 (lensR rows))[k+0]? = some (.r k 0 r.length):=by
   rw [ixF_get (n:=r.length) (by rw [lensR_len];omega),Nat.zero_add];rfl;unfold lensR;rw [gD,List.getElem?_append_left (by simpa using h),List.getElem?_map];rw [gD] at er;cases hq:rows[k]? with
   | none=>rw [List.getElem?_eq_none_iff] at hq;omega
   | some v=>rw [hq] at er;simp at er;rw [←er];rfl
  have e2:((allR rows).map cT)[k]? = some (cT (withRoomT r)):=by
   unfold allR;rw [List.map_append,List.getElem?_append_left (by simpa using h),List.getElem?_map,List.getElem?_map];rw [gD] at er;cases hq:rows[k]? with
   | none=>rw [List.getElem?_eq_none_iff] at hq;omega
   | some v=>rw [hq] at er;simp at er;rw [←er];rfl
  conv=>whnf
  refine VDraw.go hmo hty 10 [] rfl ?_;conv=>whnf
  refine ⟨by omega,?_⟩;conv=>whnf
  refine ⟨_,e1,?_⟩;conv=>whnf
  refine ⟨by omega,?_⟩;conv=>whnf
  refine ⟨_,e1,?_⟩;conv=>whnf
  refine QCall.parMM 1000000 k 1000001 k ci (by decide) rfl e2 rfl e2 ⟨⟨.inl ⟨rfl,rfl,rfl⟩,rfl,rfl,rfl⟩,⟨.inr ⟨rfl,rfl,rfl⟩,rfl,rfl,rfl⟩,trivial⟩ rfl rfl rfl ?_;conv=>whnf
  refine Wr.i64 (y:=((k+1:Nat):Int)) rfl (by omega) (by omega) ?_;conv=>whnf
  exact ⟨k+1,h,by show rows.length - (k+1) < rows.length - k;omega,⟨rfl,rfl,rfl,rfl,trivial⟩,⟨rfl,rfl,trivial⟩⟩
 ·have h:k=rows.length:=by simp only [decide_eq_false_iff_not] at h;omega
  conv=>whnf
  refine VDraw.go hmo hty 12 [] rfl ?_;conv=>whnf
  refine ⟨⟨by omega,by omega,by show rows.length+room rows.length+0≤_;omega⟩,?_⟩;conv=>whnf
  refine ⟨⟨by omega,by omega,by show rows.length+room rows.length+0≤_;omega⟩,?_⟩;conv=>whnf
  have lend:∀(l:LL) (id:Nat),lget id l=laidM rows→lend1 l (.ls id (((rows.length:Nat):Int).toNat+0) (((rows.length+room rows.length:Nat):Int) - ((rows.length:Nat):Int)).toNat 1) (.d (.sl (cTT (List.replicate (room rows.length) spR)))):=fun l id hg=>by
   refine lend1_mat hg (by rw [hix];omega) hmi ?_;rw [hmd,show (((rows.length:Nat):Int).toNat+0)=rows.length from rfl,show (((rows.length+room rows.length:Nat):Int) - ((rows.length:Nat):Int)).toNat=room rows.length by omega];unfold visR cTT;rw [List.map_append,List.drop_append_of_le_length (by simp),List.drop_of_length_le (by simp),List.nil_append,List.take_of_length_le (by simp)]
  refine QCall.lend ceq ⟨lend _ _ rfl,lend _ _ rfl,trivial⟩ rfl ?_;conv=>whnf
  exact ⟨rfl,⟨rfl,rfl,trivial⟩,rfl⟩
theorem namesCh {rows:Tss}:namesIn [(0,laidM rows)] (.ag [.ls 0 0 rows.length 1]):=fun j hj=>by
 have:Nat.beq 0 j=true:=by
  have:(AV.ment j (.ag [.ls 0 0 rows.length 1]))=(Nat.beq 0 j || false):=rfl
  rw [this] at hj;simpa using hj
 have e:=Nat.eq_of_beq_eq_true this
 rw [lget_cons,if_pos e.symm];exact fun e=>by cases e
theorem fn_toChain (rows:Tss) (hi:ChIn rows):Fn Tryz.prog 45 [chI rows,B false] [] (.ag [.ls 0 0 rows.length 1]) [(0,laidM rows)]:=by
 have c:=fn_toSS rows hi
 refine Fn.intro (ks:=[0,1,2,4,5]) hty rfl rfl rfl rfl rfl ?_
 conv=>whnf
 refine VCall.of_fn (k:=9) c (namesIn_ls (by simp)) rfl ?_
 conv=>whnf
 exact ⟨⟨rfl,rfl,rfl,rfl,rfl⟩,[],rfl,trivial,rfl⟩
theorem fn_toChaind (rows:Tss) (b:Bool) (hi:ChIn rows):Fn Tryz.prog 45 [chI rows,B b] [] (chI rows) []:=by
 have c:=fn_toSSd rows b hi
 refine Fn.intro (ks:=[0,1,2,4,5]) hty rfl rfl rfl rfl rfl ?_
 conv=>whnf
 refine VCall.of_data c (nd _) ?_
 conv=>whnf
 exact ⟨rfl,trivial,rfl⟩
theorem fn_intactChain (rows:Tss) (hi:ChIn rows):Fn Tryz.prog 47 [.ag [.ls 1000000 0 rows.length 1],.ag [.ls 1000001 0 rows.length 1]] [(1000000,laidM rows),(1000001,laidM rows)] (B true) [(1000000,laidM rows),(1000001,laidM rows)]:=by
 have c:=fn_intactSS rows hi
 refine Fn.intro (ks:=[0,1,2,3,4,10]) hty rfl rfl rfl rfl rfl ?_
 conv=>whnf
 refine VCall.parN [(1000000,1000000),(1000001,1000001)] c ⟨⟨rfl,rfl,rfl,rfl⟩,⟨rfl,rfl,rfl,rfl⟩,trivial⟩ ⟨⟨rfl,rfl⟩,⟨rfl,rfl⟩,trivial⟩ rfl rfl rfl rfl ?_
 conv=>whnf
 exact ⟨rfl,⟨rfl,rfl,trivial⟩,rfl⟩
theorem lend_ch {l:LL} {id:Nat} {rows:Tss} (h:lget id l=laidM rows):lends1 l [.ls id 0 rows.length 1] [.d (.sl (cTT rows))]:=by
 refine ⟨?_,trivial⟩
 refine lend1_mat h (by rw [laid_ix];omega) (laid_in rows) ?_
 rw [laid_data]
 unfold visR cTT
 rw [List.drop_zero,List.map_append,List.take_append_of_le_length (by simp),List.take_of_length_le (by simp)]
end Go.V
namespace Go.V
open Go.Proofs Go.RowKit
set_option maxRecDepth 10000
set_option maxHeartbeats 1000000
theorem fit_T' {c:C} (h:Fit c (.sl [.s])):∃xs:List (List UInt8),c = .sl (cT xs)∧xs.length < 2 ^ 47∧∀x,x∈xs→x.length < 2 ^ 47:=by
 obtain ⟨ys,rfl,h1,h2⟩:=fit_strs h
 refine ⟨ys.map fun y=>y.data.toList,by simp [cT],by simpa using h1,fun x hx=>?_⟩
 obtain ⟨y,hy,rfl⟩:=List.mem_map.1 hx
 have:=h2 y hy
 rwa [Array.length_toList]
theorem fit_TT {c:C} (h:Fit c (.sl [.sl [.s]])):∃rows:Tss,c = .sl (cTT rows)∧rows.length < 2 ^ 47∧(∀r,r∈rows→r.length < 2 ^ 47)∧∀r,r∈rows→∀x,x∈r→x.length < 2 ^ 47:=by
 cases h with
 | sl rows _ h hl hf =>
  obtain ⟨xs,h1⟩:=rows_one (α:={ r:List (List UInt8) // r.length < 2 ^ 47∧∀x,x∈r→x.length < 2 ^ 47 }) (p:=fun c=>Fit c (.sl [.s])) (g:=fun n=>.sl (cT n.1)) (fun c hc=>by
   obtain ⟨n,h1,h2⟩:=fit_T' hc;exact ⟨⟨n,h2⟩,h1⟩) hl (fun r hr c hc=>hf r hr 0 c _ hc rfl)
  subst h1
  refine ⟨xs.map (·.1),by simp [cTT],by have:=reach_lt;simp at h ⊢;omega,fun r hr=>?_,fun r hr=>?_⟩
  ·obtain ⟨y,_,rfl⟩:=List.mem_map.1 hr
   exact y.2.1
  ·obtain ⟨y,_,rfl⟩:=List.mem_map.1 hr
   exact y.2.2
theorem fit_chain {rs:List C} (hl:rs.length=1) (h:∀(i:Nat) c k,rs[i]? = some c→([K.sl [.sl [.s]]]:List K)[i]? = some k→Fit c k) :
  ∃rows:Tss,rs=[.sl (cTT rows)]∧rows.length < 2 ^ 47∧(∀r,r∈rows→r.length < 2 ^ 47)∧∀r,r∈rows→∀x,x∈r→x.length < 2 ^ 47:=by
 match rs,hl with
 | [a],_ =>
  obtain ⟨us,rfl,h1,h2,h3⟩:=fit_TT (h 0 a _ rfl rfl)
  exact ⟨us,rfl,h1,h2,h3⟩
end Go.V
namespace Go.V
open Go.Proofs Go.RowKit
end Go.V
namespace Go.V
open Go.Proofs Go.RowKit
set_option maxRecDepth 10000
set_option maxHeartbeats 1000000
end Go.V
namespace Go.V
section
variable {P:Program} {G:Ctx} {κ:Know} {ρ:Place} {t:TL} {l:LL} {a:Act} {w:World}
end
end Go.V
namespace Go.V
open Go.Proofs Go.RowKit
set_option maxRecDepth 10000
set_option maxHeartbeats 1000000
theorem and32 {y:Nat} (h:y < 4294967296):(((BitVec.ofInt IntKind.u64.bits (y:Int) &&& BitVec.ofInt IntKind.u64.bits 4294967295).toNat:Nat):Int)=(y:Int):=by
 rw [BitVec.toNat_and]
 have e1:(BitVec.ofInt IntKind.u64.bits (y:Int)).toNat=y:=by
  show (BitVec.ofInt 64 (y:Int)).toNat=y
  rw [BitVec.toNat_ofInt];omega
 have e2:(BitVec.ofInt IntKind.u64.bits 4294967295).toNat=2 ^ 32 - 1:=rfl
 rw [e1,e2,Nat.and_two_pow_sub_one_eq_mod,Nat.mod_eq_of_lt h]
theorem shr0 {y:Nat} (h:y < 4294967296):((y:Nat):Int).fdiv (2 ^ min (Int.toNat 32) IntKind.u64.bits)=0:=by
 rw [show (2:Int) ^ min (Int.toNat 32) IntKind.u64.bits=4294967296 from rfl,Int.fdiv_eq_ediv_of_nonneg _ (by decide)]
 omega
theorem fn_Mul64 (y:Nat) (hy:y≤1000000):Fn Tryz.prog 221 [N64 1,N64 y] [] (.tup [N64 0,N64 y]) []:=by
 refine Fn.intro (ks:=[0,1,4,5,6,7,8,9,10,11,12,13]) hty rfl rfl rfl rfl rfl ?_
 conv=>whnf
 refine Wr.n64 (n:=1) (and32 (y:=1) (by omega)) (by omega) ?_
 conv=>whnf
 refine ⟨by decide,?_⟩
 conv=>whnf
 refine Wr.n64 (n:=y) (and32 (y:=y) (by omega)) (by omega) ?_
 conv=>whnf
 refine ⟨by decide,?_⟩
 conv=>whnf
 have e1:=shr0 (y:=1) (by omega)
 have ey:=shr0 (y:=y) (by omega)
 refine Wr.n64 (n:=y) (by omega) (by omega) ?_
 conv=>whnf
 refine Wr.n64 (n:=0) (by rw [e1];simp) (by omega) ?_
 conv=>whnf
 refine ⟨by decide,?_⟩
 conv=>whnf
 refine Wr.n64 (n:=0) (by rw [ey];rfl) (by omega) ?_
 conv=>whnf
 refine Wr.n64 (n:=0) (and32 (y:=0) (by omega)) (by omega) ?_
 conv=>whnf
 refine ⟨by decide,?_⟩
 conv=>whnf
 refine Wr.n64 (n:=0) (by rw [ey];rfl) (by omega) ?_
 conv=>whnf
 refine Wr.n64 (n:=0) rfl (by omega) ?_
 conv=>whnf
 refine Wr.n64 (n:=0) (by rw [e1,ey];rfl) (by omega) ?_
 conv=>whnf
 refine Wr.n64 (n:=0) (by rw [shr0 (y:=0) (by omega)];rfl) (by omega) ?_
 conv=>whnf
 refine ⟨by decide,?_⟩
 conv=>whnf
 refine Wr.n64 (n:=0) (by rw [shr0 (y:=0) (by omega)];rfl) (by omega) ?_
 conv=>whnf
 refine Wr.n64 (n:=y) (by omega) (by omega) ?_
 conv=>whnf
 exact ⟨rfl,rfl,trivial,rfl⟩
theorem fn_Mul (y:Nat) (hy:y≤1000000):Fn Tryz.prog 192 [N64 1,N64 y] [] (.tup [N64 0,N64 y]) []:=by
 refine Fn.intro (ks:=[0,1,4,5,6,7,8,9]) hty rfl rfl rfl rfl rfl ?_
 conv=>whnf
 refine VCall.of_data (fn_Mul64 y hy) (ndT fun _=>rfl) ?_
 conv=>whnf
 exact ⟨rfl,rfl,trivial,rfl⟩
abbrev zrQ:List C:=[.s (.bool false),.s (.slice none 0 0),.s (.slice none 0 0)]
def repQ (a:Rat) (n k:Nat):List (List C):=cQ (List.replicate k a)++List.replicate (n - k) zrQ
theorem repQ_len {a:Rat} {n k:Nat} (h:k≤n):(repQ a n k).length=n:=by
 unfold repQ;rw [List.length_append,cQ_len,List.length_replicate,List.length_replicate];omega
theorem repQ_all (a:Rat) (n:Nat):repQ a n n=cQ (List.replicate n a):=by unfold repQ;rw [Nat.sub_self];simp
theorem cQ_take (xs:List Rat) (k:Nat):(cQ xs).take k=cQ (xs.take k):=by unfold cQ;rw [List.map_take]
theorem repQ_copy {a:Rat} {n k m:Nat} (h:k≤n) (hm:m≤n - k) (hk:m≤k):(repQ a n k).take k++(((repQ a n k).take k).take m++(repQ a n k).drop (k+m))=repQ a n (k+m):=by
 have e1:(repQ a n k).take k=cQ (List.replicate k a):=by
  unfold repQ
  rw [List.take_append_of_le_length (by rw [cQ_len,List.length_replicate];exact Nat.le_refl _),List.take_of_length_le (by rw [cQ_len,List.length_replicate];exact Nat.le_refl _)]
 have e2:(repQ a n k).drop (k+m)=List.replicate (n - (k+m)) zrQ:=by
  unfold repQ
  rw [List.drop_append,List.drop_of_length_le (by rw [cQ_len,List.length_replicate];omega),cQ_len,List.length_replicate,List.drop_replicate]
  rw [List.nil_append];congr 1;omega
 rw [e1,e2,cQ_take,List.take_replicate,Nat.min_eq_left hk,←List.append_assoc,cQ_append,List.replicate_append_replicate]
 rfl
theorem fn_slRepeat (a:Rat) (n:Nat) (h1:1≤n) (hn:n≤20):Fn Tryz.prog 141 [lQ [a],I n] [] (.ls 0 0 n 3) [(0,.row true 3 (cQ (List.replicate n a)))]:=by
 refine Fn.intro (ks:=[0,1,4,5,6,7,8,10,26,37]) hty rfl rfl rfl rfl rfl ?_;conv=>whnf
 rw [show decide ((n:Int) < 0)=false by simp];conv=>whnf
 refine Wr.n64 (n:=1) (by rw [cQ_len];rfl) (by omega) ?_;conv=>whnf
 refine Wr.n64 (n:=n) rfl (by omega) ?_;conv=>whnf
 refine VCall.of_data (fn_Mul n (by omega)) (ndT fun _=>rfl) ?_;conv=>whnf
 rw [show decide (((9223372036854775807:Int)) < (n:Int))=false by simp;omega];conv=>whnf
 refine Wr.fit (wrap_i64 (by omega) (by omega)) ?_;conv=>whnf
 refine ⟨⟨by omega,by omega,by show (n:Int)*((56:Nat):Int)≤_;omega,by omega⟩,?_⟩;conv=>whnf
 refine ⟨cQ_sz _,?_⟩;conv=>whnf
 refine ⟨by show 0+((n:Int)).toNat≤(List.replicate ((n:Int)).toNat _).length;rw [List.length_replicate];omega,?_⟩;conv=>whnf
 have e0:List.take 0 (List.replicate ((n:Int)).toNat zrQ)++((cQ [a]).take (Nat.min 1 ((n:Int)).toNat)++(List.replicate ((n:Int)).toNat zrQ).drop (0+Nat.min 1 ((n:Int)).toNat))=repQ a n 1:=by
  rw [show ((n:Int)).toNat=n by omega,show Nat.min 1 n=1 from Nat.min_eq_left h1,List.drop_replicate];unfold repQ;rw [List.take_zero,List.nil_append,List.take_of_length_le (by rw [cQ_len];simp)]
  rfl
 refine VLoop.inv hty (S:=Nat) (fun k=>[(8,I k),(7,.ls 30 0 n 3)]) (fun k=>[(30,.row true 3 (repQ a n k))]) (fun k=>1≤k∧k≤n) (fun k=>n - k) 1 ⟨Nat.le_refl _,h1⟩
  ⟨?_,?_,trivial⟩ ⟨?_,trivial⟩ ?_
 ·show I ((Nat.min 1 ((n:Int)).toNat:Nat):Int)=I 1;rw [show Nat.min 1 ((n:Int)).toNat=1 from Nat.min_eq_left (by omega)];rfl
 ·show AV.ls 30 0 ((n:Int)).toNat 3=AV.ls 30 0 n 3;rw [show ((n:Int)).toNat=n by omega]
 ·rw [←e0];rfl
 rintro k ⟨hk1,hk2⟩;conv=>whnf
 refine Br.mk (fun h=>?_) (fun h=>?_)
 ·have h:k < n:=by simp only [decide_eq_true_eq] at h;omega
  have hl:=repQ_len (a:=a) hk2;have g1:(0≤(k:Int)∧(k:Int)≤n∧((n:Int)).toNat+0≤(repQ a n k).length):=⟨by omega,by omega,by rw [hl];omega⟩;have g2:(0≤(0:Int)∧(0:Int)≤k∧((k:Int)).toNat+0≤(repQ a n k).length):=⟨by omega,by omega,by rw [hl];omega⟩;have hc:=repQ_copy (a:=a) (n:=n) (k:=k) (m:=min k (n - k)) hk2 (Nat.min_le_right _ _) (Nat.min_le_left _ _);have hmin:1≤min k (n - k):=by omega
  conv=>whnf
  have hs:(0:Int).toNat+0+((k:Int) - 0).toNat≤(repQ a n k).length:=by rw [hl];omega
  have hd:(k:Int).toNat+0+((n:Int) - (k:Int)).toNat≤(repQ a n k).length:=by rw [hl];omega
  have hmm:Nat.min ((k:Int) - 0).toNat ((n:Int) - (k:Int)).toNat=min k (n - k):=by
   show min _ _=_;rw [show ((k:Int) - 0).toNat=k by omega,show ((n:Int) - (k:Int)).toNat=n - k by omega]
  refine VDraw.goS hmo hty [0,1,2,4,5] rfl ?_;conv=>whnf
  repeat' (first
   | (refine ⟨g1,?_⟩;conv=>whnf)
   | (refine ⟨g2,?_⟩;conv=>whnf)
   | (refine Sub.lo hs ?_;conv=>whnf)
   | (refine ⟨hd,?_⟩;conv=>whnf)
   | (refine Wr.i64 (y:=((k+min k (n - k):Nat):Int)) (by rw [hmm];rfl) (by omega) (by omega) ?_;conv=>whnf)
   | (refine ⟨k+min k (n - k),⟨by omega,by omega⟩,by show n - (k+min k (n - k)) < n - k;omega,⟨rfl,rfl,trivial⟩,?_,trivial⟩;rw [←hc,←hmm];rfl)
   | (refine ⟨?_,?_⟩ <;> conv=>whnf))
 ·have h:k=n:=by simp only [decide_eq_false_iff_not] at h;omega
  subst h;rw [repQ_all];conv=>whnf
  exact ⟨⟨rfl,rfl,rfl,rfl,rfl,rfl⟩,[],rfl,trivial,rfl⟩
end Go.V
namespace Go.V
open Go.Proofs Go.RowKit
set_option maxRecDepth 10000
set_option maxHeartbeats 1000000
theorem cQ_set (xs:List Rat) (k:Nat) (x:Rat):(cQ xs).set k (c1Q x)=cQ (xs.set k x):=by unfold cQ;rw [List.map_set]
end Go.V
namespace Go.V
open Go.Proofs Go.RowKit
set_option maxRecDepth 10000
set_option maxHeartbeats 1000000
theorem cS_set (xs:List Rat) (k:Nat) (x:Rat):(cS xs).set k (c1S x)=cS (xs.set k x):=by unfold cS;rw [List.map_set]
end Go.V
namespace Go.V
open Go.Proofs Go.RowKit
set_option maxRecDepth 10000
set_option maxHeartbeats 1000000
theorem sgI_gt {q:Rat} (h:0≤q):decide (0 < sgI q) = !decide (q=0):=by
 by_cases h0:q=0
 ·subst h0;rfl
 ·have h1:ng q=false:=by rw [ng_lt];exact decide_eq_false (fun e=>by have:=Rat.not_le.2 e;exact this h)
  have h2:tp q≠0:=fun e=>h0 (tp_zero.1 e);unfold sgI;rw [if_neg h2,h1,decide_eq_false h0]
  rfl
end Go.V
namespace Go.V
open Go.Proofs Go.RowKit
set_option maxRecDepth 10000
set_option maxHeartbeats 1000000
end Go.V
namespace Go.V
open Go.Proofs Go.RowKit
set_option maxRecDepth 10000
set_option maxHeartbeats 1000000
end Go.V
namespace Go.V
open Go.Proofs Go.RowKit
set_option maxRecDepth 10000
set_option maxHeartbeats 1000000
theorem map_set {α:Type} {n i:Nat} (f g:Nat→α) (he:∀k,k≠i→f k=g k):((List.range n).map f).set i (g i)=(List.range n).map g:=by
 apply List.ext_getElem (by simp)
 intro k h1 h2
 rw [List.getElem_set]
 simp only [List.getElem_map,List.getElem_range]
 by_cases e:i=k
 ·rw [if_pos e,e]
 ·rw [if_neg e,he k (Ne.symm e)]
end Go.V
namespace Go.V
open Go.Proofs Go.RowKit
set_option maxRecDepth 10000
set_option maxHeartbeats 1000000
end Go.V
namespace Go.V
open Go.Proofs Go.RowKit
set_option maxRecDepth 10000
set_option maxHeartbeats 1000000
noncomputable def mkR:Nat→List Nat→Tss→Tss
 | _,[],R=>R
 | _,_ :: _,[]=>[]
 | k,n :: ns,r :: R=>(marksT k n++r.drop n) :: mkR (k+n) ns R
theorem mkR_len:∀(k:Nat) (ns:List Nat) (R:Tss),(mkR k ns R).length=R.length
 | _,[],_=>rfl
 | _,_ :: _,[]=>rfl
 | k,n :: ns,r :: R=>by simp [mkR,mkR_len (k+n) ns R]
theorem mkR_snoc:∀(k:Nat) (ns:List Nat) (R:Tss) (n:Nat),ns.length < R.length →
  mkR k (ns++[n]) R=(mkR k ns R).set ns.length (marksT (k+ns.sum) n++(R.getD ns.length []).drop n)
 | k,[],[],n,h=>by simp at h
 | k,[],r :: R,n,_=>by simp [mkR]
 | k,m :: ns,[],n,h=>by simp at h
 | k,m :: ns,r :: R,n,h=>by
  have ih:=mkR_snoc (k+m) ns R n (by simpa using h)
  show (marksT k m++r.drop m) :: mkR (k+m) (ns++[n]) R=_
  rw [ih]
  simp [mkR,Nat.add_assoc]
theorem mkR_at:∀(k:Nat) (ns:List Nat) (R:Tss) (i:Nat),ns.length≤i→(mkR k ns R).getD i []=R.getD i []
 | k,[],R,i,_=>rfl
 | k,m :: ns,[],i,_=>rfl
 | k,m :: ns,r :: R,0,h=>by simp at h
 | k,m :: ns,r :: R,i+1,h=>by
  have:=mkR_at (k+m) ns R i (by simpa using h)
  simpa [mkR] using this
theorem take_snoc {ns:List Nat} {j n:Nat} (h:j < ns.length) (e:ns.getD j 0=n):ns.take (j+1)=ns.take j++[n]:=by
 rw [List.take_succ_eq_append_getElem h,←e,gD,List.getElem?_eq_getElem h];rfl
theorem take_sum_le:∀(ns:List Nat) (i j:Nat),i≤j→(ns.take i).sum≤(ns.take j).sum
 | [],i,j,_=>by simp
 | m :: ns,0,j,_=>by simp
 | m :: ns,i+1,0,h=>by omega
 | m :: ns,i+1,j+1,h=>by
  have:=take_sum_le ns i j (by omega)
  simp;exact this
theorem fn_markSS (R:Tss) (ns:List Nat) (n k0:Nat) (hn:n≤ns.length) (hl:ns.length=R.length) (hn2:n≤1000000) (hb:∀i,i < n→ns.getD i 0≤(R.getD i []).length∧ns.getD i 0≤1000000) (hk:k0+(ns.take n).sum≤2000000000) :
  Fn Tryz.prog 76 [.ls 1000000 0 n 1,I k0] [(1000000,.mat 1 (ixF 0 ns) (R.map cT))] (I ((k0+(ns.take n).sum:Nat):Int)) [(1000000,.mat 1 (ixF 0 ns) ((mkR k0 (ns.take n) R).map cT))]:=by
 refine Fn.intro (ks:=[0,1,4,5,9]) hty rfl rfl rfl rfl rfl ?_;conv=>whnf
 refine VLoop.inv hty (S:=Nat) (fun j=>[(5,I j),(1,I ((k0+(ns.take j).sum:Nat):Int)),(0,.ls 1000000 0 n 1)]) (fun j=>[(1000000,.mat 1 (ixF 0 ns) ((mkR k0 (ns.take j) R).map cT))]) (fun j=>j≤n) (fun j=>n - j) 0 (Nat.zero_le _)
  ⟨rfl,rfl,rfl,trivial⟩ ⟨rfl,trivial⟩ ?_
 intro j hj;conv=>whnf
 refine Br.mk (fun h=>?_) (fun h=>?_)
 ·have h:j < n:=by simp only [decide_eq_true_eq] at h;omega
  obtain ⟨m,em⟩:∃m,ns.getD j 0=m:=⟨_,rfl⟩;obtain ⟨r,er⟩:∃r,R.getD j []=r:=⟨_,rfl⟩;obtain ⟨b1,b2⟩:=hb j h;rw [em,er] at b1;rw [em] at b2;have ex:=ixF_get (k:=0) (ns:=ns) (i:=j) (n:=m) (by omega) em;rw [Nat.zero_add] at ex;have hs:=take_sum_le ns j n (by omega);have cm:=fn_markT r m (k0+(ns.take j).sum) b1 b2 (by omega);have htl:(ns.take j).length=j:=by rw [List.length_take];omega
  have ey:((mkR k0 (ns.take j) R).map cT)[j]? = some (cT r):=by
   have:=mkR_at k0 (ns.take j) R j (by omega);rw [er,gD,List.getElem?_eq_getElem (by rw [mkR_len];omega)] at this;rw [List.getElem?_map,List.getElem?_eq_getElem (by rw [mkR_len];omega)];simp at this;simp [this]
  have et:=take_snoc (by omega) em;have es:=mkR_snoc k0 (ns.take j) R m (by omega);rw [htl,er,←et] at es;conv=>whnf
  refine ⟨by omega,?_⟩;conv=>whnf
  refine ⟨_,ex,?_⟩;conv=>whnf
  refine VCall.parM 1000000 j cm rfl ey ⟨⟨rfl,rfl,rfl,rfl,rfl,rfl⟩,rfl,trivial⟩ rfl ?_;conv=>whnf
  refine Wr.i64 (y:=((j+1:Nat):Int)) rfl (by omega) (by omega) ?_;conv=>whnf
  refine ⟨j+1,h,by show n - (j+1) < n - j;omega,⟨rfl,?_,rfl,trivial⟩,⟨?_,trivial⟩⟩
  ·show I _=I _;rw [et,List.sum_append];simp [Nat.add_assoc]
  ·show Ob.mat 1 _ (List.set ((mkR k0 (ns.take j) R).map cT) j (cT _))=Ob.mat 1 _ _;rw [es,List.map_set]
 ·have h:j=n:=by simp only [decide_eq_false_iff_not] at h;omega
  rw [h];conv=>whnf
  exact ⟨rfl,⟨rfl,trivial⟩,rfl⟩
theorem fn_markChain (R:Tss) (ns:List Nat) (n k0:Nat) (hn:n≤ns.length) (hl:ns.length=R.length) (hn2:n≤1000000) (hb:∀i,i < n→ns.getD i 0≤(R.getD i []).length∧ns.getD i 0≤1000000) (hk:k0+(ns.take n).sum≤2000000000) :
  Fn Tryz.prog 29 [.ag [.ls 1000000 0 n 1],I k0] [(1000000,.mat 1 (ixF 0 ns) (R.map cT))] (I ((k0+(ns.take n).sum:Nat):Int)) [(1000000,.mat 1 (ixF 0 ns) ((mkR k0 (ns.take n) R).map cT))]:=by
 have c:=fn_markSS R ns n k0 hn hl hn2 hb hk
 refine Fn.intro (ks:=[0,1,2,4]) hty rfl rfl rfl rfl rfl ?_
 conv=>whnf
 refine VCall.par1m 1000000 c ⟨⟨rfl,rfl,rfl,rfl⟩,rfl,trivial⟩ rfl ?_
 conv=>whnf
 exact ⟨rfl,⟨rfl,trivial⟩,rfl⟩
end Go.V
namespace Go.V
open Go.Proofs Go.RowKit
set_option maxRecDepth 10000
set_option maxHeartbeats 1000000
theorem szTT_sum {n:Int} {xs:List (List UInt8)} (h:0≤szTT n xs):szTT n xs+xs.length≤n:=by
 unfold szTT at h ⊢
 split at h
 ·omega
 ·rename_i hc
  rw [if_neg hc]
  have:=szT_le xs (n:=n - xs.length) (by omega)
  omega
theorem szR_sum:∀{rows:Tss} {n:Int},0≤n→0≤szR n rows→((rows.map List.length).sum:Int)≤n
 | [],n,h,_=>by simpa using h
 | r :: rs,n,h0,h=>by
  unfold szR at h
  split at h
  ·omega
  ·rename_i hc
   have h1:=szTT_sum (n:=n) (xs:=r) (by omega)
   have:=szR_sum (rows:=rs) (by omega) h
   simp
   omega
theorem szRR_sum {rows:Tss} {n:Int} (h:0≤szRR n rows):((rows.map List.length).sum:Int)≤n:=by
 unfold szRR at h
 split at h
 ·omega
 ·have:=szR_sum (n:=n - rows.length) (by omega) h
  omega
theorem lens_take (rows:Tss):(lensR rows).take rows.length=rows.map List.length:=by
 unfold lensR
 rw [List.take_append_of_le_length (by simp),List.take_of_length_le (by simp)]
theorem lens_at {rows:Tss} {i:Nat} (h:i < rows.length):(lensR rows).getD i 0=(rows.getD i []).length∧((allR rows).getD i [])=withRoomT (rows.getD i []):=by
 unfold lensR allR
 constructor
 ·rw [gD,List.getElem?_append_left (by simpa using h)]
  simp [gD,List.getElem?_eq_getElem h]
 ·rw [gD,List.getElem?_append_left (by simpa using h)]
  simp [gD,List.getElem?_eq_getElem h]
end Go.V
namespace Go.V
open Go.Proofs Go.RowKit
set_option maxRecDepth 10000
set_option maxHeartbeats 1000000
end Go.V
namespace Go.V
open Go.Proofs Go.RowKit
set_option maxRecDepth 10000
set_option maxHeartbeats 1000000
end Go.V
namespace Go.V
open Go.Proofs Go.RowKit
set_option maxRecDepth 10000
set_option maxHeartbeats 1000000
end Go.V
namespace Go.V
theorem Iz.szA {E M:Nat} {a:Rat} (h:Iz E a) (hE:E≠0) (h0:-((M:Int):Rat)≤a) (h1:a≤((M:Int):Rat)):Go.V.sz a≤bl M+bl E:=by
 by_cases hn:0≤a
 ·exact h.sz2 hE hn h1
 ·have h2:=h.neg.sz2 (M:=M) hE (by grind) (by grind)
  rwa [sz_neg] at h2
def Vk (E M:Nat) (v:List Rat):Prop:=∀q,q∈v→-((M:Int):Rat)≤q∧q≤((M:Int):Rat)∧Iz E q
theorem Vk.sz {E M:Nat} {v:List Rat} (h:Vk E M v) (hE:E≠0) {q:Rat} (hq:q∈v):Go.V.sz q≤bl M+bl E:=(h q hq).2.2.szA hE (h q hq).1 (h q hq).2.1
structure Mo where
 room:Nat
 come:Rat
 serve:Rat
 reward:Rat
 cost:Rat
def Mo.stay (m:Mo):Rat:=1 - m.come - m.serve
def vAt (v:List Rat) (n:Nat):Rat:=v.getD n 0
theorem vAt_mem {v:List Rat} {n:Nat} (h:n < v.length):vAt v n∈v:=getD_mem h
theorem le_tp {q:Rat} (h:0≤q):q≤((tp q:Int):Rat):=by
 have h1:q*((q.den:Int):Rat)=(q.num:Rat):=by
  have h:mkRat q.num q.den=q:=Rat.mkRat_self q;have hp:((q.den:Int):Rat)≠0:=by have:=q.den_nz;exact_mod_cast this
  rw [Rat.mkRat_eq_div,natc] at h;have h3:=Rat.div_mul_cancel (a:=((q.num:Int):Rat)) hp;rw [h] at h3;exact h3
 have h2:(1:Rat)≤((q.den:Int):Rat):=by
  have:(1:Int)≤(q.den:Int):=by have:=q.den_nz;omega
  exact_mod_cast this
 have h3:=Rat.mul_le_mul_of_nonneg_left h2 h;rw [Rat.mul_one,h1] at h3;have h4:(q.num:Int)≤(tp q:Int):=by unfold tp;omega
 have h5:(q.num:Rat)≤((tp q:Int):Rat):=by exact_mod_cast h4
 grind
end Go.V
namespace Go.V
abbrev Fm:=Nat→Nat→Rat
def rowX (n:Nat) (A:Fm) (x:Nat→Rat) (r:Nat):Rat:=sN n fun j=>A r j*x j
def Sol (n:Nat) (A:Fm) (x:Nat→Rat):Prop:=∀r,r < n→rowX n A x r=A r n
def Hom (n:Nat) (A:Fm) (x:Nat→Rat):Prop:=∀r,r < n→rowX n A x r=0
def Inj (n:Nat) (A:Fm):Prop:=∀x,Hom n A x→∀j,j < n→x j=0
structure Eqv (n:Nat) (A B:Fm):Prop where
 s:∀x,Sol n A x↔Sol n B x
 h:∀x,Hom n A x↔Hom n B x
theorem Eqv.refl (n:Nat) (A:Fm):Eqv n A A:=⟨fun _=>Iff.rfl,fun _=>Iff.rfl⟩
theorem Eqv.trans {n:Nat} {A B C:Fm} (h1:Eqv n A B) (h2:Eqv n B C):Eqv n A C:=⟨fun x=>(h1.s x).trans (h2.s x),fun x=>(h1.h x).trans (h2.h x)⟩
theorem Eqv.inj {n:Nat} {A B:Fm} (h:Eqv n A B) (hi:Inj n A):Inj n B:=fun x hx=>hi x ((h.h x).2 hx)
theorem Eqv.congr {n:Nat} {A B:Fm} (h:∀r,r < n→∀j,j≤n→A r j=B r j):Eqv n A B:=by
 have hr:∀x r,r < n→rowX n A x r=rowX n B x r:=fun x r hr=>sN_congr fun j hj=>by rw [h r hr j (by omega)]
 refine ⟨fun x=>⟨fun H r h1=>?_,fun H r h1=>?_⟩,fun x=>⟨fun H r h1=>?_,fun H r h1=>?_⟩⟩
 ·rw [←hr x r h1,←h r h1 n (Nat.le_refl _)];exact H r h1
 ·rw [hr x r h1,h r h1 n (Nat.le_refl _)];exact H r h1
 ·rw [←hr x r h1];exact H r h1
 ·rw [hr x r h1];exact H r h1
theorem Eqv.swap {n:Nat} {A B:Fm} (f:Nat→Nat) (hf:∀r,r < n→f r < n) (hff:∀r,r < n→f (f r)=r) (h:∀r,r < n→∀j,j≤n→B r j=A (f r) j):Eqv n A B:=by
 have hr:∀x r,r < n→rowX n B x r=rowX n A x (f r):=fun x r hr=>sN_congr fun j hj=>by rw [h r hr j (by omega)]
 refine ⟨fun x=>⟨fun H r h1=>?_,fun H r h1=>?_⟩,fun x=>⟨fun H r h1=>?_,fun H r h1=>?_⟩⟩
 ·rw [hr x r h1,h r h1 n (Nat.le_refl _)];exact H _ (hf r h1)
 ·have h2:=H _ (hf r h1)
  rw [hr x _ (hf r h1),h _ (hf r h1) n (Nat.le_refl _),hff r h1] at h2
  exact h2
 ·rw [hr x r h1];exact H _ (hf r h1)
 ·have h2:=H _ (hf r h1)
  rw [hr x _ (hf r h1),hff r h1] at h2
  exact h2
theorem Eqv.sub {n i:Nat} {A B:Fm} (hi:i < n) (f:Nat→Rat) (hf:f i=0) (h:∀r,r < n→∀j,j≤n→B r j=A r j - f r*A i j):Eqv n A B:=by
 have hr:∀x r,r < n→rowX n B x r=rowX n A x r - f r*rowX n A x i:=fun x r hr=>by
  unfold rowX
  rw [←sN_mul]
  have:(sN n fun j=>A r j*x j)=(sN n fun j=>B r j*x j)+sN n fun j=>f r*(A i j*x j):=by
   rw [←sN_add]
   exact sN_congr fun j hj=>by rw [h r hr j (by omega)];grind
  rw [this];grind
 have hb:∀x r,r < n→rowX n A x r=rowX n B x r+f r*rowX n B x i:=fun x r h1=>by
  rw [hr x r h1,hr x i hi,hf];grind
 refine ⟨fun x=>⟨fun H r h1=>?_,fun H r h1=>?_⟩,fun x=>⟨fun H r h1=>?_,fun H r h1=>?_⟩⟩
 ·rw [hr x r h1,h r h1 n (Nat.le_refl _),H r h1,H i hi]
 ·rw [hb x r h1,H r h1,H i hi,h r h1 n (Nat.le_refl _),h i hi n (Nat.le_refl _),hf];grind
 ·rw [hr x r h1,H r h1,H i hi,Rat.mul_zero];grind
 ·rw [hb x r h1,H r h1,H i hi,Rat.mul_zero];grind
theorem sN_two {n a b:Nat} {f:Nat→Rat} (ha:a < n) (hb:b < n) (hab:a≠b) (h:∀i,i < n→i≠a→i≠b→f i=0):sN n f=f a+f b:=by
 have h1:sN n f=(sN n fun i=>if i=a then f i else 0)+sN n fun i=>if i=b then f i else 0:=by
  rw [←sN_add]
  refine sN_congr fun i hi=>?_
  by_cases e1:i=a
  ·rw [if_pos e1,if_neg (by omega),Rat.add_zero]
  ·rw [if_neg e1,Rat.zero_add]
   by_cases e2:i=b
   ·rw [if_pos e2]
   ·rw [if_neg e2,h i hi e1 e2]
 rw [h1,sN_delta,sN_delta,if_pos ha,if_pos hb]
theorem sN_only {n a:Nat} {f:Nat→Rat} (ha:a < n) (h:∀i,i < n→i≠a→f i=0):sN n f=f a:=by
 have h1:sN n f=sN n fun i=>if i=a then f i else 0:=sN_congr fun i hi=>by
  by_cases e1:i=a
  ·rw [if_pos e1]
  ·rw [if_neg e1,h i hi e1]
 rw [h1,sN_delta,if_pos ha]
def Dia (n:Nat) (A:Fm) (i:Nat):Prop:=∀c,c < i→A c c≠0∧∀r,r < n→r≠c→A r c=0
theorem Dia.pivot {n i:Nat} {A:Fm} (hd:Dia n A i) (hj:Inj n A) (hi:i < n):∃k,i≤k∧k < n∧A k i≠0:=by
 apply Classical.byContradiction
 intro hno
 have h0:∀k,i≤k→k < n→A k i=0:=fun k h1 h2=>Classical.byContradiction fun h3=>hno ⟨k,h1,h2,h3⟩
 have hx:=hj (fun j=>if j < i then -(A j i / A j j) else if j=i then 1 else 0) (fun r hr=>by
  unfold rowX
  by_cases hri:r < i
  ·rw [sN_two (a:=r) (b:=i) hr hi (by omega) (fun j hj h1 h2=>by
    dsimp only
    by_cases h3:j < i
    ·rw [(hd j h3).2 r hr (Ne.symm h1),Rat.zero_mul]
    ·rw [if_neg h3,if_neg h2,Rat.mul_zero])]
   dsimp only
   rw [if_pos hri,if_neg (by omega),if_pos rfl]
   have:=(hd r hri).1
   have h4:=Rat.div_mul_cancel (a:=A r i) this
   grind
  ·rw [sN_only (a:=i) hi (fun j hj h1=>by
    dsimp only
    by_cases h3:j < i
    ·rw [(hd j h3).2 r hr (by omega),Rat.zero_mul]
    ·rw [if_neg h3,if_neg h1,Rat.mul_zero])]
   rw [h0 r (by omega) hr,Rat.zero_mul]) i hi
 rw [if_neg (by omega),if_pos rfl] at hx
 exact absurd hx (by decide)
theorem Dia.sol {n:Nat} {A:Fm} (hd:Dia n A n) {x:Nat→Rat} (hx:∀r,r < n→x r=A r n / A r r):Sol n A x:=by
 intro r hr
 unfold rowX
 rw [sN_only (a:=r) hr (fun j hj h1=>by rw [(hd j hj).2 r hr (Ne.symm h1),Rat.zero_mul]),hx r hr]
 have:=Rat.div_mul_cancel (a:=A r n) (hd r hr).1
 grind
theorem Inj.uniq {n:Nat} {A:Fm} (h:Inj n A) {x y:Nat→Rat} (hx:Sol n A x) (hy:Sol n A y):∀j,j < n→x j=y j:=by
 intro j hj
 have:=h (fun j=>x j - y j) (fun r hr=>by
  have e:rowX n A x r=rowX n A (fun j=>x j - y j) r+rowX n A y r:=by
   unfold rowX
   rw [←sN_add]
   exact sN_congr fun j hj=>by grind
  have h1:=hx r hr
  have h2:=hy r hr
  grind) j hj
 grind
def Tri (n:Nat) (A:Fm) (i:Nat):Prop:=∀c,c < i→A c c≠0∧∀r,r < n→c < r→A r c=0
theorem Tri.part {n i:Nat} {A:Fm} (hd:Tri n A i) (hi:i < n):∀d,d≤i→∃x:Nat→Rat,x i=1∧(∀j,i < j→x j=0)∧∀r,i - d≤r→r < i→rowX n A x r=0
 | 0,_=>⟨fun j=>if j=i then 1 else 0,if_pos rfl,fun j hj=>if_neg (by omega),fun r h1 h2=>by omega⟩
 | d+1,h=>by
  obtain ⟨x,h1,h2,h3⟩:=Tri.part hd hi d (by omega);obtain ⟨c,hc⟩:∃c,c=i - (d+1):=⟨_,rfl⟩;have hci:c < i:=by omega
  refine ⟨fun j=>if j=c then x c - rowX n A x c / A c c else x j,?_,fun j hj=>?_,fun r h4 h5=>?_⟩
  ·show (if i=c then _ else x i)=1;rw [if_neg (by omega),h1]
  ·show (if j=c then _ else x j)=0;rw [if_neg (by omega),h2 j hj]
  ·have e:rowX n A (fun j=>if j=c then x c - rowX n A x c / A c c else x j) r=rowX n A x r - A r c*(rowX n A x c / A c c):=by
    unfold rowX;have:(sN n fun j=>A r j*(if j=c then x c - (sN n fun j=>A c j*x j) / A c c else x j))+(sN n fun j=>if j=c then A r c*((sN n fun j=>A c j*x j) / A c c) else 0)=sN n fun j=>A r j*x j:=by
     rw [←sN_add];refine sN_congr fun j hj=>?_;by_cases e:j=c
     ·subst e;rw [if_pos rfl,if_pos rfl];grind
     ·rw [if_neg e,if_neg e];grind
    rw [sN_delta n c fun _=>A r c*((sN n fun j=>A c j*x j) / A c c),if_pos (by omega)] at this;grind
   rw [e];by_cases hr:r=c
   ·subst hr;have:=Rat.div_mul_cancel (a:=rowX n A x r) (hd r hci).1;grind
   ·rw [h3 r (by omega) h5,(hd c hci).2 r (by omega) (by omega)];grind
theorem Tri.pivot {n i:Nat} {A:Fm} (hd:Tri n A i) (hj:Inj n A) (hi:i < n):∃k,i≤k∧k < n∧A k i≠0:=by
 apply Classical.byContradiction
 intro hno
 have h0:∀k,i≤k→k < n→A k i=0:=fun k h1 h2=>Classical.byContradiction fun h3=>hno ⟨k,h1,h2,h3⟩
 obtain ⟨x,h1,h2,h3⟩:=hd.part hi i (Nat.le_refl _)
 have:=hj x (fun r hr=>by
  by_cases hri:r < i
  ·exact h3 r (by omega) hri
  ·unfold rowX
   have:(sN n fun j=>A r j*x j)=sN n fun _=>0:=sN_congr fun j hj=>by
    by_cases e1:j < i
    ·rw [(hd j e1).2 r hr (by omega),Rat.zero_mul]
    ·by_cases e2:j=i
     ·subst e2;rw [h0 r (by omega) hr,Rat.zero_mul]
     ·rw [h2 j (by omega),Rat.mul_zero]
   rw [this,sN_zero]) i hi
 rw [h1] at this
 exact absurd this (by decide)
end Go.V
namespace Go.V
def RowB (t:Nat) (r:List Rat):Prop:=∃E:Nat,E≠0∧bl E < t∧∀q,q∈r→∃z:Int,q*((E:Int):Rat)=(z:Rat)∧bl z.natAbs < t
theorem RowB.mono {t u:Nat} {r:List Rat} (h:RowB t r) (hu:t≤u):RowB u r:=by
 obtain ⟨E,h1,h2,h3⟩:=h
 refine ⟨E,h1,by omega,fun q hq=>?_⟩
 obtain ⟨z,h4,h5⟩:=h3 q hq
 exact ⟨z,h4,by omega⟩
theorem RowB.sz {t:Nat} {r:List Rat} (h:RowB t r) {q:Rat} (hq:q∈r):Go.V.sz q < t:=by
 obtain ⟨E,h1,h2,h3⟩:=h;obtain ⟨z,hz,h5⟩:=h3 q hq;have hp:(0:Rat) < ((E:Int):Rat):=by
  have:(0:Int) < (E:Int):=by omega
  exact_mod_cast this
 have e:q=mkRat (sgn (decide (z < 0)) z.natAbs) E:=by
  have h2:=natc E;have h6:sgn (decide (z < 0)) z.natAbs=z:=by
   unfold sgn;by_cases h:z < 0
   ·rw [decide_eq_true h,if_pos rfl];omega
   ·rw [decide_eq_false h];simp;omega
  rw [h6,Rat.mkRat_eq_div,←hz,h2,Rat.div_def,Rat.mul_assoc,Rat.mul_inv_cancel _ (Rat.ne_of_gt hp),Rat.mul_one]
 rw [e];have:=sz_mkRat (s:=decide (z < 0)) (t:=z.natAbs) h1;omega
theorem RowB.of_iz {E t:Nat} {r:List Rat} (hE:E≠0) (h1:bl E < t) (M:Nat) (hM:bl (M*E) < t) (h:∀q,q∈r→Iz E q∧-((M:Int):Rat)≤q∧q≤((M:Int):Rat)):RowB t r:=by
 refine ⟨E,hE,h1,fun q hq=>?_⟩;obtain ⟨⟨z,hz⟩,h2,h3⟩:=h q hq;refine ⟨z,hz,?_⟩;have hp:(0:Rat)≤((E:Int):Rat):=by exact_mod_cast (by omega:(0:Int)≤(E:Int))
 have hz1:z≤((M*E:Nat):Int):=by
  have:(z:Rat)≤(((M*E:Nat):Int):Rat):=by
   rw [←hz,Int.natCast_mul,Rat.intCast_mul];exact Rat.mul_le_mul_of_nonneg_right h3 hp
  exact_mod_cast this
 have hz2:-((M*E:Nat):Int)≤z:=by
  have:((-((M*E:Nat):Int):Int):Rat)≤(z:Rat):=by
   rw [←hz,Rat.intCast_neg,Int.natCast_mul,Rat.intCast_mul,←Rat.neg_mul];exact Rat.mul_le_mul_of_nonneg_right h2 hp
  exact_mod_cast this
 have:=bl_mono (a:=z.natAbs) (b:=M*E) (by omega);omega
def subRow (c m:Nat) (f:Rat) (b a:List Rat):List Rat:=(List.range a.length).map fun j=>if c≤j∧j < m then a.getD j 0 - f*b.getD j 0 else a.getD j 0
theorem subRow_len (c m:Nat) (f:Rat) (b a:List Rat):(subRow c m f b a).length=a.length:=by simp [subRow]
theorem subRow_at {c m:Nat} {f:Rat} {b a:List Rat} {j:Nat} (h:j < a.length):(subRow c m f b a).getD j 0=if c≤j∧j < m then a.getD j 0 - f*b.getD j 0 else a.getD j 0:=by
 rw [gD,List.getElem?_eq_getElem (by rw [subRow_len];exact h)];simp [subRow]
theorem subRow_none {c:Nat} {f:Rat} {b a:List Rat}:subRow c c f b a=a:=by
 apply list_getD_ext (subRow_len _ _ _ _ _)
 intro j hj
 rw [subRow_len] at hj
 rw [subRow_at hj,if_neg (by omega)]
theorem gsetD {α:Type} {xs:List α} {i j:Nat} {x d:α} (hi:i < xs.length):(xs.set i x).getD j d=if j=i then x else xs.getD j d:=by
 rw [gD,List.getElem?_set]
 by_cases h:i=j
 ·rw [if_pos h,if_pos hi,if_pos h.symm];rfl
 ·rw [if_neg h,if_neg (Ne.symm h),gD]
theorem subRow_next {c m:Nat} {f:Rat} {b a:List Rat} (hc:c≤m) (hm:m < a.length):(subRow c m f b a).set m (a.getD m 0 - f*b.getD m 0)=subRow c (m+1) f b a:=by
 apply list_getD_ext (by rw [List.length_set,subRow_len,subRow_len])
 intro j hj
 rw [List.length_set,subRow_len] at hj
 rw [gsetD (by rw [subRow_len];exact hm),subRow_at hj,subRow_at hj]
 by_cases h:j=m
 ·subst h;rw [if_pos rfl,if_pos ⟨hc,by omega⟩]
 ·rw [if_neg h]
  by_cases h2:c≤j∧j < m
  ·rw [if_pos h2,if_pos ⟨h2.1,by omega⟩]
  ·rw [if_neg h2,if_neg (by omega)]
theorem RowB.sub {t c m:Nat} {a b:List Rat} (ha:RowB t a) (hb:RowB t b) (hac:c < a.length) (hl:a.length≤b.length) (h0:b.getD c 0≠0):RowB (2*t) (subRow c m (a.getD c 0 / b.getD c 0) b a):=by
 obtain ⟨E,e1,e2,e3⟩:=ha;obtain ⟨F,f1,f2,f3⟩:=hb;obtain ⟨y,hy,hyb⟩:=f3 _ (getD_mem (xs:=b) (i:=c) (d:=0) (by omega));obtain ⟨x,hx,hxb⟩:=e3 _ (getD_mem (xs:=a) (i:=c) (d:=0) hac);have hF:((F:Int):Rat)≠0:=by exact_mod_cast (by omega:(F:Int)≠0)
 have hy0:y≠0:=fun e=>by
  rw [e] at hy;rcases Rat.mul_eq_zero.1 (show b.getD c 0*((F:Int):Rat)=0 from hy) with h | h
  ·exact h0 h
  ·exact hF h
 have hdiv:=Rat.div_mul_cancel (a:=a.getD c 0) h0;obtain ⟨f,ef⟩:∃f,a.getD c 0 / b.getD c 0=f:=⟨_,rfl⟩;rw [ef] at hdiv ⊢;obtain ⟨s,hs,hs2⟩:∃s:Int,((y.natAbs:Nat):Int)=s*y∧s.natAbs=1:=by
  by_cases h:0≤y
  ·exact ⟨1,by omega,rfl⟩
  ·exact ⟨-1,by omega,rfl⟩
 have bE:=bl_mul E y.natAbs;refine ⟨E*y.natAbs,Nat.mul_ne_zero e1 (by omega),by omega,fun q hq=>?_⟩;have eN:(((E*y.natAbs:Nat):Int):Rat)=((E:Int):Rat)*((s:Rat)*(y:Rat)):=by rw [Int.natCast_mul,Rat.intCast_mul,hs,Rat.intCast_mul]
 obtain ⟨j,hj,rfl⟩:=List.mem_map.1 hq;have hj:j < a.length:=by simpa using hj
 obtain ⟨xj,hxj,hxjb⟩:=e3 _ (getD_mem (xs:=a) (i:=j) (d:=0) hj);obtain ⟨yj,hyj,hyjb⟩:=f3 _ (getD_mem (xs:=b) (i:=j) (d:=0) (by omega));rw [eN];split
 ·refine ⟨s*(xj*y - x*yj),?_,?_⟩
  ·rw [Rat.intCast_mul,Rat.intCast_sub,Rat.intCast_mul,Rat.intCast_mul,←hxj,←hyj,←hx];have:f*(y:Rat)=a.getD c 0*((F:Int):Rat):=by rw [←hy,←Rat.mul_assoc,hdiv]
   grind
  ·have h1:(s*(xj*y - x*yj)).natAbs≤xj.natAbs*y.natAbs+x.natAbs*yj.natAbs:=by
    rw [Int.natAbs_mul,hs2,Nat.one_mul];have h1:=Int.natAbs_sub_le (xj*y) (x*yj);rw [Int.natAbs_mul,Int.natAbs_mul] at h1;omega
   have h2:=bl_mono h1;have h3:=bl_add (xj.natAbs*y.natAbs) (x.natAbs*yj.natAbs);have h4:=bl_mul xj.natAbs y.natAbs;have h5:=bl_mul x.natAbs yj.natAbs;omega
 ·refine ⟨s*(xj*y),?_,?_⟩
  ·rw [Rat.intCast_mul,Rat.intCast_mul,←hxj];grind
  ·rw [Int.natAbs_mul,hs2,Nat.one_mul,Int.natAbs_mul];have h4:=bl_mul xj.natAbs y.natAbs;omega
def lg (p:List Nat) (R:Mt) (r:Nat):List Rat:=R.getD (p.getD r 0) []
def lgF (p:List Nat) (R:Mt):Fm:=fun r j=>(lg p R r).getD j 0
def swapL {α:Type} (d:α) (xs:List α) (i k:Nat):List α:=(xs.set i (xs.getD k d)).set k (xs.getD i d)
theorem swapL_len {α:Type} (d:α) (xs:List α) (i k:Nat):(swapL d xs i k).length=xs.length:=by simp [swapL]
def swF (i k r:Nat):Nat:=if r=k then i else if r=i then k else r
theorem swapL_at {α:Type} {d:α} {xs:List α} {i k r:Nat} (hi:i < xs.length) (hk:k < xs.length):(swapL d xs i k).getD r d=xs.getD (swF i k r) d:=by
 unfold swapL swF
 rw [gsetD (by rw [List.length_set];exact hk),gsetD hi]
 by_cases h1:r=k
 ·rw [if_pos h1,if_pos h1]
 ·rw [if_neg h1,if_neg h1]
  by_cases h2:r=i
  ·rw [if_pos h2,if_pos h2]
  ·rw [if_neg h2,if_neg h2]
theorem swF_lt {n i k r:Nat} (hi:i < n) (hk:k < n) (hr:r < n):swF i k r < n:=by unfold swF;split;exact hi;split;exact hk;exact hr
theorem swF_two (i k r:Nat):swF i k (swF i k r)=r:=by
 unfold swF
 by_cases h1:r=k
 ·rw [if_pos h1]
  by_cases h2:i=k
  ·rw [if_pos h2];omega
  ·rw [if_neg h2,if_pos rfl,h1]
 ·rw [if_neg h1]
  by_cases h2:r=i
  ·rw [if_pos h2,if_pos rfl,h2]
  ·rw [if_neg h2,if_neg h1,if_neg h2]
structure Plc (n w:Nat) (p:List Nat) (R:Mt):Prop where
 pl:p.length=n
 rl:R.length=n
 lt:∀r,r < n→p.getD r 0 < n
 inj:∀r q,r < n→q < n→p.getD r 0=p.getD q 0→r=q
 wd:∀r,r < n→(lg p R r).length=w
theorem Plc.swap {n w:Nat} {p:List Nat} {R:Mt} (h:Plc n w p R) {i k:Nat} (hi:i < n) (hk:k < n):Plc n w (swapL 0 p i k) R:=by
 have e:∀r,(swapL 0 p i k).getD r 0=p.getD (swF i k r) 0:=fun r=>swapL_at (by rw [h.pl];exact hi) (by rw [h.pl];exact hk)
 refine ⟨by rw [swapL_len,h.pl],h.rl,fun r hr=>?_,fun r q hr hq hh=>?_,fun r hr=>?_⟩
 ·rw [e];exact h.lt _ (swF_lt hi hk hr)
 ·rw [e,e] at hh
  have:=h.inj _ _ (swF_lt hi hk hr) (swF_lt hi hk hq) hh
  rw [←swF_two i k r,this,swF_two]
 ·unfold lg;rw [e];exact h.wd _ (swF_lt hi hk hr)
theorem lg_swap {n w:Nat} {p:List Nat} {R:Mt} (h:Plc n w p R) {i k:Nat} (hi:i < n) (hk:k < n) (r:Nat):lg (swapL 0 p i k) R r=lg p R (swF i k r):=by
 unfold lg
 rw [swapL_at (by rw [h.pl];exact hi) (by rw [h.pl];exact hk)]
theorem lg_set {n w:Nat} {p:List Nat} {R:Mt} (h:Plc n w p R) {r q:Nat} {x:List Rat} (hr:r < n) (hq:q < n):lg p (R.set (p.getD r 0) x) q=if q=r then x else lg p R q:=by
 unfold lg
 rw [gsetD (by rw [h.rl];exact h.lt r hr)]
 by_cases e:q=r
 ·subst e;rw [if_pos rfl,if_pos rfl]
 ·rw [if_neg e,if_neg (fun hh=>e (h.inj q r hq hr hh))]
theorem Plc.set {n w:Nat} {p:List Nat} {R:Mt} (h:Plc n w p R) {r:Nat} {x:List Rat} (hr:r < n) (hx:x.length=w):Plc n w p (R.set (p.getD r 0) x) :=
 ⟨h.pl,by rw [List.length_set,h.rl],h.lt,h.inj,fun q hq=>by
  rw [lg_set h hr hq]
  split
  ·exact hx
  ·exact h.wd q hq⟩
def pivF (A:Fm) (c:Nat):Nat→Nat→Nat
 | 0,k=>k
 | f+1,k=>if A k c=0 then pivF A c f (k+1) else k
theorem pivF_next {A:Fm} {c n k:Nat} (h:k < n):pivF A c (n - k) k=if A k c=0 then pivF A c (n - (k+1)) (k+1) else k:=by
 rw [show n - k=(n - (k+1))+1 by omega,pivF]
theorem pivF_is {A:Fm} {c:Nat}:∀(f k:Nat),(∃j,k≤j∧j < k+f∧A j c≠0)→k≤pivF A c f k∧pivF A c f k < k+f∧A (pivF A c f k) c≠0
 | 0,k,⟨j,h1,h2,_⟩=>by omega
 | f+1,k,⟨j,h1,h2,h3⟩=>by
  unfold pivF
  by_cases h:A k c=0
  ·rw [if_pos h]
   have:=pivF_is f (k+1) ⟨j,by rcases Nat.lt_or_eq_of_le h1 with h4 | h4;omega;subst h4;exact absurd h h3,by omega,h3⟩
   exact ⟨by omega,by omega,this.2.2⟩
  ·rw [if_neg h];exact ⟨Nat.le_refl _,by omega,h⟩
def elRow (c:Nat) (sk:Nat→Bool) (b a:List Rat) (r:Nat):List Rat:=if sk r=true∨a.getD c 0=0 then a else subRow c a.length (a.getD c 0 / b.getD c 0) b a
def elimR (p:List Nat) (c:Nat) (sk:Nat→Bool):Nat→Mt→Mt
 | 0,R=>R
 | r+1,R=>(elimR p c sk r R).set (p.getD r 0) (elRow c sk (lg p (elimR p c sk r R) c) (lg p (elimR p c sk r R) r) r)
theorem elRow_len (c:Nat) (sk:Nat→Bool) (b a:List Rat) (r:Nat):(elRow c sk b a r).length=a.length:=by unfold elRow;split;rfl;exact subRow_len _ _ _ _ _
theorem elimR_is {n w c:Nat} {p:List Nat} {R:Mt} {sk:Nat→Bool} (h:Plc n w p R) (hc:c < n) (hs:sk c=true):∀r,r≤n→Plc n w p (elimR p c sk r R)∧∀q,q < n→lg p (elimR p c sk r R) q=if q < r then elRow c sk (lg p R c) (lg p R q) q else lg p R q
 | 0,_=>⟨h,fun q hq=>by rw [if_neg (by omega)];rfl⟩
 | r+1,hr=>by
  obtain ⟨h1,h2⟩:=elimR_is h hc hs r (by omega);have ec:lg p (elimR p c sk r R) c=lg p R c:=by
   rw [h2 c hc];split
   ·unfold elRow;rw [if_pos (.inl hs)]
   ·rfl
  have er:lg p (elimR p c sk r R) r=lg p R r:=by rw [h2 r (by omega),if_neg (by omega)]
  refine ⟨h1.set (by omega) (by rw [elRow_len,er];exact h.wd r (by omega)),fun q hq=>?_⟩;show lg p ((elimR p c sk r R).set (p.getD r 0) _) q=_;rw [lg_set h1 (by omega) hq,ec,er];by_cases e:q=r
  ·subst e;rw [if_pos rfl,if_pos (by omega)]
  ·rw [if_neg e,h2 q hq];by_cases e2:q < r
   ·rw [if_pos e2,if_pos (by omega)]
   ·rw [if_neg e2,if_neg (by omega)]
def gjN (n:Nat) (sk:Nat→Nat→Bool) (s:List Nat×Mt):Nat→List Nat×Mt
 | 0=>s
 | i+1 =>
  let p:=swapL 0 (gjN n sk s i).1 i (pivF (lgF (gjN n sk s i).1 (gjN n sk s i).2) i (n - i) i)
  (p,elimR p i (sk i) n (gjN n sk s i).2)
theorem elRow_at {c:Nat} {sk:Nat→Bool} {b a:List Rat} {r j w:Nat} (ha:a.length=w) (hj:j < w) (hb:∀j,j < c→b.getD j 0=0) :
  (elRow c sk b a r).getD j 0=a.getD j 0 - (if sk r=true then 0 else a.getD c 0 / b.getD c 0)*b.getD j 0:=by
 unfold elRow
 by_cases h:sk r=true
 ·rw [if_pos (.inl h),if_pos h,Rat.zero_mul];grind
 ·rw [if_neg h]
  by_cases h2:a.getD c 0=0
  ·rw [if_pos (.inr h2),h2,Rat.div_def,Rat.zero_mul,Rat.zero_mul];grind
  ·rw [if_neg (by rintro (h3 | h3);exact h h3;exact h2 h3),subRow_at (by omega)]
   by_cases h3:c≤j∧j < a.length
   ·rw [if_pos h3]
   ·rw [if_neg h3,hb j (by omega),Rat.mul_zero];grind
theorem elim_step {n i k:Nat} {p:List Nat} {R:Mt} {sk:Nat→Bool} (h:Plc n (n+1) p R) (hi:i < n) (hk:k < n) (hs:sk i=true) (h0:lgF p R k i≠0) (hb:∀j,j < i→lgF p R k j=0) :
  Plc n (n+1) (swapL 0 p i k) (elimR (swapL 0 p i k) i sk n R)∧Eqv n (lgF p R) (lgF (swapL 0 p i k) (elimR (swapL 0 p i k) i sk n R)) ∧
   ∀r,r < n→∀j,j≤n→lgF (swapL 0 p i k) (elimR (swapL 0 p i k) i sk n R) r j=lgF p R (swF i k r) j - (if sk r=true then 0 else lgF p R (swF i k r) i / lgF p R k i)*lgF p R k j:=by
 have hp:=h.swap hi hk;obtain ⟨g1,g2⟩:=elimR_is hp hi hs n (Nat.le_refl _);have esw:swF i k i=k:=by unfold swF;by_cases e:i=k;rw [if_pos e];exact e;rw [if_neg e,if_pos rfl]
 have ei:lg (swapL 0 p i k) R i=lg p R k:=by rw [lg_swap h hi hk,esw]
 have hent:∀r,r < n→∀j,j≤n→lgF (swapL 0 p i k) (elimR (swapL 0 p i k) i sk n R) r j=lgF p R (swF i k r) j - (if sk r=true then 0 else lgF p R (swF i k r) i / lgF p R k i)*lgF p R k j:=fun r hr j hj=>by
  unfold lgF;rw [g2 r hr,if_pos hr,ei,lg_swap h hi hk,elRow_at (w:=n+1) (h.wd _ (swF_lt hi hk hr)) (by omega) hb]
 refine ⟨g1,?_,hent⟩;have e1:Eqv n (lgF p R) (fun r j=>lgF p R (swF i k r) j):=Eqv.swap (swF i k) (fun r hr=>swF_lt hi hk hr) (fun r _=>swF_two i k r) fun r _ j _=>rfl;refine e1.trans (Eqv.sub hi (fun r=>if sk r=true then 0 else lgF p R (swF i k r) i / lgF p R k i) (if_pos hs) fun r hr j hj=>?_);rw [hent r hr j hj,esw]
theorem RowB.el {t c r:Nat} {sk:Nat→Bool} {a b:List Rat} (ha:RowB t a) (hb:RowB t b) (hac:c < a.length) (hl:a.length≤b.length) (h0:b.getD c 0≠0):RowB (2*t) (elRow c sk b a r):=by
 unfold elRow
 split
 ·exact ha.mono (by omega)
 ·exact ha.sub hb hac hl h0
structure Gj (n t:Nat) (A:Fm) (p:List Nat) (R:Mt) (i:Nat):Prop where
 pl:Plc n (n+1) p R
 eq:Eqv n A (lgF p R)
 dia:Dia n (lgF p R) i
 row:∀r,r < n→RowB (2 ^ i*t) (lg p R r)
abbrev skJ (i r:Nat):Bool:=decide (r=i)
theorem Gj.piv {n t i:Nat} {A:Fm} {p:List Nat} {R:Mt} (h:Gj n t A p R i) (hA:Inj n A) (hi:i < n):i≤pivF (lgF p R) i (n - i) i∧pivF (lgF p R) i (n - i) i < n∧lgF p R (pivF (lgF p R) i (n - i) i) i≠0:=by
 obtain ⟨k,h1,h2,h3⟩:=h.dia.pivot (h.eq.inj hA) hi
 have:=pivF_is (A:=lgF p R) (c:=i) (n - i) i ⟨k,h1,by omega,h3⟩
 exact ⟨this.1,by omega,this.2.2⟩
theorem Gj.next {n t i:Nat} {A:Fm} {p:List Nat} {R:Mt} (h:Gj n t A p R i) (hi:i < n) {k:Nat} (hik:i≤k) (hk:k < n) (h0:lgF p R k i≠0):Gj n t A (swapL 0 p i k) (elimR (swapL 0 p i k) i (skJ i) n R) (i+1):=by
 have hb:∀j,j < i→lgF p R k j=0:=fun j hj=>(h.dia j hj).2 k hk (by omega);obtain ⟨g1,g2,g3⟩:=elim_step h.pl hi hk (sk:=skJ i) (decide_eq_true rfl) h0 hb;refine ⟨g1,h.eq.trans g2,fun c hc=>?_,fun r hr=>?_⟩
 ·by_cases e:c=i
  ·subst e;refine ⟨?_,fun r hr hne=>?_⟩
   ·rw [g3 c hi c (by omega),if_pos (decide_eq_true rfl)];have esw:swF c k c=k:=by unfold swF;by_cases e:c=k;rw [if_pos e];exact e;rw [if_neg e,if_pos rfl]
    rw [esw];grind
   ·rw [g3 r hr c (by omega),if_neg (by rw [decide_eq_true_eq];exact hne)];have:=Rat.div_mul_cancel (a:=lgF p R (swF c k r) c) h0;grind
  ·have hci:c < i:=by omega
   obtain ⟨d1,d2⟩:=h.dia c hci;have z:∀r,r < n→r≠c→lgF p R (swF i k r) c=0:=fun r hr hne=>d2 _ (swF_lt hi hk hr) (by unfold swF;split;omega;split;omega;exact hne);refine ⟨?_,fun r hr hne=>?_⟩
   ·rw [g3 c (by omega) c (by omega),hb c hci,Rat.mul_zero];have:swF i k c=c:=by unfold swF;rw [if_neg (by omega),if_neg e]
    rw [this];grind
   ·rw [g3 r hr c (by omega),hb c hci,Rat.mul_zero,z r hr hne];grind
 ·have hp:=h.pl.swap hi hk;obtain ⟨_,g5⟩:=elimR_is (sk:=skJ i) hp hi (decide_eq_true rfl) n (Nat.le_refl _);rw [g5 r hr,if_pos hr,lg_swap h.pl hi hk,lg_swap h.pl hi hk];have esw:swF i k i=k:=by unfold swF;by_cases e:i=k;rw [if_pos e];exact e;rw [if_neg e,if_pos rfl]
  rw [esw];have w1:=h.pl.wd _ (swF_lt hi hk hr);have w2:=h.pl.wd _ hk;have:=(h.row _ (swF_lt hi hk hr)).el (r:=r) (sk:=skJ i) (h.row _ hk) (c:=i) (by omega) (by omega) h0;rwa [←Nat.mul_assoc,←Nat.pow_succ'] at this
theorem gjN_ok {n t:Nat} {A:Fm} {s:List Nat×Mt} (h:Gj n t A s.1 s.2 0) (hA:Inj n A):∀i,i≤n→Gj n t A (gjN n skJ s i).1 (gjN n skJ s i).2 i
 | 0,_=>h
 | i+1,hi=>by
  have ih:=gjN_ok h hA i (by omega)
  obtain ⟨h1,h2,h3⟩:=ih.piv hA (by omega)
  exact ih.next (by omega) h1 h2 h3
def gjX (n:Nat) (s:List Nat×Mt):List Rat:=(List.range n).map fun i=>lgF (gjN n skJ s n).1 (gjN n skJ s n).2 i n / lgF (gjN n skJ s n).1 (gjN n skJ s n).2 i i
theorem gjX_len (n:Nat) (s:List Nat×Mt):(gjX n s).length=n:=by simp [gjX]
theorem gjX_at {n:Nat} {s:List Nat×Mt} {i:Nat} (h:i < n):(gjX n s).getD i 0=lgF (gjN n skJ s n).1 (gjN n skJ s n).2 i n / lgF (gjN n skJ s n).1 (gjN n skJ s n).2 i i:=by
 rw [gD,List.getElem?_eq_getElem (by rw [gjX_len];exact h)];simp [gjX]
theorem gjX_sol {n t:Nat} {A:Fm} {s:List Nat×Mt} (h:Gj n t A s.1 s.2 0) (hA:Inj n A):Sol n A fun i=>(gjX n s).getD i 0 :=
 ((gjN_ok h hA n (Nat.le_refl _)).eq.s _).2 ((gjN_ok h hA n (Nat.le_refl _)).dia.sol fun r hr=>gjX_at hr)
theorem gjX_is {n t:Nat} {A:Fm} {s:List Nat×Mt} (h:Gj n t A s.1 s.2 0) (hA:Inj n A) {x:List Rat} (hl:x.length=n) (hx:Sol n A fun i=>x.getD i 0):gjX n s=x:=by
 apply list_getD_ext (by rw [gjX_len,hl])
 intro i hi
 rw [gjX_len] at hi
 exact hA.uniq (gjX_sol h hA) hx i hi
end Go.V
namespace Go.V
def St (n:Nat) (m:Fm) (w:Nat→Rat):Prop:=∀j,j < n→(sN n fun i=>w i*m i j)=w j
structure Sto (n:Nat) (m:Fm):Prop where
 pos:∀i j,i < n→j < n→0≤m i j
 one:∀i,i < n→sN n (m i)=1
def Cl (n:Nat) (m:Fm) (s:Nat):Prop:=∀T:Nat→Prop,(∃i,i < n∧T i)→(∀i j,i < n→j < n→T i→0 < m i j→T j)→T s
theorem sN_eq_zero {n:Nat} {f:Nat→Rat} (h:∀i,i < n→0≤f i) (h0:sN n f=0):∀i,i < n→f i=0:=by
 intro i hi
 have h1:=sN_one_le hi h
 have h2:=h i hi
 grind
theorem sN_neg (n:Nat) (f:Nat→Rat):(sN n fun i=>-f i) = -sN n f:=by
 have:=sN_mul n (-1) f
 have e:(sN n fun i=>-f i)=sN n fun i=>(-1)*f i:=sN_congr fun i _=>by grind
 rw [e,this];grind
theorem St.abs {n:Nat} {P:Fm} (hP:Sto n P) {w a:Nat→Rat} (hw:St n P w) (ha:∀i,i < n→w i≤a i∧-w i≤a i∧(a i=w i∨a i = -w i)):St n P a:=by
 have hd:∀j,j < n→0≤(sN n fun i=>a i*P i j) - a j:=fun j hj=>by
  have h1:(sN n fun i=>w i*P i j)≤sN n fun i=>a i*P i j:=sN_le fun i hi=>Rat.mul_le_mul_of_nonneg_right (ha i hi).1 (hP.pos i j hi hj)
  have h2:(sN n fun i=>(-w i)*P i j)≤sN n fun i=>a i*P i j:=sN_le fun i hi=>Rat.mul_le_mul_of_nonneg_right (ha i hi).2.1 (hP.pos i j hi hj)
  have h3:(sN n fun i=>(-w i)*P i j) = -(sN n fun i=>w i*P i j):=by
   rw [←sN_neg];exact sN_congr fun i _=>Rat.neg_mul _ _
  have h4:=hw j hj
  rcases (ha j hj).2.2 with h | h <;> rw [h] <;> grind
 have hs:(sN n fun j=>(sN n fun i=>a i*P i j) - a j)=0:=by
  have e1:(sN n fun j=>(sN n fun i=>a i*P i j) - a j)=(sN n fun j=>sN n fun i=>a i*P i j)+sN n fun j=>-a j:=by
   rw [←sN_add];exact sN_congr fun j _=>Rat.sub_eq_add_neg _ _
  rw [e1,←sN_comm,sN_neg]
  have e2:(sN n fun i=>sN n fun j=>a i*P i j)=sN n a:=sN_congr fun i hi=>by rw [sN_mul,hP.one i hi,Rat.mul_one]
  rw [e2];grind
 intro j hj
 have:=sN_eq_zero hd hs j hj
 grind
theorem St.spread {n:Nat} {P:Fm} (hP:Sto n P) {u:Nat→Rat} (hu:St n P u) (h0:∀i,i < n→0≤u i) {i j:Nat} (hi:i < n) (hj:j < n) (h1:0 < u i) (h2:0 < P i j):0 < u j:=by
 rw [←hu j hj]
 have h3:=sN_one_le (f:=fun i=>u i*P i j) hi fun k hk=>Rat.mul_nonneg (h0 k hk) (hP.pos k j hk hj)
 have h4:=Rat.mul_pos h1 h2
 grind
theorem St.add {n:Nat} {P:Fm} {u v:Nat→Rat} (hu:St n P u) (hv:St n P v):St n P fun i=>u i+v i:=fun j hj=>by
 have e:(sN n fun i=>(u i+v i)*P i j)=(sN n fun i=>u i*P i j)+sN n fun i=>v i*P i j:=by
  rw [←sN_add];exact sN_congr fun i _=>Rat.add_mul _ _ _
 rw [e,hu j hj,hv j hj]
theorem St.smul {n:Nat} {P:Fm} {u:Nat→Rat} (hu:St n P u) (c:Rat):St n P fun i=>c*u i:=fun j hj=>by
 have e:(sN n fun i=>c*u i*P i j)=c*sN n fun i=>u i*P i j:=by
  rw [←sN_mul];exact sN_congr fun i _=>Rat.mul_assoc _ _ _
 rw [e,hu j hj]
theorem St.uniq {n s:Nat} {P:Fm} (hP:Sto n P) (hc:Cl n P s) (hs:s < n) {w:Nat→Rat} (hw:St n P w) (h0:sN n w=0):∀i,i < n→w i=0:=by
 have ha:∀i,i < n→w i≤(if w i < 0 then -w i else w i)∧-w i≤(if w i < 0 then -w i else w i)∧((if w i < 0 then -w i else w i)=w i∨(if w i < 0 then -w i else w i) = -w i):=fun i _=>by
  by_cases h:w i < 0
  ·rw [if_pos h];exact ⟨by grind,by grind,.inr rfl⟩
  ·rw [if_neg h];have:=Rat.not_lt.1 h;exact ⟨by grind,by grind,.inl rfl⟩
 obtain ⟨a,ea⟩:∃a:Nat→Rat,a=fun i=>if w i < 0 then -w i else w i:=⟨_,rfl⟩
 have ha:∀i,i < n→w i≤a i∧-w i≤a i∧(a i=w i∨a i = -w i):=by rw [ea];exact ha
 have hA:=hw.abs hP ha;have hu:=hA.add hw;have hv:=hA.add (hw.smul (-1));have u0:∀i,i < n→0≤a i+w i:=fun i hi=>by have:=(ha i hi).2.1;grind
 have v0:∀i,i < n→0≤a i+(-1)*w i:=fun i hi=>by have:=(ha i hi).1;grind
 by_cases h1:∃i,i < n∧0 < a i+w i
 ·have us:=hc (fun i=>0 < a i+w i) h1 fun i j hi hj h2 h3=>hu.spread hP u0 hi hj h2 h3;have hz:∀i,i < n→a i+(-1)*w i=0:=fun i hi=>Classical.byContradiction fun hne=>by
   have hp:0 < a i+(-1)*w i:=by have:=v0 i hi;grind
   have vs:=hc (fun i=>0 < a i+(-1)*w i) ⟨i,hi,hp⟩ fun i j hi hj h2 h3=>hv.spread hP v0 hi hj h2 h3;rcases (ha s hs).2.2 with h | h <;> grind
  exact sN_eq_zero (fun i hi=>by have:=hz i hi;have:=(ha i hi).2.1;grind) h0
 ·have hz:∀i,i < n→a i+w i=0:=fun i hi=>Classical.byContradiction fun hne=>h1 ⟨i,hi,by have:=u0 i hi;grind⟩;intro i hi;have h2:sN n (fun i=>-w i)=0:=by rw [sN_neg,h0];grind
  have:=sN_eq_zero (f:=fun i=>-w i) (fun i hi=>by have:=hz i hi;have:=(ha i hi).1;grind) h2 i hi;grind
def outM (m:Fm) (k:Nat):Rat:=sN k (m k)
def redM (m:Fm) (k:Nat):Fm:=fun i j=>if i < k∧j < k then m i j+m i k / outM m k*m k j else if i < k∧j=k then m i k / outM m k else m i j
theorem Cl.out {k:Nat} {m:Fm} (hm:Sto (k+1) m) (hc:Cl (k+1) m 0) (hk:1≤k):0 < outM m k:=by
 have h0:0≤outM m k:=sN_nonneg fun j hj=>hm.pos k j (by omega) (by omega);refine Classical.byContradiction fun hn=>?_;have hz:outM m k=0:=by grind
 have:=hc (fun i=>i=k) ⟨k,by omega,rfl⟩ fun i j hi hj h1 h2=>by
  subst h1;refine Classical.byContradiction fun hne=>?_;have:=sN_eq_zero (fun j hj=>hm.pos i j (by omega) (by omega)) hz j (by omega);rw [this] at h2;exact absurd h2 (by decide)
 omega
theorem Sto.red {k:Nat} {m:Fm} (hm:Sto (k+1) m) (hc:Cl (k+1) m 0) (hk:1≤k):Sto k (redM m k):=by
 have ho:=hc.out hm hk;have hne:=Rat.ne_of_gt ho;refine ⟨fun i j hi hj=>?_,fun i hi=>?_⟩
 ·unfold redM;rw [if_pos ⟨hi,hj⟩];have h1:=hm.pos i j (by omega) (by omega);have h2:=hm.pos i k (by omega) (by omega);have h3:=hm.pos k j (by omega) (by omega);have h4:0≤m i k / outM m k:=by rw [Rat.div_def];exact Rat.mul_nonneg h2 (Rat.le_of_lt (Rat.inv_pos.2 ho))
  have h5:=Rat.mul_nonneg h4 h3;grind
 ·have e:sN k (redM m k i)=sN k fun j=>m i j+m i k / outM m k*m k j:=sN_congr fun j hj=>by unfold redM;rw [if_pos ⟨hi,hj⟩]
  rw [e,sN_add,sN_mul];have h1:sN k (fun j=>m k j)=outM m k:=rfl;rw [h1,Rat.div_mul_cancel hne];exact hm.one i (by omega)
theorem Cl.red {k:Nat} {m:Fm} (hm:Sto (k+1) m) (hc:Cl (k+1) m 0) (hk:1≤k):Cl k (redM m k) 0:=by
 have ho:=hc.out hm hk;intro T ⟨i0,hi0,hT⟩ hcl;have hge:∀i j,i < k→j < k→0 < m i j→0 < redM m k i j:=fun i j hi hj h=>by
  unfold redM;rw [if_pos ⟨hi,hj⟩];have h2:=hm.pos i k (by omega) (by omega);have h3:=hm.pos k j (by omega) (by omega);have h4:0≤m i k / outM m k:=by rw [Rat.div_def];exact Rat.mul_nonneg h2 (Rat.le_of_lt (Rat.inv_pos.2 ho))
  have h5:=Rat.mul_nonneg h4 h3;grind
 have hvia:∀i j,i < k→j < k→0 < m i k→0 < m k j→0 < redM m k i j:=fun i j hi hj h h'=>by
  unfold redM;rw [if_pos ⟨hi,hj⟩];have h1:=hm.pos i j (by omega) (by omega);have h4:0 < m i k / outM m k:=by rw [Rat.div_def];exact Rat.mul_pos h (Rat.inv_pos.2 ho)
  have h5:=Rat.mul_pos h4 h';grind
 have:=hc (fun i=>(i < k∧T i)∨(i=k∧∃q,q < k∧T q∧0 < m q k)) ⟨i0,by omega,.inl ⟨hi0,hT⟩⟩ fun i j hi hj h1 h2=>by
  rcases h1 with ⟨h3,h4⟩ | ⟨h3,q,h4,h5,h6⟩
  ·by_cases hjk:j < k
   ·exact .inl ⟨hjk,hcl i j h3 hjk h4 (hge i j h3 hjk h2)⟩
   ·have:j=k:=by omega
    subst this;exact .inr ⟨rfl,i,h3,h4,h2⟩
  ·subst h3;by_cases hjk:j < i
   ·exact .inl ⟨hjk,hcl q j h4 hjk h5 (hvia q j h4 hjk h6 h2)⟩
   ·have:j=i:=by omega
    exact .inr ⟨this,q,h4,h5,h6⟩
 rcases this with ⟨_,h⟩ | ⟨h,_⟩
 ·exact h
 ·omega
def gthM:Nat→Fm→Fm
 | 0,m=>m
 | k+1,m=>gthM k (redM m (k+1))
theorem gthM_col {c i:Nat}:∀{k:Nat} {m:Fm},k < c→gthM k m i c=m i c
 | 0,_,_=>rfl
 | k+1,m,h=>by
  show gthM k (redM m (k+1)) i c=m i c
  rw [gthM_col (by omega)]
  unfold redM
  rw [if_neg (by omega),if_neg (by omega)]
def wL (M:Fm):Nat→List Rat
 | 0=>[1]
 | k+1=>wL M k++[sN (k+1) fun i=>(wL M k).getD i 0*M i (k+1)]
theorem wL_len (M:Fm):∀k,(wL M k).length=k+1
 | 0=>rfl
 | k+1=>by simp [wL,wL_len M k]
theorem wL_low {M:Fm} {k i:Nat} (h:i≤k):(wL M (k+1)).getD i 0=(wL M k).getD i 0:=by
 show (wL M k++_).getD i 0=_
 rw [gD,List.getElem?_append_left (by rw [wL_len];omega),gD]
theorem wL_top {M:Fm} {k:Nat}:(wL M (k+1)).getD (k+1) 0=sN (k+1) fun i=>(wL M k).getD i 0*M i (k+1):=by
 show (wL M k++_).getD (k+1) 0=_
 rw [gD,List.getElem?_append_right (by rw [wL_len];omega),wL_len]
 simp
theorem gth_st:∀(k:Nat) (m:Fm),Sto (k+1) m→Cl (k+1) m 0→St (k+1) m (fun i=>(wL (gthM k m) k).getD i 0)∧(∀i,i≤k→0≤(wL (gthM k m) k).getD i 0)∧(wL (gthM k m) k).getD 0 0=1
 | 0,m,hm,_=>by
  refine ⟨fun j hj=>?_,fun i hi=>?_,rfl⟩
  ·have:j=0:=by omega
   subst this;have h1:=hm.one 0 (by omega);have h2:sN 1 (m 0)=0+m 0 0:=rfl;show (0:Rat)+1*m 0 0=1;grind
  ·have:i=0:=by omega
   subst this;show (0:Rat)≤1;decide
 | k+1,m,hm,hc=>by
  have ho:=hc.out hm (by omega);have hne:=Rat.ne_of_gt ho;obtain ⟨h1,h2,h3⟩:=gth_st k (redM m (k+1)) (hm.red hc (by omega)) (hc.red hm (by omega));obtain ⟨M,eM⟩:∃M,gthM k (redM m (k+1))=M:=⟨_,rfl⟩;rw [eM] at h1 h2 h3;have eM2:gthM (k+1) m=M:=eM;rw [eM2];have hcol:∀i,i < k+1→M i (k+1)=m i (k+1) / outM m (k+1):=fun i hi=>by
   rw [←eM,gthM_col (by omega)];unfold redM;rw [if_neg (by omega),if_pos ⟨hi,rfl⟩]
  obtain ⟨v,ev⟩:∃v:Nat→Rat,(fun i=>(wL M k).getD i 0)=v:=⟨_,rfl⟩;obtain ⟨x,ex⟩:∃x:Rat,(wL M (k+1)).getD (k+1) 0=x:=⟨_,rfl⟩;have hv:∀i,(wL M k).getD i 0=v i:=fun i=>by rw [←ev]
  have hw:∀i,i < k+1→(wL M (k+1)).getD i 0=v i:=fun i hi=>by rw [wL_low (by omega),hv]
  have hx:x*outM m (k+1)=sN (k+1) fun i=>v i*m i (k+1):=by
   rw [←ex,wL_top];have e:(sN (k+1) fun i=>(wL M k).getD i 0*M i (k+1))=sN (k+1) fun i=>(outM m (k+1))⁻¹*(v i*m i (k+1)):=sN_congr fun i hi=>by
    rw [hcol i hi,hv,Rat.div_def];grind
   rw [e,sN_mul];have:=Rat.mul_inv_cancel _ hne;grind
  rw [ev] at h1;refine ⟨fun j hj=>?_,fun i hi=>?_,?_⟩
  ·have es:(sN (k+1+1) fun i=>(wL M (k+1)).getD i 0*m i j)=(sN (k+1) fun i=>v i*m i j)+x*m (k+1) j:=by
    show (sN (k+1) fun i=>(wL M (k+1)).getD i 0*m i j)+(wL M (k+1)).getD (k+1) 0*m (k+1) j=_;rw [ex]
    congr 1
    exact sN_congr fun i hi=>by rw [hw i hi]
   rw [es];dsimp only;by_cases hjk:j < k+1
   ·rw [hw j hjk];have h4:=h1 j hjk;have e5:(sN (k+1) fun i=>v i*redM m (k+1) i j)=(sN (k+1) fun i=>v i*m i j)+x*m (k+1) j:=by
     have:(sN (k+1) fun i=>v i*redM m (k+1) i j)=(sN (k+1) fun i=>v i*m i j)+sN (k+1) fun i=>(m (k+1) j / outM m (k+1))*(v i*m i (k+1)):=by
      rw [←sN_add];refine sN_congr fun i hi=>?_;unfold redM;rw [if_pos ⟨hi,hjk⟩,Rat.div_def,Rat.div_def];grind
     rw [this,sN_mul,←hx,Rat.div_def];have:=Rat.mul_inv_cancel _ hne;grind
    rw [←e5,h4]
   ·have:j=k+1:=by omega
    subst this;rw [ex,←hx];have h6:=hm.one (k+1) (by omega);have h7:sN (k+1+1) (m (k+1))=outM m (k+1)+m (k+1) (k+1):=rfl;have:x*outM m (k+1)+x*m (k+1) (k+1)=x*(outM m (k+1)+m (k+1) (k+1)):=by grind
    rw [this,←h7,h6,Rat.mul_one]
  ·by_cases hik:i < k+1
   ·rw [hw i hik,←hv];exact h2 i (by omega)
   ·have:i=k+1:=by omega
    subst this;rw [wL_top];refine sN_nonneg fun q hq=>Rat.mul_nonneg (h2 q (by omega)) ?_;rw [hcol q hq,Rat.div_def];exact Rat.mul_nonneg (hm.pos q (k+1) (by omega) (by omega)) (Rat.le_of_lt (Rat.inv_pos.2 ho))
  ·rw [hw 0 (by omega),←hv];exact h3
end Go.V
namespace Go.V
def redRow (k u:Nat) (out:Rat) (b a:List Rat):List Rat:=(List.range a.length).map fun j=>if j < u then a.getD j 0+a.getD k 0 / out*b.getD j 0 else if j=k then a.getD k 0 / out else a.getD j 0
theorem redRow_len (k u:Nat) (out:Rat) (b a:List Rat):(redRow k u out b a).length=a.length:=by simp [redRow]
theorem redRow_at {k u:Nat} {out:Rat} {b a:List Rat} {j:Nat} (h:j < a.length):(redRow k u out b a).getD j 0=if j < u then a.getD j 0+a.getD k 0 / out*b.getD j 0 else if j=k then a.getD k 0 / out else a.getD j 0:=by
 rw [gD,List.getElem?_eq_getElem (by rw [redRow_len];exact h)];simp [redRow]
theorem redRow_start {k:Nat} {out:Rat} {b a:List Rat} (h:k < a.length):a.set k (a.getD k 0 / out)=redRow k 0 out b a:=by
 apply list_getD_ext (by rw [List.length_set,redRow_len])
 intro j hj
 rw [List.length_set] at hj
 rw [gsetD h,redRow_at hj,if_neg (Nat.not_lt_zero _)]
theorem redRow_next {k u:Nat} {out:Rat} {b a:List Rat} (hu:u < k) (h:k < a.length):(redRow k u out b a).set u ((redRow k u out b a).getD u 0+(redRow k u out b a).getD k 0*b.getD u 0)=redRow k (u+1) out b a:=by
 apply list_getD_ext (by rw [List.length_set,redRow_len,redRow_len]);intro j hj;rw [List.length_set,redRow_len] at hj;have g1:(redRow k u out b a).getD u 0=a.getD u 0:=by rw [redRow_at (by omega),if_neg (by omega),if_neg (by omega)]
 have g2:(redRow k u out b a).getD k 0=a.getD k 0 / out:=by rw [redRow_at h,if_neg (by omega),if_pos rfl]
 rw [gsetD (by rw [redRow_len];omega),g1,g2,redRow_at hj,redRow_at hj];by_cases e:j=u
 ·subst e;rw [if_pos rfl,if_pos (by omega)]
 ·rw [if_neg e];by_cases e2:j < u
  ·rw [if_pos e2,if_pos (show j < u+1 by omega)]
  ·rw [if_neg e2,if_neg (show ¬j < u+1 by omega)]
theorem redRow_zero {k u:Nat} {out:Rat} {b a:List Rat} (hu:u≤k) (h:a.getD k 0 / out=0):redRow k u out b a=redRow k 0 out b a:=by
 apply list_getD_ext (by rw [redRow_len,redRow_len])
 intro j hj
 rw [redRow_len] at hj
 rw [redRow_at hj,redRow_at hj,h,if_neg (Nat.not_lt_zero _)]
 by_cases e:j < u
 ·rw [if_pos e,Rat.zero_mul,Rat.add_zero,if_neg (by omega)]
 ·rw [if_neg e]
def outL (b:List Rat) (k:Nat):Rat:=sN k fun j=>b.getD j 0
def redLU (k u:Nat) (R:Mt):Mt:=(List.range R.length).map fun i=>if i < u then redRow k k (outL (R.getD k []) k) (R.getD k []) (R.getD i []) else R.getD i []
theorem redLU_len (k u:Nat) (R:Mt):(redLU k u R).length=R.length:=by simp [redLU]
theorem redLU_at {k u:Nat} {R:Mt} {i:Nat} (h:i < R.length):(redLU k u R).getD i []=if i < u then redRow k k (outL (R.getD k []) k) (R.getD k []) (R.getD i []) else R.getD i []:=by
 rw [gD,List.getElem?_eq_getElem (by rw [redLU_len];exact h)];simp [redLU]
theorem mt_ext2 {xs ys:Mt} (hl:xs.length=ys.length) (h:∀i,i < xs.length→xs.getD i []=ys.getD i []):xs=ys:=by
 apply List.ext_getElem hl
 intro i h1 h2
 have:=h i h1
 rwa [gD,gD,List.getElem?_eq_getElem h1,List.getElem?_eq_getElem h2] at this
theorem redLU_zero (k:Nat) (R:Mt):redLU k 0 R=R:=by
 apply mt_ext2 (redLU_len _ _ _)
 intro i hi
 rw [redLU_len] at hi
 rw [redLU_at hi,if_neg (by omega)]
theorem redLU_next {k u:Nat} {R:Mt} (hu:u < k) (hk:k < R.length):(redLU k u R).set u (redRow k k (outL (R.getD k []) k) (R.getD k []) (R.getD u []))=redLU k (u+1) R:=by
 apply mt_ext2 (by rw [List.length_set,redLU_len,redLU_len])
 intro i hi
 rw [List.length_set,redLU_len] at hi
 rw [gsetD (by rw [redLU_len];omega),redLU_at hi,redLU_at hi]
 by_cases e:i=u
 ·subst e;rw [if_pos rfl,if_pos (by omega)]
 ·rw [if_neg e]
  by_cases e2:i < u
  ·rw [if_pos e2,if_pos (by omega)]
  ·rw [if_neg e2,if_neg (by omega)]
def Sq (n:Nat) (R:Mt):Prop:=R.length=n∧∀i,i < n→(R.getD i []).length=n
theorem Sq.red {n k u:Nat} {R:Mt} (h:Sq n R):Sq n (redLU k u R):=⟨by rw [redLU_len,h.1],fun i hi=>by
 rw [redLU_at (by rw [h.1];exact hi)]
 split
 ·rw [redRow_len];exact h.2 i hi
 ·exact h.2 i hi⟩
def gthL:Nat→Mt→Mt
 | 0,R=>R
 | k+1,R=>gthL k (redLU (k+1) (k+1) R)
theorem redL_ent {n k:Nat} {R:Mt} (h:Sq n R) (hk:k < n) {i j:Nat} (hi:i < n) (hj:j < n):ent (redLU k k R) i j=redM (ent R) k i j:=by
 unfold ent
 rw [redLU_at (by rw [h.1];exact hi)]
 unfold redM
 by_cases e:i < k
 ·rw [if_pos e,redRow_at (by rw [h.2 i hi];exact hj)]
  by_cases e2:j < k
  ·rw [if_pos e2,if_pos ⟨e,e2⟩];rfl
  ·rw [if_neg e2,if_neg (show ¬(i < k∧j < k) by omega)]
   by_cases e3:j=k
   ·rw [if_pos e3,if_pos ⟨e,e3⟩];rfl
   ·rw [if_neg e3,if_neg (show ¬(i < k∧j=k) by omega)]
 ·rw [if_neg e,if_neg (by omega),if_neg (by omega)]
theorem redM_congr {n k:Nat} {A B:Fm} (hk:k < n) (h:∀i j,i < n→j < n→A i j=B i j) {i j:Nat} (hi:i < n) (hj:j < n):redM A k i j=redM B k i j:=by
 have ho:outM A k=outM B k:=sN_congr fun j hj=>h k j hk (by omega)
 unfold redM
 rw [ho,h i j hi hj,h i k hi hk,h k j hk hj]
theorem gthM_congr {n:Nat}:∀{k:Nat} {A B:Fm},k < n→(∀i j,i < n→j < n→A i j=B i j)→∀i j,i < n→j < n→gthM k A i j=gthM k B i j
 | 0,_,_,_,h,i,j,hi,hj=>h i j hi hj
 | k+1,_,_,hk,h,i,j,hi,hj=>gthM_congr (k:=k) (by omega) (fun i j hi hj=>redM_congr hk h hi hj) i j hi hj
theorem gthL_ent {n:Nat}:∀{k:Nat} {R:Mt},Sq n R→k < n→∀i j,i < n→j < n→ent (gthL k R) i j=gthM k (ent R) i j
 | 0,_,_,_,i,j,hi,hj=>rfl
 | k+1,R,h,hk,i,j,hi,hj=>by
  show ent (gthL k (redLU (k+1) (k+1) R)) i j=gthM k (redM (ent R) (k+1)) i j
  rw [gthL_ent (k:=k) h.red (by omega) i j hi hj]
  exact gthM_congr (n:=n) (by omega) (fun i j hi hj=>redL_ent h hk hi hj) i j hi hj
theorem wL_congr {n:Nat} {A B:Fm} (h:∀i j,i < n→j < n→A i j=B i j):∀k,k < n→wL A k=wL B k
 | 0,_=>rfl
 | k+1,hk=>by
  unfold wL
  rw [wL_congr h k (by omega)]
  congr 2
  exact sN_congr fun i hi=>by rw [h i (k+1) (by omega) hk]
theorem sum_nat {n t:Nat} {z:Nat→Int} (hn:n≤12) (h:∀i,i < n→bl (z i).natAbs < t) (ht:1≤t):∃Z:Int,(sN n fun i=>(z i:Rat))=(Z:Rat)∧bl Z.natAbs < t+4:=by
 have:∀m,m≤n→∃Z:Int,(sN m fun i=>(z i:Rat))=(Z:Rat)∧Z.natAbs≤m*(2 ^ (t - 1)):=by
  intro m
  induction m with
  | zero=>intro _;exact ⟨0,rfl,by simp⟩
  | succ m ih =>
   intro hm
   obtain ⟨Z,h1,h2⟩:=ih (by omega)
   refine ⟨Z+z m,?_,?_⟩
   ·show (sN m fun i=>(z i:Rat))+(z m:Rat)=_
    rw [h1,Rat.intCast_add]
   ·have h3:=lt_bl (z m).natAbs
    have h4:=h m (by omega)
    have h5:2 ^ bl (z m).natAbs≤2 ^ (t - 1):=Nat.pow_le_pow_right (by decide) (by omega)
    have h6:=Int.natAbs_add_le Z (z m)
    rw [Nat.succ_mul]
    omega
 obtain ⟨Z,h1,h2⟩:=this n (Nat.le_refl _)
 refine ⟨Z,h1,?_⟩
 have h3:n*2 ^ (t - 1)≤12*2 ^ (t - 1):=Nat.mul_le_mul_right _ hn
 have h4:bl Z.natAbs≤t+3:=bl_le (by
  have h5:2 ^ (t+3)=16*2 ^ (t - 1):=by
   rw [show t+3=4+(t - 1) by omega,Nat.pow_add]
  have h6:=Nat.two_pow_pos (t - 1)
  omega)
 omega
theorem RowB.fn {t:Nat} {r:List Rat} (h:RowB t r):∃E:Nat,E≠0∧bl E < t∧∃z:Nat→Int,∀j,j < r.length→r.getD j 0*((E:Int):Rat)=(z j:Rat)∧bl (z j).natAbs < t:=by
 obtain ⟨E,h1,h2,h3⟩:=h
 have h4:∀j,∃z:Int,j < r.length→r.getD j 0*((E:Int):Rat)=(z:Rat)∧bl z.natAbs < t:=fun j=>by
  by_cases hj:j < r.length
  ·obtain ⟨z,h4,h5⟩:=h3 _ (getD_mem (d:=0) hj)
   exact ⟨z,fun _=>⟨h4,h5⟩⟩
  ·exact ⟨0,fun h=>absurd h hj⟩
 exact ⟨E,h1,h2,fun j=>(h4 j).choose,fun j hj=>(h4 j).choose_spec hj⟩
theorem RowB.one {t:Nat} {r:List Rat} (h:RowB t r):1≤t:=by
 obtain ⟨E,_,h2,_⟩:=h;omega
theorem takeD_at {r:List Rat} {k j:Nat} (h:j < k):(r.take k).getD j 0=r.getD j 0:=by
 rw [gD,List.getElem?_take_of_lt h,gD]
theorem mem_take {r:List Rat} {k:Nat} {q:Rat} (h:q∈r.take k):∃j,j < k∧j < r.length∧q=r.getD j 0:=by
 obtain ⟨j,hj,e⟩:=List.mem_iff_getElem.1 h;have hj2:j < k∧j < r.length:=by simpa [List.length_take,Nat.lt_min] using hj
 refine ⟨j,hj2.1,hj2.2,?_⟩;rw [←e,List.getElem_take,gD,List.getElem?_eq_getElem hj2.2];rfl
theorem out_sz {t k:Nat} {b:List Rat} (hb:RowB t (b.take (k+1))) (hk:k < b.length) (h12:k≤12):∃F:Nat,F≠0∧bl F < t∧∃S:Int,outL b k*((F:Int):Rat)=(S:Rat)∧bl S.natAbs < t+4:=by
 obtain ⟨F,f1,f2,z,f3⟩:=hb.fn
 have hz:∀j,j < k→b.getD j 0*((F:Int):Rat)=(z j:Rat)∧bl (z j).natAbs < t:=fun j hj=>by
  have:=f3 j (by rw [List.length_take];omega)
  rwa [takeD_at (by omega)] at this
 obtain ⟨S,s1,s2⟩:=sum_nat (n:=k) (t:=t) (z:=z) h12 (fun j hj=>(hz j hj).2) hb.one
 refine ⟨F,f1,f2,S,?_,s2⟩
 rw [←s1]
 unfold outL
 rw [Rat.mul_comm,←sN_mul]
 exact sN_congr fun j hj=>by rw [←(hz j hj).1,Rat.mul_comm]
theorem out_sz2 {t k:Nat} {b:List Rat} (hb:RowB t (b.take (k+1))) (hk:k < b.length) (h12:k≤12):sz (outL b k) < t+4:=by
 obtain ⟨F,f1,f2,S,s1,s2⟩:=out_sz hb hk h12
 exact RowB.sz (r:=[outL b k]) ⟨F,f1,by omega,fun q hq=>⟨S,by rw [List.mem_singleton.1 hq];exact s1,s2⟩⟩ (by simp)
theorem red_row {t k:Nat} {a b:List Rat} (ha:RowB t (a.take (k+1))) (hb:RowB t (b.take (k+1))) (hak:k < a.length) (hbk:k < b.length) (h12:k≤12) (h0:outL b k≠0):RowB (2*t+6) ((redRow k k (outL b k) b a).take k):=by
 obtain ⟨F,f1,f2,y,f3⟩:=hb.fn;have hy:∀j,j < k+1→b.getD j 0*((F:Int):Rat)=(y j:Rat)∧bl (y j).natAbs < t:=fun j hj=>by
  have:=f3 j (by rw [List.length_take];omega);rwa [takeD_at hj] at this
 obtain ⟨E,e1,e2,x,e3⟩:=ha.fn;have hx:∀j,j < k+1→a.getD j 0*((E:Int):Rat)=(x j:Rat)∧bl (x j).natAbs < t:=fun j hj=>by
  have:=e3 j (by rw [List.length_take];omega);rwa [takeD_at hj] at this
 obtain ⟨S,s1,s2⟩:=sum_nat (n:=k) (t:=t) (z:=y) h12 (fun j hj=>(hy j (by omega)).2) hb.one;have hS:outL b k*((F:Int):Rat)=(S:Rat):=by
  rw [←s1];unfold outL;rw [Rat.mul_comm,←sN_mul];exact sN_congr fun j hj=>by rw [←(hy j (by omega)).1,Rat.mul_comm]
 obtain ⟨o,eo⟩:∃o,outL b k=o:=⟨_,rfl⟩;rw [eo] at hS h0 ⊢;have hF:((F:Int):Rat)≠0:=by exact_mod_cast (by omega:(F:Int)≠0)
 have hS0:S≠0:=fun e=>by
  rw [e] at hS;rcases Rat.mul_eq_zero.1 (show o*((F:Int):Rat)=0 from hS) with h | h
  ·exact h0 h
  ·exact hF h
 obtain ⟨s,hs,hs2⟩:∃s:Int,((S.natAbs:Nat):Int)=s*S∧s.natAbs=1:=by
  by_cases h:0≤S
  ·exact ⟨1,by omega,rfl⟩
  ·exact ⟨-1,by omega,rfl⟩
 have bE:=bl_mul E S.natAbs;have ht:=hb.one;refine ⟨E*S.natAbs,Nat.mul_ne_zero e1 (by omega),by omega,fun q hq=>?_⟩;obtain ⟨j,hj,hj2,rfl⟩:=mem_take hq;rw [redRow_len] at hj2;rw [redRow_at hj2,if_pos hj];obtain ⟨x1,x2⟩:=hx j (by omega);obtain ⟨y1,y2⟩:=hy j (by omega);obtain ⟨k1,k2⟩:=hx k (by omega);have eN:(((E*S.natAbs:Nat):Int):Rat)=((E:Int):Rat)*((s:Rat)*(S:Rat)):=by rw [Int.natCast_mul,Rat.intCast_mul,hs,Rat.intCast_mul]
 have hdiv:=Rat.div_mul_cancel (a:=a.getD k 0) h0;refine ⟨s*(x j*S+x k*y j),?_,?_⟩
 ·rw [eN,Rat.intCast_mul,Rat.intCast_add,Rat.intCast_mul,Rat.intCast_mul,←x1,←y1,←k1,←hS];grind
 ·have h1:(s*(x j*S+x k*y j)).natAbs≤(x j).natAbs*S.natAbs+(x k).natAbs*(y j).natAbs:=by
   rw [Int.natAbs_mul,hs2,Nat.one_mul];have h1:=Int.natAbs_add_le (x j*S) (x k*y j);rw [Int.natAbs_mul,Int.natAbs_mul] at h1;exact h1
  have h2:=bl_mono h1;have h3:=bl_add ((x j).natAbs*S.natAbs) ((x k).natAbs*(y j).natAbs);have h4:=bl_mul (x j).natAbs S.natAbs;have h5:=bl_mul (x k).natAbs (y j).natAbs;omega
def tt (t d:Nat):Nat:=2 ^ d*(t+6) - 6
theorem tt_next (t d:Nat):2*tt t d+6=tt t (d+1):=by
 unfold tt
 have h1:1*6≤2 ^ d*(t+6):=Nat.mul_le_mul (Nat.two_pow_pos d) (by omega)
 rw [Nat.pow_succ,Nat.mul_comm (2 ^ d) 2,Nat.mul_assoc]
 omega
theorem tt_zero (t:Nat):tt t 0=t:=by unfold tt;omega
theorem tt_mono {t d e:Nat} (h:d≤e):tt t d≤tt t e:=by
 have:2 ^ d*(t+6)≤2 ^ e*(t+6):=Nat.mul_le_mul_right _ (Nat.pow_le_pow_right (by decide) h)
 unfold tt;omega
structure GL (n t V:Nat) (R:Mt) (k:Nat):Prop where
 sq:Sq n R
 st:Sto (k+1) (ent R)
 cl:Cl (k+1) (ent R) 0
 row:∀i,i < k+1→RowB t ((R.getD i []).take (k+1))
 col:∀i c,i < c→k < c→c < n→sz (ent R i c)≤V
theorem GL.out0 {n t V k:Nat} {R:Mt} (h:GL n t V R (k+1)):outL (R.getD (k+1) []) (k+1)≠0:=Rat.ne_of_gt (h.cl.out h.st (by omega))
theorem Sto.congr {n:Nat} {A B:Fm} (h:∀i j,i < n→j < n→A i j=B i j) (hA:Sto n A):Sto n B :=
 ⟨fun i j hi hj=>by rw [←h i j hi hj];exact hA.pos i j hi hj,fun i hi=>by rw [←hA.one i hi];exact sN_congr fun j hj=>(h i j hi hj).symm⟩
theorem Cl.congr {n s:Nat} {A B:Fm} (h:∀i j,i < n→j < n→A i j=B i j) (hA:Cl n A s):Cl n B s :=
 fun T h1 h2=>hA T h1 fun i j hi hj h3 h4=>h2 i j hi hj h3 (by rw [←h i j hi hj];exact h4)
theorem GL.next {n t V k:Nat} {R:Mt} (h:GL n t V R (k+1)) (hk:k+1 < n) (hn:n≤12) (hV:2*t+4≤V):GL n (2*t+6) V (redLU (k+1) (k+1) R) k:=by
 have e:∀i j,i < k+1→j < k+1→redM (ent R) (k+1) i j=ent (redLU (k+1) (k+1) R) i j:=fun i j hi hj=>(redL_ent h.sq hk (by omega) (by omega)).symm
 refine ⟨h.sq.red,(h.st.red h.cl (by omega)).congr e,(h.cl.red h.st (by omega)).congr e,fun i hi=>?_,fun i c h1 h2 h3=>?_⟩
 ·rw [redLU_at (by rw [h.sq.1];omega),if_pos hi]
  exact red_row (h.row i (by omega)) (h.row (k+1) (by omega)) (by rw [h.sq.2 i (by omega)];exact hk) (by rw [h.sq.2 _ hk];exact hk) (by omega) h.out0
 ·rw [redL_ent h.sq hk (by omega) h3]
  unfold redM
  rw [if_neg (by omega)]
  by_cases e2:c=k+1
  ·subst e2
   rw [if_pos ⟨h1,rfl⟩]
   have z1:sz (ent R i (k+1)) < t:=by
    have:=(h.row i (by omega)).sz (q:=ent R i (k+1)) (by
     have:=getD_mem (xs:=(R.getD i []).take (k+1+1)) (i:=k+1) (d:=0) (by rw [List.length_take,h.sq.2 i (by omega)];omega)
     rwa [takeD_at (by omega)] at this)
    exact this
   have z2:=out_sz2 (h.row (k+1) (by omega)) (by rw [h.sq.2 _ hk];exact hk) (by omega)
   have z3:=sz_div (ent R i (k+1)) h.out0
   exact Nat.le_trans z3 (by omega)
  ·rw [if_neg (by omega)]
   exact h.col i c h1 (by omega) h3
theorem GL.all {n t V:Nat} (hn:n≤12):∀{k d:Nat} {R:Mt},GL n (tt t d) V R k→k < n→2*tt t (d+k)+4≤V→GL n (tt t (d+k)) V (gthL k R) 0
 | 0,_,_,h,_,_=>h
 | k+1,d,R,h,hk,hV=>by
  have h1:=h.next hk hn (by have:=tt_mono (t:=t) (d:=d) (e:=d+(k+1)) (by omega);omega)
  rw [tt_next] at h1
  have h2:=GL.all hn (k:=k) h1 (by omega) (by rw [show d+1+k=d+(k+1) by omega];exact hV)
  rw [show d+1+k=d+(k+1) by omega] at h2
  exact h2
theorem RowB.of_sz {V:Nat} {r:List Rat} (hn:r.length≤12) (h:∀q,q∈r→Go.V.sz q≤V):RowB (13*V+4) r:=by
 have h1:=dens_bl (m:=V) h;have h2:r.length*V≤12*V:=Nat.mul_le_mul_right _ hn;have h3:=bl_mul (2 ^ V) (dens r);have h4:bl (2 ^ V)≤V+1:=bl_le (Nat.pow_lt_pow_right (by decide) (by omega));refine RowB.of_iz (dens_pos r) (by omega) (2 ^ V) (by omega) fun q hq=>⟨(Iz.den q).of_dvd (dens_dvd hq),?_⟩;have b1:=Nat.le_trans (bl_tp q) (h q hq);have b2:=lt_bl (tp q);have b3:tp q≤2 ^ V:=by
  have:2 ^ bl (tp q)≤2 ^ V:=Nat.pow_le_pow_right (by decide) b1;omega
 have b4:((tp q:Int):Rat)≤((2 ^ V:Nat):Int):=by exact_mod_cast b3
 by_cases h0:0≤q
 ·have:=le_tp h0;exact ⟨by grind,by grind⟩
 ·have:=le_tp (q:=-q) (by grind);rw [(neg_parts q).2.1] at this;exact ⟨by grind,by grind⟩
theorem RowB.snoc {u v n:Nat} {w c:List Rat} (hw:RowB u w) (hc:RowB v c) (hn:n≤12) (h1:n≤w.length) (h2:n≤c.length):RowB (u+v+4) (w++[sN n fun i=>w.getD i 0*c.getD i 0]):=by
 obtain ⟨E,e1,e2,x,e3⟩:=hw.fn;obtain ⟨F,f1,f2,y,f3⟩:=hc.fn;have hv:=hc.one;have hu:=hw.one;obtain ⟨S,s1,s2⟩:=sum_nat (n:=n) (t:=u+v - 1) (z:=fun i=>x i*y i) hn (fun i hi=>by
  have h3:=(e3 i (by omega)).2;have h4:=(f3 i (by omega)).2;have h5:=bl_mul (x i).natAbs (y i).natAbs;rw [Int.natAbs_mul];omega) (by omega)
 have b:=bl_mul E F;have eN:(((E*F:Nat):Int):Rat)=((E:Int):Rat)*((F:Int):Rat):=by rw [Int.natCast_mul,Rat.intCast_mul]
 refine ⟨E*F,Nat.mul_ne_zero e1 f1,by omega,fun q hq=>?_⟩;rw [eN];rcases List.mem_append.1 hq with h | h
 ·obtain ⟨j,hj,e⟩:=List.mem_iff_getElem.1 h;obtain ⟨h3,h4⟩:=e3 j hj;rw [gD,List.getElem?_eq_getElem hj,e] at h3;have h3:q*((E:Int):Rat)=(x j:Rat):=h3;refine ⟨x j*(F:Int),?_,?_⟩
  ·rw [Rat.intCast_mul,←h3,Rat.mul_assoc]
  ·have:=bl_mul (x j).natAbs F;rw [Int.natAbs_mul,Int.natAbs_natCast];omega
 ·rw [List.mem_singleton.1 h];refine ⟨S,?_,by omega⟩;rw [←s1,Rat.mul_comm,←sN_mul];refine sN_congr fun i hi=>?_;rw [Rat.intCast_mul,←(e3 i (by omega)).1,←(f3 i (by omega)).1];grind
theorem wL_row {n V:Nat} {M:Fm} (hn:n≤12) (h:∀i c,i < c→c < n→sz (M i c)≤V):∀k,k < n→RowB (2+k*(13*V+8)) (wL M k)
 | 0,_=>by
  rw [Nat.zero_mul]
  exact ⟨1,by decide,by decide,fun q hq=>⟨1,by rw [List.mem_singleton.1 hq,Rat.one_mul];rfl,by decide⟩⟩
 | k+1,hk=>by
  have h1:=wL_row hn h k (by omega)
  have h2:RowB (13*V+4) ((List.range (k+1)).map fun i=>M i (k+1)):=RowB.of_sz (by simp;omega) fun q hq=>by
   obtain ⟨i,hi,rfl⟩:=List.mem_map.1 hq
   exact h i (k+1) (by simpa using hi) hk
  have h3:=h1.snoc (n:=k+1) h2 (by omega) (by rw [wL_len];omega) (by simp)
  have e:(sN (k+1) fun i=>(wL M k).getD i 0*((List.range (k+1)).map fun i=>M i (k+1)).getD i 0)=sN (k+1) fun i=>(wL M k).getD i 0*M i (k+1):=sN_congr fun i hi=>by
   congr 1
   rw [gD,List.getElem?_eq_getElem (by simpa using hi)];simp
  rw [e] at h3
  exact h3.mono (by rw [Nat.succ_mul k];omega)
theorem RowB.norm {u:Nat} {w:List Rat} (h:RowB u w) (hn:w.length≤12) (h0:(sN w.length fun i=>w.getD i 0)≠0):RowB (u+4) (w.map (· / sN w.length fun i=>w.getD i 0)):=by
 obtain ⟨E,e1,e2,x,e3⟩:=h.fn;have hu:=h.one;obtain ⟨S,s1,s2⟩:=sum_nat (n:=w.length) (t:=u) (z:=x) hn (fun i hi=>(e3 i hi).2) hu;obtain ⟨o,eo⟩:∃o,(sN w.length fun i=>w.getD i 0)=o:=⟨_,rfl⟩;have hS:o*((E:Int):Rat)=(S:Rat):=by
  rw [←s1,←eo,Rat.mul_comm,←sN_mul];exact sN_congr fun i hi=>by rw [←(e3 i hi).1,Rat.mul_comm]
 rw [eo] at h0 ⊢;have hE:((E:Int):Rat)≠0:=by exact_mod_cast (by omega:(E:Int)≠0)
 have hS0:S≠0:=fun e=>by
  rw [e] at hS;rcases Rat.mul_eq_zero.1 (show o*((E:Int):Rat)=0 from hS) with h | h
  ·exact h0 h
  ·exact hE h
 obtain ⟨s,hs,hs2⟩:∃s:Int,((S.natAbs:Nat):Int)=s*S∧s.natAbs=1:=by
  by_cases h:0≤S
  ·exact ⟨1,by omega,rfl⟩
  ·exact ⟨-1,by omega,rfl⟩
 refine ⟨S.natAbs,by omega,by omega,fun q hq=>?_⟩;obtain ⟨a,ha,rfl⟩:=List.mem_map.1 hq;obtain ⟨j,hj,e⟩:=List.mem_iff_getElem.1 ha;obtain ⟨h3,h4⟩:=e3 j hj;rw [gD,List.getElem?_eq_getElem hj,e] at h3;have h3:a*((E:Int):Rat)=(x j:Rat):=h3;refine ⟨s*x j,?_,by rw [Int.natAbs_mul,hs2,Nat.one_mul];omega⟩;rw [hs,Rat.intCast_mul,Rat.intCast_mul,←h3,←hS];have:=Rat.div_mul_cancel (a:=a) h0;grind
def wR (p:Mt):List Rat:=wL (ent (gthL (p.length - 1) p)) (p.length - 1)
def restU (p:Mt):List Rat:=(wR p).map (· / sN (wR p).length fun i=>(wR p).getD i 0)
structure MtR (p:Mt) (t:Nat):Prop where
 n1:1≤p.length
 n2:p.length≤12
 sq:∀r,r∈p→r.length=p.length
 pos:∀r,r∈p→∀q,q∈r→0≤q
 row:∀r,r∈p→RowB t r
 one:∀r,r∈p→sN r.length (r.getD · 0)=1
theorem MtR.toSq {p:Mt} {t:Nat} (h:MtR p t):Sq p.length p:=⟨rfl,fun i hi=>h.sq _ (getD_mem hi)⟩
theorem MtR.sto {p:Mt} {t:Nat} (h:MtR p t):Sto p.length (ent p) :=
 ⟨fun i j hi hj=>h.pos _ (getD_mem hi) _ (getD_mem (by rw [h.sq _ (getD_mem hi)];exact hj)),fun i hi=>by
  have:=h.one _ (getD_mem (d:=[]) hi)
  rwa [h.sq _ (getD_mem hi)] at this⟩
theorem RowB.take {t k:Nat} {r:List Rat} (h:RowB t r):RowB t (r.take k):=by
 obtain ⟨E,h1,h2,h3⟩:=h
 exact ⟨E,h1,h2,fun q hq=>h3 q (List.mem_of_mem_take hq)⟩
theorem MtR.gl {p:Mt} {t:Nat} (h:MtR p t) (hc:Cl p.length (ent p) 0) (V:Nat):GL p.length t V p (p.length - 1):=by
 have h1:=h.n1;have e:p.length - 1+1=p.length:=by omega
 exact ⟨h.toSq,by rw [e];exact h.sto,by rw [e];exact hc,fun i hi=>(h.row _ (getD_mem (by omega))).take,fun i c h1 h2 h3=>by omega⟩
def uu (t n:Nat):Nat:=2+12*(13*(2*tt t (n - 1)+4)+8)
theorem MtR.w_row {p:Mt} {t:Nat} (h:MtR p t) (hc:Cl p.length (ent p) 0):RowB (uu t p.length) (wR p):=by
 have h1:=h.n1
 have h2:=h.n2
 have g:=GL.all (t:=t) (V:=2*tt t (p.length - 1)+4) h2 (k:=p.length - 1) (d:=0) (by rw [tt_zero];exact h.gl hc _) (by omega) (by rw [Nat.zero_add];exact Nat.le_refl _)
 have:=wL_row h2 (V:=2*tt t (p.length - 1)+4) (fun i c h1 h3=>g.col i c h1 (by omega) h3) (p.length - 1) (by omega)
 refine this.mono ?_
 have h4:(p.length - 1)*(13*(2*tt t (p.length - 1)+4)+8)≤12*(13*(2*tt t (p.length - 1)+4)+8):=Nat.mul_le_mul_right _ (by omega)
 unfold uu;omega
theorem wR_len {p:Mt} (h:1≤p.length):(wR p).length=p.length:=by unfold wR;rw [wL_len];omega
theorem restU_len {p:Mt} (h:1≤p.length):(restU p).length=p.length:=by unfold restU;rw [List.length_map,wR_len h]
theorem MtR.w_ok {p:Mt} {t:Nat} (h:MtR p t) (hc:Cl p.length (ent p) 0):St p.length (ent p) (fun i=>(wR p).getD i 0)∧(∀i,i < p.length→0≤(wR p).getD i 0)∧0 < sN (wR p).length fun i=>(wR p).getD i 0:=by
 have h1:=h.n1;have e:p.length - 1+1=p.length:=by omega
 have hw:wR p=wL (gthM (p.length - 1) (ent p)) (p.length - 1):=wL_congr (n:=p.length) (fun i j hi hj=>gthL_ent h.toSq (by omega) i j hi hj) _ (by omega);obtain ⟨g1,g2,g3⟩:=gth_st (p.length - 1) (ent p) (by rw [e];exact h.sto) (by rw [e];exact hc);rw [←hw] at g1 g2 g3;rw [e] at g1;refine ⟨g1,fun i hi=>g2 i (by omega),?_⟩;rw [wR_len h1];have h5:=sN_one_le (n:=p.length) (k:=0) (f:=fun i=>(wR p).getD i 0) (by omega) fun i hi=>g2 i (by omega);grind
theorem MtR.u_ok {p:Mt} {t:Nat} (h:MtR p t) (hc:Cl p.length (ent p) 0):St p.length (ent p) (fun i=>(restU p).getD i 0)∧(∀i,i < p.length→0≤(restU p).getD i 0)∧(sN p.length fun i=>(restU p).getD i 0)=1∧RowB (uu t p.length+4) (restU p):=by
 obtain ⟨g1,g2,g3⟩:=h.w_ok hc
 have hr:=(h.w_row hc).norm (by rw [wR_len h.n1];exact h.n2) (Rat.ne_of_gt g3)
 obtain ⟨o,eo⟩:∃o,(sN (wR p).length fun i=>(wR p).getD i 0)=o:=⟨_,rfl⟩
 have e:∀i,i < p.length→(restU p).getD i 0=o⁻¹*(wR p).getD i 0:=fun i hi=>by
  unfold restU
  rw [eo,gD,List.getElem?_map,List.getElem?_eq_getElem (by rw [wR_len h.n1];exact hi),gD,List.getElem?_eq_getElem (by rw [wR_len h.n1];exact hi)]
  show _ / o=_
  rw [Rat.div_def,Rat.mul_comm];rfl
 rw [eo] at g3
 refine ⟨fun j hj=>?_,fun i hi=>?_,?_,hr⟩
 ·have:=g1.smul o⁻¹ j hj
  dsimp only at this ⊢
  rw [e j hj,←this]
  exact sN_congr fun i hi=>by rw [e i hi]
 ·rw [e i hi];exact Rat.mul_nonneg (Rat.le_of_lt (Rat.inv_pos.2 g3)) (g2 i hi)
 ·have:(sN p.length fun i=>(restU p).getD i 0)=o⁻¹*o:=by
   rw [←eo,wR_len h.n1,←sN_mul,←wR_len h.n1,eo]
   exact sN_congr fun i hi=>e i (by rw [wR_len h.n1] at hi;exact hi)
  rw [this,Rat.inv_mul_cancel _ (Rat.ne_of_gt g3)]
end Go.V
namespace Go.V
inductive Rc (n:Nat) (m:Fm) (i:Nat):Nat→Prop
 | refl:Rc n m i i
 | step {j k:Nat}:Rc n m i j→k < n→0 < m j k→Rc n m i k
theorem Rc.trans {n:Nat} {m:Fm} {i j k:Nat} (h:Rc n m i j) (h2:Rc n m j k):Rc n m i k:=by
 induction h2 with
 | refl=>exact h
 | step _ h3 h4 ih=>exact ih.step h3 h4
theorem Rc.lt {n:Nat} {m:Fm} {i j:Nat} (h:Rc n m i j) (hi:i < n):j < n:=by cases h;exact hi;assumption
theorem Rc.keep {n:Nat} {m:Fm} {T:Nat→Prop} (hT:∀i j,i < n→j < n→T i→0 < m i j→T j) {i j:Nat} (hi:i < n) (h0:T i) (h:Rc n m i j):T j:=by
 induction h with
 | refl=>exact h0
 | step h1 h2 h3 ih=>exact hT _ _ (h1.lt hi) h2 ih h3
theorem Cl.of {n s:Nat} {m:Fm} (h:∀i,i < n→Rc n m i s):Cl n m s:=fun _ ⟨i,hi,h0⟩ hT=>(h i hi).keep hT hi h0
theorem Cl.rc {n s:Nat} {m:Fm} (h:Cl n m s):∀i,i < n→Rc n m i s:=fun i hi=>h (Rc n m i) ⟨i,hi,.refl⟩ fun _ _ _ hj h1 h2=>h1.step hj h2
open Classical in
noncomputable def rb (n:Nat) (m:Fm) (i j:Nat):Bool:=decide (Rc n m i j)
theorem rb_iff {n:Nat} {m:Fm} {i j:Nat}:rb n m i j=true↔Rc n m i j:=by unfold rb;simp
def clsStep (n:Nat) (r:Nat→Nat→Bool) (s:List Int×List Bool) (i:Nat):List Int×List Bool :=
 if 0≤s.1.getD i 0 then s else ((List.range n).map fun j=>if r i j=true∧r j i=true then (s.2.length:Int) else s.1.getD j 0,s.2++[(List.range n).all fun j=>!r i j || r j i])
def clsN (n:Nat) (r:Nat→Nat→Bool):Nat→List Int×List Bool
 | 0=>(List.replicate n (-1),[])
 | i+1=>clsStep n r (clsN n r i) i
theorem clsStep_len {n:Nat} {r:Nat→Nat→Bool} {s:List Int×List Bool} {i:Nat} (h:s.1.length=n):(clsStep n r s i).1.length=n:=by
 unfold clsStep;split;exact h;simp
theorem clsN_len (n:Nat) (r:Nat→Nat→Bool):∀i,(clsN n r i).1.length=n
 | 0=>by simp [clsN]
 | i+1=>clsStep_len (clsN_len n r i)
theorem map_at {α:Type} {n j:Nat} {f:Nat→α} {d:α} (h:j < n):((List.range n).map f).getD j d=f j:=by
 rw [gD,List.getElem?_eq_getElem (by simpa using h)];simp
structure ClsI (n:Nat) (r:Nat→Nat→Bool) (s:List Int×List Bool) (i:Nat):Prop where
 lt:∀j,j < n→s.1.getD j 0 = -1∨(0≤s.1.getD j 0∧s.1.getD j 0 < s.2.length)
 done:∀j,j < i→0≤s.1.getD j 0
 full:∀j k,j < n→k < n→0≤s.1.getD j 0→r j k=true→r k j=true→s.1.getD k 0=s.1.getD j 0
 same:∀j k,j < n→k < n→0≤s.1.getD j 0→s.1.getD k 0=s.1.getD j 0→r j k=true∧r k j=true
 shut:∀j,j < n→0≤s.1.getD j 0→(s.2.getD (s.1.getD j 0).toNat false=true↔∀k,k < n→r j k=true→r k j=true)
 used:∀c,c < s.2.length→∃j,j < n∧s.1.getD j 0=(c:Int)
theorem ClsI.zero (n:Nat) (r:Nat→Nat→Bool):ClsI n r (List.replicate n (-1),[]) 0:=by
 have e:∀j,j < n→(List.replicate n (-1:Int)).getD j 0 = -1:=fun j hj=>by
  rw [gD,List.getElem?_replicate,if_pos hj];rfl
 refine ⟨fun j hj=>.inl (e j hj),fun j hj=>by omega,fun j k hj hk h=>?_,fun j k hj hk h=>?_,fun j hj h=>?_,fun c hc=>by simp at hc⟩
 all_goals (have h:0≤(List.replicate n (-1:Int)).getD j 0:=h;rw [e j hj] at h;omega)
theorem ClsI.next {n i:Nat} {r:Nat→Nat→Bool} {s:List Int×List Bool} (h:ClsI n r s i) (hi:i < n) (hr:∀j,j < n→r j j=true) (ht:∀j k l,j < n→k < n→l < n→r j k=true→r k l=true→r j l=true):ClsI n r (clsStep n r s i) (i+1):=by
 unfold clsStep;by_cases h0:0≤s.1.getD i 0
 ·rw [if_pos h0];refine ⟨h.lt,fun j hj=>?_,h.full,h.same,h.shut,h.used⟩;by_cases e:j=i
  ·subst e;exact h0
  ·exact h.done j (by omega)
 ·rw [if_neg h0];have hm1:s.1.getD i 0 = -1:=by rcases h.lt i hi with e | e;exact e;exact absurd e.1 h0
  obtain ⟨o,eo⟩:∃o:Nat→Int,o=fun j=>if r i j=true∧r j i=true then (s.2.length:Int) else s.1.getD j 0:=⟨_,rfl⟩
  have eg:∀j,j < n→((List.range n).map fun j=>if r i j=true∧r j i=true then (s.2.length:Int) else s.1.getD j 0).getD j 0=o j:=fun j hj=>by rw [map_at hj,eo]
  have o1:∀j,r i j=true∧r j i=true→o j=s.2.length:=fun j hj=>by rw [eo];exact if_pos hj
  have o2:∀j,¬(r i j=true∧r j i=true)→o j=s.1.getD j 0:=fun j hj=>by rw [eo];exact if_neg hj
  have old:∀j,j < n→0≤s.1.getD j 0→¬(r i j=true∧r j i=true):=fun j hj h1 h2=>by
   have:=h.full j i hj hi h1 h2.2 h2.1;omega
  have hlt:∀j,j < n→o j = -1∨(0≤o j∧o j≤s.2.length):=fun j hj=>by
   by_cases e:r i j=true∧r j i=true
   ·rw [o1 j e];exact .inr ⟨by omega,by omega⟩
   ·rw [o2 j e];rcases h.lt j hj with e | e;exact .inl e;exact .inr ⟨e.1,by omega⟩
  have hne:∀j,j < n→¬(r i j=true∧r j i=true)→o j < s.2.length:=fun j hj e=>by
   rw [o2 j e];rcases h.lt j hj with e | e <;> omega
  refine ⟨fun j hj=>?_,fun j hj=>?_,fun j k hj hk h1 h2 h3=>?_,fun j k hj hk h1 h2=>?_,fun j hj h1=>?_,fun c hc=>?_⟩
  ·dsimp only;rw [eg j hj,List.length_append];rcases hlt j hj with e | e;exact .inl e;exact .inr ⟨e.1,by have:=e.2;simp;omega⟩
  ·dsimp only;rw [eg j (by omega)];by_cases e:r i j=true∧r j i=true
   ·rw [o1 j e];omega
   ·rw [o2 j e];have:j≠i:=fun e2=>e (by rw [e2];exact ⟨hr i hi,hr i hi⟩);exact h.done j (by omega)
  ·dsimp only at h1 ⊢;rw [eg j hj] at h1;rw [eg j hj,eg k hk];by_cases e:r i j=true∧r j i=true
   ·rw [o1 j e,o1 k ⟨ht i j k hi hj hk e.1 h2,ht k j i hk hj hi h3 e.2⟩]
   ·have e2:¬(r i k=true∧r k i=true):=fun e2=>e ⟨ht i k j hi hk hj e2.1 h3,ht j k i hj hk hi h2 e2.2⟩;rw [o2 j e] at h1 ⊢;rw [o2 k e2];exact h.full j k hj hk h1 h2 h3
  ·dsimp only at h1 h2;rw [eg j hj] at h1;rw [eg j hj,eg k hk] at h2;by_cases e:r i j=true∧r j i=true
   ·rw [o1 j e] at h2;by_cases e2:r i k=true∧r k i=true
    ·exact ⟨ht j i k hj hi hk e.2 e2.1,ht k i j hk hi hj e2.2 e.1⟩
    ·have:=hne k hk e2;omega
   ·have g:=hne j hj e;by_cases e2:r i k=true∧r k i=true
    ·rw [o1 k e2] at h2;omega
    ·rw [o2 j e] at h1 h2;rw [o2 k e2] at h2;exact h.same j k hj hk h1 h2
  ·dsimp only at h1 ⊢;rw [eg j hj] at h1 ⊢;by_cases e:r i j=true∧r j i=true
   ·rw [o1 j e,Int.toNat_natCast,gD,List.getElem?_append_right (Nat.le_refl _),Nat.sub_self];show ((List.range n).all fun j=>!r i j || r j i)=true↔_;rw [List.all_eq_true];constructor
    ·intro H k hk h2;have:=H k (by simpa using hk);simp only [Bool.or_eq_true,Bool.not_eq_true'] at this;have h3:=ht i j k hi hj hk e.1 h2;rcases this with h4 | h4
     ·rw [h3] at h4;cases h4
     ·exact ht k i j hk hi hj h4 e.1
    ·intro H k hk;have hk:k < n:=by simpa using hk
     simp only [Bool.or_eq_true,Bool.not_eq_true'];cases h4:r i k with
     | false=>exact .inl rfl
     | true=>exact .inr (ht k j i hk hj hi (H k hk (ht j i k hj hi hk e.2 h4)) e.2)
   ·have g:=hne j hj e;rw [o2 j e] at h1 g ⊢;rw [gD,List.getElem?_append_left (by omega),←gD];exact h.shut j hj h1
  ·dsimp only;rw [List.length_append,List.length_singleton] at hc;by_cases e:c=s.2.length
   ·exact ⟨i,hi,by rw [eg i hi,o1 i ⟨hr i hi,hr i hi⟩,e]⟩
   ·obtain ⟨j,hj,h1⟩:=h.used c (by omega);exact ⟨j,hj,by rw [eg j hj,o2 j (old j hj (by omega)),h1]⟩
theorem clsN_ok {n:Nat} {r:Nat→Nat→Bool} (hr:∀j,j < n→r j j=true) (ht:∀j k l,j < n→k < n→l < n→r j k=true→r k l=true→r j l=true):∀i,i≤n→ClsI n r (clsN n r i) i
 | 0,_=>ClsI.zero n r
 | i+1,hi=>(clsN_ok hr ht i (by omega)).next (by omega) hr ht
def setI (bs:List Bool):List Nat:=(List.range bs.length).filter (bs.getD · false)
theorem filter_one {p:Nat→Bool} {c:Nat}:∀{n:Nat},c < n→(∀k,k < n→(p k=true↔k=c))→(List.range n).filter p=[c]
 | n+1,hc,h=>by
  rw [List.range_succ,List.filter_append];by_cases e:c=n
  ·subst e;have h1:(List.range c).filter p=[]:=by
    rw [List.filter_eq_nil_iff];intro k hk h2;have hk:k < c:=by simpa using hk
    have:=(h k (by omega)).1 h2;omega
   have h2:p c=true:=(h c (by omega)).2 rfl;rw [h1];simp [h2]
  ·have h1:p n=false:=by
    cases h2:p n with
    | false=>rfl
    | true=>exact absurd ((h n (by omega)).1 h2).symm e
   rw [filter_one (n:=n) (by omega) fun k hk=>h k (by omega)];simp [h1]
theorem cls_one {n s:Nat} {r:Nat→Nat→Bool} (hr:∀j,j < n→r j j=true) (ht:∀j k l,j < n→k < n→l < n→r j k=true→r k l=true→r j l=true) (hs:s < n) (ha:∀i,i < n→r i s=true) :
  ∃c:Nat,setI (clsN n r n).2=[c]∧∀j,j < n→((clsN n r n).1.getD j 0=(c:Int)↔r s j=true):=by
 have h:=clsN_ok hr ht n (Nat.le_refl _);generalize clsN n r n=z at h ⊢;obtain ⟨o,b⟩:=z;dsimp only at h ⊢;have h1:0≤o.getD s 0:=h.done s hs;refine ⟨(o.getD s 0).toNat,?_,fun j hj=>?_⟩
 ·have hlt:o.getD s 0 < b.length:=by rcases h.lt s hs with e | e;dsimp only at e;omega;exact e.2
  refine filter_one (by omega) fun c hc=>?_;obtain ⟨j,hj,h2⟩:=h.used c hc;dsimp only at h2;have h3:=h.shut j hj (by dsimp only;omega);dsimp only at h3;rw [h2,Int.toNat_natCast] at h3;rw [h3];constructor
  ·intro H;have h4:=h.full j s hj hs (by dsimp only;omega) (ha j hj) (H s hs (ha j hj));dsimp only at h4;rw [h4,h2];omega
  ·intro e k hk h4;have h5:=h.same s j hs hj h1 (by dsimp only;omega);exact ht k s j hk hs hj (ha k hk) h5.1
 ·rw [Int.toNat_of_nonneg h1];constructor
  ·intro e;exact (h.same s j hs hj h1 e).1
  ·intro e;exact h.full s j hs hj h1 e (ha j hj)
theorem filter_range_sum (b:Nat→Bool) (f:Nat→Rat):∀n,(sN n fun i=>if b i=true then f i else 0)=sN ((List.range n).filter b).length fun k=>f (((List.range n).filter b).getD k 0)
 | 0=>rfl
 | n+1=>by
  show (sN n fun i=>if b i=true then f i else 0)+(if b n=true then f n else 0)=_;rw [filter_range_sum b f n,List.range_succ,List.filter_append];by_cases h:b n=true
  ·rw [if_pos h];have e:[n].filter b=[n]:=by simp [h]
   rw [e,List.length_append,List.length_singleton];show _=(sN _ _)+f (((List.range n).filter b++[n]).getD _ 0)
   congr 1
   ·refine sN_congr fun k hk=>?_;rw [gD,gD,List.getElem?_append_left hk]
   ·rw [gD,List.getElem?_append_right (Nat.le_refl _),Nat.sub_self];rfl
  ·rw [if_neg h];have e:[n].filter b=[]:=by simp [h]
   rw [e,List.append_nil,Rat.add_zero]
def spr (cs:List Nat) (v:List Rat):Nat→List Rat→List Rat
 | 0,o=>o
 | k+1,o=>(spr cs v k o).set (cs.getD k 0) (v.getD k 0)
theorem spr_len (cs:List Nat) (v o:List Rat):∀k,(spr cs v k o).length=o.length
 | 0=>rfl
 | k+1=>by show (List.set _ _ _).length=_;rw [List.length_set,spr_len cs v o k]
theorem spr_at {cs:List Nat} {v o:List Rat} (hin:∀a b,a < cs.length→b < cs.length→cs.getD a 0=cs.getD b 0→a=b) (hlt:∀a,a < cs.length→cs.getD a 0 < o.length):∀k,k≤cs.length →
  (∀a,a < k→(spr cs v k o).getD (cs.getD a 0) 0=v.getD a 0)∧∀j,(∀a,a < k→cs.getD a 0≠j)→(spr cs v k o).getD j 0=o.getD j 0
 | 0,_=>⟨fun a ha=>by omega,fun j _=>rfl⟩
 | k+1,hk=>by
  obtain ⟨h1,h2⟩:=spr_at hin hlt k (by omega);have hl:cs.getD k 0 < (spr cs v k o).length:=by rw [spr_len];exact hlt k (by omega)
  refine ⟨fun a ha=>?_,fun j hj=>?_⟩
  ·show (List.set _ _ _).getD _ _=_;rw [gsetD hl];by_cases e:a=k
   ·subst e;rw [if_pos rfl]
   ·rw [if_neg (fun e2=>e (hin a k (by omega) (by omega) e2)),h1 a (by omega)]
  ·show (List.set _ _ _).getD _ _=_;rw [gsetD hl,if_neg (Ne.symm (hj k (by omega))),h2 j fun a ha=>hj a (by omega)]
def subM (p:Mt) (cs:List Nat):Mt:=cs.map fun i=>cs.map fun j=>ent p i j
theorem subM_len (p:Mt) (cs:List Nat):(subM p cs).length=cs.length:=by simp [subM]
theorem subM_ent {p:Mt} {cs:List Nat} {a b:Nat} (ha:a < cs.length) (hb:b < cs.length):ent (subM p cs) a b=ent p (cs.getD a 0) (cs.getD b 0):=by
 unfold ent subM
 rw [gD (l:=List.map _ cs),List.getElem?_map,List.getElem?_eq_getElem ha]
 show (List.map _ cs).getD b 0=_
 rw [gD (l:=List.map _ cs),List.getElem?_map,List.getElem?_eq_getElem hb,gD (l:=cs),gD (l:=cs),List.getElem?_eq_getElem ha,List.getElem?_eq_getElem hb]
 rfl
theorem filt_getD {n:Nat} {b:Nat→Bool} {a:Nat} (h:a < ((List.range n).filter b).length):((List.range n).filter b).getD a 0 < n∧b (((List.range n).filter b).getD a 0)=true:=by
 have:=getD_mem (d:=0) h
 rw [List.mem_filter] at this
 exact ⟨by simpa using this.1,this.2⟩
theorem filt_of {n:Nat} {b:Nat→Bool} {j:Nat} (hj:j < n) (hb:b j=true):∃a,a < ((List.range n).filter b).length∧((List.range n).filter b).getD a 0=j:=by
 have hm:j∈(List.range n).filter b:=List.mem_filter.2 ⟨by simpa using hj,hb⟩
 obtain ⟨a,ha,e⟩:=List.mem_iff_getElem.1 hm
 exact ⟨a,ha,by rw [gD,List.getElem?_eq_getElem ha,e];rfl⟩
theorem filt_inj {n:Nat} {b:Nat→Bool} {a c:Nat} (ha:a < ((List.range n).filter b).length) (hc:c < ((List.range n).filter b).length) (e:((List.range n).filter b).getD a 0=((List.range n).filter b).getD c 0):a=c:=by
 have nd:((List.range n).filter b).Pairwise (· ≠ ·):=List.Pairwise.filter b List.nodup_range
 rw [gD,gD,List.getElem?_eq_getElem ha,List.getElem?_eq_getElem hc] at e
 have e:((List.range n).filter b)[a]=((List.range n).filter b)[c]:=e
 rw [List.pairwise_iff_getElem] at nd
 rcases Nat.lt_trichotomy a c with h | h | h
 ·exact absurd e (nd a c ha hc h)
 ·exact h
 ·exact absurd e.symm (nd c a hc ha h)
theorem RowB.sub0 {t:Nat} {r s:List Rat} (h:RowB t r) (hs:∀q,q∈s→q∈r∨q=0):RowB t s:=by
 obtain ⟨E,h1,h2,h3⟩:=h
 refine ⟨E,h1,h2,fun q hq=>?_⟩
 rcases hs q hq with h | h
 ·exact h3 q h
 ·exact ⟨0,by rw [h,Rat.zero_mul];rfl,Nat.lt_of_le_of_lt (bl_le (k:=0) (by decide)) (by omega)⟩
noncomputable def clsS (p:Mt) (s:Nat):List Nat:=(List.range p.length).filter (rb p.length (ent p) s)
noncomputable def restQ (p:Mt) (s:Nat):List Rat:=spr (clsS p s) (restU (subM p (clsS p s))) (clsS p s).length (List.replicate p.length 0)
theorem restQ_len (p:Mt) (s:Nat):(restQ p s).length=p.length:=by unfold restQ;rw [spr_len,List.length_replicate]
theorem MtR.sub {p:Mt} {t s:Nat} (h:MtR p t) (hs:s < p.length) (hc:Cl p.length (ent p) s):MtR (subM p (clsS p s)) t∧Cl (clsS p s).length (ent (subM p (clsS p s))) 0:=by
 have hin:∀a,a < (clsS p s).length→(clsS p s).getD a 0 < p.length∧Rc p.length (ent p) s ((clsS p s).getD a 0):=fun a ha=>by
  have:=filt_getD ha;exact ⟨this.1,rb_iff.1 this.2⟩
 have hof:∀j,j < p.length→Rc p.length (ent p) s j→∃a,a < (clsS p s).length∧(clsS p s).getD a 0=j:=fun j hj hb=>filt_of hj (rb_iff.2 hb)
 obtain ⟨a0,ha0,_⟩:=hof s hs .refl
 have hl:(clsS p s).length≤p.length:=by
  have:=List.length_filter_le (rb p.length (ent p) s) (List.range p.length)
  rw [List.length_range] at this;exact this
 have hrow:∀r,r∈subM p (clsS p s)→∃a,a < (clsS p s).length∧r=(clsS p s).map fun j=>ent p ((clsS p s).getD a 0) j:=fun r hr=>by
  obtain ⟨i,hi,rfl⟩:=List.mem_map.1 hr
  obtain ⟨a,ha,e⟩:=List.mem_iff_getElem.1 hi
  exact ⟨a,ha,by rw [gD,List.getElem?_eq_getElem ha,e];rfl⟩
 have hmem:∀a,a < (clsS p s).length→∀q,q∈((clsS p s).map fun j=>ent p ((clsS p s).getD a 0) j)→q∈p.getD ((clsS p s).getD a 0) []:=fun a ha q hq=>by
  obtain ⟨j,hj,rfl⟩:=List.mem_map.1 hq
  have hj2:j < p.length:=by
   have:=(List.mem_filter.1 hj).1;simpa using this
  exact getD_mem (by rw [h.sq _ (getD_mem (hin a ha).1)];exact hj2)
 refine ⟨⟨by rw [subM_len];omega,by rw [subM_len];have:=h.n2;omega,fun r hr=>?_,fun r hr q hq=>?_,fun r hr=>?_,fun r hr=>?_⟩,fun T ⟨a,ha,hT⟩ hcl=>?_⟩
 ·obtain ⟨a,_,rfl⟩:=hrow r hr;rw [subM_len,List.length_map]
 ·obtain ⟨a,ha,rfl⟩:=hrow r hr;exact h.pos _ (getD_mem (hin a ha).1) q (hmem a ha q hq)
 ·obtain ⟨a,ha,rfl⟩:=hrow r hr
  exact (h.row _ (getD_mem (hin a ha).1)).sub0 fun q hq=>.inl (hmem a ha q hq)
 ·obtain ⟨a,ha,rfl⟩:=hrow r hr
  have e1:=filter_range_sum (rb p.length (ent p) s) (fun j=>ent p ((clsS p s).getD a 0) j) p.length
  have e2:(sN p.length fun j=>if rb p.length (ent p) s j=true then ent p ((clsS p s).getD a 0) j else 0)=1:=by
   rw [←h.sto.one _ (hin a ha).1]
   refine sN_congr fun j hj=>?_
   by_cases hb:rb p.length (ent p) s j=true
   ·rw [if_pos hb]
   ·rw [if_neg hb]
    have h3:=h.sto.pos _ j (hin a ha).1 hj
    by_cases h4:0 < ent p ((clsS p s).getD a 0) j
    ·exact absurd (rb_iff.2 ((hin a ha).2.step hj h4)) hb
    ·grind
  rw [e2] at e1
  rw [e1,List.length_map]
  refine sN_congr fun k hk=>?_
  show List.getD _ k 0=ent p _ ((clsS p s).getD k 0)
  rw [gD,List.getElem?_map,List.getElem?_eq_getElem hk,gD (l:=clsS p s) (i:=k),List.getElem?_eq_getElem hk];rfl
 ·have:=hc (fun i=>Rc p.length (ent p) s i→∃a,a < (clsS p s).length∧(clsS p s).getD a 0=i∧T a)
  have h00:Rc p.length (ent p) ((clsS p s).getD a 0) ((clsS p s).getD 0 0):=(hc.rc _ (hin a ha).1).trans (hin 0 (by omega)).2
  have key:∀j,Rc p.length (ent p) ((clsS p s).getD a 0) j→∃b,b < (clsS p s).length∧(clsS p s).getD b 0=j∧T b:=fun j hj=>by
   induction hj with
   | refl=>exact ⟨a,ha,rfl,hT⟩
   | step h1 h2 h3 ih =>
    obtain ⟨b,hb,e,hTb⟩:=ih
    obtain ⟨c,hc2,e2⟩:=hof _ h2 ((((hin a ha).2.trans h1)).step h2 h3)
    exact ⟨c,hc2,e2,hcl b c hb hc2 hTb (by rw [subM_ent hb hc2,e,e2];exact h3)⟩
  obtain ⟨b,hb,e,hTb⟩:=key _ h00
  rw [filt_inj hb (by show 0 < (clsS p s).length;omega) e] at hTb
  exact hTb
theorem MtR.rest {p:Mt} {t s:Nat} (h:MtR p t) (hs:s < p.length) (hc:Cl p.length (ent p) s) :
  St p.length (ent p) (fun i=>(restQ p s).getD i 0)∧(∀i,i < p.length→0≤(restQ p s).getD i 0)∧(sN p.length fun i=>(restQ p s).getD i 0)=1∧RowB (uu t (clsS p s).length+4) (restQ p s):=by
 obtain ⟨hm,hcl⟩:=h.sub hs hc;obtain ⟨g1,g2,g3,g4⟩:=hm.u_ok (by rw [subM_len];exact hcl);rw [subM_len] at g1 g2 g3 g4;obtain ⟨k1,k2⟩:=spr_at (cs:=clsS p s) (v:=restU (subM p (clsS p s))) (o:=List.replicate p.length 0) (fun a b ha hb e=>filt_inj ha hb e) (fun a ha=>by rw [List.length_replicate];exact (filt_getD ha).1) (clsS p s).length (Nat.le_refl _);have q1:∀a,a < (clsS p s).length→(restQ p s).getD ((clsS p s).getD a 0) 0=(restU (subM p (clsS p s))).getD a 0:=k1;have q2:∀j,j < p.length→rb p.length (ent p) s j=false→(restQ p s).getD j 0=0:=fun j hj hb=>by
  have:=k2 j fun a ha e=>by
   have h3:=(filt_getD ha).2;have e:((List.range p.length).filter (rb p.length (ent p) s)).getD a 0=j:=e;rw [e,hb] at h3;cases h3
  have e2:(List.replicate p.length (0:Rat)).getD j 0=0:=by rw [gD,List.getElem?_replicate];split <;> rfl
  rw [e2] at this;exact this
 have hsum:∀f:Nat→Rat,(∀i,i < p.length→rb p.length (ent p) s i=false→f i=0)→sN p.length f=sN (clsS p s).length fun k=>f ((clsS p s).getD k 0):=fun f hf=>by
  have e1:=filter_range_sum (rb p.length (ent p) s) f p.length;rw [←show (sN p.length fun i=>if rb p.length (ent p) s i=true then f i else 0)=sN p.length f from sN_congr fun i hi=>by
   cases hb:rb p.length (ent p) s i with
   | true=>rw [if_pos rfl]
   | false=>rw [if_neg (by decide),hf i hi hb]]
  exact e1
 refine ⟨fun j hj=>?_,fun i hi=>?_,?_,?_⟩
 ·rw [hsum _ fun i hi hb=>by dsimp only;rw [q2 i hi hb,Rat.zero_mul]];dsimp only;cases hb:rb p.length (ent p) s j with
  | true =>
   obtain ⟨b,hbl,e⟩:=filt_of hj hb;have e:(clsS p s).getD b 0=j:=e;have:=g1 b hbl;dsimp only at this;rw [←e,q1 b hbl,←this];exact sN_congr fun a ha=>by rw [q1 a ha,subM_ent ha hbl]
  | false =>
   rw [q2 j hj hb,←sN_zero (clsS p s).length];refine sN_congr fun a ha=>?_;have ha2:=filt_getD ha;have h3:=h.sto.pos _ j ha2.1 hj;by_cases h4:0 < ent p ((clsS p s).getD a 0) j
   ·have:=rb_iff.2 ((rb_iff.1 ha2.2).step hj h4);rw [hb] at this;cases this
   ·have h5:ent p ((clsS p s).getD a 0) j=0:=by
     have h3:0≤ent p ((clsS p s).getD a 0) j:=h3;grind
    rw [h5,Rat.mul_zero]
 ·cases hb:rb p.length (ent p) s i with
  | true =>
   obtain ⟨b,hbl,e⟩:=filt_of hi hb;have e:(clsS p s).getD b 0=i:=e;rw [←e,q1 b hbl];exact g2 b hbl
  | false=>rw [q2 i hi hb];exact Rat.le_refl
 ·rw [hsum _ fun i hi hb=>q2 i hi hb,←g3];exact sN_congr fun a ha=>q1 a ha
 ·refine g4.sub0 fun q hq=>?_;obtain ⟨i,hi,e⟩:=List.mem_iff_getElem.1 hq;rw [restQ_len] at hi;have e:(restQ p s).getD i 0=q:=by rw [gD,List.getElem?_eq_getElem (by rw [restQ_len];exact hi),e];rfl
  cases hb:rb p.length (ent p) s i with
  | true =>
   obtain ⟨b,hbl,e2⟩:=filt_of hi hb;have e2:(clsS p s).getD b 0=i:=e2;rw [←e2,q1 b hbl] at e;rw [←e];exact .inl (getD_mem (by rw [restU_len hm.n1,subM_len];exact hbl))
  | false=>rw [q2 i hi hb] at e;exact .inr e.symm
def entS (p:Mt):Fm:=fun j i=>if i=p.length then (if j=p.length - 1 then 1 else 0) else if j=p.length - 1 then 1 else if i=j then ent p i j - 1 else ent p i j
theorem entS_row {p:Mt} {t:Nat} (h:MtR p t) (x:Nat→Rat) {j:Nat} (hj:j < p.length):rowX p.length (entS p) x j=if j=p.length - 1 then sN p.length x else (sN p.length fun i=>x i*ent p i j) - x j:=by
 unfold rowX entS
 by_cases e:j=p.length - 1
 ·rw [show (if j=p.length - 1 then sN p.length x else (sN p.length fun i=>x i*ent p i j) - x j)=sN p.length x from if_pos e]
  exact sN_congr fun i hi=>by rw [if_neg (show ¬i=p.length by omega),if_pos e,Rat.one_mul]
 ·rw [show (if j=p.length - 1 then sN p.length x else (sN p.length fun i=>x i*ent p i j) - x j)=(sN p.length fun i=>x i*ent p i j) - x j from if_neg e]
  have:(sN p.length fun i=>(if i=p.length then (if j=p.length - 1 then (1:Rat) else 0) else if j=p.length - 1 then 1 else if i=j then ent p i j - 1 else ent p i j)*x i)+(sN p.length fun i=>if i=j then x i else 0)=sN p.length fun i=>x i*ent p i j:=by
   rw [←sN_add]
   refine sN_congr fun i hi=>?_
   rw [if_neg (by omega),if_neg e]
   by_cases e2:i=j
   ·rw [if_pos e2,if_pos e2];grind
   ·rw [if_neg e2,if_neg e2];grind
  rw [sN_delta,if_pos hj] at this
  grind
theorem MtR.inj {p:Mt} {t s:Nat} (h:MtR p t) (hs:s < p.length) (hc:Cl p.length (ent p) s):Inj p.length (entS p):=by
 intro x hx
 have hsum:sN p.length x=0:=by
  have:=hx (p.length - 1) (by omega)
  rw [entS_row h x (by omega),if_pos rfl] at this
  exact this
 have hj:∀j,j < p.length→j≠p.length - 1→(sN p.length fun i=>x i*ent p i j)=x j:=fun j hj hne=>by
  have:=hx j hj
  rw [entS_row h x hj,if_neg hne] at this
  grind
 refine St.uniq h.sto hc hs (fun j hj2=>?_) hsum
 by_cases e:j=p.length - 1
 ·-- the sum of all of them is nought
  have hall:(sN p.length fun j=>(sN p.length fun i=>x i*ent p i j) - x j)=0:=by
   have e1:(sN p.length fun j=>(sN p.length fun i=>x i*ent p i j) - x j)=(sN p.length fun j=>sN p.length fun i=>x i*ent p i j)+sN p.length fun j=>-x j:=by
    rw [←sN_add];exact sN_congr fun j _=>Rat.sub_eq_add_neg _ _
   rw [e1,←sN_comm,sN_neg,hsum]
   have e2:(sN p.length fun i=>sN p.length fun j=>x i*ent p i j)=sN p.length x:=sN_congr fun i hi=>by rw [sN_mul,h.sto.one i hi,Rat.mul_one]
   rw [e2,hsum];grind
  rw [sN_only (a:=j) hj2 fun k hk hne=>by have:=hj k hk (by omega);grind] at hall
  grind
 ·exact hj j hj2 e
theorem MtR.sol {p:Mt} {t:Nat} (h:MtR p t) {x:Nat→Rat} (h1:St p.length (ent p) x) (h2:sN p.length x=1):Sol p.length (entS p) x:=by
 intro j hj
 rw [entS_row h x hj]
 unfold entS
 rw [if_pos rfl]
 by_cases e:j=p.length - 1
 ·rw [if_pos e,if_pos e,h2]
 ·rw [if_neg e,if_neg e,h1 j hj];grind
def sysL (p:Mt):Mt:=(List.range p.length).map fun j=>(List.range (p.length+1)).map (entS p j)
theorem sysL_len (p:Mt):(sysL p).length=p.length:=by simp [sysL]
theorem sysL_at {p:Mt} {j:Nat} (h:j < p.length):(sysL p).getD j []=(List.range (p.length+1)).map (entS p j):=map_at h
theorem range_at {n r:Nat} (h:r < n):(List.range n).getD r 0=r:=by
 rw [gD,List.getElem?_eq_getElem (by simpa using h)];simp
theorem MtR.gj {p:Mt} {t:Nat} (h:MtR p t):Gj p.length (12*t+14) (lgF (List.range p.length) (sysL p)) (List.range p.length) (sysL p) 0:=by
 have el:∀r,r < p.length→lg (List.range p.length) (sysL p) r=(List.range (p.length+1)).map (entS p r):=fun r hr=>by
  unfold lg;rw [range_at hr,sysL_at hr]
 refine ⟨⟨by simp,sysL_len p,fun r hr=>by rw [range_at hr];exact hr,fun r q hr hq e=>by rwa [range_at hr,range_at hq] at e,fun r hr=>by rw [el r hr];simp⟩,Eqv.refl _ _,fun c hc=>by omega,fun r hr=>?_⟩;rw [Nat.pow_zero,Nat.one_mul,el r hr];have hE:∀i,∃E:Nat,i < p.length→E≠0∧bl E < t∧Iz E (ent p i r):=fun i=>by
  by_cases hi:i < p.length
  ·obtain ⟨E,e1,e2,e3⟩:=h.row _ (getD_mem (d:=[]) hi);obtain ⟨z,hz,_⟩:=e3 (ent p i r) (getD_mem (by rw [h.sq _ (getD_mem hi)];exact hr));exact ⟨E,fun _=>⟨e1,e2,z,hz⟩⟩
  ·exact ⟨0,fun h=>absurd h hi⟩
 obtain ⟨Ef,hEf⟩:∃Ef:Nat→Nat,∀i,i < p.length→Ef i≠0∧bl (Ef i) < t∧Iz (Ef i) (ent p i r):=⟨fun i=>(hE i).choose,fun i hi=>(hE i).choose_spec hi⟩;have hP:∀m,m≤p.length→∃D:Nat,D≠0∧bl D≤m*t+1∧∀i,i < m→Iz D (ent p i r):=by
  intro m;induction m with
  | zero=>intro _;exact ⟨1,by decide,by rw [bl_one];omega,fun i hi=>by omega⟩
  | succ m ih =>
   intro hm;obtain ⟨D,d1,d2,d3⟩:=ih (by omega);obtain ⟨f1,f2,f3⟩:=hEf m (by omega);have:=bl_mul D (Ef m);refine ⟨D*Ef m,Nat.mul_ne_zero d1 f1,by rw [Nat.succ_mul];omega,fun i hi=>?_⟩;by_cases e:i=m
   ·subst e;exact f3.more' D
   ·exact (d3 i (by omega)).more _
 obtain ⟨D,d1,d2,d3⟩:=hP p.length (Nat.le_refl _);have h12:p.length*t≤12*t:=Nat.mul_le_mul_right _ h.n2;refine RowB.of_iz d1 (by omega) 1 (by rw [Nat.one_mul];omega) fun q hq=>?_;obtain ⟨i,hi,rfl⟩:=List.mem_map.1 hq;have hi:i < p.length+1:=by simpa using hi
 have c1:(((1:Nat):Int):Rat)=1:=rfl;rw [c1];unfold entS;by_cases e:i=p.length
 ·rw [if_pos e];split
  ·exact ⟨Iz.one D,by grind,by grind⟩
  ·exact ⟨Iz.zero D,by grind,by grind⟩
 ·rw [if_neg e];have g1:=h.sto.pos i r (by omega) hr;have g2:ent p i r≤1:=by
   rw [←h.sto.one i (by omega)];exact sN_one_le (f:=ent p i) hr fun k hk=>h.sto.pos i k (by omega) hk
  have g3:=d3 i (by omega);split
  ·exact ⟨Iz.one D,by grind,by grind⟩
  ·split
   ·refine ⟨?_,by grind,by grind⟩;rw [Rat.sub_eq_add_neg];exact g3.add (Iz.one D).neg
   ·exact ⟨g3,by grind,by grind⟩
theorem MtR.rest_gj {p:Mt} {t s:Nat} (h:MtR p t) (hs:s < p.length) (hc:Cl p.length (ent p) s):Inj p.length (lgF (List.range p.length) (sysL p))∧gjX p.length (List.range p.length,sysL p)=restQ p s:=by
 have e:Eqv p.length (entS p) (lgF (List.range p.length) (sysL p)):=Eqv.congr fun r hr j hj=>by
  unfold lgF lg
  rw [range_at hr,sysL_at hr,map_at (by omega)]
 have hi:=e.inj (h.inj hs hc)
 obtain ⟨g1,_,g3,_⟩:=h.rest hs hc
 exact ⟨hi,gjX_is h.gj hi (restQ_len p s) ((e.s _).1 (h.sol g1 g3))⟩
end Go.V
namespace Go.V
end Go.V
namespace Go.V
open Go.Proofs Go.RowKit
set_option maxRecDepth 10000
set_option maxHeartbeats 1000000
def cBo (xs:List Bool):List (List C):=xs.map fun b=>[.s (.bool b)]
theorem cBo_len (xs:List Bool):(cBo xs).length=xs.length:=by simp [cBo]
theorem cBo_sz (xs:List Bool):∀r,r∈cBo xs→r.length=1:=by
 intro r hr;simp only [cBo,List.mem_map] at hr;obtain ⟨n,_,rfl⟩:=hr;rfl
theorem cBo_as {xs:List Bool} {i:Nat} {x:Bool} (h:i < xs.length) (e:xs.getD i false=x):(cBo xs)[i]? = some [.s (.bool x)]:=by
 subst e;rw [gD,List.getElem?_eq_getElem h];simp [cBo,h]
theorem cBo_append1 (xs:List Bool) (x:Bool):cBo xs++[[.s (.bool x)]]=cBo (xs++[x]):=by simp [cBo]
theorem cBo_set (xs:List Bool) (k:Nat) (x:Bool):(cBo xs).set k [.s (.bool x)]=cBo (xs.set k x):=by unfold cBo;rw [List.map_set]
abbrev lBo (xs:List Bool):AV:=.d (.sl (cBo xs))
theorem cQ_ap1 (xs:List Rat) (x:Rat):cQ xs++[c1Q x]=cQ (xs++[x]):=by simp [cQ]
theorem cS_ap1 (xs:List Rat) (x:Rat):cS xs++[c1S x]=cS (xs++[x]):=by simp [cS]
end Go.V
namespace Go.V
open Go.Proofs Go.RowKit
set_option maxRecDepth 10000
set_option maxHeartbeats 1000000
structure VOk (m:Mo) (v:List Rat):Prop where
 l:v.length=m.room+1
 s:∀q,q∈v→sz q≤50000
theorem VOk.sz {m:Mo} {v:List Rat} (h:VOk m v) {n:Nat} (hn:n < m.room+1):Go.V.sz (vAt v n)≤50000:=h.s _ (vAt_mem (by rw [h.l];exact hn))
end Go.V
namespace Go.V
open Go.Proofs Go.RowKit
set_option maxRecDepth 10000
set_option maxHeartbeats 1000000
end Go.V
namespace Go.V
open Go.Proofs Go.RowKit
set_option maxRecDepth 10000
set_option maxHeartbeats 1000000
end Go.V
namespace Go.V
open Go.Proofs Go.RowKit
set_option maxRecDepth 10000
set_option maxHeartbeats 1000000
end Go.V
namespace Go.V
open Go.Proofs Go.RowKit
set_option maxRecDepth 10000
set_option maxHeartbeats 1000000
end Go.V
namespace Go.V
open Go.Proofs Go.RowKit
set_option maxRecDepth 10000
set_option maxHeartbeats 1000000
end Go.V
namespace Go.V
open Go.Proofs Go.RowKit
set_option maxRecDepth 10000
set_option maxHeartbeats 1000000
end Go.V
namespace Go.V
open Go.Proofs Go.RowKit
set_option maxRecDepth 10000
set_option maxHeartbeats 1000000
def ixQ (n w:Nat):List MC:=(List.range n).map fun i=>.r i 0 w
theorem ixQ_len (n w:Nat):(ixQ n w).length=n:=by simp [ixQ]
theorem ixQ_at {n w i:Nat} (h:i < n):(ixQ n w)[i]? = some (.r i 0 w):=by simp [ixQ,h]
theorem ixQ_snoc (n w:Nat):ixQ (n+1) w=ixQ n w++[.r n 0 w]:=by unfold ixQ;rw [List.range_succ,List.map_append];rfl
def cR (R:Mt):List (List (List C)):=R.map cQ
def cRS (R:Mt):List (List (List C)):=R.map cS
theorem cR_len (R:Mt):(cR R).length=R.length:=by simp [cR]
theorem cRS_len (R:Mt):(cRS R).length=R.length:=by simp [cRS]
theorem cR_at {R:Mt} {i:Nat} {x:List Rat} (h:i < R.length) (e:R.getD i []=x):(cR R)[i]? = some (cQ x):=by
 subst e;rw [gD,List.getElem?_eq_getElem h];simp [cR,h]
theorem cRS_at {R:Mt} {i:Nat} {x:List Rat} (h:i < R.length) (e:R.getD i []=x):(cRS R)[i]? = some (cS x):=by
 subst e;rw [gD,List.getElem?_eq_getElem h];simp [cRS,h]
theorem cR_set (R:Mt) (i:Nat) (x:List Rat):(cR R).set i (cQ x)=cR (R.set i x):=by unfold cR;rw [List.map_set]
theorem cRS_set (R:Mt) (i:Nat) (x:List Rat):(cRS R).set i (cS x)=cRS (R.set i x):=by unfold cRS;rw [List.map_set]
end Go.V
namespace Go.V
open Go.Proofs Go.RowKit
set_option maxRecDepth 10000
set_option maxHeartbeats 1000000
end Go.V
