/- Part 5: the abstract machine, its soundness, contracts of functions. -/
import Derived.Test.YtlijkcbangpbaaaGreatDoorK4
import Derived.Lib.ParseIntB
import Derived.Lib.Bytealg
import Derived.Test.YtlijkcbangpbaaaGreatDoorRshelf
import Derived.Lib.ConvBytes
import Derived.Lib.Strings
import Derived.Test.YtlijkcbangpbaaaGreatDoorK3
import Derived.Shelf.Strconv.Itoa3
import Derived.Lib.AppendIntMem
import Derived.Lib.SliceRun
import Derived.WalkKit
import Derived.Lib.Repeat
import Derived.Lib.Join
set_option linter.unusedVariables false
set_option linter.unusedSimpArgs false
namespace Go.V
open Go.Proofs
set_option maxRecDepth 10000
def c1Q (q:Rat):List C:=[.s (.bool (ng q)),.sl (cW .u32 (dg B32 (tp q))),.sl (cW .u32 (dg B32 q.den))]
def cQ (xs:List Rat):List (List C):=xs.map c1Q
theorem cQ_len (xs:List Rat):(cQ xs).length=xs.length:=by simp [cQ]
theorem cQ_sz (xs:List Rat):∀r,r∈cQ xs→r.length=3:=by
 intro r hr;simp only [cQ,List.mem_map] at hr;obtain ⟨n,_,rfl⟩:=hr;rfl
theorem cQ_get {xs:List Rat} {i:Nat} (h:i < xs.length):(cQ xs)[i]? = some (c1Q xs[i]):=by simp [cQ,h]
theorem cQ_append (xs ys:List Rat):cQ xs++cQ ys=cQ (xs++ys):=by simp [cQ]
theorem cQ_as {xs:List Rat} {i:Nat} {x:Rat} (h:i < xs.length) (e:xs.getD i 0=x):(cQ xs)[i]? = some (c1Q x):=by
 rw [cQ_get h];subst e;rw [gD,List.getElem?_eq_getElem h];rfl
abbrev lQ (xs:List Rat):AV:=.d (.sl (cQ xs))
theorem fn_notPlus (q:Rat) (hs:sz q≤1000000000000):Fn Tryz.prog 70 [rI q] [] (B (decide (sgI q≤0))) []:=by
 refine Fn.intro (ks:=[0,1,2]) hty rfl rfl rfl rfl rfl ?_
 conv=>whnf
 refine VCall.of_data (fn_sign q hs) (nd _) ?_
 conv=>whnf
 exact ⟨rfl,trivial,rfl⟩
def psum (xs:List Rat):Nat→Rat
 | 0=>0
 | i+1=>psum xs i+xs.getD i 0
def rsum (xs:List Rat):Rat:=psum xs xs.length
theorem getD_sz {xs:List Rat} {m:Nat} (h:∀q,q∈xs→sz q≤m) (i:Nat) (h1:1≤m):sz (xs.getD i 0)≤m:=by
 rw [gD]
 by_cases hi:i < xs.length
 ·rw [List.getElem?_eq_getElem hi];exact h _ (by simp)
 ·rw [List.getElem?_eq_none (by omega)];exact Nat.le_trans (by decide:sz (0:Rat)≤1) h1
theorem sz_psum {xs:List Rat} {m:Nat} (h:∀q,q∈xs→sz q≤m) (h1:1≤m):∀i,sz (psum xs i)≤i*(m+1)+1
 | 0=>by show sz (0:Rat)≤_;exact Nat.le_trans (by decide:sz (0:Rat)≤1) (by omega)
 | i+1=>by
  show sz (psum xs i+xs.getD i 0)≤_
  have h2:=sz_add (psum xs i) (xs.getD i 0)
  have h3:=sz_psum h h1 i
  have h4:=getD_sz h i h1
  have:(i+1)*(m+1)=i*(m+1)+(m+1):=Nat.succ_mul _ _
  omega
theorem fn_sum (xs:List Rat) (m:Nat) (h:∀q,q∈xs→sz q≤m) (h1:1≤m) (hn:xs.length≤1000000) (hm:xs.length*(m+1)+m+1≤99999999999):Fn Tryz.prog 53 [lQ xs] [] (rI (rsum xs)) []:=by
 have hl:((cQ xs).length:Int)=xs.length:=by rw [cQ_len]
 have c:=fn_whole 0 (by decide) (by decide);refine Fn.intro (ks:=[0,2,3,5,7,8,9,10]) hty rfl rfl rfl rfl rfl ?_;conv=>whnf
 refine VCall.of_data c (ndA fun k=>rfl) ?_;conv=>whnf
 refine VLoop.inv hty (S:=Nat) (fun i=>[(9,I i),(8,I xs.length),(7,lQ xs),(3,.lp 3 0),(2,.lp 2 0)])
  (fun i=>[(3,.box true [B (ng (psum xs i)),nI (tp (psum xs i)),nI (psum xs i).den]),(2,.box true (zeros (ty 44).zero))])
  (fun i=>i≤xs.length) (fun i=>xs.length - i) 0 (Nat.zero_le _) ⟨rfl,by show AV.d (.s (.int .i64 ((cQ xs).length:Int)))=_;rw [cQ_len],rfl,rfl,rfl,trivial⟩ ⟨rfl,rfl,trivial⟩ ?_
 intro i hi;conv=>whnf
 refine Br.mk (fun h2=>?_) (fun h2=>?_)
 ·have h2:i < xs.length:=by simp only [decide_eq_true_eq] at h2;omega
  conv=>whnf
  refine ⟨⟨⟨by omega,by omega⟩,cQ_sz _⟩,?_⟩;conv=>whnf
  obtain ⟨x,ex⟩:∃x,xs.getD i 0=x:=⟨_,rfl⟩;have sx:=getD_sz h i h1;have sp:=sz_psum h h1 i;have hi2:i*(m+1)≤xs.length*(m+1):=Nat.mul_le_mul_right _ hi;have er:psum xs (i+1)=psum xs i+x:=by rw [←ex];rfl
  rw [ex] at sx;refine ⟨_,cQ_as (x:=x) h2 ex,?_⟩;have cc:=fn_radd (psum xs i) x (by omega);rw [←er] at cc;conv=>whnf
  refine VCall.of_data cc (ndA fun k=>rfl) ?_;conv=>whnf
  refine Wr.i64 (y:=((i+1:Nat):Int)) (by omega) (by omega) (by omega) ?_;conv=>whnf
  exact ⟨i+1,h2,by show xs.length - (i+1) < xs.length - i;omega,⟨rfl,rfl,rfl,rfl,rfl,trivial⟩,rfl,rfl,trivial⟩
 ·have h2:i=xs.length:=by simp only [decide_eq_false_iff_not] at h2;omega
  subst h2;conv=>whnf
  exact ⟨rfl,rfl,rfl,trivial,rfl⟩
theorem fn_scaled (xs:List Rat) (b:Rat) (m:Nat) (h0:b≠0) (h:∀q,q∈xs→sz q≤m) (h1:1≤m) (hm:m≤100000000000) (hb:sz b≤100000000000) (hn:xs.length≤1000000) :
  Fn Tryz.prog 52 [lQ xs,rI b] [] (.ls 0 0 xs.length 3) [(0,.row true 3 (cQ (xs.map (· / b))))]:=by
 have hl:((cQ xs).length:Int)=xs.length:=by rw [cQ_len]
 refine Fn.intro (ks:=[0,1,3,4,5,7,9,10,11,12]) hty rfl rfl rfl rfl rfl ?_;conv=>whnf
 refine VLoop.ren 8 20 rfl ?_;refine VLoop.inv hty (S:=Nat) (fun i=>[(11,I i),(10,I xs.length),(9,lQ xs),(5,.ls 20 0 i 3),(3,.lp 3 0)])
  (fun i=>[(20,.row true 3 (cQ ((xs.take i).map (· / b)))),(3,.box true [B (ng b),nI (tp b),nI b.den])]) (fun i=>i≤xs.length) (fun i=>xs.length - i) 0 (Nat.zero_le _)
  ⟨rfl,by show AV.d (.s (.int .i64 ((cQ xs).length:Int)))=_;rw [cQ_len],rfl,rfl,rfl,trivial⟩ ⟨rfl,rfl,trivial⟩ ?_
 intro i hi;conv=>whnf
 refine Br.mk (fun h2=>?_) (fun h2=>?_)
 ·have h2:i < xs.length:=by simp only [decide_eq_true_eq] at h2;omega
  conv=>whnf
  refine ⟨⟨⟨by omega,by omega⟩,cQ_sz _⟩,?_⟩;conv=>whnf
  obtain ⟨x,ex⟩:∃x,xs.getD i 0=x:=⟨_,rfl⟩;have sx:=getD_sz h i h1;rw [ex] at sx;have et:xs.take (i+1)=xs.take i++[x]:=by rw [List.take_succ_eq_append_getElem h2];subst ex;rw [gD,List.getElem?_eq_getElem h2];rfl
  refine ⟨_,cQ_as (x:=x) h2 ex,?_⟩;conv=>whnf
  refine VCall.of_data (fn_rover x b (by omega) hb h0) (ndA fun k=>rfl) ?_;conv=>whnf
  refine Sub.full rfl ?_;conv=>whnf
  refine Sub.full (by rw [cQ_len,List.length_map,List.length_take];omega) ?_;conv=>whnf
  refine ⟨by show (i+1)*56≤_;omega,?_⟩;conv=>whnf
  refine Wr.i64 (y:=((i+1:Nat):Int)) (by omega) (by omega) (by omega) ?_;conv=>whnf
  refine ⟨i+1,h2,by show xs.length - (i+1) < xs.length - i;omega,⟨rfl,rfl,rfl,rfl,rfl,trivial⟩,?_,rfl,trivial⟩;show Ob.row true 3 (cQ _++cQ [x / b])=_;rw [cQ_append,et,List.map_append];rfl
 ·have h2:i=xs.length:=by simp only [decide_eq_false_iff_not] at h2;omega
  subst h2;rw [List.take_length];conv=>whnf
  exact ⟨⟨rfl,rfl,rfl,rfl,rfl,rfl⟩,[],rfl,trivial,rfl⟩
end Go.V
namespace Go.V
section
variable {B:Nat}
theorem dg_fit (hB:2≤B) {l:List Nat} {n:Nat} (hl:∀x,x∈l→x < B) (hv:vl B l=n) (h:l=[]∨B ^ (l.length - 1)≤n):dg B n=l:=by
 apply dg_of hB ⟨hl,fun e=>?_⟩ hv;have hne:l≠[]:=by rintro rfl;simp at e
 have hpos:0 < l.length:=List.length_pos_iff.2 hne;rw [List.getLast?_eq_getElem?,List.getElem?_eq_getElem (by omega)] at e;have e0:l[l.length - 1]=0:=Option.some.inj e;have h1:=vl_take_succ (B:=B) (l:=l) (k:=l.length - 1) (by omega);rw [e0,show l.length - 1+1=l.length by omega,List.take_length,Nat.mul_zero,Nat.add_zero,hv] at h1;have h2:=vl_lt (B:=B) (l:=l.take (l.length - 1)) fun x hx=>hl x (List.mem_of_mem_take hx);rw [List.length_take,Nat.min_eq_left (by omega)] at h2;rcases h with h | h
 ·exact hne h
 ·omega
theorem len_lo (hB:2≤B) {n:Nat} (h:dg B n≠[]):B ^ ((dg B n).length - 1)≤n:=by
 apply Nat.le_of_not_lt
 intro h1
 have h2:=dg_len_le hB h1
 have:0 < (dg B n).length:=List.length_pos_iff.2 h
 omega
theorem snoc_lt' {l:List Nat} {d:Nat} (h:∀x,x∈l→x < B) (hd:d < B):∀x,x∈l++[d]→x < B:=fun x hx=>by
 rcases List.mem_append.1 hx with hx | hx
 ·exact h x hx
 ·rw [List.mem_singleton] at hx;omega
def SumI (B:Nat) (a b:List Nat) (s:List Nat×Nat):Prop :=
 (∀x,x∈s.1→x < B)∧s.2≤1∧vl B s.1+B ^ s.1.length*s.2=vl B (a.take s.1.length)+vl B (b.take s.1.length) ∧
 (s.1.length≤max a.length b.length∨s.2=0∧s.1.length=max a.length b.length+1∧B ^ (s.1.length - 1)≤vl B a+vl B b)
theorem SumI.init (a b:List Nat):SumI B a b ([],0):=⟨by simp,by simp,by simp [vl],.inl (Nat.zero_le _)⟩
theorem SumI.step (hB:2≤B) {a b:List Nat} {s:List Nat×Nat} (ha:∀x,x∈a→x < B) (hb:∀x,x∈b→x < B) (h:SumI B a b s) (hc:s.1.length < a.length∨s.1.length < b.length∨0 < s.2) :
  s.1.length≤max a.length b.length∧SumI B a b (s.1++[(s.2+a.getD s.1.length 0+b.getD s.1.length 0) % B],(s.2+a.getD s.1.length 0+b.getD s.1.length 0) / B):=by
 obtain ⟨h1,h2,h3,h4⟩:=h;have hle:s.1.length≤max a.length b.length:=by omega
 have hx:=getD_lt ha (by omega) s.1.length;have hy:=getD_lt hb (by omega) s.1.length;have hst:=add_step h3;refine ⟨hle,snoc_lt' h1 (Nat.mod_lt _ (by omega)),?_,by rw [List.length_append];exact hst,?_⟩
 ·show _ / B≤1;have:s.2+a.getD s.1.length 0+b.getD s.1.length 0 < B*2:=by omega
  have:=Nat.div_lt_of_lt_mul this;omega
 ·rcases Nat.lt_or_ge s.1.length (max a.length b.length) with hlt | hge
  ·left;simp only [List.length_append,List.length_singleton];omega
  ·right
   have hxa:a.getD s.1.length 0=0:=by rw [gD,List.getElem?_eq_none (by omega)];rfl
   have hxb:b.getD s.1.length 0=0:=by rw [gD,List.getElem?_eq_none (by omega)];rfl
   rw [hxa,hxb];have hs2:s.2=1:=by omega
   rw [List.take_of_length_le (by omega),List.take_of_length_le (by omega),hs2,Nat.mul_one] at h3;refine ⟨?_,by simp only [List.length_append,List.length_singleton];omega,?_⟩
   ·show _ / B=0;rw [hs2];exact Nat.div_eq_of_lt (by omega)
   ·show B ^ ((s.1++[_]).length - 1)≤_;rw [List.length_append,List.length_singleton,Nat.add_sub_cancel];omega
theorem SumI.done (hB:2≤B) {m n:Nat} {s:List Nat×Nat} (h:SumI B (dg B m) (dg B n) s) (hc:¬(s.1.length < (dg B m).length∨s.1.length < (dg B n).length∨0 < s.2)):s.1=dg B (m+n):=by
 obtain ⟨h1,h2,h3,h4⟩:=h;have hs0:s.2=0:=by omega
 rw [List.take_of_length_le (by omega),List.take_of_length_le (by omega),hs0,Nat.mul_zero,Nat.add_zero,vl_dg hB,vl_dg hB] at h3;rw [vl_dg hB,vl_dg hB] at h4;refine (dg_fit hB h1 h3 ?_).symm;rcases h4 with h4 | ⟨_,_,h4⟩
 ·by_cases he:s.1=[]
  ·exact .inl he
  right
  have:0 < s.1.length:=List.length_pos_iff.2 he;rcases Nat.lt_or_ge (dg B m).length s.1.length with hm | hm
  ·have e:s.1.length=(dg B n).length:=by omega
   have:=len_lo hB (n:=n) (by intro e2;rw [e2,List.length_nil] at e;omega);rw [e];omega
  ·have e:s.1.length=(dg B m).length:=by omega
   have:=len_lo hB (n:=m) (by intro e2;rw [e2,List.length_nil] at e;omega);rw [e];omega
 ·exact .inr h4
def NatI (B N:Nat) (s:List Nat×Nat):Prop:=(∀x,x∈s.1→x < B)∧vl B s.1+B ^ s.1.length*s.2=N∧(s.2=0→s.1=[]∨B ^ (s.1.length - 1)≤N)
theorem NatI.init (N:Nat):NatI B N ([],N):=⟨by simp,by simp [vl],fun _=>.inl rfl⟩
theorem NatI.step (hB:2≤B) {N:Nat} {s:List Nat×Nat} (h:NatI B N s) (h0:0 < s.2):NatI B N (s.1++[s.2 % B],s.2 / B)∧s.2 / B < s.2:=by
 obtain ⟨h1,h2,h3⟩:=h
 refine ⟨⟨snoc_lt' h1 (Nat.mod_lt _ (by omega)),?_,fun _=>.inr ?_⟩,Nat.div_lt_self h0 (by omega)⟩
 ·show vl B (s.1++[s.2 % B])+B ^ (s.1++[s.2 % B]).length*(s.2 / B)=N
  rw [vl_snoc,List.length_append,List.length_singleton,Nat.pow_succ]
  have:=split_digit (B:=B) (P:=B ^ s.1.length) (x:=s.2)
  omega
 ·show B ^ ((s.1++[s.2 % B]).length - 1)≤N
  rw [List.length_append,List.length_singleton,Nat.add_sub_cancel]
  have:=Nat.mul_le_mul_left (B ^ s.1.length) h0
  omega
theorem NatI.done (hB:2≤B) {N:Nat} {s:List Nat×Nat} (h:NatI B N s) (h0:s.2=0):s.1=dg B N:=by
 obtain ⟨h1,h2,h3⟩:=h
 rw [h0,Nat.mul_zero,Nat.add_zero] at h2
 exact (dg_fit hB h1 h2 (h3 h0)).symm
def ShmI (B:Nat) (a:List Nat) (d:Nat) (s:List Nat×Nat):Prop:=s.1.length≤a.length∧(∀x,x∈s.1→x < B)∧s.2 < B∧vl B s.1+B ^ s.1.length*s.2=d*vl B (a.take s.1.length)
theorem ShmI.init (hB:2≤B) (a:List Nat) (d:Nat):ShmI B a d ([],0):=⟨Nat.zero_le _,by simp,by show 0 < B;omega,by simp [vl]⟩
theorem ShmI.step {a:List Nat} {d:Nat} {s:List Nat×Nat} (ha:∀x,x∈a→x < B) (hd:d < B) (h:ShmI B a d s) (hi:s.1.length < a.length) :
  a.getD s.1.length 0*d+s.2 < B*B∧ShmI B a d (s.1++[(a.getD s.1.length 0*d+s.2) % B],(a.getD s.1.length 0*d+s.2) / B):=by
 obtain ⟨h1,h2,h3,h4⟩:=h;have hx:=getD_lt ha (by omega) s.1.length;have hb:=mul_bound hx hd (show 0 < B by omega) h3;rw [Nat.add_zero,Nat.add_comm] at hb;refine ⟨hb.1,by simp only [List.length_append,List.length_singleton];omega,snoc_lt' h2 (Nat.mod_lt _ (by omega)),hb.2,?_⟩;show vl B (s.1++[_])+B ^ (s.1++[_]).length*(_ / B)=d*vl B (a.take (s.1++[_]).length);rw [vl_snoc,List.length_append,List.length_singleton,vl_take_getD,Nat.pow_succ];have h5:=split_digit (B:=B) (P:=B ^ s.1.length) (x:=a.getD s.1.length 0*d+s.2);rw [Nat.mul_add (B ^ s.1.length)] at h5;have h6:d*(vl B (a.take s.1.length)+B ^ s.1.length*a.getD s.1.length 0)=d*vl B (a.take s.1.length)+B ^ s.1.length*(a.getD s.1.length 0*d):=by grind
 rw [h6];omega
theorem ShmI.done (hB:2≤B) {n d:Nat} (hd:0 < d) {s:List Nat×Nat} (h:ShmI B (dg B n) d s) (hl:s.1.length=(dg B n).length) :
  (0 < s.2→s.1++[s.2]=dg B (n*d))∧(s.2=0→s.1=dg B (n*d)):=by
 obtain ⟨h1,h2,h3,h4⟩:=h
 rw [List.take_of_length_le (by omega),vl_dg hB,Nat.mul_comm d n] at h4
 refine ⟨fun h0=>(dg_fit hB (snoc_lt' h2 h3) (by rw [vl_snoc];exact h4) (.inr ?_)).symm,fun h0=>(dg_fit hB h2 (by rw [h0] at h4;simpa using h4) ?_).symm⟩
 ·rw [List.length_append,List.length_singleton,Nat.add_sub_cancel]
  have:=Nat.mul_le_mul_left (B ^ s.1.length) h0
  omega
 ·by_cases he:s.1=[]
  ·exact .inl he
  right
  have h5:=len_lo hB (n:=n) (by intro e;apply he;rw [e] at hl;exact List.eq_nil_of_length_eq_zero hl)
  rw [hl]
  have h6:n*1≤n*d:=Nat.mul_le_mul_left _ hd
  omega
def OffI (B:Nat) (W v:List Nat) (g:Nat) (s:List Nat×Nat):Prop:=s.1.length≤v.length∧(∀x,x∈s.1→x < B)∧s.2 < B∧vl B s.1+g*vl B (v.take s.1.length)=vl B (W.take s.1.length)+B ^ s.1.length*s.2
theorem OffI.init (hB:2≤B) (W v:List Nat) (g:Nat):OffI B W v g ([],0):=⟨Nat.zero_le _,by simp,by show 0 < B;omega,by simp [vl]⟩
theorem OffI.step (hB:2≤B) {W v:List Nat} {g d l:Nat} {s:List Nat×Nat} (hv:∀x,x∈v→x < B) (hg:g < B) (h:OffI B W v g s) (hi:s.1.length < v.length) (hd:d < B)
  (he:d+v.getD s.1.length 0*g % B+s.2=W.getD s.1.length 0+B*l) :
  OffI B W v g (s.1++[d],v.getD s.1.length 0*g / B+l):=by
 obtain ⟨h1,h2,h3,h4⟩:=h
 have key:vl B (s.1++[d])+g*vl B (v.take (s.1.length+1))=vl B (W.take (s.1.length+1))+B ^ (s.1.length+1)*(v.getD s.1.length 0*g / B+l):=by
  rw [vl_snoc,vl_take_getD,vl_take_getD,Nat.pow_succ]
  have h5:=congrArg (B ^ s.1.length * ·) he
  have h6:=split_digit (B:=B) (P:=B ^ s.1.length) (x:=v.getD s.1.length 0*g)
  simp only [Nat.mul_add,←Nat.mul_assoc] at h5 h6 h4 ⊢
  rw [show g*B ^ s.1.length*v.getD s.1.length 0=B ^ s.1.length*v.getD s.1.length 0*g by grind]
  omega
 have hr:=snoc_lt' h2 hd
 refine ⟨by simp only [List.length_append,List.length_singleton];omega,hr,?_,by rw [List.length_append];exact key⟩
 have h5:=vl_lt hr
 rw [List.length_append,List.length_singleton] at h5
 have h6:=vl_lt (B:=B) (l:=v.take (s.1.length+1)) fun x hx=>hv x (List.mem_of_mem_take hx)
 rw [List.length_take,Nat.min_eq_left (by omega)] at h6
 show v.getD s.1.length 0*g / B+l < B
 generalize v.getD s.1.length 0*g / B+l=c at *
 apply Nat.lt_of_not_le
 intro hc
 have h7:=Nat.mul_le_mul_left (B ^ (s.1.length+1)) hc
 have h8:g*vl B (v.take (s.1.length+1))≤(B - 1)*B ^ (s.1.length+1):=Nat.mul_le_mul (by omega) (by omega)
 have h9:(B - 1)*B ^ (s.1.length+1)+B ^ (s.1.length+1)=B ^ (s.1.length+1)*B:=by
  obtain ⟨n,rfl⟩:∃n,B=n+1:=⟨B - 1,by omega⟩
  rw [Nat.add_sub_cancel];grind
 omega
theorem OffI.done {W v:List Nat} {g n:Nat} {s:List Nat×Nat} (hv:∀x,x∈v→x < B) (h:OffI B W v g s) (hl:s.1.length=n) (hn:v.length=n) (hW:W.length=n+1) (hg:g*vl B v≤vl B W+vl B v) :
  (s.2≤W.getD n 0→g*vl B v≤vl B W∧vl B (s.1++[W.getD n 0 - s.2])=vl B W - g*vl B v) ∧
  (W.getD n 0 < s.2→vl B W < g*vl B v∧s.2=W.getD n 0+1∧vl B s.1+vl B v=B ^ n+(vl B W+vl B v - g*vl B v)∧vl B W+vl B v - g*vl B v < B ^ n):=by
 obtain ⟨h1,h2,h3,h4⟩:=h;have h5:=vl_take_getD (B:=B) W n;rw [List.take_of_length_le (by omega)] at h5;rw [hl] at h4;have h6:=vl_lt h2;rw [hl] at h6;have hVn:=vl_lt hv;rw [hn] at hVn;rw [List.take_of_length_le (by omega)] at h4;generalize vl B v=V at *;generalize W.getD n 0=w at *;generalize g*V=gV at *;constructor
 ·intro hle;have e:B ^ n*w=B ^ n*s.2+B ^ n*(w - s.2):=by rw [←Nat.mul_add,show s.2+(w - s.2)=w by omega]
  refine ⟨by omega,?_⟩;rw [vl_snoc,hl];omega
 ·intro hlt;have hk:s.2=w+1:=by
   apply Classical.byContradiction;intro hne;have h7:=Nat.mul_le_mul_left (B ^ n) (by omega:w+2≤s.2);rw [Nat.mul_add] at h7;omega
  rw [hk,Nat.mul_add,Nat.mul_one] at h4;refine ⟨by omega,hk,by omega,by omega⟩
theorem bak_done {r':List Nat} {n r V X c:Nat} (h:vl B r'+B ^ n*c=r+V) (hr':vl B r' < B ^ n) (hX:r+V=B ^ n+X) (hXn:X < B ^ n):c=1∧vl B r'=X:=by
 have hc:c=1:=by
  rcases Nat.lt_or_ge c 1 with h1 | h1
  ·have:c=0:=by omega
   subst this;simp at h;omega
  ·apply Classical.byContradiction;intro hne;have:=Nat.mul_le_mul_left (B ^ n) (by omega:2≤c);omega
 subst hc;exact ⟨rfl,by omega⟩
end
end Go.V
namespace Go.V
open Lib (decDigits)
def IsD (b:UInt8):Prop:=48≤b.toNat∧b.toNat≤57
def dvA:List UInt8→Nat→Nat
 | [],n=>n
 | b :: r,n=>dvA r (10*n+(b.toNat - 48))
def dv (s:List UInt8):Nat:=dvA s 0
theorem dvA_eq:∀(s:List UInt8) (n:Nat),dvA s n=n*10 ^ s.length+dv s
 | [],n=>by simp [dvA,dv]
 | b :: r,n=>by
  simp only [dv,dvA,List.length_cons];rw [dvA_eq r,dvA_eq r (10*0+(b.toNat - 48)),Nat.pow_succ];have:(10*n+(b.toNat - 48))*10 ^ r.length=n*(10 ^ r.length*10)+(b.toNat - 48)*10 ^ r.length:=by grind
  rw [this,Nat.mul_zero,Nat.zero_add];omega
theorem dvA_append:∀(s t:List UInt8) (n:Nat),dvA (s++t) n=dvA t (dvA s n)
 | [],t,n=>rfl
 | b :: r,t,n=>by simp only [List.cons_append,dvA];exact dvA_append r t _
theorem dv_append (s t:List UInt8):dv (s++t)=dv s*10 ^ t.length+dv t:=by
 unfold dv;rw [dvA_append,dvA_eq];rfl
theorem dv_snoc (s:List UInt8) (b:UInt8):dv (s++[b])=10*dv s+(b.toNat - 48):=by
 unfold dv;rw [dvA_append];rfl
theorem dv_lt:∀{s:List UInt8},(∀b,b∈s→IsD b)→dv s < 10 ^ s.length
 | [],_=>by simp [dv,dvA]
 | b :: r,h=>by
  have h1:=dv_lt (s:=r) fun x hx=>h x (by simp [hx]);have h2:=h b (by simp);have e:=dv_append [b] r;rw [show [b]++r=b :: r from rfl] at e;rw [e,show dv [b]=b.toNat - 48 by simp [dv,dvA],List.length_cons,Nat.pow_succ];have h3:b.toNat - 48≤9:=by have:=h2.2;omega
  have:=Nat.mul_le_mul_right (10 ^ r.length) h3;omega
theorem dv_part {s:List UInt8} {lo hi:Nat} (h:lo≤hi) (hh:hi≤s.length):dv (s.take hi)=dv (s.take lo)*10 ^ (hi - lo)+dv ((s.drop lo).take (hi - lo)):=by
 have e:s.take hi=s.take lo++(s.drop lo).take (hi - lo):=by
  conv=>lhs;rw [show hi=lo+(hi - lo) by omega,List.take_add]
 rw [e,dv_append,List.length_take,List.length_drop,Nat.min_eq_left (by omega)]
theorem isD_ofNat {d:Nat} (h:d < 10):(UInt8.ofNat (48+d)).toNat=48+d:=by simp;omega
theorem dv_dec (u:Nat):dv (decDigits u)=u:=by
 induction u using Nat.strongRecOn with
 | _ u ih =>
  by_cases h:u < 10
  ·rw [dec_one h]
   show 10*0+((UInt8.ofNat (48+u)).toNat - 48)=u
   rw [isD_ofNat h];omega
  ·rw [dec_more h,dv_snoc,ih _ (by omega),isD_ofNat (by omega)];omega
theorem uint8_ext {a b:UInt8} (h:a.toNat=b.toNat):a=b:=UInt8.toNat_inj.1 h
end Go.V
namespace Go.V
open Go.Proofs
set_option maxRecDepth 10000
theorem win_setK {k:IntKind} {R:List Nat} {lo d:Nat} {r:List Nat} (h:lo+r.length < R.length):(cW k (win R lo r)).set (lo+r.length) [.s (.int k d)]=cW k (win R lo (r++[d])):=by
 have e:(R.take lo).length=lo:=by rw [List.length_take];omega
 rw [cW_set]
 congr 1
 simp only [win];rw [List.set_append_right _ _ (by omega),e,show lo+r.length - lo=r.length by omega,List.set_append_right _ _ (Nat.le_refl _),Nat.sub_self,List.drop_eq_getElem_cons h,List.set_cons_zero,List.length_append];simp [Nat.add_assoc]
theorem row_downK {k:IntKind} {i d:Nat} {q:List Nat}:(cW k (List.replicate (i+1) 0++q)).set i [.s (.int k d)]=cW k (List.replicate i 0++(d :: q)):=by
 rw [cW_set,List.replicate_succ',List.append_assoc,List.set_append_right _ _ (by simp)]
 simp
theorem fn_sTrim (l:List Nat) (hl:∀x,x∈l→x < B9) (hn:l.length≤1000000000000000):Fn Tryz.prog 90 [.d (.sl (cW .i64 l))] [] (nS (vl B9 l)) []:=by
 refine Fn.intro (ks:=[0,2,14]) hty rfl rfl rfl rfl rfl ?_;conv=>whnf
 refine VLoop.inv hty (S:=Nat) (fun k=>[(0,.d (.sl (cW .i64 (l.take k))))]) (fun _=>[]) (TrimI B9 l) (fun k=>k) l.length ⟨Nat.le_refl _,by rw [List.take_length]⟩ ⟨by rw [List.take_length];rfl,trivial⟩ trivial ?_;intro k hI;have hk:=hI.1;have hlen:(l.take k).length=k:=by rw [List.length_take];omega
 have hL:((cW .i64 (l.take k)).length:Int)=k:=by rw [cW_len,hlen]
 conv=>whnf
 refine Br.mk (fun h=>?_) (fun h=>?_)
 ·have hk0:0 < k:=by simp only [decide_eq_true_eq] at h;omega
  conv=>whnf
  refine Wr.i64 (y:=((k - 1:Nat):Int)) (by omega) (by omega) (by omega) ?_;conv=>whnf
  refine ⟨⟨by rw [cW_len,hlen];omega,cW_sz _ _⟩,?_⟩;conv=>whnf
  have hk1:k - 1 < l.length:=by omega
  refine ⟨_,cW_get (by rw [hlen];show k - 1 < k;omega),?_⟩;have ge:(l.take k)[k - 1]'(by rw [hlen];omega)=l[k - 1]:=by simp
  conv=>whnf
  refine Br.mk (fun h2=>?_) (fun h2=>?_)
  ·have h2:l[k - 1]=0:=by rw [←ge];simpa using h2
   conv=>whnf
   refine Wr.i64 (y:=((k - 1:Nat):Int)) (by omega) (by omega) (by omega) ?_;conv=>whnf
   refine ⟨⟨by rw [cW_len];omega,cW_sz _ _⟩,?_⟩;conv=>whnf
   refine ⟨k - 1,⟨by omega,?_⟩,by omega,⟨?_,trivial⟩,trivial⟩
   ·rw [←vl_take_zero hk1 h2,show k - 1+1=k by omega];exact hI.2
   ·show AV.d (.sl (List.drop 0 (List.take (k - 1) (cW .i64 (l.take k)))))=_;rw [List.drop_zero,cW_take,List.take_take,show min (k - 1) k=k - 1 by omega]
  ·have h2:l[k - 1]≠0:=by rw [←ge];simpa using h2
   conv=>whnf
   refine ⟨?_,trivial,rfl⟩;rw [hI.done b9 hl fun j hj e=>by subst e;exact h2]
 ·have hk0:k=0:=by simp only [decide_eq_false_iff_not] at h;omega
  conv=>whnf
  refine ⟨?_,trivial,rfl⟩;rw [hI.done b9 hl fun j hj e=>by omega]
theorem fn_sCmpL (a b:List Nat) (ha:Cn B9 a) (hb:Cn B9 b) (hn:a.length≤1000000000000000) (hm:b.length≤1000000000000000) :
  Fn Tryz.prog 72 [.d (.sl (cW .i64 a)),.d (.sl (cW .i64 b))] [] (I (cmpZ (vl B9 a) (vl B9 b))) []:=by
 have hA:((cW .i64 a).length:Int)=a.length:=by rw [cW_len]
 have hB:((cW .i64 b).length:Int)=b.length:=by rw [cW_len]
 refine Fn.intro (ks:=[0,1,4,5,10,15,20,31,40]) hty rfl rfl rfl rfl rfl ?_;conv=>whnf
 refine Br.mk (fun h=>?_) (fun h=>?_)
 ·have h:a.length≠b.length:=by
   intro e;rw [hA,hB,e] at h;simp at h
  conv=>whnf
  refine Br.mk (fun h2=>?_) (fun h2=>?_)
  ·have h2:a.length < b.length:=by simp only [decide_eq_true_eq] at h2;omega
   conv=>whnf
   exact ⟨by rw [cmpZ_lt (vl_lt_len b9 ha hb h2)],trivial,rfl⟩
  ·have h2:b.length < a.length:=by simp only [decide_eq_false_iff_not] at h2;omega
   conv=>whnf
   exact ⟨by rw [cmpZ_gt (vl_lt_len b9 hb ha h2)],trivial,rfl⟩
 ·have h:a.length=b.length:=by simp at h;rw [cW_len,cW_len] at h;omega
  conv=>whnf
  refine Wr.i64 (y:=(a.length:Int) - 1) (by omega) (by omega) (by omega) ?_;conv=>whnf
  refine VLoop.inv hty (S:=Nat) (fun k=>[(5,I ((k:Int) - 1)),(1,.d (.sl (cW .i64 b))),(0,.d (.sl (cW .i64 a)))]) (fun _=>[]) (fun k=>k≤a.length∧a.drop k=b.drop k) (fun k=>k) a.length ⟨Nat.le_refl _,by rw [List.drop_length,h,List.drop_length]⟩
   ⟨rfl,rfl,rfl,trivial⟩ trivial ?_
  intro k hI;obtain ⟨hk,hI⟩:=hI;conv=>whnf
  refine Br.mk (fun h2=>?_) (fun h2=>?_)
  ·have hk0:0 < k:=by simp only [decide_eq_true_eq] at h2;omega
   have hk1:k - 1 < a.length:=by omega
   have hk2:k - 1 < b.length:=by omega
   have hd:a.drop (k - 1+1)=b.drop (k - 1+1):=by rw [show k - 1+1=k by omega];exact hI
   conv=>whnf
   refine VDraw.go hmo hty 9 [] rfl ?_;conv=>whnf
   refine ⟨⟨⟨by omega,by omega⟩,cW_sz _ _⟩,?_⟩;conv=>whnf
   refine ⟨_,(by rw [show (((k:Int) - 1).toNat)=k - 1 by omega];exact cW_get hk1),?_⟩;conv=>whnf
   refine ⟨⟨⟨by omega,by omega⟩,cW_sz _ _⟩,?_⟩;conv=>whnf
   refine ⟨_,(by rw [show (((k:Int) - 1).toNat)=k - 1 by omega];exact cW_get hk2),?_⟩;conv=>whnf
   refine Br.mk (fun h3=>?_) (fun h3=>?_)
   ·have h3:a[k - 1]≠b[k - 1]:=by simp at h3;omega
    conv=>whnf
    refine VDraw.go hmo hty 9 [] rfl ?_;conv=>whnf
    refine ⟨⟨⟨by omega,by omega⟩,cW_sz _ _⟩,?_⟩;conv=>whnf
    refine ⟨_,(by rw [show (((k:Int) - 1).toNat)=k - 1 by omega];exact cW_get hk1),?_⟩;conv=>whnf
    refine ⟨⟨⟨by omega,by omega⟩,cW_sz _ _⟩,?_⟩;conv=>whnf
    refine ⟨_,(by rw [show (((k:Int) - 1).toNat)=k - 1 by omega];exact cW_get hk2),?_⟩;conv=>whnf
    refine Br.mk (fun h4=>?_) (fun h4=>?_)
    ·have h4:a[k - 1] < b[k - 1]:=by simp at h4;omega
     conv=>whnf
     exact ⟨by rw [cmpZ_lt (vl_cmp ha.1 hk1 hk2 hd h4)],trivial,rfl⟩
    ·have h4:b[k - 1] < a[k - 1]:=by simp at h4;omega
     conv=>whnf
     exact ⟨by rw [cmpZ_gt (vl_cmp hb.1 hk2 hk1 hd.symm h4)],trivial,rfl⟩
   ·have h3:a[k - 1]=b[k - 1]:=by simp at h3;omega
    conv=>whnf
    refine Wr.i64 (y:=((k - 1:Nat):Int) - 1) (by omega) (by omega) (by omega) ?_;conv=>whnf
    refine ⟨k - 1,⟨by omega,?_⟩,by omega,⟨rfl,rfl,rfl,trivial⟩,trivial⟩;rw [List.drop_eq_getElem_cons hk1,List.drop_eq_getElem_cons hk2,hd,h3]
  ·have hk0:k=0:=by simp only [decide_eq_false_iff_not] at h2;omega
   subst hk0;have e:a=b:=by simpa using hI
   conv=>whnf
   exact ⟨by rw [e,cmpZ_eq],trivial,rfl⟩
theorem fn_sCmp (a b:Nat) (ha:bl a≤1000000000000000) (hb:bl b≤1000000000000000):Fn Tryz.prog 72 [nS a,nS b] [] (I (cmpZ a b)) []:=by
 have:=fn_sCmpL (dg B9 a) (dg B9 b) (cn_dg b9 a) (cn_dg b9 b) (Nat.le_trans (dg_len b9 a) ha) (Nat.le_trans (dg_len b9 b) hb)
 rwa [vl_dg b9,vl_dg b9] at this
theorem fn_sDigit (l:List Nat) (i:Nat) (hn:l.length≤1000000000000000) (hi:i≤1000000000000000):Fn Tryz.prog 125 [.d (.sl (cW .i64 l)),I i] [] (I (l.getD i 0:Nat)) []:=by
 have hL:((cW .i64 l).length:Int)=l.length:=by rw [cW_len]
 refine Fn.intro (ks:=[0,1,4,8]) hty rfl rfl rfl rfl rfl ?_;conv=>whnf
 refine Br.mk (fun h=>?_) (fun h=>?_)
 ·have h:i < l.length:=by simp only [decide_eq_true_eq] at h;omega
  conv=>whnf
  refine ⟨⟨⟨by omega,by omega⟩,cW_sz _ _⟩,?_⟩;conv=>whnf
  refine ⟨_,cW_at (i:=i) h,?_⟩;conv=>whnf
  exact ⟨rfl,trivial,rfl⟩
 ·have h:¬i < l.length:=by simp only [decide_eq_false_iff_not] at h;omega
  rw [show l.getD i 0=0 by rw [gD,List.getElem?_eq_none (by omega)];rfl];conv=>whnf
  exact ⟨rfl,trivial,rfl⟩
theorem fn_sNat (n:Nat) (hn:n≤9223372036854775807):Fn Tryz.prog 75 [I n] [] (.ls 0 0 (dg B9 n).length 1) [(0,.row true 1 (cW .i64 (dg B9 n)))]:=by
 refine Fn.intro (ks:=[0,2,3,6]) hty rfl rfl rfl rfl rfl ?_;conv=>whnf
 refine VLoop.ren 4 11 rfl ?_;refine VLoop.inv hty (S:=List Nat×Nat) (fun s=>[(3,.ls 11 0 s.1.length 1),(0,I s.2)]) (fun s=>[(11,.row true 1 (cW .i64 s.1))]) (fun s=>NatI B9 n s∧s.2≤n) (fun s=>s.2) ([],n) ⟨NatI.init n,Nat.le_refl _⟩ ⟨rfl,rfl,trivial⟩ ⟨rfl,trivial⟩ ?_;rintro s ⟨hI,hs⟩;obtain ⟨r,er⟩:∃x,s.1=x:=⟨_,rfl⟩;obtain ⟨m,em⟩:∃x,s.2=x:=⟨_,rfl⟩;have hI:NatI B9 n (r,m):=by rw [←er,←em];exact hI
 rw [em] at hs;rw [er,em];conv=>whnf
 refine Br.mk (fun h=>?_) (fun h=>?_)
 ·have h:0 < m:=by simp only [decide_eq_true_eq] at h;omega
  conv=>whnf
  have hlen:r.length≤63:=by
   have h1:vl B9 r+B9 ^ r.length*m=n:=hI.2.1;have h2:2 ^ r.length≤B9 ^ r.length:=Nat.pow_le_pow_left (by decide) _;have h3:B9 ^ r.length*1≤B9 ^ r.length*m:=Nat.mul_le_mul_left _ h;apply Nat.le_of_not_lt;intro h4;have h5:2 ^ 64≤2 ^ r.length:=Nat.pow_le_pow_right (by decide) h4;have h6:(2:Nat) ^ 64=18446744073709551616:=by decide
   omega
  obtain ⟨hI2,hI3⟩:=hI.step b9 h;simp only at hI2 hI3;obtain ⟨d,ed⟩:∃d,m % B9=d:=⟨_,rfl⟩;obtain ⟨q,eq⟩:∃d,m / B9=d:=⟨_,rfl⟩;rw [ed,eq] at hI2;rw [eq] at hI3;have ed':Int.tmod (m:Int) 1000000000=(d:Int):=by rw [←ed];exact (Int.ofNat_tmod m 1000000000).symm
  have eq':Int.tdiv (m:Int) 1000000000=(q:Int):=by rw [←eq];exact (Int.ofNat_tdiv m 1000000000).symm
  refine ⟨by decide,?_⟩;rw [ed'];conv=>whnf
  refine Sub.full rfl ?_;conv=>whnf
  refine Sub.full (by rw [cW_len]) ?_;conv=>whnf
  refine ⟨by show (r.length+1)*8≤_;omega,?_⟩;conv=>whnf
  refine ⟨by decide,?_⟩;conv=>whnf
  refine Wr.i64 (y:=(q:Int)) eq' (by omega) (by omega) ?_;conv=>whnf
  refine ⟨(r++[d],q),⟨hI2,by show q≤n;omega⟩,hI3,⟨?_,rfl,trivial⟩,?_,trivial⟩
  ·show AV.ls 11 0 (r.length+1) 1=AV.ls 11 0 (r++[d]).length 1;rw [List.length_append];rfl
  ·show Ob.row true 1 (cW .i64 r++cW .i64 [d])=_;rw [cW_append]
 ·have h:m=0:=by simp only [decide_eq_false_iff_not] at h;omega
  have e:=hI.done b9 h;simp only at e;rw [e];conv=>whnf
  exact ⟨⟨rfl,rfl,rfl,rfl,rfl,rfl⟩,[],rfl,trivial,rfl⟩
theorem fn_sSmall (n:Nat) (hs:bl n≤1000000000000000):Fn Tryz.prog 103 [nS n] [] (.tup [I ((if (dg B9 n).length≤2 then n else 0:Nat):Int),B (decide ((dg B9 n).length≤2))]) []:=by
 have hL:((cW .i64 (dg B9 n)).length:Int)=(dg B9 n).length:=by rw [cW_len]
 have hd:=dg_len b9 n;refine Fn.intro (ks:=[0,2,3,6]) hty rfl rfl rfl rfl rfl ?_;conv=>whnf
 refine Br.mk (fun h=>?_) (fun h=>?_)
 ·have h:¬(dg B9 n).length≤2:=by simp only [decide_eq_true_eq] at h;omega
  rw [decide_eq_false h,if_neg h];conv=>whnf
  exact ⟨rfl,rfl,trivial,rfl⟩
 ·have h:(dg B9 n).length≤2:=by simp only [decide_eq_false_iff_not] at h;omega
  rw [decide_eq_true h,if_pos h];have hx:(dg B9 n).getD 0 0 < 1000000000:=getD_lt (B:=B9) (fun x h=>dg_lt b9 h) (by decide) _;have hy:(dg B9 n).getD 1 0 < 1000000000:=getD_lt (B:=B9) (fun x h=>dg_lt b9 h) (by decide) _;have hv:n=(dg B9 n).getD 0 0+1000000000*(dg B9 n).getD 1 0:=by
   have h1:=vl_take_getD (B:=B9) (dg B9 n) 0;have h2:=vl_take_getD (B:=B9) (dg B9 n) 1;rw [List.take_of_length_le (by omega),vl_dg b9,h1,List.take_zero] at h2;simpa [vl] using h2
  obtain ⟨x,ex⟩:∃x,(dg B9 n).getD 0 0=x:=⟨_,rfl⟩;obtain ⟨y,ey⟩:∃x,(dg B9 n).getD 1 0=x:=⟨_,rfl⟩;have c1:=fn_sDigit (dg B9 n) 0 (by omega) (by omega);have c2:=fn_sDigit (dg B9 n) 1 (by omega) (by omega);rw [ex] at c1 hx;rw [ey] at c2 hy;rw [ex,ey] at hv;conv=>whnf
  refine VCall.of_data c1 (nd _) ?_;conv=>whnf
  refine VCall.of_data c2 (nd _) ?_;conv=>whnf
  refine Wr.i64 (y:=(1000000000:Int)*(y:Int)) rfl (by omega) (by omega) ?_;conv=>whnf
  refine Wr.i64 (y:=(n:Int)) (by omega) (by omega) (by omega) ?_;conv=>whnf
  exact ⟨rfl,rfl,trivial,rfl⟩
end Go.V
namespace Go.V
open Go.Proofs
set_option maxRecDepth 10000
set_option maxHeartbeats 2000000
def SMulI (a b:List Nat) (s:List Nat×Nat):Prop:=s.1.length=a.length+b.length∧(∀x,x∈s.1→x < B9)∧s.2≤a.length∧vl B9 s.1=vl B9 (a.take s.2)*vl B9 b∧∀j,s.2+b.length≤j→s.1.getD j 0=0
def SMulJ (a b:List Nat) (i:Nat) (s:List Nat×Nat×Nat):Prop:=s.1.length=a.length+b.length∧(∀x,x∈s.1→x < B9)∧s.2.1≤b.length∧s.2.2 < B9 ∧
 vl B9 s.1+B9 ^ (i+s.2.1)*s.2.2=vl B9 (a.take i)*vl B9 b+B9 ^ i*(a.getD i 0*vl B9 (b.take s.2.1))∧∀j,i+b.length≤j→s.1.getD j 0=0
theorem SMulJ.step {a b:List Nat} {i:Nat} {s:List Nat×Nat×Nat} (h:SMulJ a b i s) (ha:∀x,x∈a→x < B9) (hb:∀x,x∈b→x < B9) (hi:i < a.length) (hk:s.2.1 < b.length) :
  let t:=s.2.2+(a.getD i 0*b.getD s.2.1 0+s.1.getD (i+s.2.1) 0)
  t < B9*B9∧SMulJ a b i (s.1.set (i+s.2.1) (t % B9),s.2.1+1,t / B9):=by
 obtain ⟨h1,h2,h3,h4,h5,h6⟩:=h;have hlt:i+s.2.1 < s.1.length:=by omega
 have hbd:=mul_bound (getD_lt ha (by decide) i) (getD_lt hb (by decide) s.2.1) (getD_lt h2 (by decide) (i+s.2.1)) h4;refine ⟨hbd.1,by rw [List.length_set];exact h1,set_lt h2 (Nat.mod_lt _ (by decide)),hk,hbd.2,?_,fun j hj=>?_⟩
 ·have:=mul_step hlt h5;rw [←getD_get hlt] at this;exact this
 ·show (s.1.set _ _).getD j 0=0;rw [getD_set_ne (by omega)];exact h6 j hj
theorem SMulJ.last {a b:List Nat} {i c:Nat} {O:List Nat} (h:SMulJ a b i (O,b.length,c)) (hi:i < a.length):SMulI a b (O.set (i+b.length) c,i+1):=by
 obtain ⟨h1,h2,h3,h4,h5,h6⟩:=h;simp only at h1 h2 h4 h5 h6;have hlt:i+b.length < O.length:=by omega
 refine ⟨by rw [List.length_set];exact h1,set_lt h2 h4,hi,?_,fun j hj=>?_⟩
 ·show vl B9 (O.set _ _)=_;rw [mul_last hlt (by rw [←getD_get hlt];exact h6 _ (Nat.le_refl _)) h5,vl_take_getD,List.take_length,Nat.add_mul,Nat.mul_assoc]
 ·show (O.set _ _).getD j 0=0;rw [getD_set_ne (by simp only at hj;omega)];exact h6 j (by simp only at hj;omega)
theorem fn_sMulL (a b:List Nat) (ha:∀x,x∈a→x < B9) (hb:∀x,x∈b→x < B9) (hn:a.length≤1000000000000) (hm:b.length≤1000000000000) :
  Fn Tryz.prog 74 [.d (.sl (cW .i64 a)),.d (.sl (cW .i64 b))] [] (nS (vl B9 a*vl B9 b)) []:=by
 have hA:((cW .i64 a).length:Int)=a.length:=by rw [cW_len]
 have hB:((cW .i64 b).length:Int)=b.length:=by rw [cW_len]
 refine Fn.intro (ks:=[0,1,4,5,6,7,8,9,17,18,19,22,23,24]) hty rfl rfl rfl rfl rfl ?_;conv=>whnf
 refine Wr.i64 (y:=((a.length+b.length:Nat):Int)) (by omega) (by omega) (by omega) ?_;conv=>whnf
 refine ⟨⟨by omega,by omega,by show ((a.length+b.length:Nat):Int)*((8:Nat):Int)≤_;omega,by omega⟩,?_⟩;conv=>whnf
 refine VLoop.inv hty (S:=List Nat×Nat) (fun s=>[(18,I s.2),(17,I a.length),(5,.ls 15 0 (a.length+b.length) 1),(1,.d (.sl (cW .i64 b))),(0,.d (.sl (cW .i64 a)))])
  (fun s=>[(15,.row true 1 (cW .i64 s.1))]) (SMulI a b) (fun s=>a.length - s.2) (List.replicate (a.length+b.length) 0,0)
  ⟨by simp,fun x hx=>by rw [(List.mem_replicate.1 hx).2];decide,Nat.zero_le _,by simp [vl_zeros,vl],fun j _=>by simp [gD,List.getElem?_replicate];split <;> rfl⟩
  ⟨rfl,by show AV.d (.s (.int .i64 ((cW .i64 a).length:Int)))=_;rw [cW_len],rfl,rfl,rfl,trivial⟩
  ⟨by show Ob.row true 1 (List.replicate ((a.length+b.length:Nat):Int).toNat [.s (.int .i64 0)])=_;rw [show ((a.length+b.length:Nat):Int).toNat=a.length+b.length from rfl,cW_rep],trivial⟩ ?_
 intro s hI;obtain ⟨i,ei⟩:∃x,s.2=x:=⟨_,rfl⟩;conv=>whnf
 refine Br.mk (fun h2=>?_) (fun h2=>?_)
 ·have hk1:i < a.length:=by simp only [decide_eq_true_eq] at h2;omega
  obtain ⟨g1,g2,g3,g4,g5⟩:=hI;rw [ei] at g3 g4 g5;rw [ei];conv=>whnf
  refine VLoop.inv hty (S:=List Nat×Nat×Nat) (fun q=>[(23,I q.2.1),(22,I b.length),(7,I q.2.2),(6,I i),(18,I i),(17,I a.length),(5,.ls 15 0 (a.length+b.length) 1),(1,.d (.sl (cW .i64 b))),(0,.d (.sl (cW .i64 a)))])
   (fun q=>[(15,.row true 1 (cW .i64 q.1))]) (SMulJ a b i) (fun q=>b.length - q.2.1) (s.1,0,0)
   ⟨g1,g2,Nat.zero_le _,(by show 0 < B9;decide),by simp [g4,vl],g5⟩
   ⟨rfl,by show AV.d (.s (.int .i64 ((cW .i64 b).length:Int)))=_;rw [cW_len],rfl,rfl,rfl,rfl,rfl,rfl,rfl,trivial⟩ ⟨rfl,trivial⟩ ?_
  intro q hJ;obtain ⟨O,eO⟩:∃x,q.1=x:=⟨_,rfl⟩;obtain ⟨k,ek⟩:∃x,q.2.1=x:=⟨_,rfl⟩;obtain ⟨c,ec⟩:∃x,q.2.2=x:=⟨_,rfl⟩;have hJ:SMulJ a b i (O,k,c):=by rw [←eO,←ek,←ec];exact hJ
  have hq:O.length=a.length+b.length:=hJ.1;have hqc:c < 1000000000:=hJ.2.2.2.1;have hkb:k≤b.length:=hJ.2.2.1;rw [eO,ek,ec];conv=>whnf
  refine Br.mk (fun h3=>?_) (fun h3=>?_)
  ·have hk2:k < b.length:=by simp only [decide_eq_true_eq] at h3;omega
   obtain ⟨hbig,hS⟩:=hJ.step ha hb hk1 hk2;have hx:a.getD i 0 < 1000000000:=getD_lt (B:=B9) ha (by decide) i;have hy:b.getD k 0 < 1000000000:=getD_lt (B:=B9) hb (by decide) k;have ho:O.getD (i+k) 0 < 1000000000:=getD_lt (B:=B9) hJ.2.1 (by decide) _;simp only at hbig hS;obtain ⟨x,ex⟩:∃x,a.getD i 0=x:=⟨_,rfl⟩;obtain ⟨y,ey⟩:∃x,b.getD k 0=x:=⟨_,rfl⟩;obtain ⟨o,eo⟩:∃x,O.getD (i+k) 0=x:=⟨_,rfl⟩;rw [ex,ey,eo] at hS hbig;rw [ex] at hx;rw [ey] at hy;rw [eo] at ho;have hxy0:x*y≤999999999*999999999:=Nat.mul_le_mul (by omega) (by omega);obtain ⟨xy,exy⟩:∃z,x*y=z:=⟨_,rfl⟩;rw [exy] at hS hbig hxy0;obtain ⟨n,en⟩:∃z,c+(xy+o)=z:=⟨_,rfl⟩;rw [en] at hS hbig;obtain ⟨d,ed⟩:∃d,n % B9=d:=⟨_,rfl⟩;obtain ⟨p,ep⟩:∃d,n / B9=d:=⟨_,rfl⟩;rw [ed,ep] at hS;have hp:p < 1000000000:=hS.2.2.2.1;have ed':Int.tmod (n:Int) 1000000000=(d:Int):=by rw [←ed];exact (Int.ofNat_tmod n 1000000000).symm
   have ep':Int.tdiv (n:Int) 1000000000=(p:Int):=by rw [←ep];exact (Int.ofNat_tdiv n 1000000000).symm
   conv=>whnf
   refine VDraw.go hmo hty 19 [] rfl ?_;conv=>whnf
   refine Wr.i64 (y:=((i+k:Nat):Int)) rfl (by omega) (by omega) ?_;conv=>whnf
   refine ⟨by omega,?_⟩;conv=>whnf
   refine ⟨_,cW_as (i:=i+k) (by omega) eo,?_⟩;conv=>whnf
   refine ⟨⟨⟨by omega,by omega⟩,cW_sz _ _⟩,?_⟩;conv=>whnf
   refine ⟨_,cW_as (i:=i) hk1 ex,?_⟩;conv=>whnf
   refine ⟨⟨⟨by omega,by omega⟩,cW_sz _ _⟩,?_⟩;conv=>whnf
   refine ⟨_,cW_as (i:=k) hk2 ey,?_⟩;conv=>whnf
   refine Wr.i64 (y:=(xy:Int)) (by rw [←exy];exact (Int.natCast_mul _ _).symm) (by omega) (by omega) ?_;conv=>whnf
   refine Wr.i64 (y:=((o+xy:Nat):Int)) rfl (by omega) (by omega) ?_;conv=>whnf
   refine Wr.i64 (y:=(n:Int)) (by omega) (by omega) (by omega) ?_;conv=>whnf
   refine Wr.i64 (y:=((i+k:Nat):Int)) rfl (by omega) (by omega) ?_;conv=>whnf
   refine ⟨by decide,?_⟩;rw [ed'];conv=>whnf
   refine ⟨by omega,?_⟩;conv=>whnf
   refine ⟨_,cW_at (i:=i+k) (by omega),?_⟩;conv=>whnf
   refine ⟨by decide,?_⟩;conv=>whnf
   refine Wr.i64 (y:=(p:Int)) ep' (by omega) (by omega) ?_;conv=>whnf
   refine Wr.i64 (y:=((k+1:Nat):Int)) rfl (by omega) (by omega) ?_;conv=>whnf
   refine ⟨_,hS,by show b.length - (k+1) < b.length - k;omega,⟨rfl,rfl,rfl,rfl,rfl,rfl,rfl,rfl,rfl,trivial⟩,?_,trivial⟩;show Ob.row true 1 ((cW .i64 O).set (i+k) [.s (.int .i64 (d:Int))])=_;rw [cW_set]
  ·have hk2:k=b.length:=by simp only [decide_eq_false_iff_not] at h3;omega
   have hM:SMulI a b (O.set (i+b.length) c,i+1):=SMulJ.last (by rw [←hk2];exact hJ) hk1;have hO0:O.getD (i+b.length) 0=0:=hJ.2.2.2.2.2 _ (Nat.le_refl _);conv=>whnf
   refine Wr.i64 (y:=((i+b.length:Nat):Int)) (by omega) (by omega) (by omega) ?_;conv=>whnf
   refine ⟨by omega,?_⟩;conv=>whnf
   refine ⟨_,cW_as (i:=i+b.length) (by omega) hO0,?_⟩;conv=>whnf
   refine Wr.i64 (y:=(c:Int)) (by omega) (by omega) (by omega) ?_;conv=>whnf
   refine ⟨by omega,?_⟩;conv=>whnf
   refine ⟨_,cW_at (i:=i+b.length) (by omega),?_⟩;conv=>whnf
   refine Wr.i64 (y:=((i+1:Nat):Int)) rfl (by omega) (by omega) ?_;conv=>whnf
   refine ⟨_,hM,by show a.length - (i+1) < a.length - i;omega,⟨rfl,rfl,rfl,rfl,rfl,trivial⟩,?_,trivial⟩;show Ob.row true 1 ((cW .i64 O).set (i+b.length) [.s (.int .i64 (c:Int))])=_;rw [cW_set]
 ·obtain ⟨g1,g2,g3,g4,g5⟩:=hI;have hk1:s.2=a.length:=by simp only [decide_eq_false_iff_not] at h2;omega
  have hcall:=fn_sTrim s.1 g2 (by omega);rw [g4,hk1,List.take_length] at hcall;conv=>whnf
  refine VCall.frz 15 hcall rfl ⟨⟨rfl,rfl,?_,?_⟩,trivial⟩ (nd _) ?_
  ·rw [cW_len];omega
  ·rw [List.drop_zero,List.take_of_length_le (by rw [cW_len];omega)]
  conv=>whnf
  exact ⟨rfl,trivial,rfl⟩
theorem fn_sMul (a b:Nat) (ha:bl a≤1000000000000) (hb:bl b≤1000000000000):Fn Tryz.prog 74 [nS a,nS b] [] (nS (a*b)) []:=by
 have:=fn_sMulL (dg B9 a) (dg B9 b) (fun x h=>dg_lt b9 h) (fun x h=>dg_lt b9 h) (Nat.le_trans (dg_len b9 a) ha) (Nat.le_trans (dg_len b9 b) hb)
 rwa [vl_dg b9,vl_dg b9] at this
end Go.V
namespace Go.V
open Go.Proofs
set_option maxRecDepth 10000
set_option maxHeartbeats 2000000
theorem fn_sShortMul (a d:Nat) (ha:bl a≤1000000000000) (hd0:0 < d) (hd:d < 1000000000) :
  Fn Tryz.prog 105 [nS a,I d] [] (nS (a*d)) []:=by
 have hla:((cW .i64 (dg B9 a)).length:Int)=(dg B9 a).length:=by rw [cW_len]
 have ga:=dg_len b9 a;have la:∀x,x∈dg B9 a→x < B9:=fun x h=>dg_lt b9 h
 suffices h:∃m,Fn Tryz.prog 105 [nS a,I d] [] (.ls 0 0 m 1) [(0,.row true 1 (cW .i64 (dg B9 (a*d))))]∧m=(dg B9 (a*d)).length by
  obtain ⟨m,h1,rfl⟩:=h;have:=h1.freeze (by rw [cW_len];omega);rwa [List.drop_zero,List.take_of_length_le (by rw [cW_len];omega)] at this
 refine ⟨_,?_,rfl⟩;refine Fn.intro (ks:=[0,1,4,5,6,8,9,14,15,16,17,34]) hty rfl rfl rfl rfl rfl ?_;conv=>whnf
 refine Wr.i64 (y:=(((dg B9 a).length+1:Nat):Int)) (by omega) (by omega) (by omega) ?_;conv=>whnf
 refine ⟨⟨by omega,by omega,by show (((dg B9 a).length+1:Nat):Int)*((8:Nat):Int)≤_;omega,by omega⟩,?_⟩;conv=>whnf
 refine VLoop.ren 13 29 rfl ?_;refine VLoop.inv hty (S:=List Nat×Nat) (fun s=>[(16,I s.1.length),(15,I (dg B9 a).length),(14,nS a),(6,I s.2),(5,.ls 29 0 s.1.length 1),(1,I d)]) (fun s=>[(29,.row true 1 (cW .i64 s.1))]) (ShmI B9 (dg B9 a) d)
  (fun s=>(dg B9 a).length - s.1.length) ([],0) (ShmI.init b9 _ _) ⟨rfl,by show AV.d (.s (.int .i64 ((cW .i64 (dg B9 a)).length:Int)))=_;rw [cW_len],rfl,rfl,rfl,rfl,trivial⟩ ⟨rfl,trivial⟩ ?_
 intro s hI;obtain ⟨r,er⟩:∃x,s.1=x:=⟨_,rfl⟩;obtain ⟨c,ec⟩:∃x,s.2=x:=⟨_,rfl⟩;have hI:ShmI B9 (dg B9 a) d (r,c):=by rw [←er,←ec];exact hI
 have hrl:r.length≤(dg B9 a).length:=hI.1;have hcB:c < 1000000000:=hI.2.2.1;rw [er,ec];conv=>whnf
 refine Br.mk (fun h=>?_) (fun h=>?_)
 ·have h:r.length < (dg B9 a).length:=by simp only [decide_eq_true_eq] at h;omega
  obtain ⟨hbig,hst⟩:=hI.step la hd h;simp only at hbig hst;have hx:(dg B9 a).getD r.length 0 < 1000000000:=getD_lt (B:=B9) la (by decide) _;obtain ⟨x,ex⟩:∃x,(dg B9 a).getD r.length 0=x:=⟨_,rfl⟩;rw [ex] at hbig hst hx;have hxd:x*d≤999999999*999999999:=Nat.mul_le_mul (by omega) (by omega);obtain ⟨xd,exd⟩:∃z,x*d=z:=⟨_,rfl⟩;rw [exd] at hbig hst hxd;obtain ⟨n,en⟩:∃z,xd+c=z:=⟨_,rfl⟩;rw [en] at hbig hst;obtain ⟨e,ed⟩:∃d,n % B9=d:=⟨_,rfl⟩;obtain ⟨q,eq⟩:∃d,n / B9=d:=⟨_,rfl⟩;rw [ed,eq] at hst;have hq:q < 1000000000:=hst.2.2.1;have ed':Int.tmod (n:Int) 1000000000=(e:Int):=by rw [←ed];exact (Int.ofNat_tmod n 1000000000).symm
  have eq':Int.tdiv (n:Int) 1000000000=(q:Int):=by rw [←eq];exact (Int.ofNat_tdiv n 1000000000).symm
  conv=>whnf
  refine ⟨⟨⟨by omega,by omega⟩,cW_sz _ _⟩,?_⟩;conv=>whnf
  refine ⟨_,cW_as (i:=r.length) h ex,?_⟩;conv=>whnf
  refine Wr.i64 (y:=(xd:Int)) (by rw [←exd];exact (Int.natCast_mul _ _).symm) (by omega) (by omega) ?_;conv=>whnf
  refine Wr.i64 (y:=(n:Int)) (by omega) (by omega) (by omega) ?_;conv=>whnf
  refine ⟨by decide,?_⟩;rw [ed'];conv=>whnf
  refine Sub.full rfl ?_;conv=>whnf
  refine Sub.full (by rw [cW_len]) ?_;conv=>whnf
  refine ⟨by show (r.length+1)*8≤_;omega,?_⟩;conv=>whnf
  refine ⟨by decide,?_⟩;conv=>whnf
  refine Wr.i64 (y:=(q:Int)) eq' (by omega) (by omega) ?_;conv=>whnf
  refine Wr.i64 (y:=((r.length+1:Nat):Int)) rfl (by omega) (by omega) ?_;conv=>whnf
  refine ⟨(r++[e],q),hst,by show _ - (r++[e]).length < _;rw [List.length_append,List.length_singleton];omega,⟨?_,rfl,rfl,rfl,?_,rfl,trivial⟩,?_,trivial⟩
  ·show AV.d (.s (.int .i64 ((r.length+1:Nat):Int)))=I ((r++[e]).length:Nat);rw [List.length_append];rfl
  ·show AV.ls 29 0 (r.length+1) 1=AV.ls 29 0 (r++[e]).length 1;rw [List.length_append];rfl
  ·show Ob.row true 1 (cW .i64 r++cW .i64 [e])=_;rw [cW_append]
 ·have h:r.length=(dg B9 a).length:=by simp only [decide_eq_false_iff_not] at h;omega
  obtain ⟨f1,f2⟩:=hI.done b9 hd0 h;simp only at f1 f2;conv=>whnf
  refine Br.mk (fun h2=>?_) (fun h2=>?_)
  ·have h2:0 < c:=by simp only [decide_eq_true_eq] at h2;omega
   rw [←f1 h2];conv=>whnf
   refine Sub.full rfl ?_;conv=>whnf
   refine Sub.full (by rw [cW_len]) ?_;conv=>whnf
   refine ⟨by show (r.length+1)*8≤_;omega,?_⟩;conv=>whnf
   refine ⟨⟨rfl,rfl,rfl,rfl,by rw [List.length_append];rfl,rfl⟩,[],?_,trivial,rfl⟩;rw [←cW_append];rfl
  ·have h2:c=0:=by simp only [decide_eq_false_iff_not] at h2;omega
   rw [←f2 h2];conv=>whnf
   exact ⟨⟨rfl,rfl,rfl,rfl,rfl,rfl⟩,[],rfl,trivial,rfl⟩
def SShortI (a:List Nat) (b:Nat) (s:Nat×List Nat×Nat):Prop:=s.1+s.2.1.length=a.length∧(∀x,x∈s.2.1→x < B9)∧s.2.2 < b∧vl B9 (a.drop s.1)=b*vl B9 s.2.1+s.2.2
theorem fn_sShortDivL (a:List Nat) (b:Nat) (ha:∀x,x∈a→x < B9) (hn:a.length≤1000000000000) (hb0:0 < b) (hb:b≤1000000000) :
  Fn Tryz.prog 104 [.d (.sl (cW .i64 a)),I b] [] (.tup [nS (vl B9 a / b),I (vl B9 a % b:Nat)]) []:=by
 have hA:((cW .i64 a).length:Int)=a.length:=by rw [cW_len]
 refine Fn.intro (ks:=[0,1,4,5,6,7,8,9,17]) hty rfl rfl rfl rfl rfl ?_;conv=>whnf
 refine ⟨⟨by omega,by omega,by show ((cW .i64 a).length:Int)*((8:Nat):Int)≤_;omega,by omega⟩,?_⟩;conv=>whnf
 refine Wr.i64 (y:=(a.length:Int) - 1) (by omega) (by omega) (by omega) ?_;conv=>whnf
 refine VLoop.inv hty (S:=Nat×List Nat×Nat) (fun s=>[(8,I ((s.1:Int) - 1)),(7,I s.2.2),(6,.ls 12 0 a.length 1),(1,I b),(0,.d (.sl (cW .i64 a)))])
  (fun s=>[(12,.row true 1 (cW .i64 (List.replicate s.1 0++s.2.1)))]) (SShortI a b) (fun s=>s.1) (a.length,[],0) ⟨by simp,by simp,hb0,by simp [vl]⟩
  ⟨rfl,rfl,by show AV.ls 12 0 ((cW .i64 a).length:Int).toNat 1=_;rw [cW_len];rfl,rfl,rfl,trivial⟩
  ⟨by show Ob.row true 1 (List.replicate ((cW .i64 a).length:Int).toNat [.s (.int .i64 0)])=_;rw [cW_len,show ((a.length:Nat):Int).toNat=a.length from rfl,cW_rep,List.append_nil],trivial⟩ ?_
 intro s hI;obtain ⟨hk,hd,hr,hv⟩:=hI;obtain ⟨i,ei⟩:∃x,s.1=x:=⟨_,rfl⟩;obtain ⟨Q,eQ⟩:∃x,s.2.1=x:=⟨_,rfl⟩;obtain ⟨r,er⟩:∃x,s.2.2=x:=⟨_,rfl⟩;rw [ei,eQ] at hk;rw [eQ] at hd;rw [er] at hr;rw [ei,eQ,er] at hv;rw [ei,eQ,er];conv=>whnf
 refine Br.mk (fun h2=>?_) (fun h2=>?_)
 ·obtain ⟨j,rfl⟩:∃j,i=j+1:=⟨i - 1,by simp only [decide_eq_true_eq] at h2;omega⟩;have hj:j < a.length:=by omega
  have ej:((j+1:Nat):Int) - 1=(j:Nat):=by omega
  obtain ⟨x,ex⟩:∃x,a.getD j 0=x:=⟨_,rfl⟩;have hx:x < 1000000000:=by rw [←ex];exact getD_lt (B:=B9) ha (by decide) _
  have ex2:a[j]=x:=by rw [←getD_get hj];exact ex
  obtain ⟨g1,g2,g3⟩:=short_step (B:=B9) (i:=j) (q:=vl B9 Q) hj hb0 hr hv (by rw [ex2];exact hx);rw [ex2] at g1 g2 g3;have hr9:r*1000000000≤999999999*1000000000:=Nat.mul_le_mul_right _ (by omega);obtain ⟨y,ey⟩:∃z,r*1000000000=z:=⟨_,rfl⟩;rw [show r*B9=y from ey] at g1 g2 g3;rw [ey] at hr9;obtain ⟨n,en⟩:∃z,y+x=z:=⟨_,rfl⟩;rw [en] at g1 g2 g3;obtain ⟨e,ed⟩:∃d,n % b=d:=⟨_,rfl⟩;obtain ⟨q,eq⟩:∃d,n / b=d:=⟨_,rfl⟩;rw [ed,eq] at g1;rw [eq] at g2;rw [ed] at g3;have hq:q < 1000000000:=g2;have ed':Int.tmod (n:Int) (b:Int)=(e:Int):=by rw [←ed];exact (Int.ofNat_tmod n b).symm
  have eq':Int.tdiv (n:Int) (b:Int)=(q:Int):=by rw [←eq];exact (Int.ofNat_tdiv n b).symm
  rw [ej];conv=>whnf
  refine Wr.i64 (y:=(y:Int)) (by rw [←ey];exact (Int.natCast_mul _ _).symm) (by omega) (by omega) ?_;conv=>whnf
  refine ⟨⟨⟨by omega,by omega⟩,cW_sz _ _⟩,?_⟩;conv=>whnf
  refine ⟨_,cW_as (i:=j) hj ex,?_⟩;conv=>whnf
  refine Wr.i64 (y:=(n:Int)) (by omega) (by omega) (by omega) ?_;conv=>whnf
  refine ⟨by omega,?_⟩;conv=>whnf
  refine Wr.i64 (y:=(q:Int)) eq' (by omega) (by omega) ?_;conv=>whnf
  refine ⟨by omega,?_⟩;conv=>whnf
  refine ⟨_,cW_at (i:=j) (by rw [List.length_append,List.length_replicate];omega),?_⟩;conv=>whnf
  refine ⟨by omega,?_⟩;rw [ed'];conv=>whnf
  refine Wr.i64 (y:=(j:Int) - 1) rfl (by omega) (by omega) ?_;conv=>whnf
  refine ⟨(j,q :: Q,e),⟨by show j+(q :: Q).length=_;rw [List.length_cons];omega,fun z hz=>?_,g3,g1⟩,by show j < j+1;omega,⟨rfl,rfl,rfl,rfl,rfl,trivial⟩,?_,trivial⟩
  ·rcases List.mem_cons.1 hz with rfl | hz
   ·exact g2
   ·exact hd z hz
  ·show Ob.row true 1 ((cW .i64 _).set j [.s (.int .i64 (q:Int))])=_;rw [row_downK]
 ·have hi0:i=0:=by simp only [decide_eq_false_iff_not] at h2;omega
  subst hi0;rw [List.drop_zero] at hv;obtain ⟨e1,e2⟩:=div_unique (a:=vl B9 a) (b:=b) (q:=vl B9 Q) (r:=r) (by omega) hr;have hcall:=fn_sTrim Q hd (by omega);rw [←e1] at hcall;conv=>whnf
  refine VCall.frz 12 hcall rfl ⟨⟨rfl,rfl,?_,?_⟩,trivial⟩ (nd _) ?_
  ·rw [List.replicate_zero,List.nil_append,cW_len];omega
  ·rw [List.replicate_zero,List.nil_append,List.drop_zero,List.take_of_length_le (by rw [cW_len];omega)]
  conv=>whnf
  refine ⟨rfl,?_,trivial,rfl⟩;rw [e2]
theorem fn_sShortDiv (a b:Nat) (ha:bl a≤1000000000000) (hb0:0 < b) (hb:b≤1000000000):Fn Tryz.prog 104 [nS a,I b] [] (.tup [nS (a / b),I (a % b:Nat)]) []:=by
 have:=fn_sShortDivL (dg B9 a) b (fun x h=>dg_lt b9 h) (Nat.le_trans (dg_len b9 a) ha) hb0 hb
 rwa [vl_dg b9] at this
end Go.V
namespace Go.V
open Go.Proofs
set_option maxRecDepth 10000
set_option maxHeartbeats 2000000
theorem fn_sTakeOff (R v:List Nat) (j n g:Nat) (hR:∀x,x∈R→x < B9) (hv:∀x,x∈v→x < B9) (hn:R.length≤10000000000000) (hvl:v.length=n) (hlo:j+n < R.length) (hg:g < B9)
  (hgV:g*vl B9 v≤vl B9 ((R.drop j).take (n+1))+vl B9 v) :
  Fn Tryz.prog 106 [.ls 1000000 0 R.length 1,.d (.sl (cW .i64 v)),I j,I g] [(1000000,.row true 1 (cW .i64 R))] (B (decide (vl B9 ((R.drop j).take (n+1)) < g*vl B9 v)))
   [(1000000,.row true 1 (if vl B9 ((R.drop j).take (n+1)) < g*vl B9 v then (cW .i64 (win R j (pad B9 n (B9 ^ n+vl B9 ((R.drop j).take (n+1)) - g*vl B9 v)))).set (j+n) [.s (.int .i64 (-1))]
    else cW .i64 (win R j (pad B9 (n+1) (vl B9 ((R.drop j).take (n+1)) - g*vl B9 v)))))]:=by
 have hB:((cW .i64 v).length:Int)=n:=by rw [cW_len,hvl]
 have hW:((R.drop j).take (n+1)).length=n+1:=by rw [List.length_take,List.length_drop];omega
 have hWl:∀x,x∈(R.drop j).take (n+1)→x < B9:=fun x hx=>hR x (List.mem_of_mem_drop (List.mem_of_mem_take hx));have hg9:g < 1000000000:=hg;refine Fn.intro (ks:=[0,1,2,3,8,9,10,11,12,13,14,15,16,38,44]) hty rfl rfl rfl rfl rfl ?_;conv=>whnf
 refine VLoop.inv hty (S:=List Nat×Nat) (fun s=>[(15,I s.1.length),(14,I n),(13,.d (.sl (cW .i64 v))),(9,I s.2),(3,I g),(2,I j),(1,.d (.sl (cW .i64 v))),(0,.ls 1000000 0 R.length 1)])
  (fun s=>[(1000000,.row true 1 (cW .i64 (win R j s.1)))]) (OffI B9 ((R.drop j).take (n+1)) v g) (fun s=>n - s.1.length) ([],0) (OffI.init b9 _ _ _)
  ⟨rfl,by show AV.d (.s (.int .i64 ((cW .i64 v).length:Int)))=_;rw [hB],rfl,rfl,rfl,rfl,rfl,rfl,trivial⟩ ⟨by rw [win_nil];rfl,trivial⟩ ?_
 intro s hI;obtain ⟨r,er⟩:∃x,s.1=x:=⟨_,rfl⟩;obtain ⟨c,ec⟩:∃x,s.2=x:=⟨_,rfl⟩;have hI:OffI B9 ((R.drop j).take (n+1)) v g (r,c):=by rw [←er,←ec];exact hI
 have hrl:r.length≤v.length:=hI.1;have hcB:c < 1000000000:=hI.2.2.1;rw [er,ec];obtain ⟨i,ei⟩:∃x,r.length=x:=⟨_,rfl⟩;have hwl:(win R j r).length=R.length:=win_len (by omega);rw [ei];conv=>whnf
 refine Br.mk (fun h=>?_) (fun h=>?_)
 ·have hi:i < n:=by simp only [decide_eq_true_eq] at h;omega
  obtain ⟨x,ex⟩:∃x,v.getD i 0=x:=⟨_,rfl⟩;obtain ⟨u,eu⟩:∃x,R.getD (j+i) 0=x:=⟨_,rfl⟩;have hx:x < 1000000000:=by rw [←ex];exact getD_lt (B:=B9) hv (by decide) _
  have hu:u < 1000000000:=by rw [←eu];exact getD_lt (B:=B9) hR (by decide) _
  have eW:((R.drop j).take (n+1)).getD i 0=u:=by rw [part_getD (by omega)];exact eu
  have ewin:(win R j r).getD (j+i) 0=u:=by have:=win_getD (R:=R) (lo:=j) (r:=r) (by omega);rw [ei] at this;rw [this];exact eu
  have hxg:x*g≤999999999*999999999:=Nat.mul_le_mul (by omega) (by omega);obtain ⟨xg,exg⟩:∃z,x*g=z:=⟨_,rfl⟩;rw [exg] at hxg;obtain ⟨m,em⟩:∃d,xg % B9=d:=⟨_,rfl⟩;obtain ⟨q0,eq0⟩:∃d,xg / B9=d:=⟨_,rfl⟩;have hm:m < 1000000000:=by rw [←em];exact Nat.mod_lt _ (by decide)
  have hq0:q0 < 1000000000:=by rw [←eq0];show xg / 1000000000 < _;omega
  have em':Int.tmod (xg:Int) 1000000000=(m:Int):=by rw [←em];exact (Int.ofNat_tmod xg 1000000000).symm
  have eq':Int.tdiv (xg:Int) 1000000000=(q0:Int):=by rw [←eq0];exact (Int.ofNat_tdiv xg 1000000000).symm
  have hstl:=fun {d l:Nat} (hi':r.length < v.length)=>hI.step (d:=d) (l:=l) b9 hv hg hi';simp only at hstl;conv=>whnf
  refine ⟨⟨⟨by omega,by omega⟩,cW_sz _ _⟩,?_⟩;conv=>whnf
  refine ⟨_,cW_as (i:=i) (by omega) ex,?_⟩;conv=>whnf
  refine Wr.i64 (y:=((j+i:Nat):Int)) rfl (by omega) (by omega) ?_;conv=>whnf
  refine ⟨by omega,?_⟩;conv=>whnf
  refine ⟨_,cW_as (i:=j+i) (by omega) ewin,?_⟩;conv=>whnf
  refine Wr.i64 (y:=(xg:Int)) (by rw [←exg];exact (Int.natCast_mul _ _).symm) (by omega) (by omega) ?_;conv=>whnf
  refine ⟨by decide,?_⟩;rw [em'];conv=>whnf
  refine Wr.i64 (y:=(u:Int) - m) rfl (by omega) (by omega) ?_;conv=>whnf
  refine Wr.i64 (y:=(u:Int) - m - c) rfl (by omega) (by omega) ?_;conv=>whnf
  refine Wr.i64 (y:=(xg:Int)) (by rw [←exg];exact (Int.natCast_mul _ _).symm) (by omega) (by omega) ?_;conv=>whnf
  refine ⟨by decide,?_⟩;conv=>whnf
  refine Wr.i64 (y:=(q0:Int)) eq' (by omega) (by omega) ?_;conv=>whnf
  refine Br.mk (fun h2=>?_) (fun h2=>?_)
  ·have h2:(u:Int) - m - c < 0:=by simpa only [decide_eq_true_eq] using h2
   conv=>whnf
   refine Wr.i64 (y:=(u:Int) - m - c+1000000000) rfl (by omega) (by omega) ?_;conv=>whnf
   refine Wr.i64 (y:=((q0+1:Nat):Int)) rfl (by omega) (by omega) ?_;conv=>whnf
   refine Br.mk (fun h3=>?_) (fun h3=>?_)
   ·have h3:(u:Int) - m - c+1000000000 < 0:=by simpa only [decide_eq_true_eq] using h3
    obtain ⟨d,ed⟩:∃d:Nat,(u:Int) - m - c+1000000000+1000000000=d:=⟨((u:Int) - m - c+1000000000+1000000000).toNat,by omega⟩;conv=>whnf
    refine Wr.i64 (y:=(d:Int)) ed (by omega) (by omega) ?_;conv=>whnf
    refine Wr.i64 (y:=((q0+2:Nat):Int)) rfl (by omega) (by omega) ?_;have hdB:d < B9:=by show d < 1000000000;omega
    have hst:=hI.step (d:=d) (l:=2) b9 hv hg (by show r.length < v.length;omega) hdB (by
     show d+v.getD r.length 0*g % B9+c=((R.drop j).take (n+1)).getD r.length 0+1000000000*2;rw [ei,ex,eW,exg,em];omega)
    simp only at hst;rw [ei,ex,exg,eq0] at hst;conv=>whnf
    refine Wr.i64 (y:=((j+i:Nat):Int)) rfl (by omega) (by omega) ?_;conv=>whnf
    refine ⟨by omega,?_⟩;conv=>whnf
    refine ⟨_,cW_at (i:=j+i) (by omega),?_⟩;conv=>whnf
    refine Wr.i64 (y:=((i+1:Nat):Int)) rfl (by omega) (by omega) ?_;conv=>whnf
    refine ⟨(r++[d],q0+2),hst,by show n - (r++[d]).length < n - i;rw [List.length_append,List.length_singleton];omega,⟨?_,rfl,rfl,rfl,rfl,rfl,rfl,rfl,trivial⟩,?_,trivial⟩
    ·show AV.d (.s (.int .i64 ((i+1:Nat):Int)))=I ((r++[d]).length:Nat);rw [List.length_append,List.length_singleton,ei]
    ·show Ob.row true 1 ((cW .i64 _).set (j+i) [.s (.int .i64 (d:Int))])=_;have:=win_setK (k:=.i64) (R:=R) (lo:=j) (d:=d) (r:=r) (by omega);rw [ei] at this;rw [this]
   ·have h3:¬(u:Int) - m - c+1000000000 < 0:=by simpa only [decide_eq_false_iff_not] using h3
    obtain ⟨d,ed⟩:∃d:Nat,(u:Int) - m - c+1000000000=d:=⟨((u:Int) - m - c+1000000000).toNat,by omega⟩;rw [ed];have hdB:d < B9:=by show d < 1000000000;omega
    have hst:=hI.step (d:=d) (l:=1) b9 hv hg (by show r.length < v.length;omega) hdB (by
     show d+v.getD r.length 0*g % B9+c=((R.drop j).take (n+1)).getD r.length 0+1000000000*1;rw [ei,ex,eW,exg,em];omega)
    simp only at hst;rw [ei,ex,exg,eq0] at hst;conv=>whnf
    refine Wr.i64 (y:=((j+i:Nat):Int)) rfl (by omega) (by omega) ?_;conv=>whnf
    refine ⟨by omega,?_⟩;conv=>whnf
    refine ⟨_,cW_at (i:=j+i) (by omega),?_⟩;conv=>whnf
    refine Wr.i64 (y:=((i+1:Nat):Int)) rfl (by omega) (by omega) ?_;conv=>whnf
    refine ⟨(r++[d],q0+1),hst,by show n - (r++[d]).length < n - i;rw [List.length_append,List.length_singleton];omega,⟨?_,rfl,rfl,rfl,rfl,rfl,rfl,rfl,trivial⟩,?_,trivial⟩
    ·show AV.d (.s (.int .i64 ((i+1:Nat):Int)))=I ((r++[d]).length:Nat);rw [List.length_append,List.length_singleton,ei]
    ·show Ob.row true 1 ((cW .i64 _).set (j+i) [.s (.int .i64 (d:Int))])=_;have:=win_setK (k:=.i64) (R:=R) (lo:=j) (d:=d) (r:=r) (by omega);rw [ei] at this;rw [this]
  ·have h2:¬(u:Int) - m - c < 0:=by simpa only [decide_eq_false_iff_not] using h2
   obtain ⟨d,ed⟩:∃d:Nat,(u:Int) - m - c=d:=⟨((u:Int) - m - c).toNat,by omega⟩;rw [ed];have hdB:d < B9:=by show d < 1000000000;omega
   have hst:=hI.step (d:=d) (l:=0) b9 hv hg (by show r.length < v.length;omega) hdB (by
    show d+v.getD r.length 0*g % B9+c=((R.drop j).take (n+1)).getD r.length 0+1000000000*0;rw [ei,ex,eW,exg,em];omega)
   simp only at hst;rw [ei,ex,exg,eq0] at hst;conv=>whnf
   refine Wr.i64 (y:=((j+i:Nat):Int)) rfl (by omega) (by omega) ?_;conv=>whnf
   refine ⟨by omega,?_⟩;conv=>whnf
   refine ⟨_,cW_at (i:=j+i) (by omega),?_⟩;conv=>whnf
   refine Wr.i64 (y:=((i+1:Nat):Int)) rfl (by omega) (by omega) ?_;conv=>whnf
   refine ⟨(r++[d],q0+0),hst,by show n - (r++[d]).length < n - i;rw [List.length_append,List.length_singleton];omega,⟨?_,rfl,rfl,rfl,rfl,rfl,rfl,rfl,trivial⟩,?_,trivial⟩
   ·show AV.d (.s (.int .i64 ((i+1:Nat):Int)))=I ((r++[d]).length:Nat);rw [List.length_append,List.length_singleton,ei]
   ·show Ob.row true 1 ((cW .i64 _).set (j+i) [.s (.int .i64 (d:Int))])=_;have:=win_setK (k:=.i64) (R:=R) (lo:=j) (d:=d) (r:=r) (by omega);rw [ei] at this;rw [this]
 ·have hi:i=n:=by simp only [decide_eq_false_iff_not] at h;omega
  subst hi;obtain ⟨d1,d2⟩:=hI.done hv ei hvl hW hgV;simp only at d1 d2;obtain ⟨U,eU⟩:∃x,vl B9 ((R.drop j).take (i+1))=x:=⟨_,rfl⟩;obtain ⟨V,eV⟩:∃x,vl B9 v=x:=⟨_,rfl⟩;obtain ⟨gV,egV⟩:∃x,g*V=x:=⟨_,rfl⟩;obtain ⟨top,etop⟩:∃x,R.getD (j+i) 0=x:=⟨_,rfl⟩;have htop:top < 1000000000:=by rw [←etop];exact getD_lt (B:=B9) hR (by decide) _
  have eW:((R.drop j).take (i+1)).getD i 0=top:=by rw [part_getD (by omega)];exact etop
  have ewin:(win R j r).getD (j+i) 0=top:=by have:=win_getD (R:=R) (lo:=j) (r:=r) (by omega);rw [ei] at this;rw [this];exact etop
  rw [eU,eV,egV,eW] at d1 d2;rw [eU,eV,egV] at hgV;rw [eU,eV,egV];have hset:∀z:Int,∀q q':List C,((cW .i64 (win R j r)).set (j+i) q).set (j+i) q'=(cW .i64 (win R j r)).set (j+i) q':=fun _ q q'=>by rw [List.set_set]
  conv=>whnf
  refine Wr.i64 (y:=((j+i:Nat):Int)) (by omega) (by omega) (by omega) ?_;conv=>whnf
  refine ⟨by omega,?_⟩;conv=>whnf
  refine ⟨_,cW_as (i:=j+i) (by omega) ewin,?_⟩;conv=>whnf
  refine Wr.i64 (y:=(top:Int) - c) rfl (by omega) (by omega) ?_;conv=>whnf
  refine ⟨by omega,?_⟩;conv=>whnf
  refine ⟨_,cW_at (i:=j+i) (by omega),?_⟩;conv=>whnf
  refine Wr.i64 (y:=((j+i:Nat):Int)) (by omega) (by omega) (by omega) ?_;conv=>whnf
  refine ⟨by omega,?_⟩;conv=>whnf
  refine ⟨[.s (.int .i64 ((top:Int) - c))],List.getElem?_set_self (by rw [cW_len,hwl];omega),?_⟩;conv=>whnf
  rcases Nat.lt_or_ge top c with hlt | hge
  ·obtain ⟨f1,f2,f3,f4⟩:=d2 hlt;refine ⟨by rw [decide_eq_true f1,decide_eq_true (by omega:(top:Int) - c < 0)],⟨?_,trivial⟩,rfl⟩;rw [if_pos f1];have hr:=pad_of b9 hI.2.1;rw [show vl B9 r=B9 ^ i+U - gV by omega,ei] at hr;rw [←hr,show (top:Int) - c = -1 by omega]
   rfl
  ·obtain ⟨f1,f2⟩:=d1 hge;have hlt:¬U < gV:=by omega
   refine ⟨by rw [decide_eq_false hlt,decide_eq_false (by omega:¬(top:Int) - c < 0)],⟨?_,trivial⟩,rfl⟩;rw [if_neg hlt];have hr:=pad_of b9 (snoc_lt hI.2.1 (by show top - c < 1000000000;omega):∀x,x∈r++[top - c]→x < B9);rw [f2,List.length_append,ei] at hr;rw [show pad B9 (i+1) (U - gV)=r++[top - c] from hr.symm,show (top:Int) - c=((top - c:Nat):Int) by omega];have:=win_setK (k:=.i64) (R:=R) (lo:=j) (d:=top - c) (r:=r) (by omega);rw [ei] at this;show Ob.row true 1 ((cW .i64 (win R j r)).set (j+i) [.s (.int .i64 ((top - c:Nat):Int))])=_;rw [this]
def SBakI (w v:List Nat) (s:List Nat×Nat):Prop:=s.1.length≤v.length∧(∀x,x∈s.1→x < B9)∧s.2≤1∧vl B9 s.1+B9 ^ s.1.length*s.2=vl B9 (w.take s.1.length)+vl B9 (v.take s.1.length)
theorem set_at' {rows:List (List C)} {i j:Nat} {r x:List C} (h:i≠j) (hr:rows[j]? = some x):(rows.set i r)[j]? = some x:=by
 rw [List.getElem?_set_ne h];exact hr
theorem fn_sPutBack (R v:List Nat) (j n Y:Nat) (hR:∀x,x∈R→x < B9) (hv:∀x,x∈v→x < B9) (hn:R.length≤10000000000000) (hvl:v.length=n) (hlo:j+n < R.length)
  (hY:vl B9 ((R.drop j).take n)+vl B9 v=B9 ^ n+Y) (hYn:Y < B9 ^ n) :
  Fn Tryz.prog 107 [.ls 1000000 0 R.length 1,.d (.sl (cW .i64 v)),I j] [(1000000,.row true 1 ((cW .i64 R).set (j+n) [.s (.int .i64 (-1))]))] (.tup [])
   [(1000000,.row true 1 (cW .i64 (win R j (pad B9 (n+1) Y))))]:=by
 have hB:((cW .i64 v).length:Int)=n:=by rw [cW_len,hvl]
 have hW:((R.drop j).take n).length=n:=by rw [List.length_take,List.length_drop];omega
 refine Fn.intro (ks:=[0,1,2,6,7,8,9,10,11,12,13]) hty rfl rfl rfl rfl rfl ?_;conv=>whnf
 refine VLoop.inv hty (S:=List Nat×Nat) (fun s=>[(12,I s.1.length),(11,I n),(10,.d (.sl (cW .i64 v))),(6,I s.2),(2,I j),(1,.d (.sl (cW .i64 v))),(0,.ls 1000000 0 R.length 1)])
  (fun s=>[(1000000,.row true 1 ((cW .i64 (win R j s.1)).set (j+n) [.s (.int .i64 (-1))]))]) (SBakI ((R.drop j).take n) v) (fun s=>n - s.1.length) ([],0) ⟨Nat.zero_le _,by simp,Nat.zero_le _,by simp [vl]⟩
  ⟨rfl,by show AV.d (.s (.int .i64 ((cW .i64 v).length:Int)))=_;rw [hB],rfl,rfl,rfl,rfl,rfl,trivial⟩ ⟨by rw [win_nil];rfl,trivial⟩ ?_
 rintro s ⟨hk,hd,hc,hv2⟩;obtain ⟨r,er⟩:∃x,s.1=x:=⟨_,rfl⟩;obtain ⟨c,ec⟩:∃x,s.2=x:=⟨_,rfl⟩;rw [er] at hk hd hv2;rw [ec] at hc hv2;rw [er,ec];obtain ⟨i,ei⟩:∃x,r.length=x:=⟨_,rfl⟩;have hwl:(win R j r).length=R.length:=win_len (by omega);rw [ei];conv=>whnf
 refine Br.mk (fun h=>?_) (fun h=>?_)
 ·have hi:i < n:=by simp only [decide_eq_true_eq] at h;omega
  obtain ⟨x,ex⟩:∃x,v.getD i 0=x:=⟨_,rfl⟩;obtain ⟨u,eu⟩:∃x,R.getD (j+i) 0=x:=⟨_,rfl⟩;have hx:x < 1000000000:=by rw [←ex];exact getD_lt (B:=B9) hv (by decide) _
  have hu:u < 1000000000:=by rw [←eu];exact getD_lt (B:=B9) hR (by decide) _
  have eW:((R.drop j).take n).getD i 0=u:=by rw [part_getD hi];exact eu
  have ewin:(win R j r).getD (j+i) 0=u:=by have:=win_getD (R:=R) (lo:=j) (r:=r) (by omega);rw [ei] at this;rw [this];exact eu
  have hst:=add_step (B:=B9) hv2;rw [ei,eW,ex] at hst;obtain ⟨m,em⟩:∃z,c+u+x=z:=⟨_,rfl⟩;rw [em] at hst;obtain ⟨d,ed⟩:∃d,m % B9=d:=⟨_,rfl⟩;obtain ⟨q,eq⟩:∃d,m / B9=d:=⟨_,rfl⟩;rw [ed,eq] at hst;have hdB:d < B9:=by rw [←ed];exact Nat.mod_lt _ (by decide)
  have hq:q≤1:=by rw [←eq];show m / 1000000000≤1;omega
  have ed':Int.tmod (m:Int) 1000000000=(d:Int):=by rw [←ed];exact (Int.ofNat_tmod m 1000000000).symm
  have eq':Int.tdiv (m:Int) 1000000000=(q:Int):=by rw [←eq];exact (Int.ofNat_tdiv m 1000000000).symm
  conv=>whnf
  refine ⟨⟨⟨by omega,by omega⟩,cW_sz _ _⟩,?_⟩;conv=>whnf
  refine ⟨_,cW_as (i:=i) (by omega) ex,?_⟩;conv=>whnf
  refine Wr.i64 (y:=((j+i:Nat):Int)) rfl (by omega) (by omega) ?_;conv=>whnf
  refine ⟨by omega,?_⟩;conv=>whnf
  refine ⟨_,set_at' (i:=j+n) (j:=j+i) (by omega) (cW_as (i:=j+i) (by omega) ewin),?_⟩;conv=>whnf
  refine Wr.i64 (y:=((u+x:Nat):Int)) rfl (by omega) (by omega) ?_;conv=>whnf
  refine Wr.i64 (y:=(m:Int)) (by omega) (by omega) (by omega) ?_;conv=>whnf
  refine ⟨by decide,?_⟩;conv=>whnf
  refine Wr.i64 (y:=(q:Int)) eq' (by omega) (by omega) ?_;conv=>whnf
  refine Wr.i64 (y:=((j+i:Nat):Int)) rfl (by omega) (by omega) ?_;conv=>whnf
  refine ⟨by decide,?_⟩;rw [ed'];conv=>whnf
  refine ⟨by omega,?_⟩;conv=>whnf
  refine ⟨_,set_at' (i:=j+n) (j:=j+i) (by omega) (cW_as (i:=j+i) (by omega) ewin),?_⟩;conv=>whnf
  refine Wr.i64 (y:=((i+1:Nat):Int)) rfl (by omega) (by omega) ?_;conv=>whnf
  refine ⟨(r++[d],q),⟨by show (r++[d]).length≤_;rw [List.length_append,List.length_singleton];omega,snoc_lt hd hdB,hq,by show _+B9 ^ (r++[d]).length*_=_;rw [List.length_append,List.length_singleton,ei];exact hst⟩,by show n - (r++[d]).length < n - i;rw [List.length_append,List.length_singleton];omega,⟨?_,rfl,rfl,rfl,rfl,rfl,rfl,trivial⟩,?_,trivial⟩
  ·show AV.d (.s (.int .i64 ((i+1:Nat):Int)))=I ((r++[d]).length:Nat);rw [List.length_append,List.length_singleton,ei]
  ·show Ob.row true 1 (((cW .i64 _).set (j+n) [.s (.int .i64 (-1))]).set (j+i) [.s (.int .i64 (d:Int))])=_;have:=win_setK (k:=.i64) (R:=R) (lo:=j) (d:=d) (r:=r) (by omega);rw [ei] at this;rw [List.set_comm _ _ (by omega),this]
 ·have hi:i=n:=by simp only [decide_eq_false_iff_not] at h;omega
  subst hi;rw [ei,List.take_take,Nat.min_self,List.take_of_length_le (l:=v) (by omega)] at hv2;have hrn:=vl_lt hd;rw [ei] at hrn;obtain ⟨hc1,hY2⟩:=bak_done hv2 hrn hY hYn;subst hc1;conv=>whnf
  refine Wr.i64 (y:=((j+i:Nat):Int)) (by omega) (by omega) (by omega) ?_;conv=>whnf
  refine ⟨by omega,?_⟩;conv=>whnf
  refine ⟨[.s (.int .i64 (-1))],List.getElem?_set_self (by rw [cW_len,hwl];omega),?_⟩;conv=>whnf
  refine Wr.i64 (y:=((0:Nat):Int)) (by omega) (by omega) (by omega) ?_;conv=>whnf
  refine ⟨by omega,?_⟩;conv=>whnf
  refine ⟨[.s (.int .i64 (-1))],List.getElem?_set_self (by rw [cW_len,hwl];omega),?_⟩;conv=>whnf
  refine ⟨⟨?_,trivial⟩,rfl⟩;have hr:=pad_of b9 (snoc_lt hd (by decide):∀x,x∈r++[0]→x < B9);rw [vl_snoc,Nat.mul_zero,Nat.add_zero,hY2,List.length_append,ei] at hr;rw [show pad B9 (i+1) Y=r++[0] from hr.symm];show Ob.row true 1 (((cW .i64 (win R j r)).set (j+i) [.s (.int .i64 (-1))]).set (j+i) [.s (.int .i64 ((0:Nat):Int))])=_;have:=win_setK (k:=.i64) (R:=R) (lo:=j) (d:=0) (r:=r) (by omega);rw [ei] at this;rw [List.set_set,this]
end Go.V
namespace Go.V
open Go.Proofs
set_option maxRecDepth 10000
set_option maxHeartbeats 4000000
theorem VCall.par1t {P:Program} {t:TL} {l:LL} {f:FuncId} {xs xs0:List AV} {sz sz':Nat} {rows rows':List (List C)} {dst:Option Nat} {K:AV→TL→LL→Prop} (a:Nat)
  (h:Fn P f xs0 [(1000000,.row true sz rows)] (.tup []) [(1000000,.row true sz' rows')]) (ha:argR (pmap [(1000000,a)]) xs xs0) (hl:lget a l = .row true sz rows)
  (hK:K (.tup []) t ((a,.row true sz' rows') :: l)):VCall P f xs dst t l K :=
 VCall.of_fnR (k:=0) (pmap [(1000000,a)]) h ha ⟨⟨hl,fun p h=>absurd rfl h⟩,trivial⟩ rfl (keepRows rfl rfl) (fun _ h=>by cases h) rfl hK
theorem win_win' {R:List Nat} {lo:Nat} {r r':List Nat} (h':r.length≤r'.length) (h:lo+r'.length≤R.length):win (win R lo r) lo r'=win R lo r':=by
 have e:(R.take lo).length=lo:=by rw [List.length_take];omega
 have e1:(win R lo r).take lo=R.take lo:=by
  simp only [win];rw [List.take_append,e,Nat.sub_self,List.take_zero,List.append_nil,List.take_of_length_le (by omega)]
 have e2:(win R lo r).drop (lo+r'.length)=R.drop (lo+r'.length):=by
  simp only [win];rw [List.drop_append,e,List.drop_of_length_le (by omega),List.nil_append,show lo+r'.length - lo=r'.length by omega,List.drop_append,List.drop_of_length_le (by omega),List.nil_append,List.drop_drop,show lo+r.length+(r'.length - r.length)=lo+r'.length by omega]
 show (win R lo r).take lo++(r'++(win R lo r).drop (lo+r'.length))=_;rw [e1,e2];rfl
theorem fn_sNatD (n:Nat) (hn:n≤9223372036854775807):Fn Tryz.prog 75 [I n] [] (nS n) []:=by
 have:=(fn_sNat n hn).freeze (by rw [cW_len];omega)
 rwa [List.drop_zero,List.take_of_length_le (by rw [cW_len];omega)] at this
theorem lt_of_len9 {n:Nat} (h:(dg B9 n).length≤2):n < 1000000000000000000:=by
 have h1:=lt_of_len b9 n;have h2:=Nat.pow_le_pow_right (by decide:0 < B9) h;have h3:B9 ^ 2=1000000000000000000:=by decide
 omega
theorem cpy_le {α:Type} {D R:List α} {n:Nat} (h:D.length≤n):R.take 0++(D.take (Nat.min D.length n)++R.drop (0+Nat.min D.length n))=R.take 0++(D++R.drop (0+D.length)):=by
 have e:Nat.min D.length n=D.length:=Nat.min_eq_left h
 rw [e,List.take_length]
theorem fn_sDivA (a b:Nat) (h0:b≠0) (ha:(dg B9 a).length≤2) (hb:(dg B9 b).length≤2):Fn Tryz.prog 89 [nS a,nS b] [] (.tup [nS (a / b),nS (a % b)]) []:=by
 have hA:=lt_of_len9 ha
 have hB:=lt_of_len9 hb
 have sa:bl a≤1000000000000000:=Nat.le_trans (bl_le (k:=60) (Nat.lt_trans hA (by decide))) (by decide)
 have sb:bl b≤1000000000000000:=Nat.le_trans (bl_le (k:=60) (Nat.lt_trans hB (by decide))) (by decide)
 have c1:=fn_sSmall a sa
 have c2:=fn_sSmall b sb
 rw [if_pos ha,decide_eq_true ha] at c1
 rw [if_pos hb,decide_eq_true hb] at c2
 have hq:=Nat.div_le_self a b
 have hr:=Nat.mod_lt a (Nat.pos_of_ne_zero h0)
 refine Fn.intro (ks:=[0,1,4,5,6,7,8,9,10,11,12,13,14,15,16,17,18,19,20,21,22,36,48,55,100,153,164,169]) hty rfl rfl rfl rfl rfl ?_
 conv=>whnf
 refine VCall.of_data c1 (ndT (fun k=>rfl)) ?_
 conv=>whnf
 refine VCall.of_data c2 (ndT (fun k=>rfl)) ?_
 have eq':Int.tdiv (a:Int) (b:Int)=((a / b:Nat):Int):=(Int.ofNat_tdiv a b).symm
 have er':Int.tmod (a:Int) (b:Int)=((a % b:Nat):Int):=(Int.ofNat_tmod a b).symm
 obtain ⟨q,eq⟩:∃x,a / b=x:=⟨_,rfl⟩
 obtain ⟨r,er⟩:∃x,a % b=x:=⟨_,rfl⟩
 rw [eq] at hq eq'
 rw [er] at hr er'
 rw [eq,er]
 conv=>whnf
 refine VDraw.go hmo hty 10 [] rfl ?_
 conv=>whnf
 refine ⟨by omega,?_⟩
 conv=>whnf
 refine Wr.i64 (y:=(q:Int)) eq' (by omega) (by omega) ?_
 conv=>whnf
 refine QCall.of_data (fn_sNatD q (by omega)) (nd _) ?_
 conv=>whnf
 refine ⟨by omega,?_⟩
 rw [er']
 conv=>whnf
 refine QCall.of_data (fn_sNatD r (by omega)) (nd _) ?_
 conv=>whnf
 exact ⟨rfl,rfl,trivial,rfl⟩
def Big2 (a b:Nat):Prop:=¬((dg B9 a).length≤2∧(dg B9 b).length≤2)
theorem fn_sDivB (a b:Nat) (ha:bl a≤100000000000) (hb:bl b≤100000000000) (hlt:a < b) (hbig:Big2 a b):Fn Tryz.prog 89 [nS a,nS b] [] (.tup [nS (a / b),nS (a % b)]) []:=by
 have c1:=fn_sSmall a (by omega);have c2:=fn_sSmall b (by omega);have cc:=fn_sCmp a b (by omega) (by omega);rw [cmpZ_lt hlt] at cc;rw [Nat.div_eq_of_lt hlt,Nat.mod_eq_of_lt hlt];have hla:((cW .i64 (dg B9 a)).length:Int)=(dg B9 a).length:=by rw [cW_len]
 have ga:=dg_len b9 a;refine Fn.intro (ks:=[0,1,4,5,6,7,8,9,10,11,12,13,14,15,16,17,18,19,20,21,22,36,48,55,100,153,164,169]) hty rfl rfl rfl rfl rfl ?_;by_cases h1:(dg B9 a).length≤2
 ·have h2:¬(dg B9 b).length≤2:=fun h=>hbig ⟨h1,h⟩;rw [decide_eq_true h1] at c1;rw [decide_eq_false h2] at c2;conv=>whnf
  refine VCall.of_data c1 (ndT (fun k=>rfl)) ?_;conv=>whnf
  refine VCall.of_data c2 (ndT (fun k=>rfl)) ?_;conv=>whnf
  refine VCall.of_data cc (nd _) ?_;conv=>whnf
  refine ⟨cW_sz _ _,?_⟩;conv=>whnf
  refine Sub.full rfl ?_;conv=>whnf
  refine ⟨by show (0+(cW .i64 (dg B9 a)).length)*8≤_;omega,?_⟩;conv=>whnf
  refine ⟨⟨rfl,Nat.zero_le _,rfl⟩,⟨rfl,?_,?_⟩,trivial,rfl⟩
  ·rw [List.nil_append];omega
  ·rw [List.nil_append,List.drop_zero,List.take_of_length_le (by omega)]
 ·rw [decide_eq_false h1] at c1;conv=>whnf
  refine VCall.of_data c1 (ndT (fun k=>rfl)) ?_;conv=>whnf
  refine VCall.of_data c2 (ndT (fun k=>rfl)) ?_;conv=>whnf
  refine VCall.of_data cc (nd _) ?_;conv=>whnf
  refine ⟨cW_sz _ _,?_⟩;conv=>whnf
  refine Sub.full rfl ?_;conv=>whnf
  refine ⟨by show (0+(cW .i64 (dg B9 a)).length)*8≤_;omega,?_⟩;conv=>whnf
  refine ⟨⟨rfl,Nat.zero_le _,rfl⟩,⟨rfl,?_,?_⟩,trivial,rfl⟩
  ·rw [List.nil_append];omega
  ·rw [List.nil_append,List.drop_zero,List.take_of_length_le (by omega)]
theorem fn_sDivC (a b:Nat) (ha:bl a≤100000000000) (hb0:b≠0) (hb:b < 1000000000) (hle:b≤a) (hbig:Big2 a b):Fn Tryz.prog 89 [nS a,nS b] [] (.tup [nS (a / b),nS (a % b)]) []:=by
 have hbb:=bl_mono hle;have c1:=fn_sSmall a (by omega);have c2:=fn_sSmall b (by omega);have cc:=fn_sCmp a b (by omega) (by omega);have hz:0≤cmpZ a b:=cmpZ_nonneg.2 hle;have hd:dg B9 b=[b]:=dg_small b9 hb hb0;have hlb:(dg B9 b).length=1:=by rw [hd];rfl
 have hlb':((cW .i64 (dg B9 b)).length:Int)=1:=by rw [cW_len,hlb];rfl
 have hm:a % b < b:=Nat.mod_lt _ (Nat.pos_of_ne_zero hb0);have cd:=fn_sShortDiv a b (by omega) (by omega) (by omega);have cn:=fn_sNatD (a % b) (by omega);have h1:¬(dg B9 a).length≤2:=fun h=>hbig ⟨h,by omega⟩;rw [decide_eq_false h1] at c1;refine Fn.intro (ks:=[0,1,4,5,6,7,8,9,10,11,12,13,14,15,16,17,18,19,20,21,22,36,48,55,100,153,164,169]) hty rfl rfl rfl rfl rfl ?_;conv=>whnf
 refine VCall.of_data c1 (ndT (fun k=>rfl)) ?_;conv=>whnf
 refine VCall.of_data c2 (ndT (fun k=>rfl)) ?_;conv=>whnf
 refine VCall.of_data cc (nd _) ?_;conv=>whnf
 refine Br.mk (fun h=>?_) (fun h=>?_)
 ·simp only [decide_eq_true_eq] at h;omega
 conv=>whnf
 refine Br.mk (fun h2=>?_) (fun h2=>?_)
 ·conv=>whnf
  refine ⟨⟨⟨by omega,by omega⟩,cW_sz _ _⟩,?_⟩;conv=>whnf
  refine ⟨[.s (.int .i64 (b:Nat))],by rw [hd];rfl,?_⟩;conv=>whnf
  refine VCall.of_data cd (ndT (fun k=>rfl)) ?_;conv=>whnf
  refine VCall.of_data cn (nd _) ?_;conv=>whnf
  exact ⟨rfl,rfl,trivial,rfl⟩
 ·simp only [decide_eq_false_iff_not] at h2;omega
theorem fn_sDivD (a b : Nat) (ha : bl a ≤ 100000000000) (hb : 2 ≤ (dg B9 b).length) (hle : b ≤ a) (hbig : Big2 a b) : Fn Tryz.prog 89 [nS a, nS b] [] (.tup [nS (a / b), nS (a % b)]) [] := by
  have hbb := bl_mono hle
  have c1 := fn_sSmall a (by omega)
  have c2 := fn_sSmall b (by omega)
  have cc := fn_sCmp a b (by omega) (by omega)
  have hz : 0 ≤ cmpZ a b := cmpZ_nonneg.2 hle
  obtain ⟨t, hget, ht0, htB, hlo, hhi⟩ := top_of b9 hb
  have htB : t < 1000000000 := htB
  have hlb := dg_len b9 b
  have hla := dg_len b9 a
  obtain ⟨k, hk⟩ : ∃ k, 1000000000 / (t + 1) = k := ⟨_, rfl⟩
  have hk0 : 0 < k := by rw [← hk]; exact Nat.div_pos (by omega) (by omega)
  have hkt : (t + 1) * k ≤ 1000000000 := by rw [← hk]; exact Nat.mul_div_le _ _
  have hkB : k < 1000000000 := by
    have : 2 * k ≤ (t + 1) * k := Nat.mul_le_mul_right _ (by omega)
    omega
  have hkZ : Int.tdiv (1000000000 : Int) ((t + 1 : Nat) : Int) = (k : Int) := by rw [← hk]; exact (Int.ofNat_tdiv 1000000000 (t + 1)).symm
  have hup := Up.of b9 hb hk0 ht0 hkt hlo hhi
  have c4 := fn_sShortMul a k (by omega) hk0 hkB
  have c5 := fn_sShortMul b k (by omega) hk0 hkB
  have hpa : a * k < B9 ^ ((dg B9 a).length + 1) := by
    have h1 := lt_of_len b9 a
    rw [Nat.pow_succ]
    exact Nat.lt_of_lt_of_le ((Nat.mul_lt_mul_right hk0).2 h1) (Nat.mul_le_mul_left _ (by show k ≤ 1000000000; omega))
  obtain ⟨u, hu⟩ : ∃ u, dg B9 (b * k) = u := ⟨_, rfl⟩
  rw [hu] at hup
  have c5 : Fn Tryz.prog 105 [nS b, I k] [] (.d (.sl (cW .i64 u))) [] := by rw [← hu]; exact c5
  have hlab : (dg B9 b).length ≤ (dg B9 a).length := dg_len_le b9 (Nat.lt_of_le_of_lt hle (lt_of_len b9 a))
  have hB := cW_len .i64 (dg B9 b)
  have hA := cW_len .i64 (dg B9 a)
  have hUc := cW_len .i64 u
  have hlB : (dg B9 b).length = (dg B9 b).length - 2 + 2 := by omega
  have h1 : ¬ (dg B9 a).length ≤ 2 := fun h => hbig ⟨h, by omega⟩
  rw [decide_eq_false h1] at c1
  have hget' : (cW .i64 (dg B9 b))[(dg B9 b).length - 1]? = some [.s (.int .i64 (t : Nat))] := by rw [cW, List.getElem?_map, hget]; rfl
  obtain ⟨n, hn⟩ : ∃ n, (dg B9 b).length - 2 = n := ⟨_, rfl⟩
  rw [hn] at hup hlB
  have hU := hup.len
  obtain ⟨V, eV⟩ : ∃ y, vl B9 u = y := ⟨_, rfl⟩
  obtain ⟨top, etop⟩ : ∃ y, u.getD (n + 1) 0 = y := ⟨_, rfl⟩
  obtain ⟨next, enext⟩ : ∃ y, u.getD n 0 = y := ⟨_, rfl⟩
  have hV0 : V = b * k := eV.symm.trans hup.eq
  have hVB : V < B9 ^ (n + 2) := by have := vl_lt hup.lt; rwa [hU, eV] at this
  have htopB : top < 1000000000 := by rw [← etop]; exact getD_lt (B := B9) hup.lt (by decide) _
  have hnextB : next < 1000000000 := by rw [← enext]; exact getD_lt (B := B9) hup.lt (by decide) _
  have hinit := DivI.init b9 hk0 hup hlB hpa (by omega)
  rw [eV] at hinit
  obtain ⟨A, eA⟩ : ∃ y, a * k = y := ⟨_, rfl⟩
  rw [eA] at hinit hpa c4
  obtain ⟨R0, eR0⟩ : ∃ y, pad B9 ((dg B9 a).length + 1) A = y := ⟨_, rfl⟩
  rw [eR0] at hinit
  have hcpy : (cW .i64 (List.replicate ((dg B9 a).length + 1) 0)).take 0 ++ (cW .i64 (dg B9 A) ++ (cW .i64 (List.replicate ((dg B9 a).length + 1) 0)).drop (0 + (cW .i64 (dg B9 A)).length)) = cW .i64 R0 := by
    rw [List.take_zero, List.nil_append, cW_len, Nat.zero_add, cW_drop, cW_append, ← eR0]
    show cW .i64 _ = cW .i64 (dg B9 A ++ List.replicate _ 0)
    rw [List.drop_replicate]
  have hdA : (dg B9 A).length ≤ (dg B9 a).length + 1 := dg_len_le b9 hpa
  have hdAc := cW_len .i64 (dg B9 A)
  have hdig := fun {s} => DivI.dig b9 (A := A) (N := (dg B9 a).length + 1) (s := s) hup
  rw [eV, etop, enext] at hdig
  refine Fn.intro (ks := [0,1,4,5,6,7,8,9,10,11,12,13,14,15,16,17,18,19,20,21,22,36,48,55,100,153,164,169]) hty rfl rfl rfl rfl rfl ?_
  conv => whnf
  refine VCall.of_data c1 (ndT (fun k => rfl)) ?_
  conv => whnf
  refine VCall.of_data c2 (ndT (fun k => rfl)) ?_
  conv => whnf
  refine VCall.of_data cc (nd _) ?_
  conv => whnf
  refine Br.mk (fun h => ?_) (fun h => ?_)
  · simp only [decide_eq_true_eq] at h; omega
  conv => whnf
  refine Br.mk (fun h2 => ?_) (fun h2 => ?_)
  · simp only [decide_eq_true_eq] at h2; omega
  conv => whnf
  refine Wr.i64 (y := (((dg B9 b).length - 1 : Nat) : Int)) (by omega) (by omega) (by omega) ?_
  conv => whnf
  refine ⟨⟨⟨by omega, by omega⟩, cW_sz _ _⟩, ?_⟩
  conv => whnf
  refine ⟨_, hget', ?_⟩
  conv => whnf
  refine Wr.i64 (y := ((t + 1 : Nat) : Int)) rfl (by omega) (by omega) ?_
  conv => whnf
  refine ⟨by omega, ?_⟩
  conv => whnf
  refine Wr.i64 (y := (k : Int)) hkZ (by omega) (by omega) ?_
  conv => whnf
  refine Wr.i64 (y := (((dg B9 a).length + 1 : Nat) : Int)) (by omega) (by omega) (by omega) ?_
  conv => whnf
  refine ⟨⟨by omega, by omega, by show (((dg B9 a).length + 1 : Nat) : Int) * ((8 : Nat) : Int) ≤ _; omega, by omega⟩, ?_⟩
  conv => whnf
  refine VCall.of_data c4 (nd _) ?_
  conv => whnf
  refine ⟨cW_sz _ _, ?_⟩
  conv => whnf
  refine ⟨by show 0 + _ ≤ _; rw [List.length_replicate]; omega, ?_⟩
  conv => whnf
  refine VCall.of_data c5 (nd _) ?_
  conv => whnf
  obtain ⟨la, hla'⟩ : ∃ y, (dg B9 a).length = y := ⟨_, rfl⟩
  rw [hla'] at hinit hdig hla hA hcpy hdA hlab
  rw [hla']
  obtain ⟨m, hm⟩ : ∃ y, la - (n + 1) = y := ⟨_, rfl⟩
  rw [hm] at hinit
  refine Wr.i64 (y := (m : Int)) (by show (((la + 1 : Nat) : Int).toNat : Int) - _ = _; omega) (by omega) (by omega) ?_
  conv => whnf
  refine ⟨⟨by omega, by omega, by show (m : Int) * ((8 : Nat) : Int) ≤ _; omega, by omega⟩, ?_⟩
  conv => whnf
  refine Wr.i64 (y := (m : Int)) (by show (((la + 1 : Nat) : Int).toNat : Int) - _ = _; omega) (by omega) (by omega) ?_
  conv => whnf
  refine Wr.i64 (y := (m : Int) - 1) rfl (by omega) (by omega) ?_
  conv => whnf
  have hUi : ((cW .i64 u).length : Int) = ((n + 2 : Nat) : Int) := by omega
  refine VLoop.inv hty (S := Nat × List Nat × List Nat) (fun s => [(17, I ((s.1 : Int) - 1)), (16, .ls 93 0 m 1), (15, I ((n + 2 : Nat) : Int)), (14, .d (.sl (cW .i64 u))), (13, .ls 78 0 (la + 1) 1), (12, I (k : Int))])
    (fun s => [(93, .row true 1 (cW .i64 (List.replicate s.1 0 ++ s.2.2))), (78, .row true 1 (cW .i64 s.2.1))]) (DivI B9 A V (la + 1) (n + 2)) (fun s => s.1)
    (m, R0, []) hinit
    ⟨rfl, rfl, by show AV.d (.s (.int .i64 ((cW .i64 u).length : Int))) = _; rw [hUi], rfl, rfl, rfl, trivial⟩
    ⟨by show Ob.row true 1 (List.replicate ((m : Int).toNat) [.s (.int .i64 0)]) = _; rw [show ((m : Int).toNat) = m from rfl, cW_rep, List.append_nil],
     by
      rw [← cW_rep] at hcpy
      exact congrArg (Ob.row true 1) ((cpy_le (by rw [cW_len]; show (dg B9 A).length ≤ la + 1; omega)).trans hcpy), trivial⟩ ?_
  intro s hI
  conv => whnf
  refine Br.mk (fun h3 => ?_) (fun h3 => ?_)
  · have hs0 : 0 < s.1 := by simp only [decide_eq_true_eq] at h3; omega
    have hD := hdig hI hs0
    obtain ⟨g1, g2, g3, g4, g5, g6⟩ := id hI
    obtain ⟨j, hj⟩ : ∃ j, s.1 = j + 1 := ⟨s.1 - 1, by omega⟩
    rw [hj, Nat.add_sub_cancel] at hD
    have ej : (s.1 : Int) - 1 = (j : Nat) := by omega
    obtain ⟨R, eR⟩ : ∃ R, s.2.1 = R := ⟨_, rfl⟩
    obtain ⟨Q, eQ⟩ : ∃ Q, s.2.2 = Q := ⟨_, rfl⟩
    have hI' : DivI B9 A V (la + 1) (n + 2) (j + 1, R, Q) := by rw [← hj, ← eR, ← eQ]; exact hI
    rw [eR] at hD g1 g2
    obtain ⟨r2, er2⟩ : ∃ y, R.getD (j + (n + 2)) 0 = y := ⟨_, rfl⟩
    obtain ⟨r1, er1⟩ : ∃ y, R.getD (j + (n + 1)) 0 = y := ⟨_, rfl⟩
    obtain ⟨r0, er0⟩ : ∃ y, R.getD (j + n) 0 = y := ⟨_, rfl⟩
    obtain ⟨x2, ex2⟩ : ∃ y, r2 * 1000000000 = y := ⟨_, rfl⟩
    obtain ⟨head, ehead⟩ : ∃ y, x2 + r1 = y := ⟨_, rfl⟩
    obtain ⟨U, eU⟩ : ∃ y, vl B9 ((R.drop j).take (n + 3)) = y := ⟨_, rfl⟩
    rw [er2, er1, er0, eU, show r2 * B9 = x2 from ex2, ehead] at hD
    have q1 : r2 < 1000000000 := by rw [← er2]; exact getD_lt (B := B9) g2 (by decide) _
    have q2 : r1 < 1000000000 := by rw [← er1]; exact getD_lt (B := B9) g2 (by decide) _
    have q3 : r0 < 1000000000 := by rw [← er0]; exact getD_lt (B := B9) g2 (by decide) _
    have hheadB : head < 1000000000000000000 := by omega
    have htop := hD.ht
    obtain ⟨g0, eg0⟩ : ∃ y, head / top = y := ⟨_, rfl⟩
    obtain ⟨l0, el0⟩ : ∃ y, head % top = y := ⟨_, rfl⟩
    have hGI0 := hD.init
    rw [eg0, el0] at hGI0
    have hg0 : g0 ≤ head := by rw [← eg0]; exact Nat.div_le_self _ _
    have hl0 : l0 < top := by rw [← el0]; exact Nat.mod_lt _ htop
    have eg0' : Int.tdiv (head : Int) (top : Int) = (g0 : Int) := by rw [← eg0]; exact (Int.ofNat_tdiv head top).symm
    have el0' : Int.tmod (head : Int) (top : Int) = (l0 : Int) := by rw [← el0]; exact (Int.ofNat_tmod head top).symm
    rw [ej, eR, eQ, hj]
    conv => whnf
    refine VDraw.go hmo hty 16 [] rfl ?_
    conv => whnf
    refine Wr.i64 (y := ((j + (n + 2) : Nat) : Int)) (by omega) (by omega) (by omega) ?_
    conv => whnf
    refine ⟨by omega, ?_⟩
    conv => whnf
    refine ⟨_, cW_as (i := j + (n + 2)) (by omega) er2, ?_⟩
    conv => whnf
    refine Wr.i64 (y := (x2 : Int)) (by rw [← ex2]; exact (Int.natCast_mul _ _).symm) (by omega) (by omega) ?_
    conv => whnf
    refine Wr.i64 (y := ((j + (n + 2) : Nat) : Int)) (by omega) (by omega) (by omega) ?_
    conv => whnf
    refine Wr.i64 (y := ((j + (n + 1) : Nat) : Int)) (by omega) (by omega) (by omega) ?_
    conv => whnf
    refine ⟨by omega, ?_⟩
    conv => whnf
    refine ⟨_, cW_as (i := j + (n + 1)) (by omega) er1, ?_⟩
    conv => whnf
    refine Wr.i64 (y := (head : Int)) (by omega) (by omega) (by omega) ?_
    conv => whnf
    refine VDraw.go hmo hty 16 [] rfl ?_
    conv => whnf
    refine Wr.i64 (y := ((n + 1 : Nat) : Int)) (by omega) (by omega) (by omega) ?_
    conv => whnf
    refine ⟨⟨⟨by omega, by omega⟩, cW_sz _ _⟩, ?_⟩
    conv => whnf
    refine ⟨_, cW_as (i := n + 1) (by omega) etop, ?_⟩
    conv => whnf
    refine ⟨by omega, ?_⟩
    conv => whnf
    refine Wr.i64 (y := (g0 : Int)) eg0' (by omega) (by omega) ?_
    conv => whnf
    refine Wr.i64 (y := ((n + 1 : Nat) : Int)) (by omega) (by omega) (by omega) ?_
    conv => whnf
    refine ⟨⟨⟨by omega, by omega⟩, cW_sz _ _⟩, ?_⟩
    conv => whnf
    refine ⟨_, cW_as (i := n + 1) (by omega) etop, ?_⟩
    conv => whnf
    refine ⟨by omega, ?_⟩
    rw [el0']
    conv => whnf
    refine VLoop.invX hty (S := Nat × Nat) (E := Nat) [] [] 2 (fun q => [(20, I (q.2 : Nat)), (19, I (q.1 : Nat)), (17, I (j : Nat)), (16, .ls 93 0 m 1), (15, I ((n + 2 : Nat) : Int)), (14, .d (.sl (cW .i64 u))), (13, .ls 78 0 (la + 1) 1), (12, I (k : Int))])
      (fun _ => [(93, .row true 1 (cW .i64 (List.replicate (j + 1) 0 ++ Q))), (78, .row true 1 (cW .i64 R))])
      (fun q => GI top head U V q ∧ q.2 < 1000000000) (fun q => q.1)
      (fun g => [(19, I (g : Nat)), (17, I (j : Nat)), (16, .ls 93 0 m 1), (15, I ((n + 2 : Nat) : Int)), (14, .d (.sl (cW .i64 u))), (13, .ls 78 0 (la + 1) 1), (12, I (k : Int))])
      (fun _ => [(93, .row true 1 (cW .i64 (List.replicate (j + 1) 0 ++ Q))), (78, .row true 1 (cW .i64 R))]) (fun g => Fine B9 U V g)
      (g0, l0) ⟨hGI0, by show l0 < _; omega⟩
      ⟨rfl, rfl, rfl, rfl, rfl, rfl, rfl, rfl, trivial⟩ ⟨rfl, rfl, trivial⟩ ?_ ?_
    · rintro q ⟨hG, hleft⟩
      obtain ⟨g, eg⟩ : ∃ y, q.1 = y := ⟨_, rfl⟩
      obtain ⟨lf, elf⟩ : ∃ y, q.2 = y := ⟨_, rfl⟩
      rw [eg, elf]
      rw [elf] at hleft
      have hG : GI top head U V (g, lf) := by rw [← eg, ← elf]; exact hG
      have hq1 : g ≤ head := by
        have h1 : g * top + lf = head := hG.1
        have h2 : g * 1 ≤ g * top := Nat.mul_le_mul_left _ htop
        omega
      obtain ⟨gn, egn⟩ : ∃ y, g * next = y := ⟨_, rfl⟩
      obtain ⟨lx, elx⟩ : ∃ y, lf * 1000000000 = y := ⟨_, rfl⟩
      obtain ⟨ly, ely⟩ : ∃ y, lx + r0 = y := ⟨_, rfl⟩
      have hlx : lf * B9 + r0 = ly := by rw [← ely, ← elx]
      conv => whnf
      refine VDraw.go hmo hty 22 [] rfl ?_
      conv => whnf
      refine Br.mk (fun h4 => ?_) (fun h4 => ?_)
      case' refine_1 =>
        have hc : B9 ≤ g ∨ lf * B9 + r0 < g * next := .inl (by simp only [decide_eq_true_eq] at h4; show 1000000000 ≤ g; omega)
      case' refine_2 =>
        have hgB : g < 1000000000 := by simp only [decide_eq_false_iff_not] at h4; omega
        have hpr : gn ≤ 999999999 * 999999999 := by rw [← egn]; exact Nat.mul_le_mul (by omega) (by omega)
        conv => whnf
        refine Wr.i64 (y := (n : Int)) (by omega) (by omega) (by omega) ?_
        conv => whnf
        refine ⟨⟨⟨by omega, by omega⟩, cW_sz _ _⟩, ?_⟩
        conv => whnf
        refine ⟨_, cW_as (i := n) (by omega) enext, ?_⟩
        conv => whnf
        refine Wr.i64 (y := (gn : Int)) (by rw [← egn]; exact (Int.natCast_mul _ _).symm) (by omega) (by omega) ?_
        conv => whnf
        refine Wr.i64 (y := (lx : Int)) (by rw [← elx]; exact (Int.natCast_mul _ _).symm) (by omega) (by omega) ?_
        conv => whnf
        refine Wr.i64 (y := ((j + (n + 2) : Nat) : Int)) (by omega) (by omega) (by omega) ?_
        conv => whnf
        refine Wr.i64 (y := ((j + n : Nat) : Int)) (by omega) (by omega) (by omega) ?_
        conv => whnf
        refine ⟨by omega, ?_⟩
        conv => whnf
        refine ⟨_, cW_as (i := j + n) (by omega) er0, ?_⟩
        conv => whnf
        refine Wr.i64 (y := (ly : Int)) (by omega) (by omega) (by omega) ?_
        conv => whnf
        refine Br.mk (fun h5 => ?_) (fun h5 => ?_)
        case' refine_1 =>
          have hc : B9 ≤ g ∨ lf * B9 + r0 < g * next := .inr (by simp only [decide_eq_true_eq] at h5; rw [hlx, egn]; omega)
        case refine_2 =>
          have hF := hD.stop hG hgB (by simp only [decide_eq_false_iff_not] at h5; show g * next ≤ lf * B9 + r0; rw [hlx, egn]; omega)
          conv => whnf
          exact ⟨rfl, g, hF, ⟨rfl, rfl, rfl, rfl, rfl, rfl, rfl, trivial⟩, rfl, rfl, trivial⟩
      all_goals
        obtain ⟨hg1, hG2⟩ := hD.step hG hc
        obtain ⟨g', eg'⟩ : ∃ y, g - 1 = y := ⟨_, rfl⟩
        obtain ⟨lf', elf'⟩ : ∃ y, lf + top = y := ⟨_, rfl⟩
        have hG2 : GI top head U V (g', lf') := by rw [← eg', ← elf']; exact hG2
        have hg1 : 1 ≤ g := hg1
        conv => whnf
        refine Wr.i64 (y := (g' : Int)) (by omega) (by omega) (by omega) ?_
        conv => whnf
        refine Wr.i64 (y := ((n + 1 : Nat) : Int)) (by omega) (by omega) (by omega) ?_
        conv => whnf
        refine ⟨⟨⟨by omega, by omega⟩, cW_sz _ _⟩, ?_⟩
        conv => whnf
        refine ⟨_, cW_as (i := n + 1) (by omega) etop, ?_⟩
        conv => whnf
        refine Wr.i64 (y := (lf' : Int)) (by omega) (by omega) (by omega) ?_
        conv => whnf
        refine Br.mk (fun h6 => ?_) (fun h6 => ?_)
        · have hF := hD.brk hG2 (by simp only [decide_eq_true_eq] at h6; show 1000000000 ≤ lf'; omega)
          conv => whnf
          exact ⟨rfl, g', hF, ⟨rfl, rfl, rfl, rfl, rfl, rfl, rfl, trivial⟩, rfl, rfl, trivial⟩
        · conv => whnf
          exact ⟨(g', lf'), ⟨hG2, by simp only [decide_eq_false_iff_not] at h6; show lf' < 1000000000; omega⟩, by show g' < g; omega, ⟨rfl, rfl, rfl, rfl, rfl, rfl, rfl, rfl, trivial⟩, ⟨rfl, rfl, trivial⟩⟩
    · rintro g ⟨f1, f2, f3⟩
      have c6 := fn_sTakeOff R u j (n + 2) g g2 hup.lt (by omega) hU (by omega) f1 (by rw [eU, eV]; exact f3)
      rw [eU, eV] at c6
      obtain ⟨gd1, gd2⟩ := guess_div f2 f3
      have hst := DivI.step b9 hI' hVB
      rw [eU] at hst
      obtain ⟨gV, egV⟩ : ∃ y, g * V = y := ⟨_, rfl⟩
      rw [egV] at c6 gd1 gd2 f3
      obtain ⟨d, ed⟩ : ∃ y, U / V = y := ⟨_, rfl⟩
      rw [ed] at hst gd1 gd2
      have f1 : g < 1000000000 := f1
      have hrow : ∀ d : Nat, (cW .i64 (List.replicate (j + 1) 0 ++ Q)).set j [.s (.int .i64 (d : Int))] = cW .i64 (List.replicate j 0 ++ (d :: Q)) := fun d => row_downK
      have g3' := hI'.2.2.1
      simp only at g3'
      by_cases hlt : U < gV
      · obtain ⟨k1, k2, k3⟩ := gd2 hlt
        rw [if_pos hlt, decide_eq_true hlt] at c6
        obtain ⟨X, eX⟩ : ∃ y, B9 ^ (n + 2) + U - gV = y := ⟨_, rfl⟩
        rw [eX] at c6
        have hXlt : X < B9 ^ (n + 2) := by omega
        have hpl := pad_len b9 hXlt
        have hwl : (win R j (pad B9 (n + 2) X)).length = R.length := win_len (by omega)
        have hwd : ((win R j (pad B9 (n + 2) X)).drop j).take (n + 2) = pad B9 (n + 2) X := by have := win_drop (R := R) (lo := j) (r := pad B9 (n + 2) X) (by omega); rwa [hpl] at this
        have c7 := fn_sPutBack (win R j (pad B9 (n + 2) X)) u j (n + 2) (U % V) (win_lt g2 (pad_lt b9 _ _)) hup.lt (by omega) hU (by omega) (by rw [hwd, vl_pad b9, eV]; omega) (by omega)
        have hY : U % V < B9 ^ (n + 3) := by
          have h1 : U % V < B9 ^ (n + 2) := by omega
          exact Nat.lt_of_lt_of_le h1 (Nat.pow_le_pow_right (by decide) (by omega))
        rw [win_win' (by rw [hpl, pad_len b9 hY]; omega) (by rw [pad_len b9 hY]; omega), hwl] at c7
        obtain ⟨R1, eR1⟩ : ∃ y, win R j (pad B9 (n + 3) (U % V)) = y := ⟨_, rfl⟩
        rw [eR1] at hst c7
        conv => whnf
        refine VCall.par1 78 c6 ⟨⟨rfl, rfl, by omega, rfl⟩, rfl, rfl, rfl, trivial⟩ rfl ?_
        conv => whnf
        refine Wr.i64 (y := (d : Int)) (by omega) (by omega) (by omega) ?_
        conv => whnf
        refine VCall.par1t 78 c7 ⟨⟨rfl, rfl, by omega, rfl⟩, rfl, rfl, trivial⟩ rfl ?_
        conv => whnf
        refine ⟨by omega, ?_⟩
        conv => whnf
        refine ⟨_, cW_at (i := j) (by rw [List.length_append, List.length_replicate]; omega), ?_⟩
        conv => whnf
        refine Wr.i64 (y := (j : Int) - 1) rfl (by omega) (by omega) ?_
        conv => whnf
        refine ⟨(j, R1, d :: Q), hst, by show j < j + 1; omega, ⟨rfl, rfl, rfl, rfl, rfl, rfl, trivial⟩, ?_, rfl, trivial⟩
        show Ob.row true 1 ((cW .i64 _).set j [.s (.int .i64 (d : Int))]) = _
        rw [hrow]
      · obtain ⟨k1, k2⟩ := gd1 (by omega)
        rw [if_neg hlt, decide_eq_false hlt, ← k2] at c6
        obtain ⟨R1, eR1⟩ : ∃ y, win R j (pad B9 (n + 3) (U % V)) = y := ⟨_, rfl⟩
        rw [eR1] at hst
        rw [show win R j (pad B9 (n + 2 + 1) (U % V)) = R1 from eR1] at c6
        have k1 : g = d := k1.symm
        conv => whnf
        refine VCall.par1 78 c6 ⟨⟨rfl, rfl, by omega, rfl⟩, rfl, rfl, rfl, trivial⟩ rfl ?_
        rw [k1]
        conv => whnf
        refine ⟨by omega, ?_⟩
        conv => whnf
        refine ⟨_, cW_at (i := j) (by rw [List.length_append, List.length_replicate]; omega), ?_⟩
        conv => whnf
        refine Wr.i64 (y := (j : Int) - 1) rfl (by omega) (by omega) ?_
        conv => whnf
        refine ⟨(j, R1, d :: Q), hst, by show j < j + 1; omega, ⟨rfl, rfl, rfl, rfl, rfl, rfl, trivial⟩, ?_, rfl, trivial⟩
        show Ob.row true 1 ((cW .i64 _).set j [.s (.int .i64 (d : Int))]) = _
        rw [hrow]
  · have hs0 : s.1 = 0 := by simp only [decide_eq_false_iff_not] at h3; omega
    obtain ⟨g1, g2, g3, g4, g5, g6⟩ := hI
    rw [hs0, List.drop_zero] at g5
    rw [hs0, Nat.pow_zero, Nat.one_mul] at g6
    obtain ⟨R, eR⟩ : ∃ R, s.2.1 = R := ⟨_, rfl⟩
    obtain ⟨Q, eQ⟩ : ∃ Q, s.2.2 = Q := ⟨_, rfl⟩
    rw [eR] at g1 g2 g5 g6
    rw [eQ] at g3 g4 g6
    have ct := fn_sTrim R g2 (by omega)
    obtain ⟨X, eX⟩ : ∃ y, vl B9 R = y := ⟨_, rfl⟩
    rw [eX] at ct g5 g6
    obtain ⟨e1, e2, e3⟩ := div_done (a := a) (b := b) (R := X) hk0 hV0 (g6.trans eA.symm) g5
    have hXs : bl X ≤ 1000000000000 := by
      have h1 := bl_mono (Nat.le_trans (Nat.le_add_right X _) (Nat.le_of_eq g6))
      rw [← eA] at h1
      have h2 := bl_mul a k
      have h3 : bl k ≤ 30 := bl_le (Nat.lt_trans hkB (by decide))
      omega
    have csd := fn_sShortDiv X k hXs hk0 (by omega)
    rw [← e2] at csd
    have ct1 := fn_sTrim Q g4 (by omega)
    rw [← e1] at ct1
    rw [eR, eQ, hs0]
    conv => whnf
    refine VCall.frz 78 ct rfl ⟨⟨rfl, rfl, by rw [cW_len]; omega, by rw [List.drop_zero, List.take_of_length_le (by rw [cW_len]; omega)]⟩, trivial⟩ (nd _) ?_
    conv => whnf
    refine VCall.of_data csd (ndT (fun k => rfl)) ?_
    conv => whnf
    refine VCall.frz 93 ct1 rfl ⟨⟨rfl, rfl, ?_, ?_⟩, trivial⟩ (nd _) ?_
    · rw [List.replicate_zero, List.nil_append, cW_len]; omega
    · rw [List.replicate_zero, List.nil_append, List.drop_zero, List.take_of_length_le (by rw [cW_len]; omega)]
    conv => whnf
    exact ⟨rfl, rfl, trivial, rfl⟩
theorem fn_sDiv (a b:Nat) (ha:bl a≤100000000000) (hb:bl b≤100000000000) (h0:b≠0):Fn Tryz.prog 89 [nS a,nS b] [] (.tup [nS (a / b),nS (a % b)]) []:=by
 by_cases h1:(dg B9 a).length≤2∧(dg B9 b).length≤2
 ·exact fn_sDivA a b h0 h1.1 h1.2
 ·rcases Nat.lt_or_ge a b with h | h
  ·exact fn_sDivB a b ha hb h h1
  ·rcases Nat.lt_or_ge b 1000000000 with h2 | h2
   ·exact fn_sDivC a b ha h0 h2 h h1
   ·refine fn_sDivD a b ha ?_ h h1;apply Nat.le_of_not_lt;intro h3;have h4:=lt_of_len b9 b;have h5:=Nat.pow_le_pow_right (by decide:0 < B9) (by omega:(dg B9 b).length≤1);have h6:B9 ^ 1=1000000000:=by decide
    omega
end Go.V
namespace Go.V
open Go.Proofs
set_option maxRecDepth 10000
set_option maxHeartbeats 1000000
abbrev rS (q:Rat):AV:=.ag [B (ng q),nS (tp q),nS q.den]
theorem fn_sGcd (a b:Nat) (ha:bl a≤100000000000) (hb:bl b≤100000000000):Fn Tryz.prog 88 [nS a,nS b] [] (nS (a.gcd b)) []:=by
 refine Fn.intro (ks:=[0,1,4,6,9]) hty rfl rfl rfl rfl rfl ?_;conv=>whnf
 refine VLoop.inv hty (S:=Nat×Nat) (fun s=>[(1,nS s.2),(0,nS s.1)]) (fun _=>[]) (fun s=>s.1.gcd s.2=a.gcd b∧bl s.1≤100000000000∧bl s.2≤100000000000) (fun s=>s.2) (a,b) ⟨rfl,ha,hb⟩ ⟨rfl,rfl,trivial⟩ trivial ?_;rintro s ⟨hg,h1,h2⟩;obtain ⟨x,ex⟩:∃x,s.1=x:=⟨_,rfl⟩;obtain ⟨y,ey⟩:∃x,s.2=x:=⟨_,rfl⟩;rw [ex,ey] at hg;rw [ex] at h1;rw [ey] at h2;rw [ex,ey];conv=>whnf
 refine Br.mk (fun h=>?_) (fun h=>?_)
 ·have hy0:y≠0:=by
   intro e;rw [e,dg_zero] at h;exact absurd h (by decide)
  conv=>whnf
  refine VCall.of_data (fn_sDiv x y h1 h2 hy0) (ndT (fun k=>rfl)) ?_;conv=>whnf
  refine ⟨(y,x % y),⟨?_,h2,Nat.le_trans (bl_mono (Nat.le_of_lt (Nat.mod_lt _ (Nat.pos_of_ne_zero hy0)))) h2⟩,Nat.mod_lt _ (Nat.pos_of_ne_zero hy0),⟨rfl,rfl,trivial⟩,trivial⟩;show y.gcd (x % y)=_;rw [Nat.gcd_comm,←Nat.gcd_rec,Nat.gcd_comm];exact hg
 ·have hy0:y=0:=by
   apply Classical.byContradiction;intro hne;have:=mt (dg_nil_iff b9 (n:=y)).1 hne;have h3:0 < (dg B9 y).length:=List.length_pos_iff.2 this;have:((cW .i64 (dg B9 y)).length:Int)=(dg B9 y).length:=by rw [cW_len]
   simp only [decide_eq_false_iff_not] at h;omega
  conv=>whnf
  exact ⟨by rw [←hg,hy0,Nat.gcd_zero_right],trivial,rfl⟩
theorem fn_sMake (s:Bool) (t b:Nat) (ht:bl t≤100000000000) (hb:bl b≤100000000000) (h0:b≠0):Fn Tryz.prog 73 [B s,nS t,nS b] [] (rS (mkRat (sgn s t) b)) []:=by
 obtain ⟨p1,p2,p3⟩:=mkRat_parts (s:=s) (t:=t) h0;have hg0:t.gcd b≠0:=fun e=>h0 (Nat.gcd_eq_zero_iff.1 e).2;have hgl:bl (t.gcd b)≤100000000000:=Nat.le_trans (bl_mono (Nat.gcd_le_right _ (Nat.pos_of_ne_zero h0))) hb;have cg:=fn_sGcd t b ht hb;have htg:(t / t.gcd b=0)↔t=0:=by
  constructor
  ·intro h;have h1:=Nat.div_mul_cancel (Nat.gcd_dvd_left t b);rw [h,Nat.zero_mul] at h1;exact h1.symm
  ·intro h;rw [h,Nat.zero_div]
 obtain ⟨g,eg⟩:∃g,t.gcd b=g:=⟨_,rfl⟩;rw [eg] at cg hg0 hgl p2 p3 htg;have hl:((cW .i64 (dg B9 (t / g))).length:Int)=(dg B9 (t / g)).length:=by rw [cW_len]
 have hz:=dg_len_zero b9 (n:=t / g);have cc:=fn_sCmp g 1 (by omega) (by decide);have hneg:(s && decide (0 < ((cW .i64 (dg B9 (t / g))).length:Int)))=(s && decide (t≠0)):=by
  congr 1
  apply decide_eq_decide.2;rw [hl];constructor
  ·intro h e;have:=hz.2 (htg.2 e);omega
  ·intro h;have:(dg B9 (t / g)).length≠0:=fun e=>h (htg.1 (hz.1 e));omega
 rw [show rS (mkRat (sgn s t) b) = .ag [B (s && decide (0 < ((cW .i64 (dg B9 (t / g))).length:Int))),nS (t / g),nS (b / g)] by rw [rS,p1,p2,p3,hneg]];refine Fn.intro (ks:=[0,1,2,6,7,14]) hty rfl rfl rfl rfl rfl ?_;conv=>whnf
 refine VCall.of_data cg (nd _) ?_;conv=>whnf
 refine VCall.frz 12 cc rfl ⟨rfl,⟨rfl,rfl,Nat.le_refl _,rfl⟩,trivial⟩ (nd _) ?_;conv=>whnf
 refine Br.mk (fun h=>?_) (fun h=>?_)
 ·conv=>whnf
  refine VCall.of_data (fn_sDiv t g ht hgl hg0) (ndT (fun k=>rfl)) ?_;conv=>whnf
  refine VCall.of_data (fn_sDiv b g hb hgl hg0) (ndT (fun k=>rfl)) ?_;conv=>whnf
  cases s
  ·conv=>whnf
   exact ⟨rfl,rfl,rfl,trivial,rfl⟩
  ·conv=>whnf
   exact ⟨rfl,rfl,rfl,trivial,rfl⟩
 ·have h:g=1:=cmpZ_zero.1 (by simpa using h);subst h;rw [Nat.div_one,Nat.div_one];conv=>whnf
  cases s
  ·conv=>whnf
   exact ⟨rfl,rfl,rfl,trivial,rfl⟩
  ·conv=>whnf
   exact ⟨rfl,rfl,rfl,trivial,rfl⟩
theorem fn_sInt (n:Int) (h1:-9223372036854775807≤n) (h2:n≤9223372036854775807):Fn Tryz.prog 49 [I n] [] (rS n) []:=by
 obtain ⟨e1,e2,e3⟩:=int_parts n;rw [show rS (n:Rat) = .ag [B (decide (n < 0)),nS n.natAbs,nS 1] by rw [rS,e1,e2,e3]];have cn:=fn_sNatD n.natAbs (by omega);refine Fn.intro (ks:=[0,2,4]) hty rfl rfl rfl rfl rfl ?_;conv=>whnf
 refine Br.mk (fun h=>?_) (fun h=>?_)
 ·have hn:n < 0:=by simpa only [decide_eq_true_eq] using h
  rw [decide_eq_true hn];conv=>whnf
  refine Wr.i64 (y:=((n.natAbs:Nat):Int)) (by omega) (by omega) (by omega) ?_;conv=>whnf
  refine VCall.of_data cn (nd _) ?_;conv=>whnf
  exact ⟨rfl,rfl,⟨rfl,Nat.le_refl _,rfl⟩,trivial,rfl⟩
 ·have hn:¬n < 0:=by simpa only [decide_eq_false_iff_not] using h
  rw [decide_eq_false hn];have en:n=((n.natAbs:Nat):Int):=by omega
  conv=>whnf
  refine VCall.of_data (by rw [←en] at cn;exact cn) (nd _) ?_;conv=>whnf
  exact ⟨rfl,rfl,⟨rfl,Nat.le_refl _,rfl⟩,trivial,rfl⟩
theorem fn_sOver (p q:Rat) (hp:sz p+sz q≤100000000000) (h0:q≠0):Fn Tryz.prog 48 [rS p,rS q] [] (rS (p / q)) []:=by
 have b1:=bl_tp p
 have b2:=bl_den p
 have b3:=bl_tp q
 have b4:=bl_den q
 have k1:=bl_mul (tp p) q.den
 have k3:=bl_mul p.den (tp q)
 have hb0:p.den*tp q≠0:=Nat.mul_ne_zero p.den_nz (fun e=>h0 (tp_zero.1 e))
 rw [div_parts p h0]
 refine Fn.intro (ks:=[0,1,2,3,4]) hty rfl rfl rfl rfl rfl ?_
 conv=>whnf
 refine VDraw.go hmo hty 16 [] rfl ?_
 conv=>whnf
 refine QCall.of_data (fn_sMul (tp p) q.den (by omega) (by omega)) (nd _) ?_
 conv=>whnf
 refine QCall.of_data (fn_sMul p.den (tp q) (by omega) (by omega)) (nd _) ?_
 conv=>whnf
 refine QCall.of_data (fn_sMake (ng p != ng q) (tp p*q.den) (p.den*tp q) (by omega) (by omega) hb0) (ndA fun k=>rfl) ?_
 conv=>whnf
 exact ⟨rfl,rfl,rfl,trivial,rfl⟩
end Go.V
namespace Go.V
open Go.Proofs
set_option maxRecDepth 10000
set_option maxHeartbeats 1000000
end Go.V
namespace Go.V
theorem parseM_ok:∀(s:List UInt8) (acc:Nat),(∀b,b∈s→IsD b)→(acc+1)*10 ^ s.length≤10 ^ 18→Lib.parseUintM (2 ^ 64 - 1) acc s = .ok (dvA s acc)
 | [],acc,_,_=>rfl
 | b :: r,acc,h,hb=>by
  have h1:=h b (by simp);have e:(acc+1)*10 ^ (b :: r).length=(acc+1)*10*10 ^ r.length:=by rw [List.length_cons,Nat.pow_succ,Nat.mul_assoc,Nat.mul_comm 10]
  rw [e] at hb;have h2:(acc+1)*10*1≤(acc+1)*10*10 ^ r.length:=Nat.mul_le_mul_left _ (Nat.pow_pos (by decide));have h18:(10:Nat) ^ 18=1000000000000000000:=by decide
  have hd:b.toNat - 48≤9:=by have:=h1.2;omega
  have h64:(2:Nat) ^ 64 - 1=18446744073709551615:=by decide
  rw [Lib.parseUintM,if_pos (show 48≤b.toNat∧b.toNat≤57 from h1),if_neg (by omega),if_neg (by rw [h64];omega),dvA,Nat.mul_comm 10 acc];refine parseM_ok r _ (fun x hx=>h x (by simp [hx])) ?_;have h3:(acc*10+(b.toNat - 48)+1)*10 ^ r.length≤(acc+1)*10*10 ^ r.length:=Nat.mul_le_mul_right _ (by omega);omega
theorem parse_ok {s:List UInt8} (h:∀b,b∈s→IsD b) (h0:s≠[]) (hl:s.length≤18):Lib.parseUintB 64 s = .ok (dv s):=by
 rw [Lib.parseUintB,if_neg h0]
 refine parseM_ok s 0 h ?_
 rw [Nat.zero_add,Nat.one_mul]
 exact Nat.pow_le_pow_right (by decide) hl
theorem indexByte_spec (c:UInt8):∀s:List UInt8,(c ∉ s∧Lib.indexByte s c = -1)∨∃p r,s=p++c :: r∧c ∉ p∧Lib.indexByte s c=p.length
 | []=>.inl ⟨by simp,rfl⟩
 | b :: r=>by
  by_cases hb:b=c
  ·subst hb;exact .inr ⟨[],r,rfl,by simp,by simp [Lib.indexByte]⟩
  ·rcases indexByte_spec c r with ⟨h1,h2⟩ | ⟨p,q,h1,h2,h3⟩
   ·left
    refine ⟨by simp only [List.mem_cons,not_or];exact ⟨fun e=>hb e.symm,h1⟩,?_⟩;simp [Lib.indexByte,hb,h2]
   ·right
    refine ⟨b :: p,q,by rw [h1];rfl,by simp only [List.mem_cons,not_or];exact ⟨fun e=>hb e.symm,h2⟩,?_⟩;have:¬((p.length:Int) = -1):=by omega
    simp [Lib.indexByte,hb,h3,this]
def okN (s:List UInt8):Prop:=s≠[]∧s.length≤200∧(∀b,b∈s→IsD b)∧(s.length=1∨s.head? ≠ some 48)
instance (s:List UInt8):Decidable (okN s):=by unfold okN IsD;exact inferInstance
end Go.V
namespace Go.V
open Go.Proofs Go.RowKit
set_option maxRecDepth 10000
set_option maxHeartbeats 1000000
theorem bx (l:List UInt8) (a h:Nat):(⟨l.toArray⟩:ByteArray).extract a h=⟨((l.take h).drop a).toArray⟩:=by
 apply ByteArray.ext
 rw [ByteArray.data_extract]
 simp [List.drop_take]
theorem bsize (l:List UInt8):(⟨l.toArray⟩:ByteArray).size=l.length:=rfl
theorem Grew.below {w w':World} (h:Below w.heap.size w w'):Grew w w':=⟨h.os,h.tape,h.output,h.size,h.block⟩
theorem Grew.bytes (w:World) (e:TypeId) (s:ByteArray):Grew w (Lib.bytesWorld w e s) :=
 ⟨rfl,rfl,rfl,by rw [Lib.bytesWorld_size];omega,fun j hj=>Lib.bytesWorld_at_old w e s j hj⟩
theorem avr_tup {κ:Know} {ρ:Place} {vs:List Value} {cs:List AV} (h:vs.length=cs.length) (hv:∀(k:Nat) v c,vs[k]? = some v→cs[k]? = some c→AVR κ ρ v c):AVR κ ρ (.tuple vs.toArray) (.tup cs) :=
 .tup _ _ (by simpa using h) fun k v c h1 h2=>hv k v c (by simpa using h1) h2
theorem fn_ParseUint (s:List UInt8) (h:∀b,b∈s→IsD b) (h0:s≠[]) (hl:s.length≤18):Fn Tryz.prog 81 [Str s,I 10,I 64] [] (.tup [N64 (dv s),.d (.s .nilIface)]) []:=by
 refine Fn.of_calls (vs:=[.string ⟨s.toArray⟩,.int .i64 10,.int .i64 64]) ⟨_,rfl,rfl,rfl⟩ fun w _=>?_
 refine Calls.mono (Tryz.strconv_ParseUint_10_at64_ok ⟨s.toArray⟩ (by rw [bsize];omega) (dv s) (parse_ok h h0 hl) w) ?_
 rintro e w' ⟨rfl,hw⟩
 refine ⟨_,rfl,fun κ ρ=>?_,?_⟩
 ·refine avr_tup (vs:=[.int .u64 (dv s),.nilIface]) rfl fun k v c h1 h2=>?_
  match k,h1,h2 with
  | 0,h1,h2=>simp at h1 h2;subst h1;subst h2;exact .d _ _ (.s _)
  | 1,h1,h2=>simp at h1 h2;subst h1;subst h2;exact .d _ _ (.s _)
 ·rcases hw with rfl | rfl
  ·exact Grew.refl _
  ·exact Grew.bytes _ _ _
theorem fn_CutPrefix (s p:List UInt8):Fn Tryz.prog 57 [Str s,Str p] [] (.tup [Str (Lib.trimPrefix s p),B (Lib.hasPrefix s p)]) []:=by
 refine Fn.of_calls (vs:=[.string ⟨s.toArray⟩,.string ⟨p.toArray⟩]) ⟨_,rfl,rfl,rfl⟩ fun w _=>?_
 refine Calls.mono (Tryz.strings_CutPrefix ⟨s.toArray⟩ ⟨p.toArray⟩ w) ?_
 rintro e w' ⟨rfl,rfl⟩
 refine ⟨_,rfl,fun κ ρ=>?_,Grew.refl _⟩
 refine avr_tup (vs:=[.string ⟨(Lib.trimPrefix s p).toArray⟩,.bool (Lib.hasPrefix s p)]) rfl fun k v c h1 h2=>?_
 match k,h1,h2 with
 | 0,h1,h2=>simp at h1 h2;subst h1;subst h2;exact .d _ _ (.s _)
 | 1,h1,h2=>simp at h1 h2;subst h1;subst h2;exact .d _ _ (.s _)
theorem fn_Index1 (s:List UInt8) (c:UInt8):Fn Tryz.prog 96 [Str s,Str [c]] [] (I (Lib.indexByte s c)) [] :=
 Fn.of_same (vs:=[.string ⟨s.toArray⟩,.string ⟨[c].toArray⟩]) ⟨_,rfl,rfl,rfl⟩ fun w=>Tryz.stringslite_Index_one ⟨s.toArray⟩ c w
def cutB (c:UInt8) (s:List UInt8):List UInt8×List UInt8×Bool:=match Lib.indexByte s c with
 | .ofNat n=>(s.take n,s.drop (n+1),true)
 | .negSucc _=>(s,[],false)
theorem fn_slCut (s:List UInt8) (c:UInt8) (hs:s.length≤1000000000000):Fn Tryz.prog 79 [Str s,Str [c]] [] (.tup [Str (cutB c s).1,Str (cutB c s).2.1,B (cutB c s).2.2]) []:=by
 have ci:=fn_Index1 s c;refine Fn.intro (ks:=[0,1,4,5,6,7,12]) hty rfl rfl rfl rfl rfl ?_;rcases indexByte_spec c s with ⟨h1,h2⟩ | ⟨p,r,h1,h2,h3⟩
 ·rw [show cutB c s=(s,[],false) by rw [cutB,h2];rfl];rw [h2] at ci;conv=>whnf
  refine VCall.of_data ci (nd _) ?_;conv=>whnf
  exact ⟨rfl,rfl,rfl,trivial,rfl⟩
 ·have hl:s.length=p.length+(r.length+1):=by rw [h1];simp
  have e:cutB c s=(p,r,true):=by
   rw [cutB,h3];show (s.take p.length,s.drop (p.length+1),true)=_;rw [h1];simp
  rw [e];rw [h3] at ci;conv=>whnf
  refine VCall.of_data ci (nd _) ?_;conv=>whnf
  refine VDraw.go hmo hty 12 [] rfl ?_;conv=>whnf
  refine ⟨⟨by omega,by omega,by rw [bsize];omega⟩,?_⟩;rw [bx,show s.take ((p.length:Nat):Int).toNat=p by rw [h1];simp,show p.drop (0:Int).toNat=p from rfl];conv=>whnf
  refine Wr.i64 (y:=((p.length+1:Nat):Int)) rfl (by omega) (by omega) ?_;conv=>whnf
  refine ⟨⟨by omega,by rw [bsize];omega,by rw [bsize];omega⟩,?_⟩;rw [bx,show (s.take (((⟨s.toArray⟩:ByteArray).size:Int).toNat)).drop (((p.length+1:Nat):Int).toNat)=r by
   rw [bsize,show ((s.length:Nat):Int).toNat=s.length from rfl,List.take_length,show ((p.length+1:Nat):Int).toNat=p.length+1 from rfl,h1];simp]
  conv=>whnf
  exact ⟨rfl,rfl,rfl,trivial,rfl⟩
theorem fn_Cut (s:List UInt8) (c:UInt8) (hs:s.length≤1000000000000):Fn Tryz.prog 56 [Str s,Str [c]] [] (.tup [Str (cutB c s).1,Str (cutB c s).2.1,B (cutB c s).2.2]) []:=by
 refine Fn.intro (ks:=[0,1,4,5,6]) hty rfl rfl rfl rfl rfl ?_
 conv=>whnf
 refine VCall.of_data (fn_slCut s c hs) (ndT (fun k=>rfl)) ?_
 conv=>whnf
 exact ⟨rfl,rfl,rfl,trivial,rfl⟩
end Go.V
namespace Go.V
open Go.Proofs Go.RowKit
set_option maxRecDepth 10000
set_option maxHeartbeats 1000000
theorem bloop (l:List UInt8):∀(n i:Nat) (r:List UInt8),l.length - i=n→ByteArray.toList.loop ⟨l.toArray⟩ i r=r.reverse++l.drop i:=by
 intro n;induction n with
 | zero =>
  intro i r h;unfold ByteArray.toList.loop;rw [if_neg (by show ¬i < l.length;omega),List.drop_of_length_le (by omega),List.append_nil]
 | succ n ih =>
  intro i r h;have hi:i < l.length:=by omega
  unfold ByteArray.toList.loop;rw [if_pos (show i < (⟨l.toArray⟩:ByteArray).size from hi),ih _ _ (by omega),List.drop_eq_getElem_cons hi];have:(⟨l.toArray⟩:ByteArray).get! i=l[i]:=by
   show l.toArray[i]! = l[i];simp [hi]
  rw [this];simp
theorem btl (l:List UInt8):(⟨l.toArray⟩:ByteArray).toList=l:=by
 unfold ByteArray.toList
 rw [bloop l _ 0 [] rfl];simp
theorem bnil (l:List UInt8):((⟨l.toArray⟩:ByteArray).toList == (⟨#[]⟩:ByteArray).toList)=decide (l=[]):=by
 rw [btl,show (⟨#[]⟩:ByteArray).toList=[] from btl []]
 cases l <;> rfl
theorem dv_bl {s:List UInt8} (h:∀b,b∈s→IsD b):bl (dv s)≤4*s.length:=by
 refine bl_le (Nat.lt_of_lt_of_le (dv_lt h) ?_)
 rw [Nat.pow_mul];exact Nat.pow_le_pow_left (by decide) _
theorem okN.dig {s:List UInt8} (h:okN s):∀b,b∈s→IsD b:=h.2.2.1
theorem fn_readNat (s:List UInt8) (hs:s.length≤1000000000000):Fn Tryz.prog 58 [Str s] [] (.tup [nI (if okN s then dv s else 0),B (decide (okN s))]) []:=by
 refine Fn.intro (ks:=[0,2,3,4,5,6,7,9,26,29,30,31,42,45,50,58,59,60]) hty rfl rfl rfl rfl rfl ?_;conv=>whnf
 refine Br.mk (fun h=>?_) (fun h=>?_)
 ·rw [bnil,decide_eq_true_eq] at h;have hno:¬okN s:=fun hok=>hok.1 h;conv=>whnf
  rw [if_neg hno,decide_eq_false hno];conv=>whnf
  exact ⟨rfl,trivial,rfl⟩
 ·rw [bnil,decide_eq_false_iff_not] at h;have hpos:0 < s.length:=List.length_pos_iff.2 h;conv=>whnf
  refine Br.mk (fun h2=>?_) (fun h2=>?_)
  ·have h2:200 < s.length:=by rw [bsize] at h2;simp only [decide_eq_true_eq] at h2;omega
   have hno:¬okN s:=fun hok=>by have:=hok.2.1;omega
   conv=>whnf
   rw [if_neg hno,decide_eq_false hno];conv=>whnf
   exact ⟨rfl,trivial,rfl⟩
  ·have h2:s.length≤200:=by rw [bsize] at h2;simp only [decide_eq_false_iff_not] at h2;omega
   conv=>whnf
   refine ⟨⟨by omega,by rw [bsize];omega⟩,?_⟩;conv=>whnf
   have hhead:s.head? = some (s.getD 0 0):=by cases s with
    | nil=>simp at hpos
    | cons x r=>rfl
   refine Br.mk (fun h3=>?_) (fun h3=>?_)
   ·have h3:s.getD 0 0=48:=by
     have h3':(((s.getD 0 0).toNat:Nat):Int)=48:=by simp only [decide_eq_true_eq] at h3;exact h3
     exact uint8_ext (by show (s.getD 0 0).toNat=48;omega)
    conv=>whnf
    refine Br.mk (fun h4=>?_) (fun h4=>?_)
    ·have h4:1 < s.length:=by rw [bsize] at h4;simp only [decide_eq_true_eq] at h4;omega
     have hno:¬okN s:=fun hok=>by
      rcases hok.2.2.2 with h5 | h5
      ·omega
      ·rw [hhead,h3] at h5;exact h5 rfl
     conv=>whnf
     rw [if_neg hno,decide_eq_false hno];conv=>whnf
     exact ⟨rfl,trivial,rfl⟩
    ·have hlz:s.length=1∨s.head? ≠ some 48:=.inl (by rw [bsize] at h4;simp only [decide_eq_false_iff_not] at h4;omega);conv=>whnf
     refine VLoop.invX hty (S:=Nat) (E:=Unit) [] [] 0 (fun i=>[(30,I i),(29,I s.length),(4,.ls 27 0 0 1),(0,Str s)]) (fun _=>[(27,.row true 1 [])]) (fun i=>i≤s.length∧∀k,k < i→IsD (s.getD k 0)) (fun i=>s.length - i)
      (fun _=>[(4,.ls 27 0 0 1),(0,Str s)]) (fun _=>[(27,.row true 1 [])]) (fun _=>∀b,b∈s→IsD b) 0 ⟨Nat.zero_le _,fun k h=>absurd h (Nat.not_lt_zero k)⟩ ⟨rfl,rfl,rfl,rfl,trivial⟩ ⟨rfl,trivial⟩ ?_ ?_
     ·rintro i ⟨hi,hk⟩;obtain ⟨b,eb⟩:∃b,s.getD i 0=b:=⟨_,rfl⟩;conv=>whnf
      refine Br.mk (fun h5=>?_) (fun h5=>?_)
      ·have h5:i < s.length:=by simp only [decide_eq_true_eq] at h5;omega
       have hbm:b∈s:=by rw [←eb,gD,List.getElem?_eq_getElem h5];exact List.getElem_mem h5
       conv=>whnf
       refine ⟨⟨by omega,by rw [bsize];omega⟩,?_⟩;rw [show (⟨s.toArray⟩:ByteArray).data.toList.getD ((i:Nat):Int).toNat 0=b from eb];conv=>whnf
       refine Br.mk (fun h6=>?_) (fun h6=>?_)
       ·have h6:b.toNat < 48:=by simp only [decide_eq_true_eq] at h6;omega
        have hno:¬okN s:=fun hok=>by have:=(hok.dig b hbm).1;omega
        conv=>whnf
        rw [if_neg hno,decide_eq_false hno];conv=>whnf
        exact ⟨rfl,trivial,rfl⟩
       ·have h6:¬b.toNat < 48:=by simp only [decide_eq_false_iff_not] at h6;omega
        conv=>whnf
        refine ⟨⟨by omega,by rw [bsize];omega⟩,?_⟩;rw [show (⟨s.toArray⟩:ByteArray).data.toList.getD ((i:Nat):Int).toNat 0=b from eb];conv=>whnf
        refine Br.mk (fun h7=>?_) (fun h7=>?_)
        ·have h7:57 < b.toNat:=by simp only [decide_eq_true_eq] at h7;omega
         have hno:¬okN s:=fun hok=>by have:=(hok.dig b hbm).2;omega
         conv=>whnf
         rw [if_neg hno,decide_eq_false hno];conv=>whnf
         exact ⟨rfl,trivial,rfl⟩
        ·have h7:¬57 < b.toNat:=by simp only [decide_eq_false_iff_not] at h7;omega
         conv=>whnf
         refine Wr.i64 (y:=((i+1:Nat):Int)) (by omega) (by omega) (by omega) ?_;conv=>whnf
         refine ⟨i+1,⟨h5,fun k hki=>?_⟩,by show s.length - (i+1) < s.length - i;omega,⟨rfl,rfl,rfl,rfl,trivial⟩,rfl,trivial⟩;rcases Nat.lt_or_ge k i with h8 | h8
         ·exact hk k h8
         ·rw [show k=i by omega,eb];exact ⟨by omega,by omega⟩
      ·have h5:i=s.length:=by simp only [decide_eq_false_iff_not] at h5;omega
       conv=>whnf
       refine ⟨rfl,(),fun b hb=>?_,⟨rfl,rfl,trivial⟩,rfl,trivial⟩;obtain ⟨k,hk1,hk2⟩:=List.mem_iff_getElem.1 hb;have:=hk k (by omega);rw [gD,List.getElem?_eq_getElem hk1] at this;simpa [hk2] using this
     ·rintro _ hdig;have hok:okN s:=⟨h,h2,hdig,hlz⟩;have hbl:∀m,m≤s.length→bl (dv (s.take m))≤800:=fun m hm=>by
       have h1:=dv_bl (s:=s.take m) fun b hb=>hdig b (List.mem_of_mem_take hb);rw [List.length_take] at h1;omega
      rw [if_pos hok,decide_eq_true hok];conv=>whnf
      refine VLoop.frz (t':=[(4,nI (dv (s.take 0))),(0,Str (s.drop 0))]) 27 rfl ⟨rfl,.inr ⟨rfl,rfl,Nat.le_refl _,rfl⟩,rfl,.inl rfl,trivial⟩ ?_;refine VLoop.invX hty (S:=Nat) (E:=Unit) [] [] 2 (fun m=>[(4,nI (dv (s.take m))),(0,Str (s.drop m))]) (fun _=>[]) (fun m=>m≤s.length) (fun m=>s.length - m)
       (fun _=>[(4,nI (dv s))]) (fun _=>[]) (fun _=>True) 0 (Nat.zero_le _) ⟨rfl,rfl,trivial⟩ trivial ?_ ?_
      ·intro m hm;obtain ⟨r,er⟩:∃r,s.drop m=r:=⟨_,rfl⟩;have hrl:r.length=s.length - m:=by rw [←er,List.length_drop]
       have hrd:∀b,b∈r→IsD b:=fun b hb=>hdig b (List.mem_of_mem_drop (by rw [er];exact hb));rw [er];conv=>whnf
       refine Br.mk (fun h5=>?_) (fun h5=>?_)
       ·have h5:r≠[]:=by rw [bnil] at h5;simpa using h5
        have hL:0 < r.length:=List.length_pos_iff.2 h5;have emod:Int.tmod (((⟨r.toArray⟩:ByteArray).size:Nat):Int) 9=((r.length % 9:Nat):Int):=by rw [bsize];exact (Int.ofNat_tmod r.length 9).symm
        conv=>whnf
        refine ⟨by decide,?_⟩;rw [emod];conv=>whnf
        refine Br.mk (fun h6=>?_) (fun h6=>?_)
        case' refine_1 =>
         have h6:r.length % 9=0:=by simp only [decide_eq_true_eq] at h6;omega
         obtain ⟨n,hn1,hn2,hn3,en⟩:∃n:Nat,1≤n∧n≤9∧n≤r.length∧(9:Int)=n:=⟨9,by decide,by decide,by omega,rfl⟩;rw [en]
        case' refine_2 =>
         have h6:¬r.length % 9=0:=by simp only [decide_eq_false_iff_not] at h6;omega
         obtain ⟨n,hn1,hn2,hn3,en⟩:∃n:Nat,1≤n∧n≤9∧n≤r.length∧r.length % 9=n:=⟨r.length % 9,by omega,by omega,by omega,rfl⟩;rw [en]
        all_goals
         have hpl:(r.take n).length=n:=by rw [List.length_take];omega
         have cp:=fn_ParseUint (r.take n) (fun b hb=>hrd b (List.mem_of_mem_take hb)) (by intro e;rw [e] at hpl;simp at hpl;omega) (by omega);have hdn:dv (r.take n) < 10 ^ n:=by have h9:=dv_lt (s:=r.take n) fun b hb=>hrd b (List.mem_of_mem_take hb);rwa [hpl] at h9
         have h10n:(10:Nat) ^ n≤10 ^ 9:=Nat.pow_le_pow_right (by decide) hn2;have h109:(10:Nat) ^ 9=1000000000:=by decide
         have hnew:dv (s.take (m+n))=dv (s.take m)*10 ^ n+dv (r.take n):=by
          have h9:=dv_part (s:=s) (lo:=m) (hi:=m+n) (by omega) (by omega);rw [show m+n - m=n by omega,er] at h9;exact h9
         have hnewd:s.drop (m+n)=r.drop n:=by rw [←er,List.drop_drop]
         have hblN:=hbl m hm;obtain ⟨v,ev⟩:∃v,dv (r.take n)=v:=⟨_,rfl⟩;rw [ev] at cp hdn hnew;obtain ⟨N,eN⟩:∃v,dv (s.take m)=v:=⟨_,rfl⟩;rw [eN] at hnew hblN;rw [eN];obtain ⟨T,eT⟩:∃v,(10:Nat) ^ n=v:=⟨_,rfl⟩;rw [eT] at hnew h10n hdn;have hblT:bl T≤64:=bl_le (Nat.lt_of_le_of_lt h10n (by decide));have hblv:bl v≤64:=bl_le (Nat.lt_trans hdn (Nat.lt_of_le_of_lt h10n (by decide)));have hblNT:=bl_mul N T;have cT:=fn_natOf T (by omega);have cV:=fn_natOf v (by omega);have cM:=fn_mul N T (by omega) (by omega);have cA:=fn_add (N*T) v (by omega) (by omega);rw [←hnew] at cA;conv=>whnf
         refine ⟨⟨by omega,by omega,by rw [bsize];omega⟩,?_⟩;rw [bx,show (r.take ((n:Nat):Int).toNat).drop (0:Int).toNat=r.take n from rfl];conv=>whnf
         refine VCall.of_data cp (ndT (fun k=>rfl)) ?_;conv=>whnf
         refine VLoop.invX hty (S:=Nat) (E:=Unit) [] [] 4 (fun k=>[(59,I k),(58,I n),(9,N64 (10 ^ k)),(7,N64 v),(6,I n),(4,nI N),(0,Str r)]) (fun _=>[]) (fun k=>k≤n) (fun k=>n - k)
          (fun _=>[(9,N64 T),(7,N64 v),(6,I n),(4,nI N),(0,Str r)]) (fun _=>[]) (fun _=>True) 0 (Nat.zero_le _) ⟨rfl,rfl,rfl,rfl,rfl,rfl,rfl,trivial⟩ trivial ?_ ?_
         ·intro k hk;conv=>whnf
          refine Br.mk (fun h7=>?_) (fun h7=>?_)
          ·have h7:k < n:=by simp only [decide_eq_true_eq] at h7;omega
           have h10:(10:Nat) ^ (k+1)≤10 ^ 9:=Nat.pow_le_pow_right (by decide) (by omega);have ep:(10:Nat) ^ (k+1)=10 ^ k*10:=Nat.pow_succ ..;obtain ⟨x,ex⟩:∃v,(10:Nat) ^ k=v:=⟨_,rfl⟩;obtain ⟨y,ey⟩:∃v,(10:Nat) ^ (k+1)=v:=⟨_,rfl⟩;rw [ex,ey] at ep;rw [ey] at h10;rw [ex];conv=>whnf
           refine Wr.n64 (n:=y) (by rw [ep];exact (Int.natCast_mul _ _).symm) (by omega) ?_;conv=>whnf
           refine Wr.i64 (y:=((k+1:Nat):Int)) rfl (by omega) (by omega) ?_;conv=>whnf
           exact ⟨k+1,h7,by show n - (k+1) < n - k;omega,⟨rfl,rfl,by show AV.d (.s (.int .u64 (y:Int)))=N64 (10 ^ (k+1));rw [ey],rfl,rfl,rfl,rfl,trivial⟩,trivial⟩
          ·have h7:k=n:=by simp only [decide_eq_false_iff_not] at h7;omega
           rw [h7,eT];conv=>whnf
           exact ⟨rfl,(),trivial,⟨rfl,rfl,rfl,rfl,rfl,trivial⟩,trivial⟩
         ·rintro _ _;conv=>whnf
          refine VDraw.goS hmo hty [0,1,4,7,8] rfl ?_;have hchk:0≤(n:Int)∧(n:Int)≤(((⟨r.toArray⟩:ByteArray).size:Nat):Int)∧(((⟨r.toArray⟩:ByteArray).size:Nat):Int)≤(((⟨r.toArray⟩:ByteArray).size:Nat):Int):=⟨by omega,by rw [bsize];omega,Int.le_refl _⟩;have hsl:(⟨r.toArray⟩:ByteArray).extract ((n:Nat):Int).toNat ((((⟨r.toArray⟩:ByteArray).size:Nat):Int)).toNat=⟨(r.drop n).toArray⟩:=by
           rw [bx,bsize];show (⟨((r.take r.length).drop n).toArray⟩:ByteArray)=_;rw [List.take_length]
          conv=>whnf
          repeat' (first
           | (refine VCall.of_data cT (nd _) ?_;conv=>whnf)
           | (refine VCall.of_data cM (nd _) ?_;conv=>whnf)
           | (refine VCall.of_data cV (nd _) ?_;conv=>whnf)
           | (refine VCall.of_data cA (nd _) ?_;conv=>whnf)
           | (refine ⟨hchk,?_⟩;rw [hsl];conv=>whnf)
           | exact ⟨m+n,by omega,by show s.length - (m+n) < s.length - m;omega,⟨rfl,congrArg (fun x:List UInt8=>Str x) hnewd.symm,trivial⟩,trivial⟩
           | (refine ⟨?_,?_⟩ <;> conv=>whnf))
       ·have h5:r=[]:=by rw [bnil] at h5;simpa using h5
        have e:s.take m=s:=List.take_of_length_le (by have h9:=hrl;rw [h5,List.length_nil] at h9;omega);rw [e];conv=>whnf
        exact ⟨rfl,(),trivial,⟨rfl,trivial⟩,trivial⟩
      ·rintro _ _;conv=>whnf
       exact ⟨rfl,rfl,trivial,rfl⟩
   ·have hlz:s.length=1∨s.head? ≠ some 48:=.inr (by
     rw [hhead];intro e;have e1:s.getD 0 0=48:=Option.some.inj e;have h3':¬(((s.getD 0 0).toNat:Nat):Int)=48:=by simp only [decide_eq_false_iff_not] at h3;exact h3
     rw [e1] at h3';exact h3' rfl)
    conv=>whnf
    refine VLoop.invX hty (S:=Nat) (E:=Unit) [] [] 0 (fun i=>[(30,I i),(29,I s.length),(4,.ls 27 0 0 1),(0,Str s)]) (fun _=>[(27,.row true 1 [])]) (fun i=>i≤s.length∧∀k,k < i→IsD (s.getD k 0)) (fun i=>s.length - i)
     (fun _=>[(4,.ls 27 0 0 1),(0,Str s)]) (fun _=>[(27,.row true 1 [])]) (fun _=>∀b,b∈s→IsD b) 0 ⟨Nat.zero_le _,fun k h=>absurd h (Nat.not_lt_zero k)⟩ ⟨rfl,rfl,rfl,rfl,trivial⟩ ⟨rfl,trivial⟩ ?_ ?_
    ·rintro i ⟨hi,hk⟩;obtain ⟨b,eb⟩:∃b,s.getD i 0=b:=⟨_,rfl⟩;conv=>whnf
     refine Br.mk (fun h5=>?_) (fun h5=>?_)
     ·have h5:i < s.length:=by simp only [decide_eq_true_eq] at h5;omega
      have hbm:b∈s:=by rw [←eb,gD,List.getElem?_eq_getElem h5];exact List.getElem_mem h5
      conv=>whnf
      refine ⟨⟨by omega,by rw [bsize];omega⟩,?_⟩;rw [show (⟨s.toArray⟩:ByteArray).data.toList.getD ((i:Nat):Int).toNat 0=b from eb];conv=>whnf
      refine Br.mk (fun h6=>?_) (fun h6=>?_)
      ·have h6:b.toNat < 48:=by simp only [decide_eq_true_eq] at h6;omega
       have hno:¬okN s:=fun hok=>by have:=(hok.dig b hbm).1;omega
       conv=>whnf
       rw [if_neg hno,decide_eq_false hno];conv=>whnf
       exact ⟨rfl,trivial,rfl⟩
      ·have h6:¬b.toNat < 48:=by simp only [decide_eq_false_iff_not] at h6;omega
       conv=>whnf
       refine ⟨⟨by omega,by rw [bsize];omega⟩,?_⟩;rw [show (⟨s.toArray⟩:ByteArray).data.toList.getD ((i:Nat):Int).toNat 0=b from eb];conv=>whnf
       refine Br.mk (fun h7=>?_) (fun h7=>?_)
       ·have h7:57 < b.toNat:=by simp only [decide_eq_true_eq] at h7;omega
        have hno:¬okN s:=fun hok=>by have:=(hok.dig b hbm).2;omega
        conv=>whnf
        rw [if_neg hno,decide_eq_false hno];conv=>whnf
        exact ⟨rfl,trivial,rfl⟩
       ·have h7:¬57 < b.toNat:=by simp only [decide_eq_false_iff_not] at h7;omega
        conv=>whnf
        refine Wr.i64 (y:=((i+1:Nat):Int)) (by omega) (by omega) (by omega) ?_;conv=>whnf
        refine ⟨i+1,⟨h5,fun k hki=>?_⟩,by show s.length - (i+1) < s.length - i;omega,⟨rfl,rfl,rfl,rfl,trivial⟩,rfl,trivial⟩;rcases Nat.lt_or_ge k i with h8 | h8
        ·exact hk k h8
        ·rw [show k=i by omega,eb];exact ⟨by omega,by omega⟩
     ·have h5:i=s.length:=by simp only [decide_eq_false_iff_not] at h5;omega
      conv=>whnf
      refine ⟨rfl,(),fun b hb=>?_,⟨rfl,rfl,trivial⟩,rfl,trivial⟩;obtain ⟨k,hk1,hk2⟩:=List.mem_iff_getElem.1 hb;have:=hk k (by omega);rw [gD,List.getElem?_eq_getElem hk1] at this;simpa [hk2] using this
    ·rintro _ hdig;have hok:okN s:=⟨h,h2,hdig,hlz⟩;have hbl:∀m,m≤s.length→bl (dv (s.take m))≤800:=fun m hm=>by
      have h1:=dv_bl (s:=s.take m) fun b hb=>hdig b (List.mem_of_mem_take hb);rw [List.length_take] at h1;omega
     rw [if_pos hok,decide_eq_true hok];conv=>whnf
     refine VLoop.frz (t':=[(4,nI (dv (s.take 0))),(0,Str (s.drop 0))]) 27 rfl ⟨rfl,.inr ⟨rfl,rfl,Nat.le_refl _,rfl⟩,rfl,.inl rfl,trivial⟩ ?_;refine VLoop.invX hty (S:=Nat) (E:=Unit) [] [] 2 (fun m=>[(4,nI (dv (s.take m))),(0,Str (s.drop m))]) (fun _=>[]) (fun m=>m≤s.length) (fun m=>s.length - m)
      (fun _=>[(4,nI (dv s))]) (fun _=>[]) (fun _=>True) 0 (Nat.zero_le _) ⟨rfl,rfl,trivial⟩ trivial ?_ ?_
     ·intro m hm;obtain ⟨r,er⟩:∃r,s.drop m=r:=⟨_,rfl⟩;have hrl:r.length=s.length - m:=by rw [←er,List.length_drop]
      have hrd:∀b,b∈r→IsD b:=fun b hb=>hdig b (List.mem_of_mem_drop (by rw [er];exact hb));rw [er];conv=>whnf
      refine Br.mk (fun h5=>?_) (fun h5=>?_)
      ·have h5:r≠[]:=by rw [bnil] at h5;simpa using h5
       have hL:0 < r.length:=List.length_pos_iff.2 h5;have emod:Int.tmod (((⟨r.toArray⟩:ByteArray).size:Nat):Int) 9=((r.length % 9:Nat):Int):=by rw [bsize];exact (Int.ofNat_tmod r.length 9).symm
       conv=>whnf
       refine ⟨by decide,?_⟩;rw [emod];conv=>whnf
       refine Br.mk (fun h6=>?_) (fun h6=>?_)
       case' refine_1 =>
        have h6:r.length % 9=0:=by simp only [decide_eq_true_eq] at h6;omega
        obtain ⟨n,hn1,hn2,hn3,en⟩:∃n:Nat,1≤n∧n≤9∧n≤r.length∧(9:Int)=n:=⟨9,by decide,by decide,by omega,rfl⟩;rw [en]
       case' refine_2 =>
        have h6:¬r.length % 9=0:=by simp only [decide_eq_false_iff_not] at h6;omega
        obtain ⟨n,hn1,hn2,hn3,en⟩:∃n:Nat,1≤n∧n≤9∧n≤r.length∧r.length % 9=n:=⟨r.length % 9,by omega,by omega,by omega,rfl⟩;rw [en]
       all_goals
        have hpl:(r.take n).length=n:=by rw [List.length_take];omega
        have cp:=fn_ParseUint (r.take n) (fun b hb=>hrd b (List.mem_of_mem_take hb)) (by intro e;rw [e] at hpl;simp at hpl;omega) (by omega);have hdn:dv (r.take n) < 10 ^ n:=by have h9:=dv_lt (s:=r.take n) fun b hb=>hrd b (List.mem_of_mem_take hb);rwa [hpl] at h9
        have h10n:(10:Nat) ^ n≤10 ^ 9:=Nat.pow_le_pow_right (by decide) hn2;have h109:(10:Nat) ^ 9=1000000000:=by decide
        have hnew:dv (s.take (m+n))=dv (s.take m)*10 ^ n+dv (r.take n):=by
         have h9:=dv_part (s:=s) (lo:=m) (hi:=m+n) (by omega) (by omega);rw [show m+n - m=n by omega,er] at h9;exact h9
        have hnewd:s.drop (m+n)=r.drop n:=by rw [←er,List.drop_drop]
        have hblN:=hbl m hm;obtain ⟨v,ev⟩:∃v,dv (r.take n)=v:=⟨_,rfl⟩;rw [ev] at cp hdn hnew;obtain ⟨N,eN⟩:∃v,dv (s.take m)=v:=⟨_,rfl⟩;rw [eN] at hnew hblN;rw [eN];obtain ⟨T,eT⟩:∃v,(10:Nat) ^ n=v:=⟨_,rfl⟩;rw [eT] at hnew h10n hdn;have hblT:bl T≤64:=bl_le (Nat.lt_of_le_of_lt h10n (by decide));have hblv:bl v≤64:=bl_le (Nat.lt_trans hdn (Nat.lt_of_le_of_lt h10n (by decide)));have hblNT:=bl_mul N T;have cT:=fn_natOf T (by omega);have cV:=fn_natOf v (by omega);have cM:=fn_mul N T (by omega) (by omega);have cA:=fn_add (N*T) v (by omega) (by omega);rw [←hnew] at cA;conv=>whnf
        refine ⟨⟨by omega,by omega,by rw [bsize];omega⟩,?_⟩;rw [bx,show (r.take ((n:Nat):Int).toNat).drop (0:Int).toNat=r.take n from rfl];conv=>whnf
        refine VCall.of_data cp (ndT (fun k=>rfl)) ?_;conv=>whnf
        refine VLoop.invX hty (S:=Nat) (E:=Unit) [] [] 4 (fun k=>[(59,I k),(58,I n),(9,N64 (10 ^ k)),(7,N64 v),(6,I n),(4,nI N),(0,Str r)]) (fun _=>[]) (fun k=>k≤n) (fun k=>n - k)
         (fun _=>[(9,N64 T),(7,N64 v),(6,I n),(4,nI N),(0,Str r)]) (fun _=>[]) (fun _=>True) 0 (Nat.zero_le _) ⟨rfl,rfl,rfl,rfl,rfl,rfl,rfl,trivial⟩ trivial ?_ ?_
        ·intro k hk;conv=>whnf
         refine Br.mk (fun h7=>?_) (fun h7=>?_)
         ·have h7:k < n:=by simp only [decide_eq_true_eq] at h7;omega
          have h10:(10:Nat) ^ (k+1)≤10 ^ 9:=Nat.pow_le_pow_right (by decide) (by omega);have ep:(10:Nat) ^ (k+1)=10 ^ k*10:=Nat.pow_succ ..;obtain ⟨x,ex⟩:∃v,(10:Nat) ^ k=v:=⟨_,rfl⟩;obtain ⟨y,ey⟩:∃v,(10:Nat) ^ (k+1)=v:=⟨_,rfl⟩;rw [ex,ey] at ep;rw [ey] at h10;rw [ex];conv=>whnf
          refine Wr.n64 (n:=y) (by rw [ep];exact (Int.natCast_mul _ _).symm) (by omega) ?_;conv=>whnf
          refine Wr.i64 (y:=((k+1:Nat):Int)) rfl (by omega) (by omega) ?_;conv=>whnf
          exact ⟨k+1,h7,by show n - (k+1) < n - k;omega,⟨rfl,rfl,by show AV.d (.s (.int .u64 (y:Int)))=N64 (10 ^ (k+1));rw [ey],rfl,rfl,rfl,rfl,trivial⟩,trivial⟩
         ·have h7:k=n:=by simp only [decide_eq_false_iff_not] at h7;omega
          rw [h7,eT];conv=>whnf
          exact ⟨rfl,(),trivial,⟨rfl,rfl,rfl,rfl,rfl,trivial⟩,trivial⟩
        ·rintro _ _;conv=>whnf
         refine VDraw.goS hmo hty [0,1,4,7,8] rfl ?_;have hchk:0≤(n:Int)∧(n:Int)≤(((⟨r.toArray⟩:ByteArray).size:Nat):Int)∧(((⟨r.toArray⟩:ByteArray).size:Nat):Int)≤(((⟨r.toArray⟩:ByteArray).size:Nat):Int):=⟨by omega,by rw [bsize];omega,Int.le_refl _⟩;have hsl:(⟨r.toArray⟩:ByteArray).extract ((n:Nat):Int).toNat ((((⟨r.toArray⟩:ByteArray).size:Nat):Int)).toNat=⟨(r.drop n).toArray⟩:=by
          rw [bx,bsize];show (⟨((r.take r.length).drop n).toArray⟩:ByteArray)=_;rw [List.take_length]
         conv=>whnf
         repeat' (first
          | (refine VCall.of_data cT (nd _) ?_;conv=>whnf)
          | (refine VCall.of_data cM (nd _) ?_;conv=>whnf)
          | (refine VCall.of_data cV (nd _) ?_;conv=>whnf)
          | (refine VCall.of_data cA (nd _) ?_;conv=>whnf)
          | (refine ⟨hchk,?_⟩;rw [hsl];conv=>whnf)
          | exact ⟨m+n,by omega,by show s.length - (m+n) < s.length - m;omega,⟨rfl,congrArg (fun x:List UInt8=>Str x) hnewd.symm,trivial⟩,trivial⟩
          | (refine ⟨?_,?_⟩ <;> conv=>whnf))
      ·have h5:r=[]:=by rw [bnil] at h5;simpa using h5
       have e:s.take m=s:=List.take_of_length_le (by have h9:=hrl;rw [h5,List.length_nil] at h9;omega);rw [e];conv=>whnf
       exact ⟨rfl,(),trivial,⟨rfl,trivial⟩,trivial⟩
     ·rintro _ _;conv=>whnf
      exact ⟨rfl,rfl,trivial,rfl⟩
theorem okN.bl {s:List UInt8} (h:okN s):bl (dv s)≤800:=by
 have h1:=dv_bl h.dig
 have:=h.2.1
 omega
def rdRat (s:List UInt8):Option Rat :=
 if ¬okN (Lib.trimPrefix (cutB 47 s).1 [45])∨(Lib.hasPrefix (cutB 47 s).1 [45]=true∧dv (Lib.trimPrefix (cutB 47 s).1 [45])=0) then none
 else if (cutB 47 s).2.2=false then some (mkRat (sgn (Lib.hasPrefix (cutB 47 s).1 [45]) (dv (Lib.trimPrefix (cutB 47 s).1 [45]))) 1)
 else if ¬okN (cutB 47 s).2.1∨dv (cutB 47 s).2.1≤1∨(dv (Lib.trimPrefix (cutB 47 s).1 [45])).gcd (dv (cutB 47 s).2.1)≠1 then none
 else some (mkRat (sgn (Lib.hasPrefix (cutB 47 s).1 [45]) (dv (Lib.trimPrefix (cutB 47 s).1 [45]))) (dv (cutB 47 s).2.1))
def rO:Option Rat→AV
 | some q=>rI q
 | none=>.ag [B false,nI 0,nI 0]
theorem cutB_len (c:UInt8) (s:List UInt8):(cutB c s).1.length≤s.length∧(cutB c s).2.1.length≤s.length:=by
 unfold cutB
 split
 ·simp only [List.length_take,List.length_drop];omega
 ·simp
theorem trim_len (s p:List UInt8):(Lib.trimPrefix s p).length≤s.length:=by
 unfold Lib.trimPrefix
 split
 ·rw [List.length_drop];omega
 ·exact Nat.le_refl _
theorem cmpZ_pos' {a b:Nat}:0 < cmpZ a b↔b < a:=by
 have h1:=cmpZ_neg (a:=a) (b:=b)
 have h2:=cmpZ_zero (a:=a) (b:=b)
 omega
theorem fn_readRat (s:List UInt8) (hs:s.length≤1000000000000):Fn Tryz.prog 33 [Str s] [] (.tup [rO (rdRat s),B (rdRat s).isSome]) []:=by
 have c1:=fn_Cut s 47 hs;have hcl:=cutB_len 47 s;unfold rdRat;obtain ⟨f,ef⟩:∃x,(cutB 47 s).1=x:=⟨_,rfl⟩;obtain ⟨g,eg⟩:∃x,(cutB 47 s).2.1=x:=⟨_,rfl⟩;obtain ⟨is,eis⟩:∃x,(cutB 47 s).2.2=x:=⟨_,rfl⟩;rw [ef,eg,eis] at c1;rw [ef,eg] at hcl;rw [ef,eg,eis];have c2:=fn_CutPrefix f [45];have htl:=trim_len f [45];obtain ⟨d,ed⟩:∃x,Lib.trimPrefix f [45]=x:=⟨_,rfl⟩;obtain ⟨neg,en⟩:∃x,Lib.hasPrefix f [45]=x:=⟨_,rfl⟩;rw [ed,en] at c2;rw [ed] at htl;rw [ed,en];have c3:=fn_readNat d (by omega);have c4:=fn_readNat g (by omega);refine Fn.intro (ks:=[0,2,3,4,5,6,7,8,9,10,11,12,13,14,40,47,61,69]) hty rfl rfl rfl rfl rfl ?_;by_cases hd:okN d
 ·rw [if_pos hd,decide_eq_true hd] at c3;conv=>whnf
  refine VCall.of_data c1 (ndT (fun k=>rfl)) ?_;conv=>whnf
  refine VCall.of_data c2 (ndT (fun k=>rfl)) ?_;conv=>whnf
  refine VCall.of_data c3 (ndT (fun k=>rfl)) ?_;conv=>whnf
  have hbd:=hd.bl;have hld:((cW .u32 (dg B32 (dv d))).length:Int)=(dg B32 (dv d)).length:=by rw [cW_len]
  have hzd:=dg_len_zero b32 (n:=dv d);have hnd:¬¬okN d:=fun h=>h hd;cases neg
  ·have hs0:dv d=0→false=false:=fun _=>rfl;have hno:¬(¬okN d∨false=true∧dv d=0):=by rintro (h | ⟨h,_⟩);exact h hd;cases h
   rw [if_neg hno];conv=>whnf
   refine VCall.of_data (fn_natOf 1 (by omega)) (nd _) ?_;cases is
   ·rw [if_pos rfl];obtain ⟨p1,p2,p3⟩:=parts_of (s:=false) (t:=dv d) (b:=1) (by decide) (Nat.gcd_one_right _) hs0;rw [show rO (some (mkRat (sgn false (dv d)) 1)) = .ag [B false,nI (dv d),nI 1] by rw [rO,rI,p1,p2,p3]];conv=>whnf
    exact ⟨rfl,rfl,rfl,rfl,trivial,rfl⟩
   ·rw [if_neg (by decide)];conv=>whnf
    by_cases hg:okN g
    ·have hbg:=hg.bl;rw [if_pos hg,decide_eq_true hg] at c4;refine VCall.of_data c4 (ndT (fun k=>rfl)) ?_;conv=>whnf
     refine VCall.of_data (fn_natOf 1 (by omega)) (nd _) ?_;conv=>whnf
     refine VCall.of_data (fn_cmp (dv g) 1 (by omega) (by decide)) (nd _) ?_;conv=>whnf
     refine Br.mk (fun h7=>?_) (fun h7=>?_)
     ·have h7:dv g≤1:=by
       simp only [decide_eq_true_eq] at h7;have:=cmpZ_pos' (a:=dv g) (b:=1);omega
      rw [if_pos (.inr (.inl h7))];conv=>whnf
      exact ⟨rfl,rfl,trivial,rfl⟩
     ·have h7:¬dv g≤1:=by
       simp only [decide_eq_false_iff_not] at h7;have:=cmpZ_pos' (a:=dv g) (b:=1);omega
      have cg:=fn_gcd (dv d) (dv g) (by omega) (by omega);have hbgc:bl ((dv d).gcd (dv g))≤800:=Nat.le_trans (bl_mono (Nat.gcd_le_right _ (by omega))) hbg;conv=>whnf
      refine VCall.of_data cg (nd _) ?_;conv=>whnf
      refine VCall.of_data (fn_natOf 1 (by omega)) (nd _) ?_;conv=>whnf
      refine VCall.of_data (fn_cmp ((dv d).gcd (dv g)) 1 (by omega) (by decide)) (nd _) ?_;conv=>whnf
      refine Br.mk (fun h8=>?_) (fun h8=>?_)
      ·have h8:(dv d).gcd (dv g)≠1:=fun e=>by rw [cmpZ_zero.2 e] at h8;exact absurd h8 (by decide)
       rw [if_pos (.inr (.inr h8))];conv=>whnf
       exact ⟨rfl,rfl,trivial,rfl⟩
      ·have h8:(dv d).gcd (dv g)=1:=cmpZ_zero.1 (by simpa using h8);rw [if_neg (by rintro (h9 | h9 | h9);exact h9 hg;exact h7 h9;exact h9 h8)];obtain ⟨p1,p2,p3⟩:=parts_of (s:=false) (t:=dv d) (b:=dv g) (by omega) h8 hs0;rw [show rO (some (mkRat (sgn false (dv d)) (dv g))) = .ag [B false,nI (dv d),nI (dv g)] by rw [rO,rI,p1,p2,p3]];conv=>whnf
       exact ⟨rfl,rfl,rfl,rfl,trivial,rfl⟩
    ·rw [if_neg hg,decide_eq_false hg] at c4;rw [if_pos (.inl hg)];refine VCall.of_data c4 (ndT (fun k=>rfl)) ?_;conv=>whnf
     conv=>whnf
     exact ⟨rfl,rfl,trivial,rfl⟩
  ·conv=>whnf
   refine Br.mk (fun h=>?_) (fun h=>?_)
   ·have h0:dv d=0:=by simp only [decide_eq_true_eq] at h;exact hzd.1 (by omega)
    rw [if_pos (.inr ⟨rfl,h0⟩)];conv=>whnf
    exact ⟨rfl,rfl,trivial,rfl⟩
   ·have h0:dv d≠0:=fun e=>by simp only [decide_eq_false_iff_not] at h;have:=hzd.2 e;omega
    have hs0:dv d=0→true=false:=fun e=>absurd e h0;have hno:¬(¬okN d∨true=true∧dv d=0):=by rintro (h | ⟨_,h⟩);exact hnd h;exact h0 h
    rw [if_neg hno];conv=>whnf
    refine VCall.of_data (fn_natOf 1 (by omega)) (nd _) ?_;cases is
    ·rw [if_pos rfl];obtain ⟨p1,p2,p3⟩:=parts_of (s:=true) (t:=dv d) (b:=1) (by decide) (Nat.gcd_one_right _) hs0;rw [show rO (some (mkRat (sgn true (dv d)) 1)) = .ag [B true,nI (dv d),nI 1] by rw [rO,rI,p1,p2,p3]];conv=>whnf
     exact ⟨rfl,rfl,rfl,rfl,trivial,rfl⟩
    ·rw [if_neg (by decide)];conv=>whnf
     by_cases hg:okN g
     ·have hbg:=hg.bl;rw [if_pos hg,decide_eq_true hg] at c4;refine VCall.of_data c4 (ndT (fun k=>rfl)) ?_;conv=>whnf
      refine VCall.of_data (fn_natOf 1 (by omega)) (nd _) ?_;conv=>whnf
      refine VCall.of_data (fn_cmp (dv g) 1 (by omega) (by decide)) (nd _) ?_;conv=>whnf
      refine Br.mk (fun h7=>?_) (fun h7=>?_)
      ·have h7:dv g≤1:=by
        simp only [decide_eq_true_eq] at h7;have:=cmpZ_pos' (a:=dv g) (b:=1);omega
       rw [if_pos (.inr (.inl h7))];conv=>whnf
       exact ⟨rfl,rfl,trivial,rfl⟩
      ·have h7:¬dv g≤1:=by
        simp only [decide_eq_false_iff_not] at h7;have:=cmpZ_pos' (a:=dv g) (b:=1);omega
       have cg:=fn_gcd (dv d) (dv g) (by omega) (by omega);have hbgc:bl ((dv d).gcd (dv g))≤800:=Nat.le_trans (bl_mono (Nat.gcd_le_right _ (by omega))) hbg;conv=>whnf
       refine VCall.of_data cg (nd _) ?_;conv=>whnf
       refine VCall.of_data (fn_natOf 1 (by omega)) (nd _) ?_;conv=>whnf
       refine VCall.of_data (fn_cmp ((dv d).gcd (dv g)) 1 (by omega) (by decide)) (nd _) ?_;conv=>whnf
       refine Br.mk (fun h8=>?_) (fun h8=>?_)
       ·have h8:(dv d).gcd (dv g)≠1:=fun e=>by rw [cmpZ_zero.2 e] at h8;exact absurd h8 (by decide)
        rw [if_pos (.inr (.inr h8))];conv=>whnf
        exact ⟨rfl,rfl,trivial,rfl⟩
       ·have h8:(dv d).gcd (dv g)=1:=cmpZ_zero.1 (by simpa using h8);rw [if_neg (by rintro (h9 | h9 | h9);exact h9 hg;exact h7 h9;exact h9 h8)];obtain ⟨p1,p2,p3⟩:=parts_of (s:=true) (t:=dv d) (b:=dv g) (by omega) h8 hs0;rw [show rO (some (mkRat (sgn true (dv d)) (dv g))) = .ag [B true,nI (dv d),nI (dv g)] by rw [rO,rI,p1,p2,p3]];conv=>whnf
        exact ⟨rfl,rfl,rfl,rfl,trivial,rfl⟩
     ·rw [if_neg hg,decide_eq_false hg] at c4;rw [if_pos (.inl hg)];refine VCall.of_data c4 (ndT (fun k=>rfl)) ?_;conv=>whnf
      conv=>whnf
      exact ⟨rfl,rfl,trivial,rfl⟩
 ·rw [if_neg hd,decide_eq_false hd] at c3;rw [if_pos (.inl hd)];conv=>whnf
  refine VCall.of_data c1 (ndT (fun k=>rfl)) ?_;conv=>whnf
  refine VCall.of_data c2 (ndT (fun k=>rfl)) ?_;conv=>whnf
  refine VCall.of_data c3 (ndT (fun k=>rfl)) ?_;conv=>whnf
  exact ⟨rfl,rfl,trivial,rfl⟩
end Go.V
namespace Go.V
def allO {α β:Type} (f:α→Option β):List α→Option (List β)
 | []=>some []
 | x :: r=>match f x,allO f r with
  | some y,some ys=>some (y :: ys)
  | _,_=>none
theorem allO_none {α β:Type} {f:α→Option β}:∀{xs:List α} {x:α},x∈xs→f x=none→allO f xs=none
 | y :: r,x,hx,h=>by
  unfold allO
  rcases List.mem_cons.1 hx with rfl | hx
  ·rw [h]
  ·rw [allO_none hx h];cases f y <;> rfl
theorem allO_snoc {α β:Type} {f:α→Option β}:∀{xs:List α} {ys:List β} {x:α} {y:β},allO f xs=some ys→f x=some y→allO f (xs++[x])=some (ys++[y])
 | [],ys,x,y,h,hx=>by
  have:ys=[]:=by simpa [allO] using h.symm
  subst this;simp [allO,hx]
 | z :: r,ys,x,y,h,hx=>by
  unfold allO at h;split at h
  ·rename_i w ws hw hws;cases h;simp only [List.cons_append,allO,hw,allO_snoc hws hx]
  ·cases h
theorem allO_len {α β:Type} {f:α→Option β}:∀{xs:List α} {ys:List β},allO f xs=some ys→ys.length=xs.length
 | [],ys,h=>by
  have:ys=[]:=by simpa [allO] using h.symm
  subst this;rfl
 | z :: r,ys,h=>by
  unfold allO at h;split at h
  ·rename_i w ws hw hws;cases h;simp [allO_len hws]
  ·cases h
theorem allO_mem {α β:Type} {f:α→Option β}:∀{xs:List α} {ys:List β} {y:β},allO f xs=some ys→y∈ys→∃x,x∈xs∧f x=some y
 | [],ys,y,h,hy=>by
  have:ys=[]:=by simpa [allO] using h.symm
  subst this;simp at hy
 | z :: r,ys,y,h,hy=>by
  unfold allO at h;split at h
  ·rename_i w ws hw hws;cases h;rcases List.mem_cons.1 hy with rfl | hy
   ·exact ⟨z,by simp,hw⟩
   ·obtain ⟨x,h1,h2⟩:=allO_mem hws hy;exact ⟨x,by simp [h1],h2⟩
  ·cases h
end Go.V
namespace Go.V
open Go.Proofs Go.RowKit
set_option maxRecDepth 10000
set_option maxHeartbeats 1000000
theorem fn_in (n a b:Int):Fn Tryz.prog 21 [I n,I a,I b] [] (B (decide (a≤n) && decide (n≤b))) []:=by
 refine Fn.intro (ks:=[0,1,2,6]) hty rfl rfl rfl rfl rfl ?_
 conv=>whnf
 refine Br.mk (fun h=>?_) (fun h=>?_)
 ·rw [h]
  conv=>whnf
  exact ⟨rfl,trivial,rfl⟩
 ·rw [h]
  conv=>whnf
  exact ⟨rfl,trivial,rfl⟩
theorem fn_indexQ (g:Nat) (p:Rat→Bool) (xs:List Rat) (hl:xs.length≤1000000) (hg:∀x,x∈xs→Fn Tryz.prog g [rI x] [] (B (p x)) []) :
  Fn Tryz.prog 86 [lQ xs,.d (.fn g [])] [] (I (if xs.any p then xs.findIdx p else -1)) []:=by
 have hl2:((cQ xs).length:Int)=xs.length:=by rw [cQ_len]
 refine Fn.intro (ks:=[0,1,4,5,7,8,9,16]) hty rfl rfl rfl rfl rfl ?_;conv=>whnf
 refine VLoop.inv hty (S:=Nat) (fun k=>[(8,I k),(7,I xs.length),(0,lQ xs),(1,.d (.fn g []))]) (fun _=>[]) (fun k=>k≤xs.length∧∀j (h:j < xs.length),j < k→p xs[j]=false) (fun k=>xs.length - k) 0 ⟨Nat.zero_le _,fun j _ h=>by omega⟩ ⟨rfl,by show AV.d (.s (.int .i64 ((cQ xs).length:Int)))=_;rw [cQ_len],rfl,rfl,trivial⟩ trivial ?_;rintro k ⟨hk,hp⟩;conv=>whnf
 refine Br.mk (fun h=>?_) (fun h=>?_)
 ·have hk':k < xs.length:=by simp only [decide_eq_true_eq] at h;omega
  conv=>whnf
  refine ⟨⟨⟨by omega,by omega⟩,cQ_sz xs⟩,?_⟩;conv=>whnf
  refine ⟨_,cQ_get hk',?_⟩;conv=>whnf
  refine VCall.of_data (hg xs[k] (by simp)) (fun j h=>by cases h) ?_;conv=>whnf
  refine Br.mk (fun h2=>?_) (fun h2=>?_)
  ·conv=>whnf
   refine ⟨?_,trivial,rfl⟩;have h3:xs.any p=true:=List.any_eq_true.2 ⟨xs[k],by simp,h2⟩;have h4:xs.findIdx p=k:=(List.findIdx_eq hk').2 ⟨h2,fun j hj=>hp j (by omega) hj⟩;simp [h3,h4]
  ·conv=>whnf
   refine Wr.i64 (y:=((k+1:Nat):Int)) rfl (by omega) (by omega) ?_;conv=>whnf
   exact ⟨k+1,⟨hk',fun j hj hjk=>by
    rcases Nat.lt_or_ge j k with h5 | h5
    ·exact hp j hj h5
    ·have:j=k:=by omega
     subst this;exact h2⟩,by show xs.length - (k+1) < xs.length - k;omega,⟨rfl,rfl,rfl,rfl,trivial⟩,trivial⟩
 ·have hk':k=xs.length:=by simp only [decide_eq_false_iff_not] at h;omega
  conv=>whnf
  refine ⟨?_,trivial,rfl⟩;have h3:xs.any p=false:=List.any_eq_false.2 fun x hx=>by
   obtain ⟨j,hj,rfl⟩:=List.mem_iff_getElem.1 hx;simp [hp j hj (by omega)]
  simp [h3]
theorem fn_containsQ (g:Nat) (p:Rat→Bool) (xs:List Rat) (hl:xs.length≤1000000) (hg:∀x,x∈xs→Fn Tryz.prog g [rI x] [] (B (p x)) []) :
  Fn Tryz.prog 69 [lQ xs,.d (.fn g [])] [] (B (xs.any p)) []:=by
 refine Fn.intro (ks:=[0,1,4]) hty rfl rfl rfl rfl rfl ?_
 conv=>whnf
 refine VCall.of_data (fn_indexQ g p xs hl hg) (fun j h=>by cases h) ?_
 conv=>whnf
 refine ⟨?_,trivial,rfl⟩
 cases xs.any p <;> simp
def cT (xs:List (List UInt8)):List (List C):=xs.map fun s=>[.s (.string ⟨s.toArray⟩)]
theorem cT_len (xs:List (List UInt8)):(cT xs).length=xs.length:=by simp [cT]
theorem cT_sz (xs:List (List UInt8)):∀r,r∈cT xs→r.length=1:=by
 intro r hr;simp only [cT,List.mem_map] at hr;obtain ⟨n,_,rfl⟩:=hr;rfl
theorem cT_as {xs:List (List UInt8)} {i:Nat} {x:List UInt8} (h:i < xs.length) (e:xs.getD i []=x):(cT xs)[i]? = some [.s (.string ⟨x.toArray⟩)]:=by
 subst e;rw [gD,List.getElem?_eq_getElem h];simp [cT,h]
theorem cT_append (xs ys:List (List UInt8)):cT xs++cT ys=cT (xs++ys):=by simp [cT]
abbrev lT (xs:List (List UInt8)):AV:=.d (.sl (cT xs))
theorem rdRat_sz {s:List UInt8} {q:Rat} (h:rdRat s=some q):sz q≤800:=by
 unfold rdRat at h
 split at h
 ·cases h
 ·rename_i h1
  simp only [not_or,Classical.not_not] at h1
  have b1:=h1.1.bl
  split at h
  ·cases h
   exact Nat.le_trans (sz_mkRat (by decide)) (by have:=bl_one;omega)
  ·split at h
   ·cases h
   ·rename_i h2
    simp only [not_or,Classical.not_not] at h2
    have b2:=h2.1.bl
    cases h
    exact Nat.le_trans (sz_mkRat (by omega)) (by omega)
def rdRats (xs:List (List UInt8)):Option (List Rat):=if 300 < xs.length then none else allO rdRat xs
theorem rdRats_sz {xs:List (List UInt8)} {ys:List Rat} (h:rdRats xs=some ys):ys.length≤300∧ys.length=xs.length∧∀q,q∈ys→sz q≤800:=by
 unfold rdRats at h
 split at h
 ·cases h
 ·have:=allO_len h
  exact ⟨by omega,this,fun q hq=>by obtain ⟨x,_,hx⟩:=allO_mem h hq;exact rdRat_sz hx⟩
theorem fn_rats (xs:List (List UInt8)) (hl:xs.length≤1000000000000) (hs:∀x,x∈xs→x.length≤1000000000000):Fn Tryz.prog 68 [lT xs] [] (.tup [lQ ((rdRats xs).getD []),B (rdRats xs).isSome]) []:=by
 have hl2:((cT xs).length:Int)=xs.length:=by rw [cT_len]
 refine Fn.intro (ks:=[0,2,3,4,6,7,8,11,13,14,15,16,25]) hty rfl rfl rfl rfl rfl ?_;conv=>whnf
 refine Br.mk (fun h=>?_) (fun h=>?_)
 ·have h:300 < xs.length:=by simp only [decide_eq_true_eq] at h;omega
  rw [rdRats,if_pos h];conv=>whnf
  exact ⟨rfl,trivial,rfl⟩
 ·have h:¬300 < xs.length:=by simp only [decide_eq_false_iff_not] at h;omega
  rw [rdRats,if_neg h];conv=>whnf
  refine VLoop.ren 12 29 rfl ?_;refine VLoop.inv hty (S:=List Rat) (fun s=>[(15,I s.length),(14,I xs.length),(13,lT xs),(4,.ls 29 0 s.length 3)]) (fun s=>[(29,.row true 3 (cQ s))]) (fun s=>s.length≤xs.length∧allO rdRat (xs.take s.length)=some s) (fun s=>xs.length - s.length) [] ⟨Nat.zero_le _,rfl⟩
   ⟨rfl,by show AV.d (.s (.int .i64 ((cT xs).length:Int)))=_;rw [cT_len],rfl,rfl,trivial⟩ ⟨rfl,trivial⟩ ?_
  rintro s ⟨hi,hq⟩;obtain ⟨i,ei⟩:∃i,s.length=i:=⟨_,rfl⟩;rw [ei] at hi hq;rw [ei];conv=>whnf
  refine Br.mk (fun h2=>?_) (fun h2=>?_)
  ·have h2:i < xs.length:=by simp only [decide_eq_true_eq] at h2;omega
   obtain ⟨x,ex⟩:∃x,xs.getD i []=x:=⟨_,rfl⟩;have hxm:x∈xs:=by rw [←ex,gD,List.getElem?_eq_getElem h2];exact List.getElem_mem h2
   have et:xs.take (i+1)=xs.take i++[x]:=by rw [List.take_succ_eq_append_getElem h2];subst ex;rw [gD,List.getElem?_eq_getElem h2];rfl
   have cr:=fn_readRat x (hs x hxm);conv=>whnf
   refine ⟨⟨⟨by omega,by omega⟩,cT_sz _⟩,?_⟩;conv=>whnf
   refine ⟨_,cT_as (x:=x) h2 ex,?_⟩;cases hr:rdRat x with
   | none =>
    rw [hr] at cr;rw [allO_none hxm hr];conv=>whnf
    refine VCall.of_data cr (ndT (fun k=>rfl)) ?_;conv=>whnf
    exact ⟨rfl,trivial,rfl⟩
   | some q =>
    rw [hr] at cr;conv=>whnf
    refine VCall.of_data cr (ndT (fun k=>rfl)) ?_;conv=>whnf
    refine Sub.full rfl ?_;conv=>whnf
    refine Sub.full (by rw [cQ_len];exact ei) ?_;conv=>whnf
    refine ⟨by show (i+1)*56≤_;omega,?_⟩;conv=>whnf
    refine Wr.i64 (y:=((i+1:Nat):Int)) rfl (by omega) (by omega) ?_;conv=>whnf
    refine ⟨s++[q],⟨by rw [List.length_append,List.length_singleton];omega,?_⟩,by show xs.length - (s++[q]).length < xs.length - i;rw [List.length_append,List.length_singleton];omega,⟨?_,rfl,rfl,?_,trivial⟩,?_,trivial⟩
    ·rw [List.length_append,List.length_singleton,ei,et];exact allO_snoc hq hr
    ·show AV.d (.s (.int .i64 ((i+1:Nat):Int)))=I ((s++[q]).length:Nat);rw [List.length_append,List.length_singleton,ei]
    ·show AV.ls 29 0 (i+1) 3=AV.ls 29 0 (s++[q]).length 3;rw [List.length_append,List.length_singleton,ei]
    ·show Ob.row true 3 (cQ s++cQ [q])=_;rw [cQ_append]
  ·have h2:i=xs.length:=by simp only [decide_eq_false_iff_not] at h2;omega
   rw [h2,List.take_length] at hq;rw [hq];conv=>whnf
   refine ⟨⟨rfl,by rw [cQ_len];omega,?_⟩,rfl,trivial,rfl⟩;rw [List.drop_zero,List.take_of_length_le (by rw [cQ_len];omega)];rfl
def lossQ (load:Rat):Nat→Rat
 | 0=>1
 | n+1=>load*lossQ load n / (load*lossQ load n+((n+1:Nat):Int))
def lossL (load:Rat) (n:Nat):List Rat:=(List.range n).map (lossQ load)
theorem lossL_len (load:Rat) (n:Nat):(lossL load n).length=n:=by simp [lossL]
theorem lossL_succ (load:Rat) (n:Nat):lossL load (n+1)=lossL load n++[lossQ load n]:=by simp [lossL,List.range_succ]
theorem lossL_get (load:Rat) {n k:Nat} (h:k < n):(lossL load n).getD k 0=lossQ load k:=by
 simp [lossL,gD,h]
theorem q_div_pos {a b:Rat} (ha:0 < a) (hb:0 < b):0 < a / b:=by
 rw [Rat.div_def];exact Rat.mul_pos ha (Rat.inv_pos.2 hb)
theorem q_cast_pos {n:Nat} (h:0 < n):(0:Rat) < ((n:Int):Rat):=by
 have:(0:Int) < (n:Int):=by omega
 exact_mod_cast this
theorem lossQ_pos {load:Rat} (h:0 < load):∀n,0 < lossQ load n
 | 0=>by show (0:Rat) < 1;decide
 | n+1=>by
  have h1:=Rat.mul_pos h (lossQ_pos h n)
  have h2:=q_cast_pos (n:=n+1) (by omega)
  show 0 < load*lossQ load n / (load*lossQ load n+((n+1:Nat):Int))
  refine q_div_pos h1 ?_
  grind
theorem lossQ_den {load:Rat} (h:0 < load) (n:Nat):load*lossQ load n+((n+1:Nat):Int)≠0:=by
 have h1:=Rat.mul_pos h (lossQ_pos h n);have h2:=q_cast_pos (n:=n+1) (by omega);intro e;have:0 < load*lossQ load n+(((n+1:Nat):Int):Rat):=by grind
 rw [e] at this;exact Rat.lt_irrefl this
theorem sz_nat {n:Nat} (h:n < 1000000):sz ((n:Int):Rat)≤20:=sz_small (by simp;omega) (by decide)
theorem lossQ_sz {load:Rat} (h:0 < load):∀n,n < 1000000→sz (lossQ load n)+(2*sz load+21)≤2 ^ n*(2*sz load+22)
 | 0,_=>by show sz (1:Rat)+_≤_;rw [sz_one];omega
 | n+1,hn=>by
  have ih:=lossQ_sz h n (by omega);have h1:=sz_mul load (lossQ load n);have h2:=sz_add (load*lossQ load n) ((n+1:Nat):Int);have h3:=sz_nat hn;have h4:=sz_div (load*lossQ load n) (lossQ_den h n);have h5:sz (lossQ load (n+1))=sz (load*lossQ load n / (load*lossQ load n+((n+1:Nat):Int))):=rfl;rw [h5,Nat.pow_succ];have h6:2 ^ n*2*(2*sz load+22)=2*(2 ^ n*(2*sz load+22)):=by grind
  rw [h6];omega
theorem lossQ_big {load:Rat} (h:0 < load) (hm:sz load≤1000) {n:Nat} (hn:n≤20):sz (lossQ load n)≤4000000000:=by
 have h1:=lossQ_sz h n (by omega);have h2:2 ^ n≤2 ^ 20:=Nat.pow_le_pow_right (by decide) hn;have h3:2 ^ n*(2*sz load+22)≤2 ^ 20*(2*1000+22):=Nat.mul_le_mul h2 (by omega);have h4:2 ^ 20*(2*1000+22)≤4000000000:=by decide
 omega
theorem fn_losses (load:Rat) (most:Nat) (h:0 < load) (hm:sz load≤1000) (hn:most≤20):Fn Tryz.prog 30 [rI load,I most] [] (lQ (lossL load (most+1))) []:=by
 have c1:=fn_whole 1 (by decide) (by decide);refine Fn.intro (ks:=[0,1,2,4,5,6,7,12]) hty rfl rfl rfl rfl rfl ?_;conv=>whnf
 refine VCall.of_data c1 (ndA fun k=>rfl) ?_;conv=>whnf
 refine VLoop.ren 9 30 rfl ?_;refine VLoop.inv hty (S:=Nat) (fun n=>[(6,I (n:Nat)),(5,.ls 30 0 n 3),(2,.lp 2 0),(1,I (most:Nat))]) (fun n=>[(30,.row true 3 (cQ (lossL load n))),(2,.box true [B (ng load),nI (tp load),nI load.den])]) (fun n=>1≤n∧n≤most+1) (fun n=>most+1 - n) 1 ⟨Nat.le_refl _,by omega⟩
  ⟨rfl,rfl,rfl,rfl,trivial⟩ ⟨rfl,rfl,trivial⟩ ?_
 rintro n ⟨hn1,hn2⟩;obtain ⟨k,rfl⟩:∃k,n=k+1:=⟨n - 1,by omega⟩;have hll:=lossL_len load (k+1);conv=>whnf
 refine Br.mk (fun h2=>?_) (fun h2=>?_)
 ·have h2:k+1≤most:=by simp only [decide_eq_true_eq] at h2;omega
  have hg:=lossL_get load (n:=k+1) (k:=k) (by omega);have hz:=lossQ_big h hm (n:=k) (by omega);have hden:=lossQ_den h k;have hlc:=lossL_succ load (k+1);have enext:lossQ load (k+1)=load*lossQ load k / (load*lossQ load k+((k+1:Nat):Int)):=rfl;obtain ⟨l,el⟩:∃l,lossQ load k=l:=⟨_,rfl⟩;rw [el] at hg hz hden enext;have cm:=fn_rmul load l (by omega) (by omega);have hzm:=sz_mul load l;obtain ⟨x,ex⟩:∃x,load*l=x:=⟨_,rfl⟩;rw [ex] at cm hzm hden enext;have cw:=fn_whole ((k+1:Nat):Int) (by omega) (by omega);have hzw:=sz_nat (n:=k+1) (by omega);have ca:=fn_radd x (((k+1:Nat):Int):Rat) (by omega);have hza:=sz_add x (((k+1:Nat):Int):Rat);obtain ⟨y,ey⟩:∃y,x+(((k+1:Nat):Int):Rat)=y:=⟨_,rfl⟩;rw [ey] at ca hza hden enext;have co:=fn_rover x y (by omega) (by omega) hden;rw [←enext] at co;conv=>whnf
  refine VDraw.go hmo hty 8 [[7],[7],[7],[7],[7],[7],[7],[]] rfl ?_;conv=>whnf
  refine Wr.i64 (y:=((k:Nat):Int)) (by omega) (by omega) (by omega) ?_;conv=>whnf
  refine ⟨by omega,?_⟩;conv=>whnf
  refine ⟨_,cQ_as (x:=l) (by omega) hg,?_⟩;conv=>whnf
  refine QCall.of_data cm (ndA fun k=>rfl) ?_;conv=>whnf
  refine VDraw.go hmo hty 8 [[29],[29],[29],[29],[29],[29],[29],[]] rfl ?_;conv=>whnf
  refine QCall.of_data cw (ndA fun k=>rfl) ?_;conv=>whnf
  refine QCall.of_data ca (ndA fun k=>rfl) ?_;conv=>whnf
  refine QCall.of_data co (ndA fun k=>rfl) ?_;conv=>whnf
  refine Sub.full rfl ?_;conv=>whnf
  refine Sub.full (by rw [cQ_len,hll]) ?_;conv=>whnf
  refine ⟨by show (k+1+1)*56≤_;omega,?_⟩;conv=>whnf
  refine Wr.i64 (y:=((k+1+1:Nat):Int)) rfl (by omega) (by omega) ?_;conv=>whnf
  refine ⟨k+1+1,⟨by omega,by omega⟩,by omega,⟨rfl,rfl,rfl,rfl,trivial⟩,?_,rfl,trivial⟩;show Ob.row true 3 (cQ _++cQ [lossQ load (k+1)])=_;rw [cQ_append,hlc]
 ·have h2:k=most:=by simp only [decide_eq_false_iff_not] at h2;omega
  subst h2;conv=>whnf
  refine ⟨⟨rfl,by rw [cQ_len];omega,?_⟩,trivial,rfl⟩;rw [List.drop_zero,List.take_of_length_le (by rw [cQ_len];omega)]
end Go.V
namespace Go.V
open Go.Proofs Go.RowKit
set_option maxRecDepth 10000
set_option maxHeartbeats 1000000
theorem rcI_le {p q:Rat}:rcI p q≤0↔p≤q:=by
 have h1:=rcI_neg (p:=p) (q:=q)
 have h2:=rcI_zero (p:=p) (q:=q)
 constructor
 ·intro h
  rcases Int.lt_or_eq_of_le h with h3 | h3
  ·exact Rat.le_of_lt (h1.1 h3)
  ·rw [h2.1 h3];exact Rat.le_refl
 ·intro h
  rcases Int.lt_or_le 0 (rcI p q) with h3 | h3
  ·exfalso
   have h4:¬p < q:=fun e=>by have:=h1.2 e;omega
   have h5:¬p=q:=fun e=>by have:=h2.2 e;omega
   exact h5 (Rat.le_antisymm h (Rat.not_lt.1 h4))
  ·exact h3
def leastQ (load most:Rat):Option Nat:=(List.range 21).find? fun n=>decide (lossQ load n≤most)
theorem leastQ_some {load most:Rat} {i:Nat} (hi:i < 21) (h:lossQ load i≤most) (hk:∀k,k < i→¬lossQ load k≤most):leastQ load most=some i:=by
 unfold leastQ
 rw [List.find?_range_eq_some]
 exact ⟨by simpa using h,by simpa using hi,fun j hj=>by simpa using hk j hj⟩
theorem leastQ_none {load most:Rat} (hk:∀k,k < 21→¬lossQ load k≤most):leastQ load most=none:=by
 unfold leastQ
 rw [List.find?_eq_none]
 intro x hx
 simpa using hk x (by simpa using hx)
theorem fn_leastServers (load most:Rat) (h:0 < load) (hm:sz load≤1000) (hm2:sz most≤1000):Fn Tryz.prog 34 [rI load,rI most] [] (.tup [I ((leastQ load most).getD 0:Nat),B (leastQ load most).isSome]) []:=by
 have cl:=fn_losses load 20 h hm (by omega);have hll:=lossL_len load 21;have hlc:((cQ (lossL load 21)).length:Int)=21:=by rw [cQ_len,hll];rfl
 refine Fn.intro (ks:=[0,1,2,3,4,5,6,7,9,10,11,12,19]) hty rfl rfl rfl rfl rfl ?_;conv=>whnf
 refine VCall.of_data cl (nd _) ?_;conv=>whnf
 refine VLoop.inv hty (S:=Nat) (fun i=>[(11,I (i:Nat)),(10,I 21),(9,lQ (lossL load 21)),(3,.lp 3 0)]) (fun _=>[(3,.box true [B (ng most),nI (tp most),nI most.den])]) (fun i=>i≤21∧∀k,k < i→¬lossQ load k≤most) (fun i=>21 - i) 0 ⟨by omega,fun k h=>absurd h (Nat.not_lt_zero k)⟩
  ⟨rfl,by show AV.d (.s (.int .i64 ((cQ (lossL load 21)).length:Int)))=_;rw [hlc],rfl,rfl,trivial⟩ ⟨rfl,trivial⟩ ?_
 rintro i ⟨hi,hk⟩;conv=>whnf
 refine Br.mk (fun h2=>?_) (fun h2=>?_)
 ·have h2:i < 21:=by simp only [decide_eq_true_eq] at h2;omega
  have hg:=lossL_get load (n:=21) (k:=i) h2;have hz:=lossQ_big h hm (n:=i) (by omega);have cc:=fn_rcmp (lossQ load i) most (by omega) (by omega);have hcl:=rcI_le (p:=lossQ load i) (q:=most);obtain ⟨l,el⟩:∃l,lossQ load i=l:=⟨_,rfl⟩;rw [el] at hg cc hcl;conv=>whnf
  refine ⟨⟨⟨by omega,by omega⟩,cQ_sz _⟩,?_⟩;conv=>whnf
  refine ⟨_,cQ_as (x:=l) (by omega) hg,?_⟩;conv=>whnf
  refine VCall.of_data cc (nd _) ?_;conv=>whnf
  refine Br.mk (fun h3=>?_) (fun h3=>?_)
  ·have h3:rcI l most≤0:=by simpa only [decide_eq_true_eq] using h3
   rw [leastQ_some h2 (by rw [el];exact hcl.1 h3) hk];conv=>whnf
   first | exact ⟨rfl,trivial,rfl⟩ | exact ⟨rfl,rfl,trivial,rfl⟩
  ·have h3:¬rcI l most≤0:=by simpa only [decide_eq_false_iff_not] using h3
   conv=>whnf
   refine Wr.i64 (y:=((i+1:Nat):Int)) rfl (by omega) (by omega) ?_;conv=>whnf
   refine ⟨i+1,⟨h2,fun k hki=>?_⟩,by show 21 - (i+1) < 21 - i;omega,⟨rfl,rfl,rfl,rfl,trivial⟩,rfl,trivial⟩;rcases Nat.lt_or_ge k i with h4 | h4
   ·exact hk k h4
   ·rw [show k=i by omega,el];exact fun e=>h3 (hcl.2 e)
 ·have h2:i=21:=by simp only [decide_eq_false_iff_not] at h2;omega
  subst h2;rw [leastQ_none hk];conv=>whnf
  first | exact ⟨rfl,trivial,rfl⟩ | exact ⟨rfl,rfl,trivial,rfl⟩
theorem sgI_pos {q:Rat}:0 < sgI q↔0 < q:=by
 have h1:=sgI_zero (q:=q)
 have h2:sgI q < 0↔q < 0:=by
  rw [lt_cross]
  unfold sgI sgn
  have hz:=ng_zero (q:=q)
  have e0:tp (0:Rat)=0:=rfl
  have e1:ng (0:Rat)=false:=rfl
  have e2:(0:Rat).den=1:=rfl
  rw [e0,e1,e2]
  by_cases h:tp q=0
  ·simp [h,hz h]
  ·cases e:ng q <;> simp [h] <;> omega
 constructor
 ·intro h
  have h3:¬q < 0:=fun e=>by have:=h2.2 e;omega
  have h4:¬q=0:=fun e=>by have:=h1.2 e;omega
  grind
 ·intro h
  have h3:¬sgI q < 0:=fun e=>by
   have:=h2.1 e
   grind
  have h4:¬sgI q=0:=fun e=>by
   rw [h1.1 e] at h;exact Rat.lt_irrefl h
  omega
def okLoads (x:List Rat):Prop:=1≤x.length∧x.length≤48∧x.any (fun q=>decide (sgI q < 0))=false
instance (x:List Rat):Decidable (okLoads x):=by unfold okLoads;exact inferInstance
end Go.V
namespace Go.V
open Go.Proofs Go.RowKit
set_option maxRecDepth 10000
set_option maxHeartbeats 1000000
def RdI (s:List UInt8) (out:List Nat):Prop:=(∀x,x∈out→x < B9)∧dv s=vl B9 out+B9 ^ out.length*dv (s.take (s.length - 9*out.length))∧9*out.length≤s.length+8
theorem RdI.step {s:List UInt8} {out:List Nat} (hd:∀b,b∈s→IsD b) (h:RdI s out) {f tx:Nat} (ht:tx=s.length - 9*out.length) (h0:0 < tx) (hf:f=tx - 9) :
  RdI s (out++[dv ((s.drop f).take (tx - f))])∧dv ((s.drop f).take (tx - f)) < B9:=by
 obtain ⟨h1,h2,h3⟩:=h;have hlt:dv ((s.drop f).take (tx - f)) < B9:=by
  have h4:=dv_lt (s:=(s.drop f).take (tx - f)) fun b hb=>hd b (List.mem_of_mem_drop (List.mem_of_mem_take hb));have h5:((s.drop f).take (tx - f)).length≤9:=by rw [List.length_take];omega
  have h6:(10:Nat) ^ ((s.drop f).take (tx - f)).length≤10 ^ 9:=Nat.pow_le_pow_right (by decide) h5;exact Nat.lt_of_lt_of_le h4 h6
 refine ⟨⟨snoc_lt h1 hlt,?_,by rw [List.length_append,List.length_singleton];omega⟩,hlt⟩;rw [List.length_append,List.length_singleton,vl_snoc,Nat.pow_succ,h2,←ht];have h4:=dv_part (s:=s) (lo:=f) (hi:=tx) (by omega) (by omega);have h5:s.length - 9*(out.length+1)=f:=by omega
 rw [h5,h4];generalize dv ((s.drop f).take (tx - f))=d;generalize vl B9 out=vv;generalize B9 ^ out.length=P;rcases Nat.lt_or_ge tx 9 with h6 | h6
 ·have:dv (s.take f)=0:=by rw [show f=0 by omega];rfl
  rw [this,Nat.zero_mul,Nat.zero_add,Nat.mul_zero,Nat.add_zero]
 ·have h7:(10:Nat) ^ (tx - f)=B9:=by rw [show tx - f=9 by omega]
  rw [h7];generalize B9=B;have:P*(dv (s.take f)*B)=P*B*dv (s.take f):=by rw [Nat.mul_comm (dv _) B,Nat.mul_assoc]
  rw [Nat.mul_add,this];omega
end Go.V
namespace Go.V
open Go.Proofs Go.RowKit
set_option maxRecDepth 10000
set_option maxHeartbeats 1000000
end Go.V
namespace Go.V
open Go.Proofs Go.RowKit
set_option maxRecDepth 10000
set_option maxHeartbeats 1000000
end Go.V
namespace Go.V
open Go.Proofs Go.RowKit
set_option maxRecDepth 10000
set_option maxHeartbeats 1000000
end Go.V
namespace Go.V
open Go.Proofs Go.RowKit
set_option maxRecDepth 10000
set_option maxHeartbeats 1000000
def marks (k n:Nat):List Int:=(List.range n).map fun i=>((k+i:Nat):Int)
end Go.V
namespace Go.V
open Go.Proofs Go.RowKit
set_option maxRecDepth 10000
set_option maxHeartbeats 1000000
theorem cT_set (xs:List (List UInt8)) (k:Nat) (x:List UInt8):(cT xs).set k [.s (.string ⟨x.toArray⟩)]=cT (xs.set k x):=by
 unfold cT;rw [List.map_set]
end Go.V
namespace Go.V
open Go.Proofs Go.RowKit
set_option maxRecDepth 10000
set_option maxHeartbeats 1000000
theorem lend_wholeT {id:Nat} {l:LL} {xs ys:List (List UInt8)} (h:lget id l = .row true 1 (cT (xs++ys))):lend1 l (.ls id 0 xs.length 1) (.d (.sl (cT xs))):=by
 unfold lend1
 simp only [h]
 exact ⟨trivial,by simp [cT],by simp [cT]⟩
end Go.V
namespace Go.Proofs
open Go.Shelf Go.RowKit Go.Sort Go.Lib
set_option maxHeartbeats 6400000 in
set_option maxRecDepth 100000 in
theorem Tryz.numDigitsC (u:Nat) (h1:1≤u) (h2:u < 18446744073709551616) (w:World) (hc:∀i,i < 20→w.cell? ⟨3,i,none⟩=some (.int .u64 ((10 ^ i:Nat):Int))) :
  Calls Tryz.prog 127 #[.int .u64 u] w fun e w'=>e = .returned (.int .i64 (Lib.nDigits u))∧w'=w:=by
 obtain ⟨hnd,h19⟩:=Lib.numDigits_eq u h1 h2;have hL:Lib.bitLen u≤64:=Lib.bitLen_le u 64 (Nat.le_refl _) h2;have hcell:=hc (Lib.l10 (Lib.bitLen u)) (by omega);have hto:((u:Int)).toNat=u:=by omega
 generalize hq:Lib.l10 (Lib.bitLen u)=q at hnd h19 hcell;generalize hT:10 ^ q=T at hnd hcell;have h20:q < 20:=by omega
 have Hnd:=Lib.hid hnd;clear hnd hc
 go_enter Tryz.func127,Tryz.ntmps127
 go_wp2_with (first
  | (go_at_call 138;refine (Tryz.bits_Len64 _ _ (by omega) (by omega)).mono ?_;rintro e w' ⟨rfl,rfl⟩)
  | (go_at_call 137;refine (Tryz.internal_strconv_log10Pow2 _ (by first | exact hL | (rw [hto];exact hL)) _).mono ?_;rintro e w' ⟨rfl,rfl⟩)
  | (go_at_call 139;refine (Tryz.internal_strconv_bool2_int _ _).mono ?_;rintro e w' ⟨rfl,rfl⟩))
 all_goals go_ret
 all_goals (
  refine ⟨?_,rfl⟩;have hnd:=Hnd.out
  congr 2
  split at hnd <;> simp_all <;> omega)
set_option maxHeartbeats 6400000 in
set_option maxRecDepth 100000 in
theorem Tryz.formatUintS (u:Nat) (hu:u < 100) (w:World) :
  Calls Tryz.prog 108 #[.int .u64 u,.int .i64 10] w fun e w'=>e = .returned (.string ⟨(Lib.decDigits u).toArray⟩)∧w'=w:=by
 have iu:(u:Int) < 100:=by omega
 go_enter Tryz.func108,Tryz.ntmps108
 go_wp2_with (go_at_call 126;refine (Tryz.internal_strconv_small u hu _).mono ?_;rintro e w' ⟨rfl,rfl⟩)
 all_goals go_ret
 all_goals exact ⟨rfl,rfl⟩
set_option maxHeartbeats 6400000 in
set_option maxRecDepth 100000 in
theorem Tryz.formatUintB (u:Nat) (hu:100≤u) (hu64:u < 18446744073709551616) (w:World) (hc:∀i,i < 20→w.cell? ⟨3,i,none⟩=some (.int .u64 ((10 ^ i:Nat):Int))) :
  Calls Tryz.prog 108 #[.int .u64 u,.int .i64 10] w fun e w'=>e = .returned (.string ⟨(Lib.decDigits u).toArray⟩)∧∃k os,w'=grow (w.drewN k) os:=by
 have hu1:1≤u:=by omega
 have hnd20:Lib.nDigits u≤20:=by have:=Lib.numDigits_eq u hu1 hu64;split at this <;> omega
 have hal:Tryz.prog.arrayLen 160=24:=by simp [Program.arrayLen,Tryz.underlying160]
 have hsl:∀W,(Instr.sliceAt 160 (.pointer (some ⟨w.heap.size,0,none⟩)) none (some (.int .i64 (Lib.nDigits u:Int))) none).run Tryz.prog W = .ok (.slice (some ⟨w.heap.size,0,none⟩) (Lib.nDigits u) 24) W:=fun W=>by
  rw [run_sliceAt_array_h W 160 ⟨w.heap.size,0,none⟩ (by simp [Program.arrayLen,Program.elem,Tryz.underlying160]) .i64 (Lib.nDigits u:Int) (by omega) (by rw [hal];omega)]
  go_simp
 have hH0:=Lib.holds_zero0 w 160 (Lib.nDigits u) (by omega);have hfmt:=Tryz.internal_strconv_formatBase10 w.heap.size 0 24 u (Array.replicate (Lib.nDigits u) 0) (w.alloc (.cells Lib.zeros24 160)) hH0 (by rw [Array.size_replicate];exact Lib.lt_pow_nDigits u) hu64 (by rw [Array.size_replicate];omega);rw [Array.size_replicate] at hfmt;have HH0:=Lib.hid hH0;have iu:(100:Int)≤(u:Int):=by omega
 have hc':∀i,i < 20→(w.alloc (.cells Lib.zeros24 160)).cell? ⟨3,i,none⟩=some (.int .u64 ((10 ^ i:Nat):Int)):=fun i hi=>Lib.cell?_alloc_some _ (hc i hi);clear hH0 hal
 go_enter Tryz.func108,Tryz.ntmps108
 go_wp2_with (go_at_call 127;refine (Tryz.numDigitsC u hu1 hu64 _ hc').mono ?_;rintro e w' ⟨rfl,rfl⟩)
 refine hfmt.mono ?_;rintro e w' ⟨rfl,k,v',dk,rfl,hF⟩;have hcv:(convert 22 9 (.slice (some ⟨w.heap.size,0,none⟩) (Lib.nDigits u) 24)).run Tryz.prog ((putRow (fun (b:UInt8)=>Value.int .u8 (b.toNat:Int)) (w.alloc (.cells Lib.zeros24 160)) w.heap.size 0 dk).drewN k) = .ok (.string ⟨(Lib.decDigits u).toArray⟩) ((putRow (fun (b:UInt8)=>Value.int .u8 (b.toNat:Int)) (w.alloc (.cells Lib.zeros24 160)) w.heap.size 0 dk).drewN k):=by
  have h:=run_convert_bytes_back (P:=Tryz.prog) ((putRow (fun (b:UInt8)=>Value.int .u8 (b.toNat:Int)) (w.alloc (.cells Lib.zeros24 160)) w.heap.size 0 dk).drewN k) 22 9 5 ⟨w.heap.size,0,none⟩ 24 (Lib.decDigits u) Tryz.underlying22 Tryz.underlying5 Tryz.underlying9 (fun j hj=>by
   rw [Lib.row_is_numeral hF j hj,Lib.add_plain,World.cell?_drewN];exact cell?_putRow (fun (b:UInt8)=>Value.int .u8 (b.toNat:Int)) _ w.heap.size 0 _ dk HH0.out (by rw [hF.size,Array.size_replicate]) j (by rw [hF.size];rw [Lib.decDigits_length] at hj;exact hj))
  rw [Lib.decDigits_length] at h;exact h
 go_wp2
 go_ret
 obtain ⟨os,eo⟩:=Lib.fin_at w (.cells Lib.zeros24 160) dk k 0;exact ⟨rfl,k,os,eo⟩
end Go.Proofs
namespace Go.V
open Go.Proofs Go.RowKit
set_option maxRecDepth 10000
theorem pow10_glob (w:World) (hg:∀b o y,glob b o y→w.cell? ⟨b,o,none⟩=some y) (i:Nat) (hi:i < 20):w.cell? ⟨3,i,none⟩=some (.int .u64 ((10 ^ i:Nat):Int)):=by
 refine hg 3 i _ ?_
 unfold glob
 have e:gget 3 globT=(List.range 20).map fun i=>Value.int .u64 ((10 ^ i:Nat):Int):=rfl
 rw [e]
 simp [hi]
theorem fn_iFormatUint (u:Nat) (hu:u < 18446744073709551616):Fn Tryz.prog 108 [.d (.s (.int .u64 u)),I 10] [] (Str (Lib.decDigits u)) []:=by
 refine Fn.of_calls (vs:=[.int .u64 u,.int .i64 10]) ⟨_,rfl,rfl,rfl⟩ fun w hg=>?_
 by_cases h:u < 100
 ·refine Calls.mono (Tryz.formatUintS u h w) ?_
  rintro e w' ⟨rfl,rfl⟩
  exact ⟨_,rfl,fun κ ρ=>.d _ _ (.s _),Grew.refl _⟩
 ·refine Calls.mono (Tryz.formatUintB u (by omega) hu w (pow10_glob w hg)) ?_
  rintro e w' ⟨rfl,k,os,rfl⟩
  exact ⟨_,rfl,fun κ ρ=>.d _ _ (.s _),Grew.below (Lib.below_grow _ w (Nat.le_refl _) k os)⟩
theorem fn_FormatUint (u:Nat) (hu:u < 18446744073709551616):Fn Tryz.prog 92 [.d (.s (.int .u64 u)),I 10] [] (Str (Lib.decDigits u)) []:=by
 refine Fn.intro (ks:=[0,1,4]) hty rfl rfl rfl rfl rfl ?_
 conv=>whnf
 refine VCall.of_data (fn_iFormatUint u hu) (nd _) ?_
 conv=>whnf
 exact ⟨rfl,trivial,rfl⟩
end Go.V
namespace Go.V
open Go.Proofs Go.RowKit
set_option maxRecDepth 10000
set_option maxHeartbeats 1000000
def revL (zs:List (List UInt8)) (k:Nat):List (List UInt8):=(List.range zs.length).map fun i=>if i < k∨zs.length - 1 - i < k then zs.getD (zs.length - 1 - i) [] else zs.getD i []
theorem revL_len (zs:List (List UInt8)) (k:Nat):(revL zs k).length=zs.length:=by simp [revL]
theorem revL_zero (zs:List (List UInt8)):revL zs 0=zs:=by
 apply List.ext_getElem (by simp [revL_len])
 intro i h1 h2
 simp [revL,h2]
theorem revL_end (zs:List (List UInt8)) (k:Nat) (h:zs.length≤2*k+1):revL zs k=zs.reverse:=by
 apply List.ext_getElem (by simp [revL_len]);intro i h1 h2;have h2:i < zs.length:=by simpa using h2
 simp only [revL,List.getElem_map,List.getElem_range,List.getElem_reverse];rw [gD,gD,List.getElem?_eq_getElem (by omega),List.getElem?_eq_getElem (by omega)];by_cases hc:i < k∨zs.length - 1 - i < k
 ·rw [if_pos hc];simp
 ·rw [if_neg hc];have:i=zs.length - 1 - i:=by omega
  simp [←this]
theorem revL_at (zs:List (List UInt8)) (k i:Nat) (h1:¬i < k) (h2:¬zs.length - 1 - i < k) (hi:i < zs.length):(revL zs k).getD i []=zs.getD i []:=by
 rw [gD,List.getElem?_eq_getElem (by rw [revL_len];exact hi)]
 simp [revL,h1,h2]
theorem revL_step (zs:List (List UInt8)) (k:Nat) (h:2*k+1 < zs.length):((revL zs k).set k (zs.getD (zs.length - 1 - k) [])).set (zs.length - 1 - k) (zs.getD k [])=revL zs (k+1):=by
 apply List.ext_getElem (by simp [revL_len]);intro i h1 h2;have hi:i < zs.length:=by simpa [revL_len] using h2
 rw [List.getElem_set,List.getElem_set];simp only [revL,List.getElem_map,List.getElem_range];by_cases e1:zs.length - 1 - k=i
 ·rw [if_pos e1,if_pos (by omega),show zs.length - 1 - i=k by omega]
 ·rw [if_neg e1];by_cases e2:k=i
  ·rw [if_pos e2,if_pos (by omega),e2]
  ·rw [if_neg e2];by_cases hc:i < k∨zs.length - 1 - i < k
   ·rw [if_pos hc,if_pos (by omega)]
   ·rw [if_neg hc,if_neg (by omega)]
theorem fn_Reverse (zs:List (List UInt8)) (hl:zs.length≤1000000000000) :
  Fn Tryz.prog 94 [.ls 1000000 0 zs.length 1] [(1000000,.row true 1 (cT zs))] (.tup []) [(1000000,.row true 1 (cT zs.reverse))]:=by
 refine Fn.intro (ks:=[0,2,3,9]) hty rfl rfl rfl rfl rfl ?_;conv=>whnf
 refine Wr.fit (wrap_i64 (by omega) (by omega)) ?_;conv=>whnf
 refine VLoop.inv hty (S:=Nat) (fun k=>[(3,I ((zs.length:Int) - 1 - k)),(2,I k),(0,.ls 1000000 0 zs.length 1)]) (fun k=>[(1000000,.row true 1 (cT (revL zs k)))]) (fun k=>k≤zs.length) (fun k=>zs.length - k) 0 (Nat.zero_le _)
  ⟨congrArg I (by simp),rfl,rfl,trivial⟩ ⟨by rw [revL_zero];rfl,trivial⟩ ?_
 intro k hk;conv=>whnf
 obtain ⟨j,ej⟩:∃j,(zs.length:Int) - 1 - k=j:=⟨_,rfl⟩;rw [ej];refine Br.mk (fun h=>?_) (fun h=>?_)
 ·have h:(k:Int) < j:=by simpa using h
  have hk2:2*k+1 < zs.length:=by omega
  conv=>whnf
  obtain ⟨m,rfl⟩:∃m:Nat,j=m:=⟨j.toNat,by omega⟩;have hm:m=zs.length - 1 - k:=by omega
  have hR:=revL_len zs k;have hstep:=revL_step zs k hk2;rw [←hm] at hstep;have e1:=revL_at zs k k (by omega) (by omega) (by omega);have e2:=revL_at zs k m (by omega) (by omega) (by omega);generalize zs.getD k []=a at e1 hstep;generalize zs.getD m []=b at e2 hstep;generalize revL zs k=R at hR e1 e2 hstep ⊢;have c1:0≤(k:Int)∧(k:Int) < zs.length:=by omega
  have c2:0≤(m:Int)∧(m:Int) < zs.length:=by omega
  have a1:=cT_as (by omega) e1;have a2:=cT_as (by omega) e2;have a3:((cT R).set k [.s (.string ⟨b.toArray⟩)])[m]? = some [.s (.string ⟨b.toArray⟩)]:=by rw [List.getElem?_set_ne (by omega)];exact a2
  refine VDraw.goS hmo hty [0,1,2,3,4,5,8,9] rfl ?_;conv=>whnf
  repeat' (first
   | (refine ⟨c1,?_⟩;conv=>whnf)
   | (refine ⟨c2,?_⟩;conv=>whnf)
   | (refine ⟨_,a1,?_⟩;conv=>whnf)
   | (refine ⟨_,a2,?_⟩;conv=>whnf)
   | (refine ⟨_,a3,?_⟩;conv=>whnf)
   | (refine Wr.fit (wrap_i64 (by omega) (by omega)) ?_;conv=>whnf)
   | exact ⟨k+1,by omega,by omega,⟨congrArg I (by omega),rfl,rfl,trivial⟩,by rw [←hstep,←cT_set,←cT_set];rfl,trivial⟩
   | (refine ⟨?_,?_⟩ <;> conv=>whnf))
 ·have h:¬(k:Int) < j:=by simpa using h
  conv=>whnf
  rw [revL_end zs k (by omega)];exact ⟨⟨rfl,trivial⟩,rfl⟩
theorem VCall.par1u {P:Program} {t:TL} {l:LL} {f:FuncId} {xs xs0:List AV} {sz sz':Nat} {rows rows':List (List C)} {dst:Option Nat} {K:AV→TL→LL→Prop} (a:Nat)
  (h:Fn P f xs0 [(1000000,.row true sz rows)] (.tup []) [(1000000,.row true sz' rows')]) (ha:argR (pmap [(1000000,a)]) xs xs0) (hl:lget a l = .row true sz rows)
  (hK:K (.tup []) t ((a,.row true sz' rows') :: l)):VCall P f xs dst t l K :=
 VCall.of_fnR (k:=0) (pmap [(1000000,a)]) h ha ⟨⟨hl,fun p h=>absurd rfl h⟩,trivial⟩ rfl (keepRows rfl rfl) (fun _ h=>by cases h) rfl hK
theorem repeat_one (c:UInt8) (n:Nat):Lib.repeatL [c] n=List.replicate n c:=by
 induction n with
 | zero=>rfl
 | succ n ih=>rw [Lib.repeatL,ih];rfl
theorem fn_Repeat (s:List UInt8) (c:Nat) (hc:c≤1000000000) (hl:s.length≤1000):Fn Tryz.prog 93 [Str s,I c] [] (Str (Lib.repeatL s c)) []:=by
 refine Fn.of_calls (vs:=[.string ⟨s.toArray⟩,.int .i64 c]) ⟨_,rfl,rfl,rfl⟩ fun w _=>?_;have hb:(⟨s.toArray⟩:ByteArray).size=s.length:=by simp [ByteArray.size]
 have hm:s.length*c≤1000*1000000000:=Nat.mul_le_mul hl hc;refine Calls.mono (Tryz.strings_Repeat ⟨s.toArray⟩ c w (by omega) (by rw [hb];omega)) ?_;rintro e w' ⟨rfl,hw⟩;refine ⟨_,rfl,fun κ ρ=>?_,Grew.below hw⟩;exact .d _ _ (.s _)
theorem repr_sl {κ:Know} {v:Value} {rows:List (List C)} (h:Repr κ v (.sl rows)):(rows=[]∧∃a cap,v = .slice a 0 cap) ∨
  ∃(b off n cap:Nat) (vs:Nat→Value),v = .slice (some ⟨b,off,none⟩) n cap∧n=rows.length∧n≤cap∧(∀(k:Nat) (c:C),rows.flatten[k]? = some c→κ b (off+k) (vs k))∧∀(k:Nat) (c:C),rows.flatten[k]? = some c→Repr κ (vs k) c:=by
 cases h with
 | nil=>exact .inl ⟨rfl,_,_,rfl⟩
 | none a cap=>exact .inl ⟨rfl,_,_,rfl⟩
 | sl b off n cap rows vs hn hc hk hr=>exact .inr ⟨b,off,n,cap,vs,rfl,hn,hc,hk,hr⟩
theorem cT_flatten (xs:List (List UInt8)):(cT xs).flatten=xs.map fun s=>C.s (.string ⟨s.toArray⟩):=by
 induction xs with
 | nil=>rfl
 | cons x xs ih=>simp only [cT,List.map_cons,List.flatten_cons] at ih ⊢;rw [ih];rfl
theorem fn_Join (xs:List (List UInt8)) (sep:List UInt8) (hN:xs.length≤100000000000) (hlen:(Lib.join xs sep).length≤1000000000000):Fn Tryz.prog 95 [lT xs,Str sep] [] (Str (Lib.join xs sep)) [] where
 en:=⟨_,rfl,rfl,rfl⟩
 out:=fun κ ρ w us hm hs hv=>by
  have hs:us.size=2:=hs;have h0:=hv 0 us[0] (lT xs) (by simp) rfl;have h1:=hv 1 us[1] (Str sep) (by simp) rfl;have eus:us = #[us[0],us[1]]:=by
   apply Array.ext
   ·simpa using hs
   ·intro i h1 h2
    match i,h1 with
    | 0,_=>rfl
    | 1,_=>rfl
    | i+2,h1=>omega
  have e1:us[1] = .string ⟨sep.toArray⟩:=by
   generalize us[1]=v1 at h1;cases h1 with
   | d _ _ h=>cases h;rfl
  generalize us[0]=v0 at h0 eus;rw [e1] at eus;subst eus;have h0:Repr κ v0 (.sl (cT xs)):=by cases h0 with | d _ _ h=>exact h
  have hnone:∀(a:Option Addr) (c:Nat),xs=[]→v0 = .slice a 0 c→Calls Tryz.prog 95 #[v0,.string ⟨sep.toArray⟩] w fun e w'=>∃v κ' ρ',e = .returned v∧κ.le κ'∧Mem ⟨w,Mof ρ [],κ,0,ρ⟩ κ' ρ' [] w'∧AVR κ' ρ' v (Str (Lib.join xs sep)):=by
   intro a c hx he;subst hx;subst he;refine Calls.mono (Tryz.strings_Join_none a c ⟨sep.toArray⟩ w) ?_;rintro e w' ⟨rfl,rfl⟩;exact ⟨_,κ,ρ,rfl,Know.le_refl _,hm,.d _ _ (.s _)⟩
  rcases repr_sl h0 with ⟨hx,a,cap,he⟩ | ⟨b,off,n,cap,vs,he,hn,hc,hk,hr⟩
  ·exact hnone a cap (by simpa [cT] using hx) he
  ·rw [cT_len] at hn;subst hn;by_cases hx:xs=[]
   ·exact hnone (some ⟨b,off,none⟩) cap hx (by rw [he,hx];rfl)
   ·subst he;have key:∀(j:Nat) (s:List UInt8),xs[j]? = some s→κ b (off+j) (.string ⟨s.toArray⟩):=by
     intro j s hj;have hc0:(cT xs).flatten[j]? = some (.s (.string ⟨s.toArray⟩)):=by rw [cT_flatten,List.getElem?_map,hj];rfl
     have h2:=hk j _ hc0;have h3:=hr j _ hc0;generalize vs j=y at h2 h3;cases h3 with
     | s=>exact h2
    have hbk:b < w.heap.size:=by
     obtain ⟨s,hs0⟩:∃s,xs[0]? = some s:=by cases xs with | nil=>exact absurd rfl hx | cons s r=>exact ⟨s,rfl⟩
     exact hm.known_block (key 0 s hs0)
    have em:(xs.map fun s=>(⟨s.toArray⟩:ByteArray)).map (·.data.toList)=xs:=by simp [Function.comp_def]
    have h:=Tryz.strings_Join b off cap (xs.map fun s=>(⟨s.toArray⟩:ByteArray)) ⟨sep.toArray⟩ w (by
     intro j x hj;rw [List.getElem?_map] at hj;cases hj2:xs[j]? with
     | none=>rw [hj2] at hj;cases hj
     | some s =>
      rw [hj2] at hj;cases hj;exact hm.kn _ _ _ (key j s hj2)) hbk (by simp;omega) (by simpa using hc) (by rw [em];show (Lib.join xs sep).length≤_;omega)
    rw [em,List.length_map] at h;refine Calls.mono h ?_;rintro e w' ⟨rfl,hw⟩;exact ⟨_,κ,ρ,rfl,Know.le_refl _,hm.grew (Grew.below hw),.d _ _ (.s _)⟩
end Go.V
