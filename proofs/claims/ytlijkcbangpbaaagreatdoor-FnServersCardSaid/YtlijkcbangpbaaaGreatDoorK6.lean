/- Part 6: the abstract machine, its soundness, contracts of functions. -/
import Derived.Test.YtlijkcbangpbaaaGreatDoorK5
import Derived.Test.YtlijkcbangpbaaaGreatDoorK3
set_option linter.unusedVariables false
set_option linter.unusedSimpArgs false
namespace Go.V
open Go.Proofs Go.RowKit
set_option maxRecDepth 10000
set_option maxHeartbeats 1000000
abbrev dd (n:Nat):List UInt8:=Lib.decDigits n
theorem dd_small {n:Nat} (h:n < 10):dd n=[UInt8.ofNat (48+n)]:=by rw [dd,Lib.decDigits,dif_pos h]
theorem dd_big {n:Nat} (h:¬n < 10):dd n=dd (n / 10)++[UInt8.ofNat (48+n % 10)]:=by rw [dd,Lib.decDigits,dif_neg h]
theorem dd_ne (n:Nat):dd n≠[]:=by
 by_cases h:n < 10
 ·rw [dd_small h];simp
 ·rw [dd_big h];simp
theorem dd_len_le:∀(k n:Nat),n < 10 ^ (k+1)→(dd n).length≤k+1
 | 0,n,h=>by rw [dd_small (by simpa using h)];simp
 | k+1,n,h=>by
   by_cases h9:n < 10
   ·rw [dd_small h9];simp
   ·rw [dd_big h9,List.length_append,List.length_singleton]
    have:=dd_len_le k (n / 10) (by rw [Nat.pow_succ] at h;omega)
    omega
theorem dd_bl (n:Nat):(dd n).length≤bl n+1:=dd_len_le (bl n) n (by
 have h1:=lt_bl n
 have h2:2 ^ bl n≤10 ^ bl n:=Nat.pow_le_pow_left (by decide) _
 have h3:10 ^ bl n≤10 ^ (bl n+1):=Nat.pow_le_pow_right (by decide) (by omega)
 omega)
def padd (k r:Nat):List UInt8:=List.replicate (k - (dd r).length) 48++dd r
theorem padd_len {k r:Nat} (h:r < 10 ^ (k+1)):(padd (k+1) r).length=k+1:=by
 have:=dd_len_le k r h
 simp only [padd,List.length_append,List.length_replicate];omega
theorem padd_succ {k r:Nat} (h:r < 10 ^ (k+2)):padd (k+2) r=padd (k+1) (r / 10)++[UInt8.ofNat (48+r % 10)]:=by
 by_cases h9:r < 10
 ·have e:r / 10=0:=by omega
  have e2:r % 10=r:=by omega
  rw [e,e2,padd,padd,dd_small h9,dd_small (n:=0) (by decide)];show List.replicate (k+2 - 1) 48++_=(List.replicate (k+1 - 1) 48++[48])++_;rw [show k+2 - 1=k+1 by omega,show k+1 - 1=k by omega,List.replicate_succ',List.append_assoc]
 ·rw [padd,padd,dd_big h9,List.length_append,List.length_singleton,List.append_assoc,show k+2 - ((dd (r / 10)).length+1)=k+1 - (dd (r / 10)).length by omega]
theorem dd_split:∀(k q r:Nat),0 < q→r < 10 ^ (k+1)→dd (q*10 ^ (k+1)+r)=dd q++padd (k+1) r
 | 0,q,r,hq,hr=>by
   have hr:r < 10:=by simpa using hr
   rw [show q*10 ^ (0+1)+r=q*10+r by simp,dd_big (by omega),show (q*10+r) / 10=q by omega,show (q*10+r) % 10=r by omega,padd,dd_small hr]
   rfl
 | k+1,q,r,hq,hr=>by
   have e:q*10 ^ (k+2)+r=(q*10 ^ (k+1))*10+r:=by rw [Nat.pow_succ,Nat.mul_assoc]
   have hp:0 < 10 ^ (k+1):=Nat.pow_pos (by decide);have hq2:1≤q*10 ^ (k+1):=Nat.mul_pos hq hp;rw [e,dd_big (by omega),show (q*10 ^ (k+1)*10+r) / 10=q*10 ^ (k+1)+r / 10 by omega,show (q*10 ^ (k+1)*10+r) % 10=r % 10 by omega,
    dd_split k q (r / 10) hq (by rw [Nat.pow_succ] at hr;omega),padd_succ hr,List.append_assoc]
theorem dd_nine {n:Nat} (h:0 < n / 1000000000):dd n=dd (n / 1000000000)++padd 9 (n % 1000000000):=by
 have:=dd_split 8 (n / 1000000000) (n % 1000000000) h (Nat.mod_lt _ (by decide))
 rw [show n / 1000000000*10 ^ (8+1)+n % 1000000000=n by have:=Nat.div_add_mod n 1000000000;simp only [Nat.reduceAdd,Nat.reducePow];omega] at this
 exact this
theorem dd_one {n:Nat}:dd n=[49]↔n=1:=by
 constructor
 ·intro h;by_cases h9:n < 10
  ·rw [dd_small h9] at h;have h:UInt8.ofNat (48+n)=49:=by simpa using h
   have:=congrArg UInt8.toNat h;rw [UInt8.toNat_ofNat'] at this;have e:(49:UInt8).toNat=49:=rfl;rw [e] at this;omega
  ·rw [dd_big h9] at h;have h5:=congrArg List.length h;rw [List.length_append,List.length_singleton,List.length_singleton] at h5;have:=List.length_pos_iff.2 (dd_ne (n / 10));omega
 ·intro h;rw [h,dd_small (by decide)];rfl
theorem dd_base {r:Nat} (h:r < 1000000000):dd (r+1000000000)=49 :: padd 9 r:=by
 have:=dd_split 8 1 r (by decide) (by simpa using h)
 rw [show 1*10 ^ (8+1)+r=r+1000000000 by simp only [Nat.reduceAdd,Nat.reducePow];omega] at this
 rw [this,dd_one.2 rfl];rfl
theorem itoa_nat (n:Nat):Lib.itoa (n:Int)=dd n:=Lib.itoa_nonneg n
end Go.V
namespace Go.V
open Go.Proofs Go.RowKit
set_option maxRecDepth 10000
set_option maxHeartbeats 1000000
def headT (n:Nat):List UInt8:=if n=0 then [] else dd n
theorem head_step {n:Nat} (h:n≠0):headT (n / 1000000000)++(if n / 1000000000=0 then dd (n % 1000000000) else padd 9 (n % 1000000000))=dd n:=by
 unfold headT
 by_cases h0:n / 1000000000=0
 ·rw [if_pos h0,if_pos h0,List.nil_append,show n % 1000000000=n by omega]
 ·rw [if_neg h0,if_neg h0,←dd_nine (by omega)]
theorem lend_allT {id n:Nat} {l:LL} {xs:List (List UInt8)} (hn:xs.length=n) (h:lget id l = .row true 1 (cT xs)):lend1 l (.ls id 0 n 1) (.d (.sl (cT xs))):=by
 subst hn;have:xs=xs++[]:=by simp
 rw [this] at h;exact lend_wholeT h
theorem join_flat (xs:List (List UInt8)):Lib.join xs []=xs.flatten:=by
 unfold Lib.join
 induction xs with
 | nil=>rfl
 | cons x r ih =>
  cases r with
  | nil=>simp [List.intercalate]
  | cons y r=>simp [List.intercalate,List.intersperse] at ih ⊢;rw [←ih]
theorem bl_part {n:Nat} (h:n≠0):bl (n / 1000000000)+1≤bl n:=by
 have h1:=lt_bl n
 have h0:1≤bl n:=by
  rcases Nat.eq_zero_or_pos (bl n) with e | e
  ·rw [e] at h1;omega
  ·exact e
 have:bl (n / 1000000000)≤bl n - 1:=bl_le (by
  obtain ⟨k,ek⟩:∃k,bl n=k+1:=⟨bl n - 1,by omega⟩
  rw [ek] at h1 ⊢
  rw [Nat.pow_succ] at h1
  show _ < 2 ^ (k+1 - 1)
  rw [Nat.add_sub_cancel];omega)
 omega
theorem fn_text (N:Nat) (hN:bl N≤100000000000):Fn Tryz.prog 78 [nI N] [] (Str (dd N)) []:=by
 refine Fn.intro (ks:=[0,2,3,4,5,6,9,13,24]) hty rfl rfl rfl rfl rfl ?_;conv=>whnf
 rw [cW_len];refine Br.mk (fun h=>?_) (fun h=>?_)
 ·have h:N=0:=by
   have h:(dg B32 N).length=0:=by simpa using h
   exact (dg_len_zero b32).1 h
  conv=>whnf
  refine ⟨?_,trivial,rfl⟩;rw [h,dd_small (by decide)];rfl
 ·have h:N≠0:=by
   intro e;rw [e] at h;simp [dg_zero] at h
  conv=>whnf
  refine VLoop.ren 10 34 rfl ?_;refine VLoop.inv hty (S:=Nat×List (List UInt8)) (fun s=>[(3,.ls 34 0 s.2.length 1),(0,nI s.1)]) (fun s=>[(34,.row true 1 (cT s.2))])
   (fun s=>s.1≤N∧s.1+s.2.length≤N∧headT s.1++s.2.reverse.flatten=dd N∧bl s.1+s.2.length≤bl N) (fun s=>s.1) (N,[]) ⟨Nat.le_refl _,Nat.le_refl _,by simp [headT,h],Nat.le_refl _⟩
   ⟨rfl,rfl,trivial⟩ ⟨rfl,trivial⟩ ?_
  rintro s ⟨h1,h2,h3,h4⟩;conv=>whnf
  rw [cW_len];refine Br.mk (fun h5=>?_) (fun h5=>?_)
  ·have h6:s.1≠0:=by
    intro e;rw [e] at h5;simp [dg_zero] at h5
   have hd:=fn_divSmall s.1 1000000000 (by omega) (by decide) (by decide);have hb:=bl_part h6;have hs:=head_step h6;rw [headT,if_neg h6] at h3;obtain ⟨q,eq⟩:∃q,s.1 / 1000000000=q:=⟨_,rfl⟩;obtain ⟨r,er⟩:∃r,s.1 % 1000000000=r:=⟨_,rfl⟩;have hr:r < 1000000000:=by omega
   have hq:q < s.1:=by omega
   rw [eq] at hd hb hs;rw [er] at hd hs;conv=>whnf
   refine VCall.of_data hd (ndT (fun k=>rfl)) ?_;conv=>whnf
   refine Wr.n64 (n:=r) rfl (by omega) ?_;conv=>whnf
   refine VCall.of_data (fn_FormatUint r (by omega)) (nd _) ?_;conv=>whnf
   rw [cW_len];by_cases hq0:q=0
   ·rw [decide_eq_false (by rw [hq0];simp [dg_zero])];rw [if_pos hq0] at hs;conv=>whnf
    refine Sub.full rfl ?_;conv=>whnf
    refine Sub.full (by rw [cT_len]) ?_;conv=>whnf
    refine ⟨by show (s.2.length+1)*16≤_;omega,?_⟩;conv=>whnf
    exact ⟨(q,s.2++[dd r]),⟨by omega,by show q+(s.2++[dd r]).length≤N;rw [List.length_append,List.length_singleton];omega,by rw [←h3,←hs];simp,by show bl q+(s.2++[dd r]).length≤bl N;rw [List.length_append,List.length_singleton];omega⟩,hq,⟨by show AV.ls 34 0 (s.2.length+1) 1=AV.ls 34 0 (s.2++[dd r]).length 1;rw [List.length_append,List.length_singleton],rfl,trivial⟩,by show Ob.row true 1 (cT s.2++cT [dd r])=_;rw [cT_append],trivial⟩
   ·rw [decide_eq_true (by have:=dg_len_zero b32 (n:=q);omega)];rw [if_neg hq0] at hs;have hdl:=dd_len_le 8 r (by simpa using hr);obtain ⟨z,ez⟩:∃z:Nat,9 - (dd r).length=z:=⟨_,rfl⟩;conv=>whnf
    refine Wr.i64 (y:=(z:Int)) (by show (9:Int) - ((⟨(dd r).toArray⟩:ByteArray).size:Int)=z;rw [bsize];omega) (by omega) (by omega) ?_;conv=>whnf
    refine VCall.of_data (fn_Repeat [48] z (by omega) (by simp)) (nd _) ?_;rw [repeat_one];conv=>whnf
    have ep:List.replicate z 48++dd r=padd 9 r:=by rw [padd,ez]
    refine ⟨by rw [bsize,bsize,List.length_replicate];show z+(dd r).length < 2 ^ 62;omega,?_⟩;rw [show (⟨(List.replicate z 48).toArray⟩:ByteArray)++⟨(Lib.decDigits r).toArray⟩=⟨(padd 9 r).toArray⟩ by rw [←ep];apply ByteArray.ext;simp];conv=>whnf
    refine Sub.full rfl ?_;conv=>whnf
    refine Sub.full (by rw [cT_len]) ?_;conv=>whnf
    refine ⟨by show (s.2.length+1)*16≤_;omega,?_⟩;conv=>whnf
    exact ⟨(q,s.2++[padd 9 r]),⟨by omega,by show q+(s.2++[padd 9 r]).length≤N;rw [List.length_append,List.length_singleton];omega,by rw [←h3,←hs];simp,by show bl q+(s.2++[padd 9 r]).length≤bl N;rw [List.length_append,List.length_singleton];omega⟩,hq,⟨by show AV.ls 34 0 (s.2.length+1) 1=AV.ls 34 0 (s.2++[padd 9 r]).length 1;rw [List.length_append,List.length_singleton],rfl,trivial⟩,by show Ob.row true 1 (cT s.2++cT [padd 9 r])=_;rw [cT_append],trivial⟩
  ·have h6:s.1=0:=by
    have h6:(dg B32 s.1).length=0:=by simpa using h5
    exact (dg_len_zero b32).1 h6
   have h3:s.2.reverse.flatten=dd N:=by rw [←h3,h6];rfl
   have hl:s.2.length≤100000000000:=by omega
   have hjl:(Lib.join s.2.reverse []).length≤1000000000000:=by rw [join_flat,h3];have:=dd_bl N;omega
   conv=>whnf
   refine VCall.par1u 34 (fn_Reverse s.2 (by omega)) ⟨⟨rfl,rfl,rfl,rfl⟩,trivial⟩ rfl ?_;conv=>whnf
   refine VCall.lend (fn_Join s.2.reverse [] (by rw [List.length_reverse];omega) hjl) ⟨lend_allT (by rw [List.length_reverse]) rfl,rfl,trivial⟩ rfl ?_;rw [join_flat,h3];conv=>whnf
   exact ⟨rfl,trivial,rfl⟩
end Go.V
namespace Go.V
open Go.Proofs Go.RowKit
set_option maxRecDepth 10000
set_option maxHeartbeats 1000000
def ratT (q:Rat):List UInt8:=((if ng q then [45] else [])++dd (tp q))++(if q.den=1 then [] else 47 :: dd q.den)
def fitsQ (q:Rat):Bool:=decide ((dd (tp q)).length≤200) && decide ((dd q.den).length≤200)
theorem baeq (b c:List UInt8):((⟨b.toArray⟩:ByteArray).toList == (⟨c.toArray⟩:ByteArray).toList)=decide (b=c):=by
 rw [Bool.eq_iff_iff];simp
theorem le200 (a:List UInt8):decide (((⟨a.toArray⟩:ByteArray).size:Int)≤200)=decide (a.length≤200):=by
 rw [bsize];congr 1;simp;omega
theorem cat2 (a b:List UInt8):(⟨a.toArray⟩:ByteArray)++⟨b.toArray⟩=⟨(a++b).toArray⟩:=by apply ByteArray.ext;simp
theorem cat1 (c:UInt8) (b:List UInt8):(⟨#[c]⟩:ByteArray)++⟨b.toArray⟩=⟨(c :: b).toArray⟩:=cat2 [c] b
theorem fn_ratText (q:Rat) (hs:sz q≤100000000000):Fn Tryz.prog 54 [rI q] [] (.tup [Str (ratT q),B (fitsQ q)]) []:=by
 have c1:=fn_text (tp q) (Nat.le_trans (bl_tp q) hs)
 have c2:=fn_text q.den (Nat.le_trans (bl_den q) hs)
 have l1:(dd (tp q)).length≤100000000001:=Nat.le_trans (dd_bl _) (by have:=bl_tp q;omega)
 have l2:(dd q.den).length≤100000000001:=Nat.le_trans (dd_bl _) (by have:=bl_den q;omega)
 have ho:=dd_one (n:=q.den)
 unfold ratT fitsQ
 generalize dd (tp q)=a at c1 l1 ⊢
 generalize hb:dd q.den=b at c2 l2 ho ⊢
 refine Fn.intro (ks:=[0,1,2,3,4,5,6,15,19]) hty rfl rfl rfl rfl rfl ?_
 conv=>whnf
 refine VDraw.go hmo hty 8 [] rfl ?_
 conv=>whnf
 refine QCall.of_data c1 (nd _) ?_
 conv=>whnf
 refine QCall.of_data c2 (nd _) ?_
 conv=>whnf
 refine Br.mk (fun h=>?_) (fun h=>?_)
 ·rw [h]
  conv=>whnf
  refine ⟨by rw [bsize];show 1+a.length < 2 ^ 62;omega,?_⟩
  rw [cat1]
  conv=>whnf
  rw [show ((⟨b.toArray⟩:ByteArray).toList == (⟨#[49]⟩:ByteArray).toList)=decide (b=[49]) from baeq b [49]]
  by_cases h1:q.den=1
  ·rw [decide_eq_true (ho.2 h1)]
   rw [if_pos h1]
   conv=>whnf
   rw [le200 a]
   cases hA:decide (a.length≤200)
   ·conv=>whnf
    exact ⟨by simp,rfl,trivial,rfl⟩
   ·conv=>whnf
    rw [le200 b]
    cases hB:decide (b.length≤200)
    ·conv=>whnf
     exact ⟨by simp,rfl,trivial,rfl⟩
    ·conv=>whnf
     exact ⟨by simp,rfl,trivial,rfl⟩
  ·rw [decide_eq_false (fun e=>h1 (ho.1 e))]
   rw [if_neg h1]
   conv=>whnf
   refine ⟨by rw [bsize];show 1+b.length < 2 ^ 62;omega,?_⟩
   rw [cat1]
   conv=>whnf
   refine ⟨by rw [bsize,bsize];show (45 :: a).length+(b.length+1) < 2 ^ 62;simp;omega,?_⟩
   rw [cat2]
   conv=>whnf
   rw [le200 a]
   cases hA:decide (a.length≤200)
   ·conv=>whnf
    exact ⟨by simp,rfl,trivial,rfl⟩
   ·conv=>whnf
    rw [le200 b]
    cases hB:decide (b.length≤200)
    ·conv=>whnf
     exact ⟨by simp,rfl,trivial,rfl⟩
    ·conv=>whnf
     exact ⟨by simp,rfl,trivial,rfl⟩
 ·rw [h]
  conv=>whnf
  rw [show ((⟨b.toArray⟩:ByteArray).toList == (⟨#[49]⟩:ByteArray).toList)=decide (b=[49]) from baeq b [49]]
  by_cases h1:q.den=1
  ·rw [decide_eq_true (ho.2 h1)]
   rw [if_pos h1]
   conv=>whnf
   rw [le200 a]
   cases hA:decide (a.length≤200)
   ·conv=>whnf
    exact ⟨by simp,rfl,trivial,rfl⟩
   ·conv=>whnf
    rw [le200 b]
    cases hB:decide (b.length≤200)
    ·conv=>whnf
     exact ⟨by simp,rfl,trivial,rfl⟩
    ·conv=>whnf
     exact ⟨by simp,rfl,trivial,rfl⟩
  ·rw [decide_eq_false (fun e=>h1 (ho.1 e))]
   rw [if_neg h1]
   conv=>whnf
   refine ⟨by rw [bsize];show 1+b.length < 2 ^ 62;omega,?_⟩
   rw [cat1]
   conv=>whnf
   refine ⟨by rw [bsize,bsize];show (a).length+(b.length+1) < 2 ^ 62;simp;omega,?_⟩
   rw [cat2]
   conv=>whnf
   rw [le200 a]
   cases hA:decide (a.length≤200)
   ·conv=>whnf
    exact ⟨by simp,rfl,trivial,rfl⟩
   ·conv=>whnf
    rw [le200 b]
    cases hB:decide (b.length≤200)
    ·conv=>whnf
     exact ⟨by simp,rfl,trivial,rfl⟩
    ·conv=>whnf
     exact ⟨by simp,rfl,trivial,rfl⟩
end Go.V
namespace Go.V
open Go.Proofs Go.RowKit
set_option maxRecDepth 10000
set_option maxHeartbeats 1000000
def toldT (q:Rat):List UInt8:=if fitsQ q then ratT q else []
theorem fn_told (q:Rat) (hs:sz q≤100000000000):Fn Tryz.prog 29 [rI q] [] (.tup [Str (toldT q),B (fitsQ q)]) []:=by
 have c:=fn_ratText q hs
 unfold toldT
 refine Fn.intro (ks:=[0,1,2,3,4,5,12]) hty rfl rfl rfl rfl rfl ?_
 conv=>whnf
 refine VCall.of_data c (ndT (fun k=>rfl)) ?_
 conv=>whnf
 cases fitsQ q
 ·conv=>whnf
  exact ⟨rfl,rfl,trivial,rfl⟩
 ·conv=>whnf
  exact ⟨rfl,rfl,trivial,rfl⟩
def toldTs (qs:List Rat):Option (List (List UInt8)):=if qs.all fitsQ then some (qs.map ratT) else none
def ansT:Option (List (List UInt8))→AV×LL
 | some ts=>(.tup [.ls 0 0 ts.length 1,B true],[(0,.row true 1 (cT ts))])
 | none=>(.tup [.d (.sl []),B false],[])
theorem fn_toldList (qs:List Rat) (hl:qs.length≤1000000) (hs:∀q,q∈qs→sz q≤100000000000):Fn Tryz.prog 50 [lQ qs] [] (ansT (toldTs qs)).1 (ansT (toldTs qs)).2:=by
 refine Fn.intro (ks:=[0,2,3,4,6,7,8,10,11,12,13,22]) hty rfl rfl rfl rfl rfl ?_;conv=>whnf
 refine VLoop.ren 9 26 rfl ?_;refine VLoop.inv hty (S:=Nat) (fun k=>[(12,I k),(11,I qs.length),(10,lQ qs),(4,.ls 26 0 k 1)]) (fun k=>[(26,.row true 1 (cT ((qs.take k).map ratT)))]) (fun k=>k≤qs.length∧(qs.take k).all fitsQ=true) (fun k=>qs.length - k) 0 ⟨Nat.zero_le _,rfl⟩
  ⟨rfl,by show AV.d (.s (.int .i64 ((cQ qs).length:Int)))=_;rw [cQ_len],rfl,rfl,trivial⟩ ⟨rfl,trivial⟩ ?_
 rintro k ⟨hk,hp⟩;conv=>whnf
 refine Br.mk (fun h=>?_) (fun h=>?_)
 ·have h:k < qs.length:=by simp only [decide_eq_true_eq] at h;omega
  obtain ⟨q,eq⟩:∃q,qs.getD k 0=q:=⟨_,rfl⟩;have hqm:q∈qs:=by rw [←eq,gD,List.getElem?_eq_getElem h];exact List.getElem_mem h
  have et:qs.take (k+1)=qs.take k++[q]:=by rw [List.take_succ_eq_append_getElem h];subst eq;rw [gD,List.getElem?_eq_getElem h];rfl
  have c:=fn_ratText q (hs q hqm);conv=>whnf
  refine ⟨⟨⟨by omega,by rw [cQ_len];omega⟩,cQ_sz _⟩,?_⟩;conv=>whnf
  refine ⟨_,cQ_as (x:=q) h eq,?_⟩;conv=>whnf
  refine VCall.of_data c (ndT (fun k=>rfl)) ?_;conv=>whnf
  cases hf:fitsQ q
  ·have hall:¬(qs.all fitsQ=true):=fun ha=>by rw [List.all_eq_true.1 ha q hqm] at hf;cases hf
   rw [toldTs,if_neg hall];conv=>whnf
   first | exact ⟨rfl,trivial,rfl⟩ | exact ⟨rfl,rfl,trivial,rfl⟩
  ·conv=>whnf
   refine Sub.full rfl ?_;conv=>whnf
   refine Sub.full (by rw [cT_len,List.length_map,List.length_take];omega) ?_;conv=>whnf
   refine ⟨by show (k+1)*16≤_;omega,?_⟩;conv=>whnf
   refine Wr.i64 (y:=((k+1:Nat):Int)) rfl (by omega) (by omega) ?_;conv=>whnf
   exact ⟨k+1,⟨by omega,by rw [et,List.all_append,hp];simp [hf]⟩,by omega,⟨rfl,rfl,rfl,rfl,trivial⟩,by show Ob.row true 1 (cT ((qs.take k).map ratT)++cT [ratT q])=_;rw [cT_append,et,List.map_append];rfl,trivial⟩
 ·have h:k=qs.length:=by simp only [decide_eq_false_iff_not] at h;omega
  rw [h,List.take_length] at hp;rw [toldTs,if_pos hp,h,List.take_length];conv=>whnf
  exact ⟨⟨rfl,rfl,rfl,rfl,by rw [List.length_map],rfl⟩,[],rfl,rfl,trivial,rfl⟩
end Go.V
namespace Go.V
open Go.Proofs Go.RowKit
set_option maxRecDepth 10000
set_option maxHeartbeats 1000000
def tab (n:Nat) (f:Nat→Rat):List Rat:=(List.range n).map f
theorem tab_len (n:Nat) (f:Nat→Rat):(tab n f).length=n:=by simp [tab]
theorem tab_at {n:Nat} {f:Nat→Rat} {k:Nat} (h:k < n):(tab n f).getD k 0=f k:=by
 rw [gD,List.getElem?_eq_getElem (by rw [tab_len];exact h)];simp [tab]
theorem tab_mem {n:Nat} {f:Nat→Rat} {q:Rat} (h:q∈tab n f):∃k,k < n∧q=f k:=by
 obtain ⟨k,hk,rfl⟩:=List.mem_map.1 h;exact ⟨k,by simpa using hk,rfl⟩
theorem psum_tab {n:Nat} {f:Nat→Rat} {i:Nat} (h:i < n):psum (tab n f) (i+1)=psum (tab n f) i+f i:=by rw [←tab_at (f:=f) h];rfl
theorem rsum_tab (n:Nat) (f:Nat→Rat):rsum (tab n f)=psum (tab n f) n:=by show psum _ (tab n f).length=_;rw [tab_len]
theorem sz_tab {n:Nat} {f:Nat→Rat} {m:Nat} (h:∀k,k < n→sz (f k)≤m) (h1:1≤m) (i:Nat) (hi:i≤n):sz (psum (tab n f) i)≤n*(m+1)+1:=by
 have h2:=sz_psum (xs:=tab n f) (m:=m) (fun q hq=>by obtain ⟨k,hk,rfl⟩:=tab_mem hq;exact h k hk) h1 i
 have h3:i*(m+1)≤n*(m+1):=Nat.mul_le_mul_right _ hi
 omega
theorem mul_le {n a m b:Nat} (h:n≤a) (h':m≤b):n*m≤a*b:=Nat.mul_le_mul h h'
structure LineOk (x y:List Rat):Prop where
 n1:1≤x.length
 n2:x.length≤20
 eq:y.length=x.length
 px:∀q,q∈x→0 < q
 py:∀q,q∈y→0 < q
 sx:∀q,q∈x→sz q≤800
 sy:∀q,q∈y→sz q≤800
def lineQ (us ds:List (List UInt8)):Option (List Rat×List Rat) :=
 if us.length < 1∨20 < us.length∨ds.length≠us.length then none else
 match rdRats us,rdRats ds with
 | some x,some y=>if (x.any fun q=>decide (q≤0)) || (y.any fun q=>decide (q≤0)) then none else some (x,y)
 | _,_=>none
theorem lineQ_ok {us ds:List (List UInt8)} {x y:List Rat} (h:lineQ us ds=some (x,y)):LineOk x y:=by
 unfold lineQ at h
 split at h
 ·cases h
 ·next hl =>
  split at h
  ·next a b ha hb =>
   split at h
   ·cases h
   ·next hp =>
    simp only [Option.some.injEq,Prod.mk.injEq] at h
    obtain ⟨rfl,rfl⟩:=h
    obtain ⟨a1,a2,a3⟩:=rdRats_sz ha
    obtain ⟨b1,b2,b3⟩:=rdRats_sz hb
    simp only [Bool.or_eq_true,List.any_eq_true,decide_eq_true_eq,not_or,not_exists,not_and,Rat.not_le] at hp
    exact ⟨by omega,by omega,by omega,fun q hq=>hp.1 q hq,fun q hq=>hp.2 q hq,a3,b3⟩
  ·cases h
abbrev lnI (us ds:List (List UInt8)):AV:=.ag [lT us,lT ds]
abbrev lqI (x y:List Rat):AV:=.ag [lQ x,lQ y]
theorem lineQ_none {us ds:List (List UInt8)} (h:us.length < 1∨20 < us.length∨ds.length≠us.length):lineQ us ds=none:=if_pos h
theorem lineQ_none1 {us ds:List (List UInt8)} (h:rdRats us=none):lineQ us ds=none:=by unfold lineQ;rw [h];split <;> rfl
theorem lineQ_none2 {us ds:List (List UInt8)} (h:rdRats ds=none):lineQ us ds=none:=by unfold lineQ;rw [h];split;rfl;cases rdRats us <;> rfl
theorem lineQ_at {us ds:List (List UInt8)} {x y:List Rat} (hl:¬(us.length < 1∨20 < us.length∨ds.length≠us.length)) (ha:rdRats us=some x) (hb:rdRats ds=some y) :
  lineQ us ds=if (x.any fun q=>decide (q≤0)) || (y.any fun q=>decide (q≤0)) then none else some (x,y):=by
 unfold lineQ;rw [if_neg hl,ha,hb]
theorem notPlus_eq (q:Rat):decide (sgI q≤0)=decide (q≤0):=by
 have:=@sgI_pos q
 by_cases h:0 < q
 ·rw [decide_eq_false (by have:=this.2 h;omega),decide_eq_false (by grind)]
 ·rw [decide_eq_true (by have h2:¬0 < sgI q:=(fun h3=>h (this.1 h3));omega),decide_eq_true (by grind)]
theorem fn_lineOf (us ds:List (List UInt8)) (hu:us.length≤1000000) (hd:ds.length≤1000000) (su:∀x,x∈us→x.length≤1000000) (sd:∀x,x∈ds→x.length≤1000000) :
  Fn Tryz.prog 46 [lnI us ds] [] (.tup [lqI ((lineQ us ds).getD ([],[])).1 ((lineQ us ds).getD ([],[])).2,B (lineQ us ds).isSome]) []:=by
 have c1:=fn_rats us (by omega) (fun x hx=>by have:=su x hx;omega);have c2:=fn_rats ds (by omega) (fun x hx=>by have:=sd x hx;omega);refine Fn.intro (ks:=[0,1,2,3,4,5,6,7,26,53]) hty rfl rfl rfl rfl rfl ?_;by_cases h1:us.length < 1
 ·rw [lineQ_none (.inl h1)];conv=>whnf
  rw [cT_len,decide_eq_true (by omega)];conv=>whnf
  exact ⟨rfl,trivial,rfl⟩
 by_cases h2:20 < us.length
 ·rw [lineQ_none (.inr (.inl h2))];conv=>whnf
  rw [cT_len,decide_eq_false (by omega)];conv=>whnf
  rw [cT_len,decide_eq_true (by omega)];conv=>whnf
  exact ⟨rfl,trivial,rfl⟩
 by_cases h3:ds.length=us.length
 case neg =>
  rw [lineQ_none (.inr (.inr h3))];conv=>whnf
  rw [cT_len,decide_eq_false (by omega)];conv=>whnf
  rw [cT_len,decide_eq_false (by omega)];conv=>whnf
  rw [cT_len,cT_len,decide_eq_false (by omega)];conv=>whnf
  exact ⟨rfl,trivial,rfl⟩
 have hl:¬(us.length < 1∨20 < us.length∨ds.length≠us.length):=by omega
 have n1:decide ((us.length:Int) < 1)=false:=decide_eq_false (by omega);have n2:decide (20 < (us.length:Int))=false:=decide_eq_false (by omega);have n3:decide ((ds.length:Int)=(us.length:Int))=true:=decide_eq_true (by omega);cases ha:rdRats us with
 | none =>
  rw [ha] at c1;rw [lineQ_none1 ha];conv=>whnf
  rw [cT_len,n1];conv=>whnf
  rw [cT_len,n2];conv=>whnf
  rw [cT_len,cT_len,n3];conv=>whnf
  refine VCall.of_data c1 (ndT (fun k=>rfl)) ?_;conv=>whnf
  refine VCall.of_data c2 (ndT (fun k=>rfl)) ?_;conv=>whnf
  exact ⟨rfl,trivial,rfl⟩
 | some x =>
  replace c1:Fn Tryz.prog 68 [lT us] [] (.tup [lQ x,B true]) []:=by rw [ha] at c1;exact c1
  cases hb:rdRats ds with
  | none =>
   rw [hb] at c2;rw [lineQ_none2 hb];conv=>whnf
   rw [cT_len,n1];conv=>whnf
   rw [cT_len,n2];conv=>whnf
   rw [cT_len,cT_len,n3];conv=>whnf
   refine VCall.of_data c1 (ndT (fun k=>rfl)) ?_;conv=>whnf
   refine VCall.of_data c2 (ndT (fun k=>rfl)) ?_;conv=>whnf
   exact ⟨rfl,trivial,rfl⟩
  | some y =>
   replace c2:Fn Tryz.prog 68 [lT ds] [] (.tup [lQ y,B true]) []:=by rw [hb] at c2;exact c2
   obtain ⟨a1,a2,a3⟩:=rdRats_sz ha;obtain ⟨b1,b2,b3⟩:=rdRats_sz hb;have k1:=fn_containsQ 70 (fun q=>decide (q≤0)) x (by omega) (fun q hq=>by
    have:=fn_notPlus q (by have:=a3 q hq;omega);rwa [notPlus_eq] at this)
   have k2:=fn_containsQ 70 (fun q=>decide (q≤0)) y (by omega) (fun q hq=>by
    have:=fn_notPlus q (by have:=b3 q hq;omega);rwa [notPlus_eq] at this)
   have e:=lineQ_at hl ha hb;generalize x.any (fun q=>decide (q≤0))=p1 at k1 e;generalize y.any (fun q=>decide (q≤0))=p2 at k2 e;rw [e];conv=>whnf
   rw [cT_len,n1];conv=>whnf
   rw [cT_len,n2];conv=>whnf
   rw [cT_len,cT_len,n3];conv=>whnf
   refine VCall.of_data c1 (ndT (fun k=>rfl)) ?_;conv=>whnf
   refine VCall.of_data c2 (ndT (fun k=>rfl)) ?_;conv=>whnf
   refine VCall.of_data k1 (nd _) ?_;cases p1
   ·conv=>whnf
    refine VCall.of_data k2 (nd _) ?_;cases p2
    ·conv=>whnf
     exact ⟨rfl,rfl,rfl,trivial,rfl⟩
    ·conv=>whnf
     exact ⟨rfl,trivial,rfl⟩
   ·conv=>whnf
    exact ⟨rfl,trivial,rfl⟩
def wtQ (x y:List Rat):Nat→Rat
 | 0=>1
 | n+1=>wtQ x y n*x.getD n 0 / y.getD n 0
def wtL (x y:List Rat) (n:Nat):List Rat:=tab n (wtQ x y)
theorem wtL_len (x y:List Rat) (n:Nat):(wtL x y n).length=n:=tab_len _ _
theorem wtL_succ (x y:List Rat) (n:Nat):wtL x y (n+1)=wtL x y n++[wtQ x y n]:=by simp [wtL,tab,List.range_succ]
theorem wtL_at (x y:List Rat) {n k:Nat} (h:k < n):(wtL x y n).getD k 0=wtQ x y k:=tab_at h
theorem getD_pos {x:List Rat} (h:∀q,q∈x→0 < q) {i:Nat} (hi:i < x.length):0 < x.getD i 0:=by
 rw [gD,List.getElem?_eq_getElem hi];exact h _ (List.getElem_mem hi)
theorem wtQ_pos {x y:List Rat} (h:LineOk x y):∀n,n≤x.length→0 < wtQ x y n
 | 0,_=>by show (0:Rat) < 1;decide
 | n+1,hn=>q_div_pos (Rat.mul_pos (wtQ_pos h n (by omega)) (getD_pos h.px (by omega))) (getD_pos h.py (by rw [h.eq];omega))
theorem wtQ_sz {x y:List Rat} (h:LineOk x y):∀n,n≤x.length→sz (wtQ x y n)≤n*1600+1
 | 0,_=>by show sz (1:Rat)≤_;rw [sz_one];omega
 | n+1,hn=>by
   have h1:=wtQ_sz h n (by omega)
   have h2:=getD_sz h.sx n (by decide)
   have h3:=getD_sz h.sy n (by decide)
   have h4:=getD_pos h.py (i:=n) (by rw [h.eq];omega)
   have h5:=sz_mul (wtQ x y n) (x.getD n 0)
   have h6:=sz_div (wtQ x y n*x.getD n 0) (b:=y.getD n 0) (by grind)
   show sz (wtQ x y n*x.getD n 0 / y.getD n 0)≤_
   omega
theorem psum_pos {xs:List Rat} (h:∀q,q∈xs→0 < q):∀i,i≤xs.length→0 < i→0 < psum xs i
 | 0,_,h0=>by omega
 | i+1,hi,_=>by
   have h1:=getD_pos h (i:=i) (by omega)
   show 0 < psum xs i+xs.getD i 0
   by_cases h2:i=0
   ·subst h2;show (0:Rat) < 0+_;grind
   ·have:=psum_pos h i (by omega) (by omega);grind
def shQ (x y:List Rat):List Rat:=(wtL x y (x.length+1)).map (· / rsum (wtL x y (x.length+1)))
theorem shQ_len (x y:List Rat):(shQ x y).length=x.length+1:=by simp [shQ,wtL_len]
theorem wtL_mem {x y:List Rat} {n:Nat} {q:Rat} (h:q∈wtL x y n):∃k,k < n∧q=wtQ x y k:=tab_mem h
theorem wtL_sz {x y:List Rat} (h:LineOk x y):∀q,q∈wtL x y (x.length+1)→sz q≤32001:=by
 intro q hq
 obtain ⟨k,hk,rfl⟩:=wtL_mem hq
 have:=wtQ_sz h k (by omega)
 have:=h.n2
 omega
theorem wt_sum_pos {x y:List Rat} (h:LineOk x y):0 < rsum (wtL x y (x.length+1)):=psum_pos (fun q hq=>by
 obtain ⟨k,hk,rfl⟩:=wtL_mem hq;exact wtQ_pos h k (by omega)) _ (Nat.le_refl _) (by rw [wtL_len];omega)
theorem wt_sum_sz {x y:List Rat} (h:LineOk x y):sz (rsum (wtL x y (x.length+1)))≤700000:=by
 have h1:=sz_psum (wtL_sz h) (by decide) (x.length+1)
 have h2:=h.n2
 have h3:(x.length+1)*(32001+1)≤21*32002:=Nat.mul_le_mul_right _ (by omega)
 show sz (psum _ (wtL x y (x.length+1)).length)≤_
 rw [wtL_len]
 omega
theorem shQ_sz {x y:List Rat} (h:LineOk x y):∀q,q∈shQ x y→sz q≤800000:=by
 intro q hq
 obtain ⟨w,hw,rfl⟩:=List.mem_map.1 hq
 have h1:=wtL_sz h w hw
 have h2:=wt_sum_sz h
 have h3:=wt_sum_pos h
 have h4:=sz_div w (b:=rsum (wtL x y (x.length+1))) (by grind)
 omega
theorem fn_top (x y:List Rat):Fn Tryz.prog 28 [lqI x y] [] (I x.length) []:=by
 refine Fn.intro (ks:=[0,1,2]) hty rfl rfl rfl rfl rfl ?_
 conv=>whnf
 exact ⟨by rw [cQ_len],trivial,rfl⟩
theorem wtL_szAll {x y:List Rat} (h:LineOk x y) (k:Nat) (hk:k≤x.length):sz (wtQ x y k)≤32001:=by
 have:=wtQ_sz h k hk
 have:=h.n2
 omega
theorem fn_shares (x y:List Rat) (h:LineOk x y):Fn Tryz.prog 27 [lqI x y] [] (lQ (shQ x y)) []:=by
 have hl1:=h.n2;have hl2:=h.eq;have hws:=wt_sum_sz h;have hwp:=wt_sum_pos h;have hwl:=wtL_sz h;refine Fn.intro (ks:=[0,1,2,3,4,9,10,11]) hty rfl rfl rfl rfl rfl ?_;conv=>whnf
 refine VCall.of_data (fn_whole 1 (by decide) (by decide)) (ndA fun k=>rfl) ?_;conv=>whnf
 refine VLoop.ren 6 31 rfl ?_;refine VLoop.inv hty (S:=Nat) (fun n=>[(10,I (n:Nat)),(9,I x.length),(3,.ls 31 0 (n+1) 3),(1,.lp 1 0)]) (fun n=>[(31,.row true 3 (cQ (wtL x y (n+1)))),(1,.box true [lQ x,lQ y])])
  (fun n=>n≤x.length) (fun n=>x.length - n) 0 (Nat.zero_le _) ⟨rfl,by show I ((cQ x).length:Nat)=_;rw [cQ_len],rfl,rfl,trivial⟩ ⟨rfl,rfl,trivial⟩ ?_
 intro n hn;have hll:=wtL_len x y (n+1);conv=>whnf
 refine Br.mk (fun h2=>?_) (fun h2=>?_)
 ·have h2:n < x.length:=by simp only [decide_eq_true_eq] at h2;omega
  have hg:=wtL_at x y (n:=n+1) (k:=n) (by omega);have hs:=wtL_szAll h n (by omega);have hlc:=wtL_succ x y (n+1);have enext:wtQ x y (n+1)=wtQ x y n*x.getD n 0 / y.getD n 0:=rfl;have sa:=getD_sz h.sx n (by decide);have sb:=getD_sz h.sy n (by decide);have hb:=getD_pos h.py (i:=n) (by omega);obtain ⟨w,ew⟩:∃w,wtQ x y n=w:=⟨_,rfl⟩;obtain ⟨a,ea⟩:∃a,x.getD n 0=a:=⟨_,rfl⟩;obtain ⟨b,eb⟩:∃b,y.getD n 0=b:=⟨_,rfl⟩;rw [ew] at hg hs enext;rw [ea] at sa enext;rw [eb] at sb hb enext;have cm:=fn_rmul w a (by omega) (by omega);have sm:=sz_mul w a;obtain ⟨p,ep⟩:∃p,w*a=p:=⟨_,rfl⟩;rw [ep] at cm sm enext;have co:=fn_rover p b (by omega) (by omega) (by grind);rw [←enext] at co;conv=>whnf
  refine VDraw.go hmo hty 18 [[30],[30],[30],[30],[30],[30],[30],[30],[30],[30],[30],[30],[30],[30],[30],[30],[30],[]] rfl ?_;conv=>whnf
  refine ⟨by omega,?_⟩;conv=>whnf
  refine ⟨_,cQ_as (x:=w) (by omega) hg,?_⟩;conv=>whnf
  refine ⟨⟨⟨by omega,by rw [cQ_len];omega⟩,cQ_sz _⟩,?_⟩;conv=>whnf
  refine ⟨_,cQ_as (x:=a) h2 ea,?_⟩;conv=>whnf
  refine QCall.of_data cm (ndA fun k=>rfl) ?_;conv=>whnf
  refine ⟨⟨⟨by omega,by rw [cQ_len];omega⟩,cQ_sz _⟩,?_⟩;conv=>whnf
  refine ⟨_,cQ_as (x:=b) (by omega) eb,?_⟩;conv=>whnf
  refine QCall.of_data co (ndA fun k=>rfl) ?_;conv=>whnf
  refine Sub.full rfl ?_;conv=>whnf
  refine Sub.full (by rw [cQ_len,hll]) ?_;conv=>whnf
  refine ⟨by show (n+1+1)*56≤_;omega,?_⟩;conv=>whnf
  refine Wr.i64 (y:=((n+1:Nat):Int)) rfl (by omega) (by omega) ?_;conv=>whnf
  refine ⟨n+1,h2,by show x.length - (n+1) < x.length - n;omega,⟨rfl,rfl,rfl,rfl,trivial⟩,?_,rfl,trivial⟩;show Ob.row true 3 (cQ _++cQ [wtQ x y (n+1)])=_;rw [cQ_append,hlc]
 ·have h2:n=x.length:=by simp only [decide_eq_false_iff_not] at h2;omega
  subst h2;have ct:=fn_sum (wtL x y (x.length+1)) 32001 hwl (by decide) (by omega) (by rw [hll];exact Nat.le_trans (Nat.add_le_add_right (Nat.add_le_add_right (mul_le (Nat.succ_le_succ hl1) (Nat.le_refl _)) _) _) (by decide));have cs:=(fn_scaled (wtL x y (x.length+1)) (rsum (wtL x y (x.length+1))) 32001 (by grind) hwl (by decide) (by decide) (by omega) (by omega)).freeze (by rw [cQ_len,List.length_map];exact Nat.le_refl _);rw [List.drop_zero,List.take_of_length_le (by rw [cQ_len,List.length_map];exact Nat.le_refl _)] at cs;conv=>whnf
  refine VCall.frzD 31 (n:=x.length+1) (sz:=3) (D:=cQ (wtL x y (x.length+1))) ⟨rfl,rfl⟩ (by rw [cQ_len,hll]) (by repeat first | exact trivial | refine ⟨⟨rfl,rfl,rfl⟩,?_⟩) ⟨⟨rfl,rfl,rfl⟩,trivial⟩ ?_;refine VCall.of_data ct (ndA fun k=>rfl) ?_;conv=>whnf
  refine VCall.of_data cs (nd _) ?_;conv=>whnf
  exact ⟨rfl,trivial,rfl⟩
def momQ (xs:List Rat) (n:Nat):Rat:=rsum (tab xs.length fun k=>xs.getD k 0*(((k:Nat):Int):Rat) ^ n)
theorem mom_sz {xs:List Rat} {m:Nat} (h:∀q,q∈xs→sz q≤m) (h1:1≤m) (hl:xs.length≤1000) {n:Nat} (hn:n≤10) (i:Nat) (hi:i≤xs.length) :
  sz (psum (tab xs.length fun k=>xs.getD k 0*(((k:Nat):Int):Rat) ^ n) i)≤1000*(m+202)+1:=by
 refine Nat.le_trans (sz_tab (m:=m+201) (fun k hk=>?_) (by omega) i hi) (Nat.succ_le_succ (mul_le hl (Nat.le_refl _)))
 have s1:=getD_sz h k h1
 have s2:=sz_pow (((k:Nat):Int):Rat) n
 have s3:=sz_nat (n:=k) (by omega)
 have s4:n*sz (((k:Nat):Int):Rat)≤10*20:=mul_le hn s3
 have s5:=sz_mul (xs.getD k 0) ((((k:Nat):Int):Rat) ^ n)
 omega
theorem fn_moment (xs:List Rat) (n m:Nat) (h:∀q,q∈xs→sz q≤m) (h1:1≤m) (hl:xs.length≤1000) (hn:n≤10) (hm:m≤1000000):Fn Tryz.prog 62 [lQ xs,I n] [] (rI (momQ xs n)) []:=by
 have hsz:=mom_sz h h1 hl hn;have e0:momQ xs n=psum (tab xs.length fun k=>xs.getD k 0*(((k:Nat):Int):Rat) ^ n) xs.length:=rsum_tab _ _;have est:∀i,i < xs.length→psum (tab xs.length fun k=>xs.getD k 0*(((k:Nat):Int):Rat) ^ n) (i+1)=psum (tab xs.length fun k=>xs.getD k 0*(((k:Nat):Int):Rat) ^ n) i+xs.getD i 0*(((i:Nat):Int):Rat) ^ n:=fun i hi=>psum_tab hi;rw [e0];clear e0;generalize (tab xs.length fun k=>xs.getD k 0*(((k:Nat):Int):Rat) ^ n)=L at hsz est ⊢;refine Fn.intro (ks:=[0,1,4,5,6,7,9,10,11,12]) hty rfl rfl rfl rfl rfl ?_;conv=>whnf
 refine VCall.of_data (fn_whole 0 (by decide) (by decide)) (ndA fun k=>rfl) ?_;conv=>whnf
 refine VLoop.inv hty (S:=Nat) (fun i=>[(11,I (i:Nat)),(10,I xs.length),(9,lQ xs),(5,.lp 5 0),(4,.lp 4 0),(1,I n)]) (fun i=>[(5,.box true [B (ng (psum L i)),nI (tp (psum L i)),nI (psum L i).den]),(4,.box true [B false,.d (.s (.slice none 0 0)),.d (.s (.slice none 0 0))])])
  (fun i=>i≤xs.length) (fun i=>xs.length - i) 0 (Nat.zero_le _) ⟨rfl,by show I ((cQ xs).length:Nat)=_;rw [cQ_len],rfl,rfl,rfl,rfl,trivial⟩ ⟨rfl,rfl,trivial⟩ ?_
 intro i hi;conv=>whnf
 have sp:=hsz i hi;refine Br.mk (fun h2=>?_) (fun h2=>?_)
 ·have h2:i < xs.length:=by simp only [decide_eq_true_eq] at h2;omega
  have er:=est i h2;have sx:=getD_sz h i h1;obtain ⟨x,ex⟩:∃x,xs.getD i 0=x:=⟨_,rfl⟩;rw [ex] at er sx;have cw:=fn_whole (i:Nat) (by omega) (by omega);have sw:=sz_nat (n:=i) (by omega);obtain ⟨w,ew⟩:∃w,(((i:Nat):Int):Rat)=w:=⟨_,rfl⟩;rw [ew] at cw sw er;have sn:n*sz w≤10*20:=mul_le hn sw;have cp:=fn_power w n (by omega) (by omega);have spw:=sz_pow w n;obtain ⟨p,ep⟩:∃p,w ^ n=p:=⟨_,rfl⟩;rw [ep] at cp spw er;have cm:=fn_rmul x p (by omega) (by omega);have sm:=sz_mul x p;have ca:=fn_radd (psum L i) (x*p) (by omega);rw [←er] at ca;conv=>whnf
  refine ⟨⟨⟨by omega,by rw [cQ_len];omega⟩,cQ_sz _⟩,?_⟩;conv=>whnf
  refine ⟨_,cQ_as (x:=x) h2 ex,?_⟩;conv=>whnf
  refine VDraw.go hmo hty 8 [] rfl ?_;conv=>whnf
  refine QCall.of_data cw (ndA fun k=>rfl) ?_;conv=>whnf
  refine QCall.of_data cp (ndA fun k=>rfl) ?_;conv=>whnf
  refine QCall.of_data cm (ndA fun k=>rfl) ?_;conv=>whnf
  refine QCall.of_data ca (ndA fun k=>rfl) ?_;conv=>whnf
  refine Wr.i64 (y:=((i+1:Nat):Int)) rfl (by omega) (by omega) ?_;conv=>whnf
  exact ⟨i+1,h2,by show xs.length - (i+1) < xs.length - i;omega,⟨rfl,rfl,rfl,rfl,rfl,rfl,trivial⟩,rfl,rfl,trivial⟩
 ·have h2:i=xs.length:=by simp only [decide_eq_false_iff_not] at h2;omega
  subst h2;conv=>whnf
  exact ⟨rfl,rfl,rfl,trivial,rfl⟩
end Go.V
namespace Go.V
open Go.Proofs Go.RowKit
set_option maxRecDepth 10000
set_option maxHeartbeats 1000000
theorem fn_sNatText (N:Nat) (hN:bl N≤100000000000):Fn Tryz.prog 71 [nS N] [] (Str (dd N)) []:=by
 refine Fn.intro (ks:=[0,2,3,4,5,8,20]) hty rfl rfl rfl rfl rfl ?_;conv=>whnf
 rw [cW_len];have hcn:=cn_dg b9 N;have hvl:=vl_dg b9 N;have hln:=dg_len b9 N;have hl0:=dg_len_zero b9 (n:=N);generalize dg B9 N=l at hcn hvl hln hl0 ⊢;refine Br.mk (fun h=>?_) (fun h=>?_)
 ·have h:l.length=0:=by simpa using h
  conv=>whnf
  refine ⟨?_,trivial,rfl⟩;rw [hl0.1 h,dd_small (by decide)];rfl
 ·have h:l.length≠0:=by simpa using h
  obtain ⟨m,em⟩:∃m,l.length=m+1:=⟨l.length - 1,by omega⟩;have hlast:l.getLast? = some (l.getD m 0):=by
   rw [List.getLast?_eq_getElem?,em,Nat.add_sub_cancel,gD,List.getElem?_eq_getElem (by omega)];rfl
  have htop:l.getD m 0≠0:=fun e=>hcn.2 (by rw [hlast,e]);have hlt:∀i,l.getD i 0 < 1000000000:=fun i=>by
   rw [gD];by_cases hi:i < l.length
   ·rw [List.getElem?_eq_getElem hi];exact hcn.1 _ (List.getElem_mem hi)
   ·rw [List.getElem?_eq_none (by omega)];decide
  obtain ⟨t,et⟩:∃t,l.getD m 0=t:=⟨_,rfl⟩;have ht:=hlt m;rw [et] at htop ht;conv=>whnf
  rw [cW_len];refine Wr.i64 (y:=(m:Int)) (by omega) (by omega) (by omega) ?_;conv=>whnf
  refine ⟨⟨⟨by omega,by rw [cW_len];omega⟩,cW_sz _ _⟩,?_⟩;conv=>whnf
  refine ⟨_,cW_as (x:=t) (by omega) et,?_⟩;conv=>whnf
  refine VCall.of_data (fn_l01Dec t (by omega) (by omega)) (nd _) ?_;rw [itoa_nat];conv=>whnf
  rw [cW_len];refine Wr.i64 (y:=(m:Int) - 1) (by omega) (by omega) (by omega) ?_;conv=>whnf
  refine VLoop.inv hty (S:=Nat) (fun k=>[(4,I ((k:Int) - 1)),(3,Str (dd (vl B9 (l.drop k)))),(0,.d (.sl (cW .i64 l)))]) (fun _=>[]) (fun k=>k≤m) (fun k=>k) m (Nat.le_refl _)
   ⟨rfl,by
    have e:l.drop m=[t]:=by
     rw [List.drop_eq_getElem_cons (by omega),List.drop_eq_nil_of_le (by omega),←et,gD,List.getElem?_eq_getElem (by omega)];rfl
    show Str (dd t)=_;rw [e];simp [vl],rfl,trivial⟩ trivial ?_
  intro k hk;conv=>whnf
  refine Br.mk (fun h2=>?_) (fun h2=>?_)
  ·have h2:(0:Int)≤k - 1:=by simpa using h2
   obtain ⟨j,rfl⟩:∃j,k=j+1:=⟨k - 1,by omega⟩;obtain ⟨d,ed⟩:∃d,l.getD j 0=d:=⟨_,rfl⟩;have hd:=hlt j;rw [ed] at hd;have hdrop:vl B9 (l.drop j)=vl B9 (l.drop (j+1))*1000000000+d:=by
    rw [vl_drop (by omega),←ed,gD,List.getElem?_eq_getElem (by omega)];show l[j]+1000000000*_=_*1000000000+l[j];omega
   have hpos:0 < vl B9 (l.drop (j+1)):=vl_pos b9 ⟨fun x hx=>hcn.1 x (List.mem_of_mem_drop hx),by
    rw [List.getLast?_drop,if_neg (by omega)];exact hcn.2⟩ (fun e=>by have:=congrArg List.length e;rw [List.length_drop] at this;simp at this;omega)
   have hdd:=dd_split 8 (vl B9 (l.drop (j+1))) d hpos (by simpa using hd);have hle:bl (vl B9 (l.drop (j+1)))≤bl N:=bl_mono (by
    rw [←hvl,vl_split (B:=B9) l (j+1) (by omega)];have:0 < B9 ^ (j+1):=Nat.pow_pos (by decide);have:=Nat.le_mul_of_pos_left (vl B9 (l.drop (j+1))) this;omega)
   have hlen:=dd_bl (vl B9 (l.drop (j+1)));have hpl:=padd_len (k:=8) (r:=d) (by simpa using hd);rw [show vl B9 (l.drop (j+1))*10 ^ (8+1)+d=vl B9 (l.drop j) by rw [hdrop]] at hdd;have hbase:=dd_base hd;have cD:=fn_l01Dec (d+1000000000:Nat) (by omega) (by omega);rw [itoa_nat,hbase] at cD;generalize vl B9 (l.drop (j+1))=V at hdd hlen hle ⊢;obtain ⟨w,ew⟩:∃w:List UInt8,dd V=w:=⟨_,rfl⟩;rw [ew] at hdd hlen ⊢;conv=>whnf
   rw [show ((j+1:Nat):Int) - 1=(j:Int) by omega];refine ⟨⟨⟨by omega,by rw [cW_len];omega⟩,cW_sz _ _⟩,?_⟩;conv=>whnf
   refine ⟨_,cW_as (x:=d) (by omega) ed,?_⟩;conv=>whnf
   refine Wr.i64 (y:=((d+1000000000:Nat):Int)) rfl (by omega) (by omega) ?_;conv=>whnf
   refine VCall.of_data cD (nd _) ?_;conv=>whnf
   have hsz:(⟨(49 :: padd 9 d).toArray⟩:ByteArray).size=10:=by rw [bsize,List.length_cons,hpl]
   refine ⟨by rw [hsz];decide,?_⟩;rw [show (⟨(49 :: padd 9 d).toArray⟩:ByteArray).extract (1:Int).toNat ((((⟨(49 :: padd 9 d).toArray⟩:ByteArray).size:Nat):Int)).toNat=⟨(padd 9 d).toArray⟩ by
    rw [bx,hsz];show (⟨(((49 :: padd 9 d).take 10).drop 1).toArray⟩:ByteArray)=_;rw [List.take_of_length_le (by rw [List.length_cons,hpl];decide)];rfl]
   conv=>whnf
   refine ⟨by rw [bsize,bsize,hpl];omega,?_⟩;rw [cat2,←hdd];conv=>whnf
   refine Wr.i64 (y:=(j:Int) - 1) rfl (by omega) (by omega) ?_;conv=>whnf
   exact ⟨j,by omega,by omega,⟨rfl,rfl,rfl,trivial⟩,trivial⟩
  ·have h2:k=0:=by simp at h2;omega
   conv=>whnf
   refine ⟨?_,trivial,rfl⟩;rw [h2,List.drop_zero,hvl]
theorem fn_sShow (q:Rat) (hs:sz q≤100000000000):Fn Tryz.prog 47 [rS q] [] (Str (ratT q)) []:=by
 have c1:=fn_sNatText (tp q) (Nat.le_trans (bl_tp q) hs)
 have c2:=fn_sNatText q.den (Nat.le_trans (bl_den q) hs)
 have l1:(dd (tp q)).length≤100000000001:=Nat.le_trans (dd_bl _) (by have:=bl_tp q;omega)
 have l2:(dd q.den).length≤100000000001:=Nat.le_trans (dd_bl _) (by have:=bl_den q;omega)
 have c3:=fn_sCmp q.den 1 (Nat.le_trans (bl_den q) (by omega)) (by decide)
 rw [nS,nS,dg_small b9 (n:=1) (by decide) (by decide)] at c3
 unfold ratT
 generalize dd (tp q)=a at c1 l1 ⊢
 generalize dd q.den=b at c2 l2 ⊢
 refine Fn.intro (ks:=[0,1,2,3,8,15]) hty rfl rfl rfl rfl rfl ?_
 conv=>whnf
 refine VCall.of_data c1 (nd _) ?_
 conv=>whnf
 refine Br.mk (fun h=>?_) (fun h=>?_)
 ·rw [h]
  conv=>whnf
  refine ⟨by rw [bsize];show 1+a.length < 2 ^ 62;omega,?_⟩
  rw [cat1]
  conv=>whnf
  refine VCall.lend c3 ⟨rfl,⟨rfl,by simp,rfl⟩,trivial⟩ rfl ?_
  conv=>whnf
  by_cases h1:q.den=1
  ·rw [if_pos h1,decide_eq_true (by rw [h1];decide)]
   conv=>whnf
   exact ⟨by simp,trivial,rfl⟩
  ·rw [if_neg h1,decide_eq_false (fun e=>by unfold cmpZ at e;split at e;cases e;split at e;cases e;omega)]
   conv=>whnf
   refine VCall.of_data c2 (nd _) ?_
   conv=>whnf
   refine ⟨by rw [bsize];show 1+b.length < 2 ^ 62;omega,?_⟩
   rw [cat1]
   conv=>whnf
   refine ⟨by rw [bsize,bsize];show (45 :: a).length+(b.length+1) < 2 ^ 62;simp;omega,?_⟩
   rw [cat2]
   conv=>whnf
   exact ⟨by simp,trivial,rfl⟩
 ·rw [h]
  conv=>whnf
  refine VCall.lend c3 ⟨rfl,⟨rfl,by simp,rfl⟩,trivial⟩ rfl ?_
  conv=>whnf
  by_cases h1:q.den=1
  ·rw [if_pos h1,decide_eq_true (by rw [h1];decide)]
   conv=>whnf
   exact ⟨by simp,trivial,rfl⟩
  ·rw [if_neg h1,decide_eq_false (fun e=>by unfold cmpZ at e;split at e;cases e;split at e;cases e;omega)]
   conv=>whnf
   refine VCall.of_data c2 (nd _) ?_
   conv=>whnf
   refine ⟨by rw [bsize];show 1+b.length < 2 ^ 62;omega,?_⟩
   rw [cat1]
   conv=>whnf
   refine ⟨by rw [bsize,bsize];show (a).length+(b.length+1) < 2 ^ 62;simp;omega,?_⟩
   rw [cat2]
   conv=>whnf
   exact ⟨by simp,trivial,rfl⟩
end Go.V
namespace Go.V
open Go.Proofs Go.RowKit
set_option maxRecDepth 10000
set_option maxHeartbeats 1000000
end Go.V
namespace Go.V
open Go.Proofs Go.RowKit
set_option maxRecDepth 10000
set_option maxHeartbeats 1000000
abbrev sp:Int:=-7000000000000000101
end Go.V
namespace Go.V
open Go.Proofs Go.RowKit
set_option maxRecDepth 10000
set_option maxHeartbeats 1000000
def toldO:Option Rat→List UInt8×Bool
 | some q=>(toldT q,fitsQ q)
 | none=>([],false)
end Go.V
namespace Go.V
open Go.Proofs Go.RowKit
set_option maxRecDepth 10000
set_option maxHeartbeats 1000000
def thrF (x y:List Rat) (k:Nat):Rat:=x.getD k 0*(shQ x y).getD k 0
def thrQ (x y:List Rat):Rat:=rsum (tab x.length (thrF x y))
def waitF (w:List Rat) (s:Int) (k:Nat):Rat:=if s < (k:Int) then w.getD k 0*(((k:Int) - s:Int):Rat) else 0
def waitQ (w:List Rat) (s:Int):Rat:=rsum (tab w.length (waitF w s))
theorem thr_sz {x y:List Rat} (h:LineOk x y) (i:Nat) (hi:i≤x.length):sz (psum (tab x.length (thrF x y)) i)≤17000000:=by
 refine Nat.le_trans (sz_tab (m:=800800) (fun k hk=>?_) (by decide) i hi) (Nat.le_trans (Nat.succ_le_succ (mul_le h.n2 (Nat.le_refl _))) (by decide))
 have s1:=getD_sz h.sx k (by decide)
 have s2:=getD_sz (shQ_sz h) k (by decide)
 have s3:=sz_mul (x.getD k 0) ((shQ x y).getD k 0)
 show sz (x.getD k 0*(shQ x y).getD k 0)≤_
 omega
theorem sz_zero:sz (0:Rat)=1:=by decide
theorem waitF_sz {w:List Rat} (hw:∀q,q∈w→sz q≤800000) {s:Int} (h1:0≤s) (k:Nat) (hk:k≤1000):sz (waitF w s k)≤800100:=by
 unfold waitF
 split
 ·have s1:=getD_sz hw k (by decide)
  have s2:sz ((((k:Int) - s:Int)):Rat)≤20:=sz_small (by omega) (by decide)
  have s3:=sz_mul (w.getD k 0) ((((k:Int) - s:Int)):Rat)
  omega
 ·rw [sz_zero];decide
theorem wait_sz {w:List Rat} (hw:∀q,q∈w→sz q≤800000) (hl:w.length≤21) {s:Int} (h1:0≤s) (i:Nat) (hi:i≤w.length):sz (psum (tab w.length (waitF w s)) i)≤17000000 :=
 Nat.le_trans (sz_tab (m:=800100) (fun k hk=>waitF_sz hw h1 k (by omega)) (by decide) i hi) (Nat.le_trans (Nat.succ_le_succ (mul_le hl (Nat.le_refl _))) (by decide))
theorem fn_through (x y:List Rat) (h:LineOk x y):Fn Tryz.prog 38 [lqI x y] [] (rI (thrQ x y)) []:=by
 have hl1:=h.n2;have hsz:=thr_sz h;have cs:=fn_shares x y h;have hwl:=shQ_len x y;have hws:=shQ_sz h;have e0:thrQ x y=psum (tab x.length (thrF x y)) x.length:=rsum_tab _ _;have est:∀i,i < x.length→psum (tab x.length (thrF x y)) (i+1)=psum (tab x.length (thrF x y)) i+x.getD i 0*(shQ x y).getD i 0:=fun i hi=>psum_tab hi;rw [e0];clear e0;generalize tab x.length (thrF x y)=L at hsz est ⊢;generalize shQ x y=w at cs hwl hws est;refine Fn.intro (ks:=[0,1,2,3,4,5,6,11,12,13,14]) hty rfl rfl rfl rfl rfl ?_;conv=>whnf
 refine VDraw.go hmo hty 4 [[3],[3],[3],[]] rfl ?_;conv=>whnf
 refine QCall.of_data (fn_whole 0 (by decide) (by decide)) (ndA fun k=>rfl) ?_;conv=>whnf
 refine QCall.of_data cs (nd _) ?_;conv=>whnf
 refine VLoop.inv hty (S:=Nat) (fun i=>[(13,I (i:Nat)),(12,I x.length),(11,lQ x),(4,lQ w),(3,.lp 3 0),(2,.lp 2 0)]) (fun i=>[(3,.box true [B (ng (psum L i)),nI (tp (psum L i)),nI (psum L i).den]),(2,.box true [B false,.d (.s (.slice none 0 0)),.d (.s (.slice none 0 0))])])
  (fun i=>i≤x.length) (fun i=>x.length - i) 0 (Nat.zero_le _) ⟨rfl,by show I ((cQ x).length:Nat)=_;rw [cQ_len],rfl,rfl,rfl,rfl,trivial⟩ ⟨rfl,rfl,trivial⟩ ?_
 intro i hi;conv=>whnf
 have sp:=hsz i hi;refine Br.mk (fun h2=>?_) (fun h2=>?_)
 ·have h2:i < x.length:=by simp only [decide_eq_true_eq] at h2;omega
  have er:=est i h2;have sx:=getD_sz h.sx i (by decide);have sw:=getD_sz hws i (by decide);obtain ⟨a,ea⟩:∃a,x.getD i 0=a:=⟨_,rfl⟩;obtain ⟨b,eb⟩:∃b,w.getD i 0=b:=⟨_,rfl⟩;rw [ea] at er sx;rw [eb] at er sw;have cm:=fn_rmul a b (by omega) (by omega);have sm:=sz_mul a b;have ca:=fn_radd (psum L i) (a*b) (by omega);rw [←er] at ca;conv=>whnf
  refine ⟨⟨⟨by omega,by rw [cQ_len];omega⟩,cQ_sz _⟩,?_⟩;conv=>whnf
  refine ⟨_,cQ_as (x:=a) h2 ea,?_⟩;conv=>whnf
  refine VDraw.go hmo hty 8 [] rfl ?_;conv=>whnf
  refine ⟨⟨⟨by omega,by rw [cQ_len];omega⟩,cQ_sz _⟩,?_⟩;conv=>whnf
  refine ⟨_,cQ_as (x:=b) (by omega) eb,?_⟩;conv=>whnf
  refine QCall.of_data cm (ndA fun k=>rfl) ?_;conv=>whnf
  refine QCall.of_data ca (ndA fun k=>rfl) ?_;conv=>whnf
  refine Wr.i64 (y:=((i+1:Nat):Int)) rfl (by omega) (by omega) ?_;conv=>whnf
  exact ⟨i+1,h2,by show x.length - (i+1) < x.length - i;omega,⟨rfl,rfl,rfl,rfl,rfl,rfl,trivial⟩,rfl,rfl,trivial⟩
 ·have h2:i=x.length:=by simp only [decide_eq_false_iff_not] at h2;omega
  subst h2;conv=>whnf
  exact ⟨rfl,rfl,rfl,trivial,rfl⟩
theorem fn_waiting (x y:List Rat) (h:LineOk x y) (s:Int) (h1:0≤s) (h2':s≤1000):Fn Tryz.prog 40 [lqI x y,I s] [] (rI (waitQ (shQ x y) s)) []:=by
 have hl1:=h.n2;have cs:=fn_shares x y h;have hwl:=shQ_len x y;have hws:=shQ_sz h;have hsz:=wait_sz hws (by omega) h1;have e0:waitQ (shQ x y) s=psum (tab (shQ x y).length (waitF (shQ x y) s)) (shQ x y).length:=rsum_tab _ _;have est:∀i,i < (shQ x y).length→psum (tab (shQ x y).length (waitF (shQ x y) s)) (i+1)=psum (tab (shQ x y).length (waitF (shQ x y) s)) i+(if s < (i:Int) then (shQ x y).getD i 0*(((i:Int) - s:Int):Rat) else 0):=fun i hi=>psum_tab hi;rw [e0];clear e0;generalize tab (shQ x y).length (waitF (shQ x y) s)=L at hsz est ⊢;generalize shQ x y=w at cs hwl hws est hsz ⊢;refine Fn.intro (ks:=[0,1,2,4,5,6,7,10,11,12,13,19]) hty rfl rfl rfl rfl rfl ?_;conv=>whnf
 refine VCall.of_data (fn_whole 0 (by decide) (by decide)) (ndA fun k=>rfl) ?_;conv=>whnf
 refine VCall.of_data cs (nd _) ?_;conv=>whnf
 refine VLoop.inv hty (S:=Nat) (fun i=>[(12,I (i:Nat)),(11,I w.length),(10,lQ w),(5,.lp 5 0),(4,.lp 4 0),(1,I s)]) (fun i=>[(5,.box true [B (ng (psum L i)),nI (tp (psum L i)),nI (psum L i).den]),(4,.box true [B false,.d (.s (.slice none 0 0)),.d (.s (.slice none 0 0))])])
  (fun i=>i≤w.length) (fun i=>w.length - i) 0 (Nat.zero_le _) ⟨rfl,by show I ((cQ w).length:Nat)=_;rw [cQ_len],rfl,rfl,rfl,rfl,trivial⟩ ⟨rfl,rfl,trivial⟩ ?_
 intro i hi;conv=>whnf
 have sp:=hsz i hi;refine Br.mk (fun h2=>?_) (fun h2=>?_)
 ·have h2:i < w.length:=by simp only [decide_eq_true_eq] at h2;omega
  have er:=est i h2;have sw:=getD_sz hws i (by decide);obtain ⟨a,ea⟩:∃a,w.getD i 0=a:=⟨_,rfl⟩;rw [ea] at er sw;conv=>whnf
  refine ⟨⟨⟨by omega,by rw [cQ_len];omega⟩,cQ_sz _⟩,?_⟩;conv=>whnf
  refine ⟨_,cQ_as (x:=a) h2 ea,?_⟩;conv=>whnf
  refine Br.mk (fun h3=>?_) (fun h3=>?_)
  ·have h3:s < (i:Int):=by simpa only [decide_eq_true_eq] using h3
   rw [if_pos h3] at er;obtain ⟨d,ed⟩:∃d,(i:Int) - s=d:=⟨_,rfl⟩;rw [ed] at er;have cw:=fn_whole d (by omega) (by omega);have sd:sz (d:Rat)≤20:=sz_small (by omega) (by decide);have cm:=fn_rmul a d (by omega) (by omega);have sm:=sz_mul a d;have ca:=fn_radd (psum L i) (a*d) (by omega);rw [←er] at ca;conv=>whnf
   refine VDraw.go hmo hty 8 [] rfl ?_;conv=>whnf
   refine Wr.i64 (y:=d) ed (by omega) (by omega) ?_;conv=>whnf
   refine QCall.of_data cw (ndA fun k=>rfl) ?_;conv=>whnf
   refine QCall.of_data cm (ndA fun k=>rfl) ?_;conv=>whnf
   refine QCall.of_data ca (ndA fun k=>rfl) ?_;conv=>whnf
   refine Wr.i64 (y:=((i+1:Nat):Int)) rfl (by omega) (by omega) ?_;conv=>whnf
   exact ⟨i+1,h2,by show w.length - (i+1) < w.length - i;omega,⟨rfl,rfl,rfl,rfl,rfl,rfl,trivial⟩,rfl,rfl,trivial⟩
  ·have h3:¬s < (i:Int):=by simpa only [decide_eq_false_iff_not] using h3
   rw [if_neg h3,Rat.add_zero] at er;conv=>whnf
   refine Wr.i64 (y:=((i+1:Nat):Int)) rfl (by omega) (by omega) ?_;conv=>whnf
   refine ⟨i+1,h2,by show w.length - (i+1) < w.length - i;omega,⟨rfl,rfl,rfl,rfl,rfl,rfl,trivial⟩,?_,rfl,trivial⟩;rw [er];rfl
 ·have h2:i=w.length:=by simp only [decide_eq_false_iff_not] at h2;omega
  subst h2;conv=>whnf
  exact ⟨rfl,rfl,rfl,trivial,rfl⟩
def lnO (us ds:List (List UInt8)) (F:List Rat→List Rat→Rat):Option Rat:=(lineQ us ds).map fun p=>F p.1 p.2
theorem fn_ofLine (us ds:List (List UInt8)) (hu:us.length≤1000000) (hd:ds.length≤1000000) (su:∀x,x∈us→x.length≤1000000) (sd:∀x,x∈ds→x.length≤1000000) (f:Nat) (caps:List C) (F:List Rat→List Rat→Rat)
  (hf:∀x y,LineOk x y→Fn Tryz.prog f ([lqI x y]++capAs caps) [] (rI (F x y)) []∧sz (F x y)≤100000000000) :
  Fn Tryz.prog 25 [lnI us ds,.d (.fn f caps)] [] (.tup [Str (toldO (lnO us ds F)).1,B (toldO (lnO us ds F)).2]) []:=by
 have cl:=fn_lineOf us ds hu hd su sd;refine Fn.intro (ks:=[0,1,2,4,5,6,7,14]) hty rfl rfl rfl rfl rfl ?_;conv=>whnf
 unfold lnO;cases hq:lineQ us ds with
 | none =>
  rw [hq] at cl;refine VCall.of_data cl (ndT (fun k=>rfl)) ?_;conv=>whnf
  exact ⟨rfl,rfl,trivial,rfl⟩
 | some p =>
  obtain ⟨x,y⟩:=p;replace cl:Fn Tryz.prog 46 [lnI us ds] [] (.tup [lqI x y,B true]) []:=by rw [hq] at cl;exact cl
  have hok:=lineQ_ok hq;obtain ⟨c1,s1⟩:=hf x y hok;have ct:=fn_told (F x y) s1;refine VCall.of_data cl (ndT (fun k=>rfl)) ?_;conv=>whnf
  refine VCall.of_data c1 (ndA fun k=>rfl) ?_;conv=>whnf
  refine VCall.of_data ct (ndT (fun k=>rfl)) ?_;conv=>whnf
  exact ⟨rfl,rfl,trivial,rfl⟩
end Go.V
namespace Go.V
open Go.Proofs Go.RowKit
set_option maxRecDepth 10000
set_option maxHeartbeats 1000000
def meanF (x y:List Rat):Rat:=momQ (shQ x y) 1
def lossF (x y:List Rat):Rat:=(shQ x y).getD x.length 0
def timeF (x y:List Rat):Rat:=meanF x y / thrQ x y
def waitL (s:Int) (x y:List Rat):Rat:=waitQ (shQ x y) s
def timeW (s:Int) (x y:List Rat):Rat:=waitL s x y / thrQ x y
theorem shQ_pos {x y:List Rat} (h:LineOk x y):∀q,q∈shQ x y→0 < q:=fun q hq=>by
 obtain ⟨w,hw,rfl⟩:=List.mem_map.1 hq
 obtain ⟨k,hk,rfl⟩:=wtL_mem hw
 exact q_div_pos (wtQ_pos h k (by omega)) (wt_sum_pos h)
theorem thr_pos {x y:List Rat} (h:LineOk x y):0 < thrQ x y:=by
 have hl:=h.n1
 refine psum_pos (fun q hq=>?_) _ (Nat.le_refl _) (by rw [tab_len];omega)
 obtain ⟨k,hk,rfl⟩:=tab_mem hq
 exact Rat.mul_pos (getD_pos h.px hk) (getD_pos (shQ_pos h) (by rw [shQ_len];omega))
theorem thrQ_sz {x y:List Rat} (h:LineOk x y):sz (thrQ x y)≤17000000:=by
 have:=thr_sz h x.length (Nat.le_refl _)
 unfold thrQ;rw [rsum_tab];exact this
theorem meanF_sz {x y:List Rat} (h:LineOk x y):sz (meanF x y)≤900000000:=by
 have h1:=mom_sz (shQ_sz h) (by decide) (by rw [shQ_len];have:=h.n2;omega) (n:=1) (by decide) (shQ x y).length (Nat.le_refl _)
 unfold meanF momQ;rw [rsum_tab]
 omega
theorem waitL_sz {x y:List Rat} (h:LineOk x y) {s:Int} (h1:0≤s):sz (waitL s x y)≤17000000:=by
 have:=wait_sz (shQ_sz h) (by rw [shQ_len];have:=h.n2;omega) h1 (shQ x y).length (Nat.le_refl _)
 unfold waitL waitQ;rw [rsum_tab];exact this
theorem lossF_sz {x y:List Rat} (h:LineOk x y):sz (lossF x y)≤800000:=getD_sz (shQ_sz h) _ (by decide)
theorem fn_mean (xs:List Rat) (m:Nat) (h:∀q,q∈xs→sz q≤m) (h1:1≤m) (hl:xs.length≤1000) (hm:m≤1000000):Fn Tryz.prog 36 [lQ xs] [] (rI (momQ xs 1)) []:=by
 have c:=fn_moment xs 1 m h h1 hl (by decide) hm
 refine Fn.intro (ks:=[0,2]) hty rfl rfl rfl rfl rfl ?_
 conv=>whnf
 refine VCall.of_data c (ndA fun k=>rfl) ?_
 conv=>whnf
 exact ⟨rfl,rfl,rfl,trivial,rfl⟩
theorem fn_lossC (x y:List Rat) (h:LineOk x y):Fn Tryz.prog 26 [lqI x y] [] (rI (lossF x y)) []:=by
 have cs:=fn_shares x y h
 have hwl:=shQ_len x y
 have ct:=fn_top x y
 unfold lossF
 generalize shQ x y=w at hwl cs ⊢
 obtain ⟨a,ea⟩:∃a,w.getD x.length 0=a:=⟨_,rfl⟩
 rw [ea]
 refine Fn.intro (ks:=[0,1,2]) hty rfl rfl rfl rfl rfl ?_
 conv=>whnf
 refine VDraw.go hmo hty 6 [] rfl ?_
 conv=>whnf
 refine QCall.of_data cs (nd _) ?_
 conv=>whnf
 refine QCall.of_data ct (nd _) ?_
 conv=>whnf
 refine ⟨⟨⟨by omega,by rw [cQ_len];omega⟩,cQ_sz _⟩,?_⟩
 conv=>whnf
 refine ⟨_,cQ_as (x:=a) (by omega) ea,?_⟩
 conv=>whnf
 exact ⟨rfl,rfl,rfl,trivial,rfl⟩
theorem fn_timeC (x y:List Rat) (h:LineOk x y):Fn Tryz.prog 35 [lqI x y] [] (rI (timeF x y)) []:=by
 have c:=fn_mean (shQ x y) 800000 (shQ_sz h) (by decide) (by rw [shQ_len];have:=h.n2;omega) (by decide)
 have cs:=fn_shares x y h
 have ct:=fn_through x y h
 have co:=fn_rover (meanF x y) (thrQ x y) (by have:=meanF_sz h;omega) (by have:=thrQ_sz h;omega) (by have:=thr_pos h;grind)
 unfold timeF
 unfold meanF at co ⊢
 generalize thrQ x y=b at ct co ⊢
 generalize shQ x y=w at c cs co ⊢
 refine Fn.intro (ks:=[0,1,2]) hty rfl rfl rfl rfl rfl ?_
 conv=>whnf
 refine VDraw.go hmo hty 6 [] rfl ?_
 conv=>whnf
 refine QCall.of_data cs (nd _) ?_
 conv=>whnf
 refine QCall.of_data c (ndA fun k=>rfl) ?_
 conv=>whnf
 refine QCall.of_data ct (ndA fun k=>rfl) ?_
 conv=>whnf
 refine QCall.of_data co (ndA fun k=>rfl) ?_
 conv=>whnf
 exact ⟨rfl,rfl,rfl,trivial,rfl⟩
abbrev capI (s:Int):AV:=.pp [.s (.int .i64 s)] 0
theorem fn_timeWC (s:Int) (h1:0≤s) (h2:s≤1000) (x y:List Rat) (h:LineOk x y):Fn Tryz.prog 39 [lqI x y,capI s] [] (rI (timeW s x y)) []:=by
 have cs:=fn_waiting x y h s h1 h2
 have ct:=fn_through x y h
 have co:=fn_rover (waitL s x y) (thrQ x y) (by have:=waitL_sz h h1;omega) (by have:=thrQ_sz h;omega) (by have:=thr_pos h;grind)
 unfold timeW
 unfold waitL at co ⊢
 generalize thrQ x y=b at ct co ⊢
 generalize waitQ (shQ x y) s=w at cs co ⊢
 refine Fn.intro (ks:=[0,1,2,3]) hty rfl rfl rfl rfl rfl ?_
 conv=>whnf
 refine VDraw.go hmo hty 6 [] rfl ?_
 conv=>whnf
 refine QCall.of_data cs (ndA fun k=>rfl) ?_
 conv=>whnf
 refine QCall.of_data ct (ndA fun k=>rfl) ?_
 conv=>whnf
 refine QCall.of_data co (ndA fun k=>rfl) ?_
 conv=>whnf
 exact ⟨rfl,rfl,rfl,trivial,rfl⟩
theorem fn_LineLoss (us ds:List (List UInt8)) (hu:us.length≤1000000) (hd:ds.length≤1000000) (su:∀x,x∈us→x.length≤1000000) (sd:∀x,x∈ds→x.length≤1000000) :
  Fn Tryz.prog 8 [lnI us ds] [] (.tup [Str (toldO (lnO us ds lossF)).1,B (toldO (lnO us ds lossF)).2]) []:=by
 have c:=fn_ofLine us ds hu hd su sd 26 [] lossF (fun x y h=>⟨fn_lossC x y h,by have:=lossF_sz h;omega⟩)
 generalize toldO (lnO us ds lossF)=r at c ⊢
 refine Fn.intro (ks:=[0,1,2,3]) hty rfl rfl rfl rfl rfl ?_
 conv=>whnf
 refine VCall.of_data c (ndT (fun k=>rfl)) ?_
 conv=>whnf
 exact ⟨rfl,rfl,trivial,rfl⟩
theorem fn_TimeIn (us ds:List (List UInt8)) (hu:us.length≤1000000) (hd:ds.length≤1000000) (su:∀x,x∈us→x.length≤1000000) (sd:∀x,x∈ds→x.length≤1000000) :
  Fn Tryz.prog 13 [lnI us ds] [] (.tup [Str (toldO (lnO us ds timeF)).1,B (toldO (lnO us ds timeF)).2]) []:=by
 have c:=fn_ofLine us ds hu hd su sd 35 [] timeF (fun x y h=>⟨fn_timeC x y h,by have:=meanF_sz h;have:=thrQ_sz h;have:=sz_div (meanF x y) (b:=thrQ x y) (by have:=thr_pos h;grind);unfold timeF;omega⟩)
 generalize toldO (lnO us ds timeF)=r at c ⊢
 refine Fn.intro (ks:=[0,1,2,3]) hty rfl rfl rfl rfl rfl ?_
 conv=>whnf
 refine VCall.of_data c (ndT (fun k=>rfl)) ?_
 conv=>whnf
 exact ⟨rfl,rfl,trivial,rfl⟩
def lnS (us ds:List (List UInt8)) (s:Int) (F:List Rat→List Rat→Rat):Option Rat:=if (decide (1≤s) && decide (s≤20))=true then lnO us ds F else none
theorem fn_TimeWaiting (us ds:List (List UInt8)) (s:Int) (hu:us.length≤1000000) (hd:ds.length≤1000000) (su:∀x,x∈us→x.length≤1000000) (sd:∀x,x∈ds→x.length≤1000000) :
  Fn Tryz.prog 14 [lnI us ds,I s] [] (.tup [Str (toldO (lnS us ds s (timeW s))).1,B (toldO (lnS us ds s (timeW s))).2]) []:=by
 have ci:=fn_in s 1 20
 unfold lnS
 refine Fn.intro (ks:=[0,1,2,3,4,5,8]) hty rfl rfl rfl rfl rfl ?_
 conv=>whnf
 refine VCall.of_data ci (nd _) ?_
 cases hb:(decide (1≤s) && decide (s≤20))
 ·conv=>whnf
  exact ⟨rfl,rfl,trivial,rfl⟩
 ·simp only [Bool.and_eq_true,decide_eq_true_eq] at hb
  have c:=fn_ofLine us ds hu hd su sd 39 [.ptr [.s (.int .i64 s)]] (timeW s) (fun x y h=>⟨fn_timeWC s (by omega) (by omega) x y h,by have:=waitL_sz h (s:=s) (by omega);have:=thrQ_sz h;have:=sz_div (waitL s x y) (b:=thrQ x y) (by have:=thr_pos h;grind);unfold timeW;omega⟩)
  rw [if_pos rfl]
  generalize toldO (lnO us ds (timeW s))=r at c ⊢
  conv=>whnf
  refine VCall.of_data c (ndT (fun k=>rfl)) ?_
  conv=>whnf
  exact ⟨rfl,rfl,trivial,rfl⟩
end Go.V
namespace Go.V
def selT (L:Nat):List (Nat×Nat×AV)→TL→TL
 | [],t=>t
 | (i,d,x) :: r,t=>match bitB L i with
  | true=>(d,x) :: selT L r t
  | false=>selT L r t
def selL (L:Nat):List (Nat×Nat×Ob)→LL→LL
 | [],l=>l
 | (i,d,x) :: r,l=>match bitB L i with
  | true=>(d,x) :: selL L r l
  | false=>selL L r l
def selN (L:Nat):List (Nat×Nat×Ob)→LL→LL
 | [],l=>l
 | (i,d,x) :: r,l=>match bitB L i with
  | true=>selN L r l
  | false=>(d,x) :: selN L r l
def selTN (L:Nat):List (Nat×Nat×AV)→TL→TL
 | [],t=>t
 | (i,d,x) :: r,t=>match bitB L i with
  | true=>selTN L r t
  | false=>(d,x) :: selTN L r t
def addN (x:Nat):List Nat→List Nat
 | []=>[x]
 | y :: r=>match Nat.beq x y with
  | true=>y :: r
  | false=>y :: addN x r
def addAll (L:Nat):List Nat→List Nat→List Nat
 | [],acc=>acc
 | i :: r,acc=>addAll L r (addN (Nat.lor L (Nat.shiftLeft 1 i)) acc)
def nextL (ops:List Oper):List Nat→List Nat→List Nat
 | [],acc=>acc
 | L :: r,acc=>nextL ops r (addAll L (rdy L 0 ops) acc)
def downs (ops:List Oper):Nat→List Nat→List Nat
 | 0,Ls=>Ls
 | n+1,Ls=>Ls++downs ops n (nextL ops Ls [])
def hasN (x:Nat):List Nat→Bool
 | []=>false
 | y :: r=>Nat.beq x y || hasN x r
def goOk (Ls:List Nat) (L:Nat):List Nat→Bool
 | []=>true
 | i :: r=>hasN (Nat.lor L (Nat.shiftLeft 1 i)) Ls && goOk Ls L r
def dpSet (ops:List Oper) (Ls:List Nat) (F:Nat):List Nat→Bool
 | []=>true
 | L :: r=>(match rdy L 0 ops with
  | []=>Nat.beq L F
  | i :: s=>goOk Ls L (i :: s)) && dpSet ops Ls F r
def dpOk (ops:Array Oper):Bool :=
 opsOk 0 [] (ops.toList.map (·.dst)) (ancT ops.toList []) ops.toList 0 ops.toList && hasN 0 (downs ops.toList ops.size [0]) && dpSet ops.toList (downs ops.toList ops.size [0]) (2 ^ ops.size - 1) (downs ops.toList ops.size [0])
def dpAll (P:Program) (ty:TypeId→Ty) (D:List (Option Nat)) (ops:List Oper) (xs:List (Nat×Nat×AV)) (ys zs:List (Nat×Nat×Ob)) (zt:List (Nat×Nat×AV)) (tb:TL) (lb:LL):List Nat→Prop
 | []=>True
 | L :: r=>(allK (rdy L 0 ops) fun i=>match nth ops i with
  | some o=>vcG P ty D o (selT L xs (selTN L zt tb)) (selL L ys (selN L zs lb)) fun t l=>entT t (selT (Nat.lor L (Nat.shiftLeft 1 i)) xs (selTN (Nat.lor L (Nat.shiftLeft 1 i)) zt tb))∧entL l (selL (Nat.lor L (Nat.shiftLeft 1 i)) ys (selN (Nat.lor L (Nat.shiftLeft 1 i)) zs lb))
  | none=>False)∧dpAll P ty D ops xs ys zs zt tb lb r
theorem hasN_mem {x:Nat}:∀{r:List Nat},hasN x r=true→x∈r
 | [],h=>by cases h
 | y :: r,h=>by
  simp only [hasN,Bool.or_eq_true] at h
  rcases h with h | h
  ·rw [Nat.eq_of_beq_eq_true h];simp
  ·exact List.mem_cons_of_mem _ (hasN_mem h)
theorem goOk_mem {Ls:List Nat} {L:Nat}:∀{r:List Nat},goOk Ls L r=true→∀i,i∈r→Nat.lor L (Nat.shiftLeft 1 i)∈Ls
 | [],_,i,hi=>by cases hi
 | j :: r,h,i,hi=>by
  simp only [goOk,Bool.and_eq_true] at h
  rcases List.mem_cons.1 hi with rfl | hi
  ·exact hasN_mem h.1
  ·exact goOk_mem h.2 i hi
theorem dpSet_mem {ops:List Oper} {Ls:List Nat} {F:Nat}:∀{r:List Nat},dpSet ops Ls F r=true→∀L,L∈r→(rdy L 0 ops=[]→L=F)∧∀i,i∈rdy L 0 ops→Nat.lor L (Nat.shiftLeft 1 i)∈Ls
 | [],_,L,hL=>by cases hL
 | M :: r,h,L,hL=>by
  simp only [dpSet,Bool.and_eq_true] at h
  rcases List.mem_cons.1 hL with rfl | hL
  ·have h1:=h.1
   cases e:rdy L 0 ops with
   | nil =>
    rw [e] at h1
    exact ⟨fun _=>Nat.eq_of_beq_eq_true h1,fun i hi=>by cases hi⟩
   | cons j s =>
    rw [e] at h1
    exact ⟨fun h=>(by cases h),fun i hi=>goOk_mem h1 i hi⟩
  ·exact dpSet_mem h.2 L hL
theorem dpAll_mem {P:Program} {ty:TypeId→Ty} {D:List (Option Nat)} {ops:List Oper} {xs:List (Nat×Nat×AV)} {ys zs:List (Nat×Nat×Ob)} {zt:List (Nat×Nat×AV)} {tb:TL} {lb:LL}:∀{r:List Nat},dpAll P ty D ops xs ys zs zt tb lb r→∀L,L∈r →
  allK (rdy L 0 ops) fun i=>match nth ops i with
   | some o=>vcG P ty D o (selT L xs (selTN L zt tb)) (selL L ys (selN L zs lb)) fun t l=>entT t (selT (Nat.lor L (Nat.shiftLeft 1 i)) xs (selTN (Nat.lor L (Nat.shiftLeft 1 i)) zt tb))∧entL l (selL (Nat.lor L (Nat.shiftLeft 1 i)) ys (selN (Nat.lor L (Nat.shiftLeft 1 i)) zs lb))
   | none=>False
 | [],_,L,hL=>by cases hL
 | M :: r,h,L,hL=>by
  rcases List.mem_cons.1 hL with rfl | hL
  ·exact h.1
  ·exact dpAll_mem h.2 L hL
theorem cnt_full {S:Nat→Bool} {n:Nat} (h:cnt S n=n):∀i,i < n→S i=true:=fun i hi=>by
 apply Classical.byContradiction
 intro hs
 have h1:=cnt_set (S:=S) (i:=i) (by simpa using hs) hi
 have h2:=cnt_le (S:=setS S i) n
 omega
section
variable {P:Program} {G:Ctx}
theorem dp_sound {ty:TypeId→Ty} (hty:TyOk P ty) {ops:Array Oper} {Q:Exit→Act→World→Prop} (hd:∀o,o∈ops.toList→∀d,o.dst=some d→d < G.n)
  (hed:∀j o,ops.toList[j]? = some o→∀e,e∈o.after.toList→Region.binds .any e=true→e.on < j)
  {Ls:List Nat} {F:Nat} {xs:List (Nat×Nat×AV)} {ys zs:List (Nat×Nat×Ob)} {zt:List (Nat×Nat×AV)} {tb:TL} {lb:LL}
  (hset:∀L,L∈Ls→(rdy L 0 ops.toList=[]→L=F)∧∀i,i∈rdy L 0 ops.toList→Nat.lor L (Nat.shiftLeft 1 i)∈Ls)
  (hall:dpAll P ty (ops.toList.map (·.dst)) ops.toList xs ys zs zt tb lb Ls) (κ0:Know)
  (hQ:∀κ' ρ' a' w',κ0.le κ'→Rel G κ' ρ' (selT F xs (selTN F zt tb)) (selL F ys (selN F zs lb)) a' w'→Q .normal a' w') :
  ∀(n:Nat) (L:Nat) (listed:Array Bool) (κ:Know) (ρ:Place) (a:Act) (w:World),L∈Ls→listed.size=ops.size→(∀i,i < ops.size→listed.getD i false=L.testBit i) →
   n+cnt (fun i=>listed.getD i false) ops.size=ops.size→κ0.le κ→Rel G κ ρ (selT L xs (selTN L zt tb)) (selL L ys (selN L zs lb)) a w→wpAny P .any ops Q n listed a w:=by
 have same:∀{L:Nat} {listed:Array Bool},listed.size=ops.size→(∀i,i < ops.size→listed.getD i false=L.testBit i) →
   ∀i,i∈Region.ready .any ops listed↔i∈rdy L 0 ops.toList:=by
  intro L listed hs hL i;rw [mem_ready,mem_rdy];constructor
  ·rintro ⟨h1,o,h2,h3⟩;have hi:i < ops.size:=(Array.getElem?_eq_some_iff.1 h2).1;refine ⟨Nat.zero_le _,o,by rw [Nat.sub_zero,Array.getElem?_toList];exact h2,?_,fun e he hb=>?_⟩
   ·rw [←hL i hi];rw [Array.getD_eq_getD_getElem?] at h1 ⊢;rw [Array.getElem?_eq_getElem (by omega)] at h1 ⊢;exact h1
   ·have:=h3 e (by simpa using he) hb;have hlt:=hed i o (by rw [Array.getElem?_toList];exact h2) e he hb;rw [←hL e.on (by omega)];exact this
  ·rintro ⟨_,o,h2,h3,h4⟩;rw [Nat.sub_zero,Array.getElem?_toList] at h2;have hi:i < ops.size:=(Array.getElem?_eq_some_iff.1 h2).1;refine ⟨?_,o,h2,fun e he hb=>?_⟩
   ·rw [←hL i hi] at h3;rw [Array.getD_eq_getD_getElem?] at h3 ⊢;rw [Array.getElem?_eq_getElem (by omega)] at h3 ⊢;exact h3
   ·have hlt:=hed i o (by rw [Array.getElem?_toList];exact h2) e (by simpa using he) hb;rw [hL e.on (by omega)];exact h4 e (by simpa using he) hb
 intro n;induction n with
 | zero =>
  intro L listed κ ρ a w hm hs hL hn hle hr;have hfull:=cnt_full (S:=fun i=>listed.getD i false) (n:=ops.size) (by omega);have e:rdy L 0 ops.toList=[]:=by
   apply List.eq_nil_iff_forall_not_mem.2;intro i hi;obtain ⟨_,o,h2,h3,_⟩:=mem_rdy.1 hi;rw [Nat.sub_zero,Array.getElem?_toList] at h2;have hi':i < ops.size:=(Array.getElem?_eq_some_iff.1 h2).1;rw [←hL i hi',hfull i hi'] at h3;cases h3
  have hF:=(hset L hm).1 e;subst hF;refine ⟨?_,hQ κ ρ a w hle hr⟩;apply List.eq_nil_iff_forall_not_mem.2;intro i hi;rw [same hs hL i,e] at hi;cases hi
 | succ n ih =>
  intro L listed κ ρ a w hm hs hL hn hle hr;cases e:rdy L 0 ops.toList with
  | nil =>
   have hF:=(hset L hm).1 e;subst hF;exact ⟨fun _=>hQ κ ρ a w hle hr,fun i hi=>by rw [same hs hL i,e] at hi;cases hi⟩
  | cons i0 r =>
   refine ⟨fun e'=>?_,fun i hi=>?_⟩
   ·have:i0∈Region.ready .any ops listed:=by rw [same hs hL,e];simp
    rw [e'] at this;cases this
   ·rw [same hs hL i] at hi;have hm':=(hset L hm).2 i hi;have h1:=allK_mem (dpAll_mem hall L hm) i hi;obtain ⟨_,o1,_,hbit,_⟩:=mem_rdy.1 hi;rw [nth_eq] at h1;split at h1
    ·rename_i o ho;have ho':ops[i]? = some o:=by rw [←Array.getElem?_toList];exact ho
     have hmem:o∈ops.toList:=List.mem_of_getElem? ho;have hi':i < ops.size:=(Array.getElem?_eq_some_iff.1 ho').1;have hl0:listed.getD i false=false:=by rw [hL i hi'];exact hbit
     have hSS:(fun j=>(listed.setIfInBounds i true).getD j false)=setS (fun j=>listed.getD j false) i:=by
      funext j
      rw [setS_eq];by_cases e:j=i
      ·subst e;simp [Array.getD,hs,hi']
      ·rw [if_neg e,Array.getD_eq_getD_getElem?,Array.getD_eq_getD_getElem?,Array.getElem?_setIfInBounds_ne (fun h=>e h.symm)]
     refine vcG_sound hty ho' (hd o hmem) hr h1 fun κ' ρ' t' l' a' w' k1 k2 k3=>?_;obtain ⟨ρ2,_,hr2⟩:=k2.less (entT_get k3.1) (entL_get k3.2);refine ih _ _ κ' ρ2 a' w' hm' (by simpa using hs) (fun j hj=>?_) ?_ (Know.le_trans hle k1) hr2
     ·have e1:(Nat.lor L (Nat.shiftLeft 1 i)).testBit j=(L.testBit j || decide (i=j)):=by
       show (L ||| (1 <<< i)).testBit j=_;rw [Nat.testBit_or,Nat.one_shiftLeft,Nat.testBit_two_pow]
      rw [e1];by_cases hij:i=j
      ·subst hij;simp [Array.getD,hs,hi']
      ·rw [Array.getD_eq_getD_getElem?,Array.getElem?_setIfInBounds_ne hij,←Array.getD_eq_getD_getElem?,hL j hj];simp [hij]
     ·rw [hSS,cnt_set hl0 hi'];omega
    ·exact h1.elim
theorem VDraw.dpS {ty:TypeId→Ty} (hmo:P.follows .mixedOrders=true) (hty:TyOk P ty) {ops:Array Oper} {t:TL} {l:LL} {K:TL→LL→Prop} (tb:TL) (lb:LL) (xs:List (Nat×Nat×AV)) (ys zs:List (Nat×Nat×Ob)) (zt:List (Nat×Nat×AV)) (hc:dpOk ops=true)
  (ht:entT t (selTN 0 zt tb)) (hl:entL l (selN 0 zs lb)) (hall:dpAll P ty (ops.toList.map (·.dst)) ops.toList xs ys zs zt tb lb (downs ops.toList ops.size [0])) (hK:K (selT (2 ^ ops.size - 1) xs (selTN (2 ^ ops.size - 1) zt tb)) (selL (2 ^ ops.size - 1) ys (selN (2 ^ ops.size - 1) zs lb))):VDraw P ty ops t l K where
 out:=fun G κ ρ a w hr hd id Q hQ=>by
  unfold dpOk at hc;simp only [Bool.and_eq_true] at hc;obtain ⟨⟨h1,h2⟩,h3⟩:=hc;have hed:∀j o,ops.toList[j]? = some o→∀e,e∈o.after.toList→Region.binds .any e=true→e.on < j:=fun j o ho=>by
   have:=(opsOk_spec h1 j o ho).ed;rwa [Nat.zero_add] at this
  have z1:∀(xs:List (Nat×Nat×AV)) (tb:TL),selT 0 xs tb=tb:=fun xs tb=>by
   induction xs with
   | nil=>rfl
   | cons x r ih =>
    obtain ⟨i,d,x⟩:=x;have e:bitB 0 i=false:=by rw [bitB_eq];exact Nat.zero_testBit i
    rw [selT,e];exact ih
  have z2:∀(xs:List (Nat×Nat×Ob)) (lb:LL),selL 0 xs lb=lb:=fun xs lb=>by
   induction xs with
   | nil=>rfl
   | cons x r ih =>
    obtain ⟨i,d,x⟩:=x;have e:bitB 0 i=false:=by rw [bitB_eq];exact Nat.zero_testBit i
    rw [selL,e];exact ih
  obtain ⟨ρ2,_,hr2⟩:=hr.less (entT_get ht) (entL_get hl);refine wp_region_any hmo (dp_sound hty hd hed (fun L hL=>dpSet_mem h3 L hL) hall κ (fun κ' ρ' a' w' hk hr'=>hQ κ' ρ' _ _ a' w' hk hr' hK) ops.size 0 _ κ ρ2 a _ (hasN_mem h2) (by simp) (fun i hi=>?_) ?_ (Know.le_refl _) ?_)
  ·rw [Nat.zero_testBit,Array.getD_eq_getD_getElem?,Array.getElem?_replicate];split <;> rfl
  ·have:cnt (fun i=>(Array.replicate ops.size false).getD i false) ops.size=0:=by
    have h':∀n,cnt (fun i=>(Array.replicate ops.size false).getD i false) n=0:=by
     intro n;induction n with
     | zero=>rfl
     | succ n ih =>
      unfold cnt;rw [ih];have:(Array.replicate ops.size false).getD n false=false:=by
       rw [Array.getD_eq_getD_getElem?,Array.getElem?_replicate];split <;> rfl
      rw [this];rfl
    exact h' _
   rw [this];rfl
  ·rw [z1,z2];exact hr2.grown rfl rfl rfl (Nat.le_refl _) (fun _ _=>rfl)
theorem VDraw.dp {ty:TypeId→Ty} (hmo:P.follows .mixedOrders=true) (hty:TyOk P ty) {ops:Array Oper} {t:TL} {l:LL} {K:TL→LL→Prop} (tb:TL) (lb:LL) (xs:List (Nat×Nat×AV)) (ys zs:List (Nat×Nat×Ob)) (hc:dpOk ops=true)
  (ht:entT t tb) (hl:entL l (selN 0 zs lb)) (hall:dpAll P ty (ops.toList.map (·.dst)) ops.toList xs ys zs [] tb lb (downs ops.toList ops.size [0])) (hK:K (selT (2 ^ ops.size - 1) xs tb) (selL (2 ^ ops.size - 1) ys (selN (2 ^ ops.size - 1) zs lb))):VDraw P ty ops t l K :=
 VDraw.dpS hmo hty tb lb xs ys zs [] hc ht hl hall hK
end
end Go.V
namespace Go.V
open Go.Proofs Go.RowKit
set_option maxRecDepth 10000
set_option maxHeartbeats 1000000
end Go.V
namespace Go.V
open Go.Proofs Go.RowKit
set_option maxRecDepth 10000
set_option maxHeartbeats 1000000
end Go.V
namespace Go.V
open Go.Proofs Go.RowKit
set_option maxRecDepth 10000
set_option maxHeartbeats 1000000
end Go.V
namespace Go.V
open Go.Proofs Go.RowKit
set_option maxRecDepth 10000
set_option maxHeartbeats 1000000
end Go.V
namespace Go.V
open Go.Proofs Go.RowKit
set_option maxRecDepth 10000
set_option maxHeartbeats 1000000
end Go.V
namespace Go.V
open Go.Proofs Go.RowKit
set_option maxRecDepth 10000
set_option maxHeartbeats 1000000
end Go.V
namespace Go.V
open Go.Proofs Go.RowKit
set_option maxRecDepth 10000
set_option maxHeartbeats 1000000
theorem dd_isD (n:Nat):∀b,b∈dd n→IsD b:=by
 induction n using Nat.strongRecOn with
 | _ n ih =>
  intro b hb
  by_cases h:n < 10
  ·rw [dd_small h] at hb
   rw [List.mem_singleton.1 hb]
   have:=isD_ofNat h
   unfold IsD;omega
  ·rw [dd_big h] at hb
   rcases List.mem_append.1 hb with hb | hb
   ·exact ih _ (by omega) b hb
   ·rw [List.mem_singleton.1 hb]
    have:=isD_ofNat (d:=n % 10) (by omega)
    unfold IsD;omega
theorem dd_head (n:Nat):(dd n).length=1∨(dd n).head? ≠ some 48:=by
 induction n using Nat.strongRecOn with
 | _ n ih =>
  by_cases h:n < 10
  ·exact .inl (by rw [dd_small h];rfl)
  ·refine .inr ?_
   rw [dd_big h]
   have hne:=dd_ne (n / 10)
   rcases ih (n / 10) (by omega) with h1 | h1
   ·by_cases h9:n / 10 < 10
    ·rw [dd_small h9]
     simp only [List.singleton_append,List.head?_cons,ne_eq,Option.some.injEq]
     intro e
     have:=isD_ofNat h9
     rw [e] at this
     have e2:(48:UInt8).toNat=48:=rfl
     omega
    ·have h2:1 < (dd (n / 10)).length:=by
      rw [dd_big h9,List.length_append]
      have:=List.length_pos_iff.2 (dd_ne (n / 10 / 10))
      simp only [List.length_singleton];omega
     omega
   ·intro e
    apply h1
    cases hd:dd (n / 10) with
    | nil=>exact absurd hd hne
    | cons a t=>rw [hd] at e;simpa using e
theorem okN_dd {n:Nat} (h:(dd n).length≤200):okN (dd n):=⟨dd_ne n,h,dd_isD n,dd_head n⟩
theorem dv_dd (n:Nat):dv (dd n)=n:=dv_dec n
theorem cutB_none {c:UInt8} {s:List UInt8} (h:c ∉ s):cutB c s=(s,[],false):=by
 unfold cutB
 rcases indexByte_spec c s with ⟨_,h2⟩ | ⟨p,r,h1,_,_⟩
 ·rw [h2];rfl
 ·exact absurd (by rw [h1];simp) h
theorem cutB_some {c:UInt8} {p r:List UInt8} (h:c ∉ p):cutB c (p++c :: r)=(p,r,true):=by
 have hx:Lib.indexByte (p++c :: r) c=p.length:=by
  induction p with
  | nil=>simp [Lib.indexByte]
  | cons b p ih =>
   have hb:(b == c)=false:=by
    have:b≠c:=fun e=>h (by rw [e];simp);simpa using this
   have h2:=ih fun e=>h (List.mem_cons_of_mem _ e);have h3:((p.length:Int) == -1)=false:=by simp
   simp [Lib.indexByte,hb,h2,h3]
 unfold cutB;rw [hx];show (_,_,_)=_;simp
theorem not47 {s:List UInt8} (h:∀b,b∈s→IsD b):(47:UInt8) ∉ s:=fun e=>by
 have:=h _ e
 unfold IsD at this
 have e2:(47:UInt8).toNat=47:=rfl
 omega
theorem pre_dd (g:Bool) (n:Nat):Lib.hasPrefix ((if g then [45] else [])++dd n) [45]=g∧Lib.trimPrefix ((if g then [45] else [])++dd n) [45]=dd n:=by
 cases g
 ·have h:Lib.hasPrefix (dd n) [45]=false:=by
   cases hd:dd n with
   | nil=>rfl
   | cons a t =>
    have:=dd_isD n a (by rw [hd];simp)
    unfold Lib.hasPrefix
    have hb:((45:UInt8) == a)=false:=by
     have:(45:UInt8)≠a:=fun e=>by
      subst e;unfold IsD at this
      have e2:(45:UInt8).toNat=45:=rfl
      omega
     simpa using this
    simp [List.isPrefixOf,hb]
  refine ⟨by simpa using h,?_⟩
  unfold Lib.trimPrefix
  simp [h]
 ·constructor
  ·simp [Lib.hasPrefix,List.isPrefixOf]
  ·simp [Lib.trimPrefix,Lib.hasPrefix,List.isPrefixOf]
theorem rdRat_ratT {q:Rat} (h:fitsQ q=true):rdRat (ratT q)=some q:=by
 unfold fitsQ at h;simp only [Bool.and_eq_true,decide_eq_true_eq] at h;obtain ⟨h1,h2⟩:=h;have n1:=not47 (dd_isD (tp q));have hp:(47:UInt8) ∉ (if ng q=true then [45] else [])++dd (tp q):=by
  intro e;rcases List.mem_append.1 e with e | e
  ·split at e
   ·rw [List.mem_singleton] at e;cases e
   ·cases e
  ·exact n1 e
 obtain ⟨p1,p2⟩:=pre_dd (ng q) (tp q);have hz:¬(ng q=true∧tp q=0):=fun ⟨a,b⟩=>by rw [ng_zero b] at a;cases a
 have hm:=mk_parts q;unfold rdRat ratT;by_cases hd:q.den=1
 ·rw [if_pos hd,List.append_nil,cutB_none hp];simp only [p1,p2,dv_dd];rw [if_neg (by rintro (e | e);exact e (okN_dd h1);exact hz e)];simp only [if_true];rw [hd] at hm;rw [hm]
 ·rw [if_neg hd,cutB_some hp];simp only [p1,p2,dv_dd];rw [if_neg (by rintro (e | e);exact e (okN_dd h1);exact hz e)];have hg:(tp q).gcd q.den=1:=by have:=q.reduced;unfold tp;exact this
  have h0:=q.den_nz;simp only [Bool.true_eq_false,if_false];rw [if_neg (by rintro (e | e | e);exact e (okN_dd h2);omega;exact e hg),hm]
end Go.V
namespace Go.V
open Go.Proofs Go.RowKit
set_option maxRecDepth 10000
set_option maxHeartbeats 1000000
theorem fn_compared (p q:Rat) (hp:sz p≤100000000000) (hq:sz q≤100000000000):Fn Tryz.prog 32 [rI p,rI q] [] (I (if p < q then -1 else if q < p then 1 else 0)) []:=by
 have c:=fn_rcmp p q hp hq
 have h1:=@rcI_neg p q
 have h2:=@rcI_zero p q
 refine Fn.intro (ks:=[0,1,2,3,4,5,9,12]) hty rfl rfl rfl rfl rfl ?_
 conv=>whnf
 refine VCall.of_data c (nd _) ?_
 generalize rcI p q=r at h1 h2
 conv=>whnf
 by_cases hr:r < 0
 ·rw [decide_eq_true hr]
  conv=>whnf
  exact ⟨by rw [if_pos (h1.1 hr)],trivial,rfl⟩
 ·rw [decide_eq_false hr]
  conv=>whnf
  by_cases hr2:0 < r
  ·rw [decide_eq_true hr2]
   conv=>whnf
   refine ⟨?_,trivial,rfl⟩
   have h3:¬p < q:=fun e=>hr (h1.2 e)
   have h4:q < p:=by
    have h5:¬p=q:=fun e=>by have:=h2.2 e;omega
    grind
   rw [if_neg h3,if_pos h4]
  ·rw [decide_eq_false hr2]
   conv=>whnf
   refine ⟨?_,trivial,rfl⟩
   have h5:p=q:=h2.1 (by omega)
   subst h5
   rw [if_neg (show ¬p < p by grind),if_neg (show ¬p < p by grind)]
def rNg:Option Rat→Bool
 | some q=>ng q
 | none=>false
def rTp:Option Rat→Nat
 | some q=>tp q
 | none=>0
def rDn:Option Rat→Nat
 | some q=>q.den
 | none=>0
theorem rO_eq (o:Option Rat):rO o = .ag [B (rNg o),nI (rTp o),nI (rDn o)]:=by cases o <;> rfl
theorem fn_positive (s:List UInt8) (hs:s.length≤1000000000000):Fn Tryz.prog 20 [Str s] [] (.tup [rO (rdRat s),B ((rdRat s).any fun q=>decide (0 < q))]) []:=by
 have c:=fn_readRat s hs
 refine Fn.intro (ks:=[0,2,3,4,5]) hty rfl rfl rfl rfl rfl ?_
 conv=>whnf
 cases hr:rdRat s with
 | none =>
  rw [hr] at c
  refine VCall.of_data c (ndT (fun k=>rfl)) ?_
  conv=>whnf
  refine VDraw.dp hmo hty [(5,B false),(4,.lp 4 0),(2,.lp 2 0)] [(4,.box true [B false,nI 0,nI 0])]
   [(0,11,.ag [B false,nI 0,nI 0]),(1,12,B false),(2,13,B false),(5,16,skipV),(6,17,B false),(8,3,B false)] [(7,2,.box true [B false,nI 0,nI 0])] [(7,2,.box true _)] rfl ⟨rfl,rfl,rfl,trivial⟩ ⟨rfl,rfl,trivial⟩ ?_ ?_
  ·
   conv=>whnf
   repeat' (first
    | (refine ⟨?_,?_⟩ <;> conv=>whnf)
    | exact rfl
    | exact trivial)
  ·
   conv=>whnf
   repeat' (first
    | exact rfl
    | exact trivial
    | refine ⟨?_,?_⟩)
 | some q =>
  rw [hr] at c
  have hz:=rdRat_sz hr
  have c2:=fn_sign q (by omega)
  have hp:=@sgI_pos q
  rw [show ((some q).any fun q=>decide (0 < q))=decide (0 < sgI q) by show decide (0 < q)=_;rw [decide_eq_decide];exact hp.symm]
  generalize sgI q=r at c2
  rw [show rO (some q) = .ag [B (ng q),nI (tp q),nI q.den] from rfl] at c ⊢
  rw [show rI q = .ag [B (ng q),nI (tp q),nI q.den] from rfl] at c2
  generalize ng q=x1 at c c2 ⊢
  generalize tp q=x2 at c c2 ⊢
  generalize q.den=x3 at c c2 ⊢
  refine VCall.of_data c (ndT (fun k=>rfl)) ?_
  conv=>whnf
  refine VDraw.dp hmo hty [(5,B true),(4,.lp 4 0),(2,.lp 2 0)] [(4,.box true [B x1,nI x2,nI x3])]
   [(0,11,.ag [B x1,nI x2,nI x3]),(1,12,B true),(2,13,B true),(3,14,.ag [B x1,nI x2,nI x3]),(4,15,I r),(5,16,B (decide (0 < r))),(6,17,B (decide (0 < r))),(8,3,B (decide (0 < r)))]
   [(7,2,.box true [B x1,nI x2,nI x3])] [(7,2,.box true _)] rfl ⟨rfl,rfl,rfl,trivial⟩ ⟨rfl,rfl,trivial⟩ ?_ ?_
  ·conv=>whnf
   repeat' (first
    | (refine VCall.of_data c2 (nd _) ?_;conv=>whnf)
    | (refine ⟨?_,?_⟩ <;> conv=>whnf)
    | exact rfl
    | exact trivial)
  ·
   conv=>whnf
   repeat' (first
    | exact rfl
    | exact trivial
    | refine ⟨?_,?_⟩)
theorem fn_two (s t:List UInt8) (hs:s.length≤1000000000000) (ht:t.length≤1000000000000):Fn Tryz.prog 31 [Str s,Str t] [] (.tup [rO (rdRat s),rO (rdRat t),B ((rdRat s).isSome && (rdRat t).isSome)]) []:=by
 have c1:=fn_readRat s hs
 have c2:=fn_readRat t ht
 rw [rO_eq] at c1 c2
 rw [rO_eq,rO_eq]
 generalize rNg (rdRat s)=x1 at c1 ⊢
 generalize rTp (rdRat s)=x2 at c1 ⊢
 generalize rDn (rdRat s)=x3 at c1 ⊢
 generalize (rdRat s).isSome=x4 at c1 ⊢
 generalize rNg (rdRat t)=y1 at c2 ⊢
 generalize rTp (rdRat t)=y2 at c2 ⊢
 generalize rDn (rdRat t)=y3 at c2 ⊢
 generalize (rdRat t).isSome=y4 at c2 ⊢
 refine Fn.intro (ks:=[0,1,4,5,6,7,8,9,10]) hty rfl rfl rfl rfl rfl ?_
 conv=>whnf
 refine VCall.of_data c1 (ndT (fun k=>rfl)) ?_
 conv=>whnf
 refine VCall.of_data c2 (ndT (fun k=>rfl)) ?_
 conv=>whnf
 cases x4
 ·refine VDraw.dp hmo hty [(10,B y4),(9,.lp 9 0),(8,B false),(7,.lp 7 0),(5,.lp 5 0),(4,.lp 4 0)] [(9,.box true [B y1,nI y2,nI y3]),(7,.box true [B x1,nI x2,nI x3])]
   [(0,21,.ag [B x1,nI x2,nI x3]),(1,22,.ag [B y1,nI y2,nI y3]),(2,23,B false),(3,24,B false),(5,26,B false),(8,6,B false)] [(6,4,.box true [B x1,nI x2,nI x3]),(7,5,.box true [B y1,nI y2,nI y3])] [(6,4,.box true _),(7,5,.box true _)] rfl ⟨rfl,rfl,rfl,rfl,rfl,rfl,trivial⟩ ⟨rfl,rfl,rfl,rfl,trivial⟩ ?_ ?_
  ·
   conv=>whnf
   repeat' (first
    | (refine ⟨?_,?_⟩ <;> conv=>whnf)
    | exact rfl
    | exact trivial)
  ·
   conv=>whnf
   repeat' (first
    | exact rfl
    | exact trivial
    | refine ⟨?_,?_⟩)
 ·refine VDraw.dp hmo hty [(10,B y4),(9,.lp 9 0),(8,B true),(7,.lp 7 0),(5,.lp 5 0),(4,.lp 4 0)] [(9,.box true [B y1,nI y2,nI y3]),(7,.box true [B x1,nI x2,nI x3])]
   [(0,21,.ag [B x1,nI x2,nI x3]),(1,22,.ag [B y1,nI y2,nI y3]),(2,23,B true),(3,24,B true),(4,25,B y4),(5,26,B y4),(8,6,B y4)] [(6,4,.box true [B x1,nI x2,nI x3]),(7,5,.box true [B y1,nI y2,nI y3])] [(6,4,.box true _),(7,5,.box true _)] rfl ⟨rfl,rfl,rfl,rfl,rfl,rfl,trivial⟩ ⟨rfl,rfl,rfl,rfl,trivial⟩ ?_ ?_
  ·
   conv=>whnf
   repeat' (first
    | (refine ⟨?_,?_⟩ <;> conv=>whnf)
    | exact rfl
    | exact trivial)
  ·
   conv=>whnf
   repeat' (first
    | exact rfl
    | exact trivial
    | refine ⟨?_,?_⟩)
end Go.V
namespace Go.V
open Go.Proofs Go.RowKit
set_option maxRecDepth 10000
set_option maxHeartbeats 1000000
def cmpO (s t:List UInt8):Int×Bool:=match rdRat s,rdRat t with
 | some p,some q=>(if p < q then -1 else if q < p then 1 else 0,true)
 | _,_=>(0,false)
theorem fn_CompareFractions (s t:List UInt8) (hs:s.length≤1000000000000) (ht:t.length≤1000000000000):Fn Tryz.prog 10 [Str s,Str t] [] (.tup [I (cmpO s t).1,B (cmpO s t).2]) []:=by
 have c:=fn_two s t hs ht
 refine Fn.intro (ks:=[0,1,4,5,6,7,8,17]) hty rfl rfl rfl rfl rfl ?_
 conv=>whnf
 unfold cmpO
 cases h1:rdRat s with
 | none =>
  rw [h1,rO_eq,rO_eq] at c
  refine VCall.of_data c (ndT (fun k=>rfl)) ?_
  conv=>whnf
  exact ⟨rfl,rfl,trivial,rfl⟩
 | some p =>
  cases h2:rdRat t with
  | none =>
   rw [h1,h2,rO_eq,rO_eq] at c
   refine VCall.of_data c (ndT (fun k=>rfl)) ?_
   conv=>whnf
   exact ⟨rfl,rfl,trivial,rfl⟩
  | some q =>
   rw [h1,h2] at c
   have z1:=rdRat_sz h1
   have z2:=rdRat_sz h2
   have c2:=fn_compared p q (by omega) (by omega)
   refine VCall.of_data c (ndT (fun k=>rfl)) ?_
   conv=>whnf
   refine VCall.of_data c2 (nd _) ?_
   conv=>whnf
   exact ⟨rfl,rfl,trivial,rfl⟩
def lossO (s:List UInt8) (n:Int):Option Rat:=(rdRat s).bind fun x=>if 0 < x∧0≤n∧n≤20 then some (lossQ x n.toNat) else none
theorem fn_LossChance (s:List UInt8) (n:Int) (hs:s.length≤1000000000000):Fn Tryz.prog 9 [Str s,I n] [] (.tup [Str (toldO (lossO s n)).1,B (toldO (lossO s n)).2]) []:=by
 have c:=fn_positive s hs
 have ci:=fn_in n 0 20
 refine Fn.intro (ks:=[0,1,4,5,6,7,19]) hty rfl rfl rfl rfl rfl ?_
 conv=>whnf
 unfold lossO
 cases h1:rdRat s with
 | none =>
  rw [h1,rO_eq] at c
  refine VCall.of_data c (ndT (fun k=>rfl)) ?_
  conv=>whnf
  exact ⟨rfl,rfl,trivial,rfl⟩
 | some x =>
  rw [h1] at c
  rw [show ((some x).any fun q=>decide (0 < q))=decide (0 < x) from rfl] at c
  have z1:=rdRat_sz h1
  refine VCall.of_data c (ndT (fun k=>rfl)) ?_
  conv=>whnf
  by_cases hx:0 < x
  ·rw [decide_eq_true hx]
   conv=>whnf
   refine VCall.of_data ci (nd _) ?_
   by_cases hn:0≤n∧n≤20
   ·rw [show (decide (0≤n) && decide (n≤20))=true by simp [hn]]
    conv=>whnf
    obtain ⟨m,rfl⟩:∃m:Nat,n=m:=⟨n.toNat,by omega⟩
    have cl:=fn_losses x m hx (by omega) (by omega)
    have ct:=fn_told (lossQ x m) (by have:=lossQ_big hx (by omega) (show m≤20 by omega);omega)
    have hg:=lossL_get x (show m < m+1 by omega)
    have hll:=lossL_len x (m+1)
    generalize lossL x (m+1)=L at cl hg hll
    refine VCall.of_data cl (nd _) ?_
    conv=>whnf
    refine ⟨⟨⟨by omega,by rw [cQ_len];omega⟩,cQ_sz _⟩,?_⟩
    conv=>whnf
    refine ⟨_,cQ_as (by omega) hg,?_⟩
    conv=>whnf
    refine VCall.of_data ct (ndT (fun k=>rfl)) ?_
    conv=>whnf
    rw [show ((some x).bind fun x=>if 0 < x∧0≤(m:Int)∧(m:Int)≤20 then some (lossQ x (m:Int).toNat) else none)=some (lossQ x m) by simp [hx];omega]
    exact ⟨rfl,rfl,trivial,rfl⟩
   ·rw [show (decide (0≤n) && decide (n≤20))=false by simp;omega]
    conv=>whnf
    rw [show ((some x).bind fun x=>if 0 < x∧0≤n∧n≤20 then some (lossQ x n.toNat) else none)=none by simp;intro _ _;omega]
    exact ⟨rfl,rfl,trivial,rfl⟩
  ·rw [decide_eq_false hx]
   conv=>whnf
   rw [show ((some x).bind fun x=>if 0 < x∧0≤n∧n≤20 then some (lossQ x n.toNat) else none)=none by simp [hx]]
   exact ⟨rfl,rfl,trivial,rfl⟩
def leastO (s t:List UInt8):Nat×Bool:=match rdRat s,rdRat t with
 | some x,some y=>if 0 < x then ((leastQ x y).getD 0,(leastQ x y).isSome) else (0,false)
 | _,_=>(0,false)
theorem fn_LeastServers (s t:List UInt8) (hs:s.length≤1000000000000) (ht:t.length≤1000000000000):Fn Tryz.prog 12 [Str s,Str t] [] (.tup [I (leastO s t).1,B (leastO s t).2]) []:=by
 have c:=fn_positive s hs
 have cr:=fn_readRat t ht
 refine Fn.intro (ks:=[0,1,4,5,6,7,8,9,25]) hty rfl rfl rfl rfl rfl ?_
 conv=>whnf
 unfold leastO
 cases h1:rdRat s with
 | none =>
  rw [h1,rO_eq] at c
  rw [rO_eq] at cr
  refine VCall.of_data c (ndT (fun k=>rfl)) ?_
  conv=>whnf
  refine VCall.of_data cr (ndT (fun k=>rfl)) ?_
  conv=>whnf
  exact ⟨rfl,rfl,trivial,rfl⟩
 | some x =>
  rw [h1] at c
  rw [show ((some x).any fun q=>decide (0 < q))=decide (0 < x) from rfl] at c
  have z1:=rdRat_sz h1
  refine VCall.of_data c (ndT (fun k=>rfl)) ?_
  conv=>whnf
  cases h2:rdRat t with
  | none =>
   rw [h2,rO_eq] at cr
   refine VCall.of_data cr (ndT (fun k=>rfl)) ?_
   by_cases hx:0 < x
   ·rw [decide_eq_true hx]
    conv=>whnf
    exact ⟨rfl,rfl,trivial,rfl⟩
   ·rw [decide_eq_false hx]
    conv=>whnf
    exact ⟨rfl,rfl,trivial,rfl⟩
  | some y =>
   rw [h2] at cr
   have z2:=rdRat_sz h2
   refine VCall.of_data cr (ndT (fun k=>rfl)) ?_
   by_cases hx:0 < x
   ·rw [decide_eq_true hx]
    have cl:=fn_leastServers x y hx (by omega) (by omega)
    conv=>whnf
    refine VCall.of_data cl (ndT (fun k=>rfl)) ?_
    conv=>whnf
    refine ⟨?_,?_,trivial,rfl⟩ <;> simp only [if_pos hx]
   ·rw [decide_eq_false hx]
    conv=>whnf
    refine ⟨?_,?_,trivial,rfl⟩ <;> simp only [if_neg hx] <;> rfl
theorem fn_ValidLine (us ds:List (List UInt8)) (hu:us.length≤1000000) (hd:ds.length≤1000000) (su:∀x,x∈us→x.length≤1000000) (sd:∀x,x∈ds→x.length≤1000000) :
  Fn Tryz.prog 18 [lnI us ds] [] (B (lineQ us ds).isSome) []:=by
 have c:=fn_lineOf us ds hu hd su sd
 refine Fn.intro (ks:=[0,1,2,4]) hty rfl rfl rfl rfl rfl ?_
 conv=>whnf
 refine VCall.of_data c (ndT (fun k=>rfl)) ?_
 conv=>whnf
 exact ⟨rfl,trivial,rfl⟩
def opO (f:Rat→Rat→Rat) (s t:List UInt8):Option Rat:=match rdRat s,rdRat t with
 | some p,some q=>some (f p q)
 | _,_=>none
theorem fn_withTwo (g:Nat) (f:Rat→Rat→Rat) (s t:List UInt8) (hs:s.length≤1000000000000) (ht:t.length≤1000000000000)
  (hf:∀p q,rdRat s=some p→rdRat t=some q→sz (f p q)≤100000000000∧Fn Tryz.prog g [rI p,rI q] [] (rI (f p q)) []) :
  Fn Tryz.prog 42 [Str s,Str t,.d (.fn g [])] [] (.tup [Str (toldO (opO f s t)).1,B (toldO (opO f s t)).2]) []:=by
 have c:=fn_two s t hs ht
 refine Fn.intro (ks:=[0,1,2,6,7,8,9,10,19]) hty rfl rfl rfl rfl rfl ?_
 conv=>whnf
 unfold opO
 cases h1:rdRat s with
 | none =>
  rw [h1,rO_eq,rO_eq] at c
  refine VCall.of_data c (ndT (fun k=>rfl)) ?_
  conv=>whnf
  exact ⟨rfl,rfl,trivial,rfl⟩
 | some p =>
  cases h2:rdRat t with
  | none =>
   rw [h1,h2,rO_eq,rO_eq] at c
   refine VCall.of_data c (ndT (fun k=>rfl)) ?_
   conv=>whnf
   exact ⟨rfl,rfl,trivial,rfl⟩
  | some q =>
   rw [h1,h2] at c
   obtain ⟨z,cf⟩:=hf p q h1 h2
   have ct:=fn_told (f p q) z
   refine VCall.of_data c (ndT (fun k=>rfl)) ?_
   conv=>whnf
   refine VCall.of_data cf (ndA (fun k=>rfl)) ?_
   conv=>whnf
   refine VCall.of_data ct (ndT (fun k=>rfl)) ?_
   conv=>whnf
   exact ⟨rfl,rfl,trivial,rfl⟩
theorem fn_AddFractions (s t:List UInt8) (hs:s.length≤1000000000000) (ht:t.length≤1000000000000):Fn Tryz.prog 16 [Str s,Str t] [] (.tup [Str (toldO (opO (· + ·) s t)).1,B (toldO (opO (· + ·) s t)).2]) []:=by
 have c:=fn_withTwo 43 (· + ·) s t hs ht (fun p q h1 h2=>by
  have z1:=rdRat_sz h1
  have z2:=rdRat_sz h2
  have:=sz_add p q
  exact ⟨by show sz (p+q)≤_;omega,fn_radd p q (by omega)⟩)
 refine Fn.intro (ks:=[0,1,4,5]) hty rfl rfl rfl rfl rfl ?_
 conv=>whnf
 refine VCall.of_data c (ndT (fun k=>rfl)) ?_
 conv=>whnf
 exact ⟨rfl,rfl,trivial,rfl⟩
end Go.V
namespace Go.V
open Go.Proofs Go.RowKit
set_option maxRecDepth 10000
set_option maxHeartbeats 1000000
def overO (s t:List UInt8):Option Rat:=match rdRat s,rdRat t with
 | some p,some q=>if q=0 then none else some (p / q)
 | _,_=>none
theorem fn_OverFraction (s t:List UInt8) (hs:s.length≤1000000000000) (ht:t.length≤1000000000000):Fn Tryz.prog 15 [Str s,Str t] [] (.tup [Str (toldO (overO s t)).1,B (toldO (overO s t)).2]) []:=by
 have cr:=fn_readRat t ht
 refine Fn.intro (ks:=[0,1,4,5,6,7,19]) hty rfl rfl rfl rfl rfl ?_
 conv=>whnf
 unfold overO
 cases h2:rdRat t with
 | none =>
  rw [h2,rO_eq] at cr
  refine VCall.of_data cr (ndT (fun k=>rfl)) ?_
  conv=>whnf
  rw [show toldO (match rdRat s,(none:Option Rat) with
   | some p,some q=>if q=0 then none else some (p / q)
   | _,_=>none)=([],false) by cases rdRat s <;> rfl]
  exact ⟨rfl,rfl,trivial,rfl⟩
 | some q =>
  rw [h2] at cr
  have z2:=rdRat_sz h2
  have cg:=fn_sign q (by omega)
  have hz:=@sgI_zero q
  refine VCall.of_data cr (ndT (fun k=>rfl)) ?_
  conv=>whnf
  refine VCall.of_data cg (nd _) ?_
  conv=>whnf
  by_cases h0:q=0
  ·rw [decide_eq_true (hz.2 h0)]
   conv=>whnf
   rw [show toldO (match rdRat s,some q with
    | some p,some q=>if q=0 then none else some (p / q)
    | _,_=>none)=([],false) by cases rdRat s <;> simp [h0] <;> rfl]
   exact ⟨rfl,rfl,trivial,rfl⟩
  ·rw [decide_eq_false (fun e=>h0 (hz.1 e))]
   have c:=fn_withTwo 37 (· / ·) s t hs ht (fun p q' h1 h2'=>by
    rw [h2] at h2';cases h2'
    have z1:=rdRat_sz h1
    have:=sz_div p h0
    exact ⟨by show sz (p / q)≤_;omega,fn_rover p q (by omega) (by omega) h0⟩)
   have e:opO (· / ·) s t=(match rdRat s,some q with
    | some p,some q=>if q=0 then none else some (p / q)
    | _,_=>none):=by
    unfold opO;rw [h2];cases rdRat s with
    | none=>rfl
    | some p=>simp only [if_neg h0]
   rw [e] at c
   conv=>whnf
   refine VCall.of_data c (ndT (fun k=>rfl)) ?_
   conv=>whnf
   exact ⟨rfl,rfl,trivial,rfl⟩
def servedQ (s:Rat) (servers:Nat) (i:Nat):Rat:=s*((min (i+1) servers:Nat):Int)
def servedL (s:Rat) (servers n:Nat):List Rat:=(List.range n).map (servedQ s servers)
theorem servedL_len (s:Rat) (servers n:Nat):(servedL s servers n).length=n:=by simp [servedL]
theorem servedL_succ (s:Rat) (servers n:Nat):servedL s servers (n+1)=servedL s servers n++[servedQ s servers n]:=by simp [servedL,List.range_succ]
theorem fn_served (s:Rat) (k n:Nat) (hz:sz s≤1000) (hk:k≤20) (hn:n≤20) :
  Fn Tryz.prog 24 [rI s,I k,I n] [] (.ls 0 0 n 3) [(0,.row true 3 (cQ (servedL s k n)))]:=by
 refine Fn.intro (ks:=[0,1,2,3,6,7,8,10,11,12]) hty rfl rfl rfl rfl rfl ?_;conv=>whnf
 refine VLoop.ren 9 23 rfl ?_;refine VLoop.inv hty (S:=Nat) (fun i=>[(11,I i),(10,I n),(7,.ls 23 0 i 3),(3,.lp 3 0),(1,I k)])
  (fun i=>[(23,.row true 3 (cQ (servedL s k i))),(3,.box true [B (ng s),nI (tp s),nI s.den])]) (fun i=>i≤n) (fun i=>n - i) 0 (Nat.zero_le _)
  ⟨rfl,rfl,rfl,rfl,rfl,trivial⟩ ⟨rfl,rfl,trivial⟩ ?_
 intro i hi;conv=>whnf
 refine Br.mk (fun h=>?_) (fun h=>?_)
 ·have h:i < n:=by simp only [decide_eq_true_eq] at h;omega
  conv=>whnf
  refine VDraw.go hmo hty 9 [[22],[22],[22],[22],[22],[22],[22],[22],[]] rfl ?_;conv=>whnf
  refine Wr.i64 (y:=((i+1:Nat):Int)) rfl (by omega) (by omega) ?_;conv=>whnf
  have em:min ((i+1:Nat):Int) (k:Int)=((min (i+1) k:Nat):Int):=by omega
  rw [em];obtain ⟨m,hm⟩:∃m,min (i+1) k=m:=⟨_,rfl⟩;have eq:servedQ s k i=s*((m:Nat):Int):=by unfold servedQ;rw [hm]
  rw [hm];have cw:=fn_whole m (by omega) (by omega);have zm:sz ((m:Int):Rat)≤20:=sz_nat (by omega);have cm:=fn_rmul s ((m:Int):Rat) (by omega) (by omega);rw [←eq] at cm;refine QCall.of_data cw (ndA fun k=>rfl) ?_;conv=>whnf
  refine QCall.of_data cm (ndA fun k=>rfl) ?_;conv=>whnf
  refine Sub.full rfl ?_;conv=>whnf
  refine Sub.full (by rw [cQ_len,servedL_len]) ?_;conv=>whnf
  refine ⟨by show (i+1)*56≤_;omega,?_⟩;conv=>whnf
  refine Wr.i64 (y:=((i+1:Nat):Int)) rfl (by omega) (by omega) ?_;conv=>whnf
  refine ⟨i+1,h,by show n - (i+1) < n - i;omega,⟨rfl,rfl,rfl,rfl,rfl,trivial⟩,?_,rfl,trivial⟩;show Ob.row true 3 (cQ _++cQ [servedQ s k i])=_;rw [cQ_append,servedL_succ]
 ·have h:i=n:=by simp only [decide_eq_false_iff_not] at h;omega
  subst h;conv=>whnf
  exact ⟨⟨rfl,rfl,rfl,rfl,rfl,rfl⟩,[],rfl,trivial,rfl⟩
theorem fn_toldLine (us ds:List Rat) (hu:us.length≤1000) (hd:ds.length≤1000) (su:∀q,q∈us→sz q≤100000000000) (sd:∀q,q∈ds→sz q≤100000000000) (fu:us.all fitsQ=true) (fd:ds.all fitsQ=true) :
  Fn Tryz.prog 22 [lQ us,lQ ds] [] (.tup [lnI (us.map ratT) (ds.map ratT),B true]) []:=by
 have c1:=fn_toldList us (by omega) su
 have c2:=fn_toldList ds (by omega) sd
 rw [show toldTs us=some (us.map ratT) by unfold toldTs;rw [if_pos fu]] at c1
 rw [show toldTs ds=some (ds.map ratT) by unfold toldTs;rw [if_pos fd]] at c2
 generalize us.map ratT=U at c1 ⊢
 generalize ds.map ratT=D at c2 ⊢
 replace c1:Fn Tryz.prog 50 [lQ us] [] (.tup [.ls 0 0 U.length 1,B true]) [(0,.row true 1 (cT U))]:=c1
 replace c2:Fn Tryz.prog 50 [lQ ds] [] (.tup [.ls 0 0 D.length 1,B true]) [(0,.row true 1 (cT D))]:=c2
 replace c1:=c1.freezeT (by rw [cT_len];omega) rfl
 replace c2:=c2.freezeT (by rw [cT_len];omega) rfl
 rw [List.drop_zero,List.take_of_length_le (by rw [cT_len];omega)] at c1 c2
 refine Fn.intro (ks:=[0,1,4,5,6,7,8,9,25]) hty rfl rfl rfl rfl rfl ?_
 conv=>whnf
 refine VCall.of_data c1 (ndT fun _=>rfl) ?_
 conv=>whnf
 refine VCall.of_data c2 (ndT fun _=>rfl) ?_
 conv=>whnf
 exact ⟨rfl,rfl,rfl,trivial,rfl⟩
theorem fn_servedD (s:Rat) (k n:Nat) (hz:sz s≤1000) (hk:k≤20) (hn:n≤20):Fn Tryz.prog 24 [rI s,I k,I n] [] (lQ (servedL s k n)) []:=by
 have c:=(fn_served s k n hz hk hn).freeze (by rw [cQ_len,servedL_len];omega)
 rwa [List.drop_zero,List.take_of_length_le (by rw [cQ_len,servedL_len];omega)] at c
def usersQ (t:Rat) (n i:Nat):Rat:=t*(((n - i:Nat):Int):Rat)
def usersL (t:Rat) (n k:Nat):List Rat:=(List.range k).map (usersQ t n)
theorem usersL_len (t:Rat) (n k:Nat):(usersL t n k).length=k:=by simp [usersL]
theorem usersL_succ (t:Rat) (n k:Nat):usersL t n (k+1)=usersL t n k++[usersQ t n k]:=by simp [usersL,List.range_succ]
theorem fn_UsersLine (th sv:List UInt8) (t s:Rat) (n k:Nat) (hth:th.length≤1000000) (hsv:sv.length≤1000000) (h1:rdRat th=some t) (h2:rdRat sv=some s) (ht:0 < t) (hs:0 < s) (hn:1≤n) (hn':n≤20) (hk:1≤k) (hk':k≤20)
  (fu:(usersL t n n).all fitsQ=true) (fd:(servedL s k n).all fitsQ=true) (su:∀q,q∈usersL t n n→sz q≤100000000000) (sd:∀q,q∈servedL s k n→sz q≤100000000000) :
  Fn Tryz.prog 17 [I n,I k,Str th,Str sv] [] (.tup [lnI ((usersL t n n).map ratT) ((servedL s k n).map ratT),B true]) []:=by
 have z1:=rdRat_sz h1;have z2:=rdRat_sz h2;have p1:=fn_positive th (by omega);have p2:=fn_positive sv (by omega);rw [h1,show ((some t).any fun q=>decide (0 < q))=true by simp [ht]] at p1;rw [h2,show ((some s).any fun q=>decide (0 < q))=true by simp [hs]] at p2;have i1:=fn_in k 1 20;have i2:=fn_in n 1 20;rw [show (decide ((1:Int)≤k) && decide ((k:Int)≤20))=true by simp;omega] at i1;rw [show (decide ((1:Int)≤n) && decide ((n:Int)≤20))=true by simp;omega] at i2;have cs:=fn_servedD s k n (by omega) hk' hn';have ct:=fn_toldLine (usersL t n n) (servedL s k n) (by rw [usersL_len];omega) (by rw [servedL_len];omega) su sd fu fd;refine Fn.intro (ks:=[0,1,2,3,8,9,10,11,12,13,14,15,41,44,45,46]) hty rfl rfl rfl rfl rfl ?_;conv=>whnf
 refine VCall.of_data p1 (ndT fun _=>rfl) ?_;conv=>whnf
 refine VCall.of_data p2 (ndT fun _=>rfl) ?_;conv=>whnf
 refine VCall.of_data i1 (nd _) ?_;conv=>whnf
 refine VCall.of_data i2 (nd _) ?_;conv=>whnf
 refine VLoop.ren 43 56 rfl ?_;refine VLoop.inv hty (S:=Nat) (fun i=>[(45,I i),(44,I n),(14,.ls 56 0 i 3),(12,.lp 12 0),(10,.lp 10 0),(9,B false),(8,.lp 8 0),(1,I k),(0,I n)])
  (fun i=>[(56,.row true 3 (cQ (usersL t n i))),(12,.box true [B (ng s),nI (tp s),nI s.den]),(10,.box true [B (ng t),nI (tp t),nI t.den]),(8,.box true _)]) (fun i=>i≤n) (fun i=>n - i) 0 (Nat.zero_le _)
  ⟨rfl,rfl,rfl,rfl,rfl,rfl,rfl,rfl,rfl,trivial⟩ ⟨rfl,rfl,rfl,rfl,trivial⟩ ?_
 intro i hi;conv=>whnf
 refine Br.mk (fun h=>?_) (fun h=>?_)
 ·have h:i < n:=by simp only [decide_eq_true_eq] at h;omega
  conv=>whnf
  refine VDraw.go hmo hty 8 [[55],[55],[55],[55],[55],[55],[55],[]] rfl ?_;conv=>whnf
  obtain ⟨m,hm⟩:∃m,n - i=m:=⟨_,rfl⟩;have eq:usersQ t n i=t*((m:Nat):Int):=by unfold usersQ;rw [hm]
  refine Wr.i64 (y:=((m:Nat):Int)) (by omega) (by omega) (by omega) ?_;conv=>whnf
  have cw:=fn_whole m (by omega) (by omega);have zm:sz ((m:Int):Rat)≤20:=sz_nat (by omega);have cm:=fn_rmul t ((m:Int):Rat) (by omega) (by omega);rw [←eq] at cm;refine QCall.of_data cw (ndA fun k=>rfl) ?_;conv=>whnf
  refine QCall.of_data cm (ndA fun k=>rfl) ?_;conv=>whnf
  refine Sub.full rfl ?_;conv=>whnf
  refine Sub.full (by rw [cQ_len,usersL_len]) ?_;conv=>whnf
  refine ⟨by show (i+1)*56≤_;omega,?_⟩;conv=>whnf
  refine Wr.i64 (y:=((i+1:Nat):Int)) rfl (by omega) (by omega) ?_;conv=>whnf
  refine ⟨i+1,h,by show n - (i+1) < n - i;omega,⟨rfl,rfl,rfl,rfl,rfl,rfl,rfl,rfl,rfl,trivial⟩,?_,rfl,rfl,rfl,trivial⟩;show Ob.row true 3 (cQ _++cQ [usersQ t n i])=_;rw [cQ_append,usersL_succ]
 ·have h:i=n:=by simp only [decide_eq_false_iff_not] at h;omega
  subst h;conv=>whnf
  refine VCall.of_data cs (nd _) ?_;conv=>whnf
  refine VCall.frzD 56 (n:=i) (sz:=3) (D:=cQ (usersL t i i)) ⟨rfl,rfl⟩ (by rw [cQ_len,usersL_len]) (by repeat first | exact trivial | refine ⟨⟨rfl,rfl,rfl⟩,?_⟩) ⟨⟨rfl,rfl,rfl⟩,trivial⟩ ?_;conv=>whnf
  refine VCall.of_data ct (ndT fun _=>rfl) ?_;conv=>whnf
  exact ⟨rfl,rfl,rfl,trivial,rfl⟩
end Go.V
namespace Go.V
open Go.Proofs Go.RowKit
set_option maxRecDepth 10000
set_option maxHeartbeats 1000000
theorem and32 {y:Nat} (h:y < 4294967296):(((BitVec.ofInt IntKind.u64.bits (y:Int) &&& BitVec.ofInt IntKind.u64.bits 4294967295).toNat:Nat):Int)=(y:Int):=by
 rw [BitVec.toNat_and]
 have e1:(BitVec.ofInt IntKind.u64.bits (y:Int)).toNat=y:=by
  show (BitVec.ofInt 64 (y:Int)).toNat=y
  rw [BitVec.toNat_ofInt];omega
 have e2:(BitVec.ofInt IntKind.u64.bits 4294967295).toNat=2 ^ 32 - 1:=rfl
 rw [e1,e2,Nat.and_two_pow_sub_one_eq_mod,Nat.mod_eq_of_lt h]
theorem shr0 {y:Nat} (h:y < 4294967296):((y:Nat):Int).fdiv (2 ^ min (Int.toNat 32) IntKind.u64.bits)=0:=by
 rw [show (2:Int) ^ min (Int.toNat 32) IntKind.u64.bits=4294967296 from rfl,Int.fdiv_eq_ediv_of_nonneg _ (by decide)]
 omega
theorem fn_Mul64 (y:Nat) (hy:y≤1000000):Fn Tryz.prog 77 [N64 1,N64 y] [] (.tup [N64 0,N64 y]) []:=by
 refine Fn.intro (ks:=[0,1,4,5,6,7,8,9,10,11,12,13]) hty rfl rfl rfl rfl rfl ?_
 conv=>whnf
 refine Wr.n64 (n:=1) (and32 (y:=1) (by omega)) (by omega) ?_
 conv=>whnf
 refine ⟨by decide,?_⟩
 conv=>whnf
 refine Wr.n64 (n:=y) (and32 (y:=y) (by omega)) (by omega) ?_
 conv=>whnf
 refine ⟨by decide,?_⟩
 conv=>whnf
 have e1:=shr0 (y:=1) (by omega)
 have ey:=shr0 (y:=y) (by omega)
 refine Wr.n64 (n:=y) (by omega) (by omega) ?_
 conv=>whnf
 refine Wr.n64 (n:=0) (by rw [e1];simp) (by omega) ?_
 conv=>whnf
 refine ⟨by decide,?_⟩
 conv=>whnf
 refine Wr.n64 (n:=0) (by rw [ey];rfl) (by omega) ?_
 conv=>whnf
 refine Wr.n64 (n:=0) (and32 (y:=0) (by omega)) (by omega) ?_
 conv=>whnf
 refine ⟨by decide,?_⟩
 conv=>whnf
 refine Wr.n64 (n:=0) (by rw [ey];rfl) (by omega) ?_
 conv=>whnf
 refine Wr.n64 (n:=0) rfl (by omega) ?_
 conv=>whnf
 refine Wr.n64 (n:=0) (by rw [e1,ey];rfl) (by omega) ?_
 conv=>whnf
 refine Wr.n64 (n:=0) (by rw [shr0 (y:=0) (by omega)];rfl) (by omega) ?_
 conv=>whnf
 refine ⟨by decide,?_⟩
 conv=>whnf
 refine Wr.n64 (n:=0) (by rw [shr0 (y:=0) (by omega)];rfl) (by omega) ?_
 conv=>whnf
 refine Wr.n64 (n:=y) (by omega) (by omega) ?_
 conv=>whnf
 exact ⟨rfl,rfl,trivial,rfl⟩
theorem fn_Mul (y:Nat) (hy:y≤1000000):Fn Tryz.prog 51 [N64 1,N64 y] [] (.tup [N64 0,N64 y]) []:=by
 refine Fn.intro (ks:=[0,1,4,5,6,7,8,9]) hty rfl rfl rfl rfl rfl ?_
 conv=>whnf
 refine VCall.of_data (fn_Mul64 y hy) (ndT fun _=>rfl) ?_
 conv=>whnf
 exact ⟨rfl,rfl,trivial,rfl⟩
abbrev zrQ:List C:=[.s (.bool false),.s (.slice none 0 0),.s (.slice none 0 0)]
def repQ (a:Rat) (n k:Nat):List (List C):=cQ (List.replicate k a)++List.replicate (n - k) zrQ
theorem repQ_len {a:Rat} {n k:Nat} (h:k≤n):(repQ a n k).length=n:=by
 unfold repQ;rw [List.length_append,cQ_len,List.length_replicate,List.length_replicate];omega
theorem repQ_all (a:Rat) (n:Nat):repQ a n n=cQ (List.replicate n a):=by unfold repQ;rw [Nat.sub_self];simp
theorem cQ_take (xs:List Rat) (k:Nat):(cQ xs).take k=cQ (xs.take k):=by unfold cQ;rw [List.map_take]
theorem repQ_copy {a:Rat} {n k m:Nat} (h:k≤n) (hm:m≤n - k) (hk:m≤k):(repQ a n k).take k++(((repQ a n k).take k).take m++(repQ a n k).drop (k+m))=repQ a n (k+m):=by
 have e1:(repQ a n k).take k=cQ (List.replicate k a):=by
  unfold repQ
  rw [List.take_append_of_le_length (by rw [cQ_len,List.length_replicate];exact Nat.le_refl _),List.take_of_length_le (by rw [cQ_len,List.length_replicate];exact Nat.le_refl _)]
 have e2:(repQ a n k).drop (k+m)=List.replicate (n - (k+m)) zrQ:=by
  unfold repQ
  rw [List.drop_append,List.drop_of_length_le (by rw [cQ_len,List.length_replicate];omega),cQ_len,List.length_replicate,List.drop_replicate]
  rw [List.nil_append];congr 1;omega
 rw [e1,e2,cQ_take,List.take_replicate,Nat.min_eq_left hk,←List.append_assoc,cQ_append,List.replicate_append_replicate]
 rfl
end Go.V
namespace Go.V
open Go.Proofs Go.RowKit
set_option maxRecDepth 100000
set_option maxHeartbeats 0
def qq (a b:Nat):Rat:=((a:Int):Rat) / ((b:Int):Rat)
def smallB (q:Rat):Bool:=decide (tp q < 2 ^ 190) && decide (q.den < 2 ^ 190)
theorem smallB_sz {q:Rat} (h:smallB q=true):sz q≤190:=by
 unfold smallB at h
 simp only [Bool.and_eq_true,decide_eq_true_eq] at h
 have h1:=bl_le h.1
 have h2:=bl_le h.2
 unfold sz
 omega
def rts:List Rat:=[qq 1 1,qq 1 2,qq 1 3,qq 1 4,qq 2 1,qq 2 3,qq 3 1,qq 3 2,qq 3 4,qq 4 1,qq 4 3,qq 5 1,qq 5 2,qq 5 3,qq 5 4,qq 6 1]
def memChk:Bool:=(List.range 6).all fun a=>(List.range 4).all fun b=>rts.any fun r=>decide (qq (a+1) (b+1)=r)
theorem memChk_t:memChk=true:=by decide +kernel
theorem qq_mem {a b:Nat} (h1:1≤a) (h2:a≤6) (h3:1≤b) (h4:b≤4):qq a b∈rts:=by
 have h:=List.all_eq_true.1 (List.all_eq_true.1 memChk_t (a - 1) (List.mem_range.2 (by omega))) (b - 1) (List.mem_range.2 (by omega))
 obtain ⟨r,hr,e⟩:=List.any_eq_true.1 h
 rw [show a - 1+1=a by omega,show b - 1+1=b by omega] at e
 rw [of_decide_eq_true e]
 exact hr
def posChk:Bool:=rts.all fun r=>decide (0 < r) && smallB r && smallB (1 / r)
theorem posChk_t:posChk=true:=by decide +kernel
def chk1:Bool:=rts.all fun r=>(List.range 4).all fun c=>decide (lossF (List.replicate (c+1) r) (servedL 1 (c+1) (c+1))=lossQ r (c+1)) && decide (lossQ r (c+1) < lossQ r c)
theorem chk1_t:chk1=true:=by decide +kernel
def chk2:Bool:=rts.all fun r=>(List.range 21).all fun n=>smallB (lossQ r n)
theorem chk2_t:chk2=true:=by decide +kernel
def chk3:Bool:=rts.all fun r=>(List.range 7).all fun k=>match leastQ r (qq k 6) with
 | some n=>decide (n≤20) && (decide (lossQ r n≤qq k 6) && (decide (n=0) || decide (qq k 6 < lossQ r (n - 1))))
 | none=>true
theorem chk3_t:chk3=true:=by decide +kernel
def one4 (p q:Rat) (c l:Nat):Bool :=
 let x:=List.replicate l p
 let y:=servedL q c l
 let t:=timeF x y
 let w:=timeW c x y
 decide (t=w+1 / q) && (smallB t && smallB w)
def chk4 (p:Rat):Bool:=rts.all fun q=>(List.range 4).all fun c=>(List.range 5).all fun l=>one4 p q (c+1) (l+1)
theorem chk4_0:chk4 (qq 1 1)=true:=by decide +kernel
theorem chk4_1:chk4 (qq 1 2)=true:=by decide +kernel
theorem chk4_2:chk4 (qq 1 3)=true:=by decide +kernel
theorem chk4_3:chk4 (qq 1 4)=true:=by decide +kernel
theorem chk4_4:chk4 (qq 2 1)=true:=by decide +kernel
theorem chk4_5:chk4 (qq 2 3)=true:=by decide +kernel
theorem chk4_6:chk4 (qq 3 1)=true:=by decide +kernel
theorem chk4_7:chk4 (qq 3 2)=true:=by decide +kernel
theorem chk4_8:chk4 (qq 3 4)=true:=by decide +kernel
theorem chk4_9:chk4 (qq 4 1)=true:=by decide +kernel
theorem chk4_10:chk4 (qq 4 3)=true:=by decide +kernel
theorem chk4_11:chk4 (qq 5 1)=true:=by decide +kernel
theorem chk4_12:chk4 (qq 5 2)=true:=by decide +kernel
theorem chk4_13:chk4 (qq 5 3)=true:=by decide +kernel
theorem chk4_14:chk4 (qq 5 4)=true:=by decide +kernel
theorem chk4_15:chk4 (qq 6 1)=true:=by decide +kernel
theorem chk4_t {p:Rat} (h:p∈rts):chk4 p=true:=by
 unfold rts at h
 simp only [List.mem_cons,List.not_mem_nil,or_false] at h
 rcases h with h | h | h | h | h | h | h | h | h | h | h | h | h | h | h | h <;> subst h
 ·exact chk4_0
 ·exact chk4_1
 ·exact chk4_2
 ·exact chk4_3
 ·exact chk4_4
 ·exact chk4_5
 ·exact chk4_6
 ·exact chk4_7
 ·exact chk4_8
 ·exact chk4_9
 ·exact chk4_10
 ·exact chk4_11
 ·exact chk4_12
 ·exact chk4_13
 ·exact chk4_14
 ·exact chk4_15
theorem one4_t {p q:Rat} (hp:p∈rts) (hq:q∈rts) {c l:Nat} (h1:1≤c) (h2:c≤4) (h3:1≤l) (h4:l≤5) :
  timeF (List.replicate l p) (servedL q c l)=timeW c (List.replicate l p) (servedL q c l)+1 / q∧sz (timeF (List.replicate l p) (servedL q c l))≤190∧sz (timeW c (List.replicate l p) (servedL q c l))≤190:=by
 have h:=List.all_eq_true.1 (List.all_eq_true.1 (List.all_eq_true.1 (chk4_t hp) q hq) (c - 1) (List.mem_range.2 (by omega))) (l - 1) (List.mem_range.2 (by omega))
 rw [show c - 1+1=c by omega,show l - 1+1=l by omega] at h
 unfold one4 at h
 simp only [Bool.and_eq_true,decide_eq_true_eq] at h
 exact ⟨h.1,smallB_sz h.2.1,smallB_sz h.2.2⟩
theorem rts_pos {r:Rat} (h:r∈rts):0 < r∧sz r≤190∧sz (1 / r)≤190:=by
 have h:=List.all_eq_true.1 posChk_t r h
 simp only [Bool.and_eq_true,decide_eq_true_eq] at h
 exact ⟨h.1.1,smallB_sz h.1.2,smallB_sz h.2⟩
theorem loss_line {r:Rat} (h:r∈rts) {c:Nat} (h1:1≤c) (h2:c≤4):lossF (List.replicate c r) (servedL 1 c c)=lossQ r c∧lossQ r c < lossQ r (c - 1):=by
 have h:=List.all_eq_true.1 (List.all_eq_true.1 chk1_t r h) (c - 1) (List.mem_range.2 (by omega))
 rw [show c - 1+1=c by omega] at h
 simpa only [Bool.and_eq_true,decide_eq_true_eq] using h
theorem loss_small {r:Rat} (h:r∈rts) {n:Nat} (hn:n≤20):sz (lossQ r n)≤190 :=
 smallB_sz (List.all_eq_true.1 (List.all_eq_true.1 chk2_t r h) n (List.mem_range.2 (by omega)))
theorem least_law {r:Rat} (h:r∈rts) {k n:Nat} (hk:k≤6) (hl:leastQ r (qq k 6)=some n):n≤20∧lossQ r n≤qq k 6∧(n=0∨qq k 6 < lossQ r (n - 1)):=by
 have h:=List.all_eq_true.1 (List.all_eq_true.1 chk3_t r h) k (List.mem_range.2 (by omega))
 rw [hl] at h
 simpa only [Bool.and_eq_true,Bool.or_eq_true,decide_eq_true_eq] using h
end Go.V
namespace Go.V
open Go.Proofs Go.RowKit
set_option maxRecDepth 10000
set_option maxHeartbeats 1000000
abbrev lB (bs:List Nat):AV:=.d (.sl (cW .u8 bs))
theorem fn_r8Long (a b:List Nat):Fn Tryz.prog 4 [lB a,lB b] [] (B (decide (48 < a.length) || decide (48 < b.length))) []:=by
 refine Fn.intro (ks:=[0,1,4]) hty rfl rfl rfl rfl rfl ?_
 conv=>whnf
 rw [cW_len]
 by_cases h:48 < a.length
 ·rw [show decide ((48:Int) < (a.length:Int))=true by simp;omega]
  conv=>whnf
  exact ⟨by simp [h],trivial,rfl⟩
 ·rw [show decide ((48:Int) < (a.length:Int))=false by simp;omega]
  conv=>whnf
  rw [cW_len]
  refine ⟨?_,trivial,rfl⟩
  rw [show decide ((48:Int) < (b.length:Int))=decide (48 < b.length) by rw [decide_eq_decide];omega]
  simp [h]
def at8 (a:List Nat) (k m:Nat):Nat:=if m≤1∨a.length≤k then 0 else a.getD k 0 % m
theorem fn_r8At (a:List Nat) (k m:Nat) (hm:m≤1000000) (hk:k≤1000000) (ha:∀x,x∈a→x < 256):Fn Tryz.prog 6 [lB a,I k,I m] [] (I (at8 a k m)) []:=by
 refine Fn.intro (ks:=[0,1,2,6,14]) hty rfl rfl rfl rfl rfl ?_;conv=>whnf
 unfold at8;by_cases h1:m≤1
 ·rw [show decide ((m:Int)≤1)=true by simp;omega];conv=>whnf
  exact ⟨by rw [if_pos (.inl h1)];rfl,trivial,rfl⟩
 ·rw [show decide ((m:Int)≤1)=false by simp;omega];conv=>whnf
  rw [cW_len];by_cases h2:a.length≤k
  ·rw [show decide ((a.length:Int)≤(k:Int))=true by simp;omega];conv=>whnf
   exact ⟨by rw [if_pos (.inr h2)];rfl,trivial,rfl⟩
  ·rw [show decide ((a.length:Int)≤(k:Int))=false by simp;omega];conv=>whnf
   obtain ⟨x,ex⟩:∃x,a.getD k 0=x:=⟨_,rfl⟩;have hx:x < 256:=by rw [←ex,gD,List.getElem?_eq_getElem (by omega)];exact ha _ (List.getElem_mem _)
   refine ⟨⟨⟨by omega,by rw [cW_len];omega⟩,cW_sz _ _⟩,?_⟩;conv=>whnf
   refine ⟨_,cW_as (by omega) ex,?_⟩;conv=>whnf
   refine Wr.fit (wrap_i64 (by omega) (by omega)) ?_;conv=>whnf
   refine ⟨by omega,?_⟩;conv=>whnf
   obtain ⟨y,ey⟩:∃y,x % m=y:=⟨_,rfl⟩;have hy:(x:Int).tmod (m:Int)=(y:Int):=by rw [←ey];exact (Int.ofNat_tmod x m).symm
   have hyl:y≤x:=by rw [←ey];exact Nat.mod_le _ _
   rw [if_neg (by omega),ex,ey,hy];exact ⟨rfl,trivial,rfl⟩
theorem fn_l01Of (a b:Nat) (ha:a≤1000) (hb:1≤b) (hb':b≤1000):Fn Tryz.prog 19 [I a,I b] [] (Str (ratT (((a:Int):Rat) / ((b:Int):Rat)))) []:=by
 have c1:=fn_sInt a (by omega) (by omega)
 have c2:=fn_sInt b (by omega) (by omega)
 have hb0:((b:Int):Rat)≠0:=fun e=>by have:=q_cast_pos (n:=b) (by omega);grind
 have z1:=sz_nat (n:=a) (by omega)
 have z2:=sz_nat (n:=b) (by omega)
 have z3:=sz_div ((a:Int):Rat) hb0
 have c3:=fn_sOver ((a:Int):Rat) ((b:Int):Rat) (by omega) hb0
 have c4:=fn_sShow (((a:Int):Rat) / ((b:Int):Rat)) (by omega)
 refine Fn.intro (ks:=[0,1,4]) hty rfl rfl rfl rfl rfl ?_
 conv=>whnf
 refine VCall.of_data c1 (ndA fun k=>rfl) ?_
 conv=>whnf
 refine VCall.of_data c2 (ndA fun k=>rfl) ?_
 conv=>whnf
 refine VCall.of_data c3 (ndA fun k=>rfl) ?_
 conv=>whnf
 refine VCall.of_data c4 (nd _) ?_
 conv=>whnf
 exact ⟨rfl,trivial,rfl⟩
def rate8 (a:List Nat) (k:Nat):Rat:=if k < a.length then (((1+a.getD k 0 % 6:Nat):Int):Rat) / (((1+a.getD k 0 / 6 % 4:Nat):Int):Rat) else ((2:Int):Rat) / ((3:Int):Rat)
theorem fn_R8Rate (a:List Nat) (k:Nat) (hk:k≤1000000) (ha:∀x,x∈a→x < 256):Fn Tryz.prog 5 [lB a,I k] [] (Str (ratT (rate8 a k))) []:=by
 refine Fn.intro (ks:=[0,1,4,5,6,10]) hty rfl rfl rfl rfl rfl ?_;conv=>whnf
 rw [cW_len];unfold rate8;by_cases h:k < a.length
 ·rw [show decide ((k:Int) < (a.length:Int))=true by simp;omega,if_pos h];obtain ⟨x,ex⟩:∃x,a.getD k 0=x:=⟨_,rfl⟩;have hx:x < 256:=by rw [←ex,gD,List.getElem?_eq_getElem (by omega)];exact ha _ (List.getElem_mem _)
  rw [ex];conv=>whnf
  refine ⟨⟨⟨by omega,by rw [cW_len];omega⟩,cW_sz _ _⟩,?_⟩;conv=>whnf
  refine ⟨_,cW_as (by omega) ex,?_⟩;conv=>whnf
  refine Wr.fit (wrap_i64 (by omega) (by omega)) ?_;conv=>whnf
  refine ⟨by omega,?_⟩;conv=>whnf
  obtain ⟨y,ey⟩:∃y,1+x % 6=y:=⟨_,rfl⟩;obtain ⟨z,ez⟩:∃z,1+x / 6 % 4=z:=⟨_,rfl⟩;rw [ey,ez];have hy:(1:Int)+(x:Int).tmod 6=(y:Int):=by rw [show (x:Int).tmod 6=((x % 6:Nat):Int) from (Int.ofNat_tmod x 6).symm];omega
  have hz:(1:Int)+((x:Int).tdiv 6).tmod 4=(z:Int):=by
   rw [show (x:Int).tdiv 6=((x / 6:Nat):Int) from (Int.ofNat_tdiv x 6).symm,show ((x / 6:Nat):Int).tmod 4=((x / 6 % 4:Nat):Int) from (Int.ofNat_tmod (x / 6) 4).symm];omega
  have hz6:(x:Int).tdiv 6=((x / 6:Nat):Int):=(Int.ofNat_tdiv x 6).symm;refine Wr.i64 (y:=(y:Int)) hy (by omega) (by omega) ?_;conv=>whnf
  refine ⟨⟨⟨by omega,by rw [cW_len];omega⟩,cW_sz _ _⟩,?_⟩;conv=>whnf
  refine ⟨_,cW_as (by omega) ex,?_⟩;conv=>whnf
  refine Wr.fit (wrap_i64 (by omega) (by omega)) ?_;conv=>whnf
  refine ⟨by omega,?_⟩;conv=>whnf
  refine Wr.i64 (y:=((x / 6:Nat):Int)) hz6 (by omega) (by omega) ?_;conv=>whnf
  refine ⟨by omega,?_⟩;conv=>whnf
  rw [hz6] at hz;refine Wr.i64 (y:=(z:Int)) hz (by omega) (by omega) ?_;conv=>whnf
  have c:=fn_l01Of y z (by omega) (by omega) (by omega);refine VCall.of_data c (nd _) ?_;conv=>whnf
  exact ⟨rfl,trivial,rfl⟩
 ·rw [show decide ((k:Int) < (a.length:Int))=false by simp;omega,if_neg h];conv=>whnf
  have c:=fn_l01Of 2 3 (by omega) (by omega) (by omega);refine VCall.of_data c (nd _) ?_;conv=>whnf
  exact ⟨rfl,trivial,rfl⟩
def share8 (a:List Nat) (k:Nat):Rat:=(((if k < a.length then a.getD k 0 % 7 else 1:Nat):Int):Rat) / ((6:Int):Rat)
theorem fn_R8Share (a:List Nat) (k:Nat) (hk:k≤1000000) (ha:∀x,x∈a→x < 256):Fn Tryz.prog 11 [lB a,I k] [] (Str (ratT (share8 a k))) []:=by
 refine Fn.intro (ks:=[0,1,4,5,9]) hty rfl rfl rfl rfl rfl ?_;conv=>whnf
 rw [cW_len];unfold share8;by_cases h:k < a.length
 ·rw [show decide ((k:Int) < (a.length:Int))=true by simp;omega,if_pos h];obtain ⟨x,ex⟩:∃x,a.getD k 0=x:=⟨_,rfl⟩;have hx:x < 256:=by rw [←ex,gD,List.getElem?_eq_getElem (by omega)];exact ha _ (List.getElem_mem _)
  rw [ex];conv=>whnf
  refine ⟨⟨⟨by omega,by rw [cW_len];omega⟩,cW_sz _ _⟩,?_⟩;conv=>whnf
  refine ⟨_,cW_as (by omega) ex,?_⟩;conv=>whnf
  refine Wr.fit (wrap_i64 (by omega) (by omega)) ?_;conv=>whnf
  refine ⟨by omega,?_⟩;conv=>whnf
  obtain ⟨y,ey⟩:∃y,x % 7=y:=⟨_,rfl⟩;rw [ey,show (x:Int).tmod 7=(y:Int) by rw [←ey];exact (Int.ofNat_tmod x 7).symm];have c:=fn_l01Of y 6 (by omega) (by omega) (by omega);refine VCall.of_data c (nd _) ?_;conv=>whnf
  exact ⟨rfl,trivial,rfl⟩
 ·rw [show decide ((k:Int) < (a.length:Int))=false by simp;omega,if_neg h];conv=>whnf
  have c:=fn_l01Of 1 6 (by omega) (by omega) (by omega);refine VCall.of_data c (nd _) ?_;conv=>whnf
  exact ⟨rfl,trivial,rfl⟩
end Go.V
namespace Go.V
open Go.Proofs Go.RowKit
set_option maxRecDepth 10000
set_option maxHeartbeats 1000000
theorem fits190 {q:Rat} (h:sz q≤190):fitsQ q=true:=by
 have h1:=dd_bl (tp q)
 have h2:=dd_bl q.den
 have h3:=bl_tp q
 have h4:=bl_den q
 unfold fitsQ
 rw [decide_eq_true (by omega),decide_eq_true (by omega)];rfl
theorem ratT_len {q:Rat} (h:sz q≤190):(ratT q).length≤1000:=by
 have h:=fits190 h
 unfold fitsQ at h
 simp only [Bool.and_eq_true,decide_eq_true_eq] at h
 unfold ratT
 simp only [List.length_append]
 split <;> split <;> simp <;> omega
theorem rat_back {q:Rat} (h:sz q≤190):rdRat (ratT q)=some q:=rdRat_ratT (fits190 h)
theorem told_fit {q:Rat} (h:sz q≤190):toldO (some q)=(ratT q,true):=by
 show (toldT q,fitsQ q)=_
 unfold toldT
 rw [fits190 h];rfl
theorem cmp_fit {p q:Rat} (hp:sz p≤190) (hq:sz q≤190):cmpO (ratT p) (ratT q)=(if p < q then -1 else if q < p then 1 else 0,true):=by
 unfold cmpO
 rw [rat_back hp,rat_back hq]
theorem allO_back:∀{us:List Rat},(∀q,q∈us→sz q≤190)→allO rdRat (us.map ratT)=some us
 | [],_=>rfl
 | q :: us,h=>by
  have ih:=allO_back (us:=us) fun x hx=>h x (List.mem_cons_of_mem _ hx)
  rw [List.map_cons]
  simp only [allO,rat_back (h q (by simp)),ih]
  try rfl
theorem line_read {us ds:List Rat} (h1:1≤us.length) (h2:us.length≤20) (hd:ds.length=us.length) (hu:∀q,q∈us→0 < q∧sz q≤190) (hv:∀q,q∈ds→0 < q∧sz q≤190) :
  lineQ (us.map ratT) (ds.map ratT)=some (us,ds):=by
 have e1:rdRats (us.map ratT)=some us:=by
  unfold rdRats
  rw [List.length_map,if_neg (by omega)]
  exact allO_back fun q hq=>(hu q hq).2
 have e2:rdRats (ds.map ratT)=some ds:=by
  unfold rdRats
  rw [List.length_map,if_neg (by omega)]
  exact allO_back fun q hq=>(hv q hq).2
 unfold lineQ
 rw [List.length_map,List.length_map,if_neg (by omega),e1,e2]
 dsimp only
 have g1:(us.any fun q=>decide (q≤0))=false:=List.any_eq_false.2 fun q hq=>by have:=(hu q hq).1;simp;grind
 have g2:(ds.any fun q=>decide (q≤0))=false:=List.any_eq_false.2 fun q hq=>by have:=(hv q hq).1;simp;grind
 rw [g1,g2];rfl
theorem served_in {q:Rat} (hq:0 < q) (hs:sz q≤100) {c l:Nat} (h1:1≤c) (h2:c≤20):∀x,x∈servedL q c l→0 < x∧sz x≤190:=fun x hx=>by
 obtain ⟨i,_,rfl⟩:=List.mem_map.1 hx;unfold servedQ;obtain ⟨m,em⟩:∃m,min (i+1) c=m:=⟨_,rfl⟩;rw [em];have hm:1≤m:=by omega
 have z1:=sz_nat (n:=m) (by omega);have z2:=sz_mul q ((m:Int):Rat);have hp:(0:Rat) < ((m:Int):Rat):=q_cast_pos (n:=m) (by omega);exact ⟨Rat.mul_pos hq hp,by omega⟩
theorem users_in {q:Rat} (hq:0 < q) (hs:sz q≤100) {n:Nat} (hn:n≤20):∀x,x∈usersL q n n→0 < x∧sz x≤190:=fun x hx=>by
 obtain ⟨i,hi,rfl⟩:=List.mem_map.1 hx;have hi:i < n:=List.mem_range.1 hi;unfold usersQ;obtain ⟨m,em⟩:∃m,n - i=m:=⟨_,rfl⟩;rw [em];have hm:1≤m:=by omega
 have z1:=sz_nat (n:=m) (by omega);have z2:=sz_mul q ((m:Int):Rat);have hp:(0:Rat) < ((m:Int):Rat):=q_cast_pos (n:=m) (by omega);exact ⟨Rat.mul_pos hq hp,by omega⟩
def posChk2:Bool:=rts.all fun r=>decide (tp r < 2 ^ 20) && decide (r.den < 2 ^ 20)
theorem posChk2_t:posChk2=true:=by decide +kernel
theorem rts_sz {r:Rat} (h:r∈rts):sz r≤20:=by
 have h:=List.all_eq_true.1 posChk2_t r h
 simp only [Bool.and_eq_true,decide_eq_true_eq] at h
 have h1:=bl_le h.1
 have h2:=bl_le h.2
 unfold sz
 omega
theorem rate8_mem (a:List Nat) (k:Nat):rate8 a k∈rts:=by
 unfold rate8
 split
 ·exact qq_mem (a:=1+a.getD k 0 % 6) (b:=1+a.getD k 0 / 6 % 4) (by omega) (by have:=Nat.mod_lt (a.getD k 0) (y:=6) (by decide);omega) (by omega) (by have:=Nat.mod_lt (a.getD k 0 / 6) (y:=4) (by decide);omega)
 ·exact qq_mem (a:=2) (b:=3) (by decide) (by decide) (by decide) (by decide)
end Go.V
namespace Go.V
open Go.Proofs Go.RowKit
set_option maxRecDepth 10000
set_option maxHeartbeats 4000000
theorem Fn.freezeP {P:Program} {f:FuncId} {xs:List AV} {lo n sz sz2:Nat} {rows rows2:List (List C)} {l0:LL} (h:Fn P f xs l0 (.ls 0 lo n sz) [(0,.row true sz rows),(1000000,.row true sz2 rows2)]) (hn:n+lo≤rows.length):Fn P f xs l0 (.d (.sl ((rows.drop lo).take n))) [(1000000,.row true sz2 rows2)] where
 en:=h.en
 out:=fun κ ρ w vs hm hs hv=>(h.out κ ρ w vs hm hs hv).mono fun e w' ⟨v,κ',ρ',h1,h2,h3,h4⟩=>by
  have hob:=h3.ob 0
  obtain ⟨L,_,_,_,hL,_⟩:=hob
  obtain ⟨κ'',g1,g2,_,g4⟩:=h3.freeze (id:=0) rfl hL
  exact ⟨v,κ'',_,h1,Know.le_trans h2 g1,g2,g4 v lo n h4 hn⟩
theorem VCall.keep1 {P:Program} {t:TL} {l:LL} {f:FuncId} {xs xs0:List AV} {sz:Nat} {rows:List (List C)} {c:C} {dst:Option Nat} {K:AV→TL→LL→Prop} (a:Nat)
  (h:Fn P f xs0 [(1000000,.row true sz rows)] (.d c) [(1000000,.row true sz rows)]) (ha:argR (pmap [(1000000,a)]) xs xs0) (hl:lget a l = .row true sz rows) (hK:K (.d c) t l):VCall P f xs dst t l K where
 en:=h.en
 out:=fun G κ ρ a' w vs hr hs hv=>by
  have hv0:VCall P f xs dst t l (fun x t1 l1=>x = .d c∧t1=t∧l1=(a,.row true sz rows) :: l):=VCall.par1 a h ha hl ⟨rfl,rfl,rfl⟩
  refine (hv0.out G κ ρ a' w vs hr hs hv).mono ?_
  rintro e w' ⟨v,κ',ρ',x',t',l',he,h1,h2,h3,h4⟩
  obtain ⟨rfl,rfl,rfl⟩:=h4
  obtain ⟨ρ'',g1,g2⟩:=h2.less (t':=t') (l':=l) (fun i=>.inr rfl) (fun i=>by
   rw [lget_cons]
   by_cases hi:i=a
   ·subst hi;rw [if_pos rfl];exact .inr hl
   ·rw [if_neg hi];exact .inr rfl)
  exact ⟨v,κ',ρ'',_,_,_,he,h1,g2,.d _ _ h3.repr,hK⟩
theorem QCall.keep1 {P:Program} {f:FuncId} {xs xs0:List AV} {l:LL} {sz:Nat} {rows:List (List C)} {c:C} {K:AV→Prop} (a:Nat)
  (h:Fn P f xs0 [(1000000,.row true sz rows)] (.d c) [(1000000,.row true sz rows)]) (ha:argR (pmap [(1000000,a)]) xs xs0) (hl:lget a l = .row true sz rows) (hm:AV.ments a xs=true) (hK:K (.d c)):QCall P f xs l K :=
 ⟨_,hK,fun _ _ _ hl'=>VCall.keep1 a h ha (by rw [hl' a hm];exact hl) ⟨rfl,rfl,rfl⟩⟩
theorem fn_slRepeatP (a:Rat) (n:Nat) (h1:1≤n) (hn:n≤20):Fn Tryz.prog 23 [.ls 1000000 0 1 3,I n] [(1000000,.row true 3 (cQ [a]))] (.ls 0 0 n 3) [(0,.row true 3 (cQ (List.replicate n a))),(1000000,.row true 3 (cQ [a]))]:=by
 refine Fn.intro (ks:=[0,1,4,5,6,7,8,10,26,37]) hty rfl rfl rfl rfl rfl ?_;conv=>whnf
 rw [show decide ((n:Int) < 0)=false by simp];conv=>whnf
 refine Wr.n64 (n:=1) rfl (by omega) ?_;conv=>whnf
 refine Wr.n64 (n:=n) rfl (by omega) ?_;conv=>whnf
 refine VCall.of_data (fn_Mul n (by omega)) (ndT fun _=>rfl) ?_;conv=>whnf
 rw [show decide (((9223372036854775807:Int)) < (n:Int))=false by simp;omega];conv=>whnf
 refine Wr.fit (wrap_i64 (by omega) (by omega)) ?_;conv=>whnf
 refine ⟨⟨by omega,by omega,by show (n:Int)*((56:Nat):Int)≤_;omega,by omega⟩,?_⟩;conv=>whnf
 refine Sub.full rfl ?_;conv=>whnf
 refine ⟨by show 0+((n:Int)).toNat≤(List.replicate ((n:Int)).toNat _).length;rw [List.length_replicate];omega,?_⟩;conv=>whnf
 have e0:List.take 0 (List.replicate ((n:Int)).toNat zrQ)++((cQ [a]).take (Nat.min 1 ((n:Int)).toNat)++(List.replicate ((n:Int)).toNat zrQ).drop (0+Nat.min 1 ((n:Int)).toNat))=repQ a n 1:=by
  rw [show ((n:Int)).toNat=n by omega,show Nat.min 1 n=1 from Nat.min_eq_left h1,List.drop_replicate];unfold repQ;rw [List.take_zero,List.nil_append,List.take_of_length_le (by rw [cQ_len];simp)]
  rfl
 refine VLoop.inv hty (S:=Nat) (fun k=>[(8,I k),(7,.ls 30 0 n 3)]) (fun k=>[(30,.row true 3 (repQ a n k)),(1000000,.row true 3 (cQ [a]))]) (fun k=>1≤k∧k≤n) (fun k=>n - k) 1 ⟨Nat.le_refl _,h1⟩
  ⟨?_,?_,trivial⟩ ⟨?_,rfl,trivial⟩ ?_
 ·show I ((Nat.min 1 ((n:Int)).toNat:Nat):Int)=I 1;rw [show Nat.min 1 ((n:Int)).toNat=1 from Nat.min_eq_left (by omega)];rfl
 ·show AV.ls 30 0 ((n:Int)).toNat 3=AV.ls 30 0 n 3;rw [show ((n:Int)).toNat=n by omega]
 ·rw [←e0];rfl
 rintro k ⟨hk1,hk2⟩;conv=>whnf
 refine Br.mk (fun h=>?_) (fun h=>?_)
 ·have h:k < n:=by simp only [decide_eq_true_eq] at h;omega
  have hl:=repQ_len (a:=a) hk2;have g1:(0≤(k:Int)∧(k:Int)≤n∧((n:Int)).toNat+0≤(repQ a n k).length):=⟨by omega,by omega,by rw [hl];omega⟩;have g2:(0≤(0:Int)∧(0:Int)≤k∧((k:Int)).toNat+0≤(repQ a n k).length):=⟨by omega,by omega,by rw [hl];omega⟩;have hc:=repQ_copy (a:=a) (n:=n) (k:=k) (m:=min k (n - k)) hk2 (Nat.min_le_right _ _) (Nat.min_le_left _ _);have hmin:1≤min k (n - k):=by omega
  conv=>whnf
  have hs:(0:Int).toNat+0+((k:Int) - 0).toNat≤(repQ a n k).length:=by rw [hl];omega
  have hd:(k:Int).toNat+0+((n:Int) - (k:Int)).toNat≤(repQ a n k).length:=by rw [hl];omega
  have hmm:Nat.min ((k:Int) - 0).toNat ((n:Int) - (k:Int)).toNat=min k (n - k):=by
   show min _ _=_;rw [show ((k:Int) - 0).toNat=k by omega,show ((n:Int) - (k:Int)).toNat=n - k by omega]
  refine VDraw.goS hmo hty [0,1,2,4,5] rfl ?_;conv=>whnf
  repeat' (first
   | (refine ⟨g1,?_⟩;conv=>whnf)
   | (refine ⟨g2,?_⟩;conv=>whnf)
   | (refine Sub.lo hs ?_;conv=>whnf)
   | (refine ⟨hd,?_⟩;conv=>whnf)
   | (refine Wr.i64 (y:=((k+min k (n - k):Nat):Int)) (by rw [hmm];rfl) (by omega) (by omega) ?_;conv=>whnf)
   | (refine ⟨k+min k (n - k),⟨by omega,by omega⟩,by show n - (k+min k (n - k)) < n - k;omega,⟨rfl,rfl,trivial⟩,?_,rfl,trivial⟩;rw [←hc,←hmm];rfl)
   | (refine ⟨?_,?_⟩ <;> conv=>whnf))
 ·have h:k=n:=by simp only [decide_eq_false_iff_not] at h;omega
  subst h;rw [repQ_all];conv=>whnf
  exact ⟨⟨rfl,rfl,rfl,rfl,rfl,rfl⟩,_,rfl,⟨rfl,trivial⟩,rfl⟩
theorem fn_ServersLine (th sv:List UInt8) (t s:Rat) (k n:Nat) (hth:th.length≤1000000) (hsv:sv.length≤1000000) (h1:rdRat th=some t) (h2:rdRat sv=some s) (ht:0 < t) (hs:0 < s) (hn:1≤n) (hn':n≤20) (hk:1≤k) (hk':k≤20)
  (fu:∀q,q∈List.replicate n t→sz q≤190) (fd:∀q,q∈servedL s k n→sz q≤190) :
  Fn Tryz.prog 7 [Str th,Str sv,I k,I n] [] (.tup [lnI ((List.replicate n t).map ratT) ((servedL s k n).map ratT),B true]) []:=by
 have z1:=rdRat_sz h1
 have z2:=rdRat_sz h2
 have p1:=fn_positive th (by omega)
 have p2:=fn_positive sv (by omega)
 rw [h1,show ((some t).any fun q=>decide (0 < q))=true by simp [ht]] at p1
 rw [h2,show ((some s).any fun q=>decide (0 < q))=true by simp [hs]] at p2
 have i1:=fn_in k 1 20
 have i2:=fn_in n 1 20
 rw [show (decide ((1:Int)≤k) && decide ((k:Int)≤20))=true by simp;omega] at i1
 rw [show (decide ((1:Int)≤n) && decide ((n:Int)≤20))=true by simp;omega] at i2
 have cr:=(fn_slRepeatP t n hn hn').freezeP (by rw [cQ_len,List.length_replicate];omega)
 rw [List.drop_zero,List.take_of_length_le (by rw [cQ_len,List.length_replicate];omega)] at cr
 have cs:=fn_servedD s k n (by omega) hk' hn'
 have ct:=fn_toldLine (List.replicate n t) (servedL s k n) (by rw [List.length_replicate];omega) (by rw [servedL_len];omega) (fun q hq=>by have:=fu q hq;omega) (fun q hq=>by have:=fd q hq;omega)
  (List.all_eq_true.2 fun q hq=>fits190 (fu q hq)) (List.all_eq_true.2 fun q hq=>fits190 (fd q hq))
 generalize (List.replicate n t).map ratT=U at ct ⊢
 generalize (servedL s k n).map ratT=D at ct ⊢
 generalize List.replicate n t=X at cr ct
 generalize servedL s k n=Y at cs ct
 refine Fn.intro (ks:=[0,1,2,3,8,9,10,11,12,13,39]) hty rfl rfl rfl rfl rfl ?_
 conv=>whnf
 refine VCall.of_data p1 (ndT fun _=>rfl) ?_
 conv=>whnf
 refine VCall.of_data p2 (ndT fun _=>rfl) ?_
 conv=>whnf
 refine VCall.of_data i1 (nd _) ?_
 conv=>whnf
 refine VCall.of_data i2 (nd _) ?_
 conv=>whnf
 refine VDraw.go hmo hty 11 [[42],[],[42],[],[42],[42],[42],[],[],[],[]] rfl ?_
 conv=>whnf
 refine QCall.keep1 42 cr ⟨⟨rfl,rfl,rfl,rfl⟩,rfl,trivial⟩ rfl rfl ?_
 conv=>whnf
 refine QCall.of_data cs (nd _) ?_
 conv=>whnf
 refine QCall.of_data ct (ndT fun _=>rfl) ?_
 conv=>whnf
 exact ⟨rfl,rfl,rfl,trivial,rfl⟩
end Go.V
namespace Go.V
open Go.Proofs Go.RowKit
set_option maxRecDepth 10000
set_option maxHeartbeats 0
theorem fit_byteS {c:C} (h:Fit c (.i .u8)):∃n:Nat,c = .s (.int .u8 (n:Int))∧n < 256:=by
 cases h with
 | i _ n h =>
  have h2:0≤n∧n < 256:=by
   simp [Lit.wf,IntKind.min,IntKind.max,IntKind.signed,IntKind.bits] at h
   omega
  exact ⟨n.toNat,by rw [Int.toNat_of_nonneg h2.1],by omega⟩
theorem fit_bytes {c:C} (h:Fit c (.sl [.i .u8])):∃xs:List Nat,c = .sl (cW .u8 xs)∧xs.length < 2 ^ 47∧∀x,x∈xs→x < 256:=by
 cases h with
 | sl rows _ h hl hf =>
  obtain ⟨xs,h1⟩:=rows_one (α:={ n:Nat // n < 256 }) (p:=fun c=>Fit c (.i .u8)) (g:=fun n=>.s (.int .u8 (n.1:Int))) (fun c hc=>by
   obtain ⟨n,h1,h2⟩:=fit_byteS hc;exact ⟨⟨n,h2⟩,h1⟩) hl (fun r hr c hc=>hf r hr 0 c _ hc rfl)
  subst h1
  refine ⟨xs.map (·.1),by simp [cW],by have:=reach_lt;simp at h ⊢;omega,fun x hx=>?_⟩
  obtain ⟨y,_,rfl⟩:=List.mem_map.1 hx
  exact y.2
theorem one_read:rdRat [49]=some 1:=by
 have e:rdRat [49]=some (mkRat (sgn false 1) 1):=by decide +kernel
 rw [e];rfl
theorem gLoss {r:Rat} (h:r∈rts) {n:Nat} (hn:n≤20):Fn Tryz.prog 9 [Str (ratT r),I n] [] (.tup [Str (ratT (lossQ r n)),B true]) []:=by
 have hs:=rts_sz h
 have c:=fn_LossChance (ratT r) n (by have:=ratT_len (q:=r) (by omega);omega)
 have e:lossO (ratT r) n=some (lossQ r n):=by
  unfold lossO
  rw [rat_back (by omega)]
  show (if 0 < r∧0≤(n:Int)∧(n:Int)≤20 then some (lossQ r (n:Int).toNat) else none)=_
  rw [if_pos ⟨(rts_pos h).1,by omega,by omega⟩,Int.toNat_natCast]
 rw [e,told_fit (loss_small h hn)] at c
 exact c
theorem gCmp {p q:Rat} (hp:sz p≤190) (hq:sz q≤190):Fn Tryz.prog 10 [Str (ratT p),Str (ratT q)] [] (.tup [I (if p < q then -1 else if q < p then 1 else 0),B true]) []:=by
 have c:=fn_CompareFractions (ratT p) (ratT q) (by have:=ratT_len hp;omega) (by have:=ratT_len hq;omega)
 rw [cmp_fit hp hq] at c
 exact c
theorem mapT_len {us:List Rat} (h:∀q,q∈us→sz q≤190):∀x,x∈us.map ratT→x.length≤1000000:=fun x hx=>by
 obtain ⟨q,hq,rfl⟩:=List.mem_map.1 hx
 have:=ratT_len (h q hq)
 omega
theorem rep_in {p:Rat} (h:p∈rts) (l:Nat):∀q,q∈List.replicate l p→0 < q∧sz q≤190:=fun q hq=>by
 rw [(List.mem_replicate.1 hq).2]
 exact ⟨(rts_pos h).1,(rts_pos h).2.1⟩
theorem gServers {p s:Rat} (hp:p∈rts) {sv:List UInt8} (hsv:sv.length≤1000000) (h2:rdRat sv=some s) (hs:0 < s) (hz:sz s≤100) {c l:Nat} (h1:1≤c) (h2':c≤4) (h3:1≤l) (h4:l≤5) :
  Fn Tryz.prog 7 [Str (ratT p),Str sv,I c,I l] [] (.tup [lnI ((List.replicate l p).map ratT) ((servedL s c l).map ratT),B true]) [] :=
 fn_ServersLine (ratT p) sv p s c l (by have:=ratT_len (rts_pos hp).2.1;omega) hsv (rat_back (rts_pos hp).2.1) h2 (rts_pos hp).1 hs h3 (by omega) h1 (by omega) (fun q hq=>(rep_in hp l q hq).2) (fun q hq=>(served_in hs hz h1 (by omega) q hq).2)
theorem gLine {p s:Rat} (hp:p∈rts) (hs:0 < s) (hz:sz s≤100) {c l:Nat} (h1:1≤c) (h2':c≤4) (h3:1≤l) (h4:l≤5) :
  lineQ ((List.replicate l p).map ratT) ((servedL s c l).map ratT)=some (List.replicate l p,servedL s c l) :=
 line_read (by rw [List.length_replicate];exact h3) (by rw [List.length_replicate];omega) (by rw [servedL_len,List.length_replicate]) (rep_in hp l) (served_in hs hz h1 (by omega))
theorem gLossLine {r:Rat} (h:r∈rts) {c:Nat} (h1:1≤c) (h2:c≤4):Fn Tryz.prog 8 [lnI ((List.replicate c r).map ratT) ((servedL 1 c c).map ratT)] [] (.tup [Str (ratT (lossQ r c)),B true]) []:=by
 have one:(0:Rat) < 1:=by decide
 have k0:=fn_LineLoss ((List.replicate c r).map ratT) ((servedL 1 c c).map ratT) (by rw [List.length_map,List.length_replicate];omega) (by rw [List.length_map,servedL_len];omega) (mapT_len fun q hq=>(rep_in h c q hq).2) (mapT_len fun q hq=>(served_in one (by decide) h1 (by omega) q hq).2);have e:lnO ((List.replicate c r).map ratT) ((servedL 1 c c).map ratT) lossF=some (lossQ r c):=by
  unfold lnO;rw [gLine h one (by decide) h1 h2 h1 (by omega)];show some (lossF (List.replicate c r) (servedL 1 c c))=_;rw [(loss_line h h1 h2).1]
 rw [e,told_fit (loss_small h (by omega))] at k0;exact k0
section
variable {p q:Rat} (hp:p∈rts) (hq:q∈rts) {c l:Nat} (h1:1≤c) (h2:c≤4) (h3:1≤l) (h4:l≤5)
include hp hq h1 h2 h3 h4
theorem gTimeIn:Fn Tryz.prog 13 [lnI ((List.replicate l p).map ratT) ((servedL q c l).map ratT)] [] (.tup [Str (ratT (timeF (List.replicate l p) (servedL q c l))),B true]) []:=by
 have hs:=(rts_pos hq).1;have hz:sz q≤100:=by have:=rts_sz hq;omega
 have k:=fn_TimeIn ((List.replicate l p).map ratT) ((servedL q c l).map ratT) (by rw [List.length_map,List.length_replicate];omega) (by rw [List.length_map,servedL_len];omega) (mapT_len fun x hx=>(rep_in hp l x hx).2) (mapT_len fun x hx=>(served_in hs hz h1 (by omega) x hx).2);have e:lnO ((List.replicate l p).map ratT) ((servedL q c l).map ratT) timeF=some (timeF (List.replicate l p) (servedL q c l)):=by
  unfold lnO;rw [gLine hp hs hz h1 h2 h3 h4];rfl
 rw [e,told_fit (one4_t hp hq h1 h2 h3 h4).2.1] at k;exact k
theorem gTimeW:Fn Tryz.prog 14 [lnI ((List.replicate l p).map ratT) ((servedL q c l).map ratT),I c] [] (.tup [Str (ratT (timeW c (List.replicate l p) (servedL q c l))),B true]) []:=by
 have hs:=(rts_pos hq).1;have hz:sz q≤100:=by have:=rts_sz hq;omega
 have k:=fn_TimeWaiting ((List.replicate l p).map ratT) ((servedL q c l).map ratT) c (by rw [List.length_map,List.length_replicate];omega) (by rw [List.length_map,servedL_len];omega) (mapT_len fun x hx=>(rep_in hp l x hx).2) (mapT_len fun x hx=>(served_in hs hz h1 (by omega) x hx).2);have e:lnS ((List.replicate l p).map ratT) ((servedL q c l).map ratT) c (timeW c)=some (timeW c (List.replicate l p) (servedL q c l)):=by
  unfold lnS lnO;rw [if_pos (by simp;omega),gLine hp hs hz h1 h2 h3 h4];rfl
 rw [e,told_fit (one4_t hp hq h1 h2 h3 h4).2.2] at k;exact k
theorem gAdd:Fn Tryz.prog 16 [Str (ratT (timeW c (List.replicate l p) (servedL q c l))),Str (ratT (1 / q))] [] (.tup [Str (ratT (timeF (List.replicate l p) (servedL q c l))),B true]) []:=by
 obtain ⟨e1,e2,e3⟩:=one4_t hp hq h1 h2 h3 h4
 have hq2:=(rts_pos hq).2.2
 have k:=fn_AddFractions (ratT (timeW c (List.replicate l p) (servedL q c l))) (ratT (1 / q)) (by have:=ratT_len e3;omega) (by have:=ratT_len hq2;omega)
 have e:opO (· + ·) (ratT (timeW c (List.replicate l p) (servedL q c l))) (ratT (1 / q))=some (timeF (List.replicate l p) (servedL q c l)):=by
  unfold opO
  rw [rat_back e3,rat_back hq2,e1]
 rw [e,told_fit e2] at k
 exact k
theorem gUsers:Fn Tryz.prog 17 [I l,I c,Str (ratT p),Str (ratT q)] [] (.tup [lnI ((usersL p l l).map ratT) ((servedL q c l).map ratT),B true]) []:=by
 have hs:=(rts_pos hq).1;have hz:sz q≤100:=by have:=rts_sz hq;omega
 have hzp:sz p≤100:=by have:=rts_sz hp;omega
 have u:=users_in (rts_pos hp).1 hzp (n:=l) (by omega);have v:=served_in hs hz h1 (l:=l) (by omega:c≤20);exact fn_UsersLine (ratT p) (ratT q) p q l c (by have:=ratT_len (rts_pos hp).2.1;omega) (by have:=ratT_len (rts_pos hq).2.1;omega) (rat_back (rts_pos hp).2.1) (rat_back (rts_pos hq).2.1) (rts_pos hp).1 hs h3 (by omega) h1 (by omega)
  (List.all_eq_true.2 fun x hx=>fits190 (u x hx).2) (List.all_eq_true.2 fun x hx=>fits190 (v x hx).2) (fun x hx=>by have:=(u x hx).2;omega) (fun x hx=>by have:=(v x hx).2;omega)
theorem gValid:Fn Tryz.prog 18 [lnI ((usersL p l l).map ratT) ((servedL q c l).map ratT)] [] (B true) []:=by
 have hs:=(rts_pos hq).1;have hz:sz q≤100:=by have:=rts_sz hq;omega
 have hzp:sz p≤100:=by have:=rts_sz hp;omega
 have u:=users_in (rts_pos hp).1 hzp (n:=l) (by omega);have v:=served_in hs hz h1 (l:=l) (by omega:c≤20);have k:=fn_ValidLine ((usersL p l l).map ratT) ((servedL q c l).map ratT) (by rw [List.length_map,usersL_len];omega) (by rw [List.length_map,servedL_len];omega) (mapT_len fun x hx=>(u x hx).2) (mapT_len fun x hx=>(v x hx).2);rw [line_read (by rw [usersL_len];exact h3) (by rw [usersL_len];omega) (by rw [servedL_len,usersL_len]) u v] at k;exact k
end
theorem gOver {q:Rat} (hq:q∈rts):Fn Tryz.prog 15 [Str [49],Str (ratT q)] [] (.tup [Str (ratT (1 / q)),B true]) []:=by
 have k:=fn_OverFraction [49] (ratT q) (by decide) (by have:=ratT_len (rts_pos hq).2.1;omega)
 have e:overO [49] (ratT q)=some (1 / q):=by
  unfold overO
  rw [one_read,rat_back (rts_pos hq).2.1]
  dsimp only
  rw [if_neg (fun e=>by have:=(rts_pos hq).1;rw [e] at this;exact absurd this (by decide))]
 rw [e,told_fit (rts_pos hq).2.2] at k
 exact k
theorem share_eq (a:List Nat) (k:Nat):∃j,j≤6∧share8 a k=qq j 6:=by
 refine ⟨if k < a.length then a.getD k 0 % 7 else 1,?_,rfl⟩
 split
 ·have:=Nat.mod_lt (a.getD k 0) (y:=7) (by decide);omega
 ·decide
theorem share_sz {j:Nat} (hj:j≤6):sz (qq j 6)≤190:=by
 have h:(List.range 7).all (fun j=>smallB (qq j 6))=true:=by decide +kernel
 exact smallB_sz (List.all_eq_true.1 h j (List.mem_range.2 (by omega)))
theorem gLeast {r:Rat} (h:r∈rts) {j:Nat} (hj:j≤6):Fn Tryz.prog 12 [Str (ratT r),Str (ratT (qq j 6))] [] (.tup [I ((leastQ r (qq j 6)).getD 0:Nat),B (leastQ r (qq j 6)).isSome]) []:=by
 have k:=fn_LeastServers (ratT r) (ratT (qq j 6)) (by have:=ratT_len (rts_pos h).2.1;omega) (by have:=ratT_len (share_sz hj);omega)
 have e:leastO (ratT r) (ratT (qq j 6))=((leastQ r (qq j 6)).getD 0,(leastQ r (qq j 6)).isSome):=by
  unfold leastO
  rw [rat_back (rts_pos h).2.1,rat_back (share_sz hj)]
  dsimp only
  rw [if_pos (rts_pos h).1]
 rw [e] at k
 exact k
end Go.V
namespace Go.V
open Go.Proofs Go.RowKit
set_option maxRecDepth 10000
set_option maxHeartbeats 0
theorem law_servers (code more:List Nat) (hc:code.length < 2 ^ 47) (hm:more.length < 2 ^ 47) (hbc:∀x,x∈code→x < 256) (hbm:∀x,x∈more→x < 256):Fn Tryz.prog 3 [lB code,lB more] [] (B true) []:=by
 refine Fn.intro (ks:=[0,1,4,5,6,7,8,9,10,11,12,13,14,15,16,17,18,19,20,21,22,23,24,25,26,27,28,29,30,31,32,33,34,35,36,37,38,39,40,41,42,45,108,117,139,141,164]) hty rfl rfl rfl rfl rfl ?_;conv=>whnf
 refine VCall.of_data (fn_r8Long code more) (nd _) ?_;conv=>whnf
 by_cases hL:code.length≤48∧more.length≤48
 case neg =>
  rw [show (decide (48 < code.length) || decide (48 < more.length))=true by simp;omega];conv=>whnf
  exact ⟨rfl,trivial,rfl⟩
 rw [show (decide (48 < code.length) || decide (48 < more.length))=false by simp;omega];have k1:=fn_R8Rate code 0 (by decide) hbc;have hr:=rate8_mem code 0;generalize rate8 code 0=r at k1 hr;have k2:=fn_r8At code 1 4 (by decide) (by decide) hbc;have a4:at8 code 1 4 < 4:=by
  unfold at8;split
  ·decide
  ·exact Nat.mod_lt _ (by decide)
 generalize at8 code 1 4=a at k2 a4;obtain ⟨c,ec⟩:∃c:Nat,1+a=c:=⟨_,rfl⟩;have c1:1≤c:=by omega
 have c4:c≤4:=by omega
 have k3:=gServers hr (sv:=[49]) (by decide) one_read (by decide) (by decide) c1 c4 c1 (by omega);have k4:=gLossLine hr c1 c4;have k5:=gLoss hr (n:=c) (by omega);have k6:=gLoss hr (n:=c - 1) (by omega);have k7:=gCmp (loss_small hr (n:=c) (by omega)) (loss_small hr (n:=c - 1) (by omega));rw [if_pos (loss_line hr c1 c4).2] at k7;have k8:=fn_R8Share code 2 (by decide) hbc;obtain ⟨j,hj,ej⟩:=share_eq code 2;rw [ej] at k8;have k9:=gLeast hr hj;have q1:=fn_R8Rate more 0 (by decide) hbm;have q2:=fn_R8Rate more 1 (by decide) hbm;have hp:=rate8_mem more 0;have hq:=rate8_mem more 1;generalize rate8 more 0=p at q1 hp;generalize rate8 more 1=q at q2 hq;have q3:=fn_r8At more 2 5 (by decide) (by decide) hbm;have b5:at8 more 2 5 < 5:=by
  unfold at8;split
  ·decide
  ·exact Nat.mod_lt _ (by decide)
 generalize at8 more 2 5=b at q3 b5;obtain ⟨l,el⟩:∃l:Nat,1+b=l:=⟨_,rfl⟩;have l1:1≤l:=by omega
 have l5:l≤5:=by omega
 have q4:=gServers hp (sv:=ratT q) (by have:=ratT_len (rts_pos hq).2.1;omega) (rat_back (rts_pos hq).2.1) (rts_pos hq).1 (by have:=rts_sz hq;omega) c1 c4 l1 l5;have q5:=gTimeIn hp hq c1 c4 l1 l5;have q6:=gTimeW hp hq c1 c4 l1 l5;have q7:=gOver hq;have q8:=gAdd hp hq c1 c4 l1 l5;have q9:=gUsers hp hq c1 c4 l1 l5;have q10:=gValid hp hq c1 c4 l1 l5;have hU:((usersL p l l).map ratT).length=l:=by rw [List.length_map,usersL_len]
 generalize ratT (timeF (List.replicate l p) (servedL q c l))=tt at q5 q8;generalize ratT (timeW c (List.replicate l p) (servedL q c l))=tw at q6 q8;generalize (List.replicate l p).map ratT=U2 at q4 q5 q6;generalize (usersL p l l).map ratT=U3 at q9 q10 hU;generalize (servedL q c l).map ratT=D2 at q4 q5 q6 q9 q10;generalize ratT (1 / q)=tq1 at q7 q8;generalize ratT p=tp0 at q1 q4 q9;generalize ratT q=tq at q2 q4 q7 q9;have zU:((cT U3).length:Int)=l:=by rw [cT_len,hU]
 have hleast:∀n,leastQ r (qq j 6)=some n→n≤20∧lossQ r n≤qq j 6∧(n=0∨qq j 6 < lossQ r (n - 1)):=fun n e=>least_law hr hj e;have hsz:∀n:Nat,n≤20→sz (lossQ r n)≤190:=fun n hn=>loss_small hr hn;have hL1:∀n:Nat,n≤20→Fn Tryz.prog 9 [Str (ratT r),I n] [] (.tup [Str (ratT (lossQ r n)),B true]) []:=fun n hn=>gLoss hr hn;have hC1:∀n:Nat,n≤20→Fn Tryz.prog 10 [Str (ratT (lossQ r n)),Str (ratT (qq j 6))] [] (.tup [I (if lossQ r n < qq j 6 then -1 else if qq j 6 < lossQ r n then 1 else 0),B true]) []:=fun n hn=>gCmp (hsz n hn) (share_sz hj);generalize (List.replicate c r).map ratT=U1 at k3 k4;generalize (servedL 1 c c).map ratT=D1 at k3 k4;generalize ratT (qq j 6)=ts at k8 k9 hC1;generalize ratT r=tr at k1 k3 k5 k6 k9 hL1;have k5':=k5;generalize ratT (lossQ r c)=tl at k4 k5' k7;generalize ratT (lossQ r (c - 1))=tf at k6 k7;conv=>whnf
 refine VCall.of_data k1 (nd _) ?_;conv=>whnf
 refine VCall.of_data k2 (nd _) ?_;conv=>whnf
 refine Wr.i64 (y:=(c:Int)) (by omega) (by omega) (by omega) ?_;conv=>whnf
 refine VCall.of_data k3 (ndT fun _=>rfl) ?_;conv=>whnf
 refine VCall.of_data k4 (ndT fun _=>rfl) ?_;conv=>whnf
 refine VCall.of_data k5' (ndT fun _=>rfl) ?_;conv=>whnf
 refine Wr.i64 (y:=((c - 1:Nat):Int)) (by omega) (by omega) (by omega) ?_;conv=>whnf
 refine VCall.of_data k6 (ndT fun _=>rfl) ?_;conv=>whnf
 refine VCall.of_data k7 (ndT fun _=>rfl) ?_;conv=>whnf
 rw [show ((⟨tl.toArray⟩:ByteArray).toList == (⟨tl.toArray⟩:ByteArray).toList)=true by simp];conv=>whnf
 refine VCall.of_data k8 (nd _) ?_;conv=>whnf
 cases hle:leastQ r (qq j 6) with
 | none =>
  rw [hle] at k9;replace k9:Fn Tryz.prog 12 [Str tr,Str ts] [] (.tup [I 0,B false]) []:=k9;refine VCall.of_data k9 (ndT fun _=>rfl) ?_;conv=>whnf
  refine VCall.of_data q1 (nd _) ?_;conv=>whnf
  refine VCall.of_data q2 (nd _) ?_;conv=>whnf
  refine VCall.of_data q3 (nd _) ?_;conv=>whnf
  refine Wr.i64 (y:=(l:Int)) (by omega) (by omega) (by omega) ?_;conv=>whnf
  refine VCall.of_data q4 (ndT fun _=>rfl) ?_;conv=>whnf
  refine VCall.of_data q5 (ndT fun _=>rfl) ?_;conv=>whnf
  refine VCall.of_data q6 (ndT fun _=>rfl) ?_;conv=>whnf
  refine VCall.of_data q7 (ndT fun _=>rfl) ?_;conv=>whnf
  refine VCall.of_data q8 (ndT fun _=>rfl) ?_;conv=>whnf
  refine VCall.of_data q9 (ndT fun _=>rfl) ?_;conv=>whnf
  rw [show ((⟨tt.toArray⟩:ByteArray).toList == (⟨tt.toArray⟩:ByteArray).toList)=true by simp];conv=>whnf
  rw [zU,decide_eq_true (rfl:((l:Nat):Int)=(l:Int))];conv=>whnf
  refine VCall.of_data q10 (nd _) ?_;conv=>whnf
  exact ⟨rfl,trivial,rfl⟩
 | some n =>
  obtain ⟨n1,n2,n3⟩:=hleast n hle;rw [hle] at k9;replace k9:Fn Tryz.prog 12 [Str tr,Str ts] [] (.tup [I n,B true]) []:=k9;have m1:=hL1 n n1;have m2:=hC1 n n1;rw [if_neg (show ¬qq j 6 < lossQ r n by grind)] at m2;obtain ⟨z,ez⟩:∃z:Int,(if lossQ r n < qq j 6 then -1 else 0)=z:=⟨_,rfl⟩;have hz:z≤0:=by rw [←ez];split <;> decide
  rw [ez] at m2;generalize ratT (lossQ r n)=tn at m1 m2;refine VCall.of_data k9 (ndT fun _=>rfl) ?_;conv=>whnf
  refine VCall.of_data m1 (ndT fun _=>rfl) ?_;conv=>whnf
  refine VCall.of_data m2 (ndT fun _=>rfl) ?_;conv=>whnf
  rw [decide_eq_false (show ¬(0:Int) < z by omega)];conv=>whnf
  by_cases h0:n=0
  ·rw [decide_eq_false (show ¬(0:Int) < (n:Int) by omega)];conv=>whnf
   refine VCall.of_data q1 (nd _) ?_;conv=>whnf
   refine VCall.of_data q2 (nd _) ?_;conv=>whnf
   refine VCall.of_data q3 (nd _) ?_;conv=>whnf
   refine Wr.i64 (y:=(l:Int)) (by omega) (by omega) (by omega) ?_;conv=>whnf
   refine VCall.of_data q4 (ndT fun _=>rfl) ?_;conv=>whnf
   refine VCall.of_data q5 (ndT fun _=>rfl) ?_;conv=>whnf
   refine VCall.of_data q6 (ndT fun _=>rfl) ?_;conv=>whnf
   refine VCall.of_data q7 (ndT fun _=>rfl) ?_;conv=>whnf
   refine VCall.of_data q8 (ndT fun _=>rfl) ?_;conv=>whnf
   refine VCall.of_data q9 (ndT fun _=>rfl) ?_;conv=>whnf
   rw [show ((⟨tt.toArray⟩:ByteArray).toList == (⟨tt.toArray⟩:ByteArray).toList)=true by simp];conv=>whnf
   rw [zU,decide_eq_true (rfl:((l:Nat):Int)=(l:Int))];conv=>whnf
   refine VCall.of_data q10 (nd _) ?_;conv=>whnf
   exact ⟨rfl,trivial,rfl⟩
  ·rw [decide_eq_true (show (0:Int) < (n:Int) by omega)];have m3:=hL1 (n - 1) (by omega);have m4:=hC1 (n - 1) (by omega);have hgt:=n3.resolve_left h0;rw [if_neg (show ¬lossQ r (n - 1) < qq j 6 by grind),if_pos hgt] at m4;generalize ratT (lossQ r (n - 1))=tm at m3 m4;conv=>whnf
   refine Wr.i64 (y:=((n - 1:Nat):Int)) (by omega) (by omega) (by omega) ?_;conv=>whnf
   refine VCall.of_data m3 (ndT fun _=>rfl) ?_;conv=>whnf
   refine VCall.of_data m4 (ndT fun _=>rfl) ?_;conv=>whnf
   refine VCall.of_data q1 (nd _) ?_;conv=>whnf
   refine VCall.of_data q2 (nd _) ?_;conv=>whnf
   refine VCall.of_data q3 (nd _) ?_;conv=>whnf
   refine Wr.i64 (y:=(l:Int)) (by omega) (by omega) (by omega) ?_;conv=>whnf
   refine VCall.of_data q4 (ndT fun _=>rfl) ?_;conv=>whnf
   refine VCall.of_data q5 (ndT fun _=>rfl) ?_;conv=>whnf
   refine VCall.of_data q6 (ndT fun _=>rfl) ?_;conv=>whnf
   refine VCall.of_data q7 (ndT fun _=>rfl) ?_;conv=>whnf
   refine VCall.of_data q8 (ndT fun _=>rfl) ?_;conv=>whnf
   refine VCall.of_data q9 (ndT fun _=>rfl) ?_;conv=>whnf
   rw [show ((⟨tt.toArray⟩:ByteArray).toList == (⟨tt.toArray⟩:ByteArray).toList)=true by simp];conv=>whnf
   rw [zU,decide_eq_true (rfl:((l:Nat):Int)=(l:Int))];conv=>whnf
   refine VCall.of_data q10 (nd _) ?_;conv=>whnf
   exact ⟨rfl,trivial,rfl⟩
end Go.V
