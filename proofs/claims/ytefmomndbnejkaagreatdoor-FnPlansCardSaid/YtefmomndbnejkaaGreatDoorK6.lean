/- Part 6: the abstract machine, its soundness, contracts of functions. -/
import Derived.Test.YtefmomndbnejkaaGreatDoorK5
import Derived.Shelf.Strconv.Itoa3
import Derived.Lib.AppendIntMem
import Derived.Lib.SliceRun
import Derived.WalkKit
import Derived.Lib.Repeat
import Derived.Lib.Join
import Derived.Test.YtefmomndbnejkaaGreatDoorK4
import Derived.Test.YtefmomndbnejkaaGreatDoorK3
set_option linter.unusedVariables false
set_option linter.unusedSimpArgs false
namespace Go.V
open Go.Proofs Go.RowKit
set_option maxRecDepth 10000
set_option maxHeartbeats 1000000
abbrev U8 (c:UInt8):AV:=.d (.s (.int .u8 (c.toNat:Nat)))
def CutI (c:UInt8) (s:List UInt8) (q:List (List UInt8)×Nat×Nat):Prop :=
 q.2.1≤q.2.2∧((q.2.2≤s.length∧splitB c s=q.1++splitB c (s.drop q.2.1)∧c ∉ (s.drop q.2.1).take (q.2.2 - q.2.1))∨(q.2.2=s.length+1∧splitB c s=q.1))∧q.1.length≤q.2.2
theorem fn_sCut (s:List UInt8) (c:UInt8) (hs:s.length≤1000000000):Fn Tryz.prog 83 [Str s,U8 c] [] (lT (splitB c s)) []:=by
 refine Fn.intro (ks:=[0,1,4,5,6,7,12,25]) hty rfl rfl rfl rfl rfl ?_;conv=>whnf
 refine VLoop.ren 8 32 rfl ?_;refine VLoop.inv hty (S:=List (List UInt8)×Nat×Nat) (fun q=>[(7,I (q.2.2:Nat)),(6,I (q.2.1:Nat)),(5,.ls 32 0 q.1.length 1),(1,U8 c),(0,Str s)]) (fun q=>[(32,.row true 1 (cT q.1))]) (CutI c s) (fun q=>s.length+1 - q.2.2) ([],0,0)
  ⟨Nat.le_refl _,.inl ⟨Nat.zero_le _,by simp,by simp⟩,Nat.le_refl _⟩ ⟨rfl,rfl,rfl,rfl,rfl,trivial⟩ ⟨rfl,trivial⟩ ?_
 intro q hI;obtain ⟨out,eo⟩:∃x,q.1=x:=⟨_,rfl⟩;obtain ⟨f,ef⟩:∃x,q.2.1=x:=⟨_,rfl⟩;obtain ⟨i,ei⟩:∃x,q.2.2=x:=⟨_,rfl⟩;unfold CutI at hI;rw [eo,ef,ei] at hI;rw [eo,ef,ei];obtain ⟨hfi,hor,hol⟩:=hI;conv=>whnf
 refine Br.mk (fun h=>?_) (fun h=>?_)
 ·have h:i≤s.length:=by rw [bsize] at h;simp only [decide_eq_true_eq] at h;omega
  obtain ⟨h1,h2,h3⟩:i≤s.length∧splitB c s=out++splitB c (s.drop f)∧c ∉ (s.drop f).take (i - f):=by
   rcases hor with h4 | h4
   ·exact h4
   ·omega
  obtain ⟨p,ep⟩:∃p,(s.drop f).take (i - f)=p:=⟨_,rfl⟩;rw [ep] at h3;have hex:(⟨s.toArray⟩:ByteArray).extract ((f:Nat):Int).toNat ((i:Nat):Int).toNat=⟨p.toArray⟩:=by
   rw [bx];show (⟨((s.take i).drop f).toArray⟩:ByteArray)=_;rw [List.drop_take,ep]
  conv=>whnf
  refine Br.mk (fun h5=>?_) (fun h5=>?_)
  ·have h5:i=s.length:=by rw [bsize] at h5;simp only [decide_eq_true_eq] at h5;omega
   have hp:p=s.drop f:=by rw [←ep,List.take_of_length_le (by rw [List.length_drop];omega)]
   have hnew:CutI c s (out++[p],i+1,i+1):=⟨Nat.le_refl _,.inr ⟨by show i+1=_;omega,by show splitB c s=out++[p];rw [h2,←hp,splitB_none h3]⟩,by show (out++[p]).length≤i+1;rw [List.length_append,List.length_singleton];omega⟩;conv=>whnf
   refine ⟨⟨by omega,by omega,by rw [bsize];omega⟩,?_⟩;rw [hex];conv=>whnf
   refine Sub.full rfl ?_;conv=>whnf
   refine Sub.full (by rw [cT_len]) ?_;conv=>whnf
   refine ⟨by show (out.length+1)*16≤_;omega,?_⟩;conv=>whnf
   refine Wr.i64 (y:=((i+1:Nat):Int)) (by omega) (by omega) (by omega) ?_;conv=>whnf
   refine Wr.i64 (y:=((i+1:Nat):Int)) (by omega) (by omega) (by omega) ?_;conv=>whnf
   refine ⟨(out++[p],i+1,i+1),hnew,by show s.length+1 - (i+1) < s.length+1 - i;omega,⟨rfl,rfl,?_,rfl,rfl,trivial⟩,?_,trivial⟩
   ·show AV.ls 32 0 (out.length+1) 1=AV.ls 32 0 (out++[p]).length 1;rw [List.length_append];rfl
   ·show Ob.row true 1 (cT out++cT [p])=_;rw [cT_append]
  ·have h5:i < s.length:=by rw [bsize] at h5;simp only [decide_eq_false_iff_not] at h5;omega
   obtain ⟨b,eb⟩:∃b,s.getD i 0=b:=⟨_,rfl⟩;have hgi:s[i]=b:=by rw [←eb,gD,List.getElem?_eq_getElem h5];rfl
   have hdf:s.drop f=p++b :: s.drop (i+1):=by
    rw [←ep];have h6:=List.take_append_drop (i - f) (s.drop f);rw [List.drop_drop,show f+(i - f)=i by omega,List.drop_eq_getElem_cons h5,hgi] at h6;exact h6.symm
   conv=>whnf
   refine ⟨⟨by omega,by rw [bsize];omega⟩,?_⟩;rw [show (⟨s.toArray⟩:ByteArray).data.toList.getD ((i:Nat):Int).toNat 0=b from eb];conv=>whnf
   refine Br.mk (fun h6=>?_) (fun h6=>?_)
   ·have h6:b=c:=by
     simp only [decide_eq_true_eq] at h6;exact uint8_ext (by omega)
    have hnew:CutI c s (out++[p],i+1,i+1):=⟨Nat.le_refl _,.inl ⟨by show i+1≤_;omega,by
     show splitB c s=(out++[p])++splitB c (s.drop (i+1));rw [h2,hdf,h6,splitB_at h3,List.append_assoc];rfl,by simp⟩,by show (out++[p]).length≤i+1;rw [List.length_append,List.length_singleton];omega⟩
    conv=>whnf
    refine ⟨⟨by omega,by omega,by rw [bsize];omega⟩,?_⟩;rw [hex];conv=>whnf
    refine Sub.full rfl ?_;conv=>whnf
    refine Sub.full (by rw [cT_len]) ?_;conv=>whnf
    refine ⟨by show (out.length+1)*16≤_;omega,?_⟩;conv=>whnf
    refine Wr.i64 (y:=((i+1:Nat):Int)) (by omega) (by omega) (by omega) ?_;conv=>whnf
    refine Wr.i64 (y:=((i+1:Nat):Int)) (by omega) (by omega) (by omega) ?_;conv=>whnf
    refine ⟨(out++[p],i+1,i+1),hnew,by show s.length+1 - (i+1) < s.length+1 - i;omega,⟨rfl,rfl,?_,rfl,rfl,trivial⟩,?_,trivial⟩
    ·show AV.ls 32 0 (out.length+1) 1=AV.ls 32 0 (out++[p]).length 1;rw [List.length_append];rfl
    ·show Ob.row true 1 (cT out++cT [p])=_;rw [cT_append]
   ·have h6:b≠c:=by
     simp only [decide_eq_false_iff_not] at h6;intro e;rw [e] at h6;exact h6 rfl
    conv=>whnf
    refine Wr.i64 (y:=((i+1:Nat):Int)) (by omega) (by omega) (by omega) ?_;conv=>whnf
    refine ⟨(out,f,i+1),⟨by show f≤i+1;omega,.inl ⟨by show i+1≤_;omega,h2,?_⟩,by show out.length≤i+1;omega⟩,by show s.length+1 - (i+1) < s.length+1 - i;omega,⟨rfl,rfl,rfl,rfl,rfl,trivial⟩,rfl,trivial⟩;show c ∉ (s.drop f).take (i+1 - f);have hpl:p.length=i - f:=by rw [←ep,List.length_take,List.length_drop];omega
    rw [hdf,show i+1 - f=p.length+1 by omega,List.take_append,List.take_of_length_le (by omega),show p.length+1 - p.length=1 by omega];simp only [List.take_succ_cons,List.take_zero,List.mem_append,List.mem_singleton,not_or];exact ⟨h3,fun e=>h6 e.symm⟩
 ·have h:¬i≤s.length:=by rw [bsize] at h;simp only [decide_eq_false_iff_not] at h;omega
  have e:splitB c s=out:=by
   rcases hor with h4 | h4
   ·omega
   ·exact h4.2
  rw [e];conv=>whnf
  refine ⟨⟨rfl,by rw [cT_len];omega,?_⟩,trivial,rfl⟩;rw [List.drop_zero,List.take_of_length_le (by rw [cT_len];omega)]
theorem head_getD {s:List UInt8} (h:0 < s.length):s.head? = some (s.getD 0 0):=by
 cases s with
 | nil=>simp at h
 | cons x r=>rfl
theorem fn_sDigits (s:List UInt8) (hs:s.length≤1000000000):Fn Tryz.prog 84 [Str s] [] (B (decide (okN s))) []:=by
 refine Fn.intro (ks:=[0,2,3,7,19]) hty rfl rfl rfl rfl rfl ?_;conv=>whnf
 refine VLoop.invX hty (S:=Nat) (E:=Unit) [] [] 0 (fun i=>[(3,I (i:Nat)),(0,Str s)]) (fun _=>[]) (fun i=>i≤s.length∧∀k,k < i→IsD (s.getD k 0)) (fun i=>s.length - i)
  (fun _=>[(0,Str s)]) (fun _=>[]) (fun _=>∀b,b∈s→IsD b) 0 ⟨Nat.zero_le _,fun k h=>absurd h (Nat.not_lt_zero k)⟩ ⟨rfl,rfl,trivial⟩ trivial ?_ ?_
 ·rintro i ⟨hi,hk⟩;obtain ⟨b,eb⟩:∃b,s.getD i 0=b:=⟨_,rfl⟩;conv=>whnf
  refine Br.mk (fun h5=>?_) (fun h5=>?_)
  ·have h5:i < s.length:=by rw [bsize] at h5;simp only [decide_eq_true_eq] at h5;omega
   have hbm:b∈s:=by rw [←eb,gD,List.getElem?_eq_getElem h5];exact List.getElem_mem h5
   conv=>whnf
   refine ⟨⟨by omega,by rw [bsize];omega⟩,?_⟩;rw [show (⟨s.toArray⟩:ByteArray).data.toList.getD ((i:Nat):Int).toNat 0=b from eb];conv=>whnf
   refine Br.mk (fun h6=>?_) (fun h6=>?_)
   ·have h6:b.toNat < 48:=by simp only [decide_eq_true_eq] at h6;omega
    have hno:¬okN s:=fun hok=>by have:=(hok.dig b hbm).1;omega
    rw [decide_eq_false hno];conv=>whnf
    exact ⟨rfl,trivial,rfl⟩
   ·have h6:¬b.toNat < 48:=by simp only [decide_eq_false_iff_not] at h6;omega
    conv=>whnf
    refine ⟨⟨by omega,by rw [bsize];omega⟩,?_⟩;rw [show (⟨s.toArray⟩:ByteArray).data.toList.getD ((i:Nat):Int).toNat 0=b from eb];conv=>whnf
    refine Br.mk (fun h7=>?_) (fun h7=>?_)
    ·have h7:57 < b.toNat:=by simp only [decide_eq_true_eq] at h7;omega
     have hno:¬okN s:=fun hok=>by have:=(hok.dig b hbm).2;omega
     rw [decide_eq_false hno];conv=>whnf
     exact ⟨rfl,trivial,rfl⟩
    ·have h7:¬57 < b.toNat:=by simp only [decide_eq_false_iff_not] at h7;omega
     conv=>whnf
     refine Wr.i64 (y:=((i+1:Nat):Int)) (by omega) (by omega) (by omega) ?_;conv=>whnf
     refine ⟨i+1,⟨h5,fun k hki=>?_⟩,by show s.length - (i+1) < s.length - i;omega,⟨rfl,rfl,trivial⟩,trivial⟩;rcases Nat.lt_or_ge k i with h8 | h8
     ·exact hk k h8
     ·rw [show k=i by omega,eb];exact ⟨by omega,by omega⟩
  ·have h5:i=s.length:=by rw [bsize] at h5;simp only [decide_eq_false_iff_not] at h5;omega
   conv=>whnf
   refine ⟨rfl,(),fun b hb=>?_,⟨rfl,trivial⟩,trivial⟩;obtain ⟨k,hk1,hk2⟩:=List.mem_iff_getElem.1 hb;have:=hk k (by omega);rw [gD,List.getElem?_eq_getElem hk1] at this;simpa [hk2] using this
 ·rintro _ hdig;conv=>whnf
  refine Br.mk (fun h1=>?_) (fun h1=>?_)
  ·have h1:1≤s.length:=by rw [bsize] at h1;simp only [decide_eq_true_eq] at h1;omega
   have hhead:=head_getD (s:=s) (by omega);have hne:s≠[]:=fun e=>by rw [e] at h1;simp at h1
   conv=>whnf
   refine Br.mk (fun h2=>?_) (fun h2=>?_)
   ·have h2:s.length≤200:=by rw [bsize] at h2;simp only [decide_eq_true_eq] at h2;omega
    conv=>whnf
    refine Br.mk (fun h3=>?_) (fun h3=>?_)
    ·have h3:s.length=1:=by rw [bsize] at h3;simp only [decide_eq_true_eq] at h3;omega
     rw [decide_eq_true (show okN s from ⟨hne,h2,hdig,.inl h3⟩)];conv=>whnf
     exact ⟨rfl,trivial,rfl⟩
    ·have h3:¬s.length=1:=by rw [bsize] at h3;simp only [decide_eq_false_iff_not] at h3;omega
     conv=>whnf
     refine ⟨⟨by omega,by rw [bsize];omega⟩,?_⟩;conv=>whnf
     refine ⟨?_,trivial,rfl⟩
     congr 3
     show (!decide ((((s.getD 0 0).toNat:Nat):Int)=48))=decide (okN s);by_cases h48:s.getD 0 0=48
     ·rw [h48];have hno:¬okN s:=fun hok=>by
       rcases hok.2.2.2 with h5 | h5
       ·exact h3 h5
       ·rw [hhead,h48] at h5;exact h5 rfl
      rw [decide_eq_false hno];rfl
     ·have hyes:okN s:=⟨hne,h2,hdig,.inr (by rw [hhead];intro e;exact h48 (Option.some.inj e))⟩;rw [decide_eq_true hyes,decide_eq_false (fun e=>h48 (uint8_ext (by show (s.getD 0 0).toNat=48;omega)))];rfl
   ·have h2:¬s.length≤200:=by rw [bsize] at h2;simp only [decide_eq_false_iff_not] at h2;omega
    rw [decide_eq_false (fun hok:okN s=>h2 hok.2.1)];conv=>whnf
    exact ⟨rfl,trivial,rfl⟩
  ·have h1:¬1≤s.length:=by rw [bsize] at h1;simp only [decide_eq_false_iff_not] at h1;omega
   rw [decide_eq_false (fun hok:okN s=>h1 (List.length_pos_iff.2 hok.1))];conv=>whnf
   exact ⟨rfl,trivial,rfl⟩
def RdI (s:List UInt8) (out:List Nat):Prop:=(∀x,x∈out→x < B9)∧dv s=vl B9 out+B9 ^ out.length*dv (s.take (s.length - 9*out.length))∧9*out.length≤s.length+8
theorem RdI.step {s:List UInt8} {out:List Nat} (hd:∀b,b∈s→IsD b) (h:RdI s out) {f tx:Nat} (ht:tx=s.length - 9*out.length) (h0:0 < tx) (hf:f=tx - 9) :
  RdI s (out++[dv ((s.drop f).take (tx - f))])∧dv ((s.drop f).take (tx - f)) < B9:=by
 obtain ⟨h1,h2,h3⟩:=h;have hlt:dv ((s.drop f).take (tx - f)) < B9:=by
  have h4:=dv_lt (s:=(s.drop f).take (tx - f)) fun b hb=>hd b (List.mem_of_mem_drop (List.mem_of_mem_take hb));have h5:((s.drop f).take (tx - f)).length≤9:=by rw [List.length_take];omega
  have h6:(10:Nat) ^ ((s.drop f).take (tx - f)).length≤10 ^ 9:=Nat.pow_le_pow_right (by decide) h5;exact Nat.lt_of_lt_of_le h4 h6
 refine ⟨⟨snoc_lt h1 hlt,?_,by rw [List.length_append,List.length_singleton];omega⟩,hlt⟩;rw [List.length_append,List.length_singleton,vl_snoc,Nat.pow_succ,h2,←ht];have h4:=dv_part (s:=s) (lo:=f) (hi:=tx) (by omega) (by omega);have h5:s.length - 9*(out.length+1)=f:=by omega
 rw [h5,h4];generalize dv ((s.drop f).take (tx - f))=d;generalize vl B9 out=vv;generalize B9 ^ out.length=P;rcases Nat.lt_or_ge tx 9 with h6 | h6
 ·have:dv (s.take f)=0:=by rw [show f=0 by omega];rfl
  rw [this,Nat.zero_mul,Nat.zero_add,Nat.mul_zero,Nat.add_zero]
 ·have h7:(10:Nat) ^ (tx - f)=B9:=by rw [show tx - f=9 by omega]
  rw [h7];generalize B9=B;have:P*(dv (s.take f)*B)=P*B*dv (s.take f):=by rw [Nat.mul_comm (dv _) B,Nat.mul_assoc]
  rw [Nat.mul_add,this];omega
theorem fn_sNatRead (s:List UInt8) (hs:s.length≤1000000000) (hd:∀b,b∈s→IsD b):Fn Tryz.prog 85 [Str s] [] (nS (dv s)) []:=by
 refine Fn.intro (ks:=[0,2,3,4,5,6,7,12,16,22]) hty rfl rfl rfl rfl rfl ?_;conv=>whnf
 refine VLoop.ren 8 36 rfl ?_;refine VLoop.inv hty (S:=List Nat) (fun out=>[(4,I ((s.length:Int) - 9*out.length)),(3,.ls 36 0 out.length 1),(0,Str s)]) (fun out=>[(36,.row true 1 (cW .i64 out))]) (RdI s) (fun out=>s.length+9 - 9*out.length) []
  ⟨by simp,by simp [vl],by simp⟩ ⟨by show AV.d (.s (.int .i64 ((s.length:Nat):Int)))=AV.d (.s (.int .i64 ((s.length:Int) - 9*((0:Nat):Int))));congr 3,rfl,rfl,trivial⟩ ⟨rfl,trivial⟩ ?_
 intro out hI;have hI3:=hI.2.2;obtain ⟨tx',eto⟩:∃x,(s.length:Int) - 9*out.length=x:=⟨_,rfl⟩;rw [eto];conv=>whnf
 refine Br.mk (fun h=>?_) (fun h=>?_)
 ·obtain ⟨tx,eto2⟩:∃tx:Nat,tx'=tx:=⟨tx'.toNat,by simp only [decide_eq_true_eq] at h;omega⟩;subst eto2;have h:0 < tx:=by simp only [decide_eq_true_eq] at h;omega
  have ht:tx=s.length - 9*out.length:=by omega
  obtain ⟨f,ef⟩:∃f,tx - 9=f:=⟨_,rfl⟩;obtain ⟨hst,hlt⟩:=hI.step hd ht h ef.symm;conv=>whnf
  refine Br.mk (fun h2=>?_) (fun h2=>?_)
  ·have h2:9 < tx:=by simp only [decide_eq_true_eq] at h2;omega
   conv=>whnf
   refine Wr.i64 (y:=((f:Nat):Int)) (by omega) (by omega) (by omega) ?_;have hcnt:∀k,k≤tx - f→dv ((s.drop f).take k) < 1000000000:=fun k hk=>by
    have h4:=dv_lt (s:=(s.drop f).take k) fun b hb=>hd b (List.mem_of_mem_drop (List.mem_of_mem_take hb));have h5:((s.drop f).take k).length≤9:=by rw [List.length_take];omega
    exact Nat.lt_of_lt_of_le h4 (Nat.pow_le_pow_right (by decide) h5)
   conv=>whnf
   refine VLoop.invX hty (S:=Nat) (E:=Unit) [] [] 2 (fun k=>[(7,I ((f+k:Nat):Int)),(6,I (dv ((s.drop f).take k):Nat)),(4,I (tx:Nat)),(3,.ls 36 0 out.length 1),(0,Str s)]) (fun _=>[(36,.row true 1 (cW .i64 out))]) (fun k=>k≤tx - f) (fun k=>tx - f - k)
    (fun _=>[(6,I (dv ((s.drop f).take (tx - f)):Nat)),(4,I (tx:Nat)),(3,.ls 36 0 out.length 1),(0,Str s)]) (fun _=>[(36,.row true 1 (cW .i64 out))]) (fun _=>True) 0 (Nat.zero_le _) ⟨rfl,rfl,rfl,rfl,rfl,trivial⟩ ⟨rfl,trivial⟩ ?_ ?_
   ·intro k hk;have hdk:=hcnt k hk;conv=>whnf
    refine Br.mk (fun h3=>?_) (fun h3=>?_)
    ·have h3:f+k < tx:=by simp only [decide_eq_true_eq] at h3;omega
     obtain ⟨b,eb⟩:∃b,s.getD (f+k) 0=b:=⟨_,rfl⟩;have hi:f+k < s.length:=by omega
     have hbd:IsD b:=by
      refine hd b ?_;rw [←eb,gD,List.getElem?_eq_getElem hi];exact List.getElem_mem hi
     have hb1:=hbd.1;have hb2:=hbd.2;have hkl:k < (s.drop f).length:=by rw [List.length_drop];omega
     have hnext:dv ((s.drop f).take (k+1))=10*dv ((s.drop f).take k)+(b.toNat - 48):=by
      rw [dv_take hkl];have:(s.drop f)[k]=b:=by
       rw [List.getElem_drop,←eb,gD,List.getElem?_eq_getElem hi];rfl
      rw [this]
     have hdk2:=hcnt (k+1) (by omega);obtain ⟨x,ex⟩:∃x,dv ((s.drop f).take k)=x:=⟨_,rfl⟩;obtain ⟨y,ey⟩:∃x,dv ((s.drop f).take (k+1))=x:=⟨_,rfl⟩;rw [ex,ey] at hnext;rw [ex] at hdk;rw [ey] at hdk2;rw [ex];conv=>whnf
     refine Wr.i64 (y:=(10:Int)*(x:Nat)) rfl (by omega) (by omega) ?_;conv=>whnf
     refine ⟨⟨by omega,by rw [bsize];omega⟩,?_⟩;rw [show (⟨s.toArray⟩:ByteArray).data.toList.getD ((f+k:Nat):Int).toNat 0=b from eb];conv=>whnf
     refine Wr.is (y:=((b.toNat - 48:Nat):Int)) (by rw [wrap_u8];omega) ?_;conv=>whnf
     refine Wr.i64 (y:=((b.toNat - 48:Nat):Int)) rfl (by omega) (by omega) ?_;conv=>whnf
     refine Wr.i64 (y:=(y:Int)) (by omega) (by omega) (by omega) ?_;conv=>whnf
     refine Wr.i64 (y:=((f+(k+1):Nat):Int)) (by omega) (by omega) (by omega) ?_;conv=>whnf
     exact ⟨k+1,by omega,by show tx - f - (k+1) < tx - f - k;omega,⟨rfl,by show AV.d (.s (.int .i64 (y:Int)))=I _;rw [ey],rfl,rfl,rfl,trivial⟩,rfl,trivial⟩
    ·have h3:k=tx - f:=by simp only [decide_eq_false_iff_not] at h3;omega
     rw [h3];conv=>whnf
     exact ⟨rfl,(),trivial,⟨rfl,rfl,rfl,rfl,trivial⟩,rfl,trivial⟩
   ·rintro _ _;obtain ⟨d,ed⟩:∃d,dv ((s.drop f).take (tx - f))=d:=⟨_,rfl⟩;rw [ed] at hst hlt;rw [ed];conv=>whnf
    refine Sub.full rfl ?_;conv=>whnf
    refine Sub.full (by rw [cW_len]) ?_;conv=>whnf
    refine ⟨by show (out.length+1)*8≤_;omega,?_⟩;conv=>whnf
    refine Wr.i64 (y:=(s.length:Int) - 9*((out.length+1:Nat):Int)) (by omega) (by omega) (by omega) ?_;conv=>whnf
    refine ⟨out++[d],hst,by show s.length+9 - 9*(out++[d]).length < _;rw [List.length_append,List.length_singleton];omega,⟨?_,?_,rfl,trivial⟩,?_,trivial⟩
    ·show AV.d (.s (.int .i64 ((s.length:Int) - 9*((out.length+1:Nat):Int))))=I ((s.length:Int) - 9*((out++[d]).length:Nat));rw [List.length_append,List.length_singleton]
    ·show AV.ls 36 0 (out.length+1) 1=AV.ls 36 0 (out++[d]).length 1;rw [List.length_append];rfl
    ·show Ob.row true 1 (cW .i64 out++cW .i64 [d])=_;rw [cW_append]
  ·have h2:¬9 < tx:=by simp only [decide_eq_false_iff_not] at h2;omega
   have hf0:f=0:=by omega
   subst hf0;have hcnt:∀k,k≤tx - 0→dv ((s.drop 0).take k) < 1000000000:=fun k hk=>by
    have h4:=dv_lt (s:=(s.drop 0).take k) fun b hb=>hd b (List.mem_of_mem_drop (List.mem_of_mem_take hb));have h5:((s.drop 0).take k).length≤9:=by rw [List.length_take];omega
    exact Nat.lt_of_lt_of_le h4 (Nat.pow_le_pow_right (by decide) h5)
   conv=>whnf
   refine VLoop.invX hty (S:=Nat) (E:=Unit) [] [] 2 (fun k=>[(7,I ((0+k:Nat):Int)),(6,I (dv ((s.drop 0).take k):Nat)),(4,I (tx:Nat)),(3,.ls 36 0 out.length 1),(0,Str s)]) (fun _=>[(36,.row true 1 (cW .i64 out))]) (fun k=>k≤tx - 0) (fun k=>tx - 0 - k)
    (fun _=>[(6,I (dv ((s.drop 0).take (tx - 0)):Nat)),(4,I (tx:Nat)),(3,.ls 36 0 out.length 1),(0,Str s)]) (fun _=>[(36,.row true 1 (cW .i64 out))]) (fun _=>True) 0 (Nat.zero_le _) ⟨rfl,rfl,rfl,rfl,rfl,trivial⟩ ⟨rfl,trivial⟩ ?_ ?_
   ·intro k hk;have hdk:=hcnt k hk;conv=>whnf
    refine Br.mk (fun h3=>?_) (fun h3=>?_)
    ·have h3:0+k < tx:=by simp only [decide_eq_true_eq] at h3;omega
     obtain ⟨b,eb⟩:∃b,s.getD (0+k) 0=b:=⟨_,rfl⟩;have hi:0+k < s.length:=by omega
     have hbd:IsD b:=by
      refine hd b ?_;rw [←eb,gD,List.getElem?_eq_getElem hi];exact List.getElem_mem hi
     have hb1:=hbd.1;have hb2:=hbd.2;have hkl:k < (s.drop 0).length:=by rw [List.length_drop];omega
     have hnext:dv ((s.drop 0).take (k+1))=10*dv ((s.drop 0).take k)+(b.toNat - 48):=by
      rw [dv_take hkl];have:(s.drop 0)[k]=b:=by
       rw [List.getElem_drop,←eb,gD,List.getElem?_eq_getElem hi];rfl
      rw [this]
     have hdk2:=hcnt (k+1) (by omega);obtain ⟨x,ex⟩:∃x,dv ((s.drop 0).take k)=x:=⟨_,rfl⟩;obtain ⟨y,ey⟩:∃x,dv ((s.drop 0).take (k+1))=x:=⟨_,rfl⟩;rw [ex,ey] at hnext;rw [ex] at hdk;rw [ey] at hdk2;rw [ex];conv=>whnf
     refine Wr.i64 (y:=(10:Int)*(x:Nat)) rfl (by omega) (by omega) ?_;conv=>whnf
     refine ⟨⟨by omega,by rw [bsize];omega⟩,?_⟩;rw [show (⟨s.toArray⟩:ByteArray).data.toList.getD ((0+k:Nat):Int).toNat 0=b from eb];conv=>whnf
     refine Wr.is (y:=((b.toNat - 48:Nat):Int)) (by rw [wrap_u8];omega) ?_;conv=>whnf
     refine Wr.i64 (y:=((b.toNat - 48:Nat):Int)) rfl (by omega) (by omega) ?_;conv=>whnf
     refine Wr.i64 (y:=(y:Int)) (by omega) (by omega) (by omega) ?_;conv=>whnf
     refine Wr.i64 (y:=((0+(k+1):Nat):Int)) (by omega) (by omega) (by omega) ?_;conv=>whnf
     exact ⟨k+1,by omega,by show tx - 0 - (k+1) < tx - 0 - k;omega,⟨rfl,by show AV.d (.s (.int .i64 (y:Int)))=I _;rw [ey],rfl,rfl,rfl,trivial⟩,rfl,trivial⟩
    ·have h3:k=tx - 0:=by simp only [decide_eq_false_iff_not] at h3;omega
     rw [h3];conv=>whnf
     exact ⟨rfl,(),trivial,⟨rfl,rfl,rfl,rfl,trivial⟩,rfl,trivial⟩
   ·rintro _ _;obtain ⟨d,ed⟩:∃d,dv ((s.drop 0).take (tx - 0))=d:=⟨_,rfl⟩;rw [ed] at hst hlt;rw [ed];conv=>whnf
    refine Sub.full rfl ?_;conv=>whnf
    refine Sub.full (by rw [cW_len]) ?_;conv=>whnf
    refine ⟨by show (out.length+1)*8≤_;omega,?_⟩;conv=>whnf
    refine Wr.i64 (y:=(s.length:Int) - 9*((out.length+1:Nat):Int)) (by omega) (by omega) (by omega) ?_;conv=>whnf
    refine ⟨out++[d],hst,by show s.length+9 - 9*(out++[d]).length < _;rw [List.length_append,List.length_singleton];omega,⟨?_,?_,rfl,trivial⟩,?_,trivial⟩
    ·show AV.d (.s (.int .i64 ((s.length:Int) - 9*((out.length+1:Nat):Int))))=I ((s.length:Int) - 9*((out++[d]).length:Nat));rw [List.length_append,List.length_singleton]
    ·show AV.ls 36 0 (out.length+1) 1=AV.ls 36 0 (out++[d]).length 1;rw [List.length_append];rfl
    ·show Ob.row true 1 (cW .i64 out++cW .i64 [d])=_;rw [cW_append]
 ·have h:tx'≤0:=by simp only [decide_eq_false_iff_not] at h;omega
  have hv:vl B9 out=dv s:=by
   have h2:=hI.2.1;rw [show s.length - 9*out.length=0 by omega] at h2;have:dv (s.take 0)=0:=rfl;rw [this] at h2;omega
  have ct:=fn_sTrim out hI.1 (by omega);rw [hv] at ct;conv=>whnf
  refine VCall.frz 36 ct rfl ⟨⟨rfl,rfl,by rw [cW_len];omega,by rw [List.drop_zero,List.take_of_length_le (by rw [cW_len];omega)]⟩,trivial⟩ (nd _) ?_;conv=>whnf
  exact ⟨rfl,trivial,rfl⟩
end Go.V
namespace Go.V
open Go.Proofs Go.RowKit
set_option maxRecDepth 10000
set_option maxHeartbeats 1000000
def one2 (neg:Bool) (d:List UInt8):Option Rat:=if ¬okN d∨(neg=true∧dv d=0) then none else some (mkRat (sgn neg (dv d)) 1)
def two2 (neg:Bool) (d g:List UInt8):Option Rat:=if ¬okN d∨(neg=true∧dv d=0) then none else if ¬okN g∨dv g≤1∨(dv d).gcd (dv g)≠1 then none else some (mkRat (sgn neg (dv d)) (dv g))
def parseS (neg:Bool) (ps:List (List UInt8)):Option Rat:=match ps with
 | [d]=>one2 neg d
 | [d,g]=>two2 neg d g
 | _=>none
theorem pre_nil:Lib.hasPrefix [] [45]=false:=rfl
theorem pre_cons (b:UInt8) (r:List UInt8):Lib.hasPrefix (b :: r) [45]=decide (b=45):=by
 show (([45]:List UInt8).isPrefixOf (b :: r))=_
 simp only [List.isPrefixOf,Bool.and_true]
 by_cases h:b=45
 ·subst h;rfl
 ·rw [decide_eq_false h];simpa using fun e:45=b=>h e.symm
theorem splitB_len {c:UInt8}:∀{s:List UInt8},c∈s→2≤(splitB c s).length
 | b :: r,h=>by
  by_cases hb:b=c
  ·subst hb
   rw [splitB,if_pos rfl]
   have:=List.length_pos_iff.2 (splitB_ne b r)
   rw [List.length_cons];omega
  ·have hr:c∈r:=by
    rcases List.mem_cons.1 h with e | h
    ·exact absurd e.symm hb
    ·exact h
   have ih:=splitB_len hr
   unfold splitB
   rw [if_neg hb]
   split
   ·rename_i p ps e;rw [e] at ih;rw [List.length_cons] at ih ⊢;exact ih
   ·rename_i e;rw [e] at ih;simp at ih
theorem rdRat_parse (s:List UInt8):rdRat s=parseS (Lib.hasPrefix s [45]) (splitB 47 (Lib.trimPrefix s [45])):=by
 rcases indexByte_spec 47 s with ⟨h1,h2⟩ | ⟨p,r,h1,h2,h3⟩
 ·have hc:cutB 47 s=(s,[],false):=by rw [cutB,h2];rfl
  have hd:47 ∉ Lib.trimPrefix s [45]:=by
   unfold Lib.trimPrefix;split
   ·exact fun h=>h1 (List.mem_of_mem_drop h)
   ·exact h1
  unfold rdRat;rw [hc,splitB_none hd];simp only [parseS,one2,if_true]
 ·have hc:cutB 47 s=(p,r,true):=by
   rw [cutB,h3];show (s.take p.length,s.drop (p.length+1),true)=_;rw [h1];simp
  have hpre:Lib.hasPrefix s [45]=Lib.hasPrefix p [45]:=by
   rw [h1];cases p with
   | nil=>rw [List.nil_append,pre_cons,pre_nil];rfl
   | cons b q=>rw [List.cons_append,pre_cons,pre_cons]
  have htr:Lib.trimPrefix s [45]=Lib.trimPrefix p [45]++47 :: r:=by
   unfold Lib.trimPrefix;rw [hpre,h1];split
   ·rename_i hp;cases p with
    | nil=>cases hp
    | cons b q=>rfl
   ·rfl
  have hd:47 ∉ Lib.trimPrefix p [45]:=by
   unfold Lib.trimPrefix;split
   ·exact fun h=>h2 (List.mem_of_mem_drop h)
   ·exact h2
  unfold rdRat;rw [hc,htr,splitB_at hd,hpre];simp only [Bool.true_eq_false,if_false,reduceCtorEq];by_cases hr:47∈r
  ·have hno:¬okN r:=fun h=>by
    have:=(h.dig 47 hr).1;exact absurd this (by decide)
   have hl:=splitB_len hr;rw [if_pos (.inl hno:¬okN r∨_)];cases hs:splitB 47 r with
   | nil=>rw [hs] at hl;simp at hl
   | cons x xs =>
    cases xs with
    | nil=>rw [hs] at hl;simp at hl
    | cons y ys=>simp [parseS]
  ·rw [splitB_none hr];simp only [parseS,two2]
def rOS:Option Rat→AV
 | some q=>rS q
 | none=>.ag [B false,nS 0,nS 0]
theorem splitB_sum (c:UInt8):∀(s:List UInt8) (x:List UInt8),x∈splitB c s→x.length≤s.length
 | [],x,h=>by simp [splitB] at h;simp [h]
 | b :: r,x,h=>by
  unfold splitB at h
  split at h
  ·rcases List.mem_cons.1 h with rfl | h
   ·simp
   ·have:=splitB_sum c r x h;rw [List.length_cons];omega
  ·split at h
   ·rename_i p ps e
    rcases List.mem_cons.1 h with rfl | h
    ·have:=splitB_sum c r p (by rw [e];simp)
     rw [List.length_cons,List.length_cons];omega
    ·have:=splitB_sum c r x (by rw [e];simp [h])
     rw [List.length_cons];omega
   ·simp at h;subst h;simp
theorem fn_sParse (s:List UInt8) (hs:s.length≤1000000000):Fn Tryz.prog 64 [Str s] [] (.tup [rOS (rdRat s),B (rdRat s).isSome]) []:=by
 rw [rdRat_parse];cases s with
 | nil =>
  rw [show Lib.trimPrefix [] [45]=[] from rfl,pre_nil];have hl':([]:List UInt8).length≤1000000000:=by simp
  refine Fn.intro (ks:=[0,2,3,4,5,6,7,15,16,30,41,45,54,71]) hty rfl rfl rfl rfl rfl ?_;conv=>whnf
  have csp:=fn_sCut [] 47 hl';have hsum:=splitB_sum 47 [];have hne:=splitB_ne 47 [];refine VCall.of_data csp (nd _) ?_;generalize splitB 47 []=ps at hsum hne;rcases ps with _ | ⟨d,_ | ⟨g,_ | ⟨e,q⟩⟩⟩
  ·exact absurd rfl hne
  ·have hdl:=hsum d (by simp);have hln:((cT [d]).length:Int)=1:=rfl;have cd1:=fn_sDigits d (by omega);by_cases hd:okN d
   ·rw [decide_eq_true hd] at cd1;have cd2:=fn_sNatRead d (by omega) hd.dig;have hbd:=hd.bl;have hld:((cW .i64 (dg B9 (dv d))).length:Int)=(dg B9 (dv d)).length:=by rw [cW_len]
    have hzd:=dg_len_zero b9 (n:=dv d);conv=>whnf
    refine ⟨⟨⟨by omega,by omega⟩,cT_sz _⟩,?_⟩;conv=>whnf
    refine ⟨[.s (.string ⟨d.toArray⟩)],rfl,?_⟩;conv=>whnf
    refine VCall.of_data cd1 (nd _) ?_;conv=>whnf
    refine ⟨⟨⟨by omega,by omega⟩,cT_sz _⟩,?_⟩;conv=>whnf
    refine ⟨[.s (.string ⟨d.toArray⟩)],rfl,?_⟩;conv=>whnf
    refine VCall.of_data cd2 (nd _) ?_;conv=>whnf
    have hs0:dv d=0→false=false:=fun _=>rfl;have hno:¬(¬okN d∨false=true∧dv d=0):=by rintro (h | ⟨h,_⟩);exact h hd;cases h
    obtain ⟨p1,p2,p3⟩:=parts_of (s:=false) (t:=dv d) (b:=1) (by decide) (Nat.gcd_one_right _) hs0;rw [show parseS false [d]=some (mkRat (sgn false (dv d)) 1) by show one2 _ _=_;rw [one2,if_neg hno]];rw [show rOS (some (mkRat (sgn false (dv d)) 1)) = .ag [B false,nS (dv d),nS 1] by rw [rOS,rS,p1,p2,p3]];conv=>whnf
    exact ⟨rfl,rfl,⟨rfl,Nat.le_refl _,rfl⟩,rfl,trivial,rfl⟩
   ·rw [decide_eq_false hd] at cd1;rw [show parseS false [d]=none by show one2 _ _=_;rw [one2,if_pos (.inl hd)]];conv=>whnf
    refine ⟨⟨⟨by omega,by omega⟩,cT_sz _⟩,?_⟩;conv=>whnf
    refine ⟨[.s (.string ⟨d.toArray⟩)],rfl,?_⟩;conv=>whnf
    refine VCall.of_data cd1 (nd _) ?_;conv=>whnf
    exact ⟨rfl,rfl,trivial,rfl⟩
  ·have hdl:=hsum d (by simp);have hln:((cT [d,g]).length:Int)=2:=rfl;have cd1:=fn_sDigits d (by omega);by_cases hd:okN d
   ·rw [decide_eq_true hd] at cd1;have cd2:=fn_sNatRead d (by omega) hd.dig;have hbd:=hd.bl;have hld:((cW .i64 (dg B9 (dv d))).length:Int)=(dg B9 (dv d)).length:=by rw [cW_len]
    have hzd:=dg_len_zero b9 (n:=dv d);conv=>whnf
    refine ⟨⟨⟨by omega,by omega⟩,cT_sz _⟩,?_⟩;conv=>whnf
    refine ⟨[.s (.string ⟨d.toArray⟩)],rfl,?_⟩;conv=>whnf
    refine VCall.of_data cd1 (nd _) ?_;conv=>whnf
    refine ⟨⟨⟨by omega,by omega⟩,cT_sz _⟩,?_⟩;conv=>whnf
    refine ⟨[.s (.string ⟨d.toArray⟩)],rfl,?_⟩;conv=>whnf
    refine VCall.of_data cd2 (nd _) ?_;conv=>whnf
    have hs0:dv d=0→false=false:=fun _=>rfl;have hno:¬(¬okN d∨false=true∧dv d=0):=by rintro (h | ⟨h,_⟩);exact h hd;cases h
    have hgl:=hsum g (by simp);have cg1:=fn_sDigits g (by omega);conv=>whnf
    refine ⟨⟨⟨by omega,by omega⟩,cT_sz _⟩,?_⟩;conv=>whnf
    refine ⟨[.s (.string ⟨g.toArray⟩)],rfl,?_⟩;by_cases hg:okN g
    ·have hbg:=hg.bl;rw [decide_eq_true hg] at cg1;have cg2:=fn_sNatRead g (by omega) hg.dig;have cc:=fn_sCmp (dv g) 1 (by omega) (by decide);conv=>whnf
     refine VCall.of_data cg1 (nd _) ?_;conv=>whnf
     refine ⟨⟨⟨by omega,by omega⟩,cT_sz _⟩,?_⟩;conv=>whnf
     refine ⟨[.s (.string ⟨g.toArray⟩)],rfl,?_⟩;conv=>whnf
     refine VCall.of_data cg2 (nd _) ?_;conv=>whnf
     refine VCall.frz 61 cc rfl ⟨rfl,⟨rfl,rfl,Nat.le_refl _,rfl⟩,trivial⟩ (nd _) ?_;conv=>whnf
     refine Br.mk (fun h7=>?_) (fun h7=>?_)
     ·have h7:dv g≤1:=by
       simp only [decide_eq_true_eq] at h7;have:=cmpZ_pos' (a:=dv g) (b:=1);omega
      rw [show parseS false [d,g]=none by show two2 _ _ _=_;rw [two2,if_neg hno,if_pos (.inr (.inl h7))]];conv=>whnf
      exact ⟨rfl,rfl,trivial,rfl⟩
     ·have h7:¬dv g≤1:=by
       simp only [decide_eq_false_iff_not] at h7;have:=cmpZ_pos' (a:=dv g) (b:=1);omega
      have cgc:=fn_sGcd (dv d) (dv g) (by omega) (by omega);have hbgc:bl ((dv d).gcd (dv g))≤800:=Nat.le_trans (bl_mono (Nat.gcd_le_right _ (by omega))) hbg;have cc2:=fn_sCmp ((dv d).gcd (dv g)) 1 (by omega) (by decide);conv=>whnf
      refine VCall.of_data cgc (nd _) ?_;conv=>whnf
      refine VCall.frz 68 cc2 rfl ⟨rfl,⟨rfl,rfl,Nat.le_refl _,rfl⟩,trivial⟩ (nd _) ?_;conv=>whnf
      refine Br.mk (fun h8=>?_) (fun h8=>?_)
      ·have h8:(dv d).gcd (dv g)≠1:=fun e=>by rw [cmpZ_zero.2 e] at h8;exact absurd h8 (by decide)
       rw [show parseS false [d,g]=none by show two2 _ _ _=_;rw [two2,if_neg hno,if_pos (.inr (.inr h8))]];conv=>whnf
       exact ⟨rfl,rfl,trivial,rfl⟩
      ·have h8:(dv d).gcd (dv g)=1:=cmpZ_zero.1 (by simpa using h8);obtain ⟨p1,p2,p3⟩:=parts_of (s:=false) (t:=dv d) (b:=dv g) (by omega) h8 hs0;rw [show parseS false [d,g]=some (mkRat (sgn false (dv d)) (dv g)) by
        show two2 _ _ _=_;rw [two2,if_neg hno,if_neg (by rintro (h9 | h9 | h9);exact h9 hg;exact h7 h9;exact h9 h8)]]
       rw [show rOS (some (mkRat (sgn false (dv d)) (dv g))) = .ag [B false,nS (dv d),nS (dv g)] by rw [rOS,rS,p1,p2,p3]];conv=>whnf
       exact ⟨rfl,rfl,rfl,rfl,trivial,rfl⟩
    ·rw [decide_eq_false hg] at cg1;rw [show parseS false [d,g]=none by show two2 _ _ _=_;rw [two2,if_neg hno,if_pos (.inl hg)]];conv=>whnf
     refine VCall.of_data cg1 (nd _) ?_;conv=>whnf
     exact ⟨rfl,rfl,trivial,rfl⟩
   ·rw [decide_eq_false hd] at cd1;rw [show parseS false [d,g]=none by show two2 _ _ _=_;rw [two2,if_pos (.inl hd)]];conv=>whnf
    refine ⟨⟨⟨by omega,by omega⟩,cT_sz _⟩,?_⟩;conv=>whnf
    refine ⟨[.s (.string ⟨d.toArray⟩)],rfl,?_⟩;conv=>whnf
    refine VCall.of_data cd1 (nd _) ?_;conv=>whnf
    exact ⟨rfl,rfl,trivial,rfl⟩
  ·have hln:((cT (d :: g :: e :: q)).length:Int)=q.length+3:=by rw [cT_len,List.length_cons,List.length_cons,List.length_cons];omega
   rw [show parseS false (d :: g :: e :: q)=none from rfl];conv=>whnf
   refine Br.mk (fun h9=>?_) (fun h9=>?_)
   ·conv=>whnf
    exact ⟨rfl,rfl,trivial,rfl⟩
   ·simp only [decide_eq_false_iff_not] at h9;omega
 | cons b r =>
  have hbz:(⟨(b :: r).toArray⟩:ByteArray).size=r.length+1:=by rw [bsize];rfl
  refine Fn.intro (ks:=[0,2,3,4,5,6,7,15,16,30,41,45,54,71]) hty rfl rfl rfl rfl rfl ?_;conv=>whnf
  refine Br.mk (fun h=>?_) (fun h=>?_)
  ·conv=>whnf
   refine ⟨⟨by omega,by rw [hbz];omega⟩,?_⟩;conv=>whnf
   refine Br.mk (fun h2=>?_) (fun h2=>?_)
   ·have hB:=h2;have h2:b=45:=by
     have h3:((b.toNat:Nat):Int)=45:=by simp only [decide_eq_true_eq] at h2;exact h2
     exact uint8_ext (by show b.toNat=45;omega)
    rw [show Lib.trimPrefix (b :: r) [45]=r by rw [h2];rfl,pre_cons,decide_eq_true h2];have hl':r.length≤1000000000:=by rw [List.length_cons] at hs;omega
    conv=>whnf
    refine ⟨⟨by omega,by rw [hbz];omega,by omega⟩,?_⟩;rw [hB,bx,show ((b :: r).take (((⟨(b :: r).toArray⟩:ByteArray).size:Int).toNat)).drop (1:Int).toNat=r by
     rw [hbz,show (((r.length+1:Nat):Int)).toNat=r.length+1 from rfl];show (b :: r.take r.length).drop 1=r;rw [List.take_length];rfl]
    conv=>whnf
    have csp:=fn_sCut r 47 hl';have hsum:=splitB_sum 47 r;have hne:=splitB_ne 47 r;refine VCall.of_data csp (nd _) ?_;generalize splitB 47 r=ps at hsum hne;rcases ps with _ | ⟨d,_ | ⟨g,_ | ⟨e,q⟩⟩⟩
    ·exact absurd rfl hne
    ·have hdl:=hsum d (by simp);have hln:((cT [d]).length:Int)=1:=rfl;have cd1:=fn_sDigits d (by omega);by_cases hd:okN d
     ·rw [decide_eq_true hd] at cd1;have cd2:=fn_sNatRead d (by omega) hd.dig;have hbd:=hd.bl;have hld:((cW .i64 (dg B9 (dv d))).length:Int)=(dg B9 (dv d)).length:=by rw [cW_len]
      have hzd:=dg_len_zero b9 (n:=dv d);conv=>whnf
      refine ⟨⟨⟨by omega,by omega⟩,cT_sz _⟩,?_⟩;conv=>whnf
      refine ⟨[.s (.string ⟨d.toArray⟩)],rfl,?_⟩;conv=>whnf
      refine VCall.of_data cd1 (nd _) ?_;conv=>whnf
      refine ⟨⟨⟨by omega,by omega⟩,cT_sz _⟩,?_⟩;conv=>whnf
      refine ⟨[.s (.string ⟨d.toArray⟩)],rfl,?_⟩;conv=>whnf
      refine VCall.of_data cd2 (nd _) ?_;conv=>whnf
      refine Br.mk (fun h=>?_) (fun h=>?_)
      ·have h0:dv d=0:=by simp only [decide_eq_true_eq] at h;exact hzd.1 (by omega)
       rw [show parseS true [d]=none by first | (show one2 _ _=_;rw [one2,if_pos (.inr ⟨rfl,h0⟩)]) | (show two2 _ _ _=_;rw [two2,if_pos (.inr ⟨rfl,h0⟩)])];conv=>whnf
       exact ⟨rfl,rfl,trivial,rfl⟩
      ·have h0:dv d≠0:=fun e=>by simp only [decide_eq_false_iff_not] at h;have:=hzd.2 e;omega
       have hs0:dv d=0→true=false:=fun e=>absurd e h0;have hno:¬(¬okN d∨true=true∧dv d=0):=by rintro (h | ⟨_,h⟩);exact h hd;exact h0 h
       obtain ⟨p1,p2,p3⟩:=parts_of (s:=true) (t:=dv d) (b:=1) (by decide) (Nat.gcd_one_right _) hs0;rw [show parseS true [d]=some (mkRat (sgn true (dv d)) 1) by show one2 _ _=_;rw [one2,if_neg hno]];rw [show rOS (some (mkRat (sgn true (dv d)) 1)) = .ag [B true,nS (dv d),nS 1] by rw [rOS,rS,p1,p2,p3]];conv=>whnf
       exact ⟨rfl,rfl,⟨rfl,Nat.le_refl _,rfl⟩,rfl,trivial,rfl⟩
     ·rw [decide_eq_false hd] at cd1;rw [show parseS true [d]=none by show one2 _ _=_;rw [one2,if_pos (.inl hd)]];conv=>whnf
      refine ⟨⟨⟨by omega,by omega⟩,cT_sz _⟩,?_⟩;conv=>whnf
      refine ⟨[.s (.string ⟨d.toArray⟩)],rfl,?_⟩;conv=>whnf
      refine VCall.of_data cd1 (nd _) ?_;conv=>whnf
      exact ⟨rfl,rfl,trivial,rfl⟩
    ·have hdl:=hsum d (by simp);have hln:((cT [d,g]).length:Int)=2:=rfl;have cd1:=fn_sDigits d (by omega);by_cases hd:okN d
     ·rw [decide_eq_true hd] at cd1;have cd2:=fn_sNatRead d (by omega) hd.dig;have hbd:=hd.bl;have hld:((cW .i64 (dg B9 (dv d))).length:Int)=(dg B9 (dv d)).length:=by rw [cW_len]
      have hzd:=dg_len_zero b9 (n:=dv d);conv=>whnf
      refine ⟨⟨⟨by omega,by omega⟩,cT_sz _⟩,?_⟩;conv=>whnf
      refine ⟨[.s (.string ⟨d.toArray⟩)],rfl,?_⟩;conv=>whnf
      refine VCall.of_data cd1 (nd _) ?_;conv=>whnf
      refine ⟨⟨⟨by omega,by omega⟩,cT_sz _⟩,?_⟩;conv=>whnf
      refine ⟨[.s (.string ⟨d.toArray⟩)],rfl,?_⟩;conv=>whnf
      refine VCall.of_data cd2 (nd _) ?_;conv=>whnf
      refine Br.mk (fun h=>?_) (fun h=>?_)
      ·have h0:dv d=0:=by simp only [decide_eq_true_eq] at h;exact hzd.1 (by omega)
       rw [show parseS true [d,g]=none by first | (show one2 _ _=_;rw [one2,if_pos (.inr ⟨rfl,h0⟩)]) | (show two2 _ _ _=_;rw [two2,if_pos (.inr ⟨rfl,h0⟩)])];conv=>whnf
       exact ⟨rfl,rfl,trivial,rfl⟩
      ·have h0:dv d≠0:=fun e=>by simp only [decide_eq_false_iff_not] at h;have:=hzd.2 e;omega
       have hs0:dv d=0→true=false:=fun e=>absurd e h0;have hno:¬(¬okN d∨true=true∧dv d=0):=by rintro (h | ⟨_,h⟩);exact h hd;exact h0 h
       have hgl:=hsum g (by simp);have cg1:=fn_sDigits g (by omega);conv=>whnf
       refine ⟨⟨⟨by omega,by omega⟩,cT_sz _⟩,?_⟩;conv=>whnf
       refine ⟨[.s (.string ⟨g.toArray⟩)],rfl,?_⟩;by_cases hg:okN g
       ·have hbg:=hg.bl;rw [decide_eq_true hg] at cg1;have cg2:=fn_sNatRead g (by omega) hg.dig;have cc:=fn_sCmp (dv g) 1 (by omega) (by decide);conv=>whnf
        refine VCall.of_data cg1 (nd _) ?_;conv=>whnf
        refine ⟨⟨⟨by omega,by omega⟩,cT_sz _⟩,?_⟩;conv=>whnf
        refine ⟨[.s (.string ⟨g.toArray⟩)],rfl,?_⟩;conv=>whnf
        refine VCall.of_data cg2 (nd _) ?_;conv=>whnf
        refine VCall.frz 61 cc rfl ⟨rfl,⟨rfl,rfl,Nat.le_refl _,rfl⟩,trivial⟩ (nd _) ?_;conv=>whnf
        refine Br.mk (fun h7=>?_) (fun h7=>?_)
        ·have h7:dv g≤1:=by
          simp only [decide_eq_true_eq] at h7;have:=cmpZ_pos' (a:=dv g) (b:=1);omega
         rw [show parseS true [d,g]=none by show two2 _ _ _=_;rw [two2,if_neg hno,if_pos (.inr (.inl h7))]];conv=>whnf
         exact ⟨rfl,rfl,trivial,rfl⟩
        ·have h7:¬dv g≤1:=by
          simp only [decide_eq_false_iff_not] at h7;have:=cmpZ_pos' (a:=dv g) (b:=1);omega
         have cgc:=fn_sGcd (dv d) (dv g) (by omega) (by omega);have hbgc:bl ((dv d).gcd (dv g))≤800:=Nat.le_trans (bl_mono (Nat.gcd_le_right _ (by omega))) hbg;have cc2:=fn_sCmp ((dv d).gcd (dv g)) 1 (by omega) (by decide);conv=>whnf
         refine VCall.of_data cgc (nd _) ?_;conv=>whnf
         refine VCall.frz 68 cc2 rfl ⟨rfl,⟨rfl,rfl,Nat.le_refl _,rfl⟩,trivial⟩ (nd _) ?_;conv=>whnf
         refine Br.mk (fun h8=>?_) (fun h8=>?_)
         ·have h8:(dv d).gcd (dv g)≠1:=fun e=>by rw [cmpZ_zero.2 e] at h8;exact absurd h8 (by decide)
          rw [show parseS true [d,g]=none by show two2 _ _ _=_;rw [two2,if_neg hno,if_pos (.inr (.inr h8))]];conv=>whnf
          exact ⟨rfl,rfl,trivial,rfl⟩
         ·have h8:(dv d).gcd (dv g)=1:=cmpZ_zero.1 (by simpa using h8);obtain ⟨p1,p2,p3⟩:=parts_of (s:=true) (t:=dv d) (b:=dv g) (by omega) h8 hs0;rw [show parseS true [d,g]=some (mkRat (sgn true (dv d)) (dv g)) by
           show two2 _ _ _=_;rw [two2,if_neg hno,if_neg (by rintro (h9 | h9 | h9);exact h9 hg;exact h7 h9;exact h9 h8)]]
          rw [show rOS (some (mkRat (sgn true (dv d)) (dv g))) = .ag [B true,nS (dv d),nS (dv g)] by rw [rOS,rS,p1,p2,p3]];conv=>whnf
          exact ⟨rfl,rfl,rfl,rfl,trivial,rfl⟩
       ·rw [decide_eq_false hg] at cg1;rw [show parseS true [d,g]=none by show two2 _ _ _=_;rw [two2,if_neg hno,if_pos (.inl hg)]];conv=>whnf
        refine VCall.of_data cg1 (nd _) ?_;conv=>whnf
        exact ⟨rfl,rfl,trivial,rfl⟩
     ·rw [decide_eq_false hd] at cd1;rw [show parseS true [d,g]=none by show two2 _ _ _=_;rw [two2,if_pos (.inl hd)]];conv=>whnf
      refine ⟨⟨⟨by omega,by omega⟩,cT_sz _⟩,?_⟩;conv=>whnf
      refine ⟨[.s (.string ⟨d.toArray⟩)],rfl,?_⟩;conv=>whnf
      refine VCall.of_data cd1 (nd _) ?_;conv=>whnf
      exact ⟨rfl,rfl,trivial,rfl⟩
    ·have hln:((cT (d :: g :: e :: q)).length:Int)=q.length+3:=by rw [cT_len,List.length_cons,List.length_cons,List.length_cons];omega
     rw [show parseS true (d :: g :: e :: q)=none from rfl];conv=>whnf
     refine Br.mk (fun h9=>?_) (fun h9=>?_)
     ·conv=>whnf
      exact ⟨rfl,rfl,trivial,rfl⟩
     ·simp only [decide_eq_false_iff_not] at h9;omega
   ·have hB:=h2;have h2:b≠45:=fun e=>by
     have h3:¬((b.toNat:Nat):Int)=45:=by simp only [decide_eq_false_iff_not] at h2;exact h2
     rw [e] at h3;exact h3 rfl
    rw [show Lib.trimPrefix (b :: r) [45]=b :: r by unfold Lib.trimPrefix;rw [pre_cons,decide_eq_false h2];rfl,pre_cons,decide_eq_false h2];have hl':(b :: r).length≤1000000000:=hs;conv=>whnf
    rw [hB];have csp:=fn_sCut (b :: r) 47 hl';have hsum:=splitB_sum 47 (b :: r);have hne:=splitB_ne 47 (b :: r);refine VCall.of_data csp (nd _) ?_;generalize splitB 47 (b :: r)=ps at hsum hne;rcases ps with _ | ⟨d,_ | ⟨g,_ | ⟨e,q⟩⟩⟩
    ·exact absurd rfl hne
    ·have hdl:=hsum d (by simp);have hln:((cT [d]).length:Int)=1:=rfl;have cd1:=fn_sDigits d (by omega);by_cases hd:okN d
     ·rw [decide_eq_true hd] at cd1;have cd2:=fn_sNatRead d (by omega) hd.dig;have hbd:=hd.bl;have hld:((cW .i64 (dg B9 (dv d))).length:Int)=(dg B9 (dv d)).length:=by rw [cW_len]
      have hzd:=dg_len_zero b9 (n:=dv d);conv=>whnf
      refine ⟨⟨⟨by omega,by omega⟩,cT_sz _⟩,?_⟩;conv=>whnf
      refine ⟨[.s (.string ⟨d.toArray⟩)],rfl,?_⟩;conv=>whnf
      refine VCall.of_data cd1 (nd _) ?_;conv=>whnf
      refine ⟨⟨⟨by omega,by omega⟩,cT_sz _⟩,?_⟩;conv=>whnf
      refine ⟨[.s (.string ⟨d.toArray⟩)],rfl,?_⟩;conv=>whnf
      refine VCall.of_data cd2 (nd _) ?_;conv=>whnf
      have hs0:dv d=0→false=false:=fun _=>rfl;have hno:¬(¬okN d∨false=true∧dv d=0):=by rintro (h | ⟨h,_⟩);exact h hd;cases h
      obtain ⟨p1,p2,p3⟩:=parts_of (s:=false) (t:=dv d) (b:=1) (by decide) (Nat.gcd_one_right _) hs0;rw [show parseS false [d]=some (mkRat (sgn false (dv d)) 1) by show one2 _ _=_;rw [one2,if_neg hno]];rw [show rOS (some (mkRat (sgn false (dv d)) 1)) = .ag [B false,nS (dv d),nS 1] by rw [rOS,rS,p1,p2,p3]];conv=>whnf
      exact ⟨rfl,rfl,⟨rfl,Nat.le_refl _,rfl⟩,rfl,trivial,rfl⟩
     ·rw [decide_eq_false hd] at cd1;rw [show parseS false [d]=none by show one2 _ _=_;rw [one2,if_pos (.inl hd)]];conv=>whnf
      refine ⟨⟨⟨by omega,by omega⟩,cT_sz _⟩,?_⟩;conv=>whnf
      refine ⟨[.s (.string ⟨d.toArray⟩)],rfl,?_⟩;conv=>whnf
      refine VCall.of_data cd1 (nd _) ?_;conv=>whnf
      exact ⟨rfl,rfl,trivial,rfl⟩
    ·have hdl:=hsum d (by simp);have hln:((cT [d,g]).length:Int)=2:=rfl;have cd1:=fn_sDigits d (by omega);by_cases hd:okN d
     ·rw [decide_eq_true hd] at cd1;have cd2:=fn_sNatRead d (by omega) hd.dig;have hbd:=hd.bl;have hld:((cW .i64 (dg B9 (dv d))).length:Int)=(dg B9 (dv d)).length:=by rw [cW_len]
      have hzd:=dg_len_zero b9 (n:=dv d);conv=>whnf
      refine ⟨⟨⟨by omega,by omega⟩,cT_sz _⟩,?_⟩;conv=>whnf
      refine ⟨[.s (.string ⟨d.toArray⟩)],rfl,?_⟩;conv=>whnf
      refine VCall.of_data cd1 (nd _) ?_;conv=>whnf
      refine ⟨⟨⟨by omega,by omega⟩,cT_sz _⟩,?_⟩;conv=>whnf
      refine ⟨[.s (.string ⟨d.toArray⟩)],rfl,?_⟩;conv=>whnf
      refine VCall.of_data cd2 (nd _) ?_;conv=>whnf
      have hs0:dv d=0→false=false:=fun _=>rfl;have hno:¬(¬okN d∨false=true∧dv d=0):=by rintro (h | ⟨h,_⟩);exact h hd;cases h
      have hgl:=hsum g (by simp);have cg1:=fn_sDigits g (by omega);conv=>whnf
      refine ⟨⟨⟨by omega,by omega⟩,cT_sz _⟩,?_⟩;conv=>whnf
      refine ⟨[.s (.string ⟨g.toArray⟩)],rfl,?_⟩;by_cases hg:okN g
      ·have hbg:=hg.bl;rw [decide_eq_true hg] at cg1;have cg2:=fn_sNatRead g (by omega) hg.dig;have cc:=fn_sCmp (dv g) 1 (by omega) (by decide);conv=>whnf
       refine VCall.of_data cg1 (nd _) ?_;conv=>whnf
       refine ⟨⟨⟨by omega,by omega⟩,cT_sz _⟩,?_⟩;conv=>whnf
       refine ⟨[.s (.string ⟨g.toArray⟩)],rfl,?_⟩;conv=>whnf
       refine VCall.of_data cg2 (nd _) ?_;conv=>whnf
       refine VCall.frz 61 cc rfl ⟨rfl,⟨rfl,rfl,Nat.le_refl _,rfl⟩,trivial⟩ (nd _) ?_;conv=>whnf
       refine Br.mk (fun h7=>?_) (fun h7=>?_)
       ·have h7:dv g≤1:=by
         simp only [decide_eq_true_eq] at h7;have:=cmpZ_pos' (a:=dv g) (b:=1);omega
        rw [show parseS false [d,g]=none by show two2 _ _ _=_;rw [two2,if_neg hno,if_pos (.inr (.inl h7))]];conv=>whnf
        exact ⟨rfl,rfl,trivial,rfl⟩
       ·have h7:¬dv g≤1:=by
         simp only [decide_eq_false_iff_not] at h7;have:=cmpZ_pos' (a:=dv g) (b:=1);omega
        have cgc:=fn_sGcd (dv d) (dv g) (by omega) (by omega);have hbgc:bl ((dv d).gcd (dv g))≤800:=Nat.le_trans (bl_mono (Nat.gcd_le_right _ (by omega))) hbg;have cc2:=fn_sCmp ((dv d).gcd (dv g)) 1 (by omega) (by decide);conv=>whnf
        refine VCall.of_data cgc (nd _) ?_;conv=>whnf
        refine VCall.frz 68 cc2 rfl ⟨rfl,⟨rfl,rfl,Nat.le_refl _,rfl⟩,trivial⟩ (nd _) ?_;conv=>whnf
        refine Br.mk (fun h8=>?_) (fun h8=>?_)
        ·have h8:(dv d).gcd (dv g)≠1:=fun e=>by rw [cmpZ_zero.2 e] at h8;exact absurd h8 (by decide)
         rw [show parseS false [d,g]=none by show two2 _ _ _=_;rw [two2,if_neg hno,if_pos (.inr (.inr h8))]];conv=>whnf
         exact ⟨rfl,rfl,trivial,rfl⟩
        ·have h8:(dv d).gcd (dv g)=1:=cmpZ_zero.1 (by simpa using h8);obtain ⟨p1,p2,p3⟩:=parts_of (s:=false) (t:=dv d) (b:=dv g) (by omega) h8 hs0;rw [show parseS false [d,g]=some (mkRat (sgn false (dv d)) (dv g)) by
          show two2 _ _ _=_;rw [two2,if_neg hno,if_neg (by rintro (h9 | h9 | h9);exact h9 hg;exact h7 h9;exact h9 h8)]]
         rw [show rOS (some (mkRat (sgn false (dv d)) (dv g))) = .ag [B false,nS (dv d),nS (dv g)] by rw [rOS,rS,p1,p2,p3]];conv=>whnf
         exact ⟨rfl,rfl,rfl,rfl,trivial,rfl⟩
      ·rw [decide_eq_false hg] at cg1;rw [show parseS false [d,g]=none by show two2 _ _ _=_;rw [two2,if_neg hno,if_pos (.inl hg)]];conv=>whnf
       refine VCall.of_data cg1 (nd _) ?_;conv=>whnf
       exact ⟨rfl,rfl,trivial,rfl⟩
     ·rw [decide_eq_false hd] at cd1;rw [show parseS false [d,g]=none by show two2 _ _ _=_;rw [two2,if_pos (.inl hd)]];conv=>whnf
      refine ⟨⟨⟨by omega,by omega⟩,cT_sz _⟩,?_⟩;conv=>whnf
      refine ⟨[.s (.string ⟨d.toArray⟩)],rfl,?_⟩;conv=>whnf
      refine VCall.of_data cd1 (nd _) ?_;conv=>whnf
      exact ⟨rfl,rfl,trivial,rfl⟩
    ·have hln:((cT (d :: g :: e :: q)).length:Int)=q.length+3:=by rw [cT_len,List.length_cons,List.length_cons,List.length_cons];omega
     rw [show parseS false (d :: g :: e :: q)=none from rfl];conv=>whnf
     refine Br.mk (fun h9=>?_) (fun h9=>?_)
     ·conv=>whnf
      exact ⟨rfl,rfl,trivial,rfl⟩
     ·simp only [decide_eq_false_iff_not] at h9;omega
  ·rw [hbz] at h;simp only [decide_eq_false_iff_not] at h;omega
end Go.V
namespace Go.V
open Go.Proofs Go.RowKit
set_option maxRecDepth 10000
set_option maxHeartbeats 1000000
end Go.V
namespace Go.V
open Go.Proofs Go.RowKit
set_option maxRecDepth 10000
set_option maxHeartbeats 1000000
end Go.V
namespace Go.V
open Go.Proofs Go.RowKit
set_option maxRecDepth 10000
set_option maxHeartbeats 1000000
def room (n:Nat):Nat:=if n % 6=5 then 0 else if n % 3=0 then 1 else n
def marks (k n:Nat):List Int:=(List.range n).map fun i=>((k+i:Nat):Int)
end Go.V
namespace Go.V
open Go.Proofs Go.RowKit
set_option maxRecDepth 10000
set_option maxHeartbeats 1000000
theorem cT_set (xs:List (List UInt8)) (k:Nat) (x:List UInt8):(cT xs).set k [.s (.string ⟨x.toArray⟩)]=cT (xs.set k x):=by
 unfold cT;rw [List.map_set]
end Go.V
namespace Go.V
open Go.Proofs Go.RowKit
set_option maxRecDepth 10000
set_option maxHeartbeats 1000000
theorem lend_wholeT {id:Nat} {l:LL} {xs ys:List (List UInt8)} (h:lget id l = .row true 1 (cT (xs++ys))):lend1 l (.ls id 0 xs.length 1) (.d (.sl (cT xs))):=by
 unfold lend1
 simp only [h]
 exact ⟨trivial,by simp [cT],by simp [cT]⟩
end Go.V
namespace Go.Proofs
open Go.Shelf Go.RowKit Go.Sort Go.Lib
set_option maxHeartbeats 6400000 in
set_option maxRecDepth 100000 in
theorem Tryz.numDigitsC (u:Nat) (h1:1≤u) (h2:u < 18446744073709551616) (w:World) (hc:∀i,i < 20→w.cell? ⟨3,i,none⟩=some (.int .u64 ((10 ^ i:Nat):Int))) :
  Calls Tryz.prog 120 #[.int .u64 u] w fun e w'=>e = .returned (.int .i64 (Lib.nDigits u))∧w'=w:=by
 obtain ⟨hnd,h19⟩:=Lib.numDigits_eq u h1 h2;have hL:Lib.bitLen u≤64:=Lib.bitLen_le u 64 (Nat.le_refl _) h2;have hcell:=hc (Lib.l10 (Lib.bitLen u)) (by omega);have hto:((u:Int)).toNat=u:=by omega
 generalize hq:Lib.l10 (Lib.bitLen u)=q at hnd h19 hcell;generalize hT:10 ^ q=T at hnd hcell;have h20:q < 20:=by omega
 have Hnd:=Lib.hid hnd;clear hnd hc
 go_enter Tryz.func120,Tryz.ntmps120
 go_wp2_with (first
  | (go_at_call 132;refine (Tryz.bits_Len64 _ _ (by omega) (by omega)).mono ?_;rintro e w' ⟨rfl,rfl⟩)
  | (go_at_call 131;refine (Tryz.internal_strconv_log10Pow2 _ (by first | exact hL | (rw [hto];exact hL)) _).mono ?_;rintro e w' ⟨rfl,rfl⟩)
  | (go_at_call 133;refine (Tryz.internal_strconv_bool2_int _ _).mono ?_;rintro e w' ⟨rfl,rfl⟩))
 all_goals go_ret
 all_goals (
  refine ⟨?_,rfl⟩;have hnd:=Hnd.out
  congr 2
  split at hnd <;> simp_all <;> omega)
set_option maxHeartbeats 6400000 in
set_option maxRecDepth 100000 in
theorem Tryz.formatUintS (u:Nat) (hu:u < 100) (w:World) :
  Calls Tryz.prog 97 #[.int .u64 u,.int .i64 10] w fun e w'=>e = .returned (.string ⟨(Lib.decDigits u).toArray⟩)∧w'=w:=by
 have iu:(u:Int) < 100:=by omega
 go_enter Tryz.func97,Tryz.ntmps97
 go_wp2_with (go_at_call 119;refine (Tryz.internal_strconv_small u hu _).mono ?_;rintro e w' ⟨rfl,rfl⟩)
 all_goals go_ret
 all_goals exact ⟨rfl,rfl⟩
set_option maxHeartbeats 6400000 in
set_option maxRecDepth 100000 in
theorem Tryz.formatUintB (u:Nat) (hu:100≤u) (hu64:u < 18446744073709551616) (w:World) (hc:∀i,i < 20→w.cell? ⟨3,i,none⟩=some (.int .u64 ((10 ^ i:Nat):Int))) :
  Calls Tryz.prog 97 #[.int .u64 u,.int .i64 10] w fun e w'=>e = .returned (.string ⟨(Lib.decDigits u).toArray⟩)∧∃k os,w'=grow (w.drewN k) os:=by
 have hu1:1≤u:=by omega
 have hnd20:Lib.nDigits u≤20:=by have:=Lib.numDigits_eq u hu1 hu64;split at this <;> omega
 have hal:Tryz.prog.arrayLen 165=24:=by simp [Program.arrayLen,Tryz.underlying165]
 have hsl:∀W,(Instr.sliceAt 165 (.pointer (some ⟨w.heap.size,0,none⟩)) none (some (.int .i64 (Lib.nDigits u:Int))) none).run Tryz.prog W = .ok (.slice (some ⟨w.heap.size,0,none⟩) (Lib.nDigits u) 24) W:=fun W=>by
  rw [run_sliceAt_array_h W 165 ⟨w.heap.size,0,none⟩ (by simp [Program.arrayLen,Program.elem,Tryz.underlying165]) .i64 (Lib.nDigits u:Int) (by omega) (by rw [hal];omega)]
  go_simp
 have hH0:=Lib.holds_zero0 w 165 (Lib.nDigits u) (by omega);have hfmt:=Tryz.internal_strconv_formatBase10 w.heap.size 0 24 u (Array.replicate (Lib.nDigits u) 0) (w.alloc (.cells Lib.zeros24 165)) hH0 (by rw [Array.size_replicate];exact Lib.lt_pow_nDigits u) hu64 (by rw [Array.size_replicate];omega);rw [Array.size_replicate] at hfmt;have HH0:=Lib.hid hH0;have iu:(100:Int)≤(u:Int):=by omega
 have hc':∀i,i < 20→(w.alloc (.cells Lib.zeros24 165)).cell? ⟨3,i,none⟩=some (.int .u64 ((10 ^ i:Nat):Int)):=fun i hi=>Lib.cell?_alloc_some _ (hc i hi);clear hH0 hal
 go_enter Tryz.func97,Tryz.ntmps97
 go_wp2_with (go_at_call 120;refine (Tryz.numDigitsC u hu1 hu64 _ hc').mono ?_;rintro e w' ⟨rfl,rfl⟩)
 refine hfmt.mono ?_;rintro e w' ⟨rfl,k,v',dk,rfl,hF⟩;have hcv:(convert 22 9 (.slice (some ⟨w.heap.size,0,none⟩) (Lib.nDigits u) 24)).run Tryz.prog ((putRow (fun (b:UInt8)=>Value.int .u8 (b.toNat:Int)) (w.alloc (.cells Lib.zeros24 165)) w.heap.size 0 dk).drewN k) = .ok (.string ⟨(Lib.decDigits u).toArray⟩) ((putRow (fun (b:UInt8)=>Value.int .u8 (b.toNat:Int)) (w.alloc (.cells Lib.zeros24 165)) w.heap.size 0 dk).drewN k):=by
  have h:=run_convert_bytes_back (P:=Tryz.prog) ((putRow (fun (b:UInt8)=>Value.int .u8 (b.toNat:Int)) (w.alloc (.cells Lib.zeros24 165)) w.heap.size 0 dk).drewN k) 22 9 5 ⟨w.heap.size,0,none⟩ 24 (Lib.decDigits u) Tryz.underlying22 Tryz.underlying5 Tryz.underlying9 (fun j hj=>by
   rw [Lib.row_is_numeral hF j hj,Lib.add_plain,World.cell?_drewN];exact cell?_putRow (fun (b:UInt8)=>Value.int .u8 (b.toNat:Int)) _ w.heap.size 0 _ dk HH0.out (by rw [hF.size,Array.size_replicate]) j (by rw [hF.size];rw [Lib.decDigits_length] at hj;exact hj))
  rw [Lib.decDigits_length] at h;exact h
 go_wp2
 go_ret
 obtain ⟨os,eo⟩:=Lib.fin_at w (.cells Lib.zeros24 165) dk k 0;exact ⟨rfl,k,os,eo⟩
end Go.Proofs
namespace Go.V
open Go.Proofs Go.RowKit
set_option maxRecDepth 10000
theorem pow10_glob (w:World) (hg:∀b o y,glob b o y→w.cell? ⟨b,o,none⟩=some y) (i:Nat) (hi:i < 20):w.cell? ⟨3,i,none⟩=some (.int .u64 ((10 ^ i:Nat):Int)):=by
 refine hg 3 i _ ?_
 unfold glob
 have e:gget 3 globT=(List.range 20).map fun i=>Value.int .u64 ((10 ^ i:Nat):Int):=rfl
 rw [e]
 simp [hi]
theorem fn_iFormatUint (u:Nat) (hu:u < 18446744073709551616):Fn Tryz.prog 97 [.d (.s (.int .u64 u)),I 10] [] (Str (Lib.decDigits u)) []:=by
 refine Fn.of_calls (vs:=[.int .u64 u,.int .i64 10]) ⟨_,rfl,rfl,rfl⟩ fun w hg=>?_
 by_cases h:u < 100
 ·refine Calls.mono (Tryz.formatUintS u h w) ?_
  rintro e w' ⟨rfl,rfl⟩
  exact ⟨_,rfl,fun κ ρ=>.d _ _ (.s _),Grew.refl _⟩
 ·refine Calls.mono (Tryz.formatUintB u (by omega) hu w (pow10_glob w hg)) ?_
  rintro e w' ⟨rfl,k,os,rfl⟩
  exact ⟨_,rfl,fun κ ρ=>.d _ _ (.s _),Grew.below (Lib.below_grow _ w (Nat.le_refl _) k os)⟩
theorem fn_FormatUint (u:Nat) (hu:u < 18446744073709551616):Fn Tryz.prog 77 [.d (.s (.int .u64 u)),I 10] [] (Str (Lib.decDigits u)) []:=by
 refine Fn.intro (ks:=[0,1,4]) hty rfl rfl rfl rfl rfl ?_
 conv=>whnf
 refine VCall.of_data (fn_iFormatUint u hu) (nd _) ?_
 conv=>whnf
 exact ⟨rfl,trivial,rfl⟩
end Go.V
namespace Go.V
open Go.Proofs Go.RowKit
set_option maxRecDepth 10000
set_option maxHeartbeats 1000000
def revL (zs:List (List UInt8)) (k:Nat):List (List UInt8):=(List.range zs.length).map fun i=>if i < k∨zs.length - 1 - i < k then zs.getD (zs.length - 1 - i) [] else zs.getD i []
theorem revL_len (zs:List (List UInt8)) (k:Nat):(revL zs k).length=zs.length:=by simp [revL]
theorem revL_zero (zs:List (List UInt8)):revL zs 0=zs:=by
 apply List.ext_getElem (by simp [revL_len])
 intro i h1 h2
 simp [revL,h2]
theorem revL_end (zs:List (List UInt8)) (k:Nat) (h:zs.length≤2*k+1):revL zs k=zs.reverse:=by
 apply List.ext_getElem (by simp [revL_len]);intro i h1 h2;have h2:i < zs.length:=by simpa using h2
 simp only [revL,List.getElem_map,List.getElem_range,List.getElem_reverse];rw [gD,gD,List.getElem?_eq_getElem (by omega),List.getElem?_eq_getElem (by omega)];by_cases hc:i < k∨zs.length - 1 - i < k
 ·rw [if_pos hc];simp
 ·rw [if_neg hc];have:i=zs.length - 1 - i:=by omega
  simp [←this]
theorem revL_at (zs:List (List UInt8)) (k i:Nat) (h1:¬i < k) (h2:¬zs.length - 1 - i < k) (hi:i < zs.length):(revL zs k).getD i []=zs.getD i []:=by
 rw [gD,List.getElem?_eq_getElem (by rw [revL_len];exact hi)]
 simp [revL,h1,h2]
theorem revL_step (zs:List (List UInt8)) (k:Nat) (h:2*k+1 < zs.length):((revL zs k).set k (zs.getD (zs.length - 1 - k) [])).set (zs.length - 1 - k) (zs.getD k [])=revL zs (k+1):=by
 apply List.ext_getElem (by simp [revL_len]);intro i h1 h2;have hi:i < zs.length:=by simpa [revL_len] using h2
 rw [List.getElem_set,List.getElem_set];simp only [revL,List.getElem_map,List.getElem_range];by_cases e1:zs.length - 1 - k=i
 ·rw [if_pos e1,if_pos (by omega),show zs.length - 1 - i=k by omega]
 ·rw [if_neg e1];by_cases e2:k=i
  ·rw [if_pos e2,if_pos (by omega),e2]
  ·rw [if_neg e2];by_cases hc:i < k∨zs.length - 1 - i < k
   ·rw [if_pos hc,if_pos (by omega)]
   ·rw [if_neg hc,if_neg (by omega)]
theorem fn_Reverse (zs:List (List UInt8)) (hl:zs.length≤1000000000000) :
  Fn Tryz.prog 79 [.ls 1000000 0 zs.length 1] [(1000000,.row true 1 (cT zs))] (.tup []) [(1000000,.row true 1 (cT zs.reverse))]:=by
 refine Fn.intro (ks:=[0,2,3,9]) hty rfl rfl rfl rfl rfl ?_;conv=>whnf
 refine Wr.fit (wrap_i64 (by omega) (by omega)) ?_;conv=>whnf
 refine VLoop.inv hty (S:=Nat) (fun k=>[(3,I ((zs.length:Int) - 1 - k)),(2,I k),(0,.ls 1000000 0 zs.length 1)]) (fun k=>[(1000000,.row true 1 (cT (revL zs k)))]) (fun k=>k≤zs.length) (fun k=>zs.length - k) 0 (Nat.zero_le _)
  ⟨congrArg I (by simp),rfl,rfl,trivial⟩ ⟨by rw [revL_zero];rfl,trivial⟩ ?_
 intro k hk;conv=>whnf
 obtain ⟨j,ej⟩:∃j,(zs.length:Int) - 1 - k=j:=⟨_,rfl⟩;rw [ej];refine Br.mk (fun h=>?_) (fun h=>?_)
 ·have h:(k:Int) < j:=by simpa using h
  have hk2:2*k+1 < zs.length:=by omega
  conv=>whnf
  obtain ⟨m,rfl⟩:∃m:Nat,j=m:=⟨j.toNat,by omega⟩;have hm:m=zs.length - 1 - k:=by omega
  have hR:=revL_len zs k;have hstep:=revL_step zs k hk2;rw [←hm] at hstep;have e1:=revL_at zs k k (by omega) (by omega) (by omega);have e2:=revL_at zs k m (by omega) (by omega) (by omega);generalize zs.getD k []=a at e1 hstep;generalize zs.getD m []=b at e2 hstep;generalize revL zs k=R at hR e1 e2 hstep ⊢;have c1:0≤(k:Int)∧(k:Int) < zs.length:=by omega
  have c2:0≤(m:Int)∧(m:Int) < zs.length:=by omega
  have a1:=cT_as (by omega) e1;have a2:=cT_as (by omega) e2;have a3:((cT R).set k [.s (.string ⟨b.toArray⟩)])[m]? = some [.s (.string ⟨b.toArray⟩)]:=by rw [List.getElem?_set_ne (by omega)];exact a2
  refine VDraw.goS hmo hty [0,1,2,3,4,5,8,9] rfl ?_;conv=>whnf
  repeat' (first
   | (refine ⟨c1,?_⟩;conv=>whnf)
   | (refine ⟨c2,?_⟩;conv=>whnf)
   | (refine ⟨_,a1,?_⟩;conv=>whnf)
   | (refine ⟨_,a2,?_⟩;conv=>whnf)
   | (refine ⟨_,a3,?_⟩;conv=>whnf)
   | (refine Wr.fit (wrap_i64 (by omega) (by omega)) ?_;conv=>whnf)
   | exact ⟨k+1,by omega,by omega,⟨congrArg I (by omega),rfl,rfl,trivial⟩,by rw [←hstep,←cT_set,←cT_set];rfl,trivial⟩
   | (refine ⟨?_,?_⟩ <;> conv=>whnf))
 ·have h:¬(k:Int) < j:=by simpa using h
  conv=>whnf
  rw [revL_end zs k (by omega)];exact ⟨⟨rfl,trivial⟩,rfl⟩
theorem VCall.par1u {P:Program} {t:TL} {l:LL} {f:FuncId} {xs xs0:List AV} {sz sz':Nat} {rows rows':List (List C)} {dst:Option Nat} {K:AV→TL→LL→Prop} (a:Nat)
  (h:Fn P f xs0 [(1000000,.row true sz rows)] (.tup []) [(1000000,.row true sz' rows')]) (ha:argR (pmap [(1000000,a)]) xs xs0) (hl:lget a l = .row true sz rows)
  (hK:K (.tup []) t ((a,.row true sz' rows') :: l)):VCall P f xs dst t l K :=
 VCall.of_fnR (k:=0) (pmap [(1000000,a)]) h ha ⟨⟨hl,fun p h=>absurd rfl h⟩,trivial⟩ rfl (keepRows rfl rfl) (fun _ h=>by cases h) rfl hK
theorem repeat_one (c:UInt8) (n:Nat):Lib.repeatL [c] n=List.replicate n c:=by
 induction n with
 | zero=>rfl
 | succ n ih=>rw [Lib.repeatL,ih];rfl
theorem fn_Repeat (s:List UInt8) (c:Nat) (hc:c≤1000000000) (hl:s.length≤1000):Fn Tryz.prog 78 [Str s,I c] [] (Str (Lib.repeatL s c)) []:=by
 refine Fn.of_calls (vs:=[.string ⟨s.toArray⟩,.int .i64 c]) ⟨_,rfl,rfl,rfl⟩ fun w _=>?_;have hb:(⟨s.toArray⟩:ByteArray).size=s.length:=by simp [ByteArray.size]
 have hm:s.length*c≤1000*1000000000:=Nat.mul_le_mul hl hc;refine Calls.mono (Tryz.strings_Repeat ⟨s.toArray⟩ c w (by omega) (by rw [hb];omega)) ?_;rintro e w' ⟨rfl,hw⟩;refine ⟨_,rfl,fun κ ρ=>?_,Grew.below hw⟩;exact .d _ _ (.s _)
theorem repr_sl {κ:Know} {v:Value} {rows:List (List C)} (h:Repr κ v (.sl rows)):(rows=[]∧∃a cap,v = .slice a 0 cap) ∨
  ∃(b off n cap:Nat) (vs:Nat→Value),v = .slice (some ⟨b,off,none⟩) n cap∧n=rows.length∧n≤cap∧(∀(k:Nat) (c:C),rows.flatten[k]? = some c→κ b (off+k) (vs k))∧∀(k:Nat) (c:C),rows.flatten[k]? = some c→Repr κ (vs k) c:=by
 cases h with
 | nil=>exact .inl ⟨rfl,_,_,rfl⟩
 | none a cap=>exact .inl ⟨rfl,_,_,rfl⟩
 | sl b off n cap rows vs hn hc hk hr=>exact .inr ⟨b,off,n,cap,vs,rfl,hn,hc,hk,hr⟩
theorem cT_flatten (xs:List (List UInt8)):(cT xs).flatten=xs.map fun s=>C.s (.string ⟨s.toArray⟩):=by
 induction xs with
 | nil=>rfl
 | cons x xs ih=>simp only [cT,List.map_cons,List.flatten_cons] at ih ⊢;rw [ih];rfl
theorem fn_Join (xs:List (List UInt8)) (sep:List UInt8) (hN:xs.length≤100000000000) (hlen:(Lib.join xs sep).length≤1000000000000):Fn Tryz.prog 80 [lT xs,Str sep] [] (Str (Lib.join xs sep)) [] where
 en:=⟨_,rfl,rfl,rfl⟩
 out:=fun κ ρ w us hm hs hv=>by
  have hs:us.size=2:=hs;have h0:=hv 0 us[0] (lT xs) (by simp) rfl;have h1:=hv 1 us[1] (Str sep) (by simp) rfl;have eus:us = #[us[0],us[1]]:=by
   apply Array.ext
   ·simpa using hs
   ·intro i h1 h2
    match i,h1 with
    | 0,_=>rfl
    | 1,_=>rfl
    | i+2,h1=>omega
  have e1:us[1] = .string ⟨sep.toArray⟩:=by
   generalize us[1]=v1 at h1;cases h1 with
   | d _ _ h=>cases h;rfl
  generalize us[0]=v0 at h0 eus;rw [e1] at eus;subst eus;have h0:Repr κ v0 (.sl (cT xs)):=by cases h0 with | d _ _ h=>exact h
  have hnone:∀(a:Option Addr) (c:Nat),xs=[]→v0 = .slice a 0 c→Calls Tryz.prog 80 #[v0,.string ⟨sep.toArray⟩] w fun e w'=>∃v κ' ρ',e = .returned v∧κ.le κ'∧Mem ⟨w,Mof ρ [],κ,0,ρ⟩ κ' ρ' [] w'∧AVR κ' ρ' v (Str (Lib.join xs sep)):=by
   intro a c hx he;subst hx;subst he;refine Calls.mono (Tryz.strings_Join_none a c ⟨sep.toArray⟩ w) ?_;rintro e w' ⟨rfl,rfl⟩;exact ⟨_,κ,ρ,rfl,Know.le_refl _,hm,.d _ _ (.s _)⟩
  rcases repr_sl h0 with ⟨hx,a,cap,he⟩ | ⟨b,off,n,cap,vs,he,hn,hc,hk,hr⟩
  ·exact hnone a cap (by simpa [cT] using hx) he
  ·rw [cT_len] at hn;subst hn;by_cases hx:xs=[]
   ·exact hnone (some ⟨b,off,none⟩) cap hx (by rw [he,hx];rfl)
   ·subst he;have key:∀(j:Nat) (s:List UInt8),xs[j]? = some s→κ b (off+j) (.string ⟨s.toArray⟩):=by
     intro j s hj;have hc0:(cT xs).flatten[j]? = some (.s (.string ⟨s.toArray⟩)):=by rw [cT_flatten,List.getElem?_map,hj];rfl
     have h2:=hk j _ hc0;have h3:=hr j _ hc0;generalize vs j=y at h2 h3;cases h3 with
     | s=>exact h2
    have hbk:b < w.heap.size:=by
     obtain ⟨s,hs0⟩:∃s,xs[0]? = some s:=by cases xs with | nil=>exact absurd rfl hx | cons s r=>exact ⟨s,rfl⟩
     exact hm.known_block (key 0 s hs0)
    have em:(xs.map fun s=>(⟨s.toArray⟩:ByteArray)).map (·.data.toList)=xs:=by simp [Function.comp_def]
    have h:=Tryz.strings_Join b off cap (xs.map fun s=>(⟨s.toArray⟩:ByteArray)) ⟨sep.toArray⟩ w (by
     intro j x hj;rw [List.getElem?_map] at hj;cases hj2:xs[j]? with
     | none=>rw [hj2] at hj;cases hj
     | some s =>
      rw [hj2] at hj;cases hj;exact hm.kn _ _ _ (key j s hj2)) hbk (by simp;omega) (by simpa using hc) (by rw [em];show (Lib.join xs sep).length≤_;omega)
    rw [em,List.length_map] at h;refine Calls.mono h ?_;rintro e w' ⟨rfl,hw⟩;exact ⟨_,κ,ρ,rfl,Know.le_refl _,hm.grew (Grew.below hw),.d _ _ (.s _)⟩
end Go.V
namespace Go.V
open Go.Proofs Go.RowKit
set_option maxRecDepth 10000
set_option maxHeartbeats 1000000
abbrev dd (n:Nat):List UInt8:=Lib.decDigits n
theorem dd_small {n:Nat} (h:n < 10):dd n=[UInt8.ofNat (48+n)]:=by rw [dd,Lib.decDigits,dif_pos h]
theorem dd_big {n:Nat} (h:¬n < 10):dd n=dd (n / 10)++[UInt8.ofNat (48+n % 10)]:=by rw [dd,Lib.decDigits,dif_neg h]
theorem dd_ne (n:Nat):dd n≠[]:=by
 by_cases h:n < 10
 ·rw [dd_small h];simp
 ·rw [dd_big h];simp
theorem dd_len_le:∀(k n:Nat),n < 10 ^ (k+1)→(dd n).length≤k+1
 | 0,n,h=>by rw [dd_small (by simpa using h)];simp
 | k+1,n,h=>by
   by_cases h9:n < 10
   ·rw [dd_small h9];simp
   ·rw [dd_big h9,List.length_append,List.length_singleton]
    have:=dd_len_le k (n / 10) (by rw [Nat.pow_succ] at h;omega)
    omega
theorem dd_bl (n:Nat):(dd n).length≤bl n+1:=dd_len_le (bl n) n (by
 have h1:=lt_bl n
 have h2:2 ^ bl n≤10 ^ bl n:=Nat.pow_le_pow_left (by decide) _
 have h3:10 ^ bl n≤10 ^ (bl n+1):=Nat.pow_le_pow_right (by decide) (by omega)
 omega)
def padd (k r:Nat):List UInt8:=List.replicate (k - (dd r).length) 48++dd r
theorem padd_len {k r:Nat} (h:r < 10 ^ (k+1)):(padd (k+1) r).length=k+1:=by
 have:=dd_len_le k r h
 simp only [padd,List.length_append,List.length_replicate];omega
theorem padd_succ {k r:Nat} (h:r < 10 ^ (k+2)):padd (k+2) r=padd (k+1) (r / 10)++[UInt8.ofNat (48+r % 10)]:=by
 by_cases h9:r < 10
 ·have e:r / 10=0:=by omega
  have e2:r % 10=r:=by omega
  rw [e,e2,padd,padd,dd_small h9,dd_small (n:=0) (by decide)];show List.replicate (k+2 - 1) 48++_=(List.replicate (k+1 - 1) 48++[48])++_;rw [show k+2 - 1=k+1 by omega,show k+1 - 1=k by omega,List.replicate_succ',List.append_assoc]
 ·rw [padd,padd,dd_big h9,List.length_append,List.length_singleton,List.append_assoc,show k+2 - ((dd (r / 10)).length+1)=k+1 - (dd (r / 10)).length by omega]
theorem dd_split:∀(k q r:Nat),0 < q→r < 10 ^ (k+1)→dd (q*10 ^ (k+1)+r)=dd q++padd (k+1) r
 | 0,q,r,hq,hr=>by
   have hr:r < 10:=by simpa using hr
   rw [show q*10 ^ (0+1)+r=q*10+r by simp,dd_big (by omega),show (q*10+r) / 10=q by omega,show (q*10+r) % 10=r by omega,padd,dd_small hr]
   rfl
 | k+1,q,r,hq,hr=>by
   have e:q*10 ^ (k+2)+r=(q*10 ^ (k+1))*10+r:=by rw [Nat.pow_succ,Nat.mul_assoc]
   have hp:0 < 10 ^ (k+1):=Nat.pow_pos (by decide);have hq2:1≤q*10 ^ (k+1):=Nat.mul_pos hq hp;rw [e,dd_big (by omega),show (q*10 ^ (k+1)*10+r) / 10=q*10 ^ (k+1)+r / 10 by omega,show (q*10 ^ (k+1)*10+r) % 10=r % 10 by omega,
    dd_split k q (r / 10) hq (by rw [Nat.pow_succ] at hr;omega),padd_succ hr,List.append_assoc]
theorem dd_nine {n:Nat} (h:0 < n / 1000000000):dd n=dd (n / 1000000000)++padd 9 (n % 1000000000):=by
 have:=dd_split 8 (n / 1000000000) (n % 1000000000) h (Nat.mod_lt _ (by decide))
 rw [show n / 1000000000*10 ^ (8+1)+n % 1000000000=n by have:=Nat.div_add_mod n 1000000000;simp only [Nat.reduceAdd,Nat.reducePow];omega] at this
 exact this
theorem dd_one {n:Nat}:dd n=[49]↔n=1:=by
 constructor
 ·intro h;by_cases h9:n < 10
  ·rw [dd_small h9] at h;have h:UInt8.ofNat (48+n)=49:=by simpa using h
   have:=congrArg UInt8.toNat h;rw [UInt8.toNat_ofNat'] at this;have e:(49:UInt8).toNat=49:=rfl;rw [e] at this;omega
  ·rw [dd_big h9] at h;have h5:=congrArg List.length h;rw [List.length_append,List.length_singleton,List.length_singleton] at h5;have:=List.length_pos_iff.2 (dd_ne (n / 10));omega
 ·intro h;rw [h,dd_small (by decide)];rfl
theorem dd_base {r:Nat} (h:r < 1000000000):dd (r+1000000000)=49 :: padd 9 r:=by
 have:=dd_split 8 1 r (by decide) (by simpa using h)
 rw [show 1*10 ^ (8+1)+r=r+1000000000 by simp only [Nat.reduceAdd,Nat.reducePow];omega] at this
 rw [this,dd_one.2 rfl];rfl
theorem itoa_nat (n:Nat):Lib.itoa (n:Int)=dd n:=Lib.itoa_nonneg n
end Go.V
namespace Go.V
open Go.Proofs Go.RowKit
set_option maxRecDepth 10000
set_option maxHeartbeats 1000000
def headT (n:Nat):List UInt8:=if n=0 then [] else dd n
theorem head_step {n:Nat} (h:n≠0):headT (n / 1000000000)++(if n / 1000000000=0 then dd (n % 1000000000) else padd 9 (n % 1000000000))=dd n:=by
 unfold headT
 by_cases h0:n / 1000000000=0
 ·rw [if_pos h0,if_pos h0,List.nil_append,show n % 1000000000=n by omega]
 ·rw [if_neg h0,if_neg h0,←dd_nine (by omega)]
theorem lend_allT {id n:Nat} {l:LL} {xs:List (List UInt8)} (hn:xs.length=n) (h:lget id l = .row true 1 (cT xs)):lend1 l (.ls id 0 n 1) (.d (.sl (cT xs))):=by
 subst hn;have:xs=xs++[]:=by simp
 rw [this] at h;exact lend_wholeT h
theorem join_flat (xs:List (List UInt8)):Lib.join xs []=xs.flatten:=by
 unfold Lib.join
 induction xs with
 | nil=>rfl
 | cons x r ih =>
  cases r with
  | nil=>simp [List.intercalate]
  | cons y r=>simp [List.intercalate,List.intersperse] at ih ⊢;rw [←ih]
theorem bl_part {n:Nat} (h:n≠0):bl (n / 1000000000)+1≤bl n:=by
 have h1:=lt_bl n
 have h0:1≤bl n:=by
  rcases Nat.eq_zero_or_pos (bl n) with e | e
  ·rw [e] at h1;omega
  ·exact e
 have:bl (n / 1000000000)≤bl n - 1:=bl_le (by
  obtain ⟨k,ek⟩:∃k,bl n=k+1:=⟨bl n - 1,by omega⟩
  rw [ek] at h1 ⊢
  rw [Nat.pow_succ] at h1
  show _ < 2 ^ (k+1 - 1)
  rw [Nat.add_sub_cancel];omega)
 omega
theorem fn_text (N:Nat) (hN:bl N≤100000000000):Fn Tryz.prog 59 [nI N] [] (Str (dd N)) []:=by
 refine Fn.intro (ks:=[0,2,3,4,5,6,9,13,24]) hty rfl rfl rfl rfl rfl ?_;conv=>whnf
 rw [cW_len];refine Br.mk (fun h=>?_) (fun h=>?_)
 ·have h:N=0:=by
   have h:(dg B32 N).length=0:=by simpa using h
   exact (dg_len_zero b32).1 h
  conv=>whnf
  refine ⟨?_,trivial,rfl⟩;rw [h,dd_small (by decide)];rfl
 ·have h:N≠0:=by
   intro e;rw [e] at h;simp [dg_zero] at h
  conv=>whnf
  refine VLoop.ren 10 34 rfl ?_;refine VLoop.inv hty (S:=Nat×List (List UInt8)) (fun s=>[(3,.ls 34 0 s.2.length 1),(0,nI s.1)]) (fun s=>[(34,.row true 1 (cT s.2))])
   (fun s=>s.1≤N∧s.1+s.2.length≤N∧headT s.1++s.2.reverse.flatten=dd N∧bl s.1+s.2.length≤bl N) (fun s=>s.1) (N,[]) ⟨Nat.le_refl _,Nat.le_refl _,by simp [headT,h],Nat.le_refl _⟩
   ⟨rfl,rfl,trivial⟩ ⟨rfl,trivial⟩ ?_
  rintro s ⟨h1,h2,h3,h4⟩;conv=>whnf
  rw [cW_len];refine Br.mk (fun h5=>?_) (fun h5=>?_)
  ·have h6:s.1≠0:=by
    intro e;rw [e] at h5;simp [dg_zero] at h5
   have hd:=fn_divSmall s.1 1000000000 (by omega) (by decide) (by decide);have hb:=bl_part h6;have hs:=head_step h6;rw [headT,if_neg h6] at h3;obtain ⟨q,eq⟩:∃q,s.1 / 1000000000=q:=⟨_,rfl⟩;obtain ⟨r,er⟩:∃r,s.1 % 1000000000=r:=⟨_,rfl⟩;have hr:r < 1000000000:=by omega
   have hq:q < s.1:=by omega
   rw [eq] at hd hb hs;rw [er] at hd hs;conv=>whnf
   refine VCall.of_data hd (ndT (fun k=>rfl)) ?_;conv=>whnf
   refine Wr.n64 (n:=r) rfl (by omega) ?_;conv=>whnf
   refine VCall.of_data (fn_FormatUint r (by omega)) (nd _) ?_;conv=>whnf
   rw [cW_len];by_cases hq0:q=0
   ·rw [decide_eq_false (by rw [hq0];simp [dg_zero])];rw [if_pos hq0] at hs;conv=>whnf
    refine Sub.full rfl ?_;conv=>whnf
    refine Sub.full (by rw [cT_len]) ?_;conv=>whnf
    refine ⟨by show (s.2.length+1)*16≤_;omega,?_⟩;conv=>whnf
    exact ⟨(q,s.2++[dd r]),⟨by omega,by show q+(s.2++[dd r]).length≤N;rw [List.length_append,List.length_singleton];omega,by rw [←h3,←hs];simp,by show bl q+(s.2++[dd r]).length≤bl N;rw [List.length_append,List.length_singleton];omega⟩,hq,⟨by show AV.ls 34 0 (s.2.length+1) 1=AV.ls 34 0 (s.2++[dd r]).length 1;rw [List.length_append,List.length_singleton],rfl,trivial⟩,by show Ob.row true 1 (cT s.2++cT [dd r])=_;rw [cT_append],trivial⟩
   ·rw [decide_eq_true (by have:=dg_len_zero b32 (n:=q);omega)];rw [if_neg hq0] at hs;have hdl:=dd_len_le 8 r (by simpa using hr);obtain ⟨z,ez⟩:∃z:Nat,9 - (dd r).length=z:=⟨_,rfl⟩;conv=>whnf
    refine Wr.i64 (y:=(z:Int)) (by show (9:Int) - ((⟨(dd r).toArray⟩:ByteArray).size:Int)=z;rw [bsize];omega) (by omega) (by omega) ?_;conv=>whnf
    refine VCall.of_data (fn_Repeat [48] z (by omega) (by simp)) (nd _) ?_;rw [repeat_one];conv=>whnf
    have ep:List.replicate z 48++dd r=padd 9 r:=by rw [padd,ez]
    refine ⟨by rw [bsize,bsize,List.length_replicate];show z+(dd r).length < 2 ^ 62;omega,?_⟩;rw [show (⟨(List.replicate z 48).toArray⟩:ByteArray)++⟨(Lib.decDigits r).toArray⟩=⟨(padd 9 r).toArray⟩ by rw [←ep];apply ByteArray.ext;simp];conv=>whnf
    refine Sub.full rfl ?_;conv=>whnf
    refine Sub.full (by rw [cT_len]) ?_;conv=>whnf
    refine ⟨by show (s.2.length+1)*16≤_;omega,?_⟩;conv=>whnf
    exact ⟨(q,s.2++[padd 9 r]),⟨by omega,by show q+(s.2++[padd 9 r]).length≤N;rw [List.length_append,List.length_singleton];omega,by rw [←h3,←hs];simp,by show bl q+(s.2++[padd 9 r]).length≤bl N;rw [List.length_append,List.length_singleton];omega⟩,hq,⟨by show AV.ls 34 0 (s.2.length+1) 1=AV.ls 34 0 (s.2++[padd 9 r]).length 1;rw [List.length_append,List.length_singleton],rfl,trivial⟩,by show Ob.row true 1 (cT s.2++cT [padd 9 r])=_;rw [cT_append],trivial⟩
  ·have h6:s.1=0:=by
    have h6:(dg B32 s.1).length=0:=by simpa using h5
    exact (dg_len_zero b32).1 h6
   have h3:s.2.reverse.flatten=dd N:=by rw [←h3,h6];rfl
   have hl:s.2.length≤100000000000:=by omega
   have hjl:(Lib.join s.2.reverse []).length≤1000000000000:=by rw [join_flat,h3];have:=dd_bl N;omega
   conv=>whnf
   refine VCall.par1u 34 (fn_Reverse s.2 (by omega)) ⟨⟨rfl,rfl,rfl,rfl⟩,trivial⟩ rfl ?_;conv=>whnf
   refine VCall.lend (fn_Join s.2.reverse [] (by rw [List.length_reverse];omega) hjl) ⟨lend_allT (by rw [List.length_reverse]) rfl,rfl,trivial⟩ rfl ?_;rw [join_flat,h3];conv=>whnf
   exact ⟨rfl,trivial,rfl⟩
end Go.V
namespace Go.V
open Go.Proofs Go.RowKit
set_option maxRecDepth 10000
set_option maxHeartbeats 1000000
def ratT (q:Rat):List UInt8:=((if ng q then [45] else [])++dd (tp q))++(if q.den=1 then [] else 47 :: dd q.den)
def fitsQ (q:Rat):Bool:=decide ((dd (tp q)).length≤200) && decide ((dd q.den).length≤200)
theorem baeq (b c:List UInt8):((⟨b.toArray⟩:ByteArray).toList == (⟨c.toArray⟩:ByteArray).toList)=decide (b=c):=by
 rw [Bool.eq_iff_iff];simp
theorem le200 (a:List UInt8):decide (((⟨a.toArray⟩:ByteArray).size:Int)≤200)=decide (a.length≤200):=by
 rw [bsize];congr 1;simp;omega
theorem cat2 (a b:List UInt8):(⟨a.toArray⟩:ByteArray)++⟨b.toArray⟩=⟨(a++b).toArray⟩:=by apply ByteArray.ext;simp
theorem cat1 (c:UInt8) (b:List UInt8):(⟨#[c]⟩:ByteArray)++⟨b.toArray⟩=⟨(c :: b).toArray⟩:=cat2 [c] b
theorem fn_ratText (q:Rat) (hs:sz q≤100000000000):Fn Tryz.prog 35 [rI q] [] (.tup [Str (ratT q),B (fitsQ q)]) []:=by
 have c1:=fn_text (tp q) (Nat.le_trans (bl_tp q) hs)
 have c2:=fn_text q.den (Nat.le_trans (bl_den q) hs)
 have l1:(dd (tp q)).length≤100000000001:=Nat.le_trans (dd_bl _) (by have:=bl_tp q;omega)
 have l2:(dd q.den).length≤100000000001:=Nat.le_trans (dd_bl _) (by have:=bl_den q;omega)
 have ho:=dd_one (n:=q.den)
 unfold ratT fitsQ
 generalize dd (tp q)=a at c1 l1 ⊢
 generalize hb:dd q.den=b at c2 l2 ho ⊢
 refine Fn.intro (ks:=[0,1,2,3,4,5,6,15,19]) hty rfl rfl rfl rfl rfl ?_
 conv=>whnf
 refine VDraw.go hmo hty 8 [] rfl ?_
 conv=>whnf
 refine QCall.of_data c1 (nd _) ?_
 conv=>whnf
 refine QCall.of_data c2 (nd _) ?_
 conv=>whnf
 refine Br.mk (fun h=>?_) (fun h=>?_)
 ·rw [h]
  conv=>whnf
  refine ⟨by rw [bsize];show 1+a.length < 2 ^ 62;omega,?_⟩
  rw [cat1]
  conv=>whnf
  rw [show ((⟨b.toArray⟩:ByteArray).toList == (⟨#[49]⟩:ByteArray).toList)=decide (b=[49]) from baeq b [49]]
  by_cases h1:q.den=1
  ·rw [decide_eq_true (ho.2 h1)]
   rw [if_pos h1]
   conv=>whnf
   rw [le200 a]
   cases hA:decide (a.length≤200)
   ·conv=>whnf
    exact ⟨by simp,rfl,trivial,rfl⟩
   ·conv=>whnf
    rw [le200 b]
    cases hB:decide (b.length≤200)
    ·conv=>whnf
     exact ⟨by simp,rfl,trivial,rfl⟩
    ·conv=>whnf
     exact ⟨by simp,rfl,trivial,rfl⟩
  ·rw [decide_eq_false (fun e=>h1 (ho.1 e))]
   rw [if_neg h1]
   conv=>whnf
   refine ⟨by rw [bsize];show 1+b.length < 2 ^ 62;omega,?_⟩
   rw [cat1]
   conv=>whnf
   refine ⟨by rw [bsize,bsize];show (45 :: a).length+(b.length+1) < 2 ^ 62;simp;omega,?_⟩
   rw [cat2]
   conv=>whnf
   rw [le200 a]
   cases hA:decide (a.length≤200)
   ·conv=>whnf
    exact ⟨by simp,rfl,trivial,rfl⟩
   ·conv=>whnf
    rw [le200 b]
    cases hB:decide (b.length≤200)
    ·conv=>whnf
     exact ⟨by simp,rfl,trivial,rfl⟩
    ·conv=>whnf
     exact ⟨by simp,rfl,trivial,rfl⟩
 ·rw [h]
  conv=>whnf
  rw [show ((⟨b.toArray⟩:ByteArray).toList == (⟨#[49]⟩:ByteArray).toList)=decide (b=[49]) from baeq b [49]]
  by_cases h1:q.den=1
  ·rw [decide_eq_true (ho.2 h1)]
   rw [if_pos h1]
   conv=>whnf
   rw [le200 a]
   cases hA:decide (a.length≤200)
   ·conv=>whnf
    exact ⟨by simp,rfl,trivial,rfl⟩
   ·conv=>whnf
    rw [le200 b]
    cases hB:decide (b.length≤200)
    ·conv=>whnf
     exact ⟨by simp,rfl,trivial,rfl⟩
    ·conv=>whnf
     exact ⟨by simp,rfl,trivial,rfl⟩
  ·rw [decide_eq_false (fun e=>h1 (ho.1 e))]
   rw [if_neg h1]
   conv=>whnf
   refine ⟨by rw [bsize];show 1+b.length < 2 ^ 62;omega,?_⟩
   rw [cat1]
   conv=>whnf
   refine ⟨by rw [bsize,bsize];show (a).length+(b.length+1) < 2 ^ 62;simp;omega,?_⟩
   rw [cat2]
   conv=>whnf
   rw [le200 a]
   cases hA:decide (a.length≤200)
   ·conv=>whnf
    exact ⟨by simp,rfl,trivial,rfl⟩
   ·conv=>whnf
    rw [le200 b]
    cases hB:decide (b.length≤200)
    ·conv=>whnf
     exact ⟨by simp,rfl,trivial,rfl⟩
    ·conv=>whnf
     exact ⟨by simp,rfl,trivial,rfl⟩
end Go.V
namespace Go.V
open Go.Proofs Go.RowKit
set_option maxRecDepth 10000
set_option maxHeartbeats 1000000
def toldTs (qs:List Rat):Option (List (List UInt8)):=if qs.all fitsQ then some (qs.map ratT) else none
def ansT:Option (List (List UInt8))→AV×LL
 | some ts=>(.tup [.ls 0 0 ts.length 1,B true],[(0,.row true 1 (cT ts))])
 | none=>(.tup [.d (.sl []),B false],[])
theorem fn_toldList (qs:List Rat) (hl:qs.length≤1000000) (hs:∀q,q∈qs→sz q≤100000000000):Fn Tryz.prog 19 [lQ qs] [] (ansT (toldTs qs)).1 (ansT (toldTs qs)).2:=by
 refine Fn.intro (ks:=[0,2,3,4,6,7,8,10,11,12,13,22]) hty rfl rfl rfl rfl rfl ?_;conv=>whnf
 refine VLoop.ren 9 26 rfl ?_;refine VLoop.inv hty (S:=Nat) (fun k=>[(12,I k),(11,I qs.length),(10,lQ qs),(4,.ls 26 0 k 1)]) (fun k=>[(26,.row true 1 (cT ((qs.take k).map ratT)))]) (fun k=>k≤qs.length∧(qs.take k).all fitsQ=true) (fun k=>qs.length - k) 0 ⟨Nat.zero_le _,rfl⟩
  ⟨rfl,by show AV.d (.s (.int .i64 ((cQ qs).length:Int)))=_;rw [cQ_len],rfl,rfl,trivial⟩ ⟨rfl,trivial⟩ ?_
 rintro k ⟨hk,hp⟩;conv=>whnf
 refine Br.mk (fun h=>?_) (fun h=>?_)
 ·have h:k < qs.length:=by simp only [decide_eq_true_eq] at h;omega
  obtain ⟨q,eq⟩:∃q,qs.getD k 0=q:=⟨_,rfl⟩;have hqm:q∈qs:=by rw [←eq,gD,List.getElem?_eq_getElem h];exact List.getElem_mem h
  have et:qs.take (k+1)=qs.take k++[q]:=by rw [List.take_succ_eq_append_getElem h];subst eq;rw [gD,List.getElem?_eq_getElem h];rfl
  have c:=fn_ratText q (hs q hqm);conv=>whnf
  refine ⟨⟨⟨by omega,by rw [cQ_len];omega⟩,cQ_sz _⟩,?_⟩;conv=>whnf
  refine ⟨_,cQ_as (x:=q) h eq,?_⟩;conv=>whnf
  refine VCall.of_data c (ndT (fun k=>rfl)) ?_;conv=>whnf
  cases hf:fitsQ q
  ·have hall:¬(qs.all fitsQ=true):=fun ha=>by rw [List.all_eq_true.1 ha q hqm] at hf;cases hf
   rw [toldTs,if_neg hall];conv=>whnf
   first | exact ⟨rfl,trivial,rfl⟩ | exact ⟨rfl,rfl,trivial,rfl⟩
  ·conv=>whnf
   refine Sub.full rfl ?_;conv=>whnf
   refine Sub.full (by rw [cT_len,List.length_map,List.length_take];omega) ?_;conv=>whnf
   refine ⟨by show (k+1)*16≤_;omega,?_⟩;conv=>whnf
   refine Wr.i64 (y:=((k+1:Nat):Int)) rfl (by omega) (by omega) ?_;conv=>whnf
   exact ⟨k+1,⟨by omega,by rw [et,List.all_append,hp];simp [hf]⟩,by omega,⟨rfl,rfl,rfl,rfl,trivial⟩,by show Ob.row true 1 (cT ((qs.take k).map ratT)++cT [ratT q])=_;rw [cT_append,et,List.map_append];rfl,trivial⟩
 ·have h:k=qs.length:=by simp only [decide_eq_false_iff_not] at h;omega
  rw [h,List.take_length] at hp;rw [toldTs,if_pos hp,h,List.take_length];conv=>whnf
  exact ⟨⟨rfl,rfl,rfl,rfl,by rw [List.length_map],rfl⟩,[],rfl,rfl,trivial,rfl⟩
end Go.V
namespace Go.V
open Go.Proofs Go.RowKit
set_option maxRecDepth 10000
set_option maxHeartbeats 1000000
def tab (n:Nat) (f:Nat→Rat):List Rat:=(List.range n).map f
end Go.V
namespace Go.V
open Go.Proofs Go.RowKit
set_option maxRecDepth 10000
set_option maxHeartbeats 1000000
theorem fn_sNatText (N:Nat) (hN:bl N≤100000000000):Fn Tryz.prog 67 [nS N] [] (Str (dd N)) []:=by
 refine Fn.intro (ks:=[0,2,3,4,5,8,20]) hty rfl rfl rfl rfl rfl ?_;conv=>whnf
 rw [cW_len];have hcn:=cn_dg b9 N;have hvl:=vl_dg b9 N;have hln:=dg_len b9 N;have hl0:=dg_len_zero b9 (n:=N);generalize dg B9 N=l at hcn hvl hln hl0 ⊢;refine Br.mk (fun h=>?_) (fun h=>?_)
 ·have h:l.length=0:=by simpa using h
  conv=>whnf
  refine ⟨?_,trivial,rfl⟩;rw [hl0.1 h,dd_small (by decide)];rfl
 ·have h:l.length≠0:=by simpa using h
  obtain ⟨m,em⟩:∃m,l.length=m+1:=⟨l.length - 1,by omega⟩;have hlast:l.getLast? = some (l.getD m 0):=by
   rw [List.getLast?_eq_getElem?,em,Nat.add_sub_cancel,gD,List.getElem?_eq_getElem (by omega)];rfl
  have htop:l.getD m 0≠0:=fun e=>hcn.2 (by rw [hlast,e]);have hlt:∀i,l.getD i 0 < 1000000000:=fun i=>by
   rw [gD];by_cases hi:i < l.length
   ·rw [List.getElem?_eq_getElem hi];exact hcn.1 _ (List.getElem_mem hi)
   ·rw [List.getElem?_eq_none (by omega)];decide
  obtain ⟨t,et⟩:∃t,l.getD m 0=t:=⟨_,rfl⟩;have ht:=hlt m;rw [et] at htop ht;conv=>whnf
  rw [cW_len];refine Wr.i64 (y:=(m:Int)) (by omega) (by omega) (by omega) ?_;conv=>whnf
  refine ⟨⟨⟨by omega,by rw [cW_len];omega⟩,cW_sz _ _⟩,?_⟩;conv=>whnf
  refine ⟨_,cW_as (x:=t) (by omega) et,?_⟩;conv=>whnf
  refine VCall.of_data (fn_l01Dec t (by omega) (by omega)) (nd _) ?_;rw [itoa_nat];conv=>whnf
  rw [cW_len];refine Wr.i64 (y:=(m:Int) - 1) (by omega) (by omega) (by omega) ?_;conv=>whnf
  refine VLoop.inv hty (S:=Nat) (fun k=>[(4,I ((k:Int) - 1)),(3,Str (dd (vl B9 (l.drop k)))),(0,.d (.sl (cW .i64 l)))]) (fun _=>[]) (fun k=>k≤m) (fun k=>k) m (Nat.le_refl _)
   ⟨rfl,by
    have e:l.drop m=[t]:=by
     rw [List.drop_eq_getElem_cons (by omega),List.drop_eq_nil_of_le (by omega),←et,gD,List.getElem?_eq_getElem (by omega)];rfl
    show Str (dd t)=_;rw [e];simp [vl],rfl,trivial⟩ trivial ?_
  intro k hk;conv=>whnf
  refine Br.mk (fun h2=>?_) (fun h2=>?_)
  ·have h2:(0:Int)≤k - 1:=by simpa using h2
   obtain ⟨j,rfl⟩:∃j,k=j+1:=⟨k - 1,by omega⟩;obtain ⟨d,ed⟩:∃d,l.getD j 0=d:=⟨_,rfl⟩;have hd:=hlt j;rw [ed] at hd;have hdrop:vl B9 (l.drop j)=vl B9 (l.drop (j+1))*1000000000+d:=by
    rw [vl_drop (by omega),←ed,gD,List.getElem?_eq_getElem (by omega)];show l[j]+1000000000*_=_*1000000000+l[j];omega
   have hpos:0 < vl B9 (l.drop (j+1)):=vl_pos b9 ⟨fun x hx=>hcn.1 x (List.mem_of_mem_drop hx),by
    rw [List.getLast?_drop,if_neg (by omega)];exact hcn.2⟩ (fun e=>by have:=congrArg List.length e;rw [List.length_drop] at this;simp at this;omega)
   have hdd:=dd_split 8 (vl B9 (l.drop (j+1))) d hpos (by simpa using hd);have hle:bl (vl B9 (l.drop (j+1)))≤bl N:=bl_mono (by
    rw [←hvl,vl_split (B:=B9) l (j+1) (by omega)];have:0 < B9 ^ (j+1):=Nat.pow_pos (by decide);have:=Nat.le_mul_of_pos_left (vl B9 (l.drop (j+1))) this;omega)
   have hlen:=dd_bl (vl B9 (l.drop (j+1)));have hpl:=padd_len (k:=8) (r:=d) (by simpa using hd);rw [show vl B9 (l.drop (j+1))*10 ^ (8+1)+d=vl B9 (l.drop j) by rw [hdrop]] at hdd;have hbase:=dd_base hd;have cD:=fn_l01Dec (d+1000000000:Nat) (by omega) (by omega);rw [itoa_nat,hbase] at cD;generalize vl B9 (l.drop (j+1))=V at hdd hlen hle ⊢;obtain ⟨w,ew⟩:∃w:List UInt8,dd V=w:=⟨_,rfl⟩;rw [ew] at hdd hlen ⊢;conv=>whnf
   rw [show ((j+1:Nat):Int) - 1=(j:Int) by omega];refine ⟨⟨⟨by omega,by rw [cW_len];omega⟩,cW_sz _ _⟩,?_⟩;conv=>whnf
   refine ⟨_,cW_as (x:=d) (by omega) ed,?_⟩;conv=>whnf
   refine Wr.i64 (y:=((d+1000000000:Nat):Int)) rfl (by omega) (by omega) ?_;conv=>whnf
   refine VCall.of_data cD (nd _) ?_;conv=>whnf
   have hsz:(⟨(49 :: padd 9 d).toArray⟩:ByteArray).size=10:=by rw [bsize,List.length_cons,hpl]
   refine ⟨by rw [hsz];decide,?_⟩;rw [show (⟨(49 :: padd 9 d).toArray⟩:ByteArray).extract (1:Int).toNat ((((⟨(49 :: padd 9 d).toArray⟩:ByteArray).size:Nat):Int)).toNat=⟨(padd 9 d).toArray⟩ by
    rw [bx,hsz];show (⟨(((49 :: padd 9 d).take 10).drop 1).toArray⟩:ByteArray)=_;rw [List.take_of_length_le (by rw [List.length_cons,hpl];decide)];rfl]
   conv=>whnf
   refine ⟨by rw [bsize,bsize,hpl];omega,?_⟩;rw [cat2,←hdd];conv=>whnf
   refine Wr.i64 (y:=(j:Int) - 1) rfl (by omega) (by omega) ?_;conv=>whnf
   exact ⟨j,by omega,by omega,⟨rfl,rfl,rfl,trivial⟩,trivial⟩
  ·have h2:k=0:=by simp at h2;omega
   conv=>whnf
   refine ⟨?_,trivial,rfl⟩;rw [h2,List.drop_zero,hvl]
theorem fn_sShow (q:Rat) (hs:sz q≤100000000000):Fn Tryz.prog 46 [rS q] [] (Str (ratT q)) []:=by
 have c1:=fn_sNatText (tp q) (Nat.le_trans (bl_tp q) hs)
 have c2:=fn_sNatText q.den (Nat.le_trans (bl_den q) hs)
 have l1:(dd (tp q)).length≤100000000001:=Nat.le_trans (dd_bl _) (by have:=bl_tp q;omega)
 have l2:(dd q.den).length≤100000000001:=Nat.le_trans (dd_bl _) (by have:=bl_den q;omega)
 have c3:=fn_sCmp q.den 1 (Nat.le_trans (bl_den q) (by omega)) (by decide)
 rw [nS,nS,dg_small b9 (n:=1) (by decide) (by decide)] at c3
 unfold ratT
 generalize dd (tp q)=a at c1 l1 ⊢
 generalize dd q.den=b at c2 l2 ⊢
 refine Fn.intro (ks:=[0,1,2,3,8,15]) hty rfl rfl rfl rfl rfl ?_
 conv=>whnf
 refine VCall.of_data c1 (nd _) ?_
 conv=>whnf
 refine Br.mk (fun h=>?_) (fun h=>?_)
 ·rw [h]
  conv=>whnf
  refine ⟨by rw [bsize];show 1+a.length < 2 ^ 62;omega,?_⟩
  rw [cat1]
  conv=>whnf
  refine VCall.lend c3 ⟨rfl,⟨rfl,by simp,rfl⟩,trivial⟩ rfl ?_
  conv=>whnf
  by_cases h1:q.den=1
  ·rw [if_pos h1,decide_eq_true (by rw [h1];decide)]
   conv=>whnf
   exact ⟨by simp,trivial,rfl⟩
  ·rw [if_neg h1,decide_eq_false (fun e=>by unfold cmpZ at e;split at e;cases e;split at e;cases e;omega)]
   conv=>whnf
   refine VCall.of_data c2 (nd _) ?_
   conv=>whnf
   refine ⟨by rw [bsize];show 1+b.length < 2 ^ 62;omega,?_⟩
   rw [cat1]
   conv=>whnf
   refine ⟨by rw [bsize,bsize];show (45 :: a).length+(b.length+1) < 2 ^ 62;simp;omega,?_⟩
   rw [cat2]
   conv=>whnf
   exact ⟨by simp,trivial,rfl⟩
 ·rw [h]
  conv=>whnf
  refine VCall.lend c3 ⟨rfl,⟨rfl,by simp,rfl⟩,trivial⟩ rfl ?_
  conv=>whnf
  by_cases h1:q.den=1
  ·rw [if_pos h1,decide_eq_true (by rw [h1];decide)]
   conv=>whnf
   exact ⟨by simp,trivial,rfl⟩
  ·rw [if_neg h1,decide_eq_false (fun e=>by unfold cmpZ at e;split at e;cases e;split at e;cases e;omega)]
   conv=>whnf
   refine VCall.of_data c2 (nd _) ?_
   conv=>whnf
   refine ⟨by rw [bsize];show 1+b.length < 2 ^ 62;omega,?_⟩
   rw [cat1]
   conv=>whnf
   refine ⟨by rw [bsize,bsize];show (a).length+(b.length+1) < 2 ^ 62;simp;omega,?_⟩
   rw [cat2]
   conv=>whnf
   exact ⟨by simp,trivial,rfl⟩
end Go.V
namespace Go.V
open Go.Proofs Go.RowKit
set_option maxRecDepth 10000
set_option maxHeartbeats 1000000
end Go.V
namespace Go.V
open Go.Proofs Go.RowKit
set_option maxRecDepth 10000
set_option maxHeartbeats 1000000
abbrev sp:Int:=-7000000000000000101
end Go.V
namespace Go.V
open Go.Proofs Go.RowKit
set_option maxRecDepth 10000
set_option maxHeartbeats 1000000
end Go.V
namespace Go.V
open Go.Proofs Go.RowKit
set_option maxRecDepth 10000
set_option maxHeartbeats 1000000
end Go.V
namespace Go.V
open Go.Proofs Go.RowKit
set_option maxRecDepth 10000
set_option maxHeartbeats 1000000
end Go.V
namespace Go.V
open Go.Proofs Go.RowKit
set_option maxRecDepth 10000
set_option maxHeartbeats 1000000
end Go.V
namespace Go.V
open Go.Proofs Go.RowKit
set_option maxRecDepth 10000
set_option maxHeartbeats 1000000
end Go.V
namespace Go.V
open Go.Proofs Go.RowKit
set_option maxRecDepth 10000
set_option maxHeartbeats 1000000
end Go.V
namespace Go.V
open Go.Proofs Go.RowKit
set_option maxRecDepth 10000
set_option maxHeartbeats 1000000
end Go.V
namespace Go.V
open Go.Proofs Go.RowKit
set_option maxRecDepth 10000
set_option maxHeartbeats 1000000
end Go.V
namespace Go.V
open Go.Proofs Go.RowKit
set_option maxRecDepth 10000
set_option maxHeartbeats 1000000
end Go.V
namespace Go.V
def Iz (E:Nat) (q:Rat):Prop:=∃z:Int,q*((E:Int):Rat)=(z:Rat)
theorem Iz.zero (E:Nat):Iz E 0:=⟨0,by simp [Rat.zero_mul]⟩
theorem Iz.one (E:Nat):Iz E 1:=⟨(E:Int),by rw [Rat.one_mul]⟩
theorem Iz.add {E:Nat} {a b:Rat} (h1:Iz E a) (h2:Iz E b):Iz E (a+b):=by
 obtain ⟨x,hx⟩:=h1;obtain ⟨y,hy⟩:=h2
 exact ⟨x+y,by rw [Rat.add_mul,hx,hy,Rat.intCast_add]⟩
theorem Iz.neg {E:Nat} {a:Rat} (h:Iz E a):Iz E (-a):=by
 obtain ⟨x,hx⟩:=h
 exact ⟨-x,by rw [Rat.neg_mul,hx,Rat.intCast_neg]⟩
theorem Iz.mul {E F:Nat} {a b:Rat} (h1:Iz E a) (h2:Iz F b):Iz (E*F) (a*b):=by
 obtain ⟨x,hx⟩:=h1;obtain ⟨y,hy⟩:=h2
 refine ⟨x*y,?_⟩
 rw [Rat.intCast_mul,←hx,←hy,Int.natCast_mul,Rat.intCast_mul]
 grind
theorem Iz.more {E:Nat} {a:Rat} (h:Iz E a) (F:Nat):Iz (E*F) a:=by
 have:=h.mul (Iz.one F)
 rwa [Rat.mul_one] at this
theorem Iz.more' {E:Nat} {a:Rat} (h:Iz E a) (F:Nat):Iz (F*E) a:=by rw [Nat.mul_comm];exact h.more F
theorem natc (n:Nat):((n:Nat):Rat)=((n:Int):Rat):=(Rat.intCast_natCast n).symm
theorem Iz.den (a:Rat):Iz a.den a:=⟨a.num,by
 have h:mkRat a.num a.den=a:=Rat.mkRat_self a;have hp:((a.den:Int):Rat)≠0:=by have:=a.den_nz;exact_mod_cast this
 rw [Rat.mkRat_eq_div,natc] at h;have h3:=Rat.div_mul_cancel (a:=((a.num:Int):Rat)) hp;rw [h] at h3;exact h3⟩
theorem Iz.of_dvd {E F:Nat} {a:Rat} (h:Iz E a) (d:E∣F):Iz F a:=by obtain ⟨k,rfl⟩:=d;exact h.more k
theorem Iz.sz {E:Nat} {a:Rat} (h:Iz E a) (hE:E≠0) (h0:0≤a) (M:Nat) (h1:a≤((M:Int):Rat)):sz a≤max (bl (M*E)) (bl E):=by
 obtain ⟨z,hz⟩:=h;have hp:(0:Rat) < ((E:Int):Rat):=by
  have:(0:Int) < (E:Int):=by omega
  exact_mod_cast this
 have hz0:0≤z:=by
  have:(0:Rat)≤(z:Rat):=by rw [←hz];exact Rat.mul_nonneg h0 (Rat.le_of_lt hp)
  exact_mod_cast this
 have hz1:z≤((M*E:Nat):Int):=by
  have:(z:Rat)≤(((M*E:Nat):Int):Rat):=by
   rw [←hz,Int.natCast_mul,Rat.intCast_mul];exact Rat.mul_le_mul_of_nonneg_right h1 (Rat.le_of_lt hp)
  exact_mod_cast this
 obtain ⟨t,rfl⟩:∃t:Nat,z=(t:Int):=⟨z.toNat,by omega⟩;have ea:a=mkRat (sgn false t) E:=by
  have h2:=natc E;rw [sgn_f,Rat.mkRat_eq_div,←hz,h2,Rat.div_def,Rat.mul_assoc,Rat.mul_inv_cancel _ (Rat.ne_of_gt hp),Rat.mul_one]
 rw [ea];refine Nat.le_trans (sz_mkRat hE) ?_;have:=bl_mono (a:=t) (b:=M*E) (by omega);omega
theorem bl_pow (E:Nat) (h:1≤E):∀k,bl (E ^ k)≤k*bl E+1
 | 0=>by rw [Nat.pow_zero,bl_one];omega
 | k+1=>by
  rw [Nat.pow_succ]
  have h1:=bl_mul (E ^ k) E
  have h2:=bl_pow E h k
  have:(k+1)*bl E=k*bl E+bl E:=Nat.succ_mul _ _
  omega
def dens:List Rat→Nat
 | []=>1
 | q :: r=>q.den*dens r
theorem dens_pos:∀xs,dens xs≠0
 | []=>by decide
 | q :: r=>Nat.mul_ne_zero q.den_nz (dens_pos r)
theorem dens_dvd {q:Rat}:∀{xs:List Rat},q∈xs→q.den∣dens xs
 | x :: r,h=>by
  rcases List.mem_cons.1 h with rfl | h
  ·exact ⟨dens r,rfl⟩
  ·exact Nat.dvd_trans (dens_dvd h) ⟨x.den,Nat.mul_comm _ _⟩
theorem dens_bl {m:Nat}:∀{xs:List Rat},(∀q,q∈xs→Go.V.sz q≤m)→bl (dens xs)≤xs.length*m+1
 | [],_=>by show bl 1≤_;rw [bl_one];omega
 | x :: r,h=>by
  show bl (x.den*dens r)≤(r.length+1)*m+1
  have h1:=bl_mul x.den (dens r)
  have h2:=dens_bl (xs:=r) fun q hq=>h q (List.mem_cons_of_mem _ hq)
  have h3:=h x (by simp)
  have h4:=bl_den x
  have:(r.length+1)*m=r.length*m+m:=Nat.succ_mul _ _
  omega
end Go.V
namespace Go.V
def sN:Nat→(Nat→Rat)→Rat
 | 0,_=>0
 | n+1,f=>sN n f+f n
theorem sN_congr {n:Nat} {f g:Nat→Rat} (h:∀i,i < n→f i=g i):sN n f=sN n g:=by
 induction n with
 | zero=>rfl
 | succ n ih=>show sN n f+f n=sN n g+g n;rw [ih fun i hi=>h i (by omega),h n (by omega)]
theorem sN_zero (n:Nat):(sN n fun _=>0)=0:=by
 induction n with
 | zero=>rfl
 | succ n ih=>show sN n _+0=0;rw [ih,Rat.add_zero]
theorem sN_add (n:Nat) (f g:Nat→Rat):(sN n fun i=>f i+g i)=sN n f+sN n g:=by
 induction n with
 | zero=>show (0:Rat)=0+0;rw [Rat.add_zero]
 | succ n ih=>show (sN n fun i=>f i+g i)+(f n+g n)=(sN n f+f n)+(sN n g+g n);rw [ih];grind
theorem sN_mul (n:Nat) (a:Rat) (f:Nat→Rat):(sN n fun i=>a*f i)=a*sN n f:=by
 induction n with
 | zero=>show (0:Rat)=a*0;rw [Rat.mul_zero]
 | succ n ih=>show (sN n fun i=>a*f i)+a*f n=a*(sN n f+f n);rw [ih,Rat.mul_add]
theorem sN_comm (n m:Nat) (f:Nat→Nat→Rat):(sN n fun i=>sN m (f i))=sN m fun j=>sN n fun i=>f i j:=by
 induction n with
 | zero=>exact (sN_zero m).symm
 | succ n ih =>
  show (sN n fun i=>sN m (f i))+sN m (f n)=sN m fun j=>(sN n fun i=>f i j)+f n j
  rw [ih,←sN_add]
theorem sN_nonneg {n:Nat} {f:Nat→Rat} (h:∀i,i < n→0≤f i):0≤sN n f:=by
 induction n with
 | zero=>exact Rat.le_refl
 | succ n ih =>
  have h1:=ih fun i hi=>h i (by omega)
  have h2:=h n (by omega)
  show 0≤sN n f+f n
  grind
theorem sN_le {n:Nat} {f g:Nat→Rat} (h:∀i,i < n→f i≤g i):sN n f≤sN n g:=by
 induction n with
 | zero=>exact Rat.le_refl
 | succ n ih =>
  have h1:=ih fun i hi=>h i (by omega)
  have h2:=h n (by omega)
  show sN n f+f n≤sN n g+g n
  grind
theorem sN_mono {n m:Nat} {f:Nat→Rat} (hm:m≤n) (h:∀i,i < n→0≤f i):sN m f≤sN n f:=by
 induction n with
 | zero=>rw [show m=0 by omega];exact Rat.le_refl
 | succ n ih =>
  by_cases e:m=n+1
  ·subst e;exact Rat.le_refl
  ·have h1:=ih (by omega) fun i hi=>h i (by omega)
   have h2:=h n (by omega)
   show sN m f≤sN n f+f n
   grind
theorem sN_one_le {n k:Nat} {f:Nat→Rat} (hk:k < n) (h:∀i,i < n→0≤f i):f k≤sN n f:=by
 have h1:=sN_mono (m:=k+1) (by omega) h
 have h2:0≤sN k f:=sN_nonneg fun i hi=>h i (by omega)
 have h3:sN (k+1) f=sN k f+f k:=rfl
 grind
theorem sN_delta (n k:Nat) (f:Nat→Rat):(sN n fun i=>if i=k then f i else 0)=if k < n then f k else 0:=by
 induction n with
 | zero=>rfl
 | succ n ih =>
  show (sN n fun i=>if i=k then f i else 0)+(if n=k then f n else 0)=_
  rw [ih]
  by_cases h1:n=k
  ·subst h1;rw [if_neg (by omega),if_pos rfl,if_pos (by omega),Rat.zero_add]
  ·rw [if_neg h1,Rat.add_zero]
   by_cases h2:k < n
   ·rw [if_pos h2,if_pos (by omega)]
   ·rw [if_neg h2,if_neg (by omega)]
theorem sN_const_le {n:Nat} {f:Nat→Rat} {M:Nat} (h:∀i,i < n→f i≤((M:Int):Rat)):sN n f≤(((n*M:Nat):Int):Rat):=by
 induction n with
 | zero=>simp [sN]
 | succ n ih =>
  have h1:=ih fun i hi=>h i (by omega)
  have h2:=h n (by omega)
  show sN n f+f n≤_
  rw [Nat.succ_mul,Int.natCast_add,Rat.intCast_add]
  grind
theorem sN_iz {E n:Nat} {f:Nat→Rat} (h:∀i,i < n→Iz E (f i)):Iz E (sN n f):=by
 induction n with
 | zero=>exact Iz.zero E
 | succ n ih=>exact (ih fun i hi=>h i (by omega)).add (h n (by omega))
end Go.V
namespace Go.V
abbrev Mt:=List (List Rat)
def ent (p:Mt) (i j:Nat):Rat:=(p.getD i []).getD j 0
def stepAt (p:Mt) (w:List Rat) (j k:Nat):Rat:=sN k fun i=>w.getD i 0*ent p i j
def stepQ (p:Mt) (w:List Rat):List Rat:=(List.range w.length).map fun j=>stepAt p w j w.length
theorem stepQ_len (p:Mt) (w:List Rat):(stepQ p w).length=w.length:=by simp [stepQ]
def afterQ (p:Mt):Nat→List Rat→List Rat
 | 0,w=>w
 | k+1,w=>stepQ p (afterQ p k w)
theorem getD_mem {α:Type} {xs:List α} {i:Nat} {d:α} (h:i < xs.length):xs.getD i d∈xs:=by
 rw [gD,List.getElem?_eq_getElem h];exact List.getElem_mem h
structure MtOk (p:Mt):Prop where
 n1:1≤p.length
 n2:p.length≤12
 sq:∀r,r∈p→r.length=p.length
 pos:∀r,r∈p→∀q,q∈r→0≤q
 sz:∀r,r∈p→∀q,q∈r→Go.V.sz q≤800
 one:∀r,r∈p→sN r.length (r.getD · 0)=1
theorem MtOk.ent_mem {p:Mt} (h:MtOk p) {i j:Nat} (hi:i < p.length) (hj:j < p.length):p.getD i []∈p∧ent p i j∈p.getD i []:=by
 have h1:p.getD i []∈p:=getD_mem hi
 exact ⟨h1,getD_mem (by rw [h.sq _ h1];exact hj)⟩
theorem MtOk.ent_pos {p:Mt} (h:MtOk p) {i j:Nat} (hi:i < p.length) (hj:j < p.length):0≤ent p i j:=h.pos _ (h.ent_mem hi hj).1 _ (h.ent_mem hi hj).2
theorem MtOk.row_one {p:Mt} (h:MtOk p) {i:Nat} (hi:i < p.length):sN p.length (ent p i)=1:=by
 have h1:p.getD i []∈p:=getD_mem hi
 have h2:=h.one _ h1
 rw [h.sq _ h1] at h2
 exact h2
theorem MtOk.ent_le {p:Mt} (h:MtOk p) {i j:Nat} (hi:i < p.length) (hj:j < p.length):ent p i j≤1:=by
 rw [←h.row_one hi]
 exact sN_one_le (f:=ent p i) hj fun k hk=>h.ent_pos hi hk
def dM (p:Mt):Nat:=dens p.flatten
theorem dM_pos (p:Mt):dM p≠0:=dens_pos _
theorem flat_len {m:Nat}:∀{p:Mt},(∀r,r∈p→r.length=m)→p.flatten.length=p.length*m
 | [],_=>by simp
 | r :: p,h=>by
  have h1:=flat_len (p:=p) fun r hr=>h r (List.mem_cons_of_mem _ hr)
  rw [List.flatten_cons,List.length_append,h1,h r (by simp),List.length_cons,Nat.succ_mul,Nat.add_comm]
theorem MtOk.dM_bl {p:Mt} (h:MtOk p):bl (dM p)≤115201:=by
 have h1:=dens_bl (xs:=p.flatten) (m:=800) fun q hq=>by
  obtain ⟨r,hr,hq⟩:=List.mem_flatten.1 hq
  exact h.sz r hr q hq
 rw [flat_len h.sq] at h1
 have h2:p.length*p.length≤12*12:=Nat.mul_le_mul h.n2 h.n2
 have h3:p.length*p.length*800≤144*800:=Nat.mul_le_mul_right _ h2
 unfold dM
 omega
theorem MtOk.ent_iz {p:Mt} (h:MtOk p) {i j:Nat} (hi:i < p.length) (hj:j < p.length):Iz (dM p) (ent p i j) :=
 (Iz.den _).of_dvd (dens_dvd (List.mem_flatten.2 ⟨_,(h.ent_mem hi hj).1,(h.ent_mem hi hj).2⟩))
def Wk (n s:Nat) (w:List Rat):Prop:=w.length=n∧∃E M:Nat,E≠0∧bl M+bl E≤s∧∀q,q∈w→0≤q∧q≤((M:Int):Rat)∧Iz E q
theorem Iz.sz2 {E M:Nat} {a:Rat} (h:Iz E a) (hE:E≠0) (h0:0≤a) (h1:a≤((M:Int):Rat)):Go.V.sz a≤bl M+bl E:=by
 have h2:=h.sz hE h0 M h1
 have h3:=bl_mul M E
 omega
theorem Wk.sz {n s:Nat} {w:List Rat} (h:Wk n s w) {q:Rat} (hq:q∈w):Go.V.sz q≤s:=by
 obtain ⟨_,E,M,h1,h2,h3⟩:=h
 obtain ⟨h4,h5,h6⟩:=h3 q hq
 have:=h6.sz2 h1 h4 h5
 omega
theorem Wk.pos {n s:Nat} {w:List Rat} (h:Wk n s w) {q:Rat} (hq:q∈w):0≤q:=by
 obtain ⟨_,E,M,h1,h2,h3⟩:=h
 exact (h3 q hq).1
theorem step_part {p:Mt} (hp:MtOk p) {s:Nat} {w:List Rat} (h:Wk p.length s w) :
  ∃E M:Nat,E≠0∧bl M+bl E≤s+115210∧∀j k,j < p.length→k≤p.length→0≤stepAt p w j k∧stepAt p w j k≤((M:Int):Rat)∧Iz E (stepAt p w j k):=by
 obtain ⟨hl,E,M,h1,h2,h3⟩:=h
 have hb:=hp.dM_bl
 have h12:bl (p.length*M)≤4+bl M:=by
  have h4:=bl_mul p.length M
  have h5:bl p.length≤4:=bl_le (by have:=hp.n2;omega)
  omega
 have h6:=bl_mul E (dM p)
 refine ⟨E*dM p,p.length*M,Nat.mul_ne_zero h1 (dM_pos p),by omega,fun j k hj hk=>?_⟩
 have hm:∀i,i < p.length→0≤w.getD i 0∧w.getD i 0≤((M:Int):Rat)∧Iz E (w.getD i 0):=fun i hi=>h3 _ (getD_mem (by omega))
 have t0:∀i,i < p.length→0≤w.getD i 0*ent p i j:=fun i hi=>Rat.mul_nonneg (hm i hi).1 (hp.ent_pos hi hj)
 refine ⟨sN_nonneg fun i hi=>t0 i (by omega),?_,sN_iz fun i hi=>(hm i (by omega)).2.2.mul (hp.ent_iz (by omega) hj)⟩
 refine Rat.le_trans (sN_mono hk t0) (sN_const_le fun i hi=>?_)
 have h7:=Rat.mul_le_mul_of_nonneg_left (hp.ent_le hi hj) (hm i hi).1
 rw [Rat.mul_one] at h7
 exact Rat.le_trans h7 (hm i hi).2.1
theorem Wk.step {p:Mt} (hp:MtOk p) {s:Nat} {w:List Rat} (h:Wk p.length s w):Wk p.length (s+115210) (stepQ p w):=by
 obtain ⟨E,M,h1,h2,h3⟩:=step_part hp h
 refine ⟨by rw [stepQ_len,h.1],E,M,h1,h2,fun q hq=>?_⟩
 obtain ⟨j,hj,rfl⟩:=List.mem_map.1 hq
 rw [h.1] at hj ⊢
 exact h3 j p.length (by simpa using hj) (Nat.le_refl _)
theorem Wk.after {p:Mt} (hp:MtOk p) {s:Nat} {w:List Rat} (h:Wk p.length s w):∀k,Wk p.length (s+k*115210) (afterQ p k w)
 | 0=>by rw [Nat.zero_mul];exact h
 | k+1=>by
  have:=(Wk.after hp h k).step hp
  rwa [Nat.add_assoc,←Nat.succ_mul] at this
end Go.V
namespace Go.V
open Go.Proofs Go.RowKit
set_option maxRecDepth 10000
set_option maxHeartbeats 1000000
theorem fn_rminus (q:Rat) (hs:sz q≤1000000000000):Fn Tryz.prog 42 [rI q] [] (rI (-q)) []:=by
 have hz:=dg_len_zero b32 (n:=tp q);obtain ⟨h1,h2,h3⟩:=neg_parts q;have e:(decide (0 < ((cW .u32 (dg B32 (tp q))).length:Int)))=decide (tp q≠0):=decide_eq_decide.2 (by rw [cW_len];constructor <;> intro h <;> omega);refine Fn.intro (ks:=[0,1,2]) hty rfl rfl rfl rfl rfl ?_;conv=>whnf
 refine Br.mk (fun h=>?_) (fun h=>?_)
 ·conv=>whnf
  refine ⟨?_,?_,?_,trivial,rfl⟩
  ·rw [e,h1];have h':ng q=false:=by simpa using h
   rw [h'];rfl
  ·rw [h2]
  ·rw [h3]
 ·conv=>whnf
  refine ⟨?_,?_,?_,trivial,rfl⟩
  ·rw [h1];have h':ng q=true:=by simpa using h
   rw [h'];rfl
  ·rw [h2]
  ·rw [h3]
theorem fn_rsub (p q:Rat) (hs:sz p+sz q≤99999999999):Fn Tryz.prog 40 [rI p,rI q] [] (rI (p - q)) []:=by
 have c1:=fn_rminus q (by omega)
 have c2:=fn_radd p (-q) (by rw [sz_neg];exact hs)
 rw [←Rat.sub_eq_add_neg] at c2
 refine Fn.intro (ks:=[0,1,2,3,4]) hty rfl rfl rfl rfl rfl ?_
 conv=>whnf
 refine VDraw.go hmo hty 4 [] rfl ?_
 conv=>whnf
 refine QCall.of_data c1 (ndA fun k=>rfl) ?_
 conv=>whnf
 refine QCall.of_data c2 (ndA fun k=>rfl) ?_
 conv=>whnf
 exact ⟨rfl,rfl,rfl,trivial,rfl⟩
end Go.V
namespace Go.V
open Go.Proofs Go.RowKit
set_option maxRecDepth 10000
set_option maxHeartbeats 1000000
theorem ng_lt (q:Rat):ng q=decide (q < 0):=by
 unfold ng
 refine decide_eq_decide.2 ?_
 have h:=Rat.num_nonneg (q:=q)
 rw [←Rat.not_le,←h];omega
def cM (p:Mt):List (List C):=p.map fun r=>[.sl (cQ r)]
end Go.V
namespace Go.V
open Go.Proofs Go.RowKit
set_option maxRecDepth 10000
set_option maxHeartbeats 1000000
end Go.V
namespace Go.V
open Go.Proofs Go.RowKit
set_option maxRecDepth 10000
set_option maxHeartbeats 1000000
structure MtSz (p:Mt) (m:Nat):Prop where
 n1:1≤p.length
 n2:p.length≤12
 sq:∀r,r∈p→r.length=p.length
 sz:∀r,r∈p→∀q,q∈r→Go.V.sz q≤m
theorem MtSz.len {p:Mt} {m:Nat} (h:MtSz p m) {i:Nat} (hi:i < p.length):(p.getD i []).length=p.length:=h.sq _ (getD_mem hi)
end Go.V
namespace Go.V
open Go.Proofs Go.RowKit
set_option maxRecDepth 10000
set_option maxHeartbeats 1000000
end Go.V
namespace Go.V
open Go.Proofs Go.RowKit
set_option maxRecDepth 10000
set_option maxHeartbeats 1000000
end Go.V
namespace Go.V
open Go.Proofs Go.RowKit
set_option maxRecDepth 10000
set_option maxHeartbeats 1000000
end Go.V
namespace Go.V
open Go.Proofs Go.RowKit
set_option maxRecDepth 10000
set_option maxHeartbeats 1000000
end Go.V
namespace Go.V
open Go.Proofs Go.RowKit
set_option maxRecDepth 10000
set_option maxHeartbeats 1000000
end Go.V
namespace Go.V
open Go.Proofs Go.RowKit
end Go.V
namespace Go.V
open Go.Proofs Go.RowKit
set_option maxRecDepth 10000
set_option maxHeartbeats 1000000
end Go.V
namespace Go.V
section
variable {P:Program} {G:Ctx} {κ:Know} {ρ:Place} {t:TL} {l:LL} {a:Act} {w:World}
end
end Go.V
namespace Go.V
open Go.Proofs Go.RowKit
set_option maxRecDepth 10000
set_option maxHeartbeats 1000000
theorem and32 {y:Nat} (h:y < 4294967296):(((BitVec.ofInt IntKind.u64.bits (y:Int) &&& BitVec.ofInt IntKind.u64.bits 4294967295).toNat:Nat):Int)=(y:Int):=by
 rw [BitVec.toNat_and]
 have e1:(BitVec.ofInt IntKind.u64.bits (y:Int)).toNat=y:=by
  show (BitVec.ofInt 64 (y:Int)).toNat=y
  rw [BitVec.toNat_ofInt];omega
 have e2:(BitVec.ofInt IntKind.u64.bits 4294967295).toNat=2 ^ 32 - 1:=rfl
 rw [e1,e2,Nat.and_two_pow_sub_one_eq_mod,Nat.mod_eq_of_lt h]
theorem shr0 {y:Nat} (h:y < 4294967296):((y:Nat):Int).fdiv (2 ^ min (Int.toNat 32) IntKind.u64.bits)=0:=by
 rw [show (2:Int) ^ min (Int.toNat 32) IntKind.u64.bits=4294967296 from rfl,Int.fdiv_eq_ediv_of_nonneg _ (by decide)]
 omega
theorem fn_Mul64 (y:Nat) (hy:y≤1000000):Fn Tryz.prog 82 [N64 1,N64 y] [] (.tup [N64 0,N64 y]) []:=by
 refine Fn.intro (ks:=[0,1,4,5,6,7,8,9,10,11,12,13]) hty rfl rfl rfl rfl rfl ?_
 conv=>whnf
 refine Wr.n64 (n:=1) (and32 (y:=1) (by omega)) (by omega) ?_
 conv=>whnf
 refine ⟨by decide,?_⟩
 conv=>whnf
 refine Wr.n64 (n:=y) (and32 (y:=y) (by omega)) (by omega) ?_
 conv=>whnf
 refine ⟨by decide,?_⟩
 conv=>whnf
 have e1:=shr0 (y:=1) (by omega)
 have ey:=shr0 (y:=y) (by omega)
 refine Wr.n64 (n:=y) (by omega) (by omega) ?_
 conv=>whnf
 refine Wr.n64 (n:=0) (by rw [e1];simp) (by omega) ?_
 conv=>whnf
 refine ⟨by decide,?_⟩
 conv=>whnf
 refine Wr.n64 (n:=0) (by rw [ey];rfl) (by omega) ?_
 conv=>whnf
 refine Wr.n64 (n:=0) (and32 (y:=0) (by omega)) (by omega) ?_
 conv=>whnf
 refine ⟨by decide,?_⟩
 conv=>whnf
 refine Wr.n64 (n:=0) (by rw [ey];rfl) (by omega) ?_
 conv=>whnf
 refine Wr.n64 (n:=0) rfl (by omega) ?_
 conv=>whnf
 refine Wr.n64 (n:=0) (by rw [e1,ey];rfl) (by omega) ?_
 conv=>whnf
 refine Wr.n64 (n:=0) (by rw [shr0 (y:=0) (by omega)];rfl) (by omega) ?_
 conv=>whnf
 refine ⟨by decide,?_⟩
 conv=>whnf
 refine Wr.n64 (n:=0) (by rw [shr0 (y:=0) (by omega)];rfl) (by omega) ?_
 conv=>whnf
 refine Wr.n64 (n:=y) (by omega) (by omega) ?_
 conv=>whnf
 exact ⟨rfl,rfl,trivial,rfl⟩
theorem fn_Mul (y:Nat) (hy:y≤1000000):Fn Tryz.prog 60 [N64 1,N64 y] [] (.tup [N64 0,N64 y]) []:=by
 refine Fn.intro (ks:=[0,1,4,5,6,7,8,9]) hty rfl rfl rfl rfl rfl ?_
 conv=>whnf
 refine VCall.of_data (fn_Mul64 y hy) (ndT fun _=>rfl) ?_
 conv=>whnf
 exact ⟨rfl,rfl,trivial,rfl⟩
abbrev zrQ:List C:=[.s (.bool false),.s (.slice none 0 0),.s (.slice none 0 0)]
def repQ (a:Rat) (n k:Nat):List (List C):=cQ (List.replicate k a)++List.replicate (n - k) zrQ
theorem repQ_len {a:Rat} {n k:Nat} (h:k≤n):(repQ a n k).length=n:=by
 unfold repQ;rw [List.length_append,cQ_len,List.length_replicate,List.length_replicate];omega
theorem repQ_all (a:Rat) (n:Nat):repQ a n n=cQ (List.replicate n a):=by unfold repQ;rw [Nat.sub_self];simp
theorem cQ_take (xs:List Rat) (k:Nat):(cQ xs).take k=cQ (xs.take k):=by unfold cQ;rw [List.map_take]
theorem repQ_copy {a:Rat} {n k m:Nat} (h:k≤n) (hm:m≤n - k) (hk:m≤k):(repQ a n k).take k++(((repQ a n k).take k).take m++(repQ a n k).drop (k+m))=repQ a n (k+m):=by
 have e1:(repQ a n k).take k=cQ (List.replicate k a):=by
  unfold repQ
  rw [List.take_append_of_le_length (by rw [cQ_len,List.length_replicate];exact Nat.le_refl _),List.take_of_length_le (by rw [cQ_len,List.length_replicate];exact Nat.le_refl _)]
 have e2:(repQ a n k).drop (k+m)=List.replicate (n - (k+m)) zrQ:=by
  unfold repQ
  rw [List.drop_append,List.drop_of_length_le (by rw [cQ_len,List.length_replicate];omega),cQ_len,List.length_replicate,List.drop_replicate]
  rw [List.nil_append];congr 1;omega
 rw [e1,e2,cQ_take,List.take_replicate,Nat.min_eq_left hk,←List.append_assoc,cQ_append,List.replicate_append_replicate]
 rfl
theorem fn_slRepeat (a:Rat) (n:Nat) (h1:1≤n) (hn:n≤20):Fn Tryz.prog 38 [lQ [a],I n] [] (.ls 0 0 n 3) [(0,.row true 3 (cQ (List.replicate n a)))]:=by
 refine Fn.intro (ks:=[0,1,4,5,6,7,8,10,26,37]) hty rfl rfl rfl rfl rfl ?_;conv=>whnf
 rw [show decide ((n:Int) < 0)=false by simp];conv=>whnf
 refine Wr.n64 (n:=1) (by rw [cQ_len];rfl) (by omega) ?_;conv=>whnf
 refine Wr.n64 (n:=n) rfl (by omega) ?_;conv=>whnf
 refine VCall.of_data (fn_Mul n (by omega)) (ndT fun _=>rfl) ?_;conv=>whnf
 rw [show decide (((9223372036854775807:Int)) < (n:Int))=false by simp;omega];conv=>whnf
 refine Wr.fit (wrap_i64 (by omega) (by omega)) ?_;conv=>whnf
 refine ⟨⟨by omega,by omega,by show (n:Int)*((56:Nat):Int)≤_;omega,by omega⟩,?_⟩;conv=>whnf
 refine ⟨cQ_sz _,?_⟩;conv=>whnf
 refine ⟨by show 0+((n:Int)).toNat≤(List.replicate ((n:Int)).toNat _).length;rw [List.length_replicate];omega,?_⟩;conv=>whnf
 have e0:List.take 0 (List.replicate ((n:Int)).toNat zrQ)++((cQ [a]).take (Nat.min 1 ((n:Int)).toNat)++(List.replicate ((n:Int)).toNat zrQ).drop (0+Nat.min 1 ((n:Int)).toNat))=repQ a n 1:=by
  rw [show ((n:Int)).toNat=n by omega,show Nat.min 1 n=1 from Nat.min_eq_left h1,List.drop_replicate];unfold repQ;rw [List.take_zero,List.nil_append,List.take_of_length_le (by rw [cQ_len];simp)]
  rfl
 refine VLoop.inv hty (S:=Nat) (fun k=>[(8,I k),(7,.ls 30 0 n 3)]) (fun k=>[(30,.row true 3 (repQ a n k))]) (fun k=>1≤k∧k≤n) (fun k=>n - k) 1 ⟨Nat.le_refl _,h1⟩
  ⟨?_,?_,trivial⟩ ⟨?_,trivial⟩ ?_
 ·show I ((Nat.min 1 ((n:Int)).toNat:Nat):Int)=I 1;rw [show Nat.min 1 ((n:Int)).toNat=1 from Nat.min_eq_left (by omega)];rfl
 ·show AV.ls 30 0 ((n:Int)).toNat 3=AV.ls 30 0 n 3;rw [show ((n:Int)).toNat=n by omega]
 ·rw [←e0];rfl
 rintro k ⟨hk1,hk2⟩;conv=>whnf
 refine Br.mk (fun h=>?_) (fun h=>?_)
 ·have h:k < n:=by simp only [decide_eq_true_eq] at h;omega
  have hl:=repQ_len (a:=a) hk2;have g1:(0≤(k:Int)∧(k:Int)≤n∧((n:Int)).toNat+0≤(repQ a n k).length):=⟨by omega,by omega,by rw [hl];omega⟩;have g2:(0≤(0:Int)∧(0:Int)≤k∧((k:Int)).toNat+0≤(repQ a n k).length):=⟨by omega,by omega,by rw [hl];omega⟩;have hc:=repQ_copy (a:=a) (n:=n) (k:=k) (m:=min k (n - k)) hk2 (Nat.min_le_right _ _) (Nat.min_le_left _ _);have hmin:1≤min k (n - k):=by omega
  conv=>whnf
  have hs:(0:Int).toNat+0+((k:Int) - 0).toNat≤(repQ a n k).length:=by rw [hl];omega
  have hd:(k:Int).toNat+0+((n:Int) - (k:Int)).toNat≤(repQ a n k).length:=by rw [hl];omega
  have hmm:Nat.min ((k:Int) - 0).toNat ((n:Int) - (k:Int)).toNat=min k (n - k):=by
   show min _ _=_;rw [show ((k:Int) - 0).toNat=k by omega,show ((n:Int) - (k:Int)).toNat=n - k by omega]
  refine VDraw.goS hmo hty [0,1,2,4,5] rfl ?_;conv=>whnf
  repeat' (first
   | (refine ⟨g1,?_⟩;conv=>whnf)
   | (refine ⟨g2,?_⟩;conv=>whnf)
   | (refine Sub.lo hs ?_;conv=>whnf)
   | (refine ⟨hd,?_⟩;conv=>whnf)
   | (refine Wr.i64 (y:=((k+min k (n - k):Nat):Int)) (by rw [hmm];rfl) (by omega) (by omega) ?_;conv=>whnf)
   | (refine ⟨k+min k (n - k),⟨by omega,by omega⟩,by show n - (k+min k (n - k)) < n - k;omega,⟨rfl,rfl,trivial⟩,?_,trivial⟩;rw [←hc,←hmm];rfl)
   | (refine ⟨?_,?_⟩ <;> conv=>whnf))
 ·have h:k=n:=by simp only [decide_eq_false_iff_not] at h;omega
  subst h;rw [repQ_all];conv=>whnf
  exact ⟨⟨rfl,rfl,rfl,rfl,rfl,rfl⟩,[],rfl,trivial,rfl⟩
end Go.V
namespace Go.V
open Go.Proofs Go.RowKit
set_option maxRecDepth 10000
set_option maxHeartbeats 1000000
end Go.V
namespace Go.V
open Go.Proofs Go.RowKit
set_option maxRecDepth 10000
set_option maxHeartbeats 1000000
end Go.V
namespace Go.V
open Go.Proofs Go.RowKit
set_option maxRecDepth 10000
set_option maxHeartbeats 1000000
end Go.V
namespace Go.V
open Go.Proofs Go.RowKit
set_option maxRecDepth 10000
set_option maxHeartbeats 1000000
end Go.V
namespace Go.V
open Go.Proofs Go.RowKit
set_option maxRecDepth 10000
set_option maxHeartbeats 1000000
end Go.V
namespace Go.V
open Go.Proofs Go.RowKit
set_option maxRecDepth 10000
set_option maxHeartbeats 1000000
theorem map_set {α:Type} {n i:Nat} (f g:Nat→α) (he:∀k,k≠i→f k=g k):((List.range n).map f).set i (g i)=(List.range n).map g:=by
 apply List.ext_getElem (by simp)
 intro k h1 h2
 rw [List.getElem_set]
 simp only [List.getElem_map,List.getElem_range]
 by_cases e:i=k
 ·rw [if_pos e,e]
 ·rw [if_neg e,he k (Ne.symm e)]
end Go.V
namespace Go.V
open Go.Proofs Go.RowKit
set_option maxRecDepth 10000
set_option maxHeartbeats 1000000
end Go.V
namespace Go.V
open Go.Proofs Go.RowKit
set_option maxRecDepth 10000
set_option maxHeartbeats 1000000
end Go.V
namespace Go.V
open Go.Proofs Go.RowKit
set_option maxRecDepth 10000
set_option maxHeartbeats 1000000
end Go.V
namespace Go.V
open Go.Proofs Go.RowKit
set_option maxRecDepth 10000
set_option maxHeartbeats 1000000
end Go.V
namespace Go.V
open Go.Proofs Go.RowKit
set_option maxRecDepth 10000
set_option maxHeartbeats 1000000
theorem dd_isD (n:Nat):∀b,b∈dd n→IsD b:=by
 induction n using Nat.strongRecOn with
 | _ n ih =>
  intro b hb
  by_cases h:n < 10
  ·rw [dd_small h] at hb
   rw [List.mem_singleton.1 hb]
   have:=isD_ofNat h
   unfold IsD;omega
  ·rw [dd_big h] at hb
   rcases List.mem_append.1 hb with hb | hb
   ·exact ih _ (by omega) b hb
   ·rw [List.mem_singleton.1 hb]
    have:=isD_ofNat (d:=n % 10) (by omega)
    unfold IsD;omega
theorem dd_head (n:Nat):(dd n).length=1∨(dd n).head? ≠ some 48:=by
 induction n using Nat.strongRecOn with
 | _ n ih =>
  by_cases h:n < 10
  ·exact .inl (by rw [dd_small h];rfl)
  ·refine .inr ?_
   rw [dd_big h]
   have hne:=dd_ne (n / 10)
   rcases ih (n / 10) (by omega) with h1 | h1
   ·by_cases h9:n / 10 < 10
    ·rw [dd_small h9]
     simp only [List.singleton_append,List.head?_cons,ne_eq,Option.some.injEq]
     intro e
     have:=isD_ofNat h9
     rw [e] at this
     have e2:(48:UInt8).toNat=48:=rfl
     omega
    ·have h2:1 < (dd (n / 10)).length:=by
      rw [dd_big h9,List.length_append]
      have:=List.length_pos_iff.2 (dd_ne (n / 10 / 10))
      simp only [List.length_singleton];omega
     omega
   ·intro e
    apply h1
    cases hd:dd (n / 10) with
    | nil=>exact absurd hd hne
    | cons a t=>rw [hd] at e;simpa using e
theorem okN_dd {n:Nat} (h:(dd n).length≤200):okN (dd n):=⟨dd_ne n,h,dd_isD n,dd_head n⟩
theorem dv_dd (n:Nat):dv (dd n)=n:=dv_dec n
theorem cutB_none {c:UInt8} {s:List UInt8} (h:c ∉ s):cutB c s=(s,[],false):=by
 unfold cutB
 rcases indexByte_spec c s with ⟨_,h2⟩ | ⟨p,r,h1,_,_⟩
 ·rw [h2];rfl
 ·exact absurd (by rw [h1];simp) h
theorem cutB_some {c:UInt8} {p r:List UInt8} (h:c ∉ p):cutB c (p++c :: r)=(p,r,true):=by
 have hx:Lib.indexByte (p++c :: r) c=p.length:=by
  induction p with
  | nil=>simp [Lib.indexByte]
  | cons b p ih =>
   have hb:(b == c)=false:=by
    have:b≠c:=fun e=>h (by rw [e];simp);simpa using this
   have h2:=ih fun e=>h (List.mem_cons_of_mem _ e);have h3:((p.length:Int) == -1)=false:=by simp
   simp [Lib.indexByte,hb,h2,h3]
 unfold cutB;rw [hx];show (_,_,_)=_;simp
theorem not47 {s:List UInt8} (h:∀b,b∈s→IsD b):(47:UInt8) ∉ s:=fun e=>by
 have:=h _ e
 unfold IsD at this
 have e2:(47:UInt8).toNat=47:=rfl
 omega
theorem pre_dd (g:Bool) (n:Nat):Lib.hasPrefix ((if g then [45] else [])++dd n) [45]=g∧Lib.trimPrefix ((if g then [45] else [])++dd n) [45]=dd n:=by
 cases g
 ·have h:Lib.hasPrefix (dd n) [45]=false:=by
   cases hd:dd n with
   | nil=>rfl
   | cons a t =>
    have:=dd_isD n a (by rw [hd];simp)
    unfold Lib.hasPrefix
    have hb:((45:UInt8) == a)=false:=by
     have:(45:UInt8)≠a:=fun e=>by
      subst e;unfold IsD at this
      have e2:(45:UInt8).toNat=45:=rfl
      omega
     simpa using this
    simp [List.isPrefixOf,hb]
  refine ⟨by simpa using h,?_⟩
  unfold Lib.trimPrefix
  simp [h]
 ·constructor
  ·simp [Lib.hasPrefix,List.isPrefixOf]
  ·simp [Lib.trimPrefix,Lib.hasPrefix,List.isPrefixOf]
theorem rdRat_ratT {q:Rat} (h:fitsQ q=true):rdRat (ratT q)=some q:=by
 unfold fitsQ at h;simp only [Bool.and_eq_true,decide_eq_true_eq] at h;obtain ⟨h1,h2⟩:=h;have n1:=not47 (dd_isD (tp q));have hp:(47:UInt8) ∉ (if ng q=true then [45] else [])++dd (tp q):=by
  intro e;rcases List.mem_append.1 e with e | e
  ·split at e
   ·rw [List.mem_singleton] at e;cases e
   ·cases e
  ·exact n1 e
 obtain ⟨p1,p2⟩:=pre_dd (ng q) (tp q);have hz:¬(ng q=true∧tp q=0):=fun ⟨a,b⟩=>by rw [ng_zero b] at a;cases a
 have hm:=mk_parts q;unfold rdRat ratT;by_cases hd:q.den=1
 ·rw [if_pos hd,List.append_nil,cutB_none hp];simp only [p1,p2,dv_dd];rw [if_neg (by rintro (e | e);exact e (okN_dd h1);exact hz e)];simp only [if_true];rw [hd] at hm;rw [hm]
 ·rw [if_neg hd,cutB_some hp];simp only [p1,p2,dv_dd];rw [if_neg (by rintro (e | e);exact e (okN_dd h1);exact hz e)];have hg:(tp q).gcd q.den=1:=by have:=q.reduced;unfold tp;exact this
  have h0:=q.den_nz;simp only [Bool.true_eq_false,if_false];rw [if_neg (by rintro (e | e | e);exact e (okN_dd h2);omega;exact e hg),hm]
end Go.V
namespace Go.V
open Go.Proofs Go.RowKit
set_option maxRecDepth 10000
set_option maxHeartbeats 1000000
theorem fn_positive (s:List UInt8) (hs:s.length≤1000000000000):Fn Tryz.prog 49 [Str s] [] (.tup [rO (rdRat s),B ((rdRat s).any fun q=>decide (0 < q))]) []:=by
 have c:=fn_readRat s hs
 refine Fn.intro (ks:=[0,2,3,4,5]) hty rfl rfl rfl rfl rfl ?_
 conv=>whnf
 cases hr:rdRat s with
 | none =>
  rw [hr] at c
  refine VCall.of_data c (ndT (fun k=>rfl)) ?_
  conv=>whnf
  refine VDraw.dp hmo hty [(5,B false),(4,.lp 4 0),(2,.lp 2 0)] [(4,.box true [B false,nI 0,nI 0])]
   [(0,11,.ag [B false,nI 0,nI 0]),(1,12,B false),(2,13,B false),(5,16,skipV),(6,17,B false),(8,3,B false)] [(7,2,.box true [B false,nI 0,nI 0])] [(7,2,.box true _)] rfl ⟨rfl,rfl,rfl,trivial⟩ ⟨rfl,rfl,trivial⟩ ?_ ?_
  ·
   conv=>whnf
   repeat' (first
    | (refine ⟨?_,?_⟩ <;> conv=>whnf)
    | exact rfl
    | exact trivial)
  ·
   conv=>whnf
   repeat' (first
    | exact rfl
    | exact trivial
    | refine ⟨?_,?_⟩)
 | some q =>
  rw [hr] at c
  have hz:=rdRat_sz hr
  have c2:=fn_sign q (by omega)
  have hp:=@sgI_pos q
  rw [show ((some q).any fun q=>decide (0 < q))=decide (0 < sgI q) by show decide (0 < q)=_;rw [decide_eq_decide];exact hp.symm]
  generalize sgI q=r at c2
  rw [show rO (some q) = .ag [B (ng q),nI (tp q),nI q.den] from rfl] at c ⊢
  rw [show rI q = .ag [B (ng q),nI (tp q),nI q.den] from rfl] at c2
  generalize ng q=x1 at c c2 ⊢
  generalize tp q=x2 at c c2 ⊢
  generalize q.den=x3 at c c2 ⊢
  refine VCall.of_data c (ndT (fun k=>rfl)) ?_
  conv=>whnf
  refine VDraw.dp hmo hty [(5,B true),(4,.lp 4 0),(2,.lp 2 0)] [(4,.box true [B x1,nI x2,nI x3])]
   [(0,11,.ag [B x1,nI x2,nI x3]),(1,12,B true),(2,13,B true),(3,14,.ag [B x1,nI x2,nI x3]),(4,15,I r),(5,16,B (decide (0 < r))),(6,17,B (decide (0 < r))),(8,3,B (decide (0 < r)))]
   [(7,2,.box true [B x1,nI x2,nI x3])] [(7,2,.box true _)] rfl ⟨rfl,rfl,rfl,trivial⟩ ⟨rfl,rfl,trivial⟩ ?_ ?_
  ·conv=>whnf
   repeat' (first
    | (refine VCall.of_data c2 (nd _) ?_;conv=>whnf)
    | (refine ⟨?_,?_⟩ <;> conv=>whnf)
    | exact rfl
    | exact trivial)
  ·
   conv=>whnf
   repeat' (first
    | exact rfl
    | exact trivial
    | refine ⟨?_,?_⟩)
end Go.V
namespace Go.V
theorem Iz.szA {E M:Nat} {a:Rat} (h:Iz E a) (hE:E≠0) (h0:-((M:Int):Rat)≤a) (h1:a≤((M:Int):Rat)):Go.V.sz a≤bl M+bl E:=by
 by_cases hn:0≤a
 ·exact h.sz2 hE hn h1
 ·have h2:=h.neg.sz2 (M:=M) hE (by grind) (by grind)
  rwa [sz_neg] at h2
def Vk (E M:Nat) (v:List Rat):Prop:=∀q,q∈v→-((M:Int):Rat)≤q∧q≤((M:Int):Rat)∧Iz E q
theorem Vk.sz {E M:Nat} {v:List Rat} (h:Vk E M v) (hE:E≠0) {q:Rat} (hq:q∈v):Go.V.sz q≤bl M+bl E:=(h q hq).2.2.szA hE (h q hq).1 (h q hq).2.1
structure Mo where
 room:Nat
 come:Rat
 serve:Rat
 reward:Rat
 cost:Rat
def Mo.stay (m:Mo):Rat:=1 - m.come - m.serve
structure Mo.Ok (m:Mo):Prop where
 r1:1≤m.room
 r2:m.room≤8
 c0:0 < m.come
 s0:0 < m.serve
 t0:0≤m.stay
 w0:0≤m.reward
 k0:0≤m.cost
 zc:Go.V.sz m.come≤800
 zs:Go.V.sz m.serve≤800
 zw:Go.V.sz m.reward≤800
 zk:Go.V.sz m.cost≤800
theorem Mo.Ok.zt {m:Mo} (h:m.Ok):Go.V.sz m.stay≤1603:=by
 have h1:=sz_sub (1 - m.come) m.serve
 have h2:=sz_sub 1 m.come
 have h3:Go.V.sz (1:Rat)≤1:=sz_small (n:=1) (k:=1) (by decide) (by decide)
 have:=h.zc;have:=h.zs
 unfold Mo.stay;omega
def vAt (v:List Rat) (n:Nat):Rat:=v.getD n 0
def thenQ (m:Mo) (v:List Rat) (act:Nat→Bool) (n:Nat):Rat:=if n < m.room∧act n=true then m.reward+vAt v (n+1) else vAt v n
def backAt (m:Mo) (v:List Rat) (act:Nat→Bool) (n:Nat):Rat:=-(m.cost*((n:Int):Rat))+m.come*thenQ m v act n+m.serve*vAt v (n - 1)+m.stay*vAt v n
def backQ (m:Mo) (v:List Rat) (act:Nat→Bool):List Rat:=(List.range v.length).map (backAt m v act)
def letQ (m:Mo) (v:List Rat) (n:Nat):Bool:=decide (vAt v n≤m.reward+vAt v (n+1))
def zeroQ (m:Mo):List Rat:=List.replicate (m.room+1) 0
def runQ (m:Mo) (act:List Rat→Nat→Bool):Nat→List Rat
 | 0=>zeroQ m
 | h+1=>backQ m (runQ m act h) (act (runQ m act h))
theorem backQ_len (m:Mo) (v:List Rat) (act:Nat→Bool):(backQ m v act).length=v.length:=by simp [backQ]
theorem runQ_len (m:Mo) (act:List Rat→Nat→Bool):∀h,(runQ m act h).length=m.room+1
 | 0=>by simp [runQ,zeroQ]
 | h+1=>by show (backQ m _ _).length=_;rw [backQ_len,runQ_len m act h]
theorem vAt_mem {v:List Rat} {n:Nat} (h:n < v.length):vAt v n∈v:=getD_mem h
theorem le_tp {q:Rat} (h:0≤q):q≤((tp q:Int):Rat):=by
 have h1:q*((q.den:Int):Rat)=(q.num:Rat):=by
  have h:mkRat q.num q.den=q:=Rat.mkRat_self q;have hp:((q.den:Int):Rat)≠0:=by have:=q.den_nz;exact_mod_cast this
  rw [Rat.mkRat_eq_div,natc] at h;have h3:=Rat.div_mul_cancel (a:=((q.num:Int):Rat)) hp;rw [h] at h3;exact h3
 have h2:(1:Rat)≤((q.den:Int):Rat):=by
  have:(1:Int)≤(q.den:Int):=by have:=q.den_nz;omega
  exact_mod_cast this
 have h3:=Rat.mul_le_mul_of_nonneg_left h2 h;rw [Rat.mul_one,h1] at h3;have h4:(q.num:Int)≤(tp q:Int):=by unfold tp;omega
 have h5:(q.num:Rat)≤((tp q:Int):Rat):=by exact_mod_cast h4
 grind
def moK (m:Mo):Nat:=8*tp m.cost+tp m.reward
theorem moK_le {m:Mo} (h:m.Ok) {n:Nat} (hn:n≤8):m.cost*((n:Int):Rat)+m.reward≤((moK m:Int):Rat):=by
 have h1:=le_tp h.k0;have h2:=le_tp h.w0;have h3:((n:Int):Rat)≤8:=by exact_mod_cast (by omega:(n:Int)≤8)
 have h4:=Rat.mul_le_mul_of_nonneg_left h3 h.k0;have h5:((moK m:Int):Rat)=8*((tp m.cost:Int):Rat)+((tp m.reward:Int):Rat):=by
  unfold moK;rw [Int.natCast_add,Int.natCast_mul,Rat.intCast_add,Rat.intCast_mul]
  rfl
 rw [h5];grind
theorem back_ok {m:Mo} (h:m.Ok) {E M:Nat} {v:List Rat} (hl:v.length=m.room+1) (hv:Vk E M v) (hc:m.cost.den∣E) (hw:m.reward.den∣E) (act:Nat→Bool):Vk (E*(m.come.den*m.serve.den)) (M+moK m) (backQ m v act):=by
 intro q hq;obtain ⟨n,hn,rfl⟩:=List.mem_map.1 hq;have hn:n < m.room+1:=by rw [hl] at hn;simpa using hn
 have hr2:=h.r2;obtain ⟨a1,a2,a3⟩:=hv _ (vAt_mem (v:=v) (n:=n) (by omega));obtain ⟨b1,b2,b3⟩:=hv _ (vAt_mem (v:=v) (n:=n - 1) (by omega));have hK:=moK_le h (n:=n) (by omega);have hn0:(0:Rat)≤((n:Int):Rat):=by exact_mod_cast (by omega:(0:Int)≤(n:Int))
 have hcn:=Rat.mul_nonneg h.k0 hn0;have hT:-((M:Int):Rat)≤thenQ m v act n∧thenQ m v act n≤((M:Int):Rat)+m.reward∧Iz E (thenQ m v act n):=by
  have:=h.w0;unfold thenQ;split
  ·rename_i hx;obtain ⟨c1,c2,c3⟩:=hv _ (vAt_mem (v:=v) (n:=n+1) (by omega));exact ⟨by grind,by grind,((Iz.den _).of_dvd hw).add c3⟩
  ·exact ⟨a1,by grind,a3⟩
 obtain ⟨t1,t2,t3⟩:=hT;obtain ⟨T,eT⟩:∃T,thenQ m v act n=T:=⟨_,rfl⟩;rw [eT] at t1 t2 t3;unfold backAt;rw [eT];have c0:=Rat.le_of_lt h.c0;have s0:=Rat.le_of_lt h.s0;have t0:=h.t0;have one:m.come+m.serve+m.stay=1:=by unfold Mo.stay;grind
 have u1:=Rat.mul_le_mul_of_nonneg_left t2 c0;have u2:=Rat.mul_le_mul_of_nonneg_left b2 s0;have u3:=Rat.mul_le_mul_of_nonneg_left a2 t0;have l1:=Rat.mul_le_mul_of_nonneg_left t1 c0;have l2:=Rat.mul_le_mul_of_nonneg_left b1 s0;have l3:=Rat.mul_le_mul_of_nonneg_left a1 t0;have eM:m.come*((M:Int):Rat)+m.serve*((M:Int):Rat)+m.stay*((M:Int):Rat)=((M:Int):Rat):=by
  have:(m.come+m.serve+m.stay)*((M:Int):Rat)=((M:Int):Rat):=by rw [one,Rat.one_mul]
  grind
 have c1:m.come≤1:=by grind
 have cw:=Rat.mul_le_mul_of_nonneg_right c1 h.w0;have eK:(((M+moK m:Nat):Int):Rat)=((M:Int):Rat)+((moK m:Int):Rat):=by rw [Int.natCast_add,Rat.intCast_add]
 rw [eK];have hw0:=h.w0;refine ⟨by grind,by grind,?_⟩;have hI:Iz E (m.cost*((n:Int):Rat)):=by
  have h1:=((Iz.den m.cost).of_dvd hc).mul (F:=1) (b:=((n:Int):Rat)) ⟨(n:Int),by simp⟩;rwa [Nat.mul_one] at h1
 have i1:Iz (E*(m.come.den*m.serve.den)) (m.come*T):=((Iz.den m.come).mul t3).of_dvd ⟨m.serve.den,by rw [Nat.mul_left_comm,Nat.mul_assoc]⟩;have i2:Iz (E*(m.come.den*m.serve.den)) (m.serve*vAt v (n - 1)):=((Iz.den m.serve).mul b3).of_dvd ⟨m.come.den,by rw [Nat.mul_comm m.serve.den E,Nat.mul_assoc,Nat.mul_comm m.serve.den]⟩;have i3:Iz (m.come.den*m.serve.den) m.stay:=by
  unfold Mo.stay;rw [Rat.sub_eq_add_neg,Rat.sub_eq_add_neg];exact ((Iz.one _).add ((Iz.den m.come).more m.serve.den).neg).add ((Iz.den m.serve).more' m.come.den).neg
 have i4:Iz (E*(m.come.den*m.serve.den)) (m.stay*vAt v n):=(i3.mul a3).of_dvd ⟨1,by rw [Nat.mul_one,Nat.mul_comm]⟩;exact (((hI.neg.more _).add i1).add i2).add i4
def moE (m:Mo):Nat:=m.cost.den*m.reward.den
def moD (m:Mo):Nat:=m.come.den*m.serve.den
theorem run_ok {m:Mo} (h:m.Ok) (act:List Rat→Nat→Bool):∀k,Vk (moE m*moD m ^ k) (k*moK m) (runQ m act k)
 | 0=>fun q hq=>by
  have:q=0:=by
   have hq:q∈List.replicate (m.room+1) (0:Rat):=hq
   exact (List.mem_replicate.1 hq).2
  subst this
  exact ⟨by simp,by simp,Iz.zero _⟩
 | k+1=>by
  have ih:=run_ok h act k
  have d1:m.cost.den∣moE m*moD m ^ k:=⟨m.reward.den*moD m ^ k,by unfold moE;rw [Nat.mul_assoc]⟩
  have d2:m.reward.den∣moE m*moD m ^ k:=⟨m.cost.den*moD m ^ k,by unfold moE;rw [Nat.mul_comm m.cost.den,Nat.mul_assoc]⟩
  have:=back_ok h (runQ_len m act k) ih d1 d2 (act (runQ m act k))
  rw [Nat.mul_assoc,show m.come.den*m.serve.den=moD m from rfl,←Nat.pow_succ,←Nat.succ_mul] at this
  exact this
theorem run_sz {m:Mo} (h:m.Ok) (act:List Rat→Nat→Bool) {k:Nat} (hk:k≤24) {q:Rat} (hq:q∈runQ m act k):Go.V.sz q≤50000:=by
 have z1:=h.zc;have z2:=h.zs;have z3:=h.zw;have z4:=h.zk;have b1:=bl_den m.come;have b2:=bl_den m.serve;have b3:=bl_den m.reward;have b4:=bl_den m.cost;have b5:=bl_tp m.cost;have b6:=bl_tp m.reward;have e1:=bl_mul m.cost.den m.reward.den;have e2:=bl_mul m.come.den m.serve.den;have hD:moD m≠0:=Nat.mul_ne_zero m.come.den_nz m.serve.den_nz;have e3:=bl_pow (moD m) (by omega) k;have e4:=bl_mul (moE m) (moD m ^ k);have e5:k*bl (moD m)≤24*1600:=Nat.mul_le_mul hk (by unfold moD;omega);have e6:bl (moE m)≤1600:=by unfold moE;omega
 have e7:=bl_mul k (moK m);have e8:bl k≤5:=bl_le (by omega);have e9:bl (moK m)≤bl (8*tp m.cost)+bl (tp m.reward)+1:=by
  have:=bl_add (8*tp m.cost) (tp m.reward);unfold moK;omega
 have e10:=bl_mul 8 (tp m.cost);have e11:bl 8≤4:=bl_le (by decide);have:=(run_ok h act k).sz (Nat.mul_ne_zero (Nat.mul_ne_zero m.cost.den_nz m.reward.den_nz) (Nat.pos_iff_ne_zero.1 (Nat.pow_pos (Nat.pos_of_ne_zero hD)))) hq;omega
end Go.V
namespace Go.V
abbrev Fm:=Nat→Nat→Rat
def rowX (n:Nat) (A:Fm) (x:Nat→Rat) (r:Nat):Rat:=sN n fun j=>A r j*x j
def Sol (n:Nat) (A:Fm) (x:Nat→Rat):Prop:=∀r,r < n→rowX n A x r=A r n
def Hom (n:Nat) (A:Fm) (x:Nat→Rat):Prop:=∀r,r < n→rowX n A x r=0
def Inj (n:Nat) (A:Fm):Prop:=∀x,Hom n A x→∀j,j < n→x j=0
structure Eqv (n:Nat) (A B:Fm):Prop where
 s:∀x,Sol n A x↔Sol n B x
 h:∀x,Hom n A x↔Hom n B x
theorem Eqv.refl (n:Nat) (A:Fm):Eqv n A A:=⟨fun _=>Iff.rfl,fun _=>Iff.rfl⟩
theorem Eqv.trans {n:Nat} {A B C:Fm} (h1:Eqv n A B) (h2:Eqv n B C):Eqv n A C:=⟨fun x=>(h1.s x).trans (h2.s x),fun x=>(h1.h x).trans (h2.h x)⟩
theorem Eqv.inj {n:Nat} {A B:Fm} (h:Eqv n A B) (hi:Inj n A):Inj n B:=fun x hx=>hi x ((h.h x).2 hx)
theorem Eqv.congr {n:Nat} {A B:Fm} (h:∀r,r < n→∀j,j≤n→A r j=B r j):Eqv n A B:=by
 have hr:∀x r,r < n→rowX n A x r=rowX n B x r:=fun x r hr=>sN_congr fun j hj=>by rw [h r hr j (by omega)]
 refine ⟨fun x=>⟨fun H r h1=>?_,fun H r h1=>?_⟩,fun x=>⟨fun H r h1=>?_,fun H r h1=>?_⟩⟩
 ·rw [←hr x r h1,←h r h1 n (Nat.le_refl _)];exact H r h1
 ·rw [hr x r h1,h r h1 n (Nat.le_refl _)];exact H r h1
 ·rw [←hr x r h1];exact H r h1
 ·rw [hr x r h1];exact H r h1
theorem Eqv.swap {n:Nat} {A B:Fm} (f:Nat→Nat) (hf:∀r,r < n→f r < n) (hff:∀r,r < n→f (f r)=r) (h:∀r,r < n→∀j,j≤n→B r j=A (f r) j):Eqv n A B:=by
 have hr:∀x r,r < n→rowX n B x r=rowX n A x (f r):=fun x r hr=>sN_congr fun j hj=>by rw [h r hr j (by omega)]
 refine ⟨fun x=>⟨fun H r h1=>?_,fun H r h1=>?_⟩,fun x=>⟨fun H r h1=>?_,fun H r h1=>?_⟩⟩
 ·rw [hr x r h1,h r h1 n (Nat.le_refl _)];exact H _ (hf r h1)
 ·have h2:=H _ (hf r h1)
  rw [hr x _ (hf r h1),h _ (hf r h1) n (Nat.le_refl _),hff r h1] at h2
  exact h2
 ·rw [hr x r h1];exact H _ (hf r h1)
 ·have h2:=H _ (hf r h1)
  rw [hr x _ (hf r h1),hff r h1] at h2
  exact h2
theorem Eqv.sub {n i:Nat} {A B:Fm} (hi:i < n) (f:Nat→Rat) (hf:f i=0) (h:∀r,r < n→∀j,j≤n→B r j=A r j - f r*A i j):Eqv n A B:=by
 have hr:∀x r,r < n→rowX n B x r=rowX n A x r - f r*rowX n A x i:=fun x r hr=>by
  unfold rowX
  rw [←sN_mul]
  have:(sN n fun j=>A r j*x j)=(sN n fun j=>B r j*x j)+sN n fun j=>f r*(A i j*x j):=by
   rw [←sN_add]
   exact sN_congr fun j hj=>by rw [h r hr j (by omega)];grind
  rw [this];grind
 have hb:∀x r,r < n→rowX n A x r=rowX n B x r+f r*rowX n B x i:=fun x r h1=>by
  rw [hr x r h1,hr x i hi,hf];grind
 refine ⟨fun x=>⟨fun H r h1=>?_,fun H r h1=>?_⟩,fun x=>⟨fun H r h1=>?_,fun H r h1=>?_⟩⟩
 ·rw [hr x r h1,h r h1 n (Nat.le_refl _),H r h1,H i hi]
 ·rw [hb x r h1,H r h1,H i hi,h r h1 n (Nat.le_refl _),h i hi n (Nat.le_refl _),hf];grind
 ·rw [hr x r h1,H r h1,H i hi,Rat.mul_zero];grind
 ·rw [hb x r h1,H r h1,H i hi,Rat.mul_zero];grind
theorem sN_two {n a b:Nat} {f:Nat→Rat} (ha:a < n) (hb:b < n) (hab:a≠b) (h:∀i,i < n→i≠a→i≠b→f i=0):sN n f=f a+f b:=by
 have h1:sN n f=(sN n fun i=>if i=a then f i else 0)+sN n fun i=>if i=b then f i else 0:=by
  rw [←sN_add]
  refine sN_congr fun i hi=>?_
  by_cases e1:i=a
  ·rw [if_pos e1,if_neg (by omega),Rat.add_zero]
  ·rw [if_neg e1,Rat.zero_add]
   by_cases e2:i=b
   ·rw [if_pos e2]
   ·rw [if_neg e2,h i hi e1 e2]
 rw [h1,sN_delta,sN_delta,if_pos ha,if_pos hb]
theorem sN_only {n a:Nat} {f:Nat→Rat} (ha:a < n) (h:∀i,i < n→i≠a→f i=0):sN n f=f a:=by
 have h1:sN n f=sN n fun i=>if i=a then f i else 0:=sN_congr fun i hi=>by
  by_cases e1:i=a
  ·rw [if_pos e1]
  ·rw [if_neg e1,h i hi e1]
 rw [h1,sN_delta,if_pos ha]
def Dia (n:Nat) (A:Fm) (i:Nat):Prop:=∀c,c < i→A c c≠0∧∀r,r < n→r≠c→A r c=0
theorem Dia.pivot {n i:Nat} {A:Fm} (hd:Dia n A i) (hj:Inj n A) (hi:i < n):∃k,i≤k∧k < n∧A k i≠0:=by
 apply Classical.byContradiction
 intro hno
 have h0:∀k,i≤k→k < n→A k i=0:=fun k h1 h2=>Classical.byContradiction fun h3=>hno ⟨k,h1,h2,h3⟩
 have hx:=hj (fun j=>if j < i then -(A j i / A j j) else if j=i then 1 else 0) (fun r hr=>by
  unfold rowX
  by_cases hri:r < i
  ·rw [sN_two (a:=r) (b:=i) hr hi (by omega) (fun j hj h1 h2=>by
    dsimp only
    by_cases h3:j < i
    ·rw [(hd j h3).2 r hr (Ne.symm h1),Rat.zero_mul]
    ·rw [if_neg h3,if_neg h2,Rat.mul_zero])]
   dsimp only
   rw [if_pos hri,if_neg (by omega),if_pos rfl]
   have:=(hd r hri).1
   have h4:=Rat.div_mul_cancel (a:=A r i) this
   grind
  ·rw [sN_only (a:=i) hi (fun j hj h1=>by
    dsimp only
    by_cases h3:j < i
    ·rw [(hd j h3).2 r hr (by omega),Rat.zero_mul]
    ·rw [if_neg h3,if_neg h1,Rat.mul_zero])]
   rw [h0 r (by omega) hr,Rat.zero_mul]) i hi
 rw [if_neg (by omega),if_pos rfl] at hx
 exact absurd hx (by decide)
theorem Inj.uniq {n:Nat} {A:Fm} (h:Inj n A) {x y:Nat→Rat} (hx:Sol n A x) (hy:Sol n A y):∀j,j < n→x j=y j:=by
 intro j hj
 have:=h (fun j=>x j - y j) (fun r hr=>by
  have e:rowX n A x r=rowX n A (fun j=>x j - y j) r+rowX n A y r:=by
   unfold rowX
   rw [←sN_add]
   exact sN_congr fun j hj=>by grind
  have h1:=hx r hr
  have h2:=hy r hr
  grind) j hj
 grind
def Tri (n:Nat) (A:Fm) (i:Nat):Prop:=∀c,c < i→A c c≠0∧∀r,r < n→c < r→A r c=0
theorem Tri.part {n i:Nat} {A:Fm} (hd:Tri n A i) (hi:i < n):∀d,d≤i→∃x:Nat→Rat,x i=1∧(∀j,i < j→x j=0)∧∀r,i - d≤r→r < i→rowX n A x r=0
 | 0,_=>⟨fun j=>if j=i then 1 else 0,if_pos rfl,fun j hj=>if_neg (by omega),fun r h1 h2=>by omega⟩
 | d+1,h=>by
  obtain ⟨x,h1,h2,h3⟩:=Tri.part hd hi d (by omega);obtain ⟨c,hc⟩:∃c,c=i - (d+1):=⟨_,rfl⟩;have hci:c < i:=by omega
  refine ⟨fun j=>if j=c then x c - rowX n A x c / A c c else x j,?_,fun j hj=>?_,fun r h4 h5=>?_⟩
  ·show (if i=c then _ else x i)=1;rw [if_neg (by omega),h1]
  ·show (if j=c then _ else x j)=0;rw [if_neg (by omega),h2 j hj]
  ·have e:rowX n A (fun j=>if j=c then x c - rowX n A x c / A c c else x j) r=rowX n A x r - A r c*(rowX n A x c / A c c):=by
    unfold rowX;have:(sN n fun j=>A r j*(if j=c then x c - (sN n fun j=>A c j*x j) / A c c else x j))+(sN n fun j=>if j=c then A r c*((sN n fun j=>A c j*x j) / A c c) else 0)=sN n fun j=>A r j*x j:=by
     rw [←sN_add];refine sN_congr fun j hj=>?_;by_cases e:j=c
     ·subst e;rw [if_pos rfl,if_pos rfl];grind
     ·rw [if_neg e,if_neg e];grind
    rw [sN_delta n c fun _=>A r c*((sN n fun j=>A c j*x j) / A c c),if_pos (by omega)] at this;grind
   rw [e];by_cases hr:r=c
   ·subst hr;have:=Rat.div_mul_cancel (a:=rowX n A x r) (hd r hci).1;grind
   ·rw [h3 r (by omega) h5,(hd c hci).2 r (by omega) (by omega)];grind
theorem Tri.pivot {n i:Nat} {A:Fm} (hd:Tri n A i) (hj:Inj n A) (hi:i < n):∃k,i≤k∧k < n∧A k i≠0:=by
 apply Classical.byContradiction
 intro hno
 have h0:∀k,i≤k→k < n→A k i=0:=fun k h1 h2=>Classical.byContradiction fun h3=>hno ⟨k,h1,h2,h3⟩
 obtain ⟨x,h1,h2,h3⟩:=hd.part hi i (Nat.le_refl _)
 have:=hj x (fun r hr=>by
  by_cases hri:r < i
  ·exact h3 r (by omega) hri
  ·unfold rowX
   have:(sN n fun j=>A r j*x j)=sN n fun _=>0:=sN_congr fun j hj=>by
    by_cases e1:j < i
    ·rw [(hd j e1).2 r hr (by omega),Rat.zero_mul]
    ·by_cases e2:j=i
     ·subst e2;rw [h0 r (by omega) hr,Rat.zero_mul]
     ·rw [h2 j (by omega),Rat.mul_zero]
   rw [this,sN_zero]) i hi
 rw [h1] at this
 exact absurd this (by decide)
end Go.V
namespace Go.V
def RowB (t:Nat) (r:List Rat):Prop:=∃E:Nat,E≠0∧bl E < t∧∀q,q∈r→∃z:Int,q*((E:Int):Rat)=(z:Rat)∧bl z.natAbs < t
theorem RowB.mono {t u:Nat} {r:List Rat} (h:RowB t r) (hu:t≤u):RowB u r:=by
 obtain ⟨E,h1,h2,h3⟩:=h
 refine ⟨E,h1,by omega,fun q hq=>?_⟩
 obtain ⟨z,h4,h5⟩:=h3 q hq
 exact ⟨z,h4,by omega⟩
theorem RowB.sz {t:Nat} {r:List Rat} (h:RowB t r) {q:Rat} (hq:q∈r):Go.V.sz q < t:=by
 obtain ⟨E,h1,h2,h3⟩:=h;obtain ⟨z,hz,h5⟩:=h3 q hq;have hp:(0:Rat) < ((E:Int):Rat):=by
  have:(0:Int) < (E:Int):=by omega
  exact_mod_cast this
 have e:q=mkRat (sgn (decide (z < 0)) z.natAbs) E:=by
  have h2:=natc E;have h6:sgn (decide (z < 0)) z.natAbs=z:=by
   unfold sgn;by_cases h:z < 0
   ·rw [decide_eq_true h,if_pos rfl];omega
   ·rw [decide_eq_false h];simp;omega
  rw [h6,Rat.mkRat_eq_div,←hz,h2,Rat.div_def,Rat.mul_assoc,Rat.mul_inv_cancel _ (Rat.ne_of_gt hp),Rat.mul_one]
 rw [e];have:=sz_mkRat (s:=decide (z < 0)) (t:=z.natAbs) h1;omega
theorem RowB.of_iz {E t:Nat} {r:List Rat} (hE:E≠0) (h1:bl E < t) (M:Nat) (hM:bl (M*E) < t) (h:∀q,q∈r→Iz E q∧-((M:Int):Rat)≤q∧q≤((M:Int):Rat)):RowB t r:=by
 refine ⟨E,hE,h1,fun q hq=>?_⟩;obtain ⟨⟨z,hz⟩,h2,h3⟩:=h q hq;refine ⟨z,hz,?_⟩;have hp:(0:Rat)≤((E:Int):Rat):=by exact_mod_cast (by omega:(0:Int)≤(E:Int))
 have hz1:z≤((M*E:Nat):Int):=by
  have:(z:Rat)≤(((M*E:Nat):Int):Rat):=by
   rw [←hz,Int.natCast_mul,Rat.intCast_mul];exact Rat.mul_le_mul_of_nonneg_right h3 hp
  exact_mod_cast this
 have hz2:-((M*E:Nat):Int)≤z:=by
  have:((-((M*E:Nat):Int):Int):Rat)≤(z:Rat):=by
   rw [←hz,Rat.intCast_neg,Int.natCast_mul,Rat.intCast_mul,←Rat.neg_mul];exact Rat.mul_le_mul_of_nonneg_right h2 hp
  exact_mod_cast this
 have:=bl_mono (a:=z.natAbs) (b:=M*E) (by omega);omega
def subRow (c m:Nat) (f:Rat) (b a:List Rat):List Rat:=(List.range a.length).map fun j=>if c≤j∧j < m then a.getD j 0 - f*b.getD j 0 else a.getD j 0
theorem subRow_len (c m:Nat) (f:Rat) (b a:List Rat):(subRow c m f b a).length=a.length:=by simp [subRow]
theorem subRow_at {c m:Nat} {f:Rat} {b a:List Rat} {j:Nat} (h:j < a.length):(subRow c m f b a).getD j 0=if c≤j∧j < m then a.getD j 0 - f*b.getD j 0 else a.getD j 0:=by
 rw [gD,List.getElem?_eq_getElem (by rw [subRow_len];exact h)];simp [subRow]
theorem gsetD {α:Type} {xs:List α} {i j:Nat} {x d:α} (hi:i < xs.length):(xs.set i x).getD j d=if j=i then x else xs.getD j d:=by
 rw [gD,List.getElem?_set]
 by_cases h:i=j
 ·rw [if_pos h,if_pos hi,if_pos h.symm];rfl
 ·rw [if_neg h,if_neg (Ne.symm h),gD]
theorem RowB.sub {t c m:Nat} {a b:List Rat} (ha:RowB t a) (hb:RowB t b) (hac:c < a.length) (hl:a.length≤b.length) (h0:b.getD c 0≠0):RowB (2*t) (subRow c m (a.getD c 0 / b.getD c 0) b a):=by
 obtain ⟨E,e1,e2,e3⟩:=ha;obtain ⟨F,f1,f2,f3⟩:=hb;obtain ⟨y,hy,hyb⟩:=f3 _ (getD_mem (xs:=b) (i:=c) (d:=0) (by omega));obtain ⟨x,hx,hxb⟩:=e3 _ (getD_mem (xs:=a) (i:=c) (d:=0) hac);have hF:((F:Int):Rat)≠0:=by exact_mod_cast (by omega:(F:Int)≠0)
 have hy0:y≠0:=fun e=>by
  rw [e] at hy;rcases Rat.mul_eq_zero.1 (show b.getD c 0*((F:Int):Rat)=0 from hy) with h | h
  ·exact h0 h
  ·exact hF h
 have hdiv:=Rat.div_mul_cancel (a:=a.getD c 0) h0;obtain ⟨f,ef⟩:∃f,a.getD c 0 / b.getD c 0=f:=⟨_,rfl⟩;rw [ef] at hdiv ⊢;obtain ⟨s,hs,hs2⟩:∃s:Int,((y.natAbs:Nat):Int)=s*y∧s.natAbs=1:=by
  by_cases h:0≤y
  ·exact ⟨1,by omega,rfl⟩
  ·exact ⟨-1,by omega,rfl⟩
 have bE:=bl_mul E y.natAbs;refine ⟨E*y.natAbs,Nat.mul_ne_zero e1 (by omega),by omega,fun q hq=>?_⟩;have eN:(((E*y.natAbs:Nat):Int):Rat)=((E:Int):Rat)*((s:Rat)*(y:Rat)):=by rw [Int.natCast_mul,Rat.intCast_mul,hs,Rat.intCast_mul]
 obtain ⟨j,hj,rfl⟩:=List.mem_map.1 hq;have hj:j < a.length:=by simpa using hj
 obtain ⟨xj,hxj,hxjb⟩:=e3 _ (getD_mem (xs:=a) (i:=j) (d:=0) hj);obtain ⟨yj,hyj,hyjb⟩:=f3 _ (getD_mem (xs:=b) (i:=j) (d:=0) (by omega));rw [eN];split
 ·refine ⟨s*(xj*y - x*yj),?_,?_⟩
  ·rw [Rat.intCast_mul,Rat.intCast_sub,Rat.intCast_mul,Rat.intCast_mul,←hxj,←hyj,←hx];have:f*(y:Rat)=a.getD c 0*((F:Int):Rat):=by rw [←hy,←Rat.mul_assoc,hdiv]
   grind
  ·have h1:(s*(xj*y - x*yj)).natAbs≤xj.natAbs*y.natAbs+x.natAbs*yj.natAbs:=by
    rw [Int.natAbs_mul,hs2,Nat.one_mul];have h1:=Int.natAbs_sub_le (xj*y) (x*yj);rw [Int.natAbs_mul,Int.natAbs_mul] at h1;omega
   have h2:=bl_mono h1;have h3:=bl_add (xj.natAbs*y.natAbs) (x.natAbs*yj.natAbs);have h4:=bl_mul xj.natAbs y.natAbs;have h5:=bl_mul x.natAbs yj.natAbs;omega
 ·refine ⟨s*(xj*y),?_,?_⟩
  ·rw [Rat.intCast_mul,Rat.intCast_mul,←hxj];grind
  ·rw [Int.natAbs_mul,hs2,Nat.one_mul,Int.natAbs_mul];have h4:=bl_mul xj.natAbs y.natAbs;omega
def lg (p:List Nat) (R:Mt) (r:Nat):List Rat:=R.getD (p.getD r 0) []
def lgF (p:List Nat) (R:Mt):Fm:=fun r j=>(lg p R r).getD j 0
def swapL {α:Type} (d:α) (xs:List α) (i k:Nat):List α:=(xs.set i (xs.getD k d)).set k (xs.getD i d)
theorem swapL_len {α:Type} (d:α) (xs:List α) (i k:Nat):(swapL d xs i k).length=xs.length:=by simp [swapL]
def swF (i k r:Nat):Nat:=if r=k then i else if r=i then k else r
theorem swapL_at {α:Type} {d:α} {xs:List α} {i k r:Nat} (hi:i < xs.length) (hk:k < xs.length):(swapL d xs i k).getD r d=xs.getD (swF i k r) d:=by
 unfold swapL swF
 rw [gsetD (by rw [List.length_set];exact hk),gsetD hi]
 by_cases h1:r=k
 ·rw [if_pos h1,if_pos h1]
 ·rw [if_neg h1,if_neg h1]
  by_cases h2:r=i
  ·rw [if_pos h2,if_pos h2]
  ·rw [if_neg h2,if_neg h2]
theorem swF_lt {n i k r:Nat} (hi:i < n) (hk:k < n) (hr:r < n):swF i k r < n:=by unfold swF;split;exact hi;split;exact hk;exact hr
theorem swF_two (i k r:Nat):swF i k (swF i k r)=r:=by
 unfold swF
 by_cases h1:r=k
 ·rw [if_pos h1]
  by_cases h2:i=k
  ·rw [if_pos h2];omega
  ·rw [if_neg h2,if_pos rfl,h1]
 ·rw [if_neg h1]
  by_cases h2:r=i
  ·rw [if_pos h2,if_pos rfl,h2]
  ·rw [if_neg h2,if_neg h1,if_neg h2]
structure Plc (n w:Nat) (p:List Nat) (R:Mt):Prop where
 pl:p.length=n
 rl:R.length=n
 lt:∀r,r < n→p.getD r 0 < n
 inj:∀r q,r < n→q < n→p.getD r 0=p.getD q 0→r=q
 wd:∀r,r < n→(lg p R r).length=w
theorem Plc.swap {n w:Nat} {p:List Nat} {R:Mt} (h:Plc n w p R) {i k:Nat} (hi:i < n) (hk:k < n):Plc n w (swapL 0 p i k) R:=by
 have e:∀r,(swapL 0 p i k).getD r 0=p.getD (swF i k r) 0:=fun r=>swapL_at (by rw [h.pl];exact hi) (by rw [h.pl];exact hk)
 refine ⟨by rw [swapL_len,h.pl],h.rl,fun r hr=>?_,fun r q hr hq hh=>?_,fun r hr=>?_⟩
 ·rw [e];exact h.lt _ (swF_lt hi hk hr)
 ·rw [e,e] at hh
  have:=h.inj _ _ (swF_lt hi hk hr) (swF_lt hi hk hq) hh
  rw [←swF_two i k r,this,swF_two]
 ·unfold lg;rw [e];exact h.wd _ (swF_lt hi hk hr)
theorem lg_swap {n w:Nat} {p:List Nat} {R:Mt} (h:Plc n w p R) {i k:Nat} (hi:i < n) (hk:k < n) (r:Nat):lg (swapL 0 p i k) R r=lg p R (swF i k r):=by
 unfold lg
 rw [swapL_at (by rw [h.pl];exact hi) (by rw [h.pl];exact hk)]
theorem lg_set {n w:Nat} {p:List Nat} {R:Mt} (h:Plc n w p R) {r q:Nat} {x:List Rat} (hr:r < n) (hq:q < n):lg p (R.set (p.getD r 0) x) q=if q=r then x else lg p R q:=by
 unfold lg
 rw [gsetD (by rw [h.rl];exact h.lt r hr)]
 by_cases e:q=r
 ·subst e;rw [if_pos rfl,if_pos rfl]
 ·rw [if_neg e,if_neg (fun hh=>e (h.inj q r hq hr hh))]
theorem Plc.set {n w:Nat} {p:List Nat} {R:Mt} (h:Plc n w p R) {r:Nat} {x:List Rat} (hr:r < n) (hx:x.length=w):Plc n w p (R.set (p.getD r 0) x) :=
 ⟨h.pl,by rw [List.length_set,h.rl],h.lt,h.inj,fun q hq=>by
  rw [lg_set h hr hq]
  split
  ·exact hx
  ·exact h.wd q hq⟩
def elRow (c:Nat) (sk:Nat→Bool) (b a:List Rat) (r:Nat):List Rat:=if sk r=true∨a.getD c 0=0 then a else subRow c a.length (a.getD c 0 / b.getD c 0) b a
def elimR (p:List Nat) (c:Nat) (sk:Nat→Bool):Nat→Mt→Mt
 | 0,R=>R
 | r+1,R=>(elimR p c sk r R).set (p.getD r 0) (elRow c sk (lg p (elimR p c sk r R) c) (lg p (elimR p c sk r R) r) r)
theorem elRow_len (c:Nat) (sk:Nat→Bool) (b a:List Rat) (r:Nat):(elRow c sk b a r).length=a.length:=by unfold elRow;split;rfl;exact subRow_len _ _ _ _ _
theorem elimR_is {n w c:Nat} {p:List Nat} {R:Mt} {sk:Nat→Bool} (h:Plc n w p R) (hc:c < n) (hs:sk c=true):∀r,r≤n→Plc n w p (elimR p c sk r R)∧∀q,q < n→lg p (elimR p c sk r R) q=if q < r then elRow c sk (lg p R c) (lg p R q) q else lg p R q
 | 0,_=>⟨h,fun q hq=>by rw [if_neg (by omega)];rfl⟩
 | r+1,hr=>by
  obtain ⟨h1,h2⟩:=elimR_is h hc hs r (by omega);have ec:lg p (elimR p c sk r R) c=lg p R c:=by
   rw [h2 c hc];split
   ·unfold elRow;rw [if_pos (.inl hs)]
   ·rfl
  have er:lg p (elimR p c sk r R) r=lg p R r:=by rw [h2 r (by omega),if_neg (by omega)]
  refine ⟨h1.set (by omega) (by rw [elRow_len,er];exact h.wd r (by omega)),fun q hq=>?_⟩;show lg p ((elimR p c sk r R).set (p.getD r 0) _) q=_;rw [lg_set h1 (by omega) hq,ec,er];by_cases e:q=r
  ·subst e;rw [if_pos rfl,if_pos (by omega)]
  ·rw [if_neg e,h2 q hq];by_cases e2:q < r
   ·rw [if_pos e2,if_pos (by omega)]
   ·rw [if_neg e2,if_neg (by omega)]
theorem elRow_at {c:Nat} {sk:Nat→Bool} {b a:List Rat} {r j w:Nat} (ha:a.length=w) (hj:j < w) (hb:∀j,j < c→b.getD j 0=0) :
  (elRow c sk b a r).getD j 0=a.getD j 0 - (if sk r=true then 0 else a.getD c 0 / b.getD c 0)*b.getD j 0:=by
 unfold elRow
 by_cases h:sk r=true
 ·rw [if_pos (.inl h),if_pos h,Rat.zero_mul];grind
 ·rw [if_neg h]
  by_cases h2:a.getD c 0=0
  ·rw [if_pos (.inr h2),h2,Rat.div_def,Rat.zero_mul,Rat.zero_mul];grind
  ·rw [if_neg (by rintro (h3 | h3);exact h h3;exact h2 h3),subRow_at (by omega)]
   by_cases h3:c≤j∧j < a.length
   ·rw [if_pos h3]
   ·rw [if_neg h3,hb j (by omega),Rat.mul_zero];grind
theorem elim_step {n i k:Nat} {p:List Nat} {R:Mt} {sk:Nat→Bool} (h:Plc n (n+1) p R) (hi:i < n) (hk:k < n) (hs:sk i=true) (h0:lgF p R k i≠0) (hb:∀j,j < i→lgF p R k j=0) :
  Plc n (n+1) (swapL 0 p i k) (elimR (swapL 0 p i k) i sk n R)∧Eqv n (lgF p R) (lgF (swapL 0 p i k) (elimR (swapL 0 p i k) i sk n R)) ∧
   ∀r,r < n→∀j,j≤n→lgF (swapL 0 p i k) (elimR (swapL 0 p i k) i sk n R) r j=lgF p R (swF i k r) j - (if sk r=true then 0 else lgF p R (swF i k r) i / lgF p R k i)*lgF p R k j:=by
 have hp:=h.swap hi hk;obtain ⟨g1,g2⟩:=elimR_is hp hi hs n (Nat.le_refl _);have esw:swF i k i=k:=by unfold swF;by_cases e:i=k;rw [if_pos e];exact e;rw [if_neg e,if_pos rfl]
 have ei:lg (swapL 0 p i k) R i=lg p R k:=by rw [lg_swap h hi hk,esw]
 have hent:∀r,r < n→∀j,j≤n→lgF (swapL 0 p i k) (elimR (swapL 0 p i k) i sk n R) r j=lgF p R (swF i k r) j - (if sk r=true then 0 else lgF p R (swF i k r) i / lgF p R k i)*lgF p R k j:=fun r hr j hj=>by
  unfold lgF;rw [g2 r hr,if_pos hr,ei,lg_swap h hi hk,elRow_at (w:=n+1) (h.wd _ (swF_lt hi hk hr)) (by omega) hb]
 refine ⟨g1,?_,hent⟩;have e1:Eqv n (lgF p R) (fun r j=>lgF p R (swF i k r) j):=Eqv.swap (swF i k) (fun r hr=>swF_lt hi hk hr) (fun r _=>swF_two i k r) fun r _ j _=>rfl;refine e1.trans (Eqv.sub hi (fun r=>if sk r=true then 0 else lgF p R (swF i k r) i / lgF p R k i) (if_pos hs) fun r hr j hj=>?_);rw [hent r hr j hj,esw]
theorem RowB.el {t c r:Nat} {sk:Nat→Bool} {a b:List Rat} (ha:RowB t a) (hb:RowB t b) (hac:c < a.length) (hl:a.length≤b.length) (h0:b.getD c 0≠0):RowB (2*t) (elRow c sk b a r):=by
 unfold elRow
 split
 ·exact ha.mono (by omega)
 ·exact ha.sub hb hac hl h0
structure Gj (n t:Nat) (A:Fm) (p:List Nat) (R:Mt) (i:Nat):Prop where
 pl:Plc n (n+1) p R
 eq:Eqv n A (lgF p R)
 dia:Dia n (lgF p R) i
 row:∀r,r < n→RowB (2 ^ i*t) (lg p R r)
abbrev skJ (i r:Nat):Bool:=decide (r=i)
theorem Gj.next {n t i:Nat} {A:Fm} {p:List Nat} {R:Mt} (h:Gj n t A p R i) (hi:i < n) {k:Nat} (hik:i≤k) (hk:k < n) (h0:lgF p R k i≠0):Gj n t A (swapL 0 p i k) (elimR (swapL 0 p i k) i (skJ i) n R) (i+1):=by
 have hb:∀j,j < i→lgF p R k j=0:=fun j hj=>(h.dia j hj).2 k hk (by omega);obtain ⟨g1,g2,g3⟩:=elim_step h.pl hi hk (sk:=skJ i) (decide_eq_true rfl) h0 hb;refine ⟨g1,h.eq.trans g2,fun c hc=>?_,fun r hr=>?_⟩
 ·by_cases e:c=i
  ·subst e;refine ⟨?_,fun r hr hne=>?_⟩
   ·rw [g3 c hi c (by omega),if_pos (decide_eq_true rfl)];have esw:swF c k c=k:=by unfold swF;by_cases e:c=k;rw [if_pos e];exact e;rw [if_neg e,if_pos rfl]
    rw [esw];grind
   ·rw [g3 r hr c (by omega),if_neg (by rw [decide_eq_true_eq];exact hne)];have:=Rat.div_mul_cancel (a:=lgF p R (swF c k r) c) h0;grind
  ·have hci:c < i:=by omega
   obtain ⟨d1,d2⟩:=h.dia c hci;have z:∀r,r < n→r≠c→lgF p R (swF i k r) c=0:=fun r hr hne=>d2 _ (swF_lt hi hk hr) (by unfold swF;split;omega;split;omega;exact hne);refine ⟨?_,fun r hr hne=>?_⟩
   ·rw [g3 c (by omega) c (by omega),hb c hci,Rat.mul_zero];have:swF i k c=c:=by unfold swF;rw [if_neg (by omega),if_neg e]
    rw [this];grind
   ·rw [g3 r hr c (by omega),hb c hci,Rat.mul_zero,z r hr hne];grind
 ·have hp:=h.pl.swap hi hk;obtain ⟨_,g5⟩:=elimR_is (sk:=skJ i) hp hi (decide_eq_true rfl) n (Nat.le_refl _);rw [g5 r hr,if_pos hr,lg_swap h.pl hi hk,lg_swap h.pl hi hk];have esw:swF i k i=k:=by unfold swF;by_cases e:i=k;rw [if_pos e];exact e;rw [if_neg e,if_pos rfl]
  rw [esw];have w1:=h.pl.wd _ (swF_lt hi hk hr);have w2:=h.pl.wd _ hk;have:=(h.row _ (swF_lt hi hk hr)).el (r:=r) (sk:=skJ i) (h.row _ hk) (c:=i) (by omega) (by omega) h0;rwa [←Nat.mul_assoc,←Nat.pow_succ'] at this
end Go.V
namespace Go.V
def St (n:Nat) (m:Fm) (w:Nat→Rat):Prop:=∀j,j < n→(sN n fun i=>w i*m i j)=w j
structure Sto (n:Nat) (m:Fm):Prop where
 pos:∀i j,i < n→j < n→0≤m i j
 one:∀i,i < n→sN n (m i)=1
def Cl (n:Nat) (m:Fm) (s:Nat):Prop:=∀T:Nat→Prop,(∃i,i < n∧T i)→(∀i j,i < n→j < n→T i→0 < m i j→T j)→T s
theorem sN_eq_zero {n:Nat} {f:Nat→Rat} (h:∀i,i < n→0≤f i) (h0:sN n f=0):∀i,i < n→f i=0:=by
 intro i hi
 have h1:=sN_one_le hi h
 have h2:=h i hi
 grind
theorem sN_neg (n:Nat) (f:Nat→Rat):(sN n fun i=>-f i) = -sN n f:=by
 have:=sN_mul n (-1) f
 have e:(sN n fun i=>-f i)=sN n fun i=>(-1)*f i:=sN_congr fun i _=>by grind
 rw [e,this];grind
theorem St.abs {n:Nat} {P:Fm} (hP:Sto n P) {w a:Nat→Rat} (hw:St n P w) (ha:∀i,i < n→w i≤a i∧-w i≤a i∧(a i=w i∨a i = -w i)):St n P a:=by
 have hd:∀j,j < n→0≤(sN n fun i=>a i*P i j) - a j:=fun j hj=>by
  have h1:(sN n fun i=>w i*P i j)≤sN n fun i=>a i*P i j:=sN_le fun i hi=>Rat.mul_le_mul_of_nonneg_right (ha i hi).1 (hP.pos i j hi hj)
  have h2:(sN n fun i=>(-w i)*P i j)≤sN n fun i=>a i*P i j:=sN_le fun i hi=>Rat.mul_le_mul_of_nonneg_right (ha i hi).2.1 (hP.pos i j hi hj)
  have h3:(sN n fun i=>(-w i)*P i j) = -(sN n fun i=>w i*P i j):=by
   rw [←sN_neg];exact sN_congr fun i _=>Rat.neg_mul _ _
  have h4:=hw j hj
  rcases (ha j hj).2.2 with h | h <;> rw [h] <;> grind
 have hs:(sN n fun j=>(sN n fun i=>a i*P i j) - a j)=0:=by
  have e1:(sN n fun j=>(sN n fun i=>a i*P i j) - a j)=(sN n fun j=>sN n fun i=>a i*P i j)+sN n fun j=>-a j:=by
   rw [←sN_add];exact sN_congr fun j _=>Rat.sub_eq_add_neg _ _
  rw [e1,←sN_comm,sN_neg]
  have e2:(sN n fun i=>sN n fun j=>a i*P i j)=sN n a:=sN_congr fun i hi=>by rw [sN_mul,hP.one i hi,Rat.mul_one]
  rw [e2];grind
 intro j hj
 have:=sN_eq_zero hd hs j hj
 grind
theorem St.spread {n:Nat} {P:Fm} (hP:Sto n P) {u:Nat→Rat} (hu:St n P u) (h0:∀i,i < n→0≤u i) {i j:Nat} (hi:i < n) (hj:j < n) (h1:0 < u i) (h2:0 < P i j):0 < u j:=by
 rw [←hu j hj]
 have h3:=sN_one_le (f:=fun i=>u i*P i j) hi fun k hk=>Rat.mul_nonneg (h0 k hk) (hP.pos k j hk hj)
 have h4:=Rat.mul_pos h1 h2
 grind
theorem St.add {n:Nat} {P:Fm} {u v:Nat→Rat} (hu:St n P u) (hv:St n P v):St n P fun i=>u i+v i:=fun j hj=>by
 have e:(sN n fun i=>(u i+v i)*P i j)=(sN n fun i=>u i*P i j)+sN n fun i=>v i*P i j:=by
  rw [←sN_add];exact sN_congr fun i _=>Rat.add_mul _ _ _
 rw [e,hu j hj,hv j hj]
theorem St.smul {n:Nat} {P:Fm} {u:Nat→Rat} (hu:St n P u) (c:Rat):St n P fun i=>c*u i:=fun j hj=>by
 have e:(sN n fun i=>c*u i*P i j)=c*sN n fun i=>u i*P i j:=by
  rw [←sN_mul];exact sN_congr fun i _=>Rat.mul_assoc _ _ _
 rw [e,hu j hj]
theorem St.uniq {n s:Nat} {P:Fm} (hP:Sto n P) (hc:Cl n P s) (hs:s < n) {w:Nat→Rat} (hw:St n P w) (h0:sN n w=0):∀i,i < n→w i=0:=by
 have ha:∀i,i < n→w i≤(if w i < 0 then -w i else w i)∧-w i≤(if w i < 0 then -w i else w i)∧((if w i < 0 then -w i else w i)=w i∨(if w i < 0 then -w i else w i) = -w i):=fun i _=>by
  by_cases h:w i < 0
  ·rw [if_pos h];exact ⟨by grind,by grind,.inr rfl⟩
  ·rw [if_neg h];have:=Rat.not_lt.1 h;exact ⟨by grind,by grind,.inl rfl⟩
 obtain ⟨a,ea⟩:∃a:Nat→Rat,a=fun i=>if w i < 0 then -w i else w i:=⟨_,rfl⟩
 have ha:∀i,i < n→w i≤a i∧-w i≤a i∧(a i=w i∨a i = -w i):=by rw [ea];exact ha
 have hA:=hw.abs hP ha;have hu:=hA.add hw;have hv:=hA.add (hw.smul (-1));have u0:∀i,i < n→0≤a i+w i:=fun i hi=>by have:=(ha i hi).2.1;grind
 have v0:∀i,i < n→0≤a i+(-1)*w i:=fun i hi=>by have:=(ha i hi).1;grind
 by_cases h1:∃i,i < n∧0 < a i+w i
 ·have us:=hc (fun i=>0 < a i+w i) h1 fun i j hi hj h2 h3=>hu.spread hP u0 hi hj h2 h3;have hz:∀i,i < n→a i+(-1)*w i=0:=fun i hi=>Classical.byContradiction fun hne=>by
   have hp:0 < a i+(-1)*w i:=by have:=v0 i hi;grind
   have vs:=hc (fun i=>0 < a i+(-1)*w i) ⟨i,hi,hp⟩ fun i j hi hj h2 h3=>hv.spread hP v0 hi hj h2 h3;rcases (ha s hs).2.2 with h | h <;> grind
  exact sN_eq_zero (fun i hi=>by have:=hz i hi;have:=(ha i hi).2.1;grind) h0
 ·have hz:∀i,i < n→a i+w i=0:=fun i hi=>Classical.byContradiction fun hne=>h1 ⟨i,hi,by have:=u0 i hi;grind⟩;intro i hi;have h2:sN n (fun i=>-w i)=0:=by rw [sN_neg,h0];grind
  have:=sN_eq_zero (f:=fun i=>-w i) (fun i hi=>by have:=hz i hi;have:=(ha i hi).1;grind) h2 i hi;grind
def outM (m:Fm) (k:Nat):Rat:=sN k (m k)
def redM (m:Fm) (k:Nat):Fm:=fun i j=>if i < k∧j < k then m i j+m i k / outM m k*m k j else if i < k∧j=k then m i k / outM m k else m i j
theorem Cl.out {k:Nat} {m:Fm} (hm:Sto (k+1) m) (hc:Cl (k+1) m 0) (hk:1≤k):0 < outM m k:=by
 have h0:0≤outM m k:=sN_nonneg fun j hj=>hm.pos k j (by omega) (by omega);refine Classical.byContradiction fun hn=>?_;have hz:outM m k=0:=by grind
 have:=hc (fun i=>i=k) ⟨k,by omega,rfl⟩ fun i j hi hj h1 h2=>by
  subst h1;refine Classical.byContradiction fun hne=>?_;have:=sN_eq_zero (fun j hj=>hm.pos i j (by omega) (by omega)) hz j (by omega);rw [this] at h2;exact absurd h2 (by decide)
 omega
theorem Sto.red {k:Nat} {m:Fm} (hm:Sto (k+1) m) (hc:Cl (k+1) m 0) (hk:1≤k):Sto k (redM m k):=by
 have ho:=hc.out hm hk;have hne:=Rat.ne_of_gt ho;refine ⟨fun i j hi hj=>?_,fun i hi=>?_⟩
 ·unfold redM;rw [if_pos ⟨hi,hj⟩];have h1:=hm.pos i j (by omega) (by omega);have h2:=hm.pos i k (by omega) (by omega);have h3:=hm.pos k j (by omega) (by omega);have h4:0≤m i k / outM m k:=by rw [Rat.div_def];exact Rat.mul_nonneg h2 (Rat.le_of_lt (Rat.inv_pos.2 ho))
  have h5:=Rat.mul_nonneg h4 h3;grind
 ·have e:sN k (redM m k i)=sN k fun j=>m i j+m i k / outM m k*m k j:=sN_congr fun j hj=>by unfold redM;rw [if_pos ⟨hi,hj⟩]
  rw [e,sN_add,sN_mul];have h1:sN k (fun j=>m k j)=outM m k:=rfl;rw [h1,Rat.div_mul_cancel hne];exact hm.one i (by omega)
theorem Cl.red {k:Nat} {m:Fm} (hm:Sto (k+1) m) (hc:Cl (k+1) m 0) (hk:1≤k):Cl k (redM m k) 0:=by
 have ho:=hc.out hm hk;intro T ⟨i0,hi0,hT⟩ hcl;have hge:∀i j,i < k→j < k→0 < m i j→0 < redM m k i j:=fun i j hi hj h=>by
  unfold redM;rw [if_pos ⟨hi,hj⟩];have h2:=hm.pos i k (by omega) (by omega);have h3:=hm.pos k j (by omega) (by omega);have h4:0≤m i k / outM m k:=by rw [Rat.div_def];exact Rat.mul_nonneg h2 (Rat.le_of_lt (Rat.inv_pos.2 ho))
  have h5:=Rat.mul_nonneg h4 h3;grind
 have hvia:∀i j,i < k→j < k→0 < m i k→0 < m k j→0 < redM m k i j:=fun i j hi hj h h'=>by
  unfold redM;rw [if_pos ⟨hi,hj⟩];have h1:=hm.pos i j (by omega) (by omega);have h4:0 < m i k / outM m k:=by rw [Rat.div_def];exact Rat.mul_pos h (Rat.inv_pos.2 ho)
  have h5:=Rat.mul_pos h4 h';grind
 have:=hc (fun i=>(i < k∧T i)∨(i=k∧∃q,q < k∧T q∧0 < m q k)) ⟨i0,by omega,.inl ⟨hi0,hT⟩⟩ fun i j hi hj h1 h2=>by
  rcases h1 with ⟨h3,h4⟩ | ⟨h3,q,h4,h5,h6⟩
  ·by_cases hjk:j < k
   ·exact .inl ⟨hjk,hcl i j h3 hjk h4 (hge i j h3 hjk h2)⟩
   ·have:j=k:=by omega
    subst this;exact .inr ⟨rfl,i,h3,h4,h2⟩
  ·subst h3;by_cases hjk:j < i
   ·exact .inl ⟨hjk,hcl q j h4 hjk h5 (hvia q j h4 hjk h6 h2)⟩
   ·have:j=i:=by omega
    exact .inr ⟨this,q,h4,h5,h6⟩
 rcases this with ⟨_,h⟩ | ⟨h,_⟩
 ·exact h
 ·omega
def gthM:Nat→Fm→Fm
 | 0,m=>m
 | k+1,m=>gthM k (redM m (k+1))
theorem gthM_col {c i:Nat}:∀{k:Nat} {m:Fm},k < c→gthM k m i c=m i c
 | 0,_,_=>rfl
 | k+1,m,h=>by
  show gthM k (redM m (k+1)) i c=m i c
  rw [gthM_col (by omega)]
  unfold redM
  rw [if_neg (by omega),if_neg (by omega)]
def wL (M:Fm):Nat→List Rat
 | 0=>[1]
 | k+1=>wL M k++[sN (k+1) fun i=>(wL M k).getD i 0*M i (k+1)]
theorem wL_len (M:Fm):∀k,(wL M k).length=k+1
 | 0=>rfl
 | k+1=>by simp [wL,wL_len M k]
theorem wL_low {M:Fm} {k i:Nat} (h:i≤k):(wL M (k+1)).getD i 0=(wL M k).getD i 0:=by
 show (wL M k++_).getD i 0=_
 rw [gD,List.getElem?_append_left (by rw [wL_len];omega),gD]
theorem wL_top {M:Fm} {k:Nat}:(wL M (k+1)).getD (k+1) 0=sN (k+1) fun i=>(wL M k).getD i 0*M i (k+1):=by
 show (wL M k++_).getD (k+1) 0=_
 rw [gD,List.getElem?_append_right (by rw [wL_len];omega),wL_len]
 simp
theorem gth_st:∀(k:Nat) (m:Fm),Sto (k+1) m→Cl (k+1) m 0→St (k+1) m (fun i=>(wL (gthM k m) k).getD i 0)∧(∀i,i≤k→0≤(wL (gthM k m) k).getD i 0)∧(wL (gthM k m) k).getD 0 0=1
 | 0,m,hm,_=>by
  refine ⟨fun j hj=>?_,fun i hi=>?_,rfl⟩
  ·have:j=0:=by omega
   subst this;have h1:=hm.one 0 (by omega);have h2:sN 1 (m 0)=0+m 0 0:=rfl;show (0:Rat)+1*m 0 0=1;grind
  ·have:i=0:=by omega
   subst this;show (0:Rat)≤1;decide
 | k+1,m,hm,hc=>by
  have ho:=hc.out hm (by omega);have hne:=Rat.ne_of_gt ho;obtain ⟨h1,h2,h3⟩:=gth_st k (redM m (k+1)) (hm.red hc (by omega)) (hc.red hm (by omega));obtain ⟨M,eM⟩:∃M,gthM k (redM m (k+1))=M:=⟨_,rfl⟩;rw [eM] at h1 h2 h3;have eM2:gthM (k+1) m=M:=eM;rw [eM2];have hcol:∀i,i < k+1→M i (k+1)=m i (k+1) / outM m (k+1):=fun i hi=>by
   rw [←eM,gthM_col (by omega)];unfold redM;rw [if_neg (by omega),if_pos ⟨hi,rfl⟩]
  obtain ⟨v,ev⟩:∃v:Nat→Rat,(fun i=>(wL M k).getD i 0)=v:=⟨_,rfl⟩;obtain ⟨x,ex⟩:∃x:Rat,(wL M (k+1)).getD (k+1) 0=x:=⟨_,rfl⟩;have hv:∀i,(wL M k).getD i 0=v i:=fun i=>by rw [←ev]
  have hw:∀i,i < k+1→(wL M (k+1)).getD i 0=v i:=fun i hi=>by rw [wL_low (by omega),hv]
  have hx:x*outM m (k+1)=sN (k+1) fun i=>v i*m i (k+1):=by
   rw [←ex,wL_top];have e:(sN (k+1) fun i=>(wL M k).getD i 0*M i (k+1))=sN (k+1) fun i=>(outM m (k+1))⁻¹*(v i*m i (k+1)):=sN_congr fun i hi=>by
    rw [hcol i hi,hv,Rat.div_def];grind
   rw [e,sN_mul];have:=Rat.mul_inv_cancel _ hne;grind
  rw [ev] at h1;refine ⟨fun j hj=>?_,fun i hi=>?_,?_⟩
  ·have es:(sN (k+1+1) fun i=>(wL M (k+1)).getD i 0*m i j)=(sN (k+1) fun i=>v i*m i j)+x*m (k+1) j:=by
    show (sN (k+1) fun i=>(wL M (k+1)).getD i 0*m i j)+(wL M (k+1)).getD (k+1) 0*m (k+1) j=_;rw [ex]
    congr 1
    exact sN_congr fun i hi=>by rw [hw i hi]
   rw [es];dsimp only;by_cases hjk:j < k+1
   ·rw [hw j hjk];have h4:=h1 j hjk;have e5:(sN (k+1) fun i=>v i*redM m (k+1) i j)=(sN (k+1) fun i=>v i*m i j)+x*m (k+1) j:=by
     have:(sN (k+1) fun i=>v i*redM m (k+1) i j)=(sN (k+1) fun i=>v i*m i j)+sN (k+1) fun i=>(m (k+1) j / outM m (k+1))*(v i*m i (k+1)):=by
      rw [←sN_add];refine sN_congr fun i hi=>?_;unfold redM;rw [if_pos ⟨hi,hjk⟩,Rat.div_def,Rat.div_def];grind
     rw [this,sN_mul,←hx,Rat.div_def];have:=Rat.mul_inv_cancel _ hne;grind
    rw [←e5,h4]
   ·have:j=k+1:=by omega
    subst this;rw [ex,←hx];have h6:=hm.one (k+1) (by omega);have h7:sN (k+1+1) (m (k+1))=outM m (k+1)+m (k+1) (k+1):=rfl;have:x*outM m (k+1)+x*m (k+1) (k+1)=x*(outM m (k+1)+m (k+1) (k+1)):=by grind
    rw [this,←h7,h6,Rat.mul_one]
  ·by_cases hik:i < k+1
   ·rw [hw i hik,←hv];exact h2 i (by omega)
   ·have:i=k+1:=by omega
    subst this;rw [wL_top];refine sN_nonneg fun q hq=>Rat.mul_nonneg (h2 q (by omega)) ?_;rw [hcol q hq,Rat.div_def];exact Rat.mul_nonneg (hm.pos q (k+1) (by omega) (by omega)) (Rat.le_of_lt (Rat.inv_pos.2 ho))
  ·rw [hw 0 (by omega),←hv];exact h3
end Go.V
