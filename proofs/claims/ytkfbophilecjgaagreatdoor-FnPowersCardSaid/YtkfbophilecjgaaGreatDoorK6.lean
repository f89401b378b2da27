/- Part 6: the abstract machine, its soundness, contracts of functions. -/
import Derived.Test.YtkfbophilecjgaaGreatDoorK5
import Derived.Test.YtkfbophilecjgaaGreatDoorRshelf
import Derived.Lib.ConvBytes
import Derived.Lib.Strings
import Derived.Test.YtkfbophilecjgaaGreatDoorK3
import Derived.Shelf.Strconv.Itoa3
import Derived.Lib.AppendIntMem
import Derived.Lib.SliceRun
import Derived.WalkKit
import Derived.Lib.Repeat
import Derived.Lib.Join
import Derived.Test.YtkfbophilecjgaaGreatDoorK4
set_option linter.unusedVariables false
set_option linter.unusedSimpArgs false
namespace Go.V
open Go.Proofs Go.RowKit
set_option maxRecDepth 10000
set_option maxHeartbeats 1000000
theorem bx (l:List UInt8) (a h:Nat):(⟨l.toArray⟩:ByteArray).extract a h=⟨((l.take h).drop a).toArray⟩:=by
 apply ByteArray.ext
 rw [ByteArray.data_extract]
 simp [List.drop_take]
theorem bsize (l:List UInt8):(⟨l.toArray⟩:ByteArray).size=l.length:=rfl
theorem Grew.below {w w':World} (h:Below w.heap.size w w'):Grew w w':=⟨h.os,h.tape,h.output,h.size,h.block⟩
theorem Grew.bytes (w:World) (e:TypeId) (s:ByteArray):Grew w (Lib.bytesWorld w e s) :=
 ⟨rfl,rfl,rfl,by rw [Lib.bytesWorld_size];omega,fun j hj=>Lib.bytesWorld_at_old w e s j hj⟩
theorem avr_tup {κ:Know} {ρ:Place} {vs:List Value} {cs:List AV} (h:vs.length=cs.length) (hv:∀(k:Nat) v c,vs[k]? = some v→cs[k]? = some c→AVR κ ρ v c):AVR κ ρ (.tuple vs.toArray) (.tup cs) :=
 .tup _ _ (by simpa using h) fun k v c h1 h2=>hv k v c (by simpa using h1) h2
theorem fn_ParseUint (s:List UInt8) (h:∀b,b∈s→IsD b) (h0:s≠[]) (hl:s.length≤18):Fn Tryz.prog 89 [Str s,I 10,I 64] [] (.tup [N64 (dv s),.d (.s .nilIface)]) []:=by
 refine Fn.of_calls (vs:=[.string ⟨s.toArray⟩,.int .i64 10,.int .i64 64]) ⟨_,rfl,rfl,rfl⟩ fun w _=>?_
 refine Calls.mono (Tryz.strconv_ParseUint_10_at64_ok ⟨s.toArray⟩ (by rw [bsize];omega) (dv s) (parse_ok h h0 hl) w) ?_
 rintro e w' ⟨rfl,hw⟩
 refine ⟨_,rfl,fun κ ρ=>?_,?_⟩
 ·refine avr_tup (vs:=[.int .u64 (dv s),.nilIface]) rfl fun k v c h1 h2=>?_
  match k,h1,h2 with
  | 0,h1,h2=>simp at h1 h2;subst h1;subst h2;exact .d _ _ (.s _)
  | 1,h1,h2=>simp at h1 h2;subst h1;subst h2;exact .d _ _ (.s _)
 ·rcases hw with rfl | rfl
  ·exact Grew.refl _
  ·exact Grew.bytes _ _ _
theorem fn_CutPrefix (s p:List UInt8):Fn Tryz.prog 67 [Str s,Str p] [] (.tup [Str (Lib.trimPrefix s p),B (Lib.hasPrefix s p)]) []:=by
 refine Fn.of_calls (vs:=[.string ⟨s.toArray⟩,.string ⟨p.toArray⟩]) ⟨_,rfl,rfl,rfl⟩ fun w _=>?_
 refine Calls.mono (Tryz.strings_CutPrefix ⟨s.toArray⟩ ⟨p.toArray⟩ w) ?_
 rintro e w' ⟨rfl,rfl⟩
 refine ⟨_,rfl,fun κ ρ=>?_,Grew.refl _⟩
 refine avr_tup (vs:=[.string ⟨(Lib.trimPrefix s p).toArray⟩,.bool (Lib.hasPrefix s p)]) rfl fun k v c h1 h2=>?_
 match k,h1,h2 with
 | 0,h1,h2=>simp at h1 h2;subst h1;subst h2;exact .d _ _ (.s _)
 | 1,h1,h2=>simp at h1 h2;subst h1;subst h2;exact .d _ _ (.s _)
theorem fn_Index1 (s:List UInt8) (c:UInt8):Fn Tryz.prog 107 [Str s,Str [c]] [] (I (Lib.indexByte s c)) [] :=
 Fn.of_same (vs:=[.string ⟨s.toArray⟩,.string ⟨[c].toArray⟩]) ⟨_,rfl,rfl,rfl⟩ fun w=>Tryz.stringslite_Index_one ⟨s.toArray⟩ c w
def cutB (c:UInt8) (s:List UInt8):List UInt8×List UInt8×Bool:=match Lib.indexByte s c with
 | .ofNat n=>(s.take n,s.drop (n+1),true)
 | .negSucc _=>(s,[],false)
theorem fn_slCut (s:List UInt8) (c:UInt8) (hs:s.length≤1000000000000):Fn Tryz.prog 87 [Str s,Str [c]] [] (.tup [Str (cutB c s).1,Str (cutB c s).2.1,B (cutB c s).2.2]) []:=by
 have ci:=fn_Index1 s c;refine Fn.intro (ks:=[0,1,4,5,6,7,12]) hty rfl rfl rfl rfl rfl ?_;rcases indexByte_spec c s with ⟨h1,h2⟩ | ⟨p,r,h1,h2,h3⟩
 ·rw [show cutB c s=(s,[],false) by rw [cutB,h2];rfl];rw [h2] at ci;conv=>whnf
  refine VCall.of_data ci (nd _) ?_;conv=>whnf
  exact ⟨rfl,rfl,rfl,trivial,rfl⟩
 ·have hl:s.length=p.length+(r.length+1):=by rw [h1];simp
  have e:cutB c s=(p,r,true):=by
   rw [cutB,h3];show (s.take p.length,s.drop (p.length+1),true)=_;rw [h1];simp
  rw [e];rw [h3] at ci;conv=>whnf
  refine VCall.of_data ci (nd _) ?_;conv=>whnf
  refine VDraw.go hmo hty 12 [] rfl ?_;conv=>whnf
  refine ⟨⟨by omega,by omega,by rw [bsize];omega⟩,?_⟩;rw [bx,show s.take ((p.length:Nat):Int).toNat=p by rw [h1];simp,show p.drop (0:Int).toNat=p from rfl];conv=>whnf
  refine Wr.i64 (y:=((p.length+1:Nat):Int)) rfl (by omega) (by omega) ?_;conv=>whnf
  refine ⟨⟨by omega,by rw [bsize];omega,by rw [bsize];omega⟩,?_⟩;rw [bx,show (s.take (((⟨s.toArray⟩:ByteArray).size:Int).toNat)).drop (((p.length+1:Nat):Int).toNat)=r by
   rw [bsize,show ((s.length:Nat):Int).toNat=s.length from rfl,List.take_length,show ((p.length+1:Nat):Int).toNat=p.length+1 from rfl,h1];simp]
  conv=>whnf
  exact ⟨rfl,rfl,rfl,trivial,rfl⟩
theorem fn_Cut (s:List UInt8) (c:UInt8) (hs:s.length≤1000000000000):Fn Tryz.prog 66 [Str s,Str [c]] [] (.tup [Str (cutB c s).1,Str (cutB c s).2.1,B (cutB c s).2.2]) []:=by
 refine Fn.intro (ks:=[0,1,4,5,6]) hty rfl rfl rfl rfl rfl ?_
 conv=>whnf
 refine VCall.of_data (fn_slCut s c hs) (ndT (fun k=>rfl)) ?_
 conv=>whnf
 exact ⟨rfl,rfl,rfl,trivial,rfl⟩
end Go.V
namespace Go.V
open Go.Proofs Go.RowKit
set_option maxRecDepth 10000
set_option maxHeartbeats 1000000
theorem bloop (l:List UInt8):∀(n i:Nat) (r:List UInt8),l.length - i=n→ByteArray.toList.loop ⟨l.toArray⟩ i r=r.reverse++l.drop i:=by
 intro n;induction n with
 | zero =>
  intro i r h;unfold ByteArray.toList.loop;rw [if_neg (by show ¬i < l.length;omega),List.drop_of_length_le (by omega),List.append_nil]
 | succ n ih =>
  intro i r h;have hi:i < l.length:=by omega
  unfold ByteArray.toList.loop;rw [if_pos (show i < (⟨l.toArray⟩:ByteArray).size from hi),ih _ _ (by omega),List.drop_eq_getElem_cons hi];have:(⟨l.toArray⟩:ByteArray).get! i=l[i]:=by
   show l.toArray[i]! = l[i];simp [hi]
  rw [this];simp
theorem btl (l:List UInt8):(⟨l.toArray⟩:ByteArray).toList=l:=by
 unfold ByteArray.toList
 rw [bloop l _ 0 [] rfl];simp
theorem bnil (l:List UInt8):((⟨l.toArray⟩:ByteArray).toList == (⟨#[]⟩:ByteArray).toList)=decide (l=[]):=by
 rw [btl,show (⟨#[]⟩:ByteArray).toList=[] from btl []]
 cases l <;> rfl
theorem dv_bl {s:List UInt8} (h:∀b,b∈s→IsD b):bl (dv s)≤4*s.length:=by
 refine bl_le (Nat.lt_of_lt_of_le (dv_lt h) ?_)
 rw [Nat.pow_mul];exact Nat.pow_le_pow_left (by decide) _
theorem okN.dig {s:List UInt8} (h:okN s):∀b,b∈s→IsD b:=h.2.2.1
theorem fn_readNat (s:List UInt8) (hs:s.length≤1000000000000):Fn Tryz.prog 68 [Str s] [] (.tup [nI (if okN s then dv s else 0),B (decide (okN s))]) []:=by
 refine Fn.intro (ks:=[0,2,3,4,5,6,7,9,26,29,30,31,42,45,50,58,59,60]) hty rfl rfl rfl rfl rfl ?_;conv=>whnf
 refine Br.mk (fun h=>?_) (fun h=>?_)
 ·rw [bnil,decide_eq_true_eq] at h;have hno:¬okN s:=fun hok=>hok.1 h;conv=>whnf
  rw [if_neg hno,decide_eq_false hno];conv=>whnf
  exact ⟨rfl,trivial,rfl⟩
 ·rw [bnil,decide_eq_false_iff_not] at h;have hpos:0 < s.length:=List.length_pos_iff.2 h;conv=>whnf
  refine Br.mk (fun h2=>?_) (fun h2=>?_)
  ·have h2:200 < s.length:=by rw [bsize] at h2;simp only [decide_eq_true_eq] at h2;omega
   have hno:¬okN s:=fun hok=>by have:=hok.2.1;omega
   conv=>whnf
   rw [if_neg hno,decide_eq_false hno];conv=>whnf
   exact ⟨rfl,trivial,rfl⟩
  ·have h2:s.length≤200:=by rw [bsize] at h2;simp only [decide_eq_false_iff_not] at h2;omega
   conv=>whnf
   refine ⟨⟨by omega,by rw [bsize];omega⟩,?_⟩;conv=>whnf
   have hhead:s.head? = some (s.getD 0 0):=by cases s with
    | nil=>simp at hpos
    | cons x r=>rfl
   refine Br.mk (fun h3=>?_) (fun h3=>?_)
   ·have h3:s.getD 0 0=48:=by
     have h3':(((s.getD 0 0).toNat:Nat):Int)=48:=by simp only [decide_eq_true_eq] at h3;exact h3
     exact uint8_ext (by show (s.getD 0 0).toNat=48;omega)
    conv=>whnf
    refine Br.mk (fun h4=>?_) (fun h4=>?_)
    ·have h4:1 < s.length:=by rw [bsize] at h4;simp only [decide_eq_true_eq] at h4;omega
     have hno:¬okN s:=fun hok=>by
      rcases hok.2.2.2 with h5 | h5
      ·omega
      ·rw [hhead,h3] at h5;exact h5 rfl
     conv=>whnf
     rw [if_neg hno,decide_eq_false hno];conv=>whnf
     exact ⟨rfl,trivial,rfl⟩
    ·have hlz:s.length=1∨s.head? ≠ some 48:=.inl (by rw [bsize] at h4;simp only [decide_eq_false_iff_not] at h4;omega);conv=>whnf
     refine VLoop.invX hty (S:=Nat) (E:=Unit) [] [] 0 (fun i=>[(30,I i),(29,I s.length),(4,.ls 27 0 0 1),(0,Str s)]) (fun _=>[(27,.row true 1 [])]) (fun i=>i≤s.length∧∀k,k < i→IsD (s.getD k 0)) (fun i=>s.length - i)
      (fun _=>[(4,.ls 27 0 0 1),(0,Str s)]) (fun _=>[(27,.row true 1 [])]) (fun _=>∀b,b∈s→IsD b) 0 ⟨Nat.zero_le _,fun k h=>absurd h (Nat.not_lt_zero k)⟩ ⟨rfl,rfl,rfl,rfl,trivial⟩ ⟨rfl,trivial⟩ ?_ ?_
     ·rintro i ⟨hi,hk⟩;obtain ⟨b,eb⟩:∃b,s.getD i 0=b:=⟨_,rfl⟩;conv=>whnf
      refine Br.mk (fun h5=>?_) (fun h5=>?_)
      ·have h5:i < s.length:=by simp only [decide_eq_true_eq] at h5;omega
       have hbm:b∈s:=by rw [←eb,gD,List.getElem?_eq_getElem h5];exact List.getElem_mem h5
       conv=>whnf
       refine ⟨⟨by omega,by rw [bsize];omega⟩,?_⟩;rw [show (⟨s.toArray⟩:ByteArray).data.toList.getD ((i:Nat):Int).toNat 0=b from eb];conv=>whnf
       refine Br.mk (fun h6=>?_) (fun h6=>?_)
       ·have h6:b.toNat < 48:=by simp only [decide_eq_true_eq] at h6;omega
        have hno:¬okN s:=fun hok=>by have:=(hok.dig b hbm).1;omega
        conv=>whnf
        rw [if_neg hno,decide_eq_false hno];conv=>whnf
        exact ⟨rfl,trivial,rfl⟩
       ·have h6:¬b.toNat < 48:=by simp only [decide_eq_false_iff_not] at h6;omega
        conv=>whnf
        refine ⟨⟨by omega,by rw [bsize];omega⟩,?_⟩;rw [show (⟨s.toArray⟩:ByteArray).data.toList.getD ((i:Nat):Int).toNat 0=b from eb];conv=>whnf
        refine Br.mk (fun h7=>?_) (fun h7=>?_)
        ·have h7:57 < b.toNat:=by simp only [decide_eq_true_eq] at h7;omega
         have hno:¬okN s:=fun hok=>by have:=(hok.dig b hbm).2;omega
         conv=>whnf
         rw [if_neg hno,decide_eq_false hno];conv=>whnf
         exact ⟨rfl,trivial,rfl⟩
        ·have h7:¬57 < b.toNat:=by simp only [decide_eq_false_iff_not] at h7;omega
         conv=>whnf
         refine Wr.i64 (y:=((i+1:Nat):Int)) (by omega) (by omega) (by omega) ?_;conv=>whnf
         refine ⟨i+1,⟨h5,fun k hki=>?_⟩,by show s.length - (i+1) < s.length - i;omega,⟨rfl,rfl,rfl,rfl,trivial⟩,rfl,trivial⟩;rcases Nat.lt_or_ge k i with h8 | h8
         ·exact hk k h8
         ·rw [show k=i by omega,eb];exact ⟨by omega,by omega⟩
      ·have h5:i=s.length:=by simp only [decide_eq_false_iff_not] at h5;omega
       conv=>whnf
       refine ⟨rfl,(),fun b hb=>?_,⟨rfl,rfl,trivial⟩,rfl,trivial⟩;obtain ⟨k,hk1,hk2⟩:=List.mem_iff_getElem.1 hb;have:=hk k (by omega);rw [gD,List.getElem?_eq_getElem hk1] at this;simpa [hk2] using this
     ·rintro _ hdig;have hok:okN s:=⟨h,h2,hdig,hlz⟩;have hbl:∀m,m≤s.length→bl (dv (s.take m))≤800:=fun m hm=>by
       have h1:=dv_bl (s:=s.take m) fun b hb=>hdig b (List.mem_of_mem_take hb);rw [List.length_take] at h1;omega
      rw [if_pos hok,decide_eq_true hok];conv=>whnf
      refine VLoop.frz (t':=[(4,nI (dv (s.take 0))),(0,Str (s.drop 0))]) 27 rfl ⟨rfl,.inr ⟨rfl,rfl,Nat.le_refl _,rfl⟩,rfl,.inl rfl,trivial⟩ ?_;refine VLoop.invX hty (S:=Nat) (E:=Unit) [] [] 2 (fun m=>[(4,nI (dv (s.take m))),(0,Str (s.drop m))]) (fun _=>[]) (fun m=>m≤s.length) (fun m=>s.length - m)
       (fun _=>[(4,nI (dv s))]) (fun _=>[]) (fun _=>True) 0 (Nat.zero_le _) ⟨rfl,rfl,trivial⟩ trivial ?_ ?_
      ·intro m hm;obtain ⟨r,er⟩:∃r,s.drop m=r:=⟨_,rfl⟩;have hrl:r.length=s.length - m:=by rw [←er,List.length_drop]
       have hrd:∀b,b∈r→IsD b:=fun b hb=>hdig b (List.mem_of_mem_drop (by rw [er];exact hb));rw [er];conv=>whnf
       refine Br.mk (fun h5=>?_) (fun h5=>?_)
       ·have h5:r≠[]:=by rw [bnil] at h5;simpa using h5
        have hL:0 < r.length:=List.length_pos_iff.2 h5;have emod:Int.tmod (((⟨r.toArray⟩:ByteArray).size:Nat):Int) 9=((r.length % 9:Nat):Int):=by rw [bsize];exact (Int.ofNat_tmod r.length 9).symm
        conv=>whnf
        refine ⟨by decide,?_⟩;rw [emod];conv=>whnf
        refine Br.mk (fun h6=>?_) (fun h6=>?_)
        case' refine_1 =>
         have h6:r.length % 9=0:=by simp only [decide_eq_true_eq] at h6;omega
         obtain ⟨n,hn1,hn2,hn3,en⟩:∃n:Nat,1≤n∧n≤9∧n≤r.length∧(9:Int)=n:=⟨9,by decide,by decide,by omega,rfl⟩;rw [en]
        case' refine_2 =>
         have h6:¬r.length % 9=0:=by simp only [decide_eq_false_iff_not] at h6;omega
         obtain ⟨n,hn1,hn2,hn3,en⟩:∃n:Nat,1≤n∧n≤9∧n≤r.length∧r.length % 9=n:=⟨r.length % 9,by omega,by omega,by omega,rfl⟩;rw [en]
        all_goals
         have hpl:(r.take n).length=n:=by rw [List.length_take];omega
         have cp:=fn_ParseUint (r.take n) (fun b hb=>hrd b (List.mem_of_mem_take hb)) (by intro e;rw [e] at hpl;simp at hpl;omega) (by omega);have hdn:dv (r.take n) < 10 ^ n:=by have h9:=dv_lt (s:=r.take n) fun b hb=>hrd b (List.mem_of_mem_take hb);rwa [hpl] at h9
         have h10n:(10:Nat) ^ n≤10 ^ 9:=Nat.pow_le_pow_right (by decide) hn2;have h109:(10:Nat) ^ 9=1000000000:=by decide
         have hnew:dv (s.take (m+n))=dv (s.take m)*10 ^ n+dv (r.take n):=by
          have h9:=dv_part (s:=s) (lo:=m) (hi:=m+n) (by omega) (by omega);rw [show m+n - m=n by omega,er] at h9;exact h9
         have hnewd:s.drop (m+n)=r.drop n:=by rw [←er,List.drop_drop]
         have hblN:=hbl m hm;obtain ⟨v,ev⟩:∃v,dv (r.take n)=v:=⟨_,rfl⟩;rw [ev] at cp hdn hnew;obtain ⟨N,eN⟩:∃v,dv (s.take m)=v:=⟨_,rfl⟩;rw [eN] at hnew hblN;rw [eN];obtain ⟨T,eT⟩:∃v,(10:Nat) ^ n=v:=⟨_,rfl⟩;rw [eT] at hnew h10n hdn;have hblT:bl T≤64:=bl_le (Nat.lt_of_le_of_lt h10n (by decide));have hblv:bl v≤64:=bl_le (Nat.lt_trans hdn (Nat.lt_of_le_of_lt h10n (by decide)));have hblNT:=bl_mul N T;have cT:=fn_natOf T (by omega);have cV:=fn_natOf v (by omega);have cM:=fn_mul N T (by omega) (by omega);have cA:=fn_add (N*T) v (by omega) (by omega);rw [←hnew] at cA;conv=>whnf
         refine ⟨⟨by omega,by omega,by rw [bsize];omega⟩,?_⟩;rw [bx,show (r.take ((n:Nat):Int).toNat).drop (0:Int).toNat=r.take n from rfl];conv=>whnf
         refine VCall.of_data cp (ndT (fun k=>rfl)) ?_;conv=>whnf
         refine VLoop.invX hty (S:=Nat) (E:=Unit) [] [] 4 (fun k=>[(59,I k),(58,I n),(9,N64 (10 ^ k)),(7,N64 v),(6,I n),(4,nI N),(0,Str r)]) (fun _=>[]) (fun k=>k≤n) (fun k=>n - k)
          (fun _=>[(9,N64 T),(7,N64 v),(6,I n),(4,nI N),(0,Str r)]) (fun _=>[]) (fun _=>True) 0 (Nat.zero_le _) ⟨rfl,rfl,rfl,rfl,rfl,rfl,rfl,trivial⟩ trivial ?_ ?_
         ·intro k hk;conv=>whnf
          refine Br.mk (fun h7=>?_) (fun h7=>?_)
          ·have h7:k < n:=by simp only [decide_eq_true_eq] at h7;omega
           have h10:(10:Nat) ^ (k+1)≤10 ^ 9:=Nat.pow_le_pow_right (by decide) (by omega);have ep:(10:Nat) ^ (k+1)=10 ^ k*10:=Nat.pow_succ ..;obtain ⟨x,ex⟩:∃v,(10:Nat) ^ k=v:=⟨_,rfl⟩;obtain ⟨y,ey⟩:∃v,(10:Nat) ^ (k+1)=v:=⟨_,rfl⟩;rw [ex,ey] at ep;rw [ey] at h10;rw [ex];conv=>whnf
           refine Wr.n64 (n:=y) (by rw [ep];exact (Int.natCast_mul _ _).symm) (by omega) ?_;conv=>whnf
           refine Wr.i64 (y:=((k+1:Nat):Int)) rfl (by omega) (by omega) ?_;conv=>whnf
           exact ⟨k+1,h7,by show n - (k+1) < n - k;omega,⟨rfl,rfl,by show AV.d (.s (.int .u64 (y:Int)))=N64 (10 ^ (k+1));rw [ey],rfl,rfl,rfl,rfl,trivial⟩,trivial⟩
          ·have h7:k=n:=by simp only [decide_eq_false_iff_not] at h7;omega
           rw [h7,eT];conv=>whnf
           exact ⟨rfl,(),trivial,⟨rfl,rfl,rfl,rfl,rfl,trivial⟩,trivial⟩
         ·rintro _ _;conv=>whnf
          refine VDraw.goS hmo hty [0,1,4,7,8] rfl ?_;have hchk:0≤(n:Int)∧(n:Int)≤(((⟨r.toArray⟩:ByteArray).size:Nat):Int)∧(((⟨r.toArray⟩:ByteArray).size:Nat):Int)≤(((⟨r.toArray⟩:ByteArray).size:Nat):Int):=⟨by omega,by rw [bsize];omega,Int.le_refl _⟩;have hsl:(⟨r.toArray⟩:ByteArray).extract ((n:Nat):Int).toNat ((((⟨r.toArray⟩:ByteArray).size:Nat):Int)).toNat=⟨(r.drop n).toArray⟩:=by
           rw [bx,bsize];show (⟨((r.take r.length).drop n).toArray⟩:ByteArray)=_;rw [List.take_length]
          conv=>whnf
          repeat' (first
           | (refine VCall.of_data cT (nd _) ?_;conv=>whnf)
           | (refine VCall.of_data cM (nd _) ?_;conv=>whnf)
           | (refine VCall.of_data cV (nd _) ?_;conv=>whnf)
           | (refine VCall.of_data cA (nd _) ?_;conv=>whnf)
           | (refine ⟨hchk,?_⟩;rw [hsl];conv=>whnf)
           | exact ⟨m+n,by omega,by show s.length - (m+n) < s.length - m;omega,⟨rfl,congrArg (fun x:List UInt8=>Str x) hnewd.symm,trivial⟩,trivial⟩
           | (refine ⟨?_,?_⟩ <;> conv=>whnf))
       ·have h5:r=[]:=by rw [bnil] at h5;simpa using h5
        have e:s.take m=s:=List.take_of_length_le (by have h9:=hrl;rw [h5,List.length_nil] at h9;omega);rw [e];conv=>whnf
        exact ⟨rfl,(),trivial,⟨rfl,trivial⟩,trivial⟩
      ·rintro _ _;conv=>whnf
       exact ⟨rfl,rfl,trivial,rfl⟩
   ·have hlz:s.length=1∨s.head? ≠ some 48:=.inr (by
     rw [hhead];intro e;have e1:s.getD 0 0=48:=Option.some.inj e;have h3':¬(((s.getD 0 0).toNat:Nat):Int)=48:=by simp only [decide_eq_false_iff_not] at h3;exact h3
     rw [e1] at h3';exact h3' rfl)
    conv=>whnf
    refine VLoop.invX hty (S:=Nat) (E:=Unit) [] [] 0 (fun i=>[(30,I i),(29,I s.length),(4,.ls 27 0 0 1),(0,Str s)]) (fun _=>[(27,.row true 1 [])]) (fun i=>i≤s.length∧∀k,k < i→IsD (s.getD k 0)) (fun i=>s.length - i)
     (fun _=>[(4,.ls 27 0 0 1),(0,Str s)]) (fun _=>[(27,.row true 1 [])]) (fun _=>∀b,b∈s→IsD b) 0 ⟨Nat.zero_le _,fun k h=>absurd h (Nat.not_lt_zero k)⟩ ⟨rfl,rfl,rfl,rfl,trivial⟩ ⟨rfl,trivial⟩ ?_ ?_
    ·rintro i ⟨hi,hk⟩;obtain ⟨b,eb⟩:∃b,s.getD i 0=b:=⟨_,rfl⟩;conv=>whnf
     refine Br.mk (fun h5=>?_) (fun h5=>?_)
     ·have h5:i < s.length:=by simp only [decide_eq_true_eq] at h5;omega
      have hbm:b∈s:=by rw [←eb,gD,List.getElem?_eq_getElem h5];exact List.getElem_mem h5
      conv=>whnf
      refine ⟨⟨by omega,by rw [bsize];omega⟩,?_⟩;rw [show (⟨s.toArray⟩:ByteArray).data.toList.getD ((i:Nat):Int).toNat 0=b from eb];conv=>whnf
      refine Br.mk (fun h6=>?_) (fun h6=>?_)
      ·have h6:b.toNat < 48:=by simp only [decide_eq_true_eq] at h6;omega
       have hno:¬okN s:=fun hok=>by have:=(hok.dig b hbm).1;omega
       conv=>whnf
       rw [if_neg hno,decide_eq_false hno];conv=>whnf
       exact ⟨rfl,trivial,rfl⟩
      ·have h6:¬b.toNat < 48:=by simp only [decide_eq_false_iff_not] at h6;omega
       conv=>whnf
       refine ⟨⟨by omega,by rw [bsize];omega⟩,?_⟩;rw [show (⟨s.toArray⟩:ByteArray).data.toList.getD ((i:Nat):Int).toNat 0=b from eb];conv=>whnf
       refine Br.mk (fun h7=>?_) (fun h7=>?_)
       ·have h7:57 < b.toNat:=by simp only [decide_eq_true_eq] at h7;omega
        have hno:¬okN s:=fun hok=>by have:=(hok.dig b hbm).2;omega
        conv=>whnf
        rw [if_neg hno,decide_eq_false hno];conv=>whnf
        exact ⟨rfl,trivial,rfl⟩
       ·have h7:¬57 < b.toNat:=by simp only [decide_eq_false_iff_not] at h7;omega
        conv=>whnf
        refine Wr.i64 (y:=((i+1:Nat):Int)) (by omega) (by omega) (by omega) ?_;conv=>whnf
        refine ⟨i+1,⟨h5,fun k hki=>?_⟩,by show s.length - (i+1) < s.length - i;omega,⟨rfl,rfl,rfl,rfl,trivial⟩,rfl,trivial⟩;rcases Nat.lt_or_ge k i with h8 | h8
        ·exact hk k h8
        ·rw [show k=i by omega,eb];exact ⟨by omega,by omega⟩
     ·have h5:i=s.length:=by simp only [decide_eq_false_iff_not] at h5;omega
      conv=>whnf
      refine ⟨rfl,(),fun b hb=>?_,⟨rfl,rfl,trivial⟩,rfl,trivial⟩;obtain ⟨k,hk1,hk2⟩:=List.mem_iff_getElem.1 hb;have:=hk k (by omega);rw [gD,List.getElem?_eq_getElem hk1] at this;simpa [hk2] using this
    ·rintro _ hdig;have hok:okN s:=⟨h,h2,hdig,hlz⟩;have hbl:∀m,m≤s.length→bl (dv (s.take m))≤800:=fun m hm=>by
      have h1:=dv_bl (s:=s.take m) fun b hb=>hdig b (List.mem_of_mem_take hb);rw [List.length_take] at h1;omega
     rw [if_pos hok,decide_eq_true hok];conv=>whnf
     refine VLoop.frz (t':=[(4,nI (dv (s.take 0))),(0,Str (s.drop 0))]) 27 rfl ⟨rfl,.inr ⟨rfl,rfl,Nat.le_refl _,rfl⟩,rfl,.inl rfl,trivial⟩ ?_;refine VLoop.invX hty (S:=Nat) (E:=Unit) [] [] 2 (fun m=>[(4,nI (dv (s.take m))),(0,Str (s.drop m))]) (fun _=>[]) (fun m=>m≤s.length) (fun m=>s.length - m)
      (fun _=>[(4,nI (dv s))]) (fun _=>[]) (fun _=>True) 0 (Nat.zero_le _) ⟨rfl,rfl,trivial⟩ trivial ?_ ?_
     ·intro m hm;obtain ⟨r,er⟩:∃r,s.drop m=r:=⟨_,rfl⟩;have hrl:r.length=s.length - m:=by rw [←er,List.length_drop]
      have hrd:∀b,b∈r→IsD b:=fun b hb=>hdig b (List.mem_of_mem_drop (by rw [er];exact hb));rw [er];conv=>whnf
      refine Br.mk (fun h5=>?_) (fun h5=>?_)
      ·have h5:r≠[]:=by rw [bnil] at h5;simpa using h5
       have hL:0 < r.length:=List.length_pos_iff.2 h5;have emod:Int.tmod (((⟨r.toArray⟩:ByteArray).size:Nat):Int) 9=((r.length % 9:Nat):Int):=by rw [bsize];exact (Int.ofNat_tmod r.length 9).symm
       conv=>whnf
       refine ⟨by decide,?_⟩;rw [emod];conv=>whnf
       refine Br.mk (fun h6=>?_) (fun h6=>?_)
       case' refine_1 =>
        have h6:r.length % 9=0:=by simp only [decide_eq_true_eq] at h6;omega
        obtain ⟨n,hn1,hn2,hn3,en⟩:∃n:Nat,1≤n∧n≤9∧n≤r.length∧(9:Int)=n:=⟨9,by decide,by decide,by omega,rfl⟩;rw [en]
       case' refine_2 =>
        have h6:¬r.length % 9=0:=by simp only [decide_eq_false_iff_not] at h6;omega
        obtain ⟨n,hn1,hn2,hn3,en⟩:∃n:Nat,1≤n∧n≤9∧n≤r.length∧r.length % 9=n:=⟨r.length % 9,by omega,by omega,by omega,rfl⟩;rw [en]
       all_goals
        have hpl:(r.take n).length=n:=by rw [List.length_take];omega
        have cp:=fn_ParseUint (r.take n) (fun b hb=>hrd b (List.mem_of_mem_take hb)) (by intro e;rw [e] at hpl;simp at hpl;omega) (by omega);have hdn:dv (r.take n) < 10 ^ n:=by have h9:=dv_lt (s:=r.take n) fun b hb=>hrd b (List.mem_of_mem_take hb);rwa [hpl] at h9
        have h10n:(10:Nat) ^ n≤10 ^ 9:=Nat.pow_le_pow_right (by decide) hn2;have h109:(10:Nat) ^ 9=1000000000:=by decide
        have hnew:dv (s.take (m+n))=dv (s.take m)*10 ^ n+dv (r.take n):=by
         have h9:=dv_part (s:=s) (lo:=m) (hi:=m+n) (by omega) (by omega);rw [show m+n - m=n by omega,er] at h9;exact h9
        have hnewd:s.drop (m+n)=r.drop n:=by rw [←er,List.drop_drop]
        have hblN:=hbl m hm;obtain ⟨v,ev⟩:∃v,dv (r.take n)=v:=⟨_,rfl⟩;rw [ev] at cp hdn hnew;obtain ⟨N,eN⟩:∃v,dv (s.take m)=v:=⟨_,rfl⟩;rw [eN] at hnew hblN;rw [eN];obtain ⟨T,eT⟩:∃v,(10:Nat) ^ n=v:=⟨_,rfl⟩;rw [eT] at hnew h10n hdn;have hblT:bl T≤64:=bl_le (Nat.lt_of_le_of_lt h10n (by decide));have hblv:bl v≤64:=bl_le (Nat.lt_trans hdn (Nat.lt_of_le_of_lt h10n (by decide)));have hblNT:=bl_mul N T;have cT:=fn_natOf T (by omega);have cV:=fn_natOf v (by omega);have cM:=fn_mul N T (by omega) (by omega);have cA:=fn_add (N*T) v (by omega) (by omega);rw [←hnew] at cA;conv=>whnf
        refine ⟨⟨by omega,by omega,by rw [bsize];omega⟩,?_⟩;rw [bx,show (r.take ((n:Nat):Int).toNat).drop (0:Int).toNat=r.take n from rfl];conv=>whnf
        refine VCall.of_data cp (ndT (fun k=>rfl)) ?_;conv=>whnf
        refine VLoop.invX hty (S:=Nat) (E:=Unit) [] [] 4 (fun k=>[(59,I k),(58,I n),(9,N64 (10 ^ k)),(7,N64 v),(6,I n),(4,nI N),(0,Str r)]) (fun _=>[]) (fun k=>k≤n) (fun k=>n - k)
         (fun _=>[(9,N64 T),(7,N64 v),(6,I n),(4,nI N),(0,Str r)]) (fun _=>[]) (fun _=>True) 0 (Nat.zero_le _) ⟨rfl,rfl,rfl,rfl,rfl,rfl,rfl,trivial⟩ trivial ?_ ?_
        ·intro k hk;conv=>whnf
         refine Br.mk (fun h7=>?_) (fun h7=>?_)
         ·have h7:k < n:=by simp only [decide_eq_true_eq] at h7;omega
          have h10:(10:Nat) ^ (k+1)≤10 ^ 9:=Nat.pow_le_pow_right (by decide) (by omega);have ep:(10:Nat) ^ (k+1)=10 ^ k*10:=Nat.pow_succ ..;obtain ⟨x,ex⟩:∃v,(10:Nat) ^ k=v:=⟨_,rfl⟩;obtain ⟨y,ey⟩:∃v,(10:Nat) ^ (k+1)=v:=⟨_,rfl⟩;rw [ex,ey] at ep;rw [ey] at h10;rw [ex];conv=>whnf
          refine Wr.n64 (n:=y) (by rw [ep];exact (Int.natCast_mul _ _).symm) (by omega) ?_;conv=>whnf
          refine Wr.i64 (y:=((k+1:Nat):Int)) rfl (by omega) (by omega) ?_;conv=>whnf
          exact ⟨k+1,h7,by show n - (k+1) < n - k;omega,⟨rfl,rfl,by show AV.d (.s (.int .u64 (y:Int)))=N64 (10 ^ (k+1));rw [ey],rfl,rfl,rfl,rfl,trivial⟩,trivial⟩
         ·have h7:k=n:=by simp only [decide_eq_false_iff_not] at h7;omega
          rw [h7,eT];conv=>whnf
          exact ⟨rfl,(),trivial,⟨rfl,rfl,rfl,rfl,rfl,trivial⟩,trivial⟩
        ·rintro _ _;conv=>whnf
         refine VDraw.goS hmo hty [0,1,4,7,8] rfl ?_;have hchk:0≤(n:Int)∧(n:Int)≤(((⟨r.toArray⟩:ByteArray).size:Nat):Int)∧(((⟨r.toArray⟩:ByteArray).size:Nat):Int)≤(((⟨r.toArray⟩:ByteArray).size:Nat):Int):=⟨by omega,by rw [bsize];omega,Int.le_refl _⟩;have hsl:(⟨r.toArray⟩:ByteArray).extract ((n:Nat):Int).toNat ((((⟨r.toArray⟩:ByteArray).size:Nat):Int)).toNat=⟨(r.drop n).toArray⟩:=by
          rw [bx,bsize];show (⟨((r.take r.length).drop n).toArray⟩:ByteArray)=_;rw [List.take_length]
         conv=>whnf
         repeat' (first
          | (refine VCall.of_data cT (nd _) ?_;conv=>whnf)
          | (refine VCall.of_data cM (nd _) ?_;conv=>whnf)
          | (refine VCall.of_data cV (nd _) ?_;conv=>whnf)
          | (refine VCall.of_data cA (nd _) ?_;conv=>whnf)
          | (refine ⟨hchk,?_⟩;rw [hsl];conv=>whnf)
          | exact ⟨m+n,by omega,by show s.length - (m+n) < s.length - m;omega,⟨rfl,congrArg (fun x:List UInt8=>Str x) hnewd.symm,trivial⟩,trivial⟩
          | (refine ⟨?_,?_⟩ <;> conv=>whnf))
      ·have h5:r=[]:=by rw [bnil] at h5;simpa using h5
       have e:s.take m=s:=List.take_of_length_le (by have h9:=hrl;rw [h5,List.length_nil] at h9;omega);rw [e];conv=>whnf
       exact ⟨rfl,(),trivial,⟨rfl,trivial⟩,trivial⟩
     ·rintro _ _;conv=>whnf
      exact ⟨rfl,rfl,trivial,rfl⟩
theorem okN.bl {s:List UInt8} (h:okN s):bl (dv s)≤800:=by
 have h1:=dv_bl h.dig
 have:=h.2.1
 omega
def rdRat (s:List UInt8):Option Rat :=
 if ¬okN (Lib.trimPrefix (cutB 47 s).1 [45])∨(Lib.hasPrefix (cutB 47 s).1 [45]=true∧dv (Lib.trimPrefix (cutB 47 s).1 [45])=0) then none
 else if (cutB 47 s).2.2=false then some (mkRat (sgn (Lib.hasPrefix (cutB 47 s).1 [45]) (dv (Lib.trimPrefix (cutB 47 s).1 [45]))) 1)
 else if ¬okN (cutB 47 s).2.1∨dv (cutB 47 s).2.1≤1∨(dv (Lib.trimPrefix (cutB 47 s).1 [45])).gcd (dv (cutB 47 s).2.1)≠1 then none
 else some (mkRat (sgn (Lib.hasPrefix (cutB 47 s).1 [45]) (dv (Lib.trimPrefix (cutB 47 s).1 [45]))) (dv (cutB 47 s).2.1))
def rO:Option Rat→AV
 | some q=>rI q
 | none=>.ag [B false,nI 0,nI 0]
theorem cutB_len (c:UInt8) (s:List UInt8):(cutB c s).1.length≤s.length∧(cutB c s).2.1.length≤s.length:=by
 unfold cutB
 split
 ·simp only [List.length_take,List.length_drop];omega
 ·simp
theorem trim_len (s p:List UInt8):(Lib.trimPrefix s p).length≤s.length:=by
 unfold Lib.trimPrefix
 split
 ·rw [List.length_drop];omega
 ·exact Nat.le_refl _
theorem cmpZ_pos' {a b:Nat}:0 < cmpZ a b↔b < a:=by
 have h1:=cmpZ_neg (a:=a) (b:=b)
 have h2:=cmpZ_zero (a:=a) (b:=b)
 omega
theorem fn_readRat (s:List UInt8) (hs:s.length≤1000000000000):Fn Tryz.prog 45 [Str s] [] (.tup [rO (rdRat s),B (rdRat s).isSome]) []:=by
 have c1:=fn_Cut s 47 hs;have hcl:=cutB_len 47 s;unfold rdRat;obtain ⟨f,ef⟩:∃x,(cutB 47 s).1=x:=⟨_,rfl⟩;obtain ⟨g,eg⟩:∃x,(cutB 47 s).2.1=x:=⟨_,rfl⟩;obtain ⟨is,eis⟩:∃x,(cutB 47 s).2.2=x:=⟨_,rfl⟩;rw [ef,eg,eis] at c1;rw [ef,eg] at hcl;rw [ef,eg,eis];have c2:=fn_CutPrefix f [45];have htl:=trim_len f [45];obtain ⟨d,ed⟩:∃x,Lib.trimPrefix f [45]=x:=⟨_,rfl⟩;obtain ⟨neg,en⟩:∃x,Lib.hasPrefix f [45]=x:=⟨_,rfl⟩;rw [ed,en] at c2;rw [ed] at htl;rw [ed,en];have c3:=fn_readNat d (by omega);have c4:=fn_readNat g (by omega);refine Fn.intro (ks:=[0,2,3,4,5,6,7,8,9,10,11,12,13,14,40,47,61,69]) hty rfl rfl rfl rfl rfl ?_;by_cases hd:okN d
 ·rw [if_pos hd,decide_eq_true hd] at c3;conv=>whnf
  refine VCall.of_data c1 (ndT (fun k=>rfl)) ?_;conv=>whnf
  refine VCall.of_data c2 (ndT (fun k=>rfl)) ?_;conv=>whnf
  refine VCall.of_data c3 (ndT (fun k=>rfl)) ?_;conv=>whnf
  have hbd:=hd.bl;have hld:((cW .u32 (dg B32 (dv d))).length:Int)=(dg B32 (dv d)).length:=by rw [cW_len]
  have hzd:=dg_len_zero b32 (n:=dv d);have hnd:¬¬okN d:=fun h=>h hd;cases neg
  ·have hs0:dv d=0→false=false:=fun _=>rfl;have hno:¬(¬okN d∨false=true∧dv d=0):=by rintro (h | ⟨h,_⟩);exact h hd;cases h
   rw [if_neg hno];conv=>whnf
   refine VCall.of_data (fn_natOf 1 (by omega)) (nd _) ?_;cases is
   ·rw [if_pos rfl];obtain ⟨p1,p2,p3⟩:=parts_of (s:=false) (t:=dv d) (b:=1) (by decide) (Nat.gcd_one_right _) hs0;rw [show rO (some (mkRat (sgn false (dv d)) 1)) = .ag [B false,nI (dv d),nI 1] by rw [rO,rI,p1,p2,p3]];conv=>whnf
    exact ⟨rfl,rfl,rfl,rfl,trivial,rfl⟩
   ·rw [if_neg (by decide)];conv=>whnf
    by_cases hg:okN g
    ·have hbg:=hg.bl;rw [if_pos hg,decide_eq_true hg] at c4;refine VCall.of_data c4 (ndT (fun k=>rfl)) ?_;conv=>whnf
     refine VCall.of_data (fn_natOf 1 (by omega)) (nd _) ?_;conv=>whnf
     refine VCall.of_data (fn_cmp (dv g) 1 (by omega) (by decide)) (nd _) ?_;conv=>whnf
     refine Br.mk (fun h7=>?_) (fun h7=>?_)
     ·have h7:dv g≤1:=by
       simp only [decide_eq_true_eq] at h7;have:=cmpZ_pos' (a:=dv g) (b:=1);omega
      rw [if_pos (.inr (.inl h7))];conv=>whnf
      exact ⟨rfl,rfl,trivial,rfl⟩
     ·have h7:¬dv g≤1:=by
       simp only [decide_eq_false_iff_not] at h7;have:=cmpZ_pos' (a:=dv g) (b:=1);omega
      have cg:=fn_gcd (dv d) (dv g) (by omega) (by omega);have hbgc:bl ((dv d).gcd (dv g))≤800:=Nat.le_trans (bl_mono (Nat.gcd_le_right _ (by omega))) hbg;conv=>whnf
      refine VCall.of_data cg (nd _) ?_;conv=>whnf
      refine VCall.of_data (fn_natOf 1 (by omega)) (nd _) ?_;conv=>whnf
      refine VCall.of_data (fn_cmp ((dv d).gcd (dv g)) 1 (by omega) (by decide)) (nd _) ?_;conv=>whnf
      refine Br.mk (fun h8=>?_) (fun h8=>?_)
      ·have h8:(dv d).gcd (dv g)≠1:=fun e=>by rw [cmpZ_zero.2 e] at h8;exact absurd h8 (by decide)
       rw [if_pos (.inr (.inr h8))];conv=>whnf
       exact ⟨rfl,rfl,trivial,rfl⟩
      ·have h8:(dv d).gcd (dv g)=1:=cmpZ_zero.1 (by simpa using h8);rw [if_neg (by rintro (h9 | h9 | h9);exact h9 hg;exact h7 h9;exact h9 h8)];obtain ⟨p1,p2,p3⟩:=parts_of (s:=false) (t:=dv d) (b:=dv g) (by omega) h8 hs0;rw [show rO (some (mkRat (sgn false (dv d)) (dv g))) = .ag [B false,nI (dv d),nI (dv g)] by rw [rO,rI,p1,p2,p3]];conv=>whnf
       exact ⟨rfl,rfl,rfl,rfl,trivial,rfl⟩
    ·rw [if_neg hg,decide_eq_false hg] at c4;rw [if_pos (.inl hg)];refine VCall.of_data c4 (ndT (fun k=>rfl)) ?_;conv=>whnf
     conv=>whnf
     exact ⟨rfl,rfl,trivial,rfl⟩
  ·conv=>whnf
   refine Br.mk (fun h=>?_) (fun h=>?_)
   ·have h0:dv d=0:=by simp only [decide_eq_true_eq] at h;exact hzd.1 (by omega)
    rw [if_pos (.inr ⟨rfl,h0⟩)];conv=>whnf
    exact ⟨rfl,rfl,trivial,rfl⟩
   ·have h0:dv d≠0:=fun e=>by simp only [decide_eq_false_iff_not] at h;have:=hzd.2 e;omega
    have hs0:dv d=0→true=false:=fun e=>absurd e h0;have hno:¬(¬okN d∨true=true∧dv d=0):=by rintro (h | ⟨_,h⟩);exact hnd h;exact h0 h
    rw [if_neg hno];conv=>whnf
    refine VCall.of_data (fn_natOf 1 (by omega)) (nd _) ?_;cases is
    ·rw [if_pos rfl];obtain ⟨p1,p2,p3⟩:=parts_of (s:=true) (t:=dv d) (b:=1) (by decide) (Nat.gcd_one_right _) hs0;rw [show rO (some (mkRat (sgn true (dv d)) 1)) = .ag [B true,nI (dv d),nI 1] by rw [rO,rI,p1,p2,p3]];conv=>whnf
     exact ⟨rfl,rfl,rfl,rfl,trivial,rfl⟩
    ·rw [if_neg (by decide)];conv=>whnf
     by_cases hg:okN g
     ·have hbg:=hg.bl;rw [if_pos hg,decide_eq_true hg] at c4;refine VCall.of_data c4 (ndT (fun k=>rfl)) ?_;conv=>whnf
      refine VCall.of_data (fn_natOf 1 (by omega)) (nd _) ?_;conv=>whnf
      refine VCall.of_data (fn_cmp (dv g) 1 (by omega) (by decide)) (nd _) ?_;conv=>whnf
      refine Br.mk (fun h7=>?_) (fun h7=>?_)
      ·have h7:dv g≤1:=by
        simp only [decide_eq_true_eq] at h7;have:=cmpZ_pos' (a:=dv g) (b:=1);omega
       rw [if_pos (.inr (.inl h7))];conv=>whnf
       exact ⟨rfl,rfl,trivial,rfl⟩
      ·have h7:¬dv g≤1:=by
        simp only [decide_eq_false_iff_not] at h7;have:=cmpZ_pos' (a:=dv g) (b:=1);omega
       have cg:=fn_gcd (dv d) (dv g) (by omega) (by omega);have hbgc:bl ((dv d).gcd (dv g))≤800:=Nat.le_trans (bl_mono (Nat.gcd_le_right _ (by omega))) hbg;conv=>whnf
       refine VCall.of_data cg (nd _) ?_;conv=>whnf
       refine VCall.of_data (fn_natOf 1 (by omega)) (nd _) ?_;conv=>whnf
       refine VCall.of_data (fn_cmp ((dv d).gcd (dv g)) 1 (by omega) (by decide)) (nd _) ?_;conv=>whnf
       refine Br.mk (fun h8=>?_) (fun h8=>?_)
       ·have h8:(dv d).gcd (dv g)≠1:=fun e=>by rw [cmpZ_zero.2 e] at h8;exact absurd h8 (by decide)
        rw [if_pos (.inr (.inr h8))];conv=>whnf
        exact ⟨rfl,rfl,trivial,rfl⟩
       ·have h8:(dv d).gcd (dv g)=1:=cmpZ_zero.1 (by simpa using h8);rw [if_neg (by rintro (h9 | h9 | h9);exact h9 hg;exact h7 h9;exact h9 h8)];obtain ⟨p1,p2,p3⟩:=parts_of (s:=true) (t:=dv d) (b:=dv g) (by omega) h8 hs0;rw [show rO (some (mkRat (sgn true (dv d)) (dv g))) = .ag [B true,nI (dv d),nI (dv g)] by rw [rO,rI,p1,p2,p3]];conv=>whnf
        exact ⟨rfl,rfl,rfl,rfl,trivial,rfl⟩
     ·rw [if_neg hg,decide_eq_false hg] at c4;rw [if_pos (.inl hg)];refine VCall.of_data c4 (ndT (fun k=>rfl)) ?_;conv=>whnf
      conv=>whnf
      exact ⟨rfl,rfl,trivial,rfl⟩
 ·rw [if_neg hd,decide_eq_false hd] at c3;rw [if_pos (.inl hd)];conv=>whnf
  refine VCall.of_data c1 (ndT (fun k=>rfl)) ?_;conv=>whnf
  refine VCall.of_data c2 (ndT (fun k=>rfl)) ?_;conv=>whnf
  refine VCall.of_data c3 (ndT (fun k=>rfl)) ?_;conv=>whnf
  exact ⟨rfl,rfl,trivial,rfl⟩
end Go.V
namespace Go.V
def allO {α β:Type} (f:α→Option β):List α→Option (List β)
 | []=>some []
 | x :: r=>match f x,allO f r with
  | some y,some ys=>some (y :: ys)
  | _,_=>none
theorem allO_none {α β:Type} {f:α→Option β}:∀{xs:List α} {x:α},x∈xs→f x=none→allO f xs=none
 | y :: r,x,hx,h=>by
  unfold allO
  rcases List.mem_cons.1 hx with rfl | hx
  ·rw [h]
  ·rw [allO_none hx h];cases f y <;> rfl
theorem allO_snoc {α β:Type} {f:α→Option β}:∀{xs:List α} {ys:List β} {x:α} {y:β},allO f xs=some ys→f x=some y→allO f (xs++[x])=some (ys++[y])
 | [],ys,x,y,h,hx=>by
  have:ys=[]:=by simpa [allO] using h.symm
  subst this;simp [allO,hx]
 | z :: r,ys,x,y,h,hx=>by
  unfold allO at h;split at h
  ·rename_i w ws hw hws;cases h;simp only [List.cons_append,allO,hw,allO_snoc hws hx]
  ·cases h
theorem allO_len {α β:Type} {f:α→Option β}:∀{xs:List α} {ys:List β},allO f xs=some ys→ys.length=xs.length
 | [],ys,h=>by
  have:ys=[]:=by simpa [allO] using h.symm
  subst this;rfl
 | z :: r,ys,h=>by
  unfold allO at h;split at h
  ·rename_i w ws hw hws;cases h;simp [allO_len hws]
  ·cases h
theorem allO_mem {α β:Type} {f:α→Option β}:∀{xs:List α} {ys:List β} {y:β},allO f xs=some ys→y∈ys→∃x,x∈xs∧f x=some y
 | [],ys,y,h,hy=>by
  have:ys=[]:=by simpa [allO] using h.symm
  subst this;simp at hy
 | z :: r,ys,y,h,hy=>by
  unfold allO at h;split at h
  ·rename_i w ws hw hws;cases h;rcases List.mem_cons.1 hy with rfl | hy
   ·exact ⟨z,by simp,hw⟩
   ·obtain ⟨x,h1,h2⟩:=allO_mem hws hy;exact ⟨x,by simp [h1],h2⟩
  ·cases h
end Go.V
namespace Go.V
open Go.Proofs Go.RowKit
set_option maxRecDepth 10000
set_option maxHeartbeats 1000000
theorem fn_in (n a b:Int):Fn Tryz.prog 19 [I n,I a,I b] [] (B (decide (a≤n) && decide (n≤b))) []:=by
 refine Fn.intro (ks:=[0,1,2,6]) hty rfl rfl rfl rfl rfl ?_
 conv=>whnf
 refine Br.mk (fun h=>?_) (fun h=>?_)
 ·rw [h]
  conv=>whnf
  exact ⟨rfl,trivial,rfl⟩
 ·rw [h]
  conv=>whnf
  exact ⟨rfl,trivial,rfl⟩
theorem fn_indexQ (g:Nat) (p:Rat→Bool) (xs:List Rat) (hl:xs.length≤1000000) (hg:∀x,x∈xs→Fn Tryz.prog g [rI x] [] (B (p x)) []) :
  Fn Tryz.prog 78 [lQ xs,.d (.fn g [])] [] (I (if xs.any p then xs.findIdx p else -1)) []:=by
 have hl2:((cQ xs).length:Int)=xs.length:=by rw [cQ_len]
 refine Fn.intro (ks:=[0,1,4,5,7,8,9,16]) hty rfl rfl rfl rfl rfl ?_;conv=>whnf
 refine VLoop.inv hty (S:=Nat) (fun k=>[(8,I k),(7,I xs.length),(0,lQ xs),(1,.d (.fn g []))]) (fun _=>[]) (fun k=>k≤xs.length∧∀j (h:j < xs.length),j < k→p xs[j]=false) (fun k=>xs.length - k) 0 ⟨Nat.zero_le _,fun j _ h=>by omega⟩ ⟨rfl,by show AV.d (.s (.int .i64 ((cQ xs).length:Int)))=_;rw [cQ_len],rfl,rfl,trivial⟩ trivial ?_;rintro k ⟨hk,hp⟩;conv=>whnf
 refine Br.mk (fun h=>?_) (fun h=>?_)
 ·have hk':k < xs.length:=by simp only [decide_eq_true_eq] at h;omega
  conv=>whnf
  refine ⟨⟨⟨by omega,by omega⟩,cQ_sz xs⟩,?_⟩;conv=>whnf
  refine ⟨_,cQ_get hk',?_⟩;conv=>whnf
  refine VCall.of_data (hg xs[k] (by simp)) (fun j h=>by cases h) ?_;conv=>whnf
  refine Br.mk (fun h2=>?_) (fun h2=>?_)
  ·conv=>whnf
   refine ⟨?_,trivial,rfl⟩;have h3:xs.any p=true:=List.any_eq_true.2 ⟨xs[k],by simp,h2⟩;have h4:xs.findIdx p=k:=(List.findIdx_eq hk').2 ⟨h2,fun j hj=>hp j (by omega) hj⟩;simp [h3,h4]
  ·conv=>whnf
   refine Wr.i64 (y:=((k+1:Nat):Int)) rfl (by omega) (by omega) ?_;conv=>whnf
   exact ⟨k+1,⟨hk',fun j hj hjk=>by
    rcases Nat.lt_or_ge j k with h5 | h5
    ·exact hp j hj h5
    ·have:j=k:=by omega
     subst this;exact h2⟩,by show xs.length - (k+1) < xs.length - k;omega,⟨rfl,rfl,rfl,rfl,trivial⟩,trivial⟩
 ·have hk':k=xs.length:=by simp only [decide_eq_false_iff_not] at h;omega
  conv=>whnf
  refine ⟨?_,trivial,rfl⟩;have h3:xs.any p=false:=List.any_eq_false.2 fun x hx=>by
   obtain ⟨j,hj,rfl⟩:=List.mem_iff_getElem.1 hx;simp [hp j hj (by omega)]
  simp [h3]
theorem fn_containsQ (g:Nat) (p:Rat→Bool) (xs:List Rat) (hl:xs.length≤1000000) (hg:∀x,x∈xs→Fn Tryz.prog g [rI x] [] (B (p x)) []) :
  Fn Tryz.prog 54 [lQ xs,.d (.fn g [])] [] (B (xs.any p)) []:=by
 refine Fn.intro (ks:=[0,1,4]) hty rfl rfl rfl rfl rfl ?_
 conv=>whnf
 refine VCall.of_data (fn_indexQ g p xs hl hg) (fun j h=>by cases h) ?_
 conv=>whnf
 refine ⟨?_,trivial,rfl⟩
 cases xs.any p <;> simp
def cT (xs:List (List UInt8)):List (List C):=xs.map fun s=>[.s (.string ⟨s.toArray⟩)]
theorem cT_len (xs:List (List UInt8)):(cT xs).length=xs.length:=by simp [cT]
theorem cT_sz (xs:List (List UInt8)):∀r,r∈cT xs→r.length=1:=by
 intro r hr;simp only [cT,List.mem_map] at hr;obtain ⟨n,_,rfl⟩:=hr;rfl
theorem cT_as {xs:List (List UInt8)} {i:Nat} {x:List UInt8} (h:i < xs.length) (e:xs.getD i []=x):(cT xs)[i]? = some [.s (.string ⟨x.toArray⟩)]:=by
 subst e;rw [gD,List.getElem?_eq_getElem h];simp [cT,h]
theorem cT_append (xs ys:List (List UInt8)):cT xs++cT ys=cT (xs++ys):=by simp [cT]
abbrev lT (xs:List (List UInt8)):AV:=.d (.sl (cT xs))
theorem rdRat_sz {s:List UInt8} {q:Rat} (h:rdRat s=some q):sz q≤800:=by
 unfold rdRat at h
 split at h
 ·cases h
 ·rename_i h1
  simp only [not_or,Classical.not_not] at h1
  have b1:=h1.1.bl
  split at h
  ·cases h
   exact Nat.le_trans (sz_mkRat (by decide)) (by have:=bl_one;omega)
  ·split at h
   ·cases h
   ·rename_i h2
    simp only [not_or,Classical.not_not] at h2
    have b2:=h2.1.bl
    cases h
    exact Nat.le_trans (sz_mkRat (by omega)) (by omega)
def rdRats (xs:List (List UInt8)):Option (List Rat):=if 300 < xs.length then none else allO rdRat xs
theorem rdRats_sz {xs:List (List UInt8)} {ys:List Rat} (h:rdRats xs=some ys):ys.length≤300∧ys.length=xs.length∧∀q,q∈ys→sz q≤800:=by
 unfold rdRats at h
 split at h
 ·cases h
 ·have:=allO_len h
  exact ⟨by omega,this,fun q hq=>by obtain ⟨x,_,hx⟩:=allO_mem h hq;exact rdRat_sz hx⟩
theorem fn_rats (xs:List (List UInt8)) (hl:xs.length≤1000000000000) (hs:∀x,x∈xs→x.length≤1000000000000):Fn Tryz.prog 53 [lT xs] [] (.tup [lQ ((rdRats xs).getD []),B (rdRats xs).isSome]) []:=by
 have hl2:((cT xs).length:Int)=xs.length:=by rw [cT_len]
 refine Fn.intro (ks:=[0,2,3,4,6,7,8,11,13,14,15,16,25]) hty rfl rfl rfl rfl rfl ?_;conv=>whnf
 refine Br.mk (fun h=>?_) (fun h=>?_)
 ·have h:300 < xs.length:=by simp only [decide_eq_true_eq] at h;omega
  rw [rdRats,if_pos h];conv=>whnf
  exact ⟨rfl,trivial,rfl⟩
 ·have h:¬300 < xs.length:=by simp only [decide_eq_false_iff_not] at h;omega
  rw [rdRats,if_neg h];conv=>whnf
  refine VLoop.ren 12 29 rfl ?_;refine VLoop.inv hty (S:=List Rat) (fun s=>[(15,I s.length),(14,I xs.length),(13,lT xs),(4,.ls 29 0 s.length 3)]) (fun s=>[(29,.row true 3 (cQ s))]) (fun s=>s.length≤xs.length∧allO rdRat (xs.take s.length)=some s) (fun s=>xs.length - s.length) [] ⟨Nat.zero_le _,rfl⟩
   ⟨rfl,by show AV.d (.s (.int .i64 ((cT xs).length:Int)))=_;rw [cT_len],rfl,rfl,trivial⟩ ⟨rfl,trivial⟩ ?_
  rintro s ⟨hi,hq⟩;obtain ⟨i,ei⟩:∃i,s.length=i:=⟨_,rfl⟩;rw [ei] at hi hq;rw [ei];conv=>whnf
  refine Br.mk (fun h2=>?_) (fun h2=>?_)
  ·have h2:i < xs.length:=by simp only [decide_eq_true_eq] at h2;omega
   obtain ⟨x,ex⟩:∃x,xs.getD i []=x:=⟨_,rfl⟩;have hxm:x∈xs:=by rw [←ex,gD,List.getElem?_eq_getElem h2];exact List.getElem_mem h2
   have et:xs.take (i+1)=xs.take i++[x]:=by rw [List.take_succ_eq_append_getElem h2];subst ex;rw [gD,List.getElem?_eq_getElem h2];rfl
   have cr:=fn_readRat x (hs x hxm);conv=>whnf
   refine ⟨⟨⟨by omega,by omega⟩,cT_sz _⟩,?_⟩;conv=>whnf
   refine ⟨_,cT_as (x:=x) h2 ex,?_⟩;cases hr:rdRat x with
   | none =>
    rw [hr] at cr;rw [allO_none hxm hr];conv=>whnf
    refine VCall.of_data cr (ndT (fun k=>rfl)) ?_;conv=>whnf
    exact ⟨rfl,trivial,rfl⟩
   | some q =>
    rw [hr] at cr;conv=>whnf
    refine VCall.of_data cr (ndT (fun k=>rfl)) ?_;conv=>whnf
    refine Sub.full rfl ?_;conv=>whnf
    refine Sub.full (by rw [cQ_len];exact ei) ?_;conv=>whnf
    refine ⟨by show (i+1)*56≤_;omega,?_⟩;conv=>whnf
    refine Wr.i64 (y:=((i+1:Nat):Int)) rfl (by omega) (by omega) ?_;conv=>whnf
    refine ⟨s++[q],⟨by rw [List.length_append,List.length_singleton];omega,?_⟩,by show xs.length - (s++[q]).length < xs.length - i;rw [List.length_append,List.length_singleton];omega,⟨?_,rfl,rfl,?_,trivial⟩,?_,trivial⟩
    ·rw [List.length_append,List.length_singleton,ei,et];exact allO_snoc hq hr
    ·show AV.d (.s (.int .i64 ((i+1:Nat):Int)))=I ((s++[q]).length:Nat);rw [List.length_append,List.length_singleton,ei]
    ·show AV.ls 29 0 (i+1) 3=AV.ls 29 0 (s++[q]).length 3;rw [List.length_append,List.length_singleton,ei]
    ·show Ob.row true 3 (cQ s++cQ [q])=_;rw [cQ_append]
  ·have h2:i=xs.length:=by simp only [decide_eq_false_iff_not] at h2;omega
   rw [h2,List.take_length] at hq;rw [hq];conv=>whnf
   refine ⟨⟨rfl,by rw [cQ_len];omega,?_⟩,rfl,trivial,rfl⟩;rw [List.drop_zero,List.take_of_length_le (by rw [cQ_len];omega)];rfl
end Go.V
namespace Go.V
open Go.Proofs Go.RowKit
set_option maxRecDepth 10000
set_option maxHeartbeats 1000000
theorem rcI_le {p q:Rat}:rcI p q≤0↔p≤q:=by
 have h1:=rcI_neg (p:=p) (q:=q)
 have h2:=rcI_zero (p:=p) (q:=q)
 constructor
 ·intro h
  rcases Int.lt_or_eq_of_le h with h3 | h3
  ·exact Rat.le_of_lt (h1.1 h3)
  ·rw [h2.1 h3];exact Rat.le_refl
 ·intro h
  rcases Int.lt_or_le 0 (rcI p q) with h3 | h3
  ·exfalso
   have h4:¬p < q:=fun e=>by have:=h1.2 e;omega
   have h5:¬p=q:=fun e=>by have:=h2.2 e;omega
   exact h5 (Rat.le_antisymm h (Rat.not_lt.1 h4))
  ·exact h3
def okLoads (x:List Rat):Prop:=1≤x.length∧x.length≤48∧x.any (fun q=>decide (sgI q < 0))=false
instance (x:List Rat):Decidable (okLoads x):=by unfold okLoads;exact inferInstance
end Go.V
namespace Go.V
open Go.Proofs Go.RowKit
set_option maxRecDepth 10000
set_option maxHeartbeats 1000000
def RdI (s:List UInt8) (out:List Nat):Prop:=(∀x,x∈out→x < B9)∧dv s=vl B9 out+B9 ^ out.length*dv (s.take (s.length - 9*out.length))∧9*out.length≤s.length+8
theorem RdI.step {s:List UInt8} {out:List Nat} (hd:∀b,b∈s→IsD b) (h:RdI s out) {f tx:Nat} (ht:tx=s.length - 9*out.length) (h0:0 < tx) (hf:f=tx - 9) :
  RdI s (out++[dv ((s.drop f).take (tx - f))])∧dv ((s.drop f).take (tx - f)) < B9:=by
 obtain ⟨h1,h2,h3⟩:=h;have hlt:dv ((s.drop f).take (tx - f)) < B9:=by
  have h4:=dv_lt (s:=(s.drop f).take (tx - f)) fun b hb=>hd b (List.mem_of_mem_drop (List.mem_of_mem_take hb));have h5:((s.drop f).take (tx - f)).length≤9:=by rw [List.length_take];omega
  have h6:(10:Nat) ^ ((s.drop f).take (tx - f)).length≤10 ^ 9:=Nat.pow_le_pow_right (by decide) h5;exact Nat.lt_of_lt_of_le h4 h6
 refine ⟨⟨snoc_lt h1 hlt,?_,by rw [List.length_append,List.length_singleton];omega⟩,hlt⟩;rw [List.length_append,List.length_singleton,vl_snoc,Nat.pow_succ,h2,←ht];have h4:=dv_part (s:=s) (lo:=f) (hi:=tx) (by omega) (by omega);have h5:s.length - 9*(out.length+1)=f:=by omega
 rw [h5,h4];generalize dv ((s.drop f).take (tx - f))=d;generalize vl B9 out=vv;generalize B9 ^ out.length=P;rcases Nat.lt_or_ge tx 9 with h6 | h6
 ·have:dv (s.take f)=0:=by rw [show f=0 by omega];rfl
  rw [this,Nat.zero_mul,Nat.zero_add,Nat.mul_zero,Nat.add_zero]
 ·have h7:(10:Nat) ^ (tx - f)=B9:=by rw [show tx - f=9 by omega]
  rw [h7];generalize B9=B;have:P*(dv (s.take f)*B)=P*B*dv (s.take f):=by rw [Nat.mul_comm (dv _) B,Nat.mul_assoc]
  rw [Nat.mul_add,this];omega
end Go.V
namespace Go.V
open Go.Proofs Go.RowKit
set_option maxRecDepth 10000
set_option maxHeartbeats 1000000
end Go.V
namespace Go.V
open Go.Proofs Go.RowKit
set_option maxRecDepth 10000
set_option maxHeartbeats 1000000
end Go.V
namespace Go.V
open Go.Proofs Go.RowKit
set_option maxRecDepth 10000
set_option maxHeartbeats 1000000
end Go.V
namespace Go.V
open Go.Proofs Go.RowKit
set_option maxRecDepth 10000
set_option maxHeartbeats 1000000
def room (n:Nat):Nat:=if n % 6=5 then 0 else if n % 3=0 then 1 else n
def marks (k n:Nat):List Int:=(List.range n).map fun i=>((k+i:Nat):Int)
end Go.V
namespace Go.V
open Go.Proofs Go.RowKit
set_option maxRecDepth 10000
set_option maxHeartbeats 1000000
theorem cT_set (xs:List (List UInt8)) (k:Nat) (x:List UInt8):(cT xs).set k [.s (.string ⟨x.toArray⟩)]=cT (xs.set k x):=by
 unfold cT;rw [List.map_set]
end Go.V
namespace Go.V
open Go.Proofs Go.RowKit
set_option maxRecDepth 10000
set_option maxHeartbeats 1000000
theorem lend_wholeT {id:Nat} {l:LL} {xs ys:List (List UInt8)} (h:lget id l = .row true 1 (cT (xs++ys))):lend1 l (.ls id 0 xs.length 1) (.d (.sl (cT xs))):=by
 unfold lend1
 simp only [h]
 exact ⟨trivial,by simp [cT],by simp [cT]⟩
end Go.V
namespace Go.Proofs
open Go.Shelf Go.RowKit Go.Sort Go.Lib
set_option maxHeartbeats 6400000 in
set_option maxRecDepth 100000 in
theorem Tryz.numDigitsC (u:Nat) (h1:1≤u) (h2:u < 18446744073709551616) (w:World) (hc:∀i,i < 20→w.cell? ⟨1,i,none⟩=some (.int .u64 ((10 ^ i:Nat):Int))) :
  Calls Tryz.prog 117 #[.int .u64 u] w fun e w'=>e = .returned (.int .i64 (Lib.nDigits u))∧w'=w:=by
 obtain ⟨hnd,h19⟩:=Lib.numDigits_eq u h1 h2;have hL:Lib.bitLen u≤64:=Lib.bitLen_le u 64 (Nat.le_refl _) h2;have hcell:=hc (Lib.l10 (Lib.bitLen u)) (by omega);have hto:((u:Int)).toNat=u:=by omega
 generalize hq:Lib.l10 (Lib.bitLen u)=q at hnd h19 hcell;generalize hT:10 ^ q=T at hnd hcell;have h20:q < 20:=by omega
 have Hnd:=Lib.hid hnd;clear hnd hc
 go_enter Tryz.func117,Tryz.ntmps117
 go_wp2_with (first
  | (go_at_call 140;refine (Tryz.bits_Len64 _ _ (by omega) (by omega)).mono ?_;rintro e w' ⟨rfl,rfl⟩)
  | (go_at_call 139;refine (Tryz.internal_strconv_log10Pow2 _ (by first | exact hL | (rw [hto];exact hL)) _).mono ?_;rintro e w' ⟨rfl,rfl⟩)
  | (go_at_call 141;refine (Tryz.internal_strconv_bool2_int _ _).mono ?_;rintro e w' ⟨rfl,rfl⟩))
 all_goals go_ret
 all_goals (
  refine ⟨?_,rfl⟩;have hnd:=Hnd.out
  congr 2
  split at hnd <;> simp_all <;> omega)
set_option maxHeartbeats 6400000 in
set_option maxRecDepth 100000 in
theorem Tryz.formatUintS (u:Nat) (hu:u < 100) (w:World) :
  Calls Tryz.prog 98 #[.int .u64 u,.int .i64 10] w fun e w'=>e = .returned (.string ⟨(Lib.decDigits u).toArray⟩)∧w'=w:=by
 have iu:(u:Int) < 100:=by omega
 go_enter Tryz.func98,Tryz.ntmps98
 go_wp2_with (go_at_call 116;refine (Tryz.internal_strconv_small u hu _).mono ?_;rintro e w' ⟨rfl,rfl⟩)
 all_goals go_ret
 all_goals exact ⟨rfl,rfl⟩
set_option maxHeartbeats 6400000 in
set_option maxRecDepth 100000 in
theorem Tryz.formatUintB (u:Nat) (hu:100≤u) (hu64:u < 18446744073709551616) (w:World) (hc:∀i,i < 20→w.cell? ⟨1,i,none⟩=some (.int .u64 ((10 ^ i:Nat):Int))) :
  Calls Tryz.prog 98 #[.int .u64 u,.int .i64 10] w fun e w'=>e = .returned (.string ⟨(Lib.decDigits u).toArray⟩)∧∃k os,w'=grow (w.drewN k) os:=by
 have hu1:1≤u:=by omega
 have hnd20:Lib.nDigits u≤20:=by have:=Lib.numDigits_eq u hu1 hu64;split at this <;> omega
 have hal:Tryz.prog.arrayLen 159=24:=by simp [Program.arrayLen,Tryz.underlying159]
 have hsl:∀W,(Instr.sliceAt 159 (.pointer (some ⟨w.heap.size,0,none⟩)) none (some (.int .i64 (Lib.nDigits u:Int))) none).run Tryz.prog W = .ok (.slice (some ⟨w.heap.size,0,none⟩) (Lib.nDigits u) 24) W:=fun W=>by
  rw [run_sliceAt_array_h W 159 ⟨w.heap.size,0,none⟩ (by simp [Program.arrayLen,Program.elem,Tryz.underlying159]) .i64 (Lib.nDigits u:Int) (by omega) (by rw [hal];omega)]
  go_simp
 have hH0:=Lib.holds_zero0 w 159 (Lib.nDigits u) (by omega);have hfmt:=Tryz.internal_strconv_formatBase10 w.heap.size 0 24 u (Array.replicate (Lib.nDigits u) 0) (w.alloc (.cells Lib.zeros24 159)) hH0 (by rw [Array.size_replicate];exact Lib.lt_pow_nDigits u) hu64 (by rw [Array.size_replicate];omega);rw [Array.size_replicate] at hfmt;have HH0:=Lib.hid hH0;have iu:(100:Int)≤(u:Int):=by omega
 have hc':∀i,i < 20→(w.alloc (.cells Lib.zeros24 159)).cell? ⟨1,i,none⟩=some (.int .u64 ((10 ^ i:Nat):Int)):=fun i hi=>Lib.cell?_alloc_some _ (hc i hi);clear hH0 hal
 go_enter Tryz.func98,Tryz.ntmps98
 go_wp2_with (go_at_call 117;refine (Tryz.numDigitsC u hu1 hu64 _ hc').mono ?_;rintro e w' ⟨rfl,rfl⟩)
 refine hfmt.mono ?_;rintro e w' ⟨rfl,k,v',dk,rfl,hF⟩;have hcv:(convert 22 9 (.slice (some ⟨w.heap.size,0,none⟩) (Lib.nDigits u) 24)).run Tryz.prog ((putRow (fun (b:UInt8)=>Value.int .u8 (b.toNat:Int)) (w.alloc (.cells Lib.zeros24 159)) w.heap.size 0 dk).drewN k) = .ok (.string ⟨(Lib.decDigits u).toArray⟩) ((putRow (fun (b:UInt8)=>Value.int .u8 (b.toNat:Int)) (w.alloc (.cells Lib.zeros24 159)) w.heap.size 0 dk).drewN k):=by
  have h:=run_convert_bytes_back (P:=Tryz.prog) ((putRow (fun (b:UInt8)=>Value.int .u8 (b.toNat:Int)) (w.alloc (.cells Lib.zeros24 159)) w.heap.size 0 dk).drewN k) 22 9 5 ⟨w.heap.size,0,none⟩ 24 (Lib.decDigits u) Tryz.underlying22 Tryz.underlying5 Tryz.underlying9 (fun j hj=>by
   rw [Lib.row_is_numeral hF j hj,Lib.add_plain,World.cell?_drewN];exact cell?_putRow (fun (b:UInt8)=>Value.int .u8 (b.toNat:Int)) _ w.heap.size 0 _ dk HH0.out (by rw [hF.size,Array.size_replicate]) j (by rw [hF.size];rw [Lib.decDigits_length] at hj;exact hj))
  rw [Lib.decDigits_length] at h;exact h
 go_wp2
 go_ret
 obtain ⟨os,eo⟩:=Lib.fin_at w (.cells Lib.zeros24 159) dk k 0;exact ⟨rfl,k,os,eo⟩
end Go.Proofs
namespace Go.V
open Go.Proofs Go.RowKit
set_option maxRecDepth 10000
theorem pow10_glob (w:World) (hg:∀b o y,glob b o y→w.cell? ⟨b,o,none⟩=some y) (i:Nat) (hi:i < 20):w.cell? ⟨1,i,none⟩=some (.int .u64 ((10 ^ i:Nat):Int)):=by
 refine hg 1 i _ ?_
 unfold glob
 have e:gget 1 globT=(List.range 20).map fun i=>Value.int .u64 ((10 ^ i:Nat):Int):=rfl
 rw [e]
 simp [hi]
theorem fn_iFormatUint (u:Nat) (hu:u < 18446744073709551616):Fn Tryz.prog 98 [.d (.s (.int .u64 u)),I 10] [] (Str (Lib.decDigits u)) []:=by
 refine Fn.of_calls (vs:=[.int .u64 u,.int .i64 10]) ⟨_,rfl,rfl,rfl⟩ fun w hg=>?_
 by_cases h:u < 100
 ·refine Calls.mono (Tryz.formatUintS u h w) ?_
  rintro e w' ⟨rfl,rfl⟩
  exact ⟨_,rfl,fun κ ρ=>.d _ _ (.s _),Grew.refl _⟩
 ·refine Calls.mono (Tryz.formatUintB u (by omega) hu w (pow10_glob w hg)) ?_
  rintro e w' ⟨rfl,k,os,rfl⟩
  exact ⟨_,rfl,fun κ ρ=>.d _ _ (.s _),Grew.below (Lib.below_grow _ w (Nat.le_refl _) k os)⟩
theorem fn_FormatUint (u:Nat) (hu:u < 18446744073709551616):Fn Tryz.prog 81 [.d (.s (.int .u64 u)),I 10] [] (Str (Lib.decDigits u)) []:=by
 refine Fn.intro (ks:=[0,1,4]) hty rfl rfl rfl rfl rfl ?_
 conv=>whnf
 refine VCall.of_data (fn_iFormatUint u hu) (nd _) ?_
 conv=>whnf
 exact ⟨rfl,trivial,rfl⟩
end Go.V
namespace Go.V
open Go.Proofs Go.RowKit
set_option maxRecDepth 10000
set_option maxHeartbeats 1000000
def revL (zs:List (List UInt8)) (k:Nat):List (List UInt8):=(List.range zs.length).map fun i=>if i < k∨zs.length - 1 - i < k then zs.getD (zs.length - 1 - i) [] else zs.getD i []
theorem revL_len (zs:List (List UInt8)) (k:Nat):(revL zs k).length=zs.length:=by simp [revL]
theorem revL_zero (zs:List (List UInt8)):revL zs 0=zs:=by
 apply List.ext_getElem (by simp [revL_len])
 intro i h1 h2
 simp [revL,h2]
theorem revL_end (zs:List (List UInt8)) (k:Nat) (h:zs.length≤2*k+1):revL zs k=zs.reverse:=by
 apply List.ext_getElem (by simp [revL_len]);intro i h1 h2;have h2:i < zs.length:=by simpa using h2
 simp only [revL,List.getElem_map,List.getElem_range,List.getElem_reverse];rw [gD,gD,List.getElem?_eq_getElem (by omega),List.getElem?_eq_getElem (by omega)];by_cases hc:i < k∨zs.length - 1 - i < k
 ·rw [if_pos hc];simp
 ·rw [if_neg hc];have:i=zs.length - 1 - i:=by omega
  simp [←this]
theorem revL_at (zs:List (List UInt8)) (k i:Nat) (h1:¬i < k) (h2:¬zs.length - 1 - i < k) (hi:i < zs.length):(revL zs k).getD i []=zs.getD i []:=by
 rw [gD,List.getElem?_eq_getElem (by rw [revL_len];exact hi)]
 simp [revL,h1,h2]
theorem revL_step (zs:List (List UInt8)) (k:Nat) (h:2*k+1 < zs.length):((revL zs k).set k (zs.getD (zs.length - 1 - k) [])).set (zs.length - 1 - k) (zs.getD k [])=revL zs (k+1):=by
 apply List.ext_getElem (by simp [revL_len]);intro i h1 h2;have hi:i < zs.length:=by simpa [revL_len] using h2
 rw [List.getElem_set,List.getElem_set];simp only [revL,List.getElem_map,List.getElem_range];by_cases e1:zs.length - 1 - k=i
 ·rw [if_pos e1,if_pos (by omega),show zs.length - 1 - i=k by omega]
 ·rw [if_neg e1];by_cases e2:k=i
  ·rw [if_pos e2,if_pos (by omega),e2]
  ·rw [if_neg e2];by_cases hc:i < k∨zs.length - 1 - i < k
   ·rw [if_pos hc,if_pos (by omega)]
   ·rw [if_neg hc,if_neg (by omega)]
theorem fn_Reverse (zs:List (List UInt8)) (hl:zs.length≤1000000000000) :
  Fn Tryz.prog 83 [.ls 1000000 0 zs.length 1] [(1000000,.row true 1 (cT zs))] (.tup []) [(1000000,.row true 1 (cT zs.reverse))]:=by
 refine Fn.intro (ks:=[0,2,3,9]) hty rfl rfl rfl rfl rfl ?_;conv=>whnf
 refine Wr.fit (wrap_i64 (by omega) (by omega)) ?_;conv=>whnf
 refine VLoop.inv hty (S:=Nat) (fun k=>[(3,I ((zs.length:Int) - 1 - k)),(2,I k),(0,.ls 1000000 0 zs.length 1)]) (fun k=>[(1000000,.row true 1 (cT (revL zs k)))]) (fun k=>k≤zs.length) (fun k=>zs.length - k) 0 (Nat.zero_le _)
  ⟨congrArg I (by simp),rfl,rfl,trivial⟩ ⟨by rw [revL_zero];rfl,trivial⟩ ?_
 intro k hk;conv=>whnf
 obtain ⟨j,ej⟩:∃j,(zs.length:Int) - 1 - k=j:=⟨_,rfl⟩;rw [ej];refine Br.mk (fun h=>?_) (fun h=>?_)
 ·have h:(k:Int) < j:=by simpa using h
  have hk2:2*k+1 < zs.length:=by omega
  conv=>whnf
  obtain ⟨m,rfl⟩:∃m:Nat,j=m:=⟨j.toNat,by omega⟩;have hm:m=zs.length - 1 - k:=by omega
  have hR:=revL_len zs k;have hstep:=revL_step zs k hk2;rw [←hm] at hstep;have e1:=revL_at zs k k (by omega) (by omega) (by omega);have e2:=revL_at zs k m (by omega) (by omega) (by omega);generalize zs.getD k []=a at e1 hstep;generalize zs.getD m []=b at e2 hstep;generalize revL zs k=R at hR e1 e2 hstep ⊢;have c1:0≤(k:Int)∧(k:Int) < zs.length:=by omega
  have c2:0≤(m:Int)∧(m:Int) < zs.length:=by omega
  have a1:=cT_as (by omega) e1;have a2:=cT_as (by omega) e2;have a3:((cT R).set k [.s (.string ⟨b.toArray⟩)])[m]? = some [.s (.string ⟨b.toArray⟩)]:=by rw [List.getElem?_set_ne (by omega)];exact a2
  refine VDraw.goS hmo hty [0,1,2,3,4,5,8,9] rfl ?_;conv=>whnf
  repeat' (first
   | (refine ⟨c1,?_⟩;conv=>whnf)
   | (refine ⟨c2,?_⟩;conv=>whnf)
   | (refine ⟨_,a1,?_⟩;conv=>whnf)
   | (refine ⟨_,a2,?_⟩;conv=>whnf)
   | (refine ⟨_,a3,?_⟩;conv=>whnf)
   | (refine Wr.fit (wrap_i64 (by omega) (by omega)) ?_;conv=>whnf)
   | exact ⟨k+1,by omega,by omega,⟨congrArg I (by omega),rfl,rfl,trivial⟩,by rw [←hstep,←cT_set,←cT_set];rfl,trivial⟩
   | (refine ⟨?_,?_⟩ <;> conv=>whnf))
 ·have h:¬(k:Int) < j:=by simpa using h
  conv=>whnf
  rw [revL_end zs k (by omega)];exact ⟨⟨rfl,trivial⟩,rfl⟩
theorem VCall.par1u {P:Program} {t:TL} {l:LL} {f:FuncId} {xs xs0:List AV} {sz sz':Nat} {rows rows':List (List C)} {dst:Option Nat} {K:AV→TL→LL→Prop} (a:Nat)
  (h:Fn P f xs0 [(1000000,.row true sz rows)] (.tup []) [(1000000,.row true sz' rows')]) (ha:argR (pmap [(1000000,a)]) xs xs0) (hl:lget a l = .row true sz rows)
  (hK:K (.tup []) t ((a,.row true sz' rows') :: l)):VCall P f xs dst t l K :=
 VCall.of_fnR (k:=0) (pmap [(1000000,a)]) h ha ⟨⟨hl,fun p h=>absurd rfl h⟩,trivial⟩ rfl (keepRows rfl rfl) (fun _ h=>by cases h) rfl hK
theorem repeat_one (c:UInt8) (n:Nat):Lib.repeatL [c] n=List.replicate n c:=by
 induction n with
 | zero=>rfl
 | succ n ih=>rw [Lib.repeatL,ih];rfl
theorem fn_Repeat (s:List UInt8) (c:Nat) (hc:c≤1000000000) (hl:s.length≤1000):Fn Tryz.prog 82 [Str s,I c] [] (Str (Lib.repeatL s c)) []:=by
 refine Fn.of_calls (vs:=[.string ⟨s.toArray⟩,.int .i64 c]) ⟨_,rfl,rfl,rfl⟩ fun w _=>?_;have hb:(⟨s.toArray⟩:ByteArray).size=s.length:=by simp [ByteArray.size]
 have hm:s.length*c≤1000*1000000000:=Nat.mul_le_mul hl hc;refine Calls.mono (Tryz.strings_Repeat ⟨s.toArray⟩ c w (by omega) (by rw [hb];omega)) ?_;rintro e w' ⟨rfl,hw⟩;refine ⟨_,rfl,fun κ ρ=>?_,Grew.below hw⟩;exact .d _ _ (.s _)
theorem repr_sl {κ:Know} {v:Value} {rows:List (List C)} (h:Repr κ v (.sl rows)):(rows=[]∧∃a cap,v = .slice a 0 cap) ∨
  ∃(b off n cap:Nat) (vs:Nat→Value),v = .slice (some ⟨b,off,none⟩) n cap∧n=rows.length∧n≤cap∧(∀(k:Nat) (c:C),rows.flatten[k]? = some c→κ b (off+k) (vs k))∧∀(k:Nat) (c:C),rows.flatten[k]? = some c→Repr κ (vs k) c:=by
 cases h with
 | nil=>exact .inl ⟨rfl,_,_,rfl⟩
 | none a cap=>exact .inl ⟨rfl,_,_,rfl⟩
 | sl b off n cap rows vs hn hc hk hr=>exact .inr ⟨b,off,n,cap,vs,rfl,hn,hc,hk,hr⟩
theorem cT_flatten (xs:List (List UInt8)):(cT xs).flatten=xs.map fun s=>C.s (.string ⟨s.toArray⟩):=by
 induction xs with
 | nil=>rfl
 | cons x xs ih=>simp only [cT,List.map_cons,List.flatten_cons] at ih ⊢;rw [ih];rfl
theorem fn_Join (xs:List (List UInt8)) (sep:List UInt8) (hN:xs.length≤100000000000) (hlen:(Lib.join xs sep).length≤1000000000000):Fn Tryz.prog 84 [lT xs,Str sep] [] (Str (Lib.join xs sep)) [] where
 en:=⟨_,rfl,rfl,rfl⟩
 out:=fun κ ρ w us hm hs hv=>by
  have hs:us.size=2:=hs;have h0:=hv 0 us[0] (lT xs) (by simp) rfl;have h1:=hv 1 us[1] (Str sep) (by simp) rfl;have eus:us = #[us[0],us[1]]:=by
   apply Array.ext
   ·simpa using hs
   ·intro i h1 h2
    match i,h1 with
    | 0,_=>rfl
    | 1,_=>rfl
    | i+2,h1=>omega
  have e1:us[1] = .string ⟨sep.toArray⟩:=by
   generalize us[1]=v1 at h1;cases h1 with
   | d _ _ h=>cases h;rfl
  generalize us[0]=v0 at h0 eus;rw [e1] at eus;subst eus;have h0:Repr κ v0 (.sl (cT xs)):=by cases h0 with | d _ _ h=>exact h
  have hnone:∀(a:Option Addr) (c:Nat),xs=[]→v0 = .slice a 0 c→Calls Tryz.prog 84 #[v0,.string ⟨sep.toArray⟩] w fun e w'=>∃v κ' ρ',e = .returned v∧κ.le κ'∧Mem ⟨w,Mof ρ [],κ,0,ρ⟩ κ' ρ' [] w'∧AVR κ' ρ' v (Str (Lib.join xs sep)):=by
   intro a c hx he;subst hx;subst he;refine Calls.mono (Tryz.strings_Join_none a c ⟨sep.toArray⟩ w) ?_;rintro e w' ⟨rfl,rfl⟩;exact ⟨_,κ,ρ,rfl,Know.le_refl _,hm,.d _ _ (.s _)⟩
  rcases repr_sl h0 with ⟨hx,a,cap,he⟩ | ⟨b,off,n,cap,vs,he,hn,hc,hk,hr⟩
  ·exact hnone a cap (by simpa [cT] using hx) he
  ·rw [cT_len] at hn;subst hn;by_cases hx:xs=[]
   ·exact hnone (some ⟨b,off,none⟩) cap hx (by rw [he,hx];rfl)
   ·subst he;have key:∀(j:Nat) (s:List UInt8),xs[j]? = some s→κ b (off+j) (.string ⟨s.toArray⟩):=by
     intro j s hj;have hc0:(cT xs).flatten[j]? = some (.s (.string ⟨s.toArray⟩)):=by rw [cT_flatten,List.getElem?_map,hj];rfl
     have h2:=hk j _ hc0;have h3:=hr j _ hc0;generalize vs j=y at h2 h3;cases h3 with
     | s=>exact h2
    have hbk:b < w.heap.size:=by
     obtain ⟨s,hs0⟩:∃s,xs[0]? = some s:=by cases xs with | nil=>exact absurd rfl hx | cons s r=>exact ⟨s,rfl⟩
     exact hm.known_block (key 0 s hs0)
    have em:(xs.map fun s=>(⟨s.toArray⟩:ByteArray)).map (·.data.toList)=xs:=by simp [Function.comp_def]
    have h:=Tryz.strings_Join b off cap (xs.map fun s=>(⟨s.toArray⟩:ByteArray)) ⟨sep.toArray⟩ w (by
     intro j x hj;rw [List.getElem?_map] at hj;cases hj2:xs[j]? with
     | none=>rw [hj2] at hj;cases hj
     | some s =>
      rw [hj2] at hj;cases hj;exact hm.kn _ _ _ (key j s hj2)) hbk (by simp;omega) (by simpa using hc) (by rw [em];show (Lib.join xs sep).length≤_;omega)
    rw [em,List.length_map] at h;refine Calls.mono h ?_;rintro e w' ⟨rfl,hw⟩;exact ⟨_,κ,ρ,rfl,Know.le_refl _,hm.grew (Grew.below hw),.d _ _ (.s _)⟩
end Go.V
namespace Go.V
open Go.Proofs Go.RowKit
set_option maxRecDepth 10000
set_option maxHeartbeats 1000000
abbrev dd (n:Nat):List UInt8:=Lib.decDigits n
theorem dd_small {n:Nat} (h:n < 10):dd n=[UInt8.ofNat (48+n)]:=by rw [dd,Lib.decDigits,dif_pos h]
theorem dd_big {n:Nat} (h:¬n < 10):dd n=dd (n / 10)++[UInt8.ofNat (48+n % 10)]:=by rw [dd,Lib.decDigits,dif_neg h]
theorem dd_ne (n:Nat):dd n≠[]:=by
 by_cases h:n < 10
 ·rw [dd_small h];simp
 ·rw [dd_big h];simp
theorem dd_len_le:∀(k n:Nat),n < 10 ^ (k+1)→(dd n).length≤k+1
 | 0,n,h=>by rw [dd_small (by simpa using h)];simp
 | k+1,n,h=>by
   by_cases h9:n < 10
   ·rw [dd_small h9];simp
   ·rw [dd_big h9,List.length_append,List.length_singleton]
    have:=dd_len_le k (n / 10) (by rw [Nat.pow_succ] at h;omega)
    omega
theorem dd_bl (n:Nat):(dd n).length≤bl n+1:=dd_len_le (bl n) n (by
 have h1:=lt_bl n
 have h2:2 ^ bl n≤10 ^ bl n:=Nat.pow_le_pow_left (by decide) _
 have h3:10 ^ bl n≤10 ^ (bl n+1):=Nat.pow_le_pow_right (by decide) (by omega)
 omega)
def padd (k r:Nat):List UInt8:=List.replicate (k - (dd r).length) 48++dd r
theorem padd_len {k r:Nat} (h:r < 10 ^ (k+1)):(padd (k+1) r).length=k+1:=by
 have:=dd_len_le k r h
 simp only [padd,List.length_append,List.length_replicate];omega
theorem padd_succ {k r:Nat} (h:r < 10 ^ (k+2)):padd (k+2) r=padd (k+1) (r / 10)++[UInt8.ofNat (48+r % 10)]:=by
 by_cases h9:r < 10
 ·have e:r / 10=0:=by omega
  have e2:r % 10=r:=by omega
  rw [e,e2,padd,padd,dd_small h9,dd_small (n:=0) (by decide)];show List.replicate (k+2 - 1) 48++_=(List.replicate (k+1 - 1) 48++[48])++_;rw [show k+2 - 1=k+1 by omega,show k+1 - 1=k by omega,List.replicate_succ',List.append_assoc]
 ·rw [padd,padd,dd_big h9,List.length_append,List.length_singleton,List.append_assoc,show k+2 - ((dd (r / 10)).length+1)=k+1 - (dd (r / 10)).length by omega]
theorem dd_split:∀(k q r:Nat),0 < q→r < 10 ^ (k+1)→dd (q*10 ^ (k+1)+r)=dd q++padd (k+1) r
 | 0,q,r,hq,hr=>by
   have hr:r < 10:=by simpa using hr
   rw [show q*10 ^ (0+1)+r=q*10+r by simp,dd_big (by omega),show (q*10+r) / 10=q by omega,show (q*10+r) % 10=r by omega,padd,dd_small hr]
   rfl
 | k+1,q,r,hq,hr=>by
   have e:q*10 ^ (k+2)+r=(q*10 ^ (k+1))*10+r:=by rw [Nat.pow_succ,Nat.mul_assoc]
   have hp:0 < 10 ^ (k+1):=Nat.pow_pos (by decide);have hq2:1≤q*10 ^ (k+1):=Nat.mul_pos hq hp;rw [e,dd_big (by omega),show (q*10 ^ (k+1)*10+r) / 10=q*10 ^ (k+1)+r / 10 by omega,show (q*10 ^ (k+1)*10+r) % 10=r % 10 by omega,
    dd_split k q (r / 10) hq (by rw [Nat.pow_succ] at hr;omega),padd_succ hr,List.append_assoc]
theorem dd_nine {n:Nat} (h:0 < n / 1000000000):dd n=dd (n / 1000000000)++padd 9 (n % 1000000000):=by
 have:=dd_split 8 (n / 1000000000) (n % 1000000000) h (Nat.mod_lt _ (by decide))
 rw [show n / 1000000000*10 ^ (8+1)+n % 1000000000=n by have:=Nat.div_add_mod n 1000000000;simp only [Nat.reduceAdd,Nat.reducePow];omega] at this
 exact this
theorem dd_one {n:Nat}:dd n=[49]↔n=1:=by
 constructor
 ·intro h;by_cases h9:n < 10
  ·rw [dd_small h9] at h;have h:UInt8.ofNat (48+n)=49:=by simpa using h
   have:=congrArg UInt8.toNat h;rw [UInt8.toNat_ofNat'] at this;have e:(49:UInt8).toNat=49:=rfl;rw [e] at this;omega
  ·rw [dd_big h9] at h;have h5:=congrArg List.length h;rw [List.length_append,List.length_singleton,List.length_singleton] at h5;have:=List.length_pos_iff.2 (dd_ne (n / 10));omega
 ·intro h;rw [h,dd_small (by decide)];rfl
theorem dd_base {r:Nat} (h:r < 1000000000):dd (r+1000000000)=49 :: padd 9 r:=by
 have:=dd_split 8 1 r (by decide) (by simpa using h)
 rw [show 1*10 ^ (8+1)+r=r+1000000000 by simp only [Nat.reduceAdd,Nat.reducePow];omega] at this
 rw [this,dd_one.2 rfl];rfl
theorem itoa_nat (n:Nat):Lib.itoa (n:Int)=dd n:=Lib.itoa_nonneg n
end Go.V
namespace Go.V
open Go.Proofs Go.RowKit
set_option maxRecDepth 10000
set_option maxHeartbeats 1000000
def headT (n:Nat):List UInt8:=if n=0 then [] else dd n
theorem head_step {n:Nat} (h:n≠0):headT (n / 1000000000)++(if n / 1000000000=0 then dd (n % 1000000000) else padd 9 (n % 1000000000))=dd n:=by
 unfold headT
 by_cases h0:n / 1000000000=0
 ·rw [if_pos h0,if_pos h0,List.nil_append,show n % 1000000000=n by omega]
 ·rw [if_neg h0,if_neg h0,←dd_nine (by omega)]
theorem lend_allT {id n:Nat} {l:LL} {xs:List (List UInt8)} (hn:xs.length=n) (h:lget id l = .row true 1 (cT xs)):lend1 l (.ls id 0 n 1) (.d (.sl (cT xs))):=by
 subst hn;have:xs=xs++[]:=by simp
 rw [this] at h;exact lend_wholeT h
theorem join_flat (xs:List (List UInt8)):Lib.join xs []=xs.flatten:=by
 unfold Lib.join
 induction xs with
 | nil=>rfl
 | cons x r ih =>
  cases r with
  | nil=>simp [List.intercalate]
  | cons y r=>simp [List.intercalate,List.intersperse] at ih ⊢;rw [←ih]
theorem bl_part {n:Nat} (h:n≠0):bl (n / 1000000000)+1≤bl n:=by
 have h1:=lt_bl n
 have h0:1≤bl n:=by
  rcases Nat.eq_zero_or_pos (bl n) with e | e
  ·rw [e] at h1;omega
  ·exact e
 have:bl (n / 1000000000)≤bl n - 1:=bl_le (by
  obtain ⟨k,ek⟩:∃k,bl n=k+1:=⟨bl n - 1,by omega⟩
  rw [ek] at h1 ⊢
  rw [Nat.pow_succ] at h1
  show _ < 2 ^ (k+1 - 1)
  rw [Nat.add_sub_cancel];omega)
 omega
theorem fn_text (N:Nat) (hN:bl N≤100000000000):Fn Tryz.prog 60 [nI N] [] (Str (dd N)) []:=by
 refine Fn.intro (ks:=[0,2,3,4,5,6,9,13,24]) hty rfl rfl rfl rfl rfl ?_;conv=>whnf
 rw [cW_len];refine Br.mk (fun h=>?_) (fun h=>?_)
 ·have h:N=0:=by
   have h:(dg B32 N).length=0:=by simpa using h
   exact (dg_len_zero b32).1 h
  conv=>whnf
  refine ⟨?_,trivial,rfl⟩;rw [h,dd_small (by decide)];rfl
 ·have h:N≠0:=by
   intro e;rw [e] at h;simp [dg_zero] at h
  conv=>whnf
  refine VLoop.ren 10 34 rfl ?_;refine VLoop.inv hty (S:=Nat×List (List UInt8)) (fun s=>[(3,.ls 34 0 s.2.length 1),(0,nI s.1)]) (fun s=>[(34,.row true 1 (cT s.2))])
   (fun s=>s.1≤N∧s.1+s.2.length≤N∧headT s.1++s.2.reverse.flatten=dd N∧bl s.1+s.2.length≤bl N) (fun s=>s.1) (N,[]) ⟨Nat.le_refl _,Nat.le_refl _,by simp [headT,h],Nat.le_refl _⟩
   ⟨rfl,rfl,trivial⟩ ⟨rfl,trivial⟩ ?_
  rintro s ⟨h1,h2,h3,h4⟩;conv=>whnf
  rw [cW_len];refine Br.mk (fun h5=>?_) (fun h5=>?_)
  ·have h6:s.1≠0:=by
    intro e;rw [e] at h5;simp [dg_zero] at h5
   have hd:=fn_divSmall s.1 1000000000 (by omega) (by decide) (by decide);have hb:=bl_part h6;have hs:=head_step h6;rw [headT,if_neg h6] at h3;obtain ⟨q,eq⟩:∃q,s.1 / 1000000000=q:=⟨_,rfl⟩;obtain ⟨r,er⟩:∃r,s.1 % 1000000000=r:=⟨_,rfl⟩;have hr:r < 1000000000:=by omega
   have hq:q < s.1:=by omega
   rw [eq] at hd hb hs;rw [er] at hd hs;conv=>whnf
   refine VCall.of_data hd (ndT (fun k=>rfl)) ?_;conv=>whnf
   refine Wr.n64 (n:=r) rfl (by omega) ?_;conv=>whnf
   refine VCall.of_data (fn_FormatUint r (by omega)) (nd _) ?_;conv=>whnf
   rw [cW_len];by_cases hq0:q=0
   ·rw [decide_eq_false (by rw [hq0];simp [dg_zero])];rw [if_pos hq0] at hs;conv=>whnf
    refine Sub.full rfl ?_;conv=>whnf
    refine Sub.full (by rw [cT_len]) ?_;conv=>whnf
    refine ⟨by show (s.2.length+1)*16≤_;omega,?_⟩;conv=>whnf
    exact ⟨(q,s.2++[dd r]),⟨by omega,by show q+(s.2++[dd r]).length≤N;rw [List.length_append,List.length_singleton];omega,by rw [←h3,←hs];simp,by show bl q+(s.2++[dd r]).length≤bl N;rw [List.length_append,List.length_singleton];omega⟩,hq,⟨by show AV.ls 34 0 (s.2.length+1) 1=AV.ls 34 0 (s.2++[dd r]).length 1;rw [List.length_append,List.length_singleton],rfl,trivial⟩,by show Ob.row true 1 (cT s.2++cT [dd r])=_;rw [cT_append],trivial⟩
   ·rw [decide_eq_true (by have:=dg_len_zero b32 (n:=q);omega)];rw [if_neg hq0] at hs;have hdl:=dd_len_le 8 r (by simpa using hr);obtain ⟨z,ez⟩:∃z:Nat,9 - (dd r).length=z:=⟨_,rfl⟩;conv=>whnf
    refine Wr.i64 (y:=(z:Int)) (by show (9:Int) - ((⟨(dd r).toArray⟩:ByteArray).size:Int)=z;rw [bsize];omega) (by omega) (by omega) ?_;conv=>whnf
    refine VCall.of_data (fn_Repeat [48] z (by omega) (by simp)) (nd _) ?_;rw [repeat_one];conv=>whnf
    have ep:List.replicate z 48++dd r=padd 9 r:=by rw [padd,ez]
    refine ⟨by rw [bsize,bsize,List.length_replicate];show z+(dd r).length < 2 ^ 62;omega,?_⟩;rw [show (⟨(List.replicate z 48).toArray⟩:ByteArray)++⟨(Lib.decDigits r).toArray⟩=⟨(padd 9 r).toArray⟩ by rw [←ep];apply ByteArray.ext;simp];conv=>whnf
    refine Sub.full rfl ?_;conv=>whnf
    refine Sub.full (by rw [cT_len]) ?_;conv=>whnf
    refine ⟨by show (s.2.length+1)*16≤_;omega,?_⟩;conv=>whnf
    exact ⟨(q,s.2++[padd 9 r]),⟨by omega,by show q+(s.2++[padd 9 r]).length≤N;rw [List.length_append,List.length_singleton];omega,by rw [←h3,←hs];simp,by show bl q+(s.2++[padd 9 r]).length≤bl N;rw [List.length_append,List.length_singleton];omega⟩,hq,⟨by show AV.ls 34 0 (s.2.length+1) 1=AV.ls 34 0 (s.2++[padd 9 r]).length 1;rw [List.length_append,List.length_singleton],rfl,trivial⟩,by show Ob.row true 1 (cT s.2++cT [padd 9 r])=_;rw [cT_append],trivial⟩
  ·have h6:s.1=0:=by
    have h6:(dg B32 s.1).length=0:=by simpa using h5
    exact (dg_len_zero b32).1 h6
   have h3:s.2.reverse.flatten=dd N:=by rw [←h3,h6];rfl
   have hl:s.2.length≤100000000000:=by omega
   have hjl:(Lib.join s.2.reverse []).length≤1000000000000:=by rw [join_flat,h3];have:=dd_bl N;omega
   conv=>whnf
   refine VCall.par1u 34 (fn_Reverse s.2 (by omega)) ⟨⟨rfl,rfl,rfl,rfl⟩,trivial⟩ rfl ?_;conv=>whnf
   refine VCall.lend (fn_Join s.2.reverse [] (by rw [List.length_reverse];omega) hjl) ⟨lend_allT (by rw [List.length_reverse]) rfl,rfl,trivial⟩ rfl ?_;rw [join_flat,h3];conv=>whnf
   exact ⟨rfl,trivial,rfl⟩
end Go.V
namespace Go.V
open Go.Proofs Go.RowKit
set_option maxRecDepth 10000
set_option maxHeartbeats 1000000
def ratT (q:Rat):List UInt8:=((if ng q then [45] else [])++dd (tp q))++(if q.den=1 then [] else 47 :: dd q.den)
def fitsQ (q:Rat):Bool:=decide ((dd (tp q)).length≤200) && decide ((dd q.den).length≤200)
theorem baeq (b c:List UInt8):((⟨b.toArray⟩:ByteArray).toList == (⟨c.toArray⟩:ByteArray).toList)=decide (b=c):=by
 rw [Bool.eq_iff_iff];simp
theorem le200 (a:List UInt8):decide (((⟨a.toArray⟩:ByteArray).size:Int)≤200)=decide (a.length≤200):=by
 rw [bsize];congr 1;simp;omega
theorem cat2 (a b:List UInt8):(⟨a.toArray⟩:ByteArray)++⟨b.toArray⟩=⟨(a++b).toArray⟩:=by apply ByteArray.ext;simp
theorem cat1 (c:UInt8) (b:List UInt8):(⟨#[c]⟩:ByteArray)++⟨b.toArray⟩=⟨(c :: b).toArray⟩:=cat2 [c] b
theorem fn_ratText (q:Rat) (hs:sz q≤100000000000):Fn Tryz.prog 41 [rI q] [] (.tup [Str (ratT q),B (fitsQ q)]) []:=by
 have c1:=fn_text (tp q) (Nat.le_trans (bl_tp q) hs)
 have c2:=fn_text q.den (Nat.le_trans (bl_den q) hs)
 have l1:(dd (tp q)).length≤100000000001:=Nat.le_trans (dd_bl _) (by have:=bl_tp q;omega)
 have l2:(dd q.den).length≤100000000001:=Nat.le_trans (dd_bl _) (by have:=bl_den q;omega)
 have ho:=dd_one (n:=q.den)
 unfold ratT fitsQ
 generalize dd (tp q)=a at c1 l1 ⊢
 generalize hb:dd q.den=b at c2 l2 ho ⊢
 refine Fn.intro (ks:=[0,1,2,3,4,5,6,15,19]) hty rfl rfl rfl rfl rfl ?_
 conv=>whnf
 refine VDraw.go hmo hty 8 [] rfl ?_
 conv=>whnf
 refine QCall.of_data c1 (nd _) ?_
 conv=>whnf
 refine QCall.of_data c2 (nd _) ?_
 conv=>whnf
 refine Br.mk (fun h=>?_) (fun h=>?_)
 ·rw [h]
  conv=>whnf
  refine ⟨by rw [bsize];show 1+a.length < 2 ^ 62;omega,?_⟩
  rw [cat1]
  conv=>whnf
  rw [show ((⟨b.toArray⟩:ByteArray).toList == (⟨#[49]⟩:ByteArray).toList)=decide (b=[49]) from baeq b [49]]
  by_cases h1:q.den=1
  ·rw [decide_eq_true (ho.2 h1)]
   rw [if_pos h1]
   conv=>whnf
   rw [le200 a]
   cases hA:decide (a.length≤200)
   ·conv=>whnf
    exact ⟨by simp,rfl,trivial,rfl⟩
   ·conv=>whnf
    rw [le200 b]
    cases hB:decide (b.length≤200)
    ·conv=>whnf
     exact ⟨by simp,rfl,trivial,rfl⟩
    ·conv=>whnf
     exact ⟨by simp,rfl,trivial,rfl⟩
  ·rw [decide_eq_false (fun e=>h1 (ho.1 e))]
   rw [if_neg h1]
   conv=>whnf
   refine ⟨by rw [bsize];show 1+b.length < 2 ^ 62;omega,?_⟩
   rw [cat1]
   conv=>whnf
   refine ⟨by rw [bsize,bsize];show (45 :: a).length+(b.length+1) < 2 ^ 62;simp;omega,?_⟩
   rw [cat2]
   conv=>whnf
   rw [le200 a]
   cases hA:decide (a.length≤200)
   ·conv=>whnf
    exact ⟨by simp,rfl,trivial,rfl⟩
   ·conv=>whnf
    rw [le200 b]
    cases hB:decide (b.length≤200)
    ·conv=>whnf
     exact ⟨by simp,rfl,trivial,rfl⟩
    ·conv=>whnf
     exact ⟨by simp,rfl,trivial,rfl⟩
 ·rw [h]
  conv=>whnf
  rw [show ((⟨b.toArray⟩:ByteArray).toList == (⟨#[49]⟩:ByteArray).toList)=decide (b=[49]) from baeq b [49]]
  by_cases h1:q.den=1
  ·rw [decide_eq_true (ho.2 h1)]
   rw [if_pos h1]
   conv=>whnf
   rw [le200 a]
   cases hA:decide (a.length≤200)
   ·conv=>whnf
    exact ⟨by simp,rfl,trivial,rfl⟩
   ·conv=>whnf
    rw [le200 b]
    cases hB:decide (b.length≤200)
    ·conv=>whnf
     exact ⟨by simp,rfl,trivial,rfl⟩
    ·conv=>whnf
     exact ⟨by simp,rfl,trivial,rfl⟩
  ·rw [decide_eq_false (fun e=>h1 (ho.1 e))]
   rw [if_neg h1]
   conv=>whnf
   refine ⟨by rw [bsize];show 1+b.length < 2 ^ 62;omega,?_⟩
   rw [cat1]
   conv=>whnf
   refine ⟨by rw [bsize,bsize];show (a).length+(b.length+1) < 2 ^ 62;simp;omega,?_⟩
   rw [cat2]
   conv=>whnf
   rw [le200 a]
   cases hA:decide (a.length≤200)
   ·conv=>whnf
    exact ⟨by simp,rfl,trivial,rfl⟩
   ·conv=>whnf
    rw [le200 b]
    cases hB:decide (b.length≤200)
    ·conv=>whnf
     exact ⟨by simp,rfl,trivial,rfl⟩
    ·conv=>whnf
     exact ⟨by simp,rfl,trivial,rfl⟩
end Go.V
namespace Go.V
open Go.Proofs Go.RowKit
set_option maxRecDepth 10000
set_option maxHeartbeats 1000000
def toldT (q:Rat):List UInt8:=if fitsQ q then ratT q else []
theorem fn_told (q:Rat) (hs:sz q≤100000000000):Fn Tryz.prog 33 [rI q] [] (.tup [Str (toldT q),B (fitsQ q)]) []:=by
 have c:=fn_ratText q hs
 unfold toldT
 refine Fn.intro (ks:=[0,1,2,3,4,5,12]) hty rfl rfl rfl rfl rfl ?_
 conv=>whnf
 refine VCall.of_data c (ndT (fun k=>rfl)) ?_
 conv=>whnf
 cases fitsQ q
 ·conv=>whnf
  exact ⟨rfl,rfl,trivial,rfl⟩
 ·conv=>whnf
  exact ⟨rfl,rfl,trivial,rfl⟩
def toldTs (qs:List Rat):Option (List (List UInt8)):=if qs.all fitsQ then some (qs.map ratT) else none
def ansT:Option (List (List UInt8))→AV×LL
 | some ts=>(.tup [.ls 0 0 ts.length 1,B true],[(0,.row true 1 (cT ts))])
 | none=>(.tup [.d (.sl []),B false],[])
theorem fn_toldList (qs:List Rat) (hl:qs.length≤1000000) (hs:∀q,q∈qs→sz q≤100000000000):Fn Tryz.prog 23 [lQ qs] [] (ansT (toldTs qs)).1 (ansT (toldTs qs)).2:=by
 refine Fn.intro (ks:=[0,2,3,4,6,7,8,10,11,12,13,22]) hty rfl rfl rfl rfl rfl ?_;conv=>whnf
 refine VLoop.ren 9 26 rfl ?_;refine VLoop.inv hty (S:=Nat) (fun k=>[(12,I k),(11,I qs.length),(10,lQ qs),(4,.ls 26 0 k 1)]) (fun k=>[(26,.row true 1 (cT ((qs.take k).map ratT)))]) (fun k=>k≤qs.length∧(qs.take k).all fitsQ=true) (fun k=>qs.length - k) 0 ⟨Nat.zero_le _,rfl⟩
  ⟨rfl,by show AV.d (.s (.int .i64 ((cQ qs).length:Int)))=_;rw [cQ_len],rfl,rfl,trivial⟩ ⟨rfl,trivial⟩ ?_
 rintro k ⟨hk,hp⟩;conv=>whnf
 refine Br.mk (fun h=>?_) (fun h=>?_)
 ·have h:k < qs.length:=by simp only [decide_eq_true_eq] at h;omega
  obtain ⟨q,eq⟩:∃q,qs.getD k 0=q:=⟨_,rfl⟩;have hqm:q∈qs:=by rw [←eq,gD,List.getElem?_eq_getElem h];exact List.getElem_mem h
  have et:qs.take (k+1)=qs.take k++[q]:=by rw [List.take_succ_eq_append_getElem h];subst eq;rw [gD,List.getElem?_eq_getElem h];rfl
  have c:=fn_ratText q (hs q hqm);conv=>whnf
  refine ⟨⟨⟨by omega,by rw [cQ_len];omega⟩,cQ_sz _⟩,?_⟩;conv=>whnf
  refine ⟨_,cQ_as (x:=q) h eq,?_⟩;conv=>whnf
  refine VCall.of_data c (ndT (fun k=>rfl)) ?_;conv=>whnf
  cases hf:fitsQ q
  ·have hall:¬(qs.all fitsQ=true):=fun ha=>by rw [List.all_eq_true.1 ha q hqm] at hf;cases hf
   rw [toldTs,if_neg hall];conv=>whnf
   first | exact ⟨rfl,trivial,rfl⟩ | exact ⟨rfl,rfl,trivial,rfl⟩
  ·conv=>whnf
   refine Sub.full rfl ?_;conv=>whnf
   refine Sub.full (by rw [cT_len,List.length_map,List.length_take];omega) ?_;conv=>whnf
   refine ⟨by show (k+1)*16≤_;omega,?_⟩;conv=>whnf
   refine Wr.i64 (y:=((k+1:Nat):Int)) rfl (by omega) (by omega) ?_;conv=>whnf
   exact ⟨k+1,⟨by omega,by rw [et,List.all_append,hp];simp [hf]⟩,by omega,⟨rfl,rfl,rfl,rfl,trivial⟩,by show Ob.row true 1 (cT ((qs.take k).map ratT)++cT [ratT q])=_;rw [cT_append,et,List.map_append];rfl,trivial⟩
 ·have h:k=qs.length:=by simp only [decide_eq_false_iff_not] at h;omega
  rw [h,List.take_length] at hp;rw [toldTs,if_pos hp,h,List.take_length];conv=>whnf
  exact ⟨⟨rfl,rfl,rfl,rfl,by rw [List.length_map],rfl⟩,[],rfl,rfl,trivial,rfl⟩
end Go.V
namespace Go.V
open Go.Proofs Go.RowKit
set_option maxRecDepth 10000
set_option maxHeartbeats 1000000
def tab (n:Nat) (f:Nat→Rat):List Rat:=(List.range n).map f
theorem mul_le {n a m b:Nat} (h:n≤a) (h':m≤b):n*m≤a*b:=Nat.mul_le_mul h h'
end Go.V
namespace Go.V
open Go.Proofs Go.RowKit
set_option maxRecDepth 10000
set_option maxHeartbeats 1000000
theorem fn_sNatText (N:Nat) (hN:bl N≤100000000000):Fn Tryz.prog 76 [nS N] [] (Str (dd N)) []:=by
 refine Fn.intro (ks:=[0,2,3,4,5,8,20]) hty rfl rfl rfl rfl rfl ?_;conv=>whnf
 rw [cW_len];have hcn:=cn_dg b9 N;have hvl:=vl_dg b9 N;have hln:=dg_len b9 N;have hl0:=dg_len_zero b9 (n:=N);generalize dg B9 N=l at hcn hvl hln hl0 ⊢;refine Br.mk (fun h=>?_) (fun h=>?_)
 ·have h:l.length=0:=by simpa using h
  conv=>whnf
  refine ⟨?_,trivial,rfl⟩;rw [hl0.1 h,dd_small (by decide)];rfl
 ·have h:l.length≠0:=by simpa using h
  obtain ⟨m,em⟩:∃m,l.length=m+1:=⟨l.length - 1,by omega⟩;have hlast:l.getLast? = some (l.getD m 0):=by
   rw [List.getLast?_eq_getElem?,em,Nat.add_sub_cancel,gD,List.getElem?_eq_getElem (by omega)];rfl
  have htop:l.getD m 0≠0:=fun e=>hcn.2 (by rw [hlast,e]);have hlt:∀i,l.getD i 0 < 1000000000:=fun i=>by
   rw [gD];by_cases hi:i < l.length
   ·rw [List.getElem?_eq_getElem hi];exact hcn.1 _ (List.getElem_mem hi)
   ·rw [List.getElem?_eq_none (by omega)];decide
  obtain ⟨t,et⟩:∃t,l.getD m 0=t:=⟨_,rfl⟩;have ht:=hlt m;rw [et] at htop ht;conv=>whnf
  rw [cW_len];refine Wr.i64 (y:=(m:Int)) (by omega) (by omega) (by omega) ?_;conv=>whnf
  refine ⟨⟨⟨by omega,by rw [cW_len];omega⟩,cW_sz _ _⟩,?_⟩;conv=>whnf
  refine ⟨_,cW_as (x:=t) (by omega) et,?_⟩;conv=>whnf
  refine VCall.of_data (fn_l01Dec t (by omega) (by omega)) (nd _) ?_;rw [itoa_nat];conv=>whnf
  rw [cW_len];refine Wr.i64 (y:=(m:Int) - 1) (by omega) (by omega) (by omega) ?_;conv=>whnf
  refine VLoop.inv hty (S:=Nat) (fun k=>[(4,I ((k:Int) - 1)),(3,Str (dd (vl B9 (l.drop k)))),(0,.d (.sl (cW .i64 l)))]) (fun _=>[]) (fun k=>k≤m) (fun k=>k) m (Nat.le_refl _)
   ⟨rfl,by
    have e:l.drop m=[t]:=by
     rw [List.drop_eq_getElem_cons (by omega),List.drop_eq_nil_of_le (by omega),←et,gD,List.getElem?_eq_getElem (by omega)];rfl
    show Str (dd t)=_;rw [e];simp [vl],rfl,trivial⟩ trivial ?_
  intro k hk;conv=>whnf
  refine Br.mk (fun h2=>?_) (fun h2=>?_)
  ·have h2:(0:Int)≤k - 1:=by simpa using h2
   obtain ⟨j,rfl⟩:∃j,k=j+1:=⟨k - 1,by omega⟩;obtain ⟨d,ed⟩:∃d,l.getD j 0=d:=⟨_,rfl⟩;have hd:=hlt j;rw [ed] at hd;have hdrop:vl B9 (l.drop j)=vl B9 (l.drop (j+1))*1000000000+d:=by
    rw [vl_drop (by omega),←ed,gD,List.getElem?_eq_getElem (by omega)];show l[j]+1000000000*_=_*1000000000+l[j];omega
   have hpos:0 < vl B9 (l.drop (j+1)):=vl_pos b9 ⟨fun x hx=>hcn.1 x (List.mem_of_mem_drop hx),by
    rw [List.getLast?_drop,if_neg (by omega)];exact hcn.2⟩ (fun e=>by have:=congrArg List.length e;rw [List.length_drop] at this;simp at this;omega)
   have hdd:=dd_split 8 (vl B9 (l.drop (j+1))) d hpos (by simpa using hd);have hle:bl (vl B9 (l.drop (j+1)))≤bl N:=bl_mono (by
    rw [←hvl,vl_split (B:=B9) l (j+1) (by omega)];have:0 < B9 ^ (j+1):=Nat.pow_pos (by decide);have:=Nat.le_mul_of_pos_left (vl B9 (l.drop (j+1))) this;omega)
   have hlen:=dd_bl (vl B9 (l.drop (j+1)));have hpl:=padd_len (k:=8) (r:=d) (by simpa using hd);rw [show vl B9 (l.drop (j+1))*10 ^ (8+1)+d=vl B9 (l.drop j) by rw [hdrop]] at hdd;have hbase:=dd_base hd;have cD:=fn_l01Dec (d+1000000000:Nat) (by omega) (by omega);rw [itoa_nat,hbase] at cD;generalize vl B9 (l.drop (j+1))=V at hdd hlen hle ⊢;obtain ⟨w,ew⟩:∃w:List UInt8,dd V=w:=⟨_,rfl⟩;rw [ew] at hdd hlen ⊢;conv=>whnf
   rw [show ((j+1:Nat):Int) - 1=(j:Int) by omega];refine ⟨⟨⟨by omega,by rw [cW_len];omega⟩,cW_sz _ _⟩,?_⟩;conv=>whnf
   refine ⟨_,cW_as (x:=d) (by omega) ed,?_⟩;conv=>whnf
   refine Wr.i64 (y:=((d+1000000000:Nat):Int)) rfl (by omega) (by omega) ?_;conv=>whnf
   refine VCall.of_data cD (nd _) ?_;conv=>whnf
   have hsz:(⟨(49 :: padd 9 d).toArray⟩:ByteArray).size=10:=by rw [bsize,List.length_cons,hpl]
   refine ⟨by rw [hsz];decide,?_⟩;rw [show (⟨(49 :: padd 9 d).toArray⟩:ByteArray).extract (1:Int).toNat ((((⟨(49 :: padd 9 d).toArray⟩:ByteArray).size:Nat):Int)).toNat=⟨(padd 9 d).toArray⟩ by
    rw [bx,hsz];show (⟨(((49 :: padd 9 d).take 10).drop 1).toArray⟩:ByteArray)=_;rw [List.take_of_length_le (by rw [List.length_cons,hpl];decide)];rfl]
   conv=>whnf
   refine ⟨by rw [bsize,bsize,hpl];omega,?_⟩;rw [cat2,←hdd];conv=>whnf
   refine Wr.i64 (y:=(j:Int) - 1) rfl (by omega) (by omega) ?_;conv=>whnf
   exact ⟨j,by omega,by omega,⟨rfl,rfl,rfl,trivial⟩,trivial⟩
  ·have h2:k=0:=by simp at h2;omega
   conv=>whnf
   refine ⟨?_,trivial,rfl⟩;rw [h2,List.drop_zero,hvl]
theorem fn_sShow (q:Rat) (hs:sz q≤100000000000):Fn Tryz.prog 52 [rS q] [] (Str (ratT q)) []:=by
 have c1:=fn_sNatText (tp q) (Nat.le_trans (bl_tp q) hs)
 have c2:=fn_sNatText q.den (Nat.le_trans (bl_den q) hs)
 have l1:(dd (tp q)).length≤100000000001:=Nat.le_trans (dd_bl _) (by have:=bl_tp q;omega)
 have l2:(dd q.den).length≤100000000001:=Nat.le_trans (dd_bl _) (by have:=bl_den q;omega)
 have c3:=fn_sCmp q.den 1 (Nat.le_trans (bl_den q) (by omega)) (by decide)
 rw [nS,nS,dg_small b9 (n:=1) (by decide) (by decide)] at c3
 unfold ratT
 generalize dd (tp q)=a at c1 l1 ⊢
 generalize dd q.den=b at c2 l2 ⊢
 refine Fn.intro (ks:=[0,1,2,3,8,15]) hty rfl rfl rfl rfl rfl ?_
 conv=>whnf
 refine VCall.of_data c1 (nd _) ?_
 conv=>whnf
 refine Br.mk (fun h=>?_) (fun h=>?_)
 ·rw [h]
  conv=>whnf
  refine ⟨by rw [bsize];show 1+a.length < 2 ^ 62;omega,?_⟩
  rw [cat1]
  conv=>whnf
  refine VCall.lend c3 ⟨rfl,⟨rfl,by simp,rfl⟩,trivial⟩ rfl ?_
  conv=>whnf
  by_cases h1:q.den=1
  ·rw [if_pos h1,decide_eq_true (by rw [h1];decide)]
   conv=>whnf
   exact ⟨by simp,trivial,rfl⟩
  ·rw [if_neg h1,decide_eq_false (fun e=>by unfold cmpZ at e;split at e;cases e;split at e;cases e;omega)]
   conv=>whnf
   refine VCall.of_data c2 (nd _) ?_
   conv=>whnf
   refine ⟨by rw [bsize];show 1+b.length < 2 ^ 62;omega,?_⟩
   rw [cat1]
   conv=>whnf
   refine ⟨by rw [bsize,bsize];show (45 :: a).length+(b.length+1) < 2 ^ 62;simp;omega,?_⟩
   rw [cat2]
   conv=>whnf
   exact ⟨by simp,trivial,rfl⟩
 ·rw [h]
  conv=>whnf
  refine VCall.lend c3 ⟨rfl,⟨rfl,by simp,rfl⟩,trivial⟩ rfl ?_
  conv=>whnf
  by_cases h1:q.den=1
  ·rw [if_pos h1,decide_eq_true (by rw [h1];decide)]
   conv=>whnf
   exact ⟨by simp,trivial,rfl⟩
  ·rw [if_neg h1,decide_eq_false (fun e=>by unfold cmpZ at e;split at e;cases e;split at e;cases e;omega)]
   conv=>whnf
   refine VCall.of_data c2 (nd _) ?_
   conv=>whnf
   refine ⟨by rw [bsize];show 1+b.length < 2 ^ 62;omega,?_⟩
   rw [cat1]
   conv=>whnf
   refine ⟨by rw [bsize,bsize];show (a).length+(b.length+1) < 2 ^ 62;simp;omega,?_⟩
   rw [cat2]
   conv=>whnf
   exact ⟨by simp,trivial,rfl⟩
end Go.V
namespace Go.V
open Go.Proofs Go.RowKit
set_option maxRecDepth 10000
set_option maxHeartbeats 1000000
end Go.V
namespace Go.V
open Go.Proofs Go.RowKit
set_option maxRecDepth 10000
set_option maxHeartbeats 1000000
abbrev sp:Int:=-7000000000000000101
end Go.V
namespace Go.V
open Go.Proofs Go.RowKit
set_option maxRecDepth 10000
set_option maxHeartbeats 1000000
def toldO:Option Rat→List UInt8×Bool
 | some q=>(toldT q,fitsQ q)
 | none=>([],false)
end Go.V
namespace Go.V
open Go.Proofs Go.RowKit
set_option maxRecDepth 10000
set_option maxHeartbeats 1000000
theorem sz_zero:sz (0:Rat)=1:=by decide
end Go.V
namespace Go.V
open Go.Proofs Go.RowKit
set_option maxRecDepth 10000
set_option maxHeartbeats 1000000
end Go.V
namespace Go.V
open Go.Proofs Go.RowKit
set_option maxRecDepth 10000
set_option maxHeartbeats 1000000
end Go.V
namespace Go.V
open Go.Proofs Go.RowKit
set_option maxRecDepth 10000
set_option maxHeartbeats 1000000
theorem fn_sNorm (xs:List Rat) (m:Nat) (h:∀q,q∈xs→sz q≤m) (h1:1≤m) (hl:xs.length≤1000) (hm:m≤1000000) (h0:rsum xs≠0):Fn Tryz.prog 51 [lS xs] [] (.ls 0 0 xs.length 3) [(0,.row true 3 (cS (xs.map (· / rsum xs))))]:=by
 have hps:=sz_psum h h1 xs.length;have hle:xs.length*(m+1)≤1000*(m+1):=mul_le hl (Nat.le_refl _);have ct:=fn_sTotal xs m h h1 (by omega) (by omega);have hsz:sz (rsum xs)≤1000*(m+1)+1:=by unfold rsum;omega
 generalize rsum xs=b at ct h0 hsz ⊢;refine Fn.intro (ks:=[0,2,3,4,5,10,11,12]) hty rfl rfl rfl rfl rfl ?_;conv=>whnf
 refine VCall.of_data ct (ndA fun k=>rfl) ?_;conv=>whnf
 refine VLoop.ren 8 22 rfl ?_;refine VLoop.inv hty (S:=Nat) (fun i=>[(11,I (i:Nat)),(10,I xs.length),(4,.ls 22 0 i 3),(3,.lp 3 0),(0,lS xs)]) (fun i=>[(22,.row true 3 (cS ((xs.take i).map (· / b)))),(3,.box true [B (ng b),nS (tp b),nS b.den])])
  (fun i=>i≤xs.length) (fun i=>xs.length - i) 0 (Nat.zero_le _) ⟨rfl,by show I ((cS xs).length:Nat)=_;rw [cS_len],rfl,rfl,rfl,trivial⟩ ⟨rfl,rfl,trivial⟩ ?_
 intro i hi;conv=>whnf
 refine Br.mk (fun h2=>?_) (fun h2=>?_)
 ·have h2:i < xs.length:=by simp only [decide_eq_true_eq] at h2;omega
  have sx:=getD_sz h i h1;have et:xs.take (i+1)=xs.take i++[xs.getD i 0]:=by rw [List.take_succ_eq_append_getElem h2,gD,List.getElem?_eq_getElem h2];rfl
  obtain ⟨x,ex⟩:∃x,xs.getD i 0=x:=⟨_,rfl⟩;rw [ex] at sx et;have co:=fn_sOver x b (by omega) h0;conv=>whnf
  refine VDraw.go hmo hty 8 [[21],[21],[21],[21],[21],[21],[21],[]] rfl ?_;conv=>whnf
  refine ⟨⟨⟨by omega,by rw [cS_len];omega⟩,cS_sz _⟩,?_⟩;conv=>whnf
  refine ⟨_,cS_as (x:=x) h2 ex,?_⟩;conv=>whnf
  refine QCall.of_data co (ndA fun k=>rfl) ?_;conv=>whnf
  refine Sub.full rfl ?_;conv=>whnf
  refine Sub.full (by rw [cS_len,List.length_map,List.length_take];omega) ?_;conv=>whnf
  refine ⟨by show (i+1)*56≤_;omega,?_⟩;conv=>whnf
  refine Wr.i64 (y:=((i+1:Nat):Int)) rfl (by omega) (by omega) ?_;conv=>whnf
  refine ⟨i+1,h2,by show xs.length - (i+1) < xs.length - i;omega,⟨rfl,rfl,rfl,rfl,rfl,trivial⟩,?_,rfl,trivial⟩;show Ob.row true 3 (cS _++cS [x / b])=_;rw [et,List.map_append];simp [cS]
 ·have h2:i=xs.length:=by simp only [decide_eq_false_iff_not] at h2;omega
  subst h2;rw [List.take_length];conv=>whnf
  exact ⟨⟨rfl,rfl,rfl,rfl,rfl,rfl⟩,[],rfl,trivial,rfl⟩
end Go.V
namespace Go.V
open Go.Proofs Go.RowKit
set_option maxRecDepth 10000
set_option maxHeartbeats 1000000
end Go.V
namespace Go.V
open Go.Proofs Go.RowKit
set_option maxRecDepth 10000
set_option maxHeartbeats 1000000
end Go.V
namespace Go.V
open Go.Proofs Go.RowKit
set_option maxRecDepth 10000
set_option maxHeartbeats 1000000
end Go.V
namespace Go.V
open Go.Proofs Go.RowKit
set_option maxRecDepth 10000
set_option maxHeartbeats 1000000
end Go.V
namespace Go.V
def Iz (E:Nat) (q:Rat):Prop:=∃z:Int,q*((E:Int):Rat)=(z:Rat)
theorem Iz.zero (E:Nat):Iz E 0:=⟨0,by simp [Rat.zero_mul]⟩
theorem Iz.one (E:Nat):Iz E 1:=⟨(E:Int),by rw [Rat.one_mul]⟩
theorem Iz.add {E:Nat} {a b:Rat} (h1:Iz E a) (h2:Iz E b):Iz E (a+b):=by
 obtain ⟨x,hx⟩:=h1;obtain ⟨y,hy⟩:=h2
 exact ⟨x+y,by rw [Rat.add_mul,hx,hy,Rat.intCast_add]⟩
theorem Iz.neg {E:Nat} {a:Rat} (h:Iz E a):Iz E (-a):=by
 obtain ⟨x,hx⟩:=h
 exact ⟨-x,by rw [Rat.neg_mul,hx,Rat.intCast_neg]⟩
theorem Iz.mul {E F:Nat} {a b:Rat} (h1:Iz E a) (h2:Iz F b):Iz (E*F) (a*b):=by
 obtain ⟨x,hx⟩:=h1;obtain ⟨y,hy⟩:=h2
 refine ⟨x*y,?_⟩
 rw [Rat.intCast_mul,←hx,←hy,Int.natCast_mul,Rat.intCast_mul]
 grind
theorem Iz.more {E:Nat} {a:Rat} (h:Iz E a) (F:Nat):Iz (E*F) a:=by
 have:=h.mul (Iz.one F)
 rwa [Rat.mul_one] at this
theorem Iz.more' {E:Nat} {a:Rat} (h:Iz E a) (F:Nat):Iz (F*E) a:=by rw [Nat.mul_comm];exact h.more F
theorem natc (n:Nat):((n:Nat):Rat)=((n:Int):Rat):=(Rat.intCast_natCast n).symm
theorem Iz.den (a:Rat):Iz a.den a:=⟨a.num,by
 have h:mkRat a.num a.den=a:=Rat.mkRat_self a;have hp:((a.den:Int):Rat)≠0:=by have:=a.den_nz;exact_mod_cast this
 rw [Rat.mkRat_eq_div,natc] at h;have h3:=Rat.div_mul_cancel (a:=((a.num:Int):Rat)) hp;rw [h] at h3;exact h3⟩
theorem Iz.of_dvd {E F:Nat} {a:Rat} (h:Iz E a) (d:E∣F):Iz F a:=by obtain ⟨k,rfl⟩:=d;exact h.more k
theorem Iz.sz {E:Nat} {a:Rat} (h:Iz E a) (hE:E≠0) (h0:0≤a) (M:Nat) (h1:a≤((M:Int):Rat)):sz a≤max (bl (M*E)) (bl E):=by
 obtain ⟨z,hz⟩:=h;have hp:(0:Rat) < ((E:Int):Rat):=by
  have:(0:Int) < (E:Int):=by omega
  exact_mod_cast this
 have hz0:0≤z:=by
  have:(0:Rat)≤(z:Rat):=by rw [←hz];exact Rat.mul_nonneg h0 (Rat.le_of_lt hp)
  exact_mod_cast this
 have hz1:z≤((M*E:Nat):Int):=by
  have:(z:Rat)≤(((M*E:Nat):Int):Rat):=by
   rw [←hz,Int.natCast_mul,Rat.intCast_mul];exact Rat.mul_le_mul_of_nonneg_right h1 (Rat.le_of_lt hp)
  exact_mod_cast this
 obtain ⟨t,rfl⟩:∃t:Nat,z=(t:Int):=⟨z.toNat,by omega⟩;have ea:a=mkRat (sgn false t) E:=by
  have h2:=natc E;rw [sgn_f,Rat.mkRat_eq_div,←hz,h2,Rat.div_def,Rat.mul_assoc,Rat.mul_inv_cancel _ (Rat.ne_of_gt hp),Rat.mul_one]
 rw [ea];refine Nat.le_trans (sz_mkRat hE) ?_;have:=bl_mono (a:=t) (b:=M*E) (by omega);omega
theorem Iz.sz1 {E:Nat} {a:Rat} (h:Iz E a) (hE:E≠0) (h0:0≤a) (h1:a≤1):Go.V.sz a≤bl E:=by
 have:=h.sz hE h0 1 (by simpa using h1)
 rw [Nat.one_mul] at this
 omega
theorem bl_pow (E:Nat) (h:1≤E):∀k,bl (E ^ k)≤k*bl E+1
 | 0=>by rw [Nat.pow_zero,bl_one];omega
 | k+1=>by
  rw [Nat.pow_succ]
  have h1:=bl_mul (E ^ k) E
  have h2:=bl_pow E h k
  have:(k+1)*bl E=k*bl E+bl E:=Nat.succ_mul _ _
  omega
def dens:List Rat→Nat
 | []=>1
 | q :: r=>q.den*dens r
theorem dens_pos:∀xs,dens xs≠0
 | []=>by decide
 | q :: r=>Nat.mul_ne_zero q.den_nz (dens_pos r)
theorem dens_dvd {q:Rat}:∀{xs:List Rat},q∈xs→q.den∣dens xs
 | x :: r,h=>by
  rcases List.mem_cons.1 h with rfl | h
  ·exact ⟨dens r,rfl⟩
  ·exact Nat.dvd_trans (dens_dvd h) ⟨x.den,Nat.mul_comm _ _⟩
theorem dens_bl {m:Nat}:∀{xs:List Rat},(∀q,q∈xs→Go.V.sz q≤m)→bl (dens xs)≤xs.length*m+1
 | [],_=>by show bl 1≤_;rw [bl_one];omega
 | x :: r,h=>by
  show bl (x.den*dens r)≤(r.length+1)*m+1
  have h1:=bl_mul x.den (dens r)
  have h2:=dens_bl (xs:=r) fun q hq=>h q (List.mem_cons_of_mem _ hq)
  have h3:=h x (by simp)
  have h4:=bl_den x
  have:(r.length+1)*m=r.length*m+m:=Nat.succ_mul _ _
  omega
end Go.V
namespace Go.V
def sN:Nat→(Nat→Rat)→Rat
 | 0,_=>0
 | n+1,f=>sN n f+f n
theorem sN_congr {n:Nat} {f g:Nat→Rat} (h:∀i,i < n→f i=g i):sN n f=sN n g:=by
 induction n with
 | zero=>rfl
 | succ n ih=>show sN n f+f n=sN n g+g n;rw [ih fun i hi=>h i (by omega),h n (by omega)]
theorem sN_zero (n:Nat):(sN n fun _=>0)=0:=by
 induction n with
 | zero=>rfl
 | succ n ih=>show sN n _+0=0;rw [ih,Rat.add_zero]
theorem sN_add (n:Nat) (f g:Nat→Rat):(sN n fun i=>f i+g i)=sN n f+sN n g:=by
 induction n with
 | zero=>show (0:Rat)=0+0;rw [Rat.add_zero]
 | succ n ih=>show (sN n fun i=>f i+g i)+(f n+g n)=(sN n f+f n)+(sN n g+g n);rw [ih];grind
theorem sN_mul (n:Nat) (a:Rat) (f:Nat→Rat):(sN n fun i=>a*f i)=a*sN n f:=by
 induction n with
 | zero=>show (0:Rat)=a*0;rw [Rat.mul_zero]
 | succ n ih=>show (sN n fun i=>a*f i)+a*f n=a*(sN n f+f n);rw [ih,Rat.mul_add]
theorem sN_comm (n m:Nat) (f:Nat→Nat→Rat):(sN n fun i=>sN m (f i))=sN m fun j=>sN n fun i=>f i j:=by
 induction n with
 | zero=>exact (sN_zero m).symm
 | succ n ih =>
  show (sN n fun i=>sN m (f i))+sN m (f n)=sN m fun j=>(sN n fun i=>f i j)+f n j
  rw [ih,←sN_add]
theorem sN_nonneg {n:Nat} {f:Nat→Rat} (h:∀i,i < n→0≤f i):0≤sN n f:=by
 induction n with
 | zero=>exact Rat.le_refl
 | succ n ih =>
  have h1:=ih fun i hi=>h i (by omega)
  have h2:=h n (by omega)
  show 0≤sN n f+f n
  grind
theorem sN_le {n:Nat} {f g:Nat→Rat} (h:∀i,i < n→f i≤g i):sN n f≤sN n g:=by
 induction n with
 | zero=>exact Rat.le_refl
 | succ n ih =>
  have h1:=ih fun i hi=>h i (by omega)
  have h2:=h n (by omega)
  show sN n f+f n≤sN n g+g n
  grind
theorem sN_mono {n m:Nat} {f:Nat→Rat} (hm:m≤n) (h:∀i,i < n→0≤f i):sN m f≤sN n f:=by
 induction n with
 | zero=>rw [show m=0 by omega];exact Rat.le_refl
 | succ n ih =>
  by_cases e:m=n+1
  ·subst e;exact Rat.le_refl
  ·have h1:=ih (by omega) fun i hi=>h i (by omega)
   have h2:=h n (by omega)
   show sN m f≤sN n f+f n
   grind
theorem sN_one_le {n k:Nat} {f:Nat→Rat} (hk:k < n) (h:∀i,i < n→0≤f i):f k≤sN n f:=by
 have h1:=sN_mono (m:=k+1) (by omega) h
 have h2:0≤sN k f:=sN_nonneg fun i hi=>h i (by omega)
 have h3:sN (k+1) f=sN k f+f k:=rfl
 grind
theorem sN_delta (n k:Nat) (f:Nat→Rat):(sN n fun i=>if i=k then f i else 0)=if k < n then f k else 0:=by
 induction n with
 | zero=>rfl
 | succ n ih =>
  show (sN n fun i=>if i=k then f i else 0)+(if n=k then f n else 0)=_
  rw [ih]
  by_cases h1:n=k
  ·subst h1;rw [if_neg (by omega),if_pos rfl,if_pos (by omega),Rat.zero_add]
  ·rw [if_neg h1,Rat.add_zero]
   by_cases h2:k < n
   ·rw [if_pos h2,if_pos (by omega)]
   ·rw [if_neg h2,if_neg (by omega)]
theorem sN_const_le {n:Nat} {f:Nat→Rat} {M:Nat} (h:∀i,i < n→f i≤((M:Int):Rat)):sN n f≤(((n*M:Nat):Int):Rat):=by
 induction n with
 | zero=>simp [sN]
 | succ n ih =>
  have h1:=ih fun i hi=>h i (by omega)
  have h2:=h n (by omega)
  show sN n f+f n≤_
  rw [Nat.succ_mul,Int.natCast_add,Rat.intCast_add]
  grind
theorem sN_iz {E n:Nat} {f:Nat→Rat} (h:∀i,i < n→Iz E (f i)):Iz E (sN n f):=by
 induction n with
 | zero=>exact Iz.zero E
 | succ n ih=>exact (ih fun i hi=>h i (by omega)).add (h n (by omega))
end Go.V
namespace Go.V
abbrev Mt:=List (List Rat)
def ent (p:Mt) (i j:Nat):Rat:=(p.getD i []).getD j 0
def stepAt (p:Mt) (w:List Rat) (j k:Nat):Rat:=sN k fun i=>w.getD i 0*ent p i j
def stepQ (p:Mt) (w:List Rat):List Rat:=(List.range w.length).map fun j=>stepAt p w j w.length
theorem stepQ_len (p:Mt) (w:List Rat):(stepQ p w).length=w.length:=by simp [stepQ]
def afterQ (p:Mt):Nat→List Rat→List Rat
 | 0,w=>w
 | k+1,w=>stepQ p (afterQ p k w)
theorem afterQ_len (p:Mt):∀(k:Nat) (w:List Rat),(afterQ p k w).length=w.length
 | 0,_=>rfl
 | k+1,w=>by show (stepQ p _).length=_;rw [stepQ_len,afterQ_len p k w]
theorem getD_mem {α:Type} {xs:List α} {i:Nat} {d:α} (h:i < xs.length):xs.getD i d∈xs:=by
 rw [gD,List.getElem?_eq_getElem h];exact List.getElem_mem h
theorem stepQ_at {p:Mt} {w:List Rat} {j:Nat} (h:j < w.length):(stepQ p w).getD j 0=stepAt p w j w.length:=by
 rw [gD,List.getElem?_eq_getElem (by rw [stepQ_len];exact h)];simp [stepQ]
structure MtOk (p:Mt):Prop where
 n1:1≤p.length
 n2:p.length≤12
 sq:∀r,r∈p→r.length=p.length
 pos:∀r,r∈p→∀q,q∈r→0≤q
 sz:∀r,r∈p→∀q,q∈r→Go.V.sz q≤800
 one:∀r,r∈p→sN r.length (r.getD · 0)=1
theorem MtOk.ent_mem {p:Mt} (h:MtOk p) {i j:Nat} (hi:i < p.length) (hj:j < p.length):p.getD i []∈p∧ent p i j∈p.getD i []:=by
 have h1:p.getD i []∈p:=getD_mem hi
 exact ⟨h1,getD_mem (by rw [h.sq _ h1];exact hj)⟩
theorem MtOk.ent_pos {p:Mt} (h:MtOk p) {i j:Nat} (hi:i < p.length) (hj:j < p.length):0≤ent p i j:=h.pos _ (h.ent_mem hi hj).1 _ (h.ent_mem hi hj).2
theorem MtOk.ent_sz {p:Mt} (h:MtOk p) {i j:Nat} (hi:i < p.length) (hj:j < p.length):Go.V.sz (ent p i j)≤800:=h.sz _ (h.ent_mem hi hj).1 _ (h.ent_mem hi hj).2
theorem MtOk.row_one {p:Mt} (h:MtOk p) {i:Nat} (hi:i < p.length):sN p.length (ent p i)=1:=by
 have h1:p.getD i []∈p:=getD_mem hi
 have h2:=h.one _ h1
 rw [h.sq _ h1] at h2
 exact h2
theorem MtOk.ent_le {p:Mt} (h:MtOk p) {i j:Nat} (hi:i < p.length) (hj:j < p.length):ent p i j≤1:=by
 rw [←h.row_one hi]
 exact sN_one_le (f:=ent p i) hj fun k hk=>h.ent_pos hi hk
def dM (p:Mt):Nat:=dens p.flatten
theorem dM_pos (p:Mt):dM p≠0:=dens_pos _
theorem flat_len {m:Nat}:∀{p:Mt},(∀r,r∈p→r.length=m)→p.flatten.length=p.length*m
 | [],_=>by simp
 | r :: p,h=>by
  have h1:=flat_len (p:=p) fun r hr=>h r (List.mem_cons_of_mem _ hr)
  rw [List.flatten_cons,List.length_append,h1,h r (by simp),List.length_cons,Nat.succ_mul,Nat.add_comm]
theorem MtOk.dM_bl {p:Mt} (h:MtOk p):bl (dM p)≤115201:=by
 have h1:=dens_bl (xs:=p.flatten) (m:=800) fun q hq=>by
  obtain ⟨r,hr,hq⟩:=List.mem_flatten.1 hq
  exact h.sz r hr q hq
 rw [flat_len h.sq] at h1
 have h2:p.length*p.length≤12*12:=Nat.mul_le_mul h.n2 h.n2
 have h3:p.length*p.length*800≤144*800:=Nat.mul_le_mul_right _ h2
 unfold dM
 omega
theorem MtOk.ent_iz {p:Mt} (h:MtOk p) {i j:Nat} (hi:i < p.length) (hj:j < p.length):Iz (dM p) (ent p i j) :=
 (Iz.den _).of_dvd (dens_dvd (List.mem_flatten.2 ⟨_,(h.ent_mem hi hj).1,(h.ent_mem hi hj).2⟩))
def Wk (n s:Nat) (w:List Rat):Prop:=w.length=n∧∃E M:Nat,E≠0∧bl M+bl E≤s∧∀q,q∈w→0≤q∧q≤((M:Int):Rat)∧Iz E q
theorem Iz.sz2 {E M:Nat} {a:Rat} (h:Iz E a) (hE:E≠0) (h0:0≤a) (h1:a≤((M:Int):Rat)):Go.V.sz a≤bl M+bl E:=by
 have h2:=h.sz hE h0 M h1
 have h3:=bl_mul M E
 omega
theorem Wk.sz {n s:Nat} {w:List Rat} (h:Wk n s w) {q:Rat} (hq:q∈w):Go.V.sz q≤s:=by
 obtain ⟨_,E,M,h1,h2,h3⟩:=h
 obtain ⟨h4,h5,h6⟩:=h3 q hq
 have:=h6.sz2 h1 h4 h5
 omega
theorem Wk.pos {n s:Nat} {w:List Rat} (h:Wk n s w) {q:Rat} (hq:q∈w):0≤q:=by
 obtain ⟨_,E,M,h1,h2,h3⟩:=h
 exact (h3 q hq).1
theorem step_part {p:Mt} (hp:MtOk p) {s:Nat} {w:List Rat} (h:Wk p.length s w) :
  ∃E M:Nat,E≠0∧bl M+bl E≤s+115210∧∀j k,j < p.length→k≤p.length→0≤stepAt p w j k∧stepAt p w j k≤((M:Int):Rat)∧Iz E (stepAt p w j k):=by
 obtain ⟨hl,E,M,h1,h2,h3⟩:=h
 have hb:=hp.dM_bl
 have h12:bl (p.length*M)≤4+bl M:=by
  have h4:=bl_mul p.length M
  have h5:bl p.length≤4:=bl_le (by have:=hp.n2;omega)
  omega
 have h6:=bl_mul E (dM p)
 refine ⟨E*dM p,p.length*M,Nat.mul_ne_zero h1 (dM_pos p),by omega,fun j k hj hk=>?_⟩
 have hm:∀i,i < p.length→0≤w.getD i 0∧w.getD i 0≤((M:Int):Rat)∧Iz E (w.getD i 0):=fun i hi=>h3 _ (getD_mem (by omega))
 have t0:∀i,i < p.length→0≤w.getD i 0*ent p i j:=fun i hi=>Rat.mul_nonneg (hm i hi).1 (hp.ent_pos hi hj)
 refine ⟨sN_nonneg fun i hi=>t0 i (by omega),?_,sN_iz fun i hi=>(hm i (by omega)).2.2.mul (hp.ent_iz (by omega) hj)⟩
 refine Rat.le_trans (sN_mono hk t0) (sN_const_le fun i hi=>?_)
 have h7:=Rat.mul_le_mul_of_nonneg_left (hp.ent_le hi hj) (hm i hi).1
 rw [Rat.mul_one] at h7
 exact Rat.le_trans h7 (hm i hi).2.1
theorem step_sz {p:Mt} (hp:MtOk p) {s:Nat} {w:List Rat} (h:Wk p.length s w) {j k:Nat} (hj:j < p.length) (hk:k≤p.length):sz (stepAt p w j k)≤s+115210:=by
 obtain ⟨E,M,h1,h2,h3⟩:=step_part hp h
 obtain ⟨h4,h5,h6⟩:=h3 j k hj hk
 have:=h6.sz2 h1 h4 h5
 omega
theorem Wk.step {p:Mt} (hp:MtOk p) {s:Nat} {w:List Rat} (h:Wk p.length s w):Wk p.length (s+115210) (stepQ p w):=by
 obtain ⟨E,M,h1,h2,h3⟩:=step_part hp h
 refine ⟨by rw [stepQ_len,h.1],E,M,h1,h2,fun q hq=>?_⟩
 obtain ⟨j,hj,rfl⟩:=List.mem_map.1 hq
 rw [h.1] at hj ⊢
 exact h3 j p.length (by simpa using hj) (Nat.le_refl _)
theorem Wk.after {p:Mt} (hp:MtOk p) {s:Nat} {w:List Rat} (h:Wk p.length s w):∀k,Wk p.length (s+k*115210) (afterQ p k w)
 | 0=>by rw [Nat.zero_mul];exact h
 | k+1=>by
  have:=(Wk.after hp h k).step hp
  rwa [Nat.add_assoc,←Nat.succ_mul] at this
def pointQ (n i:Nat):List Rat:=(List.range n).map fun j=>if j=i then 1 else 0
theorem pointQ_len (n i:Nat):(pointQ n i).length=n:=by simp [pointQ]
theorem pointQ_at {n i j:Nat} (h:j < n):(pointQ n i).getD j 0=if j=i then 1 else 0:=by
 rw [gD,List.getElem?_eq_getElem (by rw [pointQ_len];exact h)];simp [pointQ]
theorem pointQ_wk (n i:Nat):Wk n 2 (pointQ n i):=by
 refine ⟨pointQ_len n i,1,1,by decide,by decide,fun q hq=>?_⟩
 obtain ⟨j,_,rfl⟩:=List.mem_map.1 hq
 by_cases h:j=i
 ·rw [if_pos h];exact ⟨by decide,by decide,Iz.one 1⟩
 ·rw [if_neg h];exact ⟨by decide,by decide,Iz.zero 1⟩
theorem list_getD_ext {xs ys:List Rat} (hl:xs.length=ys.length) (h:∀i,i < xs.length→xs.getD i 0=ys.getD i 0):xs=ys:=by
 apply List.ext_getElem hl
 intro i h1 h2
 have:=h i h1
 rwa [gD,gD,List.getElem?_eq_getElem h1,List.getElem?_eq_getElem h2] at this
theorem step_point {p:Mt} (hp:MtOk p) {i:Nat} (hi:i < p.length):stepQ p (pointQ p.length i)=p.getD i []:=by
 have h1:p.getD i []∈p:=getD_mem hi
 apply list_getD_ext (by rw [stepQ_len,pointQ_len,hp.sq _ h1])
 intro j hj
 rw [stepQ_len,pointQ_len] at hj
 rw [stepQ_at (by rw [pointQ_len];exact hj),pointQ_len]
 unfold stepAt
 have:(sN p.length fun k=>(pointQ p.length i).getD k 0*ent p k j)=sN p.length fun k=>if k=i then ent p k j else 0:=sN_congr fun k hk=>by
  rw [pointQ_at hk]
  by_cases h:k=i
  ·rw [if_pos h,if_pos h,Rat.one_mul]
  ·rw [if_neg h,if_neg h,Rat.zero_mul]
 rw [this,sN_delta p.length i (fun k=>ent p k j),if_pos hi]
 rfl
end Go.V
namespace Go.V
open Go.Proofs Go.RowKit
set_option maxRecDepth 10000
set_option maxHeartbeats 1000000
theorem fn_rminus (q:Rat) (hs:sz q≤1000000000000):Fn Tryz.prog 85 [rI q] [] (rI (-q)) []:=by
 have hz:=dg_len_zero b32 (n:=tp q);obtain ⟨h1,h2,h3⟩:=neg_parts q;have e:(decide (0 < ((cW .u32 (dg B32 (tp q))).length:Int)))=decide (tp q≠0):=decide_eq_decide.2 (by rw [cW_len];constructor <;> intro h <;> omega);refine Fn.intro (ks:=[0,1,2]) hty rfl rfl rfl rfl rfl ?_;conv=>whnf
 refine Br.mk (fun h=>?_) (fun h=>?_)
 ·conv=>whnf
  refine ⟨?_,?_,?_,trivial,rfl⟩
  ·rw [e,h1];have h':ng q=false:=by simpa using h
   rw [h'];rfl
  ·rw [h2]
  ·rw [h3]
 ·conv=>whnf
  refine ⟨?_,?_,?_,trivial,rfl⟩
  ·rw [h1];have h':ng q=true:=by simpa using h
   rw [h'];rfl
  ·rw [h2]
  ·rw [h3]
theorem fn_rsub (p q:Rat) (hs:sz p+sz q≤99999999999):Fn Tryz.prog 61 [rI p,rI q] [] (rI (p - q)) []:=by
 have c1:=fn_rminus q (by omega)
 have c2:=fn_radd p (-q) (by rw [sz_neg];exact hs)
 rw [←Rat.sub_eq_add_neg] at c2
 refine Fn.intro (ks:=[0,1,2,3,4]) hty rfl rfl rfl rfl rfl ?_
 conv=>whnf
 refine VDraw.go hmo hty 4 [] rfl ?_
 conv=>whnf
 refine QCall.of_data c1 (ndA fun k=>rfl) ?_
 conv=>whnf
 refine QCall.of_data c2 (ndA fun k=>rfl) ?_
 conv=>whnf
 exact ⟨rfl,rfl,rfl,trivial,rfl⟩
def absQ (q:Rat):Rat:=if q < 0 then -q else q
theorem absQ_parts (q:Rat):ng (absQ q)=false∧tp (absQ q)=tp q∧(absQ q).den=q.den:=by
 unfold absQ;by_cases h:q < 0
 ·rw [if_pos h];obtain ⟨h1,h2,h3⟩:=neg_parts q;have:ng q=true:=by unfold ng;simp;have:=Rat.num_nonneg (q:=q);have h2:=Rat.not_le.2 h;exact Int.not_le.1 fun e=>h2 (this.1 e)
  rw [h1,this];exact ⟨rfl,h2,h3⟩
 ·rw [if_neg h];refine ⟨?_,rfl,rfl⟩;unfold ng;rw [decide_eq_false];intro h';exact h (Rat.not_le.1 fun e=>by have:=(Rat.num_nonneg (q:=q)).2 e;omega)
theorem sz_abs (q:Rat):sz (absQ q)=sz q:=by
 obtain ⟨_,h2,h3⟩:=absQ_parts q
 unfold sz;rw [h2,h3]
theorem sz_sN {m n:Nat} {f:Nat→Rat} (h:∀i,i < n→sz (f i)≤m):∀k,k≤n→sz (sN k f)≤k*(m+1)+1
 | 0,_=>by show sz (0:Rat)≤_;exact Nat.le_trans (by decide:sz (0:Rat)≤1) (by omega)
 | k+1,hk=>by
  show sz (sN k f+f k)≤_
  have h1:=sz_add (sN k f) (f k)
  have h2:=sz_sN h k (by omega)
  have h3:=h k (by omega)
  have:(k+1)*(m+1)=k*(m+1)+(m+1):=Nat.succ_mul _ _
  omega
theorem psum_sN (xs:List Rat):∀k,psum xs k=sN k (xs.getD · 0)
 | 0=>rfl
 | k+1=>by show psum xs k+_=sN k _+_;rw [psum_sN xs k]
theorem rsum_sN (xs:List Rat):rsum xs=sN xs.length (xs.getD · 0):=psum_sN xs _
def distT (a b:List Rat) (i:Nat):Rat:=absQ (a.getD i 0 - b.getD i 0)
def distQ (a b:List Rat):Rat:=sN a.length (distT a b) / 2
theorem distT_sz {a b:List Rat} {m:Nat} (ha:∀q,q∈a→sz q≤m) (hb:∀q,q∈b→sz q≤m) (h1:1≤m) (i:Nat):sz (distT a b i)≤2*m+1:=by
 unfold distT
 rw [sz_abs]
 have h2:=getD_sz ha i h1
 have h3:=getD_sz hb i h1
 have h4:=sz_sub (a.getD i 0) (b.getD i 0)
 omega
theorem sz_two:sz (2:Rat)=2:=by decide
theorem distQ_sz {a b:List Rat} {m:Nat} (ha:∀q,q∈a→sz q≤m) (hb:∀q,q∈b→sz q≤m) (h1:1≤m):sz (distQ a b)≤a.length*(2*m+2)+3:=by
 unfold distQ
 have h2:=sz_sN (n:=a.length) (fun i _=>distT_sz ha hb h1 i) a.length (Nat.le_refl _)
 have h3:=sz_div (sN a.length (distT a b)) (b:=2) (by decide)
 rw [sz_two] at h3
 have e:2*m+1+1=2*m+2:=rfl
 rw [e] at h2
 omega
theorem fn_distance (a b:List Rat) (m:Nat) (ha:∀q,q∈a→sz q≤m) (hb:∀q,q∈b→sz q≤m) (h1:1≤m) (hl:b.length=a.length) (hn:a.length≤1000) (hm:m≤10000000) :
  Fn Tryz.prog 42 [lQ a,lQ b] [] (rI (distQ a b)) []:=by
 have c0:=fn_whole 0 (by decide) (by decide);have c2:=fn_whole 2 (by decide) (by decide);have hlz:((cQ a).length:Int)=a.length:=by rw [cQ_len]
 have hmul:a.length*(2*m+2)≤1000*(2*m+2):=Nat.mul_le_mul_right _ hn;refine Fn.intro (ks:=[0,1,4,5,6,7,10,11,12]) hty rfl rfl rfl rfl rfl ?_;conv=>whnf
 refine VCall.of_data c0 (ndA fun k=>rfl) ?_;conv=>whnf
 refine VLoop.inv hty (S:=Nat) (fun i=>[(11,I i),(10,I a.length),(5,.lp 5 0),(4,.lp 4 0),(1,lQ b),(0,lQ a)])
  (fun i=>[(5,.box true [B (ng (sN i (distT a b))),nI (tp (sN i (distT a b))),nI (sN i (distT a b)).den]),(4,.box true _)]) (fun i=>i≤a.length) (fun i=>a.length - i) 0 (Nat.zero_le _)
  ⟨rfl,congrArg I hlz,rfl,rfl,rfl,rfl,trivial⟩ ⟨rfl,rfl,trivial⟩ ?_
 intro i hi;conv=>whnf
 refine Br.mk (fun h=>?_) (fun h=>?_)
 ·have h:i < a.length:=by simp only [decide_eq_true_eq] at h;omega
  obtain ⟨x,ex⟩:∃x,a.getD i 0=x:=⟨_,rfl⟩;obtain ⟨y,ey⟩:∃y,b.getD i 0=y:=⟨_,rfl⟩;have zx:=getD_sz ha i h1;have zy:=getD_sz hb i h1;have zs:=sz_sN (n:=a.length) (fun i _=>distT_sz ha hb h1 i) i hi;have zm:i*(2*m+1+1)≤a.length*(2*m+2):=Nat.mul_le_mul hi (by omega);have zd:=distT_sz ha hb h1 i;have ed:distT a b i=absQ (x - y):=by unfold distT;rw [ex,ey]
  have es:sN (i+1) (distT a b)=sN i (distT a b)+distT a b i:=rfl;rw [ex] at zx;rw [ey] at zy;have cs:=fn_rsub x y (by omega);have ca:=fn_radd (sN i (distT a b)) (distT a b i) (by omega);rw [←es] at ca;obtain ⟨p1,p2,p3⟩:=absQ_parts (x - y);rw [←ed] at p1 p2 p3;conv=>whnf
  refine VDraw.go hmo hty 10 [[7],[7],[7],[7],[7],[7],[7],[7],[7],[]] rfl ?_;conv=>whnf
  refine ⟨⟨⟨by omega,by omega⟩,cQ_sz _⟩,?_⟩;conv=>whnf
  refine ⟨_,cQ_as h ex,?_⟩;conv=>whnf
  refine ⟨⟨⟨by omega,by rw [cQ_len];omega⟩,cQ_sz _⟩,?_⟩;conv=>whnf
  refine ⟨_,cQ_as (by omega) ey,?_⟩;conv=>whnf
  refine QCall.of_data cs (ndA fun k=>rfl) ?_;conv=>whnf
  rw [←p2,←p3];rw [show AV.d (C.s (Value.bool false))=B (ng (distT a b i)) by rw [p1]];conv=>whnf
  refine VCall.of_data ca (ndA fun k=>rfl) ?_;conv=>whnf
  refine Wr.i64 (y:=((i+1:Nat):Int)) rfl (by omega) (by omega) ?_;conv=>whnf
  exact ⟨i+1,h,by show a.length - (i+1) < a.length - i;omega,⟨rfl,rfl,rfl,rfl,rfl,rfl,trivial⟩,rfl,rfl,trivial⟩
 ·have h:i=a.length:=by simp only [decide_eq_false_iff_not] at h;omega
  subst h;have zs:=sz_sN (n:=a.length) (fun i _=>distT_sz ha hb h1 i) a.length (Nat.le_refl _);rw [show 2*m+1+1=2*m+2 from rfl] at zs;conv=>whnf
  refine VDraw.go hmo hty 3 [] rfl ?_;conv=>whnf
  refine QCall.of_data c2 (ndA fun k=>rfl) ?_;conv=>whnf
  refine QCall.of_data (fn_rover _ 2 (by omega) (by decide) (by decide)) (ndA fun k=>rfl) ?_;conv=>whnf
  exact ⟨rfl,rfl,rfl,trivial,rfl⟩
end Go.V
namespace Go.V
open Go.Proofs Go.RowKit
set_option maxRecDepth 10000
set_option maxHeartbeats 1000000
theorem ng_lt (q:Rat):ng q=decide (q < 0):=by
 unfold ng
 refine decide_eq_decide.2 ?_
 have h:=Rat.num_nonneg (q:=q)
 rw [←Rat.not_le,←h];omega
theorem sgI_negD (q:Rat):decide (sgI q < 0)=decide (q < 0):=by
 rw [←ng_lt]
 unfold sgI
 by_cases h:tp q=0
 ·rw [if_pos h]
  have:q=0:=tp_zero.1 h
  subst this;rfl
 ·rw [if_neg h]
  cases ng q <;> rfl
def isW (x:List Rat):Bool:=(x.all fun q=>!decide (q < 0)) && decide (rsum x=1)
def wQ (xs:List (List UInt8)):Option (List Rat):=match rdRats xs with
 | none=>none
 | some x=>if isW x then some x else none
theorem fn_weightsOf (xs:List (List UInt8)) (hl:xs.length≤1000000) (hs:∀x,x∈xs→x.length≤1000000):Fn Tryz.prog 38 [lT xs] [] (.tup [lQ ((wQ xs).getD []),B (wQ xs).isSome]) []:=by
 have c1:=fn_rats xs (by omega) (fun x hx=>by have:=hs x hx;omega);refine Fn.intro (ks:=[0,2,3,4,5,22]) hty rfl rfl rfl rfl rfl ?_;cases h:rdRats xs with
 | none =>
  rw [h] at c1;rw [show wQ xs=none by unfold wQ;rw [h]];conv=>whnf
  refine VCall.of_data c1 (ndT fun _=>rfl) ?_;conv=>whnf
  exact ⟨rfl,trivial,rfl⟩
 | some x =>
  obtain ⟨l1,l2,l3⟩:=rdRats_sz h;rw [h] at c1;replace c1:Fn Tryz.prog 53 [lT xs] [] (.tup [lQ x,B true]) []:=c1;have c2:=fn_containsQ 55 (fun q=>decide (sgI q < 0)) x (by omega) (fun q hq=>fn_isMinus q (by have:=l3 q hq;omega));have hm:x.length*801≤300*801:=Nat.mul_le_mul_right _ l1;have c3:=fn_sum x 800 l3 (by decide) (by omega) (by omega);have z3:=sz_psum l3 (by decide) x.length;have c4:=fn_isOne (rsum x) (by show sz (psum x x.length)≤_;omega);have e:(x.any fun q=>decide (sgI q < 0)) = !(x.all fun q=>!decide (q < 0)):=by
   rw [List.not_all_eq_any_not]
   congr 1
   funext q
   rw [Bool.not_not];exact sgI_negD q
  rw [e] at c2;obtain ⟨b1,e1⟩:∃b,(x.all fun q=>!decide (q < 0))=b:=⟨_,rfl⟩;obtain ⟨b2,e2⟩:∃b,decide (rsum x=1)=b:=⟨_,rfl⟩;have hw:wQ xs=if (b1 && b2)=true then some x else none:=by unfold wQ isW;rw [h,←e1,←e2]
  rw [e1] at c2;rw [e2] at c4;rw [hw];conv=>whnf
  refine VCall.of_data c1 (ndT fun _=>rfl) ?_;conv=>whnf
  refine VCall.of_data c2 (nd _) ?_;conv=>whnf
  cases b1 with
  | false =>
   conv=>whnf
   exact ⟨rfl,trivial,rfl⟩
  | true =>
   conv=>whnf
   refine VCall.of_data c3 (ndA fun k=>rfl) ?_;conv=>whnf
   refine VCall.of_data c4 (nd _) ?_;conv=>whnf
   cases b2 with
   | false =>
    conv=>whnf
    exact ⟨rfl,trivial,rfl⟩
   | true =>
    conv=>whnf
    exact ⟨rfl,rfl,trivial,rfl⟩
def cTT (rows:List (List (List UInt8))):List (List C):=rows.map fun r=>[.sl (cT r)]
def cM (p:Mt):List (List C):=p.map fun r=>[.sl (cQ r)]
theorem cTT_len (p:List (List (List UInt8))):(cTT p).length=p.length:=by simp [cTT]
theorem cM_len (p:Mt):(cM p).length=p.length:=by simp [cM]
theorem cTT_sz (p:List (List (List UInt8))):∀r,r∈cTT p→r.length=1:=by intro r hr;obtain ⟨n,_,rfl⟩:=List.mem_map.1 hr;rfl
theorem cM_sz (p:Mt):∀r,r∈cM p→r.length=1:=by intro r hr;obtain ⟨n,_,rfl⟩:=List.mem_map.1 hr;rfl
theorem cTT_as {p:List (List (List UInt8))} {i:Nat} {x:List (List UInt8)} (h:i < p.length) (e:p.getD i []=x):(cTT p)[i]? = some [.sl (cT x)]:=by
 subst e;rw [gD,List.getElem?_eq_getElem h];simp [cTT,h]
theorem cM_as {p:Mt} {i:Nat} {x:List Rat} (h:i < p.length) (e:p.getD i []=x):(cM p)[i]? = some [.sl (cQ x)]:=by
 subst e;rw [gD,List.getElem?_eq_getElem h];simp [cM,h]
theorem cM_append1 (p:Mt) (x:List Rat):cM p++[[.sl (cQ x)]]=cM (p++[x]):=by simp [cM]
abbrev lM (p:Mt):AV:=.d (.sl (cM p))
abbrev chI (rows:List (List (List UInt8))):AV:=.ag [.d (.sl (cTT rows))]
def rowQ (n:Nat) (r:List (List UInt8)):Option (List Rat):=if r.length=n then wQ r else none
def chainL (n:Nat):List (List (List UInt8))→Option Mt
 | []=>some []
 | r :: rs=>match rowQ n r with
  | none=>none
  | some x=>(chainL n rs).map (x :: ·)
def chainQ (rows:List (List (List UInt8))):Option Mt:=if rows.length < 1∨12 < rows.length then none else chainL rows.length rows
theorem wQ_len {r:List (List UInt8)} {x:List Rat} (h:wQ r=some x):x.length=r.length∧(∀q,q∈x→sz q≤800)∧(∀q,q∈x→0≤q)∧rsum x=1:=by
 unfold wQ at h
 cases h2:rdRats r with
 | none=>rw [h2] at h;cases h
 | some y =>
  rw [h2] at h
  dsimp only at h
  split at h
  ·rename_i hw
   cases h
   obtain ⟨_,l2,l3⟩:=rdRats_sz h2
   unfold isW at hw
   rw [Bool.and_eq_true,List.all_eq_true,decide_eq_true_eq] at hw
   exact ⟨l2,l3,fun q hq=>by have:=hw.1 q hq;simp at this;exact Rat.not_lt.1 this,hw.2⟩
  ·cases h
theorem chainL_ok {n:Nat}:∀{rows:List (List (List UInt8))} {p:Mt},chainL n rows=some p→p.length=rows.length∧∀r,r∈p→r.length=n∧(∀q,q∈r→sz q≤800)∧(∀q,q∈r→0≤q)∧rsum r=1
 | [],p,h=>by cases h;exact ⟨rfl,fun r hr=>(by cases hr)⟩
 | r :: rs,p,h=>by
  unfold chainL at h
  cases h1:rowQ n r with
  | none=>rw [h1] at h;cases h
  | some x =>
   rw [h1] at h
   dsimp only at h
   cases h2:chainL n rs with
   | none=>rw [h2] at h;cases h
   | some q =>
    rw [h2] at h
    cases h
    obtain ⟨g1,g2⟩:=chainL_ok h2
    refine ⟨by simp [g1],fun s hs=>?_⟩
    rcases List.mem_cons.1 hs with rfl | hs
    ·unfold rowQ at h1
     split at h1
     ·rename_i hn
      obtain ⟨w1,w2⟩:=wQ_len h1
      exact ⟨w1.trans hn,w2⟩
     ·cases h1
    ·exact g2 s hs
theorem chainQ_ok {rows:List (List (List UInt8))} {p:Mt} (h:chainQ rows=some p):MtOk p:=by
 unfold chainQ at h
 split at h
 ·cases h
 ·rename_i hn
  obtain ⟨g1,g2⟩:=chainL_ok h
  exact ⟨by omega,by omega,fun r hr=>by rw [(g2 r hr).1,g1],fun r hr=>(g2 r hr).2.2.1,fun r hr=>(g2 r hr).2.1,fun r hr=>by rw [←rsum_sN];exact (g2 r hr).2.2.2⟩
theorem chainL_step {n:Nat} {rows:List (List (List UInt8))} {i:Nat} {acc:Mt} {r:List (List UInt8)} (h:i < rows.length) (er:rows.getD i []=r) (hI:chainL n rows=(chainL n (rows.drop i)).map (acc ++ ·)) :
  (rowQ n r=none→chainL n rows=none)∧∀x,rowQ n r=some x→chainL n rows=(chainL n (rows.drop (i+1))).map ((acc++[x]) ++ ·):=by
 have e:rows.drop i=r :: rows.drop (i+1):=by
  rw [List.drop_eq_getElem_cons h,←er,gD,List.getElem?_eq_getElem h];rfl
 rw [e] at hI
 refine ⟨fun hn=>by rw [hI,chainL,hn];rfl,fun x hx=>?_⟩
 rw [hI,chainL,hx]
 dsimp only
 cases chainL n (rows.drop (i+1)) with
 | none=>rfl
 | some q=>simp
theorem fn_chainOf (rows:List (List (List UInt8))) (hl:rows.length≤1000000) (hr:∀r,r∈rows→r.length≤1000000) (hs:∀r,r∈rows→∀x,x∈r→x.length≤1000000) :
  Fn Tryz.prog 18 [chI rows] [] (.tup [lM ((chainQ rows).getD []),B (chainQ rows).isSome]) []:=by
 have hz:((cTT rows).length:Int)=rows.length:=by rw [cTT_len]
 refine Fn.intro (ks:=[0,1,2,3,4,6,7,8,18,21,22,23,24,41]) hty rfl rfl rfl rfl rfl ?_;conv=>whnf
 rw [hz];refine Br.mk (fun h=>?_) (fun h=>?_)
 ·have h:rows.length < 1:=by simp only [decide_eq_true_eq] at h;omega
  rw [show chainQ rows=none by unfold chainQ;rw [if_pos (.inl h)]];conv=>whnf
  exact ⟨rfl,trivial,rfl⟩
 ·have h1:¬rows.length < 1:=by simp only [decide_eq_false_iff_not] at h;omega
  conv=>whnf
  rw [hz];refine Br.mk (fun h=>?_) (fun h=>?_)
  ·have h:12 < rows.length:=by simp only [decide_eq_true_eq] at h;omega
   rw [show chainQ rows=none by unfold chainQ;rw [if_pos (.inr h)]];conv=>whnf
   exact ⟨rfl,trivial,rfl⟩
  ·have h2:¬12 < rows.length:=by simp only [decide_eq_false_iff_not] at h;omega
   have hq:chainQ rows=chainL rows.length rows:=by unfold chainQ;rw [if_neg (by omega)]
   rw [hq];conv=>whnf
   refine VLoop.ren 19 45 rfl ?_;refine VLoop.inv hty (S:=Mt×Nat) (fun x=>[(23,I x.2),(22,I rows.length),(21,.d (.sl (cTT rows))),(4,.ls 45 0 x.2 1),(1,.lp 1 0)]) (fun x=>[(45,.row true 1 (cM x.1)),(1,.box true [.d (.sl (cTT rows))])])
    (fun x=>x.2≤rows.length∧x.1.length=x.2∧chainL rows.length rows=(chainL rows.length (rows.drop x.2)).map (x.1 ++ ·)) (fun x=>rows.length - x.2) ([],0) ⟨Nat.zero_le _,rfl,by rw [List.drop_zero];cases chainL rows.length rows <;> simp⟩
    ⟨rfl,congrArg I hz,rfl,rfl,rfl,trivial⟩ ⟨rfl,rfl,trivial⟩ ?_
   intro x hx;obtain ⟨g1,g2,g3⟩:=hx;conv=>whnf
   refine Br.mk (fun h=>?_) (fun h=>?_)
   ·have h:x.2 < rows.length:=by simp only [decide_eq_true_eq] at h;omega
    obtain ⟨r,er⟩:∃r,rows.getD x.2 []=r:=⟨_,rfl⟩;have hm:r∈rows:=by rw [←er];exact getD_mem h
    have c1:=fn_weightsOf r (hr r hm) (hs r hm);obtain ⟨s1,s2⟩:=chainL_step h er g3;conv=>whnf
    refine ⟨⟨⟨by omega,by rw [cTT_len];omega⟩,cTT_sz _⟩,?_⟩;conv=>whnf
    refine ⟨_,cTT_as h er,?_⟩;conv=>whnf
    cases hw:wQ r with
    | none =>
     rw [hw] at c1;refine VCall.of_data c1 (ndT fun _=>rfl) ?_;conv=>whnf
     rw [s1 (by unfold rowQ;rw [hw,ite_self])];exact ⟨rfl,trivial,rfl⟩
    | some y =>
     have hy:=(wQ_len hw).1;rw [hw] at c1;replace c1:Fn Tryz.prog 38 [lT r] [] (.tup [lQ y,B true]) []:=c1;refine VCall.of_data c1 (ndT fun _=>rfl) ?_;conv=>whnf
     rw [hz,cQ_len];by_cases he:y.length=rows.length
     ·rw [decide_eq_true (show (y.length:Int)=rows.length by omega)];conv=>whnf
      refine Sub.full rfl ?_;conv=>whnf
      refine Sub.full (by rw [cM_len,g2]) ?_;conv=>whnf
      refine ⟨by show (x.2+1)*24≤_;omega,?_⟩;conv=>whnf
      refine Wr.i64 (y:=((x.2+1:Nat):Int)) rfl (by omega) (by omega) ?_;conv=>whnf
      refine ⟨(x.1++[y],x.2+1),⟨h,by simp [g2],s2 y (by unfold rowQ;rw [if_pos (by omega),hw])⟩,by show rows.length - (x.2+1) < rows.length - x.2;omega,⟨rfl,rfl,rfl,rfl,rfl,trivial⟩,?_,rfl,trivial⟩;show Ob.row true 1 (cM x.1++_)=_;rw [cM_append1]
     ·rw [decide_eq_false (show ¬(y.length:Int)=rows.length by omega)];rw [s1 (by unfold rowQ;rw [if_neg (by omega)])];conv=>whnf
      exact ⟨rfl,trivial,rfl⟩
   ·have h:x.2=rows.length:=by simp only [decide_eq_false_iff_not] at h;omega
    rw [g3,h,List.drop_length];conv=>whnf
    refine ⟨⟨rfl,by rw [cM_len,g2];omega,?_⟩,rfl,trivial,rfl⟩;rw [List.drop_zero,List.take_of_length_le (by rw [cM_len,g2];omega)];show cM x.1=cM (x.1++[]);rw [List.append_nil]
end Go.V
namespace Go.V
open Go.Proofs Go.RowKit
set_option maxRecDepth 10000
set_option maxHeartbeats 1000000
end Go.V
namespace Go.V
open Go.Proofs Go.RowKit
set_option maxRecDepth 10000
set_option maxHeartbeats 1000000
def minC (p:Mt) (j:Nat):Nat→Rat
 | 0=>ent p 0 j
 | k+1=>if ent p k j < minC p j k then ent p k j else minC p j k
theorem minC_mem {p:Mt} (hp:1≤p.length) (j:Nat):∀k,k≤p.length→∃i,i < p.length∧minC p j k=ent p i j
 | 0,_=>⟨0,hp,rfl⟩
 | k+1,h=>by
  obtain ⟨i,h1,h2⟩:=minC_mem hp j k (by omega)
  by_cases hc:ent p k j < minC p j k
  ·exact ⟨k,h,by rw [minC,if_pos hc]⟩
  ·exact ⟨i,h1,by rw [minC,if_neg hc,h2]⟩
def commonT (p:Mt) (j:Nat):Rat:=minC p j p.length
def commonQ (p:Mt):Rat:=sN p.length (commonT p)
structure MtSz (p:Mt) (m:Nat):Prop where
 n1:1≤p.length
 n2:p.length≤12
 sq:∀r,r∈p→r.length=p.length
 sz:∀r,r∈p→∀q,q∈r→Go.V.sz q≤m
theorem MtOk.toSz {p:Mt} (h:MtOk p):MtSz p 800:=⟨h.n1,h.n2,h.sq,h.sz⟩
theorem MtSz.ent_sz {p:Mt} {m:Nat} (h:MtSz p m) {i j:Nat} (hi:i < p.length) (hj:j < p.length):Go.V.sz (ent p i j)≤m:=by
 have h1:p.getD i []∈p:=getD_mem hi
 exact h.sz _ h1 _ (getD_mem (by rw [h.sq _ h1];exact hj))
theorem MtSz.len {p:Mt} {m:Nat} (h:MtSz p m) {i:Nat} (hi:i < p.length):(p.getD i []).length=p.length:=h.sq _ (getD_mem hi)
theorem MtSz.min_sz {p:Mt} {m:Nat} (h:MtSz p m) {j:Nat} (hj:j < p.length) {k:Nat} (hk:k≤p.length):Go.V.sz (minC p j k)≤m:=by
 obtain ⟨i,h1,h2⟩:=minC_mem h.n1 j k hk
 rw [h2];exact h.ent_sz h1 hj
theorem fn_common (p:Mt) (m:Nat) (h:MtSz p m) (hm:m≤100000000):Fn Tryz.prog 31 [lM p] [] (rI (commonQ p)) []:=by
 have hz:((cM p).length:Int)=p.length:=by rw [cM_len]
 have h1:=h.n1;have h2:=h.n2;have hc:∀j,j < p.length→sz (commonT p j)≤m:=fun j hj=>h.min_sz hj (Nat.le_refl _);refine Fn.intro (ks:=[0,2,3,4,5,6,9,10,11,20,21,22,33]) hty rfl rfl rfl rfl rfl ?_;conv=>whnf
 refine VCall.of_data (fn_whole 0 (by decide) (by decide)) (ndA fun k=>rfl) ?_;conv=>whnf
 refine VLoop.inv hty (S:=Nat) (fun j=>[(10,I j),(9,I p.length),(3,.lp 3 0),(2,.lp 2 0),(0,lM p)]) (fun j=>[(3,.box true [B (ng (sN j (commonT p))),nI (tp (sN j (commonT p))),nI (sN j (commonT p)).den]),(2,.box true _)])
  (fun j=>j≤p.length) (fun j=>p.length - j) 0 (Nat.zero_le _) ⟨rfl,congrArg I hz,rfl,rfl,rfl,trivial⟩ ⟨rfl,rfl,trivial⟩ ?_
 intro j hj;conv=>whnf
 refine Br.mk (fun hb=>?_) (fun hb=>?_)
 ·have hb:j < p.length:=by simp only [decide_eq_true_eq] at hb;omega
  have zs:=sz_sN hc j hj;have zm:j*(m+1)≤12*(m+1):=Nat.mul_le_mul_right _ (by omega);have zc:=hc j hb;have ca:=fn_radd (sN j (commonT p)) (commonT p j) (by omega);rw [show sN j (commonT p)+commonT p j=sN (j+1) (commonT p) from rfl] at ca;conv=>whnf
  refine ⟨⟨⟨by omega,by rw [cM_len];omega⟩,cM_sz _⟩,?_⟩;conv=>whnf
  refine ⟨_,cM_as (x:=p.getD 0 []) (by omega) rfl,?_⟩;conv=>whnf
  refine ⟨⟨⟨by omega,by rw [cQ_len,h.len (by omega)];omega⟩,cQ_sz _⟩,?_⟩;conv=>whnf
  refine ⟨_,cQ_as (x:=ent p 0 j) (by rw [h.len (by omega)];exact hb) rfl,?_⟩;conv=>whnf
  refine VLoop.inv hty (S:=Nat) (fun i=>[(21,I i),(20,I p.length),(10,I j),(9,I p.length),(5,.lp 5 0),(4,I j),(3,.lp 3 0),(2,.lp 2 0),(0,lM p)])
   (fun i=>[(5,.box true [B (ng (minC p j i)),nI (tp (minC p j i)),nI (minC p j i).den]),(3,.box true [B (ng (sN j (commonT p))),nI (tp (sN j (commonT p))),nI (sN j (commonT p)).den]),(2,.box true _)])
   (fun i=>i≤p.length) (fun i=>p.length - i) 0 (Nat.zero_le _) ⟨rfl,congrArg I hz,rfl,rfl,rfl,rfl,rfl,rfl,rfl,trivial⟩ ⟨rfl,rfl,rfl,trivial⟩ ?_
  intro i hi;conv=>whnf
  refine Br.mk (fun hc2=>?_) (fun hc2=>?_)
  ·have hc2:i < p.length:=by simp only [decide_eq_true_eq] at hc2;omega
   have z1:=h.ent_sz hc2 hb;have z2:=h.min_sz hb hi;have cc:=fn_rcmp (ent p i j) (minC p j i) (by omega) (by omega);conv=>whnf
   refine VDraw.go hmo hty 10 [] rfl ?_;conv=>whnf
   refine ⟨⟨⟨by omega,by rw [cM_len];omega⟩,cM_sz _⟩,?_⟩;conv=>whnf
   refine ⟨_,cM_as (x:=p.getD i []) hc2 rfl,?_⟩;conv=>whnf
   refine ⟨⟨⟨by omega,by rw [cQ_len,h.len hc2];omega⟩,cQ_sz _⟩,?_⟩;conv=>whnf
   refine ⟨_,cQ_as (x:=ent p i j) (by rw [h.len hc2];exact hb) rfl,?_⟩;conv=>whnf
   refine QCall.of_data cc (nd _) ?_;conv=>whnf
   refine Br.mk (fun hd=>?_) (fun hd=>?_)
   ·have hd:ent p i j < minC p j i:=rcI_neg.1 (by simpa using hd);have e:minC p j (i+1)=ent p i j:=by rw [minC,if_pos hd]
    conv=>whnf
    refine ⟨⟨⟨by omega,by rw [cM_len];omega⟩,cM_sz _⟩,?_⟩;conv=>whnf
    refine ⟨_,cM_as (x:=p.getD i []) hc2 rfl,?_⟩;conv=>whnf
    refine ⟨⟨⟨by omega,by rw [cQ_len,h.len hc2];omega⟩,cQ_sz _⟩,?_⟩;conv=>whnf
    refine ⟨_,cQ_as (x:=ent p i j) (by rw [h.len hc2];exact hb) rfl,?_⟩;conv=>whnf
    refine Wr.i64 (y:=((i+1:Nat):Int)) rfl (by omega) (by omega) ?_;conv=>whnf
    refine ⟨i+1,hc2,by show p.length - (i+1) < p.length - i;omega,⟨rfl,rfl,rfl,rfl,rfl,rfl,rfl,rfl,rfl,trivial⟩,?_,rfl,rfl,trivial⟩;rw [e];rfl
   ·have hd:¬ent p i j < minC p j i:=fun e=>by have:=rcI_neg.2 e;simp at hd;omega
    have e:minC p j (i+1)=minC p j i:=by rw [minC,if_neg hd]
    conv=>whnf
    refine Wr.i64 (y:=((i+1:Nat):Int)) rfl (by omega) (by omega) ?_;conv=>whnf
    refine ⟨i+1,hc2,by show p.length - (i+1) < p.length - i;omega,⟨rfl,rfl,rfl,rfl,rfl,rfl,rfl,rfl,rfl,trivial⟩,?_,rfl,rfl,trivial⟩;rw [e];rfl
  ·have hc2:i=p.length:=by simp only [decide_eq_false_iff_not] at hc2;omega
   subst hc2;conv=>whnf
   refine VCall.of_data ca (ndA fun k=>rfl) ?_;conv=>whnf
   refine Wr.i64 (y:=((j+1:Nat):Int)) rfl (by omega) (by omega) ?_;conv=>whnf
   exact ⟨j+1,hb,by show p.length - (j+1) < p.length - j;omega,⟨rfl,rfl,rfl,rfl,rfl,trivial⟩,rfl,rfl,trivial⟩
 ·have hb:j=p.length:=by simp only [decide_eq_false_iff_not] at hb;omega
  subst hb;conv=>whnf
  exact ⟨rfl,rfl,rfl,trivial,rfl⟩
end Go.V
namespace Go.V
open Go.Proofs Go.RowKit
set_option maxRecDepth 10000
set_option maxHeartbeats 1000000
def mx (m:Rat) (l:List Rat):Rat:=l.foldl (fun m d=>if m < d then d else m) m
theorem mx_snoc (m:Rat) (l:List Rat) (d:Rat):mx m (l++[d])=if mx m l < d then d else mx m l:=by
 unfold mx;rw [List.foldl_append];rfl
theorem mx_spec (l:List Rat):∀m,m≤mx m l∧(∀d,d∈l→d≤mx m l)∧(mx m l=m∨mx m l∈l):=by
 induction l with
 | nil=>intro m;exact ⟨Rat.le_refl,fun d h=>(by cases h),.inl rfl⟩
 | cons a l ih =>
  intro m
  obtain ⟨h1,h2,h3⟩:=ih (if m < a then a else m)
  have e:mx m (a :: l)=mx (if m < a then a else m) l:=rfl
  rw [e]
  by_cases hc:m < a
  ·rw [if_pos hc] at h1 h2 h3 ⊢
   refine ⟨Rat.le_trans (Rat.le_of_lt hc) h1,fun d hd=>?_,?_⟩
   ·rcases List.mem_cons.1 hd with rfl | hd
    ·exact h1
    ·exact h2 d hd
   ·rcases h3 with h3 | h3
    ·exact .inr (by rw [h3];simp)
    ·exact .inr (List.mem_cons_of_mem _ h3)
  ·rw [if_neg hc] at h1 h2 h3 ⊢
   refine ⟨h1,fun d hd=>?_,?_⟩
   ·rcases List.mem_cons.1 hd with rfl | hd
    ·exact Rat.le_trans (Rat.not_lt.1 hc) h1
    ·exact h2 d hd
   ·rcases h3 with h3 | h3
    ·exact .inl h3
    ·exact .inr (List.mem_cons_of_mem _ h3)
def dI (p:Mt) (i k:Nat):Rat:=distQ (p.getD i []) (p.getD k [])
theorem abs_symm (a b:Rat):absQ (a - b)=absQ (b - a):=by
 unfold absQ
 by_cases h:a < b
 ·rw [if_pos (by grind),if_neg (by grind)];grind
 ·by_cases h2:b < a
  ·rw [if_neg (by grind),if_pos (by grind)];grind
  ·have:a=b:=Rat.le_antisymm (Rat.not_lt.1 h2) (Rat.not_lt.1 h)
   subst this;rfl
theorem dist_symm {a b:List Rat} (h:a.length=b.length):distQ a b=distQ b a:=by
 unfold distQ
 rw [h]
 congr 1
 exact sN_congr fun i _=>by unfold distT;exact abs_symm _ _
theorem dI_symm {p:Mt} {m:Nat} (h:MtSz p m) {i k:Nat} (hi:i < p.length) (hk:k < p.length):dI p i k=dI p k i:=dist_symm (by rw [h.len hi,h.len hk])
theorem dI_sz {p:Mt} {m:Nat} (h:MtSz p m) (h1:1≤m) {i k:Nat} (hi:i < p.length) (hk:k < p.length):sz (dI p i k)≤24*m+27:=by
 have h2:=distQ_sz (a:=p.getD i []) (b:=p.getD k []) (m:=m) (h.sz _ (getD_mem hi)) (h.sz _ (getD_mem hk)) h1
 have h3:(p.getD i []).length*(2*m+2)≤12*(2*m+2):=Nat.mul_le_mul_right _ (by rw [h.len hi];exact h.n2)
 unfold dI
 omega
def PI (p:Mt) (i k:Nat):List Rat:=(List.range i).flatMap (fun a=>(List.range a).map (dI p a))++(List.range k).map (dI p i)
theorem PI_succ (p:Mt) (i k:Nat):PI p i (k+1)=PI p i k++[dI p i k]:=by simp [PI,List.range_succ]
theorem PI_next (p:Mt) (i:Nat):PI p i i=PI p (i+1) 0:=by simp [PI,List.range_succ,List.flatMap_append]
theorem PI_mem {p:Mt} {i k:Nat} {d:Rat} (h:d∈PI p i k):(∃a b,a < i∧b < a∧d=dI p a b)∨∃b,b < k∧d=dI p i b:=by
 unfold PI at h
 simp only [List.mem_append,List.mem_flatMap,List.mem_map,List.mem_range] at h
 rcases h with ⟨a,h1,b,h2,h3⟩ | ⟨b,h2,h3⟩
 ·exact .inl ⟨a,b,h1,h2,h3.symm⟩
 ·exact .inr ⟨b,h2,h3.symm⟩
theorem mxI_sz {p:Mt} {m:Nat} (h:MtSz p m) (h1:1≤m) {i k:Nat} (hi:i≤p.length) (hk:k≤i) (hk2:i < p.length∨k=0):sz (mx 0 (PI p i k))≤24*m+27:=by
 rcases (mx_spec (PI p i k) 0).2.2 with e | e
 ·rw [e];exact Nat.le_trans (by decide:sz (0:Rat)≤1) (by omega)
 ·rcases PI_mem e with ⟨a,b,g1,g2,g3⟩ | ⟨b,g2,g3⟩
  ·rw [g3];exact dI_sz h h1 (by omega) (by omega)
  ·rw [g3];exact dI_sz h h1 (by omega) (by omega)
def widestQ (p:Mt):Rat:=mx 0 (PI p p.length 0)
theorem widest_sz {p:Mt} {m:Nat} (h:MtSz p m) (h1:1≤m):sz (widestQ p)≤24*m+27:=mxI_sz h h1 (Nat.le_refl _) (Nat.zero_le _) (.inr rfl)
theorem fn_widest (p:Mt) (m:Nat) (h:MtSz p m) (h1:1≤m) (hm:m≤10000000):Fn Tryz.prog 26 [lM p] [] (rI (widestQ p)) []:=by
 have hz:((cM p).length:Int)=p.length:=by rw [cM_len]
 have hn1:=h.n1;have hn2:=h.n2;unfold widestQ;refine Fn.intro (ks:=[0,2,3,4,5,6,9,10,11,13,14,15,29]) hty rfl rfl rfl rfl rfl ?_;conv=>whnf
 refine VCall.of_data (fn_whole 0 (by decide) (by decide)) (ndA fun k=>rfl) ?_;conv=>whnf
 refine VLoop.inv hty (S:=Nat) (fun i=>[(10,I i),(9,I p.length),(3,.lp 3 0),(2,.lp 2 0),(0,lM p)]) (fun i=>[(3,.box true [B (ng (mx 0 (PI p i 0))),nI (tp (mx 0 (PI p i 0))),nI (mx 0 (PI p i 0)).den]),(2,.box true _)])
  (fun i=>i≤p.length) (fun i=>p.length - i) 0 (Nat.zero_le _) ⟨rfl,congrArg I hz,rfl,rfl,rfl,trivial⟩ ⟨rfl,rfl,trivial⟩ ?_
 intro i hi;conv=>whnf
 refine Br.mk (fun hb=>?_) (fun hb=>?_)
 ·have hb:i < p.length:=by simp only [decide_eq_true_eq] at hb;omega
  conv=>whnf
  refine VLoop.inv hty (S:=Nat) (fun k=>[(14,I k),(13,I i),(10,I i),(9,I p.length),(4,I i),(3,.lp 3 0),(2,.lp 2 0),(0,lM p)])
   (fun k=>[(3,.box true [B (ng (mx 0 (PI p i k))),nI (tp (mx 0 (PI p i k))),nI (mx 0 (PI p i k)).den]),(2,.box true _)])
   (fun k=>k≤i) (fun k=>i - k) 0 (Nat.zero_le _) ⟨rfl,rfl,rfl,rfl,rfl,rfl,rfl,rfl,trivial⟩ ⟨rfl,rfl,trivial⟩ ?_
  intro k hk;conv=>whnf
  refine Br.mk (fun hc=>?_) (fun hc=>?_)
  ·have hc:k < i:=by simp only [decide_eq_true_eq] at hc;omega
   have z1:=dI_sz h h1 hb (show k < p.length by omega);have z2:=mxI_sz h h1 hi hk (.inl hb);have cd:=fn_distance (p.getD i []) (p.getD k []) m (h.sz _ (getD_mem hb)) (h.sz _ (getD_mem (by omega))) h1 (by rw [h.len hb,h.len (by omega)]) (by rw [h.len hb];omega) hm;rw [show distQ (p.getD i []) (p.getD k [])=dI p i k from rfl] at cd;have cc:=fn_rcmp (dI p i k) (mx 0 (PI p i k)) (by omega) (by omega);have es:=mx_snoc 0 (PI p i k) (dI p i k);rw [←PI_succ] at es;conv=>whnf
   refine VDraw.go hmo hty 10 [[6],[6],[6],[6],[6],[6],[6],[6],[6],[]] rfl ?_;conv=>whnf
   refine ⟨⟨⟨by omega,by rw [cM_len];omega⟩,cM_sz _⟩,?_⟩;conv=>whnf
   refine ⟨_,cM_as (x:=p.getD i []) hb rfl,?_⟩;conv=>whnf
   refine ⟨⟨⟨by omega,by rw [cM_len];omega⟩,cM_sz _⟩,?_⟩;conv=>whnf
   refine ⟨_,cM_as (x:=p.getD k []) (by omega) rfl,?_⟩;conv=>whnf
   refine QCall.of_data cd (ndA fun k=>rfl) ?_;conv=>whnf
   refine VCall.of_data cc (nd _) ?_;conv=>whnf
   refine Br.mk (fun hd=>?_) (fun hd=>?_)
   ·have hd:mx 0 (PI p i k) < dI p i k:=by
     simp only [decide_eq_true_eq] at hd;exact Rat.not_le.1 fun e=>by have:=rcI_le.2 e;omega
    rw [if_pos hd] at es;conv=>whnf
    refine Wr.i64 (y:=((k+1:Nat):Int)) rfl (by omega) (by omega) ?_;conv=>whnf
    refine ⟨k+1,hc,by show i - (k+1) < i - k;omega,⟨rfl,rfl,rfl,rfl,rfl,rfl,rfl,rfl,trivial⟩,?_,rfl,trivial⟩;rw [es];rfl
   ·have hd:¬mx 0 (PI p i k) < dI p i k:=by
     simp only [decide_eq_false_iff_not] at hd;exact Rat.not_lt.2 (rcI_le.1 (by omega))
    rw [if_neg hd] at es;conv=>whnf
    refine Wr.i64 (y:=((k+1:Nat):Int)) rfl (by omega) (by omega) ?_;conv=>whnf
    refine ⟨k+1,hc,by show i - (k+1) < i - k;omega,⟨rfl,rfl,rfl,rfl,rfl,rfl,rfl,rfl,trivial⟩,?_,rfl,trivial⟩;rw [es];rfl
  ·have hc:k=i:=by simp only [decide_eq_false_iff_not] at hc;omega
   subst hc;conv=>whnf
   refine Wr.i64 (y:=((k+1:Nat):Int)) rfl (by omega) (by omega) ?_;conv=>whnf
   refine ⟨k+1,hb,by show p.length - (k+1) < p.length - k;omega,⟨rfl,rfl,rfl,rfl,rfl,trivial⟩,?_,rfl,trivial⟩;rw [←PI_next];rfl
 ·have hb:i=p.length:=by simp only [decide_eq_false_iff_not] at hb;omega
  subst hb;conv=>whnf
  exact ⟨rfl,rfl,rfl,trivial,rfl⟩
end Go.V
namespace Go.V
open Go.Proofs Go.RowKit
set_option maxRecDepth 10000
set_option maxHeartbeats 1000000
structure ChIn (rows:List (List (List UInt8))):Prop where
 l:rows.length≤1000000
 r:∀r,r∈rows→r.length≤1000000
 s:∀r,r∈rows→∀x,x∈r→x.length≤1000000
theorem fn_ofChain (rows:List (List (List UInt8))) (hi:ChIn rows) (f:Nat) (caps:List C) (g:Mt→Rat) (hf:∀p,MtOk p→Fn Tryz.prog f ([lM p]++capAs caps) [] (rI (g p)) []∧sz (g p)≤100000000000) :
  Fn Tryz.prog 25 [chI rows,.d (.fn f caps)] [] (.tup [Str (toldO ((chainQ rows).map g)).1,B (toldO ((chainQ rows).map g)).2]) []:=by
 have c1:=fn_chainOf rows hi.l hi.r hi.s
 refine Fn.intro (ks:=[0,1,2,4,5,6,7,14]) hty rfl rfl rfl rfl rfl ?_
 conv=>whnf
 cases h:chainQ rows with
 | none =>
  rw [h] at c1
  refine VCall.of_data c1 (ndT fun _=>rfl) ?_
  conv=>whnf
  exact ⟨rfl,rfl,trivial,rfl⟩
 | some p =>
  obtain ⟨c2,z2⟩:=hf p (chainQ_ok h)
  have c3:=fn_told (g p) z2
  rw [h] at c1
  replace c1:Fn Tryz.prog 18 [chI rows] [] (.tup [lM p,B true]) []:=c1
  refine VCall.of_data c1 (ndT fun _=>rfl) ?_
  conv=>whnf
  refine VCall.of_data c2 (ndA fun k=>rfl) ?_
  conv=>whnf
  refine VCall.of_data c3 (ndT fun _=>rfl) ?_
  conv=>whnf
  exact ⟨rfl,rfl,trivial,rfl⟩
theorem common_sz {p:Mt} {m:Nat} (h:MtSz p m):sz (commonQ p)≤12*(m+1)+1:=by
 have h1:=sz_sN (fun j (hj:j < p.length)=>h.min_sz hj (Nat.le_refl p.length)) p.length (Nat.le_refl _)
 have h2:p.length*(m+1)≤12*(m+1):=Nat.mul_le_mul_right _ h.n2
 have h3:sz (commonQ p)≤p.length*(m+1)+1:=h1
 omega
theorem fn_CommonShare (rows:List (List (List UInt8))) (hi:ChIn rows):Fn Tryz.prog 15 [chI rows] [] (.tup [Str (toldO ((chainQ rows).map commonQ)).1,B (toldO ((chainQ rows).map commonQ)).2]) []:=by
 have c:=fn_ofChain rows hi 31 [] commonQ fun p hp=>⟨fn_common p 800 hp.toSz (by decide),by have:=common_sz hp.toSz;omega⟩
 refine Fn.intro (ks:=[0,1,2,3]) hty rfl rfl rfl rfl rfl ?_
 conv=>whnf
 refine VCall.of_data c (ndT fun _=>rfl) ?_
 conv=>whnf
 exact ⟨rfl,rfl,trivial,rfl⟩
theorem fn_WidestRows (rows:List (List (List UInt8))) (hi:ChIn rows):Fn Tryz.prog 9 [chI rows] [] (.tup [Str (toldO ((chainQ rows).map widestQ)).1,B (toldO ((chainQ rows).map widestQ)).2]) []:=by
 have c:=fn_ofChain rows hi 26 [] widestQ fun p hp=>⟨fn_widest p 800 hp.toSz (by decide) (by decide),by have:=widest_sz hp.toSz (by decide);omega⟩
 refine Fn.intro (ks:=[0,1,2,3]) hty rfl rfl rfl rfl rfl ?_
 conv=>whnf
 refine VCall.of_data c (ndT fun _=>rfl) ?_
 conv=>whnf
 exact ⟨rfl,rfl,trivial,rfl⟩
theorem fn_RestBound1 (p:Mt) (h:MtOk p) (n:Nat) (hn:n≤40):Fn Tryz.prog 27 ([lM p]++capAs [.ptr [.s (.int .i64 n)]]) [] (rI (widestQ p ^ n)) []:=by
 have z:=widest_sz h.toSz (by decide)
 have c1:=fn_widest p 800 h.toSz (by decide) (by decide)
 have zn:n*sz (widestQ p)≤40*sz (widestQ p):=Nat.mul_le_mul_right _ hn
 have c2:=fn_power (widestQ p) n (by omega) (by omega)
 refine Fn.intro (ks:=[0,1,3]) hty rfl rfl rfl rfl rfl ?_
 conv=>whnf
 refine VDraw.go hmo hty 4 [] rfl ?_
 conv=>whnf
 refine QCall.of_data c1 (ndA fun k=>rfl) ?_
 conv=>whnf
 refine QCall.of_data c2 (ndA fun k=>rfl) ?_
 conv=>whnf
 exact ⟨rfl,rfl,rfl,trivial,rfl⟩
def boundO (rows:List (List (List UInt8))) (n:Int):Option Rat:=if 0≤n∧n≤40 then (chainQ rows).map fun p=>widestQ p ^ n.toNat else none
theorem inB (n a b:Int):(decide (a≤n) && decide (n≤b))=decide (a≤n∧n≤b):=by simp
theorem fn_RestBound (rows:List (List (List UInt8))) (n:Int) (hi:ChIn rows):Fn Tryz.prog 10 [chI rows,I n] [] (.tup [Str (toldO (boundO rows n)).1,B (toldO (boundO rows n)).2]) []:=by
 have c1:=fn_in n 0 40;rw [inB] at c1;refine Fn.intro (ks:=[0,1,2,3,4,5,8]) hty rfl rfl rfl rfl rfl ?_;conv=>whnf
 refine VCall.of_data c1 (nd _) ?_;conv=>whnf
 unfold boundO;by_cases h:0≤n∧n≤40
 ·obtain ⟨k,rfl⟩:∃k:Nat,n=k:=⟨n.toNat,by omega⟩;have hk:k≤40:=by omega
  have c2:=fn_ofChain rows hi 27 [.ptr [.s (.int .i64 k)]] (fun p=>widestQ p ^ k) fun p hp=>⟨fn_RestBound1 p hp k hk,by
   have z:=widest_sz hp.toSz (by decide);have zn:k*sz (widestQ p)≤40*sz (widestQ p):=Nat.mul_le_mul_right _ hk;have:=sz_pow (widestQ p) k;omega⟩
  rw [decide_eq_true h,if_pos h];conv=>whnf
  refine VCall.of_data c2 (ndT fun _=>rfl) ?_;conv=>whnf
  exact ⟨rfl,rfl,trivial,rfl⟩
 ·rw [decide_eq_false h,if_neg h];conv=>whnf
  exact ⟨rfl,rfl,trivial,rfl⟩
end Go.V
namespace Go.V
open Go.Proofs Go.RowKit
set_option maxRecDepth 10000
set_option maxHeartbeats 1000000
abbrev Tss:=List (List (List UInt8))
def ixF:Nat→List Nat→List MC
 | _,[]=>[]
 | k,n :: ns=>.r k 0 n :: ixF (k+1) ns
theorem ixF_len:∀(k:Nat) (ns:List Nat),(ixF k ns).length=ns.length
 | _,[]=>rfl
 | k,n :: ns=>by simp [ixF,ixF_len (k+1) ns]
theorem ixF_snoc:∀(k:Nat) (ns:List Nat) (n:Nat),ixF k (ns++[n])=ixF k ns++[.r (k+ns.length) 0 n]
 | k,[],n=>rfl
 | k,a :: ns,n=>by
  show MC.r k 0 a :: ixF (k+1) (ns++[n])=_
  rw [ixF_snoc (k+1) ns n]
  show _=(MC.r k 0 a :: ixF (k+1) ns)++[.r (k+(ns.length+1)) 0 n]
  rw [show k+1+ns.length=k+(ns.length+1) by omega];rfl
theorem ixF_get:∀{k:Nat} {ns:List Nat} {i n:Nat},i < ns.length→ns.getD i 0=n→(ixF k ns)[i]? = some (.r (k+i) 0 n)
 | k,a :: ns,0,n,_,e=>by simp at e;subst e;rfl
 | k,a :: ns,i+1,n,h,e=>by
  show (ixF (k+1) ns)[i]? = _
  rw [ixF_get (by simpa using h) (by simpa using e),show k+1+i=k+(i+1) by omega]
theorem put_rep {α:Type} (A:List α) (m:Nat) (x y:α):(A++List.replicate (m+1) x).set A.length y=(A++[y])++List.replicate m x:=by
 rw [List.set_append_right _ _ (Nat.le_refl _),Nat.sub_self,List.replicate_succ,List.set_cons_zero];simp
abbrev nilM:MC:=.d (.s (.slice none 0 0))
end Go.V
namespace Go.V
open Go.Proofs Go.RowKit
set_option maxRecDepth 10000
set_option maxHeartbeats 1000000
theorem matD_ixF (R:List (List (List C))):∀(k:Nat) (ns:List Nat) (vis:Tss),ns.length=vis.length→(∀i,i < ns.length→((R.getD (k+i) []).drop 0).take (ns.getD i 0)=cT (vis.getD i []))→matD R (ixF k ns)=cTT vis
 | k,[],[],_,_=>rfl
 | k,[],_ :: _,h,_=>by simp at h
 | k,_ :: _,[],h,_=>by simp at h
 | k,n :: ns,v :: vis,h,hi=>by
  have h0:=hi 0 (by simp)
  have ih:=matD_ixF R (k+1) ns vis (by simpa using h) fun i hh=>by
   have:=hi (i+1) (by simp;omega)
   rw [show k+1+i=k+(i+1) by omega]
   simpa using this
  show [C.sl (((R.getD k []).drop 0).take n)] :: matD R (ixF (k+1) ns)=[C.sl (cT v)] :: cTT vis
  rw [ih]
  have h0':((R.getD k []).drop 0).take n=cT v:=h0
  rw [h0']
theorem ixF_mem:∀{k:Nat} {ns:List Nat} {i lo n:Nat},MC.r i lo n∈ixF k ns→lo=0∧k≤i∧i - k < ns.length∧n=ns.getD (i - k) 0
 | k,[],i,lo,n,h=>by cases h
 | k,a :: ns,i,lo,n,h=>by
  rcases List.mem_cons.1 h with h | h
  ·cases h;exact ⟨rfl,Nat.le_refl _,by simp,by simp⟩
  ·obtain ⟨h1,h2,h3,h4⟩:=ixF_mem (k:=k+1) h
   refine ⟨h1,by omega,by simp;omega,?_⟩
   rw [h4,show i - k=(i - (k+1))+1 by omega];simp
theorem matIn_ixF {R:List (List (List C))} {ns:List Nat} (h:∀i,i < ns.length→ns.getD i 0≤(R.getD i []).length):matIn R (ixF 0 ns):=fun i lo n hm=>by
 obtain ⟨rfl,_,h3,rfl⟩:=ixF_mem hm
 have:=h i (by simpa using h3)
 simpa using this
end Go.V
namespace Go.V
open Go.Proofs Go.RowKit
set_option maxRecDepth 10000
set_option maxHeartbeats 1000000
end Go.V
namespace Go.V
open Go.Proofs Go.RowKit
end Go.V
namespace Go.V
open Go.Proofs Go.RowKit
set_option maxRecDepth 10000
set_option maxHeartbeats 1000000
theorem fn_ValidChain (rows:Tss) (hi:ChIn rows):Fn Tryz.prog 12 [chI rows] [] (B (chainQ rows).isSome) []:=by
 have c1:=fn_chainOf rows hi.l hi.r hi.s
 refine Fn.intro (ks:=[0,1,2,4]) hty rfl rfl rfl rfl rfl ?_
 conv=>whnf
 refine VCall.of_data c1 (ndT fun _=>rfl) ?_
 conv=>whnf
 exact ⟨rfl,trivial,rfl⟩
end Go.V
namespace Go.V
section
variable {P:Program} {G:Ctx} {κ:Know} {ρ:Place} {t:TL} {l:LL} {a:Act} {w:World}
theorem VCall.parMd {f:FuncId} {xs xs0:List AV} {c:C} {dst:Option Nat} {K:AV→TL→LL→Prop} (id i:Nat) {sz:Nat} {ix:List MC} {rows:List (List (List C))} {row row':List (List C)} (h:Fn P f xs0 [(1000000,.row true sz row)] (.d c) [(1000000,.row true sz row')])
  (hl:lget id l = .mat sz ix rows) (hi:rows[i]? = some row) (ha:argM id i xs xs0) (hK:K (.d c) t (lset id (.mat sz ix (rows.set i row')) l)):VCall P f xs dst t l K where
 en:=h.en
 out:=fun G κ ρ a w vs hr hs hv=>by
  have hm:=hr.m;have hob:=hm.ob id;rw [hl] at hob;obtain ⟨L,hL,hR⟩:=hob;have hR':=hR;obtain ⟨_,h5,h6,h7,h8⟩:=hR';have hil:i < L.ib.length:=by rw [h5];exact some_lt hi
  obtain ⟨M,hM⟩:∃M,L.ib[i]? = some M:=⟨_,List.getElem?_eq_getElem hil⟩;have hLM:=Loc.has_i hM;have hf:=hm.fre id L hL (by rw [hl];rfl);let LM:Loc:=⟨M.b,M.o,M.N,M.kn,[]⟩;let ρ0:Place:=fun p=>if p=1000000 then some LM else none
  have hρ0:∀{p L'},ρ0 p=some L'→p=1000000∧L'=LM:=fun {p L'} h=>by
   simp only [ρ0] at h;split at h
   ·rename_i e;cases h;exact ⟨e,rfl⟩
   ·cases h
  have hLMh:∀{b},LM.has b→b=M.b:=fun {b} h=>h.elim (fun e=>e) fun ⟨M,h,_⟩=>by cases h
  let l0:LL:=[(1000000,.row true sz row)];have hl0:∀p,lget p l0=if p=1000000 then .row true sz row else .no:=fun p=>by simp only [l0];rw [lget_cons];rfl
  obtain ⟨arr,E,k1,k2,k3⟩:=h6 i M row hM hi;have hm0:Mem ⟨w,Mof ρ0 l0,κ,0,ρ0⟩ κ ρ0 l0 w:=by
   refine ⟨fun p=>?_,fun i j Li Lj hij hi hj=>?_,fun i L hi _ b hb=>?_,fun i L hi b hb=>?_,hm.kn,hm.one,fun b o x h=>.inl h,⟨rfl,rfl,rfl,Nat.le_refl _,fun _ _ _=>rfl⟩,fun i L _ h=>h⟩
   ·rw [hl0];split
    ·rename_i e;subst e;exact ⟨LM,arr,E,(0,0),if_pos rfl,k1,k2,fun _=>rfl,k3⟩
    ·rename_i e;exact if_neg e
   ·exact absurd ((hρ0 hi).1.trans (hρ0 hj).1.symm) hij
   ·obtain ⟨rfl,rfl⟩:=hρ0 hi;rw [hLMh hb];exact ⟨(hf _ hLM).1,.inr ⟨1000000,LM,hi,by rw [hl0,if_pos rfl];rfl,.inl rfl⟩⟩
   ·obtain ⟨rfl,rfl⟩:=hρ0 hi;rw [hLMh hb];exact hm.own id L hL _ hLM
  obtain ⟨e1,e2⟩:=argM_get (κ:=κ) (ρ0:=ρ0) hL hM (fun L' hL'=>by rw [(hρ0 hL').2];rfl) ha;refine Calls.mono (h.out κ ρ0 w vs hm0 (hs.trans e1) fun i v y h1 h2=>?_) ?_
  ·have hi:i < xs.length:=by rw [←hs];exact (Array.getElem?_eq_some_iff.1 h1).1
   exact e2 i v _ y (List.getElem?_eq_getElem hi) h2 (hv i v _ h1 (List.getElem?_eq_getElem hi))
  ·rintro e w' ⟨v,κ',ρ1,he,hk,hm1,h3⟩;have hMof:∀b,Mof ρ0 l0 b→b=M.b:=fun b ⟨p,Lp,g1,_,g3⟩=>by
    obtain ⟨rfl,rfl⟩:=hρ0 g1;exact hLMh g3
   have hblk:∀b,b < w.heap.size→b≠M.b→w'.heap[b]? = w.heap[b]? := fun b hb hne=>hm1.fr.block b hb fun h=>hne (hMof b h);have hob1:=hm1.ob 1000000;obtain ⟨L1,arr1,E1,fz1,q1,q2,q3,q4,q5⟩:ObR κ' ρ1 w' 1000000 (.row true sz row'):=hob1;obtain ⟨_,rfl⟩:=hρ0 (show ρ0 1000000=some L1 from hm1.par 1000000 L1 (Nat.le_refl _) q1);have:=q4 rfl;subst this;have hfre1:=hm1.fre 1000000 LM q1 rfl M.b (.inl rfl);have hne:lget id l≠.no:=by rw [hl];exact fun e=>by cases e
   have hg:=lget_lset (o:=.mat sz ix (rows.set i row')) (l:=l) (i:=id) hne;have hsepM:∀j Lj,j≠id→ρ j=some Lj→∀b,Lj.has b→b≠M.b:=fun j Lj hj hLj b hb e=>hm.sep id j L Lj (Ne.symm hj) hL hLj (by rw [hl];rfl) M.b hLM (e▸hb);have hwr:∀j,(lget j (lset id (.mat sz ix (rows.set i row')) l)).wr=(lget j l).wr:=fun j=>by
    rw [hg];split
    ·rename_i e;subst e;rw [hl];rfl
    ·rfl
   have hm':Mem G κ' ρ (lset id (.mat sz ix (rows.set i row')) l) w':=by
    refine ⟨fun j=>?_,fun p q Lp Lq hpq hp hq hw=>hm.sep p q Lp Lq hpq hp hq (by rw [←hwr p];exact hw),fun p Lp hp hw b hb=>?_,fun p Lp hp b hb=>Nat.lt_of_lt_of_le (hm.own p Lp hp b hb) hm1.fr.size,hm1.kn,hm1.one,fun b o x h=>?_,?_,hm.par⟩
    ·rw [hg];split
     ·rename_i e;subst e;obtain ⟨⟨arr0,E0,g1,g2,g3,g4⟩,_⟩:=hR;refine ⟨L,hL,⟨arr0,E0,by rw [hblk _ (hm.own _ L hL _ L.has_b) (Ne.symm (h7 i M hM))];exact g1,g2,g3,fun k c hc=>?_⟩,by simpa using h5,fun r M' row0 hM' hr'=>?_,h7,h8⟩
      ·obtain ⟨x,f1,f2,f3⟩:=g4 k c hc;exact ⟨x,f1,f2.mono hk,f3⟩
      ·by_cases e:r=i
       ·subst e;rw [hM] at hM';cases hM';rw [List.getElem?_set_self (by rw [←h5];exact hil)] at hr';cases hr';exact ⟨arr1,E1,q2,q3,q5⟩
       ·rw [List.getElem?_set_ne (Ne.symm e)] at hr';obtain ⟨arr',E',f1,f2,f3⟩:=h6 r M' row0 hM' hr';exact ⟨arr',E',by rw [hblk _ (hm.own _ L hL _ (Loc.has_i hM')) (h8 r i M' M hM' hM e)];exact f1,f2,f3.mono hk⟩
     ·rename_i e;exact (hm.ob j).move hk rfl (fun Lj hLj b hb=>hblk b (hm.own j Lj hLj b hb) (hsepM j Lj e hLj b hb)) (fun _ _ _ _ _ _ _ h=>h.mono hk)
    ·obtain ⟨g1,g2⟩:=hm.fre p Lp hp (by rw [←hwr p];exact hw) b hb;refine ⟨fun o x hx=>?_,g2⟩;rcases hm1.kn0 b o x hx with h | h | h
     ·exact g1 o x h
     ·have:=hm.own p Lp hp b hb;simp only at h;omega
     ·have:=hMof b h;subst this;exact hfre1.1 o x hx
    ·rcases hm1.kn0 b o x h with h | h | h
     ·exact hm.kn0 b o x h
     ·exact .inr (.inl (Nat.le_trans hm.fr.size h))
     ·have:=hMof b h;subst this;exact .inr (hf _ hLM).2
    ·have f1:=hm.fr;have f2:=hm1.fr;refine ⟨f2.os.trans f1.os,f2.tape.trans f1.tape,f2.output.trans f1.output,Nat.le_trans f1.size f2.size,fun b hb hMb=>?_⟩;refine (hblk b (Nat.lt_of_lt_of_le hb f1.size) fun e=>?_).trans (f1.block b hb hMb);subst e;rcases (hf _ hLM).2 with h | h
     ·omega
     ·exact hMb h
   exact ⟨v,κ',ρ,.d c,t,_,he,hk,⟨hm',hr.df,hr.sz,fun i=>(hr.tm i).mono hk⟩,.d _ _ h3.repr,hK⟩
theorem VCall.parMs {f:FuncId} {xs xs0:List AV} {lo n s:Nat} {dst:Option Nat} {K:AV→TL→LL→Prop} (id i:Nat) {sz:Nat} {ix:List MC} {rows:List (List (List C))} {row row':List (List C)} (h:Fn P f xs0 [(1000000,.row true sz row)] (.ls 1000000 lo n s) [(1000000,.row true sz row')])
  (hl:lget id l = .mat sz ix rows) (hi:rows[i]? = some row) (ha:argM id i xs xs0) (hK:K (.ms id i lo n s) t (lset id (.mat sz ix (rows.set i row')) l)):VCall P f xs dst t l K where
 en:=h.en
 out:=fun G κ ρ a w vs hr hs hv=>by
  have hm:=hr.m;have hob:=hm.ob id;rw [hl] at hob;obtain ⟨L,hL,hR⟩:=hob;have hR':=hR;obtain ⟨_,h5,h6,h7,h8⟩:=hR';have hil:i < L.ib.length:=by rw [h5];exact some_lt hi
  obtain ⟨M,hM⟩:∃M,L.ib[i]? = some M:=⟨_,List.getElem?_eq_getElem hil⟩;have hLM:=Loc.has_i hM;have hf:=hm.fre id L hL (by rw [hl];rfl);let LM:Loc:=⟨M.b,M.o,M.N,M.kn,[]⟩;let ρ0:Place:=fun p=>if p=1000000 then some LM else none
  have hρ0:∀{p L'},ρ0 p=some L'→p=1000000∧L'=LM:=fun {p L'} h=>by
   simp only [ρ0] at h;split at h
   ·rename_i e;cases h;exact ⟨e,rfl⟩
   ·cases h
  have hLMh:∀{b},LM.has b→b=M.b:=fun {b} h=>h.elim (fun e=>e) fun ⟨M,h,_⟩=>by cases h
  let l0:LL:=[(1000000,.row true sz row)];have hl0:∀p,lget p l0=if p=1000000 then .row true sz row else .no:=fun p=>by simp only [l0];rw [lget_cons];rfl
  obtain ⟨arr,E,k1,k2,k3⟩:=h6 i M row hM hi;have hm0:Mem ⟨w,Mof ρ0 l0,κ,0,ρ0⟩ κ ρ0 l0 w:=by
   refine ⟨fun p=>?_,fun i j Li Lj hij hi hj=>?_,fun i L hi _ b hb=>?_,fun i L hi b hb=>?_,hm.kn,hm.one,fun b o x h=>.inl h,⟨rfl,rfl,rfl,Nat.le_refl _,fun _ _ _=>rfl⟩,fun i L _ h=>h⟩
   ·rw [hl0];split
    ·rename_i e;subst e;exact ⟨LM,arr,E,(0,0),if_pos rfl,k1,k2,fun _=>rfl,k3⟩
    ·rename_i e;exact if_neg e
   ·exact absurd ((hρ0 hi).1.trans (hρ0 hj).1.symm) hij
   ·obtain ⟨rfl,rfl⟩:=hρ0 hi;rw [hLMh hb];exact ⟨(hf _ hLM).1,.inr ⟨1000000,LM,hi,by rw [hl0,if_pos rfl];rfl,.inl rfl⟩⟩
   ·obtain ⟨rfl,rfl⟩:=hρ0 hi;rw [hLMh hb];exact hm.own id L hL _ hLM
  obtain ⟨e1,e2⟩:=argM_get (κ:=κ) (ρ0:=ρ0) hL hM (fun L' hL'=>by rw [(hρ0 hL').2];rfl) ha;refine Calls.mono (h.out κ ρ0 w vs hm0 (hs.trans e1) fun i v y h1 h2=>?_) ?_
  ·have hi:i < xs.length:=by rw [←hs];exact (Array.getElem?_eq_some_iff.1 h1).1
   exact e2 i v _ y (List.getElem?_eq_getElem hi) h2 (hv i v _ h1 (List.getElem?_eq_getElem hi))
  ·rintro e w' ⟨v,κ',ρ1,he,hk,hm1,h3⟩;have hMof:∀b,Mof ρ0 l0 b→b=M.b:=fun b ⟨p,Lp,g1,_,g3⟩=>by
    obtain ⟨rfl,rfl⟩:=hρ0 g1;exact hLMh g3
   have hblk:∀b,b < w.heap.size→b≠M.b→w'.heap[b]? = w.heap[b]? := fun b hb hne=>hm1.fr.block b hb fun h=>hne (hMof b h);have hob1:=hm1.ob 1000000;obtain ⟨L1,arr1,E1,fz1,q1,q2,q3,q4,q5⟩:ObR κ' ρ1 w' 1000000 (.row true sz row'):=hob1;obtain ⟨_,rfl⟩:=hρ0 (show ρ0 1000000=some L1 from hm1.par 1000000 L1 (Nat.le_refl _) q1);have:=q4 rfl;subst this;have hfre1:=hm1.fre 1000000 LM q1 rfl M.b (.inl rfl);have hne:lget id l≠.no:=by rw [hl];exact fun e=>by cases e
   have hg:=lget_lset (o:=.mat sz ix (rows.set i row')) (l:=l) (i:=id) hne;have hsepM:∀j Lj,j≠id→ρ j=some Lj→∀b,Lj.has b→b≠M.b:=fun j Lj hj hLj b hb e=>hm.sep id j L Lj (Ne.symm hj) hL hLj (by rw [hl];rfl) M.b hLM (e▸hb);have hwr:∀j,(lget j (lset id (.mat sz ix (rows.set i row')) l)).wr=(lget j l).wr:=fun j=>by
    rw [hg];split
    ·rename_i e;subst e;rw [hl];rfl
    ·rfl
   have hm':Mem G κ' ρ (lset id (.mat sz ix (rows.set i row')) l) w':=by
    refine ⟨fun j=>?_,fun p q Lp Lq hpq hp hq hw=>hm.sep p q Lp Lq hpq hp hq (by rw [←hwr p];exact hw),fun p Lp hp hw b hb=>?_,fun p Lp hp b hb=>Nat.lt_of_lt_of_le (hm.own p Lp hp b hb) hm1.fr.size,hm1.kn,hm1.one,fun b o x h=>?_,?_,hm.par⟩
    ·rw [hg];split
     ·rename_i e;subst e;obtain ⟨⟨arr0,E0,g1,g2,g3,g4⟩,_⟩:=hR;refine ⟨L,hL,⟨arr0,E0,by rw [hblk _ (hm.own _ L hL _ L.has_b) (Ne.symm (h7 i M hM))];exact g1,g2,g3,fun k c hc=>?_⟩,by simpa using h5,fun r M' row0 hM' hr'=>?_,h7,h8⟩
      ·obtain ⟨x,f1,f2,f3⟩:=g4 k c hc;exact ⟨x,f1,f2.mono hk,f3⟩
      ·by_cases e:r=i
       ·subst e;rw [hM] at hM';cases hM';rw [List.getElem?_set_self (by rw [←h5];exact hil)] at hr';cases hr';exact ⟨arr1,E1,q2,q3,q5⟩
       ·rw [List.getElem?_set_ne (Ne.symm e)] at hr';obtain ⟨arr',E',f1,f2,f3⟩:=h6 r M' row0 hM' hr';exact ⟨arr',E',by rw [hblk _ (hm.own _ L hL _ (Loc.has_i hM')) (h8 r i M' M hM' hM e)];exact f1,f2,f3.mono hk⟩
     ·rename_i e;exact (hm.ob j).move hk rfl (fun Lj hLj b hb=>hblk b (hm.own j Lj hLj b hb) (hsepM j Lj e hLj b hb)) (fun _ _ _ _ _ _ _ h=>h.mono hk)
    ·obtain ⟨g1,g2⟩:=hm.fre p Lp hp (by rw [←hwr p];exact hw) b hb;refine ⟨fun o x hx=>?_,g2⟩;rcases hm1.kn0 b o x hx with h | h | h
     ·exact g1 o x h
     ·have:=hm.own p Lp hp b hb;simp only at h;omega
     ·have:=hMof b h;subst this;exact hfre1.1 o x hx
    ·rcases hm1.kn0 b o x h with h | h | h
     ·exact hm.kn0 b o x h
     ·exact .inr (.inl (Nat.le_trans hm.fr.size h))
     ·have:=hMof b h;subst this;exact .inr (hf _ hLM).2
    ·have f1:=hm.fr;have f2:=hm1.fr;refine ⟨f2.os.trans f1.os,f2.tape.trans f1.tape,f2.output.trans f1.output,Nat.le_trans f1.size f2.size,fun b hb hMb=>?_⟩;refine (hblk b (Nat.lt_of_lt_of_le hb f1.size) fun e=>?_).trans (f1.block b hb hMb);subst e;rcases (hf _ hLM).2 with h | h
     ·omega
     ·exact hMb h
   refine ⟨v,κ',ρ,.ms id i lo n s,t,_,he,hk,⟨hm',hr.df,hr.sz,fun i=>(hr.tm i).mono hk⟩,.ms _ _ _ _ _ _ fun L' hL'=>?_,hK⟩;rw [hL] at hL';cases hL';obtain ⟨cap,A,g1,g2,g3,g4,g5⟩:=h3.ls_at q1;exact ⟨M,hM,cap,A,g1,g2,g3,g4,g5⟩
end
open Classical in
theorem VLoop.invF {P:Program} {t:TL} {l:LL} {ty:TypeId→Ty} {ks:List Nat} {b:Code} {Q:Ex→TL→LL→Prop} (hty:TyOk P ty) {S:Type} (id:Nat) (T:S→TL) (L:S→LL) (I:S→Prop) (μ:S→Nat) (s0:S) (h0:I s0)
  (hT:entT t (T s0)) (hL:entL l (L s0))
  (round:∀s,I s→vcCode P ty ks b (T s) (L s) fun e t' l'=>match e with
   | .n=>∃s',I s'∧μ s' < μ s∧∃n sz D,isD (lget id l') sz D∧D.length=n∧wholeT id n sz t'∧entT (frzAT id D t') (T s')∧entL (lrem id l') (L s')
   | .r=>Q .r t' l'
   | .x i=>Q (.x i) t' l'):VLoop P ty ks b t l Q where
 out:=fun G κ ρ a w hd hr=>by
  let J:Act→World→Nat→Prop:=fun a' w' n=>∃s κ' ρ',μ s=n∧I s∧κ.le κ'∧Rel G κ' ρ' (T s) (L s) a' w'
  let M:Act→World→Nat:=fun a' w'=>if h:∃n,J a' w' n then Classical.choose (least h) else 0
  have hM:∀{a' w'},(∃n,J a' w' n)→J a' w' (M a' w')∧∀m,J a' w' m→M a' w'≤m:=fun {a' w'} h=>by
   have:M a' w'=Classical.choose (least h):=dif_pos h
   rw [this];exact Classical.choose_spec (least h)
  refine wp_loop (fun a' w'=>∃n,J a' w' n) M ?_ ?_
  ·obtain ⟨ρ',_,h⟩:=hr.less (entT_get hT) (entL_get hL)
   exact ⟨_,s0,κ,ρ',rfl,h0,Know.le_refl _,h⟩
  ·intro a1 w1 hJ
   obtain ⟨⟨s,κ1,ρ1,hs,hI,hk1,hr1⟩,_⟩:=hM hJ
   refine Code.wp_mono ?_ (vcCode_sound hty b _ κ1 ρ1 _ _ a1 w1 hd hr1 (round s hI))
   rintro e a2 w2 ⟨x,κ2,ρ2,t2,l2,h1,h2,h3,h4⟩
   cases e with
   | normal =>
    have h1':some Ex.n=some x:=h1
    cases h1'
    obtain ⟨s',g1,g2,n,sz,D,f1,f2,f3,hT3,hL3⟩:=h4
    obtain ⟨κ3,k1,hr3,_⟩:=h3.frzD f1 f2 f3
    obtain ⟨ρ',_,h⟩:=hr3.less (entT_get hT3) (entL_get hL3)
    have hJ2:J a2 w2 (μ s'):=⟨s',κ3,ρ',rfl,g1,Know.le_trans hk1 (Know.le_trans h2 k1),h⟩
    have:=(hM ⟨_,hJ2⟩).2 _ hJ2
    exact ⟨⟨_,hJ2⟩,by omega⟩
   | ret=>have h1':some Ex.r=some x:=h1;cases h1';exact ⟨.r,κ2,ρ2,t2,l2,rfl,Know.le_trans hk1 h2,h3,h4⟩
   | exit id=>have h1':some (Ex.x id)=some x:=h1;cases h1';exact ⟨.x id,κ2,ρ2,t2,l2,rfl,Know.le_trans hk1 h2,h3,h4⟩
   | _=>simp [exOf] at h1
end Go.V
namespace Go.V
open Go.Proofs Go.RowKit
set_option maxRecDepth 10000
set_option maxHeartbeats 1000000
theorem and32 {y:Nat} (h:y < 4294967296):(((BitVec.ofInt IntKind.u64.bits (y:Int) &&& BitVec.ofInt IntKind.u64.bits 4294967295).toNat:Nat):Int)=(y:Int):=by
 rw [BitVec.toNat_and]
 have e1:(BitVec.ofInt IntKind.u64.bits (y:Int)).toNat=y:=by
  show (BitVec.ofInt 64 (y:Int)).toNat=y
  rw [BitVec.toNat_ofInt];omega
 have e2:(BitVec.ofInt IntKind.u64.bits 4294967295).toNat=2 ^ 32 - 1:=rfl
 rw [e1,e2,Nat.and_two_pow_sub_one_eq_mod,Nat.mod_eq_of_lt h]
theorem shr0 {y:Nat} (h:y < 4294967296):((y:Nat):Int).fdiv (2 ^ min (Int.toNat 32) IntKind.u64.bits)=0:=by
 rw [show (2:Int) ^ min (Int.toNat 32) IntKind.u64.bits=4294967296 from rfl,Int.fdiv_eq_ediv_of_nonneg _ (by decide)]
 omega
theorem fn_Mul64 (y:Nat) (hy:y≤1000000):Fn Tryz.prog 92 [N64 1,N64 y] [] (.tup [N64 0,N64 y]) []:=by
 refine Fn.intro (ks:=[0,1,4,5,6,7,8,9,10,11,12,13]) hty rfl rfl rfl rfl rfl ?_
 conv=>whnf
 refine Wr.n64 (n:=1) (and32 (y:=1) (by omega)) (by omega) ?_
 conv=>whnf
 refine ⟨by decide,?_⟩
 conv=>whnf
 refine Wr.n64 (n:=y) (and32 (y:=y) (by omega)) (by omega) ?_
 conv=>whnf
 refine ⟨by decide,?_⟩
 conv=>whnf
 have e1:=shr0 (y:=1) (by omega)
 have ey:=shr0 (y:=y) (by omega)
 refine Wr.n64 (n:=y) (by omega) (by omega) ?_
 conv=>whnf
 refine Wr.n64 (n:=0) (by rw [e1];simp) (by omega) ?_
 conv=>whnf
 refine ⟨by decide,?_⟩
 conv=>whnf
 refine Wr.n64 (n:=0) (by rw [ey];rfl) (by omega) ?_
 conv=>whnf
 refine Wr.n64 (n:=0) (and32 (y:=0) (by omega)) (by omega) ?_
 conv=>whnf
 refine ⟨by decide,?_⟩
 conv=>whnf
 refine Wr.n64 (n:=0) (by rw [ey];rfl) (by omega) ?_
 conv=>whnf
 refine Wr.n64 (n:=0) rfl (by omega) ?_
 conv=>whnf
 refine Wr.n64 (n:=0) (by rw [e1,ey];rfl) (by omega) ?_
 conv=>whnf
 refine Wr.n64 (n:=0) (by rw [shr0 (y:=0) (by omega)];rfl) (by omega) ?_
 conv=>whnf
 refine ⟨by decide,?_⟩
 conv=>whnf
 refine Wr.n64 (n:=0) (by rw [shr0 (y:=0) (by omega)];rfl) (by omega) ?_
 conv=>whnf
 refine Wr.n64 (n:=y) (by omega) (by omega) ?_
 conv=>whnf
 exact ⟨rfl,rfl,trivial,rfl⟩
theorem fn_Mul (y:Nat) (hy:y≤1000000):Fn Tryz.prog 72 [N64 1,N64 y] [] (.tup [N64 0,N64 y]) []:=by
 refine Fn.intro (ks:=[0,1,4,5,6,7,8,9]) hty rfl rfl rfl rfl rfl ?_
 conv=>whnf
 refine VCall.of_data (fn_Mul64 y hy) (ndT fun _=>rfl) ?_
 conv=>whnf
 exact ⟨rfl,rfl,trivial,rfl⟩
abbrev zrQ:List C:=[.s (.bool false),.s (.slice none 0 0),.s (.slice none 0 0)]
def repQ (a:Rat) (n k:Nat):List (List C):=cQ (List.replicate k a)++List.replicate (n - k) zrQ
theorem repQ_len {a:Rat} {n k:Nat} (h:k≤n):(repQ a n k).length=n:=by
 unfold repQ;rw [List.length_append,cQ_len,List.length_replicate,List.length_replicate];omega
theorem repQ_all (a:Rat) (n:Nat):repQ a n n=cQ (List.replicate n a):=by unfold repQ;rw [Nat.sub_self];simp
theorem cQ_take (xs:List Rat) (k:Nat):(cQ xs).take k=cQ (xs.take k):=by unfold cQ;rw [List.map_take]
theorem repQ_copy {a:Rat} {n k m:Nat} (h:k≤n) (hm:m≤n - k) (hk:m≤k):(repQ a n k).take k++(((repQ a n k).take k).take m++(repQ a n k).drop (k+m))=repQ a n (k+m):=by
 have e1:(repQ a n k).take k=cQ (List.replicate k a):=by
  unfold repQ
  rw [List.take_append_of_le_length (by rw [cQ_len,List.length_replicate];exact Nat.le_refl _),List.take_of_length_le (by rw [cQ_len,List.length_replicate];exact Nat.le_refl _)]
 have e2:(repQ a n k).drop (k+m)=List.replicate (n - (k+m)) zrQ:=by
  unfold repQ
  rw [List.drop_append,List.drop_of_length_le (by rw [cQ_len,List.length_replicate];omega),cQ_len,List.length_replicate,List.drop_replicate]
  rw [List.nil_append];congr 1;omega
 rw [e1,e2,cQ_take,List.take_replicate,Nat.min_eq_left hk,←List.append_assoc,cQ_append,List.replicate_append_replicate]
 rfl
theorem fn_slRepeat (a:Rat) (n:Nat) (h1:1≤n) (hn:n≤20):Fn Tryz.prog 47 [lQ [a],I n] [] (.ls 0 0 n 3) [(0,.row true 3 (cQ (List.replicate n a)))]:=by
 refine Fn.intro (ks:=[0,1,4,5,6,7,8,10,26,37]) hty rfl rfl rfl rfl rfl ?_;conv=>whnf
 rw [show decide ((n:Int) < 0)=false by simp];conv=>whnf
 refine Wr.n64 (n:=1) (by rw [cQ_len];rfl) (by omega) ?_;conv=>whnf
 refine Wr.n64 (n:=n) rfl (by omega) ?_;conv=>whnf
 refine VCall.of_data (fn_Mul n (by omega)) (ndT fun _=>rfl) ?_;conv=>whnf
 rw [show decide (((9223372036854775807:Int)) < (n:Int))=false by simp;omega];conv=>whnf
 refine Wr.fit (wrap_i64 (by omega) (by omega)) ?_;conv=>whnf
 refine ⟨⟨by omega,by omega,by show (n:Int)*((56:Nat):Int)≤_;omega,by omega⟩,?_⟩;conv=>whnf
 refine ⟨cQ_sz _,?_⟩;conv=>whnf
 refine ⟨by show 0+((n:Int)).toNat≤(List.replicate ((n:Int)).toNat _).length;rw [List.length_replicate];omega,?_⟩;conv=>whnf
 have e0:List.take 0 (List.replicate ((n:Int)).toNat zrQ)++((cQ [a]).take (Nat.min 1 ((n:Int)).toNat)++(List.replicate ((n:Int)).toNat zrQ).drop (0+Nat.min 1 ((n:Int)).toNat))=repQ a n 1:=by
  rw [show ((n:Int)).toNat=n by omega,show Nat.min 1 n=1 from Nat.min_eq_left h1,List.drop_replicate];unfold repQ;rw [List.take_zero,List.nil_append,List.take_of_length_le (by rw [cQ_len];simp)]
  rfl
 refine VLoop.inv hty (S:=Nat) (fun k=>[(8,I k),(7,.ls 30 0 n 3)]) (fun k=>[(30,.row true 3 (repQ a n k))]) (fun k=>1≤k∧k≤n) (fun k=>n - k) 1 ⟨Nat.le_refl _,h1⟩
  ⟨?_,?_,trivial⟩ ⟨?_,trivial⟩ ?_
 ·show I ((Nat.min 1 ((n:Int)).toNat:Nat):Int)=I 1;rw [show Nat.min 1 ((n:Int)).toNat=1 from Nat.min_eq_left (by omega)];rfl
 ·show AV.ls 30 0 ((n:Int)).toNat 3=AV.ls 30 0 n 3;rw [show ((n:Int)).toNat=n by omega]
 ·rw [←e0];rfl
 rintro k ⟨hk1,hk2⟩;conv=>whnf
 refine Br.mk (fun h=>?_) (fun h=>?_)
 ·have h:k < n:=by simp only [decide_eq_true_eq] at h;omega
  have hl:=repQ_len (a:=a) hk2;have g1:(0≤(k:Int)∧(k:Int)≤n∧((n:Int)).toNat+0≤(repQ a n k).length):=⟨by omega,by omega,by rw [hl];omega⟩;have g2:(0≤(0:Int)∧(0:Int)≤k∧((k:Int)).toNat+0≤(repQ a n k).length):=⟨by omega,by omega,by rw [hl];omega⟩;have hc:=repQ_copy (a:=a) (n:=n) (k:=k) (m:=min k (n - k)) hk2 (Nat.min_le_right _ _) (Nat.min_le_left _ _);have hmin:1≤min k (n - k):=by omega
  conv=>whnf
  have hs:(0:Int).toNat+0+((k:Int) - 0).toNat≤(repQ a n k).length:=by rw [hl];omega
  have hd:(k:Int).toNat+0+((n:Int) - (k:Int)).toNat≤(repQ a n k).length:=by rw [hl];omega
  have hmm:Nat.min ((k:Int) - 0).toNat ((n:Int) - (k:Int)).toNat=min k (n - k):=by
   show min _ _=_;rw [show ((k:Int) - 0).toNat=k by omega,show ((n:Int) - (k:Int)).toNat=n - k by omega]
  refine VDraw.goS hmo hty [0,1,2,4,5] rfl ?_;conv=>whnf
  repeat' (first
   | (refine ⟨g1,?_⟩;conv=>whnf)
   | (refine ⟨g2,?_⟩;conv=>whnf)
   | (refine Sub.lo hs ?_;conv=>whnf)
   | (refine ⟨hd,?_⟩;conv=>whnf)
   | (refine Wr.i64 (y:=((k+min k (n - k):Nat):Int)) (by rw [hmm];rfl) (by omega) (by omega) ?_;conv=>whnf)
   | (refine ⟨k+min k (n - k),⟨by omega,by omega⟩,by show n - (k+min k (n - k)) < n - k;omega,⟨rfl,rfl,trivial⟩,?_,trivial⟩;rw [←hc,←hmm];rfl)
   | (refine ⟨?_,?_⟩ <;> conv=>whnf))
 ·have h:k=n:=by simp only [decide_eq_false_iff_not] at h;omega
  subst h;rw [repQ_all];conv=>whnf
  exact ⟨⟨rfl,rfl,rfl,rfl,rfl,rfl⟩,[],rfl,trivial,rfl⟩
end Go.V
namespace Go.V
open Go.Proofs Go.RowKit
set_option maxRecDepth 10000
set_option maxHeartbeats 1000000
def outQ (p:Mt) (w:List Rat) (i j:Nat):List Rat:=(List.range w.length).map fun k=>stepAt p w k (if k < j then i+1 else i)
theorem outQ_len (p:Mt) (w:List Rat) (i j:Nat):(outQ p w i j).length=w.length:=by simp [outQ]
theorem outQ_at {p:Mt} {w:List Rat} {i j k:Nat} (h:k < w.length):(outQ p w i j).getD k 0=stepAt p w k (if k < j then i+1 else i):=by
 rw [gD,List.getElem?_eq_getElem (by rw [outQ_len];exact h)];simp [outQ]
theorem outQ_zero (p:Mt) (w:List Rat):outQ p w 0 0=List.replicate w.length 0:=by
 apply List.ext_getElem (by simp [outQ_len])
 intro k h1 h2
 simp [outQ,stepAt,sN]
theorem outQ_next (p:Mt) (w:List Rat) (i:Nat):outQ p w i w.length=outQ p w (i+1) 0:=by
 unfold outQ
 apply List.map_congr_left
 intro k hk
 rw [if_pos (by simpa using hk),if_neg (by omega)]
theorem outQ_skip {p:Mt} {w:List Rat} {i:Nat} (h:w.getD i 0=0):outQ p w (i+1) 0=outQ p w i 0:=by
 unfold outQ
 apply List.map_congr_left
 intro k hk
 rw [if_neg (by omega),if_neg (by omega)]
 show stepAt p w k i+w.getD i 0*ent p i k=stepAt p w k i
 rw [h,Rat.zero_mul,Rat.add_zero]
theorem outQ_set {p:Mt} {w:List Rat} {i j:Nat} (h:j < w.length):(outQ p w i j).set j (stepAt p w j (i+1))=outQ p w i (j+1):=by
 apply List.ext_getElem (by simp [outQ_len])
 intro k h1 h2
 rw [List.getElem_set]
 simp only [outQ,List.getElem_map,List.getElem_range]
 by_cases e:j=k
 ·subst e;rw [if_pos rfl,if_pos (by omega)]
 ·rw [if_neg e]
  by_cases h3:k < j
  ·rw [if_pos h3,if_pos (by omega)]
  ·rw [if_neg h3,if_neg (by omega)]
theorem outQ_all {p:Mt} {w:List Rat}:outQ p w w.length 0=stepQ p w:=by
 unfold outQ stepQ
 apply List.map_congr_left
 intro k hk
 rw [if_neg (by omega)]
theorem cQ_set (xs:List Rat) (k:Nat) (x:Rat):(cQ xs).set k (c1Q x)=cQ (xs.set k x):=by unfold cQ;rw [List.map_set]
theorem sgI_zeroD (q:Rat):decide (sgI q=0)=decide (q=0):=decide_eq_decide.2 sgI_zero
theorem fn_stepped (p:Mt) (w:List Rat) (s:Nat) (hp:MtOk p) (hw:Wk p.length s w) (hs:s≤10000000000):Fn Tryz.prog 34 [lM p,lQ w] [] (lQ (stepQ p w)) []:=by
 have hn1:=hp.n1;have hn2:=hp.n2;have hl:=hw.1;have hzw:((cQ w).length:Int)=w.length:=by rw [cQ_len]
 have c0:=fn_whole 0 (by decide) (by decide);have cr:=fn_slRepeat 0 w.length (by omega) (by omega);refine Fn.intro (ks:=[0,1,4,5,6,7,8,9,15,16,17,18,24,28,29,30,31]) hty rfl rfl rfl rfl rfl ?_;conv=>whnf
 refine VCall.of_data c0 (ndA fun k=>rfl) ?_;conv=>whnf
 try rw [cQ_len w]
 refine VCall.frzD 11 (n:=1) (sz:=3) (D:=cQ [0]) ⟨rfl,rfl⟩ (by rw [cQ_len];rfl) (by repeat first | exact trivial | refine ⟨⟨rfl,rfl,rfl⟩,?_⟩) ⟨⟨rfl,rfl,rfl⟩,trivial⟩ ?_;refine VCall.of_ls (k:=14) cr rfl ?_;conv=>whnf
 refine VLoop.inv hty (S:=Nat) (fun i=>[(17,I i),(16,I w.length),(15,lQ w),(5,.ls 14 0 w.length 3),(0,lM p)]) (fun i=>[(14,.row true 3 (cQ (outQ p w i 0)))]) (fun i=>i≤w.length) (fun i=>w.length - i) 0 (Nat.zero_le _)
  ⟨rfl,by show I ((cQ w).length:Nat)=_;rw [cQ_len],rfl,rfl,rfl,trivial⟩ ⟨by rw [outQ_zero];rfl,trivial⟩ ?_
 intro i hi;conv=>whnf
 refine Br.mk (fun hb=>?_) (fun hb=>?_)
 ·have hb:i < w.length:=by simp only [decide_eq_true_eq] at hb;omega
  obtain ⟨a,ea⟩:∃a,w.getD i 0=a:=⟨_,rfl⟩;have za:sz a≤s:=by rw [←ea];exact hw.sz (getD_mem hb)
  have cs:=fn_sign a (by omega);conv=>whnf
  refine ⟨⟨⟨by omega,by rw [cQ_len];omega⟩,cQ_sz _⟩,?_⟩;conv=>whnf
  refine ⟨_,cQ_as hb ea,?_⟩;conv=>whnf
  refine VCall.of_data cs (nd _) ?_;conv=>whnf
  rw [sgI_zeroD];by_cases h0:a=0
  ·rw [decide_eq_true h0];conv=>whnf
   refine Wr.i64 (y:=((i+1:Nat):Int)) rfl (by omega) (by omega) ?_;conv=>whnf
   refine ⟨i+1,hb,by show w.length - (i+1) < w.length - i;omega,⟨rfl,rfl,rfl,rfl,rfl,trivial⟩,⟨?_,trivial⟩⟩;rw [outQ_skip (ea.trans h0)];rfl
  ·rw [decide_eq_false h0];conv=>whnf
   have hrl:(p.getD i []).length=w.length:=by rw [hp.toSz.len (by omega),hl]
   refine ⟨⟨⟨by omega,by rw [cM_len];omega⟩,cM_sz _⟩,?_⟩;conv=>whnf
   refine ⟨_,cM_as (x:=p.getD i []) (by omega) rfl,?_⟩;conv=>whnf
   refine VLoop.inv hty (S:=Nat) (fun j=>[(30,I j),(29,I w.length),(28,lQ (p.getD i [])),(17,I i),(16,I w.length),(15,lQ w),(7,.lp 7 0),(6,I i),(5,.ls 14 0 w.length 3),(0,lM p)])
    (fun j=>[(14,.row true 3 (cQ (outQ p w i j))),(7,.box true [B (ng a),nI (tp a),nI a.den])]) (fun j=>j≤w.length) (fun j=>w.length - j) 0 (Nat.zero_le _)
    ⟨rfl,by show I ((cQ (p.getD i [])).length:Nat)=_;rw [cQ_len,hrl],rfl,rfl,rfl,rfl,rfl,rfl,rfl,rfl,trivial⟩ ⟨rfl,rfl,trivial⟩ ?_
   intro j hj;conv=>whnf
   refine Br.mk (fun hc=>?_) (fun hc=>?_)
   ·have hc:j < w.length:=by simp only [decide_eq_true_eq] at hc;omega
    have z1:=hp.ent_sz (i:=i) (j:=j) (by omega) (by omega);have z2:=step_sz hp hw (j:=j) (k:=i) (by omega) (by omega);have z3:=sz_mul a (ent p i j);have cm:=fn_rmul a (ent p i j) (by omega) (by omega);have ca:=fn_radd (stepAt p w j i) (a*ent p i j) (by omega);have e1:stepAt p w j i+a*ent p i j=stepAt p w j (i+1):=by rw [←ea];rfl
    rw [e1] at ca;have eo:(outQ p w i j).getD j 0=stepAt p w j i:=by rw [outQ_at hc,if_neg (by omega)]
    have es:=outQ_set (p:=p) (w:=w) (i:=i) hc;have hol:=outQ_len p w i j;conv=>whnf
    refine ⟨⟨⟨by omega,by rw [cQ_len,hrl];omega⟩,cQ_sz _⟩,?_⟩;conv=>whnf
    refine ⟨_,cQ_as (x:=ent p i j) (by rw [hrl];exact hc) rfl,?_⟩;conv=>whnf
    refine VDraw.go hmo hty 11 [] rfl ?_;conv=>whnf
    refine ⟨by omega,?_⟩;conv=>whnf
    refine ⟨_,cQ_as (by rw [hol];exact hc) eo,?_⟩;conv=>whnf
    refine QCall.of_data cm (ndA fun k=>rfl) ?_;conv=>whnf
    refine QCall.of_data ca (ndA fun k=>rfl) ?_;conv=>whnf
    refine ⟨by omega,?_⟩;conv=>whnf
    refine ⟨by rw [cQ_len,hol];show j+0 < _;omega,?_⟩;conv=>whnf
    refine Wr.i64 (y:=((j+1:Nat):Int)) rfl (by omega) (by omega) ?_;conv=>whnf
    refine ⟨j+1,hc,by show w.length - (j+1) < w.length - j;omega,⟨rfl,rfl,rfl,rfl,rfl,rfl,rfl,rfl,rfl,rfl,trivial⟩,⟨?_,rfl,trivial⟩⟩;show Ob.row true 3 ((cQ _).set j (c1Q (stepAt p w j (i+1))))=_;rw [cQ_set,es]
   ·have hc:j=w.length:=by simp only [decide_eq_false_iff_not] at hc;omega
    rw [hc,outQ_next];conv=>whnf
    refine Wr.i64 (y:=((i+1:Nat):Int)) rfl (by omega) (by omega) ?_;conv=>whnf
    exact ⟨i+1,hb,by show w.length - (i+1) < w.length - i;omega,⟨rfl,rfl,rfl,rfl,rfl,trivial⟩,⟨rfl,trivial⟩⟩
 ·have hb:i=w.length:=by simp only [decide_eq_false_iff_not] at hb;omega
  rw [hb,outQ_all];conv=>whnf
  refine ⟨⟨rfl,by rw [cQ_len,stepQ_len];omega,?_⟩,trivial,rfl⟩;rw [List.drop_zero,List.take_of_length_le (by rw [cQ_len,stepQ_len];omega)]
end Go.V
namespace Go.V
open Go.Proofs Go.RowKit
set_option maxRecDepth 10000
set_option maxHeartbeats 1000000
theorem point_set (n i:Nat):(List.replicate n (0:Rat)).set i 1=pointQ n i:=by
 apply List.ext_getElem (by simp [pointQ_len])
 intro k h1 h2
 rw [List.getElem_set]
 simp only [pointQ,List.getElem_map,List.getElem_range,List.getElem_replicate]
 by_cases e:i=k
 ·rw [if_pos e,if_pos e.symm]
 ·rw [if_neg e,if_neg (fun h=>e h.symm)]
def powM (p:Mt) (n:Nat):Mt:=(List.range p.length).map fun i=>afterQ p n (pointQ p.length i)
theorem powM_len (p:Mt) (n:Nat):(powM p n).length=p.length:=by simp [powM]
def powL (p:Mt) (n i:Nat):Mt:=(List.range i).map fun i=>afterQ p n (pointQ p.length i)
theorem powL_next (p:Mt) (n i:Nat):powL p n (i+1)=powL p n i++[afterQ p n (pointQ p.length i)]:=by
 unfold powL;rw [List.range_succ,List.map_append];rfl
theorem powL_len (p:Mt) (n i:Nat):(powL p n i).length=i:=by simp [powL]
end Go.V
namespace Go.V
theorem Iz.szA {E M:Nat} {a:Rat} (h:Iz E a) (hE:E≠0) (h0:-((M:Int):Rat)≤a) (h1:a≤((M:Int):Rat)):Go.V.sz a≤bl M+bl E:=by
 by_cases hn:0≤a
 ·exact h.sz2 hE hn h1
 ·have h2:=h.neg.sz2 (M:=M) hE (by grind) (by grind)
  rwa [sz_neg] at h2
def Vk (E M:Nat) (v:List Rat):Prop:=∀q,q∈v→-((M:Int):Rat)≤q∧q≤((M:Int):Rat)∧Iz E q
theorem Vk.sz {E M:Nat} {v:List Rat} (h:Vk E M v) (hE:E≠0) {q:Rat} (hq:q∈v):Go.V.sz q≤bl M+bl E:=(h q hq).2.2.szA hE (h q hq).1 (h q hq).2.1
structure Mo where
 room:Nat
 come:Rat
 serve:Rat
 reward:Rat
 cost:Rat
def Mo.stay (m:Mo):Rat:=1 - m.come - m.serve
structure Mo.Ok (m:Mo):Prop where
 r1:1≤m.room
 r2:m.room≤8
 c0:0 < m.come
 s0:0 < m.serve
 t0:0≤m.stay
 w0:0≤m.reward
 k0:0≤m.cost
 zc:Go.V.sz m.come≤800
 zs:Go.V.sz m.serve≤800
 zw:Go.V.sz m.reward≤800
 zk:Go.V.sz m.cost≤800
theorem Mo.Ok.zt {m:Mo} (h:m.Ok):Go.V.sz m.stay≤1603:=by
 have h1:=sz_sub (1 - m.come) m.serve
 have h2:=sz_sub 1 m.come
 have h3:Go.V.sz (1:Rat)≤1:=sz_small (n:=1) (k:=1) (by decide) (by decide)
 have:=h.zc;have:=h.zs
 unfold Mo.stay;omega
def vAt (v:List Rat) (n:Nat):Rat:=v.getD n 0
theorem vAt_mem {v:List Rat} {n:Nat} (h:n < v.length):vAt v n∈v:=getD_mem h
theorem le_tp {q:Rat} (h:0≤q):q≤((tp q:Int):Rat):=by
 have h1:q*((q.den:Int):Rat)=(q.num:Rat):=by
  have h:mkRat q.num q.den=q:=Rat.mkRat_self q;have hp:((q.den:Int):Rat)≠0:=by have:=q.den_nz;exact_mod_cast this
  rw [Rat.mkRat_eq_div,natc] at h;have h3:=Rat.div_mul_cancel (a:=((q.num:Int):Rat)) hp;rw [h] at h3;exact h3
 have h2:(1:Rat)≤((q.den:Int):Rat):=by
  have:(1:Int)≤(q.den:Int):=by have:=q.den_nz;omega
  exact_mod_cast this
 have h3:=Rat.mul_le_mul_of_nonneg_left h2 h;rw [Rat.mul_one,h1] at h3;have h4:(q.num:Int)≤(tp q:Int):=by unfold tp;omega
 have h5:(q.num:Rat)≤((tp q:Int):Rat):=by exact_mod_cast h4
 grind
end Go.V
