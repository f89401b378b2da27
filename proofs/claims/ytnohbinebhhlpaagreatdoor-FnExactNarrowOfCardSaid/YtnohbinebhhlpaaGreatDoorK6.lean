/- Part 6: the abstract machine, its soundness, contracts of functions. -/
import Derived.Test.YtnohbinebhhlpaaGreatDoorK5
import Derived.Lib.ParseIntB
import Derived.Lib.Bytealg
import Derived.Test.YtnohbinebhhlpaaGreatDoorRshelf
import Derived.Lib.ConvBytes
import Derived.Lib.Strings
import Derived.Test.YtnohbinebhhlpaaGreatDoorK3
import Derived.Shelf.Strconv.Itoa3
import Derived.Lib.AppendIntMem
import Derived.Lib.SliceRun
import Derived.WalkKit
import Derived.Lib.Repeat
import Derived.Lib.Join
set_option linter.unusedVariables false
set_option linter.unusedSimpArgs false
namespace Go.V
open Go.Proofs
set_option maxRecDepth 10000
set_option maxHeartbeats 1000000
abbrev pS (s:Bool) (t b:Nat):AV:=.ag [B s,nS t,nS b]
def lessB (s:Bool) (t b:Nat) (s':Bool) (t' b':Nat):Bool:=if s≠s' then s else if s then decide (0 < cmpZ (t*b') (t'*b)) else decide (cmpZ (t*b') (t'*b) < 0)
theorem cmpZ_pos {a b:Nat}:0 < cmpZ a b↔b < a:=by
 have h1:=cmpZ_neg (a:=a) (b:=b)
 have h2:=cmpZ_zero (a:=a) (b:=b)
 omega
theorem lessB_lt (p q:Rat):lessB (ng p) (tp p) p.den (ng q) (tp q) q.den=decide (p < q):=by
 rw [show decide (p < q)=decide (sgn (ng p) (tp p*q.den) < sgn (ng q) (tp q*p.den)) from decide_eq_decide.2 (lt_cross p q)]
 have hX:tp p*q.den=0→ng p=false:=fun h=>ng_zero ((Nat.mul_eq_zero.1 h).elim id fun h=>absurd h q.den_nz)
 have hY:tp q*p.den=0→ng q=false:=fun h=>ng_zero ((Nat.mul_eq_zero.1 h).elim id fun h=>absurd h p.den_nz)
 have c1:=cmpZ_neg (a:=tp p*q.den) (b:=tp q*p.den)
 have c2:=cmpZ_pos (a:=tp p*q.den) (b:=tp q*p.den)
 unfold lessB
 generalize cmpZ (tp p*q.den) (tp q*p.den)=c at *
 generalize tp p*q.den=X at *
 generalize tp q*p.den=Y at *
 cases e1:ng p <;> cases e2:ng q <;> simp only [e1,e2,ne_eq,not_true_eq_false,if_false,if_true,reduceCtorEq,not_false_eq_true,Bool.false_eq_true,sgn,Bool.true_eq_false] at hX hY ⊢
 ·exact decide_eq_decide.2 (by omega)
 ·exact (decide_eq_false (p:=(X:Int) < -(Y:Int)) (by omega)).symm
 ·have hX':X≠0:=hX
  exact (decide_eq_true (p:=-(X:Int) < (Y:Int)) (by omega)).symm
 ·exact decide_eq_decide.2 (by omega)
theorem fn_sLessP (s:Bool) (t b:Nat) (s':Bool) (t' b':Nat) (h1:bl t≤100000000000) (h2:bl b≤100000000000) (h3:bl t'≤100000000000) (h4:bl b'≤100000000000) :
  Fn Tryz.prog 93 [pS s t b,pS s' t' b'] [] (B (lessB s t b s' t' b')) []:=by
 have k1:=bl_mul t b';have k2:=bl_mul t' b;have m1:=fn_sMul t b' (by omega) (by omega);have m2:=fn_sMul t' b (by omega) (by omega);have cc:=fn_sCmp (t*b') (t'*b) (by omega) (by omega);unfold lessB;obtain ⟨c,ec⟩:∃x,cmpZ (t*b') (t'*b)=x:=⟨_,rfl⟩;rw [ec] at cc;rw [ec];refine Fn.intro (ks:=[0,1,2,3,4,5,10]) hty rfl rfl rfl rfl rfl ?_;conv=>whnf
 refine Br.mk (fun h=>?_) (fun h=>?_)
 ·have h:s≠s':=by simpa using h
  rw [if_pos h];conv=>whnf
  exact ⟨rfl,trivial,rfl⟩
 ·have h:¬s≠s':=by simpa using h
  rw [if_neg h];conv=>whnf
  refine VDraw.go hmo hty 12 [] rfl ?_;conv=>whnf
  refine QCall.of_data m1 (nd _) ?_;conv=>whnf
  refine QCall.of_data m2 (nd _) ?_;conv=>whnf
  refine QCall.of_data cc (nd _) ?_;conv=>whnf
  cases s
  ·conv=>whnf
   refine Br.mk (fun h2=>?_) (fun h2=>?_)
   ·conv=>whnf
    exact ⟨by rw [if_neg (by decide),h2],trivial,rfl⟩
   ·conv=>whnf
    exact ⟨by rw [if_neg (by decide),h2],trivial,rfl⟩
  ·conv=>whnf
   exact ⟨rfl,trivial,rfl⟩
theorem fn_sLess2 (p q:Rat) (hp:sz p≤100000000000) (hq:sz q≤100000000000):Fn Tryz.prog 93 [rS p,rS q] [] (B (decide (p < q))) []:=by
 have b1:=bl_tp p
 have b2:=bl_den p
 have b3:=bl_tp q
 have b4:=bl_den q
 rw [←lessB_lt]
 exact fn_sLessP _ _ _ _ _ _ (by omega) (by omega) (by omega) (by omega)
def c1S (q:Rat):List C:=[.s (.bool (ng q)),.sl (cW .i64 (dg B9 (tp q))),.sl (cW .i64 (dg B9 q.den))]
def cS (xs:List Rat):List (List C):=xs.map c1S
theorem cS_len (xs:List Rat):(cS xs).length=xs.length:=by simp [cS]
theorem cS_sz (xs:List Rat):∀r,r∈cS xs→r.length=3:=by
 intro r hr;simp only [cS,List.mem_map] at hr;obtain ⟨n,_,rfl⟩:=hr;rfl
theorem cS_as {xs:List Rat} {i:Nat} {x:Rat} (h:i < xs.length) (e:xs.getD i 0=x):(cS xs)[i]? = some (c1S x):=by
 subst e;rw [gD,List.getElem?_eq_getElem h];simp [cS,h]
theorem cS_append (xs ys:List Rat):cS xs++cS ys=cS (xs++ys):=by simp [cS]
abbrev lS (xs:List Rat):AV:=.d (.sl (cS xs))
theorem fn_sTotal (xs:List Rat) (m:Nat) (h:∀q,q∈xs→sz q≤m) (h1:1≤m) (hn:xs.length≤1000000) (hm:xs.length*(m+1)+m+1≤99999999999):Fn Tryz.prog 201 [lS xs] [] (rS (rsum xs)) []:=by
 have hl:((cS xs).length:Int)=xs.length:=by rw [cS_len]
 refine Fn.intro (ks:=[0,2,3,4,7,8,9]) hty rfl rfl rfl rfl rfl ?_;conv=>whnf
 refine VCall.of_data fn_sNone (ndA fun k=>rfl) ?_;conv=>whnf
 refine VLoop.inv hty (S:=Nat) (fun i=>[(8,I i),(7,I xs.length),(0,lS xs),(3,.lp 3 0),(2,.lp 2 0)])
  (fun i=>[(3,.box true [B (ng (psum xs i)),nS (tp (psum xs i)),nS (psum xs i).den]),(2,.box true (zeros (ty 67).zero))])
  (fun i=>i≤xs.length) (fun i=>xs.length - i) 0 (Nat.zero_le _) ⟨rfl,by show AV.d (.s (.int .i64 ((cS xs).length:Int)))=_;rw [cS_len],rfl,rfl,rfl,trivial⟩ ⟨rfl,rfl,trivial⟩ ?_
 intro i hi;conv=>whnf
 refine Br.mk (fun h2=>?_) (fun h2=>?_)
 ·have h2:i < xs.length:=by simp only [decide_eq_true_eq] at h2;omega
  obtain ⟨x,ex⟩:∃x,xs.getD i 0=x:=⟨_,rfl⟩;have sx:=getD_sz h i h1;have sp:=sz_psum h h1 i;have hi2:i*(m+1)≤xs.length*(m+1):=Nat.mul_le_mul_right _ hi;have er:psum xs (i+1)=psum xs i+x:=by rw [←ex];rfl
  rw [ex] at sx;have cc:=fn_sSum (psum xs i) x (by omega);rw [←er] at cc;conv=>whnf
  refine VDraw.go hmo hty 6 [] rfl ?_;conv=>whnf
  refine ⟨⟨⟨by omega,by omega⟩,cS_sz _⟩,?_⟩;conv=>whnf
  refine ⟨_,cS_as (x:=x) h2 ex,?_⟩;conv=>whnf
  refine QCall.of_data cc (ndA fun k=>rfl) ?_;conv=>whnf
  refine Wr.i64 (y:=((i+1:Nat):Int)) (by omega) (by omega) (by omega) ?_;conv=>whnf
  exact ⟨i+1,h2,by show xs.length - (i+1) < xs.length - i;omega,⟨rfl,rfl,rfl,rfl,rfl,trivial⟩,rfl,rfl,trivial⟩
 ·have h2:i=xs.length:=by simp only [decide_eq_false_iff_not] at h2;omega
  subst h2;conv=>whnf
  exact ⟨rfl,rfl,rfl,trivial,rfl⟩
theorem fn_sPositive (xs:List Rat) (hn:xs.length≤1000000):Fn Tryz.prog 200 [lS xs] [] (B (xs.all fun q=>!ng q)) []:=by
 have hl:((cS xs).length:Int)=xs.length:=by rw [cS_len]
 refine Fn.intro (ks:=[0,2,3,5,6,7,13]) hty rfl rfl rfl rfl rfl ?_;conv=>whnf
 refine VLoop.inv hty (S:=Nat) (fun i=>[(6,I i),(5,I xs.length),(0,lS xs)]) (fun _=>[]) (fun i=>i≤xs.length∧∀k,k < i→ng (xs.getD k 0)=false) (fun i=>xs.length - i) 0 ⟨Nat.zero_le _,fun k h=>absurd h (Nat.not_lt_zero k)⟩
  ⟨rfl,by show AV.d (.s (.int .i64 ((cS xs).length:Int)))=_;rw [cS_len],rfl,trivial⟩ trivial ?_
 rintro i ⟨hi,hk⟩;conv=>whnf
 refine Br.mk (fun h2=>?_) (fun h2=>?_)
 ·have h2:i < xs.length:=by simp only [decide_eq_true_eq] at h2;omega
  obtain ⟨x,ex⟩:∃x,xs.getD i 0=x:=⟨_,rfl⟩;conv=>whnf
  refine ⟨⟨⟨by omega,by omega⟩,cS_sz _⟩,?_⟩;conv=>whnf
  refine ⟨_,cS_as (x:=x) h2 ex,?_⟩;conv=>whnf
  refine Br.mk (fun h3=>?_) (fun h3=>?_)
  ·have e:(xs.all fun q=>!ng q)=false:=by
    rw [List.all_eq_false];refine ⟨x,?_,by rw [h3];decide⟩;rw [←ex,gD,List.getElem?_eq_getElem h2];exact List.getElem_mem h2
   rw [e];conv=>whnf
   exact ⟨rfl,trivial,rfl⟩
  ·conv=>whnf
   refine Wr.i64 (y:=((i+1:Nat):Int)) (by omega) (by omega) (by omega) ?_;conv=>whnf
   refine ⟨i+1,⟨h2,fun k hki=>?_⟩,by show xs.length - (i+1) < xs.length - i;omega,⟨rfl,rfl,rfl,trivial⟩,trivial⟩;rcases Nat.lt_or_ge k i with h4 | h4
   ·exact hk k h4
   ·rw [show k=i by omega,ex];exact h3
 ·have h2:i=xs.length:=by simp only [decide_eq_false_iff_not] at h2;omega
  have e:(xs.all fun q=>!ng q)=true:=by
   rw [List.all_eq_true];intro q hq;obtain ⟨k,hk1,hk2⟩:=List.mem_iff_getElem.1 hq;have:=hk k (by omega);rw [gD,List.getElem?_eq_getElem hk1] at this;simp at this;rw [hk2] at this;simp [this]
  rw [e];conv=>whnf
  exact ⟨rfl,trivial,rfl⟩
end Go.V
namespace Go.V
theorem parseM_ok:∀(s:List UInt8) (acc:Nat),(∀b,b∈s→IsD b)→(acc+1)*10 ^ s.length≤10 ^ 18→Lib.parseUintM (2 ^ 64 - 1) acc s = .ok (dvA s acc)
 | [],acc,_,_=>rfl
 | b :: r,acc,h,hb=>by
  have h1:=h b (by simp);have e:(acc+1)*10 ^ (b :: r).length=(acc+1)*10*10 ^ r.length:=by rw [List.length_cons,Nat.pow_succ,Nat.mul_assoc,Nat.mul_comm 10]
  rw [e] at hb;have h2:(acc+1)*10*1≤(acc+1)*10*10 ^ r.length:=Nat.mul_le_mul_left _ (Nat.pow_pos (by decide));have h18:(10:Nat) ^ 18=1000000000000000000:=by decide
  have hd:b.toNat - 48≤9:=by have:=h1.2;omega
  have h64:(2:Nat) ^ 64 - 1=18446744073709551615:=by decide
  rw [Lib.parseUintM,if_pos (show 48≤b.toNat∧b.toNat≤57 from h1),if_neg (by omega),if_neg (by rw [h64];omega),dvA,Nat.mul_comm 10 acc];refine parseM_ok r _ (fun x hx=>h x (by simp [hx])) ?_;have h3:(acc*10+(b.toNat - 48)+1)*10 ^ r.length≤(acc+1)*10*10 ^ r.length:=Nat.mul_le_mul_right _ (by omega);omega
theorem parse_ok {s:List UInt8} (h:∀b,b∈s→IsD b) (h0:s≠[]) (hl:s.length≤18):Lib.parseUintB 64 s = .ok (dv s):=by
 rw [Lib.parseUintB,if_neg h0]
 refine parseM_ok s 0 h ?_
 rw [Nat.zero_add,Nat.one_mul]
 exact Nat.pow_le_pow_right (by decide) hl
def splitB (c:UInt8):List UInt8→List (List UInt8)
 | []=>[[]]
 | b :: r=>if b=c then [] :: splitB c r else match splitB c r with
  | p :: ps=>(b :: p) :: ps
  | []=>[[b]]
theorem splitB_ne (c:UInt8):∀s,splitB c s≠[]
 | []=>by simp [splitB]
 | b :: r=>by
  unfold splitB
  split
  ·simp
  ·split <;> simp
theorem splitB_none {c:UInt8}:∀{s:List UInt8},c ∉ s→splitB c s=[s]
 | [],_=>rfl
 | b :: r,h=>by
  have h1:b≠c:=fun e=>h (by simp [e])
  have h2:=splitB_none (c:=c) (s:=r) fun hr=>h (by simp [hr])
  rw [splitB,if_neg h1,h2]
theorem splitB_at {c:UInt8}:∀{p s:List UInt8},c ∉ p→splitB c (p++c :: s)=p :: splitB c s
 | [],s,_=>by rw [List.nil_append,splitB,if_pos rfl]
 | b :: r,s,h=>by
  have h1:b≠c:=fun e=>h (by simp [e])
  have h2:=splitB_at (c:=c) (p:=r) (s:=s) fun hr=>h (by simp [hr])
  rw [List.cons_append,splitB,if_neg h1,h2]
theorem indexByte_spec (c:UInt8):∀s:List UInt8,(c ∉ s∧Lib.indexByte s c = -1)∨∃p r,s=p++c :: r∧c ∉ p∧Lib.indexByte s c=p.length
 | []=>.inl ⟨by simp,rfl⟩
 | b :: r=>by
  by_cases hb:b=c
  ·subst hb;exact .inr ⟨[],r,rfl,by simp,by simp [Lib.indexByte]⟩
  ·rcases indexByte_spec c r with ⟨h1,h2⟩ | ⟨p,q,h1,h2,h3⟩
   ·left
    refine ⟨by simp only [List.mem_cons,not_or];exact ⟨fun e=>hb e.symm,h1⟩,?_⟩;simp [Lib.indexByte,hb,h2]
   ·right
    refine ⟨b :: p,q,by rw [h1];rfl,by simp only [List.mem_cons,not_or];exact ⟨fun e=>hb e.symm,h2⟩,?_⟩;have:¬((p.length:Int) = -1):=by omega
    simp [Lib.indexByte,hb,h3,this]
def okN (s:List UInt8):Prop:=s≠[]∧s.length≤200∧(∀b,b∈s→IsD b)∧(s.length=1∨s.head? ≠ some 48)
instance (s:List UInt8):Decidable (okN s):=by unfold okN IsD;exact inferInstance
end Go.V
namespace Go.V
open Go.Proofs Go.RowKit
set_option maxRecDepth 10000
set_option maxHeartbeats 1000000
theorem bx (l:List UInt8) (a h:Nat):(⟨l.toArray⟩:ByteArray).extract a h=⟨((l.take h).drop a).toArray⟩:=by
 apply ByteArray.ext
 rw [ByteArray.data_extract]
 simp [List.drop_take]
theorem bsize (l:List UInt8):(⟨l.toArray⟩:ByteArray).size=l.length:=rfl
theorem Grew.below {w w':World} (h:Below w.heap.size w w'):Grew w w':=⟨h.os,h.tape,h.output,h.size,h.block⟩
theorem Grew.bytes (w:World) (e:TypeId) (s:ByteArray):Grew w (Lib.bytesWorld w e s) :=
 ⟨rfl,rfl,rfl,by rw [Lib.bytesWorld_size];omega,fun j hj=>Lib.bytesWorld_at_old w e s j hj⟩
theorem avr_tup {κ:Know} {ρ:Place} {vs:List Value} {cs:List AV} (h:vs.length=cs.length) (hv:∀(k:Nat) v c,vs[k]? = some v→cs[k]? = some c→AVR κ ρ v c):AVR κ ρ (.tuple vs.toArray) (.tup cs) :=
 .tup _ _ (by simpa using h) fun k v c h1 h2=>hv k v c (by simpa using h1) h2
theorem fn_ParseUint (s:List UInt8) (h:∀b,b∈s→IsD b) (h0:s≠[]) (hl:s.length≤18):Fn Tryz.prog 215 [Str s,I 10,I 64] [] (.tup [N64 (dv s),.d (.s .nilIface)]) []:=by
 refine Fn.of_calls (vs:=[.string ⟨s.toArray⟩,.int .i64 10,.int .i64 64]) ⟨_,rfl,rfl,rfl⟩ fun w _=>?_
 refine Calls.mono (Tryz.strconv_ParseUint_10_at64_ok ⟨s.toArray⟩ (by rw [bsize];omega) (dv s) (parse_ok h h0 hl) w) ?_
 rintro e w' ⟨rfl,hw⟩
 refine ⟨_,rfl,fun κ ρ=>?_,?_⟩
 ·refine avr_tup (vs:=[.int .u64 (dv s),.nilIface]) rfl fun k v c h1 h2=>?_
  match k,h1,h2 with
  | 0,h1,h2=>simp at h1 h2;subst h1;subst h2;exact .d _ _ (.s _)
  | 1,h1,h2=>simp at h1 h2;subst h1;subst h2;exact .d _ _ (.s _)
 ·rcases hw with rfl | rfl
  ·exact Grew.refl _
  ·exact Grew.bytes _ _ _
theorem fn_CutPrefix (s p:List UInt8):Fn Tryz.prog 189 [Str s,Str p] [] (.tup [Str (Lib.trimPrefix s p),B (Lib.hasPrefix s p)]) []:=by
 refine Fn.of_calls (vs:=[.string ⟨s.toArray⟩,.string ⟨p.toArray⟩]) ⟨_,rfl,rfl,rfl⟩ fun w _=>?_
 refine Calls.mono (Tryz.strings_CutPrefix ⟨s.toArray⟩ ⟨p.toArray⟩ w) ?_
 rintro e w' ⟨rfl,rfl⟩
 refine ⟨_,rfl,fun κ ρ=>?_,Grew.refl _⟩
 refine avr_tup (vs:=[.string ⟨(Lib.trimPrefix s p).toArray⟩,.bool (Lib.hasPrefix s p)]) rfl fun k v c h1 h2=>?_
 match k,h1,h2 with
 | 0,h1,h2=>simp at h1 h2;subst h1;subst h2;exact .d _ _ (.s _)
 | 1,h1,h2=>simp at h1 h2;subst h1;subst h2;exact .d _ _ (.s _)
theorem fn_Index1 (s:List UInt8) (c:UInt8):Fn Tryz.prog 235 [Str s,Str [c]] [] (I (Lib.indexByte s c)) [] :=
 Fn.of_same (vs:=[.string ⟨s.toArray⟩,.string ⟨[c].toArray⟩]) ⟨_,rfl,rfl,rfl⟩ fun w=>Tryz.stringslite_Index_one ⟨s.toArray⟩ c w
def cutB (c:UInt8) (s:List UInt8):List UInt8×List UInt8×Bool:=match Lib.indexByte s c with
 | .ofNat n=>(s.take n,s.drop (n+1),true)
 | .negSucc _=>(s,[],false)
theorem fn_slCut (s:List UInt8) (c:UInt8) (hs:s.length≤1000000000000):Fn Tryz.prog 213 [Str s,Str [c]] [] (.tup [Str (cutB c s).1,Str (cutB c s).2.1,B (cutB c s).2.2]) []:=by
 have ci:=fn_Index1 s c;refine Fn.intro (ks:=[0,1,4,5,6,7,12]) hty rfl rfl rfl rfl rfl ?_;rcases indexByte_spec c s with ⟨h1,h2⟩ | ⟨p,r,h1,h2,h3⟩
 ·rw [show cutB c s=(s,[],false) by rw [cutB,h2];rfl];rw [h2] at ci;conv=>whnf
  refine VCall.of_data ci (nd _) ?_;conv=>whnf
  exact ⟨rfl,rfl,rfl,trivial,rfl⟩
 ·have hl:s.length=p.length+(r.length+1):=by rw [h1];simp
  have e:cutB c s=(p,r,true):=by
   rw [cutB,h3];show (s.take p.length,s.drop (p.length+1),true)=_;rw [h1];simp
  rw [e];rw [h3] at ci;conv=>whnf
  refine VCall.of_data ci (nd _) ?_;conv=>whnf
  refine VDraw.go hmo hty 12 [] rfl ?_;conv=>whnf
  refine ⟨⟨by omega,by omega,by rw [bsize];omega⟩,?_⟩;rw [bx,show s.take ((p.length:Nat):Int).toNat=p by rw [h1];simp,show p.drop (0:Int).toNat=p from rfl];conv=>whnf
  refine Wr.i64 (y:=((p.length+1:Nat):Int)) rfl (by omega) (by omega) ?_;conv=>whnf
  refine ⟨⟨by omega,by rw [bsize];omega,by rw [bsize];omega⟩,?_⟩;rw [bx,show (s.take (((⟨s.toArray⟩:ByteArray).size:Int).toNat)).drop (((p.length+1:Nat):Int).toNat)=r by
   rw [bsize,show ((s.length:Nat):Int).toNat=s.length from rfl,List.take_length,show ((p.length+1:Nat):Int).toNat=p.length+1 from rfl,h1];simp]
  conv=>whnf
  exact ⟨rfl,rfl,rfl,trivial,rfl⟩
theorem fn_Cut (s:List UInt8) (c:UInt8) (hs:s.length≤1000000000000):Fn Tryz.prog 188 [Str s,Str [c]] [] (.tup [Str (cutB c s).1,Str (cutB c s).2.1,B (cutB c s).2.2]) []:=by
 refine Fn.intro (ks:=[0,1,4,5,6]) hty rfl rfl rfl rfl rfl ?_
 conv=>whnf
 refine VCall.of_data (fn_slCut s c hs) (ndT (fun k=>rfl)) ?_
 conv=>whnf
 exact ⟨rfl,rfl,rfl,trivial,rfl⟩
end Go.V
namespace Go.V
open Go.Proofs Go.RowKit
set_option maxRecDepth 10000
set_option maxHeartbeats 1000000
theorem bloop (l:List UInt8):∀(n i:Nat) (r:List UInt8),l.length - i=n→ByteArray.toList.loop ⟨l.toArray⟩ i r=r.reverse++l.drop i:=by
 intro n;induction n with
 | zero =>
  intro i r h;unfold ByteArray.toList.loop;rw [if_neg (by show ¬i < l.length;omega),List.drop_of_length_le (by omega),List.append_nil]
 | succ n ih =>
  intro i r h;have hi:i < l.length:=by omega
  unfold ByteArray.toList.loop;rw [if_pos (show i < (⟨l.toArray⟩:ByteArray).size from hi),ih _ _ (by omega),List.drop_eq_getElem_cons hi];have:(⟨l.toArray⟩:ByteArray).get! i=l[i]:=by
   show l.toArray[i]! = l[i];simp [hi]
  rw [this];simp
theorem btl (l:List UInt8):(⟨l.toArray⟩:ByteArray).toList=l:=by
 unfold ByteArray.toList
 rw [bloop l _ 0 [] rfl];simp
theorem bnil (l:List UInt8):((⟨l.toArray⟩:ByteArray).toList == (⟨#[]⟩:ByteArray).toList)=decide (l=[]):=by
 rw [btl,show (⟨#[]⟩:ByteArray).toList=[] from btl []]
 cases l <;> rfl
theorem dv_bl {s:List UInt8} (h:∀b,b∈s→IsD b):bl (dv s)≤4*s.length:=by
 refine bl_le (Nat.lt_of_lt_of_le (dv_lt h) ?_)
 rw [Nat.pow_mul];exact Nat.pow_le_pow_left (by decide) _
theorem okN.dig {s:List UInt8} (h:okN s):∀b,b∈s→IsD b:=h.2.2.1
theorem fn_readNat (s:List UInt8) (hs:s.length≤1000000000000):Fn Tryz.prog 190 [Str s] [] (.tup [nI (if okN s then dv s else 0),B (decide (okN s))]) []:=by
 refine Fn.intro (ks:=[0,2,3,4,5,6,7,9,26,29,30,31,42,45,50,58,59,60]) hty rfl rfl rfl rfl rfl ?_;conv=>whnf
 refine Br.mk (fun h=>?_) (fun h=>?_)
 ·rw [bnil,decide_eq_true_eq] at h;have hno:¬okN s:=fun hok=>hok.1 h;conv=>whnf
  rw [if_neg hno,decide_eq_false hno];conv=>whnf
  exact ⟨rfl,trivial,rfl⟩
 ·rw [bnil,decide_eq_false_iff_not] at h;have hpos:0 < s.length:=List.length_pos_iff.2 h;conv=>whnf
  refine Br.mk (fun h2=>?_) (fun h2=>?_)
  ·have h2:200 < s.length:=by rw [bsize] at h2;simp only [decide_eq_true_eq] at h2;omega
   have hno:¬okN s:=fun hok=>by have:=hok.2.1;omega
   conv=>whnf
   rw [if_neg hno,decide_eq_false hno];conv=>whnf
   exact ⟨rfl,trivial,rfl⟩
  ·have h2:s.length≤200:=by rw [bsize] at h2;simp only [decide_eq_false_iff_not] at h2;omega
   conv=>whnf
   refine ⟨⟨by omega,by rw [bsize];omega⟩,?_⟩;conv=>whnf
   have hhead:s.head? = some (s.getD 0 0):=by cases s with
    | nil=>simp at hpos
    | cons x r=>rfl
   refine Br.mk (fun h3=>?_) (fun h3=>?_)
   ·have h3:s.getD 0 0=48:=by
     have h3':(((s.getD 0 0).toNat:Nat):Int)=48:=by simp only [decide_eq_true_eq] at h3;exact h3
     exact uint8_ext (by show (s.getD 0 0).toNat=48;omega)
    conv=>whnf
    refine Br.mk (fun h4=>?_) (fun h4=>?_)
    ·have h4:1 < s.length:=by rw [bsize] at h4;simp only [decide_eq_true_eq] at h4;omega
     have hno:¬okN s:=fun hok=>by
      rcases hok.2.2.2 with h5 | h5
      ·omega
      ·rw [hhead,h3] at h5;exact h5 rfl
     conv=>whnf
     rw [if_neg hno,decide_eq_false hno];conv=>whnf
     exact ⟨rfl,trivial,rfl⟩
    ·have hlz:s.length=1∨s.head? ≠ some 48:=.inl (by rw [bsize] at h4;simp only [decide_eq_false_iff_not] at h4;omega);conv=>whnf
     refine VLoop.invX hty (S:=Nat) (E:=Unit) [] [] 0 (fun i=>[(30,I i),(29,I s.length),(4,.ls 27 0 0 1),(0,Str s)]) (fun _=>[(27,.row true 1 [])]) (fun i=>i≤s.length∧∀k,k < i→IsD (s.getD k 0)) (fun i=>s.length - i)
      (fun _=>[(4,.ls 27 0 0 1),(0,Str s)]) (fun _=>[(27,.row true 1 [])]) (fun _=>∀b,b∈s→IsD b) 0 ⟨Nat.zero_le _,fun k h=>absurd h (Nat.not_lt_zero k)⟩ ⟨rfl,rfl,rfl,rfl,trivial⟩ ⟨rfl,trivial⟩ ?_ ?_
     ·rintro i ⟨hi,hk⟩;obtain ⟨b,eb⟩:∃b,s.getD i 0=b:=⟨_,rfl⟩;conv=>whnf
      refine Br.mk (fun h5=>?_) (fun h5=>?_)
      ·have h5:i < s.length:=by simp only [decide_eq_true_eq] at h5;omega
       have hbm:b∈s:=by rw [←eb,gD,List.getElem?_eq_getElem h5];exact List.getElem_mem h5
       conv=>whnf
       refine ⟨⟨by omega,by rw [bsize];omega⟩,?_⟩;rw [show (⟨s.toArray⟩:ByteArray).data.toList.getD ((i:Nat):Int).toNat 0=b from eb];conv=>whnf
       refine Br.mk (fun h6=>?_) (fun h6=>?_)
       ·have h6:b.toNat < 48:=by simp only [decide_eq_true_eq] at h6;omega
        have hno:¬okN s:=fun hok=>by have:=(hok.dig b hbm).1;omega
        conv=>whnf
        rw [if_neg hno,decide_eq_false hno];conv=>whnf
        exact ⟨rfl,trivial,rfl⟩
       ·have h6:¬b.toNat < 48:=by simp only [decide_eq_false_iff_not] at h6;omega
        conv=>whnf
        refine ⟨⟨by omega,by rw [bsize];omega⟩,?_⟩;rw [show (⟨s.toArray⟩:ByteArray).data.toList.getD ((i:Nat):Int).toNat 0=b from eb];conv=>whnf
        refine Br.mk (fun h7=>?_) (fun h7=>?_)
        ·have h7:57 < b.toNat:=by simp only [decide_eq_true_eq] at h7;omega
         have hno:¬okN s:=fun hok=>by have:=(hok.dig b hbm).2;omega
         conv=>whnf
         rw [if_neg hno,decide_eq_false hno];conv=>whnf
         exact ⟨rfl,trivial,rfl⟩
        ·have h7:¬57 < b.toNat:=by simp only [decide_eq_false_iff_not] at h7;omega
         conv=>whnf
         refine Wr.i64 (y:=((i+1:Nat):Int)) (by omega) (by omega) (by omega) ?_;conv=>whnf
         refine ⟨i+1,⟨h5,fun k hki=>?_⟩,by show s.length - (i+1) < s.length - i;omega,⟨rfl,rfl,rfl,rfl,trivial⟩,rfl,trivial⟩;rcases Nat.lt_or_ge k i with h8 | h8
         ·exact hk k h8
         ·rw [show k=i by omega,eb];exact ⟨by omega,by omega⟩
      ·have h5:i=s.length:=by simp only [decide_eq_false_iff_not] at h5;omega
       conv=>whnf
       refine ⟨rfl,(),fun b hb=>?_,⟨rfl,rfl,trivial⟩,rfl,trivial⟩;obtain ⟨k,hk1,hk2⟩:=List.mem_iff_getElem.1 hb;have:=hk k (by omega);rw [gD,List.getElem?_eq_getElem hk1] at this;simpa [hk2] using this
     ·rintro _ hdig;have hok:okN s:=⟨h,h2,hdig,hlz⟩;have hbl:∀m,m≤s.length→bl (dv (s.take m))≤800:=fun m hm=>by
       have h1:=dv_bl (s:=s.take m) fun b hb=>hdig b (List.mem_of_mem_take hb);rw [List.length_take] at h1;omega
      rw [if_pos hok,decide_eq_true hok];conv=>whnf
      refine VLoop.frz (t':=[(4,nI (dv (s.take 0))),(0,Str (s.drop 0))]) 27 rfl ⟨rfl,.inr ⟨rfl,rfl,Nat.le_refl _,rfl⟩,rfl,.inl rfl,trivial⟩ ?_;refine VLoop.invX hty (S:=Nat) (E:=Unit) [] [] 2 (fun m=>[(4,nI (dv (s.take m))),(0,Str (s.drop m))]) (fun _=>[]) (fun m=>m≤s.length) (fun m=>s.length - m)
       (fun _=>[(4,nI (dv s))]) (fun _=>[]) (fun _=>True) 0 (Nat.zero_le _) ⟨rfl,rfl,trivial⟩ trivial ?_ ?_
      ·intro m hm;obtain ⟨r,er⟩:∃r,s.drop m=r:=⟨_,rfl⟩;have hrl:r.length=s.length - m:=by rw [←er,List.length_drop]
       have hrd:∀b,b∈r→IsD b:=fun b hb=>hdig b (List.mem_of_mem_drop (by rw [er];exact hb));rw [er];conv=>whnf
       refine Br.mk (fun h5=>?_) (fun h5=>?_)
       ·have h5:r≠[]:=by rw [bnil] at h5;simpa using h5
        have hL:0 < r.length:=List.length_pos_iff.2 h5;have emod:Int.tmod (((⟨r.toArray⟩:ByteArray).size:Nat):Int) 9=((r.length % 9:Nat):Int):=by rw [bsize];exact (Int.ofNat_tmod r.length 9).symm
        conv=>whnf
        refine ⟨by decide,?_⟩;rw [emod];conv=>whnf
        refine Br.mk (fun h6=>?_) (fun h6=>?_)
        case' refine_1 =>
         have h6:r.length % 9=0:=by simp only [decide_eq_true_eq] at h6;omega
         obtain ⟨n,hn1,hn2,hn3,en⟩:∃n:Nat,1≤n∧n≤9∧n≤r.length∧(9:Int)=n:=⟨9,by decide,by decide,by omega,rfl⟩;rw [en]
        case' refine_2 =>
         have h6:¬r.length % 9=0:=by simp only [decide_eq_false_iff_not] at h6;omega
         obtain ⟨n,hn1,hn2,hn3,en⟩:∃n:Nat,1≤n∧n≤9∧n≤r.length∧r.length % 9=n:=⟨r.length % 9,by omega,by omega,by omega,rfl⟩;rw [en]
        all_goals
         have hpl:(r.take n).length=n:=by rw [List.length_take];omega
         have cp:=fn_ParseUint (r.take n) (fun b hb=>hrd b (List.mem_of_mem_take hb)) (by intro e;rw [e] at hpl;simp at hpl;omega) (by omega);have hdn:dv (r.take n) < 10 ^ n:=by have h9:=dv_lt (s:=r.take n) fun b hb=>hrd b (List.mem_of_mem_take hb);rwa [hpl] at h9
         have h10n:(10:Nat) ^ n≤10 ^ 9:=Nat.pow_le_pow_right (by decide) hn2;have h109:(10:Nat) ^ 9=1000000000:=by decide
         have hnew:dv (s.take (m+n))=dv (s.take m)*10 ^ n+dv (r.take n):=by
          have h9:=dv_part (s:=s) (lo:=m) (hi:=m+n) (by omega) (by omega);rw [show m+n - m=n by omega,er] at h9;exact h9
         have hnewd:s.drop (m+n)=r.drop n:=by rw [←er,List.drop_drop]
         have hblN:=hbl m hm;obtain ⟨v,ev⟩:∃v,dv (r.take n)=v:=⟨_,rfl⟩;rw [ev] at cp hdn hnew;obtain ⟨N,eN⟩:∃v,dv (s.take m)=v:=⟨_,rfl⟩;rw [eN] at hnew hblN;rw [eN];obtain ⟨T,eT⟩:∃v,(10:Nat) ^ n=v:=⟨_,rfl⟩;rw [eT] at hnew h10n hdn;have hblT:bl T≤64:=bl_le (Nat.lt_of_le_of_lt h10n (by decide));have hblv:bl v≤64:=bl_le (Nat.lt_trans hdn (Nat.lt_of_le_of_lt h10n (by decide)));have hblNT:=bl_mul N T;have cT:=fn_natOf T (by omega);have cV:=fn_natOf v (by omega);have cM:=fn_mul N T (by omega) (by omega);have cA:=fn_add (N*T) v (by omega) (by omega);rw [←hnew] at cA;conv=>whnf
         refine ⟨⟨by omega,by omega,by rw [bsize];omega⟩,?_⟩;rw [bx,show (r.take ((n:Nat):Int).toNat).drop (0:Int).toNat=r.take n from rfl];conv=>whnf
         refine VCall.of_data cp (ndT (fun k=>rfl)) ?_;conv=>whnf
         refine VLoop.invX hty (S:=Nat) (E:=Unit) [] [] 4 (fun k=>[(59,I k),(58,I n),(9,N64 (10 ^ k)),(7,N64 v),(6,I n),(4,nI N),(0,Str r)]) (fun _=>[]) (fun k=>k≤n) (fun k=>n - k)
          (fun _=>[(9,N64 T),(7,N64 v),(6,I n),(4,nI N),(0,Str r)]) (fun _=>[]) (fun _=>True) 0 (Nat.zero_le _) ⟨rfl,rfl,rfl,rfl,rfl,rfl,rfl,trivial⟩ trivial ?_ ?_
         ·intro k hk;conv=>whnf
          refine Br.mk (fun h7=>?_) (fun h7=>?_)
          ·have h7:k < n:=by simp only [decide_eq_true_eq] at h7;omega
           have h10:(10:Nat) ^ (k+1)≤10 ^ 9:=Nat.pow_le_pow_right (by decide) (by omega);have ep:(10:Nat) ^ (k+1)=10 ^ k*10:=Nat.pow_succ ..;obtain ⟨x,ex⟩:∃v,(10:Nat) ^ k=v:=⟨_,rfl⟩;obtain ⟨y,ey⟩:∃v,(10:Nat) ^ (k+1)=v:=⟨_,rfl⟩;rw [ex,ey] at ep;rw [ey] at h10;rw [ex];conv=>whnf
           refine Wr.n64 (n:=y) (by rw [ep];exact (Int.natCast_mul _ _).symm) (by omega) ?_;conv=>whnf
           refine Wr.i64 (y:=((k+1:Nat):Int)) rfl (by omega) (by omega) ?_;conv=>whnf
           exact ⟨k+1,h7,by show n - (k+1) < n - k;omega,⟨rfl,rfl,by show AV.d (.s (.int .u64 (y:Int)))=N64 (10 ^ (k+1));rw [ey],rfl,rfl,rfl,rfl,trivial⟩,trivial⟩
          ·have h7:k=n:=by simp only [decide_eq_false_iff_not] at h7;omega
           rw [h7,eT];conv=>whnf
           exact ⟨rfl,(),trivial,⟨rfl,rfl,rfl,rfl,rfl,trivial⟩,trivial⟩
         ·rintro _ _;conv=>whnf
          refine VDraw.goS hmo hty [0,1,4,7,8] rfl ?_;have hchk:0≤(n:Int)∧(n:Int)≤(((⟨r.toArray⟩:ByteArray).size:Nat):Int)∧(((⟨r.toArray⟩:ByteArray).size:Nat):Int)≤(((⟨r.toArray⟩:ByteArray).size:Nat):Int):=⟨by omega,by rw [bsize];omega,Int.le_refl _⟩;have hsl:(⟨r.toArray⟩:ByteArray).extract ((n:Nat):Int).toNat ((((⟨r.toArray⟩:ByteArray).size:Nat):Int)).toNat=⟨(r.drop n).toArray⟩:=by
           rw [bx,bsize];show (⟨((r.take r.length).drop n).toArray⟩:ByteArray)=_;rw [List.take_length]
          conv=>whnf
          repeat' (first
           | (refine VCall.of_data cT (nd _) ?_;conv=>whnf)
           | (refine VCall.of_data cM (nd _) ?_;conv=>whnf)
           | (refine VCall.of_data cV (nd _) ?_;conv=>whnf)
           | (refine VCall.of_data cA (nd _) ?_;conv=>whnf)
           | (refine ⟨hchk,?_⟩;rw [hsl];conv=>whnf)
           | exact ⟨m+n,by omega,by show s.length - (m+n) < s.length - m;omega,⟨rfl,congrArg (fun x:List UInt8=>Str x) hnewd.symm,trivial⟩,trivial⟩
           | (refine ⟨?_,?_⟩ <;> conv=>whnf))
       ·have h5:r=[]:=by rw [bnil] at h5;simpa using h5
        have e:s.take m=s:=List.take_of_length_le (by have h9:=hrl;rw [h5,List.length_nil] at h9;omega);rw [e];conv=>whnf
        exact ⟨rfl,(),trivial,⟨rfl,trivial⟩,trivial⟩
      ·rintro _ _;conv=>whnf
       exact ⟨rfl,rfl,trivial,rfl⟩
   ·have hlz:s.length=1∨s.head? ≠ some 48:=.inr (by
     rw [hhead];intro e;have e1:s.getD 0 0=48:=Option.some.inj e;have h3':¬(((s.getD 0 0).toNat:Nat):Int)=48:=by simp only [decide_eq_false_iff_not] at h3;exact h3
     rw [e1] at h3';exact h3' rfl)
    conv=>whnf
    refine VLoop.invX hty (S:=Nat) (E:=Unit) [] [] 0 (fun i=>[(30,I i),(29,I s.length),(4,.ls 27 0 0 1),(0,Str s)]) (fun _=>[(27,.row true 1 [])]) (fun i=>i≤s.length∧∀k,k < i→IsD (s.getD k 0)) (fun i=>s.length - i)
     (fun _=>[(4,.ls 27 0 0 1),(0,Str s)]) (fun _=>[(27,.row true 1 [])]) (fun _=>∀b,b∈s→IsD b) 0 ⟨Nat.zero_le _,fun k h=>absurd h (Nat.not_lt_zero k)⟩ ⟨rfl,rfl,rfl,rfl,trivial⟩ ⟨rfl,trivial⟩ ?_ ?_
    ·rintro i ⟨hi,hk⟩;obtain ⟨b,eb⟩:∃b,s.getD i 0=b:=⟨_,rfl⟩;conv=>whnf
     refine Br.mk (fun h5=>?_) (fun h5=>?_)
     ·have h5:i < s.length:=by simp only [decide_eq_true_eq] at h5;omega
      have hbm:b∈s:=by rw [←eb,gD,List.getElem?_eq_getElem h5];exact List.getElem_mem h5
      conv=>whnf
      refine ⟨⟨by omega,by rw [bsize];omega⟩,?_⟩;rw [show (⟨s.toArray⟩:ByteArray).data.toList.getD ((i:Nat):Int).toNat 0=b from eb];conv=>whnf
      refine Br.mk (fun h6=>?_) (fun h6=>?_)
      ·have h6:b.toNat < 48:=by simp only [decide_eq_true_eq] at h6;omega
       have hno:¬okN s:=fun hok=>by have:=(hok.dig b hbm).1;omega
       conv=>whnf
       rw [if_neg hno,decide_eq_false hno];conv=>whnf
       exact ⟨rfl,trivial,rfl⟩
      ·have h6:¬b.toNat < 48:=by simp only [decide_eq_false_iff_not] at h6;omega
       conv=>whnf
       refine ⟨⟨by omega,by rw [bsize];omega⟩,?_⟩;rw [show (⟨s.toArray⟩:ByteArray).data.toList.getD ((i:Nat):Int).toNat 0=b from eb];conv=>whnf
       refine Br.mk (fun h7=>?_) (fun h7=>?_)
       ·have h7:57 < b.toNat:=by simp only [decide_eq_true_eq] at h7;omega
        have hno:¬okN s:=fun hok=>by have:=(hok.dig b hbm).2;omega
        conv=>whnf
        rw [if_neg hno,decide_eq_false hno];conv=>whnf
        exact ⟨rfl,trivial,rfl⟩
       ·have h7:¬57 < b.toNat:=by simp only [decide_eq_false_iff_not] at h7;omega
        conv=>whnf
        refine Wr.i64 (y:=((i+1:Nat):Int)) (by omega) (by omega) (by omega) ?_;conv=>whnf
        refine ⟨i+1,⟨h5,fun k hki=>?_⟩,by show s.length - (i+1) < s.length - i;omega,⟨rfl,rfl,rfl,rfl,trivial⟩,rfl,trivial⟩;rcases Nat.lt_or_ge k i with h8 | h8
        ·exact hk k h8
        ·rw [show k=i by omega,eb];exact ⟨by omega,by omega⟩
     ·have h5:i=s.length:=by simp only [decide_eq_false_iff_not] at h5;omega
      conv=>whnf
      refine ⟨rfl,(),fun b hb=>?_,⟨rfl,rfl,trivial⟩,rfl,trivial⟩;obtain ⟨k,hk1,hk2⟩:=List.mem_iff_getElem.1 hb;have:=hk k (by omega);rw [gD,List.getElem?_eq_getElem hk1] at this;simpa [hk2] using this
    ·rintro _ hdig;have hok:okN s:=⟨h,h2,hdig,hlz⟩;have hbl:∀m,m≤s.length→bl (dv (s.take m))≤800:=fun m hm=>by
      have h1:=dv_bl (s:=s.take m) fun b hb=>hdig b (List.mem_of_mem_take hb);rw [List.length_take] at h1;omega
     rw [if_pos hok,decide_eq_true hok];conv=>whnf
     refine VLoop.frz (t':=[(4,nI (dv (s.take 0))),(0,Str (s.drop 0))]) 27 rfl ⟨rfl,.inr ⟨rfl,rfl,Nat.le_refl _,rfl⟩,rfl,.inl rfl,trivial⟩ ?_;refine VLoop.invX hty (S:=Nat) (E:=Unit) [] [] 2 (fun m=>[(4,nI (dv (s.take m))),(0,Str (s.drop m))]) (fun _=>[]) (fun m=>m≤s.length) (fun m=>s.length - m)
      (fun _=>[(4,nI (dv s))]) (fun _=>[]) (fun _=>True) 0 (Nat.zero_le _) ⟨rfl,rfl,trivial⟩ trivial ?_ ?_
     ·intro m hm;obtain ⟨r,er⟩:∃r,s.drop m=r:=⟨_,rfl⟩;have hrl:r.length=s.length - m:=by rw [←er,List.length_drop]
      have hrd:∀b,b∈r→IsD b:=fun b hb=>hdig b (List.mem_of_mem_drop (by rw [er];exact hb));rw [er];conv=>whnf
      refine Br.mk (fun h5=>?_) (fun h5=>?_)
      ·have h5:r≠[]:=by rw [bnil] at h5;simpa using h5
       have hL:0 < r.length:=List.length_pos_iff.2 h5;have emod:Int.tmod (((⟨r.toArray⟩:ByteArray).size:Nat):Int) 9=((r.length % 9:Nat):Int):=by rw [bsize];exact (Int.ofNat_tmod r.length 9).symm
       conv=>whnf
       refine ⟨by decide,?_⟩;rw [emod];conv=>whnf
       refine Br.mk (fun h6=>?_) (fun h6=>?_)
       case' refine_1 =>
        have h6:r.length % 9=0:=by simp only [decide_eq_true_eq] at h6;omega
        obtain ⟨n,hn1,hn2,hn3,en⟩:∃n:Nat,1≤n∧n≤9∧n≤r.length∧(9:Int)=n:=⟨9,by decide,by decide,by omega,rfl⟩;rw [en]
       case' refine_2 =>
        have h6:¬r.length % 9=0:=by simp only [decide_eq_false_iff_not] at h6;omega
        obtain ⟨n,hn1,hn2,hn3,en⟩:∃n:Nat,1≤n∧n≤9∧n≤r.length∧r.length % 9=n:=⟨r.length % 9,by omega,by omega,by omega,rfl⟩;rw [en]
       all_goals
        have hpl:(r.take n).length=n:=by rw [List.length_take];omega
        have cp:=fn_ParseUint (r.take n) (fun b hb=>hrd b (List.mem_of_mem_take hb)) (by intro e;rw [e] at hpl;simp at hpl;omega) (by omega);have hdn:dv (r.take n) < 10 ^ n:=by have h9:=dv_lt (s:=r.take n) fun b hb=>hrd b (List.mem_of_mem_take hb);rwa [hpl] at h9
        have h10n:(10:Nat) ^ n≤10 ^ 9:=Nat.pow_le_pow_right (by decide) hn2;have h109:(10:Nat) ^ 9=1000000000:=by decide
        have hnew:dv (s.take (m+n))=dv (s.take m)*10 ^ n+dv (r.take n):=by
         have h9:=dv_part (s:=s) (lo:=m) (hi:=m+n) (by omega) (by omega);rw [show m+n - m=n by omega,er] at h9;exact h9
        have hnewd:s.drop (m+n)=r.drop n:=by rw [←er,List.drop_drop]
        have hblN:=hbl m hm;obtain ⟨v,ev⟩:∃v,dv (r.take n)=v:=⟨_,rfl⟩;rw [ev] at cp hdn hnew;obtain ⟨N,eN⟩:∃v,dv (s.take m)=v:=⟨_,rfl⟩;rw [eN] at hnew hblN;rw [eN];obtain ⟨T,eT⟩:∃v,(10:Nat) ^ n=v:=⟨_,rfl⟩;rw [eT] at hnew h10n hdn;have hblT:bl T≤64:=bl_le (Nat.lt_of_le_of_lt h10n (by decide));have hblv:bl v≤64:=bl_le (Nat.lt_trans hdn (Nat.lt_of_le_of_lt h10n (by decide)));have hblNT:=bl_mul N T;have cT:=fn_natOf T (by omega);have cV:=fn_natOf v (by omega);have cM:=fn_mul N T (by omega) (by omega);have cA:=fn_add (N*T) v (by omega) (by omega);rw [←hnew] at cA;conv=>whnf
        refine ⟨⟨by omega,by omega,by rw [bsize];omega⟩,?_⟩;rw [bx,show (r.take ((n:Nat):Int).toNat).drop (0:Int).toNat=r.take n from rfl];conv=>whnf
        refine VCall.of_data cp (ndT (fun k=>rfl)) ?_;conv=>whnf
        refine VLoop.invX hty (S:=Nat) (E:=Unit) [] [] 4 (fun k=>[(59,I k),(58,I n),(9,N64 (10 ^ k)),(7,N64 v),(6,I n),(4,nI N),(0,Str r)]) (fun _=>[]) (fun k=>k≤n) (fun k=>n - k)
         (fun _=>[(9,N64 T),(7,N64 v),(6,I n),(4,nI N),(0,Str r)]) (fun _=>[]) (fun _=>True) 0 (Nat.zero_le _) ⟨rfl,rfl,rfl,rfl,rfl,rfl,rfl,trivial⟩ trivial ?_ ?_
        ·intro k hk;conv=>whnf
         refine Br.mk (fun h7=>?_) (fun h7=>?_)
         ·have h7:k < n:=by simp only [decide_eq_true_eq] at h7;omega
          have h10:(10:Nat) ^ (k+1)≤10 ^ 9:=Nat.pow_le_pow_right (by decide) (by omega);have ep:(10:Nat) ^ (k+1)=10 ^ k*10:=Nat.pow_succ ..;obtain ⟨x,ex⟩:∃v,(10:Nat) ^ k=v:=⟨_,rfl⟩;obtain ⟨y,ey⟩:∃v,(10:Nat) ^ (k+1)=v:=⟨_,rfl⟩;rw [ex,ey] at ep;rw [ey] at h10;rw [ex];conv=>whnf
          refine Wr.n64 (n:=y) (by rw [ep];exact (Int.natCast_mul _ _).symm) (by omega) ?_;conv=>whnf
          refine Wr.i64 (y:=((k+1:Nat):Int)) rfl (by omega) (by omega) ?_;conv=>whnf
          exact ⟨k+1,h7,by show n - (k+1) < n - k;omega,⟨rfl,rfl,by show AV.d (.s (.int .u64 (y:Int)))=N64 (10 ^ (k+1));rw [ey],rfl,rfl,rfl,rfl,trivial⟩,trivial⟩
         ·have h7:k=n:=by simp only [decide_eq_false_iff_not] at h7;omega
          rw [h7,eT];conv=>whnf
          exact ⟨rfl,(),trivial,⟨rfl,rfl,rfl,rfl,rfl,trivial⟩,trivial⟩
        ·rintro _ _;conv=>whnf
         refine VDraw.goS hmo hty [0,1,4,7,8] rfl ?_;have hchk:0≤(n:Int)∧(n:Int)≤(((⟨r.toArray⟩:ByteArray).size:Nat):Int)∧(((⟨r.toArray⟩:ByteArray).size:Nat):Int)≤(((⟨r.toArray⟩:ByteArray).size:Nat):Int):=⟨by omega,by rw [bsize];omega,Int.le_refl _⟩;have hsl:(⟨r.toArray⟩:ByteArray).extract ((n:Nat):Int).toNat ((((⟨r.toArray⟩:ByteArray).size:Nat):Int)).toNat=⟨(r.drop n).toArray⟩:=by
          rw [bx,bsize];show (⟨((r.take r.length).drop n).toArray⟩:ByteArray)=_;rw [List.take_length]
         conv=>whnf
         repeat' (first
          | (refine VCall.of_data cT (nd _) ?_;conv=>whnf)
          | (refine VCall.of_data cM (nd _) ?_;conv=>whnf)
          | (refine VCall.of_data cV (nd _) ?_;conv=>whnf)
          | (refine VCall.of_data cA (nd _) ?_;conv=>whnf)
          | (refine ⟨hchk,?_⟩;rw [hsl];conv=>whnf)
          | exact ⟨m+n,by omega,by show s.length - (m+n) < s.length - m;omega,⟨rfl,congrArg (fun x:List UInt8=>Str x) hnewd.symm,trivial⟩,trivial⟩
          | (refine ⟨?_,?_⟩ <;> conv=>whnf))
      ·have h5:r=[]:=by rw [bnil] at h5;simpa using h5
       have e:s.take m=s:=List.take_of_length_le (by have h9:=hrl;rw [h5,List.length_nil] at h9;omega);rw [e];conv=>whnf
       exact ⟨rfl,(),trivial,⟨rfl,trivial⟩,trivial⟩
     ·rintro _ _;conv=>whnf
      exact ⟨rfl,rfl,trivial,rfl⟩
theorem okN.bl {s:List UInt8} (h:okN s):bl (dv s)≤800:=by
 have h1:=dv_bl h.dig
 have:=h.2.1
 omega
def rdRat (s:List UInt8):Option Rat :=
 if ¬okN (Lib.trimPrefix (cutB 47 s).1 [45])∨(Lib.hasPrefix (cutB 47 s).1 [45]=true∧dv (Lib.trimPrefix (cutB 47 s).1 [45])=0) then none
 else if (cutB 47 s).2.2=false then some (mkRat (sgn (Lib.hasPrefix (cutB 47 s).1 [45]) (dv (Lib.trimPrefix (cutB 47 s).1 [45]))) 1)
 else if ¬okN (cutB 47 s).2.1∨dv (cutB 47 s).2.1≤1∨(dv (Lib.trimPrefix (cutB 47 s).1 [45])).gcd (dv (cutB 47 s).2.1)≠1 then none
 else some (mkRat (sgn (Lib.hasPrefix (cutB 47 s).1 [45]) (dv (Lib.trimPrefix (cutB 47 s).1 [45]))) (dv (cutB 47 s).2.1))
def rO:Option Rat→AV
 | some q=>rI q
 | none=>.ag [B false,nI 0,nI 0]
theorem cutB_len (c:UInt8) (s:List UInt8):(cutB c s).1.length≤s.length∧(cutB c s).2.1.length≤s.length:=by
 unfold cutB
 split
 ·simp only [List.length_take,List.length_drop];omega
 ·simp
theorem trim_len (s p:List UInt8):(Lib.trimPrefix s p).length≤s.length:=by
 unfold Lib.trimPrefix
 split
 ·rw [List.length_drop];omega
 ·exact Nat.le_refl _
theorem cmpZ_pos' {a b:Nat}:0 < cmpZ a b↔b < a:=by
 have h1:=cmpZ_neg (a:=a) (b:=b)
 have h2:=cmpZ_zero (a:=a) (b:=b)
 omega
theorem fn_readRat (s:List UInt8) (hs:s.length≤1000000000000):Fn Tryz.prog 133 [Str s] [] (.tup [rO (rdRat s),B (rdRat s).isSome]) []:=by
 have c1:=fn_Cut s 47 hs;have hcl:=cutB_len 47 s;unfold rdRat;obtain ⟨f,ef⟩:∃x,(cutB 47 s).1=x:=⟨_,rfl⟩;obtain ⟨g,eg⟩:∃x,(cutB 47 s).2.1=x:=⟨_,rfl⟩;obtain ⟨is,eis⟩:∃x,(cutB 47 s).2.2=x:=⟨_,rfl⟩;rw [ef,eg,eis] at c1;rw [ef,eg] at hcl;rw [ef,eg,eis];have c2:=fn_CutPrefix f [45];have htl:=trim_len f [45];obtain ⟨d,ed⟩:∃x,Lib.trimPrefix f [45]=x:=⟨_,rfl⟩;obtain ⟨neg,en⟩:∃x,Lib.hasPrefix f [45]=x:=⟨_,rfl⟩;rw [ed,en] at c2;rw [ed] at htl;rw [ed,en];have c3:=fn_readNat d (by omega);have c4:=fn_readNat g (by omega);refine Fn.intro (ks:=[0,2,3,4,5,6,7,8,9,10,11,12,13,14,40,47,61,69]) hty rfl rfl rfl rfl rfl ?_;by_cases hd:okN d
 ·rw [if_pos hd,decide_eq_true hd] at c3;conv=>whnf
  refine VCall.of_data c1 (ndT (fun k=>rfl)) ?_;conv=>whnf
  refine VCall.of_data c2 (ndT (fun k=>rfl)) ?_;conv=>whnf
  refine VCall.of_data c3 (ndT (fun k=>rfl)) ?_;conv=>whnf
  have hbd:=hd.bl;have hld:((cW .u32 (dg B32 (dv d))).length:Int)=(dg B32 (dv d)).length:=by rw [cW_len]
  have hzd:=dg_len_zero b32 (n:=dv d);have hnd:¬¬okN d:=fun h=>h hd;cases neg
  ·have hs0:dv d=0→false=false:=fun _=>rfl;have hno:¬(¬okN d∨false=true∧dv d=0):=by rintro (h | ⟨h,_⟩);exact h hd;cases h
   rw [if_neg hno];conv=>whnf
   refine VCall.of_data (fn_natOf 1 (by omega)) (nd _) ?_;cases is
   ·rw [if_pos rfl];obtain ⟨p1,p2,p3⟩:=parts_of (s:=false) (t:=dv d) (b:=1) (by decide) (Nat.gcd_one_right _) hs0;rw [show rO (some (mkRat (sgn false (dv d)) 1)) = .ag [B false,nI (dv d),nI 1] by rw [rO,rI,p1,p2,p3]];conv=>whnf
    exact ⟨rfl,rfl,rfl,rfl,trivial,rfl⟩
   ·rw [if_neg (by decide)];conv=>whnf
    by_cases hg:okN g
    ·have hbg:=hg.bl;rw [if_pos hg,decide_eq_true hg] at c4;refine VCall.of_data c4 (ndT (fun k=>rfl)) ?_;conv=>whnf
     refine VCall.of_data (fn_natOf 1 (by omega)) (nd _) ?_;conv=>whnf
     refine VCall.of_data (fn_cmp (dv g) 1 (by omega) (by decide)) (nd _) ?_;conv=>whnf
     refine Br.mk (fun h7=>?_) (fun h7=>?_)
     ·have h7:dv g≤1:=by
       simp only [decide_eq_true_eq] at h7;have:=cmpZ_pos' (a:=dv g) (b:=1);omega
      rw [if_pos (.inr (.inl h7))];conv=>whnf
      exact ⟨rfl,rfl,trivial,rfl⟩
     ·have h7:¬dv g≤1:=by
       simp only [decide_eq_false_iff_not] at h7;have:=cmpZ_pos' (a:=dv g) (b:=1);omega
      have cg:=fn_gcd (dv d) (dv g) (by omega) (by omega);have hbgc:bl ((dv d).gcd (dv g))≤800:=Nat.le_trans (bl_mono (Nat.gcd_le_right _ (by omega))) hbg;conv=>whnf
      refine VCall.of_data cg (nd _) ?_;conv=>whnf
      refine VCall.of_data (fn_natOf 1 (by omega)) (nd _) ?_;conv=>whnf
      refine VCall.of_data (fn_cmp ((dv d).gcd (dv g)) 1 (by omega) (by decide)) (nd _) ?_;conv=>whnf
      refine Br.mk (fun h8=>?_) (fun h8=>?_)
      ·have h8:(dv d).gcd (dv g)≠1:=fun e=>by rw [cmpZ_zero.2 e] at h8;exact absurd h8 (by decide)
       rw [if_pos (.inr (.inr h8))];conv=>whnf
       exact ⟨rfl,rfl,trivial,rfl⟩
      ·have h8:(dv d).gcd (dv g)=1:=cmpZ_zero.1 (by simpa using h8);rw [if_neg (by rintro (h9 | h9 | h9);exact h9 hg;exact h7 h9;exact h9 h8)];obtain ⟨p1,p2,p3⟩:=parts_of (s:=false) (t:=dv d) (b:=dv g) (by omega) h8 hs0;rw [show rO (some (mkRat (sgn false (dv d)) (dv g))) = .ag [B false,nI (dv d),nI (dv g)] by rw [rO,rI,p1,p2,p3]];conv=>whnf
       exact ⟨rfl,rfl,rfl,rfl,trivial,rfl⟩
    ·rw [if_neg hg,decide_eq_false hg] at c4;rw [if_pos (.inl hg)];refine VCall.of_data c4 (ndT (fun k=>rfl)) ?_;conv=>whnf
     conv=>whnf
     exact ⟨rfl,rfl,trivial,rfl⟩
  ·conv=>whnf
   refine Br.mk (fun h=>?_) (fun h=>?_)
   ·have h0:dv d=0:=by simp only [decide_eq_true_eq] at h;exact hzd.1 (by omega)
    rw [if_pos (.inr ⟨rfl,h0⟩)];conv=>whnf
    exact ⟨rfl,rfl,trivial,rfl⟩
   ·have h0:dv d≠0:=fun e=>by simp only [decide_eq_false_iff_not] at h;have:=hzd.2 e;omega
    have hs0:dv d=0→true=false:=fun e=>absurd e h0;have hno:¬(¬okN d∨true=true∧dv d=0):=by rintro (h | ⟨_,h⟩);exact hnd h;exact h0 h
    rw [if_neg hno];conv=>whnf
    refine VCall.of_data (fn_natOf 1 (by omega)) (nd _) ?_;cases is
    ·rw [if_pos rfl];obtain ⟨p1,p2,p3⟩:=parts_of (s:=true) (t:=dv d) (b:=1) (by decide) (Nat.gcd_one_right _) hs0;rw [show rO (some (mkRat (sgn true (dv d)) 1)) = .ag [B true,nI (dv d),nI 1] by rw [rO,rI,p1,p2,p3]];conv=>whnf
     exact ⟨rfl,rfl,rfl,rfl,trivial,rfl⟩
    ·rw [if_neg (by decide)];conv=>whnf
     by_cases hg:okN g
     ·have hbg:=hg.bl;rw [if_pos hg,decide_eq_true hg] at c4;refine VCall.of_data c4 (ndT (fun k=>rfl)) ?_;conv=>whnf
      refine VCall.of_data (fn_natOf 1 (by omega)) (nd _) ?_;conv=>whnf
      refine VCall.of_data (fn_cmp (dv g) 1 (by omega) (by decide)) (nd _) ?_;conv=>whnf
      refine Br.mk (fun h7=>?_) (fun h7=>?_)
      ·have h7:dv g≤1:=by
        simp only [decide_eq_true_eq] at h7;have:=cmpZ_pos' (a:=dv g) (b:=1);omega
       rw [if_pos (.inr (.inl h7))];conv=>whnf
       exact ⟨rfl,rfl,trivial,rfl⟩
      ·have h7:¬dv g≤1:=by
        simp only [decide_eq_false_iff_not] at h7;have:=cmpZ_pos' (a:=dv g) (b:=1);omega
       have cg:=fn_gcd (dv d) (dv g) (by omega) (by omega);have hbgc:bl ((dv d).gcd (dv g))≤800:=Nat.le_trans (bl_mono (Nat.gcd_le_right _ (by omega))) hbg;conv=>whnf
       refine VCall.of_data cg (nd _) ?_;conv=>whnf
       refine VCall.of_data (fn_natOf 1 (by omega)) (nd _) ?_;conv=>whnf
       refine VCall.of_data (fn_cmp ((dv d).gcd (dv g)) 1 (by omega) (by decide)) (nd _) ?_;conv=>whnf
       refine Br.mk (fun h8=>?_) (fun h8=>?_)
       ·have h8:(dv d).gcd (dv g)≠1:=fun e=>by rw [cmpZ_zero.2 e] at h8;exact absurd h8 (by decide)
        rw [if_pos (.inr (.inr h8))];conv=>whnf
        exact ⟨rfl,rfl,trivial,rfl⟩
       ·have h8:(dv d).gcd (dv g)=1:=cmpZ_zero.1 (by simpa using h8);rw [if_neg (by rintro (h9 | h9 | h9);exact h9 hg;exact h7 h9;exact h9 h8)];obtain ⟨p1,p2,p3⟩:=parts_of (s:=true) (t:=dv d) (b:=dv g) (by omega) h8 hs0;rw [show rO (some (mkRat (sgn true (dv d)) (dv g))) = .ag [B true,nI (dv d),nI (dv g)] by rw [rO,rI,p1,p2,p3]];conv=>whnf
        exact ⟨rfl,rfl,rfl,rfl,trivial,rfl⟩
     ·rw [if_neg hg,decide_eq_false hg] at c4;rw [if_pos (.inl hg)];refine VCall.of_data c4 (ndT (fun k=>rfl)) ?_;conv=>whnf
      conv=>whnf
      exact ⟨rfl,rfl,trivial,rfl⟩
 ·rw [if_neg hd,decide_eq_false hd] at c3;rw [if_pos (.inl hd)];conv=>whnf
  refine VCall.of_data c1 (ndT (fun k=>rfl)) ?_;conv=>whnf
  refine VCall.of_data c2 (ndT (fun k=>rfl)) ?_;conv=>whnf
  refine VCall.of_data c3 (ndT (fun k=>rfl)) ?_;conv=>whnf
  exact ⟨rfl,rfl,trivial,rfl⟩
end Go.V
namespace Go.V
def allO {α β:Type} (f:α→Option β):List α→Option (List β)
 | []=>some []
 | x :: r=>match f x,allO f r with
  | some y,some ys=>some (y :: ys)
  | _,_=>none
theorem allO_none {α β:Type} {f:α→Option β}:∀{xs:List α} {x:α},x∈xs→f x=none→allO f xs=none
 | y :: r,x,hx,h=>by
  unfold allO
  rcases List.mem_cons.1 hx with rfl | hx
  ·rw [h]
  ·rw [allO_none hx h];cases f y <;> rfl
theorem allO_snoc {α β:Type} {f:α→Option β}:∀{xs:List α} {ys:List β} {x:α} {y:β},allO f xs=some ys→f x=some y→allO f (xs++[x])=some (ys++[y])
 | [],ys,x,y,h,hx=>by
  have:ys=[]:=by simpa [allO] using h.symm
  subst this;simp [allO,hx]
 | z :: r,ys,x,y,h,hx=>by
  unfold allO at h;split at h
  ·rename_i w ws hw hws;cases h;simp only [List.cons_append,allO,hw,allO_snoc hws hx]
  ·cases h
theorem allO_len {α β:Type} {f:α→Option β}:∀{xs:List α} {ys:List β},allO f xs=some ys→ys.length=xs.length
 | [],ys,h=>by
  have:ys=[]:=by simpa [allO] using h.symm
  subst this;rfl
 | z :: r,ys,h=>by
  unfold allO at h;split at h
  ·rename_i w ws hw hws;cases h;simp [allO_len hws]
  ·cases h
theorem allO_mem {α β:Type} {f:α→Option β}:∀{xs:List α} {ys:List β} {y:β},allO f xs=some ys→y∈ys→∃x,x∈xs∧f x=some y
 | [],ys,y,h,hy=>by
  have:ys=[]:=by simpa [allO] using h.symm
  subst this;simp at hy
 | z :: r,ys,y,h,hy=>by
  unfold allO at h;split at h
  ·rename_i w ws hw hws;cases h;rcases List.mem_cons.1 hy with rfl | hy
   ·exact ⟨z,by simp,hw⟩
   ·obtain ⟨x,h1,h2⟩:=allO_mem hws hy;exact ⟨x,by simp [h1],h2⟩
  ·cases h
end Go.V
namespace Go.V
open Go.Proofs Go.RowKit
set_option maxRecDepth 10000
set_option maxHeartbeats 1000000
theorem fn_in (n a b:Int):Fn Tryz.prog 58 [I n,I a,I b] [] (B (decide (a≤n) && decide (n≤b))) []:=by
 refine Fn.intro (ks:=[0,1,2,6]) hty rfl rfl rfl rfl rfl ?_
 conv=>whnf
 refine Br.mk (fun h=>?_) (fun h=>?_)
 ·rw [h]
  conv=>whnf
  exact ⟨rfl,trivial,rfl⟩
 ·rw [h]
  conv=>whnf
  exact ⟨rfl,trivial,rfl⟩
theorem fn_indexQ (g:Nat) (p:Rat→Bool) (xs:List Rat) (hl:xs.length≤1000000) (hg:∀x,x∈xs→Fn Tryz.prog g [rI x] [] (B (p x)) []) :
  Fn Tryz.prog 245 [lQ xs,.d (.fn g [])] [] (I (if xs.any p then xs.findIdx p else -1)) []:=by
 have hl2:((cQ xs).length:Int)=xs.length:=by rw [cQ_len]
 refine Fn.intro (ks:=[0,1,4,5,7,8,9,16]) hty rfl rfl rfl rfl rfl ?_;conv=>whnf
 refine VLoop.inv hty (S:=Nat) (fun k=>[(8,I k),(7,I xs.length),(0,lQ xs),(1,.d (.fn g []))]) (fun _=>[]) (fun k=>k≤xs.length∧∀j (h:j < xs.length),j < k→p xs[j]=false) (fun k=>xs.length - k) 0 ⟨Nat.zero_le _,fun j _ h=>by omega⟩ ⟨rfl,by show AV.d (.s (.int .i64 ((cQ xs).length:Int)))=_;rw [cQ_len],rfl,rfl,trivial⟩ trivial ?_;rintro k ⟨hk,hp⟩;conv=>whnf
 refine Br.mk (fun h=>?_) (fun h=>?_)
 ·have hk':k < xs.length:=by simp only [decide_eq_true_eq] at h;omega
  conv=>whnf
  refine ⟨⟨⟨by omega,by omega⟩,cQ_sz xs⟩,?_⟩;conv=>whnf
  refine ⟨_,cQ_get hk',?_⟩;conv=>whnf
  refine VCall.of_data (hg xs[k] (by simp)) (fun j h=>by cases h) ?_;conv=>whnf
  refine Br.mk (fun h2=>?_) (fun h2=>?_)
  ·conv=>whnf
   refine ⟨?_,trivial,rfl⟩;have h3:xs.any p=true:=List.any_eq_true.2 ⟨xs[k],by simp,h2⟩;have h4:xs.findIdx p=k:=(List.findIdx_eq hk').2 ⟨h2,fun j hj=>hp j (by omega) hj⟩;simp [h3,h4]
  ·conv=>whnf
   refine Wr.i64 (y:=((k+1:Nat):Int)) rfl (by omega) (by omega) ?_;conv=>whnf
   exact ⟨k+1,⟨hk',fun j hj hjk=>by
    rcases Nat.lt_or_ge j k with h5 | h5
    ·exact hp j hj h5
    ·have:j=k:=by omega
     subst this;exact h2⟩,by show xs.length - (k+1) < xs.length - k;omega,⟨rfl,rfl,rfl,rfl,trivial⟩,trivial⟩
 ·have hk':k=xs.length:=by simp only [decide_eq_false_iff_not] at h;omega
  conv=>whnf
  refine ⟨?_,trivial,rfl⟩;have h3:xs.any p=false:=List.any_eq_false.2 fun x hx=>by
   obtain ⟨j,hj,rfl⟩:=List.mem_iff_getElem.1 hx;simp [hp j hj (by omega)]
  simp [h3]
theorem fn_containsQ (g:Nat) (p:Rat→Bool) (xs:List Rat) (hl:xs.length≤1000000) (hg:∀x,x∈xs→Fn Tryz.prog g [rI x] [] (B (p x)) []) :
  Fn Tryz.prog 231 [lQ xs,.d (.fn g [])] [] (B (xs.any p)) []:=by
 refine Fn.intro (ks:=[0,1,4]) hty rfl rfl rfl rfl rfl ?_
 conv=>whnf
 refine VCall.of_data (fn_indexQ g p xs hl hg) (fun j h=>by cases h) ?_
 conv=>whnf
 refine ⟨?_,trivial,rfl⟩
 cases xs.any p <;> simp
def cT (xs:List (List UInt8)):List (List C):=xs.map fun s=>[.s (.string ⟨s.toArray⟩)]
theorem cT_len (xs:List (List UInt8)):(cT xs).length=xs.length:=by simp [cT]
theorem cT_sz (xs:List (List UInt8)):∀r,r∈cT xs→r.length=1:=by
 intro r hr;simp only [cT,List.mem_map] at hr;obtain ⟨n,_,rfl⟩:=hr;rfl
theorem cT_as {xs:List (List UInt8)} {i:Nat} {x:List UInt8} (h:i < xs.length) (e:xs.getD i []=x):(cT xs)[i]? = some [.s (.string ⟨x.toArray⟩)]:=by
 subst e;rw [gD,List.getElem?_eq_getElem h];simp [cT,h]
theorem cT_append (xs ys:List (List UInt8)):cT xs++cT ys=cT (xs++ys):=by simp [cT]
abbrev lT (xs:List (List UInt8)):AV:=.d (.sl (cT xs))
theorem rdRat_sz {s:List UInt8} {q:Rat} (h:rdRat s=some q):sz q≤800:=by
 unfold rdRat at h
 split at h
 ·cases h
 ·rename_i h1
  simp only [not_or,Classical.not_not] at h1
  have b1:=h1.1.bl
  split at h
  ·cases h
   exact Nat.le_trans (sz_mkRat (by decide)) (by have:=bl_one;omega)
  ·split at h
   ·cases h
   ·rename_i h2
    simp only [not_or,Classical.not_not] at h2
    have b2:=h2.1.bl
    cases h
    exact Nat.le_trans (sz_mkRat (by omega)) (by omega)
def rdRats (xs:List (List UInt8)):Option (List Rat):=if 300 < xs.length then none else allO rdRat xs
theorem rdRats_sz {xs:List (List UInt8)} {ys:List Rat} (h:rdRats xs=some ys):ys.length≤300∧ys.length=xs.length∧∀q,q∈ys→sz q≤800:=by
 unfold rdRats at h
 split at h
 ·cases h
 ·have:=allO_len h
  exact ⟨by omega,this,fun q hq=>by obtain ⟨x,_,hx⟩:=allO_mem h hq;exact rdRat_sz hx⟩
theorem fn_rats (xs:List (List UInt8)) (hl:xs.length≤1000000000000) (hs:∀x,x∈xs→x.length≤1000000000000):Fn Tryz.prog 230 [lT xs] [] (.tup [lQ ((rdRats xs).getD []),B (rdRats xs).isSome]) []:=by
 have hl2:((cT xs).length:Int)=xs.length:=by rw [cT_len]
 refine Fn.intro (ks:=[0,2,3,4,6,7,8,11,13,14,15,16,25]) hty rfl rfl rfl rfl rfl ?_;conv=>whnf
 refine Br.mk (fun h=>?_) (fun h=>?_)
 ·have h:300 < xs.length:=by simp only [decide_eq_true_eq] at h;omega
  rw [rdRats,if_pos h];conv=>whnf
  exact ⟨rfl,trivial,rfl⟩
 ·have h:¬300 < xs.length:=by simp only [decide_eq_false_iff_not] at h;omega
  rw [rdRats,if_neg h];conv=>whnf
  refine VLoop.ren 12 29 rfl ?_;refine VLoop.inv hty (S:=List Rat) (fun s=>[(15,I s.length),(14,I xs.length),(13,lT xs),(4,.ls 29 0 s.length 3)]) (fun s=>[(29,.row true 3 (cQ s))]) (fun s=>s.length≤xs.length∧allO rdRat (xs.take s.length)=some s) (fun s=>xs.length - s.length) [] ⟨Nat.zero_le _,rfl⟩
   ⟨rfl,by show AV.d (.s (.int .i64 ((cT xs).length:Int)))=_;rw [cT_len],rfl,rfl,trivial⟩ ⟨rfl,trivial⟩ ?_
  rintro s ⟨hi,hq⟩;obtain ⟨i,ei⟩:∃i,s.length=i:=⟨_,rfl⟩;rw [ei] at hi hq;rw [ei];conv=>whnf
  refine Br.mk (fun h2=>?_) (fun h2=>?_)
  ·have h2:i < xs.length:=by simp only [decide_eq_true_eq] at h2;omega
   obtain ⟨x,ex⟩:∃x,xs.getD i []=x:=⟨_,rfl⟩;have hxm:x∈xs:=by rw [←ex,gD,List.getElem?_eq_getElem h2];exact List.getElem_mem h2
   have et:xs.take (i+1)=xs.take i++[x]:=by rw [List.take_succ_eq_append_getElem h2];subst ex;rw [gD,List.getElem?_eq_getElem h2];rfl
   have cr:=fn_readRat x (hs x hxm);conv=>whnf
   refine ⟨⟨⟨by omega,by omega⟩,cT_sz _⟩,?_⟩;conv=>whnf
   refine ⟨_,cT_as (x:=x) h2 ex,?_⟩;cases hr:rdRat x with
   | none =>
    rw [hr] at cr;rw [allO_none hxm hr];conv=>whnf
    refine VCall.of_data cr (ndT (fun k=>rfl)) ?_;conv=>whnf
    exact ⟨rfl,trivial,rfl⟩
   | some q =>
    rw [hr] at cr;conv=>whnf
    refine VCall.of_data cr (ndT (fun k=>rfl)) ?_;conv=>whnf
    refine Sub.full rfl ?_;conv=>whnf
    refine Sub.full (by rw [cQ_len];exact ei) ?_;conv=>whnf
    refine ⟨by show (i+1)*56≤_;omega,?_⟩;conv=>whnf
    refine Wr.i64 (y:=((i+1:Nat):Int)) rfl (by omega) (by omega) ?_;conv=>whnf
    refine ⟨s++[q],⟨by rw [List.length_append,List.length_singleton];omega,?_⟩,by show xs.length - (s++[q]).length < xs.length - i;rw [List.length_append,List.length_singleton];omega,⟨?_,rfl,rfl,?_,trivial⟩,?_,trivial⟩
    ·rw [List.length_append,List.length_singleton,ei,et];exact allO_snoc hq hr
    ·show AV.d (.s (.int .i64 ((i+1:Nat):Int)))=I ((s++[q]).length:Nat);rw [List.length_append,List.length_singleton,ei]
    ·show AV.ls 29 0 (i+1) 3=AV.ls 29 0 (s++[q]).length 3;rw [List.length_append,List.length_singleton,ei]
    ·show Ob.row true 3 (cQ s++cQ [q])=_;rw [cQ_append]
  ·have h2:i=xs.length:=by simp only [decide_eq_false_iff_not] at h2;omega
   rw [h2,List.take_length] at hq;rw [hq];conv=>whnf
   refine ⟨⟨rfl,by rw [cQ_len];omega,?_⟩,rfl,trivial,rfl⟩;rw [List.drop_zero,List.take_of_length_le (by rw [cQ_len];omega)];rfl
end Go.V
namespace Go.V
open Go.Proofs Go.RowKit
set_option maxRecDepth 10000
set_option maxHeartbeats 1000000
theorem rcI_le {p q:Rat}:rcI p q≤0↔p≤q:=by
 have h1:=rcI_neg (p:=p) (q:=q)
 have h2:=rcI_zero (p:=p) (q:=q)
 constructor
 ·intro h
  rcases Int.lt_or_eq_of_le h with h3 | h3
  ·exact Rat.le_of_lt (h1.1 h3)
  ·rw [h2.1 h3];exact Rat.le_refl
 ·intro h
  rcases Int.lt_or_le 0 (rcI p q) with h3 | h3
  ·exfalso
   have h4:¬p < q:=fun e=>by have:=h1.2 e;omega
   have h5:¬p=q:=fun e=>by have:=h2.2 e;omega
   exact h5 (Rat.le_antisymm h (Rat.not_lt.1 h4))
  ·exact h3
def okLoads (x:List Rat):Prop:=1≤x.length∧x.length≤48∧x.any (fun q=>decide (sgI q < 0))=false
instance (x:List Rat):Decidable (okLoads x):=by unfold okLoads;exact inferInstance
end Go.V
namespace Go.V
open Go.Proofs Go.RowKit
set_option maxRecDepth 10000
set_option maxHeartbeats 1000000
abbrev U8 (c:UInt8):AV:=.d (.s (.int .u8 (c.toNat:Nat)))
def CutI (c:UInt8) (s:List UInt8) (q:List (List UInt8)×Nat×Nat):Prop :=
 q.2.1≤q.2.2∧((q.2.2≤s.length∧splitB c s=q.1++splitB c (s.drop q.2.1)∧c ∉ (s.drop q.2.1).take (q.2.2 - q.2.1))∨(q.2.2=s.length+1∧splitB c s=q.1))∧q.1.length≤q.2.2
theorem fn_sCut (s:List UInt8) (c:UInt8) (hs:s.length≤1000000000):Fn Tryz.prog 183 [Str s,U8 c] [] (lT (splitB c s)) []:=by
 refine Fn.intro (ks:=[0,1,4,5,6,7,12,25]) hty rfl rfl rfl rfl rfl ?_;conv=>whnf
 refine VLoop.ren 8 32 rfl ?_;refine VLoop.inv hty (S:=List (List UInt8)×Nat×Nat) (fun q=>[(7,I (q.2.2:Nat)),(6,I (q.2.1:Nat)),(5,.ls 32 0 q.1.length 1),(1,U8 c),(0,Str s)]) (fun q=>[(32,.row true 1 (cT q.1))]) (CutI c s) (fun q=>s.length+1 - q.2.2) ([],0,0)
  ⟨Nat.le_refl _,.inl ⟨Nat.zero_le _,by simp,by simp⟩,Nat.le_refl _⟩ ⟨rfl,rfl,rfl,rfl,rfl,trivial⟩ ⟨rfl,trivial⟩ ?_
 intro q hI;obtain ⟨out,eo⟩:∃x,q.1=x:=⟨_,rfl⟩;obtain ⟨f,ef⟩:∃x,q.2.1=x:=⟨_,rfl⟩;obtain ⟨i,ei⟩:∃x,q.2.2=x:=⟨_,rfl⟩;unfold CutI at hI;rw [eo,ef,ei] at hI;rw [eo,ef,ei];obtain ⟨hfi,hor,hol⟩:=hI;conv=>whnf
 refine Br.mk (fun h=>?_) (fun h=>?_)
 ·have h:i≤s.length:=by rw [bsize] at h;simp only [decide_eq_true_eq] at h;omega
  obtain ⟨h1,h2,h3⟩:i≤s.length∧splitB c s=out++splitB c (s.drop f)∧c ∉ (s.drop f).take (i - f):=by
   rcases hor with h4 | h4
   ·exact h4
   ·omega
  obtain ⟨p,ep⟩:∃p,(s.drop f).take (i - f)=p:=⟨_,rfl⟩;rw [ep] at h3;have hex:(⟨s.toArray⟩:ByteArray).extract ((f:Nat):Int).toNat ((i:Nat):Int).toNat=⟨p.toArray⟩:=by
   rw [bx];show (⟨((s.take i).drop f).toArray⟩:ByteArray)=_;rw [List.drop_take,ep]
  conv=>whnf
  refine Br.mk (fun h5=>?_) (fun h5=>?_)
  ·have h5:i=s.length:=by rw [bsize] at h5;simp only [decide_eq_true_eq] at h5;omega
   have hp:p=s.drop f:=by rw [←ep,List.take_of_length_le (by rw [List.length_drop];omega)]
   have hnew:CutI c s (out++[p],i+1,i+1):=⟨Nat.le_refl _,.inr ⟨by show i+1=_;omega,by show splitB c s=out++[p];rw [h2,←hp,splitB_none h3]⟩,by show (out++[p]).length≤i+1;rw [List.length_append,List.length_singleton];omega⟩;conv=>whnf
   refine ⟨⟨by omega,by omega,by rw [bsize];omega⟩,?_⟩;rw [hex];conv=>whnf
   refine Sub.full rfl ?_;conv=>whnf
   refine Sub.full (by rw [cT_len]) ?_;conv=>whnf
   refine ⟨by show (out.length+1)*16≤_;omega,?_⟩;conv=>whnf
   refine Wr.i64 (y:=((i+1:Nat):Int)) (by omega) (by omega) (by omega) ?_;conv=>whnf
   refine Wr.i64 (y:=((i+1:Nat):Int)) (by omega) (by omega) (by omega) ?_;conv=>whnf
   refine ⟨(out++[p],i+1,i+1),hnew,by show s.length+1 - (i+1) < s.length+1 - i;omega,⟨rfl,rfl,?_,rfl,rfl,trivial⟩,?_,trivial⟩
   ·show AV.ls 32 0 (out.length+1) 1=AV.ls 32 0 (out++[p]).length 1;rw [List.length_append];rfl
   ·show Ob.row true 1 (cT out++cT [p])=_;rw [cT_append]
  ·have h5:i < s.length:=by rw [bsize] at h5;simp only [decide_eq_false_iff_not] at h5;omega
   obtain ⟨b,eb⟩:∃b,s.getD i 0=b:=⟨_,rfl⟩;have hgi:s[i]=b:=by rw [←eb,gD,List.getElem?_eq_getElem h5];rfl
   have hdf:s.drop f=p++b :: s.drop (i+1):=by
    rw [←ep];have h6:=List.take_append_drop (i - f) (s.drop f);rw [List.drop_drop,show f+(i - f)=i by omega,List.drop_eq_getElem_cons h5,hgi] at h6;exact h6.symm
   conv=>whnf
   refine ⟨⟨by omega,by rw [bsize];omega⟩,?_⟩;rw [show (⟨s.toArray⟩:ByteArray).data.toList.getD ((i:Nat):Int).toNat 0=b from eb];conv=>whnf
   refine Br.mk (fun h6=>?_) (fun h6=>?_)
   ·have h6:b=c:=by
     simp only [decide_eq_true_eq] at h6;exact uint8_ext (by omega)
    have hnew:CutI c s (out++[p],i+1,i+1):=⟨Nat.le_refl _,.inl ⟨by show i+1≤_;omega,by
     show splitB c s=(out++[p])++splitB c (s.drop (i+1));rw [h2,hdf,h6,splitB_at h3,List.append_assoc];rfl,by simp⟩,by show (out++[p]).length≤i+1;rw [List.length_append,List.length_singleton];omega⟩
    conv=>whnf
    refine ⟨⟨by omega,by omega,by rw [bsize];omega⟩,?_⟩;rw [hex];conv=>whnf
    refine Sub.full rfl ?_;conv=>whnf
    refine Sub.full (by rw [cT_len]) ?_;conv=>whnf
    refine ⟨by show (out.length+1)*16≤_;omega,?_⟩;conv=>whnf
    refine Wr.i64 (y:=((i+1:Nat):Int)) (by omega) (by omega) (by omega) ?_;conv=>whnf
    refine Wr.i64 (y:=((i+1:Nat):Int)) (by omega) (by omega) (by omega) ?_;conv=>whnf
    refine ⟨(out++[p],i+1,i+1),hnew,by show s.length+1 - (i+1) < s.length+1 - i;omega,⟨rfl,rfl,?_,rfl,rfl,trivial⟩,?_,trivial⟩
    ·show AV.ls 32 0 (out.length+1) 1=AV.ls 32 0 (out++[p]).length 1;rw [List.length_append];rfl
    ·show Ob.row true 1 (cT out++cT [p])=_;rw [cT_append]
   ·have h6:b≠c:=by
     simp only [decide_eq_false_iff_not] at h6;intro e;rw [e] at h6;exact h6 rfl
    conv=>whnf
    refine Wr.i64 (y:=((i+1:Nat):Int)) (by omega) (by omega) (by omega) ?_;conv=>whnf
    refine ⟨(out,f,i+1),⟨by show f≤i+1;omega,.inl ⟨by show i+1≤_;omega,h2,?_⟩,by show out.length≤i+1;omega⟩,by show s.length+1 - (i+1) < s.length+1 - i;omega,⟨rfl,rfl,rfl,rfl,rfl,trivial⟩,rfl,trivial⟩;show c ∉ (s.drop f).take (i+1 - f);have hpl:p.length=i - f:=by rw [←ep,List.length_take,List.length_drop];omega
    rw [hdf,show i+1 - f=p.length+1 by omega,List.take_append,List.take_of_length_le (by omega),show p.length+1 - p.length=1 by omega];simp only [List.take_succ_cons,List.take_zero,List.mem_append,List.mem_singleton,not_or];exact ⟨h3,fun e=>h6 e.symm⟩
 ·have h:¬i≤s.length:=by rw [bsize] at h;simp only [decide_eq_false_iff_not] at h;omega
  have e:splitB c s=out:=by
   rcases hor with h4 | h4
   ·omega
   ·exact h4.2
  rw [e];conv=>whnf
  refine ⟨⟨rfl,by rw [cT_len];omega,?_⟩,trivial,rfl⟩;rw [List.drop_zero,List.take_of_length_le (by rw [cT_len];omega)]
theorem head_getD {s:List UInt8} (h:0 < s.length):s.head? = some (s.getD 0 0):=by
 cases s with
 | nil=>simp at h
 | cons x r=>rfl
theorem fn_sDigits (s:List UInt8) (hs:s.length≤1000000000):Fn Tryz.prog 184 [Str s] [] (B (decide (okN s))) []:=by
 refine Fn.intro (ks:=[0,2,3,7,19]) hty rfl rfl rfl rfl rfl ?_;conv=>whnf
 refine VLoop.invX hty (S:=Nat) (E:=Unit) [] [] 0 (fun i=>[(3,I (i:Nat)),(0,Str s)]) (fun _=>[]) (fun i=>i≤s.length∧∀k,k < i→IsD (s.getD k 0)) (fun i=>s.length - i)
  (fun _=>[(0,Str s)]) (fun _=>[]) (fun _=>∀b,b∈s→IsD b) 0 ⟨Nat.zero_le _,fun k h=>absurd h (Nat.not_lt_zero k)⟩ ⟨rfl,rfl,trivial⟩ trivial ?_ ?_
 ·rintro i ⟨hi,hk⟩;obtain ⟨b,eb⟩:∃b,s.getD i 0=b:=⟨_,rfl⟩;conv=>whnf
  refine Br.mk (fun h5=>?_) (fun h5=>?_)
  ·have h5:i < s.length:=by rw [bsize] at h5;simp only [decide_eq_true_eq] at h5;omega
   have hbm:b∈s:=by rw [←eb,gD,List.getElem?_eq_getElem h5];exact List.getElem_mem h5
   conv=>whnf
   refine ⟨⟨by omega,by rw [bsize];omega⟩,?_⟩;rw [show (⟨s.toArray⟩:ByteArray).data.toList.getD ((i:Nat):Int).toNat 0=b from eb];conv=>whnf
   refine Br.mk (fun h6=>?_) (fun h6=>?_)
   ·have h6:b.toNat < 48:=by simp only [decide_eq_true_eq] at h6;omega
    have hno:¬okN s:=fun hok=>by have:=(hok.dig b hbm).1;omega
    rw [decide_eq_false hno];conv=>whnf
    exact ⟨rfl,trivial,rfl⟩
   ·have h6:¬b.toNat < 48:=by simp only [decide_eq_false_iff_not] at h6;omega
    conv=>whnf
    refine ⟨⟨by omega,by rw [bsize];omega⟩,?_⟩;rw [show (⟨s.toArray⟩:ByteArray).data.toList.getD ((i:Nat):Int).toNat 0=b from eb];conv=>whnf
    refine Br.mk (fun h7=>?_) (fun h7=>?_)
    ·have h7:57 < b.toNat:=by simp only [decide_eq_true_eq] at h7;omega
     have hno:¬okN s:=fun hok=>by have:=(hok.dig b hbm).2;omega
     rw [decide_eq_false hno];conv=>whnf
     exact ⟨rfl,trivial,rfl⟩
    ·have h7:¬57 < b.toNat:=by simp only [decide_eq_false_iff_not] at h7;omega
     conv=>whnf
     refine Wr.i64 (y:=((i+1:Nat):Int)) (by omega) (by omega) (by omega) ?_;conv=>whnf
     refine ⟨i+1,⟨h5,fun k hki=>?_⟩,by show s.length - (i+1) < s.length - i;omega,⟨rfl,rfl,trivial⟩,trivial⟩;rcases Nat.lt_or_ge k i with h8 | h8
     ·exact hk k h8
     ·rw [show k=i by omega,eb];exact ⟨by omega,by omega⟩
  ·have h5:i=s.length:=by rw [bsize] at h5;simp only [decide_eq_false_iff_not] at h5;omega
   conv=>whnf
   refine ⟨rfl,(),fun b hb=>?_,⟨rfl,trivial⟩,trivial⟩;obtain ⟨k,hk1,hk2⟩:=List.mem_iff_getElem.1 hb;have:=hk k (by omega);rw [gD,List.getElem?_eq_getElem hk1] at this;simpa [hk2] using this
 ·rintro _ hdig;conv=>whnf
  refine Br.mk (fun h1=>?_) (fun h1=>?_)
  ·have h1:1≤s.length:=by rw [bsize] at h1;simp only [decide_eq_true_eq] at h1;omega
   have hhead:=head_getD (s:=s) (by omega);have hne:s≠[]:=fun e=>by rw [e] at h1;simp at h1
   conv=>whnf
   refine Br.mk (fun h2=>?_) (fun h2=>?_)
   ·have h2:s.length≤200:=by rw [bsize] at h2;simp only [decide_eq_true_eq] at h2;omega
    conv=>whnf
    refine Br.mk (fun h3=>?_) (fun h3=>?_)
    ·have h3:s.length=1:=by rw [bsize] at h3;simp only [decide_eq_true_eq] at h3;omega
     rw [decide_eq_true (show okN s from ⟨hne,h2,hdig,.inl h3⟩)];conv=>whnf
     exact ⟨rfl,trivial,rfl⟩
    ·have h3:¬s.length=1:=by rw [bsize] at h3;simp only [decide_eq_false_iff_not] at h3;omega
     conv=>whnf
     refine ⟨⟨by omega,by rw [bsize];omega⟩,?_⟩;conv=>whnf
     refine ⟨?_,trivial,rfl⟩
     congr 3
     show (!decide ((((s.getD 0 0).toNat:Nat):Int)=48))=decide (okN s);by_cases h48:s.getD 0 0=48
     ·rw [h48];have hno:¬okN s:=fun hok=>by
       rcases hok.2.2.2 with h5 | h5
       ·exact h3 h5
       ·rw [hhead,h48] at h5;exact h5 rfl
      rw [decide_eq_false hno];rfl
     ·have hyes:okN s:=⟨hne,h2,hdig,.inr (by rw [hhead];intro e;exact h48 (Option.some.inj e))⟩;rw [decide_eq_true hyes,decide_eq_false (fun e=>h48 (uint8_ext (by show (s.getD 0 0).toNat=48;omega)))];rfl
   ·have h2:¬s.length≤200:=by rw [bsize] at h2;simp only [decide_eq_false_iff_not] at h2;omega
    rw [decide_eq_false (fun hok:okN s=>h2 hok.2.1)];conv=>whnf
    exact ⟨rfl,trivial,rfl⟩
  ·have h1:¬1≤s.length:=by rw [bsize] at h1;simp only [decide_eq_false_iff_not] at h1;omega
   rw [decide_eq_false (fun hok:okN s=>h1 (List.length_pos_iff.2 hok.1))];conv=>whnf
   exact ⟨rfl,trivial,rfl⟩
def RdI (s:List UInt8) (out:List Nat):Prop:=(∀x,x∈out→x < B9)∧dv s=vl B9 out+B9 ^ out.length*dv (s.take (s.length - 9*out.length))∧9*out.length≤s.length+8
theorem RdI.step {s:List UInt8} {out:List Nat} (hd:∀b,b∈s→IsD b) (h:RdI s out) {f tx:Nat} (ht:tx=s.length - 9*out.length) (h0:0 < tx) (hf:f=tx - 9) :
  RdI s (out++[dv ((s.drop f).take (tx - f))])∧dv ((s.drop f).take (tx - f)) < B9:=by
 obtain ⟨h1,h2,h3⟩:=h;have hlt:dv ((s.drop f).take (tx - f)) < B9:=by
  have h4:=dv_lt (s:=(s.drop f).take (tx - f)) fun b hb=>hd b (List.mem_of_mem_drop (List.mem_of_mem_take hb));have h5:((s.drop f).take (tx - f)).length≤9:=by rw [List.length_take];omega
  have h6:(10:Nat) ^ ((s.drop f).take (tx - f)).length≤10 ^ 9:=Nat.pow_le_pow_right (by decide) h5;exact Nat.lt_of_lt_of_le h4 h6
 refine ⟨⟨snoc_lt h1 hlt,?_,by rw [List.length_append,List.length_singleton];omega⟩,hlt⟩;rw [List.length_append,List.length_singleton,vl_snoc,Nat.pow_succ,h2,←ht];have h4:=dv_part (s:=s) (lo:=f) (hi:=tx) (by omega) (by omega);have h5:s.length - 9*(out.length+1)=f:=by omega
 rw [h5,h4];generalize dv ((s.drop f).take (tx - f))=d;generalize vl B9 out=vv;generalize B9 ^ out.length=P;rcases Nat.lt_or_ge tx 9 with h6 | h6
 ·have:dv (s.take f)=0:=by rw [show f=0 by omega];rfl
  rw [this,Nat.zero_mul,Nat.zero_add,Nat.mul_zero,Nat.add_zero]
 ·have h7:(10:Nat) ^ (tx - f)=B9:=by rw [show tx - f=9 by omega]
  rw [h7];generalize B9=B;have:P*(dv (s.take f)*B)=P*B*dv (s.take f):=by rw [Nat.mul_comm (dv _) B,Nat.mul_assoc]
  rw [Nat.mul_add,this];omega
theorem fn_sNatRead (s:List UInt8) (hs:s.length≤1000000000) (hd:∀b,b∈s→IsD b):Fn Tryz.prog 185 [Str s] [] (nS (dv s)) []:=by
 refine Fn.intro (ks:=[0,2,3,4,5,6,7,12,16,22]) hty rfl rfl rfl rfl rfl ?_;conv=>whnf
 refine VLoop.ren 8 36 rfl ?_;refine VLoop.inv hty (S:=List Nat) (fun out=>[(4,I ((s.length:Int) - 9*out.length)),(3,.ls 36 0 out.length 1),(0,Str s)]) (fun out=>[(36,.row true 1 (cW .i64 out))]) (RdI s) (fun out=>s.length+9 - 9*out.length) []
  ⟨by simp,by simp [vl],by simp⟩ ⟨by show AV.d (.s (.int .i64 ((s.length:Nat):Int)))=AV.d (.s (.int .i64 ((s.length:Int) - 9*((0:Nat):Int))));congr 3,rfl,rfl,trivial⟩ ⟨rfl,trivial⟩ ?_
 intro out hI;have hI3:=hI.2.2;obtain ⟨tx',eto⟩:∃x,(s.length:Int) - 9*out.length=x:=⟨_,rfl⟩;rw [eto];conv=>whnf
 refine Br.mk (fun h=>?_) (fun h=>?_)
 ·obtain ⟨tx,eto2⟩:∃tx:Nat,tx'=tx:=⟨tx'.toNat,by simp only [decide_eq_true_eq] at h;omega⟩;subst eto2;have h:0 < tx:=by simp only [decide_eq_true_eq] at h;omega
  have ht:tx=s.length - 9*out.length:=by omega
  obtain ⟨f,ef⟩:∃f,tx - 9=f:=⟨_,rfl⟩;obtain ⟨hst,hlt⟩:=hI.step hd ht h ef.symm;conv=>whnf
  refine Br.mk (fun h2=>?_) (fun h2=>?_)
  ·have h2:9 < tx:=by simp only [decide_eq_true_eq] at h2;omega
   conv=>whnf
   refine Wr.i64 (y:=((f:Nat):Int)) (by omega) (by omega) (by omega) ?_;have hcnt:∀k,k≤tx - f→dv ((s.drop f).take k) < 1000000000:=fun k hk=>by
    have h4:=dv_lt (s:=(s.drop f).take k) fun b hb=>hd b (List.mem_of_mem_drop (List.mem_of_mem_take hb));have h5:((s.drop f).take k).length≤9:=by rw [List.length_take];omega
    exact Nat.lt_of_lt_of_le h4 (Nat.pow_le_pow_right (by decide) h5)
   conv=>whnf
   refine VLoop.invX hty (S:=Nat) (E:=Unit) [] [] 2 (fun k=>[(7,I ((f+k:Nat):Int)),(6,I (dv ((s.drop f).take k):Nat)),(4,I (tx:Nat)),(3,.ls 36 0 out.length 1),(0,Str s)]) (fun _=>[(36,.row true 1 (cW .i64 out))]) (fun k=>k≤tx - f) (fun k=>tx - f - k)
    (fun _=>[(6,I (dv ((s.drop f).take (tx - f)):Nat)),(4,I (tx:Nat)),(3,.ls 36 0 out.length 1),(0,Str s)]) (fun _=>[(36,.row true 1 (cW .i64 out))]) (fun _=>True) 0 (Nat.zero_le _) ⟨rfl,rfl,rfl,rfl,rfl,trivial⟩ ⟨rfl,trivial⟩ ?_ ?_
   ·intro k hk;have hdk:=hcnt k hk;conv=>whnf
    refine Br.mk (fun h3=>?_) (fun h3=>?_)
    ·have h3:f+k < tx:=by simp only [decide_eq_true_eq] at h3;omega
     obtain ⟨b,eb⟩:∃b,s.getD (f+k) 0=b:=⟨_,rfl⟩;have hi:f+k < s.length:=by omega
     have hbd:IsD b:=by
      refine hd b ?_;rw [←eb,gD,List.getElem?_eq_getElem hi];exact List.getElem_mem hi
     have hb1:=hbd.1;have hb2:=hbd.2;have hkl:k < (s.drop f).length:=by rw [List.length_drop];omega
     have hnext:dv ((s.drop f).take (k+1))=10*dv ((s.drop f).take k)+(b.toNat - 48):=by
      rw [dv_take hkl];have:(s.drop f)[k]=b:=by
       rw [List.getElem_drop,←eb,gD,List.getElem?_eq_getElem hi];rfl
      rw [this]
     have hdk2:=hcnt (k+1) (by omega);obtain ⟨x,ex⟩:∃x,dv ((s.drop f).take k)=x:=⟨_,rfl⟩;obtain ⟨y,ey⟩:∃x,dv ((s.drop f).take (k+1))=x:=⟨_,rfl⟩;rw [ex,ey] at hnext;rw [ex] at hdk;rw [ey] at hdk2;rw [ex];conv=>whnf
     refine Wr.i64 (y:=(10:Int)*(x:Nat)) rfl (by omega) (by omega) ?_;conv=>whnf
     refine ⟨⟨by omega,by rw [bsize];omega⟩,?_⟩;rw [show (⟨s.toArray⟩:ByteArray).data.toList.getD ((f+k:Nat):Int).toNat 0=b from eb];conv=>whnf
     refine Wr.is (y:=((b.toNat - 48:Nat):Int)) (by rw [wrap_u8];omega) ?_;conv=>whnf
     refine Wr.i64 (y:=((b.toNat - 48:Nat):Int)) rfl (by omega) (by omega) ?_;conv=>whnf
     refine Wr.i64 (y:=(y:Int)) (by omega) (by omega) (by omega) ?_;conv=>whnf
     refine Wr.i64 (y:=((f+(k+1):Nat):Int)) (by omega) (by omega) (by omega) ?_;conv=>whnf
     exact ⟨k+1,by omega,by show tx - f - (k+1) < tx - f - k;omega,⟨rfl,by show AV.d (.s (.int .i64 (y:Int)))=I _;rw [ey],rfl,rfl,rfl,trivial⟩,rfl,trivial⟩
    ·have h3:k=tx - f:=by simp only [decide_eq_false_iff_not] at h3;omega
     rw [h3];conv=>whnf
     exact ⟨rfl,(),trivial,⟨rfl,rfl,rfl,rfl,trivial⟩,rfl,trivial⟩
   ·rintro _ _;obtain ⟨d,ed⟩:∃d,dv ((s.drop f).take (tx - f))=d:=⟨_,rfl⟩;rw [ed] at hst hlt;rw [ed];conv=>whnf
    refine Sub.full rfl ?_;conv=>whnf
    refine Sub.full (by rw [cW_len]) ?_;conv=>whnf
    refine ⟨by show (out.length+1)*8≤_;omega,?_⟩;conv=>whnf
    refine Wr.i64 (y:=(s.length:Int) - 9*((out.length+1:Nat):Int)) (by omega) (by omega) (by omega) ?_;conv=>whnf
    refine ⟨out++[d],hst,by show s.length+9 - 9*(out++[d]).length < _;rw [List.length_append,List.length_singleton];omega,⟨?_,?_,rfl,trivial⟩,?_,trivial⟩
    ·show AV.d (.s (.int .i64 ((s.length:Int) - 9*((out.length+1:Nat):Int))))=I ((s.length:Int) - 9*((out++[d]).length:Nat));rw [List.length_append,List.length_singleton]
    ·show AV.ls 36 0 (out.length+1) 1=AV.ls 36 0 (out++[d]).length 1;rw [List.length_append];rfl
    ·show Ob.row true 1 (cW .i64 out++cW .i64 [d])=_;rw [cW_append]
  ·have h2:¬9 < tx:=by simp only [decide_eq_false_iff_not] at h2;omega
   have hf0:f=0:=by omega
   subst hf0;have hcnt:∀k,k≤tx - 0→dv ((s.drop 0).take k) < 1000000000:=fun k hk=>by
    have h4:=dv_lt (s:=(s.drop 0).take k) fun b hb=>hd b (List.mem_of_mem_drop (List.mem_of_mem_take hb));have h5:((s.drop 0).take k).length≤9:=by rw [List.length_take];omega
    exact Nat.lt_of_lt_of_le h4 (Nat.pow_le_pow_right (by decide) h5)
   conv=>whnf
   refine VLoop.invX hty (S:=Nat) (E:=Unit) [] [] 2 (fun k=>[(7,I ((0+k:Nat):Int)),(6,I (dv ((s.drop 0).take k):Nat)),(4,I (tx:Nat)),(3,.ls 36 0 out.length 1),(0,Str s)]) (fun _=>[(36,.row true 1 (cW .i64 out))]) (fun k=>k≤tx - 0) (fun k=>tx - 0 - k)
    (fun _=>[(6,I (dv ((s.drop 0).take (tx - 0)):Nat)),(4,I (tx:Nat)),(3,.ls 36 0 out.length 1),(0,Str s)]) (fun _=>[(36,.row true 1 (cW .i64 out))]) (fun _=>True) 0 (Nat.zero_le _) ⟨rfl,rfl,rfl,rfl,rfl,trivial⟩ ⟨rfl,trivial⟩ ?_ ?_
   ·intro k hk;have hdk:=hcnt k hk;conv=>whnf
    refine Br.mk (fun h3=>?_) (fun h3=>?_)
    ·have h3:0+k < tx:=by simp only [decide_eq_true_eq] at h3;omega
     obtain ⟨b,eb⟩:∃b,s.getD (0+k) 0=b:=⟨_,rfl⟩;have hi:0+k < s.length:=by omega
     have hbd:IsD b:=by
      refine hd b ?_;rw [←eb,gD,List.getElem?_eq_getElem hi];exact List.getElem_mem hi
     have hb1:=hbd.1;have hb2:=hbd.2;have hkl:k < (s.drop 0).length:=by rw [List.length_drop];omega
     have hnext:dv ((s.drop 0).take (k+1))=10*dv ((s.drop 0).take k)+(b.toNat - 48):=by
      rw [dv_take hkl];have:(s.drop 0)[k]=b:=by
       rw [List.getElem_drop,←eb,gD,List.getElem?_eq_getElem hi];rfl
      rw [this]
     have hdk2:=hcnt (k+1) (by omega);obtain ⟨x,ex⟩:∃x,dv ((s.drop 0).take k)=x:=⟨_,rfl⟩;obtain ⟨y,ey⟩:∃x,dv ((s.drop 0).take (k+1))=x:=⟨_,rfl⟩;rw [ex,ey] at hnext;rw [ex] at hdk;rw [ey] at hdk2;rw [ex];conv=>whnf
     refine Wr.i64 (y:=(10:Int)*(x:Nat)) rfl (by omega) (by omega) ?_;conv=>whnf
     refine ⟨⟨by omega,by rw [bsize];omega⟩,?_⟩;rw [show (⟨s.toArray⟩:ByteArray).data.toList.getD ((0+k:Nat):Int).toNat 0=b from eb];conv=>whnf
     refine Wr.is (y:=((b.toNat - 48:Nat):Int)) (by rw [wrap_u8];omega) ?_;conv=>whnf
     refine Wr.i64 (y:=((b.toNat - 48:Nat):Int)) rfl (by omega) (by omega) ?_;conv=>whnf
     refine Wr.i64 (y:=(y:Int)) (by omega) (by omega) (by omega) ?_;conv=>whnf
     refine Wr.i64 (y:=((0+(k+1):Nat):Int)) (by omega) (by omega) (by omega) ?_;conv=>whnf
     exact ⟨k+1,by omega,by show tx - 0 - (k+1) < tx - 0 - k;omega,⟨rfl,by show AV.d (.s (.int .i64 (y:Int)))=I _;rw [ey],rfl,rfl,rfl,trivial⟩,rfl,trivial⟩
    ·have h3:k=tx - 0:=by simp only [decide_eq_false_iff_not] at h3;omega
     rw [h3];conv=>whnf
     exact ⟨rfl,(),trivial,⟨rfl,rfl,rfl,rfl,trivial⟩,rfl,trivial⟩
   ·rintro _ _;obtain ⟨d,ed⟩:∃d,dv ((s.drop 0).take (tx - 0))=d:=⟨_,rfl⟩;rw [ed] at hst hlt;rw [ed];conv=>whnf
    refine Sub.full rfl ?_;conv=>whnf
    refine Sub.full (by rw [cW_len]) ?_;conv=>whnf
    refine ⟨by show (out.length+1)*8≤_;omega,?_⟩;conv=>whnf
    refine Wr.i64 (y:=(s.length:Int) - 9*((out.length+1:Nat):Int)) (by omega) (by omega) (by omega) ?_;conv=>whnf
    refine ⟨out++[d],hst,by show s.length+9 - 9*(out++[d]).length < _;rw [List.length_append,List.length_singleton];omega,⟨?_,?_,rfl,trivial⟩,?_,trivial⟩
    ·show AV.d (.s (.int .i64 ((s.length:Int) - 9*((out.length+1:Nat):Int))))=I ((s.length:Int) - 9*((out++[d]).length:Nat));rw [List.length_append,List.length_singleton]
    ·show AV.ls 36 0 (out.length+1) 1=AV.ls 36 0 (out++[d]).length 1;rw [List.length_append];rfl
    ·show Ob.row true 1 (cW .i64 out++cW .i64 [d])=_;rw [cW_append]
 ·have h:tx'≤0:=by simp only [decide_eq_false_iff_not] at h;omega
  have hv:vl B9 out=dv s:=by
   have h2:=hI.2.1;rw [show s.length - 9*out.length=0 by omega] at h2;have:dv (s.take 0)=0:=rfl;rw [this] at h2;omega
  have ct:=fn_sTrim out hI.1 (by omega);rw [hv] at ct;conv=>whnf
  refine VCall.frz 36 ct rfl ⟨⟨rfl,rfl,by rw [cW_len];omega,by rw [List.drop_zero,List.take_of_length_le (by rw [cW_len];omega)]⟩,trivial⟩ (nd _) ?_;conv=>whnf
  exact ⟨rfl,trivial,rfl⟩
end Go.V
namespace Go.V
open Go.Proofs Go.RowKit
set_option maxRecDepth 10000
set_option maxHeartbeats 1000000
def one2 (neg:Bool) (d:List UInt8):Option Rat:=if ¬okN d∨(neg=true∧dv d=0) then none else some (mkRat (sgn neg (dv d)) 1)
def two2 (neg:Bool) (d g:List UInt8):Option Rat:=if ¬okN d∨(neg=true∧dv d=0) then none else if ¬okN g∨dv g≤1∨(dv d).gcd (dv g)≠1 then none else some (mkRat (sgn neg (dv d)) (dv g))
def parseS (neg:Bool) (ps:List (List UInt8)):Option Rat:=match ps with
 | [d]=>one2 neg d
 | [d,g]=>two2 neg d g
 | _=>none
theorem pre_nil:Lib.hasPrefix [] [45]=false:=rfl
theorem pre_cons (b:UInt8) (r:List UInt8):Lib.hasPrefix (b :: r) [45]=decide (b=45):=by
 show (([45]:List UInt8).isPrefixOf (b :: r))=_
 simp only [List.isPrefixOf,Bool.and_true]
 by_cases h:b=45
 ·subst h;rfl
 ·rw [decide_eq_false h];simpa using fun e:45=b=>h e.symm
theorem splitB_len {c:UInt8}:∀{s:List UInt8},c∈s→2≤(splitB c s).length
 | b :: r,h=>by
  by_cases hb:b=c
  ·subst hb
   rw [splitB,if_pos rfl]
   have:=List.length_pos_iff.2 (splitB_ne b r)
   rw [List.length_cons];omega
  ·have hr:c∈r:=by
    rcases List.mem_cons.1 h with e | h
    ·exact absurd e.symm hb
    ·exact h
   have ih:=splitB_len hr
   unfold splitB
   rw [if_neg hb]
   split
   ·rename_i p ps e;rw [e] at ih;rw [List.length_cons] at ih ⊢;exact ih
   ·rename_i e;rw [e] at ih;simp at ih
theorem rdRat_parse (s:List UInt8):rdRat s=parseS (Lib.hasPrefix s [45]) (splitB 47 (Lib.trimPrefix s [45])):=by
 rcases indexByte_spec 47 s with ⟨h1,h2⟩ | ⟨p,r,h1,h2,h3⟩
 ·have hc:cutB 47 s=(s,[],false):=by rw [cutB,h2];rfl
  have hd:47 ∉ Lib.trimPrefix s [45]:=by
   unfold Lib.trimPrefix;split
   ·exact fun h=>h1 (List.mem_of_mem_drop h)
   ·exact h1
  unfold rdRat;rw [hc,splitB_none hd];simp only [parseS,one2,if_true]
 ·have hc:cutB 47 s=(p,r,true):=by
   rw [cutB,h3];show (s.take p.length,s.drop (p.length+1),true)=_;rw [h1];simp
  have hpre:Lib.hasPrefix s [45]=Lib.hasPrefix p [45]:=by
   rw [h1];cases p with
   | nil=>rw [List.nil_append,pre_cons,pre_nil];rfl
   | cons b q=>rw [List.cons_append,pre_cons,pre_cons]
  have htr:Lib.trimPrefix s [45]=Lib.trimPrefix p [45]++47 :: r:=by
   unfold Lib.trimPrefix;rw [hpre,h1];split
   ·rename_i hp;cases p with
    | nil=>cases hp
    | cons b q=>rfl
   ·rfl
  have hd:47 ∉ Lib.trimPrefix p [45]:=by
   unfold Lib.trimPrefix;split
   ·exact fun h=>h2 (List.mem_of_mem_drop h)
   ·exact h2
  unfold rdRat;rw [hc,htr,splitB_at hd,hpre];simp only [Bool.true_eq_false,if_false,reduceCtorEq];by_cases hr:47∈r
  ·have hno:¬okN r:=fun h=>by
    have:=(h.dig 47 hr).1;exact absurd this (by decide)
   have hl:=splitB_len hr;rw [if_pos (.inl hno:¬okN r∨_)];cases hs:splitB 47 r with
   | nil=>rw [hs] at hl;simp at hl
   | cons x xs =>
    cases xs with
    | nil=>rw [hs] at hl;simp at hl
    | cons y ys=>simp [parseS]
  ·rw [splitB_none hr];simp only [parseS,two2]
def rOS:Option Rat→AV
 | some q=>rS q
 | none=>.ag [B false,nS 0,nS 0]
theorem splitB_sum (c:UInt8):∀(s:List UInt8) (x:List UInt8),x∈splitB c s→x.length≤s.length
 | [],x,h=>by simp [splitB] at h;simp [h]
 | b :: r,x,h=>by
  unfold splitB at h
  split at h
  ·rcases List.mem_cons.1 h with rfl | h
   ·simp
   ·have:=splitB_sum c r x h;rw [List.length_cons];omega
  ·split at h
   ·rename_i p ps e
    rcases List.mem_cons.1 h with rfl | h
    ·have:=splitB_sum c r p (by rw [e];simp)
     rw [List.length_cons,List.length_cons];omega
    ·have:=splitB_sum c r x (by rw [e];simp [h])
     rw [List.length_cons];omega
   ·simp at h;subst h;simp
theorem fn_sParse (s:List UInt8) (hs:s.length≤1000000000):Fn Tryz.prog 127 [Str s] [] (.tup [rOS (rdRat s),B (rdRat s).isSome]) []:=by
 rw [rdRat_parse];cases s with
 | nil =>
  rw [show Lib.trimPrefix [] [45]=[] from rfl,pre_nil];have hl':([]:List UInt8).length≤1000000000:=by simp
  refine Fn.intro (ks:=[0,2,3,4,5,6,7,15,16,30,41,45,54,71]) hty rfl rfl rfl rfl rfl ?_;conv=>whnf
  have csp:=fn_sCut [] 47 hl';have hsum:=splitB_sum 47 [];have hne:=splitB_ne 47 [];refine VCall.of_data csp (nd _) ?_;generalize splitB 47 []=ps at hsum hne;rcases ps with _ | ⟨d,_ | ⟨g,_ | ⟨e,q⟩⟩⟩
  ·exact absurd rfl hne
  ·have hdl:=hsum d (by simp);have hln:((cT [d]).length:Int)=1:=rfl;have cd1:=fn_sDigits d (by omega);by_cases hd:okN d
   ·rw [decide_eq_true hd] at cd1;have cd2:=fn_sNatRead d (by omega) hd.dig;have hbd:=hd.bl;have hld:((cW .i64 (dg B9 (dv d))).length:Int)=(dg B9 (dv d)).length:=by rw [cW_len]
    have hzd:=dg_len_zero b9 (n:=dv d);conv=>whnf
    refine ⟨⟨⟨by omega,by omega⟩,cT_sz _⟩,?_⟩;conv=>whnf
    refine ⟨[.s (.string ⟨d.toArray⟩)],rfl,?_⟩;conv=>whnf
    refine VCall.of_data cd1 (nd _) ?_;conv=>whnf
    refine ⟨⟨⟨by omega,by omega⟩,cT_sz _⟩,?_⟩;conv=>whnf
    refine ⟨[.s (.string ⟨d.toArray⟩)],rfl,?_⟩;conv=>whnf
    refine VCall.of_data cd2 (nd _) ?_;conv=>whnf
    have hs0:dv d=0→false=false:=fun _=>rfl;have hno:¬(¬okN d∨false=true∧dv d=0):=by rintro (h | ⟨h,_⟩);exact h hd;cases h
    obtain ⟨p1,p2,p3⟩:=parts_of (s:=false) (t:=dv d) (b:=1) (by decide) (Nat.gcd_one_right _) hs0;rw [show parseS false [d]=some (mkRat (sgn false (dv d)) 1) by show one2 _ _=_;rw [one2,if_neg hno]];rw [show rOS (some (mkRat (sgn false (dv d)) 1)) = .ag [B false,nS (dv d),nS 1] by rw [rOS,rS,p1,p2,p3]];conv=>whnf
    exact ⟨rfl,rfl,⟨rfl,Nat.le_refl _,rfl⟩,rfl,trivial,rfl⟩
   ·rw [decide_eq_false hd] at cd1;rw [show parseS false [d]=none by show one2 _ _=_;rw [one2,if_pos (.inl hd)]];conv=>whnf
    refine ⟨⟨⟨by omega,by omega⟩,cT_sz _⟩,?_⟩;conv=>whnf
    refine ⟨[.s (.string ⟨d.toArray⟩)],rfl,?_⟩;conv=>whnf
    refine VCall.of_data cd1 (nd _) ?_;conv=>whnf
    exact ⟨rfl,rfl,trivial,rfl⟩
  ·have hdl:=hsum d (by simp);have hln:((cT [d,g]).length:Int)=2:=rfl;have cd1:=fn_sDigits d (by omega);by_cases hd:okN d
   ·rw [decide_eq_true hd] at cd1;have cd2:=fn_sNatRead d (by omega) hd.dig;have hbd:=hd.bl;have hld:((cW .i64 (dg B9 (dv d))).length:Int)=(dg B9 (dv d)).length:=by rw [cW_len]
    have hzd:=dg_len_zero b9 (n:=dv d);conv=>whnf
    refine ⟨⟨⟨by omega,by omega⟩,cT_sz _⟩,?_⟩;conv=>whnf
    refine ⟨[.s (.string ⟨d.toArray⟩)],rfl,?_⟩;conv=>whnf
    refine VCall.of_data cd1 (nd _) ?_;conv=>whnf
    refine ⟨⟨⟨by omega,by omega⟩,cT_sz _⟩,?_⟩;conv=>whnf
    refine ⟨[.s (.string ⟨d.toArray⟩)],rfl,?_⟩;conv=>whnf
    refine VCall.of_data cd2 (nd _) ?_;conv=>whnf
    have hs0:dv d=0→false=false:=fun _=>rfl;have hno:¬(¬okN d∨false=true∧dv d=0):=by rintro (h | ⟨h,_⟩);exact h hd;cases h
    have hgl:=hsum g (by simp);have cg1:=fn_sDigits g (by omega);conv=>whnf
    refine ⟨⟨⟨by omega,by omega⟩,cT_sz _⟩,?_⟩;conv=>whnf
    refine ⟨[.s (.string ⟨g.toArray⟩)],rfl,?_⟩;by_cases hg:okN g
    ·have hbg:=hg.bl;rw [decide_eq_true hg] at cg1;have cg2:=fn_sNatRead g (by omega) hg.dig;have cc:=fn_sCmp (dv g) 1 (by omega) (by decide);conv=>whnf
     refine VCall.of_data cg1 (nd _) ?_;conv=>whnf
     refine ⟨⟨⟨by omega,by omega⟩,cT_sz _⟩,?_⟩;conv=>whnf
     refine ⟨[.s (.string ⟨g.toArray⟩)],rfl,?_⟩;conv=>whnf
     refine VCall.of_data cg2 (nd _) ?_;conv=>whnf
     refine VCall.frz 61 cc rfl ⟨rfl,⟨rfl,rfl,Nat.le_refl _,rfl⟩,trivial⟩ (nd _) ?_;conv=>whnf
     refine Br.mk (fun h7=>?_) (fun h7=>?_)
     ·have h7:dv g≤1:=by
       simp only [decide_eq_true_eq] at h7;have:=cmpZ_pos' (a:=dv g) (b:=1);omega
      rw [show parseS false [d,g]=none by show two2 _ _ _=_;rw [two2,if_neg hno,if_pos (.inr (.inl h7))]];conv=>whnf
      exact ⟨rfl,rfl,trivial,rfl⟩
     ·have h7:¬dv g≤1:=by
       simp only [decide_eq_false_iff_not] at h7;have:=cmpZ_pos' (a:=dv g) (b:=1);omega
      have cgc:=fn_sGcd (dv d) (dv g) (by omega) (by omega);have hbgc:bl ((dv d).gcd (dv g))≤800:=Nat.le_trans (bl_mono (Nat.gcd_le_right _ (by omega))) hbg;have cc2:=fn_sCmp ((dv d).gcd (dv g)) 1 (by omega) (by decide);conv=>whnf
      refine VCall.of_data cgc (nd _) ?_;conv=>whnf
      refine VCall.frz 68 cc2 rfl ⟨rfl,⟨rfl,rfl,Nat.le_refl _,rfl⟩,trivial⟩ (nd _) ?_;conv=>whnf
      refine Br.mk (fun h8=>?_) (fun h8=>?_)
      ·have h8:(dv d).gcd (dv g)≠1:=fun e=>by rw [cmpZ_zero.2 e] at h8;exact absurd h8 (by decide)
       rw [show parseS false [d,g]=none by show two2 _ _ _=_;rw [two2,if_neg hno,if_pos (.inr (.inr h8))]];conv=>whnf
       exact ⟨rfl,rfl,trivial,rfl⟩
      ·have h8:(dv d).gcd (dv g)=1:=cmpZ_zero.1 (by simpa using h8);obtain ⟨p1,p2,p3⟩:=parts_of (s:=false) (t:=dv d) (b:=dv g) (by omega) h8 hs0;rw [show parseS false [d,g]=some (mkRat (sgn false (dv d)) (dv g)) by
        show two2 _ _ _=_;rw [two2,if_neg hno,if_neg (by rintro (h9 | h9 | h9);exact h9 hg;exact h7 h9;exact h9 h8)]]
       rw [show rOS (some (mkRat (sgn false (dv d)) (dv g))) = .ag [B false,nS (dv d),nS (dv g)] by rw [rOS,rS,p1,p2,p3]];conv=>whnf
       exact ⟨rfl,rfl,rfl,rfl,trivial,rfl⟩
    ·rw [decide_eq_false hg] at cg1;rw [show parseS false [d,g]=none by show two2 _ _ _=_;rw [two2,if_neg hno,if_pos (.inl hg)]];conv=>whnf
     refine VCall.of_data cg1 (nd _) ?_;conv=>whnf
     exact ⟨rfl,rfl,trivial,rfl⟩
   ·rw [decide_eq_false hd] at cd1;rw [show parseS false [d,g]=none by show two2 _ _ _=_;rw [two2,if_pos (.inl hd)]];conv=>whnf
    refine ⟨⟨⟨by omega,by omega⟩,cT_sz _⟩,?_⟩;conv=>whnf
    refine ⟨[.s (.string ⟨d.toArray⟩)],rfl,?_⟩;conv=>whnf
    refine VCall.of_data cd1 (nd _) ?_;conv=>whnf
    exact ⟨rfl,rfl,trivial,rfl⟩
  ·have hln:((cT (d :: g :: e :: q)).length:Int)=q.length+3:=by rw [cT_len,List.length_cons,List.length_cons,List.length_cons];omega
   rw [show parseS false (d :: g :: e :: q)=none from rfl];conv=>whnf
   refine Br.mk (fun h9=>?_) (fun h9=>?_)
   ·conv=>whnf
    exact ⟨rfl,rfl,trivial,rfl⟩
   ·simp only [decide_eq_false_iff_not] at h9;omega
 | cons b r =>
  have hbz:(⟨(b :: r).toArray⟩:ByteArray).size=r.length+1:=by rw [bsize];rfl
  refine Fn.intro (ks:=[0,2,3,4,5,6,7,15,16,30,41,45,54,71]) hty rfl rfl rfl rfl rfl ?_;conv=>whnf
  refine Br.mk (fun h=>?_) (fun h=>?_)
  ·conv=>whnf
   refine ⟨⟨by omega,by rw [hbz];omega⟩,?_⟩;conv=>whnf
   refine Br.mk (fun h2=>?_) (fun h2=>?_)
   ·have hB:=h2;have h2:b=45:=by
     have h3:((b.toNat:Nat):Int)=45:=by simp only [decide_eq_true_eq] at h2;exact h2
     exact uint8_ext (by show b.toNat=45;omega)
    rw [show Lib.trimPrefix (b :: r) [45]=r by rw [h2];rfl,pre_cons,decide_eq_true h2];have hl':r.length≤1000000000:=by rw [List.length_cons] at hs;omega
    conv=>whnf
    refine ⟨⟨by omega,by rw [hbz];omega,by omega⟩,?_⟩;rw [hB,bx,show ((b :: r).take (((⟨(b :: r).toArray⟩:ByteArray).size:Int).toNat)).drop (1:Int).toNat=r by
     rw [hbz,show (((r.length+1:Nat):Int)).toNat=r.length+1 from rfl];show (b :: r.take r.length).drop 1=r;rw [List.take_length];rfl]
    conv=>whnf
    have csp:=fn_sCut r 47 hl';have hsum:=splitB_sum 47 r;have hne:=splitB_ne 47 r;refine VCall.of_data csp (nd _) ?_;generalize splitB 47 r=ps at hsum hne;rcases ps with _ | ⟨d,_ | ⟨g,_ | ⟨e,q⟩⟩⟩
    ·exact absurd rfl hne
    ·have hdl:=hsum d (by simp);have hln:((cT [d]).length:Int)=1:=rfl;have cd1:=fn_sDigits d (by omega);by_cases hd:okN d
     ·rw [decide_eq_true hd] at cd1;have cd2:=fn_sNatRead d (by omega) hd.dig;have hbd:=hd.bl;have hld:((cW .i64 (dg B9 (dv d))).length:Int)=(dg B9 (dv d)).length:=by rw [cW_len]
      have hzd:=dg_len_zero b9 (n:=dv d);conv=>whnf
      refine ⟨⟨⟨by omega,by omega⟩,cT_sz _⟩,?_⟩;conv=>whnf
      refine ⟨[.s (.string ⟨d.toArray⟩)],rfl,?_⟩;conv=>whnf
      refine VCall.of_data cd1 (nd _) ?_;conv=>whnf
      refine ⟨⟨⟨by omega,by omega⟩,cT_sz _⟩,?_⟩;conv=>whnf
      refine ⟨[.s (.string ⟨d.toArray⟩)],rfl,?_⟩;conv=>whnf
      refine VCall.of_data cd2 (nd _) ?_;conv=>whnf
      refine Br.mk (fun h=>?_) (fun h=>?_)
      ·have h0:dv d=0:=by simp only [decide_eq_true_eq] at h;exact hzd.1 (by omega)
       rw [show parseS true [d]=none by first | (show one2 _ _=_;rw [one2,if_pos (.inr ⟨rfl,h0⟩)]) | (show two2 _ _ _=_;rw [two2,if_pos (.inr ⟨rfl,h0⟩)])];conv=>whnf
       exact ⟨rfl,rfl,trivial,rfl⟩
      ·have h0:dv d≠0:=fun e=>by simp only [decide_eq_false_iff_not] at h;have:=hzd.2 e;omega
       have hs0:dv d=0→true=false:=fun e=>absurd e h0;have hno:¬(¬okN d∨true=true∧dv d=0):=by rintro (h | ⟨_,h⟩);exact h hd;exact h0 h
       obtain ⟨p1,p2,p3⟩:=parts_of (s:=true) (t:=dv d) (b:=1) (by decide) (Nat.gcd_one_right _) hs0;rw [show parseS true [d]=some (mkRat (sgn true (dv d)) 1) by show one2 _ _=_;rw [one2,if_neg hno]];rw [show rOS (some (mkRat (sgn true (dv d)) 1)) = .ag [B true,nS (dv d),nS 1] by rw [rOS,rS,p1,p2,p3]];conv=>whnf
       exact ⟨rfl,rfl,⟨rfl,Nat.le_refl _,rfl⟩,rfl,trivial,rfl⟩
     ·rw [decide_eq_false hd] at cd1;rw [show parseS true [d]=none by show one2 _ _=_;rw [one2,if_pos (.inl hd)]];conv=>whnf
      refine ⟨⟨⟨by omega,by omega⟩,cT_sz _⟩,?_⟩;conv=>whnf
      refine ⟨[.s (.string ⟨d.toArray⟩)],rfl,?_⟩;conv=>whnf
      refine VCall.of_data cd1 (nd _) ?_;conv=>whnf
      exact ⟨rfl,rfl,trivial,rfl⟩
    ·have hdl:=hsum d (by simp);have hln:((cT [d,g]).length:Int)=2:=rfl;have cd1:=fn_sDigits d (by omega);by_cases hd:okN d
     ·rw [decide_eq_true hd] at cd1;have cd2:=fn_sNatRead d (by omega) hd.dig;have hbd:=hd.bl;have hld:((cW .i64 (dg B9 (dv d))).length:Int)=(dg B9 (dv d)).length:=by rw [cW_len]
      have hzd:=dg_len_zero b9 (n:=dv d);conv=>whnf
      refine ⟨⟨⟨by omega,by omega⟩,cT_sz _⟩,?_⟩;conv=>whnf
      refine ⟨[.s (.string ⟨d.toArray⟩)],rfl,?_⟩;conv=>whnf
      refine VCall.of_data cd1 (nd _) ?_;conv=>whnf
      refine ⟨⟨⟨by omega,by omega⟩,cT_sz _⟩,?_⟩;conv=>whnf
      refine ⟨[.s (.string ⟨d.toArray⟩)],rfl,?_⟩;conv=>whnf
      refine VCall.of_data cd2 (nd _) ?_;conv=>whnf
      refine Br.mk (fun h=>?_) (fun h=>?_)
      ·have h0:dv d=0:=by simp only [decide_eq_true_eq] at h;exact hzd.1 (by omega)
       rw [show parseS true [d,g]=none by first | (show one2 _ _=_;rw [one2,if_pos (.inr ⟨rfl,h0⟩)]) | (show two2 _ _ _=_;rw [two2,if_pos (.inr ⟨rfl,h0⟩)])];conv=>whnf
       exact ⟨rfl,rfl,trivial,rfl⟩
      ·have h0:dv d≠0:=fun e=>by simp only [decide_eq_false_iff_not] at h;have:=hzd.2 e;omega
       have hs0:dv d=0→true=false:=fun e=>absurd e h0;have hno:¬(¬okN d∨true=true∧dv d=0):=by rintro (h | ⟨_,h⟩);exact h hd;exact h0 h
       have hgl:=hsum g (by simp);have cg1:=fn_sDigits g (by omega);conv=>whnf
       refine ⟨⟨⟨by omega,by omega⟩,cT_sz _⟩,?_⟩;conv=>whnf
       refine ⟨[.s (.string ⟨g.toArray⟩)],rfl,?_⟩;by_cases hg:okN g
       ·have hbg:=hg.bl;rw [decide_eq_true hg] at cg1;have cg2:=fn_sNatRead g (by omega) hg.dig;have cc:=fn_sCmp (dv g) 1 (by omega) (by decide);conv=>whnf
        refine VCall.of_data cg1 (nd _) ?_;conv=>whnf
        refine ⟨⟨⟨by omega,by omega⟩,cT_sz _⟩,?_⟩;conv=>whnf
        refine ⟨[.s (.string ⟨g.toArray⟩)],rfl,?_⟩;conv=>whnf
        refine VCall.of_data cg2 (nd _) ?_;conv=>whnf
        refine VCall.frz 61 cc rfl ⟨rfl,⟨rfl,rfl,Nat.le_refl _,rfl⟩,trivial⟩ (nd _) ?_;conv=>whnf
        refine Br.mk (fun h7=>?_) (fun h7=>?_)
        ·have h7:dv g≤1:=by
          simp only [decide_eq_true_eq] at h7;have:=cmpZ_pos' (a:=dv g) (b:=1);omega
         rw [show parseS true [d,g]=none by show two2 _ _ _=_;rw [two2,if_neg hno,if_pos (.inr (.inl h7))]];conv=>whnf
         exact ⟨rfl,rfl,trivial,rfl⟩
        ·have h7:¬dv g≤1:=by
          simp only [decide_eq_false_iff_not] at h7;have:=cmpZ_pos' (a:=dv g) (b:=1);omega
         have cgc:=fn_sGcd (dv d) (dv g) (by omega) (by omega);have hbgc:bl ((dv d).gcd (dv g))≤800:=Nat.le_trans (bl_mono (Nat.gcd_le_right _ (by omega))) hbg;have cc2:=fn_sCmp ((dv d).gcd (dv g)) 1 (by omega) (by decide);conv=>whnf
         refine VCall.of_data cgc (nd _) ?_;conv=>whnf
         refine VCall.frz 68 cc2 rfl ⟨rfl,⟨rfl,rfl,Nat.le_refl _,rfl⟩,trivial⟩ (nd _) ?_;conv=>whnf
         refine Br.mk (fun h8=>?_) (fun h8=>?_)
         ·have h8:(dv d).gcd (dv g)≠1:=fun e=>by rw [cmpZ_zero.2 e] at h8;exact absurd h8 (by decide)
          rw [show parseS true [d,g]=none by show two2 _ _ _=_;rw [two2,if_neg hno,if_pos (.inr (.inr h8))]];conv=>whnf
          exact ⟨rfl,rfl,trivial,rfl⟩
         ·have h8:(dv d).gcd (dv g)=1:=cmpZ_zero.1 (by simpa using h8);obtain ⟨p1,p2,p3⟩:=parts_of (s:=true) (t:=dv d) (b:=dv g) (by omega) h8 hs0;rw [show parseS true [d,g]=some (mkRat (sgn true (dv d)) (dv g)) by
           show two2 _ _ _=_;rw [two2,if_neg hno,if_neg (by rintro (h9 | h9 | h9);exact h9 hg;exact h7 h9;exact h9 h8)]]
          rw [show rOS (some (mkRat (sgn true (dv d)) (dv g))) = .ag [B true,nS (dv d),nS (dv g)] by rw [rOS,rS,p1,p2,p3]];conv=>whnf
          exact ⟨rfl,rfl,rfl,rfl,trivial,rfl⟩
       ·rw [decide_eq_false hg] at cg1;rw [show parseS true [d,g]=none by show two2 _ _ _=_;rw [two2,if_neg hno,if_pos (.inl hg)]];conv=>whnf
        refine VCall.of_data cg1 (nd _) ?_;conv=>whnf
        exact ⟨rfl,rfl,trivial,rfl⟩
     ·rw [decide_eq_false hd] at cd1;rw [show parseS true [d,g]=none by show two2 _ _ _=_;rw [two2,if_pos (.inl hd)]];conv=>whnf
      refine ⟨⟨⟨by omega,by omega⟩,cT_sz _⟩,?_⟩;conv=>whnf
      refine ⟨[.s (.string ⟨d.toArray⟩)],rfl,?_⟩;conv=>whnf
      refine VCall.of_data cd1 (nd _) ?_;conv=>whnf
      exact ⟨rfl,rfl,trivial,rfl⟩
    ·have hln:((cT (d :: g :: e :: q)).length:Int)=q.length+3:=by rw [cT_len,List.length_cons,List.length_cons,List.length_cons];omega
     rw [show parseS true (d :: g :: e :: q)=none from rfl];conv=>whnf
     refine Br.mk (fun h9=>?_) (fun h9=>?_)
     ·conv=>whnf
      exact ⟨rfl,rfl,trivial,rfl⟩
     ·simp only [decide_eq_false_iff_not] at h9;omega
   ·have hB:=h2;have h2:b≠45:=fun e=>by
     have h3:¬((b.toNat:Nat):Int)=45:=by simp only [decide_eq_false_iff_not] at h2;exact h2
     rw [e] at h3;exact h3 rfl
    rw [show Lib.trimPrefix (b :: r) [45]=b :: r by unfold Lib.trimPrefix;rw [pre_cons,decide_eq_false h2];rfl,pre_cons,decide_eq_false h2];have hl':(b :: r).length≤1000000000:=hs;conv=>whnf
    rw [hB];have csp:=fn_sCut (b :: r) 47 hl';have hsum:=splitB_sum 47 (b :: r);have hne:=splitB_ne 47 (b :: r);refine VCall.of_data csp (nd _) ?_;generalize splitB 47 (b :: r)=ps at hsum hne;rcases ps with _ | ⟨d,_ | ⟨g,_ | ⟨e,q⟩⟩⟩
    ·exact absurd rfl hne
    ·have hdl:=hsum d (by simp);have hln:((cT [d]).length:Int)=1:=rfl;have cd1:=fn_sDigits d (by omega);by_cases hd:okN d
     ·rw [decide_eq_true hd] at cd1;have cd2:=fn_sNatRead d (by omega) hd.dig;have hbd:=hd.bl;have hld:((cW .i64 (dg B9 (dv d))).length:Int)=(dg B9 (dv d)).length:=by rw [cW_len]
      have hzd:=dg_len_zero b9 (n:=dv d);conv=>whnf
      refine ⟨⟨⟨by omega,by omega⟩,cT_sz _⟩,?_⟩;conv=>whnf
      refine ⟨[.s (.string ⟨d.toArray⟩)],rfl,?_⟩;conv=>whnf
      refine VCall.of_data cd1 (nd _) ?_;conv=>whnf
      refine ⟨⟨⟨by omega,by omega⟩,cT_sz _⟩,?_⟩;conv=>whnf
      refine ⟨[.s (.string ⟨d.toArray⟩)],rfl,?_⟩;conv=>whnf
      refine VCall.of_data cd2 (nd _) ?_;conv=>whnf
      have hs0:dv d=0→false=false:=fun _=>rfl;have hno:¬(¬okN d∨false=true∧dv d=0):=by rintro (h | ⟨h,_⟩);exact h hd;cases h
      obtain ⟨p1,p2,p3⟩:=parts_of (s:=false) (t:=dv d) (b:=1) (by decide) (Nat.gcd_one_right _) hs0;rw [show parseS false [d]=some (mkRat (sgn false (dv d)) 1) by show one2 _ _=_;rw [one2,if_neg hno]];rw [show rOS (some (mkRat (sgn false (dv d)) 1)) = .ag [B false,nS (dv d),nS 1] by rw [rOS,rS,p1,p2,p3]];conv=>whnf
      exact ⟨rfl,rfl,⟨rfl,Nat.le_refl _,rfl⟩,rfl,trivial,rfl⟩
     ·rw [decide_eq_false hd] at cd1;rw [show parseS false [d]=none by show one2 _ _=_;rw [one2,if_pos (.inl hd)]];conv=>whnf
      refine ⟨⟨⟨by omega,by omega⟩,cT_sz _⟩,?_⟩;conv=>whnf
      refine ⟨[.s (.string ⟨d.toArray⟩)],rfl,?_⟩;conv=>whnf
      refine VCall.of_data cd1 (nd _) ?_;conv=>whnf
      exact ⟨rfl,rfl,trivial,rfl⟩
    ·have hdl:=hsum d (by simp);have hln:((cT [d,g]).length:Int)=2:=rfl;have cd1:=fn_sDigits d (by omega);by_cases hd:okN d
     ·rw [decide_eq_true hd] at cd1;have cd2:=fn_sNatRead d (by omega) hd.dig;have hbd:=hd.bl;have hld:((cW .i64 (dg B9 (dv d))).length:Int)=(dg B9 (dv d)).length:=by rw [cW_len]
      have hzd:=dg_len_zero b9 (n:=dv d);conv=>whnf
      refine ⟨⟨⟨by omega,by omega⟩,cT_sz _⟩,?_⟩;conv=>whnf
      refine ⟨[.s (.string ⟨d.toArray⟩)],rfl,?_⟩;conv=>whnf
      refine VCall.of_data cd1 (nd _) ?_;conv=>whnf
      refine ⟨⟨⟨by omega,by omega⟩,cT_sz _⟩,?_⟩;conv=>whnf
      refine ⟨[.s (.string ⟨d.toArray⟩)],rfl,?_⟩;conv=>whnf
      refine VCall.of_data cd2 (nd _) ?_;conv=>whnf
      have hs0:dv d=0→false=false:=fun _=>rfl;have hno:¬(¬okN d∨false=true∧dv d=0):=by rintro (h | ⟨h,_⟩);exact h hd;cases h
      have hgl:=hsum g (by simp);have cg1:=fn_sDigits g (by omega);conv=>whnf
      refine ⟨⟨⟨by omega,by omega⟩,cT_sz _⟩,?_⟩;conv=>whnf
      refine ⟨[.s (.string ⟨g.toArray⟩)],rfl,?_⟩;by_cases hg:okN g
      ·have hbg:=hg.bl;rw [decide_eq_true hg] at cg1;have cg2:=fn_sNatRead g (by omega) hg.dig;have cc:=fn_sCmp (dv g) 1 (by omega) (by decide);conv=>whnf
       refine VCall.of_data cg1 (nd _) ?_;conv=>whnf
       refine ⟨⟨⟨by omega,by omega⟩,cT_sz _⟩,?_⟩;conv=>whnf
       refine ⟨[.s (.string ⟨g.toArray⟩)],rfl,?_⟩;conv=>whnf
       refine VCall.of_data cg2 (nd _) ?_;conv=>whnf
       refine VCall.frz 61 cc rfl ⟨rfl,⟨rfl,rfl,Nat.le_refl _,rfl⟩,trivial⟩ (nd _) ?_;conv=>whnf
       refine Br.mk (fun h7=>?_) (fun h7=>?_)
       ·have h7:dv g≤1:=by
         simp only [decide_eq_true_eq] at h7;have:=cmpZ_pos' (a:=dv g) (b:=1);omega
        rw [show parseS false [d,g]=none by show two2 _ _ _=_;rw [two2,if_neg hno,if_pos (.inr (.inl h7))]];conv=>whnf
        exact ⟨rfl,rfl,trivial,rfl⟩
       ·have h7:¬dv g≤1:=by
         simp only [decide_eq_false_iff_not] at h7;have:=cmpZ_pos' (a:=dv g) (b:=1);omega
        have cgc:=fn_sGcd (dv d) (dv g) (by omega) (by omega);have hbgc:bl ((dv d).gcd (dv g))≤800:=Nat.le_trans (bl_mono (Nat.gcd_le_right _ (by omega))) hbg;have cc2:=fn_sCmp ((dv d).gcd (dv g)) 1 (by omega) (by decide);conv=>whnf
        refine VCall.of_data cgc (nd _) ?_;conv=>whnf
        refine VCall.frz 68 cc2 rfl ⟨rfl,⟨rfl,rfl,Nat.le_refl _,rfl⟩,trivial⟩ (nd _) ?_;conv=>whnf
        refine Br.mk (fun h8=>?_) (fun h8=>?_)
        ·have h8:(dv d).gcd (dv g)≠1:=fun e=>by rw [cmpZ_zero.2 e] at h8;exact absurd h8 (by decide)
         rw [show parseS false [d,g]=none by show two2 _ _ _=_;rw [two2,if_neg hno,if_pos (.inr (.inr h8))]];conv=>whnf
         exact ⟨rfl,rfl,trivial,rfl⟩
        ·have h8:(dv d).gcd (dv g)=1:=cmpZ_zero.1 (by simpa using h8);obtain ⟨p1,p2,p3⟩:=parts_of (s:=false) (t:=dv d) (b:=dv g) (by omega) h8 hs0;rw [show parseS false [d,g]=some (mkRat (sgn false (dv d)) (dv g)) by
          show two2 _ _ _=_;rw [two2,if_neg hno,if_neg (by rintro (h9 | h9 | h9);exact h9 hg;exact h7 h9;exact h9 h8)]]
         rw [show rOS (some (mkRat (sgn false (dv d)) (dv g))) = .ag [B false,nS (dv d),nS (dv g)] by rw [rOS,rS,p1,p2,p3]];conv=>whnf
         exact ⟨rfl,rfl,rfl,rfl,trivial,rfl⟩
      ·rw [decide_eq_false hg] at cg1;rw [show parseS false [d,g]=none by show two2 _ _ _=_;rw [two2,if_neg hno,if_pos (.inl hg)]];conv=>whnf
       refine VCall.of_data cg1 (nd _) ?_;conv=>whnf
       exact ⟨rfl,rfl,trivial,rfl⟩
     ·rw [decide_eq_false hd] at cd1;rw [show parseS false [d,g]=none by show two2 _ _ _=_;rw [two2,if_pos (.inl hd)]];conv=>whnf
      refine ⟨⟨⟨by omega,by omega⟩,cT_sz _⟩,?_⟩;conv=>whnf
      refine ⟨[.s (.string ⟨d.toArray⟩)],rfl,?_⟩;conv=>whnf
      refine VCall.of_data cd1 (nd _) ?_;conv=>whnf
      exact ⟨rfl,rfl,trivial,rfl⟩
    ·have hln:((cT (d :: g :: e :: q)).length:Int)=q.length+3:=by rw [cT_len,List.length_cons,List.length_cons,List.length_cons];omega
     rw [show parseS false (d :: g :: e :: q)=none from rfl];conv=>whnf
     refine Br.mk (fun h9=>?_) (fun h9=>?_)
     ·conv=>whnf
      exact ⟨rfl,rfl,trivial,rfl⟩
     ·simp only [decide_eq_false_iff_not] at h9;omega
  ·rw [hbz] at h;simp only [decide_eq_false_iff_not] at h;omega
end Go.V
namespace Go.V
open Go.Proofs Go.RowKit
set_option maxRecDepth 10000
set_option maxHeartbeats 1000000
theorem fn_sList (xs:List (List UInt8)) (hl:xs.length≤1000000000000) (hs:∀x,x∈xs→x.length≤1000000000):Fn Tryz.prog 168 [lT xs] [] (.tup [lS ((rdRats xs).getD []),B (rdRats xs).isSome]) []:=by
 have hl2:((cT xs).length:Int)=xs.length:=by rw [cT_len]
 refine Fn.intro (ks:=[0,2,3,4,5,6,7,10,13,14,15,26]) hty rfl rfl rfl rfl rfl ?_;conv=>whnf
 refine Br.mk (fun h=>?_) (fun h=>?_)
 ·have h:300 < xs.length:=by simp only [decide_eq_true_eq] at h;omega
  rw [rdRats,if_pos h];conv=>whnf
  exact ⟨rfl,trivial,rfl⟩
 ·have h:¬300 < xs.length:=by simp only [decide_eq_false_iff_not] at h;omega
  rw [rdRats,if_neg h];conv=>whnf
  refine VLoop.ren 11 30 rfl ?_;refine VLoop.inv hty (S:=List Rat) (fun s=>[(14,I s.length),(13,I xs.length),(4,.ls 30 0 s.length 3),(0,lT xs)]) (fun s=>[(30,.row true 3 (cS s))]) (fun s=>s.length≤xs.length∧allO rdRat (xs.take s.length)=some s) (fun s=>xs.length - s.length) [] ⟨Nat.zero_le _,rfl⟩
   ⟨rfl,by show AV.d (.s (.int .i64 ((cT xs).length:Int)))=_;rw [cT_len],rfl,rfl,trivial⟩ ⟨rfl,trivial⟩ ?_
  rintro s ⟨hi,hq⟩;obtain ⟨i,ei⟩:∃i,s.length=i:=⟨_,rfl⟩;rw [ei] at hi hq;rw [ei];conv=>whnf
  refine Br.mk (fun h2=>?_) (fun h2=>?_)
  ·have h2:i < xs.length:=by simp only [decide_eq_true_eq] at h2;omega
   obtain ⟨x,ex⟩:∃x,xs.getD i []=x:=⟨_,rfl⟩;have hxm:x∈xs:=by rw [←ex,gD,List.getElem?_eq_getElem h2];exact List.getElem_mem h2
   have et:xs.take (i+1)=xs.take i++[x]:=by rw [List.take_succ_eq_append_getElem h2];subst ex;rw [gD,List.getElem?_eq_getElem h2];rfl
   have cr:=fn_sParse x (hs x hxm);conv=>whnf
   refine ⟨⟨⟨by omega,by omega⟩,cT_sz _⟩,?_⟩;conv=>whnf
   refine ⟨_,cT_as (x:=x) h2 ex,?_⟩;cases hr:rdRat x with
   | none =>
    rw [hr] at cr;rw [allO_none hxm hr];conv=>whnf
    refine VCall.of_data cr (ndT (fun k=>rfl)) ?_;conv=>whnf
    exact ⟨rfl,trivial,rfl⟩
   | some q =>
    rw [hr] at cr;conv=>whnf
    refine VCall.of_data cr (ndT (fun k=>rfl)) ?_;conv=>whnf
    refine Sub.full rfl ?_;conv=>whnf
    refine Sub.full (by rw [cS_len];exact ei) ?_;conv=>whnf
    refine ⟨by show (i+1)*56≤_;omega,?_⟩;conv=>whnf
    refine Wr.i64 (y:=((i+1:Nat):Int)) rfl (by omega) (by omega) ?_;conv=>whnf
    refine ⟨s++[q],⟨by rw [List.length_append,List.length_singleton];omega,?_⟩,by show xs.length - (s++[q]).length < xs.length - i;rw [List.length_append,List.length_singleton];omega,⟨?_,rfl,?_,rfl,trivial⟩,?_,trivial⟩
    ·rw [List.length_append,List.length_singleton,ei,et];exact allO_snoc hq hr
    ·show AV.d (.s (.int .i64 ((i+1:Nat):Int)))=I ((s++[q]).length:Nat);rw [List.length_append,List.length_singleton,ei]
    ·show AV.ls 30 0 (i+1) 3=AV.ls 30 0 (s++[q]).length 3;rw [List.length_append,List.length_singleton,ei]
    ·show Ob.row true 3 (cS s++cS [q])=_;rw [cS_append]
  ·have h2:i=xs.length:=by simp only [decide_eq_false_iff_not] at h2;omega
   rw [h2,List.take_length] at hq;rw [hq];conv=>whnf
   refine ⟨⟨rfl,by rw [cS_len];omega,?_⟩,rfl,trivial,rfl⟩;rw [List.drop_zero,List.take_of_length_le (by rw [cS_len];omega)];rfl
end Go.V
namespace Go.V
open Go.Proofs Go.RowKit
set_option maxRecDepth 10000
set_option maxHeartbeats 1000000
end Go.V
namespace Go.V
open Go.Proofs Go.RowKit
set_option maxRecDepth 10000
set_option maxHeartbeats 1000000
def room (n:Nat):Nat:=if n % 6=5 then 0 else if n % 3=0 then 1 else n
theorem fn_room (n:Nat) (hn:n≤1000000):Fn Tryz.prog 65 [I n] [] (I (room n)) []:=by
 refine Fn.intro (ks:=[0,2,5,8]) hty rfl rfl rfl rfl rfl ?_;conv=>whnf
 refine ⟨by omega,?_⟩;conv=>whnf
 refine Br.mk (fun h=>?_) (fun h=>?_)
 ·have h:(n:Int).tmod 6=5:=by simpa using h
  conv=>whnf
  refine ⟨?_,trivial,rfl⟩;have:n % 6=5:=by rw [Int.tmod_eq_emod_of_nonneg (by omega)] at h;omega
  simp [room,this]
 ·have h:¬(n:Int).tmod 6=5:=by simpa using h
  have h':¬n % 6=5:=by rw [Int.tmod_eq_emod_of_nonneg (by omega)] at h;omega
  conv=>whnf
  refine ⟨by omega,?_⟩;conv=>whnf
  refine Br.mk (fun h2=>?_) (fun h2=>?_)
  ·have h2:(n:Int).tmod 3=0:=by simpa using h2
   conv=>whnf
   refine ⟨?_,trivial,rfl⟩;have:n % 3=0:=by rw [Int.tmod_eq_emod_of_nonneg (by omega)] at h2;omega
   simp [room,this,h']
  ·have h2:¬(n:Int).tmod 3=0:=by simpa using h2
   conv=>whnf
   refine ⟨?_,trivial,rfl⟩;have:¬n % 3=0:=by rw [Int.tmod_eq_emod_of_nonneg (by omega)] at h2;omega
   simp [room,this,h']
theorem room_le (n:Nat):room n≤n+1:=by unfold room;split;omega;split <;> omega
theorem cI_set (xs:List Int) (k:Nat) (x:Int):(cI xs).set k [.s (.int .i64 x)]=cI (xs.set k x):=by
 unfold cI;rw [List.map_set]
theorem fn_eqI (xs ys:List Int) (hl:xs.length≤3000000) (hl':ys.length≤3000000) :
  Fn Tryz.prog 50 [.d (.sl (cI xs)),.d (.sl (cI ys))] [] (B (decide (xs=ys))) []:=by
 refine Fn.intro (ks:=[0,1,4,5,10,14,25]) hty rfl rfl rfl rfl rfl ?_;conv=>whnf
 rw [cI_len,cI_len];refine Br.mk (fun h=>?_) (fun h=>?_)
 ·have h:¬xs.length=ys.length:=by simp at h;omega
  conv=>whnf
  refine ⟨?_,trivial,rfl⟩;rw [decide_eq_false fun e=>h (by rw [e])]
 ·have hxy:xs.length=ys.length:=by simp at h;omega
  conv=>whnf
  refine VLoop.inv hty (S:=Nat) (fun k=>[(5,I k),(1,.d (.sl (cI ys))),(0,.d (.sl (cI xs)))]) (fun _=>[]) (fun k=>k≤xs.length∧xs.take k=ys.take k) (fun k=>xs.length - k) 0 ⟨Nat.zero_le _,rfl⟩
   ⟨rfl,rfl,rfl,trivial⟩ trivial ?_
  rintro k ⟨hk,hp⟩;conv=>whnf
  rw [cI_len];refine Br.mk (fun h=>?_) (fun h=>?_)
  ·have hk':k < xs.length:=by simp at h;omega
   conv=>whnf
   refine VDraw.go hmo hty 9 [] rfl ?_;conv=>whnf
   refine ⟨⟨⟨by omega,by rw [cI_len];omega⟩,cI_sz xs⟩,?_⟩;conv=>whnf
   refine ⟨[.s (.int .i64 xs[k])],by simp [cI,hk'],?_⟩;conv=>whnf
   refine ⟨⟨⟨by omega,by rw [cI_len];omega⟩,cI_sz ys⟩,?_⟩;conv=>whnf
   refine ⟨[.s (.int .i64 ys[k])],by simp [cI,←hxy,hk'],?_⟩;conv=>whnf
   refine Br.mk (fun h2=>?_) (fun h2=>?_)
   ·have h2:¬xs[k]=ys[k]:=by simpa using h2
    conv=>whnf
    refine ⟨?_,trivial,rfl⟩;rw [decide_eq_false fun e=>h2 (by subst e;rfl)]
   ·have h2:xs[k]=ys[k]:=by simpa using h2
    conv=>whnf
    refine Wr.fit (wrap_i64 (by omega) (by omega)) ?_;conv=>whnf
    refine ⟨k+1,⟨hk',?_⟩,by omega,⟨rfl,rfl,rfl,trivial⟩,trivial⟩;rw [List.take_succ_eq_append_getElem hk',List.take_succ_eq_append_getElem (by omega),hp,h2]
  ·have hk':k=xs.length:=by simp at h;omega
   conv=>whnf
   refine ⟨?_,trivial,rfl⟩;subst hk';rw [List.take_length,List.take_of_length_le (by omega)] at hp;rw [decide_eq_true hp]
def marks (k n:Nat):List Int:=(List.range n).map fun i=>((k+i:Nat):Int)
theorem marks_len (k n:Nat):(marks k n).length=n:=by simp [marks]
theorem fn_markI (zs:List Int) (n k0:Nat) (hn:n≤zs.length) (hl:n≤1000000) (hk0:k0≤2000000000) :
  Fn Tryz.prog 51 [.ls 1000000 0 n 1,I k0] [(1000000,.row true 1 (cI zs))] (I ((k0+n:Nat):Int)) [(1000000,.row true 1 (cI (marks k0 n++zs.drop n)))]:=by
 have k1:(marks k0 n++zs.drop n).length=zs.length:=by simp [marks_len];omega
 refine Fn.intro (ks:=[0,1,4,5,9]) hty rfl rfl rfl rfl rfl ?_;conv=>whnf
 refine VLoop.inv hty (S:=Nat) (fun k=>[(5,I k),(1,I ((k0+k:Nat):Int)),(0,.ls 1000000 0 n 1)]) (fun k=>[(1000000,.row true 1 (cI (fillL (marks k0 n++zs.drop n) zs k)))]) (fun k=>k≤n) (fun k=>n - k) 0 (Nat.zero_le _)
  ⟨rfl,rfl,rfl,trivial⟩ ⟨by rw [fill_zero];rfl,trivial⟩ ?_
 intro k hk;conv=>whnf
 refine Br.mk (fun h=>?_) (fun h=>?_)
 ·have hk':k < n:=by simp at h;omega
  conv=>whnf
  refine ⟨by omega,?_⟩;conv=>whnf
  refine ⟨[.s (.int .i64 (fillL (marks k0 n++zs.drop n) zs k)[k]!)],by
   have:k < (fillL (marks k0 n++zs.drop n) zs k).length:=by rw [fill_len k1];omega
   simp [cI,this],?_⟩
  conv=>whnf
  refine Wr.fit (wrap_i64 (by omega) (by omega)) ?_;conv=>whnf
  refine Wr.fit (wrap_i64 (by omega) (by omega)) ?_;conv=>whnf
  refine ⟨k+1,hk',by omega,⟨rfl,by congr 1,rfl,trivial⟩,?_,trivial⟩;show Ob.row true 1 ((cI _).set k [.s (.int .i64 _)])=_;rw [cI_set,←fill_set k1 (by omega)]
  congr 3
  rw [List.getElem_append_left (by rw [marks_len];exact hk')];simp [marks]
 ·have hk':k=n:=by simp at h;omega
  subst hk';conv=>whnf
  refine ⟨rfl,⟨?_,trivial⟩,rfl⟩;have:fillL (marks k0 k++zs.drop k) zs k=marks k0 k++zs.drop k:=by
   unfold fillL;rw [List.take_append_of_le_length (by simp [marks_len]),List.take_of_length_le (by simp [marks_len])]
  rw [this];rfl
theorem fn_heldI (n k0:Nat) (hl:n≤1000000) (hk0:k0≤2000000000) :
  Fn Tryz.prog 52 [.d (.sl (cI (marks k0 n))),I k0] [] (I ((k0+n:Nat):Int)) []:=by
 refine Fn.intro (ks:=[0,1,4,5,9,17]) hty rfl rfl rfl rfl rfl ?_;conv=>whnf
 refine VLoop.inv hty (S:=Nat) (fun k=>[(5,I k),(1,I ((k0+k:Nat):Int)),(0,.d (.sl (cI (marks k0 n))))]) (fun _=>[]) (fun k=>k≤n) (fun k=>n - k) 0 (Nat.zero_le _)
  ⟨rfl,rfl,rfl,trivial⟩ trivial ?_
 intro k hk;conv=>whnf
 rw [cI_len,marks_len];refine Br.mk (fun h=>?_) (fun h=>?_)
 ·have hk':k < n:=by simp at h;omega
  conv=>whnf
  refine ⟨⟨⟨by omega,by rw [cI_len,marks_len];omega⟩,cI_sz _⟩,?_⟩;conv=>whnf
  refine ⟨[.s (.int .i64 ((k0+k:Nat):Int))],by simp [cI,marks,hk'],?_⟩;conv=>whnf
  rw [decide_eq_true rfl];conv=>whnf
  refine Wr.fit (wrap_i64 (by omega) (by omega)) ?_;conv=>whnf
  refine Wr.fit (wrap_i64 (by omega) (by omega)) ?_;conv=>whnf
  exact ⟨k+1,hk',by omega,⟨rfl,by congr 1,rfl,trivial⟩,trivial⟩
 ·have hk':k=n:=by simp at h;omega
  subst hk';conv=>whnf
  exact ⟨rfl,trivial,rfl⟩
theorem cI_flat (xs:List Int):∀q,q∈cI xs→∀c,c∈q→flatC c=true:=by
 intro q hq c hc
 obtain ⟨n,_,rfl⟩:=List.mem_map.1 hq
 simp at hc;subst hc;rfl
theorem fn_markI0 (k0:Int):Fn Tryz.prog 51 [.d (.sl []),I k0] [] (I k0) []:=by
 refine Fn.intro (ks:=[0,1,4,5,9]) hty rfl rfl rfl rfl rfl ?_
 conv=>whnf
 refine VLoop.inv hty (S:=Nat) (fun _=>[(5,I 0),(1,I k0),(0,.d (.sl []))]) (fun _=>[]) (fun _=>True) (fun _=>0) 0 trivial ⟨rfl,rfl,rfl,trivial⟩ trivial ?_
 intro k _
 conv=>whnf
 exact ⟨rfl,trivial,rfl⟩
theorem fn_eqT (xs:List Int) (hl:xs.length≤3000000):Fn Tryz.prog 50 [.d (.sl (cI xs)),.d (.sl (cI xs))] [] (B true) []:=by
 have:=fn_eqI xs xs hl hl
 rwa [decide_eq_true rfl] at this
theorem lend_whole {id:Nat} {l:LL} {xs ys:List Int} (h:lget id l = .row true 1 (cI (xs++ys))):lend1 l (.ls id 0 xs.length 1) (.d (.sl (cI xs))):=by
 unfold lend1
 simp only [h]
 exact ⟨trivial,by simp [cI],by simp [cI]⟩
theorem lend_all {id:Nat} {l:LL} {xs:List Int} (h:lget id l = .row true 1 (cI xs)):lend1 l (.ls id 0 xs.length 1) (.d (.sl (cI xs))):=by
 have:xs=xs++[]:=by simp
 rw [this] at h;exact lend_whole h
end Go.V
namespace Go.V
open Go.Proofs Go.RowKit
set_option maxRecDepth 10000
set_option maxHeartbeats 1000000
abbrev spT:List UInt8:=[126,115,112,97,114,101,126]
def withRoomT (xs:List (List UInt8)):List (List UInt8):=xs++List.replicate (room xs.length) spT
theorem cT_set (xs:List (List UInt8)) (k:Nat) (x:List UInt8):(cT xs).set k [.s (.string ⟨x.toArray⟩)]=cT (xs.set k x):=by
 unfold cT;rw [List.map_set]
theorem fn_toT (xs:List (List UInt8)) (b:Bool) (hb:b=false∨xs≠[]) (hl:xs.length≤1000000) :
  Fn Tryz.prog 172 [.d (.sl (cT xs)),B b] [] (.ls 0 0 xs.length 1) [(0,.row true 1 (cT (withRoomT xs)))]:=by
 have hr:=room_le xs.length;generalize hm:room xs.length=m at hr;have hwl:withRoomT xs=xs++List.replicate m spT:=by rw [withRoomT,hm]
 have k1:(xs++List.replicate m []).length=(List.replicate (xs.length+m) ([]:List UInt8)).length:=by simp
 have k2:(xs++List.replicate m spT).length=(xs++List.replicate m []).length:=by simp
 have k3:(xs++List.replicate m spT).length=xs.length+m:=by simp
 have c1:=fn_room xs.length hl;rw [hm] at c1;refine Fn.intro (ks:=[0,1,4,5,6,7,13,24,39]) hty rfl rfl rfl rfl rfl ?_;cases b
 case' true =>
  conv=>whnf
  refine Br.mk (fun h=>absurd h ?_) (fun _=>?_)
  ·have hne:xs≠[]:=by rcases hb with hb | hb;cases hb;exact hb
   have:=List.length_pos_iff.2 hne;rw [cT_len];simp;exact hne
 all_goals
  clear hb;conv=>whnf
  rw [cT_len];refine VCall.of_data c1 (nd _) ?_;conv=>whnf
  refine Wr.fit (wrap_i64 (by omega) (by omega)) ?_;conv=>whnf
  refine ⟨⟨by omega,by omega,by show ((xs.length:Int)+m)*((16:Nat):Int)≤_;omega,by omega⟩,?_⟩;conv=>whnf
  refine VLoop.inv hty (S:=Nat) (fun k=>[(6,I k),(5,.ls 20 0 (xs.length+m) 1),(0,.d (.sl (cT xs)))])
   (fun k=>[(20,.row true 1 (cT (fillL (xs++List.replicate m []) (List.replicate (xs.length+m) []) k)))]) (fun k=>k≤xs.length) (fun k=>xs.length - k) 0 (Nat.zero_le _)
   ⟨rfl,by show AV.ls _ _ _ _=_;congr 1,rfl,trivial⟩ ⟨by show Ob.row true 1 (List.replicate ((xs.length:Int)+m).toNat [.s (.string ByteArray.empty)])=_;rw [fill_zero,show ((xs.length:Int)+m).toNat=xs.length+m by omega];simp only [cT,List.map_replicate];rfl,trivial⟩ ?_
  intro k hk;conv=>whnf
  rw [cT_len];refine Br.mk (fun h=>?_) (fun h=>?_)
  ·have hk':k < xs.length:=by simp at h;omega
   conv=>whnf
   refine ⟨⟨⟨by omega,by rw [cT_len];omega⟩,cT_sz xs⟩,?_⟩;conv=>whnf
   refine ⟨[.s (.string ⟨(xs[k]).toArray⟩)],by simp [cT,hk'],?_⟩;conv=>whnf
   refine ⟨by omega,?_⟩;conv=>whnf
   refine ⟨[.s (.string ⟨((fillL (xs++List.replicate m []) (List.replicate (xs.length+m) []) k)[k]!).toArray⟩)],by
    have:k < (fillL (xs++List.replicate m []) (List.replicate (xs.length+m) []) k).length:=by rw [fill_len k1];simp;omega
    simp [cT,this],?_⟩
   conv=>whnf
   refine Wr.fit (wrap_i64 (by omega) (by omega)) ?_;conv=>whnf
   refine ⟨k+1,hk',by omega,⟨rfl,rfl,rfl,trivial⟩,?_,trivial⟩;show Ob.row true 1 ((cT _).set k [.s (.string ⟨(xs[k]).toArray⟩)])=_;rw [cT_set,←fill_set k1 (by simp;omega)]
   congr 3
   rw [List.getElem_append_left hk']
  ·have hk':k=xs.length:=by simp at h;omega
   subst hk';conv=>whnf
   rw [cT_len];have e0:fillL (xs++List.replicate m []) (List.replicate (xs.length+m) []) xs.length=fillL (xs++List.replicate m spT) (xs++List.replicate m []) xs.length:=by
    simp [fillL]
   rw [e0];refine VLoop.inv hty (S:=Nat) (fun k=>[(7,I k),(5,.ls 20 0 (xs.length+m) 1),(0,.d (.sl (cT xs)))])
    (fun k=>[(20,.row true 1 (cT (fillL (xs++List.replicate m spT) (xs++List.replicate m []) k)))]) (fun k=>xs.length≤k∧k≤xs.length+m) (fun k=>xs.length+m - k) xs.length ⟨Nat.le_refl _,by omega⟩
    ⟨rfl,rfl,rfl,trivial⟩ ⟨rfl,trivial⟩ ?_
   rintro k ⟨hk1,hk2⟩;conv=>whnf
   refine Br.mk (fun h=>?_) (fun h=>?_)
   ·have hk':k < xs.length+m:=by simp at h;omega
    conv=>whnf
    refine ⟨by omega,?_⟩;conv=>whnf
    refine ⟨[.s (.string ⟨((fillL (xs++List.replicate m spT) (xs++List.replicate m []) k)[k]!).toArray⟩)],by
     have:k < (fillL (xs++List.replicate m spT) (xs++List.replicate m []) k).length:=by rw [fill_len k2];simp;omega
     simp [cT,this],?_⟩
    conv=>whnf
    refine Wr.fit (wrap_i64 (by omega) (by omega)) ?_;conv=>whnf
    refine ⟨k+1,⟨by omega,by omega⟩,by omega,⟨rfl,rfl,rfl,trivial⟩,?_,trivial⟩;show Ob.row true 1 ((cT _).set k [.s (.string ⟨spT.toArray⟩)])=_;rw [cT_set,←fill_set k2 (by simp;omega)]
    congr 3
    rw [List.getElem_append_right (by omega)];simp
   ·have hk':k=xs.length+m:=by simp at h;omega
    subst hk';conv=>whnf
    rw [cT_len,fill_end k2 (by simp),←hwl];refine ⟨⟨by omega,by omega,by rw [cT_len,hwl,k3];omega⟩,?_⟩;conv=>whnf
    exact ⟨⟨rfl,rfl,rfl,rfl,by omega,rfl⟩,[],rfl,trivial,rfl⟩
theorem fn_toT0:Fn Tryz.prog 172 [.d (.sl (cT [])),B true] [] (.d (.sl [])) []:=by
 refine Fn.intro (ks:=[0,1,4,5,6,7,13,24,39]) hty rfl rfl rfl rfl rfl ?_
 conv=>whnf
 exact ⟨trivial,rfl⟩
theorem fn_toTd (xs:List (List UInt8)) (b:Bool) (hl:xs.length≤1000000):Fn Tryz.prog 172 [.d (.sl (cT xs)),B b] [] (.d (.sl (cT xs))) []:=by
 by_cases h:b=false∨xs≠[]
 ·have:=(fn_toT xs b h hl).freeze (by rw [cT_len];simp [withRoomT]);have e:(List.drop 0 (cT (withRoomT xs))).take xs.length=cT xs:=by simp [cT,withRoomT]
  rwa [e] at this
 ·have hb:b=true:=by cases b;exact absurd (.inl rfl) h;rfl
  have hx:xs=[]:=Classical.byContradiction fun e=>h (.inr e);subst hb;subst hx;exact fn_toT0
theorem fn_eqS (xs ys:List (List UInt8)) (hl:xs.length≤3000000) (hl':ys.length≤3000000) :
  Fn Tryz.prog 18 [.d (.sl (cT xs)),.d (.sl (cT ys))] [] (B (decide (xs=ys))) []:=by
 refine Fn.intro (ks:=[0,1,4,5,10,14,25]) hty rfl rfl rfl rfl rfl ?_;conv=>whnf
 rw [cT_len,cT_len];refine Br.mk (fun h=>?_) (fun h=>?_)
 ·have h:¬xs.length=ys.length:=by simp at h;omega
  conv=>whnf
  refine ⟨?_,trivial,rfl⟩;rw [decide_eq_false fun e=>h (by rw [e])]
 ·have hxy:xs.length=ys.length:=by simp at h;omega
  conv=>whnf
  refine VLoop.inv hty (S:=Nat) (fun k=>[(5,I k),(1,.d (.sl (cT ys))),(0,.d (.sl (cT xs)))]) (fun _=>[]) (fun k=>k≤xs.length∧xs.take k=ys.take k) (fun k=>xs.length - k) 0 ⟨Nat.zero_le _,rfl⟩
   ⟨rfl,rfl,rfl,trivial⟩ trivial ?_
  rintro k ⟨hk,hp⟩;conv=>whnf
  rw [cT_len];refine Br.mk (fun h=>?_) (fun h=>?_)
  ·have hk':k < xs.length:=by simp at h;omega
   conv=>whnf
   refine VDraw.go hmo hty 9 [] rfl ?_;conv=>whnf
   refine ⟨⟨⟨by omega,by rw [cT_len];omega⟩,cT_sz xs⟩,?_⟩;conv=>whnf
   refine ⟨[.s (.string ⟨(xs[k]).toArray⟩)],by simp [cT,hk'],?_⟩;conv=>whnf
   refine ⟨⟨⟨by omega,by rw [cT_len];omega⟩,cT_sz ys⟩,?_⟩;conv=>whnf
   refine ⟨[.s (.string ⟨(ys[k]).toArray⟩)],by simp [cT,←hxy,hk'],?_⟩;conv=>whnf
   refine Br.mk (fun h2=>?_) (fun h2=>?_)
   ·have h2:¬xs[k]=ys[k]:=by simpa using h2
    conv=>whnf
    refine ⟨?_,trivial,rfl⟩;rw [decide_eq_false fun e=>h2 (by subst e;rfl)]
   ·have h2:xs[k]=ys[k]:=by simpa using h2
    conv=>whnf
    refine Wr.fit (wrap_i64 (by omega) (by omega)) ?_;conv=>whnf
    refine ⟨k+1,⟨hk',?_⟩,by omega,⟨rfl,rfl,rfl,trivial⟩,trivial⟩;rw [List.take_succ_eq_append_getElem hk',List.take_succ_eq_append_getElem (by omega),hp,h2]
  ·have hk':k=xs.length:=by simp at h;omega
   conv=>whnf
   refine ⟨?_,trivial,rfl⟩;subst hk';rw [List.take_length,List.take_of_length_le (by omega)] at hp;rw [decide_eq_true hp]
theorem fn_intactT (xs:List (List UInt8)) (hl:xs.length≤1000000) :
  Fn Tryz.prog 175 [.ls 1000000 0 xs.length 1,.ls 1000001 0 xs.length 1] [(1000000,.row true 1 (cT (withRoomT xs))),(1000001,.row true 1 (cT (withRoomT xs)))] (B true)
   [(1000000,.row true 1 (cT (withRoomT xs))),(1000001,.row true 1 (cT (withRoomT xs)))]:=by
 have hr:=room_le xs.length;have hw:(withRoomT xs).length=xs.length+room xs.length:=by simp [withRoomT]
 refine Fn.intro (ks:=[0,1,4,5]) hty rfl rfl rfl rfl rfl ?_;conv=>whnf
 refine VCall.of_data (fn_room xs.length (by omega)) (nd _) ?_;conv=>whnf
 refine Wr.fit (wrap_i64 (by omega) (by omega)) ?_;conv=>whnf
 refine VDraw.go hmo hty 15 [] rfl ?_;conv=>whnf
 rw [decide_eq_true rfl];conv=>whnf
 refine ⟨⟨by omega,by omega,by rw [cT_len,hw];omega⟩,?_⟩;conv=>whnf
 refine ⟨⟨by omega,by omega,by rw [cT_len,hw];omega⟩,?_⟩;conv=>whnf
 refine QCall.lend (fn_eqS (withRoomT xs) (withRoomT xs) (by omega) (by omega)) ⟨⟨rfl,?_,?_⟩,⟨rfl,?_,?_⟩,trivial⟩ rfl ?_
 iterate 2
  ·simp only [cT_len,hw];omega
  ·show ((cT _).drop (Int.toNat 0+0)).take _=_;rw [List.take_of_length_le (by simp [cT_len,hw];omega)];rfl
 conv=>whnf
 exact ⟨by simp,⟨rfl,rfl,trivial⟩,rfl⟩
def markF (r:Nat) (acc:List UInt8):List UInt8:=if h:r=0 then acc else markF (r / 10) (UInt8.ofNat (48+r % 10) :: acc)
theorem fn_markText (k:Nat) (hk:k≤3000000000):∃m:List UInt8,Fn Tryz.prog 61 [I k] [] (.d (.s (.string ⟨m.toArray⟩))) []:=by
 by_cases h0:k=0
 ·subst h0;refine ⟨[109,48],?_⟩;refine Fn.intro (ks:=[0,2,3,5,7]) hty rfl rfl rfl rfl rfl ?_;conv=>whnf
  refine ⟨?_,trivial,rfl⟩
  rfl
 ·refine ⟨109 :: markF k [],?_⟩;refine Fn.intro (ks:=[0,2,3,5,7]) hty rfl rfl rfl rfl rfl ?_;conv=>whnf
  rw [decide_eq_false (by omega)];conv=>whnf
  refine VLoop.inv hty (S:=Nat×List UInt8) (fun s=>[(3,.d (.s (.string ⟨s.2.toArray⟩))),(0,I s.1)]) (fun _=>[]) (fun s=>s.1+s.2.length≤k∧markF s.1 s.2=markF k []) (fun s=>s.1) (k,[]) ⟨Nat.le_refl _,rfl⟩
   ⟨rfl,rfl,trivial⟩ trivial ?_
  rintro s ⟨hk1,hp⟩;conv=>whnf
  refine Br.mk (fun h=>?_) (fun h=>?_)
  ·have h:0 < s.1:=by simpa using h
   rw [markF,dif_neg (by omega)] at hp;conv=>whnf
   refine ⟨by omega,?_⟩;conv=>whnf
   obtain ⟨d,ed⟩:∃d:Nat,s.1 % 10=d:=⟨_,rfl⟩;rw [show (s.1:Int).tmod 10=d by rw [Int.tmod_eq_emod_of_nonneg (by omega)];omega];rw [ed] at hp;refine Wr.fit (wrap_i64 (by omega) (by omega)) ?_;conv=>whnf
   refine Wr.is (y:=((UInt8.ofNat (48+d)).toNat:Int)) (by rw [wrap_u8,UInt8.toNat_ofNat'];omega) ?_;generalize UInt8.ofNat (48+d)=c at hp ⊢;conv=>whnf
   refine Sub.full rfl ?_;conv=>whnf
   refine ⟨⟨[c].toArray⟩,by simp [cB],?_⟩;conv=>whnf
   refine ⟨by simp [ByteArray.size];omega,?_⟩;conv=>whnf
   refine ⟨by omega,?_⟩;conv=>whnf
   obtain ⟨r,er⟩:∃r:Nat,s.1 / 10=r:=⟨_,rfl⟩;rw [show (s.1:Int).tdiv 10=r by rw [Int.tdiv_eq_ediv_of_nonneg (by omega)];omega];rw [er] at hp;refine Wr.fit (wrap_i64 (by omega) (by omega)) ?_;conv=>whnf
   refine ⟨(r,c :: s.2),⟨by simp;omega,hp⟩,by simp;omega,⟨?_,rfl,trivial⟩,trivial⟩;show AV.d (C.s (Value.string (_++_)))=_
   congr 3
  ·have h:s.1=0:=by simpa using h
   rw [markF,dif_pos h] at hp;conv=>whnf
   refine ⟨?_,?_,trivial,rfl⟩
   ·simp [ByteArray.size];omega
   ·rw [←hp];congr 2
noncomputable def markQ (k:Nat):List UInt8:=if h:k≤3000000000 then (fn_markText k h).choose else []
theorem fn_markQ (k:Nat) (h:k≤3000000000):Fn Tryz.prog 61 [I k] [] (.d (.s (.string ⟨(markQ k).toArray⟩))) []:=by
 unfold markQ;rw [dif_pos h];exact (fn_markText k h).choose_spec
noncomputable def marksT (k n:Nat):List (List UInt8):=(List.range n).map fun i=>markQ (k+i)
theorem marksT_len (k n:Nat):(marksT k n).length=n:=by simp [marksT]
theorem fn_markT (zs:List (List UInt8)) (n k0:Nat) (hn:n≤zs.length) (hl:n≤1000000) (hk0:k0≤2000000000) :
  Fn Tryz.prog 19 [.ls 1000000 0 n 1,I k0] [(1000000,.row true 1 (cT zs))] (I ((k0+n:Nat):Int)) [(1000000,.row true 1 (cT (marksT k0 n++zs.drop n)))]:=by
 have k1:(marksT k0 n++zs.drop n).length=zs.length:=by simp [marksT_len];omega
 refine Fn.intro (ks:=[0,1,4,5,9]) hty rfl rfl rfl rfl rfl ?_;conv=>whnf
 refine VLoop.inv hty (S:=Nat) (fun k=>[(5,I k),(1,I ((k0+k:Nat):Int)),(0,.ls 1000000 0 n 1)]) (fun k=>[(1000000,.row true 1 (cT (fillL (marksT k0 n++zs.drop n) zs k)))]) (fun k=>k≤n) (fun k=>n - k) 0 (Nat.zero_le _)
  ⟨rfl,rfl,rfl,trivial⟩ ⟨by rw [fill_zero];rfl,trivial⟩ ?_
 intro k hk;conv=>whnf
 refine Br.mk (fun h=>?_) (fun h=>?_)
 ·have hk':k < n:=by simp at h;omega
  conv=>whnf
  refine VCall.of_data (fn_markQ (k0+k) (by omega)) (nd _) ?_;conv=>whnf
  refine ⟨by omega,?_⟩;conv=>whnf
  refine ⟨[.s (.string ⟨((fillL (marksT k0 n++zs.drop n) zs k)[k]!).toArray⟩)],by
   have:k < (fillL (marksT k0 n++zs.drop n) zs k).length:=by rw [fill_len k1];omega
   simp [cT,this],?_⟩
  conv=>whnf
  refine Wr.fit (wrap_i64 (by omega) (by omega)) ?_;conv=>whnf
  refine Wr.fit (wrap_i64 (by omega) (by omega)) ?_;conv=>whnf
  refine ⟨k+1,hk',by omega,⟨rfl,by congr 1,rfl,trivial⟩,?_,trivial⟩;show Ob.row true 1 ((cT _).set k [.s (.string ⟨(markQ (k0+k)).toArray⟩)])=_;rw [cT_set,←fill_set k1 (by omega)]
  congr 3
  rw [List.getElem_append_left (by rw [marksT_len];exact hk')];simp [marksT]
 ·have hk':k=n:=by simp at h;omega
  subst hk';conv=>whnf
  refine ⟨rfl,⟨?_,trivial⟩,rfl⟩;have:fillL (marksT k0 k++zs.drop k) zs k=marksT k0 k++zs.drop k:=by
   unfold fillL;rw [List.take_append_of_le_length (by simp [marksT_len]),List.take_of_length_le (by simp [marksT_len])]
  rw [this];rfl
def szT:Int→List (List UInt8)→Int
 | n,[]=>n
 | n,x :: xs=>if n - x.length < 0 then -1 else szT (n - x.length) xs
theorem szT_fits:∀(xs:List (List UInt8)) (n:Int),0≤szT n xs→∀x,x∈xs→(x.length:Int)≤n
 | [],n,_,x,h=>by cases h
 | y :: xs,n,h,x,hx=>by
   unfold szT at h
   split at h
   ·omega
   ·rcases List.mem_cons.1 hx with rfl | hx
    ·omega
    ·have:=szT_fits xs _ h x hx;omega
def szTT (n:Int) (xs:List (List UInt8)):Int:=if n - xs.length < 0 then -1 else szT (n - xs.length) xs
theorem fn_szT (xs:List (List UInt8)) (n:Int) (hl:xs.length≤281474976710656) (hs:∀x,x∈xs→x.length≤281474976710656) (hn:n≤1000000) (hn0:-281474976710656≤n):Fn Tryz.prog 167 [lT xs,I n] [] (I (szTT n xs)) []:=by
 refine Fn.intro (ks:=[0,1,4,5,11,15,26]) hty rfl rfl rfl rfl rfl ?_;conv=>whnf
 rw [cT_len];refine Wr.fit (wrap_i64 (by omega) (by omega)) ?_;conv=>whnf
 unfold szTT;refine Br.mk (fun h=>?_) (fun h=>?_)
 ·have h:n - xs.length < 0:=by simpa using h
  conv=>whnf
  refine ⟨?_,trivial,rfl⟩;rw [if_pos h]
 ·have h:¬n - (xs.length:Int) < 0:=by simpa using h
  rw [if_neg h];conv=>whnf
  obtain ⟨m0,e0⟩:∃m0,n - (xs.length:Int)=m0:=⟨_,rfl⟩;rw [e0] at h ⊢;have hm:m0≤n:=by omega
  refine VLoop.inv hty (S:=Nat×Int) (fun s=>[(5,I s.1),(1,I s.2),(0,lT xs)]) (fun _=>[]) (fun s=>s.1≤xs.length∧0≤s.2∧s.2≤n∧szT s.2 (xs.drop s.1)=szT m0 xs) (fun s=>xs.length - s.1) (0,m0)
   ⟨Nat.zero_le _,by omega,by omega,rfl⟩ ⟨rfl,rfl,rfl,trivial⟩ trivial ?_
  rintro s ⟨hk,h0,h1,hp⟩;conv=>whnf
  rw [cT_len];refine Br.mk (fun h=>?_) (fun h=>?_)
  ·have hk':s.1 < xs.length:=by simp at h;omega
   have hx:=hs xs[s.1] (List.getElem_mem _);rw [List.drop_eq_getElem_cons hk',szT] at hp;generalize hq:xs[s.1]=x at hp hx;conv=>whnf
   refine ⟨⟨⟨by omega,by rw [cT_len];omega⟩,cT_sz xs⟩,?_⟩;conv=>whnf
   refine ⟨[.s (.string ⟨x.toArray⟩)],by simp [cT,hk',hq],?_⟩;conv=>whnf
   obtain ⟨m1,e1⟩:∃m1,s.2 - (x.length:Int)=m1:=⟨_,rfl⟩;rw [show s.2 - (({ data:=x.toArray }:ByteArray).size:Int)=m1 from e1];rw [e1] at hp;refine Wr.fit (wrap_i64 (by omega) (by omega)) ?_;conv=>whnf
   refine Br.mk (fun h=>?_) (fun h=>?_)
   ·have h:m1 < 0:=by simpa using h
    rw [if_pos h] at hp;conv=>whnf
    refine ⟨?_,trivial,rfl⟩;rw [←hp]
   ·have h:¬m1 < 0:=by simpa using h
    rw [if_neg h] at hp;conv=>whnf
    refine Wr.fit (wrap_i64 (by omega) (by omega)) ?_;conv=>whnf
    exact ⟨(s.1+1,m1),⟨by omega,by omega,by omega,hp⟩,by omega,⟨rfl,rfl,rfl,trivial⟩,trivial⟩
  ·have hk':s.1=xs.length:=by simp at h;omega
   conv=>whnf
   refine ⟨?_,trivial,rfl⟩;rw [←hp,hk',List.drop_length,szT]
end Go.V
namespace Go.V
open Go.Proofs Go.RowKit
set_option maxRecDepth 10000
set_option maxHeartbeats 1000000
theorem szTT_fits {n:Int} {xs:List (List UInt8)} (h:0≤szTT n xs):(xs.length:Int)≤n∧∀x,x∈xs→(x.length:Int)≤n:=by
 unfold szTT at h
 split at h
 ·omega
 ·exact ⟨by omega,fun x hx=>by have:=szT_fits xs _ h x hx;omega⟩
theorem lend_wholeT {id:Nat} {l:LL} {xs ys:List (List UInt8)} (h:lget id l = .row true 1 (cT (xs++ys))):lend1 l (.ls id 0 xs.length 1) (.d (.sl (cT xs))):=by
 unfold lend1
 simp only [h]
 exact ⟨trivial,by simp [cT],by simp [cT]⟩
theorem cW_cI (ns:List Nat):cW .i64 ns=cI (ns.map Int.ofNat):=by simp [cW,cI]
end Go.V
namespace Go.Proofs
open Go.Shelf Go.RowKit Go.Sort Go.Lib
set_option maxHeartbeats 6400000 in
set_option maxRecDepth 100000 in
theorem Tryz.numDigitsC (u:Nat) (h1:1≤u) (h2:u < 18446744073709551616) (w:World) (hc:∀i,i < 20→w.cell? ⟨3,i,none⟩=some (.int .u64 ((10 ^ i:Nat):Int))) :
  Calls Tryz.prog 257 #[.int .u64 u] w fun e w'=>e = .returned (.int .i64 (Lib.nDigits u))∧w'=w:=by
 obtain ⟨hnd,h19⟩:=Lib.numDigits_eq u h1 h2;have hL:Lib.bitLen u≤64:=Lib.bitLen_le u 64 (Nat.le_refl _) h2;have hcell:=hc (Lib.l10 (Lib.bitLen u)) (by omega);have hto:((u:Int)).toNat=u:=by omega
 generalize hq:Lib.l10 (Lib.bitLen u)=q at hnd h19 hcell;generalize hT:10 ^ q=T at hnd hcell;have h20:q < 20:=by omega
 have Hnd:=Lib.hid hnd;clear hnd hc
 go_enter Tryz.func257,Tryz.ntmps257
 go_wp2_with (first
  | (go_at_call 268;refine (Tryz.bits_Len64 _ _ (by omega) (by omega)).mono ?_;rintro e w' ⟨rfl,rfl⟩)
  | (go_at_call 267;refine (Tryz.internal_strconv_log10Pow2 _ (by first | exact hL | (rw [hto];exact hL)) _).mono ?_;rintro e w' ⟨rfl,rfl⟩)
  | (go_at_call 269;refine (Tryz.internal_strconv_bool2_int _ _).mono ?_;rintro e w' ⟨rfl,rfl⟩))
 all_goals go_ret
 all_goals (
  refine ⟨?_,rfl⟩;have hnd:=Hnd.out
  congr 2
  split at hnd <;> simp_all <;> omega)
set_option maxHeartbeats 6400000 in
set_option maxRecDepth 100000 in
theorem Tryz.formatUintS (u:Nat) (hu:u < 100) (w:World) :
  Calls Tryz.prog 239 #[.int .u64 u,.int .i64 10] w fun e w'=>e = .returned (.string ⟨(Lib.decDigits u).toArray⟩)∧w'=w:=by
 have iu:(u:Int) < 100:=by omega
 go_enter Tryz.func239,Tryz.ntmps239
 go_wp2_with (go_at_call 256;refine (Tryz.internal_strconv_small u hu _).mono ?_;rintro e w' ⟨rfl,rfl⟩)
 all_goals go_ret
 all_goals exact ⟨rfl,rfl⟩
set_option maxHeartbeats 6400000 in
set_option maxRecDepth 100000 in
theorem Tryz.formatUintB (u:Nat) (hu:100≤u) (hu64:u < 18446744073709551616) (w:World) (hc:∀i,i < 20→w.cell? ⟨3,i,none⟩=some (.int .u64 ((10 ^ i:Nat):Int))) :
  Calls Tryz.prog 239 #[.int .u64 u,.int .i64 10] w fun e w'=>e = .returned (.string ⟨(Lib.decDigits u).toArray⟩)∧∃k os,w'=grow (w.drewN k) os:=by
 have hu1:1≤u:=by omega
 have hnd20:Lib.nDigits u≤20:=by have:=Lib.numDigits_eq u hu1 hu64;split at this <;> omega
 have hal:Tryz.prog.arrayLen 279=24:=by simp [Program.arrayLen,Tryz.underlying279]
 have hsl:∀W,(Instr.sliceAt 279 (.pointer (some ⟨w.heap.size,0,none⟩)) none (some (.int .i64 (Lib.nDigits u:Int))) none).run Tryz.prog W = .ok (.slice (some ⟨w.heap.size,0,none⟩) (Lib.nDigits u) 24) W:=fun W=>by
  rw [run_sliceAt_array_h W 279 ⟨w.heap.size,0,none⟩ (by simp [Program.arrayLen,Program.elem,Tryz.underlying279]) .i64 (Lib.nDigits u:Int) (by omega) (by rw [hal];omega)]
  go_simp
 have hH0:=Lib.holds_zero0 w 279 (Lib.nDigits u) (by omega);have hfmt:=Tryz.internal_strconv_formatBase10 w.heap.size 0 24 u (Array.replicate (Lib.nDigits u) 0) (w.alloc (.cells Lib.zeros24 279)) hH0 (by rw [Array.size_replicate];exact Lib.lt_pow_nDigits u) hu64 (by rw [Array.size_replicate];omega);rw [Array.size_replicate] at hfmt;have HH0:=Lib.hid hH0;have iu:(100:Int)≤(u:Int):=by omega
 have hc':∀i,i < 20→(w.alloc (.cells Lib.zeros24 279)).cell? ⟨3,i,none⟩=some (.int .u64 ((10 ^ i:Nat):Int)):=fun i hi=>Lib.cell?_alloc_some _ (hc i hi);clear hH0 hal
 go_enter Tryz.func239,Tryz.ntmps239
 go_wp2_with (go_at_call 257;refine (Tryz.numDigitsC u hu1 hu64 _ hc').mono ?_;rintro e w' ⟨rfl,rfl⟩)
 refine hfmt.mono ?_;rintro e w' ⟨rfl,k,v',dk,rfl,hF⟩;have hcv:(convert 168 9 (.slice (some ⟨w.heap.size,0,none⟩) (Lib.nDigits u) 24)).run Tryz.prog ((putRow (fun (b:UInt8)=>Value.int .u8 (b.toNat:Int)) (w.alloc (.cells Lib.zeros24 279)) w.heap.size 0 dk).drewN k) = .ok (.string ⟨(Lib.decDigits u).toArray⟩) ((putRow (fun (b:UInt8)=>Value.int .u8 (b.toNat:Int)) (w.alloc (.cells Lib.zeros24 279)) w.heap.size 0 dk).drewN k):=by
  have h:=run_convert_bytes_back (P:=Tryz.prog) ((putRow (fun (b:UInt8)=>Value.int .u8 (b.toNat:Int)) (w.alloc (.cells Lib.zeros24 279)) w.heap.size 0 dk).drewN k) 168 9 5 ⟨w.heap.size,0,none⟩ 24 (Lib.decDigits u) Tryz.underlying168 Tryz.underlying5 Tryz.underlying9 (fun j hj=>by
   rw [Lib.row_is_numeral hF j hj,Lib.add_plain,World.cell?_drewN];exact cell?_putRow (fun (b:UInt8)=>Value.int .u8 (b.toNat:Int)) _ w.heap.size 0 _ dk HH0.out (by rw [hF.size,Array.size_replicate]) j (by rw [hF.size];rw [Lib.decDigits_length] at hj;exact hj))
  rw [Lib.decDigits_length] at h;exact h
 go_wp2
 go_ret
 obtain ⟨os,eo⟩:=Lib.fin_at w (.cells Lib.zeros24 279) dk k 0;exact ⟨rfl,k,os,eo⟩
end Go.Proofs
namespace Go.V
open Go.Proofs Go.RowKit
set_option maxRecDepth 10000
theorem pow10_glob (w:World) (hg:∀b o y,glob b o y→w.cell? ⟨b,o,none⟩=some y) (i:Nat) (hi:i < 20):w.cell? ⟨3,i,none⟩=some (.int .u64 ((10 ^ i:Nat):Int)):=by
 refine hg 3 i _ ?_
 unfold glob
 have e:gget 3 globT=(List.range 20).map fun i=>Value.int .u64 ((10 ^ i:Nat):Int):=rfl
 rw [e]
 simp [hi]
theorem fn_iFormatUint (u:Nat) (hu:u < 18446744073709551616):Fn Tryz.prog 239 [.d (.s (.int .u64 u)),I 10] [] (Str (Lib.decDigits u)) []:=by
 refine Fn.of_calls (vs:=[.int .u64 u,.int .i64 10]) ⟨_,rfl,rfl,rfl⟩ fun w hg=>?_
 by_cases h:u < 100
 ·refine Calls.mono (Tryz.formatUintS u h w) ?_
  rintro e w' ⟨rfl,rfl⟩
  exact ⟨_,rfl,fun κ ρ=>.d _ _ (.s _),Grew.refl _⟩
 ·refine Calls.mono (Tryz.formatUintB u (by omega) hu w (pow10_glob w hg)) ?_
  rintro e w' ⟨rfl,k,os,rfl⟩
  exact ⟨_,rfl,fun κ ρ=>.d _ _ (.s _),Grew.below (Lib.below_grow _ w (Nat.le_refl _) k os)⟩
theorem fn_FormatUint (u:Nat) (hu:u < 18446744073709551616):Fn Tryz.prog 216 [.d (.s (.int .u64 u)),I 10] [] (Str (Lib.decDigits u)) []:=by
 refine Fn.intro (ks:=[0,1,4]) hty rfl rfl rfl rfl rfl ?_
 conv=>whnf
 refine VCall.of_data (fn_iFormatUint u hu) (nd _) ?_
 conv=>whnf
 exact ⟨rfl,trivial,rfl⟩
end Go.V
namespace Go.V
open Go.Proofs Go.RowKit
set_option maxRecDepth 10000
set_option maxHeartbeats 1000000
def revL (zs:List (List UInt8)) (k:Nat):List (List UInt8):=(List.range zs.length).map fun i=>if i < k∨zs.length - 1 - i < k then zs.getD (zs.length - 1 - i) [] else zs.getD i []
theorem revL_len (zs:List (List UInt8)) (k:Nat):(revL zs k).length=zs.length:=by simp [revL]
theorem revL_zero (zs:List (List UInt8)):revL zs 0=zs:=by
 apply List.ext_getElem (by simp [revL_len])
 intro i h1 h2
 simp [revL,h2]
theorem revL_end (zs:List (List UInt8)) (k:Nat) (h:zs.length≤2*k+1):revL zs k=zs.reverse:=by
 apply List.ext_getElem (by simp [revL_len]);intro i h1 h2;have h2:i < zs.length:=by simpa using h2
 simp only [revL,List.getElem_map,List.getElem_range,List.getElem_reverse];rw [gD,gD,List.getElem?_eq_getElem (by omega),List.getElem?_eq_getElem (by omega)];by_cases hc:i < k∨zs.length - 1 - i < k
 ·rw [if_pos hc];simp
 ·rw [if_neg hc];have:i=zs.length - 1 - i:=by omega
  simp [←this]
theorem revL_at (zs:List (List UInt8)) (k i:Nat) (h1:¬i < k) (h2:¬zs.length - 1 - i < k) (hi:i < zs.length):(revL zs k).getD i []=zs.getD i []:=by
 rw [gD,List.getElem?_eq_getElem (by rw [revL_len];exact hi)]
 simp [revL,h1,h2]
theorem revL_step (zs:List (List UInt8)) (k:Nat) (h:2*k+1 < zs.length):((revL zs k).set k (zs.getD (zs.length - 1 - k) [])).set (zs.length - 1 - k) (zs.getD k [])=revL zs (k+1):=by
 apply List.ext_getElem (by simp [revL_len]);intro i h1 h2;have hi:i < zs.length:=by simpa [revL_len] using h2
 rw [List.getElem_set,List.getElem_set];simp only [revL,List.getElem_map,List.getElem_range];by_cases e1:zs.length - 1 - k=i
 ·rw [if_pos e1,if_pos (by omega),show zs.length - 1 - i=k by omega]
 ·rw [if_neg e1];by_cases e2:k=i
  ·rw [if_pos e2,if_pos (by omega),e2]
  ·rw [if_neg e2];by_cases hc:i < k∨zs.length - 1 - i < k
   ·rw [if_pos hc,if_pos (by omega)]
   ·rw [if_neg hc,if_neg (by omega)]
theorem fn_Reverse (zs:List (List UInt8)) (hl:zs.length≤1000000000000) :
  Fn Tryz.prog 218 [.ls 1000000 0 zs.length 1] [(1000000,.row true 1 (cT zs))] (.tup []) [(1000000,.row true 1 (cT zs.reverse))]:=by
 refine Fn.intro (ks:=[0,2,3,9]) hty rfl rfl rfl rfl rfl ?_;conv=>whnf
 refine Wr.fit (wrap_i64 (by omega) (by omega)) ?_;conv=>whnf
 refine VLoop.inv hty (S:=Nat) (fun k=>[(3,I ((zs.length:Int) - 1 - k)),(2,I k),(0,.ls 1000000 0 zs.length 1)]) (fun k=>[(1000000,.row true 1 (cT (revL zs k)))]) (fun k=>k≤zs.length) (fun k=>zs.length - k) 0 (Nat.zero_le _)
  ⟨congrArg I (by simp),rfl,rfl,trivial⟩ ⟨by rw [revL_zero];rfl,trivial⟩ ?_
 intro k hk;conv=>whnf
 obtain ⟨j,ej⟩:∃j,(zs.length:Int) - 1 - k=j:=⟨_,rfl⟩;rw [ej];refine Br.mk (fun h=>?_) (fun h=>?_)
 ·have h:(k:Int) < j:=by simpa using h
  have hk2:2*k+1 < zs.length:=by omega
  conv=>whnf
  obtain ⟨m,rfl⟩:∃m:Nat,j=m:=⟨j.toNat,by omega⟩;have hm:m=zs.length - 1 - k:=by omega
  have hR:=revL_len zs k;have hstep:=revL_step zs k hk2;rw [←hm] at hstep;have e1:=revL_at zs k k (by omega) (by omega) (by omega);have e2:=revL_at zs k m (by omega) (by omega) (by omega);generalize zs.getD k []=a at e1 hstep;generalize zs.getD m []=b at e2 hstep;generalize revL zs k=R at hR e1 e2 hstep ⊢;have c1:0≤(k:Int)∧(k:Int) < zs.length:=by omega
  have c2:0≤(m:Int)∧(m:Int) < zs.length:=by omega
  have a1:=cT_as (by omega) e1;have a2:=cT_as (by omega) e2;have a3:((cT R).set k [.s (.string ⟨b.toArray⟩)])[m]? = some [.s (.string ⟨b.toArray⟩)]:=by rw [List.getElem?_set_ne (by omega)];exact a2
  refine VDraw.goS hmo hty [0,1,2,3,4,5,8,9] rfl ?_;conv=>whnf
  repeat' (first
   | (refine ⟨c1,?_⟩;conv=>whnf)
   | (refine ⟨c2,?_⟩;conv=>whnf)
   | (refine ⟨_,a1,?_⟩;conv=>whnf)
   | (refine ⟨_,a2,?_⟩;conv=>whnf)
   | (refine ⟨_,a3,?_⟩;conv=>whnf)
   | (refine Wr.fit (wrap_i64 (by omega) (by omega)) ?_;conv=>whnf)
   | exact ⟨k+1,by omega,by omega,⟨congrArg I (by omega),rfl,rfl,trivial⟩,by rw [←hstep,←cT_set,←cT_set];rfl,trivial⟩
   | (refine ⟨?_,?_⟩ <;> conv=>whnf))
 ·have h:¬(k:Int) < j:=by simpa using h
  conv=>whnf
  rw [revL_end zs k (by omega)];exact ⟨⟨rfl,trivial⟩,rfl⟩
theorem VCall.par1u {P:Program} {t:TL} {l:LL} {f:FuncId} {xs xs0:List AV} {sz sz':Nat} {rows rows':List (List C)} {dst:Option Nat} {K:AV→TL→LL→Prop} (a:Nat)
  (h:Fn P f xs0 [(1000000,.row true sz rows)] (.tup []) [(1000000,.row true sz' rows')]) (ha:argR (pmap [(1000000,a)]) xs xs0) (hl:lget a l = .row true sz rows)
  (hK:K (.tup []) t ((a,.row true sz' rows') :: l)):VCall P f xs dst t l K :=
 VCall.of_fnR (k:=0) (pmap [(1000000,a)]) h ha ⟨⟨hl,fun p h=>absurd rfl h⟩,trivial⟩ rfl (keepRows rfl rfl) (fun _ h=>by cases h) rfl hK
theorem repeat_one (c:UInt8) (n:Nat):Lib.repeatL [c] n=List.replicate n c:=by
 induction n with
 | zero=>rfl
 | succ n ih=>rw [Lib.repeatL,ih];rfl
theorem fn_Repeat (s:List UInt8) (c:Nat) (hc:c≤1000000000) (hl:s.length≤1000):Fn Tryz.prog 217 [Str s,I c] [] (Str (Lib.repeatL s c)) []:=by
 refine Fn.of_calls (vs:=[.string ⟨s.toArray⟩,.int .i64 c]) ⟨_,rfl,rfl,rfl⟩ fun w _=>?_;have hb:(⟨s.toArray⟩:ByteArray).size=s.length:=by simp [ByteArray.size]
 have hm:s.length*c≤1000*1000000000:=Nat.mul_le_mul hl hc;refine Calls.mono (Tryz.strings_Repeat ⟨s.toArray⟩ c w (by omega) (by rw [hb];omega)) ?_;rintro e w' ⟨rfl,hw⟩;refine ⟨_,rfl,fun κ ρ=>?_,Grew.below hw⟩;exact .d _ _ (.s _)
theorem repr_sl {κ:Know} {v:Value} {rows:List (List C)} (h:Repr κ v (.sl rows)):(rows=[]∧∃a cap,v = .slice a 0 cap) ∨
  ∃(b off n cap:Nat) (vs:Nat→Value),v = .slice (some ⟨b,off,none⟩) n cap∧n=rows.length∧n≤cap∧(∀(k:Nat) (c:C),rows.flatten[k]? = some c→κ b (off+k) (vs k))∧∀(k:Nat) (c:C),rows.flatten[k]? = some c→Repr κ (vs k) c:=by
 cases h with
 | nil=>exact .inl ⟨rfl,_,_,rfl⟩
 | none a cap=>exact .inl ⟨rfl,_,_,rfl⟩
 | sl b off n cap rows vs hn hc hk hr=>exact .inr ⟨b,off,n,cap,vs,rfl,hn,hc,hk,hr⟩
theorem cT_flatten (xs:List (List UInt8)):(cT xs).flatten=xs.map fun s=>C.s (.string ⟨s.toArray⟩):=by
 induction xs with
 | nil=>rfl
 | cons x xs ih=>simp only [cT,List.map_cons,List.flatten_cons] at ih ⊢;rw [ih];rfl
theorem fn_Join (xs:List (List UInt8)) (sep:List UInt8) (hN:xs.length≤100000000000) (hlen:(Lib.join xs sep).length≤1000000000000):Fn Tryz.prog 219 [lT xs,Str sep] [] (Str (Lib.join xs sep)) [] where
 en:=⟨_,rfl,rfl,rfl⟩
 out:=fun κ ρ w us hm hs hv=>by
  have hs:us.size=2:=hs;have h0:=hv 0 us[0] (lT xs) (by simp) rfl;have h1:=hv 1 us[1] (Str sep) (by simp) rfl;have eus:us = #[us[0],us[1]]:=by
   apply Array.ext
   ·simpa using hs
   ·intro i h1 h2
    match i,h1 with
    | 0,_=>rfl
    | 1,_=>rfl
    | i+2,h1=>omega
  have e1:us[1] = .string ⟨sep.toArray⟩:=by
   generalize us[1]=v1 at h1;cases h1 with
   | d _ _ h=>cases h;rfl
  generalize us[0]=v0 at h0 eus;rw [e1] at eus;subst eus;have h0:Repr κ v0 (.sl (cT xs)):=by cases h0 with | d _ _ h=>exact h
  have hnone:∀(a:Option Addr) (c:Nat),xs=[]→v0 = .slice a 0 c→Calls Tryz.prog 219 #[v0,.string ⟨sep.toArray⟩] w fun e w'=>∃v κ' ρ',e = .returned v∧κ.le κ'∧Mem ⟨w,Mof ρ [],κ,0,ρ⟩ κ' ρ' [] w'∧AVR κ' ρ' v (Str (Lib.join xs sep)):=by
   intro a c hx he;subst hx;subst he;refine Calls.mono (Tryz.strings_Join_none a c ⟨sep.toArray⟩ w) ?_;rintro e w' ⟨rfl,rfl⟩;exact ⟨_,κ,ρ,rfl,Know.le_refl _,hm,.d _ _ (.s _)⟩
  rcases repr_sl h0 with ⟨hx,a,cap,he⟩ | ⟨b,off,n,cap,vs,he,hn,hc,hk,hr⟩
  ·exact hnone a cap (by simpa [cT] using hx) he
  ·rw [cT_len] at hn;subst hn;by_cases hx:xs=[]
   ·exact hnone (some ⟨b,off,none⟩) cap hx (by rw [he,hx];rfl)
   ·subst he;have key:∀(j:Nat) (s:List UInt8),xs[j]? = some s→κ b (off+j) (.string ⟨s.toArray⟩):=by
     intro j s hj;have hc0:(cT xs).flatten[j]? = some (.s (.string ⟨s.toArray⟩)):=by rw [cT_flatten,List.getElem?_map,hj];rfl
     have h2:=hk j _ hc0;have h3:=hr j _ hc0;generalize vs j=y at h2 h3;cases h3 with
     | s=>exact h2
    have hbk:b < w.heap.size:=by
     obtain ⟨s,hs0⟩:∃s,xs[0]? = some s:=by cases xs with | nil=>exact absurd rfl hx | cons s r=>exact ⟨s,rfl⟩
     exact hm.known_block (key 0 s hs0)
    have em:(xs.map fun s=>(⟨s.toArray⟩:ByteArray)).map (·.data.toList)=xs:=by simp [Function.comp_def]
    have h:=Tryz.strings_Join b off cap (xs.map fun s=>(⟨s.toArray⟩:ByteArray)) ⟨sep.toArray⟩ w (by
     intro j x hj;rw [List.getElem?_map] at hj;cases hj2:xs[j]? with
     | none=>rw [hj2] at hj;cases hj
     | some s =>
      rw [hj2] at hj;cases hj;exact hm.kn _ _ _ (key j s hj2)) hbk (by simp;omega) (by simpa using hc) (by rw [em];show (Lib.join xs sep).length≤_;omega)
    rw [em,List.length_map] at h;refine Calls.mono h ?_;rintro e w' ⟨rfl,hw⟩;exact ⟨_,κ,ρ,rfl,Know.le_refl _,hm.grew (Grew.below hw),.d _ _ (.s _)⟩
end Go.V
namespace Go.V
open Go.Proofs Go.RowKit
set_option maxRecDepth 10000
set_option maxHeartbeats 1000000
abbrev dd (n:Nat):List UInt8:=Lib.decDigits n
theorem dd_small {n:Nat} (h:n < 10):dd n=[UInt8.ofNat (48+n)]:=by rw [dd,Lib.decDigits,dif_pos h]
theorem dd_big {n:Nat} (h:¬n < 10):dd n=dd (n / 10)++[UInt8.ofNat (48+n % 10)]:=by rw [dd,Lib.decDigits,dif_neg h]
theorem dd_ne (n:Nat):dd n≠[]:=by
 by_cases h:n < 10
 ·rw [dd_small h];simp
 ·rw [dd_big h];simp
theorem dd_len_le:∀(k n:Nat),n < 10 ^ (k+1)→(dd n).length≤k+1
 | 0,n,h=>by rw [dd_small (by simpa using h)];simp
 | k+1,n,h=>by
   by_cases h9:n < 10
   ·rw [dd_small h9];simp
   ·rw [dd_big h9,List.length_append,List.length_singleton]
    have:=dd_len_le k (n / 10) (by rw [Nat.pow_succ] at h;omega)
    omega
theorem dd_bl (n:Nat):(dd n).length≤bl n+1:=dd_len_le (bl n) n (by
 have h1:=lt_bl n
 have h2:2 ^ bl n≤10 ^ bl n:=Nat.pow_le_pow_left (by decide) _
 have h3:10 ^ bl n≤10 ^ (bl n+1):=Nat.pow_le_pow_right (by decide) (by omega)
 omega)
def padd (k r:Nat):List UInt8:=List.replicate (k - (dd r).length) 48++dd r
theorem padd_len {k r:Nat} (h:r < 10 ^ (k+1)):(padd (k+1) r).length=k+1:=by
 have:=dd_len_le k r h
 simp only [padd,List.length_append,List.length_replicate];omega
theorem padd_succ {k r:Nat} (h:r < 10 ^ (k+2)):padd (k+2) r=padd (k+1) (r / 10)++[UInt8.ofNat (48+r % 10)]:=by
 by_cases h9:r < 10
 ·have e:r / 10=0:=by omega
  have e2:r % 10=r:=by omega
  rw [e,e2,padd,padd,dd_small h9,dd_small (n:=0) (by decide)];show List.replicate (k+2 - 1) 48++_=(List.replicate (k+1 - 1) 48++[48])++_;rw [show k+2 - 1=k+1 by omega,show k+1 - 1=k by omega,List.replicate_succ',List.append_assoc]
 ·rw [padd,padd,dd_big h9,List.length_append,List.length_singleton,List.append_assoc,show k+2 - ((dd (r / 10)).length+1)=k+1 - (dd (r / 10)).length by omega]
theorem dd_split:∀(k q r:Nat),0 < q→r < 10 ^ (k+1)→dd (q*10 ^ (k+1)+r)=dd q++padd (k+1) r
 | 0,q,r,hq,hr=>by
   have hr:r < 10:=by simpa using hr
   rw [show q*10 ^ (0+1)+r=q*10+r by simp,dd_big (by omega),show (q*10+r) / 10=q by omega,show (q*10+r) % 10=r by omega,padd,dd_small hr]
   rfl
 | k+1,q,r,hq,hr=>by
   have e:q*10 ^ (k+2)+r=(q*10 ^ (k+1))*10+r:=by rw [Nat.pow_succ,Nat.mul_assoc]
   have hp:0 < 10 ^ (k+1):=Nat.pow_pos (by decide);have hq2:1≤q*10 ^ (k+1):=Nat.mul_pos hq hp;rw [e,dd_big (by omega),show (q*10 ^ (k+1)*10+r) / 10=q*10 ^ (k+1)+r / 10 by omega,show (q*10 ^ (k+1)*10+r) % 10=r % 10 by omega,
    dd_split k q (r / 10) hq (by rw [Nat.pow_succ] at hr;omega),padd_succ hr,List.append_assoc]
theorem dd_nine {n:Nat} (h:0 < n / 1000000000):dd n=dd (n / 1000000000)++padd 9 (n % 1000000000):=by
 have:=dd_split 8 (n / 1000000000) (n % 1000000000) h (Nat.mod_lt _ (by decide))
 rw [show n / 1000000000*10 ^ (8+1)+n % 1000000000=n by have:=Nat.div_add_mod n 1000000000;simp only [Nat.reduceAdd,Nat.reducePow];omega] at this
 exact this
theorem dd_one {n:Nat}:dd n=[49]↔n=1:=by
 constructor
 ·intro h;by_cases h9:n < 10
  ·rw [dd_small h9] at h;have h:UInt8.ofNat (48+n)=49:=by simpa using h
   have:=congrArg UInt8.toNat h;rw [UInt8.toNat_ofNat'] at this;have e:(49:UInt8).toNat=49:=rfl;rw [e] at this;omega
  ·rw [dd_big h9] at h;have h5:=congrArg List.length h;rw [List.length_append,List.length_singleton,List.length_singleton] at h5;have:=List.length_pos_iff.2 (dd_ne (n / 10));omega
 ·intro h;rw [h,dd_small (by decide)];rfl
theorem dd_base {r:Nat} (h:r < 1000000000):dd (r+1000000000)=49 :: padd 9 r:=by
 have:=dd_split 8 1 r (by decide) (by simpa using h)
 rw [show 1*10 ^ (8+1)+r=r+1000000000 by simp only [Nat.reduceAdd,Nat.reducePow];omega] at this
 rw [this,dd_one.2 rfl];rfl
theorem itoa_nat (n:Nat):Lib.itoa (n:Int)=dd n:=Lib.itoa_nonneg n
end Go.V
namespace Go.V
open Go.Proofs Go.RowKit
set_option maxRecDepth 10000
set_option maxHeartbeats 1000000
def headT (n:Nat):List UInt8:=if n=0 then [] else dd n
theorem head_step {n:Nat} (h:n≠0):headT (n / 1000000000)++(if n / 1000000000=0 then dd (n % 1000000000) else padd 9 (n % 1000000000))=dd n:=by
 unfold headT
 by_cases h0:n / 1000000000=0
 ·rw [if_pos h0,if_pos h0,List.nil_append,show n % 1000000000=n by omega]
 ·rw [if_neg h0,if_neg h0,←dd_nine (by omega)]
theorem lend_allT {id n:Nat} {l:LL} {xs:List (List UInt8)} (hn:xs.length=n) (h:lget id l = .row true 1 (cT xs)):lend1 l (.ls id 0 n 1) (.d (.sl (cT xs))):=by
 subst hn;have:xs=xs++[]:=by simp
 rw [this] at h;exact lend_wholeT h
theorem join_flat (xs:List (List UInt8)):Lib.join xs []=xs.flatten:=by
 unfold Lib.join
 induction xs with
 | nil=>rfl
 | cons x r ih =>
  cases r with
  | nil=>simp [List.intercalate]
  | cons y r=>simp [List.intercalate,List.intersperse] at ih ⊢;rw [←ih]
theorem bl_part {n:Nat} (h:n≠0):bl (n / 1000000000)+1≤bl n:=by
 have h1:=lt_bl n
 have h0:1≤bl n:=by
  rcases Nat.eq_zero_or_pos (bl n) with e | e
  ·rw [e] at h1;omega
  ·exact e
 have:bl (n / 1000000000)≤bl n - 1:=bl_le (by
  obtain ⟨k,ek⟩:∃k,bl n=k+1:=⟨bl n - 1,by omega⟩
  rw [ek] at h1 ⊢
  rw [Nat.pow_succ] at h1
  show _ < 2 ^ (k+1 - 1)
  rw [Nat.add_sub_cancel];omega)
 omega
theorem fn_text (N:Nat) (hN:bl N≤100000000000):Fn Tryz.prog 191 [nI N] [] (Str (dd N)) []:=by
 refine Fn.intro (ks:=[0,2,3,4,5,6,9,13,24]) hty rfl rfl rfl rfl rfl ?_;conv=>whnf
 rw [cW_len];refine Br.mk (fun h=>?_) (fun h=>?_)
 ·have h:N=0:=by
   have h:(dg B32 N).length=0:=by simpa using h
   exact (dg_len_zero b32).1 h
  conv=>whnf
  refine ⟨?_,trivial,rfl⟩;rw [h,dd_small (by decide)];rfl
 ·have h:N≠0:=by
   intro e;rw [e] at h;simp [dg_zero] at h
  conv=>whnf
  refine VLoop.ren 10 34 rfl ?_;refine VLoop.inv hty (S:=Nat×List (List UInt8)) (fun s=>[(3,.ls 34 0 s.2.length 1),(0,nI s.1)]) (fun s=>[(34,.row true 1 (cT s.2))])
   (fun s=>s.1≤N∧s.1+s.2.length≤N∧headT s.1++s.2.reverse.flatten=dd N∧bl s.1+s.2.length≤bl N) (fun s=>s.1) (N,[]) ⟨Nat.le_refl _,Nat.le_refl _,by simp [headT,h],Nat.le_refl _⟩
   ⟨rfl,rfl,trivial⟩ ⟨rfl,trivial⟩ ?_
  rintro s ⟨h1,h2,h3,h4⟩;conv=>whnf
  rw [cW_len];refine Br.mk (fun h5=>?_) (fun h5=>?_)
  ·have h6:s.1≠0:=by
    intro e;rw [e] at h5;simp [dg_zero] at h5
   have hd:=fn_divSmall s.1 1000000000 (by omega) (by decide) (by decide);have hb:=bl_part h6;have hs:=head_step h6;rw [headT,if_neg h6] at h3;obtain ⟨q,eq⟩:∃q,s.1 / 1000000000=q:=⟨_,rfl⟩;obtain ⟨r,er⟩:∃r,s.1 % 1000000000=r:=⟨_,rfl⟩;have hr:r < 1000000000:=by omega
   have hq:q < s.1:=by omega
   rw [eq] at hd hb hs;rw [er] at hd hs;conv=>whnf
   refine VCall.of_data hd (ndT (fun k=>rfl)) ?_;conv=>whnf
   refine Wr.n64 (n:=r) rfl (by omega) ?_;conv=>whnf
   refine VCall.of_data (fn_FormatUint r (by omega)) (nd _) ?_;conv=>whnf
   rw [cW_len];by_cases hq0:q=0
   ·rw [decide_eq_false (by rw [hq0];simp [dg_zero])];rw [if_pos hq0] at hs;conv=>whnf
    refine Sub.full rfl ?_;conv=>whnf
    refine Sub.full (by rw [cT_len]) ?_;conv=>whnf
    refine ⟨by show (s.2.length+1)*16≤_;omega,?_⟩;conv=>whnf
    exact ⟨(q,s.2++[dd r]),⟨by omega,by show q+(s.2++[dd r]).length≤N;rw [List.length_append,List.length_singleton];omega,by rw [←h3,←hs];simp,by show bl q+(s.2++[dd r]).length≤bl N;rw [List.length_append,List.length_singleton];omega⟩,hq,⟨by show AV.ls 34 0 (s.2.length+1) 1=AV.ls 34 0 (s.2++[dd r]).length 1;rw [List.length_append,List.length_singleton],rfl,trivial⟩,by show Ob.row true 1 (cT s.2++cT [dd r])=_;rw [cT_append],trivial⟩
   ·rw [decide_eq_true (by have:=dg_len_zero b32 (n:=q);omega)];rw [if_neg hq0] at hs;have hdl:=dd_len_le 8 r (by simpa using hr);obtain ⟨z,ez⟩:∃z:Nat,9 - (dd r).length=z:=⟨_,rfl⟩;conv=>whnf
    refine Wr.i64 (y:=(z:Int)) (by show (9:Int) - ((⟨(dd r).toArray⟩:ByteArray).size:Int)=z;rw [bsize];omega) (by omega) (by omega) ?_;conv=>whnf
    refine VCall.of_data (fn_Repeat [48] z (by omega) (by simp)) (nd _) ?_;rw [repeat_one];conv=>whnf
    have ep:List.replicate z 48++dd r=padd 9 r:=by rw [padd,ez]
    refine ⟨by rw [bsize,bsize,List.length_replicate];show z+(dd r).length < 2 ^ 62;omega,?_⟩;rw [show (⟨(List.replicate z 48).toArray⟩:ByteArray)++⟨(Lib.decDigits r).toArray⟩=⟨(padd 9 r).toArray⟩ by rw [←ep];apply ByteArray.ext;simp];conv=>whnf
    refine Sub.full rfl ?_;conv=>whnf
    refine Sub.full (by rw [cT_len]) ?_;conv=>whnf
    refine ⟨by show (s.2.length+1)*16≤_;omega,?_⟩;conv=>whnf
    exact ⟨(q,s.2++[padd 9 r]),⟨by omega,by show q+(s.2++[padd 9 r]).length≤N;rw [List.length_append,List.length_singleton];omega,by rw [←h3,←hs];simp,by show bl q+(s.2++[padd 9 r]).length≤bl N;rw [List.length_append,List.length_singleton];omega⟩,hq,⟨by show AV.ls 34 0 (s.2.length+1) 1=AV.ls 34 0 (s.2++[padd 9 r]).length 1;rw [List.length_append,List.length_singleton],rfl,trivial⟩,by show Ob.row true 1 (cT s.2++cT [padd 9 r])=_;rw [cT_append],trivial⟩
  ·have h6:s.1=0:=by
    have h6:(dg B32 s.1).length=0:=by simpa using h5
    exact (dg_len_zero b32).1 h6
   have h3:s.2.reverse.flatten=dd N:=by rw [←h3,h6];rfl
   have hl:s.2.length≤100000000000:=by omega
   have hjl:(Lib.join s.2.reverse []).length≤1000000000000:=by rw [join_flat,h3];have:=dd_bl N;omega
   conv=>whnf
   refine VCall.par1u 34 (fn_Reverse s.2 (by omega)) ⟨⟨rfl,rfl,rfl,rfl⟩,trivial⟩ rfl ?_;conv=>whnf
   refine VCall.lend (fn_Join s.2.reverse [] (by rw [List.length_reverse];omega) hjl) ⟨lend_allT (by rw [List.length_reverse]) rfl,rfl,trivial⟩ rfl ?_;rw [join_flat,h3];conv=>whnf
   exact ⟨rfl,trivial,rfl⟩
end Go.V
namespace Go.V
open Go.Proofs Go.RowKit
set_option maxRecDepth 10000
set_option maxHeartbeats 1000000
def ratT (q:Rat):List UInt8:=((if ng q then [45] else [])++dd (tp q))++(if q.den=1 then [] else 47 :: dd q.den)
def fitsQ (q:Rat):Bool:=decide ((dd (tp q)).length≤200) && decide ((dd q.den).length≤200)
theorem baeq (b c:List UInt8):((⟨b.toArray⟩:ByteArray).toList == (⟨c.toArray⟩:ByteArray).toList)=decide (b=c):=by
 rw [Bool.eq_iff_iff];simp
theorem le200 (a:List UInt8):decide (((⟨a.toArray⟩:ByteArray).size:Int)≤200)=decide (a.length≤200):=by
 rw [bsize];congr 1;simp;omega
theorem cat2 (a b:List UInt8):(⟨a.toArray⟩:ByteArray)++⟨b.toArray⟩=⟨(a++b).toArray⟩:=by apply ByteArray.ext;simp
theorem cat1 (c:UInt8) (b:List UInt8):(⟨#[c]⟩:ByteArray)++⟨b.toArray⟩=⟨(c :: b).toArray⟩:=cat2 [c] b
theorem fn_ratText (q:Rat) (hs:sz q≤100000000000):Fn Tryz.prog 136 [rI q] [] (.tup [Str (ratT q),B (fitsQ q)]) []:=by
 have c1:=fn_text (tp q) (Nat.le_trans (bl_tp q) hs)
 have c2:=fn_text q.den (Nat.le_trans (bl_den q) hs)
 have l1:(dd (tp q)).length≤100000000001:=Nat.le_trans (dd_bl _) (by have:=bl_tp q;omega)
 have l2:(dd q.den).length≤100000000001:=Nat.le_trans (dd_bl _) (by have:=bl_den q;omega)
 have ho:=dd_one (n:=q.den)
 unfold ratT fitsQ
 generalize dd (tp q)=a at c1 l1 ⊢
 generalize hb:dd q.den=b at c2 l2 ho ⊢
 refine Fn.intro (ks:=[0,1,2,3,4,5,6,15,19]) hty rfl rfl rfl rfl rfl ?_
 conv=>whnf
 refine VDraw.go hmo hty 8 [] rfl ?_
 conv=>whnf
 refine QCall.of_data c1 (nd _) ?_
 conv=>whnf
 refine QCall.of_data c2 (nd _) ?_
 conv=>whnf
 refine Br.mk (fun h=>?_) (fun h=>?_)
 ·rw [h]
  conv=>whnf
  refine ⟨by rw [bsize];show 1+a.length < 2 ^ 62;omega,?_⟩
  rw [cat1]
  conv=>whnf
  rw [show ((⟨b.toArray⟩:ByteArray).toList == (⟨#[49]⟩:ByteArray).toList)=decide (b=[49]) from baeq b [49]]
  by_cases h1:q.den=1
  ·rw [decide_eq_true (ho.2 h1)]
   rw [if_pos h1]
   conv=>whnf
   rw [le200 a]
   cases hA:decide (a.length≤200)
   ·conv=>whnf
    exact ⟨by simp,rfl,trivial,rfl⟩
   ·conv=>whnf
    rw [le200 b]
    cases hB:decide (b.length≤200)
    ·conv=>whnf
     exact ⟨by simp,rfl,trivial,rfl⟩
    ·conv=>whnf
     exact ⟨by simp,rfl,trivial,rfl⟩
  ·rw [decide_eq_false (fun e=>h1 (ho.1 e))]
   rw [if_neg h1]
   conv=>whnf
   refine ⟨by rw [bsize];show 1+b.length < 2 ^ 62;omega,?_⟩
   rw [cat1]
   conv=>whnf
   refine ⟨by rw [bsize,bsize];show (45 :: a).length+(b.length+1) < 2 ^ 62;simp;omega,?_⟩
   rw [cat2]
   conv=>whnf
   rw [le200 a]
   cases hA:decide (a.length≤200)
   ·conv=>whnf
    exact ⟨by simp,rfl,trivial,rfl⟩
   ·conv=>whnf
    rw [le200 b]
    cases hB:decide (b.length≤200)
    ·conv=>whnf
     exact ⟨by simp,rfl,trivial,rfl⟩
    ·conv=>whnf
     exact ⟨by simp,rfl,trivial,rfl⟩
 ·rw [h]
  conv=>whnf
  rw [show ((⟨b.toArray⟩:ByteArray).toList == (⟨#[49]⟩:ByteArray).toList)=decide (b=[49]) from baeq b [49]]
  by_cases h1:q.den=1
  ·rw [decide_eq_true (ho.2 h1)]
   rw [if_pos h1]
   conv=>whnf
   rw [le200 a]
   cases hA:decide (a.length≤200)
   ·conv=>whnf
    exact ⟨by simp,rfl,trivial,rfl⟩
   ·conv=>whnf
    rw [le200 b]
    cases hB:decide (b.length≤200)
    ·conv=>whnf
     exact ⟨by simp,rfl,trivial,rfl⟩
    ·conv=>whnf
     exact ⟨by simp,rfl,trivial,rfl⟩
  ·rw [decide_eq_false (fun e=>h1 (ho.1 e))]
   rw [if_neg h1]
   conv=>whnf
   refine ⟨by rw [bsize];show 1+b.length < 2 ^ 62;omega,?_⟩
   rw [cat1]
   conv=>whnf
   refine ⟨by rw [bsize,bsize];show (a).length+(b.length+1) < 2 ^ 62;simp;omega,?_⟩
   rw [cat2]
   conv=>whnf
   rw [le200 a]
   cases hA:decide (a.length≤200)
   ·conv=>whnf
    exact ⟨by simp,rfl,trivial,rfl⟩
   ·conv=>whnf
    rw [le200 b]
    cases hB:decide (b.length≤200)
    ·conv=>whnf
     exact ⟨by simp,rfl,trivial,rfl⟩
    ·conv=>whnf
     exact ⟨by simp,rfl,trivial,rfl⟩
end Go.V
namespace Go.V
open Go.Proofs Go.RowKit
set_option maxRecDepth 10000
set_option maxHeartbeats 1000000
def toldT (q:Rat):List UInt8:=if fitsQ q then ratT q else []
theorem fn_told (q:Rat) (hs:sz q≤100000000000):Fn Tryz.prog 81 [rI q] [] (.tup [Str (toldT q),B (fitsQ q)]) []:=by
 have c:=fn_ratText q hs
 unfold toldT
 refine Fn.intro (ks:=[0,1,2,3,4,5,12]) hty rfl rfl rfl rfl rfl ?_
 conv=>whnf
 refine VCall.of_data c (ndT (fun k=>rfl)) ?_
 conv=>whnf
 cases fitsQ q
 ·conv=>whnf
  exact ⟨rfl,rfl,trivial,rfl⟩
 ·conv=>whnf
  exact ⟨rfl,rfl,trivial,rfl⟩
end Go.V
namespace Go.V
open Go.Proofs Go.RowKit
set_option maxRecDepth 10000
set_option maxHeartbeats 1000000
def tab (n:Nat) (f:Nat→Rat):List Rat:=(List.range n).map f
end Go.V
namespace Go.V
open Go.Proofs Go.RowKit
set_option maxRecDepth 10000
set_option maxHeartbeats 1000000
theorem fn_sNatText (N:Nat) (hN:bl N≤100000000000):Fn Tryz.prog 194 [nS N] [] (Str (dd N)) []:=by
 refine Fn.intro (ks:=[0,2,3,4,5,8,20]) hty rfl rfl rfl rfl rfl ?_;conv=>whnf
 rw [cW_len];have hcn:=cn_dg b9 N;have hvl:=vl_dg b9 N;have hln:=dg_len b9 N;have hl0:=dg_len_zero b9 (n:=N);generalize dg B9 N=l at hcn hvl hln hl0 ⊢;refine Br.mk (fun h=>?_) (fun h=>?_)
 ·have h:l.length=0:=by simpa using h
  conv=>whnf
  refine ⟨?_,trivial,rfl⟩;rw [hl0.1 h,dd_small (by decide)];rfl
 ·have h:l.length≠0:=by simpa using h
  obtain ⟨m,em⟩:∃m,l.length=m+1:=⟨l.length - 1,by omega⟩;have hlast:l.getLast? = some (l.getD m 0):=by
   rw [List.getLast?_eq_getElem?,em,Nat.add_sub_cancel,gD,List.getElem?_eq_getElem (by omega)];rfl
  have htop:l.getD m 0≠0:=fun e=>hcn.2 (by rw [hlast,e]);have hlt:∀i,l.getD i 0 < 1000000000:=fun i=>by
   rw [gD];by_cases hi:i < l.length
   ·rw [List.getElem?_eq_getElem hi];exact hcn.1 _ (List.getElem_mem hi)
   ·rw [List.getElem?_eq_none (by omega)];decide
  obtain ⟨t,et⟩:∃t,l.getD m 0=t:=⟨_,rfl⟩;have ht:=hlt m;rw [et] at htop ht;conv=>whnf
  rw [cW_len];refine Wr.i64 (y:=(m:Int)) (by omega) (by omega) (by omega) ?_;conv=>whnf
  refine ⟨⟨⟨by omega,by rw [cW_len];omega⟩,cW_sz _ _⟩,?_⟩;conv=>whnf
  refine ⟨_,cW_as (x:=t) (by omega) et,?_⟩;conv=>whnf
  refine VCall.of_data (fn_l01Dec t (by omega) (by omega)) (nd _) ?_;rw [itoa_nat];conv=>whnf
  rw [cW_len];refine Wr.i64 (y:=(m:Int) - 1) (by omega) (by omega) (by omega) ?_;conv=>whnf
  refine VLoop.inv hty (S:=Nat) (fun k=>[(4,I ((k:Int) - 1)),(3,Str (dd (vl B9 (l.drop k)))),(0,.d (.sl (cW .i64 l)))]) (fun _=>[]) (fun k=>k≤m) (fun k=>k) m (Nat.le_refl _)
   ⟨rfl,by
    have e:l.drop m=[t]:=by
     rw [List.drop_eq_getElem_cons (by omega),List.drop_eq_nil_of_le (by omega),←et,gD,List.getElem?_eq_getElem (by omega)];rfl
    show Str (dd t)=_;rw [e];simp [vl],rfl,trivial⟩ trivial ?_
  intro k hk;conv=>whnf
  refine Br.mk (fun h2=>?_) (fun h2=>?_)
  ·have h2:(0:Int)≤k - 1:=by simpa using h2
   obtain ⟨j,rfl⟩:∃j,k=j+1:=⟨k - 1,by omega⟩;obtain ⟨d,ed⟩:∃d,l.getD j 0=d:=⟨_,rfl⟩;have hd:=hlt j;rw [ed] at hd;have hdrop:vl B9 (l.drop j)=vl B9 (l.drop (j+1))*1000000000+d:=by
    rw [vl_drop (by omega),←ed,gD,List.getElem?_eq_getElem (by omega)];show l[j]+1000000000*_=_*1000000000+l[j];omega
   have hpos:0 < vl B9 (l.drop (j+1)):=vl_pos b9 ⟨fun x hx=>hcn.1 x (List.mem_of_mem_drop hx),by
    rw [List.getLast?_drop,if_neg (by omega)];exact hcn.2⟩ (fun e=>by have:=congrArg List.length e;rw [List.length_drop] at this;simp at this;omega)
   have hdd:=dd_split 8 (vl B9 (l.drop (j+1))) d hpos (by simpa using hd);have hle:bl (vl B9 (l.drop (j+1)))≤bl N:=bl_mono (by
    rw [←hvl,vl_split (B:=B9) l (j+1) (by omega)];have:0 < B9 ^ (j+1):=Nat.pow_pos (by decide);have:=Nat.le_mul_of_pos_left (vl B9 (l.drop (j+1))) this;omega)
   have hlen:=dd_bl (vl B9 (l.drop (j+1)));have hpl:=padd_len (k:=8) (r:=d) (by simpa using hd);rw [show vl B9 (l.drop (j+1))*10 ^ (8+1)+d=vl B9 (l.drop j) by rw [hdrop]] at hdd;have hbase:=dd_base hd;have cD:=fn_l01Dec (d+1000000000:Nat) (by omega) (by omega);rw [itoa_nat,hbase] at cD;generalize vl B9 (l.drop (j+1))=V at hdd hlen hle ⊢;obtain ⟨w,ew⟩:∃w:List UInt8,dd V=w:=⟨_,rfl⟩;rw [ew] at hdd hlen ⊢;conv=>whnf
   rw [show ((j+1:Nat):Int) - 1=(j:Int) by omega];refine ⟨⟨⟨by omega,by rw [cW_len];omega⟩,cW_sz _ _⟩,?_⟩;conv=>whnf
   refine ⟨_,cW_as (x:=d) (by omega) ed,?_⟩;conv=>whnf
   refine Wr.i64 (y:=((d+1000000000:Nat):Int)) rfl (by omega) (by omega) ?_;conv=>whnf
   refine VCall.of_data cD (nd _) ?_;conv=>whnf
   have hsz:(⟨(49 :: padd 9 d).toArray⟩:ByteArray).size=10:=by rw [bsize,List.length_cons,hpl]
   refine ⟨by rw [hsz];decide,?_⟩;rw [show (⟨(49 :: padd 9 d).toArray⟩:ByteArray).extract (1:Int).toNat ((((⟨(49 :: padd 9 d).toArray⟩:ByteArray).size:Nat):Int)).toNat=⟨(padd 9 d).toArray⟩ by
    rw [bx,hsz];show (⟨(((49 :: padd 9 d).take 10).drop 1).toArray⟩:ByteArray)=_;rw [List.take_of_length_le (by rw [List.length_cons,hpl];decide)];rfl]
   conv=>whnf
   refine ⟨by rw [bsize,bsize,hpl];omega,?_⟩;rw [cat2,←hdd];conv=>whnf
   refine Wr.i64 (y:=(j:Int) - 1) rfl (by omega) (by omega) ?_;conv=>whnf
   exact ⟨j,by omega,by omega,⟨rfl,rfl,rfl,trivial⟩,trivial⟩
  ·have h2:k=0:=by simp at h2;omega
   conv=>whnf
   refine ⟨?_,trivial,rfl⟩;rw [h2,List.drop_zero,hvl]
theorem fn_sFits (q:Rat) (hs:sz q≤100000000000):Fn Tryz.prog 148 [rS q] [] (B (fitsQ q)) []:=by
 have c1:=fn_sNatText (tp q) (Nat.le_trans (bl_tp q) hs)
 have c2:=fn_sNatText q.den (Nat.le_trans (bl_den q) hs)
 unfold fitsQ
 generalize dd (tp q)=a at c1 ⊢
 generalize dd q.den=b at c2 ⊢
 refine Fn.intro (ks:=[0,1,2]) hty rfl rfl rfl rfl rfl ?_
 conv=>whnf
 refine VCall.of_data c1 (nd _) ?_
 conv=>whnf
 rw [le200 a]
 cases hA:decide (a.length≤200)
 ·conv=>whnf
  exact ⟨rfl,trivial,rfl⟩
 ·conv=>whnf
  refine VCall.of_data c2 (nd _) ?_
  conv=>whnf
  rw [le200 b]
  exact ⟨by simp,trivial,rfl⟩
theorem fn_sShow (q:Rat) (hs:sz q≤100000000000):Fn Tryz.prog 149 [rS q] [] (Str (ratT q)) []:=by
 have c1:=fn_sNatText (tp q) (Nat.le_trans (bl_tp q) hs)
 have c2:=fn_sNatText q.den (Nat.le_trans (bl_den q) hs)
 have l1:(dd (tp q)).length≤100000000001:=Nat.le_trans (dd_bl _) (by have:=bl_tp q;omega)
 have l2:(dd q.den).length≤100000000001:=Nat.le_trans (dd_bl _) (by have:=bl_den q;omega)
 have c3:=fn_sCmp q.den 1 (Nat.le_trans (bl_den q) (by omega)) (by decide)
 rw [nS,nS,dg_small b9 (n:=1) (by decide) (by decide)] at c3
 unfold ratT
 generalize dd (tp q)=a at c1 l1 ⊢
 generalize dd q.den=b at c2 l2 ⊢
 refine Fn.intro (ks:=[0,1,2,3,8,15]) hty rfl rfl rfl rfl rfl ?_
 conv=>whnf
 refine VCall.of_data c1 (nd _) ?_
 conv=>whnf
 refine Br.mk (fun h=>?_) (fun h=>?_)
 ·rw [h]
  conv=>whnf
  refine ⟨by rw [bsize];show 1+a.length < 2 ^ 62;omega,?_⟩
  rw [cat1]
  conv=>whnf
  refine VCall.lend c3 ⟨rfl,⟨rfl,by simp,rfl⟩,trivial⟩ rfl ?_
  conv=>whnf
  by_cases h1:q.den=1
  ·rw [if_pos h1,decide_eq_true (by rw [h1];decide)]
   conv=>whnf
   exact ⟨by simp,trivial,rfl⟩
  ·rw [if_neg h1,decide_eq_false (fun e=>by unfold cmpZ at e;split at e;cases e;split at e;cases e;omega)]
   conv=>whnf
   refine VCall.of_data c2 (nd _) ?_
   conv=>whnf
   refine ⟨by rw [bsize];show 1+b.length < 2 ^ 62;omega,?_⟩
   rw [cat1]
   conv=>whnf
   refine ⟨by rw [bsize,bsize];show (45 :: a).length+(b.length+1) < 2 ^ 62;simp;omega,?_⟩
   rw [cat2]
   conv=>whnf
   exact ⟨by simp,trivial,rfl⟩
 ·rw [h]
  conv=>whnf
  refine VCall.lend c3 ⟨rfl,⟨rfl,by simp,rfl⟩,trivial⟩ rfl ?_
  conv=>whnf
  by_cases h1:q.den=1
  ·rw [if_pos h1,decide_eq_true (by rw [h1];decide)]
   conv=>whnf
   exact ⟨by simp,trivial,rfl⟩
  ·rw [if_neg h1,decide_eq_false (fun e=>by unfold cmpZ at e;split at e;cases e;split at e;cases e;omega)]
   conv=>whnf
   refine VCall.of_data c2 (nd _) ?_
   conv=>whnf
   refine ⟨by rw [bsize];show 1+b.length < 2 ^ 62;omega,?_⟩
   rw [cat1]
   conv=>whnf
   refine ⟨by rw [bsize,bsize];show (a).length+(b.length+1) < 2 ^ 62;simp;omega,?_⟩
   rw [cat2]
   conv=>whnf
   exact ⟨by simp,trivial,rfl⟩
theorem fn_sGive (q:Rat) (hs:sz q≤100000000000):Fn Tryz.prog 79 [rS q] [] (.tup [Str (toldT q),B (fitsQ q)]) []:=by
 have c:=fn_sFits q hs
 have c2:=fn_sShow q hs
 unfold toldT
 refine Fn.intro (ks:=[0,1,2,3,6]) hty rfl rfl rfl rfl rfl ?_
 conv=>whnf
 refine VCall.of_data c (nd _) ?_
 conv=>whnf
 cases fitsQ q
 ·conv=>whnf
  exact ⟨rfl,rfl,trivial,rfl⟩
 ·conv=>whnf
  refine VCall.of_data c2 (nd _) ?_
  conv=>whnf
  exact ⟨rfl,rfl,trivial,rfl⟩
end Go.V
namespace Go.V
open Go.Proofs Go.RowKit
set_option maxRecDepth 10000
set_option maxHeartbeats 1000000
end Go.V
namespace Go.V
open Go.Proofs Go.RowKit
set_option maxRecDepth 10000
set_option maxHeartbeats 1000000
abbrev sp:Int:=-7000000000000000101
end Go.V
namespace Go.V
open Go.Proofs Go.RowKit
set_option maxRecDepth 10000
set_option maxHeartbeats 1000000
theorem cI_as {l:List Int} {i:Nat} {x:Int} (h:i < l.length) (e:l.getD i 0=x):(cI l)[i]? = some [.s (.int .i64 x)]:=by
 subst e;rw [gD,List.getElem?_eq_getElem h];simp [cI,h]
end Go.V
namespace Go.V
open Go.Proofs Go.RowKit
set_option maxRecDepth 10000
set_option maxHeartbeats 1000000
end Go.V
namespace Go.V
open Go.Proofs Go.RowKit
set_option maxRecDepth 10000
set_option maxHeartbeats 1000000
end Go.V
namespace Go.V
open Go.Proofs Go.RowKit
set_option maxRecDepth 10000
set_option maxHeartbeats 1000000
theorem szT_le:∀(xs:List (List UInt8)) {n:Int},-1≤n→-1≤szT n xs∧szT n xs≤n
 | [],n,h=>⟨h,Int.le_refl _⟩
 | x :: xs,n,h=>by
   unfold szT
   split
   ·omega
   ·have:=szT_le xs (n:=n - x.length) (by omega);omega
theorem szTT_le {n:Int} {xs:List (List UInt8)} (h:-1≤n):-1≤szTT n xs∧szTT n xs≤n:=by
 unfold szTT
 split
 ·omega
 ·have:=szT_le xs (n:=n - xs.length) (by omega);omega
end Go.V
namespace Go.V
open Go.Proofs Go.RowKit
set_option maxRecDepth 10000
set_option maxHeartbeats 1000000
end Go.V
namespace Go.V
open Go.Proofs Go.RowKit
set_option maxRecDepth 10000
set_option maxHeartbeats 1000000
end Go.V
namespace Go.V
open Go.Proofs Go.RowKit
set_option maxRecDepth 10000
set_option maxHeartbeats 1000000
end Go.V
namespace Go.V
open Go.Proofs Go.RowKit
set_option maxRecDepth 10000
set_option maxHeartbeats 1000000
end Go.V
namespace Go.V
open Go.Proofs Go.RowKit
set_option maxRecDepth 10000
set_option maxHeartbeats 1000000
end Go.V
namespace Go.V
def Iz (E:Nat) (q:Rat):Prop:=∃z:Int,q*((E:Int):Rat)=(z:Rat)
theorem Iz.zero (E:Nat):Iz E 0:=⟨0,by simp [Rat.zero_mul]⟩
theorem Iz.one (E:Nat):Iz E 1:=⟨(E:Int),by rw [Rat.one_mul]⟩
theorem Iz.add {E:Nat} {a b:Rat} (h1:Iz E a) (h2:Iz E b):Iz E (a+b):=by
 obtain ⟨x,hx⟩:=h1;obtain ⟨y,hy⟩:=h2
 exact ⟨x+y,by rw [Rat.add_mul,hx,hy,Rat.intCast_add]⟩
theorem Iz.neg {E:Nat} {a:Rat} (h:Iz E a):Iz E (-a):=by
 obtain ⟨x,hx⟩:=h
 exact ⟨-x,by rw [Rat.neg_mul,hx,Rat.intCast_neg]⟩
theorem Iz.mul {E F:Nat} {a b:Rat} (h1:Iz E a) (h2:Iz F b):Iz (E*F) (a*b):=by
 obtain ⟨x,hx⟩:=h1;obtain ⟨y,hy⟩:=h2
 refine ⟨x*y,?_⟩
 rw [Rat.intCast_mul,←hx,←hy,Int.natCast_mul,Rat.intCast_mul]
 grind
theorem Iz.more {E:Nat} {a:Rat} (h:Iz E a) (F:Nat):Iz (E*F) a:=by
 have:=h.mul (Iz.one F)
 rwa [Rat.mul_one] at this
theorem Iz.more' {E:Nat} {a:Rat} (h:Iz E a) (F:Nat):Iz (F*E) a:=by rw [Nat.mul_comm];exact h.more F
theorem natc (n:Nat):((n:Nat):Rat)=((n:Int):Rat):=(Rat.intCast_natCast n).symm
theorem Iz.den (a:Rat):Iz a.den a:=⟨a.num,by
 have h:mkRat a.num a.den=a:=Rat.mkRat_self a;have hp:((a.den:Int):Rat)≠0:=by have:=a.den_nz;exact_mod_cast this
 rw [Rat.mkRat_eq_div,natc] at h;have h3:=Rat.div_mul_cancel (a:=((a.num:Int):Rat)) hp;rw [h] at h3;exact h3⟩
theorem Iz.of_dvd {E F:Nat} {a:Rat} (h:Iz E a) (d:E∣F):Iz F a:=by obtain ⟨k,rfl⟩:=d;exact h.more k
theorem Iz.sz {E:Nat} {a:Rat} (h:Iz E a) (hE:E≠0) (h0:0≤a) (M:Nat) (h1:a≤((M:Int):Rat)):sz a≤max (bl (M*E)) (bl E):=by
 obtain ⟨z,hz⟩:=h;have hp:(0:Rat) < ((E:Int):Rat):=by
  have:(0:Int) < (E:Int):=by omega
  exact_mod_cast this
 have hz0:0≤z:=by
  have:(0:Rat)≤(z:Rat):=by rw [←hz];exact Rat.mul_nonneg h0 (Rat.le_of_lt hp)
  exact_mod_cast this
 have hz1:z≤((M*E:Nat):Int):=by
  have:(z:Rat)≤(((M*E:Nat):Int):Rat):=by
   rw [←hz,Int.natCast_mul,Rat.intCast_mul];exact Rat.mul_le_mul_of_nonneg_right h1 (Rat.le_of_lt hp)
  exact_mod_cast this
 obtain ⟨t,rfl⟩:∃t:Nat,z=(t:Int):=⟨z.toNat,by omega⟩;have ea:a=mkRat (sgn false t) E:=by
  have h2:=natc E;rw [sgn_f,Rat.mkRat_eq_div,←hz,h2,Rat.div_def,Rat.mul_assoc,Rat.mul_inv_cancel _ (Rat.ne_of_gt hp),Rat.mul_one]
 rw [ea];refine Nat.le_trans (sz_mkRat hE) ?_;have:=bl_mono (a:=t) (b:=M*E) (by omega);omega
def dens:List Rat→Nat
 | []=>1
 | q :: r=>q.den*dens r
theorem dens_pos:∀xs,dens xs≠0
 | []=>by decide
 | q :: r=>Nat.mul_ne_zero q.den_nz (dens_pos r)
theorem dens_dvd {q:Rat}:∀{xs:List Rat},q∈xs→q.den∣dens xs
 | x :: r,h=>by
  rcases List.mem_cons.1 h with rfl | h
  ·exact ⟨dens r,rfl⟩
  ·exact Nat.dvd_trans (dens_dvd h) ⟨x.den,Nat.mul_comm _ _⟩
theorem dens_bl {m:Nat}:∀{xs:List Rat},(∀q,q∈xs→Go.V.sz q≤m)→bl (dens xs)≤xs.length*m+1
 | [],_=>by show bl 1≤_;rw [bl_one];omega
 | x :: r,h=>by
  show bl (x.den*dens r)≤(r.length+1)*m+1
  have h1:=bl_mul x.den (dens r)
  have h2:=dens_bl (xs:=r) fun q hq=>h q (List.mem_cons_of_mem _ hq)
  have h3:=h x (by simp)
  have h4:=bl_den x
  have:(r.length+1)*m=r.length*m+m:=Nat.succ_mul _ _
  omega
end Go.V
