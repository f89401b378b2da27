/- Part 5: the abstract machine, its soundness, contracts of functions. -/
import Derived.Test.YtknemgholncjbaaGreatDoorK4
import Derived.Lib.ParseIntB
import Derived.Lib.Bytealg
import Derived.Test.YtknemgholncjbaaGreatDoorRshelf
import Derived.Lib.ConvBytes
import Derived.Lib.Strings
import Derived.Test.YtknemgholncjbaaGreatDoorK3
import Derived.Shelf.Strconv.Itoa3
import Derived.Lib.AppendIntMem
import Derived.Lib.SliceRun
import Derived.WalkKit
import Derived.Lib.Repeat
import Derived.Lib.Join
set_option linter.unusedVariables false
set_option linter.unusedSimpArgs false
namespace Go.V
open Go.Proofs
set_option maxRecDepth 10000
abbrev rI (q:Rat):AV:=.ag [B (ng q),nI (tp q),nI q.den]
theorem ndA {cs:List AV} (hf:∀k,AV.ments k cs=false):namesIn [] (.ag cs):=fun k h=>by
 have h':AV.ments k cs=true:=h
 rw [hf k] at h';cases h'
def sgI (q:Rat):Int:=if tp q=0 then 0 else if ng q then -1 else 1
theorem fn_magnitude (n:Int) (h1:-9223372036854775808≤n) (h2:n≤9223372036854775807):Fn Tryz.prog 26 [I n] [] (N64 n.natAbs) []:=by
 refine Fn.intro (ks:=[0,2,4]) hty rfl rfl rfl rfl rfl ?_
 conv=>whnf
 refine Br.mk (fun h=>?_) (fun h=>?_)
 ·simp only [decide_eq_true_eq] at h
  conv=>whnf
  refine Wr.is (y:=n+18446744073709551616) (by rw [wrap_u64];omega) ?_
  conv=>whnf
  refine Wr.is (y:=((n.natAbs:Nat):Int)) (by rw [wrap_u64];omega) ?_
  conv=>whnf
  exact ⟨rfl,trivial,rfl⟩
 ·simp only [decide_eq_false_iff_not] at h
  conv=>whnf
  refine Wr.n64 (n:=n.natAbs) (by omega) (by omega) ?_
  conv=>whnf
  exact ⟨rfl,trivial,rfl⟩
theorem fn_whole (n:Int) (h1:-9223372036854775808≤n) (h2:n≤9223372036854775807):Fn Tryz.prog 20 [I n] [] (rI n) []:=by
 obtain ⟨e1,e2,e3⟩:=int_parts n
 rw [show rI (n:Rat) = .ag [B (decide (n < 0)),nI n.natAbs,nI 1] by rw [rI,e1,e2,e3]]
 refine Fn.intro (ks:=[0,2]) hty rfl rfl rfl rfl rfl ?_
 conv=>whnf
 refine VCall.of_data (fn_magnitude n h1 h2) (nd _) ?_
 conv=>whnf
 refine VCall.of_data (fn_natOf n.natAbs (by omega)) (nd _) ?_
 conv=>whnf
 refine VCall.of_data (fn_natOf 1 (by omega)) (nd _) ?_
 conv=>whnf
 exact ⟨rfl,rfl,rfl,trivial,rfl⟩
theorem fn_sign (q:Rat) (hs:sz q≤1000000000000):Fn Tryz.prog 33 [rI q] [] (I (sgI q)) []:=by
 have hl:((cW .u32 (dg B32 (tp q))).length:Int)=(dg B32 (tp q)).length:=by rw [cW_len]
 have hz:=dg_len_zero b32 (n:=tp q)
 refine Fn.intro (ks:=[0,1,2,3,8]) hty rfl rfl rfl rfl rfl ?_
 conv=>whnf
 refine Br.mk (fun h=>?_) (fun h=>?_)
 ·have h0:tp q=0:=by simp only [decide_eq_true_eq] at h;exact hz.1 (by omega)
  conv=>whnf
  exact ⟨by rw [sgI,if_pos h0],trivial,rfl⟩
 ·have h0:¬tp q=0:=fun e=>by simp only [decide_eq_false_iff_not] at h;have:=hz.2 e;omega
  conv=>whnf
  refine Br.mk (fun h2=>?_) (fun h2=>?_)
  ·conv=>whnf
   exact ⟨by rw [sgI,if_neg h0,if_pos h2],trivial,rfl⟩
  ·conv=>whnf
   exact ⟨by rw [sgI,if_neg h0,if_neg (by rw [h2];decide)],trivial,rfl⟩
theorem mkRat_zero {s:Bool} {b:Nat}:mkRat (sgn s 0) b=0:=by
 have:sgn s 0=0:=by cases s <;> rfl
 rw [this,Rat.zero_mkRat]
theorem fn_lowest (s:Bool) (t b:Nat) (ht:bl t≤100000000000) (hb:bl b≤100000000000) (h0:b≠0):Fn Tryz.prog 24 [B s,nI t,nI b] [] (rI (mkRat (sgn s t) b)) []:=by
 have hl:((cW .u32 (dg B32 t)).length:Int)=(dg B32 t).length:=by rw [cW_len]
 have hz:=dg_len_zero b32 (n:=t)
 obtain ⟨p1,p2,p3⟩:=mkRat_parts (s:=s) (t:=t) h0
 have hg0:t.gcd b≠0:=fun e=>h0 (Nat.gcd_eq_zero_iff.1 e).2
 have hgl:bl (t.gcd b)≤100000000000:=Nat.le_trans (bl_mono (Nat.gcd_le_right _ (Nat.pos_of_ne_zero h0))) hb
 have cg:=fn_gcd t b ht hb
 obtain ⟨g,eg⟩:∃g,t.gcd b=g:=⟨_,rfl⟩
 rw [eg] at cg hg0 hgl p2 p3
 have hlg:((cW .u32 (dg B32 g)).length:Int)=(dg B32 g).length:=by rw [cW_len]
 refine Fn.intro (ks:=[0,1,2,6,7,10,24]) hty rfl rfl rfl rfl rfl ?_
 conv=>whnf
 refine Br.mk (fun h=>?_) (fun h=>?_)
 ·have ht0:t=0:=by simp only [decide_eq_true_eq] at h;exact hz.1 (by omega)
  rw [show rI (mkRat (sgn s t) b) = .ag [B false,nI 0,nI 1] by rw [ht0,mkRat_zero];rfl]
  conv=>whnf
  refine VCall.of_data (fn_natOf 1 (by omega)) (nd _) ?_
  conv=>whnf
  exact ⟨rfl,rfl,trivial,rfl⟩
 ·have ht0:¬t=0:=fun e=>by simp only [decide_eq_false_iff_not] at h;have:=hz.2 e;omega
  rw [show rI (mkRat (sgn s t) b) = .ag [B s,nI (t / g),nI (b / g)] by rw [rI,p1,p2,p3];simp [ht0]]
  conv=>whnf
  refine VCall.of_data cg (nd _) ?_
  conv=>whnf
  refine Br.mk (fun h2=>?_) (fun h2=>?_)
  ·have hg1:(dg B32 g).length=1:=by simp only [decide_eq_true_eq] at h2;omega
   have hgB:g < 4294967296:=by
    have:=lt_of_len b32 g
    rw [hg1] at this;simpa using this
   have hd:dg B32 g=[g]:=dg_small b32 hgB hg0
   conv=>whnf
   refine ⟨⟨⟨by omega,by omega⟩,cW_sz _ _⟩,?_⟩
   conv=>whnf
   refine ⟨[.s (.int .u32 (g:Nat))],by rw [hd];rfl,?_⟩
   conv=>whnf
   refine Br.mk (fun h3=>?_) (fun h3=>?_)
   ·have h3:g=1:=by simp only [decide_eq_true_eq] at h3;omega
    rw [h3,Nat.div_one,Nat.div_one]
    conv=>whnf
    exact ⟨rfl,rfl,rfl,trivial,rfl⟩
   ·conv=>whnf
    refine VCall.of_data (fn_div t g ht hgl hg0) (ndT (fun k=>rfl)) ?_
    conv=>whnf
    refine VCall.of_data (fn_div b g hb hgl hg0) (ndT (fun k=>rfl)) ?_
    conv=>whnf
    exact ⟨rfl,rfl,rfl,trivial,rfl⟩
  ·conv=>whnf
   refine VCall.of_data (fn_div t g ht hgl hg0) (ndT (fun k=>rfl)) ?_
   conv=>whnf
   refine VCall.of_data (fn_div b g hb hgl hg0) (ndT (fun k=>rfl)) ?_
   conv=>whnf
   exact ⟨rfl,rfl,rfl,trivial,rfl⟩
end Go.V
namespace Go.V
open Go.Proofs
set_option maxRecDepth 10000
theorem sgI_zero {q:Rat}:sgI q=0↔q=0:=by
 unfold sgI
 rw [←tp_zero]
 split
 ·simp [*]
 ·split <;> simp [*]
theorem cmpZ_nonneg {a b:Nat}:0≤cmpZ a b↔b≤a:=by
 rcases Nat.lt_trichotomy a b with h | h | h
 ·rw [cmpZ_lt h];constructor
  ·intro h2;exact absurd h2 (by decide)
  ·intro h2;omega
 ·subst h;rw [cmpZ_eq];simp
 ·rw [cmpZ_gt h];constructor
  ·intro _;omega
  ·intro _;decide
theorem cmpZ_zero {a b:Nat}:cmpZ a b=0↔a=b:=by
 rcases Nat.lt_trichotomy a b with h | h | h
 ·rw [cmpZ_lt h];constructor
  ·intro h2;exact absurd h2 (by decide)
  ·intro h2;omega
 ·subst h;rw [cmpZ_eq];simp
 ·rw [cmpZ_gt h];constructor
  ·intro h2;exact absurd h2 (by decide)
  ·intro h2;omega
theorem fn_radd (p q:Rat) (hp:sz p+sz q≤99999999999):Fn Tryz.prog 21 [rI p,rI q] [] (rI (p+q)) []:=by
 have b1:=bl_tp p
 have b2:=bl_den p
 have b3:=bl_tp q
 have b4:=bl_den q
 refine Fn.intro (ks:=[0,1,2,3,4,5,6,7,10,14,27,43,56]) hty rfl rfl rfl rfl rfl ?_
 conv=>whnf
 refine VCall.of_data (fn_sign p (by omega)) (nd _) ?_
 conv=>whnf
 refine Br.mk (fun h=>?_) (fun h=>?_)
 ·have h0:p=0:=sgI_zero.1 (by simpa only [decide_eq_true_eq] using h)
  rw [h0,Rat.zero_add]
  conv=>whnf
  exact ⟨rfl,rfl,rfl,trivial,rfl⟩
 ·conv=>whnf
  refine VCall.of_data (fn_sign q (by omega)) (nd _) ?_
  conv=>whnf
  refine Br.mk (fun h2=>?_) (fun h2=>?_)
  ·have h0:q=0:=sgI_zero.1 (by simpa only [decide_eq_true_eq] using h2)
   rw [h0,Rat.add_zero]
   conv=>whnf
   exact ⟨rfl,rfl,rfl,trivial,rfl⟩
  ·conv=>whnf
   refine VDraw.go hmo hty 9 [] rfl ?_
   conv=>whnf
   refine VCall.of_data (fn_cmp p.den q.den (by omega) (by omega)) (nd _) ?_
   conv=>whnf
   refine Br.mk (fun h4=>?_) (fun h4=>?_)
   ·have k1:=bl_mul (tp p) q.den
    have k2:=bl_mul (tp q) p.den
    have k3:=bl_mul p.den q.den
    conv=>whnf
    refine VDraw.go hmo hty 18 [] rfl ?_
    conv=>whnf
    refine QCall.of_data (fn_mul (tp p) q.den (by omega) (by omega)) (nd _) ?_
    conv=>whnf
    refine QCall.of_data (fn_mul (tp q) p.den (by omega) (by omega)) (nd _) ?_
    conv=>whnf
    refine QCall.of_data (fn_mul p.den q.den (by omega) (by omega)) (nd _) ?_
    have hsum:=add_parts p q
    have hb0:p.den*q.den≠0:=Nat.mul_ne_zero p.den_nz q.den_nz
    obtain ⟨x,ex⟩:∃x,tp p*q.den=x:=⟨_,rfl⟩
    obtain ⟨y,ey⟩:∃x,tp q*p.den=x:=⟨_,rfl⟩
    obtain ⟨b,eb⟩:∃x,p.den*q.den=x:=⟨_,rfl⟩
    rw [ex,ey,eb] at hsum
    rw [ex] at k1
    rw [ey] at k2
    rw [eb] at k3 hb0
    have hbb:bl b≤100000000000:=by omega
    rw [ex,ey,eb]
    conv=>whnf
    refine Br.mk (fun h5=>?_) (fun h5=>?_)
    ·have h5:ng p=ng q:=by simpa using h5
     have er:p+q=mkRat (sgn (ng p) (x+y)) b:=by rw [hsum,sgn_add,if_pos h5]
     have hxy:=bl_add x y
     rw [er]
     conv=>whnf
     refine VDraw.go hmo hty 7 [] rfl ?_
     conv=>whnf
     refine QCall.of_data (fn_add x y (by omega) (by omega)) (nd _) ?_
     conv=>whnf
     refine QCall.of_data (fn_lowest (ng p) (x+y) b (by omega) hbb hb0) (ndA fun k=>rfl) ?_
     conv=>whnf
     exact ⟨rfl,rfl,rfl,trivial,rfl⟩
    ·have h5:¬ng p=ng q:=by simpa using h5
     conv=>whnf
     refine VCall.of_data (fn_cmp x y (by omega) (by omega)) (nd _) ?_
     conv=>whnf
     refine Br.mk (fun h6=>?_) (fun h6=>?_)
     ·have h6:y≤x:=cmpZ_nonneg.1 (by simpa only [decide_eq_true_eq] using h6)
      have er:p+q=mkRat (sgn (ng p) (x - y)) b:=by rw [hsum,sgn_add,if_neg h5,if_pos h6]
      have hxy:=bl_mono (Nat.sub_le x y)
      rw [er]
      conv=>whnf
      refine VDraw.go hmo hty 7 [] rfl ?_
      conv=>whnf
      refine QCall.of_data (fn_sub x y (by omega) h6) (nd _) ?_
      conv=>whnf
      refine QCall.of_data (fn_lowest (ng p) (x - y) b (by omega) hbb hb0) (ndA fun k=>rfl) ?_
      conv=>whnf
      exact ⟨rfl,rfl,rfl,trivial,rfl⟩
     ·have h6:¬y≤x:=fun h=>by simp only [decide_eq_false_iff_not] at h6;exact h6 (cmpZ_nonneg.2 h)
      have er:p+q=mkRat (sgn (ng q) (y - x)) b:=by rw [hsum,sgn_add,if_neg h5,if_neg h6]
      have hxy:=bl_mono (Nat.sub_le y x)
      rw [er]
      conv=>whnf
      refine VDraw.go hmo hty 7 [] rfl ?_
      conv=>whnf
      refine QCall.of_data (fn_sub y x (by omega) (by omega)) (nd _) ?_
      conv=>whnf
      refine QCall.of_data (fn_lowest (ng q) (y - x) b (by omega) hbb hb0) (ndA fun k=>rfl) ?_
      conv=>whnf
      exact ⟨rfl,rfl,rfl,trivial,rfl⟩
   ·have hd:p.den=q.den:=cmpZ_zero.1 (by simpa using h4)
    have hsum:=add_same hd
    have hb0:=p.den_nz
    have hbb:bl p.den≤100000000000:=by omega
    obtain ⟨x,ex⟩:∃x,tp p=x:=⟨_,rfl⟩
    obtain ⟨y,ey⟩:∃x,tp q=x:=⟨_,rfl⟩
    obtain ⟨b,eb⟩:∃x,p.den=x:=⟨_,rfl⟩
    rw [ex,ey,eb] at hsum
    rw [ex] at b1
    rw [ey] at b3
    rw [eb] at hb0 hbb
    rw [ex,ey,eb]
    conv=>whnf
    refine Br.mk (fun h5=>?_) (fun h5=>?_)
    ·have h5:ng p=ng q:=by simpa using h5
     have er:p+q=mkRat (sgn (ng p) (x+y)) b:=by rw [hsum,sgn_add,if_pos h5]
     have hxy:=bl_add x y
     rw [er]
     conv=>whnf
     refine VDraw.go hmo hty 7 [] rfl ?_
     conv=>whnf
     refine QCall.of_data (fn_add x y (by omega) (by omega)) (nd _) ?_
     conv=>whnf
     refine QCall.of_data (fn_lowest (ng p) (x+y) b (by omega) hbb hb0) (ndA fun k=>rfl) ?_
     conv=>whnf
     exact ⟨rfl,rfl,rfl,trivial,rfl⟩
    ·have h5:¬ng p=ng q:=by simpa using h5
     conv=>whnf
     refine VCall.of_data (fn_cmp x y (by omega) (by omega)) (nd _) ?_
     conv=>whnf
     refine Br.mk (fun h6=>?_) (fun h6=>?_)
     ·have h6:y≤x:=cmpZ_nonneg.1 (by simpa only [decide_eq_true_eq] using h6)
      have er:p+q=mkRat (sgn (ng p) (x - y)) b:=by rw [hsum,sgn_add,if_neg h5,if_pos h6]
      have hxy:=bl_mono (Nat.sub_le x y)
      rw [er]
      conv=>whnf
      refine VDraw.go hmo hty 7 [] rfl ?_
      conv=>whnf
      refine QCall.of_data (fn_sub x y (by omega) h6) (nd _) ?_
      conv=>whnf
      refine QCall.of_data (fn_lowest (ng p) (x - y) b (by omega) hbb hb0) (ndA fun k=>rfl) ?_
      conv=>whnf
      exact ⟨rfl,rfl,rfl,trivial,rfl⟩
     ·have h6:¬y≤x:=fun h=>by simp only [decide_eq_false_iff_not] at h6;exact h6 (cmpZ_nonneg.2 h)
      have er:p+q=mkRat (sgn (ng q) (y - x)) b:=by rw [hsum,sgn_add,if_neg h5,if_neg h6]
      have hxy:=bl_mono (Nat.sub_le y x)
      rw [er]
      conv=>whnf
      refine VDraw.go hmo hty 7 [] rfl ?_
      conv=>whnf
      refine QCall.of_data (fn_sub y x (by omega) (by omega)) (nd _) ?_
      conv=>whnf
      refine QCall.of_data (fn_lowest (ng q) (y - x) b (by omega) hbb hb0) (ndA fun k=>rfl) ?_
      conv=>whnf
      exact ⟨rfl,rfl,rfl,trivial,rfl⟩
end Go.V
namespace Go.V
open Go.Proofs
set_option maxRecDepth 10000
theorem fn_rmul (p q:Rat) (hp:sz p≤100000000000) (hq:sz q≤100000000000):Fn Tryz.prog 22 [rI p,rI q] [] (rI (p*q)) []:=by
 have b1:=bl_tp p
 have b2:=bl_den p
 have b3:=bl_tp q
 have b4:=bl_den q
 refine Fn.intro (ks:=[0,1,2,3,4,5,6,14]) hty rfl rfl rfl rfl rfl ?_
 conv=>whnf
 refine VCall.of_data (fn_sign p (by omega)) (nd _) ?_
 conv=>whnf
 refine Br.mk (fun h=>?_) (fun h=>?_)
 ·have h0:p=0:=sgI_zero.1 (by simpa only [decide_eq_true_eq] using h)
  rw [h0,Rat.zero_mul]
  conv=>whnf
  refine VCall.of_data (fn_whole 0 (by decide) (by decide)) (ndA fun k=>rfl) ?_
  conv=>whnf
  exact ⟨rfl,rfl,rfl,trivial,rfl⟩
 ·have h0:p≠0:=fun e=>by simp only [decide_eq_false_iff_not] at h;exact h (sgI_zero.2 e)
  conv=>whnf
  refine VCall.of_data (fn_sign q (by omega)) (nd _) ?_
  conv=>whnf
  refine Br.mk (fun h2=>?_) (fun h2=>?_)
  ·have h0:q=0:=sgI_zero.1 (by simpa only [decide_eq_true_eq] using h2)
   rw [h0,Rat.mul_zero]
   conv=>whnf
   refine VCall.of_data (fn_whole 0 (by decide) (by decide)) (ndA fun k=>rfl) ?_
   conv=>whnf
   exact ⟨rfl,rfl,rfl,trivial,rfl⟩
  ·have h2':q≠0:=fun e=>by simp only [decide_eq_false_iff_not] at h2;exact h2 (sgI_zero.2 e)
   obtain ⟨m1,m2,m3⟩:=lowest_mul (a:=p) (b:=q)
   rw [decide_eq_true (mt tp_zero.1 h0),decide_eq_true (mt tp_zero.1 h2'),Bool.and_true,Bool.and_true] at m3
   obtain ⟨x1,x2,x3⟩:=mkRat_parts (s:=false) (t:=tp p) q.den_nz
   obtain ⟨y1,y2,y3⟩:=mkRat_parts (s:=false) (t:=tp q) p.den_nz
   conv=>whnf
   refine VDraw.go hmo hty 12 [[5,6],[5,6],[5,6],[5,6],[5,6],[5,6],[5,6],[5,6],[5,6],[5,6],[6],[5]] rfl ?_
   conv=>whnf
   refine QCall.of_data (fn_lowest false (tp p) q.den (by omega) (by omega) q.den_nz) (ndA fun k=>rfl) ?_
   conv=>whnf
   refine QCall.of_data (fn_lowest false (tp q) p.den (by omega) (by omega) p.den_nz) (ndA fun k=>rfl) ?_
   rw [show rI (p*q) = .ag [B (ng p != ng q),nI (tp (mkRat (sgn false (tp p)) q.den)*tp (mkRat (sgn false (tp q)) p.den)),nI ((mkRat (sgn false (tp p)) q.den).den*(mkRat (sgn false (tp q)) p.den).den)] by rw [rI,m1,m2,m3,x2,x3,y2,y3]]
   have s1:=sz_mkRat (s:=false) (t:=tp p) q.den_nz
   have s2:=sz_mkRat (s:=false) (t:=tp q) p.den_nz
   obtain ⟨x,ex⟩:∃x,mkRat (sgn false (tp p)) q.den=x:=⟨_,rfl⟩
   obtain ⟨y,ey⟩:∃x,mkRat (sgn false (tp q)) p.den=x:=⟨_,rfl⟩
   rw [ex] at s1
   rw [ey] at s2
   rw [ex,ey]
   have c1:=bl_tp x
   have c2:=bl_den x
   have c3:=bl_tp y
   have c4:=bl_den y
   conv=>whnf
   refine VDraw.go hmo hty 16 [] rfl ?_
   conv=>whnf
   refine QCall.of_data (fn_mul (tp x) (tp y) (by omega) (by omega)) (nd _) ?_
   conv=>whnf
   refine QCall.of_data (fn_mul x.den y.den (by omega) (by omega)) (nd _) ?_
   conv=>whnf
   exact ⟨rfl,rfl,rfl,trivial,rfl⟩
theorem cmpZ_neg {a b:Nat}:cmpZ a b < 0↔a < b:=by
 have:=cmpZ_nonneg (a:=a) (b:=b)
 omega
end Go.V
namespace Go.V
open Go.Proofs
set_option maxRecDepth 10000
def c1Q (q:Rat):List C:=[.s (.bool (ng q)),.sl (cW .u32 (dg B32 (tp q))),.sl (cW .u32 (dg B32 q.den))]
def cQ (xs:List Rat):List (List C):=xs.map c1Q
theorem cQ_len (xs:List Rat):(cQ xs).length=xs.length:=by simp [cQ]
theorem cQ_sz (xs:List Rat):∀r,r∈cQ xs→r.length=3:=by
 intro r hr;simp only [cQ,List.mem_map] at hr;obtain ⟨n,_,rfl⟩:=hr;rfl
theorem cQ_get {xs:List Rat} {i:Nat} (h:i < xs.length):(cQ xs)[i]? = some (c1Q xs[i]):=by simp [cQ,h]
theorem cQ_append (xs ys:List Rat):cQ xs++cQ ys=cQ (xs++ys):=by simp [cQ]
theorem cQ_as {xs:List Rat} {i:Nat} {x:Rat} (h:i < xs.length) (e:xs.getD i 0=x):(cQ xs)[i]? = some (c1Q x):=by
 rw [cQ_get h];subst e;rw [List.getD_eq_getElem?_getD,List.getElem?_eq_getElem h];rfl
abbrev lQ (xs:List Rat):AV:=.d (.sl (cQ xs))
def psum (xs:List Rat):Nat→Rat
 | 0=>0
 | i+1=>psum xs i+xs.getD i 0
def rsum (xs:List Rat):Rat:=psum xs xs.length
theorem getD_sz {xs:List Rat} {m:Nat} (h:∀q,q∈xs→sz q≤m) (i:Nat) (h1:1≤m):sz (xs.getD i 0)≤m:=by
 rw [List.getD_eq_getElem?_getD]
 by_cases hi:i < xs.length
 ·rw [List.getElem?_eq_getElem hi];exact h _ (by simp)
 ·rw [List.getElem?_eq_none (by omega)];exact Nat.le_trans (by decide:sz (0:Rat)≤1) h1
theorem sz_psum {xs:List Rat} {m:Nat} (h:∀q,q∈xs→sz q≤m) (h1:1≤m):∀i,sz (psum xs i)≤i*(m+1)+1
 | 0=>by show sz (0:Rat)≤_;exact Nat.le_trans (by decide:sz (0:Rat)≤1) (by omega)
 | i+1=>by
  show sz (psum xs i+xs.getD i 0)≤_
  have h2:=sz_add (psum xs i) (xs.getD i 0)
  have h3:=sz_psum h h1 i
  have h4:=getD_sz h i h1
  have:(i+1)*(m+1)=i*(m+1)+(m+1):=Nat.succ_mul _ _
  omega
end Go.V
namespace Go.V
section
variable {B:Nat}
theorem dg_fit (hB:2≤B) {l:List Nat} {n:Nat} (hl:∀x,x∈l→x < B) (hv:vl B l=n) (h:l=[]∨B ^ (l.length - 1)≤n):dg B n=l:=by
 apply dg_of hB ⟨hl,fun e=>?_⟩ hv
 have hne:l≠[]:=by rintro rfl;simp at e
 have hpos:0 < l.length:=List.length_pos_iff.2 hne
 rw [List.getLast?_eq_getElem?,List.getElem?_eq_getElem (by omega)] at e
 have e0:l[l.length - 1]=0:=Option.some.inj e
 have h1:=vl_take_succ (B:=B) (l:=l) (k:=l.length - 1) (by omega)
 rw [e0,show l.length - 1+1=l.length by omega,List.take_length,Nat.mul_zero,Nat.add_zero,hv] at h1
 have h2:=vl_lt (B:=B) (l:=l.take (l.length - 1)) fun x hx=>hl x (List.mem_of_mem_take hx)
 rw [List.length_take,Nat.min_eq_left (by omega)] at h2
 rcases h with h | h
 ·exact hne h
 ·omega
theorem len_lo (hB:2≤B) {n:Nat} (h:dg B n≠[]):B ^ ((dg B n).length - 1)≤n:=by
 apply Nat.le_of_not_lt
 intro h1
 have h2:=dg_len_le hB h1
 have:0 < (dg B n).length:=List.length_pos_iff.2 h
 omega
theorem snoc_lt' {l:List Nat} {d:Nat} (h:∀x,x∈l→x < B) (hd:d < B):∀x,x∈l++[d]→x < B:=fun x hx=>by
 rcases List.mem_append.1 hx with hx | hx
 ·exact h x hx
 ·rw [List.mem_singleton] at hx;omega
def SumI (B:Nat) (a b:List Nat) (s:List Nat×Nat):Prop :=
 (∀x,x∈s.1→x < B)∧s.2≤1∧vl B s.1+B ^ s.1.length*s.2=vl B (a.take s.1.length)+vl B (b.take s.1.length) ∧
 (s.1.length≤max a.length b.length∨s.2=0∧s.1.length=max a.length b.length+1∧B ^ (s.1.length - 1)≤vl B a+vl B b)
theorem SumI.init (a b:List Nat):SumI B a b ([],0):=⟨by simp,by simp,by simp [vl],.inl (Nat.zero_le _)⟩
theorem SumI.step (hB:2≤B) {a b:List Nat} {s:List Nat×Nat} (ha:∀x,x∈a→x < B) (hb:∀x,x∈b→x < B) (h:SumI B a b s) (hc:s.1.length < a.length∨s.1.length < b.length∨0 < s.2) :
  s.1.length≤max a.length b.length∧SumI B a b (s.1++[(s.2+a.getD s.1.length 0+b.getD s.1.length 0) % B],(s.2+a.getD s.1.length 0+b.getD s.1.length 0) / B):=by
 obtain ⟨h1,h2,h3,h4⟩:=h
 have hle:s.1.length≤max a.length b.length:=by omega
 have hx:=getD_lt ha (by omega) s.1.length
 have hy:=getD_lt hb (by omega) s.1.length
 have hst:=add_step h3
 refine ⟨hle,snoc_lt' h1 (Nat.mod_lt _ (by omega)),?_,by rw [List.length_append];exact hst,?_⟩
 ·show _ / B≤1
  have:s.2+a.getD s.1.length 0+b.getD s.1.length 0 < B*2:=by omega
  have:=Nat.div_lt_of_lt_mul this
  omega
 ·rcases Nat.lt_or_ge s.1.length (max a.length b.length) with hlt | hge
  ·left;simp only [List.length_append,List.length_singleton];omega
  ·right
   have hxa:a.getD s.1.length 0=0:=by rw [List.getD_eq_getElem?_getD,List.getElem?_eq_none (by omega)];rfl
   have hxb:b.getD s.1.length 0=0:=by rw [List.getD_eq_getElem?_getD,List.getElem?_eq_none (by omega)];rfl
   rw [hxa,hxb]
   have hs2:s.2=1:=by omega
   rw [List.take_of_length_le (by omega),List.take_of_length_le (by omega),hs2,Nat.mul_one] at h3
   refine ⟨?_,by simp only [List.length_append,List.length_singleton];omega,?_⟩
   ·show _ / B=0
    rw [hs2];exact Nat.div_eq_of_lt (by omega)
   ·show B ^ ((s.1++[_]).length - 1)≤_
    rw [List.length_append,List.length_singleton,Nat.add_sub_cancel];omega
theorem SumI.done (hB:2≤B) {m n:Nat} {s:List Nat×Nat} (h:SumI B (dg B m) (dg B n) s) (hc:¬(s.1.length < (dg B m).length∨s.1.length < (dg B n).length∨0 < s.2)):s.1=dg B (m+n):=by
 obtain ⟨h1,h2,h3,h4⟩:=h
 have hs0:s.2=0:=by omega
 rw [List.take_of_length_le (by omega),List.take_of_length_le (by omega),hs0,Nat.mul_zero,Nat.add_zero,vl_dg hB,vl_dg hB] at h3
 rw [vl_dg hB,vl_dg hB] at h4
 refine (dg_fit hB h1 h3 ?_).symm
 rcases h4 with h4 | ⟨_,_,h4⟩
 ·by_cases he:s.1=[]
  ·exact .inl he
  right
  have:0 < s.1.length:=List.length_pos_iff.2 he
  rcases Nat.lt_or_ge (dg B m).length s.1.length with hm | hm
  ·have e:s.1.length=(dg B n).length:=by omega
   have:=len_lo hB (n:=n) (by intro e2;rw [e2,List.length_nil] at e;omega)
   rw [e];omega
  ·have e:s.1.length=(dg B m).length:=by omega
   have:=len_lo hB (n:=m) (by intro e2;rw [e2,List.length_nil] at e;omega)
   rw [e];omega
 ·exact .inr h4
def NatI (B N:Nat) (s:List Nat×Nat):Prop:=(∀x,x∈s.1→x < B)∧vl B s.1+B ^ s.1.length*s.2=N∧(s.2=0→s.1=[]∨B ^ (s.1.length - 1)≤N)
theorem NatI.init (N:Nat):NatI B N ([],N):=⟨by simp,by simp [vl],fun _=>.inl rfl⟩
theorem NatI.step (hB:2≤B) {N:Nat} {s:List Nat×Nat} (h:NatI B N s) (h0:0 < s.2):NatI B N (s.1++[s.2 % B],s.2 / B)∧s.2 / B < s.2:=by
 obtain ⟨h1,h2,h3⟩:=h
 refine ⟨⟨snoc_lt' h1 (Nat.mod_lt _ (by omega)),?_,fun _=>.inr ?_⟩,Nat.div_lt_self h0 (by omega)⟩
 ·show vl B (s.1++[s.2 % B])+B ^ (s.1++[s.2 % B]).length*(s.2 / B)=N
  rw [vl_snoc,List.length_append,List.length_singleton,Nat.pow_succ]
  have:=split_digit (B:=B) (P:=B ^ s.1.length) (x:=s.2)
  omega
 ·show B ^ ((s.1++[s.2 % B]).length - 1)≤N
  rw [List.length_append,List.length_singleton,Nat.add_sub_cancel]
  have:=Nat.mul_le_mul_left (B ^ s.1.length) h0
  omega
theorem NatI.done (hB:2≤B) {N:Nat} {s:List Nat×Nat} (h:NatI B N s) (h0:s.2=0):s.1=dg B N:=by
 obtain ⟨h1,h2,h3⟩:=h
 rw [h0,Nat.mul_zero,Nat.add_zero] at h2
 exact (dg_fit hB h1 h2 (h3 h0)).symm
def ShmI (B:Nat) (a:List Nat) (d:Nat) (s:List Nat×Nat):Prop:=s.1.length≤a.length∧(∀x,x∈s.1→x < B)∧s.2 < B∧vl B s.1+B ^ s.1.length*s.2=d*vl B (a.take s.1.length)
theorem ShmI.init (hB:2≤B) (a:List Nat) (d:Nat):ShmI B a d ([],0):=⟨Nat.zero_le _,by simp,by show 0 < B;omega,by simp [vl]⟩
theorem ShmI.step {a:List Nat} {d:Nat} {s:List Nat×Nat} (ha:∀x,x∈a→x < B) (hd:d < B) (h:ShmI B a d s) (hi:s.1.length < a.length) :
  a.getD s.1.length 0*d+s.2 < B*B∧ShmI B a d (s.1++[(a.getD s.1.length 0*d+s.2) % B],(a.getD s.1.length 0*d+s.2) / B):=by
 obtain ⟨h1,h2,h3,h4⟩:=h
 have hx:=getD_lt ha (by omega) s.1.length
 have hb:=mul_bound hx hd (show 0 < B by omega) h3
 rw [Nat.add_zero,Nat.add_comm] at hb
 refine ⟨hb.1,by simp only [List.length_append,List.length_singleton];omega,snoc_lt' h2 (Nat.mod_lt _ (by omega)),hb.2,?_⟩
 show vl B (s.1++[_])+B ^ (s.1++[_]).length*(_ / B)=d*vl B (a.take (s.1++[_]).length)
 rw [vl_snoc,List.length_append,List.length_singleton,vl_take_getD,Nat.pow_succ]
 have h5:=split_digit (B:=B) (P:=B ^ s.1.length) (x:=a.getD s.1.length 0*d+s.2)
 rw [Nat.mul_add (B ^ s.1.length)] at h5
 have h6:d*(vl B (a.take s.1.length)+B ^ s.1.length*a.getD s.1.length 0)=d*vl B (a.take s.1.length)+B ^ s.1.length*(a.getD s.1.length 0*d):=by grind
 rw [h6];omega
theorem ShmI.done (hB:2≤B) {n d:Nat} (hd:0 < d) {s:List Nat×Nat} (h:ShmI B (dg B n) d s) (hl:s.1.length=(dg B n).length) :
  (0 < s.2→s.1++[s.2]=dg B (n*d))∧(s.2=0→s.1=dg B (n*d)):=by
 obtain ⟨h1,h2,h3,h4⟩:=h
 rw [List.take_of_length_le (by omega),vl_dg hB,Nat.mul_comm d n] at h4
 refine ⟨fun h0=>(dg_fit hB (snoc_lt' h2 h3) (by rw [vl_snoc];exact h4) (.inr ?_)).symm,fun h0=>(dg_fit hB h2 (by rw [h0] at h4;simpa using h4) ?_).symm⟩
 ·rw [List.length_append,List.length_singleton,Nat.add_sub_cancel]
  have:=Nat.mul_le_mul_left (B ^ s.1.length) h0
  omega
 ·by_cases he:s.1=[]
  ·exact .inl he
  right
  have h5:=len_lo hB (n:=n) (by intro e;apply he;rw [e] at hl;exact List.eq_nil_of_length_eq_zero hl)
  rw [hl]
  have h6:n*1≤n*d:=Nat.mul_le_mul_left _ hd
  omega
def OffI (B:Nat) (W v:List Nat) (g:Nat) (s:List Nat×Nat):Prop:=s.1.length≤v.length∧(∀x,x∈s.1→x < B)∧s.2 < B∧vl B s.1+g*vl B (v.take s.1.length)=vl B (W.take s.1.length)+B ^ s.1.length*s.2
theorem OffI.init (hB:2≤B) (W v:List Nat) (g:Nat):OffI B W v g ([],0):=⟨Nat.zero_le _,by simp,by show 0 < B;omega,by simp [vl]⟩
theorem OffI.step (hB:2≤B) {W v:List Nat} {g d l:Nat} {s:List Nat×Nat} (hv:∀x,x∈v→x < B) (hg:g < B) (h:OffI B W v g s) (hi:s.1.length < v.length) (hd:d < B)
  (he:d+v.getD s.1.length 0*g % B+s.2=W.getD s.1.length 0+B*l) :
  OffI B W v g (s.1++[d],v.getD s.1.length 0*g / B+l):=by
 obtain ⟨h1,h2,h3,h4⟩:=h
 have key:vl B (s.1++[d])+g*vl B (v.take (s.1.length+1))=vl B (W.take (s.1.length+1))+B ^ (s.1.length+1)*(v.getD s.1.length 0*g / B+l):=by
  rw [vl_snoc,vl_take_getD,vl_take_getD,Nat.pow_succ]
  have h5:=congrArg (B ^ s.1.length * ·) he
  have h6:=split_digit (B:=B) (P:=B ^ s.1.length) (x:=v.getD s.1.length 0*g)
  simp only [Nat.mul_add,←Nat.mul_assoc] at h5 h6 h4 ⊢
  rw [show g*B ^ s.1.length*v.getD s.1.length 0=B ^ s.1.length*v.getD s.1.length 0*g by grind]
  omega
 have hr:=snoc_lt' h2 hd
 refine ⟨by simp only [List.length_append,List.length_singleton];omega,hr,?_,by rw [List.length_append];exact key⟩
 have h5:=vl_lt hr
 rw [List.length_append,List.length_singleton] at h5
 have h6:=vl_lt (B:=B) (l:=v.take (s.1.length+1)) fun x hx=>hv x (List.mem_of_mem_take hx)
 rw [List.length_take,Nat.min_eq_left (by omega)] at h6
 show v.getD s.1.length 0*g / B+l < B
 generalize v.getD s.1.length 0*g / B+l=c at *
 apply Nat.lt_of_not_le
 intro hc
 have h7:=Nat.mul_le_mul_left (B ^ (s.1.length+1)) hc
 have h8:g*vl B (v.take (s.1.length+1))≤(B - 1)*B ^ (s.1.length+1):=Nat.mul_le_mul (by omega) (by omega)
 have h9:(B - 1)*B ^ (s.1.length+1)+B ^ (s.1.length+1)=B ^ (s.1.length+1)*B:=by
  obtain ⟨n,rfl⟩:∃n,B=n+1:=⟨B - 1,by omega⟩
  rw [Nat.add_sub_cancel];grind
 omega
theorem OffI.done {W v:List Nat} {g n:Nat} {s:List Nat×Nat} (hv:∀x,x∈v→x < B) (h:OffI B W v g s) (hl:s.1.length=n) (hn:v.length=n) (hW:W.length=n+1) (hg:g*vl B v≤vl B W+vl B v) :
  (s.2≤W.getD n 0→g*vl B v≤vl B W∧vl B (s.1++[W.getD n 0 - s.2])=vl B W - g*vl B v) ∧
  (W.getD n 0 < s.2→vl B W < g*vl B v∧s.2=W.getD n 0+1∧vl B s.1+vl B v=B ^ n+(vl B W+vl B v - g*vl B v)∧vl B W+vl B v - g*vl B v < B ^ n):=by
 obtain ⟨h1,h2,h3,h4⟩:=h
 have h5:=vl_take_getD (B:=B) W n
 rw [List.take_of_length_le (by omega)] at h5
 rw [hl] at h4
 have h6:=vl_lt h2
 rw [hl] at h6
 have hVn:=vl_lt hv
 rw [hn] at hVn
 rw [List.take_of_length_le (by omega)] at h4
 generalize vl B v=V at *
 generalize W.getD n 0=w at *
 generalize g*V=gV at *
 constructor
 ·intro hle
  have e:B ^ n*w=B ^ n*s.2+B ^ n*(w - s.2):=by rw [←Nat.mul_add,show s.2+(w - s.2)=w by omega]
  refine ⟨by omega,?_⟩
  rw [vl_snoc,hl]
  omega
 ·intro hlt
  have hk:s.2=w+1:=by
   apply Classical.byContradiction
   intro hne
   have h7:=Nat.mul_le_mul_left (B ^ n) (by omega:w+2≤s.2)
   rw [Nat.mul_add] at h7
   omega
  rw [hk,Nat.mul_add,Nat.mul_one] at h4
  refine ⟨by omega,hk,by omega,by omega⟩
end
end Go.V
namespace Go.V
open Lib (decDigits)
def IsD (b:UInt8):Prop:=48≤b.toNat∧b.toNat≤57
def dvA:List UInt8→Nat→Nat
 | [],n=>n
 | b :: r,n=>dvA r (10*n+(b.toNat - 48))
def dv (s:List UInt8):Nat:=dvA s 0
theorem dvA_eq:∀(s:List UInt8) (n:Nat),dvA s n=n*10 ^ s.length+dv s
 | [],n=>by simp [dvA,dv]
 | b :: r,n=>by
  simp only [dv,dvA,List.length_cons]
  rw [dvA_eq r,dvA_eq r (10*0+(b.toNat - 48)),Nat.pow_succ]
  have:(10*n+(b.toNat - 48))*10 ^ r.length=n*(10 ^ r.length*10)+(b.toNat - 48)*10 ^ r.length:=by grind
  rw [this,Nat.mul_zero,Nat.zero_add]
  omega
theorem dvA_append:∀(s t:List UInt8) (n:Nat),dvA (s++t) n=dvA t (dvA s n)
 | [],t,n=>rfl
 | b :: r,t,n=>by simp only [List.cons_append,dvA];exact dvA_append r t _
theorem dv_append (s t:List UInt8):dv (s++t)=dv s*10 ^ t.length+dv t:=by
 unfold dv;rw [dvA_append,dvA_eq];rfl
theorem dv_lt:∀{s:List UInt8},(∀b,b∈s→IsD b)→dv s < 10 ^ s.length
 | [],_=>by simp [dv,dvA]
 | b :: r,h=>by
  have h1:=dv_lt (s:=r) fun x hx=>h x (by simp [hx])
  have h2:=h b (by simp)
  have e:=dv_append [b] r
  rw [show [b]++r=b :: r from rfl] at e
  rw [e,show dv [b]=b.toNat - 48 by simp [dv,dvA],List.length_cons,Nat.pow_succ]
  have h3:b.toNat - 48≤9:=by have:=h2.2;omega
  have:=Nat.mul_le_mul_right (10 ^ r.length) h3
  omega
theorem dv_part {s:List UInt8} {lo hi:Nat} (h:lo≤hi) (hh:hi≤s.length):dv (s.take hi)=dv (s.take lo)*10 ^ (hi - lo)+dv ((s.drop lo).take (hi - lo)):=by
 have e:s.take hi=s.take lo++(s.drop lo).take (hi - lo):=by
  conv=>lhs;rw [show hi=lo+(hi - lo) by omega,List.take_add]
 rw [e,dv_append,List.length_take,List.length_drop,Nat.min_eq_left (by omega)]
theorem uint8_ext {a b:UInt8} (h:a.toNat=b.toNat):a=b:=UInt8.toNat_inj.1 h
end Go.V
namespace Go.V
open Go.Proofs
set_option maxRecDepth 10000
end Go.V
namespace Go.V
open Go.Proofs
set_option maxRecDepth 10000
set_option maxHeartbeats 2000000
def SMulI (a b:List Nat) (s:List Nat×Nat):Prop:=s.1.length=a.length+b.length∧(∀x,x∈s.1→x < B9)∧s.2≤a.length∧vl B9 s.1=vl B9 (a.take s.2)*vl B9 b∧∀j,s.2+b.length≤j→s.1.getD j 0=0
def SMulJ (a b:List Nat) (i:Nat) (s:List Nat×Nat×Nat):Prop:=s.1.length=a.length+b.length∧(∀x,x∈s.1→x < B9)∧s.2.1≤b.length∧s.2.2 < B9 ∧
 vl B9 s.1+B9 ^ (i+s.2.1)*s.2.2=vl B9 (a.take i)*vl B9 b+B9 ^ i*(a.getD i 0*vl B9 (b.take s.2.1))∧∀j,i+b.length≤j→s.1.getD j 0=0
theorem SMulJ.step {a b:List Nat} {i:Nat} {s:List Nat×Nat×Nat} (h:SMulJ a b i s) (ha:∀x,x∈a→x < B9) (hb:∀x,x∈b→x < B9) (hi:i < a.length) (hk:s.2.1 < b.length) :
  let t:=s.2.2+(a.getD i 0*b.getD s.2.1 0+s.1.getD (i+s.2.1) 0)
  t < B9*B9∧SMulJ a b i (s.1.set (i+s.2.1) (t % B9),s.2.1+1,t / B9):=by
 obtain ⟨h1,h2,h3,h4,h5,h6⟩:=h
 have hlt:i+s.2.1 < s.1.length:=by omega
 have hbd:=mul_bound (getD_lt ha (by decide) i) (getD_lt hb (by decide) s.2.1) (getD_lt h2 (by decide) (i+s.2.1)) h4
 refine ⟨hbd.1,by rw [List.length_set];exact h1,set_lt h2 (Nat.mod_lt _ (by decide)),hk,hbd.2,?_,fun j hj=>?_⟩
 ·have:=mul_step hlt h5
  rw [←getD_get hlt] at this
  exact this
 ·show (s.1.set _ _).getD j 0=0
  rw [getD_set_ne (by omega)];exact h6 j hj
theorem SMulJ.last {a b:List Nat} {i c:Nat} {O:List Nat} (h:SMulJ a b i (O,b.length,c)) (hi:i < a.length):SMulI a b (O.set (i+b.length) c,i+1):=by
 obtain ⟨h1,h2,h3,h4,h5,h6⟩:=h
 simp only at h1 h2 h4 h5 h6
 have hlt:i+b.length < O.length:=by omega
 refine ⟨by rw [List.length_set];exact h1,set_lt h2 h4,hi,?_,fun j hj=>?_⟩
 ·show vl B9 (O.set _ _)=_
  rw [mul_last hlt (by rw [←getD_get hlt];exact h6 _ (Nat.le_refl _)) h5,vl_take_getD,List.take_length,Nat.add_mul,Nat.mul_assoc]
 ·show (O.set _ _).getD j 0=0
  rw [getD_set_ne (by simp only at hj;omega)];exact h6 j (by simp only at hj;omega)
end Go.V
namespace Go.V
open Go.Proofs
set_option maxRecDepth 10000
set_option maxHeartbeats 2000000
end Go.V
namespace Go.V
open Go.Proofs
set_option maxRecDepth 10000
set_option maxHeartbeats 2000000
end Go.V
namespace Go.V
open Go.Proofs
set_option maxRecDepth 10000
set_option maxHeartbeats 4000000
end Go.V
namespace Go.V
open Go.Proofs
set_option maxRecDepth 10000
set_option maxHeartbeats 1000000
end Go.V
namespace Go.V
open Go.Proofs
set_option maxRecDepth 10000
set_option maxHeartbeats 1000000
end Go.V
namespace Go.V
theorem parseM_ok:∀(s:List UInt8) (acc:Nat),(∀b,b∈s→IsD b)→(acc+1)*10 ^ s.length≤10 ^ 18→Lib.parseUintM (2 ^ 64 - 1) acc s = .ok (dvA s acc)
 | [],acc,_,_=>rfl
 | b :: r,acc,h,hb=>by
  have h1:=h b (by simp)
  have e:(acc+1)*10 ^ (b :: r).length=(acc+1)*10*10 ^ r.length:=by rw [List.length_cons,Nat.pow_succ,Nat.mul_assoc,Nat.mul_comm 10]
  rw [e] at hb
  have h2:(acc+1)*10*1≤(acc+1)*10*10 ^ r.length:=Nat.mul_le_mul_left _ (Nat.pow_pos (by decide))
  have h18:(10:Nat) ^ 18=1000000000000000000:=by decide
  have hd:b.toNat - 48≤9:=by have:=h1.2;omega
  have h64:(2:Nat) ^ 64 - 1=18446744073709551615:=by decide
  rw [Lib.parseUintM,if_pos (show 48≤b.toNat∧b.toNat≤57 from h1),if_neg (by omega),if_neg (by rw [h64];omega),dvA,Nat.mul_comm 10 acc]
  refine parseM_ok r _ (fun x hx=>h x (by simp [hx])) ?_
  have h3:(acc*10+(b.toNat - 48)+1)*10 ^ r.length≤(acc+1)*10*10 ^ r.length:=Nat.mul_le_mul_right _ (by omega)
  omega
theorem parse_ok {s:List UInt8} (h:∀b,b∈s→IsD b) (h0:s≠[]) (hl:s.length≤18):Lib.parseUintB 64 s = .ok (dv s):=by
 rw [Lib.parseUintB,if_neg h0]
 refine parseM_ok s 0 h ?_
 rw [Nat.zero_add,Nat.one_mul]
 exact Nat.pow_le_pow_right (by decide) hl
theorem indexByte_spec (c:UInt8):∀s:List UInt8,(c ∉ s∧Lib.indexByte s c = -1)∨∃p r,s=p++c :: r∧c ∉ p∧Lib.indexByte s c=p.length
 | []=>.inl ⟨by simp,rfl⟩
 | b :: r=>by
  by_cases hb:b=c
  ·subst hb
   exact .inr ⟨[],r,rfl,by simp,by simp [Lib.indexByte]⟩
  ·rcases indexByte_spec c r with ⟨h1,h2⟩ | ⟨p,q,h1,h2,h3⟩
   ·left
    refine ⟨by simp only [List.mem_cons,not_or];exact ⟨fun e=>hb e.symm,h1⟩,?_⟩
    simp [Lib.indexByte,hb,h2]
   ·right
    refine ⟨b :: p,q,by rw [h1];rfl,by simp only [List.mem_cons,not_or];exact ⟨fun e=>hb e.symm,h2⟩,?_⟩
    have:¬((p.length:Int) = -1):=by omega
    simp [Lib.indexByte,hb,h3,this]
def okN (s:List UInt8):Prop:=s≠[]∧s.length≤200∧(∀b,b∈s→IsD b)∧(s.length=1∨s.head? ≠ some 48)
instance (s:List UInt8):Decidable (okN s):=by unfold okN IsD;exact inferInstance
end Go.V
namespace Go.V
open Go.Proofs Go.RowKit
set_option maxRecDepth 10000
set_option maxHeartbeats 1000000
theorem bx (l:List UInt8) (a h:Nat):(⟨l.toArray⟩:ByteArray).extract a h=⟨((l.take h).drop a).toArray⟩:=by
 apply ByteArray.ext
 rw [ByteArray.data_extract]
 simp [List.drop_take]
theorem bsize (l:List UInt8):(⟨l.toArray⟩:ByteArray).size=l.length:=rfl
theorem Grew.below {w w':World} (h:Below w.heap.size w w'):Grew w w':=⟨h.os,h.tape,h.output,h.size,h.block⟩
theorem Grew.bytes (w:World) (e:TypeId) (s:ByteArray):Grew w (Lib.bytesWorld w e s) :=
 ⟨rfl,rfl,rfl,by rw [Lib.bytesWorld_size];omega,fun j hj=>Lib.bytesWorld_at_old w e s j hj⟩
theorem avr_tup {κ:Know} {ρ:Place} {vs:List Value} {cs:List AV} (h:vs.length=cs.length) (hv:∀(k:Nat) v c,vs[k]? = some v→cs[k]? = some c→AVR κ ρ v c):AVR κ ρ (.tuple vs.toArray) (.tup cs) :=
 .tup _ _ (by simpa using h) fun k v c h1 h2=>hv k v c (by simpa using h1) h2
theorem fn_ParseUint (s:List UInt8) (h:∀b,b∈s→IsD b) (h0:s≠[]) (hl:s.length≤18):Fn Tryz.prog 54 [Str s,I 10,I 64] [] (.tup [N64 (dv s),.d (.s .nilIface)]) []:=by
 refine Fn.of_calls (vs:=[.string ⟨s.toArray⟩,.int .i64 10,.int .i64 64]) ⟨_,rfl,rfl,rfl⟩ fun w _=>?_
 refine Calls.mono (Tryz.strconv_ParseUint_10_at64_ok ⟨s.toArray⟩ (by rw [bsize];omega) (dv s) (parse_ok h h0 hl) w) ?_
 rintro e w' ⟨rfl,hw⟩
 refine ⟨_,rfl,fun κ ρ=>?_,?_⟩
 ·refine avr_tup (vs:=[.int .u64 (dv s),.nilIface]) rfl fun k v c h1 h2=>?_
  match k,h1,h2 with
  | 0,h1,h2=>simp at h1 h2;subst h1;subst h2;exact .d _ _ (.s _)
  | 1,h1,h2=>simp at h1 h2;subst h1;subst h2;exact .d _ _ (.s _)
 ·rcases hw with rfl | rfl
  ·exact Grew.refl _
  ·exact Grew.bytes _ _ _
theorem fn_CutPrefix (s p:List UInt8):Fn Tryz.prog 44 [Str s,Str p] [] (.tup [Str (Lib.trimPrefix s p),B (Lib.hasPrefix s p)]) []:=by
 refine Fn.of_calls (vs:=[.string ⟨s.toArray⟩,.string ⟨p.toArray⟩]) ⟨_,rfl,rfl,rfl⟩ fun w _=>?_
 refine Calls.mono (Tryz.strings_CutPrefix ⟨s.toArray⟩ ⟨p.toArray⟩ w) ?_
 rintro e w' ⟨rfl,rfl⟩
 refine ⟨_,rfl,fun κ ρ=>?_,Grew.refl _⟩
 refine avr_tup (vs:=[.string ⟨(Lib.trimPrefix s p).toArray⟩,.bool (Lib.hasPrefix s p)]) rfl fun k v c h1 h2=>?_
 match k,h1,h2 with
 | 0,h1,h2=>simp at h1 h2;subst h1;subst h2;exact .d _ _ (.s _)
 | 1,h1,h2=>simp at h1 h2;subst h1;subst h2;exact .d _ _ (.s _)
theorem fn_Index1 (s:List UInt8) (c:UInt8):Fn Tryz.prog 60 [Str s,Str [c]] [] (I (Lib.indexByte s c)) [] :=
 Fn.of_same (vs:=[.string ⟨s.toArray⟩,.string ⟨[c].toArray⟩]) ⟨_,rfl,rfl,rfl⟩ fun w=>Tryz.stringslite_Index_one ⟨s.toArray⟩ c w
def cutB (c:UInt8) (s:List UInt8):List UInt8×List UInt8×Bool:=match Lib.indexByte s c with
 | .ofNat n=>(s.take n,s.drop (n+1),true)
 | .negSucc _=>(s,[],false)
theorem fn_slCut (s:List UInt8) (c:UInt8) (hs:s.length≤1000000000000):Fn Tryz.prog 52 [Str s,Str [c]] [] (.tup [Str (cutB c s).1,Str (cutB c s).2.1,B (cutB c s).2.2]) []:=by
 have ci:=fn_Index1 s c
 refine Fn.intro (ks:=[0,1,4,5,6,7,12]) hty rfl rfl rfl rfl rfl ?_
 rcases indexByte_spec c s with ⟨h1,h2⟩ | ⟨p,r,h1,h2,h3⟩
 ·rw [show cutB c s=(s,[],false) by rw [cutB,h2];rfl]
  rw [h2] at ci
  conv=>whnf
  refine VCall.of_data ci (nd _) ?_
  conv=>whnf
  exact ⟨rfl,rfl,rfl,trivial,rfl⟩
 ·have hl:s.length=p.length+(r.length+1):=by rw [h1];simp
  have e:cutB c s=(p,r,true):=by
   rw [cutB,h3]
   show (s.take p.length,s.drop (p.length+1),true)=_
   rw [h1];simp
  rw [e]
  rw [h3] at ci
  conv=>whnf
  refine VCall.of_data ci (nd _) ?_
  conv=>whnf
  refine VDraw.go hmo hty 12 [] rfl ?_
  conv=>whnf
  refine ⟨⟨by omega,by omega,by rw [bsize];omega⟩,?_⟩
  rw [bx,show s.take ((p.length:Nat):Int).toNat=p by rw [h1];simp,show p.drop (0:Int).toNat=p from rfl]
  conv=>whnf
  refine Wr.i64 (y:=((p.length+1:Nat):Int)) rfl (by omega) (by omega) ?_
  conv=>whnf
  refine ⟨⟨by omega,by rw [bsize];omega,by rw [bsize];omega⟩,?_⟩
  rw [bx,show (s.take (((⟨s.toArray⟩:ByteArray).size:Int).toNat)).drop (((p.length+1:Nat):Int).toNat)=r by
   rw [bsize,show ((s.length:Nat):Int).toNat=s.length from rfl,List.take_length,show ((p.length+1:Nat):Int).toNat=p.length+1 from rfl,h1];simp]
  conv=>whnf
  exact ⟨rfl,rfl,rfl,trivial,rfl⟩
theorem fn_Cut (s:List UInt8) (c:UInt8) (hs:s.length≤1000000000000):Fn Tryz.prog 43 [Str s,Str [c]] [] (.tup [Str (cutB c s).1,Str (cutB c s).2.1,B (cutB c s).2.2]) []:=by
 refine Fn.intro (ks:=[0,1,4,5,6]) hty rfl rfl rfl rfl rfl ?_
 conv=>whnf
 refine VCall.of_data (fn_slCut s c hs) (ndT (fun k=>rfl)) ?_
 conv=>whnf
 exact ⟨rfl,rfl,rfl,trivial,rfl⟩
end Go.V
namespace Go.V
open Go.Proofs Go.RowKit
set_option maxRecDepth 10000
set_option maxHeartbeats 1000000
theorem bloop (l:List UInt8):∀(n i:Nat) (r:List UInt8),l.length - i=n→ByteArray.toList.loop ⟨l.toArray⟩ i r=r.reverse++l.drop i:=by
 intro n
 induction n with
 | zero =>
  intro i r h
  unfold ByteArray.toList.loop
  rw [if_neg (by show ¬i < l.length;omega),List.drop_of_length_le (by omega),List.append_nil]
 | succ n ih =>
  intro i r h
  have hi:i < l.length:=by omega
  unfold ByteArray.toList.loop
  rw [if_pos (show i < (⟨l.toArray⟩:ByteArray).size from hi),ih _ _ (by omega),List.drop_eq_getElem_cons hi]
  have:(⟨l.toArray⟩:ByteArray).get! i=l[i]:=by
   show l.toArray[i]! = l[i]
   simp [hi]
  rw [this]
  simp
theorem btl (l:List UInt8):(⟨l.toArray⟩:ByteArray).toList=l:=by
 unfold ByteArray.toList
 rw [bloop l _ 0 [] rfl];simp
theorem bnil (l:List UInt8):((⟨l.toArray⟩:ByteArray).toList == (⟨#[]⟩:ByteArray).toList)=decide (l=[]):=by
 rw [btl,show (⟨#[]⟩:ByteArray).toList=[] from btl []]
 cases l <;> rfl
theorem dv_bl {s:List UInt8} (h:∀b,b∈s→IsD b):bl (dv s)≤4*s.length:=by
 refine bl_le (Nat.lt_of_lt_of_le (dv_lt h) ?_)
 rw [Nat.pow_mul];exact Nat.pow_le_pow_left (by decide) _
theorem okN.dig {s:List UInt8} (h:okN s):∀b,b∈s→IsD b:=h.2.2.1
theorem fn_readNat (s:List UInt8) (hs:s.length≤1000000000000):Fn Tryz.prog 45 [Str s] [] (.tup [nI (if okN s then dv s else 0),B (decide (okN s))]) []:=by
 refine Fn.intro (ks:=[0,2,3,4,5,6,7,9,26,29,30,31,42,45,50,58,59,60]) hty rfl rfl rfl rfl rfl ?_
 conv=>whnf
 refine Br.mk (fun h=>?_) (fun h=>?_)
 ·rw [bnil,decide_eq_true_eq] at h
  have hno:¬okN s:=fun hok=>hok.1 h
  conv=>whnf
  rw [if_neg hno,decide_eq_false hno]
  conv=>whnf
  exact ⟨rfl,trivial,rfl⟩
 ·rw [bnil,decide_eq_false_iff_not] at h
  have hpos:0 < s.length:=List.length_pos_iff.2 h
  conv=>whnf
  refine Br.mk (fun h2=>?_) (fun h2=>?_)
  ·have h2:200 < s.length:=by rw [bsize] at h2;simp only [decide_eq_true_eq] at h2;omega
   have hno:¬okN s:=fun hok=>by have:=hok.2.1;omega
   conv=>whnf
   rw [if_neg hno,decide_eq_false hno]
   conv=>whnf
   exact ⟨rfl,trivial,rfl⟩
  ·have h2:s.length≤200:=by rw [bsize] at h2;simp only [decide_eq_false_iff_not] at h2;omega
   conv=>whnf
   refine ⟨⟨by omega,by rw [bsize];omega⟩,?_⟩
   conv=>whnf
   have hhead:s.head? = some (s.getD 0 0):=by cases s with
    | nil=>simp at hpos
    | cons x r=>rfl
   refine Br.mk (fun h3=>?_) (fun h3=>?_)
   ·have h3:s.getD 0 0=48:=by
     have h3':(((s.getD 0 0).toNat:Nat):Int)=48:=by simp only [decide_eq_true_eq] at h3;exact h3
     exact uint8_ext (by show (s.getD 0 0).toNat=48;omega)
    conv=>whnf
    refine Br.mk (fun h4=>?_) (fun h4=>?_)
    ·have h4:1 < s.length:=by rw [bsize] at h4;simp only [decide_eq_true_eq] at h4;omega
     have hno:¬okN s:=fun hok=>by
      rcases hok.2.2.2 with h5 | h5
      ·omega
      ·rw [hhead,h3] at h5;exact h5 rfl
     conv=>whnf
     rw [if_neg hno,decide_eq_false hno]
     conv=>whnf
     exact ⟨rfl,trivial,rfl⟩
    ·have hlz:s.length=1∨s.head? ≠ some 48:=.inl (by rw [bsize] at h4;simp only [decide_eq_false_iff_not] at h4;omega)
     conv=>whnf
     refine VLoop.invX hty (S:=Nat) (E:=Unit) [] [] 0 (fun i=>[(30,I i),(29,I s.length),(4,.ls 27 0 0 1),(0,Str s)]) (fun _=>[(27,.row true 1 [])]) (fun i=>i≤s.length∧∀k,k < i→IsD (s.getD k 0)) (fun i=>s.length - i)
      (fun _=>[(4,.ls 27 0 0 1),(0,Str s)]) (fun _=>[(27,.row true 1 [])]) (fun _=>∀b,b∈s→IsD b) 0 ⟨Nat.zero_le _,fun k h=>absurd h (Nat.not_lt_zero k)⟩ ⟨rfl,rfl,rfl,rfl,trivial⟩ ⟨rfl,trivial⟩ ?_ ?_
     ·rintro i ⟨hi,hk⟩
      obtain ⟨b,eb⟩:∃b,s.getD i 0=b:=⟨_,rfl⟩
      conv=>whnf
      refine Br.mk (fun h5=>?_) (fun h5=>?_)
      ·have h5:i < s.length:=by simp only [decide_eq_true_eq] at h5;omega
       have hbm:b∈s:=by rw [←eb,List.getD_eq_getElem?_getD,List.getElem?_eq_getElem h5];exact List.getElem_mem h5
       conv=>whnf
       refine ⟨⟨by omega,by rw [bsize];omega⟩,?_⟩
       rw [show (⟨s.toArray⟩:ByteArray).data.toList.getD ((i:Nat):Int).toNat 0=b from eb]
       conv=>whnf
       refine Br.mk (fun h6=>?_) (fun h6=>?_)
       ·have h6:b.toNat < 48:=by simp only [decide_eq_true_eq] at h6;omega
        have hno:¬okN s:=fun hok=>by have:=(hok.dig b hbm).1;omega
        conv=>whnf
        rw [if_neg hno,decide_eq_false hno]
        conv=>whnf
        exact ⟨rfl,trivial,rfl⟩
       ·have h6:¬b.toNat < 48:=by simp only [decide_eq_false_iff_not] at h6;omega
        conv=>whnf
        refine ⟨⟨by omega,by rw [bsize];omega⟩,?_⟩
        rw [show (⟨s.toArray⟩:ByteArray).data.toList.getD ((i:Nat):Int).toNat 0=b from eb]
        conv=>whnf
        refine Br.mk (fun h7=>?_) (fun h7=>?_)
        ·have h7:57 < b.toNat:=by simp only [decide_eq_true_eq] at h7;omega
         have hno:¬okN s:=fun hok=>by have:=(hok.dig b hbm).2;omega
         conv=>whnf
         rw [if_neg hno,decide_eq_false hno]
         conv=>whnf
         exact ⟨rfl,trivial,rfl⟩
        ·have h7:¬57 < b.toNat:=by simp only [decide_eq_false_iff_not] at h7;omega
         conv=>whnf
         refine Wr.i64 (y:=((i+1:Nat):Int)) (by omega) (by omega) (by omega) ?_
         conv=>whnf
         refine ⟨i+1,⟨h5,fun k hki=>?_⟩,by show s.length - (i+1) < s.length - i;omega,⟨rfl,rfl,rfl,rfl,trivial⟩,rfl,trivial⟩
         rcases Nat.lt_or_ge k i with h8 | h8
         ·exact hk k h8
         ·rw [show k=i by omega,eb];exact ⟨by omega,by omega⟩
      ·have h5:i=s.length:=by simp only [decide_eq_false_iff_not] at h5;omega
       conv=>whnf
       refine ⟨rfl,(),fun b hb=>?_,⟨rfl,rfl,trivial⟩,rfl,trivial⟩
       obtain ⟨k,hk1,hk2⟩:=List.mem_iff_getElem.1 hb
       have:=hk k (by omega)
       rw [List.getD_eq_getElem?_getD,List.getElem?_eq_getElem hk1] at this
       simpa [hk2] using this
     ·rintro _ hdig
      have hok:okN s:=⟨h,h2,hdig,hlz⟩
      have hbl:∀m,m≤s.length→bl (dv (s.take m))≤800:=fun m hm=>by
       have h1:=dv_bl (s:=s.take m) fun b hb=>hdig b (List.mem_of_mem_take hb)
       rw [List.length_take] at h1;omega
      rw [if_pos hok,decide_eq_true hok]
      conv=>whnf
      refine VLoop.frz (t':=[(4,nI (dv (s.take 0))),(0,Str (s.drop 0))]) 27 rfl ⟨rfl,.inr ⟨rfl,rfl,Nat.le_refl _,rfl⟩,rfl,.inl rfl,trivial⟩ ?_
      refine VLoop.invX hty (S:=Nat) (E:=Unit) [] [] 2 (fun m=>[(4,nI (dv (s.take m))),(0,Str (s.drop m))]) (fun _=>[]) (fun m=>m≤s.length) (fun m=>s.length - m)
       (fun _=>[(4,nI (dv s))]) (fun _=>[]) (fun _=>True) 0 (Nat.zero_le _) ⟨rfl,rfl,trivial⟩ trivial ?_ ?_
      ·intro m hm
       obtain ⟨r,er⟩:∃r,s.drop m=r:=⟨_,rfl⟩
       have hrl:r.length=s.length - m:=by rw [←er,List.length_drop]
       have hrd:∀b,b∈r→IsD b:=fun b hb=>hdig b (List.mem_of_mem_drop (by rw [er];exact hb))
       rw [er]
       conv=>whnf
       refine Br.mk (fun h5=>?_) (fun h5=>?_)
       ·have h5:r≠[]:=by rw [bnil] at h5;simpa using h5
        have hL:0 < r.length:=List.length_pos_iff.2 h5
        have emod:Int.tmod (((⟨r.toArray⟩:ByteArray).size:Nat):Int) 9=((r.length % 9:Nat):Int):=by rw [bsize];exact (Int.ofNat_tmod r.length 9).symm
        conv=>whnf
        refine ⟨by decide,?_⟩
        rw [emod]
        conv=>whnf
        refine Br.mk (fun h6=>?_) (fun h6=>?_)
        case' refine_1 =>
         have h6:r.length % 9=0:=by simp only [decide_eq_true_eq] at h6;omega
         obtain ⟨n,hn1,hn2,hn3,en⟩:∃n:Nat,1≤n∧n≤9∧n≤r.length∧(9:Int)=n:=⟨9,by decide,by decide,by omega,rfl⟩
         rw [en]
        case' refine_2 =>
         have h6:¬r.length % 9=0:=by simp only [decide_eq_false_iff_not] at h6;omega
         obtain ⟨n,hn1,hn2,hn3,en⟩:∃n:Nat,1≤n∧n≤9∧n≤r.length∧r.length % 9=n:=⟨r.length % 9,by omega,by omega,by omega,rfl⟩
         rw [en]
        all_goals
         have hpl:(r.take n).length=n:=by rw [List.length_take];omega
         have cp:=fn_ParseUint (r.take n) (fun b hb=>hrd b (List.mem_of_mem_take hb)) (by intro e;rw [e] at hpl;simp at hpl;omega) (by omega)
         have hdn:dv (r.take n) < 10 ^ n:=by have h9:=dv_lt (s:=r.take n) fun b hb=>hrd b (List.mem_of_mem_take hb);rwa [hpl] at h9
         have h10n:(10:Nat) ^ n≤10 ^ 9:=Nat.pow_le_pow_right (by decide) hn2
         have h109:(10:Nat) ^ 9=1000000000:=by decide
         have hnew:dv (s.take (m+n))=dv (s.take m)*10 ^ n+dv (r.take n):=by
          have h9:=dv_part (s:=s) (lo:=m) (hi:=m+n) (by omega) (by omega)
          rw [show m+n - m=n by omega,er] at h9
          exact h9
         have hnewd:s.drop (m+n)=r.drop n:=by rw [←er,List.drop_drop]
         have hblN:=hbl m hm
         obtain ⟨v,ev⟩:∃v,dv (r.take n)=v:=⟨_,rfl⟩
         rw [ev] at cp hdn hnew
         obtain ⟨N,eN⟩:∃v,dv (s.take m)=v:=⟨_,rfl⟩
         rw [eN] at hnew hblN
         rw [eN]
         obtain ⟨T,eT⟩:∃v,(10:Nat) ^ n=v:=⟨_,rfl⟩
         rw [eT] at hnew h10n hdn
         have hblT:bl T≤64:=bl_le (Nat.lt_of_le_of_lt h10n (by decide))
         have hblv:bl v≤64:=bl_le (Nat.lt_trans hdn (Nat.lt_of_le_of_lt h10n (by decide)))
         have hblNT:=bl_mul N T
         have cT:=fn_natOf T (by omega)
         have cV:=fn_natOf v (by omega)
         have cM:=fn_mul N T (by omega) (by omega)
         have cA:=fn_add (N*T) v (by omega) (by omega)
         rw [←hnew] at cA
         conv=>whnf
         refine ⟨⟨by omega,by omega,by rw [bsize];omega⟩,?_⟩
         rw [bx,show (r.take ((n:Nat):Int).toNat).drop (0:Int).toNat=r.take n from rfl]
         conv=>whnf
         refine VCall.of_data cp (ndT (fun k=>rfl)) ?_
         conv=>whnf
         refine VLoop.invX hty (S:=Nat) (E:=Unit) [] [] 4 (fun k=>[(59,I k),(58,I n),(9,N64 (10 ^ k)),(7,N64 v),(6,I n),(4,nI N),(0,Str r)]) (fun _=>[]) (fun k=>k≤n) (fun k=>n - k)
          (fun _=>[(9,N64 T),(7,N64 v),(6,I n),(4,nI N),(0,Str r)]) (fun _=>[]) (fun _=>True) 0 (Nat.zero_le _) ⟨rfl,rfl,rfl,rfl,rfl,rfl,rfl,trivial⟩ trivial ?_ ?_
         ·intro k hk
          conv=>whnf
          refine Br.mk (fun h7=>?_) (fun h7=>?_)
          ·have h7:k < n:=by simp only [decide_eq_true_eq] at h7;omega
           have h10:(10:Nat) ^ (k+1)≤10 ^ 9:=Nat.pow_le_pow_right (by decide) (by omega)
           have ep:(10:Nat) ^ (k+1)=10 ^ k*10:=Nat.pow_succ ..
           obtain ⟨x,ex⟩:∃v,(10:Nat) ^ k=v:=⟨_,rfl⟩
           obtain ⟨y,ey⟩:∃v,(10:Nat) ^ (k+1)=v:=⟨_,rfl⟩
           rw [ex,ey] at ep
           rw [ey] at h10
           rw [ex]
           conv=>whnf
           refine Wr.n64 (n:=y) (by rw [ep];exact (Int.natCast_mul _ _).symm) (by omega) ?_
           conv=>whnf
           refine Wr.i64 (y:=((k+1:Nat):Int)) rfl (by omega) (by omega) ?_
           conv=>whnf
           exact ⟨k+1,h7,by show n - (k+1) < n - k;omega,⟨rfl,rfl,by show AV.d (.s (.int .u64 (y:Int)))=N64 (10 ^ (k+1));rw [ey],rfl,rfl,rfl,rfl,trivial⟩,trivial⟩
          ·have h7:k=n:=by simp only [decide_eq_false_iff_not] at h7;omega
           rw [h7,eT]
           conv=>whnf
           exact ⟨rfl,(),trivial,⟨rfl,rfl,rfl,rfl,rfl,trivial⟩,trivial⟩
         ·rintro _ _
          conv=>whnf
          refine VDraw.goS hmo hty [0,1,4,7,8] rfl ?_
          have hchk:0≤(n:Int)∧(n:Int)≤(((⟨r.toArray⟩:ByteArray).size:Nat):Int)∧(((⟨r.toArray⟩:ByteArray).size:Nat):Int)≤(((⟨r.toArray⟩:ByteArray).size:Nat):Int):=⟨by omega,by rw [bsize];omega,Int.le_refl _⟩
          have hsl:(⟨r.toArray⟩:ByteArray).extract ((n:Nat):Int).toNat ((((⟨r.toArray⟩:ByteArray).size:Nat):Int)).toNat=⟨(r.drop n).toArray⟩:=by
           rw [bx,bsize]
           show (⟨((r.take r.length).drop n).toArray⟩:ByteArray)=_
           rw [List.take_length]
          conv=>whnf
          repeat' (first
           | (refine VCall.of_data cT (nd _) ?_;conv=>whnf)
           | (refine VCall.of_data cM (nd _) ?_;conv=>whnf)
           | (refine VCall.of_data cV (nd _) ?_;conv=>whnf)
           | (refine VCall.of_data cA (nd _) ?_;conv=>whnf)
           | (refine ⟨hchk,?_⟩;rw [hsl];conv=>whnf)
           | exact ⟨m+n,by omega,by show s.length - (m+n) < s.length - m;omega,⟨rfl,congrArg (fun x:List UInt8=>Str x) hnewd.symm,trivial⟩,trivial⟩
           | (refine ⟨?_,?_⟩ <;> conv=>whnf))
       ·have h5:r=[]:=by rw [bnil] at h5;simpa using h5
        have e:s.take m=s:=List.take_of_length_le (by have h9:=hrl;rw [h5,List.length_nil] at h9;omega)
        rw [e]
        conv=>whnf
        exact ⟨rfl,(),trivial,⟨rfl,trivial⟩,trivial⟩
      ·rintro _ _
       conv=>whnf
       exact ⟨rfl,rfl,trivial,rfl⟩
   ·have hlz:s.length=1∨s.head? ≠ some 48:=.inr (by
     rw [hhead]
     intro e
     have e1:s.getD 0 0=48:=Option.some.inj e
     have h3':¬(((s.getD 0 0).toNat:Nat):Int)=48:=by simp only [decide_eq_false_iff_not] at h3;exact h3
     rw [e1] at h3'
     exact h3' rfl)
    conv=>whnf
    refine VLoop.invX hty (S:=Nat) (E:=Unit) [] [] 0 (fun i=>[(30,I i),(29,I s.length),(4,.ls 27 0 0 1),(0,Str s)]) (fun _=>[(27,.row true 1 [])]) (fun i=>i≤s.length∧∀k,k < i→IsD (s.getD k 0)) (fun i=>s.length - i)
     (fun _=>[(4,.ls 27 0 0 1),(0,Str s)]) (fun _=>[(27,.row true 1 [])]) (fun _=>∀b,b∈s→IsD b) 0 ⟨Nat.zero_le _,fun k h=>absurd h (Nat.not_lt_zero k)⟩ ⟨rfl,rfl,rfl,rfl,trivial⟩ ⟨rfl,trivial⟩ ?_ ?_
    ·rintro i ⟨hi,hk⟩
     obtain ⟨b,eb⟩:∃b,s.getD i 0=b:=⟨_,rfl⟩
     conv=>whnf
     refine Br.mk (fun h5=>?_) (fun h5=>?_)
     ·have h5:i < s.length:=by simp only [decide_eq_true_eq] at h5;omega
      have hbm:b∈s:=by rw [←eb,List.getD_eq_getElem?_getD,List.getElem?_eq_getElem h5];exact List.getElem_mem h5
      conv=>whnf
      refine ⟨⟨by omega,by rw [bsize];omega⟩,?_⟩
      rw [show (⟨s.toArray⟩:ByteArray).data.toList.getD ((i:Nat):Int).toNat 0=b from eb]
      conv=>whnf
      refine Br.mk (fun h6=>?_) (fun h6=>?_)
      ·have h6:b.toNat < 48:=by simp only [decide_eq_true_eq] at h6;omega
       have hno:¬okN s:=fun hok=>by have:=(hok.dig b hbm).1;omega
       conv=>whnf
       rw [if_neg hno,decide_eq_false hno]
       conv=>whnf
       exact ⟨rfl,trivial,rfl⟩
      ·have h6:¬b.toNat < 48:=by simp only [decide_eq_false_iff_not] at h6;omega
       conv=>whnf
       refine ⟨⟨by omega,by rw [bsize];omega⟩,?_⟩
       rw [show (⟨s.toArray⟩:ByteArray).data.toList.getD ((i:Nat):Int).toNat 0=b from eb]
       conv=>whnf
       refine Br.mk (fun h7=>?_) (fun h7=>?_)
       ·have h7:57 < b.toNat:=by simp only [decide_eq_true_eq] at h7;omega
        have hno:¬okN s:=fun hok=>by have:=(hok.dig b hbm).2;omega
        conv=>whnf
        rw [if_neg hno,decide_eq_false hno]
        conv=>whnf
        exact ⟨rfl,trivial,rfl⟩
       ·have h7:¬57 < b.toNat:=by simp only [decide_eq_false_iff_not] at h7;omega
        conv=>whnf
        refine Wr.i64 (y:=((i+1:Nat):Int)) (by omega) (by omega) (by omega) ?_
        conv=>whnf
        refine ⟨i+1,⟨h5,fun k hki=>?_⟩,by show s.length - (i+1) < s.length - i;omega,⟨rfl,rfl,rfl,rfl,trivial⟩,rfl,trivial⟩
        rcases Nat.lt_or_ge k i with h8 | h8
        ·exact hk k h8
        ·rw [show k=i by omega,eb];exact ⟨by omega,by omega⟩
     ·have h5:i=s.length:=by simp only [decide_eq_false_iff_not] at h5;omega
      conv=>whnf
      refine ⟨rfl,(),fun b hb=>?_,⟨rfl,rfl,trivial⟩,rfl,trivial⟩
      obtain ⟨k,hk1,hk2⟩:=List.mem_iff_getElem.1 hb
      have:=hk k (by omega)
      rw [List.getD_eq_getElem?_getD,List.getElem?_eq_getElem hk1] at this
      simpa [hk2] using this
    ·rintro _ hdig
     have hok:okN s:=⟨h,h2,hdig,hlz⟩
     have hbl:∀m,m≤s.length→bl (dv (s.take m))≤800:=fun m hm=>by
      have h1:=dv_bl (s:=s.take m) fun b hb=>hdig b (List.mem_of_mem_take hb)
      rw [List.length_take] at h1;omega
     rw [if_pos hok,decide_eq_true hok]
     conv=>whnf
     refine VLoop.frz (t':=[(4,nI (dv (s.take 0))),(0,Str (s.drop 0))]) 27 rfl ⟨rfl,.inr ⟨rfl,rfl,Nat.le_refl _,rfl⟩,rfl,.inl rfl,trivial⟩ ?_
     refine VLoop.invX hty (S:=Nat) (E:=Unit) [] [] 2 (fun m=>[(4,nI (dv (s.take m))),(0,Str (s.drop m))]) (fun _=>[]) (fun m=>m≤s.length) (fun m=>s.length - m)
      (fun _=>[(4,nI (dv s))]) (fun _=>[]) (fun _=>True) 0 (Nat.zero_le _) ⟨rfl,rfl,trivial⟩ trivial ?_ ?_
     ·intro m hm
      obtain ⟨r,er⟩:∃r,s.drop m=r:=⟨_,rfl⟩
      have hrl:r.length=s.length - m:=by rw [←er,List.length_drop]
      have hrd:∀b,b∈r→IsD b:=fun b hb=>hdig b (List.mem_of_mem_drop (by rw [er];exact hb))
      rw [er]
      conv=>whnf
      refine Br.mk (fun h5=>?_) (fun h5=>?_)
      ·have h5:r≠[]:=by rw [bnil] at h5;simpa using h5
       have hL:0 < r.length:=List.length_pos_iff.2 h5
       have emod:Int.tmod (((⟨r.toArray⟩:ByteArray).size:Nat):Int) 9=((r.length % 9:Nat):Int):=by rw [bsize];exact (Int.ofNat_tmod r.length 9).symm
       conv=>whnf
       refine ⟨by decide,?_⟩
       rw [emod]
       conv=>whnf
       refine Br.mk (fun h6=>?_) (fun h6=>?_)
       case' refine_1 =>
        have h6:r.length % 9=0:=by simp only [decide_eq_true_eq] at h6;omega
        obtain ⟨n,hn1,hn2,hn3,en⟩:∃n:Nat,1≤n∧n≤9∧n≤r.length∧(9:Int)=n:=⟨9,by decide,by decide,by omega,rfl⟩
        rw [en]
       case' refine_2 =>
        have h6:¬r.length % 9=0:=by simp only [decide_eq_false_iff_not] at h6;omega
        obtain ⟨n,hn1,hn2,hn3,en⟩:∃n:Nat,1≤n∧n≤9∧n≤r.length∧r.length % 9=n:=⟨r.length % 9,by omega,by omega,by omega,rfl⟩
        rw [en]
       all_goals
        have hpl:(r.take n).length=n:=by rw [List.length_take];omega
        have cp:=fn_ParseUint (r.take n) (fun b hb=>hrd b (List.mem_of_mem_take hb)) (by intro e;rw [e] at hpl;simp at hpl;omega) (by omega)
        have hdn:dv (r.take n) < 10 ^ n:=by have h9:=dv_lt (s:=r.take n) fun b hb=>hrd b (List.mem_of_mem_take hb);rwa [hpl] at h9
        have h10n:(10:Nat) ^ n≤10 ^ 9:=Nat.pow_le_pow_right (by decide) hn2
        have h109:(10:Nat) ^ 9=1000000000:=by decide
        have hnew:dv (s.take (m+n))=dv (s.take m)*10 ^ n+dv (r.take n):=by
         have h9:=dv_part (s:=s) (lo:=m) (hi:=m+n) (by omega) (by omega)
         rw [show m+n - m=n by omega,er] at h9
         exact h9
        have hnewd:s.drop (m+n)=r.drop n:=by rw [←er,List.drop_drop]
        have hblN:=hbl m hm
        obtain ⟨v,ev⟩:∃v,dv (r.take n)=v:=⟨_,rfl⟩
        rw [ev] at cp hdn hnew
        obtain ⟨N,eN⟩:∃v,dv (s.take m)=v:=⟨_,rfl⟩
        rw [eN] at hnew hblN
        rw [eN]
        obtain ⟨T,eT⟩:∃v,(10:Nat) ^ n=v:=⟨_,rfl⟩
        rw [eT] at hnew h10n hdn
        have hblT:bl T≤64:=bl_le (Nat.lt_of_le_of_lt h10n (by decide))
        have hblv:bl v≤64:=bl_le (Nat.lt_trans hdn (Nat.lt_of_le_of_lt h10n (by decide)))
        have hblNT:=bl_mul N T
        have cT:=fn_natOf T (by omega)
        have cV:=fn_natOf v (by omega)
        have cM:=fn_mul N T (by omega) (by omega)
        have cA:=fn_add (N*T) v (by omega) (by omega)
        rw [←hnew] at cA
        conv=>whnf
        refine ⟨⟨by omega,by omega,by rw [bsize];omega⟩,?_⟩
        rw [bx,show (r.take ((n:Nat):Int).toNat).drop (0:Int).toNat=r.take n from rfl]
        conv=>whnf
        refine VCall.of_data cp (ndT (fun k=>rfl)) ?_
        conv=>whnf
        refine VLoop.invX hty (S:=Nat) (E:=Unit) [] [] 4 (fun k=>[(59,I k),(58,I n),(9,N64 (10 ^ k)),(7,N64 v),(6,I n),(4,nI N),(0,Str r)]) (fun _=>[]) (fun k=>k≤n) (fun k=>n - k)
         (fun _=>[(9,N64 T),(7,N64 v),(6,I n),(4,nI N),(0,Str r)]) (fun _=>[]) (fun _=>True) 0 (Nat.zero_le _) ⟨rfl,rfl,rfl,rfl,rfl,rfl,rfl,trivial⟩ trivial ?_ ?_
        ·intro k hk
         conv=>whnf
         refine Br.mk (fun h7=>?_) (fun h7=>?_)
         ·have h7:k < n:=by simp only [decide_eq_true_eq] at h7;omega
          have h10:(10:Nat) ^ (k+1)≤10 ^ 9:=Nat.pow_le_pow_right (by decide) (by omega)
          have ep:(10:Nat) ^ (k+1)=10 ^ k*10:=Nat.pow_succ ..
          obtain ⟨x,ex⟩:∃v,(10:Nat) ^ k=v:=⟨_,rfl⟩
          obtain ⟨y,ey⟩:∃v,(10:Nat) ^ (k+1)=v:=⟨_,rfl⟩
          rw [ex,ey] at ep
          rw [ey] at h10
          rw [ex]
          conv=>whnf
          refine Wr.n64 (n:=y) (by rw [ep];exact (Int.natCast_mul _ _).symm) (by omega) ?_
          conv=>whnf
          refine Wr.i64 (y:=((k+1:Nat):Int)) rfl (by omega) (by omega) ?_
          conv=>whnf
          exact ⟨k+1,h7,by show n - (k+1) < n - k;omega,⟨rfl,rfl,by show AV.d (.s (.int .u64 (y:Int)))=N64 (10 ^ (k+1));rw [ey],rfl,rfl,rfl,rfl,trivial⟩,trivial⟩
         ·have h7:k=n:=by simp only [decide_eq_false_iff_not] at h7;omega
          rw [h7,eT]
          conv=>whnf
          exact ⟨rfl,(),trivial,⟨rfl,rfl,rfl,rfl,rfl,trivial⟩,trivial⟩
        ·rintro _ _
         conv=>whnf
         refine VDraw.goS hmo hty [0,1,4,7,8] rfl ?_
         have hchk:0≤(n:Int)∧(n:Int)≤(((⟨r.toArray⟩:ByteArray).size:Nat):Int)∧(((⟨r.toArray⟩:ByteArray).size:Nat):Int)≤(((⟨r.toArray⟩:ByteArray).size:Nat):Int):=⟨by omega,by rw [bsize];omega,Int.le_refl _⟩
         have hsl:(⟨r.toArray⟩:ByteArray).extract ((n:Nat):Int).toNat ((((⟨r.toArray⟩:ByteArray).size:Nat):Int)).toNat=⟨(r.drop n).toArray⟩:=by
          rw [bx,bsize]
          show (⟨((r.take r.length).drop n).toArray⟩:ByteArray)=_
          rw [List.take_length]
         conv=>whnf
         repeat' (first
          | (refine VCall.of_data cT (nd _) ?_;conv=>whnf)
          | (refine VCall.of_data cM (nd _) ?_;conv=>whnf)
          | (refine VCall.of_data cV (nd _) ?_;conv=>whnf)
          | (refine VCall.of_data cA (nd _) ?_;conv=>whnf)
          | (refine ⟨hchk,?_⟩;rw [hsl];conv=>whnf)
          | exact ⟨m+n,by omega,by show s.length - (m+n) < s.length - m;omega,⟨rfl,congrArg (fun x:List UInt8=>Str x) hnewd.symm,trivial⟩,trivial⟩
          | (refine ⟨?_,?_⟩ <;> conv=>whnf))
      ·have h5:r=[]:=by rw [bnil] at h5;simpa using h5
       have e:s.take m=s:=List.take_of_length_le (by have h9:=hrl;rw [h5,List.length_nil] at h9;omega)
       rw [e]
       conv=>whnf
       exact ⟨rfl,(),trivial,⟨rfl,trivial⟩,trivial⟩
     ·rintro _ _
      conv=>whnf
      exact ⟨rfl,rfl,trivial,rfl⟩
theorem okN.bl {s:List UInt8} (h:okN s):bl (dv s)≤800:=by
 have h1:=dv_bl h.dig
 have:=h.2.1
 omega
def rdRat (s:List UInt8):Option Rat :=
 if ¬okN (Lib.trimPrefix (cutB 47 s).1 [45])∨(Lib.hasPrefix (cutB 47 s).1 [45]=true∧dv (Lib.trimPrefix (cutB 47 s).1 [45])=0) then none
 else if (cutB 47 s).2.2=false then some (mkRat (sgn (Lib.hasPrefix (cutB 47 s).1 [45]) (dv (Lib.trimPrefix (cutB 47 s).1 [45]))) 1)
 else if ¬okN (cutB 47 s).2.1∨dv (cutB 47 s).2.1≤1∨(dv (Lib.trimPrefix (cutB 47 s).1 [45])).gcd (dv (cutB 47 s).2.1)≠1 then none
 else some (mkRat (sgn (Lib.hasPrefix (cutB 47 s).1 [45]) (dv (Lib.trimPrefix (cutB 47 s).1 [45]))) (dv (cutB 47 s).2.1))
def rO:Option Rat→AV
 | some q=>rI q
 | none=>.ag [B false,nI 0,nI 0]
theorem cutB_len (c:UInt8) (s:List UInt8):(cutB c s).1.length≤s.length∧(cutB c s).2.1.length≤s.length:=by
 unfold cutB
 split
 ·simp only [List.length_take,List.length_drop];omega
 ·simp
theorem trim_len (s p:List UInt8):(Lib.trimPrefix s p).length≤s.length:=by
 unfold Lib.trimPrefix
 split
 ·rw [List.length_drop];omega
 ·exact Nat.le_refl _
theorem cmpZ_pos' {a b:Nat}:0 < cmpZ a b↔b < a:=by
 have h1:=cmpZ_neg (a:=a) (b:=b)
 have h2:=cmpZ_zero (a:=a) (b:=b)
 omega
theorem fn_readRat (s:List UInt8) (hs:s.length≤1000000000000):Fn Tryz.prog 32 [Str s] [] (.tup [rO (rdRat s),B (rdRat s).isSome]) []:=by
 have c1:=fn_Cut s 47 hs
 have hcl:=cutB_len 47 s
 unfold rdRat
 obtain ⟨f,ef⟩:∃x,(cutB 47 s).1=x:=⟨_,rfl⟩
 obtain ⟨g,eg⟩:∃x,(cutB 47 s).2.1=x:=⟨_,rfl⟩
 obtain ⟨is,eis⟩:∃x,(cutB 47 s).2.2=x:=⟨_,rfl⟩
 rw [ef,eg,eis] at c1
 rw [ef,eg] at hcl
 rw [ef,eg,eis]
 have c2:=fn_CutPrefix f [45]
 have htl:=trim_len f [45]
 obtain ⟨d,ed⟩:∃x,Lib.trimPrefix f [45]=x:=⟨_,rfl⟩
 obtain ⟨neg,en⟩:∃x,Lib.hasPrefix f [45]=x:=⟨_,rfl⟩
 rw [ed,en] at c2
 rw [ed] at htl
 rw [ed,en]
 have c3:=fn_readNat d (by omega)
 have c4:=fn_readNat g (by omega)
 refine Fn.intro (ks:=[0,2,3,4,5,6,7,8,9,10,11,12,13,14,40,47,61,69]) hty rfl rfl rfl rfl rfl ?_
 by_cases hd:okN d
 ·rw [if_pos hd,decide_eq_true hd] at c3
  conv=>whnf
  refine VCall.of_data c1 (ndT (fun k=>rfl)) ?_
  conv=>whnf
  refine VCall.of_data c2 (ndT (fun k=>rfl)) ?_
  conv=>whnf
  refine VCall.of_data c3 (ndT (fun k=>rfl)) ?_
  conv=>whnf
  have hbd:=hd.bl
  have hld:((cW .u32 (dg B32 (dv d))).length:Int)=(dg B32 (dv d)).length:=by rw [cW_len]
  have hzd:=dg_len_zero b32 (n:=dv d)
  have hnd:¬¬okN d:=fun h=>h hd
  cases neg
  ·have hs0:dv d=0→false=false:=fun _=>rfl
   have hno:¬(¬okN d∨false=true∧dv d=0):=by rintro (h | ⟨h,_⟩);exact h hd;cases h
   rw [if_neg hno]
   conv=>whnf
   refine VCall.of_data (fn_natOf 1 (by omega)) (nd _) ?_
   cases is
   ·rw [if_pos rfl]
    obtain ⟨p1,p2,p3⟩:=parts_of (s:=false) (t:=dv d) (b:=1) (by decide) (Nat.gcd_one_right _) hs0
    rw [show rO (some (mkRat (sgn false (dv d)) 1)) = .ag [B false,nI (dv d),nI 1] by rw [rO,rI,p1,p2,p3]]
    conv=>whnf
    exact ⟨rfl,rfl,rfl,rfl,trivial,rfl⟩
   ·rw [if_neg (by decide)]
    conv=>whnf
    by_cases hg:okN g
    ·have hbg:=hg.bl
     rw [if_pos hg,decide_eq_true hg] at c4
     refine VCall.of_data c4 (ndT (fun k=>rfl)) ?_
     conv=>whnf
     refine VCall.of_data (fn_natOf 1 (by omega)) (nd _) ?_
     conv=>whnf
     refine VCall.of_data (fn_cmp (dv g) 1 (by omega) (by decide)) (nd _) ?_
     conv=>whnf
     refine Br.mk (fun h7=>?_) (fun h7=>?_)
     ·have h7:dv g≤1:=by
       simp only [decide_eq_true_eq] at h7
       have:=cmpZ_pos' (a:=dv g) (b:=1)
       omega
      rw [if_pos (.inr (.inl h7))]
      conv=>whnf
      exact ⟨rfl,rfl,trivial,rfl⟩
     ·have h7:¬dv g≤1:=by
       simp only [decide_eq_false_iff_not] at h7
       have:=cmpZ_pos' (a:=dv g) (b:=1)
       omega
      have cg:=fn_gcd (dv d) (dv g) (by omega) (by omega)
      have hbgc:bl ((dv d).gcd (dv g))≤800:=Nat.le_trans (bl_mono (Nat.gcd_le_right _ (by omega))) hbg
      conv=>whnf
      refine VCall.of_data cg (nd _) ?_
      conv=>whnf
      refine VCall.of_data (fn_natOf 1 (by omega)) (nd _) ?_
      conv=>whnf
      refine VCall.of_data (fn_cmp ((dv d).gcd (dv g)) 1 (by omega) (by decide)) (nd _) ?_
      conv=>whnf
      refine Br.mk (fun h8=>?_) (fun h8=>?_)
      ·have h8:(dv d).gcd (dv g)≠1:=fun e=>by rw [cmpZ_zero.2 e] at h8;exact absurd h8 (by decide)
       rw [if_pos (.inr (.inr h8))]
       conv=>whnf
       exact ⟨rfl,rfl,trivial,rfl⟩
      ·have h8:(dv d).gcd (dv g)=1:=cmpZ_zero.1 (by simpa using h8)
       rw [if_neg (by rintro (h9 | h9 | h9);exact h9 hg;exact h7 h9;exact h9 h8)]
       obtain ⟨p1,p2,p3⟩:=parts_of (s:=false) (t:=dv d) (b:=dv g) (by omega) h8 hs0
       rw [show rO (some (mkRat (sgn false (dv d)) (dv g))) = .ag [B false,nI (dv d),nI (dv g)] by rw [rO,rI,p1,p2,p3]]
       conv=>whnf
       exact ⟨rfl,rfl,rfl,rfl,trivial,rfl⟩
    ·rw [if_neg hg,decide_eq_false hg] at c4
     rw [if_pos (.inl hg)]
     refine VCall.of_data c4 (ndT (fun k=>rfl)) ?_
     conv=>whnf
     conv=>whnf
     exact ⟨rfl,rfl,trivial,rfl⟩
  ·conv=>whnf
   refine Br.mk (fun h=>?_) (fun h=>?_)
   ·have h0:dv d=0:=by simp only [decide_eq_true_eq] at h;exact hzd.1 (by omega)
    rw [if_pos (.inr ⟨rfl,h0⟩)]
    conv=>whnf
    exact ⟨rfl,rfl,trivial,rfl⟩
   ·have h0:dv d≠0:=fun e=>by simp only [decide_eq_false_iff_not] at h;have:=hzd.2 e;omega
    have hs0:dv d=0→true=false:=fun e=>absurd e h0
    have hno:¬(¬okN d∨true=true∧dv d=0):=by rintro (h | ⟨_,h⟩);exact hnd h;exact h0 h
    rw [if_neg hno]
    conv=>whnf
    refine VCall.of_data (fn_natOf 1 (by omega)) (nd _) ?_
    cases is
    ·rw [if_pos rfl]
     obtain ⟨p1,p2,p3⟩:=parts_of (s:=true) (t:=dv d) (b:=1) (by decide) (Nat.gcd_one_right _) hs0
     rw [show rO (some (mkRat (sgn true (dv d)) 1)) = .ag [B true,nI (dv d),nI 1] by rw [rO,rI,p1,p2,p3]]
     conv=>whnf
     exact ⟨rfl,rfl,rfl,rfl,trivial,rfl⟩
    ·rw [if_neg (by decide)]
     conv=>whnf
     by_cases hg:okN g
     ·have hbg:=hg.bl
      rw [if_pos hg,decide_eq_true hg] at c4
      refine VCall.of_data c4 (ndT (fun k=>rfl)) ?_
      conv=>whnf
      refine VCall.of_data (fn_natOf 1 (by omega)) (nd _) ?_
      conv=>whnf
      refine VCall.of_data (fn_cmp (dv g) 1 (by omega) (by decide)) (nd _) ?_
      conv=>whnf
      refine Br.mk (fun h7=>?_) (fun h7=>?_)
      ·have h7:dv g≤1:=by
        simp only [decide_eq_true_eq] at h7
        have:=cmpZ_pos' (a:=dv g) (b:=1)
        omega
       rw [if_pos (.inr (.inl h7))]
       conv=>whnf
       exact ⟨rfl,rfl,trivial,rfl⟩
      ·have h7:¬dv g≤1:=by
        simp only [decide_eq_false_iff_not] at h7
        have:=cmpZ_pos' (a:=dv g) (b:=1)
        omega
       have cg:=fn_gcd (dv d) (dv g) (by omega) (by omega)
       have hbgc:bl ((dv d).gcd (dv g))≤800:=Nat.le_trans (bl_mono (Nat.gcd_le_right _ (by omega))) hbg
       conv=>whnf
       refine VCall.of_data cg (nd _) ?_
       conv=>whnf
       refine VCall.of_data (fn_natOf 1 (by omega)) (nd _) ?_
       conv=>whnf
       refine VCall.of_data (fn_cmp ((dv d).gcd (dv g)) 1 (by omega) (by decide)) (nd _) ?_
       conv=>whnf
       refine Br.mk (fun h8=>?_) (fun h8=>?_)
       ·have h8:(dv d).gcd (dv g)≠1:=fun e=>by rw [cmpZ_zero.2 e] at h8;exact absurd h8 (by decide)
        rw [if_pos (.inr (.inr h8))]
        conv=>whnf
        exact ⟨rfl,rfl,trivial,rfl⟩
       ·have h8:(dv d).gcd (dv g)=1:=cmpZ_zero.1 (by simpa using h8)
        rw [if_neg (by rintro (h9 | h9 | h9);exact h9 hg;exact h7 h9;exact h9 h8)]
        obtain ⟨p1,p2,p3⟩:=parts_of (s:=true) (t:=dv d) (b:=dv g) (by omega) h8 hs0
        rw [show rO (some (mkRat (sgn true (dv d)) (dv g))) = .ag [B true,nI (dv d),nI (dv g)] by rw [rO,rI,p1,p2,p3]]
        conv=>whnf
        exact ⟨rfl,rfl,rfl,rfl,trivial,rfl⟩
     ·rw [if_neg hg,decide_eq_false hg] at c4
      rw [if_pos (.inl hg)]
      refine VCall.of_data c4 (ndT (fun k=>rfl)) ?_
      conv=>whnf
      conv=>whnf
      exact ⟨rfl,rfl,trivial,rfl⟩
 ·rw [if_neg hd,decide_eq_false hd] at c3
  rw [if_pos (.inl hd)]
  conv=>whnf
  refine VCall.of_data c1 (ndT (fun k=>rfl)) ?_
  conv=>whnf
  refine VCall.of_data c2 (ndT (fun k=>rfl)) ?_
  conv=>whnf
  refine VCall.of_data c3 (ndT (fun k=>rfl)) ?_
  conv=>whnf
  exact ⟨rfl,rfl,trivial,rfl⟩
end Go.V
namespace Go.V
def allO {α β:Type} (f:α→Option β):List α→Option (List β)
 | []=>some []
 | x :: r=>match f x,allO f r with
  | some y,some ys=>some (y :: ys)
  | _,_=>none
theorem allO_none {α β:Type} {f:α→Option β}:∀{xs:List α} {x:α},x∈xs→f x=none→allO f xs=none
 | y :: r,x,hx,h=>by
  unfold allO
  rcases List.mem_cons.1 hx with rfl | hx
  ·rw [h]
  ·rw [allO_none hx h];cases f y <;> rfl
theorem allO_snoc {α β:Type} {f:α→Option β}:∀{xs:List α} {ys:List β} {x:α} {y:β},allO f xs=some ys→f x=some y→allO f (xs++[x])=some (ys++[y])
 | [],ys,x,y,h,hx=>by
  have:ys=[]:=by simpa [allO] using h.symm
  subst this
  simp [allO,hx]
 | z :: r,ys,x,y,h,hx=>by
  unfold allO at h
  split at h
  ·rename_i w ws hw hws
   cases h
   simp only [List.cons_append,allO,hw,allO_snoc hws hx]
  ·cases h
theorem allO_len {α β:Type} {f:α→Option β}:∀{xs:List α} {ys:List β},allO f xs=some ys→ys.length=xs.length
 | [],ys,h=>by
  have:ys=[]:=by simpa [allO] using h.symm
  subst this;rfl
 | z :: r,ys,h=>by
  unfold allO at h
  split at h
  ·rename_i w ws hw hws
   cases h
   simp [allO_len hws]
  ·cases h
theorem allO_mem {α β:Type} {f:α→Option β}:∀{xs:List α} {ys:List β} {y:β},allO f xs=some ys→y∈ys→∃x,x∈xs∧f x=some y
 | [],ys,y,h,hy=>by
  have:ys=[]:=by simpa [allO] using h.symm
  subst this;simp at hy
 | z :: r,ys,y,h,hy=>by
  unfold allO at h
  split at h
  ·rename_i w ws hw hws
   cases h
   rcases List.mem_cons.1 hy with rfl | hy
   ·exact ⟨z,by simp,hw⟩
   ·obtain ⟨x,h1,h2⟩:=allO_mem hws hy
    exact ⟨x,by simp [h1],h2⟩
  ·cases h
end Go.V
namespace Go.V
open Go.Proofs Go.RowKit
set_option maxRecDepth 10000
set_option maxHeartbeats 1000000
theorem fn_in (n a b:Int):Fn Tryz.prog 28 [I n,I a,I b] [] (B (decide (a≤n) && decide (n≤b))) []:=by
 refine Fn.intro (ks:=[0,1,2,6]) hty rfl rfl rfl rfl rfl ?_
 conv=>whnf
 refine Br.mk (fun h=>?_) (fun h=>?_)
 ·rw [h]
  conv=>whnf
  exact ⟨rfl,trivial,rfl⟩
 ·rw [h]
  conv=>whnf
  exact ⟨rfl,trivial,rfl⟩
def cT (xs:List (List UInt8)):List (List C):=xs.map fun s=>[.s (.string ⟨s.toArray⟩)]
theorem cT_len (xs:List (List UInt8)):(cT xs).length=xs.length:=by simp [cT]
theorem cT_sz (xs:List (List UInt8)):∀r,r∈cT xs→r.length=1:=by
 intro r hr;simp only [cT,List.mem_map] at hr;obtain ⟨n,_,rfl⟩:=hr;rfl
theorem cT_as {xs:List (List UInt8)} {i:Nat} {x:List UInt8} (h:i < xs.length) (e:xs.getD i []=x):(cT xs)[i]? = some [.s (.string ⟨x.toArray⟩)]:=by
 subst e;rw [List.getD_eq_getElem?_getD,List.getElem?_eq_getElem h];simp [cT,h]
theorem cT_append (xs ys:List (List UInt8)):cT xs++cT ys=cT (xs++ys):=by simp [cT]
abbrev lT (xs:List (List UInt8)):AV:=.d (.sl (cT xs))
theorem rdRat_sz {s:List UInt8} {q:Rat} (h:rdRat s=some q):sz q≤800:=by
 unfold rdRat at h
 split at h
 ·cases h
 ·rename_i h1
  simp only [not_or,Classical.not_not] at h1
  have b1:=h1.1.bl
  split at h
  ·cases h
   exact Nat.le_trans (sz_mkRat (by decide)) (by have:=bl_one;omega)
  ·split at h
   ·cases h
   ·rename_i h2
    simp only [not_or,Classical.not_not] at h2
    have b2:=h2.1.bl
    cases h
    exact Nat.le_trans (sz_mkRat (by omega)) (by omega)
def rdRats (xs:List (List UInt8)):Option (List Rat):=if 300 < xs.length then none else allO rdRat xs
theorem rdRats_sz {xs:List (List UInt8)} {ys:List Rat} (h:rdRats xs=some ys):ys.length≤300∧ys.length=xs.length∧∀q,q∈ys→sz q≤800:=by
 unfold rdRats at h
 split at h
 ·cases h
 ·have:=allO_len h
  exact ⟨by omega,this,fun q hq=>by obtain ⟨x,_,hx⟩:=allO_mem h hq;exact rdRat_sz hx⟩
theorem fn_rats (xs:List (List UInt8)) (hl:xs.length≤1000000000000) (hs:∀x,x∈xs→x.length≤1000000000000):Fn Tryz.prog 19 [lT xs] [] (.tup [lQ ((rdRats xs).getD []),B (rdRats xs).isSome]) []:=by
 have hl2:((cT xs).length:Int)=xs.length:=by rw [cT_len]
 refine Fn.intro (ks:=[0,2,3,4,6,7,8,11,13,14,15,16,25]) hty rfl rfl rfl rfl rfl ?_
 conv=>whnf
 refine Br.mk (fun h=>?_) (fun h=>?_)
 ·have h:300 < xs.length:=by simp only [decide_eq_true_eq] at h;omega
  rw [rdRats,if_pos h]
  conv=>whnf
  exact ⟨rfl,trivial,rfl⟩
 ·have h:¬300 < xs.length:=by simp only [decide_eq_false_iff_not] at h;omega
  rw [rdRats,if_neg h]
  conv=>whnf
  refine VLoop.ren 12 29 rfl ?_
  refine VLoop.inv hty (S:=List Rat) (fun s=>[(15,I s.length),(14,I xs.length),(13,lT xs),(4,.ls 29 0 s.length 3)]) (fun s=>[(29,.row true 3 (cQ s))]) (fun s=>s.length≤xs.length∧allO rdRat (xs.take s.length)=some s) (fun s=>xs.length - s.length) [] ⟨Nat.zero_le _,rfl⟩
   ⟨rfl,by show AV.d (.s (.int .i64 ((cT xs).length:Int)))=_;rw [cT_len],rfl,rfl,trivial⟩ ⟨rfl,trivial⟩ ?_
  rintro s ⟨hi,hq⟩
  obtain ⟨i,ei⟩:∃i,s.length=i:=⟨_,rfl⟩
  rw [ei] at hi hq
  rw [ei]
  conv=>whnf
  refine Br.mk (fun h2=>?_) (fun h2=>?_)
  ·have h2:i < xs.length:=by simp only [decide_eq_true_eq] at h2;omega
   obtain ⟨x,ex⟩:∃x,xs.getD i []=x:=⟨_,rfl⟩
   have hxm:x∈xs:=by rw [←ex,List.getD_eq_getElem?_getD,List.getElem?_eq_getElem h2];exact List.getElem_mem h2
   have et:xs.take (i+1)=xs.take i++[x]:=by rw [List.take_succ_eq_append_getElem h2];subst ex;rw [List.getD_eq_getElem?_getD,List.getElem?_eq_getElem h2];rfl
   have cr:=fn_readRat x (hs x hxm)
   conv=>whnf
   refine ⟨⟨⟨by omega,by omega⟩,cT_sz _⟩,?_⟩
   conv=>whnf
   refine ⟨_,cT_as (x:=x) h2 ex,?_⟩
   cases hr:rdRat x with
   | none =>
    rw [hr] at cr
    rw [allO_none hxm hr]
    conv=>whnf
    refine VCall.of_data cr (ndT (fun k=>rfl)) ?_
    conv=>whnf
    exact ⟨rfl,trivial,rfl⟩
   | some q =>
    rw [hr] at cr
    conv=>whnf
    refine VCall.of_data cr (ndT (fun k=>rfl)) ?_
    conv=>whnf
    refine Sub.full rfl ?_
    conv=>whnf
    refine Sub.full (by rw [cQ_len];exact ei) ?_
    conv=>whnf
    refine ⟨by show (i+1)*56≤_;omega,?_⟩
    conv=>whnf
    refine Wr.i64 (y:=((i+1:Nat):Int)) rfl (by omega) (by omega) ?_
    conv=>whnf
    refine ⟨s++[q],⟨by rw [List.length_append,List.length_singleton];omega,?_⟩,by show xs.length - (s++[q]).length < xs.length - i;rw [List.length_append,List.length_singleton];omega,⟨?_,rfl,rfl,?_,trivial⟩,?_,trivial⟩
    ·rw [List.length_append,List.length_singleton,ei,et]
     exact allO_snoc hq hr
    ·show AV.d (.s (.int .i64 ((i+1:Nat):Int)))=I ((s++[q]).length:Nat)
     rw [List.length_append,List.length_singleton,ei]
    ·show AV.ls 29 0 (i+1) 3=AV.ls 29 0 (s++[q]).length 3
     rw [List.length_append,List.length_singleton,ei]
    ·show Ob.row true 3 (cQ s++cQ [q])=_
     rw [cQ_append]
  ·have h2:i=xs.length:=by simp only [decide_eq_false_iff_not] at h2;omega
   rw [h2,List.take_length] at hq
   rw [hq]
   conv=>whnf
   refine ⟨⟨rfl,by rw [cQ_len];omega,?_⟩,rfl,trivial,rfl⟩
   rw [List.drop_zero,List.take_of_length_le (by rw [cQ_len];omega)];rfl
end Go.V
namespace Go.V
open Go.Proofs Go.RowKit
set_option maxRecDepth 10000
set_option maxHeartbeats 1000000
def okLoads (x:List Rat):Prop:=1≤x.length∧x.length≤48∧x.any (fun q=>decide (sgI q < 0))=false
instance (x:List Rat):Decidable (okLoads x):=by unfold okLoads;exact inferInstance
end Go.V
namespace Go.V
open Go.Proofs Go.RowKit
set_option maxRecDepth 10000
set_option maxHeartbeats 1000000
def RdI (s:List UInt8) (out:List Nat):Prop:=(∀x,x∈out→x < B9)∧dv s=vl B9 out+B9 ^ out.length*dv (s.take (s.length - 9*out.length))∧9*out.length≤s.length+8
theorem RdI.step {s:List UInt8} {out:List Nat} (hd:∀b,b∈s→IsD b) (h:RdI s out) {f tx:Nat} (ht:tx=s.length - 9*out.length) (h0:0 < tx) (hf:f=tx - 9) :
  RdI s (out++[dv ((s.drop f).take (tx - f))])∧dv ((s.drop f).take (tx - f)) < B9:=by
 obtain ⟨h1,h2,h3⟩:=h
 have hlt:dv ((s.drop f).take (tx - f)) < B9:=by
  have h4:=dv_lt (s:=(s.drop f).take (tx - f)) fun b hb=>hd b (List.mem_of_mem_drop (List.mem_of_mem_take hb))
  have h5:((s.drop f).take (tx - f)).length≤9:=by rw [List.length_take];omega
  have h6:(10:Nat) ^ ((s.drop f).take (tx - f)).length≤10 ^ 9:=Nat.pow_le_pow_right (by decide) h5
  exact Nat.lt_of_lt_of_le h4 h6
 refine ⟨⟨snoc_lt h1 hlt,?_,by rw [List.length_append,List.length_singleton];omega⟩,hlt⟩
 rw [List.length_append,List.length_singleton,vl_snoc,Nat.pow_succ,h2,←ht]
 have h4:=dv_part (s:=s) (lo:=f) (hi:=tx) (by omega) (by omega)
 have h5:s.length - 9*(out.length+1)=f:=by omega
 rw [h5,h4]
 generalize dv ((s.drop f).take (tx - f))=d
 generalize vl B9 out=vv
 generalize B9 ^ out.length=P
 rcases Nat.lt_or_ge tx 9 with h6 | h6
 ·have:dv (s.take f)=0:=by rw [show f=0 by omega];rfl
  rw [this,Nat.zero_mul,Nat.zero_add,Nat.mul_zero,Nat.add_zero]
 ·have h7:(10:Nat) ^ (tx - f)=B9:=by rw [show tx - f=9 by omega]
  rw [h7]
  generalize B9=B
  have:P*(dv (s.take f)*B)=P*B*dv (s.take f):=by rw [Nat.mul_comm (dv _) B,Nat.mul_assoc]
  rw [Nat.mul_add,this]
  omega
end Go.V
namespace Go.V
open Go.Proofs Go.RowKit
set_option maxRecDepth 10000
set_option maxHeartbeats 1000000
end Go.V
namespace Go.V
open Go.Proofs Go.RowKit
set_option maxRecDepth 10000
set_option maxHeartbeats 1000000
end Go.V
namespace Go.V
open Go.Proofs Go.RowKit
set_option maxRecDepth 10000
set_option maxHeartbeats 1000000
end Go.V
namespace Go.V
open Go.Proofs Go.RowKit
set_option maxRecDepth 10000
set_option maxHeartbeats 1000000
theorem cI_set (xs:List Int) (k:Nat) (x:Int):(cI xs).set k [.s (.int .i64 x)]=cI (xs.set k x):=by
 unfold cI;rw [List.map_set]
def marks (k n:Nat):List Int:=(List.range n).map fun i=>((k+i:Nat):Int)
theorem cI_flat (xs:List Int):∀q,q∈cI xs→∀c,c∈q→flatC c=true:=by
 intro q hq c hc
 obtain ⟨n,_,rfl⟩:=List.mem_map.1 hq
 simp at hc;subst hc;rfl
theorem lend_whole {id:Nat} {l:LL} {xs ys:List Int} (h:lget id l = .row true 1 (cI (xs++ys))):lend1 l (.ls id 0 xs.length 1) (.d (.sl (cI xs))):=by
 unfold lend1
 simp only [h]
 exact ⟨trivial,by simp [cI],by simp [cI]⟩
theorem lend_all {id:Nat} {l:LL} {xs:List Int} (h:lget id l = .row true 1 (cI xs)):lend1 l (.ls id 0 xs.length 1) (.d (.sl (cI xs))):=by
 have:xs=xs++[]:=by simp
 rw [this] at h
 exact lend_whole h
end Go.V
namespace Go.V
open Go.Proofs Go.RowKit
set_option maxRecDepth 10000
set_option maxHeartbeats 1000000
theorem cT_set (xs:List (List UInt8)) (k:Nat) (x:List UInt8):(cT xs).set k [.s (.string ⟨x.toArray⟩)]=cT (xs.set k x):=by
 unfold cT;rw [List.map_set]
end Go.V
namespace Go.V
open Go.Proofs Go.RowKit
set_option maxRecDepth 10000
set_option maxHeartbeats 1000000
theorem lend_wholeT {id:Nat} {l:LL} {xs ys:List (List UInt8)} (h:lget id l = .row true 1 (cT (xs++ys))):lend1 l (.ls id 0 xs.length 1) (.d (.sl (cT xs))):=by
 unfold lend1
 simp only [h]
 exact ⟨trivial,by simp [cT],by simp [cT]⟩
end Go.V
namespace Go.V
open Go.Proofs Go.RowKit
set_option maxRecDepth 10000
set_option maxHeartbeats 1000000
theorem sum_take (xs:List Int) (hs:∀x,x∈xs→0≤x∧x≤1000000):∀k,k≤xs.length→0≤(xs.take k).sum∧(xs.take k).sum≤1000000*k
 | 0,_=>by simp
 | k+1,h=>by
  have ih:=sum_take xs hs k (by omega)
  rw [List.take_succ_eq_append_getElem (by omega),List.sum_append]
  have:=hs xs[k] (by simp)
  simp
  omega
theorem fn_total (xs:List Int) (hs:∀x,x∈xs→0≤x∧x≤1000000) (hl:xs.length≤1000000):Fn Tryz.prog 18 [.d (.sl (cI xs))] [] (I xs.sum) []:=by
 refine Fn.intro (ks:=[0,2,3,5,6,7,8,9]) hty rfl rfl rfl rfl rfl ?_
 conv=>whnf
 refine VLoop.inv hty (S:=Nat) (fun k=>[(8,I k),(7,I (cI xs).length),(6,.d (.sl (cI xs))),(3,I (xs.take k).sum)]) (fun _=>[]) (fun k=>k≤xs.length) (fun k=>xs.length - k) 0 (Nat.zero_le _) ⟨rfl,rfl,rfl,rfl,trivial⟩ trivial ?_
 intro k hk
 conv=>whnf
 refine Br.mk (fun h=>?_) (fun h=>?_)
 ·have hk':k < xs.length:=by simp [cI_len] at h;omega
  conv=>whnf
  refine ⟨⟨⟨by omega,by rw [cI_len];omega⟩,cI_sz xs⟩,?_⟩
  conv=>whnf
  refine ⟨[.s (.int .i64 xs[k])],by simp [cI,hk'],?_⟩
  conv=>whnf
  have h0:=sum_take xs hs k (by omega)
  have h1:=sum_take xs hs (k+1) (by omega)
  have e:(xs.take k).sum+xs[k]=(xs.take (k+1)).sum:=by rw [List.take_succ_eq_append_getElem hk',List.sum_append];simp
  refine Wr.fit (wrap_i64 (by omega) (by omega)) ?_
  conv=>whnf
  refine Wr.fit (wrap_i64 (by omega) (by omega)) ?_
  conv=>whnf
  refine ⟨k+1,hk',by omega,⟨rfl,rfl,rfl,?_,trivial⟩,trivial⟩
  rw [←e];rfl
 ·have hk':k=xs.length:=by simp [cI_len] at h;omega
  conv=>whnf
  refine ⟨?_,trivial,rfl⟩
  rw [hk',List.take_length]
def staff (xs:List Int) (n:Int) (h:Nat):Int:=((xs.take (h+1)).drop (max ((h:Int) - n+1) 0).toNat).sum
theorem fn_staffAt (xs:List Int) (n:Int) (hs:∀x,x∈xs→0≤x∧x≤1000000) (hl:xs.length≤1000000) (hn:1≤n∧n≤1000000) :
  Fn Tryz.prog 16 [.d (.sl (cI xs)),I n] [] (.ls 0 0 xs.length 1) [(0,.row true 1 (cI ((List.range xs.length).map (staff xs n))))]:=by
 refine Fn.intro (ks:=[0,1,4,5,6,9,10,11]) hty rfl rfl rfl rfl rfl ?_
 conv=>whnf
 refine VLoop.ren 7 25 rfl ?_
 refine VLoop.inv hty (S:=Nat) (fun k=>[(10,I k),(9,I (cI xs).length),(0,.d (.sl (cI xs))),(1,I n),(5,.ls 25 0 k 1)])
  (fun k=>[(25,.row true 1 (cI ((List.range k).map (staff xs n))))]) (fun k=>k≤xs.length) (fun k=>xs.length - k) 0 (Nat.zero_le _) ⟨rfl,rfl,rfl,rfl,rfl,trivial⟩ ⟨rfl,trivial⟩ ?_
 intro k hk
 conv=>whnf
 refine Br.mk (fun h=>?_) (fun h=>?_)
 ·have hk':k < xs.length:=by simp [cI_len] at h;omega
  conv=>whnf
  refine Wr.fit (wrap_i64 (by omega) (by omega)) ?_
  conv=>whnf
  refine Wr.fit (wrap_i64 (by omega) (by omega)) ?_
  conv=>whnf
  refine Wr.fit (wrap_i64 (by omega) (by omega)) ?_
  conv=>whnf
  refine ⟨⟨by rw [cI_len];omega,cI_sz xs⟩,?_⟩
  conv=>whnf
  have hstaff:staff xs n k=(List.drop (max ((k:Int) - n+1) 0).toNat (List.take ((k:Int)+1).toNat xs)).sum:=by
   unfold staff;rw [show ((k:Int)+1).toNat=k+1 by omega]
  have hcall:=fn_total (List.drop (max ((k:Int) - n+1) 0).toNat (List.take ((k:Int)+1).toNat xs)) (fun x hx=>hs x (List.mem_of_mem_take (List.mem_of_mem_drop hx))) (by simp;omega)
  rw [←hstaff] at hcall
  have e:cI (List.drop (max ((k:Int) - n+1) 0).toNat (List.take ((k:Int)+1).toNat xs))=List.drop (max ((k:Int) - n+1) 0).toNat (List.take ((k:Int)+1).toNat (cI xs)):=by simp [cI,List.map_drop,List.map_take]
  rw [e] at hcall
  refine VCall.of_data hcall (fun j h=>by cases h) ?_
  conv=>whnf
  refine ⟨_,rfl,Nat.le_refl _,?_⟩
  conv=>whnf
  refine ⟨_,rfl,by simp [cI],?_⟩
  conv=>whnf
  refine ⟨by show (k+1)*8≤_;omega,?_⟩
  conv=>whnf
  refine Wr.fit (wrap_i64 (by omega) (by omega)) ?_
  conv=>whnf
  refine ⟨k+1,hk',by omega,⟨rfl,rfl,rfl,rfl,rfl,trivial⟩,?_,trivial⟩
  show Ob.row true 1 (List.take k (cI (List.map (staff xs n) (List.range k)))++[[C.s (Value.int IntKind.i64 (staff xs n k))]])=_
  have h1:List.take k (cI (List.map (staff xs n) (List.range k)))=cI (List.map (staff xs n) (List.range k)):=List.take_of_length_le (by simp [cI])
  rw [h1]
  congr 1
  simp [cI,List.range_succ]
 ·have hk':k=xs.length:=by simp [cI_len] at h;omega
  subst hk'
  conv=>whnf
  exact ⟨⟨rfl,rfl,rfl,rfl,rfl,rfl⟩,[],rfl,trivial,rfl⟩
theorem fn_hours1 (n:Int):Fn Tryz.prog 30 [I n] [] (B (!(decide (0≤n) && decide (n≤1000)))) []:=by
 refine Fn.intro (ks:=[0,2]) hty rfl rfl rfl rfl rfl ?_
 conv=>whnf
 refine VCall.of_data (fn_in n 0 1000) (fun j h=>by cases h) ?_
 conv=>whnf
 exact ⟨rfl,trivial,rfl⟩
def idx (p:Int→Bool) (xs:List Int):Int:=if xs.any p then xs.findIdx p else -1
theorem fn_index (g:Nat) (p:Int→Bool) (xs:List Int) (hl:xs.length≤1000000) (hg:∀x,x∈xs→Fn Tryz.prog g [I x] [] (B (p x)) []):Fn Tryz.prog 42 [.d (.sl (cI xs)),.d (.fn g [])] [] (I (idx p xs)) []:=by
 refine Fn.intro (ks:=[0,1,4,5,7,8,9,16]) hty rfl rfl rfl rfl rfl ?_
 conv=>whnf
 refine VLoop.inv hty (S:=Nat) (fun k=>[(8,I k),(7,I (cI xs).length),(0,.d (.sl (cI xs))),(1,.d (.fn g []))]) (fun _=>[]) (fun k=>k≤xs.length∧∀j (h:j < xs.length),j < k→p xs[j]=false) (fun k=>xs.length - k) 0 ⟨Nat.zero_le _,fun j _ h=>by omega⟩ ⟨rfl,rfl,rfl,rfl,trivial⟩ trivial ?_
 rintro k ⟨hk,hp⟩
 conv=>whnf
 refine Br.mk (fun h=>?_) (fun h=>?_)
 ·have hk':k < xs.length:=by simp [cI_len] at h;omega
  conv=>whnf
  refine ⟨⟨⟨by omega,by rw [cI_len];omega⟩,cI_sz xs⟩,?_⟩
  conv=>whnf
  refine ⟨[.s (.int .i64 xs[k])],by simp [cI,hk'],?_⟩
  conv=>whnf
  refine VCall.of_data (hg xs[k] (by simp)) (fun j h=>by cases h) ?_
  conv=>whnf
  refine Br.mk (fun h2=>?_) (fun h2=>?_)
  ·conv=>whnf
   refine ⟨?_,trivial,rfl⟩
   have h3:xs.any p=true:=List.any_eq_true.2 ⟨xs[k],by simp,h2⟩
   have h4:xs.findIdx p=k:=(List.findIdx_eq hk').2 ⟨h2,fun j hj=>hp j (by omega) hj⟩
   simp [idx,h3,h4]
  ·conv=>whnf
   refine Wr.fit (wrap_i64 (by omega) (by omega)) ?_
   conv=>whnf
   exact ⟨k+1,⟨hk',fun j hj hjk=>by
    rcases Nat.lt_or_ge j k with h5 | h5
    ·exact hp j hj h5
    ·have:j=k:=by omega
     subst this;exact h2⟩,by omega,⟨rfl,rfl,rfl,rfl,trivial⟩,trivial⟩
 ·have hk':k=xs.length:=by simp [cI_len] at h;omega
  conv=>whnf
  refine ⟨?_,trivial,rfl⟩
  have h3:xs.any p=false:=List.any_eq_false.2 fun x hx=>by
   obtain ⟨j,hj,rfl⟩:=List.mem_iff_getElem.1 hx
   simp [hp j hj (by omega)]
  simp [idx,h3]
theorem fn_contains (g:Nat) (p:Int→Bool) (xs:List Int) (hl:xs.length≤1000000) (hg:∀x,x∈xs→Fn Tryz.prog g [I x] [] (B (p x)) []):Fn Tryz.prog 29 [.d (.sl (cI xs)),.d (.fn g [])] [] (B (xs.any p)) []:=by
 refine Fn.intro (ks:=[0,1,4]) hty rfl rfl rfl rfl rfl ?_
 conv=>whnf
 refine VCall.of_data (fn_index g p xs hl hg) (fun j h=>by cases h) ?_
 conv=>whnf
 refine ⟨?_,trivial,rfl⟩
 unfold idx
 cases xs.any p <;> simp
def hoursB (xs:List Int) (n:Int):Bool:=((decide (1≤(xs.length:Int)) && decide ((xs.length:Int)≤48)) && (decide (1≤n) && decide (n≤xs.length))) && !(xs.any fun x=>!(decide (0≤x) && decide (x≤1000)))
theorem fn_hoursOk (xs:List Int) (n:Int) (hl:xs.length≤1000000):Fn Tryz.prog 15 [.d (.sl (cI xs)),I n] [] (B (hoursB xs n)) []:=by
 refine Fn.intro (ks:=[0,1,4,5]) hty rfl rfl rfl rfl rfl ?_
 conv=>whnf
 rw [cI_len]
 have c1:=fn_in xs.length 1 48
 have c2:=fn_in n 1 xs.length
 have c3:=fn_contains 30 _ xs hl (fun x _=>fn_hours1 x)
 generalize h1:(decide (1≤(xs.length:Int)) && decide ((xs.length:Int)≤48))=b1 at c1
 generalize h2:(decide (1≤n) && decide (n≤(xs.length:Int)))=b2 at c2
 generalize h3:(xs.any fun x=>!(decide (0≤x) && decide (x≤1000)))=b3 at c3
 have hB:hoursB xs n=((b1 && b2) && !b3):=by rw [hoursB,h1,h2,h3]
 refine VCall.of_data c1 (fun j h=>by cases h) ?_
 conv=>whnf
 refine Br.mk (fun e1=>?_) (fun e1=>?_)
 ·conv=>whnf
  refine VCall.of_data c2 (fun j h=>by cases h) ?_
  conv=>whnf
  subst e1
  conv=>whnf
  refine Br.mk (fun e2=>?_) (fun e2=>?_)
  ·conv=>whnf
   refine VCall.of_data c3 (fun j h=>by cases h) ?_
   conv=>whnf
   exact ⟨by rw [hB,e2];cases b3 <;> rfl,trivial,rfl⟩
  ·conv=>whnf
   exact ⟨by rw [hB,e2];rfl,trivial,rfl⟩
 ·conv=>whnf
  exact ⟨by rw [hB,e1];rfl,trivial,rfl⟩
theorem fn_starts1 (n:Int):Fn Tryz.prog 31 [I n] [] (B (decide (0 < n))) []:=by
 refine Fn.intro (ks:=[0,2]) hty rfl rfl rfl rfl rfl ?_
 conv=>whnf
 exact ⟨rfl,trivial,rfl⟩
def startsB (xs:List Int) (n:Int):Bool:=hoursB xs n && !((xs.drop ((xs.length:Int) - n+1).toNat).any fun x=>decide (0 < x))
theorem hoursB_n {xs:List Int} {n:Int} (h:hoursB xs n=true):1≤xs.length∧xs.length≤48∧1≤n∧n≤xs.length∧∀x,x∈xs→0≤x∧x≤1000:=by
 simp [hoursB] at h
 obtain ⟨⟨⟨h1,h2⟩,h3,h4⟩,h5⟩:=h
 exact ⟨by omega,by omega,h3,h4,fun x hx=>h5 x hx⟩
theorem fn_startsOk (xs:List Int) (n:Int) (hl:xs.length≤1000000):Fn Tryz.prog 17 [.d (.sl (cI xs)),I n] [] (B (startsB xs n)) []:=by
 refine Fn.intro (ks:=[0,1,4,7,8]) hty rfl rfl rfl rfl rfl ?_
 conv=>whnf
 have c1:=fn_hoursOk xs n hl
 generalize h1:hoursB xs n=b1 at c1
 refine VCall.of_data c1 (fun j h=>by cases h) ?_
 conv=>whnf
 cases b1 with
 | false =>
  conv=>whnf
  exact ⟨by rw [startsB,h1];rfl,trivial,rfl⟩
 | true =>
  obtain ⟨g1,g2,g3,g4,g5⟩:=hoursB_n h1
  conv=>whnf
  rw [cI_len]
  refine Wr.fit (wrap_i64 (by omega) (by omega)) ?_
  conv=>whnf
  refine Wr.fit (wrap_i64 (by omega) (by omega)) ?_
  conv=>whnf
  refine ⟨⟨by rw [cI_len];omega,cI_sz xs⟩,?_⟩
  conv=>whnf
  have c2:=fn_contains 31 _ (xs.drop ((xs.length:Int) - n+1).toNat) (by simp;omega) (fun x _=>fn_starts1 x)
  generalize h2:((xs.drop ((xs.length:Int) - n+1).toNat).any fun x=>decide (0 < x))=b2 at c2
  have e:cI (xs.drop ((xs.length:Int) - n+1).toNat)=List.drop ((xs.length:Int) - n+1).toNat (List.take ((cI xs).length:Int).toNat (cI xs)):=by
   rw [List.take_of_length_le (by simp)];simp [cI,List.map_drop]
  rw [e] at c2
  refine VCall.of_data c2 (fun j h=>by cases h) ?_
  conv=>whnf
  exact ⟨by rw [startsB,h1,h2];rfl,trivial,rfl⟩
def numsB (xs:List Int):Bool:=(decide (1≤(xs.length:Int)) && decide ((xs.length:Int)≤48)) && xs.all fun x=>(decide (0≤x) && decide (x≤1000))
def zerosFrom (xs:List Int) (i:Nat):Bool:=(List.range xs.length).all fun j=>decide (j < i) || decide (xs.getD j 0=0)
def startsS (xs:List Int) (n:Int):Bool:=(numsB xs && (decide (1≤n) && decide (n≤(xs.length:Int)))) && zerosFrom xs ((xs.length:Int) - n+1).toNat
theorem numsB_n {xs:List Int} (h:numsB xs=true):1≤xs.length∧xs.length≤48∧∀x,x∈xs→0≤x∧x≤1000:=by
 simp [numsB] at h
 obtain ⟨⟨h1,h2⟩,h5⟩:=h
 exact ⟨by omega,by omega,fun x hx=>h5 x hx⟩
theorem hoursB_iff (xs:List Int) (n:Int):hoursB xs n=true↔(1≤xs.length∧xs.length≤48)∧(1≤n∧n≤xs.length)∧∀x,x∈xs→0≤x∧x≤1000:=by
 simp only [hoursB,Bool.and_eq_true,decide_eq_true_eq,Bool.not_eq_true',List.any_eq_false]
 constructor
 ·rintro ⟨⟨⟨h1,h2⟩,h3,h4⟩,h5⟩
  exact ⟨⟨by omega,by omega⟩,⟨h3,h4⟩,fun x hx=>by have:=h5 x hx;simp at this;exact this⟩
 ·rintro ⟨⟨h1,h2⟩,⟨h3,h4⟩,h5⟩
  exact ⟨⟨⟨by omega,by omega⟩,h3,h4⟩,fun x hx=>by have:=h5 x hx;simp;exact this⟩
theorem numsB_iff (xs:List Int):numsB xs=true↔(1≤xs.length∧xs.length≤48)∧∀x,x∈xs→0≤x∧x≤1000:=by
 simp only [numsB,Bool.and_eq_true,decide_eq_true_eq,List.all_eq_true]
 constructor
 ·rintro ⟨⟨h1,h2⟩,h5⟩
  exact ⟨⟨by omega,by omega⟩,h5⟩
 ·rintro ⟨⟨h1,h2⟩,h5⟩
  exact ⟨⟨by omega,by omega⟩,h5⟩
theorem starts_eq (ys:List Int) (n:Int):startsB ys n=startsS ys n:=by
 rw [Bool.eq_iff_iff]
 unfold startsB startsS
 simp only [Bool.and_eq_true,hoursB_iff,numsB_iff,decide_eq_true_eq,Bool.not_eq_true',List.any_eq_false,zerosFrom,List.all_eq_true,List.mem_range,Bool.or_eq_true]
 constructor
 ·rintro ⟨⟨h1,h2,h3⟩,h4⟩
  refine ⟨⟨⟨h1,h3⟩,h2⟩,fun j hj=>?_⟩
  by_cases hlt:j < ((ys.length:Int) - n+1).toNat
  ·exact .inl hlt
  ·refine .inr ?_
   have hm:ys[j]∈ys.drop ((ys.length:Int) - n+1).toNat:=by
    rw [List.mem_iff_getElem]
    exact ⟨j - ((ys.length:Int) - n+1).toNat,by simp;omega,by rw [List.getElem_drop];congr 1;omega⟩
   have h5:=h4 _ hm
   have h6:=h3 ys[j] (by simp)
   have e:ys.getD j 0=ys[j]:=by simp [List.getD_eq_getElem?_getD,hj]
   rw [e]
   omega
 ·rintro ⟨⟨⟨h1,h3⟩,h2⟩,h4⟩
  refine ⟨⟨h1,h2,h3⟩,fun x hx=>?_⟩
  rw [List.mem_iff_getElem] at hx
  obtain ⟨k,hk,rfl⟩:=hx
  rw [List.getElem_drop]
  have hk':((ys.length:Int) - n+1).toNat+k < ys.length:=by simp at hk;omega
  have:=h4 _ hk'
  rw [show ys.getD (((ys.length:Int) - n+1).toNat+k) 0=ys[((ys.length:Int) - n+1).toNat+k] by simp [List.getD_eq_getElem?_getD,hk']] at this
  rcases this with h | h
  ·omega
  ·omega
def staffs (xs:List Int) (n:Int):List Int:=(List.range xs.length).map (staff xs n)
theorem staffs_len (xs:List Int) (n:Int):(staffs xs n).length=xs.length:=by simp [staffs]
theorem startsB_n {xs:List Int} {n:Int} (h:startsB xs n=true):1≤xs.length∧xs.length≤48∧1≤n∧n≤xs.length∧∀x,x∈xs→0≤x∧x≤1000:=by
 unfold startsB at h
 simp only [Bool.and_eq_true] at h
 exact hoursB_n h.1
theorem sum_le {xs:List Int} {m:Int} (h:∀x,x∈xs→0≤x∧x≤m):0≤xs.sum∧xs.sum≤m*xs.length:=by
 induction xs with
 | nil=>simp
 | cons x r ih =>
  obtain ⟨h1,h2⟩:=ih fun y hy=>h y (by simp [hy])
  obtain ⟨h3,h4⟩:=h x (by simp)
  simp only [List.sum_cons,List.length_cons]
  refine ⟨by omega,?_⟩
  have:m*((r.length+1:Nat):Int)=m*r.length+m:=by rw [Int.natCast_add,Int.mul_add];simp
  omega
theorem staff_le {ys:List Int} {n:Int} (h:∀x,x∈ys→0≤x∧x≤1000) (hl:ys.length≤48) (k:Nat):0≤staff ys n k∧staff ys n k≤48000:=by
 unfold staff
 have h1:=sum_le (xs:=(ys.take (k+1)).drop (max ((k:Int) - n+1) 0).toNat) (m:=1000) fun x hx=>h x (List.mem_of_mem_take (List.mem_of_mem_drop hx))
 have h2:((ys.take (k+1)).drop (max ((k:Int) - n+1) 0).toNat).length≤48:=by simp;omega
 omega
theorem staffs_mem {ys:List Int} {n:Int} (h:∀x,x∈ys→0≤x∧x≤1000) (hl:ys.length≤48):∀x,x∈staffs ys n→0≤x∧x≤48000:=by
 intro x hx
 obtain ⟨k,_,rfl⟩:=List.mem_map.1 hx
 exact staff_le h hl k
end Go.V
namespace Go.V
open Go.Proofs Go.RowKit
set_option maxRecDepth 10000
set_option maxHeartbeats 1000000
def lackAt (xs:List Int) (n:Int) (s:List Int) (h:Nat):Int:=xs.getD h 0 - staff s n h
def atI (xs:List Int) (n:Int) (h:Nat):Nat:=(min (h:Int) ((xs.length:Int) - n)).toNat
def stepL (xs:List Int) (n:Int) (s:List Int) (h:Nat):List Int:=if 0 < lackAt xs n s h then s.set (atI xs n h) (s.getD (atI xs n h) 0+lackAt xs n s h) else s
def least' (xs:List Int) (n:Int):Nat→List Int
 | 0=>List.replicate xs.length 0
 | k+1=>stepL xs n (least' xs n k) k
theorem getD_set (s:List Int) (a i:Nat) (v:Int):(s.set a v).getD i 0=if a=i∧a < s.length then v else s.getD i 0:=by
 simp only [List.getD_eq_getElem?_getD,List.getElem?_set]
 by_cases h:a=i
 ·subst h
  by_cases h2:a < s.length
  ·simp [h2]
  ·simp [h2]
 ·simp [h]
theorem getD_mem {s:List Int} {p:Int→Prop} (h:∀x,x∈s→p x) {i:Nat} (hi:i < s.length):p (s.getD i 0):=by
 rw [show s.getD i 0=s[i] by simp [List.getD_eq_getElem?_getD,hi]]
 exact h _ (by simp)
theorem mem_getD {s:List Int} {p:Int→Prop} (h:∀i,i < s.length→p (s.getD i 0)):∀x,x∈s→p x:=by
 intro x hx
 obtain ⟨i,hi,rfl⟩:=List.mem_iff_getElem.1 hx
 have:=h i hi
 rwa [show s.getD i 0=s[i] by simp [List.getD_eq_getElem?_getD,hi]] at this
section
variable {xs:List Int} {n:Int} (hn:1≤n∧n≤xs.length) (hx:∀x,x∈xs→0≤x∧x≤1000)
theorem least_len (k:Nat):(least' xs n k).length=xs.length:=by
 induction k with
 | zero=>simp [least']
 | succ k ih=>unfold least' stepL;split <;> simp [ih]
theorem staff_nn {s:List Int} (h:∀x,x∈s→0≤x) (k:Nat):0≤staff s n k:=by
 unfold staff
 have:∀l:List Int,(∀x,x∈l→0≤x)→0≤l.sum:=by
  intro l
  induction l with
  | nil=>intro _;simp
  | cons x r ih=>intro h;have:=h x (by simp);have:=ih fun y hy=>h y (by simp [hy]);simp;omega
 exact this _ fun x hx=>h x (List.mem_of_mem_take (List.mem_of_mem_drop hx))
include hn
theorem atI_lt {k:Nat}:atI xs n k≤k∧(atI xs n k:Int)≤(xs.length:Int) - n:=by
 unfold atI;omega
theorem least_tail (k:Nat) (i:Nat) (hi:(xs.length:Int) - n < i):(least' xs n k).getD i 0=0:=by
 induction k with
 | zero=>simp [least',List.getD_eq_getElem?_getD,List.getElem?_replicate];split <;> rfl
 | succ k ih =>
  unfold least' stepL
  split
  ·rw [getD_set,if_neg]
   ·exact ih
   ·rintro ⟨h,_⟩
    have:=(atI_lt hn (k:=k)).2
    omega
  ·exact ih
omit hn in
include hx in
theorem least_bd (k:Nat) (hk:k≤xs.length):∀x,x∈least' xs n k→0≤x∧x≤1000*k:=by
 induction k with
 | zero=>intro x hx;simp [least'] at hx;omega
 | succ k ih =>
  have ih:=ih (by omega)
  have hs:=staff_nn (n:=n) (s:=least' xs n k) (fun x h=>(ih x h).1) k
  have hk':k < xs.length:=by omega
  have hxk:=getD_mem hx hk'
  have hl:=least_len (xs:=xs) (n:=n) k
  refine mem_getD fun i hi=>?_
  rw [least_len] at hi
  have hi':=getD_mem ih (i:=i) (by omega)
  unfold least' stepL
  split
  ·rename_i hp
   rw [getD_set]
   split
   ·rename_i he
    have ha:=getD_mem ih (i:=atI xs n k) (by omega)
    unfold lackAt at hp ⊢
    omega
   ·omega
  ·omega
include hx in
theorem least_startsB (hl:xs.length≤48):startsB (least' xs n xs.length) n=true↔∀i,i < xs.length→(least' xs n xs.length).getD i 0≤1000:=by
 have hlen:=least_len (xs:=xs) (n:=n) xs.length
 have hb:=least_bd (n:=n) hx xs.length (Nat.le_refl _)
 rw [starts_eq]
 unfold startsS
 simp only [Bool.and_eq_true,numsB_iff,decide_eq_true_eq,zerosFrom,List.all_eq_true,List.mem_range,Bool.or_eq_true,hlen]
 constructor
 ·rintro ⟨⟨⟨_,h⟩,_⟩,_⟩ i hi
  exact (getD_mem h (i:=i) (by omega)).2
 ·intro h
  refine ⟨⟨⟨⟨by omega,hl⟩,mem_getD fun i hi=>⟨(getD_mem hb hi).1,h i (by omega)⟩⟩,by omega⟩,fun j hj=>?_⟩
  by_cases h2:j < ((xs.length:Int) - n+1).toNat
  ·exact .inl h2
  ·exact .inr (least_tail hn _ j (by omega))
end
theorem lend_I {id:Nat} {l:LL} {s:List Int} {m:Nat} (h:lget id l = .row true 1 (cI s)) (hm:s.length=m):lend1 l (.ls id 0 m 1) (.d (.sl (cI s))):=by
 subst hm;exact lend_all h
abbrev okL (xs:List Int) (n:Int):Bool:=startsB (least' xs n xs.length) n
theorem staff_row (s:List Int) (n:Int):(List.drop 0 (cI ((List.range s.length).map (staff s n)))).take s.length=cI (staffs s n):=by
 rw [List.drop_zero,List.take_of_length_le (by simp [cI_len])];rfl
theorem fn_LeastStaff (xs : List Int) (n : Int) (h : hoursB xs n = true) :
    (okL xs n = true → Fn Tryz.prog 7 [.d (.sl (cI xs)), I n] [] (.tup [.ls 0 0 xs.length 1, I (least' xs n xs.length).sum, B true]) [(0, .row true 1 (cI (least' xs n xs.length)))]) ∧
    (okL xs n = false → Fn Tryz.prog 7 [.d (.sl (cI xs)), I n] [] (.tup [.d (.sl []), I 0, B false]) []) := by
  obtain ⟨h1, h2, h3, h4, h5⟩ := hoursB_n h
  have hn : 1 ≤ n ∧ n ≤ xs.length := ⟨h3, h4⟩
  have c1 := fn_hoursOk xs n (by omega)
  rw [h] at c1
  have c2 := fn_startsOk (least' xs n xs.length) n (by rw [least_len]; omega)
  constructor
  all_goals
    intro hb
    change startsB (least' xs n xs.length) n = _ at hb
    rw [hb] at c2
    refine Fn.intro (ks := [0,1,4,5,6,7,8,9,10,11,15,20,21,22,23,36,52]) hty rfl rfl rfl rfl rfl ?_
    conv => whnf
    refine VCall.of_data c1 (nd _) ?_
    conv => whnf
    rw [cI_len]
    refine ⟨⟨by omega, by omega, by show (xs.length : Int) * ((8 : Nat) : Int) ≤ _; omega, by omega⟩, ?_⟩
    conv => whnf
    refine VLoop.inv hty (S := Nat) (fun k => [(22, I k), (21, I xs.length), (20, .d (.sl (cI xs))), (8, .ls 19 0 xs.length 1), (7, I xs.length), (1, I n), (0, .d (.sl (cI xs)))])
      (fun k => [(19, .row true 1 (cI (least' xs n k)))]) (fun k => k ≤ xs.length) (fun k => xs.length - k) 0 (Nat.zero_le _)
      ⟨rfl, by show AV.d (.s (.int .i64 ((cI xs).length : Int))) = _; rw [cI_len], rfl, rfl, rfl, rfl, rfl, trivial⟩ ⟨by show Ob.row true 1 (List.replicate (xs.length : Int).toNat [.s (.int .i64 0)]) = _; simp [cI, least'], trivial⟩ ?_
    intro k hk
    conv => whnf
    have hlen := least_len (xs := xs) (n := n) k
    have hbd := least_bd (n := n) h5 k hk
    have hbd' : ∀ x, x ∈ least' xs n k → 0 ≤ x ∧ x ≤ 1000000 := fun x hx => by have := hbd x hx; omega
    refine Br.mk (fun hc => ?_) (fun hc => ?_)
    · have hk' : k < xs.length := by simp at hc; omega
      conv => whnf
      refine ⟨⟨⟨by omega, by rw [cI_len]; omega⟩, cI_sz _⟩, ?_⟩
      conv => whnf
      refine ⟨[.s (.int .i64 xs[k])], by simp [cI, hk'], ?_⟩
      conv => whnf
      have c3 := fn_staffAt (least' xs n k) n hbd' (by omega) (by omega)
      refine VCall.lendD c3 ⟨lend_I rfl hlen, rfl, trivial⟩ (cI_flat _) (by simp [cI_len]) ?_
      rw [staff_row]
      conv => whnf
      refine ⟨⟨⟨by omega, by rw [cI_len, staffs_len]; omega⟩, cI_sz _⟩, ?_⟩
      conv => whnf
      refine ⟨[.s (.int .i64 (staff (least' xs n k) n k))], by simp [cI, staffs, hlen, hk'], ?_⟩
      conv => whnf
      have hs := staff_nn (n := n) (s := least' xs n k) (fun x h => (hbd x h).1) k
      have hs2 : staff (least' xs n k) n k ≤ 48000000 := by
        unfold staff
        have := sum_le (xs := ((least' xs n k).take (k + 1)).drop (max ((k : Int) - n + 1) 0).toNat) (m := 1000000) fun x hx => hbd' x (List.mem_of_mem_take (List.mem_of_mem_drop hx))
        have h2 : (((least' xs n k).take (k + 1)).drop (max ((k : Int) - n + 1) 0).toNat).length ≤ 48 := by simp; omega
        omega
      have hxk : xs.getD k 0 = xs[k] := by simp [List.getD_eq_getElem?_getD, hk']
      have hx0 := h5 xs[k] (by simp)
      have hlack : xs[k] - staff (least' xs n k) n k = lackAt xs n (least' xs n k) k := by unfold lackAt; rw [hxk]
      refine Wr.fit (wrap_i64 (by omega) (by omega)) ?_
      rw [hlack]
      conv => whnf
      refine Br.mk (fun hp => ?_) (fun hp => ?_)
      · have hp : 0 < lackAt xs n (least' xs n k) k := by simpa using hp
        conv => whnf
        refine Wr.fit (wrap_i64 (by omega) (by omega)) ?_
        conv => whnf
        have ha := atI_lt hn (k := k)
        have ha' : atI xs n k < (least' xs n k).length := by omega
        refine ⟨by omega, ?_⟩
        conv => whnf
        refine ⟨[.s (.int .i64 ((least' xs n k).getD (atI xs n k) 0))], by
          rw [show (min (k : Int) ((xs.length : Int) - n)).toNat + 0 = atI xs n k from rfl]
          simp [cI, List.getD_eq_getElem?_getD, ha'], ?_⟩
        conv => whnf
        have hb1 := getD_mem hbd ha'
        refine Wr.fit (wrap_i64 (by omega) (by omega)) ?_
        conv => whnf
        refine ⟨by omega, ?_⟩
        conv => whnf
        refine ⟨[.s (.int .i64 ((least' xs n k).getD (atI xs n k) 0))], by
          rw [show (min (k : Int) ((xs.length : Int) - n)).toNat + 0 = atI xs n k from rfl]
          simp [cI, List.getD_eq_getElem?_getD, ha'], ?_⟩
        conv => whnf
        refine Wr.fit (wrap_i64 (by omega) (by omega)) ?_
        conv => whnf
        refine ⟨k + 1, hk', by omega, ⟨rfl, rfl, rfl, rfl, rfl, rfl, rfl, trivial⟩, ?_, trivial⟩
        show Ob.row true 1 ((cI _).set (atI xs n k) [.s (.int .i64 _)]) = _
        rw [cI_set]
        show _ = Ob.row true 1 (cI (stepL xs n (least' xs n k) k))
        unfold stepL
        rw [if_pos hp]
      · have hp : ¬ 0 < lackAt xs n (least' xs n k) k := by simpa using hp
        conv => whnf
        refine Wr.fit (wrap_i64 (by omega) (by omega)) ?_
        conv => whnf
        refine ⟨k + 1, hk', by omega, ⟨rfl, rfl, rfl, rfl, rfl, rfl, rfl, trivial⟩, ?_, trivial⟩
        show Ob.row true 1 (cI _) = Ob.row true 1 (cI (stepL xs n (least' xs n k) k))
        unfold stepL
        rw [if_neg hp]
    · have hk' : k = xs.length := by simp at hc; omega
      subst hk'
      conv => whnf
      refine VCall.lend c2 ⟨lend_I rfl hlen, rfl, trivial⟩ rfl ?_
      conv => whnf
      first
        | exact ⟨rfl, rfl, trivial, rfl⟩
        | (refine VCall.lend (fn_total (least' xs n xs.length) hbd' (by omega)) ⟨lend_I rfl hlen, trivial⟩ rfl ?_
           conv => whnf
           exact ⟨⟨rfl, rfl, rfl, rfl, rfl, rfl⟩, [], rfl, rfl, rfl, trivial, rfl⟩)
abbrev goodL (xs:List Int) (n:Int):Bool:=hoursB xs n && okL xs n
theorem fn_LeastStaff1 (xs:List Int) (n:Int) (h:goodL xs n=true) :
  Fn Tryz.prog 7 [.d (.sl (cI xs)),I n] [] (.tup [.ls 0 0 xs.length 1,I (least' xs n xs.length).sum,B true]) [(0,.row true 1 (cI (least' xs n xs.length)))]:=by
 simp only [goodL,Bool.and_eq_true] at h
 exact (fn_LeastStaff xs n h.1).1 h.2
end Go.V
namespace Go.V
def pre (s:List Int) (k:Nat):Int:=(s.take k).sum
theorem pre_zero (s:List Int):pre s 0=0:=by simp [pre]
theorem pre_succ (s:List Int) (k:Nat):pre s (k+1)=pre s k+s.getD k 0:=by
 unfold pre
 rcases Nat.lt_or_ge k s.length with h | h
 ·rw [List.take_succ_eq_append_getElem h,List.sum_append,List.getD_eq_getElem?_getD,List.getElem?_eq_getElem h];simp
 ·rw [List.take_of_length_le (by omega),List.take_of_length_le h,List.getD_eq_getElem?_getD,List.getElem?_eq_none h];simp
theorem pre_all (s:List Int) {k:Nat} (h:s.length≤k):pre s k=s.sum:=by unfold pre;rw [List.take_of_length_le h]
theorem staff_pre (s:List Int) (n:Int) (h:Nat) (hn:1≤n):staff s n h=pre s (h+1) - pre s ((h:Int) - n+1).toNat:=by
 have e:(max ((h:Int) - n+1) 0).toNat=((h:Int) - n+1).toNat:=by omega
 unfold staff pre
 rw [e]
 generalize hm:((h:Int) - n+1).toNat=m
 have hle:m≤h+1:=by omega
 have h1:((s.take (h+1)).take m++(s.take (h+1)).drop m).sum=(s.take (h+1)).sum:=by rw [List.take_append_drop]
 rw [List.sum_append,List.take_take,Nat.min_eq_left hle] at h1
 omega
theorem pre_set (s:List Int) (a:Nat) (v:Int):∀k,pre (s.set a v) k=pre s k+if a < k∧a < s.length then v - s.getD a 0 else 0
 | 0=>by simp [pre]
 | k+1=>by
  rw [pre_succ,pre_succ,pre_set s a v k,getD_set]
  have e:a=k→s.getD a 0=s.getD k 0:=fun h=>by rw [h]
  split <;> split <;> split <;> omega
theorem pre_mono {s:List Int} (h:∀i,0≤s.getD i 0) {j k:Nat} (hjk:j≤k):pre s j≤pre s k:=by
 induction hjk with
 | refl=>exact Int.le_refl _
 | step _ ih=>rw [pre_succ];have:=h ‹_›;omega
theorem pre_tail {s:List Int} {a:Nat} (h:∀i,a≤i→s.getD i 0=0) {k:Nat} (hk:a≤k):pre s k=pre s a:=by
 induction hk with
 | refl=>rfl
 | step hm ih=>rw [pre_succ,ih,h _ hm];omega
structure Does (xs z:List Int) (n:Int):Prop where
 l:z.length=xs.length
 nn:∀i,0≤z.getD i 0
 tl:∀i:Nat,(xs.length:Int) - n < i→z.getD i 0=0
 met:∀h,h < xs.length→xs.getD h 0≤staff z n h
theorem least_nn {xs:List Int} {n:Int}:∀k i,0≤(least' xs n k).getD i 0
 | 0,i=>by
  show 0≤(List.replicate xs.length (0:Int)).getD i 0
  rw [List.getD_eq_getElem?_getD]
  rcases Nat.lt_or_ge i (List.replicate xs.length (0:Int)).length with h | h
  ·rw [List.getElem?_eq_getElem h];simp
  ·rw [List.getElem?_eq_none h];simp
 | k+1,i=>by
  have ih:=least_nn (xs:=xs) (n:=n) k
  show 0≤(stepL xs n (least' xs n k) k).getD i 0
  unfold stepL
  split
  ·rename_i hl
   rw [getD_set]
   split
   ·have:=ih (atI xs n k);omega
   ·exact ih i
  ·exact ih i
theorem atI_eq {xs:List Int} {n:Int} (hn:1≤n∧n≤xs.length) (k:Nat):(atI xs n k:Int)=min (k:Int) ((xs.length:Int) - n):=by
 unfold atI;omega
theorem least_far {xs:List Int} {n:Int} (hn:1≤n∧n≤xs.length):∀(k i:Nat),(k≤i∨(xs.length:Int) - n < i)→(least' xs n k).getD i 0=0
 | 0,i,_=>by
  show (List.replicate xs.length (0:Int)).getD i 0=0
  rw [List.getD_eq_getElem?_getD]
  rcases Nat.lt_or_ge i (List.replicate xs.length (0:Int)).length with h | h
  ·rw [List.getElem?_eq_getElem h];simp
  ·rw [List.getElem?_eq_none h];simp
 | k+1,i,h=>by
  have ih:=least_far hn k i (by omega)
  have ha:=atI_eq hn k
  show (stepL xs n (least' xs n k) k).getD i 0=0
  unfold stepL
  split
  ·rw [getD_set,if_neg (fun e=>by omega)];exact ih
  ·exact ih
theorem lack_eq (xs:List Int) (n:Int) (s:List Int) (h:Nat):lackAt xs n s h=xs.getD h 0 - staff s n h:=rfl
theorem least_le {xs z:List Int} {n:Int} (hn:1≤n∧n≤xs.length) (hz:Does xs z n):∀k,k≤xs.length→∀j,pre (least' xs n k) j≤pre z j
 | 0,_,j=>by
  have h0:pre (least' xs n 0) j=0:=by
   have:=pre_tail (s:=least' xs n 0) (a:=0) (fun i _=>least_far hn 0 i (by omega)) (Nat.zero_le j)
   rw [this,pre_zero]
  have h1:=pre_mono hz.nn (Nat.zero_le j)
  rw [pre_zero] at h1
  omega
 | k+1,hk,j=>by
  have ih:=least_le hn hz k (by omega)
  have ha:=atI_eq hn k
  show pre (stepL xs n (least' xs n k) k) j≤pre z j
  unfold stepL
  split
  ·rename_i hl
   rw [pre_set,least_len]
   by_cases hj:atI xs n k < j
   ·rw [if_pos ⟨hj,by omega⟩]
    have e1:pre (least' xs n k) j=pre (least' xs n k) (atI xs n k+1):=pre_tail (fun i hi=>least_far hn k i (by omega)) hj
    have e2:pre (least' xs n k) (k+1)=pre (least' xs n k) (atI xs n k+1):=pre_tail (fun i hi=>least_far hn k i (by omega)) (by omega)
    have e3:=ih ((k:Int) - n+1).toNat
    have e4:=hz.met k (by omega)
    have e5:pre z (k+1)≤pre z j:=by
     by_cases h1:(k:Int)≤(xs.length:Int) - n
     ·exact pre_mono hz.nn (by omega)
     ·have f1:=pre_tail (s:=z) (a:=atI xs n k+1) (fun i hi=>hz.tl i (by omega)) (k:=k+1) (by omega)
      have f2:=pre_tail (s:=z) (a:=atI xs n k+1) (fun i hi=>hz.tl i (by omega)) (k:=j) (by omega)
      omega
    rw [staff_pre z n k hn.1] at e4
    rw [lack_eq,staff_pre _ n k hn.1]
    omega
   ·rw [if_neg (fun e=>hj e.1)]
    have:=ih j
    omega
  ·exact ih j
theorem least_sum_le {xs z:List Int} {n:Int} (hn:1≤n∧n≤xs.length) (hz:Does xs z n):(least' xs n xs.length).sum≤z.sum:=by
 have h:=least_le hn hz xs.length (Nat.le_refl _) xs.length
 rwa [pre_all _ (by rw [least_len];exact Nat.le_refl _),pre_all _ (by rw [hz.l];exact Nat.le_refl _)] at h
theorem staff_set (s:List Int) (n:Int) (hn:1≤n) (a:Nat) (v:Int) (h:Nat) (ha:a < s.length) :
  staff (s.set a v) n h=staff s n h+if (h:Int) - n < a∧a≤h then v - s.getD a 0 else 0:=by
 rw [staff_pre _ n h hn,staff_pre _ n h hn,pre_set,pre_set]
 by_cases h1:a < h+1
 ·by_cases h2:a < ((h:Int) - n+1).toNat
  ·rw [if_pos ⟨h1,ha⟩,if_pos ⟨h2,ha⟩,if_neg (fun e=>by omega)];omega
  ·rw [if_pos ⟨h1,ha⟩,if_neg (fun e=>h2 e.1),if_pos ⟨by omega,by omega⟩];omega
 ·rw [if_neg (fun e=>h1 e.1),if_neg (fun e=>by omega),if_neg (fun e=>by omega)];omega
theorem least_tight {xs : List Int} {n : Int} (hn : 1 ≤ n ∧ n ≤ xs.length) : ∀ k, k ≤ xs.length →
    ((∀ h, h < k → xs.getD h 0 ≤ staff (least' xs n k) n h) ∧
     (∀ i : Nat, (i : Int) < (xs.length : Int) - n → 0 < (least' xs n k).getD i 0 → staff (least' xs n k) n i = xs.getD i 0) ∧
     (∀ i : Nat, (i : Int) = (xs.length : Int) - n → 0 < (least' xs n k).getD i 0 → ∃ h, h < k ∧ i ≤ h ∧ staff (least' xs n k) n h = xs.getD h 0))
  | 0, _ => ⟨fun h hh => by omega, fun i _ hp => by rw [least_far hn 0 i (by omega)] at hp; omega, fun i _ hp => by rw [least_far hn 0 i (by omega)] at hp; omega⟩
  | k + 1, hk => by
    obtain ⟨h1, h2, h3⟩ := least_tight hn k (by omega)
    have ha := atI_eq hn k
    have hl : (least' xs n k).length = xs.length := least_len k
    have e : least' xs n (k + 1) = stepL xs n (least' xs n k) k := rfl
    rw [e]
    unfold stepL
    split
    · rename_i hlk
      rw [lack_eq] at hlk ⊢
      have hs : ∀ h, staff ((least' xs n k).set (atI xs n k) ((least' xs n k).getD (atI xs n k) 0 + (xs.getD k 0 - staff (least' xs n k) n k))) n h = staff (least' xs n k) n h + if (h : Int) - n < atI xs n k ∧ atI xs n k ≤ h then xs.getD k 0 - staff (least' xs n k) n k else 0 := fun h => by
        rw [staff_set _ n hn.1 _ _ h (by omega)]
        split <;> omega
      have hkk : staff ((least' xs n k).set (atI xs n k) ((least' xs n k).getD (atI xs n k) 0 + (xs.getD k 0 - staff (least' xs n k) n k))) n k = xs.getD k 0 := by
        rw [hs k, if_pos ⟨by omega, by omega⟩]; omega
      refine ⟨fun h hh => ?_, fun i hi hp => ?_, fun i hi hp => ?_⟩
      · by_cases hk2 : h = k
        · subst hk2; rw [hkk]; exact Int.le_refl _
        · have := h1 h (by omega)
          rw [hs h]; split <;> omega
      · by_cases hik : i = k
        · subst hik; exact hkk
        · rw [getD_set] at hp
          split at hp
          · rename_i hc; omega
          · have hki : i < k := by
              rcases Nat.lt_or_ge i k with h | h
              · exact h
              · rw [least_far hn k i (by omega)] at hp; omega
            rw [hs i, if_neg (fun e => by omega), h2 i hi hp]; omega
      · by_cases hak : atI xs n k = i
        · exact ⟨k, by omega, by omega, hkk⟩
        · rw [getD_set, if_neg (fun e => hak e.1)] at hp
          obtain ⟨h, g1, g2, g3⟩ := h3 i hi hp
          omega
    · rename_i hlk
      rw [lack_eq] at hlk
      refine ⟨fun h hh => ?_, h2, fun i hi hp => ?_⟩
      · by_cases hk2 : h = k
        · subst hk2; omega
        · exact h1 h (by omega)
      · obtain ⟨h, g1, g2, g3⟩ := h3 i hi hp
        exact ⟨h, by omega, g2, g3⟩
theorem least_fewer {xs:List Int} {n:Int} (hn:1≤n∧n≤xs.length) {i:Nat} (hi:i < xs.length) (hp:0 < (least' xs n xs.length).getD i 0) :
  ∃h,h < xs.length∧staff ((least' xs n xs.length).set i ((least' xs n xs.length).getD i 0 - 1)) n h < xs.getD h 0:=by
 obtain ⟨_,h2,h3⟩:=least_tight hn xs.length (Nat.le_refl _)
 have hl:(least' xs n xs.length).length=xs.length:=least_len _
 have hle:(i:Int)≤(xs.length:Int) - n:=by
  rcases Int.lt_or_le ((xs.length:Int) - n) i with h | h
  ·rw [least_far hn xs.length i (.inr h)] at hp;omega
  ·exact h
 by_cases hc:(i:Int) < (xs.length:Int) - n
 ·refine ⟨i,hi,?_⟩
  rw [staff_set _ n hn.1 _ _ i (by omega),if_pos ⟨by omega,by omega⟩,h2 i hc hp];omega
 ·obtain ⟨h,g1,g2,g3⟩:=h3 i (by omega) hp
  refine ⟨h,g1,?_⟩
  rw [staff_set _ n hn.1 _ _ h (by omega),if_pos ⟨by omega,by omega⟩,g3];omega
theorem least_does {xs:List Int} {n:Int} (hn:1≤n∧n≤xs.length):Does xs (least' xs n xs.length) n :=
 ⟨least_len _,fun i=>least_nn _ i,fun i h=>least_far hn _ i (.inr h),(least_tight hn xs.length (Nat.le_refl _)).1⟩
end Go.V
namespace Go.V
open Go.Proofs Go.RowKit
set_option maxRecDepth 10000
set_option maxHeartbeats 1000000
def staffedB (xs ys:List Int) (n:Int):Bool:=hoursB xs n && decide (xs.length=ys.length) && startsB ys n && (List.range ys.length).all fun h=>decide (xs.getD h 0≤staff ys n h)
theorem fn_IsStaffed (xs ys : List Int) (n : Int) (hl : xs.length ≤ 1000000) (hl' : ys.length ≤ 1000000) : Fn Tryz.prog 10 [.d (.sl (cI xs)), .d (.sl (cI ys)), I n] [] (B (staffedB xs ys n)) [] := by
  refine Fn.intro (ks := [0,1,2,6,7,8,25,28,29,30,31,40]) hty rfl rfl rfl rfl rfl ?_
  conv => whnf
  have c1 := fn_hoursOk xs n hl
  have c2 := fn_startsOk ys n hl'
  generalize h1 : hoursB xs n = b1 at c1
  generalize h2 : startsB ys n = b2 at c2
  refine VCall.of_data c1 (fun j h => by cases h) ?_
  conv => whnf
  cases b1 with
  | false =>
    conv => whnf
    exact ⟨by rw [staffedB, h1]; rfl, trivial, rfl⟩
  | true =>
    obtain ⟨g1, g2, g3, g4, g5⟩ := hoursB_n h1
    conv => whnf
    rw [cI_len, cI_len]
    refine Br.mk (fun e1 => ?_) (fun e1 => ?_)
    · conv => whnf
      exact ⟨by have : ¬ xs.length = ys.length := fun e => by rw [e] at e1; simp at e1
                rw [staffedB]; simp [this], trivial, rfl⟩
    · have hxy : xs.length = ys.length := by simp at e1; omega
      conv => whnf
      refine VCall.of_data c2 (fun j h => by cases h) ?_
      conv => whnf
      cases b2 with
      | false =>
        conv => whnf
        exact ⟨by rw [staffedB, h2]; simp, trivial, rfl⟩
      | true =>
        have hb : hoursB ys n = true := by
          have := h2; unfold startsB at this; simp at this; exact this.1
        obtain ⟨k1, k2, k3, k4, k5⟩ := hoursB_n hb
        conv => whnf
        have c3 := fn_staffAt ys n (fun x hx => by have := k5 x hx; omega) hl' (by omega)
        refine VCall.of_fn (k := 28) c3 (namesIn_ls (by simp)) rfl ?_
        conv => whnf
        refine VLoop.inv hty (S := Nat) (fun k => [(30, I k), (29, I ys.length), (28, .ls 28 0 ys.length 1), (0, .d (.sl (cI xs)))])
          (fun _ => [(28, .row true 1 (cI ((List.range ys.length).map (staff ys n))))]) (fun k => k ≤ ys.length ∧ ∀ j, j < k → xs.getD j 0 ≤ staff ys n j) (fun k => ys.length - k) 0 ⟨Nat.zero_le _, fun j h => by omega⟩ ⟨rfl, rfl, rfl, rfl, trivial⟩ ⟨rfl, trivial⟩ ?_
        rintro k ⟨hk, hp⟩
        conv => whnf
        refine Br.mk (fun h => ?_) (fun h => ?_)
        · have hk' : k < ys.length := by simp at h; omega
          conv => whnf
          refine ⟨by omega, ?_⟩
          conv => whnf
          refine ⟨[.s (.int .i64 (staff ys n k))], by simp [cI, hk'], ?_⟩
          conv => whnf
          refine ⟨⟨⟨by omega, by rw [cI_len]; omega⟩, cI_sz xs⟩, ?_⟩
          conv => whnf
          refine ⟨[.s (.int .i64 xs[k])], by simp [cI, hxy, hk'], ?_⟩
          conv => whnf
          have hx : xs.getD k 0 = xs[k] := by simp [List.getD_eq_getElem?_getD, hxy, hk']
          refine Br.mk (fun h3 => ?_) (fun h3 => ?_)
          · conv => whnf
            refine ⟨?_, trivial, rfl⟩
            have h4 : staff ys n k < xs[k] := by simpa using h3
            have : staffedB xs ys n = false := by
              unfold staffedB
              have : ((List.range ys.length).all fun h => decide (xs.getD h 0 ≤ staff ys n h)) = false := by
                rw [List.all_eq_false]
                exact ⟨k, by simpa using hk', by rw [hx]; simp; omega⟩
              rw [this]; simp
            rw [this]
          · have h4 : xs[k] ≤ staff ys n k := by simpa using h3
            conv => whnf
            refine Wr.fit (wrap_i64 (by omega) (by omega)) ?_
            conv => whnf
            refine ⟨k + 1, ⟨hk', fun j hj => ?_⟩, by omega, ⟨rfl, rfl, rfl, rfl, trivial⟩, ⟨rfl, trivial⟩⟩
            rcases Nat.lt_or_ge j k with h5 | h5
            · exact hp j h5
            · have : j = k := by omega
              subst this; rw [hx]; exact h4
        · have hk' : k = ys.length := by simp at h; omega
          conv => whnf
          refine ⟨?_, trivial, rfl⟩
          have : staffedB xs ys n = true := by
            unfold staffedB
            rw [h1, h2, decide_eq_true hxy, List.all_eq_true.2 fun j hj => by
              have := hp j (by simp at hj; omega); simpa using this]
            rfl
          rw [this]
theorem fn_StaffAt1 (xs:List Int) (n:Int) (hl:xs.length≤1000000) (h:startsB xs n=true):Fn Tryz.prog 8 [.d (.sl (cI xs)),I n] [] (.tup [.ls 0 0 xs.length 1,B true]) [(0,.row true 1 (cI (staffs xs n)))]:=by
 refine Fn.intro (ks:=[0,1,4,5,9]) hty rfl rfl rfl rfl rfl ?_
 conv=>whnf
 have c:=fn_startsOk xs n hl
 rw [h] at c
 obtain ⟨h1,h2,h3,h4,h5⟩:=startsB_n h
 refine VCall.of_data c (nd _) ?_
 conv=>whnf
 refine VCall.of_fn (k:=12) (fn_staffAt xs n (fun x hx=>by have:=h5 x hx;omega) hl (by omega)) (namesIn_ls (by simp)) rfl ?_
 conv=>whnf
 exact ⟨⟨rfl,rfl,rfl,rfl,rfl,rfl⟩,[],rfl,rfl,trivial,rfl⟩
def metB (xs ys:List Int) (n:Int):Bool:=numsB xs && decide (ys.length=xs.length) && startsS ys n && (List.range ys.length).all fun h=>decide (xs.getD h 0≤staff ys n h)
def idleOf (xs ys:List Int) (n:Int):Int:=(staffs ys n).sum - xs.sum
theorem metB_n {xs ys:List Int} {n:Int} (h:metB xs ys n=true):xs.length=ys.length∧xs.length≤48∧(∀x,x∈xs→0≤x∧x≤1000)∧startsB ys n=true:=by
 unfold metB at h
 simp only [Bool.and_eq_true,decide_eq_true_eq] at h
 obtain ⟨⟨⟨h1,h2⟩,h3⟩,_⟩:=h
 obtain ⟨h4,h5,h6⟩:=numsB_n h1
 exact ⟨h2.symm,h5,h6,by rw [starts_eq];exact h3⟩
theorem staffed_eq (xs ys:List Int) (n:Int):staffedB xs ys n=metB xs ys n:=by
 unfold staffedB metB
 rw [starts_eq,Bool.eq_iff_iff]
 simp only [Bool.and_eq_true,hoursB_iff,numsB_iff,decide_eq_true_eq]
 constructor
 ·rintro ⟨⟨⟨⟨h1,h2,h3⟩,h4⟩,h5⟩,h6⟩
  exact ⟨⟨⟨⟨h1,h3⟩,h4.symm⟩,h5⟩,h6⟩
 ·rintro ⟨⟨⟨⟨h1,h3⟩,h4⟩,h5⟩,h6⟩
  refine ⟨⟨⟨⟨h1,?_,h3⟩,h4.symm⟩,h5⟩,h6⟩
  unfold startsS at h5
  simp only [Bool.and_eq_true,decide_eq_true_eq] at h5
  omega
theorem fn_IdleHours1 (xs ys:List Int) (n:Int) (hl:xs.length≤1000000) (hl':ys.length≤1000000) (h:metB xs ys n=true):Fn Tryz.prog 9 [.d (.sl (cI xs)),.d (.sl (cI ys)),I n] [] (.tup [I (idleOf xs ys n),B true]) []:=by
 refine Fn.intro (ks:=[0,1,2,6,7,12]) hty rfl rfl rfl rfl rfl ?_
 conv=>whnf
 have c:=fn_IsStaffed xs ys n hl hl'
 rw [staffed_eq,h] at c
 obtain ⟨h1,h2,h3,h4⟩:=metB_n h
 obtain ⟨g1,g2,g3,g4,g5⟩:=startsB_n h4
 have g6:=staffs_mem (n:=n) g5 g2
 have s1:=sum_le g6
 have s2:=sum_le h3
 rw [staffs_len] at s1
 refine VCall.of_data c (nd _) ?_
 conv=>whnf
 have c2:=(fn_staffAt ys n (fun x hx=>by have:=g5 x hx;omega) hl' (by omega)).freeze (by simp [cI_len])
 rw [List.drop_zero,List.take_of_length_le (by simp [cI_len])] at c2
 change Fn _ _ _ _ (.d (.sl (cI (staffs ys n)))) _ at c2
 refine VCall.of_data c2 (nd _) ?_
 conv=>whnf
 refine VCall.of_data (fn_total (staffs ys n) (fun x hx=>by have:=g6 x hx;omega) (by rw [staffs_len];exact hl')) (nd _) ?_
 conv=>whnf
 refine VCall.of_data (fn_total xs (fun x hx=>by have:=h3 x hx;omega) hl) (nd _) ?_
 conv=>whnf
 refine Wr.fit (wrap_i64 (by omega) (by omega)) ?_
 conv=>whnf
 exact ⟨rfl,rfl,trivial,rfl⟩
end Go.V
namespace Go.Proofs
open Go.Shelf Go.RowKit Go.Sort Go.Lib
set_option maxHeartbeats 6400000 in
set_option maxRecDepth 100000 in
theorem Tryz.numDigitsC (u:Nat) (h1:1≤u) (h2:u < 18446744073709551616) (w:World) (hc:∀i,i < 20→w.cell? ⟨3,i,none⟩=some (.int .u64 ((10 ^ i:Nat):Int))) :
  Calls Tryz.prog 82 #[.int .u64 u] w fun e w'=>e = .returned (.int .i64 (Lib.nDigits u))∧w'=w:=by
 obtain ⟨hnd,h19⟩:=Lib.numDigits_eq u h1 h2
 have hL:Lib.bitLen u≤64:=Lib.bitLen_le u 64 (Nat.le_refl _) h2
 have hcell:=hc (Lib.l10 (Lib.bitLen u)) (by omega)
 have hto:((u:Int)).toNat=u:=by omega
 generalize hq:Lib.l10 (Lib.bitLen u)=q at hnd h19 hcell
 generalize hT:10 ^ q=T at hnd hcell
 have h20:q < 20:=by omega
 have Hnd:=Lib.hid hnd
 clear hnd hc
 go_enter Tryz.func82,Tryz.ntmps82
 go_wp2_with (first
  | (go_at_call 95;refine (Tryz.bits_Len64 _ _ (by omega) (by omega)).mono ?_;rintro e w' ⟨rfl,rfl⟩)
  | (go_at_call 94;refine (Tryz.internal_strconv_log10Pow2 _ (by first | exact hL | (rw [hto];exact hL)) _).mono ?_;rintro e w' ⟨rfl,rfl⟩)
  | (go_at_call 96;refine (Tryz.internal_strconv_bool2_int _ _).mono ?_;rintro e w' ⟨rfl,rfl⟩))
 all_goals go_ret
 all_goals (
  refine ⟨?_,rfl⟩
  have hnd:=Hnd.out
  congr 2
  split at hnd <;> simp_all <;> omega)
set_option maxHeartbeats 6400000 in
set_option maxRecDepth 100000 in
theorem Tryz.formatUintS (u:Nat) (hu:u < 100) (w:World) :
  Calls Tryz.prog 64 #[.int .u64 u,.int .i64 10] w fun e w'=>e = .returned (.string ⟨(Lib.decDigits u).toArray⟩)∧w'=w:=by
 have iu:(u:Int) < 100:=by omega
 go_enter Tryz.func64,Tryz.ntmps64
 go_wp2_with (go_at_call 81;refine (Tryz.internal_strconv_small u hu _).mono ?_;rintro e w' ⟨rfl,rfl⟩)
 all_goals go_ret
 all_goals exact ⟨rfl,rfl⟩
set_option maxHeartbeats 6400000 in
set_option maxRecDepth 100000 in
theorem Tryz.formatUintB (u:Nat) (hu:100≤u) (hu64:u < 18446744073709551616) (w:World) (hc:∀i,i < 20→w.cell? ⟨3,i,none⟩=some (.int .u64 ((10 ^ i:Nat):Int))) :
  Calls Tryz.prog 64 #[.int .u64 u,.int .i64 10] w fun e w'=>e = .returned (.string ⟨(Lib.decDigits u).toArray⟩)∧∃k os,w'=grow (w.drewN k) os:=by
 have hu1:1≤u:=by omega
 have hnd20:Lib.nDigits u≤20:=by have:=Lib.numDigits_eq u hu1 hu64;split at this <;> omega
 have hal:Tryz.prog.arrayLen 117=24:=by simp [Program.arrayLen,Tryz.underlying117]
 have hsl:∀W,(Instr.sliceAt 117 (.pointer (some ⟨w.heap.size,0,none⟩)) none (some (.int .i64 (Lib.nDigits u:Int))) none).run Tryz.prog W = .ok (.slice (some ⟨w.heap.size,0,none⟩) (Lib.nDigits u) 24) W:=fun W=>by
  rw [run_sliceAt_array_h W 117 ⟨w.heap.size,0,none⟩ (by simp [Program.arrayLen,Program.elem,Tryz.underlying117]) .i64 (Lib.nDigits u:Int) (by omega) (by rw [hal];omega)]
  go_simp
 have hH0:=Lib.holds_zero0 w 117 (Lib.nDigits u) (by omega)
 have hfmt:=Tryz.internal_strconv_formatBase10 w.heap.size 0 24 u (Array.replicate (Lib.nDigits u) 0) (w.alloc (.cells Lib.zeros24 117)) hH0 (by rw [Array.size_replicate];exact Lib.lt_pow_nDigits u) hu64 (by rw [Array.size_replicate];omega)
 rw [Array.size_replicate] at hfmt
 have HH0:=Lib.hid hH0
 have iu:(100:Int)≤(u:Int):=by omega
 have hc':∀i,i < 20→(w.alloc (.cells Lib.zeros24 117)).cell? ⟨3,i,none⟩=some (.int .u64 ((10 ^ i:Nat):Int)):=fun i hi=>Lib.cell?_alloc_some _ (hc i hi)
 clear hH0 hal
 go_enter Tryz.func64,Tryz.ntmps64
 go_wp2_with (go_at_call 82;refine (Tryz.numDigitsC u hu1 hu64 _ hc').mono ?_;rintro e w' ⟨rfl,rfl⟩)
 refine hfmt.mono ?_
 rintro e w' ⟨rfl,k,v',dk,rfl,hF⟩
 have hcv:(convert 22 9 (.slice (some ⟨w.heap.size,0,none⟩) (Lib.nDigits u) 24)).run Tryz.prog ((putRow (fun (b:UInt8)=>Value.int .u8 (b.toNat:Int)) (w.alloc (.cells Lib.zeros24 117)) w.heap.size 0 dk).drewN k) = .ok (.string ⟨(Lib.decDigits u).toArray⟩) ((putRow (fun (b:UInt8)=>Value.int .u8 (b.toNat:Int)) (w.alloc (.cells Lib.zeros24 117)) w.heap.size 0 dk).drewN k):=by
  have h:=run_convert_bytes_back (P:=Tryz.prog) ((putRow (fun (b:UInt8)=>Value.int .u8 (b.toNat:Int)) (w.alloc (.cells Lib.zeros24 117)) w.heap.size 0 dk).drewN k) 22 9 5 ⟨w.heap.size,0,none⟩ 24 (Lib.decDigits u) Tryz.underlying22 Tryz.underlying5 Tryz.underlying9 (fun j hj=>by
   rw [Lib.row_is_numeral hF j hj,Lib.add_plain,World.cell?_drewN]
   exact cell?_putRow (fun (b:UInt8)=>Value.int .u8 (b.toNat:Int)) _ w.heap.size 0 _ dk HH0.out (by rw [hF.size,Array.size_replicate]) j (by rw [hF.size];rw [Lib.decDigits_length] at hj;exact hj))
  rw [Lib.decDigits_length] at h
  exact h
 go_wp2
 go_ret
 obtain ⟨os,eo⟩:=Lib.fin_at w (.cells Lib.zeros24 117) dk k 0
 exact ⟨rfl,k,os,eo⟩
end Go.Proofs
namespace Go.V
open Go.Proofs Go.RowKit
set_option maxRecDepth 10000
theorem pow10_glob (w:World) (hg:∀b o y,glob b o y→w.cell? ⟨b,o,none⟩=some y) (i:Nat) (hi:i < 20):w.cell? ⟨3,i,none⟩=some (.int .u64 ((10 ^ i:Nat):Int)):=by
 refine hg 3 i _ ?_
 unfold glob
 have e:gget 3 globT=(List.range 20).map fun i=>Value.int .u64 ((10 ^ i:Nat):Int):=rfl
 rw [e]
 simp [hi]
theorem fn_iFormatUint (u:Nat) (hu:u < 18446744073709551616):Fn Tryz.prog 64 [.d (.s (.int .u64 u)),I 10] [] (Str (Lib.decDigits u)) []:=by
 refine Fn.of_calls (vs:=[.int .u64 u,.int .i64 10]) ⟨_,rfl,rfl,rfl⟩ fun w hg=>?_
 by_cases h:u < 100
 ·refine Calls.mono (Tryz.formatUintS u h w) ?_
  rintro e w' ⟨rfl,rfl⟩
  exact ⟨_,rfl,fun κ ρ=>.d _ _ (.s _),Grew.refl _⟩
 ·refine Calls.mono (Tryz.formatUintB u (by omega) hu w (pow10_glob w hg)) ?_
  rintro e w' ⟨rfl,k,os,rfl⟩
  exact ⟨_,rfl,fun κ ρ=>.d _ _ (.s _),Grew.below (Lib.below_grow _ w (Nat.le_refl _) k os)⟩
theorem fn_FormatUint (u:Nat) (hu:u < 18446744073709551616):Fn Tryz.prog 55 [.d (.s (.int .u64 u)),I 10] [] (Str (Lib.decDigits u)) []:=by
 refine Fn.intro (ks:=[0,1,4]) hty rfl rfl rfl rfl rfl ?_
 conv=>whnf
 refine VCall.of_data (fn_iFormatUint u hu) (nd _) ?_
 conv=>whnf
 exact ⟨rfl,trivial,rfl⟩
end Go.V
namespace Go.V
open Go.Proofs Go.RowKit
set_option maxRecDepth 10000
set_option maxHeartbeats 1000000
def revL (zs:List (List UInt8)) (k:Nat):List (List UInt8):=(List.range zs.length).map fun i=>if i < k∨zs.length - 1 - i < k then zs.getD (zs.length - 1 - i) [] else zs.getD i []
theorem revL_len (zs:List (List UInt8)) (k:Nat):(revL zs k).length=zs.length:=by simp [revL]
theorem revL_zero (zs:List (List UInt8)):revL zs 0=zs:=by
 apply List.ext_getElem (by simp [revL_len])
 intro i h1 h2
 simp [revL,h2]
theorem revL_end (zs:List (List UInt8)) (k:Nat) (h:zs.length≤2*k+1):revL zs k=zs.reverse:=by
 apply List.ext_getElem (by simp [revL_len])
 intro i h1 h2
 have h2:i < zs.length:=by simpa using h2
 simp only [revL,List.getElem_map,List.getElem_range,List.getElem_reverse]
 rw [List.getD_eq_getElem?_getD,List.getD_eq_getElem?_getD,List.getElem?_eq_getElem (by omega),List.getElem?_eq_getElem (by omega)]
 by_cases hc:i < k∨zs.length - 1 - i < k
 ·rw [if_pos hc];simp
 ·rw [if_neg hc];have:i=zs.length - 1 - i:=by omega
  simp [←this]
theorem revL_at (zs:List (List UInt8)) (k i:Nat) (h1:¬i < k) (h2:¬zs.length - 1 - i < k) (hi:i < zs.length):(revL zs k).getD i []=zs.getD i []:=by
 rw [List.getD_eq_getElem?_getD,List.getElem?_eq_getElem (by rw [revL_len];exact hi)]
 simp [revL,h1,h2]
theorem revL_step (zs:List (List UInt8)) (k:Nat) (h:2*k+1 < zs.length):((revL zs k).set k (zs.getD (zs.length - 1 - k) [])).set (zs.length - 1 - k) (zs.getD k [])=revL zs (k+1):=by
 apply List.ext_getElem (by simp [revL_len])
 intro i h1 h2
 have hi:i < zs.length:=by simpa [revL_len] using h2
 rw [List.getElem_set,List.getElem_set]
 simp only [revL,List.getElem_map,List.getElem_range]
 by_cases e1:zs.length - 1 - k=i
 ·rw [if_pos e1,if_pos (by omega),show zs.length - 1 - i=k by omega]
 ·rw [if_neg e1]
  by_cases e2:k=i
  ·rw [if_pos e2,if_pos (by omega),e2]
  ·rw [if_neg e2]
   by_cases hc:i < k∨zs.length - 1 - i < k
   ·rw [if_pos hc,if_pos (by omega)]
   ·rw [if_neg hc,if_neg (by omega)]
theorem fn_Reverse (zs:List (List UInt8)) (hl:zs.length≤1000000000000) :
  Fn Tryz.prog 57 [.ls 1000000 0 zs.length 1] [(1000000,.row true 1 (cT zs))] (.tup []) [(1000000,.row true 1 (cT zs.reverse))]:=by
 refine Fn.intro (ks:=[0,2,3,9]) hty rfl rfl rfl rfl rfl ?_
 conv=>whnf
 refine Wr.fit (wrap_i64 (by omega) (by omega)) ?_
 conv=>whnf
 refine VLoop.inv hty (S:=Nat) (fun k=>[(3,I ((zs.length:Int) - 1 - k)),(2,I k),(0,.ls 1000000 0 zs.length 1)]) (fun k=>[(1000000,.row true 1 (cT (revL zs k)))]) (fun k=>k≤zs.length) (fun k=>zs.length - k) 0 (Nat.zero_le _)
  ⟨congrArg I (by simp),rfl,rfl,trivial⟩ ⟨by rw [revL_zero];rfl,trivial⟩ ?_
 intro k hk
 conv=>whnf
 obtain ⟨j,ej⟩:∃j,(zs.length:Int) - 1 - k=j:=⟨_,rfl⟩
 rw [ej]
 refine Br.mk (fun h=>?_) (fun h=>?_)
 ·have h:(k:Int) < j:=by simpa using h
  have hk2:2*k+1 < zs.length:=by omega
  conv=>whnf
  obtain ⟨m,rfl⟩:∃m:Nat,j=m:=⟨j.toNat,by omega⟩
  have hm:m=zs.length - 1 - k:=by omega
  have hR:=revL_len zs k
  have hstep:=revL_step zs k hk2
  rw [←hm] at hstep
  have e1:=revL_at zs k k (by omega) (by omega) (by omega)
  have e2:=revL_at zs k m (by omega) (by omega) (by omega)
  generalize zs.getD k []=a at e1 hstep
  generalize zs.getD m []=b at e2 hstep
  generalize revL zs k=R at hR e1 e2 hstep ⊢
  have c1:0≤(k:Int)∧(k:Int) < zs.length:=by omega
  have c2:0≤(m:Int)∧(m:Int) < zs.length:=by omega
  have a1:=cT_as (by omega) e1
  have a2:=cT_as (by omega) e2
  have a3:((cT R).set k [.s (.string ⟨b.toArray⟩)])[m]? = some [.s (.string ⟨b.toArray⟩)]:=by rw [List.getElem?_set_ne (by omega)];exact a2
  refine VDraw.goS hmo hty [0,1,2,3,4,5,8,9] rfl ?_
  conv=>whnf
  repeat' (first
   | (refine ⟨c1,?_⟩;conv=>whnf)
   | (refine ⟨c2,?_⟩;conv=>whnf)
   | (refine ⟨_,a1,?_⟩;conv=>whnf)
   | (refine ⟨_,a2,?_⟩;conv=>whnf)
   | (refine ⟨_,a3,?_⟩;conv=>whnf)
   | (refine Wr.fit (wrap_i64 (by omega) (by omega)) ?_;conv=>whnf)
   | exact ⟨k+1,by omega,by omega,⟨congrArg I (by omega),rfl,rfl,trivial⟩,by rw [←hstep,←cT_set,←cT_set];rfl,trivial⟩
   | (refine ⟨?_,?_⟩ <;> conv=>whnf))
 ·have h:¬(k:Int) < j:=by simpa using h
  conv=>whnf
  rw [revL_end zs k (by omega)]
  exact ⟨⟨rfl,trivial⟩,rfl⟩
theorem VCall.par1u {P:Program} {t:TL} {l:LL} {f:FuncId} {xs xs0:List AV} {sz sz':Nat} {rows rows':List (List C)} {dst:Option Nat} {K:AV→TL→LL→Prop} (a:Nat)
  (h:Fn P f xs0 [(1000000,.row true sz rows)] (.tup []) [(1000000,.row true sz' rows')]) (ha:argR (pmap [(1000000,a)]) xs xs0) (hl:lget a l = .row true sz rows)
  (hK:K (.tup []) t ((a,.row true sz' rows') :: l)):VCall P f xs dst t l K :=
 VCall.of_fnR (k:=0) (pmap [(1000000,a)]) h ha ⟨⟨hl,fun p h=>absurd rfl h⟩,trivial⟩ rfl (keepRows rfl rfl) (fun _ h=>by cases h) rfl hK
theorem repeat_one (c:UInt8) (n:Nat):Lib.repeatL [c] n=List.replicate n c:=by
 induction n with
 | zero=>rfl
 | succ n ih=>rw [Lib.repeatL,ih];rfl
theorem fn_Repeat (s:List UInt8) (c:Nat) (hc:c≤1000000000) (hl:s.length≤1000):Fn Tryz.prog 56 [Str s,I c] [] (Str (Lib.repeatL s c)) []:=by
 refine Fn.of_calls (vs:=[.string ⟨s.toArray⟩,.int .i64 c]) ⟨_,rfl,rfl,rfl⟩ fun w _=>?_
 have hb:(⟨s.toArray⟩:ByteArray).size=s.length:=by simp [ByteArray.size]
 have hm:s.length*c≤1000*1000000000:=Nat.mul_le_mul hl hc
 refine Calls.mono (Tryz.strings_Repeat ⟨s.toArray⟩ c w (by omega) (by rw [hb];omega)) ?_
 rintro e w' ⟨rfl,hw⟩
 refine ⟨_,rfl,fun κ ρ=>?_,Grew.below hw⟩
 exact .d _ _ (.s _)
theorem repr_sl {κ:Know} {v:Value} {rows:List (List C)} (h:Repr κ v (.sl rows)):(rows=[]∧∃a cap,v = .slice a 0 cap) ∨
  ∃(b off n cap:Nat) (vs:Nat→Value),v = .slice (some ⟨b,off,none⟩) n cap∧n=rows.length∧n≤cap∧(∀(k:Nat) (c:C),rows.flatten[k]? = some c→κ b (off+k) (vs k))∧∀(k:Nat) (c:C),rows.flatten[k]? = some c→Repr κ (vs k) c:=by
 cases h with
 | nil=>exact .inl ⟨rfl,_,_,rfl⟩
 | none a cap=>exact .inl ⟨rfl,_,_,rfl⟩
 | sl b off n cap rows vs hn hc hk hr=>exact .inr ⟨b,off,n,cap,vs,rfl,hn,hc,hk,hr⟩
theorem cT_flatten (xs:List (List UInt8)):(cT xs).flatten=xs.map fun s=>C.s (.string ⟨s.toArray⟩):=by
 induction xs with
 | nil=>rfl
 | cons x xs ih=>simp only [cT,List.map_cons,List.flatten_cons] at ih ⊢;rw [ih];rfl
theorem fn_Join (xs:List (List UInt8)) (sep:List UInt8) (hN:xs.length≤100000000000) (hlen:(Lib.join xs sep).length≤1000000000000):Fn Tryz.prog 58 [lT xs,Str sep] [] (Str (Lib.join xs sep)) [] where
 en:=⟨_,rfl,rfl,rfl⟩
 out:=fun κ ρ w us hm hs hv=>by
  have hs:us.size=2:=hs
  have h0:=hv 0 us[0] (lT xs) (by simp) rfl
  have h1:=hv 1 us[1] (Str sep) (by simp) rfl
  have eus:us = #[us[0],us[1]]:=by
   apply Array.ext
   ·simpa using hs
   ·intro i h1 h2
    match i,h1 with
    | 0,_=>rfl
    | 1,_=>rfl
    | i+2,h1=>omega
  have e1:us[1] = .string ⟨sep.toArray⟩:=by
   generalize us[1]=v1 at h1
   cases h1 with
   | d _ _ h=>cases h;rfl
  generalize us[0]=v0 at h0 eus
  rw [e1] at eus
  subst eus
  have h0:Repr κ v0 (.sl (cT xs)):=by cases h0 with | d _ _ h=>exact h
  have hnone:∀(a:Option Addr) (c:Nat),xs=[]→v0 = .slice a 0 c→Calls Tryz.prog 58 #[v0,.string ⟨sep.toArray⟩] w fun e w'=>∃v κ' ρ',e = .returned v∧κ.le κ'∧Mem ⟨w,Mof ρ [],κ,0,ρ⟩ κ' ρ' [] w'∧AVR κ' ρ' v (Str (Lib.join xs sep)):=by
   intro a c hx he
   subst hx;subst he
   refine Calls.mono (Tryz.strings_Join_none a c ⟨sep.toArray⟩ w) ?_
   rintro e w' ⟨rfl,rfl⟩
   exact ⟨_,κ,ρ,rfl,Know.le_refl _,hm,.d _ _ (.s _)⟩
  rcases repr_sl h0 with ⟨hx,a,cap,he⟩ | ⟨b,off,n,cap,vs,he,hn,hc,hk,hr⟩
  ·exact hnone a cap (by simpa [cT] using hx) he
  ·rw [cT_len] at hn
   subst hn
   by_cases hx:xs=[]
   ·exact hnone (some ⟨b,off,none⟩) cap hx (by rw [he,hx];rfl)
   ·subst he
    have key:∀(j:Nat) (s:List UInt8),xs[j]? = some s→κ b (off+j) (.string ⟨s.toArray⟩):=by
     intro j s hj
     have hc0:(cT xs).flatten[j]? = some (.s (.string ⟨s.toArray⟩)):=by rw [cT_flatten,List.getElem?_map,hj];rfl
     have h2:=hk j _ hc0
     have h3:=hr j _ hc0
     generalize vs j=y at h2 h3
     cases h3 with
     | s=>exact h2
    have hbk:b < w.heap.size:=by
     obtain ⟨s,hs0⟩:∃s,xs[0]? = some s:=by cases xs with | nil=>exact absurd rfl hx | cons s r=>exact ⟨s,rfl⟩
     exact hm.known_block (key 0 s hs0)
    have em:(xs.map fun s=>(⟨s.toArray⟩:ByteArray)).map (·.data.toList)=xs:=by simp [Function.comp_def]
    have h:=Tryz.strings_Join b off cap (xs.map fun s=>(⟨s.toArray⟩:ByteArray)) ⟨sep.toArray⟩ w (by
     intro j x hj
     rw [List.getElem?_map] at hj
     cases hj2:xs[j]? with
     | none=>rw [hj2] at hj;cases hj
     | some s =>
      rw [hj2] at hj;cases hj
      exact hm.kn _ _ _ (key j s hj2)) hbk (by simp;omega) (by simpa using hc) (by rw [em];show (Lib.join xs sep).length≤_;omega)
    rw [em,List.length_map] at h
    refine Calls.mono h ?_
    rintro e w' ⟨rfl,hw⟩
    exact ⟨_,κ,ρ,rfl,Know.le_refl _,hm.grew (Grew.below hw),.d _ _ (.s _)⟩
end Go.V
namespace Go.V
open Go.Proofs Go.RowKit
set_option maxRecDepth 10000
set_option maxHeartbeats 1000000
abbrev dd (n:Nat):List UInt8:=Lib.decDigits n
theorem dd_small {n:Nat} (h:n < 10):dd n=[UInt8.ofNat (48+n)]:=by rw [dd,Lib.decDigits,dif_pos h]
theorem dd_big {n:Nat} (h:¬n < 10):dd n=dd (n / 10)++[UInt8.ofNat (48+n % 10)]:=by rw [dd,Lib.decDigits,dif_neg h]
theorem dd_ne (n:Nat):dd n≠[]:=by
 by_cases h:n < 10
 ·rw [dd_small h];simp
 ·rw [dd_big h];simp
theorem dd_len_le:∀(k n:Nat),n < 10 ^ (k+1)→(dd n).length≤k+1
 | 0,n,h=>by rw [dd_small (by simpa using h)];simp
 | k+1,n,h=>by
   by_cases h9:n < 10
   ·rw [dd_small h9];simp
   ·rw [dd_big h9,List.length_append,List.length_singleton]
    have:=dd_len_le k (n / 10) (by rw [Nat.pow_succ] at h;omega)
    omega
theorem dd_bl (n:Nat):(dd n).length≤bl n+1:=dd_len_le (bl n) n (by
 have h1:=lt_bl n
 have h2:2 ^ bl n≤10 ^ bl n:=Nat.pow_le_pow_left (by decide) _
 have h3:10 ^ bl n≤10 ^ (bl n+1):=Nat.pow_le_pow_right (by decide) (by omega)
 omega)
def padd (k r:Nat):List UInt8:=List.replicate (k - (dd r).length) 48++dd r
theorem padd_succ {k r:Nat} (h:r < 10 ^ (k+2)):padd (k+2) r=padd (k+1) (r / 10)++[UInt8.ofNat (48+r % 10)]:=by
 by_cases h9:r < 10
 ·have e:r / 10=0:=by omega
  have e2:r % 10=r:=by omega
  rw [e,e2,padd,padd,dd_small h9,dd_small (n:=0) (by decide)]
  show List.replicate (k+2 - 1) 48++_=(List.replicate (k+1 - 1) 48++[48])++_
  rw [show k+2 - 1=k+1 by omega,show k+1 - 1=k by omega,List.replicate_succ',List.append_assoc]
 ·rw [padd,padd,dd_big h9,List.length_append,List.length_singleton,List.append_assoc,show k+2 - ((dd (r / 10)).length+1)=k+1 - (dd (r / 10)).length by omega]
theorem dd_split:∀(k q r:Nat),0 < q→r < 10 ^ (k+1)→dd (q*10 ^ (k+1)+r)=dd q++padd (k+1) r
 | 0,q,r,hq,hr=>by
   have hr:r < 10:=by simpa using hr
   rw [show q*10 ^ (0+1)+r=q*10+r by simp,dd_big (by omega),show (q*10+r) / 10=q by omega,show (q*10+r) % 10=r by omega,padd,dd_small hr]
   rfl
 | k+1,q,r,hq,hr=>by
   have e:q*10 ^ (k+2)+r=(q*10 ^ (k+1))*10+r:=by rw [Nat.pow_succ,Nat.mul_assoc]
   have hp:0 < 10 ^ (k+1):=Nat.pow_pos (by decide)
   have hq2:1≤q*10 ^ (k+1):=Nat.mul_pos hq hp
   rw [e,dd_big (by omega),show (q*10 ^ (k+1)*10+r) / 10=q*10 ^ (k+1)+r / 10 by omega,show (q*10 ^ (k+1)*10+r) % 10=r % 10 by omega,
    dd_split k q (r / 10) hq (by rw [Nat.pow_succ] at hr;omega),padd_succ hr,List.append_assoc]
theorem dd_nine {n:Nat} (h:0 < n / 1000000000):dd n=dd (n / 1000000000)++padd 9 (n % 1000000000):=by
 have:=dd_split 8 (n / 1000000000) (n % 1000000000) h (Nat.mod_lt _ (by decide))
 rw [show n / 1000000000*10 ^ (8+1)+n % 1000000000=n by have:=Nat.div_add_mod n 1000000000;simp only [Nat.reduceAdd,Nat.reducePow];omega] at this
 exact this
theorem dd_one {n:Nat}:dd n=[49]↔n=1:=by
 constructor
 ·intro h
  by_cases h9:n < 10
  ·rw [dd_small h9] at h
   have h:UInt8.ofNat (48+n)=49:=by simpa using h
   have:=congrArg UInt8.toNat h
   rw [UInt8.toNat_ofNat'] at this
   have e:(49:UInt8).toNat=49:=rfl
   rw [e] at this
   omega
  ·rw [dd_big h9] at h
   have h5:=congrArg List.length h
   rw [List.length_append,List.length_singleton,List.length_singleton] at h5
   have:=List.length_pos_iff.2 (dd_ne (n / 10))
   omega
 ·intro h;rw [h,dd_small (by decide)];rfl
end Go.V
namespace Go.V
open Go.Proofs Go.RowKit
set_option maxRecDepth 10000
set_option maxHeartbeats 1000000
def headT (n:Nat):List UInt8:=if n=0 then [] else dd n
theorem head_step {n:Nat} (h:n≠0):headT (n / 1000000000)++(if n / 1000000000=0 then dd (n % 1000000000) else padd 9 (n % 1000000000))=dd n:=by
 unfold headT
 by_cases h0:n / 1000000000=0
 ·rw [if_pos h0,if_pos h0,List.nil_append,show n % 1000000000=n by omega]
 ·rw [if_neg h0,if_neg h0,←dd_nine (by omega)]
theorem lend_allT {id n:Nat} {l:LL} {xs:List (List UInt8)} (hn:xs.length=n) (h:lget id l = .row true 1 (cT xs)):lend1 l (.ls id 0 n 1) (.d (.sl (cT xs))):=by
 subst hn
 have:xs=xs++[]:=by simp
 rw [this] at h
 exact lend_wholeT h
theorem join_flat (xs:List (List UInt8)):Lib.join xs []=xs.flatten:=by
 unfold Lib.join
 induction xs with
 | nil=>rfl
 | cons x r ih =>
  cases r with
  | nil=>simp [List.intercalate]
  | cons y r=>simp [List.intercalate,List.intersperse] at ih ⊢;rw [←ih]
theorem bl_part {n:Nat} (h:n≠0):bl (n / 1000000000)+1≤bl n:=by
 have h1:=lt_bl n
 have h0:1≤bl n:=by
  rcases Nat.eq_zero_or_pos (bl n) with e | e
  ·rw [e] at h1;omega
  ·exact e
 have:bl (n / 1000000000)≤bl n - 1:=bl_le (by
  obtain ⟨k,ek⟩:∃k,bl n=k+1:=⟨bl n - 1,by omega⟩
  rw [ek] at h1 ⊢
  rw [Nat.pow_succ] at h1
  show _ < 2 ^ (k+1 - 1)
  rw [Nat.add_sub_cancel];omega)
 omega
theorem fn_text (N:Nat) (hN:bl N≤100000000000):Fn Tryz.prog 46 [nI N] [] (Str (dd N)) []:=by
 refine Fn.intro (ks:=[0,2,3,4,5,6,9,13,24]) hty rfl rfl rfl rfl rfl ?_
 conv=>whnf
 rw [cW_len]
 refine Br.mk (fun h=>?_) (fun h=>?_)
 ·have h:N=0:=by
   have h:(dg B32 N).length=0:=by simpa using h
   exact (dg_len_zero b32).1 h
  conv=>whnf
  refine ⟨?_,trivial,rfl⟩
  rw [h,dd_small (by decide)];rfl
 ·have h:N≠0:=by
   intro e;rw [e] at h;simp [dg_zero] at h
  conv=>whnf
  refine VLoop.ren 10 34 rfl ?_
  refine VLoop.inv hty (S:=Nat×List (List UInt8)) (fun s=>[(3,.ls 34 0 s.2.length 1),(0,nI s.1)]) (fun s=>[(34,.row true 1 (cT s.2))])
   (fun s=>s.1≤N∧s.1+s.2.length≤N∧headT s.1++s.2.reverse.flatten=dd N∧bl s.1+s.2.length≤bl N) (fun s=>s.1) (N,[]) ⟨Nat.le_refl _,Nat.le_refl _,by simp [headT,h],Nat.le_refl _⟩
   ⟨rfl,rfl,trivial⟩ ⟨rfl,trivial⟩ ?_
  rintro s ⟨h1,h2,h3,h4⟩
  conv=>whnf
  rw [cW_len]
  refine Br.mk (fun h5=>?_) (fun h5=>?_)
  ·have h6:s.1≠0:=by
    intro e;rw [e] at h5;simp [dg_zero] at h5
   have hd:=fn_divSmall s.1 1000000000 (by omega) (by decide) (by decide)
   have hb:=bl_part h6
   have hs:=head_step h6
   rw [headT,if_neg h6] at h3
   obtain ⟨q,eq⟩:∃q,s.1 / 1000000000=q:=⟨_,rfl⟩
   obtain ⟨r,er⟩:∃r,s.1 % 1000000000=r:=⟨_,rfl⟩
   have hr:r < 1000000000:=by omega
   have hq:q < s.1:=by omega
   rw [eq] at hd hb hs
   rw [er] at hd hs
   conv=>whnf
   refine VCall.of_data hd (ndT (fun k=>rfl)) ?_
   conv=>whnf
   refine Wr.n64 (n:=r) rfl (by omega) ?_
   conv=>whnf
   refine VCall.of_data (fn_FormatUint r (by omega)) (nd _) ?_
   conv=>whnf
   rw [cW_len]
   by_cases hq0:q=0
   ·rw [decide_eq_false (by rw [hq0];simp [dg_zero])]
    rw [if_pos hq0] at hs
    conv=>whnf
    refine Sub.full rfl ?_
    conv=>whnf
    refine Sub.full (by rw [cT_len]) ?_
    conv=>whnf
    refine ⟨by show (s.2.length+1)*16≤_;omega,?_⟩
    conv=>whnf
    exact ⟨(q,s.2++[dd r]),⟨by omega,by show q+(s.2++[dd r]).length≤N;rw [List.length_append,List.length_singleton];omega,by rw [←h3,←hs];simp,by show bl q+(s.2++[dd r]).length≤bl N;rw [List.length_append,List.length_singleton];omega⟩,hq,⟨by show AV.ls 34 0 (s.2.length+1) 1=AV.ls 34 0 (s.2++[dd r]).length 1;rw [List.length_append,List.length_singleton],rfl,trivial⟩,by show Ob.row true 1 (cT s.2++cT [dd r])=_;rw [cT_append],trivial⟩
   ·rw [decide_eq_true (by have:=dg_len_zero b32 (n:=q);omega)]
    rw [if_neg hq0] at hs
    have hdl:=dd_len_le 8 r (by simpa using hr)
    obtain ⟨z,ez⟩:∃z:Nat,9 - (dd r).length=z:=⟨_,rfl⟩
    conv=>whnf
    refine Wr.i64 (y:=(z:Int)) (by show (9:Int) - ((⟨(dd r).toArray⟩:ByteArray).size:Int)=z;rw [bsize];omega) (by omega) (by omega) ?_
    conv=>whnf
    refine VCall.of_data (fn_Repeat [48] z (by omega) (by simp)) (nd _) ?_
    rw [repeat_one]
    conv=>whnf
    have ep:List.replicate z 48++dd r=padd 9 r:=by rw [padd,ez]
    refine ⟨by rw [bsize,bsize,List.length_replicate];show z+(dd r).length < 2 ^ 62;omega,?_⟩
    rw [show (⟨(List.replicate z 48).toArray⟩:ByteArray)++⟨(Lib.decDigits r).toArray⟩=⟨(padd 9 r).toArray⟩ by rw [←ep];apply ByteArray.ext;simp]
    conv=>whnf
    refine Sub.full rfl ?_
    conv=>whnf
    refine Sub.full (by rw [cT_len]) ?_
    conv=>whnf
    refine ⟨by show (s.2.length+1)*16≤_;omega,?_⟩
    conv=>whnf
    exact ⟨(q,s.2++[padd 9 r]),⟨by omega,by show q+(s.2++[padd 9 r]).length≤N;rw [List.length_append,List.length_singleton];omega,by rw [←h3,←hs];simp,by show bl q+(s.2++[padd 9 r]).length≤bl N;rw [List.length_append,List.length_singleton];omega⟩,hq,⟨by show AV.ls 34 0 (s.2.length+1) 1=AV.ls 34 0 (s.2++[padd 9 r]).length 1;rw [List.length_append,List.length_singleton],rfl,trivial⟩,by show Ob.row true 1 (cT s.2++cT [padd 9 r])=_;rw [cT_append],trivial⟩
  ·have h6:s.1=0:=by
    have h6:(dg B32 s.1).length=0:=by simpa using h5
    exact (dg_len_zero b32).1 h6
   have h3:s.2.reverse.flatten=dd N:=by rw [←h3,h6];rfl
   have hl:s.2.length≤100000000000:=by omega
   have hjl:(Lib.join s.2.reverse []).length≤1000000000000:=by rw [join_flat,h3];have:=dd_bl N;omega
   conv=>whnf
   refine VCall.par1u 34 (fn_Reverse s.2 (by omega)) ⟨⟨rfl,rfl,rfl,rfl⟩,trivial⟩ rfl ?_
   conv=>whnf
   refine VCall.lend (fn_Join s.2.reverse [] (by rw [List.length_reverse];omega) hjl) ⟨lend_allT (by rw [List.length_reverse]) rfl,rfl,trivial⟩ rfl ?_
   rw [join_flat,h3]
   conv=>whnf
   exact ⟨rfl,trivial,rfl⟩
end Go.V
namespace Go.V
open Go.Proofs Go.RowKit
set_option maxRecDepth 10000
set_option maxHeartbeats 1000000
def ratT (q:Rat):List UInt8:=((if ng q then [45] else [])++dd (tp q))++(if q.den=1 then [] else 47 :: dd q.den)
def fitsQ (q:Rat):Bool:=decide ((dd (tp q)).length≤200) && decide ((dd q.den).length≤200)
theorem baeq (b c:List UInt8):((⟨b.toArray⟩:ByteArray).toList == (⟨c.toArray⟩:ByteArray).toList)=decide (b=c):=by
 rw [Bool.eq_iff_iff];simp
theorem le200 (a:List UInt8):decide (((⟨a.toArray⟩:ByteArray).size:Int)≤200)=decide (a.length≤200):=by
 rw [bsize];congr 1;simp;omega
theorem cat2 (a b:List UInt8):(⟨a.toArray⟩:ByteArray)++⟨b.toArray⟩=⟨(a++b).toArray⟩:=by apply ByteArray.ext;simp
theorem cat1 (c:UInt8) (b:List UInt8):(⟨#[c]⟩:ByteArray)++⟨b.toArray⟩=⟨(c :: b).toArray⟩:=cat2 [c] b
theorem fn_ratText (q:Rat) (hs:sz q≤100000000000):Fn Tryz.prog 38 [rI q] [] (.tup [Str (ratT q),B (fitsQ q)]) []:=by
 have c1:=fn_text (tp q) (Nat.le_trans (bl_tp q) hs)
 have c2:=fn_text q.den (Nat.le_trans (bl_den q) hs)
 have l1:(dd (tp q)).length≤100000000001:=Nat.le_trans (dd_bl _) (by have:=bl_tp q;omega)
 have l2:(dd q.den).length≤100000000001:=Nat.le_trans (dd_bl _) (by have:=bl_den q;omega)
 have ho:=dd_one (n:=q.den)
 unfold ratT fitsQ
 generalize dd (tp q)=a at c1 l1 ⊢
 generalize hb:dd q.den=b at c2 l2 ho ⊢
 refine Fn.intro (ks:=[0,1,2,3,4,5,6,15,19]) hty rfl rfl rfl rfl rfl ?_
 conv=>whnf
 refine VDraw.go hmo hty 8 [] rfl ?_
 conv=>whnf
 refine QCall.of_data c1 (nd _) ?_
 conv=>whnf
 refine QCall.of_data c2 (nd _) ?_
 conv=>whnf
 refine Br.mk (fun h=>?_) (fun h=>?_)
 ·rw [h]
  conv=>whnf
  refine ⟨by rw [bsize];show 1+a.length < 2 ^ 62;omega,?_⟩
  rw [cat1]
  conv=>whnf
  rw [show ((⟨b.toArray⟩:ByteArray).toList == (⟨#[49]⟩:ByteArray).toList)=decide (b=[49]) from baeq b [49]]
  by_cases h1:q.den=1
  ·rw [decide_eq_true (ho.2 h1)]
   rw [if_pos h1]
   conv=>whnf
   rw [le200 a]
   cases hA:decide (a.length≤200)
   ·conv=>whnf
    exact ⟨by simp,rfl,trivial,rfl⟩
   ·conv=>whnf
    rw [le200 b]
    cases hB:decide (b.length≤200)
    ·conv=>whnf
     exact ⟨by simp,rfl,trivial,rfl⟩
    ·conv=>whnf
     exact ⟨by simp,rfl,trivial,rfl⟩
  ·rw [decide_eq_false (fun e=>h1 (ho.1 e))]
   rw [if_neg h1]
   conv=>whnf
   refine ⟨by rw [bsize];show 1+b.length < 2 ^ 62;omega,?_⟩
   rw [cat1]
   conv=>whnf
   refine ⟨by rw [bsize,bsize];show (45 :: a).length+(b.length+1) < 2 ^ 62;simp;omega,?_⟩
   rw [cat2]
   conv=>whnf
   rw [le200 a]
   cases hA:decide (a.length≤200)
   ·conv=>whnf
    exact ⟨by simp,rfl,trivial,rfl⟩
   ·conv=>whnf
    rw [le200 b]
    cases hB:decide (b.length≤200)
    ·conv=>whnf
     exact ⟨by simp,rfl,trivial,rfl⟩
    ·conv=>whnf
     exact ⟨by simp,rfl,trivial,rfl⟩
 ·rw [h]
  conv=>whnf
  rw [show ((⟨b.toArray⟩:ByteArray).toList == (⟨#[49]⟩:ByteArray).toList)=decide (b=[49]) from baeq b [49]]
  by_cases h1:q.den=1
  ·rw [decide_eq_true (ho.2 h1)]
   rw [if_pos h1]
   conv=>whnf
   rw [le200 a]
   cases hA:decide (a.length≤200)
   ·conv=>whnf
    exact ⟨by simp,rfl,trivial,rfl⟩
   ·conv=>whnf
    rw [le200 b]
    cases hB:decide (b.length≤200)
    ·conv=>whnf
     exact ⟨by simp,rfl,trivial,rfl⟩
    ·conv=>whnf
     exact ⟨by simp,rfl,trivial,rfl⟩
  ·rw [decide_eq_false (fun e=>h1 (ho.1 e))]
   rw [if_neg h1]
   conv=>whnf
   refine ⟨by rw [bsize];show 1+b.length < 2 ^ 62;omega,?_⟩
   rw [cat1]
   conv=>whnf
   refine ⟨by rw [bsize,bsize];show (a).length+(b.length+1) < 2 ^ 62;simp;omega,?_⟩
   rw [cat2]
   conv=>whnf
   rw [le200 a]
   cases hA:decide (a.length≤200)
   ·conv=>whnf
    exact ⟨by simp,rfl,trivial,rfl⟩
   ·conv=>whnf
    rw [le200 b]
    cases hB:decide (b.length≤200)
    ·conv=>whnf
     exact ⟨by simp,rfl,trivial,rfl⟩
    ·conv=>whnf
     exact ⟨by simp,rfl,trivial,rfl⟩
end Go.V
namespace Go.V
open Go.Proofs Go.RowKit
set_option maxRecDepth 10000
set_option maxHeartbeats 1000000
def toldT (q:Rat):List UInt8:=if fitsQ q then ratT q else []
theorem fn_told (q:Rat) (hs:sz q≤100000000000):Fn Tryz.prog 23 [rI q] [] (.tup [Str (toldT q),B (fitsQ q)]) []:=by
 have c:=fn_ratText q hs
 unfold toldT
 refine Fn.intro (ks:=[0,1,2,3,4,5,12]) hty rfl rfl rfl rfl rfl ?_
 conv=>whnf
 refine VCall.of_data c (ndT (fun k=>rfl)) ?_
 conv=>whnf
 cases fitsQ q
 ·conv=>whnf
  exact ⟨rfl,rfl,trivial,rfl⟩
 ·conv=>whnf
  exact ⟨rfl,rfl,trivial,rfl⟩
end Go.V
namespace Go.V
open Go.Proofs Go.RowKit
set_option maxRecDepth 10000
set_option maxHeartbeats 1000000
end Go.V
namespace Go.V
open Go.Proofs Go.RowKit
set_option maxRecDepth 10000
set_option maxHeartbeats 1000000
abbrev sp:Int:=-7000000000000000101
end Go.V
namespace Go.V
open Go.Proofs Go.RowKit
set_option maxRecDepth 10000
set_option maxHeartbeats 1000000
def prodL (ss:List Int) (xs:List Rat):List Rat:=(List.range xs.length).map fun i=>((ss.getD i 0:Int):Rat)*xs.getD i 0
theorem prodL_len (ss:List Int) (xs:List Rat):(prodL ss xs).length=xs.length:=by simp [prodL]
theorem prodL_at (ss:List Int) (xs:List Rat) {i:Nat} (h:i < xs.length):(prodL ss xs).getD i 0=((ss.getD i 0:Int):Rat)*xs.getD i 0:=by
 rw [List.getD_eq_getElem?_getD,List.getElem?_eq_getElem (by rw [prodL_len];exact h)]
 simp [prodL]
theorem prodL_sz {ss:List Int} {xs:List Rat} (hs:∀i,0≤ss.getD i 0∧ss.getD i 0≤1000000) (hx:∀q,q∈xs→sz q≤800):∀q,q∈prodL ss xs→sz q≤821:=by
 intro q hq
 obtain ⟨i,hi,rfl⟩:=List.mem_map.1 hq
 have hi:i < xs.length:=by simpa using hi
 have h1:sz ((ss.getD i 0:Int):Rat)≤20:=sz_small (by have:=hs i;omega) (by decide)
 have h2:=getD_sz hx i (by decide)
 have:=sz_mul ((ss.getD i 0:Int):Rat) (xs.getD i 0)
 omega
def costQ (ss:List Int) (n:Int) (ps:List (List UInt8)):Option Rat:=match rdRats ps with
 | some xs=>if startsB ss n && decide (xs.length=ss.length) then some (rsum (prodL (staffs ss n) xs)) else none
 | none=>none
def toldO:Option Rat→List UInt8×Bool
 | some q=>(toldT q,fitsQ q)
 | none=>([],false)
theorem cI_as {l:List Int} {i:Nat} {x:Int} (h:i < l.length) (e:l.getD i 0=x):(cI l)[i]? = some [.s (.int .i64 x)]:=by
 subst e;rw [List.getD_eq_getElem?_getD,List.getElem?_eq_getElem h];simp [cI,h]
theorem staffs_nn {ss:List Int} {n:Int} (h:startsB ss n=true) (i:Nat):0≤(staffs ss n).getD i 0∧(staffs ss n).getD i 0≤1000000:=by
 obtain ⟨h1,h2,h3,h4,h5⟩:=startsB_n h
 rw [List.getD_eq_getElem?_getD]
 by_cases hi:i < (staffs ss n).length
 ·rw [List.getElem?_eq_getElem hi]
  have:=staffs_mem h5 h2 _ (List.getElem_mem hi)
  show 0≤(staffs ss n)[i]∧(staffs ss n)[i]≤1000000
  omega
 ·rw [List.getElem?_eq_none (by omega)];decide
theorem costQ_none1 {ss:List Int} {n:Int} {ps:List (List UInt8)} (h:rdRats ps=none):costQ ss n ps=none:=by unfold costQ;rw [h]
theorem costQ_none2 {ss:List Int} {n:Int} {ps:List (List UInt8)} (h:startsB ss n=false):costQ ss n ps=none:=by unfold costQ;rw [h];split <;> rfl
theorem costQ_none3 {ss:List Int} {n:Int} {ps:List (List UInt8)} {xs:List Rat} (h:rdRats ps=some xs) (h2:¬xs.length=ss.length):costQ ss n ps=none:=by unfold costQ;rw [h];simp [h2]
theorem costQ_some {ss:List Int} {n:Int} {ps:List (List UInt8)} {xs:List Rat} (h:rdRats ps=some xs) (h1:startsB ss n=true) (h2:xs.length=ss.length):costQ ss n ps=some (rsum (prodL (staffs ss n) xs)):=by unfold costQ;rw [h,h1];simp [h2]
theorem fn_CostOf (ss:List Int) (n:Int) (ps:List (List UInt8)) (hl:ss.length≤1000000) (hp:ps.length≤1000000) (hs:∀x,x∈ps→x.length≤1000000) :
  Fn Tryz.prog 11 [.d (.sl (cI ss)),I n,lT ps] [] (.tup [Str (toldO (costQ ss n ps)).1,B (toldO (costQ ss n ps)).2]) []:=by
 have cr:=fn_rats ps (by omega) (fun x hx=>by have:=hs x hx;omega)
 have cs:=fn_startsOk ss n hl
 refine Fn.intro (ks:=[0,1,2,6,7,8,9,10,11,12,32,36,37,38,39]) hty rfl rfl rfl rfl rfl ?_
 cases hr:rdRats ps with
 | none =>
  rw [hr] at cr
  rw [costQ_none1 hr]
  conv=>whnf
  refine VCall.of_data cr (ndT (fun k=>rfl)) ?_
  conv=>whnf
  exact ⟨rfl,rfl,trivial,rfl⟩
 | some xs =>
  replace cr:Fn Tryz.prog 19 [lT ps] [] (.tup [lQ xs,B true]) []:=by rw [hr] at cr;exact cr
  obtain ⟨x1,x2,x3⟩:=rdRats_sz hr
  cases hb:startsB ss n
  ·rw [hb] at cs
   rw [costQ_none2 hb]
   conv=>whnf
   refine VCall.of_data cr (ndT (fun k=>rfl)) ?_
   conv=>whnf
   refine VCall.of_data cs (nd _) ?_
   conv=>whnf
   exact ⟨rfl,rfl,trivial,rfl⟩
  ·rw [hb] at cs
   by_cases hxl:xs.length=ss.length
   ·have hstaff:Fn Tryz.prog 16 [.d (.sl (cI ss)),I n] [] (.d (.sl (cI (staffs ss n)))) []:=by
     have h:=(fn_staffAt ss n (fun x hx=>by have:=(startsB_n hb).2.2.2.2 x hx;omega) hl (by have:=startsB_n hb;omega)).freeze (by rw [cI_len];simp)
     rwa [List.drop_zero,List.take_of_length_le (by rw [cI_len];simp)] at h
    have hsl:=staffs_len ss n
    have hnn:=staffs_nn hb
    rw [costQ_some hr hb hxl]
    generalize staffs ss n=st at hstaff hsl hnn ⊢
    have hps:=prodL_sz (ss:=st) hnn x3
    have hpl:=prodL_len st xs
    have hat:∀i,i < xs.length→(prodL st xs).getD i 0=((st.getD i 0:Int):Rat)*xs.getD i 0:=fun i h=>prodL_at st xs h
    generalize prodL st xs=pr at hps hpl hat ⊢
    conv=>whnf
    refine VCall.of_data cr (ndT (fun k=>rfl)) ?_
    conv=>whnf
    refine VCall.of_data cs (nd _) ?_
    conv=>whnf
    rw [decide_eq_true (by rw [cQ_len,cI_len,hxl])]
    conv=>whnf
    refine VCall.of_data (fn_whole 0 (by decide) (by decide)) (ndA fun k=>rfl) ?_
    conv=>whnf
    refine VCall.of_data hstaff (nd _) ?_
    conv=>whnf
    refine VLoop.inv hty (S:=Nat) (fun i=>[(38,I i),(37,I xs.length),(36,.d (.sl (cI st))),(10,.lp 10 0),(8,lQ xs)]) (fun i=>[(10,.box true [B (ng (psum pr i)),nI (tp (psum pr i)),nI (psum pr i).den])])
     (fun i=>i≤xs.length) (fun i=>xs.length - i) 0 (Nat.zero_le _) ⟨rfl,by show I ((cI st).length:Nat)=_;rw [cI_len,hsl,hxl],rfl,rfl,rfl,trivial⟩ ⟨rfl,trivial⟩ ?_
    intro i hi
    conv=>whnf
    have sp:=sz_psum hps (by decide) i
    refine Br.mk (fun h2=>?_) (fun h2=>?_)
    ·have h2:i < xs.length:=by simp only [decide_eq_true_eq] at h2;omega
     obtain ⟨x,ex⟩:∃x,xs.getD i 0=x:=⟨_,rfl⟩
     obtain ⟨s,es⟩:∃s,st.getD i 0=s:=⟨_,rfl⟩
     have sx:=getD_sz x3 i (by decide)
     have hs1:=hnn i
     have er:psum pr (i+1)=psum pr i+((s:Int):Rat)*x:=by rw [←ex,←es,←hat i h2];rfl
     rw [ex] at sx
     rw [es] at hs1
     have sz1:sz ((s:Int):Rat)≤20:=sz_small (by omega) (by decide)
     have sz2:=sz_mul ((s:Int):Rat) x
     have cw:=fn_whole s (by omega) (by omega)
     have cm:=fn_rmul (s:Rat) x (by omega) (by omega)
     have ca:=fn_radd (psum pr i) ((s:Rat)*x) (by omega)
     rw [←er] at ca
     conv=>whnf
     refine ⟨⟨⟨by omega,by rw [cI_len];omega⟩,cI_sz _⟩,?_⟩
     conv=>whnf
     refine ⟨_,cI_as (x:=s) (by omega) es,?_⟩
     conv=>whnf
     refine VDraw.go hmo hty 9 [] rfl ?_
     conv=>whnf
     refine QCall.of_data cw (ndA fun k=>rfl) ?_
     conv=>whnf
     refine ⟨⟨⟨by omega,by rw [cQ_len];omega⟩,cQ_sz _⟩,?_⟩
     conv=>whnf
     refine ⟨_,cQ_as (x:=x) h2 ex,?_⟩
     conv=>whnf
     refine QCall.of_data cm (ndA fun k=>rfl) ?_
     conv=>whnf
     refine QCall.of_data ca (ndA fun k=>rfl) ?_
     conv=>whnf
     refine Wr.i64 (y:=((i+1:Nat):Int)) rfl (by omega) (by omega) ?_
     conv=>whnf
     exact ⟨i+1,h2,by show xs.length - (i+1) < xs.length - i;omega,⟨rfl,rfl,rfl,rfl,rfl,trivial⟩,⟨rfl,trivial⟩⟩
    ·have h2:i=xs.length:=by simp only [decide_eq_false_iff_not] at h2;omega
     have ct:=fn_told (psum pr i) (by omega)
     have e:rsum pr=psum pr i:=by rw [h2,←hpl];rfl
     rw [e]
     conv=>whnf
     refine VCall.of_data ct (ndT (fun k=>rfl)) ?_
     conv=>whnf
     exact ⟨rfl,rfl,trivial,rfl⟩
   ·rw [costQ_none3 hr hxl]
    conv=>whnf
    refine VCall.of_data cr (ndT (fun k=>rfl)) ?_
    conv=>whnf
    refine VCall.of_data cs (nd _) ?_
    conv=>whnf
    rw [decide_eq_false (by rw [cQ_len,cI_len];omega)]
    conv=>whnf
    exact ⟨rfl,rfl,trivial,rfl⟩
end Go.V
namespace Go.V
open Go.Proofs Go.RowKit
set_option maxRecDepth 10000
set_option maxHeartbeats 1000000
def preS (z:List Int):Nat→Int
 | 0=>0
 | k+1=>preS z k+pre z (k+1)
def stS (z:List Int) (n:Int):Nat→Int
 | 0=>0
 | k+1=>stS z n k+staff z n k
theorem stS_eq (z:List Int) (n:Nat) (hn:1≤n):∀k,stS z n k=preS z k - preS z (k - n)
 | 0=>by simp [stS,preS]
 | k+1=>by
  have ih:=stS_eq z n hn k
  show stS z n k+staff z n k=(preS z k+pre z (k+1)) - preS z (k+1 - n)
  rw [staff_pre z n k (by omega),ih]
  by_cases h:n≤k
  ·rw [show k+1 - n=(k - n)+1 by omega,show ((k:Int) - (n:Int)+1).toNat=k - n+1 by omega]
   show _=_ - (preS z (k - n)+pre z (k - n+1))
   omega
  ·rw [show k+1 - n=0 by omega,show k - n=0 by omega,show ((k:Int) - (n:Int)+1).toNat=0 by omega,pre_zero]
   show _ - 0+_=_ - 0
   omega
theorem pre_full {z:List Int} {a k:Nat} (h:∀i,a≤i→z.getD i 0=0) (hk:a≤k):pre z k=z.sum:=by
 rw [pre_tail h hk,←pre_tail h (show a≤a+z.length by omega),pre_all _ (by omega)]
theorem preS_tail {z:List Int} {a k:Nat} (h:∀i,a≤i→z.getD i 0=0) (hk:a≤k+1):∀j:Nat,preS z (k+j)=preS z k+j*z.sum
 | 0=>by simp
 | j+1=>by
  have ih:=preS_tail h hk j
  show preS z (k+j)+pre z (k+j+1)=_
  rw [ih,pre_full h (by omega)]
  have:((j+1:Nat):Int)*z.sum=j*z.sum+z.sum:=by rw [Int.natCast_add,Int.add_mul];simp
  omega
theorem staffs_stS (z:List Int) (n:Int):∀k,((List.range k).map (staff z n)).sum=stS z n k
 | 0=>by simp [stS]
 | k+1=>by
  have ih:=staffs_stS z n k
  rw [List.range_succ,List.map_append,List.sum_append,ih]
  show _=stS z n k+staff z n k
  simp
theorem staffs_sum (z:List Int) (n:Int) (hn:1≤n∧n≤z.length) (ht:∀i:Nat,(z.length:Int) - n < i→z.getD i 0=0):(staffs z n).sum=n*z.sum:=by
 obtain ⟨m,rfl⟩:∃m:Nat,n=m:=⟨n.toNat,by omega⟩
 show ((List.range z.length).map (staff z m)).sum=_
 rw [staffs_stS,stS_eq z m (by omega)]
 have h:=preS_tail (z:=z) (a:=z.length - m+1) (k:=z.length - m) (fun i hi=>ht i (by omega)) (Nat.le_refl _) m
 rw [show z.length - m+m=z.length by omega] at h
 omega
theorem cost_half (ys:List Int) (xs:List Rat) (hl:xs.length=ys.length) (hx:∀i,i < xs.length→xs.getD i 0=1 / 2):rsum (prodL ys xs)=mkRat ys.sum 2:=by
 have key:∀k,k≤xs.length→psum (prodL ys xs) k=((pre ys k:Int):Rat)*(1 / 2):=by
  intro k
  induction k with
  | zero=>intro _;rw [pre_zero];show (0:Rat)=_;grind
  | succ k ih =>
   intro hk
   show psum (prodL ys xs) k+(prodL ys xs).getD k 0=_
   rw [ih (by omega),prodL_at ys xs (by omega),hx k (by omega),pre_succ,Rat.intCast_add,Rat.add_mul]
 unfold rsum
 rw [prodL_len,key _ (Nat.le_refl _),pre_all _ (by omega),Rat.mkRat_eq_div]
 show _=_ / ((2:Nat):Rat)
 have:((2:Nat):Rat)=2:=rfl
 rw [this]
 grind
theorem half_read:rdRat [49,47,50]=some (1 / 2):=by
 have e:rdRat [49,47,50]=some (mkRat (sgn false 1) 2):=by decide +kernel
 rw [e,Rat.mkRat_eq_div];rfl
end Go.V
namespace Go.V
section
variable {P:Program} {G:Ctx}
end
end Go.V
namespace Go.V
section
variable {P:Program} {G:Ctx} {κ:Know} {ρ:Place} {t:TL} {l:LL} {a:Act} {w:World}
end
end Go.V
namespace Go.V
section
variable {P:Program} {G:Ctx} {κ:Know} {ρ:Place} {t:TL} {l:LL} {a:Act} {w:World}
end
end Go.V
namespace Go.V
mutual
def AV.okB (id:Nat):AV→Bool
 | .ls k lo n _=>!Nat.beq k id || Nat.blt 0 (lo+n)
 | .ap k _ _=>!Nat.beq k id
 | .ms k _ _ _ _=>!Nat.beq k id
 | .me k _ _ _ _=>!Nat.beq k id
 | .ag cs=>AV.okBs id cs
 | .tup cs=>AV.okBs id cs
 | _=>true
def AV.okBs (id:Nat):List AV→Bool
 | []=>true
 | x :: r=>AV.okB id x && AV.okBs id r
end
theorem okBs_get {id:Nat}:∀{cs:List AV},AV.okBs id cs=true→∀x,x∈cs→AV.okB id x=true
 | [],_,x,h=>by cases h
 | y :: r,h,x,hx=>by
  simp only [AV.okBs,Bool.and_eq_true] at h
  rcases List.mem_cons.1 hx with rfl | hx
  ·exact h.1
  ·exact okBs_get h.2 x hx
def okBL (id:Nat):LL→Bool
 | []=>true
 | (k,.box _ cs) :: r=>(Nat.beq k id || AV.okBs id cs) && okBL id r
 | _ :: r=>okBL id r
theorem okBL_get {id:Nat}:∀{l:LL},okBL id l=true→∀j m cs,j≠id→lget j l = .box m cs→AV.okBs id cs=true
 | [],_,j,m,cs,_,h=>by simp [lget] at h
 | (k,.box w cs) :: r,h,j,m,cs',hj,hb=>by
  simp only [okBL,Bool.and_eq_true,Bool.or_eq_true] at h
  rw [lget_cons] at hb;split at hb
  ·rename_i e
   cases hb
   exact h.1.resolve_left fun e2=>hj (e.trans (Nat.eq_of_beq_eq_true e2))
  ·exact okBL_get h.2 j m cs' hj hb
 | (k,.no) :: r,h,j,m,cs',hj,hb | (k,.row _ _ _) :: r,h,j,m,cs',hj,hb | (k,.mat _ _ _) :: r,h,j,m,cs',hj,hb=>by
  rw [lget_cons] at hb;split at hb
  ·cases hb
  ·exact okBL_get (l:=r) h j m cs' hj hb
theorem AVR.toB {κ:Know} {ρ:Place} {id:Nat} {L:Loc} {ib:List Pl} {v:Value} {x:AV} (hL:ρ id=some L) (h:AVR κ ρ v x) (hx:AV.okB id x=true):AVR κ (ρ.put id (some ⟨L.b,L.o,L.N,1,ib⟩)) v x:=by
 have old:∀{i L'},(ρ.put id (some ⟨L.b,L.o,L.N,1,ib⟩)) i=some L'→∃L0,ρ i=some L0∧L0.b=L'.b∧L0.o=L'.o:=fun {i L'} h=>by
  by_cases hi:i=id
  ·subst hi;rw [put_self] at h;cases h;exact ⟨L,hL,rfl,rfl⟩
  ·rw [put_ne hi] at h;exact ⟨L',h,rfl,rfl⟩
 have ne:∀{i},(!Nat.beq i id)=true→i≠id:=fun {i} h e=>by subst e;simp at h
 induction h with
 | j x=>exact .j x
 | d x c h=>exact .d x c h
 | ag vs cs hn ho h ih=>exact .ag vs cs hn ho fun k v c h1 h2=>ih k v c h1 h2 (okBs_get (by simpa [AV.okB] using hx) c (List.mem_of_getElem? h2))
 | tup vs cs hn h ih=>exact .tup vs cs hn fun k v c h1 h2=>ih k v c h1 h2 (okBs_get (by simpa [AV.okB] using hx) c (List.mem_of_getElem? h2))
 | lp x i off h=>exact .lp x i off fun L' hL'=>by obtain ⟨L0,g1,g2,g3⟩:=old hL';rw [←g2,←g3];exact h L0 g1
 | pe x i j f sz h=>exact .pe x i j f sz fun L' hL'=>by obtain ⟨L0,g1,g2,g3⟩:=old hL';rw [←g2,←g3];exact h L0 g1
 | ap x i n sz h =>
  have hi:=ne (by simpa [AV.okB] using hx)
  exact .ap x i n sz fun L' hL'=>h L' (by rw [put_ne hi] at hL';exact hL')
 | ls x i lo len sz h =>
  refine .ls x i lo len sz fun L' hL'=>?_
  by_cases hi:i=id
  ·subst hi
   rw [put_self] at hL';cases hL'
   obtain ⟨cap,A,h1,h2,h3,h4,h5⟩:=h L hL
   have hp:0 < lo+len:=by
    have:(!Nat.beq i i || Nat.blt 0 (lo+len))=true:=hx
    rw [show Nat.beq i i=true from Nat.beq_refl i,Bool.not_true,Bool.false_or] at this
    exact Nat.le_of_ble_eq_true this
   exact ⟨cap,A,h1,h2,h3,h4,by show 1≤lo+cap;omega⟩
  ·exact h L' (by rw [put_ne hi] at hL';exact hL')
 | ep b off rows i f sz vs hz h1 h2=>exact .ep b off rows i f sz vs hz h1 h2
 | pp b off cs o vs h1 h2=>exact .pp b off cs o vs h1 h2
 | ms x i r lo len sz h =>
  have hi:=ne (by simpa [AV.okB] using hx)
  exact .ms x i r lo len sz fun L' hL'=>h L' (by rw [put_ne hi] at hL';exact hL')
 | me x i r j f sz h =>
  have hi:=ne (by simpa [AV.okB] using hx)
  exact .me x i r j f sz fun L' hL'=>h L' (by rw [put_ne hi] at hL';exact hL')
section
variable {P:Program} {G:Ctx} {κ:Know} {ρ:Place} {t:TL} {l:LL} {a:Act} {w:World}
theorem Mem.toB (hm:Mem G κ ρ l w) {id id2 lo n sz:Nat} {rows:List (List C)} (hl:lget id l = .box true [.ls id2 lo n sz]) (hl2:lget id2 l = .row true sz rows) (hne:id≠id2) (hid:id < 1000000) (hok:okBL id l=true) :
  ∃ρ',Mem G κ ρ' ((id,.mat sz [.r 0 lo n] [rows]) :: lrem id2 l) w∧∀v x,AV.okB id x=true→AVR κ ρ v x→AVR κ ρ' v x:=by
 have hob:=hm.ob id
 rw [hl] at hob
 obtain ⟨L,arr,E,fz,hL,hh,hN,hfz,hcs⟩:=hob
 have:=hfz rfl;subst this
 have hob2:=hm.ob id2
 rw [hl2] at hob2
 obtain ⟨L2,arr2,E2,fz2,hL2,hh2,hN2,hfz2,hz2,hkn2,hcs2⟩:=hob2
 have:=hfz2 rfl;subst this
 have w1:(lget id l).wr=true:=by rw [hl];rfl
 have w2:(lget id2 l).wr=true:=by rw [hl2];rfl
 have hd:=hm.drop id2
 let L':Loc:=⟨L.b,L.o,L.N,1,[L2.pl]⟩
 have hL1:(ρ.put id2 Option.none) id=some L:=by rw [put_ne hne];exact hL
 have hAV:∀v x,AV.okB id x=true→AVR κ ρ v x→AVR κ ((ρ.put id2 Option.none).put id (some L')) v x:=fun v x hx hv=>AVR.toB hL1 hv.gone hx
 have hhas:∀b,L'.has b→b=L.b∨b=L2.b:=fun b h=>h.imp (fun e=>e) fun ⟨M,hM,e⟩=>by
  have:M=L2.pl:=by simpa [L'] using hM
  subst this;exact e
 have hb12:L2.b≠L.b:=fun e=>hm.sep id id2 L L2 hne hL hL2 w1 L.b L.has_b (e▸L2.has_b)
 have hg:∀i,lget i ((id,.mat sz [.r 0 lo n] [rows]) :: lrem id2 l)=if i=id then .mat sz [.r 0 lo n] [rows] else if i=id2 then .no else lget i l:=fun i=>by
  rw [lget_cons,lget_lrem]
 have hρ:∀{i Li},i≠id→((ρ.put id2 Option.none).put id (some L')) i=some Li→i≠id2∧ρ i=some Li:=fun {i Li} hi h=>by
  rw [put_ne hi] at h;exact put_none_some h
 refine ⟨(ρ.put id2 Option.none).put id (some L'),⟨fun i=>?_,fun i j Li Lj hij hi hj hw b hb=>?_,fun i Li hi hw b hb=>?_,fun i Li hi b hb=>?_,hm.kn,hm.one,hm.kn0,hm.fr,fun i Li h1 hi=>?_⟩,hAV⟩
 ·rw [hg]
  by_cases h1:i=id
  ·subst h1
   rw [if_pos rfl]
   refine ⟨L',put_self _ _,⟨arr,E,hh,hN,Nat.le_refl _,fun k c hc=>?_⟩,rfl,fun r M row hM hr=>?_,fun r M hM=>?_,fun p q M M' hp hq hpq=>?_⟩
   ·cases k with
    | zero =>
     have hc:MC.r 0 lo n=c:=by simpa using hc
     subst hc
     obtain ⟨x,f1,f2,f3⟩:=hcs 0 (.ls id2 lo n sz) rfl
     exact ⟨x,f1,⟨L2.pl,rfl,f2.ls_at hL2⟩,f3⟩
    | succ k=>simp at hc
   ·cases r with
    | zero =>
     have hM:L2.pl=M:=by simpa [L'] using hM
     have hr:rows=row:=by simpa using hr
     subst hM;subst hr
     exact ⟨arr2,E2,hh2,hN2,hz2,hkn2,hcs2⟩
    | succ r=>simp at hr
   ·cases r with
    | zero =>
     have hM:L2.pl=M:=by simpa [L'] using hM
     subst hM;exact hb12
    | succ r=>simp [L'] at hM
   ·have hp':=some_lt hp
    have hq':=some_lt hq
    simp [L'] at hp' hq'
    omega
  ·rw [if_neg h1]
   by_cases h2:i=id2
   ·subst h2
    rw [if_pos rfl]
    show ((ρ.put i Option.none).put id (some L')) i=Option.none
    rw [put_ne h1,put_self]
   ·rw [if_neg h2]
    refine (hm.ob i).move (Know.le_refl _) (by rw [put_ne h1,put_ne h2]) (fun _ _ _ _=>rfl) fun m cs hb k c v hc hv=>hAV v c (okBs_get (okBL_get hok i m cs h1 hb) c (List.mem_of_getElem? hc)) hv
 ·rw [hg] at hw
  by_cases h1:i=id
  ·subst h1
   rw [put_self] at hi;cases hi
   obtain ⟨h2,h3⟩:=hρ (Ne.symm hij) hj
   rcases hhas b hb with e | e
   ·rw [e];exact hm.sep i j L Lj hij hL h3 w1 _ L.has_b
   ·rw [e];exact hm.sep id2 j L2 Lj (Ne.symm h2) hL2 h3 w2 _ L2.has_b
  ·obtain ⟨h2,h3⟩:=hρ h1 hi
   rw [if_neg h1,if_neg h2] at hw
   by_cases h4:j=id
   ·subst h4
    rw [put_self] at hj;cases hj
    intro hb2
    rcases hhas b hb2 with e | e
    ·exact hm.sep i j Li L h1 h3 hL hw b hb (e▸L.has_b)
    ·exact hm.sep i id2 Li L2 h2 h3 hL2 hw b hb (e▸L2.has_b)
   ·obtain ⟨_,h6⟩:=hρ h4 hj
    exact hm.sep i j Li Lj hij h3 h6 hw b hb
 ·rw [hg] at hw
  by_cases h1:i=id
  ·subst h1
   rw [put_self] at hi;cases hi
   rcases hhas b hb with e | e
   ·rw [e];exact hm.fre i L hL w1 _ L.has_b
   ·rw [e];exact hm.fre id2 L2 hL2 w2 _ L2.has_b
  ·obtain ⟨h2,h3⟩:=hρ h1 hi
   rw [if_neg h1,if_neg h2] at hw
   exact hm.fre i Li h3 hw b hb
 ·by_cases h1:i=id
  ·subst h1
   rw [put_self] at hi;cases hi
   rcases hhas b hb with e | e
   ·rw [e];exact hm.own i L hL _ L.has_b
   ·rw [e];exact hm.own id2 L2 hL2 _ L2.has_b
  ·exact hm.own i Li (hρ h1 hi).2 b hb
 ·by_cases h2:i=id
  ·omega
  ·exact hm.par i Li h1 (hρ h2 hi).2
end
end Go.V
namespace Go.V
section
variable {P:Program} {G:Ctx} {κ:Know} {ρ:Place} {t:TL} {l:LL} {a:Act} {w:World}
end
end Go.V
namespace Go.V
section
variable {P:Program} {G:Ctx}
end
end Go.V
