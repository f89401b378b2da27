/- Part 8: the abstract machine, its soundness, contracts of functions. -/
import Derived.Test.YtnohbinebhhlpaaGreatDoorK7
import Derived.Test.YtnohbinebhhlpaaGreatDoorK3
import Derived.Test.YtnohbinebhhlpaaGreatDoorK4
set_option linter.unusedVariables false
set_option linter.unusedSimpArgs false
namespace Go.V
open Go.Proofs Go.RowKit
set_option maxRecDepth 10000
set_option maxHeartbeats 1000000
def ixQ (n w:Nat):List MC:=(List.range n).map fun i=>.r i 0 w
theorem ixQ_len (n w:Nat):(ixQ n w).length=n:=by simp [ixQ]
theorem ixQ_at {n w i:Nat} (h:i < n):(ixQ n w)[i]? = some (.r i 0 w):=by simp [ixQ,h]
theorem ixQ_snoc (n w:Nat):ixQ (n+1) w=ixQ n w++[.r n 0 w]:=by unfold ixQ;rw [List.range_succ,List.map_append];rfl
theorem ixF_rep (n w:Nat):ixF 0 (List.replicate n w)=ixQ n w:=by
 induction n with
 | zero=>rfl
 | succ n ih=>rw [List.replicate_succ' (n:=n),ixF_snoc,ih,List.length_replicate,Nat.zero_add,ixQ_snoc]
def cR (R:Mt):List (List (List C)):=R.map cQ
def cRS (R:Mt):List (List (List C)):=R.map cS
theorem cR_len (R:Mt):(cR R).length=R.length:=by simp [cR]
theorem cRS_len (R:Mt):(cRS R).length=R.length:=by simp [cRS]
theorem cR_at {R:Mt} {i:Nat} {x:List Rat} (h:i < R.length) (e:R.getD i []=x):(cR R)[i]? = some (cQ x):=by
 subst e;rw [List.getD_eq_getElem?_getD,List.getElem?_eq_getElem h];simp [cR,h]
theorem cRS_at {R:Mt} {i:Nat} {x:List Rat} (h:i < R.length) (e:R.getD i []=x):(cRS R)[i]? = some (cS x):=by
 subst e;rw [List.getD_eq_getElem?_getD,List.getElem?_eq_getElem h];simp [cRS,h]
theorem cR_set (R:Mt) (i:Nat) (x:List Rat):(cR R).set i (cQ x)=cR (R.set i x):=by unfold cR;rw [List.map_set]
theorem cRS_set (R:Mt) (i:Nat) (x:List Rat):(cRS R).set i (cS x)=cRS (R.set i x):=by unfold cRS;rw [List.map_set]
theorem cR_getD {R:Mt} {i:Nat} (h:i < R.length):(cR R).getD i []=cQ (R.getD i []):=by
 rw [List.getD_eq_getElem?_getD,cR_at h rfl];rfl
theorem matD_ixQ {R:Mt} {n w:Nat} (hn:R.length=n) (hw:∀i,i < n→(R.getD i []).length=w):matD (cR R) (ixQ n w)=cM R:=by
 have:=matD_map (cR R) (fun i=>.r i 0 w) (fun i=>[.sl (cQ (R.getD i []))]) (List.range n) fun k hk=>by
  have hk:k < n:=by simpa using hk
  show [[C.sl ((((cR R).getD k []).drop 0).take w)]]=[[.sl (cQ (R.getD k []))]]
  rw [cR_getD (by omega),List.drop_zero,List.take_of_length_le (by rw [cQ_len,hw k hk];exact Nat.le_refl _)]
 unfold ixQ
 rw [this]
 apply List.ext_getElem (by simp [cM_len,hn])
 intro i h1 h2
 have hi:i < R.length:=by rw [cM_len] at h2;exact h2
 simp [cM,hi]
theorem matIn_ixQ {R:Mt} {n w:Nat} (hn:R.length=n) (hw:∀i,i < n→(R.getD i []).length=w):matIn (cR R) (ixQ n w):=fun i lo m hm=>by
 obtain ⟨k,hk,e⟩:=List.mem_map.1 hm
 have hk:k < n:=by simpa using hk
 cases e
 rw [cR_getD (by omega),cQ_len,hw _ hk]
 omega
theorem freezeSq {f:Nat} {xs:List AV} {R:Mt} {n w:Nat} (h:Fn Tryz.prog f xs [] (.ls 0 0 n 1) [(0,.mat 3 (ixQ n w) (cR R))]) (hn:R.length=n) (hw:∀i,i < n→(R.getD i []).length=w):Fn Tryz.prog f xs [] (lM R) []:=by
 have:=h.freezeM (by rw [ixQ_len];omega) (matIn_ixQ hn hw)
 rwa [matD_ixQ hn hw,List.drop_zero,List.take_of_length_le (by rw [cM_len];omega)] at this
def layP (m:Mo) (a:Nat→Bool) (n:Nat):Mt:=(List.range (m.room+1)).map fun i=>if i < n then rowP m a i else List.replicate (m.room+1) 0
theorem layP_len (m:Mo) (a:Nat→Bool) (n:Nat):(layP m a n).length=m.room+1:=by simp [layP]
theorem layP_at {m:Mo} {a:Nat→Bool} {n i:Nat} (h:i < m.room+1):(layP m a n).getD i []=if i < n then rowP m a i else List.replicate (m.room+1) 0:=map_at h
theorem layP_zero (m:Mo) (a:Nat→Bool):layP m a 0=List.replicate (m.room+1) (List.replicate (m.room+1) 0):=by
 apply List.ext_getElem (by simp [layP_len])
 intro i h1 h2
 simp [layP]
theorem layP_next {m:Mo} {a:Nat→Bool} {n:Nat} (h:n < m.room+1):(layP m a n).set n (rowP m a n)=layP m a (n+1):=by
 apply mt_ext2 (by rw [List.length_set,layP_len,layP_len])
 intro i hi
 rw [List.length_set,layP_len] at hi
 rw [gsetD (by rw [layP_len];exact h),layP_at hi,layP_at hi]
 by_cases e:i=n
 ·subst e;rw [if_pos rfl,if_pos (by omega)]
 ·rw [if_neg e]
  by_cases e2:i < n
  ·rw [if_pos e2,if_pos (by omega)]
  ·rw [if_neg e2,if_neg (by omega)]
theorem layP_full (m:Mo) (a:Nat→Bool):layP m a (m.room+1)=chainP m a:=by
 apply mt_ext2 (by rw [layP_len,chainP_len])
 intro i hi
 rw [layP_len] at hi
 rw [layP_at hi,if_pos hi,chainP_at hi]
theorem cR_rep (n k:Nat):cR (List.replicate n (List.replicate k 0))=List.replicate n (cQ (List.replicate k 0)):=by simp [cR]
theorem rep_getD (n j:Nat):(List.replicate n (0:Rat)).getD j 0=0:=by
 rw [List.getD_eq_getElem?_getD,List.getElem?_replicate];split <;> rfl
theorem fn_chain0 (m:Mo) (hm:m.Ok) (acts:List Bool) (ha:acts.length=m.room):Fn Tryz.prog 74 [moI m,lBo acts] [] (.ls 0 0 (m.room+1) 1) [(0,.mat 3 (ixQ (m.room+1) (m.room+1)) (cR (chainP m (acts.getD · false))))]:=by
 have r2:=hm.r2
 have cz:=fn_zeros (m.room+1) (by omega) (by omega)
 rw [ixF_rep,←cR_rep] at cz
 obtain ⟨a,ea'⟩:∃a:Nat→Bool,(acts.getD · false)=a:=⟨_,rfl⟩
 have ea:∀n,acts.getD n false=a n:=fun n=>by rw [←ea']
 rw [ea',←layP_full]
 rw [←layP_zero m a] at cz
 obtain ⟨N,eN⟩:∃N,m.room+1=N:=⟨_,rfl⟩
 rw [eN] at cz ⊢
 refine Fn.intro (ks:=[0,1,2,4,5,6,7,13,14,15,27]) hty rfl rfl rfl rfl rfl ?_
 conv=>whnf
 refine Wr.i64 (y:=(N:Int)) (by omega) (by omega) (by omega) ?_
 conv=>whnf
 refine VCall.of_fn (k:=11) cz (fun j hj=>by
  have:0=j:=Nat.eq_of_beq_eq_true hj
  rw [lget_cons,if_pos this.symm];simp) rfl ?_
 conv=>whnf
 refine VLoop.inv hty (S:=Nat) (fun n=>[(14,I n),(13,I N),(5,.ls 11 0 N 1),(2,.lp 2 0),(1,lBo acts)]) (fun n=>[(11,.mat 3 (ixQ N N) (cR (layP m a n))),(2,.box true ((moJ m).map .d))]) (fun n=>n≤N) (fun n=>N - n) 0 (Nat.zero_le _)
  ⟨rfl,rfl,rfl,rfl,rfl,trivial⟩ ⟨rfl,rfl,trivial⟩ ?_
 intro n hn
 conv=>whnf
 refine Br.mk (fun h=>?_) (fun h=>?_)
 ·have h:n < N:=by simp only [decide_eq_true_eq] at h;omega
  obtain ⟨up,eup⟩:∃up,up=if n < m.room∧a n=true then n+1 else n:=⟨_,rfl⟩
  have hup:up < N:=by rw [eup];split <;> omega
  obtain ⟨r1,e1⟩:∃r1,r1=(List.replicate (m.room+1) (0:Rat)).set up (0+m.come):=⟨_,rfl⟩
  obtain ⟨r2',e2⟩:∃r2,r2=r1.set (n - 1) (r1.getD (n - 1) 0+m.serve):=⟨_,rfl⟩
  obtain ⟨r3,e3⟩:∃r3,r3=r2'.set n (r2'.getD n 0+m.stay):=⟨_,rfl⟩
  have er:=rowP_lay m a (n:=n) (by omega) up eup e1 e2 e3
  have x1:=ixQ_at (n:=N) (w:=N) h
  have z1:=hm.zc
  have z2:=hm.zs
  have z3:=hm.zt
  have z00:sz (0:Rat)≤1:=by decide
  obtain ⟨z0,ez0⟩:∃z0:List Rat,List.replicate (m.room+1) 0=z0:=⟨_,rfl⟩
  have z0l:z0.length=N:=by rw [←ez0,List.length_replicate];exact eN
  have z0at:∀j,z0.getD j 0=0:=fun j=>by rw [←ez0];exact rep_getD _ _
  have y0:=cR_at (R:=layP m a n) (i:=n) (x:=z0) (by rw [layP_len];omega) (by rw [layP_at (by omega),if_neg (by omega),ez0])
  rw [ez0] at e1
  have s1:∀j,sz (r1.getD j 0)≤900:=fun j=>by
   rw [e1,gsetD (by rw [z0l];exact hup)]
   split
   ·have:=sz_add 0 m.come;omega
   ·rw [z0at];omega
  have l1:r1.length=N:=by rw [e1,List.length_set,z0l]
  have l2:r2'.length=N:=by rw [e2,List.length_set,l1]
  have s2:∀j,sz (r2'.getD j 0)≤2000:=fun j=>by
   rw [e2,gsetD (by rw [l1];omega)]
   split
   ·have:=sz_add (r1.getD (n - 1) 0) m.serve;have:=s1 (n - 1);omega
   ·have:=s1 j;omega
  have k1:=fn_radd 0 m.come (by omega)
  have k2:=fn_radd (r1.getD (n - 1) 0) m.serve (by have:=s1 (n - 1);omega)
  have w1:sz (((1:Int):Rat))≤1:=sz_small (n:=1) (k:=1) (by decide) (by decide)
  have s10:=sz_sub ((1:Int):Rat) m.come
  have k4:=fn_whole 1 (by decide) (by decide)
  have k5:=fn_rsub ((1:Int):Rat) m.come (by omega)
  have k6:=fn_rsub (((1:Int):Rat) - m.come) m.serve (by omega)
  rw [show ((1:Int):Rat) - m.come - m.serve=m.stay from rfl] at k6
  obtain ⟨yy,eyy⟩:∃y,((1:Int):Rat) - m.come=y:=⟨_,rfl⟩
  rw [eyy] at k5 k6
  have k3:=fn_radd (r2'.getD n 0) m.stay (by have:=s2 n;omega)
  have y1:((cR (layP m a n)).set n ((cQ z0).set up (c1Q (0+m.come))))[n]? = some (cQ r1):=by
   rw [cQ_set,←e1,List.getElem?_set_self (by rw [cR_len,layP_len];omega)]
  have y2:(((cR (layP m a n)).set n ((cQ z0).set up (c1Q (0+m.come)))).set n ((cQ r1).set (n - 1) (c1Q (r1.getD (n - 1) 0+m.serve))))[n]? = some (cQ r2'):=by
   rw [cQ_set (k:=n - 1),←e2,List.getElem?_set_self (by rw [List.length_set,cR_len,layP_len];omega)]
  have y3:((((cR (layP m a n)).set n ((cQ z0).set up (c1Q (0+m.come)))).set n ((cQ r1).set (n - 1) (c1Q (r1.getD (n - 1) 0+m.serve))))).set n ((cQ r2').set n (c1Q (r2'.getD n 0+m.stay)))=cR (layP m a (n+1)):=by
   rw [List.set_set,List.set_set,cQ_set (k:=n),←e3,er,cR_set,layP_next (by omega)]
  conv=>whnf
  by_cases hr:n < m.room
  ·rw [decide_eq_true (show (n:Int) < (m.room:Int) by omega)]
   conv=>whnf
   refine ⟨⟨⟨by omega,by rw [cBo_len];omega⟩,cBo_sz _⟩,?_⟩
   conv=>whnf
   refine ⟨_,cBo_as (x:=a n) (by omega) (ea n),?_⟩
   conv=>whnf
   cases hact:a n with
   | true =>
    have et:up=n+1:=by rw [eup];exact if_pos ⟨hr,hact⟩
    conv=>whnf
    refine Wr.i64 (y:=(up:Int)) (by omega) (by omega) (by omega) ?_
    conv=>whnf
    refine VDraw.go hmo hty 16 [] rfl ?_
    conv=>whnf
    refine ⟨by omega,?_⟩
    conv=>whnf
    refine ⟨_,x1,?_⟩
    conv=>whnf
    refine ⟨by omega,?_⟩
    conv=>whnf
    refine ⟨_,x1,?_⟩
    conv=>whnf
    refine ⟨by omega,?_⟩
    conv=>whnf
    refine ⟨_,y0,?_⟩
    conv=>whnf
    refine ⟨_,cQ_as (x:=0) (i:=up) (by rw [z0l];omega) (z0at _),?_⟩
    conv=>whnf
    refine QCall.of_data k1 (ndA fun k=>rfl) ?_
    conv=>whnf
    refine ⟨by omega,?_⟩
    conv=>whnf
    refine ⟨_,y0,?_⟩
    conv=>whnf
    refine ⟨by rw [cQ_len,z0l];show up+0 < N;omega,?_⟩
    conv=>whnf
    refine VDraw.go hmo hty 20 [] rfl ?_
    conv=>whnf
    refine ⟨by omega,?_⟩
    conv=>whnf
    refine ⟨_,x1,?_⟩
    conv=>whnf
    refine Wr.i64 (y:=(n:Int) - 1) rfl (by omega) (by omega) ?_
    conv=>whnf
    refine ⟨by omega,?_⟩
    conv=>whnf
    refine ⟨_,x1,?_⟩
    conv=>whnf
    refine Wr.i64 (y:=(n:Int) - 1) rfl (by omega) (by omega) ?_
    conv=>whnf
    rw [show max ((n:Int) - 1) 0=((n - 1:Nat):Int) by omega]
    conv=>whnf
    refine ⟨by omega,?_⟩
    conv=>whnf
    refine ⟨_,y1,?_⟩
    conv=>whnf
    refine ⟨_,cQ_as (x:=r1.getD (n - 1) 0) (i:=n - 1) (by rw [l1];omega) rfl,?_⟩
    conv=>whnf
    refine QCall.of_data k2 (ndA fun k=>rfl) ?_
    conv=>whnf
    refine ⟨by omega,?_⟩
    conv=>whnf
    refine ⟨_,y1,?_⟩
    conv=>whnf
    refine ⟨by rw [cQ_len,l1];show n - 1+0 < N;omega,?_⟩
    conv=>whnf
    refine VDraw.go hmo hty 21 [] rfl ?_
    conv=>whnf
    refine ⟨by omega,?_⟩
    conv=>whnf
    refine ⟨_,x1,?_⟩
    conv=>whnf
    refine ⟨by omega,?_⟩
    conv=>whnf
    refine ⟨_,x1,?_⟩
    conv=>whnf
    refine ⟨by omega,?_⟩
    conv=>whnf
    refine ⟨_,y2,?_⟩
    conv=>whnf
    refine ⟨_,cQ_as (x:=r2'.getD n 0) (i:=n) (by rw [l2];omega) rfl,?_⟩
    conv=>whnf
    refine QCall.of_data k4 (ndA fun k=>rfl) ?_
    conv=>whnf
    refine QCall.of_data k5 (ndA fun k=>rfl) ?_
    conv=>whnf
    refine QCall.of_data k6 (ndA fun k=>rfl) ?_
    conv=>whnf
    refine QCall.of_data k3 (ndA fun k=>rfl) ?_
    conv=>whnf
    refine ⟨by omega,?_⟩
    conv=>whnf
    refine ⟨_,y2,?_⟩
    conv=>whnf
    refine ⟨by rw [cQ_len,l2];show n+0 < N;omega,?_⟩
    conv=>whnf
    refine Wr.i64 (y:=((n+1:Nat):Int)) rfl (by omega) (by omega) ?_
    conv=>whnf
    refine ⟨n+1,h,by show N - (n+1) < N - n;omega,⟨rfl,rfl,rfl,rfl,rfl,trivial⟩,?_,rfl,trivial⟩
    exact congrArg (Ob.mat 3 (ixQ N N)) y3
   | false =>
    have et:n=up:=by rw [eup];exact (if_neg (by rw [hact];simp)).symm
    subst et
    conv=>whnf
    refine VDraw.go hmo hty 16 [] rfl ?_
    conv=>whnf
    refine ⟨by omega,?_⟩
    conv=>whnf
    refine ⟨_,x1,?_⟩
    conv=>whnf
    refine ⟨by omega,?_⟩
    conv=>whnf
    refine ⟨_,x1,?_⟩
    conv=>whnf
    refine ⟨by omega,?_⟩
    conv=>whnf
    refine ⟨_,y0,?_⟩
    conv=>whnf
    refine ⟨_,cQ_as (x:=0) (i:=n) (by rw [z0l];omega) (z0at _),?_⟩
    conv=>whnf
    refine QCall.of_data k1 (ndA fun k=>rfl) ?_
    conv=>whnf
    refine ⟨by omega,?_⟩
    conv=>whnf
    refine ⟨_,y0,?_⟩
    conv=>whnf
    refine ⟨by rw [cQ_len,z0l];show n+0 < N;omega,?_⟩
    conv=>whnf
    refine VDraw.go hmo hty 20 [] rfl ?_
    conv=>whnf
    refine ⟨by omega,?_⟩
    conv=>whnf
    refine ⟨_,x1,?_⟩
    conv=>whnf
    refine Wr.i64 (y:=(n:Int) - 1) rfl (by omega) (by omega) ?_
    conv=>whnf
    refine ⟨by omega,?_⟩
    conv=>whnf
    refine ⟨_,x1,?_⟩
    conv=>whnf
    refine Wr.i64 (y:=(n:Int) - 1) rfl (by omega) (by omega) ?_
    conv=>whnf
    rw [show max ((n:Int) - 1) 0=((n - 1:Nat):Int) by omega]
    conv=>whnf
    refine ⟨by omega,?_⟩
    conv=>whnf
    refine ⟨_,y1,?_⟩
    conv=>whnf
    refine ⟨_,cQ_as (x:=r1.getD (n - 1) 0) (i:=n - 1) (by rw [l1];omega) rfl,?_⟩
    conv=>whnf
    refine QCall.of_data k2 (ndA fun k=>rfl) ?_
    conv=>whnf
    refine ⟨by omega,?_⟩
    conv=>whnf
    refine ⟨_,y1,?_⟩
    conv=>whnf
    refine ⟨by rw [cQ_len,l1];show n - 1+0 < N;omega,?_⟩
    conv=>whnf
    refine VDraw.go hmo hty 21 [] rfl ?_
    conv=>whnf
    refine ⟨by omega,?_⟩
    conv=>whnf
    refine ⟨_,x1,?_⟩
    conv=>whnf
    refine ⟨by omega,?_⟩
    conv=>whnf
    refine ⟨_,x1,?_⟩
    conv=>whnf
    refine ⟨by omega,?_⟩
    conv=>whnf
    refine ⟨_,y2,?_⟩
    conv=>whnf
    refine ⟨_,cQ_as (x:=r2'.getD n 0) (i:=n) (by rw [l2];omega) rfl,?_⟩
    conv=>whnf
    refine QCall.of_data k4 (ndA fun k=>rfl) ?_
    conv=>whnf
    refine QCall.of_data k5 (ndA fun k=>rfl) ?_
    conv=>whnf
    refine QCall.of_data k6 (ndA fun k=>rfl) ?_
    conv=>whnf
    refine QCall.of_data k3 (ndA fun k=>rfl) ?_
    conv=>whnf
    refine ⟨by omega,?_⟩
    conv=>whnf
    refine ⟨_,y2,?_⟩
    conv=>whnf
    refine ⟨by rw [cQ_len,l2];show n+0 < N;omega,?_⟩
    conv=>whnf
    refine Wr.i64 (y:=((n+1:Nat):Int)) rfl (by omega) (by omega) ?_
    conv=>whnf
    refine ⟨n+1,h,by show N - (n+1) < N - n;omega,⟨rfl,rfl,rfl,rfl,rfl,trivial⟩,?_,rfl,trivial⟩
    exact congrArg (Ob.mat 3 (ixQ N N)) y3
  ·have et:n=up:=by rw [eup];exact (if_neg (fun e=>hr e.1)).symm
   subst et
   rw [decide_eq_false (show ¬(n:Int) < (m.room:Int) by omega)]
   conv=>whnf
   refine VDraw.go hmo hty 16 [] rfl ?_
   conv=>whnf
   refine ⟨by omega,?_⟩
   conv=>whnf
   refine ⟨_,x1,?_⟩
   conv=>whnf
   refine ⟨by omega,?_⟩
   conv=>whnf
   refine ⟨_,x1,?_⟩
   conv=>whnf
   refine ⟨by omega,?_⟩
   conv=>whnf
   refine ⟨_,y0,?_⟩
   conv=>whnf
   refine ⟨_,cQ_as (x:=0) (i:=n) (by rw [z0l];omega) (z0at _),?_⟩
   conv=>whnf
   refine QCall.of_data k1 (ndA fun k=>rfl) ?_
   conv=>whnf
   refine ⟨by omega,?_⟩
   conv=>whnf
   refine ⟨_,y0,?_⟩
   conv=>whnf
   refine ⟨by rw [cQ_len,z0l];show n+0 < N;omega,?_⟩
   conv=>whnf
   refine VDraw.go hmo hty 20 [] rfl ?_
   conv=>whnf
   refine ⟨by omega,?_⟩
   conv=>whnf
   refine ⟨_,x1,?_⟩
   conv=>whnf
   refine Wr.i64 (y:=(n:Int) - 1) rfl (by omega) (by omega) ?_
   conv=>whnf
   refine ⟨by omega,?_⟩
   conv=>whnf
   refine ⟨_,x1,?_⟩
   conv=>whnf
   refine Wr.i64 (y:=(n:Int) - 1) rfl (by omega) (by omega) ?_
   conv=>whnf
   rw [show max ((n:Int) - 1) 0=((n - 1:Nat):Int) by omega]
   conv=>whnf
   refine ⟨by omega,?_⟩
   conv=>whnf
   refine ⟨_,y1,?_⟩
   conv=>whnf
   refine ⟨_,cQ_as (x:=r1.getD (n - 1) 0) (i:=n - 1) (by rw [l1];omega) rfl,?_⟩
   conv=>whnf
   refine QCall.of_data k2 (ndA fun k=>rfl) ?_
   conv=>whnf
   refine ⟨by omega,?_⟩
   conv=>whnf
   refine ⟨_,y1,?_⟩
   conv=>whnf
   refine ⟨by rw [cQ_len,l1];show n - 1+0 < N;omega,?_⟩
   conv=>whnf
   refine VDraw.go hmo hty 21 [] rfl ?_
   conv=>whnf
   refine ⟨by omega,?_⟩
   conv=>whnf
   refine ⟨_,x1,?_⟩
   conv=>whnf
   refine ⟨by omega,?_⟩
   conv=>whnf
   refine ⟨_,x1,?_⟩
   conv=>whnf
   refine ⟨by omega,?_⟩
   conv=>whnf
   refine ⟨_,y2,?_⟩
   conv=>whnf
   refine ⟨_,cQ_as (x:=r2'.getD n 0) (i:=n) (by rw [l2];omega) rfl,?_⟩
   conv=>whnf
   refine QCall.of_data k4 (ndA fun k=>rfl) ?_
   conv=>whnf
   refine QCall.of_data k5 (ndA fun k=>rfl) ?_
   conv=>whnf
   refine QCall.of_data k6 (ndA fun k=>rfl) ?_
   conv=>whnf
   refine QCall.of_data k3 (ndA fun k=>rfl) ?_
   conv=>whnf
   refine ⟨by omega,?_⟩
   conv=>whnf
   refine ⟨_,y2,?_⟩
   conv=>whnf
   refine ⟨by rw [cQ_len,l2];show n+0 < N;omega,?_⟩
   conv=>whnf
   refine Wr.i64 (y:=((n+1:Nat):Int)) rfl (by omega) (by omega) ?_
   conv=>whnf
   refine ⟨n+1,h,by show N - (n+1) < N - n;omega,⟨rfl,rfl,rfl,rfl,rfl,trivial⟩,?_,rfl,trivial⟩
   exact congrArg (Ob.mat 3 (ixQ N N)) y3
 ·have h:n=N:=by simp only [decide_eq_false_iff_not] at h;omega
  rw [h]
  conv=>whnf
  exact ⟨⟨rfl,rfl,rfl,rfl,rfl⟩,[],rfl,trivial,rfl⟩
theorem chainP_sq (m:Mo) (a:Nat→Bool):∀i,i < m.room+1→((chainP m a).getD i []).length=m.room+1:=fun i hi=>by rw [chainP_at hi,rowP_len]
theorem fn_chain (m:Mo) (hm:m.Ok) (acts:List Bool) (ha:acts.length=m.room):Fn Tryz.prog 74 [moI m,lBo acts] [] (lM (chainP m (acts.getD · false))) [] :=
 freezeSq (fn_chain0 m hm acts ha) (chainP_len _ _) (chainP_sq _ _)
theorem Fn.freezeMA {P:Program} {f:FuncId} {xs:List AV} {lo n sz:Nat} {ix:List MC} {rows:List (List (List C))} (h:Fn P f xs [] (.ag [.ls 0 lo n 1]) [(0,.mat sz ix rows)]) (hn:n+lo≤ix.length) (hin:matIn rows ix):Fn P f xs [] (.ag [.d (.sl (((matD rows ix).drop lo).take n))]) [] where
 en:=h.en
 out:=fun κ ρ w vs hm hs hv=>(h.out κ ρ w vs hm hs hv).mono fun e w' ⟨v,κ',ρ',h1,h2,h3,h4⟩=>by
  have hob:=h3.ob 0
  obtain ⟨L,hL,_⟩:=hob
  obtain ⟨κ'',g1,g2,_,g4⟩:=h3.freezeM (id:=0) rfl hL hin
  obtain ⟨us,rfl,hn',ho,hu⟩:=h4.agg
  refine ⟨_,κ'',_,h1,Know.le_trans h2 g1,g2,.ag us _ (by simpa using hn') ho fun k u c hk hc=>?_⟩
  cases k with
  | zero =>
   simp at hc;subst hc
   exact g4 u lo n (hu 0 u _ hk rfl) hn
  | succ k=>simp at hc
theorem cRS_getD {R:Mt} {i:Nat} (h:i < R.length):(cRS R).getD i []=cS (R.getD i []):=by
 rw [List.getD_eq_getElem?_getD,cRS_at h rfl];rfl
theorem matDS_ixQ {R:Mt} {n w:Nat} (hn:R.length=n) (hw:∀i,i < n→(R.getD i []).length=w):matD (cRS R) (ixQ n w)=cMS R:=by
 have:=matD_map (cRS R) (fun i=>.r i 0 w) (fun i=>[.sl (cS (R.getD i []))]) (List.range n) fun k hk=>by
  have hk:k < n:=by simpa using hk
  show [[C.sl ((((cRS R).getD k []).drop 0).take w)]]=[[.sl (cS (R.getD k []))]]
  rw [cRS_getD (by omega),List.drop_zero,List.take_of_length_le (by rw [cS_len,hw k hk];exact Nat.le_refl _)]
 unfold ixQ
 rw [this]
 apply List.ext_getElem (by simp [cMS_len,hn])
 intro i h1 h2
 have hi:i < R.length:=by rw [cMS_len] at h2;exact h2
 simp [cMS,hi]
theorem matInS_ixQ {R:Mt} {n w:Nat} (hn:R.length=n) (hw:∀i,i < n→(R.getD i []).length=w):matIn (cRS R) (ixQ n w):=fun i lo m hm=>by
 obtain ⟨k,hk,e⟩:=List.mem_map.1 hm
 have hk:k < n:=by simpa using hk
 cases e
 rw [cRS_getD (by omega),cS_len,hw _ hk]
 omega
def firP (m:Mo) (a:Nat→Bool) (n:Nat):Mt:=(List.range n).map (rowP m a)
theorem firP_len (m:Mo) (a:Nat→Bool) (n:Nat):(firP m a n).length=n:=by simp [firP]
theorem firP_next (m:Mo) (a:Nat→Bool) (n:Nat):cRS (firP m a (n+1))=cRS (firP m a n)++[cS (rowP m a n)]:=by unfold firP cRS;rw [List.range_succ,List.map_append,List.map_append];rfl
def firL (m:Mo) (a:Nat→Bool) (N:Nat):Nat→LL
 | 0=>[(5,.box true [.d (.s (.slice none 0 0))]),(4,.box true [.d (.s (.slice none 0 0))])]
 | k+1=>[(200,.mat 3 (ixQ (k+1) N) (cRS (firP m a (k+1)))),(5,.box true [.ls 200 0 (k+1) 1]),(4,.box true [.d (.s (.slice none 0 0))])]
theorem fn_sChain0 (m:Mo) (hm:m.Ok) (acts:List Bool) (ha:acts.length=m.room):Fn Tryz.prog 71 [moP m,lBo acts] [] (.ag [.ls 0 0 (m.room+1) 1]) [(0,.mat 3 (ixQ (m.room+1) (m.room+1)) (cRS (chainP m (acts.getD · false))))]:=by
 have r2:=hm.r2
 have cz:=fn_sZeros m (by omega)
 obtain ⟨a,ea'⟩:∃a:Nat→Bool,(acts.getD · false)=a:=⟨_,rfl⟩
 have ea:∀n,acts.getD n false=a n:=fun n=>by rw [←ea']
 rw [ea',show chainP m a=firP m a (m.room+1) from rfl]
 obtain ⟨N,eN⟩:∃N,m.room+1=N:=⟨_,rfl⟩
 rw [eN] at cz ⊢
 refine Fn.intro (ks:=[0,1,4,5,6,7,14,27,59]) hty rfl rfl rfl rfl rfl ?_
 conv=>whnf
 refine VLoop.invR hty (S:=Nat) [(84,200)] (fun k=>[(6,I k),(5,.lp 5 0),(4,.lp 4 0),(1,lBo acts),(0,moP m)]) (firL m a N)
  (fun k=>k≤N) (fun k=>N - k) 0 (Nat.zero_le _) ⟨rfl,rfl,rfl,rfl,rfl,trivial⟩ ⟨rfl,rfl,trivial⟩ ?_
 rintro (_ | k) hk
 ·have h:0 < N:=by omega
  conv=>whnf
  ·
   obtain ⟨z0,ez0⟩:∃z0:List Rat,List.replicate (m.room+1) 0=z0:=⟨_,rfl⟩
   have z0l:z0.length=N:=by rw [←ez0,List.length_replicate];exact eN
   have z0at:∀j,z0.getD j 0=0:=fun j=>by rw [←ez0];exact rep_getD _ _
   have cz':=cz
   rw [show zeroQ m=z0 from ez0] at cz'
   obtain ⟨r1,e1⟩:∃r1,r1=(List.replicate (m.room+1) (0:Rat)).set 0 m.stay:=⟨_,rfl⟩
   obtain ⟨r2',e2⟩:∃r2,r2=if 0 < 0 then r1.set (0 - 1) m.serve else r1.set 0 (r1.getD 0 0+m.serve):=⟨_,rfl⟩
   obtain ⟨r3,e3⟩:∃r3,r3=if 0 < m.room∧a 0=true then r2'.set (0+1) m.come else r2'.set 0 (r2'.getD 0 0+m.come):=⟨_,rfl⟩
   have er:=rowP_lay2 m a (n:=0) (by omega) e1 e2 e3
   rw [ez0] at e1
   have l1:r1.length=N:=by rw [e1,List.length_set,z0l]
   have l2:r2'.length=N:=by rw [e2];split <;> rw [List.length_set,l1]
   have s1:∀j,sz (r1.getD j 0)≤1603:=fun j=>by
    rw [e1,gsetD (by rw [z0l];exact h)]
    split
    ·exact hm.zt
    ·rw [z0at];exact Nat.le_trans (by decide:sz (0:Rat)≤1) (by decide)
   have s2:∀j,sz (r2'.getD j 0)≤3000:=fun j=>by
    rw [e2]
    split
    ·rw [gsetD (by rw [l1];omega)]
     split
     ·have:=hm.zs;omega
     ·have:=s1 j;omega
    ·rw [gsetD (by rw [l1];exact h)]
     split
     ·have:=sz_add (r1.getD 0 0) m.serve;have:=s1 0;have:=hm.zs;omega
     ·have:=s1 j;omega
   have k1:=fn_sSum (r1.getD 0 0) m.serve (by have:=s1 0;have:=hm.zs;omega)
   have k2:=fn_sSum (r2'.getD 0 0) m.come (by have:=s2 0;have:=hm.zc;omega)
   have w1:((cS z0).set 0 (c1S m.stay))[0]? = some (c1S (r1.getD 0 0)):=by rw [cS_set,←e1];exact cS_as (by rw [l1];exact h) rfl
   have v2:((cS z0).set 0 (c1S m.stay)).set 0 (c1S (r1.getD 0 0+m.serve))=cS r2':=by rw [cS_set,←e1,cS_set,e2,if_neg (by omega)]
   have w2:(((cS z0).set 0 (c1S m.stay)).set 0 (c1S (r1.getD 0 0+m.serve)))[0]? = some (c1S (r2'.getD 0 0)):=by rw [v2];exact cS_as (by rw [l2];exact h) rfl
   have vl:(((cS z0).set 0 (c1S m.stay)).set 0 (c1S (r1.getD 0 0+m.serve))).length=N:=by rw [v2,cS_len,l2]
   refine VCall.of_ls (k:=18) cz' rfl ?_
   conv=>whnf
   refine ⟨by omega,?_⟩
   conv=>whnf
   refine ⟨by rw [cS_len,z0l];show 0+0 < N;omega,?_⟩
   conv=>whnf
   refine VDraw.go hmo hty 12 [] rfl ?_
   conv=>whnf
   refine ⟨by omega,?_⟩
   conv=>whnf
   refine ⟨_,w1,?_⟩
   conv=>whnf
   refine QCall.of_data k1 (ndA fun k=>rfl) ?_
   conv=>whnf
   refine ⟨by omega,?_⟩
   conv=>whnf
   refine ⟨by rw [List.length_set,cS_len,z0l];show 0+0 < N;omega,?_⟩
   conv=>whnf
   by_cases hr:0 < m.room
   ·rw [decide_eq_true (show ((0:Nat):Int) < (m.room:Int) by omega)]
    conv=>whnf
    refine ⟨⟨⟨by omega,by rw [cBo_len];omega⟩,cBo_sz _⟩,?_⟩
    conv=>whnf
    refine ⟨_,cBo_as (x:=a 0) (by omega) (ea _),?_⟩
    conv=>whnf
    cases hact:a 0 with
    | true =>
     have v3:(((cS z0).set 0 (c1S m.stay)).set 0 (c1S (r1.getD 0 0+m.serve))).set (0+1) (c1S m.come)=cS (rowP m a 0):=by rw [v2,cS_set,←er,e3,if_pos ⟨hr,hact⟩]
     conv=>whnf
     refine Wr.i64 (y:=((0+1:Nat):Int)) rfl (by omega) (by omega) ?_
     conv=>whnf
     refine ⟨by omega,?_⟩
     conv=>whnf
     refine ⟨by refine Nat.lt_of_lt_of_eq ?_ vl.symm;show 0+1+0 < N;omega,?_⟩
     conv=>whnf
     refine ⟨by decide,?_⟩
     conv=>whnf
     refine Wr.i64 (y:=((0+1:Nat):Int)) rfl (by omega) (by omega) ?_
     conv=>whnf
     refine ⟨0+1,h,by show N - (0+1) < N - 0;omega,rfl,?_⟩
     conv=>whnf
     refine ⟨⟨rfl,rfl,rfl,rfl,rfl,trivial⟩,⟨?_,rfl,rfl,trivial⟩⟩
     show Ob.mat 3 _ _=Ob.mat 3 (ixQ (0+1) N) (cRS (firP m a (0+1)))
     conv=>rhs;rw [firP_next m a (0),ixQ_snoc,←v3]
     first | rfl | (rw [cRS_len,firP_len];rfl)
    | false =>
     have v3:(((cS z0).set 0 (c1S m.stay)).set 0 (c1S (r1.getD 0 0+m.serve))).set 0 (c1S (r2'.getD 0 0+m.come))=cS (rowP m a 0):=by rw [v2,cS_set,←er,e3,if_neg (by rw [hact];simp)]
     conv=>whnf
     refine VDraw.go hmo hty 12 [] rfl ?_
     conv=>whnf
     refine ⟨by omega,?_⟩
     conv=>whnf
     refine ⟨_,w2,?_⟩
     conv=>whnf
     refine QCall.of_data k2 (ndA fun k=>rfl) ?_
     conv=>whnf
     refine ⟨by omega,?_⟩
     conv=>whnf
     refine ⟨by refine Nat.lt_of_lt_of_eq ?_ vl.symm;show 0+0 < N;omega,?_⟩
     conv=>whnf
     refine ⟨by decide,?_⟩
     conv=>whnf
     refine Wr.i64 (y:=((0+1:Nat):Int)) rfl (by omega) (by omega) ?_
     conv=>whnf
     refine ⟨0+1,h,by show N - (0+1) < N - 0;omega,rfl,?_⟩
     conv=>whnf
     refine ⟨⟨rfl,rfl,rfl,rfl,rfl,trivial⟩,⟨?_,rfl,rfl,trivial⟩⟩
     show Ob.mat 3 _ _=Ob.mat 3 (ixQ (0+1) N) (cRS (firP m a (0+1)))
     conv=>rhs;rw [firP_next m a (0),ixQ_snoc,←v3]
     first | rfl | (rw [cRS_len,firP_len];rfl)
   ·have v3:(((cS z0).set 0 (c1S m.stay)).set 0 (c1S (r1.getD 0 0+m.serve))).set 0 (c1S (r2'.getD 0 0+m.come))=cS (rowP m a 0):=by rw [v2,cS_set,←er,e3,if_neg (fun e=>hr e.1)]
    rw [decide_eq_false (show ¬((0:Nat):Int) < (m.room:Int) by omega)]
    conv=>whnf
    refine VDraw.go hmo hty 12 [] rfl ?_
    conv=>whnf
    refine ⟨by omega,?_⟩
    conv=>whnf
    refine ⟨_,w2,?_⟩
    conv=>whnf
    refine QCall.of_data k2 (ndA fun k=>rfl) ?_
    conv=>whnf
    refine ⟨by omega,?_⟩
    conv=>whnf
    refine ⟨by refine Nat.lt_of_lt_of_eq ?_ vl.symm;show 0+0 < N;omega,?_⟩
    conv=>whnf
    refine ⟨by decide,?_⟩
    conv=>whnf
    refine Wr.i64 (y:=((0+1:Nat):Int)) rfl (by omega) (by omega) ?_
    conv=>whnf
    refine ⟨0+1,h,by show N - (0+1) < N - 0;omega,rfl,?_⟩
    conv=>whnf
    refine ⟨⟨rfl,rfl,rfl,rfl,rfl,trivial⟩,⟨?_,rfl,rfl,trivial⟩⟩
    show Ob.mat 3 _ _=Ob.mat 3 (ixQ (0+1) N) (cRS (firP m a (0+1)))
    conv=>rhs;rw [firP_next m a (0),ixQ_snoc,←v3]
    first | rfl | (rw [cRS_len,firP_len];rfl)
 ·conv=>whnf
  refine Br.mk (fun h=>?_) (fun h=>?_)
  ·have h:k+1 < N:=by simp only [decide_eq_true_eq] at h;omega
   conv=>whnf
   ·
    obtain ⟨z0,ez0⟩:∃z0:List Rat,List.replicate (m.room+1) 0=z0:=⟨_,rfl⟩
    have z0l:z0.length=N:=by rw [←ez0,List.length_replicate];exact eN
    have z0at:∀j,z0.getD j 0=0:=fun j=>by rw [←ez0];exact rep_getD _ _
    have cz':=cz
    rw [show zeroQ m=z0 from ez0] at cz'
    obtain ⟨r1,e1⟩:∃r1,r1=(List.replicate (m.room+1) (0:Rat)).set (k+1) m.stay:=⟨_,rfl⟩
    obtain ⟨r2',e2⟩:∃r2,r2=if 0 < (k+1) then r1.set ((k+1) - 1) m.serve else r1.set (k+1) (r1.getD (k+1) 0+m.serve):=⟨_,rfl⟩
    obtain ⟨r3,e3⟩:∃r3,r3=if (k+1) < m.room∧a (k+1)=true then r2'.set ((k+1)+1) m.come else r2'.set (k+1) (r2'.getD (k+1) 0+m.come):=⟨_,rfl⟩
    have er:=rowP_lay2 m a (n:=(k+1)) (by omega) e1 e2 e3
    rw [ez0] at e1
    have l1:r1.length=N:=by rw [e1,List.length_set,z0l]
    have l2:r2'.length=N:=by rw [e2];split <;> rw [List.length_set,l1]
    have s1:∀j,sz (r1.getD j 0)≤1603:=fun j=>by
     rw [e1,gsetD (by rw [z0l];exact h)]
     split
     ·exact hm.zt
     ·rw [z0at];exact Nat.le_trans (by decide:sz (0:Rat)≤1) (by decide)
    have s2:∀j,sz (r2'.getD j 0)≤3000:=fun j=>by
     rw [e2]
     split
     ·rw [gsetD (by rw [l1];omega)]
      split
      ·have:=hm.zs;omega
      ·have:=s1 j;omega
     ·rw [gsetD (by rw [l1];exact h)]
      split
      ·have:=sz_add (r1.getD (k+1) 0) m.serve;have:=s1 (k+1);have:=hm.zs;omega
      ·have:=s1 j;omega
    have k1:=fn_sSum (r1.getD (k+1) 0) m.serve (by have:=s1 (k+1);have:=hm.zs;omega)
    have k2:=fn_sSum (r2'.getD (k+1) 0) m.come (by have:=s2 (k+1);have:=hm.zc;omega)
    have w1:((cS z0).set (k+1) (c1S m.stay))[(k+1)]? = some (c1S (r1.getD (k+1) 0)):=by rw [cS_set,←e1];exact cS_as (by rw [l1];exact h) rfl
    have v2:((cS z0).set (k+1) (c1S m.stay)).set k (c1S m.serve)=cS r2':=by rw [cS_set,←e1,cS_set,e2,if_pos (by omega)];rfl
    have w2:(((cS z0).set (k+1) (c1S m.stay)).set k (c1S m.serve))[(k+1)]? = some (c1S (r2'.getD (k+1) 0)):=by rw [v2];exact cS_as (by rw [l2];exact h) rfl
    have vl:(((cS z0).set (k+1) (c1S m.stay)).set k (c1S m.serve)).length=N:=by rw [v2,cS_len,l2]
    refine VCall.of_ls (k:=18) cz' rfl ?_
    conv=>whnf
    refine ⟨by omega,?_⟩
    conv=>whnf
    refine ⟨by rw [cS_len,z0l];show (k+1)+0 < N;omega,?_⟩
    conv=>whnf
    rw [decide_eq_true (show (0:Int) < ((k+1:Nat):Int) by omega)]
    conv=>whnf
    refine Wr.i64 (y:=(k:Int)) (by omega) (by omega) (by omega) ?_
    conv=>whnf
    refine ⟨by omega,?_⟩
    conv=>whnf
    refine ⟨by rw [List.length_set,cS_len,z0l];show k+0 < N;omega,?_⟩
    conv=>whnf
    by_cases hr:(k+1) < m.room
    ·rw [decide_eq_true (show (((k+1):Nat):Int) < (m.room:Int) by omega)]
     conv=>whnf
     refine ⟨⟨⟨by omega,by rw [cBo_len];omega⟩,cBo_sz _⟩,?_⟩
     conv=>whnf
     refine ⟨_,cBo_as (x:=a (k+1)) (by omega) (ea _),?_⟩
     conv=>whnf
     cases hact:a (k+1) with
     | true =>
      have v3:(((cS z0).set (k+1) (c1S m.stay)).set k (c1S m.serve)).set ((k+1)+1) (c1S m.come)=cS (rowP m a (k+1)):=by rw [v2,cS_set,←er,e3,if_pos ⟨hr,hact⟩]
      conv=>whnf
      refine Wr.i64 (y:=(((k+1)+1:Nat):Int)) rfl (by omega) (by omega) ?_
      conv=>whnf
      refine ⟨by omega,?_⟩
      conv=>whnf
      refine ⟨by refine Nat.lt_of_lt_of_eq ?_ vl.symm;show (k+1)+1+0 < N;omega,?_⟩
      conv=>whnf
      refine ⟨⟨by rw [ixQ_len],by show (k+1+1)*24≤_;omega⟩,?_⟩
      conv=>whnf
      refine Wr.i64 (y:=(((k+1)+1:Nat):Int)) rfl (by omega) (by omega) ?_
      conv=>whnf
      refine ⟨(k+1)+1,h,by show N - ((k+1)+1) < N - (k+1);omega,rfl,?_⟩
      conv=>whnf
      refine ⟨⟨rfl,rfl,rfl,rfl,rfl,trivial⟩,⟨?_,rfl,rfl,trivial⟩⟩
      show Ob.mat 3 _ _=Ob.mat 3 (ixQ ((k+1)+1) N) (cRS (firP m a ((k+1)+1)))
      conv=>rhs;rw [firP_next m a ((k+1)),ixQ_snoc,←v3]
      first | rfl | (rw [cRS_len,firP_len];rfl)
     | false =>
      have v3:(((cS z0).set (k+1) (c1S m.stay)).set k (c1S m.serve)).set (k+1) (c1S (r2'.getD (k+1) 0+m.come))=cS (rowP m a (k+1)):=by rw [v2,cS_set,←er,e3,if_neg (by rw [hact];simp)]
      conv=>whnf
      refine VDraw.go hmo hty 12 [] rfl ?_
      conv=>whnf
      refine ⟨by omega,?_⟩
      conv=>whnf
      refine ⟨_,w2,?_⟩
      conv=>whnf
      refine QCall.of_data k2 (ndA fun k=>rfl) ?_
      conv=>whnf
      refine ⟨by omega,?_⟩
      conv=>whnf
      refine ⟨by refine Nat.lt_of_lt_of_eq ?_ vl.symm;show (k+1)+0 < N;omega,?_⟩
      conv=>whnf
      refine ⟨⟨by rw [ixQ_len],by show (k+1+1)*24≤_;omega⟩,?_⟩
      conv=>whnf
      refine Wr.i64 (y:=(((k+1)+1:Nat):Int)) rfl (by omega) (by omega) ?_
      conv=>whnf
      refine ⟨(k+1)+1,h,by show N - ((k+1)+1) < N - (k+1);omega,rfl,?_⟩
      conv=>whnf
      refine ⟨⟨rfl,rfl,rfl,rfl,rfl,trivial⟩,⟨?_,rfl,rfl,trivial⟩⟩
      show Ob.mat 3 _ _=Ob.mat 3 (ixQ ((k+1)+1) N) (cRS (firP m a ((k+1)+1)))
      conv=>rhs;rw [firP_next m a ((k+1)),ixQ_snoc,←v3]
      first | rfl | (rw [cRS_len,firP_len];rfl)
    ·have v3:(((cS z0).set (k+1) (c1S m.stay)).set k (c1S m.serve)).set (k+1) (c1S (r2'.getD (k+1) 0+m.come))=cS (rowP m a (k+1)):=by rw [v2,cS_set,←er,e3,if_neg (fun e=>hr e.1)]
     rw [decide_eq_false (show ¬(((k+1):Nat):Int) < (m.room:Int) by omega)]
     conv=>whnf
     refine VDraw.go hmo hty 12 [] rfl ?_
     conv=>whnf
     refine ⟨by omega,?_⟩
     conv=>whnf
     refine ⟨_,w2,?_⟩
     conv=>whnf
     refine QCall.of_data k2 (ndA fun k=>rfl) ?_
     conv=>whnf
     refine ⟨by omega,?_⟩
     conv=>whnf
     refine ⟨by refine Nat.lt_of_lt_of_eq ?_ vl.symm;show (k+1)+0 < N;omega,?_⟩
     conv=>whnf
     refine ⟨⟨by rw [ixQ_len],by show (k+1+1)*24≤_;omega⟩,?_⟩
     conv=>whnf
     refine Wr.i64 (y:=(((k+1)+1:Nat):Int)) rfl (by omega) (by omega) ?_
     conv=>whnf
     refine ⟨(k+1)+1,h,by show N - ((k+1)+1) < N - (k+1);omega,rfl,?_⟩
     conv=>whnf
     refine ⟨⟨rfl,rfl,rfl,rfl,rfl,trivial⟩,⟨?_,rfl,rfl,trivial⟩⟩
     show Ob.mat 3 _ _=Ob.mat 3 (ixQ ((k+1)+1) N) (cRS (firP m a ((k+1)+1)))
     conv=>rhs;rw [firP_next m a ((k+1)),ixQ_snoc,←v3]
     first | rfl | (rw [cRS_len,firP_len];rfl)
  ·have h:k+1=N:=by simp only [decide_eq_false_iff_not] at h;omega
   subst h
   conv=>whnf
   exact ⟨⟨rfl,rfl,rfl,rfl,rfl⟩,_,rfl,trivial,rfl⟩
theorem fn_sChain (m:Mo) (hm:m.Ok) (acts:List Bool) (ha:acts.length=m.room):Fn Tryz.prog 71 [moP m,lBo acts] [] (mS (chainP m (acts.getD · false))) []:=by
 have:=(fn_sChain0 m hm acts ha).freezeMA (by rw [ixQ_len];omega) (matInS_ixQ (chainP_len _ _) (chainP_sq _ _))
 rwa [matDS_ixQ (chainP_len _ _) (chainP_sq _ _),List.drop_zero,List.take_of_length_le (by rw [cMS_len,chainP_len];omega)] at this
end Go.V
namespace Go.V
open Go.Proofs Go.RowKit
set_option maxRecDepth 10000
set_option maxHeartbeats 1000000
end Go.V
namespace Go.V
def cf (S:List Bool):Nat:=(S.filter fun b=>!b).length
theorem cf_set:∀{S:List Bool} {j:Nat},j < S.length→S.getD j false=false→cf (S.set j true)+1=cf S
 | b :: S,0,_,h=>by
  have:b=false:=by simpa using h
  subst this
  simp [cf]
 | b :: S,j+1,hj,h=>by
  have ih:=cf_set (S:=S) (j:=j) (by simpa using hj) (by simpa using h)
  unfold cf at ih ⊢
  cases b <;> simp at ih ⊢ <;> omega
theorem cf_rep (n:Nat):cf (List.replicate n false)=n:=by
 induction n with
 | zero=>rfl
 | succ n ih=>unfold cf at ih ⊢;rw [List.replicate_succ];simp
theorem seen_all {n i:Nat} {m:Fm} {S:List Bool} (hl:S.length=n) (hi:i < n) (h0:S.getD i false=true) (h1:∀x,x < n→S.getD x false=true→Rc n m i x)
  (h2:∀x y,x < n→y < n→S.getD x false=true→0 < m x y→S.getD y false=true):S=(List.range n).map (rb n m i):=by
 apply List.ext_getElem (by simp [hl])
 intro x hx _
 have hxn:x < n:=by omega
 have e:S.getD x false=S[x]:=by rw [List.getD_eq_getElem?_getD,List.getElem?_eq_getElem hx];rfl
 rw [List.getElem_map,List.getElem_range,←e]
 cases hs:S.getD x false with
 | true=>exact (rb_iff.2 (h1 x hxn hs)).symm
 | false =>
  cases hr:rb n m i x with
  | false=>rfl
  | true =>
   have:=(rb_iff.1 hr).keep (T:=fun x=>S.getD x false=true) (fun a b ha hb h3 h4=>h2 a b ha hb h3 h4) hi h0
   rw [hs] at this;cases this
structure Bf (n i:Nat) (m:Fm) (S:List Bool) (Q:List Nat):Prop where
 len:S.length=n
 bound:cf S+Q.length≤n
 wait:∀x,x∈Q→x < n∧S.getD x false=true
 own:S.getD i false=true
 path:∀x,x < n→S.getD x false=true→Rc n m i x
def Dn (n:Nat) (m:Fm) (S:List Bool) (x:Nat):Prop:=∀y,y < n→0 < m x y→S.getD y false=true
theorem Bf.init {n i:Nat} {m:Fm} (hi:i < n):Bf n i m ((List.replicate n false).set i true) [i]:=by
 have hr:∀x,(List.replicate n false).getD x false=false:=fun x=>by rw [List.getD_eq_getElem?_getD,List.getElem?_replicate];split <;> rfl
 have hs:∀x,((List.replicate n false).set i true).getD x false=if x=i then true else (List.replicate n false).getD x false:=fun x=>gsetD (by simpa using hi)
 have hc:=cf_set (S:=List.replicate n false) (j:=i) (by simpa using hi) (hr i)
 rw [cf_rep] at hc
 refine ⟨by simp,by simp;omega,fun x hx=>?_,by rw [hs,if_pos rfl],fun x hx h=>?_⟩
 ·rw [List.mem_singleton.1 hx];exact ⟨hi,by rw [hs,if_pos rfl]⟩
 ·rw [hs,hr] at h
  by_cases e:x=i
  ·subst e;exact .refl
  ·rw [if_neg e] at h;cases h
theorem Bf.push {n i a j:Nat} {m:Fm} {S:List Bool} {Q:List Nat} (h:Bf n i m S Q) (ha:a < n) (hsa:S.getD a false=true) (hj:j < n) (h0:0 < m a j) (hs:S.getD j false=false):Bf n i m (S.set j true) (Q++[j]):=by
 have hg:∀x,(S.set j true).getD x false=if x=j then true else S.getD x false:=fun x=>gsetD (by rw [h.len];exact hj)
 have hc:=cf_set (S:=S) (j:=j) (by rw [h.len];exact hj) hs
 have hb:=h.bound
 refine ⟨by rw [List.length_set,h.len],by rw [List.length_append,List.length_singleton];omega,fun x hx=>?_,?_,fun x hx hh=>?_⟩
 ·rw [hg]
  rcases List.mem_append.1 hx with e | e
  ·have:=h.wait x e
   exact ⟨this.1,by split;rfl;exact this.2⟩
  ·rw [List.mem_singleton.1 e];exact ⟨hj,if_pos rfl⟩
 ·rw [hg];split;rfl;exact h.own
 ·rw [hg] at hh
  by_cases e:x=j
  ·subst e;exact (h.path a ha hsa).step hj h0
  ·rw [if_neg e] at hh;exact h.path x hx hh
theorem Dn.mono {n j x:Nat} {m:Fm} {S:List Bool} (hS:j < S.length) (h:Dn n m S x):Dn n m (S.set j true) x:=fun y hy h1=>by
 rw [gsetD hS];split;rfl;exact h y hy h1
theorem Bf.fin {n i:Nat} {m:Fm} {S:List Bool} {Q:List Nat} (h:Bf n i m S Q) (hi:i < n) (hd:∀x,x < n→S.getD x false=true→Dn n m S x):S=(List.range n).map (rb n m i) :=
 seen_all h.len hi h.own h.path fun x y hx hy h1 h2=>hd x hx h1 y hy h2
end Go.V
namespace Go.V
open Go.Proofs Go.RowKit
set_option maxRecDepth 10000
set_option maxHeartbeats 1000000
end Go.V
namespace Go.V
open Go.Proofs Go.RowKit
set_option maxRecDepth 10000
set_option maxHeartbeats 1000000
end Go.V
namespace Go.V
mutual
def AV.okB (id:Nat):AV→Bool
 | .ls k lo n _=>!Nat.beq k id || Nat.blt 0 (lo+n)
 | .ap k _ _=>!Nat.beq k id
 | .ms k _ _ _ _=>!Nat.beq k id
 | .me k _ _ _ _=>!Nat.beq k id
 | .ag cs=>AV.okBs id cs
 | .tup cs=>AV.okBs id cs
 | _=>true
def AV.okBs (id:Nat):List AV→Bool
 | []=>true
 | x :: r=>AV.okB id x && AV.okBs id r
end
section
variable {P:Program} {G:Ctx} {κ:Know} {ρ:Place} {t:TL} {l:LL} {a:Act} {w:World}
end
end Go.V
namespace Go.V
section
variable {P:Program} {G:Ctx} {κ:Know} {ρ:Place} {t:TL} {l:LL} {a:Act} {w:World}
end
end Go.V
namespace Go.V
open Go.Proofs Go.RowKit
set_option maxRecDepth 10000
set_option maxHeartbeats 1000000
end Go.V
namespace Go.V
open Go.Proofs Go.RowKit
set_option maxRecDepth 10000
set_option maxHeartbeats 1000000
end Go.V
namespace Go.V
theorem one_cast:(((1:Nat):Int):Rat)=1:=rfl
theorem polR {m:Mo} (h:m.Ok) (a:Nat→Bool):MtR (chainP m a) 1601:=by
 have r1:=h.r1
 have r2:=h.r2
 obtain ⟨e1,e2⟩:=moD_bl h
 have hrow:∀r,r∈chainP m a→∃n,n < m.room+1∧r=rowP m a n:=fun r hr=>by
  obtain ⟨n,hn,rfl⟩:=List.mem_map.1 hr
  exact ⟨n,by simpa using hn,rfl⟩
 have hent:∀n q,q∈rowP m a n→∃j,j < m.room+1∧q=entP m a n j:=fun n q hq=>by
  obtain ⟨j,hj,rfl⟩:=List.mem_map.1 hq
  exact ⟨j,by simpa using hj,rfl⟩
 refine ⟨by rw [chainP_len];omega,by rw [chainP_len];omega,fun r hr=>?_,fun r hr q hq=>?_,fun r hr=>?_,fun r hr=>?_⟩
 ·obtain ⟨n,hn,rfl⟩:=hrow r hr
  rw [rowP_len,chainP_len]
 ·obtain ⟨n,hn,rfl⟩:=hrow r hr
  obtain ⟨j,hj,rfl⟩:=hent n q hq
  exact entP_pos h a n j
 ·obtain ⟨n,hn,rfl⟩:=hrow r hr
  refine RowB.of_iz e2 (by omega) 1 (by rw [Nat.one_mul];omega) fun q hq=>?_
  obtain ⟨j,hj,rfl⟩:=hent n q hq
  have g1:=entP_pos h a n j
  have g2:=entP_le h a hn hj
  rw [one_cast]
  exact ⟨entP_iz m a n j,by grind,g2⟩
 ·obtain ⟨n,hn,rfl⟩:=hrow r hr
  rw [rowP_len,←entP_sum a hn]
  exact sN_congr fun j hj=>rowP_at hj
theorem polC {m:Mo} (h:m.Ok) (a:Nat→Bool):Cl (chainP m a).length (ent (chainP m a)) 0:=by
 intro T ⟨i,hi,hT⟩ hs
 rw [chainP_len] at hi hs
 have:∀k i,i≤k→i < m.room+1→T i→T 0:=by
  intro k
  induction k with
  | zero =>
   intro i h1 _ h2
   have:i=0:=by omega
   subst this
   exact h2
  | succ k ih =>
   intro i h1 h2 h3
   by_cases e:i=0
   ·subst e;exact h3
   ·refine ih (i - 1) (by omega) (by omega) (hs i (i - 1) h2 (by omega) h3 ?_)
    rw [chainP_ent h2 (by omega)]
    have g1:=h.c0
    have g2:=h.s0
    have g3:=h.t0
    unfold entP
    rw [if_pos (rfl:i - 1=i - 1)]
    obtain ⟨x,hx,ex⟩:∃x:Rat,0≤x∧(if i - 1=(if i < m.room∧a i=true then i+1 else i) then m.come else 0)=x:=⟨_,by split <;> grind,rfl⟩
    obtain ⟨y,hy,ey⟩:∃y:Rat,0≤y∧(if i - 1=i then m.stay else 0)=y:=⟨_,by split <;> grind,rfl⟩
    rw [ex,ey]
    grind
 exact this i i (Nat.le_refl _) hi hT
def gainT (m:Mo) (a:Nat→Bool) (n:Nat):Rat:=if n < m.room∧a n=true then -(m.cost*((n:Int):Rat))+m.come*m.reward else -(m.cost*((n:Int):Rat))
theorem gainT_sz {m:Mo} (h:m.Ok) (a:Nat→Bool) {n:Nat} (hn:n < m.room+1):sz (m.cost*((n:Int):Rat))≤1000∧sz (-(m.cost*((n:Int):Rat)))≤1000∧sz (m.come*m.reward)≤1600∧sz (gainT m a n)≤3000:=by
 have r2:=h.r2
 have z0:=sz_small (n:=(n:Int)) (k:=4) (by omega) (by omega)
 have z1:=h.zk;have z2:=h.zc;have z3:=h.zw
 have m1:=sz_mul m.cost ((n:Int):Rat)
 have m2:=sz_neg (m.cost*((n:Int):Rat))
 have m3:=sz_mul m.come m.reward
 have m4:=sz_add (-(m.cost*((n:Int):Rat))) (m.come*m.reward)
 refine ⟨by omega,by omega,by omega,?_⟩
 unfold gainT
 split <;> omega
end Go.V
namespace Go.V
open Go.Proofs Go.RowKit
set_option maxRecDepth 10000
set_option maxHeartbeats 2000000
end Go.V
namespace Go.V
open Go.Proofs Go.RowKit
set_option maxRecDepth 10000
set_option maxHeartbeats 1000000
end Go.V
namespace Go.V
open Go.Proofs Go.RowKit
set_option maxRecDepth 10000
set_option maxHeartbeats 1000000
end Go.V
namespace Go.V
open Go.Proofs Go.RowKit
set_option maxRecDepth 10000
set_option maxHeartbeats 1000000
end Go.V
namespace Go.V
open Go.Proofs Go.RowKit
set_option maxRecDepth 10000
set_option maxHeartbeats 16000000
def ixW (p:List Nat) (w:Nat):List MC:=p.map fun i=>.r i 0 w
theorem ixW_len (p:List Nat) (w:Nat):(ixW p w).length=p.length:=by simp [ixW]
theorem ixW_at {p:List Nat} {w i:Nat} (h:i < p.length):(ixW p w)[i]? = some (.r (p.getD i 0) 0 w):=by
 rw [List.getD_eq_getElem?_getD,List.getElem?_eq_getElem h];simp [ixW,h]
theorem ixW_set (p:List Nat) (w i x:Nat):(ixW p w).set i (.r x 0 w)=ixW (p.set i x) w:=by unfold ixW;rw [List.map_set]
abbrev mW (p:List Nat) (R:Mt) (w:Nat):Ob:=.mat 3 (ixW p w) (cRS R)
theorem fn_sSwap (n w i k:Nat) (p:List Nat) (R:Mt) (hp:p.length=n) (hn:n≤1000000) (hi:i < n) (hk:k < n):Fn Tryz.prog 193 [.ls 1000000 0 n 1,I i,I k] [(1000000,mW p R w)] (.tup []) [(1000000,mW (swapL 0 p i k) R w)]:=by
 have xi:=ixW_at (w:=w) (show i < p.length by omega)
 have xk:=ixW_at (w:=w) (show k < p.length by omega)
 refine Fn.intro (ks:=[0,1,2,6]) hty rfl rfl rfl rfl rfl ?_
 conv=>whnf
 refine ⟨by omega,?_⟩
 conv=>whnf
 refine ⟨_,xi,?_⟩
 conv=>whnf
 refine ⟨by omega,?_⟩
 conv=>whnf
 refine ⟨_,xk,?_⟩
 conv=>whnf
 refine ⟨by omega,?_⟩
 conv=>whnf
 refine ⟨by rw [ixW_len,hp];show i+0 < n;omega,?_⟩
 conv=>whnf
 refine ⟨by omega,?_⟩
 conv=>whnf
 refine ⟨by rw [List.length_set,ixW_len,hp];show k+0 < n;omega,?_⟩
 conv=>whnf
 refine ⟨⟨?_,trivial⟩,rfl⟩
 show Ob.mat 3 (((ixW p w).set i (MC.r (p.getD k 0) 0 w)).set k (MC.r (p.getD i 0) 0 w)) (cRS R)=_
 rw [ixW_set,ixW_set];rfl
theorem VCall.par1w {P:Program} {t:TL} {l:LL} {f:FuncId} {xs xs0:List AV} {sz sz':Nat} {ix ix':List MC} {rows rows':List (List (List C))} {dst:Option Nat} {K:AV→TL→LL→Prop} (a:Nat)
  (h:Fn P f xs0 [(1000000,.mat sz ix rows)] (.tup []) [(1000000,.mat sz' ix' rows')]) (ha:argR (pmap [(1000000,a)]) xs xs0) (hl:lget a l = .mat sz ix rows)
  (hK:K (.tup []) t ((a,.mat sz' ix' rows') :: l)):VCall P f xs dst t l K :=
 VCall.of_fnR (k:=0) (pmap [(1000000,a)]) h ha ⟨⟨hl,fun p h=>absurd rfl h⟩,trivial⟩ rfl (keepRows rfl rfl) (fun _ h=>by cases h) rfl hK
theorem set_same {R:Mt} {k:Nat} {a:List Rat} (h:k < R.length) (e:R.getD k []=a):R.set k a=R:=by
 rw [←e,List.getD_eq_getElem?_getD,List.getElem?_eq_getElem h];exact List.set_getElem_self h
theorem cRS_atp {p:List Nat} {R:Mt} {n w r:Nat} (h:Plc n w p R) (hr:r < n):(cRS R)[p.getD r 0]? = some (cS (lg p R r)):=cRS_at (by rw [h.rl];exact h.lt r hr) rfl
theorem fn_sSolve (n t:Nat) (p0:List Nat) (R0:Mt) (A:Fm) (h0:Gj n t A p0 R0 0) (hA:Inj n A) (h1:1≤n) (hn:n≤12) (ht:t≤120000) :
  Fn Tryz.prog 147 [.ls 1000000 0 n 1] [(1000000,mW p0 R0 (n+1))] (.tup [.ls 0 0 n 3,B true]) [(0,.row true 3 (cS (gjX n (p0,R0)))),(1000000,mW (gjN n skJ (p0,R0) n).1 (gjN n skJ (p0,R0) n).2 (n+1))]:=by
 have hG:=fun i hi=>gjN_ok (s:=(p0,R0)) h0 hA i hi
 have hT:∀i,i≤n→2 ^ i*t≤500000000:=fun i hi=>by
  have:2 ^ i*t≤2 ^ 12*120000:=Nat.mul_le_mul (Nat.pow_le_pow_right (by decide) (by omega)) ht
  omega
 have eX:=@gjX_at n (p0,R0)
 have eXl:=gjX_len n (p0,R0)
 obtain ⟨X,eXX⟩:∃X,gjX n (p0,R0)=X:=⟨_,rfl⟩
 rw [eXX] at eXl ⊢
 have eX:∀i,i < n→X.getD i 0=lgF (gjN n skJ (p0,R0) n).1 (gjN n skJ (p0,R0) n).2 i n / lgF (gjN n skJ (p0,R0) n).1 (gjN n skJ (p0,R0) n).2 i i:=fun i hi=>by rw [←eXX];exact eX hi
 have hnx:∀i,gjN n skJ (p0,R0) (i+1)=(swapL 0 (gjN n skJ (p0,R0) i).1 i (pivF (lgF (gjN n skJ (p0,R0) i).1 (gjN n skJ (p0,R0) i).2) i (n - i) i),elimR (swapL 0 (gjN n skJ (p0,R0) i).1 i (pivF (lgF (gjN n skJ (p0,R0) i).1 (gjN n skJ (p0,R0) i).2) i (n - i) i)) i (skJ i) n (gjN n skJ (p0,R0) i).2):=fun i=>rfl
 obtain ⟨N,eN⟩:∃N:Nat→List Nat×Mt,N=gjN n skJ (p0,R0):=⟨_,rfl⟩
 have hN0:N 0=(p0,R0):=by rw [eN];rfl
 rw [←eN] at hG hnx eX ⊢
 clear eN eXX
 refine Fn.intro (ks:=[0,2,3,4,5,6,7,8,9,10,11,16,32,37,44,59,78,107]) hty rfl rfl rfl rfl rfl ?_
 conv=>whnf
 refine VLoop.inv hty (S:=Nat) (fun i=>[(5,I i),(4,I n),(0,.ls 1000000 0 n 1)]) (fun i=>[(1000000,mW (N i).1 (N i).2 (n+1))]) (fun i=>i≤n) (fun i=>n - i) 0 (Nat.zero_le _) ⟨rfl,rfl,rfl,trivial⟩ ⟨by rw [hN0];rfl,trivial⟩ ?_
 intro i hi
 conv=>whnf
 refine Br.mk (fun h=>?_) (fun h=>?_)
 ·have h:i < n:=by simp only [decide_eq_true_eq] at h;omega
  have hGi:=hG i hi
  have hGn:=hG (i+1) h
  have enx:=hnx i
  have hTi:=hT i hi
  obtain ⟨T,eT⟩:∃T,2 ^ i*t=T:=⟨_,rfl⟩
  have hrow:=hGi.row
  rw [eT] at hTi hrow
  obtain ⟨g1,g2,g3⟩:=hGi.piv hA h
  have hplc:=hGi.pl
  generalize N i=s at hGi enx hrow g1 g2 g3 hplc ⊢
  obtain ⟨p,R⟩:=s
  dsimp only at hGi enx hrow g1 g2 g3 hplc ⊢
  have hpl:=hplc.pl
  obtain ⟨kp,ekp⟩:∃kp,pivF (lgF p R) i (n - i) i=kp:=⟨_,rfl⟩
  rw [ekp] at g1 g2 g3 enx
  have hsz:∀q j,q < n→j≤n→sz (lgF p R q j) < T:=fun q j hq hj=>(hrow q hq).sz (getD_mem (by rw [hplc.wd q hq];omega))
  conv=>whnf
  refine VLoop.inv hty (S:=Nat) (fun k=>[(6,I k),(5,I i),(4,I n),(0,.ls 1000000 0 n 1)]) (fun _=>[(1000000,mW p R (n+1))]) (fun k=>k≤n∧pivF (lgF p R) i (n - k) k=kp) (fun k=>n - k) i ⟨hi,ekp⟩ ⟨rfl,rfl,rfl,rfl,trivial⟩ ⟨rfl,trivial⟩ ?_
  rintro k ⟨hk,hkp⟩
  have hkn:k < n:=by
   rcases Nat.lt_or_eq_of_le hk with e | e
   ·exact e
   ·rw [e,Nat.sub_self] at hkp
    have:n=kp:=hkp
    omega
  rw [pivF_next hkn] at hkp
  have hwk:=hplc.wd k hkn
  have c1:=fn_sZero (lgF p R k i) (by have:=hsz k i hkn (by omega);omega)
  conv=>whnf
  rw [decide_eq_true (show (k:Int) < (n:Int) by omega)]
  conv=>whnf
  refine ⟨by omega,?_⟩
  conv=>whnf
  refine ⟨_,ixW_at (w:=n+1) (i:=k) (by rw [hpl];omega),?_⟩
  conv=>whnf
  refine ⟨by omega,?_⟩
  conv=>whnf
  refine ⟨_,cRS_atp hplc hkn,?_⟩
  conv=>whnf
  refine ⟨_,cS_as (x:=lgF p R k i) (i:=i) (by omega) rfl,?_⟩
  conv=>whnf
  refine VCall.of_data c1 (nd _) ?_
  conv=>whnf
  by_cases hz:lgF p R k i=0
  ·rw [if_pos hz] at hkp
   rw [decide_eq_true hz]
   conv=>whnf
   refine Wr.i64 (y:=((k+1:Nat):Int)) rfl (by omega) (by omega) ?_
   conv=>whnf
   exact ⟨k+1,⟨hkn,hkp⟩,by show n - (k+1) < n - k;omega,⟨rfl,rfl,rfl,rfl,trivial⟩,rfl,trivial⟩
  rw [if_neg hz] at hkp
  subst hkp
  rw [decide_eq_false hz]
  conv=>whnf
  rw [decide_eq_false (show ¬(k:Int)=(n:Int) by omega)]
  conv=>whnf
  have hps:=hplc.swap h hkn
  have elgs:=fun q=>lg_swap hplc h hkn q
  have hgjn:=hGi.next h g1 hkn g3
  have csw:=fn_sSwap n (n+1) i k p R hpl (by omega) h hkn
  obtain ⟨p2,ep2⟩:∃p2,swapL 0 p i k=p2:=⟨_,rfl⟩
  rw [ep2] at hps elgs enx csw hgjn
  refine VCall.par1w 1000000 csw ⟨⟨rfl,rfl,rfl,rfl⟩,rfl,rfl,trivial⟩ rfl ?_
  conv=>whnf
  have hpl:=hps.pl
  have hszs:∀q j,q < n→j≤n→sz ((lg p2 R q).getD j 0) < T:=fun q j hq hj=>by rw [elgs];exact hsz _ j (swF_lt h hkn hq) hj
  have hdia:(lg p2 R i).getD i 0≠0:=by
   rw [elgs]
   have esw:swF i k i=k:=by unfold swF;by_cases e:i=k;rw [if_pos e];exact e;rw [if_neg e,if_pos rfl]
   rw [esw];exact g3
  have hel:=fun r hr=>elimR_is (sk:=skJ i) hps h (decide_eq_true rfl) r hr
  refine VLoop.inv hty (S:=Nat) (fun r=>[(7,I r),(5,I i),(4,I n),(0,.ls 1000000 0 n 1)]) (fun r=>[(1000000,mW p2 (elimR p2 i (skJ i) r R) (n+1))]) (fun r=>r≤n) (fun r=>n - r) 0 (Nat.zero_le _) ⟨rfl,rfl,rfl,rfl,trivial⟩ ⟨rfl,trivial⟩ ?_
  intro r hr
  conv=>whnf
  refine Br.mk (fun h2=>?_) (fun h2=>?_)
  ·have h2:r < n:=by simp only [decide_eq_true_eq] at h2;omega
   obtain ⟨q1,q2⟩:=hel r hr
   have e1:elimR p2 i (skJ i) (r+1) R=(elimR p2 i (skJ i) r R).set (p2.getD r 0) (elRow i (skJ i) (lg p2 (elimR p2 i (skJ i) r R) i) (lg p2 (elimR p2 i (skJ i) r R) r) r):=rfl
   have e2:lg p2 (elimR p2 i (skJ i) r R) r=lg p2 R r:=by rw [q2 r h2,if_neg (Nat.lt_irrefl r)]
   have e3:lg p2 (elimR p2 i (skJ i) r R) i=lg p2 R i:=by
    rw [q2 i h]
    split
    ·unfold elRow;rw [if_pos (.inl (decide_eq_true rfl))]
    ·rfl
   rw [e2,e3] at e1
   have hlt:=hps.lt r h2
   have s1:=hszs r i h2 (by omega)
   have s2:=hszs i i h (by omega)
   have al:=hps.wd r h2
   have bl:=hps.wd i h
   obtain ⟨a,ea⟩:∃a,lg p2 R r=a:=⟨_,rfl⟩
   obtain ⟨b,eb⟩:∃b,lg p2 R i=b:=⟨_,rfl⟩
   have hsa:∀j,j≤n→sz (a.getD j 0) < T:=fun j hj=>by rw [←ea];exact hszs r j h2 hj
   have hsb:∀j,j≤n→sz (b.getD j 0) < T:=fun j hj=>by rw [←eb];exact hszs i j h hj
   rw [ea] at e1 e2 s1 al
   rw [eb] at e1 e3 s2 bl hdia
   obtain ⟨Z,eZ⟩:∃Z,elimR p2 i (skJ i) r R=Z:=⟨_,rfl⟩
   rw [eZ] at q1 e1 e2 e3 ⊢
   have ya:=cRS_atp q1 h2
   have yb:=cRS_atp q1 h
   rw [e2] at ya
   rw [e3] at yb
   have hZl:=q1.rl
   conv=>whnf
   by_cases hri:r=i
   ·have e4:elimR p2 i (skJ i) (r+1) R=Z:=by
     rw [e1];unfold elRow;rw [if_pos (.inl (decide_eq_true hri))];exact set_same (by omega) e2
    rw [decide_eq_true (show (r:Int)=(i:Int) by omega)]
    conv=>whnf
    refine Wr.i64 (y:=((r+1:Nat):Int)) rfl (by omega) (by omega) ?_
    conv=>whnf
    refine ⟨r+1,h2,by show n - (r+1) < n - r;omega,⟨rfl,rfl,rfl,rfl,trivial⟩,?_,trivial⟩
    rw [e4];rfl
   rw [decide_eq_false (show ¬(r:Int)=(i:Int) by omega)]
   conv=>whnf
   refine ⟨by omega,?_⟩
   conv=>whnf
   refine ⟨_,ixW_at (w:=n+1) (i:=r) (by rw [hpl];omega),?_⟩
   conv=>whnf
   refine ⟨by omega,?_⟩
   conv=>whnf
   refine ⟨_,ya,?_⟩
   conv=>whnf
   refine ⟨_,cS_as (x:=a.getD i 0) (i:=i) (by omega) rfl,?_⟩
   conv=>whnf
   have k1:=fn_sZero (a.getD i 0) (by omega)
   refine VCall.of_data k1 (nd _) ?_
   conv=>whnf
   by_cases hz0:a.getD i 0=0
   ·have e4:elimR p2 i (skJ i) (r+1) R=Z:=by
     rw [e1];unfold elRow;rw [if_pos (.inr hz0)];exact set_same (by omega) e2
    rw [decide_eq_true hz0]
    conv=>whnf
    refine Wr.i64 (y:=((r+1:Nat):Int)) rfl (by omega) (by omega) ?_
    conv=>whnf
    refine ⟨r+1,h2,by show n - (r+1) < n - r;omega,⟨rfl,rfl,rfl,rfl,trivial⟩,?_,trivial⟩
    rw [e4];rfl
   have e4:elimR p2 i (skJ i) (r+1) R=Z.set (p2.getD r 0) (subRow i (n+1) (a.getD i 0 / b.getD i 0) b a):=by
    rw [e1];unfold elRow;rw [if_neg (by rintro (e | e);exact hri (of_decide_eq_true e);exact hz0 e),al]
   have k2:=fn_sOver (a.getD i 0) (b.getD i 0) (by omega) hdia
   have sf:=sz_div (a.getD i 0) hdia
   obtain ⟨f,ef⟩:∃f,a.getD i 0 / b.getD i 0=f:=⟨_,rfl⟩
   rw [ef] at k2 e4 sf
   rw [decide_eq_false hz0]
   conv=>whnf
   refine VDraw.go hmo hty 16 [[8],[8],[8],[8],[8],[8],[8],[8],[8],[8],[8],[8],[8],[8],[8],[]] rfl ?_
   conv=>whnf
   refine ⟨by omega,?_⟩
   conv=>whnf
   refine ⟨_,ixW_at (w:=n+1) (i:=r) (by rw [hpl];omega),?_⟩
   conv=>whnf
   refine ⟨by omega,?_⟩
   conv=>whnf
   refine ⟨_,ya,?_⟩
   conv=>whnf
   refine ⟨_,cS_as (x:=a.getD i 0) (i:=i) (by omega) rfl,?_⟩
   conv=>whnf
   refine ⟨by omega,?_⟩
   conv=>whnf
   refine ⟨_,ixW_at (w:=n+1) (i:=i) (by rw [hpl];omega),?_⟩
   conv=>whnf
   refine ⟨by omega,?_⟩
   conv=>whnf
   refine ⟨_,yb,?_⟩
   conv=>whnf
   refine ⟨_,cS_as (x:=b.getD i 0) (i:=i) (by omega) rfl,?_⟩
   conv=>whnf
   refine QCall.of_data k2 (ndA fun k=>rfl) ?_
   conv=>whnf
   refine VLoop.inv hty (S:=Nat) (fun j=>[(9,I j),(8,.lp 8 0),(7,I r),(5,I i),(4,I n),(0,.ls 1000000 0 n 1)]) (fun j=>[(8,.box true [B (ng f),nS (tp f),nS f.den]),(1000000,mW p2 (Z.set (p2.getD r 0) (subRow i j f b a)) (n+1))]) (fun j=>i≤j∧j≤n+1) (fun j=>n+1 - j) i ⟨Nat.le_refl _,by omega⟩ ⟨rfl,rfl,rfl,rfl,rfl,rfl,trivial⟩ ⟨rfl,?_,trivial⟩ ?_
   ·rw [subRow_none,set_same (by omega) e2];rfl
   rintro j ⟨hij,hj⟩
   conv=>whnf
   refine Br.mk (fun h3=>?_) (fun h3=>?_)
   ·have h3:j≤n:=by simp only [decide_eq_true_eq] at h3;omega
    have q3:=q1.set (x:=subRow i j f b a) h2 (by rw [subRow_len,al])
    have yj:=cRS_atp q3 h2
    rw [lg_set q1 h2 h2,if_pos rfl] at yj
    have yi:=cRS_atp q3 h
    rw [lg_set q1 h2 h,if_neg (Ne.symm hri),e3] at yi
    have hjl:(subRow i j f b a).length=n+1:=by rw [subRow_len,al]
    have vj:(subRow i j f b a).getD j 0=a.getD j 0:=by rw [subRow_at (by omega),if_neg (by omega)]
    have hnj:=subRow_next (f:=f) (b:=b) (a:=a) (c:=i) (m:=j) hij (by omega)
    have t1:=hsa j h3
    have t2:=hsb j h3
    have t3:=sz_mul f (b.getD j 0)
    have k3:=fn_sTimes f (b.getD j 0) (by omega)
    have k4:=fn_sMinus (a.getD j 0) (f*b.getD j 0) (by omega)
    have hZs:(Z.set (p2.getD r 0) (subRow i j f b a)).length=n:=by rw [List.length_set,hZl]
    obtain ⟨rj,erj⟩:∃rj,subRow i j f b a=rj:=⟨_,rfl⟩
    rw [erj] at yj yi hjl vj hnj hZs ⊢
    conv=>whnf
    refine VDraw.go hmo hty 23 [] rfl ?_
    conv=>whnf
    refine ⟨by omega,?_⟩
    conv=>whnf
    refine ⟨_,ixW_at (w:=n+1) (i:=r) (by rw [hpl];omega),?_⟩
    conv=>whnf
    refine ⟨by omega,?_⟩
    conv=>whnf
    refine ⟨_,ixW_at (w:=n+1) (i:=r) (by rw [hpl];omega),?_⟩
    conv=>whnf
    refine ⟨by omega,?_⟩
    conv=>whnf
    refine ⟨_,yj,?_⟩
    conv=>whnf
    refine ⟨_,cS_as (x:=a.getD j 0) (i:=j) (by omega) vj,?_⟩
    conv=>whnf
    refine ⟨by omega,?_⟩
    conv=>whnf
    refine ⟨_,ixW_at (w:=n+1) (i:=i) (by rw [hpl];omega),?_⟩
    conv=>whnf
    refine ⟨by omega,?_⟩
    conv=>whnf
    refine ⟨_,yi,?_⟩
    conv=>whnf
    refine ⟨_,cS_as (x:=b.getD j 0) (i:=j) (by omega) rfl,?_⟩
    conv=>whnf
    refine QCall.of_data k3 (ndA fun k=>rfl) ?_
    conv=>whnf
    refine QCall.of_data k4 (ndA fun k=>rfl) ?_
    conv=>whnf
    refine ⟨by omega,?_⟩
    conv=>whnf
    refine ⟨_,yj,?_⟩
    conv=>whnf
    refine ⟨by rw [cS_len,hjl];show j+0 < n+1;omega,?_⟩
    conv=>whnf
    refine Wr.i64 (y:=((j+1:Nat):Int)) rfl (by omega) (by omega) ?_
    conv=>whnf
    refine ⟨j+1,⟨by omega,by omega⟩,by show n+1 - (j+1) < n+1 - j;omega,⟨rfl,rfl,rfl,rfl,rfl,rfl,trivial⟩,rfl,?_,trivial⟩
    show Ob.mat 3 (ixW p2 (n+1)) ((cRS (Z.set (p2.getD r 0) rj)).set (p2.getD r 0) ((cS rj).set j (c1S (a.getD j 0 - f*b.getD j 0))))=mW p2 _ (n+1)
    rw [cS_set,hnj,cRS_set,List.set_set]
   ·have h3:j=n+1:=by simp only [decide_eq_false_iff_not] at h3;omega
    rw [h3,←e4]
    conv=>whnf
    refine Wr.i64 (y:=((r+1:Nat):Int)) rfl (by omega) (by omega) ?_
    conv=>whnf
    exact ⟨r+1,h2,by show n - (r+1) < n - r;omega,⟨rfl,rfl,rfl,rfl,trivial⟩,rfl,trivial⟩
  ·have h2:r=n:=by simp only [decide_eq_false_iff_not] at h2;omega
   rw [h2]
   conv=>whnf
   refine Wr.i64 (y:=((i+1:Nat):Int)) rfl (by omega) (by omega) ?_
   conv=>whnf
   refine ⟨i+1,h,by show n - (i+1) < n - i;omega,⟨rfl,rfl,rfl,trivial⟩,?_,trivial⟩
   rw [enx];rfl
 ·have h:i=n:=by simp only [decide_eq_false_iff_not] at h;omega
  have hGn:=hG n (Nat.le_refl _)
  have hTn:=hT n (Nat.le_refl _)
  obtain ⟨T,eT⟩:∃T,2 ^ n*t=T:=⟨_,rfl⟩
  have hrow:=hGn.row
  rw [eT] at hTn hrow
  have hdi:=hGn.dia
  rw [h]
  have hplc:=hGn.pl
  generalize N n=s at hrow hdi hplc eX ⊢
  obtain ⟨p,R⟩:=s
  dsimp only at hrow hdi hplc eX ⊢
  have hpl:=hplc.pl
  conv=>whnf
  refine VLoop.ren 104 127 rfl ?_
  refine VLoop.inv hty (S:=Nat) (fun i=>[(11,I i),(10,.ls 127 0 i 3),(4,I n),(0,.ls 1000000 0 n 1)]) (fun i=>[(127,.row true 3 (cS (X.take i))),(1000000,mW p R (n+1))]) (fun i=>i≤n) (fun i=>n - i) 0 (Nat.zero_le _) ⟨rfl,rfl,rfl,rfl,trivial⟩ ⟨rfl,rfl,trivial⟩ ?_
  intro i hi
  conv=>whnf
  refine Br.mk (fun h2=>?_) (fun h2=>?_)
  ·have h2:i < n:=by simp only [decide_eq_true_eq] at h2;omega
   have hw:=hplc.wd i h2
   have ya:=cRS_atp hplc h2
   have s1:sz (lgF p R i n) < T:=(hrow i h2).sz (getD_mem (by omega))
   have s2:sz (lgF p R i i) < T:=(hrow i h2).sz (getD_mem (by omega))
   have k1:=fn_sOver (lgF p R i n) (lgF p R i i) (by omega) (hdi i h2).1
   have htk:X.take (i+1)=X.take i++[lgF p R i n / lgF p R i i]:=by
    rw [List.take_succ_eq_append_getElem (by omega),←eX i h2,List.getD_eq_getElem?_getD,List.getElem?_eq_getElem (by omega)];rfl
   obtain ⟨x,ex⟩:∃x,lgF p R i n / lgF p R i i=x:=⟨_,rfl⟩
   rw [ex] at k1 htk
   have hkl:(X.take i).length=i:=by rw [List.length_take];omega
   obtain ⟨F,eF⟩:∃F,X.take i=F:=⟨_,rfl⟩
   rw [eF] at htk hkl ⊢
   conv=>whnf
   refine VDraw.go hmo hty 17 [[126],[126],[126],[126],[126],[126],[126],[126],[126],[126],[126],[126],[126],[126],[126],[126],[]] rfl ?_
   conv=>whnf
   refine ⟨by omega,?_⟩
   conv=>whnf
   refine ⟨_,ixW_at (w:=n+1) (i:=i) (by rw [hpl];omega),?_⟩
   conv=>whnf
   refine ⟨by omega,?_⟩
   conv=>whnf
   refine ⟨_,ya,?_⟩
   conv=>whnf
   refine ⟨_,cS_as (x:=lgF p R i n) (i:=n) (by omega) rfl,?_⟩
   conv=>whnf
   refine ⟨by omega,?_⟩
   conv=>whnf
   refine ⟨_,ixW_at (w:=n+1) (i:=i) (by rw [hpl];omega),?_⟩
   conv=>whnf
   refine ⟨by omega,?_⟩
   conv=>whnf
   refine ⟨_,ya,?_⟩
   conv=>whnf
   refine ⟨_,cS_as (x:=lgF p R i i) (i:=i) (by omega) rfl,?_⟩
   conv=>whnf
   refine QCall.of_data k1 (ndA fun k=>rfl) ?_
   conv=>whnf
   refine Sub.full rfl ?_
   conv=>whnf
   refine Sub.full (by rw [cS_len,hkl]) ?_
   conv=>whnf
   refine ⟨by show (i+1)*56≤_;omega,?_⟩
   conv=>whnf
   refine Wr.i64 (y:=((i+1:Nat):Int)) rfl (by omega) (by omega) ?_
   conv=>whnf
   refine ⟨i+1,h2,by show n - (i+1) < n - i;omega,⟨rfl,rfl,rfl,rfl,trivial⟩,?_,rfl,trivial⟩
   rw [htk,←cS_ap1];rfl
  ·have h2:i=n:=by simp only [decide_eq_false_iff_not] at h2;omega
   rw [h2,List.take_of_length_le (by omega)]
   conv=>whnf
   exact ⟨⟨rfl,rfl,rfl,rfl,rfl,rfl⟩,_,rfl,rfl,⟨rfl,trivial⟩,rfl⟩
end Go.V
namespace Go.V
open Go.Proofs Go.RowKit
set_option maxRecDepth 10000
set_option maxHeartbeats 16000000
theorem VCall.par1n {P:Program} {t:TL} {l:LL} {f:FuncId} {xs xs0:List AV} {sz sz' n s2:Nat} {ix ix':List MC} {rows rows':List (List (List C))} {r2:List (List C)} {dst:Option Nat} {K:AV→TL→LL→Prop} (a k:Nat)
  (h:Fn P f xs0 [(1000000,.mat sz ix rows)] (.tup [.ls 0 0 n s2,B true]) [(0,.row true s2 r2),(1000000,.mat sz' ix' rows')]) (ha:argR (pmap [(1000000,a)]) xs xs0) (hl:lget a l = .mat sz ix rows)
  (hf:freshR (pmap [(1000000,a)]) k t l [(1000000,.mat sz ix rows)] [(0,.row true s2 r2),(1000000,.mat sz' ix' rows')]=true)
  (hK:K (.tup [.ls k 0 n s2,B true]) t ((k,.row true s2 r2) :: (a,.mat sz' ix' rows') :: l)):VCall P f xs dst t l K :=
 VCall.of_fnR (k:=k) (pmap [(1000000,a)]) h ha ⟨⟨hl,fun p h=>absurd rfl h⟩,trivial⟩ rfl (fun p hp=>by
  by_cases e:p=1000000
  ·subst e;intro h2;cases h2
  ·exfalso;apply hp
   rw [lget_cons,if_neg e];rfl) (fun j hj=>by
  have h1:(AV.ment j (.tup [.ls 0 0 n s2,B true]))=(Nat.beq 0 j || (false || false)):=rfl
  rw [h1] at hj
  have:0=j:=Nat.eq_of_beq_eq_true (by simpa using hj)
  subst this;intro h2;cases h2) hf (by
  have e1:AV.ren (ret (pmap [(1000000,a)]) k) (.tup [.ls 0 0 n s2,B true]) = .tup [.ls k 0 n s2,B true]:=by
   show AV.tup [.ls (ret (pmap [(1000000,a)]) k 0) 0 n s2,B true]=_
   rfl
  rw [e1]
  have e2:retL (pmap [(1000000,a)]) k [(0,.row true s2 r2),(1000000,.mat sz' ix' rows')]=[(k,.row true s2 r2),(a,.mat sz' ix' rows')]:=rfl
  rw [e2];exact hK)
theorem mapR_next {α:Type} (f:Nat→α) (i:Nat):(List.range (i+1)).map f=(List.range i).map f++[f i]:=by rw [List.range_succ,List.map_append];rfl
end Go.V
namespace Go.V
open Go.Proofs Go.RowKit
set_option maxRecDepth 10000
set_option maxHeartbeats 2000000
end Go.V
namespace Go.V
theorem max_at (y:Nat→Rat):∀n,1≤n→∃k,k < n∧∀i,i < n→y i≤y k
 | 0,h=>by omega
 | 1,_=>⟨0,by decide,fun i hi=>by rw [show i=0 by omega];exact Rat.le_refl⟩
 | n+2,_=>by
  obtain ⟨k,hk,h⟩:=max_at y (n+1) (by omega)
  by_cases e:y k≤y (n+1)
  ·refine ⟨n+1,by omega,fun i hi=>?_⟩
   by_cases e2:i=n+1
   ·subst e2;exact Rat.le_refl
   ·have:=h i (by omega);grind
  ·refine ⟨k,by omega,fun i hi=>?_⟩
   by_cases e2:i=n+1
   ·subst e2;grind
   ·exact h i (by omega)
theorem harm_max {n:Nat} {P:Fm} (hS:Sto n P) (hc:Cl n P 0) (hn:1≤n) {y:Nat→Rat} (hy:∀i,i < n→y i=sN n fun j=>P i j*y j):∀i,i < n→y i≤y 0:=by
 obtain ⟨k,hk,hm⟩:=max_at y n hn
 have h0:y 0=y k:=hc (fun i=>y i=y k) ⟨k,hk,rfl⟩ fun i j hi hj hT hp=>by
  have h1:(sN n fun j=>P i j*(y k - y j))=0:=by
   have e1:(sN n fun j=>P i j*(y k - y j))=sN n fun j=>y k*P i j + -(P i j*y j):=sN_congr fun j _=>by grind
   rw [e1,sN_add,sN_mul,sN_neg,show (sN n fun j=>P i j)=1 from hS.one i hi,←hy i hi,hT]
   grind
  have h2:=sN_eq_zero (fun j hj=>Rat.mul_nonneg (hS.pos i j hi hj) (by have:=hm j hj;grind)) h1 j hj
  have h3:y k - y j=0:=by
   rcases Rat.mul_eq_zero.1 h2 with h | h
   ·grind
   ·exact h
  show y j=y k
  grind
 intro i hi
 rw [h0];exact hm i hi
theorem harm_const {n:Nat} {P:Fm} (hS:Sto n P) (hc:Cl n P 0) (hn:1≤n) {y:Nat→Rat} (hy:∀i,i < n→y i=sN n fun j=>P i j*y j):∀i,i < n→y i=y 0:=fun i hi=>by
 have h1:=harm_max hS hc hn hy i hi
 have h2:=harm_max hS hc hn (y:=fun i=>-y i) (fun i hi=>by
  show -y i=sN n fun j=>P i j * -y j
  rw [show (sN n fun j=>P i j * -y j)=sN n fun j=>-(P i j*y j) from sN_congr fun j _=>by grind,sN_neg,←hy i hi]) i hi
 replace h2:-y i≤-y 0:=h2
 grind
def entR (m:Mo) (a:Nat→Bool):Fm:=fun i j=>if j=m.room+1 then gainT m a i else if j=0 then 1 else if i=j then -(entP m a i j)+1 else -(entP m a i j)
theorem entR_row (m:Mo) (a:Nat→Bool) (x:Nat→Rat) {i:Nat} (hi:i < m.room+1):rowX (m.room+1) (entR m a) x i=x 0+((if i=0 then 0 else x i) + -sN (m.room+1) fun j=>entP m a i j*if j=0 then 0 else x j):=by
 have e:rowX (m.room+1) (entR m a) x i=sN (m.room+1) fun j=>(if j=0 then (fun _=>x 0) j else 0)+((if j=i then (fun j=>if j=0 then 0 else x j) j else 0) + -(entP m a i j*if j=0 then 0 else x j)):=by
  refine sN_congr fun j hj=>?_
  unfold entR
  rw [if_neg (by omega)]
  by_cases h0:j=0
  ·subst h0
   rw [if_pos rfl,if_pos rfl,if_pos rfl]
   by_cases h1:(0:Nat)=i
   ·rw [if_pos h1];simp;grind
   ·rw [if_neg h1];simp;grind
  ·rw [if_neg h0,if_neg h0,if_neg h0]
   by_cases h1:i=j
   ·rw [if_pos h1,if_pos h1.symm];show _=(0:Rat)+((if j=0 then 0 else x j)+_);rw [if_neg h0];grind
   ·rw [if_neg h1,if_neg (Ne.symm h1)];grind
 rw [e,sN_add,sN_delta,if_pos (by omega),sN_add,sN_delta,if_pos hi,sN_neg]
theorem relInj {m:Mo} (h:m.Ok) (a:Nat→Bool):Inj (m.room+1) (entR m a):=by
 have hM:=polR h a
 have hC:=polC h a
 have g:=hM.rest (s:=0) (by rw [chainP_len];omega) hC
 obtain ⟨g1,_,g3,_⟩:=g
 have hS:=hM.sto
 rw [chainP_len] at g1 g3 hS hC
 have hent:∀i j,i < m.room+1→j < m.room+1→ent (chainP m a) i j=entP m a i j:=fun i j hi hj=>chainP_ent hi hj
 have hS:=hS.congr hent
 have hC:=hC.congr hent
 intro x hx
 obtain ⟨y,ey⟩:∃y:Nat→Rat,(fun j=>if j=0 then 0 else x j)=y:=⟨_,rfl⟩
 have hy0:y 0=0:=by rw [←ey];rfl
 have hyj:∀j,j≠0→y j=x j:=fun j hj=>by rw [←ey];exact if_neg hj
 have hr:∀i,i < m.room+1→x 0+(y i + -sN (m.room+1) fun j=>entP m a i j*y j)=0:=fun i hi=>by
  have:=hx i hi
  rw [entR_row m a x hi] at this
  rw [←ey]
  exact this
 obtain ⟨u,eu⟩:∃u:Nat→Rat,(fun i=>(restQ (chainP m a) 0).getD i 0)=u:=⟨_,rfl⟩
 rw [eu] at g1 g3
 have hx0:x 0=0:=by
  have h1:(sN (m.room+1) fun i=>u i*(x 0+(y i + -sN (m.room+1) fun j=>entP m a i j*y j)))=0:=by
   rw [sN_congr (g:=fun _=>0) fun i hi=>by rw [hr i hi,Rat.mul_zero]]
   exact sN_zero _
  have h2:(sN (m.room+1) fun i=>u i*(x 0+(y i + -sN (m.room+1) fun j=>entP m a i j*y j)))=sN (m.room+1) fun i=>x 0*u i+(u i*y i + -sN (m.room+1) fun j=>u i*entP m a i j*y j):=sN_congr fun i hi=>by
   have:(sN (m.room+1) fun j=>u i*entP m a i j*y j)=u i*sN (m.room+1) fun j=>entP m a i j*y j:=by
    rw [←sN_mul];exact sN_congr fun j _=>by grind
   rw [this];grind
  rw [h2,sN_add,sN_mul,g3,sN_add,sN_neg,sN_comm] at h1
  have h3:(sN (m.room+1) fun j=>sN (m.room+1) fun i=>u i*entP m a i j*y j)=sN (m.room+1) fun j=>u j*y j:=sN_congr fun j hj=>by
   rw [show (sN (m.room+1) fun i=>u i*entP m a i j*y j)=sN (m.room+1) fun i=>y j*(u i*entP m a i j) from sN_congr fun i _=>by grind,sN_mul]
   have:=g1 j hj
   rw [sN_congr (g:=fun i=>u i*entP m a i j) fun i hi=>by rw [hent i j hi hj]] at this
   rw [this];grind
  rw [h3] at h1
  grind
 have hy:∀i,i < m.room+1→y i=sN (m.room+1) fun j=>entP m a i j*y j:=fun i hi=>by
  have:=hr i hi
  rw [hx0] at this
  grind
 have hk:=harm_const hS hC (by omega) hy
 intro j hj
 by_cases e:j=0
 ·rw [e];exact hx0
 ·rw [←hyj j e,hk j hj];exact hy0
def relL (m:Mo) (a:Nat→Bool):Mt:=(List.range (m.room+1)).map fun i=>(List.range (m.room+2)).map (entR m a i)
theorem relL_len (m:Mo) (a:Nat→Bool):(relL m a).length=m.room+1:=by simp [relL]
theorem relL_at {m:Mo} {a:Nat→Bool} {i:Nat} (h:i < m.room+1):(relL m a).getD i []=(List.range (m.room+2)).map (entR m a i):=map_at h
theorem gainT_le {m:Mo} (h:m.Ok) (a:Nat→Bool) {i:Nat} (hi:i < m.room+1):-((moK m:Int):Rat)≤gainT m a i∧gainT m a i≤((moK m:Int):Rat):=by
 have r2:=h.r2
 have h1:=moK_le h (n:=i) (by omega)
 have h2:(0:Rat)≤((i:Int):Rat):=by exact_mod_cast (by omega:(0:Int)≤(i:Int))
 have h3:=Rat.mul_nonneg h.k0 h2
 have h4:=h.w0
 have h5:=h.s0
 have h6:=h.t0
 have h7:=h.c0
 have h8:m.come≤1:=by unfold Mo.stay at h6;grind
 have h9:=Rat.mul_le_mul_of_nonneg_right h8 h4
 have h10:=Rat.mul_nonneg (Rat.le_of_lt h7) h4
 unfold gainT
 split
 ·exact ⟨by grind,by grind⟩
 ·exact ⟨by grind,by grind⟩
theorem relRow {m:Mo} (h:m.Ok) (a:Nat→Bool) {i:Nat} (hi:i < m.room+1):RowB 5000 ((List.range (m.room+2)).map (entR m a i)):=by
 have z3:=h.zw;have z4:=h.zk
 have b3:=bl_den m.reward;have b4:=bl_den m.cost
 have b5:=bl_tp m.cost;have b6:=bl_tp m.reward
 obtain ⟨e1,e2⟩:=moD_bl h
 have f1:=bl_mul (moD m) (m.cost.den*m.reward.den)
 have f2:=bl_mul m.cost.den m.reward.den
 have f3:bl (moK m+1)≤1700:=by
  have g1:=bl_add (8*tp m.cost) (tp m.reward)
  have g2:=bl_mul 8 (tp m.cost)
  have g3:bl 8≤4:=bl_le (by decide)
  have g4:=bl_add (moK m) 1
  have g5:bl 1≤1:=bl_le (by decide)
  unfold moK at g4 ⊢
  omega
 have f4:=bl_mul (moK m+1) (moD m*(m.cost.den*m.reward.den))
 refine RowB.of_iz (E:=moD m*(m.cost.den*m.reward.den)) (Nat.mul_ne_zero e2 (Nat.mul_ne_zero m.cost.den_nz m.reward.den_nz)) (by omega) (moK m+1) (by omega) fun q hq=>?_
 obtain ⟨j,hj,rfl⟩:=List.mem_map.1 hq
 have hj:j < m.room+2:=by simpa using hj
 have eM:(((moK m+1:Nat):Int):Rat)=((moK m:Int):Rat)+1:=by rw [Int.natCast_add,Rat.intCast_add];rfl
 have hK:(0:Rat)≤((moK m:Int):Rat):=by exact_mod_cast (by omega:(0:Int)≤(moK m:Int))
 rw [eM]
 unfold entR
 by_cases hj1:j=m.room+1
 ·rw [if_pos hj1]
  obtain ⟨g1,g2⟩:=gainT_le h a hi
  refine ⟨?_,by grind,by grind⟩
  have i0:Iz m.cost.den (m.cost*((i:Int):Rat)):=by
   have h1:=(Iz.den m.cost).mul (F:=1) (b:=((i:Int):Rat)) ⟨(i:Int),by simp⟩
   rwa [Nat.mul_one] at h1
  have i1:Iz (moD m*(m.cost.den*m.reward.den)) (-(m.cost*((i:Int):Rat))):=(i0.neg.more m.reward.den).more' (moD m)
  have i2:Iz (moD m*(m.cost.den*m.reward.den)) (m.come*m.reward):=((Iz.den m.come).mul (Iz.den m.reward)).of_dvd ⟨m.serve.den*m.cost.den,by unfold moD;grind⟩
  unfold gainT
  split
  ·exact i1.add i2
  ·exact i1
 ·rw [if_neg hj1]
  by_cases hj0:j=0
  ·rw [if_pos hj0];exact ⟨Iz.one _,by grind,by grind⟩
  ·rw [if_neg hj0]
   have p0:=entP_pos h a i j
   have p1:=entP_le h a (n:=i) (j:=j) hi (by omega)
   have p2:=(entP_iz m a i j).more (m.cost.den*m.reward.den)
   split
   ·exact ⟨p2.neg.add (Iz.one _),by grind,by grind⟩
   ·exact ⟨p2.neg,by grind,by grind⟩
theorem relGj {m:Mo} (h:m.Ok) (a:Nat→Bool):Gj (m.room+1) 5000 (lgF (List.range (m.room+1)) (relL m a)) (List.range (m.room+1)) (relL m a) 0:=by
 have el:∀r,r < m.room+1→lg (List.range (m.room+1)) (relL m a) r=(List.range (m.room+2)).map (entR m a r):=fun r hr=>by
  unfold lg;rw [range_at hr,relL_at hr]
 refine ⟨⟨by simp,relL_len m a,fun r hr=>by rw [range_at hr];exact hr,fun r q hr hq e=>by rwa [range_at hr,range_at hq] at e,fun r hr=>by rw [el r hr];simp⟩,Eqv.refl _ _,fun c hc=>by omega,fun r hr=>?_⟩
 rw [Nat.pow_zero,Nat.one_mul,el r hr]
 exact relRow h a hr
theorem relEqv (m:Mo) (a:Nat→Bool):Eqv (m.room+1) (entR m a) (lgF (List.range (m.room+1)) (relL m a)):=Eqv.congr fun r hr j hj=>by
 unfold lgF lg
 rw [range_at hr,relL_at hr,map_at (by omega)]
def relX (m:Mo) (a:Nat→Bool):List Rat:=gjX (m.room+1) (List.range (m.room+1),relL m a)
theorem relX_is {m:Mo} (h:m.Ok) (a:Nat→Bool) {x:List Rat} (hl:x.length=m.room+1) (hx:Sol (m.room+1) (entR m a) fun i=>x.getD i 0):relX m a=x :=
 gjX_is (relGj h a) ((relEqv m a).inj (relInj h a)) hl (((relEqv m a).s _).1 hx)
end Go.V
namespace Go.V
open Go.Proofs Go.RowKit
set_option maxRecDepth 10000
set_option maxHeartbeats 16000000
def relP (m:Mo) (a:Nat→Bool) (i:Nat):Mt:=(List.range i).map fun i=>(List.range (m.room+2)).map (entR m a i)
theorem relP_len (m:Mo) (a:Nat→Bool) (i:Nat):(relP m a i).length=i:=by simp [relP]
theorem relP_next (m:Mo) (a:Nat→Bool) (i:Nat):cRS (relP m a (i+1))=cRS (relP m a i)++[cS ((List.range (m.room+2)).map (entR m a i))]:=by
 unfold relP cRS;rw [show List.range (i+1)=List.range i++[i] from List.range_succ,List.map_append,List.map_append];rfl
theorem fn_sRelative (m:Mo) (hm:m.Ok) (acts:List Bool) (ha:acts.length=m.room):Fn Tryz.prog 78 [moP m,lBo acts] []
  (.tup [.ls 0 0 (m.room+1) 3,rS ((relX m (acts.getD · false)).getD 0 0)]) [(0,.row true 3 (cS ((relX m (acts.getD · false)).set 0 0)))]:=by
 have r1:=hm.r1
 have r2:=hm.r2
 have c1:=fn_sChain m hm acts ha
 have hz:((cMS (chainP m (acts.getD · false))).length:Int)=((m.room+1:Nat):Int):=by rw [cMS_len,chainP_len]
 have hsq:=chainP_sq m (acts.getD · false)
 have hce:∀i j,i < m.room+1→j < m.room+1→ent (chainP m (acts.getD · false)) i j=entP m (acts.getD · false) i j:=fun i j hi hj=>chainP_ent hi hj
 have hes:∀i j,i < m.room+1→j < m.room+1→sz (entP m (acts.getD · false) i j)≤1600:=fun i j hi hj=>entP_sz hm _ hi hj
 have hcl:=chainP_len m (acts.getD · false)
 have gz:=fun n (hn:n < m.room+1)=>gainT_sz hm (acts.getD · false) hn
 have eG:∀n,gainT m (acts.getD · false) n=if n < m.room∧acts.getD n false=true then -(m.cost*((n:Int):Rat))+m.come*m.reward else -(m.cost*((n:Int):Rat)):=fun n=>rfl
 have eE:∀i j,j≠0→j < m.room+1→entR m (acts.getD · false) i j=if i=j then -(entP m (acts.getD · false) i j)+1 else -(entP m (acts.getD · false) i j):=fun i j h0 h1=>by unfold entR;rw [if_neg (by omega),if_neg h0]
 have eE0:∀i,entR m (acts.getD · false) i 0=1:=fun i=>by unfold entR;rw [if_neg (by omega),if_pos rfl]
 have eEg:∀i,entR m (acts.getD · false) i (m.room+1)=gainT m (acts.getD · false) i:=fun i=>by unfold entR;rw [if_pos rfl]
 have hinj:=(relEqv m (acts.getD · false)).inj (relInj hm (acts.getD · false))
 have cv:=fn_sSolve (m.room+1) 5000 (List.range (m.room+1)) (relL m (acts.getD · false)) _ (relGj hm (acts.getD · false)) hinj (by omega) (by omega) (by decide)
 rw [show gjX (m.room+1) (List.range (m.room+1),relL m (acts.getD · false))=relX m (acts.getD · false) from rfl] at cv
 have hql:(relX m (acts.getD · false)).length=m.room+1:=gjX_len _ _
 have hU:relL m (acts.getD · false)=relP m (acts.getD · false) (m.room+1):=rfl
 rw [hU] at cv
 generalize gjN (m.room+1) skJ (List.range (m.room+1),relP m (acts.getD · false) (m.room+1)) (m.room+1)=fin at cv
 obtain ⟨Q,eQ⟩:∃Q,relX m (acts.getD · false)=Q:=⟨_,rfl⟩
 rw [eQ] at cv hql ⊢
 obtain ⟨p,ep⟩:∃p,chainP m (acts.getD · false)=p:=⟨_,rfl⟩
 rw [ep] at c1 hz hsq hce hcl
 have k1:=fn_sOne
 have k0:=fn_sNone
 have zk:=hm.zk;have zc:=hm.zc;have zw:=hm.zw
 refine Fn.intro (ks:=[0,1,4,5,6,7,8,9,10,11,12,13,15,22,23,24,32,46,73]) hty rfl rfl rfl rfl rfl ?_
 conv=>whnf
 refine VCall.of_data c1 (ndA fun k=>rfl) ?_
 conv=>whnf
 rw [hz]
 refine VLoop.thaw 6 (cs:=[.sl (cMS p)]) rfl ?_
 refine VLoop.toMat 19 3 (cs:=[]) rfl rfl ?_
 refine VLoop.ren 19 91 rfl ?_
 refine VLoop.inv hty (S:=Nat) (fun i=>[(23,I i),(22,I ((m.room+1:Nat):Int)),(7,.ls 91 0 i 1),(6,mP p),(5,.lp 5 0),(1,lBo acts),(0,moP m)]) (fun i=>[(91,.mat 3 (ixQ i (m.room+2)) (cRS (relP m (acts.getD · false) i))),(5,.box true [B false,.d (.s (.slice none 0 0)),.d (.s (.slice none 0 0))])]) (fun i=>i≤m.room+1) (fun i=>m.room+1 - i) 0 (Nat.zero_le _)
  ⟨rfl,rfl,rfl,rfl,rfl,rfl,rfl,trivial⟩ ⟨rfl,rfl,trivial⟩ ?_
 intro i hi
 conv=>whnf
 refine Br.mk (fun h=>?_) (fun h=>?_)
 ·have h:i < m.room+1:=by simp only [decide_eq_true_eq] at h;omega
  have hnx:=relP_next m (acts.getD · false) i
  have hN:=relP_len m (acts.getD · false) i
  obtain ⟨N,eN⟩:∃N,relP m (acts.getD · false) i=N:=⟨_,rfl⟩
  rw [eN] at hnx hN
  rw [eN]
  have hrl:=hsq i h
  obtain ⟨ro,ero⟩:∃ro,p.getD i []=ro:=⟨_,rfl⟩
  rw [ero] at hrl
  have e00:=eE0 i
  conv=>whnf
  refine VCall.of_data k1 (ndA fun k=>rfl) ?_
  conv=>whnf
  refine VLoop.ren 27 53 rfl ?_
  refine VLoop.inv hty (S:=Nat) (fun j=>[(23,I i),(22,I ((m.room+1:Nat):Int)),(10,I j),(9,.ls 53 0 j 3),(8,I i),(7,.ls 91 0 i 1),(6,mP p),(5,.lp 5 0),(1,lBo acts),(0,moP m)]) (fun j=>[(53,.row true 3 (cS ((List.range j).map (entR m (acts.getD · false) i)))),(91,.mat 3 (ixQ i (m.room+2)) (cRS N)),(5,.box true [B false,.d (.s (.slice none 0 0)),.d (.s (.slice none 0 0))])])
   (fun j=>1≤j∧j≤m.room+1) (fun j=>m.room+1 - j) 1 ⟨Nat.le_refl _,by omega⟩ ⟨rfl,rfl,rfl,rfl,rfl,rfl,rfl,rfl,rfl,rfl,trivial⟩ ⟨?_,rfl,rfl,trivial⟩ ?_
  ·show Ob.row true 3 [c1S 1]=Ob.row true 3 (cS [entR m (acts.getD · false) i 0])
   rw [e00];rfl
  rintro j ⟨hj1,hj⟩
  conv=>whnf
  rw [hz]
  refine Br.mk (fun h3=>?_) (fun h3=>?_)
  ·have h3:j < m.room+1:=by simp only [decide_eq_true_eq] at h3;omega
   have hFn:=mapR_next (entR m (acts.getD · false) i) j
   have hF:((List.range j).map (entR m (acts.getD · false) i)).length=j:=by simp
   have hv0:=eE i j (by omega) h3
   have hs1:=hes i j h h3
   have hc:=hce i j h h3
   obtain ⟨e,ee⟩:∃e,entP m (acts.getD · false) i j=e:=⟨_,rfl⟩
   rw [ee] at hv0 hs1 hc
   have k2:=fn_sOpp e (by omega)
   have z2:=sz_neg e
   have k3:=fn_sSum (-e) 1 (by have:=sz_small (n:=1) (k:=1) (by decide) (by decide);have:sz (1:Rat)≤1:=this;omega)
   obtain ⟨F,eF⟩:∃F,(List.range j).map (entR m (acts.getD · false) i)=F:=⟨_,rfl⟩
   rw [eF] at hFn hF ⊢
   conv=>whnf
   refine ⟨⟨⟨by omega,by rw [cMS_len];omega⟩,cMS_sz _⟩,?_⟩
   conv=>whnf
   refine ⟨_,cMS_as (x:=ro) (by omega) ero,?_⟩
   conv=>whnf
   refine ⟨⟨⟨by omega,by rw [cS_len,hrl];omega⟩,cS_sz _⟩,?_⟩
   conv=>whnf
   refine ⟨_,cS_as (x:=e) (by rw [hrl];exact h3) (by rw [←hc,←ero];rfl),?_⟩
   conv=>whnf
   refine VCall.of_data k2 (ndA fun k=>rfl) ?_
   conv=>whnf
   by_cases hij:i=j
   ·have hv:entR m (acts.getD · false) i j = -e+1:=by rw [hv0,if_pos hij]
    rw [decide_eq_true (show (i:Int)=(j:Int) by omega)]
    conv=>whnf
    refine VDraw.go hmo hty 3 [] rfl ?_
    conv=>whnf
    refine QCall.of_data k1 (ndA fun k=>rfl) ?_
    conv=>whnf
    refine QCall.of_data k3 (ndA fun k=>rfl) ?_
    conv=>whnf
    refine Sub.full rfl ?_
    conv=>whnf
    refine Sub.full (by rw [cS_len,hF]) ?_
    conv=>whnf
    refine ⟨by show (j+1)*56≤_;omega,?_⟩
    conv=>whnf
    refine Wr.i64 (y:=((j+1:Nat):Int)) rfl (by omega) (by omega) ?_
    conv=>whnf
    refine ⟨j+1,⟨by omega,by omega⟩,by show m.room+1 - (j+1) < m.room+1 - j;omega,⟨rfl,rfl,rfl,rfl,rfl,rfl,rfl,rfl,rfl,rfl,trivial⟩,?_,rfl,rfl,trivial⟩
    rw [hFn,hv,←cS_ap1];rfl
   ·have hv:entR m (acts.getD · false) i j = -e:=by rw [hv0,if_neg hij]
    rw [decide_eq_false (show ¬(i:Int)=(j:Int) by omega)]
    conv=>whnf
    refine Sub.full rfl ?_
    conv=>whnf
    refine Sub.full (by rw [cS_len,hF]) ?_
    conv=>whnf
    refine ⟨by show (j+1)*56≤_;omega,?_⟩
    conv=>whnf
    refine Wr.i64 (y:=((j+1:Nat):Int)) rfl (by omega) (by omega) ?_
    conv=>whnf
    refine ⟨j+1,⟨by omega,by omega⟩,by show m.room+1 - (j+1) < m.room+1 - j;omega,⟨rfl,rfl,rfl,rfl,rfl,rfl,rfl,rfl,rfl,rfl,trivial⟩,?_,rfl,rfl,trivial⟩
    rw [hFn,hv,←cS_ap1];rfl
  ·have h3:j=m.room+1:=by simp only [decide_eq_false_iff_not] at h3;omega
   have hrow:(List.range (m.room+2)).map (entR m (acts.getD · false) i)=(List.range (m.room+1)).map (entR m (acts.getD · false) i)++[gainT m (acts.getD · false) i]:=by rw [mapR_next,eEg]
   have hFl:((List.range (m.room+1)).map (entR m (acts.getD · false) i)).length=m.room+1:=by simp
   obtain ⟨g1,g2,g3,g4⟩:=gz i h
   have eg:=eG i
   have z0:=sz_small (n:=(i:Int)) (k:=4) (by omega) (by omega)
   have q1:=fn_sInt (i:Int) (by omega) (by omega)
   have q2:=fn_sTimes m.cost ((i:Int):Rat) (by omega)
   have q3:=fn_sOpp (m.cost*((i:Int):Rat)) (by omega)
   have q4:=fn_sTimes m.come m.reward (by omega)
   have q5:=fn_sSum (-(m.cost*((i:Int):Rat))) (m.come*m.reward) (by omega)
   obtain ⟨g,eg2⟩:∃g,gainT m (acts.getD · false) i=g:=⟨_,rfl⟩
   rw [eg2] at eg hrow
   obtain ⟨w,ew⟩:∃w,((i:Int):Rat)=w:=⟨_,rfl⟩
   rw [ew] at q1 q2 q3 q5 eg
   obtain ⟨x1,e1⟩:∃x,m.cost*w=x:=⟨_,rfl⟩
   rw [e1] at q2 q3 q5 eg
   obtain ⟨x2,e2⟩:∃x,-x1=x:=⟨_,rfl⟩
   rw [e2] at q3 q5 eg
   obtain ⟨x3,e3⟩:∃x,m.come*m.reward=x:=⟨_,rfl⟩
   rw [e3] at q4 q5 eg
   obtain ⟨b,eb⟩:∃b,acts.getD i false=b:=⟨_,rfl⟩
   rw [eb] at eg
   obtain ⟨F,eF⟩:∃F,(List.range (m.room+1)).map (entR m (acts.getD · false) i)=F:=⟨_,rfl⟩
   rw [eF] at hrow hFl
   rw [h3,eF]
   conv=>whnf
   refine VDraw.go hmo hty 9 [[12],[12],[12],[12],[12],[12],[12],[12],[]] rfl ?_
   conv=>whnf
   refine QCall.of_data q1 (ndA fun k=>rfl) ?_
   conv=>whnf
   refine QCall.of_data q2 (ndA fun k=>rfl) ?_
   conv=>whnf
   refine QCall.of_data q3 (ndA fun k=>rfl) ?_
   conv=>whnf
   by_cases hr:i < m.room
   ·rw [decide_eq_true (show (i:Int) < (m.room:Int) by omega)]
    conv=>whnf
    refine ⟨⟨⟨by omega,by rw [cBo_len];omega⟩,cBo_sz _⟩,?_⟩
    conv=>whnf
    refine ⟨_,cBo_as (x:=b) (by omega) eb,?_⟩
    conv=>whnf
    cases b with
    | true =>
     rw [if_pos ⟨hr,rfl⟩] at eg
     rw [←eg] at q5
     conv=>whnf
     refine VDraw.go hmo hty 11 [] rfl ?_
     conv=>whnf
     refine QCall.of_data q4 (ndA fun k=>rfl) ?_
     conv=>whnf
     refine QCall.of_data q5 (ndA fun k=>rfl) ?_
     conv=>whnf
     refine Sub.full rfl ?_
     conv=>whnf
     refine Sub.full (by rw [cS_len,hFl]) ?_
     conv=>whnf
     refine ⟨by show (m.room+1+1)*56≤_;omega,?_⟩
     conv=>whnf
     refine ⟨⟨by rw [ixQ_len],by show (i+1)*24≤_;omega⟩,?_⟩
     conv=>whnf
     refine Wr.i64 (y:=((i+1:Nat):Int)) rfl (by omega) (by omega) ?_
     conv=>whnf
     refine ⟨i+1,h,by show m.room+1 - (i+1) < m.room+1 - i;omega,⟨rfl,rfl,rfl,rfl,rfl,rfl,rfl,trivial⟩,?_,rfl,trivial⟩
     show Ob.mat 3 (ixQ i (m.room+2)++[.r (cRS N).length 0 (m.room+2)]) (cRS N++[cS F++[c1S g]])=Ob.mat 3 (ixQ (i+1) (m.room+2)) (cRS (relP m (acts.getD · false) (i+1)))
     rw [hnx,ixQ_snoc,cRS_len,hN,hrow,cS_ap1]
    | false =>
     rw [if_neg (fun e=>by cases e.2)] at eg
     subst eg
     conv=>whnf
     refine Sub.full rfl ?_
     conv=>whnf
     refine Sub.full (by rw [cS_len,hFl]) ?_
     conv=>whnf
     refine ⟨by show (m.room+1+1)*56≤_;omega,?_⟩
     conv=>whnf
     refine ⟨⟨by rw [ixQ_len],by show (i+1)*24≤_;omega⟩,?_⟩
     conv=>whnf
     refine Wr.i64 (y:=((i+1:Nat):Int)) rfl (by omega) (by omega) ?_
     conv=>whnf
     refine ⟨i+1,h,by show m.room+1 - (i+1) < m.room+1 - i;omega,⟨rfl,rfl,rfl,rfl,rfl,rfl,rfl,trivial⟩,?_,rfl,trivial⟩
     show Ob.mat 3 (ixQ i (m.room+2)++[.r (cRS N).length 0 (m.room+2)]) (cRS N++[cS F++[c1S g]])=Ob.mat 3 (ixQ (i+1) (m.room+2)) (cRS (relP m (acts.getD · false) (i+1)))
     rw [hnx,ixQ_snoc,cRS_len,hN,hrow,cS_ap1]
   ·rw [if_neg (fun e=>hr e.1)] at eg
    subst eg
    rw [decide_eq_false (show ¬(i:Int) < (m.room:Int) by omega)]
    conv=>whnf
    refine Sub.full rfl ?_
    conv=>whnf
    refine Sub.full (by rw [cS_len,hFl]) ?_
    conv=>whnf
    refine ⟨by show (m.room+1+1)*56≤_;omega,?_⟩
    conv=>whnf
    refine ⟨⟨by rw [ixQ_len],by show (i+1)*24≤_;omega⟩,?_⟩
    conv=>whnf
    refine Wr.i64 (y:=((i+1:Nat):Int)) rfl (by omega) (by omega) ?_
    conv=>whnf
    refine ⟨i+1,h,by show m.room+1 - (i+1) < m.room+1 - i;omega,⟨rfl,rfl,rfl,rfl,rfl,rfl,rfl,trivial⟩,?_,rfl,trivial⟩
    show Ob.mat 3 (ixQ i (m.room+2)++[.r (cRS N).length 0 (m.room+2)]) (cRS N++[cS F++[c1S g]])=Ob.mat 3 (ixQ (i+1) (m.room+2)) (cRS (relP m (acts.getD · false) (i+1)))
    rw [hnx,ixQ_snoc,cRS_len,hN,hrow,cS_ap1]
 ·have h:i=m.room+1:=by simp only [decide_eq_false_iff_not] at h;omega
  obtain ⟨x,ex⟩:∃x,Q.getD 0 0=x:=⟨_,rfl⟩
  rw [h,ex]
  conv=>whnf
  refine VCall.par1n 91 95 cv ⟨⟨rfl,rfl,rfl,rfl⟩,trivial⟩ rfl rfl ?_
  conv=>whnf
  refine ⟨by omega,?_⟩
  conv=>whnf
  refine ⟨_,cS_as (x:=x) (i:=0) (by omega) ex,?_⟩
  conv=>whnf
  refine VCall.of_data k0 (ndA fun k=>rfl) ?_
  conv=>whnf
  refine ⟨by omega,?_⟩
  conv=>whnf
  refine ⟨by rw [cS_len,hql];show 0+0 < m.room+1;omega,?_⟩
  conv=>whnf
  refine VDraw.go hmo hty 3 [] rfl ?_
  conv=>whnf
  have eX:(cS Q).set 0 (c1S 0)=cS (Q.set 0 0):=cS_set Q 0 0
  refine ⟨⟨rfl,rfl,rfl,rfl,rfl,rfl⟩,[],by rw [←eX];rfl,?_⟩
  first | exact ⟨rfl,rfl,rfl,trivial,rfl⟩ | exact ⟨rfl,rfl,rfl,rfl,trivial,rfl⟩ | exact ⟨rfl,rfl,trivial,rfl⟩ | exact ⟨rfl,trivial,rfl⟩ | exact ⟨⟨rfl,rfl,rfl,trivial⟩,trivial,rfl⟩
end Go.V
namespace Go.V
abbrev skT (i r:Nat):Bool:=decide (r≤i)
structure Gt (n t:Nat) (A:Fm) (p:List Nat) (R:Mt) (i:Nat):Prop where
 pl:Plc n (n+1) p R
 eq:Eqv n A (lgF p R)
 tri:Tri n (lgF p R) i
 row:∀r,r < n→RowB (2 ^ i*t) (lg p R r)
theorem Gj.toGt {n t:Nat} {A:Fm} {p:List Nat} {R:Mt} (h:Gj n t A p R 0):Gt n t A p R 0:=⟨h.pl,h.eq,fun c hc=>by omega,h.row⟩
theorem Gt.piv {n t i:Nat} {A:Fm} {p:List Nat} {R:Mt} (h:Gt n t A p R i) (hA:Inj n A) (hi:i < n):i≤pivF (lgF p R) i (n - i) i∧pivF (lgF p R) i (n - i) i < n∧lgF p R (pivF (lgF p R) i (n - i) i) i≠0:=by
 obtain ⟨k,h1,h2,h3⟩:=h.tri.pivot (h.eq.inj hA) hi
 have:=pivF_is (A:=lgF p R) (c:=i) (n - i) i ⟨k,h1,by omega,h3⟩
 exact ⟨this.1,by omega,this.2.2⟩
theorem Gt.next {n t i:Nat} {A:Fm} {p:List Nat} {R:Mt} (h:Gt n t A p R i) (hi:i < n) {k:Nat} (hik:i≤k) (hk:k < n) (h0:lgF p R k i≠0):Gt n t A (swapL 0 p i k) (elimR (swapL 0 p i k) i (skT i) n R) (i+1):=by
 have hb:∀j,j < i→lgF p R k j=0:=fun j hj=>(h.tri j hj).2 k hk (by omega)
 obtain ⟨g1,g2,g3⟩:=elim_step h.pl hi hk (sk:=skT i) (decide_eq_true (Nat.le_refl i)) h0 hb
 have esw:swF i k i=k:=by unfold swF;by_cases e:i=k;rw [if_pos e];exact e;rw [if_neg e,if_pos rfl]
 refine ⟨g1,h.eq.trans g2,fun c hc=>?_,fun r hr=>?_⟩
 ·by_cases e:c=i
  ·subst e
   refine ⟨?_,fun r hr hlt=>?_⟩
   ·rw [g3 c hi c (by omega),if_pos (decide_eq_true (Nat.le_refl c)),esw];grind
   ·rw [g3 r hr c (by omega),if_neg (by rw [decide_eq_true_eq];omega)]
    have:=Rat.div_mul_cancel (a:=lgF p R (swF c k r) c) h0
    grind
  ·have hci:c < i:=by omega
   obtain ⟨d1,d2⟩:=h.tri c hci
   refine ⟨?_,fun r hr hlt=>?_⟩
   ·rw [g3 c (by omega) c (by omega),hb c hci,Rat.mul_zero]
    have:swF i k c=c:=by unfold swF;rw [if_neg (by omega),if_neg e]
    rw [this];grind
   ·rw [g3 r hr c (by omega),hb c hci,Rat.mul_zero,d2 _ (swF_lt hi hk hr) (by unfold swF;split;omega;split;omega;omega)];grind
 ·have hp:=h.pl.swap hi hk
  obtain ⟨_,g5⟩:=elimR_is (sk:=skT i) hp hi (decide_eq_true (Nat.le_refl i)) n (Nat.le_refl _)
  rw [g5 r hr,if_pos hr,lg_swap h.pl hi hk,lg_swap h.pl hi hk,esw]
  have w1:=h.pl.wd _ (swF_lt hi hk hr)
  have w2:=h.pl.wd _ hk
  have:=(h.row _ (swF_lt hi hk hr)).el (r:=r) (sk:=skT i) (h.row _ hk) (c:=i) (by omega) (by omega) h0
  rwa [←Nat.mul_assoc,←Nat.pow_succ'] at this
theorem gtN_ok {n t:Nat} {A:Fm} {s:List Nat×Mt} (h:Gt n t A s.1 s.2 0) (hA:Inj n A):∀i,i≤n→Gt n t A (gjN n skT s i).1 (gjN n skT s i).2 i
 | 0,_=>h
 | i+1,hi=>by
  have ih:=gtN_ok h hA i (by omega)
  obtain ⟨h1,h2,h3⟩:=ih.piv hA (by omega)
  exact ih.next (by omega) h1 h2 h3
def bkS (A:Fm) (x:Nat→Rat) (b:Rat) (i:Nat):Nat→Rat
 | 0=>b
 | c+1=>if i < c then bkS A x b i c - A i c*x c else bkS A x b i c
theorem bkS_low {A:Fm} {x:Nat→Rat} {b:Rat} {i:Nat}:∀{c},c≤i+1→bkS A x b i c=b
 | 0,_=>rfl
 | c+1,h=>by
  show (if i < c then _ else _)=b
  rw [if_neg (by omega)];exact bkS_low (by omega)
theorem bkS_sum {A:Fm} {x:Nat→Rat} {b:Rat} {i:Nat}:∀c,bkS A x b i c=b - sN c fun d=>if i < d then A i d*x d else 0
 | 0=>by show b=b - 0;grind
 | c+1=>by
  show (if i < c then _ else _)=b - (sN c (fun d=>if i < d then A i d*x d else 0)+if i < c then A i c*x c else 0)
  rw [bkS_sum c]
  split <;> grind
def xB (n:Nat) (A:Fm):Nat→Nat→Rat
 | 0=>fun j=>A j n
 | d+1=>fun j=>if j=n - 1 - d then bkS A (xB n A d) (A j n) j n / A j j else xB n A d j
theorem bkS_congr {A:Fm} {x y:Nat→Rat} {b:Rat} {i:Nat}:∀{c},(∀d,i < d→d < c→x d=y d)→bkS A x b i c=bkS A y b i c
 | 0,_=>rfl
 | c+1,h=>by
  show (if i < c then _ else _)=if i < c then _ else _
  rw [bkS_congr (c:=c) fun d h1 h2=>h d h1 (by omega)]
  split
  ·rename_i e;rw [h c e (by omega)]
  ·rfl
theorem xB_old {n:Nat} {A:Fm} {j:Nat} (hj:j < n):∀{d},d≤n - 1 - j→xB n A d j=A j n
 | 0,_=>rfl
 | d+1,h=>by
  show (if j=n - 1 - d then _ else _)=_
  rw [if_neg (by omega)];exact xB_old hj (by omega)
theorem xB_keep {n:Nat} {A:Fm} {j:Nat} (hj:j < n):∀{d},n - 1 - j < d→d≤n→xB n A d j=xB n A (n - j) j
 | 0,h,_=>by omega
 | d+1,h,hd=>by
  by_cases e:n - j=d+1
  ·rw [e]
  ·show (if j=n - 1 - d then _ else _)=_
   rw [if_neg (by omega)];exact xB_keep hj (by omega) (by omega)
theorem xB_row {n:Nat} {A:Fm} {j:Nat} (hj:j < n):xB n A n j=bkS A (xB n A n) (A j n) j n / A j j:=by
 rw [xB_keep hj (by omega) (Nat.le_refl _),show n - j=(n - 1 - j)+1 by omega]
 show (if j=n - 1 - (n - 1 - j) then _ else _)=_
 rw [if_pos (by omega),bkS_congr (y:=xB n A n) fun d h1 h2=>by rw [xB_keep h2 (d:=n - 1 - j) (by omega) (by omega),xB_keep h2 (d:=n) (by omega) (Nat.le_refl _)]]
theorem Tri.sol {n:Nat} {A:Fm} (h:Tri n A n):Sol n A (xB n A n):=fun r hr=>by
 have e:=xB_row (A:=A) hr
 obtain ⟨h1,_⟩:=h r hr
 rw [bkS_sum] at e
 have e2:xB n A n r*A r r=A r n - sN n fun d=>if r < d then A r d*xB n A n d else 0:=by
  rw [e];exact Rat.div_mul_cancel h1
 have e3:rowX n A (xB n A n) r=(sN n fun d=>if d=r then (fun d=>A r d*xB n A n d) d else 0)+sN n fun d=>if r < d then A r d*xB n A n d else 0:=by
  rw [←sN_add]
  refine sN_congr fun d hd=>?_
  by_cases h2:d=r
  ·rw [if_pos h2,if_neg (by omega)];grind
  ·rw [if_neg h2]
   by_cases h3:r < d
   ·rw [if_pos h3];grind
   ·rw [if_neg h3,(h d hd).2 r hr (by omega)];grind
 rw [e3,sN_delta,if_pos hr]
 show A r r*xB n A n r+_=A r n
 grind
def sS:Nat→(Nat→Nat)→Nat
 | 0,_=>0
 | n+1,f=>sS n f+f n
theorem sS_le {f g:Nat→Nat}:∀{n},(∀i,i < n→f i≤g i)→sS n f≤sS n g
 | 0,_=>Nat.le_refl _
 | n+1,h=>Nat.add_le_add (sS_le fun i hi=>h i (by omega)) (h n (by omega))
theorem sS_add (f g:Nat→Nat):∀n,sS n (fun i=>f i+g i)=sS n f+sS n g
 | 0=>rfl
 | n+1=>by show (sS n fun i=>f i+g i)+(f n+g n)=(sS n f+f n)+(sS n g+g n);rw [sS_add f g n];omega
theorem sS_const (k:Nat):∀n,sS n (fun _=>k)=n*k
 | 0=>by rw [Nat.zero_mul];rfl
 | n+1=>by show sS n _+k=_;rw [sS_const k n,Nat.succ_mul]
theorem sS_delta (n i v:Nat):sS n (fun j=>if j=i then v else 0)=if i < n then v else 0:=by
 induction n with
 | zero=>rfl
 | succ n ih =>
  show sS n _+(if n=i then v else 0)=_
  rw [ih]
  by_cases h:n=i
  ·rw [if_pos h,if_neg (by omega),if_pos (by omega)];omega
  ·rw [if_neg h];split <;> (first | (rw [if_pos (by omega)];rfl) | (rw [if_neg (by omega)]))
theorem sS_one {f:Nat→Nat}:∀{n i},i < n→f i≤sS n f
 | n+1,i,h=>by
  show f i≤sS n f+f n
  by_cases e:i=n
  ·subst e;omega
  ·have:=sS_one (f:=f) (n:=n) (i:=i) (by omega);omega
theorem sS_mono {f:Nat→Nat} {m:Nat}:∀{n},m≤n→sS m f≤sS n f
 | 0,h=>by rw [show m=0 by omega];exact Nat.le_refl _
 | n+1,h=>by
  by_cases e:m=n+1
  ·subst e;exact Nat.le_refl _
  ·have:=sS_mono (f:=f) (m:=m) (n:=n) (by omega);show _≤sS n f+f n;omega
theorem bkS_sz {A:Fm} {x:Nat→Rat} {b:Rat} {i n T:Nat} (hA:∀c,c < n→sz (A i c)≤T):∀c,c≤n→sz (bkS A x b i c)≤sz b+sS c fun d=>if i < d then sz (x d)+(T+1) else 0
 | 0,_=>Nat.le_add_right _ _
 | c+1,h=>by
  have ih:=bkS_sz (x:=x) (b:=b) hA c (by omega)
  show sz (if i < c then _ else _)≤sz b+(sS c (fun d=>if i < d then sz (x d)+(T+1) else 0)+if i < c then sz (x c)+(T+1) else 0)
  by_cases e:i < c
  ·rw [if_pos e,if_pos e]
   have h1:=sz_sub (bkS A x b i c) (A i c*x c)
   have h2:=sz_mul (A i c) (x c)
   have h3:=hA c (by omega)
   omega
  ·rw [if_neg e,if_neg e];omega
def sB (n:Nat) (A:Fm) (d:Nat):Nat:=sS n fun j=>if n - d≤j then sz (xB n A d j) else 0
theorem sB_next {n T:Nat} {A:Fm} (hA:∀r c,r < n→c≤n→sz (A r c)≤T) (hd0:∀r,r < n→A r r≠0) (h12:n≤12) {d:Nat} (hd:d < n):(∀c,c≤n→sz (bkS A (xB n A d) (A (n - 1 - d) n) (n - 1 - d) c)≤sB n A d+(13*T+12))∧sB n A (d+1)≤2*sB n A d+(14*T+12):=by
 obtain ⟨i,ei⟩:∃i,n - 1 - d=i:=⟨_,rfl⟩
 rw [ei]
 have hi:i < n:=by omega
 have h1:∀c,c≤n→sz (bkS A (xB n A d) (A i n) i c)≤sB n A d+(13*T+12):=fun c hc=>by
  have g1:=bkS_sz (x:=xB n A d) (b:=A i n) (i:=i) (n:=n) (T:=T) (fun c h=>hA i c hi (by omega)) c hc
  have g2:(sS c fun j=>if i < j then sz (xB n A d j)+(T+1) else 0)≤sS c fun j=>(if n - d≤j then sz (xB n A d j) else 0)+(T+1):=sS_le fun j _=>by
   show (if i < j then sz (xB n A d j)+(T+1) else 0)≤(if n - d≤j then sz (xB n A d j) else 0)+(T+1)
   by_cases e:i < j
   ·rw [if_pos e,if_pos (by omega)];exact Nat.le_refl _
   ·rw [if_neg e];omega
  rw [sS_add,sS_const] at g2
  have g3:=sS_mono (f:=fun j=>if n - d≤j then sz (xB n A d j) else 0) hc
  have g4:c*(T+1)≤12*(T+1):=Nat.mul_le_mul_right _ (by omega)
  have g5:=hA i n hi (Nat.le_refl _)
  have g6:sB n A d=sS n fun j=>if n - d≤j then sz (xB n A d j) else 0:=rfl
  omega
 refine ⟨h1,?_⟩
 have e:sB n A (d+1)≤sS n fun j=>(if n - d≤j then sz (xB n A d j) else 0)+if j=i then sz (bkS A (xB n A d) (A i n) i n / A i i) else 0:=sS_le fun j hj=>by
  show (if n - (d+1)≤j then sz (if j=n - 1 - d then bkS A (xB n A d) (A j n) j n / A j j else xB n A d j) else 0)≤(if n - d≤j then sz (xB n A d j) else 0)+if j=i then sz (bkS A (xB n A d) (A i n) i n / A i i) else 0
  by_cases e:j=i
  ·subst e
   rw [if_pos (by omega),if_pos ei.symm,if_pos rfl];omega
  ·rw [if_neg e,if_neg (by omega:¬j=n - 1 - d)]
   by_cases e2:n - d≤j
   ·rw [if_pos e2,if_pos (by omega)];omega
   ·rw [if_neg e2,if_neg (by omega)];omega
 rw [sS_add,sS_delta,if_pos hi] at e
 have g1:=sz_div (bkS A (xB n A d) (A i n) i n) (hd0 i hi)
 have g2:=h1 n (Nat.le_refl _)
 have g3:=hA i i hi (by omega)
 have g6:sB n A d=sS n fun j=>if n - d≤j then sz (xB n A d j) else 0:=rfl
 omega
end Go.V
namespace Go.V
open Go.Proofs Go.RowKit
set_option maxRecDepth 10000
def tk (n:Nat) (R:Mt):Mt:=R.map (·.take n)
theorem tk_len (n:Nat) (R:Mt):(tk n R).length=R.length:=by simp [tk]
theorem tk_at (n:Nat) (R:Mt) (k:Nat):(tk n R).getD k []=(R.getD k []).take n:=by
 unfold tk
 rw [List.getD_eq_getElem?_getD,List.getD_eq_getElem?_getD,List.getElem?_map]
 cases R[k]? <;> simp
theorem tk_set (n:Nat) (R:Mt) (k:Nat) (x:List Rat):(tk n R).set k (x.take n)=tk n (R.set k x):=by unfold tk;rw [List.map_set]
abbrev smI (p:List Nat) (R:Mt) (n:Nat):Ob:=.mat 3 (ixW p n) (cR (tk n R))
theorem cR_atp {p:List Nat} {R:Mt} {n w r:Nat} (h:Plc n w p R) (hr:r < n):(cR (tk n R))[p.getD r 0]? = some (cQ ((lg p R r).take n)):=cR_at (by rw [tk_len,h.rl];exact h.lt r hr) (tk_at n R _)
def vQ (n:Nat) (p:List Nat) (R:Mt):List Rat:=(List.range n).map fun r=>lgF p R r n
theorem vQ_len (n:Nat) (p:List Nat) (R:Mt):(vQ n p R).length=n:=by simp [vQ]
theorem vQ_at {n:Nat} {p:List Nat} {R:Mt} {r:Nat} (h:r < n):(vQ n p R).getD r 0=lgF p R r n:=map_at h
theorem vQ_swap {n w i k:Nat} {p:List Nat} {R:Mt} (h:Plc n w p R) (hi:i < n) (hk:k < n):swapL 0 (vQ n p R) i k=vQ n (swapL 0 p i k) R:=by
 apply list_getD_ext (by rw [swapL_len,vQ_len,vQ_len])
 intro r hr
 rw [swapL_len,vQ_len] at hr
 rw [swapL_at (by rw [vQ_len];exact hi) (by rw [vQ_len];exact hk),vQ_at (swF_lt hi hk hr),vQ_at hr]
 unfold lgF
 rw [lg_swap h hi hk]
theorem vQ_set {n w r:Nat} {p:List Nat} {R:Mt} {x:List Rat} (h:Plc n w p R) (hr:r < n):(vQ n p R).set r (x.getD n 0)=vQ n p (R.set (p.getD r 0) x):=by
 apply list_getD_ext (by rw [List.length_set,vQ_len,vQ_len])
 intro q hq
 rw [List.length_set,vQ_len] at hq
 rw [gsetD (by rw [vQ_len];exact hr),vQ_at hq,vQ_at hq]
 unfold lgF
 rw [lg_set h hr hq]
 by_cases e:q=r
 ·rw [if_pos e,if_pos e]
 ·rw [if_neg e,if_neg e]
theorem elimR_skip {n w i:Nat} {p:List Nat} {R:Mt} (h:Plc n w p R) (hi:i < n):∀r,r≤i+1→elimR p i (skT i) r R=R
 | 0,_=>rfl
 | r+1,hr=>by
  show (elimR p i (skT i) r R).set (p.getD r 0) (elRow i (skT i) (lg p (elimR p i (skT i) r R) i) (lg p (elimR p i (skT i) r R) r) r)=R
  rw [elimR_skip h hi r (by omega)]
  unfold elRow
  rw [if_pos (.inl (decide_eq_true (by omega)))]
  exact set_same (by rw [h.rl];exact h.lt r (by omega)) rfl
theorem sB_le {n T:Nat} {A:Fm} (hA:∀r c,r < n→c≤n→sz (A r c)≤T) (hd0:∀r,r < n→A r r≠0) (h12:n≤12):∀d,d≤n→sB n A d+(14*T+12)≤2 ^ d*(14*T+12)
 | 0,_=>by
  have:sB n A 0=0:=by
   have e:sB n A 0=sS n fun _=>0:=by
    unfold sB
    apply Nat.le_antisymm
    ·exact sS_le fun j hj=>by rw [if_neg (by omega)];exact Nat.le_refl _
    ·rw [sS_const];omega
   rw [e,sS_const];omega
  rw [this];omega
 | d+1,hd=>by
  have ih:=sB_le hA hd0 h12 d (by omega)
  have h1:=(sB_next hA hd0 h12 (d:=d) (by omega)).2
  rw [Nat.pow_succ,Nat.mul_right_comm]
  omega
end Go.V
namespace Go.V
def vcF (ty:TypeId→Ty) (ops:List Oper):List Nat→Nat→TL→(Nat→TL→Prop)→Prop
 | [],L,t,K=>K L t
 | i :: r,L,t,K=>match memN i (rdy L 0 ops) with
  | true=>match nth ops i with
   | some o=>vcS ty o.op t fun x=>vcF ty ops r (Nat.lor L (Nat.shiftLeft 1 i)) (push o.dst x t) K
   | none=>False
  | false=>False
section
variable {P:Program} {G:Ctx}
theorem vcF_sound {ty:TypeId→Ty} (hty:TyOk P ty) {ops:Array Oper} {sf0:List Nat} {Q:Exit→Act→World→Prop} (hd:∀o,o∈ops.toList→∀d,o.dst=some d→d < G.n)
  (hQp:∀c a w,¬Q (.panic c) a w) (hsel:∀(j:Nat) (o:Oper) cs b,ops[j]? = some o→o.op≠.select cs b)
  (hsf:∀i,i∈sf0→∃o,ops[i]? = some o∧o.guard=none∧∀(j:Nat) oj,ops[j]? = some oj→i=j∨(∃e,e∈oj.after.toList∧Region.binds .any e=true∧e.on=i)∨o.apart ops oj=true)
  (hed:∀j o,ops.toList[j]? = some o→∀e,e∈o.after.toList→Region.binds .any e=true→e.on < j) {K:Nat→TL→Prop} {κ:Know} {ρ:Place} {l:LL} {w:World} {m:Nat}
  (hK:∀(L:Nat) (listed:Array Bool) (t:TL) (a:Act),listed.size=ops.size→(∀i,i < ops.size→listed.getD i false=L.testBit i)→m+cnt (fun i=>listed.getD i false) ops.size=ops.size→Rel G κ ρ t l a w→K L t→wpAny P .any ops Q m listed a w) :
  ∀(sf:List Nat) (L:Nat) (listed:Array Bool) (t:TL) (a:Act),(∀i,i∈sf→i∈sf0)→listed.size=ops.size→(∀i,i < ops.size→listed.getD i false=L.testBit i) →
   (m+sf.length)+cnt (fun i=>listed.getD i false) ops.size=ops.size→Rel G κ ρ t l a w→vcF ty ops.toList sf L t K→wpAny P .any ops Q (m+sf.length) listed a w:=by
 have same:∀{L:Nat} {listed:Array Bool},listed.size=ops.size→(∀i,i < ops.size→listed.getD i false=L.testBit i)→∀i,i∈rdy L 0 ops.toList→i∈Region.ready .any ops listed:=by
  intro L listed hs hL i
  rw [mem_ready,mem_rdy]
  rintro ⟨_,o,h2,h3,h4⟩
  rw [Nat.sub_zero,Array.getElem?_toList] at h2
  have hi:i < ops.size:=(Array.getElem?_eq_some_iff.1 h2).1
  refine ⟨?_,o,h2,fun e he hb=>?_⟩
  ·rw [←hL i hi] at h3;rw [Array.getD_eq_getD_getElem?] at h3 ⊢;rw [Array.getElem?_eq_getElem (by omega)] at h3 ⊢;exact h3
  ·have hlt:=hed i o (by rw [Array.getElem?_toList];exact h2) e (by simpa using he) hb
   rw [hL e.on (by omega)];exact h4 e (by simpa using he) hb
 intro sf
 induction sf with
 | nil=>intro L listed t a _ hs hL hn hr h;exact hK L listed t a hs hL hn hr h
 | cons i r ih =>
  intro L listed t a hin hs hL hn hr h
  unfold vcF at h
  split at h
  ·rename_i hm
   have hi:=memN_iff.1 hm
   obtain ⟨o,ho,hg,hap⟩:=hsf i (hin i (by simp))
   have hi':i < ops.size:=(Array.getElem?_eq_some_iff.1 ho).1
   rw [nth_eq,Array.getElem?_toList,ho] at h
   simp only at h
   obtain ⟨v,x,h1,h2,h3⟩:=vcS_sound hty hr h
   have hmem:o∈ops.toList:=List.mem_of_getElem? (by rw [Array.getElem?_toList];exact ho)
   have hl0:listed.getD i false=false:=by
    obtain ⟨_,o1,_,hbit,_⟩:=mem_rdy.1 hi
    rw [hL i hi'];exact hbit
   have hSS:(fun j=>(listed.setIfInBounds i true).getD j false)=setS (fun j=>listed.getD j false) i:=by
    funext j
    rw [setS_eq]
    by_cases e:j=i
    ·subst e;simp [Array.getD,hs,hi']
    ·rw [if_neg e,Array.getD_eq_getD_getElem?,Array.getD_eq_getD_getElem?,Array.getElem?_setIfInBounds_ne (fun h=>e h.symm)]
   refine wpAny_first (v:=v) ho hsel (fun c a w hq=>(hQp c _ _ hq).elim) (m+r.length) listed a w (fun j oj hoj hne _ hno=>?_) (same hs hL i hi) (.inl ⟨by simp [Region.wanted,hg],h1⟩) ?_
   ·rcases hap j oj hoj with h | ⟨e,he,hb,hon⟩ | h
    ·exact absurd h.symm hne
    ·exact absurd hon (hno e (by simpa using he) hb)
    ·exact h
   ·refine ih _ _ _ _ (fun j hj=>hin j (by simp [hj])) (by simpa using hs) (fun j hj=>?_) ?_ (hr.push h2 (hd o hmem)) h3
    ·have e1:(Nat.lor L (Nat.shiftLeft 1 i)).testBit j=(L.testBit j || decide (i=j)):=by
      show (L ||| (1 <<< i)).testBit j=_
      rw [Nat.testBit_or,Nat.one_shiftLeft,Nat.testBit_two_pow]
     rw [e1]
     by_cases hij:i=j
     ·subst hij
      simp [Array.getD,hs,hi']
     ·rw [Array.getD_eq_getD_getElem?,Array.getElem?_setIfInBounds_ne hij,←Array.getD_eq_getD_getElem?,hL j hj]
      simp [hij]
    ·rw [hSS,cnt_set hl0 hi']
     simp only [List.length_cons] at hn
     omega
  ·exact h.elim
def dpSetG (ops:List Oper) (Ls:List Nat) (F:Nat):List Nat→Bool
 | []=>true
 | L :: r=>(Nat.beq L F || match rdy L 0 ops with
  | []=>false
  | i :: s=>goOk Ls L (i :: s)) && dpSetG ops Ls F r
def dpAllG (P:Program) (ty:TypeId→Ty) (D:List (Option Nat)) (ops:List Oper) (xs:List (Nat×Nat×AV)) (tb:TL) (l:LL) (F:Nat):List Nat→Prop
 | []=>True
 | L :: r=>(match Nat.beq L F with
  | true=>True
  | false=>allK (rdy L 0 ops) fun i=>match nth ops i with
   | some o=>vcG P ty D o (selT L xs tb) l fun t' l'=>entT t' (selT (Nat.lor L (Nat.shiftLeft 1 i)) xs tb)∧entL l' l
   | none=>False)∧dpAllG P ty D ops xs tb l F r
theorem dpSetG_mem {ops:List Oper} {Ls:List Nat} {F:Nat}:∀{r:List Nat},dpSetG ops Ls F r=true→∀L,L∈r→L=F∨((∃i,i∈rdy L 0 ops)∧∀i,i∈rdy L 0 ops→Nat.lor L (Nat.shiftLeft 1 i)∈Ls)
 | [],_,L,hL=>by cases hL
 | M :: r,h,L,hL=>by
  simp only [dpSetG,Bool.and_eq_true,Bool.or_eq_true] at h
  rcases List.mem_cons.1 hL with rfl | hL
  ·rcases h.1 with h1 | h1
   ·exact .inl (Nat.eq_of_beq_eq_true h1)
   ·right
    cases e:rdy L 0 ops with
    | nil=>rw [e] at h1;cases h1
    | cons j s =>
     rw [e] at h1
     exact ⟨⟨j,by simp⟩,fun i hi=>goOk_mem h1 i hi⟩
  ·exact dpSetG_mem h.2 L hL
theorem dpAllG_mem {P:Program} {ty:TypeId→Ty} {D:List (Option Nat)} {ops:List Oper} {xs:List (Nat×Nat×AV)} {tb:TL} {l:LL} {F:Nat}:∀{r:List Nat},dpAllG P ty D ops xs tb l F r→∀L,L∈r→L≠F →
  allK (rdy L 0 ops) fun i=>match nth ops i with
   | some o=>vcG P ty D o (selT L xs tb) l fun t' l'=>entT t' (selT (Nat.lor L (Nat.shiftLeft 1 i)) xs tb)∧entL l' l
   | none=>False
 | [],_,L,hL,_=>by cases hL
 | M :: r,h,L,hL,hne=>by
  rcases List.mem_cons.1 hL with rfl | hL
  ·have h1:=h.1
   split at h1
   ·rename_i e;exact absurd (Nat.eq_of_beq_eq_true e) hne
   ·exact h1
  ·exact dpAllG_mem h.2 L hL hne
theorem cnt_cong {S S':Nat→Bool}:∀{n},(∀i,i < n→S i=S' i)→cnt S n=cnt S' n
 | 0,_=>rfl
 | n+1,h=>by
  unfold cnt
  rw [cnt_cong (n:=n) fun i hi=>h i (by omega),h n (by omega)]
theorem dpG_sound {ty:TypeId→Ty} (hty:TyOk P ty) {ops:Array Oper} {Q:Exit→Act→World→Prop} (hd:∀o,o∈ops.toList→∀d,o.dst=some d→d < G.n)
  (hed:∀j o,ops.toList[j]? = some o→∀e,e∈o.after.toList→Region.binds .any e=true→e.on < j)
  {Ls:List Nat} {F:Nat} {xs:List (Nat×Nat×AV)} {tb:TL} {l:LL}
  (hset:∀L,L∈Ls→L=F∨((∃i,i∈rdy L 0 ops.toList)∧∀i,i∈rdy L 0 ops.toList→Nat.lor L (Nat.shiftLeft 1 i)∈Ls))
  (hall:dpAllG P ty (ops.toList.map (·.dst)) ops.toList xs tb l F Ls) (κ0:Know)
  (hF:∀(n:Nat) (listed:Array Bool) (κ:Know) (ρ:Place) (a:Act) (w:World),κ0.le κ→listed.size=ops.size→(∀i,i < ops.size→listed.getD i false=F.testBit i)→n+cnt (fun i=>listed.getD i false) ops.size=ops.size→Rel G κ ρ (selT F xs tb) l a w→wpAny P .any ops Q n listed a w) :
  ∀(n:Nat) (L:Nat) (listed:Array Bool) (κ:Know) (ρ:Place) (a:Act) (w:World),L∈Ls→listed.size=ops.size→(∀i,i < ops.size→listed.getD i false=L.testBit i) →
   n+cnt (fun i=>listed.getD i false) ops.size=ops.size→κ0.le κ→Rel G κ ρ (selT L xs tb) l a w→wpAny P .any ops Q n listed a w:=by
 have same:∀{L:Nat} {listed:Array Bool},listed.size=ops.size→(∀i,i < ops.size→listed.getD i false=L.testBit i) →
   ∀i,i∈Region.ready .any ops listed↔i∈rdy L 0 ops.toList:=by
  intro L listed hs hL i
  rw [mem_ready,mem_rdy]
  constructor
  ·rintro ⟨h1,o,h2,h3⟩
   have hi:i < ops.size:=(Array.getElem?_eq_some_iff.1 h2).1
   refine ⟨Nat.zero_le _,o,by rw [Nat.sub_zero,Array.getElem?_toList];exact h2,?_,fun e he hb=>?_⟩
   ·rw [←hL i hi];rw [Array.getD_eq_getD_getElem?] at h1 ⊢;rw [Array.getElem?_eq_getElem (by omega)] at h1 ⊢;exact h1
   ·have:=h3 e (by simpa using he) hb
    have hlt:=hed i o (by rw [Array.getElem?_toList];exact h2) e he hb
    rw [←hL e.on (by omega)];exact this
  ·rintro ⟨_,o,h2,h3,h4⟩
   rw [Nat.sub_zero,Array.getElem?_toList] at h2
   have hi:i < ops.size:=(Array.getElem?_eq_some_iff.1 h2).1
   refine ⟨?_,o,h2,fun e he hb=>?_⟩
   ·rw [←hL i hi] at h3;rw [Array.getD_eq_getD_getElem?] at h3 ⊢;rw [Array.getElem?_eq_getElem (by omega)] at h3 ⊢;exact h3
   ·have hlt:=hed i o (by rw [Array.getElem?_toList];exact h2) e (by simpa using he) hb
    rw [hL e.on (by omega)];exact h4 e (by simpa using he) hb
 intro n
 induction n with
 | zero =>
  intro L listed κ ρ a w hm hs hL hn hle hr
  by_cases hLF:L=F
  ·subst hLF;exact hF 0 listed κ ρ a w hle hs hL hn hr
  have hfull:=cnt_full (S:=fun i=>listed.getD i false) (n:=ops.size) (by omega)
  obtain ⟨⟨i,hi⟩,_⟩:=(hset L hm).resolve_left hLF
  obtain ⟨_,o,h2,h3,_⟩:=mem_rdy.1 hi
  rw [Nat.sub_zero,Array.getElem?_toList] at h2
  have hi':i < ops.size:=(Array.getElem?_eq_some_iff.1 h2).1
  rw [←hL i hi',hfull i hi'] at h3
  cases h3
 | succ n ih =>
  intro L listed κ ρ a w hm hs hL hn hle hr
  by_cases hLF:L=F
  ·subst hLF;exact hF (n+1) listed κ ρ a w hle hs hL hn hr
  obtain ⟨⟨i0,hi0⟩,hmem'⟩:=(hset L hm).resolve_left hLF
  refine ⟨fun e'=>?_,fun i hi=>?_⟩
  ·have:i0∈Region.ready .any ops listed:=by rw [same hs hL];exact hi0
   rw [e'] at this;cases this
  ·rw [same hs hL i] at hi
   have hm':=hmem' i hi
   have h1:=allK_mem (dpAllG_mem hall L hm hLF) i hi
   obtain ⟨_,o1,_,hbit,_⟩:=mem_rdy.1 hi
   rw [nth_eq] at h1
   split at h1
   ·rename_i o ho
    have ho':ops[i]? = some o:=by rw [←Array.getElem?_toList];exact ho
    have hmem:o∈ops.toList:=List.mem_of_getElem? ho
    have hi':i < ops.size:=(Array.getElem?_eq_some_iff.1 ho').1
    have hl0:listed.getD i false=false:=by rw [hL i hi'];exact hbit
    have hSS:(fun j=>(listed.setIfInBounds i true).getD j false)=setS (fun j=>listed.getD j false) i:=by
     funext j
     rw [setS_eq]
     by_cases e:j=i
     ·subst e;simp [Array.getD,hs,hi']
     ·rw [if_neg e,Array.getD_eq_getD_getElem?,Array.getD_eq_getD_getElem?,Array.getElem?_setIfInBounds_ne (fun h=>e h.symm)]
    refine vcG_sound hty ho' (hd o hmem) hr h1 fun κ' ρ' t' l' a' w' k1 k2 k3=>?_
    obtain ⟨ρ2,_,hr2⟩:=k2.less (entT_get k3.1) (entL_get k3.2)
    refine ih _ _ κ' ρ2 a' w' hm' (by simpa using hs) (fun j hj=>?_) ?_ (Know.le_trans hle k1) hr2
    ·have e1:(Nat.lor L (Nat.shiftLeft 1 i)).testBit j=(L.testBit j || decide (i=j)):=by
      show (L ||| (1 <<< i)).testBit j=_
      rw [Nat.testBit_or,Nat.one_shiftLeft,Nat.testBit_two_pow]
     rw [e1]
     by_cases hij:i=j
     ·subst hij
      simp [Array.getD,hs,hi']
     ·rw [Array.getD_eq_getD_getElem?,Array.getElem?_setIfInBounds_ne hij,←Array.getD_eq_getD_getElem?,hL j hj]
      simp [hij]
    ·rw [hSS,cnt_set hl0 hi'];omega
   ·exact h1.elim
theorem VDraw.dpG {ty:TypeId→Ty} (hmo:P.follows .mixedOrders=true) (hty:TyOk P ty) {ops:Array Oper} {t:TL} {l:LL} {K:TL→LL→Prop} (sf:List Nat) (L0 F st m:Nat) (tb:TL) (xs:List (Nat×Nat×AV))
  (hc:slotsOk sf ops=true) (hle:Nat.ble sf.length ops.size=true) (hc2:hasN L0 (downs ops.toList st [L0])=true) (hc3:dpSetG ops.toList (downs ops.toList st [L0]) F (downs ops.toList st [L0])=true) (hm:m+cnt (fun i=>F.testBit i) ops.size=ops.size)
  (hf:vcF ty ops.toList sf 0 t fun L t'=>L=L0∧entT t' (selT L0 xs tb))
  (hall:dpAllG P ty (ops.toList.map (·.dst)) ops.toList xs tb l F (downs ops.toList st [L0])) (hK:vcAny P ty (ops.toList.map (·.dst)) ops.toList m F (selT F xs tb) l K):VDraw P ty ops t l K where
 out:=fun G κ ρ a w hr hd id Q hQ=>by
  unfold slotsOk at hc
  simp only [Bool.and_eq_true] at hc
  obtain ⟨⟨hc1,hcb⟩,hc4⟩:=hc
  have hle:=Nat.le_of_ble_eq_true hle
  have hed:∀j o,ops.toList[j]? = some o→∀e,e∈o.after.toList→Region.binds .any e=true→e.on < j:=fun j o ho=>by
   have:=(opsOk_spec hcb j o ho).ed
   rwa [Nat.zero_add] at this
  have hc0:cnt (fun i=>(Array.replicate ops.size false).getD i false) ops.size=0:=by
   have h':∀n,cnt (fun i=>(Array.replicate ops.size false).getD i false) n=0:=by
    intro n
    induction n with
    | zero=>rfl
    | succ n ih =>
     unfold cnt;rw [ih]
     have:(Array.replicate ops.size false).getD n false=false:=by
      rw [Array.getD_eq_getD_getElem?,Array.getElem?_replicate];split <;> rfl
     rw [this];rfl
   exact h' _
  refine Code.wp_mono (Q:=fun e a w=>match e with | .normal=>Q .normal a w | _=>False) (fun e a w h=>?_) (wp_region_any hmo ?_)
  ·cases e <;> first | exact h | exact h.elim
  ·rw [show ops.size=(ops.size - sf.length)+sf.length by omega]
   refine vcF_sound (m:=ops.size - sf.length) hty (sf0:=sf) hd (fun c a w h=>h) (fun j o cs b ho e=>?_) (fun i hi=>?_) hed (fun L listed t' a' hs hL hn hr' hK'=>?_) sf 0 _ t a (fun i h=>h) (by simp;omega) (fun i hi=>?_) ?_ (hr.grown rfl rfl rfl (Nat.le_refl _) (fun _ _=>rfl)) hf
   ·have:=List.all_eq_true.1 hc1 o (List.mem_of_getElem? (by rw [Array.getElem?_toList];exact ho))
    rw [e] at this;simp [selB] at this
   ·have:=List.all_eq_true.1 hc4 i hi
    split at this
    ·rename_i o ho
     rw [nth_eq,Array.getElem?_toList] at ho
     simp only [Bool.and_eq_true] at this
     refine ⟨o,ho,by simpa using this.1.2,fun j oj hoj=>?_⟩
     have:=apartsB_get this.2 j oj (by rw [Array.getElem?_toList];exact hoj)
     rwa [Nat.zero_add] at this
    ·cases this
   ·obtain ⟨rfl,ht⟩:=hK'
    obtain ⟨ρ2,_,hr2⟩:=hr'.less (entT_get ht) (fun i=>.inr rfl)
    refine dpG_sound hty hd hed (fun L hL=>dpSetG_mem hc3 L hL) hall κ (fun n listed κ' ρ' a' w' hk hs' hL' hn' hr''=>?_) (ops.size - sf.length) L listed κ ρ2 a' _ (hasN_mem hc2) hs hL hn (Know.le_refl _) hr2
    have hnm:n=m:=by
     have e:cnt (fun i=>listed.getD i false) ops.size=cnt (fun i=>F.testBit i) ops.size:=cnt_cong hL'
     rw [e] at hn'
     exact Nat.add_right_cancel (hn'.trans hm.symm)
    subst hnm
    refine vcAny_sound hty hd n F listed κ' ρ' _ l a' w' hs' hL' hr'' hK hed ?_
    exact fun κ'' ρ'' t'' l'' a'' w'' h1 h2 h3=>hQ κ'' ρ'' t'' l'' a'' w'' (Know.le_trans hk h1) h2 h3
   ·rw [show ops.size - sf.length+sf.length=ops.size by omega,Nat.zero_testBit,Array.getD_eq_getD_getElem?,Array.getElem?_replicate];split <;> rfl
   ·rw [show ops.size - sf.length+sf.length=ops.size by omega,hc0];omega
end
end Go.V
namespace Go.V
open Go.Proofs Go.RowKit
set_option maxRecDepth 10000
set_option maxHeartbeats 0
theorem fn_solve (n t:Nat) (p0:List Nat) (R0:Mt) (A:Fm) (h0:Gt n t A p0 R0 0) (hA:Inj n A) (h1:1≤n) (hn:n≤9) (ht:t≤5000) :
  Fn Tryz.prog 150 [.ls 1000000 0 n 1,.ls 1000001 0 n 3] [(1000000,smI p0 R0 n),(1000001,.row true 3 (cQ (vQ n p0 R0)))] (.tup [.ls 1000001 0 n 3,B true])
   [(1000000,smI (gjN n skT (p0,R0) n).1 (gjN n skT (p0,R0) n).2 n),(1000001,.row true 3 (cQ ((List.range n).map (xB n (lgF (gjN n skT (p0,R0) n).1 (gjN n skT (p0,R0) n).2) n))))]:=by
 have hG:=fun i hi=>gtN_ok (s:=(p0,R0)) h0 hA i hi
 have hT:∀i,i≤n→2 ^ i*t≤2560000:=fun i hi=>by
  have:2 ^ i*t≤2 ^ 9*5000:=Nat.mul_le_mul (Nat.pow_le_pow_right (by decide) (by omega)) ht
  omega
 have hnx:∀i,gjN n skT (p0,R0) (i+1)=(swapL 0 (gjN n skT (p0,R0) i).1 i (pivF (lgF (gjN n skT (p0,R0) i).1 (gjN n skT (p0,R0) i).2) i (n - i) i),elimR (swapL 0 (gjN n skT (p0,R0) i).1 i (pivF (lgF (gjN n skT (p0,R0) i).1 (gjN n skT (p0,R0) i).2) i (n - i) i)) i (skT i) n (gjN n skT (p0,R0) i).2):=fun i=>rfl
 obtain ⟨N,eN⟩:∃N:Nat→List Nat×Mt,N=gjN n skT (p0,R0):=⟨_,rfl⟩
 have hN0:N 0=(p0,R0):=by rw [eN];rfl
 rw [←eN] at hG hnx ⊢
 clear eN
 refine Fn.intro (ks:=[0,1,4,5,6,7,8,9,10,11,12,13,16,17,18,34,39,72,83,102,146,153]) hty rfl rfl rfl rfl rfl ?_
 conv=>whnf
 refine VLoop.inv hty (S:=Nat) (fun i=>[(17,I i),(16,I n),(6,I n),(1,.ls 1000001 0 n 3),(0,.ls 1000000 0 n 1)]) (fun i=>[(1000000,smI (N i).1 (N i).2 n),(1000001,.row true 3 (cQ (vQ n (N i).1 (N i).2)))]) (fun i=>i≤n) (fun i=>n - i) 0 (Nat.zero_le _) ⟨rfl,rfl,rfl,rfl,rfl,trivial⟩ ⟨by rw [hN0];rfl,by rw [hN0];rfl,trivial⟩ ?_
 intro i hi
 conv=>whnf
 refine Br.mk (fun h=>?_) (fun h=>?_)
 ·have h:i < n:=by simp only [decide_eq_true_eq] at h;omega
  have hGi:=hG i hi
  have hGn:=hG (i+1) h
  have enx:=hnx i
  have hTi:=hT i hi
  obtain ⟨T,eT⟩:∃T,2 ^ i*t=T:=⟨_,rfl⟩
  have hrow:=hGi.row
  rw [eT] at hTi hrow
  obtain ⟨g1,g2,g3⟩:=hGi.piv hA h
  have hplc:=hGi.pl
  generalize N i=s at hGi enx hrow g1 g2 g3 hplc ⊢
  obtain ⟨p,R⟩:=s
  dsimp only at hGi enx hrow g1 g2 g3 hplc ⊢
  have hpl:=hplc.pl
  obtain ⟨kp,ekp⟩:∃kp,pivF (lgF p R) i (n - i) i=kp:=⟨_,rfl⟩
  rw [ekp] at g1 g2 g3 enx
  have hsz:∀q j,q < n→j≤n→sz (lgF p R q j) < T:=fun q j hq hj=>(hrow q hq).sz (getD_mem (by rw [hplc.wd q hq];omega))
  conv=>whnf
  refine VLoop.inv hty (S:=Nat) (fun k=>[(17,I i),(16,I n),(8,I k),(7,I i),(6,I n),(1,.ls 1000001 0 n 3),(0,.ls 1000000 0 n 1)]) (fun _=>[(1000000,smI p R n),(1000001,.row true 3 (cQ (vQ n p R)))]) (fun k=>k≤n∧pivF (lgF p R) i (n - k) k=kp) (fun k=>n - k) i ⟨hi,ekp⟩ ⟨rfl,rfl,rfl,rfl,rfl,rfl,rfl,trivial⟩ ⟨rfl,rfl,trivial⟩ ?_
  rintro k ⟨hk,hkp⟩
  have hkn:k < n:=by
   rcases Nat.lt_or_eq_of_le hk with e | e
   ·exact e
   ·rw [e,Nat.sub_self] at hkp
    have:n=kp:=hkp
    omega
  rw [pivF_next hkn] at hkp
  have hwk:=hplc.wd k hkn
  have c1:=fn_sign (lgF p R k i) (by have:=hsz k i hkn (by omega);omega)
  have ez:=sgI_zeroD (lgF p R k i)
  conv=>whnf
  rw [decide_eq_true (show (k:Int) < (n:Int) by omega)]
  conv=>whnf
  refine ⟨by omega,?_⟩
  conv=>whnf
  refine ⟨_,ixW_at (w:=n) (i:=k) (by rw [hpl];omega),?_⟩
  conv=>whnf
  refine ⟨by omega,?_⟩
  conv=>whnf
  refine ⟨_,cR_atp hplc hkn,?_⟩
  conv=>whnf
  refine ⟨_,cQ_as (x:=lgF p R k i) (i:=i) (by rw [List.length_take];omega) (takeD_at (by omega)),?_⟩
  conv=>whnf
  refine VCall.of_data c1 (nd _) ?_
  conv=>whnf
  rw [ez]
  by_cases hz:lgF p R k i=0
  ·rw [if_pos hz] at hkp
   rw [decide_eq_true hz]
   conv=>whnf
   refine Wr.i64 (y:=((k+1:Nat):Int)) rfl (by omega) (by omega) ?_
   conv=>whnf
   exact ⟨k+1,⟨hkn,hkp⟩,by show n - (k+1) < n - k;omega,⟨rfl,rfl,rfl,rfl,rfl,rfl,rfl,trivial⟩,rfl,rfl,trivial⟩
  rw [if_neg hz] at hkp
  subst hkp
  rw [decide_eq_false hz]
  conv=>whnf
  rw [decide_eq_false (show ¬(k:Int)=(n:Int) by omega)]
  conv=>whnf
  have hps:=hplc.swap h hkn
  have elgs:=fun q=>lg_swap hplc h hkn q
  have evs:=vQ_swap hplc h hkn
  have hgjn:=hGi.next h g1 hkn g3
  have xi:=ixW_at (w:=n) (show i < p.length by omega)
  have xk:=ixW_at (w:=n) (show k < p.length by omega)
  have hvl:=vQ_len n p R
  obtain ⟨v,ev⟩:∃v,vQ n p R=v:=⟨_,rfl⟩
  rw [ev] at evs hvl ⊢
  have yi:=cQ_as (xs:=v) (i:=i) (x:=v.getD i 0) (by omega) rfl
  have yk:=cQ_as (xs:=v) (i:=k) (x:=v.getD k 0) (by omega) rfl
  obtain ⟨vi,evi⟩:∃x,v.getD i 0=x:=⟨_,rfl⟩
  obtain ⟨vk,evk⟩:∃x,v.getD k 0=x:=⟨_,rfl⟩
  obtain ⟨pi,epi⟩:∃x,p.getD i 0=x:=⟨_,rfl⟩
  obtain ⟨pk,epk⟩:∃x,p.getD k 0=x:=⟨_,rfl⟩
  rw [evi] at yi
  rw [evk] at yk
  rw [epi] at xi
  rw [epk] at xk
  obtain ⟨RR,eRR⟩:∃RR,cR (tk n R)=RR:=⟨_,rfl⟩
  have hxl:=ixW_len p n
  rw [hpl] at hxl
  have hyl:(cQ v).length=n:=by rw [cQ_len,hvl]
  obtain ⟨X,eX⟩:∃X,ixW p n=X:=⟨_,rfl⟩
  rw [eX] at xi xk hxl
  rw [show smI p R n=Ob.mat 3 X RR by rw [←eX,←eRR]]
  obtain ⟨Y,eY⟩:∃Y,cQ v=Y:=⟨_,rfl⟩
  rw [eY] at yi yk hyl ⊢
  refine VDraw.dpG hmo hty [0,1,2,3,4,5,6,7,8,9,12,13,16,17,20,21] 3355647 33554431 9 7
   [(61,I i),(60,.ls 1000001 0 n 3),(57,I k),(56,.ls 1000001 0 n 3),(53,I i),(52,.ls 1000000 0 n 1),(49,I k),(48,.ls 1000000 0 n 1),(47,I k),(46,.ls 1000001 0 n 3),(45,I i),(44,.ls 1000001 0 n 3),(43,I k),(42,.ls 1000000 0 n 1),(41,I i),(40,.ls 1000000 0 n 1),
    (17,I i),(16,I n),(8,I k),(7,I i),(6,I n),(1,.ls 1000001 0 n 3),(0,.ls 1000000 0 n 1)]
   [(10,50,.pe 1000000 k 0 1),(11,51,.ms 1000000 pk 0 n 3),(14,54,.pe 1000000 i 0 1),(15,55,.ms 1000000 pi 0 n 3),(18,58,.pe 1000001 k 0 3),(19,59,rI vk),(22,62,.pe 1000001 i 0 3),(23,63,rI vi),(24,64,.pe 1000000 i 0 1)]
   rfl rfl rfl rfl rfl ?_ ?_ ?_
  ·conv=>whnf
   repeat' (first | exact rfl | exact trivial | (refine And.intro ?_ ?_ <;> conv=>whnf))
  ·conv=>whnf
   repeat' (first
    | exact rfl
    | exact trivial
    | (refine ⟨rfl,?_⟩;conv=>whnf)
    | (refine ⟨by omega,?_⟩;conv=>whnf)
    | (refine ⟨_,xk,?_⟩;conv=>whnf)
    | (refine ⟨_,xi,?_⟩;conv=>whnf)
    | (refine ⟨_,yk,?_⟩;conv=>whnf)
    | (refine ⟨_,yi,?_⟩;conv=>whnf)
    | (refine And.intro ?_ ?_ <;> conv=>whnf))
  conv=>whnf
  refine ⟨by rw [hxl];show i+0 < n;omega,?_⟩
  conv=>whnf
  refine ⟨by omega,?_⟩
  conv=>whnf
  refine ⟨by rw [List.length_set,hxl];show k+0 < n;omega,?_⟩
  conv=>whnf
  refine ⟨by omega,?_⟩
  conv=>whnf
  refine ⟨by rw [hyl];show i+0 < n;omega,?_⟩
  conv=>whnf
  refine ⟨by omega,?_⟩
  conv=>whnf
  refine ⟨by rw [List.length_set,hyl];show k+0 < n;omega,?_⟩
  conv=>whnf
  refine Wr.i64 (y:=((i+1:Nat):Int)) rfl (by omega) (by omega) ?_
  conv=>whnf
  have hel:=fun r hr=>elimR_is (sk:=skT i) hps h (decide_eq_true (Nat.le_refl i)) r hr
  have hsk:=elimR_skip hps h (i+1) (Nat.le_refl _)
  have eX2:(X.set i (.r pk 0 n)).set k (.r pi 0 n)=ixW (swapL 0 p i k) n:=by rw [←eX,ixW_set,ixW_set,←epk,←epi];rfl
  have eY2:(Y.set i (c1Q vk)).set k (c1Q vi)=cQ (vQ n (swapL 0 p i k) R):=by rw [←evs,←eY,cQ_set,cQ_set,←evk,←evi];rfl
  have hszs:∀q j,q < n→j≤n→sz ((lg (swapL 0 p i k) R q).getD j 0) < T:=fun q j hq hj=>by rw [elgs];exact hsz _ j (swF_lt h hkn hq) hj
  have hdia:(lg (swapL 0 p i k) R i).getD i 0≠0:=by
   rw [elgs]
   have esw:swF i k i=k:=by unfold swF;by_cases e:i=k;rw [if_pos e];exact e;rw [if_neg e,if_pos rfl]
   rw [esw];exact g3
  obtain ⟨p2,ep2⟩:∃p2,swapL 0 p i k=p2:=⟨_,rfl⟩
  rw [ep2] at hps enx hel hsk hszs hdia eX2 eY2
  clear hxl hyl xi xk yi yk eX eY evs ev hvl evi evk epi epk elgs hgjn g3 g2 g1 ekp hz ez c1 hwk hsz hrow hpl hplc hGi ep2
  have hpl:=hps.pl
  refine VLoop.inv hty (S:=Nat) (fun r=>[(17,I i),(16,I n),(9,I r),(7,I i),(6,I n),(1,.ls 1000001 0 n 3),(0,.ls 1000000 0 n 1)]) (fun r=>[(1000000,smI p2 (elimR p2 i (skT i) r R) n),(1000001,.row true 3 (cQ (vQ n p2 (elimR p2 i (skT i) r R))))]) (fun r=>i+1≤r∧r≤n) (fun r=>n - r) (i+1) ⟨Nat.le_refl _,h⟩ ⟨rfl,rfl,rfl,rfl,rfl,rfl,rfl,trivial⟩ ⟨?_,?_,trivial⟩ ?_
  ·show Ob.mat 3 ((X.set i (.r pk 0 n)).set k (.r pi 0 n)) RR=_
   rw [hsk,eX2,←eRR]
  ·show Ob.row true 3 ((Y.set i (c1Q vk)).set k (c1Q vi))=_
   rw [hsk,eY2]
  clear eX2 eY2 eRR X Y RR
  rintro r ⟨hir,hr⟩
  conv=>whnf
  refine Br.mk (fun h2=>?_) (fun h2=>?_)
  ·have h2:r < n:=by simp only [decide_eq_true_eq] at h2;omega
   obtain ⟨q1,q2⟩:=hel r hr
   have e1:elimR p2 i (skT i) (r+1) R=(elimR p2 i (skT i) r R).set (p2.getD r 0) (elRow i (skT i) (lg p2 (elimR p2 i (skT i) r R) i) (lg p2 (elimR p2 i (skT i) r R) r) r):=rfl
   have e2:lg p2 (elimR p2 i (skT i) r R) r=lg p2 R r:=by rw [q2 r h2,if_neg (Nat.lt_irrefl r)]
   have e3:lg p2 (elimR p2 i (skT i) r R) i=lg p2 R i:=by
    rw [q2 i h]
    split
    ·unfold elRow;rw [if_pos (.inl (decide_eq_true (Nat.le_refl i)))]
    ·rfl
   rw [e2,e3] at e1
   have hlt:=hps.lt r h2
   have s1:=hszs r i h2 (by omega)
   have s2:=hszs i i h (by omega)
   have al:=hps.wd r h2
   have bl:=hps.wd i h
   obtain ⟨a,ea⟩:∃a,lg p2 R r=a:=⟨_,rfl⟩
   obtain ⟨b,eb⟩:∃b,lg p2 R i=b:=⟨_,rfl⟩
   have hsa:∀j,j≤n→sz (a.getD j 0) < T:=fun j hj=>by rw [←ea];exact hszs r j h2 hj
   have hsb:∀j,j≤n→sz (b.getD j 0) < T:=fun j hj=>by rw [←eb];exact hszs i j h hj
   rw [ea] at e1 e2 s1 al
   rw [eb] at e1 e3 s2 bl hdia
   obtain ⟨Z,eZ⟩:∃Z,elimR p2 i (skT i) r R=Z:=⟨_,rfl⟩
   rw [eZ] at q1 e1 e2 e3 ⊢
   have ya:=cR_atp q1 h2
   have yb:=cR_atp q1 h
   rw [e2] at ya
   rw [e3] at yb
   have hZl:=q1.rl
   have c1:=fn_sign (a.getD i 0) (by omega)
   have ez:=sgI_zeroD (a.getD i 0)
   conv=>whnf
   refine ⟨by omega,?_⟩
   conv=>whnf
   refine ⟨_,ixW_at (w:=n) (i:=r) (by rw [hpl];omega),?_⟩
   conv=>whnf
   refine ⟨by omega,?_⟩
   conv=>whnf
   refine ⟨_,ya,?_⟩
   conv=>whnf
   refine ⟨_,cQ_as (x:=a.getD i 0) (i:=i) (by rw [List.length_take];omega) (takeD_at (by omega)),?_⟩
   conv=>whnf
   refine VCall.of_data c1 (nd _) ?_
   conv=>whnf
   rw [ez]
   by_cases hz0:a.getD i 0=0
   ·have e4:elimR p2 i (skT i) (r+1) R=Z:=by
     rw [e1];unfold elRow;rw [if_pos (.inr hz0)];exact set_same (by omega) e2
    rw [decide_eq_true hz0]
    conv=>whnf
    refine Wr.i64 (y:=((r+1:Nat):Int)) rfl (by omega) (by omega) ?_
    conv=>whnf
    refine ⟨r+1,⟨by omega,by omega⟩,by show n - (r+1) < n - r;omega,⟨rfl,rfl,rfl,rfl,rfl,rfl,rfl,trivial⟩,?_,?_,trivial⟩
    ·rw [e4];rfl
    ·rw [e4];rfl
   have e4:elimR p2 i (skT i) (r+1) R=Z.set (p2.getD r 0) (subRow i (n+1) (a.getD i 0 / b.getD i 0) b a):=by
    rw [e1];unfold elRow;rw [if_neg (by rintro (e | e);exact absurd (of_decide_eq_true e) (by omega);exact hz0 e),al]
   have k2:=fn_rover (a.getD i 0) (b.getD i 0) (by omega) (by omega) hdia
   have sf:=sz_div (a.getD i 0) hdia
   obtain ⟨f,ef⟩:∃f,a.getD i 0 / b.getD i 0=f:=⟨_,rfl⟩
   rw [ef] at k2 e4 sf
   rw [decide_eq_false hz0]
   conv=>whnf
   refine VDraw.go hmo hty 16 [[10],[10],[10],[10],[10],[10],[10],[10],[10],[10],[10],[10],[10],[10],[10],[]] rfl ?_
   conv=>whnf
   refine ⟨by omega,?_⟩
   conv=>whnf
   refine ⟨_,ixW_at (w:=n) (i:=r) (by rw [hpl];omega),?_⟩
   conv=>whnf
   refine ⟨by omega,?_⟩
   conv=>whnf
   refine ⟨_,ya,?_⟩
   conv=>whnf
   refine ⟨_,cQ_as (x:=a.getD i 0) (i:=i) (by rw [List.length_take];omega) (takeD_at (by omega)),?_⟩
   conv=>whnf
   refine ⟨by omega,?_⟩
   conv=>whnf
   refine ⟨_,ixW_at (w:=n) (i:=i) (by rw [hpl];omega),?_⟩
   conv=>whnf
   refine ⟨by omega,?_⟩
   conv=>whnf
   refine ⟨_,yb,?_⟩
   conv=>whnf
   refine ⟨_,cQ_as (x:=b.getD i 0) (i:=i) (by rw [List.length_take];omega) (takeD_at (by omega)),?_⟩
   conv=>whnf
   refine QCall.of_data k2 (ndA fun k=>rfl) ?_
   conv=>whnf
   refine VLoop.inv hty (S:=Nat) (fun j=>[(17,I i),(16,I n),(11,I j),(10,.lp 10 0),(9,I r),(7,I i),(6,I n),(1,.ls 1000001 0 n 3),(0,.ls 1000000 0 n 1)]) (fun j=>[(10,.box true [B (ng f),nI (tp f),nI f.den]),(1000000,smI p2 (Z.set (p2.getD r 0) (subRow i j f b a)) n),(1000001,.row true 3 (cQ (vQ n p2 Z)))]) (fun j=>i≤j∧j≤n) (fun j=>n - j) i ⟨Nat.le_refl _,by omega⟩ ⟨rfl,rfl,rfl,rfl,rfl,rfl,rfl,rfl,rfl,trivial⟩ ⟨rfl,?_,rfl,trivial⟩ ?_
   ·rw [subRow_none,set_same (by omega) e2];rfl
   rintro j ⟨hij,hj⟩
   conv=>whnf
   refine Br.mk (fun h3=>?_) (fun h3=>?_)
   ·have h3:j < n:=by simp only [decide_eq_true_eq] at h3;omega
    have q3:=q1.set (x:=subRow i j f b a) h2 (by rw [subRow_len,al])
    have yj:=cR_atp q3 h2
    rw [lg_set q1 h2 h2,if_pos rfl] at yj
    have yi:=cR_atp q3 h
    rw [lg_set q1 h2 h,if_neg (by omega),e3] at yi
    have hjl:(subRow i j f b a).length=n+1:=by rw [subRow_len,al]
    have vj:(subRow i j f b a).getD j 0=a.getD j 0:=by rw [subRow_at (by omega),if_neg (by omega)]
    have hnj:=subRow_next (f:=f) (b:=b) (a:=a) (c:=i) (m:=j) hij (by omega)
    have t1:=hsa j (by omega)
    have t2:=hsb j (by omega)
    have t3:=sz_mul f (b.getD j 0)
    have k3:=fn_rmul f (b.getD j 0) (by omega) (by omega)
    have k4:=fn_rsub (a.getD j 0) (f*b.getD j 0) (by omega)
    have hZs:(Z.set (p2.getD r 0) (subRow i j f b a)).length=n:=by rw [List.length_set,hZl]
    obtain ⟨rj,erj⟩:∃rj,subRow i j f b a=rj:=⟨_,rfl⟩
    rw [erj] at yj yi hjl vj hnj hZs ⊢
    conv=>whnf
    refine VDraw.go hmo hty 23 [] rfl ?_
    conv=>whnf
    refine ⟨by omega,?_⟩
    conv=>whnf
    refine ⟨_,ixW_at (w:=n) (i:=r) (by rw [hpl];omega),?_⟩
    conv=>whnf
    refine ⟨by omega,?_⟩
    conv=>whnf
    refine ⟨_,ixW_at (w:=n) (i:=r) (by rw [hpl];omega),?_⟩
    conv=>whnf
    refine ⟨by omega,?_⟩
    conv=>whnf
    refine ⟨_,yj,?_⟩
    conv=>whnf
    refine ⟨_,cQ_as (x:=a.getD j 0) (i:=j) (by rw [List.length_take];omega) (by rw [takeD_at (by omega),vj]),?_⟩
    conv=>whnf
    refine ⟨by omega,?_⟩
    conv=>whnf
    refine ⟨_,ixW_at (w:=n) (i:=i) (by rw [hpl];omega),?_⟩
    conv=>whnf
    refine ⟨by omega,?_⟩
    conv=>whnf
    refine ⟨_,yi,?_⟩
    conv=>whnf
    refine ⟨_,cQ_as (x:=b.getD j 0) (i:=j) (by rw [List.length_take];omega) (takeD_at (by omega)),?_⟩
    conv=>whnf
    refine QCall.of_data k3 (ndA fun k=>rfl) ?_
    conv=>whnf
    refine QCall.of_data k4 (ndA fun k=>rfl) ?_
    conv=>whnf
    refine ⟨by omega,?_⟩
    conv=>whnf
    refine ⟨_,yj,?_⟩
    conv=>whnf
    refine ⟨by rw [cQ_len,List.length_take];show j+0 < _;omega,?_⟩
    conv=>whnf
    refine Wr.i64 (y:=((j+1:Nat):Int)) rfl (by omega) (by omega) ?_
    conv=>whnf
    refine ⟨j+1,⟨by omega,by omega⟩,by show n - (j+1) < n - j;omega,⟨rfl,rfl,rfl,rfl,rfl,rfl,rfl,rfl,rfl,trivial⟩,rfl,?_,rfl,trivial⟩
    show Ob.mat 3 (ixW p2 n) ((cR (tk n (Z.set (p2.getD r 0) rj))).set (p2.getD r 0) ((cQ (rj.take n)).set j (c1Q (a.getD j 0 - f*b.getD j 0))))=smI p2 _ n
    rw [cQ_set,←List.take_set,hnj,cR_set,tk_set,List.set_set]
   ·have h3:j=n:=by simp only [decide_eq_false_iff_not] at h3;omega
    have hsn:=subRow_next (f:=f) (b:=b) (a:=a) (c:=i) (m:=n) (by omega) (by omega)
    have e0:(subRow i n f b a).take n=(subRow i (n+1) f b a).take n:=by rw [←hsn,List.take_set,List.set_eq_of_length_le (by rw [List.length_take];omega)]
    have etk:tk n (Z.set (p2.getD r 0) (subRow i n f b a))=tk n (Z.set (p2.getD r 0) (subRow i (n+1) f b a)):=by rw [←tk_set,←tk_set,e0]
    have esm:smI p2 (Z.set (p2.getD r 0) (subRow i n f b a)) n=smI p2 (Z.set (p2.getD r 0) (subRow i (n+1) f b a)) n:=congrArg (fun X=>Ob.mat 3 (ixW p2 n) (cR X)) etk
    have hvl:=vQ_len n p2 Z
    have vr:(vQ n p2 Z).getD r 0=a.getD n 0:=by rw [vQ_at h2];unfold lgF;rw [e2]
    have vi:(vQ n p2 Z).getD i 0=b.getD n 0:=by rw [vQ_at h];unfold lgF;rw [e3]
    have vs:=vQ_set (x:=subRow i (n+1) f b a) q1 h2
    rw [subRow_at (by omega),if_pos ⟨by omega,by omega⟩] at vs
    have t1:=hsa n (Nat.le_refl _)
    have t2:=hsb n (Nat.le_refl _)
    have t3:=sz_mul f (b.getD n 0)
    have k3:=fn_rmul f (b.getD n 0) (by omega) (by omega)
    have k4:=fn_rsub (a.getD n 0) (f*b.getD n 0) (by omega)
    rw [h3,esm]
    obtain ⟨v,ev⟩:∃v,vQ n p2 Z=v:=⟨_,rfl⟩
    rw [ev] at hvl vr vi vs ⊢
    obtain ⟨Z2,eZ2⟩:∃Z2,Z.set (p2.getD r 0) (subRow i (n+1) f b a)=Z2:=⟨_,rfl⟩
    rw [eZ2] at e4 vs ⊢
    conv=>whnf
    refine VDraw.go hmo hty 14 [] rfl ?_
    conv=>whnf
    refine ⟨by omega,?_⟩
    conv=>whnf
    refine ⟨_,cQ_as (x:=a.getD n 0) (i:=r) (by omega) vr,?_⟩
    conv=>whnf
    refine ⟨by omega,?_⟩
    conv=>whnf
    refine ⟨_,cQ_as (x:=b.getD n 0) (i:=i) (by omega) vi,?_⟩
    conv=>whnf
    refine QCall.of_data k3 (ndA fun k=>rfl) ?_
    conv=>whnf
    refine QCall.of_data k4 (ndA fun k=>rfl) ?_
    conv=>whnf
    refine ⟨by omega,?_⟩
    conv=>whnf
    refine ⟨by rw [cQ_len,hvl];show r+0 < n;omega,?_⟩
    conv=>whnf
    refine Wr.i64 (y:=((r+1:Nat):Int)) rfl (by omega) (by omega) ?_
    conv=>whnf
    refine ⟨r+1,⟨by omega,by omega⟩,by show n - (r+1) < n - r;omega,⟨rfl,rfl,rfl,rfl,rfl,rfl,rfl,trivial⟩,?_,?_,trivial⟩
    ·rw [e4];rfl
    ·rw [e4,←vs,←cQ_set];rfl
  ·have h2:r=n:=by simp only [decide_eq_false_iff_not] at h2;omega
   rw [h2]
   conv=>whnf
   refine Wr.i64 (y:=((i+1:Nat):Int)) rfl (by omega) (by omega) ?_
   conv=>whnf
   refine ⟨i+1,h,by show n - (i+1) < n - i;omega,⟨rfl,rfl,rfl,rfl,rfl,trivial⟩,?_,?_,trivial⟩
   ·rw [enx];rfl
   ·rw [enx];rfl
 ·have h:i=n:=by simp only [decide_eq_false_iff_not] at h;omega
  rw [h]
  have hGn:=hG n (Nat.le_refl _)
  have hTn:=hT n (Nat.le_refl _)
  obtain ⟨T,eT⟩:∃T,2 ^ n*t=T:=⟨_,rfl⟩
  have hrow:=hGn.row
  rw [eT] at hTn hrow
  have htri:=hGn.tri
  have hplc:=hGn.pl
  clear hGn hG hnx hT
  generalize N n=s at hrow htri hplc ⊢
  obtain ⟨p,R⟩:=s
  dsimp only at hrow htri hplc ⊢
  have hpl:=hplc.pl
  have hsz:∀q j,q < n→j≤n→sz (lgF p R q j)≤T:=fun q j hq hj=>Nat.le_of_lt ((hrow q hq).sz (getD_mem (by rw [hplc.wd q hq];omega)))
  have hd0:∀r,r < n→lgF p R r r≠0:=fun r hr=>(htri r hr).1
  have hAat:∀r j,(lg p R r).getD j 0=lgF p R r j:=fun r j=>rfl
  have hv0:vQ n p R=(List.range n).map (xB n (lgF p R) 0):=rfl
  rw [hv0]
  obtain ⟨B,eB⟩:∃B,lgF p R=B:=⟨_,rfl⟩
  rw [eB] at hsz hd0 hAat ⊢
  clear hrow htri eB hv0
  conv=>whnf
  refine Wr.i64 (y:=(n:Int) - 1) rfl (by omega) (by omega) ?_
  conv=>whnf
  refine VLoop.inv hty (S:=Nat) (fun d=>[(12,I ((n:Int) - 1 - (d:Int))),(6,I n),(1,.ls 1000001 0 n 3),(0,.ls 1000000 0 n 1)]) (fun d=>[(1000000,smI p R n),(1000001,.row true 3 (cQ ((List.range n).map (xB n B d))))]) (fun d=>d≤n) (fun d=>n - d) 0 (Nat.zero_le _) ⟨congrArg I (by omega),rfl,rfl,rfl,trivial⟩ ⟨rfl,rfl,trivial⟩ ?_
  intro d hd
  conv=>whnf
  refine Br.mk (fun h2=>?_) (fun h2=>?_)
  ·have h2:d < n:=by simp only [decide_eq_true_eq] at h2;omega
   obtain ⟨i,ei⟩:∃i,n - 1 - d=i:=⟨_,rfl⟩
   have hii:(n:Int) - 1 - (d:Int)=(i:Int):=by omega
   have hin:i < n:=by omega
   obtain ⟨b1,_⟩:=sB_next hsz hd0 (by omega) h2
   rw [ei] at b1
   have b3:=sB_le hsz hd0 (by omega) d hd
   have b4:2 ^ d*(14*T+12)≤2 ^ 9*(14*2560000+12):=Nat.mul_le_mul (Nat.pow_le_pow_right (by decide) (by omega)) (by omega)
   have hx:∀c,i < c→c < n→sz (xB n B d c)≤sB n B d:=fun c h3 h4=>by
    have:=sS_one (f:=fun j=>if n - d≤j then sz (xB n B d j) else 0) h4
    rw [if_pos (by omega)] at this
    exact this
   have hxi:xB n B d i=B i n:=xB_old hin (by omega)
   have hxn:∀j,xB n B (d+1) j=if j=i then bkS B (xB n B d) (B j n) j n / B j j else xB n B d j:=fun j=>by rw [←ei];rfl
   obtain ⟨x,ex⟩:∃x,xB n B d=x:=⟨_,rfl⟩
   obtain ⟨SB,eSB⟩:∃S,sB n B d=S:=⟨_,rfl⟩
   rw [ex] at b1 hx hxi hxn
   rw [eSB] at b1 b3 hx
   obtain ⟨P2,eP2⟩:∃P2,2 ^ d*(14*T+12)=P2:=⟨_,rfl⟩
   rw [eP2] at b3 b4
   have hSB:SB≤18400000000:=by omega
   clear b3 b4 eP2 eSB
   obtain ⟨L,eL⟩:∃L,(List.range n).map x=L:=⟨_,rfl⟩
   have hLl:L.length=n:=by rw [←eL];simp
   have hLat:∀c,c < n→L.getD c 0=x c:=fun c hc=>by rw [←eL];exact map_at hc
   have hnx:(List.range n).map (xB n B (d+1))=L.set i (bkS B x (B i n) i n / B i i):=by
    apply list_getD_ext (by rw [List.length_set,hLl];simp)
    intro j hj
    have hj:j < n:=by simpa using hj
    rw [map_at hj,gsetD (by omega),hxn]
    by_cases e:j=i
    ·subst e;rw [if_pos rfl,if_pos rfl]
    ·rw [if_neg e,if_neg e,hLat j hj]
   have hset0:L.set i (B i n)=L:=by
    apply list_getD_ext (by rw [List.length_set])
    intro j hj
    rw [gsetD (by omega)]
    by_cases e:j=i
    ·subst e;rw [if_pos rfl,hLat j hin,hxi]
    ·rw [if_neg e]
   rw [hii,ex,eL]
   have hw0:bkS B x (B i n) i (i+1)=B i n:=bkS_low (Nat.le_refl _)
   have hws:∀c,i < c→bkS B x (B i n) i (c+1)=bkS B x (B i n) i c - B i c*x c:=fun c hc=>if_pos hc
   obtain ⟨W,eW⟩:∃W:Nat→Rat,bkS B x (B i n) i=W:=⟨_,rfl⟩
   rw [eW] at b1 hnx hw0 hws
   have ya:=cR_atp hplc hin
   have hwd:=hplc.wd i hin
   conv=>whnf
   refine Wr.i64 (y:=((i+1:Nat):Int)) rfl (by omega) (by omega) ?_
   conv=>whnf
   refine VLoop.inv hty (S:=Nat) (fun c=>[(13,I c),(12,I i),(6,I n),(1,.ls 1000001 0 n 3),(0,.ls 1000000 0 n 1)]) (fun c=>[(1000000,smI p R n),(1000001,.row true 3 (cQ (L.set i (W c))))]) (fun c=>i+1≤c∧c≤n) (fun c=>n - c) (i+1) ⟨Nat.le_refl _,by omega⟩ ⟨rfl,rfl,rfl,rfl,rfl,trivial⟩ ⟨rfl,by rw [hw0,hset0];rfl,trivial⟩ ?_
   rintro c ⟨hc1,hc2⟩
   have vi:(L.set i (W c)).getD i 0=W c:=by rw [gsetD (by omega),if_pos rfl]
   have hvl:(L.set i (W c)).length=n:=by rw [List.length_set,hLl]
   have z1:=b1 c hc2
   conv=>whnf
   refine Br.mk (fun h3=>?_) (fun h3=>?_)
   ·have h3:c < n:=by simp only [decide_eq_true_eq] at h3;omega
    have vc:(L.set i (W c)).getD c 0=x c:=by rw [gsetD (by omega),if_neg (by omega)];exact hLat c h3
    have z2:=hx c (by omega) h3
    have z3:=hsz i c hin (by omega)
    have z4:=sz_mul (B i c) (x c)
    have k3:=fn_rmul (B i c) (x c) (by omega) (by omega)
    have k4:=fn_rsub (W c) (B i c*x c) (by omega)
    have hwc:=hws c (by omega)
    have enx:(L.set i (W c)).set i (W c - B i c*x c)=L.set i (W (c+1)):=by rw [List.set_set,hwc]
    obtain ⟨v,ev⟩:∃v,L.set i (W c)=v:=⟨_,rfl⟩
    rw [ev] at vi hvl vc enx ⊢
    conv=>whnf
    refine VDraw.go hmo hty 20 [] rfl ?_
    conv=>whnf
    refine ⟨by omega,?_⟩
    conv=>whnf
    refine ⟨_,cQ_as (x:=W c) (i:=i) (by omega) vi,?_⟩
    conv=>whnf
    refine ⟨by omega,?_⟩
    conv=>whnf
    refine ⟨_,ixW_at (w:=n) (i:=i) (by rw [hpl];omega),?_⟩
    conv=>whnf
    refine ⟨by omega,?_⟩
    conv=>whnf
    refine ⟨_,ya,?_⟩
    conv=>whnf
    refine ⟨_,cQ_as (x:=B i c) (i:=c) (by rw [List.length_take];omega) (by rw [takeD_at (by omega)];exact hAat i c),?_⟩
    conv=>whnf
    refine ⟨by omega,?_⟩
    conv=>whnf
    refine ⟨_,cQ_as (x:=x c) (i:=c) (by omega) vc,?_⟩
    conv=>whnf
    refine QCall.of_data k3 (ndA fun k=>rfl) ?_
    conv=>whnf
    refine QCall.of_data k4 (ndA fun k=>rfl) ?_
    conv=>whnf
    refine ⟨by omega,?_⟩
    conv=>whnf
    refine ⟨by rw [cQ_len,hvl];show i+0 < n;omega,?_⟩
    conv=>whnf
    refine Wr.i64 (y:=((c+1:Nat):Int)) rfl (by omega) (by omega) ?_
    conv=>whnf
    refine ⟨c+1,⟨by omega,by omega⟩,by show n - (c+1) < n - c;omega,⟨rfl,rfl,rfl,rfl,rfl,trivial⟩,rfl,?_,trivial⟩
    rw [←enx,←cQ_set];rfl
   ·have h3:c=n:=by simp only [decide_eq_false_iff_not] at h3;omega
    subst h3
    have z3:=hsz i i hin (by omega)
    have k5:=fn_rover (W c) (B i i) (by omega) (by omega) (hd0 i hin)
    have enx:(L.set i (W c)).set i (W c / B i i)=(List.range c).map (xB c B (d+1)):=by rw [List.set_set,hnx]
    obtain ⟨v,ev⟩:∃v,L.set i (W c)=v:=⟨_,rfl⟩
    rw [ev] at vi hvl enx ⊢
    conv=>whnf
    refine VDraw.go hmo hty 15 [] rfl ?_
    conv=>whnf
    refine ⟨by omega,?_⟩
    conv=>whnf
    refine ⟨_,cQ_as (x:=W c) (i:=i) (by omega) vi,?_⟩
    conv=>whnf
    refine ⟨by omega,?_⟩
    conv=>whnf
    refine ⟨_,ixW_at (w:=c) (i:=i) (by rw [hpl];omega),?_⟩
    conv=>whnf
    refine ⟨by omega,?_⟩
    conv=>whnf
    refine ⟨_,ya,?_⟩
    conv=>whnf
    refine ⟨_,cQ_as (x:=B i i) (i:=i) (by rw [List.length_take];omega) (by rw [takeD_at (by omega)];exact hAat i i),?_⟩
    conv=>whnf
    refine QCall.of_data k5 (ndA fun k=>rfl) ?_
    conv=>whnf
    refine ⟨by omega,?_⟩
    conv=>whnf
    refine ⟨by rw [cQ_len,hvl];show i+0 < c;omega,?_⟩
    conv=>whnf
    refine Wr.i64 (y:=(c:Int) - 1 - ((d+1:Nat):Int)) (by omega) (by omega) (by omega) ?_
    conv=>whnf
    refine ⟨d+1,by omega,by show c - (d+1) < c - d;omega,⟨rfl,rfl,rfl,rfl,trivial⟩,rfl,?_,trivial⟩
    rw [←enx,←cQ_set];rfl
  ·have h2:d=n:=by simp only [decide_eq_false_iff_not] at h2;omega
   rw [h2]
   conv=>whnf
   first | exact ⟨⟨rfl,rfl,rfl,rfl,rfl⟩,rfl,⟨rfl,rfl,trivial⟩,rfl⟩ | exact ⟨⟨rfl,rfl,rfl,rfl,rfl⟩,⟨rfl,rfl,rfl,trivial⟩,rfl⟩ | exact ⟨⟨rfl,rfl,rfl,rfl,rfl⟩,rfl,trivial,⟨rfl,rfl,trivial⟩,rfl⟩
end Go.V
namespace Go.V
open Go.Proofs Go.RowKit
set_option maxRecDepth 10000
set_option maxHeartbeats 0
theorem VCall.par2v {P:Program} {t:TL} {l:LL} {f:FuncId} {xs xs0:List AV} {sz sz' s1 n:Nat} {ix ix':List MC} {rows rows':List (List (List C))} {v v':List (List C)} {dst:Option Nat} {K:AV→TL→LL→Prop} (a b:Nat)
  (h:Fn P f xs0 [(1000000,.mat sz ix rows),(1000001,.row true s1 v)] (.tup [.ls 1000001 0 n s1,B true]) [(1000000,.mat sz' ix' rows'),(1000001,.row true s1 v')]) (ha:argR (pmap [(1000000,a),(1000001,b)]) xs xs0) (hl:parOk (pmap [(1000000,a),(1000001,b)]) l [(1000000,.mat sz ix rows),(1000001,.row true s1 v)])
  (hK:K (.tup [.ls b 0 n s1,B true]) t ((a,.mat sz' ix' rows') :: (b,.row true s1 v') :: l)):VCall P f xs dst t l K :=
 VCall.of_fnR (k:=0) (pmap [(1000000,a),(1000001,b)]) h ha (parOk_R hl) rfl (keepRows rfl rfl) (fun j hj=>by
  have h1:(AV.ment j (.tup [.ls 1000001 0 n s1,B true]))=(Nat.beq 1000001 j || (false || false)):=rfl
  rw [h1] at hj
  have:1000001=j:=Nat.eq_of_beq_eq_true (by simpa using hj)
  subst this;intro h2;cases h2) rfl hK
def relA (m:Mo) (a:Nat→Bool) (i:Nat):Mt:=(List.range i).map fun i=>(List.range (m.room+1)).map (entR m a i)
theorem relA_len (m:Mo) (a:Nat→Bool) (i:Nat):(relA m a i).length=i:=by simp [relA]
theorem relA_next (m:Mo) (a:Nat→Bool) (i:Nat):cR (relA m a (i+1))=cR (relA m a i)++[cQ ((List.range (m.room+1)).map (entR m a i))]:=by
 unfold relA cR;rw [show List.range (i+1)=List.range i++[i] from List.range_succ,List.map_append,List.map_append];rfl
theorem tk_rel (m:Mo) (a:Nat→Bool):tk (m.room+1) (relL m a)=relA m a (m.room+1):=by
 unfold tk relL relA
 rw [List.map_map]
 refine List.map_congr_left fun i _=>?_
 show ((List.range (m.room+2)).map (entR m a i)).take (m.room+1)=_
 rw [show List.range (m.room+2)=List.range (m.room+1)++[m.room+1] from List.range_succ,List.map_append,List.take_append_of_le_length (by simp),List.take_of_length_le (by simp)]
theorem vQ_rel (m:Mo) (a:Nat→Bool):vQ (m.room+1) (List.range (m.room+1)) (relL m a)=(List.range (m.room+1)).map (gainT m a):=by
 unfold vQ
 refine List.map_congr_left fun i hi=>?_
 have hi:i < m.room+1:=by simpa using hi
 unfold lgF lg
 rw [range_at hi,relL_at hi,map_at (by omega)]
 unfold entR
 rw [if_pos rfl]
def layR (m:Mo) (a:Nat→Bool) (i j:Nat):List Rat:=(List.range (m.room+1)).map fun c=>if c < j then entR m a i c else 0
theorem layR_len (m:Mo) (a:Nat→Bool) (i j:Nat):(layR m a i j).length=m.room+1:=by simp [layR]
theorem layR_next {m:Mo} {a:Nat→Bool} {i j:Nat} (hj:j < m.room+1):(layR m a i j).set j (entR m a i j)=layR m a i (j+1):=by
 apply list_getD_ext (by rw [List.length_set,layR_len,layR_len])
 intro c hc
 rw [List.length_set,layR_len] at hc
 rw [gsetD (by rw [layR_len];exact hj)]
 unfold layR
 rw [map_at hc,map_at hc]
 by_cases e:c=j
 ·subst e;rw [if_pos rfl,if_pos (by omega)]
 ·rw [if_neg e]
  by_cases e2:c < j
  ·rw [if_pos e2,if_pos (by omega)]
  ·rw [if_neg e2,if_neg (by omega)]
theorem layR_zero (m:Mo) (a:Nat→Bool) (i:Nat):layR m a i 0=List.replicate (m.room+1) 0:=by
 apply List.ext_getElem
 ·simp [layR]
 ·intro c h1 h2;simp [layR]
theorem layR_all (m:Mo) (a:Nat→Bool) (i:Nat):layR m a i (m.room+1)=(List.range (m.room+1)).map (entR m a i):=by
 unfold layR
 refine List.map_congr_left fun c hc=>?_
 have hc:c < m.room+1:=by simpa using hc
 exact if_pos hc
theorem solve_rel {m:Mo} (hm:m.Ok) (a:Nat→Bool):(List.range (m.room+1)).map (xB (m.room+1) (lgF (gjN (m.room+1) skT (List.range (m.room+1),relL m a) (m.room+1)).1 (gjN (m.room+1) skT (List.range (m.room+1),relL m a) (m.room+1)).2) (m.room+1))=relX m a:=by
 have hinj:=(relEqv m a).inj (relInj hm a)
 have h0:=(relGj hm a).toGt
 have hG:=gtN_ok (s:=(List.range (m.room+1),relL m a)) h0 hinj (m.room+1) (Nat.le_refl _)
 have hs:=hG.tri.sol
 have hs2:=(hG.eq.s _).2 hs
 refine (relX_is hm a (by simp) (((relEqv m a).s _).2 ?_)).symm
 refine fun r hr=>?_
 have h1:=hs2 r hr
 rw [←h1]
 unfold rowX
 refine sN_congr fun j hj=>?_
 dsimp only
 rw [map_at hj]
end Go.V
namespace Go.V
open Go.Proofs Go.RowKit
set_option maxRecDepth 10000
set_option maxHeartbeats 0
theorem fn_relative (m:Mo) (hm:m.Ok) (acts:List Bool) (ha:acts.length=m.room):Fn Tryz.prog 80 [moI m,lBo acts] []
  (.tup [.ls 0 0 (m.room+1) 3,rI ((relX m (acts.getD · false)).getD 0 0)]) [(0,.row true 3 (cQ ((relX m (acts.getD · false)).set 0 0)))]:=by
 have r1:=hm.r1
 have r2:=hm.r2
 have c1:=fn_chain m hm acts ha
 have hz:((cM (chainP m (acts.getD · false))).length:Int)=((m.room+1:Nat):Int):=by rw [cM_len,chainP_len]
 have hsq:=chainP_sq m (acts.getD · false)
 have hce:∀i j,i < m.room+1→j < m.room+1→ent (chainP m (acts.getD · false)) i j=entP m (acts.getD · false) i j:=fun i j hi hj=>chainP_ent hi hj
 have hes:∀i j,i < m.room+1→j < m.room+1→sz (entP m (acts.getD · false) i j)≤1600:=fun i j hi hj=>entP_sz hm _ hi hj
 have hcl:=chainP_len m (acts.getD · false)
 have gz:=fun n (hn:n < m.room+1)=>gainT_sz hm (acts.getD · false) hn
 have eG:∀n,gainT m (acts.getD · false) n=if n < m.room∧acts.getD n false=true then -(m.cost*((n:Int):Rat))+m.come*m.reward else -(m.cost*((n:Int):Rat)):=fun n=>rfl
 have eE:∀i j,j≠0→j < m.room+1→entR m (acts.getD · false) i j=if i=j then -(entP m (acts.getD · false) i j)+1 else -(entP m (acts.getD · false) i j):=fun i j h0 h1=>by unfold entR;rw [if_neg (by omega),if_neg h0]
 have eE0:∀i,entR m (acts.getD · false) i 0=1:=fun i=>by unfold entR;rw [if_neg (by omega),if_pos rfl]
 have cv:=fn_solve (m.room+1) 5000 (List.range (m.room+1)) (relL m (acts.getD · false)) _ (relGj hm (acts.getD · false)).toGt ((relEqv m (acts.getD · false)).inj (relInj hm (acts.getD · false))) (by omega) (by omega) (by decide)
 rw [solve_rel hm,vQ_rel,show smI (List.range (m.room+1)) (relL m (acts.getD · false)) (m.room+1) = .mat 3 (ixQ (m.room+1) (m.room+1)) (cR (relA m (acts.getD · false) (m.room+1))) by rw [←tk_rel];rfl] at cv
 generalize gjN (m.room+1) skT (List.range (m.room+1),relL m (acts.getD · false)) (m.room+1)=fin at cv
 have hql:(relX m (acts.getD · false)).length=m.room+1:=gjX_len _ _
 obtain ⟨Q,eQ⟩:∃Q,relX m (acts.getD · false)=Q:=⟨_,rfl⟩
 rw [eQ] at cv hql ⊢
 obtain ⟨p,ep⟩:∃p,chainP m (acts.getD · false)=p:=⟨_,rfl⟩
 rw [ep] at c1 hz hsq hce hcl
 have k1:=fn_whole 1 (by decide) (by decide)
 have k0:=fn_whole 0 (by decide) (by decide)
 have cn:=fn_nothing (m.room+1) (by omega) (by omega)
 have zk:=hm.zk;have zc:=hm.zc;have zw:=hm.zw
 refine Fn.intro (ks:=[0,1,2,4,5,6,7,8,9,10,11,12,13,15,20,21,22,23,37,50,75]) hty rfl rfl rfl rfl rfl ?_
 conv=>whnf
 refine VCall.of_data c1 (nd _) ?_
 conv=>whnf
 rw [hz]
 refine VLoop.toMat 16 3 (cs:=[]) rfl rfl ?_
 refine VLoop.ren 16 86 rfl ?_
 refine VLoop.ren 17 90 rfl ?_
 refine VLoop.inv hty (S:=Nat) (fun i=>[(22,I i),(21,I ((m.room+1:Nat):Int)),(20,lM p),(7,.ls 90 0 i 3),(6,.ls 86 0 i 1),(5,.lp 5 0),(2,.lp 2 0),(1,lBo acts)])
  (fun i=>[(86,.mat 3 (ixQ i (m.room+1)) (cR (relA m (acts.getD · false) i))),(90,.row true 3 (cQ ((List.range i).map (gainT m (acts.getD · false))))),(5,.box true [B false,.d (.s (.slice none 0 0)),.d (.s (.slice none 0 0))]),(2,.box true ((moJ m).map .d))]) (fun i=>i≤m.room+1) (fun i=>m.room+1 - i) 0 (Nat.zero_le _)
  ⟨rfl,rfl,rfl,rfl,rfl,rfl,rfl,rfl,trivial⟩ ⟨rfl,rfl,rfl,rfl,trivial⟩ ?_
 intro i hi
 conv=>whnf
 refine Br.mk (fun h=>?_) (fun h=>?_)
 ·have h:i < m.room+1:=by simp only [decide_eq_true_eq] at h;omega
  have hnx:=relA_next m (acts.getD · false) i
  have hN:=relA_len m (acts.getD · false) i
  have hgn:=mapR_next (gainT m (acts.getD · false)) i
  have hGl:((List.range i).map (gainT m (acts.getD · false))).length=i:=by simp
  obtain ⟨N,eN⟩:∃N,relA m (acts.getD · false) i=N:=⟨_,rfl⟩
  rw [eN] at hnx hN
  rw [eN]
  obtain ⟨GL,eGL⟩:∃GL,(List.range i).map (gainT m (acts.getD · false))=GL:=⟨_,rfl⟩
  rw [eGL] at hgn hGl
  rw [eGL]
  have hrl:=hsq i h
  obtain ⟨ro,ero⟩:∃ro,p.getD i []=ro:=⟨_,rfl⟩
  rw [ero] at hrl
  have e00:=eE0 i
  have e01:(List.replicate (m.room+1) (0:Rat)).set 0 1=layR m (acts.getD · false) i 1:=by rw [←layR_zero m (acts.getD · false) i,←e00,layR_next (by omega)]
  have hrow:=layR_all m (acts.getD · false) i
  conv=>whnf
  refine ⟨⟨⟨by omega,by rw [cM_len];omega⟩,cM_sz _⟩,?_⟩
  conv=>whnf
  refine ⟨_,cM_as (x:=ro) (by omega) ero,?_⟩
  conv=>whnf
  refine Wr.i64 (y:=((m.room+1:Nat):Int)) rfl (by omega) (by omega) ?_
  conv=>whnf
  refine VCall.of_ls (k:=30) cn rfl ?_
  conv=>whnf
  refine VCall.of_data k1 (ndA fun k=>rfl) ?_
  conv=>whnf
  refine ⟨by omega,?_⟩
  conv=>whnf
  refine ⟨by rw [cQ_len,List.length_replicate];show 0+0 < m.room+1;omega,?_⟩
  conv=>whnf
  refine VLoop.inv hty (S:=Nat) (fun j=>[(22,I i),(21,I ((m.room+1:Nat):Int)),(20,lM p),(11,I j),(10,.ls 30 0 (m.room+1) 3),(9,lQ ro),(8,I i),(7,.ls 90 0 i 3),(6,.ls 86 0 i 1),(5,.lp 5 0),(2,.lp 2 0),(1,lBo acts)])
   (fun j=>[(30,.row true 3 (cQ (layR m (acts.getD · false) i j))),(86,.mat 3 (ixQ i (m.room+1)) (cR N)),(90,.row true 3 (cQ GL)),(5,.box true [B false,.d (.s (.slice none 0 0)),.d (.s (.slice none 0 0))]),(2,.box true ((moJ m).map .d))])
   (fun j=>1≤j∧j≤m.room+1) (fun j=>m.room+1 - j) 1 ⟨Nat.le_refl _,by omega⟩ ⟨rfl,rfl,rfl,rfl,rfl,rfl,rfl,rfl,rfl,rfl,rfl,rfl,trivial⟩ ⟨?_,rfl,rfl,rfl,rfl,trivial⟩ ?_
  ·show Ob.row true 3 ((cQ (List.replicate (m.room+1) 0)).set 0 (c1Q ((1:Int):Rat)))=_
   rw [show ((1:Int):Rat)=1 from rfl,cQ_set,e01]
  rintro j ⟨hj1,hj⟩
  conv=>whnf
  refine Br.mk (fun h3=>?_) (fun h3=>?_)
  ·have h3:j < m.room+1:=by simp only [decide_eq_true_eq] at h3;omega
   have hln:=layR_next (a:=(acts.getD · false)) (i:=i) h3
   have hF:=layR_len m (acts.getD · false) i j
   have hv0:=eE i j (by omega) h3
   have hs1:=hes i j h h3
   have hc:=hce i j h h3
   obtain ⟨e,ee⟩:∃e,entP m (acts.getD · false) i j=e:=⟨_,rfl⟩
   rw [ee] at hv0 hs1 hc
   have k2:=fn_rminus e (by omega)
   have z2:=sz_neg e
   have k3:=fn_radd (-e) ((1:Int):Rat) (by have:sz ((1:Int):Rat)≤1:=sz_small (n:=1) (k:=1) (by decide) (by decide);omega)
   obtain ⟨F,eF⟩:∃F,layR m (acts.getD · false) i j=F:=⟨_,rfl⟩
   rw [eF] at hln hF ⊢
   conv=>whnf
   refine ⟨⟨⟨by omega,by rw [cQ_len,hrl];omega⟩,cQ_sz _⟩,?_⟩
   conv=>whnf
   refine ⟨_,cQ_as (x:=e) (by rw [hrl];exact h3) (by rw [←hc,←ero];rfl),?_⟩
   conv=>whnf
   refine VCall.of_data k2 (ndA fun k=>rfl) ?_
   conv=>whnf
   refine ⟨by omega,?_⟩
   conv=>whnf
   refine ⟨by rw [cQ_len,hF];show j+0 < m.room+1;omega,?_⟩
   conv=>whnf
   by_cases hij:i=j
   ·have hv:entR m (acts.getD · false) i j = -e+((1:Int):Rat):=by rw [hv0,if_pos hij];rfl
    rw [decide_eq_true (show (j:Int)=(i:Int) by omega)]
    conv=>whnf
    refine VDraw.go hmo hty 9 [] rfl ?_
    conv=>whnf
    refine ⟨by omega,?_⟩
    conv=>whnf
    refine ⟨_,(by rw [cQ_set];exact cQ_as (x:=-e) (by rw [List.length_set];omega) (by rw [gsetD (by omega),if_pos rfl]):((cQ F).set j (c1Q (-e)))[j]? = some _),?_⟩
    conv=>whnf
    refine QCall.of_data k1 (ndA fun k=>rfl) ?_
    conv=>whnf
    refine QCall.of_data k3 (ndA fun k=>rfl) ?_
    conv=>whnf
    refine ⟨by omega,?_⟩
    conv=>whnf
    refine ⟨by rw [List.length_set,cQ_len,hF];show j+0 < m.room+1;omega,?_⟩
    conv=>whnf
    refine Wr.i64 (y:=((j+1:Nat):Int)) rfl (by omega) (by omega) ?_
    conv=>whnf
    refine ⟨j+1,⟨by omega,by omega⟩,by show m.room+1 - (j+1) < m.room+1 - j;omega,⟨rfl,rfl,rfl,rfl,rfl,rfl,rfl,rfl,rfl,rfl,rfl,rfl,trivial⟩,?_,rfl,rfl,rfl,rfl,trivial⟩
    show Ob.row true 3 (((cQ F).set j (c1Q (-e))).set j (c1Q (-e+((1:Int):Rat))))=_
    rw [List.set_set,cQ_set,←hv,hln]
   ·have hv:entR m (acts.getD · false) i j = -e:=by rw [hv0,if_neg hij]
    rw [decide_eq_false (show ¬(j:Int)=(i:Int) by omega)]
    conv=>whnf
    refine Wr.i64 (y:=((j+1:Nat):Int)) rfl (by omega) (by omega) ?_
    conv=>whnf
    refine ⟨j+1,⟨by omega,by omega⟩,by show m.room+1 - (j+1) < m.room+1 - j;omega,⟨rfl,rfl,rfl,rfl,rfl,rfl,rfl,rfl,rfl,rfl,rfl,rfl,trivial⟩,?_,rfl,rfl,rfl,rfl,trivial⟩
    show Ob.row true 3 ((cQ F).set j (c1Q (-e)))=_
    rw [cQ_set,←hv,hln]
  ·have h3:j=m.room+1:=by simp only [decide_eq_false_iff_not] at h3;omega
   obtain ⟨g1,g2,g3,g4⟩:=gz i h
   have eg:=eG i
   have z0:=sz_small (n:=(i:Int)) (k:=4) (by omega) (by omega)
   have q1:=fn_whole (i:Int) (by omega) (by omega)
   have q2:=fn_rmul m.cost ((i:Int):Rat) (by omega) (by omega)
   have q3:=fn_rminus (m.cost*((i:Int):Rat)) (by omega)
   have q4:=fn_rmul m.come m.reward (by omega) (by omega)
   have q5:=fn_radd (-(m.cost*((i:Int):Rat))) (m.come*m.reward) (by omega)
   obtain ⟨g,eg2⟩:∃g,gainT m (acts.getD · false) i=g:=⟨_,rfl⟩
   rw [eg2] at eg hgn
   obtain ⟨w,ew⟩:∃w,((i:Int):Rat)=w:=⟨_,rfl⟩
   rw [ew] at q1 q2 q3 q5 eg
   obtain ⟨x1,e1⟩:∃x,m.cost*w=x:=⟨_,rfl⟩
   rw [e1] at q2 q3 q5 eg
   obtain ⟨x2,e2⟩:∃x,-x1=x:=⟨_,rfl⟩
   rw [e2] at q3 q5 eg
   obtain ⟨x3,e3⟩:∃x,m.come*m.reward=x:=⟨_,rfl⟩
   rw [e3] at q4 q5 eg
   obtain ⟨b,eb⟩:∃b,acts.getD i false=b:=⟨_,rfl⟩
   rw [eb] at eg
   have hFl:(layR m (acts.getD · false) i (m.room+1)).length=m.room+1:=layR_len _ _ _ _
   obtain ⟨F,eF⟩:∃F,layR m (acts.getD · false) i (m.room+1)=F:=⟨_,rfl⟩
   rw [eF] at hrow hFl
   rw [h3,eF]
   have eM:Ob.mat 3 (ixQ i (m.room+1)++[.r (cR N).length 0 (m.room+1)]) (cR N++[cQ F])=Ob.mat 3 (ixQ (i+1) (m.room+1)) (cR (relA m (acts.getD · false) (i+1))):=by rw [hnx,←hrow,ixQ_snoc,cR_len,hN]
   have eV:Ob.row true 3 (cQ GL++[c1Q g])=Ob.row true 3 (cQ ((List.range (i+1)).map (gainT m (acts.getD · false)))):=by rw [hgn,←cQ_ap1]
   conv=>whnf
   refine VDraw.go hmo hty 7 [[12],[12],[12],[12],[12],[12],[]] rfl ?_
   conv=>whnf
   refine QCall.of_data q1 (ndA fun k=>rfl) ?_
   conv=>whnf
   refine QCall.of_data q2 (ndA fun k=>rfl) ?_
   conv=>whnf
   refine QCall.of_data q3 (ndA fun k=>rfl) ?_
   conv=>whnf
   by_cases hr:i < m.room
   ·rw [decide_eq_true (show (i:Int) < (m.room:Int) by omega)]
    conv=>whnf
    refine ⟨⟨⟨by omega,by rw [cBo_len];omega⟩,cBo_sz _⟩,?_⟩
    conv=>whnf
    refine ⟨_,cBo_as (x:=b) (by omega) eb,?_⟩
    conv=>whnf
    cases b with
    | true =>
     rw [if_pos ⟨hr,rfl⟩] at eg
     rw [←eg] at q5
     conv=>whnf
     refine VDraw.go hmo hty 7 [] rfl ?_
     conv=>whnf
     refine QCall.of_data q4 (ndA fun k=>rfl) ?_
     conv=>whnf
     refine QCall.of_data q5 (ndA fun k=>rfl) ?_
     conv=>whnf
     refine VDraw.goS hmo hty [0,1,4] rfl ?_
     conv=>whnf
     repeat' (first
      | (refine ⟨⟨by rw [ixQ_len],by show (i+1)*24≤_;omega⟩,?_⟩;conv=>whnf)
      | (refine Sub.full rfl ?_;conv=>whnf)
      | (refine Sub.full (by rw [cQ_len,hGl]) ?_;conv=>whnf)
      | (refine ⟨by show (i+1)*56≤_;omega,?_⟩;conv=>whnf)
      | (refine Wr.i64 (y:=((i+1:Nat):Int)) rfl (by omega) (by omega) ?_;conv=>whnf)
      | exact ⟨i+1,h,by show m.room+1 - (i+1) < m.room+1 - i;omega,⟨rfl,rfl,rfl,rfl,rfl,rfl,rfl,rfl,trivial⟩,eM,eV,rfl,rfl,trivial⟩
      | (refine And.intro ?_ ?_ <;> conv=>whnf))
    | false =>
     rw [if_neg (fun e=>by cases e.2)] at eg
     subst eg
     conv=>whnf
     refine VDraw.goS hmo hty [0,1,4] rfl ?_
     conv=>whnf
     repeat' (first
      | (refine ⟨⟨by rw [ixQ_len],by show (i+1)*24≤_;omega⟩,?_⟩;conv=>whnf)
      | (refine Sub.full rfl ?_;conv=>whnf)
      | (refine Sub.full (by rw [cQ_len,hGl]) ?_;conv=>whnf)
      | (refine ⟨by show (i+1)*56≤_;omega,?_⟩;conv=>whnf)
      | (refine Wr.i64 (y:=((i+1:Nat):Int)) rfl (by omega) (by omega) ?_;conv=>whnf)
      | exact ⟨i+1,h,by show m.room+1 - (i+1) < m.room+1 - i;omega,⟨rfl,rfl,rfl,rfl,rfl,rfl,rfl,rfl,trivial⟩,eM,eV,rfl,rfl,trivial⟩
      | (refine And.intro ?_ ?_ <;> conv=>whnf))
   ·rw [if_neg (fun e=>hr e.1)] at eg
    subst eg
    rw [decide_eq_false (show ¬(i:Int) < (m.room:Int) by omega)]
    conv=>whnf
    refine VDraw.goS hmo hty [0,1,4] rfl ?_
    conv=>whnf
    repeat' (first
     | (refine ⟨⟨by rw [ixQ_len],by show (i+1)*24≤_;omega⟩,?_⟩;conv=>whnf)
     | (refine Sub.full rfl ?_;conv=>whnf)
     | (refine Sub.full (by rw [cQ_len,hGl]) ?_;conv=>whnf)
     | (refine ⟨by show (i+1)*56≤_;omega,?_⟩;conv=>whnf)
     | (refine Wr.i64 (y:=((i+1:Nat):Int)) rfl (by omega) (by omega) ?_;conv=>whnf)
     | exact ⟨i+1,h,by show m.room+1 - (i+1) < m.room+1 - i;omega,⟨rfl,rfl,rfl,rfl,rfl,rfl,rfl,rfl,trivial⟩,eM,eV,rfl,rfl,trivial⟩
     | (refine And.intro ?_ ?_ <;> conv=>whnf))
 ·have h:i=m.room+1:=by simp only [decide_eq_false_iff_not] at h;omega
  obtain ⟨x,ex⟩:∃x,Q.getD 0 0=x:=⟨_,rfl⟩
  rw [h,ex]
  conv=>whnf
  refine VCall.par2v 86 90 cv ⟨⟨rfl,rfl,rfl,rfl⟩,⟨rfl,rfl,rfl,rfl⟩,trivial⟩ ⟨⟨rfl,rfl⟩,⟨rfl,rfl⟩,trivial⟩ ?_
  conv=>whnf
  refine ⟨by omega,?_⟩
  conv=>whnf
  refine ⟨_,cQ_as (x:=x) (i:=0) (by omega) ex,?_⟩
  conv=>whnf
  refine VCall.of_data k0 (ndA fun k=>rfl) ?_
  conv=>whnf
  refine ⟨by omega,?_⟩
  conv=>whnf
  refine ⟨by rw [cQ_len,hql];show 0+0 < m.room+1;omega,?_⟩
  conv=>whnf
  refine VDraw.go hmo hty 3 [] rfl ?_
  conv=>whnf
  have eX:(cQ Q).set 0 (c1Q ((0:Int):Rat))=cQ (Q.set 0 0):=cQ_set Q 0 0
  refine ⟨⟨rfl,rfl,rfl,rfl,rfl,rfl⟩,[],by rw [←eX];rfl,?_⟩
  first | exact ⟨rfl,rfl,rfl,trivial,rfl⟩ | exact ⟨rfl,rfl,rfl,rfl,trivial,rfl⟩ | exact ⟨rfl,rfl,trivial,rfl⟩ | exact ⟨rfl,trivial,rfl⟩ | exact ⟨⟨rfl,rfl,rfl,trivial⟩,trivial,rfl⟩
end Go.V
namespace Go.V
open Go.Proofs Go.RowKit
set_option maxRecDepth 10000
set_option maxHeartbeats 2000000
theorem relX_sz {m:Mo} (hm:m.Ok) (a:Nat→Bool):∀q,q∈relX m a→sz q≤10000000:=fun q hq=>by
 have r2:=hm.r2
 have hG:=gjN_ok (s:=(List.range (m.room+1),relL m a)) (relGj hm a) ((relEqv m a).inj (relInj hm a)) (m.room+1) (Nat.le_refl _)
 obtain ⟨i,hi,rfl⟩:=List.mem_map.1 hq
 have hi:i < m.room+1:=by simpa using hi
 have hw:=hG.pl.wd i hi
 have h1:=(hG.row i hi).sz (getD_mem (i:=m.room+1) (d:=0) (by omega))
 have h2:=(hG.row i hi).sz (getD_mem (i:=i) (d:=0) (by omega))
 have h3:=sz_div (lgF (gjN (m.room+1) skJ (List.range (m.room+1),relL m a) (m.room+1)).1 (gjN (m.room+1) skJ (List.range (m.room+1),relL m a) (m.room+1)).2 i (m.room+1)) (hG.dia i hi).1
 have h4:2 ^ (m.room+1)*5000≤2 ^ 9*5000:=Nat.mul_le_mul_right _ (Nat.pow_le_pow_right (by decide) (by omega))
 unfold lgF at h3 ⊢
 omega
theorem relX_len (m:Mo) (a:Nat→Bool):(relX m a).length=m.room+1:=gjX_len _ _
theorem relS_sz {m:Mo} (hm:m.Ok) (a:Nat→Bool):∀q,q∈(relX m a).set 0 0→sz q≤10000000:=fun q hq=>by
 rcases List.mem_or_eq_of_mem_set hq with h | h
 ·exact relX_sz hm a q h
 ·rw [h];exact Nat.le_trans (by decide:sz (0:Rat)≤1) (by decide)
def ansR:Option (List (List UInt8)×List UInt8)→AV×LL
 | some (ts,s)=>(.tup [.ls 0 0 ts.length 1,Str s,B true],[(0,.row true 1 (cT ts))])
 | none=>(.tup [.d (.sl []),Str [],B false],[])
def relT (m:Mo) (a:Nat→Bool):Option (List (List UInt8)×List UInt8):=match toldTs ((relX m a).set 0 0) with
 | some ts=>if fitsQ ((relX m a).getD 0 0) then some (ts,toldT ((relX m a).getD 0 0)) else none
 | none=>none
def relO (r:Int) (a b c d:List UInt8) (acts:List Bool):Option (List (List UInt8)×List UInt8):=(actQ r a b c d acts).bind fun m=>relT m (acts.getD · false)
theorem fn_RelativeOf (r:Int) (a b c d:List UInt8) (hi:MdIn a b c d) (acts:List Bool):Fn Tryz.prog 32 [mdI r a b c d,lBo acts] [] (ansR (relO r a b c d acts)).1 (ansR (relO r a b c d acts)).2:=by
 have c1:=fn_withActs r a b c d hi acts
 refine Fn.intro (ks:=[0,1,2,4,5,6,7,8,9,10,11,12,13,14,22,44]) hty rfl rfl rfl rfl rfl ?_
 conv=>whnf
 unfold relO
 cases hm:modQ r a b c d with
 | none =>
  rw [actQ_none hm]
  rw [hm,actQ_none hm] at c1
  refine VCall.of_data c1 (ndT fun _=>rfl) ?_
  conv=>whnf
  exact ⟨rfl,rfl,trivial,rfl⟩
 | some m =>
  obtain ⟨hok,_⟩:=modQ_ok hm
  rw [actQ_some hm]
  rw [hm,actQ_some hm] at c1
  by_cases ha:acts.length=m.room
  case neg =>
   rw [if_neg ha] at c1 ⊢
   replace c1:Fn Tryz.prog 66 [mdI r a b c d,lBo acts] [] (.tup [moI m,B false]) []:=c1
   refine VCall.of_data c1 (ndT fun _=>rfl) ?_
   conv=>whnf
   exact ⟨rfl,rfl,trivial,rfl⟩
  rw [if_pos ha] at c1 ⊢
  replace c1:Fn Tryz.prog 66 [mdI r a b c d,lBo acts] [] (.tup [moI m,B true]) []:=c1
  rw [show ((some m).bind fun m=>relT m (acts.getD · false))=relT m (acts.getD · false) from rfl]
  have r2:=hok.r2
  have c2:=fn_relative m hok acts ha
  have hxl:((relX m (acts.getD · false)).set 0 0).length=m.room+1:=by rw [List.length_set,relX_len]
  have c4:=fn_toldList ((relX m (acts.getD · false)).set 0 0) (by rw [hxl];omega) fun q hq=>by have:=relS_sz hok _ q hq;omega
  have c5:=fn_told ((relX m (acts.getD · false)).getD 0 0) (by have:=relX_sz hok (acts.getD · false) _ (getD_mem (xs:=relX m (acts.getD · false)) (i:=0) (d:=0) (by rw [relX_len];omega));omega)
  unfold relT
  generalize (relX m (acts.getD · false)).getD 0 0=g at c2 c5 ⊢
  generalize (relX m (acts.getD · false)).set 0 0=X at c2 c4 hxl ⊢
  refine VCall.of_data c1 (ndT fun _=>rfl) ?_
  conv=>whnf
  refine VCall.of_fn (k:=26) c2 (fun j hj=>by
   have h1:(AV.ment j (.tup [.ls 0 0 (m.room+1) 3,rI g]))=(Nat.beq 0 j || (false || false)):=rfl
   rw [h1] at hj
   have:0=j:=Nat.eq_of_beq_eq_true (by simpa using hj)
   subst this;intro h2;cases h2) rfl ?_
  conv=>whnf
  refine VCall.frzD 26 (n:=m.room+1) (sz:=3) (D:=cQ X) ⟨rfl,rfl⟩ (by rw [cQ_len,hxl]) (by repeat first | exact trivial | refine ⟨⟨rfl,rfl,rfl⟩,?_⟩) ⟨⟨rfl,rfl,rfl⟩,trivial⟩ ?_
  cases hq:toldTs X with
  | none =>
   rw [hq] at c4
   refine VCall.of_data (x:=.tup [.d (.sl []),B false]) c4 (ndT fun _=>rfl) ?_
   conv=>whnf
   refine VCall.of_data c5 (ndT fun _=>rfl) ?_
   conv=>whnf
   exact ⟨rfl,rfl,trivial,rfl⟩
  | some ts =>
   rw [hq] at c4
   refine VCall.of_fnT (k:=31) (show Fn Tryz.prog 59 [lQ X] [] (.tup [.ls 0 0 ts.length 1,B true]) [(0,.row true 1 (cT ts))] from c4) rfl rfl ?_
   conv=>whnf
   refine VCall.of_data c5 (ndT fun _=>rfl) ?_
   conv=>whnf
   cases hf:fitsQ g with
   | false =>
    conv=>whnf
    exact ⟨rfl,rfl,trivial,rfl⟩
   | true =>
    conv=>whnf
    exact ⟨⟨rfl,rfl,rfl,rfl,rfl,rfl⟩,[],rfl,rfl,rfl,trivial,rfl⟩
theorem fn_sRelativeOf (r:Int) (a b c d:List UInt8) (hi:MdIn a b c d) (acts:List Bool):Fn Tryz.prog 31 [mdI r a b c d,lBo acts] [] (ansR (relO r a b c d acts)).1 (ansR (relO r a b c d acts)).2:=by
 have c1:=fn_l09Acts r a b c d hi acts
 refine Fn.intro (ks:=[0,1,2,4,5,6,7,8,9,10,11,12,13,14,21,42]) hty rfl rfl rfl rfl rfl ?_
 conv=>whnf
 refine VCall.thaw 2 (cs:=[.s (.int .i64 r),.s (.string ⟨a.toArray⟩),.s (.string ⟨b.toArray⟩),.s (.string ⟨c.toArray⟩),.s (.string ⟨d.toArray⟩)]) rfl ?_
 unfold relO
 cases hm:modQ r a b c d with
 | none =>
  rw [actQ_none hm]
  rw [hm,actQ_none hm] at c1
  refine VCall.of_data c1 (ndT fun _=>rfl) ?_
  conv=>whnf
  exact ⟨rfl,rfl,trivial,rfl⟩
 | some m =>
  obtain ⟨hok,_⟩:=modQ_ok hm
  rw [actQ_some hm]
  rw [hm,actQ_some hm] at c1
  by_cases ha:acts.length=m.room
  case neg =>
   rw [if_neg ha] at c1 ⊢
   replace c1:Fn Tryz.prog 62 [mdP r a b c d,lBo acts] [] (.tup [moS m,B false]) []:=c1
   refine VCall.of_data c1 (ndT fun _=>rfl) ?_
   conv=>whnf
   exact ⟨rfl,rfl,trivial,rfl⟩
  rw [if_pos ha] at c1 ⊢
  replace c1:Fn Tryz.prog 62 [mdP r a b c d,lBo acts] [] (.tup [moS m,B true]) []:=c1
  rw [show ((some m).bind fun m=>relT m (acts.getD · false))=relT m (acts.getD · false) from rfl]
  have r2:=hok.r2
  have c2:=fn_sRelative m hok acts ha
  have hxl:((relX m (acts.getD · false)).set 0 0).length=m.room+1:=by rw [List.length_set,relX_len]
  have c4:=fn_sGiveAll ((relX m (acts.getD · false)).set 0 0) (by rw [hxl];omega) fun q hq=>by have:=relS_sz hok _ q hq;omega
  have c5:=fn_sGive ((relX m (acts.getD · false)).getD 0 0) (by have:=relX_sz hok (acts.getD · false) _ (getD_mem (xs:=relX m (acts.getD · false)) (i:=0) (d:=0) (by rw [relX_len];omega));omega)
  unfold relT
  generalize (relX m (acts.getD · false)).getD 0 0=g at c2 c5 ⊢
  generalize (relX m (acts.getD · false)).set 0 0=X at c2 c4 hxl ⊢
  refine VCall.of_data c1 (ndT fun _=>rfl) ?_
  conv=>whnf
  refine VCall.thaw 7 (cs:=moC m) rfl ?_
  refine VCall.of_fn (k:=24) c2 (fun j hj=>by
   have h1:(AV.ment j (.tup [.ls 0 0 (m.room+1) 3,rS g]))=(Nat.beq 0 j || (false || false)):=rfl
   rw [h1] at hj
   have:0=j:=Nat.eq_of_beq_eq_true (by simpa using hj)
   subst this;intro h2;cases h2) rfl ?_
  conv=>whnf
  refine VCall.frzD 24 (n:=m.room+1) (sz:=3) (D:=cS X) ⟨rfl,rfl⟩ (by rw [cS_len,hxl]) (by repeat first | exact trivial | refine ⟨⟨rfl,rfl,rfl⟩,?_⟩) ⟨⟨rfl,rfl,rfl⟩,trivial⟩ ?_
  cases hq:toldTs X with
  | none =>
   rw [hq] at c4
   refine VCall.of_data (x:=.tup [.d (.sl []),B false]) c4 (ndT fun _=>rfl) ?_
   conv=>whnf
   refine VCall.of_data c5 (ndT fun _=>rfl) ?_
   conv=>whnf
   exact ⟨rfl,rfl,trivial,rfl⟩
  | some ts =>
   rw [hq] at c4
   refine VCall.of_fnT (k:=29) (show Fn Tryz.prog 55 [lS X] [] (.tup [.ls 0 0 ts.length 1,B true]) [(0,.row true 1 (cT ts))] from c4) rfl rfl ?_
   conv=>whnf
   refine VCall.of_data c5 (ndT fun _=>rfl) ?_
   conv=>whnf
   cases hf:fitsQ g with
   | false =>
    conv=>whnf
    exact ⟨rfl,rfl,trivial,rfl⟩
   | true =>
    conv=>whnf
    exact ⟨⟨rfl,rfl,rfl,rfl,rfl,rfl⟩,[],rfl,rfl,rfl,trivial,rfl⟩
end Go.V
namespace Go.V
open Go.Proofs Go.RowKit
set_option maxRecDepth 10000
set_option maxHeartbeats 2000000
theorem relO_len {r:Int} {a b c d:List UInt8} {acts:List Bool} {ts:List (List UInt8)} {s:List UInt8} (h:relO r a b c d acts=some (ts,s)):ts.length≤9:=by
 unfold relO at h
 cases hm:actQ r a b c d acts with
 | none=>rw [hm] at h;cases h
 | some m =>
  rw [hm] at h
  replace h:relT m (acts.getD · false)=some (ts,s):=h
  unfold relT at h
  cases ht:toldTs ((relX m (acts.getD · false)).set 0 0) with
  | none=>rw [ht] at h;cases h
  | some us =>
   rw [ht] at h
   dsimp only at h
   split at h
   ·cases h
    have h1:=toldTs_len ht
    rw [List.length_set,relX_len] at h1
    have:=(actQ_ok hm).1.r2
    omega
   ·cases h
theorem law_relativeOf (r:Int) (a b c d:List UInt8) (acts:List Bool) (ha:a.length < 2 ^ 47) (hb:b.length < 2 ^ 47) (hc:c.length < 2 ^ 47) (hd:d.length < 2 ^ 47) (hx:acts.length < 2 ^ 47):Fn Tryz.prog 6 [mdI r a b c d,lBo acts] [] (B true) []:=by
 have hz:((cBo acts).length:Int)=acts.length:=by rw [cBo_len]
 have c0:=fn_szModel r a b c d (1000000 - acts.length) ha hb hc hd (by omega) (by omega)
 have cm:=fn_toModel r a b c d
 refine Fn.intro (ks:=[0,1,2,4,5,6,7,8,9,10,11,12,13,14,15,16,17,18,26,59,64,85,93,96,119,124,127]) hty rfl rfl rfl rfl rfl ?_
 conv=>whnf
 rw [hz]
 refine Wr.i64 (y:=1000000 - (acts.length:Int)) rfl (by omega) (by omega) ?_
 conv=>whnf
 refine VCall.of_data c0 (nd _) ?_
 obtain ⟨m,em⟩:∃m,szMd (1000000 - acts.length) a b c d=m:=⟨_,rfl⟩
 rw [em]
 conv=>whnf
 refine Br.mk (fun h=>?_) (fun h=>?_)
 ·conv=>whnf
  exact ⟨rfl,trivial,rfl⟩
 ·have h:0≤m:=by simpa using h
  have hi:=szMd_in (em▸h) (by omega)
  have hl:acts.length≤1000000:=by
   rw [←em] at h
   unfold szMd at h
   split at h
   ·omega
   ·omega
  have cs:=fn_sRelativeOf r a b c d hi acts
  have ci:=fn_RelativeOf r a b c d hi acts
  have ct:=fn_toBo acts false (.inl rfl) hl
  have cx:=fn_intactBo acts hl
  have ck:=fn_markBo (withRoomB acts) acts.length 101 (by simp [withRoomB]) hl (by omega)
  obtain ⟨zm,ezm⟩:∃z:Int,((101+acts.length:Nat):Int)=z:=⟨_,rfl⟩
  have dzm:decide (zm < 0)=false:=decide_eq_false (by omega)
  rw [ezm] at ck
  clear c0 em ezm
  conv=>whnf
  refine VCall.of_data cm (ndA fun k=>rfl) ?_
  conv=>whnf
  refine VCall.of_data (fn_toBod acts false hl) (nd _) ?_
  conv=>whnf
  cases hr:relO r a b c d acts with
  | none =>
   rw [hr] at cs ci
   obtain ⟨s,es⟩:∃s:List UInt8,[]=s:=⟨_,rfl⟩
   replace cs:Fn Tryz.prog 31 [mdI r a b c d,lBo acts] [] (.tup [.d (.sl []),Str s,B false]) []:=by rw [←es];exact cs
   replace ci:Fn Tryz.prog 32 [mdI r a b c d,lBo acts] [] (.tup [.d (.sl []),Str s,B false]) []:=by rw [←es];exact ci
   have ch:=fn_heldT 0 101 (by omega) (by omega)
   rw [show cT (marksT 101 0)=[] from rfl] at ch
   refine VCall.of_data cs (ndT fun _=>rfl) ?_
   conv=>whnf
   refine VCall.of_fn (k:=37) ct namesBo rfl ?_
   conv=>whnf
   refine VCall.of_data cm (ndA fun k=>rfl) ?_
   conv=>whnf
   refine VCall.lend ci ⟨⟨rfl,rfl,rfl,rfl,rfl,trivial⟩,lend_roomBo rfl,trivial⟩ rfl ?_
   conv=>whnf
   refine VCall.of_data (fn_eqST [] (by simp)) (nd _) ?_
   conv=>whnf
   rw [show ((⟨s.toArray⟩:ByteArray).toList == (⟨s.toArray⟩:ByteArray).toList)=true by simp]
   conv=>whnf
   refine VCall.of_fn (k:=62) ct namesBo rfl ?_
   conv=>whnf
   refine VCall.parN [(1000000,37),(1000001,62)] cx ⟨⟨rfl,rfl,rfl,rfl⟩,⟨rfl,rfl,rfl,rfl⟩,trivial⟩ ⟨⟨rfl,rfl⟩,⟨rfl,rfl⟩,trivial⟩ rfl rfl rfl rfl ?_
   conv=>whnf
   refine VCall.par1 37 ck ⟨⟨rfl,rfl,rfl,rfl⟩,rfl,trivial⟩ rfl ?_
   conv=>whnf
   rw [dzm]
   conv=>whnf
   refine VCall.of_data (fn_eqST [] (by simp)) (nd _) ?_
   conv=>whnf
   rw [show ((⟨s.toArray⟩:ByteArray).toList == (⟨s.toArray⟩:ByteArray).toList)=true by simp]
   conv=>whnf
   refine VCall.of_data (fn_markT0 101) (nd _) ?_
   conv=>whnf
   refine VCall.of_data ch (nd _) ?_
   conv=>whnf
   refine VCall.of_data cm (ndA fun k=>rfl) ?_
   conv=>whnf
   refine VCall.of_data (fn_toBod acts true hl) (nd _) ?_
   conv=>whnf
   refine VCall.of_data ci (ndT fun _=>rfl) ?_
   conv=>whnf
   refine VCall.of_data (fn_eqST [] (by simp)) (nd _) ?_
   conv=>whnf
   rw [show ((⟨s.toArray⟩:ByteArray).toList == (⟨s.toArray⟩:ByteArray).toList)=true by simp]
   conv=>whnf
   refine VCall.of_data ch (nd _) ?_
   conv=>whnf
   exact ⟨rfl,trivial,rfl⟩
  | some x =>
   obtain ⟨ts,s⟩:=x
   have hn:=relO_len hr
   rw [hr] at cs ci
   replace cs:Fn Tryz.prog 31 [mdI r a b c d,lBo acts] [] (.tup [.ls 0 0 ts.length 1,Str s,B true]) [(0,.row true 1 (cT ts))]:=cs
   replace ci:Fn Tryz.prog 32 [mdI r a b c d,lBo acts] [] (.tup [.ls 0 0 ts.length 1,Str s,B true]) [(0,.row true 1 (cT ts))]:=ci
   have et:(List.drop 0 (cT ts)).take ts.length=cT ts:=by rw [List.drop_zero,List.take_of_length_le (by rw [cT_len];omega)]
   have c1:=cs.freezeT (by rw [cT_len];omega) rfl
   rw [et] at c1
   have c2:=ci.freezeT (by rw [cT_len];omega) rfl
   rw [et] at c2
   have c3:=fn_eqST ts (by omega)
   have hf:∀q,q∈cT ts→∀c,c∈q→flatC c=true:=cT_flat ts
   have ch:=fn_heldT ts.length 101 (by omega) (by omega)
   have cg:=fn_markT ts ts.length 101 (Nat.le_refl _) (by omega) (by omega)
   obtain ⟨z2,ez2⟩:∃z:Int,((101+ts.length:Nat):Int)=z:=⟨_,rfl⟩
   have dz2:decide (z2 < 0)=false:=decide_eq_false (by omega)
   rw [ez2] at ch cg
   have hm:∀l:LL,lget 42 l = .row true 1 (cT (marksT 101 ts.length++List.drop ts.length ts))→lend1 l (.ls 42 0 ts.length 1) (.d (.sl (cT (marksT 101 ts.length)))):=fun l h=>by
    have:=lend_wholeT (xs:=marksT 101 ts.length) h
    rwa [marksT_len] at this
   clear cs hr ez2
   refine VCall.of_data c1 (ndT fun _=>rfl) ?_
   conv=>whnf
   refine VCall.of_fn (k:=37) ct namesBo rfl ?_
   conv=>whnf
   refine VCall.of_data cm (ndA fun k=>rfl) ?_
   conv=>whnf
   refine VCall.lendT (k:=42) ci ⟨⟨rfl,rfl,rfl,rfl,rfl,trivial⟩,lend_roomBo rfl,trivial⟩ hf rfl rfl ?_
   conv=>whnf
   refine VCall.lend c3 ⟨lend_allT rfl rfl,rfl,trivial⟩ rfl ?_
   conv=>whnf
   rw [show ((⟨s.toArray⟩:ByteArray).toList == (⟨s.toArray⟩:ByteArray).toList)=true by simp]
   conv=>whnf
   refine VCall.of_fn (k:=62) ct namesBo rfl ?_
   conv=>whnf
   refine VCall.parN [(1000000,37),(1000001,62)] cx ⟨⟨rfl,rfl,rfl,rfl⟩,⟨rfl,rfl,rfl,rfl⟩,trivial⟩ ⟨⟨rfl,rfl⟩,⟨rfl,rfl⟩,trivial⟩ rfl rfl rfl rfl ?_
   conv=>whnf
   refine VCall.par1 37 ck ⟨⟨rfl,rfl,rfl,rfl⟩,rfl,trivial⟩ rfl ?_
   conv=>whnf
   rw [dzm]
   conv=>whnf
   refine VCall.lend c3 ⟨lend_allT rfl rfl,rfl,trivial⟩ rfl ?_
   conv=>whnf
   rw [show ((⟨s.toArray⟩:ByteArray).toList == (⟨s.toArray⟩:ByteArray).toList)=true by simp]
   conv=>whnf
   refine VCall.par1 42 cg ⟨⟨rfl,rfl,rfl,rfl⟩,rfl,trivial⟩ rfl ?_
   conv=>whnf
   refine VCall.lend ch ⟨hm _ rfl,rfl,trivial⟩ rfl ?_
   conv=>whnf
   rw [dz2]
   conv=>whnf
   rw [decide_eq_true (rfl:z2=z2)]
   conv=>whnf
   refine VCall.of_data cm (ndA fun k=>rfl) ?_
   conv=>whnf
   refine VCall.of_data (fn_toBod acts true hl) (nd _) ?_
   conv=>whnf
   refine VCall.of_data c2 (ndT fun _=>rfl) ?_
   conv=>whnf
   refine VCall.of_data c3 (nd _) ?_
   conv=>whnf
   rw [show ((⟨s.toArray⟩:ByteArray).toList == (⟨s.toArray⟩:ByteArray).toList)=true by simp]
   conv=>whnf
   refine VCall.lend ch ⟨hm _ rfl,rfl,trivial⟩ rfl ?_
   conv=>whnf
   rw [dz2]
   conv=>whnf
   rw [decide_eq_true (rfl:z2=z2)]
   conv=>whnf
   exact ⟨rfl,trivial,rfl⟩
end Go.V
