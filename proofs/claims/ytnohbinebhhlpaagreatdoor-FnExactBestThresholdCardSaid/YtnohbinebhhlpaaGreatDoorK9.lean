/- Part 9: the abstract machine, its soundness, contracts of functions. -/
import Derived.Test.YtnohbinebhhlpaaGreatDoorK8
import Derived.Test.YtnohbinebhhlpaaGreatDoorK7
set_option linter.unusedVariables false
set_option linter.unusedSimpArgs false
namespace Go.V
open Go.Proofs Go.RowKit
set_option maxRecDepth 10000
set_option maxHeartbeats 16000000
def ixW (p:List Nat) (w:Nat):List MC:=p.map fun i=>.r i 0 w
theorem ixW_len (p:List Nat) (w:Nat):(ixW p w).length=p.length:=by simp [ixW]
theorem ixW_at {p:List Nat} {w i:Nat} (h:i < p.length):(ixW p w)[i]? = some (.r (p.getD i 0) 0 w):=by
 rw [List.getD_eq_getElem?_getD,List.getElem?_eq_getElem h];simp [ixW,h]
theorem ixW_set (p:List Nat) (w i x:Nat):(ixW p w).set i (.r x 0 w)=ixW (p.set i x) w:=by unfold ixW;rw [List.map_set]
abbrev mW (p:List Nat) (R:Mt) (w:Nat):Ob:=.mat 3 (ixW p w) (cRS R)
theorem fn_sSwap (n w i k:Nat) (p:List Nat) (R:Mt) (hp:p.length=n) (hn:n≤1000000) (hi:i < n) (hk:k < n):Fn Tryz.prog 193 [.ls 1000000 0 n 1,I i,I k] [(1000000,mW p R w)] (.tup []) [(1000000,mW (swapL 0 p i k) R w)]:=by
 have xi:=ixW_at (w:=w) (show i < p.length by omega)
 have xk:=ixW_at (w:=w) (show k < p.length by omega)
 refine Fn.intro (ks:=[0,1,2,6]) hty rfl rfl rfl rfl rfl ?_
 conv=>whnf
 refine ⟨by omega,?_⟩
 conv=>whnf
 refine ⟨_,xi,?_⟩
 conv=>whnf
 refine ⟨by omega,?_⟩
 conv=>whnf
 refine ⟨_,xk,?_⟩
 conv=>whnf
 refine ⟨by omega,?_⟩
 conv=>whnf
 refine ⟨by rw [ixW_len,hp];show i+0 < n;omega,?_⟩
 conv=>whnf
 refine ⟨by omega,?_⟩
 conv=>whnf
 refine ⟨by rw [List.length_set,ixW_len,hp];show k+0 < n;omega,?_⟩
 conv=>whnf
 refine ⟨⟨?_,trivial⟩,rfl⟩
 show Ob.mat 3 (((ixW p w).set i (MC.r (p.getD k 0) 0 w)).set k (MC.r (p.getD i 0) 0 w)) (cRS R)=_
 rw [ixW_set,ixW_set];rfl
theorem VCall.par1w {P:Program} {t:TL} {l:LL} {f:FuncId} {xs xs0:List AV} {sz sz':Nat} {ix ix':List MC} {rows rows':List (List (List C))} {dst:Option Nat} {K:AV→TL→LL→Prop} (a:Nat)
  (h:Fn P f xs0 [(1000000,.mat sz ix rows)] (.tup []) [(1000000,.mat sz' ix' rows')]) (ha:argR (pmap [(1000000,a)]) xs xs0) (hl:lget a l = .mat sz ix rows)
  (hK:K (.tup []) t ((a,.mat sz' ix' rows') :: l)):VCall P f xs dst t l K :=
 VCall.of_fnR (k:=0) (pmap [(1000000,a)]) h ha ⟨⟨hl,fun p h=>absurd rfl h⟩,trivial⟩ rfl (keepRows rfl rfl) (fun _ h=>by cases h) rfl hK
theorem set_same {R:Mt} {k:Nat} {a:List Rat} (h:k < R.length) (e:R.getD k []=a):R.set k a=R:=by
 rw [←e,List.getD_eq_getElem?_getD,List.getElem?_eq_getElem h];exact List.set_getElem_self h
theorem cRS_atp {p:List Nat} {R:Mt} {n w r:Nat} (h:Plc n w p R) (hr:r < n):(cRS R)[p.getD r 0]? = some (cS (lg p R r)):=cRS_at (by rw [h.rl];exact h.lt r hr) rfl
theorem fn_sSolve (n t:Nat) (p0:List Nat) (R0:Mt) (A:Fm) (h0:Gj n t A p0 R0 0) (hA:Inj n A) (h1:1≤n) (hn:n≤12) (ht:t≤120000) :
  Fn Tryz.prog 147 [.ls 1000000 0 n 1] [(1000000,mW p0 R0 (n+1))] (.tup [.ls 0 0 n 3,B true]) [(0,.row true 3 (cS (gjX n (p0,R0)))),(1000000,mW (gjN n skJ (p0,R0) n).1 (gjN n skJ (p0,R0) n).2 (n+1))]:=by
 have hG:=fun i hi=>gjN_ok (s:=(p0,R0)) h0 hA i hi
 have hT:∀i,i≤n→2 ^ i*t≤500000000:=fun i hi=>by
  have:2 ^ i*t≤2 ^ 12*120000:=Nat.mul_le_mul (Nat.pow_le_pow_right (by decide) (by omega)) ht
  omega
 have eX:=@gjX_at n (p0,R0)
 have eXl:=gjX_len n (p0,R0)
 obtain ⟨X,eXX⟩:∃X,gjX n (p0,R0)=X:=⟨_,rfl⟩
 rw [eXX] at eXl ⊢
 have eX:∀i,i < n→X.getD i 0=lgF (gjN n skJ (p0,R0) n).1 (gjN n skJ (p0,R0) n).2 i n / lgF (gjN n skJ (p0,R0) n).1 (gjN n skJ (p0,R0) n).2 i i:=fun i hi=>by rw [←eXX];exact eX hi
 have hnx:∀i,gjN n skJ (p0,R0) (i+1)=(swapL 0 (gjN n skJ (p0,R0) i).1 i (pivF (lgF (gjN n skJ (p0,R0) i).1 (gjN n skJ (p0,R0) i).2) i (n - i) i),elimR (swapL 0 (gjN n skJ (p0,R0) i).1 i (pivF (lgF (gjN n skJ (p0,R0) i).1 (gjN n skJ (p0,R0) i).2) i (n - i) i)) i (skJ i) n (gjN n skJ (p0,R0) i).2):=fun i=>rfl
 obtain ⟨N,eN⟩:∃N:Nat→List Nat×Mt,N=gjN n skJ (p0,R0):=⟨_,rfl⟩
 have hN0:N 0=(p0,R0):=by rw [eN];rfl
 rw [←eN] at hG hnx eX ⊢
 clear eN eXX
 refine Fn.intro (ks:=[0,2,3,4,5,6,7,8,9,10,11,16,32,37,44,59,78,107]) hty rfl rfl rfl rfl rfl ?_
 conv=>whnf
 refine VLoop.inv hty (S:=Nat) (fun i=>[(5,I i),(4,I n),(0,.ls 1000000 0 n 1)]) (fun i=>[(1000000,mW (N i).1 (N i).2 (n+1))]) (fun i=>i≤n) (fun i=>n - i) 0 (Nat.zero_le _) ⟨rfl,rfl,rfl,trivial⟩ ⟨by rw [hN0];rfl,trivial⟩ ?_
 intro i hi
 conv=>whnf
 refine Br.mk (fun h=>?_) (fun h=>?_)
 ·have h:i < n:=by simp only [decide_eq_true_eq] at h;omega
  have hGi:=hG i hi
  have hGn:=hG (i+1) h
  have enx:=hnx i
  have hTi:=hT i hi
  obtain ⟨T,eT⟩:∃T,2 ^ i*t=T:=⟨_,rfl⟩
  have hrow:=hGi.row
  rw [eT] at hTi hrow
  obtain ⟨g1,g2,g3⟩:=hGi.piv hA h
  have hplc:=hGi.pl
  generalize N i=s at hGi enx hrow g1 g2 g3 hplc ⊢
  obtain ⟨p,R⟩:=s
  dsimp only at hGi enx hrow g1 g2 g3 hplc ⊢
  have hpl:=hplc.pl
  obtain ⟨kp,ekp⟩:∃kp,pivF (lgF p R) i (n - i) i=kp:=⟨_,rfl⟩
  rw [ekp] at g1 g2 g3 enx
  have hsz:∀q j,q < n→j≤n→sz (lgF p R q j) < T:=fun q j hq hj=>(hrow q hq).sz (getD_mem (by rw [hplc.wd q hq];omega))
  conv=>whnf
  refine VLoop.inv hty (S:=Nat) (fun k=>[(6,I k),(5,I i),(4,I n),(0,.ls 1000000 0 n 1)]) (fun _=>[(1000000,mW p R (n+1))]) (fun k=>k≤n∧pivF (lgF p R) i (n - k) k=kp) (fun k=>n - k) i ⟨hi,ekp⟩ ⟨rfl,rfl,rfl,rfl,trivial⟩ ⟨rfl,trivial⟩ ?_
  rintro k ⟨hk,hkp⟩
  have hkn:k < n:=by
   rcases Nat.lt_or_eq_of_le hk with e | e
   ·exact e
   ·rw [e,Nat.sub_self] at hkp
    have:n=kp:=hkp
    omega
  rw [pivF_next hkn] at hkp
  have hwk:=hplc.wd k hkn
  have c1:=fn_sZero (lgF p R k i) (by have:=hsz k i hkn (by omega);omega)
  conv=>whnf
  rw [decide_eq_true (show (k:Int) < (n:Int) by omega)]
  conv=>whnf
  refine ⟨by omega,?_⟩
  conv=>whnf
  refine ⟨_,ixW_at (w:=n+1) (i:=k) (by rw [hpl];omega),?_⟩
  conv=>whnf
  refine ⟨by omega,?_⟩
  conv=>whnf
  refine ⟨_,cRS_atp hplc hkn,?_⟩
  conv=>whnf
  refine ⟨_,cS_as (x:=lgF p R k i) (i:=i) (by omega) rfl,?_⟩
  conv=>whnf
  refine VCall.of_data c1 (nd _) ?_
  conv=>whnf
  by_cases hz:lgF p R k i=0
  ·rw [if_pos hz] at hkp
   rw [decide_eq_true hz]
   conv=>whnf
   refine Wr.i64 (y:=((k+1:Nat):Int)) rfl (by omega) (by omega) ?_
   conv=>whnf
   exact ⟨k+1,⟨hkn,hkp⟩,by show n - (k+1) < n - k;omega,⟨rfl,rfl,rfl,rfl,trivial⟩,rfl,trivial⟩
  rw [if_neg hz] at hkp
  subst hkp
  rw [decide_eq_false hz]
  conv=>whnf
  rw [decide_eq_false (show ¬(k:Int)=(n:Int) by omega)]
  conv=>whnf
  have hps:=hplc.swap h hkn
  have elgs:=fun q=>lg_swap hplc h hkn q
  have hgjn:=hGi.next h g1 hkn g3
  have csw:=fn_sSwap n (n+1) i k p R hpl (by omega) h hkn
  obtain ⟨p2,ep2⟩:∃p2,swapL 0 p i k=p2:=⟨_,rfl⟩
  rw [ep2] at hps elgs enx csw hgjn
  refine VCall.par1w 1000000 csw ⟨⟨rfl,rfl,rfl,rfl⟩,rfl,rfl,trivial⟩ rfl ?_
  conv=>whnf
  have hpl:=hps.pl
  have hszs:∀q j,q < n→j≤n→sz ((lg p2 R q).getD j 0) < T:=fun q j hq hj=>by rw [elgs];exact hsz _ j (swF_lt h hkn hq) hj
  have hdia:(lg p2 R i).getD i 0≠0:=by
   rw [elgs]
   have esw:swF i k i=k:=by unfold swF;by_cases e:i=k;rw [if_pos e];exact e;rw [if_neg e,if_pos rfl]
   rw [esw];exact g3
  have hel:=fun r hr=>elimR_is (sk:=skJ i) hps h (decide_eq_true rfl) r hr
  refine VLoop.inv hty (S:=Nat) (fun r=>[(7,I r),(5,I i),(4,I n),(0,.ls 1000000 0 n 1)]) (fun r=>[(1000000,mW p2 (elimR p2 i (skJ i) r R) (n+1))]) (fun r=>r≤n) (fun r=>n - r) 0 (Nat.zero_le _) ⟨rfl,rfl,rfl,rfl,trivial⟩ ⟨rfl,trivial⟩ ?_
  intro r hr
  conv=>whnf
  refine Br.mk (fun h2=>?_) (fun h2=>?_)
  ·have h2:r < n:=by simp only [decide_eq_true_eq] at h2;omega
   obtain ⟨q1,q2⟩:=hel r hr
   have e1:elimR p2 i (skJ i) (r+1) R=(elimR p2 i (skJ i) r R).set (p2.getD r 0) (elRow i (skJ i) (lg p2 (elimR p2 i (skJ i) r R) i) (lg p2 (elimR p2 i (skJ i) r R) r) r):=rfl
   have e2:lg p2 (elimR p2 i (skJ i) r R) r=lg p2 R r:=by rw [q2 r h2,if_neg (Nat.lt_irrefl r)]
   have e3:lg p2 (elimR p2 i (skJ i) r R) i=lg p2 R i:=by
    rw [q2 i h]
    split
    ·unfold elRow;rw [if_pos (.inl (decide_eq_true rfl))]
    ·rfl
   rw [e2,e3] at e1
   have hlt:=hps.lt r h2
   have s1:=hszs r i h2 (by omega)
   have s2:=hszs i i h (by omega)
   have al:=hps.wd r h2
   have bl:=hps.wd i h
   obtain ⟨a,ea⟩:∃a,lg p2 R r=a:=⟨_,rfl⟩
   obtain ⟨b,eb⟩:∃b,lg p2 R i=b:=⟨_,rfl⟩
   have hsa:∀j,j≤n→sz (a.getD j 0) < T:=fun j hj=>by rw [←ea];exact hszs r j h2 hj
   have hsb:∀j,j≤n→sz (b.getD j 0) < T:=fun j hj=>by rw [←eb];exact hszs i j h hj
   rw [ea] at e1 e2 s1 al
   rw [eb] at e1 e3 s2 bl hdia
   obtain ⟨Z,eZ⟩:∃Z,elimR p2 i (skJ i) r R=Z:=⟨_,rfl⟩
   rw [eZ] at q1 e1 e2 e3 ⊢
   have ya:=cRS_atp q1 h2
   have yb:=cRS_atp q1 h
   rw [e2] at ya
   rw [e3] at yb
   have hZl:=q1.rl
   conv=>whnf
   by_cases hri:r=i
   ·have e4:elimR p2 i (skJ i) (r+1) R=Z:=by
     rw [e1];unfold elRow;rw [if_pos (.inl (decide_eq_true hri))];exact set_same (by omega) e2
    rw [decide_eq_true (show (r:Int)=(i:Int) by omega)]
    conv=>whnf
    refine Wr.i64 (y:=((r+1:Nat):Int)) rfl (by omega) (by omega) ?_
    conv=>whnf
    refine ⟨r+1,h2,by show n - (r+1) < n - r;omega,⟨rfl,rfl,rfl,rfl,trivial⟩,?_,trivial⟩
    rw [e4];rfl
   rw [decide_eq_false (show ¬(r:Int)=(i:Int) by omega)]
   conv=>whnf
   refine ⟨by omega,?_⟩
   conv=>whnf
   refine ⟨_,ixW_at (w:=n+1) (i:=r) (by rw [hpl];omega),?_⟩
   conv=>whnf
   refine ⟨by omega,?_⟩
   conv=>whnf
   refine ⟨_,ya,?_⟩
   conv=>whnf
   refine ⟨_,cS_as (x:=a.getD i 0) (i:=i) (by omega) rfl,?_⟩
   conv=>whnf
   have k1:=fn_sZero (a.getD i 0) (by omega)
   refine VCall.of_data k1 (nd _) ?_
   conv=>whnf
   by_cases hz0:a.getD i 0=0
   ·have e4:elimR p2 i (skJ i) (r+1) R=Z:=by
     rw [e1];unfold elRow;rw [if_pos (.inr hz0)];exact set_same (by omega) e2
    rw [decide_eq_true hz0]
    conv=>whnf
    refine Wr.i64 (y:=((r+1:Nat):Int)) rfl (by omega) (by omega) ?_
    conv=>whnf
    refine ⟨r+1,h2,by show n - (r+1) < n - r;omega,⟨rfl,rfl,rfl,rfl,trivial⟩,?_,trivial⟩
    rw [e4];rfl
   have e4:elimR p2 i (skJ i) (r+1) R=Z.set (p2.getD r 0) (subRow i (n+1) (a.getD i 0 / b.getD i 0) b a):=by
    rw [e1];unfold elRow;rw [if_neg (by rintro (e | e);exact hri (of_decide_eq_true e);exact hz0 e),al]
   have k2:=fn_sOver (a.getD i 0) (b.getD i 0) (by omega) hdia
   have sf:=sz_div (a.getD i 0) hdia
   obtain ⟨f,ef⟩:∃f,a.getD i 0 / b.getD i 0=f:=⟨_,rfl⟩
   rw [ef] at k2 e4 sf
   rw [decide_eq_false hz0]
   conv=>whnf
   refine VDraw.go hmo hty 16 [[8],[8],[8],[8],[8],[8],[8],[8],[8],[8],[8],[8],[8],[8],[8],[]] rfl ?_
   conv=>whnf
   refine ⟨by omega,?_⟩
   conv=>whnf
   refine ⟨_,ixW_at (w:=n+1) (i:=r) (by rw [hpl];omega),?_⟩
   conv=>whnf
   refine ⟨by omega,?_⟩
   conv=>whnf
   refine ⟨_,ya,?_⟩
   conv=>whnf
   refine ⟨_,cS_as (x:=a.getD i 0) (i:=i) (by omega) rfl,?_⟩
   conv=>whnf
   refine ⟨by omega,?_⟩
   conv=>whnf
   refine ⟨_,ixW_at (w:=n+1) (i:=i) (by rw [hpl];omega),?_⟩
   conv=>whnf
   refine ⟨by omega,?_⟩
   conv=>whnf
   refine ⟨_,yb,?_⟩
   conv=>whnf
   refine ⟨_,cS_as (x:=b.getD i 0) (i:=i) (by omega) rfl,?_⟩
   conv=>whnf
   refine QCall.of_data k2 (ndA fun k=>rfl) ?_
   conv=>whnf
   refine VLoop.inv hty (S:=Nat) (fun j=>[(9,I j),(8,.lp 8 0),(7,I r),(5,I i),(4,I n),(0,.ls 1000000 0 n 1)]) (fun j=>[(8,.box true [B (ng f),nS (tp f),nS f.den]),(1000000,mW p2 (Z.set (p2.getD r 0) (subRow i j f b a)) (n+1))]) (fun j=>i≤j∧j≤n+1) (fun j=>n+1 - j) i ⟨Nat.le_refl _,by omega⟩ ⟨rfl,rfl,rfl,rfl,rfl,rfl,trivial⟩ ⟨rfl,?_,trivial⟩ ?_
   ·rw [subRow_none,set_same (by omega) e2];rfl
   rintro j ⟨hij,hj⟩
   conv=>whnf
   refine Br.mk (fun h3=>?_) (fun h3=>?_)
   ·have h3:j≤n:=by simp only [decide_eq_true_eq] at h3;omega
    have q3:=q1.set (x:=subRow i j f b a) h2 (by rw [subRow_len,al])
    have yj:=cRS_atp q3 h2
    rw [lg_set q1 h2 h2,if_pos rfl] at yj
    have yi:=cRS_atp q3 h
    rw [lg_set q1 h2 h,if_neg (Ne.symm hri),e3] at yi
    have hjl:(subRow i j f b a).length=n+1:=by rw [subRow_len,al]
    have vj:(subRow i j f b a).getD j 0=a.getD j 0:=by rw [subRow_at (by omega),if_neg (by omega)]
    have hnj:=subRow_next (f:=f) (b:=b) (a:=a) (c:=i) (m:=j) hij (by omega)
    have t1:=hsa j h3
    have t2:=hsb j h3
    have t3:=sz_mul f (b.getD j 0)
    have k3:=fn_sTimes f (b.getD j 0) (by omega)
    have k4:=fn_sMinus (a.getD j 0) (f*b.getD j 0) (by omega)
    have hZs:(Z.set (p2.getD r 0) (subRow i j f b a)).length=n:=by rw [List.length_set,hZl]
    obtain ⟨rj,erj⟩:∃rj,subRow i j f b a=rj:=⟨_,rfl⟩
    rw [erj] at yj yi hjl vj hnj hZs ⊢
    conv=>whnf
    refine VDraw.go hmo hty 23 [] rfl ?_
    conv=>whnf
    refine ⟨by omega,?_⟩
    conv=>whnf
    refine ⟨_,ixW_at (w:=n+1) (i:=r) (by rw [hpl];omega),?_⟩
    conv=>whnf
    refine ⟨by omega,?_⟩
    conv=>whnf
    refine ⟨_,ixW_at (w:=n+1) (i:=r) (by rw [hpl];omega),?_⟩
    conv=>whnf
    refine ⟨by omega,?_⟩
    conv=>whnf
    refine ⟨_,yj,?_⟩
    conv=>whnf
    refine ⟨_,cS_as (x:=a.getD j 0) (i:=j) (by omega) vj,?_⟩
    conv=>whnf
    refine ⟨by omega,?_⟩
    conv=>whnf
    refine ⟨_,ixW_at (w:=n+1) (i:=i) (by rw [hpl];omega),?_⟩
    conv=>whnf
    refine ⟨by omega,?_⟩
    conv=>whnf
    refine ⟨_,yi,?_⟩
    conv=>whnf
    refine ⟨_,cS_as (x:=b.getD j 0) (i:=j) (by omega) rfl,?_⟩
    conv=>whnf
    refine QCall.of_data k3 (ndA fun k=>rfl) ?_
    conv=>whnf
    refine QCall.of_data k4 (ndA fun k=>rfl) ?_
    conv=>whnf
    refine ⟨by omega,?_⟩
    conv=>whnf
    refine ⟨_,yj,?_⟩
    conv=>whnf
    refine ⟨by rw [cS_len,hjl];show j+0 < n+1;omega,?_⟩
    conv=>whnf
    refine Wr.i64 (y:=((j+1:Nat):Int)) rfl (by omega) (by omega) ?_
    conv=>whnf
    refine ⟨j+1,⟨by omega,by omega⟩,by show n+1 - (j+1) < n+1 - j;omega,⟨rfl,rfl,rfl,rfl,rfl,rfl,trivial⟩,rfl,?_,trivial⟩
    show Ob.mat 3 (ixW p2 (n+1)) ((cRS (Z.set (p2.getD r 0) rj)).set (p2.getD r 0) ((cS rj).set j (c1S (a.getD j 0 - f*b.getD j 0))))=mW p2 _ (n+1)
    rw [cS_set,hnj,cRS_set,List.set_set]
   ·have h3:j=n+1:=by simp only [decide_eq_false_iff_not] at h3;omega
    rw [h3,←e4]
    conv=>whnf
    refine Wr.i64 (y:=((r+1:Nat):Int)) rfl (by omega) (by omega) ?_
    conv=>whnf
    exact ⟨r+1,h2,by show n - (r+1) < n - r;omega,⟨rfl,rfl,rfl,rfl,trivial⟩,rfl,trivial⟩
  ·have h2:r=n:=by simp only [decide_eq_false_iff_not] at h2;omega
   rw [h2]
   conv=>whnf
   refine Wr.i64 (y:=((i+1:Nat):Int)) rfl (by omega) (by omega) ?_
   conv=>whnf
   refine ⟨i+1,h,by show n - (i+1) < n - i;omega,⟨rfl,rfl,rfl,trivial⟩,?_,trivial⟩
   rw [enx];rfl
 ·have h:i=n:=by simp only [decide_eq_false_iff_not] at h;omega
  have hGn:=hG n (Nat.le_refl _)
  have hTn:=hT n (Nat.le_refl _)
  obtain ⟨T,eT⟩:∃T,2 ^ n*t=T:=⟨_,rfl⟩
  have hrow:=hGn.row
  rw [eT] at hTn hrow
  have hdi:=hGn.dia
  rw [h]
  have hplc:=hGn.pl
  generalize N n=s at hrow hdi hplc eX ⊢
  obtain ⟨p,R⟩:=s
  dsimp only at hrow hdi hplc eX ⊢
  have hpl:=hplc.pl
  conv=>whnf
  refine VLoop.ren 104 127 rfl ?_
  refine VLoop.inv hty (S:=Nat) (fun i=>[(11,I i),(10,.ls 127 0 i 3),(4,I n),(0,.ls 1000000 0 n 1)]) (fun i=>[(127,.row true 3 (cS (X.take i))),(1000000,mW p R (n+1))]) (fun i=>i≤n) (fun i=>n - i) 0 (Nat.zero_le _) ⟨rfl,rfl,rfl,rfl,trivial⟩ ⟨rfl,rfl,trivial⟩ ?_
  intro i hi
  conv=>whnf
  refine Br.mk (fun h2=>?_) (fun h2=>?_)
  ·have h2:i < n:=by simp only [decide_eq_true_eq] at h2;omega
   have hw:=hplc.wd i h2
   have ya:=cRS_atp hplc h2
   have s1:sz (lgF p R i n) < T:=(hrow i h2).sz (getD_mem (by omega))
   have s2:sz (lgF p R i i) < T:=(hrow i h2).sz (getD_mem (by omega))
   have k1:=fn_sOver (lgF p R i n) (lgF p R i i) (by omega) (hdi i h2).1
   have htk:X.take (i+1)=X.take i++[lgF p R i n / lgF p R i i]:=by
    rw [List.take_succ_eq_append_getElem (by omega),←eX i h2,List.getD_eq_getElem?_getD,List.getElem?_eq_getElem (by omega)];rfl
   obtain ⟨x,ex⟩:∃x,lgF p R i n / lgF p R i i=x:=⟨_,rfl⟩
   rw [ex] at k1 htk
   have hkl:(X.take i).length=i:=by rw [List.length_take];omega
   obtain ⟨F,eF⟩:∃F,X.take i=F:=⟨_,rfl⟩
   rw [eF] at htk hkl ⊢
   conv=>whnf
   refine VDraw.go hmo hty 17 [[126],[126],[126],[126],[126],[126],[126],[126],[126],[126],[126],[126],[126],[126],[126],[126],[]] rfl ?_
   conv=>whnf
   refine ⟨by omega,?_⟩
   conv=>whnf
   refine ⟨_,ixW_at (w:=n+1) (i:=i) (by rw [hpl];omega),?_⟩
   conv=>whnf
   refine ⟨by omega,?_⟩
   conv=>whnf
   refine ⟨_,ya,?_⟩
   conv=>whnf
   refine ⟨_,cS_as (x:=lgF p R i n) (i:=n) (by omega) rfl,?_⟩
   conv=>whnf
   refine ⟨by omega,?_⟩
   conv=>whnf
   refine ⟨_,ixW_at (w:=n+1) (i:=i) (by rw [hpl];omega),?_⟩
   conv=>whnf
   refine ⟨by omega,?_⟩
   conv=>whnf
   refine ⟨_,ya,?_⟩
   conv=>whnf
   refine ⟨_,cS_as (x:=lgF p R i i) (i:=i) (by omega) rfl,?_⟩
   conv=>whnf
   refine QCall.of_data k1 (ndA fun k=>rfl) ?_
   conv=>whnf
   refine Sub.full rfl ?_
   conv=>whnf
   refine Sub.full (by rw [cS_len,hkl]) ?_
   conv=>whnf
   refine ⟨by show (i+1)*56≤_;omega,?_⟩
   conv=>whnf
   refine Wr.i64 (y:=((i+1:Nat):Int)) rfl (by omega) (by omega) ?_
   conv=>whnf
   refine ⟨i+1,h2,by show n - (i+1) < n - i;omega,⟨rfl,rfl,rfl,rfl,trivial⟩,?_,rfl,trivial⟩
   rw [htk,←cS_ap1];rfl
  ·have h2:i=n:=by simp only [decide_eq_false_iff_not] at h2;omega
   rw [h2,List.take_of_length_le (by omega)]
   conv=>whnf
   exact ⟨⟨rfl,rfl,rfl,rfl,rfl,rfl⟩,_,rfl,rfl,⟨rfl,trivial⟩,rfl⟩
end Go.V
namespace Go.V
open Go.Proofs Go.RowKit
set_option maxRecDepth 10000
set_option maxHeartbeats 16000000
theorem VCall.par1n {P:Program} {t:TL} {l:LL} {f:FuncId} {xs xs0:List AV} {sz sz' n s2:Nat} {ix ix':List MC} {rows rows':List (List (List C))} {r2:List (List C)} {dst:Option Nat} {K:AV→TL→LL→Prop} (a k:Nat)
  (h:Fn P f xs0 [(1000000,.mat sz ix rows)] (.tup [.ls 0 0 n s2,B true]) [(0,.row true s2 r2),(1000000,.mat sz' ix' rows')]) (ha:argR (pmap [(1000000,a)]) xs xs0) (hl:lget a l = .mat sz ix rows)
  (hf:freshR (pmap [(1000000,a)]) k t l [(1000000,.mat sz ix rows)] [(0,.row true s2 r2),(1000000,.mat sz' ix' rows')]=true)
  (hK:K (.tup [.ls k 0 n s2,B true]) t ((k,.row true s2 r2) :: (a,.mat sz' ix' rows') :: l)):VCall P f xs dst t l K :=
 VCall.of_fnR (k:=k) (pmap [(1000000,a)]) h ha ⟨⟨hl,fun p h=>absurd rfl h⟩,trivial⟩ rfl (fun p hp=>by
  by_cases e:p=1000000
  ·subst e;intro h2;cases h2
  ·exfalso;apply hp
   rw [lget_cons,if_neg e];rfl) (fun j hj=>by
  have h1:(AV.ment j (.tup [.ls 0 0 n s2,B true]))=(Nat.beq 0 j || (false || false)):=rfl
  rw [h1] at hj
  have:0=j:=Nat.eq_of_beq_eq_true (by simpa using hj)
  subst this;intro h2;cases h2) hf (by
  have e1:AV.ren (ret (pmap [(1000000,a)]) k) (.tup [.ls 0 0 n s2,B true]) = .tup [.ls k 0 n s2,B true]:=by
   show AV.tup [.ls (ret (pmap [(1000000,a)]) k 0) 0 n s2,B true]=_
   rfl
  rw [e1]
  have e2:retL (pmap [(1000000,a)]) k [(0,.row true s2 r2),(1000000,.mat sz' ix' rows')]=[(k,.row true s2 r2),(a,.mat sz' ix' rows')]:=rfl
  rw [e2];exact hK)
def sysU (p:Mt) (j:Nat):Mt:=(List.range j).map fun j=>(List.range (p.length+1)).map (entS p j)
theorem sysU_len (p:Mt) (j:Nat):(sysU p j).length=j:=by simp [sysU]
theorem sysU_next (p:Mt) (j:Nat):cRS (sysU p (j+1))=cRS (sysU p j)++[cS ((List.range (p.length+1)).map (entS p j))]:=by
 unfold sysU cRS;rw [show List.range (j+1)=List.range j++[j] from List.range_succ,List.map_append,List.map_append];rfl
theorem mapR_next {α:Type} (f:Nat→α) (i:Nat):(List.range (i+1)).map f=(List.range i).map f++[f i]:=by rw [List.range_succ,List.map_append];rfl
theorem fn_sRest (p:Mt) (t s:Nat) (hp:MtR p t) (ht:t≤9700) (hs:s < p.length) (hc:Cl p.length (ent p) s):Fn Tryz.prog 102 [mP p] [] (.tup [lS (restQ p s),B true]) []:=by
 have hz:((cMS p).length:Int)=p.length:=by rw [cMS_len]
 have n1:=hp.n1
 have n2:=hp.n2
 obtain ⟨c,hset,_⟩:=cls_one (n:=p.length) (s:=s) (r:=rb p.length (ent p)) (fun j _=>rb_self) (fun j k l _ _ _ h1 h2=>rb_trans h1 h2) hs (fun i hi=>rb_iff.2 (hc.rc i hi))
 have c1:=fn_sClasses p t hp (by omega)
 rw [hset] at c1
 generalize (clsN p.length (rb p.length (ent p)) p.length).1=o at c1
 obtain ⟨hinj,hgx⟩:=hp.rest_gj hs hc
 have cv:=fn_sSolve p.length (12*t+14) (List.range p.length) (sysL p) _ hp.gj hinj n1 n2 (by omega)
 rw [hgx] at cv
 have hU:sysL p=sysU p p.length:=rfl
 rw [hU] at cv
 have hql:=restQ_len p s
 obtain ⟨Q,eQ⟩:∃Q,restQ p s=Q:=⟨_,rfl⟩
 rw [eQ] at cv hql ⊢
 have hent:∀j i,j < p.length→i < p.length→entS p j i=if j=p.length - 1 then 1 else if i=j then ent p i j - 1 else ent p i j:=fun j i hj hi=>by unfold entS;rw [if_neg (by omega)]
 have hentn:∀j,entS p j p.length=if j=p.length - 1 then 1 else 0:=fun j=>by unfold entS;rw [if_pos rfl]
 have k1:=fn_sOne
 have k0:=fn_sNone
 obtain ⟨n,en⟩:∃n,p.length=n:=⟨_,rfl⟩
 have hrl:∀i,i < n→(p.getD i []).length=n:=fun i hi=>by rw [hp.rlen (by omega),en]
 have hsz:∀i j,i < n→j < n→sz (ent p i j) < t:=fun i j hi hj=>hp.ent_sz (by omega) (by omega)
 rw [en] at hz n1 n2 cv hql hent hentn
 generalize gjN n skJ (List.range n,sysU p n) n=fin at cv
 have g:Fn Tryz.prog 102 [mP p] [] (.tup [.ls 0 0 n 3,B true]) [(0,.row true 3 (cS Q))]:=by
  refine Fn.intro (ks:=[0,2,3,5,6,7,8,9,10,11,12,20,29,35,50,57,67]) hty rfl rfl rfl rfl rfl ?_
  conv=>whnf
  refine VCall.of_data c1 (ndT fun _=>rfl) ?_
  conv=>whnf
  rw [hz]
  refine VLoop.toMat 26 3 (cs:=[]) rfl rfl ?_
  refine VLoop.ren 26 75 rfl ?_
  refine VLoop.inv hty (S:=Nat) (fun j=>[(8,I j),(7,.ls 75 0 j 1),(6,I n),(0,mP p)]) (fun j=>[(75,.mat 3 (ixQ j (n+1)) (cRS (sysU p j)))]) (fun j=>j≤n) (fun j=>n - j) 0 (Nat.zero_le _) ⟨rfl,rfl,rfl,rfl,trivial⟩ ⟨rfl,trivial⟩ ?_
  intro j hj
  conv=>whnf
  refine Br.mk (fun h=>?_) (fun h=>?_)
  ·have h:j < n:=by simp only [decide_eq_true_eq] at h;omega
   have hN:=sysU_len p j
   have hnx:=sysU_next p j
   rw [en] at hnx
   obtain ⟨N,eN⟩:∃N,sysU p j=N:=⟨_,rfl⟩
   rw [eN] at hN hnx
   rw [eN]
   conv=>whnf
   refine VLoop.ren 32 62 rfl ?_
   refine VLoop.inv hty (S:=Nat) (fun i=>[(10,I i),(9,.ls 62 0 i 3),(8,I j),(7,.ls 75 0 j 1),(6,I n),(0,mP p)]) (fun i=>[(62,.row true 3 (cS ((List.range i).map (entS p j)))),(75,.mat 3 (ixQ j (n+1)) (cRS N))]) (fun i=>i≤n) (fun i=>n - i) 0 (Nat.zero_le _) ⟨rfl,rfl,rfl,rfl,rfl,rfl,trivial⟩ ⟨rfl,rfl,trivial⟩ ?_
   intro i hi
   conv=>whnf
   refine Br.mk (fun h3=>?_) (fun h3=>?_)
   ·have h3:i < n:=by simp only [decide_eq_true_eq] at h3;omega
    have hFn:=mapR_next (entS p j) i
    have hF:((List.range i).map (entS p j)).length=i:=by simp
    have hv0:=hent j i h h3
    have hs1:=hsz i j h3 h
    have k2:=fn_sMinus (ent p i j) 1 (by have:=sz_small (n:=1) (k:=1) (by decide) (by decide);have:sz (1:Rat)≤1:=this;omega)
    obtain ⟨F,eF⟩:∃F,(List.range i).map (entS p j)=F:=⟨_,rfl⟩
    rw [eF] at hFn hF ⊢
    conv=>whnf
    refine ⟨⟨⟨by omega,by rw [cMS_len];omega⟩,cMS_sz _⟩,?_⟩
    conv=>whnf
    refine ⟨_,cMS_as (x:=p.getD i []) (by omega) rfl,?_⟩
    conv=>whnf
    refine ⟨⟨⟨by omega,by rw [cS_len,hrl i h3];omega⟩,cS_sz _⟩,?_⟩
    conv=>whnf
    refine ⟨_,cS_as (x:=ent p i j) (by rw [hrl i h3];exact h) rfl,?_⟩
    conv=>whnf
    by_cases hij:i=j
    ·rw [decide_eq_true (show (i:Int)=(j:Int) by omega)]
     conv=>whnf
     refine VDraw.go hmo hty 3 [] rfl ?_
     conv=>whnf
     refine QCall.of_data k1 (ndA fun k=>rfl) ?_
     conv=>whnf
     refine QCall.of_data k2 (ndA fun k=>rfl) ?_
     conv=>whnf
     refine Wr.i64 (y:=((n - 1:Nat):Int)) (by omega) (by omega) (by omega) ?_
     conv=>whnf
     by_cases hjn:j=n - 1
     ·have hv:entS p j i=1:=by rw [hv0,if_pos hjn]
      rw [decide_eq_true (show (j:Int)=((n - 1:Nat):Int) by omega)]
      conv=>whnf
      refine VCall.of_data k1 (ndA fun k=>rfl) ?_
      conv=>whnf
      refine Sub.full rfl ?_
      conv=>whnf
      refine Sub.full (by rw [cS_len,hF]) ?_
      conv=>whnf
      refine ⟨by show (i+1)*56≤_;omega,?_⟩
      conv=>whnf
      refine Wr.i64 (y:=((i+1:Nat):Int)) rfl (by omega) (by omega) ?_
      conv=>whnf
      refine ⟨i+1,h3,by show n - (i+1) < n - i;omega,⟨rfl,rfl,rfl,rfl,rfl,rfl,trivial⟩,?_,rfl,trivial⟩
      rw [hFn,hv,←cS_ap1];rfl
     ·have hv:entS p j i=ent p i j - 1:=by rw [hv0,if_neg hjn,if_pos hij]
      rw [decide_eq_false (show ¬(j:Int)=((n - 1:Nat):Int) by omega)]
      conv=>whnf
      refine Sub.full rfl ?_
      conv=>whnf
      refine Sub.full (by rw [cS_len,hF]) ?_
      conv=>whnf
      refine ⟨by show (i+1)*56≤_;omega,?_⟩
      conv=>whnf
      refine Wr.i64 (y:=((i+1:Nat):Int)) rfl (by omega) (by omega) ?_
      conv=>whnf
      refine ⟨i+1,h3,by show n - (i+1) < n - i;omega,⟨rfl,rfl,rfl,rfl,rfl,rfl,trivial⟩,?_,rfl,trivial⟩
      rw [hFn,hv,←cS_ap1];rfl
    ·rw [decide_eq_false (show ¬(i:Int)=(j:Int) by omega)]
     conv=>whnf
     refine Wr.i64 (y:=((n - 1:Nat):Int)) (by omega) (by omega) (by omega) ?_
     conv=>whnf
     by_cases hjn:j=n - 1
     ·have hv:entS p j i=1:=by rw [hv0,if_pos hjn]
      rw [decide_eq_true (show (j:Int)=((n - 1:Nat):Int) by omega)]
      conv=>whnf
      refine VCall.of_data k1 (ndA fun k=>rfl) ?_
      conv=>whnf
      refine Sub.full rfl ?_
      conv=>whnf
      refine Sub.full (by rw [cS_len,hF]) ?_
      conv=>whnf
      refine ⟨by show (i+1)*56≤_;omega,?_⟩
      conv=>whnf
      refine Wr.i64 (y:=((i+1:Nat):Int)) rfl (by omega) (by omega) ?_
      conv=>whnf
      refine ⟨i+1,h3,by show n - (i+1) < n - i;omega,⟨rfl,rfl,rfl,rfl,rfl,rfl,trivial⟩,?_,rfl,trivial⟩
      rw [hFn,hv,←cS_ap1];rfl
     ·have hv:entS p j i=ent p i j:=by rw [hv0,if_neg hjn,if_neg hij]
      rw [decide_eq_false (show ¬(j:Int)=((n - 1:Nat):Int) by omega)]
      conv=>whnf
      refine Sub.full rfl ?_
      conv=>whnf
      refine Sub.full (by rw [cS_len,hF]) ?_
      conv=>whnf
      refine ⟨by show (i+1)*56≤_;omega,?_⟩
      conv=>whnf
      refine Wr.i64 (y:=((i+1:Nat):Int)) rfl (by omega) (by omega) ?_
      conv=>whnf
      refine ⟨i+1,h3,by show n - (i+1) < n - i;omega,⟨rfl,rfl,rfl,rfl,rfl,rfl,trivial⟩,?_,rfl,trivial⟩
      rw [hFn,hv,←cS_ap1];rfl
   ·have h3:i=n:=by simp only [decide_eq_false_iff_not] at h3;omega
    rw [h3]
    conv=>whnf
    refine VCall.of_data k0 (ndA fun k=>rfl) ?_
    conv=>whnf
    refine Wr.i64 (y:=((n - 1:Nat):Int)) (by omega) (by omega) (by omega) ?_
    conv=>whnf
    by_cases hjn:j=n - 1
    ·have hE:entS p j n=1:=by rw [hentn,if_pos hjn]
     rw [decide_eq_true (show (j:Int)=((n - 1:Nat):Int) by omega)]
     conv=>whnf
     refine VCall.of_data k1 (ndA fun k=>rfl) ?_
     conv=>whnf
     have hrow:(List.range (n+1)).map (entS p j)=(List.range n).map (entS p j)++[1]:=by rw [mapR_next,hE]
     have hFl:((List.range n).map (entS p j)).length=n:=by simp
     obtain ⟨F,eF⟩:∃F,(List.range n).map (entS p j)=F:=⟨_,rfl⟩
     rw [eF] at hrow hFl ⊢
     refine Sub.full rfl ?_
     conv=>whnf
     refine Sub.full (by rw [cS_len,hFl]) ?_
     conv=>whnf
     refine ⟨by show (n+1)*56≤_;omega,?_⟩
     conv=>whnf
     refine ⟨⟨by rw [ixQ_len],by show (j+1)*24≤_;omega⟩,?_⟩
     conv=>whnf
     refine Wr.i64 (y:=((j+1:Nat):Int)) rfl (by omega) (by omega) ?_
     conv=>whnf
     refine ⟨j+1,h,by show n - (j+1) < n - j;omega,⟨rfl,rfl,rfl,rfl,trivial⟩,?_,trivial⟩
     show Ob.mat 3 (ixQ j (n+1)++[.r (cRS N).length 0 (n+1)]) (cRS N++[cS F++[c1S 1]])=Ob.mat 3 (ixQ (j+1) (n+1)) (cRS (sysU p (j+1)))
     rw [hnx,ixQ_snoc,cRS_len,hN,hrow,cS_ap1]
    ·have hE:entS p j n=0:=by rw [hentn,if_neg hjn]
     rw [decide_eq_false (show ¬(j:Int)=((n - 1:Nat):Int) by omega)]
     conv=>whnf
     have hrow:(List.range (n+1)).map (entS p j)=(List.range n).map (entS p j)++[0]:=by rw [mapR_next,hE]
     have hFl:((List.range n).map (entS p j)).length=n:=by simp
     obtain ⟨F,eF⟩:∃F,(List.range n).map (entS p j)=F:=⟨_,rfl⟩
     rw [eF] at hrow hFl ⊢
     refine Sub.full rfl ?_
     conv=>whnf
     refine Sub.full (by rw [cS_len,hFl]) ?_
     conv=>whnf
     refine ⟨by show (n+1)*56≤_;omega,?_⟩
     conv=>whnf
     refine ⟨⟨by rw [ixQ_len],by show (j+1)*24≤_;omega⟩,?_⟩
     conv=>whnf
     refine Wr.i64 (y:=((j+1:Nat):Int)) rfl (by omega) (by omega) ?_
     conv=>whnf
     refine ⟨j+1,h,by show n - (j+1) < n - j;omega,⟨rfl,rfl,rfl,rfl,trivial⟩,?_,trivial⟩
     show Ob.mat 3 (ixQ j (n+1)++[.r (cRS N).length 0 (n+1)]) (cRS N++[cS F++[c1S 0]])=Ob.mat 3 (ixQ (j+1) (n+1)) (cRS (sysU p (j+1)))
     rw [hnx,ixQ_snoc,cRS_len,hN,hrow,cS_ap1]
  ·have h:j=n:=by simp only [decide_eq_false_iff_not] at h;omega
   rw [h]
   conv=>whnf
   refine VCall.par1n 75 77 cv ⟨⟨rfl,rfl,rfl,rfl⟩,trivial⟩ rfl rfl ?_
   conv=>whnf
   exact ⟨⟨rfl,rfl,rfl,rfl,rfl,rfl⟩,[],rfl,rfl,trivial,rfl⟩
 have:=g.freezeT (by rw [cS_len];omega) rfl
 rwa [List.drop_zero,List.take_of_length_le (by rw [cS_len];omega)] at this
end Go.V
namespace Go.V
open Go.Proofs Go.RowKit
set_option maxRecDepth 10000
set_option maxHeartbeats 2000000
theorem fn_sPolGain (m:Mo) (hm:m.Ok) (acts:List Bool) (ha:acts.length=m.room):Fn Tryz.prog 82 [moP m,lBo acts] [] (.tup [rS (gainQ m (acts.getD · false)),lS (polU m (acts.getD · false))]) []:=by
 have r2:=hm.r2
 have c1:=fn_sChain m hm acts ha
 have c2:Fn Tryz.prog 102 [mP (chainP m (acts.getD · false))] [] (.tup [lS (polU m (acts.getD · false)),B true]) []:=fn_sRest _ 1601 0 (polR hm (acts.getD · false)) (by decide) (by rw [chainP_len];omega) (polC hm _)
 have hU:=polU_len m (acts.getD · false)
 have sU:=polU_sz hm (acts.getD · false)
 have gz:=fun n (hn:n < m.room+1)=>gainT_sz hm (acts.getD · false) hn
 have eG:∀n,gainT m (acts.getD · false) n=if n < m.room∧acts.getD n false=true then -(m.cost*((n:Int):Rat))+m.come*m.reward else -(m.cost*((n:Int):Rat)):=fun n=>rfl
 have hsz:=gainF_sz hm (acts.getD · false)
 unfold gainQ
 generalize polU m (acts.getD · false)=U at c2 hU sU hsz ⊢
 generalize gainT m (acts.getD · false)=G at gz eG hsz ⊢
 generalize chainP m (acts.getD · false)=p at c1 c2
 have hz:((cS U).length:Int)=((m.room+1:Nat):Int):=by rw [cS_len,hU]
 obtain ⟨A,eA⟩:∃A:Nat→Rat,(fun k=>sN k fun n=>U.getD n 0*G n)=A:=⟨_,rfl⟩
 have hA:∀k,k≤m.room+1→sz (A k)≤2000000000:=fun k hk=>by rw [←eA];exact hsz k hk
 have hst:∀n,A (n+1)=A n+U.getD n 0*G n:=fun n=>by rw [←eA];rfl
 have h0:(0:Rat)=A 0:=by rw [←eA];rfl
 rw [show (sN (m.room+1) fun n=>U.getD n 0*G n)=A (m.room+1) by rw [←eA]]
 clear hsz eA
 have c0:=fn_sNone
 rw [h0] at c0
 refine Fn.intro (ks:=[0,1,4,5,6,7,9,10,11,21,22,23,44]) hty rfl rfl rfl rfl rfl ?_
 conv=>whnf
 refine VCall.of_data c1 (ndA fun k=>rfl) ?_
 conv=>whnf
 refine VCall.thaw 6 (cs:=[.sl (cMS p)]) rfl ?_
 refine VCall.of_data c2 (ndT fun _=>rfl) ?_
 conv=>whnf
 refine VCall.of_data c0 (ndA fun k=>rfl) ?_
 conv=>whnf
 rw [hz]
 refine VLoop.inv hty (S:=Nat) (fun n=>[(22,I n),(21,I ((m.room+1:Nat):Int)),(9,.lp 9 0),(7,lS U),(4,.lp 4 0),(1,lBo acts),(0,moP m)])
  (fun n=>[(9,.box true [B (ng (A n)),nS (tp (A n)),nS (A n).den]),(4,.box true [B false,.d (.s (.slice none 0 0)),.d (.s (.slice none 0 0))])]) (fun n=>n≤m.room+1) (fun n=>m.room+1 - n) 0 (Nat.zero_le _)
  ⟨rfl,rfl,rfl,rfl,rfl,rfl,rfl,trivial⟩ ⟨rfl,rfl,trivial⟩ ?_
 intro n hn
 conv=>whnf
 refine Br.mk (fun h2=>?_) (fun h2=>?_)
 ·have h2:n < m.room+1:=by simp only [decide_eq_true_eq] at h2;omega
  obtain ⟨g1,g2,g3,g4⟩:=gz n h2
  have eg:=eG n
  have su:=sU n
  have sA:=hA n (by omega)
  have hs:=hst n
  have zk:=hm.zk;have zc:=hm.zc;have zw:=hm.zw
  have z0:=sz_small (n:=(n:Int)) (k:=4) (by omega) (by omega)
  have k1:=fn_sInt (n:Int) (by omega) (by omega)
  have k2:=fn_sTimes m.cost ((n:Int):Rat) (by omega)
  have k3:=fn_sOpp (m.cost*((n:Int):Rat)) (by omega)
  have k4:=fn_sTimes m.come m.reward (by omega)
  have k5:=fn_sSum (-(m.cost*((n:Int):Rat))) (m.come*m.reward) (by omega)
  obtain ⟨g,eg2⟩:∃g,G n=g:=⟨_,rfl⟩
  rw [eg2] at eg g4 hs
  obtain ⟨u,eu⟩:∃u,U.getD n 0=u:=⟨_,rfl⟩
  rw [eu] at su hs
  have s6:=sz_mul u g
  have k6:=fn_sTimes u g (by omega)
  have k7:=fn_sSum (A n) (u*g) (by omega)
  rw [←hs] at k7
  clear s6 hs sA su g4 g3 g2 g1 zk zc zw
  obtain ⟨ug,eug⟩:∃x,u*g=x:=⟨_,rfl⟩
  rw [eug] at k6 k7
  obtain ⟨w,ew⟩:∃w,((n:Int):Rat)=w:=⟨_,rfl⟩
  rw [ew] at k1 k2 k3 k5 eg
  obtain ⟨x1,e1⟩:∃x,m.cost*w=x:=⟨_,rfl⟩
  rw [e1] at k2 k3 k5 eg
  obtain ⟨x2,e2⟩:∃x,-x1=x:=⟨_,rfl⟩
  rw [e2] at k3 k5 eg
  obtain ⟨x3,e3⟩:∃x,m.come*m.reward=x:=⟨_,rfl⟩
  rw [e3] at k4 k5 eg
  obtain ⟨b,eb⟩:∃b,acts.getD n false=b:=⟨_,rfl⟩
  rw [eb] at eg
  conv=>whnf
  refine VDraw.go hmo hty 9 [[11],[11],[11],[11],[11],[11],[11],[11],[]] rfl ?_
  conv=>whnf
  refine QCall.of_data k1 (ndA fun k=>rfl) ?_
  conv=>whnf
  refine QCall.of_data k2 (ndA fun k=>rfl) ?_
  conv=>whnf
  refine QCall.of_data k3 (ndA fun k=>rfl) ?_
  conv=>whnf
  by_cases hr:n < m.room
  ·rw [decide_eq_true (show (n:Int) < (m.room:Int) by omega)]
   conv=>whnf
   refine ⟨⟨⟨by omega,by rw [cBo_len];omega⟩,cBo_sz _⟩,?_⟩
   conv=>whnf
   refine ⟨_,cBo_as (x:=b) (by omega) eb,?_⟩
   conv=>whnf
   cases b with
   | true =>
    rw [if_pos ⟨hr,rfl⟩] at eg
    rw [←eg] at k5
    conv=>whnf
    refine VDraw.go hmo hty 11 [] rfl ?_
    conv=>whnf
    refine QCall.of_data k4 (ndA fun k=>rfl) ?_
    conv=>whnf
    refine QCall.of_data k5 (ndA fun k=>rfl) ?_
    conv=>whnf
    refine VDraw.go hmo hty 8 [] rfl ?_
    conv=>whnf
    refine ⟨⟨⟨by omega,by rw [cS_len];omega⟩,cS_sz _⟩,?_⟩
    conv=>whnf
    refine ⟨_,cS_as (x:=u) (by omega) eu,?_⟩
    conv=>whnf
    refine QCall.of_data k6 (ndA fun k=>rfl) ?_
    conv=>whnf
    refine QCall.of_data k7 (ndA fun k=>rfl) ?_
    conv=>whnf
    refine Wr.i64 (y:=((n+1:Nat):Int)) rfl (by omega) (by omega) ?_
    conv=>whnf
    exact ⟨n+1,h2,by show m.room+1 - (n+1) < m.room+1 - n;omega,⟨rfl,rfl,rfl,rfl,rfl,rfl,rfl,trivial⟩,rfl,rfl,trivial⟩
   | false =>
    rw [if_neg (fun e=>by cases e.2)] at eg
    subst eg
    conv=>whnf
    refine VDraw.go hmo hty 8 [] rfl ?_
    conv=>whnf
    refine ⟨⟨⟨by omega,by rw [cS_len];omega⟩,cS_sz _⟩,?_⟩
    conv=>whnf
    refine ⟨_,cS_as (x:=u) (by omega) eu,?_⟩
    conv=>whnf
    refine QCall.of_data k6 (ndA fun k=>rfl) ?_
    conv=>whnf
    refine QCall.of_data k7 (ndA fun k=>rfl) ?_
    conv=>whnf
    refine Wr.i64 (y:=((n+1:Nat):Int)) rfl (by omega) (by omega) ?_
    conv=>whnf
    exact ⟨n+1,h2,by show m.room+1 - (n+1) < m.room+1 - n;omega,⟨rfl,rfl,rfl,rfl,rfl,rfl,rfl,trivial⟩,rfl,rfl,trivial⟩
  ·rw [if_neg (fun e=>hr e.1)] at eg
   subst eg
   rw [decide_eq_false (show ¬(n:Int) < (m.room:Int) by omega)]
   conv=>whnf
   refine VDraw.go hmo hty 8 [] rfl ?_
   conv=>whnf
   refine ⟨⟨⟨by omega,by rw [cS_len];omega⟩,cS_sz _⟩,?_⟩
   conv=>whnf
   refine ⟨_,cS_as (x:=u) (by omega) eu,?_⟩
   conv=>whnf
   refine QCall.of_data k6 (ndA fun k=>rfl) ?_
   conv=>whnf
   refine QCall.of_data k7 (ndA fun k=>rfl) ?_
   conv=>whnf
   refine Wr.i64 (y:=((n+1:Nat):Int)) rfl (by omega) (by omega) ?_
   conv=>whnf
   exact ⟨n+1,h2,by show m.room+1 - (n+1) < m.room+1 - n;omega,⟨rfl,rfl,rfl,rfl,rfl,rfl,rfl,trivial⟩,rfl,rfl,trivial⟩
 ·have h2:n=m.room+1:=by simp only [decide_eq_false_iff_not] at h2;omega
  rw [h2]
  conv=>whnf
  exact ⟨rfl,rfl,rfl,rfl,trivial,rfl⟩
end Go.V
namespace Go.V
open Go.Proofs Go.RowKit
set_option maxRecDepth 10000
set_option maxHeartbeats 2000000
end Go.V
namespace Go.V
open Go.Proofs Go.RowKit
set_option maxRecDepth 10000
set_option maxHeartbeats 2000000
def limL (n k:Nat):List Bool:=(List.range n).map fun i=>decide (i < k)
theorem limL_len (n k:Nat):(limL n k).length=n:=by simp [limL]
theorem limL_zero (n:Nat):limL n 0=List.replicate n false:=by
 apply List.ext_getElem
 ·simp [limL]
 ·intro i h1 h2;simp [limL]
theorem limL_next {n k:Nat}:(limL n k).set k true=limL n (k+1):=by
 apply List.ext_getElem
 ·simp [limL]
 ·intro i h1 h2
  rw [List.getElem_set]
  simp only [limL,List.getElem_map,List.getElem_range]
  split
  ·rename_i e;subst e;rw [decide_eq_true (by omega)]
  ·exact decide_eq_decide.2 (by omega)
theorem fn_threshold (m:Mo) (hm:m.Ok) (k:Nat) (hk:k≤m.room):Fn Tryz.prog 164 [moI m,I k] [] (lBo (limL m.room k)) []:=by
 have r2:=hm.r2
 obtain ⟨n,en⟩:∃n,m.room=n:=⟨_,rfl⟩
 have g:Fn Tryz.prog 164 [moI m,I k] [] (.ls 0 0 n 1) [(0,.row true 1 (cBo (limL n k)))]:=by
  refine Fn.intro (ks:=[0,1,2,4,5,6,10,11,12]) hty rfl rfl rfl rfl rfl ?_
  conv=>whnf
  rw [en]
  have hn8:n≤8:=by omega
  have hkn:k≤n:=by omega
  refine ⟨⟨by omega,by omega,by show (n:Int)*((1:Nat):Int)≤_;omega,by omega⟩,?_⟩
  conv=>whnf
  refine VLoop.inv hty (S:=Nat) (fun j=>[(11,I j),(10,I k),(5,.ls 9 0 n 1)]) (fun j=>[(9,.row true 1 (cBo (limL n j)))]) (fun j=>j≤k) (fun j=>k - j) 0 (Nat.zero_le _)
   ⟨rfl,rfl,?_,trivial⟩ ⟨?_,trivial⟩ ?_
  ·show AV.ls 9 0 (n:Int).toNat 1=_
   rw [show (n:Int).toNat=n by omega]
  ·show Ob.row true 1 (List.replicate (n:Int).toNat [C.s (.bool false)])=_
   rw [show (n:Int).toNat=n by omega,limL_zero,cBo_rep]
  intro j hj
  conv=>whnf
  refine Br.mk (fun h=>?_) (fun h=>?_)
  ·have h:j < k:=by simp only [decide_eq_true_eq] at h;omega
   conv=>whnf
   refine ⟨by omega,?_⟩
   conv=>whnf
   refine ⟨_,cBo_as (x:=(limL n j).getD j false) (by rw [limL_len];omega) rfl,?_⟩
   conv=>whnf
   refine Wr.i64 (y:=((j+1:Nat):Int)) rfl (by omega) (by omega) ?_
   conv=>whnf
   refine ⟨j+1,h,by show k - (j+1) < k - j;omega,⟨rfl,rfl,rfl,trivial⟩,?_,trivial⟩
   show Ob.row true 1 ((cBo (limL n j)).set j [.s (.bool true)])=_
   rw [cBo_set,limL_next]
  ·have h:j=k:=by simp only [decide_eq_false_iff_not] at h;omega
   rw [h]
   conv=>whnf
   exact ⟨⟨rfl,rfl,rfl,rfl,rfl,rfl⟩,[],rfl,trivial,rfl⟩
 rw [←en] at g
 have:=g.freeze (by rw [cBo_len,limL_len];omega)
 rwa [List.drop_zero,List.take_of_length_le (by rw [cBo_len,limL_len];omega)] at this
theorem fn_sLimit (m:Mo) (hm:m.Ok) (k:Nat) (hk:k≤m.room):Fn Tryz.prog 163 [moP m,I k] [] (lBo (limL m.room k)) []:=by
 have r2:=hm.r2
 have hnext:∀i,(List.range (i+1)).map (fun i=>decide (i < k))=(List.range i).map (fun i=>decide (i < k))++[decide (i < k)]:=fun i=>by rw [List.range_succ,List.map_append];rfl
 have g:Fn Tryz.prog 163 [moP m,I k] [] (.ls 0 0 m.room 1) [(0,.row true 1 (cBo (limL m.room k)))]:=by
  refine Fn.intro (ks:=[0,1,4,5,6,13]) hty rfl rfl rfl rfl rfl ?_
  conv=>whnf
  refine VLoop.ren 7 21 rfl ?_
  refine VLoop.inv hty (S:=Nat) (fun n=>[(6,I n),(5,.ls 21 0 n 1),(1,I k),(0,moP m)]) (fun n=>[(21,.row true 1 (cBo ((List.range n).map fun i=>decide (i < k))))]) (fun n=>n≤m.room) (fun n=>m.room - n) 0 (Nat.zero_le _)
   ⟨rfl,rfl,rfl,rfl,trivial⟩ ⟨rfl,trivial⟩ ?_
  intro n hn
  conv=>whnf
  refine Br.mk (fun h=>?_) (fun h=>?_)
  ·have h:n < m.room:=by simp only [decide_eq_true_eq] at h;omega
   conv=>whnf
   rw [show decide ((n:Int) < (k:Int))=decide (n < k) from decide_eq_decide.2 (by omega)]
   refine Sub.full rfl ?_
   conv=>whnf
   refine Sub.full (by rw [cBo_len];simp) ?_
   conv=>whnf
   refine ⟨by show (n+1)*1≤_;omega,?_⟩
   conv=>whnf
   refine Wr.i64 (y:=((n+1:Nat):Int)) rfl (by omega) (by omega) ?_
   conv=>whnf
   refine ⟨n+1,h,by show m.room - (n+1) < m.room - n;omega,⟨rfl,rfl,rfl,rfl,trivial⟩,?_,trivial⟩
   show Ob.row true 1 (cBo _++[[.s (.bool (decide (n < k)))]])=_
   rw [hnext,←cBo_append1]
  ·have h:n=m.room:=by simp only [decide_eq_false_iff_not] at h;omega
   rw [h]
   conv=>whnf
   exact ⟨⟨rfl,rfl,rfl,rfl,rfl,rfl⟩,[],rfl,trivial,rfl⟩
 have:=g.freeze (by rw [cBo_len,limL_len];omega)
 rwa [List.drop_zero,List.take_of_length_le (by rw [cBo_len,limL_len];omega)] at this
noncomputable def tgQ (m:Mo) (k:Nat):Rat:=gainQ m ((limL m.room k).getD · false)
noncomputable def tgL (m:Mo) (n:Nat):List Rat:=(List.range n).map (tgQ m)
noncomputable def tgsQ (m:Mo):List Rat:=tgL m (m.room+1)
theorem tgL_len (m:Mo) (n:Nat):(tgL m n).length=n:=by simp [tgL]
theorem tgL_next (m:Mo) (n:Nat):tgL m (n+1)=tgL m n++[tgQ m n]:=by unfold tgL;rw [List.range_succ,List.map_append];rfl
theorem tgsQ_sz {m:Mo} (h:m.Ok):∀q,q∈tgsQ m→sz q≤2000000000:=fun q hq=>by
 obtain ⟨n,_,rfl⟩:=List.mem_map.1 hq
 exact gainQ_sz h _
theorem fn_gains (m:Mo) (hm:m.Ok):Fn Tryz.prog 94 [moI m] [] (lQ (tgsQ m)) []:=by
 have r2:=hm.r2
 have g:Fn Tryz.prog 94 [moI m] [] (.ls 0 0 (m.room+1) 3) [(0,.row true 3 (cQ (tgsQ m)))]:=by
  refine Fn.intro (ks:=[0,1,2,3,4,8,9,10]) hty rfl rfl rfl rfl rfl ?_
  conv=>whnf
  refine Wr.i64 (y:=((m.room+1:Nat):Int)) rfl (by omega) (by omega) ?_
  conv=>whnf
  refine VLoop.ren 5 19 rfl ?_
  refine VLoop.inv hty (S:=Nat) (fun k=>[(9,I k),(8,I ((m.room+1:Nat):Int)),(3,.ls 19 0 k 3),(1,.lp 1 0)]) (fun k=>[(19,.row true 3 (cQ (tgL m k))),(1,.box true ((moJ m).map .d))]) (fun k=>k≤m.room+1) (fun k=>m.room+1 - k) 0 (Nat.zero_le _)
   ⟨rfl,rfl,rfl,rfl,trivial⟩ ⟨rfl,rfl,trivial⟩ ?_
  intro k hk
  conv=>whnf
  refine Br.mk (fun h=>?_) (fun h=>?_)
  ·have h:k < m.room+1:=by simp only [decide_eq_true_eq] at h;omega
   have c1:=fn_threshold m hm k (by omega)
   have c2:=fn_polGain m hm (limL m.room k) (limL_len _ _)
   have hn:=tgL_next m k
   have hl:=tgL_len m k
   replace c2:Fn Tryz.prog 85 [moI m,lBo (limL m.room k)] [] (rI (tgQ m k)) []:=c2
   obtain ⟨q,eq⟩:∃q,tgQ m k=q:=⟨_,rfl⟩
   obtain ⟨L,eL⟩:∃L,tgL m k=L:=⟨_,rfl⟩
   rw [eq,eL] at hn
   rw [eq] at c2
   rw [eL] at hl ⊢
   conv=>whnf
   refine VDraw.go hmo hty 7 [[18],[18],[18],[18],[18],[18],[]] rfl ?_
   conv=>whnf
   refine QCall.of_data c1 (nd _) ?_
   conv=>whnf
   refine QCall.of_data c2 (ndA fun k=>rfl) ?_
   conv=>whnf
   refine Sub.full rfl ?_
   conv=>whnf
   refine Sub.full (by rw [cQ_len,hl]) ?_
   conv=>whnf
   refine ⟨by show (k+1)*56≤_;omega,?_⟩
   conv=>whnf
   refine Wr.i64 (y:=((k+1:Nat):Int)) rfl (by omega) (by omega) ?_
   conv=>whnf
   refine ⟨k+1,h,by show m.room+1 - (k+1) < m.room+1 - k;omega,⟨rfl,rfl,rfl,rfl,trivial⟩,?_,rfl,trivial⟩
   show Ob.row true 3 (cQ L++[c1Q q])=_
   rw [hn,cQ_ap1]
  ·have h:k=m.room+1:=by simp only [decide_eq_false_iff_not] at h;omega
   rw [h]
   conv=>whnf
   exact ⟨⟨rfl,rfl,rfl,rfl,rfl,rfl⟩,[],rfl,trivial,rfl⟩
 have hl:=tgL_len m (m.room+1)
 have:=g.freeze (by rw [cQ_len];unfold tgsQ;omega)
 rwa [List.drop_zero,List.take_of_length_le (by rw [cQ_len];unfold tgsQ;omega)] at this
theorem fn_sGains (m:Mo) (hm:m.Ok):Fn Tryz.prog 92 [moP m] [] (lS (tgsQ m)) []:=by
 have r2:=hm.r2
 have g:Fn Tryz.prog 92 [moP m] [] (.ls 0 0 (m.room+1) 3) [(0,.row true 3 (cS (tgsQ m)))]:=by
  refine Fn.intro (ks:=[0,2,3,4,5,13]) hty rfl rfl rfl rfl rfl ?_
  conv=>whnf
  refine VLoop.ren 7 27 rfl ?_
  refine VLoop.inv hty (S:=Nat) (fun k=>[(4,I k),(3,.ls 27 0 k 3),(0,moP m)]) (fun k=>[(27,.row true 3 (cS (tgL m k)))]) (fun k=>k≤m.room+1) (fun k=>m.room+1 - k) 0 (Nat.zero_le _)
   ⟨rfl,rfl,rfl,trivial⟩ ⟨rfl,trivial⟩ ?_
  intro k hk
  conv=>whnf
  refine Br.mk (fun h=>?_) (fun h=>?_)
  ·have h:k < m.room+1:=by simp only [decide_eq_true_eq] at h;omega
   have c1:=fn_sLimit m hm k (by omega)
   have c2:=fn_sPolGain m hm (limL m.room k) (limL_len _ _)
   have hn:=tgL_next m k
   have hl:=tgL_len m k
   replace c2:Fn Tryz.prog 82 [moP m,lBo (limL m.room k)] [] (.tup [rS (tgQ m k),lS (polU m ((limL m.room k).getD · false))]) []:=c2
   obtain ⟨q,eq⟩:∃q,tgQ m k=q:=⟨_,rfl⟩
   obtain ⟨L,eL⟩:∃L,tgL m k=L:=⟨_,rfl⟩
   rw [eq,eL] at hn
   rw [eq] at c2
   rw [eL] at hl ⊢
   conv=>whnf
   refine VCall.of_data c1 (nd _) ?_
   conv=>whnf
   refine VCall.of_data c2 (ndT fun _=>rfl) ?_
   conv=>whnf
   refine Sub.full rfl ?_
   conv=>whnf
   refine Sub.full (by rw [cS_len,hl]) ?_
   conv=>whnf
   refine ⟨by show (k+1)*56≤_;omega,?_⟩
   conv=>whnf
   refine Wr.i64 (y:=((k+1:Nat):Int)) rfl (by omega) (by omega) ?_
   conv=>whnf
   refine ⟨k+1,h,by show m.room+1 - (k+1) < m.room+1 - k;omega,⟨rfl,rfl,rfl,trivial⟩,?_,trivial⟩
   show Ob.row true 3 (cS L++[c1S q])=_
   rw [hn,cS_ap1]
  ·have h:k=m.room+1:=by simp only [decide_eq_false_iff_not] at h;omega
   rw [h]
   conv=>whnf
   exact ⟨⟨rfl,rfl,rfl,rfl,rfl,rfl⟩,[],rfl,trivial,rfl⟩
 have hl:=tgL_len m (m.room+1)
 have:=g.freeze (by rw [cS_len];unfold tgsQ;omega)
 rwa [List.drop_zero,List.take_of_length_le (by rw [cS_len];unfold tgsQ;omega)] at this
end Go.V
namespace Go.V
open Go.Proofs Go.RowKit
set_option maxRecDepth 10000
set_option maxHeartbeats 2000000
noncomputable def gnsO (r:Int) (a b c d:List UInt8):Option (List (List UInt8)):=(modQ r a b c d).bind fun m=>toldTs (tgsQ m)
theorem gnsO_len {r:Int} {a b c d:List UInt8} {ts:List (List UInt8)} (h:gnsO r a b c d=some ts):ts.length≤9:=by
 unfold gnsO at h
 cases hm:modQ r a b c d with
 | none=>rw [hm] at h;cases h
 | some m =>
  rw [hm] at h
  replace h:toldTs (tgsQ m)=some ts:=h
  rw [toldTs_len h]
  have:=(modQ_ok hm).1.r2
  unfold tgsQ
  rw [tgL_len]
  omega
theorem fn_GainsOf (r:Int) (a b c d:List UInt8) (hi:MdIn a b c d):Fn Tryz.prog 42 [mdI r a b c d] [] (ansT (gnsO r a b c d)).1 (ansT (gnsO r a b c d)).2:=by
 have c1:=fn_modelOf r a b c d hi.a hi.b hi.c hi.d
 refine Fn.intro (ks:=[0,1,2,3,4,5,12]) hty rfl rfl rfl rfl rfl ?_
 conv=>whnf
 unfold gnsO
 cases hm:modQ r a b c d with
 | none =>
  rw [hm] at c1
  refine VCall.of_data c1 (ndT fun _=>rfl) ?_
  conv=>whnf
  exact ⟨rfl,trivial,rfl⟩
 | some m =>
  obtain ⟨hok,_⟩:=modQ_ok hm
  rw [hm] at c1
  replace c1:Fn Tryz.prog 57 [mdI r a b c d] [] (.tup [moI m,B true]) []:=c1
  have r2:=hok.r2
  have c3:=fn_gains m hok
  have c4:=fn_toldList (tgsQ m) (by unfold tgsQ;rw [tgL_len];omega) fun q hq=>by have:=tgsQ_sz hok q hq;omega
  rw [show ((some m).bind fun m=>toldTs (tgsQ m))=toldTs (tgsQ m) from rfl]
  refine VCall.of_data c1 (ndT fun _=>rfl) ?_
  conv=>whnf
  refine VCall.of_data c3 (nd _) ?_
  conv=>whnf
  cases hq:toldTs (tgsQ m) with
  | none =>
   rw [hq] at c4
   refine VCall.of_data (x:=.tup [.d (.sl []),B false]) c4 (ndT fun _=>rfl) ?_
   conv=>whnf
   first | exact ⟨rfl,trivial,rfl⟩ | exact ⟨rfl,rfl,trivial,rfl⟩
  | some ts =>
   rw [hq] at c4
   refine VCall.of_fnT (k:=15) (show Fn Tryz.prog 59 [lQ (tgsQ m)] [] (.tup [.ls 0 0 ts.length 1,B true]) [(0,.row true 1 (cT ts))] from c4) rfl rfl ?_
   conv=>whnf
   exact ⟨⟨rfl,rfl,rfl,rfl,rfl,rfl⟩,[],rfl,rfl,trivial,rfl⟩
theorem fn_sGainsOf (r:Int) (a b c d:List UInt8) (hi:MdIn a b c d):Fn Tryz.prog 41 [mdI r a b c d] [] (ansT (gnsO r a b c d)).1 (ansT (gnsO r a b c d)).2:=by
 have c1:=fn_l09Parse r a b c d hi
 refine Fn.intro (ks:=[0,1,2,3,4,5,11]) hty rfl rfl rfl rfl rfl ?_
 conv=>whnf
 refine VCall.thaw 1 (cs:=[.s (.int .i64 r),.s (.string ⟨a.toArray⟩),.s (.string ⟨b.toArray⟩),.s (.string ⟨c.toArray⟩),.s (.string ⟨d.toArray⟩)]) rfl ?_
 unfold gnsO
 cases hm:modQ r a b c d with
 | none =>
  rw [hm] at c1
  refine VCall.of_data c1 (ndT fun _=>rfl) ?_
  conv=>whnf
  exact ⟨rfl,trivial,rfl⟩
 | some m =>
  obtain ⟨hok,_⟩:=modQ_ok hm
  rw [hm] at c1
  replace c1:Fn Tryz.prog 53 [mdP r a b c d] [] (.tup [moS m,B true]) []:=c1
  have r2:=hok.r2
  have c3:=fn_sGains m hok
  have c4:=fn_sGiveAll (tgsQ m) (by unfold tgsQ;rw [tgL_len];omega) fun q hq=>by have:=tgsQ_sz hok q hq;omega
  rw [show ((some m).bind fun m=>toldTs (tgsQ m))=toldTs (tgsQ m) from rfl]
  refine VCall.of_data c1 (ndT fun _=>rfl) ?_
  conv=>whnf
  refine VCall.thaw 4 (cs:=moC m) rfl ?_
  refine VCall.of_data c3 (nd _) ?_
  conv=>whnf
  cases hq:toldTs (tgsQ m) with
  | none =>
   rw [hq] at c4
   refine VCall.of_data (x:=.tup [.d (.sl []),B false]) c4 (ndT fun _=>rfl) ?_
   conv=>whnf
   first | exact ⟨rfl,trivial,rfl⟩ | exact ⟨rfl,rfl,trivial,rfl⟩
  | some ts =>
   rw [hq] at c4
   refine VCall.of_fnT (k:=13) (show Fn Tryz.prog 55 [lS (tgsQ m)] [] (.tup [.ls 0 0 ts.length 1,B true]) [(0,.row true 1 (cT ts))] from c4) rfl rfl ?_
   conv=>whnf
   exact ⟨⟨rfl,rfl,rfl,rfl,rfl,rfl⟩,[],rfl,rfl,trivial,rfl⟩
def bst (G:Nat→Rat):Nat→Nat
 | 0=>0
 | n+1=>if G (bst G n) < G n then n else bst G n
theorem bst_le (G:Nat→Rat):∀n,bst G n≤n - 1
 | 0=>Nat.le_refl _
 | n+1=>by
  have:=bst_le G n
  show (if G (bst G n) < G n then n else bst G n)≤_
  split <;> omega
noncomputable def bstK (m:Mo):Nat:=bst ((tgsQ m).getD · 0) (m.room+1)
noncomputable def bstA (r:Int) (a b c d:List UInt8):Nat×List UInt8×Bool:=match modQ r a b c d with
 | some m=>if fitsQ ((tgsQ m).getD (bstK m) 0) then (bstK m,toldT ((tgsQ m).getD (bstK m) 0),true) else (0,[],false)
 | none=>(0,[],false)
abbrev bstV (x:Nat×List UInt8×Bool):AV:=.tup [I x.1,Str x.2.1,B x.2.2]
theorem rcI_pos (p q:Rat):decide (0 < rcI p q)=decide (q < p):=by
 have h:=@rcI_le p q
 refine decide_eq_decide.2 ⟨fun e=>Rat.not_le.1 fun e2=>by have:=h.2 e2;omega,fun e=>?_⟩
 have h2:¬rcI p q≤0:=fun e2=>Rat.not_lt.2 (h.1 e2) e
 omega
theorem fn_BestThreshold (r:Int) (a b c d:List UInt8) (hi:MdIn a b c d):Fn Tryz.prog 38 [mdI r a b c d] [] (bstV (bstA r a b c d)) []:=by
 have c1:=fn_modelOf r a b c d hi.a hi.b hi.c hi.d
 refine Fn.intro (ks:=[0,1,2,3,4,5,6,7,8,9,10,17,21,22,23,34,46]) hty rfl rfl rfl rfl rfl ?_
 conv=>whnf
 cases hm:modQ r a b c d with
 | none =>
  rw [show bstA r a b c d=(0,[],false) by unfold bstA;rw [hm]]
  rw [hm] at c1
  refine VCall.of_data c1 (ndT fun _=>rfl) ?_
  conv=>whnf
  exact ⟨rfl,rfl,rfl,trivial,rfl⟩
 | some m =>
  obtain ⟨hok,_⟩:=modQ_ok hm
  rw [hm] at c1
  replace c1:Fn Tryz.prog 57 [mdI r a b c d] [] (.tup [moI m,B true]) []:=c1
  have c3:=fn_gains m hok
  have r2:=hok.r2
  have hL:(tgsQ m).length=m.room+1:=tgL_len m _
  have hz:=tgsQ_sz hok
  have eA:bstA r a b c d=if fitsQ ((tgsQ m).getD (bstK m) 0) then (bstK m,toldT ((tgsQ m).getD (bstK m) 0),true) else (0,[],false):=by unfold bstA;rw [hm]
  rw [eA]
  obtain ⟨K,eK⟩:∃K,bstK m=K:=⟨_,rfl⟩
  have hK:K≤m.room:=by rw [←eK];exact bst_le _ _
  rw [eK]
  unfold bstK at eK
  generalize tgsQ m=L at c3 hL hz eK ⊢
  obtain ⟨G,eG⟩:∃G:Nat→Rat,(L.getD · 0)=G:=⟨_,rfl⟩
  have hG:∀n,L.getD n 0=G n:=fun n=>by rw [←eG]
  rw [eG] at eK
  have hgz:∀n,sz (G n)≤2000000000:=fun n=>by rw [←hG];exact getD_sz hz n (by decide)
  obtain ⟨q,eq⟩:∃q,L.getD K 0=q:=⟨_,rfl⟩
  have zq:sz q≤2000000000:=by rw [←eq,hG];exact hgz K
  rw [eq]
  have c4:=fn_told q (by omega)
  have hzl:((cQ L).length:Int)=((m.room+1:Nat):Int):=by rw [cQ_len,hL]
  refine VCall.of_data c1 (ndT fun _=>rfl) ?_
  conv=>whnf
  refine VCall.of_data c3 (nd _) ?_
  conv=>whnf
  rw [hzl]
  refine VLoop.inv hty (S:=Nat) (fun n=>[(22,I n),(21,I ((m.room+1:Nat):Int)),(8,I (bst G n)),(7,lQ L)]) (fun n=>[]) (fun n=>n≤m.room+1) (fun n=>m.room+1 - n) 0 (Nat.zero_le _)
   ⟨rfl,rfl,rfl,rfl,trivial⟩ trivial ?_
  intro n hn
  conv=>whnf
  refine Br.mk (fun h2=>?_) (fun h2=>?_)
  ·have h2:n < m.room+1:=by simp only [decide_eq_true_eq] at h2;omega
   have hb:=bst_le G n
   have hnx:bst G (n+1)=if G (bst G n) < G n then n else bst G n:=rfl
   have z1:=hgz n
   have z2:=hgz (bst G n)
   have cc:=fn_rcmp (G n) (G (bst G n)) (by omega) (by omega)
   have hrc:=rcI_pos (G n) (G (bst G n))
   obtain ⟨k,ek⟩:∃k,bst G n=k:=⟨_,rfl⟩
   rw [ek] at hb hnx z2 cc hrc ⊢
   conv=>whnf
   refine VDraw.go hmo hty 10 [] rfl ?_
   conv=>whnf
   refine ⟨⟨⟨by omega,by rw [cQ_len];omega⟩,cQ_sz _⟩,?_⟩
   conv=>whnf
   refine ⟨_,cQ_as (x:=G n) (by omega) (hG n),?_⟩
   conv=>whnf
   refine ⟨⟨⟨by omega,by rw [cQ_len];omega⟩,cQ_sz _⟩,?_⟩
   conv=>whnf
   refine ⟨_,cQ_as (x:=G k) (by omega) (hG k),?_⟩
   conv=>whnf
   refine QCall.of_data cc (nd _) ?_
   conv=>whnf
   refine Br.mk (fun h3=>?_) (fun h3=>?_)
   ·have h3:G k < G n:=by simp only [decide_eq_true_eq] at h3;rw [decide_eq_decide] at hrc;exact hrc.1 h3
    rw [if_pos h3] at hnx
    conv=>whnf
    refine Wr.i64 (y:=((n+1:Nat):Int)) rfl (by omega) (by omega) ?_
    conv=>whnf
    refine ⟨n+1,h2,by show m.room+1 - (n+1) < m.room+1 - n;omega,⟨rfl,rfl,?_,rfl,trivial⟩,trivial⟩
    rw [hnx];rfl
   ·have h3:¬G k < G n:=by simp only [decide_eq_false_iff_not] at h3;rw [decide_eq_decide] at hrc;exact fun e=>h3 (hrc.2 e)
    rw [if_neg h3] at hnx
    conv=>whnf
    refine Wr.i64 (y:=((n+1:Nat):Int)) rfl (by omega) (by omega) ?_
    conv=>whnf
    refine ⟨n+1,h2,by show m.room+1 - (n+1) < m.room+1 - n;omega,⟨rfl,rfl,?_,rfl,trivial⟩,trivial⟩
    rw [hnx];rfl
  ·have h2:n=m.room+1:=by simp only [decide_eq_false_iff_not] at h2;omega
   rw [h2,show bst G (m.room+1)=K from eK]
   conv=>whnf
   refine ⟨⟨⟨by omega,by first | (rw [cQ_len];omega) | (rw [cS_len];omega)⟩,by first | exact cQ_sz _ | exact cS_sz _⟩,?_⟩
   conv=>whnf
   refine ⟨_,by first | exact cQ_as (x:=q) (by omega) (show L.getD K 0=q from eq) | exact cS_as (x:=q) (by omega) (show L.getD K 0=q from eq),?_⟩
   conv=>whnf
   refine VCall.of_data c4 (ndT fun _=>rfl) ?_
   conv=>whnf
   cases hf:fitsQ q with
   | true =>
    conv=>whnf
    exact ⟨rfl,rfl,rfl,trivial,rfl⟩
   | false =>
    conv=>whnf
    exact ⟨rfl,rfl,rfl,trivial,rfl⟩
theorem fn_sBestThreshold (r:Int) (a b c d:List UInt8) (hi:MdIn a b c d):Fn Tryz.prog 37 [mdI r a b c d] [] (bstV (bstA r a b c d)) []:=by
 have c1:=fn_l09Parse r a b c d hi
 refine Fn.intro (ks:=[0,1,2,3,4,5,6,7,8,9,10,11,17,20,21,22,32,44]) hty rfl rfl rfl rfl rfl ?_
 conv=>whnf
 refine VCall.thaw 1 (cs:=[.s (.int .i64 r),.s (.string ⟨a.toArray⟩),.s (.string ⟨b.toArray⟩),.s (.string ⟨c.toArray⟩),.s (.string ⟨d.toArray⟩)]) rfl ?_
 cases hm:modQ r a b c d with
 | none =>
  rw [show bstA r a b c d=(0,[],false) by unfold bstA;rw [hm]]
  rw [hm] at c1
  refine VCall.of_data c1 (ndT fun _=>rfl) ?_
  conv=>whnf
  exact ⟨rfl,rfl,rfl,trivial,rfl⟩
 | some m =>
  obtain ⟨hok,_⟩:=modQ_ok hm
  rw [hm] at c1
  replace c1:Fn Tryz.prog 53 [mdP r a b c d] [] (.tup [moS m,B true]) []:=c1
  have c3:=fn_sGains m hok
  have r2:=hok.r2
  have hL:(tgsQ m).length=m.room+1:=tgL_len m _
  have hz:=tgsQ_sz hok
  have eA:bstA r a b c d=if fitsQ ((tgsQ m).getD (bstK m) 0) then (bstK m,toldT ((tgsQ m).getD (bstK m) 0),true) else (0,[],false):=by unfold bstA;rw [hm]
  rw [eA]
  obtain ⟨K,eK⟩:∃K,bstK m=K:=⟨_,rfl⟩
  have hK:K≤m.room:=by rw [←eK];exact bst_le _ _
  rw [eK]
  unfold bstK at eK
  generalize tgsQ m=L at c3 hL hz eK ⊢
  obtain ⟨G,eG⟩:∃G:Nat→Rat,(L.getD · 0)=G:=⟨_,rfl⟩
  have hG:∀n,L.getD n 0=G n:=fun n=>by rw [←eG]
  rw [eG] at eK
  have hgz:∀n,sz (G n)≤2000000000:=fun n=>by rw [←hG];exact getD_sz hz n (by decide)
  obtain ⟨q,eq⟩:∃q,L.getD K 0=q:=⟨_,rfl⟩
  have zq:sz q≤2000000000:=by rw [←eq,hG];exact hgz K
  rw [eq]
  have c4:=fn_sGive q (by omega)
  have hzl:((cS L).length:Int)=((m.room+1:Nat):Int):=by rw [cS_len,hL]
  refine VCall.of_data c1 (ndT fun _=>rfl) ?_
  conv=>whnf
  refine VCall.thaw 5 (cs:=moC m) rfl ?_
  refine VCall.of_data c3 (nd _) ?_
  conv=>whnf
  rw [hzl]
  refine VLoop.inv hty (S:=Nat) (fun n=>[(21,I n),(20,I ((m.room+1:Nat):Int)),(8,I (bst G n)),(7,lS L)]) (fun n=>[]) (fun n=>n≤m.room+1) (fun n=>m.room+1 - n) 0 (Nat.zero_le _)
   ⟨rfl,rfl,rfl,rfl,trivial⟩ trivial ?_
  intro n hn
  conv=>whnf
  refine Br.mk (fun h2=>?_) (fun h2=>?_)
  ·have h2:n < m.room+1:=by simp only [decide_eq_true_eq] at h2;omega
   have hb:=bst_le G n
   have hnx:bst G (n+1)=if G (bst G n) < G n then n else bst G n:=rfl
   have z1:=hgz n
   have z2:=hgz (bst G n)
   have cc:=fn_sLess2 (G (bst G n)) (G n) (by omega) (by omega)
   obtain ⟨k,ek⟩:∃k,bst G n=k:=⟨_,rfl⟩
   rw [ek] at hb hnx z2 cc ⊢
   conv=>whnf
   refine VDraw.go hmo hty 9 [] rfl ?_
   conv=>whnf
   refine ⟨⟨⟨by omega,by rw [cS_len];omega⟩,cS_sz _⟩,?_⟩
   conv=>whnf
   refine ⟨_,cS_as (x:=G k) (by omega) (hG k),?_⟩
   conv=>whnf
   refine ⟨⟨⟨by omega,by rw [cS_len];omega⟩,cS_sz _⟩,?_⟩
   conv=>whnf
   refine ⟨_,cS_as (x:=G n) (by omega) (hG n),?_⟩
   conv=>whnf
   refine QCall.of_data cc (nd _) ?_
   conv=>whnf
   refine Br.mk (fun h3=>?_) (fun h3=>?_)
   ·have h3:G k < G n:=by simpa using h3
    rw [if_pos h3] at hnx
    conv=>whnf
    refine Wr.i64 (y:=((n+1:Nat):Int)) rfl (by omega) (by omega) ?_
    conv=>whnf
    refine ⟨n+1,h2,by show m.room+1 - (n+1) < m.room+1 - n;omega,⟨rfl,rfl,?_,rfl,trivial⟩,trivial⟩
    rw [hnx];rfl
   ·have h3:¬G k < G n:=fun e=>by rw [decide_eq_true e] at h3;cases h3
    rw [if_neg h3] at hnx
    conv=>whnf
    refine Wr.i64 (y:=((n+1:Nat):Int)) rfl (by omega) (by omega) ?_
    conv=>whnf
    refine ⟨n+1,h2,by show m.room+1 - (n+1) < m.room+1 - n;omega,⟨rfl,rfl,?_,rfl,trivial⟩,trivial⟩
    rw [hnx];rfl
  ·have h2:n=m.room+1:=by simp only [decide_eq_false_iff_not] at h2;omega
   rw [h2,show bst G (m.room+1)=K from eK]
   conv=>whnf
   refine ⟨⟨⟨by omega,by first | (rw [cQ_len];omega) | (rw [cS_len];omega)⟩,by first | exact cQ_sz _ | exact cS_sz _⟩,?_⟩
   conv=>whnf
   refine ⟨_,by first | exact cQ_as (x:=q) (by omega) (show L.getD K 0=q from eq) | exact cS_as (x:=q) (by omega) (show L.getD K 0=q from eq),?_⟩
   conv=>whnf
   refine VCall.of_data c4 (ndT fun _=>rfl) ?_
   conv=>whnf
   cases hf:fitsQ q with
   | true =>
    conv=>whnf
    exact ⟨rfl,rfl,rfl,trivial,rfl⟩
   | false =>
    conv=>whnf
    exact ⟨rfl,rfl,rfl,trivial,rfl⟩
end Go.V
namespace Go.V
open Go.Proofs Go.RowKit
set_option maxRecDepth 10000
set_option maxHeartbeats 2000000
theorem law_gainsOf (r:Int) (a b c d:List UInt8) (ha:a.length < 2 ^ 47) (hb:b.length < 2 ^ 47) (hc:c.length < 2 ^ 47) (hd:d.length < 2 ^ 47):Fn Tryz.prog 11 [mdI r a b c d] [] (B true) []:=by
 have c0:=fn_szModel r a b c d 1000000 ha hb hc hd (by decide) (by decide)
 have cm:=fn_toModel r a b c d
 refine Fn.intro (ks:=[0,1,2,3,4,5,6,7,8,9,10,11,16,37,45,48,63,68,71]) hty rfl rfl rfl rfl rfl ?_
 conv=>whnf
 refine VCall.of_data c0 (nd _) ?_
 obtain ⟨m,em⟩:∃m,szMd 1000000 a b c d=m:=⟨_,rfl⟩
 rw [em]
 conv=>whnf
 refine Br.mk (fun h=>?_) (fun h=>?_)
 ·conv=>whnf
  exact ⟨rfl,trivial,rfl⟩
 ·have h:0≤m:=by simpa using h
  have hi:=szMd_in (em▸h) (by decide)
  have cs:=fn_sGainsOf r a b c d hi
  have ci:=fn_GainsOf r a b c d hi
  conv=>whnf
  refine VCall.of_data cm (ndA fun k=>rfl) ?_
  conv=>whnf
  cases hr:gnsO r a b c d with
  | none =>
   rw [hr] at cs ci
   replace cs:Fn Tryz.prog 41 [mdI r a b c d] [] (.tup [.d (.sl []),B false]) []:=cs
   replace ci:Fn Tryz.prog 42 [mdI r a b c d] [] (.tup [.d (.sl []),B false]) []:=ci
   have ch:=fn_heldT 0 101 (by omega) (by omega)
   rw [show cT (marksT 101 0)=[] from rfl] at ch
   refine VCall.of_data cs (ndT fun _=>rfl) ?_
   conv=>whnf
   refine VCall.of_data cm (ndA fun k=>rfl) ?_
   conv=>whnf
   refine VCall.of_data ci (ndT fun _=>rfl) ?_
   conv=>whnf
   refine VCall.of_data (fn_eqST [] (by simp)) (nd _) ?_
   conv=>whnf
   refine VCall.of_data (fn_markT0 101) (nd _) ?_
   conv=>whnf
   refine VCall.of_data ch (nd _) ?_
   conv=>whnf
   refine VCall.of_data cm (ndA fun k=>rfl) ?_
   conv=>whnf
   refine VCall.of_data ci (ndT fun _=>rfl) ?_
   conv=>whnf
   refine VCall.of_data (fn_eqST [] (by simp)) (nd _) ?_
   conv=>whnf
   refine VCall.of_data ch (nd _) ?_
   conv=>whnf
   exact ⟨rfl,trivial,rfl⟩
  | some ts =>
   have hn:=gnsO_len hr
   rw [hr] at cs ci
   replace cs:Fn Tryz.prog 41 [mdI r a b c d] [] (.tup [.ls 0 0 ts.length 1,B true]) [(0,.row true 1 (cT ts))]:=cs
   replace ci:Fn Tryz.prog 42 [mdI r a b c d] [] (.tup [.ls 0 0 ts.length 1,B true]) [(0,.row true 1 (cT ts))]:=ci
   have et:(List.drop 0 (cT ts)).take ts.length=cT ts:=by rw [List.drop_zero,List.take_of_length_le (by rw [cT_len];omega)]
   have c1:=cs.freezeT (by rw [cT_len];omega) rfl
   rw [et] at c1
   have c2:=ci.freezeT (by rw [cT_len];omega) rfl
   rw [et] at c2
   have c3:=fn_eqST ts (by omega)
   have hf:∀q,q∈cT ts→∀c,c∈q→flatC c=true:=cT_flat ts
   clear cs hr
   refine VCall.of_data c1 (ndT fun _=>rfl) ?_
   conv=>whnf
   refine VCall.of_data cm (ndA fun k=>rfl) ?_
   conv=>whnf
   refine VCall.of_fnT (k:=26) ci rfl rfl ?_
   conv=>whnf
   refine VCall.lend c3 ⟨lend_allT rfl rfl,rfl,trivial⟩ rfl ?_
   conv=>whnf
   refine VCall.par1 26 (fn_markT ts ts.length 101 (Nat.le_refl _) (by omega) (by omega)) ⟨⟨rfl,rfl,rfl,rfl⟩,rfl,trivial⟩ rfl ?_
   conv=>whnf
   have hm:∀l:LL,lget 26 l = .row true 1 (cT (marksT 101 ts.length++List.drop ts.length ts))→lend1 l (.ls 26 0 ts.length 1) (.d (.sl (cT (marksT 101 ts.length)))):=fun l h=>by
    have:=lend_wholeT (xs:=marksT 101 ts.length) h
    rwa [marksT_len] at this
   have ch:=fn_heldT ts.length 101 (by omega) (by omega)
   refine VCall.lend ch ⟨hm _ rfl,rfl,trivial⟩ rfl ?_
   conv=>whnf
   refine Br.mk (fun h=>by simp at h) (fun _=>?_)
   conv=>whnf
   refine VCall.of_data cm (ndA fun k=>rfl) ?_
   conv=>whnf
   refine VCall.of_data c2 (ndT fun _=>rfl) ?_
   conv=>whnf
   refine VCall.of_data c3 (nd _) ?_
   conv=>whnf
   refine VCall.lend ch ⟨hm _ rfl,rfl,trivial⟩ rfl ?_
   conv=>whnf
   refine Br.mk (fun h=>by simp at h) (fun _=>?_)
   conv=>whnf
   exact ⟨rfl,trivial,rfl⟩
theorem law_bestThreshold (r:Int) (a b c d:List UInt8) (ha:a.length < 2 ^ 47) (hb:b.length < 2 ^ 47) (hc:c.length < 2 ^ 47) (hd:d.length < 2 ^ 47):Fn Tryz.prog 9 [mdI r a b c d] [] (B true) []:=by
 have c0:=fn_szModel r a b c d 1000000 ha hb hc hd (by decide) (by decide)
 have cm:=fn_toModel r a b c d
 refine Fn.intro (ks:=[0,1,2,3,4,5,6,7,8,9,14,41]) hty rfl rfl rfl rfl rfl ?_
 conv=>whnf
 refine VCall.of_data c0 (nd _) ?_
 obtain ⟨m,em⟩:∃m,szMd 1000000 a b c d=m:=⟨_,rfl⟩
 rw [em]
 conv=>whnf
 refine Br.mk (fun h=>?_) (fun h=>?_)
 ·conv=>whnf
  exact ⟨rfl,trivial,rfl⟩
 ·have h:0≤m:=by simpa using h
  have hi:=szMd_in (em▸h) (by decide)
  have cs:=fn_sBestThreshold r a b c d hi
  have ci:=fn_BestThreshold r a b c d hi
  generalize bstA r a b c d=x at cs ci
  obtain ⟨k,r1,r2⟩:=x
  replace cs:Fn Tryz.prog 37 [mdI r a b c d] [] (.tup [I k,Str r1,B r2]) []:=cs
  replace ci:Fn Tryz.prog 38 [mdI r a b c d] [] (.tup [I k,Str r1,B r2]) []:=ci
  conv=>whnf
  refine VCall.of_data cm (ndA fun k=>rfl) ?_
  conv=>whnf
  refine VCall.of_data cs (ndT fun _=>rfl) ?_
  conv=>whnf
  refine VCall.of_data cm (ndA fun k=>rfl) ?_
  conv=>whnf
  refine VCall.of_data ci (ndT fun _=>rfl) ?_
  conv=>whnf
  rw [decide_eq_true (rfl:(k:Int)=(k:Int))]
  conv=>whnf
  rw [show ((⟨r1.toArray⟩:ByteArray).toList == (⟨r1.toArray⟩:ByteArray).toList)=true by simp]
  conv=>whnf
  rw [show (r2 == r2)=true by simp]
  conv=>whnf
  exact ⟨rfl,trivial,rfl⟩
end Go.V
