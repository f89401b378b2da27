/- Part 9: the abstract machine, its soundness, contracts of functions. -/
import Derived.Test.YtnohbinebhhlpaaGreatDoorK8
import Derived.Test.YtnohbinebhhlpaaGreatDoorK7
set_option linter.unusedVariables false
set_option linter.unusedSimpArgs false
namespace Go.V
open Go.Proofs Go.RowKit
set_option maxRecDepth 10000
set_option maxHeartbeats 16000000
def ixW (p:List Nat) (w:Nat):List MC:=p.map fun i=>.r i 0 w
theorem ixW_len (p:List Nat) (w:Nat):(ixW p w).length=p.length:=by simp [ixW]
theorem ixW_at {p:List Nat} {w i:Nat} (h:i < p.length):(ixW p w)[i]? = some (.r (p.getD i 0) 0 w):=by
 rw [List.getD_eq_getElem?_getD,List.getElem?_eq_getElem h];simp [ixW,h]
theorem ixW_set (p:List Nat) (w i x:Nat):(ixW p w).set i (.r x 0 w)=ixW (p.set i x) w:=by unfold ixW;rw [List.map_set]
abbrev mW (p:List Nat) (R:Mt) (w:Nat):Ob:=.mat 3 (ixW p w) (cRS R)
theorem fn_sSwap (n w i k:Nat) (p:List Nat) (R:Mt) (hp:p.length=n) (hn:n≤1000000) (hi:i < n) (hk:k < n):Fn Tryz.prog 193 [.ls 1000000 0 n 1,I i,I k] [(1000000,mW p R w)] (.tup []) [(1000000,mW (swapL 0 p i k) R w)]:=by
 have xi:=ixW_at (w:=w) (show i < p.length by omega)
 have xk:=ixW_at (w:=w) (show k < p.length by omega)
 refine Fn.intro (ks:=[0,1,2,6]) hty rfl rfl rfl rfl rfl ?_
 conv=>whnf
 refine ⟨by omega,?_⟩
 conv=>whnf
 refine ⟨_,xi,?_⟩
 conv=>whnf
 refine ⟨by omega,?_⟩
 conv=>whnf
 refine ⟨_,xk,?_⟩
 conv=>whnf
 refine ⟨by omega,?_⟩
 conv=>whnf
 refine ⟨by rw [ixW_len,hp];show i+0 < n;omega,?_⟩
 conv=>whnf
 refine ⟨by omega,?_⟩
 conv=>whnf
 refine ⟨by rw [List.length_set,ixW_len,hp];show k+0 < n;omega,?_⟩
 conv=>whnf
 refine ⟨⟨?_,trivial⟩,rfl⟩
 show Ob.mat 3 (((ixW p w).set i (MC.r (p.getD k 0) 0 w)).set k (MC.r (p.getD i 0) 0 w)) (cRS R)=_
 rw [ixW_set,ixW_set];rfl
theorem VCall.par1w {P:Program} {t:TL} {l:LL} {f:FuncId} {xs xs0:List AV} {sz sz':Nat} {ix ix':List MC} {rows rows':List (List (List C))} {dst:Option Nat} {K:AV→TL→LL→Prop} (a:Nat)
  (h:Fn P f xs0 [(1000000,.mat sz ix rows)] (.tup []) [(1000000,.mat sz' ix' rows')]) (ha:argR (pmap [(1000000,a)]) xs xs0) (hl:lget a l = .mat sz ix rows)
  (hK:K (.tup []) t ((a,.mat sz' ix' rows') :: l)):VCall P f xs dst t l K :=
 VCall.of_fnR (k:=0) (pmap [(1000000,a)]) h ha ⟨⟨hl,fun p h=>absurd rfl h⟩,trivial⟩ rfl (keepRows rfl rfl) (fun _ h=>by cases h) rfl hK
theorem set_same {R:Mt} {k:Nat} {a:List Rat} (h:k < R.length) (e:R.getD k []=a):R.set k a=R:=by
 rw [←e,List.getD_eq_getElem?_getD,List.getElem?_eq_getElem h];exact List.set_getElem_self h
theorem cRS_atp {p:List Nat} {R:Mt} {n w r:Nat} (h:Plc n w p R) (hr:r < n):(cRS R)[p.getD r 0]? = some (cS (lg p R r)):=cRS_at (by rw [h.rl];exact h.lt r hr) rfl
theorem fn_sSolve (n t:Nat) (p0:List Nat) (R0:Mt) (A:Fm) (h0:Gj n t A p0 R0 0) (hA:Inj n A) (h1:1≤n) (hn:n≤12) (ht:t≤120000) :
  Fn Tryz.prog 147 [.ls 1000000 0 n 1] [(1000000,mW p0 R0 (n+1))] (.tup [.ls 0 0 n 3,B true]) [(0,.row true 3 (cS (gjX n (p0,R0)))),(1000000,mW (gjN n skJ (p0,R0) n).1 (gjN n skJ (p0,R0) n).2 (n+1))]:=by
 have hG:=fun i hi=>gjN_ok (s:=(p0,R0)) h0 hA i hi
 have hT:∀i,i≤n→2 ^ i*t≤500000000:=fun i hi=>by
  have:2 ^ i*t≤2 ^ 12*120000:=Nat.mul_le_mul (Nat.pow_le_pow_right (by decide) (by omega)) ht
  omega
 have eX:=@gjX_at n (p0,R0)
 have eXl:=gjX_len n (p0,R0)
 obtain ⟨X,eXX⟩:∃X,gjX n (p0,R0)=X:=⟨_,rfl⟩
 rw [eXX] at eXl ⊢
 have eX:∀i,i < n→X.getD i 0=lgF (gjN n skJ (p0,R0) n).1 (gjN n skJ (p0,R0) n).2 i n / lgF (gjN n skJ (p0,R0) n).1 (gjN n skJ (p0,R0) n).2 i i:=fun i hi=>by rw [←eXX];exact eX hi
 have hnx:∀i,gjN n skJ (p0,R0) (i+1)=(swapL 0 (gjN n skJ (p0,R0) i).1 i (pivF (lgF (gjN n skJ (p0,R0) i).1 (gjN n skJ (p0,R0) i).2) i (n - i) i),elimR (swapL 0 (gjN n skJ (p0,R0) i).1 i (pivF (lgF (gjN n skJ (p0,R0) i).1 (gjN n skJ (p0,R0) i).2) i (n - i) i)) i (skJ i) n (gjN n skJ (p0,R0) i).2):=fun i=>rfl
 obtain ⟨N,eN⟩:∃N:Nat→List Nat×Mt,N=gjN n skJ (p0,R0):=⟨_,rfl⟩
 have hN0:N 0=(p0,R0):=by rw [eN];rfl
 rw [←eN] at hG hnx eX ⊢
 clear eN eXX
 refine Fn.intro (ks:=[0,2,3,4,5,6,7,8,9,10,11,16,32,37,44,59,78,107]) hty rfl rfl rfl rfl rfl ?_
 conv=>whnf
 refine VLoop.inv hty (S:=Nat) (fun i=>[(5,I i),(4,I n),(0,.ls 1000000 0 n 1)]) (fun i=>[(1000000,mW (N i).1 (N i).2 (n+1))]) (fun i=>i≤n) (fun i=>n - i) 0 (Nat.zero_le _) ⟨rfl,rfl,rfl,trivial⟩ ⟨by rw [hN0];rfl,trivial⟩ ?_
 intro i hi
 conv=>whnf
 refine Br.mk (fun h=>?_) (fun h=>?_)
 ·have h:i < n:=by simp only [decide_eq_true_eq] at h;omega
  have hGi:=hG i hi
  have hGn:=hG (i+1) h
  have enx:=hnx i
  have hTi:=hT i hi
  obtain ⟨T,eT⟩:∃T,2 ^ i*t=T:=⟨_,rfl⟩
  have hrow:=hGi.row
  rw [eT] at hTi hrow
  obtain ⟨g1,g2,g3⟩:=hGi.piv hA h
  have hplc:=hGi.pl
  generalize N i=s at hGi enx hrow g1 g2 g3 hplc ⊢
  obtain ⟨p,R⟩:=s
  dsimp only at hGi enx hrow g1 g2 g3 hplc ⊢
  have hpl:=hplc.pl
  obtain ⟨kp,ekp⟩:∃kp,pivF (lgF p R) i (n - i) i=kp:=⟨_,rfl⟩
  rw [ekp] at g1 g2 g3 enx
  have hsz:∀q j,q < n→j≤n→sz (lgF p R q j) < T:=fun q j hq hj=>(hrow q hq).sz (getD_mem (by rw [hplc.wd q hq];omega))
  conv=>whnf
  refine VLoop.inv hty (S:=Nat) (fun k=>[(6,I k),(5,I i),(4,I n),(0,.ls 1000000 0 n 1)]) (fun _=>[(1000000,mW p R (n+1))]) (fun k=>k≤n∧pivF (lgF p R) i (n - k) k=kp) (fun k=>n - k) i ⟨hi,ekp⟩ ⟨rfl,rfl,rfl,rfl,trivial⟩ ⟨rfl,trivial⟩ ?_
  rintro k ⟨hk,hkp⟩
  have hkn:k < n:=by
   rcases Nat.lt_or_eq_of_le hk with e | e
   ·exact e
   ·rw [e,Nat.sub_self] at hkp
    have:n=kp:=hkp
    omega
  rw [pivF_next hkn] at hkp
  have hwk:=hplc.wd k hkn
  have c1:=fn_sZero (lgF p R k i) (by have:=hsz k i hkn (by omega);omega)
  conv=>whnf
  rw [decide_eq_true (show (k:Int) < (n:Int) by omega)]
  conv=>whnf
  refine ⟨by omega,?_⟩
  conv=>whnf
  refine ⟨_,ixW_at (w:=n+1) (i:=k) (by rw [hpl];omega),?_⟩
  conv=>whnf
  refine ⟨by omega,?_⟩
  conv=>whnf
  refine ⟨_,cRS_atp hplc hkn,?_⟩
  conv=>whnf
  refine ⟨_,cS_as (x:=lgF p R k i) (i:=i) (by omega) rfl,?_⟩
  conv=>whnf
  refine VCall.of_data c1 (nd _) ?_
  conv=>whnf
  by_cases hz:lgF p R k i=0
  ·rw [if_pos hz] at hkp
   rw [decide_eq_true hz]
   conv=>whnf
   refine Wr.i64 (y:=((k+1:Nat):Int)) rfl (by omega) (by omega) ?_
   conv=>whnf
   exact ⟨k+1,⟨hkn,hkp⟩,by show n - (k+1) < n - k;omega,⟨rfl,rfl,rfl,rfl,trivial⟩,rfl,trivial⟩
  rw [if_neg hz] at hkp
  subst hkp
  rw [decide_eq_false hz]
  conv=>whnf
  rw [decide_eq_false (show ¬(k:Int)=(n:Int) by omega)]
  conv=>whnf
  have hps:=hplc.swap h hkn
  have elgs:=fun q=>lg_swap hplc h hkn q
  have hgjn:=hGi.next h g1 hkn g3
  have csw:=fn_sSwap n (n+1) i k p R hpl (by omega) h hkn
  obtain ⟨p2,ep2⟩:∃p2,swapL 0 p i k=p2:=⟨_,rfl⟩
  rw [ep2] at hps elgs enx csw hgjn
  refine VCall.par1w 1000000 csw ⟨⟨rfl,rfl,rfl,rfl⟩,rfl,rfl,trivial⟩ rfl ?_
  conv=>whnf
  have hpl:=hps.pl
  have hszs:∀q j,q < n→j≤n→sz ((lg p2 R q).getD j 0) < T:=fun q j hq hj=>by rw [elgs];exact hsz _ j (swF_lt h hkn hq) hj
  have hdia:(lg p2 R i).getD i 0≠0:=by
   rw [elgs]
   have esw:swF i k i=k:=by unfold swF;by_cases e:i=k;rw [if_pos e];exact e;rw [if_neg e,if_pos rfl]
   rw [esw];exact g3
  have hel:=fun r hr=>elimR_is (sk:=skJ i) hps h (decide_eq_true rfl) r hr
  refine VLoop.inv hty (S:=Nat) (fun r=>[(7,I r),(5,I i),(4,I n),(0,.ls 1000000 0 n 1)]) (fun r=>[(1000000,mW p2 (elimR p2 i (skJ i) r R) (n+1))]) (fun r=>r≤n) (fun r=>n - r) 0 (Nat.zero_le _) ⟨rfl,rfl,rfl,rfl,trivial⟩ ⟨rfl,trivial⟩ ?_
  intro r hr
  conv=>whnf
  refine Br.mk (fun h2=>?_) (fun h2=>?_)
  ·have h2:r < n:=by simp only [decide_eq_true_eq] at h2;omega
   obtain ⟨q1,q2⟩:=hel r hr
   have e1:elimR p2 i (skJ i) (r+1) R=(elimR p2 i (skJ i) r R).set (p2.getD r 0) (elRow i (skJ i) (lg p2 (elimR p2 i (skJ i) r R) i) (lg p2 (elimR p2 i (skJ i) r R) r) r):=rfl
   have e2:lg p2 (elimR p2 i (skJ i) r R) r=lg p2 R r:=by rw [q2 r h2,if_neg (Nat.lt_irrefl r)]
   have e3:lg p2 (elimR p2 i (skJ i) r R) i=lg p2 R i:=by
    rw [q2 i h]
    split
    ·unfold elRow;rw [if_pos (.inl (decide_eq_true rfl))]
    ·rfl
   rw [e2,e3] at e1
   have hlt:=hps.lt r h2
   have s1:=hszs r i h2 (by omega)
   have s2:=hszs i i h (by omega)
   have al:=hps.wd r h2
   have bl:=hps.wd i h
   obtain ⟨a,ea⟩:∃a,lg p2 R r=a:=⟨_,rfl⟩
   obtain ⟨b,eb⟩:∃b,lg p2 R i=b:=⟨_,rfl⟩
   have hsa:∀j,j≤n→sz (a.getD j 0) < T:=fun j hj=>by rw [←ea];exact hszs r j h2 hj
   have hsb:∀j,j≤n→sz (b.getD j 0) < T:=fun j hj=>by rw [←eb];exact hszs i j h hj
   rw [ea] at e1 e2 s1 al
   rw [eb] at e1 e3 s2 bl hdia
   obtain ⟨Z,eZ⟩:∃Z,elimR p2 i (skJ i) r R=Z:=⟨_,rfl⟩
   rw [eZ] at q1 e1 e2 e3 ⊢
   have ya:=cRS_atp q1 h2
   have yb:=cRS_atp q1 h
   rw [e2] at ya
   rw [e3] at yb
   have hZl:=q1.rl
   conv=>whnf
   by_cases hri:r=i
   ·have e4:elimR p2 i (skJ i) (r+1) R=Z:=by
     rw [e1];unfold elRow;rw [if_pos (.inl (decide_eq_true hri))];exact set_same (by omega) e2
    rw [decide_eq_true (show (r:Int)=(i:Int) by omega)]
    conv=>whnf
    refine Wr.i64 (y:=((r+1:Nat):Int)) rfl (by omega) (by omega) ?_
    conv=>whnf
    refine ⟨r+1,h2,by show n - (r+1) < n - r;omega,⟨rfl,rfl,rfl,rfl,trivial⟩,?_,trivial⟩
    rw [e4];rfl
   rw [decide_eq_false (show ¬(r:Int)=(i:Int) by omega)]
   conv=>whnf
   refine ⟨by omega,?_⟩
   conv=>whnf
   refine ⟨_,ixW_at (w:=n+1) (i:=r) (by rw [hpl];omega),?_⟩
   conv=>whnf
   refine ⟨by omega,?_⟩
   conv=>whnf
   refine ⟨_,ya,?_⟩
   conv=>whnf
   refine ⟨_,cS_as (x:=a.getD i 0) (i:=i) (by omega) rfl,?_⟩
   conv=>whnf
   have k1:=fn_sZero (a.getD i 0) (by omega)
   refine VCall.of_data k1 (nd _) ?_
   conv=>whnf
   by_cases hz0:a.getD i 0=0
   ·have e4:elimR p2 i (skJ i) (r+1) R=Z:=by
     rw [e1];unfold elRow;rw [if_pos (.inr hz0)];exact set_same (by omega) e2
    rw [decide_eq_true hz0]
    conv=>whnf
    refine Wr.i64 (y:=((r+1:Nat):Int)) rfl (by omega) (by omega) ?_
    conv=>whnf
    refine ⟨r+1,h2,by show n - (r+1) < n - r;omega,⟨rfl,rfl,rfl,rfl,trivial⟩,?_,trivial⟩
    rw [e4];rfl
   have e4:elimR p2 i (skJ i) (r+1) R=Z.set (p2.getD r 0) (subRow i (n+1) (a.getD i 0 / b.getD i 0) b a):=by
    rw [e1];unfold elRow;rw [if_neg (by rintro (e | e);exact hri (of_decide_eq_true e);exact hz0 e),al]
   have k2:=fn_sOver (a.getD i 0) (b.getD i 0) (by omega) hdia
   have sf:=sz_div (a.getD i 0) hdia
   obtain ⟨f,ef⟩:∃f,a.getD i 0 / b.getD i 0=f:=⟨_,rfl⟩
   rw [ef] at k2 e4 sf
   rw [decide_eq_false hz0]
   conv=>whnf
   refine VDraw.go hmo hty 16 [[8],[8],[8],[8],[8],[8],[8],[8],[8],[8],[8],[8],[8],[8],[8],[]] rfl ?_
   conv=>whnf
   refine ⟨by omega,?_⟩
   conv=>whnf
   refine ⟨_,ixW_at (w:=n+1) (i:=r) (by rw [hpl];omega),?_⟩
   conv=>whnf
   refine ⟨by omega,?_⟩
   conv=>whnf
   refine ⟨_,ya,?_⟩
   conv=>whnf
   refine ⟨_,cS_as (x:=a.getD i 0) (i:=i) (by omega) rfl,?_⟩
   conv=>whnf
   refine ⟨by omega,?_⟩
   conv=>whnf
   refine ⟨_,ixW_at (w:=n+1) (i:=i) (by rw [hpl];omega),?_⟩
   conv=>whnf
   refine ⟨by omega,?_⟩
   conv=>whnf
   refine ⟨_,yb,?_⟩
   conv=>whnf
   refine ⟨_,cS_as (x:=b.getD i 0) (i:=i) (by omega) rfl,?_⟩
   conv=>whnf
   refine QCall.of_data k2 (ndA fun k=>rfl) ?_
   conv=>whnf
   refine VLoop.inv hty (S:=Nat) (fun j=>[(9,I j),(8,.lp 8 0),(7,I r),(5,I i),(4,I n),(0,.ls 1000000 0 n 1)]) (fun j=>[(8,.box true [B (ng f),nS (tp f),nS f.den]),(1000000,mW p2 (Z.set (p2.getD r 0) (subRow i j f b a)) (n+1))]) (fun j=>i≤j∧j≤n+1) (fun j=>n+1 - j) i ⟨Nat.le_refl _,by omega⟩ ⟨rfl,rfl,rfl,rfl,rfl,rfl,trivial⟩ ⟨rfl,?_,trivial⟩ ?_
   ·rw [subRow_none,set_same (by omega) e2];rfl
   rintro j ⟨hij,hj⟩
   conv=>whnf
   refine Br.mk (fun h3=>?_) (fun h3=>?_)
   ·have h3:j≤n:=by simp only [decide_eq_true_eq] at h3;omega
    have q3:=q1.set (x:=subRow i j f b a) h2 (by rw [subRow_len,al])
    have yj:=cRS_atp q3 h2
    rw [lg_set q1 h2 h2,if_pos rfl] at yj
    have yi:=cRS_atp q3 h
    rw [lg_set q1 h2 h,if_neg (Ne.symm hri),e3] at yi
    have hjl:(subRow i j f b a).length=n+1:=by rw [subRow_len,al]
    have vj:(subRow i j f b a).getD j 0=a.getD j 0:=by rw [subRow_at (by omega),if_neg (by omega)]
    have hnj:=subRow_next (f:=f) (b:=b) (a:=a) (c:=i) (m:=j) hij (by omega)
    have t1:=hsa j h3
    have t2:=hsb j h3
    have t3:=sz_mul f (b.getD j 0)
    have k3:=fn_sTimes f (b.getD j 0) (by omega)
    have k4:=fn_sMinus (a.getD j 0) (f*b.getD j 0) (by omega)
    have hZs:(Z.set (p2.getD r 0) (subRow i j f b a)).length=n:=by rw [List.length_set,hZl]
    obtain ⟨rj,erj⟩:∃rj,subRow i j f b a=rj:=⟨_,rfl⟩
    rw [erj] at yj yi hjl vj hnj hZs ⊢
    conv=>whnf
    refine VDraw.go hmo hty 23 [] rfl ?_
    conv=>whnf
    refine ⟨by omega,?_⟩
    conv=>whnf
    refine ⟨_,ixW_at (w:=n+1) (i:=r) (by rw [hpl];omega),?_⟩
    conv=>whnf
    refine ⟨by omega,?_⟩
    conv=>whnf
    refine ⟨_,ixW_at (w:=n+1) (i:=r) (by rw [hpl];omega),?_⟩
    conv=>whnf
    refine ⟨by omega,?_⟩
    conv=>whnf
    refine ⟨_,yj,?_⟩
    conv=>whnf
    refine ⟨_,cS_as (x:=a.getD j 0) (i:=j) (by omega) vj,?_⟩
    conv=>whnf
    refine ⟨by omega,?_⟩
    conv=>whnf
    refine ⟨_,ixW_at (w:=n+1) (i:=i) (by rw [hpl];omega),?_⟩
    conv=>whnf
    refine ⟨by omega,?_⟩
    conv=>whnf
    refine ⟨_,yi,?_⟩
    conv=>whnf
    refine ⟨_,cS_as (x:=b.getD j 0) (i:=j) (by omega) rfl,?_⟩
    conv=>whnf
    refine QCall.of_data k3 (ndA fun k=>rfl) ?_
    conv=>whnf
    refine QCall.of_data k4 (ndA fun k=>rfl) ?_
    conv=>whnf
    refine ⟨by omega,?_⟩
    conv=>whnf
    refine ⟨_,yj,?_⟩
    conv=>whnf
    refine ⟨by rw [cS_len,hjl];show j+0 < n+1;omega,?_⟩
    conv=>whnf
    refine Wr.i64 (y:=((j+1:Nat):Int)) rfl (by omega) (by omega) ?_
    conv=>whnf
    refine ⟨j+1,⟨by omega,by omega⟩,by show n+1 - (j+1) < n+1 - j;omega,⟨rfl,rfl,rfl,rfl,rfl,rfl,trivial⟩,rfl,?_,trivial⟩
    show Ob.mat 3 (ixW p2 (n+1)) ((cRS (Z.set (p2.getD r 0) rj)).set (p2.getD r 0) ((cS rj).set j (c1S (a.getD j 0 - f*b.getD j 0))))=mW p2 _ (n+1)
    rw [cS_set,hnj,cRS_set,List.set_set]
   ·have h3:j=n+1:=by simp only [decide_eq_false_iff_not] at h3;omega
    rw [h3,←e4]
    conv=>whnf
    refine Wr.i64 (y:=((r+1:Nat):Int)) rfl (by omega) (by omega) ?_
    conv=>whnf
    exact ⟨r+1,h2,by show n - (r+1) < n - r;omega,⟨rfl,rfl,rfl,rfl,trivial⟩,rfl,trivial⟩
  ·have h2:r=n:=by simp only [decide_eq_false_iff_not] at h2;omega
   rw [h2]
   conv=>whnf
   refine Wr.i64 (y:=((i+1:Nat):Int)) rfl (by omega) (by omega) ?_
   conv=>whnf
   refine ⟨i+1,h,by show n - (i+1) < n - i;omega,⟨rfl,rfl,rfl,trivial⟩,?_,trivial⟩
   rw [enx];rfl
 ·have h:i=n:=by simp only [decide_eq_false_iff_not] at h;omega
  have hGn:=hG n (Nat.le_refl _)
  have hTn:=hT n (Nat.le_refl _)
  obtain ⟨T,eT⟩:∃T,2 ^ n*t=T:=⟨_,rfl⟩
  have hrow:=hGn.row
  rw [eT] at hTn hrow
  have hdi:=hGn.dia
  rw [h]
  have hplc:=hGn.pl
  generalize N n=s at hrow hdi hplc eX ⊢
  obtain ⟨p,R⟩:=s
  dsimp only at hrow hdi hplc eX ⊢
  have hpl:=hplc.pl
  conv=>whnf
  refine VLoop.ren 104 127 rfl ?_
  refine VLoop.inv hty (S:=Nat) (fun i=>[(11,I i),(10,.ls 127 0 i 3),(4,I n),(0,.ls 1000000 0 n 1)]) (fun i=>[(127,.row true 3 (cS (X.take i))),(1000000,mW p R (n+1))]) (fun i=>i≤n) (fun i=>n - i) 0 (Nat.zero_le _) ⟨rfl,rfl,rfl,rfl,trivial⟩ ⟨rfl,rfl,trivial⟩ ?_
  intro i hi
  conv=>whnf
  refine Br.mk (fun h2=>?_) (fun h2=>?_)
  ·have h2:i < n:=by simp only [decide_eq_true_eq] at h2;omega
   have hw:=hplc.wd i h2
   have ya:=cRS_atp hplc h2
   have s1:sz (lgF p R i n) < T:=(hrow i h2).sz (getD_mem (by omega))
   have s2:sz (lgF p R i i) < T:=(hrow i h2).sz (getD_mem (by omega))
   have k1:=fn_sOver (lgF p R i n) (lgF p R i i) (by omega) (hdi i h2).1
   have htk:X.take (i+1)=X.take i++[lgF p R i n / lgF p R i i]:=by
    rw [List.take_succ_eq_append_getElem (by omega),←eX i h2,List.getD_eq_getElem?_getD,List.getElem?_eq_getElem (by omega)];rfl
   obtain ⟨x,ex⟩:∃x,lgF p R i n / lgF p R i i=x:=⟨_,rfl⟩
   rw [ex] at k1 htk
   have hkl:(X.take i).length=i:=by rw [List.length_take];omega
   obtain ⟨F,eF⟩:∃F,X.take i=F:=⟨_,rfl⟩
   rw [eF] at htk hkl ⊢
   conv=>whnf
   refine VDraw.go hmo hty 17 [[126],[126],[126],[126],[126],[126],[126],[126],[126],[126],[126],[126],[126],[126],[126],[126],[]] rfl ?_
   conv=>whnf
   refine ⟨by omega,?_⟩
   conv=>whnf
   refine ⟨_,ixW_at (w:=n+1) (i:=i) (by rw [hpl];omega),?_⟩
   conv=>whnf
   refine ⟨by omega,?_⟩
   conv=>whnf
   refine ⟨_,ya,?_⟩
   conv=>whnf
   refine ⟨_,cS_as (x:=lgF p R i n) (i:=n) (by omega) rfl,?_⟩
   conv=>whnf
   refine ⟨by omega,?_⟩
   conv=>whnf
   refine ⟨_,ixW_at (w:=n+1) (i:=i) (by rw [hpl];omega),?_⟩
   conv=>whnf
   refine ⟨by omega,?_⟩
   conv=>whnf
   refine ⟨_,ya,?_⟩
   conv=>whnf
   refine ⟨_,cS_as (x:=lgF p R i i) (i:=i) (by omega) rfl,?_⟩
   conv=>whnf
   refine QCall.of_data k1 (ndA fun k=>rfl) ?_
   conv=>whnf
   refine Sub.full rfl ?_
   conv=>whnf
   refine Sub.full (by rw [cS_len,hkl]) ?_
   conv=>whnf
   refine ⟨by show (i+1)*56≤_;omega,?_⟩
   conv=>whnf
   refine Wr.i64 (y:=((i+1:Nat):Int)) rfl (by omega) (by omega) ?_
   conv=>whnf
   refine ⟨i+1,h2,by show n - (i+1) < n - i;omega,⟨rfl,rfl,rfl,rfl,trivial⟩,?_,rfl,trivial⟩
   rw [htk,←cS_ap1];rfl
  ·have h2:i=n:=by simp only [decide_eq_false_iff_not] at h2;omega
   rw [h2,List.take_of_length_le (by omega)]
   conv=>whnf
   exact ⟨⟨rfl,rfl,rfl,rfl,rfl,rfl⟩,_,rfl,rfl,⟨rfl,trivial⟩,rfl⟩
end Go.V
namespace Go.V
open Go.Proofs Go.RowKit
set_option maxRecDepth 10000
set_option maxHeartbeats 16000000
theorem VCall.par1n {P:Program} {t:TL} {l:LL} {f:FuncId} {xs xs0:List AV} {sz sz' n s2:Nat} {ix ix':List MC} {rows rows':List (List (List C))} {r2:List (List C)} {dst:Option Nat} {K:AV→TL→LL→Prop} (a k:Nat)
  (h:Fn P f xs0 [(1000000,.mat sz ix rows)] (.tup [.ls 0 0 n s2,B true]) [(0,.row true s2 r2),(1000000,.mat sz' ix' rows')]) (ha:argR (pmap [(1000000,a)]) xs xs0) (hl:lget a l = .mat sz ix rows)
  (hf:freshR (pmap [(1000000,a)]) k t l [(1000000,.mat sz ix rows)] [(0,.row true s2 r2),(1000000,.mat sz' ix' rows')]=true)
  (hK:K (.tup [.ls k 0 n s2,B true]) t ((k,.row true s2 r2) :: (a,.mat sz' ix' rows') :: l)):VCall P f xs dst t l K :=
 VCall.of_fnR (k:=k) (pmap [(1000000,a)]) h ha ⟨⟨hl,fun p h=>absurd rfl h⟩,trivial⟩ rfl (fun p hp=>by
  by_cases e:p=1000000
  ·subst e;intro h2;cases h2
  ·exfalso;apply hp
   rw [lget_cons,if_neg e];rfl) (fun j hj=>by
  have h1:(AV.ment j (.tup [.ls 0 0 n s2,B true]))=(Nat.beq 0 j || (false || false)):=rfl
  rw [h1] at hj
  have:0=j:=Nat.eq_of_beq_eq_true (by simpa using hj)
  subst this;intro h2;cases h2) hf (by
  have e1:AV.ren (ret (pmap [(1000000,a)]) k) (.tup [.ls 0 0 n s2,B true]) = .tup [.ls k 0 n s2,B true]:=by
   show AV.tup [.ls (ret (pmap [(1000000,a)]) k 0) 0 n s2,B true]=_
   rfl
  rw [e1]
  have e2:retL (pmap [(1000000,a)]) k [(0,.row true s2 r2),(1000000,.mat sz' ix' rows')]=[(k,.row true s2 r2),(a,.mat sz' ix' rows')]:=rfl
  rw [e2];exact hK)
def sysU (p:Mt) (j:Nat):Mt:=(List.range j).map fun j=>(List.range (p.length+1)).map (entS p j)
theorem sysU_len (p:Mt) (j:Nat):(sysU p j).length=j:=by simp [sysU]
theorem sysU_next (p:Mt) (j:Nat):cRS (sysU p (j+1))=cRS (sysU p j)++[cS ((List.range (p.length+1)).map (entS p j))]:=by
 unfold sysU cRS;rw [show List.range (j+1)=List.range j++[j] from List.range_succ,List.map_append,List.map_append];rfl
theorem mapR_next {α:Type} (f:Nat→α) (i:Nat):(List.range (i+1)).map f=(List.range i).map f++[f i]:=by rw [List.range_succ,List.map_append];rfl
theorem fn_sRest (p:Mt) (t s:Nat) (hp:MtR p t) (ht:t≤9700) (hs:s < p.length) (hc:Cl p.length (ent p) s):Fn Tryz.prog 102 [mP p] [] (.tup [lS (restQ p s),B true]) []:=by
 have hz:((cMS p).length:Int)=p.length:=by rw [cMS_len]
 have n1:=hp.n1
 have n2:=hp.n2
 obtain ⟨c,hset,_⟩:=cls_one (n:=p.length) (s:=s) (r:=rb p.length (ent p)) (fun j _=>rb_self) (fun j k l _ _ _ h1 h2=>rb_trans h1 h2) hs (fun i hi=>rb_iff.2 (hc.rc i hi))
 have c1:=fn_sClasses p t hp (by omega)
 rw [hset] at c1
 generalize (clsN p.length (rb p.length (ent p)) p.length).1=o at c1
 obtain ⟨hinj,hgx⟩:=hp.rest_gj hs hc
 have cv:=fn_sSolve p.length (12*t+14) (List.range p.length) (sysL p) _ hp.gj hinj n1 n2 (by omega)
 rw [hgx] at cv
 have hU:sysL p=sysU p p.length:=rfl
 rw [hU] at cv
 have hql:=restQ_len p s
 obtain ⟨Q,eQ⟩:∃Q,restQ p s=Q:=⟨_,rfl⟩
 rw [eQ] at cv hql ⊢
 have hent:∀j i,j < p.length→i < p.length→entS p j i=if j=p.length - 1 then 1 else if i=j then ent p i j - 1 else ent p i j:=fun j i hj hi=>by unfold entS;rw [if_neg (by omega)]
 have hentn:∀j,entS p j p.length=if j=p.length - 1 then 1 else 0:=fun j=>by unfold entS;rw [if_pos rfl]
 have k1:=fn_sOne
 have k0:=fn_sNone
 obtain ⟨n,en⟩:∃n,p.length=n:=⟨_,rfl⟩
 have hrl:∀i,i < n→(p.getD i []).length=n:=fun i hi=>by rw [hp.rlen (by omega),en]
 have hsz:∀i j,i < n→j < n→sz (ent p i j) < t:=fun i j hi hj=>hp.ent_sz (by omega) (by omega)
 rw [en] at hz n1 n2 cv hql hent hentn
 generalize gjN n skJ (List.range n,sysU p n) n=fin at cv
 have g:Fn Tryz.prog 102 [mP p] [] (.tup [.ls 0 0 n 3,B true]) [(0,.row true 3 (cS Q))]:=by
  refine Fn.intro (ks:=[0,2,3,5,6,7,8,9,10,11,12,20,29,35,50,57,67]) hty rfl rfl rfl rfl rfl ?_
  conv=>whnf
  refine VCall.of_data c1 (ndT fun _=>rfl) ?_
  conv=>whnf
  rw [hz]
  refine VLoop.toMat 26 3 (cs:=[]) rfl rfl ?_
  refine VLoop.ren 26 75 rfl ?_
  refine VLoop.inv hty (S:=Nat) (fun j=>[(8,I j),(7,.ls 75 0 j 1),(6,I n),(0,mP p)]) (fun j=>[(75,.mat 3 (ixQ j (n+1)) (cRS (sysU p j)))]) (fun j=>j≤n) (fun j=>n - j) 0 (Nat.zero_le _) ⟨rfl,rfl,rfl,rfl,trivial⟩ ⟨rfl,trivial⟩ ?_
  intro j hj
  conv=>whnf
  refine Br.mk (fun h=>?_) (fun h=>?_)
  ·have h:j < n:=by simp only [decide_eq_true_eq] at h;omega
   have hN:=sysU_len p j
   have hnx:=sysU_next p j
   rw [en] at hnx
   obtain ⟨N,eN⟩:∃N,sysU p j=N:=⟨_,rfl⟩
   rw [eN] at hN hnx
   rw [eN]
   conv=>whnf
   refine VLoop.ren 32 62 rfl ?_
   refine VLoop.inv hty (S:=Nat) (fun i=>[(10,I i),(9,.ls 62 0 i 3),(8,I j),(7,.ls 75 0 j 1),(6,I n),(0,mP p)]) (fun i=>[(62,.row true 3 (cS ((List.range i).map (entS p j)))),(75,.mat 3 (ixQ j (n+1)) (cRS N))]) (fun i=>i≤n) (fun i=>n - i) 0 (Nat.zero_le _) ⟨rfl,rfl,rfl,rfl,rfl,rfl,trivial⟩ ⟨rfl,rfl,trivial⟩ ?_
   intro i hi
   conv=>whnf
   refine Br.mk (fun h3=>?_) (fun h3=>?_)
   ·have h3:i < n:=by simp only [decide_eq_true_eq] at h3;omega
    have hFn:=mapR_next (entS p j) i
    have hF:((List.range i).map (entS p j)).length=i:=by simp
    have hv0:=hent j i h h3
    have hs1:=hsz i j h3 h
    have k2:=fn_sMinus (ent p i j) 1 (by have:=sz_small (n:=1) (k:=1) (by decide) (by decide);have:sz (1:Rat)≤1:=this;omega)
    obtain ⟨F,eF⟩:∃F,(List.range i).map (entS p j)=F:=⟨_,rfl⟩
    rw [eF] at hFn hF ⊢
    conv=>whnf
    refine ⟨⟨⟨by omega,by rw [cMS_len];omega⟩,cMS_sz _⟩,?_⟩
    conv=>whnf
    refine ⟨_,cMS_as (x:=p.getD i []) (by omega) rfl,?_⟩
    conv=>whnf
    refine ⟨⟨⟨by omega,by rw [cS_len,hrl i h3];omega⟩,cS_sz _⟩,?_⟩
    conv=>whnf
    refine ⟨_,cS_as (x:=ent p i j) (by rw [hrl i h3];exact h) rfl,?_⟩
    conv=>whnf
    by_cases hij:i=j
    ·rw [decide_eq_true (show (i:Int)=(j:Int) by omega)]
     conv=>whnf
     refine VDraw.go hmo hty 3 [] rfl ?_
     conv=>whnf
     refine QCall.of_data k1 (ndA fun k=>rfl) ?_
     conv=>whnf
     refine QCall.of_data k2 (ndA fun k=>rfl) ?_
     conv=>whnf
     refine Wr.i64 (y:=((n - 1:Nat):Int)) (by omega) (by omega) (by omega) ?_
     conv=>whnf
     by_cases hjn:j=n - 1
     ·have hv:entS p j i=1:=by rw [hv0,if_pos hjn]
      rw [decide_eq_true (show (j:Int)=((n - 1:Nat):Int) by omega)]
      conv=>whnf
      refine VCall.of_data k1 (ndA fun k=>rfl) ?_
      conv=>whnf
      refine Sub.full rfl ?_
      conv=>whnf
      refine Sub.full (by rw [cS_len,hF]) ?_
      conv=>whnf
      refine ⟨by show (i+1)*56≤_;omega,?_⟩
      conv=>whnf
      refine Wr.i64 (y:=((i+1:Nat):Int)) rfl (by omega) (by omega) ?_
      conv=>whnf
      refine ⟨i+1,h3,by show n - (i+1) < n - i;omega,⟨rfl,rfl,rfl,rfl,rfl,rfl,trivial⟩,?_,rfl,trivial⟩
      rw [hFn,hv,←cS_ap1];rfl
     ·have hv:entS p j i=ent p i j - 1:=by rw [hv0,if_neg hjn,if_pos hij]
      rw [decide_eq_false (show ¬(j:Int)=((n - 1:Nat):Int) by omega)]
      conv=>whnf
      refine Sub.full rfl ?_
      conv=>whnf
      refine Sub.full (by rw [cS_len,hF]) ?_
      conv=>whnf
      refine ⟨by show (i+1)*56≤_;omega,?_⟩
      conv=>whnf
      refine Wr.i64 (y:=((i+1:Nat):Int)) rfl (by omega) (by omega) ?_
      conv=>whnf
      refine ⟨i+1,h3,by show n - (i+1) < n - i;omega,⟨rfl,rfl,rfl,rfl,rfl,rfl,trivial⟩,?_,rfl,trivial⟩
      rw [hFn,hv,←cS_ap1];rfl
    ·rw [decide_eq_false (show ¬(i:Int)=(j:Int) by omega)]
     conv=>whnf
     refine Wr.i64 (y:=((n - 1:Nat):Int)) (by omega) (by omega) (by omega) ?_
     conv=>whnf
     by_cases hjn:j=n - 1
     ·have hv:entS p j i=1:=by rw [hv0,if_pos hjn]
      rw [decide_eq_true (show (j:Int)=((n - 1:Nat):Int) by omega)]
      conv=>whnf
      refine VCall.of_data k1 (ndA fun k=>rfl) ?_
      conv=>whnf
      refine Sub.full rfl ?_
      conv=>whnf
      refine Sub.full (by rw [cS_len,hF]) ?_
      conv=>whnf
      refine ⟨by show (i+1)*56≤_;omega,?_⟩
      conv=>whnf
      refine Wr.i64 (y:=((i+1:Nat):Int)) rfl (by omega) (by omega) ?_
      conv=>whnf
      refine ⟨i+1,h3,by show n - (i+1) < n - i;omega,⟨rfl,rfl,rfl,rfl,rfl,rfl,trivial⟩,?_,rfl,trivial⟩
      rw [hFn,hv,←cS_ap1];rfl
     ·have hv:entS p j i=ent p i j:=by rw [hv0,if_neg hjn,if_neg hij]
      rw [decide_eq_false (show ¬(j:Int)=((n - 1:Nat):Int) by omega)]
      conv=>whnf
      refine Sub.full rfl ?_
      conv=>whnf
      refine Sub.full (by rw [cS_len,hF]) ?_
      conv=>whnf
      refine ⟨by show (i+1)*56≤_;omega,?_⟩
      conv=>whnf
      refine Wr.i64 (y:=((i+1:Nat):Int)) rfl (by omega) (by omega) ?_
      conv=>whnf
      refine ⟨i+1,h3,by show n - (i+1) < n - i;omega,⟨rfl,rfl,rfl,rfl,rfl,rfl,trivial⟩,?_,rfl,trivial⟩
      rw [hFn,hv,←cS_ap1];rfl
   ·have h3:i=n:=by simp only [decide_eq_false_iff_not] at h3;omega
    rw [h3]
    conv=>whnf
    refine VCall.of_data k0 (ndA fun k=>rfl) ?_
    conv=>whnf
    refine Wr.i64 (y:=((n - 1:Nat):Int)) (by omega) (by omega) (by omega) ?_
    conv=>whnf
    by_cases hjn:j=n - 1
    ·have hE:entS p j n=1:=by rw [hentn,if_pos hjn]
     rw [decide_eq_true (show (j:Int)=((n - 1:Nat):Int) by omega)]
     conv=>whnf
     refine VCall.of_data k1 (ndA fun k=>rfl) ?_
     conv=>whnf
     have hrow:(List.range (n+1)).map (entS p j)=(List.range n).map (entS p j)++[1]:=by rw [mapR_next,hE]
     have hFl:((List.range n).map (entS p j)).length=n:=by simp
     obtain ⟨F,eF⟩:∃F,(List.range n).map (entS p j)=F:=⟨_,rfl⟩
     rw [eF] at hrow hFl ⊢
     refine Sub.full rfl ?_
     conv=>whnf
     refine Sub.full (by rw [cS_len,hFl]) ?_
     conv=>whnf
     refine ⟨by show (n+1)*56≤_;omega,?_⟩
     conv=>whnf
     refine ⟨⟨by rw [ixQ_len],by show (j+1)*24≤_;omega⟩,?_⟩
     conv=>whnf
     refine Wr.i64 (y:=((j+1:Nat):Int)) rfl (by omega) (by omega) ?_
     conv=>whnf
     refine ⟨j+1,h,by show n - (j+1) < n - j;omega,⟨rfl,rfl,rfl,rfl,trivial⟩,?_,trivial⟩
     show Ob.mat 3 (ixQ j (n+1)++[.r (cRS N).length 0 (n+1)]) (cRS N++[cS F++[c1S 1]])=Ob.mat 3 (ixQ (j+1) (n+1)) (cRS (sysU p (j+1)))
     rw [hnx,ixQ_snoc,cRS_len,hN,hrow,cS_ap1]
    ·have hE:entS p j n=0:=by rw [hentn,if_neg hjn]
     rw [decide_eq_false (show ¬(j:Int)=((n - 1:Nat):Int) by omega)]
     conv=>whnf
     have hrow:(List.range (n+1)).map (entS p j)=(List.range n).map (entS p j)++[0]:=by rw [mapR_next,hE]
     have hFl:((List.range n).map (entS p j)).length=n:=by simp
     obtain ⟨F,eF⟩:∃F,(List.range n).map (entS p j)=F:=⟨_,rfl⟩
     rw [eF] at hrow hFl ⊢
     refine Sub.full rfl ?_
     conv=>whnf
     refine Sub.full (by rw [cS_len,hFl]) ?_
     conv=>whnf
     refine ⟨by show (n+1)*56≤_;omega,?_⟩
     conv=>whnf
     refine ⟨⟨by rw [ixQ_len],by show (j+1)*24≤_;omega⟩,?_⟩
     conv=>whnf
     refine Wr.i64 (y:=((j+1:Nat):Int)) rfl (by omega) (by omega) ?_
     conv=>whnf
     refine ⟨j+1,h,by show n - (j+1) < n - j;omega,⟨rfl,rfl,rfl,rfl,trivial⟩,?_,trivial⟩
     show Ob.mat 3 (ixQ j (n+1)++[.r (cRS N).length 0 (n+1)]) (cRS N++[cS F++[c1S 0]])=Ob.mat 3 (ixQ (j+1) (n+1)) (cRS (sysU p (j+1)))
     rw [hnx,ixQ_snoc,cRS_len,hN,hrow,cS_ap1]
  ·have h:j=n:=by simp only [decide_eq_false_iff_not] at h;omega
   rw [h]
   conv=>whnf
   refine VCall.par1n 75 77 cv ⟨⟨rfl,rfl,rfl,rfl⟩,trivial⟩ rfl rfl ?_
   conv=>whnf
   exact ⟨⟨rfl,rfl,rfl,rfl,rfl,rfl⟩,[],rfl,rfl,trivial,rfl⟩
 have:=g.freezeT (by rw [cS_len];omega) rfl
 rwa [List.drop_zero,List.take_of_length_le (by rw [cS_len];omega)] at this
end Go.V
namespace Go.V
open Go.Proofs Go.RowKit
set_option maxRecDepth 10000
set_option maxHeartbeats 2000000
theorem fn_sPolGain (m:Mo) (hm:m.Ok) (acts:List Bool) (ha:acts.length=m.room):Fn Tryz.prog 82 [moP m,lBo acts] [] (.tup [rS (gainQ m (acts.getD · false)),lS (polU m (acts.getD · false))]) []:=by
 have r2:=hm.r2
 have c1:=fn_sChain m hm acts ha
 have c2:Fn Tryz.prog 102 [mP (chainP m (acts.getD · false))] [] (.tup [lS (polU m (acts.getD · false)),B true]) []:=fn_sRest _ 1601 0 (polR hm (acts.getD · false)) (by decide) (by rw [chainP_len];omega) (polC hm _)
 have hU:=polU_len m (acts.getD · false)
 have sU:=polU_sz hm (acts.getD · false)
 have gz:=fun n (hn:n < m.room+1)=>gainT_sz hm (acts.getD · false) hn
 have eG:∀n,gainT m (acts.getD · false) n=if n < m.room∧acts.getD n false=true then -(m.cost*((n:Int):Rat))+m.come*m.reward else -(m.cost*((n:Int):Rat)):=fun n=>rfl
 have hsz:=gainF_sz hm (acts.getD · false)
 unfold gainQ
 generalize polU m (acts.getD · false)=U at c2 hU sU hsz ⊢
 generalize gainT m (acts.getD · false)=G at gz eG hsz ⊢
 generalize chainP m (acts.getD · false)=p at c1 c2
 have hz:((cS U).length:Int)=((m.room+1:Nat):Int):=by rw [cS_len,hU]
 obtain ⟨A,eA⟩:∃A:Nat→Rat,(fun k=>sN k fun n=>U.getD n 0*G n)=A:=⟨_,rfl⟩
 have hA:∀k,k≤m.room+1→sz (A k)≤2000000000:=fun k hk=>by rw [←eA];exact hsz k hk
 have hst:∀n,A (n+1)=A n+U.getD n 0*G n:=fun n=>by rw [←eA];rfl
 have h0:(0:Rat)=A 0:=by rw [←eA];rfl
 rw [show (sN (m.room+1) fun n=>U.getD n 0*G n)=A (m.room+1) by rw [←eA]]
 clear hsz eA
 have c0:=fn_sNone
 rw [h0] at c0
 refine Fn.intro (ks:=[0,1,4,5,6,7,9,10,11,21,22,23,44]) hty rfl rfl rfl rfl rfl ?_
 conv=>whnf
 refine VCall.of_data c1 (ndA fun k=>rfl) ?_
 conv=>whnf
 refine VCall.thaw 6 (cs:=[.sl (cMS p)]) rfl ?_
 refine VCall.of_data c2 (ndT fun _=>rfl) ?_
 conv=>whnf
 refine VCall.of_data c0 (ndA fun k=>rfl) ?_
 conv=>whnf
 rw [hz]
 refine VLoop.inv hty (S:=Nat) (fun n=>[(22,I n),(21,I ((m.room+1:Nat):Int)),(9,.lp 9 0),(7,lS U),(4,.lp 4 0),(1,lBo acts),(0,moP m)])
  (fun n=>[(9,.box true [B (ng (A n)),nS (tp (A n)),nS (A n).den]),(4,.box true [B false,.d (.s (.slice none 0 0)),.d (.s (.slice none 0 0))])]) (fun n=>n≤m.room+1) (fun n=>m.room+1 - n) 0 (Nat.zero_le _)
  ⟨rfl,rfl,rfl,rfl,rfl,rfl,rfl,trivial⟩ ⟨rfl,rfl,trivial⟩ ?_
 intro n hn
 conv=>whnf
 refine Br.mk (fun h2=>?_) (fun h2=>?_)
 ·have h2:n < m.room+1:=by simp only [decide_eq_true_eq] at h2;omega
  obtain ⟨g1,g2,g3,g4⟩:=gz n h2
  have eg:=eG n
  have su:=sU n
  have sA:=hA n (by omega)
  have hs:=hst n
  have zk:=hm.zk;have zc:=hm.zc;have zw:=hm.zw
  have z0:=sz_small (n:=(n:Int)) (k:=4) (by omega) (by omega)
  have k1:=fn_sInt (n:Int) (by omega) (by omega)
  have k2:=fn_sTimes m.cost ((n:Int):Rat) (by omega)
  have k3:=fn_sOpp (m.cost*((n:Int):Rat)) (by omega)
  have k4:=fn_sTimes m.come m.reward (by omega)
  have k5:=fn_sSum (-(m.cost*((n:Int):Rat))) (m.come*m.reward) (by omega)
  obtain ⟨g,eg2⟩:∃g,G n=g:=⟨_,rfl⟩
  rw [eg2] at eg g4 hs
  obtain ⟨u,eu⟩:∃u,U.getD n 0=u:=⟨_,rfl⟩
  rw [eu] at su hs
  have s6:=sz_mul u g
  have k6:=fn_sTimes u g (by omega)
  have k7:=fn_sSum (A n) (u*g) (by omega)
  rw [←hs] at k7
  clear s6 hs sA su g4 g3 g2 g1 zk zc zw
  obtain ⟨ug,eug⟩:∃x,u*g=x:=⟨_,rfl⟩
  rw [eug] at k6 k7
  obtain ⟨w,ew⟩:∃w,((n:Int):Rat)=w:=⟨_,rfl⟩
  rw [ew] at k1 k2 k3 k5 eg
  obtain ⟨x1,e1⟩:∃x,m.cost*w=x:=⟨_,rfl⟩
  rw [e1] at k2 k3 k5 eg
  obtain ⟨x2,e2⟩:∃x,-x1=x:=⟨_,rfl⟩
  rw [e2] at k3 k5 eg
  obtain ⟨x3,e3⟩:∃x,m.come*m.reward=x:=⟨_,rfl⟩
  rw [e3] at k4 k5 eg
  obtain ⟨b,eb⟩:∃b,acts.getD n false=b:=⟨_,rfl⟩
  rw [eb] at eg
  conv=>whnf
  refine VDraw.go hmo hty 9 [[11],[11],[11],[11],[11],[11],[11],[11],[]] rfl ?_
  conv=>whnf
  refine QCall.of_data k1 (ndA fun k=>rfl) ?_
  conv=>whnf
  refine QCall.of_data k2 (ndA fun k=>rfl) ?_
  conv=>whnf
  refine QCall.of_data k3 (ndA fun k=>rfl) ?_
  conv=>whnf
  by_cases hr:n < m.room
  ·rw [decide_eq_true (show (n:Int) < (m.room:Int) by omega)]
   conv=>whnf
   refine ⟨⟨⟨by omega,by rw [cBo_len];omega⟩,cBo_sz _⟩,?_⟩
   conv=>whnf
   refine ⟨_,cBo_as (x:=b) (by omega) eb,?_⟩
   conv=>whnf
   cases b with
   | true =>
    rw [if_pos ⟨hr,rfl⟩] at eg
    rw [←eg] at k5
    conv=>whnf
    refine VDraw.go hmo hty 11 [] rfl ?_
    conv=>whnf
    refine QCall.of_data k4 (ndA fun k=>rfl) ?_
    conv=>whnf
    refine QCall.of_data k5 (ndA fun k=>rfl) ?_
    conv=>whnf
    refine VDraw.go hmo hty 8 [] rfl ?_
    conv=>whnf
    refine ⟨⟨⟨by omega,by rw [cS_len];omega⟩,cS_sz _⟩,?_⟩
    conv=>whnf
    refine ⟨_,cS_as (x:=u) (by omega) eu,?_⟩
    conv=>whnf
    refine QCall.of_data k6 (ndA fun k=>rfl) ?_
    conv=>whnf
    refine QCall.of_data k7 (ndA fun k=>rfl) ?_
    conv=>whnf
    refine Wr.i64 (y:=((n+1:Nat):Int)) rfl (by omega) (by omega) ?_
    conv=>whnf
    exact ⟨n+1,h2,by show m.room+1 - (n+1) < m.room+1 - n;omega,⟨rfl,rfl,rfl,rfl,rfl,rfl,rfl,trivial⟩,rfl,rfl,trivial⟩
   | false =>
    rw [if_neg (fun e=>by cases e.2)] at eg
    subst eg
    conv=>whnf
    refine VDraw.go hmo hty 8 [] rfl ?_
    conv=>whnf
    refine ⟨⟨⟨by omega,by rw [cS_len];omega⟩,cS_sz _⟩,?_⟩
    conv=>whnf
    refine ⟨_,cS_as (x:=u) (by omega) eu,?_⟩
    conv=>whnf
    refine QCall.of_data k6 (ndA fun k=>rfl) ?_
    conv=>whnf
    refine QCall.of_data k7 (ndA fun k=>rfl) ?_
    conv=>whnf
    refine Wr.i64 (y:=((n+1:Nat):Int)) rfl (by omega) (by omega) ?_
    conv=>whnf
    exact ⟨n+1,h2,by show m.room+1 - (n+1) < m.room+1 - n;omega,⟨rfl,rfl,rfl,rfl,rfl,rfl,rfl,trivial⟩,rfl,rfl,trivial⟩
  ·rw [if_neg (fun e=>hr e.1)] at eg
   subst eg
   rw [decide_eq_false (show ¬(n:Int) < (m.room:Int) by omega)]
   conv=>whnf
   refine VDraw.go hmo hty 8 [] rfl ?_
   conv=>whnf
   refine ⟨⟨⟨by omega,by rw [cS_len];omega⟩,cS_sz _⟩,?_⟩
   conv=>whnf
   refine ⟨_,cS_as (x:=u) (by omega) eu,?_⟩
   conv=>whnf
   refine QCall.of_data k6 (ndA fun k=>rfl) ?_
   conv=>whnf
   refine QCall.of_data k7 (ndA fun k=>rfl) ?_
   conv=>whnf
   refine Wr.i64 (y:=((n+1:Nat):Int)) rfl (by omega) (by omega) ?_
   conv=>whnf
   exact ⟨n+1,h2,by show m.room+1 - (n+1) < m.room+1 - n;omega,⟨rfl,rfl,rfl,rfl,rfl,rfl,rfl,trivial⟩,rfl,rfl,trivial⟩
 ·have h2:n=m.room+1:=by simp only [decide_eq_false_iff_not] at h2;omega
  rw [h2]
  conv=>whnf
  exact ⟨rfl,rfl,rfl,rfl,trivial,rfl⟩
theorem fn_sMomentS (xs:List Rat) (h:∀q,q∈xs→sz q≤130000000) (hl:xs.length≤12):Fn Tryz.prog 96 [lS xs,I 1] [] (rS (momS xs)) []:=by
 have hsz:=momS_sz h hl
 unfold momS
 obtain ⟨A,eA⟩:∃A:Nat→Rat,(fun k=>sN k fun k=>xs.getD k 0*(((k:Nat):Int):Rat) ^ 1)=A:=⟨_,rfl⟩
 have hA:∀k,k≤xs.length→sz (A k)≤2000000000:=fun k hk=>by rw [←eA];exact hsz k hk
 have est:∀n,A (n+1)=A n+xs.getD n 0*(((n:Nat):Int):Rat) ^ 1:=fun n=>by rw [←eA];rfl
 have h0:(0:Rat)=A 0:=by rw [←eA];rfl
 rw [show (sN xs.length fun k=>xs.getD k 0*(((k:Nat):Int):Rat) ^ 1)=A xs.length by rw [←eA]]
 clear hsz eA
 have c0:=fn_sNone
 rw [h0] at c0
 refine Fn.intro (ks:=[0,1,4,5,6,9,10,11]) hty rfl rfl rfl rfl rfl ?_
 conv=>whnf
 refine VCall.of_data c0 (ndA fun k=>rfl) ?_
 conv=>whnf
 refine VLoop.inv hty (S:=Nat) (fun i=>[(10,I (i:Nat)),(9,I xs.length),(5,.lp 5 0),(4,.lp 4 0),(1,I 1),(0,lS xs)]) (fun i=>[(5,.box true [B (ng (A i)),nS (tp (A i)),nS (A i).den]),(4,.box true [B false,.d (.s (.slice none 0 0)),.d (.s (.slice none 0 0))])])
  (fun i=>i≤xs.length) (fun i=>xs.length - i) 0 (Nat.zero_le _) ⟨rfl,by show I ((cS xs).length:Nat)=_;rw [cS_len],rfl,rfl,rfl,rfl,trivial⟩ ⟨rfl,rfl,trivial⟩ ?_
 intro i hi
 conv=>whnf
 refine Br.mk (fun h2=>?_) (fun h2=>?_)
 ·have h2:i < xs.length:=by simp only [decide_eq_true_eq] at h2;omega
  have er:=est i
  have sp:=hA i hi
  have sx:=getD_sz h i (by decide)
  obtain ⟨x,ex⟩:∃x,xs.getD i 0=x:=⟨_,rfl⟩
  rw [ex] at er sx
  have cw:=fn_sInt (i:Nat) (by omega) (by omega)
  have sw:=sz_nat (n:=i) (by omega)
  obtain ⟨w,ew⟩:∃w,(((i:Nat):Int):Rat)=w:=⟨_,rfl⟩
  rw [ew] at cw sw er
  have cp:=fn_sPower w 1 (by omega) (by omega)
  have spw:=sz_pow w 1
  obtain ⟨p,ep⟩:∃p,w ^ 1=p:=⟨_,rfl⟩
  rw [ep] at cp spw er
  have cm:=fn_sTimes x p (by omega)
  have sm:=sz_mul x p
  have ca:=fn_sSum (A i) (x*p) (by omega)
  rw [←er] at ca
  conv=>whnf
  refine VDraw.go hmo hty 11 [] rfl ?_
  conv=>whnf
  refine ⟨⟨⟨by omega,by rw [cS_len];omega⟩,cS_sz _⟩,?_⟩
  conv=>whnf
  refine ⟨_,cS_as (x:=x) h2 ex,?_⟩
  conv=>whnf
  refine QCall.of_data cw (ndA fun k=>rfl) ?_
  conv=>whnf
  refine QCall.of_data cp (ndA fun k=>rfl) ?_
  conv=>whnf
  refine QCall.of_data cm (ndA fun k=>rfl) ?_
  conv=>whnf
  refine QCall.of_data ca (ndA fun k=>rfl) ?_
  conv=>whnf
  refine Wr.i64 (y:=((i+1:Nat):Int)) rfl (by omega) (by omega) ?_
  conv=>whnf
  exact ⟨i+1,h2,by show xs.length - (i+1) < xs.length - i;omega,⟨rfl,rfl,rfl,rfl,rfl,rfl,trivial⟩,rfl,rfl,trivial⟩
 ·have h2:i=xs.length:=by simp only [decide_eq_false_iff_not] at h2;omega
  rw [h2]
  conv=>whnf
  exact ⟨rfl,rfl,rfl,trivial,rfl⟩
theorem fn_sGainOf (r:Int) (a b c d:List UInt8) (hi:MdIn a b c d) (acts:List Bool):Fn Tryz.prog 33 [mdI r a b c d,lBo acts] [] (.tup [Str (toldO ((actQ r a b c d acts).map fun m=>gainQ m (acts.getD · false))).1,B (toldO ((actQ r a b c d acts).map fun m=>gainQ m (acts.getD · false))).2]) []:=by
 refine Fn.intro (ks:=[0,1,2,4,5,6,7,8,16]) hty rfl rfl rfl rfl rfl ?_
 conv=>whnf
 have c1:=fn_l09Acts r a b c d hi acts
 refine VCall.thaw 2 (cs:=[.s (.int .i64 r),.s (.string ⟨a.toArray⟩),.s (.string ⟨b.toArray⟩),.s (.string ⟨c.toArray⟩),.s (.string ⟨d.toArray⟩)]) rfl ?_
 cases hm:modQ r a b c d with
 | none =>
  rw [actQ_none hm]
  rw [hm,actQ_none hm] at c1
  refine VCall.of_data c1 (ndT fun _=>rfl) ?_
  conv=>whnf
  exact ⟨rfl,rfl,trivial,rfl⟩
 | some m =>
  obtain ⟨hok,_⟩:=modQ_ok hm
  rw [actQ_some hm]
  rw [hm,actQ_some hm] at c1
  by_cases ha:acts.length=m.room
  case neg =>
   rw [if_neg ha] at c1 ⊢
   replace c1:Fn Tryz.prog 62 [mdP r a b c d,lBo acts] [] (.tup [moS m,B false]) []:=c1
   refine VCall.of_data c1 (ndT fun _=>rfl) ?_
   conv=>whnf
   exact ⟨rfl,rfl,trivial,rfl⟩
  rw [if_pos ha] at c1 ⊢
  replace c1:Fn Tryz.prog 62 [mdP r a b c d,lBo acts] [] (.tup [moS m,B true]) []:=c1
  have c2:=fn_sPolGain m hok acts ha
  refine VCall.of_data c1 (ndT fun _=>rfl) ?_
  conv=>whnf
  refine VCall.thaw 6 (cs:=moC m) rfl ?_
  refine VCall.of_data c2 (ndT fun _=>rfl) ?_
  conv=>whnf
  have c3:=fn_sGive (gainQ m (acts.getD · false)) (by have:=gainQ_sz hok (acts.getD · false);omega)
  refine VCall.of_data c3 (ndT fun _=>rfl) ?_
  conv=>whnf
  exact ⟨rfl,rfl,trivial,rfl⟩
theorem fn_sMeanLine (r:Int) (a b c d:List UInt8) (hi:MdIn a b c d) (acts:List Bool):Fn Tryz.prog 39 [mdI r a b c d,lBo acts] [] (.tup [Str (toldO ((actQ r a b c d acts).map fun m=>momS (polU m (acts.getD · false)))).1,B (toldO ((actQ r a b c d acts).map fun m=>momS (polU m (acts.getD · false)))).2]) []:=by
 refine Fn.intro (ks:=[0,1,2,4,5,6,7,9,16]) hty rfl rfl rfl rfl rfl ?_
 conv=>whnf
 have c1:=fn_l09Acts r a b c d hi acts
 refine VCall.thaw 2 (cs:=[.s (.int .i64 r),.s (.string ⟨a.toArray⟩),.s (.string ⟨b.toArray⟩),.s (.string ⟨c.toArray⟩),.s (.string ⟨d.toArray⟩)]) rfl ?_
 cases hm:modQ r a b c d with
 | none =>
  rw [actQ_none hm]
  rw [hm,actQ_none hm] at c1
  refine VCall.of_data c1 (ndT fun _=>rfl) ?_
  conv=>whnf
  exact ⟨rfl,rfl,trivial,rfl⟩
 | some m =>
  obtain ⟨hok,_⟩:=modQ_ok hm
  rw [actQ_some hm]
  rw [hm,actQ_some hm] at c1
  by_cases ha:acts.length=m.room
  case neg =>
   rw [if_neg ha] at c1 ⊢
   replace c1:Fn Tryz.prog 62 [mdP r a b c d,lBo acts] [] (.tup [moS m,B false]) []:=c1
   refine VCall.of_data c1 (ndT fun _=>rfl) ?_
   conv=>whnf
   exact ⟨rfl,rfl,trivial,rfl⟩
  rw [if_pos ha] at c1 ⊢
  replace c1:Fn Tryz.prog 62 [mdP r a b c d,lBo acts] [] (.tup [moS m,B true]) []:=c1
  have c2:=fn_sPolGain m hok acts ha
  refine VCall.of_data c1 (ndT fun _=>rfl) ?_
  conv=>whnf
  refine VCall.thaw 6 (cs:=moC m) rfl ?_
  refine VCall.of_data c2 (ndT fun _=>rfl) ?_
  conv=>whnf
  have c4:=fn_sMomentS _ (polU_szm hok (acts.getD · false)) (by rw [polU_len];have:=hok.r2;omega)
  have c3:=fn_sGive (momS (polU m (acts.getD · false))) (by have:=momU_sz hok (acts.getD · false);omega)
  refine VCall.of_data c4 (ndA fun k=>rfl) ?_
  conv=>whnf
  refine VCall.of_data c3 (ndT fun _=>rfl) ?_
  conv=>whnf
  exact ⟨rfl,rfl,trivial,rfl⟩
theorem fn_sTurnedAway (r:Int) (a b c d:List UInt8) (hi:MdIn a b c d) (acts:List Bool):Fn Tryz.prog 35 [mdI r a b c d,lBo acts] [] (.tup [Str (toldO ((actQ r a b c d acts).map fun m=>awayQ m (acts.getD · false))).1,B (toldO ((actQ r a b c d acts).map fun m=>awayQ m (acts.getD · false))).2]) []:=by
 refine Fn.intro (ks:=[0,1,2,4,5,6,7,9,10,11,18,26,27,28,40]) hty rfl rfl rfl rfl rfl ?_
 conv=>whnf
 have c1:=fn_l09Acts r a b c d hi acts
 refine VCall.thaw 2 (cs:=[.s (.int .i64 r),.s (.string ⟨a.toArray⟩),.s (.string ⟨b.toArray⟩),.s (.string ⟨c.toArray⟩),.s (.string ⟨d.toArray⟩)]) rfl ?_
 cases hm:modQ r a b c d with
 | none =>
  rw [actQ_none hm]
  rw [hm,actQ_none hm] at c1
  refine VCall.of_data c1 (ndT fun _=>rfl) ?_
  conv=>whnf
  exact ⟨rfl,rfl,trivial,rfl⟩
 | some m =>
  obtain ⟨hok,_⟩:=modQ_ok hm
  rw [actQ_some hm]
  rw [hm,actQ_some hm] at c1
  by_cases ha:acts.length=m.room
  case neg =>
   rw [if_neg ha] at c1 ⊢
   replace c1:Fn Tryz.prog 62 [mdP r a b c d,lBo acts] [] (.tup [moS m,B false]) []:=c1
   refine VCall.of_data c1 (ndT fun _=>rfl) ?_
   conv=>whnf
   exact ⟨rfl,rfl,trivial,rfl⟩
  rw [if_pos ha] at c1 ⊢
  replace c1:Fn Tryz.prog 62 [mdP r a b c d,lBo acts] [] (.tup [moS m,B true]) []:=c1
  have c2:=fn_sPolGain m hok acts ha
  refine VCall.of_data c1 (ndT fun _=>rfl) ?_
  conv=>whnf
  refine VCall.thaw 6 (cs:=moC m) rfl ?_
  refine VCall.of_data c2 (ndT fun _=>rfl) ?_
  conv=>whnf
  have r2:=hok.r2
  have hU:=polU_len m (acts.getD · false)
  have sU:=polU_sz hok (acts.getD · false)
  have hsz:=awayF_sz hok (acts.getD · false)
  have c3:=fn_sGive (awayQ m (acts.getD · false)) (by have:=awayQ_sz hok (acts.getD · false);omega)
  rw [show ((some m).map fun m=>awayQ m (acts.getD · false))=some (awayQ m (acts.getD · false)) from rfl]
  unfold awayQ at c3 ⊢
  generalize polU m (acts.getD · false)=U at c2 hU sU hsz c3 ⊢
  generalize gainQ m (acts.getD · false)=gq at c2 ⊢
  have hz:((cS U).length:Int)=((m.room+1:Nat):Int):=by rw [cS_len,hU]
  obtain ⟨A,eA⟩:∃A:Nat→Rat,(fun k=>sN k fun n=>if n=m.room∨acts.getD n false=false then U.getD n 0 else 0)=A:=⟨_,rfl⟩
  have hA:∀k,k≤m.room+1→sz (A k)≤2000000000:=fun k hk=>by rw [←eA];exact hsz k hk
  have hst:∀n,A (n+1)=A n+if n=m.room∨acts.getD n false=false then U.getD n 0 else 0:=fun n=>by rw [←eA];rfl
  have h0:(0:Rat)=A 0:=by rw [←eA];rfl
  have e1:(sN (m.room+1) fun n=>if n=m.room∨acts.getD n false=false then U.getD n 0 else 0)=A (m.room+1):=by rw [←eA]
  rw [e1] at c3 ⊢
  clear hsz eA e1
  have c0:=fn_sNone
  rw [h0] at c0
  refine VCall.of_data c0 (ndA fun k=>rfl) ?_
  conv=>whnf
  rw [hz]
  refine VLoop.inv hty (S:=Nat) (fun n=>[(27,I n),(26,I ((m.room+1:Nat):Int)),(10,.lp 10 0),(9,lS U),(6,moP m),(1,lBo acts)])
   (fun n=>[(10,.box true [B (ng (A n)),nS (tp (A n)),nS (A n).den])]) (fun n=>n≤m.room+1) (fun n=>m.room+1 - n) 0 (Nat.zero_le _)
   ⟨rfl,rfl,rfl,rfl,rfl,rfl,trivial⟩ ⟨rfl,trivial⟩ ?_
  intro n hn
  conv=>whnf
  refine Br.mk (fun h2=>?_) (fun h2=>?_)
  ·have h2:n < m.room+1:=by simp only [decide_eq_true_eq] at h2;omega
   have su:=sU n
   have sA:=hA n (by omega)
   have hs:=hst n
   obtain ⟨u,eu⟩:∃u,U.getD n 0=u:=⟨_,rfl⟩
   rw [eu] at su hs
   have k7:=fn_sSum (A n) u (by omega)
   obtain ⟨b,eb⟩:∃b,acts.getD n false=b:=⟨_,rfl⟩
   rw [eb] at hs
   conv=>whnf
   by_cases hr:n=m.room
   ·rw [if_pos (Or.inl hr)] at hs
    rw [←hs] at k7
    rw [decide_eq_true (show (n:Int)=(m.room:Int) by omega)]
    conv=>whnf
    refine VDraw.go hmo hty 6 [] rfl ?_
    conv=>whnf
    refine ⟨⟨⟨by omega,by rw [cS_len];omega⟩,cS_sz _⟩,?_⟩
    conv=>whnf
    refine ⟨_,cS_as (x:=u) (by omega) eu,?_⟩
    conv=>whnf
    refine QCall.of_data k7 (ndA fun k=>rfl) ?_
    conv=>whnf
    refine Wr.i64 (y:=((n+1:Nat):Int)) rfl (by omega) (by omega) ?_
    conv=>whnf
    exact ⟨n+1,h2,by show m.room+1 - (n+1) < m.room+1 - n;omega,⟨rfl,rfl,rfl,rfl,rfl,rfl,trivial⟩,rfl,trivial⟩
   ·rw [decide_eq_false (show ¬(n:Int)=(m.room:Int) by omega)]
    conv=>whnf
    refine ⟨⟨⟨by omega,by rw [cBo_len];omega⟩,cBo_sz _⟩,?_⟩
    conv=>whnf
    refine ⟨_,cBo_as (x:=b) (by omega) eb,?_⟩
    conv=>whnf
    cases b with
    | true =>
     rw [if_neg (fun e=>e.elim hr (fun e=>by cases e)),Rat.add_zero] at hs
     rw [←hs]
     conv=>whnf
     refine Wr.i64 (y:=((n+1:Nat):Int)) rfl (by omega) (by omega) ?_
     conv=>whnf
     exact ⟨n+1,h2,by show m.room+1 - (n+1) < m.room+1 - n;omega,⟨rfl,rfl,rfl,rfl,rfl,rfl,trivial⟩,rfl,trivial⟩
    | false =>
     rw [if_pos (Or.inr rfl)] at hs
     rw [←hs] at k7
     conv=>whnf
     refine VDraw.go hmo hty 6 [] rfl ?_
     conv=>whnf
     refine ⟨⟨⟨by omega,by rw [cS_len];omega⟩,cS_sz _⟩,?_⟩
     conv=>whnf
     refine ⟨_,cS_as (x:=u) (by omega) eu,?_⟩
     conv=>whnf
     refine QCall.of_data k7 (ndA fun k=>rfl) ?_
     conv=>whnf
     refine Wr.i64 (y:=((n+1:Nat):Int)) rfl (by omega) (by omega) ?_
     conv=>whnf
     exact ⟨n+1,h2,by show m.room+1 - (n+1) < m.room+1 - n;omega,⟨rfl,rfl,rfl,rfl,rfl,rfl,trivial⟩,rfl,trivial⟩
  ·have h2:n=m.room+1:=by simp only [decide_eq_false_iff_not] at h2;omega
   rw [h2]
   conv=>whnf
   refine VCall.of_data c3 (ndT fun _=>rfl) ?_
   conv=>whnf
   exact ⟨rfl,rfl,trivial,rfl⟩
end Go.V
namespace Go.V
open Go.Proofs Go.RowKit
set_option maxRecDepth 10000
set_option maxHeartbeats 2000000
theorem law_gainOf (r:Int) (a b c d:List UInt8) (acts:List Bool) (ha:a.length < 2 ^ 47) (hb:b.length < 2 ^ 47) (hc:c.length < 2 ^ 47) (hd:d.length < 2 ^ 47) (hx:acts.length < 2 ^ 47):Fn Tryz.prog 7 [mdI r a b c d,lBo acts] [] (B true) []:=by
 have hz:((cBo acts).length:Int)=acts.length:=by rw [cBo_len]
 have c0:=fn_szModel r a b c d (1000000 - acts.length) ha hb hc hd (by omega) (by omega)
 have cm:=fn_toModel r a b c d
 refine Fn.intro (ks:=[0,1,2,4,5,6,7,8,9,10,11,12,20,45,50,66]) hty rfl rfl rfl rfl rfl ?_
 conv=>whnf
 rw [hz]
 refine Wr.i64 (y:=1000000 - (acts.length:Int)) rfl (by omega) (by omega) ?_
 conv=>whnf
 refine VCall.of_data c0 (nd _) ?_
 obtain ⟨m,em⟩:∃m,szMd (1000000 - acts.length) a b c d=m:=⟨_,rfl⟩
 rw [em]
 conv=>whnf
 refine Br.mk (fun h=>?_) (fun h=>?_)
 ·conv=>whnf
  exact ⟨rfl,trivial,rfl⟩
 ·have h:0≤m:=by simpa using h
  have hi:=szMd_in (em▸h) (by omega)
  have hl:acts.length≤1000000:=by
   rw [←em] at h
   unfold szMd at h
   split at h
   ·omega
   ·omega
  have cs:=fn_sGainOf r a b c d hi acts
  have ci:=fn_GainOf r a b c d hi acts
  generalize toldO ((actQ r a b c d acts).map fun m=>gainQ m (acts.getD · false))=r0 at cs ci
  obtain ⟨r1,r2⟩:=r0
  replace cs:Fn Tryz.prog 33 [mdI r a b c d,lBo acts] [] (.tup [Str r1,B r2]) []:=cs
  replace ci:Fn Tryz.prog 34 [mdI r a b c d,lBo acts] [] (.tup [Str r1,B r2]) []:=ci
  have ct:=fn_toBo acts false (.inl rfl) hl
  have cx:=fn_intactBo acts hl
  clear c0 em
  conv=>whnf
  refine VCall.of_data cm (ndA fun k=>rfl) ?_
  conv=>whnf
  refine VCall.of_data (fn_toBod acts false hl) (nd _) ?_
  conv=>whnf
  refine VCall.of_data cs (ndT fun _=>rfl) ?_
  conv=>whnf
  refine VCall.of_fn (k:=30) ct namesBo rfl ?_
  conv=>whnf
  refine VCall.of_data cm (ndA fun k=>rfl) ?_
  conv=>whnf
  refine VCall.lend ci ⟨⟨rfl,rfl,rfl,rfl,rfl,trivial⟩,lend_roomBo rfl,trivial⟩ rfl ?_
  conv=>whnf
  rw [show ((⟨r1.toArray⟩:ByteArray).toList == (⟨r1.toArray⟩:ByteArray).toList)=true by simp]
  conv=>whnf
  rw [show (r2 == r2)=true by simp]
  conv=>whnf
  refine VCall.of_fn (k:=48) ct namesBo rfl ?_
  conv=>whnf
  refine VCall.parN [(1000000,30),(1000001,48)] cx ⟨⟨rfl,rfl,rfl,rfl⟩,⟨rfl,rfl,rfl,rfl⟩,trivial⟩ ⟨⟨rfl,rfl⟩,⟨rfl,rfl⟩,trivial⟩ rfl rfl rfl rfl ?_
  conv=>whnf
  refine VCall.of_data cm (ndA fun k=>rfl) ?_
  conv=>whnf
  refine VCall.of_data (fn_toBod acts true hl) (nd _) ?_
  conv=>whnf
  refine VCall.of_data ci (ndT fun _=>rfl) ?_
  conv=>whnf
  rw [show ((⟨r1.toArray⟩:ByteArray).toList == (⟨r1.toArray⟩:ByteArray).toList)=true by simp]
  conv=>whnf
  rw [show (r2 == r2)=true by simp]
  conv=>whnf
  exact ⟨rfl,trivial,rfl⟩
theorem law_turnedAway (r:Int) (a b c d:List UInt8) (acts:List Bool) (ha:a.length < 2 ^ 47) (hb:b.length < 2 ^ 47) (hc:c.length < 2 ^ 47) (hd:d.length < 2 ^ 47) (hx:acts.length < 2 ^ 47):Fn Tryz.prog 8 [mdI r a b c d,lBo acts] [] (B true) []:=by
 have hz:((cBo acts).length:Int)=acts.length:=by rw [cBo_len]
 have c0:=fn_szModel r a b c d (1000000 - acts.length) ha hb hc hd (by omega) (by omega)
 have cm:=fn_toModel r a b c d
 refine Fn.intro (ks:=[0,1,2,4,5,6,7,8,9,10,11,12,20,45,50,66]) hty rfl rfl rfl rfl rfl ?_
 conv=>whnf
 rw [hz]
 refine Wr.i64 (y:=1000000 - (acts.length:Int)) rfl (by omega) (by omega) ?_
 conv=>whnf
 refine VCall.of_data c0 (nd _) ?_
 obtain ⟨m,em⟩:∃m,szMd (1000000 - acts.length) a b c d=m:=⟨_,rfl⟩
 rw [em]
 conv=>whnf
 refine Br.mk (fun h=>?_) (fun h=>?_)
 ·conv=>whnf
  exact ⟨rfl,trivial,rfl⟩
 ·have h:0≤m:=by simpa using h
  have hi:=szMd_in (em▸h) (by omega)
  have hl:acts.length≤1000000:=by
   rw [←em] at h
   unfold szMd at h
   split at h
   ·omega
   ·omega
  have cs:=fn_sTurnedAway r a b c d hi acts
  have ci:=fn_TurnedAway r a b c d hi acts
  generalize toldO ((actQ r a b c d acts).map fun m=>awayQ m (acts.getD · false))=r0 at cs ci
  obtain ⟨r1,r2⟩:=r0
  replace cs:Fn Tryz.prog 35 [mdI r a b c d,lBo acts] [] (.tup [Str r1,B r2]) []:=cs
  replace ci:Fn Tryz.prog 36 [mdI r a b c d,lBo acts] [] (.tup [Str r1,B r2]) []:=ci
  have ct:=fn_toBo acts false (.inl rfl) hl
  have cx:=fn_intactBo acts hl
  clear c0 em
  conv=>whnf
  refine VCall.of_data cm (ndA fun k=>rfl) ?_
  conv=>whnf
  refine VCall.of_data (fn_toBod acts false hl) (nd _) ?_
  conv=>whnf
  refine VCall.of_data cs (ndT fun _=>rfl) ?_
  conv=>whnf
  refine VCall.of_fn (k:=30) ct namesBo rfl ?_
  conv=>whnf
  refine VCall.of_data cm (ndA fun k=>rfl) ?_
  conv=>whnf
  refine VCall.lend ci ⟨⟨rfl,rfl,rfl,rfl,rfl,trivial⟩,lend_roomBo rfl,trivial⟩ rfl ?_
  conv=>whnf
  rw [show ((⟨r1.toArray⟩:ByteArray).toList == (⟨r1.toArray⟩:ByteArray).toList)=true by simp]
  conv=>whnf
  rw [show (r2 == r2)=true by simp]
  conv=>whnf
  refine VCall.of_fn (k:=48) ct namesBo rfl ?_
  conv=>whnf
  refine VCall.parN [(1000000,30),(1000001,48)] cx ⟨⟨rfl,rfl,rfl,rfl⟩,⟨rfl,rfl,rfl,rfl⟩,trivial⟩ ⟨⟨rfl,rfl⟩,⟨rfl,rfl⟩,trivial⟩ rfl rfl rfl rfl ?_
  conv=>whnf
  refine VCall.of_data cm (ndA fun k=>rfl) ?_
  conv=>whnf
  refine VCall.of_data (fn_toBod acts true hl) (nd _) ?_
  conv=>whnf
  refine VCall.of_data ci (ndT fun _=>rfl) ?_
  conv=>whnf
  rw [show ((⟨r1.toArray⟩:ByteArray).toList == (⟨r1.toArray⟩:ByteArray).toList)=true by simp]
  conv=>whnf
  rw [show (r2 == r2)=true by simp]
  conv=>whnf
  exact ⟨rfl,trivial,rfl⟩
theorem law_meanLine (r:Int) (a b c d:List UInt8) (acts:List Bool) (ha:a.length < 2 ^ 47) (hb:b.length < 2 ^ 47) (hc:c.length < 2 ^ 47) (hd:d.length < 2 ^ 47) (hx:acts.length < 2 ^ 47):Fn Tryz.prog 10 [mdI r a b c d,lBo acts] [] (B true) []:=by
 have hz:((cBo acts).length:Int)=acts.length:=by rw [cBo_len]
 have c0:=fn_szModel r a b c d (1000000 - acts.length) ha hb hc hd (by omega) (by omega)
 have cm:=fn_toModel r a b c d
 refine Fn.intro (ks:=[0,1,2,4,5,6,7,8,9,10,11,12,20,45,50,66]) hty rfl rfl rfl rfl rfl ?_
 conv=>whnf
 rw [hz]
 refine Wr.i64 (y:=1000000 - (acts.length:Int)) rfl (by omega) (by omega) ?_
 conv=>whnf
 refine VCall.of_data c0 (nd _) ?_
 obtain ⟨m,em⟩:∃m,szMd (1000000 - acts.length) a b c d=m:=⟨_,rfl⟩
 rw [em]
 conv=>whnf
 refine Br.mk (fun h=>?_) (fun h=>?_)
 ·conv=>whnf
  exact ⟨rfl,trivial,rfl⟩
 ·have h:0≤m:=by simpa using h
  have hi:=szMd_in (em▸h) (by omega)
  have hl:acts.length≤1000000:=by
   rw [←em] at h
   unfold szMd at h
   split at h
   ·omega
   ·omega
  have cs:=fn_sMeanLine r a b c d hi acts
  have ci:=fn_MeanLine r a b c d hi acts
  generalize toldO ((actQ r a b c d acts).map fun m=>momS (polU m (acts.getD · false)))=r0 at cs ci
  obtain ⟨r1,r2⟩:=r0
  replace cs:Fn Tryz.prog 39 [mdI r a b c d,lBo acts] [] (.tup [Str r1,B r2]) []:=cs
  replace ci:Fn Tryz.prog 40 [mdI r a b c d,lBo acts] [] (.tup [Str r1,B r2]) []:=ci
  have ct:=fn_toBo acts false (.inl rfl) hl
  have cx:=fn_intactBo acts hl
  clear c0 em
  conv=>whnf
  refine VCall.of_data cm (ndA fun k=>rfl) ?_
  conv=>whnf
  refine VCall.of_data (fn_toBod acts false hl) (nd _) ?_
  conv=>whnf
  refine VCall.of_data cs (ndT fun _=>rfl) ?_
  conv=>whnf
  refine VCall.of_fn (k:=30) ct namesBo rfl ?_
  conv=>whnf
  refine VCall.of_data cm (ndA fun k=>rfl) ?_
  conv=>whnf
  refine VCall.lend ci ⟨⟨rfl,rfl,rfl,rfl,rfl,trivial⟩,lend_roomBo rfl,trivial⟩ rfl ?_
  conv=>whnf
  rw [show ((⟨r1.toArray⟩:ByteArray).toList == (⟨r1.toArray⟩:ByteArray).toList)=true by simp]
  conv=>whnf
  rw [show (r2 == r2)=true by simp]
  conv=>whnf
  refine VCall.of_fn (k:=48) ct namesBo rfl ?_
  conv=>whnf
  refine VCall.parN [(1000000,30),(1000001,48)] cx ⟨⟨rfl,rfl,rfl,rfl⟩,⟨rfl,rfl,rfl,rfl⟩,trivial⟩ ⟨⟨rfl,rfl⟩,⟨rfl,rfl⟩,trivial⟩ rfl rfl rfl rfl ?_
  conv=>whnf
  refine VCall.of_data cm (ndA fun k=>rfl) ?_
  conv=>whnf
  refine VCall.of_data (fn_toBod acts true hl) (nd _) ?_
  conv=>whnf
  refine VCall.of_data ci (ndT fun _=>rfl) ?_
  conv=>whnf
  rw [show ((⟨r1.toArray⟩:ByteArray).toList == (⟨r1.toArray⟩:ByteArray).toList)=true by simp]
  conv=>whnf
  rw [show (r2 == r2)=true by simp]
  conv=>whnf
  exact ⟨rfl,trivial,rfl⟩
end Go.V
