/- Part 9: the abstract machine, its soundness, contracts of functions. -/
import Derived.Test.YtnohbinebhhlpaaGreatDoorK8
import Derived.Test.YtnohbinebhhlpaaGreatDoorK7
set_option linter.unusedVariables false
set_option linter.unusedSimpArgs false
namespace Go.V
open Go.Proofs Go.RowKit
set_option maxRecDepth 10000
set_option maxHeartbeats 16000000
def ixW (p:List Nat) (w:Nat):List MC:=p.map fun i=>.r i 0 w
theorem ixW_len (p:List Nat) (w:Nat):(ixW p w).length=p.length:=by simp [ixW]
theorem ixW_at {p:List Nat} {w i:Nat} (h:i < p.length):(ixW p w)[i]? = some (.r (p.getD i 0) 0 w):=by
 rw [List.getD_eq_getElem?_getD,List.getElem?_eq_getElem h];simp [ixW,h]
theorem ixW_set (p:List Nat) (w i x:Nat):(ixW p w).set i (.r x 0 w)=ixW (p.set i x) w:=by unfold ixW;rw [List.map_set]
abbrev mW (p:List Nat) (R:Mt) (w:Nat):Ob:=.mat 3 (ixW p w) (cRS R)
theorem fn_sSwap (n w i k:Nat) (p:List Nat) (R:Mt) (hp:p.length=n) (hn:n≤1000000) (hi:i < n) (hk:k < n):Fn Tryz.prog 193 [.ls 1000000 0 n 1,I i,I k] [(1000000,mW p R w)] (.tup []) [(1000000,mW (swapL 0 p i k) R w)]:=by
 have xi:=ixW_at (w:=w) (show i < p.length by omega)
 have xk:=ixW_at (w:=w) (show k < p.length by omega)
 refine Fn.intro (ks:=[0,1,2,6]) hty rfl rfl rfl rfl rfl ?_
 conv=>whnf
 refine ⟨by omega,?_⟩
 conv=>whnf
 refine ⟨_,xi,?_⟩
 conv=>whnf
 refine ⟨by omega,?_⟩
 conv=>whnf
 refine ⟨_,xk,?_⟩
 conv=>whnf
 refine ⟨by omega,?_⟩
 conv=>whnf
 refine ⟨by rw [ixW_len,hp];show i+0 < n;omega,?_⟩
 conv=>whnf
 refine ⟨by omega,?_⟩
 conv=>whnf
 refine ⟨by rw [List.length_set,ixW_len,hp];show k+0 < n;omega,?_⟩
 conv=>whnf
 refine ⟨⟨?_,trivial⟩,rfl⟩
 show Ob.mat 3 (((ixW p w).set i (MC.r (p.getD k 0) 0 w)).set k (MC.r (p.getD i 0) 0 w)) (cRS R)=_
 rw [ixW_set,ixW_set];rfl
theorem VCall.par1w {P:Program} {t:TL} {l:LL} {f:FuncId} {xs xs0:List AV} {sz sz':Nat} {ix ix':List MC} {rows rows':List (List (List C))} {dst:Option Nat} {K:AV→TL→LL→Prop} (a:Nat)
  (h:Fn P f xs0 [(1000000,.mat sz ix rows)] (.tup []) [(1000000,.mat sz' ix' rows')]) (ha:argR (pmap [(1000000,a)]) xs xs0) (hl:lget a l = .mat sz ix rows)
  (hK:K (.tup []) t ((a,.mat sz' ix' rows') :: l)):VCall P f xs dst t l K :=
 VCall.of_fnR (k:=0) (pmap [(1000000,a)]) h ha ⟨⟨hl,fun p h=>absurd rfl h⟩,trivial⟩ rfl (keepRows rfl rfl) (fun _ h=>by cases h) rfl hK
theorem set_same {R:Mt} {k:Nat} {a:List Rat} (h:k < R.length) (e:R.getD k []=a):R.set k a=R:=by
 rw [←e,List.getD_eq_getElem?_getD,List.getElem?_eq_getElem h];exact List.set_getElem_self h
theorem cRS_atp {p:List Nat} {R:Mt} {n w r:Nat} (h:Plc n w p R) (hr:r < n):(cRS R)[p.getD r 0]? = some (cS (lg p R r)):=cRS_at (by rw [h.rl];exact h.lt r hr) rfl
theorem fn_sSolve (n t:Nat) (p0:List Nat) (R0:Mt) (A:Fm) (h0:Gj n t A p0 R0 0) (hA:Inj n A) (h1:1≤n) (hn:n≤12) (ht:t≤120000) :
  Fn Tryz.prog 147 [.ls 1000000 0 n 1] [(1000000,mW p0 R0 (n+1))] (.tup [.ls 0 0 n 3,B true]) [(0,.row true 3 (cS (gjX n (p0,R0)))),(1000000,mW (gjN n skJ (p0,R0) n).1 (gjN n skJ (p0,R0) n).2 (n+1))]:=by
 have hG:=fun i hi=>gjN_ok (s:=(p0,R0)) h0 hA i hi
 have hT:∀i,i≤n→2 ^ i*t≤500000000:=fun i hi=>by
  have:2 ^ i*t≤2 ^ 12*120000:=Nat.mul_le_mul (Nat.pow_le_pow_right (by decide) (by omega)) ht
  omega
 have eX:=@gjX_at n (p0,R0)
 have eXl:=gjX_len n (p0,R0)
 obtain ⟨X,eXX⟩:∃X,gjX n (p0,R0)=X:=⟨_,rfl⟩
 rw [eXX] at eXl ⊢
 have eX:∀i,i < n→X.getD i 0=lgF (gjN n skJ (p0,R0) n).1 (gjN n skJ (p0,R0) n).2 i n / lgF (gjN n skJ (p0,R0) n).1 (gjN n skJ (p0,R0) n).2 i i:=fun i hi=>by rw [←eXX];exact eX hi
 have hnx:∀i,gjN n skJ (p0,R0) (i+1)=(swapL 0 (gjN n skJ (p0,R0) i).1 i (pivF (lgF (gjN n skJ (p0,R0) i).1 (gjN n skJ (p0,R0) i).2) i (n - i) i),elimR (swapL 0 (gjN n skJ (p0,R0) i).1 i (pivF (lgF (gjN n skJ (p0,R0) i).1 (gjN n skJ (p0,R0) i).2) i (n - i) i)) i (skJ i) n (gjN n skJ (p0,R0) i).2):=fun i=>rfl
 obtain ⟨N,eN⟩:∃N:Nat→List Nat×Mt,N=gjN n skJ (p0,R0):=⟨_,rfl⟩
 have hN0:N 0=(p0,R0):=by rw [eN];rfl
 rw [←eN] at hG hnx eX ⊢
 clear eN eXX
 refine Fn.intro (ks:=[0,2,3,4,5,6,7,8,9,10,11,16,32,37,44,59,78,107]) hty rfl rfl rfl rfl rfl ?_
 conv=>whnf
 refine VLoop.inv hty (S:=Nat) (fun i=>[(5,I i),(4,I n),(0,.ls 1000000 0 n 1)]) (fun i=>[(1000000,mW (N i).1 (N i).2 (n+1))]) (fun i=>i≤n) (fun i=>n - i) 0 (Nat.zero_le _) ⟨rfl,rfl,rfl,trivial⟩ ⟨by rw [hN0];rfl,trivial⟩ ?_
 intro i hi
 conv=>whnf
 refine Br.mk (fun h=>?_) (fun h=>?_)
 ·have h:i < n:=by simp only [decide_eq_true_eq] at h;omega
  have hGi:=hG i hi
  have hGn:=hG (i+1) h
  have enx:=hnx i
  have hTi:=hT i hi
  obtain ⟨T,eT⟩:∃T,2 ^ i*t=T:=⟨_,rfl⟩
  have hrow:=hGi.row
  rw [eT] at hTi hrow
  obtain ⟨g1,g2,g3⟩:=hGi.piv hA h
  have hplc:=hGi.pl
  generalize N i=s at hGi enx hrow g1 g2 g3 hplc ⊢
  obtain ⟨p,R⟩:=s
  dsimp only at hGi enx hrow g1 g2 g3 hplc ⊢
  have hpl:=hplc.pl
  obtain ⟨kp,ekp⟩:∃kp,pivF (lgF p R) i (n - i) i=kp:=⟨_,rfl⟩
  rw [ekp] at g1 g2 g3 enx
  have hsz:∀q j,q < n→j≤n→sz (lgF p R q j) < T:=fun q j hq hj=>(hrow q hq).sz (getD_mem (by rw [hplc.wd q hq];omega))
  conv=>whnf
  refine VLoop.inv hty (S:=Nat) (fun k=>[(6,I k),(5,I i),(4,I n),(0,.ls 1000000 0 n 1)]) (fun _=>[(1000000,mW p R (n+1))]) (fun k=>k≤n∧pivF (lgF p R) i (n - k) k=kp) (fun k=>n - k) i ⟨hi,ekp⟩ ⟨rfl,rfl,rfl,rfl,trivial⟩ ⟨rfl,trivial⟩ ?_
  rintro k ⟨hk,hkp⟩
  have hkn:k < n:=by
   rcases Nat.lt_or_eq_of_le hk with e | e
   ·exact e
   ·rw [e,Nat.sub_self] at hkp
    have:n=kp:=hkp
    omega
  rw [pivF_next hkn] at hkp
  have hwk:=hplc.wd k hkn
  have c1:=fn_sZero (lgF p R k i) (by have:=hsz k i hkn (by omega);omega)
  conv=>whnf
  rw [decide_eq_true (show (k:Int) < (n:Int) by omega)]
  conv=>whnf
  refine ⟨by omega,?_⟩
  conv=>whnf
  refine ⟨_,ixW_at (w:=n+1) (i:=k) (by rw [hpl];omega),?_⟩
  conv=>whnf
  refine ⟨by omega,?_⟩
  conv=>whnf
  refine ⟨_,cRS_atp hplc hkn,?_⟩
  conv=>whnf
  refine ⟨_,cS_as (x:=lgF p R k i) (i:=i) (by omega) rfl,?_⟩
  conv=>whnf
  refine VCall.of_data c1 (nd _) ?_
  conv=>whnf
  by_cases hz:lgF p R k i=0
  ·rw [if_pos hz] at hkp
   rw [decide_eq_true hz]
   conv=>whnf
   refine Wr.i64 (y:=((k+1:Nat):Int)) rfl (by omega) (by omega) ?_
   conv=>whnf
   exact ⟨k+1,⟨hkn,hkp⟩,by show n - (k+1) < n - k;omega,⟨rfl,rfl,rfl,rfl,trivial⟩,rfl,trivial⟩
  rw [if_neg hz] at hkp
  subst hkp
  rw [decide_eq_false hz]
  conv=>whnf
  rw [decide_eq_false (show ¬(k:Int)=(n:Int) by omega)]
  conv=>whnf
  have hps:=hplc.swap h hkn
  have elgs:=fun q=>lg_swap hplc h hkn q
  have hgjn:=hGi.next h g1 hkn g3
  have csw:=fn_sSwap n (n+1) i k p R hpl (by omega) h hkn
  obtain ⟨p2,ep2⟩:∃p2,swapL 0 p i k=p2:=⟨_,rfl⟩
  rw [ep2] at hps elgs enx csw hgjn
  refine VCall.par1w 1000000 csw ⟨⟨rfl,rfl,rfl,rfl⟩,rfl,rfl,trivial⟩ rfl ?_
  conv=>whnf
  have hpl:=hps.pl
  have hszs:∀q j,q < n→j≤n→sz ((lg p2 R q).getD j 0) < T:=fun q j hq hj=>by rw [elgs];exact hsz _ j (swF_lt h hkn hq) hj
  have hdia:(lg p2 R i).getD i 0≠0:=by
   rw [elgs]
   have esw:swF i k i=k:=by unfold swF;by_cases e:i=k;rw [if_pos e];exact e;rw [if_neg e,if_pos rfl]
   rw [esw];exact g3
  have hel:=fun r hr=>elimR_is (sk:=skJ i) hps h (decide_eq_true rfl) r hr
  refine VLoop.inv hty (S:=Nat) (fun r=>[(7,I r),(5,I i),(4,I n),(0,.ls 1000000 0 n 1)]) (fun r=>[(1000000,mW p2 (elimR p2 i (skJ i) r R) (n+1))]) (fun r=>r≤n) (fun r=>n - r) 0 (Nat.zero_le _) ⟨rfl,rfl,rfl,rfl,trivial⟩ ⟨rfl,trivial⟩ ?_
  intro r hr
  conv=>whnf
  refine Br.mk (fun h2=>?_) (fun h2=>?_)
  ·have h2:r < n:=by simp only [decide_eq_true_eq] at h2;omega
   obtain ⟨q1,q2⟩:=hel r hr
   have e1:elimR p2 i (skJ i) (r+1) R=(elimR p2 i (skJ i) r R).set (p2.getD r 0) (elRow i (skJ i) (lg p2 (elimR p2 i (skJ i) r R) i) (lg p2 (elimR p2 i (skJ i) r R) r) r):=rfl
   have e2:lg p2 (elimR p2 i (skJ i) r R) r=lg p2 R r:=by rw [q2 r h2,if_neg (Nat.lt_irrefl r)]
   have e3:lg p2 (elimR p2 i (skJ i) r R) i=lg p2 R i:=by
    rw [q2 i h]
    split
    ·unfold elRow;rw [if_pos (.inl (decide_eq_true rfl))]
    ·rfl
   rw [e2,e3] at e1
   have hlt:=hps.lt r h2
   have s1:=hszs r i h2 (by omega)
   have s2:=hszs i i h (by omega)
   have al:=hps.wd r h2
   have bl:=hps.wd i h
   obtain ⟨a,ea⟩:∃a,lg p2 R r=a:=⟨_,rfl⟩
   obtain ⟨b,eb⟩:∃b,lg p2 R i=b:=⟨_,rfl⟩
   have hsa:∀j,j≤n→sz (a.getD j 0) < T:=fun j hj=>by rw [←ea];exact hszs r j h2 hj
   have hsb:∀j,j≤n→sz (b.getD j 0) < T:=fun j hj=>by rw [←eb];exact hszs i j h hj
   rw [ea] at e1 e2 s1 al
   rw [eb] at e1 e3 s2 bl hdia
   obtain ⟨Z,eZ⟩:∃Z,elimR p2 i (skJ i) r R=Z:=⟨_,rfl⟩
   rw [eZ] at q1 e1 e2 e3 ⊢
   have ya:=cRS_atp q1 h2
   have yb:=cRS_atp q1 h
   rw [e2] at ya
   rw [e3] at yb
   have hZl:=q1.rl
   conv=>whnf
   by_cases hri:r=i
   ·have e4:elimR p2 i (skJ i) (r+1) R=Z:=by
     rw [e1];unfold elRow;rw [if_pos (.inl (decide_eq_true hri))];exact set_same (by omega) e2
    rw [decide_eq_true (show (r:Int)=(i:Int) by omega)]
    conv=>whnf
    refine Wr.i64 (y:=((r+1:Nat):Int)) rfl (by omega) (by omega) ?_
    conv=>whnf
    refine ⟨r+1,h2,by show n - (r+1) < n - r;omega,⟨rfl,rfl,rfl,rfl,trivial⟩,?_,trivial⟩
    rw [e4];rfl
   rw [decide_eq_false (show ¬(r:Int)=(i:Int) by omega)]
   conv=>whnf
   refine ⟨by omega,?_⟩
   conv=>whnf
   refine ⟨_,ixW_at (w:=n+1) (i:=r) (by rw [hpl];omega),?_⟩
   conv=>whnf
   refine ⟨by omega,?_⟩
   conv=>whnf
   refine ⟨_,ya,?_⟩
   conv=>whnf
   refine ⟨_,cS_as (x:=a.getD i 0) (i:=i) (by omega) rfl,?_⟩
   conv=>whnf
   have k1:=fn_sZero (a.getD i 0) (by omega)
   refine VCall.of_data k1 (nd _) ?_
   conv=>whnf
   by_cases hz0:a.getD i 0=0
   ·have e4:elimR p2 i (skJ i) (r+1) R=Z:=by
     rw [e1];unfold elRow;rw [if_pos (.inr hz0)];exact set_same (by omega) e2
    rw [decide_eq_true hz0]
    conv=>whnf
    refine Wr.i64 (y:=((r+1:Nat):Int)) rfl (by omega) (by omega) ?_
    conv=>whnf
    refine ⟨r+1,h2,by show n - (r+1) < n - r;omega,⟨rfl,rfl,rfl,rfl,trivial⟩,?_,trivial⟩
    rw [e4];rfl
   have e4:elimR p2 i (skJ i) (r+1) R=Z.set (p2.getD r 0) (subRow i (n+1) (a.getD i 0 / b.getD i 0) b a):=by
    rw [e1];unfold elRow;rw [if_neg (by rintro (e | e);exact hri (of_decide_eq_true e);exact hz0 e),al]
   have k2:=fn_sOver (a.getD i 0) (b.getD i 0) (by omega) hdia
   have sf:=sz_div (a.getD i 0) hdia
   obtain ⟨f,ef⟩:∃f,a.getD i 0 / b.getD i 0=f:=⟨_,rfl⟩
   rw [ef] at k2 e4 sf
   rw [decide_eq_false hz0]
   conv=>whnf
   refine VDraw.go hmo hty 16 [[8],[8],[8],[8],[8],[8],[8],[8],[8],[8],[8],[8],[8],[8],[8],[]] rfl ?_
   conv=>whnf
   refine ⟨by omega,?_⟩
   conv=>whnf
   refine ⟨_,ixW_at (w:=n+1) (i:=r) (by rw [hpl];omega),?_⟩
   conv=>whnf
   refine ⟨by omega,?_⟩
   conv=>whnf
   refine ⟨_,ya,?_⟩
   conv=>whnf
   refine ⟨_,cS_as (x:=a.getD i 0) (i:=i) (by omega) rfl,?_⟩
   conv=>whnf
   refine ⟨by omega,?_⟩
   conv=>whnf
   refine ⟨_,ixW_at (w:=n+1) (i:=i) (by rw [hpl];omega),?_⟩
   conv=>whnf
   refine ⟨by omega,?_⟩
   conv=>whnf
   refine ⟨_,yb,?_⟩
   conv=>whnf
   refine ⟨_,cS_as (x:=b.getD i 0) (i:=i) (by omega) rfl,?_⟩
   conv=>whnf
   refine QCall.of_data k2 (ndA fun k=>rfl) ?_
   conv=>whnf
   refine VLoop.inv hty (S:=Nat) (fun j=>[(9,I j),(8,.lp 8 0),(7,I r),(5,I i),(4,I n),(0,.ls 1000000 0 n 1)]) (fun j=>[(8,.box true [B (ng f),nS (tp f),nS f.den]),(1000000,mW p2 (Z.set (p2.getD r 0) (subRow i j f b a)) (n+1))]) (fun j=>i≤j∧j≤n+1) (fun j=>n+1 - j) i ⟨Nat.le_refl _,by omega⟩ ⟨rfl,rfl,rfl,rfl,rfl,rfl,trivial⟩ ⟨rfl,?_,trivial⟩ ?_
   ·rw [subRow_none,set_same (by omega) e2];rfl
   rintro j ⟨hij,hj⟩
   conv=>whnf
   refine Br.mk (fun h3=>?_) (fun h3=>?_)
   ·have h3:j≤n:=by simp only [decide_eq_true_eq] at h3;omega
    have q3:=q1.set (x:=subRow i j f b a) h2 (by rw [subRow_len,al])
    have yj:=cRS_atp q3 h2
    rw [lg_set q1 h2 h2,if_pos rfl] at yj
    have yi:=cRS_atp q3 h
    rw [lg_set q1 h2 h,if_neg (Ne.symm hri),e3] at yi
    have hjl:(subRow i j f b a).length=n+1:=by rw [subRow_len,al]
    have vj:(subRow i j f b a).getD j 0=a.getD j 0:=by rw [subRow_at (by omega),if_neg (by omega)]
    have hnj:=subRow_next (f:=f) (b:=b) (a:=a) (c:=i) (m:=j) hij (by omega)
    have t1:=hsa j h3
    have t2:=hsb j h3
    have t3:=sz_mul f (b.getD j 0)
    have k3:=fn_sTimes f (b.getD j 0) (by omega)
    have k4:=fn_sMinus (a.getD j 0) (f*b.getD j 0) (by omega)
    have hZs:(Z.set (p2.getD r 0) (subRow i j f b a)).length=n:=by rw [List.length_set,hZl]
    obtain ⟨rj,erj⟩:∃rj,subRow i j f b a=rj:=⟨_,rfl⟩
    rw [erj] at yj yi hjl vj hnj hZs ⊢
    conv=>whnf
    refine VDraw.go hmo hty 23 [] rfl ?_
    conv=>whnf
    refine ⟨by omega,?_⟩
    conv=>whnf
    refine ⟨_,ixW_at (w:=n+1) (i:=r) (by rw [hpl];omega),?_⟩
    conv=>whnf
    refine ⟨by omega,?_⟩
    conv=>whnf
    refine ⟨_,ixW_at (w:=n+1) (i:=r) (by rw [hpl];omega),?_⟩
    conv=>whnf
    refine ⟨by omega,?_⟩
    conv=>whnf
    refine ⟨_,yj,?_⟩
    conv=>whnf
    refine ⟨_,cS_as (x:=a.getD j 0) (i:=j) (by omega) vj,?_⟩
    conv=>whnf
    refine ⟨by omega,?_⟩
    conv=>whnf
    refine ⟨_,ixW_at (w:=n+1) (i:=i) (by rw [hpl];omega),?_⟩
    conv=>whnf
    refine ⟨by omega,?_⟩
    conv=>whnf
    refine ⟨_,yi,?_⟩
    conv=>whnf
    refine ⟨_,cS_as (x:=b.getD j 0) (i:=j) (by omega) rfl,?_⟩
    conv=>whnf
    refine QCall.of_data k3 (ndA fun k=>rfl) ?_
    conv=>whnf
    refine QCall.of_data k4 (ndA fun k=>rfl) ?_
    conv=>whnf
    refine ⟨by omega,?_⟩
    conv=>whnf
    refine ⟨_,yj,?_⟩
    conv=>whnf
    refine ⟨by rw [cS_len,hjl];show j+0 < n+1;omega,?_⟩
    conv=>whnf
    refine Wr.i64 (y:=((j+1:Nat):Int)) rfl (by omega) (by omega) ?_
    conv=>whnf
    refine ⟨j+1,⟨by omega,by omega⟩,by show n+1 - (j+1) < n+1 - j;omega,⟨rfl,rfl,rfl,rfl,rfl,rfl,trivial⟩,rfl,?_,trivial⟩
    show Ob.mat 3 (ixW p2 (n+1)) ((cRS (Z.set (p2.getD r 0) rj)).set (p2.getD r 0) ((cS rj).set j (c1S (a.getD j 0 - f*b.getD j 0))))=mW p2 _ (n+1)
    rw [cS_set,hnj,cRS_set,List.set_set]
   ·have h3:j=n+1:=by simp only [decide_eq_false_iff_not] at h3;omega
    rw [h3,←e4]
    conv=>whnf
    refine Wr.i64 (y:=((r+1:Nat):Int)) rfl (by omega) (by omega) ?_
    conv=>whnf
    exact ⟨r+1,h2,by show n - (r+1) < n - r;omega,⟨rfl,rfl,rfl,rfl,trivial⟩,rfl,trivial⟩
  ·have h2:r=n:=by simp only [decide_eq_false_iff_not] at h2;omega
   rw [h2]
   conv=>whnf
   refine Wr.i64 (y:=((i+1:Nat):Int)) rfl (by omega) (by omega) ?_
   conv=>whnf
   refine ⟨i+1,h,by show n - (i+1) < n - i;omega,⟨rfl,rfl,rfl,trivial⟩,?_,trivial⟩
   rw [enx];rfl
 ·have h:i=n:=by simp only [decide_eq_false_iff_not] at h;omega
  have hGn:=hG n (Nat.le_refl _)
  have hTn:=hT n (Nat.le_refl _)
  obtain ⟨T,eT⟩:∃T,2 ^ n*t=T:=⟨_,rfl⟩
  have hrow:=hGn.row
  rw [eT] at hTn hrow
  have hdi:=hGn.dia
  rw [h]
  have hplc:=hGn.pl
  generalize N n=s at hrow hdi hplc eX ⊢
  obtain ⟨p,R⟩:=s
  dsimp only at hrow hdi hplc eX ⊢
  have hpl:=hplc.pl
  conv=>whnf
  refine VLoop.ren 104 127 rfl ?_
  refine VLoop.inv hty (S:=Nat) (fun i=>[(11,I i),(10,.ls 127 0 i 3),(4,I n),(0,.ls 1000000 0 n 1)]) (fun i=>[(127,.row true 3 (cS (X.take i))),(1000000,mW p R (n+1))]) (fun i=>i≤n) (fun i=>n - i) 0 (Nat.zero_le _) ⟨rfl,rfl,rfl,rfl,trivial⟩ ⟨rfl,rfl,trivial⟩ ?_
  intro i hi
  conv=>whnf
  refine Br.mk (fun h2=>?_) (fun h2=>?_)
  ·have h2:i < n:=by simp only [decide_eq_true_eq] at h2;omega
   have hw:=hplc.wd i h2
   have ya:=cRS_atp hplc h2
   have s1:sz (lgF p R i n) < T:=(hrow i h2).sz (getD_mem (by omega))
   have s2:sz (lgF p R i i) < T:=(hrow i h2).sz (getD_mem (by omega))
   have k1:=fn_sOver (lgF p R i n) (lgF p R i i) (by omega) (hdi i h2).1
   have htk:X.take (i+1)=X.take i++[lgF p R i n / lgF p R i i]:=by
    rw [List.take_succ_eq_append_getElem (by omega),←eX i h2,List.getD_eq_getElem?_getD,List.getElem?_eq_getElem (by omega)];rfl
   obtain ⟨x,ex⟩:∃x,lgF p R i n / lgF p R i i=x:=⟨_,rfl⟩
   rw [ex] at k1 htk
   have hkl:(X.take i).length=i:=by rw [List.length_take];omega
   obtain ⟨F,eF⟩:∃F,X.take i=F:=⟨_,rfl⟩
   rw [eF] at htk hkl ⊢
   conv=>whnf
   refine VDraw.go hmo hty 17 [[126],[126],[126],[126],[126],[126],[126],[126],[126],[126],[126],[126],[126],[126],[126],[126],[]] rfl ?_
   conv=>whnf
   refine ⟨by omega,?_⟩
   conv=>whnf
   refine ⟨_,ixW_at (w:=n+1) (i:=i) (by rw [hpl];omega),?_⟩
   conv=>whnf
   refine ⟨by omega,?_⟩
   conv=>whnf
   refine ⟨_,ya,?_⟩
   conv=>whnf
   refine ⟨_,cS_as (x:=lgF p R i n) (i:=n) (by omega) rfl,?_⟩
   conv=>whnf
   refine ⟨by omega,?_⟩
   conv=>whnf
   refine ⟨_,ixW_at (w:=n+1) (i:=i) (by rw [hpl];omega),?_⟩
   conv=>whnf
   refine ⟨by omega,?_⟩
   conv=>whnf
   refine ⟨_,ya,?_⟩
   conv=>whnf
   refine ⟨_,cS_as (x:=lgF p R i i) (i:=i) (by omega) rfl,?_⟩
   conv=>whnf
   refine QCall.of_data k1 (ndA fun k=>rfl) ?_
   conv=>whnf
   refine Sub.full rfl ?_
   conv=>whnf
   refine Sub.full (by rw [cS_len,hkl]) ?_
   conv=>whnf
   refine ⟨by show (i+1)*56≤_;omega,?_⟩
   conv=>whnf
   refine Wr.i64 (y:=((i+1:Nat):Int)) rfl (by omega) (by omega) ?_
   conv=>whnf
   refine ⟨i+1,h2,by show n - (i+1) < n - i;omega,⟨rfl,rfl,rfl,rfl,trivial⟩,?_,rfl,trivial⟩
   rw [htk,←cS_ap1];rfl
  ·have h2:i=n:=by simp only [decide_eq_false_iff_not] at h2;omega
   rw [h2,List.take_of_length_le (by omega)]
   conv=>whnf
   exact ⟨⟨rfl,rfl,rfl,rfl,rfl,rfl⟩,_,rfl,rfl,⟨rfl,trivial⟩,rfl⟩
end Go.V
namespace Go.V
open Go.Proofs Go.RowKit
set_option maxRecDepth 10000
set_option maxHeartbeats 16000000
theorem VCall.par1n {P:Program} {t:TL} {l:LL} {f:FuncId} {xs xs0:List AV} {sz sz' n s2:Nat} {ix ix':List MC} {rows rows':List (List (List C))} {r2:List (List C)} {dst:Option Nat} {K:AV→TL→LL→Prop} (a k:Nat)
  (h:Fn P f xs0 [(1000000,.mat sz ix rows)] (.tup [.ls 0 0 n s2,B true]) [(0,.row true s2 r2),(1000000,.mat sz' ix' rows')]) (ha:argR (pmap [(1000000,a)]) xs xs0) (hl:lget a l = .mat sz ix rows)
  (hf:freshR (pmap [(1000000,a)]) k t l [(1000000,.mat sz ix rows)] [(0,.row true s2 r2),(1000000,.mat sz' ix' rows')]=true)
  (hK:K (.tup [.ls k 0 n s2,B true]) t ((k,.row true s2 r2) :: (a,.mat sz' ix' rows') :: l)):VCall P f xs dst t l K :=
 VCall.of_fnR (k:=k) (pmap [(1000000,a)]) h ha ⟨⟨hl,fun p h=>absurd rfl h⟩,trivial⟩ rfl (fun p hp=>by
  by_cases e:p=1000000
  ·subst e;intro h2;cases h2
  ·exfalso;apply hp
   rw [lget_cons,if_neg e];rfl) (fun j hj=>by
  have h1:(AV.ment j (.tup [.ls 0 0 n s2,B true]))=(Nat.beq 0 j || (false || false)):=rfl
  rw [h1] at hj
  have:0=j:=Nat.eq_of_beq_eq_true (by simpa using hj)
  subst this;intro h2;cases h2) hf (by
  have e1:AV.ren (ret (pmap [(1000000,a)]) k) (.tup [.ls 0 0 n s2,B true]) = .tup [.ls k 0 n s2,B true]:=by
   show AV.tup [.ls (ret (pmap [(1000000,a)]) k 0) 0 n s2,B true]=_
   rfl
  rw [e1]
  have e2:retL (pmap [(1000000,a)]) k [(0,.row true s2 r2),(1000000,.mat sz' ix' rows')]=[(k,.row true s2 r2),(a,.mat sz' ix' rows')]:=rfl
  rw [e2];exact hK)
def sysU (p:Mt) (j:Nat):Mt:=(List.range j).map fun j=>(List.range (p.length+1)).map (entS p j)
theorem sysU_len (p:Mt) (j:Nat):(sysU p j).length=j:=by simp [sysU]
theorem sysU_next (p:Mt) (j:Nat):cRS (sysU p (j+1))=cRS (sysU p j)++[cS ((List.range (p.length+1)).map (entS p j))]:=by
 unfold sysU cRS;rw [show List.range (j+1)=List.range j++[j] from List.range_succ,List.map_append,List.map_append];rfl
theorem mapR_next {α:Type} (f:Nat→α) (i:Nat):(List.range (i+1)).map f=(List.range i).map f++[f i]:=by rw [List.range_succ,List.map_append];rfl
theorem fn_sRest (p:Mt) (t s:Nat) (hp:MtR p t) (ht:t≤9700) (hs:s < p.length) (hc:Cl p.length (ent p) s):Fn Tryz.prog 102 [mP p] [] (.tup [lS (restQ p s),B true]) []:=by
 have hz:((cMS p).length:Int)=p.length:=by rw [cMS_len]
 have n1:=hp.n1
 have n2:=hp.n2
 obtain ⟨c,hset,_⟩:=cls_one (n:=p.length) (s:=s) (r:=rb p.length (ent p)) (fun j _=>rb_self) (fun j k l _ _ _ h1 h2=>rb_trans h1 h2) hs (fun i hi=>rb_iff.2 (hc.rc i hi))
 have c1:=fn_sClasses p t hp (by omega)
 rw [hset] at c1
 generalize (clsN p.length (rb p.length (ent p)) p.length).1=o at c1
 obtain ⟨hinj,hgx⟩:=hp.rest_gj hs hc
 have cv:=fn_sSolve p.length (12*t+14) (List.range p.length) (sysL p) _ hp.gj hinj n1 n2 (by omega)
 rw [hgx] at cv
 have hU:sysL p=sysU p p.length:=rfl
 rw [hU] at cv
 have hql:=restQ_len p s
 obtain ⟨Q,eQ⟩:∃Q,restQ p s=Q:=⟨_,rfl⟩
 rw [eQ] at cv hql ⊢
 have hent:∀j i,j < p.length→i < p.length→entS p j i=if j=p.length - 1 then 1 else if i=j then ent p i j - 1 else ent p i j:=fun j i hj hi=>by unfold entS;rw [if_neg (by omega)]
 have hentn:∀j,entS p j p.length=if j=p.length - 1 then 1 else 0:=fun j=>by unfold entS;rw [if_pos rfl]
 have k1:=fn_sOne
 have k0:=fn_sNone
 obtain ⟨n,en⟩:∃n,p.length=n:=⟨_,rfl⟩
 have hrl:∀i,i < n→(p.getD i []).length=n:=fun i hi=>by rw [hp.rlen (by omega),en]
 have hsz:∀i j,i < n→j < n→sz (ent p i j) < t:=fun i j hi hj=>hp.ent_sz (by omega) (by omega)
 rw [en] at hz n1 n2 cv hql hent hentn
 generalize gjN n skJ (List.range n,sysU p n) n=fin at cv
 have g:Fn Tryz.prog 102 [mP p] [] (.tup [.ls 0 0 n 3,B true]) [(0,.row true 3 (cS Q))]:=by
  refine Fn.intro (ks:=[0,2,3,5,6,7,8,9,10,11,12,20,29,35,50,57,67]) hty rfl rfl rfl rfl rfl ?_
  conv=>whnf
  refine VCall.of_data c1 (ndT fun _=>rfl) ?_
  conv=>whnf
  rw [hz]
  refine VLoop.toMat 26 3 (cs:=[]) rfl rfl ?_
  refine VLoop.ren 26 75 rfl ?_
  refine VLoop.inv hty (S:=Nat) (fun j=>[(8,I j),(7,.ls 75 0 j 1),(6,I n),(0,mP p)]) (fun j=>[(75,.mat 3 (ixQ j (n+1)) (cRS (sysU p j)))]) (fun j=>j≤n) (fun j=>n - j) 0 (Nat.zero_le _) ⟨rfl,rfl,rfl,rfl,trivial⟩ ⟨rfl,trivial⟩ ?_
  intro j hj
  conv=>whnf
  refine Br.mk (fun h=>?_) (fun h=>?_)
  ·have h:j < n:=by simp only [decide_eq_true_eq] at h;omega
   have hN:=sysU_len p j
   have hnx:=sysU_next p j
   rw [en] at hnx
   obtain ⟨N,eN⟩:∃N,sysU p j=N:=⟨_,rfl⟩
   rw [eN] at hN hnx
   rw [eN]
   conv=>whnf
   refine VLoop.ren 32 62 rfl ?_
   refine VLoop.inv hty (S:=Nat) (fun i=>[(10,I i),(9,.ls 62 0 i 3),(8,I j),(7,.ls 75 0 j 1),(6,I n),(0,mP p)]) (fun i=>[(62,.row true 3 (cS ((List.range i).map (entS p j)))),(75,.mat 3 (ixQ j (n+1)) (cRS N))]) (fun i=>i≤n) (fun i=>n - i) 0 (Nat.zero_le _) ⟨rfl,rfl,rfl,rfl,rfl,rfl,trivial⟩ ⟨rfl,rfl,trivial⟩ ?_
   intro i hi
   conv=>whnf
   refine Br.mk (fun h3=>?_) (fun h3=>?_)
   ·have h3:i < n:=by simp only [decide_eq_true_eq] at h3;omega
    have hFn:=mapR_next (entS p j) i
    have hF:((List.range i).map (entS p j)).length=i:=by simp
    have hv0:=hent j i h h3
    have hs1:=hsz i j h3 h
    have k2:=fn_sMinus (ent p i j) 1 (by have:=sz_small (n:=1) (k:=1) (by decide) (by decide);have:sz (1:Rat)≤1:=this;omega)
    obtain ⟨F,eF⟩:∃F,(List.range i).map (entS p j)=F:=⟨_,rfl⟩
    rw [eF] at hFn hF ⊢
    conv=>whnf
    refine ⟨⟨⟨by omega,by rw [cMS_len];omega⟩,cMS_sz _⟩,?_⟩
    conv=>whnf
    refine ⟨_,cMS_as (x:=p.getD i []) (by omega) rfl,?_⟩
    conv=>whnf
    refine ⟨⟨⟨by omega,by rw [cS_len,hrl i h3];omega⟩,cS_sz _⟩,?_⟩
    conv=>whnf
    refine ⟨_,cS_as (x:=ent p i j) (by rw [hrl i h3];exact h) rfl,?_⟩
    conv=>whnf
    by_cases hij:i=j
    ·rw [decide_eq_true (show (i:Int)=(j:Int) by omega)]
     conv=>whnf
     refine VDraw.go hmo hty 3 [] rfl ?_
     conv=>whnf
     refine QCall.of_data k1 (ndA fun k=>rfl) ?_
     conv=>whnf
     refine QCall.of_data k2 (ndA fun k=>rfl) ?_
     conv=>whnf
     refine Wr.i64 (y:=((n - 1:Nat):Int)) (by omega) (by omega) (by omega) ?_
     conv=>whnf
     by_cases hjn:j=n - 1
     ·have hv:entS p j i=1:=by rw [hv0,if_pos hjn]
      rw [decide_eq_true (show (j:Int)=((n - 1:Nat):Int) by omega)]
      conv=>whnf
      refine VCall.of_data k1 (ndA fun k=>rfl) ?_
      conv=>whnf
      refine Sub.full rfl ?_
      conv=>whnf
      refine Sub.full (by rw [cS_len,hF]) ?_
      conv=>whnf
      refine ⟨by show (i+1)*56≤_;omega,?_⟩
      conv=>whnf
      refine Wr.i64 (y:=((i+1:Nat):Int)) rfl (by omega) (by omega) ?_
      conv=>whnf
      refine ⟨i+1,h3,by show n - (i+1) < n - i;omega,⟨rfl,rfl,rfl,rfl,rfl,rfl,trivial⟩,?_,rfl,trivial⟩
      rw [hFn,hv,←cS_ap1];rfl
     ·have hv:entS p j i=ent p i j - 1:=by rw [hv0,if_neg hjn,if_pos hij]
      rw [decide_eq_false (show ¬(j:Int)=((n - 1:Nat):Int) by omega)]
      conv=>whnf
      refine Sub.full rfl ?_
      conv=>whnf
      refine Sub.full (by rw [cS_len,hF]) ?_
      conv=>whnf
      refine ⟨by show (i+1)*56≤_;omega,?_⟩
      conv=>whnf
      refine Wr.i64 (y:=((i+1:Nat):Int)) rfl (by omega) (by omega) ?_
      conv=>whnf
      refine ⟨i+1,h3,by show n - (i+1) < n - i;omega,⟨rfl,rfl,rfl,rfl,rfl,rfl,trivial⟩,?_,rfl,trivial⟩
      rw [hFn,hv,←cS_ap1];rfl
    ·rw [decide_eq_false (show ¬(i:Int)=(j:Int) by omega)]
     conv=>whnf
     refine Wr.i64 (y:=((n - 1:Nat):Int)) (by omega) (by omega) (by omega) ?_
     conv=>whnf
     by_cases hjn:j=n - 1
     ·have hv:entS p j i=1:=by rw [hv0,if_pos hjn]
      rw [decide_eq_true (show (j:Int)=((n - 1:Nat):Int) by omega)]
      conv=>whnf
      refine VCall.of_data k1 (ndA fun k=>rfl) ?_
      conv=>whnf
      refine Sub.full rfl ?_
      conv=>whnf
      refine Sub.full (by rw [cS_len,hF]) ?_
      conv=>whnf
      refine ⟨by show (i+1)*56≤_;omega,?_⟩
      conv=>whnf
      refine Wr.i64 (y:=((i+1:Nat):Int)) rfl (by omega) (by omega) ?_
      conv=>whnf
      refine ⟨i+1,h3,by show n - (i+1) < n - i;omega,⟨rfl,rfl,rfl,rfl,rfl,rfl,trivial⟩,?_,rfl,trivial⟩
      rw [hFn,hv,←cS_ap1];rfl
     ·have hv:entS p j i=ent p i j:=by rw [hv0,if_neg hjn,if_neg hij]
      rw [decide_eq_false (show ¬(j:Int)=((n - 1:Nat):Int) by omega)]
      conv=>whnf
      refine Sub.full rfl ?_
      conv=>whnf
      refine Sub.full (by rw [cS_len,hF]) ?_
      conv=>whnf
      refine ⟨by show (i+1)*56≤_;omega,?_⟩
      conv=>whnf
      refine Wr.i64 (y:=((i+1:Nat):Int)) rfl (by omega) (by omega) ?_
      conv=>whnf
      refine ⟨i+1,h3,by show n - (i+1) < n - i;omega,⟨rfl,rfl,rfl,rfl,rfl,rfl,trivial⟩,?_,rfl,trivial⟩
      rw [hFn,hv,←cS_ap1];rfl
   ·have h3:i=n:=by simp only [decide_eq_false_iff_not] at h3;omega
    rw [h3]
    conv=>whnf
    refine VCall.of_data k0 (ndA fun k=>rfl) ?_
    conv=>whnf
    refine Wr.i64 (y:=((n - 1:Nat):Int)) (by omega) (by omega) (by omega) ?_
    conv=>whnf
    by_cases hjn:j=n - 1
    ·have hE:entS p j n=1:=by rw [hentn,if_pos hjn]
     rw [decide_eq_true (show (j:Int)=((n - 1:Nat):Int) by omega)]
     conv=>whnf
     refine VCall.of_data k1 (ndA fun k=>rfl) ?_
     conv=>whnf
     have hrow:(List.range (n+1)).map (entS p j)=(List.range n).map (entS p j)++[1]:=by rw [mapR_next,hE]
     have hFl:((List.range n).map (entS p j)).length=n:=by simp
     obtain ⟨F,eF⟩:∃F,(List.range n).map (entS p j)=F:=⟨_,rfl⟩
     rw [eF] at hrow hFl ⊢
     refine Sub.full rfl ?_
     conv=>whnf
     refine Sub.full (by rw [cS_len,hFl]) ?_
     conv=>whnf
     refine ⟨by show (n+1)*56≤_;omega,?_⟩
     conv=>whnf
     refine ⟨⟨by rw [ixQ_len],by show (j+1)*24≤_;omega⟩,?_⟩
     conv=>whnf
     refine Wr.i64 (y:=((j+1:Nat):Int)) rfl (by omega) (by omega) ?_
     conv=>whnf
     refine ⟨j+1,h,by show n - (j+1) < n - j;omega,⟨rfl,rfl,rfl,rfl,trivial⟩,?_,trivial⟩
     show Ob.mat 3 (ixQ j (n+1)++[.r (cRS N).length 0 (n+1)]) (cRS N++[cS F++[c1S 1]])=Ob.mat 3 (ixQ (j+1) (n+1)) (cRS (sysU p (j+1)))
     rw [hnx,ixQ_snoc,cRS_len,hN,hrow,cS_ap1]
    ·have hE:entS p j n=0:=by rw [hentn,if_neg hjn]
     rw [decide_eq_false (show ¬(j:Int)=((n - 1:Nat):Int) by omega)]
     conv=>whnf
     have hrow:(List.range (n+1)).map (entS p j)=(List.range n).map (entS p j)++[0]:=by rw [mapR_next,hE]
     have hFl:((List.range n).map (entS p j)).length=n:=by simp
     obtain ⟨F,eF⟩:∃F,(List.range n).map (entS p j)=F:=⟨_,rfl⟩
     rw [eF] at hrow hFl ⊢
     refine Sub.full rfl ?_
     conv=>whnf
     refine Sub.full (by rw [cS_len,hFl]) ?_
     conv=>whnf
     refine ⟨by show (n+1)*56≤_;omega,?_⟩
     conv=>whnf
     refine ⟨⟨by rw [ixQ_len],by show (j+1)*24≤_;omega⟩,?_⟩
     conv=>whnf
     refine Wr.i64 (y:=((j+1:Nat):Int)) rfl (by omega) (by omega) ?_
     conv=>whnf
     refine ⟨j+1,h,by show n - (j+1) < n - j;omega,⟨rfl,rfl,rfl,rfl,trivial⟩,?_,trivial⟩
     show Ob.mat 3 (ixQ j (n+1)++[.r (cRS N).length 0 (n+1)]) (cRS N++[cS F++[c1S 0]])=Ob.mat 3 (ixQ (j+1) (n+1)) (cRS (sysU p (j+1)))
     rw [hnx,ixQ_snoc,cRS_len,hN,hrow,cS_ap1]
  ·have h:j=n:=by simp only [decide_eq_false_iff_not] at h;omega
   rw [h]
   conv=>whnf
   refine VCall.par1n 75 77 cv ⟨⟨rfl,rfl,rfl,rfl⟩,trivial⟩ rfl rfl ?_
   conv=>whnf
   exact ⟨⟨rfl,rfl,rfl,rfl,rfl,rfl⟩,[],rfl,rfl,trivial,rfl⟩
 have:=g.freezeT (by rw [cS_len];omega) rfl
 rwa [List.drop_zero,List.take_of_length_le (by rw [cS_len];omega)] at this
end Go.V
namespace Go.V
theorem one_cast:(((1:Nat):Int):Rat)=1:=rfl
end Go.V
namespace Go.V
end Go.V
namespace Go.V
abbrev skT (i r:Nat):Bool:=decide (r≤i)
structure Gt (n t:Nat) (A:Fm) (p:List Nat) (R:Mt) (i:Nat):Prop where
 pl:Plc n (n+1) p R
 eq:Eqv n A (lgF p R)
 tri:Tri n (lgF p R) i
 row:∀r,r < n→RowB (2 ^ i*t) (lg p R r)
theorem Gt.piv {n t i:Nat} {A:Fm} {p:List Nat} {R:Mt} (h:Gt n t A p R i) (hA:Inj n A) (hi:i < n):i≤pivF (lgF p R) i (n - i) i∧pivF (lgF p R) i (n - i) i < n∧lgF p R (pivF (lgF p R) i (n - i) i) i≠0:=by
 obtain ⟨k,h1,h2,h3⟩:=h.tri.pivot (h.eq.inj hA) hi
 have:=pivF_is (A:=lgF p R) (c:=i) (n - i) i ⟨k,h1,by omega,h3⟩
 exact ⟨this.1,by omega,this.2.2⟩
theorem Gt.next {n t i:Nat} {A:Fm} {p:List Nat} {R:Mt} (h:Gt n t A p R i) (hi:i < n) {k:Nat} (hik:i≤k) (hk:k < n) (h0:lgF p R k i≠0):Gt n t A (swapL 0 p i k) (elimR (swapL 0 p i k) i (skT i) n R) (i+1):=by
 have hb:∀j,j < i→lgF p R k j=0:=fun j hj=>(h.tri j hj).2 k hk (by omega)
 obtain ⟨g1,g2,g3⟩:=elim_step h.pl hi hk (sk:=skT i) (decide_eq_true (Nat.le_refl i)) h0 hb
 have esw:swF i k i=k:=by unfold swF;by_cases e:i=k;rw [if_pos e];exact e;rw [if_neg e,if_pos rfl]
 refine ⟨g1,h.eq.trans g2,fun c hc=>?_,fun r hr=>?_⟩
 ·by_cases e:c=i
  ·subst e
   refine ⟨?_,fun r hr hlt=>?_⟩
   ·rw [g3 c hi c (by omega),if_pos (decide_eq_true (Nat.le_refl c)),esw];grind
   ·rw [g3 r hr c (by omega),if_neg (by rw [decide_eq_true_eq];omega)]
    have:=Rat.div_mul_cancel (a:=lgF p R (swF c k r) c) h0
    grind
  ·have hci:c < i:=by omega
   obtain ⟨d1,d2⟩:=h.tri c hci
   refine ⟨?_,fun r hr hlt=>?_⟩
   ·rw [g3 c (by omega) c (by omega),hb c hci,Rat.mul_zero]
    have:swF i k c=c:=by unfold swF;rw [if_neg (by omega),if_neg e]
    rw [this];grind
   ·rw [g3 r hr c (by omega),hb c hci,Rat.mul_zero,d2 _ (swF_lt hi hk hr) (by unfold swF;split;omega;split;omega;omega)];grind
 ·have hp:=h.pl.swap hi hk
  obtain ⟨_,g5⟩:=elimR_is (sk:=skT i) hp hi (decide_eq_true (Nat.le_refl i)) n (Nat.le_refl _)
  rw [g5 r hr,if_pos hr,lg_swap h.pl hi hk,lg_swap h.pl hi hk,esw]
  have w1:=h.pl.wd _ (swF_lt hi hk hr)
  have w2:=h.pl.wd _ hk
  have:=(h.row _ (swF_lt hi hk hr)).el (r:=r) (sk:=skT i) (h.row _ hk) (c:=i) (by omega) (by omega) h0
  rwa [←Nat.mul_assoc,←Nat.pow_succ'] at this
def bkS (A:Fm) (x:Nat→Rat) (b:Rat) (i:Nat):Nat→Rat
 | 0=>b
 | c+1=>if i < c then bkS A x b i c - A i c*x c else bkS A x b i c
theorem bkS_sum {A:Fm} {x:Nat→Rat} {b:Rat} {i:Nat}:∀c,bkS A x b i c=b - sN c fun d=>if i < d then A i d*x d else 0
 | 0=>by show b=b - 0;grind
 | c+1=>by
  show (if i < c then _ else _)=b - (sN c (fun d=>if i < d then A i d*x d else 0)+if i < c then A i c*x c else 0)
  rw [bkS_sum c]
  split <;> grind
def xB (n:Nat) (A:Fm):Nat→Nat→Rat
 | 0=>fun j=>A j n
 | d+1=>fun j=>if j=n - 1 - d then bkS A (xB n A d) (A j n) j n / A j j else xB n A d j
theorem bkS_congr {A:Fm} {x y:Nat→Rat} {b:Rat} {i:Nat}:∀{c},(∀d,i < d→d < c→x d=y d)→bkS A x b i c=bkS A y b i c
 | 0,_=>rfl
 | c+1,h=>by
  show (if i < c then _ else _)=if i < c then _ else _
  rw [bkS_congr (c:=c) fun d h1 h2=>h d h1 (by omega)]
  split
  ·rename_i e;rw [h c e (by omega)]
  ·rfl
theorem xB_keep {n:Nat} {A:Fm} {j:Nat} (hj:j < n):∀{d},n - 1 - j < d→d≤n→xB n A d j=xB n A (n - j) j
 | 0,h,_=>by omega
 | d+1,h,hd=>by
  by_cases e:n - j=d+1
  ·rw [e]
  ·show (if j=n - 1 - d then _ else _)=_
   rw [if_neg (by omega)];exact xB_keep hj (by omega) (by omega)
theorem xB_row {n:Nat} {A:Fm} {j:Nat} (hj:j < n):xB n A n j=bkS A (xB n A n) (A j n) j n / A j j:=by
 rw [xB_keep hj (by omega) (Nat.le_refl _),show n - j=(n - 1 - j)+1 by omega]
 show (if j=n - 1 - (n - 1 - j) then _ else _)=_
 rw [if_pos (by omega),bkS_congr (y:=xB n A n) fun d h1 h2=>by rw [xB_keep h2 (d:=n - 1 - j) (by omega) (by omega),xB_keep h2 (d:=n) (by omega) (Nat.le_refl _)]]
theorem Tri.sol {n:Nat} {A:Fm} (h:Tri n A n):Sol n A (xB n A n):=fun r hr=>by
 have e:=xB_row (A:=A) hr
 obtain ⟨h1,_⟩:=h r hr
 rw [bkS_sum] at e
 have e2:xB n A n r*A r r=A r n - sN n fun d=>if r < d then A r d*xB n A n d else 0:=by
  rw [e];exact Rat.div_mul_cancel h1
 have e3:rowX n A (xB n A n) r=(sN n fun d=>if d=r then (fun d=>A r d*xB n A n d) d else 0)+sN n fun d=>if r < d then A r d*xB n A n d else 0:=by
  rw [←sN_add]
  refine sN_congr fun d hd=>?_
  by_cases h2:d=r
  ·rw [if_pos h2,if_neg (by omega)];grind
  ·rw [if_neg h2]
   by_cases h3:r < d
   ·rw [if_pos h3];grind
   ·rw [if_neg h3,(h d hd).2 r hr (by omega)];grind
 rw [e3,sN_delta,if_pos hr]
 show A r r*xB n A n r+_=A r n
 grind
end Go.V
namespace Go.V
theorem filt_lt {p q:Nat→Bool}:∀{l:List Nat},(∀x,x∈l→p x=true→q x=true)→(∃x,x∈l∧q x=true∧p x=false)→(l.filter p).length < (l.filter q).length
 | [],_,⟨x,hx,_⟩=>by simp at hx
 | y :: l,h,⟨x,hx,h1,h2⟩=>by
  have hle:∀l:List Nat,(∀x,x∈l→p x=true→q x=true)→(l.filter p).length≤(l.filter q).length:=by
   intro l
   induction l with
   | nil=>intro _;exact Nat.le_refl _
   | cons z l ih =>
    intro h
    have ih:=ih fun x hx=>h x (List.mem_cons_of_mem _ hx)
    rw [List.filter_cons,List.filter_cons]
    cases e:p z with
    | true=>rw [h z (by simp) e];simp;exact ih
    | false =>
     cases e2:q z with
     | true=>simp;omega
     | false=>simp;exact ih
  rw [List.filter_cons,List.filter_cons]
  have hl:=fun x hx=>h x (List.mem_cons_of_mem y hx)
  by_cases e:x=y
  ·subst e
   rw [h1,h2]
   have:=hle l hl
   simp;omega
  ·have hx:x∈l:=by rcases List.mem_cons.1 hx with e2 | e2;exact absurd e2 e;exact e2
   have ih:=filt_lt hl ⟨x,hx,h1,h2⟩
   cases e:p y with
   | true=>rw [h y (by simp) e];simp;exact ih
   | false =>
    cases e2:q y with
    | true=>simp;omega
    | false=>simp;exact ih
theorem closed_ex {n:Nat} {r:Nat→Nat→Bool} (hr:∀j,j < n→r j j=true) (ht:∀j k l,j < n→k < n→l < n→r j k=true→r k l=true→r j l=true) :
  ∀(m i:Nat),i < n→((List.range n).filter (r i)).length≤m→∃k,k < n∧r i k=true∧∀l,l < n→r k l=true→r l k=true:=by
 intro m
 induction m with
 | zero =>
  intro i hi h
  have:i∈(List.range n).filter (r i):=by rw [List.mem_filter];exact ⟨by simpa using hi,hr i hi⟩
  have h2:=List.length_pos_of_mem this
  omega
 | succ m ih =>
  intro i hi h
  by_cases hc:∀l,l < n→r i l=true→r l i=true
  ·exact ⟨i,hi,hr i hi,hc⟩
  ·obtain ⟨l,hl,h1,h2⟩:∃l,l < n∧r i l=true∧r l i=false:=by
    apply Classical.byContradiction
    intro hno
    exact hc fun l hl h1=>by
     cases e:r l i with
     | true=>rfl
     | false=>exact absurd ⟨l,hl,h1,e⟩ hno
   have hlt:=filt_lt (p:=r l) (q:=r i) (l:=List.range n) (fun x hx h3=>ht i l x hi hl (by simpa using hx) h1 h3) ⟨i,by simpa using hi,hr i hi,h2⟩
   obtain ⟨k,hk,h3,h4⟩:=ih l hl (by omega)
   exact ⟨k,hk,ht i l k hi hl hk h1 h3,h4⟩
theorem cls_conv {n:Nat} {r:Nat→Nat→Bool} (hr:∀j,j < n→r j j=true) (ht:∀j k l,j < n→k < n→l < n→r j k=true→r k l=true→r j l=true) {c:Nat} (h1:setI (clsN n r n).2=[c]) :
  ∃s,s < n∧∀i,i < n→r i s=true:=by
 have h:=clsN_ok hr ht n (Nat.le_refl _)
 generalize clsN n r n=z at h h1
 obtain ⟨o,b⟩:=z
 dsimp only at h1
 have hc:c∈setI b:=by rw [h1];simp
 have hcl:c < b.length:=by unfold setI at hc;rw [List.mem_filter] at hc;simpa using hc.1
 obtain ⟨s,hs,e⟩:=h.used c hcl
 dsimp only at e
 refine ⟨s,hs,fun i hi=>?_⟩
 obtain ⟨k,hk,h2,h3⟩:=closed_ex hr ht _ i hi (Nat.le_refl _)
 have h0:=h.done k hk
 dsimp only at h0
 have h4:=(h.shut k hk h0).2 h3
 dsimp only at h4
 have hlt:(o.getD k 0).toNat < b.length:=by
  rcases h.lt k hk with e | e
  ·dsimp only at e;omega
  ·have:=e.2;dsimp only at this;omega
 have h5:(o.getD k 0).toNat∈setI b:=by unfold setI;rw [List.mem_filter];exact ⟨by simpa using hlt,h4⟩
 rw [h1,List.mem_singleton] at h5
 have h6:=(h.same k s hk hs h0 (by dsimp only;rw [e];omega)).1
 exact ht i k s hi hk hs h2 h6
end Go.V
namespace Go.V
open Go.Proofs Go.RowKit
set_option maxRecDepth 10000
set_option maxHeartbeats 2000000
open Classical in
noncomputable def restO (p:Mt):Option (List Rat):=if h:∃s,s < p.length∧Cl p.length (ent p) s then some (restQ p h.choose) else none
theorem restO_some {p:Mt} {x:List Rat} (h:restO p=some x):∃s,s < p.length∧Cl p.length (ent p) s∧x=restQ p s:=by
 unfold restO at h
 split at h
 ·rename_i h2
  cases h
  exact ⟨_,h2.choose_spec.1,h2.choose_spec.2,rfl⟩
 ·cases h
theorem restO_none {p:Mt} (h:restO p=none):(setI (clsN p.length (rb p.length (ent p)) p.length).2).length≠1:=fun hl=>by
 obtain ⟨c,hc⟩:=List.length_eq_one_iff.1 hl
 obtain ⟨s,hs,ha⟩:=cls_conv (r:=rb p.length (ent p)) (fun j _=>rb_self) (fun j k l _ _ _ h1 h2=>rb_trans h1 h2) hc
 unfold restO at h
 rw [dif_pos ⟨s,hs,Cl.of fun i hi=>rb_iff.1 (ha i hi)⟩] at h
 cases h
theorem fn_restO (p:Mt) (t:Nat) (hp:MtR p t) (ht:t≤9700):Fn Tryz.prog 157 [lM p] [] (.tup [lQ ((restO p).getD []),B (restO p).isSome]) []:=by
 cases h:restO p with
 | some x =>
  obtain ⟨s,hs,hc,e⟩:=restO_some h
  have:=fn_rest p t s hp ht hs hc
  rw [←e] at this
  exact this
 | none =>
  have hl:=restO_none h
  have hz:((cM p).length:Int)=p.length:=by rw [cM_len]
  have n1:=hp.n1
  have n2:=hp.n2
  have c1:=fn_classes p t hp (by omega)
  obtain ⟨ob,eob⟩:∃ob,clsN p.length (rb p.length (ent p)) p.length=ob:=⟨_,rfl⟩
  rw [eob] at c1 hl
  obtain ⟨o,b⟩:=ob
  dsimp only at c1 hl
  have hbl:b.length≤1000000:=by
   have h:=clsN_le p.length (rb p.length (ent p)) p.length
   rw [eob] at h
   dsimp only at h
   omega
  have c2:=fn_setOfd b hbl
  have hzs:((cW .i64 (setI b)).length:Int)=(setI b).length:=by rw [cN_len]
  obtain ⟨L,eL⟩:∃L,(setI b).length=L:=⟨_,rfl⟩
  rw [eL] at hl hzs
  refine Fn.intro (ks:=[0,2,3,4,5,6,7,8,9,10,12,13,15,16,17,18,28,30,31,32,33,41,48,49,50,51,55,56,57,58,83,84,85,86]) hty rfl rfl rfl rfl rfl ?_
  conv=>whnf
  refine VCall.of_data c1 (ndT fun _=>rfl) ?_
  conv=>whnf
  refine VCall.of_data c2 (nd _) ?_
  conv=>whnf
  rw [hzs]
  rw [decide_eq_false (show ¬(L:Int)=1 by omega)]
  conv=>whnf
  exact ⟨rfl,trivial,rfl⟩
theorem fn_sRestO (p:Mt) (t:Nat) (hp:MtR p t) (ht:t≤9700):Fn Tryz.prog 102 [mP p] [] (.tup [lS ((restO p).getD []),B (restO p).isSome]) []:=by
 cases h:restO p with
 | some x =>
  obtain ⟨s,hs,hc,e⟩:=restO_some h
  have:=fn_sRest p t s hp ht hs hc
  rw [←e] at this
  exact this
 | none =>
  have hl:=restO_none h
  have n2:=hp.n2
  have c1:=fn_sClasses p t hp (by omega)
  generalize clsN p.length (rb p.length (ent p)) p.length=z at c1 hl
  obtain ⟨o,b⟩:=z
  dsimp only at c1 hl
  have hzs:((cW .i64 (setI b)).length:Int)=(setI b).length:=by rw [cN_len]
  generalize setI b=S at c1 hl hzs
  obtain ⟨L,eL⟩:∃L,S.length=L:=⟨_,rfl⟩
  rw [eL] at hl hzs
  refine Fn.intro (ks:=[0,2,3,5,6,7,8,9,10,11,12,20,29,35,50,57,67]) hty rfl rfl rfl rfl rfl ?_
  conv=>whnf
  refine VCall.of_data c1 (ndT fun _=>rfl) ?_
  conv=>whnf
  rw [hzs]
  rw [decide_eq_false (show ¬(L:Int)=1 by omega)]
  conv=>whnf
  exact ⟨rfl,trivial,rfl⟩
end Go.V
namespace Go.V
theorem MtOk.toR {p:Mt} (h:MtOk p):MtR p 9602:=by
 have n2:=h.n2
 refine ⟨h.n1,h.n2,h.sq,h.pos,fun r hr=>?_,h.one⟩
 have hl:=h.sq r hr
 have hP:∀m,m≤r.length→∃D:Nat,D≠0∧bl D≤m*800+1∧∀i,i < m→Iz D (r.getD i 0):=by
  intro m
  induction m with
  | zero=>intro _;exact ⟨1,by decide,by rw [bl_one];omega,fun i hi=>by omega⟩
  | succ m ih =>
   intro hm
   obtain ⟨D,d1,d2,d3⟩:=ih (by omega)
   have g1:=bl_den (r.getD m 0)
   have g2:=h.sz r hr _ (getD_mem (xs:=r) (i:=m) (d:=0) (by omega))
   have:=bl_mul D (r.getD m 0).den
   refine ⟨D*(r.getD m 0).den,Nat.mul_ne_zero d1 (r.getD m 0).den_nz,by rw [Nat.succ_mul];omega,fun i hi=>?_⟩
   by_cases e:i=m
   ·subst e;exact (Iz.den _).more' D
   ·exact (d3 i (by omega)).more _
 obtain ⟨D,d1,d2,d3⟩:=hP r.length (Nat.le_refl _)
 have h12:r.length*800≤12*800:=Nat.mul_le_mul_right _ (by omega)
 refine RowB.of_iz d1 (by omega) 1 (by rw [Nat.one_mul];omega) fun q hq=>?_
 obtain ⟨i,hi,e⟩:=List.mem_iff_getElem.1 hq
 have e2:r.getD i 0=q:=by rw [List.getD_eq_getElem?_getD,List.getElem?_eq_getElem hi,←e];rfl
 have g1:=h.pos r hr q hq
 have g2:q≤1:=by
  rw [←h.one r hr,←e2]
  exact sN_one_le (f:=(r.getD · 0)) hi fun k hk=>h.pos r hr _ (getD_mem hk)
 rw [one_cast]
 exact ⟨e2▸d3 i hi,by grind,g2⟩
theorem MtOk.rest_sz {p:Mt} (h:MtOk p) {s:Nat} (hs:s < p.length) (hc:Cl p.length (ent p) s):∀q,q∈restQ p s→Go.V.sz q≤6200000000:=fun q hq=>by
 have n2:=h.n2
 have g:=h.toR.rest hs hc
 have g4:=g.2.2.2.sz hq
 have hl:(clsS p s).length≤p.length:=by
  unfold clsS
  have:=List.length_filter_le (rb p.length (ent p) s) (List.range p.length)
  rwa [List.length_range] at this
 have h1:tt 9602 ((clsS p s).length - 1)≤tt 9602 11:=tt_mono (by omega)
 have h2:tt 9602 11=19677178:=by decide
 unfold uu at g4
 omega
end Go.V
namespace Go.V
open Go.Proofs Go.RowKit
set_option maxRecDepth 10000
set_option maxHeartbeats 1000000
theorem distT_szL {a b:List Rat} (ha:∀q,q∈a→sz q≤10000000) (hb:∀q,q∈b→sz q≤6200000000) (i:Nat):sz (distT a b i)≤6210000001:=by
 unfold distT
 rw [sz_abs]
 have h2:=getD_sz ha i (by decide)
 have h3:=getD_sz hb i (by decide)
 have h4:=sz_sub (a.getD i 0) (b.getD i 0)
 omega
theorem distS_szL {a b:List Rat} (ha:∀q,q∈a→sz q≤10000000) (hb:∀q,q∈b→sz q≤6200000000) (hn:a.length≤12) (i:Nat) (hi:i≤a.length):sz (sN i (distT a b))≤i*6210000002+1:=sz_sN (n:=a.length) (fun i _=>distT_szL ha hb i) i hi
theorem distQ_szL {a b:List Rat} (ha:∀q,q∈a→sz q≤10000000) (hb:∀q,q∈b→sz q≤6200000000) (hn:a.length≤12):sz (distQ a b)≤80000000000:=by
 unfold distQ
 have h2:=distS_szL ha hb hn a.length (Nat.le_refl _)
 have h3:=sz_div (sN a.length (distT a b)) (b:=2) (by decide)
 rw [sz_two] at h3
 have h4:a.length*6210000002≤12*6210000002:=Nat.mul_le_mul_right _ hn
 omega
theorem fn_distanceL (a b:List Rat) (ha:∀q,q∈a→sz q≤10000000) (hb:∀q,q∈b→sz q≤6200000000) (hl:b.length=a.length) (hn:a.length≤12) :
  Fn Tryz.prog 110 [lQ a,lQ b] [] (rI (distQ a b)) []:=by
 have c0:=fn_whole 0 (by decide) (by decide)
 have c2:=fn_whole 2 (by decide) (by decide)
 have hlz:((cQ a).length:Int)=a.length:=by rw [cQ_len]
 refine Fn.intro (ks:=[0,1,4,5,6,7,10,11,12]) hty rfl rfl rfl rfl rfl ?_
 conv=>whnf
 refine VCall.of_data c0 (ndA fun k=>rfl) ?_
 conv=>whnf
 refine VLoop.inv hty (S:=Nat) (fun i=>[(11,I i),(10,I a.length),(5,.lp 5 0),(4,.lp 4 0),(1,lQ b),(0,lQ a)])
  (fun i=>[(5,.box true [B (ng (sN i (distT a b))),nI (tp (sN i (distT a b))),nI (sN i (distT a b)).den]),(4,.box true _)]) (fun i=>i≤a.length) (fun i=>a.length - i) 0 (Nat.zero_le _)
  ⟨rfl,congrArg I hlz,rfl,rfl,rfl,rfl,trivial⟩ ⟨rfl,rfl,trivial⟩ ?_
 intro i hi
 conv=>whnf
 refine Br.mk (fun h=>?_) (fun h=>?_)
 ·have h:i < a.length:=by simp only [decide_eq_true_eq] at h;omega
  obtain ⟨x,ex⟩:∃x,a.getD i 0=x:=⟨_,rfl⟩
  obtain ⟨y,ey⟩:∃y,b.getD i 0=y:=⟨_,rfl⟩
  have zx:=getD_sz ha i (by decide)
  have zy:=getD_sz hb i (by decide)
  have zs:=distS_szL ha hb hn i hi
  have zm:i*6210000002≤12*6210000002:=Nat.mul_le_mul_right _ (by omega)
  have zd:=distT_szL ha hb i
  have ed:distT a b i=absQ (x - y):=by unfold distT;rw [ex,ey]
  have es:sN (i+1) (distT a b)=sN i (distT a b)+distT a b i:=rfl
  rw [ex] at zx
  rw [ey] at zy
  have cs:=fn_rsub x y (by omega)
  have ca:=fn_radd (sN i (distT a b)) (distT a b i) (by omega)
  rw [←es] at ca
  obtain ⟨p1,p2,p3⟩:=absQ_parts (x - y)
  rw [←ed] at p1 p2 p3
  conv=>whnf
  refine VDraw.go hmo hty 10 [[7],[7],[7],[7],[7],[7],[7],[7],[7],[]] rfl ?_
  conv=>whnf
  refine ⟨⟨⟨by omega,by omega⟩,cQ_sz _⟩,?_⟩
  conv=>whnf
  refine ⟨_,cQ_as h ex,?_⟩
  conv=>whnf
  refine ⟨⟨⟨by omega,by rw [cQ_len];omega⟩,cQ_sz _⟩,?_⟩
  conv=>whnf
  refine ⟨_,cQ_as (by omega) ey,?_⟩
  conv=>whnf
  refine QCall.of_data cs (ndA fun k=>rfl) ?_
  conv=>whnf
  rw [←p2,←p3]
  rw [show AV.d (C.s (Value.bool false))=B (ng (distT a b i)) by rw [p1]]
  conv=>whnf
  refine VCall.of_data ca (ndA fun k=>rfl) ?_
  conv=>whnf
  refine Wr.i64 (y:=((i+1:Nat):Int)) rfl (by omega) (by omega) ?_
  conv=>whnf
  exact ⟨i+1,h,by show a.length - (i+1) < a.length - i;omega,⟨rfl,rfl,rfl,rfl,rfl,rfl,trivial⟩,rfl,rfl,trivial⟩
 ·have h:i=a.length:=by simp only [decide_eq_false_iff_not] at h;omega
  subst h
  have zs:=distS_szL ha hb hn a.length (Nat.le_refl _)
  have zm:a.length*6210000002≤12*6210000002:=Nat.mul_le_mul_right _ hn
  conv=>whnf
  refine VDraw.go hmo hty 3 [] rfl ?_
  conv=>whnf
  refine QCall.of_data c2 (ndA fun k=>rfl) ?_
  conv=>whnf
  refine QCall.of_data (fn_rover _ 2 (by omega) (by decide) (by decide)) (ndA fun k=>rfl) ?_
  conv=>whnf
  exact ⟨rfl,rfl,rfl,trivial,rfl⟩
theorem fn_sDistanceL (a b:List Rat) (ha:∀q,q∈a→sz q≤10000000) (hb:∀q,q∈b→sz q≤6200000000) (hl:b.length=a.length) (hn:a.length≤12) :
  Fn Tryz.prog 105 [lS a,lS b] [] (rS (distQ a b)) []:=by
 have c2:=fn_sInt 2 (by decide) (by decide)
 have hlz:((cS a).length:Int)=a.length:=by rw [cS_len]
 refine Fn.intro (ks:=[0,1,4,5,6,7,10,11,12]) hty rfl rfl rfl rfl rfl ?_
 conv=>whnf
 refine VCall.of_data fn_sNone (ndA fun k=>rfl) ?_
 conv=>whnf
 refine VLoop.inv hty (S:=Nat) (fun i=>[(11,I i),(10,I a.length),(5,.lp 5 0),(4,.lp 4 0),(1,lS b),(0,lS a)])
  (fun i=>[(5,.box true [B (ng (sN i (distT a b))),nS (tp (sN i (distT a b))),nS (sN i (distT a b)).den]),(4,.box true _)]) (fun i=>i≤a.length) (fun i=>a.length - i) 0 (Nat.zero_le _)
  ⟨rfl,congrArg I hlz,rfl,rfl,rfl,rfl,trivial⟩ ⟨rfl,rfl,trivial⟩ ?_
 intro i hi
 conv=>whnf
 refine Br.mk (fun h=>?_) (fun h=>?_)
 ·have h:i < a.length:=by simp only [decide_eq_true_eq] at h;omega
  obtain ⟨x,ex⟩:∃x,a.getD i 0=x:=⟨_,rfl⟩
  obtain ⟨y,ey⟩:∃y,b.getD i 0=y:=⟨_,rfl⟩
  have zx:=getD_sz ha i (by decide)
  have zy:=getD_sz hb i (by decide)
  have zs:=distS_szL ha hb hn i hi
  have zm:i*6210000002≤12*6210000002:=Nat.mul_le_mul_right _ (by omega)
  have zd:=distT_szL ha hb i
  have ed:distT a b i=absQ (x - y):=by unfold distT;rw [ex,ey]
  have es:sN (i+1) (distT a b)=sN i (distT a b)+distT a b i:=rfl
  rw [ex] at zx
  rw [ey] at zy
  have cs:=fn_sMinus x y (by omega)
  have ca:=fn_sSum (sN i (distT a b)) (distT a b i) (by omega)
  rw [←es] at ca
  obtain ⟨p1,p2,p3⟩:=absQ_parts (x - y)
  rw [←ed] at p1 p2 p3
  conv=>whnf
  refine VDraw.go hmo hty 10 [[7],[7],[7],[7],[7],[7],[7],[7],[7],[]] rfl ?_
  conv=>whnf
  refine ⟨⟨⟨by omega,by omega⟩,cS_sz _⟩,?_⟩
  conv=>whnf
  refine ⟨_,cS_as h ex,?_⟩
  conv=>whnf
  refine ⟨⟨⟨by omega,by rw [cS_len];omega⟩,cS_sz _⟩,?_⟩
  conv=>whnf
  refine ⟨_,cS_as (by omega) ey,?_⟩
  conv=>whnf
  refine QCall.of_data cs (ndA fun k=>rfl) ?_
  conv=>whnf
  rw [←p2,←p3]
  rw [show AV.d (C.s (Value.bool false))=B (ng (distT a b i)) by rw [p1]]
  conv=>whnf
  refine VCall.of_data ca (ndA fun k=>rfl) ?_
  conv=>whnf
  refine Wr.i64 (y:=((i+1:Nat):Int)) rfl (by omega) (by omega) ?_
  conv=>whnf
  exact ⟨i+1,h,by show a.length - (i+1) < a.length - i;omega,⟨rfl,rfl,rfl,rfl,rfl,rfl,trivial⟩,rfl,rfl,trivial⟩
 ·have h:i=a.length:=by simp only [decide_eq_false_iff_not] at h;omega
  subst h
  have zs:=distS_szL ha hb hn a.length (Nat.le_refl _)
  have zm:a.length*6210000002≤12*6210000002:=Nat.mul_le_mul_right _ hn
  conv=>whnf
  refine VDraw.go hmo hty 3 [] rfl ?_
  conv=>whnf
  refine QCall.of_data c2 (ndA fun k=>rfl) ?_
  conv=>whnf
  refine QCall.of_data (fn_sOver _ 2 (by rw [sz_two];omega) (by decide)) (ndA fun k=>rfl) ?_
  conv=>whnf
  exact ⟨rfl,rfl,rfl,trivial,rfl⟩
end Go.V
namespace Go.V
open Go.Proofs Go.RowKit
set_option maxRecDepth 10000
set_option maxHeartbeats 2000000
end Go.V
namespace Go.V
open Go.Proofs Go.RowKit
set_option maxRecDepth 10000
set_option maxHeartbeats 2000000
end Go.V
namespace Go.V
open Go.Proofs Go.RowKit
set_option maxRecDepth 10000
set_option maxHeartbeats 2000000
end Go.V
namespace Go.V
open Go.Proofs Go.RowKit
set_option maxRecDepth 10000
set_option maxHeartbeats 2000000
end Go.V
namespace Go.V
open Go.Proofs Go.RowKit
set_option maxRecDepth 10000
set_option maxHeartbeats 2000000
theorem rcI_pos (p q:Rat):decide (0 < rcI p q)=decide (q < p):=by
 have h:=@rcI_le p q
 refine decide_eq_decide.2 ⟨fun e=>Rat.not_le.1 fun e2=>by have:=h.2 e2;omega,fun e=>?_⟩
 have h2:¬rcI p q≤0:=fun e2=>Rat.not_lt.2 (h.1 e2) e
 omega
end Go.V
namespace Go.V
open Go.Proofs Go.RowKit
set_option maxRecDepth 10000
set_option maxHeartbeats 2000000
def wst (G:Nat→Rat):Nat→Rat
 | 0=>0
 | k+1=>if wst G k < G k then G k else wst G k
theorem wst_sz {G:Nat→Rat} {m:Nat} (h1:1≤m):∀k,(∀i,i < k→sz (G i)≤m)→sz (wst G k)≤m
 | 0,_=>Nat.le_trans (by decide:sz (0:Rat)≤1) h1
 | k+1,h=>by
  show sz (if wst G k < G k then G k else wst G k)≤m
  split
  ·exact h k (by omega)
  ·exact wst_sz h1 k fun i hi=>h i (by omega)
def dstG (p:Mt) (n:Nat) (u:List Rat) (i:Nat):Rat:=distQ (afterQ p n (pointQ p.length i)) u
noncomputable def worstO (rows:List (List (List UInt8))) (n:Int):Option Rat:=(chainQ rows).bind fun p=>(restO p).bind fun u=>if 0≤n∧n≤40 then some (wst (dstG p n.toNat u) p.length) else none
theorem restO_len {p:Mt} {u:List Rat} (h:restO p=some u):u.length=p.length:=by
 obtain ⟨s,_,_,e⟩:=restO_some h
 rw [e,restQ_len]
theorem restO_sz {p:Mt} (hp:MtOk p) {u:List Rat} (h:restO p=some u):∀q,q∈u→sz q≤6200000000:=by
 obtain ⟨s,hs,hc,e⟩:=restO_some h
 rw [e]
 exact hp.rest_sz hs hc
theorem after_szm {p:Mt} (hp:MtOk p) {n:Nat} (hn:n≤40) (i:Nat):∀q,q∈afterQ p n (pointQ p.length i)→sz q≤10000000:=fun q hq=>by
 have:=((pointQ_wk p.length i).after hp n).sz hq
 have h2:n*115210≤40*115210:=Nat.mul_le_mul_right _ hn
 omega
theorem dstG_sz {p:Mt} (hp:MtOk p) {n:Nat} (hn:n≤40) {u:List Rat} (hu:restO p=some u) (i:Nat):sz (dstG p n u i)≤80000000000 :=
 distQ_szL (after_szm hp hn i) (restO_sz hp hu) (by rw [afterQ_len,pointQ_len];exact hp.n2)
theorem fn_restWeights (rows:List (List (List UInt8))) (hi:ChIn rows):Fn Tryz.prog 108 [chI rows] []
  (.tup [lM ((chainQ rows).getD []),lQ (((chainQ rows).bind restO).getD []),B ((chainQ rows).bind restO).isSome]) []:=by
 have c1:=fn_chainOf rows hi.l hi.r hi.s
 refine Fn.intro (ks:=[0,1,2,3,4,5,6,7,14]) hty rfl rfl rfl rfl rfl ?_
 conv=>whnf
 cases h:chainQ rows with
 | none =>
  rw [h] at c1
  refine VCall.of_data c1 (ndT fun _=>rfl) ?_
  conv=>whnf
  exact ⟨rfl,trivial,rfl⟩
 | some p =>
  have hp:=chainQ_ok h
  rw [h] at c1
  replace c1:Fn Tryz.prog 173 [chI rows] [] (.tup [lM p,B true]) []:=c1
  have c2:=fn_restO p 9602 hp.toR (by decide)
  refine VCall.of_data c1 (ndT fun _=>rfl) ?_
  conv=>whnf
  refine VCall.of_data c2 (ndT fun _=>rfl) ?_
  conv=>whnf
  first | exact ⟨rfl,rfl,rfl,trivial,rfl⟩ | exact ⟨rfl,rfl,trivial,rfl⟩ | exact ⟨⟨rfl,rfl,rfl,trivial⟩,trivial,rfl⟩
theorem fn_WorstAfter (rows:List (List (List UInt8))) (n:Int) (hi:ChIn rows):Fn Tryz.prog 46 [chI rows,I n] [] (.tup [Str (toldO (worstO rows n)).1,B (toldO (worstO rows n)).2]) []:=by
 have c1:=fn_restWeights rows hi
 have c2:=fn_in n 0 40
 rw [inB] at c2
 refine Fn.intro (ks:=[0,1,2,4,5,6,7,8,9,11,12,25,29,30,31,32,41]) hty rfl rfl rfl rfl rfl ?_
 conv=>whnf
 unfold worstO
 cases h:chainQ rows with
 | none =>
  rw [h] at c1
  replace c1:Fn Tryz.prog 108 [chI rows] [] (.tup [lM [],lQ [],B false]) []:=c1
  refine VCall.of_data c1 (ndT fun _=>rfl) ?_
  conv=>whnf
  exact ⟨rfl,rfl,trivial,rfl⟩
 | some p =>
  have hp:=chainQ_ok h
  rw [h] at c1
  rw [show ((some p).bind fun p=>(restO p).bind fun u=>if 0≤n∧n≤40 then some (wst (dstG p n.toNat u) p.length) else none)=(restO p).bind fun u=>if 0≤n∧n≤40 then some (wst (dstG p n.toNat u) p.length) else none from rfl]
  cases hu:restO p with
  | none =>
   replace c1:Fn Tryz.prog 108 [chI rows] [] (.tup [lM p,lQ ((restO p).getD []),B (restO p).isSome]) []:=c1
   rw [hu] at c1
   replace c1:Fn Tryz.prog 108 [chI rows] [] (.tup [lM p,lQ [],B false]) []:=c1
   refine VCall.of_data c1 (ndT fun _=>rfl) ?_
   conv=>whnf
   exact ⟨rfl,rfl,trivial,rfl⟩
  | some u =>
   replace c1:Fn Tryz.prog 108 [chI rows] [] (.tup [lM p,lQ ((restO p).getD []),B (restO p).isSome]) []:=c1
   rw [hu] at c1
   replace c1:Fn Tryz.prog 108 [chI rows] [] (.tup [lM p,lQ u,B true]) []:=c1
   refine VCall.of_data c1 (ndT fun _=>rfl) ?_
   conv=>whnf
   refine VCall.of_data c2 (nd _) ?_
   conv=>whnf
   rw [show ((some u).bind fun u=>if 0≤n∧n≤40 then some (wst (dstG p n.toNat u) p.length) else none)=if 0≤n∧n≤40 then some (wst (dstG p n.toNat u) p.length) else none from rfl]
   by_cases hn:0≤n∧n≤40
   ·obtain ⟨k,rfl⟩:∃k:Nat,n=k:=⟨n.toNat,by omega⟩
    have hk:k≤40:=by omega
    have c3:=fn_powerOfChain p k hp hk
    have hz:((cM (powM p k)).length:Int)=p.length:=by rw [cM_len,powM_len]
    have hG:=dstG_sz hp hk hu
    have hw:=fun j=>wst_sz (G:=dstG p k u) (by decide) j fun i _=>hG i
    have hul:=restO_len hu
    have husz:=restO_sz hp hu
    have hn1:=hp.n2
    have k0:=fn_whole 0 (by decide) (by decide)
    have c4:=fn_told (wst (dstG p k u) p.length) (by have:=hw p.length;omega)
    have hd:∀i,i < p.length→Fn Tryz.prog 110 [lQ (afterQ p k (pointQ p.length i)),lQ u] [] (rI (dstG p k u i)) []:=fun i hi=>fn_distanceL _ _ (after_szm hp hk i) husz (by rw [afterQ_len,pointQ_len,hul]) (by rw [afterQ_len,pointQ_len];exact hp.n2)
    rw [decide_eq_true hn,if_pos hn,Int.toNat_natCast]
    obtain ⟨A,eA⟩:∃A:Nat→Rat,wst (dstG p k u)=A:=⟨_,rfl⟩
    have hA0:((0:Int):Rat)=A 0:=by rw [←eA];rfl
    have hAn:∀i,A (i+1)=if A i < dstG p k u i then dstG p k u i else A i:=fun i=>by rw [←eA];rfl
    rw [eA] at hw c4 ⊢
    rw [hA0] at k0
    conv=>whnf
    refine VCall.of_data k0 (ndA fun k=>rfl) ?_
    conv=>whnf
    refine VCall.of_data c3 (nd _) ?_
    conv=>whnf
    rw [hz]
    refine VLoop.inv hty (S:=Nat) (fun i=>[(31,I i),(30,I p.length),(29,lM (powM p k)),(9,.lp 9 0),(7,lQ u)]) (fun i=>[(9,.box true [B (ng (A i)),nI (tp (A i)),nI (A i).den])]) (fun i=>i≤p.length) (fun i=>p.length - i) 0 (Nat.zero_le _)
     ⟨rfl,rfl,rfl,rfl,rfl,trivial⟩ ⟨rfl,trivial⟩ ?_
    intro i hi2
    conv=>whnf
    refine Br.mk (fun h2=>?_) (fun h2=>?_)
    ·have h2:i < p.length:=by simp only [decide_eq_true_eq] at h2;omega
     have hdi:=hd i h2
     have hat:=powM_at (n:=k) h2
     have z1:=hG i
     have z2:=hw i
     have han:=hAn i
     have hpl:=powM_len p k
     obtain ⟨d,ed⟩:∃d,dstG p k u i=d:=⟨_,rfl⟩
     rw [ed] at hdi z1 han
     obtain ⟨w,ew⟩:∃w,afterQ p k (pointQ p.length i)=w:=⟨_,rfl⟩
     rw [ew] at hdi hat
     obtain ⟨x,ex⟩:∃x,A i=x:=⟨_,rfl⟩
     rw [ex] at z2 han ⊢
     have cc:=fn_rcmp d x (by omega) (by omega)
     have hrc:=rcI_pos d x
     conv=>whnf
     refine ⟨⟨⟨by omega,by rw [cM_len];omega⟩,cM_sz _⟩,?_⟩
     conv=>whnf
     refine ⟨_,cM_as (x:=w) (by omega) hat,?_⟩
     conv=>whnf
     refine VCall.of_data hdi (ndA fun k=>rfl) ?_
     conv=>whnf
     refine VCall.of_data cc (nd _) ?_
     conv=>whnf
     refine Br.mk (fun h3=>?_) (fun h3=>?_)
     ·have h3:x < d:=by simp only [decide_eq_true_eq] at h3;rw [decide_eq_decide] at hrc;exact hrc.1 h3
      rw [if_pos h3] at han
      conv=>whnf
      refine Wr.i64 (y:=((i+1:Nat):Int)) rfl (by omega) (by omega) ?_
      conv=>whnf
      refine ⟨i+1,h2,by show p.length - (i+1) < p.length - i;omega,⟨rfl,rfl,rfl,rfl,rfl,trivial⟩,?_,trivial⟩
      rw [han];rfl
     ·have h3:¬x < d:=by simp only [decide_eq_false_iff_not] at h3;rw [decide_eq_decide] at hrc;exact fun e=>h3 (hrc.2 e)
      rw [if_neg h3] at han
      conv=>whnf
      refine Wr.i64 (y:=((i+1:Nat):Int)) rfl (by omega) (by omega) ?_
      conv=>whnf
      refine ⟨i+1,h2,by show p.length - (i+1) < p.length - i;omega,⟨rfl,rfl,rfl,rfl,rfl,trivial⟩,?_,trivial⟩
      rw [han];rfl
    ·have h2:i=p.length:=by simp only [decide_eq_false_iff_not] at h2;omega
     rw [h2]
     conv=>whnf
     refine VCall.of_data c4 (ndT fun _=>rfl) ?_
     conv=>whnf
     exact ⟨rfl,rfl,trivial,rfl⟩
   ·rw [decide_eq_false hn,if_neg hn]
    conv=>whnf
    exact ⟨rfl,rfl,trivial,rfl⟩
theorem fn_sWorstAfter (rows:List (List (List UInt8))) (n:Int) (hi:ChIn rows):Fn Tryz.prog 44 [chI rows,I n] [] (.tup [Str (toldO (worstO rows n)).1,B (toldO (worstO rows n)).2]) []:=by
 refine Fn.intro (ks:=[0,1,2,4,5,6,7,8,9,10,11,12,13,14,25,31,37,47,57]) hty rfl rfl rfl rfl rfl ?_
 conv=>whnf
 unfold worstO
 have c1:=fn_l03Parse rows hi.l hi.r hi.s
 refine VCall.thaw 2 (cs:=[.sl (cTT rows)]) rfl ?_
 cases h:chainQ rows with
 | none =>
  rw [h] at c1
  refine VCall.of_data c1 (ndT fun _=>rfl) ?_
  conv=>whnf
  exact ⟨rfl,rfl,trivial,rfl⟩
 | some p =>
  have hp:=chainQ_ok h
  rw [h] at c1
  replace c1:Fn Tryz.prog 100 [chP rows] [] (.tup [mS p,B true]) []:=c1
  refine VCall.of_data c1 (ndT fun _=>rfl) ?_
  conv=>whnf
  refine VCall.of_data (fn_sSteps n) (nd _) ?_
  conv=>whnf
  rw [show ((some p).bind fun p=>(restO p).bind fun u=>if 0≤n∧n≤40 then some (wst (dstG p n.toNat u) p.length) else none)=(restO p).bind fun u=>if 0≤n∧n≤40 then some (wst (dstG p n.toNat u) p.length) else none from rfl]
  have c2:=fn_sRestO p 9602 hp.toR (by decide)
  by_cases hn:0≤n∧n≤40
  case neg =>
   rw [decide_eq_false hn]
   conv=>whnf
   cases hu:restO p with
   | none=>exact ⟨rfl,rfl,trivial,rfl⟩
   | some u =>
    rw [show ((some u).bind fun u=>if 0≤n∧n≤40 then some (wst (dstG p n.toNat u) p.length) else none)=none by rw [Option.bind_some,if_neg hn]]
    exact ⟨rfl,rfl,trivial,rfl⟩
  rw [decide_eq_true hn]
  conv=>whnf
  refine VCall.thaw 6 (cs:=[.sl (cMS p)]) rfl ?_
  cases hu:restO p with
  | none =>
   rw [hu] at c2
   replace c2:Fn Tryz.prog 102 [mP p] [] (.tup [lS [],B false]) []:=c2
   refine VCall.of_data c2 (ndT fun _=>rfl) ?_
   conv=>whnf
   exact ⟨rfl,rfl,trivial,rfl⟩
  | some u =>
   rw [hu] at c2
   replace c2:Fn Tryz.prog 102 [mP p] [] (.tup [lS u,B true]) []:=c2
   rw [show ((some u).bind fun u=>if 0≤n∧n≤40 then some (wst (dstG p n.toNat u) p.length) else none)=some (wst (dstG p n.toNat u) p.length) by rw [Option.bind_some,if_pos hn]]
   obtain ⟨k,rfl⟩:∃k:Nat,n=k:=⟨n.toNat,by omega⟩
   have hk:k≤40:=by omega
   have hz:((cMS p).length:Int)=p.length:=by rw [cMS_len]
   have hG:=dstG_sz hp hk hu
   have hw:=fun j=>wst_sz (G:=dstG p k u) (by decide) j fun i _=>hG i
   have hul:=restO_len hu
   have husz:=restO_sz hp hu
   have hn1:=hp.n2
   have k0:=fn_sNone
   have c4:=fn_l02Give (wst (dstG p k u) p.length) (by have:=hw p.length;omega)
   have hd:∀i,i < p.length→Fn Tryz.prog 105 [lS (afterQ p k (pointQ p.length i)),lS u] [] (rS (dstG p k u i)) []:=fun i hi=>fn_sDistanceL _ _ (after_szm hp hk i) husz (by rw [afterQ_len,pointQ_len,hul]) (by rw [afterQ_len,pointQ_len];exact hp.n2)
   rw [Int.toNat_natCast]
   obtain ⟨A,eA⟩:∃A:Nat→Rat,wst (dstG p k u)=A:=⟨_,rfl⟩
   have hA0:(0:Rat)=A 0:=by rw [←eA];rfl
   have hAn:∀i,A (i+1)=if A i < dstG p k u i then dstG p k u i else A i:=fun i=>by rw [←eA];rfl
   rw [eA] at hw c4 ⊢
   rw [hA0] at k0
   refine VCall.of_data c2 (ndT fun _=>rfl) ?_
   conv=>whnf
   refine VCall.of_data k0 (ndA fun k=>rfl) ?_
   conv=>whnf
   refine VLoop.inv hty (S:=Nat) (fun i=>[(11,I i),(10,.lp 10 0),(8,lS u),(6,mP p),(1,I k)]) (fun i=>[(10,.box true [B (ng (A i)),nS (tp (A i)),nS (A i).den])]) (fun i=>i≤p.length) (fun i=>p.length - i) 0 (Nat.zero_le _)
    ⟨rfl,rfl,rfl,rfl,rfl,trivial⟩ ⟨rfl,trivial⟩ ?_
   intro i hi2
   conv=>whnf
   rw [hz]
   refine Br.mk (fun h2=>?_) (fun h2=>?_)
   ·have h2:i < p.length:=by simp only [decide_eq_true_eq] at h2;omega
    have hdi:=hd i h2
    have cp:=fn_sPointd p.length i (by omega) h2
    have z1:=hG i
    have z2:=hw i
    have han:=hAn i
    obtain ⟨d,ed⟩:∃d,dstG p k u i=d:=⟨_,rfl⟩
    rw [ed] at hdi z1 han
    obtain ⟨x,ex⟩:∃x,A i=x:=⟨_,rfl⟩
    rw [ex] at z2 han ⊢
    have cc:=fn_sLess2 x d (by omega) (by omega)
    conv=>whnf
    rw [hz]
    refine VCall.of_data cp (nd _) ?_
    conv=>whnf
    refine VLoop.inv hty (S:=Nat) (fun j=>[(13,I j),(12,lS (afterQ p j (pointQ p.length i))),(11,I i),(10,.lp 10 0),(8,lS u),(6,mP p),(1,I k)]) (fun j=>[(10,.box true [B (ng x),nS (tp x),nS x.den])]) (fun j=>j≤k) (fun j=>k - j) 0 (Nat.zero_le _)
     ⟨rfl,rfl,rfl,rfl,rfl,rfl,rfl,trivial⟩ ⟨rfl,trivial⟩ ?_
    intro j hj
    conv=>whnf
    refine Br.mk (fun h4=>?_) (fun h4=>?_)
    ·have h4:j < k:=by simp only [decide_eq_true_eq] at h4;omega
     have hwk:=(pointQ_wk p.length i).after hp j
     have hj2:j*115210≤40*115210:=Nat.mul_le_mul_right _ (by omega)
     have cst:=fn_sStep p _ _ hp hwk (by omega)
     rw [show stepQ p (afterQ p j (pointQ p.length i))=afterQ p (j+1) (pointQ p.length i) from rfl] at cst
     conv=>whnf
     refine VCall.of_data cst (nd _) ?_
     conv=>whnf
     refine Wr.i64 (y:=((j+1:Nat):Int)) rfl (by omega) (by omega) ?_
     conv=>whnf
     exact ⟨j+1,h4,by show k - (j+1) < k - j;omega,⟨rfl,rfl,rfl,rfl,rfl,rfl,rfl,trivial⟩,rfl,trivial⟩
    ·have h4:j=k:=by simp only [decide_eq_false_iff_not] at h4;omega
     rw [h4]
     conv=>whnf
     refine VCall.of_data hdi (ndA fun k=>rfl) ?_
     conv=>whnf
     refine VCall.of_data cc (nd _) ?_
     conv=>whnf
     refine Br.mk (fun h3=>?_) (fun h3=>?_)
     ·have h3:x < d:=by simpa using h3
      rw [if_pos h3] at han
      conv=>whnf
      refine Wr.i64 (y:=((i+1:Nat):Int)) rfl (by omega) (by omega) ?_
      conv=>whnf
      refine ⟨i+1,h2,by show p.length - (i+1) < p.length - i;omega,⟨rfl,rfl,rfl,rfl,rfl,trivial⟩,?_,trivial⟩
      rw [han];rfl
     ·have h3:¬x < d:=fun e=>by rw [decide_eq_true e] at h3;cases h3
      rw [if_neg h3] at han
      conv=>whnf
      refine Wr.i64 (y:=((i+1:Nat):Int)) rfl (by omega) (by omega) ?_
      conv=>whnf
      refine ⟨i+1,h2,by show p.length - (i+1) < p.length - i;omega,⟨rfl,rfl,rfl,rfl,rfl,trivial⟩,?_,trivial⟩
      rw [han];rfl
   ·have h2:i=p.length:=by simp only [decide_eq_false_iff_not] at h2;omega
    rw [h2]
    conv=>whnf
    refine VCall.of_data c4 (ndT fun _=>rfl) ?_
    conv=>whnf
    exact ⟨rfl,rfl,trivial,rfl⟩
end Go.V
namespace Go.V
open Go.Proofs Go.RowKit
set_option maxRecDepth 10000
set_option maxHeartbeats 1000000
theorem law_worstAfter (rows:Tss) (n:Int) (h0:rows.length < 2 ^ 47) (hr0:∀r,r∈rows→r.length < 2 ^ 47) (hs0:∀r,r∈rows→∀x,x∈r→x.length < 2 ^ 47):Fn Tryz.prog 12 [chI rows,I n] [] (B true) []:=by
 have c0:=fn_szChain rows 1000000 (by omega) (fun r hr=>by have:=hr0 r hr;omega) (fun r hr x hx=>by have:=hs0 r hr x hx;omega) (by decide) (by decide)
 refine Fn.intro (ks:=[0,1,2,4,5,6,7,8,9,10,11,12,17,40,45,60]) hty rfl rfl rfl rfl rfl ?_
 conv=>whnf
 refine VCall.of_data c0 (nd _) ?_
 obtain ⟨m,em⟩:∃m,szRR 1000000 rows=m:=⟨_,rfl⟩
 rw [em]
 conv=>whnf
 refine Br.mk (fun h=>?_) (fun h=>?_)
 ·conv=>whnf
  exact ⟨rfl,trivial,rfl⟩
 ·have h:0≤m:=by simpa using h
  have hi:=szRR_in (em▸h) (by decide)
  have cs:=fn_sWorstAfter rows n hi
  have ci:=fn_WorstAfter rows n hi
  generalize toldO (worstO rows n)=r at cs ci
  obtain ⟨r1,r2⟩:=r
  replace cs:Fn Tryz.prog 44 [chI rows,I n] [] (.tup [Str r1,B r2]) []:=cs
  replace ci:Fn Tryz.prog 46 [chI rows,I n] [] (.tup [Str r1,B r2]) []:=ci
  conv=>whnf
  refine VCall.of_data (fn_toChaind rows false hi) (ndA fun k=>rfl) ?_
  conv=>whnf
  refine VCall.of_data cs (ndT fun _=>rfl) ?_
  conv=>whnf
  refine VCall.of_fn (k:=26) (fn_toChain rows hi) namesCh rfl ?_
  conv=>whnf
  refine VCall.lend ci ⟨lend_ch rfl,rfl,trivial⟩ rfl ?_
  conv=>whnf
  rw [show ((⟨r1.toArray⟩:ByteArray).toList == (⟨r1.toArray⟩:ByteArray).toList)=true by simp]
  conv=>whnf
  rw [show (r2 == r2)=true by simp]
  conv=>whnf
  refine VDraw.canon [(45,B false),(7,B r2),(6,Str r1),(2,.lp 2 0),(1,I n)] [(2,.box true [.d (.sl (cTT rows))])] ?_ ?_
  ·refine VDraw.go hmo hty 0 [] rfl ?_
   conv=>whnf
   refine ⟨?_,?_⟩
   ·
    conv=>whnf
    refine VCall.of_fn (k:=43) (fn_toChain rows hi) namesCh rfl ?_
    conv=>whnf
    refine VCall.parN [(1000000,26),(1000001,43)] (fn_intactChain rows hi) ⟨⟨⟨rfl,rfl,rfl,rfl⟩,trivial⟩,⟨⟨rfl,rfl,rfl,rfl⟩,trivial⟩,trivial⟩ ⟨⟨rfl,rfl⟩,⟨rfl,rfl⟩,trivial⟩ rfl rfl rfl rfl ?_
    conv=>whnf
    exact ⟨⟨rfl,rfl,rfl,rfl,rfl,trivial⟩,rfl,trivial⟩
   ·conv=>whnf
    refine ⟨?_,?_⟩
    ·
     conv=>whnf
     refine VCall.of_fn (k:=43) (fn_toChain rows hi) namesCh rfl ?_
     conv=>whnf
     refine VCall.parN [(1000000,26),(1000001,43)] (fn_intactChain rows hi) ⟨⟨⟨rfl,rfl,rfl,rfl⟩,trivial⟩,⟨⟨rfl,rfl,rfl,rfl⟩,trivial⟩,trivial⟩ ⟨⟨rfl,rfl⟩,⟨rfl,rfl⟩,trivial⟩ rfl rfl rfl rfl ?_
     conv=>whnf
     exact ⟨⟨rfl,rfl,rfl,rfl,rfl,trivial⟩,rfl,trivial⟩
    ·
     conv=>whnf
     refine VCall.of_fn (k:=43) (fn_toChain rows hi) namesCh rfl ?_
     conv=>whnf
     refine VCall.parN [(1000000,26),(1000001,43)] (fn_intactChain rows hi) ⟨⟨⟨rfl,rfl,rfl,rfl⟩,trivial⟩,⟨⟨rfl,rfl,rfl,rfl⟩,trivial⟩,trivial⟩ ⟨⟨rfl,rfl⟩,⟨rfl,rfl⟩,trivial⟩ rfl rfl rfl rfl ?_
     conv=>whnf
     exact ⟨⟨rfl,rfl,rfl,rfl,rfl,trivial⟩,rfl,trivial⟩
  conv=>whnf
  refine VCall.of_data (fn_toChaind rows true hi) (ndA fun k=>rfl) ?_
  conv=>whnf
  refine VCall.of_data ci (ndT fun _=>rfl) ?_
  conv=>whnf
  rw [show ((⟨r1.toArray⟩:ByteArray).toList == (⟨r1.toArray⟩:ByteArray).toList)=true by simp]
  conv=>whnf
  rw [show (r2 == r2)=true by simp]
  conv=>whnf
  exact ⟨rfl,trivial,rfl⟩
end Go.V
