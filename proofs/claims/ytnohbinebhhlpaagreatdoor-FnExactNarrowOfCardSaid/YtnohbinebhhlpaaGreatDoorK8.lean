/- Part 8: the abstract machine, its soundness, contracts of functions. -/
import Derived.Test.YtnohbinebhhlpaaGreatDoorK7
set_option linter.unusedVariables false
set_option linter.unusedSimpArgs false
namespace Go.V
def cf (S:List Bool):Nat:=(S.filter fun b=>!b).length
theorem cf_set:∀{S:List Bool} {j:Nat},j < S.length→S.getD j false=false→cf (S.set j true)+1=cf S
 | b :: S,0,_,h=>by
  have:b=false:=by simpa using h
  subst this;simp [cf]
 | b :: S,j+1,hj,h=>by
  have ih:=cf_set (S:=S) (j:=j) (by simpa using hj) (by simpa using h);unfold cf at ih ⊢;cases b <;> simp at ih ⊢ <;> omega
theorem cf_rep (n:Nat):cf (List.replicate n false)=n:=by
 induction n with
 | zero=>rfl
 | succ n ih=>unfold cf at ih ⊢;rw [List.replicate_succ];simp
theorem seen_all {n i:Nat} {m:Fm} {S:List Bool} (hl:S.length=n) (hi:i < n) (h0:S.getD i false=true) (h1:∀x,x < n→S.getD x false=true→Rc n m i x)
  (h2:∀x y,x < n→y < n→S.getD x false=true→0 < m x y→S.getD y false=true):S=(List.range n).map (rb n m i):=by
 apply List.ext_getElem (by simp [hl]);intro x hx _;have hxn:x < n:=by omega
 have e:S.getD x false=S[x]:=by rw [gD,List.getElem?_eq_getElem hx];rfl
 rw [List.getElem_map,List.getElem_range,←e];cases hs:S.getD x false with
 | true=>exact (rb_iff.2 (h1 x hxn hs)).symm
 | false =>
  cases hr:rb n m i x with
  | false=>rfl
  | true =>
   have:=(rb_iff.1 hr).keep (T:=fun x=>S.getD x false=true) (fun a b ha hb h3 h4=>h2 a b ha hb h3 h4) hi h0;rw [hs] at this;cases this
theorem rb_self {n i:Nat} {m:Fm}:rb n m i i=true:=rb_iff.2 .refl
theorem rb_trans {n i j k:Nat} {m:Fm} (h:rb n m i j=true) (h2:rb n m j k=true):rb n m i k=true:=rb_iff.2 ((rb_iff.1 h).trans (rb_iff.1 h2))
structure Bf (n i:Nat) (m:Fm) (S:List Bool) (Q:List Nat):Prop where
 len:S.length=n
 bound:cf S+Q.length≤n
 wait:∀x,x∈Q→x < n∧S.getD x false=true
 own:S.getD i false=true
 path:∀x,x < n→S.getD x false=true→Rc n m i x
def Dn (n:Nat) (m:Fm) (S:List Bool) (x:Nat):Prop:=∀y,y < n→0 < m x y→S.getD y false=true
theorem Bf.init {n i:Nat} {m:Fm} (hi:i < n):Bf n i m ((List.replicate n false).set i true) [i]:=by
 have hr:∀x,(List.replicate n false).getD x false=false:=fun x=>by rw [gD,List.getElem?_replicate];split <;> rfl
 have hs:∀x,((List.replicate n false).set i true).getD x false=if x=i then true else (List.replicate n false).getD x false:=fun x=>gsetD (by simpa using hi)
 have hc:=cf_set (S:=List.replicate n false) (j:=i) (by simpa using hi) (hr i)
 rw [cf_rep] at hc
 refine ⟨by simp,by simp;omega,fun x hx=>?_,by rw [hs,if_pos rfl],fun x hx h=>?_⟩
 ·rw [List.mem_singleton.1 hx];exact ⟨hi,by rw [hs,if_pos rfl]⟩
 ·rw [hs,hr] at h
  by_cases e:x=i
  ·subst e;exact .refl
  ·rw [if_neg e] at h;cases h
theorem Bf.push {n i a j:Nat} {m:Fm} {S:List Bool} {Q:List Nat} (h:Bf n i m S Q) (ha:a < n) (hsa:S.getD a false=true) (hj:j < n) (h0:0 < m a j) (hs:S.getD j false=false):Bf n i m (S.set j true) (Q++[j]):=by
 have hg:∀x,(S.set j true).getD x false=if x=j then true else S.getD x false:=fun x=>gsetD (by rw [h.len];exact hj)
 have hc:=cf_set (S:=S) (j:=j) (by rw [h.len];exact hj) hs
 have hb:=h.bound
 refine ⟨by rw [List.length_set,h.len],by rw [List.length_append,List.length_singleton];omega,fun x hx=>?_,?_,fun x hx hh=>?_⟩
 ·rw [hg]
  rcases List.mem_append.1 hx with e | e
  ·have:=h.wait x e
   exact ⟨this.1,by split;rfl;exact this.2⟩
  ·rw [List.mem_singleton.1 e];exact ⟨hj,if_pos rfl⟩
 ·rw [hg];split;rfl;exact h.own
 ·rw [hg] at hh
  by_cases e:x=j
  ·subst e;exact (h.path a ha hsa).step hj h0
  ·rw [if_neg e] at hh;exact h.path x hx hh
theorem Bf.pop {n i a:Nat} {m:Fm} {S:List Bool} {Q:List Nat} (h:Bf n i m S (a :: Q)):Bf n i m S Q :=
 ⟨h.len,by have:=h.bound;simp at this;omega,fun x hx=>h.wait x (List.mem_cons_of_mem _ hx),h.own,h.path⟩
theorem Dn.mono {n j x:Nat} {m:Fm} {S:List Bool} (hS:j < S.length) (h:Dn n m S x):Dn n m (S.set j true) x:=fun y hy h1=>by
 rw [gsetD hS];split;rfl;exact h y hy h1
theorem Bf.fin {n i:Nat} {m:Fm} {S:List Bool} {Q:List Nat} (h:Bf n i m S Q) (hi:i < n) (hd:∀x,x < n→S.getD x false=true→Dn n m S x):S=(List.range n).map (rb n m i) :=
 seen_all h.len hi h.own h.path fun x y hx hy h1 h2=>hd x hx h1 y hy h2
end Go.V
namespace Go.V
open Go.Proofs Go.RowKit
set_option maxRecDepth 10000
set_option maxHeartbeats 1000000
theorem cN_len (l:List Nat):(cW .i64 l).length=l.length:=by simp [cW]
theorem cN_sz (l:List Nat):∀r,r∈cW .i64 l→r.length=1:=by
 intro r hr;simp only [cW,List.mem_map] at hr;obtain ⟨n,_,rfl⟩:=hr;rfl
theorem cN_app (l:List Nat) (x:Nat):cW .i64 l++[[.s (.int .i64 x)]]=cW .i64 (l++[x]):=by simp [cW]
theorem cN_drop (X Q:List Nat):((cW .i64 (X++Q)).drop X.length).take Q.length=cW .i64 Q:=by
 unfold cW
 rw [List.map_append,List.drop_append,List.drop_of_length_le (by simp),List.length_map,Nat.sub_self,List.drop_zero,List.nil_append,List.take_of_length_le (by simp)]
theorem cN_mid (X Q:List Nat) (a:Nat):(cW .i64 (X++a :: Q))[0+X.length]? = some [.s (.int .i64 a)]:=by
 unfold cW
 rw [Nat.zero_add,List.getElem?_map,List.getElem?_append_right (Nat.le_refl _),Nat.sub_self];rfl
theorem cBo_rep (n:Nat) (b:Bool):cBo (List.replicate n b)=List.replicate n [.s (.bool b)]:=by simp [cBo]
theorem MtR.ent_sz {p:Mt} {t i j:Nat} (h:MtR p t) (hi:i < p.length) (hj:j < p.length):Go.V.sz (ent p i j) < t :=
 (h.row _ (getD_mem hi)).sz (getD_mem (by rw [h.sq _ (getD_mem hi)];exact hj))
theorem MtR.rlen {p:Mt} {t i:Nat} (h:MtR p t) (hi:i < p.length):(p.getD i []).length=p.length:=h.sq _ (getD_mem hi)
theorem sgI_pos0 {q:Rat} (h:0≤q):decide (0 < sgI q)=decide (0 < q):=by
 rw [sgI_gt h]
 by_cases e:q=0
 ·subst e;rfl
 ·rw [decide_eq_false e,decide_eq_true (by grind)];rfl
theorem fn_reach (p:Mt) (t i:Nat) (hp:MtR p t) (ht:t≤1000000000) (hi:i < p.length):Fn Tryz.prog 233 [lM p,I i] [] (lBo ((List.range p.length).map (rb p.length (ent p) i))) []:=by
 have hz:((cM p).length:Int)=p.length:=by rw [cM_len]
 have n2:=hp.n2;obtain ⟨n,en⟩:∃n,p.length=n:=⟨_,rfl⟩;have g:Fn Tryz.prog 233 [lM p,I i] [] (.ls 0 0 n 1) [(0,.row true 1 (cBo ((List.range n).map (rb n (ent p) i))))]:=by
  refine Fn.intro (ks:=[0,1,4,5,6,7,8,19,27,28,29,30,43]) hty rfl rfl rfl rfl rfl ?_;conv=>whnf
  rw [hz,en];refine ⟨⟨by omega,by omega,by show (n:Int)*((1:Nat):Int)≤_;omega,by omega⟩,?_⟩;conv=>whnf
  refine ⟨by omega,?_⟩;conv=>whnf
  refine ⟨_,by rw [show (n:Int).toNat=n by omega];exact (by rw [←cBo_rep];exact cBo_as (x:=false) (by rw [List.length_replicate];omega) (by rw [gD,List.getElem?_replicate];split <;> rfl):(List.replicate n [C.s (.bool false)])[i]? = some _),?_⟩;conv=>whnf
  refine VLoop.ren 16 50 rfl ?_;refine VLoop.inv hty (S:=List Bool×List Nat×List Nat) (fun s=>[(6,.ls 50 s.2.1.length s.2.2.length 1),(5,.ls 11 0 n 1),(0,lM p)]) (fun s=>[(50,.row true 1 (cW .i64 (s.2.1++s.2.2))),(11,.row true 1 (cBo s.1))])
   (fun s=>Bf n i (ent p) s.1 s.2.2∧∀x,x < n→s.1.getD x false=true→x∈s.2.2∨Dn n (ent p) s.1 x) (fun s=>cf s.1+s.2.2.length) ((List.replicate n false).set i true,[],[i])
   ⟨Bf.init (by omega),fun x hx h=>.inl ?_⟩ ⟨rfl,?_,rfl,trivial⟩ ⟨rfl,?_,trivial⟩ ?_
  ·have hs:((List.replicate n false).set i true).getD x false=if x=i then true else (List.replicate n false).getD x false:=gsetD (by simpa using (by omega:i < n))
   have hr:(List.replicate n false).getD x false=false:=by rw [gD,List.getElem?_replicate];split <;> rfl
   rw [hs,hr] at h;by_cases e:x=i
   ·subst e;simp
   ·rw [if_neg e] at h;cases h
  ·show AV.ls 11 0 (n:Int).toNat 1=_;rw [show (n:Int).toNat=n by omega]
  ·show Ob.row true 1 ((List.replicate (n:Int).toNat [C.s (.bool false)]).set i [.s (.bool true)])=_;rw [show (n:Int).toNat=n by omega,←cBo_rep,cBo_set]
  rintro ⟨S,X,Q⟩ ⟨hB,hD⟩;cases Q with
  | nil =>
   conv=>whnf
   have e:=hB.fin (by omega) fun x hx h=>(hD x hx h).resolve_left (by simp);dsimp only at e;rw [e];exact ⟨⟨rfl,rfl,rfl,rfl,rfl,rfl⟩,[],rfl,trivial,rfl⟩
  | cons a Q =>
   obtain ⟨ha,hsa⟩:=hB.wait a (by simp);conv=>whnf
   refine Br.mk (fun hb=>?_) (fun hb=>by simp only [decide_eq_false_iff_not] at hb;exact absurd (show (0:Int) < ((Q.length+1:Nat):Int) by omega) hb);conv=>whnf
   refine ⟨by show (0:Int)≤0∧(0:Int) < ((Q.length+1:Nat):Int);omega,?_⟩;conv=>whnf
   refine ⟨_,cN_mid X Q a,?_⟩;conv=>whnf
   refine ⟨⟨⟨by omega,by rw [cM_len];omega⟩,cM_sz _⟩,?_⟩;conv=>whnf
   refine ⟨_,cM_as (x:=p.getD a []) (by omega) rfl,?_⟩;conv=>whnf
   have hra:(p.getD a []).length=n:=by rw [hp.rlen (by omega),en]
   have hzr:((cQ (p.getD a [])).length:Int)=n:=by rw [cQ_len,hra]
   rw [hzr];refine VLoop.inv hty (S:=Nat×List Bool×List Nat×List Nat) (fun s=>[(29,I s.1),(28,I n),(27,lQ (p.getD a [])),(6,.ls 50 s.2.2.1.length (s.2.2.2.length+1) 1),(5,.ls 11 0 n 1),(0,lM p)]) (fun s=>[(50,.row true 1 (cW .i64 (s.2.2.1++a :: s.2.2.2))),(11,.row true 1 (cBo s.2.1))])
    (fun s=>s.1≤n∧Bf n i (ent p) s.2.1 (a :: s.2.2.2)∧(∀x,x < n→s.2.1.getD x false=true→x∈a :: s.2.2.2∨Dn n (ent p) s.2.1 x)∧(∀y,y < s.1→0 < ent p a y→s.2.1.getD y false=true)∧cf s.2.1+s.2.2.2.length=cf S+Q.length) (fun s=>n - s.1) (0,S,X,Q)
    ⟨Nat.zero_le _,hB,hD,fun y hy=>absurd hy (Nat.not_lt_zero _),rfl⟩ ⟨rfl,rfl,rfl,rfl,rfl,rfl,trivial⟩ ⟨rfl,rfl,trivial⟩ ?_
   rintro ⟨j,S2,X2,Q2⟩ ⟨hj,hB2,hD2,hy2,hc2⟩;dsimp only at hj hB2 hD2 hy2 hc2;conv=>whnf
   refine Br.mk (fun h=>?_) (fun h=>?_)
   ·have h:j < n:=by simp only [decide_eq_true_eq] at h;exact Int.ofNat_lt.1 h
    have hsz:=hp.ent_sz (i:=a) (j:=j) (by omega) (by omega);have hpos:=hp.sto.pos a j (by omega) (by omega);have hl2:=hB2.len;have hb2:=hB2.bound;have c1:=fn_sign (ent p a j) (by omega);have hsg:=sgI_pos0 hpos;generalize sgI (ent p a j)=sg at c1 hsg;conv=>whnf
    refine ⟨⟨⟨by omega,by rw [cQ_len,hra];omega⟩,cQ_sz _⟩,?_⟩;conv=>whnf
    refine ⟨_,cQ_as (x:=ent p a j) (by rw [hra];exact h) rfl,?_⟩;conv=>whnf
    refine VCall.of_data c1 (nd _) ?_;conv=>whnf
    rw [hsg];by_cases h0:0 < ent p a j
    ·rw [decide_eq_true h0];conv=>whnf
     refine ⟨by show (0:Int)≤(j:Int)∧(j:Int) < (n:Int);omega,?_⟩;conv=>whnf
     refine ⟨_,cBo_as (xs:=S2) (x:=S2.getD j false) (by rw [hl2];exact h) rfl,?_⟩;conv=>whnf
     cases hs:S2.getD j false with
     | false =>
      conv=>whnf
      refine ⟨by show (0:Int)≤(j:Int)∧(j:Int) < (n:Int);omega,?_⟩;conv=>whnf
      refine ⟨_,cBo_as (xs:=S2) (x:=S2.getD j false) (by rw [hl2];exact h) rfl,?_⟩;conv=>whnf
      refine Sub.full rfl ?_;conv=>whnf
      refine Sub.mk _ (cN_drop X2 (a :: Q2)) (by rw [cN_len];simp) ?_;conv=>whnf
      refine ⟨by show ((Q2.length+1)+1)*8≤_;simp at hb2;omega,?_⟩;conv=>whnf
      refine Wr.i64 (y:=((j+1:Nat):Int)) rfl (by omega) (by omega) ?_;conv=>whnf
      have hpu:=hB2.push ha (hB2.wait a (by simp)).2 h h0 hs;have hcs:=cf_set (S:=S2) (j:=j) (by rw [hl2];exact h) hs;refine ⟨(j+1,S2.set j true,[],Q2++[j]),⟨h,hpu,fun x hx h1=>?_,fun y hy h1=>?_,?_⟩,by show n - (j+1) < n - j;omega,⟨rfl,rfl,rfl,?_,rfl,rfl,trivial⟩,?_,?_,trivial⟩
      ·dsimp only at h1 ⊢;rw [gsetD (by omega)] at h1;by_cases e:x=j
       ·left;rw [e];simp
       ·rw [if_neg e] at h1;rcases hD2 x hx h1 with h3 | h3
        ·left
         rcases List.mem_cons.1 h3 with h4 | h4
         ·rw [h4];simp
         ·simp [h4]
        ·exact .inr (h3.mono (by omega))
      ·dsimp only at hy ⊢;rw [gsetD (by omega)];by_cases e:y=j
       ·rw [if_pos e]
       ·rw [if_neg e];exact hy2 y (by omega) h1
      ·dsimp only;rw [List.length_append,List.length_singleton];omega
      ·show AV.ls 50 0 ((Q2.length+1)+1) 1=AV.ls 50 0 ((Q2++[j]).length+1) 1;rw [List.length_append,List.length_singleton]
      ·show Ob.row true 1 (cW .i64 (a :: Q2)++[[.s (.int .i64 j)]])=_;rw [cN_app];rfl
      ·show Ob.row true 1 ((cBo S2).set j [.s (.bool true)])=_;rw [cBo_set]
     | true =>
      conv=>whnf
      refine Wr.i64 (y:=((j+1:Nat):Int)) rfl (by omega) (by omega) ?_;conv=>whnf
      refine ⟨(j+1,S2,X2,Q2),⟨h,hB2,hD2,fun y hy h1=>?_,hc2⟩,by show n - (j+1) < n - j;omega,⟨rfl,rfl,rfl,rfl,rfl,rfl,trivial⟩,rfl,rfl,trivial⟩;by_cases e:y=j
      ·rw [e];exact hs
      ·exact hy2 y (by dsimp only at hy;omega) h1
    ·rw [decide_eq_false h0];conv=>whnf
     refine Wr.i64 (y:=((j+1:Nat):Int)) rfl (by omega) (by omega) ?_;conv=>whnf
     refine ⟨(j+1,S2,X2,Q2),⟨h,hB2,hD2,fun y hy h1=>?_,hc2⟩,by show n - (j+1) < n - j;omega,⟨rfl,rfl,rfl,rfl,rfl,rfl,trivial⟩,rfl,rfl,trivial⟩;by_cases e:y=j
     ·rw [e] at h1;exact absurd h1 h0
     ·exact hy2 y (by dsimp only at hy;omega) h1
   ·have h:j=n:=by simp only [decide_eq_false_iff_not] at h;omega
    rw [h] at hy2;conv=>whnf
    refine ⟨by show (0:Int)≤1∧(1:Int)≤((Q2.length+1:Nat):Int)∧((Q2.length+1:Nat):Int).toNat+X2.length≤(cW .i64 (X2++a :: Q2)).length;rw [cN_len];simp;omega,?_⟩;conv=>whnf
    refine ⟨(S2,X2++[a],Q2),⟨hB2.pop,fun x hx h1=>?_⟩,?_,⟨?_,rfl,rfl,trivial⟩,?_,rfl,trivial⟩
    ·rcases hD2 x hx h1 with h3 | h3
     ·rcases List.mem_cons.1 h3 with h4 | h4
      ·right;rw [h4];exact hy2
      ·exact .inl h4
     ·exact .inr h3
    ·show cf S2+Q2.length < cf S+(Q.length+1);omega
    ·show AV.ls 50 _ _ 1=AV.ls 50 (X2++[a]).length Q2.length 1;rw [List.length_append,List.length_singleton];show AV.ls 50 _ _ 1=_
     congr 1
     ·show Int.toNat 1+X2.length=_;rw [Nat.add_comm];rfl
     ·show (((Q2.length+1:Nat):Int) - 1).toNat=_;omega
    ·show Ob.row true 1 (cW .i64 (X2++a :: Q2))=Ob.row true 1 (cW .i64 ((X2++[a])++Q2));rw [List.append_assoc];rfl
 have:=g.freeze (by rw [cBo_len];simp);rw [←en] at this;rwa [List.drop_zero,List.take_of_length_le (by rw [cBo_len];simp)] at this
end Go.V
namespace Go.V
open Go.Proofs Go.RowKit
set_option maxRecDepth 10000
set_option maxHeartbeats 1000000
abbrev zrZ:List C:=[.s (.int .i64 0)]
theorem cZ_append (xs ys:List Int):cI xs++cI ys=cI (xs++ys):=by simp [cI]
def repZ (a:Int) (n k:Nat):List (List C):=cI (List.replicate k a)++List.replicate (n - k) zrZ
theorem repZ_len {a:Int} {n k:Nat} (h:k≤n):(repZ a n k).length=n:=by
 unfold repZ;rw [List.length_append,cI_len,List.length_replicate,List.length_replicate];omega
theorem repZ_all (a:Int) (n:Nat):repZ a n n=cI (List.replicate n a):=by unfold repZ;rw [Nat.sub_self];simp
theorem cZ_take (xs:List Int) (k:Nat):(cI xs).take k=cI (xs.take k):=by unfold cI;rw [List.map_take]
theorem repZ_copy {a:Int} {n k m:Nat} (h:k≤n) (hm:m≤n - k) (hk:m≤k):(repZ a n k).take k++(((repZ a n k).take k).take m++(repZ a n k).drop (k+m))=repZ a n (k+m):=by
 have e1:(repZ a n k).take k=cI (List.replicate k a):=by
  unfold repZ
  rw [List.take_append_of_le_length (by rw [cI_len,List.length_replicate];exact Nat.le_refl _),List.take_of_length_le (by rw [cI_len,List.length_replicate];exact Nat.le_refl _)]
 have e2:(repZ a n k).drop (k+m)=List.replicate (n - (k+m)) zrZ:=by
  unfold repZ
  rw [List.drop_append,List.drop_of_length_le (by rw [cI_len,List.length_replicate];omega),cI_len,List.length_replicate,List.drop_replicate]
  rw [List.nil_append];congr 1;omega
 rw [e1,e2,cZ_take,List.take_replicate,Nat.min_eq_left hk,←List.append_assoc,cZ_append,List.replicate_append_replicate]
 rfl
theorem fn_slRepeatI (a:Int) (n:Nat) (h1:1≤n) (hn:n≤20):Fn Tryz.prog 206 [.d (.sl (cI [a])),I n] [] (.ls 0 0 n 1) [(0,.row true 1 (cI (List.replicate n a)))]:=by
 refine Fn.intro (ks:=[0,1,4,5,6,7,8,10,26,37]) hty rfl rfl rfl rfl rfl ?_;conv=>whnf
 rw [show decide ((n:Int) < 0)=false by simp];conv=>whnf
 refine Wr.n64 (n:=1) (by rw [cI_len];rfl) (by omega) ?_;conv=>whnf
 refine Wr.n64 (n:=n) rfl (by omega) ?_;conv=>whnf
 refine VCall.of_data (fn_Mul n (by omega)) (ndT fun _=>rfl) ?_;conv=>whnf
 rw [show decide (((9223372036854775807:Int)) < (n:Int))=false by simp;omega];conv=>whnf
 refine Wr.fit (wrap_i64 (by omega) (by omega)) ?_;conv=>whnf
 refine ⟨⟨by omega,by omega,by show (n:Int)*((8:Nat):Int)≤_;omega,by omega⟩,?_⟩;conv=>whnf
 refine ⟨cI_sz _,?_⟩;conv=>whnf
 refine ⟨by show 0+((n:Int)).toNat≤(List.replicate ((n:Int)).toNat _).length;rw [List.length_replicate];omega,?_⟩;conv=>whnf
 have e0:List.take 0 (List.replicate ((n:Int)).toNat zrZ)++((cI [a]).take (Nat.min 1 ((n:Int)).toNat)++(List.replicate ((n:Int)).toNat zrZ).drop (0+Nat.min 1 ((n:Int)).toNat))=repZ a n 1:=by
  rw [show ((n:Int)).toNat=n by omega,show Nat.min 1 n=1 from Nat.min_eq_left h1,List.drop_replicate];unfold repZ;rw [List.take_zero,List.nil_append,List.take_of_length_le (by rw [cI_len];simp)]
  rfl
 refine VLoop.inv hty (S:=Nat) (fun k=>[(8,I k),(7,.ls 30 0 n 1)]) (fun k=>[(30,.row true 1 (repZ a n k))]) (fun k=>1≤k∧k≤n) (fun k=>n - k) 1 ⟨Nat.le_refl _,h1⟩
  ⟨?_,?_,trivial⟩ ⟨?_,trivial⟩ ?_
 ·show I ((Nat.min 1 ((n:Int)).toNat:Nat):Int)=I 1;rw [show Nat.min 1 ((n:Int)).toNat=1 from Nat.min_eq_left (by omega)];rfl
 ·show AV.ls 30 0 ((n:Int)).toNat 1=AV.ls 30 0 n 1;rw [show ((n:Int)).toNat=n by omega]
 ·rw [←e0];rfl
 rintro k ⟨hk1,hk2⟩;conv=>whnf
 refine Br.mk (fun h=>?_) (fun h=>?_)
 ·have h:k < n:=by simp only [decide_eq_true_eq] at h;omega
  have hl:=repZ_len (a:=a) hk2;have g1:(0≤(k:Int)∧(k:Int)≤n∧((n:Int)).toNat+0≤(repZ a n k).length):=⟨by omega,by omega,by rw [hl];omega⟩;have g2:(0≤(0:Int)∧(0:Int)≤k∧((k:Int)).toNat+0≤(repZ a n k).length):=⟨by omega,by omega,by rw [hl];omega⟩;have hc:=repZ_copy (a:=a) (n:=n) (k:=k) (m:=min k (n - k)) hk2 (Nat.min_le_right _ _) (Nat.min_le_left _ _);have hmin:1≤min k (n - k):=by omega
  conv=>whnf
  have hs:(0:Int).toNat+0+((k:Int) - 0).toNat≤(repZ a n k).length:=by rw [hl];omega
  have hd:(k:Int).toNat+0+((n:Int) - (k:Int)).toNat≤(repZ a n k).length:=by rw [hl];omega
  have hmm:Nat.min ((k:Int) - 0).toNat ((n:Int) - (k:Int)).toNat=min k (n - k):=by
   show min _ _=_;rw [show ((k:Int) - 0).toNat=k by omega,show ((n:Int) - (k:Int)).toNat=n - k by omega]
  refine VDraw.goS hmo hty [0,1,2,4,5] rfl ?_;conv=>whnf
  repeat' (first
   | (refine ⟨g1,?_⟩;conv=>whnf)
   | (refine ⟨g2,?_⟩;conv=>whnf)
   | (refine Sub.lo hs ?_;conv=>whnf)
   | (refine ⟨hd,?_⟩;conv=>whnf)
   | (refine Wr.i64 (y:=((k+min k (n - k):Nat):Int)) (by rw [hmm];rfl) (by omega) (by omega) ?_;conv=>whnf)
   | (refine ⟨k+min k (n - k),⟨by omega,by omega⟩,by show n - (k+min k (n - k)) < n - k;omega,⟨rfl,rfl,trivial⟩,?_,trivial⟩;rw [←hc,←hmm];rfl)
   | (refine ⟨?_,?_⟩ <;> conv=>whnf))
 ·have h:k=n:=by simp only [decide_eq_false_iff_not] at h;omega
  subst h;rw [repZ_all];conv=>whnf
  exact ⟨⟨rfl,rfl,rfl,rfl,rfl,rfl⟩,[],rfl,trivial,rfl⟩
theorem Fn.freezeT2 {P:Program} {f:FuncId} {xs:List AV} {n s m s2:Nat} {rows rows2:List (List C)} (h:Fn P f xs [] (.tup [.ls 0 0 n s,.ls 1 0 m s2]) [(0,.row true s rows),(1,.row true s2 rows2)]) (hn:rows.length=n) (hm:rows2.length=m) :
  Fn P f xs [] (.tup [.d (.sl rows),.d (.sl rows2)]) [] where
 en:=h.en
 out:=fun κ ρ w vs hmm hs hv=>(h.out κ ρ w vs hmm hs hv).mono fun e w' ⟨v,κ',ρ',h1,h2,h3,h4⟩=>by
  have hob:=h3.ob 0
  obtain ⟨L,_,_,_,hL,_⟩:=hob
  obtain ⟨κ1,g1,g2,_,g4⟩:=h3.freeze (id:=0) rfl hL
  have hob2:=g2.ob 1
  obtain ⟨L2,_,_,_,hL2,_⟩:=hob2
  obtain ⟨κ2,k1,k2,_,k4⟩:=g2.freeze (id:=1) rfl hL2
  obtain ⟨us,rfl,hn',hu⟩:=h4.tuple
  refine ⟨_,κ2,_,h1,Know.le_trans h2 (Know.le_trans g1 k1),k2,.tup us _ (by simpa using hn') fun k u c hk hc=>?_⟩
  match k,hc with
  | 0,hc =>
   simp at hc;subst hc
   have:=g4 u 0 n (hu 0 u _ hk rfl) (by omega)
   rw [List.drop_zero,List.take_of_length_le (by omega)] at this
   exact (this.mono k1).gone
  | 1,hc =>
   simp at hc;subst hc
   have:=k4 u 0 m ((hu 1 u _ hk rfl).mono g1).gone (by omega)
   rwa [List.drop_zero,List.take_of_length_le (by omega)] at this
  | k+2,hc=>simp at hc
def cBB (rs:List (List Bool)):List (List C):=rs.map fun r=>[.sl (cBo r)]
theorem cBB_len (rs:List (List Bool)):(cBB rs).length=rs.length:=by simp [cBB]
theorem cBB_sz (rs:List (List Bool)):∀r,r∈cBB rs→r.length=1:=by
 intro r hr;simp only [cBB,List.mem_map] at hr;obtain ⟨n,_,rfl⟩:=hr;rfl
theorem cBB_as {rs:List (List Bool)} {i:Nat} {x:List Bool} (h:i < rs.length) (e:rs.getD i []=x):(cBB rs)[i]? = some [.sl (cBo x)]:=by
 subst e;rw [gD,List.getElem?_eq_getElem h];simp [cBB,h]
theorem cBB_app (rs:List (List Bool)) (r:List Bool):cBB rs++[[.sl (cBo r)]]=cBB (rs++[r]):=by simp [cBB]
noncomputable def rchL (n:Nat) (m:Fm) (k:Nat):List (List Bool):=(List.range k).map fun i=>(List.range n).map (rb n m i)
theorem rchL_len (n:Nat) (m:Fm) (k:Nat):(rchL n m k).length=k:=by simp [rchL]
theorem rchL_next (n:Nat) (m:Fm) (k:Nat):rchL n m (k+1)=rchL n m k++[(List.range n).map (rb n m k)]:=by unfold rchL;rw [List.range_succ,List.map_append];rfl
theorem rchL_at {n k i:Nat} {m:Fm} (h:i < k):(rchL n m k).getD i []=(List.range n).map (rb n m i):=map_at h
theorem fn_reaches (p:Mt) (t:Nat) (hp:MtR p t) (ht:t≤1000000000):Fn Tryz.prog 205 [lM p] [] (.d (.sl (cBB (rchL p.length (ent p) p.length)))) []:=by
 have hz:((cM p).length:Int)=p.length:=by rw [cM_len]
 have n2:=hp.n2;have g:Fn Tryz.prog 205 [lM p] [] (.ls 0 0 p.length 1) [(0,.row true 1 (cBB (rchL p.length (ent p) p.length)))]:=by
  refine Fn.intro (ks:=[0,2,3,4,7,8,9]) hty rfl rfl rfl rfl rfl ?_;conv=>whnf
  rw [hz];refine VLoop.ren 5 16 rfl ?_;refine VLoop.inv hty (S:=Nat) (fun k=>[(8,I k),(7,I p.length),(3,.ls 16 0 k 1),(0,lM p)]) (fun k=>[(16,.row true 1 (cBB (rchL p.length (ent p) k)))]) (fun k=>k≤p.length) (fun k=>p.length - k) 0 (Nat.zero_le _)
   ⟨rfl,rfl,rfl,rfl,trivial⟩ ⟨rfl,trivial⟩ ?_
  intro k hk;conv=>whnf
  refine Br.mk (fun h=>?_) (fun h=>?_)
  ·have h:k < p.length:=by simp only [decide_eq_true_eq] at h;omega
   have c:=fn_reach p t k hp ht h;conv=>whnf
   refine VCall.of_data c (nd _) ?_;conv=>whnf
   refine Sub.full rfl ?_;conv=>whnf
   refine Sub.full (by rw [cBB_len,rchL_len]) ?_;conv=>whnf
   refine ⟨by show (k+1)*24≤_;omega,?_⟩;conv=>whnf
   refine Wr.i64 (y:=((k+1:Nat):Int)) rfl (by omega) (by omega) ?_;conv=>whnf
   refine ⟨k+1,h,by show p.length - (k+1) < p.length - k;omega,⟨rfl,rfl,rfl,rfl,trivial⟩,?_,trivial⟩;show Ob.row true 1 (cBB _++[[.sl (cBo _)]])=_;rw [cBB_app,←rchL_next]
  ·have h:k=p.length:=by simp only [decide_eq_false_iff_not] at h;omega
   rw [h];conv=>whnf
   exact ⟨⟨rfl,rfl,rfl,rfl,rfl,rfl⟩,[],rfl,trivial,rfl⟩
 have:=g.freeze (by rw [cBB_len,rchL_len];omega);rwa [List.drop_zero,List.take_of_length_le (by rw [cBB_len,rchL_len];omega)] at this
def outC (n:Nat) (r:Nat→Nat→Bool) (o:List Int) (c i j:Nat):List Int:=(List.range n).map fun k=>if k < j∧r i k=true∧r k i=true then (c:Int) else o.getD k 0
def shutC (r:Nat→Nat→Bool) (i j:Nat):Bool:=(List.range j).all fun k=>!r i k || r k i
theorem outC_zero {n:Nat} {r:Nat→Nat→Bool} {o:List Int} {c i:Nat} (ho:o.length=n):outC n r o c i 0=o:=by
 apply List.ext_getElem (by simp [outC,ho])
 intro k h1 h2
 simp [outC,h2]
theorem outC_len (n:Nat) (r:Nat→Nat→Bool) (o:List Int) (c i j:Nat):(outC n r o c i j).length=n:=by simp [outC]
theorem outC_set {n:Nat} {r:Nat→Nat→Bool} {o:List Int} {c i j:Nat} (hj:j < n) (h:r i j=true∧r j i=true):(outC n r o c i j).set j (c:Int)=outC n r o c i (j+1):=by
 apply List.ext_getElem (by simp [outC])
 intro k h1 h2
 rw [List.getElem_set]
 simp only [outC,List.getElem_map,List.getElem_range]
 by_cases e:j=k
 ·subst e;rw [if_pos rfl,if_pos ⟨by omega,h⟩]
 ·rw [if_neg e]
  by_cases e2:k < j∧r i k=true∧r k i=true
  ·rw [if_pos e2,if_pos ⟨by omega,e2.2⟩]
  ·rw [if_neg e2,if_neg (fun e3=>e2 ⟨by omega,e3.2⟩)]
theorem outC_same {n:Nat} {r:Nat→Nat→Bool} {o:List Int} {c i j:Nat} (h:¬(r i j=true∧r j i=true)):outC n r o c i (j+1)=outC n r o c i j:=by
 unfold outC
 refine List.map_congr_left fun k _=>?_
 by_cases e:k < j∧r i k=true∧r k i=true
 ·rw [if_pos e,if_pos ⟨by omega,e.2⟩]
 ·rw [if_neg e,if_neg (fun e3=>by
   by_cases e4:k=j
   ·subst e4;exact h e3.2
   ·exact e ⟨by omega,e3.2⟩)]
theorem shutC_next (r:Nat→Nat→Bool) (i j:Nat):shutC r i (j+1)=(shutC r i j && (!r i j || r j i)):=by
 unfold shutC;rw [List.range_succ,List.all_append];simp
theorem clsStep_done {n:Nat} {r:Nat→Nat→Bool} {s:List Int×List Bool} {i:Nat} (h:¬0≤s.1.getD i 0) (hl:s.1.length=n):clsStep n r s i=(outC n r s.1 s.2.length i n,s.2++[shutC r i n]):=by
 unfold clsStep;rw [if_neg h];unfold outC shutC
 congr 1
 refine List.map_congr_left fun k hk=>?_;have hk:k < n:=by simpa using hk
 by_cases e:r i k=true∧r k i=true
 ·rw [if_pos e,if_pos ⟨hk,e⟩]
 ·rw [if_neg e,if_neg (fun e2=>e e2.2)]
theorem fn_classes (p:Mt) (t:Nat) (hp:MtR p t) (ht:t≤1000000000):Fn Tryz.prog 178 [lM p] [] (.tup [.d (.sl (cI (clsN p.length (rb p.length (ent p)) p.length).1)),.d (.sl (cBo (clsN p.length (rb p.length (ent p)) p.length).2))]) []:=by
 have hz:((cM p).length:Int)=p.length:=by rw [cM_len]
 have n1:=hp.n1;have n2:=hp.n2;have c1:=fn_reaches p t hp ht;have c2:=fn_slRepeatI (-1) p.length (by omega) (by omega);obtain ⟨n,en⟩:∃n,p.length=n:=⟨_,rfl⟩;rw [en] at c1 c2 hz n1 n2 ⊢;obtain ⟨r,er⟩:∃r,rb n (ent p)=r:=⟨_,rfl⟩;have era:∀i,i < n→(rchL n (ent p) n).getD i []=(List.range n).map (r i):=fun i hi=>by rw [rchL_at hi,er]
 rw [er];obtain ⟨RL,eRL⟩:∃RL,rchL n (ent p) n=RL:=⟨_,rfl⟩;have hRL:RL.length=n:=by rw [←eRL,rchL_len]
 rw [eRL] at c1 era;refine Fn.freezeT2 ?_ (rows:=cI (clsN n r n).1) (rows2:=cBo (clsN n r n).2) (n:=n) (m:=(clsN n r n).2.length) (s:=1) (s2:=1) (by rw [cI_len,clsN_len]) (by rw [cBo_len]);refine Fn.intro (ks:=[0,2,3,4,5,6,7,8,9,18,19,20,26,28,29,30,47]) hty rfl rfl rfl rfl rfl ?_;conv=>whnf
 refine VCall.of_data c1 (nd _) ?_;conv=>whnf
 rw [hz];refine VCall.frzD 12 (n:=1) (sz:=1) (D:=cI [-1]) ⟨rfl,rfl⟩ rfl (by repeat first | exact trivial | refine ⟨⟨rfl,rfl,rfl⟩,?_⟩) ⟨⟨rfl,rfl,rfl⟩,trivial⟩ ?_;refine VCall.of_ls (k:=15) c2 rfl ?_;conv=>whnf
 rw [hz];refine VLoop.ren 16 77 rfl ?_;refine VLoop.inv hty (S:=Nat) (fun i=>[(19,I i),(18,I n),(6,.ls 77 0 (clsN n r i).2.length 1),(5,.ls 15 0 n 1),(4,.d (.sl (cBB RL))),(0,lM p)]) (fun i=>[(15,.row true 1 (cI (clsN n r i).1)),(77,.row true 1 (cBo (clsN n r i).2))]) (fun i=>i≤n∧(clsN n r i).2.length≤i) (fun i=>n - i) 0 ⟨Nat.zero_le _,Nat.le_refl _⟩
  ⟨rfl,rfl,rfl,rfl,rfl,rfl,trivial⟩ ⟨rfl,rfl,trivial⟩ ?_
 rintro i ⟨hi,hcl⟩;conv=>whnf
 refine Br.mk (fun h=>?_) (fun h=>?_)
 ·have h:i < n:=by simp only [decide_eq_true_eq] at h;omega
  have hl1:=clsN_len n r i;have hnext:clsN n r (i+1)=clsStep n r (clsN n r i) i:=rfl;generalize clsN n r i=s at hl1 hnext hcl ⊢;obtain ⟨o,b⟩:=s;dsimp only at hl1 hcl;conv=>whnf
  refine ⟨by omega,?_⟩;conv=>whnf
  refine ⟨_,cI_as (l:=o) (x:=o.getD i 0) (by omega) rfl,?_⟩;conv=>whnf
  by_cases h0:0≤o.getD i 0
  ·have e:clsN n r (i+1)=(o,b):=by rw [hnext];unfold clsStep;exact if_pos h0
   rw [decide_eq_true h0];conv=>whnf
   refine Wr.i64 (y:=((i+1:Nat):Int)) rfl (by omega) (by omega) ?_;conv=>whnf
   refine ⟨i+1,⟨h,by rw [e];dsimp only;omega⟩,by show n - (i+1) < n - i;omega,?_,?_⟩
   ·rw [e];exact ⟨rfl,rfl,rfl,rfl,rfl,rfl,trivial⟩
   ·rw [e];exact ⟨rfl,rfl,trivial⟩
  ·have e:clsN n r (i+1)=(outC n r o b.length i n,b++[shutC r i n]):=by rw [hnext];exact clsStep_done h0 hl1
   rw [decide_eq_false h0];conv=>whnf
   rw [hz];refine VLoop.inv hty (S:=Nat) (fun j=>[(29,I j),(28,I n),(19,I i),(18,I n),(8,B (shutC r i j)),(7,I i),(6,.ls 77 0 b.length 1),(5,.ls 15 0 n 1),(4,.d (.sl (cBB RL))),(0,lM p)]) (fun j=>[(15,.row true 1 (cI (outC n r o b.length i j))),(77,.row true 1 (cBo b))]) (fun j=>j≤n) (fun j=>n - j) 0 (Nat.zero_le _)
    ⟨rfl,rfl,rfl,rfl,rfl,rfl,rfl,rfl,rfl,rfl,trivial⟩ ⟨by rw [outC_zero hl1];rfl,rfl,trivial⟩ ?_
   intro j hj;conv=>whnf
   refine Br.mk (fun hb=>?_) (fun hb=>?_)
   ·have hb:j < n:=by simp only [decide_eq_true_eq] at hb;omega
    have hsn:=shutC_next r i j;obtain ⟨sh,esh⟩:∃sh,shutC r i j=sh:=⟨_,rfl⟩;rw [esh] at hsn ⊢;clear esh;obtain ⟨x,hij⟩:∃x,r i j=x:=⟨_,rfl⟩;obtain ⟨y,hji⟩:∃y,r j i=y:=⟨_,rfl⟩;conv=>whnf
    refine ⟨⟨⟨by omega,by rw [cBB_len,hRL];omega⟩,cBB_sz _⟩,?_⟩;conv=>whnf
    refine ⟨_,cBB_as (x:=(List.range n).map (r i)) (by rw [hRL];omega) (era _ (by omega)),?_⟩;conv=>whnf
    refine ⟨⟨⟨by omega,by rw [cBo_len,List.length_map,List.length_range];omega⟩,cBo_sz _⟩,?_⟩;conv=>whnf
    refine ⟨_,cBo_as (x:=x) (by rw [List.length_map,List.length_range];omega) ((map_at (by omega)).trans hij),?_⟩;conv=>whnf
    cases x with
    | false =>
     have eo:=outC_same (n:=n) (o:=o) (c:=b.length) (r:=r) (i:=i) (j:=j) (by rw [hij];simp);rw [hij] at hsn;conv=>whnf
     cases sh
     ·conv=>whnf
      conv=>whnf
      refine Wr.i64 (y:=((j+1:Nat):Int)) rfl (by omega) (by omega) ?_;conv=>whnf
      refine ⟨j+1,hb,by show n - (j+1) < n - j;omega,⟨rfl,rfl,rfl,rfl,?_,rfl,rfl,rfl,rfl,rfl,trivial⟩,?_,rfl,trivial⟩
      ·rw [hsn];rfl
      ·rw [eo];rfl
     ·conv=>whnf
      refine ⟨⟨⟨by omega,by rw [cBB_len,hRL];omega⟩,cBB_sz _⟩,?_⟩;conv=>whnf
      refine ⟨_,cBB_as (x:=(List.range n).map (r i)) (by rw [hRL];omega) (era _ (by omega)),?_⟩;conv=>whnf
      refine ⟨⟨⟨by omega,by rw [cBo_len,List.length_map,List.length_range];omega⟩,cBo_sz _⟩,?_⟩;conv=>whnf
      refine ⟨_,cBo_as (x:=false) (by rw [List.length_map,List.length_range];omega) ((map_at (by omega)).trans hij),?_⟩;conv=>whnf
      conv=>whnf
      refine Wr.i64 (y:=((j+1:Nat):Int)) rfl (by omega) (by omega) ?_;conv=>whnf
      refine ⟨j+1,hb,by show n - (j+1) < n - j;omega,⟨rfl,rfl,rfl,rfl,?_,rfl,rfl,rfl,rfl,rfl,trivial⟩,?_,rfl,trivial⟩
      ·rw [hsn];rfl
      ·rw [eo];rfl
    | true =>
     conv=>whnf
     refine ⟨⟨⟨by omega,by rw [cBB_len,hRL];omega⟩,cBB_sz _⟩,?_⟩;conv=>whnf
     refine ⟨_,cBB_as (x:=(List.range n).map (r j)) (by rw [hRL];omega) (era _ (by omega)),?_⟩;conv=>whnf
     refine ⟨⟨⟨by omega,by rw [cBo_len,List.length_map,List.length_range];omega⟩,cBo_sz _⟩,?_⟩;conv=>whnf
     refine ⟨_,cBo_as (x:=y) (by rw [List.length_map,List.length_range];omega) ((map_at (by omega)).trans hji),?_⟩;conv=>whnf
     cases y with
     | false =>
      have eo:=outC_same (n:=n) (o:=o) (c:=b.length) (r:=r) (i:=i) (j:=j) (by rw [hji];simp);rw [hij,hji] at hsn;conv=>whnf
      cases sh
      ·conv=>whnf
       conv=>whnf
       refine Wr.i64 (y:=((j+1:Nat):Int)) rfl (by omega) (by omega) ?_;conv=>whnf
       refine ⟨j+1,hb,by show n - (j+1) < n - j;omega,⟨rfl,rfl,rfl,rfl,?_,rfl,rfl,rfl,rfl,rfl,trivial⟩,?_,rfl,trivial⟩
       ·rw [hsn];rfl
       ·rw [eo];rfl
      ·conv=>whnf
       refine ⟨⟨⟨by omega,by rw [cBB_len,hRL];omega⟩,cBB_sz _⟩,?_⟩;conv=>whnf
       refine ⟨_,cBB_as (x:=(List.range n).map (r i)) (by rw [hRL];omega) (era _ (by omega)),?_⟩;conv=>whnf
       refine ⟨⟨⟨by omega,by rw [cBo_len,List.length_map,List.length_range];omega⟩,cBo_sz _⟩,?_⟩;conv=>whnf
       refine ⟨_,cBo_as (x:=true) (by rw [List.length_map,List.length_range];omega) ((map_at (by omega)).trans hij),?_⟩;conv=>whnf
       refine ⟨⟨⟨by omega,by rw [cBB_len,hRL];omega⟩,cBB_sz _⟩,?_⟩;conv=>whnf
       refine ⟨_,cBB_as (x:=(List.range n).map (r j)) (by rw [hRL];omega) (era _ (by omega)),?_⟩;conv=>whnf
       refine ⟨⟨⟨by omega,by rw [cBo_len,List.length_map,List.length_range];omega⟩,cBo_sz _⟩,?_⟩;conv=>whnf
       refine ⟨_,cBo_as (x:=false) (by rw [List.length_map,List.length_range];omega) ((map_at (by omega)).trans hji),?_⟩;conv=>whnf
       conv=>whnf
       refine Wr.i64 (y:=((j+1:Nat):Int)) rfl (by omega) (by omega) ?_;conv=>whnf
       refine ⟨j+1,hb,by show n - (j+1) < n - j;omega,⟨rfl,rfl,rfl,rfl,?_,rfl,rfl,rfl,rfl,rfl,trivial⟩,?_,rfl,trivial⟩
       ·rw [hsn];rfl
       ·rw [eo];rfl
     | true =>
      have eo:=outC_set (n:=n) (o:=o) (c:=b.length) (r:=r) (i:=i) (j:=j) hb ⟨hij,hji⟩;rw [hij,hji] at hsn;conv=>whnf
      refine ⟨by omega,?_⟩;conv=>whnf
      refine ⟨_,cI_as (x:=(outC n r o b.length i j).getD j 0) (by rw [outC_len];omega) rfl,?_⟩;conv=>whnf
      cases sh
      ·conv=>whnf
       conv=>whnf
       refine Wr.i64 (y:=((j+1:Nat):Int)) rfl (by omega) (by omega) ?_;conv=>whnf
       refine ⟨j+1,hb,by show n - (j+1) < n - j;omega,⟨rfl,rfl,rfl,rfl,?_,rfl,rfl,rfl,rfl,rfl,trivial⟩,?_,rfl,trivial⟩
       ·rw [hsn];rfl
       ·rw [←eo,←cI_set];rfl
      ·conv=>whnf
       refine ⟨⟨⟨by omega,by rw [cBB_len,hRL];omega⟩,cBB_sz _⟩,?_⟩;conv=>whnf
       refine ⟨_,cBB_as (x:=(List.range n).map (r i)) (by rw [hRL];omega) (era _ (by omega)),?_⟩;conv=>whnf
       refine ⟨⟨⟨by omega,by rw [cBo_len,List.length_map,List.length_range];omega⟩,cBo_sz _⟩,?_⟩;conv=>whnf
       refine ⟨_,cBo_as (x:=true) (by rw [List.length_map,List.length_range];omega) ((map_at (by omega)).trans hij),?_⟩;conv=>whnf
       refine ⟨⟨⟨by omega,by rw [cBB_len,hRL];omega⟩,cBB_sz _⟩,?_⟩;conv=>whnf
       refine ⟨_,cBB_as (x:=(List.range n).map (r j)) (by rw [hRL];omega) (era _ (by omega)),?_⟩;conv=>whnf
       refine ⟨⟨⟨by omega,by rw [cBo_len,List.length_map,List.length_range];omega⟩,cBo_sz _⟩,?_⟩;conv=>whnf
       refine ⟨_,cBo_as (x:=true) (by rw [List.length_map,List.length_range];omega) ((map_at (by omega)).trans hji),?_⟩;conv=>whnf
       conv=>whnf
       refine Wr.i64 (y:=((j+1:Nat):Int)) rfl (by omega) (by omega) ?_;conv=>whnf
       refine ⟨j+1,hb,by show n - (j+1) < n - j;omega,⟨rfl,rfl,rfl,rfl,?_,rfl,rfl,rfl,rfl,rfl,trivial⟩,?_,rfl,trivial⟩
       ·rw [hsn];rfl
       ·rw [←eo,←cI_set];rfl
   ·have hb:j=n:=by simp only [decide_eq_false_iff_not] at hb;omega
    rw [hb];conv=>whnf
    refine Sub.full rfl ?_;conv=>whnf
    refine Sub.full (by rw [cBo_len]) ?_;conv=>whnf
    refine ⟨by show (b.length+1)*1≤_;omega,?_⟩;conv=>whnf
    refine Wr.i64 (y:=((i+1:Nat):Int)) rfl (by omega) (by omega) ?_;conv=>whnf
    refine ⟨i+1,⟨h,by rw [e];simp;omega⟩,by show n - (i+1) < n - i;omega,?_,?_⟩
    ·rw [e];refine ⟨rfl,rfl,?_,rfl,rfl,rfl,trivial⟩;show AV.ls 77 0 (b.length+1) 1=AV.ls 77 0 (b++[shutC r i n]).length 1;rw [List.length_append,List.length_singleton]
    ·rw [e];refine ⟨rfl,?_,trivial⟩;show Ob.row true 1 (cBo b++[[.s (.bool _)]])=_;rw [cBo_append1]
 ·have h:i=n:=by simp only [decide_eq_false_iff_not] at h;omega
  rw [h];conv=>whnf
  exact ⟨⟨rfl,rfl,rfl,rfl,rfl,rfl⟩,_,rfl,⟨rfl,rfl,rfl,rfl,rfl,rfl⟩,_,rfl,trivial,rfl⟩
theorem setI_step {bs:List Bool} {k:Nat} (h:k < bs.length):(List.range (k+1)).filter (bs.getD · false)=(List.range k).filter (bs.getD · false)++if bs.getD k false=true then [k] else []:=by
 rw [List.range_succ,List.filter_append]
 congr 1
 by_cases e:bs.getD k false=true
 ·rw [if_pos e,List.filter_cons_of_pos (by exact e)];rfl
 ·rw [if_neg e,List.filter_cons_of_neg (by exact e)];rfl
theorem filt_le (p:Nat→Bool) (k:Nat):((List.range k).filter p).length≤k:=by
 have:=List.length_filter_le p (List.range k)
 rwa [List.length_range] at this
theorem fn_setOf (bs:List Bool) (hl:bs.length≤1000000):Fn Tryz.prog 125 [lBo bs] [] (.ls 0 0 (setI bs).length 1) [(0,.row true 1 (cW .i64 (setI bs)))]:=by
 have hz:((cBo bs).length:Int)=bs.length:=by rw [cBo_len]
 refine Fn.intro (ks:=[0,2,3,4,5,7,8,9,10,14]) hty rfl rfl rfl rfl rfl ?_;conv=>whnf
 rw [hz];refine VLoop.ren 6 18 rfl ?_;refine VLoop.inv hty (S:=Nat) (fun k=>[(9,I k),(8,I bs.length),(7,lBo bs),(3,.ls 18 0 ((List.range k).filter (bs.getD · false)).length 1)]) (fun k=>[(18,.row true 1 (cW .i64 ((List.range k).filter (bs.getD · false))))]) (fun k=>k≤bs.length) (fun k=>bs.length - k) 0 (Nat.zero_le _)
  ⟨rfl,rfl,rfl,rfl,trivial⟩ ⟨rfl,trivial⟩ ?_
 intro k hk;conv=>whnf
 refine Br.mk (fun h=>?_) (fun h=>?_)
 ·have h:k < bs.length:=by simp only [decide_eq_true_eq] at h;omega
  have es:=setI_step h;have hle:=filt_le (bs.getD · false) k;obtain ⟨b,eb⟩:∃b,bs.getD k false=b:=⟨_,rfl⟩;rw [eb] at es;obtain ⟨F,eF⟩:∃F,(List.range k).filter (bs.getD · false)=F:=⟨_,rfl⟩;rw [eF] at es hle ⊢;conv=>whnf
  refine ⟨⟨⟨by omega,by rw [cBo_len];omega⟩,cBo_sz _⟩,?_⟩;conv=>whnf
  refine ⟨_,cBo_as h eb,?_⟩;conv=>whnf
  cases b with
  | false =>
   rw [if_neg (by decide),List.append_nil] at es;conv=>whnf
   refine Wr.i64 (y:=((k+1:Nat):Int)) rfl (by omega) (by omega) ?_;conv=>whnf
   refine ⟨k+1,h,by show bs.length - (k+1) < bs.length - k;omega,⟨rfl,rfl,rfl,?_,trivial⟩,?_,trivial⟩
   ·rw [es];rfl
   ·rw [es];rfl
  | true =>
   rw [if_pos rfl] at es;conv=>whnf
   refine Sub.full rfl ?_;conv=>whnf
   refine Sub.full (by rw [cN_len]) ?_;conv=>whnf
   refine ⟨by show (F.length+1)*8≤_;omega,?_⟩;conv=>whnf
   refine Wr.i64 (y:=((k+1:Nat):Int)) rfl (by omega) (by omega) ?_;conv=>whnf
   refine ⟨k+1,h,by show bs.length - (k+1) < bs.length - k;omega,⟨rfl,rfl,rfl,?_,trivial⟩,?_,trivial⟩
   ·rw [es];show AV.ls 18 0 (F.length+1) 1=AV.ls 18 0 (F++[k]).length 1;rw [List.length_append,List.length_singleton]
   ·rw [es];show Ob.row true 1 (cW .i64 F++[[.s (.int .i64 k)]])=_;rw [cN_app]
 ·have h:k=bs.length:=by simp only [decide_eq_false_iff_not] at h;omega
  rw [h];conv=>whnf
  exact ⟨⟨rfl,rfl,rfl,rfl,rfl,rfl⟩,[],rfl,trivial,rfl⟩
theorem fn_setOfd (bs:List Bool) (hl:bs.length≤1000000):Fn Tryz.prog 125 [lBo bs] [] (.d (.sl (cW .i64 (setI bs)))) []:=by
 have:=(fn_setOf bs hl).freeze (by rw [cN_len];omega)
 rwa [List.drop_zero,List.take_of_length_le (by rw [cN_len];omega)] at this
end Go.V
namespace Go.V
mutual
def AV.okB (id:Nat):AV→Bool
 | .ls k lo n _=>!Nat.beq k id || Nat.blt 0 (lo+n)
 | .ap k _ _=>!Nat.beq k id
 | .ms k _ _ _ _=>!Nat.beq k id
 | .me k _ _ _ _=>!Nat.beq k id
 | .ag cs=>AV.okBs id cs
 | .tup cs=>AV.okBs id cs
 | _=>true
def AV.okBs (id:Nat):List AV→Bool
 | []=>true
 | x :: r=>AV.okB id x && AV.okBs id r
end
section
variable {P:Program} {G:Ctx} {κ:Know} {ρ:Place} {t:TL} {l:LL} {a:Act} {w:World}
end
end Go.V
namespace Go.V
section
variable {P:Program} {G:Ctx} {κ:Know} {ρ:Place} {t:TL} {l:LL} {a:Act} {w:World}
theorem VCall.parMx {f:FuncId} {xs xs0:List AV} {x:AV} {dst:Option Nat} {K:AV→TL→LL→Prop} (id i:Nat) {sz:Nat} {ix:List MC} {rows:List (List (List C))} {row row':List (List C)} (h:Fn P f xs0 [(1000000,.row true sz row)] x [(1000000,.row true sz row')])
  (hl:lget id l = .mat sz ix rows) (hi:rows[i]? = some row) (ha:argM id i xs xs0) (hx:∀(κ:Know) (ρ ρ':Place) (v:Value),AVR κ ρ v x→AVR κ ρ' v x) (hK:K x t (lset id (.mat sz ix (rows.set i row')) l)):VCall P f xs dst t l K where
 en:=h.en
 out:=fun G κ ρ a w vs hr hs hv=>by
  have hm:=hr.m;have hob:=hm.ob id;rw [hl] at hob;obtain ⟨L,hL,hR⟩:=hob;have hR':=hR;obtain ⟨_,h5,h6,h7,h8⟩:=hR';have hil:i < L.ib.length:=by rw [h5];exact some_lt hi
  obtain ⟨M,hM⟩:∃M,L.ib[i]? = some M:=⟨_,List.getElem?_eq_getElem hil⟩;have hLM:=Loc.has_i hM;have hf:=hm.fre id L hL (by rw [hl];rfl);let LM:Loc:=⟨M.b,M.o,M.N,M.kn,[]⟩;let ρ0:Place:=fun p=>if p=1000000 then some LM else none
  have hρ0:∀{p L'},ρ0 p=some L'→p=1000000∧L'=LM:=fun {p L'} h=>by
   simp only [ρ0] at h;split at h
   ·rename_i e;cases h;exact ⟨e,rfl⟩
   ·cases h
  have hLMh:∀{b},LM.has b→b=M.b:=fun {b} h=>h.elim (fun e=>e) fun ⟨M,h,_⟩=>by cases h
  let l0:LL:=[(1000000,.row true sz row)];have hl0:∀p,lget p l0=if p=1000000 then .row true sz row else .no:=fun p=>by simp only [l0];rw [lget_cons];rfl
  obtain ⟨arr,E,k1,k2,k3⟩:=h6 i M row hM hi;have hm0:Mem ⟨w,Mof ρ0 l0,κ,0,ρ0⟩ κ ρ0 l0 w:=by
   refine ⟨fun p=>?_,fun i j Li Lj hij hi hj=>?_,fun i L hi _ b hb=>?_,fun i L hi b hb=>?_,hm.kn,hm.one,fun b o x h=>.inl h,⟨rfl,rfl,rfl,Nat.le_refl _,fun _ _ _=>rfl⟩,fun i L _ h=>h⟩
   ·rw [hl0];split
    ·rename_i e;subst e;exact ⟨LM,arr,E,(0,0),if_pos rfl,k1,k2,fun _=>rfl,k3⟩
    ·rename_i e;exact if_neg e
   ·exact absurd ((hρ0 hi).1.trans (hρ0 hj).1.symm) hij
   ·obtain ⟨rfl,rfl⟩:=hρ0 hi;rw [hLMh hb];exact ⟨(hf _ hLM).1,.inr ⟨1000000,LM,hi,by rw [hl0,if_pos rfl];rfl,.inl rfl⟩⟩
   ·obtain ⟨rfl,rfl⟩:=hρ0 hi;rw [hLMh hb];exact hm.own id L hL _ hLM
  obtain ⟨e1,e2⟩:=argM_get (κ:=κ) (ρ0:=ρ0) hL hM (fun L' hL'=>by rw [(hρ0 hL').2];rfl) ha;refine Calls.mono (h.out κ ρ0 w vs hm0 (hs.trans e1) fun i v y h1 h2=>?_) ?_
  ·have hi:i < xs.length:=by rw [←hs];exact (Array.getElem?_eq_some_iff.1 h1).1
   exact e2 i v _ y (List.getElem?_eq_getElem hi) h2 (hv i v _ h1 (List.getElem?_eq_getElem hi))
  ·rintro e w' ⟨v,κ',ρ1,he,hk,hm1,h3⟩;have hMof:∀b,Mof ρ0 l0 b→b=M.b:=fun b ⟨p,Lp,g1,_,g3⟩=>by
    obtain ⟨rfl,rfl⟩:=hρ0 g1;exact hLMh g3
   have hblk:∀b,b < w.heap.size→b≠M.b→w'.heap[b]? = w.heap[b]? := fun b hb hne=>hm1.fr.block b hb fun h=>hne (hMof b h);have hob1:=hm1.ob 1000000;obtain ⟨L1,arr1,E1,fz1,q1,q2,q3,q4,q5⟩:ObR κ' ρ1 w' 1000000 (.row true sz row'):=hob1;obtain ⟨_,rfl⟩:=hρ0 (show ρ0 1000000=some L1 from hm1.par 1000000 L1 (Nat.le_refl _) q1);have:=q4 rfl;subst this;have hfre1:=hm1.fre 1000000 LM q1 rfl M.b (.inl rfl);have hne:lget id l≠.no:=by rw [hl];exact fun e=>by cases e
   have hg:=lget_lset (o:=.mat sz ix (rows.set i row')) (l:=l) (i:=id) hne;have hsepM:∀j Lj,j≠id→ρ j=some Lj→∀b,Lj.has b→b≠M.b:=fun j Lj hj hLj b hb e=>hm.sep id j L Lj (Ne.symm hj) hL hLj (by rw [hl];rfl) M.b hLM (e▸hb);have hwr:∀j,(lget j (lset id (.mat sz ix (rows.set i row')) l)).wr=(lget j l).wr:=fun j=>by
    rw [hg];split
    ·rename_i e;subst e;rw [hl];rfl
    ·rfl
   have hm':Mem G κ' ρ (lset id (.mat sz ix (rows.set i row')) l) w':=by
    refine ⟨fun j=>?_,fun p q Lp Lq hpq hp hq hw=>hm.sep p q Lp Lq hpq hp hq (by rw [←hwr p];exact hw),fun p Lp hp hw b hb=>?_,fun p Lp hp b hb=>Nat.lt_of_lt_of_le (hm.own p Lp hp b hb) hm1.fr.size,hm1.kn,hm1.one,fun b o x h=>?_,?_,hm.par⟩
    ·rw [hg];split
     ·rename_i e;subst e;obtain ⟨⟨arr0,E0,g1,g2,g3,g4⟩,_⟩:=hR;refine ⟨L,hL,⟨arr0,E0,by rw [hblk _ (hm.own _ L hL _ L.has_b) (Ne.symm (h7 i M hM))];exact g1,g2,g3,fun k c hc=>?_⟩,by simpa using h5,fun r M' row0 hM' hr'=>?_,h7,h8⟩
      ·obtain ⟨x,f1,f2,f3⟩:=g4 k c hc;exact ⟨x,f1,f2.mono hk,f3⟩
      ·by_cases e:r=i
       ·subst e;rw [hM] at hM';cases hM';rw [List.getElem?_set_self (by rw [←h5];exact hil)] at hr';cases hr';exact ⟨arr1,E1,q2,q3,q5⟩
       ·rw [List.getElem?_set_ne (Ne.symm e)] at hr';obtain ⟨arr',E',f1,f2,f3⟩:=h6 r M' row0 hM' hr';exact ⟨arr',E',by rw [hblk _ (hm.own _ L hL _ (Loc.has_i hM')) (h8 r i M' M hM' hM e)];exact f1,f2,f3.mono hk⟩
     ·rename_i e;exact (hm.ob j).move hk rfl (fun Lj hLj b hb=>hblk b (hm.own j Lj hLj b hb) (hsepM j Lj e hLj b hb)) (fun _ _ _ _ _ _ _ h=>h.mono hk)
    ·obtain ⟨g1,g2⟩:=hm.fre p Lp hp (by rw [←hwr p];exact hw) b hb;refine ⟨fun o x hx=>?_,g2⟩;rcases hm1.kn0 b o x hx with h | h | h
     ·exact g1 o x h
     ·have:=hm.own p Lp hp b hb;simp only at h;omega
     ·have:=hMof b h;subst this;exact hfre1.1 o x hx
    ·rcases hm1.kn0 b o x h with h | h | h
     ·exact hm.kn0 b o x h
     ·exact .inr (.inl (Nat.le_trans hm.fr.size h))
     ·have:=hMof b h;subst this;exact .inr (hf _ hLM).2
    ·have f1:=hm.fr;have f2:=hm1.fr;refine ⟨f2.os.trans f1.os,f2.tape.trans f1.tape,f2.output.trans f1.output,Nat.le_trans f1.size f2.size,fun b hb hMb=>?_⟩;refine (hblk b (Nat.lt_of_lt_of_le hb f1.size) fun e=>?_).trans (f1.block b hb hMb);subst e;rcases (hf _ hLM).2 with h | h
     ·omega
     ·exact hMb h
   exact ⟨v,κ',ρ,x,t,_,he,hk,⟨hm',hr.df,hr.sz,fun i=>(hr.tm i).mono hk⟩,hx _ _ _ _ h3,hK⟩
end
theorem agD_any (cs:List C) (κ:Know) (ρ ρ':Place) (v:Value) (h:AVR κ ρ v (.ag (cs.map .d))):AVR κ ρ' v (.ag (cs.map .d)):=by
 obtain ⟨vs,rfl,hn,ho,hu⟩:=h.agg
 refine .ag vs _ hn ho fun k u c hk hc=>?_
 have:=hu k u c hk hc
 rw [List.getElem?_map] at hc
 cases e:cs[k]? with
 | none=>rw [e] at hc;cases hc
 | some d=>rw [e] at hc;cases hc;exact .d _ _ this.repr
end Go.V
namespace Go.V
open Go.Proofs Go.RowKit
set_option maxRecDepth 10000
set_option maxHeartbeats 1000000
theorem fn_sumR (xs:List Rat) (k m:Nat) (hk:k≤xs.length) (h:∀j,j < k→sz (xs.getD j 0)≤m) (hn:k≤1000) (hm:k*(m+1)+m+1≤99999999999) :
  Fn Tryz.prog 135 [.ls 1000000 0 k 3] [(1000000,.row true 3 (cQ xs))] (rI (outL xs k)) [(1000000,.row true 3 (cQ xs))]:=by
 have c:=fn_whole 0 (by decide) (by decide);refine Fn.intro (ks:=[0,2,3,5,7,8,9,10]) hty rfl rfl rfl rfl rfl ?_;conv=>whnf
 refine VCall.of_data c (ndA fun k=>rfl) ?_;conv=>whnf
 refine VLoop.inv hty (S:=Nat) (fun i=>[(9,I i),(8,I k),(7,.ls 1000000 0 k 3),(3,.lp 3 0),(2,.lp 2 0)])
  (fun i=>[(1000000,.row true 3 (cQ xs)),(3,.box true [B (ng (outL xs i)),nI (tp (outL xs i)),nI (outL xs i).den]),(2,.box true (zeros (ty 81).zero))])
  (fun i=>i≤k) (fun i=>k - i) 0 (Nat.zero_le _) ⟨rfl,rfl,rfl,rfl,rfl,trivial⟩ ⟨rfl,rfl,rfl,trivial⟩ ?_
 intro i hi;conv=>whnf
 refine Br.mk (fun h2=>?_) (fun h2=>?_)
 ·have h2:i < k:=by simp only [decide_eq_true_eq] at h2;omega
  obtain ⟨x,ex⟩:∃x,xs.getD i 0=x:=⟨_,rfl⟩;have sx:=h i h2;have sp:sz (outL xs i)≤i*(m+1)+1:=sz_sN (n:=k) h i hi;have hi2:i*(m+1)≤k*(m+1):=Nat.mul_le_mul_right _ hi;have er:outL xs (i+1)=outL xs i+x:=by rw [←ex];rfl
  rw [ex] at sx;have cc:=fn_radd (outL xs i) x (by omega);rw [←er] at cc;conv=>whnf
  refine ⟨by omega,?_⟩;conv=>whnf
  refine ⟨_,cQ_as (x:=x) (i:=i) (by omega) ex,?_⟩;conv=>whnf
  refine VCall.of_data cc (ndA fun k=>rfl) ?_;conv=>whnf
  refine Wr.i64 (y:=((i+1:Nat):Int)) rfl (by omega) (by omega) ?_;conv=>whnf
  exact ⟨i+1,h2,by show k - (i+1) < k - i;omega,⟨rfl,rfl,rfl,rfl,rfl,trivial⟩,rfl,rfl,rfl,trivial⟩
 ·have h2:i=k:=by simp only [decide_eq_false_iff_not] at h2;omega
  subst h2;conv=>whnf
  exact ⟨rfl,rfl,rfl,⟨rfl,trivial⟩,rfl⟩
structure Ro (n t:Nat) (R0:Mt) (s:Nat×Mt):Prop where
 le:s.1+1≤n
 gl:GL n (tt t (n - 1 - s.1)) (2*tt t (n - 1)+4) s.2 s.1
 eq:gthL s.1 s.2=gthL (n - 1) R0
abbrev mO (n:Nat) (R:Mt):Ob:=.mat 3 (ixQ n n) (cR R)
set_option maxHeartbeats 4000000 in
theorem fn_restOf (R0:Mt) (t:Nat) (hp:MtR R0 t) (ht:t≤9700) (hc:Cl R0.length (ent R0) 0) :
  Fn Tryz.prog 198 [.ls 1000000 0 R0.length 1] [(1000000,mO R0.length R0)] (lQ (restU R0)) [(1000000,mO R0.length (gthL (R0.length - 1) R0))]:=by
 have n1:=hp.n1;have n2:=hp.n2;have cw1:=fn_whole 1 (by decide) (by decide);have cw0:=fn_whole 0 (by decide) (by decide);have htt:tt t (R0.length - 1)≤20000000:=by
  have h1:=tt_mono (t:=t) (d:=R0.length - 1) (e:=11) (by omega);have h2:tt t 11≤20000000:=by unfold tt;omega
  omega
 have gl0:=hp.gl hc (2*tt t (R0.length - 1)+4);have huw:=hp.w_row hc;have hlen:=wR_len n1;have hwok:=hp.w_ok hc;obtain ⟨n,en⟩:∃n,R0.length=n:=⟨_,rfl⟩;have eU:restU R0=(wR R0).map (· / sN (wR R0).length fun i=>(wR R0).getD i 0):=rfl;have eW:wR R0=wL (ent (gthL (n - 1) R0)) (n - 1):=by unfold wR;rw [en]
 rw [en] at n1 n2 htt gl0 huw hlen hwok ⊢;refine Fn.intro (ks:=[0,2,3,4,5,6,7,8,9,10,15,25,26,27,52,53,54,55,93,97,98,99]) hty rfl rfl rfl rfl rfl ?_;conv=>whnf
 refine Wr.i64 (y:=((n - 1:Nat):Int)) (by omega) (by omega) (by omega) ?_;conv=>whnf
 refine VLoop.inv hty (S:=Nat×Mt) (fun s=>[(3,I s.1),(0,.ls 1000000 0 n 1)]) (fun s=>[(1000000,mO n s.2)]) (Ro n t R0) (fun s=>s.1) (n - 1,R0) ⟨by dsimp only;omega,by dsimp only;rw [Nat.sub_self,tt_zero];exact gl0,rfl⟩ ⟨rfl,rfl,trivial⟩ ⟨rfl,trivial⟩ ?_;rintro ⟨k,R⟩ hR;cases k with
 | succ k =>
  obtain ⟨hle,hgl,heq⟩:=hR;dsimp only at hle hgl heq;have hsq:=hgl.sq;have hRl:R.length=n:=hsq.1;obtain ⟨T,eT⟩:∃T,tt t (n - 1 - (k+1))=T:=⟨_,rfl⟩;have hT:T≤20000000:=by rw [←eT];have:=tt_mono (t:=t) (d:=n - 1 - (k+1)) (e:=n - 1) (by omega);omega
  have hTn:2*T+6=tt t (n - 1 - k):=by rw [←eT,tt_next];congr 1;omega
  rw [eT] at hgl;obtain ⟨b,eb⟩:∃b,R.getD (k+1) []=b:=⟨_,rfl⟩;have hbl:b.length=n:=by rw [←eb];exact hsq.2 _ (by omega)
  have hb:=hgl.row (k+1) (by omega);rw [eb] at hb;have ho:=hgl.out0;rw [eb] at ho;have hos:=out_sz2 hb (by omega) (by omega);have x1:=ixQ_at (n:=n) (w:=n) (i:=k+1) (by omega);have y1:=cR_at (R:=R) (i:=k+1) (by omega) eb;dsimp only;conv=>whnf
  rw [decide_eq_true (show (0:Int) < ((k+1:Nat):Int) by omega)];conv=>whnf
  refine ⟨by omega,?_⟩;conv=>whnf
  refine ⟨_,x1,?_⟩;conv=>whnf
  refine ⟨by omega,?_⟩;conv=>whnf
  have hbs2:∀j,j < k+2→sz (b.getD j 0) < T:=fun j hj=>by
   have:=hb.sz (q:=b.getD j 0) (by
    have:=getD_mem (xs:=b.take (k+1+1)) (i:=j) (d:=0) (by rw [List.length_take];omega);rwa [takeD_at hj] at this)
   exact this
  have cs:=fn_sumR b (k+1) 100000000 (by omega) (fun j hj=>by have:=hbs2 j (by omega);omega) (by omega) (by omega);obtain ⟨o,eo⟩:∃o,outL b (k+1)=o:=⟨_,rfl⟩;rw [eo] at cs ho hos;refine VCall.parMx 1000000 (k+1) cs rfl y1 ⟨⟨rfl,rfl,rfl,rfl,by show (((k+1:Nat):Int) - 0).toNat=k+1;omega,rfl⟩,trivial⟩ (agD_any (c1Q o)) ?_;conv=>whnf
  refine VLoop.inv hty (S:=Nat) (fun u=>[(26,I u),(25,I ((k+1:Nat):Int)),(4,.lp 4 0),(3,I ((k+1:Nat):Int)),(0,.ls 1000000 0 n 1)]) (fun u=>[(1000000,mO n (redLU (k+1) u R)),(4,.box true [B (ng o),nI (tp o),nI o.den])]) (fun u=>u≤k+1) (fun u=>k+1 - u) 0 (Nat.zero_le _)
   ⟨rfl,rfl,rfl,rfl,rfl,trivial⟩ ⟨?_,rfl,trivial⟩ ?_
  ·rw [redLU_zero];show Ob.mat 3 (ixQ n n) ((cR R).set (k+1) (cQ b))=mO n R;rw [cR_set]
   congr 2
   obtain ⟨h1,h2⟩:=List.getElem?_eq_some_iff.1 (show R[k+1]? = some b by rw [←eb,gD,List.getElem?_eq_getElem (by omega)];rfl);rw [←h2];exact List.set_getElem_self h1
  intro u hu;conv=>whnf
  refine Br.mk (fun h=>?_) (fun h=>?_)
  ·have h:u < k+1:=by simp only [decide_eq_true_eq] at h;omega
   obtain ⟨X,eX⟩:∃X,redLU (k+1) u R=X:=⟨_,rfl⟩;have hXs:Sq n X:=by rw [←eX];exact hsq.red
   obtain ⟨a,ea⟩:∃a,R.getD u []=a:=⟨_,rfl⟩;have hal:a.length=n:=by rw [←ea];exact hsq.2 _ (by omega)
   have eXu:X.getD u []=a:=by rw [←eX,redLU_at (by omega),if_neg (by omega),ea]
   have eXK:X.getD (k+1) []=b:=by rw [←eX,redLU_at (by omega),if_neg (by omega),eb]
   have hnx:X.set u (redRow (k+1) (k+1) o b a)=redLU (k+1) (u+1) R:=by
    have:=redLU_next (R:=R) (u:=u) (k:=k+1) h (by omega);rw [eX,ea,eb,eo] at this;exact this
   have has:∀j,j < k+2→sz (a.getD j 0) < T:=fun j hj=>by
    have:=(hgl.row u (by omega)).sz (q:=a.getD j 0) (by
     rw [ea];have:=getD_mem (xs:=a.take (k+1+1)) (i:=j) (d:=0) (by rw [List.length_take];omega);rwa [takeD_at hj] at this)
    exact this
   have xu:=ixQ_at (n:=n) (w:=n) (i:=u) (by omega);have yu:=cR_at (R:=X) (i:=u) (by rw [hXs.1];omega) eXu;have hd:=sz_div (a.getD (k+1) 0) ho;have sa:=has (k+1) (by omega);have c1:=fn_rover (a.getD (k+1) 0) o (by omega) (by omega) ho;obtain ⟨f,ef⟩:∃f,a.getD (k+1) 0 / o=f:=⟨_,rfl⟩;have hrs:a.set (k+1) f=redRow (k+1) 0 o b a:=by rw [←ef];exact redRow_start (by omega)
   rw [ef] at c1 hd;have y0:((cR X).set u ((cQ a).set (k+1) (c1Q f)))[u]? = some (cQ (redRow (k+1) 0 o b a)):=by
    rw [cQ_set,hrs,List.getElem?_set_self (by rw [cR_len,hXs.1];omega)]
   have c2:=fn_sign f (by omega);have hsg:=@sgI_zero f;generalize sgI f=sg at c2 hsg;rw [eX];conv=>whnf
   refine VDraw.go hmo hty 15 [] rfl ?_;conv=>whnf
   refine ⟨by omega,?_⟩;conv=>whnf
   refine ⟨_,xu,?_⟩;conv=>whnf
   refine ⟨by omega,?_⟩;conv=>whnf
   refine ⟨_,xu,?_⟩;conv=>whnf
   refine ⟨by omega,?_⟩;conv=>whnf
   refine ⟨_,yu,?_⟩;conv=>whnf
   refine ⟨_,cQ_as (x:=a.getD (k+1) 0) (i:=k+1) (by omega) rfl,?_⟩;conv=>whnf
   refine QCall.of_data c1 (ndA fun k=>rfl) ?_;conv=>whnf
   refine ⟨by omega,?_⟩;conv=>whnf
   refine ⟨_,yu,?_⟩;conv=>whnf
   refine ⟨by rw [cQ_len,hal];show k+1+0 < n;omega,?_⟩;conv=>whnf
   refine ⟨by omega,?_⟩;conv=>whnf
   refine ⟨_,xu,?_⟩;conv=>whnf
   refine ⟨by omega,?_⟩;conv=>whnf
   refine ⟨_,y0,?_⟩;conv=>whnf
   refine ⟨_,cQ_as (x:=f) (i:=k+1) (by rw [redRow_len];omega) (by rw [redRow_at (by omega),if_neg (by omega),if_pos rfl,ef]),?_⟩;conv=>whnf
   refine VCall.of_data c2 (nd _) ?_;conv=>whnf
   by_cases hf0:sg=0
   ·have hf1:=hsg.1 hf0;rw [decide_eq_true hf0];conv=>whnf
    refine Wr.i64 (y:=((u+1:Nat):Int)) rfl (by omega) (by omega) ?_;conv=>whnf
    refine ⟨u+1,h,by show k+1 - (u+1) < k+1 - u;omega,⟨rfl,rfl,rfl,rfl,rfl,trivial⟩,?_,rfl,trivial⟩;show Ob.mat 3 (ixQ n n) ((cR X).set u ((cQ a).set (k+1) (c1Q f)))=mO n _;rw [cQ_set,hrs,cR_set,←hnx,redRow_zero (u:=k+1) (Nat.le_refl _) (by rw [ef];exact hf1)]
   ·have hf1:f≠0:=fun e=>hf0 (hsg.2 e);rw [decide_eq_false hf0];conv=>whnf
    refine VLoop.inv hty (S:=Nat) (fun j=>[(54,I j),(53,I ((k+1:Nat):Int)),(26,I u),(25,I ((k+1:Nat):Int)),(5,I u),(4,.lp 4 0),(3,I ((k+1:Nat):Int)),(0,.ls 1000000 0 n 1)]) (fun j=>[(1000000,mO n (X.set u (redRow (k+1) j o b a))),(4,.box true [B (ng o),nI (tp o),nI o.den])]) (fun j=>j≤k+1) (fun j=>k+1 - j) 0 (Nat.zero_le _)
     ⟨rfl,rfl,rfl,rfl,rfl,rfl,rfl,rfl,trivial⟩ ⟨?_,rfl,trivial⟩ ?_
    ·show Ob.mat 3 (ixQ n n) ((cR X).set u ((cQ a).set (k+1) (c1Q f)))=mO n _;rw [cQ_set,hrs,cR_set]
    intro j hj;conv=>whnf
    refine Br.mk (fun h3=>?_) (fun h3=>?_)
    ·have h3:j < k+1:=by simp only [decide_eq_true_eq] at h3;omega
     obtain ⟨rj,erj⟩:∃rj,redRow (k+1) j o b a=rj:=⟨_,rfl⟩;have hrl:rj.length=n:=by rw [←erj,redRow_len,hal]
     have v1:rj.getD j 0=a.getD j 0:=by rw [←erj,redRow_at (by omega),if_neg (by omega),if_neg (by omega)]
     have v2:rj.getD (k+1) 0=f:=by rw [←erj,redRow_at (by omega),if_neg (by omega),if_pos rfl,ef]
     have hnr:=redRow_next (k:=k+1) (u:=j) (out:=o) (b:=b) (a:=a) h3 (by omega);rw [erj,v1,v2] at hnr;have sj:=has j (by omega);have sb:=hbs2 j (by omega);have s3:=sz_mul f (b.getD j 0);have c3:=fn_rmul f (b.getD j 0) (by omega) (by omega);have c4:=fn_radd (a.getD j 0) (f*b.getD j 0) (by omega);have yj:(cR (X.set u rj))[u]? = some (cQ rj):=cR_at (by rw [List.length_set,hXs.1];omega) (by rw [gsetD (by rw [hXs.1];omega),if_pos rfl]);have yK:(cR (X.set u rj))[k+1]? = some (cQ b):=cR_at (by rw [List.length_set,hXs.1];omega) (by rw [gsetD (by rw [hXs.1];omega),if_neg (by omega),eXK]);rw [erj];conv=>whnf
     refine VDraw.go hmo hty 29 [] rfl ?_;conv=>whnf
     refine ⟨by omega,?_⟩;conv=>whnf
     refine ⟨_,xu,?_⟩;conv=>whnf
     refine ⟨by omega,?_⟩;conv=>whnf
     refine ⟨_,xu,?_⟩;conv=>whnf
     refine ⟨by omega,?_⟩;conv=>whnf
     refine ⟨_,yj,?_⟩;conv=>whnf
     refine ⟨_,cQ_as (x:=a.getD j 0) (i:=j) (by omega) v1,?_⟩;conv=>whnf
     refine ⟨by omega,?_⟩;conv=>whnf
     refine ⟨_,xu,?_⟩;conv=>whnf
     refine ⟨by omega,?_⟩;conv=>whnf
     refine ⟨_,yj,?_⟩;conv=>whnf
     refine ⟨_,cQ_as (x:=f) (i:=k+1) (by omega) v2,?_⟩;conv=>whnf
     refine ⟨by omega,?_⟩;conv=>whnf
     refine ⟨_,x1,?_⟩;conv=>whnf
     refine ⟨by omega,?_⟩;conv=>whnf
     refine ⟨_,yK,?_⟩;conv=>whnf
     refine ⟨_,cQ_as (x:=b.getD j 0) (i:=j) (by omega) rfl,?_⟩;conv=>whnf
     refine QCall.of_data c3 (ndA fun k=>rfl) ?_;conv=>whnf
     refine QCall.of_data c4 (ndA fun k=>rfl) ?_;conv=>whnf
     refine ⟨by omega,?_⟩;conv=>whnf
     refine ⟨_,yj,?_⟩;conv=>whnf
     refine ⟨by rw [cQ_len,hrl];show j+0 < n;omega,?_⟩;conv=>whnf
     refine Wr.i64 (y:=((j+1:Nat):Int)) rfl (by omega) (by omega) ?_;conv=>whnf
     refine ⟨j+1,h3,by show k+1 - (j+1) < k+1 - j;omega,⟨rfl,rfl,rfl,rfl,rfl,rfl,rfl,rfl,trivial⟩,?_,rfl,trivial⟩;show Ob.mat 3 (ixQ n n) ((cR (X.set u rj)).set u ((cQ rj).set j (c1Q (a.getD j 0+f*b.getD j 0))))=mO n _;rw [cQ_set,hnr,cR_set,List.set_set]
    ·have h3:j=k+1:=by simp only [decide_eq_false_iff_not] at h3;omega
     rw [h3,hnx];conv=>whnf
     refine Wr.i64 (y:=((u+1:Nat):Int)) rfl (by omega) (by omega) ?_;conv=>whnf
     exact ⟨u+1,h,by show k+1 - (u+1) < k+1 - u;omega,⟨rfl,rfl,rfl,rfl,rfl,trivial⟩,rfl,rfl,trivial⟩
  ·have h:u=k+1:=by simp only [decide_eq_false_iff_not] at h;omega
   rw [h];conv=>whnf
   refine Wr.i64 (y:=(k:Int)) (by omega) (by omega) (by omega) ?_;conv=>whnf
   have hg2:=hgl.next (by omega) n2 (by rw [←eT];have:=tt_mono (t:=t) (d:=n - 1 - (k+1)) (e:=n - 1) (by omega);omega);rw [hTn] at hg2;exact ⟨(k,redLU (k+1) (k+1) R),⟨by dsimp only;omega,hg2,heq⟩,by show k < k+1;omega,⟨rfl,rfl,trivial⟩,rfl,trivial⟩
 | zero =>
  have hR3:R=gthL (n - 1) R0:=hR.eq;subst hR3;have hgl:=GL.all (t:=t) (V:=2*tt t (n - 1)+4) n2 (k:=n - 1) (d:=0) (by rw [tt_zero];exact gl0) (by omega) (by rw [Nat.zero_add];exact Nat.le_refl _);obtain ⟨G,eG⟩:∃G,gthL (n - 1) R0=G:=⟨_,rfl⟩;rw [eG] at hgl eW ⊢;obtain ⟨M,eM⟩:∃M,ent G=M:=⟨_,rfl⟩;rw [eM] at eW;have hGs:=hgl.sq;have hGl:G.length=n:=hGs.1;have hu:uu t n≤6300000000:=by unfold uu;omega
  obtain ⟨U,eU2⟩:∃U,uu t n=U:=⟨_,rfl⟩;rw [eU2] at hu huw;have hcol:∀i c,i < c→c < n→sz (M i c)≤40000004:=fun i c h1 h2=>by
   have:=hgl.col i c h1 (by omega) h2;rw [eM] at this;omega
  have hW:∀k,k < n→RowB U (wL M k):=fun k hk=>by
   refine (wL_row n2 (V:=2*tt t (n - 1)+4) (fun i c h1 h2=>by have:=hgl.col i c h1 (by omega) h2;rwa [eM] at this) k hk).mono ?_;have h4:k*(13*(2*tt t (n - 1)+4)+8)≤12*(13*(2*tt t (n - 1)+4)+8):=Nat.mul_le_mul_right _ (by omega);rw [←eU2];unfold uu;omega
  dsimp only;conv=>whnf
  refine VCall.of_data cw1 (ndA fun k=>rfl) ?_;conv=>whnf
  refine VLoop.ren 89 119 rfl ?_;refine VLoop.inv hty (S:=Nat) (fun k=>[(8,I ((k+1:Nat):Int)),(7,.ls 119 0 (k+1) 3),(0,.ls 1000000 0 n 1)]) (fun k=>[(119,.row true 3 (cQ (wL M k))),(1000000,mO n G)]) (fun k=>k+1≤n) (fun k=>n - k) 0 n1 ⟨rfl,rfl,rfl,trivial⟩ ⟨rfl,rfl,trivial⟩ ?_;intro k hk;conv=>whnf
  refine Br.mk (fun h=>?_) (fun h=>?_)
  ·have h:k+1 < n:=by simp only [decide_eq_true_eq] at h;omega
   obtain ⟨w,ew⟩:∃w,wL M k=w:=⟨_,rfl⟩;have hwl:w.length=k+1:=by rw [←ew,wL_len]
   have hwr:=hW k (by omega);have enx:wL M (k+1)=w++[sN (k+1) fun i=>w.getD i 0*M i (k+1)]:=by rw [←ew];rfl
   rw [ew] at hwr ⊢;obtain ⟨P,eP⟩:∃P:Nat→Rat,P=fun j=>sN j fun i=>w.getD i 0*M i (k+1):=⟨_,rfl⟩;have hP0:P 0=0:=by rw [eP];rfl
   have hPn:∀j,P (j+1)=P j+w.getD j 0*M j (k+1):=fun j=>by rw [eP];rfl
   have hcl:RowB (13*40000004+4) ((List.range (k+1)).map fun i=>M i (k+1)):=RowB.of_sz (by simp;omega) fun q hq=>by
    obtain ⟨i,hi,rfl⟩:=List.mem_map.1 hq;exact hcol i (k+1) (by simpa using hi) h
   have hPs:∀j,j≤k+1→sz (P j) < U+(13*40000004+4)+4:=fun j hj=>by
    have h3:=hwr.snoc (n:=j) hcl (by omega) (by omega) (by simp;omega);have e:(sN j fun i=>w.getD i 0*((List.range (k+1)).map fun i=>M i (k+1)).getD i 0)=P j:=by
     rw [eP];exact sN_congr fun i hi=>by rw [map_at (by omega)]
    rw [e] at h3;exact h3.sz (by simp)
   have hws:∀j,j < k+1→sz (w.getD j 0) < U:=fun j hj=>hwr.sz (getD_mem (by omega));rw [←congrFun eP (k+1)] at enx;have c0:=cw0;rw [show (((0:Int):Int):Rat)=P 0 by rw [hP0];rfl] at c0;clear eP hP0 hcl;conv=>whnf
   refine VCall.of_data c0 (ndA fun k=>rfl) ?_;conv=>whnf
   refine VLoop.inv hty (S:=Nat) (fun j=>[(98,I j),(97,I ((k+1:Nat):Int)),(9,.lp 9 0),(8,I ((k+1:Nat):Int)),(7,.ls 119 0 (k+1) 3),(0,.ls 1000000 0 n 1)]) (fun j=>[(9,.box true [B (ng (P j)),nI (tp (P j)),nI (P j).den]),(119,.row true 3 (cQ w)),(1000000,mO n G)]) (fun j=>j≤k+1) (fun j=>k+1 - j) 0 (Nat.zero_le _)
    ⟨rfl,rfl,rfl,rfl,rfl,rfl,trivial⟩ ⟨rfl,rfl,rfl,trivial⟩ ?_
   intro j hj;conv=>whnf
   refine Br.mk (fun h3=>?_) (fun h3=>?_)
   ·have h3:j < k+1:=by simp only [decide_eq_true_eq] at h3;omega
    have q1:=hPs j hj;have q2:=hws j h3;have q3:=hcol j (k+1) (by omega) h;have q4:=sz_mul (w.getD j 0) (M j (k+1));have k1:=fn_rmul (w.getD j 0) (M j (k+1)) (by omega) (by omega);have k2:=fn_radd (P j) (w.getD j 0*M j (k+1)) (by omega);rw [←hPn j] at k2;have xj:=ixQ_at (n:=n) (w:=n) (i:=j) (by omega);have yj:=cR_at (R:=G) (i:=j) (x:=G.getD j []) (by omega) rfl;have hgj:(G.getD j []).length=n:=hGs.2 j (by omega);have vj:(G.getD j []).getD (k+1) 0=M j (k+1):=by rw [←eM];rfl
    conv=>whnf
    refine VDraw.go hmo hty 14 [] rfl ?_;conv=>whnf
    refine ⟨by omega,?_⟩;conv=>whnf
    refine ⟨_,cQ_as (x:=w.getD j 0) (i:=j) (by omega) rfl,?_⟩;conv=>whnf
    refine ⟨by omega,?_⟩;conv=>whnf
    refine ⟨_,xj,?_⟩;conv=>whnf
    refine ⟨by omega,?_⟩;conv=>whnf
    refine ⟨_,yj,?_⟩;conv=>whnf
    refine ⟨_,cQ_as (x:=M j (k+1)) (i:=k+1) (by omega) vj,?_⟩;conv=>whnf
    refine QCall.of_data k1 (ndA fun k=>rfl) ?_;conv=>whnf
    refine QCall.of_data k2 (ndA fun k=>rfl) ?_;conv=>whnf
    refine Wr.i64 (y:=((j+1:Nat):Int)) rfl (by omega) (by omega) ?_;conv=>whnf
    exact ⟨j+1,h3,by show k+1 - (j+1) < k+1 - j;omega,⟨rfl,rfl,rfl,rfl,rfl,rfl,trivial⟩,rfl,rfl,rfl,trivial⟩
   ·have h3:j=k+1:=by simp only [decide_eq_false_iff_not] at h3;omega
    rw [h3];conv=>whnf
    refine Sub.full rfl ?_;conv=>whnf
    refine Sub.full (by rw [cQ_len,hwl]) ?_;conv=>whnf
    refine ⟨by show (k+1+1)*56≤_;omega,?_⟩;conv=>whnf
    refine Wr.i64 (y:=((k+1+1:Nat):Int)) rfl (by omega) (by omega) ?_;conv=>whnf
    refine ⟨k+1,h,by show n - (k+1) < n - k;omega,⟨rfl,rfl,rfl,trivial⟩,?_,rfl,trivial⟩;rw [enx,←cQ_ap1];rfl
  ·have h:k=n - 1:=by simp only [decide_eq_false_iff_not] at h;omega
   obtain ⟨w,ew⟩:∃w,wR R0=w:=⟨_,rfl⟩;have ek:wL M k=w:=by rw [h,←eW,ew]
   rw [ew] at hlen hwok huw;have hU1:=huw.one;have hlk:w.length=k+1:=by omega
   rw [ek];clear eW ek hgl hcol hW gl0;have hwz:∀q,q∈w→sz q≤U:=fun q hq=>Nat.le_of_lt (huw.sz hq);have k1:=fn_sum w U hwz (by omega) (by omega) (by rw [hlen];have:n*(U+1)≤12*(U+1):=Nat.mul_le_mul_right _ n2;omega);have hs0:rsum w≠0:=by rw [rsum_sN];exact Rat.ne_of_gt hwok.2.2
   have hsz:sz (rsum w)≤100000000000:=by
    rw [rsum_sN];have:=sz_sN (n:=w.length) (f:=(w.getD · 0)) (m:=U) (fun j hj=>hwz _ (getD_mem hj)) w.length (Nat.le_refl _);have h3:w.length*(U+1)≤12*(U+1):=Nat.mul_le_mul_right _ (by omega);omega
   have k2:=(fn_scaled w (rsum w) U hs0 hwz (by omega) (by omega) hsz (by omega)).freeze (by rw [cQ_len,List.length_map];omega);rw [List.drop_zero,List.take_of_length_le (by rw [cQ_len,List.length_map];omega),rsum_sN,←ew] at k2;rw [show (wR R0).map (· / sN (wR R0).length ((wR R0).getD · 0))=restU R0 from eU.symm,ew] at k2;rw [rsum_sN] at k1;obtain ⟨o,eo⟩:∃o,sN w.length (w.getD · 0)=o:=⟨_,rfl⟩;rw [eo] at k1 k2;conv=>whnf
   refine VCall.frzD 119 (n:=k+1) (sz:=3) (D:=cQ w) ⟨rfl,rfl⟩ (by rw [cQ_len,hlk]) (by repeat first | exact trivial | refine ⟨⟨rfl,rfl,rfl⟩,?_⟩) ⟨⟨rfl,rfl,rfl⟩,trivial⟩ ?_;refine VCall.of_data k1 (ndA fun k=>rfl) ?_;conv=>whnf
   refine VCall.of_data k2 (nd _) ?_;conv=>whnf
   exact ⟨rfl,⟨rfl,trivial⟩,rfl⟩
end Go.V
namespace Go.V
open Go.Proofs Go.RowKit
set_option maxRecDepth 10000
set_option maxHeartbeats 1000000
theorem cN_as {l:List Nat} {i x:Nat} (h:i < l.length) (e:l.getD i 0=x):(cW .i64 l)[i]? = some [.s (.int .i64 x)]:=by
 subst e;rw [gD,List.getElem?_eq_getElem h];simp [cW,h]
theorem take_next {α β:Type} {cs:List α} {k:Nat} {d:α} (f:α→β) (h:k < cs.length):(cs.take (k+1)).map f=(cs.take k).map f++[f (cs.getD k d)]:=by
 rw [List.take_succ_eq_append_getElem h,List.map_append,gD,List.getElem?_eq_getElem h];rfl
def subL (p:Mt) (cs:List Nat) (k:Nat):Mt:=(cs.take k).map fun i=>cs.map fun j=>ent p i j
theorem subL_next {p:Mt} {cs:List Nat} {k:Nat} (h:k < cs.length):cR (subL p cs (k+1))=cR (subL p cs k)++[cQ (cs.map fun j=>ent p (cs.getD k 0) j)]:=by
 unfold subL cR;rw [take_next (d:=0) _ h,List.map_append];rfl
theorem subL_len {p:Mt} {cs:List Nat} {k:Nat} (h:k≤cs.length):(subL p cs k).length=k:=by simp [subL];omega
theorem subL_all (p:Mt) (cs:List Nat):subL p cs cs.length=subM p cs:=by unfold subL subM;rw [List.take_length]
theorem rbF_next (b:Nat→Bool) (j:Nat):(List.range (j+1)).filter b=(List.range j).filter b++if b j=true then [j] else []:=by
 rw [List.range_succ,List.filter_append]
 congr 1
 by_cases e:b j=true
 ·rw [if_pos e,List.filter_cons_of_pos e];rfl
 ·rw [if_neg e,List.filter_cons_of_neg e];rfl
theorem clsN_le (n:Nat) (r:Nat→Nat→Bool):∀i,(clsN n r i).2.length≤i
 | 0=>Nat.le_refl _
 | i+1=>by
  have ih:=clsN_le n r i
  show (clsStep n r (clsN n r i) i).2.length≤_
  unfold clsStep
  split
  ·omega
  ·rw [List.length_append,List.length_singleton];omega
theorem fn_rest (p:Mt) (t s:Nat) (hp:MtR p t) (ht:t≤9700) (hs:s < p.length) (hc:Cl p.length (ent p) s):Fn Tryz.prog 157 [lM p] [] (.tup [lQ (restQ p s),B true]) []:=by
 have hz:((cM p).length:Int)=p.length:=by rw [cM_len]
 have n1:=hp.n1;have n2:=hp.n2;obtain ⟨hm,hcl⟩:=hp.sub hs hc;obtain ⟨c,hset,hcls⟩:=cls_one (n:=p.length) (s:=s) (r:=rb p.length (ent p)) (fun j _=>rb_self) (fun j k l _ _ _ h1 h2=>rb_trans h1 h2) hs (fun i hi=>rb_iff.2 (hc.rc i hi));have c1:=fn_classes p t hp (by omega);have hol:=clsN_len p.length (rb p.length (ent p)) p.length;obtain ⟨ob,eob⟩:∃ob,clsN p.length (rb p.length (ent p)) p.length=ob:=⟨_,rfl⟩;rw [eob] at hset hcls c1 hol;obtain ⟨o,b⟩:=ob;dsimp only at hset hcls c1 hol;have hbl:b.length≤1000000:=by
  have h:=clsN_le p.length (rb p.length (ent p)) p.length;rw [eob] at h;dsimp only at h;omega
 have c2:=fn_setOfd b hbl;rw [hset] at c2;have hcr:=rbF_next (rb p.length (ent p) s);obtain ⟨r,er⟩:∃r,rb p.length (ent p) s=r:=⟨_,rfl⟩;rw [er] at hcls hcr;have ecs:clsS p s=(List.range p.length).filter r:=by rw [←er];rfl
 have hdec:∀j,j < p.length→decide (o.getD j 0=(c:Int))=r j:=fun j hj=>by
  have:=hcls j hj;cases hr:r j with
  | true=>exact decide_eq_true (this.2 hr)
  | false=>exact decide_eq_false fun e=>by have:=this.1 e;rw [hr] at this;cases this
 obtain ⟨n,en⟩:∃n,p.length=n:=⟨_,rfl⟩;have hcs:∀l,l < (clsS p s).length→(clsS p s).getD l 0 < n:=fun l hl=>en▸(filt_getD hl).1;have hcl2:=hcl;have eU:restQ p s=spr (clsS p s) (restU (subM p (clsS p s))) (clsS p s).length (List.replicate p.length 0):=rfl;have c3:=fn_restOf _ t hm ht (by rw [subM_len];exact hcl);have ulen:(restU (subM p (clsS p s))).length=(clsS p s).length:=by rw [restU_len hm.n1,subM_len]
 rw [subM_len] at c3;have hcl3:(clsS p s).length≤n:=by rw [ecs,←en];exact filt_le _ _
 rw [eU];obtain ⟨cs,ec⟩:∃cs,clsS p s=cs:=⟨_,rfl⟩;rw [ec] at ecs hcs c3 ulen hcl3 ⊢;obtain ⟨u,eu⟩:∃u,restU (subM p cs)=u:=⟨_,rfl⟩;rw [eu] at c3 ulen ⊢;have cr:=fn_slRepeat 0 n (by omega) (by omega);have c0:=fn_whole 0 (by decide) (by decide);rw [en] at hz n1 n2 hol ecs hdec ⊢;obtain ⟨K,eK⟩:∃K,cs.length=K:=⟨_,rfl⟩;have g:Fn Tryz.prog 157 [lM p] [] (.tup [.ls 0 0 n 3,B true]) [(0,.row true 3 (cQ (spr cs u K (List.replicate n 0))))]:=by
  rw [eK] at hcs c3 ulen hcl3;refine Fn.intro (ks:=[0,2,3,4,5,6,7,8,9,10,12,13,15,16,17,18,28,30,31,32,33,41,48,49,50,51,55,56,57,58,83,84,85,86]) hty rfl rfl rfl rfl rfl ?_;conv=>whnf
  refine VCall.of_data c1 (ndT fun _=>rfl) ?_;conv=>whnf
  refine VCall.of_data c2 (nd _) ?_;conv=>whnf
  have hzo:((cI o).length:Int)=n:=by rw [cI_len,hol]
  rw [hzo];refine VLoop.ren 29 45 rfl ?_;refine VLoop.inv hty (S:=Nat) (fun j=>[(32,I j),(31,I n),(30,.d (.sl (cI o))),(7,.ls 45 0 ((List.range j).filter r).length 1),(6,.d (.sl (cW .i64 [c]))),(0,lM p)]) (fun j=>[(45,.row true 1 (cW .i64 ((List.range j).filter r)))]) (fun j=>j≤n) (fun j=>n - j) 0 (Nat.zero_le _)
   ⟨rfl,rfl,rfl,rfl,rfl,rfl,trivial⟩ ⟨rfl,trivial⟩ ?_
  intro j hj;conv=>whnf
  refine Br.mk (fun h=>?_) (fun h=>?_)
  ·have h:j < n:=by simp only [decide_eq_true_eq] at h;omega
   have es:=hcr j;have hle:=filt_le r j;have hd:=hdec j h;obtain ⟨x,ex⟩:∃x,r j=x:=⟨_,rfl⟩;rw [ex] at es hd;obtain ⟨F,eF⟩:∃F,(List.range j).filter r=F:=⟨_,rfl⟩;rw [eF] at es hle ⊢;conv=>whnf
   refine ⟨⟨⟨by omega,by rw [cI_len];omega⟩,cI_sz _⟩,?_⟩;conv=>whnf
   refine ⟨_,cI_as (l:=o) (x:=o.getD j 0) (by omega) rfl,?_⟩;conv=>whnf
   refine ⟨⟨⟨by omega,by rw [cN_len];simp⟩,cN_sz _⟩,?_⟩;conv=>whnf
   refine ⟨_,cN_as (l:=[c]) (i:=0) (x:=c) (by simp) rfl,?_⟩;conv=>whnf
   rw [hd];cases x with
   | false =>
    rw [if_neg (by decide),List.append_nil] at es;conv=>whnf
    refine Wr.i64 (y:=((j+1:Nat):Int)) rfl (by omega) (by omega) ?_;conv=>whnf
    refine ⟨j+1,h,by show n - (j+1) < n - j;omega,⟨rfl,rfl,rfl,?_,rfl,rfl,trivial⟩,?_,trivial⟩
    ·rw [es];rfl
    ·rw [es];rfl
   | true =>
    rw [if_pos rfl] at es;conv=>whnf
    refine Sub.full rfl ?_;conv=>whnf
    refine Sub.full (by rw [cN_len]) ?_;conv=>whnf
    refine ⟨by show (F.length+1)*8≤_;omega,?_⟩;conv=>whnf
    refine Wr.i64 (y:=((j+1:Nat):Int)) rfl (by omega) (by omega) ?_;conv=>whnf
    refine ⟨j+1,h,by show n - (j+1) < n - j;omega,⟨rfl,rfl,rfl,?_,rfl,rfl,trivial⟩,?_,trivial⟩
    ·rw [es];show AV.ls 45 0 (F.length+1) 1=AV.ls 45 0 (F++[j]).length 1;rw [List.length_append,List.length_singleton]
    ·rw [es];show Ob.row true 1 (cW .i64 F++[[.s (.int .i64 j)]])=_;rw [cN_app]
  ·have h:j=n:=by simp only [decide_eq_false_iff_not] at h;omega
   rw [h,←ecs,eK];conv=>whnf
   refine VLoop.toMat 47 3 (cs:=[]) rfl rfl ?_;refine VLoop.ren 47 75 rfl ?_;refine VLoop.inv hty (S:=Nat) (fun k=>[(50,I k),(49,I K),(48,.ls 45 0 K 1),(10,.ls 75 0 k 1),(7,.ls 45 0 K 1),(0,lM p)]) (fun k=>[(75,.mat 3 (ixQ k K) (cR (subL p cs k))),(45,.row true 1 (cW .i64 cs))]) (fun k=>k≤K) (fun k=>K - k) 0 (Nat.zero_le _)
    ⟨rfl,rfl,rfl,rfl,rfl,rfl,trivial⟩ ⟨rfl,rfl,trivial⟩ ?_
   intro k hk;conv=>whnf
   refine Br.mk (fun h=>?_) (fun h=>?_)
   ·have h:k < K:=by simp only [decide_eq_true_eq] at h;omega
    obtain ⟨i,ei⟩:∃i,cs.getD k 0=i:=⟨_,rfl⟩;have hi:i < n:=by rw [←ei];exact hcs k h
    obtain ⟨ro,ero⟩:∃ro,p.getD i []=ro:=⟨_,rfl⟩;have hro:ro.length=n:=by rw [←ero,hp.rlen (by omega),en]
    obtain ⟨N,eN⟩:∃N:Mt,subL p cs k=N:=⟨_,rfl⟩;have hN:N.length=k:=by rw [←eN];exact subL_len (by omega)
    have hnx:=subL_next (p:=p) (cs:=cs) (k:=k) (by omega);rw [ei,eN] at hnx;rw [eN];conv=>whnf
    refine ⟨by omega,?_⟩;conv=>whnf
    refine ⟨_,cN_as (x:=i) (by omega) ei,?_⟩;conv=>whnf
    refine VLoop.ren 54 70 rfl ?_;refine VLoop.inv hty (S:=Nat) (fun l=>[(57,I l),(56,I K),(55,.ls 45 0 K 1),(50,I k),(49,I K),(48,.ls 45 0 K 1),(13,.ls 70 0 l 3),(12,I i),(10,.ls 75 0 k 1),(7,.ls 45 0 K 1),(0,lM p)])
     (fun l=>[(70,.row true 3 (cQ ((cs.take l).map fun j=>ent p i j))),(75,.mat 3 (ixQ k K) (cR N)),(45,.row true 1 (cW .i64 cs))]) (fun l=>l≤K) (fun l=>K - l) 0 (Nat.zero_le _)
     ⟨rfl,rfl,rfl,rfl,rfl,rfl,rfl,rfl,rfl,rfl,rfl,trivial⟩ ⟨rfl,rfl,rfl,trivial⟩ ?_
    intro l hl;conv=>whnf
    refine Br.mk (fun h3=>?_) (fun h3=>?_)
    ·have h3:l < K:=by simp only [decide_eq_true_eq] at h3;omega
     obtain ⟨j,ej⟩:∃j,cs.getD l 0=j:=⟨_,rfl⟩;have hj:j < n:=by rw [←ej];exact hcs l h3
     have htn:=take_next (cs:=cs) (k:=l) (d:=0) (fun j=>ent p i j) (by omega);rw [ej] at htn;obtain ⟨A,eA⟩:∃A:List Rat,((cs.take l).map fun j=>ent p i j)=A:=⟨_,rfl⟩;have hA:A.length=l:=by rw [←eA];simp;omega
     rw [eA] at htn ⊢;conv=>whnf
     refine ⟨by omega,?_⟩;conv=>whnf
     refine ⟨_,cN_as (x:=j) (by omega) ej,?_⟩;conv=>whnf
     refine ⟨⟨⟨by omega,by rw [cM_len];omega⟩,cM_sz _⟩,?_⟩;conv=>whnf
     refine ⟨_,cM_as (x:=ro) (by omega) ero,?_⟩;conv=>whnf
     refine ⟨⟨⟨by omega,by rw [cQ_len,hro];omega⟩,cQ_sz _⟩,?_⟩;conv=>whnf
     refine ⟨_,cQ_as (x:=ent p i j) (by omega) (by rw [←ero];rfl),?_⟩;conv=>whnf
     refine Sub.full rfl ?_;conv=>whnf
     refine Sub.full (by rw [cQ_len,hA]) ?_;conv=>whnf
     refine ⟨by show (l+1)*56≤_;omega,?_⟩;conv=>whnf
     refine Wr.i64 (y:=((l+1:Nat):Int)) rfl (by omega) (by omega) ?_;conv=>whnf
     refine ⟨l+1,h3,by show K - (l+1) < K - l;omega,⟨rfl,rfl,rfl,rfl,rfl,rfl,rfl,rfl,rfl,rfl,rfl,trivial⟩,?_,rfl,rfl,trivial⟩;rw [htn,←cQ_ap1];rfl
    ·have h3:l=K:=by simp only [decide_eq_false_iff_not] at h3;omega
     rw [h3,show cs.take K=cs by rw [←eK,List.take_length]];conv=>whnf
     refine ⟨⟨by rw [ixQ_len],by show (k+1)*24≤_;omega⟩,?_⟩;conv=>whnf
     refine Wr.i64 (y:=((k+1:Nat):Int)) rfl (by omega) (by omega) ?_;conv=>whnf
     refine ⟨k+1,h,by show K - (k+1) < K - k;omega,⟨rfl,rfl,rfl,rfl,rfl,rfl,trivial⟩,?_,rfl,trivial⟩;show Ob.mat 3 (ixQ k K++[.r (cR N).length 0 K]) (cR N++[cQ _])=Ob.mat 3 (ixQ (k+1) K) _;rw [hnx,ixQ_snoc,cR_len,hN]
   ·have h:k=K:=by simp only [decide_eq_false_iff_not] at h;omega
    have ek:subL p cs k=subM p cs:=by rw [h,←eK];exact subL_all p cs
    rw [ek,h];conv=>whnf
    refine VCall.of_data c0 (ndA fun k=>rfl) ?_;conv=>whnf
    rw [hz];refine VCall.frzD 78 (n:=1) (sz:=3) (D:=cQ [0]) ⟨rfl,rfl⟩ (by rw [cQ_len];rfl) (by repeat first | exact trivial | refine ⟨⟨rfl,rfl,rfl⟩,?_⟩) ⟨⟨rfl,rfl,rfl⟩,trivial⟩ ?_;refine VCall.of_ls (k:=81) cr rfl ?_;conv=>whnf
    refine VCall.par1m 75 c3 ⟨⟨rfl,rfl,rfl,rfl⟩,trivial⟩ rfl ?_;conv=>whnf
    have hzu:((cQ u).length:Int)=K:=by rw [cQ_len,ulen]
    rw [hzu];refine VLoop.inv hty (S:=Nat) (fun k=>[(85,I k),(84,I K),(83,lQ u),(16,.ls 81 0 n 3),(7,.ls 45 0 K 1)]) (fun k=>[(81,.row true 3 (cQ (spr cs u k (List.replicate n 0)))),(45,.row true 1 (cW .i64 cs))]) (fun k=>k≤K) (fun k=>K - k) 0 (Nat.zero_le _)
     ⟨rfl,rfl,rfl,rfl,rfl,trivial⟩ ⟨rfl,rfl,trivial⟩ ?_
    intro k hk;conv=>whnf
    refine Br.mk (fun h=>?_) (fun h=>?_)
    ·have h:k < K:=by simp only [decide_eq_true_eq] at h;omega
     obtain ⟨i,ei⟩:∃i,cs.getD k 0=i:=⟨_,rfl⟩;have hi:i < n:=by rw [←ei];exact hcs k h
     have hnx:spr cs u (k+1) (List.replicate n 0)=(spr cs u k (List.replicate n 0)).set i (u.getD k 0):=by rw [←ei];rfl
     have hsl:=spr_len cs u (List.replicate n 0) k;rw [List.length_replicate] at hsl;obtain ⟨A,eA⟩:∃A,spr cs u k (List.replicate n 0)=A:=⟨_,rfl⟩;rw [eA] at hnx hsl ⊢;conv=>whnf
     refine ⟨⟨⟨by omega,by rw [cQ_len];omega⟩,cQ_sz _⟩,?_⟩;conv=>whnf
     refine ⟨_,cQ_as (x:=u.getD k 0) (by omega) rfl,?_⟩;conv=>whnf
     refine VDraw.go hmo hty 7 [] rfl ?_;conv=>whnf
     refine ⟨by omega,?_⟩;conv=>whnf
     refine ⟨_,cN_as (x:=i) (by omega) ei,?_⟩;conv=>whnf
     refine ⟨by omega,?_⟩;conv=>whnf
     refine ⟨by rw [cQ_len,hsl];show i+0 < n;omega,?_⟩;conv=>whnf
     refine Wr.i64 (y:=((k+1:Nat):Int)) rfl (by omega) (by omega) ?_;conv=>whnf
     refine ⟨k+1,h,by show K - (k+1) < K - k;omega,⟨rfl,rfl,rfl,rfl,rfl,trivial⟩,?_,rfl,trivial⟩;rw [hnx,←cQ_set];rfl
    ·have h:k=K:=by simp only [decide_eq_false_iff_not] at h;omega
     rw [h];conv=>whnf
     exact ⟨⟨rfl,rfl,rfl,rfl,rfl,rfl⟩,[],rfl,rfl,trivial,rfl⟩
 have:=g.freezeT (by rw [cQ_len,spr_len,List.length_replicate];omega) rfl;rw [List.drop_zero,List.take_of_length_le (by rw [cQ_len,spr_len,List.length_replicate];omega)] at this;rw [eK];exact this
end Go.V
namespace Go.V
open Go.Proofs Go.RowKit
set_option maxRecDepth 10000
set_option maxHeartbeats 1000000
abbrev lNs (l:List Nat):AV:=.d (.sl (cW .i64 l))
theorem fn_sHas (l:List Nat) (x:Nat) (b:Bool) (hb:b=true↔x∈l) (hl:l.length≤1000000):Fn Tryz.prog 176 [lNs l,I x] [] (B b) []:=by
 have hz:((cW .i64 l).length:Int)=l.length:=by rw [cN_len]
 refine Fn.intro (ks:=[0,1,4,5,9,17]) hty rfl rfl rfl rfl rfl ?_;conv=>whnf
 refine VLoop.inv hty (S:=Nat) (fun k=>[(5,I k),(1,I x),(0,lNs l)]) (fun _=>[]) (fun k=>k≤l.length∧∀y,y∈l.take k→y≠x) (fun k=>l.length - k) 0 ⟨Nat.zero_le _,fun y hy=>by simp at hy⟩ ⟨rfl,rfl,rfl,trivial⟩ trivial ?_;rintro k ⟨hk,hno⟩;conv=>whnf
 rw [hz];refine Br.mk (fun h=>?_) (fun h=>?_)
 ·have h:k < l.length:=by simp only [decide_eq_true_eq] at h;omega
  obtain ⟨y,ey⟩:∃y,l.getD k 0=y:=⟨_,rfl⟩;conv=>whnf
  refine ⟨⟨⟨by omega,by rw [cN_len];omega⟩,cN_sz _⟩,?_⟩;conv=>whnf
  refine ⟨_,cN_as h ey,?_⟩;conv=>whnf
  by_cases e:y=x
  ·have:b=true:=hb.2 (by rw [←e,←ey];exact getD_mem h);rw [decide_eq_true (show (y:Int)=(x:Int) by omega),this];conv=>whnf
   exact ⟨rfl,trivial,rfl⟩
  ·rw [decide_eq_false (show ¬(y:Int)=(x:Int) by omega)];conv=>whnf
   refine Wr.i64 (y:=((k+1:Nat):Int)) rfl (by omega) (by omega) ?_;conv=>whnf
   refine ⟨k+1,⟨h,fun z hz2=>?_⟩,by show l.length - (k+1) < l.length - k;omega,⟨rfl,rfl,rfl,trivial⟩,trivial⟩;rw [List.take_succ_eq_append_getElem h] at hz2;rcases List.mem_append.1 hz2 with h3 | h3
   ·exact hno z h3
   ·rw [List.mem_singleton.1 h3];have:l[k]=y:=by rw [←ey,gD,List.getElem?_eq_getElem h];rfl
    rw [this];exact e
 ·have h:k=l.length:=by simp only [decide_eq_false_iff_not] at h;omega
  have:b=false:=by
   cases b with
   | false=>rfl
   | true=>exact absurd rfl (hno x (by rw [h,List.take_length];exact hb.1 rfl))
  rw [this];conv=>whnf
  exact ⟨rfl,trivial,rfl⟩
def putL (A Bs:List Nat) (x k:Nat):List Nat:=if k≤A.length then A.take k else A++x :: Bs.take (k - A.length)
theorem getD_app_l {A Bs:List Nat} {k:Nat} (h:k < A.length):(A++Bs).getD k 0=A.getD k 0:=by
 rw [gD,List.getElem?_append_left h,gD]
theorem getD_app_r {A Bs:List Nat} {k:Nat} (h:A.length≤k):(A++Bs).getD k 0=Bs.getD (k - A.length) 0:=by
 rw [gD,List.getElem?_append_right h,gD]
theorem take_one {A:List Nat} {k:Nat} (h:k < A.length):A.take (k+1)=A.take k++[A.getD k 0]:=by
 rw [List.take_succ_eq_append_getElem h,gD,List.getElem?_eq_getElem h];rfl
theorem fn_sPut (A Bs:List Nat) (x:Nat) (hA:∀a,a∈A→a < x) (hB:∀b,b∈Bs→x < b) (hl:A.length+Bs.length≤1000000):Fn Tryz.prog 229 [lNs (A++Bs),I x] [] (lNs (A++x :: Bs)) []:=by
 have hz:((cW .i64 (A++Bs)).length:Int)=((A.length+Bs.length:Nat):Int):=by rw [cN_len,List.length_append]
 have g:Fn Tryz.prog 229 [lNs (A++Bs),I x] [] (.ls 0 0 (A++x :: Bs).length 1) [(0,.row true 1 (cW .i64 (A++x :: Bs)))]:=by
  refine Fn.intro (ks:=[0,1,4,5,6,7,12,24,30,43]) hty rfl rfl rfl rfl rfl ?_;conv=>whnf
  refine VLoop.ren 8 41 rfl ?_;refine VLoop.inv hty (S:=Nat) (fun k=>[(7,I k),(6,B (decide (A.length < k))),(5,.ls 41 0 (putL A Bs x k).length 1),(1,I x),(0,lNs (A++Bs))]) (fun k=>[(41,.row true 1 (cW .i64 (putL A Bs x k)))]) (fun k=>k≤A.length+Bs.length) (fun k=>A.length+Bs.length - k) 0 (Nat.zero_le _)
   ⟨rfl,?_,rfl,rfl,rfl,trivial⟩ ⟨rfl,trivial⟩ ?_
  ·rw [decide_eq_false (show ¬A.length < 0 by omega)]
   rfl
  intro k hk;have hpl:(putL A Bs x k).length≤k+1:=by
   unfold putL;split
   ·rw [List.length_take];omega
   ·rw [List.length_append,List.length_cons,List.length_take];omega
  conv=>whnf
  rw [hz];refine Br.mk (fun h=>?_) (fun h=>?_)
  ·have h:k < A.length+Bs.length:=by simp only [decide_eq_true_eq] at h;omega
   by_cases hkA:A.length < k
   ·-- done
    have e1:putL A Bs x k=A++x :: Bs.take (k - A.length):=by unfold putL;rw [if_neg (by omega)]
    have e2:putL A Bs x (k+1)=A++x :: Bs.take (k+1 - A.length):=by unfold putL;rw [if_neg (by omega)]
    obtain ⟨y,ey⟩:∃y,(A++Bs).getD k 0=y:=⟨_,rfl⟩;have e3:putL A Bs x (k+1)=putL A Bs x k++[y]:=by
     rw [e1,e2,←ey,getD_app_r (by omega),show k+1 - A.length=(k - A.length)+1 by omega,take_one (by omega),List.append_assoc];rfl
    obtain ⟨F,eF⟩:∃F,putL A Bs x k=F:=⟨_,rfl⟩;rw [eF] at e3 hpl ⊢;rw [decide_eq_true hkA];conv=>whnf
    refine ⟨⟨⟨by omega,by rw [cN_len,List.length_append];omega⟩,cN_sz _⟩,?_⟩;conv=>whnf
    refine ⟨_,cN_as (by rw [List.length_append];omega) ey,?_⟩;conv=>whnf
    refine Sub.full rfl ?_;conv=>whnf
    refine Sub.full (by rw [cN_len]) ?_;conv=>whnf
    refine ⟨by show (F.length+1)*8≤_;omega,?_⟩;conv=>whnf
    refine Wr.i64 (y:=((k+1:Nat):Int)) rfl (by omega) (by omega) ?_;conv=>whnf
    refine ⟨k+1,h,by show A.length+Bs.length - (k+1) < A.length+Bs.length - k;omega,⟨rfl,?_,?_,rfl,rfl,trivial⟩,?_,trivial⟩
    ·rw [decide_eq_true (show A.length < k+1 by omega)];rfl
    ·rw [e3];show AV.ls 41 0 (F.length+1) 1=AV.ls 41 0 (F++[y]).length 1;rw [List.length_append,List.length_singleton]
    ·rw [e3,←cN_app];rfl
   ·rw [decide_eq_false hkA];by_cases hkA2:k=A.length
    ·-- here it goes
     have e1:putL A Bs x k=A:=by unfold putL;rw [if_pos (by omega),hkA2,List.take_length]
     obtain ⟨y,ey⟩:∃y,(A++Bs).getD k 0=y:=⟨_,rfl⟩;have hy:x < y:=by rw [←ey,getD_app_r (by omega)];exact hB _ (getD_mem (by omega))
     have e3:putL A Bs x (k+1)=(A++[x])++[y]:=by
      unfold putL;rw [if_neg (by omega),show k+1 - A.length=0+1 by omega,take_one (by omega),←ey,getD_app_r (by omega),show k - A.length=0 by omega];simp
     rw [e1];conv=>whnf
     refine ⟨⟨⟨by omega,by rw [cN_len,List.length_append];omega⟩,cN_sz _⟩,?_⟩;conv=>whnf
     refine ⟨_,cN_as (by rw [List.length_append];omega) ey,?_⟩;conv=>whnf
     rw [decide_eq_true (show (x:Int)≤(y:Int) by omega)];conv=>whnf
     refine ⟨⟨⟨by omega,by rw [cN_len,List.length_append];omega⟩,cN_sz _⟩,?_⟩;conv=>whnf
     refine ⟨_,cN_as (by rw [List.length_append];omega) ey,?_⟩;conv=>whnf
     rw [decide_eq_true (show (x:Int) < (y:Int) by omega)];conv=>whnf
     refine Sub.full rfl ?_;conv=>whnf
     refine Sub.full (by rw [cN_len]) ?_;conv=>whnf
     refine ⟨by show (A.length+1)*8≤_;omega,?_⟩;conv=>whnf
     refine ⟨⟨⟨by omega,by rw [cN_len,List.length_append];omega⟩,cN_sz _⟩,?_⟩;conv=>whnf
     refine ⟨_,cN_as (by rw [List.length_append];omega) ey,?_⟩;conv=>whnf
     refine Sub.full rfl ?_;conv=>whnf
     refine Sub.full (by rw [List.length_append,cN_len];rfl) ?_;conv=>whnf
     refine ⟨by show (A.length+1+1)*8≤_;omega,?_⟩;conv=>whnf
     refine Wr.i64 (y:=((k+1:Nat):Int)) rfl (by omega) (by omega) ?_;conv=>whnf
     refine ⟨k+1,h,by show A.length+Bs.length - (k+1) < A.length+Bs.length - k;omega,⟨rfl,?_,?_,rfl,rfl,trivial⟩,?_,trivial⟩
     ·rw [decide_eq_true (show A.length < k+1 by omega)];rfl
     ·rw [e3];show AV.ls 41 0 (A.length+1+1) 1=AV.ls 41 0 ((A++[x])++[y]).length 1;rw [List.length_append,List.length_append,List.length_singleton,List.length_singleton]
     ·rw [e3,←cN_app,←cN_app];rfl
    ·-- not yet
     have hk2:k < A.length:=by omega
     have e1:putL A Bs x k=A.take k:=by unfold putL;rw [if_pos (by omega)]
     obtain ⟨y,ey⟩:∃y,(A++Bs).getD k 0=y:=⟨_,rfl⟩;have ey2:A.getD k 0=y:=by rw [←ey,getD_app_l hk2]
     have hy:y < x:=by rw [←ey2];exact hA _ (getD_mem hk2)
     have e3:putL A Bs x (k+1)=putL A Bs x k++[y]:=by
      rw [e1];unfold putL;rw [if_pos (by omega),take_one hk2,ey2]
     obtain ⟨F,eF⟩:∃F,putL A Bs x k=F:=⟨_,rfl⟩;rw [eF] at e3 hpl ⊢;conv=>whnf
     refine ⟨⟨⟨by omega,by rw [cN_len,List.length_append];omega⟩,cN_sz _⟩,?_⟩;conv=>whnf
     refine ⟨_,cN_as (by rw [List.length_append];omega) ey,?_⟩;conv=>whnf
     rw [decide_eq_false (show ¬(x:Int)≤(y:Int) by omega)];conv=>whnf
     refine ⟨⟨⟨by omega,by rw [cN_len,List.length_append];omega⟩,cN_sz _⟩,?_⟩;conv=>whnf
     refine ⟨_,cN_as (by rw [List.length_append];omega) ey,?_⟩;conv=>whnf
     refine Sub.full rfl ?_;conv=>whnf
     refine Sub.full (by rw [cN_len]) ?_;conv=>whnf
     refine ⟨by show (F.length+1)*8≤_;omega,?_⟩;conv=>whnf
     refine Wr.i64 (y:=((k+1:Nat):Int)) rfl (by omega) (by omega) ?_;conv=>whnf
     refine ⟨k+1,h,by show A.length+Bs.length - (k+1) < A.length+Bs.length - k;omega,⟨rfl,?_,?_,rfl,rfl,trivial⟩,?_,trivial⟩
     ·rw [decide_eq_false (show ¬A.length < k+1 by omega)];rfl
     ·rw [e3];show AV.ls 41 0 (F.length+1) 1=AV.ls 41 0 (F++[y]).length 1;rw [List.length_append,List.length_singleton]
     ·rw [e3,←cN_app];rfl
  ·have h:k=A.length+Bs.length:=by simp only [decide_eq_false_iff_not] at h;omega
   by_cases hB0:Bs.length=0
   ·have hB1:Bs=[]:=List.eq_nil_of_length_eq_zero hB0;have e1:putL A Bs x k=A:=by unfold putL;rw [if_pos (by omega),h,hB0,Nat.add_zero,List.take_length]
    rw [e1,decide_eq_false (show ¬A.length < k by omega),hB1];conv=>whnf
    refine Sub.full rfl ?_;conv=>whnf
    refine Sub.full (by rw [cN_len]) ?_;conv=>whnf
    refine ⟨by show (A.length+1)*8≤_;omega,?_⟩;conv=>whnf
    refine ⟨⟨rfl,rfl,rfl,rfl,?_,rfl⟩,[],?_,trivial,rfl⟩
    ·show (A++[x]).length=A.length+1;rw [List.length_append,List.length_singleton]
    ·rw [←cN_app];rfl
   ·have e1:putL A Bs x k=A++x :: Bs:=by unfold putL;rw [if_neg (by omega),List.take_of_length_le (by omega)]
    rw [e1,decide_eq_true (show A.length < k by omega)];conv=>whnf
    exact ⟨⟨rfl,rfl,rfl,rfl,rfl,rfl⟩,[],rfl,trivial,rfl⟩
 have:=g.freeze (by rw [cN_len];omega);rwa [List.drop_zero,List.take_of_length_le (by rw [cN_len];omega)] at this
end Go.V
namespace Go.V
open Go.Proofs Go.RowKit
set_option maxRecDepth 10000
set_option maxHeartbeats 1000000
def filt (S:List Bool):List Nat:=(List.range S.length).filter (S.getD · false)
theorem filt_mem {S:List Bool} {x:Nat} (hx:x < S.length):S.getD x false=true↔x∈filt S:=by
 unfold filt
 rw [List.mem_filter]
 exact ⟨fun h=>⟨by simpa using hx,h⟩,fun h=>h.2⟩
theorem range_split {n j:Nat} (h:j < n):List.range n=List.range j++j :: (List.range (n - j - 1)).map (j+1 + ·):=by
 rw [show n=(j+1)+(n - j - 1) by omega,List.range_add,List.range_succ,List.append_assoc,show j+1+(n - j - 1) - j - 1=n - j - 1 by omega]
 rfl
theorem filt_put {S:List Bool} {j:Nat} (h:j < S.length) (hs:S.getD j false=false):∃A Bs,filt S=A++Bs∧filt (S.set j true)=A++j :: Bs∧(∀a,a∈A→a < j)∧(∀b,b∈Bs→j < b)∧A.length+Bs.length≤S.length:=by
 have hg:∀x,(S.set j true).getD x false=if x=j then true else S.getD x false:=fun x=>gsetD h
 refine ⟨(List.range j).filter (S.getD · false),((List.range (S.length - j - 1)).map (j+1 + ·)).filter (S.getD · false),?_,?_,fun a ha=>?_,fun b hb=>?_,?_⟩
 ·unfold filt;rw [range_split h,List.filter_append,List.filter_cons_of_neg (by simpa using hs)]
 ·unfold filt;rw [List.length_set,range_split h,List.filter_append,List.filter_cons_of_pos (by rw [hg,if_pos rfl])]
  congr 1
  ·refine List.filter_congr fun x hx=>?_;have hx:x < j:=by simpa using hx
   rw [hg,if_neg (by omega)]
  ·congr 1
   refine List.filter_congr fun x hx=>?_;obtain ⟨y,_,rfl⟩:=List.mem_map.1 hx;rw [hg,if_neg (by omega)]
 ·have:=(List.mem_filter.1 ha).1;simpa using this
 ·obtain ⟨y,_,rfl⟩:=List.mem_map.1 (List.mem_filter.1 hb).1;omega
 ·have h1:=List.length_filter_le (S.getD · false) (List.range j);have h2:=List.length_filter_le (S.getD · false) ((List.range (S.length - j - 1)).map (j+1 + ·));rw [List.length_range] at h1;rw [List.length_map,List.length_range] at h2;omega
theorem filt_rb (n:Nat) (m:Fm) (i:Nat):filt ((List.range n).map (rb n m i))=(List.range n).filter (rb n m i):=by
 unfold filt
 rw [List.length_map,List.length_range]
 refine List.filter_congr fun x hx=>?_
 rw [map_at (by simpa using hx)]
theorem filt_le2 (S:List Bool):(filt S).length≤S.length:=filt_le _ _
theorem filt_init {n i:Nat} (hi:i < n):filt ((List.replicate n false).set i true)=[i]:=by
 have hr:∀x,(List.replicate n false).getD x false=false:=fun x=>by rw [gD,List.getElem?_replicate];split <;> rfl
 unfold filt
 rw [List.length_set,List.length_replicate]
 refine filter_one hi fun k hk=>?_
 rw [gsetD (by simpa using hi),hr]
 constructor
 ·intro h
  by_cases e:k=i
  ·exact e
  ·rw [if_neg e] at h;cases h
 ·intro e;rw [if_pos e]
theorem cN_mid2 (X Q:List Nat) (a:Nat):(cW .i64 (X++a :: Q))[X.length]? = some [.s (.int .i64 a)]:=by have:=cN_mid X Q a;rwa [Nat.zero_add] at this
theorem fn_sReach (p:Mt) (t i:Nat) (hp:MtR p t) (ht:t≤1000000000) (hi:i < p.length):Fn Tryz.prog 202 [mP p,I i] [] (lNs ((List.range p.length).filter (rb p.length (ent p) i))) []:=by
 have hz:((cMS p).length:Int)=p.length:=by rw [cMS_len]
 have n2:=hp.n2;obtain ⟨n,en⟩:∃n,p.length=n:=⟨_,rfl⟩;rw [en] at hz n2 hi ⊢;refine Fn.intro (ks:=[0,1,4,5,6,7,8,16,23,24,25,47]) hty rfl rfl rfl rfl rfl ?_;conv=>whnf
 refine VLoop.ren 10 54 rfl ?_;refine VLoop.frzD 12 (n:=1) (sz:=1) (D:=cW .i64 [i]) ⟨rfl,rfl⟩ rfl (by repeat first | exact trivial | refine ⟨⟨rfl,rfl,rfl⟩,?_⟩) ?_;refine VLoop.inv hty (S:=List Bool×List Nat×List Nat) (fun s=>[(7,I s.2.1.length),(6,lNs (filt s.1)),(5,.ls 54 0 (s.2.1++s.2.2).length 1),(0,mP p)]) (fun s=>[(54,.row true 1 (cW .i64 (s.2.1++s.2.2)))])
  (fun s=>Bf n i (ent p) s.1 s.2.2∧(∀x,x < n→s.1.getD x false=true→x∈s.2.2∨Dn n (ent p) s.1 x)∧s.2.1.length+cf s.1+s.2.2.length≤n) (fun s=>cf s.1+s.2.2.length) ((List.replicate n false).set i true,[],[i])
  ⟨Bf.init hi,fun x hx h=>.inl ?_,?_⟩ ⟨rfl,?_,rfl,rfl,trivial⟩ ⟨rfl,trivial⟩ ?_
 ·have hs:((List.replicate n false).set i true).getD x false=if x=i then true else (List.replicate n false).getD x false:=gsetD (by simpa using hi)
  have hr:(List.replicate n false).getD x false=false:=by rw [gD,List.getElem?_replicate];split <;> rfl
  rw [hs,hr] at h;by_cases e:x=i
  ·subst e;simp
  ·rw [if_neg e] at h;cases h
 ·have:=(Bf.init (m:=ent p) hi).bound;dsimp only;simp at this ⊢;omega
 ·show lNs [i]=lNs (filt ((List.replicate n false).set i true));rw [filt_init hi]
 rintro ⟨S,X,Q⟩ ⟨hB,hD,hbd⟩;dsimp only at hB hD hbd;cases Q with
 | nil =>
  have e:=hB.fin hi fun x hx h=>(hD x hx h).resolve_left (by simp);have e2:filt S=(List.range n).filter (rb n (ent p) i):=by rw [e];exact filt_rb _ _ _
  dsimp only;rw [e2,List.append_nil];conv=>whnf
  refine Br.mk (fun hb=>by simp at hb) (fun hb=>?_);conv=>whnf
  exact ⟨rfl,trivial,rfl⟩
 | cons a Q =>
  obtain ⟨ha,hsa⟩:=hB.wait a (by simp);have hbd2:X.length+cf S+(Q.length+1)≤n:=hbd;have hXl:(X++a :: Q).length=X.length+(Q.length+1):=by rw [List.length_append];rfl
  have ero:p.getD a []=p.getD a []:=rfl;have hra:(p.getD a []).length=n:=by rw [hp.rlen (by omega),en]
  dsimp only;conv=>whnf
  refine Br.mk (fun hb=>?_) (fun hb=>by simp only [decide_eq_false_iff_not] at hb;exact absurd (show (X.length:Int) < ((X++a :: Q).length:Int) by omega) hb);conv=>whnf
  rw [hz];refine VLoop.inv hty (S:=Nat×List Bool×List Nat) (fun s=>[(24,I s.1),(23,I n),(7,I X.length),(6,lNs (filt s.2.1)),(5,.ls 54 0 (X++a :: s.2.2).length 1),(0,mP p)]) (fun s=>[(54,.row true 1 (cW .i64 (X++a :: s.2.2)))])
   (fun s=>s.1≤n∧Bf n i (ent p) s.2.1 (a :: s.2.2)∧(∀x,x < n→s.2.1.getD x false=true→x∈a :: s.2.2∨Dn n (ent p) s.2.1 x)∧(∀y,y < s.1→0 < ent p a y→s.2.1.getD y false=true)∧cf s.2.1+s.2.2.length=cf S+Q.length) (fun s=>n - s.1) (0,S,Q)
   ⟨Nat.zero_le _,hB,hD,fun y hy=>absurd hy (Nat.not_lt_zero _),rfl⟩ ⟨rfl,rfl,rfl,rfl,rfl,rfl,trivial⟩ ⟨rfl,trivial⟩ ?_
  rintro ⟨j,S2,Q2⟩ ⟨hj,hB2,hD2,hy2,hc2⟩;dsimp only at hj hB2 hD2 hy2 hc2;have hXl2:(X++a :: Q2).length=X.length+(Q2.length+1):=by rw [List.length_append];rfl
  dsimp only;conv=>whnf
  refine Br.mk (fun h=>?_) (fun h=>?_)
  ·have h:j < n:=by simp only [decide_eq_true_eq] at h;exact Int.ofNat_lt.1 h
   have hsz:=hp.ent_sz (i:=a) (j:=j) (by omega) (by omega);have hpos:=hp.sto.pos a j (by omega) (by omega);have hl2:=hB2.len;have hb2:=hB2.bound;have hfl:=filt_le2 S2;have c1:=fn_sZero (ent p a j) (by omega);obtain ⟨sj,hs⟩:∃sj,S2.getD j false=sj:=⟨_,rfl⟩;have c2:=fn_sHas (filt S2) j sj (by rw [←hs];exact filt_mem (by omega)) (by omega);conv=>whnf
   refine VDraw.go hmo hty 21 [] rfl ?_;conv=>whnf
   refine ⟨by omega,?_⟩;conv=>whnf
   refine ⟨_,cN_mid2 X Q2 a,?_⟩;conv=>whnf
   refine ⟨⟨⟨by omega,by rw [cMS_len];omega⟩,cMS_sz _⟩,?_⟩;conv=>whnf
   refine ⟨_,cMS_as (x:=p.getD a []) (by omega) rfl,?_⟩;conv=>whnf
   refine ⟨⟨⟨by omega,by rw [cS_len,hra];omega⟩,cS_sz _⟩,?_⟩;conv=>whnf
   refine ⟨_,cS_as (x:=ent p a j) (by rw [hra];exact h) rfl,?_⟩;conv=>whnf
   refine QCall.of_data c1 (nd _) ?_;conv=>whnf
   by_cases h0:ent p a j=0
   ·rw [decide_eq_true h0];conv=>whnf
    refine Wr.i64 (y:=((j+1:Nat):Int)) rfl (by omega) (by omega) ?_;conv=>whnf
    refine ⟨(j+1,S2,Q2),⟨h,hB2,hD2,fun y hy h1=>?_,hc2⟩,by show n - (j+1) < n - j;omega,⟨rfl,rfl,rfl,rfl,rfl,rfl,trivial⟩,rfl,trivial⟩;by_cases e:y=j
    ·rw [e,h0] at h1;exact absurd h1 (by decide)
    ·exact hy2 y (by dsimp only at hy;omega) h1
   ·have h0p:0 < ent p a j:=by grind
    rw [decide_eq_false h0];conv=>whnf
    refine QCall.of_data c2 (nd _) ?_;conv=>whnf
    cases sj with
    | true =>
     conv=>whnf
     refine Wr.i64 (y:=((j+1:Nat):Int)) rfl (by omega) (by omega) ?_;conv=>whnf
     refine ⟨(j+1,S2,Q2),⟨h,hB2,hD2,fun y hy h1=>?_,hc2⟩,by show n - (j+1) < n - j;omega,⟨rfl,rfl,rfl,rfl,rfl,rfl,trivial⟩,rfl,trivial⟩;by_cases e:y=j
     ·rw [e];exact hs
     ·exact hy2 y (by dsimp only at hy;omega) h1
    | false =>
     obtain ⟨A,Bs,f1,f2,f3,f4,f5⟩:=filt_put (by omega) hs;have c3:=fn_sPut A Bs j f3 f4 (by omega);rw [←f1,←f2] at c3;have hpu:=hB2.push ha (hB2.wait a (by simp)).2 h h0p hs;have hcs:=cf_set (S:=S2) (j:=j) (by rw [hl2];exact h) hs;conv=>whnf
     refine VCall.of_data c3 (nd _) ?_;conv=>whnf
     refine Sub.full rfl ?_;conv=>whnf
     refine Sub.full (by rw [cN_len]) ?_;conv=>whnf
     refine ⟨by show ((X++a :: Q2).length+1)*8≤_;omega,?_⟩;conv=>whnf
     refine Wr.i64 (y:=((j+1:Nat):Int)) rfl (by omega) (by omega) ?_;conv=>whnf
     refine ⟨(j+1,S2.set j true,Q2++[j]),⟨h,hpu,fun x hx h1=>?_,fun y hy h1=>?_,?_⟩,by show n - (j+1) < n - j;omega,⟨rfl,rfl,rfl,rfl,?_,rfl,trivial⟩,?_,trivial⟩
     ·dsimp only at h1 ⊢;rw [gsetD (by omega)] at h1;by_cases e:x=j
      ·left;rw [e];simp
      ·rw [if_neg e] at h1;rcases hD2 x hx h1 with h3 | h3
       ·left
        rcases List.mem_cons.1 h3 with h4 | h4
        ·rw [h4];simp
        ·simp [h4]
       ·exact .inr (h3.mono (by omega))
     ·dsimp only at hy ⊢;rw [gsetD (by omega)];by_cases e:y=j
      ·rw [if_pos e]
      ·rw [if_neg e];exact hy2 y (by omega) h1
     ·dsimp only;rw [List.length_append,List.length_singleton];omega
     ·show AV.ls 54 0 ((X++a :: Q2).length+1) 1=AV.ls 54 0 (X++a :: (Q2++[j])).length 1;rw [List.length_append,List.length_append,List.length_cons,List.length_cons,List.length_append,List.length_singleton];rfl
     ·show Ob.row true 1 (cW .i64 (X++a :: Q2)++[[.s (.int .i64 j)]])=Ob.row true 1 (cW .i64 (X++a :: (Q2++[j])));rw [cN_app,List.append_assoc];rfl
  ·have h:j=n:=by simp only [decide_eq_false_iff_not] at h;omega
   rw [h] at hy2;have ex:X++a :: Q2=(X++[a])++Q2:=by rw [List.append_assoc];rfl
   conv=>whnf
   refine Wr.i64 (y:=((X.length+1:Nat):Int)) rfl (by omega) (by omega) ?_;conv=>whnf
   refine ⟨(S2,X++[a],Q2),⟨hB2.pop,fun x hx h1=>?_,?_⟩,?_,⟨?_,rfl,?_,rfl,trivial⟩,?_,trivial⟩
   ·rcases hD2 x hx h1 with h3 | h3
    ·rcases List.mem_cons.1 h3 with h4 | h4
     ·right;rw [h4];exact hy2
     ·exact .inl h4
    ·exact .inr h3
   ·dsimp only;rw [List.length_append,List.length_singleton];omega
   ·show cf S2+Q2.length < cf S+(Q.length+1);omega
   ·show I ((X.length+1:Nat):Int)=I ((X++[a]).length:Nat);rw [List.length_append,List.length_singleton]
   ·show AV.ls 54 0 (X++a :: Q2).length 1=AV.ls 54 0 ((X++[a])++Q2).length 1;rw [ex]
   ·show Ob.row true 1 (cW .i64 (X++a :: Q2))=Ob.row true 1 (cW .i64 ((X++[a])++Q2));rw [ex]
end Go.V
namespace Go.V
open Go.Proofs Go.RowKit
set_option maxRecDepth 10000
set_option maxHeartbeats 1000000
def outR (r:Nat→Nat→Bool) (i:Nat) (c:Nat) (l:List Nat) (o:List Int):List Int:=l.foldl (fun o x=>if r x i=true then o.set x (c:Int) else o) o
theorem outR_snoc (r:Nat→Nat→Bool) (i c:Nat) (l:List Nat) (x:Nat) (o:List Int):outR r i c (l++[x]) o=if r x i=true then (outR r i c l o).set x (c:Int) else outR r i c l o:=by
 unfold outR;rw [List.foldl_append];rfl
theorem outR_is {r:Nat→Nat→Bool} {i c:Nat}:∀{l:List Nat} {o:List Int},(∀x,x∈l→x < o.length)→(outR r i c l o).length=o.length∧∀y,(outR r i c l o).getD y 0=if y∈l∧r y i=true then (c:Int) else o.getD y 0
 | [],o,_=>⟨rfl,fun y=>by rw [if_neg (by simp)];rfl⟩
 | x :: l,o,h=>by
  have hx:=h x (by simp);by_cases e:r x i=true
  ·have ih:=outR_is (r:=r) (i:=i) (c:=c) (l:=l) (o:=o.set x (c:Int)) fun y hy=>by rw [List.length_set];exact h y (List.mem_cons_of_mem _ hy)
   have e2:outR r i c (x :: l) o=outR r i c l (o.set x (c:Int)):=by unfold outR;rw [List.foldl_cons,if_pos e]
   rw [e2];refine ⟨by rw [ih.1,List.length_set],fun y=>?_⟩;rw [ih.2 y,gsetD hx];by_cases e3:y=x
   ·subst e3;rw [show (if y∈y :: l∧r y i=true then (c:Int) else o.getD y 0)=(c:Int) from if_pos ⟨by simp,e⟩,show (if y=y then (c:Int) else o.getD y 0)=(c:Int) from if_pos rfl];split <;> rfl
   ·rw [if_neg e3];by_cases e4:y∈l∧r y i=true
    ·rw [if_pos e4,if_pos ⟨List.mem_cons_of_mem _ e4.1,e4.2⟩]
    ·rw [if_neg e4,if_neg fun e5=>e4 ⟨(List.mem_cons.1 e5.1).resolve_left e3,e5.2⟩]
  ·have ih:=outR_is (r:=r) (i:=i) (c:=c) (l:=l) (o:=o) fun y hy=>h y (List.mem_cons_of_mem _ hy);have e2:outR r i c (x :: l) o=outR r i c l o:=by unfold outR;rw [List.foldl_cons,if_neg e]
   rw [e2];refine ⟨ih.1,fun y=>?_⟩;rw [ih.2 y];by_cases e4:y∈l∧r y i=true
   ·rw [if_pos e4,if_pos ⟨List.mem_cons_of_mem _ e4.1,e4.2⟩]
   ·rw [if_neg e4,if_neg fun e5=>by
     rcases List.mem_cons.1 e5.1 with e6 | e6
     ·subst e6;exact e e5.2
     ·exact e4 ⟨e6,e5.2⟩]
theorem outR_all {n:Nat} {r:Nat→Nat→Bool} {i c:Nat} {o:List Int} (ho:o.length=n):outR r i c ((List.range n).filter (r i)) o=outC n r o c i n:=by
 have h:=outR_is (r:=r) (i:=i) (c:=c) (l:=(List.range n).filter (r i)) (o:=o) fun x hx=>by have:=(List.mem_filter.1 hx).1;rw [ho];simpa using this
 apply List.ext_getElem (by rw [h.1,outC_len,ho])
 intro y h1 h2
 rw [outC_len] at h2
 have e1:=h.2 y
 rw [gD,List.getElem?_eq_getElem h1] at e1
 have e1:(outR r i c ((List.range n).filter (r i)) o)[y]=_:=e1
 rw [e1]
 simp only [outC,List.getElem_map,List.getElem_range]
 by_cases e:y∈(List.range n).filter (r i)∧r y i=true
 ·rw [if_pos e,if_pos ⟨h2,(List.mem_filter.1 e.1).2,e.2⟩]
 ·rw [if_neg e,if_neg fun e2=>e ⟨List.mem_filter.2 ⟨by simpa using h2,e2.2.1⟩,e2.2.2⟩]
theorem setI_snoc (b:List Bool) (v:Bool):setI (b++[v])=setI b++if v=true then [b.length] else []:=by
 unfold setI;rw [List.length_append,List.length_singleton,List.range_succ,List.filter_append]
 congr 1
 ·refine List.filter_congr fun x hx=>?_;have hx:x < b.length:=by simpa using hx
  rw [gD,List.getElem?_append_left hx,gD]
 ·have e:(b++[v]).getD b.length false=v:=by
   rw [gD,List.getElem?_append_right (Nat.le_refl _),Nat.sub_self];rfl
  cases v with
  | true=>rw [List.filter_cons_of_pos (by exact e),if_pos rfl];rfl
  | false=>rw [List.filter_cons_of_neg (by rw [e];decide),if_neg (by decide)];rfl
theorem setI_le (b:List Bool):(setI b).length≤b.length:=filt_le _ _
theorem minus_set {n k:Nat} (h:k < n):(List.replicate k (-1:Int)++List.replicate (n - k) 0).set k (-1)=List.replicate (k+1) (-1)++List.replicate (n - (k+1)) 0:=by
 apply List.ext_getElem (by simp;omega)
 intro j h1 h2
 rw [List.getElem_set]
 by_cases e:k=j
 ·subst e;rw [if_pos rfl,List.getElem_append_left (by simp)];simp
 ·rw [if_neg e]
  by_cases e2:j < k
  ·rw [List.getElem_append_left (by simpa using e2),List.getElem_append_left (by simp;omega)];simp
  ·rw [List.getElem_append_right (by simp;omega),List.getElem_append_right (by simp;omega)];simp
theorem fn_sClasses (p:Mt) (t:Nat) (hp:MtR p t) (ht:t≤1000000000):Fn Tryz.prog 170 [mP p] [] (.tup [.d (.sl (cI (clsN p.length (rb p.length (ent p)) p.length).1)),lNs (setI (clsN p.length (rb p.length (ent p)) p.length).2)]) []:=by
 have hz:((cMS p).length:Int)=p.length:=by rw [cMS_len]
 have n1:=hp.n1;have n2:=hp.n2;have cr:=fun i hi=>fn_sReach p t i hp ht hi;obtain ⟨n,en⟩:∃n,p.length=n:=⟨_,rfl⟩;rw [en] at hz n1 n2 cr ⊢;have hrt:∀x i,rb n (ent p) x i=true↔i∈(List.range n).filter (rb n (ent p) x)∨(¬i < n∧rb n (ent p) x i=true):=fun x i=>by
  rw [List.mem_filter];by_cases h:i < n
  ·exact ⟨fun e=>.inl ⟨by simpa using h,e⟩,fun e=>e.elim (·.2) (·.2)⟩
  ·exact ⟨fun e=>.inr ⟨h,e⟩,fun e=>e.elim (·.2) (·.2)⟩
 obtain ⟨r,er⟩:∃r,rb n (ent p)=r:=⟨_,rfl⟩;rw [er] at cr hrt ⊢;refine Fn.freezeT2 ?_ (rows:=cI (clsN n r n).1) (rows2:=cW .i64 (setI (clsN n r n).2)) (n:=n) (m:=(setI (clsN n r n).2).length) (s:=1) (s2:=1) (by rw [cI_len,clsN_len]) (by rw [cN_len]);refine Fn.intro (ks:=[0,2,3,4,5,6,7,8,9,10,11,19,20,21,29,30,31,37,42,43,44,53,62]) hty rfl rfl rfl rfl rfl ?_;conv=>whnf
 rw [hz];refine ⟨⟨by omega,by omega,by show (n:Int)*((8:Nat):Int)≤_;omega,by omega⟩,?_⟩;conv=>whnf
 refine VLoop.inv hty (S:=Nat) (fun k=>[(20,I k),(19,I n),(4,.ls 17 0 n 1),(0,mP p)]) (fun k=>[(17,.row true 1 (cI (List.replicate k (-1)++List.replicate (n - k) 0)))]) (fun k=>k≤n) (fun k=>n - k) 0 (Nat.zero_le _) ⟨rfl,?_,?_,rfl,trivial⟩ ⟨?_,trivial⟩ ?_
 ·show I ((n:Int).toNat:Nat)=I n;rw [show (n:Int).toNat=n by omega]
 ·show AV.ls 17 0 (n:Int).toNat 1=_;rw [show (n:Int).toNat=n by omega]
 ·show Ob.row true 1 (List.replicate (n:Int).toNat [C.s (.int .i64 0)])=_;rw [show (n:Int).toNat=n by omega];simp [cI]
 intro k hk;conv=>whnf
 refine Br.mk (fun h=>?_) (fun h=>?_)
 ·have h:k < n:=by simp only [decide_eq_true_eq] at h;omega
  conv=>whnf
  refine ⟨by omega,?_⟩;conv=>whnf
  refine ⟨_,cI_as (l:=List.replicate k (-1)++List.replicate (n - k) 0) (i:=k) (x:=(List.replicate k (-1:Int)++List.replicate (n - k) 0).getD k 0) (by simp;omega) rfl,?_⟩;conv=>whnf
  refine Wr.i64 (y:=((k+1:Nat):Int)) rfl (by omega) (by omega) ?_;conv=>whnf
  refine ⟨k+1,h,by show n - (k+1) < n - k;omega,⟨rfl,rfl,rfl,rfl,trivial⟩,?_,trivial⟩;show Ob.row true 1 ((cI _).set k [.s (.int .i64 (-1))])=_;rw [cI_set,minus_set h]
 have hkn:k=n:=by simp only [decide_eq_false_iff_not] at h;omega
 have e0:List.replicate k (-1:Int)++List.replicate (n - k) 0=(clsN n r 0).1:=by rw [hkn,Nat.sub_self];simp [clsN]
 rw [e0];conv=>whnf
 refine VLoop.ren 27 66 rfl ?_;refine VLoop.inv hty (S:=Nat) (fun i=>[(30,I i),(29,I n),(7,I (clsN n r i).2.length),(6,.ls 66 0 (setI (clsN n r i).2).length 1),(4,.ls 17 0 n 1),(0,mP p)]) (fun i=>[(17,.row true 1 (cI (clsN n r i).1)),(66,.row true 1 (cW .i64 (setI (clsN n r i).2)))]) (fun i=>i≤n∧(clsN n r i).2.length≤i) (fun i=>n - i) 0 ⟨Nat.zero_le _,Nat.le_refl _⟩
  ⟨rfl,rfl,rfl,rfl,rfl,rfl,trivial⟩ ⟨rfl,rfl,trivial⟩ ?_
 rintro i ⟨hi,hcl⟩;conv=>whnf
 refine Br.mk (fun h=>?_) (fun h=>?_)
 ·have h:i < n:=by simp only [decide_eq_true_eq] at h;omega
  have hl1:=clsN_len n r i;have hnext:clsN n r (i+1)=clsStep n r (clsN n r i) i:=rfl;generalize clsN n r i=s at hl1 hnext hcl ⊢;obtain ⟨o,b⟩:=s;dsimp only at hl1 hcl;have hsl:=setI_le b;conv=>whnf
  refine ⟨by omega,?_⟩;conv=>whnf
  refine ⟨_,cI_as (l:=o) (x:=o.getD i 0) (by omega) rfl,?_⟩;conv=>whnf
  by_cases h0:0≤o.getD i 0
  ·have e:clsN n r (i+1)=(o,b):=by rw [hnext];unfold clsStep;exact if_pos h0
   rw [decide_eq_true h0];conv=>whnf
   refine Wr.i64 (y:=((i+1:Nat):Int)) rfl (by omega) (by omega) ?_;conv=>whnf
   refine ⟨i+1,⟨h,by rw [e];dsimp only;omega⟩,by show n - (i+1) < n - i;omega,?_,?_⟩
   ·rw [e];exact ⟨rfl,rfl,rfl,rfl,rfl,rfl,trivial⟩
   ·rw [e];exact ⟨rfl,rfl,trivial⟩
  ·have e:clsN n r (i+1)=(outC n r o b.length i n,b++[shutC r i n]):=by rw [hnext];exact clsStep_done h0 hl1
   have eoa:=outR_all (r:=r) (i:=i) (c:=b.length) hl1;have esh:((List.range n).filter (r i)).all (fun x=>r x i)=shutC r i n:=by unfold shutC;rw [List.all_filter]
   have c1:=cr i h;have hrl:∀x,x∈(List.range n).filter (r i)→x < n:=fun x hx=>by have:=(List.mem_filter.1 hx).1;simpa using this
   have hrll:=filt_le (r i) n;obtain ⟨rl,erl⟩:∃rl,(List.range n).filter (r i)=rl:=⟨_,rfl⟩;rw [erl] at eoa esh c1 hrl hrll;have hzr:((cW .i64 rl).length:Int)=rl.length:=by rw [cN_len]
   rw [decide_eq_false h0];conv=>whnf
   refine VCall.of_data c1 (nd _) ?_;conv=>whnf
   rw [hzr];refine VLoop.inv hty (S:=Nat) (fun k=>[(43,I k),(42,I rl.length),(30,I i),(29,I n),(10,B ((rl.take k).all fun x=>r x i)),(9,lNs rl),(8,I i),(7,I b.length),(6,.ls 66 0 (setI b).length 1),(4,.ls 17 0 n 1),(0,mP p)])
    (fun k=>[(17,.row true 1 (cI (outR r i b.length (rl.take k) o))),(66,.row true 1 (cW .i64 (setI b)))]) (fun k=>k≤rl.length) (fun k=>rl.length - k) 0 (Nat.zero_le _)
    ⟨rfl,rfl,rfl,rfl,rfl,rfl,rfl,rfl,rfl,rfl,rfl,trivial⟩ ⟨rfl,rfl,trivial⟩ ?_
   intro k hk;conv=>whnf
   refine Br.mk (fun hb=>?_) (fun hb=>?_)
   ·have hb:k < rl.length:=by simp only [decide_eq_true_eq] at hb;omega
    obtain ⟨x,ex⟩:∃x,rl.getD k 0=x:=⟨_,rfl⟩;have hx:x < n:=by rw [←ex];exact hrl _ (getD_mem hb)
    have ht1:rl.take (k+1)=rl.take k++[x]:=by rw [take_one hb,ex]
    have hol:(outR r i b.length (rl.take k) o).length=n:=by
     rw [(outR_is (r:=r) (i:=i) (c:=b.length) (l:=rl.take k) (o:=o) fun y hy=>by rw [hl1];exact hrl y (List.mem_of_mem_take hy)).1,hl1]
    have hsn:=outR_snoc r i b.length (rl.take k) x o;have hal:(rl.take (k+1)).all (fun x=>r x i)=((rl.take k).all (fun x=>r x i) && r x i):=by rw [ht1,List.all_append];simp
    rw [←ht1] at hsn;obtain ⟨y,ey⟩:∃y,r x i=y:=⟨_,rfl⟩;have c2:=cr x hx;have c3:=fn_sHas ((List.range n).filter (r x)) i y (by
     rw [←ey,hrt x i];exact ⟨fun e=>e.resolve_right fun e2=>e2.1 h,.inl⟩) (by have:=filt_le (r x) n;omega)
    rw [ey] at hsn hal;obtain ⟨O,eO⟩:∃O,outR r i b.length (rl.take k) o=O:=⟨_,rfl⟩;obtain ⟨wh,ewh⟩:∃wh,(rl.take k).all (fun x=>r x i)=wh:=⟨_,rfl⟩;rw [eO] at hol hsn ⊢;rw [ewh] at hal ⊢;conv=>whnf
    refine ⟨⟨⟨by omega,by rw [cN_len];omega⟩,cN_sz _⟩,?_⟩;conv=>whnf
    refine ⟨_,cN_as hb ex,?_⟩;conv=>whnf
    refine VCall.of_data c2 (nd _) ?_;conv=>whnf
    refine VCall.of_data c3 (nd _) ?_;conv=>whnf
    cases y with
    | true =>
     rw [if_pos rfl] at hsn;rw [Bool.and_true] at hal;conv=>whnf
     refine ⟨⟨⟨by omega,by rw [cN_len];omega⟩,cN_sz _⟩,?_⟩;conv=>whnf
     refine ⟨_,cN_as hb ex,?_⟩;conv=>whnf
     refine ⟨by omega,?_⟩;conv=>whnf
     refine ⟨_,cI_as (l:=O) (x:=O.getD x 0) (by omega) rfl,?_⟩;conv=>whnf
     refine Wr.i64 (y:=((k+1:Nat):Int)) rfl (by omega) (by omega) ?_;conv=>whnf
     refine ⟨k+1,hb,by show rl.length - (k+1) < rl.length - k;omega,⟨rfl,rfl,rfl,rfl,?_,rfl,rfl,rfl,rfl,rfl,rfl,trivial⟩,?_,rfl,trivial⟩
     ·rw [hal];rfl
     ·rw [hsn,←cI_set];rfl
    | false =>
     rw [if_neg (by decide)] at hsn;rw [Bool.and_false] at hal;conv=>whnf
     refine Wr.i64 (y:=((k+1:Nat):Int)) rfl (by omega) (by omega) ?_;conv=>whnf
     refine ⟨k+1,hb,by show rl.length - (k+1) < rl.length - k;omega,⟨rfl,rfl,rfl,rfl,?_,rfl,rfl,rfl,rfl,rfl,rfl,trivial⟩,?_,rfl,trivial⟩
     ·rw [hal];rfl
     ·rw [hsn];rfl
   ·have hb:k=rl.length:=by simp only [decide_eq_false_iff_not] at hb;omega
    have ssn:=setI_snoc b (shutC r i n);rw [hb,List.take_length,eoa,esh];obtain ⟨sh,esh2⟩:∃sh,shutC r i n=sh:=⟨_,rfl⟩;rw [esh2] at ssn e ⊢;cases sh with
    | true =>
     rw [if_pos rfl] at ssn;conv=>whnf
     refine Sub.full rfl ?_;conv=>whnf
     refine Sub.full (by rw [cN_len]) ?_;conv=>whnf
     refine ⟨by show ((setI b).length+1)*8≤_;omega,?_⟩;conv=>whnf
     refine Wr.i64 (y:=((b.length+1:Nat):Int)) rfl (by omega) (by omega) ?_;conv=>whnf
     refine Wr.i64 (y:=((i+1:Nat):Int)) rfl (by omega) (by omega) ?_;conv=>whnf
     refine ⟨i+1,⟨h,by rw [e];simp;omega⟩,by show n - (i+1) < n - i;omega,?_,?_⟩
     ·rw [e];refine ⟨rfl,rfl,?_,?_,rfl,rfl,trivial⟩
      ·show I ((b.length+1:Nat):Int)=I ((b++[true]).length:Nat);rw [List.length_append,List.length_singleton]
      ·show AV.ls 66 0 ((setI b).length+1) 1=AV.ls 66 0 (setI (b++[true])).length 1;rw [ssn,List.length_append,List.length_singleton]
     ·rw [e];refine ⟨rfl,?_,trivial⟩;show Ob.row true 1 (cW .i64 (setI b)++[[.s (.int .i64 b.length)]])=Ob.row true 1 (cW .i64 (setI (b++[true])));rw [ssn,cN_app]
    | false =>
     rw [if_neg (by decide),List.append_nil] at ssn;conv=>whnf
     refine Wr.i64 (y:=((b.length+1:Nat):Int)) rfl (by omega) (by omega) ?_;conv=>whnf
     refine Wr.i64 (y:=((i+1:Nat):Int)) rfl (by omega) (by omega) ?_;conv=>whnf
     refine ⟨i+1,⟨h,by rw [e];simp;omega⟩,by show n - (i+1) < n - i;omega,?_,?_⟩
     ·rw [e];refine ⟨rfl,rfl,?_,?_,rfl,rfl,trivial⟩
      ·show I ((b.length+1:Nat):Int)=I ((b++[false]).length:Nat);rw [List.length_append,List.length_singleton]
      ·show AV.ls 66 0 (setI b).length 1=AV.ls 66 0 (setI (b++[false])).length 1;rw [ssn]
     ·rw [e];refine ⟨rfl,?_,trivial⟩;show Ob.row true 1 (cW .i64 (setI b))=Ob.row true 1 (cW .i64 (setI (b++[false])));rw [ssn]
 ·have h:i=n:=by simp only [decide_eq_false_iff_not] at h;omega
  rw [h];conv=>whnf
  exact ⟨⟨rfl,rfl,rfl,rfl,rfl,rfl⟩,_,rfl,⟨rfl,rfl,rfl,rfl,rfl,rfl⟩,_,rfl,trivial,rfl⟩
end Go.V
namespace Go.V
open Go.Proofs Go.RowKit
set_option maxRecDepth 10000
set_option maxHeartbeats 16000000
def ixW (p:List Nat) (w:Nat):List MC:=p.map fun i=>.r i 0 w
theorem ixW_len (p:List Nat) (w:Nat):(ixW p w).length=p.length:=by simp [ixW]
theorem ixW_at {p:List Nat} {w i:Nat} (h:i < p.length):(ixW p w)[i]? = some (.r (p.getD i 0) 0 w):=by
 rw [gD,List.getElem?_eq_getElem h];simp [ixW,h]
theorem ixW_set (p:List Nat) (w i x:Nat):(ixW p w).set i (.r x 0 w)=ixW (p.set i x) w:=by unfold ixW;rw [List.map_set]
abbrev mW (p:List Nat) (R:Mt) (w:Nat):Ob:=.mat 3 (ixW p w) (cRS R)
theorem fn_sSwap (n w i k:Nat) (p:List Nat) (R:Mt) (hp:p.length=n) (hn:n≤1000000) (hi:i < n) (hk:k < n):Fn Tryz.prog 193 [.ls 1000000 0 n 1,I i,I k] [(1000000,mW p R w)] (.tup []) [(1000000,mW (swapL 0 p i k) R w)]:=by
 have xi:=ixW_at (w:=w) (show i < p.length by omega)
 have xk:=ixW_at (w:=w) (show k < p.length by omega)
 refine Fn.intro (ks:=[0,1,2,6]) hty rfl rfl rfl rfl rfl ?_
 conv=>whnf
 refine ⟨by omega,?_⟩
 conv=>whnf
 refine ⟨_,xi,?_⟩
 conv=>whnf
 refine ⟨by omega,?_⟩
 conv=>whnf
 refine ⟨_,xk,?_⟩
 conv=>whnf
 refine ⟨by omega,?_⟩
 conv=>whnf
 refine ⟨by rw [ixW_len,hp];show i+0 < n;omega,?_⟩
 conv=>whnf
 refine ⟨by omega,?_⟩
 conv=>whnf
 refine ⟨by rw [List.length_set,ixW_len,hp];show k+0 < n;omega,?_⟩
 conv=>whnf
 refine ⟨⟨?_,trivial⟩,rfl⟩
 show Ob.mat 3 (((ixW p w).set i (MC.r (p.getD k 0) 0 w)).set k (MC.r (p.getD i 0) 0 w)) (cRS R)=_
 rw [ixW_set,ixW_set];rfl
theorem VCall.par1w {P:Program} {t:TL} {l:LL} {f:FuncId} {xs xs0:List AV} {sz sz':Nat} {ix ix':List MC} {rows rows':List (List (List C))} {dst:Option Nat} {K:AV→TL→LL→Prop} (a:Nat)
  (h:Fn P f xs0 [(1000000,.mat sz ix rows)] (.tup []) [(1000000,.mat sz' ix' rows')]) (ha:argR (pmap [(1000000,a)]) xs xs0) (hl:lget a l = .mat sz ix rows)
  (hK:K (.tup []) t ((a,.mat sz' ix' rows') :: l)):VCall P f xs dst t l K :=
 VCall.of_fnR (k:=0) (pmap [(1000000,a)]) h ha ⟨⟨hl,fun p h=>absurd rfl h⟩,trivial⟩ rfl (keepRows rfl rfl) (fun _ h=>by cases h) rfl hK
theorem set_same {R:Mt} {k:Nat} {a:List Rat} (h:k < R.length) (e:R.getD k []=a):R.set k a=R:=by
 rw [←e,gD,List.getElem?_eq_getElem h];exact List.set_getElem_self h
theorem cRS_atp {p:List Nat} {R:Mt} {n w r:Nat} (h:Plc n w p R) (hr:r < n):(cRS R)[p.getD r 0]? = some (cS (lg p R r)):=cRS_at (by rw [h.rl];exact h.lt r hr) rfl
theorem fn_sSolve (n t:Nat) (p0:List Nat) (R0:Mt) (A:Fm) (h0:Gj n t A p0 R0 0) (hA:Inj n A) (h1:1≤n) (hn:n≤12) (ht:t≤120000) :
  Fn Tryz.prog 147 [.ls 1000000 0 n 1] [(1000000,mW p0 R0 (n+1))] (.tup [.ls 0 0 n 3,B true]) [(0,.row true 3 (cS (gjX n (p0,R0)))),(1000000,mW (gjN n skJ (p0,R0) n).1 (gjN n skJ (p0,R0) n).2 (n+1))]:=by
 have hG:=fun i hi=>gjN_ok (s:=(p0,R0)) h0 hA i hi;have hT:∀i,i≤n→2 ^ i*t≤500000000:=fun i hi=>by
  have:2 ^ i*t≤2 ^ 12*120000:=Nat.mul_le_mul (Nat.pow_le_pow_right (by decide) (by omega)) ht;omega
 have eX:=@gjX_at n (p0,R0);have eXl:=gjX_len n (p0,R0);obtain ⟨X,eXX⟩:∃X,gjX n (p0,R0)=X:=⟨_,rfl⟩;rw [eXX] at eXl ⊢;have eX:∀i,i < n→X.getD i 0=lgF (gjN n skJ (p0,R0) n).1 (gjN n skJ (p0,R0) n).2 i n / lgF (gjN n skJ (p0,R0) n).1 (gjN n skJ (p0,R0) n).2 i i:=fun i hi=>by rw [←eXX];exact eX hi
 have hnx:∀i,gjN n skJ (p0,R0) (i+1)=(swapL 0 (gjN n skJ (p0,R0) i).1 i (pivF (lgF (gjN n skJ (p0,R0) i).1 (gjN n skJ (p0,R0) i).2) i (n - i) i),elimR (swapL 0 (gjN n skJ (p0,R0) i).1 i (pivF (lgF (gjN n skJ (p0,R0) i).1 (gjN n skJ (p0,R0) i).2) i (n - i) i)) i (skJ i) n (gjN n skJ (p0,R0) i).2):=fun i=>rfl;obtain ⟨N,eN⟩:∃N:Nat→List Nat×Mt,N=gjN n skJ (p0,R0):=⟨_,rfl⟩;have hN0:N 0=(p0,R0):=by rw [eN];rfl
 rw [←eN] at hG hnx eX ⊢;clear eN eXX;refine Fn.intro (ks:=[0,2,3,4,5,6,7,8,9,10,11,16,32,37,44,59,78,107]) hty rfl rfl rfl rfl rfl ?_;conv=>whnf
 refine VLoop.inv hty (S:=Nat) (fun i=>[(5,I i),(4,I n),(0,.ls 1000000 0 n 1)]) (fun i=>[(1000000,mW (N i).1 (N i).2 (n+1))]) (fun i=>i≤n) (fun i=>n - i) 0 (Nat.zero_le _) ⟨rfl,rfl,rfl,trivial⟩ ⟨by rw [hN0];rfl,trivial⟩ ?_;intro i hi;conv=>whnf
 refine Br.mk (fun h=>?_) (fun h=>?_)
 ·have h:i < n:=by simp only [decide_eq_true_eq] at h;omega
  have hGi:=hG i hi;have hGn:=hG (i+1) h;have enx:=hnx i;have hTi:=hT i hi;obtain ⟨T,eT⟩:∃T,2 ^ i*t=T:=⟨_,rfl⟩;have hrow:=hGi.row;rw [eT] at hTi hrow;obtain ⟨g1,g2,g3⟩:=hGi.piv hA h;have hplc:=hGi.pl;generalize N i=s at hGi enx hrow g1 g2 g3 hplc ⊢;obtain ⟨p,R⟩:=s;dsimp only at hGi enx hrow g1 g2 g3 hplc ⊢;have hpl:=hplc.pl;obtain ⟨kp,ekp⟩:∃kp,pivF (lgF p R) i (n - i) i=kp:=⟨_,rfl⟩;rw [ekp] at g1 g2 g3 enx;have hsz:∀q j,q < n→j≤n→sz (lgF p R q j) < T:=fun q j hq hj=>(hrow q hq).sz (getD_mem (by rw [hplc.wd q hq];omega));conv=>whnf
  refine VLoop.inv hty (S:=Nat) (fun k=>[(6,I k),(5,I i),(4,I n),(0,.ls 1000000 0 n 1)]) (fun _=>[(1000000,mW p R (n+1))]) (fun k=>k≤n∧pivF (lgF p R) i (n - k) k=kp) (fun k=>n - k) i ⟨hi,ekp⟩ ⟨rfl,rfl,rfl,rfl,trivial⟩ ⟨rfl,trivial⟩ ?_;rintro k ⟨hk,hkp⟩;have hkn:k < n:=by
   rcases Nat.lt_or_eq_of_le hk with e | e
   ·exact e
   ·rw [e,Nat.sub_self] at hkp;have:n=kp:=hkp;omega
  rw [pivF_next hkn] at hkp;have hwk:=hplc.wd k hkn;have c1:=fn_sZero (lgF p R k i) (by have:=hsz k i hkn (by omega);omega);conv=>whnf
  rw [decide_eq_true (show (k:Int) < (n:Int) by omega)];conv=>whnf
  refine ⟨by omega,?_⟩;conv=>whnf
  refine ⟨_,ixW_at (w:=n+1) (i:=k) (by rw [hpl];omega),?_⟩;conv=>whnf
  refine ⟨by omega,?_⟩;conv=>whnf
  refine ⟨_,cRS_atp hplc hkn,?_⟩;conv=>whnf
  refine ⟨_,cS_as (x:=lgF p R k i) (i:=i) (by omega) rfl,?_⟩;conv=>whnf
  refine VCall.of_data c1 (nd _) ?_;conv=>whnf
  by_cases hz:lgF p R k i=0
  ·rw [if_pos hz] at hkp;rw [decide_eq_true hz];conv=>whnf
   refine Wr.i64 (y:=((k+1:Nat):Int)) rfl (by omega) (by omega) ?_;conv=>whnf
   exact ⟨k+1,⟨hkn,hkp⟩,by show n - (k+1) < n - k;omega,⟨rfl,rfl,rfl,rfl,trivial⟩,rfl,trivial⟩
  rw [if_neg hz] at hkp;subst hkp;rw [decide_eq_false hz];conv=>whnf
  rw [decide_eq_false (show ¬(k:Int)=(n:Int) by omega)];conv=>whnf
  have hps:=hplc.swap h hkn;have elgs:=fun q=>lg_swap hplc h hkn q;have hgjn:=hGi.next h g1 hkn g3;have csw:=fn_sSwap n (n+1) i k p R hpl (by omega) h hkn;obtain ⟨p2,ep2⟩:∃p2,swapL 0 p i k=p2:=⟨_,rfl⟩;rw [ep2] at hps elgs enx csw hgjn;refine VCall.par1w 1000000 csw ⟨⟨rfl,rfl,rfl,rfl⟩,rfl,rfl,trivial⟩ rfl ?_;conv=>whnf
  have hpl:=hps.pl;have hszs:∀q j,q < n→j≤n→sz ((lg p2 R q).getD j 0) < T:=fun q j hq hj=>by rw [elgs];exact hsz _ j (swF_lt h hkn hq) hj
  have hdia:(lg p2 R i).getD i 0≠0:=by
   rw [elgs];have esw:swF i k i=k:=by unfold swF;by_cases e:i=k;rw [if_pos e];exact e;rw [if_neg e,if_pos rfl]
   rw [esw];exact g3
  have hel:=fun r hr=>elimR_is (sk:=skJ i) hps h (decide_eq_true rfl) r hr;refine VLoop.inv hty (S:=Nat) (fun r=>[(7,I r),(5,I i),(4,I n),(0,.ls 1000000 0 n 1)]) (fun r=>[(1000000,mW p2 (elimR p2 i (skJ i) r R) (n+1))]) (fun r=>r≤n) (fun r=>n - r) 0 (Nat.zero_le _) ⟨rfl,rfl,rfl,rfl,trivial⟩ ⟨rfl,trivial⟩ ?_;intro r hr;conv=>whnf
  refine Br.mk (fun h2=>?_) (fun h2=>?_)
  ·have h2:r < n:=by simp only [decide_eq_true_eq] at h2;omega
   obtain ⟨q1,q2⟩:=hel r hr;have e1:elimR p2 i (skJ i) (r+1) R=(elimR p2 i (skJ i) r R).set (p2.getD r 0) (elRow i (skJ i) (lg p2 (elimR p2 i (skJ i) r R) i) (lg p2 (elimR p2 i (skJ i) r R) r) r):=rfl;have e2:lg p2 (elimR p2 i (skJ i) r R) r=lg p2 R r:=by rw [q2 r h2,if_neg (Nat.lt_irrefl r)]
   have e3:lg p2 (elimR p2 i (skJ i) r R) i=lg p2 R i:=by
    rw [q2 i h];split
    ·unfold elRow;rw [if_pos (.inl (decide_eq_true rfl))]
    ·rfl
   rw [e2,e3] at e1;have hlt:=hps.lt r h2;have s1:=hszs r i h2 (by omega);have s2:=hszs i i h (by omega);have al:=hps.wd r h2;have bl:=hps.wd i h;obtain ⟨a,ea⟩:∃a,lg p2 R r=a:=⟨_,rfl⟩;obtain ⟨b,eb⟩:∃b,lg p2 R i=b:=⟨_,rfl⟩;have hsa:∀j,j≤n→sz (a.getD j 0) < T:=fun j hj=>by rw [←ea];exact hszs r j h2 hj
   have hsb:∀j,j≤n→sz (b.getD j 0) < T:=fun j hj=>by rw [←eb];exact hszs i j h hj
   rw [ea] at e1 e2 s1 al;rw [eb] at e1 e3 s2 bl hdia;obtain ⟨Z,eZ⟩:∃Z,elimR p2 i (skJ i) r R=Z:=⟨_,rfl⟩;rw [eZ] at q1 e1 e2 e3 ⊢;have ya:=cRS_atp q1 h2;have yb:=cRS_atp q1 h;rw [e2] at ya;rw [e3] at yb;have hZl:=q1.rl;conv=>whnf
   by_cases hri:r=i
   ·have e4:elimR p2 i (skJ i) (r+1) R=Z:=by
     rw [e1];unfold elRow;rw [if_pos (.inl (decide_eq_true hri))];exact set_same (by omega) e2
    rw [decide_eq_true (show (r:Int)=(i:Int) by omega)];conv=>whnf
    refine Wr.i64 (y:=((r+1:Nat):Int)) rfl (by omega) (by omega) ?_;conv=>whnf
    refine ⟨r+1,h2,by show n - (r+1) < n - r;omega,⟨rfl,rfl,rfl,rfl,trivial⟩,?_,trivial⟩;rw [e4];rfl
   rw [decide_eq_false (show ¬(r:Int)=(i:Int) by omega)];conv=>whnf
   refine ⟨by omega,?_⟩;conv=>whnf
   refine ⟨_,ixW_at (w:=n+1) (i:=r) (by rw [hpl];omega),?_⟩;conv=>whnf
   refine ⟨by omega,?_⟩;conv=>whnf
   refine ⟨_,ya,?_⟩;conv=>whnf
   refine ⟨_,cS_as (x:=a.getD i 0) (i:=i) (by omega) rfl,?_⟩;conv=>whnf
   have k1:=fn_sZero (a.getD i 0) (by omega);refine VCall.of_data k1 (nd _) ?_;conv=>whnf
   by_cases hz0:a.getD i 0=0
   ·have e4:elimR p2 i (skJ i) (r+1) R=Z:=by
     rw [e1];unfold elRow;rw [if_pos (.inr hz0)];exact set_same (by omega) e2
    rw [decide_eq_true hz0];conv=>whnf
    refine Wr.i64 (y:=((r+1:Nat):Int)) rfl (by omega) (by omega) ?_;conv=>whnf
    refine ⟨r+1,h2,by show n - (r+1) < n - r;omega,⟨rfl,rfl,rfl,rfl,trivial⟩,?_,trivial⟩;rw [e4];rfl
   have e4:elimR p2 i (skJ i) (r+1) R=Z.set (p2.getD r 0) (subRow i (n+1) (a.getD i 0 / b.getD i 0) b a):=by
    rw [e1];unfold elRow;rw [if_neg (by rintro (e | e);exact hri (of_decide_eq_true e);exact hz0 e),al]
   have k2:=fn_sOver (a.getD i 0) (b.getD i 0) (by omega) hdia;have sf:=sz_div (a.getD i 0) hdia;obtain ⟨f,ef⟩:∃f,a.getD i 0 / b.getD i 0=f:=⟨_,rfl⟩;rw [ef] at k2 e4 sf;rw [decide_eq_false hz0];conv=>whnf
   refine VDraw.go hmo hty 16 [[8],[8],[8],[8],[8],[8],[8],[8],[8],[8],[8],[8],[8],[8],[8],[]] rfl ?_;conv=>whnf
   refine ⟨by omega,?_⟩;conv=>whnf
   refine ⟨_,ixW_at (w:=n+1) (i:=r) (by rw [hpl];omega),?_⟩;conv=>whnf
   refine ⟨by omega,?_⟩;conv=>whnf
   refine ⟨_,ya,?_⟩;conv=>whnf
   refine ⟨_,cS_as (x:=a.getD i 0) (i:=i) (by omega) rfl,?_⟩;conv=>whnf
   refine ⟨by omega,?_⟩;conv=>whnf
   refine ⟨_,ixW_at (w:=n+1) (i:=i) (by rw [hpl];omega),?_⟩;conv=>whnf
   refine ⟨by omega,?_⟩;conv=>whnf
   refine ⟨_,yb,?_⟩;conv=>whnf
   refine ⟨_,cS_as (x:=b.getD i 0) (i:=i) (by omega) rfl,?_⟩;conv=>whnf
   refine QCall.of_data k2 (ndA fun k=>rfl) ?_;conv=>whnf
   refine VLoop.inv hty (S:=Nat) (fun j=>[(9,I j),(8,.lp 8 0),(7,I r),(5,I i),(4,I n),(0,.ls 1000000 0 n 1)]) (fun j=>[(8,.box true [B (ng f),nS (tp f),nS f.den]),(1000000,mW p2 (Z.set (p2.getD r 0) (subRow i j f b a)) (n+1))]) (fun j=>i≤j∧j≤n+1) (fun j=>n+1 - j) i ⟨Nat.le_refl _,by omega⟩ ⟨rfl,rfl,rfl,rfl,rfl,rfl,trivial⟩ ⟨rfl,?_,trivial⟩ ?_
   ·rw [subRow_none,set_same (by omega) e2];rfl
   rintro j ⟨hij,hj⟩;conv=>whnf
   refine Br.mk (fun h3=>?_) (fun h3=>?_)
   ·have h3:j≤n:=by simp only [decide_eq_true_eq] at h3;omega
    have q3:=q1.set (x:=subRow i j f b a) h2 (by rw [subRow_len,al]);have yj:=cRS_atp q3 h2;rw [lg_set q1 h2 h2,if_pos rfl] at yj;have yi:=cRS_atp q3 h;rw [lg_set q1 h2 h,if_neg (Ne.symm hri),e3] at yi;have hjl:(subRow i j f b a).length=n+1:=by rw [subRow_len,al]
    have vj:(subRow i j f b a).getD j 0=a.getD j 0:=by rw [subRow_at (by omega),if_neg (by omega)]
    have hnj:=subRow_next (f:=f) (b:=b) (a:=a) (c:=i) (m:=j) hij (by omega);have t1:=hsa j h3;have t2:=hsb j h3;have t3:=sz_mul f (b.getD j 0);have k3:=fn_sTimes f (b.getD j 0) (by omega);have k4:=fn_sMinus (a.getD j 0) (f*b.getD j 0) (by omega);have hZs:(Z.set (p2.getD r 0) (subRow i j f b a)).length=n:=by rw [List.length_set,hZl]
    obtain ⟨rj,erj⟩:∃rj,subRow i j f b a=rj:=⟨_,rfl⟩;rw [erj] at yj yi hjl vj hnj hZs ⊢;conv=>whnf
    refine VDraw.go hmo hty 23 [] rfl ?_;conv=>whnf
    refine ⟨by omega,?_⟩;conv=>whnf
    refine ⟨_,ixW_at (w:=n+1) (i:=r) (by rw [hpl];omega),?_⟩;conv=>whnf
    refine ⟨by omega,?_⟩;conv=>whnf
    refine ⟨_,ixW_at (w:=n+1) (i:=r) (by rw [hpl];omega),?_⟩;conv=>whnf
    refine ⟨by omega,?_⟩;conv=>whnf
    refine ⟨_,yj,?_⟩;conv=>whnf
    refine ⟨_,cS_as (x:=a.getD j 0) (i:=j) (by omega) vj,?_⟩;conv=>whnf
    refine ⟨by omega,?_⟩;conv=>whnf
    refine ⟨_,ixW_at (w:=n+1) (i:=i) (by rw [hpl];omega),?_⟩;conv=>whnf
    refine ⟨by omega,?_⟩;conv=>whnf
    refine ⟨_,yi,?_⟩;conv=>whnf
    refine ⟨_,cS_as (x:=b.getD j 0) (i:=j) (by omega) rfl,?_⟩;conv=>whnf
    refine QCall.of_data k3 (ndA fun k=>rfl) ?_;conv=>whnf
    refine QCall.of_data k4 (ndA fun k=>rfl) ?_;conv=>whnf
    refine ⟨by omega,?_⟩;conv=>whnf
    refine ⟨_,yj,?_⟩;conv=>whnf
    refine ⟨by rw [cS_len,hjl];show j+0 < n+1;omega,?_⟩;conv=>whnf
    refine Wr.i64 (y:=((j+1:Nat):Int)) rfl (by omega) (by omega) ?_;conv=>whnf
    refine ⟨j+1,⟨by omega,by omega⟩,by show n+1 - (j+1) < n+1 - j;omega,⟨rfl,rfl,rfl,rfl,rfl,rfl,trivial⟩,rfl,?_,trivial⟩;show Ob.mat 3 (ixW p2 (n+1)) ((cRS (Z.set (p2.getD r 0) rj)).set (p2.getD r 0) ((cS rj).set j (c1S (a.getD j 0 - f*b.getD j 0))))=mW p2 _ (n+1);rw [cS_set,hnj,cRS_set,List.set_set]
   ·have h3:j=n+1:=by simp only [decide_eq_false_iff_not] at h3;omega
    rw [h3,←e4];conv=>whnf
    refine Wr.i64 (y:=((r+1:Nat):Int)) rfl (by omega) (by omega) ?_;conv=>whnf
    exact ⟨r+1,h2,by show n - (r+1) < n - r;omega,⟨rfl,rfl,rfl,rfl,trivial⟩,rfl,trivial⟩
  ·have h2:r=n:=by simp only [decide_eq_false_iff_not] at h2;omega
   rw [h2];conv=>whnf
   refine Wr.i64 (y:=((i+1:Nat):Int)) rfl (by omega) (by omega) ?_;conv=>whnf
   refine ⟨i+1,h,by show n - (i+1) < n - i;omega,⟨rfl,rfl,rfl,trivial⟩,?_,trivial⟩;rw [enx];rfl
 ·have h:i=n:=by simp only [decide_eq_false_iff_not] at h;omega
  have hGn:=hG n (Nat.le_refl _);have hTn:=hT n (Nat.le_refl _);obtain ⟨T,eT⟩:∃T,2 ^ n*t=T:=⟨_,rfl⟩;have hrow:=hGn.row;rw [eT] at hTn hrow;have hdi:=hGn.dia;rw [h];have hplc:=hGn.pl;generalize N n=s at hrow hdi hplc eX ⊢;obtain ⟨p,R⟩:=s;dsimp only at hrow hdi hplc eX ⊢;have hpl:=hplc.pl;conv=>whnf
  refine VLoop.ren 104 127 rfl ?_;refine VLoop.inv hty (S:=Nat) (fun i=>[(11,I i),(10,.ls 127 0 i 3),(4,I n),(0,.ls 1000000 0 n 1)]) (fun i=>[(127,.row true 3 (cS (X.take i))),(1000000,mW p R (n+1))]) (fun i=>i≤n) (fun i=>n - i) 0 (Nat.zero_le _) ⟨rfl,rfl,rfl,rfl,trivial⟩ ⟨rfl,rfl,trivial⟩ ?_;intro i hi;conv=>whnf
  refine Br.mk (fun h2=>?_) (fun h2=>?_)
  ·have h2:i < n:=by simp only [decide_eq_true_eq] at h2;omega
   have hw:=hplc.wd i h2;have ya:=cRS_atp hplc h2;have s1:sz (lgF p R i n) < T:=(hrow i h2).sz (getD_mem (by omega));have s2:sz (lgF p R i i) < T:=(hrow i h2).sz (getD_mem (by omega));have k1:=fn_sOver (lgF p R i n) (lgF p R i i) (by omega) (hdi i h2).1;have htk:X.take (i+1)=X.take i++[lgF p R i n / lgF p R i i]:=by
    rw [List.take_succ_eq_append_getElem (by omega),←eX i h2,gD,List.getElem?_eq_getElem (by omega)];rfl
   obtain ⟨x,ex⟩:∃x,lgF p R i n / lgF p R i i=x:=⟨_,rfl⟩;rw [ex] at k1 htk;have hkl:(X.take i).length=i:=by rw [List.length_take];omega
   obtain ⟨F,eF⟩:∃F,X.take i=F:=⟨_,rfl⟩;rw [eF] at htk hkl ⊢;conv=>whnf
   refine VDraw.go hmo hty 17 [[126],[126],[126],[126],[126],[126],[126],[126],[126],[126],[126],[126],[126],[126],[126],[126],[]] rfl ?_;conv=>whnf
   refine ⟨by omega,?_⟩;conv=>whnf
   refine ⟨_,ixW_at (w:=n+1) (i:=i) (by rw [hpl];omega),?_⟩;conv=>whnf
   refine ⟨by omega,?_⟩;conv=>whnf
   refine ⟨_,ya,?_⟩;conv=>whnf
   refine ⟨_,cS_as (x:=lgF p R i n) (i:=n) (by omega) rfl,?_⟩;conv=>whnf
   refine ⟨by omega,?_⟩;conv=>whnf
   refine ⟨_,ixW_at (w:=n+1) (i:=i) (by rw [hpl];omega),?_⟩;conv=>whnf
   refine ⟨by omega,?_⟩;conv=>whnf
   refine ⟨_,ya,?_⟩;conv=>whnf
   refine ⟨_,cS_as (x:=lgF p R i i) (i:=i) (by omega) rfl,?_⟩;conv=>whnf
   refine QCall.of_data k1 (ndA fun k=>rfl) ?_;conv=>whnf
   refine Sub.full rfl ?_;conv=>whnf
   refine Sub.full (by rw [cS_len,hkl]) ?_;conv=>whnf
   refine ⟨by show (i+1)*56≤_;omega,?_⟩;conv=>whnf
   refine Wr.i64 (y:=((i+1:Nat):Int)) rfl (by omega) (by omega) ?_;conv=>whnf
   refine ⟨i+1,h2,by show n - (i+1) < n - i;omega,⟨rfl,rfl,rfl,rfl,trivial⟩,?_,rfl,trivial⟩;rw [htk,←cS_ap1];rfl
  ·have h2:i=n:=by simp only [decide_eq_false_iff_not] at h2;omega
   rw [h2,List.take_of_length_le (by omega)];conv=>whnf
   exact ⟨⟨rfl,rfl,rfl,rfl,rfl,rfl⟩,_,rfl,rfl,⟨rfl,trivial⟩,rfl⟩
end Go.V
namespace Go.V
open Go.Proofs Go.RowKit
set_option maxRecDepth 10000
set_option maxHeartbeats 16000000
theorem VCall.par1n {P:Program} {t:TL} {l:LL} {f:FuncId} {xs xs0:List AV} {sz sz' n s2:Nat} {ix ix':List MC} {rows rows':List (List (List C))} {r2:List (List C)} {dst:Option Nat} {K:AV→TL→LL→Prop} (a k:Nat)
  (h:Fn P f xs0 [(1000000,.mat sz ix rows)] (.tup [.ls 0 0 n s2,B true]) [(0,.row true s2 r2),(1000000,.mat sz' ix' rows')]) (ha:argR (pmap [(1000000,a)]) xs xs0) (hl:lget a l = .mat sz ix rows)
  (hf:freshR (pmap [(1000000,a)]) k t l [(1000000,.mat sz ix rows)] [(0,.row true s2 r2),(1000000,.mat sz' ix' rows')]=true)
  (hK:K (.tup [.ls k 0 n s2,B true]) t ((k,.row true s2 r2) :: (a,.mat sz' ix' rows') :: l)):VCall P f xs dst t l K :=
 VCall.of_fnR (k:=k) (pmap [(1000000,a)]) h ha ⟨⟨hl,fun p h=>absurd rfl h⟩,trivial⟩ rfl (fun p hp=>by
  by_cases e:p=1000000
  ·subst e;intro h2;cases h2
  ·exfalso;apply hp
   rw [lget_cons,if_neg e];rfl) (fun j hj=>by
  have h1:(AV.ment j (.tup [.ls 0 0 n s2,B true]))=(Nat.beq 0 j || (false || false)):=rfl
  rw [h1] at hj
  have:0=j:=Nat.eq_of_beq_eq_true (by simpa using hj)
  subst this;intro h2;cases h2) hf (by
  have e1:AV.ren (ret (pmap [(1000000,a)]) k) (.tup [.ls 0 0 n s2,B true]) = .tup [.ls k 0 n s2,B true]:=by
   show AV.tup [.ls (ret (pmap [(1000000,a)]) k 0) 0 n s2,B true]=_
   rfl
  rw [e1]
  have e2:retL (pmap [(1000000,a)]) k [(0,.row true s2 r2),(1000000,.mat sz' ix' rows')]=[(k,.row true s2 r2),(a,.mat sz' ix' rows')]:=rfl
  rw [e2];exact hK)
def sysU (p:Mt) (j:Nat):Mt:=(List.range j).map fun j=>(List.range (p.length+1)).map (entS p j)
theorem sysU_len (p:Mt) (j:Nat):(sysU p j).length=j:=by simp [sysU]
theorem sysU_next (p:Mt) (j:Nat):cRS (sysU p (j+1))=cRS (sysU p j)++[cS ((List.range (p.length+1)).map (entS p j))]:=by
 unfold sysU cRS;rw [show List.range (j+1)=List.range j++[j] from List.range_succ,List.map_append,List.map_append];rfl
theorem mapR_next {α:Type} (f:Nat→α) (i:Nat):(List.range (i+1)).map f=(List.range i).map f++[f i]:=by rw [List.range_succ,List.map_append];rfl
theorem fn_sRest (p:Mt) (t s:Nat) (hp:MtR p t) (ht:t≤9700) (hs:s < p.length) (hc:Cl p.length (ent p) s):Fn Tryz.prog 102 [mP p] [] (.tup [lS (restQ p s),B true]) []:=by
 have hz:((cMS p).length:Int)=p.length:=by rw [cMS_len]
 have n1:=hp.n1;have n2:=hp.n2;obtain ⟨c,hset,_⟩:=cls_one (n:=p.length) (s:=s) (r:=rb p.length (ent p)) (fun j _=>rb_self) (fun j k l _ _ _ h1 h2=>rb_trans h1 h2) hs (fun i hi=>rb_iff.2 (hc.rc i hi));have c1:=fn_sClasses p t hp (by omega);rw [hset] at c1;generalize (clsN p.length (rb p.length (ent p)) p.length).1=o at c1;obtain ⟨hinj,hgx⟩:=hp.rest_gj hs hc;have cv:=fn_sSolve p.length (12*t+14) (List.range p.length) (sysL p) _ hp.gj hinj n1 n2 (by omega);rw [hgx] at cv;have hU:sysL p=sysU p p.length:=rfl;rw [hU] at cv;have hql:=restQ_len p s;obtain ⟨Q,eQ⟩:∃Q,restQ p s=Q:=⟨_,rfl⟩;rw [eQ] at cv hql ⊢;have hent:∀j i,j < p.length→i < p.length→entS p j i=if j=p.length - 1 then 1 else if i=j then ent p i j - 1 else ent p i j:=fun j i hj hi=>by unfold entS;rw [if_neg (by omega)]
 have hentn:∀j,entS p j p.length=if j=p.length - 1 then 1 else 0:=fun j=>by unfold entS;rw [if_pos rfl]
 have k1:=fn_sOne;have k0:=fn_sNone;obtain ⟨n,en⟩:∃n,p.length=n:=⟨_,rfl⟩;have hrl:∀i,i < n→(p.getD i []).length=n:=fun i hi=>by rw [hp.rlen (by omega),en]
 have hsz:∀i j,i < n→j < n→sz (ent p i j) < t:=fun i j hi hj=>hp.ent_sz (by omega) (by omega);rw [en] at hz n1 n2 cv hql hent hentn;generalize gjN n skJ (List.range n,sysU p n) n=fin at cv;have g:Fn Tryz.prog 102 [mP p] [] (.tup [.ls 0 0 n 3,B true]) [(0,.row true 3 (cS Q))]:=by
  refine Fn.intro (ks:=[0,2,3,5,6,7,8,9,10,11,12,20,29,35,50,57,67]) hty rfl rfl rfl rfl rfl ?_;conv=>whnf
  refine VCall.of_data c1 (ndT fun _=>rfl) ?_;conv=>whnf
  rw [hz];refine VLoop.toMat 26 3 (cs:=[]) rfl rfl ?_;refine VLoop.ren 26 75 rfl ?_;refine VLoop.inv hty (S:=Nat) (fun j=>[(8,I j),(7,.ls 75 0 j 1),(6,I n),(0,mP p)]) (fun j=>[(75,.mat 3 (ixQ j (n+1)) (cRS (sysU p j)))]) (fun j=>j≤n) (fun j=>n - j) 0 (Nat.zero_le _) ⟨rfl,rfl,rfl,rfl,trivial⟩ ⟨rfl,trivial⟩ ?_;intro j hj;conv=>whnf
  refine Br.mk (fun h=>?_) (fun h=>?_)
  ·have h:j < n:=by simp only [decide_eq_true_eq] at h;omega
   have hN:=sysU_len p j;have hnx:=sysU_next p j;rw [en] at hnx;obtain ⟨N,eN⟩:∃N,sysU p j=N:=⟨_,rfl⟩;rw [eN] at hN hnx;rw [eN];conv=>whnf
   refine VLoop.ren 32 62 rfl ?_;refine VLoop.inv hty (S:=Nat) (fun i=>[(10,I i),(9,.ls 62 0 i 3),(8,I j),(7,.ls 75 0 j 1),(6,I n),(0,mP p)]) (fun i=>[(62,.row true 3 (cS ((List.range i).map (entS p j)))),(75,.mat 3 (ixQ j (n+1)) (cRS N))]) (fun i=>i≤n) (fun i=>n - i) 0 (Nat.zero_le _) ⟨rfl,rfl,rfl,rfl,rfl,rfl,trivial⟩ ⟨rfl,rfl,trivial⟩ ?_;intro i hi;conv=>whnf
   refine Br.mk (fun h3=>?_) (fun h3=>?_)
   ·have h3:i < n:=by simp only [decide_eq_true_eq] at h3;omega
    have hFn:=mapR_next (entS p j) i;have hF:((List.range i).map (entS p j)).length=i:=by simp
    have hv0:=hent j i h h3;have hs1:=hsz i j h3 h;have k2:=fn_sMinus (ent p i j) 1 (by have:=sz_small (n:=1) (k:=1) (by decide) (by decide);have:sz (1:Rat)≤1:=this;omega);obtain ⟨F,eF⟩:∃F,(List.range i).map (entS p j)=F:=⟨_,rfl⟩;rw [eF] at hFn hF ⊢;conv=>whnf
    refine ⟨⟨⟨by omega,by rw [cMS_len];omega⟩,cMS_sz _⟩,?_⟩;conv=>whnf
    refine ⟨_,cMS_as (x:=p.getD i []) (by omega) rfl,?_⟩;conv=>whnf
    refine ⟨⟨⟨by omega,by rw [cS_len,hrl i h3];omega⟩,cS_sz _⟩,?_⟩;conv=>whnf
    refine ⟨_,cS_as (x:=ent p i j) (by rw [hrl i h3];exact h) rfl,?_⟩;conv=>whnf
    by_cases hij:i=j
    ·rw [decide_eq_true (show (i:Int)=(j:Int) by omega)];conv=>whnf
     refine VDraw.go hmo hty 3 [] rfl ?_;conv=>whnf
     refine QCall.of_data k1 (ndA fun k=>rfl) ?_;conv=>whnf
     refine QCall.of_data k2 (ndA fun k=>rfl) ?_;conv=>whnf
     refine Wr.i64 (y:=((n - 1:Nat):Int)) (by omega) (by omega) (by omega) ?_;conv=>whnf
     by_cases hjn:j=n - 1
     ·have hv:entS p j i=1:=by rw [hv0,if_pos hjn]
      rw [decide_eq_true (show (j:Int)=((n - 1:Nat):Int) by omega)];conv=>whnf
      refine VCall.of_data k1 (ndA fun k=>rfl) ?_;conv=>whnf
      refine Sub.full rfl ?_;conv=>whnf
      refine Sub.full (by rw [cS_len,hF]) ?_;conv=>whnf
      refine ⟨by show (i+1)*56≤_;omega,?_⟩;conv=>whnf
      refine Wr.i64 (y:=((i+1:Nat):Int)) rfl (by omega) (by omega) ?_;conv=>whnf
      refine ⟨i+1,h3,by show n - (i+1) < n - i;omega,⟨rfl,rfl,rfl,rfl,rfl,rfl,trivial⟩,?_,rfl,trivial⟩;rw [hFn,hv,←cS_ap1];rfl
     ·have hv:entS p j i=ent p i j - 1:=by rw [hv0,if_neg hjn,if_pos hij]
      rw [decide_eq_false (show ¬(j:Int)=((n - 1:Nat):Int) by omega)];conv=>whnf
      refine Sub.full rfl ?_;conv=>whnf
      refine Sub.full (by rw [cS_len,hF]) ?_;conv=>whnf
      refine ⟨by show (i+1)*56≤_;omega,?_⟩;conv=>whnf
      refine Wr.i64 (y:=((i+1:Nat):Int)) rfl (by omega) (by omega) ?_;conv=>whnf
      refine ⟨i+1,h3,by show n - (i+1) < n - i;omega,⟨rfl,rfl,rfl,rfl,rfl,rfl,trivial⟩,?_,rfl,trivial⟩;rw [hFn,hv,←cS_ap1];rfl
    ·rw [decide_eq_false (show ¬(i:Int)=(j:Int) by omega)];conv=>whnf
     refine Wr.i64 (y:=((n - 1:Nat):Int)) (by omega) (by omega) (by omega) ?_;conv=>whnf
     by_cases hjn:j=n - 1
     ·have hv:entS p j i=1:=by rw [hv0,if_pos hjn]
      rw [decide_eq_true (show (j:Int)=((n - 1:Nat):Int) by omega)];conv=>whnf
      refine VCall.of_data k1 (ndA fun k=>rfl) ?_;conv=>whnf
      refine Sub.full rfl ?_;conv=>whnf
      refine Sub.full (by rw [cS_len,hF]) ?_;conv=>whnf
      refine ⟨by show (i+1)*56≤_;omega,?_⟩;conv=>whnf
      refine Wr.i64 (y:=((i+1:Nat):Int)) rfl (by omega) (by omega) ?_;conv=>whnf
      refine ⟨i+1,h3,by show n - (i+1) < n - i;omega,⟨rfl,rfl,rfl,rfl,rfl,rfl,trivial⟩,?_,rfl,trivial⟩;rw [hFn,hv,←cS_ap1];rfl
     ·have hv:entS p j i=ent p i j:=by rw [hv0,if_neg hjn,if_neg hij]
      rw [decide_eq_false (show ¬(j:Int)=((n - 1:Nat):Int) by omega)];conv=>whnf
      refine Sub.full rfl ?_;conv=>whnf
      refine Sub.full (by rw [cS_len,hF]) ?_;conv=>whnf
      refine ⟨by show (i+1)*56≤_;omega,?_⟩;conv=>whnf
      refine Wr.i64 (y:=((i+1:Nat):Int)) rfl (by omega) (by omega) ?_;conv=>whnf
      refine ⟨i+1,h3,by show n - (i+1) < n - i;omega,⟨rfl,rfl,rfl,rfl,rfl,rfl,trivial⟩,?_,rfl,trivial⟩;rw [hFn,hv,←cS_ap1];rfl
   ·have h3:i=n:=by simp only [decide_eq_false_iff_not] at h3;omega
    rw [h3];conv=>whnf
    refine VCall.of_data k0 (ndA fun k=>rfl) ?_;conv=>whnf
    refine Wr.i64 (y:=((n - 1:Nat):Int)) (by omega) (by omega) (by omega) ?_;conv=>whnf
    by_cases hjn:j=n - 1
    ·have hE:entS p j n=1:=by rw [hentn,if_pos hjn]
     rw [decide_eq_true (show (j:Int)=((n - 1:Nat):Int) by omega)];conv=>whnf
     refine VCall.of_data k1 (ndA fun k=>rfl) ?_;conv=>whnf
     have hrow:(List.range (n+1)).map (entS p j)=(List.range n).map (entS p j)++[1]:=by rw [mapR_next,hE]
     have hFl:((List.range n).map (entS p j)).length=n:=by simp
     obtain ⟨F,eF⟩:∃F,(List.range n).map (entS p j)=F:=⟨_,rfl⟩;rw [eF] at hrow hFl ⊢;refine Sub.full rfl ?_;conv=>whnf
     refine Sub.full (by rw [cS_len,hFl]) ?_;conv=>whnf
     refine ⟨by show (n+1)*56≤_;omega,?_⟩;conv=>whnf
     refine ⟨⟨by rw [ixQ_len],by show (j+1)*24≤_;omega⟩,?_⟩;conv=>whnf
     refine Wr.i64 (y:=((j+1:Nat):Int)) rfl (by omega) (by omega) ?_;conv=>whnf
     refine ⟨j+1,h,by show n - (j+1) < n - j;omega,⟨rfl,rfl,rfl,rfl,trivial⟩,?_,trivial⟩;show Ob.mat 3 (ixQ j (n+1)++[.r (cRS N).length 0 (n+1)]) (cRS N++[cS F++[c1S 1]])=Ob.mat 3 (ixQ (j+1) (n+1)) (cRS (sysU p (j+1)));rw [hnx,ixQ_snoc,cRS_len,hN,hrow,cS_ap1]
    ·have hE:entS p j n=0:=by rw [hentn,if_neg hjn]
     rw [decide_eq_false (show ¬(j:Int)=((n - 1:Nat):Int) by omega)];conv=>whnf
     have hrow:(List.range (n+1)).map (entS p j)=(List.range n).map (entS p j)++[0]:=by rw [mapR_next,hE]
     have hFl:((List.range n).map (entS p j)).length=n:=by simp
     obtain ⟨F,eF⟩:∃F,(List.range n).map (entS p j)=F:=⟨_,rfl⟩;rw [eF] at hrow hFl ⊢;refine Sub.full rfl ?_;conv=>whnf
     refine Sub.full (by rw [cS_len,hFl]) ?_;conv=>whnf
     refine ⟨by show (n+1)*56≤_;omega,?_⟩;conv=>whnf
     refine ⟨⟨by rw [ixQ_len],by show (j+1)*24≤_;omega⟩,?_⟩;conv=>whnf
     refine Wr.i64 (y:=((j+1:Nat):Int)) rfl (by omega) (by omega) ?_;conv=>whnf
     refine ⟨j+1,h,by show n - (j+1) < n - j;omega,⟨rfl,rfl,rfl,rfl,trivial⟩,?_,trivial⟩;show Ob.mat 3 (ixQ j (n+1)++[.r (cRS N).length 0 (n+1)]) (cRS N++[cS F++[c1S 0]])=Ob.mat 3 (ixQ (j+1) (n+1)) (cRS (sysU p (j+1)));rw [hnx,ixQ_snoc,cRS_len,hN,hrow,cS_ap1]
  ·have h:j=n:=by simp only [decide_eq_false_iff_not] at h;omega
   rw [h];conv=>whnf
   refine VCall.par1n 75 77 cv ⟨⟨rfl,rfl,rfl,rfl⟩,trivial⟩ rfl rfl ?_;conv=>whnf
   exact ⟨⟨rfl,rfl,rfl,rfl,rfl,rfl⟩,[],rfl,rfl,trivial,rfl⟩
 have:=g.freezeT (by rw [cS_len];omega) rfl;rwa [List.drop_zero,List.take_of_length_le (by rw [cS_len];omega)] at this
end Go.V
namespace Go.V
theorem one_cast:(((1:Nat):Int):Rat)=1:=rfl
end Go.V
namespace Go.V
end Go.V
namespace Go.V
abbrev skT (i r:Nat):Bool:=decide (r≤i)
structure Gt (n t:Nat) (A:Fm) (p:List Nat) (R:Mt) (i:Nat):Prop where
 pl:Plc n (n+1) p R
 eq:Eqv n A (lgF p R)
 tri:Tri n (lgF p R) i
 row:∀r,r < n→RowB (2 ^ i*t) (lg p R r)
theorem Gt.piv {n t i:Nat} {A:Fm} {p:List Nat} {R:Mt} (h:Gt n t A p R i) (hA:Inj n A) (hi:i < n):i≤pivF (lgF p R) i (n - i) i∧pivF (lgF p R) i (n - i) i < n∧lgF p R (pivF (lgF p R) i (n - i) i) i≠0:=by
 obtain ⟨k,h1,h2,h3⟩:=h.tri.pivot (h.eq.inj hA) hi
 have:=pivF_is (A:=lgF p R) (c:=i) (n - i) i ⟨k,h1,by omega,h3⟩
 exact ⟨this.1,by omega,this.2.2⟩
theorem Gt.next {n t i:Nat} {A:Fm} {p:List Nat} {R:Mt} (h:Gt n t A p R i) (hi:i < n) {k:Nat} (hik:i≤k) (hk:k < n) (h0:lgF p R k i≠0):Gt n t A (swapL 0 p i k) (elimR (swapL 0 p i k) i (skT i) n R) (i+1):=by
 have hb:∀j,j < i→lgF p R k j=0:=fun j hj=>(h.tri j hj).2 k hk (by omega);obtain ⟨g1,g2,g3⟩:=elim_step h.pl hi hk (sk:=skT i) (decide_eq_true (Nat.le_refl i)) h0 hb;have esw:swF i k i=k:=by unfold swF;by_cases e:i=k;rw [if_pos e];exact e;rw [if_neg e,if_pos rfl]
 refine ⟨g1,h.eq.trans g2,fun c hc=>?_,fun r hr=>?_⟩
 ·by_cases e:c=i
  ·subst e;refine ⟨?_,fun r hr hlt=>?_⟩
   ·rw [g3 c hi c (by omega),if_pos (decide_eq_true (Nat.le_refl c)),esw];grind
   ·rw [g3 r hr c (by omega),if_neg (by rw [decide_eq_true_eq];omega)];have:=Rat.div_mul_cancel (a:=lgF p R (swF c k r) c) h0;grind
  ·have hci:c < i:=by omega
   obtain ⟨d1,d2⟩:=h.tri c hci;refine ⟨?_,fun r hr hlt=>?_⟩
   ·rw [g3 c (by omega) c (by omega),hb c hci,Rat.mul_zero];have:swF i k c=c:=by unfold swF;rw [if_neg (by omega),if_neg e]
    rw [this];grind
   ·rw [g3 r hr c (by omega),hb c hci,Rat.mul_zero,d2 _ (swF_lt hi hk hr) (by unfold swF;split;omega;split;omega;omega)];grind
 ·have hp:=h.pl.swap hi hk;obtain ⟨_,g5⟩:=elimR_is (sk:=skT i) hp hi (decide_eq_true (Nat.le_refl i)) n (Nat.le_refl _);rw [g5 r hr,if_pos hr,lg_swap h.pl hi hk,lg_swap h.pl hi hk,esw];have w1:=h.pl.wd _ (swF_lt hi hk hr);have w2:=h.pl.wd _ hk;have:=(h.row _ (swF_lt hi hk hr)).el (r:=r) (sk:=skT i) (h.row _ hk) (c:=i) (by omega) (by omega) h0;rwa [←Nat.mul_assoc,←Nat.pow_succ'] at this
def bkS (A:Fm) (x:Nat→Rat) (b:Rat) (i:Nat):Nat→Rat
 | 0=>b
 | c+1=>if i < c then bkS A x b i c - A i c*x c else bkS A x b i c
theorem bkS_sum {A:Fm} {x:Nat→Rat} {b:Rat} {i:Nat}:∀c,bkS A x b i c=b - sN c fun d=>if i < d then A i d*x d else 0
 | 0=>by show b=b - 0;grind
 | c+1=>by
  show (if i < c then _ else _)=b - (sN c (fun d=>if i < d then A i d*x d else 0)+if i < c then A i c*x c else 0)
  rw [bkS_sum c]
  split <;> grind
def xB (n:Nat) (A:Fm):Nat→Nat→Rat
 | 0=>fun j=>A j n
 | d+1=>fun j=>if j=n - 1 - d then bkS A (xB n A d) (A j n) j n / A j j else xB n A d j
theorem bkS_congr {A:Fm} {x y:Nat→Rat} {b:Rat} {i:Nat}:∀{c},(∀d,i < d→d < c→x d=y d)→bkS A x b i c=bkS A y b i c
 | 0,_=>rfl
 | c+1,h=>by
  show (if i < c then _ else _)=if i < c then _ else _
  rw [bkS_congr (c:=c) fun d h1 h2=>h d h1 (by omega)]
  split
  ·rename_i e;rw [h c e (by omega)]
  ·rfl
theorem xB_keep {n:Nat} {A:Fm} {j:Nat} (hj:j < n):∀{d},n - 1 - j < d→d≤n→xB n A d j=xB n A (n - j) j
 | 0,h,_=>by omega
 | d+1,h,hd=>by
  by_cases e:n - j=d+1
  ·rw [e]
  ·show (if j=n - 1 - d then _ else _)=_
   rw [if_neg (by omega)];exact xB_keep hj (by omega) (by omega)
theorem xB_row {n:Nat} {A:Fm} {j:Nat} (hj:j < n):xB n A n j=bkS A (xB n A n) (A j n) j n / A j j:=by
 rw [xB_keep hj (by omega) (Nat.le_refl _),show n - j=(n - 1 - j)+1 by omega]
 show (if j=n - 1 - (n - 1 - j) then _ else _)=_
 rw [if_pos (by omega),bkS_congr (y:=xB n A n) fun d h1 h2=>by rw [xB_keep h2 (d:=n - 1 - j) (by omega) (by omega),xB_keep h2 (d:=n) (by omega) (Nat.le_refl _)]]
theorem Tri.sol {n:Nat} {A:Fm} (h:Tri n A n):Sol n A (xB n A n):=fun r hr=>by
 have e:=xB_row (A:=A) hr
 obtain ⟨h1,_⟩:=h r hr
 rw [bkS_sum] at e
 have e2:xB n A n r*A r r=A r n - sN n fun d=>if r < d then A r d*xB n A n d else 0:=by
  rw [e];exact Rat.div_mul_cancel h1
 have e3:rowX n A (xB n A n) r=(sN n fun d=>if d=r then (fun d=>A r d*xB n A n d) d else 0)+sN n fun d=>if r < d then A r d*xB n A n d else 0:=by
  rw [←sN_add]
  refine sN_congr fun d hd=>?_
  by_cases h2:d=r
  ·rw [if_pos h2,if_neg (by omega)];grind
  ·rw [if_neg h2]
   by_cases h3:r < d
   ·rw [if_pos h3];grind
   ·rw [if_neg h3,(h d hd).2 r hr (by omega)];grind
 rw [e3,sN_delta,if_pos hr]
 show A r r*xB n A n r+_=A r n
 grind
end Go.V
namespace Go.V
theorem filt_lt {p q:Nat→Bool}:∀{l:List Nat},(∀x,x∈l→p x=true→q x=true)→(∃x,x∈l∧q x=true∧p x=false)→(l.filter p).length < (l.filter q).length
 | [],_,⟨x,hx,_⟩=>by simp at hx
 | y :: l,h,⟨x,hx,h1,h2⟩=>by
  have hle:∀l:List Nat,(∀x,x∈l→p x=true→q x=true)→(l.filter p).length≤(l.filter q).length:=by
   intro l;induction l with
   | nil=>intro _;exact Nat.le_refl _
   | cons z l ih =>
    intro h;have ih:=ih fun x hx=>h x (List.mem_cons_of_mem _ hx);rw [List.filter_cons,List.filter_cons];cases e:p z with
    | true=>rw [h z (by simp) e];simp;exact ih
    | false =>
     cases e2:q z with
     | true=>simp;omega
     | false=>simp;exact ih
  rw [List.filter_cons,List.filter_cons];have hl:=fun x hx=>h x (List.mem_cons_of_mem y hx);by_cases e:x=y
  ·subst e;rw [h1,h2];have:=hle l hl;simp;omega
  ·have hx:x∈l:=by rcases List.mem_cons.1 hx with e2 | e2;exact absurd e2 e;exact e2
   have ih:=filt_lt hl ⟨x,hx,h1,h2⟩;cases e:p y with
   | true=>rw [h y (by simp) e];simp;exact ih
   | false =>
    cases e2:q y with
    | true=>simp;omega
    | false=>simp;exact ih
theorem closed_ex {n:Nat} {r:Nat→Nat→Bool} (hr:∀j,j < n→r j j=true) (ht:∀j k l,j < n→k < n→l < n→r j k=true→r k l=true→r j l=true) :
  ∀(m i:Nat),i < n→((List.range n).filter (r i)).length≤m→∃k,k < n∧r i k=true∧∀l,l < n→r k l=true→r l k=true:=by
 intro m;induction m with
 | zero =>
  intro i hi h;have:i∈(List.range n).filter (r i):=by rw [List.mem_filter];exact ⟨by simpa using hi,hr i hi⟩
  have h2:=List.length_pos_of_mem this;omega
 | succ m ih =>
  intro i hi h;by_cases hc:∀l,l < n→r i l=true→r l i=true
  ·exact ⟨i,hi,hr i hi,hc⟩
  ·obtain ⟨l,hl,h1,h2⟩:∃l,l < n∧r i l=true∧r l i=false:=by
    apply Classical.byContradiction;intro hno;exact hc fun l hl h1=>by
     cases e:r l i with
     | true=>rfl
     | false=>exact absurd ⟨l,hl,h1,e⟩ hno
   have hlt:=filt_lt (p:=r l) (q:=r i) (l:=List.range n) (fun x hx h3=>ht i l x hi hl (by simpa using hx) h1 h3) ⟨i,by simpa using hi,hr i hi,h2⟩;obtain ⟨k,hk,h3,h4⟩:=ih l hl (by omega);exact ⟨k,hk,ht i l k hi hl hk h1 h3,h4⟩
theorem cls_conv {n:Nat} {r:Nat→Nat→Bool} (hr:∀j,j < n→r j j=true) (ht:∀j k l,j < n→k < n→l < n→r j k=true→r k l=true→r j l=true) {c:Nat} (h1:setI (clsN n r n).2=[c]) :
  ∃s,s < n∧∀i,i < n→r i s=true:=by
 have h:=clsN_ok hr ht n (Nat.le_refl _);generalize clsN n r n=z at h h1;obtain ⟨o,b⟩:=z;dsimp only at h1;have hc:c∈setI b:=by rw [h1];simp
 have hcl:c < b.length:=by unfold setI at hc;rw [List.mem_filter] at hc;simpa using hc.1
 obtain ⟨s,hs,e⟩:=h.used c hcl;dsimp only at e;refine ⟨s,hs,fun i hi=>?_⟩;obtain ⟨k,hk,h2,h3⟩:=closed_ex hr ht _ i hi (Nat.le_refl _);have h0:=h.done k hk;dsimp only at h0;have h4:=(h.shut k hk h0).2 h3;dsimp only at h4;have hlt:(o.getD k 0).toNat < b.length:=by
  rcases h.lt k hk with e | e
  ·dsimp only at e;omega
  ·have:=e.2;dsimp only at this;omega
 have h5:(o.getD k 0).toNat∈setI b:=by unfold setI;rw [List.mem_filter];exact ⟨by simpa using hlt,h4⟩
 rw [h1,List.mem_singleton] at h5;have h6:=(h.same k s hk hs h0 (by dsimp only;rw [e];omega)).1;exact ht i k s hi hk hs h2 h6
end Go.V
namespace Go.V
open Go.Proofs Go.RowKit
set_option maxRecDepth 10000
set_option maxHeartbeats 2000000
open Classical in
noncomputable def restO (p:Mt):Option (List Rat):=if h:∃s,s < p.length∧Cl p.length (ent p) s then some (restQ p h.choose) else none
theorem restO_some {p:Mt} {x:List Rat} (h:restO p=some x):∃s,s < p.length∧Cl p.length (ent p) s∧x=restQ p s:=by
 unfold restO at h
 split at h
 ·rename_i h2
  cases h
  exact ⟨_,h2.choose_spec.1,h2.choose_spec.2,rfl⟩
 ·cases h
theorem restO_none {p:Mt} (h:restO p=none):(setI (clsN p.length (rb p.length (ent p)) p.length).2).length≠1:=fun hl=>by
 obtain ⟨c,hc⟩:=List.length_eq_one_iff.1 hl
 obtain ⟨s,hs,ha⟩:=cls_conv (r:=rb p.length (ent p)) (fun j _=>rb_self) (fun j k l _ _ _ h1 h2=>rb_trans h1 h2) hc
 unfold restO at h
 rw [dif_pos ⟨s,hs,Cl.of fun i hi=>rb_iff.1 (ha i hi)⟩] at h
 cases h
theorem fn_restO (p:Mt) (t:Nat) (hp:MtR p t) (ht:t≤9700):Fn Tryz.prog 157 [lM p] [] (.tup [lQ ((restO p).getD []),B (restO p).isSome]) []:=by
 cases h:restO p with
 | some x =>
  obtain ⟨s,hs,hc,e⟩:=restO_some h;have:=fn_rest p t s hp ht hs hc;rw [←e] at this;exact this
 | none =>
  have hl:=restO_none h;have hz:((cM p).length:Int)=p.length:=by rw [cM_len]
  have n1:=hp.n1;have n2:=hp.n2;have c1:=fn_classes p t hp (by omega);obtain ⟨ob,eob⟩:∃ob,clsN p.length (rb p.length (ent p)) p.length=ob:=⟨_,rfl⟩;rw [eob] at c1 hl;obtain ⟨o,b⟩:=ob;dsimp only at c1 hl;have hbl:b.length≤1000000:=by
   have h:=clsN_le p.length (rb p.length (ent p)) p.length;rw [eob] at h;dsimp only at h;omega
  have c2:=fn_setOfd b hbl;have hzs:((cW .i64 (setI b)).length:Int)=(setI b).length:=by rw [cN_len]
  obtain ⟨L,eL⟩:∃L,(setI b).length=L:=⟨_,rfl⟩;rw [eL] at hl hzs;refine Fn.intro (ks:=[0,2,3,4,5,6,7,8,9,10,12,13,15,16,17,18,28,30,31,32,33,41,48,49,50,51,55,56,57,58,83,84,85,86]) hty rfl rfl rfl rfl rfl ?_;conv=>whnf
  refine VCall.of_data c1 (ndT fun _=>rfl) ?_;conv=>whnf
  refine VCall.of_data c2 (nd _) ?_;conv=>whnf
  rw [hzs];rw [decide_eq_false (show ¬(L:Int)=1 by omega)];conv=>whnf
  exact ⟨rfl,trivial,rfl⟩
theorem fn_sRestO (p:Mt) (t:Nat) (hp:MtR p t) (ht:t≤9700):Fn Tryz.prog 102 [mP p] [] (.tup [lS ((restO p).getD []),B (restO p).isSome]) []:=by
 cases h:restO p with
 | some x =>
  obtain ⟨s,hs,hc,e⟩:=restO_some h;have:=fn_sRest p t s hp ht hs hc;rw [←e] at this;exact this
 | none =>
  have hl:=restO_none h;have n2:=hp.n2;have c1:=fn_sClasses p t hp (by omega);generalize clsN p.length (rb p.length (ent p)) p.length=z at c1 hl;obtain ⟨o,b⟩:=z;dsimp only at c1 hl;have hzs:((cW .i64 (setI b)).length:Int)=(setI b).length:=by rw [cN_len]
  generalize setI b=S at c1 hl hzs;obtain ⟨L,eL⟩:∃L,S.length=L:=⟨_,rfl⟩;rw [eL] at hl hzs;refine Fn.intro (ks:=[0,2,3,5,6,7,8,9,10,11,12,20,29,35,50,57,67]) hty rfl rfl rfl rfl rfl ?_;conv=>whnf
  refine VCall.of_data c1 (ndT fun _=>rfl) ?_;conv=>whnf
  rw [hzs];rw [decide_eq_false (show ¬(L:Int)=1 by omega)];conv=>whnf
  exact ⟨rfl,trivial,rfl⟩
end Go.V
namespace Go.V
theorem MtOk.toR {p:Mt} (h:MtOk p):MtR p 9602:=by
 have n2:=h.n2;refine ⟨h.n1,h.n2,h.sq,h.pos,fun r hr=>?_,h.one⟩;have hl:=h.sq r hr;have hP:∀m,m≤r.length→∃D:Nat,D≠0∧bl D≤m*800+1∧∀i,i < m→Iz D (r.getD i 0):=by
  intro m;induction m with
  | zero=>intro _;exact ⟨1,by decide,by rw [bl_one];omega,fun i hi=>by omega⟩
  | succ m ih =>
   intro hm;obtain ⟨D,d1,d2,d3⟩:=ih (by omega);have g1:=bl_den (r.getD m 0);have g2:=h.sz r hr _ (getD_mem (xs:=r) (i:=m) (d:=0) (by omega));have:=bl_mul D (r.getD m 0).den;refine ⟨D*(r.getD m 0).den,Nat.mul_ne_zero d1 (r.getD m 0).den_nz,by rw [Nat.succ_mul];omega,fun i hi=>?_⟩;by_cases e:i=m
   ·subst e;exact (Iz.den _).more' D
   ·exact (d3 i (by omega)).more _
 obtain ⟨D,d1,d2,d3⟩:=hP r.length (Nat.le_refl _);have h12:r.length*800≤12*800:=Nat.mul_le_mul_right _ (by omega);refine RowB.of_iz d1 (by omega) 1 (by rw [Nat.one_mul];omega) fun q hq=>?_;obtain ⟨i,hi,e⟩:=List.mem_iff_getElem.1 hq;have e2:r.getD i 0=q:=by rw [gD,List.getElem?_eq_getElem hi,←e];rfl
 have g1:=h.pos r hr q hq;have g2:q≤1:=by
  rw [←h.one r hr,←e2];exact sN_one_le (f:=(r.getD · 0)) hi fun k hk=>h.pos r hr _ (getD_mem hk)
 rw [one_cast];exact ⟨e2▸d3 i hi,by grind,g2⟩
end Go.V
namespace Go.V
open Go.Proofs Go.RowKit
set_option maxRecDepth 10000
set_option maxHeartbeats 1000000
end Go.V
namespace Go.V
open Go.Proofs Go.RowKit
set_option maxRecDepth 10000
set_option maxHeartbeats 2000000
end Go.V
namespace Go.V
open Go.Proofs Go.RowKit
set_option maxRecDepth 10000
set_option maxHeartbeats 2000000
end Go.V
namespace Go.V
open Go.Proofs Go.RowKit
set_option maxRecDepth 10000
set_option maxHeartbeats 2000000
end Go.V
namespace Go.V
open Go.Proofs Go.RowKit
set_option maxRecDepth 10000
set_option maxHeartbeats 2000000
end Go.V
namespace Go.V
open Go.Proofs Go.RowKit
set_option maxRecDepth 10000
set_option maxHeartbeats 2000000
theorem rcI_pos (p q:Rat):decide (0 < rcI p q)=decide (q < p):=by
 have h:=@rcI_le p q
 refine decide_eq_decide.2 ⟨fun e=>Rat.not_le.1 fun e2=>by have:=h.2 e2;omega,fun e=>?_⟩
 have h2:¬rcI p q≤0:=fun e2=>Rat.not_lt.2 (h.1 e2) e
 omega
end Go.V
namespace Go.V
open Go.Proofs Go.RowKit
set_option maxRecDepth 10000
set_option maxHeartbeats 2000000
theorem restO_len {p:Mt} {u:List Rat} (h:restO p=some u):u.length=p.length:=by
 obtain ⟨s,_,_,e⟩:=restO_some h
 rw [e,restQ_len]
theorem fn_restWeights (rows:List (List (List UInt8))) (hi:ChIn rows):Fn Tryz.prog 108 [chI rows] []
  (.tup [lM ((chainQ rows).getD []),lQ (((chainQ rows).bind restO).getD []),B ((chainQ rows).bind restO).isSome]) []:=by
 have c1:=fn_chainOf rows hi.l hi.r hi.s
 refine Fn.intro (ks:=[0,1,2,3,4,5,6,7,14]) hty rfl rfl rfl rfl rfl ?_
 conv=>whnf
 cases h:chainQ rows with
 | none =>
  rw [h] at c1
  refine VCall.of_data c1 (ndT fun _=>rfl) ?_
  conv=>whnf
  exact ⟨rfl,trivial,rfl⟩
 | some p =>
  have hp:=chainQ_ok h
  rw [h] at c1
  replace c1:Fn Tryz.prog 173 [chI rows] [] (.tup [lM p,B true]) []:=c1
  have c2:=fn_restO p 9602 hp.toR (by decide)
  refine VCall.of_data c1 (ndT fun _=>rfl) ?_
  conv=>whnf
  refine VCall.of_data c2 (ndT fun _=>rfl) ?_
  conv=>whnf
  first | exact ⟨rfl,rfl,rfl,trivial,rfl⟩ | exact ⟨rfl,rfl,trivial,rfl⟩ | exact ⟨⟨rfl,rfl,rfl,trivial⟩,trivial,rfl⟩
end Go.V
namespace Go.V
theorem MtOk.toR6 {p:Mt} (h:MtOk p) (h6:p.length≤6):MtR p 4802:=by
 refine ⟨h.n1,h.n2,h.sq,h.pos,fun r hr=>?_,h.one⟩;have hl:=h.sq r hr;have hP:∀m,m≤r.length→∃D:Nat,D≠0∧bl D≤m*800+1∧∀i,i < m→Iz D (r.getD i 0):=by
  intro m;induction m with
  | zero=>intro _;exact ⟨1,by decide,by rw [bl_one];omega,fun i hi=>by omega⟩
  | succ m ih =>
   intro hm;obtain ⟨D,d1,d2,d3⟩:=ih (by omega);have g1:=bl_den (r.getD m 0);have g2:=h.sz r hr _ (getD_mem (xs:=r) (i:=m) (d:=0) (by omega));have:=bl_mul D (r.getD m 0).den;refine ⟨D*(r.getD m 0).den,Nat.mul_ne_zero d1 (r.getD m 0).den_nz,by rw [Nat.succ_mul];omega,fun i hi=>?_⟩;by_cases e:i=m
   ·subst e;exact (Iz.den _).more' D
   ·exact (d3 i (by omega)).more _
 obtain ⟨D,d1,d2,d3⟩:=hP r.length (Nat.le_refl _);have h12:r.length*800≤6*800:=Nat.mul_le_mul_right _ (by omega);refine RowB.of_iz d1 (by omega) 1 (by rw [Nat.one_mul];omega) fun q hq=>?_;obtain ⟨i,hi,e⟩:=List.mem_iff_getElem.1 hq;have e2:r.getD i 0=q:=by rw [gD,List.getElem?_eq_getElem hi,←e];rfl
 have g1:=h.pos r hr q hq;have g2:q≤1:=by
  rw [←h.one r hr,←e2];exact sN_one_le (f:=(r.getD · 0)) hi fun k hk=>h.pos r hr _ (getD_mem hk)
 rw [one_cast];exact ⟨e2▸d3 i hi,by grind,g2⟩
theorem MtOk.rest_sz6 {p:Mt} (h:MtOk p) (h6:p.length≤6) {s:Nat} (hs:s < p.length) (hc:Cl p.length (ent p) s):∀q,q∈restQ p s→Go.V.sz q≤60000000:=fun q hq=>by
 have g:=(h.toR6 h6).rest hs hc;have g4:=g.2.2.2.sz hq;have hl:(clsS p s).length≤p.length:=by
  unfold clsS;have:=List.length_filter_le (rb p.length (ent p) s) (List.range p.length);rwa [List.length_range] at this
 have h1:tt 4802 ((clsS p s).length - 1)≤tt 4802 5:=tt_mono (by omega);have h2:tt 4802 5=153850:=by decide
 unfold uu at g4;omega
def setW (n:Nat) (u:List Rat) (b:Nat→Bool):Rat:=sN n fun i=>if b i=true then u.getD i 0 else 0
def outAt (n:Nat) (p:Mt) (u:List Rat) (b:Nat→Bool) (i:Nat):Rat:=sN n fun j=>if b j=true then 0 else u.getD i 0*ent p i j
def setO (n:Nat) (p:Mt) (u:List Rat) (b:Nat→Bool):Rat:=sN n fun i=>if b i=true then outAt n p u b i else 0
end Go.V
namespace Go.V
open Go.Proofs Go.RowKit
set_option maxRecDepth 10000
set_option maxHeartbeats 2000000
theorem setW_sz {n:Nat} {u:List Rat} {b:Nat→Bool} (hn:n≤6) (hu:∀q,q∈u→sz q≤60000000) (k:Nat) (hk:k≤n):sz (sN k fun i=>if b i=true then u.getD i 0 else 0)≤400000000:=by
 have h:=sz_sN (m:=60000000) (n:=n) (f:=fun i=>if b i=true then u.getD i 0 else 0) (fun i _=>by
  show sz (if b i=true then u.getD i 0 else 0)≤_
  split
  ·exact getD_sz hu i (by decide)
  ·exact Nat.le_trans (by decide:sz (0:Rat)≤1) (by decide)) k hk
 have h2:k*(60000000+1)≤6*60000001:=Nat.mul_le_mul_right _ (by omega)
 omega
theorem outAt_sz {n:Nat} {p:Mt} {u:List Rat} {b:Nat→Bool} (hn:n≤6) (hu:∀q,q∈u→sz q≤60000000) {i:Nat} (hp:∀j,j < n→sz (ent p i j)≤800) (k:Nat) (hk:k≤n):sz (sN k fun j=>if b j=true then 0 else u.getD i 0*ent p i j)≤400000000:=by
 have h:=sz_sN (m:=60000800) (n:=n) (f:=fun j=>if b j=true then 0 else u.getD i 0*ent p i j) (fun j hj=>by
  show sz (if b j=true then 0 else u.getD i 0*ent p i j)≤_
  split
  ·exact Nat.le_trans (by decide:sz (0:Rat)≤1) (by decide)
  ·have h1:=getD_sz hu i (by decide)
   have h2:=hp j hj
   have h3:=sz_mul (u.getD i 0) (ent p i j)
   omega) k hk
 have h2:k*(60000800+1)≤6*60000801:=Nat.mul_le_mul_right _ (by omega)
 omega
theorem setO_sz {n:Nat} {p:Mt} {u:List Rat} {b:Nat→Bool} (hn:n≤6) (hu:∀q,q∈u→sz q≤60000000) (hp:∀i j,i < n→j < n→sz (ent p i j)≤800) (k:Nat) (hk:k≤n):sz (sN k fun i=>if b i=true then outAt n p u b i else 0)≤3000000000:=by
 have h:=sz_sN (m:=400000000) (n:=n) (f:=fun i=>if b i=true then outAt n p u b i else 0) (fun i hi=>by
  show sz (if b i=true then outAt n p u b i else 0)≤_
  split
  ·exact outAt_sz hn hu (fun j hj=>hp i j hi hj) n (Nat.le_refl _)
  ·exact Nat.le_trans (by decide:sz (0:Rat)≤1) (by decide)) k hk
 have h2:k*(400000000+1)≤6*400000001:=Nat.mul_le_mul_right _ (by omega)
 omega
theorem fn_narrow (p:Mt) (u:List Rat) (bs:List Bool) (hp:MtOk p) (h6:p.length≤6) (hul:u.length=p.length) (hbl:bs.length=p.length) (hu:∀q,q∈u→sz q≤60000000) :
  Fn Tryz.prog 123 [lM p,lQ u,lBo bs] [] (.tup [rI (setW p.length u (bs.getD · false)),rI (setO p.length p u (bs.getD · false))]) []:=by
 have hz:((cM p).length:Int)=p.length:=by rw [cM_len]
 have hps:∀i j,i < p.length→j < p.length→sz (ent p i j)≤800:=fun i j hi hj=>hp.ent_sz hi hj;have hrl:∀i,i < p.length→(p.getD i []).length=p.length:=fun i hi=>hp.sq _ (getD_mem hi);obtain ⟨b,eb⟩:∃b:Nat→Bool,(bs.getD · false)=b:=⟨_,rfl⟩;have hb:∀i,bs.getD i false=b i:=fun i=>by rw [←eb]
 rw [eb];have zW:=setW_sz (b:=b) h6 hu;have zA:=fun i (hi:i < p.length)=>outAt_sz (b:=b) (p:=p) h6 hu (i:=i) (fun j hj=>hps i j hi hj);have zO:=setO_sz (b:=b) (p:=p) h6 hu hps;unfold setW setO;obtain ⟨W,eW⟩:∃W:Nat→Rat,(fun k=>sN k fun i=>if b i=true then u.getD i 0 else 0)=W:=⟨_,rfl⟩;obtain ⟨O,eO⟩:∃O:Nat→Rat,(fun k=>sN k fun i=>if b i=true then outAt p.length p u b i else 0)=O:=⟨_,rfl⟩;obtain ⟨A,eA⟩:∃A:Nat→Nat→Rat,(fun i k=>sN k fun j=>if b j=true then 0 else u.getD i 0*ent p i j)=A:=⟨_,rfl⟩;have hW:∀k,k≤p.length→sz (W k)≤400000000:=fun k hk=>by rw [←eW];exact zW k hk
 have hO:∀k,k≤p.length→sz (O k)≤3000000000:=fun k hk=>by rw [←eO];exact zO k hk
 have hA:∀i k,i < p.length→k≤p.length→sz (A i k)≤400000000:=fun i k hi hk=>by rw [←eA];exact zA i hi k hk
 have sW:∀i,W (i+1)=W i+if b i=true then u.getD i 0 else 0:=fun i=>by rw [←eW];rfl
 have sO:∀i,O (i+1)=O i+if b i=true then A i p.length else 0:=fun i=>by rw [←eO,←eA];rfl
 have sA:∀i j,A i (j+1)=A i j+if b j=true then 0 else u.getD i 0*ent p i j:=fun i j=>by rw [←eA];rfl
 have A0:∀i,O i=O i+A i 0:=fun i=>by rw [←eA];show _=O i+0;rw [Rat.add_zero]
 have W0:((0:Int):Rat)=W 0:=by rw [←eW];rfl
 have O0:((0:Int):Rat)=O 0:=by rw [←eO];rfl
 rw [show (sN p.length fun i=>if b i=true then u.getD i 0 else 0)=W p.length by rw [←eW],show (sN p.length fun i=>if b i=true then outAt p.length p u b i else 0)=O p.length by rw [←eO]];clear zW zA zO eW eO eA eb;have k1:=fn_whole 0 (by decide) (by decide);have k2:=k1;rw [W0] at k1;rw [O0] at k2;have hen:∀i j,(p.getD i []).getD j 0=ent p i j:=fun i j=>rfl;obtain ⟨n,en⟩:∃n,p.length=n:=⟨_,rfl⟩;rw [en] at hz hps hrl hW hO hA sO h6 hul hbl ⊢;refine Fn.intro (ks:=[0,1,2,6,7,8,9,10,11,12,16,17,18,24,34,35,36,37,45]) hty rfl rfl rfl rfl rfl ?_;conv=>whnf
 refine VCall.of_data k1 (ndA fun k=>rfl) ?_;conv=>whnf
 refine VCall.of_data k2 (ndA fun k=>rfl) ?_;conv=>whnf
 rw [hz];refine VLoop.inv hty (S:=Nat) (fun i=>[(17,I i),(16,I n),(9,.lp 9 0),(8,.lp 8 0),(7,.lp 7 0),(6,.lp 6 0),(2,lBo bs),(1,lQ u),(0,lM p)])
  (fun i=>[(9,.box true [B (ng (O i)),nI (tp (O i)),nI (O i).den]),(8,.box true [B (ng (W i)),nI (tp (W i)),nI (W i).den]),(7,.box true [B false,.d (.s (.slice none 0 0)),.d (.s (.slice none 0 0))]),(6,.box true [B false,.d (.s (.slice none 0 0)),.d (.s (.slice none 0 0))])]) (fun i=>i≤n) (fun i=>n - i) 0 (Nat.zero_le _)
  ⟨rfl,rfl,rfl,rfl,rfl,rfl,rfl,rfl,rfl,trivial⟩ ⟨rfl,rfl,rfl,rfl,trivial⟩ ?_
 intro i hi;conv=>whnf
 refine Br.mk (fun h2=>?_) (fun h2=>?_)
 ·have h2:i < n:=by simp only [decide_eq_true_eq] at h2;omega
  have hbi:=hb i;have swi:=sW i;have soi:=sO i;have zw:=hW i (by omega);have zo:=hO i (by omega);have a0:=A0 i;have zai:=hA i n h2 (Nat.le_refl _);have zui:=getD_sz hu i (by decide);have hro:=hrl i h2;have heni:=hen i;have sAi:=sA i;have zAi:=fun k=>hA i k h2;obtain ⟨x,ex⟩:∃x,u.getD i 0=x:=⟨_,rfl⟩;rw [ex] at swi zui sAi;obtain ⟨ro,ero⟩:∃ro,p.getD i []=ro:=⟨_,rfl⟩;rw [ero] at hro heni;obtain ⟨c,ec⟩:∃c,b i=c:=⟨_,rfl⟩;rw [ec] at hbi swi soi;conv=>whnf
  refine ⟨⟨⟨by omega,by rw [cBo_len];omega⟩,cBo_sz _⟩,?_⟩;conv=>whnf
  refine ⟨_,cBo_as (x:=c) (by omega) hbi,?_⟩;conv=>whnf
  cases c with
  | false =>
   rw [if_neg (by decide),Rat.add_zero] at swi soi;rw [←swi,←soi];conv=>whnf
   refine Wr.i64 (y:=((i+1:Nat):Int)) rfl (by omega) (by omega) ?_;conv=>whnf
   exact ⟨i+1,h2,by show n - (i+1) < n - i;omega,⟨rfl,rfl,rfl,rfl,rfl,rfl,rfl,rfl,rfl,trivial⟩,rfl,rfl,rfl,rfl,trivial⟩
  | true =>
   rw [if_pos rfl] at swi soi;have k3:=fn_radd (W i) x (by omega);rw [←swi] at k3;conv=>whnf
   refine VDraw.go hmo hty 6 [] rfl ?_;conv=>whnf
   refine ⟨⟨⟨by omega,by rw [cQ_len];omega⟩,cQ_sz _⟩,?_⟩;conv=>whnf
   refine ⟨_,cQ_as (x:=x) (by omega) ex,?_⟩;conv=>whnf
   refine QCall.of_data k3 (ndA fun k=>rfl) ?_;conv=>whnf
   refine ⟨⟨⟨by omega,by rw [cM_len];omega⟩,cM_sz _⟩,?_⟩;conv=>whnf
   refine ⟨_,cM_as (x:=ro) (by omega) ero,?_⟩;conv=>whnf
   rw [cQ_len,hro];refine VLoop.inv hty (S:=Nat) (fun j=>[(36,I j),(35,I n),(34,lQ ro),(17,I i),(16,I n),(10,I i),(9,.lp 9 0),(8,.lp 8 0),(7,.lp 7 0),(6,.lp 6 0),(2,lBo bs),(1,lQ u),(0,lM p)])
    (fun j=>[(9,.box true [B (ng (O i+A i j)),nI (tp (O i+A i j)),nI (O i+A i j).den]),(8,.box true [B (ng (W (i+1))),nI (tp (W (i+1))),nI (W (i+1)).den]),(7,.box true [B false,.d (.s (.slice none 0 0)),.d (.s (.slice none 0 0))]),(6,.box true [B false,.d (.s (.slice none 0 0)),.d (.s (.slice none 0 0))])]) (fun j=>j≤n) (fun j=>n - j) 0 (Nat.zero_le _)
    ⟨rfl,rfl,rfl,rfl,rfl,rfl,rfl,rfl,rfl,rfl,rfl,rfl,rfl,trivial⟩ ⟨by rw [←a0];rfl,rfl,rfl,rfl,trivial⟩ ?_
   intro j hj;conv=>whnf
   refine Br.mk (fun h4=>?_) (fun h4=>?_)
   ·have h4:j < n:=by simp only [decide_eq_true_eq] at h4;omega
    have hbj:=hb j;have saj:=sAi j;have zaj:=zAi j (by omega);have zpj:=hps i j h2 h4;have hej:=heni j;obtain ⟨e,ee⟩:∃e,ent p i j=e:=⟨_,rfl⟩;rw [ee] at saj zpj hej;obtain ⟨c,ec⟩:∃c,b j=c:=⟨_,rfl⟩;rw [ec] at hbj saj;have zs:=sz_add (O i) (A i j);have zm:=sz_mul x e;have k4:=fn_rmul x e (by omega) (by omega);have k5:=fn_radd (O i+A i j) (x*e) (by omega);conv=>whnf
    refine ⟨⟨⟨by omega,by rw [cQ_len];omega⟩,cQ_sz _⟩,?_⟩;conv=>whnf
    refine ⟨_,cQ_as (x:=e) (by omega) hej,?_⟩;conv=>whnf
    refine ⟨⟨⟨by omega,by rw [cBo_len];omega⟩,cBo_sz _⟩,?_⟩;conv=>whnf
    refine ⟨_,cBo_as (x:=c) (by omega) hbj,?_⟩;conv=>whnf
    cases c with
    | true =>
     rw [if_pos rfl,Rat.add_zero] at saj;rw [←saj];conv=>whnf
     refine Wr.i64 (y:=((j+1:Nat):Int)) rfl (by omega) (by omega) ?_;conv=>whnf
     exact ⟨j+1,h4,by show n - (j+1) < n - j;omega,⟨rfl,rfl,rfl,rfl,rfl,rfl,rfl,rfl,rfl,rfl,rfl,rfl,rfl,trivial⟩,rfl,rfl,rfl,rfl,trivial⟩
    | false =>
     rw [if_neg (by decide)] at saj;rw [show O i+A i j+x*e=O i+A i (j+1) by rw [saj,Rat.add_assoc]] at k5;conv=>whnf
     refine VDraw.go hmo hty 8 [] rfl ?_;conv=>whnf
     refine ⟨⟨⟨by omega,by rw [cQ_len];omega⟩,cQ_sz _⟩,?_⟩;conv=>whnf
     refine ⟨_,cQ_as (x:=x) (by omega) ex,?_⟩;conv=>whnf
     refine QCall.of_data k4 (ndA fun k=>rfl) ?_;conv=>whnf
     refine QCall.of_data k5 (ndA fun k=>rfl) ?_;conv=>whnf
     refine Wr.i64 (y:=((j+1:Nat):Int)) rfl (by omega) (by omega) ?_;conv=>whnf
     exact ⟨j+1,h4,by show n - (j+1) < n - j;omega,⟨rfl,rfl,rfl,rfl,rfl,rfl,rfl,rfl,rfl,rfl,rfl,rfl,rfl,trivial⟩,rfl,rfl,rfl,rfl,trivial⟩
   ·have h4:j=n:=by simp only [decide_eq_false_iff_not] at h4;omega
    rw [h4,←soi];conv=>whnf
    refine Wr.i64 (y:=((i+1:Nat):Int)) rfl (by omega) (by omega) ?_;conv=>whnf
    exact ⟨i+1,h2,by show n - (i+1) < n - i;omega,⟨rfl,rfl,rfl,rfl,rfl,rfl,rfl,rfl,rfl,trivial⟩,rfl,rfl,rfl,rfl,trivial⟩
 ·have h2:i=n:=by simp only [decide_eq_false_iff_not] at h2;omega
  rw [h2];conv=>whnf
  obtain ⟨wn,ewn⟩:∃x,W n=x:=⟨_,rfl⟩;obtain ⟨on,eon⟩:∃x,O n=x:=⟨_,rfl⟩;rw [ewn,eon];refine VDraw.goS hmo hty [] rfl ?_;conv=>whnf
  repeat' (first
   | exact ⟨rfl,rfl,rfl,rfl,rfl,rfl,trivial,rfl⟩
   | exact ⟨rfl,rfl,rfl,trivial,rfl⟩
   | (refine And.intro ?_ ?_ <;> conv=>whnf))
end Go.V
namespace Go.V
open Go.Proofs Go.RowKit
set_option maxRecDepth 10000
set_option maxHeartbeats 2000000
theorem fn_sOut (p:Mt) (u:List Rat) (b:Nat→Bool) (S:List Nat) (hp:MtOk p) (h6:p.length≤6) (hul:u.length=p.length) (hS:∀i,b i=true↔i∈S) (hSl:S.length≤1000000) (hu:∀q,q∈u→sz q≤60000000) :
  Fn Tryz.prog 113 [mP p,lS u,lNs S] [] (.tup [rS (setW p.length u b),rS (setO p.length p u b)]) []:=by
 have hz:((cS u).length:Int)=p.length:=by rw [cS_len,hul]
 have hps:∀i j,i < p.length→j < p.length→sz (ent p i j)≤800:=fun i j hi hj=>hp.ent_sz hi hj;have hrl:∀i,i < p.length→(p.getD i []).length=p.length:=fun i hi=>hp.sq _ (getD_mem hi);have zW:=setW_sz (b:=b) h6 hu;have zA:=fun i (hi:i < p.length)=>outAt_sz (b:=b) (p:=p) h6 hu (i:=i) (fun j hj=>hps i j hi hj);have zO:=setO_sz (b:=b) (p:=p) h6 hu hps;unfold setW setO;obtain ⟨W,eW⟩:∃W:Nat→Rat,(fun k=>sN k fun i=>if b i=true then u.getD i 0 else 0)=W:=⟨_,rfl⟩;obtain ⟨O,eO⟩:∃O:Nat→Rat,(fun k=>sN k fun i=>if b i=true then outAt p.length p u b i else 0)=O:=⟨_,rfl⟩;obtain ⟨A,eA⟩:∃A:Nat→Nat→Rat,(fun i k=>sN k fun j=>if b j=true then 0 else u.getD i 0*ent p i j)=A:=⟨_,rfl⟩;have hW:∀k,k≤p.length→sz (W k)≤400000000:=fun k hk=>by rw [←eW];exact zW k hk
 have hO:∀k,k≤p.length→sz (O k)≤3000000000:=fun k hk=>by rw [←eO];exact zO k hk
 have hA:∀i k,i < p.length→k≤p.length→sz (A i k)≤400000000:=fun i k hi hk=>by rw [←eA];exact zA i hi k hk
 have sW:∀i,W (i+1)=W i+if b i=true then u.getD i 0 else 0:=fun i=>by rw [←eW];rfl
 have sO:∀i,O (i+1)=O i+if b i=true then A i p.length else 0:=fun i=>by rw [←eO,←eA];rfl
 have sA:∀i j,A i (j+1)=A i j+if b j=true then 0 else u.getD i 0*ent p i j:=fun i j=>by rw [←eA];rfl
 have A0:∀i,O i=O i+A i 0:=fun i=>by rw [←eA];show _=O i+0;rw [Rat.add_zero]
 have W0:(0:Rat)=W 0:=by rw [←eW];rfl
 have O0:(0:Rat)=O 0:=by rw [←eO];rfl
 rw [show (sN p.length fun i=>if b i=true then u.getD i 0 else 0)=W p.length by rw [←eW],show (sN p.length fun i=>if b i=true then outAt p.length p u b i else 0)=O p.length by rw [←eO]];clear zW zA zO eW eO eA;have k1:=fn_sNone;have k2:=k1;rw [W0] at k1;rw [O0] at k2;have hen:∀i j,(p.getD i []).getD j 0=ent p i j:=fun i j=>rfl;obtain ⟨n,en⟩:∃n,p.length=n:=⟨_,rfl⟩;have hpn:=en;rw [en] at hz hps hrl hW hO hA sO h6 hul ⊢;refine Fn.intro (ks:=[0,1,2,6,7,8,9,10,11,17,23,33,39]) hty rfl rfl rfl rfl rfl ?_;conv=>whnf
 refine VCall.of_data k1 (ndA fun k=>rfl) ?_;conv=>whnf
 refine VCall.of_data k2 (ndA fun k=>rfl) ?_;conv=>whnf
 refine VLoop.inv hty (S:=Nat) (fun i=>[(10,I i),(9,.lp 9 0),(8,.lp 8 0),(7,.lp 7 0),(6,.lp 6 0),(2,lNs S),(1,lS u),(0,mP p)])
  (fun i=>[(9,.box true [B (ng (O i)),nS (tp (O i)),nS (O i).den]),(8,.box true [B (ng (W i)),nS (tp (W i)),nS (W i).den]),(7,.box true [B false,.d (.s (.slice none 0 0)),.d (.s (.slice none 0 0))]),(6,.box true [B false,.d (.s (.slice none 0 0)),.d (.s (.slice none 0 0))])]) (fun i=>i≤n) (fun i=>n - i) 0 (Nat.zero_le _)
  ⟨rfl,rfl,rfl,rfl,rfl,rfl,rfl,rfl,trivial⟩ ⟨rfl,rfl,rfl,rfl,trivial⟩ ?_
 intro i hi;conv=>whnf
 rw [hz];refine Br.mk (fun h2=>?_) (fun h2=>?_)
 ·have h2:i < n:=by simp only [decide_eq_true_eq] at h2;omega
  have ch:=fn_sHas S i (b i) (hS i) hSl;have swi:=sW i;have soi:=sO i;have zw:=hW i (by omega);have zo:=hO i (by omega);have a0:=A0 i;have zui:=getD_sz hu i (by decide);have hro:=hrl i h2;have heni:=hen i;have sAi:=sA i;have zAi:=fun k=>hA i k h2;obtain ⟨x,ex⟩:∃x,u.getD i 0=x:=⟨_,rfl⟩;rw [ex] at swi zui sAi;obtain ⟨ro,ero⟩:∃ro,p.getD i []=ro:=⟨_,rfl⟩;rw [ero] at hro heni;obtain ⟨c,ec⟩:∃c,b i=c:=⟨_,rfl⟩;rw [ec] at ch swi soi;conv=>whnf
  refine VCall.of_data ch (nd _) ?_;conv=>whnf
  cases c with
  | false =>
   rw [if_neg (by decide),Rat.add_zero] at swi soi;rw [←swi,←soi];conv=>whnf
   refine Wr.i64 (y:=((i+1:Nat):Int)) rfl (by omega) (by omega) ?_;conv=>whnf
   exact ⟨i+1,h2,by show n - (i+1) < n - i;omega,⟨rfl,rfl,rfl,rfl,rfl,rfl,rfl,rfl,trivial⟩,rfl,rfl,rfl,rfl,trivial⟩
  | true =>
   rw [if_pos rfl] at swi soi;have k3:=fn_sSum (W i) x (by omega);rw [←swi] at k3;conv=>whnf
   refine VDraw.go hmo hty 6 [] rfl ?_;conv=>whnf
   refine ⟨⟨⟨by omega,by rw [cS_len];omega⟩,cS_sz _⟩,?_⟩;conv=>whnf
   refine ⟨_,cS_as (x:=x) (by omega) ex,?_⟩;conv=>whnf
   refine QCall.of_data k3 (ndA fun k=>rfl) ?_;conv=>whnf
   refine VLoop.inv hty (S:=Nat) (fun j=>[(11,I j),(10,I i),(9,.lp 9 0),(8,.lp 8 0),(7,.lp 7 0),(6,.lp 6 0),(2,lNs S),(1,lS u),(0,mP p)])
    (fun j=>[(9,.box true [B (ng (O i+A i j)),nS (tp (O i+A i j)),nS (O i+A i j).den]),(8,.box true [B (ng (W (i+1))),nS (tp (W (i+1))),nS (W (i+1)).den]),(7,.box true [B false,.d (.s (.slice none 0 0)),.d (.s (.slice none 0 0))]),(6,.box true [B false,.d (.s (.slice none 0 0)),.d (.s (.slice none 0 0))])]) (fun j=>j≤n) (fun j=>n - j) 0 (Nat.zero_le _)
    ⟨rfl,rfl,rfl,rfl,rfl,rfl,rfl,rfl,rfl,trivial⟩ ⟨by rw [←a0];rfl,rfl,rfl,rfl,trivial⟩ ?_
   intro j hj;conv=>whnf
   rw [hz];refine Br.mk (fun h4=>?_) (fun h4=>?_)
   ·have h4:j < n:=by simp only [decide_eq_true_eq] at h4;omega
    have cj:=fn_sHas S j (b j) (hS j) hSl;have saj:=sAi j;have zaj:=zAi j (by omega);have zpj:=hps i j h2 h4;have hej:=heni j;obtain ⟨e,ee⟩:∃e,ent p i j=e:=⟨_,rfl⟩;rw [ee] at saj zpj hej;obtain ⟨c,ec⟩:∃c,b j=c:=⟨_,rfl⟩;rw [ec] at cj saj;have zs:=sz_add (O i) (A i j);have zm:=sz_mul x e;have k4:=fn_sTimes x e (by omega);have k5:=fn_sSum (O i+A i j) (x*e) (by omega);conv=>whnf
    refine VCall.of_data cj (nd _) ?_;conv=>whnf
    cases c with
    | true =>
     rw [if_pos rfl,Rat.add_zero] at saj;rw [←saj];conv=>whnf
     refine Wr.i64 (y:=((j+1:Nat):Int)) rfl (by omega) (by omega) ?_;conv=>whnf
     exact ⟨j+1,h4,by show n - (j+1) < n - j;omega,⟨rfl,rfl,rfl,rfl,rfl,rfl,rfl,rfl,rfl,trivial⟩,rfl,rfl,rfl,rfl,trivial⟩
    | false =>
     rw [if_neg (by decide)] at saj;rw [show O i+A i j+x*e=O i+A i (j+1) by rw [saj,Rat.add_assoc]] at k5;conv=>whnf
     refine VDraw.go hmo hty 17 [] rfl ?_;conv=>whnf
     refine ⟨⟨⟨by omega,by rw [cS_len];omega⟩,cS_sz _⟩,?_⟩;conv=>whnf
     refine ⟨_,cS_as (x:=x) (by omega) ex,?_⟩;conv=>whnf
     refine ⟨⟨⟨by omega,by rw [cMS_len];omega⟩,cMS_sz _⟩,?_⟩;conv=>whnf
     refine ⟨_,cMS_as (x:=ro) (by omega) ero,?_⟩;conv=>whnf
     refine ⟨⟨⟨by omega,by rw [cS_len];omega⟩,cS_sz _⟩,?_⟩;conv=>whnf
     refine ⟨_,cS_as (x:=e) (by omega) hej,?_⟩;conv=>whnf
     refine QCall.of_data k4 (ndA fun k=>rfl) ?_;conv=>whnf
     refine QCall.of_data k5 (ndA fun k=>rfl) ?_;conv=>whnf
     refine Wr.i64 (y:=((j+1:Nat):Int)) rfl (by omega) (by omega) ?_;conv=>whnf
     exact ⟨j+1,h4,by show n - (j+1) < n - j;omega,⟨rfl,rfl,rfl,rfl,rfl,rfl,rfl,rfl,rfl,trivial⟩,rfl,rfl,rfl,rfl,trivial⟩
   ·have h4:j=n:=by simp only [decide_eq_false_iff_not] at h4;omega
    rw [h4,←soi];conv=>whnf
    refine Wr.i64 (y:=((i+1:Nat):Int)) rfl (by omega) (by omega) ?_;conv=>whnf
    exact ⟨i+1,h2,by show n - (i+1) < n - i;omega,⟨rfl,rfl,rfl,rfl,rfl,rfl,rfl,rfl,trivial⟩,rfl,rfl,rfl,rfl,trivial⟩
 ·have h2:i=n:=by simp only [decide_eq_false_iff_not] at h2;omega
  rw [h2];conv=>whnf
  obtain ⟨wn,ewn⟩:∃x,W n=x:=⟨_,rfl⟩;obtain ⟨on,eon⟩:∃x,O n=x:=⟨_,rfl⟩;rw [ewn,eon];refine VDraw.goS hmo hty [] rfl ?_;conv=>whnf
  repeat' (first
   | exact ⟨rfl,rfl,rfl,rfl,rfl,rfl,trivial,rfl⟩
   | exact ⟨rfl,rfl,rfl,trivial,rfl⟩
   | (refine And.intro ?_ ?_ <;> conv=>whnf))
end Go.V
