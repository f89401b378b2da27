/- Part 8: the abstract machine, its soundness, contracts of functions. -/
import Derived.Test.YtkfbophilecjgaaGreatDoorK7
import Derived.Test.YtkfbophilecjgaaGreatDoorK4
import Derived.Test.YtkfbophilecjgaaGreatDoorK6
set_option linter.unusedVariables false
set_option linter.unusedSimpArgs false
namespace Go.V
def redRow (k u:Nat) (out:Rat) (b a:List Rat):List Rat:=(List.range a.length).map fun j=>if j < u then a.getD j 0+a.getD k 0 / out*b.getD j 0 else if j=k then a.getD k 0 / out else a.getD j 0
theorem redRow_len (k u:Nat) (out:Rat) (b a:List Rat):(redRow k u out b a).length=a.length:=by simp [redRow]
theorem redRow_at {k u:Nat} {out:Rat} {b a:List Rat} {j:Nat} (h:j < a.length):(redRow k u out b a).getD j 0=if j < u then a.getD j 0+a.getD k 0 / out*b.getD j 0 else if j=k then a.getD k 0 / out else a.getD j 0:=by
 rw [gD,List.getElem?_eq_getElem (by rw [redRow_len];exact h)];simp [redRow]
def outL (b:List Rat) (k:Nat):Rat:=sN k fun j=>b.getD j 0
def redLU (k u:Nat) (R:Mt):Mt:=(List.range R.length).map fun i=>if i < u then redRow k k (outL (R.getD k []) k) (R.getD k []) (R.getD i []) else R.getD i []
theorem redLU_len (k u:Nat) (R:Mt):(redLU k u R).length=R.length:=by simp [redLU]
theorem redLU_at {k u:Nat} {R:Mt} {i:Nat} (h:i < R.length):(redLU k u R).getD i []=if i < u then redRow k k (outL (R.getD k []) k) (R.getD k []) (R.getD i []) else R.getD i []:=by
 rw [gD,List.getElem?_eq_getElem (by rw [redLU_len];exact h)];simp [redLU]
def Sq (n:Nat) (R:Mt):Prop:=R.length=n∧∀i,i < n→(R.getD i []).length=n
theorem Sq.red {n k u:Nat} {R:Mt} (h:Sq n R):Sq n (redLU k u R):=⟨by rw [redLU_len,h.1],fun i hi=>by
 rw [redLU_at (by rw [h.1];exact hi)]
 split
 ·rw [redRow_len];exact h.2 i hi
 ·exact h.2 i hi⟩
def gthL:Nat→Mt→Mt
 | 0,R=>R
 | k+1,R=>gthL k (redLU (k+1) (k+1) R)
theorem redL_ent {n k:Nat} {R:Mt} (h:Sq n R) (hk:k < n) {i j:Nat} (hi:i < n) (hj:j < n):ent (redLU k k R) i j=redM (ent R) k i j:=by
 unfold ent
 rw [redLU_at (by rw [h.1];exact hi)]
 unfold redM
 by_cases e:i < k
 ·rw [if_pos e,redRow_at (by rw [h.2 i hi];exact hj)]
  by_cases e2:j < k
  ·rw [if_pos e2,if_pos ⟨e,e2⟩];rfl
  ·rw [if_neg e2,if_neg (show ¬(i < k∧j < k) by omega)]
   by_cases e3:j=k
   ·rw [if_pos e3,if_pos ⟨e,e3⟩];rfl
   ·rw [if_neg e3,if_neg (show ¬(i < k∧j=k) by omega)]
 ·rw [if_neg e,if_neg (by omega),if_neg (by omega)]
theorem redM_congr {n k:Nat} {A B:Fm} (hk:k < n) (h:∀i j,i < n→j < n→A i j=B i j) {i j:Nat} (hi:i < n) (hj:j < n):redM A k i j=redM B k i j:=by
 have ho:outM A k=outM B k:=sN_congr fun j hj=>h k j hk (by omega)
 unfold redM
 rw [ho,h i j hi hj,h i k hi hk,h k j hk hj]
theorem gthM_congr {n:Nat}:∀{k:Nat} {A B:Fm},k < n→(∀i j,i < n→j < n→A i j=B i j)→∀i j,i < n→j < n→gthM k A i j=gthM k B i j
 | 0,_,_,_,h,i,j,hi,hj=>h i j hi hj
 | k+1,_,_,hk,h,i,j,hi,hj=>gthM_congr (k:=k) (by omega) (fun i j hi hj=>redM_congr hk h hi hj) i j hi hj
theorem gthL_ent {n:Nat}:∀{k:Nat} {R:Mt},Sq n R→k < n→∀i j,i < n→j < n→ent (gthL k R) i j=gthM k (ent R) i j
 | 0,_,_,_,i,j,hi,hj=>rfl
 | k+1,R,h,hk,i,j,hi,hj=>by
  show ent (gthL k (redLU (k+1) (k+1) R)) i j=gthM k (redM (ent R) (k+1)) i j
  rw [gthL_ent (k:=k) h.red (by omega) i j hi hj]
  exact gthM_congr (n:=n) (by omega) (fun i j hi hj=>redL_ent h hk hi hj) i j hi hj
theorem wL_congr {n:Nat} {A B:Fm} (h:∀i j,i < n→j < n→A i j=B i j):∀k,k < n→wL A k=wL B k
 | 0,_=>rfl
 | k+1,hk=>by
  unfold wL
  rw [wL_congr h k (by omega)]
  congr 2
  exact sN_congr fun i hi=>by rw [h i (k+1) (by omega) hk]
theorem sum_nat {n t:Nat} {z:Nat→Int} (hn:n≤12) (h:∀i,i < n→bl (z i).natAbs < t) (ht:1≤t):∃Z:Int,(sN n fun i=>(z i:Rat))=(Z:Rat)∧bl Z.natAbs < t+4:=by
 have:∀m,m≤n→∃Z:Int,(sN m fun i=>(z i:Rat))=(Z:Rat)∧Z.natAbs≤m*(2 ^ (t - 1)):=by
  intro m
  induction m with
  | zero=>intro _;exact ⟨0,rfl,by simp⟩
  | succ m ih =>
   intro hm
   obtain ⟨Z,h1,h2⟩:=ih (by omega)
   refine ⟨Z+z m,?_,?_⟩
   ·show (sN m fun i=>(z i:Rat))+(z m:Rat)=_
    rw [h1,Rat.intCast_add]
   ·have h3:=lt_bl (z m).natAbs
    have h4:=h m (by omega)
    have h5:2 ^ bl (z m).natAbs≤2 ^ (t - 1):=Nat.pow_le_pow_right (by decide) (by omega)
    have h6:=Int.natAbs_add_le Z (z m)
    rw [Nat.succ_mul]
    omega
 obtain ⟨Z,h1,h2⟩:=this n (Nat.le_refl _)
 refine ⟨Z,h1,?_⟩
 have h3:n*2 ^ (t - 1)≤12*2 ^ (t - 1):=Nat.mul_le_mul_right _ hn
 have h4:bl Z.natAbs≤t+3:=bl_le (by
  have h5:2 ^ (t+3)=16*2 ^ (t - 1):=by
   rw [show t+3=4+(t - 1) by omega,Nat.pow_add]
  have h6:=Nat.two_pow_pos (t - 1)
  omega)
 omega
theorem RowB.fn {t:Nat} {r:List Rat} (h:RowB t r):∃E:Nat,E≠0∧bl E < t∧∃z:Nat→Int,∀j,j < r.length→r.getD j 0*((E:Int):Rat)=(z j:Rat)∧bl (z j).natAbs < t:=by
 obtain ⟨E,h1,h2,h3⟩:=h
 have h4:∀j,∃z:Int,j < r.length→r.getD j 0*((E:Int):Rat)=(z:Rat)∧bl z.natAbs < t:=fun j=>by
  by_cases hj:j < r.length
  ·obtain ⟨z,h4,h5⟩:=h3 _ (getD_mem (d:=0) hj)
   exact ⟨z,fun _=>⟨h4,h5⟩⟩
  ·exact ⟨0,fun h=>absurd h hj⟩
 exact ⟨E,h1,h2,fun j=>(h4 j).choose,fun j hj=>(h4 j).choose_spec hj⟩
theorem RowB.one {t:Nat} {r:List Rat} (h:RowB t r):1≤t:=by
 obtain ⟨E,_,h2,_⟩:=h;omega
theorem takeD_at {r:List Rat} {k j:Nat} (h:j < k):(r.take k).getD j 0=r.getD j 0:=by
 rw [gD,List.getElem?_take_of_lt h,gD]
theorem mem_take {r:List Rat} {k:Nat} {q:Rat} (h:q∈r.take k):∃j,j < k∧j < r.length∧q=r.getD j 0:=by
 obtain ⟨j,hj,e⟩:=List.mem_iff_getElem.1 h;have hj2:j < k∧j < r.length:=by simpa [List.length_take,Nat.lt_min] using hj
 refine ⟨j,hj2.1,hj2.2,?_⟩;rw [←e,List.getElem_take,gD,List.getElem?_eq_getElem hj2.2];rfl
theorem out_sz {t k:Nat} {b:List Rat} (hb:RowB t (b.take (k+1))) (hk:k < b.length) (h12:k≤12):∃F:Nat,F≠0∧bl F < t∧∃S:Int,outL b k*((F:Int):Rat)=(S:Rat)∧bl S.natAbs < t+4:=by
 obtain ⟨F,f1,f2,z,f3⟩:=hb.fn
 have hz:∀j,j < k→b.getD j 0*((F:Int):Rat)=(z j:Rat)∧bl (z j).natAbs < t:=fun j hj=>by
  have:=f3 j (by rw [List.length_take];omega)
  rwa [takeD_at (by omega)] at this
 obtain ⟨S,s1,s2⟩:=sum_nat (n:=k) (t:=t) (z:=z) h12 (fun j hj=>(hz j hj).2) hb.one
 refine ⟨F,f1,f2,S,?_,s2⟩
 rw [←s1]
 unfold outL
 rw [Rat.mul_comm,←sN_mul]
 exact sN_congr fun j hj=>by rw [←(hz j hj).1,Rat.mul_comm]
theorem out_sz2 {t k:Nat} {b:List Rat} (hb:RowB t (b.take (k+1))) (hk:k < b.length) (h12:k≤12):sz (outL b k) < t+4:=by
 obtain ⟨F,f1,f2,S,s1,s2⟩:=out_sz hb hk h12
 exact RowB.sz (r:=[outL b k]) ⟨F,f1,by omega,fun q hq=>⟨S,by rw [List.mem_singleton.1 hq];exact s1,s2⟩⟩ (by simp)
theorem red_row {t k:Nat} {a b:List Rat} (ha:RowB t (a.take (k+1))) (hb:RowB t (b.take (k+1))) (hak:k < a.length) (hbk:k < b.length) (h12:k≤12) (h0:outL b k≠0):RowB (2*t+6) ((redRow k k (outL b k) b a).take k):=by
 obtain ⟨F,f1,f2,y,f3⟩:=hb.fn;have hy:∀j,j < k+1→b.getD j 0*((F:Int):Rat)=(y j:Rat)∧bl (y j).natAbs < t:=fun j hj=>by
  have:=f3 j (by rw [List.length_take];omega);rwa [takeD_at hj] at this
 obtain ⟨E,e1,e2,x,e3⟩:=ha.fn;have hx:∀j,j < k+1→a.getD j 0*((E:Int):Rat)=(x j:Rat)∧bl (x j).natAbs < t:=fun j hj=>by
  have:=e3 j (by rw [List.length_take];omega);rwa [takeD_at hj] at this
 obtain ⟨S,s1,s2⟩:=sum_nat (n:=k) (t:=t) (z:=y) h12 (fun j hj=>(hy j (by omega)).2) hb.one;have hS:outL b k*((F:Int):Rat)=(S:Rat):=by
  rw [←s1];unfold outL;rw [Rat.mul_comm,←sN_mul];exact sN_congr fun j hj=>by rw [←(hy j (by omega)).1,Rat.mul_comm]
 obtain ⟨o,eo⟩:∃o,outL b k=o:=⟨_,rfl⟩;rw [eo] at hS h0 ⊢;have hF:((F:Int):Rat)≠0:=by exact_mod_cast (by omega:(F:Int)≠0)
 have hS0:S≠0:=fun e=>by
  rw [e] at hS;rcases Rat.mul_eq_zero.1 (show o*((F:Int):Rat)=0 from hS) with h | h
  ·exact h0 h
  ·exact hF h
 obtain ⟨s,hs,hs2⟩:∃s:Int,((S.natAbs:Nat):Int)=s*S∧s.natAbs=1:=by
  by_cases h:0≤S
  ·exact ⟨1,by omega,rfl⟩
  ·exact ⟨-1,by omega,rfl⟩
 have bE:=bl_mul E S.natAbs;have ht:=hb.one;refine ⟨E*S.natAbs,Nat.mul_ne_zero e1 (by omega),by omega,fun q hq=>?_⟩;obtain ⟨j,hj,hj2,rfl⟩:=mem_take hq;rw [redRow_len] at hj2;rw [redRow_at hj2,if_pos hj];obtain ⟨x1,x2⟩:=hx j (by omega);obtain ⟨y1,y2⟩:=hy j (by omega);obtain ⟨k1,k2⟩:=hx k (by omega);have eN:(((E*S.natAbs:Nat):Int):Rat)=((E:Int):Rat)*((s:Rat)*(S:Rat)):=by rw [Int.natCast_mul,Rat.intCast_mul,hs,Rat.intCast_mul]
 have hdiv:=Rat.div_mul_cancel (a:=a.getD k 0) h0;refine ⟨s*(x j*S+x k*y j),?_,?_⟩
 ·rw [eN,Rat.intCast_mul,Rat.intCast_add,Rat.intCast_mul,Rat.intCast_mul,←x1,←y1,←k1,←hS];grind
 ·have h1:(s*(x j*S+x k*y j)).natAbs≤(x j).natAbs*S.natAbs+(x k).natAbs*(y j).natAbs:=by
   rw [Int.natAbs_mul,hs2,Nat.one_mul];have h1:=Int.natAbs_add_le (x j*S) (x k*y j);rw [Int.natAbs_mul,Int.natAbs_mul] at h1;exact h1
  have h2:=bl_mono h1;have h3:=bl_add ((x j).natAbs*S.natAbs) ((x k).natAbs*(y j).natAbs);have h4:=bl_mul (x j).natAbs S.natAbs;have h5:=bl_mul (x k).natAbs (y j).natAbs;omega
def tt (t d:Nat):Nat:=2 ^ d*(t+6) - 6
theorem tt_next (t d:Nat):2*tt t d+6=tt t (d+1):=by
 unfold tt
 have h1:1*6≤2 ^ d*(t+6):=Nat.mul_le_mul (Nat.two_pow_pos d) (by omega)
 rw [Nat.pow_succ,Nat.mul_comm (2 ^ d) 2,Nat.mul_assoc]
 omega
theorem tt_zero (t:Nat):tt t 0=t:=by unfold tt;omega
theorem tt_mono {t d e:Nat} (h:d≤e):tt t d≤tt t e:=by
 have:2 ^ d*(t+6)≤2 ^ e*(t+6):=Nat.mul_le_mul_right _ (Nat.pow_le_pow_right (by decide) h)
 unfold tt;omega
structure GL (n t V:Nat) (R:Mt) (k:Nat):Prop where
 sq:Sq n R
 st:Sto (k+1) (ent R)
 cl:Cl (k+1) (ent R) 0
 row:∀i,i < k+1→RowB t ((R.getD i []).take (k+1))
 col:∀i c,i < c→k < c→c < n→sz (ent R i c)≤V
theorem GL.out0 {n t V k:Nat} {R:Mt} (h:GL n t V R (k+1)):outL (R.getD (k+1) []) (k+1)≠0:=Rat.ne_of_gt (h.cl.out h.st (by omega))
theorem Sto.congr {n:Nat} {A B:Fm} (h:∀i j,i < n→j < n→A i j=B i j) (hA:Sto n A):Sto n B :=
 ⟨fun i j hi hj=>by rw [←h i j hi hj];exact hA.pos i j hi hj,fun i hi=>by rw [←hA.one i hi];exact sN_congr fun j hj=>(h i j hi hj).symm⟩
theorem Cl.congr {n s:Nat} {A B:Fm} (h:∀i j,i < n→j < n→A i j=B i j) (hA:Cl n A s):Cl n B s :=
 fun T h1 h2=>hA T h1 fun i j hi hj h3 h4=>h2 i j hi hj h3 (by rw [←h i j hi hj];exact h4)
theorem GL.next {n t V k:Nat} {R:Mt} (h:GL n t V R (k+1)) (hk:k+1 < n) (hn:n≤12) (hV:2*t+4≤V):GL n (2*t+6) V (redLU (k+1) (k+1) R) k:=by
 have e:∀i j,i < k+1→j < k+1→redM (ent R) (k+1) i j=ent (redLU (k+1) (k+1) R) i j:=fun i j hi hj=>(redL_ent h.sq hk (by omega) (by omega)).symm
 refine ⟨h.sq.red,(h.st.red h.cl (by omega)).congr e,(h.cl.red h.st (by omega)).congr e,fun i hi=>?_,fun i c h1 h2 h3=>?_⟩
 ·rw [redLU_at (by rw [h.sq.1];omega),if_pos hi]
  exact red_row (h.row i (by omega)) (h.row (k+1) (by omega)) (by rw [h.sq.2 i (by omega)];exact hk) (by rw [h.sq.2 _ hk];exact hk) (by omega) h.out0
 ·rw [redL_ent h.sq hk (by omega) h3]
  unfold redM
  rw [if_neg (by omega)]
  by_cases e2:c=k+1
  ·subst e2
   rw [if_pos ⟨h1,rfl⟩]
   have z1:sz (ent R i (k+1)) < t:=by
    have:=(h.row i (by omega)).sz (q:=ent R i (k+1)) (by
     have:=getD_mem (xs:=(R.getD i []).take (k+1+1)) (i:=k+1) (d:=0) (by rw [List.length_take,h.sq.2 i (by omega)];omega)
     rwa [takeD_at (by omega)] at this)
    exact this
   have z2:=out_sz2 (h.row (k+1) (by omega)) (by rw [h.sq.2 _ hk];exact hk) (by omega)
   have z3:=sz_div (ent R i (k+1)) h.out0
   exact Nat.le_trans z3 (by omega)
  ·rw [if_neg (by omega)]
   exact h.col i c h1 (by omega) h3
theorem GL.all {n t V:Nat} (hn:n≤12):∀{k d:Nat} {R:Mt},GL n (tt t d) V R k→k < n→2*tt t (d+k)+4≤V→GL n (tt t (d+k)) V (gthL k R) 0
 | 0,_,_,h,_,_=>h
 | k+1,d,R,h,hk,hV=>by
  have h1:=h.next hk hn (by have:=tt_mono (t:=t) (d:=d) (e:=d+(k+1)) (by omega);omega)
  rw [tt_next] at h1
  have h2:=GL.all hn (k:=k) h1 (by omega) (by rw [show d+1+k=d+(k+1) by omega];exact hV)
  rw [show d+1+k=d+(k+1) by omega] at h2
  exact h2
theorem RowB.of_sz {V:Nat} {r:List Rat} (hn:r.length≤12) (h:∀q,q∈r→Go.V.sz q≤V):RowB (13*V+4) r:=by
 have h1:=dens_bl (m:=V) h;have h2:r.length*V≤12*V:=Nat.mul_le_mul_right _ hn;have h3:=bl_mul (2 ^ V) (dens r);have h4:bl (2 ^ V)≤V+1:=bl_le (Nat.pow_lt_pow_right (by decide) (by omega));refine RowB.of_iz (dens_pos r) (by omega) (2 ^ V) (by omega) fun q hq=>⟨(Iz.den q).of_dvd (dens_dvd hq),?_⟩;have b1:=Nat.le_trans (bl_tp q) (h q hq);have b2:=lt_bl (tp q);have b3:tp q≤2 ^ V:=by
  have:2 ^ bl (tp q)≤2 ^ V:=Nat.pow_le_pow_right (by decide) b1;omega
 have b4:((tp q:Int):Rat)≤((2 ^ V:Nat):Int):=by exact_mod_cast b3
 by_cases h0:0≤q
 ·have:=le_tp h0;exact ⟨by grind,by grind⟩
 ·have:=le_tp (q:=-q) (by grind);rw [(neg_parts q).2.1] at this;exact ⟨by grind,by grind⟩
theorem RowB.snoc {u v n:Nat} {w c:List Rat} (hw:RowB u w) (hc:RowB v c) (hn:n≤12) (h1:n≤w.length) (h2:n≤c.length):RowB (u+v+4) (w++[sN n fun i=>w.getD i 0*c.getD i 0]):=by
 obtain ⟨E,e1,e2,x,e3⟩:=hw.fn;obtain ⟨F,f1,f2,y,f3⟩:=hc.fn;have hv:=hc.one;have hu:=hw.one;obtain ⟨S,s1,s2⟩:=sum_nat (n:=n) (t:=u+v - 1) (z:=fun i=>x i*y i) hn (fun i hi=>by
  have h3:=(e3 i (by omega)).2;have h4:=(f3 i (by omega)).2;have h5:=bl_mul (x i).natAbs (y i).natAbs;rw [Int.natAbs_mul];omega) (by omega)
 have b:=bl_mul E F;have eN:(((E*F:Nat):Int):Rat)=((E:Int):Rat)*((F:Int):Rat):=by rw [Int.natCast_mul,Rat.intCast_mul]
 refine ⟨E*F,Nat.mul_ne_zero e1 f1,by omega,fun q hq=>?_⟩;rw [eN];rcases List.mem_append.1 hq with h | h
 ·obtain ⟨j,hj,e⟩:=List.mem_iff_getElem.1 h;obtain ⟨h3,h4⟩:=e3 j hj;rw [gD,List.getElem?_eq_getElem hj,e] at h3;have h3:q*((E:Int):Rat)=(x j:Rat):=h3;refine ⟨x j*(F:Int),?_,?_⟩
  ·rw [Rat.intCast_mul,←h3,Rat.mul_assoc]
  ·have:=bl_mul (x j).natAbs F;rw [Int.natAbs_mul,Int.natAbs_natCast];omega
 ·rw [List.mem_singleton.1 h];refine ⟨S,?_,by omega⟩;rw [←s1,Rat.mul_comm,←sN_mul];refine sN_congr fun i hi=>?_;rw [Rat.intCast_mul,←(e3 i (by omega)).1,←(f3 i (by omega)).1];grind
theorem wL_row {n V:Nat} {M:Fm} (hn:n≤12) (h:∀i c,i < c→c < n→sz (M i c)≤V):∀k,k < n→RowB (2+k*(13*V+8)) (wL M k)
 | 0,_=>by
  rw [Nat.zero_mul]
  exact ⟨1,by decide,by decide,fun q hq=>⟨1,by rw [List.mem_singleton.1 hq,Rat.one_mul];rfl,by decide⟩⟩
 | k+1,hk=>by
  have h1:=wL_row hn h k (by omega)
  have h2:RowB (13*V+4) ((List.range (k+1)).map fun i=>M i (k+1)):=RowB.of_sz (by simp;omega) fun q hq=>by
   obtain ⟨i,hi,rfl⟩:=List.mem_map.1 hq
   exact h i (k+1) (by simpa using hi) hk
  have h3:=h1.snoc (n:=k+1) h2 (by omega) (by rw [wL_len];omega) (by simp)
  have e:(sN (k+1) fun i=>(wL M k).getD i 0*((List.range (k+1)).map fun i=>M i (k+1)).getD i 0)=sN (k+1) fun i=>(wL M k).getD i 0*M i (k+1):=sN_congr fun i hi=>by
   congr 1
   rw [gD,List.getElem?_eq_getElem (by simpa using hi)];simp
  rw [e] at h3
  exact h3.mono (by rw [Nat.succ_mul k];omega)
theorem RowB.norm {u:Nat} {w:List Rat} (h:RowB u w) (hn:w.length≤12) (h0:(sN w.length fun i=>w.getD i 0)≠0):RowB (u+4) (w.map (· / sN w.length fun i=>w.getD i 0)):=by
 obtain ⟨E,e1,e2,x,e3⟩:=h.fn;have hu:=h.one;obtain ⟨S,s1,s2⟩:=sum_nat (n:=w.length) (t:=u) (z:=x) hn (fun i hi=>(e3 i hi).2) hu;obtain ⟨o,eo⟩:∃o,(sN w.length fun i=>w.getD i 0)=o:=⟨_,rfl⟩;have hS:o*((E:Int):Rat)=(S:Rat):=by
  rw [←s1,←eo,Rat.mul_comm,←sN_mul];exact sN_congr fun i hi=>by rw [←(e3 i hi).1,Rat.mul_comm]
 rw [eo] at h0 ⊢;have hE:((E:Int):Rat)≠0:=by exact_mod_cast (by omega:(E:Int)≠0)
 have hS0:S≠0:=fun e=>by
  rw [e] at hS;rcases Rat.mul_eq_zero.1 (show o*((E:Int):Rat)=0 from hS) with h | h
  ·exact h0 h
  ·exact hE h
 obtain ⟨s,hs,hs2⟩:∃s:Int,((S.natAbs:Nat):Int)=s*S∧s.natAbs=1:=by
  by_cases h:0≤S
  ·exact ⟨1,by omega,rfl⟩
  ·exact ⟨-1,by omega,rfl⟩
 refine ⟨S.natAbs,by omega,by omega,fun q hq=>?_⟩;obtain ⟨a,ha,rfl⟩:=List.mem_map.1 hq;obtain ⟨j,hj,e⟩:=List.mem_iff_getElem.1 ha;obtain ⟨h3,h4⟩:=e3 j hj;rw [gD,List.getElem?_eq_getElem hj,e] at h3;have h3:a*((E:Int):Rat)=(x j:Rat):=h3;refine ⟨s*x j,?_,by rw [Int.natAbs_mul,hs2,Nat.one_mul];omega⟩;rw [hs,Rat.intCast_mul,Rat.intCast_mul,←h3,←hS];have:=Rat.div_mul_cancel (a:=a) h0;grind
def wR (p:Mt):List Rat:=wL (ent (gthL (p.length - 1) p)) (p.length - 1)
def restU (p:Mt):List Rat:=(wR p).map (· / sN (wR p).length fun i=>(wR p).getD i 0)
structure MtR (p:Mt) (t:Nat):Prop where
 n1:1≤p.length
 n2:p.length≤12
 sq:∀r,r∈p→r.length=p.length
 pos:∀r,r∈p→∀q,q∈r→0≤q
 row:∀r,r∈p→RowB t r
 one:∀r,r∈p→sN r.length (r.getD · 0)=1
theorem MtR.toSq {p:Mt} {t:Nat} (h:MtR p t):Sq p.length p:=⟨rfl,fun i hi=>h.sq _ (getD_mem hi)⟩
theorem MtR.sto {p:Mt} {t:Nat} (h:MtR p t):Sto p.length (ent p) :=
 ⟨fun i j hi hj=>h.pos _ (getD_mem hi) _ (getD_mem (by rw [h.sq _ (getD_mem hi)];exact hj)),fun i hi=>by
  have:=h.one _ (getD_mem (d:=[]) hi)
  rwa [h.sq _ (getD_mem hi)] at this⟩
theorem RowB.take {t k:Nat} {r:List Rat} (h:RowB t r):RowB t (r.take k):=by
 obtain ⟨E,h1,h2,h3⟩:=h
 exact ⟨E,h1,h2,fun q hq=>h3 q (List.mem_of_mem_take hq)⟩
theorem MtR.gl {p:Mt} {t:Nat} (h:MtR p t) (hc:Cl p.length (ent p) 0) (V:Nat):GL p.length t V p (p.length - 1):=by
 have h1:=h.n1;have e:p.length - 1+1=p.length:=by omega
 exact ⟨h.toSq,by rw [e];exact h.sto,by rw [e];exact hc,fun i hi=>(h.row _ (getD_mem (by omega))).take,fun i c h1 h2 h3=>by omega⟩
def uu (t n:Nat):Nat:=2+12*(13*(2*tt t (n - 1)+4)+8)
theorem MtR.w_row {p:Mt} {t:Nat} (h:MtR p t) (hc:Cl p.length (ent p) 0):RowB (uu t p.length) (wR p):=by
 have h1:=h.n1
 have h2:=h.n2
 have g:=GL.all (t:=t) (V:=2*tt t (p.length - 1)+4) h2 (k:=p.length - 1) (d:=0) (by rw [tt_zero];exact h.gl hc _) (by omega) (by rw [Nat.zero_add];exact Nat.le_refl _)
 have:=wL_row h2 (V:=2*tt t (p.length - 1)+4) (fun i c h1 h3=>g.col i c h1 (by omega) h3) (p.length - 1) (by omega)
 refine this.mono ?_
 have h4:(p.length - 1)*(13*(2*tt t (p.length - 1)+4)+8)≤12*(13*(2*tt t (p.length - 1)+4)+8):=Nat.mul_le_mul_right _ (by omega)
 unfold uu;omega
theorem wR_len {p:Mt} (h:1≤p.length):(wR p).length=p.length:=by unfold wR;rw [wL_len];omega
theorem restU_len {p:Mt} (h:1≤p.length):(restU p).length=p.length:=by unfold restU;rw [List.length_map,wR_len h]
theorem MtR.w_ok {p:Mt} {t:Nat} (h:MtR p t) (hc:Cl p.length (ent p) 0):St p.length (ent p) (fun i=>(wR p).getD i 0)∧(∀i,i < p.length→0≤(wR p).getD i 0)∧0 < sN (wR p).length fun i=>(wR p).getD i 0:=by
 have h1:=h.n1;have e:p.length - 1+1=p.length:=by omega
 have hw:wR p=wL (gthM (p.length - 1) (ent p)) (p.length - 1):=wL_congr (n:=p.length) (fun i j hi hj=>gthL_ent h.toSq (by omega) i j hi hj) _ (by omega);obtain ⟨g1,g2,g3⟩:=gth_st (p.length - 1) (ent p) (by rw [e];exact h.sto) (by rw [e];exact hc);rw [←hw] at g1 g2 g3;rw [e] at g1;refine ⟨g1,fun i hi=>g2 i (by omega),?_⟩;rw [wR_len h1];have h5:=sN_one_le (n:=p.length) (k:=0) (f:=fun i=>(wR p).getD i 0) (by omega) fun i hi=>g2 i (by omega);grind
theorem MtR.u_ok {p:Mt} {t:Nat} (h:MtR p t) (hc:Cl p.length (ent p) 0):St p.length (ent p) (fun i=>(restU p).getD i 0)∧(∀i,i < p.length→0≤(restU p).getD i 0)∧(sN p.length fun i=>(restU p).getD i 0)=1∧RowB (uu t p.length+4) (restU p):=by
 obtain ⟨g1,g2,g3⟩:=h.w_ok hc
 have hr:=(h.w_row hc).norm (by rw [wR_len h.n1];exact h.n2) (Rat.ne_of_gt g3)
 obtain ⟨o,eo⟩:∃o,(sN (wR p).length fun i=>(wR p).getD i 0)=o:=⟨_,rfl⟩
 have e:∀i,i < p.length→(restU p).getD i 0=o⁻¹*(wR p).getD i 0:=fun i hi=>by
  unfold restU
  rw [eo,gD,List.getElem?_map,List.getElem?_eq_getElem (by rw [wR_len h.n1];exact hi),gD,List.getElem?_eq_getElem (by rw [wR_len h.n1];exact hi)]
  show _ / o=_
  rw [Rat.div_def,Rat.mul_comm];rfl
 rw [eo] at g3
 refine ⟨fun j hj=>?_,fun i hi=>?_,?_,hr⟩
 ·have:=g1.smul o⁻¹ j hj
  dsimp only at this ⊢
  rw [e j hj,←this]
  exact sN_congr fun i hi=>by rw [e i hi]
 ·rw [e i hi];exact Rat.mul_nonneg (Rat.le_of_lt (Rat.inv_pos.2 g3)) (g2 i hi)
 ·have:(sN p.length fun i=>(restU p).getD i 0)=o⁻¹*o:=by
   rw [←eo,wR_len h.n1,←sN_mul,←wR_len h.n1,eo]
   exact sN_congr fun i hi=>e i (by rw [wR_len h.n1] at hi;exact hi)
  rw [this,Rat.inv_mul_cancel _ (Rat.ne_of_gt g3)]
end Go.V
namespace Go.V
inductive Rc (n:Nat) (m:Fm) (i:Nat):Nat→Prop
 | refl:Rc n m i i
 | step {j k:Nat}:Rc n m i j→k < n→0 < m j k→Rc n m i k
theorem Rc.trans {n:Nat} {m:Fm} {i j k:Nat} (h:Rc n m i j) (h2:Rc n m j k):Rc n m i k:=by
 induction h2 with
 | refl=>exact h
 | step _ h3 h4 ih=>exact ih.step h3 h4
theorem Rc.lt {n:Nat} {m:Fm} {i j:Nat} (h:Rc n m i j) (hi:i < n):j < n:=by cases h;exact hi;assumption
theorem Rc.keep {n:Nat} {m:Fm} {T:Nat→Prop} (hT:∀i j,i < n→j < n→T i→0 < m i j→T j) {i j:Nat} (hi:i < n) (h0:T i) (h:Rc n m i j):T j:=by
 induction h with
 | refl=>exact h0
 | step h1 h2 h3 ih=>exact hT _ _ (h1.lt hi) h2 ih h3
theorem Cl.of {n s:Nat} {m:Fm} (h:∀i,i < n→Rc n m i s):Cl n m s:=fun _ ⟨i,hi,h0⟩ hT=>(h i hi).keep hT hi h0
theorem Cl.rc {n s:Nat} {m:Fm} (h:Cl n m s):∀i,i < n→Rc n m i s:=fun i hi=>h (Rc n m i) ⟨i,hi,.refl⟩ fun _ _ _ hj h1 h2=>h1.step hj h2
open Classical in
noncomputable def rb (n:Nat) (m:Fm) (i j:Nat):Bool:=decide (Rc n m i j)
theorem rb_iff {n:Nat} {m:Fm} {i j:Nat}:rb n m i j=true↔Rc n m i j:=by unfold rb;simp
def clsStep (n:Nat) (r:Nat→Nat→Bool) (s:List Int×List Bool) (i:Nat):List Int×List Bool :=
 if 0≤s.1.getD i 0 then s else ((List.range n).map fun j=>if r i j=true∧r j i=true then (s.2.length:Int) else s.1.getD j 0,s.2++[(List.range n).all fun j=>!r i j || r j i])
theorem map_at {α:Type} {n j:Nat} {f:Nat→α} {d:α} (h:j < n):((List.range n).map f).getD j d=f j:=by
 rw [gD,List.getElem?_eq_getElem (by simpa using h)];simp
structure ClsI (n:Nat) (r:Nat→Nat→Bool) (s:List Int×List Bool) (i:Nat):Prop where
 lt:∀j,j < n→s.1.getD j 0 = -1∨(0≤s.1.getD j 0∧s.1.getD j 0 < s.2.length)
 done:∀j,j < i→0≤s.1.getD j 0
 full:∀j k,j < n→k < n→0≤s.1.getD j 0→r j k=true→r k j=true→s.1.getD k 0=s.1.getD j 0
 same:∀j k,j < n→k < n→0≤s.1.getD j 0→s.1.getD k 0=s.1.getD j 0→r j k=true∧r k j=true
 shut:∀j,j < n→0≤s.1.getD j 0→(s.2.getD (s.1.getD j 0).toNat false=true↔∀k,k < n→r j k=true→r k j=true)
 used:∀c,c < s.2.length→∃j,j < n∧s.1.getD j 0=(c:Int)
theorem ClsI.zero (n:Nat) (r:Nat→Nat→Bool):ClsI n r (List.replicate n (-1),[]) 0:=by
 have e:∀j,j < n→(List.replicate n (-1:Int)).getD j 0 = -1:=fun j hj=>by
  rw [gD,List.getElem?_replicate,if_pos hj];rfl
 refine ⟨fun j hj=>.inl (e j hj),fun j hj=>by omega,fun j k hj hk h=>?_,fun j k hj hk h=>?_,fun j hj h=>?_,fun c hc=>by simp at hc⟩
 all_goals (have h:0≤(List.replicate n (-1:Int)).getD j 0:=h;rw [e j hj] at h;omega)
theorem ClsI.next {n i:Nat} {r:Nat→Nat→Bool} {s:List Int×List Bool} (h:ClsI n r s i) (hi:i < n) (hr:∀j,j < n→r j j=true) (ht:∀j k l,j < n→k < n→l < n→r j k=true→r k l=true→r j l=true):ClsI n r (clsStep n r s i) (i+1):=by
 unfold clsStep;by_cases h0:0≤s.1.getD i 0
 ·rw [if_pos h0];refine ⟨h.lt,fun j hj=>?_,h.full,h.same,h.shut,h.used⟩;by_cases e:j=i
  ·subst e;exact h0
  ·exact h.done j (by omega)
 ·rw [if_neg h0];have hm1:s.1.getD i 0 = -1:=by rcases h.lt i hi with e | e;exact e;exact absurd e.1 h0
  obtain ⟨o,eo⟩:∃o:Nat→Int,o=fun j=>if r i j=true∧r j i=true then (s.2.length:Int) else s.1.getD j 0:=⟨_,rfl⟩
  have eg:∀j,j < n→((List.range n).map fun j=>if r i j=true∧r j i=true then (s.2.length:Int) else s.1.getD j 0).getD j 0=o j:=fun j hj=>by rw [map_at hj,eo]
  have o1:∀j,r i j=true∧r j i=true→o j=s.2.length:=fun j hj=>by rw [eo];exact if_pos hj
  have o2:∀j,¬(r i j=true∧r j i=true)→o j=s.1.getD j 0:=fun j hj=>by rw [eo];exact if_neg hj
  have old:∀j,j < n→0≤s.1.getD j 0→¬(r i j=true∧r j i=true):=fun j hj h1 h2=>by
   have:=h.full j i hj hi h1 h2.2 h2.1;omega
  have hlt:∀j,j < n→o j = -1∨(0≤o j∧o j≤s.2.length):=fun j hj=>by
   by_cases e:r i j=true∧r j i=true
   ·rw [o1 j e];exact .inr ⟨by omega,by omega⟩
   ·rw [o2 j e];rcases h.lt j hj with e | e;exact .inl e;exact .inr ⟨e.1,by omega⟩
  have hne:∀j,j < n→¬(r i j=true∧r j i=true)→o j < s.2.length:=fun j hj e=>by
   rw [o2 j e];rcases h.lt j hj with e | e <;> omega
  refine ⟨fun j hj=>?_,fun j hj=>?_,fun j k hj hk h1 h2 h3=>?_,fun j k hj hk h1 h2=>?_,fun j hj h1=>?_,fun c hc=>?_⟩
  ·dsimp only;rw [eg j hj,List.length_append];rcases hlt j hj with e | e;exact .inl e;exact .inr ⟨e.1,by have:=e.2;simp;omega⟩
  ·dsimp only;rw [eg j (by omega)];by_cases e:r i j=true∧r j i=true
   ·rw [o1 j e];omega
   ·rw [o2 j e];have:j≠i:=fun e2=>e (by rw [e2];exact ⟨hr i hi,hr i hi⟩);exact h.done j (by omega)
  ·dsimp only at h1 ⊢;rw [eg j hj] at h1;rw [eg j hj,eg k hk];by_cases e:r i j=true∧r j i=true
   ·rw [o1 j e,o1 k ⟨ht i j k hi hj hk e.1 h2,ht k j i hk hj hi h3 e.2⟩]
   ·have e2:¬(r i k=true∧r k i=true):=fun e2=>e ⟨ht i k j hi hk hj e2.1 h3,ht j k i hj hk hi h2 e2.2⟩;rw [o2 j e] at h1 ⊢;rw [o2 k e2];exact h.full j k hj hk h1 h2 h3
  ·dsimp only at h1 h2;rw [eg j hj] at h1;rw [eg j hj,eg k hk] at h2;by_cases e:r i j=true∧r j i=true
   ·rw [o1 j e] at h2;by_cases e2:r i k=true∧r k i=true
    ·exact ⟨ht j i k hj hi hk e.2 e2.1,ht k i j hk hi hj e2.2 e.1⟩
    ·have:=hne k hk e2;omega
   ·have g:=hne j hj e;by_cases e2:r i k=true∧r k i=true
    ·rw [o1 k e2] at h2;omega
    ·rw [o2 j e] at h1 h2;rw [o2 k e2] at h2;exact h.same j k hj hk h1 h2
  ·dsimp only at h1 ⊢;rw [eg j hj] at h1 ⊢;by_cases e:r i j=true∧r j i=true
   ·rw [o1 j e,Int.toNat_natCast,gD,List.getElem?_append_right (Nat.le_refl _),Nat.sub_self];show ((List.range n).all fun j=>!r i j || r j i)=true↔_;rw [List.all_eq_true];constructor
    ·intro H k hk h2;have:=H k (by simpa using hk);simp only [Bool.or_eq_true,Bool.not_eq_true'] at this;have h3:=ht i j k hi hj hk e.1 h2;rcases this with h4 | h4
     ·rw [h3] at h4;cases h4
     ·exact ht k i j hk hi hj h4 e.1
    ·intro H k hk;have hk:k < n:=by simpa using hk
     simp only [Bool.or_eq_true,Bool.not_eq_true'];cases h4:r i k with
     | false=>exact .inl rfl
     | true=>exact .inr (ht k j i hk hj hi (H k hk (ht j i k hj hi hk e.2 h4)) e.2)
   ·have g:=hne j hj e;rw [o2 j e] at h1 g ⊢;rw [gD,List.getElem?_append_left (by omega),←gD];exact h.shut j hj h1
  ·dsimp only;rw [List.length_append,List.length_singleton] at hc;by_cases e:c=s.2.length
   ·exact ⟨i,hi,by rw [eg i hi,o1 i ⟨hr i hi,hr i hi⟩,e]⟩
   ·obtain ⟨j,hj,h1⟩:=h.used c (by omega);exact ⟨j,hj,by rw [eg j hj,o2 j (old j hj (by omega)),h1]⟩
theorem filter_range_sum (b:Nat→Bool) (f:Nat→Rat):∀n,(sN n fun i=>if b i=true then f i else 0)=sN ((List.range n).filter b).length fun k=>f (((List.range n).filter b).getD k 0)
 | 0=>rfl
 | n+1=>by
  show (sN n fun i=>if b i=true then f i else 0)+(if b n=true then f n else 0)=_;rw [filter_range_sum b f n,List.range_succ,List.filter_append];by_cases h:b n=true
  ·rw [if_pos h];have e:[n].filter b=[n]:=by simp [h]
   rw [e,List.length_append,List.length_singleton];show _=(sN _ _)+f (((List.range n).filter b++[n]).getD _ 0)
   congr 1
   ·refine sN_congr fun k hk=>?_;rw [gD,gD,List.getElem?_append_left hk]
   ·rw [gD,List.getElem?_append_right (Nat.le_refl _),Nat.sub_self];rfl
  ·rw [if_neg h];have e:[n].filter b=[]:=by simp [h]
   rw [e,List.append_nil,Rat.add_zero]
def spr (cs:List Nat) (v:List Rat):Nat→List Rat→List Rat
 | 0,o=>o
 | k+1,o=>(spr cs v k o).set (cs.getD k 0) (v.getD k 0)
theorem spr_len (cs:List Nat) (v o:List Rat):∀k,(spr cs v k o).length=o.length
 | 0=>rfl
 | k+1=>by show (List.set _ _ _).length=_;rw [List.length_set,spr_len cs v o k]
theorem spr_at {cs:List Nat} {v o:List Rat} (hin:∀a b,a < cs.length→b < cs.length→cs.getD a 0=cs.getD b 0→a=b) (hlt:∀a,a < cs.length→cs.getD a 0 < o.length):∀k,k≤cs.length →
  (∀a,a < k→(spr cs v k o).getD (cs.getD a 0) 0=v.getD a 0)∧∀j,(∀a,a < k→cs.getD a 0≠j)→(spr cs v k o).getD j 0=o.getD j 0
 | 0,_=>⟨fun a ha=>by omega,fun j _=>rfl⟩
 | k+1,hk=>by
  obtain ⟨h1,h2⟩:=spr_at hin hlt k (by omega);have hl:cs.getD k 0 < (spr cs v k o).length:=by rw [spr_len];exact hlt k (by omega)
  refine ⟨fun a ha=>?_,fun j hj=>?_⟩
  ·show (List.set _ _ _).getD _ _=_;rw [gsetD hl];by_cases e:a=k
   ·subst e;rw [if_pos rfl]
   ·rw [if_neg (fun e2=>e (hin a k (by omega) (by omega) e2)),h1 a (by omega)]
  ·show (List.set _ _ _).getD _ _=_;rw [gsetD hl,if_neg (Ne.symm (hj k (by omega))),h2 j fun a ha=>hj a (by omega)]
def subM (p:Mt) (cs:List Nat):Mt:=cs.map fun i=>cs.map fun j=>ent p i j
theorem subM_len (p:Mt) (cs:List Nat):(subM p cs).length=cs.length:=by simp [subM]
theorem subM_ent {p:Mt} {cs:List Nat} {a b:Nat} (ha:a < cs.length) (hb:b < cs.length):ent (subM p cs) a b=ent p (cs.getD a 0) (cs.getD b 0):=by
 unfold ent subM
 rw [gD (l:=List.map _ cs),List.getElem?_map,List.getElem?_eq_getElem ha]
 show (List.map _ cs).getD b 0=_
 rw [gD (l:=List.map _ cs),List.getElem?_map,List.getElem?_eq_getElem hb,gD (l:=cs),gD (l:=cs),List.getElem?_eq_getElem ha,List.getElem?_eq_getElem hb]
 rfl
theorem filt_getD {n:Nat} {b:Nat→Bool} {a:Nat} (h:a < ((List.range n).filter b).length):((List.range n).filter b).getD a 0 < n∧b (((List.range n).filter b).getD a 0)=true:=by
 have:=getD_mem (d:=0) h
 rw [List.mem_filter] at this
 exact ⟨by simpa using this.1,this.2⟩
theorem filt_of {n:Nat} {b:Nat→Bool} {j:Nat} (hj:j < n) (hb:b j=true):∃a,a < ((List.range n).filter b).length∧((List.range n).filter b).getD a 0=j:=by
 have hm:j∈(List.range n).filter b:=List.mem_filter.2 ⟨by simpa using hj,hb⟩
 obtain ⟨a,ha,e⟩:=List.mem_iff_getElem.1 hm
 exact ⟨a,ha,by rw [gD,List.getElem?_eq_getElem ha,e];rfl⟩
theorem filt_inj {n:Nat} {b:Nat→Bool} {a c:Nat} (ha:a < ((List.range n).filter b).length) (hc:c < ((List.range n).filter b).length) (e:((List.range n).filter b).getD a 0=((List.range n).filter b).getD c 0):a=c:=by
 have nd:((List.range n).filter b).Pairwise (· ≠ ·):=List.Pairwise.filter b List.nodup_range
 rw [gD,gD,List.getElem?_eq_getElem ha,List.getElem?_eq_getElem hc] at e
 have e:((List.range n).filter b)[a]=((List.range n).filter b)[c]:=e
 rw [List.pairwise_iff_getElem] at nd
 rcases Nat.lt_trichotomy a c with h | h | h
 ·exact absurd e (nd a c ha hc h)
 ·exact h
 ·exact absurd e.symm (nd c a hc ha h)
theorem RowB.sub0 {t:Nat} {r s:List Rat} (h:RowB t r) (hs:∀q,q∈s→q∈r∨q=0):RowB t s:=by
 obtain ⟨E,h1,h2,h3⟩:=h
 refine ⟨E,h1,h2,fun q hq=>?_⟩
 rcases hs q hq with h | h
 ·exact h3 q h
 ·exact ⟨0,by rw [h,Rat.zero_mul];rfl,Nat.lt_of_le_of_lt (bl_le (k:=0) (by decide)) (by omega)⟩
noncomputable def clsS (p:Mt) (s:Nat):List Nat:=(List.range p.length).filter (rb p.length (ent p) s)
noncomputable def restQ (p:Mt) (s:Nat):List Rat:=spr (clsS p s) (restU (subM p (clsS p s))) (clsS p s).length (List.replicate p.length 0)
theorem restQ_len (p:Mt) (s:Nat):(restQ p s).length=p.length:=by unfold restQ;rw [spr_len,List.length_replicate]
theorem MtR.sub {p:Mt} {t s:Nat} (h:MtR p t) (hs:s < p.length) (hc:Cl p.length (ent p) s):MtR (subM p (clsS p s)) t∧Cl (clsS p s).length (ent (subM p (clsS p s))) 0:=by
 have hin:∀a,a < (clsS p s).length→(clsS p s).getD a 0 < p.length∧Rc p.length (ent p) s ((clsS p s).getD a 0):=fun a ha=>by
  have:=filt_getD ha;exact ⟨this.1,rb_iff.1 this.2⟩
 have hof:∀j,j < p.length→Rc p.length (ent p) s j→∃a,a < (clsS p s).length∧(clsS p s).getD a 0=j:=fun j hj hb=>filt_of hj (rb_iff.2 hb)
 obtain ⟨a0,ha0,_⟩:=hof s hs .refl
 have hl:(clsS p s).length≤p.length:=by
  have:=List.length_filter_le (rb p.length (ent p) s) (List.range p.length)
  rw [List.length_range] at this;exact this
 have hrow:∀r,r∈subM p (clsS p s)→∃a,a < (clsS p s).length∧r=(clsS p s).map fun j=>ent p ((clsS p s).getD a 0) j:=fun r hr=>by
  obtain ⟨i,hi,rfl⟩:=List.mem_map.1 hr
  obtain ⟨a,ha,e⟩:=List.mem_iff_getElem.1 hi
  exact ⟨a,ha,by rw [gD,List.getElem?_eq_getElem ha,e];rfl⟩
 have hmem:∀a,a < (clsS p s).length→∀q,q∈((clsS p s).map fun j=>ent p ((clsS p s).getD a 0) j)→q∈p.getD ((clsS p s).getD a 0) []:=fun a ha q hq=>by
  obtain ⟨j,hj,rfl⟩:=List.mem_map.1 hq
  have hj2:j < p.length:=by
   have:=(List.mem_filter.1 hj).1;simpa using this
  exact getD_mem (by rw [h.sq _ (getD_mem (hin a ha).1)];exact hj2)
 refine ⟨⟨by rw [subM_len];omega,by rw [subM_len];have:=h.n2;omega,fun r hr=>?_,fun r hr q hq=>?_,fun r hr=>?_,fun r hr=>?_⟩,fun T ⟨a,ha,hT⟩ hcl=>?_⟩
 ·obtain ⟨a,_,rfl⟩:=hrow r hr;rw [subM_len,List.length_map]
 ·obtain ⟨a,ha,rfl⟩:=hrow r hr;exact h.pos _ (getD_mem (hin a ha).1) q (hmem a ha q hq)
 ·obtain ⟨a,ha,rfl⟩:=hrow r hr
  exact (h.row _ (getD_mem (hin a ha).1)).sub0 fun q hq=>.inl (hmem a ha q hq)
 ·obtain ⟨a,ha,rfl⟩:=hrow r hr
  have e1:=filter_range_sum (rb p.length (ent p) s) (fun j=>ent p ((clsS p s).getD a 0) j) p.length
  have e2:(sN p.length fun j=>if rb p.length (ent p) s j=true then ent p ((clsS p s).getD a 0) j else 0)=1:=by
   rw [←h.sto.one _ (hin a ha).1]
   refine sN_congr fun j hj=>?_
   by_cases hb:rb p.length (ent p) s j=true
   ·rw [if_pos hb]
   ·rw [if_neg hb]
    have h3:=h.sto.pos _ j (hin a ha).1 hj
    by_cases h4:0 < ent p ((clsS p s).getD a 0) j
    ·exact absurd (rb_iff.2 ((hin a ha).2.step hj h4)) hb
    ·grind
  rw [e2] at e1
  rw [e1,List.length_map]
  refine sN_congr fun k hk=>?_
  show List.getD _ k 0=ent p _ ((clsS p s).getD k 0)
  rw [gD,List.getElem?_map,List.getElem?_eq_getElem hk,gD (l:=clsS p s) (i:=k),List.getElem?_eq_getElem hk];rfl
 ·have:=hc (fun i=>Rc p.length (ent p) s i→∃a,a < (clsS p s).length∧(clsS p s).getD a 0=i∧T a)
  have h00:Rc p.length (ent p) ((clsS p s).getD a 0) ((clsS p s).getD 0 0):=(hc.rc _ (hin a ha).1).trans (hin 0 (by omega)).2
  have key:∀j,Rc p.length (ent p) ((clsS p s).getD a 0) j→∃b,b < (clsS p s).length∧(clsS p s).getD b 0=j∧T b:=fun j hj=>by
   induction hj with
   | refl=>exact ⟨a,ha,rfl,hT⟩
   | step h1 h2 h3 ih =>
    obtain ⟨b,hb,e,hTb⟩:=ih
    obtain ⟨c,hc2,e2⟩:=hof _ h2 ((((hin a ha).2.trans h1)).step h2 h3)
    exact ⟨c,hc2,e2,hcl b c hb hc2 hTb (by rw [subM_ent hb hc2,e,e2];exact h3)⟩
  obtain ⟨b,hb,e,hTb⟩:=key _ h00
  rw [filt_inj hb (by show 0 < (clsS p s).length;omega) e] at hTb
  exact hTb
theorem MtR.rest {p:Mt} {t s:Nat} (h:MtR p t) (hs:s < p.length) (hc:Cl p.length (ent p) s) :
  St p.length (ent p) (fun i=>(restQ p s).getD i 0)∧(∀i,i < p.length→0≤(restQ p s).getD i 0)∧(sN p.length fun i=>(restQ p s).getD i 0)=1∧RowB (uu t (clsS p s).length+4) (restQ p s):=by
 obtain ⟨hm,hcl⟩:=h.sub hs hc;obtain ⟨g1,g2,g3,g4⟩:=hm.u_ok (by rw [subM_len];exact hcl);rw [subM_len] at g1 g2 g3 g4;obtain ⟨k1,k2⟩:=spr_at (cs:=clsS p s) (v:=restU (subM p (clsS p s))) (o:=List.replicate p.length 0) (fun a b ha hb e=>filt_inj ha hb e) (fun a ha=>by rw [List.length_replicate];exact (filt_getD ha).1) (clsS p s).length (Nat.le_refl _);have q1:∀a,a < (clsS p s).length→(restQ p s).getD ((clsS p s).getD a 0) 0=(restU (subM p (clsS p s))).getD a 0:=k1;have q2:∀j,j < p.length→rb p.length (ent p) s j=false→(restQ p s).getD j 0=0:=fun j hj hb=>by
  have:=k2 j fun a ha e=>by
   have h3:=(filt_getD ha).2;have e:((List.range p.length).filter (rb p.length (ent p) s)).getD a 0=j:=e;rw [e,hb] at h3;cases h3
  have e2:(List.replicate p.length (0:Rat)).getD j 0=0:=by rw [gD,List.getElem?_replicate];split <;> rfl
  rw [e2] at this;exact this
 have hsum:∀f:Nat→Rat,(∀i,i < p.length→rb p.length (ent p) s i=false→f i=0)→sN p.length f=sN (clsS p s).length fun k=>f ((clsS p s).getD k 0):=fun f hf=>by
  have e1:=filter_range_sum (rb p.length (ent p) s) f p.length;rw [←show (sN p.length fun i=>if rb p.length (ent p) s i=true then f i else 0)=sN p.length f from sN_congr fun i hi=>by
   cases hb:rb p.length (ent p) s i with
   | true=>rw [if_pos rfl]
   | false=>rw [if_neg (by decide),hf i hi hb]]
  exact e1
 refine ⟨fun j hj=>?_,fun i hi=>?_,?_,?_⟩
 ·rw [hsum _ fun i hi hb=>by dsimp only;rw [q2 i hi hb,Rat.zero_mul]];dsimp only;cases hb:rb p.length (ent p) s j with
  | true =>
   obtain ⟨b,hbl,e⟩:=filt_of hj hb;have e:(clsS p s).getD b 0=j:=e;have:=g1 b hbl;dsimp only at this;rw [←e,q1 b hbl,←this];exact sN_congr fun a ha=>by rw [q1 a ha,subM_ent ha hbl]
  | false =>
   rw [q2 j hj hb,←sN_zero (clsS p s).length];refine sN_congr fun a ha=>?_;have ha2:=filt_getD ha;have h3:=h.sto.pos _ j ha2.1 hj;by_cases h4:0 < ent p ((clsS p s).getD a 0) j
   ·have:=rb_iff.2 ((rb_iff.1 ha2.2).step hj h4);rw [hb] at this;cases this
   ·have h5:ent p ((clsS p s).getD a 0) j=0:=by
     have h3:0≤ent p ((clsS p s).getD a 0) j:=h3;grind
    rw [h5,Rat.mul_zero]
 ·cases hb:rb p.length (ent p) s i with
  | true =>
   obtain ⟨b,hbl,e⟩:=filt_of hi hb;have e:(clsS p s).getD b 0=i:=e;rw [←e,q1 b hbl];exact g2 b hbl
  | false=>rw [q2 i hi hb];exact Rat.le_refl
 ·rw [hsum _ fun i hi hb=>q2 i hi hb,←g3];exact sN_congr fun a ha=>q1 a ha
 ·refine g4.sub0 fun q hq=>?_;obtain ⟨i,hi,e⟩:=List.mem_iff_getElem.1 hq;rw [restQ_len] at hi;have e:(restQ p s).getD i 0=q:=by rw [gD,List.getElem?_eq_getElem (by rw [restQ_len];exact hi),e];rfl
  cases hb:rb p.length (ent p) s i with
  | true =>
   obtain ⟨b,hbl,e2⟩:=filt_of hi hb;have e2:(clsS p s).getD b 0=i:=e2;rw [←e2,q1 b hbl] at e;rw [←e];exact .inl (getD_mem (by rw [restU_len hm.n1,subM_len];exact hbl))
  | false=>rw [q2 i hi hb] at e;exact .inr e.symm
def entS (p:Mt):Fm:=fun j i=>if i=p.length then (if j=p.length - 1 then 1 else 0) else if j=p.length - 1 then 1 else if i=j then ent p i j - 1 else ent p i j
theorem entS_row {p:Mt} {t:Nat} (h:MtR p t) (x:Nat→Rat) {j:Nat} (hj:j < p.length):rowX p.length (entS p) x j=if j=p.length - 1 then sN p.length x else (sN p.length fun i=>x i*ent p i j) - x j:=by
 unfold rowX entS
 by_cases e:j=p.length - 1
 ·rw [show (if j=p.length - 1 then sN p.length x else (sN p.length fun i=>x i*ent p i j) - x j)=sN p.length x from if_pos e]
  exact sN_congr fun i hi=>by rw [if_neg (show ¬i=p.length by omega),if_pos e,Rat.one_mul]
 ·rw [show (if j=p.length - 1 then sN p.length x else (sN p.length fun i=>x i*ent p i j) - x j)=(sN p.length fun i=>x i*ent p i j) - x j from if_neg e]
  have:(sN p.length fun i=>(if i=p.length then (if j=p.length - 1 then (1:Rat) else 0) else if j=p.length - 1 then 1 else if i=j then ent p i j - 1 else ent p i j)*x i)+(sN p.length fun i=>if i=j then x i else 0)=sN p.length fun i=>x i*ent p i j:=by
   rw [←sN_add]
   refine sN_congr fun i hi=>?_
   rw [if_neg (by omega),if_neg e]
   by_cases e2:i=j
   ·rw [if_pos e2,if_pos e2];grind
   ·rw [if_neg e2,if_neg e2];grind
  rw [sN_delta,if_pos hj] at this
  grind
theorem MtR.inj {p:Mt} {t s:Nat} (h:MtR p t) (hs:s < p.length) (hc:Cl p.length (ent p) s):Inj p.length (entS p):=by
 intro x hx
 have hsum:sN p.length x=0:=by
  have:=hx (p.length - 1) (by omega)
  rw [entS_row h x (by omega),if_pos rfl] at this
  exact this
 have hj:∀j,j < p.length→j≠p.length - 1→(sN p.length fun i=>x i*ent p i j)=x j:=fun j hj hne=>by
  have:=hx j hj
  rw [entS_row h x hj,if_neg hne] at this
  grind
 refine St.uniq h.sto hc hs (fun j hj2=>?_) hsum
 by_cases e:j=p.length - 1
 ·-- the sum of all of them is nought
  have hall:(sN p.length fun j=>(sN p.length fun i=>x i*ent p i j) - x j)=0:=by
   have e1:(sN p.length fun j=>(sN p.length fun i=>x i*ent p i j) - x j)=(sN p.length fun j=>sN p.length fun i=>x i*ent p i j)+sN p.length fun j=>-x j:=by
    rw [←sN_add];exact sN_congr fun j _=>Rat.sub_eq_add_neg _ _
   rw [e1,←sN_comm,sN_neg,hsum]
   have e2:(sN p.length fun i=>sN p.length fun j=>x i*ent p i j)=sN p.length x:=sN_congr fun i hi=>by rw [sN_mul,h.sto.one i hi,Rat.mul_one]
   rw [e2,hsum];grind
  rw [sN_only (a:=j) hj2 fun k hk hne=>by have:=hj k hk (by omega);grind] at hall
  grind
 ·exact hj j hj2 e
def sysL (p:Mt):Mt:=(List.range p.length).map fun j=>(List.range (p.length+1)).map (entS p j)
theorem sysL_len (p:Mt):(sysL p).length=p.length:=by simp [sysL]
theorem sysL_at {p:Mt} {j:Nat} (h:j < p.length):(sysL p).getD j []=(List.range (p.length+1)).map (entS p j):=map_at h
theorem range_at {n r:Nat} (h:r < n):(List.range n).getD r 0=r:=by
 rw [gD,List.getElem?_eq_getElem (by simpa using h)];simp
theorem MtR.gj {p:Mt} {t:Nat} (h:MtR p t):Gj p.length (12*t+14) (lgF (List.range p.length) (sysL p)) (List.range p.length) (sysL p) 0:=by
 have el:∀r,r < p.length→lg (List.range p.length) (sysL p) r=(List.range (p.length+1)).map (entS p r):=fun r hr=>by
  unfold lg;rw [range_at hr,sysL_at hr]
 refine ⟨⟨by simp,sysL_len p,fun r hr=>by rw [range_at hr];exact hr,fun r q hr hq e=>by rwa [range_at hr,range_at hq] at e,fun r hr=>by rw [el r hr];simp⟩,Eqv.refl _ _,fun c hc=>by omega,fun r hr=>?_⟩;rw [Nat.pow_zero,Nat.one_mul,el r hr];have hE:∀i,∃E:Nat,i < p.length→E≠0∧bl E < t∧Iz E (ent p i r):=fun i=>by
  by_cases hi:i < p.length
  ·obtain ⟨E,e1,e2,e3⟩:=h.row _ (getD_mem (d:=[]) hi);obtain ⟨z,hz,_⟩:=e3 (ent p i r) (getD_mem (by rw [h.sq _ (getD_mem hi)];exact hr));exact ⟨E,fun _=>⟨e1,e2,z,hz⟩⟩
  ·exact ⟨0,fun h=>absurd h hi⟩
 obtain ⟨Ef,hEf⟩:∃Ef:Nat→Nat,∀i,i < p.length→Ef i≠0∧bl (Ef i) < t∧Iz (Ef i) (ent p i r):=⟨fun i=>(hE i).choose,fun i hi=>(hE i).choose_spec hi⟩;have hP:∀m,m≤p.length→∃D:Nat,D≠0∧bl D≤m*t+1∧∀i,i < m→Iz D (ent p i r):=by
  intro m;induction m with
  | zero=>intro _;exact ⟨1,by decide,by rw [bl_one];omega,fun i hi=>by omega⟩
  | succ m ih =>
   intro hm;obtain ⟨D,d1,d2,d3⟩:=ih (by omega);obtain ⟨f1,f2,f3⟩:=hEf m (by omega);have:=bl_mul D (Ef m);refine ⟨D*Ef m,Nat.mul_ne_zero d1 f1,by rw [Nat.succ_mul];omega,fun i hi=>?_⟩;by_cases e:i=m
   ·subst e;exact f3.more' D
   ·exact (d3 i (by omega)).more _
 obtain ⟨D,d1,d2,d3⟩:=hP p.length (Nat.le_refl _);have h12:p.length*t≤12*t:=Nat.mul_le_mul_right _ h.n2;refine RowB.of_iz d1 (by omega) 1 (by rw [Nat.one_mul];omega) fun q hq=>?_;obtain ⟨i,hi,rfl⟩:=List.mem_map.1 hq;have hi:i < p.length+1:=by simpa using hi
 have c1:(((1:Nat):Int):Rat)=1:=rfl;rw [c1];unfold entS;by_cases e:i=p.length
 ·rw [if_pos e];split
  ·exact ⟨Iz.one D,by grind,by grind⟩
  ·exact ⟨Iz.zero D,by grind,by grind⟩
 ·rw [if_neg e];have g1:=h.sto.pos i r (by omega) hr;have g2:ent p i r≤1:=by
   rw [←h.sto.one i (by omega)];exact sN_one_le (f:=ent p i) hr fun k hk=>h.sto.pos i k (by omega) hk
  have g3:=d3 i (by omega);split
  ·exact ⟨Iz.one D,by grind,by grind⟩
  ·split
   ·refine ⟨?_,by grind,by grind⟩;rw [Rat.sub_eq_add_neg];exact g3.add (Iz.one D).neg
   ·exact ⟨g3,by grind,by grind⟩
end Go.V
namespace Go.V
end Go.V
namespace Go.V
open Go.Proofs Go.RowKit
set_option maxRecDepth 10000
set_option maxHeartbeats 1000000
end Go.V
namespace Go.V
open Go.Proofs Go.RowKit
set_option maxRecDepth 10000
set_option maxHeartbeats 1000000
structure VOk (m:Mo) (v:List Rat):Prop where
 l:v.length=m.room+1
 s:∀q,q∈v→sz q≤50000
theorem VOk.sz {m:Mo} {v:List Rat} (h:VOk m v) {n:Nat} (hn:n < m.room+1):Go.V.sz (vAt v n)≤50000:=h.s _ (vAt_mem (by rw [h.l];exact hn))
end Go.V
namespace Go.V
open Go.Proofs Go.RowKit
set_option maxRecDepth 10000
set_option maxHeartbeats 1000000
end Go.V
namespace Go.V
open Go.Proofs Go.RowKit
set_option maxRecDepth 10000
set_option maxHeartbeats 1000000
end Go.V
namespace Go.V
open Go.Proofs Go.RowKit
set_option maxRecDepth 10000
set_option maxHeartbeats 1000000
end Go.V
namespace Go.V
open Go.Proofs Go.RowKit
set_option maxRecDepth 10000
set_option maxHeartbeats 1000000
structure Mo.Small (m:Mo):Prop where
 ok:m.Ok
 dc:m.come.den≤5
 ds:m.serve.den≤5
 dw:m.reward.den≤2
 dk:m.cost.den≤3
 tw:tp m.reward≤12
 tk:tp m.cost≤6
end Go.V
namespace Go.V
open Go.Proofs Go.RowKit
set_option maxRecDepth 10000
set_option maxHeartbeats 1000000
end Go.V
namespace Go.V
open Go.Proofs Go.RowKit
set_option maxRecDepth 10000
set_option maxHeartbeats 4000000
theorem srcK0 {code:List Nat} (hl:code.length≤2000000) (hb:∀x,x∈code→x < 256):SrcK code 0 0 0:=⟨hl,hb,Nat.le_refl _,by decide⟩
theorem names5 (code:List Nat):namesIn [(5,srcO code 0 0)] (.pe 5 0 0 3):=fun j hj=>by
 have e:5=j:=Nat.eq_of_beq_eq_true hj
 rw [lget_cons,if_pos e.symm];simp
end Go.V
namespace Go.V
open Go.Proofs Go.RowKit
set_option maxRecDepth 10000
set_option maxHeartbeats 4000000
theorem VCall.par1a {P:Program} {t:TL} {l:LL} {f:FuncId} {xs xs0:List AV} {sz sz' s n k:Nat} {rows rows':List (List C)} {ix:List MC} {R:List (List (List C))} {dst:Option Nat} {K:AV→TL→LL→Prop} (a:Nat)
  (h:Fn P f xs0 [(1000000,.row true sz rows)] (.ag [.ls 0 0 n 1]) [(0,.mat s ix R),(1000000,.row true sz' rows')]) (ha:argR (pmap [(1000000,a)]) xs xs0) (hl:lget a l = .row true sz rows)
  (hf:freshR (pmap [(1000000,a)]) k t l [(1000000,.row true sz rows)] [(0,.mat s ix R),(1000000,.row true sz' rows')]=true)
  (hK:K (AV.ren (ret (pmap [(1000000,a)]) k) (.ag [.ls 0 0 n 1])) t (retL (pmap [(1000000,a)]) k [(0,.mat s ix R),(1000000,.row true sz' rows')]++l)):VCall P f xs dst t l K :=
 VCall.of_fnR (k:=k) (pmap [(1000000,a)]) h ha ⟨⟨hl,fun p h=>absurd rfl h⟩,trivial⟩ rfl (fun p hp=>by
  by_cases e:p=1000000
  ·subst e;intro h2;cases h2
  ·exact absurd (by rw [lget_cons,if_neg e];rfl) hp) (fun j hj=>by
  have h1:(AV.ment j (.ag [.ls 0 0 n 1]))=(Nat.beq 0 j || false):=rfl
  rw [h1,Bool.or_false] at hj
  have:0=j:=Nat.eq_of_beq_eq_true hj
  subst this;intro h2;cases h2) hf hK
theorem Fn.frzMA {P:Program} {f:FuncId} {xs:List AV} {lo n sz:Nat} {ix:List MC} {rows:List (List (List C))} (h:Fn P f xs [] (.ag [.ls 0 lo n 1]) [(0,.mat sz ix rows)]) (hn:n+lo≤ix.length) (hin:matIn rows ix):Fn P f xs [] (.ag [.d (.sl (((matD rows ix).drop lo).take n))]) [] where
 en:=h.en
 out:=fun κ ρ w vs hm hs hv=>(h.out κ ρ w vs hm hs hv).mono fun e w' ⟨v,κ',ρ',h1,h2,h3,h4⟩=>by
  have hob:=h3.ob 0
  obtain ⟨L,hL,_⟩:=hob
  obtain ⟨κ'',g1,g2,_,g4⟩:=h3.freezeM (id:=0) rfl hL hin
  obtain ⟨us,rfl,hn',ho,hu⟩:=h4.agg
  refine ⟨_,κ'',_,h1,Know.le_trans h2 g1,g2,.ag us _ (by simpa using hn') ho fun k u c hk hc=>?_⟩
  cases k with
  | zero =>
   simp at hc;subst hc
   exact g4 u lo n (hu 0 u _ hk rfl) hn
  | succ k=>simp at hc
theorem Fn.frzTMA {P:Program} {f:FuncId} {xs:List AV} {lo n sz:Nat} {ix:List MC} {rows:List (List (List C))} {cs:List AV} (h:Fn P f xs [] (.tup (.ag [.ls 0 lo n 1] :: cs)) [(0,.mat sz ix rows)]) (hn:n+lo≤ix.length) (hin:matIn rows ix) (hf:flats cs=true):Fn P f xs [] (.tup (.ag [.d (.sl (((matD rows ix).drop lo).take n))] :: cs)) [] where
 en:=h.en
 out:=fun κ ρ w vs hm hs hv=>(h.out κ ρ w vs hm hs hv).mono fun e w' ⟨v,κ',ρ',h1,h2,h3,h4⟩=>by
  have hob:=h3.ob 0;obtain ⟨L,hL,_⟩:=hob;obtain ⟨κ'',g1,g2,_,g4⟩:=h3.freezeM (id:=0) rfl hL hin;obtain ⟨us,rfl,hn',hu⟩:=h4.tuple;refine ⟨_,κ'',_,h1,Know.le_trans h2 g1,g2,.tup us _ (by simpa using hn') fun k u c hk hc=>?_⟩;cases k with
  | zero =>
   simp at hc;subst hc;obtain ⟨us2,rfl,hn2,ho2,hu2⟩:=(hu 0 u _ hk rfl).agg;refine .ag us2 _ (by simpa using hn2) ho2 fun k u c hk hc=>?_;cases k with
   | zero =>
    simp at hc;subst hc;exact g4 u lo n (hu2 0 u _ hk rfl) hn
   | succ k=>simp at hc
  | succ k =>
   have hc':cs[k]? = some c:=by simpa using hc
   exact flat_sound (flats_get hf k c hc') (hu (k+1) u c hk (by simpa using hc'))
theorem tld_in (ts:Tss):matIn (ts.map cT) (ixF 0 (ts.map List.length)):=matIn_ixF fun i hi=>by
 have hi:i < ts.length:=by simpa using hi
 rw [gD,gD,List.getElem?_eq_getElem (by simpa using hi),List.getElem?_eq_getElem (by simpa using hi)];simp [cT]
theorem tld_data (ts:Tss):matD (ts.map cT) (ixF 0 (ts.map List.length))=cTT ts:=matD_ixF _ 0 _ ts (by simp) fun i hi=>by
 have hi:i < ts.length:=by simpa using hi
 rw [Nat.zero_add,List.drop_zero,gD,gD,gD,List.getElem?_eq_getElem (by simpa using hi),List.getElem?_eq_getElem (by simpa using hi),List.getElem?_eq_getElem hi];show List.take _ _=_;simp only [Option.getD_some,List.getElem_map];exact List.take_of_length_le (by rw [cT_len];exact Nat.le_refl _)
theorem ex_R8Chain (code:List Nat) (hl:code.length≤2000000) (hb:∀x,x∈code→x < 256):∃P,ChS P 360360∧Fn Tryz.prog 5 [lB code] [] (chI (tellM P)) []:=by
 have c1:=fn_from code;obtain ⟨P,k',s',h1,c2⟩:=ex_Chain (srcK0 hl hb) (by decide);refine ⟨P,h1,?_⟩;have g:Fn Tryz.prog 5 [lB code] [] (.ag [.ls 0 0 P.length 1]) [(0,tldM (tellM P))]:=by
  refine Fn.intro (ks:=[0,2,3]) hty rfl rfl rfl rfl rfl ?_;conv=>whnf
  refine VCall.of_fn (k:=5) c1 (names5 code) rfl ?_;conv=>whnf
  refine VCall.par1a (k:=23) 5005 c2 ⟨⟨rfl,rfl,rfl,rfl⟩,trivial⟩ rfl rfl ?_;conv=>whnf
  exact ⟨⟨rfl,rfl,rfl,rfl,rfl⟩,_,rfl,trivial,rfl⟩
 have hl:(tellM P).length=P.length:=by simp
 have g2:=g.frzMA (by rw [ixF_len,List.length_map,hl];exact Nat.le_refl _) (tld_in _);rwa [tld_data,List.drop_zero,List.take_of_length_le (by rw [cTT_len,hl];exact Nat.le_refl _)] at g2
theorem fn_afterD (p:Mt) (w:List Rat) (n:Nat) (hp:MtOk p) (hw:Wk p.length 1000 w) (hn:n≤40):Fn Tryz.prog 24 [lM p,lQ w,I n] [] (lQ (afterQ p n w)) []:=by
 refine Fn.intro (ks:=[0,1,2,6,7,8,9]) hty rfl rfl rfl rfl rfl ?_;conv=>whnf
 refine VLoop.inv hty (S:=Nat) (fun k=>[(8,I k),(7,I n),(1,lQ (afterQ p k w)),(0,lM p)]) (fun _=>[]) (fun k=>k≤n) (fun k=>n - k) 0 (Nat.zero_le _) ⟨rfl,rfl,rfl,rfl,trivial⟩ trivial ?_;intro k hk;conv=>whnf
 refine Br.mk (fun h=>?_) (fun h=>?_)
 ·have h:k < n:=by simp only [decide_eq_true_eq] at h;omega
  have h2:=hw.after hp k;have cs:=fn_stepped p _ _ hp h2 (by omega);conv=>whnf
  refine VCall.of_data cs (nd _) ?_;conv=>whnf
  refine Wr.i64 (y:=((k+1:Nat):Int)) rfl (by omega) (by omega) ?_;conv=>whnf
  exact ⟨k+1,h,by show n - (k+1) < n - k;omega,⟨rfl,rfl,rfl,rfl,trivial⟩,trivial⟩
 ·have h:k=n:=by simp only [decide_eq_false_iff_not] at h;omega
  rw [h];conv=>whnf
  exact ⟨rfl,trivial,rfl⟩
theorem fn_both (rows:Tss) (ws:List (List UInt8)) (hi:ChIn rows) (hl:ws.length≤1000000) (hs:∀x,x∈ws→x.length≤1000000) {p:Mt} {w:List Rat} (h1:chainQ rows=some p) (h2:wQ ws=some w) (h3:w.length=p.length) :
  Fn Tryz.prog 22 [chI rows,lT ws] [] (.tup [lM p,lQ w,B true]) []:=by
 have c1:=fn_chainOf rows hi.l hi.r hi.s
 have c2:=fn_weightsOf ws hl hs
 rw [h1] at c1
 rw [h2] at c2
 replace c1:Fn Tryz.prog 18 [chI rows] [] (.tup [lM p,B true]) []:=c1
 replace c2:Fn Tryz.prog 38 [lT ws] [] (.tup [lQ w,B true]) []:=c2
 refine Fn.intro (ks:=[0,1,2,4,5,6,7,8,9,10]) hty rfl rfl rfl rfl rfl ?_
 conv=>whnf
 refine VCall.of_data c1 (ndT fun _=>rfl) ?_
 conv=>whnf
 refine VCall.of_data c2 (ndT fun _=>rfl) ?_
 conv=>whnf
 rw [cQ_len,cM_len,decide_eq_true (show (w.length:Int)=(p.length:Int) by omega)]
 exact ⟨rfl,rfl,rfl,trivial,rfl⟩
theorem told_some {qs:List Rat} (h:∀q,q∈qs→sz q≤190):toldTs qs=some (qs.map ratT):=by
 unfold toldTs
 rw [if_pos (List.all_eq_true.2 fun q hq=>fits_smallQ (h q hq))]
theorem fn_AfterSteps1 (rows:Tss) (ws:List (List UInt8)) (hi:ChIn rows) (hl:ws.length≤1000000) (hs:∀x,x∈ws→x.length≤1000000) {p:Mt} {w:List Rat} (h1:chainQ rows=some p) (h2:wQ ws=some w) (h3:Wk p.length 1000 w) (n:Nat) (hn:n≤40)
  (hf:∀q,q∈afterQ p n w→sz q≤190):Fn Tryz.prog 8 [chI rows,lT ws,I n] [] (.tup [lT ((afterQ p n w).map ratT),B true]) []:=by
 have hp:=chainQ_ok h1
 have c1:=fn_both rows ws hi hl hs h1 h2 h3.1
 have ci:=fn_in n 0 40
 have ca:=fn_afterD p w n hp h3 hn
 have hal:=afterQ_len p n w
 have hpl:=hp.n2
 have ct:=fn_toldList (afterQ p n w) (by rw [hal,h3.1];omega) fun q hq=>by have:=hf q hq;omega
 rw [told_some hf] at ct
 replace ct:Fn Tryz.prog 23 [lQ (afterQ p n w)] [] (.tup [.ls 0 0 ((afterQ p n w).map ratT).length 1,B true]) [(0,.row true 1 (cT ((afterQ p n w).map ratT)))]:=ct
 have ct:=ct.freezeT (by rw [cT_len];omega) rfl
 rw [List.drop_zero,List.take_of_length_le (by rw [cT_len];exact Nat.le_refl _)] at ct
 rw [decide_eq_true (show (0:Int)≤n by omega),decide_eq_true (show (n:Int)≤40 by omega)] at ci
 generalize afterQ p n w=z at ca ct
 refine Fn.intro (ks:=[0,1,2,3,6,7,8,9,10,24]) hty rfl rfl rfl rfl rfl ?_
 conv=>whnf
 refine VCall.of_data c1 (ndT fun _=>rfl) ?_
 conv=>whnf
 refine VCall.of_data ci (nd _) ?_
 conv=>whnf
 refine VCall.of_data ca (nd _) ?_
 conv=>whnf
 refine VCall.of_data ct (ndT fun _=>rfl) ?_
 conv=>whnf
 exact ⟨rfl,rfl,trivial,rfl⟩
theorem fn_r8Same (xs:List (List UInt8)) (hl:xs.length≤1000000):Fn Tryz.prog 13 [lT xs,lT xs] [] (B true) []:=by
 have hz:((cT xs).length:Int)=xs.length:=by rw [cT_len]
 refine Fn.intro (ks:=[0,1,4,5,10,14,25]) hty rfl rfl rfl rfl rfl ?_;conv=>whnf
 rw [hz,decide_eq_true (rfl:((xs.length:Nat):Int)=(xs.length:Int))];conv=>whnf
 refine VLoop.inv hty (S:=Nat) (fun k=>[(5,I k),(1,lT xs),(0,lT xs)]) (fun _=>[]) (fun k=>k≤xs.length) (fun k=>xs.length - k) 0 (Nat.zero_le _) ⟨rfl,rfl,rfl,trivial⟩ trivial ?_;intro k hk;conv=>whnf
 rw [hz];refine Br.mk (fun h=>?_) (fun h=>?_)
 ·have h:k < xs.length:=by simp only [decide_eq_true_eq] at h;omega
  obtain ⟨x,ex⟩:∃x,xs.getD k []=x:=⟨_,rfl⟩;conv=>whnf
  refine VDraw.go hmo hty 9 [] rfl ?_;conv=>whnf
  refine ⟨⟨⟨by omega,by rw [cT_len];omega⟩,cT_sz _⟩,?_⟩;conv=>whnf
  refine ⟨_,cT_as h ex,?_⟩;conv=>whnf
  refine ⟨⟨⟨by omega,by rw [cT_len];omega⟩,cT_sz _⟩,?_⟩;conv=>whnf
  refine ⟨_,cT_as h ex,?_⟩;conv=>whnf
  rw [show ((⟨x.toArray⟩:ByteArray).toList == (⟨x.toArray⟩:ByteArray).toList)=true by simp];conv=>whnf
  refine Wr.i64 (y:=((k+1:Nat):Int)) rfl (by omega) (by omega) ?_;conv=>whnf
  exact ⟨k+1,h,by show xs.length - (k+1) < xs.length - k;omega,⟨rfl,rfl,rfl,trivial⟩,trivial⟩
 ·have h:k=xs.length:=by simp only [decide_eq_false_iff_not] at h;omega
  conv=>whnf
  exact ⟨rfl,trivial,rfl⟩
end Go.V
namespace Go.V
open Go.Proofs Go.RowKit
set_option maxRecDepth 10000
set_option maxHeartbeats 4000000
theorem fit_byteP {c:C} (h:Fit c (.i .u8)):∃n:Nat,c = .s (.int .u8 (n:Int))∧n < 256:=by
 cases h with
 | i _ n h =>
  have h2:0≤n∧n < 256:=by
   simp [Lit.wf,IntKind.min,IntKind.max,IntKind.signed,IntKind.bits] at h
   omega
  exact ⟨n.toNat,by rw [Int.toNat_of_nonneg h2.1],by omega⟩
theorem fit_bytes {c:C} (h:Fit c (.sl [.i .u8])):∃xs:List Nat,c = .sl (cW .u8 xs)∧xs.length < 2 ^ 47∧∀x,x∈xs→x < 256:=by
 cases h with
 | sl rows _ h hl hf =>
  obtain ⟨xs,h1⟩:=rows_one (α:={ n:Nat // n < 256 }) (p:=fun c=>Fit c (.i .u8)) (g:=fun n=>.s (.int .u8 (n.1:Int))) (fun c hc=>by
   obtain ⟨n,h1,h2⟩:=fit_byteP hc;exact ⟨⟨n,h2⟩,h1⟩) hl (fun r hr c hc=>hf r hr 0 c _ hc rfl)
  subst h1
  refine ⟨xs.map (·.1),by simp [cW],by have:=reach_lt;simp at h ⊢;omega,fun x hx=>?_⟩
  obtain ⟨y,_,rfl⟩:=List.mem_map.1 hx
  exact y.2
theorem at8_lt (a:List Nat) (k m:Nat) (h:1≤m):at8 a k m < m:=by
 unfold at8
 split
 ·omega
 ·exact Nat.mod_lt _ (by omega)
theorem toldO_fit {q:Rat} (h:sz q≤190):toldO (some q)=(ratT q,true):=by
 have hf:=fits_smallQ h
 show (toldT q,fitsQ q)=_
 unfold toldT
 rw [hf];rfl
theorem ratT_ne {q:Rat} (h:sz q≤190) (h0:q≠0):ratT q≠[48]:=fun e=>by
 have h1:=rdRat_ratT (fits_smallQ h)
 have h2:=rdRat_ratT (q:=0) (fits_smallQ (by rw [sz_zero];decide))
 rw [e] at h1
 rw [ratT_0] at h2
 rw [h1] at h2
 exact h0 (Option.some.inj h2)
section
variable {P:Mt} {D:Nat}
theorem ChS.tin (h:ChS P D) {k:Nat} (hk:k≤3):ChIn (tellM (powM P k))∧chainQ (tellM (powM P k))=some (powM P k):=by
 have hs:∀r,r∈powM P k→∀q,q∈r→Go.V.sz q≤190:=fun r hr q hq=>by have:=h.pw_sz hk hr hq;omega
 exact ⟨tellM_in (h.pow hk) hs,chainQ_told (h.pow hk) hs⟩
theorem ChS.tin1 (h:ChS P D):ChIn (tellM P)∧chainQ (tellM P)=some P:=by
 have:=h.tin (k:=1) (by decide)
 rwa [powM_one h.ok] at this
theorem ChS.fPower (h:ChS P D) {k:Nat} (hk:k≤3):Fn Tryz.prog 7 [chI (tellM P),I k] [] (.tup [chI (tellM (powM P k)),B true]) []:=by
 have hs:∀r,r∈powM P k→∀q,q∈r→Go.V.sz q≤190:=fun r hr q hq=>by have:=h.pw_sz hk hr hq;omega
 have c:=fn_PowerOfChain (tellM P) k h.tin1.1;have e:powC (tellM P) k=some (tellM (powM P k)):=by
  unfold powC;rw [h.tin1.2];show (if 0≤(k:Int)∧(k:Int)≤40 then toldC (powM P (k:Int).toNat) else none)=_;rw [if_pos (by omega),Int.toNat_natCast,toldC_told hs]
 rw [e] at c;have hl:(tellM (powM P k)).length=(ixF 0 ((tellM (powM P k)).map List.length)).length:=by rw [ixF_len];simp
 have g2:=Fn.frzTMA (show Fn Tryz.prog _ _ [] (.tup (.ag [.ls 0 0 (tellM (powM P k)).length 1] :: [B true])) [(0,tldM (tellM (powM P k)))] from c) (by omega) (tld_in _) rfl;rwa [tld_data,List.drop_zero,List.take_of_length_le (by rw [cTT_len];exact Nat.le_refl _)] at g2
theorem ChS.fAfter (h:ChS P D) {k:Nat} (hk:k≤3) {i:Nat} (hi:i < P.length):Fn Tryz.prog 8 [chI (tellM P),lT ((pointQ P.length i).map ratT),I k] [] (.tup [lT ((afterQ P k (pointQ P.length i)).map ratT),B true]) []:=by
 have hn:=h.n5
 have hz:∀q,q∈pointQ P.length i→Go.V.sz q≤190:=fun q hq=>by have:=h.row_sz (k:=0) hi (by decide) hq;omega
 have hw:=pointQ_wk P.length i
 refine fn_AfterSteps1 (tellM P) _ h.tin1.1 (by rw [List.length_map,pointQ_len];omega) (fun x hx=>?_) h.tin1.2 (wQ_told (by rw [pointQ_len];omega) hz (fun q hq=>hw.pos hq) ?_) ?_ k (by omega) fun q hq=>by have:=h.row_sz hi hk hq;omega
 ·obtain ⟨q,hq,rfl⟩:=List.mem_map.1 hx
  have:=len190 (hz q hq)
  omega
 ·have:=after_sum h.ok hi 0
  rw [pointQ_len]
  exact this
 ·obtain ⟨g1,E,M,g2,g3,g4⟩:=hw
  exact ⟨g1,E,M,g2,by omega,g4⟩
theorem ChS.fWidest (h:ChS P D) {k:Nat} (hk:k≤3):Fn Tryz.prog 9 [chI (tellM (powM P k))] [] (.tup [Str (ratT (widestQ (powM P k))),B true]) []:=by
 have c:=fn_WidestRows (tellM (powM P k)) (h.tin hk).1
 rw [(h.tin hk).2] at c
 have hz:=h.widest hk
 rw [show (some (powM P k)).map widestQ=some (widestQ (powM P k)) from rfl,toldO_fit (by omega)] at c
 exact c
theorem ChS.fCommon (h:ChS P D) {k:Nat} (hk:k≤3):Fn Tryz.prog 15 [chI (tellM (powM P k))] [] (.tup [Str (ratT (commonQ (powM P k))),B true]) []:=by
 have c:=fn_CommonShare (tellM (powM P k)) (h.tin hk).1
 rw [(h.tin hk).2] at c
 have hz:=h.common hk
 rw [show (some (powM P k)).map commonQ=some (commonQ (powM P k)) from rfl,toldO_fit (by omega)] at c
 exact c
theorem ChS.fBound (h:ChS P D) {k:Nat} (hk:k≤3):Fn Tryz.prog 10 [chI (tellM P),I k] [] (.tup [Str (ratT (widestQ P ^ k)),B true]) []:=by
 have c:=fn_RestBound (tellM P) k h.tin1.1
 have e:boundO (tellM P) k=some (widestQ P ^ k):=by
  unfold boundO
  rw [if_pos (by omega),h.tin1.2,Int.toNat_natCast];rfl
 have hz:=h.bound hk
 rw [e,toldO_fit (by omega)] at c
 exact c
theorem ChS.fCmp (h:ChS P D) {k:Nat} (hk:k≤3):∃z:Int,(0 < z→k=0)∧Fn Tryz.prog 11 [Str (ratT (widestQ (powM P k))),Str (ratT (widestQ P ^ k))] [] (.tup [I z,B true]) []:=by
 have z1:=h.widest hk
 have z2:=h.bound hk
 have c:=fn_CompareFractions (ratT (widestQ (powM P k))) (ratT (widestQ P ^ k)) (by have:=len190 (q:=widestQ (powM P k)) (by omega);omega) (by have:=len190 (q:=widestQ P ^ k) (by omega);omega)
 unfold cmpO at c
 rw [rdRat_ratT (fits_smallQ (by omega)),rdRat_ratT (fits_smallQ (by omega))] at c
 refine ⟨_,fun hz=>?_,c⟩
 cases k with
 | zero=>rfl
 | succ k =>
  have hw:=widest_pow h.ok k
  dsimp only at hz
  rw [if_neg (show ¬widestQ P ^ (k+1) < widestQ (powM P (k+1)) by grind)] at hz
  split at hz <;> omega
theorem ChS.fValid (h:ChS P D) {k:Nat} (hk:k≤3):Fn Tryz.prog 12 [chI (tellM (powM P k))] [] (B true) []:=by
 have c:=fn_ValidChain (tellM (powM P k)) (h.tin hk).1
 rw [(h.tin hk).2] at c
 exact c
theorem ChS.fFirst (h:ChS P D):Fn Tryz.prog 14 [chI (tellM P),I 3] [] (caV (caF P 1 3)) []:=by
 have c:=fn_CommonAfter (tellM P) 3 h.tin1.1
 have e:caQ (tellM P) 3=caF P 1 3:=by
  unfold caQ
  rw [h.tin1.2];rfl
 rw [e] at c
 exact c
end
theorem law_powers (code more:List Nat) (hc:code.length < 2 ^ 47) (hm:more.length < 2 ^ 47) (hbc:∀x,x∈code→x < 256) (hbm:∀x,x∈more→x < 256):Fn Tryz.prog 3 [lB code,lB more] [] (B true) []:=by
 refine Fn.intro (ks:=[0,1,4,5,6,7,8,9,10,11,12,13,14,15,16,17,18,19,20,21,22,23,24,25,26,27,28,31,52,132,140,159,161]) hty rfl rfl rfl rfl rfl ?_;conv=>whnf
 refine VCall.of_data (fn_r8Long code more) (nd _) ?_;conv=>whnf
 by_cases hL:code.length≤48∧more.length≤48
 case neg =>
  rw [show (decide (48 < code.length) || decide (48 < more.length))=true by simp;omega];conv=>whnf
  exact ⟨rfl,trivial,rfl⟩
 rw [show (decide (48 < code.length) || decide (48 < more.length))=false by simp;omega];obtain ⟨P,hS,cc⟩:=ex_R8Chain code (by omega) hbc;have hn1:=hS.ok.n1;have hn5:=hS.n5;have cs:=fn_r8At more 0 4 (by decide) (by decide) hbm;have hs:=at8_lt more 0 4 (by decide);have ct:=fn_r8At more 1 P.length (by omega) (by decide) hbm;have ht:=at8_lt more 1 P.length hn1;obtain ⟨k,ek⟩:∃k,at8 more 0 4=k:=⟨_,rfl⟩;obtain ⟨st,est⟩:∃st,at8 more 1 P.length=st:=⟨_,rfl⟩;rw [ek] at cs hs;rw [est] at ct ht;have hk:k≤3:=by omega
 have c1:=hS.fPower hk;have c2:=hS.fAfter hk ht;have c3:=hS.fWidest hk;have c4:=hS.fBound hk;obtain ⟨z,hz,c5⟩:=hS.fCmp hk;have c6:=hS.fValid hk;have erow:(tellM (powM P k)).getD st []=(afterQ P k (pointQ P.length st)).map ratT:=by
  have hst:st < (powM P k).length:=by rw [powM_len];exact ht
  have e:=powM_at (p:=P) (n:=k) ht;rw [gD,List.getElem?_eq_getElem hst] at e;rw [gD,List.getElem?_map,List.getElem?_eq_getElem hst,←e];rfl
 have c7:=fn_r8Same ((afterQ P k (pointQ P.length st)).map ratT) (by rw [List.length_map,afterQ_len,pointQ_len];omega);have c8:=hS.fFirst;obtain ⟨⟨xa,xs,xb⟩,ex⟩:∃x,caF P 1 3=x:=⟨_,rfl⟩;rw [ex] at c8;have hpl:(tellM (powM P k)).length=P.length:=by rw [List.length_map,powM_len]
 have hTl:(tellM P).length=P.length:=by rw [List.length_map]
 generalize tellM (powM P k)=TP at c1 c3 c6 erow hpl;generalize (afterQ P k (pointQ P.length st)).map ratT=row at c2 erow c7;generalize ratT (widestQ (powM P k))=t1 at c3 c5;generalize ratT (widestQ P ^ k)=t2 at c4 c5;conv=>whnf
 refine VCall.of_data cc (ndA fun k=>rfl) ?_;conv=>whnf
 rw [cTT_len,hTl];refine VCall.of_data cs (nd _) ?_;conv=>whnf
 refine VCall.of_data ct (nd _) ?_;conv=>whnf
 refine VCall.of_data c1 (ndT fun _=>rfl) ?_;conv=>whnf
 refine ⟨⟨by omega,by omega,by show (P.length:Int)*((16:Nat):Int)≤_;omega,by omega⟩,?_⟩;conv=>whnf
 obtain ⟨n,en⟩:∃n,P.length=n:=⟨_,rfl⟩;rw [en] at hn1 hn5 ht ct c2 hpl hTl ⊢;have e0:List.replicate ((n:Int)).toNat [C.s (Value.string ByteArray.empty)]=cT (zrT (List.replicate n []) 0):=by
  rw [Int.toNat_natCast];unfold zrT cT;rw [List.drop_zero,List.replicate_zero,List.nil_append,List.map_replicate];rfl
 refine VLoop.inv hty (S:=Nat) (fun j=>[(12,I j),(11,.ls 49 0 n 1),(10,B true),(9,.lp 9 0),(8,I st),(7,I k),(6,I n),(5,.lp 5 0)]) (fun j=>[(49,.row true 1 (cT (zrT (List.replicate n []) j))),(9,.box true [.d (.sl (cTT TP))]),(5,.box true [.d (.sl (cTT (tellM P)))])])
  (fun j=>j≤n) (fun j=>n - j) 0 (Nat.zero_le _) ⟨rfl,rfl,rfl,rfl,rfl,rfl,rfl,rfl,trivial⟩ ⟨?_,rfl,rfl,trivial⟩ ?_
 ·show Ob.row true 1 (List.replicate ((n:Int)).toNat [C.s (Value.string ByteArray.empty)])=_;rw [e0]
 intro j hj;have hzl:=zrT_len (xs:=List.replicate n ([]:List UInt8)) (j:=j) (by rw [List.length_replicate];exact hj);rw [List.length_replicate] at hzl;conv=>whnf
 refine Br.mk (fun h3=>?_) (fun h3=>?_)
 ·have h3:j < n:=by simp only [decide_eq_true_eq] at h3;omega
  conv=>whnf
  refine ⟨⟨by omega,by omega⟩,?_⟩;conv=>whnf
  refine ⟨_,cT_as (xs:=zrT (List.replicate n []) j) (i:=j) (by omega) rfl,?_⟩;conv=>whnf
  refine Wr.i64 (y:=((j+1:Nat):Int)) rfl (by omega) (by omega) ?_;conv=>whnf
  refine ⟨j+1,h3,by show n - (j+1) < n - j;omega,⟨rfl,rfl,rfl,rfl,rfl,rfl,rfl,rfl,trivial⟩,?_,rfl,rfl,trivial⟩;show Ob.row true 1 ((cT (zrT (List.replicate n []) j)).set (((j:Nat):Int).toNat+0) [.s (.string ⟨([48]:List UInt8).toArray⟩)])=Ob.row true 1 (cT (zrT (List.replicate n []) (j+1)));rw [Int.toNat_natCast,Nat.add_zero,cT_set,zrT_next (by rw [List.length_replicate];exact h3)]
 ·have h3:j=n:=by simp only [decide_eq_false_iff_not] at h3;omega
  rw [h3,zrT_all (List.length_replicate ..)];conv=>whnf
  refine ⟨⟨by omega,by omega⟩,?_⟩;conv=>whnf
  refine ⟨_,cT_as (xs:=List.replicate n [48]) (i:=st) (by rw [List.length_replicate];exact ht) rfl,?_⟩;conv=>whnf
  have ep:(cT (List.replicate n [48])).set (((st:Nat):Int).toNat+0) [.s (.string ⟨([49]:List UInt8).toArray⟩)]=cT ((pointQ n st).map ratT):=by
   rw [Int.toNat_natCast,Nat.add_zero,cT_set,pointT_set ht]
  refine VCall.frzD 49 (n:=n) (sz:=1) (D:=cT ((pointQ n st).map ratT)) ⟨rfl,ep⟩ (by rw [cT_len,List.length_map,pointQ_len]) (by repeat first | exact trivial | refine ⟨⟨rfl,rfl,rfl⟩,?_⟩) (by repeat first | exact trivial | refine ⟨⟨rfl,rfl,rfl⟩,?_⟩) ?_;refine VCall.of_data c2 (ndT fun _=>rfl) ?_;conv=>whnf
  refine VCall.of_data c3 (ndT fun _=>rfl) ?_;conv=>whnf
  refine VCall.of_data c4 (ndT fun _=>rfl) ?_;conv=>whnf
  refine VCall.of_data c5 (ndT fun _=>rfl) ?_;conv=>whnf
  refine VCall.of_data c6 (nd _) ?_;conv=>whnf
  rw [cTT_len,hpl,decide_eq_true (rfl:((n:Nat):Int)=(n:Int))];conv=>whnf
  refine ⟨⟨⟨by omega,by rw [cTT_len];omega⟩,cTT_sz _⟩,?_⟩;conv=>whnf
  refine ⟨_,cTT_as (by omega) erow,?_⟩;conv=>whnf
  refine VCall.of_data c7 (nd _) ?_;conv=>whnf
  by_cases hz0:0 < z
  ·rw [decide_eq_true hz0];conv=>whnf
   rw [decide_eq_false (show ¬(0:Int) < (k:Int) by have:=hz hz0;omega)];conv=>whnf
   refine VCall.of_data c8 (ndT fun _=>rfl) ?_;conv=>whnf
   refine VLoop.inv hty (S:=Nat) (fun j=>[(24,I j),(23,B xb),(22,Str xs),(21,I xa),(5,.lp 5 0)]) (fun _=>[(5,.box true [.d (.sl (cTT (tellM P)))])])
    (fun j=>(1≤j∧j≤4)∧caF P j (4 - j)=(xa,xs,xb)) (fun j=>4 - j) 1 ⟨⟨by decide,by decide⟩,ex⟩ ⟨rfl,rfl,rfl,rfl,rfl,trivial⟩ ⟨rfl,trivial⟩ ?_
   rintro j ⟨⟨j1,j2⟩,hx⟩;conv=>whnf
   refine Br.mk (fun h4=>?_) (fun h4=>?_)
   ·have h4:j≤3:=by simp only [decide_eq_true_eq] at h4;omega
    have d1:=hS.fPower h4;have d2:=hS.fCommon h4;have d3:=hS.common h4;rw [show 4 - j=(4 - (j+1))+1 by omega] at hx;unfold caF at hx;obtain ⟨cm,ecm⟩:∃q,commonQ (powM P j)=q:=⟨_,rfl⟩;rw [ecm] at d2 d3 hx;generalize tellM (powM P j)=TJ at d1 d2;conv=>whnf
    refine VCall.of_data d1 (ndT fun _=>rfl) ?_;conv=>whnf
    refine VCall.of_data d2 (ndT fun _=>rfl) ?_;conv=>whnf
    rw [show ((⟨(ratT cm).toArray⟩:ByteArray).toList == (⟨#[48]⟩:ByteArray).toList)=decide (ratT cm=[48]) from baeq (ratT cm) [48]];by_cases h0:cm=0
    ·rw [if_pos h0] at hx;rw [decide_eq_true (show ratT cm=[48] by rw [h0,ratT_0])];conv=>whnf
     refine Wr.i64 (y:=((j+1:Nat):Int)) rfl (by omega) (by omega) ?_;conv=>whnf
     exact ⟨j+1,⟨⟨by omega,by omega⟩,hx⟩,by show 4 - (j+1) < 4 - j;omega,⟨rfl,rfl,rfl,rfl,rfl,trivial⟩,⟨rfl,trivial⟩⟩
    ·have hf:=fits_smallQ (q:=cm) (by omega);rw [if_neg h0,if_pos hf,show toldT cm=ratT cm by unfold toldT;rw [hf];rfl] at hx;simp only [Prod.mk.injEq] at hx;obtain ⟨rfl,rfl,rfl⟩:=hx;rw [decide_eq_false (ratT_ne (by omega) h0)];conv=>whnf
     rw [decide_eq_true (rfl:((j:Nat):Int)=(j:Int))];conv=>whnf
     rw [show ((⟨(ratT cm).toArray⟩:ByteArray).toList == (⟨(ratT cm).toArray⟩:ByteArray).toList)=true by simp];exact ⟨rfl,trivial,rfl⟩
   ·have h4:j=4:=by simp only [decide_eq_false_iff_not] at h4;omega
    rw [h4] at hx;have hx:((0,[],false):Nat×List UInt8×Bool)=(xa,xs,xb):=hx;simp only [Prod.mk.injEq] at hx;obtain ⟨rfl,rfl,rfl⟩:=hx;conv=>whnf
    exact ⟨rfl,trivial,rfl⟩
  ·rw [decide_eq_false hz0];conv=>whnf
   refine VCall.of_data c8 (ndT fun _=>rfl) ?_;conv=>whnf
   refine VLoop.inv hty (S:=Nat) (fun j=>[(24,I j),(23,B xb),(22,Str xs),(21,I xa),(5,.lp 5 0)]) (fun _=>[(5,.box true [.d (.sl (cTT (tellM P)))])])
    (fun j=>(1≤j∧j≤4)∧caF P j (4 - j)=(xa,xs,xb)) (fun j=>4 - j) 1 ⟨⟨by decide,by decide⟩,ex⟩ ⟨rfl,rfl,rfl,rfl,rfl,trivial⟩ ⟨rfl,trivial⟩ ?_
   rintro j ⟨⟨j1,j2⟩,hx⟩;conv=>whnf
   refine Br.mk (fun h4=>?_) (fun h4=>?_)
   ·have h4:j≤3:=by simp only [decide_eq_true_eq] at h4;omega
    have d1:=hS.fPower h4;have d2:=hS.fCommon h4;have d3:=hS.common h4;rw [show 4 - j=(4 - (j+1))+1 by omega] at hx;unfold caF at hx;obtain ⟨cm,ecm⟩:∃q,commonQ (powM P j)=q:=⟨_,rfl⟩;rw [ecm] at d2 d3 hx;generalize tellM (powM P j)=TJ at d1 d2;conv=>whnf
    refine VCall.of_data d1 (ndT fun _=>rfl) ?_;conv=>whnf
    refine VCall.of_data d2 (ndT fun _=>rfl) ?_;conv=>whnf
    rw [show ((⟨(ratT cm).toArray⟩:ByteArray).toList == (⟨#[48]⟩:ByteArray).toList)=decide (ratT cm=[48]) from baeq (ratT cm) [48]];by_cases h0:cm=0
    ·rw [if_pos h0] at hx;rw [decide_eq_true (show ratT cm=[48] by rw [h0,ratT_0])];conv=>whnf
     refine Wr.i64 (y:=((j+1:Nat):Int)) rfl (by omega) (by omega) ?_;conv=>whnf
     exact ⟨j+1,⟨⟨by omega,by omega⟩,hx⟩,by show 4 - (j+1) < 4 - j;omega,⟨rfl,rfl,rfl,rfl,rfl,trivial⟩,⟨rfl,trivial⟩⟩
    ·have hf:=fits_smallQ (q:=cm) (by omega);rw [if_neg h0,if_pos hf,show toldT cm=ratT cm by unfold toldT;rw [hf];rfl] at hx;simp only [Prod.mk.injEq] at hx;obtain ⟨rfl,rfl,rfl⟩:=hx;rw [decide_eq_false (ratT_ne (by omega) h0)];conv=>whnf
     rw [decide_eq_true (rfl:((j:Nat):Int)=(j:Int))];conv=>whnf
     rw [show ((⟨(ratT cm).toArray⟩:ByteArray).toList == (⟨(ratT cm).toArray⟩:ByteArray).toList)=true by simp];exact ⟨rfl,trivial,rfl⟩
   ·have h4:j=4:=by simp only [decide_eq_false_iff_not] at h4;omega
    rw [h4] at hx;have hx:((0,[],false):Nat×List UInt8×Bool)=(xa,xs,xb):=hx;simp only [Prod.mk.injEq] at hx;obtain ⟨rfl,rfl,rfl⟩:=hx;conv=>whnf
    exact ⟨rfl,trivial,rfl⟩
end Go.V
