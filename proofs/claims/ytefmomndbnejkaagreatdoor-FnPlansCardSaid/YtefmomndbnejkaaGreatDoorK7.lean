/- Part 7: the abstract machine, its soundness, contracts of functions. -/
import Derived.Test.YtefmomndbnejkaaGreatDoorK6
import Derived.Test.YtefmomndbnejkaaGreatDoorK3
set_option linter.unusedVariables false
set_option linter.unusedSimpArgs false
namespace Go.V
def redRow (k u:Nat) (out:Rat) (b a:List Rat):List Rat:=(List.range a.length).map fun j=>if j < u then a.getD j 0+a.getD k 0 / out*b.getD j 0 else if j=k then a.getD k 0 / out else a.getD j 0
theorem redRow_len (k u:Nat) (out:Rat) (b a:List Rat):(redRow k u out b a).length=a.length:=by simp [redRow]
theorem redRow_at {k u:Nat} {out:Rat} {b a:List Rat} {j:Nat} (h:j < a.length):(redRow k u out b a).getD j 0=if j < u then a.getD j 0+a.getD k 0 / out*b.getD j 0 else if j=k then a.getD k 0 / out else a.getD j 0:=by
 rw [gD,List.getElem?_eq_getElem (by rw [redRow_len];exact h)];simp [redRow]
def outL (b:List Rat) (k:Nat):Rat:=sN k fun j=>b.getD j 0
def redLU (k u:Nat) (R:Mt):Mt:=(List.range R.length).map fun i=>if i < u then redRow k k (outL (R.getD k []) k) (R.getD k []) (R.getD i []) else R.getD i []
theorem redLU_len (k u:Nat) (R:Mt):(redLU k u R).length=R.length:=by simp [redLU]
theorem redLU_at {k u:Nat} {R:Mt} {i:Nat} (h:i < R.length):(redLU k u R).getD i []=if i < u then redRow k k (outL (R.getD k []) k) (R.getD k []) (R.getD i []) else R.getD i []:=by
 rw [gD,List.getElem?_eq_getElem (by rw [redLU_len];exact h)];simp [redLU]
def Sq (n:Nat) (R:Mt):Prop:=R.length=n∧∀i,i < n→(R.getD i []).length=n
theorem Sq.red {n k u:Nat} {R:Mt} (h:Sq n R):Sq n (redLU k u R):=⟨by rw [redLU_len,h.1],fun i hi=>by
 rw [redLU_at (by rw [h.1];exact hi)]
 split
 ·rw [redRow_len];exact h.2 i hi
 ·exact h.2 i hi⟩
def gthL:Nat→Mt→Mt
 | 0,R=>R
 | k+1,R=>gthL k (redLU (k+1) (k+1) R)
theorem redL_ent {n k:Nat} {R:Mt} (h:Sq n R) (hk:k < n) {i j:Nat} (hi:i < n) (hj:j < n):ent (redLU k k R) i j=redM (ent R) k i j:=by
 unfold ent
 rw [redLU_at (by rw [h.1];exact hi)]
 unfold redM
 by_cases e:i < k
 ·rw [if_pos e,redRow_at (by rw [h.2 i hi];exact hj)]
  by_cases e2:j < k
  ·rw [if_pos e2,if_pos ⟨e,e2⟩];rfl
  ·rw [if_neg e2,if_neg (show ¬(i < k∧j < k) by omega)]
   by_cases e3:j=k
   ·rw [if_pos e3,if_pos ⟨e,e3⟩];rfl
   ·rw [if_neg e3,if_neg (show ¬(i < k∧j=k) by omega)]
 ·rw [if_neg e,if_neg (by omega),if_neg (by omega)]
theorem redM_congr {n k:Nat} {A B:Fm} (hk:k < n) (h:∀i j,i < n→j < n→A i j=B i j) {i j:Nat} (hi:i < n) (hj:j < n):redM A k i j=redM B k i j:=by
 have ho:outM A k=outM B k:=sN_congr fun j hj=>h k j hk (by omega)
 unfold redM
 rw [ho,h i j hi hj,h i k hi hk,h k j hk hj]
theorem gthM_congr {n:Nat}:∀{k:Nat} {A B:Fm},k < n→(∀i j,i < n→j < n→A i j=B i j)→∀i j,i < n→j < n→gthM k A i j=gthM k B i j
 | 0,_,_,_,h,i,j,hi,hj=>h i j hi hj
 | k+1,_,_,hk,h,i,j,hi,hj=>gthM_congr (k:=k) (by omega) (fun i j hi hj=>redM_congr hk h hi hj) i j hi hj
theorem gthL_ent {n:Nat}:∀{k:Nat} {R:Mt},Sq n R→k < n→∀i j,i < n→j < n→ent (gthL k R) i j=gthM k (ent R) i j
 | 0,_,_,_,i,j,hi,hj=>rfl
 | k+1,R,h,hk,i,j,hi,hj=>by
  show ent (gthL k (redLU (k+1) (k+1) R)) i j=gthM k (redM (ent R) (k+1)) i j
  rw [gthL_ent (k:=k) h.red (by omega) i j hi hj]
  exact gthM_congr (n:=n) (by omega) (fun i j hi hj=>redL_ent h hk hi hj) i j hi hj
theorem wL_congr {n:Nat} {A B:Fm} (h:∀i j,i < n→j < n→A i j=B i j):∀k,k < n→wL A k=wL B k
 | 0,_=>rfl
 | k+1,hk=>by
  unfold wL
  rw [wL_congr h k (by omega)]
  congr 2
  exact sN_congr fun i hi=>by rw [h i (k+1) (by omega) hk]
theorem sum_nat {n t:Nat} {z:Nat→Int} (hn:n≤12) (h:∀i,i < n→bl (z i).natAbs < t) (ht:1≤t):∃Z:Int,(sN n fun i=>(z i:Rat))=(Z:Rat)∧bl Z.natAbs < t+4:=by
 have:∀m,m≤n→∃Z:Int,(sN m fun i=>(z i:Rat))=(Z:Rat)∧Z.natAbs≤m*(2 ^ (t - 1)):=by
  intro m
  induction m with
  | zero=>intro _;exact ⟨0,rfl,by simp⟩
  | succ m ih =>
   intro hm
   obtain ⟨Z,h1,h2⟩:=ih (by omega)
   refine ⟨Z+z m,?_,?_⟩
   ·show (sN m fun i=>(z i:Rat))+(z m:Rat)=_
    rw [h1,Rat.intCast_add]
   ·have h3:=lt_bl (z m).natAbs
    have h4:=h m (by omega)
    have h5:2 ^ bl (z m).natAbs≤2 ^ (t - 1):=Nat.pow_le_pow_right (by decide) (by omega)
    have h6:=Int.natAbs_add_le Z (z m)
    rw [Nat.succ_mul]
    omega
 obtain ⟨Z,h1,h2⟩:=this n (Nat.le_refl _)
 refine ⟨Z,h1,?_⟩
 have h3:n*2 ^ (t - 1)≤12*2 ^ (t - 1):=Nat.mul_le_mul_right _ hn
 have h4:bl Z.natAbs≤t+3:=bl_le (by
  have h5:2 ^ (t+3)=16*2 ^ (t - 1):=by
   rw [show t+3=4+(t - 1) by omega,Nat.pow_add]
  have h6:=Nat.two_pow_pos (t - 1)
  omega)
 omega
theorem RowB.fn {t:Nat} {r:List Rat} (h:RowB t r):∃E:Nat,E≠0∧bl E < t∧∃z:Nat→Int,∀j,j < r.length→r.getD j 0*((E:Int):Rat)=(z j:Rat)∧bl (z j).natAbs < t:=by
 obtain ⟨E,h1,h2,h3⟩:=h
 have h4:∀j,∃z:Int,j < r.length→r.getD j 0*((E:Int):Rat)=(z:Rat)∧bl z.natAbs < t:=fun j=>by
  by_cases hj:j < r.length
  ·obtain ⟨z,h4,h5⟩:=h3 _ (getD_mem (d:=0) hj)
   exact ⟨z,fun _=>⟨h4,h5⟩⟩
  ·exact ⟨0,fun h=>absurd h hj⟩
 exact ⟨E,h1,h2,fun j=>(h4 j).choose,fun j hj=>(h4 j).choose_spec hj⟩
theorem RowB.one {t:Nat} {r:List Rat} (h:RowB t r):1≤t:=by
 obtain ⟨E,_,h2,_⟩:=h;omega
theorem takeD_at {r:List Rat} {k j:Nat} (h:j < k):(r.take k).getD j 0=r.getD j 0:=by
 rw [gD,List.getElem?_take_of_lt h,gD]
theorem mem_take {r:List Rat} {k:Nat} {q:Rat} (h:q∈r.take k):∃j,j < k∧j < r.length∧q=r.getD j 0:=by
 obtain ⟨j,hj,e⟩:=List.mem_iff_getElem.1 h;have hj2:j < k∧j < r.length:=by simpa [List.length_take,Nat.lt_min] using hj
 refine ⟨j,hj2.1,hj2.2,?_⟩;rw [←e,List.getElem_take,gD,List.getElem?_eq_getElem hj2.2];rfl
theorem out_sz {t k:Nat} {b:List Rat} (hb:RowB t (b.take (k+1))) (hk:k < b.length) (h12:k≤12):∃F:Nat,F≠0∧bl F < t∧∃S:Int,outL b k*((F:Int):Rat)=(S:Rat)∧bl S.natAbs < t+4:=by
 obtain ⟨F,f1,f2,z,f3⟩:=hb.fn
 have hz:∀j,j < k→b.getD j 0*((F:Int):Rat)=(z j:Rat)∧bl (z j).natAbs < t:=fun j hj=>by
  have:=f3 j (by rw [List.length_take];omega)
  rwa [takeD_at (by omega)] at this
 obtain ⟨S,s1,s2⟩:=sum_nat (n:=k) (t:=t) (z:=z) h12 (fun j hj=>(hz j hj).2) hb.one
 refine ⟨F,f1,f2,S,?_,s2⟩
 rw [←s1]
 unfold outL
 rw [Rat.mul_comm,←sN_mul]
 exact sN_congr fun j hj=>by rw [←(hz j hj).1,Rat.mul_comm]
theorem out_sz2 {t k:Nat} {b:List Rat} (hb:RowB t (b.take (k+1))) (hk:k < b.length) (h12:k≤12):sz (outL b k) < t+4:=by
 obtain ⟨F,f1,f2,S,s1,s2⟩:=out_sz hb hk h12
 exact RowB.sz (r:=[outL b k]) ⟨F,f1,by omega,fun q hq=>⟨S,by rw [List.mem_singleton.1 hq];exact s1,s2⟩⟩ (by simp)
theorem red_row {t k:Nat} {a b:List Rat} (ha:RowB t (a.take (k+1))) (hb:RowB t (b.take (k+1))) (hak:k < a.length) (hbk:k < b.length) (h12:k≤12) (h0:outL b k≠0):RowB (2*t+6) ((redRow k k (outL b k) b a).take k):=by
 obtain ⟨F,f1,f2,y,f3⟩:=hb.fn;have hy:∀j,j < k+1→b.getD j 0*((F:Int):Rat)=(y j:Rat)∧bl (y j).natAbs < t:=fun j hj=>by
  have:=f3 j (by rw [List.length_take];omega);rwa [takeD_at hj] at this
 obtain ⟨E,e1,e2,x,e3⟩:=ha.fn;have hx:∀j,j < k+1→a.getD j 0*((E:Int):Rat)=(x j:Rat)∧bl (x j).natAbs < t:=fun j hj=>by
  have:=e3 j (by rw [List.length_take];omega);rwa [takeD_at hj] at this
 obtain ⟨S,s1,s2⟩:=sum_nat (n:=k) (t:=t) (z:=y) h12 (fun j hj=>(hy j (by omega)).2) hb.one;have hS:outL b k*((F:Int):Rat)=(S:Rat):=by
  rw [←s1];unfold outL;rw [Rat.mul_comm,←sN_mul];exact sN_congr fun j hj=>by rw [←(hy j (by omega)).1,Rat.mul_comm]
 obtain ⟨o,eo⟩:∃o,outL b k=o:=⟨_,rfl⟩;rw [eo] at hS h0 ⊢;have hF:((F:Int):Rat)≠0:=by exact_mod_cast (by omega:(F:Int)≠0)
 have hS0:S≠0:=fun e=>by
  rw [e] at hS;rcases Rat.mul_eq_zero.1 (show o*((F:Int):Rat)=0 from hS) with h | h
  ·exact h0 h
  ·exact hF h
 obtain ⟨s,hs,hs2⟩:∃s:Int,((S.natAbs:Nat):Int)=s*S∧s.natAbs=1:=by
  by_cases h:0≤S
  ·exact ⟨1,by omega,rfl⟩
  ·exact ⟨-1,by omega,rfl⟩
 have bE:=bl_mul E S.natAbs;have ht:=hb.one;refine ⟨E*S.natAbs,Nat.mul_ne_zero e1 (by omega),by omega,fun q hq=>?_⟩;obtain ⟨j,hj,hj2,rfl⟩:=mem_take hq;rw [redRow_len] at hj2;rw [redRow_at hj2,if_pos hj];obtain ⟨x1,x2⟩:=hx j (by omega);obtain ⟨y1,y2⟩:=hy j (by omega);obtain ⟨k1,k2⟩:=hx k (by omega);have eN:(((E*S.natAbs:Nat):Int):Rat)=((E:Int):Rat)*((s:Rat)*(S:Rat)):=by rw [Int.natCast_mul,Rat.intCast_mul,hs,Rat.intCast_mul]
 have hdiv:=Rat.div_mul_cancel (a:=a.getD k 0) h0;refine ⟨s*(x j*S+x k*y j),?_,?_⟩
 ·rw [eN,Rat.intCast_mul,Rat.intCast_add,Rat.intCast_mul,Rat.intCast_mul,←x1,←y1,←k1,←hS];grind
 ·have h1:(s*(x j*S+x k*y j)).natAbs≤(x j).natAbs*S.natAbs+(x k).natAbs*(y j).natAbs:=by
   rw [Int.natAbs_mul,hs2,Nat.one_mul];have h1:=Int.natAbs_add_le (x j*S) (x k*y j);rw [Int.natAbs_mul,Int.natAbs_mul] at h1;exact h1
  have h2:=bl_mono h1;have h3:=bl_add ((x j).natAbs*S.natAbs) ((x k).natAbs*(y j).natAbs);have h4:=bl_mul (x j).natAbs S.natAbs;have h5:=bl_mul (x k).natAbs (y j).natAbs;omega
def tt (t d:Nat):Nat:=2 ^ d*(t+6) - 6
theorem tt_next (t d:Nat):2*tt t d+6=tt t (d+1):=by
 unfold tt
 have h1:1*6≤2 ^ d*(t+6):=Nat.mul_le_mul (Nat.two_pow_pos d) (by omega)
 rw [Nat.pow_succ,Nat.mul_comm (2 ^ d) 2,Nat.mul_assoc]
 omega
theorem tt_zero (t:Nat):tt t 0=t:=by unfold tt;omega
theorem tt_mono {t d e:Nat} (h:d≤e):tt t d≤tt t e:=by
 have:2 ^ d*(t+6)≤2 ^ e*(t+6):=Nat.mul_le_mul_right _ (Nat.pow_le_pow_right (by decide) h)
 unfold tt;omega
structure GL (n t V:Nat) (R:Mt) (k:Nat):Prop where
 sq:Sq n R
 st:Sto (k+1) (ent R)
 cl:Cl (k+1) (ent R) 0
 row:∀i,i < k+1→RowB t ((R.getD i []).take (k+1))
 col:∀i c,i < c→k < c→c < n→sz (ent R i c)≤V
theorem GL.out0 {n t V k:Nat} {R:Mt} (h:GL n t V R (k+1)):outL (R.getD (k+1) []) (k+1)≠0:=Rat.ne_of_gt (h.cl.out h.st (by omega))
theorem Sto.congr {n:Nat} {A B:Fm} (h:∀i j,i < n→j < n→A i j=B i j) (hA:Sto n A):Sto n B :=
 ⟨fun i j hi hj=>by rw [←h i j hi hj];exact hA.pos i j hi hj,fun i hi=>by rw [←hA.one i hi];exact sN_congr fun j hj=>(h i j hi hj).symm⟩
theorem Cl.congr {n s:Nat} {A B:Fm} (h:∀i j,i < n→j < n→A i j=B i j) (hA:Cl n A s):Cl n B s :=
 fun T h1 h2=>hA T h1 fun i j hi hj h3 h4=>h2 i j hi hj h3 (by rw [←h i j hi hj];exact h4)
theorem GL.next {n t V k:Nat} {R:Mt} (h:GL n t V R (k+1)) (hk:k+1 < n) (hn:n≤12) (hV:2*t+4≤V):GL n (2*t+6) V (redLU (k+1) (k+1) R) k:=by
 have e:∀i j,i < k+1→j < k+1→redM (ent R) (k+1) i j=ent (redLU (k+1) (k+1) R) i j:=fun i j hi hj=>(redL_ent h.sq hk (by omega) (by omega)).symm
 refine ⟨h.sq.red,(h.st.red h.cl (by omega)).congr e,(h.cl.red h.st (by omega)).congr e,fun i hi=>?_,fun i c h1 h2 h3=>?_⟩
 ·rw [redLU_at (by rw [h.sq.1];omega),if_pos hi]
  exact red_row (h.row i (by omega)) (h.row (k+1) (by omega)) (by rw [h.sq.2 i (by omega)];exact hk) (by rw [h.sq.2 _ hk];exact hk) (by omega) h.out0
 ·rw [redL_ent h.sq hk (by omega) h3]
  unfold redM
  rw [if_neg (by omega)]
  by_cases e2:c=k+1
  ·subst e2
   rw [if_pos ⟨h1,rfl⟩]
   have z1:sz (ent R i (k+1)) < t:=by
    have:=(h.row i (by omega)).sz (q:=ent R i (k+1)) (by
     have:=getD_mem (xs:=(R.getD i []).take (k+1+1)) (i:=k+1) (d:=0) (by rw [List.length_take,h.sq.2 i (by omega)];omega)
     rwa [takeD_at (by omega)] at this)
    exact this
   have z2:=out_sz2 (h.row (k+1) (by omega)) (by rw [h.sq.2 _ hk];exact hk) (by omega)
   have z3:=sz_div (ent R i (k+1)) h.out0
   exact Nat.le_trans z3 (by omega)
  ·rw [if_neg (by omega)]
   exact h.col i c h1 (by omega) h3
theorem GL.all {n t V:Nat} (hn:n≤12):∀{k d:Nat} {R:Mt},GL n (tt t d) V R k→k < n→2*tt t (d+k)+4≤V→GL n (tt t (d+k)) V (gthL k R) 0
 | 0,_,_,h,_,_=>h
 | k+1,d,R,h,hk,hV=>by
  have h1:=h.next hk hn (by have:=tt_mono (t:=t) (d:=d) (e:=d+(k+1)) (by omega);omega)
  rw [tt_next] at h1
  have h2:=GL.all hn (k:=k) h1 (by omega) (by rw [show d+1+k=d+(k+1) by omega];exact hV)
  rw [show d+1+k=d+(k+1) by omega] at h2
  exact h2
theorem RowB.of_sz {V:Nat} {r:List Rat} (hn:r.length≤12) (h:∀q,q∈r→Go.V.sz q≤V):RowB (13*V+4) r:=by
 have h1:=dens_bl (m:=V) h;have h2:r.length*V≤12*V:=Nat.mul_le_mul_right _ hn;have h3:=bl_mul (2 ^ V) (dens r);have h4:bl (2 ^ V)≤V+1:=bl_le (Nat.pow_lt_pow_right (by decide) (by omega));refine RowB.of_iz (dens_pos r) (by omega) (2 ^ V) (by omega) fun q hq=>⟨(Iz.den q).of_dvd (dens_dvd hq),?_⟩;have b1:=Nat.le_trans (bl_tp q) (h q hq);have b2:=lt_bl (tp q);have b3:tp q≤2 ^ V:=by
  have:2 ^ bl (tp q)≤2 ^ V:=Nat.pow_le_pow_right (by decide) b1;omega
 have b4:((tp q:Int):Rat)≤((2 ^ V:Nat):Int):=by exact_mod_cast b3
 by_cases h0:0≤q
 ·have:=le_tp h0;exact ⟨by grind,by grind⟩
 ·have:=le_tp (q:=-q) (by grind);rw [(neg_parts q).2.1] at this;exact ⟨by grind,by grind⟩
theorem RowB.snoc {u v n:Nat} {w c:List Rat} (hw:RowB u w) (hc:RowB v c) (hn:n≤12) (h1:n≤w.length) (h2:n≤c.length):RowB (u+v+4) (w++[sN n fun i=>w.getD i 0*c.getD i 0]):=by
 obtain ⟨E,e1,e2,x,e3⟩:=hw.fn;obtain ⟨F,f1,f2,y,f3⟩:=hc.fn;have hv:=hc.one;have hu:=hw.one;obtain ⟨S,s1,s2⟩:=sum_nat (n:=n) (t:=u+v - 1) (z:=fun i=>x i*y i) hn (fun i hi=>by
  have h3:=(e3 i (by omega)).2;have h4:=(f3 i (by omega)).2;have h5:=bl_mul (x i).natAbs (y i).natAbs;rw [Int.natAbs_mul];omega) (by omega)
 have b:=bl_mul E F;have eN:(((E*F:Nat):Int):Rat)=((E:Int):Rat)*((F:Int):Rat):=by rw [Int.natCast_mul,Rat.intCast_mul]
 refine ⟨E*F,Nat.mul_ne_zero e1 f1,by omega,fun q hq=>?_⟩;rw [eN];rcases List.mem_append.1 hq with h | h
 ·obtain ⟨j,hj,e⟩:=List.mem_iff_getElem.1 h;obtain ⟨h3,h4⟩:=e3 j hj;rw [gD,List.getElem?_eq_getElem hj,e] at h3;have h3:q*((E:Int):Rat)=(x j:Rat):=h3;refine ⟨x j*(F:Int),?_,?_⟩
  ·rw [Rat.intCast_mul,←h3,Rat.mul_assoc]
  ·have:=bl_mul (x j).natAbs F;rw [Int.natAbs_mul,Int.natAbs_natCast];omega
 ·rw [List.mem_singleton.1 h];refine ⟨S,?_,by omega⟩;rw [←s1,Rat.mul_comm,←sN_mul];refine sN_congr fun i hi=>?_;rw [Rat.intCast_mul,←(e3 i (by omega)).1,←(f3 i (by omega)).1];grind
theorem wL_row {n V:Nat} {M:Fm} (hn:n≤12) (h:∀i c,i < c→c < n→sz (M i c)≤V):∀k,k < n→RowB (2+k*(13*V+8)) (wL M k)
 | 0,_=>by
  rw [Nat.zero_mul]
  exact ⟨1,by decide,by decide,fun q hq=>⟨1,by rw [List.mem_singleton.1 hq,Rat.one_mul];rfl,by decide⟩⟩
 | k+1,hk=>by
  have h1:=wL_row hn h k (by omega)
  have h2:RowB (13*V+4) ((List.range (k+1)).map fun i=>M i (k+1)):=RowB.of_sz (by simp;omega) fun q hq=>by
   obtain ⟨i,hi,rfl⟩:=List.mem_map.1 hq
   exact h i (k+1) (by simpa using hi) hk
  have h3:=h1.snoc (n:=k+1) h2 (by omega) (by rw [wL_len];omega) (by simp)
  have e:(sN (k+1) fun i=>(wL M k).getD i 0*((List.range (k+1)).map fun i=>M i (k+1)).getD i 0)=sN (k+1) fun i=>(wL M k).getD i 0*M i (k+1):=sN_congr fun i hi=>by
   congr 1
   rw [gD,List.getElem?_eq_getElem (by simpa using hi)];simp
  rw [e] at h3
  exact h3.mono (by rw [Nat.succ_mul k];omega)
theorem RowB.norm {u:Nat} {w:List Rat} (h:RowB u w) (hn:w.length≤12) (h0:(sN w.length fun i=>w.getD i 0)≠0):RowB (u+4) (w.map (· / sN w.length fun i=>w.getD i 0)):=by
 obtain ⟨E,e1,e2,x,e3⟩:=h.fn;have hu:=h.one;obtain ⟨S,s1,s2⟩:=sum_nat (n:=w.length) (t:=u) (z:=x) hn (fun i hi=>(e3 i hi).2) hu;obtain ⟨o,eo⟩:∃o,(sN w.length fun i=>w.getD i 0)=o:=⟨_,rfl⟩;have hS:o*((E:Int):Rat)=(S:Rat):=by
  rw [←s1,←eo,Rat.mul_comm,←sN_mul];exact sN_congr fun i hi=>by rw [←(e3 i hi).1,Rat.mul_comm]
 rw [eo] at h0 ⊢;have hE:((E:Int):Rat)≠0:=by exact_mod_cast (by omega:(E:Int)≠0)
 have hS0:S≠0:=fun e=>by
  rw [e] at hS;rcases Rat.mul_eq_zero.1 (show o*((E:Int):Rat)=0 from hS) with h | h
  ·exact h0 h
  ·exact hE h
 obtain ⟨s,hs,hs2⟩:∃s:Int,((S.natAbs:Nat):Int)=s*S∧s.natAbs=1:=by
  by_cases h:0≤S
  ·exact ⟨1,by omega,rfl⟩
  ·exact ⟨-1,by omega,rfl⟩
 refine ⟨S.natAbs,by omega,by omega,fun q hq=>?_⟩;obtain ⟨a,ha,rfl⟩:=List.mem_map.1 hq;obtain ⟨j,hj,e⟩:=List.mem_iff_getElem.1 ha;obtain ⟨h3,h4⟩:=e3 j hj;rw [gD,List.getElem?_eq_getElem hj,e] at h3;have h3:a*((E:Int):Rat)=(x j:Rat):=h3;refine ⟨s*x j,?_,by rw [Int.natAbs_mul,hs2,Nat.one_mul];omega⟩;rw [hs,Rat.intCast_mul,Rat.intCast_mul,←h3,←hS];have:=Rat.div_mul_cancel (a:=a) h0;grind
def wR (p:Mt):List Rat:=wL (ent (gthL (p.length - 1) p)) (p.length - 1)
def restU (p:Mt):List Rat:=(wR p).map (· / sN (wR p).length fun i=>(wR p).getD i 0)
structure MtR (p:Mt) (t:Nat):Prop where
 n1:1≤p.length
 n2:p.length≤12
 sq:∀r,r∈p→r.length=p.length
 pos:∀r,r∈p→∀q,q∈r→0≤q
 row:∀r,r∈p→RowB t r
 one:∀r,r∈p→sN r.length (r.getD · 0)=1
theorem MtR.toSq {p:Mt} {t:Nat} (h:MtR p t):Sq p.length p:=⟨rfl,fun i hi=>h.sq _ (getD_mem hi)⟩
theorem MtR.sto {p:Mt} {t:Nat} (h:MtR p t):Sto p.length (ent p) :=
 ⟨fun i j hi hj=>h.pos _ (getD_mem hi) _ (getD_mem (by rw [h.sq _ (getD_mem hi)];exact hj)),fun i hi=>by
  have:=h.one _ (getD_mem (d:=[]) hi)
  rwa [h.sq _ (getD_mem hi)] at this⟩
theorem RowB.take {t k:Nat} {r:List Rat} (h:RowB t r):RowB t (r.take k):=by
 obtain ⟨E,h1,h2,h3⟩:=h
 exact ⟨E,h1,h2,fun q hq=>h3 q (List.mem_of_mem_take hq)⟩
theorem MtR.gl {p:Mt} {t:Nat} (h:MtR p t) (hc:Cl p.length (ent p) 0) (V:Nat):GL p.length t V p (p.length - 1):=by
 have h1:=h.n1;have e:p.length - 1+1=p.length:=by omega
 exact ⟨h.toSq,by rw [e];exact h.sto,by rw [e];exact hc,fun i hi=>(h.row _ (getD_mem (by omega))).take,fun i c h1 h2 h3=>by omega⟩
def uu (t n:Nat):Nat:=2+12*(13*(2*tt t (n - 1)+4)+8)
theorem MtR.w_row {p:Mt} {t:Nat} (h:MtR p t) (hc:Cl p.length (ent p) 0):RowB (uu t p.length) (wR p):=by
 have h1:=h.n1
 have h2:=h.n2
 have g:=GL.all (t:=t) (V:=2*tt t (p.length - 1)+4) h2 (k:=p.length - 1) (d:=0) (by rw [tt_zero];exact h.gl hc _) (by omega) (by rw [Nat.zero_add];exact Nat.le_refl _)
 have:=wL_row h2 (V:=2*tt t (p.length - 1)+4) (fun i c h1 h3=>g.col i c h1 (by omega) h3) (p.length - 1) (by omega)
 refine this.mono ?_
 have h4:(p.length - 1)*(13*(2*tt t (p.length - 1)+4)+8)≤12*(13*(2*tt t (p.length - 1)+4)+8):=Nat.mul_le_mul_right _ (by omega)
 unfold uu;omega
theorem wR_len {p:Mt} (h:1≤p.length):(wR p).length=p.length:=by unfold wR;rw [wL_len];omega
theorem restU_len {p:Mt} (h:1≤p.length):(restU p).length=p.length:=by unfold restU;rw [List.length_map,wR_len h]
theorem MtR.w_ok {p:Mt} {t:Nat} (h:MtR p t) (hc:Cl p.length (ent p) 0):St p.length (ent p) (fun i=>(wR p).getD i 0)∧(∀i,i < p.length→0≤(wR p).getD i 0)∧0 < sN (wR p).length fun i=>(wR p).getD i 0:=by
 have h1:=h.n1;have e:p.length - 1+1=p.length:=by omega
 have hw:wR p=wL (gthM (p.length - 1) (ent p)) (p.length - 1):=wL_congr (n:=p.length) (fun i j hi hj=>gthL_ent h.toSq (by omega) i j hi hj) _ (by omega);obtain ⟨g1,g2,g3⟩:=gth_st (p.length - 1) (ent p) (by rw [e];exact h.sto) (by rw [e];exact hc);rw [←hw] at g1 g2 g3;rw [e] at g1;refine ⟨g1,fun i hi=>g2 i (by omega),?_⟩;rw [wR_len h1];have h5:=sN_one_le (n:=p.length) (k:=0) (f:=fun i=>(wR p).getD i 0) (by omega) fun i hi=>g2 i (by omega);grind
theorem MtR.u_ok {p:Mt} {t:Nat} (h:MtR p t) (hc:Cl p.length (ent p) 0):St p.length (ent p) (fun i=>(restU p).getD i 0)∧(∀i,i < p.length→0≤(restU p).getD i 0)∧(sN p.length fun i=>(restU p).getD i 0)=1∧RowB (uu t p.length+4) (restU p):=by
 obtain ⟨g1,g2,g3⟩:=h.w_ok hc
 have hr:=(h.w_row hc).norm (by rw [wR_len h.n1];exact h.n2) (Rat.ne_of_gt g3)
 obtain ⟨o,eo⟩:∃o,(sN (wR p).length fun i=>(wR p).getD i 0)=o:=⟨_,rfl⟩
 have e:∀i,i < p.length→(restU p).getD i 0=o⁻¹*(wR p).getD i 0:=fun i hi=>by
  unfold restU
  rw [eo,gD,List.getElem?_map,List.getElem?_eq_getElem (by rw [wR_len h.n1];exact hi),gD,List.getElem?_eq_getElem (by rw [wR_len h.n1];exact hi)]
  show _ / o=_
  rw [Rat.div_def,Rat.mul_comm];rfl
 rw [eo] at g3
 refine ⟨fun j hj=>?_,fun i hi=>?_,?_,hr⟩
 ·have:=g1.smul o⁻¹ j hj
  dsimp only at this ⊢
  rw [e j hj,←this]
  exact sN_congr fun i hi=>by rw [e i hi]
 ·rw [e i hi];exact Rat.mul_nonneg (Rat.le_of_lt (Rat.inv_pos.2 g3)) (g2 i hi)
 ·have:(sN p.length fun i=>(restU p).getD i 0)=o⁻¹*o:=by
   rw [←eo,wR_len h.n1,←sN_mul,←wR_len h.n1,eo]
   exact sN_congr fun i hi=>e i (by rw [wR_len h.n1] at hi;exact hi)
  rw [this,Rat.inv_mul_cancel _ (Rat.ne_of_gt g3)]
end Go.V
namespace Go.V
inductive Rc (n:Nat) (m:Fm) (i:Nat):Nat→Prop
 | refl:Rc n m i i
 | step {j k:Nat}:Rc n m i j→k < n→0 < m j k→Rc n m i k
theorem Rc.trans {n:Nat} {m:Fm} {i j k:Nat} (h:Rc n m i j) (h2:Rc n m j k):Rc n m i k:=by
 induction h2 with
 | refl=>exact h
 | step _ h3 h4 ih=>exact ih.step h3 h4
theorem Rc.lt {n:Nat} {m:Fm} {i j:Nat} (h:Rc n m i j) (hi:i < n):j < n:=by cases h;exact hi;assumption
theorem Rc.keep {n:Nat} {m:Fm} {T:Nat→Prop} (hT:∀i j,i < n→j < n→T i→0 < m i j→T j) {i j:Nat} (hi:i < n) (h0:T i) (h:Rc n m i j):T j:=by
 induction h with
 | refl=>exact h0
 | step h1 h2 h3 ih=>exact hT _ _ (h1.lt hi) h2 ih h3
theorem Cl.of {n s:Nat} {m:Fm} (h:∀i,i < n→Rc n m i s):Cl n m s:=fun _ ⟨i,hi,h0⟩ hT=>(h i hi).keep hT hi h0
theorem Cl.rc {n s:Nat} {m:Fm} (h:Cl n m s):∀i,i < n→Rc n m i s:=fun i hi=>h (Rc n m i) ⟨i,hi,.refl⟩ fun _ _ _ hj h1 h2=>h1.step hj h2
open Classical in
noncomputable def rb (n:Nat) (m:Fm) (i j:Nat):Bool:=decide (Rc n m i j)
theorem rb_iff {n:Nat} {m:Fm} {i j:Nat}:rb n m i j=true↔Rc n m i j:=by unfold rb;simp
def clsStep (n:Nat) (r:Nat→Nat→Bool) (s:List Int×List Bool) (i:Nat):List Int×List Bool :=
 if 0≤s.1.getD i 0 then s else ((List.range n).map fun j=>if r i j=true∧r j i=true then (s.2.length:Int) else s.1.getD j 0,s.2++[(List.range n).all fun j=>!r i j || r j i])
theorem map_at {α:Type} {n j:Nat} {f:Nat→α} {d:α} (h:j < n):((List.range n).map f).getD j d=f j:=by
 rw [gD,List.getElem?_eq_getElem (by simpa using h)];simp
structure ClsI (n:Nat) (r:Nat→Nat→Bool) (s:List Int×List Bool) (i:Nat):Prop where
 lt:∀j,j < n→s.1.getD j 0 = -1∨(0≤s.1.getD j 0∧s.1.getD j 0 < s.2.length)
 done:∀j,j < i→0≤s.1.getD j 0
 full:∀j k,j < n→k < n→0≤s.1.getD j 0→r j k=true→r k j=true→s.1.getD k 0=s.1.getD j 0
 same:∀j k,j < n→k < n→0≤s.1.getD j 0→s.1.getD k 0=s.1.getD j 0→r j k=true∧r k j=true
 shut:∀j,j < n→0≤s.1.getD j 0→(s.2.getD (s.1.getD j 0).toNat false=true↔∀k,k < n→r j k=true→r k j=true)
 used:∀c,c < s.2.length→∃j,j < n∧s.1.getD j 0=(c:Int)
theorem ClsI.zero (n:Nat) (r:Nat→Nat→Bool):ClsI n r (List.replicate n (-1),[]) 0:=by
 have e:∀j,j < n→(List.replicate n (-1:Int)).getD j 0 = -1:=fun j hj=>by
  rw [gD,List.getElem?_replicate,if_pos hj];rfl
 refine ⟨fun j hj=>.inl (e j hj),fun j hj=>by omega,fun j k hj hk h=>?_,fun j k hj hk h=>?_,fun j hj h=>?_,fun c hc=>by simp at hc⟩
 all_goals (have h:0≤(List.replicate n (-1:Int)).getD j 0:=h;rw [e j hj] at h;omega)
theorem ClsI.next {n i:Nat} {r:Nat→Nat→Bool} {s:List Int×List Bool} (h:ClsI n r s i) (hi:i < n) (hr:∀j,j < n→r j j=true) (ht:∀j k l,j < n→k < n→l < n→r j k=true→r k l=true→r j l=true):ClsI n r (clsStep n r s i) (i+1):=by
 unfold clsStep;by_cases h0:0≤s.1.getD i 0
 ·rw [if_pos h0];refine ⟨h.lt,fun j hj=>?_,h.full,h.same,h.shut,h.used⟩;by_cases e:j=i
  ·subst e;exact h0
  ·exact h.done j (by omega)
 ·rw [if_neg h0];have hm1:s.1.getD i 0 = -1:=by rcases h.lt i hi with e | e;exact e;exact absurd e.1 h0
  obtain ⟨o,eo⟩:∃o:Nat→Int,o=fun j=>if r i j=true∧r j i=true then (s.2.length:Int) else s.1.getD j 0:=⟨_,rfl⟩
  have eg:∀j,j < n→((List.range n).map fun j=>if r i j=true∧r j i=true then (s.2.length:Int) else s.1.getD j 0).getD j 0=o j:=fun j hj=>by rw [map_at hj,eo]
  have o1:∀j,r i j=true∧r j i=true→o j=s.2.length:=fun j hj=>by rw [eo];exact if_pos hj
  have o2:∀j,¬(r i j=true∧r j i=true)→o j=s.1.getD j 0:=fun j hj=>by rw [eo];exact if_neg hj
  have old:∀j,j < n→0≤s.1.getD j 0→¬(r i j=true∧r j i=true):=fun j hj h1 h2=>by
   have:=h.full j i hj hi h1 h2.2 h2.1;omega
  have hlt:∀j,j < n→o j = -1∨(0≤o j∧o j≤s.2.length):=fun j hj=>by
   by_cases e:r i j=true∧r j i=true
   ·rw [o1 j e];exact .inr ⟨by omega,by omega⟩
   ·rw [o2 j e];rcases h.lt j hj with e | e;exact .inl e;exact .inr ⟨e.1,by omega⟩
  have hne:∀j,j < n→¬(r i j=true∧r j i=true)→o j < s.2.length:=fun j hj e=>by
   rw [o2 j e];rcases h.lt j hj with e | e <;> omega
  refine ⟨fun j hj=>?_,fun j hj=>?_,fun j k hj hk h1 h2 h3=>?_,fun j k hj hk h1 h2=>?_,fun j hj h1=>?_,fun c hc=>?_⟩
  ·dsimp only;rw [eg j hj,List.length_append];rcases hlt j hj with e | e;exact .inl e;exact .inr ⟨e.1,by have:=e.2;simp;omega⟩
  ·dsimp only;rw [eg j (by omega)];by_cases e:r i j=true∧r j i=true
   ·rw [o1 j e];omega
   ·rw [o2 j e];have:j≠i:=fun e2=>e (by rw [e2];exact ⟨hr i hi,hr i hi⟩);exact h.done j (by omega)
  ·dsimp only at h1 ⊢;rw [eg j hj] at h1;rw [eg j hj,eg k hk];by_cases e:r i j=true∧r j i=true
   ·rw [o1 j e,o1 k ⟨ht i j k hi hj hk e.1 h2,ht k j i hk hj hi h3 e.2⟩]
   ·have e2:¬(r i k=true∧r k i=true):=fun e2=>e ⟨ht i k j hi hk hj e2.1 h3,ht j k i hj hk hi h2 e2.2⟩;rw [o2 j e] at h1 ⊢;rw [o2 k e2];exact h.full j k hj hk h1 h2 h3
  ·dsimp only at h1 h2;rw [eg j hj] at h1;rw [eg j hj,eg k hk] at h2;by_cases e:r i j=true∧r j i=true
   ·rw [o1 j e] at h2;by_cases e2:r i k=true∧r k i=true
    ·exact ⟨ht j i k hj hi hk e.2 e2.1,ht k i j hk hi hj e2.2 e.1⟩
    ·have:=hne k hk e2;omega
   ·have g:=hne j hj e;by_cases e2:r i k=true∧r k i=true
    ·rw [o1 k e2] at h2;omega
    ·rw [o2 j e] at h1 h2;rw [o2 k e2] at h2;exact h.same j k hj hk h1 h2
  ·dsimp only at h1 ⊢;rw [eg j hj] at h1 ⊢;by_cases e:r i j=true∧r j i=true
   ·rw [o1 j e,Int.toNat_natCast,gD,List.getElem?_append_right (Nat.le_refl _),Nat.sub_self];show ((List.range n).all fun j=>!r i j || r j i)=true↔_;rw [List.all_eq_true];constructor
    ·intro H k hk h2;have:=H k (by simpa using hk);simp only [Bool.or_eq_true,Bool.not_eq_true'] at this;have h3:=ht i j k hi hj hk e.1 h2;rcases this with h4 | h4
     ·rw [h3] at h4;cases h4
     ·exact ht k i j hk hi hj h4 e.1
    ·intro H k hk;have hk:k < n:=by simpa using hk
     simp only [Bool.or_eq_true,Bool.not_eq_true'];cases h4:r i k with
     | false=>exact .inl rfl
     | true=>exact .inr (ht k j i hk hj hi (H k hk (ht j i k hj hi hk e.2 h4)) e.2)
   ·have g:=hne j hj e;rw [o2 j e] at h1 g ⊢;rw [gD,List.getElem?_append_left (by omega),←gD];exact h.shut j hj h1
  ·dsimp only;rw [List.length_append,List.length_singleton] at hc;by_cases e:c=s.2.length
   ·exact ⟨i,hi,by rw [eg i hi,o1 i ⟨hr i hi,hr i hi⟩,e]⟩
   ·obtain ⟨j,hj,h1⟩:=h.used c (by omega);exact ⟨j,hj,by rw [eg j hj,o2 j (old j hj (by omega)),h1]⟩
theorem filter_range_sum (b:Nat→Bool) (f:Nat→Rat):∀n,(sN n fun i=>if b i=true then f i else 0)=sN ((List.range n).filter b).length fun k=>f (((List.range n).filter b).getD k 0)
 | 0=>rfl
 | n+1=>by
  show (sN n fun i=>if b i=true then f i else 0)+(if b n=true then f n else 0)=_;rw [filter_range_sum b f n,List.range_succ,List.filter_append];by_cases h:b n=true
  ·rw [if_pos h];have e:[n].filter b=[n]:=by simp [h]
   rw [e,List.length_append,List.length_singleton];show _=(sN _ _)+f (((List.range n).filter b++[n]).getD _ 0)
   congr 1
   ·refine sN_congr fun k hk=>?_;rw [gD,gD,List.getElem?_append_left hk]
   ·rw [gD,List.getElem?_append_right (Nat.le_refl _),Nat.sub_self];rfl
  ·rw [if_neg h];have e:[n].filter b=[]:=by simp [h]
   rw [e,List.append_nil,Rat.add_zero]
def spr (cs:List Nat) (v:List Rat):Nat→List Rat→List Rat
 | 0,o=>o
 | k+1,o=>(spr cs v k o).set (cs.getD k 0) (v.getD k 0)
theorem spr_len (cs:List Nat) (v o:List Rat):∀k,(spr cs v k o).length=o.length
 | 0=>rfl
 | k+1=>by show (List.set _ _ _).length=_;rw [List.length_set,spr_len cs v o k]
theorem spr_at {cs:List Nat} {v o:List Rat} (hin:∀a b,a < cs.length→b < cs.length→cs.getD a 0=cs.getD b 0→a=b) (hlt:∀a,a < cs.length→cs.getD a 0 < o.length):∀k,k≤cs.length →
  (∀a,a < k→(spr cs v k o).getD (cs.getD a 0) 0=v.getD a 0)∧∀j,(∀a,a < k→cs.getD a 0≠j)→(spr cs v k o).getD j 0=o.getD j 0
 | 0,_=>⟨fun a ha=>by omega,fun j _=>rfl⟩
 | k+1,hk=>by
  obtain ⟨h1,h2⟩:=spr_at hin hlt k (by omega);have hl:cs.getD k 0 < (spr cs v k o).length:=by rw [spr_len];exact hlt k (by omega)
  refine ⟨fun a ha=>?_,fun j hj=>?_⟩
  ·show (List.set _ _ _).getD _ _=_;rw [gsetD hl];by_cases e:a=k
   ·subst e;rw [if_pos rfl]
   ·rw [if_neg (fun e2=>e (hin a k (by omega) (by omega) e2)),h1 a (by omega)]
  ·show (List.set _ _ _).getD _ _=_;rw [gsetD hl,if_neg (Ne.symm (hj k (by omega))),h2 j fun a ha=>hj a (by omega)]
def subM (p:Mt) (cs:List Nat):Mt:=cs.map fun i=>cs.map fun j=>ent p i j
theorem subM_len (p:Mt) (cs:List Nat):(subM p cs).length=cs.length:=by simp [subM]
theorem subM_ent {p:Mt} {cs:List Nat} {a b:Nat} (ha:a < cs.length) (hb:b < cs.length):ent (subM p cs) a b=ent p (cs.getD a 0) (cs.getD b 0):=by
 unfold ent subM
 rw [gD (l:=List.map _ cs),List.getElem?_map,List.getElem?_eq_getElem ha]
 show (List.map _ cs).getD b 0=_
 rw [gD (l:=List.map _ cs),List.getElem?_map,List.getElem?_eq_getElem hb,gD (l:=cs),gD (l:=cs),List.getElem?_eq_getElem ha,List.getElem?_eq_getElem hb]
 rfl
theorem filt_getD {n:Nat} {b:Nat→Bool} {a:Nat} (h:a < ((List.range n).filter b).length):((List.range n).filter b).getD a 0 < n∧b (((List.range n).filter b).getD a 0)=true:=by
 have:=getD_mem (d:=0) h
 rw [List.mem_filter] at this
 exact ⟨by simpa using this.1,this.2⟩
theorem filt_of {n:Nat} {b:Nat→Bool} {j:Nat} (hj:j < n) (hb:b j=true):∃a,a < ((List.range n).filter b).length∧((List.range n).filter b).getD a 0=j:=by
 have hm:j∈(List.range n).filter b:=List.mem_filter.2 ⟨by simpa using hj,hb⟩
 obtain ⟨a,ha,e⟩:=List.mem_iff_getElem.1 hm
 exact ⟨a,ha,by rw [gD,List.getElem?_eq_getElem ha,e];rfl⟩
theorem filt_inj {n:Nat} {b:Nat→Bool} {a c:Nat} (ha:a < ((List.range n).filter b).length) (hc:c < ((List.range n).filter b).length) (e:((List.range n).filter b).getD a 0=((List.range n).filter b).getD c 0):a=c:=by
 have nd:((List.range n).filter b).Pairwise (· ≠ ·):=List.Pairwise.filter b List.nodup_range
 rw [gD,gD,List.getElem?_eq_getElem ha,List.getElem?_eq_getElem hc] at e
 have e:((List.range n).filter b)[a]=((List.range n).filter b)[c]:=e
 rw [List.pairwise_iff_getElem] at nd
 rcases Nat.lt_trichotomy a c with h | h | h
 ·exact absurd e (nd a c ha hc h)
 ·exact h
 ·exact absurd e.symm (nd c a hc ha h)
theorem RowB.sub0 {t:Nat} {r s:List Rat} (h:RowB t r) (hs:∀q,q∈s→q∈r∨q=0):RowB t s:=by
 obtain ⟨E,h1,h2,h3⟩:=h
 refine ⟨E,h1,h2,fun q hq=>?_⟩
 rcases hs q hq with h | h
 ·exact h3 q h
 ·exact ⟨0,by rw [h,Rat.zero_mul];rfl,Nat.lt_of_le_of_lt (bl_le (k:=0) (by decide)) (by omega)⟩
noncomputable def clsS (p:Mt) (s:Nat):List Nat:=(List.range p.length).filter (rb p.length (ent p) s)
noncomputable def restQ (p:Mt) (s:Nat):List Rat:=spr (clsS p s) (restU (subM p (clsS p s))) (clsS p s).length (List.replicate p.length 0)
theorem restQ_len (p:Mt) (s:Nat):(restQ p s).length=p.length:=by unfold restQ;rw [spr_len,List.length_replicate]
theorem MtR.sub {p:Mt} {t s:Nat} (h:MtR p t) (hs:s < p.length) (hc:Cl p.length (ent p) s):MtR (subM p (clsS p s)) t∧Cl (clsS p s).length (ent (subM p (clsS p s))) 0:=by
 have hin:∀a,a < (clsS p s).length→(clsS p s).getD a 0 < p.length∧Rc p.length (ent p) s ((clsS p s).getD a 0):=fun a ha=>by
  have:=filt_getD ha;exact ⟨this.1,rb_iff.1 this.2⟩
 have hof:∀j,j < p.length→Rc p.length (ent p) s j→∃a,a < (clsS p s).length∧(clsS p s).getD a 0=j:=fun j hj hb=>filt_of hj (rb_iff.2 hb)
 obtain ⟨a0,ha0,_⟩:=hof s hs .refl
 have hl:(clsS p s).length≤p.length:=by
  have:=List.length_filter_le (rb p.length (ent p) s) (List.range p.length)
  rw [List.length_range] at this;exact this
 have hrow:∀r,r∈subM p (clsS p s)→∃a,a < (clsS p s).length∧r=(clsS p s).map fun j=>ent p ((clsS p s).getD a 0) j:=fun r hr=>by
  obtain ⟨i,hi,rfl⟩:=List.mem_map.1 hr
  obtain ⟨a,ha,e⟩:=List.mem_iff_getElem.1 hi
  exact ⟨a,ha,by rw [gD,List.getElem?_eq_getElem ha,e];rfl⟩
 have hmem:∀a,a < (clsS p s).length→∀q,q∈((clsS p s).map fun j=>ent p ((clsS p s).getD a 0) j)→q∈p.getD ((clsS p s).getD a 0) []:=fun a ha q hq=>by
  obtain ⟨j,hj,rfl⟩:=List.mem_map.1 hq
  have hj2:j < p.length:=by
   have:=(List.mem_filter.1 hj).1;simpa using this
  exact getD_mem (by rw [h.sq _ (getD_mem (hin a ha).1)];exact hj2)
 refine ⟨⟨by rw [subM_len];omega,by rw [subM_len];have:=h.n2;omega,fun r hr=>?_,fun r hr q hq=>?_,fun r hr=>?_,fun r hr=>?_⟩,fun T ⟨a,ha,hT⟩ hcl=>?_⟩
 ·obtain ⟨a,_,rfl⟩:=hrow r hr;rw [subM_len,List.length_map]
 ·obtain ⟨a,ha,rfl⟩:=hrow r hr;exact h.pos _ (getD_mem (hin a ha).1) q (hmem a ha q hq)
 ·obtain ⟨a,ha,rfl⟩:=hrow r hr
  exact (h.row _ (getD_mem (hin a ha).1)).sub0 fun q hq=>.inl (hmem a ha q hq)
 ·obtain ⟨a,ha,rfl⟩:=hrow r hr
  have e1:=filter_range_sum (rb p.length (ent p) s) (fun j=>ent p ((clsS p s).getD a 0) j) p.length
  have e2:(sN p.length fun j=>if rb p.length (ent p) s j=true then ent p ((clsS p s).getD a 0) j else 0)=1:=by
   rw [←h.sto.one _ (hin a ha).1]
   refine sN_congr fun j hj=>?_
   by_cases hb:rb p.length (ent p) s j=true
   ·rw [if_pos hb]
   ·rw [if_neg hb]
    have h3:=h.sto.pos _ j (hin a ha).1 hj
    by_cases h4:0 < ent p ((clsS p s).getD a 0) j
    ·exact absurd (rb_iff.2 ((hin a ha).2.step hj h4)) hb
    ·grind
  rw [e2] at e1
  rw [e1,List.length_map]
  refine sN_congr fun k hk=>?_
  show List.getD _ k 0=ent p _ ((clsS p s).getD k 0)
  rw [gD,List.getElem?_map,List.getElem?_eq_getElem hk,gD (l:=clsS p s) (i:=k),List.getElem?_eq_getElem hk];rfl
 ·have:=hc (fun i=>Rc p.length (ent p) s i→∃a,a < (clsS p s).length∧(clsS p s).getD a 0=i∧T a)
  have h00:Rc p.length (ent p) ((clsS p s).getD a 0) ((clsS p s).getD 0 0):=(hc.rc _ (hin a ha).1).trans (hin 0 (by omega)).2
  have key:∀j,Rc p.length (ent p) ((clsS p s).getD a 0) j→∃b,b < (clsS p s).length∧(clsS p s).getD b 0=j∧T b:=fun j hj=>by
   induction hj with
   | refl=>exact ⟨a,ha,rfl,hT⟩
   | step h1 h2 h3 ih =>
    obtain ⟨b,hb,e,hTb⟩:=ih
    obtain ⟨c,hc2,e2⟩:=hof _ h2 ((((hin a ha).2.trans h1)).step h2 h3)
    exact ⟨c,hc2,e2,hcl b c hb hc2 hTb (by rw [subM_ent hb hc2,e,e2];exact h3)⟩
  obtain ⟨b,hb,e,hTb⟩:=key _ h00
  rw [filt_inj hb (by show 0 < (clsS p s).length;omega) e] at hTb
  exact hTb
theorem MtR.rest {p:Mt} {t s:Nat} (h:MtR p t) (hs:s < p.length) (hc:Cl p.length (ent p) s) :
  St p.length (ent p) (fun i=>(restQ p s).getD i 0)∧(∀i,i < p.length→0≤(restQ p s).getD i 0)∧(sN p.length fun i=>(restQ p s).getD i 0)=1∧RowB (uu t (clsS p s).length+4) (restQ p s):=by
 obtain ⟨hm,hcl⟩:=h.sub hs hc;obtain ⟨g1,g2,g3,g4⟩:=hm.u_ok (by rw [subM_len];exact hcl);rw [subM_len] at g1 g2 g3 g4;obtain ⟨k1,k2⟩:=spr_at (cs:=clsS p s) (v:=restU (subM p (clsS p s))) (o:=List.replicate p.length 0) (fun a b ha hb e=>filt_inj ha hb e) (fun a ha=>by rw [List.length_replicate];exact (filt_getD ha).1) (clsS p s).length (Nat.le_refl _);have q1:∀a,a < (clsS p s).length→(restQ p s).getD ((clsS p s).getD a 0) 0=(restU (subM p (clsS p s))).getD a 0:=k1;have q2:∀j,j < p.length→rb p.length (ent p) s j=false→(restQ p s).getD j 0=0:=fun j hj hb=>by
  have:=k2 j fun a ha e=>by
   have h3:=(filt_getD ha).2;have e:((List.range p.length).filter (rb p.length (ent p) s)).getD a 0=j:=e;rw [e,hb] at h3;cases h3
  have e2:(List.replicate p.length (0:Rat)).getD j 0=0:=by rw [gD,List.getElem?_replicate];split <;> rfl
  rw [e2] at this;exact this
 have hsum:∀f:Nat→Rat,(∀i,i < p.length→rb p.length (ent p) s i=false→f i=0)→sN p.length f=sN (clsS p s).length fun k=>f ((clsS p s).getD k 0):=fun f hf=>by
  have e1:=filter_range_sum (rb p.length (ent p) s) f p.length;rw [←show (sN p.length fun i=>if rb p.length (ent p) s i=true then f i else 0)=sN p.length f from sN_congr fun i hi=>by
   cases hb:rb p.length (ent p) s i with
   | true=>rw [if_pos rfl]
   | false=>rw [if_neg (by decide),hf i hi hb]]
  exact e1
 refine ⟨fun j hj=>?_,fun i hi=>?_,?_,?_⟩
 ·rw [hsum _ fun i hi hb=>by dsimp only;rw [q2 i hi hb,Rat.zero_mul]];dsimp only;cases hb:rb p.length (ent p) s j with
  | true =>
   obtain ⟨b,hbl,e⟩:=filt_of hj hb;have e:(clsS p s).getD b 0=j:=e;have:=g1 b hbl;dsimp only at this;rw [←e,q1 b hbl,←this];exact sN_congr fun a ha=>by rw [q1 a ha,subM_ent ha hbl]
  | false =>
   rw [q2 j hj hb,←sN_zero (clsS p s).length];refine sN_congr fun a ha=>?_;have ha2:=filt_getD ha;have h3:=h.sto.pos _ j ha2.1 hj;by_cases h4:0 < ent p ((clsS p s).getD a 0) j
   ·have:=rb_iff.2 ((rb_iff.1 ha2.2).step hj h4);rw [hb] at this;cases this
   ·have h5:ent p ((clsS p s).getD a 0) j=0:=by
     have h3:0≤ent p ((clsS p s).getD a 0) j:=h3;grind
    rw [h5,Rat.mul_zero]
 ·cases hb:rb p.length (ent p) s i with
  | true =>
   obtain ⟨b,hbl,e⟩:=filt_of hi hb;have e:(clsS p s).getD b 0=i:=e;rw [←e,q1 b hbl];exact g2 b hbl
  | false=>rw [q2 i hi hb];exact Rat.le_refl
 ·rw [hsum _ fun i hi hb=>q2 i hi hb,←g3];exact sN_congr fun a ha=>q1 a ha
 ·refine g4.sub0 fun q hq=>?_;obtain ⟨i,hi,e⟩:=List.mem_iff_getElem.1 hq;rw [restQ_len] at hi;have e:(restQ p s).getD i 0=q:=by rw [gD,List.getElem?_eq_getElem (by rw [restQ_len];exact hi),e];rfl
  cases hb:rb p.length (ent p) s i with
  | true =>
   obtain ⟨b,hbl,e2⟩:=filt_of hi hb;have e2:(clsS p s).getD b 0=i:=e2;rw [←e2,q1 b hbl] at e;rw [←e];exact .inl (getD_mem (by rw [restU_len hm.n1,subM_len];exact hbl))
  | false=>rw [q2 i hi hb] at e;exact .inr e.symm
def entS (p:Mt):Fm:=fun j i=>if i=p.length then (if j=p.length - 1 then 1 else 0) else if j=p.length - 1 then 1 else if i=j then ent p i j - 1 else ent p i j
theorem entS_row {p:Mt} {t:Nat} (h:MtR p t) (x:Nat→Rat) {j:Nat} (hj:j < p.length):rowX p.length (entS p) x j=if j=p.length - 1 then sN p.length x else (sN p.length fun i=>x i*ent p i j) - x j:=by
 unfold rowX entS
 by_cases e:j=p.length - 1
 ·rw [show (if j=p.length - 1 then sN p.length x else (sN p.length fun i=>x i*ent p i j) - x j)=sN p.length x from if_pos e]
  exact sN_congr fun i hi=>by rw [if_neg (show ¬i=p.length by omega),if_pos e,Rat.one_mul]
 ·rw [show (if j=p.length - 1 then sN p.length x else (sN p.length fun i=>x i*ent p i j) - x j)=(sN p.length fun i=>x i*ent p i j) - x j from if_neg e]
  have:(sN p.length fun i=>(if i=p.length then (if j=p.length - 1 then (1:Rat) else 0) else if j=p.length - 1 then 1 else if i=j then ent p i j - 1 else ent p i j)*x i)+(sN p.length fun i=>if i=j then x i else 0)=sN p.length fun i=>x i*ent p i j:=by
   rw [←sN_add]
   refine sN_congr fun i hi=>?_
   rw [if_neg (by omega),if_neg e]
   by_cases e2:i=j
   ·rw [if_pos e2,if_pos e2];grind
   ·rw [if_neg e2,if_neg e2];grind
  rw [sN_delta,if_pos hj] at this
  grind
theorem MtR.inj {p:Mt} {t s:Nat} (h:MtR p t) (hs:s < p.length) (hc:Cl p.length (ent p) s):Inj p.length (entS p):=by
 intro x hx
 have hsum:sN p.length x=0:=by
  have:=hx (p.length - 1) (by omega)
  rw [entS_row h x (by omega),if_pos rfl] at this
  exact this
 have hj:∀j,j < p.length→j≠p.length - 1→(sN p.length fun i=>x i*ent p i j)=x j:=fun j hj hne=>by
  have:=hx j hj
  rw [entS_row h x hj,if_neg hne] at this
  grind
 refine St.uniq h.sto hc hs (fun j hj2=>?_) hsum
 by_cases e:j=p.length - 1
 ·-- the sum of all of them is nought
  have hall:(sN p.length fun j=>(sN p.length fun i=>x i*ent p i j) - x j)=0:=by
   have e1:(sN p.length fun j=>(sN p.length fun i=>x i*ent p i j) - x j)=(sN p.length fun j=>sN p.length fun i=>x i*ent p i j)+sN p.length fun j=>-x j:=by
    rw [←sN_add];exact sN_congr fun j _=>Rat.sub_eq_add_neg _ _
   rw [e1,←sN_comm,sN_neg,hsum]
   have e2:(sN p.length fun i=>sN p.length fun j=>x i*ent p i j)=sN p.length x:=sN_congr fun i hi=>by rw [sN_mul,h.sto.one i hi,Rat.mul_one]
   rw [e2,hsum];grind
  rw [sN_only (a:=j) hj2 fun k hk hne=>by have:=hj k hk (by omega);grind] at hall
  grind
 ·exact hj j hj2 e
def sysL (p:Mt):Mt:=(List.range p.length).map fun j=>(List.range (p.length+1)).map (entS p j)
theorem sysL_len (p:Mt):(sysL p).length=p.length:=by simp [sysL]
theorem sysL_at {p:Mt} {j:Nat} (h:j < p.length):(sysL p).getD j []=(List.range (p.length+1)).map (entS p j):=map_at h
theorem range_at {n r:Nat} (h:r < n):(List.range n).getD r 0=r:=by
 rw [gD,List.getElem?_eq_getElem (by simpa using h)];simp
theorem MtR.gj {p:Mt} {t:Nat} (h:MtR p t):Gj p.length (12*t+14) (lgF (List.range p.length) (sysL p)) (List.range p.length) (sysL p) 0:=by
 have el:∀r,r < p.length→lg (List.range p.length) (sysL p) r=(List.range (p.length+1)).map (entS p r):=fun r hr=>by
  unfold lg;rw [range_at hr,sysL_at hr]
 refine ⟨⟨by simp,sysL_len p,fun r hr=>by rw [range_at hr];exact hr,fun r q hr hq e=>by rwa [range_at hr,range_at hq] at e,fun r hr=>by rw [el r hr];simp⟩,Eqv.refl _ _,fun c hc=>by omega,fun r hr=>?_⟩;rw [Nat.pow_zero,Nat.one_mul,el r hr];have hE:∀i,∃E:Nat,i < p.length→E≠0∧bl E < t∧Iz E (ent p i r):=fun i=>by
  by_cases hi:i < p.length
  ·obtain ⟨E,e1,e2,e3⟩:=h.row _ (getD_mem (d:=[]) hi);obtain ⟨z,hz,_⟩:=e3 (ent p i r) (getD_mem (by rw [h.sq _ (getD_mem hi)];exact hr));exact ⟨E,fun _=>⟨e1,e2,z,hz⟩⟩
  ·exact ⟨0,fun h=>absurd h hi⟩
 obtain ⟨Ef,hEf⟩:∃Ef:Nat→Nat,∀i,i < p.length→Ef i≠0∧bl (Ef i) < t∧Iz (Ef i) (ent p i r):=⟨fun i=>(hE i).choose,fun i hi=>(hE i).choose_spec hi⟩;have hP:∀m,m≤p.length→∃D:Nat,D≠0∧bl D≤m*t+1∧∀i,i < m→Iz D (ent p i r):=by
  intro m;induction m with
  | zero=>intro _;exact ⟨1,by decide,by rw [bl_one];omega,fun i hi=>by omega⟩
  | succ m ih =>
   intro hm;obtain ⟨D,d1,d2,d3⟩:=ih (by omega);obtain ⟨f1,f2,f3⟩:=hEf m (by omega);have:=bl_mul D (Ef m);refine ⟨D*Ef m,Nat.mul_ne_zero d1 f1,by rw [Nat.succ_mul];omega,fun i hi=>?_⟩;by_cases e:i=m
   ·subst e;exact f3.more' D
   ·exact (d3 i (by omega)).more _
 obtain ⟨D,d1,d2,d3⟩:=hP p.length (Nat.le_refl _);have h12:p.length*t≤12*t:=Nat.mul_le_mul_right _ h.n2;refine RowB.of_iz d1 (by omega) 1 (by rw [Nat.one_mul];omega) fun q hq=>?_;obtain ⟨i,hi,rfl⟩:=List.mem_map.1 hq;have hi:i < p.length+1:=by simpa using hi
 have c1:(((1:Nat):Int):Rat)=1:=rfl;rw [c1];unfold entS;by_cases e:i=p.length
 ·rw [if_pos e];split
  ·exact ⟨Iz.one D,by grind,by grind⟩
  ·exact ⟨Iz.zero D,by grind,by grind⟩
 ·rw [if_neg e];have g1:=h.sto.pos i r (by omega) hr;have g2:ent p i r≤1:=by
   rw [←h.sto.one i (by omega)];exact sN_one_le (f:=ent p i) hr fun k hk=>h.sto.pos i k (by omega) hk
  have g3:=d3 i (by omega);split
  ·exact ⟨Iz.one D,by grind,by grind⟩
  ·split
   ·refine ⟨?_,by grind,by grind⟩;rw [Rat.sub_eq_add_neg];exact g3.add (Iz.one D).neg
   ·exact ⟨g3,by grind,by grind⟩
end Go.V
namespace Go.V
end Go.V
namespace Go.V
open Go.Proofs Go.RowKit
set_option maxRecDepth 10000
set_option maxHeartbeats 1000000
def cBo (xs:List Bool):List (List C):=xs.map fun b=>[.s (.bool b)]
theorem cBo_len (xs:List Bool):(cBo xs).length=xs.length:=by simp [cBo]
theorem cBo_sz (xs:List Bool):∀r,r∈cBo xs→r.length=1:=by
 intro r hr;simp only [cBo,List.mem_map] at hr;obtain ⟨n,_,rfl⟩:=hr;rfl
theorem cBo_as {xs:List Bool} {i:Nat} {x:Bool} (h:i < xs.length) (e:xs.getD i false=x):(cBo xs)[i]? = some [.s (.bool x)]:=by
 subst e;rw [gD,List.getElem?_eq_getElem h];simp [cBo,h]
theorem cBo_append1 (xs:List Bool) (x:Bool):cBo xs++[[.s (.bool x)]]=cBo (xs++[x]):=by simp [cBo]
abbrev lBo (xs:List Bool):AV:=.d (.sl (cBo xs))
theorem cQ_ap1 (xs:List Rat) (x:Rat):cQ xs++[c1Q x]=cQ (xs++[x]):=by simp [cQ]
def posS (s:List UInt8):Option Rat:=match rdRat s with
 | some q=>if 0 < q then some q else none
 | none=>none
theorem posS_some {s:List UInt8} {q:Rat} (h:posS s=some q):rdRat s=some q∧0 < q:=by
 unfold posS at h
 split at h
 ·split at h
  ·cases h;exact ⟨by assumption,by assumption⟩
  ·cases h
 ·cases h
theorem fn_positives (xs:List (List UInt8)) (hl:xs.length≤1000) (hs:∀x,x∈xs→x.length≤1000000000000):Fn Tryz.prog 29 [lT xs] [] (.tup [lQ ((allO posS xs).getD []),B (allO posS xs).isSome]) []:=by
 have hz:((cT xs).length:Int)=xs.length:=by rw [cT_len]
 refine Fn.intro (ks:=[0,2,3,4,6,7,8,10,11,12,13,22]) hty rfl rfl rfl rfl rfl ?_;conv=>whnf
 refine VLoop.ren 9 26 rfl ?_;refine VLoop.inv hty (S:=List Rat) (fun s=>[(12,I s.length),(11,I xs.length),(10,lT xs),(4,.ls 26 0 s.length 3)]) (fun s=>[(26,.row true 3 (cQ s))]) (fun s=>s.length≤xs.length∧allO posS (xs.take s.length)=some s) (fun s=>xs.length - s.length) [] ⟨Nat.zero_le _,rfl⟩
  ⟨rfl,congrArg I hz,rfl,rfl,trivial⟩ ⟨rfl,trivial⟩ ?_
 rintro s ⟨hi,hq⟩;obtain ⟨i,ei⟩:∃i,s.length=i:=⟨_,rfl⟩;rw [ei] at hi hq;rw [ei];conv=>whnf
 refine Br.mk (fun h2=>?_) (fun h2=>?_)
 ·have h2:i < xs.length:=by simp only [decide_eq_true_eq] at h2;omega
  obtain ⟨x,ex⟩:∃x,xs.getD i []=x:=⟨_,rfl⟩;have hxm:x∈xs:=by rw [←ex];exact getD_mem h2
  have et:xs.take (i+1)=xs.take i++[x]:=by rw [List.take_succ_eq_append_getElem h2];subst ex;rw [gD,List.getElem?_eq_getElem h2];rfl
  have cr:=fn_positive x (hs x hxm);conv=>whnf
  refine ⟨⟨⟨by omega,by omega⟩,cT_sz _⟩,?_⟩;conv=>whnf
  refine ⟨_,cT_as (x:=x) h2 ex,?_⟩;conv=>whnf
  cases hr:rdRat x with
  | none =>
   rw [hr] at cr;rw [allO_none hxm (show posS x=none by unfold posS;rw [hr])];refine VCall.of_data cr (ndT fun _=>rfl) ?_;conv=>whnf
   exact ⟨rfl,trivial,rfl⟩
  | some q =>
   rw [hr] at cr;by_cases h0:0 < q
   ·replace cr:Fn Tryz.prog 49 [Str x] [] (.tup [rI q,B true]) []:=by
     rw [show B ((some q).any fun q=>decide (0 < q))=B true by rw [show (some q).any (fun q=>decide (0 < q))=decide (0 < q) from rfl,decide_eq_true h0]] at cr;exact cr
    refine VCall.of_data cr (ndT fun _=>rfl) ?_;conv=>whnf
    refine Sub.full rfl ?_;conv=>whnf
    refine Sub.full (by rw [cQ_len];exact ei) ?_;conv=>whnf
    refine ⟨by show (i+1)*56≤_;omega,?_⟩;conv=>whnf
    refine Wr.i64 (y:=((i+1:Nat):Int)) rfl (by omega) (by omega) ?_;conv=>whnf
    refine ⟨s++[q],⟨by rw [List.length_append,List.length_singleton];omega,?_⟩,by show xs.length - (s++[q]).length < xs.length - i;rw [List.length_append,List.length_singleton];omega,⟨?_,rfl,rfl,?_,trivial⟩,?_,trivial⟩
    ·rw [List.length_append,List.length_singleton,ei,et];exact allO_snoc hq (show posS x=some q by unfold posS;rw [hr];exact if_pos h0)
    ·show I ((i+1:Nat):Int)=I ((s++[q]).length:Nat);rw [List.length_append,List.length_singleton,ei]
    ·show AV.ls 26 0 (i+1) 3 = .ls 26 0 (s++[q]).length 3;rw [List.length_append,List.length_singleton,ei]
    ·show Ob.row true 3 (cQ s++[c1Q q])=_;rw [cQ_ap1]
   ·replace cr:Fn Tryz.prog 49 [Str x] [] (.tup [rI q,B false]) []:=by
     rw [show B ((some q).any fun q=>decide (0 < q))=B false by rw [show (some q).any (fun q=>decide (0 < q))=decide (0 < q) from rfl,decide_eq_false h0]] at cr;exact cr
    rw [allO_none hxm (show posS x=none by unfold posS;rw [hr];exact if_neg h0)];refine VCall.of_data cr (ndT fun _=>rfl) ?_;conv=>whnf
    exact ⟨rfl,trivial,rfl⟩
 ·have h2:i=xs.length:=by simp only [decide_eq_false_iff_not] at h2;omega
  rw [h2,List.take_of_length_le (Nat.le_refl _)] at hq;rw [hq];conv=>whnf
  refine ⟨⟨rfl,by rw [cQ_len,ei];omega,?_⟩,rfl,trivial,rfl⟩;rw [List.drop_zero,List.take_of_length_le (by rw [cQ_len,ei];omega)]
  rfl
abbrev moI (m:Mo):AV:=.ag [I m.room,B (ng m.come),nI (tp m.come),nI m.come.den,B (ng m.serve),nI (tp m.serve),nI m.serve.den,B (ng m.reward),nI (tp m.reward),nI m.reward.den,B (ng m.cost),nI (tp m.cost),nI m.cost.den]
abbrev moZ:AV:=.ag [I 0,B false,nI 0,nI 0,B false,nI 0,nI 0,B false,nI 0,nI 0,B false,nI 0,nI 0]
def moO:Option Mo→AV
 | some m=>moI m
 | none=>moZ
abbrev mdI (r:Int) (a b c d:List UInt8):AV:=.ag [I r,Str a,Str b,Str c,Str d]
def modQ (r:Int) (a b c d:List UInt8):Option Mo:=match rdRat a,rdRat b,rdRat c,rdRat d with
 | some x,some y,some z,some w=>if 0 < x∧0 < y∧0≤z∧0≤w∧(1≤r∧r≤8)∧x+y≤1 then some ⟨r.toNat,x,y,z,w⟩ else none
 | _,_,_,_=>none
theorem modQ_ok {r:Int} {a b c d:List UInt8} {m:Mo} (h:modQ r a b c d=some m):m.Ok∧r=m.room:=by
 unfold modQ at h
 split at h
 ·rename_i x y z w hx hy hz hw
  split at h
  ·rename_i g
   cases h
   obtain ⟨g1,g2,g3,g4,g5,g6⟩:=g
   refine ⟨⟨by dsimp only;omega,by dsimp only;omega,g1,g2,by unfold Mo.stay;dsimp only;grind,g3,g4,rdRat_sz hx,rdRat_sz hy,rdRat_sz hz,rdRat_sz hw⟩,by dsimp only;omega⟩
  ·cases h
 ·cases h
theorem sgI_lt0 (q:Rat):decide (sgI q < 0) = !decide (0≤q):=by
 by_cases h:0≤q
 ·have h2:ng q=false:=by rw [ng_lt];exact decide_eq_false (fun e=>by grind)
  rw [decide_eq_true h];unfold sgI;split
  ·rfl
  ·rw [h2];rfl
 ·have h2:ng q=true:=by rw [ng_lt];exact decide_eq_true (by grind)
  have h3:tp q≠0:=fun e=>by rw [tp_zero] at e;subst e;exact h (by decide)
  rw [decide_eq_false h];unfold sgI;rw [if_neg h3,h2];rfl
theorem rcI_pos1 (q:Rat):decide (0 < rcI q ((1:Int):Rat)) = !decide (q≤1):=by
 have h1:=@rcI_neg q ((1:Int):Rat)
 have h2:=@rcI_zero q ((1:Int):Rat)
 have e1:((1:Int):Rat)=1:=rfl
 rw [e1] at h1 h2 ⊢
 by_cases h:q≤1
 ·rw [decide_eq_true h,decide_eq_false];rfl
  intro hh
  by_cases e:q=1
  ·have:=h2.2 e;omega
  ·have:=h1.2 (by grind);omega
 ·rw [decide_eq_false h,decide_eq_true];rfl
  have a1:¬rcI q 1 < 0:=fun e=>by have:=h1.1 e;grind
  have a2:¬rcI q 1=0:=fun e=>by have:=h2.1 e;grind
  omega
theorem two_none {a b:List UInt8} (h:allO posS [a,b]=none) (r:Int) (c d:List UInt8):modQ r a b c d=none:=by
 unfold modQ;split
 ·rename_i x y z w hx hy hz hw;rw [if_neg];intro g;have h1:posS a=some x:=by unfold posS;rw [hx];exact if_pos g.1
  have h2:posS b=some y:=by unfold posS;rw [hy];exact if_pos g.2.1
  simp [allO,h1,h2] at h
 ·rfl
theorem two_some {a b:List UInt8} {ps:List Rat} (h:allO posS [a,b]=some ps):∃x y,ps=[x,y]∧rdRat a=some x∧rdRat b=some y∧0 < x∧0 < y:=by
 unfold allO at h;split at h
 ·rename_i x xs hx hxs;unfold allO at hxs;split at hxs
  ·rename_i y ys hy hys;cases hxs;cases h;have:ys=[]:=by simpa [allO] using hys.symm
   subst this;obtain ⟨h1,h2⟩:=posS_some hx;obtain ⟨h3,h4⟩:=posS_some hy;exact ⟨x,y,rfl,h1,h3,h2,h4⟩
  ·cases hxs
 ·cases h
theorem fn_modelOf (r:Int) (a b c d:List UInt8) (ha:a.length≤1000000) (hb:b.length≤1000000) (hc:c.length≤1000000) (hd:d.length≤1000000) :
  Fn Tryz.prog 17 [mdI r a b c d] [] (.tup [moO (modQ r a b c d),B (modQ r a b c d).isSome]) []:=by
 have c1:=fn_positives [a,b] (by simp) (fun x hx=>by simp at hx;rcases hx with rfl | rfl <;> omega);have c2:=fn_readRat c (by omega);have c3:=fn_readRat d (by omega);have c4:=fn_in r 1 8;have c5:=fn_whole 1 (by decide) (by decide);refine Fn.intro (ks:=[0,1,2,3,4,5,6,7,8,9,61]) hty rfl rfl rfl rfl rfl ?_;conv=>whnf
 refine VCall.frzD 15 (n:=2) (sz:=1) (D:=cT [a,b]) ⟨rfl,rfl⟩ rfl (by repeat first | exact trivial | refine ⟨⟨rfl,rfl,rfl⟩,?_⟩) ⟨⟨rfl,rfl,rfl⟩,trivial⟩ ?_;cases hp:allO posS [a,b] with
 | none =>
  rw [hp] at c1;rw [two_none hp];cases hc:rdRat c <;> cases hd:rdRat d <;> rw [hc] at c2 <;> rw [hd] at c3
  all_goals
   refine VCall.of_data c1 (ndT fun _=>rfl) ?_;conv=>whnf
   refine VCall.of_data c2 (ndT fun _=>rfl) ?_;conv=>whnf
   refine VCall.of_data c3 (ndT fun _=>rfl) ?_;conv=>whnf
   repeat' (first | exact rfl | exact trivial | refine ⟨?_,?_⟩)
 | some ps =>
  obtain ⟨x,y,rfl,hx,hy,x0,y0⟩:=two_some hp;rw [hp] at c1;replace c1:Fn Tryz.prog 29 [lT [a,b]] [] (.tup [lQ [x,y],B true]) []:=c1;cases hc:rdRat c with
  | none =>
   rw [show modQ r a b c d=none by unfold modQ;rw [hx,hy,hc]];cases hd:rdRat d <;> rw [hc] at c2 <;> rw [hd] at c3
   all_goals
    refine VCall.of_data c1 (ndT fun _=>rfl) ?_;conv=>whnf
    refine VCall.of_data c2 (ndT fun _=>rfl) ?_;conv=>whnf
    refine VCall.of_data c3 (ndT fun _=>rfl) ?_;conv=>whnf
    repeat' (first | exact rfl | exact trivial | refine ⟨?_,?_⟩)
  | some z =>
   rw [hc] at c2;replace c2:Fn Tryz.prog 30 [Str c] [] (.tup [rI z,B true]) []:=c2;cases hd:rdRat d with
   | none =>
    rw [show modQ r a b c d=none by unfold modQ;rw [hx,hy,hc,hd]];rw [hd] at c3;refine VCall.of_data c1 (ndT fun _=>rfl) ?_;conv=>whnf
    refine VCall.of_data c2 (ndT fun _=>rfl) ?_;conv=>whnf
    refine VCall.of_data c3 (ndT fun _=>rfl) ?_;conv=>whnf
    repeat' (first | exact rfl | exact trivial | refine ⟨?_,?_⟩)
   | some w =>
    rw [hd] at c3;replace c3:Fn Tryz.prog 30 [Str d] [] (.tup [rI w,B true]) []:=c3;have em:modQ r a b c d=if 0 < x∧0 < y∧0≤z∧0≤w∧(1≤r∧r≤8)∧x+y≤1 then some ⟨r.toNat,x,y,z,w⟩ else none:=by unfold modQ;rw [hx,hy,hc,hd]
    have zx:=rdRat_sz hx;have zy:=rdRat_sz hy;have k1:=fn_isMinus z (by have:=rdRat_sz hc;omega);have k2:=fn_isMinus w (by have:=rdRat_sz hd;omega);rw [sgI_lt0] at k1 k2;have k3:=fn_sum [x,y] 800 (by simp;omega) (by decide) (by simp) (by simp);rw [show rsum [x,y]=x+y by show (0+x)+y=x+y;rw [Rat.zero_add]] at k3;have zxy:=sz_add x y;have k4:=fn_rcmp (x+y) ((1:Int):Rat) (by omega) (by have:=sz_small (n:=1) (k:=1) (by decide) (by decide);omega);have hpos:=rcI_pos1 (x+y);generalize rcI (x+y) ((1:Int):Rat)=o at k4 hpos;obtain ⟨u,eu⟩:∃u,x+y=u:=⟨_,rfl⟩;rw [eu] at k3 k4 hpos em;refine VCall.of_data c1 (ndT fun _=>rfl) ?_;conv=>whnf
    refine VCall.of_data c2 (ndT fun _=>rfl) ?_;conv=>whnf
    refine VCall.of_data c3 (ndT fun _=>rfl) ?_;conv=>whnf
    refine VCall.of_data k1 (nd _) ?_;conv=>whnf
    by_cases hz:0≤z
    case neg =>
     rw [show modQ r a b c d=none by rw [em];exact if_neg (fun e=>hz e.2.2.1),decide_eq_false hz];conv=>whnf
     repeat' (first | exact rfl | exact trivial | refine ⟨?_,?_⟩)
    rw [decide_eq_true hz];conv=>whnf
    refine VCall.of_data k2 (nd _) ?_;conv=>whnf
    by_cases hw:0≤w
    case neg =>
     rw [show modQ r a b c d=none by rw [em];exact if_neg (fun e=>hw e.2.2.2.1),decide_eq_false hw];conv=>whnf
     repeat' (first | exact rfl | exact trivial | refine ⟨?_,?_⟩)
    rw [decide_eq_true hw];conv=>whnf
    refine VCall.of_data c4 (nd _) ?_;conv=>whnf
    by_cases hr:1≤r∧r≤8
    case neg =>
     rw [show modQ r a b c d=none by rw [em];exact if_neg (fun e=>hr e.2.2.2.2.1),show (decide (1≤r) && decide (r≤8))=false by simpa using hr];conv=>whnf
     repeat' (first | exact rfl | exact trivial | refine ⟨?_,?_⟩)
    rw [show (decide (1≤r) && decide (r≤8))=true by simpa using hr];conv=>whnf
    refine VCall.of_data k3 (ndA fun k=>rfl) ?_;conv=>whnf
    refine VCall.of_data c5 (ndA fun k=>rfl) ?_;conv=>whnf
    refine VCall.of_data k4 (nd _) ?_;conv=>whnf
    rw [hpos];by_cases hu:u≤1
    case neg =>
     rw [show modQ r a b c d=none by rw [em];exact if_neg (fun e=>hu e.2.2.2.2.2),decide_eq_false hu];conv=>whnf
     repeat' (first | exact rfl | exact trivial | refine ⟨?_,?_⟩)
    rw [show modQ r a b c d=some ⟨r.toNat,x,y,z,w⟩ by rw [em];exact if_pos ⟨x0,y0,hz,hw,hr,hu⟩,decide_eq_true hu];conv=>whnf
    refine VDraw.go hmo hty 11 [] rfl ?_;conv=>whnf
    refine ⟨⟨⟨by omega,by rw [cQ_len];simp⟩,cQ_sz [x,y]⟩,?_⟩;conv=>whnf
    refine ⟨_,cQ_as (xs:=[x,y]) (x:=x) (by simp) rfl,?_⟩;conv=>whnf
    refine ⟨⟨⟨by omega,by rw [cQ_len];simp⟩,cQ_sz [x,y]⟩,?_⟩;conv=>whnf
    refine ⟨_,cQ_as (xs:=[x,y]) (x:=y) (by simp) rfl,?_⟩;conv=>whnf
    have er:C.s (.int .i64 r)=C.s (.int .i64 ((r.toNat:Nat):Int)):=by rw [show ((r.toNat:Nat):Int)=r by omega]
    repeat' (first | exact rfl | exact trivial | exact er | (refine And.intro ?_ ?_ <;> try (conv=>whnf)))
end Go.V
namespace Go.V
open Go.Proofs Go.RowKit
set_option maxRecDepth 10000
set_option maxHeartbeats 1000000
structure VOk (m:Mo) (v:List Rat):Prop where
 l:v.length=m.room+1
 s:∀q,q∈v→sz q≤50000
theorem VOk.sz {m:Mo} {v:List Rat} (h:VOk m v) {n:Nat} (hn:n < m.room+1):Go.V.sz (vAt v n)≤50000:=h.s _ (vAt_mem (by rw [h.l];exact hn))
def restAt (m:Mo) (v:List Rat) (n:Nat):Rat:=-(m.cost*((n:Int):Rat))+m.serve*vAt v (n - 1)+m.stay*vAt v n
theorem restAt_sz {m:Mo} (hm:m.Ok) {v:List Rat} (hv:VOk m v) {n:Nat} (hn:n < m.room+1):sz (m.cost*((n:Int):Rat))≤804∧sz (-(m.cost*((n:Int):Rat)))≤804∧sz (m.serve*vAt v (n - 1))≤50800∧sz (-(m.cost*((n:Int):Rat))+m.serve*vAt v (n - 1))≤60000∧sz (m.stay*vAt v n)≤51603∧sz (restAt m v n)≤120000:=by
 have r2:=hm.r2
 have z0:=sz_small (n:=(n:Int)) (k:=4) (by omega) (by omega)
 have z1:=hm.zk;have z2:=hm.zs;have z3:=hm.zt
 have z4:=hv.sz (n:=n - 1) (by omega)
 have z5:=hv.sz hn
 have m1:=sz_mul m.cost ((n:Int):Rat)
 have m2:=sz_neg (m.cost*((n:Int):Rat))
 have m3:=sz_mul m.serve (vAt v (n - 1))
 have m4:=sz_add (-(m.cost*((n:Int):Rat))) (m.serve*vAt v (n - 1))
 have m5:=sz_mul m.stay (vAt v n)
 have m6:=sz_add (-(m.cost*((n:Int):Rat))+m.serve*vAt v (n - 1)) (m.stay*vAt v n)
 unfold restAt
 omega
theorem then_sz {m:Mo} (hm:m.Ok) {v:List Rat} (hv:VOk m v) {n:Nat} (hn:n < m.room+1) (act:Nat→Bool):sz (thenQ m v act n)≤50801:=by
 unfold thenQ
 have:=hm.zw
 split
 ·rename_i h
  have z:=hv.sz (n:=n+1) (by omega)
  have:=sz_add m.reward (vAt v (n+1))
  omega
 ·have:=hv.sz hn;omega
abbrev backL (m:Mo) (v:List Rat) (act:Nat→Bool) (n:Nat):List Rat:=(List.range n).map (backAt m v act)
theorem backL_next (m:Mo) (v:List Rat) (act:Nat→Bool) (n:Nat):backL m v act (n+1)=backL m v act n++[backAt m v act n]:=by unfold backL;rw [List.range_succ,List.map_append];rfl
theorem backL_len (m:Mo) (v:List Rat) (act:Nat→Bool) (n:Nat):(backL m v act n).length=n:=by simp [backL]
def betQ (m:Mo) (v:List Rat):List Bool:=(List.range m.room).map (letQ m v)
theorem betQ_len (m:Mo) (v:List Rat):(betQ m v).length=m.room:=by simp [betQ]
abbrev bestQ (m:Mo) (h:Nat):List Rat:=runQ m (letQ m) h
abbrev planQ (m:Mo) (acts:List Bool) (h:Nat):List Rat:=runQ m (fun _ n=>acts.getD n false) h
theorem run_vok {m:Mo} (h:m.Ok) (act:List Rat→Nat→Bool) {k:Nat} (hk:k≤24):VOk m (runQ m act k):=⟨runQ_len m act k,fun q hq=>run_sz h act hk hq⟩
end Go.V
namespace Go.V
open Go.Proofs Go.RowKit
set_option maxRecDepth 10000
set_option maxHeartbeats 1000000
abbrev moJ (m:Mo):List C:=[.s (.int .i64 m.room),.s (.bool (ng m.come)),.sl (cW .u32 (dg B32 (tp m.come))),.sl (cW .u32 (dg B32 m.come.den)),.s (.bool (ng m.serve)),.sl (cW .u32 (dg B32 (tp m.serve))),.sl (cW .u32 (dg B32 m.serve.den)),
 .s (.bool (ng m.reward)),.sl (cW .u32 (dg B32 (tp m.reward))),.sl (cW .u32 (dg B32 m.reward.den)),.s (.bool (ng m.cost)),.sl (cW .u32 (dg B32 (tp m.cost))),.sl (cW .u32 (dg B32 m.cost.den))]
theorem rcI_geq (p q:Rat):decide (0≤rcI p q)=decide (q≤p):=by
 have:=@rcI_neg p q
 by_cases h:q≤p
 ·rw [decide_eq_true h,decide_eq_true (by
   have:¬rcI p q < 0:=fun e=>(Rat.not_lt.2 h) (this.1 e)
   omega)]
 ·rw [decide_eq_false h,decide_eq_false (by
   have:=this.2 (Rat.not_le.1 h)
   omega)]
theorem fn_letIn (m:Mo) (hm:m.Ok) (v:List Rat) (hv:VOk m v) (n:Nat) (hn:n < m.room):Fn Tryz.prog 37 [moI m,lQ v,I n] [] (B (letQ m v n)) []:=by
 have r2:=hm.r2
 have hl:=hv.l
 have z1:=hm.zw
 have z2:=hv.sz (n:=n+1) (by omega)
 have z3:=hv.sz (n:=n) (by omega)
 have z4:=sz_add m.reward (vAt v (n+1))
 have ca:=fn_radd m.reward (vAt v (n+1)) (by omega)
 have cc:=fn_rcmp (m.reward+vAt v (n+1)) (vAt v n) (by omega) (by omega)
 refine Fn.intro (ks:=[0,1,2,3,6]) hty rfl rfl rfl rfl rfl ?_
 conv=>whnf
 refine VDraw.go hmo hty 15 [] rfl ?_
 conv=>whnf
 refine Wr.i64 (y:=((n+1:Nat):Int)) rfl (by omega) (by omega) ?_
 conv=>whnf
 refine ⟨⟨⟨by omega,by rw [cQ_len];omega⟩,cQ_sz _⟩,?_⟩
 conv=>whnf
 refine ⟨_,cQ_as (x:=vAt v (n+1)) (by omega) rfl,?_⟩
 conv=>whnf
 refine QCall.of_data ca (ndA fun k=>rfl) ?_
 conv=>whnf
 refine ⟨⟨⟨by omega,by rw [cQ_len];omega⟩,cQ_sz _⟩,?_⟩
 conv=>whnf
 refine ⟨_,cQ_as (x:=vAt v n) (by omega) rfl,?_⟩
 conv=>whnf
 refine QCall.of_data cc (nd _) ?_
 conv=>whnf
 refine ⟨?_,trivial,rfl⟩
 unfold letQ
 rw [←rcI_geq]
theorem fn_values1 (m:Mo) (hm:m.Ok) (v:List Rat) (hv:VOk m v) (n:Nat) (hn:n < m.room):Fn Tryz.prog 36 ([I n]++capAs [.ptr (moJ m),.ptr [.sl (cQ v)]]) [] (B (letQ m v n)) []:=by
 have c:=fn_letIn m hm v hv n hn
 refine Fn.intro (ks:=[0,1,2,4]) hty rfl rfl rfl rfl rfl ?_
 conv=>whnf
 refine VCall.of_data c (nd _) ?_
 conv=>whnf
 exact ⟨rfl,trivial,rfl⟩
theorem fn_backward (m:Mo) (hm:m.Ok) (v:List Rat) (hv:VOk m v) (f:Nat) (caps:List C) (act:Nat→Bool) (hf:∀n,n < m.room→Fn Tryz.prog f ([I n]++capAs caps) [] (B (act n)) []) :
  Fn Tryz.prog 23 [moI m,lQ v,.d (.fn f caps)] [] (lQ (backQ m v act)) []:=by
 have r2:=hm.r2;have hl:=hv.l;have hz:((cQ v).length:Int)=v.length:=by rw [cQ_len]
 have c1:=fn_whole 1 (by decide) (by decide);have w1:sz (((1:Int):Rat))≤1:=sz_small (n:=1) (k:=1) (by decide) (by decide);have zc:=hm.zc;have zs:=hm.zs;have zk:=hm.zk;have zt:=hm.zt;have s1:=sz_sub ((1:Int):Rat) m.come;have c2:=fn_rsub ((1:Int):Rat) m.come (by omega);have c3:=fn_rsub (((1:Int):Rat) - m.come) m.serve (by omega);rw [show ((1:Int):Rat) - m.come - m.serve=m.stay from rfl] at c3;obtain ⟨y1,ey1⟩:∃y,((1:Int):Rat) - m.come=y:=⟨_,rfl⟩;rw [ey1] at c2 c3;clear s1 ey1;have g:Fn Tryz.prog 23 [moI m,lQ v,.d (.fn f caps)] [] (.ls 0 0 v.length 3) [(0,.row true 3 (cQ (backQ m v act)))]:=by
  refine Fn.intro (ks:=[0,1,2,3,6,7,8,9,10,11,14,15,16,30]) hty rfl rfl rfl rfl rfl ?_;conv=>whnf
  rw [hz];refine VLoop.ren 12 77 rfl ?_;refine VLoop.inv hty (S:=Nat) (fun n=>[(15,I n),(14,I v.length),(7,.ls 77 0 n 3),(3,.lp 3 0),(2,.d (.fn f caps)),(1,lQ v)]) (fun n=>[(77,.row true 3 (cQ (backL m v act n))),(3,.box true ((moJ m).map .d))]) (fun n=>n≤v.length) (fun n=>v.length - n) 0 (Nat.zero_le _)
   ⟨rfl,rfl,rfl,rfl,rfl,rfl,trivial⟩ ⟨rfl,rfl,trivial⟩ ?_
  intro n hn;conv=>whnf
  refine Br.mk (fun h=>?_) (fun h=>?_)
  ·have h:n < v.length:=by simp only [decide_eq_true_eq] at h;omega
   obtain ⟨q1,q2,q3,q4,q5,q6⟩:=restAt_sz hm hv (n:=n) (by omega);have yt:=then_sz hm hv (n:=n) (by omega) act;have z0:=sz_small (n:=(n:Int)) (k:=4) (by omega) (by omega);have y7:=sz_mul m.come (thenQ m v act n);have z4:=hv.sz (n:=n - 1) (by omega);have z5:=hv.sz (n:=n) (by omega);have y8:=sz_add (-(m.cost*((n:Int):Rat))) (m.come*thenQ m v act n);have y9:=sz_mul m.serve (vAt v (n - 1));have y10:=sz_add (-(m.cost*((n:Int):Rat))+m.come*thenQ m v act n) (m.serve*vAt v (n - 1));have c4:=fn_whole (n:Int) (by omega) (by omega);have c5:=fn_rmul m.cost ((n:Int):Rat) (by omega) (by omega);have c6:=fn_rminus (m.cost*((n:Int):Rat)) (by omega);have c7:=fn_rmul m.come (thenQ m v act n) (by omega) (by omega);have c8:=fn_radd (-(m.cost*((n:Int):Rat))) (m.come*thenQ m v act n) (by omega);have c9:=fn_rmul m.serve (vAt v (n - 1)) (by omega) (by omega);have c10:=fn_radd (-(m.cost*((n:Int):Rat))+m.come*thenQ m v act n) (m.serve*vAt v (n - 1)) (by omega);have c11:=fn_rmul m.stay (vAt v n) (by omega) (by omega);have c12:=fn_radd (-(m.cost*((n:Int):Rat))+m.come*thenQ m v act n+m.serve*vAt v (n - 1)) (m.stay*vAt v n) (by omega);rw [show -(m.cost*((n:Int):Rat))+m.come*thenQ m v act n+m.serve*vAt v (n - 1)+m.stay*vAt v n=backAt m v act n from rfl] at c12;clear q1 q2 q3 q4 q5 q6 yt z0 y7 z4 z5 y8 y9 y10;obtain ⟨N,eN⟩:∃N:Rat,((n:Int):Rat)=N:=⟨_,rfl⟩;rw [eN] at c4 c5 c6 c8 c10 c12;obtain ⟨x1,e1⟩:∃x,m.cost*N=x:=⟨_,rfl⟩;rw [e1] at c5 c6 c8 c10 c12;obtain ⟨x2,e2⟩:∃x,-x1=x:=⟨_,rfl⟩;rw [e2] at c6 c8 c10 c12;obtain ⟨x3,e3⟩:∃x,m.come*thenQ m v act n=x:=⟨_,rfl⟩;rw [e3] at c7 c8 c10 c12;obtain ⟨x4,e4⟩:∃x,x2+x3=x:=⟨_,rfl⟩;rw [e4] at c8 c10 c12;obtain ⟨x5,e5⟩:∃x,m.serve*vAt v (n - 1)=x:=⟨_,rfl⟩;rw [e5] at c9 c10 c12;obtain ⟨x6,e6⟩:∃x,x4+x5=x:=⟨_,rfl⟩;rw [e6] at c10 c12;obtain ⟨x7,e7⟩:∃x,m.stay*vAt v n=x:=⟨_,rfl⟩;rw [e7] at c11 c12;clear eN e1 e2 e3 e4 e5 e6 e7;conv=>whnf
   refine ⟨⟨⟨by omega,by rw [cQ_len];omega⟩,cQ_sz _⟩,?_⟩;conv=>whnf
   refine ⟨_,cQ_as (x:=vAt v n) (by omega) rfl,?_⟩;conv=>whnf
   by_cases hr:n < m.room
   ·rw [decide_eq_true (show (n:Int) < (m.room:Int) by omega)];conv=>whnf
    refine VCall.of_data (hf n hr) (nd _) ?_;conv=>whnf
    cases hact:act n with
    | true =>
     have et:thenQ m v act n=m.reward+vAt v (n+1):=if_pos ⟨hr,hact⟩;rw [et] at c7;have zw:=hm.zw;have z6:=hv.sz (n:=n+1) (by omega);have c13:=fn_radd m.reward (vAt v (n+1)) (by omega);conv=>whnf
     refine VDraw.go hmo hty 8 [] rfl ?_;conv=>whnf
     refine Wr.i64 (y:=((n+1:Nat):Int)) rfl (by omega) (by omega) ?_;conv=>whnf
     refine ⟨⟨⟨by omega,by rw [cQ_len];omega⟩,cQ_sz _⟩,?_⟩;conv=>whnf
     refine ⟨_,cQ_as (x:=vAt v (n+1)) (by omega) rfl,?_⟩;conv=>whnf
     refine QCall.of_data c13 (ndA fun k=>rfl) ?_;conv=>whnf
     refine VDraw.go hmo hty 8 [[10],[10],[10],[10],[10],[10],[10],[]] rfl ?_;conv=>whnf
     refine QCall.of_data c1 (ndA fun k=>rfl) ?_;conv=>whnf
     refine QCall.of_data c2 (ndA fun k=>rfl) ?_;conv=>whnf
     refine QCall.of_data c3 (ndA fun k=>rfl) ?_;conv=>whnf
     refine VDraw.go hmo hty 12 [[11],[11],[11],[11],[11],[11],[11],[11],[11],[11],[11],[]] rfl ?_;conv=>whnf
     refine QCall.of_data c4 (ndA fun k=>rfl) ?_;conv=>whnf
     refine QCall.of_data c5 (ndA fun k=>rfl) ?_;conv=>whnf
     refine QCall.of_data c6 (ndA fun k=>rfl) ?_;conv=>whnf
     refine QCall.of_data c7 (ndA fun k=>rfl) ?_;conv=>whnf
     refine QCall.of_data c8 (ndA fun k=>rfl) ?_;conv=>whnf
     refine VDraw.go hmo hty 20 [[76],[76],[76],[76],[76],[76],[76],[76],[76],[76],[76],[76],[76],[76],[76],[76],[76],[76],[76],[]] rfl ?_;conv=>whnf
     refine Wr.i64 (y:=(n:Int) - 1) rfl (by omega) (by omega) ?_;conv=>whnf
     rw [show max ((n:Int) - 1) 0=((n - 1:Nat):Int) by omega];conv=>whnf
     refine ⟨⟨⟨by omega,by rw [cQ_len];omega⟩,cQ_sz _⟩,?_⟩;conv=>whnf
     refine ⟨_,cQ_as (x:=vAt v (n - 1)) (by omega) rfl,?_⟩;conv=>whnf
     refine QCall.of_data c9 (ndA fun k=>rfl) ?_;conv=>whnf
     refine QCall.of_data c10 (ndA fun k=>rfl) ?_;conv=>whnf
     refine ⟨⟨⟨by omega,by rw [cQ_len];omega⟩,cQ_sz _⟩,?_⟩;conv=>whnf
     refine ⟨_,cQ_as (x:=vAt v n) (by omega) rfl,?_⟩;conv=>whnf
     refine QCall.of_data c11 (ndA fun k=>rfl) ?_;conv=>whnf
     refine QCall.of_data c12 (ndA fun k=>rfl) ?_;conv=>whnf
     refine Sub.full rfl ?_;conv=>whnf
     refine Sub.full (by rw [cQ_len,backL_len]) ?_;conv=>whnf
     refine ⟨by show (n+1)*56≤_;omega,?_⟩;conv=>whnf
     refine Wr.i64 (y:=((n+1:Nat):Int)) rfl (by omega) (by omega) ?_;conv=>whnf
     refine ⟨n+1,h,by show v.length - (n+1) < v.length - n;omega,⟨rfl,rfl,rfl,rfl,rfl,rfl,trivial⟩,?_,rfl,trivial⟩;show Ob.row true 3 (cQ _++[c1Q _])=_;rw [cQ_ap1,backL_next]
    | false =>
     have et:thenQ m v act n=vAt v n:=if_neg (by rw [hact];simp);rw [et] at c7;conv=>whnf
     refine VDraw.go hmo hty 8 [[10],[10],[10],[10],[10],[10],[10],[]] rfl ?_;conv=>whnf
     refine QCall.of_data c1 (ndA fun k=>rfl) ?_;conv=>whnf
     refine QCall.of_data c2 (ndA fun k=>rfl) ?_;conv=>whnf
     refine QCall.of_data c3 (ndA fun k=>rfl) ?_;conv=>whnf
     refine VDraw.go hmo hty 12 [[11],[11],[11],[11],[11],[11],[11],[11],[11],[11],[11],[]] rfl ?_;conv=>whnf
     refine QCall.of_data c4 (ndA fun k=>rfl) ?_;conv=>whnf
     refine QCall.of_data c5 (ndA fun k=>rfl) ?_;conv=>whnf
     refine QCall.of_data c6 (ndA fun k=>rfl) ?_;conv=>whnf
     refine QCall.of_data c7 (ndA fun k=>rfl) ?_;conv=>whnf
     refine QCall.of_data c8 (ndA fun k=>rfl) ?_;conv=>whnf
     refine VDraw.go hmo hty 20 [[76],[76],[76],[76],[76],[76],[76],[76],[76],[76],[76],[76],[76],[76],[76],[76],[76],[76],[76],[]] rfl ?_;conv=>whnf
     refine Wr.i64 (y:=(n:Int) - 1) rfl (by omega) (by omega) ?_;conv=>whnf
     rw [show max ((n:Int) - 1) 0=((n - 1:Nat):Int) by omega];conv=>whnf
     refine ⟨⟨⟨by omega,by rw [cQ_len];omega⟩,cQ_sz _⟩,?_⟩;conv=>whnf
     refine ⟨_,cQ_as (x:=vAt v (n - 1)) (by omega) rfl,?_⟩;conv=>whnf
     refine QCall.of_data c9 (ndA fun k=>rfl) ?_;conv=>whnf
     refine QCall.of_data c10 (ndA fun k=>rfl) ?_;conv=>whnf
     refine ⟨⟨⟨by omega,by rw [cQ_len];omega⟩,cQ_sz _⟩,?_⟩;conv=>whnf
     refine ⟨_,cQ_as (x:=vAt v n) (by omega) rfl,?_⟩;conv=>whnf
     refine QCall.of_data c11 (ndA fun k=>rfl) ?_;conv=>whnf
     refine QCall.of_data c12 (ndA fun k=>rfl) ?_;conv=>whnf
     refine Sub.full rfl ?_;conv=>whnf
     refine Sub.full (by rw [cQ_len,backL_len]) ?_;conv=>whnf
     refine ⟨by show (n+1)*56≤_;omega,?_⟩;conv=>whnf
     refine Wr.i64 (y:=((n+1:Nat):Int)) rfl (by omega) (by omega) ?_;conv=>whnf
     refine ⟨n+1,h,by show v.length - (n+1) < v.length - n;omega,⟨rfl,rfl,rfl,rfl,rfl,rfl,trivial⟩,?_,rfl,trivial⟩;show Ob.row true 3 (cQ _++[c1Q _])=_;rw [cQ_ap1,backL_next]
   ·have et:thenQ m v act n=vAt v n:=if_neg (fun e=>hr e.1);rw [et] at c7;rw [decide_eq_false (show ¬(n:Int) < (m.room:Int) by omega)];conv=>whnf
    refine VDraw.go hmo hty 8 [[10],[10],[10],[10],[10],[10],[10],[]] rfl ?_;conv=>whnf
    refine QCall.of_data c1 (ndA fun k=>rfl) ?_;conv=>whnf
    refine QCall.of_data c2 (ndA fun k=>rfl) ?_;conv=>whnf
    refine QCall.of_data c3 (ndA fun k=>rfl) ?_;conv=>whnf
    refine VDraw.go hmo hty 12 [[11],[11],[11],[11],[11],[11],[11],[11],[11],[11],[11],[]] rfl ?_;conv=>whnf
    refine QCall.of_data c4 (ndA fun k=>rfl) ?_;conv=>whnf
    refine QCall.of_data c5 (ndA fun k=>rfl) ?_;conv=>whnf
    refine QCall.of_data c6 (ndA fun k=>rfl) ?_;conv=>whnf
    refine QCall.of_data c7 (ndA fun k=>rfl) ?_;conv=>whnf
    refine QCall.of_data c8 (ndA fun k=>rfl) ?_;conv=>whnf
    refine VDraw.go hmo hty 20 [[76],[76],[76],[76],[76],[76],[76],[76],[76],[76],[76],[76],[76],[76],[76],[76],[76],[76],[76],[]] rfl ?_;conv=>whnf
    refine Wr.i64 (y:=(n:Int) - 1) rfl (by omega) (by omega) ?_;conv=>whnf
    rw [show max ((n:Int) - 1) 0=((n - 1:Nat):Int) by omega];conv=>whnf
    refine ⟨⟨⟨by omega,by rw [cQ_len];omega⟩,cQ_sz _⟩,?_⟩;conv=>whnf
    refine ⟨_,cQ_as (x:=vAt v (n - 1)) (by omega) rfl,?_⟩;conv=>whnf
    refine QCall.of_data c9 (ndA fun k=>rfl) ?_;conv=>whnf
    refine QCall.of_data c10 (ndA fun k=>rfl) ?_;conv=>whnf
    refine ⟨⟨⟨by omega,by rw [cQ_len];omega⟩,cQ_sz _⟩,?_⟩;conv=>whnf
    refine ⟨_,cQ_as (x:=vAt v n) (by omega) rfl,?_⟩;conv=>whnf
    refine QCall.of_data c11 (ndA fun k=>rfl) ?_;conv=>whnf
    refine QCall.of_data c12 (ndA fun k=>rfl) ?_;conv=>whnf
    refine Sub.full rfl ?_;conv=>whnf
    refine Sub.full (by rw [cQ_len,backL_len]) ?_;conv=>whnf
    refine ⟨by show (n+1)*56≤_;omega,?_⟩;conv=>whnf
    refine Wr.i64 (y:=((n+1:Nat):Int)) rfl (by omega) (by omega) ?_;conv=>whnf
    refine ⟨n+1,h,by show v.length - (n+1) < v.length - n;omega,⟨rfl,rfl,rfl,rfl,rfl,rfl,trivial⟩,?_,rfl,trivial⟩;show Ob.row true 3 (cQ _++[c1Q _])=_;rw [cQ_ap1,backL_next]
  ·have h:n=v.length:=by simp only [decide_eq_false_iff_not] at h;omega
   rw [h];conv=>whnf
   exact ⟨⟨rfl,rfl,rfl,rfl,rfl,rfl⟩,[],rfl,trivial,rfl⟩
 have:=g.freeze (by rw [cQ_len,backQ_len];omega);rwa [List.drop_zero,List.take_of_length_le (by rw [cQ_len,backQ_len];omega)] at this
theorem fn_nothing (n:Nat) (h1:1≤n) (hn:n≤20):Fn Tryz.prog 22 [I n] [] (.ls 0 0 n 3) [(0,.row true 3 (cQ (List.replicate n 0)))]:=by
 have c0:=fn_whole 0 (by decide) (by decide)
 have cr:=fn_slRepeat 0 n h1 hn
 refine Fn.intro (ks:=[0,2]) hty rfl rfl rfl rfl rfl ?_
 conv=>whnf
 refine VCall.of_data c0 (ndA fun k=>rfl) ?_
 conv=>whnf
 refine VCall.frzD 4 (n:=1) (sz:=3) (D:=cQ [0]) ⟨rfl,rfl⟩ (by rw [cQ_len];rfl) (by repeat first | exact trivial | refine ⟨⟨rfl,rfl,rfl⟩,?_⟩) ⟨⟨rfl,rfl,rfl⟩,trivial⟩ ?_
 refine VCall.of_ls (k:=6) cr rfl ?_
 conv=>whnf
 exact ⟨⟨rfl,rfl,rfl,rfl,rfl,rfl⟩,[],rfl,trivial,rfl⟩
theorem fn_nothingd (n:Nat) (h1:1≤n) (hn:n≤20):Fn Tryz.prog 22 [I n] [] (lQ (List.replicate n 0)) []:=by
 have:=(fn_nothing n h1 hn).freeze (by rw [cQ_len,List.length_replicate];omega)
 rwa [List.drop_zero,List.take_of_length_le (by rw [cQ_len,List.length_replicate];omega)] at this
theorem fn_values (m:Mo) (hm:m.Ok) (n:Nat) (hn:n≤24):Fn Tryz.prog 20 [moI m,I n] [] (lQ (bestQ m n)) []:=by
 have r2:=hm.r2;have c0:=fn_nothingd (m.room+1) (by omega) (by omega);refine Fn.intro (ks:=[0,1,2,4,5,6,11,12,13]) hty rfl rfl rfl rfl rfl ?_;conv=>whnf
 refine Wr.i64 (y:=((m.room+1:Nat):Int)) rfl (by omega) (by omega) ?_;conv=>whnf
 refine VCall.of_data c0 (nd _) ?_;conv=>whnf
 refine VLoop.thaw 2 (cs:=moJ m) rfl ?_;refine VLoop.inv hty (S:=Nat) (fun k=>[(12,I k),(11,I n),(5,lQ (bestQ m k)),(2,.pp (moJ m) 0)]) (fun _=>[]) (fun k=>k≤n) (fun k=>n - k) 0 (Nat.zero_le _) ⟨rfl,rfl,rfl,rfl,trivial⟩ trivial ?_;intro k hk;conv=>whnf
 refine Br.mk (fun h=>?_) (fun h=>?_)
 ·have h:k < n:=by simp only [decide_eq_true_eq] at h;omega
  have hv:=run_vok hm (letQ m) (k:=k) (by omega);have c2:=fn_backward m hm _ hv 36 [.ptr (moJ m),.ptr [.sl (cQ (bestQ m k))]] (letQ m (bestQ m k)) fun i hi=>fn_values1 m hm _ hv i hi;rw [show backQ m (bestQ m k) (letQ m (bestQ m k))=bestQ m (k+1) from rfl] at c2;conv=>whnf
  refine VCall.of_data c2 (nd _) ?_;conv=>whnf
  refine Wr.i64 (y:=((k+1:Nat):Int)) rfl (by omega) (by omega) ?_;conv=>whnf
  exact ⟨k+1,h,by show n - (k+1) < n - k;omega,⟨rfl,rfl,rfl,rfl,trivial⟩,trivial⟩
 ·have h:k=n:=by simp only [decide_eq_false_iff_not] at h;omega
  rw [h];conv=>whnf
  exact ⟨rfl,trivial,rfl⟩
end Go.V
namespace Go.V
open Go.Proofs Go.RowKit
set_option maxRecDepth 10000
set_option maxHeartbeats 1000000
def actQ (r:Int) (a b c d:List UInt8) (acts:List Bool):Option Mo:=match modQ r a b c d with
 | some m=>if acts.length=m.room then some m else none
 | none=>none
theorem actQ_none {r:Int} {a b c d:List UInt8} (h:modQ r a b c d=none) (acts:List Bool):actQ r a b c d acts=none:=by unfold actQ;rw [h]
theorem actQ_some {r:Int} {a b c d:List UInt8} {m:Mo} (h:modQ r a b c d=some m) (acts:List Bool):actQ r a b c d acts=if acts.length=m.room then some m else none:=by unfold actQ;rw [h]
structure MdIn (a b c d:List UInt8):Prop where
 a:a.length≤1000000
 b:b.length≤1000000
 c:c.length≤1000000
 d:d.length≤1000000
theorem fn_withActs (r:Int) (a b c d:List UInt8) (hi:MdIn a b c d) (acts:List Bool):Fn Tryz.prog 21 [mdI r a b c d,lBo acts] [] (.tup [moO (modQ r a b c d),B (actQ r a b c d acts).isSome]) []:=by
 have c1:=fn_modelOf r a b c d hi.a hi.b hi.c hi.d
 refine Fn.intro (ks:=[0,1,2,4,5,6,7]) hty rfl rfl rfl rfl rfl ?_
 conv=>whnf
 cases hm:modQ r a b c d with
 | none =>
  rw [hm] at c1
  rw [actQ_none hm]
  refine VCall.of_data c1 (ndT fun _=>rfl) ?_
  conv=>whnf
  refine VDraw.dp hmo hty [(7,B false),(6,.lp 6 0),(4,.lp 4 0)] [(6,.box true [I 0,B false,nI 0,nI 0,B false,nI 0,nI 0,B false,nI 0,nI 0,B false,nI 0,nI 0])]
   [(0,13,moZ),(1,14,B false),(2,15,B false),(7,20,skipV),(8,21,B false),(10,5,B false)] [(9,4,.box true [I 0,B false,nI 0,nI 0,B false,nI 0,nI 0,B false,nI 0,nI 0,B false,nI 0,nI 0])] [(9,4,.box true _)] rfl ⟨rfl,rfl,rfl,trivial⟩ ⟨rfl,rfl,trivial⟩ ?_ ?_
  ·
   conv=>whnf
   repeat' (first
    | (refine ⟨?_,?_⟩ <;> conv=>whnf)
    | exact rfl
    | exact trivial)
  ·
   conv=>whnf
   repeat' (first
    | exact rfl
    | exact trivial
    | (refine And.intro ?_ ?_ <;> try (conv=>whnf)))
 | some m =>
  rw [hm] at c1
  replace c1:Fn Tryz.prog 17 [mdI r a b c d] [] (.tup [moI m,B true]) []:=c1
  have e:(actQ r a b c d acts).isSome=decide (((cBo acts).length:Int)=(m.room:Int)):=by
   rw [actQ_some hm,cBo_len]
   by_cases h:acts.length=m.room
   ·rw [if_pos h,decide_eq_true (by omega)];rfl
   ·rw [if_neg h,decide_eq_false (by omega)];rfl
  rw [e]
  refine VCall.of_data c1 (ndT fun _=>rfl) ?_
  conv=>whnf
  refine VDraw.dp hmo hty [(7,B true),(6,.lp 6 0),(4,.lp 4 0),(1,lBo acts)] [(6,.box true ((moJ m).map .d))]
   [(0,13,moI m),(1,14,B true),(2,15,B true),(3,16,lBo acts),(4,17,I (cBo acts).length),(5,18,.lp 6 0),(6,19,I m.room),(7,20,B (decide (((cBo acts).length:Int)=(m.room:Int)))),(8,21,B (decide (((cBo acts).length:Int)=(m.room:Int)))),(10,5,B (decide (((cBo acts).length:Int)=(m.room:Int))))]
   [(9,4,.box true ((moJ m).map .d))] [(9,4,.box true _)] rfl ⟨rfl,rfl,rfl,rfl,trivial⟩ ⟨rfl,rfl,trivial⟩ ?_ ?_
  ·
   conv=>whnf
   repeat' (first
    | (refine ⟨?_,?_⟩ <;> conv=>whnf)
    | exact rfl
    | exact trivial)
  ·
   conv=>whnf
   repeat' (first
    | exact rfl
    | exact trivial
    | (refine And.intro ?_ ?_ <;> try (conv=>whnf)))
def valO (r:Int) (a b c d:List UInt8) (n:Int):Option (List (List UInt8)):=(modQ r a b c d).bind fun m=>if 0≤n∧n≤24 then toldTs (bestQ m n.toNat) else none
def planO (r:Int) (a b c d:List UInt8) (acts:List Bool) (n:Int):Option (List (List UInt8)):=(actQ r a b c d acts).bind fun m=>if 0≤n∧n≤24 then toldTs (planQ m acts n.toNat) else none
theorem inB2 (n a b:Int):(decide (a≤n) && decide (n≤b))=decide (a≤n∧n≤b):=by simp
theorem fn_ValuesAfter (r:Int) (a b c d:List UInt8) (hi:MdIn a b c d) (n:Int):Fn Tryz.prog 8 [mdI r a b c d,I n] [] (ansT (valO r a b c d n)).1 (ansT (valO r a b c d n)).2:=by
 have c1:=fn_modelOf r a b c d hi.a hi.b hi.c hi.d;have c2:=fn_in n 0 24;rw [inB2] at c2;refine Fn.intro (ks:=[0,1,2,4,5,6,7,19]) hty rfl rfl rfl rfl rfl ?_;conv=>whnf
 unfold valO;cases hm:modQ r a b c d with
 | none =>
  rw [hm] at c1;refine VCall.of_data c1 (ndT fun _=>rfl) ?_;conv=>whnf
  exact ⟨rfl,trivial,rfl⟩
 | some m =>
  obtain ⟨hok,_⟩:=modQ_ok hm;rw [hm] at c1;replace c1:Fn Tryz.prog 17 [mdI r a b c d] [] (.tup [moI m,B true]) []:=c1;refine VCall.of_data c1 (ndT fun _=>rfl) ?_;conv=>whnf
  refine VCall.of_data c2 (nd _) ?_;conv=>whnf
  rw [show ((some m).bind fun m=>if 0≤n∧n≤24 then toldTs (bestQ m n.toNat) else none)=if 0≤n∧n≤24 then toldTs (bestQ m n.toNat) else none from rfl];by_cases hn:0≤n∧n≤24
  ·obtain ⟨k,rfl⟩:∃k:Nat,n=k:=⟨n.toNat,by omega⟩;have hk:k≤24:=by omega
   have hv:=run_vok hok (letQ m) hk;have c3:=fn_values m hok k hk;have c4:=fn_toldList (bestQ m k) (by rw [hv.l];have:=hok.r2;omega) fun q hq=>by have:=hv.s q hq;omega
   rw [decide_eq_true hn,if_pos hn];conv=>whnf
   refine VCall.of_data c3 (nd _) ?_;conv=>whnf
   rw [Int.toNat_natCast];cases hq:toldTs (bestQ m k) with
   | none =>
    rw [hq] at c4;refine VCall.of_data (x:=.tup [.d (.sl []),B false]) c4 (ndT fun _=>rfl) ?_;conv=>whnf
    first | exact ⟨rfl,trivial,rfl⟩ | exact ⟨rfl,rfl,trivial,rfl⟩
   | some ts =>
    rw [hq] at c4;refine VCall.of_fnT (k:=23) (show Fn Tryz.prog 19 [lQ (bestQ m k)] [] (.tup [.ls 0 0 ts.length 1,B true]) [(0,.row true 1 (cT ts))] from c4) rfl rfl ?_;conv=>whnf
    exact ⟨⟨rfl,rfl,rfl,rfl,rfl,rfl⟩,[],rfl,rfl,trivial,rfl⟩
  ·rw [decide_eq_false hn,if_neg hn];conv=>whnf
   exact ⟨rfl,trivial,rfl⟩
theorem fn_plan1 (m:Mo) (acts:List Bool) (ha:acts.length=m.room) (h8:m.room≤8) (n:Nat) (hn:n < m.room):Fn Tryz.prog 24 ([I n]++capAs [.ptr [.sl (cBo acts)]]) [] (B (acts.getD n false)) []:=by
 refine Fn.intro (ks:=[0,1,3]) hty rfl rfl rfl rfl rfl ?_
 conv=>whnf
 refine ⟨⟨⟨by omega,by rw [cBo_len];omega⟩,cBo_sz _⟩,?_⟩
 conv=>whnf
 refine ⟨_,cBo_as (x:=acts.getD n false) (by omega) rfl,?_⟩
 conv=>whnf
 exact ⟨rfl,trivial,rfl⟩
theorem fn_ValueOfPlan (r:Int) (a b c d:List UInt8) (hi:MdIn a b c d) (acts:List Bool) (n:Int):Fn Tryz.prog 9 [mdI r a b c d,lBo acts,I n] [] (ansT (planO r a b c d acts n)).1 (ansT (planO r a b c d acts n)).2:=by
 have c1:=fn_withActs r a b c d hi acts;have c2:=fn_in n 0 24;rw [inB2] at c2;refine Fn.intro (ks:=[0,1,2,3,4,6,7,8,9,10,23,28,29,30]) hty rfl rfl rfl rfl rfl ?_;conv=>whnf
 unfold planO;cases hm:modQ r a b c d with
 | none =>
  rw [actQ_none hm];rw [hm,actQ_none hm] at c1;refine VCall.of_data c1 (ndT fun _=>rfl) ?_;conv=>whnf
  exact ⟨rfl,trivial,rfl⟩
 | some m =>
  obtain ⟨hok,_⟩:=modQ_ok hm;rw [actQ_some hm];rw [hm,actQ_some hm] at c1;by_cases ha:acts.length=m.room
  case neg =>
   rw [if_neg ha] at c1 ⊢;replace c1:Fn Tryz.prog 21 [mdI r a b c d,lBo acts] [] (.tup [moI m,B false]) []:=c1;refine VCall.of_data c1 (ndT fun _=>rfl) ?_;conv=>whnf
   exact ⟨rfl,trivial,rfl⟩
  rw [if_pos ha] at c1 ⊢;replace c1:Fn Tryz.prog 21 [mdI r a b c d,lBo acts] [] (.tup [moI m,B true]) []:=c1;refine VCall.of_data c1 (ndT fun _=>rfl) ?_;conv=>whnf
  refine VCall.of_data c2 (nd _) ?_;conv=>whnf
  rw [show ((some m).bind fun m=>if 0≤n∧n≤24 then toldTs (planQ m acts n.toNat) else none)=if 0≤n∧n≤24 then toldTs (planQ m acts n.toNat) else none from rfl];by_cases hn:0≤n∧n≤24
  ·obtain ⟨k,rfl⟩:∃k:Nat,n=k:=⟨n.toNat,by omega⟩;have hk:k≤24:=by omega
   have r2:=hok.r2;have hv:=run_vok hok (fun _ n=>acts.getD n false) hk;have c0:=fn_nothingd (m.room+1) (by omega) (by omega);have c4:=fn_toldList (planQ m acts k) (by rw [hv.l];omega) fun q hq=>by have:=hv.s q hq;omega
   rw [decide_eq_true hn,if_pos hn];conv=>whnf
   refine Wr.i64 (y:=((m.room+1:Nat):Int)) rfl (by omega) (by omega) ?_;conv=>whnf
   refine VCall.of_data c0 (nd _) ?_;conv=>whnf
   refine VLoop.thaw 4 (cs:=[.sl (cBo acts)]) rfl ?_;refine VLoop.inv hty (S:=Nat) (fun j=>[(29,I j),(28,I k),(10,lQ (planQ m acts j)),(8,.lp 8 0),(4,.pp [.sl (cBo acts)] 0)]) (fun _=>[(8,.box true ((moJ m).map .d))]) (fun j=>j≤k) (fun j=>k - j) 0 (Nat.zero_le _) ⟨rfl,rfl,rfl,rfl,rfl,trivial⟩ ⟨rfl,trivial⟩ ?_;intro j hj;conv=>whnf
   refine Br.mk (fun h=>?_) (fun h=>?_)
   ·have h:j < k:=by simp only [decide_eq_true_eq] at h;omega
    have hv:=run_vok hok (fun _ n=>acts.getD n false) (k:=j) (by omega);have c5:=fn_backward m hok _ hv 24 [.ptr [.sl (cBo acts)]] (acts.getD · false) fun i hi=>fn_plan1 m acts ha (by omega) i hi;rw [show backQ m (planQ m acts j) (acts.getD · false)=planQ m acts (j+1) from rfl] at c5;conv=>whnf
    refine VCall.of_data c5 (nd _) ?_;conv=>whnf
    refine Wr.i64 (y:=((j+1:Nat):Int)) rfl (by omega) (by omega) ?_;conv=>whnf
    exact ⟨j+1,h,by show k - (j+1) < k - j;omega,⟨rfl,rfl,rfl,rfl,rfl,trivial⟩,rfl,trivial⟩
   ·have h:j=k:=by simp only [decide_eq_false_iff_not] at h;omega
    subst h;conv=>whnf
    rw [Int.toNat_natCast];cases hq:toldTs (planQ m acts j) with
    | none =>
     rw [hq] at c4;refine VCall.of_data (x:=.tup [.d (.sl []),B false]) c4 (ndT fun _=>rfl) ?_;conv=>whnf
     first | exact ⟨rfl,trivial,rfl⟩ | exact ⟨rfl,rfl,trivial,rfl⟩
    | some ts =>
     rw [hq] at c4;refine VCall.of_fnT (k:=37) (show Fn Tryz.prog 19 [lQ (planQ m acts j)] [] (.tup [.ls 0 0 ts.length 1,B true]) [(0,.row true 1 (cT ts))] from c4) rfl rfl ?_;conv=>whnf
     exact ⟨⟨rfl,rfl,rfl,rfl,rfl,rfl⟩,[],rfl,rfl,trivial,rfl⟩
  ·rw [decide_eq_false hn,if_neg hn];conv=>whnf
   exact ⟨rfl,trivial,rfl⟩
end Go.V
namespace Go.V
open Go.Proofs Go.RowKit
set_option maxRecDepth 10000
set_option maxHeartbeats 1000000
end Go.V
namespace Go.V
open Go.Proofs Go.RowKit
set_option maxRecDepth 10000
set_option maxHeartbeats 1000000
theorem backQ_at {m:Mo} {v:List Rat} {act:Nat→Bool} {n:Nat} (h:n < v.length):vAt (backQ m v act) n=backAt m v act n:=by
 unfold vAt backQ
 rw [gD,List.getElem?_eq_getElem (by simpa using h)]
 simp
theorem then_le {m:Mo} {v w:List Rat} (act:Nat→Bool) {n:Nat} (h:∀i,i≤m.room→vAt v i≤vAt w i) (hn:n≤m.room):thenQ m v act n≤thenQ m w (letQ m w) n:=by
 have h0:=h n hn
 unfold thenQ
 by_cases h1:n < m.room
 ·have h2:=h (n+1) (by omega)
  by_cases h3:vAt w n≤m.reward+vAt w (n+1)
  ·rw [if_pos (show n < m.room∧letQ m w n=true from ⟨h1,by unfold letQ;exact decide_eq_true h3⟩)]
   split <;> grind
  ·rw [if_neg (show ¬(n < m.room∧letQ m w n=true) from fun e=>h3 (by have:=e.2;unfold letQ at this;exact of_decide_eq_true this))]
   split <;> grind
 ·rw [if_neg (fun e=>h1 e.1),if_neg (fun e=>h1 e.1)]
  exact h0
theorem plan_le {m:Mo} (hm:m.Ok) (act:List Rat→Nat→Bool):∀h i,i≤m.room→vAt (runQ m act h) i≤vAt (bestQ m h) i
 | 0,i,_=>Rat.le_refl
 | h+1,n,hn=>by
  have ih:=plan_le hm act h
  have l1:=runQ_len m act h
  have l2:(bestQ m h).length=m.room+1:=runQ_len m (letQ m) h
  show vAt (backQ m (runQ m act h) (act (runQ m act h))) n≤vAt (backQ m (bestQ m h) (letQ m (bestQ m h))) n
  rw [backQ_at (by omega),backQ_at (by omega)]
  have t:=then_le (act (runQ m act h)) ih hn
  have a1:=Rat.mul_le_mul_of_nonneg_left t (Rat.le_of_lt hm.c0)
  have a2:=Rat.mul_le_mul_of_nonneg_left (ih (n - 1) (by omega)) (Rat.le_of_lt hm.s0)
  have a3:=Rat.mul_le_mul_of_nonneg_left (ih n hn) hm.t0
  unfold backAt
  grind
theorem backQ_congr {m:Mo} {v:List Rat} {a b:Nat→Bool} (h:∀n,n < m.room→a n=b n):backQ m v a=backQ m v b:=by
 unfold backQ
 refine List.map_congr_left fun n _=>?_
 unfold backAt thenQ
 by_cases h1:n < m.room
 ·rw [h n h1]
 ·rw [if_neg (fun e=>h1 e.1),if_neg (fun e=>h1 e.1)]
theorem plan_one (m:Mo):planQ m (betQ m (zeroQ m)) 1=bestQ m 1 :=
 backQ_congr (a:=fun n=>(betQ m (zeroQ m)).getD n false) (b:=letQ m (zeroQ m)) fun n h=>by
  unfold betQ
  exact map_at h
structure Mo.Small (m:Mo):Prop where
 ok:m.Ok
 dc:m.come.den≤5
 ds:m.serve.den≤5
 dw:m.reward.den≤2
 dk:m.cost.den≤3
 tw:tp m.reward≤12
 tk:tp m.cost≤6
theorem small_sz {m:Mo} (h:m.Small) (act:List Rat→Nat→Bool) {k:Nat} (hk:k≤4) {q:Rat} (hq:q∈runQ m act k):Go.V.sz q≤100:=by
 have hD:moD m≠0:=Nat.mul_ne_zero m.come.den_nz m.serve.den_nz
 have hd:moD m≤5*5:=Nat.mul_le_mul h.dc h.ds
 have he:moE m≤3*2:=Nat.mul_le_mul h.dk h.dw
 have hp:moD m ^ k≤25 ^ 4:=Nat.le_trans (Nat.pow_le_pow_left hd k) (Nat.pow_le_pow_right (by decide) hk)
 have hE:moE m*moD m ^ k≤6*25 ^ 4:=Nat.mul_le_mul he hp
 have b1:bl (moE m*moD m ^ k)≤40:=bl_le (Nat.lt_of_le_of_lt hE (by decide))
 have hK:k*moK m≤4*100:=Nat.mul_le_mul hk (by have:=h.tw;have:=h.tk;unfold moK;omega)
 have b2:bl (k*moK m)≤40:=bl_le (Nat.lt_of_le_of_lt hK (by decide))
 have:=(run_ok h.ok act k).sz (Nat.mul_ne_zero (Nat.mul_ne_zero m.cost.den_nz m.reward.den_nz) (Nat.pos_iff_ne_zero.1 (Nat.pow_pos (Nat.pos_of_ne_zero hD)))) hq
 omega
end Go.V
namespace Go.V
mutual
def AV.okB (id:Nat):AV→Bool
 | .ls k lo n _=>!Nat.beq k id || Nat.blt 0 (lo+n)
 | .ap k _ _=>!Nat.beq k id
 | .ms k _ _ _ _=>!Nat.beq k id
 | .me k _ _ _ _=>!Nat.beq k id
 | .ag cs=>AV.okBs id cs
 | .tup cs=>AV.okBs id cs
 | _=>true
def AV.okBs (id:Nat):List AV→Bool
 | []=>true
 | x :: r=>AV.okB id x && AV.okBs id r
end
theorem okBs_get {id:Nat}:∀{cs:List AV},AV.okBs id cs=true→∀x,x∈cs→AV.okB id x=true
 | [],_,x,h=>by cases h
 | y :: r,h,x,hx=>by
  simp only [AV.okBs,Bool.and_eq_true] at h
  rcases List.mem_cons.1 hx with rfl | hx
  ·exact h.1
  ·exact okBs_get h.2 x hx
def okBL (id:Nat):LL→Bool
 | []=>true
 | (k,.box _ cs) :: r=>(Nat.beq k id || AV.okBs id cs) && okBL id r
 | _ :: r=>okBL id r
theorem okBL_get {id:Nat}:∀{l:LL},okBL id l=true→∀j m cs,j≠id→lget j l = .box m cs→AV.okBs id cs=true
 | [],_,j,m,cs,_,h=>by simp [lget] at h
 | (k,.box w cs) :: r,h,j,m,cs',hj,hb=>by
  simp only [okBL,Bool.and_eq_true,Bool.or_eq_true] at h
  rw [lget_cons] at hb;split at hb
  ·rename_i e
   cases hb
   exact h.1.resolve_left fun e2=>hj (e.trans (Nat.eq_of_beq_eq_true e2))
  ·exact okBL_get h.2 j m cs' hj hb
 | (k,.no) :: r,h,j,m,cs',hj,hb | (k,.row _ _ _) :: r,h,j,m,cs',hj,hb | (k,.mat _ _ _) :: r,h,j,m,cs',hj,hb=>by
  rw [lget_cons] at hb;split at hb
  ·cases hb
  ·exact okBL_get (l:=r) h j m cs' hj hb
theorem AVR.toB {κ:Know} {ρ:Place} {id:Nat} {L:Loc} {ib:List Pl} {v:Value} {x:AV} (hL:ρ id=some L) (h:AVR κ ρ v x) (hx:AV.okB id x=true):AVR κ (ρ.put id (some ⟨L.b,L.o,L.N,1,ib⟩)) v x:=by
 have old:∀{i L'},(ρ.put id (some ⟨L.b,L.o,L.N,1,ib⟩)) i=some L'→∃L0,ρ i=some L0∧L0.b=L'.b∧L0.o=L'.o:=fun {i L'} h=>by
  by_cases hi:i=id
  ·subst hi;rw [put_self] at h;cases h;exact ⟨L,hL,rfl,rfl⟩
  ·rw [put_ne hi] at h;exact ⟨L',h,rfl,rfl⟩
 have ne:∀{i},(!Nat.beq i id)=true→i≠id:=fun {i} h e=>by subst e;simp at h
 induction h with
 | j x=>exact .j x
 | d x c h=>exact .d x c h
 | ag vs cs hn ho h ih=>exact .ag vs cs hn ho fun k v c h1 h2=>ih k v c h1 h2 (okBs_get (by simpa [AV.okB] using hx) c (List.mem_of_getElem? h2))
 | tup vs cs hn h ih=>exact .tup vs cs hn fun k v c h1 h2=>ih k v c h1 h2 (okBs_get (by simpa [AV.okB] using hx) c (List.mem_of_getElem? h2))
 | lp x i off h=>exact .lp x i off fun L' hL'=>by obtain ⟨L0,g1,g2,g3⟩:=old hL';rw [←g2,←g3];exact h L0 g1
 | pe x i j f sz h=>exact .pe x i j f sz fun L' hL'=>by obtain ⟨L0,g1,g2,g3⟩:=old hL';rw [←g2,←g3];exact h L0 g1
 | ap x i n sz h =>
  have hi:=ne (by simpa [AV.okB] using hx)
  exact .ap x i n sz fun L' hL'=>h L' (by rw [put_ne hi] at hL';exact hL')
 | ls x i lo len sz h =>
  refine .ls x i lo len sz fun L' hL'=>?_
  by_cases hi:i=id
  ·subst hi
   rw [put_self] at hL';cases hL'
   obtain ⟨cap,A,h1,h2,h3,h4,h5⟩:=h L hL
   have hp:0 < lo+len:=by
    have:(!Nat.beq i i || Nat.blt 0 (lo+len))=true:=hx
    rw [show Nat.beq i i=true from Nat.beq_refl i,Bool.not_true,Bool.false_or] at this
    exact Nat.le_of_ble_eq_true this
   exact ⟨cap,A,h1,h2,h3,h4,by show 1≤lo+cap;omega⟩
  ·exact h L' (by rw [put_ne hi] at hL';exact hL')
 | ep b off rows i f sz vs hz h1 h2=>exact .ep b off rows i f sz vs hz h1 h2
 | pp b off cs o vs h1 h2=>exact .pp b off cs o vs h1 h2
 | ms x i r lo len sz h =>
  have hi:=ne (by simpa [AV.okB] using hx)
  exact .ms x i r lo len sz fun L' hL'=>h L' (by rw [put_ne hi] at hL';exact hL')
 | me x i r j f sz h =>
  have hi:=ne (by simpa [AV.okB] using hx)
  exact .me x i r j f sz fun L' hL'=>h L' (by rw [put_ne hi] at hL';exact hL')
section
variable {P:Program} {G:Ctx} {κ:Know} {ρ:Place} {t:TL} {l:LL} {a:Act} {w:World}
theorem Mem.toB (hm:Mem G κ ρ l w) {id id2 lo n sz:Nat} {rows:List (List C)} (hl:lget id l = .box true [.ls id2 lo n sz]) (hl2:lget id2 l = .row true sz rows) (hne:id≠id2) (hid:id < 1000000) (hok:okBL id l=true) :
  ∃ρ',Mem G κ ρ' ((id,.mat sz [.r 0 lo n] [rows]) :: lrem id2 l) w∧∀v x,AV.okB id x=true→AVR κ ρ v x→AVR κ ρ' v x:=by
 have hob:=hm.ob id;rw [hl] at hob;obtain ⟨L,arr,E,fz,hL,hh,hN,hfz,hcs⟩:=hob;have:=hfz rfl;subst this;have hob2:=hm.ob id2;rw [hl2] at hob2;obtain ⟨L2,arr2,E2,fz2,hL2,hh2,hN2,hfz2,hz2,hkn2,hcs2⟩:=hob2;have:=hfz2 rfl;subst this;have w1:(lget id l).wr=true:=by rw [hl];rfl
 have w2:(lget id2 l).wr=true:=by rw [hl2];rfl
 have hd:=hm.drop id2;let L':Loc:=⟨L.b,L.o,L.N,1,[L2.pl]⟩;have hL1:(ρ.put id2 Option.none) id=some L:=by rw [put_ne hne];exact hL
 have hAV:∀v x,AV.okB id x=true→AVR κ ρ v x→AVR κ ((ρ.put id2 Option.none).put id (some L')) v x:=fun v x hx hv=>AVR.toB hL1 hv.gone hx;have hhas:∀b,L'.has b→b=L.b∨b=L2.b:=fun b h=>h.imp (fun e=>e) fun ⟨M,hM,e⟩=>by
  have:M=L2.pl:=by simpa [L'] using hM
  subst this;exact e
 have hb12:L2.b≠L.b:=fun e=>hm.sep id id2 L L2 hne hL hL2 w1 L.b L.has_b (e▸L2.has_b);have hg:∀i,lget i ((id,.mat sz [.r 0 lo n] [rows]) :: lrem id2 l)=if i=id then .mat sz [.r 0 lo n] [rows] else if i=id2 then .no else lget i l:=fun i=>by
  rw [lget_cons,lget_lrem]
 have hρ:∀{i Li},i≠id→((ρ.put id2 Option.none).put id (some L')) i=some Li→i≠id2∧ρ i=some Li:=fun {i Li} hi h=>by
  rw [put_ne hi] at h;exact put_none_some h
 refine ⟨(ρ.put id2 Option.none).put id (some L'),⟨fun i=>?_,fun i j Li Lj hij hi hj hw b hb=>?_,fun i Li hi hw b hb=>?_,fun i Li hi b hb=>?_,hm.kn,hm.one,hm.kn0,hm.fr,fun i Li h1 hi=>?_⟩,hAV⟩
 ·rw [hg];by_cases h1:i=id
  ·subst h1;rw [if_pos rfl];refine ⟨L',put_self _ _,⟨arr,E,hh,hN,Nat.le_refl _,fun k c hc=>?_⟩,rfl,fun r M row hM hr=>?_,fun r M hM=>?_,fun p q M M' hp hq hpq=>?_⟩
   ·cases k with
    | zero =>
     have hc:MC.r 0 lo n=c:=by simpa using hc
     subst hc;obtain ⟨x,f1,f2,f3⟩:=hcs 0 (.ls id2 lo n sz) rfl;exact ⟨x,f1,⟨L2.pl,rfl,f2.ls_at hL2⟩,f3⟩
    | succ k=>simp at hc
   ·cases r with
    | zero =>
     have hM:L2.pl=M:=by simpa [L'] using hM
     have hr:rows=row:=by simpa using hr
     subst hM;subst hr;exact ⟨arr2,E2,hh2,hN2,hz2,hkn2,hcs2⟩
    | succ r=>simp at hr
   ·cases r with
    | zero =>
     have hM:L2.pl=M:=by simpa [L'] using hM
     subst hM;exact hb12
    | succ r=>simp [L'] at hM
   ·have hp':=some_lt hp;have hq':=some_lt hq;simp [L'] at hp' hq';omega
  ·rw [if_neg h1];by_cases h2:i=id2
   ·subst h2;rw [if_pos rfl];show ((ρ.put i Option.none).put id (some L')) i=Option.none;rw [put_ne h1,put_self]
   ·rw [if_neg h2];refine (hm.ob i).move (Know.le_refl _) (by rw [put_ne h1,put_ne h2]) (fun _ _ _ _=>rfl) fun m cs hb k c v hc hv=>hAV v c (okBs_get (okBL_get hok i m cs h1 hb) c (List.mem_of_getElem? hc)) hv
 ·rw [hg] at hw;by_cases h1:i=id
  ·subst h1;rw [put_self] at hi;cases hi;obtain ⟨h2,h3⟩:=hρ (Ne.symm hij) hj;rcases hhas b hb with e | e
   ·rw [e];exact hm.sep i j L Lj hij hL h3 w1 _ L.has_b
   ·rw [e];exact hm.sep id2 j L2 Lj (Ne.symm h2) hL2 h3 w2 _ L2.has_b
  ·obtain ⟨h2,h3⟩:=hρ h1 hi;rw [if_neg h1,if_neg h2] at hw;by_cases h4:j=id
   ·subst h4;rw [put_self] at hj;cases hj;intro hb2;rcases hhas b hb2 with e | e
    ·exact hm.sep i j Li L h1 h3 hL hw b hb (e▸L.has_b)
    ·exact hm.sep i id2 Li L2 h2 h3 hL2 hw b hb (e▸L2.has_b)
   ·obtain ⟨_,h6⟩:=hρ h4 hj;exact hm.sep i j Li Lj hij h3 h6 hw b hb
 ·rw [hg] at hw;by_cases h1:i=id
  ·subst h1;rw [put_self] at hi;cases hi;rcases hhas b hb with e | e
   ·rw [e];exact hm.fre i L hL w1 _ L.has_b
   ·rw [e];exact hm.fre id2 L2 hL2 w2 _ L2.has_b
  ·obtain ⟨h2,h3⟩:=hρ h1 hi;rw [if_neg h1,if_neg h2] at hw;exact hm.fre i Li h3 hw b hb
 ·by_cases h1:i=id
  ·subst h1;rw [put_self] at hi;cases hi;rcases hhas b hb with e | e
   ·rw [e];exact hm.own i L hL _ L.has_b
   ·rw [e];exact hm.own id2 L2 hL2 _ L2.has_b
  ·exact hm.own i Li (hρ h1 hi).2 b hb
 ·by_cases h2:i=id
  ·omega
  ·exact hm.par i Li h1 (hρ h2 hi).2
end
end Go.V
namespace Go.V
section
variable {P:Program} {G:Ctx} {κ:Know} {ρ:Place} {t:TL} {l:LL} {a:Act} {w:World}
end
end Go.V
namespace Go.V
section
variable {P:Program} {G:Ctx}
end
end Go.V
namespace Go.V
section
variable {P:Program} {G:Ctx} {κ:Know} {ρ:Place} {t:TL} {l:LL} {a:Act} {w:World}
theorem Mem.toP (hm:Mem G κ ρ l w) {id:Nat} {cs:List C} (hl:lget id l = .box true (cs.map .d)) (hid:id < 1000000) (hok:okBL id l=true) :
  ∃ρ',Mem G κ ρ' ((id,.row true cs.length [cs]) :: l) w∧∀v x,AV.okB id x=true→AVR κ ρ v x→AVR κ ρ' v x:=by
 have hob:=hm.ob id;rw [hl] at hob;obtain ⟨L,arr,E,fz,hL,hh,hN,hfz,hcs⟩:=hob;let L':Loc:=⟨L.b,L.o,L.N,1,L.ib⟩;have hAV:∀v x,AV.okB id x=true→AVR κ ρ v x→AVR κ (ρ.put id (some L')) v x:=fun v x hx hv=>AVR.toB hL hv hx;have hg:∀i,lget i ((id,.row true cs.length [cs]) :: l)=if i=id then .row true cs.length [cs] else lget i l:=fun i=>by rw [lget_cons]
 have hρ:∀{i Li},(ρ.put id (some L')) i=some Li→∃L0,ρ i=some L0∧∀b,Li.has b↔L0.has b:=fun {i Li} h=>by
  by_cases hi:i=id
  ·subst hi;rw [put_self] at h;cases h;exact ⟨L,hL,fun b=>Iff.rfl⟩
  ·rw [put_ne hi] at h;exact ⟨Li,h,fun b=>Iff.rfl⟩
 have hw:∀i,(lget i ((id,.row true cs.length [cs]) :: l)).wr=(lget i l).wr:=fun i=>by
  rw [hg];split
  ·rename_i e;subst e;rw [hl];rfl
  ·rfl
 refine ⟨ρ.put id (some L'),⟨fun i=>?_,fun i j Li Lj hij hi hj hwi b hb=>?_,fun i Li hi hwi b hb=>?_,fun i Li hi b hb=>?_,hm.kn,hm.one,hm.kn0,hm.fr,fun i Li h1 hi=>?_⟩,hAV⟩
 ·rw [hg];by_cases h1:i=id
  ·subst h1;rw [if_pos rfl];refine ⟨L',arr,E,fz,put_self _ _,hh,hN,hfz,fun r hr=>by simp at hr;rw [hr],Nat.le_refl _,fun k c hc=>?_⟩;have hc:cs[k]? = some c:=by simpa using hc
   obtain ⟨x,f1,f2,f3⟩:=hcs k (.d c) (by rw [List.getElem?_map,hc];rfl);exact ⟨x,f1,f2.repr,f3⟩
  ·rw [if_neg h1];refine (hm.ob i).move (Know.le_refl _) (by rw [put_ne h1]) (fun _ _ _ _=>rfl) fun m cs hb k c v hc hv=>hAV v c (okBs_get (okBL_get hok i m cs h1 hb) c (List.mem_of_getElem? hc)) hv
 ·obtain ⟨L1,g1,g2⟩:=hρ hi;obtain ⟨L2,g3,g4⟩:=hρ hj;rw [hw] at hwi;exact fun e=>hm.sep i j L1 L2 hij g1 g3 hwi b ((g2 b).1 hb) ((g4 b).1 e)
 ·obtain ⟨L1,g1,g2⟩:=hρ hi;rw [hw] at hwi;exact hm.fre i L1 g1 hwi b ((g2 b).1 hb)
 ·obtain ⟨L1,g1,g2⟩:=hρ hi;exact hm.own i L1 g1 b ((g2 b).1 hb)
 ·have:i≠id:=fun e=>by omega
  rw [put_ne this] at hi;exact hm.par i Li h1 hi
def endP (ty:TypeId→Ty) (rs:List ResultVar) (id:Nat) (cs:List C) (e:Ex) (t:TL) (l:LL):Prop :=
 match e with
 | .x _=>False
 | _=>resK ty t l rs fun ys=>(ys=[.lp id 0]∧lget id l = .box true (cs.map .d))∧(okBL id l && Nat.blt id 1000000)=true
theorem Fn.introP {ty:TypeId→Ty} {ks:List Nat} {f:FuncId} {fn:Func} {c:Code} {xs:List AV} {l0:LL} (id:Nat) (cs:List C) (hty:TyOk P ty) (hf:P.funcs[f]? = some fn) (hb:fn.body=some c)
  (hname:(fn.name == "runtime.NumGoroutine")=false) (hx:Nat.ble xs.length fn.ntmps=true) (hd:dstCode fn.ntmps c=true)
  (h:vcCode P ty ks c (slots 0 xs) l0 (endP ty fn.results.toList id cs)):Fn P f xs l0 (.pe id 0 0 cs.length) [(id,.row true cs.length [cs])] where
 en:=⟨fn,hf,by rw [hb];rfl,hname⟩
 out:=fun κ ρ w vs hm hvs hv=>by
  have hxl:=Nat.le_of_ble_eq_true hx;refine calls_of_wp hf hb (Code.wp_mono ?_ (vcCode_sound (G:=⟨w,Mof ρ l0,κ,fn.ntmps,ρ⟩) hty c _ κ ρ _ _ _ w hd ?_ h))
  ·rintro e a' w' ⟨x,κ',ρ',t',l',h1,h2,h3,h4⟩;have key:endP ty fn.results.toList id cs .n t' l'→a'.defers=[]∧∃v,(results fn a'.tmps).run P w' = .ok v w'∧∃v_1 κ' ρ',Ending.returned v = .returned v_1∧κ.le κ'∧Mem ⟨w,Mof ρ l0,κ,0,ρ⟩ κ' ρ' [(id,.row true cs.length [cs])] w'∧AVR κ' ρ' v_1 (.pe id 0 0 cs.length):=by
    intro h4;refine ⟨h3.df,?_⟩;unfold endP at h4;obtain ⟨us,ys,g1,g2,g3,g4⟩:=resK_sound hty h3 h4;obtain ⟨⟨k6,hl⟩,q1⟩:=g4;simp only [Bool.and_eq_true] at q1;refine ⟨_,results_run g1,(if h:us.toArray.size=1 then us.toArray[0] else .tuple us.toArray),?_⟩;have hm3:Mem ⟨w,Mof ρ l0,κ,0,ρ⟩ κ' ρ' l' w':=⟨h3.m.ob,h3.m.sep,h3.m.fre,h3.m.own,h3.m.kn,h3.m.one,h3.m.kn0,⟨h3.m.fr.os,h3.m.fr.tape,h3.m.fr.output,h3.m.fr.size,h3.m.fr.block⟩,h3.m.par⟩;obtain ⟨ρ2,hm4,hAV⟩:=hm3.toP hl (Nat.le_of_ble_eq_true q1.2) q1.1;have hr:Rel ⟨w,Mof ρ l0,κ,0,ρ⟩ κ' ρ2 [] ((id,.row true cs.length [cs]) :: l') ⟨Array.replicate 0 undef,[]⟩ w':=⟨hm4,rfl,by simp,fun i=>.j _⟩;obtain ⟨ρ3,f1,f2⟩:=hr.less (t':=[]) (l':=[(id,.row true cs.length [cs])]) (fun i=>.inl rfl) (fun i=>by
     rw [lget_cons,lget_cons];by_cases hi:i=id
     ·rw [if_pos hi,if_pos hi];exact .inr rfl
     ·rw [if_neg hi];exact .inl rfl)
    have hl1:us.length=1:=by rw [g2,k6];rfl
    refine ⟨κ',ρ3,rfl,h2,f2.m,?_⟩
    match us,ys,hl1,k6,g2 with
    | [u],[y'],_,k6,_ =>
     have e:y' = .lp id 0:=by simpa using k6
     subst e;have h5:=hAV u (.lp id 0) rfl (g3 0 u _ rfl rfl);show AVR κ' ρ3 u (.pe id 0 0 cs.length);cases h5 with
     | lp _ _ _ h6=>exact .pe _ _ _ _ _ fun L hL=>by rw [h6 L (f1 id L hL)];simp
   cases e with
   | normal=>have h1':some Ex.n=some x:=h1;cases h1';exact key h4
   | ret=>have h1':some Ex.r=some x:=h1;cases h1';exact key h4
   | exit id=>have h1':some (Ex.x id)=some x:=h1;cases h1';exact (show False from h4).elim
   | _=>simp [exOf] at h1
  ·refine ⟨⟨hm.ob,hm.sep,hm.fre,hm.own,hm.kn,hm.one,hm.kn0,⟨rfl,rfl,rfl,Nat.le_refl _,fun _ _ _=>rfl⟩,fun i L _ h=>h⟩,rfl,(by show (vs++Array.replicate (fn.ntmps - vs.size) undef).size=fn.ntmps;rw [Array.size_append,Array.size_replicate];omega),fun i=>?_⟩;rw [get_slots,if_pos (Nat.zero_le _)];simp only [Nat.sub_zero];rcases Nat.lt_or_ge i vs.size with hlt | hge
   ·have h1:(vs++Array.replicate (fn.ntmps - vs.size) undef).getD i undef=vs[i]:=by
     rw [Array.getD_eq_getD_getElem?,Array.getElem?_append_left hlt,Array.getElem?_eq_getElem hlt];rfl
    rw [h1];have hix:i < xs.length:=by omega
    have h2:xs.getD i .j=xs[i]:=by simp [gD,hix]
    rw [h2];exact hv i _ _ (by simp) (List.getElem?_eq_getElem hix)
   ·have:xs.getD i .j = .j:=by rw [gD,List.getElem?_eq_none (by omega)];rfl
    rw [this];exact .j _
end
end Go.V
namespace Go.V
open Go.Proofs Go.RowKit
set_option maxRecDepth 10000
set_option maxHeartbeats 1000000
end Go.V
namespace Go.V
open Go.Proofs Go.RowKit
set_option maxRecDepth 10000
set_option maxHeartbeats 1000000
end Go.V
namespace Go.V
open Go.Proofs Go.RowKit
set_option maxRecDepth 10000
set_option maxHeartbeats 1000000
abbrev lB (bs:List Nat):AV:=.d (.sl (cW .u8 bs))
theorem fn_l01Of (a b:Nat) (ha:a≤1000) (hb:1≤b) (hb':b≤1000):Fn Tryz.prog 28 [I a,I b] [] (Str (ratT (((a:Int):Rat) / ((b:Int):Rat)))) []:=by
 have c1:=fn_sInt a (by omega) (by omega)
 have c2:=fn_sInt b (by omega) (by omega)
 have hb0:((b:Int):Rat)≠0:=fun e=>by have:=q_cast_pos (n:=b) (by omega);grind
 have z1:=sz_nat (n:=a) (by omega)
 have z2:=sz_nat (n:=b) (by omega)
 have z3:=sz_div ((a:Int):Rat) hb0
 have c3:=fn_sOver ((a:Int):Rat) ((b:Int):Rat) (by omega) hb0
 have c4:=fn_sShow (((a:Int):Rat) / ((b:Int):Rat)) (by omega)
 refine Fn.intro (ks:=[0,1,4]) hty rfl rfl rfl rfl rfl ?_
 conv=>whnf
 refine VCall.of_data c1 (ndA fun k=>rfl) ?_
 conv=>whnf
 refine VCall.of_data c2 (ndA fun k=>rfl) ?_
 conv=>whnf
 refine VCall.of_data c3 (ndA fun k=>rfl) ?_
 conv=>whnf
 refine VCall.of_data c4 (nd _) ?_
 conv=>whnf
 exact ⟨rfl,trivial,rfl⟩
end Go.V
namespace Go.V
open Go.Proofs Go.RowKit
set_option maxRecDepth 10000
set_option maxHeartbeats 1000000
structure Src where
 code:List Nat
 k:Nat
 seed:Nat
abbrev srcC (code:List Nat) (k seed:Nat):List C:=[.sl (cW .u8 code),.s (.int .i64 (k:Int)),.s (.int .u64 (seed:Int))]
abbrev srcO (code:List Nat) (k seed:Nat):Ob:=.row true 3 [srcC code k seed]
abbrev Src.o (s:Src):Ob:=srcO s.code s.k s.seed
def byS (code:List Nat) (k:Nat):Nat:=if k < code.length then code.getD k 0 else 0
def sdS (seed b:Nat):Nat:=(((seed*6364136223846793005) % 18446744073709551616+b) % 18446744073709551616+1442695040888963407) % 18446744073709551616
def nxS (code:List Nat) (k seed:Nat):Nat:=if k+1≤code.length then byS code k else sdS seed (byS code k) / 1099511627776 % 256
structure Src.Ok (s:Src):Prop where
 l:s.code.length≤2000000
 b:∀x,x∈s.code→x < 256
 s:s.seed < 18446744073709551616
theorem byS_lt {code:List Nat} (hb:∀x,x∈code→x < 256) (k:Nat):byS code k < 256:=by
 unfold byS
 split
 ·rename_i h
  rw [gD,List.getElem?_eq_getElem h];exact hb _ (List.getElem_mem _)
 ·decide
theorem sdS_lt (seed b:Nat):sdS seed b < 18446744073709551616:=Nat.mod_lt _ (by decide)
theorem nxS_lt {code:List Nat} (hb:∀x,x∈code→x < 256) (k seed:Nat):nxS code k seed < 256:=by
 unfold nxS
 split
 ·exact byS_lt hb k
 ·exact Nat.mod_lt _ (by decide)
theorem and255 {x:Nat} (hx:x < 18446744073709551616):(((BitVec.ofInt 64 (Int.fdiv (x:Int) (2 ^ (min ((40:Int)).toNat 64))) &&& BitVec.ofInt 64 255).toNat:Nat):Int) % 18446744073709551616=((x / 1099511627776 % 256:Nat):Int):=by
 have e0:(min ((40:Int)).toNat 64)=40:=by decide
 have e1:Int.fdiv (x:Int) (2 ^ 40)=((x / 2 ^ 40:Nat):Int):=by
  rw [Int.fdiv_eq_ediv_of_nonneg _ (Int.le_of_lt (Int.pow_pos (by decide))),Int.natCast_ediv,Int.natCast_pow]
  rfl
 rw [e0,e1,BitVec.ofInt_natCast,BitVec.toNat_and,BitVec.toNat_ofNat,Nat.mod_eq_of_lt (Nat.lt_of_le_of_lt (Nat.div_le_self _ _) (by omega))];rw [show (BitVec.ofInt 64 255).toNat=2 ^ 8 - 1 from rfl,Nat.and_two_pow_sub_one_eq_mod];omega
theorem fn_next (code:List Nat) (k seed:Nat) (hk:k≤1000000) (hl:code.length≤2000000) (hb:∀x,x∈code→x < 256) (hs:seed < 18446744073709551616) :
  Fn Tryz.prog 45 [.pe 1000000 0 0 3] [(1000000,srcO code k seed)] (I (nxS code k seed)) [(1000000,srcO code (k+1) (sdS seed (byS code k)))]:=by
 have hz:((cW .u8 code).length:Int)=code.length:=by rw [cW_len]
 refine Fn.intro (ks:=[0,2,3,13,53]) hty rfl rfl rfl rfl rfl ?_;conv=>whnf
 have hb2:byS code k < 256:=byS_lt hb k;obtain ⟨b,eb⟩:∃b,byS code k=b:=⟨_,rfl⟩;unfold nxS;rw [eb] at hb2 ⊢;obtain ⟨m1,e1⟩:∃m,seed*6364136223846793005 % 18446744073709551616=m:=⟨_,rfl⟩;obtain ⟨m2,e2⟩:∃m,(m1+b) % 18446744073709551616=m:=⟨_,rfl⟩;obtain ⟨m3,e3⟩:∃m,(m2+1442695040888963407) % 18446744073709551616=m:=⟨_,rfl⟩;have e4:sdS seed b=m3:=by unfold sdS;rw [e1,e2,e3]
 rw [e4];have f1:IntKind.u64.wrap ((seed:Int)*6364136223846793005)=(m1:Int):=by rw [wrap_u64];omega
 have f2:IntKind.u64.wrap ((m1:Int)+(b:Int))=(m2:Int):=by rw [wrap_u64];omega
 have f3:IntKind.u64.wrap ((m2:Int)+1442695040888963407)=(m3:Int):=by rw [wrap_u64];omega
 have hm3:m3 < 18446744073709551616:=by omega
 clear e1 e2 e3 e4;refine VDraw.go hmo hty 10 [] rfl ?_;conv=>whnf
 refine ⟨_,rfl,?_⟩;conv=>whnf
 refine ⟨_,rfl,?_⟩;conv=>whnf
 rw [hz];by_cases h:k < code.length
 ·rw [decide_eq_true (show (k:Int) < (code.length:Int) by omega)];have hby:code.getD k 0=b:=by rw [←eb];unfold byS;rw [if_pos h]
  conv=>whnf
  refine VDraw.go hmo hty 12 [] rfl ?_;conv=>whnf
  refine ⟨_,rfl,?_⟩;conv=>whnf
  refine ⟨_,rfl,?_⟩;conv=>whnf
  refine ⟨⟨⟨by omega,by rw [cW_len];omega⟩,cW_sz _ _⟩,?_⟩;conv=>whnf
  refine ⟨_,cW_as h hby,?_⟩;conv=>whnf
  refine Wr.i64 (y:=(b:Int)) rfl (by omega) (by omega) ?_;conv=>whnf
  refine ⟨_,rfl,?_⟩;conv=>whnf
  refine Wr.i64 (y:=((k+1:Nat):Int)) rfl (by omega) (by omega) ?_;conv=>whnf
  refine ⟨_,rfl,?_⟩;conv=>whnf
  refine ⟨_,rfl,?_⟩;conv=>whnf
  refine Wr.is f1 ?_;conv=>whnf
  refine Wr.n64 (n:=b) rfl (by omega) ?_;conv=>whnf
  refine Wr.is f2 ?_;conv=>whnf
  refine Wr.is f3 ?_;conv=>whnf
  refine ⟨_,rfl,?_⟩;conv=>whnf
  refine VDraw.go hmo hty 10 [] rfl ?_;conv=>whnf
  refine ⟨_,rfl,?_⟩;conv=>whnf
  refine ⟨_,rfl,?_⟩;conv=>whnf
  rw [hz];by_cases h5:k+1≤code.length
  ·rw [decide_eq_true (show ((k+1:Nat):Int)≤(code.length:Int) by omega),if_pos h5];conv=>whnf
   exact ⟨rfl,⟨rfl,trivial⟩,rfl⟩
  ·rw [decide_eq_false (show ¬((k+1:Nat):Int)≤(code.length:Int) by omega),if_neg h5];conv=>whnf
   refine ⟨_,rfl,?_⟩;conv=>whnf
   refine ⟨by decide,?_⟩;conv=>whnf
   refine Wr.is (y:=((m3 / 1099511627776 % 256:Nat):Int)) (by rw [wrap_u64];exact and255 hm3) ?_;conv=>whnf
   refine Wr.i64 (y:=((m3 / 1099511627776 % 256:Nat):Int)) rfl (by omega) (by omega) ?_;conv=>whnf
   exact ⟨rfl,⟨rfl,trivial⟩,rfl⟩
 ·rw [decide_eq_false (show ¬(k:Int) < (code.length:Int) by omega)];have hby:b=0:=by rw [←eb];unfold byS;rw [if_neg h]
  subst hby;conv=>whnf
  refine ⟨_,rfl,?_⟩;conv=>whnf
  refine Wr.i64 (y:=((k+1:Nat):Int)) rfl (by omega) (by omega) ?_;conv=>whnf
  refine ⟨_,rfl,?_⟩;conv=>whnf
  refine ⟨_,rfl,?_⟩;conv=>whnf
  refine Wr.is f1 ?_;conv=>whnf
  refine Wr.n64 (n:=0) rfl (by omega) ?_;conv=>whnf
  refine Wr.is f2 ?_;conv=>whnf
  refine Wr.is f3 ?_;conv=>whnf
  refine ⟨_,rfl,?_⟩;conv=>whnf
  refine VDraw.go hmo hty 10 [] rfl ?_;conv=>whnf
  refine ⟨_,rfl,?_⟩;conv=>whnf
  refine ⟨_,rfl,?_⟩;conv=>whnf
  rw [hz];by_cases h5:k+1≤code.length
  ·rw [decide_eq_true (show ((k+1:Nat):Int)≤(code.length:Int) by omega),if_pos h5];conv=>whnf
   exact ⟨rfl,⟨rfl,trivial⟩,rfl⟩
  ·rw [decide_eq_false (show ¬((k+1:Nat):Int)≤(code.length:Int) by omega),if_neg h5];conv=>whnf
   refine ⟨_,rfl,?_⟩;conv=>whnf
   refine ⟨by decide,?_⟩;conv=>whnf
   refine Wr.is (y:=((m3 / 1099511627776 % 256:Nat):Int)) (by rw [wrap_u64];exact and255 hm3) ?_;conv=>whnf
   refine Wr.i64 (y:=((m3 / 1099511627776 % 256:Nat):Int)) rfl (by omega) (by omega) ?_;conv=>whnf
   exact ⟨rfl,⟨rfl,trivial⟩,rfl⟩
theorem fn_pick (code:List Nat) (k seed n:Nat) (h1:2≤n) (h2:n≤200) (hk:k≤1000000) (hl:code.length≤2000000) (hb:∀x,x∈code→x < 256) (hs:seed < 18446744073709551616) :
  Fn Tryz.prog 27 [.pe 1000000 0 0 3,I n] [(1000000,srcO code k seed)] (I ((nxS code k seed % n:Nat):Int)) [(1000000,srcO code (k+1) (sdS seed (byS code k)))]:=by
 have c1:=fn_next code k seed hk hl hb hs
 have hx:=nxS_lt hb k seed
 refine Fn.intro (ks:=[0,1,4,5,7,11]) hty rfl rfl rfl rfl rfl ?_
 conv=>whnf
 rw [decide_eq_false (show ¬(n:Int)≤1 by omega)]
 obtain ⟨x,ex⟩:∃x,nxS code k seed=x:=⟨_,rfl⟩
 rw [ex] at c1 hx ⊢
 conv=>whnf
 refine VCall.par1 1000000 c1 ⟨⟨rfl,rfl,rfl,rfl⟩,trivial⟩ rfl ?_
 conv=>whnf
 rw [decide_eq_false (show ¬(200:Int) < (n:Int) by omega)]
 conv=>whnf
 refine ⟨by omega,?_⟩
 conv=>whnf
 rw [show (x:Int).tmod (n:Int)=((x % n:Nat):Int) from (Int.ofNat_tmod x n).symm]
 exact ⟨rfl,⟨rfl,trivial⟩,rfl⟩
theorem fn_from (code:List Nat):Fn Tryz.prog 14 [lB code] [] (.pe 5 0 0 3) [(5,srcO code 0 0)]:=by
 refine Fn.introP 5 (srcC code 0 0) (ks:=[0,2]) hty rfl rfl rfl rfl rfl ?_
 conv=>whnf
 exact ⟨⟨rfl,rfl⟩,rfl⟩
end Go.V
namespace Go.V
open Go.Proofs Go.RowKit
set_option maxRecDepth 10000
set_option maxHeartbeats 1000000
structure SrcK (code:List Nat) (m k seed:Nat):Prop where
 l:code.length≤2000000
 b:∀x,x∈code→x < 256
 k:k≤m
 s:seed < 18446744073709551616
theorem fn_pick1 (code:List Nat) (k seed:Nat):Fn Tryz.prog 27 [.pe 1000000 0 0 3,I 1] [(1000000,srcO code k seed)] (I 0) [(1000000,srcO code k seed)]:=by
 refine Fn.intro (ks:=[0,1,4,5,7,11]) hty rfl rfl rfl rfl rfl ?_
 conv=>whnf
 exact ⟨rfl,⟨rfl,trivial⟩,rfl⟩
theorem ex_pick {code:List Nat} {m k seed:Nat} (h:SrcK code m k seed) (hm:m≤1000000) (n:Nat) (h1:1≤n) (h2:n≤200) :
  ∃v k' seed',v < n∧SrcK code (m+1) k' seed'∧Fn Tryz.prog 27 [.pe 1000000 0 0 3,I n] [(1000000,srcO code k seed)] (I v) [(1000000,srcO code k' seed')]:=by
 have hk:=h.k
 by_cases e:n=1
 ·subst e
  exact ⟨0,k,seed,by decide,⟨h.l,h.b,by omega,h.s⟩,fn_pick1 code k seed⟩
 ·exact ⟨_,_,_,Nat.mod_lt _ (by omega),⟨h.l,h.b,by omega,sdS_lt _ _⟩,fn_pick code k seed n (by omega) h2 (by omega) h.l h.b h.s⟩
theorem ex_one {code:List Nat} {m k seed:Nat} (h:SrcK code m k seed) (hm:m≤1000000) (n:Nat) (h1:1≤n) (h2:n≤200) :
  ∃b k' seed',SrcK code (m+1) k' seed'∧Fn Tryz.prog 16 [.pe 1000000 0 0 3,I n] [(1000000,srcO code k seed)] (B b) [(1000000,srcO code k' seed')]:=by
 obtain ⟨v,k',seed',hv,hs,c⟩:=ex_pick h hm n h1 h2
 refine ⟨decide ((v:Int)=0),k',seed',hs,?_⟩
 refine Fn.intro (ks:=[0,1,4]) hty rfl rfl rfl rfl rfl ?_
 conv=>whnf
 refine VCall.par1 1000000 c ⟨⟨rfl,rfl,rfl,rfl⟩,rfl,trivial⟩ rfl ?_
 conv=>whnf
 exact ⟨rfl,⟨rfl,trivial⟩,rfl⟩
theorem fits_smallQ {q:Rat} (h:sz q≤190):fitsQ q=true:=by
 have h1:=dd_bl (tp q)
 have h2:=dd_bl q.den
 have h3:=bl_tp q
 have h4:=bl_den q
 unfold fitsQ
 rw [decide_eq_true (by omega),decide_eq_true (by omega)];rfl
theorem quot_parts (a k:Nat) (h:k≠0):tp (((a:Int):Rat) / ((k:Int):Rat))≤a∧(((a:Int):Rat) / ((k:Int):Rat)).den≤k:=by
 obtain ⟨_,p2,p3⟩:=mkRat_parts (s:=false) (t:=a) h
 rw [sgn_f,Rat.mkRat_eq_div] at p2 p3
 exact ⟨by rw [show ((k:Int):Rat)=((k:Nat):Rat) from rfl,p2];exact Nat.div_le_self _ _,by rw [show ((k:Int):Rat)=((k:Nat):Rat) from rfl,p3];exact Nat.div_le_self _ _⟩
end Go.V
namespace Go.V
open Go.Proofs Go.RowKit
set_option maxRecDepth 10000
set_option maxHeartbeats 1000000
theorem fn_b10Long (a b:List Nat):Fn Tryz.prog 4 [lB a,lB b] [] (B (decide (1048576 < a.length) || decide (1048576 < b.length))) []:=by
 refine Fn.intro (ks:=[0,1,4]) hty rfl rfl rfl rfl rfl ?_
 conv=>whnf
 rw [cW_len]
 by_cases h:1048576 < a.length
 ·rw [decide_eq_true (show (1048576:Int) < (a.length:Int) by omega)]
  conv=>whnf
  exact ⟨by rw [decide_eq_true h];rfl,trivial,rfl⟩
 ·rw [decide_eq_false (show ¬(1048576:Int) < (a.length:Int) by omega)]
  conv=>whnf
  rw [cW_len]
  refine ⟨?_,trivial,rfl⟩
  rw [show decide ((1048576:Int) < (b.length:Int))=decide (1048576 < b.length) by rw [decide_eq_decide];omega,decide_eq_false h]
  rfl
theorem ex_b10At (a:List Nat) (k n:Nat) (h1:1≤n) (h2:n≤1000) (hk:k≤1000000) (ha:∀x,x∈a→x < 256):∃v,v < n∧Fn Tryz.prog 7 [lB a,I k,I n] [] (I (v:Nat)) []:=by
 have hz:((cW .u8 a).length:Int)=a.length:=by rw [cW_len]
 by_cases h3:n≤1
 ·refine ⟨0,by omega,?_⟩;refine Fn.intro (ks:=[0,1,2,6,8,12]) hty rfl rfl rfl rfl rfl ?_;conv=>whnf
  rw [decide_eq_true (show (n:Int)≤1 by omega)];conv=>whnf
  exact ⟨rfl,trivial,rfl⟩
 by_cases h4:k < a.length
 ·obtain ⟨x,ex⟩:∃x,a.getD k 0=x:=⟨_,rfl⟩;have hx:x < 256:=by rw [←ex,gD,List.getElem?_eq_getElem h4];exact ha _ (List.getElem_mem _)
  refine ⟨x % n,Nat.mod_lt _ (by omega),?_⟩;refine Fn.intro (ks:=[0,1,2,6,8,12]) hty rfl rfl rfl rfl rfl ?_;conv=>whnf
  rw [decide_eq_false (show ¬(n:Int)≤1 by omega)];conv=>whnf
  rw [hz,decide_eq_true (show (k:Int) < (a.length:Int) by omega)];conv=>whnf
  refine ⟨⟨⟨by omega,by rw [cW_len];omega⟩,cW_sz _ _⟩,?_⟩;conv=>whnf
  refine ⟨_,cW_as h4 ex,?_⟩;conv=>whnf
  refine Wr.i64 (y:=(x:Int)) rfl (by omega) (by omega) ?_;conv=>whnf
  refine ⟨by omega,?_⟩;conv=>whnf
  rw [show (x:Int).tmod (n:Int)=((x % n:Nat):Int) from (Int.ofNat_tmod x n).symm];exact ⟨rfl,trivial,rfl⟩
 ·refine ⟨(k*37+11) % n,Nat.mod_lt _ (by omega),?_⟩;refine Fn.intro (ks:=[0,1,2,6,8,12]) hty rfl rfl rfl rfl rfl ?_;conv=>whnf
  rw [decide_eq_false (show ¬(n:Int)≤1 by omega)];conv=>whnf
  rw [hz,decide_eq_false (show ¬(k:Int) < (a.length:Int) by omega)];conv=>whnf
  refine Wr.i64 (y:=((k*37:Nat):Int)) (by omega) (by omega) (by omega) ?_;conv=>whnf
  refine Wr.i64 (y:=((k*37+11:Nat):Int)) (by omega) (by omega) (by omega) ?_;conv=>whnf
  refine ⟨by omega,?_⟩;conv=>whnf
  rw [show ((k*37+11:Nat):Int).tmod (n:Int)=(((k*37+11) % n:Nat):Int) from (Int.ofNat_tmod (k*37+11) n).symm];exact ⟨rfl,trivial,rfl⟩
theorem fn_sTwoR (s t:List UInt8) {p q:Rat} (hs:s.length≤1000000) (ht:t.length≤1000000) (h1:rdRat s=some p) (h2:rdRat t=some q):Fn Tryz.prog 43 [Str s,Str t] [] (.tup [rS p,rS q,B true]) []:=by
 have c1:=fn_sParse s (by omega)
 have c2:=fn_sParse t (by omega)
 rw [h1] at c1
 rw [h2] at c2
 replace c1:Fn Tryz.prog 64 [Str s] [] (.tup [.ag [B (ng p),nS (tp p),nS p.den],B true]) []:=c1
 replace c2:Fn Tryz.prog 64 [Str t] [] (.tup [.ag [B (ng q),nS (tp q),nS q.den],B true]) []:=c2
 show Fn Tryz.prog 43 [Str s,Str t] [] (.tup [.ag [B (ng p),nS (tp p),nS p.den],.ag [B (ng q),nS (tp q),nS q.den],B true]) []
 generalize ng p=x1 at c1 ⊢
 generalize tp p=x2 at c1 ⊢
 generalize p.den=x3 at c1 ⊢
 generalize ng q=y1 at c2 ⊢
 generalize tp q=y2 at c2 ⊢
 generalize q.den=y3 at c2 ⊢
 refine Fn.intro (ks:=[0,1,4,5,6,7,8,9,10]) hty rfl rfl rfl rfl rfl ?_
 conv=>whnf
 refine VCall.of_data c1 (ndT fun _=>rfl) ?_
 conv=>whnf
 refine VCall.of_data c2 (ndT fun _=>rfl) ?_
 conv=>whnf
 refine VDraw.dp hmo hty [(10,B true),(9,.lp 9 0),(8,B true),(7,.lp 7 0),(5,.lp 5 0),(4,.lp 4 0)] [(9,.box true [B y1,nS y2,nS y3]),(7,.box true [B x1,nS x2,nS x3])]
  [(0,21,.ag [B x1,nS x2,nS x3]),(1,22,.ag [B y1,nS y2,nS y3]),(2,23,B true),(3,24,B true),(4,25,B true),(5,26,B true),(8,6,B true)] [(6,4,.box true [B x1,nS x2,nS x3]),(7,5,.box true [B y1,nS y2,nS y3])] [(6,4,.box true _),(7,5,.box true _)] rfl ⟨rfl,rfl,rfl,rfl,rfl,rfl,trivial⟩ ⟨rfl,rfl,rfl,rfl,trivial⟩ ?_ ?_
 ·
  conv=>whnf
  repeat' (first
   | (refine ⟨?_,?_⟩ <;> conv=>whnf)
   | exact rfl
   | exact trivial)
 ·
  conv=>whnf
  repeat' (first
   | exact rfl
   | exact trivial
   | refine ⟨?_,?_⟩)
theorem fn_sCmpR (s t:List UInt8) {p q:Rat} (hs:s.length≤1000000) (ht:t.length≤1000000) (h1:rdRat s=some p) (h2:rdRat t=some q) :
  Fn Tryz.prog 25 [Str s,Str t] [] (.tup [I (if p < q then -1 else if q < p then 1 else 0),B true]) []:=by
 have c:=fn_sTwoR s t hs ht h1 h2
 have z1:=rdRat_sz h1
 have z2:=rdRat_sz h2
 have c1:=fn_sLess2 p q (by omega) (by omega)
 have c2:=fn_sLess2 q p (by omega) (by omega)
 refine Fn.intro (ks:=[0,1,4,5,6,7,8,17,18,22]) hty rfl rfl rfl rfl rfl ?_
 conv=>whnf
 refine VCall.of_data c (ndT fun _=>rfl) ?_
 conv=>whnf
 refine VCall.of_data c1 (nd _) ?_
 conv=>whnf
 by_cases h:p < q
 ·rw [decide_eq_true h,if_pos h]
  conv=>whnf
  exact ⟨rfl,rfl,trivial,rfl⟩
 ·rw [decide_eq_false h,if_neg h]
  conv=>whnf
  refine VCall.of_data c2 (nd _) ?_
  conv=>whnf
  by_cases h3:q < p
  ·rw [decide_eq_true h3,if_pos h3]
   conv=>whnf
   exact ⟨rfl,rfl,trivial,rfl⟩
  ·rw [decide_eq_false h3,if_neg h3]
   conv=>whnf
   exact ⟨rfl,rfl,trivial,rfl⟩
theorem fn_atMost (s t:List UInt8) {p q:Rat} (hs:s.length≤1000000) (ht:t.length≤1000000) (h1:rdRat s=some p) (h2:rdRat t=some q) (hle:p≤q) :
  Fn Tryz.prog 11 [Str s,Str t] [] (B true) []:=by
 have c:=fn_sCmpR s t hs ht h1 h2;have h3:¬q < p:=by grind
 rw [if_neg h3] at c;obtain ⟨z,ez⟩:∃z:Int,(if p < q then -1 else 0)=z:=⟨_,rfl⟩;have hz:z≤0:=by rw [←ez];split <;> decide
 rw [ez] at c;refine Fn.intro (ks:=[0,1,4,5,6]) hty rfl rfl rfl rfl rfl ?_;conv=>whnf
 refine VCall.of_data c (ndT fun _=>rfl) ?_;conv=>whnf
 rw [decide_eq_true hz];exact ⟨rfl,trivial,rfl⟩
theorem fn_b10Same (xs:List (List UInt8)) (hl:xs.length≤1000000):Fn Tryz.prog 13 [lT xs,lT xs] [] (B true) []:=by
 have hz:((cT xs).length:Int)=xs.length:=by rw [cT_len]
 refine Fn.intro (ks:=[0,1,4,5,10,12,13,14,24]) hty rfl rfl rfl rfl rfl ?_;conv=>whnf
 rw [hz,decide_eq_true (rfl:((xs.length:Nat):Int)=(xs.length:Int))];conv=>whnf
 rw [hz];refine VLoop.inv hty (S:=Nat) (fun k=>[(13,I k),(12,I xs.length),(1,lT xs),(0,lT xs)]) (fun _=>[]) (fun k=>k≤xs.length) (fun k=>xs.length - k) 0 (Nat.zero_le _) ⟨rfl,rfl,rfl,rfl,trivial⟩ trivial ?_;intro k hk;conv=>whnf
 refine Br.mk (fun h=>?_) (fun h=>?_)
 ·have h:k < xs.length:=by simp only [decide_eq_true_eq] at h;omega
  obtain ⟨x,ex⟩:∃x,xs.getD k []=x:=⟨_,rfl⟩;conv=>whnf
  refine VDraw.go hmo hty 9 [] rfl ?_;conv=>whnf
  refine ⟨⟨⟨by omega,by rw [cT_len];omega⟩,cT_sz _⟩,?_⟩;conv=>whnf
  refine ⟨_,cT_as h ex,?_⟩;conv=>whnf
  refine ⟨⟨⟨by omega,by rw [cT_len];omega⟩,cT_sz _⟩,?_⟩;conv=>whnf
  refine ⟨_,cT_as h ex,?_⟩;conv=>whnf
  rw [show ((⟨x.toArray⟩:ByteArray).toList == (⟨x.toArray⟩:ByteArray).toList)=true by simp];conv=>whnf
  refine Wr.i64 (y:=((k+1:Nat):Int)) rfl (by omega) (by omega) ?_;conv=>whnf
  exact ⟨k+1,h,by show xs.length - (k+1) < xs.length - k;omega,⟨rfl,rfl,rfl,rfl,trivial⟩,trivial⟩
 ·have h:k=xs.length:=by simp only [decide_eq_false_iff_not] at h;omega
  conv=>whnf
  exact ⟨rfl,trivial,rfl⟩
theorem fn_better (m:Mo) (hm:m.Ok) (v:List Rat) (hv:VOk m v):Fn Tryz.prog 26 [moI m,lQ v] [] (.ls 0 0 m.room 1) [(0,.row true 1 (cBo (betQ m v)))]:=by
 have r2:=hm.r2;refine Fn.intro (ks:=[0,1,2,4,5,6,9,10,11]) hty rfl rfl rfl rfl rfl ?_;conv=>whnf
 refine VLoop.ren 7 19 rfl ?_;refine VLoop.inv hty (S:=Nat) (fun k=>[(10,I k),(9,I m.room),(5,.ls 19 0 k 1),(2,.lp 2 0),(1,lQ v)]) (fun k=>[(19,.row true 1 (cBo ((List.range k).map (letQ m v)))),(2,.box true [I m.room,B (ng m.come),nI (tp m.come),nI m.come.den,B (ng m.serve),nI (tp m.serve),nI m.serve.den,B (ng m.reward),nI (tp m.reward),nI m.reward.den,B (ng m.cost),nI (tp m.cost),nI m.cost.den])]) (fun k=>k≤m.room) (fun k=>m.room - k) 0 (Nat.zero_le _)
  ⟨rfl,rfl,rfl,rfl,rfl,trivial⟩ ⟨rfl,rfl,trivial⟩ ?_
 intro k hk;conv=>whnf
 refine Br.mk (fun h=>?_) (fun h=>?_)
 ·have h:k < m.room:=by simp only [decide_eq_true_eq] at h;omega
  have c:=fn_letIn m hm v hv k h;have es:(List.range (k+1)).map (letQ m v)=(List.range k).map (letQ m v)++[letQ m v k]:=by rw [List.range_succ,List.map_append];rfl
  have hl:((List.range k).map (letQ m v)).length=k:=by simp
  obtain ⟨F,eF⟩:∃F,(List.range k).map (letQ m v)=F:=⟨_,rfl⟩;obtain ⟨y,ey⟩:∃y,letQ m v k=y:=⟨_,rfl⟩;rw [eF] at hl es ⊢;rw [ey] at c es;conv=>whnf
  refine VCall.of_data c (nd _) ?_;conv=>whnf
  refine Sub.full rfl ?_;conv=>whnf
  refine Sub.full (by rw [cBo_len];exact hl) ?_;conv=>whnf
  refine ⟨by show (k+1)*1≤_;omega,?_⟩;conv=>whnf
  refine Wr.i64 (y:=((k+1:Nat):Int)) rfl (by omega) (by omega) ?_;conv=>whnf
  refine ⟨k+1,h,by show m.room - (k+1) < m.room - k;omega,⟨rfl,rfl,rfl,rfl,rfl,trivial⟩,?_,rfl,trivial⟩;rw [es];show Ob.row true 1 (cBo F++[[.s (.bool y)]])=_;rw [cBo_append1]
 ·have h:k=m.room:=by simp only [decide_eq_false_iff_not] at h;omega
  rw [h];conv=>whnf
  exact ⟨⟨rfl,rfl,rfl,rfl,rfl,rfl⟩,[],rfl,trivial,rfl⟩
theorem fn_BestActs1 (r:Int) (a b c d:List UInt8) (hi:MdIn a b c d) {m:Mo} (hm:modQ r a b c d=some m):Fn Tryz.prog 12 [mdI r a b c d,I 1] [] (.tup [lBo (betQ m (zeroQ m)),B true]) []:=by
 obtain ⟨hok,_⟩:=modQ_ok hm
 have r2:=hok.r2
 have c1:=fn_modelOf r a b c d hi.a hi.b hi.c hi.d
 rw [hm] at c1
 replace c1:Fn Tryz.prog 17 [mdI r a b c d] [] (.tup [moI m,B true]) []:=c1
 have c2:=fn_in 1 1 24
 have c3:=fn_values m hok 0 (by decide)
 have hv:=run_vok hok (letQ m) (k:=0) (by decide)
 have c4:=(fn_better m hok _ hv).freeze (by rw [cBo_len,betQ_len];omega)
 rw [List.drop_zero,List.take_of_length_le (by rw [cBo_len,betQ_len];omega)] at c4
 refine Fn.intro (ks:=[0,1,2,4,5,6,7,19]) hty rfl rfl rfl rfl rfl ?_
 conv=>whnf
 refine VCall.of_data c1 (ndT fun _=>rfl) ?_
 conv=>whnf
 refine VCall.of_data c2 (nd _) ?_
 conv=>whnf
 refine VDraw.go hmo hty 8 [] rfl ?_
 conv=>whnf
 refine Wr.i64 (y:=0) rfl (by decide) (by decide) ?_
 conv=>whnf
 refine QCall.of_data c3 (nd _) ?_
 conv=>whnf
 refine QCall.of_data c4 (nd _) ?_
 conv=>whnf
 exact ⟨rfl,rfl,trivial,rfl⟩
theorem fn_ValidModel1 (r:Int) (a b c d:List UInt8) (hi:MdIn a b c d) {m:Mo} (hm:modQ r a b c d=some m):Fn Tryz.prog 10 [mdI r a b c d] [] (B true) []:=by
 have c1:=fn_modelOf r a b c d hi.a hi.b hi.c hi.d
 rw [hm] at c1
 replace c1:Fn Tryz.prog 17 [mdI r a b c d] [] (.tup [moI m,B true]) []:=c1
 refine Fn.intro (ks:=[0,1,2,4]) hty rfl rfl rfl rfl rfl ?_
 conv=>whnf
 refine VCall.of_data c1 (ndT fun _=>rfl) ?_
 conv=>whnf
 exact ⟨rfl,trivial,rfl⟩
end Go.V
namespace Go.V
open Go.Proofs Go.RowKit
set_option maxRecDepth 10000
set_option maxHeartbeats 4000000
def qR (a k:Nat):Rat:=((a:Int):Rat) / ((k:Int):Rat)
def qChk:Bool:=(List.range 6).all fun k=>(List.range 6).all fun a=>(List.range 6).all fun b=>!(decide (1≤a) && (decide (1≤b) && decide (a+b≤k))) || (decide (0 < qR a k) && (decide (0 < qR b k) && decide (qR a k+qR b k≤1)))
theorem qChk_t:qChk=true:=by decide +kernel
theorem qR_pos (k:Nat) (hk:k < 6) (a:Nat) (ha:a < 6) (b:Nat) (hb:b < 6) (h1:1≤a) (h2:1≤b) (h3:a+b≤k):0 < qR a k∧0 < qR b k∧qR a k+qR b k≤1:=by
 have h:=List.all_eq_true.1 (List.all_eq_true.1 (List.all_eq_true.1 qChk_t k (List.mem_range.2 hk)) a (List.mem_range.2 ha)) b (List.mem_range.2 hb)
 rw [decide_eq_true h1,decide_eq_true h2,decide_eq_true h3] at h
 simp only [Bool.and_self,Bool.not_true,Bool.false_or,Bool.and_eq_true,decide_eq_true_eq] at h
 exact h
def qChk0:Bool:=(List.range 4).all fun k=>(List.range 13).all fun a=>!decide (1≤k) || decide (0≤qR a k)
theorem qChk0_t:qChk0=true:=by decide +kernel
theorem qR_nn (k:Nat) (hk:k < 4) (a:Nat) (ha:a < 13) (h1:1≤k):0≤qR a k:=by
 have h:=List.all_eq_true.1 (List.all_eq_true.1 qChk0_t k (List.mem_range.2 hk)) a (List.mem_range.2 ha)
 rw [decide_eq_true h1] at h
 simpa using h
theorem qR_sz {a k:Nat} (ha:a≤15) (hk:1≤k) (hk2:k≤15):sz (qR a k)≤4∧tp (qR a k)≤a∧(qR a k).den≤k:=by
 obtain ⟨h1,h2⟩:=quot_parts a k (by omega)
 have b1:bl (tp (qR a k))≤4:=bl_le (Nat.lt_of_le_of_lt (show tp (qR a k)≤a from h1) (by omega))
 have b2:bl (qR a k).den≤4:=bl_le (Nat.lt_of_le_of_lt (show (qR a k).den≤k from h2) (by omega))
 refine ⟨?_,h1,h2⟩
 unfold sz
 omega
theorem qR_read {a k:Nat} (ha:a≤15) (hk:1≤k) (hk2:k≤15):rdRat (ratT (qR a k))=some (qR a k) :=
 rdRat_ratT (fits_smallQ (by have:=(qR_sz ha hk hk2).1;omega))
theorem fits_len {q:Rat} (h:fitsQ q=true):(ratT q).length≤1000:=by
 unfold fitsQ at h
 simp only [Bool.and_eq_true,decide_eq_true_eq] at h
 unfold ratT
 simp only [List.length_append]
 split <;> split <;> simp <;> omega
structure MdSmall (r:Int) (a b c d:List UInt8) (m:Mo):Prop where
 q:modQ r a b c d=some m
 s:m.Small
 i:MdIn a b c d
theorem md_small {v1 v2 v3 v4 v5 v6 v7 v8:Nat} (h1:v1 < 5) (h2:v2 < 4) (h3:v3 < 1+v2) (h4:v4 < 1+v2 - v3) (h5:v5 < 13) (h6:v6 < 2) (h7:v7 < 7) (h8:v8 < 3) :
  MdSmall ((1+v1:Nat):Int) (ratT (qR (1+v3) (2+v2))) (ratT (qR (1+v4) (2+v2))) (ratT (qR v5 (1+v6))) (ratT (qR v7 (1+v8))) ⟨1+v1,qR (1+v3) (2+v2),qR (1+v4) (2+v2),qR v5 (1+v6),qR v7 (1+v8)⟩:=by
 obtain ⟨p1,p2,p3⟩:=qR_pos (2+v2) (by omega) (1+v3) (by omega) (1+v4) (by omega) (by omega) (by omega) (by omega)
 have p4:=qR_nn (1+v6) (by omega) v5 h5 (by omega)
 have p5:=qR_nn (1+v8) (by omega) v7 (by omega) (by omega)
 have e1:=qR_read (a:=1+v3) (k:=2+v2) (by omega) (by omega) (by omega)
 have e2:=qR_read (a:=1+v4) (k:=2+v2) (by omega) (by omega) (by omega)
 have e3:=qR_read (a:=v5) (k:=1+v6) (by omega) (by omega) (by omega)
 have e4:=qR_read (a:=v7) (k:=1+v8) (by omega) (by omega) (by omega)
 obtain ⟨z1,t1,d1⟩:=qR_sz (a:=1+v3) (k:=2+v2) (by omega) (by omega) (by omega)
 obtain ⟨z2,t2,d2⟩:=qR_sz (a:=1+v4) (k:=2+v2) (by omega) (by omega) (by omega)
 obtain ⟨z3,t3,d3⟩:=qR_sz (a:=v5) (k:=1+v6) (by omega) (by omega) (by omega)
 obtain ⟨z4,t4,d4⟩:=qR_sz (a:=v7) (k:=1+v8) (by omega) (by omega) (by omega)
 have hq:modQ ((1+v1:Nat):Int) (ratT (qR (1+v3) (2+v2))) (ratT (qR (1+v4) (2+v2))) (ratT (qR v5 (1+v6))) (ratT (qR v7 (1+v8)))=some ⟨1+v1,qR (1+v3) (2+v2),qR (1+v4) (2+v2),qR v5 (1+v6),qR v7 (1+v8)⟩:=by
  unfold modQ
  rw [e1,e2,e3,e4]
  dsimp only
  rw [if_pos ⟨p1,p2,p4,p5,by omega,p3⟩,Int.toNat_natCast]
 have l1:=fits_len (fits_smallQ (q:=qR (1+v3) (2+v2)) (by omega))
 have l2:=fits_len (fits_smallQ (q:=qR (1+v4) (2+v2)) (by omega))
 have l3:=fits_len (fits_smallQ (q:=qR v5 (1+v6)) (by omega))
 have l4:=fits_len (fits_smallQ (q:=qR v7 (1+v8)) (by omega))
 exact ⟨hq,⟨(modQ_ok hq).1,by dsimp only;omega,by dsimp only;omega,by dsimp only;omega,by dsimp only;omega,by dsimp only;omega,by dsimp only;omega⟩,⟨by omega,by omega,by omega,by omega⟩⟩
theorem VCall.par1g {P:Program} {t:TL} {l:LL} {f:FuncId} {xs xs0:List AV} {sz sz':Nat} {rows rows':List (List C)} {x:AV} {dst:Option Nat} {K:AV→TL→LL→Prop} (a:Nat)
  (h:Fn P f xs0 [(1000000,.row true sz rows)] x [(1000000,.row true sz' rows')]) (ha:argR (pmap [(1000000,a)]) xs xs0) (hl:lget a l = .row true sz rows) (hf:∀k,AV.ment k x=false) (hr:AV.ren (ret (pmap [(1000000,a)]) 0) x=x)
  (hK:K x t ((a,.row true sz' rows') :: l)):VCall P f xs dst t l K :=
 VCall.of_fnR (k:=0) (pmap [(1000000,a)]) h ha ⟨⟨hl,fun p h=>absurd rfl h⟩,trivial⟩ rfl (keepRows rfl rfl) (fun k h=>by rw [hf k] at h;cases h) rfl (by rw [hr];exact hK)
theorem ex_DrawOk {code:List Nat} {m k seed:Nat} (h:SrcK code m k seed) (hm:m≤1000) :
  ∃r a b c d mo k' seed',MdSmall r a b c d mo∧SrcK code (m+8) k' seed'∧Fn Tryz.prog 15 [.pe 1000000 0 0 3] [(1000000,srcO code k seed)] (mdI r a b c d) [(1000000,srcO code k' seed')]:=by
 obtain ⟨v1,k1,s1,h1,g1,c1⟩:=ex_pick h (by omega) 5 (by decide) (by decide)
 obtain ⟨v2,k2,s2,h2,g2,c2⟩:=ex_pick g1 (by omega) 4 (by decide) (by decide)
 obtain ⟨v3,k3,s3,h3,g3,c3⟩:=ex_pick g2 (by omega) (1+v2) (by omega) (by omega)
 obtain ⟨v4,k4,s4,h4,g4,c4⟩:=ex_pick g3 (by omega) (1+v2 - v3) (by omega) (by omega)
 obtain ⟨v5,k5,s5,h5,g5,c5⟩:=ex_pick g4 (by omega) 13 (by decide) (by decide)
 obtain ⟨v6,k6,s6,h6,g6,c6⟩:=ex_pick g5 (by omega) 2 (by decide) (by decide)
 obtain ⟨v7,k7,s7,h7,g7,c7⟩:=ex_pick g6 (by omega) 7 (by decide) (by decide)
 obtain ⟨v8,k8,s8,h8,g8,c8⟩:=ex_pick g7 (by omega) 3 (by decide) (by decide)
 refine ⟨_,_,_,_,_,_,k8,s8,md_small h1 h2 h3 h4 h5 h6 h7 h8,g8,?_⟩
 have f1:=fn_l01Of (1+v3) (2+v2) (by omega) (by omega) (by omega)
 have f2:=fn_l01Of (1+v4) (2+v2) (by omega) (by omega) (by omega)
 have f3:=fn_l01Of v5 (1+v6) (by omega) (by omega) (by omega)
 have f4:=fn_l01Of v7 (1+v8) (by omega) (by omega) (by omega)
 rw [show (((1+v3:Nat):Int):Rat) / (((2+v2:Nat):Int):Rat)=qR (1+v3) (2+v2) from rfl] at f1
 rw [show (((1+v4:Nat):Int):Rat) / (((2+v2:Nat):Int):Rat)=qR (1+v4) (2+v2) from rfl] at f2
 rw [show ((v5:Int):Rat) / (((1+v6:Nat):Int):Rat)=qR v5 (1+v6) from rfl] at f3
 rw [show ((v7:Int):Rat) / (((1+v8:Nat):Int):Rat)=qR v7 (1+v8) from rfl] at f4
 generalize ratT (qR (1+v3) (2+v2))=ta at f1 ⊢
 generalize ratT (qR (1+v4) (2+v2))=tb at f2 ⊢
 generalize ratT (qR v5 (1+v6))=tc at f3 ⊢
 generalize ratT (qR v7 (1+v8))=td at f4 ⊢
 clear g1 g2 g3 g4 g5 g6 g7 g8 h
 refine Fn.intro (ks:=[0,2,3,4,5]) hty rfl rfl rfl rfl rfl ?_
 conv=>whnf
 refine VCall.par1 1000000 c1 ⟨⟨rfl,rfl,rfl,rfl⟩,rfl,trivial⟩ rfl ?_
 conv=>whnf
 refine Wr.i64 (y:=((1+v1:Nat):Int)) (by omega) (by omega) (by omega) ?_
 conv=>whnf
 refine VCall.par1 1000000 c2 ⟨⟨rfl,rfl,rfl,rfl⟩,rfl,trivial⟩ rfl ?_
 conv=>whnf
 refine Wr.i64 (y:=((2+v2:Nat):Int)) (by omega) (by omega) (by omega) ?_
 conv=>whnf
 refine Wr.i64 (y:=((1+v2:Nat):Int)) (by omega) (by omega) (by omega) ?_
 conv=>whnf
 refine VCall.par1 1000000 c3 ⟨⟨rfl,rfl,rfl,rfl⟩,rfl,trivial⟩ rfl ?_
 conv=>whnf
 refine Wr.i64 (y:=((1+v3:Nat):Int)) (by omega) (by omega) (by omega) ?_
 conv=>whnf
 refine VCall.of_data f1 (nd _) ?_
 conv=>whnf
 refine Wr.i64 (y:=((1+v2 - v3:Nat):Int)) (by omega) (by omega) (by omega) ?_
 conv=>whnf
 refine VCall.par1 1000000 c4 ⟨⟨rfl,rfl,rfl,rfl⟩,rfl,trivial⟩ rfl ?_
 conv=>whnf
 refine Wr.i64 (y:=((1+v4:Nat):Int)) (by omega) (by omega) (by omega) ?_
 conv=>whnf
 refine VCall.of_data f2 (nd _) ?_
 conv=>whnf
 refine VCall.par1 1000000 c5 ⟨⟨rfl,rfl,rfl,rfl⟩,rfl,trivial⟩ rfl ?_
 conv=>whnf
 refine VCall.par1 1000000 c6 ⟨⟨rfl,rfl,rfl,rfl⟩,rfl,trivial⟩ rfl ?_
 conv=>whnf
 refine Wr.i64 (y:=((1+v6:Nat):Int)) (by omega) (by omega) (by omega) ?_
 conv=>whnf
 refine VCall.of_data f3 (nd _) ?_
 conv=>whnf
 refine VCall.par1 1000000 c7 ⟨⟨rfl,rfl,rfl,rfl⟩,rfl,trivial⟩ rfl ?_
 conv=>whnf
 refine VCall.par1 1000000 c8 ⟨⟨rfl,rfl,rfl,rfl⟩,rfl,trivial⟩ rfl ?_
 conv=>whnf
 refine Wr.i64 (y:=((1+v8:Nat):Int)) (by omega) (by omega) (by omega) ?_
 conv=>whnf
 refine VCall.of_data f4 (nd _) ?_
 conv=>whnf
 exact ⟨rfl,rfl,rfl,rfl,rfl,⟨rfl,trivial⟩,rfl⟩
theorem srcK0 {code:List Nat} (hl:code.length≤2000000) (hb:∀x,x∈code→x < 256):SrcK code 0 0 0:=⟨hl,hb,Nat.le_refl _,by decide⟩
theorem names5 (code:List Nat):namesIn [(5,srcO code 0 0)] (.pe 5 0 0 3):=fun j hj=>by
 have e:5=j:=Nat.eq_of_beq_eq_true hj
 rw [lget_cons,if_pos e.symm];simp
theorem ex_Model (code:List Nat) (hl:code.length≤2000000) (hb:∀x,x∈code→x < 256) :
  ∃r a b c d mo,MdSmall r a b c d mo∧Fn Tryz.prog 5 [lB code] [] (mdI r a b c d) []:=by
 have c1:=fn_from code
 obtain ⟨r,a,b,c,d,mo,k',s',h1,h2,c2⟩:=ex_DrawOk (srcK0 hl hb) (by decide)
 refine ⟨r,a,b,c,d,mo,h1,?_⟩
 refine Fn.intro (ks:=[0,2,3]) hty rfl rfl rfl rfl rfl ?_
 conv=>whnf
 refine VCall.of_fn (k:=5) c1 (names5 code) rfl ?_
 conv=>whnf
 refine VCall.par1g 5005 c2 ⟨⟨rfl,rfl,rfl,rfl⟩,trivial⟩ rfl (fun _=>rfl) rfl ?_
 conv=>whnf
 exact ⟨rfl,rfl,rfl,rfl,rfl,trivial,rfl⟩
theorem ex_Acts (code:List Nat) (hl:code.length≤2000000) (hb:∀x,x∈code→x < 256) (n:Nat) (hn:n≤100) (a b c d:List UInt8) :
  ∃acts:List Bool,acts.length=n∧Fn Tryz.prog 6 [lB code,mdI n a b c d] [] (lBo acts) []:=by
 have key:∀j,j≤n→∃(K S:Nat→Nat) (Bs:Nat→Bool),K 0=0∧S 0=0∧∀i,i < j→Fn Tryz.prog 16 [.pe 1000000 0 0 3,I 3] [(1000000,srcO code (K i) (S i))] (B (Bs i)) [(1000000,srcO code (K (i+1)) (S (i+1)))]∧SrcK code (i+1) (K (i+1)) (S (i+1)):=by
  intro j;induction j with
  | zero=>intro _;exact ⟨fun _=>0,fun _=>0,fun _=>false,rfl,rfl,fun i hi=>by omega⟩
  | succ j ih =>
   intro hj;obtain ⟨K,S,Bs,e1,e2,h⟩:=ih (by omega);have hs:SrcK code j (K j) (S j):=by
    cases j with
    | zero=>rw [e1,e2];exact srcK0 hl hb
    | succ j=>exact (h j (by omega)).2
   obtain ⟨b,k',s',g1,c⟩:=ex_one hs (by omega) 3 (by decide) (by decide);refine ⟨fun i=>if i=j+1 then k' else K i,fun i=>if i=j+1 then s' else S i,fun i=>if i=j then b else Bs i,?_,?_,fun i hi=>?_⟩
   ·show (if (0:Nat)=j+1 then k' else K 0)=0;rw [if_neg (by omega)];exact e1
   ·show (if (0:Nat)=j+1 then s' else S 0)=0;rw [if_neg (by omega)];exact e2
   ·by_cases e:i=j
    ·subst e;dsimp only;rw [if_neg (show ¬i=i+1 by omega),if_neg (show ¬i=i+1 by omega),if_pos rfl,if_pos rfl,if_pos rfl];exact ⟨c,g1⟩
    ·dsimp only;rw [if_neg (show ¬i=j+1 by omega),if_neg (show ¬i=j+1 by omega),if_neg e,if_neg (show ¬i+1=j+1 by omega),if_neg (show ¬i+1=j+1 by omega)];exact h i (by omega)
 obtain ⟨K,S,Bs,e1,e2,h⟩:=key n (Nat.le_refl _);have c1:=fn_from code;have main:Fn Tryz.prog 6 [lB code,mdI n a b c d] [] (.ls 0 0 n 1) [(0,.row true 1 (cBo ((List.range n).map fun i=>!Bs i)))]:=by
  refine Fn.intro (ks:=[0,1,3,4,5,6,7,14]) hty rfl rfl rfl rfl rfl ?_;conv=>whnf
  refine VCall.of_fn (k:=9) c1 (names5 code) rfl ?_;conv=>whnf
  refine VLoop.ren 10 22 rfl ?_;refine VLoop.inv hty (S:=Nat) (fun j=>[(7,I ((n - j:Nat):Int)),(6,.ls 22 0 j 1),(5,.pe 5009 0 0 3)])
   (fun j=>[(5009,srcO code (K j) (S j)),(22,.row true 1 (cBo ((List.range j).map fun i=>!Bs i)))]) (fun j=>j≤n) (fun j=>n - j) 0 (Nat.zero_le _)
   ⟨rfl,rfl,rfl,trivial⟩ ⟨by rw [e1,e2];rfl,rfl,trivial⟩ ?_
  intro j hj;conv=>whnf
  refine Br.mk (fun h2=>?_) (fun h2=>?_)
  ·have h2:j < n:=by simp only [decide_eq_true_eq] at h2;omega
   obtain ⟨c,g⟩:=h j h2;have hF:((List.range j).map fun i=>!Bs i).length=j:=by simp
   have hS:((List.range (j+1)).map fun i=>!Bs i)=((List.range j).map fun i=>!Bs i)++[!Bs j]:=by rw [List.range_succ,List.map_append];rfl
   obtain ⟨F,eF⟩:∃F,((List.range j).map fun i=>!Bs i)=F:=⟨_,rfl⟩;rw [eF] at hF hS ⊢;obtain ⟨y,ey⟩:∃y,Bs j=y:=⟨_,rfl⟩;rw [ey] at c hS;conv=>whnf
   refine VCall.par1 5009 c ⟨⟨rfl,rfl,rfl,rfl⟩,rfl,trivial⟩ rfl ?_;conv=>whnf
   refine Sub.full rfl ?_;conv=>whnf
   refine Sub.full (by rw [cBo_len];exact hF) ?_;conv=>whnf
   refine ⟨by show (j+1)*1≤_;omega,?_⟩;conv=>whnf
   refine Wr.i64 (y:=((n - (j+1):Nat):Int)) (by omega) (by omega) (by omega) ?_;conv=>whnf
   refine ⟨j+1,h2,by show n - (j+1) < n - j;omega,⟨rfl,rfl,rfl,trivial⟩,rfl,?_,trivial⟩;rw [hS];show Ob.row true 1 (cBo F++[[.s (.bool (!y))]])=_;rw [cBo_append1]
  ·have h2:j=n:=by simp only [decide_eq_false_iff_not] at h2;omega
   rw [h2];conv=>whnf
   exact ⟨⟨rfl,rfl,rfl,rfl,rfl,rfl⟩,[],rfl,trivial,rfl⟩
 refine ⟨(List.range n).map fun i=>!Bs i,by simp,?_⟩;have:=main.freeze (by rw [cBo_len];simp);rwa [List.drop_zero,List.take_of_length_le (by rw [cBo_len];simp)] at this
end Go.V
namespace Go.V
open Go.Proofs Go.RowKit
set_option maxRecDepth 10000
set_option maxHeartbeats 0
theorem fit_byteP {c:C} (h:Fit c (.i .u8)):∃n:Nat,c = .s (.int .u8 (n:Int))∧n < 256:=by
 cases h with
 | i _ n h =>
  have h2:0≤n∧n < 256:=by
   simp [Lit.wf,IntKind.min,IntKind.max,IntKind.signed,IntKind.bits] at h
   omega
  exact ⟨n.toNat,by rw [Int.toNat_of_nonneg h2.1],by omega⟩
theorem fit_bytes {c:C} (h:Fit c (.sl [.i .u8])):∃xs:List Nat,c = .sl (cW .u8 xs)∧xs.length < 2 ^ 47∧∀x,x∈xs→x < 256:=by
 cases h with
 | sl rows _ h hl hf =>
  obtain ⟨xs,h1⟩:=rows_one (α:={ n:Nat // n < 256 }) (p:=fun c=>Fit c (.i .u8)) (g:=fun n=>.s (.int .u8 (n.1:Int))) (fun c hc=>by
   obtain ⟨n,h1,h2⟩:=fit_byteP hc;exact ⟨⟨n,h2⟩,h1⟩) hl (fun r hr c hc=>hf r hr 0 c _ hc rfl)
  subst h1
  refine ⟨xs.map (·.1),by simp [cW],by have:=reach_lt;simp at h ⊢;omega,fun x hx=>?_⟩
  obtain ⟨y,_,rfl⟩:=List.mem_map.1 hx
  exact y.2
theorem told_all {qs:List Rat} (h:∀q,q∈qs→sz q≤190):toldTs qs=some (qs.map ratT):=by
 unfold toldTs
 rw [if_pos (List.all_eq_true.2 fun q hq=>fits_smallQ (h q hq))]
theorem rats_at {qs:List Rat} {n:Nat} (h:n < qs.length):(qs.map ratT).getD n []=ratT (qs.getD n 0):=by
 rw [gD,gD,List.getElem?_map,List.getElem?_eq_getElem h];rfl
theorem ratT_zero:ratT 0=[48]:=by decide +kernel
theorem val_small {r:Int} {a b c d:List UInt8} {m:Mo} (h:MdSmall r a b c d m) (k:Nat) (hk:k≤4):Fn Tryz.prog 8 [mdI r a b c d,I k] [] (.tup [lT ((bestQ m k).map ratT),B true]) []:=by
 have c1:=fn_ValuesAfter r a b c d h.i k
 have e:valO r a b c d k=some ((bestQ m k).map ratT):=by
  unfold valO
  rw [h.q]
  show (if 0≤(k:Int)∧(k:Int)≤24 then toldTs (bestQ m (k:Int).toNat) else none)=_
  rw [if_pos (by omega),Int.toNat_natCast]
  exact told_all fun q hq=>by have:=small_sz h.s (letQ m) hk hq;omega
 rw [e] at c1
 replace c1:Fn Tryz.prog 8 [mdI r a b c d,I k] [] (.tup [.ls 0 0 ((bestQ m k).map ratT).length 1,B true]) [(0,.row true 1 (cT ((bestQ m k).map ratT)))]:=c1
 have c2:=c1.freezeT (by rw [cT_len];omega) rfl
 rwa [List.drop_zero,List.take_of_length_le (by rw [cT_len];exact Nat.le_refl _)] at c2
theorem plan_small {r:Int} {a b c d:List UInt8} {m:Mo} (h:MdSmall r a b c d m) (acts:List Bool) (ha:acts.length=m.room) (k:Nat) (hk:k≤4):Fn Tryz.prog 9 [mdI r a b c d,lBo acts,I k] [] (.tup [lT ((planQ m acts k).map ratT),B true]) []:=by
 have c1:=fn_ValueOfPlan r a b c d h.i acts k
 have e:planO r a b c d acts k=some ((planQ m acts k).map ratT):=by
  unfold planO actQ
  rw [h.q]
  dsimp only
  rw [if_pos (by omega)]
  show (if 0≤(k:Int)∧(k:Int)≤24 then toldTs (planQ m acts (k:Int).toNat) else none)=_
  rw [if_pos (by omega),Int.toNat_natCast]
  exact told_all fun q hq=>by have:=small_sz h.s (fun _ n=>acts.getD n false) hk hq;omega
 rw [e] at c1
 replace c1:Fn Tryz.prog 9 [mdI r a b c d,lBo acts,I k] [] (.tup [.ls 0 0 ((planQ m acts k).map ratT).length 1,B true]) [(0,.row true 1 (cT ((planQ m acts k).map ratT)))]:=c1
 have c2:=c1.freezeT (by rw [cT_len];omega) rfl
 rwa [List.drop_zero,List.take_of_length_le (by rw [cT_len];exact Nat.le_refl _)] at c2
theorem law_plans (code more:List Nat) (hc:code.length < 2 ^ 47) (hm:more.length < 2 ^ 47) (hbc:∀x,x∈code→x < 256) (hbm:∀x,x∈more→x < 256):Fn Tryz.prog 3 [lB code,lB more] [] (B true) []:=by
 refine Fn.intro (ks:=[0,1,4,5,6,7,8,9,10,11,12,13,14,15,16,17,18,21,67,69,70,71,93]) hty rfl rfl rfl rfl rfl ?_;conv=>whnf
 refine VCall.of_data (fn_b10Long code more) (nd _) ?_;conv=>whnf
 by_cases hL:code.length≤1048576∧more.length≤1048576
 case neg =>
  rw [show (decide (1048576 < code.length) || decide (1048576 < more.length))=true by simp;omega];conv=>whnf
  exact ⟨rfl,trivial,rfl⟩
 rw [show (decide (1048576 < code.length) || decide (1048576 < more.length))=false by simp;omega];obtain ⟨r,a,b,c,d,m,hs,cm⟩:=ex_Model code (by omega) hbc;obtain ⟨hok,hr⟩:=modQ_ok hs.q;subst hr;have r2:=hok.r2;obtain ⟨acts,hal,ca⟩:=ex_Acts more (by omega) hbm m.room (by omega) a b c d;obtain ⟨v,hv,cv⟩:=ex_b10At more 0 5 (by decide) (by decide) (by decide) hbm;have c1:=val_small hs v (by omega);have c2:=plan_small hs acts hal v (by omega);have c3:=fn_ValidModel1 _ a b c d hs.i hs.q;have c4:=fn_BestActs1 _ a b c d hs.i hs.q;have c5:=plan_small hs (betQ m (zeroQ m)) (by simp [betQ]) 1 (by decide);rw [plan_one] at c5;have c6:=val_small hs 1 (by decide);have hl6:((bestQ m 1).map ratT).length=m.room+1:=by rw [List.length_map];exact runQ_len m (letQ m) 1
 have c7:=fn_b10Same ((bestQ m 1).map ratT) (by omega);have hl1:((bestQ m v).map ratT).length=m.room+1:=by rw [List.length_map];exact runQ_len m (letQ m) v
 have hl2:((planQ m acts v).map ratT).length=m.room+1:=by rw [List.length_map];exact runQ_len m (fun _ n=>acts.getD n false) v
 have hat:∀n,n < m.room+1→Fn Tryz.prog 11 [Str (((planQ m acts v).map ratT).getD n []),Str (((bestQ m v).map ratT).getD n [])] [] (B true) []:=fun n hn=>by
  have l1:n < (planQ m acts v).length:=by rw [List.length_map] at hl2;omega
  have l2:n < (bestQ m v).length:=by rw [List.length_map] at hl1;omega
  have f1:=fits_smallQ (q:=(planQ m acts v).getD n 0) (by show sz (vAt (planQ m acts v) n)≤190;have:=small_sz hs.s (fun _ n=>acts.getD n false) (k:=v) (by omega) (vAt_mem (v:=planQ m acts v) (n:=n) l1);omega);have f2:=fits_smallQ (q:=(bestQ m v).getD n 0) (by show sz (vAt (bestQ m v) n)≤190;have:=small_sz hs.s (letQ m) (k:=v) (by omega) (vAt_mem (v:=bestQ m v) (n:=n) l2);omega);rw [rats_at l1,rats_at l2];exact fn_atMost _ _ (by have:=fits_len f1;omega) (by have:=fits_len f2;omega) (rdRat_ratT f1) (rdRat_ratT f2) (plan_le hok (fun _ n=>acts.getD n false) v n (by omega))
 have hz0:v=0→∀n,n < m.room+1→((bestQ m v).map ratT).getD n []=[48]:=fun e n hn=>by
  subst e;rw [rats_at (by show n < (zeroQ m).length;simp [zeroQ];omega),←ratT_zero]
  congr 1
  show (List.replicate (m.room+1) (0:Rat)).getD n 0=0;rw [gD,List.getElem?_replicate];split <;> rfl
 generalize (bestQ m v).map ratT=ts at c1 hl1 hat hz0;generalize (planQ m acts v).map ratT=ps at c2 hl2 hat;generalize (bestQ m 1).map ratT=us at c5 c6 c7 hl6;generalize betQ m (zeroQ m)=bs at c4 c5;have z1:((cT ts).length:Int)=((m.room+1:Nat):Int):=by rw [cT_len,hl1]
 have z2:((cT ps).length:Int)=((m.room+1:Nat):Int):=by rw [cT_len,hl2]
 conv=>whnf
 refine VCall.of_data cm (ndA fun k=>rfl) ?_;conv=>whnf
 refine VCall.of_data ca (nd _) ?_;conv=>whnf
 refine VCall.of_data cv (nd _) ?_;conv=>whnf
 refine VCall.of_data c1 (ndT fun _=>rfl) ?_;conv=>whnf
 refine VCall.of_data c2 (ndT fun _=>rfl) ?_;conv=>whnf
 refine VCall.of_data c3 (nd _) ?_;conv=>whnf
 refine Wr.i64 (y:=((m.room+1:Nat):Int)) rfl (by omega) (by omega) ?_;conv=>whnf
 rw [z1,decide_eq_true (rfl:((m.room+1:Nat):Int)=((m.room+1:Nat):Int))];conv=>whnf
 rw [z2,z1,decide_eq_true (rfl:((m.room+1:Nat):Int)=((m.room+1:Nat):Int))];conv=>whnf
 rw [z1];refine VLoop.inv hty (S:=Nat) (fun k=>[(70,I k),(69,I (m.room+1:Nat)),(10,lT ps),(8,lT ts),(7,I v),(5,.lp 5 0)]) (fun _=>[(5,.box true [I m.room,Str a,Str b,Str c,Str d])]) (fun k=>k≤m.room+1) (fun k=>m.room+1 - k) 0 (Nat.zero_le _)
  ⟨rfl,rfl,rfl,rfl,rfl,rfl,trivial⟩ ⟨rfl,trivial⟩ ?_
 intro k hk;conv=>whnf
 refine Br.mk (fun h2=>?_) (fun h2=>?_)
 ·have h2:k < m.room+1:=by simp only [decide_eq_true_eq] at h2;omega
  have hk2:=hat k h2;have hk3:=fun e=>hz0 e k h2;obtain ⟨x,ex⟩:∃x,ps.getD k []=x:=⟨_,rfl⟩;obtain ⟨y,ey⟩:∃y,ts.getD k []=y:=⟨_,rfl⟩;rw [ex,ey] at hk2;rw [ey] at hk3;conv=>whnf
  refine VDraw.go hmo hty 21 [] rfl ?_;conv=>whnf
  refine ⟨⟨⟨by omega,by rw [cT_len];omega⟩,cT_sz _⟩,?_⟩;conv=>whnf
  refine ⟨_,cT_as (by omega) ex,?_⟩;conv=>whnf
  refine ⟨⟨⟨by omega,by rw [cT_len];omega⟩,cT_sz _⟩,?_⟩;conv=>whnf
  refine ⟨_,cT_as (by omega) ey,?_⟩;conv=>whnf
  refine QCall.of_data hk2 (nd _) ?_;conv=>whnf
  by_cases e0:v=0
  ·rw [decide_eq_true (show (v:Int)=0 by omega)];rw [hk3 e0] at ey;conv=>whnf
   refine ⟨⟨⟨by omega,by rw [cT_len];omega⟩,cT_sz _⟩,?_⟩;conv=>whnf
   refine ⟨_,cT_as (by omega) ey,?_⟩;conv=>whnf
   rw [show ((⟨#[48]⟩:ByteArray).toList == (⟨#[48]⟩:ByteArray).toList)=true by simp];conv=>whnf
   refine Wr.i64 (y:=((k+1:Nat):Int)) rfl (by omega) (by omega) ?_;conv=>whnf
   exact ⟨k+1,h2,by show m.room+1 - (k+1) < m.room+1 - k;omega,⟨rfl,rfl,rfl,rfl,rfl,rfl,trivial⟩,rfl,trivial⟩
  ·rw [decide_eq_false (show ¬(v:Int)=0 by omega)];conv=>whnf
   refine Wr.i64 (y:=((k+1:Nat):Int)) rfl (by omega) (by omega) ?_;conv=>whnf
   exact ⟨k+1,h2,by show m.room+1 - (k+1) < m.room+1 - k;omega,⟨rfl,rfl,rfl,rfl,rfl,rfl,trivial⟩,rfl,trivial⟩
 ·have h2:k=m.room+1:=by simp only [decide_eq_false_iff_not] at h2;omega
  conv=>whnf
  refine VCall.of_data c4 (ndT fun _=>rfl) ?_;conv=>whnf
  refine VCall.of_data c5 (ndT fun _=>rfl) ?_;conv=>whnf
  refine VCall.of_data c6 (ndT fun _=>rfl) ?_;conv=>whnf
  refine VCall.of_data c7 (nd _) ?_;conv=>whnf
  exact ⟨rfl,trivial,rfl⟩
end Go.V
