/- Part 5: the abstract machine, its soundness, contracts of functions. -/
import Derived.Test.YtkfbophilecjgaaGreatDoorK4
import Derived.Lib.ParseIntB
import Derived.Lib.Bytealg
set_option linter.unusedVariables false
set_option linter.unusedSimpArgs false
namespace Go.V
open Go.Proofs
set_option maxRecDepth 10000
set_option maxHeartbeats 4000000
theorem cW_as {k:IntKind} {l:List Nat} {i x:Nat} (h:i < l.length) (e:l.getD i 0=x):(cW k l)[i]? = some [.s (.int k (x:Nat))]:=by
 rw [cW_at h,e]
def ShrI (B:Nat) (D:List Nat) (X s:Nat) (w:List Nat):Prop:=w.length≤D.length∧(∀x,x∈w→x < B)∧X / s=vl B w+B ^ w.length*(vl B (D.drop w.length) / s)
theorem ShrI.step {B:Nat} {D w:List Nat} {X s c:Nat} (hc:B=s*c) (hs:0 < s) (hB:0 < B) (hD:∀x,x∈D→x < B) (h:ShrI B D X s w) (hi:w.length < D.length) :
  ShrI B D X s (w++[(D.getD (w.length+1) 0*B+D.getD w.length 0) / s % B]):=by
 obtain ⟨h1,h2,h3⟩:=h;have hx:D.getD w.length 0=D[w.length]:=by rw [gD,List.getElem?_eq_getElem hi];rfl
 have hxB:=getD_lt hD hB w.length;have h4:=vl_drop (B:=B) hi;rw [←hx] at h4;have h5:vl B (D.drop (w.length+1)) % B=D.getD (w.length+1) 0 % B:=by
  by_cases hn:w.length+1 < D.length
  ·rw [vl_drop hn,Nat.add_mul_mod_self_left,gD,List.getElem?_eq_getElem hn];rfl
  ·rw [List.drop_of_length_le (by omega),gD,List.getElem?_eq_none (by omega)];rfl
 obtain ⟨e1,e2⟩:=shift_step (w:=vl B (D.drop (w.length+1))) hc hs hxB;have e3:=shift_same (r:=D.getD w.length 0) hc hs hxB h5;rw [Nat.mul_comm B (D.getD (w.length+1) 0),Nat.add_comm (D.getD w.length 0) (D.getD (w.length+1) 0*B)] at e3;refine ⟨by simp only [List.length_append,List.length_singleton];omega,fun x hx=>?_,?_⟩
 ·rcases List.mem_append.1 hx with hx | hx
  ·exact h2 x hx
  ·rw [List.mem_singleton] at hx;rw [hx];exact Nat.mod_lt _ hB
 ·rw [vl_snoc,List.length_append,List.length_singleton,Nat.pow_succ,h3,h4,e2,e3,Nat.mul_add];have:B ^ w.length*(B*(vl B (D.drop (w.length+1)) / s))=B ^ w.length*B*(vl B (D.drop (w.length+1)) / s):=(Nat.mul_assoc ..).symm;omega
theorem ShrI.done {B:Nat} {D w:List Nat} {X s:Nat} (h:ShrI B D X s w) (hl:w.length=D.length):vl B w=X / s:=by
 have:=h.2.2
 rw [hl,List.drop_length] at this
 simp [vl] at this;exact this.symm
theorem win0_getD {R w:List Nat} {j:Nat} (h:w.length≤j):(win R 0 w).getD j 0=R.getD j 0:=by
 simp only [win,List.take_zero,List.nil_append,Nat.zero_add,gD]
 rw [List.getElem?_append_right h,List.getElem?_drop,show w.length+(j - w.length)=j by omega]
theorem take_getD {R:List Nat} {r j:Nat} (h:j < r):(R.take r).getD j 0=R.getD j 0:=by
 simp only [gD,List.getElem?_take,if_pos h]
theorem fn_divC (a b:Nat) (ha:bl a≤100000000000) (hb:2≤(dg B32 b).length) (hle:b≤a):Fn Tryz.prog 86 [nI a,nI b] [] (.tup [nI (a / b),nI (a % b)]) []:=by
 have hbb:=bl_mono hle;have c1:=fn_cmp a b (by omega) (by omega);have hz:0≤cmpZ a b:=by
  rcases Nat.lt_or_ge b a with h | h
  ·rw [cmpZ_gt h];decide
  ·have:a=b:=by omega
   rw [this,cmpZ_eq];decide
 obtain ⟨t,ht,hb1,hb2,htB,hup⟩:=up_of hb;have hlb:=dg_len b32 b;have hla:=dg_len b32 a;have hk31':32 - bl t≤31:=by omega
 obtain ⟨k,hk⟩:∃k,32 - bl t=k:=⟨_,rfl⟩;have c2:=fn_LeadingZeros32 t htB;rw [show (32 - (bl t:Int))=(k:Int) by omega] at c2;rw [hk] at hup;have hk31:k≤31:=by omega
 have c3:=fn_shifted a k (by omega) hk31;have c4:=fn_shifted b k (by omega) hk31;have hk0:0 < 2 ^ k:=Nat.pow_pos (by decide);have hk1:2 ^ k≤B32:=Nat.le_trans (Nat.pow_le_pow_right (by decide) (by omega:k≤32)) (by decide);have hpb:b*2 ^ k < B32 ^ ((dg B32 b).length+1):=by
  have h1:=lt_of_len b32 b;rw [Nat.pow_succ];exact Nat.lt_of_lt_of_le ((Nat.mul_lt_mul_right hk0).2 h1) (Nat.mul_le_mul_left _ hk1)
 have hpa:a*2 ^ k < B32 ^ ((dg B32 a).length+1):=by
  have h1:=lt_of_len b32 a;rw [Nat.pow_succ];exact Nat.lt_of_lt_of_le ((Nat.mul_lt_mul_right hk0).2 h1) (Nat.mul_le_mul_left _ hk1)
 have lenb:=pad_len b32 hpb;have lena:=pad_len b32 hpa;have c5:=fn_trim (pad B32 ((dg B32 b).length+1) (b*2 ^ k)) (pad_lt b32 _ _) (by omega);rw [vl_pad b32] at c5;obtain ⟨u,hu⟩:∃u,u=dg B32 (b*2 ^ k):=⟨_,rfl⟩;rw [←hu] at hup;have c5:Fn Tryz.prog 79 [.d (.sl (cW .u32 (pad B32 ((dg B32 b).length+1) (b*2 ^ k))))] [] (.d (.sl (cW .u32 u))) []:=by rw [hu];exact c5
 have hlab:(dg B32 b).length≤(dg B32 a).length:=dg_len_le b32 (Nat.lt_of_le_of_lt hle (lt_of_len b32 a));have hB:=cW_len .u32 (dg B32 b);have hU:=hup.len;have hUc:=cW_len .u32 u;have hlB:(dg B32 b).length=(dg B32 b).length - 2+2:=by omega
 refine Fn.intro (ks:=[0,1,4,5,6,7,8,9,10,11,12,13,14,15,16,17,18,19,20,24,28,79,121,128,136,147,148,149,155]) hty rfl rfl rfl rfl rfl ?_;conv=>whnf
 refine VCall.of_data c1 (nd _) ?_;conv=>whnf
 refine Br.mk (fun h=>?_) (fun h=>?_)
 ·simp only [decide_eq_true_eq] at h;omega
 ·conv=>whnf
  refine Br.mk (fun h2=>?_) (fun h2=>?_)
  ·simp only [decide_eq_true_eq] at h2;omega
  ·conv=>whnf
   refine Wr.i64 (y:=(((dg B32 b).length - 1:Nat):Int)) (by omega) (by omega) (by omega) ?_;conv=>whnf
   refine ⟨⟨⟨by omega,by omega⟩,cW_sz _ _⟩,?_⟩;conv=>whnf
   refine ⟨[.s (.int .u32 (t:Nat))],(by
    show (cW .u32 (dg B32 b))[(dg B32 b).length - 1]? = _;rw [cW,List.getElem?_map,ht];rfl),?_⟩
   conv=>whnf
   refine VCall.of_data c2 (nd _) ?_;conv=>whnf
   refine VCall.of_ls (k:=50) c3 rfl ?_;conv=>whnf
   refine VCall.of_ls (k:=53) c4 rfl ?_;conv=>whnf
   refine VCall.frz 53 c5 rfl ⟨⟨rfl,rfl,?_,?_⟩,trivial⟩ (nd _) ?_
   ·rw [cW_len,lenb];omega
   ·rw [List.drop_zero,List.take_of_length_le (by rw [cW_len,lenb];omega)]
   obtain ⟨n,hn⟩:∃n,(dg B32 b).length - 2=n:=⟨_,rfl⟩;rw [hn] at hup hlB;have hU:=hup.len;obtain ⟨V,eV⟩:∃y,vl B32 u=y:=⟨_,rfl⟩;obtain ⟨top,etop⟩:∃y,u.getD (n+1) 0=y:=⟨_,rfl⟩;obtain ⟨next,enext⟩:∃y,u.getD n 0=y:=⟨_,rfl⟩;have hV0:V=b*2 ^ k:=eV.symm.trans hup.eq;have hVB:V < B32 ^ (n+2):=by have:=vl_lt hup.lt;rwa [hU,eV] at this
   have htopB:top < 4294967296:=by rw [←etop];exact getD_lt (B:=B32) hup.lt (by decide) _
   have hnextB:next < 4294967296:=by rw [←enext];exact getD_lt (B:=B32) hup.lt (by decide) _
   have hinit:=DivI.init b32 hk0 hup hlB hpa (by omega);rw [eV] at hinit;obtain ⟨A,eA⟩:∃y,a*2 ^ k=y:=⟨_,rfl⟩;rw [eA] at hinit hpa;obtain ⟨R0,eR0⟩:∃y,pad B32 ((dg B32 a).length+1) (a*2 ^ k)=y:=⟨_,rfl⟩;rw [eA] at eR0;rw [eR0] at hinit;have hdig:=fun {s}=>DivI.dig b32 (A:=A) (N:=(dg B32 a).length+1) (s:=s) hup;rw [eV,etop,enext] at hdig;obtain ⟨la,hla'⟩:∃y,(dg B32 a).length=y:=⟨_,rfl⟩;rw [eA,eR0];rw [hla'] at hinit hla hlab lena;rw [hla'] at hdig;rw [hla'];conv=>whnf
   refine Wr.i64 (y:=((n+1:Nat):Int)) (by omega) (by omega) (by omega) ?_;conv=>whnf
   refine ⟨⟨⟨by omega,by omega⟩,cW_sz _ _⟩,?_⟩;conv=>whnf
   refine ⟨_,cW_as (i:=n+1) (by omega) etop,?_⟩;conv=>whnf
   refine Wr.n64 rfl (by omega) ?_;conv=>whnf
   refine Wr.i64 (y:=((n:Nat):Int)) (by omega) (by omega) (by omega) ?_;conv=>whnf
   refine ⟨⟨⟨by omega,by omega⟩,cW_sz _ _⟩,?_⟩;conv=>whnf
   refine ⟨_,cW_as (i:=n) (by omega) enext,?_⟩;conv=>whnf
   refine Wr.n64 rfl (by omega) ?_;conv=>whnf
   obtain ⟨m,hm⟩:∃y,la - (n+1)=y:=⟨_,rfl⟩;rw [hm] at hinit;refine Wr.i64 (y:=(m:Int)) (by omega) (by omega) (by omega) ?_;conv=>whnf
   refine ⟨⟨by omega,by omega,by show (m:Int)*((4:Nat):Int)≤_;omega,by omega⟩,?_⟩;conv=>whnf
   refine Wr.i64 (y:=(m:Int) - 1) (by show (((m:Int).toNat:Nat):Int) - 1=_;omega) (by omega) (by omega) ?_;conv=>whnf
   refine VLoop.inv hty (S:=Nat×List Nat×List Nat) (fun s=>[(14,I ((s.1:Int) - 1)),(13,.ls 74 0 m 1),(12,N64 next),(11,N64 top),(10,.d (.sl (cW .u32 u))),(9,.ls 50 0 (la+1) 1),(8,I (k:Int))])
    (fun s=>[(74,.row true 1 (cW .u32 (List.replicate s.1 0++s.2.2))),(50,.row true 1 (cW .u32 s.2.1))]) (DivI B32 A V (la+1) (n+2)) (fun s=>s.1)
    (m,R0,[]) hinit
    ⟨rfl,rfl,rfl,rfl,rfl,rfl,rfl,trivial⟩ ⟨by show Ob.row true 1 (List.replicate ((m:Int).toNat) [.s (.int .u32 0)])=_;rw [show ((m:Int).toNat)=m from rfl,cW_rep,List.append_nil],rfl,trivial⟩ ?_
   intro s hI;conv=>whnf
   refine Br.mk (fun h3=>?_) (fun h3=>?_)
   ·have hs0:0 < s.1:=by simp only [decide_eq_true_eq] at h3;omega
    have hD:=hdig hI hs0;obtain ⟨g1,g2,g3,g4,g5,g6⟩:=id hI;obtain ⟨j,hj⟩:∃j,s.1=j+1:=⟨s.1 - 1,by omega⟩;rw [hj,Nat.add_sub_cancel] at hD;have ej:(s.1:Int) - 1=(j:Nat):=by omega
    obtain ⟨R,eR⟩:∃R,s.2.1=R:=⟨_,rfl⟩;obtain ⟨Q,eQ⟩:∃Q,s.2.2=Q:=⟨_,rfl⟩;have hI':DivI B32 A V (la+1) (n+2) (j+1,R,Q):=by rw [←hj,←eR,←eQ];exact hI
    rw [eR] at hD g1 g2;obtain ⟨r2,er2⟩:∃y,R.getD (j+(n+2)) 0=y:=⟨_,rfl⟩;obtain ⟨r1,er1⟩:∃y,R.getD (j+(n+1)) 0=y:=⟨_,rfl⟩;obtain ⟨r0,er0⟩:∃y,R.getD (j+n) 0=y:=⟨_,rfl⟩;obtain ⟨x2,ex2⟩:∃y,r2*4294967296=y:=⟨_,rfl⟩;obtain ⟨head,ehead⟩:∃y,x2+r1=y:=⟨_,rfl⟩;obtain ⟨U,eU⟩:∃y,vl B32 ((R.drop j).take (n+3))=y:=⟨_,rfl⟩;rw [er2,er1,er0,eU,show r2*B32=x2 from ex2,ehead] at hD;have q1:r2 < 4294967296:=by rw [←er2];exact getD_lt (B:=B32) g2 (by decide) _
    have q2:r1 < 4294967296:=by rw [←er1];exact getD_lt (B:=B32) g2 (by decide) _
    have q3:r0 < 4294967296:=by rw [←er0];exact getD_lt (B:=B32) g2 (by decide) _
    have hheadB:head < 18446744073709551616:=by omega
    rw [ej,eR,eQ,hj];conv=>whnf
    refine Wr.i64 (y:=((j+(n+2):Nat):Int)) (by omega) (by omega) (by omega) ?_;conv=>whnf
    refine VDraw.go hmo hty 14 [] rfl ?_;conv=>whnf
    refine ⟨by omega,?_⟩;conv=>whnf
    refine ⟨_,cW_as (i:=j+(n+2)) (by omega) er2,?_⟩;conv=>whnf
    refine Wr.n64 rfl (by omega) ?_;conv=>whnf
    refine ⟨by decide,?_⟩;conv=>whnf
    refine Wr.n64 (n:=x2) (by rw [←ex2];exact shl32 _) (by omega) ?_;conv=>whnf
    refine Wr.i64 (y:=((j+(n+1):Nat):Int)) (by omega) (by omega) (by omega) ?_;conv=>whnf
    refine ⟨by omega,?_⟩;conv=>whnf
    refine ⟨_,cW_as (i:=j+(n+1)) (by omega) er1,?_⟩;conv=>whnf
    refine Wr.n64 rfl (by omega) ?_;conv=>whnf
    refine Wr.n64 (n:=head) (by rw [←ehead];exact (Int.natCast_add _ _).symm) hheadB ?_;conv=>whnf
    refine VDraw.go hmo hty 8 [] rfl ?_;conv=>whnf
    have htop:=hD.ht;obtain ⟨g0,eg0⟩:∃y,head / top=y:=⟨_,rfl⟩;obtain ⟨l0,el0⟩:∃y,head % top=y:=⟨_,rfl⟩;have hGI0:=hD.init;rw [eg0,el0] at hGI0;have hg0:g0≤head:=by rw [←eg0];exact Nat.div_le_self _ _
    have hl0:l0 < top:=by rw [←el0];exact Nat.mod_lt _ htop
    refine ⟨by omega,?_⟩;conv=>whnf
    refine Wr.n64 (n:=g0) (by rw [←eg0];exact (Int.ofNat_tdiv _ _).symm) (by omega) ?_;conv=>whnf
    refine ⟨by omega,?_⟩;conv=>whnf
    refine VLoop.invX hty (S:=Nat×Nat) (E:=Nat) [] [] 2 (fun q=>[(18,N64 q.2),(17,N64 q.1),(15,I ((j+(n+2):Nat):Int)),(14,I (j:Nat)),(13,.ls 74 0 m 1),(12,N64 next),(11,N64 top),(10,.d (.sl (cW .u32 u))),(9,.ls 50 0 (la+1) 1),(8,I (k:Int))])
     (fun _=>[(74,.row true 1 (cW .u32 (List.replicate (j+1) 0++Q))),(50,.row true 1 (cW .u32 R))])
     (fun q=>GI top head U V q∧q.2 < 4294967296) (fun q=>q.1)
     (fun g=>[(17,N64 g),(15,I ((j+(n+2):Nat):Int)),(14,I (j:Nat)),(13,.ls 74 0 m 1),(12,N64 next),(11,N64 top),(10,.d (.sl (cW .u32 u))),(9,.ls 50 0 (la+1) 1),(8,I (k:Int))])
     (fun _=>[(74,.row true 1 (cW .u32 (List.replicate (j+1) 0++Q))),(50,.row true 1 (cW .u32 R))]) (fun g=>Fine B32 U V g)
     (g0,l0) ⟨hGI0,by show l0 < _;omega⟩
     ⟨by show AV.d (.s (.int .u64 (Int.tmod head top)))=_;rw [←Int.ofNat_tmod,el0],rfl,rfl,rfl,rfl,rfl,rfl,rfl,rfl,rfl,trivial⟩ ⟨rfl,rfl,trivial⟩ ?_ ?_
    ·rintro q ⟨hG,hleft⟩;obtain ⟨g,eg⟩:∃y,q.1=y:=⟨_,rfl⟩;obtain ⟨lf,elf⟩:∃y,q.2=y:=⟨_,rfl⟩;rw [eg,elf];rw [elf] at hleft;have hG:GI top head U V (g,lf):=by rw [←eg,←elf];exact hG
     have hq1:g≤head:=by
      have h1:g*top+lf=head:=hG.1;have h2:g*1≤g*top:=Nat.mul_le_mul_left _ htop;omega
     obtain ⟨gn,egn⟩:∃y,g*next=y:=⟨_,rfl⟩;obtain ⟨lx,elx⟩:∃y,lf*4294967296=y:=⟨_,rfl⟩;obtain ⟨ly,ely⟩:∃y,lx+r0=y:=⟨_,rfl⟩;have hlx:lf*B32+r0=ly:=by rw [←ely,←elx]
     conv=>whnf
     refine Br.mk (fun h4=>?_) (fun h4=>?_)
     case' refine_1 =>
      have hc:B32≤g∨lf*B32+r0 < g*next:=.inl (by simp only [decide_eq_true_eq] at h4;show 4294967296≤g;omega)
     case' refine_2 =>
      have hgB:g < 4294967296:=by simp only [decide_eq_false_iff_not] at h4;omega
      have hpr:gn < 18446744073709551616:=by
       have:=Nat.mul_le_mul (by omega:g≤4294967295) (by omega:next≤4294967295);omega
      conv=>whnf
      refine Wr.n64 (n:=gn) (by rw [←egn];exact (Int.natCast_mul _ _).symm) hpr ?_;conv=>whnf
      refine ⟨by decide,?_⟩;conv=>whnf
      refine Wr.n64 (n:=lx) (by rw [←elx];exact shl32 _) (by omega) ?_;conv=>whnf
      refine Wr.i64 (y:=((j+n:Nat):Int)) (by omega) (by omega) (by omega) ?_;conv=>whnf
      refine ⟨by omega,?_⟩;conv=>whnf
      refine ⟨_,cW_as (i:=j+n) (by omega) er0,?_⟩;conv=>whnf
      refine Wr.n64 rfl (by omega) ?_;conv=>whnf
      refine Wr.n64 (n:=ly) (by rw [←ely];exact (Int.natCast_add _ _).symm) (by omega) ?_;conv=>whnf
      refine Br.mk (fun h5=>?_) (fun h5=>?_)
      case' refine_1 =>
       have hc:B32≤g∨lf*B32+r0 < g*next:=.inr (by simp only [decide_eq_true_eq] at h5;rw [hlx,egn];omega)
      case refine_2 =>
       have hF:=hD.stop hG hgB (by simp only [decide_eq_false_iff_not] at h5;show g*next≤lf*B32+r0;rw [hlx,egn];omega);conv=>whnf
       exact ⟨rfl,g,hF,⟨rfl,rfl,rfl,rfl,rfl,rfl,rfl,rfl,rfl,trivial⟩,rfl,rfl,trivial⟩
     all_goals
      obtain ⟨hg1,hG2⟩:=hD.step hG hc;obtain ⟨g',eg'⟩:∃y,g - 1=y:=⟨_,rfl⟩;obtain ⟨lf',elf'⟩:∃y,lf+top=y:=⟨_,rfl⟩;have hG2:GI top head U V (g',lf'):=by rw [←eg',←elf'];exact hG2
      conv=>whnf
      refine Wr.n64 (n:=g') (by omega) (by omega) ?_;conv=>whnf
      refine Wr.n64 (n:=lf') (by omega) (by omega) ?_;conv=>whnf
      refine Br.mk (fun h6=>?_) (fun h6=>?_)
      ·have hF:=hD.brk hG2 (by simp only [decide_eq_true_eq] at h6;show 4294967296≤lf';omega);conv=>whnf
       exact ⟨rfl,g',hF,⟨rfl,rfl,rfl,rfl,rfl,rfl,rfl,rfl,rfl,trivial⟩,rfl,rfl,trivial⟩
      ·conv=>whnf
       exact ⟨(g',lf'),⟨hG2,by simp only [decide_eq_false_iff_not] at h6;show lf' < 4294967296;omega⟩,by show g' < g;omega,⟨rfl,rfl,rfl,rfl,rfl,rfl,rfl,rfl,rfl,rfl,trivial⟩,⟨rfl,rfl,trivial⟩⟩
    ·rintro g ⟨f1,f2,f3⟩;conv=>whnf
     refine Wr.i64 (y:=((j+(n+3):Nat):Int)) (by omega) (by omega) (by omega) ?_;conv=>whnf
     refine ⟨⟨by omega,by omega,by rw [cW_len];omega⟩,?_⟩;have c6:=fn_takeAwayL R u j (n+3) g g2 hup.lt (by omega) (by omega) (by omega) (Nat.le_of_lt f1) (by rw [eU,eV];exact f3);rw [eU,eV] at c6;obtain ⟨gd1,gd2⟩:=guess_div f2 f3;have hst:=DivI.step b32 hI' hVB;rw [eU] at hst;obtain ⟨gV,egV⟩:∃y,g*V=y:=⟨_,rfl⟩;rw [egV] at c6 gd1 gd2;rw [show (if U < gV then U+V - gV else U - gV)=U % V by
      split
      ·next h=>rw [(gd2 h).2.1]
      ·next h=>rw [(gd1 (by omega)).2]] at c6
     obtain ⟨R1,eR1⟩:∃y,win R j (pad B32 (n+3) (U % V))=y:=⟨_,rfl⟩;obtain ⟨d,ed⟩:∃y,U / V=y:=⟨_,rfl⟩;rw [eR1,ed] at hst;rw [eR1] at c6;rw [ed] at gd1 gd2;have f1:g < 4294967296:=f1;conv=>whnf
     refine VCall.par1 50 c6 ⟨⟨rfl,by omega,by omega,rfl⟩,rfl,rfl,trivial⟩ rfl ?_;conv=>whnf
     refine Br.mk (fun h7=>?_) (fun h7=>?_)
     case' refine_1 =>
      obtain ⟨k1,_,k3⟩:=gd2 (by simpa only [decide_eq_true_eq] using h7);conv=>whnf
      refine Wr.n64 (n:=d) (by omega) (by omega) ?_;conv=>whnf
     case' refine_2 =>
      have k1:=(gd1 (by simp only [decide_eq_false_iff_not] at h7;omega)).1;have k1:g=d:=k1.symm;rw [k1];conv=>whnf
     all_goals
      refine Wr.n32 (n:=d) rfl (by omega) ?_;conv=>whnf
      have g3':=hI'.2.2.1;simp only at g3';refine ⟨by omega,?_⟩;conv=>whnf
      refine ⟨_,cW_at (i:=j) (by rw [List.length_append,List.length_replicate];omega),?_⟩;conv=>whnf
      refine Wr.i64 (y:=(j:Int) - 1) rfl (by omega) (by omega) ?_;conv=>whnf
      refine ⟨(j,R1,d :: Q),hst,by show j < j+1;omega,⟨rfl,rfl,rfl,rfl,rfl,rfl,rfl,trivial⟩,?_,rfl,trivial⟩;show Ob.row true 1 ((cW .u32 _).set j [.s (.int .u32 (d:Int))])=_;have:=row_down (i:=j+1) (d:=d) (q:=Q) (by omega);rw [Nat.add_sub_cancel] at this;rw [this]
   ·have hs0:s.1=0:=by simp only [decide_eq_false_iff_not] at h3;omega
    obtain ⟨g1,g2,g3,g4,g5,g6⟩:=hI;rw [hs0,List.drop_zero] at g5;rw [hs0,Nat.pow_zero,Nat.one_mul] at g6;obtain ⟨R,eR⟩:∃R,s.2.1=R:=⟨_,rfl⟩;obtain ⟨Q,eQ⟩:∃Q,s.2.2=Q:=⟨_,rfl⟩;rw [eR] at g1 g2 g5 g6;rw [eQ] at g3 g4 g6;have ct:=fn_trimO R g2 (by omega);rw [eR,eQ,hs0];obtain ⟨X,eX⟩:∃y,vl B32 R=y:=⟨_,rfl⟩;rw [eX] at ct g5 g6;obtain ⟨r,er⟩:∃y,(dg B32 X).length=y:=⟨_,rfl⟩;rw [er,g1] at ct;conv=>whnf
    have hRr:r≤R.length:=by rw [←er];exact dg_len_le b32 (by rw [←eX];exact vl_lt g2)
    have hD:dg B32 X=R.take r:=by rw [←er,←eX];exact dg_take B32 b32 R g2
    have hDl:(R.take r).length=r:=by rw [List.length_take];omega
    have hDB:∀x,x∈R.take r→x < 4294967296:=fun x hx=>g2 x (List.mem_of_mem_take hx);have hXv:vl B32 (R.take r)=X:=by rw [←hD];exact vl_dg b32 X
    have hcB:B32=2 ^ k*2 ^ (32 - k):=by rw [←Nat.pow_add,show k+(32 - k)=32 by omega]
    refine VCall.par1s 50 ct ⟨⟨rfl,rfl,rfl,rfl⟩,trivial⟩ rfl ?_;conv=>whnf
    refine VLoop.invX hty (S:=List Nat) (E:=List Nat) [] [] 4 (fun w=>[(148,I (w.length:Nat)),(147,I (r:Nat)),(13,.ls 74 0 m 1),(9,.ls 50 0 r 1),(8,I (k:Int))])
     (fun w=>[(50,.row true 1 (cW .u32 (win R 0 w))),(74,.row true 1 (cW .u32 (List.replicate 0 0++Q)))]) (ShrI B32 (R.take r) X (2 ^ k)) (fun w=>r - w.length)
     (fun w=>[(13,.ls 74 0 m 1),(9,.ls 50 0 r 1)])
     (fun w=>[(50,.row true 1 (cW .u32 (win R 0 w))),(74,.row true 1 (cW .u32 (List.replicate 0 0++Q)))]) (fun w=>w.length=r∧(∀x,x∈w→x < B32)∧vl B32 w=X / 2 ^ k)
     [] ⟨Nat.zero_le _,by simp,by simp [vl,hXv]⟩ ⟨rfl,rfl,rfl,rfl,rfl,trivial⟩ ⟨by rw [win_nil];rfl,rfl,trivial⟩ ?_ ?_
    ·intro w hI;have hwr:=hI.1;rw [hDl] at hwr;obtain ⟨i,ei⟩:∃i,w.length=i:=⟨_,rfl⟩;have hwl:(win R 0 w).length=R.length:=win_len (by omega);conv=>whnf
     refine Br.mk (fun h7=>?_) (fun h7=>?_)
     ·have hi:i < r:=by simp only [decide_eq_true_eq] at h7;omega
      have hst:=hI.step hcB hk0 (by decide) hDB (by omega);obtain ⟨x,ex⟩:∃x,(R.take r).getD i 0=x:=⟨_,rfl⟩;obtain ⟨y,ey⟩:∃x,(R.take r).getD (i+1) 0=x:=⟨_,rfl⟩;have hx:x < 4294967296:=by rw [←ex];exact getD_lt (B:=B32) hDB (by decide) _
      have hy:y < 4294967296:=by rw [←ey];exact getD_lt (B:=B32) hDB (by decide) _
      obtain ⟨y2,ey2⟩:∃z,y*4294967296=z:=⟨_,rfl⟩;obtain ⟨z,ez⟩:∃z,y2+x=z:=⟨_,rfl⟩;rw [ei,ex,ey,show y*B32=y2 from ey2,ez] at hst;obtain ⟨v,ev⟩:∃v,z / 2 ^ k=v:=⟨_,rfl⟩;rw [ev] at hst;rw [ei];have hb1:-9223372036854775808≤((i+1:Nat):Int):=by omega
      have hb2:((i+1:Nat):Int)≤9223372036854775807:=by omega
      conv=>whnf
      refine Wr.i64 (y:=((i+1:Nat):Int)) (by omega) (by omega) (by omega) ?_;conv=>whnf
      refine Br.mk (fun h8=>?_) (fun h8=>?_)
      case' refine_1 =>
       have h8:i+1 < r:=by simp only [decide_eq_true_eq] at h8;omega
       conv=>whnf
       refine Wr.i64 (y:=((i+1:Nat):Int)) (by omega) (by omega) (by omega) ?_;conv=>whnf
       refine ⟨by omega,?_⟩;conv=>whnf
       refine ⟨_,cW_as (i:=i+1) (x:=y) (by omega) (by rw [win0_getD (by omega),←take_getD h8];exact ey),?_⟩;conv=>whnf
       refine Wr.n64 rfl (by omega) ?_;conv=>whnf
      case' refine_2 =>
       have h8:¬i+1 < r:=by simp only [decide_eq_false_iff_not] at h8;omega
       have y0:y=0:=by rw [←ey,gD,List.getElem?_eq_none (by omega)];rfl
       subst y0;conv=>whnf
      all_goals
       refine ⟨by decide,?_⟩;conv=>whnf
       refine Wr.n64 (n:=y2) (by rw [←ey2];exact shl32 _) (by omega) ?_;conv=>whnf
       refine ⟨by omega,?_⟩;conv=>whnf
       refine ⟨_,cW_as (i:=i) (x:=x) (by omega) (by rw [win0_getD (by omega),←take_getD hi];exact ex),?_⟩;conv=>whnf
       refine Wr.n64 rfl (by omega) ?_;conv=>whnf
       refine Wr.n64 (n:=z) (by rw [←ez];exact (Int.natCast_add _ _).symm) (by omega) ?_;conv=>whnf
       refine ⟨by omega,?_⟩;conv=>whnf
       refine Wr.w32 (n:=v) (by
        rw [show min ((k:Int).toNat) IntKind.u64.bits=k from Nat.min_eq_left (Nat.le_trans hk31 (by decide)),←ev];exact shr_nat _ _) ?_
       conv=>whnf
       refine ⟨by omega,?_⟩;conv=>whnf
       refine ⟨_,cW_at (i:=i) (by omega),?_⟩;conv=>whnf
       refine Wr.i64 (y:=((i+1:Nat):Int)) rfl hb1 hb2 ?_;conv=>whnf
       refine ⟨w++[v % B32],hst,by simp only [List.length_append,List.length_singleton];omega,⟨?_,rfl,rfl,rfl,rfl,trivial⟩,?_,rfl,trivial⟩
       ·show AV.d (.s (.int .i64 ((i+1:Nat):Int)))=I ((w++[_]).length:Nat);rw [List.length_append,List.length_singleton,ei]
       ·show Ob.row true 1 ((cW .u32 _).set i [.s (.int .u32 ((v % B32:Nat):Int))])=_;have:=win_set (R:=R) (lo:=0) (d:=v % B32) (r:=w) (by omega);rw [Nat.zero_add,ei] at this;rw [this]
     ·conv=>whnf
      have hi:w.length=r:=by simp only [decide_eq_false_iff_not] at h7;omega
      exact ⟨rfl,w,⟨hi,hI.2.1,hI.done (by omega)⟩,⟨rfl,rfl,trivial⟩,rfl,rfl,trivial⟩
    ·rintro w ⟨w1,w2,w3⟩;have hwl:(win R 0 w).length=R.length:=win_len (by omega);have hwd:=win_drop (R:=R) (lo:=0) (r:=w) (by omega);rw [w1] at hwd;have ct1:=fn_trim Q g4 (by omega);have ct2:=fn_trim w w2 (by omega);obtain ⟨e1,e2,e3⟩:=div_done (a:=a) (b:=b) (R:=X) hk0 hV0 (g6.trans eA.symm) g5;rw [w3,←e2] at ct2;rw [←e1] at ct1;conv=>whnf
     refine VCall.frz 74 ct1 rfl ⟨⟨rfl,rfl,?_,?_⟩,trivial⟩ (nd _) ?_
     ·rw [List.replicate_zero,List.nil_append,cW_len];omega
     ·rw [List.replicate_zero,List.nil_append,List.drop_zero,List.take_of_length_le (by rw [cW_len];omega)]
     conv=>whnf
     refine VCall.frz 50 ct2 rfl ⟨⟨rfl,rfl,?_,?_⟩,trivial⟩ (nd _) ?_
     ·rw [cW_len];omega
     ·rw [cW_drop,cW_take,hwd]
     conv=>whnf
     exact ⟨rfl,rfl,trivial,rfl⟩
theorem fn_div (a b:Nat) (ha:bl a≤100000000000) (hb:bl b≤100000000000) (h0:b≠0):Fn Tryz.prog 86 [nI a,nI b] [] (.tup [nI (a / b),nI (a % b)]) []:=by
 rcases Nat.lt_or_ge a b with h | h
 ·exact fn_divA a b ha hb h
 ·rcases Nat.lt_or_ge b 4294967296 with h2 | h2
  ·exact fn_divB a b ha (by omega) h2 h
  ·refine fn_divC a b ha ?_ h;apply Nat.le_of_not_lt;intro h3;have h4:=lt_of_len b32 b;have h5:=Nat.pow_le_pow_right (by decide:0 < B32) (by omega:(dg B32 b).length≤1);have h6:B32 ^ 1=4294967296:=by decide
   omega
end Go.V
namespace Go.V
open Go.Proofs
set_option maxRecDepth 10000
theorem lt_of_len2 {n:Nat} (h:(dg B32 n).length≤2):n < 18446744073709551616:=by
 have h1:=lt_of_len b32 n;have h2:=Nat.pow_le_pow_right (by decide:0 < B32) h;have h3:B32 ^ 2=18446744073709551616:=by decide
 omega
theorem fn_gcd (a b:Nat) (ha:bl a≤100000000000) (hb:bl b≤100000000000):Fn Tryz.prog 69 [nI a,nI b] [] (nI (a.gcd b)) []:=by
 refine Fn.intro (ks:=[0,1,4,5,6,7,8,10,13,27,29]) hty rfl rfl rfl rfl rfl ?_;conv=>whnf
 refine VLoop.inv hty (S:=Nat×Nat) (fun s=>[(1,nI s.2),(0,nI s.1)]) (fun _=>[]) (fun s=>s.1.gcd s.2=a.gcd b∧bl s.1≤100000000000∧bl s.2≤100000000000) (fun s=>s.2) (a,b) ⟨rfl,ha,hb⟩ ⟨rfl,rfl,trivial⟩ trivial ?_;rintro s ⟨hg,h1,h2⟩;obtain ⟨x,ex⟩:∃x,s.1=x:=⟨_,rfl⟩;obtain ⟨y,ey⟩:∃x,s.2=x:=⟨_,rfl⟩;rw [ex,ey] at hg;rw [ex] at h1;rw [ey] at h2;rw [ex,ey];conv=>whnf
 refine Br.mk (fun h=>?_) (fun h=>?_)
 ·have hy0:y≠0:=by
   intro e;rw [e,dg_zero] at h;exact absurd h (by decide)
  have cs1:=fn_small x (by omega);have cs2:=fn_small y (by omega);have cd:=fn_div x y h1 h2 hy0;by_cases hx:(dg B32 x).length≤2
  ·rw [decide_eq_true hx,if_pos hx] at cs1;by_cases hy:(dg B32 y).length≤2
   ·rw [decide_eq_true hy,if_pos hy] at cs2;conv=>whnf
    refine VCall.of_data cs1 (ndT (fun k=>rfl)) ?_;conv=>whnf
    refine VCall.of_data cs2 (ndT (fun k=>rfl)) ?_;conv=>whnf
    refine VLoop.invX hty (S:=Nat×Nat) (E:=Nat) [] [] 2 (fun p=>[(7,N64 p.2),(5,N64 p.1)]) (fun _=>[]) (fun p=>p.1.gcd p.2=a.gcd b∧p.1 < 18446744073709551616∧p.2 < 18446744073709551616) (fun p=>p.2)
     (fun g=>[(5,N64 g)]) (fun _=>[]) (fun g=>g=a.gcd b∧g < 18446744073709551616) (x,y) ⟨hg,lt_of_len2 hx,lt_of_len2 hy⟩ ⟨rfl,rfl,trivial⟩ trivial ?_ ?_
    ·rintro p ⟨p1,p2,p3⟩;obtain ⟨v,ev⟩:∃v,p.1=v:=⟨_,rfl⟩;obtain ⟨z,ez⟩:∃v,p.2=v:=⟨_,rfl⟩;rw [ev,ez] at p1;rw [ev] at p2;rw [ez] at p3;rw [ev,ez];conv=>whnf
     refine Br.mk (fun h3=>?_) (fun h3=>?_)
     ·have hz0:0 < z:=by simp only [decide_eq_true_eq] at h3;omega
      conv=>whnf
      refine VDraw.goS hmo hty [0,1,2] rfl ?_;conv=>whnf
      refine ⟨?_,?_⟩
      all_goals
       conv=>whnf
       refine ⟨by omega,?_⟩;conv=>whnf
       refine ⟨(z,v % z),⟨?_,p3,Nat.lt_trans (Nat.mod_lt _ hz0) p3⟩,Nat.mod_lt _ hz0,⟨?_,rfl,trivial⟩,trivial⟩
       ·show z.gcd (v % z)=_;rw [Nat.gcd_comm,←Nat.gcd_rec,Nat.gcd_comm];exact p1
       ·show AV.d (.s (.int .u64 (Int.tmod v z)))=_;rw [←Int.ofNat_tmod]
     ·have hz0:z=0:=by simp only [decide_eq_false_iff_not] at h3;omega
      conv=>whnf
      exact ⟨rfl,v,⟨by rw [←p1,hz0,Nat.gcd_zero_right],p2⟩,⟨rfl,trivial⟩,trivial⟩
    ·rintro g ⟨q1,q2⟩;conv=>whnf
     refine VCall.of_data (fn_natOf g q2) (nd _) ?_;conv=>whnf
     exact ⟨by rw [q1],trivial,rfl⟩
   ·rw [decide_eq_false hy] at cs2;conv=>whnf
    refine VCall.of_data cs1 (ndT (fun k=>rfl)) ?_;conv=>whnf
    refine VCall.of_data cs2 (ndT (fun k=>rfl)) ?_;conv=>whnf
    refine VCall.of_data cd (ndT (fun k=>rfl)) ?_;conv=>whnf
    refine ⟨(y,x % y),⟨?_,h2,Nat.le_trans (bl_mono (Nat.le_of_lt (Nat.mod_lt _ (Nat.pos_of_ne_zero hy0)))) h2⟩,Nat.mod_lt _ (Nat.pos_of_ne_zero hy0),⟨rfl,rfl,trivial⟩,trivial⟩;show y.gcd (x % y)=_;rw [Nat.gcd_comm,←Nat.gcd_rec,Nat.gcd_comm];exact hg
  ·rw [decide_eq_false hx] at cs1;conv=>whnf
   refine VCall.of_data cs1 (ndT (fun k=>rfl)) ?_;conv=>whnf
   refine VCall.of_data cs2 (ndT (fun k=>rfl)) ?_;conv=>whnf
   refine VCall.of_data cd (ndT (fun k=>rfl)) ?_;conv=>whnf
   refine ⟨(y,x % y),⟨?_,h2,Nat.le_trans (bl_mono (Nat.le_of_lt (Nat.mod_lt _ (Nat.pos_of_ne_zero hy0)))) h2⟩,Nat.mod_lt _ (Nat.pos_of_ne_zero hy0),⟨rfl,rfl,trivial⟩,trivial⟩;show y.gcd (x % y)=_;rw [Nat.gcd_comm,←Nat.gcd_rec,Nat.gcd_comm];exact hg
 ·have hy0:y=0:=by
   apply Classical.byContradiction;intro hne;have:=mt (dg_nil_iff b32 (n:=y)).1 hne;have h3:0 < (dg B32 y).length:=List.length_pos_iff.2 this;have:((cW .u32 (dg B32 y)).length:Int)=(dg B32 y).length:=by rw [cW_len]
   simp only [decide_eq_false_iff_not] at h;omega
  conv=>whnf
  exact ⟨by rw [←hg,hy0,Nat.gcd_zero_right],trivial,rfl⟩
end Go.V
namespace Go.V
def sz (q:Rat):Nat:=max (bl (tp q)) (bl q.den)
theorem bl_tp (q:Rat):bl (tp q)≤sz q:=Nat.le_max_left _ _
theorem bl_den (q:Rat):bl q.den≤sz q:=Nat.le_max_right _ _
theorem sz_mkRat {s:Bool} {t b:Nat} (hb:b≠0):sz (mkRat (sgn s t) b)≤max (bl t) (bl b):=by
 obtain ⟨_,h2,h3⟩:=mkRat_parts (s:=s) (t:=t) hb
 unfold sz
 rw [h2,h3]
 have h4:=bl_mono (Nat.div_le_self t (t.gcd b))
 have h5:=bl_mono (Nat.div_le_self b (t.gcd b))
 omega
theorem sz_mul (a b:Rat):sz (a*b)≤sz a+sz b:=by
 rw [mul_parts]
 refine Nat.le_trans (sz_mkRat (Nat.mul_ne_zero a.den_nz b.den_nz)) ?_
 have:=bl_mul (tp a) (tp b)
 have:=bl_mul a.den b.den
 have:=bl_tp a;have:=bl_tp b;have:=bl_den a;have:=bl_den b
 omega
theorem sz_div (a:Rat) {b:Rat} (h:b≠0):sz (a / b)≤sz a+sz b:=by
 rw [div_parts a h]
 refine Nat.le_trans (sz_mkRat (Nat.mul_ne_zero a.den_nz (fun e=>h (tp_zero.1 e)))) ?_
 have:=bl_mul (tp a) b.den
 have:=bl_mul a.den (tp b)
 have:=bl_tp a;have:=bl_tp b;have:=bl_den a;have:=bl_den b
 omega
theorem sz_add (a b:Rat):sz (a+b)≤sz a+sz b+1:=by
 rw [add_parts,sgn_add]
 have hd:a.den*b.den≠0:=Nat.mul_ne_zero a.den_nz b.den_nz
 have h1:=bl_mul (tp a) b.den
 have h2:=bl_mul (tp b) a.den
 have h3:=bl_mul a.den b.den
 have:=bl_tp a;have:=bl_tp b;have:=bl_den a;have:=bl_den b
 have h4:=bl_add (tp a*b.den) (tp b*a.den)
 have h5:=bl_mono (Nat.sub_le (tp a*b.den) (tp b*a.den))
 have h6:=bl_mono (Nat.sub_le (tp b*a.den) (tp a*b.den))
 split
 ·exact Nat.le_trans (sz_mkRat hd) (by omega)
 ·split
  ·exact Nat.le_trans (sz_mkRat hd) (by omega)
  ·exact Nat.le_trans (sz_mkRat hd) (by omega)
theorem sz_neg (a:Rat):sz (-a)=sz a:=by
 obtain ⟨_,h2,h3⟩:=neg_parts a
 unfold sz;rw [h2,h3]
theorem sz_sub (a b:Rat):sz (a - b)≤sz a+sz b+1:=by
 rw [Rat.sub_eq_add_neg]
 have:=sz_add a (-b)
 rwa [sz_neg] at this
theorem bl_one:bl 1=1:=by decide
theorem sz_int (n:Int):sz (n:Rat)≤max (bl n.natAbs) 1:=by
 unfold sz tp
 rw [Rat.num_intCast,Rat.den_intCast,bl_one]
 omega
theorem sz_small {n:Int} {k:Nat} (h:n.natAbs < 2 ^ k) (hk:1≤k):sz (n:Rat)≤k:=by
 have:=sz_int n
 have:=bl_le h
 omega
theorem int_parts (n:Int):ng (n:Rat)=decide (n < 0)∧tp (n:Rat)=n.natAbs∧(n:Rat).den=1:=⟨by unfold ng;rw [Rat.num_intCast],by unfold tp;rw [Rat.num_intCast],Rat.den_intCast n⟩
end Go.V
namespace Go.V
open Go.Proofs
set_option maxRecDepth 10000
abbrev rI (q:Rat):AV:=.ag [B (ng q),nI (tp q),nI q.den]
theorem ndA {cs:List AV} (hf:∀k,AV.ments k cs=false):namesIn [] (.ag cs):=fun k h=>by
 have h':AV.ments k cs=true:=h
 rw [hf k] at h';cases h'
def sgI (q:Rat):Int:=if tp q=0 then 0 else if ng q then -1 else 1
theorem fn_magnitude (n:Int) (h1:-9223372036854775808≤n) (h2:n≤9223372036854775807):Fn Tryz.prog 59 [I n] [] (N64 n.natAbs) []:=by
 refine Fn.intro (ks:=[0,2,4]) hty rfl rfl rfl rfl rfl ?_
 conv=>whnf
 refine Br.mk (fun h=>?_) (fun h=>?_)
 ·simp only [decide_eq_true_eq] at h
  conv=>whnf
  refine Wr.is (y:=n+18446744073709551616) (by rw [wrap_u64];omega) ?_
  conv=>whnf
  refine Wr.is (y:=((n.natAbs:Nat):Int)) (by rw [wrap_u64];omega) ?_
  conv=>whnf
  exact ⟨rfl,trivial,rfl⟩
 ·simp only [decide_eq_false_iff_not] at h
  conv=>whnf
  refine Wr.n64 (n:=n.natAbs) (by omega) (by omega) ?_
  conv=>whnf
  exact ⟨rfl,trivial,rfl⟩
theorem fn_whole (n:Int) (h1:-9223372036854775808≤n) (h2:n≤9223372036854775807):Fn Tryz.prog 40 [I n] [] (rI n) []:=by
 obtain ⟨e1,e2,e3⟩:=int_parts n
 rw [show rI (n:Rat) = .ag [B (decide (n < 0)),nI n.natAbs,nI 1] by rw [rI,e1,e2,e3]]
 refine Fn.intro (ks:=[0,2]) hty rfl rfl rfl rfl rfl ?_
 conv=>whnf
 refine VCall.of_data (fn_magnitude n h1 h2) (nd _) ?_
 conv=>whnf
 refine VCall.of_data (fn_natOf n.natAbs (by omega)) (nd _) ?_
 conv=>whnf
 refine VCall.of_data (fn_natOf 1 (by omega)) (nd _) ?_
 conv=>whnf
 exact ⟨rfl,rfl,rfl,trivial,rfl⟩
theorem fn_sign (q:Rat) (hs:sz q≤1000000000000):Fn Tryz.prog 32 [rI q] [] (I (sgI q)) []:=by
 have hl:((cW .u32 (dg B32 (tp q))).length:Int)=(dg B32 (tp q)).length:=by rw [cW_len]
 have hz:=dg_len_zero b32 (n:=tp q);refine Fn.intro (ks:=[0,1,2,3,8]) hty rfl rfl rfl rfl rfl ?_;conv=>whnf
 refine Br.mk (fun h=>?_) (fun h=>?_)
 ·have h0:tp q=0:=by simp only [decide_eq_true_eq] at h;exact hz.1 (by omega)
  conv=>whnf
  exact ⟨by rw [sgI,if_pos h0],trivial,rfl⟩
 ·have h0:¬tp q=0:=fun e=>by simp only [decide_eq_false_iff_not] at h;have:=hz.2 e;omega
  conv=>whnf
  refine Br.mk (fun h2=>?_) (fun h2=>?_)
  ·conv=>whnf
   exact ⟨by rw [sgI,if_neg h0,if_pos h2],trivial,rfl⟩
  ·conv=>whnf
   exact ⟨by rw [sgI,if_neg h0,if_neg (by rw [h2];decide)],trivial,rfl⟩
theorem mkRat_zero {s:Bool} {b:Nat}:mkRat (sgn s 0) b=0:=by
 have:sgn s 0=0:=by cases s <;> rfl
 rw [this,Rat.zero_mkRat]
theorem fn_lowest (s:Bool) (t b:Nat) (ht:bl t≤100000000000) (hb:bl b≤100000000000) (h0:b≠0):Fn Tryz.prog 65 [B s,nI t,nI b] [] (rI (mkRat (sgn s t) b)) []:=by
 have hl:((cW .u32 (dg B32 t)).length:Int)=(dg B32 t).length:=by rw [cW_len]
 have hz:=dg_len_zero b32 (n:=t);obtain ⟨p1,p2,p3⟩:=mkRat_parts (s:=s) (t:=t) h0;have hg0:t.gcd b≠0:=fun e=>h0 (Nat.gcd_eq_zero_iff.1 e).2;have hgl:bl (t.gcd b)≤100000000000:=Nat.le_trans (bl_mono (Nat.gcd_le_right _ (Nat.pos_of_ne_zero h0))) hb;have cg:=fn_gcd t b ht hb;obtain ⟨g,eg⟩:∃g,t.gcd b=g:=⟨_,rfl⟩;rw [eg] at cg hg0 hgl p2 p3;have hlg:((cW .u32 (dg B32 g)).length:Int)=(dg B32 g).length:=by rw [cW_len]
 refine Fn.intro (ks:=[0,1,2,6,7,10,24]) hty rfl rfl rfl rfl rfl ?_;conv=>whnf
 refine Br.mk (fun h=>?_) (fun h=>?_)
 ·have ht0:t=0:=by simp only [decide_eq_true_eq] at h;exact hz.1 (by omega)
  rw [show rI (mkRat (sgn s t) b) = .ag [B false,nI 0,nI 1] by rw [ht0,mkRat_zero];rfl];conv=>whnf
  refine VCall.of_data (fn_natOf 1 (by omega)) (nd _) ?_;conv=>whnf
  exact ⟨rfl,rfl,trivial,rfl⟩
 ·have ht0:¬t=0:=fun e=>by simp only [decide_eq_false_iff_not] at h;have:=hz.2 e;omega
  rw [show rI (mkRat (sgn s t) b) = .ag [B s,nI (t / g),nI (b / g)] by rw [rI,p1,p2,p3];simp [ht0]];conv=>whnf
  refine VCall.of_data cg (nd _) ?_;conv=>whnf
  refine Br.mk (fun h2=>?_) (fun h2=>?_)
  ·have hg1:(dg B32 g).length=1:=by simp only [decide_eq_true_eq] at h2;omega
   have hgB:g < 4294967296:=by
    have:=lt_of_len b32 g;rw [hg1] at this;simpa using this
   have hd:dg B32 g=[g]:=dg_small b32 hgB hg0;conv=>whnf
   refine ⟨⟨⟨by omega,by omega⟩,cW_sz _ _⟩,?_⟩;conv=>whnf
   refine ⟨[.s (.int .u32 (g:Nat))],by rw [hd];rfl,?_⟩;conv=>whnf
   refine Br.mk (fun h3=>?_) (fun h3=>?_)
   ·have h3:g=1:=by simp only [decide_eq_true_eq] at h3;omega
    rw [h3,Nat.div_one,Nat.div_one];conv=>whnf
    exact ⟨rfl,rfl,rfl,trivial,rfl⟩
   ·conv=>whnf
    refine VCall.of_data (fn_div t g ht hgl hg0) (ndT (fun k=>rfl)) ?_;conv=>whnf
    refine VCall.of_data (fn_div b g hb hgl hg0) (ndT (fun k=>rfl)) ?_;conv=>whnf
    exact ⟨rfl,rfl,rfl,trivial,rfl⟩
  ·conv=>whnf
   refine VCall.of_data (fn_div t g ht hgl hg0) (ndT (fun k=>rfl)) ?_;conv=>whnf
   refine VCall.of_data (fn_div b g hb hgl hg0) (ndT (fun k=>rfl)) ?_;conv=>whnf
   exact ⟨rfl,rfl,rfl,trivial,rfl⟩
end Go.V
namespace Go.V
open Go.Proofs
set_option maxRecDepth 10000
theorem sgI_zero {q:Rat}:sgI q=0↔q=0:=by
 unfold sgI
 rw [←tp_zero]
 split
 ·simp [*]
 ·split <;> simp [*]
theorem cmpZ_nonneg {a b:Nat}:0≤cmpZ a b↔b≤a:=by
 rcases Nat.lt_trichotomy a b with h | h | h
 ·rw [cmpZ_lt h];constructor
  ·intro h2;exact absurd h2 (by decide)
  ·intro h2;omega
 ·subst h;rw [cmpZ_eq];simp
 ·rw [cmpZ_gt h];constructor
  ·intro _;omega
  ·intro _;decide
theorem cmpZ_zero {a b:Nat}:cmpZ a b=0↔a=b:=by
 rcases Nat.lt_trichotomy a b with h | h | h
 ·rw [cmpZ_lt h];constructor
  ·intro h2;exact absurd h2 (by decide)
  ·intro h2;omega
 ·subst h;rw [cmpZ_eq];simp
 ·rw [cmpZ_gt h];constructor
  ·intro h2;exact absurd h2 (by decide)
  ·intro h2;omega
theorem fn_radd (p q:Rat) (hp:sz p+sz q≤99999999999):Fn Tryz.prog 46 [rI p,rI q] [] (rI (p+q)) []:=by
 have b1:=bl_tp p;have b2:=bl_den p;have b3:=bl_tp q;have b4:=bl_den q;refine Fn.intro (ks:=[0,1,2,3,4,5,6,7,10,14,27,43,56]) hty rfl rfl rfl rfl rfl ?_;conv=>whnf
 refine VCall.of_data (fn_sign p (by omega)) (nd _) ?_;conv=>whnf
 refine Br.mk (fun h=>?_) (fun h=>?_)
 ·have h0:p=0:=sgI_zero.1 (by simpa only [decide_eq_true_eq] using h);rw [h0,Rat.zero_add];conv=>whnf
  exact ⟨rfl,rfl,rfl,trivial,rfl⟩
 ·conv=>whnf
  refine VCall.of_data (fn_sign q (by omega)) (nd _) ?_;conv=>whnf
  refine Br.mk (fun h2=>?_) (fun h2=>?_)
  ·have h0:q=0:=sgI_zero.1 (by simpa only [decide_eq_true_eq] using h2);rw [h0,Rat.add_zero];conv=>whnf
   exact ⟨rfl,rfl,rfl,trivial,rfl⟩
  ·conv=>whnf
   refine VDraw.go hmo hty 9 [] rfl ?_;conv=>whnf
   refine VCall.of_data (fn_cmp p.den q.den (by omega) (by omega)) (nd _) ?_;conv=>whnf
   refine Br.mk (fun h4=>?_) (fun h4=>?_)
   ·have k1:=bl_mul (tp p) q.den;have k2:=bl_mul (tp q) p.den;have k3:=bl_mul p.den q.den;conv=>whnf
    refine VDraw.go hmo hty 18 [] rfl ?_;conv=>whnf
    refine QCall.of_data (fn_mul (tp p) q.den (by omega) (by omega)) (nd _) ?_;conv=>whnf
    refine QCall.of_data (fn_mul (tp q) p.den (by omega) (by omega)) (nd _) ?_;conv=>whnf
    refine QCall.of_data (fn_mul p.den q.den (by omega) (by omega)) (nd _) ?_;have hsum:=add_parts p q;have hb0:p.den*q.den≠0:=Nat.mul_ne_zero p.den_nz q.den_nz;obtain ⟨x,ex⟩:∃x,tp p*q.den=x:=⟨_,rfl⟩;obtain ⟨y,ey⟩:∃x,tp q*p.den=x:=⟨_,rfl⟩;obtain ⟨b,eb⟩:∃x,p.den*q.den=x:=⟨_,rfl⟩;rw [ex,ey,eb] at hsum;rw [ex] at k1;rw [ey] at k2;rw [eb] at k3 hb0;have hbb:bl b≤100000000000:=by omega
    rw [ex,ey,eb];conv=>whnf
    refine Br.mk (fun h5=>?_) (fun h5=>?_)
    ·have h5:ng p=ng q:=by simpa using h5
     have er:p+q=mkRat (sgn (ng p) (x+y)) b:=by rw [hsum,sgn_add,if_pos h5]
     have hxy:=bl_add x y;rw [er];conv=>whnf
     refine VDraw.go hmo hty 7 [] rfl ?_;conv=>whnf
     refine QCall.of_data (fn_add x y (by omega) (by omega)) (nd _) ?_;conv=>whnf
     refine QCall.of_data (fn_lowest (ng p) (x+y) b (by omega) hbb hb0) (ndA fun k=>rfl) ?_;conv=>whnf
     exact ⟨rfl,rfl,rfl,trivial,rfl⟩
    ·have h5:¬ng p=ng q:=by simpa using h5
     conv=>whnf
     refine VCall.of_data (fn_cmp x y (by omega) (by omega)) (nd _) ?_;conv=>whnf
     refine Br.mk (fun h6=>?_) (fun h6=>?_)
     ·have h6:y≤x:=cmpZ_nonneg.1 (by simpa only [decide_eq_true_eq] using h6);have er:p+q=mkRat (sgn (ng p) (x - y)) b:=by rw [hsum,sgn_add,if_neg h5,if_pos h6]
      have hxy:=bl_mono (Nat.sub_le x y);rw [er];conv=>whnf
      refine VDraw.go hmo hty 7 [] rfl ?_;conv=>whnf
      refine QCall.of_data (fn_sub x y (by omega) h6) (nd _) ?_;conv=>whnf
      refine QCall.of_data (fn_lowest (ng p) (x - y) b (by omega) hbb hb0) (ndA fun k=>rfl) ?_;conv=>whnf
      exact ⟨rfl,rfl,rfl,trivial,rfl⟩
     ·have h6:¬y≤x:=fun h=>by simp only [decide_eq_false_iff_not] at h6;exact h6 (cmpZ_nonneg.2 h)
      have er:p+q=mkRat (sgn (ng q) (y - x)) b:=by rw [hsum,sgn_add,if_neg h5,if_neg h6]
      have hxy:=bl_mono (Nat.sub_le y x);rw [er];conv=>whnf
      refine VDraw.go hmo hty 7 [] rfl ?_;conv=>whnf
      refine QCall.of_data (fn_sub y x (by omega) (by omega)) (nd _) ?_;conv=>whnf
      refine QCall.of_data (fn_lowest (ng q) (y - x) b (by omega) hbb hb0) (ndA fun k=>rfl) ?_;conv=>whnf
      exact ⟨rfl,rfl,rfl,trivial,rfl⟩
   ·have hd:p.den=q.den:=cmpZ_zero.1 (by simpa using h4);have hsum:=add_same hd;have hb0:=p.den_nz;have hbb:bl p.den≤100000000000:=by omega
    obtain ⟨x,ex⟩:∃x,tp p=x:=⟨_,rfl⟩;obtain ⟨y,ey⟩:∃x,tp q=x:=⟨_,rfl⟩;obtain ⟨b,eb⟩:∃x,p.den=x:=⟨_,rfl⟩;rw [ex,ey,eb] at hsum;rw [ex] at b1;rw [ey] at b3;rw [eb] at hb0 hbb;rw [ex,ey,eb];conv=>whnf
    refine Br.mk (fun h5=>?_) (fun h5=>?_)
    ·have h5:ng p=ng q:=by simpa using h5
     have er:p+q=mkRat (sgn (ng p) (x+y)) b:=by rw [hsum,sgn_add,if_pos h5]
     have hxy:=bl_add x y;rw [er];conv=>whnf
     refine VDraw.go hmo hty 7 [] rfl ?_;conv=>whnf
     refine QCall.of_data (fn_add x y (by omega) (by omega)) (nd _) ?_;conv=>whnf
     refine QCall.of_data (fn_lowest (ng p) (x+y) b (by omega) hbb hb0) (ndA fun k=>rfl) ?_;conv=>whnf
     exact ⟨rfl,rfl,rfl,trivial,rfl⟩
    ·have h5:¬ng p=ng q:=by simpa using h5
     conv=>whnf
     refine VCall.of_data (fn_cmp x y (by omega) (by omega)) (nd _) ?_;conv=>whnf
     refine Br.mk (fun h6=>?_) (fun h6=>?_)
     ·have h6:y≤x:=cmpZ_nonneg.1 (by simpa only [decide_eq_true_eq] using h6);have er:p+q=mkRat (sgn (ng p) (x - y)) b:=by rw [hsum,sgn_add,if_neg h5,if_pos h6]
      have hxy:=bl_mono (Nat.sub_le x y);rw [er];conv=>whnf
      refine VDraw.go hmo hty 7 [] rfl ?_;conv=>whnf
      refine QCall.of_data (fn_sub x y (by omega) h6) (nd _) ?_;conv=>whnf
      refine QCall.of_data (fn_lowest (ng p) (x - y) b (by omega) hbb hb0) (ndA fun k=>rfl) ?_;conv=>whnf
      exact ⟨rfl,rfl,rfl,trivial,rfl⟩
     ·have h6:¬y≤x:=fun h=>by simp only [decide_eq_false_iff_not] at h6;exact h6 (cmpZ_nonneg.2 h)
      have er:p+q=mkRat (sgn (ng q) (y - x)) b:=by rw [hsum,sgn_add,if_neg h5,if_neg h6]
      have hxy:=bl_mono (Nat.sub_le y x);rw [er];conv=>whnf
      refine VDraw.go hmo hty 7 [] rfl ?_;conv=>whnf
      refine QCall.of_data (fn_sub y x (by omega) (by omega)) (nd _) ?_;conv=>whnf
      refine QCall.of_data (fn_lowest (ng q) (y - x) b (by omega) hbb hb0) (ndA fun k=>rfl) ?_;conv=>whnf
      exact ⟨rfl,rfl,rfl,trivial,rfl⟩
end Go.V
namespace Go.V
open Go.Proofs
set_option maxRecDepth 10000
theorem fn_rmul (p q:Rat) (hp:sz p≤100000000000) (hq:sz q≤100000000000):Fn Tryz.prog 44 [rI p,rI q] [] (rI (p*q)) []:=by
 have b1:=bl_tp p
 have b2:=bl_den p
 have b3:=bl_tp q
 have b4:=bl_den q
 refine Fn.intro (ks:=[0,1,2,3,4,5,6,14]) hty rfl rfl rfl rfl rfl ?_
 conv=>whnf
 refine VCall.of_data (fn_sign p (by omega)) (nd _) ?_
 conv=>whnf
 refine Br.mk (fun h=>?_) (fun h=>?_)
 ·have h0:p=0:=sgI_zero.1 (by simpa only [decide_eq_true_eq] using h)
  rw [h0,Rat.zero_mul]
  conv=>whnf
  refine VCall.of_data (fn_whole 0 (by decide) (by decide)) (ndA fun k=>rfl) ?_
  conv=>whnf
  exact ⟨rfl,rfl,rfl,trivial,rfl⟩
 ·have h0:p≠0:=fun e=>by simp only [decide_eq_false_iff_not] at h;exact h (sgI_zero.2 e)
  conv=>whnf
  refine VCall.of_data (fn_sign q (by omega)) (nd _) ?_
  conv=>whnf
  refine Br.mk (fun h2=>?_) (fun h2=>?_)
  ·have h0:q=0:=sgI_zero.1 (by simpa only [decide_eq_true_eq] using h2)
   rw [h0,Rat.mul_zero]
   conv=>whnf
   refine VCall.of_data (fn_whole 0 (by decide) (by decide)) (ndA fun k=>rfl) ?_
   conv=>whnf
   exact ⟨rfl,rfl,rfl,trivial,rfl⟩
  ·have h2':q≠0:=fun e=>by simp only [decide_eq_false_iff_not] at h2;exact h2 (sgI_zero.2 e)
   obtain ⟨m1,m2,m3⟩:=lowest_mul (a:=p) (b:=q)
   rw [decide_eq_true (mt tp_zero.1 h0),decide_eq_true (mt tp_zero.1 h2'),Bool.and_true,Bool.and_true] at m3
   obtain ⟨x1,x2,x3⟩:=mkRat_parts (s:=false) (t:=tp p) q.den_nz
   obtain ⟨y1,y2,y3⟩:=mkRat_parts (s:=false) (t:=tp q) p.den_nz
   conv=>whnf
   refine VDraw.go hmo hty 12 [[5,6],[5,6],[5,6],[5,6],[5,6],[5,6],[5,6],[5,6],[5,6],[5,6],[6],[5]] rfl ?_
   conv=>whnf
   refine QCall.of_data (fn_lowest false (tp p) q.den (by omega) (by omega) q.den_nz) (ndA fun k=>rfl) ?_
   conv=>whnf
   refine QCall.of_data (fn_lowest false (tp q) p.den (by omega) (by omega) p.den_nz) (ndA fun k=>rfl) ?_
   rw [show rI (p*q) = .ag [B (ng p != ng q),nI (tp (mkRat (sgn false (tp p)) q.den)*tp (mkRat (sgn false (tp q)) p.den)),nI ((mkRat (sgn false (tp p)) q.den).den*(mkRat (sgn false (tp q)) p.den).den)] by rw [rI,m1,m2,m3,x2,x3,y2,y3]]
   have s1:=sz_mkRat (s:=false) (t:=tp p) q.den_nz
   have s2:=sz_mkRat (s:=false) (t:=tp q) p.den_nz
   obtain ⟨x,ex⟩:∃x,mkRat (sgn false (tp p)) q.den=x:=⟨_,rfl⟩
   obtain ⟨y,ey⟩:∃x,mkRat (sgn false (tp q)) p.den=x:=⟨_,rfl⟩
   rw [ex] at s1
   rw [ey] at s2
   rw [ex,ey]
   have c1:=bl_tp x
   have c2:=bl_den x
   have c3:=bl_tp y
   have c4:=bl_den y
   conv=>whnf
   refine VDraw.go hmo hty 16 [] rfl ?_
   conv=>whnf
   refine QCall.of_data (fn_mul (tp x) (tp y) (by omega) (by omega)) (nd _) ?_
   conv=>whnf
   refine QCall.of_data (fn_mul x.den y.den (by omega) (by omega)) (nd _) ?_
   conv=>whnf
   exact ⟨rfl,rfl,rfl,trivial,rfl⟩
theorem sz_inv {q:Rat} (h:q≠0):sz q⁻¹=sz q:=by
 obtain ⟨e1,e2,e3⟩:=inv_parts h
 unfold sz;rw [e2,e3,Nat.max_comm]
theorem fn_rover (p q:Rat) (hp:sz p≤100000000000) (hq:sz q≤100000000000) (h0:q≠0):Fn Tryz.prog 62 [rI p,rI q] [] (rI (p / q)) []:=by
 obtain ⟨e1,e2,e3⟩:=inv_parts h0
 have cm:=fn_rmul p q⁻¹ hp (by rw [sz_inv h0];exact hq)
 rw [show rI q⁻¹ = .ag [B (ng q),nI q.den,nI (tp q)] by rw [rI,e1,e2,e3],←Rat.div_def] at cm
 refine Fn.intro (ks:=[0,1,2,3,4]) hty rfl rfl rfl rfl rfl ?_
 conv=>whnf
 refine VCall.of_data cm (ndA fun k=>rfl) ?_
 conv=>whnf
 exact ⟨rfl,rfl,rfl,trivial,rfl⟩
def rcI (p q:Rat):Int:=if sgI p≠sgI q then sgI p - sgI q else if ng p then -cmpZ (tp p*q.den) (tp q*p.den) else cmpZ (tp p*q.den) (tp q*p.den)
theorem sgI_bd (q:Rat):-1≤sgI q∧sgI q≤1:=by
 unfold sgI
 split
 ·exact ⟨by decide,by decide⟩
 ·split
  ·exact ⟨by decide,by decide⟩
  ·exact ⟨by decide,by decide⟩
theorem cmpZ_bd (a b:Nat):-1≤cmpZ a b∧cmpZ a b≤1:=by
 unfold cmpZ
 split
 ·exact ⟨by decide,by decide⟩
 ·split
  ·exact ⟨by decide,by decide⟩
  ·exact ⟨by decide,by decide⟩
theorem cmpZ_neg {a b:Nat}:cmpZ a b < 0↔a < b:=by
 have:=cmpZ_nonneg (a:=a) (b:=b)
 omega
theorem rcI_spec (p q:Rat):(rcI p q < 0↔p < q)∧(rcI p q=0↔p=q):=by
 rw [lt_cross,eq_cross]
 have hX:tp p*q.den=0↔tp p=0:=by
  rw [Nat.mul_eq_zero];exact ⟨fun h=>h.elim id (fun h=>absurd h q.den_nz),.inl⟩
 have hY:tp q*p.den=0↔tp q=0:=by
  rw [Nat.mul_eq_zero];exact ⟨fun h=>h.elim id (fun h=>absurd h p.den_nz),.inl⟩
 have np:=ng_zero (q:=p)
 have nq:=ng_zero (q:=q)
 have c1:=cmpZ_neg (a:=tp p*q.den) (b:=tp q*p.den)
 have c2:=cmpZ_zero (a:=tp p*q.den) (b:=tp q*p.den)
 have c3:=cmpZ_neg (a:=tp q*p.den) (b:=tp p*q.den)
 have c4:=cmpZ_bd (tp p*q.den) (tp q*p.den)
 have c5:=cmpZ_bd (tp q*p.den) (tp p*q.den)
 have c6:cmpZ (tp q*p.den) (tp p*q.den) = - cmpZ (tp p*q.den) (tp q*p.den):=by
  rcases Nat.lt_trichotomy (tp p*q.den) (tp q*p.den) with h | h | h
  ·rw [cmpZ_lt h,cmpZ_gt h];rfl
  ·rw [h,cmpZ_eq];rfl
  ·rw [cmpZ_lt h,cmpZ_gt h]
 unfold rcI sgI
 generalize cmpZ (tp p*q.den) (tp q*p.den)=c at *
 generalize cmpZ (tp q*p.den) (tp p*q.den)=c' at *
 generalize tp p*q.den=X at *
 generalize tp q*p.den=Y at *
 generalize tp p=x at *
 generalize tp q=y at *
 by_cases hx:x=0
 ·have e:=np hx
  by_cases hy:y=0
  ·have e2:=nq hy
   simp [hx,hy,e,e2,sgn];omega
  ·cases e2:ng q <;> simp [hx,hy,e,sgn] <;> omega
 ·cases e:ng p
  ·by_cases hy:y=0
   ·have e2:=nq hy
    simp [hx,hy,e2,sgn];omega
   ·cases e2:ng q <;> simp [hx,hy,sgn] <;> omega
  ·by_cases hy:y=0
   ·have e2:=nq hy
    simp [hx,hy,e2,sgn];omega
   ·cases e2:ng q <;> simp [hx,hy,sgn] <;> omega
theorem rcI_neg {p q:Rat}:rcI p q < 0↔p < q:=(rcI_spec p q).1
theorem rcI_zero {p q:Rat}:rcI p q=0↔p=q:=(rcI_spec p q).2
theorem fn_rcmp (p q:Rat) (hp:sz p≤100000000000) (hq:sz q≤100000000000):Fn Tryz.prog 43 [rI p,rI q] [] (I (rcI p q)) []:=by
 have b1:=bl_tp p;have b2:=bl_den p;have b3:=bl_tp q;have b4:=bl_den q;have hp1:=sgI_bd p;have hq1:=sgI_bd q;refine Fn.intro (ks:=[0,1,2,3,4,5,10,28]) hty rfl rfl rfl rfl rfl ?_;conv=>whnf
 refine VDraw.go hmo hty 5 [] rfl ?_;conv=>whnf
 refine QCall.of_data (fn_sign p (by omega)) (nd _) ?_;conv=>whnf
 refine QCall.of_data (fn_sign q (by omega)) (nd _) ?_;conv=>whnf
 refine Br.mk (fun h=>?_) (fun h=>?_)
 ·have h:sgI p≠sgI q:=by simpa using h
  rw [rcI,if_pos h];conv=>whnf
  refine VDraw.go hmo hty 6 [] rfl ?_;conv=>whnf
  refine QCall.of_data (fn_sign p (by omega)) (nd _) ?_;conv=>whnf
  refine QCall.of_data (fn_sign q (by omega)) (nd _) ?_;conv=>whnf
  refine Wr.i64 (y:=sgI p - sgI q) rfl (by omega) (by omega) ?_;conv=>whnf
  exact ⟨rfl,trivial,rfl⟩
 ·have h:¬sgI p≠sgI q:=by simpa using h
  rw [rcI,if_neg h];have k1:=bl_mul (tp p) q.den;have k2:=bl_mul (tp q) p.den;conv=>whnf
  refine VDraw.go hmo hty 12 [] rfl ?_;conv=>whnf
  refine QCall.of_data (fn_mul (tp p) q.den (by omega) (by omega)) (nd _) ?_;conv=>whnf
  refine QCall.of_data (fn_mul (tp q) p.den (by omega) (by omega)) (nd _) ?_;conv=>whnf
  refine QCall.of_data (fn_cmp (tp p*q.den) (tp q*p.den) (by omega) (by omega)) (nd _) ?_;have hc:=cmpZ_bd (tp p*q.den) (tp q*p.den);obtain ⟨c,ec⟩:∃c,cmpZ (tp p*q.den) (tp q*p.den)=c:=⟨_,rfl⟩;rw [ec] at hc;rw [ec];conv=>whnf
  refine Br.mk (fun h2=>?_) (fun h2=>?_)
  ·rw [if_pos h2];conv=>whnf
   refine Wr.i64 (y:=-c) (by omega) (by omega) (by omega) ?_;conv=>whnf
   exact ⟨rfl,trivial,rfl⟩
  ·rw [if_neg (by rw [h2];decide)];conv=>whnf
   exact ⟨rfl,trivial,rfl⟩
theorem fn_isOne (p:Rat) (hp:sz p≤100000000000):Fn Tryz.prog 57 [rI p] [] (B (decide (p=1))) []:=by
 have e:decide (rcI p 1=0)=decide (p=1):=decide_eq_decide.2 rcI_zero
 rw [←e]
 have c:=fn_whole 1 (by decide) (by decide)
 refine Fn.intro (ks:=[0,1,2]) hty rfl rfl rfl rfl rfl ?_
 conv=>whnf
 refine VDraw.go hmo hty 5 [] rfl ?_
 conv=>whnf
 refine QCall.of_data c (ndA fun k=>rfl) ?_
 conv=>whnf
 refine QCall.of_data (fn_rcmp p 1 hp (by decide)) (nd _) ?_
 conv=>whnf
 exact ⟨rfl,trivial,rfl⟩
theorem sz_one:sz (1:Rat)=1:=by decide
theorem sz_pow (p:Rat):∀n,sz (p ^ n)≤n*sz p+1
 | 0=>by rw [Rat.pow_zero,sz_one];omega
 | n+1=>by
  rw [Rat.pow_succ]
  have:=sz_mul (p ^ n) p
  have:=sz_pow p n
  rw [Nat.succ_mul];omega
theorem fn_power (p:Rat) (n:Nat) (hn:n≤1000000000) (hp:n*sz p+sz p+1≤100000000000):Fn Tryz.prog 28 [rI p,I n] [] (rI (p ^ n)) []:=by
 have c:=fn_whole 1 (by decide) (by decide);rw [show ((1:Int):Rat)=p ^ 0 by rw [Rat.pow_zero];rfl] at c;refine Fn.intro (ks:=[0,1,2,4,5,7,8,9]) hty rfl rfl rfl rfl rfl ?_;conv=>whnf
 refine VCall.of_data c (ndA fun k=>rfl) ?_;conv=>whnf
 refine VLoop.inv hty (S:=Nat) (fun i=>[(8,I i),(7,I n),(5,.lp 5 0),(4,.lp 4 0),(2,.lp 2 0)])
  (fun i=>[(5,.box true [B (ng (p ^ i)),nI (tp (p ^ i)),nI (p ^ i).den]),(4,.box true (zeros (ty 62).zero)),(2,.box true [B (ng p),nI (tp p),nI p.den])])
  (fun i=>i≤n) (fun i=>n - i) 0 (Nat.zero_le _) ⟨rfl,rfl,rfl,rfl,rfl,trivial⟩ ⟨rfl,rfl,rfl,trivial⟩ ?_
 intro i hi;conv=>whnf
 refine Br.mk (fun h=>?_) (fun h=>?_)
 ·have h:i < n:=by simp only [decide_eq_true_eq] at h;omega
  have hs:=sz_pow p i;have hs2:i*sz p≤n*sz p:=Nat.mul_le_mul_right _ hi;have cm:=fn_rmul (p ^ i) p (by omega) (by omega);rw [←Rat.pow_succ] at cm;conv=>whnf
  refine VCall.of_data cm (ndA fun k=>rfl) ?_;conv=>whnf
  refine Wr.i64 (y:=((i+1:Nat):Int)) (by omega) (by omega) (by omega) ?_;conv=>whnf
  exact ⟨i+1,h,by show n - (i+1) < n - i;omega,⟨rfl,rfl,rfl,rfl,rfl,trivial⟩,rfl,rfl,rfl,trivial⟩
 ·have h:i=n:=by simp only [decide_eq_false_iff_not] at h;omega
  subst h;conv=>whnf
  exact ⟨rfl,rfl,rfl,trivial,rfl⟩
end Go.V
namespace Go.V
open Go.Proofs
set_option maxRecDepth 10000
def c1Q (q:Rat):List C:=[.s (.bool (ng q)),.sl (cW .u32 (dg B32 (tp q))),.sl (cW .u32 (dg B32 q.den))]
def cQ (xs:List Rat):List (List C):=xs.map c1Q
theorem cQ_len (xs:List Rat):(cQ xs).length=xs.length:=by simp [cQ]
theorem cQ_sz (xs:List Rat):∀r,r∈cQ xs→r.length=3:=by
 intro r hr;simp only [cQ,List.mem_map] at hr;obtain ⟨n,_,rfl⟩:=hr;rfl
theorem cQ_get {xs:List Rat} {i:Nat} (h:i < xs.length):(cQ xs)[i]? = some (c1Q xs[i]):=by simp [cQ,h]
theorem cQ_append (xs ys:List Rat):cQ xs++cQ ys=cQ (xs++ys):=by simp [cQ]
theorem cQ_as {xs:List Rat} {i:Nat} {x:Rat} (h:i < xs.length) (e:xs.getD i 0=x):(cQ xs)[i]? = some (c1Q x):=by
 rw [cQ_get h];subst e;rw [gD,List.getElem?_eq_getElem h];rfl
abbrev lQ (xs:List Rat):AV:=.d (.sl (cQ xs))
theorem fn_isMinus (q:Rat) (hs:sz q≤1000000000000):Fn Tryz.prog 55 [rI q] [] (B (decide (sgI q < 0))) []:=by
 refine Fn.intro (ks:=[0,1,2]) hty rfl rfl rfl rfl rfl ?_
 conv=>whnf
 refine VCall.of_data (fn_sign q hs) (nd _) ?_
 conv=>whnf
 exact ⟨rfl,trivial,rfl⟩
def psum (xs:List Rat):Nat→Rat
 | 0=>0
 | i+1=>psum xs i+xs.getD i 0
def rsum (xs:List Rat):Rat:=psum xs xs.length
theorem getD_sz {xs:List Rat} {m:Nat} (h:∀q,q∈xs→sz q≤m) (i:Nat) (h1:1≤m):sz (xs.getD i 0)≤m:=by
 rw [gD]
 by_cases hi:i < xs.length
 ·rw [List.getElem?_eq_getElem hi];exact h _ (by simp)
 ·rw [List.getElem?_eq_none (by omega)];exact Nat.le_trans (by decide:sz (0:Rat)≤1) h1
theorem sz_psum {xs:List Rat} {m:Nat} (h:∀q,q∈xs→sz q≤m) (h1:1≤m):∀i,sz (psum xs i)≤i*(m+1)+1
 | 0=>by show sz (0:Rat)≤_;exact Nat.le_trans (by decide:sz (0:Rat)≤1) (by omega)
 | i+1=>by
  show sz (psum xs i+xs.getD i 0)≤_
  have h2:=sz_add (psum xs i) (xs.getD i 0)
  have h3:=sz_psum h h1 i
  have h4:=getD_sz h i h1
  have:(i+1)*(m+1)=i*(m+1)+(m+1):=Nat.succ_mul _ _
  omega
theorem fn_sum (xs:List Rat) (m:Nat) (h:∀q,q∈xs→sz q≤m) (h1:1≤m) (hn:xs.length≤1000000) (hm:xs.length*(m+1)+m+1≤99999999999):Fn Tryz.prog 56 [lQ xs] [] (rI (rsum xs)) []:=by
 have hl:((cQ xs).length:Int)=xs.length:=by rw [cQ_len]
 have c:=fn_whole 0 (by decide) (by decide);refine Fn.intro (ks:=[0,2,3,5,7,8,9,10]) hty rfl rfl rfl rfl rfl ?_;conv=>whnf
 refine VCall.of_data c (ndA fun k=>rfl) ?_;conv=>whnf
 refine VLoop.inv hty (S:=Nat) (fun i=>[(9,I i),(8,I xs.length),(7,lQ xs),(3,.lp 3 0),(2,.lp 2 0)])
  (fun i=>[(3,.box true [B (ng (psum xs i)),nI (tp (psum xs i)),nI (psum xs i).den]),(2,.box true (zeros (ty 62).zero))])
  (fun i=>i≤xs.length) (fun i=>xs.length - i) 0 (Nat.zero_le _) ⟨rfl,by show AV.d (.s (.int .i64 ((cQ xs).length:Int)))=_;rw [cQ_len],rfl,rfl,rfl,trivial⟩ ⟨rfl,rfl,trivial⟩ ?_
 intro i hi;conv=>whnf
 refine Br.mk (fun h2=>?_) (fun h2=>?_)
 ·have h2:i < xs.length:=by simp only [decide_eq_true_eq] at h2;omega
  conv=>whnf
  refine ⟨⟨⟨by omega,by omega⟩,cQ_sz _⟩,?_⟩;conv=>whnf
  obtain ⟨x,ex⟩:∃x,xs.getD i 0=x:=⟨_,rfl⟩;have sx:=getD_sz h i h1;have sp:=sz_psum h h1 i;have hi2:i*(m+1)≤xs.length*(m+1):=Nat.mul_le_mul_right _ hi;have er:psum xs (i+1)=psum xs i+x:=by rw [←ex];rfl
  rw [ex] at sx;refine ⟨_,cQ_as (x:=x) h2 ex,?_⟩;have cc:=fn_radd (psum xs i) x (by omega);rw [←er] at cc;conv=>whnf
  refine VCall.of_data cc (ndA fun k=>rfl) ?_;conv=>whnf
  refine Wr.i64 (y:=((i+1:Nat):Int)) (by omega) (by omega) (by omega) ?_;conv=>whnf
  exact ⟨i+1,h2,by show xs.length - (i+1) < xs.length - i;omega,⟨rfl,rfl,rfl,rfl,rfl,trivial⟩,rfl,rfl,trivial⟩
 ·have h2:i=xs.length:=by simp only [decide_eq_false_iff_not] at h2;omega
  subst h2;conv=>whnf
  exact ⟨rfl,rfl,rfl,trivial,rfl⟩
end Go.V
namespace Go.V
section
variable {B:Nat}
theorem dg_fit (hB:2≤B) {l:List Nat} {n:Nat} (hl:∀x,x∈l→x < B) (hv:vl B l=n) (h:l=[]∨B ^ (l.length - 1)≤n):dg B n=l:=by
 apply dg_of hB ⟨hl,fun e=>?_⟩ hv;have hne:l≠[]:=by rintro rfl;simp at e
 have hpos:0 < l.length:=List.length_pos_iff.2 hne;rw [List.getLast?_eq_getElem?,List.getElem?_eq_getElem (by omega)] at e;have e0:l[l.length - 1]=0:=Option.some.inj e;have h1:=vl_take_succ (B:=B) (l:=l) (k:=l.length - 1) (by omega);rw [e0,show l.length - 1+1=l.length by omega,List.take_length,Nat.mul_zero,Nat.add_zero,hv] at h1;have h2:=vl_lt (B:=B) (l:=l.take (l.length - 1)) fun x hx=>hl x (List.mem_of_mem_take hx);rw [List.length_take,Nat.min_eq_left (by omega)] at h2;rcases h with h | h
 ·exact hne h
 ·omega
theorem len_lo (hB:2≤B) {n:Nat} (h:dg B n≠[]):B ^ ((dg B n).length - 1)≤n:=by
 apply Nat.le_of_not_lt
 intro h1
 have h2:=dg_len_le hB h1
 have:0 < (dg B n).length:=List.length_pos_iff.2 h
 omega
theorem snoc_lt' {l:List Nat} {d:Nat} (h:∀x,x∈l→x < B) (hd:d < B):∀x,x∈l++[d]→x < B:=fun x hx=>by
 rcases List.mem_append.1 hx with hx | hx
 ·exact h x hx
 ·rw [List.mem_singleton] at hx;omega
def SumI (B:Nat) (a b:List Nat) (s:List Nat×Nat):Prop :=
 (∀x,x∈s.1→x < B)∧s.2≤1∧vl B s.1+B ^ s.1.length*s.2=vl B (a.take s.1.length)+vl B (b.take s.1.length) ∧
 (s.1.length≤max a.length b.length∨s.2=0∧s.1.length=max a.length b.length+1∧B ^ (s.1.length - 1)≤vl B a+vl B b)
theorem SumI.init (a b:List Nat):SumI B a b ([],0):=⟨by simp,by simp,by simp [vl],.inl (Nat.zero_le _)⟩
theorem SumI.step (hB:2≤B) {a b:List Nat} {s:List Nat×Nat} (ha:∀x,x∈a→x < B) (hb:∀x,x∈b→x < B) (h:SumI B a b s) (hc:s.1.length < a.length∨s.1.length < b.length∨0 < s.2) :
  s.1.length≤max a.length b.length∧SumI B a b (s.1++[(s.2+a.getD s.1.length 0+b.getD s.1.length 0) % B],(s.2+a.getD s.1.length 0+b.getD s.1.length 0) / B):=by
 obtain ⟨h1,h2,h3,h4⟩:=h;have hle:s.1.length≤max a.length b.length:=by omega
 have hx:=getD_lt ha (by omega) s.1.length;have hy:=getD_lt hb (by omega) s.1.length;have hst:=add_step h3;refine ⟨hle,snoc_lt' h1 (Nat.mod_lt _ (by omega)),?_,by rw [List.length_append];exact hst,?_⟩
 ·show _ / B≤1;have:s.2+a.getD s.1.length 0+b.getD s.1.length 0 < B*2:=by omega
  have:=Nat.div_lt_of_lt_mul this;omega
 ·rcases Nat.lt_or_ge s.1.length (max a.length b.length) with hlt | hge
  ·left;simp only [List.length_append,List.length_singleton];omega
  ·right
   have hxa:a.getD s.1.length 0=0:=by rw [gD,List.getElem?_eq_none (by omega)];rfl
   have hxb:b.getD s.1.length 0=0:=by rw [gD,List.getElem?_eq_none (by omega)];rfl
   rw [hxa,hxb];have hs2:s.2=1:=by omega
   rw [List.take_of_length_le (by omega),List.take_of_length_le (by omega),hs2,Nat.mul_one] at h3;refine ⟨?_,by simp only [List.length_append,List.length_singleton];omega,?_⟩
   ·show _ / B=0;rw [hs2];exact Nat.div_eq_of_lt (by omega)
   ·show B ^ ((s.1++[_]).length - 1)≤_;rw [List.length_append,List.length_singleton,Nat.add_sub_cancel];omega
theorem SumI.done (hB:2≤B) {m n:Nat} {s:List Nat×Nat} (h:SumI B (dg B m) (dg B n) s) (hc:¬(s.1.length < (dg B m).length∨s.1.length < (dg B n).length∨0 < s.2)):s.1=dg B (m+n):=by
 obtain ⟨h1,h2,h3,h4⟩:=h;have hs0:s.2=0:=by omega
 rw [List.take_of_length_le (by omega),List.take_of_length_le (by omega),hs0,Nat.mul_zero,Nat.add_zero,vl_dg hB,vl_dg hB] at h3;rw [vl_dg hB,vl_dg hB] at h4;refine (dg_fit hB h1 h3 ?_).symm;rcases h4 with h4 | ⟨_,_,h4⟩
 ·by_cases he:s.1=[]
  ·exact .inl he
  right
  have:0 < s.1.length:=List.length_pos_iff.2 he;rcases Nat.lt_or_ge (dg B m).length s.1.length with hm | hm
  ·have e:s.1.length=(dg B n).length:=by omega
   have:=len_lo hB (n:=n) (by intro e2;rw [e2,List.length_nil] at e;omega);rw [e];omega
  ·have e:s.1.length=(dg B m).length:=by omega
   have:=len_lo hB (n:=m) (by intro e2;rw [e2,List.length_nil] at e;omega);rw [e];omega
 ·exact .inr h4
def NatI (B N:Nat) (s:List Nat×Nat):Prop:=(∀x,x∈s.1→x < B)∧vl B s.1+B ^ s.1.length*s.2=N∧(s.2=0→s.1=[]∨B ^ (s.1.length - 1)≤N)
theorem NatI.init (N:Nat):NatI B N ([],N):=⟨by simp,by simp [vl],fun _=>.inl rfl⟩
theorem NatI.step (hB:2≤B) {N:Nat} {s:List Nat×Nat} (h:NatI B N s) (h0:0 < s.2):NatI B N (s.1++[s.2 % B],s.2 / B)∧s.2 / B < s.2:=by
 obtain ⟨h1,h2,h3⟩:=h
 refine ⟨⟨snoc_lt' h1 (Nat.mod_lt _ (by omega)),?_,fun _=>.inr ?_⟩,Nat.div_lt_self h0 (by omega)⟩
 ·show vl B (s.1++[s.2 % B])+B ^ (s.1++[s.2 % B]).length*(s.2 / B)=N
  rw [vl_snoc,List.length_append,List.length_singleton,Nat.pow_succ]
  have:=split_digit (B:=B) (P:=B ^ s.1.length) (x:=s.2)
  omega
 ·show B ^ ((s.1++[s.2 % B]).length - 1)≤N
  rw [List.length_append,List.length_singleton,Nat.add_sub_cancel]
  have:=Nat.mul_le_mul_left (B ^ s.1.length) h0
  omega
theorem NatI.done (hB:2≤B) {N:Nat} {s:List Nat×Nat} (h:NatI B N s) (h0:s.2=0):s.1=dg B N:=by
 obtain ⟨h1,h2,h3⟩:=h
 rw [h0,Nat.mul_zero,Nat.add_zero] at h2
 exact (dg_fit hB h1 h2 (h3 h0)).symm
def ShmI (B:Nat) (a:List Nat) (d:Nat) (s:List Nat×Nat):Prop:=s.1.length≤a.length∧(∀x,x∈s.1→x < B)∧s.2 < B∧vl B s.1+B ^ s.1.length*s.2=d*vl B (a.take s.1.length)
theorem ShmI.init (hB:2≤B) (a:List Nat) (d:Nat):ShmI B a d ([],0):=⟨Nat.zero_le _,by simp,by show 0 < B;omega,by simp [vl]⟩
theorem ShmI.step {a:List Nat} {d:Nat} {s:List Nat×Nat} (ha:∀x,x∈a→x < B) (hd:d < B) (h:ShmI B a d s) (hi:s.1.length < a.length) :
  a.getD s.1.length 0*d+s.2 < B*B∧ShmI B a d (s.1++[(a.getD s.1.length 0*d+s.2) % B],(a.getD s.1.length 0*d+s.2) / B):=by
 obtain ⟨h1,h2,h3,h4⟩:=h;have hx:=getD_lt ha (by omega) s.1.length;have hb:=mul_bound hx hd (show 0 < B by omega) h3;rw [Nat.add_zero,Nat.add_comm] at hb;refine ⟨hb.1,by simp only [List.length_append,List.length_singleton];omega,snoc_lt' h2 (Nat.mod_lt _ (by omega)),hb.2,?_⟩;show vl B (s.1++[_])+B ^ (s.1++[_]).length*(_ / B)=d*vl B (a.take (s.1++[_]).length);rw [vl_snoc,List.length_append,List.length_singleton,vl_take_getD,Nat.pow_succ];have h5:=split_digit (B:=B) (P:=B ^ s.1.length) (x:=a.getD s.1.length 0*d+s.2);rw [Nat.mul_add (B ^ s.1.length)] at h5;have h6:d*(vl B (a.take s.1.length)+B ^ s.1.length*a.getD s.1.length 0)=d*vl B (a.take s.1.length)+B ^ s.1.length*(a.getD s.1.length 0*d):=by grind
 rw [h6];omega
theorem ShmI.done (hB:2≤B) {n d:Nat} (hd:0 < d) {s:List Nat×Nat} (h:ShmI B (dg B n) d s) (hl:s.1.length=(dg B n).length) :
  (0 < s.2→s.1++[s.2]=dg B (n*d))∧(s.2=0→s.1=dg B (n*d)):=by
 obtain ⟨h1,h2,h3,h4⟩:=h
 rw [List.take_of_length_le (by omega),vl_dg hB,Nat.mul_comm d n] at h4
 refine ⟨fun h0=>(dg_fit hB (snoc_lt' h2 h3) (by rw [vl_snoc];exact h4) (.inr ?_)).symm,fun h0=>(dg_fit hB h2 (by rw [h0] at h4;simpa using h4) ?_).symm⟩
 ·rw [List.length_append,List.length_singleton,Nat.add_sub_cancel]
  have:=Nat.mul_le_mul_left (B ^ s.1.length) h0
  omega
 ·by_cases he:s.1=[]
  ·exact .inl he
  right
  have h5:=len_lo hB (n:=n) (by intro e;apply he;rw [e] at hl;exact List.eq_nil_of_length_eq_zero hl)
  rw [hl]
  have h6:n*1≤n*d:=Nat.mul_le_mul_left _ hd
  omega
def OffI (B:Nat) (W v:List Nat) (g:Nat) (s:List Nat×Nat):Prop:=s.1.length≤v.length∧(∀x,x∈s.1→x < B)∧s.2 < B∧vl B s.1+g*vl B (v.take s.1.length)=vl B (W.take s.1.length)+B ^ s.1.length*s.2
theorem OffI.init (hB:2≤B) (W v:List Nat) (g:Nat):OffI B W v g ([],0):=⟨Nat.zero_le _,by simp,by show 0 < B;omega,by simp [vl]⟩
theorem OffI.step (hB:2≤B) {W v:List Nat} {g d l:Nat} {s:List Nat×Nat} (hv:∀x,x∈v→x < B) (hg:g < B) (h:OffI B W v g s) (hi:s.1.length < v.length) (hd:d < B)
  (he:d+v.getD s.1.length 0*g % B+s.2=W.getD s.1.length 0+B*l) :
  OffI B W v g (s.1++[d],v.getD s.1.length 0*g / B+l):=by
 obtain ⟨h1,h2,h3,h4⟩:=h
 have key:vl B (s.1++[d])+g*vl B (v.take (s.1.length+1))=vl B (W.take (s.1.length+1))+B ^ (s.1.length+1)*(v.getD s.1.length 0*g / B+l):=by
  rw [vl_snoc,vl_take_getD,vl_take_getD,Nat.pow_succ]
  have h5:=congrArg (B ^ s.1.length * ·) he
  have h6:=split_digit (B:=B) (P:=B ^ s.1.length) (x:=v.getD s.1.length 0*g)
  simp only [Nat.mul_add,←Nat.mul_assoc] at h5 h6 h4 ⊢
  rw [show g*B ^ s.1.length*v.getD s.1.length 0=B ^ s.1.length*v.getD s.1.length 0*g by grind]
  omega
 have hr:=snoc_lt' h2 hd
 refine ⟨by simp only [List.length_append,List.length_singleton];omega,hr,?_,by rw [List.length_append];exact key⟩
 have h5:=vl_lt hr
 rw [List.length_append,List.length_singleton] at h5
 have h6:=vl_lt (B:=B) (l:=v.take (s.1.length+1)) fun x hx=>hv x (List.mem_of_mem_take hx)
 rw [List.length_take,Nat.min_eq_left (by omega)] at h6
 show v.getD s.1.length 0*g / B+l < B
 generalize v.getD s.1.length 0*g / B+l=c at *
 apply Nat.lt_of_not_le
 intro hc
 have h7:=Nat.mul_le_mul_left (B ^ (s.1.length+1)) hc
 have h8:g*vl B (v.take (s.1.length+1))≤(B - 1)*B ^ (s.1.length+1):=Nat.mul_le_mul (by omega) (by omega)
 have h9:(B - 1)*B ^ (s.1.length+1)+B ^ (s.1.length+1)=B ^ (s.1.length+1)*B:=by
  obtain ⟨n,rfl⟩:∃n,B=n+1:=⟨B - 1,by omega⟩
  rw [Nat.add_sub_cancel];grind
 omega
theorem OffI.done {W v:List Nat} {g n:Nat} {s:List Nat×Nat} (hv:∀x,x∈v→x < B) (h:OffI B W v g s) (hl:s.1.length=n) (hn:v.length=n) (hW:W.length=n+1) (hg:g*vl B v≤vl B W+vl B v) :
  (s.2≤W.getD n 0→g*vl B v≤vl B W∧vl B (s.1++[W.getD n 0 - s.2])=vl B W - g*vl B v) ∧
  (W.getD n 0 < s.2→vl B W < g*vl B v∧s.2=W.getD n 0+1∧vl B s.1+vl B v=B ^ n+(vl B W+vl B v - g*vl B v)∧vl B W+vl B v - g*vl B v < B ^ n):=by
 obtain ⟨h1,h2,h3,h4⟩:=h;have h5:=vl_take_getD (B:=B) W n;rw [List.take_of_length_le (by omega)] at h5;rw [hl] at h4;have h6:=vl_lt h2;rw [hl] at h6;have hVn:=vl_lt hv;rw [hn] at hVn;rw [List.take_of_length_le (by omega)] at h4;generalize vl B v=V at *;generalize W.getD n 0=w at *;generalize g*V=gV at *;constructor
 ·intro hle;have e:B ^ n*w=B ^ n*s.2+B ^ n*(w - s.2):=by rw [←Nat.mul_add,show s.2+(w - s.2)=w by omega]
  refine ⟨by omega,?_⟩;rw [vl_snoc,hl];omega
 ·intro hlt;have hk:s.2=w+1:=by
   apply Classical.byContradiction;intro hne;have h7:=Nat.mul_le_mul_left (B ^ n) (by omega:w+2≤s.2);rw [Nat.mul_add] at h7;omega
  rw [hk,Nat.mul_add,Nat.mul_one] at h4;refine ⟨by omega,hk,by omega,by omega⟩
theorem bak_done {r':List Nat} {n r V X c:Nat} (h:vl B r'+B ^ n*c=r+V) (hr':vl B r' < B ^ n) (hX:r+V=B ^ n+X) (hXn:X < B ^ n):c=1∧vl B r'=X:=by
 have hc:c=1:=by
  rcases Nat.lt_or_ge c 1 with h1 | h1
  ·have:c=0:=by omega
   subst this;simp at h;omega
  ·apply Classical.byContradiction;intro hne;have:=Nat.mul_le_mul_left (B ^ n) (by omega:2≤c);omega
 subst hc;exact ⟨rfl,by omega⟩
end
end Go.V
namespace Go.V
open Lib (decDigits)
def IsD (b:UInt8):Prop:=48≤b.toNat∧b.toNat≤57
def dvA:List UInt8→Nat→Nat
 | [],n=>n
 | b :: r,n=>dvA r (10*n+(b.toNat - 48))
def dv (s:List UInt8):Nat:=dvA s 0
theorem dvA_eq:∀(s:List UInt8) (n:Nat),dvA s n=n*10 ^ s.length+dv s
 | [],n=>by simp [dvA,dv]
 | b :: r,n=>by
  simp only [dv,dvA,List.length_cons];rw [dvA_eq r,dvA_eq r (10*0+(b.toNat - 48)),Nat.pow_succ];have:(10*n+(b.toNat - 48))*10 ^ r.length=n*(10 ^ r.length*10)+(b.toNat - 48)*10 ^ r.length:=by grind
  rw [this,Nat.mul_zero,Nat.zero_add];omega
theorem dvA_append:∀(s t:List UInt8) (n:Nat),dvA (s++t) n=dvA t (dvA s n)
 | [],t,n=>rfl
 | b :: r,t,n=>by simp only [List.cons_append,dvA];exact dvA_append r t _
theorem dv_append (s t:List UInt8):dv (s++t)=dv s*10 ^ t.length+dv t:=by
 unfold dv;rw [dvA_append,dvA_eq];rfl
theorem dv_snoc (s:List UInt8) (b:UInt8):dv (s++[b])=10*dv s+(b.toNat - 48):=by
 unfold dv;rw [dvA_append];rfl
theorem dv_lt:∀{s:List UInt8},(∀b,b∈s→IsD b)→dv s < 10 ^ s.length
 | [],_=>by simp [dv,dvA]
 | b :: r,h=>by
  have h1:=dv_lt (s:=r) fun x hx=>h x (by simp [hx]);have h2:=h b (by simp);have e:=dv_append [b] r;rw [show [b]++r=b :: r from rfl] at e;rw [e,show dv [b]=b.toNat - 48 by simp [dv,dvA],List.length_cons,Nat.pow_succ];have h3:b.toNat - 48≤9:=by have:=h2.2;omega
  have:=Nat.mul_le_mul_right (10 ^ r.length) h3;omega
theorem dv_part {s:List UInt8} {lo hi:Nat} (h:lo≤hi) (hh:hi≤s.length):dv (s.take hi)=dv (s.take lo)*10 ^ (hi - lo)+dv ((s.drop lo).take (hi - lo)):=by
 have e:s.take hi=s.take lo++(s.drop lo).take (hi - lo):=by
  conv=>lhs;rw [show hi=lo+(hi - lo) by omega,List.take_add]
 rw [e,dv_append,List.length_take,List.length_drop,Nat.min_eq_left (by omega)]
theorem isD_ofNat {d:Nat} (h:d < 10):(UInt8.ofNat (48+d)).toNat=48+d:=by simp;omega
theorem dv_dec (u:Nat):dv (decDigits u)=u:=by
 induction u using Nat.strongRecOn with
 | _ u ih =>
  by_cases h:u < 10
  ·rw [dec_one h]
   show 10*0+((UInt8.ofNat (48+u)).toNat - 48)=u
   rw [isD_ofNat h];omega
  ·rw [dec_more h,dv_snoc,ih _ (by omega),isD_ofNat (by omega)];omega
theorem uint8_ext {a b:UInt8} (h:a.toNat=b.toNat):a=b:=UInt8.toNat_inj.1 h
end Go.V
namespace Go.V
open Go.Proofs
set_option maxRecDepth 10000
theorem win_setK {k:IntKind} {R:List Nat} {lo d:Nat} {r:List Nat} (h:lo+r.length < R.length):(cW k (win R lo r)).set (lo+r.length) [.s (.int k d)]=cW k (win R lo (r++[d])):=by
 have e:(R.take lo).length=lo:=by rw [List.length_take];omega
 rw [cW_set]
 congr 1
 simp only [win];rw [List.set_append_right _ _ (by omega),e,show lo+r.length - lo=r.length by omega,List.set_append_right _ _ (Nat.le_refl _),Nat.sub_self,List.drop_eq_getElem_cons h,List.set_cons_zero,List.length_append];simp [Nat.add_assoc]
theorem row_downK {k:IntKind} {i d:Nat} {q:List Nat}:(cW k (List.replicate (i+1) 0++q)).set i [.s (.int k d)]=cW k (List.replicate i 0++(d :: q)):=by
 rw [cW_set,List.replicate_succ',List.append_assoc,List.set_append_right _ _ (by simp)]
 simp
theorem fn_sTrim (l:List Nat) (hl:∀x,x∈l→x < B9) (hn:l.length≤1000000000000000):Fn Tryz.prog 115 [.d (.sl (cW .i64 l))] [] (nS (vl B9 l)) []:=by
 refine Fn.intro (ks:=[0,2,14]) hty rfl rfl rfl rfl rfl ?_;conv=>whnf
 refine VLoop.inv hty (S:=Nat) (fun k=>[(0,.d (.sl (cW .i64 (l.take k))))]) (fun _=>[]) (TrimI B9 l) (fun k=>k) l.length ⟨Nat.le_refl _,by rw [List.take_length]⟩ ⟨by rw [List.take_length];rfl,trivial⟩ trivial ?_;intro k hI;have hk:=hI.1;have hlen:(l.take k).length=k:=by rw [List.length_take];omega
 have hL:((cW .i64 (l.take k)).length:Int)=k:=by rw [cW_len,hlen]
 conv=>whnf
 refine Br.mk (fun h=>?_) (fun h=>?_)
 ·have hk0:0 < k:=by simp only [decide_eq_true_eq] at h;omega
  conv=>whnf
  refine Wr.i64 (y:=((k - 1:Nat):Int)) (by omega) (by omega) (by omega) ?_;conv=>whnf
  refine ⟨⟨by rw [cW_len,hlen];omega,cW_sz _ _⟩,?_⟩;conv=>whnf
  have hk1:k - 1 < l.length:=by omega
  refine ⟨_,cW_get (by rw [hlen];show k - 1 < k;omega),?_⟩;have ge:(l.take k)[k - 1]'(by rw [hlen];omega)=l[k - 1]:=by simp
  conv=>whnf
  refine Br.mk (fun h2=>?_) (fun h2=>?_)
  ·have h2:l[k - 1]=0:=by rw [←ge];simpa using h2
   conv=>whnf
   refine Wr.i64 (y:=((k - 1:Nat):Int)) (by omega) (by omega) (by omega) ?_;conv=>whnf
   refine ⟨⟨by rw [cW_len];omega,cW_sz _ _⟩,?_⟩;conv=>whnf
   refine ⟨k - 1,⟨by omega,?_⟩,by omega,⟨?_,trivial⟩,trivial⟩
   ·rw [←vl_take_zero hk1 h2,show k - 1+1=k by omega];exact hI.2
   ·show AV.d (.sl (List.drop 0 (List.take (k - 1) (cW .i64 (l.take k)))))=_;rw [List.drop_zero,cW_take,List.take_take,show min (k - 1) k=k - 1 by omega]
  ·have h2:l[k - 1]≠0:=by rw [←ge];simpa using h2
   conv=>whnf
   refine ⟨?_,trivial,rfl⟩;rw [hI.done b9 hl fun j hj e=>by subst e;exact h2]
 ·have hk0:k=0:=by simp only [decide_eq_false_iff_not] at h;omega
  conv=>whnf
  refine ⟨?_,trivial,rfl⟩;rw [hI.done b9 hl fun j hj e=>by omega]
theorem fn_sCmpL (a b:List Nat) (ha:Cn B9 a) (hb:Cn B9 b) (hn:a.length≤1000000000000000) (hm:b.length≤1000000000000000) :
  Fn Tryz.prog 77 [.d (.sl (cW .i64 a)),.d (.sl (cW .i64 b))] [] (I (cmpZ (vl B9 a) (vl B9 b))) []:=by
 have hA:((cW .i64 a).length:Int)=a.length:=by rw [cW_len]
 have hB:((cW .i64 b).length:Int)=b.length:=by rw [cW_len]
 refine Fn.intro (ks:=[0,1,4,5,10,15,20,31,40]) hty rfl rfl rfl rfl rfl ?_;conv=>whnf
 refine Br.mk (fun h=>?_) (fun h=>?_)
 ·have h:a.length≠b.length:=by
   intro e;rw [hA,hB,e] at h;simp at h
  conv=>whnf
  refine Br.mk (fun h2=>?_) (fun h2=>?_)
  ·have h2:a.length < b.length:=by simp only [decide_eq_true_eq] at h2;omega
   conv=>whnf
   exact ⟨by rw [cmpZ_lt (vl_lt_len b9 ha hb h2)],trivial,rfl⟩
  ·have h2:b.length < a.length:=by simp only [decide_eq_false_iff_not] at h2;omega
   conv=>whnf
   exact ⟨by rw [cmpZ_gt (vl_lt_len b9 hb ha h2)],trivial,rfl⟩
 ·have h:a.length=b.length:=by simp at h;rw [cW_len,cW_len] at h;omega
  conv=>whnf
  refine Wr.i64 (y:=(a.length:Int) - 1) (by omega) (by omega) (by omega) ?_;conv=>whnf
  refine VLoop.inv hty (S:=Nat) (fun k=>[(5,I ((k:Int) - 1)),(1,.d (.sl (cW .i64 b))),(0,.d (.sl (cW .i64 a)))]) (fun _=>[]) (fun k=>k≤a.length∧a.drop k=b.drop k) (fun k=>k) a.length ⟨Nat.le_refl _,by rw [List.drop_length,h,List.drop_length]⟩
   ⟨rfl,rfl,rfl,trivial⟩ trivial ?_
  intro k hI;obtain ⟨hk,hI⟩:=hI;conv=>whnf
  refine Br.mk (fun h2=>?_) (fun h2=>?_)
  ·have hk0:0 < k:=by simp only [decide_eq_true_eq] at h2;omega
   have hk1:k - 1 < a.length:=by omega
   have hk2:k - 1 < b.length:=by omega
   have hd:a.drop (k - 1+1)=b.drop (k - 1+1):=by rw [show k - 1+1=k by omega];exact hI
   conv=>whnf
   refine VDraw.go hmo hty 9 [] rfl ?_;conv=>whnf
   refine ⟨⟨⟨by omega,by omega⟩,cW_sz _ _⟩,?_⟩;conv=>whnf
   refine ⟨_,(by rw [show (((k:Int) - 1).toNat)=k - 1 by omega];exact cW_get hk1),?_⟩;conv=>whnf
   refine ⟨⟨⟨by omega,by omega⟩,cW_sz _ _⟩,?_⟩;conv=>whnf
   refine ⟨_,(by rw [show (((k:Int) - 1).toNat)=k - 1 by omega];exact cW_get hk2),?_⟩;conv=>whnf
   refine Br.mk (fun h3=>?_) (fun h3=>?_)
   ·have h3:a[k - 1]≠b[k - 1]:=by simp at h3;omega
    conv=>whnf
    refine VDraw.go hmo hty 9 [] rfl ?_;conv=>whnf
    refine ⟨⟨⟨by omega,by omega⟩,cW_sz _ _⟩,?_⟩;conv=>whnf
    refine ⟨_,(by rw [show (((k:Int) - 1).toNat)=k - 1 by omega];exact cW_get hk1),?_⟩;conv=>whnf
    refine ⟨⟨⟨by omega,by omega⟩,cW_sz _ _⟩,?_⟩;conv=>whnf
    refine ⟨_,(by rw [show (((k:Int) - 1).toNat)=k - 1 by omega];exact cW_get hk2),?_⟩;conv=>whnf
    refine Br.mk (fun h4=>?_) (fun h4=>?_)
    ·have h4:a[k - 1] < b[k - 1]:=by simp at h4;omega
     conv=>whnf
     exact ⟨by rw [cmpZ_lt (vl_cmp ha.1 hk1 hk2 hd h4)],trivial,rfl⟩
    ·have h4:b[k - 1] < a[k - 1]:=by simp at h4;omega
     conv=>whnf
     exact ⟨by rw [cmpZ_gt (vl_cmp hb.1 hk2 hk1 hd.symm h4)],trivial,rfl⟩
   ·have h3:a[k - 1]=b[k - 1]:=by simp at h3;omega
    conv=>whnf
    refine Wr.i64 (y:=((k - 1:Nat):Int) - 1) (by omega) (by omega) (by omega) ?_;conv=>whnf
    refine ⟨k - 1,⟨by omega,?_⟩,by omega,⟨rfl,rfl,rfl,trivial⟩,trivial⟩;rw [List.drop_eq_getElem_cons hk1,List.drop_eq_getElem_cons hk2,hd,h3]
  ·have hk0:k=0:=by simp only [decide_eq_false_iff_not] at h2;omega
   subst hk0;have e:a=b:=by simpa using hI
   conv=>whnf
   exact ⟨by rw [e,cmpZ_eq],trivial,rfl⟩
theorem fn_sCmp (a b:Nat) (ha:bl a≤1000000000000000) (hb:bl b≤1000000000000000):Fn Tryz.prog 77 [nS a,nS b] [] (I (cmpZ a b)) []:=by
 have:=fn_sCmpL (dg B9 a) (dg B9 b) (cn_dg b9 a) (cn_dg b9 b) (Nat.le_trans (dg_len b9 a) ha) (Nat.le_trans (dg_len b9 b) hb)
 rwa [vl_dg b9,vl_dg b9] at this
theorem fn_sDigit (l:List Nat) (i:Nat) (hn:l.length≤1000000000000000) (hi:i≤1000000000000000):Fn Tryz.prog 133 [.d (.sl (cW .i64 l)),I i] [] (I (l.getD i 0:Nat)) []:=by
 have hL:((cW .i64 l).length:Int)=l.length:=by rw [cW_len]
 refine Fn.intro (ks:=[0,1,4,8]) hty rfl rfl rfl rfl rfl ?_;conv=>whnf
 refine Br.mk (fun h=>?_) (fun h=>?_)
 ·have h:i < l.length:=by simp only [decide_eq_true_eq] at h;omega
  conv=>whnf
  refine ⟨⟨⟨by omega,by omega⟩,cW_sz _ _⟩,?_⟩;conv=>whnf
  refine ⟨_,cW_at (i:=i) h,?_⟩;conv=>whnf
  exact ⟨rfl,trivial,rfl⟩
 ·have h:¬i < l.length:=by simp only [decide_eq_false_iff_not] at h;omega
  rw [show l.getD i 0=0 by rw [gD,List.getElem?_eq_none (by omega)];rfl];conv=>whnf
  exact ⟨rfl,trivial,rfl⟩
theorem fn_sNat (n:Nat) (hn:n≤9223372036854775807):Fn Tryz.prog 73 [I n] [] (.ls 0 0 (dg B9 n).length 1) [(0,.row true 1 (cW .i64 (dg B9 n)))]:=by
 refine Fn.intro (ks:=[0,2,3,6]) hty rfl rfl rfl rfl rfl ?_;conv=>whnf
 refine VLoop.ren 4 11 rfl ?_;refine VLoop.inv hty (S:=List Nat×Nat) (fun s=>[(3,.ls 11 0 s.1.length 1),(0,I s.2)]) (fun s=>[(11,.row true 1 (cW .i64 s.1))]) (fun s=>NatI B9 n s∧s.2≤n) (fun s=>s.2) ([],n) ⟨NatI.init n,Nat.le_refl _⟩ ⟨rfl,rfl,trivial⟩ ⟨rfl,trivial⟩ ?_;rintro s ⟨hI,hs⟩;obtain ⟨r,er⟩:∃x,s.1=x:=⟨_,rfl⟩;obtain ⟨m,em⟩:∃x,s.2=x:=⟨_,rfl⟩;have hI:NatI B9 n (r,m):=by rw [←er,←em];exact hI
 rw [em] at hs;rw [er,em];conv=>whnf
 refine Br.mk (fun h=>?_) (fun h=>?_)
 ·have h:0 < m:=by simp only [decide_eq_true_eq] at h;omega
  conv=>whnf
  have hlen:r.length≤63:=by
   have h1:vl B9 r+B9 ^ r.length*m=n:=hI.2.1;have h2:2 ^ r.length≤B9 ^ r.length:=Nat.pow_le_pow_left (by decide) _;have h3:B9 ^ r.length*1≤B9 ^ r.length*m:=Nat.mul_le_mul_left _ h;apply Nat.le_of_not_lt;intro h4;have h5:2 ^ 64≤2 ^ r.length:=Nat.pow_le_pow_right (by decide) h4;have h6:(2:Nat) ^ 64=18446744073709551616:=by decide
   omega
  obtain ⟨hI2,hI3⟩:=hI.step b9 h;simp only at hI2 hI3;obtain ⟨d,ed⟩:∃d,m % B9=d:=⟨_,rfl⟩;obtain ⟨q,eq⟩:∃d,m / B9=d:=⟨_,rfl⟩;rw [ed,eq] at hI2;rw [eq] at hI3;have ed':Int.tmod (m:Int) 1000000000=(d:Int):=by rw [←ed];exact (Int.ofNat_tmod m 1000000000).symm
  have eq':Int.tdiv (m:Int) 1000000000=(q:Int):=by rw [←eq];exact (Int.ofNat_tdiv m 1000000000).symm
  refine ⟨by decide,?_⟩;rw [ed'];conv=>whnf
  refine Sub.full rfl ?_;conv=>whnf
  refine Sub.full (by rw [cW_len]) ?_;conv=>whnf
  refine ⟨by show (r.length+1)*8≤_;omega,?_⟩;conv=>whnf
  refine ⟨by decide,?_⟩;conv=>whnf
  refine Wr.i64 (y:=(q:Int)) eq' (by omega) (by omega) ?_;conv=>whnf
  refine ⟨(r++[d],q),⟨hI2,by show q≤n;omega⟩,hI3,⟨?_,rfl,trivial⟩,?_,trivial⟩
  ·show AV.ls 11 0 (r.length+1) 1=AV.ls 11 0 (r++[d]).length 1;rw [List.length_append];rfl
  ·show Ob.row true 1 (cW .i64 r++cW .i64 [d])=_;rw [cW_append]
 ·have h:m=0:=by simp only [decide_eq_false_iff_not] at h;omega
  have e:=hI.done b9 h;simp only at e;rw [e];conv=>whnf
  exact ⟨⟨rfl,rfl,rfl,rfl,rfl,rfl⟩,[],rfl,trivial,rfl⟩
theorem fn_sSmall (n:Nat) (hs:bl n≤1000000000000000):Fn Tryz.prog 134 [nS n] [] (.tup [I ((if (dg B9 n).length≤2 then n else 0:Nat):Int),B (decide ((dg B9 n).length≤2))]) []:=by
 have hL:((cW .i64 (dg B9 n)).length:Int)=(dg B9 n).length:=by rw [cW_len]
 have hd:=dg_len b9 n;refine Fn.intro (ks:=[0,2,3,6]) hty rfl rfl rfl rfl rfl ?_;conv=>whnf
 refine Br.mk (fun h=>?_) (fun h=>?_)
 ·have h:¬(dg B9 n).length≤2:=by simp only [decide_eq_true_eq] at h;omega
  rw [decide_eq_false h,if_neg h];conv=>whnf
  exact ⟨rfl,rfl,trivial,rfl⟩
 ·have h:(dg B9 n).length≤2:=by simp only [decide_eq_false_iff_not] at h;omega
  rw [decide_eq_true h,if_pos h];have hx:(dg B9 n).getD 0 0 < 1000000000:=getD_lt (B:=B9) (fun x h=>dg_lt b9 h) (by decide) _;have hy:(dg B9 n).getD 1 0 < 1000000000:=getD_lt (B:=B9) (fun x h=>dg_lt b9 h) (by decide) _;have hv:n=(dg B9 n).getD 0 0+1000000000*(dg B9 n).getD 1 0:=by
   have h1:=vl_take_getD (B:=B9) (dg B9 n) 0;have h2:=vl_take_getD (B:=B9) (dg B9 n) 1;rw [List.take_of_length_le (by omega),vl_dg b9,h1,List.take_zero] at h2;simpa [vl] using h2
  obtain ⟨x,ex⟩:∃x,(dg B9 n).getD 0 0=x:=⟨_,rfl⟩;obtain ⟨y,ey⟩:∃x,(dg B9 n).getD 1 0=x:=⟨_,rfl⟩;have c1:=fn_sDigit (dg B9 n) 0 (by omega) (by omega);have c2:=fn_sDigit (dg B9 n) 1 (by omega) (by omega);rw [ex] at c1 hx;rw [ey] at c2 hy;rw [ex,ey] at hv;conv=>whnf
  refine VCall.of_data c1 (nd _) ?_;conv=>whnf
  refine VCall.of_data c2 (nd _) ?_;conv=>whnf
  refine Wr.i64 (y:=(1000000000:Int)*(y:Int)) rfl (by omega) (by omega) ?_;conv=>whnf
  refine Wr.i64 (y:=(n:Int)) (by omega) (by omega) (by omega) ?_;conv=>whnf
  exact ⟨rfl,rfl,trivial,rfl⟩
theorem fn_sAddL (a b:Nat) (ha:bl a≤1000000000000) (hb:bl b≤1000000000000) :
  Fn Tryz.prog 111 [nS a,nS b] [] (.ls 0 0 (dg B9 (a+b)).length 1) [(0,.row true 1 (cW .i64 (dg B9 (a+b))))]:=by
 have hla:((cW .i64 (dg B9 a)).length:Int)=(dg B9 a).length:=by rw [cW_len]
 have hlb:((cW .i64 (dg B9 b)).length:Int)=(dg B9 b).length:=by rw [cW_len]
 have ga:=dg_len b9 a;have gb:=dg_len b9 b;have la:∀x,x∈dg B9 a→x < B9:=fun x h=>dg_lt b9 h;have lb:∀x,x∈dg B9 b→x < B9:=fun x h=>dg_lt b9 h;refine Fn.intro (ks:=[0,1,4,5,6,7,8,23]) hty rfl rfl rfl rfl rfl ?_;conv=>whnf
 refine VLoop.ren 9 39 rfl ?_;refine VLoop.inv hty (S:=List Nat×Nat) (fun s=>[(7,I s.1.length),(6,I s.2),(5,.ls 39 0 s.1.length 1),(1,nS b),(0,nS a)]) (fun s=>[(39,.row true 1 (cW .i64 s.1))]) (SumI B9 (dg B9 a) (dg B9 b))
  (fun s=>max (dg B9 a).length (dg B9 b).length+1 - s.1.length) ([],0) (SumI.init _ _) ⟨rfl,rfl,rfl,rfl,rfl,trivial⟩ ⟨rfl,trivial⟩ ?_
 intro s hI;obtain ⟨r,er⟩:∃x,s.1=x:=⟨_,rfl⟩;obtain ⟨c,ec⟩:∃x,s.2=x:=⟨_,rfl⟩;have hI:SumI B9 (dg B9 a) (dg B9 b) (r,c):=by rw [←er,←ec];exact hI
 have hc1:c≤1:=hI.2.1;rw [er,ec];conv=>whnf
 refine Br.mk (fun h=>?_) (fun h=>?_)
 ·skip
  have hc:r.length < (dg B9 a).length∨r.length < (dg B9 b).length∨0 < c:=.inl (by simp only [decide_eq_true_eq] at h;omega);obtain ⟨hle,hst⟩:=hI.step b9 la lb hc;simp only at hle hst;have hx:(dg B9 a).getD r.length 0 < 1000000000:=getD_lt (B:=B9) la (by decide) _;have hy:(dg B9 b).getD r.length 0 < 1000000000:=getD_lt (B:=B9) lb (by decide) _;have c1:=fn_sDigit (dg B9 a) r.length (by omega) (by omega);have c2:=fn_sDigit (dg B9 b) r.length (by omega) (by omega);obtain ⟨x,ex⟩:∃x,(dg B9 a).getD r.length 0=x:=⟨_,rfl⟩;obtain ⟨y,ey⟩:∃x,(dg B9 b).getD r.length 0=x:=⟨_,rfl⟩;rw [ex] at c1 hx hst;rw [ey] at c2 hy hst;obtain ⟨n,en⟩:∃n,c+x+y=n:=⟨_,rfl⟩;rw [en] at hst;obtain ⟨d,ed⟩:∃d,n % B9=d:=⟨_,rfl⟩;obtain ⟨q,eq⟩:∃d,n / B9=d:=⟨_,rfl⟩;rw [ed,eq] at hst;have ed':Int.tmod (n:Int) 1000000000=(d:Int):=by rw [←ed];exact (Int.ofNat_tmod n 1000000000).symm
  have eq':Int.tdiv (n:Int) 1000000000=(q:Int):=by rw [←eq];exact (Int.ofNat_tdiv n 1000000000).symm
  have hq:q≤1:=hst.2.1;conv=>whnf
  refine VCall.of_data c1 (nd _) ?_;conv=>whnf
  refine VCall.of_data c2 (nd _) ?_;conv=>whnf
  refine Wr.i64 (y:=((x+y:Nat):Int)) rfl (by omega) (by omega) ?_;conv=>whnf
  refine Wr.i64 (y:=(n:Int)) (by omega) (by omega) (by omega) ?_;conv=>whnf
  refine ⟨by decide,?_⟩;rw [ed'];conv=>whnf
  refine Sub.full rfl ?_;conv=>whnf
  refine Sub.full (by rw [cW_len]) ?_;conv=>whnf
  refine ⟨by show (r.length+1)*8≤_;omega,?_⟩;conv=>whnf
  refine ⟨by decide,?_⟩;conv=>whnf
  refine Wr.i64 (y:=(q:Int)) eq' (by omega) (by omega) ?_;conv=>whnf
  refine Wr.i64 (y:=((r.length+1:Nat):Int)) rfl (by omega) (by omega) ?_;conv=>whnf
  refine ⟨(r++[d],q),hst,by show _ - (r++[d]).length < _;rw [List.length_append,List.length_singleton];omega,⟨?_,rfl,?_,rfl,rfl,trivial⟩,?_,trivial⟩
  ·show AV.d (.s (.int .i64 ((r.length+1:Nat):Int)))=I ((r++[d]).length:Nat);rw [List.length_append];rfl
  ·show AV.ls 39 0 (r.length+1) 1=AV.ls 39 0 (r++[d]).length 1;rw [List.length_append];rfl
  ·show Ob.row true 1 (cW .i64 r++cW .i64 [d])=_;rw [cW_append]
 ·have h:¬r.length < (dg B9 a).length:=by simp only [decide_eq_false_iff_not] at h;omega
  conv=>whnf
  refine Br.mk (fun h2=>?_) (fun h2=>?_)
  ·skip
   have hc:r.length < (dg B9 a).length∨r.length < (dg B9 b).length∨0 < c:=.inr (.inl (by simp only [decide_eq_true_eq] at h2;omega));obtain ⟨hle,hst⟩:=hI.step b9 la lb hc;simp only at hle hst;have hx:(dg B9 a).getD r.length 0 < 1000000000:=getD_lt (B:=B9) la (by decide) _;have hy:(dg B9 b).getD r.length 0 < 1000000000:=getD_lt (B:=B9) lb (by decide) _;have c1:=fn_sDigit (dg B9 a) r.length (by omega) (by omega);have c2:=fn_sDigit (dg B9 b) r.length (by omega) (by omega);obtain ⟨x,ex⟩:∃x,(dg B9 a).getD r.length 0=x:=⟨_,rfl⟩;obtain ⟨y,ey⟩:∃x,(dg B9 b).getD r.length 0=x:=⟨_,rfl⟩;rw [ex] at c1 hx hst;rw [ey] at c2 hy hst;obtain ⟨n,en⟩:∃n,c+x+y=n:=⟨_,rfl⟩;rw [en] at hst;obtain ⟨d,ed⟩:∃d,n % B9=d:=⟨_,rfl⟩;obtain ⟨q,eq⟩:∃d,n / B9=d:=⟨_,rfl⟩;rw [ed,eq] at hst;have ed':Int.tmod (n:Int) 1000000000=(d:Int):=by rw [←ed];exact (Int.ofNat_tmod n 1000000000).symm
   have eq':Int.tdiv (n:Int) 1000000000=(q:Int):=by rw [←eq];exact (Int.ofNat_tdiv n 1000000000).symm
   have hq:q≤1:=hst.2.1;conv=>whnf
   refine VCall.of_data c1 (nd _) ?_;conv=>whnf
   refine VCall.of_data c2 (nd _) ?_;conv=>whnf
   refine Wr.i64 (y:=((x+y:Nat):Int)) rfl (by omega) (by omega) ?_;conv=>whnf
   refine Wr.i64 (y:=(n:Int)) (by omega) (by omega) (by omega) ?_;conv=>whnf
   refine ⟨by decide,?_⟩;rw [ed'];conv=>whnf
   refine Sub.full rfl ?_;conv=>whnf
   refine Sub.full (by rw [cW_len]) ?_;conv=>whnf
   refine ⟨by show (r.length+1)*8≤_;omega,?_⟩;conv=>whnf
   refine ⟨by decide,?_⟩;conv=>whnf
   refine Wr.i64 (y:=(q:Int)) eq' (by omega) (by omega) ?_;conv=>whnf
   refine Wr.i64 (y:=((r.length+1:Nat):Int)) rfl (by omega) (by omega) ?_;conv=>whnf
   refine ⟨(r++[d],q),hst,by show _ - (r++[d]).length < _;rw [List.length_append,List.length_singleton];omega,⟨?_,rfl,?_,rfl,rfl,trivial⟩,?_,trivial⟩
   ·show AV.d (.s (.int .i64 ((r.length+1:Nat):Int)))=I ((r++[d]).length:Nat);rw [List.length_append];rfl
   ·show AV.ls 39 0 (r.length+1) 1=AV.ls 39 0 (r++[d]).length 1;rw [List.length_append];rfl
   ·show Ob.row true 1 (cW .i64 r++cW .i64 [d])=_;rw [cW_append]
  ·have h2:¬r.length < (dg B9 b).length:=by simp only [decide_eq_false_iff_not] at h2;omega
   conv=>whnf
   refine Br.mk (fun h3=>?_) (fun h3=>?_)
   ·skip
    have hc:r.length < (dg B9 a).length∨r.length < (dg B9 b).length∨0 < c:=.inr (.inr (by simp only [decide_eq_true_eq] at h3;omega));obtain ⟨hle,hst⟩:=hI.step b9 la lb hc;simp only at hle hst;have hx:(dg B9 a).getD r.length 0 < 1000000000:=getD_lt (B:=B9) la (by decide) _;have hy:(dg B9 b).getD r.length 0 < 1000000000:=getD_lt (B:=B9) lb (by decide) _;have c1:=fn_sDigit (dg B9 a) r.length (by omega) (by omega);have c2:=fn_sDigit (dg B9 b) r.length (by omega) (by omega);obtain ⟨x,ex⟩:∃x,(dg B9 a).getD r.length 0=x:=⟨_,rfl⟩;obtain ⟨y,ey⟩:∃x,(dg B9 b).getD r.length 0=x:=⟨_,rfl⟩;rw [ex] at c1 hx hst;rw [ey] at c2 hy hst;obtain ⟨n,en⟩:∃n,c+x+y=n:=⟨_,rfl⟩;rw [en] at hst;obtain ⟨d,ed⟩:∃d,n % B9=d:=⟨_,rfl⟩;obtain ⟨q,eq⟩:∃d,n / B9=d:=⟨_,rfl⟩;rw [ed,eq] at hst;have ed':Int.tmod (n:Int) 1000000000=(d:Int):=by rw [←ed];exact (Int.ofNat_tmod n 1000000000).symm
    have eq':Int.tdiv (n:Int) 1000000000=(q:Int):=by rw [←eq];exact (Int.ofNat_tdiv n 1000000000).symm
    have hq:q≤1:=hst.2.1;conv=>whnf
    refine VCall.of_data c1 (nd _) ?_;conv=>whnf
    refine VCall.of_data c2 (nd _) ?_;conv=>whnf
    refine Wr.i64 (y:=((x+y:Nat):Int)) rfl (by omega) (by omega) ?_;conv=>whnf
    refine Wr.i64 (y:=(n:Int)) (by omega) (by omega) (by omega) ?_;conv=>whnf
    refine ⟨by decide,?_⟩;rw [ed'];conv=>whnf
    refine Sub.full rfl ?_;conv=>whnf
    refine Sub.full (by rw [cW_len]) ?_;conv=>whnf
    refine ⟨by show (r.length+1)*8≤_;omega,?_⟩;conv=>whnf
    refine ⟨by decide,?_⟩;conv=>whnf
    refine Wr.i64 (y:=(q:Int)) eq' (by omega) (by omega) ?_;conv=>whnf
    refine Wr.i64 (y:=((r.length+1:Nat):Int)) rfl (by omega) (by omega) ?_;conv=>whnf
    refine ⟨(r++[d],q),hst,by show _ - (r++[d]).length < _;rw [List.length_append,List.length_singleton];omega,⟨?_,rfl,?_,rfl,rfl,trivial⟩,?_,trivial⟩
    ·show AV.d (.s (.int .i64 ((r.length+1:Nat):Int)))=I ((r++[d]).length:Nat);rw [List.length_append];rfl
    ·show AV.ls 39 0 (r.length+1) 1=AV.ls 39 0 (r++[d]).length 1;rw [List.length_append];rfl
    ·show Ob.row true 1 (cW .i64 r++cW .i64 [d])=_;rw [cW_append]
   ·have h3:¬0 < c:=by simp only [decide_eq_false_iff_not] at h3;omega
    have e:r=dg B9 (a+b):=hI.done b9 (by rintro (h4 | h4 | h4);exact h h4;exact h2 h4;exact h3 h4);rw [←e];conv=>whnf
    exact ⟨⟨rfl,rfl,rfl,rfl,rfl,rfl⟩,[],rfl,trivial,rfl⟩
end Go.V
namespace Go.V
open Go.Proofs
set_option maxRecDepth 10000
set_option maxHeartbeats 2000000
def SSubI (a b:List Nat) (s:List Nat×Nat):Prop:=s.1.length≤a.length∧(∀x,x∈s.1→x < B9)∧s.2≤1∧vl B9 s.1+vl B9 (b.take s.1.length)=vl B9 (a.take s.1.length)+B9 ^ s.1.length*s.2
theorem fn_sLess (a b:Nat) (ha:bl a≤1000000000000) (hle:b≤a):Fn Tryz.prog 112 [nS a,nS b] [] (nS (a - b)) []:=by
 have hla:((cW .i64 (dg B9 a)).length:Int)=(dg B9 a).length:=by rw [cW_len]
 have ga:=dg_len b9 a;have hba:(dg B9 b).length≤(dg B9 a).length:=dg_len_le b9 (Nat.lt_of_le_of_lt hle (lt_of_len b9 a));have la:∀x,x∈dg B9 a→x < B9:=fun x h=>dg_lt b9 h;have lb:∀x,x∈dg B9 b→x < B9:=fun x h=>dg_lt b9 h;refine Fn.intro (ks:=[0,1,4,5,6,7,8,11,12,13,26]) hty rfl rfl rfl rfl rfl ?_;conv=>whnf
 refine VLoop.ren 9 32 rfl ?_;refine VLoop.inv hty (S:=List Nat×Nat) (fun s=>[(12,I s.1.length),(11,I (dg B9 a).length),(6,I s.2),(5,.ls 32 0 s.1.length 1),(1,nS b),(0,nS a)]) (fun s=>[(32,.row true 1 (cW .i64 s.1))]) (SSubI (dg B9 a) (dg B9 b))
  (fun s=>(dg B9 a).length - s.1.length) ([],0) ⟨Nat.zero_le _,by simp,Nat.zero_le _,by simp [vl]⟩ ⟨rfl,by show AV.d (.s (.int .i64 ((cW .i64 (dg B9 a)).length:Int)))=_;rw [cW_len],rfl,rfl,rfl,rfl,trivial⟩ ⟨rfl,trivial⟩ ?_
 rintro s ⟨hk,hd,hc,hv⟩;obtain ⟨r,er⟩:∃x,s.1=x:=⟨_,rfl⟩;obtain ⟨c,ec⟩:∃x,s.2=x:=⟨_,rfl⟩;rw [er] at hk hd hv;rw [ec] at hc hv;rw [er,ec];conv=>whnf
 refine Br.mk (fun h=>?_) (fun h=>?_)
 ·have h:r.length < (dg B9 a).length:=by simp only [decide_eq_true_eq] at h;omega
  have hx:(dg B9 a).getD r.length 0 < 1000000000:=getD_lt (B:=B9) la (by decide) _;have hy:(dg B9 b).getD r.length 0 < 1000000000:=getD_lt (B:=B9) lb (by decide) _;have c2:=fn_sDigit (dg B9 b) r.length (by omega) (by omega);obtain ⟨x,ex⟩:∃x,(dg B9 a).getD r.length 0=x:=⟨_,rfl⟩;obtain ⟨y,ey⟩:∃x,(dg B9 b).getD r.length 0=x:=⟨_,rfl⟩;rw [ex] at hx;rw [ey] at c2 hy;have hstep:=fun {d c'}=>sub_step (B:=B9) (d:=d) (c':=c') hv;rw [ex,ey] at hstep;conv=>whnf
  refine VDraw.go hmo hty 11 [] rfl ?_;conv=>whnf
  refine ⟨⟨⟨by omega,by omega⟩,cW_sz _ _⟩,?_⟩;conv=>whnf
  refine ⟨_,cW_as (i:=r.length) h ex,?_⟩;conv=>whnf
  refine QCall.of_data c2 (nd _) ?_;conv=>whnf
  refine Wr.i64 (y:=(x:Int) - y) rfl (by omega) (by omega) ?_;conv=>whnf
  refine Wr.i64 (y:=(x:Int) - y - c) rfl (by omega) (by omega) ?_;conv=>whnf
  refine Br.mk (fun h3=>?_) (fun h3=>?_)
  ·have h3:(x:Int) - y - c < 0:=by simpa only [decide_eq_true_eq] using h3
   obtain ⟨d,ed⟩:∃d:Nat,(x:Int) - y - c+1000000000=d:=⟨((x:Int) - y - c+1000000000).toNat,by omega⟩;have hdB:d < B9:=by show d < 1000000000;omega
   have hst:=hstep (d:=d) (c':=1) (by show _=x+1000000000*1;omega);conv=>whnf
   refine Wr.i64 (y:=(d:Int)) (by omega) (by omega) (by omega) ?_;conv=>whnf
   refine Sub.full rfl ?_;conv=>whnf
   refine Sub.full (by rw [cW_len]) ?_;conv=>whnf
   refine ⟨by show (r.length+1)*8≤_;omega,?_⟩;conv=>whnf
   refine Wr.i64 (y:=((r.length+1:Nat):Int)) rfl (by omega) (by omega) ?_;conv=>whnf
   refine ⟨(r++[d],1),⟨by show (r++[d]).length≤_;rw [List.length_append,List.length_singleton];omega,snoc_lt hd hdB,by omega,by show _=_+B9 ^ (r++[d]).length*_;rw [List.length_append];exact hst⟩,by show _ - (r++[d]).length < _;rw [List.length_append,List.length_singleton];omega,⟨?_,rfl,rfl,?_,rfl,rfl,trivial⟩,?_,trivial⟩
   ·show AV.d (.s (.int .i64 ((r.length+1:Nat):Int)))=I ((r++[d]).length:Nat);rw [List.length_append];rfl
   ·show AV.ls 32 0 (r.length+1) 1=AV.ls 32 0 (r++[d]).length 1;rw [List.length_append];rfl
   ·show Ob.row true 1 (cW .i64 r++cW .i64 [d])=_;rw [cW_append]
  ·have h3:¬(x:Int) - y - c < 0:=by simpa only [decide_eq_false_iff_not] using h3
   obtain ⟨d,ed⟩:∃d:Nat,(x:Int) - y - c=d:=⟨((x:Int) - y - c).toNat,by omega⟩;have hdB:d < B9:=by show d < 1000000000;omega
   have hst:=hstep (d:=d) (c':=0) (by omega);rw [ed];conv=>whnf
   refine Sub.full rfl ?_;conv=>whnf
   refine Sub.full (by rw [cW_len]) ?_;conv=>whnf
   refine ⟨by show (r.length+1)*8≤_;omega,?_⟩;conv=>whnf
   refine Wr.i64 (y:=((r.length+1:Nat):Int)) rfl (by omega) (by omega) ?_;conv=>whnf
   refine ⟨(r++[d],0),⟨by show (r++[d]).length≤_;rw [List.length_append,List.length_singleton];omega,snoc_lt hd hdB,by omega,by show _=_+B9 ^ (r++[d]).length*_;rw [List.length_append];exact hst⟩,by show _ - (r++[d]).length < _;rw [List.length_append,List.length_singleton];omega,⟨?_,rfl,rfl,?_,rfl,rfl,trivial⟩,?_,trivial⟩
   ·show AV.d (.s (.int .i64 ((r.length+1:Nat):Int)))=I ((r++[d]).length:Nat);rw [List.length_append];rfl
   ·show AV.ls 32 0 (r.length+1) 1=AV.ls 32 0 (r++[d]).length 1;rw [List.length_append];rfl
   ·show Ob.row true 1 (cW .i64 r++cW .i64 [d])=_;rw [cW_append]
 ·have hk1:r.length=(dg B9 a).length:=by simp only [decide_eq_false_iff_not] at h;omega
  rw [hk1,List.take_of_length_le (by omega),List.take_of_length_le (by omega),vl_dg b9,vl_dg b9] at hv;have hlt:=vl_lt hd;rw [hk1] at hlt;have h0:c=0:=by
   rcases Nat.eq_zero_or_pos c with h | h
   ·exact h
   ·have:c=1:=by omega
    rw [this] at hv;omega
  have hvL:vl B9 r=a - b:=by rw [h0] at hv;omega
  have hcall:=fn_sTrim r hd (by omega);rw [hvL] at hcall;conv=>whnf
  refine VCall.frz 32 hcall rfl ⟨⟨rfl,rfl,?_,?_⟩,trivial⟩ (nd _) ?_
  ·rw [cW_len];omega
  ·rw [List.drop_zero,List.take_of_length_le (by rw [cW_len];omega)]
  conv=>whnf
  exact ⟨rfl,trivial,rfl⟩
def SMulI (a b:List Nat) (s:List Nat×Nat):Prop:=s.1.length=a.length+b.length∧(∀x,x∈s.1→x < B9)∧s.2≤a.length∧vl B9 s.1=vl B9 (a.take s.2)*vl B9 b∧∀j,s.2+b.length≤j→s.1.getD j 0=0
def SMulJ (a b:List Nat) (i:Nat) (s:List Nat×Nat×Nat):Prop:=s.1.length=a.length+b.length∧(∀x,x∈s.1→x < B9)∧s.2.1≤b.length∧s.2.2 < B9 ∧
 vl B9 s.1+B9 ^ (i+s.2.1)*s.2.2=vl B9 (a.take i)*vl B9 b+B9 ^ i*(a.getD i 0*vl B9 (b.take s.2.1))∧∀j,i+b.length≤j→s.1.getD j 0=0
theorem SMulJ.step {a b:List Nat} {i:Nat} {s:List Nat×Nat×Nat} (h:SMulJ a b i s) (ha:∀x,x∈a→x < B9) (hb:∀x,x∈b→x < B9) (hi:i < a.length) (hk:s.2.1 < b.length) :
  let t:=s.2.2+(a.getD i 0*b.getD s.2.1 0+s.1.getD (i+s.2.1) 0)
  t < B9*B9∧SMulJ a b i (s.1.set (i+s.2.1) (t % B9),s.2.1+1,t / B9):=by
 obtain ⟨h1,h2,h3,h4,h5,h6⟩:=h;have hlt:i+s.2.1 < s.1.length:=by omega
 have hbd:=mul_bound (getD_lt ha (by decide) i) (getD_lt hb (by decide) s.2.1) (getD_lt h2 (by decide) (i+s.2.1)) h4;refine ⟨hbd.1,by rw [List.length_set];exact h1,set_lt h2 (Nat.mod_lt _ (by decide)),hk,hbd.2,?_,fun j hj=>?_⟩
 ·have:=mul_step hlt h5;rw [←getD_get hlt] at this;exact this
 ·show (s.1.set _ _).getD j 0=0;rw [getD_set_ne (by omega)];exact h6 j hj
theorem SMulJ.last {a b:List Nat} {i c:Nat} {O:List Nat} (h:SMulJ a b i (O,b.length,c)) (hi:i < a.length):SMulI a b (O.set (i+b.length) c,i+1):=by
 obtain ⟨h1,h2,h3,h4,h5,h6⟩:=h;simp only at h1 h2 h4 h5 h6;have hlt:i+b.length < O.length:=by omega
 refine ⟨by rw [List.length_set];exact h1,set_lt h2 h4,hi,?_,fun j hj=>?_⟩
 ·show vl B9 (O.set _ _)=_;rw [mul_last hlt (by rw [←getD_get hlt];exact h6 _ (Nat.le_refl _)) h5,vl_take_getD,List.take_length,Nat.add_mul,Nat.mul_assoc]
 ·show (O.set _ _).getD j 0=0;rw [getD_set_ne (by simp only at hj;omega)];exact h6 j (by simp only at hj;omega)
theorem fn_sMulL (a b:List Nat) (ha:∀x,x∈a→x < B9) (hb:∀x,x∈b→x < B9) (hn:a.length≤1000000000000) (hm:b.length≤1000000000000) :
  Fn Tryz.prog 96 [.d (.sl (cW .i64 a)),.d (.sl (cW .i64 b))] [] (nS (vl B9 a*vl B9 b)) []:=by
 have hA:((cW .i64 a).length:Int)=a.length:=by rw [cW_len]
 have hB:((cW .i64 b).length:Int)=b.length:=by rw [cW_len]
 refine Fn.intro (ks:=[0,1,4,5,6,7,8,9,17,18,19,22,23,24]) hty rfl rfl rfl rfl rfl ?_;conv=>whnf
 refine Wr.i64 (y:=((a.length+b.length:Nat):Int)) (by omega) (by omega) (by omega) ?_;conv=>whnf
 refine ⟨⟨by omega,by omega,by show ((a.length+b.length:Nat):Int)*((8:Nat):Int)≤_;omega,by omega⟩,?_⟩;conv=>whnf
 refine VLoop.inv hty (S:=List Nat×Nat) (fun s=>[(18,I s.2),(17,I a.length),(5,.ls 15 0 (a.length+b.length) 1),(1,.d (.sl (cW .i64 b))),(0,.d (.sl (cW .i64 a)))])
  (fun s=>[(15,.row true 1 (cW .i64 s.1))]) (SMulI a b) (fun s=>a.length - s.2) (List.replicate (a.length+b.length) 0,0)
  ⟨by simp,fun x hx=>by rw [(List.mem_replicate.1 hx).2];decide,Nat.zero_le _,by simp [vl_zeros,vl],fun j _=>by simp [gD,List.getElem?_replicate];split <;> rfl⟩
  ⟨rfl,by show AV.d (.s (.int .i64 ((cW .i64 a).length:Int)))=_;rw [cW_len],rfl,rfl,rfl,trivial⟩
  ⟨by show Ob.row true 1 (List.replicate ((a.length+b.length:Nat):Int).toNat [.s (.int .i64 0)])=_;rw [show ((a.length+b.length:Nat):Int).toNat=a.length+b.length from rfl,cW_rep],trivial⟩ ?_
 intro s hI;obtain ⟨i,ei⟩:∃x,s.2=x:=⟨_,rfl⟩;conv=>whnf
 refine Br.mk (fun h2=>?_) (fun h2=>?_)
 ·have hk1:i < a.length:=by simp only [decide_eq_true_eq] at h2;omega
  obtain ⟨g1,g2,g3,g4,g5⟩:=hI;rw [ei] at g3 g4 g5;rw [ei];conv=>whnf
  refine VLoop.inv hty (S:=List Nat×Nat×Nat) (fun q=>[(23,I q.2.1),(22,I b.length),(7,I q.2.2),(6,I i),(18,I i),(17,I a.length),(5,.ls 15 0 (a.length+b.length) 1),(1,.d (.sl (cW .i64 b))),(0,.d (.sl (cW .i64 a)))])
   (fun q=>[(15,.row true 1 (cW .i64 q.1))]) (SMulJ a b i) (fun q=>b.length - q.2.1) (s.1,0,0)
   ⟨g1,g2,Nat.zero_le _,(by show 0 < B9;decide),by simp [g4,vl],g5⟩
   ⟨rfl,by show AV.d (.s (.int .i64 ((cW .i64 b).length:Int)))=_;rw [cW_len],rfl,rfl,rfl,rfl,rfl,rfl,rfl,trivial⟩ ⟨rfl,trivial⟩ ?_
  intro q hJ;obtain ⟨O,eO⟩:∃x,q.1=x:=⟨_,rfl⟩;obtain ⟨k,ek⟩:∃x,q.2.1=x:=⟨_,rfl⟩;obtain ⟨c,ec⟩:∃x,q.2.2=x:=⟨_,rfl⟩;have hJ:SMulJ a b i (O,k,c):=by rw [←eO,←ek,←ec];exact hJ
  have hq:O.length=a.length+b.length:=hJ.1;have hqc:c < 1000000000:=hJ.2.2.2.1;have hkb:k≤b.length:=hJ.2.2.1;rw [eO,ek,ec];conv=>whnf
  refine Br.mk (fun h3=>?_) (fun h3=>?_)
  ·have hk2:k < b.length:=by simp only [decide_eq_true_eq] at h3;omega
   obtain ⟨hbig,hS⟩:=hJ.step ha hb hk1 hk2;have hx:a.getD i 0 < 1000000000:=getD_lt (B:=B9) ha (by decide) i;have hy:b.getD k 0 < 1000000000:=getD_lt (B:=B9) hb (by decide) k;have ho:O.getD (i+k) 0 < 1000000000:=getD_lt (B:=B9) hJ.2.1 (by decide) _;simp only at hbig hS;obtain ⟨x,ex⟩:∃x,a.getD i 0=x:=⟨_,rfl⟩;obtain ⟨y,ey⟩:∃x,b.getD k 0=x:=⟨_,rfl⟩;obtain ⟨o,eo⟩:∃x,O.getD (i+k) 0=x:=⟨_,rfl⟩;rw [ex,ey,eo] at hS hbig;rw [ex] at hx;rw [ey] at hy;rw [eo] at ho;have hxy0:x*y≤999999999*999999999:=Nat.mul_le_mul (by omega) (by omega);obtain ⟨xy,exy⟩:∃z,x*y=z:=⟨_,rfl⟩;rw [exy] at hS hbig hxy0;obtain ⟨n,en⟩:∃z,c+(xy+o)=z:=⟨_,rfl⟩;rw [en] at hS hbig;obtain ⟨d,ed⟩:∃d,n % B9=d:=⟨_,rfl⟩;obtain ⟨p,ep⟩:∃d,n / B9=d:=⟨_,rfl⟩;rw [ed,ep] at hS;have hp:p < 1000000000:=hS.2.2.2.1;have ed':Int.tmod (n:Int) 1000000000=(d:Int):=by rw [←ed];exact (Int.ofNat_tmod n 1000000000).symm
   have ep':Int.tdiv (n:Int) 1000000000=(p:Int):=by rw [←ep];exact (Int.ofNat_tdiv n 1000000000).symm
   conv=>whnf
   refine VDraw.go hmo hty 19 [] rfl ?_;conv=>whnf
   refine Wr.i64 (y:=((i+k:Nat):Int)) rfl (by omega) (by omega) ?_;conv=>whnf
   refine ⟨by omega,?_⟩;conv=>whnf
   refine ⟨_,cW_as (i:=i+k) (by omega) eo,?_⟩;conv=>whnf
   refine ⟨⟨⟨by omega,by omega⟩,cW_sz _ _⟩,?_⟩;conv=>whnf
   refine ⟨_,cW_as (i:=i) hk1 ex,?_⟩;conv=>whnf
   refine ⟨⟨⟨by omega,by omega⟩,cW_sz _ _⟩,?_⟩;conv=>whnf
   refine ⟨_,cW_as (i:=k) hk2 ey,?_⟩;conv=>whnf
   refine Wr.i64 (y:=(xy:Int)) (by rw [←exy];exact (Int.natCast_mul _ _).symm) (by omega) (by omega) ?_;conv=>whnf
   refine Wr.i64 (y:=((o+xy:Nat):Int)) rfl (by omega) (by omega) ?_;conv=>whnf
   refine Wr.i64 (y:=(n:Int)) (by omega) (by omega) (by omega) ?_;conv=>whnf
   refine Wr.i64 (y:=((i+k:Nat):Int)) rfl (by omega) (by omega) ?_;conv=>whnf
   refine ⟨by decide,?_⟩;rw [ed'];conv=>whnf
   refine ⟨by omega,?_⟩;conv=>whnf
   refine ⟨_,cW_at (i:=i+k) (by omega),?_⟩;conv=>whnf
   refine ⟨by decide,?_⟩;conv=>whnf
   refine Wr.i64 (y:=(p:Int)) ep' (by omega) (by omega) ?_;conv=>whnf
   refine Wr.i64 (y:=((k+1:Nat):Int)) rfl (by omega) (by omega) ?_;conv=>whnf
   refine ⟨_,hS,by show b.length - (k+1) < b.length - k;omega,⟨rfl,rfl,rfl,rfl,rfl,rfl,rfl,rfl,rfl,trivial⟩,?_,trivial⟩;show Ob.row true 1 ((cW .i64 O).set (i+k) [.s (.int .i64 (d:Int))])=_;rw [cW_set]
  ·have hk2:k=b.length:=by simp only [decide_eq_false_iff_not] at h3;omega
   have hM:SMulI a b (O.set (i+b.length) c,i+1):=SMulJ.last (by rw [←hk2];exact hJ) hk1;have hO0:O.getD (i+b.length) 0=0:=hJ.2.2.2.2.2 _ (Nat.le_refl _);conv=>whnf
   refine Wr.i64 (y:=((i+b.length:Nat):Int)) (by omega) (by omega) (by omega) ?_;conv=>whnf
   refine ⟨by omega,?_⟩;conv=>whnf
   refine ⟨_,cW_as (i:=i+b.length) (by omega) hO0,?_⟩;conv=>whnf
   refine Wr.i64 (y:=(c:Int)) (by omega) (by omega) (by omega) ?_;conv=>whnf
   refine ⟨by omega,?_⟩;conv=>whnf
   refine ⟨_,cW_at (i:=i+b.length) (by omega),?_⟩;conv=>whnf
   refine Wr.i64 (y:=((i+1:Nat):Int)) rfl (by omega) (by omega) ?_;conv=>whnf
   refine ⟨_,hM,by show a.length - (i+1) < a.length - i;omega,⟨rfl,rfl,rfl,rfl,rfl,trivial⟩,?_,trivial⟩;show Ob.row true 1 ((cW .i64 O).set (i+b.length) [.s (.int .i64 (c:Int))])=_;rw [cW_set]
 ·obtain ⟨g1,g2,g3,g4,g5⟩:=hI;have hk1:s.2=a.length:=by simp only [decide_eq_false_iff_not] at h2;omega
  have hcall:=fn_sTrim s.1 g2 (by omega);rw [g4,hk1,List.take_length] at hcall;conv=>whnf
  refine VCall.frz 15 hcall rfl ⟨⟨rfl,rfl,?_,?_⟩,trivial⟩ (nd _) ?_
  ·rw [cW_len];omega
  ·rw [List.drop_zero,List.take_of_length_le (by rw [cW_len];omega)]
  conv=>whnf
  exact ⟨rfl,trivial,rfl⟩
theorem fn_sMul (a b:Nat) (ha:bl a≤1000000000000) (hb:bl b≤1000000000000):Fn Tryz.prog 96 [nS a,nS b] [] (nS (a*b)) []:=by
 have:=fn_sMulL (dg B9 a) (dg B9 b) (fun x h=>dg_lt b9 h) (fun x h=>dg_lt b9 h) (Nat.le_trans (dg_len b9 a) ha) (Nat.le_trans (dg_len b9 b) hb)
 rwa [vl_dg b9,vl_dg b9] at this
end Go.V
namespace Go.V
open Go.Proofs
set_option maxRecDepth 10000
set_option maxHeartbeats 2000000
theorem fn_sShortMul (a d:Nat) (ha:bl a≤1000000000000) (hd0:0 < d) (hd:d < 1000000000) :
  Fn Tryz.prog 136 [nS a,I d] [] (nS (a*d)) []:=by
 have hla:((cW .i64 (dg B9 a)).length:Int)=(dg B9 a).length:=by rw [cW_len]
 have ga:=dg_len b9 a;have la:∀x,x∈dg B9 a→x < B9:=fun x h=>dg_lt b9 h
 suffices h:∃m,Fn Tryz.prog 136 [nS a,I d] [] (.ls 0 0 m 1) [(0,.row true 1 (cW .i64 (dg B9 (a*d))))]∧m=(dg B9 (a*d)).length by
  obtain ⟨m,h1,rfl⟩:=h;have:=h1.freeze (by rw [cW_len];omega);rwa [List.drop_zero,List.take_of_length_le (by rw [cW_len];omega)] at this
 refine ⟨_,?_,rfl⟩;refine Fn.intro (ks:=[0,1,4,5,6,8,9,14,15,16,17,34]) hty rfl rfl rfl rfl rfl ?_;conv=>whnf
 refine Wr.i64 (y:=(((dg B9 a).length+1:Nat):Int)) (by omega) (by omega) (by omega) ?_;conv=>whnf
 refine ⟨⟨by omega,by omega,by show (((dg B9 a).length+1:Nat):Int)*((8:Nat):Int)≤_;omega,by omega⟩,?_⟩;conv=>whnf
 refine VLoop.ren 13 29 rfl ?_;refine VLoop.inv hty (S:=List Nat×Nat) (fun s=>[(16,I s.1.length),(15,I (dg B9 a).length),(14,nS a),(6,I s.2),(5,.ls 29 0 s.1.length 1),(1,I d)]) (fun s=>[(29,.row true 1 (cW .i64 s.1))]) (ShmI B9 (dg B9 a) d)
  (fun s=>(dg B9 a).length - s.1.length) ([],0) (ShmI.init b9 _ _) ⟨rfl,by show AV.d (.s (.int .i64 ((cW .i64 (dg B9 a)).length:Int)))=_;rw [cW_len],rfl,rfl,rfl,rfl,trivial⟩ ⟨rfl,trivial⟩ ?_
 intro s hI;obtain ⟨r,er⟩:∃x,s.1=x:=⟨_,rfl⟩;obtain ⟨c,ec⟩:∃x,s.2=x:=⟨_,rfl⟩;have hI:ShmI B9 (dg B9 a) d (r,c):=by rw [←er,←ec];exact hI
 have hrl:r.length≤(dg B9 a).length:=hI.1;have hcB:c < 1000000000:=hI.2.2.1;rw [er,ec];conv=>whnf
 refine Br.mk (fun h=>?_) (fun h=>?_)
 ·have h:r.length < (dg B9 a).length:=by simp only [decide_eq_true_eq] at h;omega
  obtain ⟨hbig,hst⟩:=hI.step la hd h;simp only at hbig hst;have hx:(dg B9 a).getD r.length 0 < 1000000000:=getD_lt (B:=B9) la (by decide) _;obtain ⟨x,ex⟩:∃x,(dg B9 a).getD r.length 0=x:=⟨_,rfl⟩;rw [ex] at hbig hst hx;have hxd:x*d≤999999999*999999999:=Nat.mul_le_mul (by omega) (by omega);obtain ⟨xd,exd⟩:∃z,x*d=z:=⟨_,rfl⟩;rw [exd] at hbig hst hxd;obtain ⟨n,en⟩:∃z,xd+c=z:=⟨_,rfl⟩;rw [en] at hbig hst;obtain ⟨e,ed⟩:∃d,n % B9=d:=⟨_,rfl⟩;obtain ⟨q,eq⟩:∃d,n / B9=d:=⟨_,rfl⟩;rw [ed,eq] at hst;have hq:q < 1000000000:=hst.2.2.1;have ed':Int.tmod (n:Int) 1000000000=(e:Int):=by rw [←ed];exact (Int.ofNat_tmod n 1000000000).symm
  have eq':Int.tdiv (n:Int) 1000000000=(q:Int):=by rw [←eq];exact (Int.ofNat_tdiv n 1000000000).symm
  conv=>whnf
  refine ⟨⟨⟨by omega,by omega⟩,cW_sz _ _⟩,?_⟩;conv=>whnf
  refine ⟨_,cW_as (i:=r.length) h ex,?_⟩;conv=>whnf
  refine Wr.i64 (y:=(xd:Int)) (by rw [←exd];exact (Int.natCast_mul _ _).symm) (by omega) (by omega) ?_;conv=>whnf
  refine Wr.i64 (y:=(n:Int)) (by omega) (by omega) (by omega) ?_;conv=>whnf
  refine ⟨by decide,?_⟩;rw [ed'];conv=>whnf
  refine Sub.full rfl ?_;conv=>whnf
  refine Sub.full (by rw [cW_len]) ?_;conv=>whnf
  refine ⟨by show (r.length+1)*8≤_;omega,?_⟩;conv=>whnf
  refine ⟨by decide,?_⟩;conv=>whnf
  refine Wr.i64 (y:=(q:Int)) eq' (by omega) (by omega) ?_;conv=>whnf
  refine Wr.i64 (y:=((r.length+1:Nat):Int)) rfl (by omega) (by omega) ?_;conv=>whnf
  refine ⟨(r++[e],q),hst,by show _ - (r++[e]).length < _;rw [List.length_append,List.length_singleton];omega,⟨?_,rfl,rfl,rfl,?_,rfl,trivial⟩,?_,trivial⟩
  ·show AV.d (.s (.int .i64 ((r.length+1:Nat):Int)))=I ((r++[e]).length:Nat);rw [List.length_append];rfl
  ·show AV.ls 29 0 (r.length+1) 1=AV.ls 29 0 (r++[e]).length 1;rw [List.length_append];rfl
  ·show Ob.row true 1 (cW .i64 r++cW .i64 [e])=_;rw [cW_append]
 ·have h:r.length=(dg B9 a).length:=by simp only [decide_eq_false_iff_not] at h;omega
  obtain ⟨f1,f2⟩:=hI.done b9 hd0 h;simp only at f1 f2;conv=>whnf
  refine Br.mk (fun h2=>?_) (fun h2=>?_)
  ·have h2:0 < c:=by simp only [decide_eq_true_eq] at h2;omega
   rw [←f1 h2];conv=>whnf
   refine Sub.full rfl ?_;conv=>whnf
   refine Sub.full (by rw [cW_len]) ?_;conv=>whnf
   refine ⟨by show (r.length+1)*8≤_;omega,?_⟩;conv=>whnf
   refine ⟨⟨rfl,rfl,rfl,rfl,by rw [List.length_append];rfl,rfl⟩,[],?_,trivial,rfl⟩;rw [←cW_append];rfl
  ·have h2:c=0:=by simp only [decide_eq_false_iff_not] at h2;omega
   rw [←f2 h2];conv=>whnf
   exact ⟨⟨rfl,rfl,rfl,rfl,rfl,rfl⟩,[],rfl,trivial,rfl⟩
def SShortI (a:List Nat) (b:Nat) (s:Nat×List Nat×Nat):Prop:=s.1+s.2.1.length=a.length∧(∀x,x∈s.2.1→x < B9)∧s.2.2 < b∧vl B9 (a.drop s.1)=b*vl B9 s.2.1+s.2.2
theorem fn_sShortDivL (a:List Nat) (b:Nat) (ha:∀x,x∈a→x < B9) (hn:a.length≤1000000000000) (hb0:0 < b) (hb:b≤1000000000) :
  Fn Tryz.prog 135 [.d (.sl (cW .i64 a)),I b] [] (.tup [nS (vl B9 a / b),I (vl B9 a % b:Nat)]) []:=by
 have hA:((cW .i64 a).length:Int)=a.length:=by rw [cW_len]
 refine Fn.intro (ks:=[0,1,4,5,6,7,8,9,17]) hty rfl rfl rfl rfl rfl ?_;conv=>whnf
 refine ⟨⟨by omega,by omega,by show ((cW .i64 a).length:Int)*((8:Nat):Int)≤_;omega,by omega⟩,?_⟩;conv=>whnf
 refine Wr.i64 (y:=(a.length:Int) - 1) (by omega) (by omega) (by omega) ?_;conv=>whnf
 refine VLoop.inv hty (S:=Nat×List Nat×Nat) (fun s=>[(8,I ((s.1:Int) - 1)),(7,I s.2.2),(6,.ls 12 0 a.length 1),(1,I b),(0,.d (.sl (cW .i64 a)))])
  (fun s=>[(12,.row true 1 (cW .i64 (List.replicate s.1 0++s.2.1)))]) (SShortI a b) (fun s=>s.1) (a.length,[],0) ⟨by simp,by simp,hb0,by simp [vl]⟩
  ⟨rfl,rfl,by show AV.ls 12 0 ((cW .i64 a).length:Int).toNat 1=_;rw [cW_len];rfl,rfl,rfl,trivial⟩
  ⟨by show Ob.row true 1 (List.replicate ((cW .i64 a).length:Int).toNat [.s (.int .i64 0)])=_;rw [cW_len,show ((a.length:Nat):Int).toNat=a.length from rfl,cW_rep,List.append_nil],trivial⟩ ?_
 intro s hI;obtain ⟨hk,hd,hr,hv⟩:=hI;obtain ⟨i,ei⟩:∃x,s.1=x:=⟨_,rfl⟩;obtain ⟨Q,eQ⟩:∃x,s.2.1=x:=⟨_,rfl⟩;obtain ⟨r,er⟩:∃x,s.2.2=x:=⟨_,rfl⟩;rw [ei,eQ] at hk;rw [eQ] at hd;rw [er] at hr;rw [ei,eQ,er] at hv;rw [ei,eQ,er];conv=>whnf
 refine Br.mk (fun h2=>?_) (fun h2=>?_)
 ·obtain ⟨j,rfl⟩:∃j,i=j+1:=⟨i - 1,by simp only [decide_eq_true_eq] at h2;omega⟩;have hj:j < a.length:=by omega
  have ej:((j+1:Nat):Int) - 1=(j:Nat):=by omega
  obtain ⟨x,ex⟩:∃x,a.getD j 0=x:=⟨_,rfl⟩;have hx:x < 1000000000:=by rw [←ex];exact getD_lt (B:=B9) ha (by decide) _
  have ex2:a[j]=x:=by rw [←getD_get hj];exact ex
  obtain ⟨g1,g2,g3⟩:=short_step (B:=B9) (i:=j) (q:=vl B9 Q) hj hb0 hr hv (by rw [ex2];exact hx);rw [ex2] at g1 g2 g3;have hr9:r*1000000000≤999999999*1000000000:=Nat.mul_le_mul_right _ (by omega);obtain ⟨y,ey⟩:∃z,r*1000000000=z:=⟨_,rfl⟩;rw [show r*B9=y from ey] at g1 g2 g3;rw [ey] at hr9;obtain ⟨n,en⟩:∃z,y+x=z:=⟨_,rfl⟩;rw [en] at g1 g2 g3;obtain ⟨e,ed⟩:∃d,n % b=d:=⟨_,rfl⟩;obtain ⟨q,eq⟩:∃d,n / b=d:=⟨_,rfl⟩;rw [ed,eq] at g1;rw [eq] at g2;rw [ed] at g3;have hq:q < 1000000000:=g2;have ed':Int.tmod (n:Int) (b:Int)=(e:Int):=by rw [←ed];exact (Int.ofNat_tmod n b).symm
  have eq':Int.tdiv (n:Int) (b:Int)=(q:Int):=by rw [←eq];exact (Int.ofNat_tdiv n b).symm
  rw [ej];conv=>whnf
  refine Wr.i64 (y:=(y:Int)) (by rw [←ey];exact (Int.natCast_mul _ _).symm) (by omega) (by omega) ?_;conv=>whnf
  refine ⟨⟨⟨by omega,by omega⟩,cW_sz _ _⟩,?_⟩;conv=>whnf
  refine ⟨_,cW_as (i:=j) hj ex,?_⟩;conv=>whnf
  refine Wr.i64 (y:=(n:Int)) (by omega) (by omega) (by omega) ?_;conv=>whnf
  refine ⟨by omega,?_⟩;conv=>whnf
  refine Wr.i64 (y:=(q:Int)) eq' (by omega) (by omega) ?_;conv=>whnf
  refine ⟨by omega,?_⟩;conv=>whnf
  refine ⟨_,cW_at (i:=j) (by rw [List.length_append,List.length_replicate];omega),?_⟩;conv=>whnf
  refine ⟨by omega,?_⟩;rw [ed'];conv=>whnf
  refine Wr.i64 (y:=(j:Int) - 1) rfl (by omega) (by omega) ?_;conv=>whnf
  refine ⟨(j,q :: Q,e),⟨by show j+(q :: Q).length=_;rw [List.length_cons];omega,fun z hz=>?_,g3,g1⟩,by show j < j+1;omega,⟨rfl,rfl,rfl,rfl,rfl,trivial⟩,?_,trivial⟩
  ·rcases List.mem_cons.1 hz with rfl | hz
   ·exact g2
   ·exact hd z hz
  ·show Ob.row true 1 ((cW .i64 _).set j [.s (.int .i64 (q:Int))])=_;rw [row_downK]
 ·have hi0:i=0:=by simp only [decide_eq_false_iff_not] at h2;omega
  subst hi0;rw [List.drop_zero] at hv;obtain ⟨e1,e2⟩:=div_unique (a:=vl B9 a) (b:=b) (q:=vl B9 Q) (r:=r) (by omega) hr;have hcall:=fn_sTrim Q hd (by omega);rw [←e1] at hcall;conv=>whnf
  refine VCall.frz 12 hcall rfl ⟨⟨rfl,rfl,?_,?_⟩,trivial⟩ (nd _) ?_
  ·rw [List.replicate_zero,List.nil_append,cW_len];omega
  ·rw [List.replicate_zero,List.nil_append,List.drop_zero,List.take_of_length_le (by rw [cW_len];omega)]
  conv=>whnf
  refine ⟨rfl,?_,trivial,rfl⟩;rw [e2]
theorem fn_sShortDiv (a b:Nat) (ha:bl a≤1000000000000) (hb0:0 < b) (hb:b≤1000000000):Fn Tryz.prog 135 [nS a,I b] [] (.tup [nS (a / b),I (a % b:Nat)]) []:=by
 have:=fn_sShortDivL (dg B9 a) b (fun x h=>dg_lt b9 h) (Nat.le_trans (dg_len b9 a) ha) hb0 hb
 rwa [vl_dg b9] at this
end Go.V
namespace Go.V
open Go.Proofs
set_option maxRecDepth 10000
set_option maxHeartbeats 2000000
theorem fn_sTakeOff (R v:List Nat) (j n g:Nat) (hR:∀x,x∈R→x < B9) (hv:∀x,x∈v→x < B9) (hn:R.length≤10000000000000) (hvl:v.length=n) (hlo:j+n < R.length) (hg:g < B9)
  (hgV:g*vl B9 v≤vl B9 ((R.drop j).take (n+1))+vl B9 v) :
  Fn Tryz.prog 137 [.ls 1000000 0 R.length 1,.d (.sl (cW .i64 v)),I j,I g] [(1000000,.row true 1 (cW .i64 R))] (B (decide (vl B9 ((R.drop j).take (n+1)) < g*vl B9 v)))
   [(1000000,.row true 1 (if vl B9 ((R.drop j).take (n+1)) < g*vl B9 v then (cW .i64 (win R j (pad B9 n (B9 ^ n+vl B9 ((R.drop j).take (n+1)) - g*vl B9 v)))).set (j+n) [.s (.int .i64 (-1))]
    else cW .i64 (win R j (pad B9 (n+1) (vl B9 ((R.drop j).take (n+1)) - g*vl B9 v)))))]:=by
 have hB:((cW .i64 v).length:Int)=n:=by rw [cW_len,hvl]
 have hW:((R.drop j).take (n+1)).length=n+1:=by rw [List.length_take,List.length_drop];omega
 have hWl:∀x,x∈(R.drop j).take (n+1)→x < B9:=fun x hx=>hR x (List.mem_of_mem_drop (List.mem_of_mem_take hx));have hg9:g < 1000000000:=hg;refine Fn.intro (ks:=[0,1,2,3,8,9,10,11,12,13,14,15,16,38,44]) hty rfl rfl rfl rfl rfl ?_;conv=>whnf
 refine VLoop.inv hty (S:=List Nat×Nat) (fun s=>[(15,I s.1.length),(14,I n),(13,.d (.sl (cW .i64 v))),(9,I s.2),(3,I g),(2,I j),(1,.d (.sl (cW .i64 v))),(0,.ls 1000000 0 R.length 1)])
  (fun s=>[(1000000,.row true 1 (cW .i64 (win R j s.1)))]) (OffI B9 ((R.drop j).take (n+1)) v g) (fun s=>n - s.1.length) ([],0) (OffI.init b9 _ _ _)
  ⟨rfl,by show AV.d (.s (.int .i64 ((cW .i64 v).length:Int)))=_;rw [hB],rfl,rfl,rfl,rfl,rfl,rfl,trivial⟩ ⟨by rw [win_nil];rfl,trivial⟩ ?_
 intro s hI;obtain ⟨r,er⟩:∃x,s.1=x:=⟨_,rfl⟩;obtain ⟨c,ec⟩:∃x,s.2=x:=⟨_,rfl⟩;have hI:OffI B9 ((R.drop j).take (n+1)) v g (r,c):=by rw [←er,←ec];exact hI
 have hrl:r.length≤v.length:=hI.1;have hcB:c < 1000000000:=hI.2.2.1;rw [er,ec];obtain ⟨i,ei⟩:∃x,r.length=x:=⟨_,rfl⟩;have hwl:(win R j r).length=R.length:=win_len (by omega);rw [ei];conv=>whnf
 refine Br.mk (fun h=>?_) (fun h=>?_)
 ·have hi:i < n:=by simp only [decide_eq_true_eq] at h;omega
  obtain ⟨x,ex⟩:∃x,v.getD i 0=x:=⟨_,rfl⟩;obtain ⟨u,eu⟩:∃x,R.getD (j+i) 0=x:=⟨_,rfl⟩;have hx:x < 1000000000:=by rw [←ex];exact getD_lt (B:=B9) hv (by decide) _
  have hu:u < 1000000000:=by rw [←eu];exact getD_lt (B:=B9) hR (by decide) _
  have eW:((R.drop j).take (n+1)).getD i 0=u:=by rw [part_getD (by omega)];exact eu
  have ewin:(win R j r).getD (j+i) 0=u:=by have:=win_getD (R:=R) (lo:=j) (r:=r) (by omega);rw [ei] at this;rw [this];exact eu
  have hxg:x*g≤999999999*999999999:=Nat.mul_le_mul (by omega) (by omega);obtain ⟨xg,exg⟩:∃z,x*g=z:=⟨_,rfl⟩;rw [exg] at hxg;obtain ⟨m,em⟩:∃d,xg % B9=d:=⟨_,rfl⟩;obtain ⟨q0,eq0⟩:∃d,xg / B9=d:=⟨_,rfl⟩;have hm:m < 1000000000:=by rw [←em];exact Nat.mod_lt _ (by decide)
  have hq0:q0 < 1000000000:=by rw [←eq0];show xg / 1000000000 < _;omega
  have em':Int.tmod (xg:Int) 1000000000=(m:Int):=by rw [←em];exact (Int.ofNat_tmod xg 1000000000).symm
  have eq':Int.tdiv (xg:Int) 1000000000=(q0:Int):=by rw [←eq0];exact (Int.ofNat_tdiv xg 1000000000).symm
  have hstl:=fun {d l:Nat} (hi':r.length < v.length)=>hI.step (d:=d) (l:=l) b9 hv hg hi';simp only at hstl;conv=>whnf
  refine ⟨⟨⟨by omega,by omega⟩,cW_sz _ _⟩,?_⟩;conv=>whnf
  refine ⟨_,cW_as (i:=i) (by omega) ex,?_⟩;conv=>whnf
  refine Wr.i64 (y:=((j+i:Nat):Int)) rfl (by omega) (by omega) ?_;conv=>whnf
  refine ⟨by omega,?_⟩;conv=>whnf
  refine ⟨_,cW_as (i:=j+i) (by omega) ewin,?_⟩;conv=>whnf
  refine Wr.i64 (y:=(xg:Int)) (by rw [←exg];exact (Int.natCast_mul _ _).symm) (by omega) (by omega) ?_;conv=>whnf
  refine ⟨by decide,?_⟩;rw [em'];conv=>whnf
  refine Wr.i64 (y:=(u:Int) - m) rfl (by omega) (by omega) ?_;conv=>whnf
  refine Wr.i64 (y:=(u:Int) - m - c) rfl (by omega) (by omega) ?_;conv=>whnf
  refine Wr.i64 (y:=(xg:Int)) (by rw [←exg];exact (Int.natCast_mul _ _).symm) (by omega) (by omega) ?_;conv=>whnf
  refine ⟨by decide,?_⟩;conv=>whnf
  refine Wr.i64 (y:=(q0:Int)) eq' (by omega) (by omega) ?_;conv=>whnf
  refine Br.mk (fun h2=>?_) (fun h2=>?_)
  ·have h2:(u:Int) - m - c < 0:=by simpa only [decide_eq_true_eq] using h2
   conv=>whnf
   refine Wr.i64 (y:=(u:Int) - m - c+1000000000) rfl (by omega) (by omega) ?_;conv=>whnf
   refine Wr.i64 (y:=((q0+1:Nat):Int)) rfl (by omega) (by omega) ?_;conv=>whnf
   refine Br.mk (fun h3=>?_) (fun h3=>?_)
   ·have h3:(u:Int) - m - c+1000000000 < 0:=by simpa only [decide_eq_true_eq] using h3
    obtain ⟨d,ed⟩:∃d:Nat,(u:Int) - m - c+1000000000+1000000000=d:=⟨((u:Int) - m - c+1000000000+1000000000).toNat,by omega⟩;conv=>whnf
    refine Wr.i64 (y:=(d:Int)) ed (by omega) (by omega) ?_;conv=>whnf
    refine Wr.i64 (y:=((q0+2:Nat):Int)) rfl (by omega) (by omega) ?_;have hdB:d < B9:=by show d < 1000000000;omega
    have hst:=hI.step (d:=d) (l:=2) b9 hv hg (by show r.length < v.length;omega) hdB (by
     show d+v.getD r.length 0*g % B9+c=((R.drop j).take (n+1)).getD r.length 0+1000000000*2;rw [ei,ex,eW,exg,em];omega)
    simp only at hst;rw [ei,ex,exg,eq0] at hst;conv=>whnf
    refine Wr.i64 (y:=((j+i:Nat):Int)) rfl (by omega) (by omega) ?_;conv=>whnf
    refine ⟨by omega,?_⟩;conv=>whnf
    refine ⟨_,cW_at (i:=j+i) (by omega),?_⟩;conv=>whnf
    refine Wr.i64 (y:=((i+1:Nat):Int)) rfl (by omega) (by omega) ?_;conv=>whnf
    refine ⟨(r++[d],q0+2),hst,by show n - (r++[d]).length < n - i;rw [List.length_append,List.length_singleton];omega,⟨?_,rfl,rfl,rfl,rfl,rfl,rfl,rfl,trivial⟩,?_,trivial⟩
    ·show AV.d (.s (.int .i64 ((i+1:Nat):Int)))=I ((r++[d]).length:Nat);rw [List.length_append,List.length_singleton,ei]
    ·show Ob.row true 1 ((cW .i64 _).set (j+i) [.s (.int .i64 (d:Int))])=_;have:=win_setK (k:=.i64) (R:=R) (lo:=j) (d:=d) (r:=r) (by omega);rw [ei] at this;rw [this]
   ·have h3:¬(u:Int) - m - c+1000000000 < 0:=by simpa only [decide_eq_false_iff_not] using h3
    obtain ⟨d,ed⟩:∃d:Nat,(u:Int) - m - c+1000000000=d:=⟨((u:Int) - m - c+1000000000).toNat,by omega⟩;rw [ed];have hdB:d < B9:=by show d < 1000000000;omega
    have hst:=hI.step (d:=d) (l:=1) b9 hv hg (by show r.length < v.length;omega) hdB (by
     show d+v.getD r.length 0*g % B9+c=((R.drop j).take (n+1)).getD r.length 0+1000000000*1;rw [ei,ex,eW,exg,em];omega)
    simp only at hst;rw [ei,ex,exg,eq0] at hst;conv=>whnf
    refine Wr.i64 (y:=((j+i:Nat):Int)) rfl (by omega) (by omega) ?_;conv=>whnf
    refine ⟨by omega,?_⟩;conv=>whnf
    refine ⟨_,cW_at (i:=j+i) (by omega),?_⟩;conv=>whnf
    refine Wr.i64 (y:=((i+1:Nat):Int)) rfl (by omega) (by omega) ?_;conv=>whnf
    refine ⟨(r++[d],q0+1),hst,by show n - (r++[d]).length < n - i;rw [List.length_append,List.length_singleton];omega,⟨?_,rfl,rfl,rfl,rfl,rfl,rfl,rfl,trivial⟩,?_,trivial⟩
    ·show AV.d (.s (.int .i64 ((i+1:Nat):Int)))=I ((r++[d]).length:Nat);rw [List.length_append,List.length_singleton,ei]
    ·show Ob.row true 1 ((cW .i64 _).set (j+i) [.s (.int .i64 (d:Int))])=_;have:=win_setK (k:=.i64) (R:=R) (lo:=j) (d:=d) (r:=r) (by omega);rw [ei] at this;rw [this]
  ·have h2:¬(u:Int) - m - c < 0:=by simpa only [decide_eq_false_iff_not] using h2
   obtain ⟨d,ed⟩:∃d:Nat,(u:Int) - m - c=d:=⟨((u:Int) - m - c).toNat,by omega⟩;rw [ed];have hdB:d < B9:=by show d < 1000000000;omega
   have hst:=hI.step (d:=d) (l:=0) b9 hv hg (by show r.length < v.length;omega) hdB (by
    show d+v.getD r.length 0*g % B9+c=((R.drop j).take (n+1)).getD r.length 0+1000000000*0;rw [ei,ex,eW,exg,em];omega)
   simp only at hst;rw [ei,ex,exg,eq0] at hst;conv=>whnf
   refine Wr.i64 (y:=((j+i:Nat):Int)) rfl (by omega) (by omega) ?_;conv=>whnf
   refine ⟨by omega,?_⟩;conv=>whnf
   refine ⟨_,cW_at (i:=j+i) (by omega),?_⟩;conv=>whnf
   refine Wr.i64 (y:=((i+1:Nat):Int)) rfl (by omega) (by omega) ?_;conv=>whnf
   refine ⟨(r++[d],q0+0),hst,by show n - (r++[d]).length < n - i;rw [List.length_append,List.length_singleton];omega,⟨?_,rfl,rfl,rfl,rfl,rfl,rfl,rfl,trivial⟩,?_,trivial⟩
   ·show AV.d (.s (.int .i64 ((i+1:Nat):Int)))=I ((r++[d]).length:Nat);rw [List.length_append,List.length_singleton,ei]
   ·show Ob.row true 1 ((cW .i64 _).set (j+i) [.s (.int .i64 (d:Int))])=_;have:=win_setK (k:=.i64) (R:=R) (lo:=j) (d:=d) (r:=r) (by omega);rw [ei] at this;rw [this]
 ·have hi:i=n:=by simp only [decide_eq_false_iff_not] at h;omega
  subst hi;obtain ⟨d1,d2⟩:=hI.done hv ei hvl hW hgV;simp only at d1 d2;obtain ⟨U,eU⟩:∃x,vl B9 ((R.drop j).take (i+1))=x:=⟨_,rfl⟩;obtain ⟨V,eV⟩:∃x,vl B9 v=x:=⟨_,rfl⟩;obtain ⟨gV,egV⟩:∃x,g*V=x:=⟨_,rfl⟩;obtain ⟨top,etop⟩:∃x,R.getD (j+i) 0=x:=⟨_,rfl⟩;have htop:top < 1000000000:=by rw [←etop];exact getD_lt (B:=B9) hR (by decide) _
  have eW:((R.drop j).take (i+1)).getD i 0=top:=by rw [part_getD (by omega)];exact etop
  have ewin:(win R j r).getD (j+i) 0=top:=by have:=win_getD (R:=R) (lo:=j) (r:=r) (by omega);rw [ei] at this;rw [this];exact etop
  rw [eU,eV,egV,eW] at d1 d2;rw [eU,eV,egV] at hgV;rw [eU,eV,egV];have hset:∀z:Int,∀q q':List C,((cW .i64 (win R j r)).set (j+i) q).set (j+i) q'=(cW .i64 (win R j r)).set (j+i) q':=fun _ q q'=>by rw [List.set_set]
  conv=>whnf
  refine Wr.i64 (y:=((j+i:Nat):Int)) (by omega) (by omega) (by omega) ?_;conv=>whnf
  refine ⟨by omega,?_⟩;conv=>whnf
  refine ⟨_,cW_as (i:=j+i) (by omega) ewin,?_⟩;conv=>whnf
  refine Wr.i64 (y:=(top:Int) - c) rfl (by omega) (by omega) ?_;conv=>whnf
  refine ⟨by omega,?_⟩;conv=>whnf
  refine ⟨_,cW_at (i:=j+i) (by omega),?_⟩;conv=>whnf
  refine Wr.i64 (y:=((j+i:Nat):Int)) (by omega) (by omega) (by omega) ?_;conv=>whnf
  refine ⟨by omega,?_⟩;conv=>whnf
  refine ⟨[.s (.int .i64 ((top:Int) - c))],List.getElem?_set_self (by rw [cW_len,hwl];omega),?_⟩;conv=>whnf
  rcases Nat.lt_or_ge top c with hlt | hge
  ·obtain ⟨f1,f2,f3,f4⟩:=d2 hlt;refine ⟨by rw [decide_eq_true f1,decide_eq_true (by omega:(top:Int) - c < 0)],⟨?_,trivial⟩,rfl⟩;rw [if_pos f1];have hr:=pad_of b9 hI.2.1;rw [show vl B9 r=B9 ^ i+U - gV by omega,ei] at hr;rw [←hr,show (top:Int) - c = -1 by omega]
   rfl
  ·obtain ⟨f1,f2⟩:=d1 hge;have hlt:¬U < gV:=by omega
   refine ⟨by rw [decide_eq_false hlt,decide_eq_false (by omega:¬(top:Int) - c < 0)],⟨?_,trivial⟩,rfl⟩;rw [if_neg hlt];have hr:=pad_of b9 (snoc_lt hI.2.1 (by show top - c < 1000000000;omega):∀x,x∈r++[top - c]→x < B9);rw [f2,List.length_append,ei] at hr;rw [show pad B9 (i+1) (U - gV)=r++[top - c] from hr.symm,show (top:Int) - c=((top - c:Nat):Int) by omega];have:=win_setK (k:=.i64) (R:=R) (lo:=j) (d:=top - c) (r:=r) (by omega);rw [ei] at this;show Ob.row true 1 ((cW .i64 (win R j r)).set (j+i) [.s (.int .i64 ((top - c:Nat):Int))])=_;rw [this]
def SBakI (w v:List Nat) (s:List Nat×Nat):Prop:=s.1.length≤v.length∧(∀x,x∈s.1→x < B9)∧s.2≤1∧vl B9 s.1+B9 ^ s.1.length*s.2=vl B9 (w.take s.1.length)+vl B9 (v.take s.1.length)
theorem set_at' {rows:List (List C)} {i j:Nat} {r x:List C} (h:i≠j) (hr:rows[j]? = some x):(rows.set i r)[j]? = some x:=by
 rw [List.getElem?_set_ne h];exact hr
theorem fn_sPutBack (R v:List Nat) (j n Y:Nat) (hR:∀x,x∈R→x < B9) (hv:∀x,x∈v→x < B9) (hn:R.length≤10000000000000) (hvl:v.length=n) (hlo:j+n < R.length)
  (hY:vl B9 ((R.drop j).take n)+vl B9 v=B9 ^ n+Y) (hYn:Y < B9 ^ n) :
  Fn Tryz.prog 138 [.ls 1000000 0 R.length 1,.d (.sl (cW .i64 v)),I j] [(1000000,.row true 1 ((cW .i64 R).set (j+n) [.s (.int .i64 (-1))]))] (.tup [])
   [(1000000,.row true 1 (cW .i64 (win R j (pad B9 (n+1) Y))))]:=by
 have hB:((cW .i64 v).length:Int)=n:=by rw [cW_len,hvl]
 have hW:((R.drop j).take n).length=n:=by rw [List.length_take,List.length_drop];omega
 refine Fn.intro (ks:=[0,1,2,6,7,8,9,10,11,12,13]) hty rfl rfl rfl rfl rfl ?_;conv=>whnf
 refine VLoop.inv hty (S:=List Nat×Nat) (fun s=>[(12,I s.1.length),(11,I n),(10,.d (.sl (cW .i64 v))),(6,I s.2),(2,I j),(1,.d (.sl (cW .i64 v))),(0,.ls 1000000 0 R.length 1)])
  (fun s=>[(1000000,.row true 1 ((cW .i64 (win R j s.1)).set (j+n) [.s (.int .i64 (-1))]))]) (SBakI ((R.drop j).take n) v) (fun s=>n - s.1.length) ([],0) ⟨Nat.zero_le _,by simp,Nat.zero_le _,by simp [vl]⟩
  ⟨rfl,by show AV.d (.s (.int .i64 ((cW .i64 v).length:Int)))=_;rw [hB],rfl,rfl,rfl,rfl,rfl,trivial⟩ ⟨by rw [win_nil];rfl,trivial⟩ ?_
 rintro s ⟨hk,hd,hc,hv2⟩;obtain ⟨r,er⟩:∃x,s.1=x:=⟨_,rfl⟩;obtain ⟨c,ec⟩:∃x,s.2=x:=⟨_,rfl⟩;rw [er] at hk hd hv2;rw [ec] at hc hv2;rw [er,ec];obtain ⟨i,ei⟩:∃x,r.length=x:=⟨_,rfl⟩;have hwl:(win R j r).length=R.length:=win_len (by omega);rw [ei];conv=>whnf
 refine Br.mk (fun h=>?_) (fun h=>?_)
 ·have hi:i < n:=by simp only [decide_eq_true_eq] at h;omega
  obtain ⟨x,ex⟩:∃x,v.getD i 0=x:=⟨_,rfl⟩;obtain ⟨u,eu⟩:∃x,R.getD (j+i) 0=x:=⟨_,rfl⟩;have hx:x < 1000000000:=by rw [←ex];exact getD_lt (B:=B9) hv (by decide) _
  have hu:u < 1000000000:=by rw [←eu];exact getD_lt (B:=B9) hR (by decide) _
  have eW:((R.drop j).take n).getD i 0=u:=by rw [part_getD hi];exact eu
  have ewin:(win R j r).getD (j+i) 0=u:=by have:=win_getD (R:=R) (lo:=j) (r:=r) (by omega);rw [ei] at this;rw [this];exact eu
  have hst:=add_step (B:=B9) hv2;rw [ei,eW,ex] at hst;obtain ⟨m,em⟩:∃z,c+u+x=z:=⟨_,rfl⟩;rw [em] at hst;obtain ⟨d,ed⟩:∃d,m % B9=d:=⟨_,rfl⟩;obtain ⟨q,eq⟩:∃d,m / B9=d:=⟨_,rfl⟩;rw [ed,eq] at hst;have hdB:d < B9:=by rw [←ed];exact Nat.mod_lt _ (by decide)
  have hq:q≤1:=by rw [←eq];show m / 1000000000≤1;omega
  have ed':Int.tmod (m:Int) 1000000000=(d:Int):=by rw [←ed];exact (Int.ofNat_tmod m 1000000000).symm
  have eq':Int.tdiv (m:Int) 1000000000=(q:Int):=by rw [←eq];exact (Int.ofNat_tdiv m 1000000000).symm
  conv=>whnf
  refine ⟨⟨⟨by omega,by omega⟩,cW_sz _ _⟩,?_⟩;conv=>whnf
  refine ⟨_,cW_as (i:=i) (by omega) ex,?_⟩;conv=>whnf
  refine Wr.i64 (y:=((j+i:Nat):Int)) rfl (by omega) (by omega) ?_;conv=>whnf
  refine ⟨by omega,?_⟩;conv=>whnf
  refine ⟨_,set_at' (i:=j+n) (j:=j+i) (by omega) (cW_as (i:=j+i) (by omega) ewin),?_⟩;conv=>whnf
  refine Wr.i64 (y:=((u+x:Nat):Int)) rfl (by omega) (by omega) ?_;conv=>whnf
  refine Wr.i64 (y:=(m:Int)) (by omega) (by omega) (by omega) ?_;conv=>whnf
  refine ⟨by decide,?_⟩;conv=>whnf
  refine Wr.i64 (y:=(q:Int)) eq' (by omega) (by omega) ?_;conv=>whnf
  refine Wr.i64 (y:=((j+i:Nat):Int)) rfl (by omega) (by omega) ?_;conv=>whnf
  refine ⟨by decide,?_⟩;rw [ed'];conv=>whnf
  refine ⟨by omega,?_⟩;conv=>whnf
  refine ⟨_,set_at' (i:=j+n) (j:=j+i) (by omega) (cW_as (i:=j+i) (by omega) ewin),?_⟩;conv=>whnf
  refine Wr.i64 (y:=((i+1:Nat):Int)) rfl (by omega) (by omega) ?_;conv=>whnf
  refine ⟨(r++[d],q),⟨by show (r++[d]).length≤_;rw [List.length_append,List.length_singleton];omega,snoc_lt hd hdB,hq,by show _+B9 ^ (r++[d]).length*_=_;rw [List.length_append,List.length_singleton,ei];exact hst⟩,by show n - (r++[d]).length < n - i;rw [List.length_append,List.length_singleton];omega,⟨?_,rfl,rfl,rfl,rfl,rfl,rfl,trivial⟩,?_,trivial⟩
  ·show AV.d (.s (.int .i64 ((i+1:Nat):Int)))=I ((r++[d]).length:Nat);rw [List.length_append,List.length_singleton,ei]
  ·show Ob.row true 1 (((cW .i64 _).set (j+n) [.s (.int .i64 (-1))]).set (j+i) [.s (.int .i64 (d:Int))])=_;have:=win_setK (k:=.i64) (R:=R) (lo:=j) (d:=d) (r:=r) (by omega);rw [ei] at this;rw [List.set_comm _ _ (by omega),this]
 ·have hi:i=n:=by simp only [decide_eq_false_iff_not] at h;omega
  subst hi;rw [ei,List.take_take,Nat.min_self,List.take_of_length_le (l:=v) (by omega)] at hv2;have hrn:=vl_lt hd;rw [ei] at hrn;obtain ⟨hc1,hY2⟩:=bak_done hv2 hrn hY hYn;subst hc1;conv=>whnf
  refine Wr.i64 (y:=((j+i:Nat):Int)) (by omega) (by omega) (by omega) ?_;conv=>whnf
  refine ⟨by omega,?_⟩;conv=>whnf
  refine ⟨[.s (.int .i64 (-1))],List.getElem?_set_self (by rw [cW_len,hwl];omega),?_⟩;conv=>whnf
  refine Wr.i64 (y:=((0:Nat):Int)) (by omega) (by omega) (by omega) ?_;conv=>whnf
  refine ⟨by omega,?_⟩;conv=>whnf
  refine ⟨[.s (.int .i64 (-1))],List.getElem?_set_self (by rw [cW_len,hwl];omega),?_⟩;conv=>whnf
  refine ⟨⟨?_,trivial⟩,rfl⟩;have hr:=pad_of b9 (snoc_lt hd (by decide):∀x,x∈r++[0]→x < B9);rw [vl_snoc,Nat.mul_zero,Nat.add_zero,hY2,List.length_append,ei] at hr;rw [show pad B9 (i+1) Y=r++[0] from hr.symm];show Ob.row true 1 (((cW .i64 (win R j r)).set (j+i) [.s (.int .i64 (-1))]).set (j+i) [.s (.int .i64 ((0:Nat):Int))])=_;have:=win_setK (k:=.i64) (R:=R) (lo:=j) (d:=0) (r:=r) (by omega);rw [ei] at this;rw [List.set_set,this]
end Go.V
namespace Go.V
open Go.Proofs
set_option maxRecDepth 10000
set_option maxHeartbeats 4000000
theorem VCall.par1t {P:Program} {t:TL} {l:LL} {f:FuncId} {xs xs0:List AV} {sz sz':Nat} {rows rows':List (List C)} {dst:Option Nat} {K:AV→TL→LL→Prop} (a:Nat)
  (h:Fn P f xs0 [(1000000,.row true sz rows)] (.tup []) [(1000000,.row true sz' rows')]) (ha:argR (pmap [(1000000,a)]) xs xs0) (hl:lget a l = .row true sz rows)
  (hK:K (.tup []) t ((a,.row true sz' rows') :: l)):VCall P f xs dst t l K :=
 VCall.of_fnR (k:=0) (pmap [(1000000,a)]) h ha ⟨⟨hl,fun p h=>absurd rfl h⟩,trivial⟩ rfl (keepRows rfl rfl) (fun _ h=>by cases h) rfl hK
theorem win_win' {R:List Nat} {lo:Nat} {r r':List Nat} (h':r.length≤r'.length) (h:lo+r'.length≤R.length):win (win R lo r) lo r'=win R lo r':=by
 have e:(R.take lo).length=lo:=by rw [List.length_take];omega
 have e1:(win R lo r).take lo=R.take lo:=by
  simp only [win];rw [List.take_append,e,Nat.sub_self,List.take_zero,List.append_nil,List.take_of_length_le (by omega)]
 have e2:(win R lo r).drop (lo+r'.length)=R.drop (lo+r'.length):=by
  simp only [win];rw [List.drop_append,e,List.drop_of_length_le (by omega),List.nil_append,show lo+r'.length - lo=r'.length by omega,List.drop_append,List.drop_of_length_le (by omega),List.nil_append,List.drop_drop,show lo+r.length+(r'.length - r.length)=lo+r'.length by omega]
 show (win R lo r).take lo++(r'++(win R lo r).drop (lo+r'.length))=_;rw [e1,e2];rfl
theorem fn_sNatD (n:Nat) (hn:n≤9223372036854775807):Fn Tryz.prog 73 [I n] [] (nS n) []:=by
 have:=(fn_sNat n hn).freeze (by rw [cW_len];omega)
 rwa [List.drop_zero,List.take_of_length_le (by rw [cW_len];omega)] at this
theorem lt_of_len9 {n:Nat} (h:(dg B9 n).length≤2):n < 1000000000000000000:=by
 have h1:=lt_of_len b9 n;have h2:=Nat.pow_le_pow_right (by decide:0 < B9) h;have h3:B9 ^ 2=1000000000000000000:=by decide
 omega
theorem cpy_le {α:Type} {D R:List α} {n:Nat} (h:D.length≤n):R.take 0++(D.take (Nat.min D.length n)++R.drop (0+Nat.min D.length n))=R.take 0++(D++R.drop (0+D.length)):=by
 have e:Nat.min D.length n=D.length:=Nat.min_eq_left h
 rw [e,List.take_length]
theorem fn_sDivA (a b:Nat) (h0:b≠0) (ha:(dg B9 a).length≤2) (hb:(dg B9 b).length≤2):Fn Tryz.prog 114 [nS a,nS b] [] (.tup [nS (a / b),nS (a % b)]) []:=by
 have hA:=lt_of_len9 ha
 have hB:=lt_of_len9 hb
 have sa:bl a≤1000000000000000:=Nat.le_trans (bl_le (k:=60) (Nat.lt_trans hA (by decide))) (by decide)
 have sb:bl b≤1000000000000000:=Nat.le_trans (bl_le (k:=60) (Nat.lt_trans hB (by decide))) (by decide)
 have c1:=fn_sSmall a sa
 have c2:=fn_sSmall b sb
 rw [if_pos ha,decide_eq_true ha] at c1
 rw [if_pos hb,decide_eq_true hb] at c2
 have hq:=Nat.div_le_self a b
 have hr:=Nat.mod_lt a (Nat.pos_of_ne_zero h0)
 refine Fn.intro (ks:=[0,1,4,5,6,7,8,9,10,11,12,13,14,15,16,17,18,19,20,21,22,36,48,55,100,153,164,169]) hty rfl rfl rfl rfl rfl ?_
 conv=>whnf
 refine VCall.of_data c1 (ndT (fun k=>rfl)) ?_
 conv=>whnf
 refine VCall.of_data c2 (ndT (fun k=>rfl)) ?_
 have eq':Int.tdiv (a:Int) (b:Int)=((a / b:Nat):Int):=(Int.ofNat_tdiv a b).symm
 have er':Int.tmod (a:Int) (b:Int)=((a % b:Nat):Int):=(Int.ofNat_tmod a b).symm
 obtain ⟨q,eq⟩:∃x,a / b=x:=⟨_,rfl⟩
 obtain ⟨r,er⟩:∃x,a % b=x:=⟨_,rfl⟩
 rw [eq] at hq eq'
 rw [er] at hr er'
 rw [eq,er]
 conv=>whnf
 refine VDraw.go hmo hty 10 [] rfl ?_
 conv=>whnf
 refine ⟨by omega,?_⟩
 conv=>whnf
 refine Wr.i64 (y:=(q:Int)) eq' (by omega) (by omega) ?_
 conv=>whnf
 refine QCall.of_data (fn_sNatD q (by omega)) (nd _) ?_
 conv=>whnf
 refine ⟨by omega,?_⟩
 rw [er']
 conv=>whnf
 refine QCall.of_data (fn_sNatD r (by omega)) (nd _) ?_
 conv=>whnf
 exact ⟨rfl,rfl,trivial,rfl⟩
def Big2 (a b:Nat):Prop:=¬((dg B9 a).length≤2∧(dg B9 b).length≤2)
theorem fn_sDivB (a b:Nat) (ha:bl a≤100000000000) (hb:bl b≤100000000000) (hlt:a < b) (hbig:Big2 a b):Fn Tryz.prog 114 [nS a,nS b] [] (.tup [nS (a / b),nS (a % b)]) []:=by
 have c1:=fn_sSmall a (by omega);have c2:=fn_sSmall b (by omega);have cc:=fn_sCmp a b (by omega) (by omega);rw [cmpZ_lt hlt] at cc;rw [Nat.div_eq_of_lt hlt,Nat.mod_eq_of_lt hlt];have hla:((cW .i64 (dg B9 a)).length:Int)=(dg B9 a).length:=by rw [cW_len]
 have ga:=dg_len b9 a;refine Fn.intro (ks:=[0,1,4,5,6,7,8,9,10,11,12,13,14,15,16,17,18,19,20,21,22,36,48,55,100,153,164,169]) hty rfl rfl rfl rfl rfl ?_;by_cases h1:(dg B9 a).length≤2
 ·have h2:¬(dg B9 b).length≤2:=fun h=>hbig ⟨h1,h⟩;rw [decide_eq_true h1] at c1;rw [decide_eq_false h2] at c2;conv=>whnf
  refine VCall.of_data c1 (ndT (fun k=>rfl)) ?_;conv=>whnf
  refine VCall.of_data c2 (ndT (fun k=>rfl)) ?_;conv=>whnf
  refine VCall.of_data cc (nd _) ?_;conv=>whnf
  refine ⟨cW_sz _ _,?_⟩;conv=>whnf
  refine Sub.full rfl ?_;conv=>whnf
  refine ⟨by show (0+(cW .i64 (dg B9 a)).length)*8≤_;omega,?_⟩;conv=>whnf
  refine ⟨⟨rfl,Nat.zero_le _,rfl⟩,⟨rfl,?_,?_⟩,trivial,rfl⟩
  ·rw [List.nil_append];omega
  ·rw [List.nil_append,List.drop_zero,List.take_of_length_le (by omega)]
 ·rw [decide_eq_false h1] at c1;conv=>whnf
  refine VCall.of_data c1 (ndT (fun k=>rfl)) ?_;conv=>whnf
  refine VCall.of_data c2 (ndT (fun k=>rfl)) ?_;conv=>whnf
  refine VCall.of_data cc (nd _) ?_;conv=>whnf
  refine ⟨cW_sz _ _,?_⟩;conv=>whnf
  refine Sub.full rfl ?_;conv=>whnf
  refine ⟨by show (0+(cW .i64 (dg B9 a)).length)*8≤_;omega,?_⟩;conv=>whnf
  refine ⟨⟨rfl,Nat.zero_le _,rfl⟩,⟨rfl,?_,?_⟩,trivial,rfl⟩
  ·rw [List.nil_append];omega
  ·rw [List.nil_append,List.drop_zero,List.take_of_length_le (by omega)]
theorem fn_sDivC (a b:Nat) (ha:bl a≤100000000000) (hb0:b≠0) (hb:b < 1000000000) (hle:b≤a) (hbig:Big2 a b):Fn Tryz.prog 114 [nS a,nS b] [] (.tup [nS (a / b),nS (a % b)]) []:=by
 have hbb:=bl_mono hle;have c1:=fn_sSmall a (by omega);have c2:=fn_sSmall b (by omega);have cc:=fn_sCmp a b (by omega) (by omega);have hz:0≤cmpZ a b:=cmpZ_nonneg.2 hle;have hd:dg B9 b=[b]:=dg_small b9 hb hb0;have hlb:(dg B9 b).length=1:=by rw [hd];rfl
 have hlb':((cW .i64 (dg B9 b)).length:Int)=1:=by rw [cW_len,hlb];rfl
 have hm:a % b < b:=Nat.mod_lt _ (Nat.pos_of_ne_zero hb0);have cd:=fn_sShortDiv a b (by omega) (by omega) (by omega);have cn:=fn_sNatD (a % b) (by omega);have h1:¬(dg B9 a).length≤2:=fun h=>hbig ⟨h,by omega⟩;rw [decide_eq_false h1] at c1;refine Fn.intro (ks:=[0,1,4,5,6,7,8,9,10,11,12,13,14,15,16,17,18,19,20,21,22,36,48,55,100,153,164,169]) hty rfl rfl rfl rfl rfl ?_;conv=>whnf
 refine VCall.of_data c1 (ndT (fun k=>rfl)) ?_;conv=>whnf
 refine VCall.of_data c2 (ndT (fun k=>rfl)) ?_;conv=>whnf
 refine VCall.of_data cc (nd _) ?_;conv=>whnf
 refine Br.mk (fun h=>?_) (fun h=>?_)
 ·simp only [decide_eq_true_eq] at h;omega
 conv=>whnf
 refine Br.mk (fun h2=>?_) (fun h2=>?_)
 ·conv=>whnf
  refine ⟨⟨⟨by omega,by omega⟩,cW_sz _ _⟩,?_⟩;conv=>whnf
  refine ⟨[.s (.int .i64 (b:Nat))],by rw [hd];rfl,?_⟩;conv=>whnf
  refine VCall.of_data cd (ndT (fun k=>rfl)) ?_;conv=>whnf
  refine VCall.of_data cn (nd _) ?_;conv=>whnf
  exact ⟨rfl,rfl,trivial,rfl⟩
 ·simp only [decide_eq_false_iff_not] at h2;omega
theorem fn_sDivD (a b : Nat) (ha : bl a ≤ 100000000000) (hb : 2 ≤ (dg B9 b).length) (hle : b ≤ a) (hbig : Big2 a b) : Fn Tryz.prog 114 [nS a, nS b] [] (.tup [nS (a / b), nS (a % b)]) [] := by
  have hbb := bl_mono hle
  have c1 := fn_sSmall a (by omega)
  have c2 := fn_sSmall b (by omega)
  have cc := fn_sCmp a b (by omega) (by omega)
  have hz : 0 ≤ cmpZ a b := cmpZ_nonneg.2 hle
  obtain ⟨t, hget, ht0, htB, hlo, hhi⟩ := top_of b9 hb
  have htB : t < 1000000000 := htB
  have hlb := dg_len b9 b
  have hla := dg_len b9 a
  obtain ⟨k, hk⟩ : ∃ k, 1000000000 / (t + 1) = k := ⟨_, rfl⟩
  have hk0 : 0 < k := by rw [← hk]; exact Nat.div_pos (by omega) (by omega)
  have hkt : (t + 1) * k ≤ 1000000000 := by rw [← hk]; exact Nat.mul_div_le _ _
  have hkB : k < 1000000000 := by
    have : 2 * k ≤ (t + 1) * k := Nat.mul_le_mul_right _ (by omega)
    omega
  have hkZ : Int.tdiv (1000000000 : Int) ((t + 1 : Nat) : Int) = (k : Int) := by rw [← hk]; exact (Int.ofNat_tdiv 1000000000 (t + 1)).symm
  have hup := Up.of b9 hb hk0 ht0 hkt hlo hhi
  have c4 := fn_sShortMul a k (by omega) hk0 hkB
  have c5 := fn_sShortMul b k (by omega) hk0 hkB
  have hpa : a * k < B9 ^ ((dg B9 a).length + 1) := by
    have h1 := lt_of_len b9 a
    rw [Nat.pow_succ]
    exact Nat.lt_of_lt_of_le ((Nat.mul_lt_mul_right hk0).2 h1) (Nat.mul_le_mul_left _ (by show k ≤ 1000000000; omega))
  obtain ⟨u, hu⟩ : ∃ u, dg B9 (b * k) = u := ⟨_, rfl⟩
  rw [hu] at hup
  have c5 : Fn Tryz.prog 136 [nS b, I k] [] (.d (.sl (cW .i64 u))) [] := by rw [← hu]; exact c5
  have hlab : (dg B9 b).length ≤ (dg B9 a).length := dg_len_le b9 (Nat.lt_of_le_of_lt hle (lt_of_len b9 a))
  have hB := cW_len .i64 (dg B9 b)
  have hA := cW_len .i64 (dg B9 a)
  have hUc := cW_len .i64 u
  have hlB : (dg B9 b).length = (dg B9 b).length - 2 + 2 := by omega
  have h1 : ¬ (dg B9 a).length ≤ 2 := fun h => hbig ⟨h, by omega⟩
  rw [decide_eq_false h1] at c1
  have hget' : (cW .i64 (dg B9 b))[(dg B9 b).length - 1]? = some [.s (.int .i64 (t : Nat))] := by rw [cW, List.getElem?_map, hget]; rfl
  obtain ⟨n, hn⟩ : ∃ n, (dg B9 b).length - 2 = n := ⟨_, rfl⟩
  rw [hn] at hup hlB
  have hU := hup.len
  obtain ⟨V, eV⟩ : ∃ y, vl B9 u = y := ⟨_, rfl⟩
  obtain ⟨top, etop⟩ : ∃ y, u.getD (n + 1) 0 = y := ⟨_, rfl⟩
  obtain ⟨next, enext⟩ : ∃ y, u.getD n 0 = y := ⟨_, rfl⟩
  have hV0 : V = b * k := eV.symm.trans hup.eq
  have hVB : V < B9 ^ (n + 2) := by have := vl_lt hup.lt; rwa [hU, eV] at this
  have htopB : top < 1000000000 := by rw [← etop]; exact getD_lt (B := B9) hup.lt (by decide) _
  have hnextB : next < 1000000000 := by rw [← enext]; exact getD_lt (B := B9) hup.lt (by decide) _
  have hinit := DivI.init b9 hk0 hup hlB hpa (by omega)
  rw [eV] at hinit
  obtain ⟨A, eA⟩ : ∃ y, a * k = y := ⟨_, rfl⟩
  rw [eA] at hinit hpa c4
  obtain ⟨R0, eR0⟩ : ∃ y, pad B9 ((dg B9 a).length + 1) A = y := ⟨_, rfl⟩
  rw [eR0] at hinit
  have hcpy : (cW .i64 (List.replicate ((dg B9 a).length + 1) 0)).take 0 ++ (cW .i64 (dg B9 A) ++ (cW .i64 (List.replicate ((dg B9 a).length + 1) 0)).drop (0 + (cW .i64 (dg B9 A)).length)) = cW .i64 R0 := by
    rw [List.take_zero, List.nil_append, cW_len, Nat.zero_add, cW_drop, cW_append, ← eR0]
    show cW .i64 _ = cW .i64 (dg B9 A ++ List.replicate _ 0)
    rw [List.drop_replicate]
  have hdA : (dg B9 A).length ≤ (dg B9 a).length + 1 := dg_len_le b9 hpa
  have hdAc := cW_len .i64 (dg B9 A)
  have hdig := fun {s} => DivI.dig b9 (A := A) (N := (dg B9 a).length + 1) (s := s) hup
  rw [eV, etop, enext] at hdig
  refine Fn.intro (ks := [0,1,4,5,6,7,8,9,10,11,12,13,14,15,16,17,18,19,20,21,22,36,48,55,100,153,164,169]) hty rfl rfl rfl rfl rfl ?_
  conv => whnf
  refine VCall.of_data c1 (ndT (fun k => rfl)) ?_
  conv => whnf
  refine VCall.of_data c2 (ndT (fun k => rfl)) ?_
  conv => whnf
  refine VCall.of_data cc (nd _) ?_
  conv => whnf
  refine Br.mk (fun h => ?_) (fun h => ?_)
  · simp only [decide_eq_true_eq] at h; omega
  conv => whnf
  refine Br.mk (fun h2 => ?_) (fun h2 => ?_)
  · simp only [decide_eq_true_eq] at h2; omega
  conv => whnf
  refine Wr.i64 (y := (((dg B9 b).length - 1 : Nat) : Int)) (by omega) (by omega) (by omega) ?_
  conv => whnf
  refine ⟨⟨⟨by omega, by omega⟩, cW_sz _ _⟩, ?_⟩
  conv => whnf
  refine ⟨_, hget', ?_⟩
  conv => whnf
  refine Wr.i64 (y := ((t + 1 : Nat) : Int)) rfl (by omega) (by omega) ?_
  conv => whnf
  refine ⟨by omega, ?_⟩
  conv => whnf
  refine Wr.i64 (y := (k : Int)) hkZ (by omega) (by omega) ?_
  conv => whnf
  refine Wr.i64 (y := (((dg B9 a).length + 1 : Nat) : Int)) (by omega) (by omega) (by omega) ?_
  conv => whnf
  refine ⟨⟨by omega, by omega, by show (((dg B9 a).length + 1 : Nat) : Int) * ((8 : Nat) : Int) ≤ _; omega, by omega⟩, ?_⟩
  conv => whnf
  refine VCall.of_data c4 (nd _) ?_
  conv => whnf
  refine ⟨cW_sz _ _, ?_⟩
  conv => whnf
  refine ⟨by show 0 + _ ≤ _; rw [List.length_replicate]; omega, ?_⟩
  conv => whnf
  refine VCall.of_data c5 (nd _) ?_
  conv => whnf
  obtain ⟨la, hla'⟩ : ∃ y, (dg B9 a).length = y := ⟨_, rfl⟩
  rw [hla'] at hinit hdig hla hA hcpy hdA hlab
  rw [hla']
  obtain ⟨m, hm⟩ : ∃ y, la - (n + 1) = y := ⟨_, rfl⟩
  rw [hm] at hinit
  refine Wr.i64 (y := (m : Int)) (by show (((la + 1 : Nat) : Int).toNat : Int) - _ = _; omega) (by omega) (by omega) ?_
  conv => whnf
  refine ⟨⟨by omega, by omega, by show (m : Int) * ((8 : Nat) : Int) ≤ _; omega, by omega⟩, ?_⟩
  conv => whnf
  refine Wr.i64 (y := (m : Int)) (by show (((la + 1 : Nat) : Int).toNat : Int) - _ = _; omega) (by omega) (by omega) ?_
  conv => whnf
  refine Wr.i64 (y := (m : Int) - 1) rfl (by omega) (by omega) ?_
  conv => whnf
  have hUi : ((cW .i64 u).length : Int) = ((n + 2 : Nat) : Int) := by omega
  refine VLoop.inv hty (S := Nat × List Nat × List Nat) (fun s => [(17, I ((s.1 : Int) - 1)), (16, .ls 93 0 m 1), (15, I ((n + 2 : Nat) : Int)), (14, .d (.sl (cW .i64 u))), (13, .ls 78 0 (la + 1) 1), (12, I (k : Int))])
    (fun s => [(93, .row true 1 (cW .i64 (List.replicate s.1 0 ++ s.2.2))), (78, .row true 1 (cW .i64 s.2.1))]) (DivI B9 A V (la + 1) (n + 2)) (fun s => s.1)
    (m, R0, []) hinit
    ⟨rfl, rfl, by show AV.d (.s (.int .i64 ((cW .i64 u).length : Int))) = _; rw [hUi], rfl, rfl, rfl, trivial⟩
    ⟨by show Ob.row true 1 (List.replicate ((m : Int).toNat) [.s (.int .i64 0)]) = _; rw [show ((m : Int).toNat) = m from rfl, cW_rep, List.append_nil],
     by
      rw [← cW_rep] at hcpy
      exact congrArg (Ob.row true 1) ((cpy_le (by rw [cW_len]; show (dg B9 A).length ≤ la + 1; omega)).trans hcpy), trivial⟩ ?_
  intro s hI
  conv => whnf
  refine Br.mk (fun h3 => ?_) (fun h3 => ?_)
  · have hs0 : 0 < s.1 := by simp only [decide_eq_true_eq] at h3; omega
    have hD := hdig hI hs0
    obtain ⟨g1, g2, g3, g4, g5, g6⟩ := id hI
    obtain ⟨j, hj⟩ : ∃ j, s.1 = j + 1 := ⟨s.1 - 1, by omega⟩
    rw [hj, Nat.add_sub_cancel] at hD
    have ej : (s.1 : Int) - 1 = (j : Nat) := by omega
    obtain ⟨R, eR⟩ : ∃ R, s.2.1 = R := ⟨_, rfl⟩
    obtain ⟨Q, eQ⟩ : ∃ Q, s.2.2 = Q := ⟨_, rfl⟩
    have hI' : DivI B9 A V (la + 1) (n + 2) (j + 1, R, Q) := by rw [← hj, ← eR, ← eQ]; exact hI
    rw [eR] at hD g1 g2
    obtain ⟨r2, er2⟩ : ∃ y, R.getD (j + (n + 2)) 0 = y := ⟨_, rfl⟩
    obtain ⟨r1, er1⟩ : ∃ y, R.getD (j + (n + 1)) 0 = y := ⟨_, rfl⟩
    obtain ⟨r0, er0⟩ : ∃ y, R.getD (j + n) 0 = y := ⟨_, rfl⟩
    obtain ⟨x2, ex2⟩ : ∃ y, r2 * 1000000000 = y := ⟨_, rfl⟩
    obtain ⟨head, ehead⟩ : ∃ y, x2 + r1 = y := ⟨_, rfl⟩
    obtain ⟨U, eU⟩ : ∃ y, vl B9 ((R.drop j).take (n + 3)) = y := ⟨_, rfl⟩
    rw [er2, er1, er0, eU, show r2 * B9 = x2 from ex2, ehead] at hD
    have q1 : r2 < 1000000000 := by rw [← er2]; exact getD_lt (B := B9) g2 (by decide) _
    have q2 : r1 < 1000000000 := by rw [← er1]; exact getD_lt (B := B9) g2 (by decide) _
    have q3 : r0 < 1000000000 := by rw [← er0]; exact getD_lt (B := B9) g2 (by decide) _
    have hheadB : head < 1000000000000000000 := by omega
    have htop := hD.ht
    obtain ⟨g0, eg0⟩ : ∃ y, head / top = y := ⟨_, rfl⟩
    obtain ⟨l0, el0⟩ : ∃ y, head % top = y := ⟨_, rfl⟩
    have hGI0 := hD.init
    rw [eg0, el0] at hGI0
    have hg0 : g0 ≤ head := by rw [← eg0]; exact Nat.div_le_self _ _
    have hl0 : l0 < top := by rw [← el0]; exact Nat.mod_lt _ htop
    have eg0' : Int.tdiv (head : Int) (top : Int) = (g0 : Int) := by rw [← eg0]; exact (Int.ofNat_tdiv head top).symm
    have el0' : Int.tmod (head : Int) (top : Int) = (l0 : Int) := by rw [← el0]; exact (Int.ofNat_tmod head top).symm
    rw [ej, eR, eQ, hj]
    conv => whnf
    refine VDraw.go hmo hty 16 [] rfl ?_
    conv => whnf
    refine Wr.i64 (y := ((j + (n + 2) : Nat) : Int)) (by omega) (by omega) (by omega) ?_
    conv => whnf
    refine ⟨by omega, ?_⟩
    conv => whnf
    refine ⟨_, cW_as (i := j + (n + 2)) (by omega) er2, ?_⟩
    conv => whnf
    refine Wr.i64 (y := (x2 : Int)) (by rw [← ex2]; exact (Int.natCast_mul _ _).symm) (by omega) (by omega) ?_
    conv => whnf
    refine Wr.i64 (y := ((j + (n + 2) : Nat) : Int)) (by omega) (by omega) (by omega) ?_
    conv => whnf
    refine Wr.i64 (y := ((j + (n + 1) : Nat) : Int)) (by omega) (by omega) (by omega) ?_
    conv => whnf
    refine ⟨by omega, ?_⟩
    conv => whnf
    refine ⟨_, cW_as (i := j + (n + 1)) (by omega) er1, ?_⟩
    conv => whnf
    refine Wr.i64 (y := (head : Int)) (by omega) (by omega) (by omega) ?_
    conv => whnf
    refine VDraw.go hmo hty 16 [] rfl ?_
    conv => whnf
    refine Wr.i64 (y := ((n + 1 : Nat) : Int)) (by omega) (by omega) (by omega) ?_
    conv => whnf
    refine ⟨⟨⟨by omega, by omega⟩, cW_sz _ _⟩, ?_⟩
    conv => whnf
    refine ⟨_, cW_as (i := n + 1) (by omega) etop, ?_⟩
    conv => whnf
    refine ⟨by omega, ?_⟩
    conv => whnf
    refine Wr.i64 (y := (g0 : Int)) eg0' (by omega) (by omega) ?_
    conv => whnf
    refine Wr.i64 (y := ((n + 1 : Nat) : Int)) (by omega) (by omega) (by omega) ?_
    conv => whnf
    refine ⟨⟨⟨by omega, by omega⟩, cW_sz _ _⟩, ?_⟩
    conv => whnf
    refine ⟨_, cW_as (i := n + 1) (by omega) etop, ?_⟩
    conv => whnf
    refine ⟨by omega, ?_⟩
    rw [el0']
    conv => whnf
    refine VLoop.invX hty (S := Nat × Nat) (E := Nat) [] [] 2 (fun q => [(20, I (q.2 : Nat)), (19, I (q.1 : Nat)), (17, I (j : Nat)), (16, .ls 93 0 m 1), (15, I ((n + 2 : Nat) : Int)), (14, .d (.sl (cW .i64 u))), (13, .ls 78 0 (la + 1) 1), (12, I (k : Int))])
      (fun _ => [(93, .row true 1 (cW .i64 (List.replicate (j + 1) 0 ++ Q))), (78, .row true 1 (cW .i64 R))])
      (fun q => GI top head U V q ∧ q.2 < 1000000000) (fun q => q.1)
      (fun g => [(19, I (g : Nat)), (17, I (j : Nat)), (16, .ls 93 0 m 1), (15, I ((n + 2 : Nat) : Int)), (14, .d (.sl (cW .i64 u))), (13, .ls 78 0 (la + 1) 1), (12, I (k : Int))])
      (fun _ => [(93, .row true 1 (cW .i64 (List.replicate (j + 1) 0 ++ Q))), (78, .row true 1 (cW .i64 R))]) (fun g => Fine B9 U V g)
      (g0, l0) ⟨hGI0, by show l0 < _; omega⟩
      ⟨rfl, rfl, rfl, rfl, rfl, rfl, rfl, rfl, trivial⟩ ⟨rfl, rfl, trivial⟩ ?_ ?_
    · rintro q ⟨hG, hleft⟩
      obtain ⟨g, eg⟩ : ∃ y, q.1 = y := ⟨_, rfl⟩
      obtain ⟨lf, elf⟩ : ∃ y, q.2 = y := ⟨_, rfl⟩
      rw [eg, elf]
      rw [elf] at hleft
      have hG : GI top head U V (g, lf) := by rw [← eg, ← elf]; exact hG
      have hq1 : g ≤ head := by
        have h1 : g * top + lf = head := hG.1
        have h2 : g * 1 ≤ g * top := Nat.mul_le_mul_left _ htop
        omega
      obtain ⟨gn, egn⟩ : ∃ y, g * next = y := ⟨_, rfl⟩
      obtain ⟨lx, elx⟩ : ∃ y, lf * 1000000000 = y := ⟨_, rfl⟩
      obtain ⟨ly, ely⟩ : ∃ y, lx + r0 = y := ⟨_, rfl⟩
      have hlx : lf * B9 + r0 = ly := by rw [← ely, ← elx]
      conv => whnf
      refine VDraw.go hmo hty 22 [] rfl ?_
      conv => whnf
      refine Br.mk (fun h4 => ?_) (fun h4 => ?_)
      case' refine_1 =>
        have hc : B9 ≤ g ∨ lf * B9 + r0 < g * next := .inl (by simp only [decide_eq_true_eq] at h4; show 1000000000 ≤ g; omega)
      case' refine_2 =>
        have hgB : g < 1000000000 := by simp only [decide_eq_false_iff_not] at h4; omega
        have hpr : gn ≤ 999999999 * 999999999 := by rw [← egn]; exact Nat.mul_le_mul (by omega) (by omega)
        conv => whnf
        refine Wr.i64 (y := (n : Int)) (by omega) (by omega) (by omega) ?_
        conv => whnf
        refine ⟨⟨⟨by omega, by omega⟩, cW_sz _ _⟩, ?_⟩
        conv => whnf
        refine ⟨_, cW_as (i := n) (by omega) enext, ?_⟩
        conv => whnf
        refine Wr.i64 (y := (gn : Int)) (by rw [← egn]; exact (Int.natCast_mul _ _).symm) (by omega) (by omega) ?_
        conv => whnf
        refine Wr.i64 (y := (lx : Int)) (by rw [← elx]; exact (Int.natCast_mul _ _).symm) (by omega) (by omega) ?_
        conv => whnf
        refine Wr.i64 (y := ((j + (n + 2) : Nat) : Int)) (by omega) (by omega) (by omega) ?_
        conv => whnf
        refine Wr.i64 (y := ((j + n : Nat) : Int)) (by omega) (by omega) (by omega) ?_
        conv => whnf
        refine ⟨by omega, ?_⟩
        conv => whnf
        refine ⟨_, cW_as (i := j + n) (by omega) er0, ?_⟩
        conv => whnf
        refine Wr.i64 (y := (ly : Int)) (by omega) (by omega) (by omega) ?_
        conv => whnf
        refine Br.mk (fun h5 => ?_) (fun h5 => ?_)
        case' refine_1 =>
          have hc : B9 ≤ g ∨ lf * B9 + r0 < g * next := .inr (by simp only [decide_eq_true_eq] at h5; rw [hlx, egn]; omega)
        case refine_2 =>
          have hF := hD.stop hG hgB (by simp only [decide_eq_false_iff_not] at h5; show g * next ≤ lf * B9 + r0; rw [hlx, egn]; omega)
          conv => whnf
          exact ⟨rfl, g, hF, ⟨rfl, rfl, rfl, rfl, rfl, rfl, rfl, trivial⟩, rfl, rfl, trivial⟩
      all_goals
        obtain ⟨hg1, hG2⟩ := hD.step hG hc
        obtain ⟨g', eg'⟩ : ∃ y, g - 1 = y := ⟨_, rfl⟩
        obtain ⟨lf', elf'⟩ : ∃ y, lf + top = y := ⟨_, rfl⟩
        have hG2 : GI top head U V (g', lf') := by rw [← eg', ← elf']; exact hG2
        have hg1 : 1 ≤ g := hg1
        conv => whnf
        refine Wr.i64 (y := (g' : Int)) (by omega) (by omega) (by omega) ?_
        conv => whnf
        refine Wr.i64 (y := ((n + 1 : Nat) : Int)) (by omega) (by omega) (by omega) ?_
        conv => whnf
        refine ⟨⟨⟨by omega, by omega⟩, cW_sz _ _⟩, ?_⟩
        conv => whnf
        refine ⟨_, cW_as (i := n + 1) (by omega) etop, ?_⟩
        conv => whnf
        refine Wr.i64 (y := (lf' : Int)) (by omega) (by omega) (by omega) ?_
        conv => whnf
        refine Br.mk (fun h6 => ?_) (fun h6 => ?_)
        · have hF := hD.brk hG2 (by simp only [decide_eq_true_eq] at h6; show 1000000000 ≤ lf'; omega)
          conv => whnf
          exact ⟨rfl, g', hF, ⟨rfl, rfl, rfl, rfl, rfl, rfl, rfl, trivial⟩, rfl, rfl, trivial⟩
        · conv => whnf
          exact ⟨(g', lf'), ⟨hG2, by simp only [decide_eq_false_iff_not] at h6; show lf' < 1000000000; omega⟩, by show g' < g; omega, ⟨rfl, rfl, rfl, rfl, rfl, rfl, rfl, rfl, trivial⟩, ⟨rfl, rfl, trivial⟩⟩
    · rintro g ⟨f1, f2, f3⟩
      have c6 := fn_sTakeOff R u j (n + 2) g g2 hup.lt (by omega) hU (by omega) f1 (by rw [eU, eV]; exact f3)
      rw [eU, eV] at c6
      obtain ⟨gd1, gd2⟩ := guess_div f2 f3
      have hst := DivI.step b9 hI' hVB
      rw [eU] at hst
      obtain ⟨gV, egV⟩ : ∃ y, g * V = y := ⟨_, rfl⟩
      rw [egV] at c6 gd1 gd2 f3
      obtain ⟨d, ed⟩ : ∃ y, U / V = y := ⟨_, rfl⟩
      rw [ed] at hst gd1 gd2
      have f1 : g < 1000000000 := f1
      have hrow : ∀ d : Nat, (cW .i64 (List.replicate (j + 1) 0 ++ Q)).set j [.s (.int .i64 (d : Int))] = cW .i64 (List.replicate j 0 ++ (d :: Q)) := fun d => row_downK
      have g3' := hI'.2.2.1
      simp only at g3'
      by_cases hlt : U < gV
      · obtain ⟨k1, k2, k3⟩ := gd2 hlt
        rw [if_pos hlt, decide_eq_true hlt] at c6
        obtain ⟨X, eX⟩ : ∃ y, B9 ^ (n + 2) + U - gV = y := ⟨_, rfl⟩
        rw [eX] at c6
        have hXlt : X < B9 ^ (n + 2) := by omega
        have hpl := pad_len b9 hXlt
        have hwl : (win R j (pad B9 (n + 2) X)).length = R.length := win_len (by omega)
        have hwd : ((win R j (pad B9 (n + 2) X)).drop j).take (n + 2) = pad B9 (n + 2) X := by have := win_drop (R := R) (lo := j) (r := pad B9 (n + 2) X) (by omega); rwa [hpl] at this
        have c7 := fn_sPutBack (win R j (pad B9 (n + 2) X)) u j (n + 2) (U % V) (win_lt g2 (pad_lt b9 _ _)) hup.lt (by omega) hU (by omega) (by rw [hwd, vl_pad b9, eV]; omega) (by omega)
        have hY : U % V < B9 ^ (n + 3) := by
          have h1 : U % V < B9 ^ (n + 2) := by omega
          exact Nat.lt_of_lt_of_le h1 (Nat.pow_le_pow_right (by decide) (by omega))
        rw [win_win' (by rw [hpl, pad_len b9 hY]; omega) (by rw [pad_len b9 hY]; omega), hwl] at c7
        obtain ⟨R1, eR1⟩ : ∃ y, win R j (pad B9 (n + 3) (U % V)) = y := ⟨_, rfl⟩
        rw [eR1] at hst c7
        conv => whnf
        refine VCall.par1 78 c6 ⟨⟨rfl, rfl, by omega, rfl⟩, rfl, rfl, rfl, trivial⟩ rfl ?_
        conv => whnf
        refine Wr.i64 (y := (d : Int)) (by omega) (by omega) (by omega) ?_
        conv => whnf
        refine VCall.par1t 78 c7 ⟨⟨rfl, rfl, by omega, rfl⟩, rfl, rfl, trivial⟩ rfl ?_
        conv => whnf
        refine ⟨by omega, ?_⟩
        conv => whnf
        refine ⟨_, cW_at (i := j) (by rw [List.length_append, List.length_replicate]; omega), ?_⟩
        conv => whnf
        refine Wr.i64 (y := (j : Int) - 1) rfl (by omega) (by omega) ?_
        conv => whnf
        refine ⟨(j, R1, d :: Q), hst, by show j < j + 1; omega, ⟨rfl, rfl, rfl, rfl, rfl, rfl, trivial⟩, ?_, rfl, trivial⟩
        show Ob.row true 1 ((cW .i64 _).set j [.s (.int .i64 (d : Int))]) = _
        rw [hrow]
      · obtain ⟨k1, k2⟩ := gd1 (by omega)
        rw [if_neg hlt, decide_eq_false hlt, ← k2] at c6
        obtain ⟨R1, eR1⟩ : ∃ y, win R j (pad B9 (n + 3) (U % V)) = y := ⟨_, rfl⟩
        rw [eR1] at hst
        rw [show win R j (pad B9 (n + 2 + 1) (U % V)) = R1 from eR1] at c6
        have k1 : g = d := k1.symm
        conv => whnf
        refine VCall.par1 78 c6 ⟨⟨rfl, rfl, by omega, rfl⟩, rfl, rfl, rfl, trivial⟩ rfl ?_
        rw [k1]
        conv => whnf
        refine ⟨by omega, ?_⟩
        conv => whnf
        refine ⟨_, cW_at (i := j) (by rw [List.length_append, List.length_replicate]; omega), ?_⟩
        conv => whnf
        refine Wr.i64 (y := (j : Int) - 1) rfl (by omega) (by omega) ?_
        conv => whnf
        refine ⟨(j, R1, d :: Q), hst, by show j < j + 1; omega, ⟨rfl, rfl, rfl, rfl, rfl, rfl, trivial⟩, ?_, rfl, trivial⟩
        show Ob.row true 1 ((cW .i64 _).set j [.s (.int .i64 (d : Int))]) = _
        rw [hrow]
  · have hs0 : s.1 = 0 := by simp only [decide_eq_false_iff_not] at h3; omega
    obtain ⟨g1, g2, g3, g4, g5, g6⟩ := hI
    rw [hs0, List.drop_zero] at g5
    rw [hs0, Nat.pow_zero, Nat.one_mul] at g6
    obtain ⟨R, eR⟩ : ∃ R, s.2.1 = R := ⟨_, rfl⟩
    obtain ⟨Q, eQ⟩ : ∃ Q, s.2.2 = Q := ⟨_, rfl⟩
    rw [eR] at g1 g2 g5 g6
    rw [eQ] at g3 g4 g6
    have ct := fn_sTrim R g2 (by omega)
    obtain ⟨X, eX⟩ : ∃ y, vl B9 R = y := ⟨_, rfl⟩
    rw [eX] at ct g5 g6
    obtain ⟨e1, e2, e3⟩ := div_done (a := a) (b := b) (R := X) hk0 hV0 (g6.trans eA.symm) g5
    have hXs : bl X ≤ 1000000000000 := by
      have h1 := bl_mono (Nat.le_trans (Nat.le_add_right X _) (Nat.le_of_eq g6))
      rw [← eA] at h1
      have h2 := bl_mul a k
      have h3 : bl k ≤ 30 := bl_le (Nat.lt_trans hkB (by decide))
      omega
    have csd := fn_sShortDiv X k hXs hk0 (by omega)
    rw [← e2] at csd
    have ct1 := fn_sTrim Q g4 (by omega)
    rw [← e1] at ct1
    rw [eR, eQ, hs0]
    conv => whnf
    refine VCall.frz 78 ct rfl ⟨⟨rfl, rfl, by rw [cW_len]; omega, by rw [List.drop_zero, List.take_of_length_le (by rw [cW_len]; omega)]⟩, trivial⟩ (nd _) ?_
    conv => whnf
    refine VCall.of_data csd (ndT (fun k => rfl)) ?_
    conv => whnf
    refine VCall.frz 93 ct1 rfl ⟨⟨rfl, rfl, ?_, ?_⟩, trivial⟩ (nd _) ?_
    · rw [List.replicate_zero, List.nil_append, cW_len]; omega
    · rw [List.replicate_zero, List.nil_append, List.drop_zero, List.take_of_length_le (by rw [cW_len]; omega)]
    conv => whnf
    exact ⟨rfl, rfl, trivial, rfl⟩
theorem fn_sDiv (a b:Nat) (ha:bl a≤100000000000) (hb:bl b≤100000000000) (h0:b≠0):Fn Tryz.prog 114 [nS a,nS b] [] (.tup [nS (a / b),nS (a % b)]) []:=by
 by_cases h1:(dg B9 a).length≤2∧(dg B9 b).length≤2
 ·exact fn_sDivA a b h0 h1.1 h1.2
 ·rcases Nat.lt_or_ge a b with h | h
  ·exact fn_sDivB a b ha hb h h1
  ·rcases Nat.lt_or_ge b 1000000000 with h2 | h2
   ·exact fn_sDivC a b ha h0 h2 h h1
   ·refine fn_sDivD a b ha ?_ h h1;apply Nat.le_of_not_lt;intro h3;have h4:=lt_of_len b9 b;have h5:=Nat.pow_le_pow_right (by decide:0 < B9) (by omega:(dg B9 b).length≤1);have h6:B9 ^ 1=1000000000:=by decide
    omega
end Go.V
namespace Go.V
open Go.Proofs
set_option maxRecDepth 10000
set_option maxHeartbeats 1000000
abbrev rS (q:Rat):AV:=.ag [B (ng q),nS (tp q),nS q.den]
theorem fn_sGcd (a b:Nat) (ha:bl a≤100000000000) (hb:bl b≤100000000000):Fn Tryz.prog 113 [nS a,nS b] [] (nS (a.gcd b)) []:=by
 refine Fn.intro (ks:=[0,1,4,6,9]) hty rfl rfl rfl rfl rfl ?_;conv=>whnf
 refine VLoop.inv hty (S:=Nat×Nat) (fun s=>[(1,nS s.2),(0,nS s.1)]) (fun _=>[]) (fun s=>s.1.gcd s.2=a.gcd b∧bl s.1≤100000000000∧bl s.2≤100000000000) (fun s=>s.2) (a,b) ⟨rfl,ha,hb⟩ ⟨rfl,rfl,trivial⟩ trivial ?_;rintro s ⟨hg,h1,h2⟩;obtain ⟨x,ex⟩:∃x,s.1=x:=⟨_,rfl⟩;obtain ⟨y,ey⟩:∃x,s.2=x:=⟨_,rfl⟩;rw [ex,ey] at hg;rw [ex] at h1;rw [ey] at h2;rw [ex,ey];conv=>whnf
 refine Br.mk (fun h=>?_) (fun h=>?_)
 ·have hy0:y≠0:=by
   intro e;rw [e,dg_zero] at h;exact absurd h (by decide)
  conv=>whnf
  refine VCall.of_data (fn_sDiv x y h1 h2 hy0) (ndT (fun k=>rfl)) ?_;conv=>whnf
  refine ⟨(y,x % y),⟨?_,h2,Nat.le_trans (bl_mono (Nat.le_of_lt (Nat.mod_lt _ (Nat.pos_of_ne_zero hy0)))) h2⟩,Nat.mod_lt _ (Nat.pos_of_ne_zero hy0),⟨rfl,rfl,trivial⟩,trivial⟩;show y.gcd (x % y)=_;rw [Nat.gcd_comm,←Nat.gcd_rec,Nat.gcd_comm];exact hg
 ·have hy0:y=0:=by
   apply Classical.byContradiction;intro hne;have:=mt (dg_nil_iff b9 (n:=y)).1 hne;have h3:0 < (dg B9 y).length:=List.length_pos_iff.2 this;have:((cW .i64 (dg B9 y)).length:Int)=(dg B9 y).length:=by rw [cW_len]
   simp only [decide_eq_false_iff_not] at h;omega
  conv=>whnf
  exact ⟨by rw [←hg,hy0,Nat.gcd_zero_right],trivial,rfl⟩
theorem fn_sMake (s:Bool) (t b:Nat) (ht:bl t≤100000000000) (hb:bl b≤100000000000) (h0:b≠0):Fn Tryz.prog 95 [B s,nS t,nS b] [] (rS (mkRat (sgn s t) b)) []:=by
 obtain ⟨p1,p2,p3⟩:=mkRat_parts (s:=s) (t:=t) h0;have hg0:t.gcd b≠0:=fun e=>h0 (Nat.gcd_eq_zero_iff.1 e).2;have hgl:bl (t.gcd b)≤100000000000:=Nat.le_trans (bl_mono (Nat.gcd_le_right _ (Nat.pos_of_ne_zero h0))) hb;have cg:=fn_sGcd t b ht hb;have htg:(t / t.gcd b=0)↔t=0:=by
  constructor
  ·intro h;have h1:=Nat.div_mul_cancel (Nat.gcd_dvd_left t b);rw [h,Nat.zero_mul] at h1;exact h1.symm
  ·intro h;rw [h,Nat.zero_div]
 obtain ⟨g,eg⟩:∃g,t.gcd b=g:=⟨_,rfl⟩;rw [eg] at cg hg0 hgl p2 p3 htg;have hl:((cW .i64 (dg B9 (t / g))).length:Int)=(dg B9 (t / g)).length:=by rw [cW_len]
 have hz:=dg_len_zero b9 (n:=t / g);have cc:=fn_sCmp g 1 (by omega) (by decide);have hneg:(s && decide (0 < ((cW .i64 (dg B9 (t / g))).length:Int)))=(s && decide (t≠0)):=by
  congr 1
  apply decide_eq_decide.2;rw [hl];constructor
  ·intro h e;have:=hz.2 (htg.2 e);omega
  ·intro h;have:(dg B9 (t / g)).length≠0:=fun e=>h (htg.1 (hz.1 e));omega
 rw [show rS (mkRat (sgn s t) b) = .ag [B (s && decide (0 < ((cW .i64 (dg B9 (t / g))).length:Int))),nS (t / g),nS (b / g)] by rw [rS,p1,p2,p3,hneg]];refine Fn.intro (ks:=[0,1,2,6,7,14]) hty rfl rfl rfl rfl rfl ?_;conv=>whnf
 refine VCall.of_data cg (nd _) ?_;conv=>whnf
 refine VCall.frz 12 cc rfl ⟨rfl,⟨rfl,rfl,Nat.le_refl _,rfl⟩,trivial⟩ (nd _) ?_;conv=>whnf
 refine Br.mk (fun h=>?_) (fun h=>?_)
 ·conv=>whnf
  refine VCall.of_data (fn_sDiv t g ht hgl hg0) (ndT (fun k=>rfl)) ?_;conv=>whnf
  refine VCall.of_data (fn_sDiv b g hb hgl hg0) (ndT (fun k=>rfl)) ?_;conv=>whnf
  cases s
  ·conv=>whnf
   exact ⟨rfl,rfl,rfl,trivial,rfl⟩
  ·conv=>whnf
   exact ⟨rfl,rfl,rfl,trivial,rfl⟩
 ·have h:g=1:=cmpZ_zero.1 (by simpa using h);subst h;rw [Nat.div_one,Nat.div_one];conv=>whnf
  cases s
  ·conv=>whnf
   exact ⟨rfl,rfl,rfl,trivial,rfl⟩
  ·conv=>whnf
   exact ⟨rfl,rfl,rfl,trivial,rfl⟩
theorem fn_sInt (n:Int) (h1:-9223372036854775807≤n) (h2:n≤9223372036854775807):Fn Tryz.prog 50 [I n] [] (rS n) []:=by
 obtain ⟨e1,e2,e3⟩:=int_parts n;rw [show rS (n:Rat) = .ag [B (decide (n < 0)),nS n.natAbs,nS 1] by rw [rS,e1,e2,e3]];have cn:=fn_sNatD n.natAbs (by omega);refine Fn.intro (ks:=[0,2,4]) hty rfl rfl rfl rfl rfl ?_;conv=>whnf
 refine Br.mk (fun h=>?_) (fun h=>?_)
 ·have hn:n < 0:=by simpa only [decide_eq_true_eq] using h
  rw [decide_eq_true hn];conv=>whnf
  refine Wr.i64 (y:=((n.natAbs:Nat):Int)) (by omega) (by omega) (by omega) ?_;conv=>whnf
  refine VCall.of_data cn (nd _) ?_;conv=>whnf
  exact ⟨rfl,rfl,⟨rfl,Nat.le_refl _,rfl⟩,trivial,rfl⟩
 ·have hn:¬n < 0:=by simpa only [decide_eq_false_iff_not] using h
  rw [decide_eq_false hn];have en:n=((n.natAbs:Nat):Int):=by omega
  conv=>whnf
  refine VCall.of_data (by rw [←en] at cn;exact cn) (nd _) ?_;conv=>whnf
  exact ⟨rfl,rfl,⟨rfl,Nat.le_refl _,rfl⟩,trivial,rfl⟩
theorem fn_sOne:Fn Tryz.prog 49 [] [] (rS 1) []:=by
 have c:=fn_sInt 1 (by decide) (by decide)
 refine Fn.intro (ks:=[0]) hty rfl rfl rfl rfl rfl ?_
 conv=>whnf
 refine VCall.of_data c (ndA fun k=>rfl) ?_
 conv=>whnf
 exact ⟨rfl,rfl,rfl,trivial,rfl⟩
theorem fn_sNone:Fn Tryz.prog 93 [] [] (rS 0) []:=by
 have c:=fn_sInt 0 (by decide) (by decide)
 refine Fn.intro (ks:=[0]) hty rfl rfl rfl rfl rfl ?_
 conv=>whnf
 refine VCall.of_data c (ndA fun k=>rfl) ?_
 conv=>whnf
 exact ⟨rfl,rfl,rfl,trivial,rfl⟩
theorem fn_sSum (p q:Rat) (hp:sz p+sz q≤99999999999):Fn Tryz.prog 94 [rS p,rS q] [] (rS (p+q)) []:=by
 have b1:=bl_tp p;have b2:=bl_den p;have b3:=bl_tp q;have b4:=bl_den q;have k1:=bl_mul (tp p) q.den;have k2:=bl_mul (tp q) p.den;have k3:=bl_mul p.den q.den;have m1:=fn_sMul (tp p) q.den (by omega) (by omega);have m2:=fn_sMul (tp q) p.den (by omega) (by omega);have m3:=fn_sMul p.den q.den (by omega) (by omega);have hsum:=add_parts p q;have hb0:p.den*q.den≠0:=Nat.mul_ne_zero p.den_nz q.den_nz;obtain ⟨x,ex⟩:∃x,tp p*q.den=x:=⟨_,rfl⟩;obtain ⟨y,ey⟩:∃x,tp q*p.den=x:=⟨_,rfl⟩;obtain ⟨b,eb⟩:∃x,p.den*q.den=x:=⟨_,rfl⟩;rw [ex,ey,eb] at hsum;rw [ex] at k1 m1;rw [ey] at k2 m2;rw [eb] at k3 hb0 m3;have hbb:bl b≤100000000000:=by omega
 refine Fn.intro (ks:=[0,1,2,3,4,5,6,7,27,38]) hty rfl rfl rfl rfl rfl ?_;conv=>whnf
 refine VCall.of_data m1 (nd _) ?_;conv=>whnf
 refine VCall.of_data m2 (nd _) ?_;conv=>whnf
 refine VCall.of_data m3 (nd _) ?_;conv=>whnf
 refine Br.mk (fun h5=>?_) (fun h5=>?_)
 ·have h5:ng p=ng q:=by simpa using h5
  have er:p+q=mkRat (sgn (ng p) (x+y)) b:=by rw [hsum,sgn_add,if_pos h5]
  have hxy:=bl_add x y;rw [er];have ca:=(fn_sAddL x y (by omega) (by omega)).freeze (by rw [cW_len];omega);rw [List.drop_zero,List.take_of_length_le (by rw [cW_len];omega)] at ca;conv=>whnf
  refine VDraw.go hmo hty 7 [] rfl ?_;conv=>whnf
  refine QCall.of_data ca (nd _) ?_;conv=>whnf
  refine QCall.of_data (fn_sMake (ng p) (x+y) b (by omega) hbb hb0) (ndA fun k=>rfl) ?_;conv=>whnf
  exact ⟨rfl,rfl,rfl,trivial,rfl⟩
 ·have h5:¬ng p=ng q:=by simpa using h5
  conv=>whnf
  refine VCall.of_data (fn_sCmp x y (by omega) (by omega)) (nd _) ?_;conv=>whnf
  refine Br.mk (fun h6=>?_) (fun h6=>?_)
  ·have h6:y≤x:=cmpZ_nonneg.1 (by simpa only [decide_eq_true_eq] using h6);have er:p+q=mkRat (sgn (ng p) (x - y)) b:=by rw [hsum,sgn_add,if_neg h5,if_pos h6]
   have hxy:=bl_mono (Nat.sub_le x y);rw [er];conv=>whnf
   refine VDraw.go hmo hty 7 [] rfl ?_;conv=>whnf
   refine QCall.of_data (fn_sLess x y (by omega) h6) (nd _) ?_;conv=>whnf
   refine QCall.of_data (fn_sMake (ng p) (x - y) b (by omega) hbb hb0) (ndA fun k=>rfl) ?_;conv=>whnf
   exact ⟨rfl,rfl,rfl,trivial,rfl⟩
  ·have h6:¬y≤x:=fun h=>by simp only [decide_eq_false_iff_not] at h6;exact h6 (cmpZ_nonneg.2 h)
   have er:p+q=mkRat (sgn (ng q) (y - x)) b:=by rw [hsum,sgn_add,if_neg h5,if_neg h6]
   have hxy:=bl_mono (Nat.sub_le y x);rw [er];conv=>whnf
   refine VDraw.go hmo hty 7 [] rfl ?_;conv=>whnf
   refine QCall.of_data (fn_sLess y x (by omega) (by omega)) (nd _) ?_;conv=>whnf
   refine QCall.of_data (fn_sMake (ng q) (y - x) b (by omega) hbb hb0) (ndA fun k=>rfl) ?_;conv=>whnf
   exact ⟨rfl,rfl,rfl,trivial,rfl⟩
theorem fn_sOver (p q:Rat) (hp:sz p+sz q≤100000000000) (h0:q≠0):Fn Tryz.prog 75 [rS p,rS q] [] (rS (p / q)) []:=by
 have b1:=bl_tp p
 have b2:=bl_den p
 have b3:=bl_tp q
 have b4:=bl_den q
 have k1:=bl_mul (tp p) q.den
 have k3:=bl_mul p.den (tp q)
 have hb0:p.den*tp q≠0:=Nat.mul_ne_zero p.den_nz (fun e=>h0 (tp_zero.1 e))
 rw [div_parts p h0]
 refine Fn.intro (ks:=[0,1,2,3,4]) hty rfl rfl rfl rfl rfl ?_
 conv=>whnf
 refine VDraw.go hmo hty 16 [] rfl ?_
 conv=>whnf
 refine QCall.of_data (fn_sMul (tp p) q.den (by omega) (by omega)) (nd _) ?_
 conv=>whnf
 refine QCall.of_data (fn_sMul p.den (tp q) (by omega) (by omega)) (nd _) ?_
 conv=>whnf
 refine QCall.of_data (fn_sMake (ng p != ng q) (tp p*q.den) (p.den*tp q) (by omega) (by omega) hb0) (ndA fun k=>rfl) ?_
 conv=>whnf
 exact ⟨rfl,rfl,rfl,trivial,rfl⟩
end Go.V
namespace Go.V
open Go.Proofs
set_option maxRecDepth 10000
set_option maxHeartbeats 1000000
def c1S (q:Rat):List C:=[.s (.bool (ng q)),.sl (cW .i64 (dg B9 (tp q))),.sl (cW .i64 (dg B9 q.den))]
def cS (xs:List Rat):List (List C):=xs.map c1S
theorem cS_len (xs:List Rat):(cS xs).length=xs.length:=by simp [cS]
theorem cS_sz (xs:List Rat):∀r,r∈cS xs→r.length=3:=by
 intro r hr;simp only [cS,List.mem_map] at hr;obtain ⟨n,_,rfl⟩:=hr;rfl
theorem cS_as {xs:List Rat} {i:Nat} {x:Rat} (h:i < xs.length) (e:xs.getD i 0=x):(cS xs)[i]? = some (c1S x):=by
 subst e;rw [gD,List.getElem?_eq_getElem h];simp [cS,h]
abbrev lS (xs:List Rat):AV:=.d (.sl (cS xs))
theorem fn_sTotal (xs:List Rat) (m:Nat) (h:∀q,q∈xs→sz q≤m) (h1:1≤m) (hn:xs.length≤1000000) (hm:xs.length*(m+1)+m+1≤99999999999):Fn Tryz.prog 74 [lS xs] [] (rS (rsum xs)) []:=by
 have hl:((cS xs).length:Int)=xs.length:=by rw [cS_len]
 refine Fn.intro (ks:=[0,2,3,4,7,8,9]) hty rfl rfl rfl rfl rfl ?_;conv=>whnf
 refine VCall.of_data fn_sNone (ndA fun k=>rfl) ?_;conv=>whnf
 refine VLoop.inv hty (S:=Nat) (fun i=>[(8,I i),(7,I xs.length),(0,lS xs),(3,.lp 3 0),(2,.lp 2 0)])
  (fun i=>[(3,.box true [B (ng (psum xs i)),nS (tp (psum xs i)),nS (psum xs i).den]),(2,.box true (zeros (ty 89).zero))])
  (fun i=>i≤xs.length) (fun i=>xs.length - i) 0 (Nat.zero_le _) ⟨rfl,by show AV.d (.s (.int .i64 ((cS xs).length:Int)))=_;rw [cS_len],rfl,rfl,rfl,trivial⟩ ⟨rfl,rfl,trivial⟩ ?_
 intro i hi;conv=>whnf
 refine Br.mk (fun h2=>?_) (fun h2=>?_)
 ·have h2:i < xs.length:=by simp only [decide_eq_true_eq] at h2;omega
  obtain ⟨x,ex⟩:∃x,xs.getD i 0=x:=⟨_,rfl⟩;have sx:=getD_sz h i h1;have sp:=sz_psum h h1 i;have hi2:i*(m+1)≤xs.length*(m+1):=Nat.mul_le_mul_right _ hi;have er:psum xs (i+1)=psum xs i+x:=by rw [←ex];rfl
  rw [ex] at sx;have cc:=fn_sSum (psum xs i) x (by omega);rw [←er] at cc;conv=>whnf
  refine VDraw.go hmo hty 6 [] rfl ?_;conv=>whnf
  refine ⟨⟨⟨by omega,by omega⟩,cS_sz _⟩,?_⟩;conv=>whnf
  refine ⟨_,cS_as (x:=x) h2 ex,?_⟩;conv=>whnf
  refine QCall.of_data cc (ndA fun k=>rfl) ?_;conv=>whnf
  refine Wr.i64 (y:=((i+1:Nat):Int)) (by omega) (by omega) (by omega) ?_;conv=>whnf
  exact ⟨i+1,h2,by show xs.length - (i+1) < xs.length - i;omega,⟨rfl,rfl,rfl,rfl,rfl,trivial⟩,rfl,rfl,trivial⟩
 ·have h2:i=xs.length:=by simp only [decide_eq_false_iff_not] at h2;omega
  subst h2;conv=>whnf
  exact ⟨rfl,rfl,rfl,trivial,rfl⟩
end Go.V
namespace Go.V
theorem parseM_ok:∀(s:List UInt8) (acc:Nat),(∀b,b∈s→IsD b)→(acc+1)*10 ^ s.length≤10 ^ 18→Lib.parseUintM (2 ^ 64 - 1) acc s = .ok (dvA s acc)
 | [],acc,_,_=>rfl
 | b :: r,acc,h,hb=>by
  have h1:=h b (by simp);have e:(acc+1)*10 ^ (b :: r).length=(acc+1)*10*10 ^ r.length:=by rw [List.length_cons,Nat.pow_succ,Nat.mul_assoc,Nat.mul_comm 10]
  rw [e] at hb;have h2:(acc+1)*10*1≤(acc+1)*10*10 ^ r.length:=Nat.mul_le_mul_left _ (Nat.pow_pos (by decide));have h18:(10:Nat) ^ 18=1000000000000000000:=by decide
  have hd:b.toNat - 48≤9:=by have:=h1.2;omega
  have h64:(2:Nat) ^ 64 - 1=18446744073709551615:=by decide
  rw [Lib.parseUintM,if_pos (show 48≤b.toNat∧b.toNat≤57 from h1),if_neg (by omega),if_neg (by rw [h64];omega),dvA,Nat.mul_comm 10 acc];refine parseM_ok r _ (fun x hx=>h x (by simp [hx])) ?_;have h3:(acc*10+(b.toNat - 48)+1)*10 ^ r.length≤(acc+1)*10*10 ^ r.length:=Nat.mul_le_mul_right _ (by omega);omega
theorem parse_ok {s:List UInt8} (h:∀b,b∈s→IsD b) (h0:s≠[]) (hl:s.length≤18):Lib.parseUintB 64 s = .ok (dv s):=by
 rw [Lib.parseUintB,if_neg h0]
 refine parseM_ok s 0 h ?_
 rw [Nat.zero_add,Nat.one_mul]
 exact Nat.pow_le_pow_right (by decide) hl
theorem indexByte_spec (c:UInt8):∀s:List UInt8,(c ∉ s∧Lib.indexByte s c = -1)∨∃p r,s=p++c :: r∧c ∉ p∧Lib.indexByte s c=p.length
 | []=>.inl ⟨by simp,rfl⟩
 | b :: r=>by
  by_cases hb:b=c
  ·subst hb;exact .inr ⟨[],r,rfl,by simp,by simp [Lib.indexByte]⟩
  ·rcases indexByte_spec c r with ⟨h1,h2⟩ | ⟨p,q,h1,h2,h3⟩
   ·left
    refine ⟨by simp only [List.mem_cons,not_or];exact ⟨fun e=>hb e.symm,h1⟩,?_⟩;simp [Lib.indexByte,hb,h2]
   ·right
    refine ⟨b :: p,q,by rw [h1];rfl,by simp only [List.mem_cons,not_or];exact ⟨fun e=>hb e.symm,h2⟩,?_⟩;have:¬((p.length:Int) = -1):=by omega
    simp [Lib.indexByte,hb,h3,this]
def okN (s:List UInt8):Prop:=s≠[]∧s.length≤200∧(∀b,b∈s→IsD b)∧(s.length=1∨s.head? ≠ some 48)
instance (s:List UInt8):Decidable (okN s):=by unfold okN IsD;exact inferInstance
end Go.V
