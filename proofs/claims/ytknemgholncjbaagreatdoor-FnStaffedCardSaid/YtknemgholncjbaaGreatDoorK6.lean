/- Part 6: the abstract machine, its soundness, contracts of functions. -/
import Derived.Test.YtknemgholncjbaaGreatDoorK5
set_option linter.unusedVariables false
set_option linter.unusedSimpArgs false
namespace Go.V
section
variable {P:Program} {G:Ctx} {κ:Know} {ρ:Place} {t:TL} {l:LL} {a:Act} {w:World}
theorem Mem.toP (hm:Mem G κ ρ l w) {id:Nat} {cs:List C} (hl:lget id l = .box true (cs.map .d)) (hid:id < 1000000) (hok:okBL id l=true) :
  ∃ρ',Mem G κ ρ' ((id,.row true cs.length [cs]) :: l) w∧∀v x,AV.okB id x=true→AVR κ ρ v x→AVR κ ρ' v x:=by
 have hob:=hm.ob id
 rw [hl] at hob
 obtain ⟨L,arr,E,fz,hL,hh,hN,hfz,hcs⟩:=hob
 let L':Loc:=⟨L.b,L.o,L.N,1,L.ib⟩
 have hAV:∀v x,AV.okB id x=true→AVR κ ρ v x→AVR κ (ρ.put id (some L')) v x:=fun v x hx hv=>AVR.toB hL hv hx
 have hg:∀i,lget i ((id,.row true cs.length [cs]) :: l)=if i=id then .row true cs.length [cs] else lget i l:=fun i=>by rw [lget_cons]
 have hρ:∀{i Li},(ρ.put id (some L')) i=some Li→∃L0,ρ i=some L0∧∀b,Li.has b↔L0.has b:=fun {i Li} h=>by
  by_cases hi:i=id
  ·subst hi;rw [put_self] at h;cases h;exact ⟨L,hL,fun b=>Iff.rfl⟩
  ·rw [put_ne hi] at h;exact ⟨Li,h,fun b=>Iff.rfl⟩
 have hw:∀i,(lget i ((id,.row true cs.length [cs]) :: l)).wr=(lget i l).wr:=fun i=>by
  rw [hg];split
  ·rename_i e;subst e;rw [hl];rfl
  ·rfl
 refine ⟨ρ.put id (some L'),⟨fun i=>?_,fun i j Li Lj hij hi hj hwi b hb=>?_,fun i Li hi hwi b hb=>?_,fun i Li hi b hb=>?_,hm.kn,hm.one,hm.kn0,hm.fr,fun i Li h1 hi=>?_⟩,hAV⟩
 ·rw [hg]
  by_cases h1:i=id
  ·subst h1
   rw [if_pos rfl]
   refine ⟨L',arr,E,fz,put_self _ _,hh,hN,hfz,fun r hr=>by simp at hr;rw [hr],Nat.le_refl _,fun k c hc=>?_⟩
   have hc:cs[k]? = some c:=by simpa using hc
   obtain ⟨x,f1,f2,f3⟩:=hcs k (.d c) (by rw [List.getElem?_map,hc];rfl)
   exact ⟨x,f1,f2.repr,f3⟩
  ·rw [if_neg h1]
   refine (hm.ob i).move (Know.le_refl _) (by rw [put_ne h1]) (fun _ _ _ _=>rfl) fun m cs hb k c v hc hv=>hAV v c (okBs_get (okBL_get hok i m cs h1 hb) c (List.mem_of_getElem? hc)) hv
 ·obtain ⟨L1,g1,g2⟩:=hρ hi
  obtain ⟨L2,g3,g4⟩:=hρ hj
  rw [hw] at hwi
  exact fun e=>hm.sep i j L1 L2 hij g1 g3 hwi b ((g2 b).1 hb) ((g4 b).1 e)
 ·obtain ⟨L1,g1,g2⟩:=hρ hi
  rw [hw] at hwi
  exact hm.fre i L1 g1 hwi b ((g2 b).1 hb)
 ·obtain ⟨L1,g1,g2⟩:=hρ hi
  exact hm.own i L1 g1 b ((g2 b).1 hb)
 ·have:i≠id:=fun e=>by omega
  rw [put_ne this] at hi
  exact hm.par i Li h1 hi
def endP (ty:TypeId→Ty) (rs:List ResultVar) (id:Nat) (cs:List C) (e:Ex) (t:TL) (l:LL):Prop :=
 match e with
 | .x _=>False
 | _=>resK ty t l rs fun ys=>(ys=[.lp id 0]∧lget id l = .box true (cs.map .d))∧(okBL id l && Nat.blt id 1000000)=true
theorem Fn.introP {ty:TypeId→Ty} {ks:List Nat} {f:FuncId} {fn:Func} {c:Code} {xs:List AV} {l0:LL} (id:Nat) (cs:List C) (hty:TyOk P ty) (hf:P.funcs[f]? = some fn) (hb:fn.body=some c)
  (hname:(fn.name == "runtime.NumGoroutine")=false) (hx:Nat.ble xs.length fn.ntmps=true) (hd:dstCode fn.ntmps c=true)
  (h:vcCode P ty ks c (slots 0 xs) l0 (endP ty fn.results.toList id cs)):Fn P f xs l0 (.pe id 0 0 cs.length) [(id,.row true cs.length [cs])] where
 en:=⟨fn,hf,by rw [hb];rfl,hname⟩
 out:=fun κ ρ w vs hm hvs hv=>by
  have hxl:=Nat.le_of_ble_eq_true hx
  refine calls_of_wp hf hb (Code.wp_mono ?_ (vcCode_sound (G:=⟨w,Mof ρ l0,κ,fn.ntmps,ρ⟩) hty c _ κ ρ _ _ _ w hd ?_ h))
  ·rintro e a' w' ⟨x,κ',ρ',t',l',h1,h2,h3,h4⟩
   have key:endP ty fn.results.toList id cs .n t' l'→a'.defers=[]∧∃v,(results fn a'.tmps).run P w' = .ok v w'∧∃v_1 κ' ρ',Ending.returned v = .returned v_1∧κ.le κ'∧Mem ⟨w,Mof ρ l0,κ,0,ρ⟩ κ' ρ' [(id,.row true cs.length [cs])] w'∧AVR κ' ρ' v_1 (.pe id 0 0 cs.length):=by
    intro h4
    refine ⟨h3.df,?_⟩
    unfold endP at h4
    obtain ⟨us,ys,g1,g2,g3,g4⟩:=resK_sound hty h3 h4
    obtain ⟨⟨k6,hl⟩,q1⟩:=g4
    simp only [Bool.and_eq_true] at q1
    refine ⟨_,results_run g1,(if h:us.toArray.size=1 then us.toArray[0] else .tuple us.toArray),?_⟩
    have hm3:Mem ⟨w,Mof ρ l0,κ,0,ρ⟩ κ' ρ' l' w':=⟨h3.m.ob,h3.m.sep,h3.m.fre,h3.m.own,h3.m.kn,h3.m.one,h3.m.kn0,⟨h3.m.fr.os,h3.m.fr.tape,h3.m.fr.output,h3.m.fr.size,h3.m.fr.block⟩,h3.m.par⟩
    obtain ⟨ρ2,hm4,hAV⟩:=hm3.toP hl (Nat.le_of_ble_eq_true q1.2) q1.1
    have hr:Rel ⟨w,Mof ρ l0,κ,0,ρ⟩ κ' ρ2 [] ((id,.row true cs.length [cs]) :: l') ⟨Array.replicate 0 undef,[]⟩ w':=⟨hm4,rfl,by simp,fun i=>.j _⟩
    obtain ⟨ρ3,f1,f2⟩:=hr.less (t':=[]) (l':=[(id,.row true cs.length [cs])]) (fun i=>.inl rfl) (fun i=>by
     rw [lget_cons,lget_cons]
     by_cases hi:i=id
     ·rw [if_pos hi,if_pos hi];exact .inr rfl
     ·rw [if_neg hi];exact .inl rfl)
    have hl1:us.length=1:=by rw [g2,k6];rfl
    refine ⟨κ',ρ3,rfl,h2,f2.m,?_⟩
    match us,ys,hl1,k6,g2 with
    | [u],[y'],_,k6,_ =>
     have e:y' = .lp id 0:=by simpa using k6
     subst e
     have h5:=hAV u (.lp id 0) rfl (g3 0 u _ rfl rfl)
     show AVR κ' ρ3 u (.pe id 0 0 cs.length)
     cases h5 with
     | lp _ _ _ h6=>exact .pe _ _ _ _ _ fun L hL=>by rw [h6 L (f1 id L hL)];simp
   cases e with
   | normal=>have h1':some Ex.n=some x:=h1;cases h1';exact key h4
   | ret=>have h1':some Ex.r=some x:=h1;cases h1';exact key h4
   | exit id=>have h1':some (Ex.x id)=some x:=h1;cases h1';exact (show False from h4).elim
   | _=>simp [exOf] at h1
  ·refine ⟨⟨hm.ob,hm.sep,hm.fre,hm.own,hm.kn,hm.one,hm.kn0,⟨rfl,rfl,rfl,Nat.le_refl _,fun _ _ _=>rfl⟩,fun i L _ h=>h⟩,rfl,(by show (vs++Array.replicate (fn.ntmps - vs.size) undef).size=fn.ntmps;rw [Array.size_append,Array.size_replicate];omega),fun i=>?_⟩
   rw [get_slots,if_pos (Nat.zero_le _)]
   simp only [Nat.sub_zero]
   rcases Nat.lt_or_ge i vs.size with hlt | hge
   ·have h1:(vs++Array.replicate (fn.ntmps - vs.size) undef).getD i undef=vs[i]:=by
     rw [Array.getD_eq_getD_getElem?,Array.getElem?_append_left hlt,Array.getElem?_eq_getElem hlt];rfl
    rw [h1]
    have hix:i < xs.length:=by omega
    have h2:xs.getD i .j=xs[i]:=by simp [List.getD_eq_getElem?_getD,hix]
    rw [h2]
    exact hv i _ _ (by simp) (List.getElem?_eq_getElem hix)
   ·have:xs.getD i .j = .j:=by rw [List.getD_eq_getElem?_getD,List.getElem?_eq_none (by omega)];rfl
    rw [this];exact .j _
end
end Go.V
namespace Go.V
open Go.Proofs Go.RowKit
set_option maxRecDepth 10000
set_option maxHeartbeats 1000000
def tab (n:Nat) (f:Nat→Rat):List Rat:=(List.range n).map f
end Go.V
namespace Go.V
open Go.Proofs Go.RowKit
set_option maxRecDepth 10000
set_option maxHeartbeats 1000000
end Go.V
namespace Go.V
open Go.Proofs Go.RowKit
set_option maxRecDepth 10000
set_option maxHeartbeats 1000000
end Go.V
namespace Go.V
open Go.Proofs Go.RowKit
set_option maxRecDepth 10000
set_option maxHeartbeats 1000000
end Go.V
namespace Go.V
open Go.Proofs Go.RowKit
set_option maxRecDepth 10000
set_option maxHeartbeats 1000000
end Go.V
namespace Go.V
open Go.Proofs Go.RowKit
set_option maxRecDepth 10000
set_option maxHeartbeats 1000000
end Go.V
namespace Go.V
open Go.Proofs Go.RowKit
set_option maxRecDepth 10000
set_option maxHeartbeats 1000000
end Go.V
namespace Go.V
open Go.Proofs Go.RowKit
set_option maxRecDepth 10000
set_option maxHeartbeats 1000000
end Go.V
namespace Go.V
open Go.Proofs Go.RowKit
set_option maxRecDepth 10000
set_option maxHeartbeats 1000000
end Go.V
namespace Go.V
open Go.Proofs Go.RowKit
set_option maxRecDepth 10000
set_option maxHeartbeats 1000000
end Go.V
namespace Go.V
open Go.Proofs Go.RowKit
set_option maxRecDepth 10000
set_option maxHeartbeats 1000000
end Go.V
namespace Go.V
open Go.Proofs Go.RowKit
set_option maxRecDepth 10000
set_option maxHeartbeats 1000000
end Go.V
namespace Go.V
open Go.Proofs Go.RowKit
set_option maxRecDepth 10000
set_option maxHeartbeats 1000000
end Go.V
namespace Go.V
open Go.Proofs Go.RowKit
set_option maxRecDepth 10000
set_option maxHeartbeats 1000000
abbrev lB (bs:List Nat):AV:=.d (.sl (cW .u8 bs))
theorem fn_r8Long (a b:List Nat):Fn Tryz.prog 4 [lB a,lB b] [] (B (decide (48 < a.length) || decide (48 < b.length))) []:=by
 refine Fn.intro (ks:=[0,1,4]) hty rfl rfl rfl rfl rfl ?_
 conv=>whnf
 rw [cW_len]
 by_cases h:48 < a.length
 ·rw [show decide ((48:Int) < (a.length:Int))=true by simp;omega]
  conv=>whnf
  exact ⟨by simp [h],trivial,rfl⟩
 ·rw [show decide ((48:Int) < (a.length:Int))=false by simp;omega]
  conv=>whnf
  rw [cW_len]
  refine ⟨?_,trivial,rfl⟩
  rw [show decide ((48:Int) < (b.length:Int))=decide (48 < b.length) by rw [decide_eq_decide];omega]
  simp [h]
def at8 (a:List Nat) (k m:Nat):Nat:=if m≤1∨a.length≤k then 0 else a.getD k 0 % m
theorem fn_r8At (a:List Nat) (k m:Nat) (hm:m≤1000000) (hk:k≤1000000) (ha:∀x,x∈a→x < 256):Fn Tryz.prog 6 [lB a,I k,I m] [] (I (at8 a k m)) []:=by
 refine Fn.intro (ks:=[0,1,2,6,14]) hty rfl rfl rfl rfl rfl ?_
 conv=>whnf
 unfold at8
 by_cases h1:m≤1
 ·rw [show decide ((m:Int)≤1)=true by simp;omega]
  conv=>whnf
  exact ⟨by rw [if_pos (.inl h1)];rfl,trivial,rfl⟩
 ·rw [show decide ((m:Int)≤1)=false by simp;omega]
  conv=>whnf
  rw [cW_len]
  by_cases h2:a.length≤k
  ·rw [show decide ((a.length:Int)≤(k:Int))=true by simp;omega]
   conv=>whnf
   exact ⟨by rw [if_pos (.inr h2)];rfl,trivial,rfl⟩
  ·rw [show decide ((a.length:Int)≤(k:Int))=false by simp;omega]
   conv=>whnf
   obtain ⟨x,ex⟩:∃x,a.getD k 0=x:=⟨_,rfl⟩
   have hx:x < 256:=by rw [←ex,List.getD_eq_getElem?_getD,List.getElem?_eq_getElem (by omega)];exact ha _ (List.getElem_mem _)
   refine ⟨⟨⟨by omega,by rw [cW_len];omega⟩,cW_sz _ _⟩,?_⟩
   conv=>whnf
   refine ⟨_,cW_as (by omega) ex,?_⟩
   conv=>whnf
   refine Wr.fit (wrap_i64 (by omega) (by omega)) ?_
   conv=>whnf
   refine ⟨by omega,?_⟩
   conv=>whnf
   obtain ⟨y,ey⟩:∃y,x % m=y:=⟨_,rfl⟩
   have hy:(x:Int).tmod (m:Int)=(y:Int):=by rw [←ey];exact (Int.ofNat_tmod x m).symm
   have hyl:y≤x:=by rw [←ey];exact Nat.mod_le _ _
   rw [if_neg (by omega),ex,ey,hy]
   exact ⟨rfl,trivial,rfl⟩
end Go.V
namespace Go.V
open Go.Proofs Go.RowKit
set_option maxRecDepth 10000
set_option maxHeartbeats 1000000
structure Src where
 code:List Nat
 k:Nat
 seed:Nat
abbrev srcC (code:List Nat) (k seed:Nat):List C:=[.sl (cW .u8 code),.s (.int .i64 (k:Int)),.s (.int .u64 (seed:Int))]
abbrev srcO (code:List Nat) (k seed:Nat):Ob:=.row true 3 [srcC code k seed]
abbrev Src.o (s:Src):Ob:=srcO s.code s.k s.seed
def byS (code:List Nat) (k:Nat):Nat:=if k < code.length then code.getD k 0 else 0
def sdS (seed b:Nat):Nat:=(((seed*6364136223846793005) % 18446744073709551616+b) % 18446744073709551616+1442695040888963407) % 18446744073709551616
def nxS (code:List Nat) (k seed:Nat):Nat:=if k+1≤code.length then byS code k else sdS seed (byS code k) / 1099511627776 % 256
theorem byS_lt {code:List Nat} (hb:∀x,x∈code→x < 256) (k:Nat):byS code k < 256:=by
 unfold byS
 split
 ·rename_i h
  rw [List.getD_eq_getElem?_getD,List.getElem?_eq_getElem h];exact hb _ (List.getElem_mem _)
 ·decide
theorem sdS_lt (seed b:Nat):sdS seed b < 18446744073709551616:=Nat.mod_lt _ (by decide)
theorem nxS_lt {code:List Nat} (hb:∀x,x∈code→x < 256) (k seed:Nat):nxS code k seed < 256:=by
 unfold nxS
 split
 ·exact byS_lt hb k
 ·exact Nat.mod_lt _ (by decide)
theorem and255 {x:Nat} (hx:x < 18446744073709551616):(((BitVec.ofInt 64 (Int.fdiv (x:Int) (2 ^ (min ((40:Int)).toNat 64))) &&& BitVec.ofInt 64 255).toNat:Nat):Int) % 18446744073709551616=((x / 1099511627776 % 256:Nat):Int):=by
 have e0:(min ((40:Int)).toNat 64)=40:=by decide
 have e1:Int.fdiv (x:Int) (2 ^ 40)=((x / 2 ^ 40:Nat):Int):=by
  rw [Int.fdiv_eq_ediv_of_nonneg _ (Int.le_of_lt (Int.pow_pos (by decide))),Int.natCast_ediv,Int.natCast_pow]
  rfl
 rw [e0,e1,BitVec.ofInt_natCast,BitVec.toNat_and,BitVec.toNat_ofNat,Nat.mod_eq_of_lt (Nat.lt_of_le_of_lt (Nat.div_le_self _ _) (by omega))]
 rw [show (BitVec.ofInt 64 255).toNat=2 ^ 8 - 1 from rfl,Nat.and_two_pow_sub_one_eq_mod]
 omega
theorem fn_next (code:List Nat) (k seed:Nat) (hk:k≤1000000) (hl:code.length≤1000000) (hb:∀x,x∈code→x < 256) (hs:seed < 18446744073709551616) :
  Fn Tryz.prog 27 [.pe 1000000 0 0 3] [(1000000,srcO code k seed)] (I (nxS code k seed)) [(1000000,srcO code (k+1) (sdS seed (byS code k)))]:=by
 have hz:((cW .u8 code).length:Int)=code.length:=by rw [cW_len]
 refine Fn.intro (ks:=[0,2,3,13,53]) hty rfl rfl rfl rfl rfl ?_
 conv=>whnf
 have hb2:byS code k < 256:=byS_lt hb k
 obtain ⟨b,eb⟩:∃b,byS code k=b:=⟨_,rfl⟩
 unfold nxS
 rw [eb] at hb2 ⊢
 obtain ⟨m1,e1⟩:∃m,seed*6364136223846793005 % 18446744073709551616=m:=⟨_,rfl⟩
 obtain ⟨m2,e2⟩:∃m,(m1+b) % 18446744073709551616=m:=⟨_,rfl⟩
 obtain ⟨m3,e3⟩:∃m,(m2+1442695040888963407) % 18446744073709551616=m:=⟨_,rfl⟩
 have e4:sdS seed b=m3:=by unfold sdS;rw [e1,e2,e3]
 rw [e4]
 have f1:IntKind.u64.wrap ((seed:Int)*6364136223846793005)=(m1:Int):=by rw [wrap_u64];omega
 have f2:IntKind.u64.wrap ((m1:Int)+(b:Int))=(m2:Int):=by rw [wrap_u64];omega
 have f3:IntKind.u64.wrap ((m2:Int)+1442695040888963407)=(m3:Int):=by rw [wrap_u64];omega
 have hm3:m3 < 18446744073709551616:=by omega
 clear e1 e2 e3 e4
 refine VDraw.go hmo hty 10 [] rfl ?_
 conv=>whnf
 refine ⟨_,rfl,?_⟩
 conv=>whnf
 refine ⟨_,rfl,?_⟩
 conv=>whnf
 rw [hz]
 by_cases h:k < code.length
 ·rw [decide_eq_true (show (k:Int) < (code.length:Int) by omega)]
  have hby:code.getD k 0=b:=by rw [←eb];unfold byS;rw [if_pos h]
  conv=>whnf
  refine VDraw.go hmo hty 12 [] rfl ?_
  conv=>whnf
  refine ⟨_,rfl,?_⟩
  conv=>whnf
  refine ⟨_,rfl,?_⟩
  conv=>whnf
  refine ⟨⟨⟨by omega,by rw [cW_len];omega⟩,cW_sz _ _⟩,?_⟩
  conv=>whnf
  refine ⟨_,cW_as h hby,?_⟩
  conv=>whnf
  refine Wr.i64 (y:=(b:Int)) rfl (by omega) (by omega) ?_
  conv=>whnf
  refine ⟨_,rfl,?_⟩
  conv=>whnf
  refine Wr.i64 (y:=((k+1:Nat):Int)) rfl (by omega) (by omega) ?_
  conv=>whnf
  refine ⟨_,rfl,?_⟩
  conv=>whnf
  refine ⟨_,rfl,?_⟩
  conv=>whnf
  refine Wr.is f1 ?_
  conv=>whnf
  refine Wr.n64 (n:=b) rfl (by omega) ?_
  conv=>whnf
  refine Wr.is f2 ?_
  conv=>whnf
  refine Wr.is f3 ?_
  conv=>whnf
  refine ⟨_,rfl,?_⟩
  conv=>whnf
  refine VDraw.go hmo hty 10 [] rfl ?_
  conv=>whnf
  refine ⟨_,rfl,?_⟩
  conv=>whnf
  refine ⟨_,rfl,?_⟩
  conv=>whnf
  rw [hz]
  by_cases h5:k+1≤code.length
  ·rw [decide_eq_true (show ((k+1:Nat):Int)≤(code.length:Int) by omega),if_pos h5]
   conv=>whnf
   exact ⟨rfl,⟨rfl,trivial⟩,rfl⟩
  ·rw [decide_eq_false (show ¬((k+1:Nat):Int)≤(code.length:Int) by omega),if_neg h5]
   conv=>whnf
   refine ⟨_,rfl,?_⟩
   conv=>whnf
   refine ⟨by decide,?_⟩
   conv=>whnf
   refine Wr.is (y:=((m3 / 1099511627776 % 256:Nat):Int)) (by rw [wrap_u64];exact and255 hm3) ?_
   conv=>whnf
   refine Wr.i64 (y:=((m3 / 1099511627776 % 256:Nat):Int)) rfl (by omega) (by omega) ?_
   conv=>whnf
   exact ⟨rfl,⟨rfl,trivial⟩,rfl⟩
 ·rw [decide_eq_false (show ¬(k:Int) < (code.length:Int) by omega)]
  have hby:b=0:=by rw [←eb];unfold byS;rw [if_neg h]
  subst hby
  conv=>whnf
  refine ⟨_,rfl,?_⟩
  conv=>whnf
  refine Wr.i64 (y:=((k+1:Nat):Int)) rfl (by omega) (by omega) ?_
  conv=>whnf
  refine ⟨_,rfl,?_⟩
  conv=>whnf
  refine ⟨_,rfl,?_⟩
  conv=>whnf
  refine Wr.is f1 ?_
  conv=>whnf
  refine Wr.n64 (n:=0) rfl (by omega) ?_
  conv=>whnf
  refine Wr.is f2 ?_
  conv=>whnf
  refine Wr.is f3 ?_
  conv=>whnf
  refine ⟨_,rfl,?_⟩
  conv=>whnf
  refine VDraw.go hmo hty 10 [] rfl ?_
  conv=>whnf
  refine ⟨_,rfl,?_⟩
  conv=>whnf
  refine ⟨_,rfl,?_⟩
  conv=>whnf
  rw [hz]
  by_cases h5:k+1≤code.length
  ·rw [decide_eq_true (show ((k+1:Nat):Int)≤(code.length:Int) by omega),if_pos h5]
   conv=>whnf
   exact ⟨rfl,⟨rfl,trivial⟩,rfl⟩
  ·rw [decide_eq_false (show ¬((k+1:Nat):Int)≤(code.length:Int) by omega),if_neg h5]
   conv=>whnf
   refine ⟨_,rfl,?_⟩
   conv=>whnf
   refine ⟨by decide,?_⟩
   conv=>whnf
   refine Wr.is (y:=((m3 / 1099511627776 % 256:Nat):Int)) (by rw [wrap_u64];exact and255 hm3) ?_
   conv=>whnf
   refine Wr.i64 (y:=((m3 / 1099511627776 % 256:Nat):Int)) rfl (by omega) (by omega) ?_
   conv=>whnf
   exact ⟨rfl,⟨rfl,trivial⟩,rfl⟩
theorem fn_pick (code:List Nat) (k seed n:Nat) (h1:2≤n) (h2:n≤200) (hk:k≤1000000) (hl:code.length≤1000000) (hb:∀x,x∈code→x < 256) (hs:seed < 18446744073709551616) :
  Fn Tryz.prog 14 [.pe 1000000 0 0 3,I n] [(1000000,srcO code k seed)] (I ((nxS code k seed % n:Nat):Int)) [(1000000,srcO code (k+1) (sdS seed (byS code k)))]:=by
 have c1:=fn_next code k seed hk hl hb hs
 have hx:=nxS_lt hb k seed
 refine Fn.intro (ks:=[0,1,4,5,7,11]) hty rfl rfl rfl rfl rfl ?_
 conv=>whnf
 rw [decide_eq_false (show ¬(n:Int)≤1 by omega)]
 obtain ⟨x,ex⟩:∃x,nxS code k seed=x:=⟨_,rfl⟩
 rw [ex] at c1 hx ⊢
 conv=>whnf
 refine VCall.par1 1000000 c1 ⟨⟨rfl,rfl,rfl,rfl⟩,trivial⟩ rfl ?_
 conv=>whnf
 rw [decide_eq_false (show ¬(200:Int) < (n:Int) by omega)]
 conv=>whnf
 refine ⟨by omega,?_⟩
 conv=>whnf
 rw [show (x:Int).tmod (n:Int)=((x % n:Nat):Int) from (Int.ofNat_tmod x n).symm]
 exact ⟨rfl,⟨rfl,trivial⟩,rfl⟩
def seedN (code:List Nat):Nat→Nat
 | 0=>0
 | j+1=>sdS (seedN code j) (byS code j)
theorem seedN_lt (code:List Nat):∀j,seedN code j < 18446744073709551616
 | 0=>by show 0 < _;decide
 | j+1=>sdS_lt _ _
def dmN (code:List Nat):Nat:=1+nxS code 0 0 % 8
def dem (code:List Nat) (i:Nat):Int:=((nxS code (i+1) (seedN code (i+1)) % 6:Nat):Int)
def demL (code:List Nat):List Int:=(List.range (dmN code)).map (dem code)
theorem fn_from (code:List Nat):Fn Tryz.prog 13 [lB code] [] (.pe 5 0 0 3) [(5,srcO code 0 0)]:=by
 refine Fn.introP 5 (srcC code 0 0) (ks:=[0,2]) hty rfl rfl rfl rfl rfl ?_
 conv=>whnf
 exact ⟨⟨rfl,rfl⟩,rfl⟩
theorem fn_demands (code:List Nat) (hl:code.length≤1000000) (hb:∀x,x∈code→x < 256) :
  Fn Tryz.prog 5 [lB code] [] (.ls 0 0 (dmN code) 1) [(0,.row true 1 (cI (demL code)))]:=by
 have c1:=fn_from code
 have c2:=fn_pick code 0 0 8 (by decide) (by decide) (by decide) hl hb (by decide)
 have hx:nxS code 0 0 % 8 < 8:=Nat.mod_lt _ (by decide)
 unfold demL dmN
 obtain ⟨x,ex⟩:∃x,nxS code 0 0 % 8=x:=⟨_,rfl⟩
 rw [ex] at c2 hx ⊢
 refine Fn.intro (ks:=[0,2,3,4,5,13]) hty rfl rfl rfl rfl rfl ?_
 conv=>whnf
 have hnm:namesIn [(5,srcO code 0 0)] (.pe 5 0 0 3):=fun j hj=>by
  have e:5=j:=Nat.eq_of_beq_eq_true hj
  rw [lget_cons,if_pos e.symm];simp
 refine VCall.of_fn (k:=7) c1 hnm rfl ?_
 conv=>whnf
 refine VCall.par1 5007 c2 ⟨⟨rfl,rfl,rfl,rfl⟩,rfl,trivial⟩ rfl ?_
 conv=>whnf
 refine Wr.i64 (y:=((1+x:Nat):Int)) (by omega) (by omega) (by omega) ?_
 conv=>whnf
 refine VLoop.ren 8 20 rfl ?_
 refine VLoop.inv hty (S:=Nat) (fun j=>[(5,I ((1+x - j:Nat):Int)),(4,.ls 20 0 j 1),(3,.pe 5007 0 0 3)])
  (fun j=>[(5007,srcO code (j+1) (seedN code (j+1))),(20,.row true 1 (cI ((List.range j).map (dem code))))]) (fun j=>j≤1+x) (fun j=>1+x - j) 0 (Nat.zero_le _)
  ⟨rfl,rfl,rfl,trivial⟩ ⟨rfl,rfl,trivial⟩ ?_
 intro j hj
 conv=>whnf
 refine Br.mk (fun h=>?_) (fun h=>?_)
 ·have h:j < 1+x:=by simp only [decide_eq_true_eq] at h;omega
  have c3:=fn_pick code (j+1) (seedN code (j+1)) 6 (by decide) (by decide) (by omega) hl hb (seedN_lt _ _)
  have hF:((List.range j).map (dem code)).length=j:=by simp
  have hS:(List.range (j+1)).map (dem code)=(List.range j).map (dem code)++[dem code j]:=by rw [List.range_succ,List.map_append];rfl
  rw [show ((nxS code (j+1) (seedN code (j+1)) % 6:Nat):Int)=dem code j from rfl,show sdS (seedN code (j+1)) (byS code (j+1))=seedN code (j+1+1) from rfl] at c3
  obtain ⟨F,eF⟩:∃F,(List.range j).map (dem code)=F:=⟨_,rfl⟩
  rw [eF] at hF hS ⊢
  obtain ⟨y,ey⟩:∃y,dem code j=y:=⟨_,rfl⟩
  rw [ey] at c3 hS
  obtain ⟨sd,esd⟩:∃sd,seedN code (j+1+1)=sd:=⟨_,rfl⟩
  rw [esd] at c3
  conv=>whnf
  refine VCall.par1 5007 c3 ⟨⟨rfl,rfl,rfl,rfl⟩,rfl,trivial⟩ rfl ?_
  conv=>whnf
  refine Sub.full rfl ?_
  conv=>whnf
  refine Sub.full (by rw [cI_len];exact hF) ?_
  conv=>whnf
  refine ⟨by show (j+1)*8≤_;omega,?_⟩
  conv=>whnf
  refine Wr.i64 (y:=((1+x - (j+1):Nat):Int)) (by omega) (by omega) (by omega) ?_
  conv=>whnf
  refine ⟨j+1,h,by show 1+x - (j+1) < 1+x - j;omega,⟨rfl,rfl,rfl,trivial⟩,?_,?_,trivial⟩
  ·rw [esd];rfl
  ·rw [hS]
   show Ob.row true 1 (cI F++[[.s (.int .i64 y)]])=_
   simp [cI]
 ·have h:j=1+x:=by simp only [decide_eq_false_iff_not] at h;omega
  rw [h]
  conv=>whnf
  exact ⟨⟨rfl,rfl,rfl,rfl,rfl,rfl⟩,[],rfl,trivial,rfl⟩
end Go.V
namespace Go.V
open Go.Proofs Go.RowKit
set_option maxRecDepth 10000
set_option maxHeartbeats 1000000
theorem least_bd5 {xs:List Int} {n:Int} (hx:∀x,x∈xs→0≤x∧x≤5) (k:Nat) (hk:k≤xs.length):∀x,x∈least' xs n k→0≤x∧x≤5*k:=by
 induction k with
 | zero=>intro x hx;simp [least'] at hx;omega
 | succ k ih =>
  have ih:=ih (by omega)
  have hs:=staff_nn (n:=n) (s:=least' xs n k) (fun x h=>(ih x h).1) k
  have hk':k < xs.length:=by omega
  have hxk:=getD_mem hx hk'
  have hl:=least_len (xs:=xs) (n:=n) k
  refine mem_getD fun i hi=>?_
  rw [least_len] at hi
  have hi':=getD_mem ih (i:=i) (by omega)
  unfold least' stepL
  split
  ·rename_i hp
   rw [getD_set]
   split
   ·rename_i he
    have ha:=getD_mem ih (i:=atI xs n k) (by omega)
    unfold lackAt at hp ⊢
    omega
   ·omega
  ·omega
theorem good_of {xs:List Int} {n:Int} (hx:∀x,x∈xs→0≤x∧x≤5) (hl:1≤xs.length∧xs.length≤8) (hn:1≤n∧n≤xs.length):goodL xs n=true:=by
 have hx2:∀x,x∈xs→0≤x∧x≤1000:=fun x h=>by have:=hx x h;omega
 simp only [goodL,Bool.and_eq_true]
 refine ⟨(hoursB_iff _ _).2 ⟨⟨hl.1,by omega⟩,hn,hx2⟩,(least_startsB hn hx2 (by omega)).2 fun i hi=>?_⟩
 have:=getD_mem (least_bd5 (n:=n) hx xs.length (Nat.le_refl _)) (i:=i) (by rw [least_len];exact hi)
 omega
theorem staffed_of {xs:List Int} {n:Int} (hx:∀x,x∈xs→0≤x∧x≤5) (hl:1≤xs.length∧xs.length≤8) (hn:1≤n∧n≤xs.length):staffedB xs (least' xs n xs.length) n=true:=by
 have hg:=good_of hx hl hn
 simp only [goodL,Bool.and_eq_true] at hg
 have hd:=least_does hn
 unfold staffedB
 simp only [Bool.and_eq_true,decide_eq_true_eq,List.all_eq_true,List.mem_range]
 exact ⟨⟨⟨hg.1,(least_len _).symm⟩,hg.2⟩,fun h hh=>hd.met h (by rw [least_len] at hh;exact hh)⟩
theorem staffed_does {xs z:List Int} {n:Int} (h:staffedB xs z n=true):Does xs z n:=by
 unfold staffedB at h
 simp only [Bool.and_eq_true,decide_eq_true_eq,List.all_eq_true,List.mem_range] at h
 obtain ⟨⟨⟨h1,h2⟩,h3⟩,h4⟩:=h
 obtain ⟨g1,g2,g3,g4,g5⟩:=startsB_n h3
 have nn:∀i,0≤z.getD i 0:=fun i=>by
  by_cases hi:i < z.length
  ·exact (getD_mem g5 hi).1
  ·rw [List.getD_eq_getElem?_getD,List.getElem?_eq_none (by omega)];exact Int.le_refl _
 refine ⟨h2.symm,nn,fun i hi=>?_,fun i hi=>h4 i (by omega)⟩
 by_cases hz:i < z.length
 ·unfold startsB at h3
  simp only [Bool.and_eq_true,Bool.not_eq_true',List.any_eq_false,decide_eq_true_eq] at h3
  have hle:=h3.2 (z.getD i 0) (by
   rw [List.getD_eq_getElem?_getD,List.getElem?_eq_getElem hz]
   refine List.mem_iff_getElem?.2 ⟨i - ((z.length:Int) - n+1).toNat,?_⟩
   rw [List.getElem?_drop,show ((z.length:Int) - n+1).toNat+(i - ((z.length:Int) - n+1).toNat)=i by omega,List.getElem?_eq_getElem hz];rfl)
  have:=nn i
  omega
 ·rw [List.getD_eq_getElem?_getD,List.getElem?_eq_none (by omega)];rfl
theorem staffed_fewer {xs:List Int} {n:Int} (hn:1≤n∧n≤xs.length) {i:Nat} (hi:i < xs.length) (hp:0 < (least' xs n xs.length).getD i 0) :
  staffedB xs ((least' xs n xs.length).set i ((least' xs n xs.length).getD i 0 - 1)) n=false:=by
 obtain ⟨h,hh,h2⟩:=least_fewer hn hi hp
 refine Bool.eq_false_iff.2 fun e=>?_
 have:=(staffed_does e).met h hh
 omega
theorem dem_bd (code:List Nat):1≤(demL code).length∧(demL code).length≤8∧∀x,x∈demL code→0≤x∧x≤5:=by
 have h8:nxS code 0 0 % 8 < 8:=Nat.mod_lt _ (by decide)
 have hl:(demL code).length=dmN code:=by simp [demL]
 unfold dmN at hl
 refine ⟨by omega,by omega,fun x hx=>?_⟩
 obtain ⟨i,_,rfl⟩:=List.mem_map.1 hx
 have h6:nxS code (i+1) (seedN code (i+1)) % 6 < 6:=Nat.mod_lt _ (by decide)
 unfold dem
 omega
theorem fits_small {q:Rat} (h:sz q≤190):fitsQ q=true:=by
 have h1:=dd_bl (tp q)
 have h2:=dd_bl q.den
 have h3:=bl_tp q
 have h4:=bl_den q
 unfold fitsQ
 rw [decide_eq_true (by omega),decide_eq_true (by omega)];rfl
theorem fn_MakeFraction (a b:Nat) (ha:a≤1000000000) (hb:b≤1000000000) (h0:b≠0):Fn Tryz.prog 12 [I a,I b] [] (.tup [Str (toldT (mkRat a b)),B (fitsQ (mkRat a b))]) []:=by
 have c1:=fn_magnitude a (by omega) (by omega)
 have c2:=fn_magnitude b (by omega) (by omega)
 rw [show ((a:Int)).natAbs=a from Int.natAbs_natCast a] at c1
 rw [show ((b:Int)).natAbs=b from Int.natAbs_natCast b] at c2
 have k1:=fn_natOf a (by omega)
 have k2:=fn_natOf b (by omega)
 have la:bl a≤1000:=Nat.le_trans (bl_le (by omega:a < 2 ^ 40)) (by decide)
 have lb:bl b≤1000:=Nat.le_trans (bl_le (by omega:b < 2 ^ 40)) (by decide)
 have kl:=fn_lowest false a b (by omega) (by omega) h0
 have hz:sz (mkRat (sgn false a) b)≤100000000000:=Nat.le_trans (sz_mkRat h0) (by omega)
 have kt:=fn_told _ hz
 rw [sgn_f] at kl kt
 refine Fn.intro (ks:=[0,1,4,5,7]) hty rfl rfl rfl rfl rfl ?_
 conv=>whnf
 rw [decide_eq_false (show ¬(b:Int)=0 by omega)]
 conv=>whnf
 rw [decide_eq_false (show ¬(a:Int) < 0 by omega),decide_eq_false (show ¬(b:Int) < 0 by omega)]
 conv=>whnf
 refine VCall.of_data c1 (nd _) ?_
 conv=>whnf
 refine VCall.of_data k1 (nd _) ?_
 conv=>whnf
 refine VCall.of_data c2 (nd _) ?_
 conv=>whnf
 refine VCall.of_data k2 (nd _) ?_
 conv=>whnf
 refine VCall.of_data kl (ndA fun k=>rfl) ?_
 conv=>whnf
 refine VCall.of_data kt (ndT fun _=>rfl) ?_
 conv=>whnf
 exact ⟨rfl,rfl,trivial,rfl⟩
end Go.V
namespace Go.V
open Go.Proofs Go.RowKit
set_option maxRecDepth 10000
set_option maxHeartbeats 0
theorem fit_byte {c:C} (h:Fit c (.i .u8)):∃n:Nat,c = .s (.int .u8 (n:Int))∧n < 256:=by
 cases h with
 | i _ n h =>
  have h2:0≤n∧n < 256:=by
   simp [Lit.wf,IntKind.min,IntKind.max,IntKind.signed,IntKind.bits] at h
   omega
  exact ⟨n.toNat,by rw [Int.toNat_of_nonneg h2.1],by omega⟩
theorem fit_bytes {c:C} (h:Fit c (.sl [.i .u8])):∃xs:List Nat,c = .sl (cW .u8 xs)∧xs.length < 2 ^ 47∧∀x,x∈xs→x < 256:=by
 cases h with
 | sl rows _ h hl hf =>
  obtain ⟨xs,h1⟩:=rows_one (α:={ n:Nat // n < 256 }) (p:=fun c=>Fit c (.i .u8)) (g:=fun n=>.s (.int .u8 (n.1:Int))) (fun c hc=>by
   obtain ⟨n,h1,h2⟩:=fit_byte hc;exact ⟨⟨n,h2⟩,h1⟩) hl (fun r hr c hc=>hf r hr 0 c _ hc rfl)
  subst h1
  refine ⟨xs.map (·.1),by simp [cW],by have:=reach_lt;simp at h ⊢;omega,fun x hx=>?_⟩
  obtain ⟨y,_,rfl⟩:=List.mem_map.1 hx
  exact y.2
def othL (more:List Nat) (z:List Int) (n:Int):Nat→List Int
 | 0=>z
 | h+1=>if (h:Int)+n≤z.length then (othL more z n h).set h ((at8 more (1+h) 8:Nat):Int) else othL more z n h
theorem othL_len (more:List Nat) (z:List Int) (n:Int):∀h,(othL more z n h).length=z.length
 | 0=>rfl
 | h+1=>by
  unfold othL
  split
  ·rw [List.length_set];exact othL_len more z n h
  ·exact othL_len more z n h
theorem at8_lt (a:List Nat) (k:Nat):at8 a k 8 < 8:=by
 unfold at8
 split
 ·decide
 ·exact Nat.mod_lt _ (by decide)
theorem othL_bd {more:List Nat} {z:List Int} {n:Int} (hz:∀x,x∈z→0≤x∧x≤1000):∀h,∀x,x∈othL more z n h→0≤x∧x≤1000
 | 0=>hz
 | h+1=>by
  have ih:=othL_bd (more:=more) (n:=n) hz h
  unfold othL
  split
  ·intro x hx
   rcases List.mem_or_eq_of_mem_set hx with h1 | h1
   ·exact ih x h1
   ·have:=at8_lt more (1+h)
    subst h1;omega
  ·exact ih
def spS (a b:List Int):Nat→Int
 | 0=>0
 | h+1=>spS a b h+(a.getD h 0 - b.getD h 0)
theorem spS_pre (a b:List Int):∀h,spS a b h=pre a h - pre b h
 | 0=>by simp [spS,pre_zero]
 | h+1=>by
  have:=spS_pre a b h
  rw [pre_succ,pre_succ]
  show spS a b h+_=_
  omega
theorem pre_bd {z:List Int} {M:Int} (hz:∀x,x∈z→0≤x∧x≤M) (hM:0≤M):∀k:Nat,0≤pre z k∧pre z k≤k*M
 | 0=>by rw [pre_zero];omega
 | k+1=>by
  have ih:=pre_bd hz hM k
  have h1:0≤z.getD k 0∧z.getD k 0≤M:=by
   by_cases hk:k < z.length
   ·exact getD_mem hz hk
   ·rw [List.getD_eq_getElem?_getD,List.getElem?_eq_none (by omega)];exact ⟨Int.le_refl _,hM⟩
  rw [pre_succ]
  have:((k+1:Nat):Int)*M=k*M+M:=by rw [Int.natCast_add,Int.add_mul];simp
  omega
theorem allO_rep {α β:Type} {f:α→Option β} {a:α} {b:β} (h:f a=some b):∀k,allO f (List.replicate k a)=some (List.replicate k b)
 | 0=>rfl
 | k+1=>by
  have ih:=allO_rep h k
  rw [List.replicate_succ,List.replicate_succ]
  simp only [allO,h,ih]
  try rfl
theorem cost_of {z:List Int} {n:Int} (hs:startsB z n=true) (ht:∀i:Nat,(z.length:Int) - n < i→z.getD i 0=0):costQ z n (List.replicate z.length [49,47,50])=some (mkRat (n*z.sum) 2):=by
 obtain ⟨g1,g2,g3,g4,g5⟩:=startsB_n hs
 have hr:rdRats (List.replicate z.length [49,47,50])=some (List.replicate z.length (1 / 2)):=by
  unfold rdRats
  rw [List.length_replicate,if_neg (by omega)]
  exact allO_rep half_read _
 rw [costQ_some hr hs (by rw [List.length_replicate]),cost_half (staffs z n) _ (by rw [List.length_replicate,staffs_len]) (fun i hi=>by
  rw [List.length_replicate] at hi
  rw [List.getD_eq_getElem?_getD,List.getElem?_replicate,if_pos hi];rfl),staffs_sum z n ⟨g3,g4⟩ ht]
theorem law_staffed (code more:List Nat) (hc:code.length < 2 ^ 47) (hm:more.length < 2 ^ 47) (hbc:∀x,x∈code→x < 256) (hbm:∀x,x∈more→x < 256):Fn Tryz.prog 3 [lB code,lB more] [] (B true) []:=by
 refine Fn.intro (ks:=[0,1,4,5,6,7,8,9,10,11,12,13,14,15,16,17,18,19,20,21,22,23,24,25,26,27,30,88,94,118,131,136,146,163,167]) hty rfl rfl rfl rfl rfl ?_
 conv=>whnf
 refine VCall.of_data (fn_r8Long code more) (nd _) ?_
 conv=>whnf
 by_cases hL:code.length≤48∧more.length≤48
 case neg =>
  rw [show (decide (48 < code.length) || decide (48 < more.length))=true by simp;omega]
  conv=>whnf
  exact ⟨rfl,trivial,rfl⟩
 rw [show (decide (48 < code.length) || decide (48 < more.length))=false by simp;omega]
 have cd:=(fn_demands code (by omega) hbc).freeze (by rw [cI_len];simp [demL])
 rw [List.drop_zero,List.take_of_length_le (by rw [cI_len];simp [demL])] at cd
 obtain ⟨b1,b2,hx⟩:=dem_bd code
 generalize demL code=xs at cd b1 b2 hx
 have hzx:((cI xs).length:Int)=xs.length:=by rw [cI_len]
 have h4:min xs.length 4≤4∧1≤min xs.length 4∧min xs.length 4≤xs.length:=by omega
 have ca:=fn_r8At more 0 (min xs.length 4) (by omega) (by decide) hbm
 have ha4:at8 more 0 (min xs.length 4) < min xs.length 4:=by
  unfold at8
  split
  ·omega
  ·exact Nat.mod_lt _ (by omega)
 generalize at8 more 0 (min xs.length 4)=a at ca ha4
 obtain ⟨n,en⟩:∃n:Nat,1+a=n:=⟨_,rfl⟩
 have hn:1≤(n:Int)∧(n:Int)≤xs.length:=by omega
 have hn4:n≤4:=by omega
 have hg:=good_of hx ⟨b1,b2⟩ hn
 have hst:=staffed_of hx ⟨b1,b2⟩ hn
 have hdo:=least_does hn
 have hfe:=fun i=>staffed_fewer (xs:=xs) (n:=(n:Int)) hn (i:=i)
 have hle:=fun z=>least_sum_le (xs:=xs) (z:=z) (n:=(n:Int)) hn
 have c1:=(fn_LeastStaff1 xs n hg).freezeT (by rw [cI_len,least_len];omega) rfl
 rw [List.drop_zero,List.take_of_length_le (by rw [cI_len,least_len];exact Nat.le_refl _)] at c1
 have hzl:=least_len (xs:=xs) (n:=(n:Int)) xs.length
 generalize least' xs n xs.length=z at c1 hzl hst hdo hfe hle
 have hmet:metB xs z n=true:=by rw [←staffed_eq];exact hst
 obtain ⟨_,_,_,hss⟩:=metB_n hmet
 obtain ⟨g1,g2,g3,g4,g5⟩:=startsB_n hss
 have hcost:=cost_of hss (fun i hi=>hdo.tl i (by omega))
 have hsum:=staffs_sum z n (by omega) (fun i hi=>hdo.tl i (by omega))
 have hss0:=(pre_bd g5 (by decide) z.length).1
 have hss1:=(pre_bd g5 (by decide) z.length).2
 rw [pre_all z (Nat.le_refl _)] at hss0 hss1
 obtain ⟨S,eS⟩:∃S:Nat,z.sum=S:=⟨z.sum.toNat,by omega⟩
 have hS:S≤8000:=by omega
 have hSn:S*n≤8000*4:=Nat.mul_le_mul hS hn4
 rw [eS,show (n:Int)*(S:Int)=((S*n:Nat):Int) by rw [Int.natCast_mul,Int.mul_comm]] at hcost hsum
 have cco:=fn_CostOf z n (List.replicate z.length [49,47,50]) (by omega) (by rw [List.length_replicate];omega) (fun x hx=>by rw [(List.mem_replicate.1 hx).2];decide)
 rw [hcost] at cco
 replace cco:Fn Tryz.prog 11 [.d (.sl (cI z)),I n,lT (List.replicate z.length [49,47,50])] [] (.tup [Str (toldT (mkRat (S*n:Nat) 2)),B (fitsQ (mkRat (S*n:Nat) 2))]) []:=cco
 have cmf:=fn_MakeFraction (S*n) 2 (by omega) (by decide) (by decide)
 have hfit:fitsQ (mkRat ((S*n:Nat):Int) 2)=true:=fits_small (by
  have h:=sz_mkRat (s:=false) (t:=S*n) (b:=2) (by decide)
  rw [sgn_f] at h
  have h2:bl (S*n)≤40:=bl_le (by omega)
  have h3:bl 2≤40:=by decide
  omega)
 rw [hfit] at cco cmf
 generalize toldT (mkRat ((S*n:Nat):Int) 2)=r2 at cco cmf
 have cst:=(fn_StaffAt1 z n (by omega) hss).freezeT (by rw [cI_len,staffs_len];omega) rfl
 rw [List.drop_zero,List.take_of_length_le (by rw [cI_len,staffs_len];exact Nat.le_refl _)] at cst
 have cid:=fn_IdleHours1 xs z n (by omega) (by omega) hmet
 unfold idleOf at cid
 have cis:=fn_IsStaffed xs z n (by omega) (by omega)
 rw [hst] at cis
 have hfl:=staffs_len z n
 have hfb:=staffs_mem (n:=(n:Int)) g5 g2
 generalize staffs z n=sf at cst cid hsum hfl hfb
 rw [hsum] at cid
 rw [eS] at c1
 have hzf:((cI sf).length:Int)=xs.length:=by rw [cI_len,hfl,hzl]
 have hzz:((cI z).length:Int)=xs.length:=by rw [cI_len,hzl]
 conv=>whnf
 refine VCall.of_data cd (nd _) ?_
 conv=>whnf
 rw [hzx,show min ((xs.length:Nat):Int) 4=((min xs.length 4:Nat):Int) by omega]
 refine VCall.of_data ca (nd _) ?_
 conv=>whnf
 refine Wr.i64 (y:=(n:Int)) (by omega) (by omega) (by omega) ?_
 conv=>whnf
 refine VCall.of_data c1 (ndT fun _=>rfl) ?_
 conv=>whnf
 refine VCall.of_data cst (ndT fun _=>rfl) ?_
 conv=>whnf
 refine VCall.of_data cid (ndT fun _=>rfl) ?_
 conv=>whnf
 refine VCall.of_data cis (nd _) ?_
 conv=>whnf
 rw [hzf,decide_eq_true (rfl:((xs.length:Nat):Int)=(xs.length:Int))]
 conv=>whnf
 rw [hzz,decide_eq_true (rfl:((xs.length:Nat):Int)=(xs.length:Int))]
 conv=>whnf
 refine ⟨cI_sz _,?_⟩
 conv=>whnf
 refine Sub.full rfl ?_
 conv=>whnf
 refine ⟨by show (0+(cI z).length)*8≤_;rw [cI_len];omega,?_⟩
 conv=>whnf
 refine VLoop.inv hty (S:=Nat) (fun h=>[(18,I h),(17,.ls 91 0 xs.length 1),(16,I (spS sf xs h)),(15,I (pre z h)),(13,I (((S*n:Nat):Int) - xs.sum)),(11,.d (.sl (cI sf))),(9,I S),(8,.d (.sl (cI z))),(7,I n),(6,I xs.length),(5,.d (.sl (cI xs))),(1,lB more)])
  (fun h=>[(91,.row true 1 (cI (othL more z n h)))]) (fun h=>h≤xs.length) (fun h=>xs.length - h) 0 (Nat.zero_le _)
  ⟨rfl,?_,rfl,rfl,rfl,rfl,rfl,rfl,rfl,rfl,rfl,rfl,trivial⟩ ⟨rfl,trivial⟩ ?_
 ·show AV.ls 91 0 (0+(cI z).length) 1=_
  rw [cI_len,hzl,Nat.zero_add]
 intro h hh
 conv=>whnf
 refine Br.mk (fun h2=>?_) (fun h2=>?_)
 ·have h2:h < xs.length:=by simp only [decide_eq_true_eq] at h2;omega
  have hol:=othL_len more z n h
  have ho1:othL more z n (h+1)=if (h:Int)+n≤z.length then (othL more z n h).set h ((at8 more (1+h) 8:Nat):Int) else othL more z n h:=rfl
  have hp1:=pre_succ z h
  have hs1:spS sf xs (h+1)=spS sf xs h+(sf.getD h 0 - xs.getD h 0):=rfl
  obtain ⟨p1,p2⟩:=pre_bd g5 (by decide) h
  have hs2:=spS_pre sf xs h
  obtain ⟨p3,p4⟩:=pre_bd hfb (by decide) h
  obtain ⟨p5,p6⟩:=pre_bd hx (by decide) h
  obtain ⟨q1,q2⟩:=getD_mem g5 (i:=h) (by omega)
  obtain ⟨q3,q4⟩:=getD_mem hfb (i:=h) (by omega)
  obtain ⟨q5,q6⟩:=getD_mem hx (i:=h) h2
  have hfe:=hfe h h2
  have c8:=fn_r8At more (1+h) 8 (by decide) (by omega) hbm
  have v8:=at8_lt more (1+h)
  obtain ⟨zv,ez⟩:∃v,z.getD h 0=v:=⟨_,rfl⟩
  obtain ⟨fv,ef⟩:∃v,sf.getD h 0=v:=⟨_,rfl⟩
  obtain ⟨xv,ex⟩:∃v,xs.getD h 0=v:=⟨_,rfl⟩
  rw [ez] at hp1 q1 q2 hfe
  rw [ef] at hs1 q3 q4
  rw [ex] at hs1 q5 q6
  generalize pre z h=Pz at hp1 p1 p2 ⊢
  generalize spS sf xs h=Q at hs1 hs2 ⊢
  generalize othL more z n h=O at hol ho1 ⊢
  generalize at8 more (1+h) 8=v at c8 v8 ho1
  have cis2:=fn_IsStaffed xs (z.set h (zv - 1)) n (by omega) (by rw [List.length_set];omega)
  have hl2:∀l:LL,lget 121 l = .row true 1 ((cI z).set h [.s (.int .i64 (zv - 1))])→lend1 l (.ls 121 0 (0+(cI z).length) 1) (.d (.sl (cI (z.set h (zv - 1))))):=fun l e=>lend_I (by rw [e,cI_set]) (by rw [List.length_set,cI_len,Nat.zero_add])
  conv=>whnf
  refine ⟨⟨⟨by omega,by rw [cI_len];omega⟩,cI_sz _⟩,?_⟩
  conv=>whnf
  refine ⟨_,cI_as (by omega) ez,?_⟩
  conv=>whnf
  refine Wr.i64 (y:=Pz+zv) rfl (by omega) (by omega) ?_
  conv=>whnf
  refine VDraw.go hmo hty 11 [] rfl ?_
  conv=>whnf
  refine ⟨⟨⟨by omega,by rw [cI_len];omega⟩,cI_sz _⟩,?_⟩
  conv=>whnf
  refine ⟨_,cI_as (by omega) ef,?_⟩
  conv=>whnf
  refine ⟨⟨⟨by omega,by rw [cI_len];omega⟩,cI_sz _⟩,?_⟩
  conv=>whnf
  refine ⟨_,cI_as (by omega) ex,?_⟩
  conv=>whnf
  refine Wr.i64 (y:=fv - xv) rfl (by omega) (by omega) ?_
  conv=>whnf
  refine Wr.i64 (y:=Q+(fv - xv)) rfl (by omega) (by omega) ?_
  conv=>whnf
  refine ⟨⟨⟨by omega,by rw [cI_len];omega⟩,cI_sz _⟩,?_⟩
  conv=>whnf
  refine ⟨_,cI_as (by omega) ez,?_⟩
  conv=>whnf
  by_cases hv:0 < zv
  ·rw [decide_eq_true hv]
   rw [hfe hv] at cis2
   conv=>whnf
   refine ⟨cI_sz _,?_⟩
   conv=>whnf
   refine Sub.full rfl ?_
   conv=>whnf
   refine ⟨by show (0+(cI z).length)*8≤_;rw [cI_len];omega,?_⟩
   conv=>whnf
   refine ⟨⟨by omega,by show (h:Int) < ((0+(cI z).length:Nat):Int);rw [cI_len];omega⟩,?_⟩
   conv=>whnf
   refine ⟨_,cI_as (l:=z) (by omega) ez,?_⟩
   conv=>whnf
   refine Wr.i64 (y:=zv - 1) rfl (by omega) (by omega) ?_
   conv=>whnf
   refine ⟨⟨by omega,by show (h:Int) < ((0+(cI z).length:Nat):Int);rw [cI_len];omega⟩,?_⟩
   conv=>whnf
   refine ⟨_,cI_as (l:=z) (by omega) ez,?_⟩
   conv=>whnf
   refine VCall.lend cis2 ⟨rfl,hl2 _ rfl,rfl,trivial⟩ rfl ?_
   conv=>whnf
   refine Wr.i64 (y:=((h+n:Nat):Int)) (by omega) (by omega) (by omega) ?_
   conv=>whnf
   by_cases hw:h+n≤xs.length
   ·rw [decide_eq_true (show ((h+n:Nat):Int)≤(xs.length:Int) by omega)]
    rw [if_pos (by omega)] at ho1
    conv=>whnf
    refine Wr.i64 (y:=((1+h:Nat):Int)) (by omega) (by omega) (by omega) ?_
    conv=>whnf
    refine VCall.of_data c8 (nd _) ?_
    conv=>whnf
    refine ⟨⟨by omega,by omega⟩,?_⟩
    conv=>whnf
    refine ⟨_,cI_as (l:=O) (by omega) rfl,?_⟩
    conv=>whnf
    refine Wr.i64 (y:=((h+1:Nat):Int)) rfl (by omega) (by omega) ?_
    conv=>whnf
    refine ⟨h+1,h2,by show xs.length - (h+1) < xs.length - h;omega,⟨rfl,rfl,?_,?_,rfl,rfl,rfl,rfl,rfl,rfl,rfl,rfl,trivial⟩,?_,trivial⟩
    ·rw [hs1];rfl
    ·rw [hp1];rfl
    ·rw [ho1]
     show Ob.row true 1 ((cI O).set h [.s (.int .i64 (v:Int))])=_
     rw [cI_set]
   ·rw [decide_eq_false (show ¬((h+n:Nat):Int)≤(xs.length:Int) by omega)]
    rw [if_neg (by omega)] at ho1
    conv=>whnf
    refine Wr.i64 (y:=((h+1:Nat):Int)) rfl (by omega) (by omega) ?_
    conv=>whnf
    refine ⟨h+1,h2,by show xs.length - (h+1) < xs.length - h;omega,⟨rfl,rfl,?_,?_,rfl,rfl,rfl,rfl,rfl,rfl,rfl,rfl,trivial⟩,?_,trivial⟩
    ·rw [hs1];rfl
    ·rw [hp1];rfl
    ·rw [ho1];rfl
  ·rw [decide_eq_false hv]
   conv=>whnf
   refine Wr.i64 (y:=((h+n:Nat):Int)) (by omega) (by omega) (by omega) ?_
   conv=>whnf
   by_cases hw:h+n≤xs.length
   ·rw [decide_eq_true (show ((h+n:Nat):Int)≤(xs.length:Int) by omega)]
    rw [if_pos (by omega)] at ho1
    conv=>whnf
    refine Wr.i64 (y:=((1+h:Nat):Int)) (by omega) (by omega) (by omega) ?_
    conv=>whnf
    refine VCall.of_data c8 (nd _) ?_
    conv=>whnf
    refine ⟨⟨by omega,by omega⟩,?_⟩
    conv=>whnf
    refine ⟨_,cI_as (l:=O) (by omega) rfl,?_⟩
    conv=>whnf
    refine Wr.i64 (y:=((h+1:Nat):Int)) rfl (by omega) (by omega) ?_
    conv=>whnf
    refine ⟨h+1,h2,by show xs.length - (h+1) < xs.length - h;omega,⟨rfl,rfl,?_,?_,rfl,rfl,rfl,rfl,rfl,rfl,rfl,rfl,trivial⟩,?_,trivial⟩
    ·rw [hs1];rfl
    ·rw [hp1];rfl
    ·rw [ho1]
     show Ob.row true 1 ((cI O).set h [.s (.int .i64 (v:Int))])=_
     rw [cI_set]
   ·rw [decide_eq_false (show ¬((h+n:Nat):Int)≤(xs.length:Int) by omega)]
    rw [if_neg (by omega)] at ho1
    conv=>whnf
    refine Wr.i64 (y:=((h+1:Nat):Int)) rfl (by omega) (by omega) ?_
    conv=>whnf
    refine ⟨h+1,h2,by show xs.length - (h+1) < xs.length - h;omega,⟨rfl,rfl,?_,?_,rfl,rfl,rfl,rfl,rfl,rfl,rfl,rfl,trivial⟩,?_,trivial⟩
    ·rw [hs1];rfl
    ·rw [hp1];rfl
    ·rw [ho1];rfl
 have h2:h=xs.length:=by simp only [decide_eq_false_iff_not] at h2;omega
 rw [h2]
 have hol:=othL_len more z n xs.length
 have hob:=othL_bd (more:=more) (n:=(n:Int)) g5 xs.length
 generalize othL more z n xs.length=o at hol hob ⊢
 have cis3:=fn_IsStaffed xs o n (by omega) (by omega)
 have hso:staffedB xs o n=true→(S:Int)≤o.sum:=fun e=>by rw [←eS];exact hle o (staffed_does e)
 have ez1:pre z xs.length=(S:Int):=by rw [pre_all z (by omega),eS]
 have ez2:spS sf xs xs.length=((S*n:Nat):Int) - xs.sum:=by rw [spS_pre,pre_all sf (by omega),pre_all xs (Nat.le_refl _),hsum]
 rw [ez1,ez2]
 have hps:=fun k=>pre_bd hob (by decide) k
 have hpn:=fun k=>pre_succ o k
 have hpo:pre o xs.length=o.sum:=pre_all o (by omega)
 conv=>whnf
 refine VLoop.inv hty (S:=Nat) (fun k=>[(21,I k),(20,I (pre o k)),(17,.ls 91 0 xs.length 1),(16,I (((S*n:Nat):Int) - xs.sum)),(15,I S),(13,I (((S*n:Nat):Int) - xs.sum)),(9,I S),(8,.d (.sl (cI z))),(7,I n),(6,I xs.length),(5,.d (.sl (cI xs)))])
  (fun _=>[(91,.row true 1 (cI o))]) (fun k=>k≤xs.length) (fun k=>xs.length - k) 0 (Nat.zero_le _)
  ⟨rfl,rfl,rfl,rfl,rfl,rfl,rfl,rfl,rfl,rfl,rfl,trivial⟩ ⟨rfl,trivial⟩ ?_
 intro k hk
 conv=>whnf
 refine Br.mk (fun h3=>?_) (fun h3=>?_)
 ·have h3:k < xs.length:=by simp only [decide_eq_true_eq] at h3;omega
  have hps:=hps k
  have hpn:=hpn k
  obtain ⟨q1,q2⟩:=getD_mem hob (i:=k) (by omega)
  obtain ⟨v,ev⟩:∃v,o.getD k 0=v:=⟨_,rfl⟩
  rw [ev] at hpn q1 q2
  generalize pre o k=P at hpn hps ⊢
  conv=>whnf
  refine ⟨⟨by omega,by omega⟩,?_⟩
  conv=>whnf
  refine ⟨_,cI_as (by omega) ev,?_⟩
  conv=>whnf
  refine Wr.i64 (y:=P+v) rfl (by omega) (by omega) ?_
  conv=>whnf
  refine Wr.i64 (y:=((k+1:Nat):Int)) rfl (by omega) (by omega) ?_
  conv=>whnf
  refine ⟨k+1,h3,by show xs.length - (k+1) < xs.length - k;omega,⟨rfl,?_,rfl,rfl,rfl,rfl,rfl,rfl,rfl,rfl,rfl,trivial⟩,rfl,trivial⟩
  rw [hpn];rfl
 have h3:k=xs.length:=by simp only [decide_eq_false_iff_not] at h3;omega
 rw [h3,hpo]
 generalize o.sum=so at hso ⊢
 generalize staffedB xs o n=sb at cis3 hso
 conv=>whnf
 refine VCall.lend cis3 ⟨rfl,lend_I rfl (by omega),rfl,trivial⟩ rfl ?_
 conv=>whnf
 cases sb with
 | true =>
  conv=>whnf
  rw [decide_eq_false (show ¬so < (S:Int) by have:=hso rfl;omega)]
  conv=>whnf
  refine VLoop.ren 164 172 rfl ?_
  refine VLoop.inv hty (S:=Nat) (fun k=>[(23,I k),(22,.ls 172 0 k 1),(16,I (((S*n:Nat):Int) - xs.sum)),(15,I S),(13,I (((S*n:Nat):Int) - xs.sum)),(9,I S),(8,.d (.sl (cI z))),(7,I n),(6,I xs.length)])
   (fun k=>[(172,.row true 1 (cT (List.replicate k [49,47,50])))]) (fun k=>k≤xs.length) (fun k=>xs.length - k) 0 (Nat.zero_le _)
   ⟨rfl,rfl,rfl,rfl,rfl,rfl,rfl,rfl,rfl,trivial⟩ ⟨rfl,trivial⟩ ?_
  intro k hk
  conv=>whnf
  refine Br.mk (fun h3=>?_) (fun h3=>?_)
  ·have h3:k < xs.length:=by simp only [decide_eq_true_eq] at h3;omega
   conv=>whnf
   refine Sub.full rfl ?_
   conv=>whnf
   refine Sub.full (by rw [cT_len,List.length_replicate]) ?_
   conv=>whnf
   refine ⟨by show (k+1)*16≤_;omega,?_⟩
   conv=>whnf
   refine Wr.i64 (y:=((k+1:Nat):Int)) rfl (by omega) (by omega) ?_
   conv=>whnf
   refine ⟨k+1,h3,by show xs.length - (k+1) < xs.length - k;omega,⟨rfl,rfl,rfl,rfl,rfl,rfl,rfl,rfl,rfl,trivial⟩,?_,trivial⟩
   rw [List.replicate_succ']
   show Ob.row true 1 (cT (List.replicate k [49,47,50])++cT [[49,47,50]])=_
   simp [cT]
  have h3:k=xs.length:=by simp only [decide_eq_false_iff_not] at h3;omega
  rw [h3]
  rw [hzl] at cco
  conv=>whnf
  refine VCall.lend cco ⟨rfl,rfl,lend_allT (List.length_replicate) rfl,trivial⟩ rfl ?_
  conv=>whnf
  refine Wr.i64 (y:=((S*n:Nat):Int)) (by rw [Int.natCast_mul]) (by omega) (by omega) ?_
  conv=>whnf
  refine VCall.of_data cmf (ndT fun _=>rfl) ?_
  conv=>whnf
  rw [decide_eq_true (rfl:(S:Int)=(S:Int))]
  conv=>whnf
  rw [decide_eq_true (rfl:((S*n:Nat):Int) - xs.sum=((S*n:Nat):Int) - xs.sum)]
  conv=>whnf
  rw [show ((⟨r2.toArray⟩:ByteArray).toList == (⟨r2.toArray⟩:ByteArray).toList)=true by simp]
  exact ⟨rfl,trivial,rfl⟩
 | false =>
  conv=>whnf
  refine VLoop.ren 164 172 rfl ?_
  refine VLoop.inv hty (S:=Nat) (fun k=>[(23,I k),(22,.ls 172 0 k 1),(16,I (((S*n:Nat):Int) - xs.sum)),(15,I S),(13,I (((S*n:Nat):Int) - xs.sum)),(9,I S),(8,.d (.sl (cI z))),(7,I n),(6,I xs.length)])
   (fun k=>[(172,.row true 1 (cT (List.replicate k [49,47,50])))]) (fun k=>k≤xs.length) (fun k=>xs.length - k) 0 (Nat.zero_le _)
   ⟨rfl,rfl,rfl,rfl,rfl,rfl,rfl,rfl,rfl,trivial⟩ ⟨rfl,trivial⟩ ?_
  intro k hk
  conv=>whnf
  refine Br.mk (fun h3=>?_) (fun h3=>?_)
  ·have h3:k < xs.length:=by simp only [decide_eq_true_eq] at h3;omega
   conv=>whnf
   refine Sub.full rfl ?_
   conv=>whnf
   refine Sub.full (by rw [cT_len,List.length_replicate]) ?_
   conv=>whnf
   refine ⟨by show (k+1)*16≤_;omega,?_⟩
   conv=>whnf
   refine Wr.i64 (y:=((k+1:Nat):Int)) rfl (by omega) (by omega) ?_
   conv=>whnf
   refine ⟨k+1,h3,by show xs.length - (k+1) < xs.length - k;omega,⟨rfl,rfl,rfl,rfl,rfl,rfl,rfl,rfl,rfl,trivial⟩,?_,trivial⟩
   rw [List.replicate_succ']
   show Ob.row true 1 (cT (List.replicate k [49,47,50])++cT [[49,47,50]])=_
   simp [cT]
  have h3:k=xs.length:=by simp only [decide_eq_false_iff_not] at h3;omega
  rw [h3]
  rw [hzl] at cco
  conv=>whnf
  refine VCall.lend cco ⟨rfl,rfl,lend_allT (List.length_replicate) rfl,trivial⟩ rfl ?_
  conv=>whnf
  refine Wr.i64 (y:=((S*n:Nat):Int)) (by rw [Int.natCast_mul]) (by omega) (by omega) ?_
  conv=>whnf
  refine VCall.of_data cmf (ndT fun _=>rfl) ?_
  conv=>whnf
  rw [decide_eq_true (rfl:(S:Int)=(S:Int))]
  conv=>whnf
  rw [decide_eq_true (rfl:((S*n:Nat):Int) - xs.sum=((S*n:Nat):Int) - xs.sum)]
  conv=>whnf
  rw [show ((⟨r2.toArray⟩:ByteArray).toList == (⟨r2.toArray⟩:ByteArray).toList)=true by simp]
  exact ⟨rfl,trivial,rfl⟩
end Go.V
