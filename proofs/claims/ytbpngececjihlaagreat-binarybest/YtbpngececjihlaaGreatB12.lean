/- Texts Open of this claim. -/
import Derived.Test.YtbpngececjihlaaGreatB11
import Derived.ProofKit
import Derived.OpenShut
import Derived.ChangeOld
import Derived.Below
import Derived.Deep.Slices
import Derived.Lib.SmallJoins
set_option maxHeartbeats 4000000
namespace Go.Proofs.YtbpngececjihlaaGreat
open Go.RowKit Go.Shelf Go.Deep Go.Joins
open Go.ChangeShapes Go.WideShapes Go.ChangeAt
set_option maxRecDepth 100000
abbrev AllB:Nat->Prop:=fun _=>True
theorem list2 {α:Type} {cs:List α} (h:cs.length=2):∃ c0 c1,cs=[c0,c1]:=by
 match cs,h with
 | [c0,c1],_=>exact ⟨c0,c1,rfl⟩
theorem list4 {α:Type} {cs:List α} (h:cs.length=4):∃ c0 c1 c2 c3,cs=[c0,c1,c2,c3]:=by
 match cs,h with
 | [c0,c1,c2,c3],_=>exact ⟨c0,c1,c2,c3,rfl⟩
section
variable {H:Type} {enc:TypeId × Value->H} {w:World} {spare:Nat->Bool} {held:Bool} {fuel:Nat} {cs:List Value} {x:DataW H × List MemPlace}
theorem ctypes:Tryz.prog.cellsOf 4=1/\Tryz.prog.cellsOf 178=1/\Tryz.prog.cellsOf 26=1/\Tryz.prog.cellsOf 28=2/\Tryz.prog.cellsOf 30=4/\Tryz.prog.cellsOf 23=1/\Tryz.prog.cellsOf 22=1/\Tryz.prog.cellsOf 25=4/\Tryz.prog.cellsOf 3=1:=
 ⟨kj,kj,kj,kj,kj,kj,kj,kj,kj⟩
theorem zHD (h:DataW.trod enc Tryz.prog w 0 spare held fuel 26 cs=some x):∃ A n c l,cs=[.slice A n c]/\WordsAt w AllB A n c l:=by
 rcases open_ints Tryz.underlying26 Tryz.underlying178 ctypes.2.1 h with ⟨rfl,-⟩ | ⟨a,len,cap,zs,rfl,_,hl,hm,hz,_,hcell,hwz⟩
 ·exact ⟨none,0,0,[],rfl,WordsAt.nil _ _ _ _ (nzl _)⟩
 ·have hzl:len<=zs.length:=by rw [hz]; split <;> omega
  have hw:∀ n ∈ zs,0<=n/\n<=4294967295:=fun n hn=>by
   have:=hwz n hn;exact bounds_u32 this
  refine ⟨some a,len,cap,(zs.take len).map Int.toNat,rfl,by simp; omega,hl,hm,?_,fun k hk=>⟨a,rfl,trivial,?_⟩⟩
  ·intro y hy;obtain ⟨z,hz',rfl⟩:=List.mem_map.1 hy;have:=hw z (List.mem_of_mem_take hz');show z.toNat<4294967296;omega
  ·rw [hcell k om];have h1:k<zs.length:=om;have:=hw zs[k] (List.getElem_mem h1);have e1:zs.getD k 0=zs[k]:=by simp [h1]
   have e2:((zs.take len).map Int.toNat).getD k 0=zs[k].toNat:=by
    have h2:k<((zs.take len).map Int.toNat).length:=by simp; omega
    rw [gdd,gge h2];simp
   rw [e1,e2,Int.toNat_of_nonneg this.1]
theorem zJK (h:DataW.trod enc Tryz.prog w 0 spare held fuel 28 cs=some x):∃ (z:ZV) (y:Int) (L:Nat),cs=[.bool z.ng,.slice z.A z.n z.c]/\ZIs w AllB L z y:=by
 obtain ⟨y0,y1,n,_,hl,h0,h1⟩:=trod_struct2 Tryz.underlying28 h;rw [ctypes.2.2.2.1] at hl;obtain ⟨c0,c1,rfl⟩:=list2 hl
 ·simp only [ctypes.1,ctypes.2.2.1,List.drop_zero,List.drop_succ_cons,List.take_succ_cons,List.take_zero] at h0 h1;obtain ⟨A,m,c,l,e,hw⟩:=zHD h1;obtain ⟨b,e0,_⟩:=DataW.trod_bool Tryz.underlying4 h0;cases e;cases e0;exact ⟨⟨b,A,m,c⟩,_,m,rfl,l,hw,nlr _,rfl⟩
theorem zJJ (h:DataW.trod enc Tryz.prog w 0 spare held fuel 30 cs=some x):∃ (v:QV) (q:Rat),cs=[.bool v.num.ng,.slice v.num.A v.num.n v.num.c,.bool v.den.ng,.slice v.den.A v.den.n v.den.c]/\QAny w AllB v q:=by
 obtain ⟨y0,y1,n,_,hl,h0,h1⟩:=trod_struct2 Tryz.underlying30 h;rw [ctypes.2.2.2.2.1] at hl;obtain ⟨c0,c1,c2,c3,rfl⟩:=list4 hl
 ·simp only [ctypes.2.2.2.1,List.drop_zero,List.drop_succ_cons,List.take_succ_cons,List.take_zero] at h0 h1;obtain ⟨z0,i0,L0,e0,k0⟩:=zJK h0;obtain ⟨z1,i1,L1,e1,k1⟩:=zJK h1;cases e0;cases e1;obtain ⟨l0,a0,b0,d0⟩:=k0;obtain ⟨l1,a1,b1,d1⟩:=k1;exact ⟨⟨z0,z1⟩,qv i0 i1,rfl,max L0 L1,i0,i1,⟨l0,a0,nlt b0 (Nat.le_max_left _ _),d0⟩,⟨l1,a1,nlt b1 (Nat.le_max_right _ _),d1⟩,rfl⟩
theorem cells4 {p:Addr} {c0 c1 c2 c3:Value} (h:w.cells? 0 p 4=some [c0,c1,c2,c3]):w.cell? p=some c0/\w.cell? ⟨p.block,p.off+1,none⟩=some c1/\w.cell? ⟨p.block,p.off+2,none⟩=some c2/\w.cell? ⟨p.block,p.off+3,none⟩=some c3:=by
 obtain ⟨_,_,hc⟩:=World.cells?_some h;have g0:=hc 0 om;have g1:=hc 1 om;have g2:=hc 2 om;have g3:=hc 3 om;rw [add_zero'] at g0;obtain ⟨b,o,s⟩:=p;obtain rfl:s=none:=World.cell?_spot g0;rw [zA4] at g1 g2 g3;exact ⟨g0,g1,g2,g3⟩
theorem zA6 {α:Type} (f:Nat->α) (d:α) (n k:Nat) (h:k<n):((List.range n).map f).getD k d=f k:=by
 simp [h]
theorem zG7 (h:DataW.trod enc Tryz.prog w 0 spare held fuel 23 cs=some x):∃ (s:SV) (l:List Rat),cs=[s.val]/\VecAt w AllB (QAny w AllB) s l:=by
 rcases open_slice Tryz.underlying23 h with ⟨rfl,-⟩ | ⟨a,len,cap,m,n,D,Pl,rfl,_,hl,hm,hmm,_,hx⟩
 ·exact ⟨⟨none,0,0⟩,[],rfl,rfl,nlr _,nzl _,fun k hk=>absurd hk (Nat.not_lt_zero k)⟩
 ·have hlm:len<=m:=by rw [hmm]; split <;> omega
  rw [ctypes.2.2.2.2.1] at hx
  have hq:∀ k,∃ q:Rat,k<len->∃ v,QCell w (a.add (k*4)) v/\QAny w AllB v q:=fun k=>by
   by_cases hk:k<len
   ·obtain ⟨cs',h1,h2⟩:=hx k om;obtain ⟨v,q,rfl,hq⟩:=zJJ h2;exact ⟨q,fun _=>⟨v,cells4 h1,hq⟩⟩
   ·exact ⟨0,fun h=>absurd h hk⟩
  refine ⟨⟨some a,len,cap⟩,(List.range len).map fun k=>(hq k).choose,rfl,si,hl,hm,fun k hk=>?_⟩;obtain ⟨v,h1,h2⟩:=(hq k).choose_spec hk;exact ⟨a,v,rfl,trivial,h1,by rw [zA6 _ _ _ _ hk]; exact h2⟩
theorem zG6 (h:DataW.trod enc Tryz.prog w 0 spare held fuel 22 cs=some x):∃ (s:SV) (m:List (List Rat)),cs=[s.val]/\MatAt w AllB (QAny w AllB) s m:=by
 rcases open_slice1 Tryz.underlying22 ctypes.2.2.2.2.2.1 h with ⟨rfl,-⟩ | ⟨a,len,cap,m,n,V,D,Pl,rfl,_,hl,hm,hmm,_,hx⟩
 ·exact ⟨⟨none,0,0⟩,[],rfl,rfl,nlr _,nzl _,fun k hk=>absurd hk (Nat.not_lt_zero k)⟩
 ·have hlm:len<=m:=by rw [hmm]; split <;> omega
  have hq:∀ k,∃ l:List Rat,k<len->∃ s:SV,w.cell? (a.add k)=some s.val/\VecAt w AllB (QAny w AllB) s l:=fun k=>by
   by_cases hk:k<len
   ·obtain ⟨h1,h2⟩:=hx k om;obtain ⟨s,l,e,hv⟩:=zG7 h2;exact ⟨l,fun _=>⟨s,by rw [h1,List.cons.inj e |>.1],hv⟩⟩
   ·exact ⟨[],fun h=>absurd h hk⟩
  refine ⟨⟨some a,len,cap⟩,(List.range len).map fun k=>(hq k).choose,rfl,si,hl,hm,fun k hk=>?_⟩;obtain ⟨v,h1,h2⟩:=(hq k).choose_spec hk;exact ⟨a,v,rfl,trivial,h1,by rw [zA6 _ _ _ _ hk]; exact h2⟩
end
section
variable {H:Type} {enc:TypeId × Value->H} {w:World} {spare:Nat->Bool} {held:Bool} {r:Reach} {b0:Nat} {v:Value} {d:DataW H} {p:List MemPlace}
end
end Go.Proofs.YtbpngececjihlaaGreat
