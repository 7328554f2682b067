/- Texts MpO of this claim. -/
import Derived.Test.YtjancagcmghfjaaGreatW09
import Derived.ProofKit
import Derived.OpenShut
import Derived.ChangeOld
import Derived.Below
import Derived.Deep.Slices
import Derived.Deep.Grids
import Derived.Lib.SmallJoins
set_option maxHeartbeats 4000000
namespace Go.Proofs.YtjancagcmghfjaaGreat
open Go.RowKit Go.Shelf Go.Deep Go.Joins
open Go.ChangeShapes Go.WideShapes Go.ChangeAt
namespace Mo
set_option maxRecDepth 100000
section
variable {H:Type} {enc:TypeId × Value->H} {w:World} {held:Bool} {fuel:Nat} {cs:List Value} {x:DataW H × List MemPlace}
theorem fld {t:TypeId} {fs:Array Field} (ht:Tryz.prog.underlying t=some (.struct fs)) (h:DataW.trod enc Tryz.prog w 0 (fun _=>true) held fuel t cs=some x) :
  cs.length=Tryz.prog.cellsOf t/\∃ n,∀ (i:Nat) (f:Field),fs[i]?=some f->∃ y,DataW.trod enc Tryz.prog w 0 (fun _=>true) held n f.type ((cs.drop f.offset).take (Tryz.prog.cellsOf f.type))=some y:=by
 obtain ⟨xs,n,_,_,hl,hlen,hf⟩:=DataW.trod_struct ht h;refine ⟨hl,n,fun i f hi=>?_⟩;have h1:=hf i f hi;have h2:i<xs.length:=by rw [hlen]; exact (Array.getElem?_eq_some_iff.1 hi).1
 rw [gge h2] at h1;exact ⟨_,h1⟩
theorem zVU {p:Addr} {n:Nat} (h:w.cells? 0 p (n+1)=some cs):cs.length=n+1/\∃ b o,p=⟨b,o,none⟩/\∀ k,k<n+1->w.cell? ⟨b,o+k,none⟩=cs[k]?:=by
 obtain ⟨_,hl,hc⟩:=World.cells?_some h;have g0:=hc 0 (by omega);rw [add_zero'] at g0;obtain ⟨b,o,s⟩:=p;rw [gge (by omega)] at g0;obtain rfl:s=none:=World.cell?_spot g0;refine ⟨hl,b,o,rfl,fun k hk=>?_⟩;have:=hc k hk
 rwa [zA4] at this
theorem zV4 {α:Type} {t e:TypeId} {sz:Nat} {C:World->Addr->α->Prop} (d:α) (ht:Tryz.prog.underlying t=some (.slice e)) (hc:Tryz.prog.cellsOf e=sz) (hC:∀ {fuel:Nat} {cs:List Value} {x:DataW H × List MemPlace} {a:Addr},w.cells? 0 a sz=some cs->DataW.trod enc Tryz.prog w 0 (fun _=>true) held fuel e cs=some x->∃ s:α,C w a s)
  (h:DataW.trod enc Tryz.prog w 0 (fun _=>true) held fuel t cs=some x):∃ (s:SV) (l:List α),cs=[s.val]/\SlAt w sz C d s l:=by
 rcases open_slice ht h with ⟨rfl,-⟩ | ⟨a,len,cap,m,n,D,Pl,rfl,_,hl,hm,hmm,_,hx⟩
 ·exact ⟨⟨none,0,0⟩,[],rfl,rfl,nlr _,nzl _,fun k hk=>absurd hk (Nat.not_lt_zero k)⟩
 ·have hlm:len<=m:=by rw [hmm]; split <;> omega
  rw [hc] at hx
  have hq:∀ k,∃ q:α,k<len->C w (a.add (k*sz)) q:=fun k=>by
   by_cases hk:k<len
   ·obtain ⟨cs',h1,h2⟩:=hx k (by omega);obtain ⟨s,hs⟩:=hC h1 h2;exact ⟨s,fun _=>hs⟩
   ·exact ⟨d,fun h=>absurd h hk⟩
  refine ⟨⟨some a,len,cap⟩,(List.range len).map fun k=>(hq k).choose,rfl,by simp,hl,hm,fun k hk=>?_⟩;have h1:=(hq k).choose_spec hk;exact ⟨a,rfl,by rw [Gj.getD_map_range _ _ hk]; exact h1⟩
theorem mtypes:Tryz.prog.cellsOf 3=1/\Tryz.prog.cellsOf 2=1/\Tryz.prog.cellsOf 4=1/\Tryz.prog.cellsOf 83=2/\Tryz.prog.cellsOf 47=4/\Tryz.prog.cellsOf 45=9/\Tryz.prog.cellsOf 56=2/\Tryz.prog.cellsOf 24=2/\Tryz.prog.cellsOf 43=1/\Tryz.prog.cellsOf 22=1/\Tryz.prog.cellsOf 26=1/\Tryz.prog.cellsOf 28=1/\Tryz.prog.cellsOf 25=1/\Tryz.prog.cellsOf 27=1/\Tryz.prog.cellsOf 30=6:=
 ⟨by kernel_rfl,by kernel_rfl,by kernel_rfl,by kernel_rfl,by kernel_rfl,by kernel_rfl,by kernel_rfl,by kernel_rfl,by kernel_rfl,by kernel_rfl,by kernel_rfl,by kernel_rfl,by kernel_rfl,by kernel_rfl,by kernel_rfl⟩
theorem list9 {α:Type} {cs:List α} (h:cs.length=9):∃ c0 c1 c2 c3 c4 c5 c6 c7 c8,cs=[c0,c1,c2,c3,c4,c5,c6,c7,c8]:=by
 match cs,h with
 | [c0,c1,c2,c3,c4,c5,c6,c7,c8],_=>exact ⟨c0,c1,c2,c3,c4,c5,c6,c7,c8,rfl⟩
theorem list6 {α:Type} {cs:List α} (h:cs.length=6):∃ c0 c1 c2 c3 c4 c5,cs=[c0,c1,c2,c3,c4,c5]:=by
 match cs,h with
 | [c0,c1,c2,c3,c4,c5],_=>exact ⟨c0,c1,c2,c3,c4,c5,rfl⟩
theorem list4 {α:Type} {cs:List α} (h:cs.length=4):∃ c0 c1 c2 c3,cs=[c0,c1,c2,c3]:=by
 match cs,h with
 | [c0,c1,c2,c3],_=>exact ⟨c0,c1,c2,c3,rfl⟩
theorem list2 {α:Type} {cs:List α} (h:cs.length=2):∃ c0 c1,cs=[c0,c1]:=by
 match cs,h with
 | [c0,c1],_=>exact ⟨c0,c1,rfl⟩
theorem zY4 {a:Addr} (h0:w.cells? 0 a 2=some cs) (h:DataW.trod enc Tryz.prog w 0 (fun _=>true) held fuel 83 cs=some x):∃ s:St,StC w a s:=by
 obtain ⟨hl,b,o,rfl,hc⟩:=zVU h0;obtain ⟨-,n,hf⟩:=fld Tryz.underlying83 h;obtain ⟨c0,c1,rfl⟩:=list2 hl;obtain ⟨y0,h0⟩:=hf 0 _ rfl;obtain ⟨y1,h1⟩:=hf 1 _ rfl;simp only [List.getElem_toArray,List.getElem_cons_zero,List.getElem_cons_succ,mtypes.2.1,List.drop_zero,List.drop_succ_cons,List.take_succ_cons,List.take_zero] at h0 h1;obtain ⟨z0,e0,-,-⟩:=DataW.trod_int Tryz.underlying2 h0;obtain ⟨z1,e1,-,-⟩:=DataW.trod_int Tryz.underlying2 h1;cases e0; cases e1
 exact ⟨⟨z0,z1⟩,hc 0 (by omega),hc 1 (by omega)⟩
theorem zY3 {a:Addr} (h0:w.cells? 0 a 4=some cs) (h:DataW.trod enc Tryz.prog w 0 (fun _=>true) held fuel 47 cs=some x):∃ s:Ln,LnC w a s:=by
 obtain ⟨hl,b,o,rfl,hc⟩:=zVU h0;obtain ⟨-,n,hf⟩:=fld Tryz.underlying47 h;obtain ⟨c0,c1,c2,c3,rfl⟩:=list4 hl;obtain ⟨y0,h0⟩:=hf 0 _ rfl;obtain ⟨y1,h1⟩:=hf 1 _ rfl;obtain ⟨y2,h2⟩:=hf 2 _ rfl;obtain ⟨y3,h3⟩:=hf 3 _ rfl;simp only [List.getElem_toArray,List.getElem_cons_zero,List.getElem_cons_succ,mtypes.1,mtypes.2.1,List.drop_zero,List.drop_succ_cons,List.take_succ_cons,List.take_zero] at h0 h1 h2 h3;obtain ⟨z0,e0,-,-⟩:=DataW.trod_int Tryz.underlying3 h0;obtain ⟨z1,e1,-,-⟩:=DataW.trod_int Tryz.underlying3 h1;obtain ⟨z2,e2,-,-⟩:=DataW.trod_int Tryz.underlying2 h2;obtain ⟨z3,e3,-,-⟩:=DataW.trod_int Tryz.underlying2 h3;cases e0; cases e1; cases e2; cases e3
 exact ⟨⟨z0,z1,z2,z3⟩,hc 0 (by omega),hc 1 (by omega),hc 2 (by omega),hc 3 (by omega)⟩
theorem zXQ (h:DataW.trod enc Tryz.prog w 0 (fun _=>true) held fuel 43 cs=some x):∃ (s:SV) (l:List St),cs=[s.val]/\StepsAt w s l:=zV4 ⟨0,0⟩ Tryz.underlying43 mtypes.2.2.2.1 zY4 h
theorem zY5 {a:Addr} (h0:w.cells? 0 a 9=some cs) (h:DataW.trod enc Tryz.prog w 0 (fun _=>true) held fuel 45 cs=some x):∃ s:Un,UnC w a s:=by
 obtain ⟨hl,b,o,rfl,hc⟩:=zVU h0;obtain ⟨-,n,hf⟩:=fld Tryz.underlying45 h;obtain ⟨c0,c1,c2,c3,c4,c5,c6,c7,c8,rfl⟩:=list9 hl;obtain ⟨y0,h0⟩:=hf 0 _ rfl;obtain ⟨y1,h1⟩:=hf 1 _ rfl;obtain ⟨y2,h2⟩:=hf 2 _ rfl;obtain ⟨y3,h3⟩:=hf 3 _ rfl;obtain ⟨y4,h4⟩:=hf 4 _ rfl;obtain ⟨y5,h5⟩:=hf 5 _ rfl;obtain ⟨y6,h6⟩:=hf 6 _ rfl;obtain ⟨y7,h7⟩:=hf 7 _ rfl;obtain ⟨y8,h8⟩:=hf 8 _ rfl;simp only [List.getElem_toArray,List.getElem_cons_zero,List.getElem_cons_succ,mtypes.1,mtypes.2.1,mtypes.2.2.2.2.2.2.2.2.1,List.drop_zero,List.drop_succ_cons,List.take_succ_cons,List.take_zero] at h0 h1 h2 h3 h4 h5 h6 h7 h8;obtain ⟨z0,e0,-,-⟩:=DataW.trod_int Tryz.underlying3 h0;obtain ⟨z1,e1,-,-⟩:=DataW.trod_int Tryz.underlying2 h1;obtain ⟨s2,l2,e2,v2⟩:=zXQ h2;obtain ⟨z3,e3,-,-⟩:=DataW.trod_int Tryz.underlying3 h3;obtain ⟨z4,e4,-,-⟩:=DataW.trod_int Tryz.underlying3 h4;obtain ⟨z5,e5,-,-⟩:=DataW.trod_int Tryz.underlying2 h5;obtain ⟨z6,e6,-,-⟩:=DataW.trod_int Tryz.underlying2 h6;obtain ⟨z7,e7,-,-⟩:=DataW.trod_int Tryz.underlying2 h7;obtain ⟨z8,e8,-,-⟩:=DataW.trod_int Tryz.underlying3 h8;cases e0; cases e1; cases e2; cases e3; cases e4; cases e5; cases e6; cases e7; cases e8
 exact ⟨⟨z0,z1,l2,z3,z4,z5,z6,z7,z8⟩,s2,hc 0 (by omega),hc 1 (by omega),hc 2 (by omega),hc 3 (by omega),hc 4 (by omega),hc 5 (by omega),hc 6 (by omega),hc 7 (by omega),hc 8 (by omega),v2⟩
theorem zY7 {a:Addr} (h0:w.cells? 0 a 2=some cs) (h:DataW.trod enc Tryz.prog w 0 (fun _=>true) held fuel 56 cs=some x):∃ s:Bd,BdC w a s:=by
 obtain ⟨hl,b,o,rfl,hc⟩:=zVU h0;obtain ⟨-,n,hf⟩:=fld Tryz.underlying56 h;obtain ⟨c0,c1,rfl⟩:=list2 hl;obtain ⟨y0,h0⟩:=hf 0 _ rfl;obtain ⟨y1,h1⟩:=hf 1 _ rfl;simp only [List.getElem_toArray,List.getElem_cons_zero,List.getElem_cons_succ,mtypes.1,mtypes.2.2.2.2.2.2.2.2.1,List.drop_zero,List.drop_succ_cons,List.take_succ_cons,List.take_zero] at h0 h1;obtain ⟨z0,e0,-,-⟩:=DataW.trod_int Tryz.underlying3 h0;obtain ⟨s1,l1,e1,v1⟩:=zXQ h1;cases e0; cases e1
 exact ⟨⟨z0,l1⟩,s1,hc 0 (by omega),hc 1 (by omega),v1⟩
theorem zY2 (h:DataW.trod enc Tryz.prog w 0 (fun _=>true) held fuel 25 cs=some x):∃ (s:SV) (l:List Int),cs=[s.val]/\IntsAt w s l:=by
 rcases open_ints Tryz.underlying25 Tryz.underlying3 mtypes.1 h with ⟨rfl,-⟩ | ⟨a,len,cap,zs,rfl,_,hl,hm,hz,_,hcell,hwz⟩
 ·exact ⟨⟨none,0,0⟩,[],rfl,rfl,nlr _,nzl _,fun x hx=>(by cases hx),fun k hk=>absurd hk (Nat.not_lt_zero k)⟩
 ·have hzl:len<=zs.length:=by rw [hz]; split <;> omega
  refine ⟨⟨some a,len,cap⟩,zs.take len,rfl,by simp; omega,hl,hm,fun n hn=>bounds_i64 (hwz n (List.mem_of_mem_take hn)),fun k hk=>⟨a,rfl,?_⟩⟩;have hk':k<len:=hk;rw [hcell k (by omega)];simp [hk']
theorem zYI (h:DataW.trod enc Tryz.prog w 0 (fun _=>true) held fuel 27 cs=some x):∃ (s:SV) (l:List Bool),cs=[s.val]/\OnAt w s l:=by
 rcases open_bools Tryz.underlying27 Tryz.underlying4 mtypes.2.2.1 h with ⟨rfl,-⟩ | ⟨a,len,cap,B,rfl,_,hl,hm,_,hx⟩
 ·exact ⟨⟨none,0,0⟩,[],rfl,rfl,nlr _,nzl _,fun k hk=>absurd hk (Nat.not_lt_zero k)⟩
 ·exact ⟨⟨some a,len,cap⟩,(List.range len).map B,rfl,by simp,hl,hm,fun k hk=>⟨a,rfl,by rw [Gj.getD_map_range _ _ hk]; exact hx k (by have:k<len:=hk; omega)⟩⟩
end
section
variable {H:Type} {enc:TypeId × Value->H} {w:World} {held:Bool} {r:Reach} {b0:Nat} {v:Value} {d:DataW H} {p:List MemPlace}
def HrV.val (v:HrV):Value:=.agg #[.int .i64 v.n,.slice v.L.A v.L.n v.L.c,.slice v.O.A v.O.n v.O.c,.slice v.U.A v.U.n v.U.c,.slice v.N.A v.N.n v.N.c,.slice v.B.A v.B.n v.B.c]
theorem open_Hour (hv:Value.okWide Tryz.prog w r b0 30 v) (h:DataW.Trod enc Tryz.prog w 0 (fun _=>true) held 30 v d p):∃ (V:HrV) (h:Hr),v=V.val/\HrAt w V h:=by
 obtain ⟨cs,rfl,hsz⟩:=okWide_struct Tryz.underlying30 hv;obtain ⟨fuel,hf0⟩:=h;obtain ⟨cs⟩:=cs;simp only [Value.cells] at hf0;obtain ⟨hl,n,hf⟩:=fld Tryz.underlying30 hf0;rw [mtypes.2.2.2.2.2.2.2.2.2.2.2.2.2.2] at hl;obtain ⟨c0,c1,c2,c3,c4,c5,rfl⟩:=list6 hl;obtain ⟨y0,h0⟩:=hf 0 _ rfl;obtain ⟨y1,h1⟩:=hf 1 _ rfl;obtain ⟨y2,h2⟩:=hf 2 _ rfl;obtain ⟨y3,h3⟩:=hf 3 _ rfl;obtain ⟨y4,h4⟩:=hf 4 _ rfl;simp only [List.getElem_toArray,List.getElem_cons_zero,List.getElem_cons_succ,mtypes,List.drop_zero,List.drop_succ_cons,List.take_succ_cons,List.take_zero] at h0 h1 h2 h3 h4;obtain ⟨-,n2,hf2⟩:=fld Tryz.underlying24 h0;obtain ⟨z0,g0⟩:=hf2 0 _ rfl;obtain ⟨z1,g1⟩:=hf2 1 _ rfl;simp only [List.getElem_toArray,List.getElem_cons_zero,List.getElem_cons_succ,mtypes,List.drop_zero,List.drop_succ_cons,List.take_succ_cons,List.take_zero] at g0 g1;obtain ⟨z,e0,-,-⟩:=DataW.trod_int Tryz.underlying3 g0;obtain ⟨s1,l1,e1,v1⟩:=zV4 ⟨0,0,0,0⟩ Tryz.underlying22 mtypes.2.2.2.2.1 zY3 g1;obtain ⟨s2,l2,e2,v2⟩:=zY2 h1;obtain ⟨s3,l3,e3,v3⟩:=zV4 un0 Tryz.underlying26 mtypes.2.2.2.2.2.1 zY5 h2;obtain ⟨s4,l4,e4,v4⟩:=zYI h3;obtain ⟨s5,l5,e5,v5⟩:=zV4 (⟨0,[]⟩:Bd) Tryz.underlying28 mtypes.2.2.2.2.2.2.1 zY7 h4;cases e0; cases e1; cases e2; cases e3; cases e4; cases e5
 exact ⟨⟨z,s1,s2,s3,s4,s5⟩,⟨z,l1,l2,l3,l4,l5⟩,rfl,rfl,v1,v2,v3,v4,v5⟩
end
end Mo
end Go.Proofs.YtjancagcmghfjaaGreat
