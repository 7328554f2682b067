/- Texts Bits Whole9 Whole10 of this claim. -/
import Derived.Shelf.Small.Bits
import Derived.Test.YtjancagcmghfjaaGreatProg
import Derived.Test.YtjancagcmghfjaaGreatX03
set_option maxHeartbeats 4000000
set_option maxRecDepth 100000
namespace Go.Proofs
open Go.Shelf
def YtjancagcmghfjaaGreat.lays128_ren:Go.Shelf.Ren:=⟨fun | 128=>254 | n=>n,fun | 51=>105 | 3=>3 | 4=>4 | 46=>230 | 5=>5 | 9=>9 | n=>n,fun | n=>n⟩
def YtjancagcmghfjaaGreat.lays133_ren:Go.Shelf.Ren:=⟨fun | 133=>245 | 128=>254 | n=>n,fun | 51=>105 | 3=>3 | 4=>4 | 46=>230 | 5=>5 | 9=>9 | n=>n,fun | n=>n⟩
theorem YtjancagcmghfjaaGreat.lays133:Go.Proofs.Lays.n133 Tryz.prog YtjancagcmghfjaaGreat.lays133_ren:={
 mixed:=by kernel_rfl
 f128:=Tryz.func254.trans (congrArg some (by kernel_rfl))
 f133:=Tryz.func245.trans (congrArg some (by kernel_rfl))
 t3:=Tryz.underlying3
 a3:=Tryz.isAgg3
 z3:=Tryz.sizeOf3
 v3:=Tryz.zeroValue3
 t4:=Tryz.underlying4
 a4:=Tryz.isAgg4
 z4:=Tryz.sizeOf4
 v4:=Tryz.zeroValue4
 t5:=Tryz.underlying5
 a5:=Tryz.isAgg5
 z5:=Tryz.sizeOf5
 v5:=Tryz.zeroValue5
 t9:=Tryz.underlying9
 a9:=Tryz.isAgg9
 z9:=Tryz.sizeOf9
 v9:=Tryz.zeroValue9
 t46:=Tryz.underlying230
 a46:=Tryz.isAgg230
 z46:=Tryz.sizeOf230
 v46:=Tryz.zeroValue230
 t51:=Tryz.underlying105
 a51:=Tryz.isAgg105
 z51:=Tryz.sizeOf105
 v51:=Tryz.zeroValue105}
theorem YtjancagcmghfjaaGreat.bitLenAux_spec:∀ (f x:Nat),0<x->x<2 ^ f->1<=Lib.bitLenAux f x/\Lib.bitLenAux f x<=f/\2 ^ (Lib.bitLenAux f x-1)<=x/\x<2 ^ Lib.bitLenAux f x
 | 0,x,h0,h=>by simp at h; omega
 | f+1,x,h0,h=>by
  unfold Lib.bitLenAux;rw [if_neg (by omega)];by_cases h1:x=1
  ·subst h1
   have:Lib.bitLenAux f (1 / 2)=0:=by
    cases f with
    | zero=>rfl
    | succ f=>simp [Lib.bitLenAux]
   rw [this]; simp
  ·obtain ⟨a,b,c,d⟩:=YtjancagcmghfjaaGreat.bitLenAux_spec f (x / 2) (by omega) (by rw [Nat.pow_succ] at h; omega);generalize Lib.bitLenAux f (x / 2)=k at *;obtain ⟨j,rfl⟩:∃ j,k=j+1:=⟨k-1,by omega⟩;simp only [Nat.add_sub_cancel] at c;refine ⟨by omega,by omega,?_,?_⟩
   ·rw [show 1+(j+1)-1=j+1 by omega,Nat.pow_succ]; omega
   ·rw [show 1+(j+1)=(j+1)+1 by omega,Nat.pow_succ]; omega
theorem YtjancagcmghfjaaGreat.lz_calls (x:Nat) (w:World) (h0:0<x) (h1:x<4294967296) :
  Calls Tryz.prog 245 #[.int .u32 x] w fun e w'=>(∃ s:Nat,e = .returned (.int .i64 s)/\s<=31/\2147483648<=x*2 ^ s/\x*2 ^ s<4294967296)/\w=w':=by
 refine (Any.bits_LeadingZeros32 YtjancagcmghfjaaGreat.lays133 (x:Int) w (by omega) (by omega)).mono ?_;rintro e w' ⟨rfl,rfl⟩;obtain ⟨a,b,c,d⟩:=YtjancagcmghfjaaGreat.bitLenAux_spec 64 x h0 (by omega)
 have hb:Lib.bitLenAux 64 x<=32:=by
  rcases Nat.lt_or_ge 32 (Lib.bitLenAux 64 x) with hlt | hge
  ·have:2 ^ 32<=2 ^ (Lib.bitLenAux 64 x-1):=Nat.pow_le_pow_right (by omega) (by omega);omega
  ·exact hge
 simp only [Int.toNat_natCast,Lib.bitLen];generalize Lib.bitLenAux 64 x=k at *;obtain ⟨j,rfl⟩:∃ j,k=j+1:=⟨k-1,by omega⟩;simp only [Nat.add_sub_cancel] at c;have e1:2 ^ j*2 ^ (31-j)=2147483648:=by rw [<-Nat.pow_add,show j+(31-j)=31 by omega]
 have e2:2 ^ (j+1)*2 ^ (31-j)=4294967296:=by rw [<-Nat.pow_add,show j+1+(31-j)=32 by omega]
 refine ⟨⟨31-j,?_,by omega,?_,?_⟩,by trivial⟩
 ·congr 2; omega
 ·rw [<-e1]; exact Nat.mul_le_mul_right _ c
 ·rw [<-e2]; exact Nat.mul_lt_mul_of_pos_right d (Nat.pow_pos (by omega))
end Go.Proofs
namespace Go.Proofs.YtjancagcmghfjaaGreat
open Go.RowKit
variable {u a l:List Nat} {b k n L c N d m j o i B:Nat} {w w' W W':World} {A:Option Addr} {X Y:Nat->Prop} {z:Int}
theorem ArrAt.join {c2:Nat} {p:List Nat} (h:ArrAt w b 0 L c u) (hp:ArrAt w' b (0+k) n c2 p) (hr:Rest w w' b (0+k) n) (hkn:k+n<=L):ArrAt w' b 0 L c (u.take k++(p++u.drop (k+n))):=by
 have hl:=h.len;have hpl:=hp.len;refine ⟨by simp; omega,h.le,h.cap,(h.ok.take k).append (hp.ok.append (h.ok.drop _)),fun j hj=>?_,hp.free⟩;by_cases h1:j<k
 ·have e:=hr (0+j) (by omega);rw [e,h.cell j hj];simp [List.getElem?_append,h1,List.length_take,hl,Nat.min_eq_left (show k<=L by omega),gge (show j<u.length by omega)]
 ·by_cases h2:j<k+n
  ·have e:=hp.cell (j-k) (by omega);rw [show 0+k+(j-k)=0+j by omega] at e;rw [e];simp [List.getElem?_append,h1,List.length_take,hl,Nat.min_eq_left (show k<=L by omega),hpl,show j-k<n by omega]
  ·have e:=hr (0+j) (by omega);rw [e,h.cell j hj];simp [List.getElem?_append,h1,List.length_take,hl,Nat.min_eq_left (show k<=L by omega),hpl,show ¬ (j-k<n) by omega];rw [show k+n+(j-k-n)=j by omega]
theorem estimate_calls' {B:Option Addr} {N1:Nat} {v:List Nat} (hN:N1+1=N) (hN1:1<=N1) (hu:WordsAt w X A (N+1) c u) (hv:WordsAt w Y B N d v)
  (hv1:2147483648<=v.getD N1 0) (hU:Num.nat u<Num.nat v*4294967296) :
  Calls Tryz.prog 247 #[.slice A (N+1) c,.slice B N d] w fun e w'=>(∃ g:Nat,e = .returned (.int .u64 g)/\EstOk u v g)/\Below w w w':=by
 obtain ⟨n,rfl⟩:∃ n,N1=n+1:=⟨N1-1,by omega⟩;subst hN;exact zBO hu hv hv1 hU
structure LongW (w W:World) (gu gv gq L cu n cv m:Nat) (u v q:List Nat):Prop where
 old:Below w w W
 U:ArrAt W gu 0 L cu u
 V:ArrAt W gv 0 n cv v
 Q:ArrAt W gq 0 (m+1) (m+1) q
 lu:gu<W.heap.size
 lv:gv<W.heap.size
 lq:gq<W.heap.size
theorem LongW.below {gu gv gq cu cv:Nat} {v q:List Nat} (h:LongW w W gu gv gq L cu n cv m u v q) (hb:Below W W W'):LongW w W' gu gv gq L cu n cv m u v q:=
 ⟨h.old.trans (hb.mono h.old.size),h.U.below hb h.lu,h.V.below hb h.lv,h.Q.below hb h.lq,ltl h.lu hb.size,ltl h.lv hb.size,ltl h.lq hb.size⟩
theorem LongW.kept {gu gv gq cu cv:Nat} {u' v q:List Nat} (h:LongW w W gu gv gq L cu n cv m u v q) (hk:Kept gu [gu] W W') (hgu:w.heap.size<=gu) (hv:gu ≠ gv) (hq:gu ≠ gq) (hU:ArrAt W' gu 0 L cu u') :
  LongW w W' gu gv gq L cu n cv m u' v q:=
 ⟨h.old.trans (hk.below.mono hgu),hU,h.V.kept hk h.lv (by simp; exact Ne.symm hv),h.Q.kept hk h.lq (by simp; exact Ne.symm hq),ltl h.lu hk.size,ltl h.lv hk.size,ltl h.lq hk.size⟩
theorem LongW.setQ {gu gv gq cu cv:Nat} {v q:List Nat} (h:LongW w W gu gv gq L cu n cv m u v q) (hgq:w.heap.size<=gq) (hu:gu ≠ gq) (hv:gv ≠ gq) {x:Nat} (hj:j<m+1) (hx:x<4294967296) :
  LongW w (W.setCell ⟨gq,j,none⟩ (.int .u32 x)) gu gv gq L cu n cv m u v (q.set j x):=by
 have hQ:=h.Q.set hj hx;rw [Nat.zero_add] at hQ;exact ⟨h.old.setCell hgq _,h.U.far (by simpa using hu) _,h.V.far (by simpa using hv) _,hQ,by simpa [World.setCell] using h.lu,by simpa [World.setCell] using h.lv,by simpa [World.setCell] using h.lq⟩
theorem LongW.setU {gu gv gq cu cv:Nat} {v q:List Nat} (h:LongW w W gu gv gq L cu n cv m u v q) (hgu:w.heap.size<=gu) (hv:gu ≠ gv) (hq:gu ≠ gq) {x:Nat} (hj:j<L) (hx:x<4294967296) :
  LongW w (W.setCell ⟨gu,j,none⟩ (.int .u32 x)) gu gv gq L cu n cv m (u.set j x) v q:=by
 have hU:=h.U.set hj hx;rw [Nat.zero_add] at hU;exact ⟨h.old.setCell hgu _,hU,h.V.far (by simpa using Ne.symm hv) _,h.Q.far (by simpa using Ne.symm hq) _,by simpa [World.setCell] using h.lu,by simpa [World.setCell] using h.lv,by simpa [World.setCell] using h.lq⟩
theorem LongW.far {gu gv gq cu cv:Nat} {v q:List Nat} (h:LongW w W gu gv gq L cu n cv m u v q) (hb:w.heap.size<=b) (hu:gu ≠ b) (hv:gv ≠ b) (hq:gq ≠ b) (x:Value) :
  LongW w (W.setCell ⟨b,o,none⟩ x) gu gv gq L cu n cv m u v q:=
 ⟨h.old.setCell hb _,h.U.far (by simpa using hu) _,h.V.far (by simpa using hv) _,h.Q.far (by simpa using hq) _,by simpa [World.setCell] using h.lu,by simpa [World.setCell] using h.lv,by simpa [World.setCell] using h.lq⟩
def BackLoop (w:World) (u1:List Nat) (j cb gu gv gq L cu n cv m:Nat) (v q:List Nat) (s:Value) (W:World):Prop:=
 ∃ (i cy:Nat) (u2:List Nat),i<=n/\s = .int .i64 i/\Box1 W cb (.int .u64 cy)/\LongW w W gu gv gq L cu n cv m u2 v q/\Num.AddRel u1 v j i cy u2
def RemLoop (w:World) (sh gr gu gv gq L cu n cv m:Nat) (u v q:List Nat) (s:Value) (W:World):Prop:=
 ∃ (i:Nat) (r:List Nat),i<=n/\s = .int .i64 i/\LongW w W gu gv gq L cu n cv m u v q/\gr<W.heap.size/\ArrAt W gr 0 n n r/\r.take i=(Num.shr sh u).take i
theorem zFE {r t:List Nat} {x:Nat} (h:r.take i=t.take i) (hi:i<r.length) (ht:i<t.length) (hx:t.getD i 0=x):(r.set i x).take (i+1)=t.take (i+1):=by
 rw [List.take_succ_eq_append_getElem (by simpa using hi),List.take_succ_eq_append_getElem ht,List.take_set_of_le (nlr i),h];congr 1;rw [gdd,gge ht] at hx;simpa using hx.symm
def LongPost (w:World) (a b:List Nat) (m N:Nat) (e:Ending) (w':World):Prop:=
 ∃ gq gr cq cr,e = .returned (.tuple #[.slice (some ⟨gq,0,none⟩) (m+1) cq,.slice (some ⟨gr,0,none⟩) N cr])/\w.heap.size<=gq/\w.heap.size<=gr/\
   ∃ q r,ArrAt w' gq 0 (m+1) cq q/\ArrAt w' gr 0 N cr r/\Num.nat q=Num.nat a / Num.nat b/\Num.nat r=Num.nat a % Num.nat b
theorem zJx {x y s:Nat} (hx:x<4294967296) (hy:y<4294967296) :
  IntKind.u32.wrap (bits .or .u64 (x:Int) (IntKind.u64.wrap ((y:Int)*4294967296)) / 2 ^ s)=(((x+4294967296*y) / 2 ^ s % 4294967296:Nat):Int):=by
 have e1:IntKind.u64.wrap ((y:Int)*4294967296)=(y:Int)*4294967296:=IntWalk.u64_in _ ⟨by omega,by omega⟩;have h4:=u64_or_nat x (y*4294967296) (by omega) (by omega);simp only [Int.natCast_mul,Int.cast_ofNat_Int] at h4;rw [e1,h4,zFp x y hx,IntKind.wrap_u32]
 have e2:((x+4294967296*y:Nat):Int) / 2 ^ s=(((x+4294967296*y) / 2 ^ s:Nat):Int):=by
  rw [Int.natCast_ediv]; simp
 rw [e2];generalize (x+4294967296*y) / 2 ^ s=t;omega
def LongLoop (w:World) (A V gu gv gq L cu n cv m:Nat) (v:List Nat) (s:Value) (W:World):Prop:=
 ∃ (k:Nat) (u q:List Nat),k<=m+1/\s = .int .i64 ((k:Int)-1)/\LongW w W gu gv gq L cu n cv m u v q/\Num.DivRel A V k u q
theorem zFm {B:Option Addr} {b:List Nat} (ha:WordsAt w X A (m+(n+2)) c a) (hb:WordsAt w Y B (n+2) d b) (cb:Num.Can b) (hn:m+n<35184372088000) :
  Calls Tryz.prog 229 #[.slice A (m+(n+2)) c,.slice B (n+2) d] w fun e w'=>LongPost w a b m (n+2) e w'/\Below w w w':=by
 have hc:=ha.cap;have hd:=hb.cap;have hle:=ha.le;have hle2:=hb.le;have la:=hdq ha.len;have lb:=hdq hb.len;have oa:=hdq ha.ok;have ob:=hdq hb.ok;have Hn:=hdq hn;have ha0:=ha.old;have hb0:=hb.old;obtain ⟨bd,rfl,hbX,hcell⟩:=hb0.cell (n+1) (by omega)
 have htop:0<b.getD (n+1) 0:=by
  rcases Num.snoc_cases b with rfl | ⟨l,x,rfl⟩
  ·have:=lb.out; simp at this
  ·have h1:=cb.left_pos;have h2:=lb.out;simp at h2;rw [gdd,List.getElem?_append_right (by omega)];simp [show n+1-l.length=0 by omega]; omega
 have htop2:b.getD (n+1) 0<4294967296:=hb.ok.getD _
 have HB1:Hid (Num.base ^ (n+1)*b.getD (n+1) 0<=Num.nat b/\Num.nat b<Num.base ^ (n+1)*(b.getD (n+1) 0+1)):=by
  have h1:=Num.nat_take_succ b (n+1) (by rw [lb.out]; omega);rw [show n+1+1=b.length by rw [lb.out],List.take_length] at h1;have h2:=Num.nat_take_lt hb.ok (n+1) (by rw [lb.out]; omega);exact ⟨by omega,by rw [Nat.mul_add,Nat.mul_one]; omega⟩
 generalize hN:n+2=N at *;generalize hN1:n+1=N1 at *;have k1:(N:Int)-1=(N1:Int):=by omega
 have i1:(0:Int)<=(N1:Int):=by omega
 have j1:(N1:Int)<(N:Int):=by omega
 have HN:=hdq hN;have HN1:=hdq hN1;clear hN hN1;generalize htopv:b.getD N1 0=top at *;clear htopv;go_enter Tryz.func229,Tryz.ntmps229
 go_wp2_with fail
 refine (YtjancagcmghfjaaGreat.lz_calls top w htop htop2).mono ?_; rintro e w1 ⟨⟨s,rfl,hs,hs1,hs2⟩,rfl⟩
 go_wp2_with fail
 have hBW:w.heap.size<=w.heap.size:=nlr _;have HM:Hid (m+N<35184372088832):=by have h1:=Hn.out; have h2:=HN.out; show _<_; omega
 have HM2:Hid (N<35184372088832):=by have h1:=HM.out; show _<_; omega
 go_region_held3 (Sees w [] w) (exact kp)
  (first
   | (go_at_call 246; ((with_reducible refine (zCt s hs (ha0.keptOld (Sees.kept (by assumption))) HM.out).mono ?_); rintro e w1 ⟨⟨gu,cu,rfl,hgu,u0,hU0,hu0⟩,hb1⟩; have hgu':=hU0.lt (by omega)))
   | (go_at_call 246; ((with_reducible refine (zCt s hs (hb0.keptOld (Sees.kept (by assumption))) HM2.out).mono ?_); rintro e w2 ⟨⟨gv,cv,rfl,hgv,v0,hV0,hv0⟩,hb2⟩; (have hcv:=hV0.le; have hcv1:(N:Int)<=(cv:Int):=(by omega); have hcv0:(0:Int)<=(N:Int):=(by omega)))))
 rename_i hS;have hV1:=hV0.sub (k:=0) (m:=N) (by omega);rw [Nat.add_zero,Nat.sub_zero,List.drop_zero] at hV1
 have Hnorm:Hid (Num.nat (v0.take N)=Num.nat b*2 ^ s/\2147483648<=(v0.take N).getD N1 0/\Num.nat (v0.take N)<Num.base ^ N):=by
  have h1:=HN.out; have h2:=HN1.out
  have h3:=Num.norm_div HB1.out.1 HB1.out.2 hs hs1 hs2 hv0 hV0.ok (by rw [hV0.len]; omega)
  rwa [show N1+1=N by omega] at h3
 have hU1:=hU0.below hb2 hgu';have hgv':=hV0.lt (by omega);have hguv:gu ≠ gv:=by omega
 have hbw2:=hS.kept.below;have HU:=hdq hu0
 have HSZ:Hid (w.heap.size<=gu/\w.heap.size<=gv):=by
  have q1:=hb1.size; simp at q1 hgu; exact ⟨by omega,by omega⟩
 have hgu2:gu<w2.heap.size:=by have:=hb2.size; omega
 have hmk:∀ w,(Instr.makeSlice 76 (.int .i64 ((m:Int)+1)) (.int .i64 ((m:Int)+1))).run Tryz.prog w = .ok (.slice (some ⟨w,0,none⟩) (m+1) (m+1)) (w.alloc (.cells (wv (List.replicate (m+1) 0)).toArray 105)):=by
  intro w;have:=zA2 (m+1) (m+1) (nlr _) (by have:=HM.out; omega) w;simpa using this
 generalize hvv:v0.take N=v at *;clear hvv hU0 hV0 hv0 hu0 hcell hS hb1 hb2 hgu hgv;go_wp2_with fail
 have hQ0:=zGi (w:=w2) (n:=m+1) (c:=m+1) (t:=105) (l:=List.replicate (m+1) 0) (by simp) (nlr _) (by have:=HM.out; omega) (Num.Ok.replicate _);rw [List.take_of_length_le (by simp)] at hQ0
 have hW0:LongW w (w2.alloc (.cells (wv (List.replicate (m+1) 0)).toArray 105)) gu gv w2 (m+N+1) cu N cv m u0 v (List.replicate (m+1) 0):=
  ⟨hbw2.alloc hbw2.size _,hU1.alloc hgu2 _,hV1.alloc hgv' _,hQ0,by simp; omega,by simp; omega,by simp⟩
 have hD0:Num.DivRel (Num.nat u0) (Num.nat v) (m+1) u0 (List.replicate (m+1) 0):=by
  have h1:=HN.out; have h2:=HN1.out
  have h3:=Num.nat_lt oa.out;rw [la.out] at h3;exact Num.DivRel.start (a:=Num.nat a) (n:=N) HU.out hs h3 (by rw [hU1.len]) hV1.len (by omega) (by rw [show N-1=N1 by omega]; exact Hnorm.out.2.1)
 have hguq:gu ≠ w2.heap.size:=by omega
 have hgvq:gv ≠ w2.heap.size:=by omega
 have HN2:Hid (N1+1=N/\1<=N1):=by have h1:=HN.out; have h2:=HN1.out; exact ⟨by omega,by omega⟩
 have Hgq:Hid (w.heap.size<=w2.heap.size):=hbw2.size;clear hmk hQ0 hU1 hV1 hbw2;generalize w2.alloc (.cells (wv (List.replicate (m+1) 0)).toArray 105)=W0 at *;generalize w2.heap.size=gq at *;go_loopw [10] (fun s W=>LongLoop w (Num.nat u0) (Num.nat v) gu gv gq (m+N+1) cu N cv m v s W) (fun s _=>(intOf s+1).toNat)
 case atStart=>exact ⟨m+1,u0,_,nlr _,by go_num,hW0,hD0⟩
 case round=>
  obtain ⟨k,u,q,hk,rfl,hW,hD⟩:=hrel;by_cases h0:0<k
  ·obtain ⟨j,rfl⟩:∃ j,k=j+1:=⟨k-1,by omega⟩;rw [show (((j+1:Nat):Int)-1)=(j:Int) by omega];have hcu:=hW.U.le;have hcu2:=hW.U.cap;have j0:(0:Int)<=(j:Int):=(by omega);have j2:(j:Int)+(N:Int)+1<=(cu:Int):=(by omega);have j3:(j:Int)<=(j:Int)+(N:Int)+1:=(by omega);have hjm:j<=m:=(by omega);have hpl:=hdq (hD.part_lt (n:=N) hW.U.ok (by rw [hW.U.len]; omega) Hnorm.out.2.2);have hP:=hW.U.sub (k:=j) (m:=N+1) (by omega);rw [Nat.zero_add] at hP;(go_wp2_with fail);rw [show j+N+1-j=N+1 by omega];refine (estimate_calls' HN2.out.1 HN2.out.2 hP.words hW.V.words Hnorm.out.2.1 hpl.out).mono ?_; rintro e w3 ⟨⟨g,rfl,hg⟩,hb3⟩
   have hW3:=hW.below hb3;have hg1:=hg.le;have hP3:=hP.below hb3 hW.lu;(go_wp2_with fail);rw [show j+N+1-j=N+1 by omega];refine (zCg g hg1 hP3 hW3.V.words (fun x hx=>by rw [hx]; exact Ne.symm hguv)).mono ?_; rintro e w4 ⟨⟨bo,p',rfl,hbo,hRst,hP4,hval⟩,hK4⟩
   have hU4:ArrAt w4 gu 0 (m+N+1) cu (u.take j++(p'++u.drop (j+(N+1)))):=ArrAt.join hW3.U (by rw [Nat.zero_add]; exact hP4) (by rw [Nat.zero_add]; exact hRst) (by omega);have hW4:=hW3.kept hK4 HSZ.out.1 hguv hguq hU4;have Hval:=hdq hval;clear hval;rcases Nat.eq_zero_or_pos bo with hb0' | hb0'
   ·subst hb0';have hUl:=hW.U.len;obtain ⟨f1,f2,f3,f4⟩:=Num.join_facts (u:=u) (p:=p') (j:=j) (n:=N) hP4.len (by rw [hUl]; omega);have hgv:Num.nat ((u.drop j).take (N+1))=Num.nat p'+g*Num.nat v:=by have:=Hval.out; rwa [Nat.zero_mul,Nat.add_zero] at this
    have hglt:g<4294967296:=by
     rcases Nat.lt_or_ge g 4294967296 with h | h
     ·exact h
     ·have h1:=hpl.out;have h2:4294967296*Num.nat v<=g*Num.nat v:=Nat.mul_le_mul_right _ h;rw [Nat.mul_comm (Num.nat v)] at h1;rw [hgv] at h1;exact absurd h1 (by omega)
    have Hstep:Hid (Num.DivRel (Num.nat u0) (Num.nat v) j (u.take j++(p'++u.drop (j+(N+1)))) (q.set j g)):=
     hD.step (n:=N) (by rw [hUl]; omega) Hnorm.out.2.2 f1 f2 f3 (by rw [f4]; exact hgv) (by rw [f4]; exact Num.round_ok hg.up hgv) (by rw [hW.Q.len]; omega)
    have hcq:=hW4.Q.cell j (by omega);rw [Nat.zero_add] at hcq;have hfq:=hW4.Q.free;have jm:(j:Int)<(m:Int)+1:=(by omega);have e1:(g:Int) % 4294967296=(g:Int):=(by omega);clear f1 f2 f3 f4 hgv hUl;(go_wp2_with fail);exact ⟨⟨j,_,_,by omega,rfl,hW4.setQ Hgq.out hguq hgvq (by omega) hglt,Hstep.out⟩,by simp [intOf]⟩
   ·(obtain rfl:bo=1:=by omega);have hUl:=hW.U.len;obtain ⟨f1,f2,f3,f4⟩:=Num.join_facts (u:=u) (p:=p') (j:=j) (n:=N) hP4.len (by rw [hUl]; omega);have hp'lt:Num.nat p'<Num.base ^ (N+1):=by have:=Num.nat_lt hP4.ok; rwa [hP4.len] at this
    have hg0:0<g:=by
     rcases Nat.eq_zero_or_pos g with h | h
     ·have h1:=Hval.out;rw [h,Nat.zero_mul,Nat.add_zero,Nat.one_mul] at h1;omega
     ·exact h
    obtain ⟨g1,rfl⟩:∃ g1,g=g1+1:=⟨g-1,by omega⟩;have F1:=hdq f1;have F2:=hdq f2;have F3:=hdq f3;have F4:=hdq f4;have HUl:=hdq hUl;have Hp':=hdq hp'lt;clear f1 f2 f3 f4 hUl hp'lt;generalize u.take j++(p'++u.drop (j+(N+1)))=u1 at *;(go_wp2_with fail);refine (zA9 0 w4).mono ?_; rintro e w5 ⟨rfl,rfl⟩
    have hW5:LongW w (w4.alloc (.cells #[.int .u64 0] 166)) gu gv gq (m+N+1) cu N cv m u1 v q:=hW4.below (bal);have hbx5:Box1 (w4.alloc (.cells #[.int .u64 0] 166)) w4 (.int .u64 0):=⟨by go_simp,by intro o; go_simp⟩;have hcu1:gu ≠ w4.heap.size:=by have:=hW4.lu; omega
    have hcv2:gv ≠ w4.heap.size:=by have:=hW4.lv; omega
    have hcq1:gq ≠ w4.heap.size:=by have:=hW4.lq; omega
    have Hcb:Hid (w.heap.size<=w4.heap.size):=hW4.old.size;(go_wp2_with fail);generalize w4.alloc (.cells #[.int .u64 0] 166)=W5 at *;generalize w4.heap.size=cbk at *;(go_loopw [71] (fun s W=>BackLoop w u1 j cbk gu gv gq (m+N+1) cu N cv m v q s W) (fun s _=>N-(intOf s).toNat));case atStart=>exact ⟨0,0,u1,nzl _,rfl,hbx5,hW5,Num.AddRel.start u1 v j⟩
    case round=>
     obtain ⟨i,cy,u2,hi,rfl,hbxi,hWi,hAi⟩:=hrel;have hcy:=hAi.cy;by_cases hiN:i<N
     ·have hcvi:=hWi.V.cell i hiN;rw [Nat.zero_add] at hcvi;have hcui:=hWi.U.cell (j+i) (by omega);rw [Nat.zero_add] at hcui;have hfu:=hWi.U.free;have hy:v.getD i 0<4294967296:=hWi.V.ok.getD _;have ht:u2.getD (j+i) 0<4294967296:=hWi.U.ok.getD _;have hstep:=hdq (hAi.step (y:=v.getD i 0) (by rw [hWi.U.len]; omega) hWi.U.ok hy (Num.nat_take_succ v i (by rw [hWi.V.len]; exact hiN)));generalize v.getD i 0=y at *;generalize u2.getD (j+i) 0=t at *;have i0:(0:Int)<=(i:Int):=(by omega);have i1':(i:Int)<(N:Int):=(by omega);have ij0:0<=(j:Int)+(i:Int):=(by omega);have ij1:(j:Int)+(i:Int)<(m:Int)+(N:Int)+1:=(by omega);have ijt:((j:Int)+(i:Int)).toNat=j+i:=(by omega);obtain ⟨q1,hq1⟩:∃ q1,q1=(t+y+cy) / 4294967296:=⟨_,rfl⟩;obtain ⟨t1,ht1⟩:∃ t1,t1=(t+y+cy) % 4294967296:=⟨_,rfl⟩;have ht2:t1<4294967296:=(by omega);have HQ1:=hdq hq1;have HT1:=hdq ht1;clear hq1 ht1;(go_wp2_with fail);refine (zAP _ (t+y) cy q1 t1 (by omega) HQ1.out HT1.out (by omega) hbxi).mono ?_; rintro e w6 ⟨rfl,rfl⟩
      have hW6:=hWi.far (o:=0) Hcb.out hcu1 hcv2 hcq1 (.int .u64 q1);have hbx6:=hbxi.set (.int .u64 q1);generalize wr.setCell cbk (.int .u64 q1)=W6 at *;have hcui6:=hW6.U.cell (j+i) (by omega);rw [Nat.zero_add] at hcui6;have hfu6:=hW6.U.free;generalize u2.getD (j+i) 0=t9 at *;(go_wp2_with fail);have hW7:=hW6.setU (j:=j+i) HSZ.out.1 hguv hguq (by omega) ht2;refine ⟨⟨i+1,q1,_,hiN,rfl,hbx6.far (by simpa using hcu1) _,hW7,?_⟩,by simp [intOf]; omega⟩;have:=hstep.out;rw [HQ1.out,HT1.out]; exact this
     ·(obtain rfl:N=i:=by omega);have hcui:=hWi.U.cell (j+N) (by omega);rw [Nat.zero_add] at hcui;have hfu:=hWi.U.free;have ht:u2.getD (j+N) 0<4294967296:=hWi.U.ok.getD _;have hvl:=hWi.V.len;have hstep:=hdq (hAi.step (y:=0) (by rw [hWi.U.len]; omega) hWi.U.ok Num.base_pos (by rw [List.take_of_length_le (by omega),List.take_of_length_le (by omega),Nat.mul_zero,Nat.add_zero]));generalize u2.getD (j+N) 0=t at *;have ij0:0<=(j:Int)+(N:Int):=(by omega);have ij1:(j:Int)+(N:Int)<(m:Int)+(N:Int)+1:=(by omega);have ijt:((j:Int)+(N:Int)).toNat=j+N:=(by omega);obtain ⟨q1,hq1⟩:∃ q1,q1=(t+cy) / 4294967296:=⟨_,rfl⟩;obtain ⟨t1,ht1⟩:∃ t1,t1=(t+cy) % 4294967296:=⟨_,rfl⟩;have ht2:t1<4294967296:=(by omega);have hq2:q1<=1:=(by omega);have HQ1:=hdq hq1;have HT1:=hdq ht1;clear hq1 ht1
      have HA:Hid (Num.AddRel u1 v j (N+1) q1 (u2.set (j+N) t1)):=by
       have:=hstep.out;rw [Nat.add_zero] at this;rw [HQ1.out,HT1.out]; exact this
      have hjm2:j<m+1:=(by omega);have jm:(j:Int)<(m:Int)+1:=(by omega);(go_wp2_with fail);refine (zAP _ t cy q1 t1 rfl HQ1.out HT1.out (by omega) hbxi).mono ?_; rintro e w6 ⟨rfl,rfl⟩
      have hW6:=hWi.far (o:=0) Hcb.out hcu1 hcv2 hcq1 (.int .u64 q1);generalize wr.setCell cbk (.int .u64 q1)=W6 at *;have hcui6:=hW6.U.cell (j+N) (by omega);rw [Nat.zero_add] at hcui6;have hfu6:=hW6.U.free;generalize u2.getD (j+N) 0=t9 at *;have hW7:=hW6.setU (j:=j+N) HSZ.out.1 hguv hguq (by omega) ht2;have hcq:=hW7.Q.cell j hjm2;rw [Nat.zero_add] at hcq;have hfq:=hW7.Q.free
      have Hfin:Hid (g1<4294967296/\Num.DivRel (Num.nat u0) (Num.nat v) j (u2.set (j+N) t1) (q.set j g1)):=by
       have hpt:=HA.out.part (by rw [F1.out,HUl.out]; omega);rw [F4.out,List.take_of_length_le (show v.length<=N+1 by omega)] at hpt
       have hpl2:Num.nat (((u2.set (j+N) t1).drop j).take (N+1))<Num.base ^ (N+1):=by
        have:=Num.nat_lt ((hW7.U.ok.drop j).take (N+1));rw [List.length_take,List.length_drop,hW7.U.len,Nat.min_eq_left (by omega)] at this;exact this
       have hVle:Num.nat v<=Num.base ^ (N+1):=by
        have h1:=Hnorm.out.2.2;have h2:Num.base ^ N<=Num.base ^ (N+1):=Nat.pow_le_pow_right Num.base_pos (by omega);omega
       have hv1:=Hval.out;rw [Nat.one_mul] at hv1;obtain ⟨-,r2,r3⟩:=Num.round_back hg.up hg.lo hv1 Hp'.out hpt hpl2 hVle hq2;simp only [Nat.add_sub_cancel] at r2;refine ⟨?_,hD.step (n:=N) (by rw [HUl.out]; omega) Hnorm.out.2.2 (by rw [HA.out.len,F1.out]) (by rw [HA.out.low,F2.out]) (by have:=HA.out.same; rw [<-Nat.add_assoc] at this; rw [this,F3.out]) r2 r3 (by rw [hW.Q.len]; omega)⟩;rcases Nat.lt_or_ge g1 4294967296 with h | h
       ·exact h
       ·have h1:=hpl.out;have h2:4294967296*Num.nat v<=g1*Num.nat v:=Nat.mul_le_mul_right _ h;rw [Nat.mul_comm (Num.nat v)] at h1;rw [r2] at h1;exact absurd h1 (by omega)
      have hg1lt:=Hfin.out.1;(go_wp2_with fail);exact ⟨⟨j,_,_,by omega,rfl,hW7.setQ Hgq.out hguq hgvq hjm2 hg1lt,Hfin.out.2⟩,by simp [intOf]⟩
  ·(obtain rfl:k=0:=by omega);rw [show (((0:Nat):Int)-1)=-1 from rfl];have hlt:=hD.lt;have hval:=hD.val;rw [List.drop_zero] at hlt;rw [List.drop_zero,Nat.pow_zero,Nat.mul_one] at hval
   have Hfin:Hid (Num.nat q=Num.nat a / Num.nat b/\Num.nat ((Num.shr s u).take N)=Num.nat a % Num.nat b):=by
    have h1:=HU.out;have h2:=Hnorm.out.1;rw [h1,h2] at hval;rw [h2] at hlt;obtain ⟨h3,h4⟩:=Num.div_final hval hlt;refine ⟨h3,?_⟩;rw [Num.shr_take (by omega) hW.U.ok (by rw [hW.U.len]; omega) (by have:=Hnorm.out.2.2; rw [h2] at this; omega),h4]
   have Hshl:Hid ((Num.shr s u).length=m+N):=by show _=_; rw [Num.shr_length,hW.U.len]; omega
   clear hlt hval
   have hmk:∀ w,(Instr.makeSlice 76 (.int .i64 (N:Int)) (.int .i64 (N:Int))).run Tryz.prog w = .ok (.slice (some ⟨w,0,none⟩) N N) (w.alloc (.cells (wv (List.replicate N 0)).toArray 105)):=
    fun w=>zA2 N N (nlr _) (by have:=HM2.out; omega) w
   (go_wp2_with fail);have hW1:=hW.below ((brf _ _).alloc (nlr _) (.cells (wv (List.replicate N 0)).toArray 105));have hR0:=zGi (w:=wr) (n:=N) (c:=N) (t:=105) (l:=List.replicate N 0) (by simp) (nlr _) (by have:=HM2.out; omega) (Num.Ok.replicate _);rw [List.take_of_length_le (by simp)] at hR0;have hgr1:gu ≠ wr.heap.size:=by have:=hW.lu; omega
   have hgr2:gv ≠ wr.heap.size:=by have:=hW.lv; omega
   have hgr3:gq ≠ wr.heap.size:=by have:=hW.lq; omega
   have Hgr:Hid (w.heap.size<=wr.heap.size):=hW.old.size;have hgr4:wr.heap.size<(wr.alloc (.cells (wv (List.replicate N 0)).toArray 105)).heap.size:=(by simp);clear hmk;generalize wr.alloc (.cells (wv (List.replicate N 0)).toArray 105)=W1 at *;generalize wr.heap.size=gr at *;(go_loopw [116] (fun t W=>RemLoop w s gr gu gv gq (m+N+1) cu N cv m u v q t W) (fun t _=>N-(intOf t).toNat));case atStart=>exact ⟨0,_,nzl _,rfl,hW1,hgr4,hR0,rfl⟩
   case round=>
    obtain ⟨i,r,hi,rfl,hWi,hgri,hRi,hri⟩:=hrel;by_cases hiN:i<N
    ·have hc1:=hWi.U.cell i (by omega);have hc2:=hWi.U.cell (i+1) (by omega);have hcr:=hRi.cell i hiN;rw [Nat.zero_add] at hc1 hc2 hcr;have hfr:=hRi.free;have b1:u.getD i 0<4294967296:=hWi.U.ok.getD _;have b2:u.getD (i+1) 0<4294967296:=hWi.U.ok.getD _;have hget:=Num.shr_get s u i (by rw [hWi.U.len]; omega)
     have Hstep:Hid (∀ x,((u.getD i 0+4294967296*u.getD (i+1) 0) / 2 ^ s) % 4294967296=x->(r.set i x).take (i+1)=(Num.shr s u).take (i+1)):=by
      intro x hx;exact zFE hri (by rw [hRi.len]; exact hiN) (by rw [Hshl.out]; omega) (by rw [hget]; exact hx)
     clear hget;generalize u.getD i 0=x at *;generalize u.getD (i+1) 0=y at *;generalize r.getD i 0=z at *;have i0:(0:Int)<=(i:Int):=(by omega);have i1':(i:Int)<(N:Int):=(by omega);have i2:(i:Int)<(m:Int)+(N:Int)+1:=(by omega);have i3:(0:Int)<=(i:Int)+1:=(by omega);have i4:(i:Int)+1<(m:Int)+(N:Int)+1:=(by omega);have i5:((i:Int)+1).toNat=i+1:=(by omega);have i6:IntKind.i64.wrap ((i:Int)+1)=(i:Int)+1:=IntWalk.i64_in _ ⟨by omega,by omega⟩;have e1:IntKind.u64.wrap (x:Int)=x:=IntWalk.u64_in _ ⟨by omega,by omega⟩;have e2:IntKind.u64.wrap (y:Int)=y:=IntWalk.u64_in _ ⟨by omega,by omega⟩;have hBW:w.heap.size<=wr.heap.size:=hWi.old.size;have l1:=hWi.lu;have hgB:w.heap.size<=gr:=Hgr.out;(go_wp2_with fail);(go_region_held3 (Sees w [gr] wr) (first | assumption | exact (Kept.start (by simp; omega) (by assumption)).sees | exact (Kept.drew (Kept.set (Kept.refl (by simp; omega) (by assumption)) _ (by simp))).sees) (fail));rename_i hS;obtain ⟨zz,hzz⟩:∃ zz,(x+4294967296*y) / 2 ^ s % 4294967296=zz:=⟨_,rfl⟩;have hz2:zz<4294967296:=by rw [<-hzz]; exact Nat.mod_lt _ (by omega)
     have Hz:=hdq hzz;rw [zJx b1 b2,hzz];clear hS hzz;have hW2:LongW w (wr.setCell ⟨gr,i,none⟩ (.int .u32 zz)).drew gu gv gq (m+N+1) cu N cv m u v q:=(hWi.far (o:=i) Hgr.out hgr1 hgr2 hgr3 (.int .u32 zz)).below (brf _ _).drew;have hR2:=(hRi.set (k:=i) (x:=zz) hiN hz2).drew;rw [Nat.zero_add] at hR2;have hl2:gr<(wr.setCell ⟨gr,i,none⟩ (.int .u32 zz)).drew.heap.size:=(by simpa [World.setCell] using hgri);generalize (wr.setCell ⟨gr,i,none⟩ (.int .u32 zz)).drew=W2 at *;(go_wp2_with fail);exact ⟨⟨i+1,_,hiN,by go_num,hW2,hl2,hR2,Hstep.out _ Hz.out⟩,by simp [intOf]; omega⟩
    ·obtain rfl:N=i:=by omega
     have Hr:Hid (Num.nat r=Num.nat a % Num.nat b):=by
      have h1:=Hfin.out.2;rw [<-hri,List.take_of_length_le (by rw [hRi.len]; omega)] at h1;exact h1
     (go_wp2_with fail);go_ret2;exact ⟨⟨gq,gr,m+1,N,rfl,Hgq.out,Hgr.out,q,r,hWi.Q,hRi,Hfin.out.1,Hr.out⟩,hWi.old⟩
theorem zfield1 (w:World) (ng:Bool) (A:Option Addr) (n c:Nat):(Instr.field 78 (.agg #[.bool ng,.slice A n c]) 1).run Tryz.prog w = .ok (.slice A n c) w:=by kernel_rfl
theorem zED {ad:Addr} (h:WordsAt w X (some ad) n c l) (hn:n<=35184372088832) (h0:0<n) :
  Calls Tryz.prog 166 #[.slice (some ad) n c] w fun e w'=>(∃ g c',e = .returned (.slice (some ⟨g,0,none⟩) n c')/\w.heap.size<=g/\ArrAt w' g 0 n c' l)/\Below w w w':=by
 obtain ⟨i0,hi,hz0,hz1,hz2⟩:=info_parts zE9;have Hn:=hdq hn;clear hn;have heq:=fun (w:World) (A:Option Addr) (n c:Nat)=>Lib.run_eql_slice_nil (P:=Tryz.prog) w 76 105 A n c 0 0 Tryz.underlying76
 have Hc:=hdq h.cell;have Hl:=hdq h.len;have Ho:=hdq h.ok;go_enter Tryz.func166,Tryz.ntmps166
 go_wp2_with (at_builtin; refine wpList_append_own_at _ rfl _ _ 76 rfl w 105 i0 (.int .u32 0) 1 4 Tryz.underlying76 hi hz0 hz1 hz2 rfl (by decide) (.slice (some w) 0 0) 0 [] rfl ?own ad n c (wv l) rfl ?len ?cells (zEC l) ?b1 ?b2 ?b3 ?_)
 case own=>exact ⟨rfl,.inr ⟨w.heap.size,0,#[],rfl,nlr _,zAd _ _ rfl,nlr _,by simp [maxLen],rfl,rfl⟩⟩
 case len=>rw [zBM,Hl.out,Nat.mul_one]
 case cells=>
  intro j u hu;obtain ⟨hj,rfl⟩:=zJO l j u hu;have h1:=Hl.out;obtain ⟨ad',e',-,hc⟩:=Hc.out j (by omega);cases e';rw [World.cell?_alloc_lt _ _ _ (zAb hc)]; exact hc
 case b1=>have:=Hn.out; simp [maxLen]; omega
 case b2=>have:=Hn.out; omega
 case b3=>simp
 intro v' w1 hown hg hnil hat;go_wp2;go_ret;obtain ⟨g,c',rfl,hgl,hw⟩:=zBH (by simpa using hown) Ho.out (by omega);exact ⟨⟨g,c',by simp,hgl,by simpa using hw⟩,(bal).grown hg (by simp) (by simp [Value.ownBlock])⟩
def DivPost (w:World) (a b:List Nat) (n:Nat) (e:Ending) (w':World):Prop:=
 ∃ A1 n1 c1 A2 n2 c2 lq lr,e = .returned (.tuple #[.slice A1 n1 c1,.slice A2 n2 c2])/\WordsAt w' (New w) A1 n1 c1 lq/\WordsAt w' (New w) A2 n2 c2 lr/\
  n1<=n+2/\n2<=n+2/\Num.nat lq=Num.nat a / Num.nat b/\Num.nat lr=Num.nat a % Num.nat b
theorem ArrAt.new (h:ArrAt w b o n c l) (hb:B<=b):WordsAt w (New B) (some ⟨b,o,none⟩) n c l:=h.words.imp fun x _ hx=>by simp only [New]; omega
theorem zDP (h:z.natAbs<18446744073709551616) (hk:2<=k):(Num.words z.natAbs).length<=k:=by
 have:(Num.words z.natAbs).length<=2:=Num.words_length_le (by rw [show Num.base ^ 2=18446744073709551616 from by decide]; exact h);omega
theorem zBx (h:Num.Ok l) (h1:l.length<=2):Num.nat l<18446744073709551616:=by
 have h2:=Num.nat_lt h;have h3:Num.base ^ l.length<=Num.base ^ 2:=Nat.pow_le_pow_right Num.base_pos h1;have h4:Num.base ^ 2=18446744073709551616:=by decide
 omega
theorem zCJ {B:Option Addr} {b:List Nat} (ha:WordsAt w X A n c a) (hb:WordsAt w Y B m d b) (ca:Num.Can a) (cb:Num.Can b) (hm:0<m) (hn:n<35184372088000) :
  Calls Tryz.prog 201 #[.slice A n c,.slice B m d] w fun e w'=>DivPost w a b n e w'/\Below w w w':=by
 have la:=hdq ha.len;have lb:=hdq hb.len;have oa:=hdq ha.ok;have ob:=hdq hb.ok;have hcb:=hb.cap;have hca:=ha.cap;have hlea:=ha.le;have hleb:=hb.le;have hb0:b ≠ []:=by intro e; have:=lb.out; rw [e] at this; simp at this; omega
 have Hbp:Hid (0<Num.nat b):=by
  have h1:=Num.nat_eq_zero_of_can cb;rcases Nat.eq_zero_or_pos (Num.nat b) with h | h
  ·exact absurd (h1.1 h) hb0
  ·exact h
 have Hn:=hdq hn;have hn63:n<9223372036854775807:=by omega
 clear hn;by_cases hlt:Num.nat a<Num.nat b
 ·have hcmp:Hid (cmpN (Num.nat a) (Num.nat b)=-1):=by show _=_; rw [cmpN,if_pos hlt]
  have Hlt:=hdq hlt;clear hlt;go_enter Tryz.func201,Tryz.ntmps201
  go_wp2_with fail
  refine (zAu ha hb ca cb).mono ?_; rintro e w1 ⟨rfl,hb1⟩
  rw [hcmp.out];have ha1:=ha.below hb1;go_wp2_with fail
  refine (zCN ha1 (by have:=Hn.out; omega)).mono ?_; rintro e w2 ⟨⟨A',c',rfl,hw2⟩,hb2⟩
  go_wp2_with fail
  go_ret2;refine ⟨⟨none,0,0,A',n,c',[],a,rfl,WordsAt.nil _ _ _ _ (by omega),hw2.imp (fun x _ hx=>nlt hb1.size hx),by omega,by omega,?_,?_⟩,hb1.trans (hb2.mono hb1.size)⟩
  ·rw [Nat.div_eq_of_lt Hlt.out]; rfl
  ·rw [Nat.mod_eq_of_lt Hlt.out]
 ·have hcmp:¬ (cmpN (Num.nat a) (Num.nat b)<0):=by
   rw [cmpN,if_neg hlt]; split <;> omega
  have hmn:m<=n:=by
   rcases Nat.lt_or_ge n m with h | h
   ·exact absurd (zDW oa.out cb (by rw [la.out,lb.out]; exact h)) hlt
   ·exact h
  clear hlt;by_cases hn2:n<=2
  ·have hm2:m<=2:=(by omega);have va:=zBx oa.out (by rw [la.out]; exact hn2);have vb:=zBx ob.out (by rw [lb.out]; exact hm2);have hbp:=Hbp.out;have y0:¬ ((Num.nat b:Int)=0):=(by omega);have y1:((Num.nat b:Int) == 0)=false:=by simp; omega
   have y2:¬ (Num.nat b=0):=(by omega);have y3:(Num.nat b == 0)=false:=by simp; omega
   obtain ⟨q,hq⟩:∃ q,q=Num.nat a / Num.nat b:=⟨_,rfl⟩;obtain ⟨r,hr⟩:∃ r,r=Num.nat a % Num.nat b:=⟨_,rfl⟩;have hq1:q<=Num.nat a:=by rw [hq]; exact Nat.div_le_self _ _
   have hr1:r<=Num.nat a:=by rw [hr]; exact Nat.mod_le _ _
   have hquo:IntKind.u64.wrap ((Num.nat a:Int).tdiv (Num.nat b:Int))=(q:Int):=by
    rw [zDi,<-hq]; exact IntWalk.u64_in _ ⟨by omega,by omega⟩
   have hquo':IntKind.u64.wrap ((Num.nat a:Int) / (Num.nat b:Int))=(q:Int):=by
    rw [<-hquo,zDi]; rfl
   have hrem:(Num.nat a:Int).tmod (Num.nat b:Int)=(r:Int):=(by rw [zDj,hr]);have hrem':(Num.nat a:Int) % (Num.nat b:Int)=(r:Int):=by rw [hr]; rfl
   have hfld:=zfield1;have HQ:=hdq hq;have HR:=hdq hr;clear hq hr;have hq2:q<18446744073709551616:=(by omega);have hr2:r<18446744073709551616:=(by omega);have HQ2:=hdq hq2;have HR2:=hdq hr2;clear va vb hq1 hr1 hq2 hr2;(go_enter Tryz.func201,Tryz.ntmps201);(go_wp2_with fail);refine (zAu ha hb ca cb).mono ?_; rintro e w1 ⟨rfl,hb1⟩
   (go_wp2_with fail);refine (zBl (ha.below hb1) hn2).mono ?_; rintro e w2 ⟨rfl,hb2⟩
   (go_wp2_with fail);refine (zBl ((hb.below hb1).below hb2) hm2).mono ?_; rintro e w3 ⟨rfl,hb3⟩
   have hbw3:Below w w w3:=(hb1.trans (hb2.mono hb1.size)).trans (hb3.mono (nlt hb1.size hb2.size));have hBW:=hbw3.size;go_wp2_with fail
   go_region_held3 (Sees w [] w3) (exact kp)
    (first
     | (go_at_call 148; ((with_reducible refine (small_calls' false _ q rfl HQ2.out _).mono ?_); rintro e w4 ⟨⟨ng1,A1,n1,c1,rfl,hz1⟩,hb4⟩))
     | (go_at_call 148; ((with_reducible refine (small_calls' false _ r rfl HR2.out _).mono ?_); rintro e w5 ⟨⟨ng2,A2,n2,c2,rfl,hz2⟩,hb5⟩)))
   rename_i hS;have k1:=(hz1.words.below hb5).imp (Y:=New w) (fun b _ hx=>nlt hBW hx);have k2:=hz2.words.imp (Y:=New w) (fun b _ hx=>by have q1:=hb4.size; simp at q1; simp only [New] at hx ⊢; omega);have e1:(zval false q).natAbs=q:=(by simp [zval]);have e2:(zval false r).natAbs=r:=(by simp [zval]);rw [e1] at k1;rw [e2] at k2;have L1:=hdq (zDP (z:=(q:Int)) (k:=n+2) (by simpa using HQ2.out) (by omega));have L2:=hdq (zDP (z:=(r:Int)) (k:=n+2) (by simpa using HR2.out) (by omega));have m1:=hdq k1.len;have m2:=hdq k2.len;have hbf:=hbw3.trans hS.kept.below;clear hS;(go_wp2_with fail);go_ret2;exact ⟨⟨A1,n1,c1,A2,n2,c2,_,_,rfl,k1,k2,by rw [<-m1.out]; simpa using L1.out,by rw [<-m2.out]; simpa using L2.out,by rw [Num.nat_words,HQ.out],by rw [Num.nat_words,HR.out]⟩,hbf⟩
  ·have Hbn:=Hbp.out;by_cases hm1:m=1
   ·subst hm1
    obtain ⟨y,hy⟩:∃ y,b=[y]:=by
     have:=lb.out
     match b,this with
     | [y],_=>exact ⟨y,rfl⟩
    subst hy;have hyb:y<4294967296:=ob.out y (by simp);have hy0:0<y:=by have:=Hbn; simp [Num.nat] at this; exact this
    have Hnb:Hid (Num.nat [y]=y):=by show _=_; simp [Num.nat]
    obtain ⟨ad,rfl,hX,-⟩:=ha.cell 0 (by omega);(go_enter Tryz.func201,Tryz.ntmps201);(go_wp2_with fail);refine (zAu ha hb ca cb).mono ?_; rintro e w1 ⟨rfl,hb1⟩
    (go_wp2_with fail);refine (zED (ha.below hb1) (by have:=Hn.out; omega) (by omega)).mono ?_; rintro e w2 ⟨⟨g,c',rfl,hg,hA⟩,hb2⟩
    have hbb:=(hb.below hb1).below hb2;obtain ⟨bd,rfl,-,hcb'⟩:=hbb.cell 0 (by omega);rw [add_zero'] at hcb';simp only [List.getD_cons_zero] at hcb';(go_wp2_with fail);refine (zEK y hA (by omega) hy0 hyb).mono ?_; rintro e w3 ⟨rfl,⟨l',hA3,hl'⟩,hK3⟩
    have hr3:Num.nat a % y<4294967296:=Nat.lt_trans (Nat.mod_lt _ hy0) hyb;generalize hrr:Num.nat a % y=rr at *;have Hrr:=hdq hrr;clear hrr;have hglt:=hA3.lt (by omega);have hb13:Below w w w3:=(hb1.trans (hb2.mono hb1.size)).trans (hK3.below.mono (by have:=hb1.size; omega));(go_wp2_with fail);go_ret2;refine ⟨⟨_,n,c',_,1,1,l',[rr],rfl,(hA3.alloc hglt _).new (by have:=hb1.size; omega),WordsAt.block (by have:=hb13.size; omega) (Num.Ok.cons hr3 Num.Ok.nil) (by simp) (zAd _ _ rfl),by omega,by omega,by rw [hl',Hnb.out],?_⟩,hb13.alloc hb13.size _⟩;rw [Hnb.out,Hrr.out]; simp [Num.nat]
   ·obtain ⟨k,rfl⟩:∃ k,m=k+2:=⟨m-2,by omega⟩;obtain ⟨t,rfl⟩:∃ t,n=t+(k+2):=⟨n-(k+2),by omega⟩;have hm63:((k:Int)+2 == 1)=false:=by simp; omega
    (go_enter Tryz.func201,Tryz.ntmps201);(go_wp2_with fail);refine (zAu ha hb ca cb).mono ?_; rintro e w1 ⟨rfl,hb1⟩
    (go_wp2_with fail);refine (zFm (ha.below hb1) (hb.below hb1) cb (by have:=Hn.out; omega)).mono ?_; rintro e w2 ⟨⟨gq,gr,cq,cr,rfl,hgq,hgr,q,r,hQ,hR,hq,hr⟩,hb2⟩
    (go_wp2_with fail);go_ret2;exact ⟨⟨_,t+1,cq,_,k+2,cr,q,r,rfl,hQ.new (nlt hb1.size hgq),hR.new (nlt hb1.size hgr),by omega,by omega,hq,hr⟩,hb1.trans (hb2.mono hb1.size)⟩
end Go.Proofs.YtjancagcmghfjaaGreat
