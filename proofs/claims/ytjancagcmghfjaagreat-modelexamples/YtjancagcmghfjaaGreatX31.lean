/- Texts MrC of this claim. -/
import Derived.Test.YtjancagcmghfjaaGreatX30
set_option maxHeartbeats 4000000
set_option maxRecDepth 40000
namespace Go.Proofs.YtjancagcmghfjaaGreat
open Go.RowKit Go.Shelf Gj
namespace Mo
def tot (l:List Rat):Rat:=l.foldl (fun s q=>s+q) 0
theorem yAu {l:List Rat} {j:Nat} (h:j<l.length):tot (l.take (j+1))=tot (l.take j)+l.getD j 0:=by
 unfold tot;rw [List.take_add_one,List.foldl_append,gdd,gge h];rfl
def totP (m:List (List Rat)) (n i j:Nat):List Rat:=(List.range n).map fun k=>if k<i then tot (m.getD k []) else if k=i then tot ((m.getD i []).take j) else 0
theorem yAr (m:List (List Rat)) (n:Nat):totP m n 0 0=List.replicate n 0:=by
 unfold totP;rw [List.eq_replicate_iff];refine ⟨by simp,fun b hb=>?_⟩;obtain ⟨k,_,rfl⟩:=List.mem_map.1 hb;rw [if_neg (Nat.not_lt_zero k),List.take_zero]
 split <;> rfl
theorem yAt (m:List (List Rat)) {n i:Nat} (j:Nat) (hi:i<n):(totP m n i j).getD i 0=tot ((m.getD i []).take j):=by
 unfold totP;rw [gdd,List.getElem?_map,List.getElem?_range hi];simp
theorem yAl (m:List (List Rat)) (n i j:Nat):(totP m n i j).length=n:=by simp [totP]
theorem yAq (m:List (List Rat)) {n i j:Nat} (hi:i<n) (hj:j<(m.getD i []).length):totP m n i (j+1)=(totP m n i j).set i (tot ((m.getD i []).take j)+(m.getD i []).getD j 0):=by
 apply List.ext_getElem
 ·simp [totP]
 ·intro k h1 h2;rw [List.getElem_set];simp only [totP,List.getElem_map,List.getElem_range];by_cases e:i=k
  ·subst e; rw [if_neg (Nat.lt_irrefl _),if_pos rfl,if_pos rfl,yAu hj]
  ·rw [if_neg e];by_cases h:k<i
   ·rw [if_pos h,if_pos h]
   ·rw [if_neg h,if_neg h,if_neg (Ne.symm e),if_neg (Ne.symm e)]
theorem yAp (m:List (List Rat)) (n i:Nat):totP m n i (m.getD i []).length=totP m n (i+1) 0:=by
 unfold totP;refine List.map_congr_left fun k _=>?_
 rw [List.take_length,List.take_zero];by_cases h:k<i
 ·rw [if_pos h,if_pos (by omega)]
 ·by_cases e:k=i
  ·subst e; rw [if_neg h,if_pos rfl,if_pos (by omega)]
  ·rw [if_neg h,if_neg e,if_neg (by omega)]; split <;> rfl
theorem yAs {m:List (List Rat)} {n:Nat} (h:m.length=n):totP m n n 0=m.map tot:=by
 apply List.ext_getElem
 ·simp [totP,h]
 ·intro k h1 h2;have hk:k<n:=by simpa [totP] using h1
  simp only [totP,List.getElem_map,List.getElem_range];rw [if_pos hk,gdd,gge (by omega)]; rfl
def TtO (w:World) (m:List (List Rat)) (n:Nat) (t:Value) (W:World):Prop:=
 ∃ i:Nat,i<=n/\t = .int .i64 (i:Int)/\Below w w W/\RowAt W (fun x=>x<w.heap.size\/x=w.heap.size) w (totP m n i 0)
def TtN (w:World) (m:List (List Rat)) (n i:Nat) (t:Value) (W:World):Prop:=
 ∃ j:Nat,j<=(m.getD i []).length/\t = .int .i64 (j:Int)/\Below w w W/\RowAt W (fun x=>x<w.heap.size\/x=w.heap.size) w (totP m n i j)
theorem yAv {w:World} {X Y:Nat->Prop} {s:SV} {m:List (List Rat)} (h:MatCan w X Y s m) (hn:s.n<=1000) (hf:∀ i k,QFit LM ((m.getD i []).getD k 0)) (hf2:∀ i k,QFit LM (tot ((m.getD i []).take k))) :
  Calls Tryz.prog 23 #[s.val] w fun e w'=>(e = .returned (.slice (some w) s.n s.n)/\RowAt w' (fun x=>x<w.heap.size\/x=w.heap.size) w (m.map tot))/\Below w w w':=by
 obtain ⟨sA,sn,sc⟩:=s;have hmk:=zBZ sn (by dsimp only at hn; omega);have H:=hdq h;have HF:=hdq hf;have HF2:=hdq hf2;have HL:Hid (m.length=sn):=h.len;have hle:sn<=sc:=h.le;have hcap:sc<=9223372036854775807:=h.cap;clear h hf hf2;dsimp only [SV.val];dsimp only at hn;go_enter Tryz.func23,Tryz.ntmps23
 go_wp2
 have H0:TtO w m sn (.int .i64 0) (w.alloc (.cells (zeroQ sn) 80)):=
  ⟨0,nzl _,rfl,bal,by rw [yAr]; exact RowAt.made w sn _ (.inr rfl)⟩
 generalize w.alloc (.cells (zeroQ sn) 80)=W0 at *;go_loopw [13] (fun t W=>TtO w m sn t W) (fun t _=>sn-(intOf t).toNat)
 case atStart=>exact H0
 case round=>
  clear H0;obtain ⟨i,hi,rfl,hB,hR⟩:=hrel;by_cases hlt:i<sn
  ·have hii:(i:Int)<(sn:Int):=(by omega);obtain ⟨ad,⟨rA,rn,rc⟩,e,-,hc0,hrw⟩:=H.out.row i hlt;dsimp only [SV.val] at e hc0;subst e;have hc:=cellB hB hc0;have HRw:=hdq hrw;have HRl:Hid ((m.getD i []).length=rn):=hrw.len;have hrle:rn<=rc:=hrw.le;have hrcap:rc<=9223372036854775807:=hrw.cap;have tq:=zAb hc;have H1:TtN w m sn i (.int .i64 0) wr:=⟨0,nzl _,rfl,hB,hR⟩;clear hB hR hrw hc0;go_wp2;clear hc tq;generalize wr=w0 at *;(go_loopw [20] (fun t W=>TtN w m sn i t W) (fun t _=>rn-(intOf t).toNat));case atStart=>exact H1
   case round=>
    clear H1;obtain ⟨j,hj,rfl,hB,hR⟩:=hrel;rw [HRl.out] at hj;by_cases hlj:j<rn
    ·have hji:(j:Int)<(rn:Int):=(by omega);obtain ⟨ab,ao,u,e,-,⟨d0,d1,d2,d3⟩,hu⟩:=elemL (HRw.out.belowC hB) (k:=j) hlj;dsimp only at e d0 d1 d2 d3;subst e;have tq:=zAb d0;dsimp only at tq;have Hu:=hdq (hu.qis (HF.out i j));have Hst:=hdq (yAq m hlt (show j<(m.getD i []).length by rw [HRl.out]; exact hlj));have HG:=hdq (yAt m j hlt);have HB:=hdq hB;have HR:=hdq hR;clear hB hR hu;(go_upto_region 8 with fail);have al:Below wr wr (wr.alloc (.cells #[.bool u.num.ng,.slice u.num.A u.num.n u.num.c,.bool u.den.ng,.slice u.den.A u.den.n u.den.c] 80)):=bal;have gP:¬ wr.heap.size=w.heap.size:=by have:=HR.out.lt; omega
     refine zAo (fun W=>Below w w W/\RowAt W (fun x=>x<w.heap.size\/x=w.heap.size) w (totP m sn i j)/\QCell W ⟨wr,0,none⟩ u/\QIs W Y LM u ((m.getD i []).getD j 0)) ⟨HB.out.trans (al.mono HB.out.size),HR.out.below al,⟨by go_simp,by go_simp,by go_simp,by go_simp⟩,Hu.out.below al⟩ ?_;clear al HB HR Hu d0 d1 d2 d3 tq;generalize wr.heap.size=P at *;rintro W2 ⟨hB,hR,⟨p0,p1,p2,p3⟩,hQ⟩;dsimp only at p1 p2 p3;rw [Nat.zero_add] at p1 p2 p3;obtain ⟨v,⟨d0,d1,d2,d3⟩,hv⟩:=hR.elem i (by rw [yAl]; exact hlt);rw [HG.out] at hv;dsimp only at d0 d1 d2 d3;have gf:=hR.frozen;have gl:=hR.lt;have bW:=hB.size;have lP:=zAb p0;dsimp only at lP;have Hv:=hdq (hv.qis (HF2.out i j));have HQ:=hdq hQ;have HB:=hdq hB;have HR:=hdq hR;clear hv hQ hB hR;refine zAp 9 (fun fl w'=>Sees w [w.heap.size] W2 w'/\(fl=false->Sees w [] W2 w')) (by kernel_rfl) ?_;have hS0:Sees w [w.heap.size] W2 W2.drew:=Sees.st (by simp) bW;have hS1:Sees w [] W2 W2.drew:=Sees.st (by simp) bW;refine tkE 0 ?_ (fun w' hSw=>?_) (⟨hS0,fun _=>hS1⟩) ?_;rotate_left
     ·((obtain ⟨_,hSv⟩:=hSw; replace hSw:=hSv.1); go_simp; try with_reducible rfl)
     simp only [zz];refine tkE 1 ?_ (fun w' hSw=>?_) (⟨hS0,fun _=>hS1⟩) ?_;rotate_left
     ·((obtain ⟨_,hSv⟩:=hSw; replace hSw:=hSv.1); go_simp; try with_reducible rfl)
     simp only [zz];refine tkE 2 ?_ (fun w' hSw=>?_) (⟨hS0,fun _=>hS1⟩) ?_;rotate_left
     ·((obtain ⟨_,hSv⟩:=hSw; replace hSw:=hSv.1); go_simp; try with_reducible rfl)
     simp only [zz];refine tkE 3 ?_ (fun w' hSw=>?_) (⟨hS0,fun _=>hS1⟩) ?_;rotate_left
     ·((obtain ⟨_,hSv⟩:=hSw; replace hSw:=hSv.1); go_simp; try with_reducible rfl)
     simp only [zz];refine tkE 4 ?_ (fun w' hSw=>?_) (⟨hS0,fun _=>hS1⟩) ?_;rotate_left
     ·((obtain ⟨_,hSv⟩:=hSw; replace hSw:=hSv.1); go_simp; try with_reducible rfl)
     simp only [zz];refine tkV 5 7 (v.val) (fun w' hSw=>?_) (⟨hS0,fun _=>hS1⟩) ?_
     ·(replace hSw:=hSw.2 rfl; go_simp; try with_reducible rfl)
     simp only [zz];refine tkE 6 ?_ (fun w' hSw=>?_) (⟨hS0,fun _=>hS1⟩) ?_;rotate_left
     ·((obtain ⟨_,hSv⟩:=hSw; replace hSw:=hSv.1); go_simp; try with_reducible rfl)
     simp only [zz];refine tk1 7 ?_;intro K hK;go_simp;have hdr:Below W2 W2 W2.drew:=(brf _ _).drew;refine (zCD (a:=v) (b:=u) (Hv.out.below hdr) (HQ.out.below hdr) (nlr _) (nlr _)).mono ?_;rintro e w9 ⟨⟨z,rfl,hz⟩,hb9⟩;have hS2:=Kept.call2 hb9 hS0;have hS3:=Kept.call2 hb9 hS1;have hb9':Below W2 W2 w9:=hdr.trans hb9;refine hK.out _ _ ⟨hS2,fun _=>hS3⟩ ?_;clear hK K;have HZ:=hdq hz;rw [<-hb9'.cell (p:=⟨w.heap.size,_,none⟩) gl] at d0 d1 d2 d3;have gf9:∀ o,w9.frozen? ⟨w.heap.size,o,none⟩=false:=fun o=>by rw [hb9'.frozen (p:=⟨w.heap.size,o,none⟩) gl]; exact gf o
     clear hz;refine tkE 8 ?_ (fun w' hSw=>?_) (⟨hS2,fun _=>hS3⟩) ?_;rotate_left
     ·((obtain ⟨_,hSv⟩:=hSw; replace hSw:=hSv.1); go_simp; try with_reducible rfl)
     simp only [zz];refine tk1 9 ?_;intro K hK;go_simp;refine hK.out _ _ ⟨Sees.k4 (g:=w) hS2 (by simp),fun h=>absurd h (by decide)⟩ ?_;clear hK K;refine zAf (by kernel_rfl) ?_ _
     have HN:Hid (TtN w m sn i (.int .i64 ((j:Int)+1)) (put4 w9 w i z)):=⟨j+1,by rw [HRl.out]; omega,by simp,zBq (HB.out.trans (hb9'.mono HB.out.size)) (nlr _) _ _,by
      rw [Hst.out];exact (HR.out.below hb9').put4 (by rw [yAl]; exact hlt) (HZ.out.imp fun y _ hy hG=>by simp only [New,World.size_drew] at hy; omega)⟩
     clear HZ HR HB Hst HG gf gf9 d0 d1 d2 d3 p0 p1 p2 p3 hS0 hS1 hS2 hS3 hb9 hb9' hdr Hv HQ;go_wp2;go_roundw;case rel=>first | exact HN.out | ((repeat apply Exists.intro); exact ⟨HN.out,rfl⟩)
     case measure=>simp [intOf]; omega
    ·(obtain rfl:j=rn:=by omega);have HN:Hid (TtO w m sn (.int .i64 ((i:Int)+1)) wr):=⟨i+1,by omega,by simp,hB,by rw [<-yAp,HRl.out]; exact hR⟩;clear hB hR;go_wp2;go_roundw;case rel=>first | exact HN.out | ((repeat apply Exists.intro); exact ⟨HN.out,rfl⟩)
     case measure=>simp [intOf]; omega
  ·(obtain rfl:sn=i:=by omega);rw [yAs HL.out] at hR;have HZ:=hdq (And.intro hR hB);clear hR hB;go_wp2;go_ret;exact ⟨⟨rfl,HZ.out.1⟩,HZ.out.2⟩
end Mo
end Go.Proofs.YtjancagcmghfjaaGreat
