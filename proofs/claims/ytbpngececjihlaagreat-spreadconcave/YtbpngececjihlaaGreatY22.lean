/- Texts Leave Compare MatI of this claim. -/
import Derived.Test.YtbpngececjihlaaGreatY20
set_option maxHeartbeats 4000000
set_option maxRecDepth 40000
namespace Go.Proofs.YtbpngececjihlaaGreat
open Go.RowKit Go.Shelf
variable {w1 W:World} {sa sb s:SV} {X X':Nat->Prop} {n N:Nat}
section
variable {D:Lin.Dict} {V col i:Nat} {v:Value}
variable {r:Nat}
end
attribute [local go_sem] Oper.semAt_some
theorem zDL {B1 B2:Nat} {va vb:Nat->QV} (hn:1<=n) (h1:w1.heap[B1]?=some (.cells #[sa.val] 23 (0,0))) (h2:w1.heap[B2]?=some (.cells #[sb.val] 23 (0,0))) (hb1:X B1) (hb2:X B2)
  (ha:Elems w1 X sa va) (hb:Elems w1 X sb vb) (hN:N=max sa.n sb.n) (hN2:N<=1000000) :
  SeqStopsK Fence.wide n Tryz.prog 171 #[.pointer (some B1),.pointer (some B2)] (fun x:Nat=>#[(va x).val,(vb x).val]) (Carry X) (fun ys=>ys=List.range N) (fun pre=>pre <+: List.range N) N w1:=fun _l J Jx W hW hJ _ hY h0=>
 zHL hn J Jx W hJ hY ((hW.block B1 (zAa h1)).trans h1) ((hW.block B2 (zAa h2)).trans h2) hb1 hb2 (ha.carry (Carry.of_below hW)) (hb.carry (Carry.of_below hW)) hN hN2 h0
theorem Elems.imp {v:Nat->QV} (h:Elems W X s v) (hx:∀ b,X b->X' b):Elems W X' s v:=
 ⟨h.le,h.cap,fun i hi=>by obtain ⟨ad,e,h1,h2⟩:=h.elem i hi; exact ⟨ad,e,hx _ h1,h2⟩,h.rest⟩
end Go.Proofs.YtbpngececjihlaaGreat
namespace Go.Proofs.YtbpngececjihlaaGreat
open Go.RowKit Go.Shelf
variable {s:SV} {w w':World}
structure IntsMat (w:World) (s:SV) (m:List (List Int)):Prop where
 len:m.length=s.n
 le:s.n<=s.c
 cap:s.c<=9223372036854775807
 row:∀ i,i<s.n->∃ ad r,s.A=some ad/\w.cell? (ad.add i)=some (SV.val r)/\IntsAt w r (m.getD i [])/\r.n<=1000
theorem IntsMat.below {m:List (List Int)} (h:IntsMat w s m) (hb:Below w w w'):IntsMat w' s m:=
 ⟨h.len,h.le,h.cap,fun i hi=>by
  obtain ⟨ad,r,e,hc,hr,hn⟩:=h.row i hi;exact ⟨ad,r,e,(hb.cell (zAb hc)).trans hc,hr.below hb,hn⟩⟩
def MRet (w:World) (m:List (List Rat)) (e:Ending) (w':World):Prop:=∃ s:SV,e = .returned s.val/\MatCan w' (New w) (New w) s m
def rats (l:List Int):List Rat:=l.map fun x:Int=>(x:Rat)
def MILoop (w:World) (m:List (List Int)) (n:Nat) (t:Value) (W:World):Prop:=
 ∃ i:Nat,i<=n/\t = .int .i64 i/\Below w w W/\∃ (cs:Array Value) (sv:Nat->SV),W.heap[w.heap.size]?=some (.cells cs 23 (0,0))/\cs.size=n/\∀ j,j<i->cs[j]?=some (sv j).val/\VecCan W (New (w+1)) (New (w+1)) (sv j) (rats (m.getD j []))
theorem zBa {m:List (List Int)} (h:IntsMat w s m) (hn:s.n<=1000) :
  Calls Tryz.prog 92 #[s.val] w fun e w'=>MRet w (m.map rats) e w'/\Below w w w':=by
 obtain ⟨A,n,c⟩:=s;dsimp only at hn;have HLen:Hid (m.length=n):=h.len;have hle:n<=c:=h.le;have hcap:c<=9223372036854775807:=h.cap;have hmk:=zHV n (by omega);show Calls _ _ #[.slice A n c] _ _;go_enter Tryz.func92,Tryz.ntmps92
 go_wp2
 have H0:MILoop w m n (.int .i64 0) (w.alloc (.cells (zeroS n) 23)):=
  ⟨0,nzl _,rfl,bal,zeroS n,fun _=>⟨none,0,0⟩,zAd _ _ rfl,zIb n,fun j hj=>absurd hj (by omega)⟩
 clear hmk;generalize w.alloc (.cells (zeroS n) 23)=W0 at *;go_loopw [11] (fun t W=>MILoop w m n t W) (fun t _=>n-(intOf t).toNat)
 case atStart=>exact H0
 case round=>
  clear H0;obtain ⟨i,hi,rfl,hB,cs,sv,h1,h2,h3⟩:=hrel;by_cases hlt:i<n
  ·obtain ⟨ad,r,e,r0,hr,hr2⟩:=(h.below hB).row i hlt;dsimp only at e;subst e;obtain ⟨rA,rn,rc⟩:=r;have hyl:=zAa h1;(go_wp2_with fail);refine (zBP hr hr2).mono ?_; rintro e w1 ⟨⟨z,rfl,hz⟩,hb1⟩
   obtain ⟨zA,zn,zc⟩:=z;have h1':w1.heap[w.heap.size]?=some (.cells cs 23 (0,0)):=(hb1.block _ hyl).trans h1;have y0:(w1.cell? ⟨w.heap.size,i,none⟩).isSome=true:=by simp only [World.cell?,h1']; simp [h2,hlt]
   obtain ⟨yv,hyv⟩:=Option.isSome_iff_exists.1 y0;have yf:∀ o,w1.frozen? ⟨w.heap.size,o,none⟩=false:=fun o=>by simp [World.frozen?,h1']
   have Hfin:Hid (MILoop w m n (.int .i64 ((i:Int)+1)) (w1.setCell ⟨w.heap.size,i,none⟩ (.slice zA zn zc))):=by
    have k:∀ p:Addr,New (w+1) p.block->(w1.setCell ⟨w.heap.size,i,none⟩ (.slice zA zn zc)).cell? p=w1.cell? p:=(fun p hp=>cob (bhs _ _ _ _ (by simp only [New] at hp; show p.block ≠ w.heap.size; omega)));have kv:∀ {s:SV} {l:List Rat},VecCan w1 (New (w+1)) (New (w+1)) s l->VecCan (w1.setCell ⟨w.heap.size,i,none⟩ (.slice zA zn zc)) (New (w+1)) (New (w+1)) s l:=(fun hv=>hv.keep (fun a ha _=>k a ha) fun v q hq=>hq.keep fun p hp _=>k p hp);refine ⟨i+1,by omega,by simp,(hB.trans (hb1.mono hB.size)).setCell (p:=⟨w.heap.size,i,none⟩) (nlr _) _,cs.setIfInBounds i (.slice zA zn zc),fun j=>if j=i then ⟨zA,zn,zc⟩ else sv j,zAe _ h1',by simpa using h2,fun j hj=>?_⟩;rw [Array.getElem?_setIfInBounds];by_cases e:i=j
    ·subst e;rw [if_pos rfl,if_pos (by omega)];dsimp only;rw [if_pos rfl];exact ⟨rfl,kv (hz.imp (fun b _ hb=>by simp only [New] at hb ⊢; omega) fun v q hq=>hq.imp fun b _ hb=>by simp only [New] at hb ⊢; omega)⟩
    ·rw [if_neg e];dsimp only;rw [if_neg (Ne.symm e)];obtain ⟨g1,g2⟩:=h3 j (by omega);exact ⟨g1,kv (g2.belowC hb1)⟩
   clear h1 h2 h3 h1' hz hb1 hB hr r0 y0;go_wp2;go_roundw;case rel=>exact fn_ Hfin.out
   case measure=>simp [intOf]; omega
  ·have hin:i=n:=(by omega);rw [hin] at h3
   have HF:Hid (MRet w (m.map rats) (.returned (.slice (some w) n n)) wr):=by
    refine ⟨⟨some ⟨w,0,none⟩,n,n⟩,rfl,by rw [List.length_map]; exact HLen.out,nlr _,by show n<=_; omega,fun j hj=>?_⟩;have hj':j<n:=hj;obtain ⟨g1,g2⟩:=h3 j hj';refine ⟨⟨w,0,none⟩,sv j,rfl,nlr _,?_,?_⟩
    ·rw [zA4,Nat.zero_add]; simp only [World.cell?,h1]; simpa using g1
    ·have e:(m.map rats).getD j []=rats (m.getD j []):=by
      have:=HLen.out;simp [List.getElem?_map,gge (show j<m.length by omega)]
     rw [e];exact g2.imp (fun b _ hb=>by simp only [New] at hb ⊢; omega) fun v q hq=>hq.imp fun b _ hb=>by simp only [New] at hb ⊢; omega
   clear h1 h2 h3;go_wp2;go_ret;exact ⟨HF.out,hB⟩
end Go.Proofs.YtbpngececjihlaaGreat
