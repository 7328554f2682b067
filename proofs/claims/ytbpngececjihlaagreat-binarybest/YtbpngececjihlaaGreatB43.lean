/- Texts BnX BnY BnZ BnZ2 BnZ3 BnZ4 BnZ5 BnZ6 of this claim. -/
import Derived.Test.YtbpngececjihlaaGreatB42
import Derived.Laws.CopyOwn
set_option maxHeartbeats 4000000
set_option maxRecDepth 40000
namespace Go.Proofs.YtbpngececjihlaaGreat
open Go.RowKit Go.Shelf
variable {s sb sv pt:SV} {av:Nat->Int} {w w' W W2:World} {n L i V k c B m size j:Nat} {X Y:Nat->Prop} {eb:Bool} {x:Nat->Rat} {l bs:List Rat} {xs:List Value} {A:Option Addr} {e t T:TypeId} {v' v:Value} {cs:Array Value} {q:Rat} {os rs:List (List Rat)}
def PlRet (nb:Nat) (av:Nat->Int) (Q:Prop) (e:Ending):Prop:=∃ (p:Nat) (b:Bool),e = .returned (.tuple #[.int .i64 (p:Int),.bool b])/\(b=true->p<nb/\av p=-1)/\(b=false->Q)
def FirLoop (nb:Nat) (av:Nat->Int) (W1:World) (t:Value) (W:World):Prop:=∃ i:Nat,i<=nb/\t = .int .i64 (i:Int)/\W=W1/\∀ j,j<i->av j ≠ -1
theorem AvIs.below {nb:Nat} (h:AvIs w nb av s) (hb:Below w w w'):AvIs w' nb av s:=
 ⟨h.len,h.le,h.cap,fun k hk=>by
  obtain ⟨ad,e,hc⟩:=h.cell k hk;exact ⟨ad,e,(hb.cell (zAb hc)).trans hc⟩⟩
theorem zLL {nb l:Nat} (h:AvIs w nb av s) (hn:nb<=64) :
  Calls Tryz.prog 88 #[.agg #[s.val,.int .i64 (l:Int)]] w fun e w'=>PlRet nb av (l=0\/∀ i,i<nb->av i ≠ -1) e/\Below w w w':=by
 obtain ⟨A,n,c⟩:=s;obtain rfl:n=nb:=h.len;have hle:n<=c:=h.le;have hcap:c<=9223372036854775807:=h.cap;have al:Below w w (w.alloc (.cells #[.slice A n c,.int .i64 (l:Int)] 118)):=bal;have HA:=hdq (h.below al);clear h;dsimp only [SV.val];by_cases hl:l=0
 ·subst hl;go_enter Tryz.func88,Tryz.ntmps88
  go_wp2;exact bodyPost_ret (v:=.tuple #[.int .i64 ((0:Nat):Int),.bool false]) (by simp [results,Tryz.results88,go_sem]) rfl ⟨⟨0,false,rfl,si,fun _=>si⟩,al⟩
 ·have hli:¬ (l:Int)=0:=om
  go_enter Tryz.func88,Tryz.ntmps88
  go_wp2;go_loopw [13] (fun t W=>FirLoop n av (w.alloc (.cells #[.slice A n c,.int .i64 (l:Int)] 118)) t W) (fun t _=>n-(intOf t).toNat)
  case atStart=>exact ⟨0,nzl _,rfl,rfl,fun j hj=>om⟩
  case round=>
   obtain ⟨i,hi,rfl,rfl,hno⟩:=hrel;by_cases hlt:i<n
   ·have hki:(i:Int)<(n:Int):=om;obtain ⟨ada,ea,ca⟩:=HA.out.cell i hlt;dsimp only at ea;subst ea;by_cases hm:av i=-1
    ·have HM:=hdq hm;rw [hm] at ca;clear hm;go_wp2;exact bodyPost_ret (v:=.tuple #[.int .i64 ((i:Nat):Int),.bool true]) (by simp [results,Tryz.results88,go_sem]) rfl ⟨⟨i,true,rfl,fun _=>⟨hlt,HM.out⟩,fun h=>by simp at h⟩,al⟩
    ·have hm2:(av i == -1)=false:=by simpa using hm
     have Hfin:Hid (FirLoop n av (w.alloc (.cells #[.slice (some ada) n c,.int .i64 (l:Int)] 118)) (.int .i64 ((i:Int)+1)) (w.alloc (.cells #[.slice (some ada) n c,.int .i64 (l:Int)] 118))):=hdq ⟨i+1,om,si,rfl,fun j hj=>by
      by_cases e:j=i
      ·subst e; exact hm
      ·exact hno j om⟩
     clear hm;go_wp2;go_roundw;case rel=>exact fn_ Hfin.out
     case measure=>simp [intOf]; omega
   ·(obtain rfl:i=n:=om);go_wp2;exact bodyPost_ret (v:=.tuple #[.int .i64 ((0:Nat):Int),.bool false]) (by simp [results,Tryz.results88,go_sem]) rfl ⟨⟨0,false,rfl,si,fun _=>.inr hno⟩,al⟩
theorem Arr.avIs (h:Arr W s n 3 fun k=>.int .i64 (av k)):AvIs W n av s:=
 ⟨h.len,h.le,h.cap,fun k hk=>by
  obtain ⟨g,e,c,-,-⟩:=h.elem hk;refine ⟨⟨g,0,none⟩,e,?_⟩
  have:(⟨g,0,none⟩:Addr).add k=⟨g,k,none⟩:=by
   unfold Addr.add
   split
   ·rename_i e; subst e; rfl
   ·simp
  rw [this]; exact c⟩
def PrRet (w:World) (nb:Nat) (av:Nat->Int) (l:Nat) (e:Ending) (w':World):Prop:=∃ b:Nat,w.heap.size<=b/\e = .returned (.agg #[.slice (some ⟨b,0,none⟩) nb nb,.int .i64 (l:Int)])/\AvIs w' nb av ⟨some ⟨b,0,none⟩,nb,nb⟩/\Below w w w'
def StaLoop (w:World) (n:Nat) (t:Value) (W:World):Prop:=∃ i:Nat,i<=n/\t = .int .i64 (i:Int)/\Arr W ⟨some ⟨w+1,0,none⟩,n,n⟩ n 3 (fun k=>.int .i64 (if k<i then -1 else 0))/\Below w w W/\W.heap[w.heap.size]?=some (.cells #[.slice none 0 0,.int .i64 0] 118 (0,0))
theorem zLQ (hn:n<=64) :
  Calls Tryz.prog 71 #[.int .i64 (n:Int)] w (PrRet w n (fun _=>-1) n):=by
 have hmk:=zHU n om;go_enter Tryz.func71,Tryz.ntmps71
 go_wp2;have q0:((w.alloc (.cells #[.slice none 0 0,.int .i64 0] 118)).alloc (.cells (zeroI n) 3)).heap[w.heap.size]?=some (.cells #[.slice none 0 0,.int .i64 0] 118 (0,0)):=(Below.heap_alloc _ _ _ si).trans (zAd _ _ rfl)
 have q1:Arr ((w.alloc (.cells #[.slice none 0 0,.int .i64 0] 118)).alloc (.cells (zeroI n) 3)) ⟨some ⟨w+1,0,none⟩,n,n⟩ n 3 (fun k=>.int .i64 (if k<0 then -1 else 0)):=
  ⟨rfl,nlr _,by show n<=_; omega,.inr ⟨w.heap.size+1,zeroI n,rfl,zAd _ _ si,fun k hk=>by rw [zGg _ _ hk,if_neg (Nat.not_lt_zero _)]⟩⟩
 have al:Below w w ((w.alloc (.cells #[.slice none 0 0,.int .i64 0] 118)).alloc (.cells (zeroI n) 3)):=(bal).alloc si _;have H0:StaLoop w n (.int .i64 0) ((w.alloc (.cells #[.slice none 0 0,.int .i64 0] 118)).alloc (.cells (zeroI n) 3)):=⟨0,nzl _,rfl,q1,al,q0⟩;clear q0 q1 al hmk;go_loopw [9] (fun t W=>StaLoop w n t W) (fun t _=>n-(intOf t).toNat)
 case atStart=>exact H0
 case round=>
  clear H0;obtain ⟨i,hi,rfl,hA,hb,hq⟩:=hrel;by_cases hlt:i<n
  ·have hki:(i:Int)<(n:Int):=om;have hk0:(0:Int)<=(i:Int):=om;obtain ⟨g,eg,c0,f0,l0⟩:=hA.elem hlt;cases eg
   have Hfin:Hid (StaLoop w n (.int .i64 ((i:Int)+1)) (wr.setCell ⟨w.heap.size+1,i,none⟩ (.int .i64 (-1)))):=hdq ⟨i+1,om,si,(hA.set rfl (k:=i) (.int .i64 (-1))).congr fun j hj=>by
     by_cases e:j=i
     ·rw [if_pos e,if_pos om]
     ·rw [if_neg e];by_cases h:j<i
      ·rw [if_pos h,if_pos om]
      ·rw [if_neg h,if_neg om],hb.setCell (p:=⟨w.heap.size+1,i,none⟩) (by show w.heap.size<=w.heap.size+1; omega) _,(bhs _ _ _ _ (by show w.heap.size ≠ w.heap.size+1; omega)).trans hq⟩
   clear hA hb hq;go_wp2;go_roundw;case rel=>exact fn_ Hfin.out
   case measure=>simp [intOf]; omega
  ·(obtain rfl:i=n:=om);have c0:wr.cell? w=some (.slice none 0 0):=(by simp [World.cell?,hq]);have c1:wr.cell? ⟨w.heap.size,1,none⟩=some (.int .i64 0):=(by simp [World.cell?,hq]);have cf:∀ o,wr.frozen? ⟨w.heap.size,o,none⟩=false:=fun o=>by simp [World.frozen?,hq]
   have hq2:((wr.setCell w (.slice (some ⟨w+1,0,none⟩) i i)).setCell ⟨w.heap.size,1,none⟩ (.int .i64 (i:Int))).heap[w.heap.size]?=some (.cells #[.slice (some ⟨w+1,0,none⟩) i i,.int .i64 (i:Int)] 118 (0,0)):=by
    rw [zAe _ (zAe _ hq)]; simp
   have HA:=hdq ((hA.keep (W':=(wr.setCell w (.slice (some ⟨w+1,0,none⟩) i i)).setCell ⟨w.heap.size,1,none⟩ (.int .i64 (i:Int))) fun g e _=>(bhs _ _ _ _ (by cases e; show w.heap.size+1 ≠ w.heap.size; omega)).trans (bhs _ _ _ _ (by cases e; show w.heap.size+1 ≠ w.heap.size; omega))).congr (f':=fun k=>.int .i64 (-1)) fun k hk=>by rw [if_pos hk]);have HB:=hdq ((hb.setCell (p:=w) (nlr _) (.slice (some ⟨w+1,0,none⟩) i i)).setCell (p:=⟨w.heap.size,1,none⟩) (nlr _) (.int .i64 (i:Int)));have v0:((wr.setCell w (.slice (some ⟨w+1,0,none⟩) i i)).setCell ⟨w.heap.size,1,none⟩ (.int .i64 (i:Int))).cell? w=some (.slice (some ⟨w+1,0,none⟩) i i):=(by simp [World.cell?,hq2]);have v1:((wr.setCell w (.slice (some ⟨w+1,0,none⟩) i i)).setCell ⟨w.heap.size,1,none⟩ (.int .i64 (i:Int))).cell? ⟨w.heap.size,1,none⟩=some (.int .i64 (i:Int)):=(by simp [World.cell?,hq2]);clear hA hb hq hq2;go_wp2;exact bodyPost_ret (v:=.agg #[.slice (some ⟨w+1,0,none⟩) i i,.int .i64 (i:Int)]) (by simp [results,Tryz.results71,go_sem,v0,v1]) rfl ⟨w.heap.size+1,Nat.le_add_right _ _,rfl,HA.out.avIs,HB.out⟩
theorem zLh {nb l p:Nat} {v:Int} (h:AvIs w nb av s) (hn:nb<=64) (hp:p<nb) (hl:1<=l) (hl2:l<=64) :
  Calls Tryz.prog 76 #[.agg #[s.val,.int .i64 (l:Int)],.int .i64 (p:Int),.int .i64 v] w (PrRet w nb (Lin.turn av p v) (l-1)):=by
 obtain ⟨A,n,c⟩:=s;obtain rfl:n=nb:=h.len;have hle:n<=c:=h.le;have hcap:c<=9223372036854775807:=h.cap;have hmk:=zHU n om;have HA:=hdq h;clear h;dsimp only [SV.val];go_enter Tryz.func76,Tryz.ntmps76
 go_upto_region 2 with fail
 have q0:(((w.alloc (.cells #[.slice A n c,.int .i64 (l:Int)] 118)).alloc (.cells #[.slice none 0 0,.int .i64 0] 118)).alloc (.cells (zeroI n) 3)).heap[w.heap.size]?=some (.cells #[.slice A n c,.int .i64 (l:Int)] 118 (0,0)):=(Below.heap_alloc _ _ _ (by simp; omega)).trans ((Below.heap_alloc _ _ _ si).trans (zAd _ _ rfl));have q1:(((w.alloc (.cells #[.slice A n c,.int .i64 (l:Int)] 118)).alloc (.cells #[.slice none 0 0,.int .i64 0] 118)).alloc (.cells (zeroI n) 3)).heap[w.heap.size+1]?=some (.cells #[.slice none 0 0,.int .i64 0] 118 (0,0)):=(Below.heap_alloc _ _ _ si).trans (zAd _ _ si)
 have q2:(((w.alloc (.cells #[.slice A n c,.int .i64 (l:Int)] 118)).alloc (.cells #[.slice none 0 0,.int .i64 0] 118)).alloc (.cells (zeroI n) 3)).heap[w.heap.size+1+1]?=some (.cells (List.replicate n (Value.int .i64 0)).toArray 3 (0,0)):=by
  rw [zAd _ _ si]
  have:zeroI n=(List.replicate n (Value.int .i64 0)).toArray:=by
   apply Array.ext_getElem?;intro k;by_cases hk:k<n
   ·rw [zGg _ _ hk]; simp [hk]
   ·rw [Array.getElem?_eq_none (by rw [zFb]; omega)]; simp [hk]
  rw [this]
 have al:Below w w (((w.alloc (.cells #[.slice A n c,.int .i64 (l:Int)] 118)).alloc (.cells #[.slice none 0 0,.int .i64 0] 118)).alloc (.cells (zeroI n) 3)):=((bal).alloc si _).alloc (by simp; omega) _;generalize ((w.alloc (.cells #[.slice A n c,.int .i64 (l:Int)] 118)).alloc (.cells #[.slice none 0 0,.int .i64 0] 118)).alloc (.cells (zeroI n) 3)=W1 at *;have hs:=al.size;have b0:W1.cell? w=some (.slice A n c):=by simp [World.cell?,q0]
 have Q0:=hdq q0;have Q1:=hdq q1;have Q2:=hdq q2;clear q0 q1 q2 hmk
 have Hcp:Hid (0<((List.range n).map fun k=>Value.int .i64 (av k)).length->(some ⟨w+1+1,0,none⟩:Option Addr)=some ⟨w+1+1,0,none⟩/\∃ ad,A=some ad/\∀ (j:Nat) (u:Value),((List.range n).map fun k=>Value.int .i64 (av k))[j]?=some u->W1.cell? (ad.add j)=some u):=hdq fun h0=>by
  obtain ⟨ad,e,-⟩:=HA.out.cell 0 (by simpa using h0);refine ⟨rfl,ad,e,fun j u hu=>?_⟩;by_cases hj:j<n
  ·obtain ⟨ad2,e2,c2⟩:=HA.out.cell j hj;have e3:=e.symm.trans e2;cases e3
   have:u = .int .i64 (av j):=by
    simp [hj] at hu;exact hu.symm
   rw [this];exact (al.cell (zAb c2)).trans c2
  ·simp [hj] at hu
 have Hsz:Hid ((Tryz.prog.info? 3).map (·.size)=some 1):=hdq kj;have Hcn:Hid (((List.range n).map fun k=>Value.int .i64 (av k)).length=Nat.min n n):=hdq si;have Hcf:Hid (0+((List.range n).map fun k=>Value.int .i64 (av k)).length<=(List.replicate n (Value.int .i64 0)).length):=hdq si
 have Hc1:Hid (∀ u ∈ (List.range n).map fun k=>Value.int .i64 (av k),u.oneCell'=true):=hdq fun u hu=>by
  rw [List.mem_map] at hu;obtain ⟨k,-,rfl⟩:=hu;rfl
 go_wp2_with (with_reducible refine wpList_copy_splice (o:=⟨some 17,_,_,_,_,_⟩) (by with_unfolding_all rfl) (.tmp 13) (.tmp 16) 48 48 (by with_unfolding_all rfl) 3 Tryz.underlying48 Hsz.out (some ⟨w+1+1,0,none⟩) A n n n c (by with_unfolding_all rfl) (by with_unfolding_all rfl) (w+1+1) 0 (List.replicate n (Value.int .i64 0)) 3 Q2.out ((List.range n).map fun k=>Value.int .i64 (av k)) Hcn.out Hcp.out Hcf.out Hc1.out (w+1+1) W1 (brf _ _) (nlr _) ?_)
 intro W2 hg2 hb2;have es:splice (List.replicate n (Value.int .i64 0)) 0 ((List.range n).map fun k=>Value.int .i64 (av k))=(List.range n).map fun k=>Value.int .i64 (av k):=by simp [splice]
 have hg3:=hg2.out;rw [es] at hg3;have hA2:Arr W2 ⟨some ⟨w+1+1,0,none⟩,n,n⟩ n 3 (fun k=>.int .i64 (av k)):=⟨rfl,nlr _,by show n<=_; omega,.inr ⟨w.heap.size+1+1,_,rfl,hg3,fun k hk=>by simp [hk]⟩⟩;have r0:W2.heap[w.heap.size]?=_:=(hb2.block _ om).trans Q0.out;have r1:W2.heap[w.heap.size+1]?=_:=(hb2.block _ om).trans Q1.out;have hb3:Below w w W2:=al.trans (hb2.mono om);have l1:W2.cell? ⟨w.heap.size,1,none⟩=some (.int .i64 (l:Int)):=by simp [World.cell?,r0]
 have x0:W2.cell? ⟨w+1,0,none⟩=some (.slice none 0 0):=by simp [World.cell?,r1]
 have x1:W2.cell? ⟨w.heap.size+1,1,none⟩=some (.int .i64 0):=by simp [World.cell?,r1]
 have xf:∀ o,W2.frozen? ⟨w.heap.size+1,o,none⟩=false:=fun o=>by simp [World.frozen?,r1]
 obtain ⟨g,eg,c0,f0,lg⟩:=hA2.elem hp;cases eg;have hpi:(p:Int)<(n:Int):=om
 have hp0:(0:Int)<=(p:Int):=om
 have HlI:Hid (((l:Int)-1)=((l-1:Nat):Int)):=hdq om
 have hA3:=(hA2.set rfl (k:=p) (.int .i64 v)).congr (f':=fun k=>.int .i64 (Lin.turn av p v k)) fun k _=>by
  unfold Lin.turn; split <;> rfl
 have r2:=(bhs W2 (.int .i64 v) (a:=⟨w.heap.size+1+1,p,none⟩) (w+1) (by show w.heap.size+1 ≠ w.heap.size+1+1; omega)).trans r1;have HA3:=hdq hA3;have hb4:=hb3.setCell (p:=⟨w.heap.size+1+1,p,none⟩) (by show w.heap.size<=w.heap.size+1+1; omega) (.int .i64 v);have HB4:=hdq hb4;have R2:=hdq r2;clear hA2 hA3 hb4 r2 r0 r1 hg3 hg2 es hb2 hb3;go_wp2;rw [HlI.out];clear x0 x1 xf c0 f0 l1;generalize W2.setCell ⟨w.heap.size+1+1,p,none⟩ (.int .i64 v)=W3 at *
 have hq2:((W3.setCell ⟨w+1,0,none⟩ (.slice (some ⟨w+1+1,0,none⟩) n n)).setCell ⟨w.heap.size+1,1,none⟩ (.int .i64 ((l-1:Nat):Int))).heap[w.heap.size+1]?=some (.cells #[.slice (some ⟨w+1+1,0,none⟩) n n,.int .i64 ((l-1:Nat):Int)] 118 (0,0)):=by
  rw [zAe _ (zAe _ R2.out)]; simp
 have hA:=HA3.out.keep (W':=(W3.setCell ⟨w+1,0,none⟩ (.slice (some ⟨w+1+1,0,none⟩) n n)).setCell ⟨w.heap.size+1,1,none⟩ (.int .i64 ((l-1:Nat):Int))) fun g e _=>(bhs _ _ _ _ (by cases e; show w.heap.size+1+1 ≠ w.heap.size+1; omega)).trans (bhs _ _ _ _ (by cases e; show w.heap.size+1+1 ≠ w.heap.size+1; omega))
 have hB:=(HB4.out.setCell (p:=⟨w+1,0,none⟩) (by show w.heap.size<=w.heap.size+1; omega) (.slice (some ⟨w+1+1,0,none⟩) n n)).setCell (p:=⟨w.heap.size+1,1,none⟩) (by show w.heap.size<=w.heap.size+1; omega) (.int .i64 ((l-1:Nat):Int));have v0:((W3.setCell ⟨w+1,0,none⟩ (.slice (some ⟨w+1+1,0,none⟩) n n)).setCell ⟨w.heap.size+1,1,none⟩ (.int .i64 ((l-1:Nat):Int))).cell? ⟨w+1,0,none⟩=some (.slice (some ⟨w+1+1,0,none⟩) n n):=by simp [World.cell?,hq2]
 have v1:((W3.setCell ⟨w+1,0,none⟩ (.slice (some ⟨w+1+1,0,none⟩) n n)).setCell ⟨w.heap.size+1,1,none⟩ (.int .i64 ((l-1:Nat):Int))).cell? ⟨w.heap.size+1,1,none⟩=some (.int .i64 ((l-1:Nat):Int)):=by simp [World.cell?,hq2]
 exact bodyPost_ret (v:=.agg #[.slice (some ⟨w+1+1,0,none⟩) n n,.int .i64 ((l-1:Nat):Int)]) (by simp [results,Tryz.results76,go_sem,v0,v1]) rfl ⟨w.heap.size+1+1,om,rfl,hA.avIs,hB⟩
theorem BinIs.below {B:Lin.BP} (h:BinIs w B s) (hb:Below w w w'):BinIs w' B s:=
 ⟨h.len,h.le,h.cap,fun k hk=>by
  obtain ⟨ad,e,hc⟩:=h.cell k hk;exact ⟨ad,e,(hb.cell (zAb hc)).trans hc⟩⟩
def FrLoop (B:Lin.BP) (av:Nat->Int) (f:Nat->Rat) (W1:World) (t:Value) (W:World):Prop:=∃ i:Nat,i<=B.nb/\t = .int .i64 (i:Int)/\Below W1 W1 W/\∀ j,j<i->av j=-1->f (B.bin j)=0\/f (B.bin j)=1
theorem zLb {l:Nat} {B:Lin.BP} {ls:List Rat} (h:AvIs w B.nb av s) (hb:BinIs w B sb) (hn:B.nb<=64) (hbi:∀ i,i<B.nb->B.bin i<=1000) (hpt:eb=false->VecIs w X Y L pt ls) (hL:L<=LM) :
  Calls Tryz.prog 75 #[.agg #[s.val,.int .i64 (l:Int)],sb.val,.agg #[sv.val,.bool eb,pt.val]] w fun e w'=>PlRet B.nb av (if eb=true then (l=0\/∀ i,i<B.nb->av i ≠ -1) else ∀ i,i<B.nb->av i=-1->ls.getD (B.bin i) 0=0\/ls.getD (B.bin i) 0=1) e/\Below w w w':=by
 obtain ⟨A,n,c⟩:=s;have en:n=B.nb:=h.len;subst en;have hle:B.nb<=c:=h.le;have hcap:c<=9223372036854775807:=h.cap;obtain ⟨bA,bN,bC⟩:=sb;have en:bN=B.nb:=hb.len;subst en;have hbc:B.nb<=bC:=hb.le;have hbc2:bC<=9223372036854775807:=hb.cap;obtain ⟨vA,vN,vC⟩:=sv;obtain ⟨xA,xN,xC⟩:=pt;have HL:=hdq hL;clear hL;dsimp only [SV.val]
 cases eb with
 | true=>
  simp only [if_true];have al:Below w w ((w.alloc (.cells #[.slice A B.nb c,.int .i64 (l:Int)] 118)).alloc (.cells #[.slice vA vN vC,.bool true,.slice xA xN xC] 111)):=(bal).alloc si _;have HA:=hdq (h.below al);clear h;go_enter Tryz.func75,Tryz.ntmps75
  go_wp2_with fail
  refine (zLL (l:=l) HA.out hn).mono ?_;rintro e w1 ⟨⟨p,b,rfl,h1,h2⟩,hb1⟩;have Hp:=hdq (And.intro h1 h2);have hbl:=al.trans (hb1.mono al.size);clear h1 h2 hb1 HA al;go_wp2
  exact bodyPost_ret (v:=.tuple #[.int .i64 (p:Int),.bool b]) (by simp [results,Tryz.results75,go_sem]) rfl ⟨⟨p,b,rfl,Hp.out⟩,hbl⟩
 | false=>
  have HX:=hdq (hpt rfl);clear hpt;simp only [Bool.false_eq_true,if_false];obtain ⟨W1,hW1⟩:∃ W1,W1=(w.alloc (.cells #[.slice A B.nb c,.int .i64 (l:Int)] 118)).alloc (.cells #[.slice vA vN vC,.bool false,.slice xA xN xC] 111):=⟨_,rfl⟩;have al:Below w w W1:=by rw [hW1]; exact (bal).alloc si _
  have p0:W1.cell? w=some (.slice A B.nb c):=by rw [hW1]; go_simp
  have p1:W1.cell? ⟨w.heap.size+1,1,none⟩=some (.bool false):=by rw [hW1]; go_simp
  have p2:W1.cell? ⟨w.heap.size+1,2,none⟩=some (.slice xA xN xC):=by rw [hW1]; go_simp
  have HA:=hdq (h.below al);have HB:=hdq (hb.below al);have HX1:=hdq (HX.out.below al);clear h hb;go_enter Tryz.func75,Tryz.ntmps75
  go_upto_region 1 with fail
  rw [<-hW1];clear hW1;go_wp2;go_loopw [18] (fun t W=>FrLoop B av (fun k=>ls.getD k 0) W1 t W) (fun t _=>B.nb-(intOf t).toNat)
  case atStart=>exact ⟨0,nzl _,rfl,brf _ _,fun j hj=>om⟩
  case round=>
   obtain ⟨i,hi,rfl,hb1,hok⟩:=hrel;by_cases hlt:i<B.nb
   ·have hki:(i:Int)<(B.nb:Int):=om;obtain ⟨ada,ea,ca⟩:=HA.out.cell i hlt;obtain ⟨adb,eb,cb⟩:=HB.out.cell i hlt;dsimp only at ea eb;subst ea;subst eb;have ca:=(hb1.cell (zAb ca)).trans ca;have cb:=(hb1.cell (zAb cb)).trans cb;have q0:=(hb1.cell (zAb p0)).trans p0;have q2:=(hb1.cell (zAb p2)).trans p2;by_cases hm:av i=-1
    ·have HM:=hdq hm;rw [hm] at ca;have Hok:=hdq hok;have hbi2:=hbi i hlt;clear hm hok;(go_wp2_with fail);refine (zKH (s:=⟨xA,xN,xC⟩) (HX1.out.below hb1) om).mono ?_;rintro e w2 ⟨⟨z,rfl,hz⟩,hb2⟩;have HZ:=hdq hz;have h12:=hb1.trans (hb2.mono hb1.size);clear hz;(go_wp2_with fail);refine (zKW HZ.out HL.out).mono ?_;rintro e w3 ⟨rfl,hb3⟩;have h13:=h12.trans (hb3.mono h12.size);have hbl:=al.trans (h13.mono al.size);by_cases hq:ls.getD (B.bin i) 0=0\/ls.getD (B.bin i) 0=1
     ·have Hfin:Hid (FrLoop B av (fun k=>ls.getD k 0) W1 (.int .i64 ((i:Int)+1)) w3):=hdq ⟨i+1,om,si,h13,fun j hj e=>by
       by_cases e2:j=i
       ·subst e2; exact hq
       ·exact Hok.out j om e⟩
      rw [decide_eq_true hq];clear hq h13 hb3 h12 hb2 hb1 ca cb q0 q2 hbl;go_wp2;go_roundw;case rel=>exact fn_ Hfin.out
      case measure=>simp [intOf]; omega
     ·rw [decide_eq_false hq];clear hq h13 hb3 h12 hb2 hb1 ca cb q0 q2;go_wp2;exact bodyPost_ret (v:=.tuple #[.int .i64 (i:Int),.bool true]) (by simp [results,Tryz.results75,go_sem]) rfl ⟨⟨i,true,rfl,fun _=>⟨hlt,HM.out⟩,fun h=>by simp at h⟩,hbl⟩
    ·have hm2:(av i == -1)=false:=by simpa using hm
     have Hfin:Hid (FrLoop B av (fun k=>ls.getD k 0) W1 (.int .i64 ((i:Int)+1)) wr):=hdq ⟨i+1,om,si,hb1,fun j hj e=>by
      by_cases e2:j=i
      ·subst e2; exact absurd e hm
      ·exact hok j om e⟩
     clear hm hok;go_wp2;go_roundw;case rel=>exact fn_ Hfin.out
     case measure=>simp [intOf]; omega
   ·(obtain rfl:i=B.nb:=om);go_wp2;exact bodyPost_ret (v:=.tuple #[.int .i64 ((0:Nat):Int),.bool false]) (by simp [results,Tryz.results75,go_sem]) rfl ⟨⟨0,false,rfl,si,fun _=>hok⟩,al.trans (hb1.mono al.size)⟩
def BetRet (B:Lin.BP) (s r:Option (Nat->Rat)) (e:Ending):Prop:=∃ b:Bool,e = .returned (.bool b)/\∀ x y,s=some x->r=some y->(b=false->B.Le x y)/\(b=true->B.Le y x)
def BeLoop (W1:World) (N:Nat) (f g:Nat->Rat) (t:Value) (W:World):Prop:=∃ i:Nat,i<=N/\t = .int .i64 (i:Int)/\Below W1 W1 W/\∀ j,j<i->f j=g j
theorem Lin.BP.le_first {B:Lin.BP} {y:Nat->Rat} (hi:i<B.K) (he:∀ j,j<i->B.dot (B.lev j) x=B.dot (B.lev j) y) (h:B.dot (B.lev i) x<B.dot (B.lev i) y):B.Le x y:=
 .inr ⟨i,om,by grind,fun j hj=>by have:=he j hj; grind⟩
theorem Lin.BP.le_lex {B:Lin.BP} {y:Nat->Rat} (he:∀ j,j<B.K->B.dot (B.lev j) x=B.dot (B.lev j) y) (hi:i<B.V) (h:y i<x i) (hj:∀ j,j<i->x j=y j):B.Le x y:=
 .inr ⟨B.K+i,om,by dsimp only; rw [Lin.BP.lev_x hi,Lin.BP.lev_x hi]; grind,fun j hj2=>by
  by_cases hk:j<B.K
  ·have:=he j hk; grind
  ·obtain ⟨u,rfl⟩:∃ u,j=B.K+u:=⟨j-B.K,om⟩;dsimp only; rw [Lin.BP.lev_x om,Lin.BP.lev_x om,hj u om]; grind⟩
theorem Lin.BP.le_same {B:Lin.BP} {y:Nat->Rat} (he:∀ j,j<B.K->B.dot (B.lev j) x=B.dot (B.lev j) y) (h:∀ i,i<B.V->x i=y i):B.Le x y:=
 .inl fun j hj2=>by
  by_cases hk:j<B.K
  ·have:=he j hk; grind
  ·obtain ⟨u,rfl⟩:∃ u,j=B.K+u:=⟨j-B.K,om⟩;dsimp only; rw [Lin.BP.lev_x om,Lin.BP.lev_x om,h u om]; grind
theorem Lin.BP.le_point {B:Lin.BP} {y:Nat->Rat} (he:∀ j,j<B.K->B.dot (B.lev j) x=B.dot (B.lev j) y):(¬ vcmp x y B.V<0->B.Le x y)/\(vcmp x y B.V<0->B.Le y x):=by
 rcases Lin.zFM B.V (fun l=>x l-y l) with ⟨i,hi,h1,h2⟩ | h | ⟨i,hi,h1,h2⟩
 ·have e:vcmp x y B.V=-1:=by
   rw [zKr (x:=i) (fun j hj=>by have:=h2 j hj; grind) (by grind) hi];unfold qcmp; rw [if_pos (by grind)]
  refine ⟨fun h=>om,fun _=>Lin.BP.le_lex (fun j hj=>(he j hj).symm) hi (by grind) fun j hj=>by have:=h2 j hj; grind⟩
 ·refine ⟨fun _=>Lin.BP.le_same he fun i hi=>by have:=h i hi; grind,fun h'=>?_⟩;rw [zKq fun i hi=>by have:=h i hi; grind] at h';omega
 ·have e:vcmp x y B.V=1:=by
   rw [zKr (x:=i) (fun j hj=>by have:=h2 j hj; grind) (by grind) hi];unfold qcmp; rw [if_neg (by grind),if_neg (by grind)]
  exact ⟨fun _=>Lin.BP.le_lex he hi (by grind) fun j hj=>by have:=h2 j hj; grind,fun h=>om⟩
def betB (l l':List Rat) (eb:Bool) (p p':List Rat):Bool:=
 if vcmp (fun i=>l.getD i 0) (fun i=>l'.getD i 0) (min l.length l'.length) ≠ 0 then decide (0<vcmp (fun i=>l.getD i 0) (fun i=>l'.getD i 0) (min l.length l'.length))
 else if l.length<l'.length then true else if l'.length<l.length\/eb=true then false else decide (vcmp (fun i=>p.getD i 0) (fun i=>p'.getD i 0) (max p.length p'.length)<0)
theorem zLI {l' p p':List Rat} (hi:i<min l.length l'.length) (he:∀ j,j<i->l.getD j 0=l'.getD j 0) (h:l.getD i 0 ≠ l'.getD i 0):betB l l' eb p p'=decide (0<qcmp (l.getD i 0) (l'.getD i 0)):=by
 unfold betB;rw [zKr (a:=fun i=>l.getD i 0) (b:=fun i=>l'.getD i 0) he h hi,if_pos (zKy h)]
theorem zMo {l' p p':List Rat} (he:∀ j,j<min l.length l'.length->l.getD j 0=l'.getD j 0):betB l l' eb p p'=if l.length<l'.length then true else if l'.length<l.length\/eb=true then false else decide (vcmp (fun i=>p.getD i 0) (fun i=>p'.getD i 0) (max p.length p'.length)<0):=by
 unfold betB;rw [zKq (a:=fun i=>l.getD i 0) (b:=fun i=>l'.getD i 0) he,if_neg dj]
theorem zLj {l' p p':List Rat} {sv' pt':SV} {eb':Bool} (h1:VecIs w X Y L sv l) (h2:VecIs w X Y L sv' l') (h3:VecIs w X Y L pt p) (h4:VecIs w X Y L pt' p') (hL:L<=LM) (n1:sv.n<=1000) (n2:sv'.n<=1000) (n3:pt.n<=1000) (n4:pt'.n<=1000) :
  Calls Tryz.prog 70 #[.agg #[sv.val,.bool eb,pt.val],.agg #[sv'.val,.bool eb',pt'.val]] w fun e w'=>e = .returned (.bool (betB l l' eb p p'))/\Below w w w':=by
 obtain ⟨aA,aN,aC⟩:=sv;obtain ⟨bA,bN,bC⟩:=sv';obtain ⟨cA,cN,cC⟩:=pt;obtain ⟨dA,dN,dC⟩:=pt';dsimp only at n1 n2 n3 n4;have E1:=hdq h1.len;have E2:=hdq h2.len;have E3:=hdq h3.len;have E4:=hdq h4.len;have la:aN<=aC:=h1.le;have la2:aC<=9223372036854775807:=h1.cap;have lb:bN<=bC:=h2.le;have lb2:bC<=9223372036854775807:=h2.cap;have HL:=hdq hL;clear hL;dsimp only [SV.val];obtain ⟨W1,hW1⟩:∃ W1,W1=(w.alloc (.cells #[.slice aA aN aC,.bool eb,.slice cA cN cC] 111)).alloc (.cells #[.slice bA bN bC,.bool eb',.slice dA dN dC] 111):=⟨_,rfl⟩;have al:Below w w W1:=by rw [hW1]; exact (bal).alloc si _
 have p0:W1.cell? w=some (.slice aA aN aC):=by rw [hW1]; go_simp
 have p1:W1.cell? ⟨w.heap.size,1,none⟩=some (.bool eb):=by rw [hW1]; go_simp
 have p2:W1.cell? ⟨w.heap.size,2,none⟩=some (.slice cA cN cC):=by rw [hW1]; go_simp
 have q0:W1.cell? ⟨w+1,0,none⟩=some (.slice bA bN bC):=by rw [hW1]; go_simp
 have q2:W1.cell? ⟨w.heap.size+1,2,none⟩=some (.slice dA dN dC):=by rw [hW1]; go_simp
 have H1:=hdq h1;have H2:=hdq h2;have H3:=hdq h3;have H4:=hdq h4;clear h1 h2 h3 h4;obtain ⟨N,hN⟩:∃ N,N=min aN bN:=⟨_,rfl⟩;have emin:min (aN:Int) (bN:Int)=(N:Int):=om
 go_enter Tryz.func70,Tryz.ntmps70
 go_upto_region 1 with fail
 rw [<-hW1];clear hW1;go_wp2;have Hem:=hdq emin;have HN:=hdq hN;clear emin hN;go_loopw [14] (fun t W=>BeLoop W1 N (fun i=>l.getD i 0) (fun i=>l'.getD i 0) t W) (fun t _=>N-(intOf t).toNat)
 case atStart=>exact ⟨0,nzl _,rfl,brf _ _,fun j hj=>om⟩
 case round=>
  obtain ⟨i,hi,rfl,hb1,hok⟩:=hrel;have hbw:=al.trans (hb1.mono al.size);have r0:=(hb1.cell (zAb p0)).trans p0;have r1:=(hb1.cell (zAb p1)).trans p1;have r2:=(hb1.cell (zAb p2)).trans p2;have t0:=(hb1.cell (zAb q0)).trans q0;have t2:=(hb1.cell (zAb q2)).trans q2;by_cases hlt:i<N
  ·have hki:(i:Int)<(N:Int):=om;have hia:i<aN:=by have:=HN.out; omega
   have hib:i<bN:=by have:=HN.out; omega
   have hai:(i:Int)<(aN:Int):=om;have hbi:(i:Int)<(bN:Int):=om;have hk0:(0:Int)<=(i:Int):=om;obtain ⟨ada,u,ea,-,cu,hu⟩:=H1.out.elem i hia;obtain ⟨adb,v,ebq,-,cv,hv⟩:=H2.out.elem i hib;dsimp only at ea ebq;subst ea;subst ebq;have lu:=zAb cu.1;have lv:=zAb cv.1;have cu2:QCell wr (ada.add (i*4)) u:=cu.keep fun a e hl=>hbw.cell (by rw [e]; exact hl)
   have cv2:QCell wr (adb.add (i*4)) v:=cv.keep fun a e hl=>hbw.cell (by rw [e]; exact hl)
   obtain ⟨u0,u1,u2,u3⟩:=cu2;obtain ⟨v0,v1,v2,v3⟩:=cv2;obtain ⟨pa,Hpa⟩:∃ pa,Hid (pa=l.getD i 0):=⟨_,hdq rfl⟩;obtain ⟨pb,Hpb⟩:∃ pb,Hid (pb=l'.getD i 0):=⟨_,hdq rfl⟩;rw [<-Hpa.out] at hu;rw [<-Hpb.out] at hv;have HU:=hdq (hu.below hbw);have HV:=hdq (hv.below hbw);have hs1:=hb1.size;have m1:w.heap.size<wr.heap.size:=zAb r0;have m2:w.heap.size+1<wr.heap.size:=zAb t0;have m0:w.heap.size<=wr.heap.size:=om;have Hok:=hdq hok;clear hok hu hv cu cv hs1;(go_upto_region 4 with fail);refine zAp 1000 (fun _ w'=>w'.cell? w=some (.slice (some ada) aN aC)/\w'.cell? ⟨w+1,0,none⟩=some (.slice (some adb) bN bC)/\QCell w' (ada.add (i*4)) u/\QCell w' (adb.add (i*4)) v) kj ?_;have hS0:wr.drew.cell? w=some (.slice (some ada) aN aC)/\wr.drew.cell? ⟨w+1,0,none⟩=some (.slice (some adb) bN bC)/\QCell wr.drew (ada.add (i*4)) u/\QCell wr.drew (adb.add (i*4)) v:=⟨r0,t0,⟨u0,u1,u2,u3⟩,v0,v1,v2,v3⟩;refine tx4 0 1 2 3 hS0 ?_;refine tkE 4 (.agg #[.bool u.num.ng,.slice u.num.A u.num.n u.num.c,.bool u.den.ng,.slice u.den.A u.den.n u.den.c]) (fun w' hSw=>?_) (hS0) ?_
   ·obtain ⟨_,x1,x2,⟨x3,x4,x5,x6⟩,x7,x8,x9,x10⟩:=hSw; go_simp
   simp only [zz];refine tx4 5 6 7 8 hS0 ?_;refine tkE 9 (.agg #[.bool v.num.ng,.slice v.num.A v.num.n v.num.c,.bool v.den.ng,.slice v.den.A v.den.n v.den.c]) (fun w' hSw=>?_) (hS0) ?_
   ·obtain ⟨_,x1,x2,⟨x3,x4,x5,x6⟩,x7,x8,x9,x10⟩:=hSw; go_simp
   simp only [zz];refine tk1 10 ?_;intro K hK;go_simp;have hdr:Below wr wr wr.drew:=(brf _ _).drew;refine (zBg (a:=u) (b:=v) (HU.out.below hdr) (HV.out.below hdr) HL.out HL.out).mono ?_;rintro e w3 ⟨rfl,hb3⟩;have h03:=hdr.trans hb3;have h13:=hb1.trans (h03.mono hb1.size);have hbl:=al.trans (h13.mono al.size);have hc3:w3.cell? w=some (.slice (some ada) aN aC)/\w3.cell? ⟨w+1,0,none⟩=some (.slice (some adb) bN bC)/\QCell w3 (ada.add (i*4)) u/\QCell w3 (adb.add (i*4)) v:=⟨(h03.cell (p:=w) m1).trans r0,(h03.cell (p:=⟨w+1,0,none⟩) m2).trans t0,QCell.keep ⟨u0,u1,u2,u3⟩ fun a e hl=>h03.cell (by rw [e]; exact hl),QCell.keep ⟨v0,v1,v2,v3⟩ fun a e hl=>h03.cell (by rw [e]; exact hl)⟩;refine hK.out _ _ hc3 ?_;clear hK K;refine tk1 11 ?_;intro K hK;go_simp;refine hK.out _ _ hc3 ?_;clear hK K;refine zAf kj ?_ _;clear hS0 hc3 u0 u1 u2 u3 v0 v1 v2 v3 r0 r1 r2 t0 t2;have hml:i<min l.length l'.length:=by have h1:l.length=aN:=E1.out; have h2:l'.length=bN:=E2.out; omega
   by_cases hq:pa=pb
   ·have hc:qcmp pa pb=0:=by rw [hq]; exact zKE _
    have hq2:l.getD i 0=l'.getD i 0:=by rw [<-Hpa.out,<-Hpb.out]; exact hq
    have Hfin:Hid (BeLoop W1 N (fun i=>l.getD i 0) (fun i=>l'.getD i 0) (.int .i64 ((i:Int)+1)) w3):=hdq ⟨i+1,om,si,h13,fun j hj=>by
     by_cases e2:j=i
     ·subst e2; exact hq2
     ·exact Hok.out j om⟩
    rw [hc];clear hq hc hq2 hml h03 h13 hbl hb3 hb1 hbw;go_wp2;go_roundw;case rel=>exact fn_ Hfin.out
    case measure=>simp [intOf]; omega
   ·have HR:Hid (betB l l' eb p p'=decide (0<qcmp pa pb)):=hdq (by
     rw [Hpa.out,Hpb.out];exact zLI (p:=p) (p':=p') (eb:=eb) hml Hok.out (by rw [<-Hpa.out,<-Hpb.out]; exact hq))
    rcases (by unfold qcmp; rw [if_neg hq]; split <;> simp:qcmp pa pb=-1\/qcmp pa pb=1) with hc | hc
    ·rw [hc] at HR ⊢;clear hq hc hml h03 h13 hb3 hb1 hbw;go_wp2;go_ret;exact ⟨by rw [HR.out]; rfl,hbl⟩
    ·rw [hc] at HR ⊢;clear hq hc hml h03 h13 hb3 hb1 hbw;go_wp2;go_ret;exact ⟨by rw [HR.out]; rfl,hbl⟩
  ·(obtain rfl:N=i:=om);have HR:=hdq (zMo (l:=l) (l':=l') (p:=p) (p':=p') (eb:=eb) fun j hj=>hok j (by have h1:l.length=aN:=E1.out; have h2:l'.length=bN:=E2.out; have:=HN.out; omega));have e1:l.length=aN:=E1.out;have e2:l'.length=bN:=E2.out;rw [e1,e2] at HR;clear hok hlt hi e1 e2 p0 p1 p2 q0 q2 hb1;have hnm:¬ N<min aN bN:=by have:=HN.out; omega
   by_cases hl1:aN<bN
   ·have hl1i:(aN:Int)<(bN:Int):=om;have HR2:Hid (betB l l' eb p p'=true):=hdq (by rw [HR.out,if_pos hl1]);clear HR;go_wp2;go_ret;exact ⟨by rw [HR2.out]; rfl,hbw⟩
   ·have hl1i:¬ (aN:Int)<(bN:Int):=om;have HRb:=HR.out;rw [if_neg hl1] at HRb;clear HR;by_cases hl2:bN<aN
    ·have hl2i:(bN:Int)<(aN:Int):=om;have HR2:Hid (betB l l' eb p p'=false):=hdq (by rw [HRb,if_pos (.inl hl2)]);clear HRb;go_wp2;go_ret;exact ⟨by rw [HR2.out]; rfl,hbw⟩
    ·have hl2i:¬ (bN:Int)<(aN:Int):=om
     cases eb with
     | true=>
      have HR2:Hid (betB l l' true p p'=false):=hdq (by rw [HRb,if_pos (.inr rfl)]);clear HRb;go_wp2;go_ret
      exact ⟨by rw [HR2.out]; rfl,hbw⟩
     | false=>
      have e3:p.length=cN:=E3.out;have e4:p'.length=dN:=E4.out;obtain ⟨z,Hz⟩:∃ z,Hid (z=vcmp (fun i=>p.getD i 0) (fun i=>p'.getD i 0) (max cN dN)):=⟨_,hdq rfl⟩;have HR2:Hid (betB l l' false p p'=decide (z<0)):=hdq (by rw [HRb,if_neg (by simp; omega),e3,e4,Hz.out]);clear HRb e3 e4;(go_wp2_with fail);refine (zKw (sa:=⟨cA,cN,cC⟩) (sb:=⟨dA,dN,dC⟩) (H3.out.below hbw) (H4.out.below hbw) HL.out HL.out (by show cN<=_; omega) (by show dN<=_; omega)).mono ?_;rintro e w3 ⟨rfl,hb3⟩;have hbl:=hbw.trans (hb3.mono hbw.size);dsimp only;rw [<-Hz.out];clear hb3 r0 r1 r2 t0 t2;by_cases hz:z<0
      ·have HR3:=HR2.out;rw [decide_eq_true hz] at HR3;have HR3:=hdq HR3;go_wp2;go_ret;exact ⟨by first | rfl | (rw [HR3.out]; rfl),hbl⟩
      ·have HR3:=HR2.out;rw [decide_eq_false hz] at HR3;have HR3:=hdq HR3;go_wp2;go_ret;exact ⟨by first | rfl | (rw [HR3.out]; rfl),hbl⟩
theorem OutIs.vecs {B:Lin.BP} {r:Option (Nat->Rat)} (h:OutIs w L B sv eb pt r):∃ l p,VecIs w (fun _=>True) (fun _=>True) L sv l/\VecIs w (fun _=>True) (fun _=>True) L pt p/\∀ x,r=some x->eb=false/\l=(List.range B.K).map (fun l=>B.dot (B.lev l) x)/\p=(List.range B.V).map x:=by
 cases r with
 | none=>
  obtain ⟨-,rfl,-,l,hl⟩:=h
  exact ⟨l,[],hl,⟨rfl,nlr _,dj,fun k hk=>by simp at hk⟩,fun x e=>by cases e⟩
 | some x=>
  obtain ⟨he,hl,hp,-⟩:=h;exact ⟨_,_,hl,hp,fun y e=>by cases e; exact ⟨he,rfl,rfl⟩⟩
theorem zM0 {B:Lin.BP} {y:Nat->Rat}:(betB ((List.range B.K).map fun l=>B.dot (B.lev l) x) ((List.range B.K).map fun l=>B.dot (B.lev l) y) false ((List.range B.V).map x) ((List.range B.V).map y)=false->B.Le x y)/\(betB ((List.range B.K).map fun l=>B.dot (B.lev l) x) ((List.range B.K).map fun l=>B.dot (B.lev l) y) false ((List.range B.V).map x) ((List.range B.V).map y)=true->B.Le y x):=by
 have gx:∀ (z:Nat->Rat) l,l<B.K->((List.range B.K).map fun l=>B.dot (B.lev l) z).getD l 0=B.dot (B.lev l) z:=fun z l hl=>zAS _ _ hl
 have hlen:min ((List.range B.K).map fun l=>B.dot (B.lev l) x).length ((List.range B.K).map fun l=>B.dot (B.lev l) y).length=B.K:=si
 rcases Lin.zFM B.K (fun l=>B.dot (B.lev l) x-B.dot (B.lev l) y) with ⟨i,hi,h1,h2⟩ | h | ⟨i,hi,h1,h2⟩
 ·have e:=zLI (eb:=false) (p:=(List.range B.V).map x) (p':=(List.range B.V).map y) (i:=i) (by rw [hlen]; exact hi) (fun j hj=>by rw [gx x j om,gx y j om]; have:=h2 j hj; grind) (by rw [gx x i hi,gx y i hi]; grind);rw [e,gx x i hi,gx y i hi];have:qcmp (B.dot (B.lev i) x) (B.dot (B.lev i) y)=-1:=by unfold qcmp; rw [if_pos (by grind)]
  rw [this];exact ⟨fun _=>Lin.BP.le_first hi (fun j hj=>by have:=h2 j hj; grind) (by grind),fun h=>by simp at h⟩
 ·have he:∀ j,j<B.K->B.dot (B.lev j) x=B.dot (B.lev j) y:=fun j hj=>by have:=h j hj; grind
  have e:=zMo (eb:=false) (p:=(List.range B.V).map x) (p':=(List.range B.V).map y) (l:=(List.range B.K).map fun l=>B.dot (B.lev l) x) (l':=(List.range B.K).map fun l=>B.dot (B.lev l) y) fun j hj=>by
   rw [hlen] at hj; rw [gx x j hj,gx y j hj,he j hj]
  have hv:vcmp (fun i=>((List.range B.V).map x).getD i 0) (fun i=>((List.range B.V).map y).getD i 0) (max ((List.range B.V).map x).length ((List.range B.V).map y).length)=vcmp x y B.V:=by
   rw [List.length_map,List.length_map,List.length_range,Nat.max_self];exact zLg (fun i hi=>zAS _ _ hi) fun i hi=>zAS _ _ hi
  rw [e,hv,if_neg si,if_neg si];have:=Lin.BP.le_point he;exact ⟨fun h=>this.1 (by simpa using h),fun h=>this.2 (by simpa using h)⟩
 ·have e:=zLI (eb:=false) (p:=(List.range B.V).map x) (p':=(List.range B.V).map y) (i:=i) (by rw [hlen]; exact hi) (fun j hj=>by rw [gx x j om,gx y j om]; have:=h2 j hj; grind) (by rw [gx x i hi,gx y i hi]; grind);rw [e,gx x i hi,gx y i hi];have:qcmp (B.dot (B.lev i) x) (B.dot (B.lev i) y)=1:=by unfold qcmp; rw [if_neg (by grind),if_neg (by grind)]
  rw [this];exact ⟨fun h=>by simp at h,fun _=>Lin.BP.le_first hi (fun j hj=>by have:=h2 j hj; grind) (by grind)⟩
theorem zLv {B:Lin.BP} {s r:Option (Nat->Rat)} {sv' pt':SV} {eb':Bool} (hs:OutIs w L B sv eb pt s) (hr:OutIs w L B sv' eb' pt' r) (hL:L<=LM) (n1:sv.n<=1000) (n2:sv'.n<=1000) (n3:pt.n<=1000) (n4:pt'.n<=1000) :
  Calls Tryz.prog 70 #[.agg #[sv.val,.bool eb,pt.val],.agg #[sv'.val,.bool eb',pt'.val]] w fun e w'=>BetRet B s r e/\Below w w w':=by
 obtain ⟨l,p,h1,h3,c1⟩:=hs.vecs;obtain ⟨l',p',h2,h4,c2⟩:=hr.vecs;refine (zLj (eb:=eb) (eb':=eb') h1 h2 h3 h4 hL n1 n2 n3 n4).mono ?_;rintro e w' ⟨rfl,hb⟩;refine ⟨⟨_,rfl,fun x y ex ey=>?_⟩,hb⟩;obtain ⟨rfl,rfl,rfl⟩:=c1 x ex;obtain ⟨-,rfl,rfl⟩:=c2 y ey;exact zM0
def CutRet (B:Lin.BP) (found:Bool) (s r:Option (Nat->Rat)) (e:Ending):Prop:=∃ b:Bool,e = .returned (.bool b)/\(b=true->found=true/\∀ x y,s=some x->r=some y->B.Le x y)/\(b=false->found=true->∀ x y,s=some x->r=some y->B.Le y x)
theorem zMs {fb bb:Nat} {B:Lin.BP} {s r:Option (Nat->Rat)} {sv' pt':SV} {eb' found:Bool} (hf:w.cell? fb=some (.bool found)) (b0:w.cell? bb=some sv'.val) (b1:w.cell? ⟨bb,1,none⟩=some (.bool eb')) (b2:w.cell? ⟨bb,2,none⟩=some pt'.val)
  (hs:OutIs w L B sv eb pt s) (hr:found=true->OutIs w L B sv' eb' pt' r) (hL:L<=LM) (n1:sv.n<=1000) (n2:sv'.n<=1000) (n3:pt.n<=1000) (n4:pt'.n<=1000) :
  Calls Tryz.prog 69 #[.agg #[sv.val,.bool eb,pt.val],.pointer (some fb),.pointer (some bb)] w fun e w'=>CutRet B found s r e/\Below w w w':=by
 obtain ⟨aA,aN,aC⟩:=sv;obtain ⟨bA,bN,bC⟩:=sv';obtain ⟨cA,cN,cC⟩:=pt;obtain ⟨dA,dN,dC⟩:=pt';have HL:=hdq hL;dsimp only [SV.val] at b0 b2 ⊢;dsimp only at n1 n2 n3 n4;have al:Below w w (w.alloc (.cells #[.slice aA aN aC,.bool eb,.slice cA cN cC] 111)):=bal;have lf:=zAb hf;have lb:=zAb b0;dsimp only at lf lb;clear hL
 cases found with
 | false=>
  clear hr hs;go_enter Tryz.func69,Tryz.ntmps69
  go_wp2;go_ret
  exact ⟨⟨false,rfl,fun h=>by simp at h,fun _ h=>by simp at h⟩,al⟩
 | true=>
  have key:∀ w',Below w w w'->∀ {sv pt:SV} {eb:Bool} {q:Option (Nat->Rat)},OutIs w L B sv eb pt q->OutIs w' L B sv eb pt q:=fun w' hb sv pt eb q h=>by
   cases q with
   | none=>exact ⟨h.1,h.2.1,h.2.2.1,by obtain ⟨l,hl⟩:=h.2.2.2; exact ⟨l,hl.below hb⟩⟩
   | some x=>exact ⟨h.1,h.2.1.below hb,h.2.2.1.below hb,h.2.2.2.belowC hb⟩
  have HS:=hdq (key _ al hs);have HR:=hdq (key _ al (hr rfl));clear hr hs key;go_enter Tryz.func69,Tryz.ntmps69
  go_wp2_with fail
  refine (zLv (sv:=⟨aA,aN,aC⟩) (sv':=⟨bA,bN,bC⟩) (pt:=⟨cA,cN,cC⟩) (pt':=⟨dA,dN,dC⟩) HS.out HR.out HL.out n1 n2 n3 n4).mono ?_;rintro e w1 ⟨⟨b,rfl,hle⟩,hb1⟩;have HLe:=hdq hle;have hbl:=al.trans (hb1.mono al.size);clear hle hb1
  cases b with
  | false=>
   go_wp2;go_ret
   exact ⟨⟨true,rfl,fun _=>⟨rfl,fun x y ex ey=>(HLe.out x y ex ey).1 si⟩,fun h=>by simp at h⟩,hbl⟩
  | true=>
   go_wp2;go_ret;exact ⟨⟨false,rfl,fun h=>by simp at h,fun _ _ x y ex ey=>(HLe.out x y ex ey).2 si⟩,hbl⟩
def BVaLoop (B:Lin.BP) (W1:World) (t:Value) (W:World):Prop:=∃ i:Nat,i<=B.nb/\t = .int .i64 (i:Int)/\W=W1
theorem zKZ {b:BinV} {B:Lin.BP} (hvl:∀ w',Below w w w'->Calls Tryz.prog 48 #[b.p.val] w' fun e w2=>e = .returned (.bool true)/\Below w' w' w2) (hV:b.p.n=V) (eV:B.V=V) (_:V<=64) (hnb:B.nb<=12) (ok:B.Ok) (hb:BinIs w B b.bin) :
  Calls Tryz.prog 68 #[b.val] w fun e w'=>e = .returned (.bool true)/\Below w w w':=by
 obtain ⟨⟨pn,⟨OA,On,Oc⟩,⟨RA,Rn,Rc⟩,⟨BA,Bn,Bc⟩⟩,⟨bA,bN,bC⟩⟩:=b;dsimp only at hV;subst hV;have en:bN=B.nb:=hb.len;subst en;have hbc:B.nb<=bC:=hb.le;have hbc2:bC<=9223372036854775807:=hb.cap;obtain ⟨W0,hW0⟩:∃ W0,W0=w.alloc (.cells #[.int .i64 V,.slice OA On Oc,.slice RA Rn Rc,.slice BA Bn Bc,.slice bA B.nb bC] 50):=⟨_,rfl⟩;have al:Below w w W0:=by rw [hW0]; exact bal
 have hq:W0.heap[w.heap.size]?=some (.cells #[.int .i64 V,.slice OA On Oc,.slice RA Rn Rc,.slice BA Bn Bc,.slice bA B.nb bC] 50 (0,0)):=by rw [hW0]; exact zAd _ _ rfl
 have p0:W0.cell? w=some (.int .i64 V):=by simp [World.cell?,hq]
 have p1:W0.cell? ⟨w.heap.size,1,none⟩=some (.slice OA On Oc):=by simp [World.cell?,hq]
 have p2:W0.cell? ⟨w.heap.size,2,none⟩=some (.slice RA Rn Rc):=by simp [World.cell?,hq]
 have p3:W0.cell? ⟨w.heap.size,3,none⟩=some (.slice BA Bn Bc):=by simp [World.cell?,hq]
 have p4:W0.cell? ⟨w.heap.size,4,none⟩=some (.slice bA B.nb bC):=by simp [World.cell?,hq]
 have HVL:=hdq (hvl W0 al);have HB:=hdq (hb.below al);have HOK:=hdq ok;have HeV:=hdq eV;clear hvl hb ok eV;show Calls _ _ #[.agg #[.int .i64 V,.slice OA On Oc,.slice RA Rn Rc,.slice BA Bn Bc,.slice bA B.nb bC]] _ _;go_enter Tryz.func68,Tryz.ntmps68
 go_upto_region 1 with fail
 rw [<-hW0];have hl0:=zAa hq;clear hW0 hq;go_wp2_with fail
 refine HVL.out.mono ?_;rintro e w1 ⟨rfl,hb1⟩;have q0:=(hb1.cell (p:=w) hl0).trans p0;have q4:=(hb1.cell (p:=⟨w.heap.size,4,none⟩) hl0).trans p4;have HB1:=hdq (HB.out.below hb1);have hbl:=al.trans (hb1.mono al.size);have hg:¬ ((12:Int)<(B.nb:Int)):=om
 clear p0 p1 p2 p3 p4 hb1;go_wp2;go_loopw [18] (fun t W=>BVaLoop B w1 t W) (fun t _=>B.nb-(intOf t).toNat)
 case atStart=>exact ⟨0,nzl _,rfl,rfl⟩
 case round=>
  obtain ⟨i,hi,rfl,rfl⟩:=hrel;by_cases hlt:i<B.nb
  ·have hki:(i:Int)<(B.nb:Int):=om;obtain ⟨adb,eb,cb⟩:=HB1.out.cell i hlt;dsimp only at eb;subst eb;have hbi:B.bin i<V:=by have:=HOK.out.lt i hlt; have:=HeV.out; omega
   have k1:¬ ((B.bin i:Int)<0):=om;have k2:¬ ((V:Int)<=(B.bin i:Int)):=om;have Hfin:Hid (BVaLoop B wr (.int .i64 ((i:Int)+1)) wr):=hdq ⟨i+1,om,si,rfl⟩;by_cases h0:i=0
   ·subst h0;have k3:¬ ((0:Int)<((0:Nat):Int)):=om;have ea0:adb.add 0=adb:=by unfold Addr.add; simp
    rw [ea0] at cb;clear ea0;go_wp2;go_roundw;case rel=>exact fn_ Hfin.out
    case measure=>simp [intOf]; omega
   ·have k3:(0:Int)<(i:Int):=om;obtain ⟨adc,ec,cc⟩:=HB1.out.cell (i-1) om;cases ec;have hin:=HOK.out.inc (i-1) i om hlt;have k4:¬ ((B.bin i:Int)<=(B.bin (i-1):Int)):=om;have k5:(0:Int)<=(i:Int)-1:=om;have k6':(i:Int)-1<(B.nb:Int):=om;have k7:((i:Int)-1).toNat=i-1:=om;go_wp2;go_roundw;case rel=>exact fn_ Hfin.out
    case measure=>simp [intOf]; omega
  ·(obtain rfl:i=B.nb:=om);go_wp2;go_ret;exact ⟨rfl,hbl⟩
theorem zNa {sz:Nat} (h:w.ownsRow B e sz (.slice A n c) n xs) (hk:k<=n) (hA:A ≠ none):w.ownsRow B e sz (.slice A k c) k (xs.take (k*sz)):=by
 obtain ⟨hl,h⟩:=h;refine ⟨by rw [List.length_take,hl]; exact Nat.min_eq_left (Nat.mul_le_mul_right _ hk),?_⟩;rcases h with ⟨e1,-⟩ | ⟨g,cap,cur,e1,hg,hb,h1,h2,h3,h4⟩
 ·cases e1; exact absurd rfl hA
 ·cases e1;refine .inr ⟨g,_,cur,rfl,hg,hb,om,h2,h3,?_⟩;rw [<-h4,List.take_take,Nat.min_eq_left (Nat.mul_le_mul_right _ hk)]
def CT (Pc:Value->Prop) (w:World) (v:Value):Prop:=∀ g,v.ownBlock=some g->∃ cs T fz,w.heap[g]?=some (.cells cs T fz)/\∀ c ∈ cs.toList,Pc c
theorem zLq {z:Array Value} {c:Value} (h:c ∈ (Builtin.zeroCells z n).toList):c ∈ z.toList:=by
 simp only [Builtin.zeroCells,Array.toList_map,List.mem_map,Array.mem_toList_iff,Array.mem_range] at h;obtain ⟨i,hi,rfl⟩:=h;have h0:0<z.size:=Nat.pos_of_ne_zero fun e=>by rw [e] at hi; omega
 have hm:i % z.size<z.size:=Nat.mod_lt _ h0;rw [getElem!_pos z _ hm];simp
theorem zMn {P:Program} {Pc:Value->Prop} {base:Nat} {ty:TypeId} {i:TypeInfo} {z:Value} {bytes:Nat} (ht:P.underlying t=some (.slice e)) (hi:P.info? e=some i) (hz:i.zero=some z)
  (hsize:i.size=size) (hby:i.bytes=bytes)
  (hown:w.ownsRow base e size v n xs)
  {a:Addr} {news:List Value} (hl:news.length=m*size) (hnews:∀ j u,news[j]?=some u->w.cell? (a.add j)=some u) (h1:∀ u ∈ news,u.oneCell'=true)
  (h63:n+m<=maxLen) (hbytes:(n+m)*bytes<=140737488355328) (hm:0<m) (hct:CT Pc w v) (hcz:∀ u ∈ z.cells.toList,Pc u) (hcn:∀ u ∈ news,Pc u) 
  (hr:(Builtin.append_ #[t,t] ty #[v,.slice (some a) m c]).run P w = .ok v' w'):CT Pc w' v':=by
 subst hsize;subst hby
 have hsmall:n+m<=9223372036854775807:=by simp only [maxLen] at h63; omega
 have fin:∀ (xs:List Value) (k:Nat),(∀ u ∈ xs,Pc u)->∀ (l cap:Nat),CT Pc (w.drew.alloc (.cells (xs.toArray++news.toArray++Builtin.zeroCells z.cells k) e)) (.slice (some w) l cap):=by
  intro xs k hx l cap g hg;cases hg;refine ⟨_,_,_,heap_alloc_new w.drew _,fun c hc=>?_⟩;simp only [Array.toList_append,List.mem_append] at hc;rcases hc with (hc | hc) | hc
  ·exact hx c hc
  ·exact hcn c hc
  ·exact hcz c (zLq hc)
 rcases hown.2 with ⟨rfl,rfl⟩ | ⟨g,cap,cur,rfl,hbg,hg,hnc,hcm,hcs,htake⟩
 ·have hr2:=run_append_nil (P:=P) w t ty e i z ht hi hz a m c news hl hnews hm om (by simp only [Nat.zero_add] at hbytes; omega);rw [hr] at hr2;cases hr2;have:=fin [] (grownCap w m 0 e-m) (fun u hu=>by simp at hu) m (grownCap w m 0 e);simpa using this
 ·obtain ⟨cs,T,fz,e1,hcs1⟩:=hct g rfl;rw [hg] at e1;cases e1;by_cases hroom:n+m<=cap
  ·have hfit:n*i.size+news.length<=cur.size:=by rw [hl,hcs,<-Nat.add_mul]; exact Nat.mul_le_mul_right _ hroom
   have hr2:=run_append_room (P:=P) w t ty e i ht hi g n cap cur hg a m c news hl hnews h1 hroom hfit;rw [hr] at hr2;cases hr2;intro g2 hg2;cases hg2;refine ⟨_,_,_,setRow_heap w g cur _ e _ hg,fun c hc=>?_⟩;simp only [List.mem_append] at hc;rcases hc with (hc | hc) | hc
   ·exact hcs1 c (List.mem_of_mem_take hc)
   ·exact hcn c hc
   ·exact hcs1 c (List.mem_of_mem_drop hc)
  ·have holds:∀ j u,xs[j]?=some u->w.cell? ((⟨g,0,none⟩:Addr).add j)=some u:=hown.cells (g:=g) rfl;have hr2:=run_append_grow (P:=P) w t ty e i z ht hi hz ⟨g,0,none⟩ n cap xs hown.1 holds a m c news hl hnews om om (growslice_fits om hbytes);rw [hr] at hr2;cases hr2;exact fin xs _ (fun u hu=>hcs1 u (by rw [<-htake] at hu; exact List.mem_of_mem_take hu)) _ _
theorem zKP {P:Program} {o:Oper} {a:Act} {Q:Exit->Act->World->Prop} {K:Act->World->Prop} (Pc:Value->Prop) (s x:Operand) (t:TypeId)
  (ho:o.op = .call {callee:=.builtin .append,args:=#[s,x],argTypes:=#[t,t]})
  (base:Nat) (e:TypeId) (i:TypeInfo) (z:Value) (size bytes:Nat) (ht:P.underlying t=some (.slice e)) (hi:P.info? e=some i) (hz:i.zero=some z)
  (hsize:i.size=size) (hby:i.bytes=bytes) (hzs:z.cells.size=size) (hsz:0<size)
  (v:Value) (n:Nat) (xs:List Value) (hs:a.eval s=v) (hown:w.ownsRow base e size v n xs)
  (ad:Addr) (m c:Nat) (news:List Value) (hx:a.eval x = .slice (some ad) m c) (hl:news.length=m*size) (hnews:∀ j u,news[j]?=some u->w.cell? (ad.add j)=some u) (h1:∀ u ∈ news,u.oneCell'=true)
  (h63:n+m<=maxLen) (hbytes:(n+m)*bytes<=140737488355328) (hbase:base<=w.heap.size) (hm:0<m) (hct:CT Pc w v) (hcz:∀ u ∈ z.cells.toList,Pc u) (hcn:∀ u ∈ news,Pc u)
  (h:∀ v' w',w'.ownsRow base e size v' (n+m) (xs++news)->w.grownBy w' v.ownBlock->CT Pc w' v'->(v'.ownBlock=v.ownBlock\/v'.ownBlock=some w.heap.size)->K (a.put o.dst v') w') :
  Oper.wp P o a w K Q:=by
 obtain ⟨v',w',hr,h2,h3,h4,h5⟩:=run_append_own_at (P:=P) w base t o.type e i z size bytes ht hi hz hsize hby hzs hsz v n xs hown ad m c news hl hnews h1 h63 hbytes hbase;have h6:=zMn (ty:=o.type) ht hi hz hsize hby hown hl hnews h1 h63 hbytes hm hct hcz hcn hr;unfold Oper.wp execOp;simp only [ho,resolve,invoke,builtin,Sem.run_bind,Sem.run_pure,Result.andThen_ok,List.map_toArray,List.map_cons,List.map_nil,hs,hx,hr];exact h v' w' h2 h3 h6 h5
def NoQ (w:World) (b:Nat):Prop:=∀ p:Addr,p.block=b->(∀ x,w.cell? p ≠ some (.int .u32 x))/\∀ v,¬ QCell w p v
def SI (v:Value):Prop:=(∃ A n c,v = .slice A n c)\/∃ x,v = .int .i64 x
section
variable {w w':World} {b:Nat} {F X Y:Nat->Prop} {L:Nat}
theorem zKM {p:Addr} {fz:Nat × Nat} (h:w.heap[p.block]?=some (.cells cs T fz)) (hc:w.cell? p=some v):cs[p.off]?=some v:=by
 unfold World.cell? at hc;rw [h] at hc;dsimp only at hc
 split at hc
 ·cases hc
 ·exact hc
theorem NoQ.ct (h:CT SI w v) (hb:v.ownBlock=some b):NoQ w b:=by
 obtain ⟨cs,T,fz,hh,hc⟩:=h b hb;intro p hp;subst hp
 have key:∀ v,w.cell? p=some v->SI v:=fun v hv=>hc v (by
  have:=zKM hh hv;rw [Array.mem_toList_iff];exact Array.mem_of_getElem? this)
 refine ⟨fun x hx=>?_,fun v hv=>?_⟩
 ·rcases key _ hx with ⟨A,n,c,e⟩ | ⟨y,e⟩ <;> cases e
 ·rcases key _ hv.1 with ⟨A,n,c,e⟩ | ⟨y,e⟩ <;> cases e
theorem NoQ.one {fz:Nat × Nat} {x:Bool} (h:w.heap[b]?=some (.cells #[.bool x] T fz)):NoQ w b:=by
 intro p hp;subst hp;refine ⟨fun x hx=>?_,fun v hv=>?_⟩
 ·have:=zKM h hx;rcases p with ⟨pb,_ | po,ps⟩ <;> simp at this
 ·have:=zKM (p:=⟨p.block,p.off+1,none⟩) h hv.2.1;simp at this
theorem NoQ.three {fz:Nat × Nat} {x:Bool} {A':Option Addr} {n' c':Nat} (h:w.heap[b]?=some (.cells #[.slice A n c,.bool x,.slice A' n' c'] T fz)):NoQ w b:=by
 intro p hp;subst hp;refine ⟨fun x hx=>?_,fun v hv=>?_⟩
 ·have:=zKM h hx;rcases p with ⟨pb,_ | _ | _ | po,ps⟩ <;> simp at this
 ·have:=zKM (p:=⟨p.block,p.off+3,none⟩) h hv.2.2.2;simp at this
theorem WordsAt.stays {l:List Nat} (h:WordsAt w X A n c l) (hF:∀ b,F b->NoQ w b) (hw:Fr F w w'):WordsAt w' X A n c l:=
 (show WordsAt w (fun b=>X b/\¬ F b) A n c l from ⟨h.len,h.le,h.cap,h.ok,fun k hk=>by
  obtain ⟨ad,e,hx,hc⟩:=h.cell k hk;exact ⟨ad,e,⟨hx,fun hf=>((hF _ hf) (ad.add k) (zAj _ _)).1 _ hc⟩,hc⟩⟩).keep (fun p hp hl=>hw.cell hl hp.2) |>.imp fun _ _ h=>h.1
theorem QIs.stays {v:QV} (h:QIs w X L v q) (hF:∀ b,F b->NoQ w b) (hw:Fr F w w'):QIs w' X L v q:=by
 obtain ⟨x,y,⟨l,h1,h2,h3⟩,⟨l',h1',h2',h3'⟩,e⟩:=h;exact ⟨x,y,⟨l,h1.stays hF hw,h2,h3⟩,⟨l',h1'.stays hF hw,h2',h3'⟩,e⟩
theorem QCan.stays {v:QV} (h:QCan w X v q) (hF:∀ b,F b->NoQ w b) (hw:Fr F w w'):QCan w' X v q:=
 ⟨⟨h.1.sign,h.1.words.stays hF hw⟩,⟨h.2.sign,h.2.words.stays hF hw⟩⟩
theorem VecAt.stays {R R':QV->Rat->Prop} (h:VecAt w X R s l) (hR:∀ v q,R v q->R' v q) (hF:∀ b,F b->NoQ w b) (hw:Fr F w w'):VecAt w' X R' s l:=
 ⟨h.len,h.le,h.cap,fun k hk=>by
  obtain ⟨ad,v,e,hx,hc,hr⟩:=h.elem k hk;have hn:¬ F (ad.add (k*4)).block:=fun hf=>((hF _ hf) (ad.add (k*4)) rfl).2 v hc
  exact ⟨ad,v,e,hx,hc.keep fun a ha hl=>hw.cell (by rw [ha]; exact hl) (by rw [ha]; exact hn),hR v _ hr⟩⟩
theorem OutIs.stays {B:Lin.BP} {r:Option (Nat->Rat)} (h:OutIs w L B sv eb pt r) (hF:∀ b,F b->NoQ w b) (hw:Fr F w w'):OutIs w' L B sv eb pt r:=by
 cases r with
 | none=>
  obtain ⟨h1,h2,h3,l,h4⟩:=h
  exact ⟨h1,h2,h3,l,h4.stays (fun _ _ h=>h.stays hF hw) hF hw⟩
 | some x=>exact ⟨h.1,h.2.1.stays (fun _ _ h=>h.stays hF hw) hF hw,h.2.2.1.stays (fun _ _ h=>h.stays hF hw) hF hw,h.2.2.2.stays (fun _ _ h=>h.stays hF hw) hF hw⟩
theorem OutIs.below {B:Lin.BP} {r:Option (Nat->Rat)} (h:OutIs w L B sv eb pt r) (hb:Below w w w'):OutIs w' L B sv eb pt r:=
 h.stays (F:=fun _=>False) (fun _ h=>h.elim) (Fr.of_below hb)
theorem OutIs.lens {B:Lin.BP} {r:Option (Nat->Rat)} (h:OutIs w L B sv eb pt r):sv.n<=B.K/\pt.n<=B.V:=by
 cases r with
 | none=>obtain ⟨-,rfl,h3,-⟩:=h; exact ⟨h3,nzl _⟩
 | some x=>
  have h1:=h.2.1.len;have h2:=h.2.2.1.len;simp at h1 h2;exact ⟨om,om⟩
end
theorem zKU {base:Nat} (h:W.ownsRow base e size v n xs):∃ A c,v = .slice A n c/\n<=c/\c<=9223372036854775807:=by
 rcases h.2 with ⟨rfl,rfl⟩ | ⟨g,cap,cur,rfl,hg,hh,hn,hc,_⟩
 ·exact ⟨none,0,rfl,nlr _,om⟩
 ·exact ⟨_,cap,rfl,hn,nlt hc dj⟩
theorem AvIs.keep {nb p:Nat} (h:AvIs w nb av ⟨some ⟨p,0,none⟩,nb,nb⟩) (hk:0<nb->w'.heap[p]?=w.heap[p]?):AvIs w' nb av ⟨some ⟨p,0,none⟩,nb,nb⟩:=
 ⟨h.len,h.le,h.cap,fun k hkn=>by
  obtain ⟨ad,e,hc⟩:=h.cell k hkn;cases e;exact ⟨_,rfl,(cob (by rw [zAj]; exact hk om)).trans hc⟩⟩
theorem AvIs.lt {nb p:Nat} (h:AvIs w nb av ⟨some ⟨p,0,none⟩,nb,nb⟩) (hn:0<nb):p<w.heap.size:=by
 obtain ⟨ad,e,hc⟩:=h.cell 0 hn;cases e;have:=zAb hc
 rwa [zAj] at this
def prC (B:Lin.BP) (p:(Nat->Int) × Nat):List Value:=[.slice (some p.2) B.nb B.nb,.int .i64 (B.left p.1:Int)]
theorem zK5 (B:Lin.BP) (ps:List ((Nat->Int) × Nat)):(ps.flatMap (prC B)).length=ps.length*2:=by
 induction ps with
 | nil=>rfl
 | cons p ps ih=>rw [List.flatMap_cons,List.length_append,ih]; simp [prC]; omega
structure SvM (w:World) (bb:Nat) (bc:Array Value) (clo:Value) (B:Lin.BP) (L:Nat) (vo:Value) (ps:List ((Nat->Int) × Nat)) (st:Option (Option (Nat->Rat))) (W:World):Prop where
 bel:Below w w W
 hb:w.heap.size<bb
 lt:bb+3<=W.heap.size
 box:W.heap[w.heap.size]?=some (.cells bc 50 (0,0))
 best:∃ (sv pt:SV) (eb:Bool),W.heap[bb]?=some (.cells #[sv.val,.bool eb,pt.val] 111 (0,0))/\sv.n<=1000/\pt.n<=1000/\∀ r,st=some r->OutIs W L B sv eb pt r
 found:W.heap[bb+1]?=some (.cells #[.bool st.isSome] 4 (0,0))
 test:W.heap[bb+2]?=some (.cells #[clo] 114 (0,0))
 own:W.ownsRow (bb+3) 118 2 vo ps.length (ps.flatMap (prC B))
 ct:CT SI W vo
 av:∀ p,p ∈ ps->AvIs W B.nb p.1 ⟨some ⟨p.2,0,none⟩,B.nb,B.nb⟩/\bb+3<=p.2/\(0<B.nb->vo.ownBlock ≠ some p.2)
section
variable {w W W':World} {bb:Nat} {bc:Array Value} {clo:Value} {B:Lin.BP} {L:Nat} {vo:Value} {ps:List ((Nat->Int) × Nat)} {st:Option (Option (Nat->Rat))}
theorem SvM.ownlt (h:SvM w bb bc clo B L vo ps st W) (hj:vo.ownBlock=some j):bb+3<=j/\j<W.heap.size:=by
 obtain ⟨h1,cs,hh⟩:=zAc h.own hj;exact ⟨h1,zAa hh⟩
theorem SvM.below (h:SvM w bb bc clo B L vo ps st W) (hb:Below W W W'):SvM w bb bc clo B L vo ps st W':=by
 have hl:=h.lt;have hh:=h.hb;refine ⟨h.bel.trans (hb.mono h.bel.size),hh,nlt hl hb.size,(hb.block _ om).trans h.box,?_,(hb.block _ om).trans h.found,(hb.block _ om).trans h.test,zAr h.own fun j hj=>hb.block j (h.ownlt hj).2,?_,fun p hp=>?_⟩
 ·obtain ⟨sv,pt,eb,h1,g1,g2,h2⟩:=h.best;exact ⟨sv,pt,eb,(hb.block _ om).trans h1,g1,g2,fun r hr=>(h2 r hr).below hb⟩
 ·intro g hg;obtain ⟨cs,T,fz,h1,h2⟩:=h.ct g hg;exact ⟨cs,T,fz,(hb.block _ (zAa h1)).trans h1,h2⟩
 ·obtain ⟨h1,h2,h3⟩:=h.av p hp;exact ⟨h1.below hb,h2,h3⟩
theorem SvM.pop {q:(Nat->Int) × Nat} (h:SvM w bb bc clo B L (.slice A n c) (ps++[q]) st W) :
  ∃ g,A=some ⟨g,0,none⟩/\W.cell? ⟨g,ps.length*2,none⟩=some (.slice (some q.2) B.nb B.nb)/\W.cell? ⟨g,ps.length*2+1,none⟩=some (.int .i64 (B.left q.1:Int))/\g<W.heap.size/\
   SvM w bb bc clo B L (.slice A ps.length c) ps st W/\AvIs W B.nb q.1 ⟨some ⟨q.2,0,none⟩,B.nb,B.nb⟩:=by
 have hn:n=ps.length+1:=by
  obtain ⟨A',c',e,-,-⟩:=zKU h.own;cases e; simp
 obtain ⟨g,hg⟩:∃ g,A=some ⟨g,0,none⟩:=by
  rcases h.own.2 with ⟨e,e2⟩ | ⟨g,cap,cur,e,-⟩
  ·cases e; simp at hn
  ·cases e; exact ⟨g,rfl⟩
 subst hg
 have hcell:∀ j u,((ps++[q]).flatMap (prC B))[j]?=some u->W.cell? ⟨g,j,none⟩=some u:=fun j u hu=>by
  have:=h.own.cells (g:=g) rfl j u hu;rw [zA4,Nat.zero_add] at this;exact this
 have hfl:(ps++[q]).flatMap (prC B)=ps.flatMap (prC B)++prC B q:=si
 refine ⟨g,rfl,hcell _ _ ?_,hcell _ _ ?_,(h.ownlt rfl).2,⟨h.bel,h.hb,h.lt,h.box,h.best,h.found,h.test,?_,h.ct,fun p hp=>h.av p (by simp [hp])⟩,(h.av q si).1⟩
 ·rw [hfl,List.getElem?_append_right (by rw [zK5]; exact nlr _),zK5]; simp [prC]
 ·rw [hfl,List.getElem?_append_right (by rw [zK5]; omega),zK5]; simp [prC]
 ·have hown:=h.own;rw [hfl,show (ps++[q]).length=ps.length+1 by simp] at hown;subst hn;have:=zNa hown (k:=ps.length) om si
  rwa [List.take_left' (by rw [zK5])] at this
theorem SvM.take {r:Option (Nat->Rat)} (h:SvM w bb bc clo B L vo ps st W) (hF:Fr (fun y=>y=bb\/y=bb+1) W W') (h1:W'.heap[bb]?=some (.cells #[sv.val,.bool eb,pt.val] 111 (0,0))) (h2:W'.heap[bb+1]?=some (.cells #[.bool true] 4 (0,0))) (ho:OutIs W L B sv eb pt r) (n1:sv.n<=1000) (n2:pt.n<=1000) :
  SvM w bb bc clo B L vo ps (some r) W':=by
 have hl:=h.lt;have hh:=h.hb;have no:∀ j,vo.ownBlock=some j->¬ (j=bb\/j=bb+1):=fun j hj e=>by have:=(h.ownlt hj).1; omega
 refine ⟨h.bel.trans (hF.below h.bel.size fun b e=>om),hh,nlt hl hF.size,(hF.block _ om om).trans h.box,⟨sv,pt,eb,h1,n1,n2,fun r' hr=>?_⟩,h2,(hF.block _ om om).trans h.test,zAr h.own fun j hj=>hF.block j (h.ownlt hj).2 (no j hj),?_,fun p hp=>?_⟩
 ·cases hr;refine ho.stays (F:=fun y=>y=bb\/y=bb+1) (fun b hb=>?_) hF;rcases hb with rfl | rfl
  ·obtain ⟨sv,pt,eb,h3,-⟩:=h.best;exact NoQ.three h3
  ·exact NoQ.one h.found
 ·intro g hg;obtain ⟨cs,T,fz,h3,h4⟩:=h.ct g hg;exact ⟨cs,T,fz,(hF.block _ (zAa h3) (no g hg)).trans h3,h4⟩
 ·obtain ⟨h3,h4,h5⟩:=h.av p hp;exact ⟨h3.keep fun h0=>hF.block _ (h3.lt h0) om,h4,h5⟩
theorem SvM.push {o:Obj} {q q':(Nat->Int) × Nat} (h:SvM w bb bc clo B L vo ps st W) (hown:W2.ownsRow (bb+3) 118 2 v' (ps.length+2) (ps.flatMap (prC B)++(prC B q++prC B q'))) (hg:(W.alloc o).grownBy W2 vo.ownBlock) (hct:CT SI W2 v') (hat:v'.ownBlock=vo.ownBlock\/v'.ownBlock=some (W.alloc o).heap.size)
  (hq:AvIs W B.nb q.1 ⟨some ⟨q.2,0,none⟩,B.nb,B.nb⟩/\bb+3<=q.2/\(0<B.nb->vo.ownBlock ≠ some q.2)) (hq':AvIs W B.nb q'.1 ⟨some ⟨q'.2,0,none⟩,B.nb,B.nb⟩/\bb+3<=q'.2/\(0<B.nb->vo.ownBlock ≠ some q'.2)) :
  SvM w bb bc clo B L v' (ps++[q]++[q']) st W2:=by
 have hl:=h.lt;have hh:=h.hb;have hF:Fr (fun y=>vo.ownBlock=some y) W W2:=⟨hg.os,hg.tape,hg.output,by have:=hg.size; simp at this; omega,fun b hb hn=>(hg.block b (by simp; omega) fun e=>hn e.symm).trans (Below.heap_alloc _ _ _ hb)⟩;have no:∀ j,j<bb+3->¬ vo.ownBlock=some j:=fun j hj e=>by have:=(h.ownlt e).1; omega
 refine ⟨h.bel.trans (hF.below h.bel.size fun b e=>by have:=(h.ownlt e).1; omega),hh,nlt hl hF.size,(hF.block _ om (no _ om)).trans h.box,?_,(hF.block _ om (no _ om)).trans h.found,(hF.block _ om (no _ om)).trans h.test,?_,hct,fun p hp=>?_⟩
 ·obtain ⟨sv,pt,eb,h1,g1,g2,h2⟩:=h.best;exact ⟨sv,pt,eb,(hF.block _ om (no _ om)).trans h1,g1,g2,fun r hr=>(h2 r hr).stays (fun b hb=>NoQ.ct h.ct hb) hF⟩
 ·have e1:(ps++[q]++[q']).length=ps.length+2:=si
  have e2:(ps++[q]++[q']).flatMap (prC B)=ps.flatMap (prC B)++(prC B q++prC B q'):=si
  rw [e1,e2];exact hown
 ·have key:∀ p:(Nat->Int) × Nat,AvIs W B.nb p.1 ⟨some ⟨p.2,0,none⟩,B.nb,B.nb⟩/\bb+3<=p.2/\(0<B.nb->vo.ownBlock ≠ some p.2)->AvIs W2 B.nb p.1 ⟨some ⟨p.2,0,none⟩,B.nb,B.nb⟩/\bb+3<=p.2/\(0<B.nb->v'.ownBlock ≠ some p.2):=fun p ⟨h1,h2,h3⟩=>by
   refine ⟨h1.keep fun h0=>hF.block _ (h1.lt h0) (h3 h0),h2,fun h0=>?_⟩;rcases hat with e | e
   ·rw [e]; exact h3 h0
   ·rw [e];intro e2;have e3:=Option.some.inj e2;have:=h1.lt h0;simp at e3;omega
  simp only [List.mem_append,List.mem_singleton] at hp;rcases hp with (hp | rfl) | rfl
  ·exact key p (h.av p hp)
  ·exact key _ hq
  ·exact key _ hq'
end
theorem Lin.BP.load_len (B:Lin.BP):∀ o:List (Nat->Int),o.length<=B.load o
 | []=>nlr _
 | a :: o=>by
  have:=Lin.BP.load_len B o;have h2:0<2 ^ (B.left a):=Nat.pow_pos dj;show o.length+1<=B.load o+(2 ^ (B.left a+1)-1);rw [Nat.pow_succ];omega
def SvL (w:World) (bb:Nat) (bc:Array Value) (clo:Value) (B:Lin.BP) (L:Nat) (t vo:Value) (W:World):Prop:=
 ∃ (s:Nat) (ps:List ((Nat->Int) × Nat)) (st:Option (Option (Nat->Rat))),t = .int .i64 (s:Int)/\SvM w bb bc clo B L vo ps st W/\(∀ p,p ∈ ps->B.Av p.1)/\B.Inv (ps.map (·.1)) st/\s+B.load (ps.map (·.1))<=2 ^ (B.nb+1)-1/\(ps=[]->1<=s)
def BSoRet (w:World) (L:Nat) (B:Lin.BP) (e:Ending) (w':World):Prop:=
 ∃ (v:SV) (s c:Nat),e = .returned (.tuple #[v.val,.int .i64 (s:Int),.int .i64 (c:Int)])/\Below w w w'/\
  ((c=0/\1<=s/\s<=2 ^ (B.nb+1)-1/\∃ x,B.S x/\¬ B.Ray/\(∀ y,B.S y->B.Le y x)/\VecIs w' (fun _=>True) (fun _=>True) L v ((List.range B.V).map x)/\VecCan w' (fun _=>True) (fun _=>True) v ((List.range B.V).map x))\/
   (c=8/\s=0/\v=⟨none,0,0⟩/\∀ x,¬ B.S x)\/(c=9/\s=0/\v=⟨none,0,0⟩/\B.Ray/\∃ x,B.S x))
structure SoK (B:Lin.BP) (L:Nat):Prop where
 k:∀ av,B.Av av->∃ kb kq kd kq2 kd2,OpK B av (B.prob av).n (B.prob av).m L kb kq kd/\BuK B av L kd2 kq2
theorem zNl (B:Lin.BP) (av:Nat->Int):(B.prob av).n<=B.V:=by
 show (Lin.filt _ _).length<=_;unfold Lin.filt;exact nlt (List.length_filter_le _ _) si
theorem zNk (B:Lin.BP) (av:Nat->Int):(B.prob av).m<=B.M+B.nb:=by
 show B.M+(Lin.filt _ _).length<=_;unfold Lin.filt;have:=List.length_filter_le (fun i=>decide (av i=-1)) (List.range B.nb);simp at this;simp;exact this
theorem zLC:(Tryz.prog.info? 118).map (fun i=>(i.zero,i.size,i.bytes))=some (some (.agg #[.slice none 0 0,.int .i64 0]),2,32):=kj
theorem zLy {b:BinV} {B:Lin.BP} (h:LPIs w X Y 8 b.p os rs bs) (hvl:∀ w',Below w w w'->Calls Tryz.prog 48 #[b.p.val] w' fun e w2=>e = .returned (.bool true)/\Below w' w' w2)
  (hV:b.p.n=V) (eV:B.V=V) (hV2:V<=64) (hnb:B.nb<=12) (ok:B.Ok) (ht:Tight B) (hb:BinIs w B b.bin)
  (hrM:b.p.R.n=B.M) (hbM:b.p.B.n=B.M) (hM:B.M<=800) (hrl:∀ i,(rs.getD i []).length<=V) (hrs:∀ i k,i<B.M->(rs.getD i []).getD k 0=B.A i k) (hbs:∀ i,i<B.M->bs.getD i 0=B.b i)
  (hOK:b.p.O.n=B.K) (hK:B.K<=900) (hos:∀ l k,l<B.K->(os.getD l []).getD k 0=B.O l k) (hol:∀ l,(os.getD l []).length<=V) (hk:SoK B L) :
  Calls Tryz.prog 23 #[b.val] w (BSoRet w L B):=by
 obtain ⟨⟨pn,⟨OA,On,Oc⟩,⟨RA,Rn,Rc⟩,⟨BA,Bn,Bc⟩⟩,⟨bA,bN,bC⟩⟩:=b;dsimp only at hV;subst hV;subst eV;have en:bN=B.nb:=hb.len;subst en;have hbc:B.nb<=bC:=hb.le;have hbc2:bC<=9223372036854775807:=hb.cap;obtain ⟨W0,hW0⟩:∃ W0,W0=w.alloc (.cells #[.int .i64 B.V,.slice OA On Oc,.slice RA Rn Rc,.slice BA Bn Bc,.slice bA B.nb bC] 50):=⟨_,rfl⟩;have al:Below w w W0:=by rw [hW0]; exact bal
 have hq:W0.heap[w.heap.size]?=some (.cells #[.int .i64 B.V,.slice OA On Oc,.slice RA Rn Rc,.slice BA Bn Bc,.slice bA B.nb bC] 50 (0,0)):=by rw [hW0]; exact zAd _ _ rfl
 have p0:W0.cell? w=some (.int .i64 B.V):=by simp [World.cell?,hq]
 have p1:W0.cell? ⟨w.heap.size,1,none⟩=some (.slice OA On Oc):=by simp [World.cell?,hq]
 have p2:W0.cell? ⟨w.heap.size,2,none⟩=some (.slice RA Rn Rc):=by simp [World.cell?,hq]
 have p3:W0.cell? ⟨w.heap.size,3,none⟩=some (.slice BA Bn Bc):=by simp [World.cell?,hq]
 have p4:W0.cell? ⟨w.heap.size,4,none⟩=some (.slice bA B.nb bC):=by simp [World.cell?,hq]
 have HVL:=hdq (zKZ (w:=W0) (b:=⟨⟨B.V,⟨OA,On,Oc⟩,⟨RA,Rn,Rc⟩,⟨BA,Bn,Bc⟩⟩,⟨bA,B.nb,bC⟩⟩) (fun w' hb'=>hvl w' (al.trans (hb'.mono al.size))) rfl rfl hV2 hnb ok (hb.below al));have HB:=hdq hb;have HLP:=hdq (LPIs.mk (h.obj.imp (X':=fun b=>b<w.heap.size) (R':=QIs w (fun b=>b<w.heap.size) 8) (fun b hl _=>hl) fun _ _ hq=>hq.imp fun b hl _=>hl) (h.rows.imp (X':=fun b=>b<w.heap.size) (R':=QIs w (fun b=>b<w.heap.size) 8) (fun b hl _=>hl) fun _ _ hq=>hq.imp fun b hl _=>hl) (h.bounds.imp (X':=fun b=>b<w.heap.size) (R':=QIs w (fun b=>b<w.heap.size) 8) (fun b hl _=>hl) fun _ _ hq=>hq.imp fun b hl _=>hl));have HOk:=hdq (And.intro ok ht);have HR:=hdq (And.intro hrM (And.intro hbM (And.intro hM (And.intro hrl (And.intro hrs hbs)))));have HO:=hdq (And.intro hOK (And.intro hK (And.intro hos hol)));have HK:=hdq hk;clear h hvl ok ht hb hrM hbM hrl hrs hbs hOK hos hol hk;show Calls _ _ #[.agg #[.int .i64 B.V,.slice OA On Oc,.slice RA Rn Rc,.slice BA Bn Bc,.slice bA B.nb bC]] _ _;go_enter Tryz.func23,Tryz.ntmps23
 go_upto_region 1 with fail
 rw [<-hW0];have hl0:=zAa hq;clear hW0;go_wp2_with fail
 refine HVL.out.mono ?_;rintro e w1 ⟨rfl,hb1⟩;have q1:=(hb1.block _ hl0).trans hq;have hbl:=al.trans (hb1.mono al.size);have hl1:=zAa q1;clear p0 p1 p2 p3 p4 hq hb1 HVL al hl0;go_upto_region 6 with fail
 obtain ⟨W2,hW2⟩:∃ W2,W2=((w1.alloc (.cells #[.slice none 0 0,.bool false,.slice none 0 0] 111)).alloc (.cells #[.bool false] 4)).alloc (.cells #[.func (.func 69) #[] #[.pointer (some ⟨w1+1,0,none⟩),.pointer (some w1)]] 114):=⟨_,rfl⟩;have k0:W2.heap[w.heap.size]?=some (.cells #[.int .i64 B.V,.slice OA On Oc,.slice RA Rn Rc,.slice BA Bn Bc,.slice bA B.nb bC] 50 (0,0)):=by rw [hW2]; exact (Below.heap_alloc _ _ _ (by simp; omega)).trans ((Below.heap_alloc _ _ _ (by simp; omega)).trans ((Below.heap_alloc _ _ _ hl1).trans q1))
 have kb:W2.heap[w1.heap.size]?=some (.cells #[.slice none 0 0,.bool false,.slice none 0 0] 111 (0,0)):=by rw [hW2]; exact (Below.heap_alloc _ _ _ (by simp; omega)).trans ((Below.heap_alloc _ _ _ si).trans (zAd _ _ rfl))
 have kf:W2.heap[w1.heap.size+1]?=some (.cells #[.bool false] 4 (0,0)):=by rw [hW2]; exact (Below.heap_alloc _ _ _ si).trans (zAd _ _ si)
 have kt:W2.heap[w1.heap.size+1+1]?=some (.cells #[.func (.func 69) #[] #[.pointer (some ⟨w1+1,0,none⟩),.pointer (some w1)]] 114 (0,0)):=by rw [hW2]; exact zAd _ _ si
 have hbl2:Below w w W2:=by rw [hW2]; exact ((hbl.alloc hbl.size _).alloc (by simp; omega) _).alloc (by simp; omega) _
 have hs2:W2.heap.size=w1.heap.size+1+1+1:=by rw [hW2]; simp
 rw [<-hW2];clear hW2 q1 hbl;generalize w1.heap.size=bb at *;have p4:W2.cell? ⟨w.heap.size,4,none⟩=some (.slice bA B.nb bC):=by simp [World.cell?,k0]
 go_wp2_with fail
 refine (zLQ om).mono ?_;rintro e w3 ⟨b0,hb0,rfl,hav,hb3⟩;clear p4;go_wp2;obtain ⟨bcs,hbcs⟩:∃ bcs:Array Value,Hid (bcs=#[.int .i64 B.V,.slice OA On Oc,.slice RA Rn Rc,.slice BA Bn Bc,.slice bA B.nb bC]):=⟨_,hdq rfl⟩;obtain ⟨clo,hclo⟩:∃ clo:Value,Hid (clo = .func (.func 69) #[] #[.pointer (some ⟨bb+1,0,none⟩),.pointer (some bb)]):=⟨_,hdq rfl⟩
 have H0:SvL w bb bcs clo B L (.int .i64 0) (.slice (some w3) 1 1) (w3.alloc (.cells #[.slice (some b0) B.nb B.nb,.int .i64 (B.nb:Int)] 118)):=by
  have hs3:=hb3.size;have al3:Below w3 w3 (w3.alloc (.cells #[.slice (some b0) B.nb B.nb,.int .i64 (B.nb:Int)] 118)):=bal;have key:∀ y,y<W2.heap.size->(w3.alloc (.cells #[.slice (some b0) B.nb B.nb,.int .i64 (B.nb:Int)] 118)).heap[y]?=W2.heap[y]?:=fun y hy=>(al3.block y om).trans (hb3.block y hy)
  have hlf:B.left (fun _=>-1)=B.nb:=Lin.BP.left_full fun _ _=>rfl
  refine ⟨0,[(fun _=>-1,b0)],none,rfl,⟨(hbl2.trans (hb3.mono hbl2.size)).trans (al3.mono (by have:=hbl2.size; omega)),hl1,by simp; omega,?_,⟨⟨none,0,0⟩,⟨none,0,0⟩,false,(key _ om).trans kb,nzl _,nzl _,fun r hr=>by cases hr⟩,(key _ om).trans kf,?_,⟨rfl,.inr ⟨w3.heap.size,1,_,rfl,om,zAd _ _ rfl,nlr _,dj,rfl,?_⟩⟩,?_,fun p hp=>?_⟩,fun p hp=>?_,Lin.BP.Inv.start,?_,fun h=>by cases h⟩
  ·rw [hbcs.out]; exact (key _ om).trans k0
  ·rw [hclo.out]; exact (key _ om).trans kt
  ·simp [prC,hlf]
  ·intro g hg;cases hg;refine ⟨_,_,_,zAd _ _ rfl,fun c hc=>?_⟩;simp at hc;rcases hc with rfl | rfl
   ·exact .inl ⟨_,_,_,rfl⟩
   ·exact .inr ⟨_,rfl⟩
  ·obtain rfl:=List.mem_singleton.1 hp;refine ⟨hav.below al3,by show bb+3<=b0; omega,fun h0 e=>?_⟩;have e2:=hav.lt h0;have e3:w3.heap.size=b0:=Option.some.inj e;omega
  ·obtain rfl:=List.mem_singleton.1 hp;exact fun i hi=>.inl rfl
  ·show 0+B.load [fun _=>-1]<=_;rw [Lin.BP.load_start fun _ _=>rfl,Nat.zero_add]; exact nlr _
 clear hav hb0 hb3 k0 kb kf kt hs2 hbl2;generalize w3.alloc (.cells #[.slice (some b0) B.nb B.nb,.int .i64 (B.nb:Int)] 118)=W3 at *;go_loopw [3,8] (fun t v W=>SvL w bb bcs clo B L t v W) (fun t _ _=>2 ^ (B.nb+1)-(intOf t).toNat)
 case atStart=>exact H0
 case round=>
  clear H0;obtain ⟨s,ps,st,rfl,hM,hAv,hInv,hload,hone⟩:=hrel;obtain ⟨oA,oC,rfl,ho1,ho2⟩:=zKU hM.own;rcases List.eq_nil_or_concat ps with rfl | ⟨ps,q,rfl⟩
  ·have HBe:=hdq hM.bel;have f0:wr.cell? ⟨bb+1,0,none⟩=some (.bool st.isSome):=(by simp [World.cell?,hM.found]);obtain ⟨⟨svA,svN,svC⟩,⟨ptA,ptN,ptC⟩,eb,kb,-,-,hout⟩:=hM.best;have b1:wr.cell? ⟨bb,1,none⟩=some (.bool eb):=(by simp [World.cell?,kb]);have b2:wr.cell? ⟨bb,2,none⟩=some (.slice ptA ptN ptC):=(by simp [World.cell?,kb]);have hs1:=hone rfl;have HInv:=hdq hInv;have HOut:=hdq hout;have HLd:Hid (s<=2 ^ (B.nb+1)-1):=hdq (nlt (Nat.le_add_right _ _) hload);clear hM hAv hInv hload hone kb hout;simp only [List.length_nil]
   cases st with
   | none=>
    simp only [Option.isSome_none] at f0;go_wp2;refine bodyPost_ret (v:=.tuple #[.slice none 0 0,.int .i64 ((0:Nat):Int),.int .i64 ((8:Nat):Int)]) (by simp [results,Tryz.results23,go_sem]) rfl ⟨⟨none,0,0⟩,0,8,rfl,HBe.out,.inr (.inl ⟨rfl,rfl,rfl,fun x hx=>?_⟩)⟩;obtain ⟨a,ha,-⟩:=HInv.out x hx
    simp at ha
   | some r=>
    simp only [Option.isSome_some] at f0
    cases r with
    | none=>
     obtain ⟨rfl,-⟩:=HOut.out _ rfl;go_wp2
     exact bodyPost_ret (v:=.tuple #[.slice none 0 0,.int .i64 ((0:Nat):Int),.int .i64 ((9:Nat):Int)]) (by simp [results,Tryz.results23,go_sem]) rfl ⟨⟨none,0,0⟩,0,9,rfl,HBe.out,.inr (.inr ⟨rfl,rfl,rfl,HInv.out⟩)⟩
    | some x=>
     obtain ⟨rfl,-,hx1,hx2⟩:=HOut.out _ rfl;have HX:=hdq (And.intro hx1 hx2);clear hx1 hx2;go_wp2;refine bodyPost_ret (v:=.tuple #[.slice ptA ptN ptC,.int .i64 (s:Int),.int .i64 ((0:Nat):Int)]) (by simp [results,Tryz.results23,go_sem]) rfl ⟨⟨ptA,ptN,ptC⟩,s,0,rfl,HBe.out,.inl ⟨rfl,hs1,HLd.out,x,HInv.out.1,HInv.out.2.1,fun y hy=>?_,HX.out.1,HX.out.2⟩⟩;rcases HInv.out.2.2 y hy with ⟨a,ha,-⟩ | h
     ·simp at ha
     ·exact h
  ·rw [show (ps.concat q)=ps++[q] from List.concat_eq_append] at *;simp only [List.map_append,List.map_cons,List.map_nil] at hInv hload;obtain ⟨g,rfl,c0,c1,hg,hM2,ha⟩:=hM.pop;have hqv:B.Av q.1:=hAv q si;have hAv2:Hid (∀ p,p ∈ ps->B.Av p.1):=hdq fun p hp=>hAv p (by simp [hp])
   have hk13:ps.length+1<=8191:=by
    have h1:=Lin.BP.load_len B (ps.map (·.1)++[q.1]);simp only [List.length_append,List.length_map,List.length_cons,List.length_nil] at h1;have h2:2 ^ (B.nb+1)<=2 ^ 13:=Nat.pow_le_pow_right dj om;omega
   have hs13:s<=8191:=by
    have h2:2 ^ (B.nb+1)<=2 ^ 13:=Nat.pow_le_pow_right dj om;omega
   rw [show (ps++[q]).length=ps.length+1 by simp] at ho1 ⊢;have HA:=hdq ha;have HM:=hdq hM2;have HInv:=hdq hInv;have HLd:=hdq hload;have HQ:=hdq hqv;have kw:=hM2.box;rw [hbcs.out] at kw;have p0:wr.cell? w=some (.int .i64 B.V):=(by simp [World.cell?,kw]);have p1:wr.cell? ⟨w.heap.size,1,none⟩=some (.slice OA On Oc):=(by simp [World.cell?,kw]);have p2:wr.cell? ⟨w.heap.size,2,none⟩=some (.slice RA Rn Rc):=(by simp [World.cell?,kw]);have p3:wr.cell? ⟨w.heap.size,3,none⟩=some (.slice BA Bn Bc):=(by simp [World.cell?,kw]);have p4:wr.cell? ⟨w.heap.size,4,none⟩=some (.slice bA B.nb bC):=(by simp [World.cell?,kw]);have hwl:=zAa kw;clear hM hM2 ha hAv hInv hload hone hqv kw;obtain ⟨k,hk⟩:∃ k,k=ps.length:=⟨_,rfl⟩;rw [<-hk] at ho1 hk13 c0 c1 HM ⊢;have Hk:=hdq hk;clear hk;have k1:(0:Int)<(k:Int)+1:=om;have k2:(k:Int)<(k:Int)+1:=om;have k3:(0:Int)<=(k:Int):=om;obtain ⟨kb,kq,kd,kq2,kd2,hOp,hBu⟩:=HK.out.k q.1 HQ.out;have HOp:=hdq hOp;have HBu:=hdq hBu;clear hOp hBu;(go_wp2_with fail);have hbp:Below wr wr (wr.alloc (.cells #[.slice (some q.2) B.nb B.nb,.int .i64 (B.left q.1:Int)] 118)):=bal;have hP:(wr.alloc (.cells #[.slice (some q.2) B.nb B.nb,.int .i64 (B.left q.1:Int)] 118)).heap[wr.heap.size]?=some (.cells #[.slice (some q.2) B.nb B.nb,.int .i64 (B.left q.1:Int)] 118 (0,0)):=zAd _ _ rfl;have HM1:=hdq (HM.out.below hbp);have HA1:=hdq (HA.out.below hbp);clear p0 p1 p2 p3 p4 c0 c1 HM HA hbp hwl;have hpb:=zAa hP;generalize wr.alloc (.cells #[.slice (some q.2) B.nb B.nb,.int .i64 (B.left q.1:Int)] 118)=Wp at *;generalize wr.heap.size=pb at *;refine (zLt (b:=⟨⟨B.V,⟨OA,On,Oc⟩,⟨RA,Rn,Rc⟩,⟨BA,Bn,Bc⟩⟩,⟨bA,B.nb,bC⟩⟩) (sa:=⟨some ⟨q.2,0,none⟩,B.nb,B.nb⟩) (HLP.out.below HM1.out.bel) rfl rfl hV2 om HOk.out.1 HQ.out (HB.out.below HM1.out.bel) HA1.out HR.out.1 HR.out.2.1 HR.out.2.2.1 HR.out.2.2.2.1 HR.out.2.2.2.2.1 HR.out.2.2.2.2.2 HBu.out).mono ?_;rintro e w4 ⟨⟨d4,bs4,row4,bas4,cols4,lvs4,rb4,rc4,gb4,gc4⟩,G4,rfl,hT4,hGn,hb4⟩;have HT4:=hdq hT4;have HG4:=hdq hGn;have HB4:=hdq hb4;clear hT4 hGn hb4;(go_wp2_with fail);refine (zK9 (kb:=kb) HT4.out rfl rfl (Lin.Prob.start_good _) (fun u v=>Lin.BP.vn_le.1) (nlt (zNl B _) om) (nlt (zNk B _) om) HOp.out.l1 (by have:=HOp.out.le; have:=HOp.out.l2; omega) (by have:=HOp.out.le; have:=HOp.out.l3; omega) HOp.out.fit).mono ?_;rintro e w5 ⟨D,G5,⟨d5,bs5,row5,bas5,cols5,lvs5,rb5,rc5,gb5,gc5⟩,b5,rfl,hx5,hM5,hL5,hF5,hT5,hD5,hb1,hb0⟩;dsimp only at hx5;subst hx5;have h45:Below Wp w4 w5:=hF5.below HB4.out.size fun y hy=>HG4.out y (HT4.out.ow hy)
   have HB5:=hdq (HB4.out.trans h45);have HM5':=hdq (HM1.out.below HB5.out);have hP5:=(HB5.out.block pb hpb).trans hP;have hP0:=hdq hP
   cases b5 with
   | false=>
    have Hfin:Hid (SvL w bb bcs clo B L (.int .i64 ((s:Int)+1)) (.slice (some g) k oC) w5):=hdq ⟨s+1,ps,st,si,HM5'.out,hAv2.out,HInv.out.drop fun x hx=>hb0 rfl _ (Lin.BP.feas_rest HOk.out.1 hx),by have:=HLd.out; have:=B.load_pop (o:=ps.map (·.1)) (a:=q.1); omega,fun _=>om⟩;have Hms:Hid (s<2 ^ (B.nb+1)):=hdq (by have:=HLd.out; have:0<2 ^ (B.nb+1):=Nat.pow_pos dj; omega);clear hT5 hD5 hb1 hb0 hM5 hL5 hF5 h45 hP hP5 HT4 HG4 HB4 HB5 HM1 HA1 HM5' HOp HBu HInv HLd;go_wp2;go_roundw;case rel=>exact fn_ Hfin.out
    case measure=>have:=Hms.out; simp [intOf]; omega
   | true=>
    have hGl:∀ y,G5 y->Wp.heap.size<=y:=(fun y hy=>(hM5.new y hy).elim (HG4.out y) fun e=>nlt HB4.out.size e);have hO5:∀ y,Ow ⟨d5,bs5,row5,bas5,cols5,lvs5,rb5,rc5,gb5,gc5⟩ (B.prob q.1).m false y->Wp.heap.size<=y:=(fun y hy=>(hL5 y hy).elim (fun h=>HG4.out y (HT4.out.ow h)) fun e=>nlt HB4.out.size e);have hwp:=HM1.out.bel.size;have HT5:=hdq hT5;have HD5:=hdq (And.intro hD5 (hb1 rfl));have HGl:=hdq hGl;have HO5:=hdq hO5;have kw:=HM5'.out.box;rw [hbcs.out] at kw;have p0:w5.cell? w=some (.int .i64 B.V):=(by simp [World.cell?,kw]);have p1:w5.cell? ⟨w.heap.size,1,none⟩=some (.slice OA On Oc):=(by simp [World.cell?,kw]);have p2:w5.cell? ⟨w.heap.size,2,none⟩=some (.slice RA Rn Rc):=(by simp [World.cell?,kw]);have p3:w5.cell? ⟨w.heap.size,3,none⟩=some (.slice BA Bn Bc):=(by simp [World.cell?,kw]);clear hT5 hD5 hb1 hb0 hM5 hL5 hF5 h45 hP hGl hO5 kw;(go_wp2_with fail);refine (zK8 (X:=fun b=>b<w.heap.size) (Y:=fun b=>b<w.heap.size) (Lo:=8) (p:=⟨B.V,⟨OA,On,Oc⟩,⟨RA,Rn,Rc⟩,⟨BA,Bn,Bc⟩⟩) (kb:=kb) (kq:=kq) (kd:=kd) HT5.out rfl rfl rfl HOk.out.1 HQ.out HD5.out.1 HD5.out.2 HOk.out.2 (fun y h1 h2=>by have:=HGl.out y h2; omega) (fun y h1 h2=>by have:=HGl.out y h2; omega) (HLP.out.below HM5'.out.bel).obj HO.out.1 HO.out.2.2.1 HO.out.2.2.2 si (fun k hk=>zAS _ _ hk) om (nlt (zNl B _) om) (nlt (zNk B _) om) (by have:=HO.out.2.1; omega) (by rw [zAZ]; omega) HOp.out).mono ?_;rintro e w6 ⟨⟨svA,svN,svC⟩,⟨ptA,ptN,ptC⟩,eb,r,rfl,hOI,hOut,hF6⟩;have HB6:=hdq (HB5.out.trans (hF6.below HB5.out.size fun y hy=>HO5.out y hy));have HM6:=hdq (HM1.out.below HB6.out);have HA6:=hdq (HA1.out.below HB6.out);have hP6:=(HB6.out.block pb hpb).trans hP0.out;have kt:w6.heap[bb+1+1]?=some (.cells #[clo] 114 (0,0)):=HM6.out.test;rw [hclo.out] at kt;have t0:w6.cell? ⟨bb+1+1,0,none⟩=some (.func (.func 69) #[] #[.pointer (some ⟨bb+1,0,none⟩),.pointer (some bb)]):=(by simp [World.cell?,kt]);have htl:=zAa kt;have HOI:=hdq hOI;have HOut:=hdq hOut;clear hOI hOut hF6 kt p0 p1 p2 p3 hP5 HO5 HGl HT5 HD5 HB5 HM5' HT4 HG4 HB4 HBu HOp;(go_wp2_with fail);have h67:Below w6 w6 (w6.alloc (.cells #[.slice svA svN svC,.bool eb,.slice ptA ptN ptC] 111)):=bal;have HM7:=hdq (HM6.out.below h67);have HA7:=hdq (HA6.out.below h67);have HO7:=hdq (HOI.out.below h67);have hpl6:=zAa hP6;have hP7:=(h67.block pb hpl6).trans hP6;have kS:(w6.alloc (.cells #[.slice svA svN svC,.bool eb,.slice ptA ptN ptC] 111)).heap[w6.heap.size]?=some (.cells #[.slice svA svN svC,.bool eb,.slice ptA ptN ptC] 111 (0,0)):=zAd _ _ rfl;have hsz6:=HB6.out.size;have hps:pb ≠ w6.heap.size:=om;have hsb:bb+3<=w6.heap.size:=HM6.out.lt;clear h67 HM6 HA6 HOI hP6 t0 htl;generalize w6.alloc (.cells #[.slice svA svN svC,.bool eb,.slice ptA ptN ptC] 111)=W7 at *;generalize w6.heap.size=sb at *;obtain ⟨⟨bvA,bvN,bvC⟩,⟨bpA,bpN,bpC⟩,beb,kbb,hn1,hn2,hbo⟩:=HM7.out.best;obtain ⟨hn3,hn4⟩:=HO7.out.lens;have hK9:=HO.out.2.1
    have hLM:L<=LM:=by
     obtain ⟨kb,kq,kd,kq2,kd2,hOp,hBu⟩:=HK.out.k q.1 HQ.out;exact hOp.l1
    dsimp only at hn1 hn2 hn3 hn4;have f0:W7.cell? ⟨bb+1,0,none⟩=some (.bool st.isSome):=(by simp [World.cell?,HM7.out.found]);refine (zMs (fb:=bb+1) (bb:=bb) (B:=B) (L:=L) (s:=r) (r:=st.getD none) (sv:=⟨svA,svN,svC⟩) (sv':=⟨bvA,bvN,bvC⟩) (pt:=⟨ptA,ptN,ptC⟩) (pt':=⟨bpA,bpN,bpC⟩) (eb:=eb) (eb':=beb) (found:=st.isSome) f0 (by simp [World.cell?,kbb]) (by simp [World.cell?,kbb]) (by simp [World.cell?,kbb]) HO7.out (fun h=>hbo _ (by cases st with | none=>simp at h | some r=>rfl)) hLM (by show svN<=_; omega) hn1 (by show ptN<=_; omega) hn2).mono ?_;rintro e w8 ⟨⟨cb,rfl,hct,hcf⟩,hb8⟩;have HM8:=hdq (HM7.out.below hb8);have HA8:=hdq (HA7.out.below hb8);have HO8:=hdq (HO7.out.below hb8);have hpl7:=zAa hP7;have hP8:=(hb8.block pb hpl7).trans hP7;have hsl7:=zAa kS;have kS8:=(hb8.block sb hsl7).trans kS;have HC:=hdq (And.intro hct hcf);have HLM:=hdq hLM;have Hms:Hid (s<2 ^ (B.nb+1)):=hdq (by have:=HLd.out; have:0<2 ^ (B.nb+1):=Nat.pow_pos dj; omega);have Hps:Hid (pb<w8.heap.size/\sb<w8.heap.size/\pb ≠ sb):=⟨zAa hP8,zAa kS8,hps⟩;clear HM7 HA7 HO7 hP7 kS hct hcf hb8 hpl7 hsl7 kbb hbo f0 hps hsz6 hpl6 hLM
    cases cb with
    | true=>
     have Hfin:Hid (SvL w bb bcs clo B L (.int .i64 ((s:Int)+1)) (.slice (some g) k oC) w8):=hdq ⟨s+1,ps,st,si,HM8.out,hAv2.out,by
      obtain ⟨h1,h2⟩:=HC.out.1 rfl
      cases st with
      | none=>simp at h1
      | some r'=>exact HInv.out.cut HOut.out fun x0 x1 e0 e1=>h2 x1 x0 e1 e0,by have:=HLd.out; have:=B.load_pop (o:=ps.map (·.1)) (a:=q.1); omega,fun _=>om⟩
     clear hP8 kS8 HM8 HA8 HO8 HC HInv HLd;go_wp2;go_roundw;case rel=>exact fn_ Hfin.out
     case measure=>have:=Hms.out; simp [intOf]; omega
    | false=>
     have kw:=HM8.out.box;rw [hbcs.out] at kw;have p4:w8.cell? ⟨w.heap.size,4,none⟩=some (.slice bA B.nb bC):=(by simp [World.cell?,kw]);have x0:w8.cell? pb=some (.slice (some q.2) B.nb B.nb):=(by simp [World.cell?,hP8]);have x1:w8.cell? ⟨pb,1,none⟩=some (.int .i64 (B.left q.1:Int)):=(by simp [World.cell?,hP8]);have y0:w8.cell? sb=some (.slice svA svN svC):=(by simp [World.cell?,kS8]);have y1:w8.cell? ⟨sb,1,none⟩=some (.bool eb):=(by simp [World.cell?,kS8]);have y2:w8.cell? ⟨sb,2,none⟩=some (.slice ptA ptN ptC):=(by simp [World.cell?,kS8]);clear kw;go_wp2_with fail
     refine (zLb (l:=B.left q.1) (L:=L) (av:=q.1) (B:=B) (s:=⟨some ⟨q.2,0,none⟩,B.nb,B.nb⟩) (sb:=⟨bA,B.nb,bC⟩) (sv:=⟨svA,svN,svC⟩) (pt:=⟨ptA,ptN,ptC⟩) (eb:=eb) (X:=fun _=>True) (Y:=fun _=>True) (ls:=(List.range B.V).map (r.getD fun _=>0)) HA8.out (HB.out.below HM8.out.bel) om (fun i hi=>by have:=HOk.out.1.lt i hi; omega) (fun he=>by
      have:=HO8.out
      cases r with
      | none=>obtain ⟨h,-⟩:=this; rw [he] at h; cases h
      | some x=>exact this.2.2.1) HLM.out).mono ?_
     rintro e w9 ⟨⟨pl,is,rfl,hi1,hi0⟩,hb9⟩;have HM9:=hdq (HM8.out.below hb9);have HA9:=hdq (HA8.out.below hb9);have HO9:=hdq (HO8.out.below hb9);have hP9:=(hb9.block pb Hps.out.1).trans hP8;have kS9:=(hb9.block sb Hps.out.2.1).trans kS8;have hs9:=hb9.size;clear HM8 HA8 HO8 hP8 kS8 hb9 p4 x0 x1 y0 y1 y2
     cases is with
     | false=>
      have hi0:=hi0 rfl;obtain ⟨⟨bvA,bvN,bvC⟩,⟨bpA,bpN,bpC⟩,beb,kb,-⟩:=HM9.out.best;have kf:=HM9.out.found;have b0:w9.cell? bb=some (.slice bvA bvN bvC):=(by simp [World.cell?,kb]);have b1:w9.cell? ⟨bb,1,none⟩=some (.bool beb):=(by simp [World.cell?,kb]);have b2:w9.cell? ⟨bb,2,none⟩=some (.slice bpA bpN bpC):=(by simp [World.cell?,kb]);have bf:∀ o,w9.frozen? ⟨bb,o,none⟩=false:=(fun o=>by simp [World.frozen?,kb]);have f0:w9.cell? ⟨bb+1,0,none⟩=some (.bool st.isSome):=(by simp [World.cell?,kf]);have ff:∀ o,w9.frozen? ⟨bb+1,o,none⟩=false:=(fun o=>by simp [World.frozen?,kf]);have y0:w9.cell? sb=some (.slice svA svN svC):=(by simp [World.cell?,kS9]);have y1:w9.cell? ⟨sb,1,none⟩=some (.bool eb):=(by simp [World.cell?,kS9]);have y2:w9.cell? ⟨sb,2,none⟩=some (.slice ptA ptN ptC):=(by simp [World.cell?,kS9]);have m1:sb ≠ bb:=om;have m2:sb ≠ bb+1:=om
      have Hfin:Hid (SvL w bb bcs clo B L (.int .i64 ((s:Int)+1)) (.slice (some g) k oC) ((((w9.setCell bb (.slice svA svN svC)).setCell ⟨bb,1,none⟩ (.bool eb)).setCell ⟨bb,2,none⟩ (.slice ptA ptN ptC)).setCell ⟨bb+1,0,none⟩ (.bool true))):=hdq (by
       refine ⟨s+1,ps,some r,si,HM9.out.take (sv:=⟨svA,svN,svC⟩) (pt:=⟨ptA,ptN,ptC⟩) (eb:=eb) ?_ ?_ ?_ HO9.out (by show svN<=_; omega) (by show ptN<=_; omega),hAv2.out,?_,by have:=HLd.out; have:=B.load_pop (o:=ps.map (·.1)) (a:=q.1); omega,fun _=>om⟩
       ·exact ((((Fr.refl _ w9).set (p:=bb) (.inl rfl) _).set (p:=⟨bb,1,none⟩) (.inl rfl) _).set (p:=⟨bb,2,none⟩) (.inl rfl) _).set (p:=⟨bb+1,0,none⟩) (.inr rfl) _
       ·rw [bhs _ _ _ _ (by show bb ≠ bb+1; omega),zAe _ (zAe _ (zAe _ kb))]; simp
       ·rw [zAe _ ((bhs _ _ _ _ (by show bb+1 ≠ bb; omega)).trans ((bhs _ _ _ _ (by show bb+1 ≠ bb; omega)).trans ((bhs _ _ _ _ (by show bb+1 ≠ bb; omega)).trans kf)))]; simp
       ·refine HInv.out.take HOk.out.1 HQ.out HOut.out (fun hr=>?_) (fun x hr i hi hu=>?_) fun x0 x1 e0 e1=>?_
        ·subst hr;obtain ⟨rfl,-⟩:=HO9.out;rw [if_pos rfl] at hi0;rcases hi0 with h | h
         ·exact h
         ·unfold Lin.BP.left Lin.BP.und Lin.filt;rw [List.length_eq_zero_iff,List.filter_eq_nil_iff];intro a ha;simpa using h a (by simpa using ha)
        ·subst hr;obtain ⟨rfl,-⟩:=HO9.out;rw [if_neg dj] at hi0;have:=hi0 i hi hu;rw [zAS _ _ (HOk.out.1.lt i hi)] at this;exact this
        ·subst e0 e1;exact HC.out.2 si si x1 x0 rfl rfl)
      clear kb kf hP9 kS9 HM9 HA9 HO9 HC HInv HLd hi0 hi1;go_wp2;go_roundw;case rel=>exact fn_ Hfin.out
      case measure=>have:=Hms.out; simp [intOf]; omega
     | true=>
      obtain ⟨hp,hu⟩:=hi1 rfl;have hl1:=Lin.BP.left_turn (B:=B) (v:=1) hp hu dj;have hl0:=Lin.BP.left_turn (B:=B) (v:=0) hp hu dj
      have hle:B.left q.1<=64:=by
       have:B.left q.1<=B.nb:=by
        unfold Lin.BP.left Lin.BP.und Lin.filt;exact nlt (List.length_filter_le _ _) si
       omega
      have x0:w9.cell? pb=some (.slice (some q.2) B.nb B.nb):=(by simp [World.cell?,hP9]);have x1:w9.cell? ⟨pb,1,none⟩=some (.int .i64 (B.left q.1:Int)):=(by simp [World.cell?,hP9]);have hpl:=zAa hP9;have HPu:=hdq (And.intro hp hu);clear hi0 hi1 kS9 hP9 HO9 hu;(go_upto_region 18 with fail);refine zAp 8 (fun f w'=>(w'.cell? pb=some (.slice (some q.2) B.nb B.nb)/\w'.cell? ⟨pb,1,none⟩=some (.int .i64 (B.left q.1:Int)))/\(f=false->Below w9 w9 w')) kj ?_;have hS0:(w9.drew.cell? pb=some (.slice (some q.2) B.nb B.nb)/\w9.drew.cell? ⟨pb,1,none⟩=some (.int .i64 (B.left q.1:Int)))/\(false=false->Below w9 w9 w9.drew):=⟨⟨x0,x1⟩,fun _=>(brf _ _).drew⟩;refine tx4 0 1 2 4 hS0 ?_;refine tx1 5 hS0 ?_;refine tk1 3 ?_;intro K hK;go_simp;refine (zLh (nb:=B.nb) (l:=B.left q.1) (p:=pl) (av:=q.1) (v:=1) (s:=⟨some ⟨q.2,0,none⟩,B.nb,B.nb⟩) (HA9.out.below (brf _ _).drew) om hp om hle).mono ?_;rintro e w10 ⟨n1,hn1,rfl,hav1,hb10⟩;have h9:Below w9 w9 w10:=(brf _ _).drew.trans hb10;refine hK.out _ _ ⟨⟨(h9.cell (p:=pb) hpl).trans x0,(h9.cell (p:=⟨pb,1,none⟩) hpl).trans x1⟩,fun _=>h9⟩ ?_;clear hK K;refine tk1 6 ?_;intro K hK;go_simp;refine (zLh (nb:=B.nb) (l:=B.left q.1) (p:=pl) (av:=q.1) (v:=0) (s:=⟨some ⟨q.2,0,none⟩,B.nb,B.nb⟩) (HA9.out.below h9) om hp om hle).mono ?_;rintro e w11 ⟨n0,hn0,rfl,hav0,hb11⟩;have h10:Below w9 w9 w11:=h9.trans (hb11.mono h9.size);refine hK.out _ _ ⟨⟨(h10.cell (p:=pb) hpl).trans x0,(h10.cell (p:=⟨pb,1,none⟩) hpl).trans x1⟩,fun _=>h10⟩ ?_;clear hK K;refine tk1 7 ?_;intro K hK;go_simp;have HM11:=hdq (HM9.out.below h10);have e1:(B.left q.1-1:Nat)=B.left (Lin.turn q.1 pl 1):=om;have e0:B.left (Lin.turn q.1 pl 1)=B.left (Lin.turn q.1 pl 0):=om;rw [e1];have hnew:(w11.alloc (.cells #[.slice (some n1) B.nb B.nb,.int .i64 (B.left (Lin.turn q.1 pl 1):Int),.slice (some n0) B.nb B.nb,.int .i64 (B.left (Lin.turn q.1 pl 1):Int)] 118)).heap[w11.heap.size]?=some (.cells #[.slice (some n1) B.nb B.nb,.int .i64 (B.left (Lin.turn q.1 pl 1):Int),.slice (some n0) B.nb B.nb,.int .i64 (B.left (Lin.turn q.1 pl 1):Int)] 118 (0,0)):=zAd _ _ rfl;have hal:Below w9 w9 (w11.alloc (.cells #[.slice (some n1) B.nb B.nb,.int .i64 (B.left (Lin.turn q.1 pl 1):Int),.slice (some n0) B.nb B.nb,.int .i64 (B.left (Lin.turn q.1 pl 1):Int)] 118)):=h10.alloc h10.size _;have a0:=(hal.cell (p:=pb) hpl).trans x0;have a1:=(hal.cell (p:=⟨pb,1,none⟩) hpl).trans x1;have af:=hal.block pb hpl;refine hK.out _ _ ⟨⟨a0,a1⟩,fun _=>hal⟩ ?_;clear hK K;refine tk1 8 ?_;intro K hK;obtain ⟨i0,hiI,hz0,hz1,hz2⟩:=info_parts zLC;have hown:=HM11.out.own;rw [<-Hk.out] at hown;refine zKP SI _ _ 120 rfl (bb+3) 118 i0 (.agg #[.slice none 0 0,.int .i64 0]) 2 32 Tryz.underlying120 hiI hz0 hz1 hz2 rfl dj (.slice (some g) k oC) k (ps.flatMap (prC B)) rfl (hown.alloc _) ⟨w11,0,none⟩ 2 2 [.slice (some n1) B.nb B.nb,.int .i64 (B.left (Lin.turn q.1 pl 1):Int),.slice (some n0) B.nb B.nb,.int .i64 (B.left (Lin.turn q.1 pl 1):Int)] rfl rfl (fun j u hu=>by rw [zA4,Nat.zero_add]; simp only [World.cell?,hnew]; simpa using hu) (by intro u hu; simp at hu; rcases hu with rfl | rfl | rfl | rfl <;> rfl) (by simp [maxLen]; omega) om (by have:=HM11.out.lt; simp; omega) dj (HM11.out.below (bal)).ct (by intro u hu; simp [Value.cells] at hu; rcases hu with rfl | rfl; exact .inl ⟨_,_,_,rfl⟩; exact .inr ⟨_,rfl⟩) (by intro u hu; simp at hu; rcases hu with rfl | rfl | rfl | rfl; exact .inl ⟨_,_,_,rfl⟩; exact .inr ⟨_,rfl⟩; exact .inl ⟨_,_,_,rfl⟩; exact .inr ⟨_,rfl⟩) ?_;intro v' W5 hown5 hg5 hct5 hat5;have kP:W5.heap[pb]?=w9.heap[pb]?:=(hg5.block pb (ltl hpl hal.size) (by intro e; have e2:=Option.some.inj e; have e3:pb=g:=e2; omega)).trans af;have z0:=(cob (a:=pb) kP).trans x0;have z1:=(cob (a:=⟨pb,1,none⟩) kP).trans x1;have hgl:=HM9.out.ownlt (j:=g) rfl;have hs10:=h9.size
      have Hfin:Hid (SvL w bb bcs clo B L (.int .i64 ((s:Int)+1)) v' W5):=hdq (by
       refine ⟨s+1,ps++[(Lin.turn q.1 pl 1,n1)]++[(Lin.turn q.1 pl 0,n0)],st,si,HM11.out.push (o:=.cells #[.slice (some n1) B.nb B.nb,.int .i64 (B.left (Lin.turn q.1 pl 1):Int),.slice (some n0) B.nb B.nb,.int .i64 (B.left (Lin.turn q.1 pl 1):Int)] 118) ?_ hg5 hct5 hat5 ⟨hav1.below hb11,?_,fun _ e=>?_⟩ ⟨hav0,?_,fun _ e=>?_⟩,fun p hp=>?_,?_,?_,fun e=>by simp at e⟩
       ·rw [<-Hk.out];simp only [prC,<-e0];exact hown5
       ·have:w9.heap.size<=n1:=hn1;show bb+3<=n1; omega
       ·have e2:g=n1:=Option.some.inj e;have:w9.heap.size<=n1:=hn1;omega
       ·show bb+3<=n0; omega
       ·have e2:g=n0:=Option.some.inj e;omega
       ·simp only [List.mem_append,List.mem_singleton] at hp;rcases hp with (hp | rfl) | rfl
        ·exact hAv2.out p hp
        ·exact HQ.out.turn (.inr rfl)
        ·exact HQ.out.turn (.inl rfl)
       ·have:=HInv.out.split HPu.out.1 HPu.out.2;simpa using this
       ·have h1:=HLd.out;have h2:=B.load_split (o:=ps.map (·.1)) (a:=q.1) HPu.out.1 HPu.out.2;have e3:(ps++[(Lin.turn q.1 pl 1,n1)]++[(Lin.turn q.1 pl 0,n0)]).map (·.1)=ps.map (·.1)++[Lin.turn q.1 pl 1]++[Lin.turn q.1 pl 0]:=si;rw [e3];omega)
      clear hown5 hg5 hct5 hat5 kP hgl hnew hal a0 a1 af hav1 hav0 hb10 hb11 h9 h10 HM11 hown e1 e0;simp only [Act.put,zz];refine hK.out _ _ ⟨⟨z0,z1⟩,fun h=>absurd h dj⟩ ?_;clear hK K;refine tk1 9 ?_;intro K hK;go_simp;refine hK.out _ _ ⟨⟨z0,z1⟩,fun h=>absurd h dj⟩ ?_;clear hK K;refine zAf kj ?_ _;clear HM9 HA9 HInv HLd HC hS0 x0 x1 z0 z1;go_roundw;case rel=>exact fn_ Hfin.out
      case measure=>have:=Hms.out; simp [intOf]; omega
end Go.Proofs.YtbpngececjihlaaGreat
