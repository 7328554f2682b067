/- Texts Dict1 Vec3 Vec4 Dict2 Step of this claim. -/
import Derived.Test.YtbpngececjihlaaGreatB07
set_option maxHeartbeats 4000000
set_option maxRecDepth 40000
namespace Go.Proofs.YtbpngececjihlaaGreat
open Go.RowKit
variable {B o b' k n i b N g L M:Nat} {t:TypeId} {cs:Array Value} {q:Rat} {l:List Rat} {G X Y Z G':Nat->Prop} {w w' w1 W2 W W':World} {f:Nat->Rat} {s:SV} {v':Value}
structure RowAt (w:World) (G:Nat->Prop) (b:Nat) (l:List Rat):Prop where
 mem:G b
 blk:∃ cs,w.heap[b]?=some (.cells cs 30 (0,0))/\cs.size=4*l.length
 elem:∀ k,k<l.length->∃ v:QV,QCell w ⟨b,k*4,none⟩ v/\QCan w (fun x=>¬ G x) v (l.getD k 0)
structure RowP (w:World) (G:Nat->Prop) (b:Nat) (l:List Rat):Prop where
 mem:G b
 blk:∃ cs,w.heap[b]?=some (.cells cs 30 (0,0))/\4*l.length<=cs.size
 elem:∀ k,k<l.length->∃ v:QV,QCell w ⟨b,k*4,none⟩ v/\QCan w (fun x=>¬ G x) v (l.getD k 0)
def put4 (w:World) (b k:Nat) (v:QV):World:=
 (((w.setCell ⟨b,k*4,none⟩ (.bool v.num.ng)).setCell ⟨b,k*4+1,none⟩ (.slice v.num.A v.num.n v.num.c)).setCell ⟨b,k*4+2,none⟩ (.bool v.den.ng)).setCell ⟨b,k*4+3,none⟩ (.slice v.den.A v.den.n v.den.c)
section
variable {w w':World} {G G':Nat->Prop} {b:Nat} {l:List Rat}
theorem RowAt.lt (h:RowAt w G b l):b<w.heap.size:=by
 obtain ⟨cs,e,_⟩:=h.blk; exact zAa e
theorem RowAt.frozen (h:RowAt w G b l) (o:Nat):w.frozen? ⟨b,o,none⟩=false:=by
 obtain ⟨cs,e,_⟩:=h.blk; simp [World.frozen?,e]
theorem RowAt.keep (h:RowAt w G b l) (hb:w'.heap[b]?=w.heap[b]?) (hk:∀ p:Addr,¬ G p.block->p.block<w->w'.cell? p=w.cell? p):RowAt w' G b l:=
 ⟨h.mem,by rw [hb]; exact h.blk,fun k hkl=>by
  obtain ⟨v,h1,h2⟩:=h.elem k hkl;exact ⟨v,h1.keep (fun a ha _=>cob (by rw [ha]; exact hb)),h2.keep hk⟩⟩
theorem RowAt.below (h:RowAt w G b l) (hb:Below w w w'):RowAt w' G b l:=h.keep (hb.block b h.lt) fun _ _ hl=>hb.cell hl
theorem RowAt.grow (h:RowAt w G b l) (hG:∀ x,G x->G' x) (hn:∀ x,x<w.heap.size->G' x->G x):RowAt w G' b l:=
 ⟨hG b h.mem,h.blk,fun k hk=>by
  obtain ⟨v,h1,h2⟩:=h.elem k hk;exact ⟨v,h1,h2.imp fun x hx hg hg'=>hg (hn x hx hg')⟩⟩
theorem zBI (w:World) (b k:Nat) (v:QV):(put4 w b k v).heap.size=w.heap.size:=by simp [put4,World.setCell]
theorem zAx (w:World) (b k:Nat) (v:QV) {x:Nat} (hx:x ≠ b):(put4 w b k v).heap[x]?=w.heap[x]?:=by
 unfold put4;rw [bhs _ _ _ _ hx,bhs _ _ _ _ hx,bhs _ _ _ _ hx,bhs _ _ _ _ hx]
theorem zCq (w:World) (b k:Nat) (v:QV) {p:Addr} (hp:p.block ≠ b):(put4 w b k v).cell? p=w.cell? p:=cob (zAx w b k v hp)
theorem zBq {a:World} (h:Below B a w) (hb:B<=b) (k:Nat) (v:QV):Below B a (put4 w b k v):=
 (((h.setCell (p:=⟨b,k*4,none⟩) hb _).setCell (p:=⟨b,k*4+1,none⟩) hb _).setCell (p:=⟨b,k*4+2,none⟩) hb _).setCell (p:=⟨b,k*4+3,none⟩) hb _
theorem zAe {w:World} {b:Nat} {f:Nat × Nat} (v:Value) (h:w.heap[b]?=some (.cells cs t f)):(w.setCell ⟨b,o,none⟩ v).heap[b]?=some (.cells (cs.setIfInBounds o v) t f):=by
 simp [World.setCell,Array.getElem?_modify,h]
theorem QCan.put4 {v z:QV} (h:QCan w (fun x=>¬ G x) v q) (hG:G b) (k:Nat):QCan (put4 w b k z) (fun x=>¬ G x) v q:=
 h.keep fun _p hp _=>zCq w b k z (fun e=>hp (e ▸ hG))
theorem RowAt.put4_other (h:RowAt w G b l) (hb':G b') (hne:b' ≠ b) (k:Nat) (v:QV):RowAt (put4 w b' k v) G b l:=
 h.keep (zAx w b' k v (Ne.symm hne)) fun _p hp _=>zCq w b' k v (fun e=>hp (e ▸ hb'))
theorem RowP.lt (h:RowP w G b l):b<w.heap.size:=by
 obtain ⟨cs,e,_⟩:=h.blk; exact zAa e
theorem RowP.frozen (h:RowP w G b l) (o:Nat):w.frozen? ⟨b,o,none⟩=false:=by
 obtain ⟨cs,e,_⟩:=h.blk; simp [World.frozen?,e]
theorem RowP.keep (h:RowP w G b l) (hb:w'.heap[b]?=w.heap[b]?) (hk:∀ p:Addr,¬ G p.block->p.block<w->w'.cell? p=w.cell? p):RowP w' G b l:=
 ⟨h.mem,by rw [hb]; exact h.blk,fun k hkl=>by
  obtain ⟨v,h1,h2⟩:=h.elem k hkl;exact ⟨v,h1.keep (fun a ha _=>cob (by rw [ha]; exact hb)),h2.keep hk⟩⟩
theorem RowP.below (h:RowP w G b l) (hb:Below w w w'):RowP w' G b l:=h.keep (hb.block b h.lt) fun _ _ hl=>hb.cell hl
theorem RowP.put4 (h:RowP w G b l) (hk:k<l.length) {v:QV} (hv:QCan w (fun x=>¬ G x) v q):RowP (put4 w b k v) G b (l.set k q):=by
 obtain ⟨cs,e,hsz⟩:=h.blk
 have e4:(Proofs.YtbpngececjihlaaGreat.put4 w b k v).heap[b]?=some (.cells ((((cs.setIfInBounds (k*4) v.num.ng).setIfInBounds (k*4+1) v.num).setIfInBounds (k*4+2) v.den.ng).setIfInBounds (k*4+3) v.den) 30 (0,0)):=
  zAe _ (zAe _ (zAe _ (zAe _ e)))
 refine ⟨h.mem,⟨_,e4,by simpa using hsz⟩,fun j hj=>?_⟩;rw [List.length_set] at hj
 have get:∀ o,(Proofs.YtbpngececjihlaaGreat.put4 w b k v).cell? ⟨b,o,none⟩=((((cs.setIfInBounds (k*4) v.num.ng).setIfInBounds (k*4+1) v.num).setIfInBounds (k*4+2) v.den.ng).setIfInBounds (k*4+3) v.den)[o]?:=by
  intro o; simp only [World.cell?,e4]; simp
 have get0:∀ o,w.cell? ⟨b,o,none⟩=cs[o]?:=by intro o; simp only [World.cell?,e]; simp
 by_cases hjk:j=k
 ·subst hjk;refine ⟨v,⟨?_,?_,?_,?_⟩,?_⟩
  ·rw [get]; simp [Array.getElem?_setIfInBounds]; omega
  ·rw [get]; simp [Array.getElem?_setIfInBounds]; omega
  ·rw [get]; simp [Array.getElem?_setIfInBounds]; omega
  ·rw [get]; simp [Array.getElem?_setIfInBounds]; omega
  ·have:(l.set j q).getD j 0=q:=(by simp [hk]);rw [this];exact hv.put4 h.mem j
 ·obtain ⟨u,⟨c0,c1,c2,c3⟩,hu⟩:=h.elem j hj;dsimp only at c0 c1 c2 c3
  have far:∀ o,o<4->(Proofs.YtbpngececjihlaaGreat.put4 w b k v).cell? ⟨b,j*4+o,none⟩=w.cell? ⟨b,j*4+o,none⟩:=by
   intro o ho;rw [get,get0];simp only [Array.getElem?_setIfInBounds];rw [if_neg om,if_neg om,if_neg om,if_neg om]
  refine ⟨u,⟨(far 0 om).trans c0,(far 1 om).trans c1,(far 2 om).trans c2,(far 3 om).trans c3⟩,?_⟩;have:(l.set k q).getD j 0=l.getD j 0:=by simp [Ne.symm hjk]
  rw [this];exact hu.put4 h.mem k
theorem RowAt.room (h:RowAt w G b l):RowP w G b l:=⟨h.mem,by obtain ⟨cs,e,hs⟩:=h.blk; exact ⟨cs,e,om⟩,h.elem⟩
theorem zQV {f:Nat × Nat} (e:w.heap[b]?=some (.cells cs t f)) (k:Nat) (v:QV):∃ cs',(put4 w b k v).heap[b]?=some (.cells cs' t f)/\cs'.size=cs.size:=
 ⟨_,zAe _ (zAe _ (zAe _ (zAe _ e))),si⟩
theorem RowAt.put4 (h:RowAt w G b l) (hk:k<l.length) {v:QV} (hv:QCan w (fun x=>¬ G x) v q):RowAt (put4 w b k v) G b (l.set k q):=by
 obtain ⟨cs,e,hsz⟩:=h.blk;obtain ⟨cs',e',hs'⟩:=zQV e k v;exact ⟨h.mem,⟨cs',e',by rw [hs',hsz,List.length_set]⟩,(h.room.put4 hk hv).elem⟩
end
def zeroQ (n:Nat):Array Value:=madeCells #[Value.bool false,.slice none 0 0,.bool false,.slice none 0 0] (n*4)
theorem zCG (n:Nat):(zeroQ n).size=4*n:=by simp [zeroQ,madeCells]; omega
theorem zGh (n:Nat) (k:Nat) (hk:k<n):(zeroQ n)[k*4]?=some (.bool false)/\(zeroQ n)[k*4+1]?=some (.slice none 0 0)/\(zeroQ n)[k*4+2]?=some (.bool false)/\(zeroQ n)[k*4+3]?=some (.slice none 0 0):=by
 have f:∀ o,o<4->(zeroQ n)[k*4+o]?=#[Value.bool false,.slice none 0 0,.bool false,.slice none 0 0][o]?:=by
  intro o ho;have hl:k*4+o<(zeroQ n).size:=by rw [zCG]; omega
  rw [Array.getElem?_eq_getElem hl];simp only [zeroQ,madeCells,Array.getElem_map,Array.getElem_range];have e:(k*4+o) % 4=o:=om
  show some (#[Value.bool false,.slice none 0 0,.bool false,.slice none 0 0][(k*4+o) % 4]!)=_;rw [e]
  match o,ho with
  | 0,_=>rfl
  | 1,_=>rfl
  | 2,_=>rfl
  | 3,_=>rfl
 exact ⟨f 0 om,f 1 om,f 2 om,f 3 om⟩
theorem RowAt.made (w:World) (n:Nat) (G:Nat->Prop) (hG:G w):RowAt (w.alloc (.cells (zeroQ n) 30)) G w (List.replicate n 0):=by
 have hh:=zAd w (.cells (zeroQ n) 30) rfl;refine ⟨hG,⟨_,hh,by simp [zCG]⟩,fun k hk=>⟨⟨⟨false,none,0,0⟩,⟨false,none,0,0⟩⟩,?_,?_⟩⟩
 ·rw [List.length_replicate] at hk;obtain ⟨h0,h1,h2,h3⟩:=zGh n k hk;have get:∀ o,(w.alloc (.cells (zeroQ n) 30)).cell? ⟨w.heap.size,o,none⟩=(zeroQ n)[o]?:=by intro o; simp only [World.cell?,hh]; simp
  exact ⟨(get _).trans h0,(get _).trans h1,(get _).trans h2,(get _).trans h3⟩
 ·have:(List.replicate n (0:Rat)).getD k 0=0:=by rw [List.length_replicate] at hk; simp [hk]
  rw [this]; exact QCan.zero _ _
theorem zEv:(Tryz.prog.info? 30).map (fun i=>(i.zero,i.size,i.bytes))=some (some (.agg #[false,(),false,()]),4,64):=kj
theorem zBZ (n:Nat) (hn:n<=1000000) (w:World) :
  (Instr.makeSlice 23 n n).run Tryz.prog w = .ok (.slice (some w) n n) (w.alloc (.cells (zeroQ n) 30)):=by
 obtain ⟨i0,hi,hz0,hz1,hz2⟩:=info_parts zEv;have hr:=run_make (P:=Tryz.prog) w 23 30 i0 (.agg #[false,(),false,()]) Tryz.underlying23 hi hz0 .i64 .i64 n n om om (by rw [hz2]; omega) om;rw [hz1] at hr;simpa [zeroQ,Value.cells] using hr
def fillTo (f:Nat->Rat) (n i:Nat):List Rat:=(List.range i).map f++List.replicate (n-i) 0
theorem zBj (f:Nat->Rat) (h:i<=n):(fillTo f n i).length=n:=by simp [fillTo]; omega
theorem zEe (f:Nat->Rat) (n:Nat):fillTo f n 0=List.replicate n 0:=by simp [fillTo]
theorem zGw (f:Nat->Rat) (h:i<n):(fillTo f n i).set i (f i)=fillTo f n (i+1):=by
 unfold fillTo;rw [List.set_append_right _ _ si,List.range_succ,List.map_append,List.append_assoc];congr 1;rw [show n-i=(n-(i+1))+1 by omega,List.replicate_succ];simp
theorem zGv (f:Nat->Rat) (n:Nat):fillTo f n n=(List.range n).map f:=by simp [fillTo]
theorem RowAt.vec (h:RowAt w G b l) (_hl:l.length<=9223372036854775807) (c:Nat) (hc:l.length<=c) (hc2:c<=9223372036854775807):VecCan w (fun x=>x=b) (fun x=>¬ G x) ⟨some ⟨b,0,none⟩,l.length,c⟩ l:=
 ⟨rfl,hc,hc2,fun k hk=>by
  obtain ⟨v,h1,h2⟩:=h.elem k hk;exact ⟨_,v,rfl,rfl,by rw [zA4,Nat.zero_add]; exact h1,h2⟩⟩
def VRet (w:World) (l:List Rat) (e:Ending) (w':World):Prop:=∃ s:SV,e = .returned s.val/\VecCan w' (New w) (New w) s l
theorem VRet.of (hn:l.length=n) (hl:n<=1000000) (hb:w.heap.size<=b) (h:RowAt w' (fun x=>x<w.heap.size\/x=b) b l):VRet w l (.returned (.slice (some b) n n)) w':=by
 subst hn;refine ⟨⟨some ⟨b,0,none⟩,l.length,l.length⟩,rfl,?_⟩
 exact (h.vec om l.length (nlr _) om).imp (fun x _ hx=>by subst hx; exact hb) fun v q hq=>hq.imp fun x _ hx=>by
  simp only [New];rcases Nat.lt_or_ge x w with h1 | h1
  ·exact absurd (.inl h1) hx
  ·exact h1
def FillLoop (w:World) (g:Nat) (f:Nat->Rat) (n N:Nat) (E:World->Prop) (v:Value) (wr:World):Prop:=
 ∃ i:Nat,i<=N/\v = .int .i64 i/\RowAt wr (fun x=>x<w.heap.size\/x=g) g (fillTo f n i)/\Below w w wr/\E wr
theorem FillLoop.step {E:World->Prop} {wr:World} {v:QV} (hi:i<N) (hN:N<=n) (hR:RowAt wr (fun x=>x<w.heap.size\/x=g) g (fillTo f n i)) (hB:Below w w wr) (hb:Below wr wr w1)
  (hBw:w.heap.size<=B) (hBg:g<B) (hg:w.heap.size<=g) (hv:QCan w1 (New B) v (f i)) (hE:E (put4 w1 g i v)):FillLoop w g f n N E (.int .i64 ((i:Int)+1)) (put4 w1 g i v):=by
 refine ⟨i+1,om,si,?_,zBq (hB.trans (hb.mono hB.size)) hg i v,hE⟩;rw [<-zGw f (show i<n by omega)];refine (hR.below hb).put4 (by rw [zBj f om]; omega) (hv.imp fun x _ hx hG=>?_);simp only [New] at hx;rcases hG with h | h <;> omega
def VRow (w:World) (l:List Rat) (e:Ending) (w':World):Prop:=∃ b,e = .returned (.slice (some ⟨b,0,none⟩) l.length l.length)/\w.heap.size<=b/\RowAt w' (fun x=>x<w.heap.size\/x=b) b l
theorem zKV {k:QV} (hk:QIs w Z M k q) (h:VecIs w X Y L s l) (hn:s.n<=1000000) (hL:L<=LM) (hM:M<=LM) :
  Calls Tryz.prog 110 #[k.val,s.val] w fun e w'=>VRow w (l.map (q*·)) e w'/\Below w w w':=by
 obtain ⟨A,n,c⟩:=s;dsimp only at hn;have hmk:=zBZ n hn;have HL:=hdq hL;have HM:=hdq hM;have HLen:Hid (l.length=n):=h.len;have hle:n<=c:=h.le;have hcap:c<=9223372036854775807:=h.cap;clear hL hM;show Calls _ _ #[k.val,.slice A n c] _ _;go_enter Tryz.func110,Tryz.ntmps110
 go_wp2
 have HF:Hid ((List.range n).map (fun i=>q*l.getD i 0)=l.map (q*·)):=by
  show _=_;rw [<-HLen.out];apply List.ext_getElem
  ·simp
  ·intro i h1 h2;simp;simp at h1;simp [h1]
 have hb0:Below w w ((w.alloc (.cells #[k.num.ng,k.num,k.den.ng,k.den] 30)).alloc (.cells (zeroQ n) 30)):=(bal).alloc si _
 have H0:FillLoop w (w+1) (fun i=>q*l.getD i 0) n n (fun W=>Box4 W w k.num.ng k.num k.den.ng k.den) (.int .i64 0) ((w.alloc (.cells #[k.num.ng,k.num,k.den.ng,k.den] 30)).alloc (.cells (zeroQ n) 30)):=
  ⟨0,nzl _,rfl,by
   rw [zEe];have:=RowAt.made (w.alloc (.cells #[k.num.ng,k.num,k.den.ng,k.den] 30)) n (fun x=>x<w.heap.size\/x=w.heap.size+1) (.inr si);simpa using this,hb0,bx4⟩
 clear hmk hb0;generalize (w.alloc (.cells #[k.num.ng,k.num,k.den.ng,k.den] 30)).alloc (.cells (zeroQ n) 30)=W0 at *;go_loopw [13] (fun t W=>FillLoop w (w+1) (fun i=>q*l.getD i 0) n n (fun W=>Box4 W w k.num.ng k.num k.den.ng k.den) t W) (fun t _=>n-(intOf t).toNat)
 case atStart=>exact H0
 case round=>
  clear H0;obtain ⟨i,hi,rfl,hR,hB,bK⟩:=hrel;have hRl:=hR.lt;by_cases hlt:i<n
  ·have hv:=h.below hB;obtain ⟨ad,v,e,hx,⟨c0,c1,c2,c3⟩,hq⟩:=hv.elem i hlt;dsimp only at e c1 c2 c3;subst e;have HQ:=hdq hq;clear hq hv hx;have t0:w.heap.size<wr.heap.size:=om;(go_wp2_with fail);have al:Below wr wr (wr.alloc (.cells #[v.num.ng,v.num,v.den.ng,v.den] 30)):=bal;refine (zBb (a:=k) (b:=v) ((hk.below hB).below al) (HQ.out.below al) HM.out HL.out).mono ?_; rintro e w1 ⟨⟨z,rfl,hz⟩,hb1⟩
   have h1:Below wr wr w1:=al.trans (hb1.mono al.size);have hR1:=hR.below h1;have hz1:=hz.lower (B':=wr) al.size;clear c0 c1 c2 c3 hz;obtain ⟨zv,⟨d0,d1,d2,d3⟩,-⟩:=hR1.elem i (by rw [zBj _ hi]; exact hlt);have fz:=hR1.frozen;dsimp only at d1 d2 d3;go_wp2;go_roundw
   case rel=>exact FillLoop.step (B:=wr) hlt (nlr _) hR hB h1 hB.size hRl om hz1 (by
    exact (((bK.below h1 om).far4 om _).far4 om _ |>.far4 om _).far4 om _)
   case measure=>simp [intOf]; omega
  ·(obtain rfl:i=n:=om);rw [zGv,HF.out] at hR;go_wp2;go_ret;refine ⟨⟨w.heap.size+1,by rw [List.length_map,HLen.out]; rfl,om,hR⟩,hB⟩
theorem zLH {k:QV} (hk:QIs w Z M k q) (h:VecIs w X Y L s l) (hn:s.n<=1000000) (hL:L<=LM) (hM:M<=LM) :
  Calls Tryz.prog 110 #[k.val,s.val] w fun e w'=>VRet w (l.map (q*·)) e w'/\Below w w w':=by
 refine (zKV hk h hn hL hM).mono ?_;rintro e w' ⟨⟨b,rfl,hb,hR⟩,hB⟩;exact ⟨VRet.of rfl (by rw [List.length_map,h.len]; exact hn) hb hR,hB⟩
def resize (l:List Rat) (n:Nat):List Rat:=(List.range n).map fun i=>l.getD i 0
theorem zHw (l:List Rat) (n:Nat):fillTo (fun i=>l.getD i 0) n (min l.length n)=resize l n:=by
 apply List.ext_getElem
 ·rw [zBj _ om]; simp [resize]
 ·intro i h1 h2;rw [zBj _ om] at h1;simp only [fillTo,resize];by_cases h:i<min l.length n
  ·rw [List.getElem_append_left (by simpa using h)]; simp
  ·rw [List.getElem_append_right (by simpa using h)];simp only [List.getElem_replicate,List.getElem_map,List.getElem_range];rw [zAw _ _ _ om]
theorem zMD (l:List Rat) (n:Nat):(resize l n).length=n:=by simp [resize]
def RsRet (w:World) (l:List Rat) (n:Nat) (e:Ending) (w':World):Prop:=(n=0/\e = .returned (.slice none 0 0))\/VRow w l e w'
theorem zQs (h:VecIs w X Y L s l) (z:Int) (n:Nat) (hn:n=(min z 65536).toNat) (hL:L<=LM) :
  Calls Tryz.prog 35 #[s.val,.int .i64 z] w fun e w'=>RsRet w (resize l n) n e w'/\Below w w w':=by
 obtain ⟨A,m,c⟩:=s;have HL:=hdq hL;have HLen:Hid (l.length=m):=h.len;have hle:m<=c:=h.le;have hcap:c<=9223372036854775807:=h.cap;clear hL;by_cases h0:z<1
 ·obtain rfl:n=0:=om
  show Calls _ _ #[.slice A m c,.int .i64 z] _ _;go_enter Tryz.func35,Tryz.ntmps35
  go_wp2;go_ret;exact ⟨.inl ⟨rfl,rfl⟩,brf _ _⟩
 ·have hmk:=zBZ n om;have e2:min z 65536=(n:Int):=om
  clear hn;obtain ⟨N,hN⟩:∃ N,N=min m n:=⟨_,rfl⟩;have e3:min (m:Int) (n:Int)=(N:Int):=om
  have hNn:N<=n:=om
  have hNm:N<=m:=om
  have HN:=hdq hN;clear hN;show Calls _ _ #[.slice A m c,.int .i64 z] _ _;go_enter Tryz.func35,Tryz.ntmps35
  go_wp2;have hb0:Below w w (w.alloc (.cells (zeroQ n) 30)):=bal
  have H0:FillLoop w w (fun i=>l.getD i 0) n N (fun _=>True) (.int .i64 0) (w.alloc (.cells (zeroQ n) 30)):=
   ⟨0,nzl _,rfl,by rw [zEe]; exact RowAt.made w n _ (.inr rfl),hb0,trivial⟩
  clear hmk hb0 h0 e2 e3;generalize w.alloc (.cells (zeroQ n) 30)=W0 at *;go_loopw [17] (fun t W=>FillLoop w w (fun i=>l.getD i 0) n N (fun _=>True) t W) (fun t _=>N-(intOf t).toNat)
  case atStart=>exact H0
  case round=>
   clear H0;obtain ⟨i,hi,rfl,hR,hB,-⟩:=hrel;have hRl:=hR.lt;by_cases hlt:i<N
   ·have hv:=h.below hB;obtain ⟨ad,v,e,hx,⟨c0,c1,c2,c3⟩,hq⟩:=hv.elem i (by show i<m; omega);dsimp only at e c1 c2 c3;subst e;have HQ:=hdq hq;clear hq hv hx;have hlm:i<m:=om;(go_wp2_with fail);refine (zAT (a:=v) HQ.out HL.out).mono ?_; rintro e w1 ⟨⟨z,rfl,hz⟩,h1⟩
    have hR1:=hR.below h1;clear c0 c1 c2 c3;obtain ⟨zv,⟨d0,d1,d2,d3⟩,-⟩:=hR1.elem i (by rw [zBj _ om]; omega);have fz:=hR1.frozen;dsimp only at d1 d2 d3;have hln:i<n:=om;go_wp2;go_roundw;case rel=>exact FillLoop.step (B:=wr) hlt hNn hR hB h1 hB.size hRl (nlr _) hz trivial
    case measure=>simp [intOf]; omega
   ·(obtain rfl:i=N:=om);have e5:fillTo (fun i=>l.getD i 0) n i=resize l n:=by rw [HN.out,<-HLen.out]; exact zHw l n
    rw [e5] at hR;clear e5;go_wp2;go_ret;exact ⟨.inr ⟨w.heap.size,by rw [zMD]; rfl,nlr _,hR⟩,hB⟩
theorem zLn (h:VecIs w X Y L s l) (n:Nat) (hn:n<=1000) (hL:L<=LM) :
  Calls Tryz.prog 35 #[s.val,.int .i64 (n:Int)] w fun e w'=>RsRet w (resize l n) n e w'/\Below w w w':=zQs h n n om hL
theorem zF0 (h:VecIs w X Y L s l) (n:Nat) (hn:n<=1000) (hL:L<=LM) :
  Calls Tryz.prog 35 #[s.val,.int .i64 (n:Int)] w fun e w'=>VRet w (resize l n) e w'/\Below w w w':=by
 refine (zLn h n hn hL).mono ?_;rintro e w' ⟨h1,hB⟩;rcases h1 with ⟨rfl,rfl⟩ | ⟨b,rfl,hb,hR⟩
 ·exact ⟨⟨⟨none,0,0⟩,rfl,⟨rfl,nlr _,nzl _,fun k hk=>absurd hk si⟩⟩,hB⟩
 ·exact ⟨VRet.of rfl (by rw [zMD]; omega) hb hR,hB⟩
structure IntsAt (w:World) (s:SV) (l:List Int):Prop where
 len:l.length=s.n
 le:s.n<=s.c
 cap:s.c<=9223372036854775807
 range:∀ x ∈ l,-9223372036854775808<=x/\x<=9223372036854775807
 cell:∀ k,k<s.n->∃ ad,s.A=some ad/\w.cell? (ad.add k)=some (.int .i64 (l.getD k 0))
theorem IntsAt.below {l:List Int} (h:IntsAt w s l) (hb:Below w w w'):IntsAt w' s l:=
 ⟨h.len,h.le,h.cap,h.range,fun k hk=>by
  obtain ⟨ad,e,hc⟩:=h.cell k hk;exact ⟨ad,e,(hb.cell (zAb hc)).trans hc⟩⟩
theorem zBP {l:List Int} (h:IntsAt w s l) (hn:s.n<=1000) :
  Calls Tryz.prog 47 #[s.val] w fun e w'=>VRet w (l.map (fun x:Int=>(x:Rat))) e w'/\Below w w w':=by
 obtain ⟨A,n,c⟩:=s;dsimp only at hn;have HLen:Hid (l.length=n):=h.len;have hle:n<=c:=h.le;have hcap:c<=9223372036854775807:=h.cap;have HRg:=hdq h.range;have hmk:=zBZ n om
 have HF:Hid ((List.range n).map (fun i=>((l.getD i 0:Int):Rat))=l.map (fun x:Int=>(x:Rat))):=by
  show _=_;rw [<-HLen.out];apply List.ext_getElem
  ·simp
  ·intro i h1 h2;simp at h1;simp [h1]
 show Calls _ _ #[.slice A n c] _ _;go_enter Tryz.func47,Tryz.ntmps47
 go_wp2;have hb0:Below w w (w.alloc (.cells (zeroQ n) 30)):=bal
 have H0:FillLoop w w (fun i=>((l.getD i 0:Int):Rat)) n n (fun _=>True) (.int .i64 0) (w.alloc (.cells (zeroQ n) 30)):=
  ⟨0,nzl _,rfl,by rw [zEe]; exact RowAt.made w n _ (.inr rfl),hb0,trivial⟩
 clear hmk hb0;generalize w.alloc (.cells (zeroQ n) 30)=W0 at *;go_loopw [11] (fun t W=>FillLoop w w (fun i=>((l.getD i 0:Int):Rat)) n n (fun _=>True) t W) (fun t _=>n-(intOf t).toNat)
 case atStart=>exact H0
 case round=>
  clear H0;obtain ⟨i,hi,rfl,hR,hB,-⟩:=hrel;have hRl:=hR.lt;by_cases hlt:i<n
  ·obtain ⟨ad,e,c0'⟩:=h.cell i hlt;dsimp only at e;subst e;have c0:wr.cell? (ad.add i)=some (.int .i64 (l.getD i 0)):=(hB.cell (zAb c0')).trans c0'
   have Hx:=hdq (HRg.out (l.getD i 0) (by
    rw [gdd,gge (show i<l.length by rw [HLen.out]; exact hlt)];exact List.getElem_mem _))
   clear c0';(go_wp2_with fail);refine (zAN _ Hx.out.1 Hx.out.2 _).mono ?_; rintro e w1 ⟨⟨z,rfl,hz⟩,h1⟩
   have hR1:=hR.below h1;clear c0;obtain ⟨zv,⟨d0,d1,d2,d3⟩,-⟩:=hR1.elem i (by rw [zBj _ hi]; exact hlt);have fz:=hR1.frozen;dsimp only at d1 d2 d3;go_wp2;go_roundw;case rel=>exact FillLoop.step (B:=wr) hlt (nlr _) hR hB h1 hB.size hRl (nlr _) hz trivial
   case measure=>simp [intOf]; omega
  ·(obtain rfl:i=n:=om);rw [zGv,HF.out] at hR;go_wp2;go_ret;exact ⟨VRet.of (by rw [List.length_map]; exact HLen.out) om (nlr _) hR,hB⟩
abbrev rowVal (n b:Nat):Value:=.slice (some b) n n
def fieldType (f:Nat):TypeId:=if f<=2 then 3 else 23
def four (a b c d:Value) (f:Nat):Value:=if f=1 then a else if f=2 then b else if f=3 then c else d
structure DS (w:World) (d:Nat) (nv:Int) (n1:Nat) (va vb vc vd:Value) (al:Nat->List Value) (rs:List Nat) (rl:List (List Rat)) (G:Nat->Prop) (W:World):Prop where
 bel:Below w w W
 blk:W.heap[d]?=some (.cells #[.int .i64 nv,va,vb,vc,vd,.int .i64 0,.int .i64 (-1),.int .i64 (-1)] 193 (0,0))
 own:∀ f,1<=f->f<=4->W.ownsRow (d+1) (fieldType f) 1 (four va vb vc vd f) (al f).length (al f)
 apart:∀ f g j,f ≠ g->1<=f->f<=4->1<=g->g<=4->(four va vb vc vd f).ownBlock=some j->(four va vb vc vd g).ownBlock ≠ some j
 rows:∀ i,i<rs.length->RowAt W G (rs.getD i 0) (rl.getD i [])/\(rl.getD i []).length=n1
 nod:rs.Nodup
 gin:∀ x,G x->d<=x/\x<W.heap.size
 gd:G d
 gf:∀ f j,1<=f->f<=4->(four va vb vc vd f).ownBlock=some j->G j
 ge:w.heap.size<d
section
variable {w W W':World} {d n1:Nat} {nv:Int} {va vb vc vd:Value} {al:Nat->List Value} {rs:List Nat} {rl:List (List Rat)} {G:Nat->Prop}
theorem DS.dlt (h:DS w d nv n1 va vb vc vd al rs rl G W):d<W.heap.size:=zAa h.blk
theorem DS.call (h:DS w d nv n1 va vb vc vd al rs rl G W) (hb:Below W W W'):DS w d nv n1 va vb vc vd al rs rl G W':=
 ⟨h.bel.trans (hb.mono h.bel.size),(hb.block d h.dlt).trans h.blk,
  fun f h1 h2=>zAr (h.own f h1 h2) fun j hj=>by
   obtain ⟨_,cs,hh⟩:=zAc (h.own f h1 h2) hj;exact hb.block j (zAa hh),
  h.apart,fun i hi=>⟨(h.rows i hi).1.below hb,(h.rows i hi).2⟩,h.nod,fun x hx=>⟨(h.gin x hx).1,ltl (h.gin x hx).2 hb.size⟩,h.gd,h.gf,h.ge⟩
theorem zBk (a b c d v:Value) (f g:Nat) (h1:1<=f) (h2:f<=4) (h3:1<=g) (h4:g<=4) :
  four (if f=1 then v else a) (if f=2 then v else b) (if f=3 then v else c) (if f=4 then v else d) g=if g=f then v else four a b c d g:=by
 unfold four;rcases (by omega:f=1\/f=2\/f=3\/f=4) with rfl | rfl | rfl | rfl <;> rcases (by omega:g=1\/g=2\/g=3\/g=4) with rfl | rfl | rfl | rfl <;> simp
theorem DS.append (h:DS w d nv n1 va vb vc vd al rs rl G W) {f:Nat} (h1:1<=f) (h2:f<=4) {x:Value} {o:Obj} 
  (hown:W2.ownsRow (d+1) (fieldType f) 1 v' ((al f).length+1) (al f++[x])) (hg:(W.alloc o).grownBy W2 (four va vb vc vd f).ownBlock)
  (hat:v'.ownBlock=(four va vb vc vd f).ownBlock\/v'.ownBlock=some (W.alloc o).heap.size) :
  DS w d nv n1 (if f=1 then v' else va) (if f=2 then v' else vb) (if f=3 then v' else vc) (if f=4 then v' else vd) (fun g=>if g=f then al f++[x] else al g) rs rl (fun y=>G y\/v'.ownBlock=some y) (W2.setCell ⟨d,f,none⟩ v'):=by
 have hsz:W.heap.size<W2.heap.size:=by have:=hg.size; simp at this; omega
 have hnd:∀ g j,1<=g->g<=4->(four va vb vc vd g).ownBlock=some j->j ≠ d:=fun g j g1 g2 hj e=>by
  have:=(zAc (h.own g g1 g2) hj).1; omega
 have keep:∀ k,k<W.heap.size->(four va vb vc vd f).ownBlock ≠ some k->W2.heap[k]?=W.heap[k]?:=fun k hk hne=>
  (hg.block k (by simp; omega) (fun e=>hne e.symm)).trans (Below.heap_alloc _ _ _ hk)
 have hblk2:W2.heap[d]?=_:=(keep d h.dlt (fun e=>hnd f d h1 h2 e rfl)).trans h.blk;have kset:∀ k,k ≠ d->(W2.setCell ⟨d,f,none⟩ v').heap[k]?=W2.heap[k]?:=fun k hk=>bhs _ _ _ _ hk
 have hvd:∀ j,v'.ownBlock=some j->j ≠ d/\j<W2.heap.size/\d<j:=fun j hj=>by
  obtain ⟨g1,cs,hh⟩:=zAc hown hj;exact ⟨om,zAa hh,om⟩
 have hrowne:∀ i,i<rs.length->rs.getD i 0 ≠ d/\(four va vb vc vd f).ownBlock ≠ some (rs.getD i 0):=fun i hi=>by
  obtain ⟨cs,e,_⟩:=(h.rows i hi).1.blk;constructor
  ·intro hd; rw [hd,h.blk] at e; cases e
  ·intro hj;obtain ⟨_,cs',hh⟩:=zAc (h.own f h1 h2) hj;rw [e] at hh;have:(fieldType f) ≠ 30:=by unfold fieldType; split <;> decide
   simp only [Option.some.injEq,Obj.cells.injEq] at hh;exact this hh.2.1.symm
 refine ⟨?_,?_,?_,?_,?_,h.nod,?_,.inl h.gd,?_,h.ge⟩
 ·have h3:Below w (W.alloc o) W2:=(brf _ _).grown hg (by have:=h.bel.size; simp; omega) (fun j hj=>by have:=(zAc (h.own f h1 h2) hj).1; have:=h.ge; omega);exact ((h.bel.alloc h.bel.size _).trans h3).setCell (p:=⟨d,f,none⟩) (by have:=h.ge; show w.heap.size<=d; omega) _
 ·rw [zAe _ hblk2];rcases (by omega:f=1\/f=2\/f=3\/f=4) with rfl | rfl | rfl | rfl <;> simp
 ·intro g g1 g2;rw [zBk va vb vc vd v' f g h1 h2 g1 g2];by_cases e:g=f
  ·subst e;simp only [if_true];rw [List.length_append];exact zAr hown fun j hj=>kset j (hvd j hj).1
  ·simp only [if_neg e];(refine zAr (h.own g g1 g2) fun j hj=>?_);obtain ⟨_,cs,hh⟩:=zAc (h.own g g1 g2) hj;exact (kset j (hnd g j g1 g2 hj)).trans (keep j (zAa hh) (h.apart g f j e g1 g2 h1 h2 hj))
 ·intro g k j hgk g1 g2 k1 k2;rw [zBk va vb vc vd v' f g h1 h2 g1 g2,zBk va vb vc vd v' f k h1 h2 k1 k2]
  have old:∀ g j,1<=g->g<=4->(four va vb vc vd g).ownBlock=some j->j<W.heap.size:=fun g j g1 g2 hj=>by
   obtain ⟨_,cs,hh⟩:=zAc (h.own g g1 g2) hj;exact zAa hh
  by_cases eg:g=f
  ·by_cases ek:k=f
   ·omega
   ·rw [if_pos eg,if_neg ek];intro hj hk;rcases hat with e | e
    ·rw [e] at hj; exact h.apart f k j om h1 h2 k1 k2 hj hk
    ·rw [e] at hj; cases hj
     have:=old k _ k1 k2 hk; simp at this; omega
  ·rw [if_neg eg];by_cases ek:k=f
   ·rw [if_pos ek];intro hj hk;rcases hat with e | e
    ·rw [e] at hk; exact h.apart g f j om g1 g2 h1 h2 hj hk
    ·rw [e] at hk; cases hk
     have:=old g _ g1 g2 hj; simp at this; omega
   ·rw [if_neg ek]; exact h.apart g k j hgk g1 g2 k1 k2
 ·intro i hi;obtain ⟨r1,r2⟩:=h.rows i hi;refine ⟨?_,r2⟩
  have r1':RowAt W (fun y=>G y\/v'.ownBlock=some y) (rs.getD i 0) (rl.getD i []):=r1.grow (fun x hx=>.inl hx) fun x hx hG=>by
   rcases hG with hG | hG
   ·exact hG
   ·rcases hat with e | e
    ·rw [e] at hG; exact h.gf f x h1 h2 hG
    ·rw [e] at hG; cases hG; simp at hx; omega
  refine r1'.keep ((kset _ (hrowne i hi).1).trans (keep _ r1.lt (hrowne i hi).2)) fun p hp hl=>?_
  refine cob ((kset p.block (fun e=>hp (.inl (by rw [e]; exact h.gd)))).trans (keep _ hl fun e=>hp (.inl (h.gf f _ h1 h2 e))))
 ·intro x hx;rcases hx with hx | hx
  ·have:=h.gin x hx; exact ⟨this.1,by simp [World.setCell]; omega⟩
  ·have:=hvd x hx; exact ⟨om,by simp [World.setCell]; omega⟩
 ·intro g j g1 g2;rw [zBk va vb vc vd v' f g h1 h2 g1 g2]
  split
  ·intro hj; exact .inr hj
  ·intro hj; exact .inl (h.gf g j g1 g2 hj)
theorem DS.app_blk (h:DS w d nv n1 va vb vc vd al rs rl G W) {f x:Nat} (h1:1<=f) (h2:f<=4) {o:Obj} (hg:(W.alloc o).grownBy W2 (four va vb vc vd f).ownBlock) (hx:x<=d):W2.heap[x]?=W.heap[x]?:=
 (hg.block x (by have:=h.dlt; simp; omega) (fun e=>by have:=(zAc (h.own f h1 h2) e.symm).1; omega)).trans (Below.heap_alloc _ _ _ (by have:=h.dlt; omega))
theorem Box4.heap {W W':World} {u0 u1 u2 u3:Value} (h:Box4 W b u0 u1 u2 u3) (hk:W'.heap[b]?=W.heap[b]?):Box4 W' b u0 u1 u2 u3:=
 ⟨(cob (a:=b) hk).trans h.1,(cob (a:=⟨b,1,none⟩) hk).trans h.2.1,(cob (a:=⟨b,2,none⟩) hk).trans h.2.2.1,(cob (a:=⟨b,3,none⟩) hk).trans h.2.2.2.1,fun o=>(World.frozen?_of_block (a:=⟨b,o,none⟩) hk).trans (h.2.2.2.2 o)⟩
theorem DS.grow (h:DS w d nv n1 va vb vc vd al rs rl G W) (hG:∀ x,G x->G' x) (hn:∀ x,G' x->G x\/(W.heap.size<=x/\x<W'.heap.size)) (hb:Below W W W'):DS w d nv n1 va vb vc vd al rs rl G' W':=by
 have hsz:=hb.size;have h':=h.call hb;refine ⟨h'.bel,h'.blk,h'.own,h'.apart,fun i hi=>⟨((h.rows i hi).1.grow hG fun x hx hg=>?_).below hb,(h.rows i hi).2⟩,h.nod,fun x hx=>?_,hG _ h.gd,fun f j a b c=>hG _ (h.gf f j a b c),h.ge⟩
 ·rcases hn x hg with h1 | h1
  ·exact h1
  ·omega
 ·rcases hn x hx with h1 | h1
  ·have:=h.gin x h1; exact ⟨this.1,om⟩
  ·have:=h.dlt; exact ⟨om,h1.2⟩
theorem DS.put4 (h:DS w d nv n1 va vb vc vd al rs rl G W) (hR:RowAt W G g l) (hg:g ∉ rs) (k:Nat) (v:QV):DS w d nv n1 va vb vc vd al rs rl G (put4 W g k v):=by
 obtain ⟨cs,e,_⟩:=hR.blk;have hd:d ≠ g:=by rintro rfl; rw [h.blk] at e; cases e
 refine ⟨zBq h.bel (by have:=(h.gin g hR.mem).1; have:=h.ge; omega) k v,(zAx W g k v hd).trans h.blk,fun f f1 f2=>?_,h.apart,fun i hi=>?_,h.nod,fun x hx=>by rw [zBI]; exact h.gin x hx,h.gd,h.gf,h.ge⟩
 ·refine zAr (h.own f f1 f2) fun j hj=>zAx W g k v ?_
  rintro rfl;obtain ⟨_,cs',hh⟩:=zAc (h.own f f1 f2) hj;rw [e] at hh;have:(fieldType f) ≠ 30:=by unfold fieldType; split <;> decide
  simp only [Option.some.injEq,Obj.cells.injEq] at hh;exact this hh.2.1.symm
 ·refine ⟨(h.rows i hi).1.put4_other hR.mem (fun e=>hg ?_) k v,(h.rows i hi).2⟩;rw [e,gdd,gge hi];exact List.getElem_mem _
theorem zBG {α:Type} (l:List α) (x y:α) (i:Nat):(l++[x]).getD i y=if i<l.length then l.getD i y else if i=l.length then x else y:=by
 simp only [gdd];by_cases h:i<l.length
 ·rw [List.getElem?_append_left h,if_pos h]
 ·rw [List.getElem?_append_right om,if_neg h];by_cases h2:i=l.length
  ·subst h2; simp
  ·rw [if_neg h2,List.getElem?_eq_none (by simp; omega)]; rfl
theorem DS.addRow (h:DS w d nv n1 va vb vc vd al rs rl G W) (hR:RowAt W G g l) (hl:l.length=n1) (hg:g ∉ rs) (hlen:rl.length=rs.length):DS w d nv n1 va vb vc vd al (rs++[g]) (rl++[l]) G W:=by
 refine ⟨h.bel,h.blk,h.own,h.apart,fun i hi=>?_,?_,h.gin,h.gd,h.gf,h.ge⟩
 ·rw [zBG,zBG,hlen];by_cases h1:i<rs.length
  ·rw [if_pos h1,if_pos h1]; exact h.rows i h1
  ·rw [List.length_append] at hi;simp only [List.length_cons,List.length_nil,Nat.zero_add] at hi;rw [if_neg h1,if_neg h1,if_pos om,if_pos om];exact ⟨hR,hl⟩
 ·rw [List.nodup_append];refine ⟨h.nod,si,fun x hx y hy=>?_⟩;simp at hy;subst hy;rintro rfl;exact hg hx
end
structure Step (W W':World) (G G':Nat->Prop):Prop where
 size:W.heap.size<=W'.heap.size
 keep:∀ b,b<W.heap.size->¬ G b->W'.heap[b]?=W.heap[b]?
 back:∀ b,b<W.heap.size->G' b->G b
theorem Step.refl (W:World) (G:Nat->Prop):Step W W G G:=⟨nlr _,fun _ _ _=>rfl,fun _ _ h=>h⟩
theorem Step.below (G:Nat->Prop) (h:Below W W W'):Step W W' G G:=⟨h.size,fun b hb _=>h.block b hb,fun _ _ h=>h⟩
theorem Step.trans {G2:Nat->Prop} (h:Step W W' G G') (k:Step W' W2 G' G2):Step W W2 G G2:=
 ⟨nlt h.size k.size,fun b hb hg=>(k.keep b (ltl hb h.size) fun hg'=>hg (h.back b hb hg')).trans (h.keep b hb hg),fun b hb hg=>h.back b hb (k.back b (ltl hb h.size) hg)⟩
section
variable {W W':World} {G G':Nat->Prop} {L:Nat}
theorem Step.cell (s:Step W W' G G') {a:Addr} (hl:a.block<W) (hg:¬ G a.block):W'.cell? a=W.cell? a:=cob (s.keep _ hl hg)
theorem Step.qis (s:Step W W' G G') {v:QV} (h:QIs W (fun b=>¬ G b) L v q):QIs W' (fun b=>¬ G' b) L v q:=by
 have h2:QIs W (fun b=>¬ G b/\¬ G' b) L v q:=h.imp fun b hb hx=>⟨hx,fun hg=>hx (s.back b hb hg)⟩
 have h3:QIs W' (fun b=>¬ G b/\¬ G' b) L v q:=h2.keep fun a hx hl=>s.cell hl hx.1
 exact h3.imp fun b _ hx=>hx.2
end
def cells4q (v:QV):List Value:=[.bool v.num.ng,.slice v.num.A v.num.n v.num.c,.bool v.den.ng,.slice v.den.A v.den.n v.den.c]
theorem zCy (qs:List QV) (k o:Nat) (hk:k<qs.length) (ho:o<4) (z:QV):(qs.flatMap cells4q)[k*4+o]?=(cells4q (qs.getD k z))[o]?:=by
 induction qs generalizing k with
 | nil=>simp at hk
 | cons q qs ih=>
  rw [List.flatMap_cons]
  cases k with
  | zero=>rw [List.getElem?_append_left (by simp [cells4q]; omega)]; simp
  | succ k=>
   rw [List.getElem?_append_right (by simp [cells4q]; omega)];have:(k+1)*4+o-(cells4q q).length=k*4+o:=by simp [cells4q]; omega
   rw [this,ih k (by simpa using hk)];simp
end Go.Proofs.YtbpngececjihlaaGreat
