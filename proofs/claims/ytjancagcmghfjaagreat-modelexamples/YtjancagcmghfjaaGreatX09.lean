/- Texts Vec2 Dict1 Vec3 Vec4 GjB Grw of this claim. -/
import Derived.Test.YtjancagcmghfjaaGreatX08
set_option maxHeartbeats 4000000
set_option maxRecDepth 40000
namespace Go.Proofs.YtjancagcmghfjaaGreat
open Go.RowKit
variable {V L B o k n i b N g M j c:Nat} {s:SV} {X Y G:Nat->Prop} {w w' w1:World} {t:TypeId} {cs:Array Value} {q:Rat} {v:Value} {l:List Nat} {A:Option Addr} {z x:Int} {ng:Bool}
def colsOf (m:List (List Rat)):Nat:=m.foldl (fun c r=>max c r.length) 0
theorem zCO (m:List (List Rat)) (r:List Rat):colsOf (m++[r])=max (colsOf m) r.length:=by simp [colsOf,List.foldl_append]
theorem zAU {m:List (List Rat)} :colsOf m<=V ↔ ∀ r ∈ m,r.length<=V:=by
 unfold colsOf
 have:∀ (m:List (List Rat)) (c:Nat),m.foldl (fun c r=>max c r.length) c<=V ↔ c<=V/\∀ r ∈ m,r.length<=V:=by
  intro m
  induction m with
  | nil=>intro c; simp
  | cons r m ih=>
   intro c;rw [List.foldl_cons,ih];simp only [List.mem_cons,forall_eq_or_imp];constructor
   ·rintro ⟨h1,h2⟩; exact ⟨by omega,by omega,h2⟩
   ·rintro ⟨h1,h2,h3⟩; exact ⟨by omega,h3⟩
 rw [this]; simp
theorem take_snoc' {α:Type} (m:List α) (k:Nat) (d:α) (h:k<m.length):m.take (k+1)=m.take k++[m.getD k d]:=by
 rw [List.take_succ_eq_append_getElem h,gdd,gge h]; rfl
theorem zQT {R:QV->Rat->Prop} {m:List (List Rat)} (h:MatAt w X R s m) :
  Calls Tryz.prog 57 #[s.val] w fun e w'=>e = .returned (.int .i64 (colsOf m))/\w=w':=by
 have hn:=h.le;have hc:=h.cap;obtain ⟨A,n,c⟩:=s;dsimp only at hn hc;have HL:Hid (m.length=n):=h.len
 have HB:Hid (∀ k,k<n->(m.getD k []).length<=9223372036854775807):=fun k hk=>by
  obtain ⟨ad,r,e,hx,hcell,hr⟩:=h.row k hk;rw [hr.len]; exact nlt hr.le hr.cap
 have HC:Hid (colsOf m<=9223372036854775807):=zAU.2 fun r hr=>by
  obtain ⟨k,hk,rfl⟩:=List.mem_iff_getElem.1 hr;have:=HB.out k (by rw [<-HL.out]; exact hk);simpa [gdd,hk] using this
 have HR:=hdq h.row;clear h;show Calls _ _ #[.slice A n c] _ _;go_enter Tryz.func57,Tryz.ntmps57
 go_wp2;go_loop [3,8] (fun t i=>∃ k:Nat,k<=n/\i = .int .i64 k/\t = .int .i64 (colsOf (m.take k))) (fun _ i=>n-(intOf i).toNat)
 case atStart=>exact ⟨0,nzl _,rfl,rfl⟩
 case round=>
  obtain ⟨k,hk,rfl,rfl⟩:=hrel;by_cases hlt:k<n
  ·obtain ⟨ad,r,e,hx,hcell,hr⟩:=HR.out k hlt;subst e;have Hlen:=hdq hr.len;have HS:=hdq (take_snoc' m k [] (by rw [HL.out]; exact hlt));have hr1:=hr.le;have hr2:=hr.cap;clear hr;obtain ⟨B,p,q⟩:=r;dsimp only [SV.val] at hcell hr1 hr2 Hlen;have hcl:colsOf (m.take k)<=9223372036854775807:=zAU.2 fun r hr=>zAU.1 HC.out r (List.mem_of_mem_take hr)
   go_wp2
   all_goals
    go_round;case rel=>exact ⟨k+1,by omega,by go_num,by rw [HS.out,zCO,Hlen.out]; go_num⟩
    case measure=>simp [intOf]; omega
  ·(obtain rfl:k=n:=by omega);go_wp2;go_ret;exact ⟨zAz (by rw [<-HL.out,List.take_length]),rfl⟩
theorem cols_calls {m:List (List Rat)} (h:MatIs w X Y L s m) :
  Calls Tryz.prog 57 #[s.val] w fun e w'=>e = .returned (.int .i64 (colsOf m))/\w=w':=zQT h
structure LPV where
 n:Int
 O:SV
 R:SV
 B:SV
abbrev LPV.val (p:LPV):Value:=.agg #[.int .i64 p.n,.slice p.O.A p.O.n p.O.c,.slice p.R.A p.R.n p.R.c,.slice p.B.A p.B.n p.B.c]
structure RowAt (w:World) (G:Nat->Prop) (b:Nat) (l:List Rat):Prop where
 mem:G b
 blk:∃ cs,w.heap[b]?=some (.cells cs 80 (0,0))/\cs.size=4*l.length
 elem:∀ k,k<l.length->∃ v:QV,QCell w ⟨b,k*4,none⟩ v/\QCan w (fun x=>¬ G x) v (l.getD k 0)
structure RowP (w:World) (G:Nat->Prop) (b:Nat) (l:List Rat):Prop where
 mem:G b
 blk:∃ cs,w.heap[b]?=some (.cells cs 80 (0,0))/\4*l.length<=cs.size
 elem:∀ k,k<l.length->∃ v:QV,QCell w ⟨b,k*4,none⟩ v/\QCan w (fun x=>¬ G x) v (l.getD k 0)
def put4 (w:World) (b k:Nat) (v:QV):World:=
 (((w.setCell ⟨b,k*4,none⟩ (.bool v.num.ng)).setCell ⟨b,k*4+1,none⟩ (.slice v.num.A v.num.n v.num.c)).setCell ⟨b,k*4+2,none⟩ (.bool v.den.ng)).setCell ⟨b,k*4+3,none⟩ (.slice v.den.A v.den.n v.den.c)
section
variable {w w':World} {G G':Nat->Prop} {b:Nat} {l:List Rat}
theorem RowAt.lt (h:RowAt w G b l):b<w.heap.size:=by
 obtain ⟨cs,e,_⟩:=h.blk; exact zAa e
theorem RowAt.frozen (h:RowAt w G b l) (o:Nat):w.frozen? ⟨b,o,none⟩=false:=by
 obtain ⟨cs,e,_⟩:=h.blk; simp [World.frozen?,e]
theorem RowAt.keep (h:RowAt w G b l) (hb:w'.heap[b]?=w.heap[b]?) (hk:∀ p:Addr,¬ G p.block->p.block<w->w'.cell? p=w.cell? p):RowAt w' G b l:=
 ⟨h.mem,by rw [hb]; exact h.blk,fun k hkl=>by
  obtain ⟨v,h1,h2⟩:=h.elem k hkl;exact ⟨v,h1.keep (fun a ha _=>cob (by rw [ha]; exact hb)),h2.keep hk⟩⟩
theorem RowAt.below (h:RowAt w G b l) (hb:Below w w w'):RowAt w' G b l:=h.keep (hb.block b h.lt) fun _ _ hl=>hb.cell hl
theorem RowAt.grow (h:RowAt w G b l) (hG:∀ x,G x->G' x) (hn:∀ x,x<w.heap.size->G' x->G x):RowAt w G' b l:=
 ⟨hG b h.mem,h.blk,fun k hk=>by
  obtain ⟨v,h1,h2⟩:=h.elem k hk;exact ⟨v,h1,h2.imp fun x hx hg hg'=>hg (hn x hx hg')⟩⟩
theorem zAx (w:World) (b k:Nat) (v:QV) {x:Nat} (hx:x ≠ b):(put4 w b k v).heap[x]?=w.heap[x]?:=by
 unfold put4;rw [bhs _ _ _ _ hx,bhs _ _ _ _ hx,bhs _ _ _ _ hx,bhs _ _ _ _ hx]
theorem zCq (w:World) (b k:Nat) (v:QV) {p:Addr} (hp:p.block ≠ b):(put4 w b k v).cell? p=w.cell? p:=cob (zAx w b k v hp)
theorem zBq {a:World} (h:Below B a w) (hb:B<=b) (k:Nat) (v:QV):Below B a (put4 w b k v):=
 (((h.setCell (p:=⟨b,k*4,none⟩) hb _).setCell (p:=⟨b,k*4+1,none⟩) hb _).setCell (p:=⟨b,k*4+2,none⟩) hb _).setCell (p:=⟨b,k*4+3,none⟩) hb _
theorem zAe {w:World} {b:Nat} {f:Nat × Nat} (v:Value) (h:w.heap[b]?=some (.cells cs t f)):(w.setCell ⟨b,o,none⟩ v).heap[b]?=some (.cells (cs.setIfInBounds o v) t f):=by
 simp [World.setCell,Array.getElem?_modify,h]
theorem QCan.put4 {v z:QV} (h:QCan w (fun x=>¬ G x) v q) (hG:G b) (k:Nat):QCan (put4 w b k z) (fun x=>¬ G x) v q:=
 h.keep fun _p hp _=>zCq w b k z (fun e=>hp (e ▸ hG))
theorem RowAt.put4_other (h:RowAt w G b l) {b':Nat} (hb':G b') (hne:b' ≠ b) (k:Nat) (v:QV):RowAt (put4 w b' k v) G b l:=
 h.keep (zAx w b' k v (Ne.symm hne)) fun _p hp _=>zCq w b' k v (fun e=>hp (e ▸ hb'))
theorem RowP.put4 (h:RowP w G b l) (hk:k<l.length) {v:QV} (hv:QCan w (fun x=>¬ G x) v q):RowP (put4 w b k v) G b (l.set k q):=by
 obtain ⟨cs,e,hsz⟩:=h.blk
 have e4:(Proofs.YtjancagcmghfjaaGreat.put4 w b k v).heap[b]?=some (.cells ((((cs.setIfInBounds (k*4) (.bool v.num.ng)).setIfInBounds (k*4+1) (.slice v.num.A v.num.n v.num.c)).setIfInBounds (k*4+2) (.bool v.den.ng)).setIfInBounds (k*4+3) (.slice v.den.A v.den.n v.den.c)) 80 (0,0)):=
  zAe _ (zAe _ (zAe _ (zAe _ e)))
 refine ⟨h.mem,⟨_,e4,by simpa using hsz⟩,fun j hj=>?_⟩;rw [List.length_set] at hj
 have get:∀ o,(Proofs.YtjancagcmghfjaaGreat.put4 w b k v).cell? ⟨b,o,none⟩=((((cs.setIfInBounds (k*4) (.bool v.num.ng)).setIfInBounds (k*4+1) (.slice v.num.A v.num.n v.num.c)).setIfInBounds (k*4+2) (.bool v.den.ng)).setIfInBounds (k*4+3) (.slice v.den.A v.den.n v.den.c))[o]?:=by
  intro o; simp only [World.cell?,e4]; simp
 have get0:∀ o,w.cell? ⟨b,o,none⟩=cs[o]?:=by intro o; simp only [World.cell?,e]; simp
 by_cases hjk:j=k
 ·subst hjk;refine ⟨v,⟨?_,?_,?_,?_⟩,?_⟩
  ·rw [get]; simp [Array.getElem?_setIfInBounds]; omega
  ·rw [get]; simp [Array.getElem?_setIfInBounds]; omega
  ·rw [get]; simp [Array.getElem?_setIfInBounds]; omega
  ·rw [get]; simp [Array.getElem?_setIfInBounds]; omega
  ·have:(l.set j q).getD j 0=q:=(by simp [hk]);rw [this];exact hv.put4 h.mem j
 ·obtain ⟨u,⟨c0,c1,c2,c3⟩,hu⟩:=h.elem j hj;dsimp only at c0 c1 c2 c3
  have far:∀ o,o<4->(Proofs.YtjancagcmghfjaaGreat.put4 w b k v).cell? ⟨b,j*4+o,none⟩=w.cell? ⟨b,j*4+o,none⟩:=by
   intro o ho;rw [get,get0];simp only [Array.getElem?_setIfInBounds];rw [if_neg (by omega),if_neg (by omega),if_neg (by omega),if_neg (by omega)]
  refine ⟨u,⟨(far 0 (by omega)).trans c0,(far 1 (by omega)).trans c1,(far 2 (by omega)).trans c2,(far 3 (by omega)).trans c3⟩,?_⟩;have:(l.set k q).getD j 0=l.getD j 0:=by simp [Ne.symm hjk]
  rw [this];exact hu.put4 h.mem k
theorem RowAt.room (h:RowAt w G b l):RowP w G b l:=⟨h.mem,by obtain ⟨cs,e,hs⟩:=h.blk; exact ⟨cs,e,by omega⟩,h.elem⟩
theorem zQV {f:Nat × Nat} (e:w.heap[b]?=some (.cells cs t f)) (k:Nat) (v:QV):∃ cs',(put4 w b k v).heap[b]?=some (.cells cs' t f)/\cs'.size=cs.size:=
 ⟨_,zAe _ (zAe _ (zAe _ (zAe _ e))),by simp⟩
theorem RowAt.put4 (h:RowAt w G b l) (hk:k<l.length) {v:QV} (hv:QCan w (fun x=>¬ G x) v q):RowAt (put4 w b k v) G b (l.set k q):=by
 obtain ⟨cs,e,hsz⟩:=h.blk;obtain ⟨cs',e',hs'⟩:=zQV e k v;exact ⟨h.mem,⟨cs',e',by rw [hs',hsz,List.length_set]⟩,(h.room.put4 hk hv).elem⟩
end
def zeroQ (n:Nat):Array Value:=madeCells #[Value.bool false,.slice none 0 0,.bool false,.slice none 0 0] (n*4)
theorem zCG (n:Nat):(zeroQ n).size=4*n:=by simp [zeroQ,madeCells]; omega
theorem zGh (n:Nat) (k:Nat) (hk:k<n):(zeroQ n)[k*4]?=some (.bool false)/\(zeroQ n)[k*4+1]?=some (.slice none 0 0)/\(zeroQ n)[k*4+2]?=some (.bool false)/\(zeroQ n)[k*4+3]?=some (.slice none 0 0):=by
 have f:∀ o,o<4->(zeroQ n)[k*4+o]?=#[Value.bool false,.slice none 0 0,.bool false,.slice none 0 0][o]?:=by
  intro o ho;have hl:k*4+o<(zeroQ n).size:=by rw [zCG]; omega
  rw [Array.getElem?_eq_getElem hl];simp only [zeroQ,madeCells,Array.getElem_map,Array.getElem_range];have e:(k*4+o) % 4=o:=by omega
  show some (#[Value.bool false,.slice none 0 0,.bool false,.slice none 0 0][(k*4+o) % 4]!)=_;rw [e]
  match o,ho with
  | 0,_=>rfl
  | 1,_=>rfl
  | 2,_=>rfl
  | 3,_=>rfl
 exact ⟨f 0 (by omega),f 1 (by omega),f 2 (by omega),f 3 (by omega)⟩
theorem RowAt.made (w:World) (n:Nat) (G:Nat->Prop) (hG:G w):RowAt (w.alloc (.cells (zeroQ n) 80)) G w (List.replicate n 0):=by
 have hh:=zAd w (.cells (zeroQ n) 80) rfl;refine ⟨hG,⟨_,hh,by simp [zCG]⟩,fun k hk=>⟨⟨⟨false,none,0,0⟩,⟨false,none,0,0⟩⟩,?_,?_⟩⟩
 ·rw [List.length_replicate] at hk;obtain ⟨h0,h1,h2,h3⟩:=zGh n k hk;have get:∀ o,(w.alloc (.cells (zeroQ n) 80)).cell? ⟨w.heap.size,o,none⟩=(zeroQ n)[o]?:=by intro o; simp only [World.cell?,hh]; simp
  exact ⟨(get _).trans h0,(get _).trans h1,(get _).trans h2,(get _).trans h3⟩
 ·have:(List.replicate n (0:Rat)).getD k 0=0:=by rw [List.length_replicate] at hk; simp [hk]
  rw [this]; exact QCan.zero _ _
theorem zEv:(Tryz.prog.info? 80).map (fun i=>(i.zero,i.size,i.bytes))=some (some (.agg #[.bool false,.slice none 0 0,.bool false,.slice none 0 0]),4,64):=by kernel_rfl
theorem zBZ (n:Nat) (hn:n<=1000000) (w:World) :
  (Instr.makeSlice 34 (.int .i64 (n:Int)) (.int .i64 (n:Int))).run Tryz.prog w = .ok (.slice (some w) n n) (w.alloc (.cells (zeroQ n) 80)):=by
 obtain ⟨i0,hi,hz0,hz1,hz2⟩:=info_parts zEv;have hr:=run_make (P:=Tryz.prog) w 34 80 i0 (.agg #[.bool false,.slice none 0 0,.bool false,.slice none 0 0]) Tryz.underlying34 hi hz0 .i64 .i64 n n (by omega) (by omega) (by rw [hz2]; omega) (by omega);rw [hz1] at hr;simpa [zeroQ,Value.cells] using hr
def fillTo (f:Nat->Rat) (n i:Nat):List Rat:=(List.range i).map f++List.replicate (n-i) 0
theorem zBj (f:Nat->Rat) (h:i<=n):(fillTo f n i).length=n:=by simp [fillTo]; omega
theorem zEe (f:Nat->Rat) (n:Nat):fillTo f n 0=List.replicate n 0:=by simp [fillTo]
theorem zGw (f:Nat->Rat) (h:i<n):(fillTo f n i).set i (f i)=fillTo f n (i+1):=by
 unfold fillTo;rw [List.set_append_right _ _ (by simp),List.range_succ,List.map_append,List.append_assoc];congr 1;rw [show n-i=(n-(i+1))+1 by omega,List.replicate_succ];simp
theorem zGv (f:Nat->Rat) (n:Nat):fillTo f n n=(List.range n).map f:=by simp [fillTo]
theorem RowAt.vec {l:List Rat} (h:RowAt w G b l) (_hl:l.length<=9223372036854775807) (c:Nat) (hc:l.length<=c) (hc2:c<=9223372036854775807):VecCan w (fun x=>x=b) (fun x=>¬ G x) ⟨some ⟨b,0,none⟩,l.length,c⟩ l:=
 ⟨rfl,hc,hc2,fun k hk=>by
  obtain ⟨v,h1,h2⟩:=h.elem k hk;exact ⟨_,v,rfl,rfl,by rw [zA4,Nat.zero_add]; exact h1,h2⟩⟩
def VRet (w:World) (l:List Rat) (e:Ending) (w':World):Prop:=∃ s:SV,e = .returned s.val/\VecCan w' (New w) (New w) s l
theorem VRet.of {l:List Rat} (hn:l.length=n) (hl:n<=1000000) (hb:w.heap.size<=b) (h:RowAt w' (fun x=>x<w.heap.size\/x=b) b l):VRet w l (.returned (.slice (some b) n n)) w':=by
 subst hn;refine ⟨⟨some ⟨b,0,none⟩,l.length,l.length⟩,rfl,?_⟩
 exact (h.vec (by omega) l.length (nlr _) (by omega)).imp (fun x _ hx=>by subst hx; exact hb) fun v q hq=>hq.imp fun x _ hx=>by
  simp only [New];rcases Nat.lt_or_ge x w with h1 | h1
  ·exact absurd (.inl h1) hx
  ·exact h1
def FillLoop (w:World) (g:Nat) (f:Nat->Rat) (n N:Nat) (E:World->Prop) (v:Value) (wr:World):Prop:=
 ∃ i:Nat,i<=N/\v = .int .i64 i/\RowAt wr (fun x=>x<w.heap.size\/x=g) g (fillTo f n i)/\Below w w wr/\E wr
theorem FillLoop.step {f:Nat->Rat} {E:World->Prop} {wr:World} {v:QV} (hi:i<N) (hN:N<=n) (hR:RowAt wr (fun x=>x<w.heap.size\/x=g) g (fillTo f n i)) (hB:Below w w wr) (hb:Below wr wr w1)
  (hBw:w.heap.size<=B) (hBg:g<B) (hg:w.heap.size<=g) (hv:QCan w1 (New B) v (f i)) (hE:E (put4 w1 g i v)):FillLoop w g f n N E (.int .i64 ((i:Int)+1)) (put4 w1 g i v):=by
 refine ⟨i+1,by omega,by simp,?_,zBq (hB.trans (hb.mono hB.size)) hg i v,hE⟩;rw [<-zGw f (show i<n by omega)];refine (hR.below hb).put4 (by rw [zBj f (by omega)]; omega) (hv.imp fun x _ hx hG=>?_);simp only [New] at hx;rcases hG with h | h <;> omega
def VRow (w:World) (l:List Rat) (e:Ending) (w':World):Prop:=∃ b,e = .returned (.slice (some ⟨b,0,none⟩) l.length l.length)/\w.heap.size<=b/\RowAt w' (fun x=>x<w.heap.size\/x=b) b l
theorem zKV {Z:Nat->Prop} {k:QV} {l:List Rat} (hk:QIs w Z M k q) (h:VecIs w X Y L s l) (hn:s.n<=1000000) (hL:L<=LM) (hM:M<=LM) :
  Calls Tryz.prog 188 #[k.val,s.val] w fun e w'=>VRow w (l.map (q*·)) e w'/\Below w w w':=by
 obtain ⟨A,n,c⟩:=s;dsimp only at hn;have hmk:=zBZ n hn;have HL:=hdq hL;have HM:=hdq hM;have HLen:Hid (l.length=n):=h.len;have hle:n<=c:=h.le;have hcap:c<=9223372036854775807:=h.cap;clear hL hM;show Calls _ _ #[k.val,.slice A n c] _ _;go_enter Tryz.func188,Tryz.ntmps188
 go_wp2
 have HF:Hid ((List.range n).map (fun i=>q*l.getD i 0)=l.map (q*·)):=by
  show _=_;rw [<-HLen.out];apply List.ext_getElem
  ·simp
  ·intro i h1 h2;simp;simp at h1;simp [h1]
 have hb0:Below w w ((w.alloc (.cells #[.bool k.num.ng,.slice k.num.A k.num.n k.num.c,.bool k.den.ng,.slice k.den.A k.den.n k.den.c] 80)).alloc (.cells (zeroQ n) 80)):=(bal).alloc (by simp) _
 have H0:FillLoop w (w+1) (fun i=>q*l.getD i 0) n n (fun W=>Box4 W w (.bool k.num.ng) (.slice k.num.A k.num.n k.num.c) (.bool k.den.ng) (.slice k.den.A k.den.n k.den.c)) (.int .i64 0) ((w.alloc (.cells #[.bool k.num.ng,.slice k.num.A k.num.n k.num.c,.bool k.den.ng,.slice k.den.A k.den.n k.den.c] 80)).alloc (.cells (zeroQ n) 80)):=
  ⟨0,nzl _,rfl,by
   rw [zEe];have:=RowAt.made (w.alloc (.cells #[.bool k.num.ng,.slice k.num.A k.num.n k.num.c,.bool k.den.ng,.slice k.den.A k.den.n k.den.c] 80)) n (fun x=>x<w.heap.size\/x=w.heap.size+1) (.inr (by simp));simpa using this,hb0,bx4⟩
 clear hmk hb0;generalize (w.alloc (.cells #[.bool k.num.ng,.slice k.num.A k.num.n k.num.c,.bool k.den.ng,.slice k.den.A k.den.n k.den.c] 80)).alloc (.cells (zeroQ n) 80)=W0 at *;go_loopw [13] (fun t W=>FillLoop w (w+1) (fun i=>q*l.getD i 0) n n (fun W=>Box4 W w (.bool k.num.ng) (.slice k.num.A k.num.n k.num.c) (.bool k.den.ng) (.slice k.den.A k.den.n k.den.c)) t W) (fun t _=>n-(intOf t).toNat)
 case atStart=>exact H0
 case round=>
  clear H0;obtain ⟨i,hi,rfl,hR,hB,bK⟩:=hrel;have hRl:=hR.lt;by_cases hlt:i<n
  ·have hv:=h.below hB;obtain ⟨ad,v,e,hx,⟨c0,c1,c2,c3⟩,hq⟩:=hv.elem i hlt;dsimp only at e c1 c2 c3;subst e;have HQ:=hdq hq;clear hq hv hx;have t0:w.heap.size<wr.heap.size:=(by omega);(go_wp2_with fail);have al:Below wr wr (wr.alloc (.cells #[.bool v.num.ng,.slice v.num.A v.num.n v.num.c,.bool v.den.ng,.slice v.den.A v.den.n v.den.c] 80)):=bal;refine (zBb (a:=k) (b:=v) ((hk.below hB).below al) (HQ.out.below al) HM.out HL.out).mono ?_; rintro e w1 ⟨⟨z,rfl,hz⟩,hb1⟩
   have h1:Below wr wr w1:=al.trans (hb1.mono al.size);have hR1:=hR.below h1;have hz1:=hz.lower (B':=wr) al.size;clear c0 c1 c2 c3 hz;obtain ⟨zv,⟨d0,d1,d2,d3⟩,-⟩:=hR1.elem i (by rw [zBj _ hi]; exact hlt);have fz:=hR1.frozen;dsimp only at d1 d2 d3;go_wp2;go_roundw
   case rel=>exact FillLoop.step (B:=wr) hlt (nlr _) hR hB h1 hB.size hRl (by omega) hz1 (by
    exact (((bK.below h1 (by omega)).far4 (by omega) _).far4 (by omega) _ |>.far4 (by omega) _).far4 (by omega) _)
   case measure=>simp [intOf]; omega
  ·(obtain rfl:i=n:=by omega);rw [zGv,HF.out] at hR;go_wp2;go_ret;refine ⟨⟨w.heap.size+1,by rw [List.length_map,HLen.out]; rfl,by omega,hR⟩,hB⟩
theorem zLH {Z:Nat->Prop} {k:QV} {l:List Rat} (hk:QIs w Z M k q) (h:VecIs w X Y L s l) (hn:s.n<=1000000) (hL:L<=LM) (hM:M<=LM) :
  Calls Tryz.prog 188 #[k.val,s.val] w fun e w'=>VRet w (l.map (q*·)) e w'/\Below w w w':=by
 refine (zKV hk h hn hL hM).mono ?_;rintro e w' ⟨⟨b,rfl,hb,hR⟩,hB⟩;exact ⟨VRet.of rfl (by rw [List.length_map,h.len]; exact hn) hb hR,hB⟩
def resize (l:List Rat) (n:Nat):List Rat:=(List.range n).map fun i=>l.getD i 0
structure IntsAt (w:World) (s:SV) (l:List Int):Prop where
 len:l.length=s.n
 le:s.n<=s.c
 cap:s.c<=9223372036854775807
 range:∀ x ∈ l,-9223372036854775808<=x/\x<=9223372036854775807
 cell:∀ k,k<s.n->∃ ad,s.A=some ad/\w.cell? (ad.add k)=some (.int .i64 (l.getD k 0))
theorem IntsAt.below {l:List Int} (h:IntsAt w s l) (hb:Below w w w'):IntsAt w' s l:=
 ⟨h.len,h.le,h.cap,h.range,fun k hk=>by
  obtain ⟨ad,e,hc⟩:=h.cell k hk;exact ⟨ad,e,(hb.cell (zAb hc)).trans hc⟩⟩
theorem zBP {l:List Int} (h:IntsAt w s l) (hn:s.n<=1000) :
  Calls Tryz.prog 21 #[s.val] w fun e w'=>VRet w (l.map (fun x:Int=>(x:Rat))) e w'/\Below w w w':=by
 obtain ⟨A,n,c⟩:=s;dsimp only at hn;have HLen:Hid (l.length=n):=h.len;have hle:n<=c:=h.le;have hcap:c<=9223372036854775807:=h.cap;have HRg:=hdq h.range;have hmk:=zBZ n (by omega)
 have HF:Hid ((List.range n).map (fun i=>((l.getD i 0:Int):Rat))=l.map (fun x:Int=>(x:Rat))):=by
  show _=_;rw [<-HLen.out];apply List.ext_getElem
  ·simp
  ·intro i h1 h2;simp at h1;simp [h1]
 show Calls _ _ #[.slice A n c] _ _;go_enter Tryz.func21,Tryz.ntmps21
 go_wp2;have hb0:Below w w (w.alloc (.cells (zeroQ n) 80)):=bal
 have H0:FillLoop w w (fun i=>((l.getD i 0:Int):Rat)) n n (fun _=>True) (.int .i64 0) (w.alloc (.cells (zeroQ n) 80)):=
  ⟨0,nzl _,rfl,by rw [zEe]; exact RowAt.made w n _ (.inr rfl),hb0,trivial⟩
 clear hmk hb0;generalize w.alloc (.cells (zeroQ n) 80)=W0 at *;go_loopw [11] (fun t W=>FillLoop w w (fun i=>((l.getD i 0:Int):Rat)) n n (fun _=>True) t W) (fun t _=>n-(intOf t).toNat)
 case atStart=>exact H0
 case round=>
  clear H0;obtain ⟨i,hi,rfl,hR,hB,-⟩:=hrel;have hRl:=hR.lt;by_cases hlt:i<n
  ·obtain ⟨ad,e,c0'⟩:=h.cell i hlt;dsimp only at e;subst e;have c0:wr.cell? (ad.add i)=some (.int .i64 (l.getD i 0)):=(hB.cell (zAb c0')).trans c0'
   have Hx:=hdq (HRg.out (l.getD i 0) (by
    rw [gdd,gge (show i<l.length by rw [HLen.out]; exact hlt)];exact List.getElem_mem _))
   clear c0';(go_wp2_with fail);refine (zAN _ Hx.out.1 Hx.out.2 _).mono ?_; rintro e w1 ⟨⟨z,rfl,hz⟩,h1⟩
   have hR1:=hR.below h1;clear c0;obtain ⟨zv,⟨d0,d1,d2,d3⟩,-⟩:=hR1.elem i (by rw [zBj _ hi]; exact hlt);have fz:=hR1.frozen;dsimp only at d1 d2 d3;go_wp2;go_roundw;case rel=>exact FillLoop.step (B:=wr) hlt (nlr _) hR hB h1 hB.size hRl (nlr _) hz trivial
   case measure=>simp [intOf]; omega
  ·(obtain rfl:i=n:=by omega);rw [zGv,HF.out] at hR;go_wp2;go_ret;exact ⟨VRet.of (by rw [List.length_map]; exact HLen.out) (by omega) (nlr _) hR,hB⟩
namespace Gj
open Lin
theorem zWS:∀ (f c:Nat) (m:Mt) (ps:List Nat),(run f c m ps).2.length<=ps.length+f
 | 0,c,m,ps=>by simp [run]
 | f+1,c,m,ps=>by
  unfold run
  split
  ·show ps.length<=_; omega
  ·split
   ·have:=zWS f (c+1) m ps; omega
   ·rename_i g _;have:=zWS f (c+1) (step m ps.length c g) (ps++[c]);rw [List.length_append] at this;have e:[c].length=1:=rfl;omega
theorem zYq {f c:Nat} {m:Mt} {ps:List Nat} (h:ps.length=m.length):run f c m ps=(m,ps):=by
 cases f with
 | zero=>rfl
 | succ f=>unfold run; rw [if_pos h]
structure Same (m m':Mt) (w:Nat):Prop where
 len:m'.length=m.length
 rect:Rect m w->Rect m' w
 null:∀ W v,Null m' W v ↔ Null m W v
theorem Same.refl (m:Mt) (w:Nat):Same m m w:=⟨rfl,id,fun _ _=>Iff.rfl⟩
theorem Same.trans {m m' m2:Mt} {w:Nat} (h:Same m m' w) (h':Same m' m2 w):Same m m2 w:=⟨h'.len.trans h.len,fun r=>h'.rect (h.rect r),fun W v=>(h'.null W v).trans (h.null W v)⟩
theorem Same.step {m:Mt} {p c f w:Nat} (hp:p<m.length) (hf:f<m.length) (h0:ent m f c ≠ 0):Same m (step m p c f) w:=
 ⟨zT5 _ _ _ _,fun h=>zWu h hp hf,fun _ _=>zXV hp hf h0⟩
theorem zV8 {w:Nat}:∀ (f c:Nat) (m:Mt),Unt m c->c+f ≥ m.length->(∃ m',run f c m (List.range c)=(m',List.range m.length)/\Unt m' m.length/\Same m m' w)\/((c+f=m.length->(run f c m (List.range c)).2.length<m.length)/\∃ v k,k<m.length/\v k ≠ 0/\Null m m.length v)
 | 0,c,m,h,hf=>by
  have:c=m.length:=by have:=h.le; omega
  subst this
  exact .inl ⟨m,rfl,h,Same.refl _ _⟩
 | f+1,c,m,h,hf=>by
  by_cases hc:c=m.length
  ·refine .inl ⟨m,?_,by rw [<-hc]; exact h,Same.refl _ _⟩;rw [zYq (by rw [List.length_range]; exact hc),hc]
  ·have hlt:c<m.length:=by have:=h.le; omega
   unfold run;rw [List.length_range,if_neg hc]
   split
   ·rename_i hn;refine .inr ⟨fun e=>?_,?_⟩
    ·have:=zWS f (c+1) m (List.range c);rw [List.length_range] at this;omega
    ·(obtain ⟨v,hv,e⟩:=h.stuck hlt fun g h1 h2=>zVQ hn g h1 (by omega));exact ⟨v,c,hlt,by rw [e]; decide,hv⟩
   ·rename_i g hg;obtain ⟨h1,h2,h3⟩:=zUD hg;have hgl:g<m.length:=(by omega);have hU:=h.step hlt h1 hgl h3;have hS:Same m (step m c c g) w:=Same.step hlt hgl h3;have ih:=zV8 (w:=w) f (c+1) (step m c c g) hU (by rw [hS.len]; omega);rw [List.range_succ,hS.len] at ih;rcases ih with ⟨m',e,hu,hs⟩ | ⟨h4,v,k,hk,hv,hn⟩
    ·exact .inl ⟨m',e,hu,hS.trans hs⟩
    ·exact .inr ⟨fun e=>h4 (by omega),v,k,hk,hv,(hS.null _ _).1 hn⟩
theorem zXu (n k:Nat) (f:Nat->Rat):sum (n+k) f=sum n f+sum k fun i=>f (n+i):=by
 induction k with
 | zero=>show sum n f=sum n f+0; grind
 | succ k ih=>
  show sum (n+k) f+f (n+k)=sum n f+(sum k (fun i=>f (n+i))+f (n+k));rw [ih]; grind
def beside (m:Mt):Mt:=(List.range m.length).map fun i=>resize (m.getD i []) m.length++(List.range m.length).map fun k=>if k=i then 1 else 0
def inverse (m:Mt):Option Mt:=if (run m.length 0 (beside m) []).2.length<m.length then none else some ((run m.length 0 (beside m) []).1.map fun r=>r.drop m.length)
theorem zUa (m:Mt):(beside m).length=m.length:=by simp [beside]
theorem zUG {m:Mt} {i:Nat} (hi:i<m.length):(beside m).getD i []=resize (m.getD i []) m.length++(List.range m.length).map fun k=>if k=i then 1 else 0:=by
 unfold beside; rw [getD_map_range _ _ hi]
theorem zWP (l:List Rat) (n k:Nat) (hk:k<n):(resize l n).getD k 0=l.getD k 0:=by unfold resize; rw [getD_map_range _ _ hk]
theorem zUH {m:Mt} {i k:Nat} (hi:i<m.length) (hk:k<m.length):ent (beside m) i k=ent m i k:=by
 unfold ent;rw [zUG hi,getD_append_left _ _ _ (by simp [resize]; exact hk),zWP _ _ _ hk]
theorem zUz {m:Mt} {i k:Nat} (hi:i<m.length) (hk:k<m.length):ent (beside m) i (m.length+k)=if k=i then 1 else 0:=by
 unfold ent;have e:m.length=(resize (m.getD i []) m.length).length:=by simp [resize]
 rw [zUG hi]
 conv=>lhs; rw [show m.length+k=(resize (m.getD i []) m.length).length+k by rw [<-e]]
 rw [getD_append_right,getD_map_range _ _ hk]
theorem zUI (m:Mt):Rect (beside m) (m.length+m.length):=fun i hi=>by
 rw [zUa] at hi;rw [zUG hi];simp [resize]
def joint (n:Nat) (x y:Nat->Rat) (k:Nat):Rat:=if k<n then x k else-y (k-n)
theorem zWl (n:Nat) (a x y:Nat->Rat):(sum (n+n) fun k=>a k*joint n x y k)=(sum n fun k=>a k*x k)-sum n fun k=>a (n+k)*y k:=by
 rw [zXu];have e1:(sum n fun k=>a k*joint n x y k)=sum n fun k=>a k*x k:=zAh fun k hk=>by unfold joint; rw [if_pos hk]
 have e2:(sum n fun k=>a (n+k)*joint n x y (n+k))=sum n fun k=>- (a (n+k)*y k):=zAh fun k hk=>by
  unfold joint; rw [if_neg (by omega),show n+k-n=k by omega]; grind
 rw [e1,e2,zFC]; grind
theorem zWV (m:Mt) (n i k:Nat):ent (m.map fun r=>r.drop n) i k=ent m i (n+k):=by
 unfold ent;by_cases hi:i<m.length
 ·rw [show (m.map fun r=>r.drop n).getD i []=(m.getD i []).drop n by simp [List.getD,hi]];simp [List.getElem?_drop]
 ·rw [zAw (m.map fun r=>r.drop n) i [] (by simpa using hi),zAw m i [] (by omega)]; simp
theorem zU2 {m r:Mt} (h:inverse m=some r):r.length=m.length/\(∀ i,i<m.length->(r.getD i []).length=m.length)/\∀ x y:Nat->Rat,(∀ i,i<m.length->(sum m.length fun k=>ent m i k*x k)=y i) ↔ ∀ i,i<m.length->x i=sum m.length fun k=>ent r i k*y k:=by
 unfold inverse at h;have hb:=zUa m;rcases zV8 (w:=m.length+m.length) m.length 0 (beside m) (Unt.zero _) (by rw [hb]; omega) with ⟨m',e,hu,hs⟩ | ⟨h1,_⟩
 ·rw [show List.range 0=[] from rfl] at e;rw [e,hb,List.length_range,if_neg (by omega)] at h;cases h;have hl:m'.length=m.length:=hs.len.trans hb;have hr:=hs.rect (zUI m);refine ⟨by simp [hl],fun i hi=>?_,fun x y=>?_⟩
  ·rw [show (m'.map fun r=>r.drop m.length).getD i []=(m'.getD i []).drop m.length by simp [List.getD,hl,hi],List.length_drop,hr i (by omega)]; omega
  ·have hn:=hs.null (m.length+m.length) (joint m.length x y)
   have l:Null (beside m) (m.length+m.length) (joint m.length x y) ↔ ∀ i,i<m.length->(sum m.length fun k=>ent m i k*x k)=y i:=by
    unfold Null;rw [hb];(refine forall_congr' fun i=>forall_congr' fun hi=>?_);rw [zWl,zAh (g:=fun k=>ent m i k*x k) (fun k hk=>by rw [zUH hi hk]),zBu (f:=fun k=>ent (beside m) i (m.length+k)*y k) hi (fun k hk hne=>by rw [zUz hi hk,if_neg hne]; grind),zUz hi hi,if_pos rfl];constructor <;> intro h <;> grind
   have rr:Null m' (m.length+m.length) (joint m.length x y) ↔ ∀ i,i<m.length->x i=sum m.length fun k=>ent (m'.map fun r=>r.drop m.length) i k*y k:=by
    unfold Null;rw [hl];refine forall_congr' fun i=>forall_congr' fun hi=>?_
    rw [zWl,zBu (f:=fun k=>ent m' i k*x k) hi (fun k hk hne=>by rw [hu.one i k (by omega) (by omega),if_neg (fun e=>hne e.symm)]; grind),hu.one i i (by omega) (by omega),if_pos rfl,
     zAh (f:=fun k=>ent (m'.map fun r=>r.drop m.length) i k*y k) (g:=fun k=>ent m' i (m.length+k)*y k) (fun k _=>by rw [zWV])]
    constructor <;> intro h <;> grind
   rw [<-l,<-rr,hn]
 ·rw [show List.range 0=[] from rfl,hb] at h1;rw [if_pos (h1 (by omega))] at h;cases h
theorem zWk {m:Mt} (h:inverse m=none):∃ v k,k<m.length/\v k ≠ 0/\Null m m.length v:=by
 unfold inverse at h;have hb:=zUa m;rcases zV8 (w:=m.length+m.length) m.length 0 (beside m) (Unt.zero _) (by rw [hb]; omega) with ⟨m',e,hu,hs⟩ | ⟨_,v,k,h1,h2,h3⟩
 ·rw [show List.range 0=[] from rfl] at e;rw [e,hb,List.length_range,if_neg (by omega)] at h;cases h
 ·rw [hb] at h1 h3;refine ⟨v,k,h1,h2,fun i hi=>?_⟩;have:=h3 i (by rw [hb]; exact hi);rw [<-this];exact zAh fun j hj=>by rw [zUH hi hj]
def FitM (k:Nat) (m:Mt):Prop:=∀ i j,Fits k (ent m i j)
theorem FitM.next {k:Nat} {m:Mt} {p c f:Nat} (h:FitM k m) (hp:p<m.length) (hf:f<m.length):FitM (5*k+5) (step m p c f):=fun i j=>by
 by_cases hi:i<m.length
 ·rw [zVd hp hf hi]
  split
  ·exact ((h _ _).inv.mul (h _ _)).mono (by omega)
  ·exact ((h _ _).sub ((h _ _).mul ((h _ _).inv.mul (h _ _)))).mono (by omega)
 ·unfold ent;rw [zAw (step m p c f) i [] (by rw [zT5]; omega)];exact Fits.zero _
def grow:Nat->Nat->Nat
 | 0,k=>k
 | n+1,k=>grow n (5*k+5)
theorem zXG:∀ (n k:Nat),k<=grow n k
 | 0,k=>nlr _
 | n+1,k=>nlt (by omega) (zXG n (5*k+5))
end Gj
open Go.RowKit Go.Shelf Gj
abbrev AllB:Nat->Prop:=fun _=>True
def QV.zero:QV:=⟨⟨false,none,0,0⟩,⟨false,none,0,0⟩⟩
instance:Inhabited QV:=⟨QV.zero⟩
def cells4q (v:QV):List Value:=[.bool v.num.ng,.slice v.num.A v.num.n v.num.c,.bool v.den.ng,.slice v.den.A v.den.n v.den.c]
theorem zCy (qs:List QV) (k o:Nat) (hk:k<qs.length) (ho:o<4) (z:QV):(qs.flatMap cells4q)[k*4+o]?=(cells4q (qs.getD k z))[o]?:=by
 induction qs generalizing k with
 | nil=>simp at hk
 | cons q qs ih=>
  rw [List.flatMap_cons]
  cases k with
  | zero=>rw [List.getElem?_append_left (by simp [cells4q]; omega)]; simp
  | succ k=>
   rw [List.getElem?_append_right (by simp [cells4q]; omega)];have:(k+1)*4+o-(cells4q q).length=k*4+o:=by simp [cells4q]; omega
   rw [this,ih k (by simpa using hk)];simp
theorem VecAt.loose {l:List Rat} (h:VecCan w X Y s l) (f:∀ k,QFit L (l.getD k 0)):VecIs w X Y L s l:=
 ⟨h.len,h.le,h.cap,fun k hk=>by
  obtain ⟨ad',v,e',hx',hc',hq⟩:=h.elem k hk;exact ⟨ad',v,e',hx',hc',hq.qis (f k)⟩⟩
structure Fr (G:Nat->Prop) (w w':World):Prop where
 os:w'.os=w.os
 tape:w'.tape=w.tape
 output:w'.output=w.output
 size:w.heap.size<=w'.heap.size
 block:∀ b,b<w.heap.size->¬ G b->w'.heap[b]?=w.heap[b]?
section
variable {G H:Nat->Prop} {w w' w'':World}
theorem Fr.refl (G:Nat->Prop) (w:World):Fr G w w:=⟨rfl,rfl,rfl,nlr _,fun _ _ _=>rfl⟩
theorem Fr.trans (h:Fr G w w') (k:Fr G w' w''):Fr G w w'':=
 ⟨k.os.trans h.os,k.tape.trans h.tape,k.output.trans h.output,nlt h.size k.size,fun b hb hg=>(k.block b (ltl hb h.size) hg).trans (h.block b hb hg)⟩
theorem Fr.mono (h:Fr G w w') (hG:∀ b,G b->H b):Fr H w w':=⟨h.os,h.tape,h.output,h.size,fun b hb hg=>h.block b hb fun x=>hg (hG b x)⟩
theorem Fr.of_below (h:Below w w w'):Fr G w w':=⟨h.os,h.tape,h.output,h.size,fun b hb _=>h.block b hb⟩
theorem Fr.below (h:Fr G w w') (hB:B<=w.heap.size) (hG:∀ b,G b->B<=b):Below B w w':=
 ⟨h.os,h.tape,h.output,h.size,fun b hb=>h.block b (by omega) fun x=>by have:=hG b x; omega⟩
theorem Fr.call (h:Fr G w w') (k:Below w' w' w''):Fr G w w'':=h.trans (Fr.of_below k)
theorem Fr.set (h:Fr G w w') {p:Addr} (hp:G p.block) (v:Value):Fr G w (w'.setCell p v):=
 ⟨h.os,h.tape,h.output,by simpa [World.setCell] using h.size,fun b hb hg=>(bhs _ _ _ _ (fun e=>hg (by rw [e]; exact hp))).trans (h.block b hb hg)⟩
theorem Fr.cell (h:Fr G w w') {p:Addr} (hp:p.block<w) (hg:¬ G p.block):w'.cell? p=w.cell? p:=cob (h.block _ hp hg)
theorem Fr.drew (h:Fr G w w'):Fr G w w'.drew:=h.trans (Fr.of_below (brf _ _).drew)
end
structure More (w:World) (G G':Nat->Prop):Prop where
 old:∀ y,G y->G' y
 new:∀ y,G' y->G y\/w.heap.size<=y
structure MatS (W:World) (B:Nat) (G:Nat->Prop) (v:Value) (k:Nat) (ss:List SV) (m:List (List Rat)):Prop where
 own:W.ownsRow B 34 1 v k (ss.map SV.val)
 row:∀ j,v.ownBlock=some j->G j
 len:ss.length=k
 llen:m.length=k
 elem:∀ j,j<k->VecCan W (fun b=>¬ G b) (fun b=>¬ G b) (ss.getD j ⟨none,0,0⟩) (m.getD j [])
section
variable {W W' W2:World} {B k L:Nat} {G G' H:Nat->Prop} {v v':Value} {ss:List SV} {m:List (List Rat)}
theorem vecG {l:List Rat} (h:VecCan W (fun b=>¬ G b) (fun b=>¬ G b) s l) (hF:Fr H W W') (hHG:∀ y,H y->G y) (hG:More W G G'):VecCan W' (fun b=>¬ G' b) (fun b=>¬ G' b) s l:=
 ((h.imp (X':=fun b=>¬ G b/\b<W.heap.size) (R':=QCan W fun b=>¬ G b/\b<W.heap.size) (fun b hl hb=>⟨hb,hl⟩) fun _ _ hq=>hq.imp fun b hl hb=>⟨hb,hl⟩).keep (R':=QCan W' fun b=>¬ G b/\b<W.heap.size) (fun p hp hl=>hF.cell hl fun z=>hp.1 (hHG _ z)) fun v q hq=>hq.keep fun p hp hl=>hF.cell hl fun z=>hp.1 (hHG _ z)).imp
  (fun b _ hb hg=>hb.1 ((hG.new b hg).resolve_right (by omega))) fun _ _ hq=>hq.imp fun b _ hb hg=>hb.1 ((hG.new b hg).resolve_right (by omega))
theorem MatS.nil (W:World) (B:Nat) (G:Nat->Prop):MatS W B G (.slice none 0 0) 0 [] []:=⟨World.ownsRow_nil _ _ _ _,fun j h=>by simp [Value.ownBlock] at h,rfl,rfl,fun j h=>absurd h (Nat.not_lt_zero j)⟩
theorem MatS.lt (h:MatS W B G v k ss m) (e:v.ownBlock=some j):B<=j/\j<W.heap.size:=by
 obtain ⟨h1,cs,hh⟩:=zAc h.own e;exact ⟨h1,zAa hh⟩
theorem MatS.keep (h:MatS W B G v k ss m) (hF:Fr H W W') (hH:∀ j,v.ownBlock=some j->¬ H j) (hHG:∀ y,H y->G y) (hG:More W G G'):MatS W' B G' v k ss m:=
 ⟨zAr h.own fun j hj=>hF.block j (h.lt hj).2 (hH j hj),fun j hj=>hG.old j (h.row j hj),h.len,h.llen,fun j hj=>vecG (h.elem j hj) hF hHG hG⟩
theorem MatS.step (h:MatS W B G v k ss m) {o:Obj} {l:List Rat} (hz:VecCan W (fun b=>¬ G b) (fun b=>¬ G b) s l) (hown:W2.ownsRow B 34 1 v' (k+1) (ss.map SV.val++[s.val])) (hg:(W.alloc o).grownBy W2 v.ownBlock) (hat:v'.ownBlock=v.ownBlock\/v'.ownBlock=some (W.alloc o).heap.size) :
  MatS W2 B (fun y=>G y\/v'.ownBlock=some y) v' (k+1) (ss++[s]) (m++[l])/\Fr (fun y=>v.ownBlock=some y) W W2/\More W G (fun y=>G y\/v'.ownBlock=some y):=by
 have hsz:W.heap.size+1<=W2.heap.size:=by have:=hg.size; simpa using this
 have key:∀ y,y<W.heap.size->¬ v.ownBlock=some y->W2.heap[y]?=W.heap[y]?:=fun y hy h2=>(hg.block y (by simp; omega) fun e=>h2 e.symm).trans (Below.heap_alloc _ _ _ hy)
 have hv':∀ j,v'.ownBlock=some j->v.ownBlock=some j\/W.heap.size<=j:=fun j hj=>by
  rcases hat with e | e
  ·exact .inl (e.symm.trans hj)
  ·rw [e] at hj; cases hj; right; simp
 have hF:Fr (fun y=>v.ownBlock=some y) W W2:=⟨hg.os,hg.tape,hg.output,by omega,fun b hb hn=>key b hb hn⟩;have hM:More W G (fun y=>G y\/v'.ownBlock=some y):=⟨fun y hy=>.inl hy,fun y hy=>hy.elim .inl fun e=>(hv' y e).imp (h.row y) id⟩;refine ⟨⟨by rw [List.map_append]; simpa using hown,fun j hj=>.inr hj,by rw [List.length_append,h.len]; rfl,by rw [List.length_append,h.llen]; rfl,fun j hj=>?_⟩,hF,hM⟩;by_cases hjk:j<k
 ·rw [getD_append_left _ _ _ (by rw [h.len]; exact hjk),getD_append_left _ _ _ (by rw [h.llen]; exact hjk)];exact vecG (h.elem j hjk) hF (fun y e=>h.row y e) hM
 ·obtain rfl:j=k:=by omega
  have e1:(ss++[s]).getD j ⟨none,0,0⟩=s:=by rw [<-h.len]; simp
  have e2:(m++[l]).getD j []=l:=by rw [<-h.llen]; simp
  rw [e1,e2];exact vecG hz hF (fun y e=>h.row y e) hM
end
structure ValC (W:World) (B:Nat) (G:Nat->Prop) (v:Value) (k:Nat) (qs:List QV) (l:List Rat):Prop where
 own:W.ownsRow B 80 4 v k (qs.flatMap cells4q)
 row:∀ j,v.ownBlock=some j->G j
 len:qs.length=k
 llen:l.length=k
 elem:∀ j,j<k->QCan W (fun b=>¬ G b) (qs.getD j QV.zero) (l.getD j 0)
section
variable {W W' W2:World} {B k:Nat} {G G' H:Nat->Prop} {v v':Value} {qs:List QV} {l:List Rat}
theorem ValC.nil (W:World) (B:Nat) (G:Nat->Prop):ValC W B G (.slice none 0 0) 0 [] []:=⟨⟨rfl,.inl ⟨rfl,rfl⟩⟩,fun j h=>by simp [Value.ownBlock] at h,rfl,rfl,fun j h=>absurd h (Nat.not_lt_zero j)⟩
theorem ValC.lt (h:ValC W B G v k qs l) (e:v.ownBlock=some j):B<=j/\j<W.heap.size:=by
 obtain ⟨h1,cs,hh⟩:=zAc h.own e;exact ⟨h1,zAa hh⟩
theorem ValC.keep (h:ValC W B G v k qs l) (hF:Fr H W W') (hH:∀ j,v.ownBlock=some j->¬ H j) (hHG:∀ y,H y->G y) (hG:More W G G'):ValC W' B G' v k qs l:=by
 refine ⟨zAr h.own fun j hj=>hF.block j (h.lt hj).2 (hH j hj),fun j hj=>hG.old j (h.row j hj),h.len,h.llen,fun j hj=>?_⟩;exact (((h.elem j hj).imp (Y:=fun b=>¬ G b/\b<W.heap.size) fun b hl hb=>⟨hb,hl⟩).keep fun p hp hl=>hF.cell hl fun z=>hp.1 (hHG _ z)).imp fun b _ hb hg=>hb.1 ((hG.new b hg).resolve_right (by omega))
theorem ValC.step (h:ValC W B G v k qs l) {o:Obj} {z:QV} (hz:QCan W (fun b=>¬ G b) z q) (hown:W2.ownsRow B 80 4 v' (k+1) (qs.flatMap cells4q++cells4q z)) (hg:(W.alloc o).grownBy W2 v.ownBlock) (hat:v'.ownBlock=v.ownBlock\/v'.ownBlock=some (W.alloc o).heap.size) :
  ValC W2 B (fun y=>G y\/v'.ownBlock=some y) v' (k+1) (qs++[z]) (l++[q])/\Fr (fun y=>v.ownBlock=some y) W W2/\More W G (fun y=>G y\/v'.ownBlock=some y):=by
 have hsz:W.heap.size+1<=W2.heap.size:=by have:=hg.size; simpa using this
 have key:∀ y,y<W.heap.size->¬ v.ownBlock=some y->W2.heap[y]?=W.heap[y]?:=fun y hy h2=>(hg.block y (by simp; omega) fun e=>h2 e.symm).trans (Below.heap_alloc _ _ _ hy)
 have hv':∀ j,v'.ownBlock=some j->v.ownBlock=some j\/W.heap.size<=j:=fun j hj=>by
  rcases hat with e | e
  ·exact .inl (e.symm.trans hj)
  ·rw [e] at hj; cases hj; right; simp
 have kq:∀ {u r},QCan W (fun b=>¬ G b) u r->QCan W2 (fun b=>¬ (G b\/v'.ownBlock=some b)) u r:=fun {u r} hu=>
  ((hu.imp (Y:=fun b=>¬ G b/\b<W.heap.size) fun b hl hb=>⟨hb,hl⟩).keep fun p hp hl=>cob (key _ hl fun e=>hp.1 (h.row _ e))).imp fun b _ hb hg=>hg.elim hb.1 fun e=>(hv' b e).elim (fun e=>hb.1 (h.row b e)) fun e=>by omega
 refine ⟨⟨by rw [List.flatMap_append]; simpa using hown,fun j hj=>.inr hj,by rw [List.length_append,h.len]; rfl,by rw [List.length_append,h.llen]; rfl,fun j hj=>?_⟩,⟨hg.os,hg.tape,hg.output,by omega,fun b hb hn=>key b hb hn⟩,⟨fun y hy=>.inl hy,fun y hy=>hy.elim .inl fun e=>(hv' y e).imp (h.row y) id⟩⟩;by_cases hjk:j<k
 ·rw [getD_append_left _ _ _ (by rw [h.len]; exact hjk),getD_append_left _ _ _ (by rw [h.llen]; exact hjk)];exact kq (h.elem j hjk)
 ·obtain rfl:j=k:=by omega
  have e1:(qs++[z]).getD j QV.zero=z:=by rw [<-h.len]; simp
  have e2:(l++[q]).getD j 0=q:=by rw [<-h.llen]; simp
  rw [e1,e2];exact kq hz
theorem ValC.vec (h:ValC W B G v k qs l):∃ s:SV,v=s.val/\s.n=k/\VecCan W (fun _=>True) (fun b=>¬ G b) s l:=by
 rcases h.own.2 with ⟨rfl,rfl⟩ | ⟨g,cap,cur,rfl,hbg,hh,hnc,hcap,hcur,ht⟩
 ·exact ⟨⟨none,0,0⟩,rfl,rfl,h.llen,nlr _,nzl _,fun k hk=>absurd hk (Nat.not_lt_zero k)⟩
 ·refine ⟨⟨some ⟨g,0,none⟩,k,cap⟩,rfl,rfl,h.llen,hnc,(by show cap<=_; exact nlt ‹_› (show maxLen<=9223372036854775807 by decide)),fun j hj=>⟨⟨g,0,none⟩,qs.getD j QV.zero,rfl,trivial,?_,h.elem j hj⟩⟩;have hj':j<k:=hj;have hl:=h.len
  have ec:∀ o,o<4->W.cell? ⟨g,j*4+o,none⟩=(cells4q (qs.getD j QV.zero))[o]?:=fun o ho=>by
   have e2:(cur.toList.take (k*4))[j*4+o]?=(qs.flatMap cells4q)[j*4+o]?:=(by rw [ht]);rw [List.getElem?_take_of_lt (by omega),zCy qs j o (by omega) ho QV.zero] at e2;simp only [World.cell?,hh];simpa using e2
  rw [zA4,Nat.zero_add];exact ⟨ec 0 (by omega),ec 1 (by omega),ec 2 (by omega),ec 3 (by omega)⟩
end
structure Carry (X:Nat->Prop) (w w':World):Prop where
 size:w.heap.size<=w'.heap.size
 blk:∀ k cs t f,X k->w.heap[k]?=some (.cells cs t f)->w'.heap[k]?=some (.cells cs t f)
section
variable {X Y:Nat->Prop} {w w' w'':World}
theorem Carry.refl (X:Nat->Prop) (w:World):Carry X w w:=⟨nlr _,fun _ _ _ _ _ h=>h⟩
theorem Carry.trans (h:Carry X w w') (k:Carry X w' w''):Carry X w w'':=⟨nlt h.size k.size,fun b cs t f hx hb=>k.blk b cs t f hx (h.blk b cs t f hx hb)⟩
theorem Carry.mono (h:Carry X w w') (hY:∀ b,Y b->X b):Carry Y w w':=⟨h.size,fun b cs t f hy hb=>h.blk b cs t f (hY b hy) hb⟩
theorem Carry.of_below (h:Below w w w'):Carry X w w':=⟨h.size,fun b _cs _t _f _ hb=>(h.block b (zAa hb)).trans hb⟩
theorem Carry.cell (h:Carry X w w') {p:Addr} (hx:X p.block) (hc:w.cell? p=some v):w'.cell? p=some v:=by
 unfold World.cell? at hc
 cases hb:w.heap[p.block]? with
 | none=>rw [hb] at hc; cases hc
 | some o=>
  cases o with
  | cells cs t f=>rw [hb] at hc; unfold World.cell?; rw [h.blk _ cs t f hx hb]; exact hc
  | _=>rw [hb] at hc; cases hc
theorem Carry.putObj {l:Nat} {o:Obj} (o':Obj) (hl:w.heap[l]?=some o) (ho:o.isCells=false):Carry X w (w.putObj l o'):=
 ⟨by simp,fun k cs t f _ hk=>(World.putObj_heap_other (by rintro rfl; rw [hk] at hl; cases hl; cases ho)).trans hk⟩
theorem Carry.grown {row:Option Nat} (hg:w.grownBy w' row) (hr:∀ r,row=some r->∃ o:Obj,w.heap[r]?=some o/\o.isCells=false):Carry X w w':=
 ⟨hg.size,fun _k _cs _t _f _ hk=>zAi hg hr hk⟩
theorem WordsAt.carry (h:WordsAt w X A n c l) (hk:Carry X w w'):WordsAt w' X A n c l:=
 ⟨h.len,h.le,h.cap,h.ok,fun k hkn=>by
  obtain ⟨ad,e,hx,hc⟩:=h.cell k hkn;exact ⟨ad,e,hx,hk.cell (by rw [zAj]; exact hx) hc⟩⟩
theorem ZAt.carry (h:ZAt w X ng A n c z) (hk:Carry X w w'):ZAt w' X ng A n c z:=⟨h.sign,h.words.carry hk⟩
theorem ZIs.carry {z:ZV} (h:ZIs w X L z x) (hk:Carry X w w'):ZIs w' X L z x:=by obtain ⟨l,h1,h2⟩:=h; exact ⟨l,h1.carry hk,h2⟩
theorem QIs.carry {v:QV} (h:QIs w X L v q) (hk:Carry X w w'):QIs w' X L v q:=by obtain ⟨x,y,h1,h2,h3⟩:=h; exact ⟨x,y,h1.carry hk,h2.carry hk,h3⟩
theorem QCan.carry {v:QV} (h:QCan w X v q) (hk:Carry X w w'):QCan w' X v q:=⟨h.1.carry hk,h.2.carry hk⟩
theorem QCell.carry {p:Addr} {v:QV} (h:QCell w p v) (hk:Carry X w w') (hx:X p.block):QCell w' p v:=
 ⟨hk.cell hx h.1,hk.cell (p:=⟨p.block,p.off+1,none⟩) hx h.2.1,hk.cell (p:=⟨p.block,p.off+2,none⟩) hx h.2.2.1,hk.cell (p:=⟨p.block,p.off+3,none⟩) hx h.2.2.2⟩
end
end Go.Proofs.YtjancagcmghfjaaGreat
