/- Texts BnW BoF of this claim. -/
import Derived.Test.YtbpngececjihlaaGreatB41
set_option maxHeartbeats 4000000
set_option maxRecDepth 40000
namespace Go.Proofs.YtbpngececjihlaaGreat
open Go.RowKit Go.Shelf
variable {i V d n L m b:Nat} {av:Nat->Int} {base bs:List Rat} {w W:World} {lv:Nat->Bool} {bn cn:Nat->Nat} {G X Y:Nat->Prop} {f:Nat->Rat} {sa:SV} {os rs:List (List Rat)} {v:Value}
theorem zLw:(Tryz.prog.info? 4).map (fun i=>(i.zero,i.size,i.bytes))=some (some (.bool false),1,1):=kj
theorem zMe (n:Nat) (hn:n<=1000000) (w:World) :
  (Instr.makeSlice 57 n n).run Tryz.prog w = .ok (.slice (some w) n n) (w.alloc (.cells (madeCells #[.bool false] n) 4)):=by
 obtain ⟨i0,hi,hz0,hz1,hz2⟩:=info_parts zLw;have hr:=run_make (P:=Tryz.prog) w 57 4 i0 false Tryz.underlying57 hi hz0 .i64 .i64 n n om om (by rw [hz2]; omega) om;rw [hz1] at hr;simpa [Value.cells] using hr
namespace Lin.BP
variable {B:BP} {av:Nat->Int} {i k:Nat}
theorem fixed_zero:B.fixed av 0 k=false:=by unfold fixed; rw [decide_eq_false (Nat.not_lt_zero _)]; rfl
theorem fixed_no (h:av i=-1):B.fixed av (i+1) k=B.fixed av i k:=by
 unfold fixed;by_cases h1:find B.bin k i<i
 ·have e:find B.bin k (i+1)=find B.bin k i:=by simp [find,h1]
  rw [e,decide_eq_true (by omega:find B.bin k i<i+1),decide_eq_true h1]
 ·rw [decide_eq_false h1];by_cases h2:B.bin i=k
  ·have e:find B.bin k (i+1)=i:=(by simp [find,h1,h2]);rw [e,decide_eq_false (by simp [h]:¬ av i ≠ -1),Bool.and_false]; rfl
  ·have e:find B.bin k (i+1)=i+1:=(by simp [find,h1,h2]);rw [e,decide_eq_false (by omega:¬ i+1<i+1),Bool.false_and,Bool.false_and]
theorem base_no (h:av i=-1):B.base av (i+1) k=B.base av i k:=by
 unfold base;rw [fixed_no h]
 split
 ·rename_i h1;have h1:find B.bin k i<i:=by unfold fixed at h1; simp at h1; exact h1.1
  have e:find B.bin k (i+1)=find B.bin k i:=by simp [find,h1]
  rw [e]
 ·rfl
theorem zLX (inj:∀ j,j<i->B.bin j ≠ B.bin i):find B.bin (B.bin i) (i+1)=i:=by
 have h1:=zCQ inj;simp [find,h1]
theorem fixed_put (h:av i ≠ -1) (inj:∀ j,j<i->B.bin j ≠ B.bin i):B.fixed av (i+1) k=if k=B.bin i then true else B.fixed av i k:=by
 by_cases e:k=B.bin i
 ·rw [if_pos e,e]; unfold fixed; rw [zLX inj,decide_eq_true (by omega:i<i+1),decide_eq_true h]; rfl
 ·rw [if_neg e];unfold fixed;by_cases h1:find B.bin k i<i
  ·have e:find B.bin k (i+1)=find B.bin k i:=(by simp [find,h1]);rw [e,decide_eq_true (by omega:find B.bin k i<i+1),decide_eq_true h1]
  ·have e:find B.bin k (i+1)=i+1:=(by simp [find,h1,Ne.symm e]);rw [e,decide_eq_false (by omega:¬ i+1<i+1),decide_eq_false h1,Bool.false_and,Bool.false_and]
theorem base_put (h:av i ≠ -1) (inj:∀ j,j<i->B.bin j ≠ B.bin i):B.base av (i+1) k=if k=B.bin i then (av i:Rat) else B.base av i k:=by
 unfold base;rw [fixed_put h inj];by_cases e:k=B.bin i
 ·rw [if_pos e,if_pos e,if_pos rfl,e,zLX inj]
 ·rw [if_neg e,if_neg e]
  split
  ·rename_i h1;have h1:find B.bin k i<i:=by unfold fixed at h1; simp at h1; exact h1.1
   have e:find B.bin k (i+1)=find B.bin k i:=(by simp [find,h1]);rw [e]
  ·rfl
theorem base_zero:B.base av 0 k=0:=by unfold base; rw [fixed_zero]; rfl
theorem base_sgn (hav:B.Av av) (hi:i<=B.nb):B.base av i k=0\/B.base av i k=1\/B.base av i k=-1:=by
 unfold base
 split
 ·rename_i h1;have h1:find B.bin k i<i:=by unfold fixed at h1; simp at h1; exact h1.1
  rcases hav (find B.bin k i) om with h | h | h <;> rw [h]
  ·exact .inr (.inr (by decide +kernel))
  ·exact .inl (by decide +kernel)
  ·exact .inr (.inl (by decide +kernel))
 ·exact .inl rfl
end Lin.BP
structure BinV where
 p:LPV
 bin:SV
def BinV.val (b:BinV):Value:=.agg #[.int .i64 b.p.n,b.p.O.val,b.p.R.val,b.p.B.val,b.bin.val]
structure BinIs (w:World) (B:Lin.BP) (s:SV):Prop where
 len:s.n=B.nb
 le:s.n<=s.c
 cap:s.c<=9223372036854775807
 cell:∀ k,k<B.nb->∃ ad,s.A=some ad/\w.cell? (ad.add k)=some (.int .i64 (B.bin k:Int))
structure AvIs (w:World) (nb:Nat) (av:Nat->Int) (s:SV):Prop where
 len:s.n=nb
 le:s.n<=s.c
 cap:s.c<=9223372036854775807
 cell:∀ k,k<nb->∃ ad,s.A=some ad/\w.cell? (ad.add k)=some (.int .i64 (av k))
theorem zML {B:Lin.BP} (h:av i ≠ -1) (inj:∀ j,j<i->B.bin j ≠ B.bin i):((List.range V).map (B.base av i)).set (B.bin i) (av i:Rat)=(List.range V).map (B.base av (i+1)):=by
 apply List.ext_getElem
 ·simp
 ·intro k h1 h2;simp only [List.getElem_set,List.getElem_map,List.getElem_range];rw [Lin.BP.base_put h inj];by_cases e:B.bin i=k
  ·rw [if_pos e,if_pos e.symm]
  ·rw [if_neg e,if_neg (Ne.symm e)]
theorem UM.start {bs:SV} {rf:Nat->Nat->Rat} (hb:Below w w W) (hd:w.heap.size<=d) (hk:W.heap[d]?=some (.cells #[V,bs.val,(),(),(),(),()] 186 (0,0))) (hv:VecIs W (fun b=>¬ b=d) (fun b=>¬ b=d) 1 bs base) :
  UM w d d V bs base [] [] [] 0 n L rf () () () () (fun y=>y=d) W:=by
 have e4:∀ f,1<=f->f<=4->four () () () () f = .slice none 0 0:=fun f h1 h2=>by
  rcases (by omega:f=1\/f=2\/f=3\/f=4) with rfl | rfl | rfl | rfl <;> rfl
 have no:∀ f j,1<=f->f<=4->(four () () () () f).ownBlock=some j->False:=fun f j h1 h2 h=>by rw [e4 f h1 h2] at h; cases h
 refine ⟨⟨hb,hk,fun f h1 h2=>?_,fun f g j _ h1 h2 _ _ h=>(no f j h1 h2 h).elim,fun f j h1 h2 h=>(no f j h1 h2 h).elim,fun x hx=>by subst hx; exact ⟨nlr _,zAa hk⟩,rfl,fun f j h1 h2 h=>(no f j h1 h2 h).elim,hd,nlr _⟩,hv,fun i hi=>by simp at hi,fun i j hi=>by simp at hi⟩;rcases (by omega:f=1\/f=2\/f=3\/f=4) with rfl | rfl | rfl | rfl <;> exact World.ownsRow_nil _ _ _ _
def BBu2 (w W2:World) (bk V n L:Nat) (base:List Rat) (rf:Nat->Nat->Rat) (p:Nat->Bool) (t:Value) (W:World):Prop:=
 ∃ (k:Nat) (vc vd:Value) (G:Nat->Prop),k<=V/\t = .int .i64 (k:Int)/\UM w (bk+1) (bk+1) V ⟨some ⟨bk,0,none⟩,V,V⟩ base [] [] (Lin.filt p k) (Lin.filt p k).length n L rf (.slice none 0 0) (.slice none 0 0) vc vd G W/\Step W2 W (fun y=>y=bk+1) G
namespace Lin
theorem zLK {p:Nat->Bool} {i:Nat} (hp:p i=true):∀ k,i<k->∃ tl,filt p k=filt p i++i :: tl:=by
 intro k
 induction k with
 | zero=>intro h; omega
 | succ k ih=>
  intro h;rw [zKI];by_cases e:i=k
  ·subst e; rw [if_pos hp]; exact ⟨[],rfl⟩
  ·obtain ⟨tl,e2⟩:=ih om
   split
   ·exact ⟨tl++[k],by rw [e2,List.append_assoc]; rfl⟩
   ·exact ⟨tl,e2⟩
theorem filt_at' {p:Nat->Bool} {i k:Nat} (hp:p i=true) (h:i<k):(filt p k).getD (filt p i).length 0=i:=by
 obtain ⟨tl,e⟩:=zLK hp k h;rw [e,gdd,List.getElem?_append_right (nlr _)];simp
end Lin
theorem zK2 (f:Nat->Nat) (h:i<m):((List.range m).map f).getD i 0=f i:=by
 rw [gdd]; simp [h]
theorem TB.names {x:TV} {bn' cn':Nat->Nat} {a:Nat->Nat->Rat} {g:Option (Nat->Rat)} (h:TB W G x V n m L base bn cn a lv g) (e1:∀ i,i<m->bn i=bn' i) (e2:∀ j,j<n->cn j=cn' j):TB W G x V n m L base bn' cn' a lv g:=
 {h with bas:=h.bas.congr fun i hi=>by rw [e1 i hi],cols:=h.cols.congr fun j hj=>by rw [e2 j hj]}
def BBu4 (w W2:World) (bk V n L:Nat) (B:Lin.BP) (av:Nat->Int) (rf:Nat->Nat->Rat) (lc:List Nat) (vc vd:Value) (t:Value) (W:World):Prop:=
 ∃ (i:Nat) (sr:List Nat) (va vb:Value) (G:Nat->Prop),i<=B.nb/\t = .int .i64 (i:Int)/\sr.length=B.M+(Lin.filt (fun j=>decide (av j=-1)) i).length/\UM w (bk+1) (bk+1) V ⟨some ⟨bk,0,none⟩,V,V⟩ ((List.range V).map (B.base av B.nb)) sr ((List.range sr.length).map (V+·)) lc n n L rf va vb vc vd G W/\Step W2 W (fun y=>y=bk+1) G
def BBuRet (w:World) (B:Lin.BP) (av:Nat->Int) (L:Nat) (e:Ending) (w':World):Prop:=
 ∃ (x:TV) (G:Nat->Prop),e = .returned (.pointer (some x.d))/\TD w' G x B.V (B.prob av).n (B.prob av).m L ((List.range B.V).map (B.base av B.nb)) (B.vn av) (B.prob av).start (fun _=>true) none/\(∀ y,G y->w.heap.size<=y)/\Below w w w'
structure BuK (B:Lin.BP) (av:Nat->Int) (L kd kq:Nat):Prop where
 f1:∀ i k,i<B.M->Lin.Fits kd (B.A i k*B.base av B.nb k)
 f2:∀ i,i<B.M->Lin.Fits kq (B.dot (B.A i) (B.base av B.nb))
 f3:∀ i,i<B.M->Lin.Fits kq (B.b i-B.dot (B.A i) (B.base av B.nb))
 l1:1000000*(kd+1)<32*LM
 l2:kq+1<=L
 l3:L<=LM
 l4:8<=L
def BBu3 (w W2:World) (bk V n L M:Nat) (base:List Rat) (rf:Nat->Nat->Rat) (lc:List Nat) (vc vd:Value) (t:Value) (W:World):Prop:=
 ∃ (k:Nat) (sr:List Nat) (va vb:Value) (G:Nat->Prop),k<=M/\t = .int .i64 (k:Int)/\sr.length=k/\UM w (bk+1) (bk+1) V ⟨some ⟨bk,0,none⟩,V,V⟩ base sr ((List.range k).map (V+·)) lc n n L rf va vb vc vd G W/\Step W2 W (fun y=>y=bk+1) G
theorem zNe {B:Lin.BP} {cl:List Rat} {rn:Nat} (hlen:cl.length=rn) (hrn:rn<=V) (hV:B.V=V) (hcl:∀ v,cl.getD v 0=f v):(Lin.sum (min rn V) fun v=>cl.getD v 0*((List.range V).map (B.base av B.nb)).getD v 0)=B.dot f (B.base av B.nb):=by
 unfold Lin.BP.dot;rw [hV,Nat.min_eq_left hrn,zME hrn fun v hv=>by rw [zAw cl v 0 om]; grind];exact Lin.zAh fun v hv=>by rw [hcl v,zAS _ _ om]
theorem zMM {B:Lin.BP} (h:RowAt W G b ((List.range V).map (B.base av B.nb))) (hav:B.Av av) (hV:V<=1000):VecIs W (fun x=>x=b) (fun x=>¬ G x) 1 ⟨some ⟨b,0,none⟩,V,V⟩ ((List.range V).map (B.base av B.nb)):=by
 have:=(h.vec (by simp; omega) V si om).loose (L:=1) fun v=>qfit01 (by
  by_cases hv:v<V
  ·rw [zAS _ _ hv]; exact Lin.BP.base_sgn hav (nlr _)
  ·rw [zAw _ _ _ (by simp; omega)]; exact .inl rfl)
 simpa using this
def BBu1 (W1:World) (bk V:Nat) (B:Lin.BP) (av:Nat->Int) (t:Value) (W:World):Prop:=
 ∃ i:Nat,i<=B.nb/\t = .int .i64 (i:Int)/\Arr W ⟨some ⟨bk+1+1,0,none⟩,V,V⟩ V 4 (fun k=>.bool (B.fixed av i k))/\RowAt W (fun y=>y=bk\/y=bk+1\/y=bk+1+1) bk ((List.range V).map (B.base av i))/\Fr (fun y=>y=bk\/y=bk+1+1) W1 W
theorem fixArr0 {B:Lin.BP} (h:W.heap[b]?=some (.cells (madeCells #[.bool false] V) 4 (0,0))) (hV:V<=1000):Arr W ⟨some ⟨b,0,none⟩,V,V⟩ V 4 (fun k=>.bool (B.fixed av 0 k)):=
 ⟨rfl,nlr _,by show V<=_; omega,.inr ⟨b,_,rfl,h,fun k hk=>by
  rw [Lin.BP.fixed_zero];simp [madeCells,hk,Nat.mod_one]⟩⟩
theorem zLt {b:BinV} {B:Lin.BP} (h:LPIs w X Y 8 b.p os rs bs) (hV:b.p.n=V) (eV:B.V=V) (hV2:V<=64) (hnb:B.nb<=64) (ok:B.Ok) (hav:B.Av av) (hb:BinIs w B b.bin) (ha:AvIs w B.nb av sa)
  (hrM:b.p.R.n=B.M) (hbM:b.p.B.n=B.M) (hM:B.M<=800) (hrl:∀ i,(rs.getD i []).length<=V) (hrs:∀ i k,i<B.M->(rs.getD i []).getD k 0=B.A i k) (hbs:∀ i,i<B.M->bs.getD i 0=B.b i) {kd kq:Nat} (hk:BuK B av L kd kq) :
  Calls Tryz.prog 72 #[b.val,.agg #[sa.val]] w (BBuRet w B av L):=by
 obtain ⟨⟨pn,⟨OA,On,Oc⟩,⟨RA,Rn,Rc⟩,⟨BA,Bn,Bc⟩⟩,⟨bA,bN,bC⟩⟩:=b;obtain ⟨aA,aN,aC⟩:=sa;dsimp only at hV;subst hV;have hmq:=zBZ V om;have hmb:=zMe V om;show Calls _ _ #[.agg #[.int .i64 V,.slice OA On Oc,.slice RA Rn Rc,.slice BA Bn Bc,.slice bA bN bC],.agg #[.slice aA aN aC]] _ _;go_enter Tryz.func72,Tryz.ntmps72
 go_upto_region 1 with fail
 have p0:((w.alloc (.cells #[.int .i64 V,.slice OA On Oc,.slice RA Rn Rc,.slice BA Bn Bc,.slice bA bN bC] 50)).alloc (.cells #[.slice aA aN aC] 116)).cell? w=some (.int .i64 V):=by go_simp
 obtain ⟨Wa,hWa⟩:∃ Wa,Wa=(w.alloc (.cells #[.int .i64 V,.slice OA On Oc,.slice RA Rn Rc,.slice BA Bn Bc,.slice bA bN bC] 50)).alloc (.cells #[.slice aA aN aC] 116):=⟨_,rfl⟩;have al0:Below w w Wa:=by rw [hWa]; exact (bal).alloc si _
 have pB:Wa.heap[w.heap.size]?=some (.cells #[.int .i64 V,.slice OA On Oc,.slice RA Rn Rc,.slice BA Bn Bc,.slice bA bN bC] 50 (0,0)):=by rw [hWa]; exact (Below.heap_alloc _ _ _ si).trans (zAd _ _ rfl)
 have pA:Wa.heap[w.heap.size+1]?=some (.cells #[.slice aA aN aC] 116 (0,0)):=by rw [hWa]; exact zAd _ _ si
 have sWa:Hid (Wa.heap.size=w.heap.size+2):=by show _=_; rw [hWa]; simp
 rw [<-hWa] at p0 ⊢;clear hWa;have pl:w.heap.size<Wa.heap.size:=zAa pB;refine zAp 1000 (fun _ w'=>w'.cell? w=some (.int .i64 (V:Int))) kj ?_;have hS0:Wa.drew.cell? w=some (.int .i64 (V:Int)):=p0;refine tx4 0 1 2 3 hS0 ?_;refine tx1 4 hS0 ?_;refine tx1 5 hS0 ?_;refine tk1 6 ?_;intro K hK;go_simp;have alq:Below Wa Wa (Wa.alloc (.cells (zeroQ V) 30)).drew:=(bal).drew;refine hK.out _ _ ((alq.cell (p:=w) pl).trans p0) ?_;clear hK K;refine tk1 7 ?_;intro K hK;go_simp;refine hK.out _ _ ((alq.cell (p:=w) pl).trans p0) ?_;clear hK K;refine tk1 8 ?_;intro K hK;go_simp;have alt:=alq.alloc (o:=.cells #[.int .i64 V,.slice (some Wa) V V,.slice none 0 0,.slice none 0 0,.slice none 0 0,.slice none 0 0,.slice none 0 0] 186) alq.size;refine hK.out _ _ ((alt.cell (p:=w) pl).trans p0) ?_;clear hK K;refine tk1 9 ?_;intro K hK;go_simp;refine hK.out _ _ ((alt.cell (p:=w) pl).trans p0) ?_;clear hK K;refine zAf kj ?_ _;have p4:Wa.cell? ⟨w.heap.size,4,none⟩=some (.slice bA bN bC):=by simp [World.cell?,pB]
 go_upto_region 3 with fail
 obtain ⟨bk,hbk⟩:∃ bk,bk=Wa.heap.size:=⟨_,rfl⟩;have e2:=sWa.out;have alw:Below bk Wa ((((Wa.alloc (.cells (zeroQ V) 30)).alloc (.cells #[.int .i64 V,.slice (some Wa) V V,.slice none 0 0,.slice none 0 0,.slice none 0 0,.slice none 0 0,.slice none 0 0] 186)).alloc (.cells (madeCells #[.bool false] V) 4)).drew):=by rw [hbk]; exact (((bal).alloc si _).alloc (by simp; omega) _).drew
 have qB:=(alw.block w om).trans pB;have qA:=(alw.block (w+1) om).trans pA
 have qR:RowAt ((((Wa.alloc (.cells (zeroQ V) 30)).alloc (.cells #[.int .i64 V,.slice (some Wa) V V,.slice none 0 0,.slice none 0 0,.slice none 0 0,.slice none 0 0,.slice none 0 0] 186)).alloc (.cells (madeCells #[.bool false] V) 4)).drew) (fun y=>y=bk\/y=bk+1\/y=bk+1+1) bk ((List.range V).map (B.base av 0)):=by
  have e:(List.range V).map (B.base av 0)=List.replicate V 0:=by
   apply List.ext_getElem
   ·simp
   ·intro i h1 h2; simp [Lin.BP.base_zero]
  rw [e];have:=RowAt.made Wa V (fun y=>y=bk\/y=bk+1\/y=bk+1+1) (.inl hbk.symm);rw [hbk] at this ⊢;exact this.below ((bal).alloc si _).drew
 have qD:((((Wa.alloc (.cells (zeroQ V) 30)).alloc (.cells #[.int .i64 V,.slice (some Wa) V V,.slice none 0 0,.slice none 0 0,.slice none 0 0,.slice none 0 0,.slice none 0 0] 186)).alloc (.cells (madeCells #[.bool false] V) 4)).drew).heap[bk+1]?=some (.cells #[.int .i64 V,.slice (some bk) V V,.slice none 0 0,.slice none 0 0,.slice none 0 0,.slice none 0 0,.slice none 0 0] 186 (0,0)):=by
  rw [hbk]; exact (Below.heap_alloc _ _ _ si).trans (zAd _ _ si)
 have qF:=fixArr0 (B:=B) (av:=av) (b:=bk+1+1) (V:=V) (W:=((((Wa.alloc (.cells (zeroQ V) 30)).alloc (.cells #[.int .i64 V,.slice (some Wa) V V,.slice none 0 0,.slice none 0 0,.slice none 0 0,.slice none 0 0,.slice none 0 0] 186)).alloc (.cells (madeCells #[.bool false] V) 4)).drew)) (by rw [hbk]; exact zAd _ _ si) om;have qs:((((Wa.alloc (.cells (zeroQ V) 30)).alloc (.cells #[.int .i64 V,.slice (some Wa) V V,.slice none 0 0,.slice none 0 0,.slice none 0 0,.slice none 0 0,.slice none 0 0] 186)).alloc (.cells (madeCells #[.bool false] V) 4)).drew).heap.size=bk+3:=by rw [hbk]; simp
 have qw:Below w w ((((Wa.alloc (.cells (zeroQ V) 30)).alloc (.cells #[.int .i64 V,.slice (some Wa) V V,.slice none 0 0,.slice none 0 0,.slice none 0 0,.slice none 0 0,.slice none 0 0] 186)).alloc (.cells (madeCells #[.bool false] V) 4)).drew):=al0.trans (alw.mono om);clear alw hS0 alq alt p0 p4 pB pA;rw [<-hbk] at *;generalize (((Wa.alloc (.cells (zeroQ V) 30)).alloc (.cells #[.int .i64 V,.slice (some bk) V V,.slice none 0 0,.slice none 0 0,.slice none 0 0,.slice none 0 0,.slice none 0 0] 186)).alloc (.cells (madeCells #[.bool false] V) 4)).drew=W1 at *;have HW2:Hid (bk=w.heap.size+2):=hdq om;have HW3:=hdq qs;clear hbk e2 sWa pl al0 qs hmq hmb;have hbn:bN=B.nb:=hb.len;have hbc:bN<=bC:=hb.le;have hbc2:bC<=9223372036854775807:=hb.cap;have HRS:Hid ((∀ i,(rs.getD i []).length<=V)/\(∀ i k,i<B.M->(rs.getD i []).getD k 0=B.A i k)/\(∀ i,i<B.M->bs.getD i 0=B.b i)):=⟨hrl,hrs,hbs⟩;have HKK:=hdq hk;dsimp only at hrM hbM;have hRc:=h.rows.le;have hRc2:=h.rows.cap;have hBc:=h.bounds.le;have hBc2:=h.bounds.cap;dsimp only at hRc hRc2 hBc hBc2;clear hrl hrs hbs hk;subst hrM;have HbM:=hdq hbM;have han:aN=B.nb:=ha.len;have hac:aN<=aC:=ha.le;have hac2:aC<=9223372036854775807:=ha.cap;subst hbn;subst han;have HB:=hdq hb;have HA:=hdq ha;have HLP:=hdq h;have HOK:=hdq ok;have HAV:=hdq hav;have HeV:=hdq eV;have p4:W1.cell? ⟨w.heap.size,4,none⟩=some (.slice bA B.nb bC):=by simp [World.cell?,qB]
 have HqB:=hdq qB;have HqA:=hdq qA;have HqD:=hdq qD;have H0:BBu1 W1 bk V B av (.int .i64 0) W1:=⟨0,nzl _,rfl,qF,qR,Fr.refl _ _⟩;clear qB qA qD qF qR hb ha h ok hav eV;go_wp2;go_loopw [30] (fun t W=>BBu1 W1 bk V B av t W) (fun t _=>B.nb-(intOf t).toNat)
 case atStart=>exact H0
 case round=>
  clear H0;obtain ⟨i,hi,rfl,hF,hR,hfr⟩:=hrel;have e2:=HW2.out;have e3:=HW3.out;have hsw:=hfr.size;have hbw:Below w w wr:=qw.trans (hfr.below om fun b hb=>om);by_cases hlt:i<B.nb
  ·have hki:(i:Int)<(B.nb:Int):=om;obtain ⟨adb,eb,cb⟩:=HB.out.cell i hlt;obtain ⟨ada,ea,ca⟩:=HA.out.cell i hlt;dsimp only at eb ea;subst eb;subst ea;have lb:=zAb cb;have la:=zAb ca;have cb:=(hbw.cell lb).trans cb;have ca:=(hbw.cell la).trans ca;have lb:adb.block<w:=by unfold Addr.add at lb; split at lb <;> exact lb
   have la:ada.block<w:=by unfold Addr.add at la; split at la <;> exact la
   have a0:wr.cell? ⟨w+1,0,none⟩=some (.slice (some ada) B.nb aC):=by
    rw [hfr.cell (by show w.heap.size+1<_; omega) (by show ¬ (w.heap.size+1=bk\/w.heap.size+1=bk+1+1); omega)];simp [World.cell?,HqA.out]
   have hlb:adb.block<wr:=om;have hla:ada.block<wr:=om;have hsl:w.heap.size+1<wr.heap.size:=om;by_cases hm:av i=-1
   ·rw [hm] at ca;have Hfin:Hid (BBu1 W1 bk V B av (.int .i64 ((i:Int)+1)) wr):=hdq ⟨i+1,om,si,hF.congr fun k _=>by rw [Lin.BP.fixed_no hm],by rw [show B.base av (i+1)=B.base av i from funext fun k=>Lin.BP.base_no hm]; exact hR,hfr⟩;clear hF hR hfr hbw e2 e3;go_wp2;go_roundw;case rel=>exact fn_ Hfin.out
    case measure=>simp [intOf]; omega
   ·have hv:B.bin i<V:=by have:=HOK.out.lt i hlt; have:=HeV.out; omega
    have hvi:(B.bin i:Int)<(V:Int):=om;have hv0:(0:Int)<=(B.bin i:Int):=om;have hne:¬ bk+1+1=w.heap.size+1:=om;have hrg:av i=0\/av i=1:=(HAV.out i hlt).resolve_left hm;have inj:∀ j,j<i->B.bin j ≠ B.bin i:=fun j hj e=>by have:=HOK.out.inc j i hj hlt; omega
    have Hst:=hdq (zML (V:=V) hm inj);have Hfx:Hid (∀ k,B.fixed av (i+1) k=if k=B.bin i then true else B.fixed av i k):=hdq fun k=>Lin.BP.fixed_put hm inj
    have hbl:=hR.lt
    have d1:wr.cell? ⟨bk+1,1,none⟩=some (.slice (some bk) V V):=by
     rw [hfr.cell (by show bk+1<_; omega) (by show ¬ (bk+1=bk\/bk+1=bk+1+1); omega)];simp [World.cell?,HqD.out]
    obtain ⟨gF,eF,f0,f1,f2⟩:=hF.elem hv;cases eF;have hm2:(av i != -1)=true:=(by simpa using hm);have hbk1:w.heap.size+1<bk:=om
    have hF2:=(hF.set (g:=bk+1+1) rfl (k:=B.bin i) (.bool true)).congr (f':=fun k=>.bool (B.fixed av (i+1) k)) fun k _=>by
     rw [Hfx.out k]; split <;> rfl
    have hR2:=hR.keep (w':=wr.setCell ⟨bk+1+1,B.bin i,none⟩ (.bool true)) (bhs _ _ _ _ (by show bk ≠ bk+1+1; omega)) fun p hp _=>World.cell?_setCell_far _ _ _ _ (fun e=>hp (.inr (.inr e.symm)))
    clear inj e2 e3 hsw hF hm;have b2:=(World.cell?_setCell_far wr ⟨bk+1+1,B.bin i,none⟩ ⟨w+1,0,none⟩ (.bool true) (by show bk+1+1 ≠ w.heap.size+1; omega)).trans a0;have d2:=(World.cell?_setCell_far wr ⟨bk+1+1,B.bin i,none⟩ ⟨bk+1,1,none⟩ (.bool true) (by show bk+1+1 ≠ bk+1; omega)).trans d1;have lai:(ada.add i).block<w:=by unfold Addr.add; split <;> exact la
    have c2:=(World.cell?_setCell_far wr ⟨bk+1+1,B.bin i,none⟩ (ada.add i) (.bool true) (by show bk+1+1 ≠ (ada.add i).block; omega)).trans ca;have hsz:wr.heap.size<=(wr.setCell ⟨bk+1+1,B.bin i,none⟩ (.bool true)).heap.size:=(by simp [World.setCell]);have hfr2:=hfr.set (p:=⟨bk+1+1,B.bin i,none⟩) (.inr rfl) (.bool true);(go_upto_region 8 with fail);clear hfr hbw a0 d1 ca f0 f1 hR;generalize wr.setCell ⟨bk+1+1,B.bin i,none⟩ (.bool true)=W2 at *;have n0:w.heap.size<=W2.heap.size:=om;have n1:w.heap.size+1<W2.heap.size:=om;have n2:bk+1<W2.heap.size:=om;have n3:(ada.add i).block<W2:=om;have n4:¬ (w.heap.size+1=bk):=om;have n5:¬ ((ada.add i).block=bk):=om;have n6:¬ (bk+1=bk):=om;have hb2:bk<W2.heap.size:=om;have fz:=hR2.frozen;obtain ⟨u2,⟨q0,q1,q2,q3⟩,-⟩:=hR2.elem (B.bin i) (by simpa using hv);dsimp only at q1 q2 q3;have Hr1:Hid (-9223372036854775808<=av i):=hdq om;have Hr2:Hid (av i<=9223372036854775807):=hdq om;clear hrg
    go_region_held3 (Sees w [bk] W2) (exact kp)
     (first
      | (go_at_call 44; ((with_reducible refine (zAN (av i) Hr1.out Hr2.out _).mono ?_); rintro e w3 ⟨⟨y,rfl,hy⟩,hb3⟩))
      | fail)
    rename_i hS;have h23:Below W2 W2 w3:=(brf _ W2).drew.trans hb3
    have Hfin:Hid (BBu1 W1 bk V B av (.int .i64 ((i:Int)+1)) (put4 w3 bk (B.bin i) y)):=hdq ⟨i+1,om,si,(hF2.below h23).keep fun g e _=>zAx _ _ _ _ (by cases e; omega),by
     rw [<-Hst.out];exact (hR2.below h23).put4 (by simpa using hv) (hy.imp fun b _ hb hg=>by simp only [New,World.size_drew] at hb; rcases hg with h | h | h <;> omega),(hfr2.call h23).put4 (.inl rfl) _ _⟩
    clear hS hy hb3 h23 q0 q1 q2 q3 fz hF2 hR2 hfr2 b2 c2 d2;go_wp2;go_roundw;case rel=>exact fn_ Hfin.out
    case measure=>simp [intOf]; omega
  ·(obtain rfl:i=B.nb:=om);have gB:wr.heap[w.heap.size]?=_:=(hfr.block _ om om).trans HqB.out;have gA:wr.heap[w.heap.size+1]?=_:=(hfr.block _ om om).trans HqA.out;have gD:wr.heap[bk+1]?=_:=(hfr.block _ om om).trans HqD.out;have hvb:=zMM hR HAV.out om;obtain ⟨n,Hn⟩:∃ n,Hid (n=(B.prob av).n):=⟨_,hdq rfl⟩;obtain ⟨rf,Hrf⟩:∃ rf,Hid (rf=(B.prob av).start.a):=⟨_,hdq rfl⟩;have hU0:=UM.start (n:=n) (L:=L) (rf:=rf) (bs:=⟨some ⟨bk,0,none⟩,V,V⟩) hbw om gD (hvb.imp (fun b _ h=>om) fun _ _ hq=>hq.imp fun b _ h h'=>h (.inr (.inl h')));have H2:BBu2 w wr bk V n L ((List.range V).map (B.base av B.nb)) rf (fun v=>! B.fixed av B.nb v) (.int .i64 0) wr:=⟨0,_,_,_,nzl _,rfl,hU0,Step.refl _ _⟩;have p0:wr.cell? w=some (.int .i64 (V:Int)):=(by simp [World.cell?,gB]);have HgB:=hdq gB;have HgA:=hdq gA;have HF:=hdq hF;have HBw:=hdq hbw;have HE2:=hdq e2;have hsz:bk+1+1<wr.heap.size:=om;have hb1:w.heap.size+1<bk:=om;clear gB gA gD hvb hU0 hF hR hbw e2 e3 hsw hfr HW2 HW3 HqB HqA HqD p4 qw hi;go_wp2;generalize wr=W2 at *;(go_loopw [60] (fun t W=>BBu2 w W2 bk V n L ((List.range V).map (B.base av B.nb)) rf (fun v=>! B.fixed av B.nb v) t W) (fun t _=>V-(intOf t).toNat));case atStart=>exact H2
   case round=>
    clear H2;obtain ⟨k,vc,vd,G,hk,rfl,hU,hst⟩:=hrel;by_cases hlt2:k<V
    ·have hki:(k:Int)<(V:Int):=om;have hk0:(0:Int)<=(k:Int):=om;obtain ⟨gF,eF,f0,f1,f2⟩:=(HF.out.keep fun g e _=>hst.keep g (by cases e; exact hsz) (by cases e; omega)).elem hlt2;cases eF;obtain ⟨lc,Hlc⟩:∃ lc,Hid (lc=Lin.filt (fun v=>! B.fixed av B.nb v) k):=⟨_,hdq rfl⟩;rw [<-Hlc.out] at hU;have hfs:=Lin.zKI (fun v=>! B.fixed av B.nb v) k;rw [<-Hlc.out] at hfs
     cases hfx:B.fixed av B.nb k with
     | true=>
      rw [hfx] at f0 hfs;rw [if_neg dj] at hfs;have Hfin:Hid (BBu2 w W2 bk V n L ((List.range V).map (B.base av B.nb)) rf (fun v=>! B.fixed av B.nb v) (.int .i64 ((k:Int)+1)) wr):=hdq ⟨k+1,vc,vd,G,om,si,by rw [hfs]; exact hU,hst⟩;clear hU hst hfs;go_wp2;go_roundw;case rel=>exact fn_ Hfin.out
      case measure=>simp [intOf]; omega
     | false=>
      obtain ⟨i0,hiI,hz0,hz1,hz2⟩:=info_parts zG1;obtain ⟨j0,hj,hy0,hy1,hy2⟩:=info_parts zLw;rw [hfx] at f0 hfs;rw [if_pos dj] at hfs
      have hll:lc.length<=k:=by
       rw [Hlc.out]; unfold Lin.filt
       exact nlt (List.length_filter_le _ _) si
      have o3:=hU.pt.own 3 om om;rw [show four (.slice none 0 0) (.slice none 0 0) vc vd 3=vc from rfl,show uft 3=3 from rfl,show ucnt ([]:List Nat).length ([]:List Nat).length lc.length lc.length 3=lc.length from rfl,show ulists [] n [] lc lc.length 3=iv lc from rfl] at o3;obtain ⟨c0,c1,c2,c3,c4,c5,c6,cf⟩:=hU.pt.cells;have hdl:=hU.pt.dlt;have HO3:=hdq o3;have HU:=hdq hU;have Hst:=hdq hst;have Hfs:=hdq hfs;clear hU hst hfs o3 c0 c1 c2 c3 c5 c6;(go_wp2_with (at_builtin; refine wpList_append_own_at _ rfl _ _ 48 rfl (bk+1) 3 i0 (.int .i64 0) 1 8 Tryz.underlying48 hiI hz0 hz1 hz2 rfl dj vc lc.length (iv lc) rfl (HO3.out.alloc _) ⟨wr,0,none⟩ 1 1 [.int .i64 (k:Int)] rfl rfl ?cells ?one ?b1 ?b2 ?b3 ?_));case cells=>exact cell_one_new _ _ _
      case one=>intro u hu; simp at hu; subst hu; rfl
      case b1=>simp [maxLen]; omega
      case b2=>omega
      case b3=>simp; omega
      intro v' W5 hown5 hg5 hnil5 hat5;obtain ⟨g5,c5',rfl⟩:=ownsRow_succ hown5;have kd:=HU.out.pt.app_blk (f:=3) (x:=bk+1) om om hg5 hdl (.inr rfl);have y4:=(cob (a:=⟨bk+1,4,none⟩) kd).trans c4;have yf:∀ o,W5.frozen? ⟨bk+1,o,none⟩=false:=(fun o=>(World.frozen?_of_block (a:=⟨bk+1,o,none⟩) kd).trans (cf o));have HU5:=hdq (HU.out.addC hown5 hg5 (hat5.imp id fun e=>by rw [e]; simp));have HS5:=hdq (Hst.out.trans (HU.out.pt.append (f:=3) (xs:=[.int .i64 (k:Int)]) om om hown5 hg5 (hat5.imp id fun e=>by rw [e]; simp)).2);clear hown5 hg5 hnil5 hat5 kd c4 cf HU Hst HO3;(go_upto_region 15 with fail);clear y4 yf;obtain ⟨G6,hG6⟩:∃ G6:Nat->Prop,Hid (G6=fun y=>G y\/(Value.slice (some g5) (lc.length+1) c5').ownBlock=some y):=⟨_,hdq rfl⟩;have hU6:=HU5.out;have hS6:=HS5.out;rw [<-hG6.out] at hU6 hS6;clear HU5 HS5 hG6;generalize W5.setCell ⟨bk+1,4,none⟩ (.slice (some g5) (lc.length+1) c5')=W6 at *;obtain ⟨c0,c1,c2,c3,c4,c5,c6,cf⟩:=hU6.pt.cells;have o4:=hU6.pt.own 4 om om;rw [show four (.slice none 0 0) (.slice none 0 0) (Value.slice (some g5) (lc.length+1) c5') vd 4=vd from rfl,show uft 4=4 from rfl,show ucnt ([]:List Nat).length ([]:List Nat).length (lc++[k]).length lc.length 4=lc.length from rfl,show ulists [] n [] (lc++[k]) lc.length 4=List.replicate lc.length (.bool true) from rfl] at o4;have hd6:=hU6.pt.dlt;have HO4:=hdq o4;have HU6:=hdq hU6;have HS6:=hdq hS6;clear hU6 hS6 o4 c0 c1 c2 c3 c4 c6;(go_wp2_with (at_builtin; refine wpList_append_own_at _ rfl _ _ 57 rfl (bk+1) 4 j0 (.bool false) 1 1 Tryz.underlying57 hj hy0 hy1 hy2 rfl dj vd lc.length (List.replicate lc.length (.bool true)) rfl (HO4.out.alloc _) ⟨W6,0,none⟩ 1 1 [.bool true] rfl rfl ?cells2 ?one2 ?b12 ?b22 ?b32 ?_));case cells2=>exact cell_one_new _ _ _
      case one2=>intro u hu; simp at hu; subst hu; rfl
      case b12=>simp [maxLen]; omega
      case b22=>omega
      case b32=>simp; omega
      intro v' W7 hown7 hg7 hnil7 hat7;obtain ⟨g7,c7,rfl⟩:=ownsRow_succ hown7;have kd:=HU6.out.pt.app_blk (f:=4) (x:=bk+1) om om hg7 hd6 (.inr rfl);have y5:=(cob (a:=⟨bk+1,5,none⟩) kd).trans c5;have yf:∀ o,W7.frozen? ⟨bk+1,o,none⟩=false:=(fun o=>(World.frozen?_of_block (a:=⟨bk+1,o,none⟩) kd).trans (cf o));have HU7:=hdq (HU6.out.addL hown7 hg7 (hat7.imp id fun e=>by rw [e]; simp));have HS7:=hdq (HS6.out.trans (HU6.out.pt.append (f:=4) (xs:=[.bool true]) om om hown7 hg7 (hat7.imp id fun e=>by rw [e]; simp)).2);clear hown7 hg7 hnil7 hat7 kd c5 cf HU6 HS6 HO4;have Hfin:Hid (BBu2 w W2 bk V n L ((List.range V).map (B.base av B.nb)) rf (fun v=>! B.fixed av B.nb v) (.int .i64 ((k:Int)+1)) (W7.setCell ⟨bk+1,5,none⟩ (.slice (some g7) (lc.length+1) c7))):=hdq ⟨k+1,_,_,_,om,si,by rw [Hfs.out,List.length_append,List.length_singleton]; exact HU7.out,HS7.out⟩;clear HU7 HS7;go_wp2;go_roundw;case rel=>exact fn_ Hfin.out
      case measure=>simp [intOf]; omega
    ·(obtain rfl:V=k:=om);obtain ⟨lc,Hlc⟩:∃ lc,Hid (lc=B.cols av):=⟨_,hdq rfl⟩;have ee:Lin.filt (fun v=>! B.fixed av B.nb v) V=lc:=by rw [Hlc.out]; unfold Lin.BP.cols; rw [HeV.out]
     have eln:lc.length=n:=by rw [Hlc.out,Hn.out]; rfl
     rw [ee,eln] at hU;have Hln:=hdq eln;have hst':=hst
     have r2:wr.cell? ⟨w.heap.size,2,none⟩=some (.slice RA B.M Rc):=by
      rw [hst.cell (by show w.heap.size<_; omega) (by show ¬ (w.heap.size=bk+1); omega)];simp [World.cell?,HgB.out]
     have H3:BBu3 w W2 bk V n L B.M ((List.range V).map (B.base av B.nb)) rf lc vc vd (.int .i64 0) wr:=⟨0,[],_,_,G,nzl _,rfl,rfl,hU,hst⟩;clear hU hst hst' ee eln hlt2 hk;go_wp2;clear r2 p0;generalize wr=W3 at *;(go_loopw [92] (fun t W=>BBu3 w W2 bk V n L B.M ((List.range V).map (B.base av B.nb)) rf lc vc vd t W) (fun t _=>B.M-(intOf t).toNat));case atStart=>exact H3
     case round=>
      clear H3;obtain ⟨k,sr,va,vb,G3,hk,rfl,hsr,hU,hst⟩:=hrel;by_cases hlt3:k<B.M
      ·have hki:(k:Int)<(B.M:Int):=om;have hbw:=hU.pt.bel;obtain ⟨adr,⟨rA,rn,rc⟩,er,-,cr,hr⟩:=HLP.out.rows.row k hlt3;dsimp only at er;subst er;have hnB:Bn=B.M:=HbM.out;obtain ⟨adq,q,eq,-,cq,hq⟩:=HLP.out.bounds.elem k (by show k<Bn; omega);dsimp only at eq;subst eq;have hrlen:(rs.getD k []).length=rn:=hr.len;have hrnV:rn<=V:=by have:=HRS.out.1 k; omega
       have lr:=zAb cr;have cr:=(hbw.cell lr).trans cr;have lr:adr.block<w:=by unfold Addr.add at lr; split at lr <;> exact lr
       have hlr:adr.block<wr:=by have:=hbw.size; omega
       dsimp only [SV.val] at cr;have lq:=zAb cq.1;(obtain ⟨z0,z1,z2,z3⟩:=cq.keep (w':=wr) fun a e hl=>hbw.cell (by rw [e]; exact hl));have hwB:¬ (w.heap.size=bk+1):=om
       have b3:wr.cell? ⟨w.heap.size,3,none⟩=some (.slice (some adq) Bn Bc):=by
        rw [hst.cell (by show w.heap.size<_; omega) hwB];simp [World.cell?,HgB.out]
       have d1:wr.cell? ⟨bk+1,1,none⟩=some (.slice (some bk) V V):=hU.pt.cells.2.1;have hdl:=hU.pt.dlt;have hwl:w.heap.size<wr.heap.size:=om;have hkB:k<Bn:=om;have hkBi:(k:Int)<(Bn:Int):=om;have hk0:(0:Int)<=(k:Int):=om;have HU:=hdq hU;have Hst:=hdq hst;have Hsr:=hdq hsr;have Hr:Hid (VecIs w X (fun b=>b<w.heap.size) 8 ⟨rA,rn,rc⟩ (rs.getD k [])):=hdq (hr.imp (fun _ _ h=>h) fun _ _ hq=>hq.imp fun b hl _=>hl);have Hq:Hid (QIs w (fun b=>b<w.heap.size) 8 q (bs.getD k 0)):=hdq (hq.imp fun b hl _=>hl);have Hrl:=hdq hrlen;clear hU hst hsr hr hq hrlen hbM hnB hwB;(go_upto_region 20 with fail);refine zAp 1000 (fun _ w'=>w'.cell? ⟨w.heap.size,3,none⟩=some (.slice (some adq) Bn Bc)/\w'.cell? ⟨bk+1,1,none⟩=some (.slice (some bk) V V)/\QCell w' (adq.add (k*4)) q) kj ?_;have hS0:wr.drew.cell? ⟨w.heap.size,3,none⟩=some (.slice (some adq) Bn Bc)/\wr.drew.cell? ⟨bk+1,1,none⟩=some (.slice (some bk) V V)/\QCell wr.drew (adq.add (k*4)) q:=⟨b3,d1,z0,z1,z2,z3⟩;refine tx4 0 1 2 3 hS0 ?_;refine tx1 4 hS0 ?_;refine tx1 5 hS0 ?_;refine tx1 6 hS0 ?_;refine tkE 7 (.agg #[.bool q.num.ng,.slice q.num.A q.num.n q.num.c,.bool q.den.ng,.slice q.den.A q.den.n q.den.c]) (fun w' hSw=>?_) (hS0) ?_
       ·obtain ⟨_,x1,x2,x3,x4,x5,x6⟩:=hSw; go_simp
       simp only [zz];refine tx4 8 9 10 11 hS0 ?_;refine tx1 12 hS0 ?_;have hl6:8<=LM:=nlt HKK.out.l4 HKK.out.l3;have hlq:kq+1<=LM:=nlt HKK.out.l2 HKK.out.l3;have HL:=hdq hl6;have HLq:=hdq hlq;clear hl6 hlq
       have hfk:∀ j,Lin.Fits kd ((rs.getD k []).getD j 0*((List.range V).map (B.base av B.nb)).getD j 0):=fun j=>by
        rw [HRS.out.2.1 k j hlt3];by_cases hj:j<V
        ·rw [zAS _ _ hj]; exact HKK.out.f1 k j hlt3
        ·rw [zAw _ _ _ (by simp; omega),Rat.mul_zero]; exact Lin.Fits.zero _
       have Hfk:=hdq hfk;clear hfk;refine tk1 13 ?_;intro K hK;go_simp;have hdr:Below wr wr wr.drew:=(brf _ _).drew;refine (zEb (kb:=kd) (sa:=⟨rA,rn,rc⟩) (sb:=⟨some ⟨bk,0,none⟩,V,V⟩) ((Hr.out.below HU.out.pt.bel).below hdr) (HU.out.base.below hdr) HL.out (by have:=HL.out; omega) (by show rn<=_; omega) HKK.out.l1 Hfk.out).mono ?_;rintro e w1 ⟨⟨z,rfl,hz⟩,hb1⟩;rw [zNe Hrl.out hrnV HeV.out fun v=>HRS.out.2.1 k v hlt3] at hz;have h01:=hdr.trans hb1;refine hK.out _ _ ⟨(h01.cell (p:=⟨w.heap.size,3,none⟩) hwl).trans b3,(h01.cell (p:=⟨bk+1,1,none⟩) hdl).trans d1,QCell.keep ⟨z0,z1,z2,z3⟩ fun a e hl=>h01.cell (by rw [e]; exact hl)⟩ ?_;clear hK K;refine tk1 14 ?_;intro K hK;go_simp;refine (zDx (a:=q) (b:=z) ((Hq.out.below HU.out.pt.bel).below h01) (hz.qis (zAv (HKK.out.f2 k hlt3))) HL.out HLq.out).mono ?_;rintro e w2 ⟨⟨s,rfl,hs⟩,hb2⟩;have h02:=h01.trans (hb2.mono h01.size);refine hK.out _ _ ⟨(h02.cell (p:=⟨w.heap.size,3,none⟩) hwl).trans b3,(h02.cell (p:=⟨bk+1,1,none⟩) hdl).trans d1,QCell.keep ⟨z0,z1,z2,z3⟩ fun a e hl=>h02.cell (by rw [e]; exact hl)⟩ ?_;clear hK K;rw [HRS.out.2.2 k hlt3] at hs;refine tk1 15 ?_;intro K hK;go_simp;have hU2:=HU.out.call h02;have hGl:∀ y,G3 y->bk+1<=y/\y<wr.heap.size:=(fun y hy=>HU.out.pt.gin y hy);have hsz1:=h01.size
       refine (zLd (Lr:=8) (Lm:=kq+1) (s:=⟨rA,rn,rc⟩) (rl:=rs.getD k []) (most:=B.b k-B.dot (B.A k) (B.base av B.nb)) hU2 Hln.out (by rw [List.length_map,List.length_range]; exact Hsr.out.symm) ((Hr.out.below HU.out.pt.bel).below h02) (fun y hy hg=>by have:=(hGl y hg).1; omega) (hs.qis (zAv (HKK.out.f3 k hlt3))) (fun y hy hg=>by have:=(hGl y hg).2; simp only [New] at hy; omega) HKK.out.l4 HKK.out.l2 (nlt dj HKK.out.l4)
        (fun j hj=>by
         rw [Hrf.out,Hsr.out,HRS.out.2.1 k _ hlt3];show (if j<(B.prob av).n then (B.prob av).A k j else _)=_;rw [if_pos (by rw [<-Hn.out]; exact hj)];show (if k<B.M then B.A k (B.cl av j) else _)=_;rw [if_pos hlt3]; unfold Lin.BP.cl; rw [<-Hlc.out])
        (by
         rw [Hrf.out,Hsr.out];show (if n<(B.prob av).n then _ else (B.prob av).b k)=_;rw [if_neg (by rw [<-Hn.out]; omega)];show (if k<B.M then _ else _)=_;rw [if_pos hlt3])
        (by have:=Hsr.out; omega) om (by
         have:=Hln.out; rw [<-this,Hlc.out]; exact nlt (List.length_filter_le _ _) (by rw [List.length_range,HeV.out]; omega)) (fun j hj=>by
         rw [Hlc.out];have:=(Lin.BP.cl_lt (B:=B) (av:=av) (j:=j) (by rw [<-Hlc.out,Hln.out]; exact hj)).1;unfold Lin.BP.cl at this;have e:=HeV.out;omega)).mono ?_
       rintro e w5 ⟨⟨v,rfl⟩,va',vb',b,x,G4,hx,hU5,hst5⟩;have hgB:¬ G3 w.heap.size:=fun hg=>by have:=(hGl _ hg).1; omega
       have hs2:=h02.size;have hgq:¬ G3 (adq.add (k*4)).block:=fun hg=>by have:=(hGl _ hg).1; omega
       have t3:=(hst5.cell (a:=⟨w.heap.size,3,none⟩) (by show w.heap.size<_; omega) hgB).trans ((h02.cell (p:=⟨w.heap.size,3,none⟩) hwl).trans b3);refine hK.out _ _ ⟨t3,hU5.pt.cells.2.1,QCell.keep (QCell.keep ⟨z0,z1,z2,z3⟩ fun a e hl=>h02.cell (by rw [e]; exact hl)) fun a e hl=>hst5.cell (by rw [e]; exact hl) (by rw [e]; exact hgq)⟩ ?_;clear hK K;refine zAf kj ?_ _
       have Hfin:Hid (BBu3 w W2 bk V n L B.M ((List.range V).map (B.base av B.nb)) rf lc vc vd (.int .i64 ((k:Int)+1)) w5):=hdq ⟨k+1,sr++[b],va',vb',G4,om,si,by rw [List.length_append,Hsr.out]; rfl,by
        rw [List.range_succ,List.map_append,List.map_singleton];rw [hx,Hsr.out] at hU5;exact hU5,(Hst.out.trans (Step.below _ h02)).trans hst5⟩
       clear hU5 hst5 hU2 hs hz hb1 hb2 h01 h02 hS0 t3 hdr b3 d1 z0 z1 z2 z3 hx;go_wp2;go_roundw;case rel=>exact fn_ Hfin.out
       case measure=>simp [intOf]; omega
      ·(obtain rfl:k=B.M:=om);have hwB:¬ (w.heap.size=bk+1):=om;have hwl:w.heap.size<W2.heap.size:=om
       have p4:wr.cell? ⟨w.heap.size,4,none⟩=some (.slice bA B.nb bC):=by
        rw [hst.cell hwl hwB];simp [World.cell?,HgB.out]
       rw [<-hsr] at hU;have H4:BBu4 w W2 bk V n L B av rf lc vc vd (.int .i64 0) wr:=⟨0,sr,va,vb,G3,nzl _,rfl,by rw [hsr]; rfl,hU,hst⟩;clear hU hst hsr hlt3 hk;go_wp2;clear p4;generalize wr=W4 at *;(go_loopw [117] (fun t W=>BBu4 w W2 bk V n L B av rf lc vc vd t W) (fun t _=>B.nb-(intOf t).toNat));case atStart=>exact H4
       case round=>
        clear H4;obtain ⟨i,sr,va,vb,G4,hi,rfl,hsr,hU,hst⟩:=hrel;by_cases hlt4:i<B.nb
        ·have hki:(i:Int)<(B.nb:Int):=om;have hbw:=hU.pt.bel;obtain ⟨adb,eb,cb⟩:=HB.out.cell i hlt4;obtain ⟨ada,ea,ca⟩:=HA.out.cell i hlt4;dsimp only at eb ea;subst eb;subst ea;have lb:=zAb cb;have la:=zAb ca;have cb:=(hbw.cell lb).trans cb;have ca:=(hbw.cell la).trans ca
         have a0:wr.cell? ⟨w+1,0,none⟩=some (.slice (some ada) B.nb aC):=by
          rw [hst.cell (by show w.heap.size+1<_; omega) (by show ¬ (w.heap.size+1=bk+1); omega)];simp [World.cell?,HgA.out]
         have b0:wr.cell? w=some (.int .i64 (V:Int)):=by
          rw [hst.cell hwl hwB];simp [World.cell?,HgB.out]
         have hfs:=Lin.zKI (fun j=>decide (av j=-1)) i;by_cases hm:av i=-1
         ·rw [hm] at ca;rw [if_pos (by simpa using hm)] at hfs;have HU:=hdq hU;have Hst:=hdq hst;have Hsr:=hdq hsr;have Hfs:=hdq hfs;have Hm:=hdq hm;have hbi:B.bin i<V:=by have:=HOK.out.lt i hlt4; have:=HeV.out; omega
          have Hlen:Hid ((Lin.filt (fun j=>decide (av j=-1)) i).length<=64):=hdq (nlt (List.length_filter_le _ _) (by simp; omega));clear hU hst hsr hfs hm hbw;(go_wp2_with fail);refine (zLf V (B.bin i) om om om).mono ?_;rintro e w1 ⟨⟨rfl,hR⟩,hb1⟩;have HR:=hdq hR;clear hR;(go_wp2_with fail);refine (zAN 1 dj dj _).mono ?_;rintro e w2 ⟨⟨y,rfl,hy⟩,hb2⟩;have h02:=hb1.trans (hb2.mono hb1.size);have hGl:∀ y,G4 y->bk+1<=y/\y<wr.heap.size:=(fun y hy=>HU.out.pt.gin y hy);have hs1:=hb1.size;have Hy:=hdq hy;clear hy;go_wp2_with fail
          refine (zLd (Lr:=1) (Lm:=1) (s:=⟨some ⟨wr,0,none⟩,V,V⟩) (rl:=uL V (B.bin i)) (most:=1) (HU.out.call h02) Hln.out (by rw [List.length_map,List.length_range]) ((zL4 HR.out om).below hb2) (fun y hy hg=>hy (.inl (hGl y hg).2)) (Hy.out.qis (qfit01 (.inr (.inl (by decide +kernel))))) (fun y hy hg=>by have:=(hGl y hg).2; simp only [New] at hy; omega) (nlt dj HKK.out.l4) (nlt dj HKK.out.l4) (nlt dj HKK.out.l4)
           (fun j hj=>by
            rw [Hrf.out,Hsr.out,zMF];show (if j<(B.prob av).n then (B.prob av).A _ j else _)=_;rw [if_pos (by rw [<-Hn.out]; exact hj)];show (if B.M+(Lin.filt (fun j=>decide (av j=-1)) i).length<B.M then _ else if B.cl av j=B.bin ((B.und av).getD (B.M+(Lin.filt (fun j=>decide (av j=-1)) i).length-B.M) 0) then (1:Rat) else 0)=_;rw [if_neg om,Nat.add_sub_cancel_left];unfold Lin.BP.und;rw [Lin.filt_at' (by simpa using Hm.out) hlt4];have h1:=(Lin.BP.cl_lt (B:=B) (av:=av) (j:=j) (by rw [<-Hlc.out,Hln.out]; exact hj)).1;have e:=HeV.out;rw [e] at h1;unfold Lin.BP.cl at h1 ⊢;rw [<-Hlc.out] at h1 ⊢;by_cases hc:lc.getD j 0=B.bin i
            ·rw [if_pos hc,if_pos ⟨h1,hc⟩]
            ·rw [if_neg hc,if_neg fun h=>hc h.2])
           (by
            rw [Hrf.out,Hsr.out];show (if n<(B.prob av).n then _ else (B.prob av).b _)=_;rw [if_neg (by rw [<-Hn.out]; omega)];show (if B.M+(Lin.filt (fun j=>decide (av j=-1)) i).length<B.M then _ else _)=_;rw [if_neg om])
           (by have:=Hsr.out; have:=Hlen.out; omega) om (by
            have:=Hln.out; rw [<-this,Hlc.out]; exact nlt (List.length_filter_le _ _) (by rw [List.length_range,HeV.out]; omega)) (fun j hj=>by
            rw [Hlc.out];have:=(Lin.BP.cl_lt (B:=B) (av:=av) (j:=j) (by rw [<-Hlc.out,Hln.out]; exact hj)).1;unfold Lin.BP.cl at this;have e:=HeV.out;omega)).mono ?_
          rintro e w5 ⟨⟨v,rfl⟩,va',vb',b,x,G5,hx,hU5,hst5⟩
          have Hfin:Hid (BBu4 w W2 bk V n L B av rf lc vc vd (.int .i64 ((i:Int)+1)) w5):=hdq ⟨i+1,sr++[b],va',vb',G5,om,si,by rw [List.length_append,Hsr.out,Hfs.out,List.length_append]; rfl,by
           rw [List.length_append,List.length_singleton,List.range_succ,List.map_append,List.map_singleton,<-hx];exact hU5,(Hst.out.trans (Step.below _ h02)).trans hst5⟩
          clear hU5 hst5 hb1 hb2 h02 hx Hy HR HU Hst Hsr Hfs b0 a0 ca cb;go_wp2;go_roundw;case rel=>exact fn_ Hfin.out
          case measure=>simp [intOf]; omega
         ·have hm2:(av i == -1)=false:=(by simpa using hm);rw [if_neg (by simpa using hm)] at hfs;have Hfin:Hid (BBu4 w W2 bk V n L B av rf lc vc vd (.int .i64 ((i:Int)+1)) wr):=hdq ⟨i+1,sr,va,vb,G4,om,si,by rw [hfs]; exact hsr,hU,hst⟩;clear hU hst hsr hfs hm hbw;go_wp2;go_roundw;case rel=>exact fn_ Hfin.out
          case measure=>simp [intOf]; omega
        ·obtain rfl:i=B.nb:=om
         have Hfin:Hid (BBuRet w B av L (.returned (.pointer (some ⟨bk+1,0,none⟩))) wr):=by
          have hm:sr.length=(B.prob av).m:=hsr
          obtain ⟨x,hxd,-,hT⟩:=hU.tb (m:=(B.prob av).m) Hln.out rfl (by rw [List.length_map,List.length_range]; exact hm) hm (by
           have:=Hln.out; rw [<-this,Hlc.out]; exact nlt (List.length_filter_le _ _) (by rw [List.length_range,HeV.out]; omega))
          refine ⟨x,G4,by rw [hxd],?_,fun y hy=>by have:=(hU.pt.gin y hy).1; omega,hU.pt.bel⟩;rw [Hn.out,Hrf.out] at hT;rw [HeV.out];refine hT.names (fun i hi=>?_) fun j hj=>?_
          ·rw [zK2 _ (by rw [hm]; exact hi)];show _=B.vn av ((B.prob av).n+i);unfold Lin.BP.vn;rw [if_neg (by show ¬ (B.cols av).length+i<_; omega),HeV.out];show V+i=V+((B.cols av).length+i-(B.cols av).length);omega
          ·show _=B.vn av j;unfold Lin.BP.vn;rw [if_pos (show j<(B.cols av).length from hj)]; unfold Lin.BP.cl; rw [Hlc.out]
         clear hU hst hsr hi;go_wp2;go_ret;exact Hfin.out
open Go.RowKit Go.Shelf Go.Deep Go.Joins
open Go.ChangeShapes Go.WideShapes Go.ChangeAt
set_option maxRecDepth 100000
section
variable {H:Type} {enc:TypeId × Value->H} {w:World} {spare:Nat->Bool} {held:Bool} {fuel:Nat} {cs:List Value} {x:DataW H × List MemPlace}
theorem cbin:Tryz.prog.cellsOf 48=1/\Tryz.prog.cellsOf 50=5:=⟨kj,kj⟩
theorem list5 {α:Type} {cs:List α} (h:cs.length=5):∃ c0 c1 c2 c3 c4,cs=[c0,c1,c2,c3,c4]:=by
 match cs,h with
 | [c0,c1,c2,c3,c4],_=>exact ⟨c0,c1,c2,c3,c4,rfl⟩
theorem zOh (h:DataW.trod enc Tryz.prog w 0 spare held fuel 48 cs=some x):∃ (s:SV) (zs:List Int),cs=[s.val]/\IntsAt w s zs:=by
 rcases open_ints Tryz.underlying48 Tryz.underlying3 ctypes.2.2.2.2.2.2.2.2 h with ⟨rfl,-⟩ | ⟨a,len,cap,zs,rfl,_,hl,hm,hz,_,hcell,hwz⟩
 ·exact ⟨⟨none,0,0⟩,[],rfl,rfl,nlr _,nzl _,fun _ h=>absurd h List.not_mem_nil,fun k hk=>absurd hk (Nat.not_lt_zero k)⟩
 ·have hzl:len<=zs.length:=by rw [hz]; split <;> omega
  refine ⟨⟨some a,len,cap⟩,zs.take len,rfl,by simp; omega,hl,hm,fun y hy=>bounds_i64 (hwz y (List.mem_of_mem_take hy)),fun k hk=>⟨a,rfl,?_⟩⟩;have hk':k<len:=hk;have e:(zs.take len).getD k 0=zs.getD k 0:=by simp [hk']
  rw [e];exact hcell k om
theorem zN5 (h:DataW.trod enc Tryz.prog w 0 spare held fuel 25 cs=some x):∃ (P:LPV) (os rs:List (List Rat)) (bs:List Rat),cs=[.int .i64 P.n,P.O.val,P.R.val,P.B.val]/\(-9223372036854775808<=P.n/\P.n<=9223372036854775807)/\LPRaw w AllB (QAny w AllB) P os rs bs:=by
 obtain ⟨y0,y1,y2,y3,n,_,hl,h0,h1,h2,h3⟩:=trod_struct4 Tryz.underlying25 h;rw [ctypes.2.2.2.2.2.2.2.1] at hl;obtain ⟨c0,c1,c2,c3,rfl⟩:=list4 hl;simp only [ctypes.2.2.2.2.2.2.2.2,ctypes.2.2.2.2.2.2.1,ctypes.2.2.2.2.2.1,List.drop_zero,List.drop_succ_cons,List.take_succ_cons,List.take_zero] at h0 h1 h2 h3;obtain ⟨z,e0,_,wz⟩:=DataW.trod_int Tryz.underlying3 h0;obtain ⟨s1,l1,e1,v1⟩:=zG6 h1;obtain ⟨s2,l2,e2,v2⟩:=zG6 h2;obtain ⟨s3,l3,e3,v3⟩:=zG7 h3;cases e0; cases e1; cases e2; cases e3
 exact ⟨⟨z,s1,s2,s3⟩,l1,l2,l3,rfl,bounds_i64 wz,v1,v2,v3⟩
end
theorem zN4 {H:Type} {enc:TypeId × Value->H} {spare:Nat->Bool} {held:Bool} {r:Reach} {b0:Nat} {d:DataW H} {p:List MemPlace} (hv:Value.okWide Tryz.prog w r b0 50 v) (h:DataW.Trod enc Tryz.prog w 0 spare held 50 v d p) :
  ∃ (b:BinV) (os rs:List (List Rat)) (bs:List Rat) (zs:List Int),v=b.val/\(-9223372036854775808<=b.p.n/\b.p.n<=9223372036854775807)/\LPRaw w AllB (QAny w AllB) b.p os rs bs/\IntsAt w b.bin zs:=by
 obtain ⟨cs,rfl,hsz⟩:=okWide_struct Tryz.underlying50 hv;obtain ⟨fuel,hf⟩:=h;obtain ⟨y0,y1,n,_,hl,h0,h1⟩:=trod_struct2 Tryz.underlying50 hf;obtain ⟨cs⟩:=cs;simp only [Value.cells] at hl h0 h1;rw [cbin.2] at hl;obtain ⟨c0,c1,c2,c3,c4,rfl⟩:=list5 hl;simp only [ctypes.2.2.2.2.2.2.2.1,cbin.1,List.drop_zero,List.drop_succ_cons,List.take_succ_cons,List.take_zero] at h0 h1;obtain ⟨P,os,rs,bs,e0,g0,g1⟩:=zN5 h0;obtain ⟨s,zs,e1,g2⟩:=zOh h1;cases e0; cases e1
 exact ⟨⟨P,s⟩,os,rs,bs,zs,rfl,g0,g1,g2⟩
end Go.Proofs.YtbpngececjihlaaGreat
