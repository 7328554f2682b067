/- Texts BoR BoQa of this claim. -/
import Derived.Test.YtbpngececjihlaaGreatB47
set_option maxHeartbeats 4000000
namespace Go.Proofs.YtbpngececjihlaaGreat
open Go.RowKit Go.Shelf Lin
variable {z:Int} {V k lo hi b L n g B:Nat} {x:Nat->Rat} {bs l:List Rat} {rs os:List (List Rat)} {w w' W:World} {p:LPV} {X Y X' Y' G:Nat->Prop} {zs:List Int} {v0 v1 v2 v3 v4:Value}
def uR (V:Nat) (z:Int):List Rat:=(List.range V).map fun v=>if v=z.toNat then 1 else 0
theorem zQf (hk:k<V):(uR V z).getD k 0=if k=z.toNat then 1 else 0:=by
 unfold uR; exact zAS _ _ hk
theorem zP5 (V:Nat) (z:Int):(uR V z).length=V:=by simp [uR]
theorem zP6 (hz:z.toNat<V):(sum V fun k=>(uR V z).getD k 0*x k)=x z.toNat:=by
 rw [zAh (g:=fun k=>(if k=z.toNat then 1 else 0)*x k) fun k hk=>by rw [zQf hk],zBu hz fun i hi h=>by rw [if_neg h]; grind,if_pos rfl]; grind
theorem zQe (V k:Nat) (z:Int):QFit 1 ((uR V z).getD k 0):=by
 have h0:QFit 1 0:=⟨by decide +kernel,by decide +kernel⟩;have h1:QFit 1 1:=⟨by decide +kernel,by decide +kernel⟩;by_cases h:k<V
 ·rw [zQf h]; split
  ·exact h1
  ·exact h0
 ·rw [zAw _ _ _ (by rw [zP5]; omega)]; exact h0
section
variable {V:Nat} {os:List (List Rat)}
theorem zQm (zs:List Int):(BPof V os rs bs []).S x ↔ (BPof V os rs bs zs).LF x:=
 ⟨fun h=>h.1,fun h=>⟨h,fun i hi=>absurd hi (Nat.not_lt_zero i)⟩⟩
theorem zQk :(probOf V os rs bs).Feasible x ↔ (BPof V os rs bs []).S x:=
 ⟨fun h=>⟨h,fun i hi=>absurd hi (Nat.not_lt_zero i)⟩,fun h=>h.1⟩
section
variable {rs:List (List Rat)} {bs:List Rat} {zs:List Int}
theorem zPT {rs':List (List Rat)} {bs':List Rat} {l:Nat} (hl:l<os.length+V):(probOf V os rs' bs').obj l x=(BPof V os rs bs zs).dot ((BPof V os rs bs zs).lev l) x:=by
 by_cases h:l<os.length
 ·show (if l<os.length then _ else _)=_;rw [if_pos h]
  exact zAh fun k hk=>by
   show _=(if l<os.length then _ else _)*_;rw [if_pos h]; rfl
 ·show (if l<os.length then _ else _)=_;rw [if_neg h];have e:=BP.lev_x (B:=BPof V os rs bs zs) (x:=x) (k:=l-os.length) (by show _<V; omega);rw [show (BPof V os rs bs zs).K+(l-os.length)=l by show os.length+_=_; omega] at e;exact e.symm
theorem zQl {rs':List (List Rat)} {bs':List Rat} {y:Nat->Rat} (ho:(probOf V os rs' bs').Optimal x) (hy:(probOf V os rs' bs').Feasible y):(BPof V os rs bs zs).Le y x:=by
 rcases ho.2 y hy with h | h
 ·refine .inr ?_;obtain ⟨i,hi,h1,h2⟩:=h;have hi':i<os.length+V:=hi;refine ⟨i,hi,?_,fun j hj=>?_⟩
  ·simp only at h1 ⊢;rw [zPT (rs:=rs) (bs:=bs) (zs:=zs) hi',zPT (rs:=rs) (bs:=bs) (zs:=zs) hi'] at h1;exact h1
  ·have:=h2 j hj;simp only at this ⊢;rw [zPT (rs:=rs) (bs:=bs) (zs:=zs) om,zPT (rs:=rs) (bs:=bs) (zs:=zs) om] at this;exact this
 ·refine .inl fun l hl=>?_
  have e:(BPof V os rs bs zs).dot ((BPof V os rs bs zs).lev l) x=(BPof V os rs bs zs).dot ((BPof V os rs bs zs).lev l) y:=zAh fun k hk=>by rw [h k hk]
  simp only;rw [e]; grind
end
end
open Go.RowKit Go.Shelf
theorem MPart.mat {m:List (List Rat)} (h:MPart lo hi b m w) (hl:m.length<=9223372036854775807):MatCan w (fun x=>lo<=x/\x<hi) (fun x=>lo<=x/\x<hi) ⟨some ⟨b,0,none⟩,m.length,m.length⟩ m:=by
 obtain ⟨h1,h2,cs,sv,h3,h4,h5⟩:=h;exact ⟨rfl,nlr _,hl,fun i hi=>⟨⟨b,0,none⟩,sv i,rfl,⟨h1,h2⟩,by rw [zA4,Nat.zero_add]; simp only [World.cell?,h3]; exact (h5 i hi).1,(h5 i hi).2.imp (fun _ _ h=>⟨h.1,h.2.1⟩) fun _ _ hq=>hq.imp fun _ _ h=>⟨h.1,h.2.1⟩⟩⟩
theorem VPart.vec (h:VPart lo hi b l w) (hl:l.length<=9223372036854775807):VecCan w (fun x=>lo<=x/\x<hi) (fun x=>lo<=x/\x<hi) ⟨some ⟨b,0,none⟩,l.length,l.length⟩ l:=by
 obtain ⟨h1,h2,h3⟩:=h;exact (h3.vec hl _ (nlr _) hl).imp (fun x _ hx=>by subst hx; exact ⟨h1,h2⟩) fun _ _ hq=>hq.imp fun x _ hx=>by have:=Classical.not_not.1 hx; exact ⟨this.1,this.2.1⟩
theorem CopyRet.lpis {e:Ending} (h:CopyRet w p.n os rs bs e w') (hp:LPIs w X Y L p os rs bs) :
  ∃ q:LPV,e = .returned q.val/\q.n=p.n/\q.O.n=p.O.n/\q.R.n=p.R.n/\q.B.n=p.B.n/\LPIs w' (fun x=>w.heap.size<=x/\x<w'.heap.size) (fun x=>w.heap.size<=x/\x<w'.heap.size) (L+1) q os rs bs:=by
 obtain ⟨k0,k1,k2,k3,b1,b2,b3,hk0,hk3,rfl,g1,g2,g3⟩:=h;have e1:=hp.obj.len;have e2:=hp.rows.len;have e3:=hp.bounds.len;have c1:=nlt hp.obj.le hp.obj.cap;have c2:=nlt hp.rows.le hp.rows.cap;have c3:=nlt hp.bounds.le hp.bounds.cap;have o1:k0<=b1/\b1<k1:=⟨g1.1,g1.2.1⟩;have o2:k1<=b2/\b2<k2:=⟨g2.1,g2.2.1⟩;have o3:k2<=b3/\b3<k3:=⟨g3.1,g3.2.1⟩;refine ⟨⟨p.n,⟨some ⟨b1,0,none⟩,os.length,os.length⟩,⟨some ⟨b2,0,none⟩,rs.length,rs.length⟩,⟨some ⟨b3,0,none⟩,bs.length,bs.length⟩⟩,rfl,rfl,e1,e2,e3,?_⟩
 have hm:∀ {lo hi:Nat} {s:SV} {m:List (List Rat)},MatCan w' (fun x=>lo<=x/\x<hi) (fun x=>lo<=x/\x<hi) s m->w.heap.size<=lo->hi<=w'.heap.size->(∀ i k,QFit (L+1) ((m.getD i []).getD k 0))->MatIs w' (fun x=>w.heap.size<=x/\x<w'.heap.size) (fun x=>w.heap.size<=x/\x<w'.heap.size) (L+1) s m:=fun {lo hi s m} hm h1 h2 hf=>⟨hm.len,hm.le,hm.cap,fun i hi=>by
  obtain ⟨ad,r,e,hx,hc,hv⟩:=hm.row i hi;exact ⟨ad,r,e,⟨om,om⟩,hc,(hv.loose fun k=>hf i k).imp (fun b _ hb=>⟨om,om⟩) fun _ _ hq=>hq.imp fun b _ hb=>⟨om,om⟩⟩⟩
 exact ⟨hm (g1.mat om) hk0 om hp.obj.fit,hm (g2.mat om) om om hp.rows.fit,((g3.vec om).loose hp.bounds.fit).imp (fun b _ hb=>⟨om,om⟩) fun _ _ hq=>hq.imp fun b _ hb=>⟨om,om⟩⟩
theorem BinF.valid {b:BinV} (h:BinF w b V os rs bs zs):Calls Tryz.prog 68 #[b.val] w fun e w'=>e = .returned (.bool true)/\Below w w w':=
 zKZ (B:=BPof V os rs bs zs) (fun w2 hb2=>zBv (h.lp.below hb2) h.n (by have:=h.V4; omega) h.o1 h.o2 (by have:=h.r; omega) h.bn h.co h.cr) h.n rfl (by have:=h.V4; omega) (by have:=h.z4; show zs.length<=12; omega) (zOi h.zok) (h.z.bin fun i hi=>(h.zok i hi).1)
theorem LPIs.imp (h:LPIs w X Y L p os rs bs) (hx:∀ b,b<w.heap.size->X b->X' b) (hy:∀ b,b<w.heap.size->Y b->Y' b):LPIs w X' Y' L p os rs bs:=
 ⟨h.obj.imp hx fun _ _ hq=>hq.imp hy,h.rows.imp hx fun _ _ hq=>hq.imp hy,h.bounds.imp hx fun _ _ hq=>hq.imp hy⟩
def Box4q (W:World) (b:Nat) (q:LPV):Prop:=Box4 W b (.int .i64 q.n) (.slice q.O.A q.O.n q.O.c) (.slice q.R.A q.R.n q.R.c) (.slice q.B.A q.B.n q.B.c)
theorem RowAt.vecN (h:RowAt W G b l) (hn:l.length=n) (hn2:n<=1000):VecCan W (fun x=>x=b) (fun x=>¬ G x) ⟨some ⟨b,0,none⟩,n,n⟩ l:=by
 subst hn;exact h.vec om _ (nlr _) om
theorem zP7 (W:World):Box4 (W.alloc (.cells #[.int .i64 0,.slice none 0 0,.slice none 0 0,.slice none 0 0] 25)) W (.int .i64 0) (.slice none 0 0) (.slice none 0 0) (.slice none 0 0):=bx4
theorem zQd (W:World):Box4 (W.alloc (.cells #[.int .i64 0,.slice none 0 0,.slice none 0 0,.slice none 0 0] 25)).drew W (.int .i64 0) (.slice none 0 0) (.slice none 0 0) (.slice none 0 0):=bx4
theorem zP1 (h:Box5 w b v0 v1 v2 v3 v4) (e:w'.heap[b]?=w.heap[b]?):Box5 w' b v0 v1 v2 v3 v4:=
 ⟨(cob (a:=b) e).trans h.1,(cob (a:=⟨b,1,none⟩) e).trans h.2.1,(cob (a:=⟨b,2,none⟩) e).trans h.2.2.1,(cob (a:=⟨b,3,none⟩) e).trans h.2.2.2.1,(cob (a:=⟨b,4,none⟩) e).trans h.2.2.2.2.1,fun o=>(World.frozen?_of_block (a:=⟨b,o,none⟩) e).trans (h.2.2.2.2.2 o)⟩
def RxNew (wr:World) (V L g:Nat) (os rs:List (List Rat)) (bs:List Rat) (q:LPV) (W:World):Prop:=
 wr.heap.size<=g/\Box4q W g q/\q.n=V/\Below wr wr W/\LPIs W (fun x=>wr.heap.size<=x/\x ≠ g) (fun x=>wr.heap.size<=x/\x ≠ g) L q os rs bs
theorem zPW (V m L:Nat) (z:Int) (h1:1<=V) (hV:V<=1000) (hz:z=m) (hm:m<=1000000) (hL:1<=L) :
  Calls Tryz.prog 79 #[.int .i64 (V:Int),.int .i64 (m:Int)] w fun e w'=>(∃ s:SV,e = .returned s.val/\s.n=V/\VecIs w' AllB AllB L s (uR V z))/\Below w w w':=by
 refine (zLf V m h1 hV hm).mono ?_;rintro e w' ⟨⟨rfl,hu⟩,hb⟩;have e:(List.range V).map (fun i=>if i=m then (1:Rat) else 0)=uR V z:=by rw [hz]; rfl
 rw [e] at hu;exact ⟨⟨⟨some ⟨w,0,none⟩,V,V⟩,rfl,rfl,((hu.vecN (zP5 _ _) hV).loose fun k=>(zQe V k _).up hL).imp (fun _ _ _=>trivial) fun _ _ hq=>hq.imp fun _ _ _=>trivial⟩,hb⟩
theorem zPQ {wr y:World} {q:LPV} (hq:LPIs y (fun x=>B<=x) (fun x=>B<=x) L q os rs bs) (hg:wr.heap.size<=g) (hB:g<B) (b:Box4 y g v0 v1 v2 v3) (hb:Below wr wr ((((y.setCell g (.int .i64 q.n)).setCell ⟨g,1,none⟩ (.slice q.O.A q.O.n q.O.c)).setCell ⟨g,2,none⟩ (.slice q.R.A q.R.n q.R.c)).setCell ⟨g,3,none⟩ (.slice q.B.A q.B.n q.B.c))) (hn:q.n=V) :
  RxNew wr V L g os rs bs q ((((y.setCell g (.int .i64 q.n)).setCell ⟨g,1,none⟩ (.slice q.O.A q.O.n q.O.c)).setCell ⟨g,2,none⟩ (.slice q.R.A q.R.n q.R.c)).setCell ⟨g,3,none⟩ (.slice q.B.A q.B.n q.B.c)):=by
 have P8:=Put.four (W:=y) g (.int .i64 q.n) (.slice q.O.A q.O.n q.O.c) (.slice q.R.A q.R.n q.R.c) (.slice q.B.A q.B.n q.B.c);exact ⟨hg,b.stored _ _ _ _,hn,hb,(hq.put P8 hB).imp (fun b _ hb=>⟨om,om⟩) fun b _ hb=>⟨om,om⟩⟩
theorem zQb {wr y:World} {q:LPV} (hq:LPIs y (fun x=>B<=x) (fun x=>B<=x) L q os rs bs) (hB:wr.heap.size<=B) (hs:wr.heap.size<=y.heap.size) (hb:Below wr wr (y.alloc (.cells #[.int .i64 q.n,.slice q.O.A q.O.n q.O.c,.slice q.R.A q.R.n q.R.c,.slice q.B.A q.B.n q.B.c] 25))) (hn:q.n=V) :
  RxNew wr V L y os rs bs q (y.alloc (.cells #[.int .i64 q.n,.slice q.O.A q.O.n q.O.c,.slice q.R.A q.R.n q.R.c,.slice q.B.A q.B.n q.B.c] 25)):=by
 have al:Below y y (y.alloc (.cells #[.int .i64 q.n,.slice q.O.A q.O.n q.O.c,.slice q.R.A q.R.n q.R.c,.slice q.B.A q.B.n q.B.c] 25)):=bal;exact ⟨hs,bx4,hn,hb,(hq.imp (fun b hl hb=>⟨om,om⟩) fun b hl hb=>⟨om,om⟩).below al⟩
end Go.Proofs.YtbpngececjihlaaGreat
