/- Texts BpA BpG BpE BpF of this claim. -/
import Derived.Test.YtbpngececjihlaaGreatB48
import Derived.Test.YtbpngececjihlaaGreatB49
set_option maxHeartbeats 4000000
set_option maxRecDepth 40000
namespace Go.Proofs.YtbpngececjihlaaGreat.Lin
variable {m n k:Nat}
def Num (P:Nat->Prop):Nat->Nat->Prop
 | 0,c=>c=0
 | k+1,c=>(P k/\∃ c',c=c'+1/\Num P k c')\/(¬ P k/\Num P k c)
theorem Num.le {P:Nat->Prop}:∀ {k c:Nat},Num P k c->c<=k
 | 0,c,h=>by have:c=0:=h; omega
 | k+1,c,h=>by
  rcases h with ⟨-,c',rfl,h⟩ | ⟨-,h⟩
  ·have:=Num.le h; omega
  ·have:=Num.le h; omega
theorem Num.unique {P:Nat->Prop}:∀ {k c c':Nat},Num P k c->Num P k c'->c=c'
 | 0,c,c',h,h'=>by rw [show c=0 from h,show c'=0 from h']
 | k+1,c,c',h,h'=>by
  rcases h with ⟨p,d,rfl,h⟩ | ⟨p,h⟩ <;> rcases h' with ⟨p',d',rfl,h'⟩ | ⟨p',h'⟩
  ·rw [Num.unique h h']
  ·exact absurd p p'
  ·exact absurd p' p
  ·exact Num.unique h h'
theorem Num.congr {P Q:Nat->Prop}:∀ {k c:Nat},(∀ n,n<k->(P n ↔ Q n))->Num P k c->Num Q k c
 | 0,_,_,h=>h
 | k+1,c,hq,h=>by
  rcases h with ⟨p,d,rfl,h⟩ | ⟨p,h⟩
  ·exact .inl ⟨(hq k om).1 p,d,rfl,Num.congr (fun n hn=>hq n om) h⟩
  ·exact .inr ⟨fun q=>p ((hq k om).2 q),Num.congr (fun n hn=>hq n om) h⟩
theorem Num.one {P Q:Nat->Prop} (hp:¬ P m) (hm:Q m):∀ {k c:Nat},m<k->(∀ n,n<k->n ≠ m->(P n ↔ Q n))->Num P k c->Num Q k (c+1)
 | 0,_,h0,_,_=>absurd h0 (Nat.not_lt_zero _)
 | k+1,c,h0,hq,h=>by
  by_cases e:m=k
  ·subst e;rcases h with ⟨p,-⟩ | ⟨-,h⟩
   ·exact absurd p hp
   ·exact .inl ⟨hm,c,rfl,Num.congr (fun n hn=>hq n om om) h⟩
  ·rcases h with ⟨p,d,rfl,h⟩ | ⟨p,h⟩
   ·exact .inl ⟨(hq k om (Ne.symm e)).1 p,d+1,rfl,Num.one hp hm om (fun n hn=>hq n om) h⟩
   ·exact .inr ⟨fun q=>p ((hq k om (Ne.symm e)).2 q),Num.one hp hm om (fun n hn=>hq n om) h⟩
theorem Num.zero {P:Nat->Prop}:∀ {k:Nat},Num P k 0->∀ n,n<k->¬ P n
 | 0,_,n,hn=>absurd hn (Nat.not_lt_zero _)
 | k+1,h,n,hn=>by
  rcases h with ⟨-,d,e,-⟩ | ⟨p,h⟩
  ·omega
  ·by_cases e:n=k
   ·rw [e]; exact p
   ·exact Num.zero h n om
theorem Num.none {P:Nat->Prop}:∀ {k:Nat},(∀ n,n<k->¬ P n)->Num P k 0
 | 0,_=>rfl
 | k+1,h=>.inr ⟨h k om,Num.none fun n hn=>h n om⟩
def bit (n i:Nat):Int:=if n.testBit i then 1 else 0
theorem bit01 (n i:Nat):bit n i=0\/bit n i=1:=by
 unfold bit; split
 ·exact .inr rfl
 ·exact .inl rfl
theorem zTR (hn:n<2 ^ k) (hm:m<2 ^ k) (h:∀ i,i<k->bit n i=bit m i):n=m:=by
 apply Nat.eq_of_testBit_eq;intro i;by_cases hi:i<k
 ·have:=h i hi;unfold bit at this;cases e1:n.testBit i <;> cases e2:m.testBit i <;> simp [e1,e2] at this ⊢
 ·rw [Nat.testBit_lt_two_pow (ltl hn (Nat.pow_le_pow_right dj om)),Nat.testBit_lt_two_pow (ltl hm (Nat.pow_le_pow_right dj om))]
theorem zTH (a:Nat->Int):∀ {k:Nat},(∀ i,i<k->a i=0\/a i=1)->∃ n,n<2 ^ k/\∀ i,i<k->a i=bit n i
 | 0,_=>⟨0,dj,fun i hi=>absurd hi (Nat.not_lt_zero _)⟩
 | k+1,h=>by
  obtain ⟨n,hn,hb⟩:=zTH a (k:=k) fun i hi=>h i om
  rcases h k om with e | e
  ·refine ⟨n,ltl hn (Nat.pow_le_pow_right dj om),fun i hi=>?_⟩;by_cases ei:i=k
   ·rw [ei,e]; unfold bit; rw [Nat.testBit_lt_two_pow hn]; rfl
   ·exact hb i om
  ·refine ⟨2 ^ k+n,by rw [Nat.pow_succ]; omega,fun i hi=>?_⟩;by_cases ei:i=k
   ·rw [ei,e]; unfold bit; rw [Nat.testBit_two_pow_add_eq,Nat.testBit_lt_two_pow hn]; rfl
   ·rw [hb i om]; unfold bit; rw [Nat.testBit_two_pow_add_gt om]
namespace BP
section
variable {B:BP} {a:Nat->Int} {o:List (Nat->Int)} {c:Nat}
def Has (B:BP) (n:Nat):Prop:=∃ x,B.S x/\B.In (bit n) x
def Ext (B:BP) (a:Nat->Int) (n:Nat):Prop:=∀ i,i<B.nb->a i ≠ -1->a i=bit n i
def Cov (B:BP) (o:List (Nat->Int)) (c:Nat):Prop:=
 Num (fun n=>B.Has n/\∀ a,a ∈ o->¬ B.Ext a n) (2 ^ B.nb) c/\o.Pairwise fun a b=>∀ n,B.Ext a n->¬ B.Ext b n
theorem Cov.start:B.Cov [fun _=>-1] 0:=
 ⟨Num.none fun _n _ h=>h.2 _ (List.mem_singleton.2 rfl) fun _i _ hi=>absurd rfl hi,List.pairwise_singleton _ _⟩
theorem Cov.fin (h:B.Cov [] c):Num B.Has (2 ^ B.nb) c:=h.1.congr fun n _=>⟨fun h=>h.1,fun h=>⟨h,fun a ha=>by cases ha⟩⟩
theorem zTU {n:Nat} (h:B.Has n) (he:B.Ext a n):∃ x,B.Rel a x:=by
 obtain ⟨x,hx,hi⟩:=h;exact ⟨x,zMC hx fun i hi' hu=>by rw [he i hi' hu]; exact hi i hi' (by rcases bit01 n i with e | e <;> rw [e] <;> decide)⟩
theorem Cov.drop (h:B.Cov (o++[a]) c) (hE:∀ x,¬ B.Rel a x):B.Cov o c:=
 ⟨h.1.congr fun n _=>⟨fun hn=>⟨hn.1,fun b hb=>hn.2 b (List.mem_append_left _ hb)⟩,fun hn=>⟨hn.1,fun b hb he=>by
  rcases List.mem_append.1 hb with hb | hb
  ·exact hn.2 b hb he
  ·rw [List.mem_singleton.1 hb] at he;obtain ⟨x,hx⟩:=zTU hn.1 he;exact hE x hx⟩⟩,(List.pairwise_append.1 h.2).1⟩
theorem Cov.leaf (hv:B.Av a) (h:B.Cov (o++[a]) c) (h0:∀ i,i<B.nb->a i ≠ -1) {x:Nat->Rat} (hx:B.Rel a x):B.Cov o (c+1):=by
 have h01:∀ i,i<B.nb->a i=0\/a i=1:=fun i hi=>(hv i hi).resolve_left (h0 i hi)
 obtain ⟨m,hm,hb⟩:=zTH a h01;have hm1:B.Ext a m:=fun i hi _=>hb i hi
 have hS:B.S x:=⟨hx.1,fun i hi=>by
  rw [hx.2.1 i hi (h0 i hi)];rcases h01 i hi with e | e
  ·exact .inl (by rw [e]; rfl)
  ·exact .inr (by rw [e]; rfl)⟩
 obtain ⟨p1,-,p2⟩:=List.pairwise_append.1 h.2;refine ⟨Num.one (m:=m) (fun hc=>hc.2 a si hm1) ⟨⟨x,hS,fun i hi _=>by rw [<-hb i hi]; exact hx.2.1 i hi (h0 i hi)⟩,fun b hb' he=>p2 b hb' a (List.mem_singleton.2 rfl) m he hm1⟩ hm (fun n hn hne=>⟨fun hc=>⟨hc.1,fun b hb'=>hc.2 b (List.mem_append_left _ hb')⟩,fun hc=>⟨hc.1,fun b hb' he=>?_⟩⟩) h.1,p1⟩;rcases List.mem_append.1 hb' with hb' | hb'
 ·exact hc.2 b hb' he
 ·rw [List.mem_singleton.1 hb'] at he;exact hne (zTR hn hm fun i hi=>by rw [<-hb i hi]; exact (he i hi (h0 i hi)).symm)
theorem zTs {p:Nat} {n:Nat} (hp:p<B.nb) (hu:a p=-1):B.Ext a n ↔ B.Ext (turn a p 1) n\/B.Ext (turn a p 0) n:=by
 have key:∀ v:Int,v ≠ -1->B.Ext (turn a p v) n->B.Ext a n/\v=bit n p:=fun v hv h=>⟨fun i hi hne=>by
  have ei:i ≠ p:=fun e=>hne (by rw [e]; exact hu)
  have:=h i hi (by rw [zBh _ ei]; exact hne)
  rwa [zBh _ ei] at this,by
  have:=h p hp (by rw [zBL]; exact hv)
  rwa [zBL] at this⟩
 have back:∀ v:Int,v=bit n p->B.Ext a n->B.Ext (turn a p v) n:=fun v e h i hi hne=>by
  by_cases ei:i=p
  ·rw [ei,zBL]; exact e
  ·rw [zBh _ ei] at hne ⊢; exact h i hi hne
 constructor
 ·intro h;rcases bit01 n p with e | e
  ·exact .inr (back 0 e.symm h)
  ·exact .inl (back 1 e.symm h)
 ·rintro (h | h)
  ·exact (key 1 dj h).1
  ·exact (key 0 dj h).1
theorem Cov.split {p:Nat} (h:B.Cov (o++[a]) c) (hp:p<B.nb) (hu:a p=-1):B.Cov ((o++[turn a p 1])++[turn a p 0]) c:=by
 obtain ⟨p1,-,p2⟩:=List.pairwise_append.1 h.2;have e1:∀ n,B.Ext (turn a p 1) n->B.Ext a n:=fun n h=>(zTs hp hu).2 (.inl h)
 have e0:∀ n,B.Ext (turn a p 0) n->B.Ext a n:=fun n h=>(zTs hp hu).2 (.inr h)
 have hP:((o++[turn a p 1])++[turn a p 0]).Pairwise fun a b=>∀ n,B.Ext a n->¬ B.Ext b n:=by
  rw [List.pairwise_append];refine ⟨List.pairwise_append.2 ⟨p1,List.pairwise_singleton _ _,fun b hb b' hb' n h1 h2=>?_⟩,List.pairwise_singleton _ _,fun b hb b' hb' n h1 h2=>?_⟩
  ·rw [List.mem_singleton.1 hb'] at h2;exact p2 b hb a (List.mem_singleton.2 rfl) n h1 (e1 n h2)
  ·rw [List.mem_singleton.1 hb'] at h2;rcases List.mem_append.1 hb with hb | hb
   ·exact p2 b hb a (List.mem_singleton.2 rfl) n h1 (e0 n h2)
   ·rw [List.mem_singleton.1 hb] at h1;have q1:=h1 p hp (by rw [zBL]; decide);have q0:=h2 p hp (by rw [zBL]; decide);rw [zBL] at q1 q0;rw [<-q1] at q0;exact absurd q0 dj
 refine ⟨h.1.congr fun n _=>⟨fun hn=>⟨hn.1,fun b hb he=>?_⟩,fun hn=>⟨hn.1,fun b hb he=>?_⟩⟩,hP⟩
 ·rcases List.mem_append.1 hb with hb | hb
  ·rcases List.mem_append.1 hb with hb | hb
   ·exact hn.2 b (List.mem_append_left _ hb) he
   ·rw [List.mem_singleton.1 hb] at he; exact hn.2 a si (e1 n he)
  ·rw [List.mem_singleton.1 hb] at he; exact hn.2 a si (e0 n he)
 ·rcases List.mem_append.1 hb with hb | hb
  ·exact hn.2 b (by simp [hb]) he
  ·rw [List.mem_singleton.1 hb] at he;rcases (zTs hp hu).1 he with he | he
   ·exact hn.2 _ si he
   ·exact hn.2 _ si he
theorem Cov.le (h:B.Cov o c):c<=2 ^ B.nb:=h.1.le
end
end BP
end Go.Proofs.YtbpngececjihlaaGreat.Lin
namespace Go.Proofs.YtbpngececjihlaaGreat
open Go.RowKit Go.Shelf Lin
variable {k N L V n:Nat} {z:Int} {x f:Nat->Rat} {p:LPV} {X Y:Nat->Prop} {w w1 w':World} {zs:List Int} {bs:List Rat} {os rs:List (List Rat)} {s:SV}
def fxR (V:Nat) (rs:List (List Rat)) (zs:List Int):Nat->List (List Rat)
 | 0=>rs
 | i+1=>fxR V rs zs i++[uR V (zs.getD i 0),(uR V (zs.getD i 0)).map ((-1:Rat)*·)]
def fxB (bs:List Rat) (n:Nat):Nat->List Rat
 | 0=>bs
 | i+1=>fxB bs n i++[(bit n i:Rat),-(bit n i:Rat)]
theorem zTo {α:Type} (l:List α) (a b:α):l++[a,b]=(l++[a])++[b]:=si
theorem zTn {α:Type} {P:α->Prop} {l:List α} {a d:α} (h:∀ j,P (l.getD j d)) (ha:P a) (hd:P d) (j:Nat):P ((l++[a]).getD j d):=by
 by_cases e:j<l.length
 ·have:=h j;simp only [gdd] at this ⊢
  rwa [List.getElem?_append_left e]
 ·simp only [gdd];rw [List.getElem?_append_right om];by_cases e2:j-l.length=0
  ·rw [e2]; exact ha
  ·obtain ⟨k,hk⟩:∃ k,j-l.length=k+1:=⟨j-l.length-1,om⟩;rw [hk]; exact hd
section
variable {V:Nat} {os rs:List (List Rat)} {bs:List Rat} {zs:List Int} {n:Nat}
theorem zTx:∀ i,(fxR V rs zs i).length=rs.length+2*i
 | 0=>rfl
 | i+1=>by rw [fxR,List.length_append,zTx i]; simp only [List.length_cons,List.length_nil]; omega
theorem zTu:∀ i,(fxB bs n i).length=bs.length+2*i
 | 0=>rfl
 | i+1=>by rw [fxB,List.length_append,zTu i]; simp only [List.length_cons,List.length_nil]; omega
theorem zTE (h:∀ i j,Lin.Fits k ((rs.getD i []).getD j 0)) (h1:1<=k) (h36:∀ (z:Int) j,Lin.Fits k ((uR V z).getD j 0)):∀ i i' j,Lin.Fits k (((fxR V rs zs i).getD i' []).getD j 0)
 | 0=>h
 | i+1=>fun i'=>by
  rw [fxR,zTo];have h0:∀ j:Nat,Lin.Fits k (([]:List Rat).getD j 0):=fun j=>Lin.Fits.zero _
  exact zTn (P:=fun r:List Rat=>∀ j,Lin.Fits k (r.getD j 0)) (zTn (P:=fun r:List Rat=>∀ j,Lin.Fits k (r.getD j 0)) (zTE h h1 h36 i) (h36 _) h0) (fun j=>by rw [zSs]; exact (h36 _ j).neg) h0 i'
theorem zTw (h:colsOf rs<=V):∀ i,colsOf (fxR V rs zs i)<=V
 | 0=>h
 | i+1=>zAU.2 fun r hr=>by
  rcases List.mem_append.1 hr with hr | hr
  ·exact zAU.1 (zTw h i) r hr
  ·simp only [List.mem_cons,List.not_mem_nil,or_false] at hr;rcases hr with rfl | rfl
   ·rw [zP5]; exact nlr _
   ·rw [List.length_map,zP5]; exact nlr _
theorem zTB (k:Nat) (h:1<=k) (n i:Nat):Lin.Fits k (bit n i:Rat):=by
 rcases bit01 n i with e | e <;> rw [e]
 ·exact Lin.Fits.zero _
 ·exact (Lin.Fits.one 1).mono h
theorem zTD (h:∀ i,Lin.Fits k (bs.getD i 0)) (h1:1<=k):∀ i j,Lin.Fits k ((fxB bs n i).getD j 0)
 | 0=>h
 | i+1=>by
  rw [fxB,zTo];exact zTn (P:=Lin.Fits k) (zTn (P:=Lin.Fits k) (zTD h h1 i) (zTB k h1 n i) (Lin.Fits.zero _)) (zTB k h1 n i).neg (Lin.Fits.zero _)
theorem zT0 (hz:z.toNat<V):(sum V fun k=>((uR V z).map ((-1:Rat)*·)).getD k 0*x k)=- x z.toNat:=by
 rw [<-zP6 (x:=x) hz,<-zFC];exact zAh fun k _=>by rw [zSs]; grind
theorem zT3 (hb:bs.length=rs.length) (hz:∀ z ∈ zs,z.toNat<V):∀ i,i<=zs.length->
  ((BPof V os (fxR V rs zs i) (fxB bs n i) []).S x ↔ (BPof V os rs bs []).S x/\∀ j,j<i->x (zs.getD j 0).toNat=(bit n j:Rat))
 | 0,_=>⟨fun h=>⟨h,fun j hj=>absurd hj (Nat.not_lt_zero j)⟩,fun h=>h.1⟩
 | i+1,hi=>by
  have hzi:(zs.getD i 0).toNat<V:=by
   rw [gdd,gge (by omega:i<zs.length)];exact hz _ (List.getElem_mem _)
  rw [fxR,fxB,zTo,zTo,zOk (by rw [List.length_append,List.length_append,zTx,zTu,hb]; rfl),zOk (by rw [zTx,zTu,hb]),zP6 hzi,zT0 hzi,zT3 hb hz i om];constructor
  ·rintro ⟨⟨⟨h1,h2⟩,h3⟩,h4⟩;refine ⟨h1,fun j hj=>?_⟩;by_cases e:j=i
   ·subst e; grind
   ·exact h2 j om
  ·rintro ⟨h1,h2⟩;have:=h2 i om;exact ⟨⟨⟨h1,fun j hj=>h2 j om⟩,req this⟩,by rw [this]; exact Rat.le_refl⟩
theorem zTy (hb:bs.length=rs.length) (hz:∀ z ∈ zs,z.toNat<V):(probOf V os (fxR V rs zs zs.length) (fxB bs n zs.length)).Feasible x ↔ (BPof V os rs bs zs).S x/\(BPof V os rs bs zs).In (bit n) x:=by
 rw [zQk,zT3 hb hz zs.length (nlr _),zQm zs];constructor
 ·rintro ⟨h1,h2⟩;refine ⟨⟨h1,fun i hi=>?_⟩,fun i hi _=>h2 i hi⟩;have:=h2 i hi;show x (zs.getD i 0).toNat=0\/x (zs.getD i 0).toNat=1;rw [this];rcases bit01 n i with e | e <;> rw [e]
  ·exact .inl rfl
  ·exact .inr rfl
 ·rintro ⟨h1,h2⟩;exact ⟨h1.1,fun j hj=>h2 j hj (by rcases bit01 n j with e | e <;> rw [e] <;> decide)⟩
def zeros (l:List Rat):List Rat:=l.map fun _=>0
theorem zTp (l:List Rat) (i:Nat):(zeros l).getD i 0=0:=by
 unfold zeros;simp only [gdd,List.getElem?_map];cases l[i]? <;> rfl
theorem zTv (l:List Rat):∀ i j,(fxB (zeros l) 0 i).getD j 0=0
 | 0=>zTp l
 | i+1=>by
  have e:bit 0 i=0:=by unfold bit; simp
  rw [fxB,zTo,e];exact zTn (P:=fun q:Rat=>q=0) (zTn (P:=fun q:Rat=>q=0) (zTv l i) rfl rfl) rfl rfl
theorem zTQ {d:Nat->Rat} (hb:bs.length=rs.length) (hz:∀ z ∈ zs,z.toNat<V) :
  ((∀ k,k<V->0<=d k)/\∀ i,i<(fxR V rs zs zs.length).length->(sum V fun k=>((fxR V rs zs zs.length).getD i []).getD k 0*d k)<=0) ↔
   (∀ k,k<V->0<=d k)/\(∀ i,i<rs.length->(sum V fun k=>(rs.getD i []).getD k 0*d k)<=0)/\∀ i,i<zs.length->d (zs.getD i 0).toNat=0:=by
 have h:=zT3 (V:=V) (os:=[]) (rs:=rs) (bs:=zeros bs) (zs:=zs) (n:=0) (x:=d) (by simp [zeros,hb]) hz zs.length (nlr _);rw [<-zQk,<-zQk] at h
 have e1:(probOf V [] (fxR V rs zs zs.length) (fxB (zeros bs) 0 zs.length)).Feasible d ↔ (∀ k,k<V->0<=d k)/\∀ i,i<(fxR V rs zs zs.length).length->(sum V fun k=>((fxR V rs zs zs.length).getD i []).getD k 0*d k)<=0:=
  ⟨fun h=>⟨h.1,fun i hi=>by have:=h.2 i hi; rw [show (probOf V [] (fxR V rs zs zs.length) (fxB (zeros bs) 0 zs.length)).b i=0 from zTv bs _ i] at this; exact this⟩,
   fun h=>⟨h.1,fun i hi=>by rw [show (probOf V [] (fxR V rs zs zs.length) (fxB (zeros bs) 0 zs.length)).b i=0 from zTv bs _ i]; exact h.2 i hi⟩⟩
 have e2:(probOf V [] rs (zeros bs)).Feasible d ↔ (∀ k,k<V->0<=d k)/\∀ i,i<rs.length->(sum V fun k=>(rs.getD i []).getD k 0*d k)<=0:=
  ⟨fun h=>⟨h.1,fun i hi=>by have:=h.2 i hi; rw [show (probOf V [] rs (zeros bs)).b i=0 from zTp bs i] at this; exact this⟩,
   fun h=>⟨h.1,fun i hi=>by rw [show (probOf V [] rs (zeros bs)).b i=0 from zTp bs i]; exact h.2 i hi⟩⟩
 rw [<-e1,h,e2,and_assoc];refine and_congr_right fun _=>and_congr_right fun _=>?_
 constructor
 ·intro h i hi; rw [h i hi]; unfold bit; simp
 ·intro h i hi; rw [h i hi]; unfold bit; simp
theorem zTZ {d:Nat->Rat} (h:(probOf V os (fxR V rs zs zs.length) (fxB bs n zs.length)).Unbounded x d) (hb:bs.length=rs.length) (hz:∀ z ∈ zs,z.toNat<V):(BPof V os rs bs zs).Ray:=by
 obtain ⟨-,h0,h1,h2⟩:=h;obtain ⟨g0,g1,g2⟩:=(zTQ hb hz).1 ⟨h0,h1⟩;exact ⟨d,g0,g1,g2,h2⟩
theorem zT1 (hx:(probOf V os (fxR V rs zs zs.length) (fxB bs n zs.length)).Feasible x) (h:(BPof V os rs bs zs).Ray) (hb:bs.length=rs.length) (hz:∀ z ∈ zs,z.toNat<V):∃ d,(probOf V os (fxR V rs zs zs.length) (fxB bs n zs.length)).Unbounded x d:=by
 obtain ⟨d,g0,g1,g2,g3⟩:=h;obtain ⟨h0,h1⟩:=(zTQ (bs:=bs) hb hz).2 ⟨g0,g1,g2⟩;exact ⟨d,hx,h0,h1,g3⟩
theorem zTT (h:LPIs w X Y 8 p os rs bs):(probOf V os (fxR V rs zs zs.length) (fxB bs n zs.length)).start.Fits (probOf V os (fxR V rs zs zs.length) (fxB bs n zs.length)) 288:=by
 refine ⟨fun i j hi hj=>?_,fun l j hl hj=>?_⟩
 ·show Lin.Fits _ (if j<V then ((fxR V rs zs zs.length).getD i []).getD j 0 else (fxB bs n zs.length).getD i 0)
  split
  ·exact zTE (fun i k=>zAR (h.rows.fit i k)) dj (fun z k=>(zAR (zQe V k z)).mono dj) _ _ _
  ·exact zTD (fun i=>zAR (h.bounds.fit i)) dj _ _
 ·show Lin.Fits _ (if j<V then-(os.getD l []).getD j 0 else 0)
  split
  ·exact (zAR (h.obj.fit l j)).neg
  ·exact Lin.Fits.zero _
def FxOut (V:Nat) (os rs:List (List Rat)) (bs:List Rat) (zs:List Int) (n:Nat) (r:RV) (x1:World):Prop:=
 (r.kind=2/\¬ (BPof V os rs bs zs).Has n)\/(r.kind=3/\(BPof V os rs bs zs).Has n/\(BPof V os rs bs zs).Ray)\/
 (r.kind=1/\(BPof V os rs bs zs).Has n/\¬ (BPof V os rs bs zs).Ray/\∃ l:List Rat,l.length=V/\VecIs x1 AllB AllB 6000 r.X l/\((BPof V os rs bs zs).S fun k=>l.getD k 0)/\
  ∀ y,(BPof V os rs bs zs).S y->(BPof V os rs bs zs).In (bit n) y->(BPof V os rs bs zs).Le y fun k=>l.getD k 0)
theorem zTY {x1:World} {r:RV} (hP:LPIs w X Y 8 p os rs bs) (hV:V<=4) (hb:bs.length=rs.length) (hz:∀ z ∈ zs,z.toNat<V)
  (h1:Solved w1 (probOf V os (fxR V rs zs zs.length) (fxB bs n zs.length)) r x1):FxOut V os rs bs zs n r x1:=by
 have h5:5 ^ V<=625:=nlt (Nat.pow_le_pow_right om hV) dj;have n1:5 ^ V*288<=180000:=nlt (Nat.mul_le_mul h5 (nlr 288)) dj;have hh1:=h1;rcases h1 with ⟨e1,_⟩ | ⟨e1,_,_,_,_,_,_,no1,_⟩ | ⟨e1,l,l',ll,ll',hu,-⟩
 ·obtain ⟨l,ll,lf,lv,lo⟩:=zQg hh1 e1 dj (zTT hP) n1 dj;have hf:=(zTy hb hz).1 lo.1;refine .inr (.inr ⟨e1,⟨_,hf.1,hf.2⟩,fun hr=>?_,l,ll,lv,hf.1,fun y h1 h2=>zQl lo ((zTy hb hz).2 ⟨h1,h2⟩)⟩);obtain ⟨d,hd⟩:=zT1 lo.1 hr hb hz;exact hd.no_optimal _ lo
 ·exact .inl ⟨e1,fun ⟨x,h1,h2⟩=>no1 x ((zTy hb hz).2 ⟨h1,h2⟩)⟩
 ·have hf:=(zTy hb hz).1 hu.1;exact .inr (.inl ⟨e1,⟨_,hf.1,hf.2⟩,zTZ hu hb hz⟩)
theorem zTL {g:Nat->Rat} (h:LexPos N fun l=>g l-f l):vcmp f g N=-1:=by
 obtain ⟨i,hi,h1,h2⟩:=h;rw [zKr (x:=i) (fun j hj=>by have:=h2 j hj; grind) (by grind) hi];unfold qcmp; grind
theorem zTO {x y:List Rat} (hc:colsOf os<=V) (hx:x.length<=V) (hy:y.length<=V) (hm:max y.length x.length=V) (h:(BPof V os rs bs zs).Le (fun k=>x.getD k 0) fun k=>y.getD k 0):¬ 0<lpcmp os x y:=by
 rw [zNX (rs:=rs) (bs:=bs) (zs:=zs) hc hx hy hm];rcases h with h | h
 ·rw [zKq fun i hi=>by have:=h i hi; simp only at this; grind]; decide
 ·have h':=zTL h;rw [show os.length+V=(BPof V os rs bs zs).K+(BPof V os rs bs zs).V from rfl,h']; decide
theorem zTK (h:(BPof V os rs bs zs).S x):∃ n,n<2 ^ zs.length/\(BPof V os rs bs zs).In (bit n) x:=by
 obtain ⟨n,hn,hb⟩:=zTH (fun i=>if x (zs.getD i 0).toNat=0 then 0 else 1) (k:=zs.length) fun i hi=>by
  split
  ·exact .inl rfl
  ·exact .inr rfl
 refine ⟨n,hn,fun i hi _=>?_⟩;have hi':i<zs.length:=hi;rw [<-hb i hi'];rcases h.2 i hi with e | e
 ·have e':x (zs.getD i 0).toNat=0:=e;rw [if_pos e',e]; rfl
 ·have e':x (zs.getD i 0).toNat=1:=e;rw [if_neg (by rw [e']; decide),e]; rfl
end
def BoolsAt (w:World) (n k:Nat) (s:SV):Prop:=s.n=k/\∀ i,i<k->∃ ad,s.A=some ad/\w.cell? (ad.add i)=some (.bool (n.testBit i))
def FxL (n:Nat) (w:World) (pb V:Nat) (v0 v1 v2 v3 v4:Value) (os rs:List (List Rat)) (bs:List Rat) (zs:List Int) (on rn:Nat) (t:Value) (W:World):Prop:=
 ∃ (i:Nat) (q:LPV),i<=zs.length/\t = .int .i64 (i:Int)/\Below w w W/\w.heap.size+1<pb/\Box5 W w v0 v1 v2 v3 v4/\Box4 W (w+1) (.int .i64 0) (.slice none 0 0) (.slice none 0 0) (.slice none 0 0)/\Box4q W pb q/\
  q.n=V/\q.O.n=on/\q.R.n=rn+2*i/\q.B.n=rn+2*i/\LPIs W (fun x=>w.heap.size+2<=x/\x ≠ pb) (fun x=>w.heap.size+2<=x/\x ≠ pb) (9+i) q os (fxR V rs zs i) (fxB bs n i)
theorem zTC (n i:Nat) (h:1<=L):QFit L (bit n i:Rat):=by
 have:QFit 1 (bit n i:Rat):=by
  rcases bit01 n i with e | e <;> rw [e] <;> exact ⟨by decide +kernel,by decide +kernel⟩
 exact this.up h
theorem zTF (L n i:Nat) (v:Int) (hL:1<=L) (hv:v=bit n i):Calls Tryz.prog 44 #[.int .i64 v] w fun e w'=>(∃ u:QV,e = .returned u.val/\QIs w' AllB L u (bit n i:Rat))/\Below w w w':=by
 subst hv;refine (zAN (bit n i) (by rcases bit01 n i with e | e <;> rw [e] <;> decide) (by rcases bit01 n i with e | e <;> rw [e] <;> decide) _).mono ?_;rintro e w' ⟨⟨u,rfl,hu⟩,hb⟩;exact ⟨⟨u,rfl,(hu.qis (zTC n i hL)).imp fun _ _ _=>trivial⟩,hb⟩
theorem zTJ {b:BinV} {ch:SV} (h:BinF w b V os rs bs zs) (hch:BoolsAt w n zs.length ch) :
  Calls Tryz.prog 24 #[b.val,ch.val] w fun e w'=>(∃ q:LPV,e = .returned (.tuple #[q.val,.int .i64 0])/\q.n=V/\q.O.n=b.p.O.n/\q.R.n=b.p.R.n+2*zs.length/\q.B.n=q.R.n/\LPIs w' (fun x=>w.heap.size<=x) (fun x=>w.heap.size<=x) (9+zs.length) q os (fxR V rs zs zs.length) (fxB bs n zs.length))/\Below w w w':=by
 obtain ⟨⟨pn,⟨oA,on,oc⟩,⟨rA,rn,rc⟩,⟨bA,bn,bc⟩⟩,⟨iA,iN,ic⟩⟩:=b;obtain ⟨cA,cn,cc⟩:=ch;obtain rfl:pn=V:=h.n;obtain rfl:rn=bn:=h.bn.symm;have hV4:V<=4:=h.V4;have hr5:rn<=5:=h.r;have hz4:zs.length<=4:=h.z4;have hzl:zs.length=iN:=h.z.len;have hi1:iN<=ic:=h.z.le;have hi2:ic<=9223372036854775807:=h.z.cap;have HZl:=hdq hzl;have hcz:cn=zs.length:=hch.1;obtain rfl:cn=iN:=hcz.trans hzl;have HCh:=hdq hch;clear hch hcz;have H:=hdq h;clear h;dsimp only [BinV.val,LPV.val,SV.val] at *;go_enter Tryz.func24,Tryz.ntmps24
 go_upto_region 1 with fail
 refine zAo (fun W=>Below w w W/\Box5 W w (.int .i64 V) (.slice oA on oc) (.slice rA rn rc) (.slice bA rn bc) (.slice iA cn ic)/\Box4 W (w+1) (.int .i64 0) (.slice none 0 0) (.slice none 0 0) (.slice none 0 0)/\w.heap.size<W.heap.size/\w.heap.size+1<W.heap.size) ⟨(az (az (brf _ _))),⟨by go_simp,by go_simp,by go_simp,by go_simp,by go_simp,by intro o; go_simp⟩,bx4,by simp <;> omega,by simp <;> omega⟩ ?_;rintro W ⟨hbW,bP,bR,s0,s1⟩;have hBW:=hbW.size;obtain ⟨p0,p1,p2,p3,p4,-⟩:=id bP;clear hBW;go_wp2_with fail
 refine (BinF.valid (b:=⟨⟨V,⟨oA,on,oc⟩,⟨rA,rn,rc⟩,⟨bA,rn,bc⟩⟩,⟨iA,cn,ic⟩⟩) (H.out.below hbW)).mono ?_;rintro e w1 ⟨rfl,hb1⟩;replace bP:=bP.below hb1 s0;replace bR:=bR.below hb1 s1;replace s0:=ltl s0 hb1.size;replace s1:=ltl s1 hb1.size;replace hbW:=hbW.trans (hb1.mono hbW.size);clear p0 p1 p2 p3 p4;obtain ⟨p0,p1,p2,p3,p4,-⟩:=id bP;clear hb1;have hg:¬ ((128:Int)<(rn:Int)+2*(cn:Int)):=by omega
 have hg1:IntKind.i64.wrap (2*(cn:Int))=2*(cn:Int):=IntWalk.i64_in _ (by omega);have hg2:IntKind.i64.wrap ((rn:Int)+2*(cn:Int))=(rn:Int)+2*(cn:Int):=IntWalk.i64_in _ (by omega);go_wp2_with fail
 refine (zPV (p:=⟨V,⟨oA,on,oc⟩,⟨rA,rn,rc⟩,⟨bA,rn,bc⟩⟩) (H.out.below hbW).lp (by have:=H.out.o2; dsimp only at this; show on<=_; omega) (by show rn<=_; omega) (by show rn<=_; omega) (fun i=>nlt (zBT H.out.co i) (by omega)) (fun i=>nlt (zBT H.out.cr i) (by omega)) (by rw [zAZ]; decide)).mono ?_;rintro e w2 ⟨hcp,hb2⟩;obtain ⟨⟨z,⟨xA,xn,xc⟩,⟨yA,yn,yc⟩,⟨uA,un,uc⟩⟩,rfl,hz,e1,e2,e3,hq⟩:=CopyRet.lpis (p:=⟨V,⟨oA,on,oc⟩,⟨rA,rn,rc⟩,⟨bA,rn,bc⟩⟩) hcp (H.out.below hbW).lp;dsimp only at hz e1 e2 e3;subst hz e1 e2 e3;have HQ:=hdq hq;have hsz2:=hb2.size;have hs1w:=s1;replace bP:=bP.below hb2 s0;replace bR:=bR.below hb2 s1;replace s0:=ltl s0 hb2.size;replace s1:=ltl s1 hb2.size;replace hbW:=hbW.trans (hb2.mono hbW.size);clear p0 p1 p2 p3 p4;obtain ⟨p0,p1,p2,p3,p4,-⟩:=id bP;clear hq hcp hg hg1 hg2;dsimp only at *;go_upto_region 4 with fail
 have al:Below w2 w2 (w2.alloc (.cells #[.int .i64 V,.slice xA xn xc,.slice yA un yc,.slice uA un uc] 25)):=bal
 have H0:FxL n w w2 V (.int .i64 V) (.slice oA xn oc) (.slice rA un rc) (.slice bA un bc) (.slice iA cn ic) os rs bs zs xn un (.int .i64 0) (w2.alloc (.cells #[.int .i64 V,.slice xA xn xc,.slice yA un yc,.slice uA un uc] 25)):=
  ⟨0,⟨V,⟨xA,xn,xc⟩,⟨yA,un,yc⟩,⟨uA,un,uc⟩⟩,nzl _,rfl,hbW.trans (al.mono hbW.size),s1,bP.below al s0,bR.below al s1,bx4,rfl,rfl,rfl,rfl,by
   exact (HQ.out.below al).imp (fun b _ hb=>⟨by have:=hb.1; omega,by have:=hb.2; omega⟩) fun b _ hb=>⟨by have:=hb.1; omega,by have:=hb.2; omega⟩⟩
 clear HQ;generalize w2.alloc (.cells #[.int .i64 V,.slice xA xn xc,.slice yA un yc,.slice uA un uc] 25)=W3 at *;have bP3:=bP.below al s0;obtain ⟨t0,t1,t2,t3,t4,-⟩:=id bP3;generalize w2.heap.size=pb at *;clear al bP bR p0 p1 p2 p3 p4 hbW s0 s1 bP3 t0 t1 t2 t3 hsz2 hs1w;go_wp2;go_loopw [42] (fun t W=>FxL n w pb V (.int .i64 V) (.slice oA xn oc) (.slice rA un rc) (.slice bA un bc) (.slice iA cn ic) os rs bs zs xn un t W) (fun t _=>cn-(intOf t).toNat)
 case atStart=>exact H0
 case round=>
  clear H0 t4;obtain ⟨i,⟨z,⟨xA,xm,xc⟩,⟨yA,yn,yc⟩,⟨uA,un',uc⟩⟩,hi,rfl,hbW,hpb,bP,bR,bQ,hz,e1,e2,e3,hq⟩:=hrel;dsimp only at hz e1 e2 e3;subst hz e1 e2 e3;obtain ⟨q0,q1,q2,q3,qf⟩:=id bQ;have s0:w.heap.size<wr.heap.size:=zAb bP.1;have s1:w.heap.size+1<wr.heap.size:=zAb bR.1;have sq:pb<wr.heap.size:=zAb q0;dsimp only at q0 q1 q2 q3;by_cases hlt:i<cn
  ·have hki:(i:Int)<(cn:Int):=(by omega);obtain ⟨ad,ea,hcell⟩:=H.out.z.cell i hlt;cases ea;obtain ⟨hz0,hz1,-⟩:=H.out.zok i (by omega);obtain ⟨m,hm⟩:∃ m:Nat,zs.getD i 0=m:=⟨(zs.getD i 0).toNat,by omega⟩;rw [hm] at hcell hz1;have HM:=hdq hm;obtain ⟨cad,cea,hchc⟩:=HCh.out.2 i (by omega);dsimp only at cea;subst cea;have hchw:=(hbW.cell (zAb hchc)).trans hchc;obtain ⟨cb,hcb⟩:∃ cb,n.testBit i=cb:=⟨_,rfl⟩;rw [hcb] at hchw;have HBt:=hdq hcb;clear hchc hcb;have hcw:=(hbW.cell (zAb hcell)).trans hcell;have hmV:m<V:=(by omega);clear hm hz0 hcell;cases cb
   all_goals
    (go_upto_region 10 with fail);have hbw:=hbW.size;have HQ:=hdq hq;have HC:=hdq (zTw (zs:=zs) H.out.cr i);have HL9:Hid (9+i+1<=LM):=hdq (by rw [zAZ]; omega);have hr127:un+2*i<=126:=(by omega);have hV64:V<=64:=(by omega);have HUf:Hid (∀ k,QFit (9+i) ((uR V (zs.getD i 0)).getD k 0)):=hdq fun k=>(zQe V k _).up (by omega)
    have HBf:Hid (QFit (9+i) (bit n i:Rat)):=hdq (zTC n i (by omega));clear hq;go_cut [10,11,42] from 42 to 67 (fun p f t W=>t = .int .i64 (i:Int)/\f = .int .i64 0/\∃ (g:Nat) (q:LPV),p = .pointer (some g)/\RxNew wr V (9+i+1) g os (fxR V rs zs (i+1)) (fxB bs n (i+1)) q W)
    case first=>
     go_region_held3 (Sees w [] wr) (exact kp)
      (first
       | (go_at_call 79; ((with_reducible refine (zPW V m (9+i) (zs.getD i 0) (by omega) (by omega) HM.out (by omega) (by omega)).mono ?_); rintro e y1 ⟨⟨⟨sA,sn,sc⟩,rfl,hsn,hu⟩,hc1⟩; (dsimp only at hsn; subst hsn); (have sz1:wr.heap.size<=y1.heap.size:=by exact nlt (Sees.kept (by assumption):Kept w [] wr _).size hc1.size); (obtain ⟨hcc1,hf1⟩:=bcell hc1); (have lt1:=fun (b:Nat) h=>ltl (n:=b) h hc1.size)))
       | (go_at_call 44; ((with_reducible refine (zTF (9+i) n i _ (by omega) (by simp [bit,HBt.out])).mono ?_); rintro e y2 ⟨⟨u,rfl,hv⟩,hc2⟩; (have sz2:wr.heap.size<=y2.heap.size:=by exact nlt (Sees.kept (by assumption):Kept w [] wr _).size hc2.size); (obtain ⟨hcc2,hf2⟩:=bcell hc2); (have lt2:=fun (b:Nat) h=>ltl (n:=b) h hc2.size)))
       | (go_at_call 78; ((with_reducible refine (zTm (p:=⟨sn,⟨xA,xm,xc⟩,⟨yA,un+2*i,yc⟩,⟨uA,un+2*i,uc⟩⟩) (r:=⟨sA,sn,sc⟩) (mv:=u) (HQ.out.below (Sees.kept (by assumption)).whole) rfl hV64 H.out.o1 H.out.o2 hr127 rfl H.out.co HC.out HL9.out (hu.below hc2) hv (nlr _) HBf.out HUf.out).mono ?_); rintro e y3 ⟨⟨⟨zq,⟨qa,qm,qc⟩,⟨ra,rm,rd⟩,⟨ba,bm,bd⟩⟩,rfl,hqn,hq3⟩,hc3⟩; (dsimp only at hqn; subst hqn); (have sz3:wr.heap.size<=y3.heap.size:=by exact nlt (Sees.kept (by assumption):Kept w [] wr _).size hc3.size); (obtain ⟨hcc3,hf3⟩:=bcell hc3); (have lt3:=fun (b:Nat) h=>ltl (n:=b) h hc3.size); (obtain ⟨hcc13,hf13⟩:=bcell ((hc1.trans (hc2.mono hc1.size)).trans (hc3.mono (nlt hc1.size hc2.size))))))
       | (go_at_call 78; ((with_reducible refine (zTm (p:=⟨sn,⟨xA,xm,xc⟩,⟨yA,un+2*i,yc⟩,⟨uA,un+2*i,uc⟩⟩) (r:=⟨sA,sn,sc⟩) (mv:=u) (HQ.out.below (Sees.kept (by assumption)).whole) rfl hV64 H.out.o1 H.out.o2 hr127 rfl H.out.co HC.out HL9.out (hu.below ((bal).trans (hc2.mono (by simp)))) hv (nlr _) HBf.out HUf.out).mono ?_); rintro e y3 ⟨⟨⟨zq,⟨qa,qm,qc⟩,⟨ra,rm,rd⟩,⟨ba,bm,bd⟩⟩,rfl,hqn,hq3⟩,hc3⟩; (dsimp only at hqn; subst hqn); (have sz3:wr.heap.size<=y3.heap.size:=by exact nlt (Sees.kept (by assumption):Kept w [] wr _).size hc3.size); (obtain ⟨hcc3,hf3⟩:=bcell hc3); (have lt3:=fun (b:Nat) h=>ltl (n:=b) h hc3.size); (obtain ⟨hcc23,hf23⟩:=bcell (hc2.trans (hc3.mono hc2.size)))))
       | (go_at_call 78; ((with_reducible refine (zTm (p:=⟨sn,⟨xA,xm,xc⟩,⟨yA,un+2*i,yc⟩,⟨uA,un+2*i,uc⟩⟩) (r:=⟨sA,sn,sc⟩) (mv:=u) (HQ.out.below (Sees.kept (by assumption)).whole) rfl hV64 H.out.o1 H.out.o2 hr127 rfl H.out.co HC.out HL9.out (hu.below (hc2.alloc hc2.size _)) (hv.below (bal)) (nlr _) HBf.out HUf.out).mono ?_); rintro e y3 ⟨⟨⟨zq,⟨qa,qm,qc⟩,⟨ra,rm,rd⟩,⟨ba,bm,bd⟩⟩,rfl,hqn,hq3⟩,hc3⟩; (dsimp only at hqn; subst hqn); (have sz3:wr.heap.size<=y3.heap.size:=by exact nlt (Sees.kept (by assumption):Kept w [] wr _).size hc3.size); (obtain ⟨hcc3,hf3⟩:=bcell hc3); (have lt3:=fun (b:Nat) h=>ltl (n:=b) h hc3.size)))
       | fail)
     ·rename_i hS;(go_wp2_with fail);go_meet;case rel=>exact ⟨rfl,rfl,_,⟨sn,⟨qa,qm,qc⟩,⟨ra,rm,rd⟩,⟨ba,bm,bd⟩⟩,rfl,zQb hq3 sz2 sz3 hS.kept.whole rfl⟩
     ·rename_i hS;(go_wp2_with fail);go_meet;case rel=>exact ⟨rfl,rfl,_,⟨sn,⟨qa,qm,qc⟩,⟨ra,rm,rd⟩,⟨ba,bm,bd⟩⟩,rfl,zPQ hq3 sz2 (by simp) ((zP7 y2).below hc3 (by simp)) hS.kept.whole rfl⟩
     ·rename_i hS;(go_wp2_with fail);go_meet;case rel=>exact ⟨rfl,rfl,_,⟨sn,⟨qa,qm,qc⟩,⟨ra,rm,rd⟩,⟨ba,bm,bd⟩⟩,rfl,zPQ hq3 sz1 (lt2 _ (by simp)) (((zP7 y1).below hc2 (by simp)).below hc3 (lt2 _ (by simp))) hS.kept.whole rfl⟩
     ·rename_i hS;(go_wp2_with fail);go_meet;case rel=>exact ⟨rfl,rfl,_,⟨sn,⟨qa,qm,qc⟩,⟨ra,rm,rd⟩,⟨ba,bm,bd⟩⟩,rfl,zPQ hq3 (nlr _) (lt2 _ (lt1 _ (by simp))) ((((zQd wr).below hc1 (by simp)).below hc2 (lt1 _ (by simp))).below hc3 (lt2 _ (lt1 _ (by simp)))) hS.kept.whole rfl⟩
    case rest=>
     obtain ⟨rfl,rfl,g,⟨zq,⟨qa,qm,qc⟩,⟨ra,rm,rd⟩,⟨ba,bm,bd⟩⟩,rfl,hg,hbq,hqn,hbel,hq'⟩:=hcut;dsimp only at hqn;subst hqn;have bP':=bP.below hbel s0;have bR':=bR.below hbel s1;have bQ':=bQ.below hbel sq;have P8:=Put.four (W:=wc) pb (.int .i64 V) (.slice qa qm qc) (.slice ra rm rd) (.slice ba bm bd);have l1:=hq'.obj.len;have l2:=hq'.rows.len;have l3:=hq'.bounds.len;have l4:=H.out.lp.obj.len;have l5:=H.out.lp.rows.len;have l6:=H.out.lp.bounds.len;dsimp only at l1 l2 l3 l4 l5 l6
     have Hfin:Hid (FxL n w pb V (.int .i64 V) (.slice oA xm oc) (.slice rA un rc) (.slice bA un bc) (.slice (some ad) cn ic) os rs bs zs xm un (.int .i64 ((i:Int)+1)) ((((wc.setCell pb (.int .i64 V)).setCell ⟨pb,1,none⟩ (.slice qa qm qc)).setCell ⟨pb,2,none⟩ (.slice ra rm rd)).setCell ⟨pb,3,none⟩ (.slice ba bm bd))):=hdq
      ⟨i+1,⟨V,⟨qa,qm,qc⟩,⟨ra,rm,rd⟩,⟨ba,bm,bd⟩⟩,by omega,by simp,(hbW.trans (hbel.mono hbw)).trans (P8.below _ (by omega)),hpb,zP1 bP' (P8.keep _ (by omega)),bR'.heap (P8.keep _ (by omega)),bQ'.stored _ _ _ _,rfl,by show qm=xm; omega,by show rm=un+2*(i+1); rw [<-l2]; simp only [zTx]; omega,by show bm=un+2*(i+1); rw [<-l3]; simp only [zTu]; omega,by
       exact ((hq'.imp (X':=fun x=>wr.heap.size<=x) (Y':=fun x=>wr.heap.size<=x) (fun b _ hb=>hb.1) fun b _ hb=>hb.1).put P8 sq).imp (fun b _ hb=>⟨by omega,by omega⟩) fun b _ hb=>⟨by omega,by omega⟩⟩
     obtain ⟨g0,g1,g2,g3,-⟩:=id hbq;obtain ⟨r0,r1,r2,r3,rf⟩:=id bQ';clear q0 q1 q2 q3 qf P8 bP' bR' bQ' hq' HQ l1 l2 l3 l4 l5 l6 bP bR bQ hbq;go_wp2;go_roundw;case rel=>exact fn_ Hfin.out
     case measure=>simp [intOf]; omega
  ·(obtain rfl:i=cn:=by omega);obtain ⟨r0,r1,r2,r3,rf⟩:=id bR;have P8:=Put.four (W:=wr) (w+1) (.int .i64 V) (.slice xA xm xc) (.slice yA (un+2*i) yc) (.slice uA (un+2*i) uc);have bR8:=bR.stored (.int .i64 V) (.slice xA xm xc) (.slice yA (un+2*i) yc) (.slice uA (un+2*i) uc);have hqf:=(((hq.imp (X':=fun x=>w.heap.size+2<=x) (Y':=fun x=>w.heap.size+2<=x) (fun b _ hb=>hb.1) fun b _ hb=>hb.1).put P8 (by omega)).imp (X':=fun x=>w.heap.size<=x) (Y':=fun x=>w.heap.size<=x) (fun b _ hb=>by omega) fun b _ hb=>by omega);have HQ:=hdq hqf;have hbf:=hdq (hbW.trans (P8.below _ (by omega)));clear hq hqf P8 bP bQ qf;go_wp2;generalize (((wr.setCell ⟨w+1,0,none⟩ (.int .i64 V)).setCell ⟨w.heap.size+1,1,none⟩ (.slice xA xm xc)).setCell ⟨w.heap.size+1,2,none⟩ (.slice yA (un+2*i) yc)).setCell ⟨w.heap.size+1,3,none⟩ (.slice uA (un+2*i) uc)=y8 at *;clear r0 r1 r2 r3 rf;obtain ⟨r0,r1,r2,r3,-⟩:=id bR8;(try rw [Exit.noGoto_ret]);exact bodyPost_ret (v:=.tuple #[.agg #[.int .i64 V,.slice xA xm xc,.slice yA (un+2*i) yc,.slice uA (un+2*i) uc],.int .i64 0]) (by simp [results,Tryz.results24,go_sem,r0,r1,r2,r3]) rfl ⟨⟨⟨V,⟨xA,xm,xc⟩,⟨yA,un+2*i,yc⟩,⟨uA,un+2*i,uc⟩⟩,rfl,rfl,rfl,by rw [HZl.out],rfl,by rw [HZl.out]; exact HQ.out⟩,hbf.out⟩
def bl (n k:Nat):List Value:=(List.range k).map fun i=>.bool (n.testBit i)
theorem zTS (n k:Nat):bl n (k+1)=bl n k++[.bool (n.testBit k)]:=by simp [bl,List.range_succ]
theorem zTV (n k:Nat):(((n:Int) / 2 ^ k).tmod 2 == 1)=n.testBit k:=by
 have e:((n:Int) / 2 ^ k).tmod 2=((n / 2 ^ k % 2:Nat):Int):=by
  rw [show ((n:Int) / 2 ^ k)=((n / 2 ^ k:Nat):Int) by simp];exact zDj _ 2
 rw [e,Nat.testBit_eq_decide_div_mod_eq];by_cases h:n / 2 ^ k % 2=1
 ·rw [h]; decide
 ·rw [decide_eq_false h]; exact beq_false_of_ne fun e=>h om
def ChL (w:World) (n N:Nat) (v0 v1 v2 v3 v4:Value) (s t:Value) (W:World):Prop:=
 ∃ k,k<=N/\t = .int .i64 (k:Int)/\Below w w W/\Box5 W w v0 v1 v2 v3 v4/\W.ownsRow (w+1) 4 1 s k (bl n k)
theorem BoolsAt.below (h:BoolsAt w n k s) (hb:Below w w w'):BoolsAt w' n k s:=
 ⟨h.1,fun i hi=>by
  obtain ⟨ad,e,hc⟩:=h.2 i hi;exact ⟨ad,e,(hb.cell (zAb hc)).trans hc⟩⟩
theorem zTr {b:BinV} (hN:b.bin.n<=12) (_hn:n<4096) :
  Calls Tryz.prog 25 #[b.val,.int .i64 (n:Int)] w fun e w'=>(∃ s:SV,e = .returned s.val/\BoolsAt w' n b.bin.n s)/\Below w w w':=by
 obtain ⟨⟨pn,⟨oA,on,oc⟩,⟨rA,rn,rc⟩,⟨bA,bn,bc⟩⟩,⟨iA,iN,ic⟩⟩:=b;obtain ⟨i0,hiI,hz0,hz1,hz2⟩:=info_parts zLw;dsimp only [BinV.val,LPV.val,SV.val] at *;go_enter Tryz.func25,Tryz.ntmps25
 go_upto_region 1 with fail
 refine zAo (fun W=>Below w w W/\Box5 W w pn (.slice oA on oc) (.slice rA rn rc) (.slice bA bn bc) (.slice iA iN ic)/\w.heap.size<W.heap.size) ⟨(az (brf _ _)),⟨by go_simp,by go_simp,by go_simp,by go_simp,by go_simp,by intro o; go_simp⟩,by simp <;> omega⟩ ?_;rintro W ⟨hbW,bP,s0⟩;have hBW:=hbW.size;clear hBW;have H0:ChL w n iN pn (.slice oA on oc) (.slice rA rn rc) (.slice bA bn bc) (.slice iA iN ic) () (.int .i64 0) W:=⟨0,nzl _,rfl,hbW,bP,World.ownsRow_nil _ _ _ _⟩;clear hbW bP;go_wp2;go_loopw [5,6] (fun s t W=>ChL w n iN pn (.slice oA on oc) (.slice rA rn rc) (.slice bA bn bc) (.slice iA iN ic) s t W) (fun _ t _=>iN-(intOf t).toNat)
 case atStart=>exact H0
 case round=>
  clear H0;obtain ⟨k,hk,rfl,hbW,bP,hown⟩:=hrel;obtain ⟨uA,uc,rfl,ho1,ho2⟩:=zKU hown;obtain ⟨p0,p1,p2,p3,p4,-⟩:=id bP;have s0:w.heap.size<wr.heap.size:=zAb bP.1;by_cases hlt:k<iN
  ·have hki:(k:Int)<(iN:Int):=om;have hbi:=zTV n k;(go_wp2_with (at_builtin; refine wpList_append_own_at _ rfl _ _ 57 rfl (w+1) 4 i0 false 1 1 Tryz.underlying57 hiI hz0 hz1 hz2 rfl dj (.slice uA k uc) k (bl n k) rfl (hown.alloc _) ⟨wr,0,none⟩ 1 1 [.bool (n.testBit k)] rfl rfl ?cells ?one ?b1 ?b2 ?b3 ?_));case cells=>exact cell_one_new _ _ _
   case one=>first | rfl | (intro u hu; simp at hu; subst hu; rfl)
   case b1=>simp [maxLen]; omega
   case b2=>omega
   case b3=>first | omega | (simp; omega)
   intro v' W9 hown9 hg9 hnil9 hat9;obtain ⟨g9,c9,rfl⟩:=ownsRow_succ hown9;have hne:∀ j,(Value.slice uA k uc).ownBlock=some j->w.heap.size+1<=j:=(fun j e=>(zAc hown e).1);have hlow:W9.heap[w.heap.size]?=wr.heap[w.heap.size]?:=(hg9.block _ (by simp; omega) fun e=>by have:=hne _ e.symm; omega).trans (Below.heap_alloc _ _ _ s0);have hsz:=hg9.size;have hF:Fr (fun y=>w.heap.size+1<=y) wr W9:=⟨hg9.os,hg9.tape,hg9.output,by simp at hsz; omega,fun b hb hn=>(hg9.block b (by simp; omega) fun e=>hn (hne _ e.symm)).trans (Below.heap_alloc _ _ _ hb)⟩;have Hfin:Hid (ChL w n iN pn (.slice oA on oc) (.slice rA rn rc) (.slice bA bn bc) (.slice iA iN ic) (.slice (some g9) (k+1) c9) (.int .i64 ((k:Int)+1)) W9):=hdq ⟨k+1,hlt,si,hbW.trans (hF.below hbW.size fun y e=>om),zP1 bP hlow,by rw [zTS]; exact hown9⟩;clear hown9 hg9 hnil9 hat9 hlow hF hsz bP p0 p1 p2 p3 p4;go_wp2;go_roundw;case rel=>exact fn_ Hfin.out
   case measure=>simp [intOf]; omega
  ·obtain rfl:k=iN:=om
   have HB:Hid (BoolsAt wr n k ⟨uA,k,uc⟩):=hdq ⟨rfl,fun i hi=>by
    rcases hown.2 with ⟨e,e2⟩ | ⟨g,cap,cur,e,-⟩
    ·cases e; exact absurd hi (Nat.not_lt_zero i)
    ·cases e;refine ⟨⟨g,0,none⟩,rfl,?_⟩;have:=hown.cells (g:=g) rfl i (.bool (n.testBit i)) (by simp [bl,hi]);exact this⟩
   go_wp2;go_ret;exact ⟨⟨⟨uA,k,uc⟩,rfl,HB.out⟩,hbW⟩
end Go.Proofs.YtbpngececjihlaaGreat
