/- Texts Simplex4 DA Long3 Long4 Long5 Long6 PrH of this claim. -/
import Derived.Test.YtpjaodcimomaiaaGreatL00
import Derived.Test.YtpjaodcimomaiaaGreatL11
import Derived.Test.YtpjaodcimomaiaaGreatL10
set_option maxHeartbeats 4000000
namespace Go.Proofs.YtpjaodcimomaiaaGreat.Lin
variable {q p:Rat} {d k r s N n:Nat} {D:Dict} {P:Prob}
def Fits (k:Nat) (q:Rat):Prop:=q.num.natAbs<=2 ^ k/\q.den<=2 ^ k
theorem zGx {n:Int} (hd:d ≠ 0) (e:q=mkRat n d) (hn:n.natAbs<=2 ^ k) (hk:d<=2 ^ k):Fits k q:=by
 obtain ⟨m,hm,h1,h2⟩:=Rat.mkRat_num_den hd (show mkRat n d=⟨q.num,q.den,q.den_nz,q.reduced⟩ from e.symm);constructor
 ·rw [h1,Int.natAbs_mul] at hn;have:q.num.natAbs*1<=q.num.natAbs*(m:Int).natAbs:=Nat.mul_le_mul_left _ (by omega);omega
 ·rw [h2] at hk;have:q.den*1<=q.den*m:=Nat.mul_le_mul_left _ (by omega);omega
theorem Fits.mono {l:Nat} (h:Fits k q) (hl:k<=l):Fits l q:=
 have:2 ^ k<=2 ^ l:=Nat.pow_le_pow_right (by omega) hl
 ⟨nlt h.1 this,nlt h.2 this⟩
theorem Fits.mul {l:Nat} (h:Fits k p) (h':Fits l q):Fits (k+l) (p*q):=by
 refine zGx (n:=p.num*q.num) (d:=p.den*q.den) (by have:=p.den_nz; have:=q.den_nz; exact Nat.mul_ne_zero ‹_› ‹_›) ?_ ?_ ?_
 ·rw [<-Rat.mkRat_mul_mkRat,Rat.mkRat_self,Rat.mkRat_self]
 ·rw [Int.natAbs_mul,Nat.pow_add]; exact Nat.mul_le_mul h.1 h'.1
 ·rw [Nat.pow_add]; exact Nat.mul_le_mul h.2 h'.2
theorem Fits.add {l:Nat} (h:Fits k p) (h':Fits l q):Fits (k+l+1) (p+q):=by
 refine zGx (n:=p.num*q.den+q.num*p.den) (d:=p.den*q.den) (by have:=p.den_nz; have:=q.den_nz; exact Nat.mul_ne_zero ‹_› ‹_›) ?_ ?_ ?_
 ·rw [<-Rat.mkRat_add_mkRat _ _ p.den_nz q.den_nz,Rat.mkRat_self,Rat.mkRat_self]
 ·have h1:(p.num*q.den).natAbs<=2 ^ k*2 ^ l:=by rw [Int.natAbs_mul]; exact Nat.mul_le_mul h.1 h'.2
  have h2:(q.num*p.den).natAbs<=2 ^ k*2 ^ l:=by rw [Int.natAbs_mul,Nat.mul_comm]; exact Nat.mul_le_mul h.2 h'.1
  have h3:=Int.natAbs_add_le (p.num*q.den) (q.num*p.den);rw [Nat.pow_succ,Nat.pow_add]; omega
 ·have:p.den*q.den<=2 ^ k*2 ^ l:=Nat.mul_le_mul h.2 h'.2;rw [Nat.pow_succ,Nat.pow_add]; omega
theorem Fits.neg (h:Fits k p):Fits k (- p):=⟨by show (- p.num).natAbs<=_; rw [Int.natAbs_neg]; exact h.1,h.2⟩
theorem Fits.sub {l:Nat} (h:Fits k p) (h':Fits l q):Fits (k+l+1) (p-q):=by rw [Rat.sub_eq_add_neg]; exact h.add h'.neg
theorem Fits.zero (k:Nat):Fits k 0:=⟨by show 0<=_; exact nzl _,by show 1<=_; exact Nat.pow_pos (by omega)⟩
theorem Fits.one (k:Nat):Fits k 1:=⟨by show 1<=_; exact Nat.pow_pos (by omega),by show 1<=_; exact Nat.pow_pos (by omega)⟩
theorem Fits.inv (h:Fits k p):Fits k p⁻¹:=by
 rcases Decidable.em (p=0) with h0 | h0
 ·rw [h0,Rat.inv_zero]; exact Fits.zero k
 ·have hn:p.num ≠ 0:=fun e=>h0 (Rat.num_eq_zero.1 e)
  refine zGx (n:=p.num.sign*p.den) (d:=p.num.natAbs) (by omega) ?_ ?_ h.1
  ·rw [Rat.inv_def,Rat.divInt_eq_div,Rat.mkRat_eq_div]
   have e1:(p.num:Rat)=(p.num.sign:Rat)*(p.num.natAbs:Rat):=by
    have:=Int.sign_mul_natAbs p.num;exact_mod_cast this.symm
   have hs:(p.num.sign:Rat)*(p.num.sign:Rat)=1:=by
    have:p.num.sign*p.num.sign=1:=by
     rcases Int.lt_trichotomy p.num 0 with h | h | h
     ·rw [Int.sign_eq_neg_one_of_neg h]; rfl
     ·exact absurd h hn
     ·rw [Int.sign_eq_one_of_pos h]; rfl
    exact_mod_cast this
   have hs0:(p.num.sign:Rat) ≠ 0:=by intro e; rw [e] at hs; grind
   have hn0:(p.num.natAbs:Rat) ≠ 0:=by
    have:p.num.natAbs ≠ 0:=(by omega);exact_mod_cast this
   rw [e1];push_cast;grind
  ·rw [Int.natAbs_mul,Int.natAbs_sign_of_ne_zero hn]; simpa using h.2
def Dict.Fits (P:Prob) (D:Dict) (k:Nat):Prop:=(∀ i j,i<P.m->j<=P.n->Lin.Fits k (D.a i j))/\∀ l j,l<P.K->j<=P.n->Lin.Fits k (D.c l j)
theorem zHF (h:D.Fits P k) (hr:r<P.m) (hs:s<P.n):(D.pivot r s).Fits P (4*k+1):=by
 have hb:∀ j,j<=P.n->Lin.Fits (2*k) (scaled s (D.a r) j):=by
  intro j hj;unfold scaled
  split
  ·exact (h.1 r s hr (by omega)).inv.mono (by omega)
  ·exact ((h.1 r s hr (by omega)).inv.mul (h.1 r j hr hj)).mono (by omega)
 have he:∀ R:Nat->Rat,(∀ j,j<=P.n->Lin.Fits k (R j))->∀ j,j<=P.n->Lin.Fits (4*k+1) (elim s (scaled s (D.a r)) R j):=by
  intro R hR j hj;unfold elim;have h1:=(hR s (by omega)).mul (hb j hj)
  split
  ·exact ((Fits.zero k).sub h1).mono (by omega)
  ·exact ((hR j hj).sub h1).mono (by omega)
 constructor
 ·intro i j hi hj;simp only [Dict.pivot]
  split
  ·exact (hb j hj).mono (by omega)
  ·exact he _ (fun j hj=>h.1 i j hi hj) j hj
 ·intro l j hl hj;exact he _ (fun j hj=>h.2 l j hl hj) j hj
def count (p:Nat->Bool):Nat->Nat
 | 0=>0
 | N+1=>count p N+if p N then 1 else 0
theorem zFj {p q:Nat->Bool} (N:Nat) (h:∀ v,v<N->p v=true->q v=true):count p N<=count q N:=by
 induction N with
 | zero=>exact nlr _
 | succ N ih=>
  have:=ih fun v hv=>h v (by omega)
  have h1:=h N (by omega);simp only [count];cases hp:p N <;> cases hq:q N <;> simp_all <;> omega
theorem zI8 {p q:Nat->Bool} {u:Nat} (h:∀ v,v<N->p v=true->q v=true) (hu:u<N) (h1:p u=false) (h2:q u=true):count p N<count q N:=by
 induction N with
 | zero=>omega
 | succ N ih=>
  simp only [count];by_cases e:u=N
  ·subst e;have:=zFj u fun v hv=>h v (by omega)
   simp [h1,h2]; omega
  ·have:=ih (fun v hv=>h v (by omega)) (by omega);have h1:=h N (by omega);cases hp:p N <;> cases hq:q N <;> simp_all <;> omega
theorem zHs {p:Nat->Bool} (h:count p N=0):∀ v,v<N->p v=false:=by
 induction N with
 | zero=>intro v hv; omega
 | succ N ih=>
  simp only [count] at h;intro v hv;by_cases e:v=N
  ·subst e; cases hp:p v with
   | false=>rfl
   | true=>simp [hp] at h
  ·exact ih (by omega) v (by omega)
theorem zGo {p:Nat->Bool} :∀ N,(∀ v,n<=v->p v=false)->count p N<=n:=by
 intro N
 induction N with
 | zero=>intro _; simp [count]
 | succ N ih=>
  intro h;have h1:=ih h;simp only [count];by_cases e:n<=N
  ·simp [h N e]; exact h1
  ·have h2:∀ N,count p N<=N:=fun N=>by
    induction N with
    | zero=>exact nlr _
    | succ N ih=>simp only [count]; split <;> omega
   have:=h2 N
   split <;> omega
theorem zJw {C:Dict} (GC:Good P C) (GD:Good P D) (h:∀ v,v<P.n+P.m->D.bas P v=true->C.bas P v=true):∀ v,v<P.n+P.m->C.bas P v=D.bas P v:=by
 intro v hv
 cases hd:D.bas P v with
 | true=>exact h v hv hd
 | false=>
  cases hc:C.bas P v with
  | false=>rfl
  | true=>
   exfalso;obtain ⟨s,hs,e⟩:=zBR GD hv hd
   have h1:=GC.unique (GD.dir_sys hs GD.point_sys 1) GD.point_sys (fun j hj=>by
    have h2:D.bas P (C.free j)=false:=by
     cases h3:D.bas P (C.free j) with
     | false=>rfl
     | true=>have:=h _ (GC.fLt j hj) h3; rw [zBw GC hj] at this; cases this
    obtain ⟨k,hk,e2⟩:=zBR GD (GC.fLt j hj) h2;rw [<-e2,GD.dir_free hs hk,if_neg]
    ·grind
    ·rintro rfl;have:C.free j=v:=by rw [<-e2]; exact e
     rw [<-this,zBw GC hj] at hc; cases hc) hv
   rw [<-e,GD.dir_free hs hs,if_pos rfl] at h1;grind
theorem path (GD:Good P D):∀ (N:Nat) (C:Dict) (k:Nat),Good P C->C.Fits P k->1<=k->count (fun v=>D.bas P v && ! C.bas P v) (P.n+P.m)<=N->
  ∃ C',Good P C'/\C'.Fits P (5 ^ N*k)/\∀ v,v<P.n+P.m->C'.bas P v=D.bas P v:=by
 intro N
 induction N with
 | zero=>
  intro C k GC hF _ hN;refine ⟨C,GC,by simpa using hF,zJw GC GD fun v hv hb=>?_⟩;have:=zHs (Nat.le_zero.1 hN) v hv
  simpa [hb] using this
 | succ N ih=>
  intro C k GC hF hk hN;by_cases hex:∃ u,u<P.n+P.m/\D.bas P u=true/\C.bas P u=false
  ·obtain ⟨u,hu,hub,huc⟩:=hex;obtain ⟨s,hs,es⟩:=zBR GC hu huc
   have hr:∃ r,r<P.m/\D.bas P (C.basic r)=false/\C.a r s ≠ 0:=by
    apply Classical.byContradiction;intro hno
    have h1:=GD.unique (GC.dir_sys hs GC.point_sys 1) GC.point_sys (fun j hj=>by
     have hj1:D.bas P (D.free j)=false:=zBw GD hj
     cases hc:C.bas P (D.free j) with
     | true=>
      obtain ⟨i,hi,e⟩:=zFe hc;rw [<-e,GC.dir_basic hi];have:C.a i s=0:=Classical.byContradiction fun h0=>hno ⟨i,hi,by rw [e]; exact hj1,h0⟩
      rw [this]; grind
     | false=>
      obtain ⟨i,hi,e⟩:=zBR GC (GD.fLt j hj) hc;rw [<-e,GC.dir_free hs hi,if_neg]
      ·grind
      ·rintro rfl;rw [<-e,es,hub] at hj1; cases hj1) hu
    rw [<-es,GC.dir_free hs hs,if_pos rfl] at h1;grind
   obtain ⟨r,hr,hrd,h0⟩:=hr;have GC':=GC.pivot hr hs h0;have hF':=(zHF (r:=r) (s:=s) hF hr hs)
   obtain ⟨C',g1,g2,g3⟩:=ih (C.pivot r s) (5*k) GC' ⟨fun i j hi hj=>(hF'.1 i j hi hj).mono (by omega),fun l j hl hj=>(hF'.2 l j hl hj).mono (by omega)⟩ (by omega) (by
    refine Nat.le_of_lt_succ (ltl (zI8 (u:=u) (fun v hv hp=>?_) hu ?_ ?_) hN)
    ·simp only [Bool.and_eq_true,Bool.not_eq_true'] at hp ⊢;refine ⟨hp.1,?_⟩
     cases hc:C.bas P v with
     | false=>rfl
     | true=>
      have:=leaves GC hr hs h0 hv hc hp.2;rw [this,hrd] at hp; cases hp.1
    ·rw [<-es,entered hr]; simp
    ·simp [hub,huc])
   refine ⟨C',g1,?_,g3⟩;rw [Nat.pow_succ,Nat.mul_assoc]; exact g2
  ·obtain ⟨C',g1,g2,g3⟩:=ih C k GC hF hk (by
    have:count (fun v=>D.bas P v && ! C.bas P v) (P.n+P.m)<=count (fun _=>false) (P.n+P.m):=zFj _ fun v hv hp=>by
     simp only [Bool.and_eq_true,Bool.not_eq_true'] at hp;exact absurd ⟨v,hv,hp.1,hp.2⟩ hex
    have h0:∀ N,count (fun _=>false) N=0:=fun N=>by induction N <;> simp_all [count]
    rw [h0] at this; omega)
   have h5:5 ^ N*k<=5 ^ (N+1)*k:=Nat.mul_le_mul_right _ (Nat.pow_le_pow_right (by omega) (by omega));exact ⟨C',g1,⟨fun i j hi hj=>(g2.1 i j hi hj).mono h5,fun l j hl hj=>(g2.2 l j hl hj).mono h5⟩,g3⟩
theorem zIT (P:Prob) {v:Nat} (h1:P.n<=v) (hv:v<P.n+P.m):P.start.bas P v=true:=by
 have:=zEP (P:=P) (D:=P.start) (i:=v-P.n) (by omega);simpa [Prob.start,show P.n+(v-P.n)=v by omega] using this
theorem Good.fits (G:Good P D) (hk:1<=k) (h0:P.start.Fits P k):D.Fits P (5 ^ P.n*k):=by
 obtain ⟨C,GC,hF,hb⟩:=path G P.n P.start k P.start_good h0 hk (by
  refine nlt (zFj (q:=fun v=>decide (v<P.n)) _ fun v hv hp=>?_) (zGo _ (fun v hv=>by simp; omega));simp only [Bool.and_eq_true,Bool.not_eq_true'] at hp;rcases Nat.lt_or_ge v P.n with h | h
  ·simpa using h
  ·rw [zIT P h hv] at hp; cases hp.2)
 have hfree:∀ j,j<P.n->∃ j',j'<P.n/\C.free j'=D.free j:=fun j hj=>
  zBR GC (G.fLt j hj) (by rw [hb _ (G.fLt j hj)]; exact zBw G hj)
 have hpt:∀ v,v<P.n+P.m->D.point P v=C.point P v:=fun v hv=>G.unique G.point_sys GC.point_sys (fun j hj=>by
  rw [G.point_free hj,zB8 (by rw [hb _ (G.fLt j hj)]; exact zBw G hj)]) hv
 have hdir:∀ j j',j<P.n->j'<P.n->C.free j'=D.free j->∀ v,v<P.n+P.m->D.dir P j v=C.dir P j' v:=by
  intro j j' hj hj' e v hv
  have h1:=G.unique (G.dir_sys hj G.point_sys 1) (GC.dir_sys hj' GC.point_sys 1) (fun i hi=>by
   rw [hpt _ (G.fLt i hi),G.dir_free hj hi];obtain ⟨i',hi',e'⟩:=hfree i hi;rw [<-e',GC.dir_free hj' hi'];by_cases h:i=j
   ·have:i'=j':=GC.fInj _ _ hi' hj' (by rw [e',h,e]);rw [if_pos h,if_pos this]
   ·have:i' ≠ j':=(fun h'=>h (G.fInj _ _ hi hj (by rw [<-e',h',e])));rw [if_neg h,if_neg this]) hv
  have:=hpt v hv;grind
 constructor
 ·intro i j hi hj;obtain ⟨i',hi',ei⟩:∃ i',i'<P.m/\C.basic i'=D.basic i:=zFe (by rw [hb _ (G.bLt i hi)]; exact zEP hi);by_cases hjn:j=P.n
  ·have h1:=hpt _ (G.bLt i hi);rw [G.point_basic hi,<-ei,GC.point_basic hi'] at h1;rw [hjn,h1]; exact hF.1 _ _ hi' (by omega)
  ·obtain ⟨j',hj',ej⟩:=hfree j (by omega);have h1:=hdir j j' (by omega) hj' ej _ (G.bLt i hi);rw [G.dir_basic hi,<-ei,GC.dir_basic hi'] at h1;have:D.a i j=C.a i' j':=(by grind);rw [this]; exact hF.1 _ _ hi' (by omega)
 ·intro l j hl hj;have hc:∀ j,D.cost P l j=D.c l j:=fun j=>by simp [Dict.cost,hl]
  have hc':∀ j,C.cost P l j=C.c l j:=fun j=>by simp [Dict.cost,hl]
  by_cases hjn:j=P.n
  ·have h1:=G.obj_point (l:=l) (by omega);rw [zCo (fun v hv=>hpt v (by omega)) (by omega),GC.obj_point (by omega),hc,hc'] at h1;rw [hjn,<-h1]; exact hF.2 _ _ hl (by omega)
  ·obtain ⟨j',hj',ej⟩:=hfree j (by omega);have h1:=G.obj_dir (s:=j) (by omega) G.point_sys 1 (l:=l) (by omega);have h2:=GC.obj_dir (s:=j') hj' GC.point_sys 1 (l:=l) (by omega);rw [zCo (y:=fun v=>C.point P v+1*C.dir P j' v) (fun v hv=>by rw [hpt v (by omega),hdir j j' (by omega) hj' ej v (by omega)]) (by omega),h2,zCo (x:=D.point P) (y:=C.point P) (fun v hv=>hpt v (by omega)) (by omega),hc,hc'] at h1;have:D.c l j=C.c l j':=(by grind);rw [this]; exact hF.2 _ _ hl (by omega)
end Go.Proofs.YtpjaodcimomaiaaGreat.Lin
namespace Go.Proofs.YtpjaodcimomaiaaGreat
open Go.RowKit
variable {B b k V g:Nat} {f:Nat->Rat}
structure Fr (G:Nat->Prop) (w w':World):Prop where
 os:w'.os=w.os
 tape:w'.tape=w.tape
 output:w'.output=w.output
 size:w.heap.size<=w'.heap.size
 block:∀ b,b<w.heap.size->¬ G b->w'.heap[b]?=w.heap[b]?
section
variable {G H:Nat->Prop} {w w' w'':World}
theorem Fr.refl (G:Nat->Prop) (w:World):Fr G w w:=⟨rfl,rfl,rfl,nlr _,fun _ _ _=>rfl⟩
theorem Fr.trans (h:Fr G w w') (k:Fr G w' w''):Fr G w w'':=
 ⟨k.os.trans h.os,k.tape.trans h.tape,k.output.trans h.output,nlt h.size k.size,fun b hb hg=>(k.block b (ltl hb h.size) hg).trans (h.block b hb hg)⟩
theorem Fr.mono (h:Fr G w w') (hG:∀ b,G b->H b):Fr H w w':=⟨h.os,h.tape,h.output,h.size,fun b hb hg=>h.block b hb fun x=>hg (hG b x)⟩
theorem Fr.of_below (h:Below w.heap.size w w'):Fr G w w':=⟨h.os,h.tape,h.output,h.size,fun b hb _=>h.block b hb⟩
theorem Fr.below (h:Fr G w w') (hB:B<=w.heap.size) (hG:∀ b,G b->B<=b):Below B w w':=
 ⟨h.os,h.tape,h.output,h.size,fun b hb=>h.block b (by omega) fun x=>by have:=hG b x; omega⟩
theorem Fr.call (h:Fr G w w') (k:Below w'.heap.size w' w''):Fr G w w'':=h.trans (Fr.of_below k)
theorem Fr.set (h:Fr G w w') {p:Addr} (hp:G p.block) (v:Value):Fr G w (w'.setCell p v):=
 ⟨h.os,h.tape,h.output,by simpa [World.setCell] using h.size,fun b hb hg=>(bhs _ _ _ _ (fun e=>hg (by rw [e]; exact hp))).trans (h.block b hb hg)⟩
theorem Fr.put4 (h:Fr G w w') (hb:G b) (k:Nat) (v:QV):Fr G w (put4 w' b k v):=
 (((h.set (p:=⟨b,k*4,none⟩) hb _).set (p:=⟨b,k*4+1,none⟩) hb _).set (p:=⟨b,k*4+2,none⟩) hb _).set (p:=⟨b,k*4+3,none⟩) hb _
theorem Fr.cell (h:Fr G w w') {p:Addr} (hp:p.block<w.heap.size) (hg:¬ G p.block):w'.cell? p=w.cell? p:=cob (h.block _ hp hg)
theorem Fr.drew (h:Fr G w w'):Fr G w w'.drew:=h.trans (Fr.of_below (brf _ _).drew)
end
def rowL (V:Nat) (f:Nat->Rat):List Rat:=(List.range (V+1)).map f
theorem zAm (V:Nat) (f:Nat->Rat):(rowL V f).length=V+1:=by simp [rowL]
theorem zAL (f:Nat->Rat) (hk:k<=V):(rowL V f).getD k 0=f k:=by
 simp [rowL,List.getElem?_map,List.getElem?_range (show k<V+1 by omega)]
theorem zBs {g:Nat->Rat} (h:∀ k,k<=V->f k=g k):rowL V f=rowL V g:=by
 unfold rowL;apply List.map_congr_left;intro k hk;rw [List.mem_range] at hk;exact h k (by omega)
theorem zD1 (f:Nat->Rat) (q:Rat):(rowL V f).set k q=rowL V (Lin.turn f k q):=by
 apply List.ext_getElem
 ·simp [rowL]
 ·intro i h1 h2;simp only [rowL,List.getElem_set,List.getElem_map,List.getElem_range,Lin.turn];by_cases e:k=i
  ·subst e; simp
  ·rw [if_neg e,if_neg (Ne.symm e)]
structure Arr (W:World) (s:SV) (n:Nat) (T:TypeId) (f:Nat->Value):Prop where
 len:s.n=n
 le:s.n<=s.c
 cap:s.c<=9223372036854775807
 blk:(s.A=none/\n=0)\/∃ g cs,s.A=some ⟨g,0,none⟩/\W.heap[g]?=some (.cells cs T (0,0))/\∀ k,k<n->cs[k]?=some (f k)
section
variable {W W':World} {s:SV} {n:Nat} {T:TypeId} {f:Nat->Value}
theorem Arr.elem (h:Arr W s n T f) (hk:k<n):∃ g,s.A=some ⟨g,0,none⟩/\W.cell? ⟨g,k,none⟩=some (f k)/\(∀ o,W.frozen? ⟨g,o,none⟩=false)/\g<W.heap.size:=by
 rcases h.blk with ⟨_,h0⟩ | ⟨g,cs,e,hb,hc⟩
 ·omega
 ·exact ⟨g,e,by simp [World.cell?,hb,hc k hk],fun o=>by simp [World.frozen?,hb],zAa hb⟩
theorem Arr.keep (h:Arr W s n T f) (hk:∀ g,s.A=some ⟨g,0,none⟩->g<W.heap.size->W'.heap[g]?=W.heap[g]?):Arr W' s n T f:=
 ⟨h.len,h.le,h.cap,by
  rcases h.blk with h0 | ⟨g,cs,e,hb,hc⟩
  ·exact .inl h0
  ·exact .inr ⟨g,cs,e,(hk g e (zAa hb)).trans hb,hc⟩⟩
theorem Arr.below (h:Arr W s n T f) (hb:Below W.heap.size W W'):Arr W' s n T f:=h.keep fun g _ hl=>hb.block g hl
theorem Arr.set (h:Arr W s n T f) (e:s.A=some ⟨g,0,none⟩) (v:Value):Arr (W.setCell ⟨g,k,none⟩ v) s n T (fun j=>if j=k then v else f j):=
 ⟨h.len,h.le,h.cap,by
  rcases h.blk with ⟨h0,_⟩ | ⟨g',cs,e',hb,hc⟩
  ·rw [h0] at e; cases e
  ·rw [e] at e'; cases e'
   refine .inr ⟨g,_,e,zAe v hb,fun j hj=>?_⟩;have hs:j<cs.size:=(Array.getElem?_eq_some_iff.1 (hc j hj)).1;rw [Array.getElem?_setIfInBounds];by_cases ejk:k=j
   ·subst ejk; rw [if_pos rfl,if_pos hs,if_pos rfl]
   ·rw [if_neg ejk,if_neg (Ne.symm ejk)]; exact hc j hj⟩
theorem Arr.congr {f':Nat->Value} (h:Arr W s n T f) (e:∀ k,k<n->f k=f' k):Arr W s n T f':=
 ⟨h.len,h.le,h.cap,by
  rcases h.blk with h0 | ⟨g,cs,e',hb,hc⟩
  ·exact .inl h0
  ·exact .inr ⟨g,cs,e',hb,fun k hk=>(hc k hk).trans (by rw [e k hk])⟩⟩
end
structure DV where
 d:Nat
 bas:SV
 fre:SV
 row:SV
 cst:SV
 rb:Nat->Nat
 cb:Nat->Nat
section
variable {W W':World} {G:Nat->Prop} {x:DV} {V M K:Nat} {D D':Lin.Dict} {pv rw cl:Int}
end
open Go.RowKit Go.Shelf
end Go.Proofs.YtpjaodcimomaiaaGreat
