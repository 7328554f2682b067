/- Texts Simplex4 DA Long3 Long4 Long5 Long6 PrH of this claim. -/
import Derived.Test.YtpjaodcimomaiaaGreatR00
import Derived.Test.YtpjaodcimomaiaaGreatR11
import Derived.Test.YtpjaodcimomaiaaGreatR10
set_option maxHeartbeats 4000000
set_option maxRecDepth 20000
namespace Go.Proofs.YtpjaodcimomaiaaGreat.Lin
variable {q p:Rat} {d k r N n:Nat} {D:Dict} {P:Prob}
def Fits (k:Nat) (q:Rat):Prop:=q.num.natAbs<=2 ^ k/\q.den<=2 ^ k
theorem zGx {n:Int} (hd:d ≠ 0) (e:q=mkRat n d) (hn:n.natAbs<=2 ^ k) (hk:d<=2 ^ k):Fits k q:=by
 obtain ⟨m,hm,h1,h2⟩:=Rat.mkRat_num_den hd (show mkRat n d=⟨q.num,q.den,q.den_nz,q.reduced⟩ from e.symm);constructor
 ·rw [h1,Int.natAbs_mul] at hn;have:q.num.natAbs*1<=q.num.natAbs*(m:Int).natAbs:=Nat.mul_le_mul_left _ (by omega);omega
 ·rw [h2] at hk;have:q.den*1<=q.den*m:=Nat.mul_le_mul_left _ (by omega);omega
theorem Fits.mono {l:Nat} (h:Fits k q) (hl:k<=l):Fits l q:=
 have:2 ^ k<=2 ^ l:=Nat.pow_le_pow_right (by omega) hl
 ⟨nlt h.1 this,nlt h.2 this⟩
theorem Fits.mul {l:Nat} (h:Fits k p) (h':Fits l q):Fits (k+l) (p*q):=by
 refine zGx (n:=p.num*q.num) (d:=p.den*q.den) (by have:=p.den_nz; have:=q.den_nz; exact Nat.mul_ne_zero ‹_› ‹_›) ?_ ?_ ?_
 ·rw [<-Rat.mkRat_mul_mkRat,Rat.mkRat_self,Rat.mkRat_self]
 ·rw [Int.natAbs_mul,Nat.pow_add]; exact Nat.mul_le_mul h.1 h'.1
 ·rw [Nat.pow_add]; exact Nat.mul_le_mul h.2 h'.2
theorem Fits.add {l:Nat} (h:Fits k p) (h':Fits l q):Fits (k+l+1) (p+q):=by
 refine zGx (n:=p.num*q.den+q.num*p.den) (d:=p.den*q.den) (by have:=p.den_nz; have:=q.den_nz; exact Nat.mul_ne_zero ‹_› ‹_›) ?_ ?_ ?_
 ·rw [<-Rat.mkRat_add_mkRat _ _ p.den_nz q.den_nz,Rat.mkRat_self,Rat.mkRat_self]
 ·have h1:(p.num*q.den).natAbs<=2 ^ k*2 ^ l:=by rw [Int.natAbs_mul]; exact Nat.mul_le_mul h.1 h'.2
  have h2:(q.num*p.den).natAbs<=2 ^ k*2 ^ l:=by rw [Int.natAbs_mul,Nat.mul_comm]; exact Nat.mul_le_mul h.2 h'.1
  have h3:=Int.natAbs_add_le (p.num*q.den) (q.num*p.den);rw [Nat.pow_succ,Nat.pow_add]; omega
 ·have:p.den*q.den<=2 ^ k*2 ^ l:=Nat.mul_le_mul h.2 h'.2;rw [Nat.pow_succ,Nat.pow_add]; omega
theorem Fits.neg (h:Fits k p):Fits k (- p):=⟨by show (- p.num).natAbs<=_; rw [Int.natAbs_neg]; exact h.1,h.2⟩
theorem Fits.sub {l:Nat} (h:Fits k p) (h':Fits l q):Fits (k+l+1) (p-q):=by rw [Rat.sub_eq_add_neg]; exact h.add h'.neg
theorem Fits.zero (k:Nat):Fits k 0:=⟨by show 0<=_; exact nzl _,by show 1<=_; exact Nat.pow_pos (by omega)⟩
theorem Fits.one (k:Nat):Fits k 1:=⟨by show 1<=_; exact Nat.pow_pos (by omega),by show 1<=_; exact Nat.pow_pos (by omega)⟩
theorem Fits.inv (h:Fits k p):Fits k p⁻¹:=by
 rcases Decidable.em (p=0) with h0 | h0
 ·rw [h0,Rat.inv_zero]; exact Fits.zero k
 ·have hn:p.num ≠ 0:=fun e=>h0 (Rat.num_eq_zero.1 e)
  refine zGx (n:=p.num.sign*p.den) (d:=p.num.natAbs) (by omega) ?_ ?_ h.1
  ·rw [Rat.inv_def,Rat.divInt_eq_div,Rat.mkRat_eq_div]
   have e1:(p.num:Rat)=(p.num.sign:Rat)*(p.num.natAbs:Rat):=by
    have:=Int.sign_mul_natAbs p.num;exact_mod_cast this.symm
   have hs:(p.num.sign:Rat)*(p.num.sign:Rat)=1:=by
    have:p.num.sign*p.num.sign=1:=by
     rcases Int.lt_trichotomy p.num 0 with h | h | h
     ·rw [Int.sign_eq_neg_one_of_neg h]; rfl
     ·exact absurd h hn
     ·rw [Int.sign_eq_one_of_pos h]; rfl
    exact_mod_cast this
   have hs0:(p.num.sign:Rat) ≠ 0:=by intro e; rw [e] at hs; grind
   have hn0:(p.num.natAbs:Rat) ≠ 0:=by
    have:p.num.natAbs ≠ 0:=(by omega);exact_mod_cast this
   rw [e1];push_cast;grind
  ·rw [Int.natAbs_mul,Int.natAbs_sign_of_ne_zero hn]; simpa using h.2
def Dict.Fits (P:Prob) (D:Dict) (k:Nat):Prop:=(∀ i j,i<P.m->j<=P.n->Lin.Fits k (D.a i j))/\∀ l j,l<P.K->j<=P.n->Lin.Fits k (D.c l j)
theorem zHF {s:Nat} (h:D.Fits P k) (hr:r<P.m) (hs:s<P.n):(D.pivot r s).Fits P (4*k+1):=by
 have hb:∀ j,j<=P.n->Lin.Fits (2*k) (scaled s (D.a r) j):=by
  intro j hj;unfold scaled
  split
  ·exact (h.1 r s hr (by omega)).inv.mono (by omega)
  ·exact ((h.1 r s hr (by omega)).inv.mul (h.1 r j hr hj)).mono (by omega)
 have he:∀ R:Nat->Rat,(∀ j,j<=P.n->Lin.Fits k (R j))->∀ j,j<=P.n->Lin.Fits (4*k+1) (elim s (scaled s (D.a r)) R j):=by
  intro R hR j hj;unfold elim;have h1:=(hR s (by omega)).mul (hb j hj)
  split
  ·exact ((Fits.zero k).sub h1).mono (by omega)
  ·exact ((hR j hj).sub h1).mono (by omega)
 constructor
 ·intro i j hi hj;simp only [Dict.pivot]
  split
  ·exact (hb j hj).mono (by omega)
  ·exact he _ (fun j hj=>h.1 i j hi hj) j hj
 ·intro l j hl hj;exact he _ (fun j hj=>h.2 l j hl hj) j hj
def count (p:Nat->Bool):Nat->Nat
 | 0=>0
 | N+1=>count p N+if p N then 1 else 0
theorem zFj {p q:Nat->Bool} (N:Nat) (h:∀ v,v<N->p v=true->q v=true):count p N<=count q N:=by
 induction N with
 | zero=>exact nlr _
 | succ N ih=>
  have:=ih fun v hv=>h v (by omega)
  have h1:=h N (by omega);simp only [count];cases hp:p N <;> cases hq:q N <;> simp_all <;> omega
theorem zI8 {p q:Nat->Bool} {u:Nat} (h:∀ v,v<N->p v=true->q v=true) (hu:u<N) (h1:p u=false) (h2:q u=true):count p N<count q N:=by
 induction N with
 | zero=>omega
 | succ N ih=>
  simp only [count];by_cases e:u=N
  ·subst e;have:=zFj u fun v hv=>h v (by omega)
   simp [h1,h2]; omega
  ·have:=ih (fun v hv=>h v (by omega)) (by omega);have h1:=h N (by omega);cases hp:p N <;> cases hq:q N <;> simp_all <;> omega
theorem zHs {p:Nat->Bool} (h:count p N=0):∀ v,v<N->p v=false:=by
 induction N with
 | zero=>intro v hv; omega
 | succ N ih=>
  simp only [count] at h;intro v hv;by_cases e:v=N
  ·subst e; cases hp:p v with
   | false=>rfl
   | true=>simp [hp] at h
  ·exact ih (by omega) v (by omega)
theorem zGo {p:Nat->Bool} :∀ N,(∀ v,n<=v->p v=false)->count p N<=n:=by
 intro N
 induction N with
 | zero=>intro _; simp [count]
 | succ N ih=>
  intro h;have h1:=ih h;simp only [count];by_cases e:n<=N
  ·simp [h N e]; exact h1
  ·have h2:∀ N,count p N<=N:=fun N=>by
    induction N with
    | zero=>exact nlr _
    | succ N ih=>simp only [count]; split <;> omega
   have:=h2 N
   split <;> omega
theorem zJw {C:Dict} (GC:Good P C) (GD:Good P D) (h:∀ v,v<P.n+P.m->D.bas P v=true->C.bas P v=true):∀ v,v<P.n+P.m->C.bas P v=D.bas P v:=by
 intro v hv
 cases hd:D.bas P v with
 | true=>exact h v hv hd
 | false=>
  cases hc:C.bas P v with
  | false=>rfl
  | true=>
   exfalso;obtain ⟨s,hs,e⟩:=zBR GD hv hd
   have h1:=GC.unique (GD.dir_sys hs GD.point_sys 1) GD.point_sys (fun j hj=>by
    have h2:D.bas P (C.free j)=false:=by
     cases h3:D.bas P (C.free j) with
     | false=>rfl
     | true=>have:=h _ (GC.fLt j hj) h3; rw [zBw GC hj] at this; cases this
    obtain ⟨k,hk,e2⟩:=zBR GD (GC.fLt j hj) h2;rw [<-e2,GD.dir_free hs hk,if_neg]
    ·grind
    ·rintro rfl;have:C.free j=v:=by rw [<-e2]; exact e
     rw [<-this,zBw GC hj] at hc; cases hc) hv
   rw [<-e,GD.dir_free hs hs,if_pos rfl] at h1;grind
theorem path (GD:Good P D):∀ (N:Nat) (C:Dict) (k:Nat),Good P C->C.Fits P k->1<=k->count (fun v=>D.bas P v && ! C.bas P v) (P.n+P.m)<=N->
  ∃ C',Good P C'/\C'.Fits P (5 ^ N*k)/\∀ v,v<P.n+P.m->C'.bas P v=D.bas P v:=by
 intro N
 induction N with
 | zero=>
  intro C k GC hF _ hN;refine ⟨C,GC,by simpa using hF,zJw GC GD fun v hv hb=>?_⟩;have:=zHs (Nat.le_zero.1 hN) v hv
  simpa [hb] using this
 | succ N ih=>
  intro C k GC hF hk hN;by_cases hex:∃ u,u<P.n+P.m/\D.bas P u=true/\C.bas P u=false
  ·obtain ⟨u,hu,hub,huc⟩:=hex;obtain ⟨s,hs,es⟩:=zBR GC hu huc
   have hr:∃ r,r<P.m/\D.bas P (C.basic r)=false/\C.a r s ≠ 0:=by
    apply Classical.byContradiction;intro hno
    have h1:=GD.unique (GC.dir_sys hs GC.point_sys 1) GC.point_sys (fun j hj=>by
     have hj1:D.bas P (D.free j)=false:=zBw GD hj
     cases hc:C.bas P (D.free j) with
     | true=>
      obtain ⟨i,hi,e⟩:=zFe hc;rw [<-e,GC.dir_basic hi];have:C.a i s=0:=Classical.byContradiction fun h0=>hno ⟨i,hi,by rw [e]; exact hj1,h0⟩
      rw [this]; grind
     | false=>
      obtain ⟨i,hi,e⟩:=zBR GC (GD.fLt j hj) hc;rw [<-e,GC.dir_free hs hi,if_neg]
      ·grind
      ·rintro rfl;rw [<-e,es,hub] at hj1; cases hj1) hu
    rw [<-es,GC.dir_free hs hs,if_pos rfl] at h1;grind
   obtain ⟨r,hr,hrd,h0⟩:=hr;have GC':=GC.pivot hr hs h0;have hF':=(zHF (r:=r) (s:=s) hF hr hs)
   obtain ⟨C',g1,g2,g3⟩:=ih (C.pivot r s) (5*k) GC' ⟨fun i j hi hj=>(hF'.1 i j hi hj).mono (by omega),fun l j hl hj=>(hF'.2 l j hl hj).mono (by omega)⟩ (by omega) (by
    refine Nat.le_of_lt_succ (ltl (zI8 (u:=u) (fun v hv hp=>?_) hu ?_ ?_) hN)
    ·simp only [Bool.and_eq_true,Bool.not_eq_true'] at hp ⊢;refine ⟨hp.1,?_⟩
     cases hc:C.bas P v with
     | false=>rfl
     | true=>
      have:=leaves GC hr hs h0 hv hc hp.2;rw [this,hrd] at hp; cases hp.1
    ·rw [<-es,entered hr]; simp
    ·simp [hub,huc])
   refine ⟨C',g1,?_,g3⟩;rw [Nat.pow_succ,Nat.mul_assoc]; exact g2
  ·obtain ⟨C',g1,g2,g3⟩:=ih C k GC hF hk (by
    have:count (fun v=>D.bas P v && ! C.bas P v) (P.n+P.m)<=count (fun _=>false) (P.n+P.m):=zFj _ fun v hv hp=>by
     simp only [Bool.and_eq_true,Bool.not_eq_true'] at hp;exact absurd ⟨v,hv,hp.1,hp.2⟩ hex
    have h0:∀ N,count (fun _=>false) N=0:=fun N=>by induction N <;> simp_all [count]
    rw [h0] at this; omega)
   have h5:5 ^ N*k<=5 ^ (N+1)*k:=Nat.mul_le_mul_right _ (Nat.pow_le_pow_right (by omega) (by omega));exact ⟨C',g1,⟨fun i j hi hj=>(g2.1 i j hi hj).mono h5,fun l j hl hj=>(g2.2 l j hl hj).mono h5⟩,g3⟩
theorem zIT (P:Prob) {v:Nat} (h1:P.n<=v) (hv:v<P.n+P.m):P.start.bas P v=true:=by
 have:=zEP (P:=P) (D:=P.start) (i:=v-P.n) (by omega);simpa [Prob.start,show P.n+(v-P.n)=v by omega] using this
theorem Good.fits (G:Good P D) (hk:1<=k) (h0:P.start.Fits P k):D.Fits P (5 ^ P.n*k):=by
 obtain ⟨C,GC,hF,hb⟩:=path G P.n P.start k P.start_good h0 hk (by
  refine nlt (zFj (q:=fun v=>decide (v<P.n)) _ fun v hv hp=>?_) (zGo _ (fun v hv=>by simp; omega));simp only [Bool.and_eq_true,Bool.not_eq_true'] at hp;rcases Nat.lt_or_ge v P.n with h | h
  ·simpa using h
  ·rw [zIT P h hv] at hp; cases hp.2)
 have hfree:∀ j,j<P.n->∃ j',j'<P.n/\C.free j'=D.free j:=fun j hj=>
  zBR GC (G.fLt j hj) (by rw [hb _ (G.fLt j hj)]; exact zBw G hj)
 have hpt:∀ v,v<P.n+P.m->D.point P v=C.point P v:=fun v hv=>G.unique G.point_sys GC.point_sys (fun j hj=>by
  rw [G.point_free hj,zB8 (by rw [hb _ (G.fLt j hj)]; exact zBw G hj)]) hv
 have hdir:∀ j j',j<P.n->j'<P.n->C.free j'=D.free j->∀ v,v<P.n+P.m->D.dir P j v=C.dir P j' v:=by
  intro j j' hj hj' e v hv
  have h1:=G.unique (G.dir_sys hj G.point_sys 1) (GC.dir_sys hj' GC.point_sys 1) (fun i hi=>by
   rw [hpt _ (G.fLt i hi),G.dir_free hj hi];obtain ⟨i',hi',e'⟩:=hfree i hi;rw [<-e',GC.dir_free hj' hi'];by_cases h:i=j
   ·have:i'=j':=GC.fInj _ _ hi' hj' (by rw [e',h,e]);rw [if_pos h,if_pos this]
   ·have:i' ≠ j':=(fun h'=>h (G.fInj _ _ hi hj (by rw [<-e',h',e])));rw [if_neg h,if_neg this]) hv
  have:=hpt v hv;grind
 constructor
 ·intro i j hi hj;obtain ⟨i',hi',ei⟩:∃ i',i'<P.m/\C.basic i'=D.basic i:=zFe (by rw [hb _ (G.bLt i hi)]; exact zEP hi);by_cases hjn:j=P.n
  ·have h1:=hpt _ (G.bLt i hi);rw [G.point_basic hi,<-ei,GC.point_basic hi'] at h1;rw [hjn,h1]; exact hF.1 _ _ hi' (by omega)
  ·obtain ⟨j',hj',ej⟩:=hfree j (by omega);have h1:=hdir j j' (by omega) hj' ej _ (G.bLt i hi);rw [G.dir_basic hi,<-ei,GC.dir_basic hi'] at h1;have:D.a i j=C.a i' j':=(by grind);rw [this]; exact hF.1 _ _ hi' (by omega)
 ·intro l j hl hj;have hc:∀ j,D.cost P l j=D.c l j:=fun j=>by simp [Dict.cost,hl]
  have hc':∀ j,C.cost P l j=C.c l j:=fun j=>by simp [Dict.cost,hl]
  by_cases hjn:j=P.n
  ·have h1:=G.obj_point (l:=l) (by omega);rw [zCo (fun v hv=>hpt v (by omega)) (by omega),GC.obj_point (by omega),hc,hc'] at h1;rw [hjn,<-h1]; exact hF.2 _ _ hl (by omega)
  ·obtain ⟨j',hj',ej⟩:=hfree j (by omega);have h1:=G.obj_dir (s:=j) (by omega) G.point_sys 1 (l:=l) (by omega);have h2:=GC.obj_dir (s:=j') hj' GC.point_sys 1 (l:=l) (by omega);rw [zCo (y:=fun v=>C.point P v+1*C.dir P j' v) (fun v hv=>by rw [hpt v (by omega),hdir j j' (by omega) hj' ej v (by omega)]) (by omega),h2,zCo (x:=D.point P) (y:=C.point P) (fun v hv=>hpt v (by omega)) (by omega),hc,hc'] at h1;have:D.c l j=C.c l j':=(by grind);rw [this]; exact hF.2 _ _ hl (by omega)
end Go.Proofs.YtpjaodcimomaiaaGreat.Lin
namespace Go.Proofs.YtpjaodcimomaiaaGreat
open Go.RowKit
variable {B b k V g L i n c:Nat} {f:Nat->Rat} {q:Rat} {Y X X' Y':Nat->Prop} {w w' W:World} {s:SV} {A:Option Addr} {bs:List Rat} {os rs:List (List Rat)}
structure Fr (G:Nat->Prop) (w w':World):Prop where
 os:w'.os=w.os
 tape:w'.tape=w.tape
 output:w'.output=w.output
 size:w.heap.size<=w'.heap.size
 block:∀ b,b<w.heap.size->¬ G b->w'.heap[b]?=w.heap[b]?
section
variable {G H:Nat->Prop} {w w' w'':World}
theorem Fr.refl (G:Nat->Prop) (w:World):Fr G w w:=⟨rfl,rfl,rfl,nlr _,fun _ _ _=>rfl⟩
theorem Fr.trans (h:Fr G w w') (k:Fr G w' w''):Fr G w w'':=
 ⟨k.os.trans h.os,k.tape.trans h.tape,k.output.trans h.output,nlt h.size k.size,fun b hb hg=>(k.block b (ltl hb h.size) hg).trans (h.block b hb hg)⟩
theorem Fr.mono (h:Fr G w w') (hG:∀ b,G b->H b):Fr H w w':=⟨h.os,h.tape,h.output,h.size,fun b hb hg=>h.block b hb fun x=>hg (hG b x)⟩
theorem Fr.of_below (h:Below w.heap.size w w'):Fr G w w':=⟨h.os,h.tape,h.output,h.size,fun b hb _=>h.block b hb⟩
theorem Fr.below (h:Fr G w w') (hB:B<=w.heap.size) (hG:∀ b,G b->B<=b):Below B w w':=
 ⟨h.os,h.tape,h.output,h.size,fun b hb=>h.block b (by omega) fun x=>by have:=hG b x; omega⟩
theorem Fr.call (h:Fr G w w') (k:Below w'.heap.size w' w''):Fr G w w'':=h.trans (Fr.of_below k)
theorem Fr.set (h:Fr G w w') {p:Addr} (hp:G p.block) (v:Value):Fr G w (w'.setCell p v):=
 ⟨h.os,h.tape,h.output,by simpa [World.setCell] using h.size,fun b hb hg=>(bhs _ _ _ _ (fun e=>hg (by rw [e]; exact hp))).trans (h.block b hb hg)⟩
theorem Fr.put4 (h:Fr G w w') (hb:G b) (k:Nat) (v:QV):Fr G w (put4 w' b k v):=
 (((h.set (p:=⟨b,k*4,none⟩) hb _).set (p:=⟨b,k*4+1,none⟩) hb _).set (p:=⟨b,k*4+2,none⟩) hb _).set (p:=⟨b,k*4+3,none⟩) hb _
theorem Fr.cell (h:Fr G w w') {p:Addr} (hp:p.block<w.heap.size) (hg:¬ G p.block):w'.cell? p=w.cell? p:=cob (h.block _ hp hg)
theorem Fr.drew (h:Fr G w w'):Fr G w w'.drew:=h.trans (Fr.of_below (brf _ _).drew)
end
def rowL (V:Nat) (f:Nat->Rat):List Rat:=(List.range (V+1)).map f
theorem zAm (V:Nat) (f:Nat->Rat):(rowL V f).length=V+1:=by simp [rowL]
theorem zAL (f:Nat->Rat) (hk:k<=V):(rowL V f).getD k 0=f k:=by
 simp [rowL,List.getElem?_map,List.getElem?_range (show k<V+1 by omega)]
theorem zBs {g:Nat->Rat} (h:∀ k,k<=V->f k=g k):rowL V f=rowL V g:=by
 unfold rowL;apply List.map_congr_left;intro k hk;rw [List.mem_range] at hk;exact h k (by omega)
theorem zD1 (f:Nat->Rat) (q:Rat):(rowL V f).set k q=rowL V (Lin.turn f k q):=by
 apply List.ext_getElem
 ·simp [rowL]
 ·intro i h1 h2;simp only [rowL,List.getElem_set,List.getElem_map,List.getElem_range,Lin.turn];by_cases e:k=i
  ·subst e; simp
  ·rw [if_neg e,if_neg (Ne.symm e)]
structure Arr (W:World) (s:SV) (n:Nat) (T:TypeId) (f:Nat->Value):Prop where
 len:s.n=n
 le:s.n<=s.c
 cap:s.c<=9223372036854775807
 blk:(s.A=none/\n=0)\/∃ g cs,s.A=some ⟨g,0,none⟩/\W.heap[g]?=some (.cells cs T (0,0))/\∀ k,k<n->cs[k]?=some (f k)
section
variable {W W':World} {s:SV} {n:Nat} {T:TypeId} {f:Nat->Value}
theorem Arr.elem (h:Arr W s n T f) (hk:k<n):∃ g,s.A=some ⟨g,0,none⟩/\W.cell? ⟨g,k,none⟩=some (f k)/\(∀ o,W.frozen? ⟨g,o,none⟩=false)/\g<W.heap.size:=by
 rcases h.blk with ⟨_,h0⟩ | ⟨g,cs,e,hb,hc⟩
 ·omega
 ·exact ⟨g,e,by simp [World.cell?,hb,hc k hk],fun o=>by simp [World.frozen?,hb],zAa hb⟩
theorem Arr.keep (h:Arr W s n T f) (hk:∀ g,s.A=some ⟨g,0,none⟩->g<W.heap.size->W'.heap[g]?=W.heap[g]?):Arr W' s n T f:=
 ⟨h.len,h.le,h.cap,by
  rcases h.blk with h0 | ⟨g,cs,e,hb,hc⟩
  ·exact .inl h0
  ·exact .inr ⟨g,cs,e,(hk g e (zAa hb)).trans hb,hc⟩⟩
theorem Arr.below (h:Arr W s n T f) (hb:Below W.heap.size W W'):Arr W' s n T f:=h.keep fun g _ hl=>hb.block g hl
theorem Arr.set (h:Arr W s n T f) (e:s.A=some ⟨g,0,none⟩) (v:Value):Arr (W.setCell ⟨g,k,none⟩ v) s n T (fun j=>if j=k then v else f j):=
 ⟨h.len,h.le,h.cap,by
  rcases h.blk with ⟨h0,_⟩ | ⟨g',cs,e',hb,hc⟩
  ·rw [h0] at e; cases e
  ·rw [e] at e'; cases e'
   refine .inr ⟨g,_,e,zAe v hb,fun j hj=>?_⟩;have hs:j<cs.size:=(Array.getElem?_eq_some_iff.1 (hc j hj)).1;rw [Array.getElem?_setIfInBounds];by_cases ejk:k=j
   ·subst ejk; rw [if_pos rfl,if_pos hs,if_pos rfl]
   ·rw [if_neg ejk,if_neg (Ne.symm ejk)]; exact hc j hj⟩
theorem Arr.congr {f':Nat->Value} (h:Arr W s n T f) (e:∀ k,k<n->f k=f' k):Arr W s n T f':=
 ⟨h.len,h.le,h.cap,by
  rcases h.blk with h0 | ⟨g,cs,e',hb,hc⟩
  ·exact .inl h0
  ·exact .inr ⟨g,cs,e',hb,fun k hk=>(hc k hk).trans (by rw [e k hk])⟩⟩
end
structure DV where
 d:Nat
 bas:SV
 fre:SV
 row:SV
 cst:SV
 rb:Nat->Nat
 cb:Nat->Nat
section
variable {W W':World} {G:Nat->Prop} {x:DV} {V M K:Nat} {D D':Lin.Dict} {pv rw cl:Int}
end
open Go.RowKit Go.Shelf
def QAny (w:World) (Y:Nat->Prop) (v:QV) (q:Rat):Prop:=∃ L,QIs w Y L v q
theorem QAny.below {v:QV} (h:QAny w Y v q) (hb:Below w.heap.size w w'):QAny w' Y v q:=by
 obtain ⟨L,h⟩:=h; exact ⟨L,h.below hb⟩
theorem QAny.qis {v:QV} (h:QAny w Y v q) (h1:v.num.n<=L) (h2:v.den.n<=L):QIs w Y L v q:=by
 obtain ⟨_,x,y,⟨lx,hx,-,ex⟩,⟨ly,hy,-,ey⟩,e⟩:=h;exact ⟨x,y,⟨lx,hx,h1,ex⟩,⟨ly,hy,h2,ey⟩,e⟩
theorem QAny.cap {v:QV} (h:QAny w Y v q):(v.num.n<=v.num.c/\v.num.c<=9223372036854775807)/\v.den.n<=v.den.c/\v.den.c<=9223372036854775807:=by
 obtain ⟨_,x,y,⟨lx,hx,-,-⟩,⟨ly,hy,-,-⟩,-⟩:=h;exact ⟨⟨hx.le,hx.cap⟩,hy.le,hy.cap⟩
def Seen6 (w:World) (A:Option Addr) (i:Nat):Prop:=∀ j,j<i->∀ ad v,A=some ad->QCell w (ad.add (j*4)) v->v.num.n<=6/\v.den.n<=6
theorem zDc {p:Addr} {v v':QV} (h:QCell w p v) (h':QCell w p v'):v=v':=by
 obtain ⟨a0,a1,a2,a3⟩:=h;obtain ⟨b0,b1,b2,b3⟩:=h';rw [a0] at b0; rw [a1] at b1; rw [a2] at b2; rw [a3] at b3
 obtain ⟨⟨n0,A0,m0,k0⟩,⟨n1,A1,m1,k1⟩⟩:=v;obtain ⟨⟨n0',A0',m0',k0'⟩,⟨n1',A1',m1',k1'⟩⟩:=v';simp at b0 b1 b2 b3;simp [b0,b1,b2,b3]
theorem Seen6.next {ad:Addr} {v:QV} (h:Seen6 w (some ad) i) (hc:QCell w (ad.add (i*4)) v) (h1:v.num.n<=6) (h2:v.den.n<=6):Seen6 w (some ad) (i+1):=by
 intro j hj ad' v' e hc';by_cases e2:j=i
 ·subst e2;cases e;rw [zDc hc' hc]; exact ⟨h1,h2⟩
 ·exact h j (by omega) ad' v' e hc'
def L2Loop (w:World) (A:Option Addr) (n:Nat) (t:Value) (W:World):Prop:=
 ∃ i:Nat,i<=n/\t = .int .i64 i/\Seen6 w A i/\Below w.heap.size w W
theorem zDG {l:List Rat} (h:VecAt w X (QAny w Y) s l) :
  Calls Tryz.prog 26 #[s.val] w fun e w'=>BRet (fun b=>b=false->VecIs w X Y 6 s l) e/\Below w.heap.size w w':=by
 have hn:=h.le;have hc:=h.cap;obtain ⟨A,n,c⟩:=s;dsimp only at hn hc;have HV:=hdq h;clear h;show Calls _ _ #[.slice A n c] _ _;go_enter Tryz.func26,Tryz.ntmps26
 go_wp2;go_loopw [3] (fun t W=>L2Loop w A n t W) (fun t _=>n-(intOf t).toNat)
 case atStart=>exact ⟨0,nzl _,rfl,fun j hj=>absurd hj (by omega),brf _ _⟩
 case round=>
  obtain ⟨i,hi,rfl,hseen,hB⟩:=hrel;have hseen:=hdq hseen;by_cases hlt:i<n
  ·obtain ⟨ad,v,e,hx,hcell,hq⟩:=HV.out.elem i hlt;dsimp only at e;subst e;have HC:=hdq hcell;obtain ⟨⟨k1,k2⟩,k3,k4⟩:=hq.cap;have hold:ad.block<w.heap.size:=by have:=zAb hcell.1; rwa [zAj] at this
   (obtain ⟨c0,c1,c2,c3⟩:=hcell.keep (w':=_) fun a ha hl=>hB.cell (by rw [ha]; exact hl));clear hq hx;(go_upto_region 4 with fail);have hBW:=hB.size;have hadl:(ad.add (i*4)).block<wr.heap.size:=zAb c0;refine zAp 1000 (fun _ w'=>Sees w.heap.size [] wr w') (by kernel_rfl) ?_;have hS0:Sees w.heap.size [] wr wr.drew:=Sees.st (by simp) hBW;refine tkX 0 (hS0) ?_;simp only [zz];refine tkX 1 (hS0) ?_;simp only [zz];refine tkX 2 (hS0) ?_;simp only [zz];refine tkX 3 (hS0) ?_;simp only [zz];refine tkX 4 (hS0) ?_;simp only [zz];refine tkX 5 (hS0) ?_;simp only [zz];refine tkX 6 (hS0) ?_;simp only [zz];refine tkX 7 (hS0) ?_;simp only [zz];refine tkX 8 (hS0) ?_;simp only [zz];refine tkX 9 (hS0) ?_;simp only [zz];refine tk1 10 ?_;intro K hK;go_simp;have hA:(wr.alloc (.cells #[.bool v.num.ng,.slice v.num.A v.num.n v.num.c,.bool v.den.ng,.slice v.den.A v.den.n v.den.c] 35)).drew.heap[wr.heap.size]?=some (.cells #[.bool v.num.ng,.slice v.num.A v.num.n v.num.c,.bool v.den.ng,.slice v.den.A v.den.n v.den.c] 35 (0,0)):=zAd _ _ rfl;have hS1:Sees w.heap.size [] wr (wr.alloc (.cells #[.bool v.num.ng,.slice v.num.A v.num.n v.num.c,.bool v.den.ng,.slice v.den.A v.den.n v.den.c] 35)).drew:=Sees.ad hS0;refine hK.out _ _ hS1 ?_;clear hK K;generalize (wr.alloc (.cells #[.bool v.num.ng,.slice v.num.A v.num.n v.num.c,.bool v.den.ng,.slice v.den.A v.den.n v.den.c] 35)).drew=wa at *;refine tk1 11 ?_;intro K hK;go_simp;refine (zFN hA (by omega) (by omega)).mono ?_;rintro e wb ⟨⟨r,rfl,-⟩,rfl⟩;dsimp only;have hS2:=hS1;refine hK.out _ _ hS2 ?_;clear hK K hS0 hS1 hA;have hbf:=hB.trans (hS2.kept.whole.mono hBW)
   cases r with
   | true=>
    refine tkX 12 (hS2) ?_;simp only [zz];refine tkN 13 (hS2) ?_;simp only [zz];refine tkN 14 (hS2) ?_;simp only [zz];refine tkN 15 (hS2) ?_;simp only [zz];refine tkN 16 (hS2) ?_;simp only [zz];refine tkN 17 (hS2) ?_;simp only [zz];refine tkN 18 (hS2) ?_;simp only [zz];refine tkN 19 (hS2) ?_;simp only [zz];refine tkN 20 (hS2) ?_;simp only [zz];refine tkX 21 (hS2) ?_;simp only [zz];refine tkX 22 (hS2) ?_;simp only [zz];refine tkN 23 (hS2) ?_;simp only [zz];refine tkN 24 (hS2) ?_;simp only [zz];refine tkN 25 (hS2) ?_;simp only [zz];refine tkN 26 (hS2) ?_;simp only [zz];refine tkN 27 (hS2) ?_;simp only [zz];refine tkN 28 (hS2) ?_;simp only [zz];refine tkN 29 (hS2) ?_;simp only [zz];refine tkN 30 (hS2) ?_;simp only [zz];refine tkX 31 (hS2) ?_;simp only [zz];refine zAf (by kernel_rfl) ?_ _;clear hS2 c0 c1 c2 c3;go_wp2;go_ret
    exact ⟨⟨_,rfl,fun h=>by cases h⟩,hbf⟩
   | false=>
    by_cases h6:(6:Int)<(v.num.n:Int)
    ·skip
     refine tkX 12 (hS2) ?_;simp only [zz];refine tkX 13 (hS2) ?_;simp only [zz];refine tkX 14 (hS2) ?_;simp only [zz];refine tkX 15 (hS2) ?_;simp only [zz];refine tkX 16 (hS2) ?_;simp only [zz];refine tkX 17 (hS2) ?_;simp only [zz];refine tkX 18 (hS2) ?_;simp only [zz];refine tkX 19 (hS2) ?_;simp only [zz];refine tkX 20 (hS2) ?_;simp only [zz];refine tkX 21 (hS2) ?_;simp only [zz];refine tkX 22 (hS2) ?_;simp only [zz];refine tkN 23 (hS2) ?_;simp only [zz];refine tkN 24 (hS2) ?_;simp only [zz];refine tkN 25 (hS2) ?_;simp only [zz];refine tkN 26 (hS2) ?_;simp only [zz];refine tkN 27 (hS2) ?_;simp only [zz];refine tkN 28 (hS2) ?_;simp only [zz];refine tkN 29 (hS2) ?_;simp only [zz];refine tkN 30 (hS2) ?_;simp only [zz];refine tkX 31 (hS2) ?_;simp only [zz];refine zAf (by kernel_rfl) ?_ _;clear hS2 c0 c1 c2 c3;go_wp2;go_ret;exact ⟨⟨_,rfl,fun h=>by cases h⟩,hbf⟩
    ·by_cases h7:(6:Int)<(v.den.n:Int)
     ·skip
      refine tkX 12 (hS2) ?_;simp only [zz];refine tkX 13 (hS2) ?_;simp only [zz];refine tkX 14 (hS2) ?_;simp only [zz];refine tkX 15 (hS2) ?_;simp only [zz];refine tkX 16 (hS2) ?_;simp only [zz];refine tkX 17 (hS2) ?_;simp only [zz];refine tkX 18 (hS2) ?_;simp only [zz];refine tkX 19 (hS2) ?_;simp only [zz];refine tkX 20 (hS2) ?_;simp only [zz];refine tkX 21 (hS2) ?_;simp only [zz];refine tkX 22 (hS2) ?_;simp only [zz];refine tkX 23 (hS2) ?_;simp only [zz];refine tkX 24 (hS2) ?_;simp only [zz];refine tkX 25 (hS2) ?_;simp only [zz];refine tkX 26 (hS2) ?_;simp only [zz];refine tkX 27 (hS2) ?_;simp only [zz];refine tkX 28 (hS2) ?_;simp only [zz];refine tkX 29 (hS2) ?_;simp only [zz];refine tkX 30 (hS2) ?_;simp only [zz];refine tkX 31 (hS2) ?_;simp only [zz];refine zAf (by kernel_rfl) ?_ _;clear hS2 c0 c1 c2 c3;go_wp2;go_ret;exact ⟨⟨_,rfl,fun h=>by cases h⟩,hbf⟩
     ·skip
      refine tkX 12 (hS2) ?_;simp only [zz];refine tkX 13 (hS2) ?_;simp only [zz];refine tkX 14 (hS2) ?_;simp only [zz];refine tkX 15 (hS2) ?_;simp only [zz];refine tkX 16 (hS2) ?_;simp only [zz];refine tkX 17 (hS2) ?_;simp only [zz];refine tkX 18 (hS2) ?_;simp only [zz];refine tkX 19 (hS2) ?_;simp only [zz];refine tkX 20 (hS2) ?_;simp only [zz];refine tkX 21 (hS2) ?_;simp only [zz];refine tkX 22 (hS2) ?_;simp only [zz];refine tkX 23 (hS2) ?_;simp only [zz];refine tkX 24 (hS2) ?_;simp only [zz];refine tkX 25 (hS2) ?_;simp only [zz];refine tkX 26 (hS2) ?_;simp only [zz];refine tkX 27 (hS2) ?_;simp only [zz];refine tkX 28 (hS2) ?_;simp only [zz];refine tkX 29 (hS2) ?_;simp only [zz];refine tkX 30 (hS2) ?_;simp only [zz];refine tkX 31 (hS2) ?_;simp only [zz];refine zAf (by kernel_rfl) ?_ _;have Hfin:Hid (L2Loop w (some ad) n (.int .i64 ((i:Int)+1)) wa):=⟨i+1,by omega,by simp,hseen.out.next HC.out (by omega) (by omega),hbf⟩;clear hS2 c0 c1 c2 c3;go_wp2;go_roundw;case rel=>exact Hfin.out
      case measure=>simp [intOf]; omega
  ·(obtain rfl:i=n:=by omega);go_wp2;go_ret
   exact ⟨⟨_,rfl,fun _=>⟨HV.out.len,HV.out.le,HV.out.cap,fun k hk=>by
    obtain ⟨ad,v,e,hx,hcell,hq⟩:=HV.out.elem k hk;have:=hseen.out k hk ad v e hcell;exact ⟨ad,v,e,hx,hcell,hq.qis this.1 this.2⟩⟩⟩,hB⟩
def SeenR (w:World) (X Y:Nat->Prop) (s:SV) (m:List (List Rat)) (i:Nat):Prop:=∀ j,j<i->∃ ad r,s.A=some ad/\X ad.block/\w.cell? (ad.add j)=some (SV.val r)/\r.n<=20/\VecIs w X Y 6 r (m.getD j [])
def L3Loop (w:World) (X Y:Nat->Prop) (s:SV) (m:List (List Rat)) (t:Value) (W:World):Prop:=
 ∃ i:Nat,i<=s.n/\t = .int .i64 i/\SeenR w X Y s m i/\Below w.heap.size w W
theorem VecAt.belowA {l:List Rat} (h:VecAt w X (QAny w Y) s l) (hb:Below w.heap.size w w'):VecAt w' X (QAny w' Y) s l:=h.keep (fun _ _ hl=>hb.cell hl) fun _ _ hr=>hr.below hb
theorem MatAt.belowA {m:List (List Rat)} (h:MatAt w X (QAny w Y) s m) (hb:Below w.heap.size w w'):MatAt w' X (QAny w' Y) s m:=h.keep (fun _ _ hl=>hb.cell hl) fun _ _ hr=>hr.below hb
theorem VecAt.back {l:List Rat} (h:VecAt w X (QAny w Y) s l) (hb:Below w.heap.size w W) (h':VecIs W X Y L s l):VecIs w X Y L s l:=
 ⟨h.len,h.le,h.cap,fun k hk=>by
  obtain ⟨ad,v,e,hx,hc,hq⟩:=h.elem k hk;obtain ⟨ad',v',e',_,hc',_,_,⟨_,_,h1,_⟩,⟨_,_,h2,_⟩,_⟩:=h'.elem k hk;rw [e] at e';cases e';obtain rfl:=zDc hc' (hc.keep fun a ha hl=>hb.cell (by rw [ha]; exact hl));exact ⟨ad,v',e,hx,hc,hq.qis h1 h2⟩⟩
theorem zCl {m:List (List Rat)} (h:MatAt w X (QAny w Y) s m) :
  Calls Tryz.prog 25 #[s.val] w fun e w'=>BRet (fun b=>b=false->MatIs w X Y 6 s m/\colsOf m<=20) e/\Below w.heap.size w w':=by
 have hn:=h.le;have hc:=h.cap;obtain ⟨A,n,c⟩:=s;dsimp only at hn hc;have HV:=hdq h;clear h;show Calls _ _ #[.slice A n c] _ _;go_enter Tryz.func25,Tryz.ntmps25
 go_wp2;go_loopw [3] (fun t W=>L3Loop w X Y ⟨A,n,c⟩ m t W) (fun t _=>n-(intOf t).toNat)
 case atStart=>exact ⟨0,nzl _,rfl,fun j hj=>absurd hj (by omega),brf _ _⟩
 case round=>
  obtain ⟨i,hi,rfl,hseen,hB⟩:=hrel;dsimp only at hi;replace hseen:=hdq hseen;by_cases hlt:i<n
  ·obtain ⟨ad,r,e,hx,hcell,hr⟩:=HV.out.row i hlt;dsimp only at e;subst e;have r1:=hr.le;have r2:=hr.cap;have HR:=hdq hr;have HX:=hdq (And.intro hx hcell);replace hcell:=(hB.cell (zAb hcell)).trans hcell;clear hr hx;obtain ⟨rA,rn,rc⟩:=r;dsimp only [SV.val] at r1 r2 hcell;by_cases h20:(20:Int)<(rn:Int)
   ·go_wp2;go_ret;exact ⟨⟨_,rfl,fun h=>by cases h⟩,hB⟩
   ·(go_wp2_with fail);refine (zDG (s:=⟨rA,rn,rc⟩) (HR.out.belowA hB)).mono ?_;rintro e w1 ⟨⟨b,rfl,hbb⟩,hb1⟩;have hbw:=hB.trans (hb1.mono hB.size)
    cases b with
    | true=>
     clear hbb;go_wp2;go_ret
     exact ⟨⟨_,rfl,fun h=>by cases h⟩,hbw⟩
    | false=>
     have Hfin:Hid (L3Loop w X Y ⟨some ad,n,c⟩ m (.int .i64 ((i:Int)+1)) w1):=⟨i+1,by show i+1<=n; omega,by simp,fun j hj=>by
      by_cases e:j=i
      ·subst e;exact ⟨ad,⟨rA,rn,rc⟩,rfl,HX.out.1,HX.out.2,by show rn<=20; omega,HR.out.back hB (hbb rfl)⟩
      ·exact hseen.out j (by omega),hbw⟩
     clear hbb;go_wp2;go_roundw;case rel=>exact Hfin.out
     case measure=>simp [intOf]; omega
  ·obtain rfl:i=n:=by omega
   have HF:Hid (MatIs w X Y 6 ⟨A,i,c⟩ m/\colsOf m<=20):=⟨⟨HV.out.len,HV.out.le,HV.out.cap,fun k hk=>by
    obtain ⟨ad,r,e,hx,hcell,h20,hv⟩:=hseen.out k hk;exact ⟨ad,r,e,hx,hcell,hv⟩⟩,zAU.2 fun l hl=>by
    obtain ⟨k,hk,rfl⟩:=List.mem_iff_getElem.1 hl;have hl:m.length=i:=HV.out.len;obtain ⟨ad,r,e,hx,hcell,h20,hv⟩:=hseen.out k (by omega);have:=hv.len;rw [gdd,gge hk] at this;simp only [Option.getD_some] at this;omega⟩
   go_wp2;go_ret;exact ⟨⟨_,rfl,fun _=>HF.out⟩,hB⟩
theorem MatAt.back {m:List (List Rat)} (h:MatAt w X (QAny w Y) s m) (hb:Below w.heap.size w W) (h':MatIs W X Y L s m):MatIs w X Y L s m:=
 ⟨h.len,h.le,h.cap,fun k hk=>by
  obtain ⟨ad,r,e,hx,hc,hq⟩:=h.row k hk;obtain ⟨ad',r',e',_,hc',hq'⟩:=h'.row k hk;rw [e] at e';cases e';rw [(hb.cell (zAb hc)).trans hc] at hc';obtain ⟨rA,rn,rc⟩:=r;obtain ⟨rA',rn',rc'⟩:=r';simp [SV.val] at hc';obtain ⟨rfl,rfl,rfl⟩:=hc';exact ⟨ad,⟨rA,rn,rc⟩,e,hx,hc,hq.back hb hq'⟩⟩
def L4Loop (w:World) (Q:Prop) (t:Value) (W:World):Prop:=
 (t = .int .i64 0/\w=W)\/(t = .int .i64 1/\Q/\Below w.heap.size w W)
theorem zCm {m:List (List Rat)} (h:MatAt w X (QAny w Y) s m) (hcell:w.cell? ⟨b,0,none⟩=some s.val) :
  Calls Tryz.prog 195 #[.slice (some ⟨b,0,none⟩) 1 1] w fun e w'=>BRet (fun b=>b=false->s.n<=8/\colsOf m<=8/\MatIs w X Y 6 s m) e/\Below w.heap.size w w':=by
 have hn:=h.le;have hc:=h.cap;obtain ⟨A,n,c⟩:=s;dsimp only at hn hc ⊢;have HV:=hdq h;clear h;dsimp only [SV.val] at hcell;go_enter Tryz.func195,Tryz.ntmps195
 go_wp2;go_loopw [3] (fun t W=>L4Loop w (n<=8/\colsOf m<=8/\MatIs w X Y 6 ⟨A,n,c⟩ m) t W) (fun t _=>1-(intOf t).toNat)
 case atStart=>exact .inl ⟨rfl,rfl⟩
 case round=>
  rcases hrel with ⟨rfl,rfl⟩ | ⟨rfl,hQ,hB⟩
  ·by_cases h8:(8:Int)<(n:Int)
   ·go_wp2;go_ret;exact ⟨⟨_,rfl,fun h=>by cases h⟩,brf _ _⟩
   ·have HC:=hdq (zDf HV.out);generalize hk:colsOf m=k at HC;replace hk:=hdq hk;(go_wp2_with fail);refine HC.out.mono ?_;rintro e w1 ⟨rfl,rfl⟩;by_cases h9:(8:Int)<(k:Int)
    ·go_wp2;go_ret;exact ⟨⟨_,rfl,fun h=>by cases h⟩,brf _ _⟩
    ·(go_wp2_with fail);refine (zCl HV.out).mono ?_;rintro e w1 ⟨⟨b,rfl,hbb⟩,hb1⟩
     cases b with
     | true=>
      clear hbb;go_wp2;go_ret
      exact ⟨⟨_,rfl,fun h=>by cases h⟩,hb1⟩
     | false=>
      have Hfin:Hid (L4Loop w (n<=8/\colsOf m<=8/\MatIs w X Y 6 ⟨A,n,c⟩ m) (.int .i64 1) w1):=.inr ⟨rfl,⟨by omega,by rw [hk.out]; omega,(hbb rfl).1⟩,hb1⟩;clear hbb;go_wp2;go_roundw;case rel=>rw [<-hk.out]; exact Hfin.out
      case measure=>simp [intOf]
  ·replace hQ:=hdq hQ;go_wp2;go_ret;exact ⟨⟨_,rfl,fun _=>hQ.out⟩,hB⟩
theorem VecAt.back' {l:List Rat} (h:VecAt w X (QAny w Y) s l) (hb:Below w.heap.size w W) (h':VecIs W X' Y' L s l):VecIs w X Y L s l:=
 ⟨h.len,h.le,h.cap,fun k hk=>by
  obtain ⟨ad,v,e,hx,hc,hq⟩:=h.elem k hk;obtain ⟨ad',v',e',_,hc',_,_,⟨_,_,h1,_⟩,⟨_,_,h2,_⟩,_⟩:=h'.elem k hk;rw [e] at e';cases e';obtain rfl:=zDc hc' (hc.keep fun a ha hl=>hb.cell (by rw [ha]; exact hl));exact ⟨ad,v',e,hx,hc,hq.qis h1 h2⟩⟩
theorem VecAt.cut {R:QV->Rat->Prop} {l:List Rat} (h:VecAt w X R ⟨A,n,c⟩ l):VecAt w X R ⟨A,min n 20,c⟩ (l.take 20):=
 ⟨by have:=h.len; simp at this ⊢; omega,nlt (Nat.min_le_left _ _) h.le,h.cap,fun k hk=>by
  have hk':k<min n 20:=hk;obtain ⟨ad,v,e,hx,hc,hq⟩:=h.elem k (by show k<n; omega);refine ⟨ad,v,e,hx,hc,?_⟩;have e2:(l.take 20).getD k 0=l.getD k 0:=by simp only [gdd]; rw [List.getElem?_take_of_lt (by omega)]
  rw [e2]; exact hq⟩
theorem MatAt.single {R:QV->Rat->Prop} {l:List Rat} (h:VecAt w X R s l) (hc:w.cell? ⟨b,0,none⟩=some s.val):MatAt w (fun x=>X x\/x=b) R ⟨some ⟨b,0,none⟩,1,1⟩ [l]:=
 ⟨rfl,nlr _,by show 1<=_; omega,fun i hi=>by
  obtain rfl:i=0:=by have hi':i<1:=hi; omega
  exact ⟨⟨b,0,none⟩,s,rfl,.inr rfl,by rw [zA4]; exact hc,h.imp (fun _ _ hx=>.inl hx) fun _ _ hq=>hq⟩⟩
def Short6 (w:World) (X Y:Nat->Prop) (p:LPV) (os rs:List (List Rat)) (bs:List Rat):Prop:=
 MatIs w X Y 6 p.O os/\(p.R.n<=8->MatIs w X Y 6 p.R rs)/\(p.B.n<=20->VecIs w X Y 6 p.B bs)
theorem zFO {p:LPV} (h:LPRaw w X (QAny w Y) p os rs bs) :
  Calls Tryz.prog 144 #[p.val] w fun e w'=>BRet (fun b=>b=false->Short6 w X Y p os rs bs) e/\Below w.heap.size w w':=by
 obtain ⟨z,⟨oA,on,oc⟩,⟨rA,rn,rc⟩,⟨bA,bn,bc⟩⟩:=p;have o1:on<=oc:=h.obj.le;have o2:oc<=9223372036854775807:=h.obj.cap;have r1:rn<=rc:=h.rows.le;have r2:rc<=9223372036854775807:=h.rows.cap;have b1:bn<=bc:=h.bounds.le;have b2:bc<=9223372036854775807:=h.bounds.cap;have ho:=hdq h.obj;have hr:=hdq h.rows;have hb:=hdq h.bounds;clear h;dsimp only [LPV.val] at *;go_enter Tryz.func144,Tryz.ntmps144
 go_upto_region 1 with fail
 refine zAo (fun W=>Below w.heap.size w W/\Box4 W w.heap.size (.int .i64 z) (.slice oA on oc) (.slice rA rn rc) (.slice bA bn bc)/\w.heap.size<W.heap.size) ⟨((brf _ _).alloc (by simp <;> omega) _),bx4,by simp <;> omega⟩ ?_;rintro W ⟨hbW,bP,s0⟩;have hBW:=hbW.size;have hP:=bP;obtain ⟨p0,p1,p2,p3,-⟩:=bP;by_cases a1:(6:Int)<(on:Int)
 ·skip
  go_wp2;go_ret;exact ⟨⟨_,rfl,fun h=>by cases h⟩,hbW⟩
 by_cases a2:(140:Int)<(rn:Int)
 ·skip
  go_wp2;go_ret;exact ⟨⟨_,rfl,fun h=>by cases h⟩,hbW⟩
 by_cases a3:(140:Int)<(bn:Int)
 ·skip
  go_wp2;go_ret;exact ⟨⟨_,rfl,fun h=>by cases h⟩,hbW⟩
 by_cases a4:(8:Int)<(rn:Int)
 ·have HRow:Hid (rn<=8->MatIs w X Y 6 ⟨rA,rn,rc⟩ rs):=fun h=>by omega
  go_wp2_with fail
  refine (zHq (s:=⟨rA,rn,rc⟩) (hr.out.belowA hbW)).mono ?_;rintro e w1 ⟨⟨b,rfl,-⟩,rfl⟩
  cases b with
  | false=>
   go_wp2;go_ret
   exact ⟨⟨_,rfl,fun h=>by cases h⟩,hbW⟩
  | true=>
   (go_wp2_with fail);have q0:(W.alloc (.cells #[.slice oA on oc] 26)).cell? ⟨W.heap.size,0,none⟩=some (SV.val ⟨oA,on,oc⟩):=(by go_simp);have q1:Below W.heap.size W (W.alloc (.cells #[.slice oA on oc] 26)):=(brf _ _).alloc (nlr _) _;have q2:=hbW.trans (q1.mono hbW.size);refine (zCm (ho.out.belowA q2) q0).mono ?_;rintro e w3 ⟨⟨b,rfl,hbb⟩,hb3⟩;have q3:=q1.trans (hb3.mono q1.size);have hbW:=q2.trans (hb3.mono q2.size);clear p0 p1 p2 p3;obtain ⟨p0,p1,p2,p3,-⟩:=hP.below q3 s0
   cases b with
   | true=>
    clear hbb;go_wp2;go_ret
    exact ⟨⟨_,rfl,fun h=>by cases h⟩,hbW⟩
   | false=>
    have HO:Hid (MatIs w X Y 6 ⟨oA,on,oc⟩ os):=ho.out.back q2 (hbb rfl).2.2;clear hbb q0 q1 q2 hb3;(go_wp2_with fail);refine (zDF (s:=⟨bA,bn,bc⟩) b1 b2).mono ?_;rintro e w4 ⟨rfl,rfl⟩;dsimp only;have HVc:=hdq hb.out.cut;generalize hmn:min bn 20=mn at *;replace hmn:=hdq hmn;(go_wp2_with fail);have q0:(w3.alloc (.cells #[.slice bA mn bc] 24)).cell? ⟨w3.heap.size,0,none⟩=some (SV.val ⟨bA,mn,bc⟩):=(by go_simp);have q1:Below w3.heap.size w3 (w3.alloc (.cells #[.slice bA mn bc] 24)):=(brf _ _).alloc (nlr _) _;have q2:=hbW.trans (q1.mono hbW.size);refine (zCl (MatAt.single (HVc.out.belowA q2) q0)).mono ?_;rintro e w5 ⟨⟨b,rfl,hbb⟩,hb5⟩;have hbf:=q2.trans (hb5.mono q2.size)
    cases b with
    | true=>
     clear hbb hbW;have hbW:=hbf;go_wp2;go_ret
     exact ⟨⟨_,rfl,fun h=>by cases h⟩,hbW⟩
    | false=>
     have HB:Hid (Short6 w X Y ⟨z,⟨oA,on,oc⟩,⟨rA,rn,rc⟩,⟨bA,bn,bc⟩⟩ os rs bs):=⟨HO.out,HRow.out,fun h20=>by
      have h20':bn<=20:=h20;obtain ⟨ad,r,e,-,hc,hv⟩:=(hbb rfl).1.row 0 (by show 0<1; omega);cases e;rw [zA4] at hc;rw [show (0+0:Nat)=0 from rfl,q0] at hc;obtain ⟨rA',rn',rc'⟩:=r;simp [SV.val] at hc;obtain ⟨rfl,rfl,rfl⟩:=hc;have e1:mn=bn:=by rw [<-hmn.out]; omega
      subst e1;have e2:bs.take 20=bs:=List.take_of_length_le (by have:=hb.out.len; dsimp only at this; omega);rw [show ([bs.take 20]:List (List Rat)).getD 0 []=bs from e2] at hv;exact hb.out.back' q2 hv⟩
     clear hbb;go_wp2;go_ret;exact ⟨⟨_,rfl,fun _=>HB.out⟩,hbf⟩
 ·go_wp2_with fail
  have q0:(W.alloc (.cells #[.slice rA rn rc] 26)).cell? ⟨W.heap.size,0,none⟩=some (SV.val ⟨rA,rn,rc⟩):=by go_simp
  have q1:Below W.heap.size W (W.alloc (.cells #[.slice rA rn rc] 26)):=(brf _ _).alloc (nlr _) _;have q2:=hbW.trans (q1.mono hbW.size);refine (zCm (hr.out.belowA q2) q0).mono ?_;rintro e w2 ⟨⟨b,rfl,hbb⟩,hb2⟩;have q3:=q1.trans (hb2.mono q1.size);have hbw2:=q2.trans (hb2.mono q2.size);have hP2:=hP.below q3 s0;have t0:w.heap.size<w2.heap.size:=ltl s0 q3.size;clear p0 p1 p2 p3 hP;have hP3:=hP2;obtain ⟨p0,p1,p2,p3,-⟩:=hP2
  cases b with
  | true=>
   clear hbb hbW;have hbW:=hbw2;go_wp2;go_ret
   exact ⟨⟨_,rfl,fun h=>by cases h⟩,hbW⟩
  | false=>
   have HRow:Hid (rn<=8->MatIs w X Y 6 ⟨rA,rn,rc⟩ rs):=(fun _=>hr.out.back q2 (hbb rfl).2.2);clear hbb q0 q1 q2 hb2 q3 hbW;(go_wp2_with fail);have q0:(w2.alloc (.cells #[.slice oA on oc] 26)).cell? ⟨w2.heap.size,0,none⟩=some (SV.val ⟨oA,on,oc⟩):=(by go_simp);have q1:Below w2.heap.size w2 (w2.alloc (.cells #[.slice oA on oc] 26)):=(brf _ _).alloc (nlr _) _;have q2:=hbw2.trans (q1.mono hbw2.size);refine (zCm (ho.out.belowA q2) q0).mono ?_;rintro e w3 ⟨⟨b,rfl,hbb⟩,hb3⟩;have q3:=q1.trans (hb3.mono q1.size);have hbW:=q2.trans (hb3.mono q2.size);clear p0 p1 p2 p3;obtain ⟨p0,p1,p2,p3,-⟩:=hP3.below q3 t0
   cases b with
   | true=>
    clear hbb;go_wp2;go_ret
    exact ⟨⟨_,rfl,fun h=>by cases h⟩,hbW⟩
   | false=>
    have HO:Hid (MatIs w X Y 6 ⟨oA,on,oc⟩ os):=ho.out.back q2 (hbb rfl).2.2;clear hbb q0 q1 q2 hb3;(go_wp2_with fail);refine (zDF (s:=⟨bA,bn,bc⟩) b1 b2).mono ?_;rintro e w4 ⟨rfl,rfl⟩;dsimp only;have HVc:=hdq hb.out.cut;generalize hmn:min bn 20=mn at *;replace hmn:=hdq hmn;(go_wp2_with fail);have q0:(w3.alloc (.cells #[.slice bA mn bc] 24)).cell? ⟨w3.heap.size,0,none⟩=some (SV.val ⟨bA,mn,bc⟩):=(by go_simp);have q1:Below w3.heap.size w3 (w3.alloc (.cells #[.slice bA mn bc] 24)):=(brf _ _).alloc (nlr _) _;have q2:=hbW.trans (q1.mono hbW.size);refine (zCl (MatAt.single (HVc.out.belowA q2) q0)).mono ?_;rintro e w5 ⟨⟨b,rfl,hbb⟩,hb5⟩;have hbf:=q2.trans (hb5.mono q2.size)
    cases b with
    | true=>
     clear hbb hbW;have hbW:=hbf;go_wp2;go_ret
     exact ⟨⟨_,rfl,fun h=>by cases h⟩,hbW⟩
    | false=>
     have HB:Hid (Short6 w X Y ⟨z,⟨oA,on,oc⟩,⟨rA,rn,rc⟩,⟨bA,bn,bc⟩⟩ os rs bs):=⟨HO.out,HRow.out,fun h20=>by
      have h20':bn<=20:=h20;obtain ⟨ad,r,e,-,hc,hv⟩:=(hbb rfl).1.row 0 (by show 0<1; omega);cases e;rw [zA4] at hc;rw [show (0+0:Nat)=0 from rfl,q0] at hc;obtain ⟨rA',rn',rc'⟩:=r;simp [SV.val] at hc;obtain ⟨rfl,rfl,rfl⟩:=hc;have e1:mn=bn:=by rw [<-hmn.out]; omega
      subst e1;have e2:bs.take 20=bs:=List.take_of_length_le (by have:=hb.out.len; dsimp only at this; omega);rw [show ([bs.take 20]:List (List Rat)).getD 0 []=bs from e2] at hv;exact hb.out.back' q2 hv⟩
     clear hbb;go_wp2;go_ret;exact ⟨⟨_,rfl,fun _=>HB.out⟩,hbf⟩
theorem LPRaw.below {p:LPV} (h:LPRaw w X (QAny w Y) p os rs bs) (hb:Below w.heap.size w w'):LPRaw w' X (QAny w' Y) p os rs bs:=
 ⟨h.obj.belowA hb,h.rows.belowA hb,h.bounds.belowA hb⟩
theorem Short6.back {p:LPV} (h:LPRaw w X (QAny w Y) p os rs bs) (hb:Below w.heap.size w W) (h':Short6 W X Y p os rs bs):Short6 w X Y p os rs bs:=
 ⟨h.obj.back hb h'.1,fun hn=>h.rows.back hb (h'.2.1 hn),fun hn=>h.bounds.back hb (h'.2.2 hn)⟩
theorem zFP {p:LPV} (h:LPRaw w X (QAny w Y) p os rs bs) :
  Calls Tryz.prog 84 #[p.val] w fun e w'=>BRet (fun b=>b=false->Short6 w X Y p os rs bs) e/\Below w.heap.size w w':=by
 obtain ⟨z,⟨oA,on,oc⟩,⟨rA,rn,rc⟩,⟨bA,bn,bc⟩⟩:=p;have r1:rn<=rc:=h.rows.le;have r2:rc<=9223372036854775807:=h.rows.cap;replace h:=hdq h;dsimp only [LPV.val] at *;go_enter Tryz.func84,Tryz.ntmps84
 go_upto_region 1 with fail
 refine zAo (fun W=>Below w.heap.size w W/\Box4 W w.heap.size (.int .i64 z) (.slice oA on oc) (.slice rA rn rc) (.slice bA bn bc)/\w.heap.size<W.heap.size) ⟨((brf _ _).alloc (by simp <;> omega) _),bx4,by simp <;> omega⟩ ?_;rintro W ⟨hbW,bP,s0⟩;have hBW:=hbW.size;have hP:=bP;obtain ⟨p0,p1,p2,p3,-⟩:=bP;go_wp2_with fail
 refine (zFO (p:=⟨z,⟨oA,on,oc⟩,⟨rA,rn,rc⟩,⟨bA,bn,bc⟩⟩) (h.out.below hbW)).mono ?_;rintro e w1 ⟨⟨b,rfl,hbb⟩,hb1⟩;replace hP:=hP.below hb1 s0;have t0:=ltl s0 hb1.size;clear p0 p1 p2 p3;obtain ⟨p0,p1,p2,p3,-⟩:=id hP;have hbf:=hbW.trans (hb1.mono hbW.size)
 cases b with
 | true=>
  clear hbb;go_wp2;go_ret
  exact ⟨⟨_,rfl,fun h=>by cases h⟩,hbf⟩
 | false=>
  have HS:=hdq (Short6.back h.out hbW (hbb rfl));clear hbb hb1 hbW;obtain ⟨m,hm⟩:∃ m,mayB ⟨z,⟨oA,on,oc⟩,⟨rA,rn,rc⟩,⟨bA,bn,bc⟩⟩ os rs=m:=⟨_,rfl⟩;by_cases a1:(5:Int)<(rn:Int)
  ·skip
   (go_wp2_with fail);refine (zC2 (p:=⟨z,⟨oA,on,oc⟩,⟨rA,rn,rc⟩,⟨bA,bn,bc⟩⟩) (h.out.below hbf)).mono ?_;rintro e w2 ⟨rfl,hb2⟩;replace hP:=hP.below hb2 t0;replace t0:=ltl t0 hb2.size;clear p0 p1 p2 p3;obtain ⟨p0,p1,p2,p3,-⟩:=id hP;replace hbf:=hbf.trans (hb2.mono hbf.size);clear hb2;rw [hm]
   cases m with
   | true=>
    go_wp2;go_ret
    exact ⟨⟨_,rfl,fun _=>HS.out⟩,hbf⟩
   | false=>
    by_cases a2:(6:Int)<z
    ·skip
     (go_wp2_with fail);refine (zC2 (p:=⟨z,⟨oA,on,oc⟩,⟨rA,rn,rc⟩,⟨bA,bn,bc⟩⟩) (h.out.below hbf)).mono ?_;rintro e w3 ⟨rfl,hb3⟩;replace hP:=hP.below hb3 t0;replace t0:=ltl t0 hb3.size;clear p0 p1 p2 p3;obtain ⟨p0,p1,p2,p3,-⟩:=id hP;replace hbf:=hbf.trans (hb3.mono hbf.size);clear hb3;rw [hm];go_wp2;go_ret;exact ⟨⟨_,rfl,fun _=>HS.out⟩,hbf⟩
    ·skip
     go_wp2;go_ret;exact ⟨⟨_,rfl,fun _=>HS.out⟩,hbf⟩
  ·by_cases a2:(6:Int)<z
   ·skip
    (go_wp2_with fail);refine (zC2 (p:=⟨z,⟨oA,on,oc⟩,⟨rA,rn,rc⟩,⟨bA,bn,bc⟩⟩) (h.out.below hbf)).mono ?_;rintro e w3 ⟨rfl,hb3⟩;replace hP:=hP.below hb3 t0;replace t0:=ltl t0 hb3.size;clear p0 p1 p2 p3;obtain ⟨p0,p1,p2,p3,-⟩:=id hP;replace hbf:=hbf.trans (hb3.mono hbf.size);clear hb3;rw [hm];go_wp2;go_ret;exact ⟨⟨_,rfl,fun _=>HS.out⟩,hbf⟩
   ·skip
    go_wp2;go_ret;exact ⟨⟨_,rfl,fun _=>HS.out⟩,hbf⟩
theorem zFQ {p:LPV} (h:LPRaw w X (QAny w Y) p os rs bs) :
  Calls Tryz.prog 32 #[p.val] w fun e w'=>BRet (fun b=>b=false->Short6 w X Y p os rs bs/\(mayB p os rs=true->p.n<=4/\p.R.n<=4)) e/\Below w.heap.size w w':=by
 obtain ⟨z,⟨oA,on,oc⟩,⟨rA,rn,rc⟩,⟨bA,bn,bc⟩⟩:=p;have r1:rn<=rc:=h.rows.le;have r2:rc<=9223372036854775807:=h.rows.cap;replace h:=hdq h;dsimp only [LPV.val] at *;go_enter Tryz.func32,Tryz.ntmps32
 go_upto_region 1 with fail
 refine zAo (fun W=>Below w.heap.size w W/\Box4 W w.heap.size (.int .i64 z) (.slice oA on oc) (.slice rA rn rc) (.slice bA bn bc)/\w.heap.size<W.heap.size) ⟨((brf _ _).alloc (by simp <;> omega) _),bx4,by simp <;> omega⟩ ?_;rintro W ⟨hbW,bP,s0⟩;have hBW:=hbW.size;have hP:=bP;obtain ⟨p0,p1,p2,p3,-⟩:=bP;go_wp2_with fail
 refine (zFP (p:=⟨z,⟨oA,on,oc⟩,⟨rA,rn,rc⟩,⟨bA,bn,bc⟩⟩) (h.out.below hbW)).mono ?_;rintro e w1 ⟨⟨b,rfl,hbb⟩,hb1⟩;replace hP:=hP.below hb1 s0;have t0:=ltl s0 hb1.size;clear p0 p1 p2 p3;obtain ⟨p0,p1,p2,p3,-⟩:=id hP;have hbf:=hbW.trans (hb1.mono hbW.size)
 cases b with
 | true=>
  clear hbb;go_wp2;go_ret
  exact ⟨⟨_,rfl,fun h=>by cases h⟩,hbf⟩
 | false=>
  have HS':=hdq (Short6.back h.out hbW (hbb rfl));clear hbb hb1 hbW;obtain ⟨m,hm⟩:∃ m,mayB ⟨z,⟨oA,on,oc⟩,⟨rA,rn,rc⟩,⟨bA,bn,bc⟩⟩ os rs=m:=⟨_,rfl⟩;go_wp2_with fail
  refine (zC2 (p:=⟨z,⟨oA,on,oc⟩,⟨rA,rn,rc⟩,⟨bA,bn,bc⟩⟩) (h.out.below hbf)).mono ?_;rintro e w2 ⟨rfl,hb2⟩;replace hP:=hP.below hb2 t0;replace t0:=ltl t0 hb2.size;clear p0 p1 p2 p3;obtain ⟨p0,p1,p2,p3,-⟩:=id hP;replace hbf:=hbf.trans (hb2.mono hbf.size);clear hb2;rw [hm]
  cases m with
  | false=>
   have HS:Hid (Short6 w X Y ⟨z,⟨oA,on,oc⟩,⟨rA,rn,rc⟩,⟨bA,bn,bc⟩⟩ os rs bs/\(mayB ⟨z,⟨oA,on,oc⟩,⟨rA,rn,rc⟩,⟨bA,bn,bc⟩⟩ os rs=true->z<=4/\rn<=4)):=⟨HS'.out,fun h=>by rw [hm] at h; cases h⟩;go_wp2;go_ret
   exact ⟨⟨_,rfl,fun _=>HS.out⟩,hbf⟩
  | true=>
   by_cases a1:(4:Int)<z
   ·go_wp2;go_ret;exact ⟨⟨_,rfl,fun h=>by cases h⟩,hbf⟩
   ·by_cases a2:(4:Int)<(rn:Int)
    ·go_wp2;go_ret;exact ⟨⟨_,rfl,fun h=>by cases h⟩,hbf⟩
    ·have HS:Hid (Short6 w X Y ⟨z,⟨oA,on,oc⟩,⟨rA,rn,rc⟩,⟨bA,bn,bc⟩⟩ os rs bs/\(mayB ⟨z,⟨oA,on,oc⟩,⟨rA,rn,rc⟩,⟨bA,bn,bc⟩⟩ os rs=true->z<=4/\rn<=4)):=⟨HS'.out,fun _=>by omega⟩;go_wp2;go_ret;exact ⟨⟨_,rfl,fun _=>HS.out⟩,hbf⟩
end Go.Proofs.YtpjaodcimomaiaaGreat
