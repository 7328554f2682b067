/- Texts PrM PrN PrO Pr1 Pr2 Pr5 of this claim. -/
import Derived.Test.YtpjaodcimomaiaaGreatEA0
import Derived.Test.YtpjaodcimomaiaaGreatE12
import Derived.Test.YtpjaodcimomaiaaGreatE14
import Derived.Test.YtpjaodcimomaiaaGreatE17
import Derived.Test.YtpjaodcimomaiaaGreatE09
set_option maxHeartbeats 4000000
namespace Go.Proofs.YtpjaodcimomaiaaGreat.Lin
def Prob.re (P:Prob) (b:Nat->Rat):Prob:={P with b:=b}
def bb (n:Nat) (b:Nat->Rat) (v:Nat):Rat:=if v<n then 0 else b (v-n)
def Dict.R (n:Nat) (D:Dict) (i:Nat) (b:Nat->Rat):Rat:=bb n b (D.basic i)+sum n fun j=>D.a i j*bb n b (D.free j)
def Dict.Rc (n:Nat) (D:Dict) (l:Nat) (b:Nat->Rat):Rat:=sum n fun j=>D.c l j*bb n b (D.free j)
def Dict.re (n:Nat) (D:Dict) (b:Nat->Rat):Dict where
 basic:=D.basic
 free:=D.free
 a:=fun i j=>if j=n then D.R n i b else D.a i j
 c:=fun l j=>if j=n then D.Rc n l b else D.c l j
theorem zJG (P:Prob):P.Sys (bb P.n P.b):=by
 intro i hi;rw [zAC fun k hk=>by rw [bb,if_pos hk]; grind];rw [bb,if_neg (by omega),show P.n+i-P.n=i by omega]; grind
theorem Good.R {P:Prob} {D:Dict} (G:Good P D) {i:Nat} (hi:i<P.m):D.a i P.n=D.R P.n i P.b:=by
 have h:=(G.rows _).1 (zJG P) i hi;rw [val] at h;rw [Dict.R,h]; grind
theorem Good.Rc {P:Prob} {D:Dict} (G:Good P D) {l:Nat} (hl:l<P.K):D.c l P.n=D.Rc P.n l P.b:=by
 have h:=G.costs _ (zJG P) l hl;rw [val,zAC fun k hk=>by rw [bb,if_pos hk]; grind] at h;rw [Dict.Rc]; grind
theorem Good.re {P:Prob} {D:Dict} (G:Good P D) (b:Nat->Rat):Good (P.re b) (D.re P.n b):=by
 have sh:∀ x,(P.re b).Sys x ↔ P.Sys fun v=>x v+(bb P.n P.b v-bb P.n b v):=by
  intro x;refine forall_congr' fun i=>forall_congr' fun hi=>?_
  have h1:bb P.n P.b (P.n+i)=P.b i:=by rw [bb,if_neg (by omega),show P.n+i-P.n=i by omega]
  have h2:bb P.n b (P.n+i)=b i:=by rw [bb,if_neg (by omega),show P.n+i-P.n=i by omega]
  show x (P.n+i)=b i-sum P.n (fun k=>P.A i k*x k) ↔ x (P.n+i)+(bb P.n P.b (P.n+i)-bb P.n b (P.n+i))=P.b i-sum P.n fun k=>P.A i k*(x k+(bb P.n P.b k-bb P.n b k))
  rw [h1,h2,zAh (f:=fun k=>P.A i k*(x k+(bb P.n P.b k-bb P.n b k))) (g:=fun k=>P.A i k*x k) (fun k hk=>by rw [bb,bb,if_pos hk,if_pos hk]; grind)];constructor <;> intro h <;> grind
 have vl:∀ (r:Nat->Rat) (q:Rat) (x:Nat->Rat),val P.n D.free (fun j=>if j=P.n then q else r j) x=q-sum P.n fun j=>r j*x (D.free j):=by
  intro r q x;rw [val,if_pos rfl,zAh fun j hj=>by rw [if_neg (by omega)]]
 have spl:∀ (r:Nat->Rat) (x:Nat->Rat),sum P.n (fun j=>r j*(x (D.free j)+(bb P.n P.b (D.free j)-bb P.n b (D.free j))))=sum P.n (fun j=>r j*x (D.free j))+sum P.n (fun j=>r j*bb P.n P.b (D.free j))-sum P.n fun j=>r j*bb P.n b (D.free j):=by
  intro r x;rw [zAh (g:=fun j=>(r j*x (D.free j)+r j*bb P.n P.b (D.free j))-r j*bb P.n b (D.free j)) (fun j _=>by grind),zFD,zCb]
 refine ⟨G.bLt,G.fLt,G.bInj,G.fInj,G.apart,G.all,fun x=>?_,fun x hx l hl=>?_⟩
 ·rw [sh,G.rows];refine forall_congr' fun i=>forall_congr' fun hi=>?_
  show _ ↔ x (D.basic i)=val P.n D.free (fun j=>if j=P.n then D.R P.n i b else D.a i j) x;rw [vl,val,spl,G.R hi,Dict.R,Dict.R];constructor <;> intro h <;> grind
 ·have h:=G.costs _ ((sh x).1 hx) l hl;show sum P.n (fun k=>P.O l k*x k)=val P.n D.free (fun j=>if j=P.n then D.Rc P.n l b else D.c l j) x;rw [vl];rw [val,spl,G.Rc hl,zAh (g:=fun k=>P.O l k*x k) (fun k hk=>by rw [bb,bb,if_pos hk,if_pos hk]; grind),Dict.Rc] at h;rw [h,Dict.Rc]; grind
theorem zBA {s j:Nat} (r:Nat->Rat) (h:j ≠ s):scaled s r j=(r s)⁻¹*r j:=by rw [scaled,if_neg h]
theorem zBD {s j:Nat} (y r:Nat->Rat) (h:j ≠ s):elim s y r j=r j-r s*y j:=by rw [elim,if_neg h]
theorem zEs {n s:Nat} (hs:s<n) {D:Dict} {r:Nat} (h0:D.a r s ≠ 0) (i:Nat) (b:Nat->Rat) :
  (D.pivot r s).R n i b=if i=r then (D.a r s)⁻¹*D.R n r b else D.R n i b-D.a i s*((D.a r s)⁻¹*D.R n r b):=by
 let ro:Nat->Nat->Rat:=fun i j=>if j=n then D.R n i b else D.a i j
 have e1:∀ i,bb n b (D.basic i)=val n D.free (ro i) (bb n b):=by
  intro i;show _=ro i n-sum n fun j=>ro i j*bb n b (D.free j)
  have:sum n (fun j=>ro i j*bb n b (D.free j))=sum n fun j=>D.a i j*bb n b (D.free j):=zAh fun j hj=>by show (if j=n then _ else _)*_=_; rw [if_neg (by omega)]
  rw [this]; show _=(if n=n then D.R n i b else _)-_
  rw [if_pos rfl,Dict.R]; grind
 have es:∀ i,ro i s=D.a i s:=fun i=>if_neg (by omega)
 have h0':ro r s ≠ 0:=by rw [es]; exact h0
 have k0:=(zDA hs (F:=D.free) (r:=ro r) (x:=bb n b) (D.basic r) h0').1 (e1 r)
 have fin:∀ (rw' rw2:Nat->Rat) (v:Rat),(∀ j,j<n->rw' j=rw2 j)->v=val n (turn D.free s (D.basic r)) rw' (bb n b)->v+sum n (fun j=>rw2 j*bb n b (turn D.free s (D.basic r) j))=rw' n:=by
  intro rw' rw2 v e h;rw [val,zAh (fun j hj=>by rw [e j hj])] at h;rw [h]; grind
 unfold Dict.R;by_cases e:i=r
 ·subst e;rw [if_pos rfl]
  have:=fin (scaled s (ro i)) ((D.pivot i s).a i) _ (fun j hj=>by
   show _=(if i=i then scaled s (D.a i) else _) j;rw [if_pos rfl]; unfold scaled; rw [es]; by_cases h:j=s
   ·rw [if_pos h,if_pos h]
   ·rw [if_neg h,if_neg h,show ro i j=D.a i j from if_neg (by omega)]) k0
  have e2:(D.pivot i s).basic i=D.free s:=zBL _ _ _;rw [e2];show _+sum n (fun j=>(D.pivot i s).a i j*bb n b (turn D.free s (D.basic i) j))=_;rw [this,zBA _ (by omega),es,show ro i n=D.R n i b from if_pos rfl,Dict.R]
 ·rw [if_neg e];have k1:=(e1 i).trans (zCY hs (D.basic r) (r:=ro i) k0)
  have:=fin (elim s (scaled s (ro r)) (ro i)) ((D.pivot r s).a i) _ (fun j hj=>by
   show _=(if i=r then _ else elim s (scaled s (D.a r)) (D.a i)) j;rw [if_neg e]; unfold elim scaled; rw [es,es]; by_cases h:j=s
   ·simp only [if_pos h]
   ·simp only [if_neg h]; rw [show ro i j=D.a i j from if_neg (by omega),show ro r j=D.a r j from if_neg (by omega)]) k1
  have e2:(D.pivot r s).basic i=D.basic i:=zBh _ e _;rw [e2];show _+sum n (fun j=>(D.pivot r s).a i j*bb n b (turn D.free s (D.basic r) j))=_;rw [this,zBD _ _ (by omega),zBA _ (by omega),es,es,show ro i n=D.R n i b from if_pos rfl,show ro r n=D.R n r b from if_pos rfl,Dict.R,Dict.R]
theorem zFs {n s:Nat} (hs:s<n) {D:Dict} {r:Nat} (h0:D.a r s ≠ 0) (l:Nat) (b:Nat->Rat) :
  (D.pivot r s).Rc n l b=D.Rc n l b-D.c l s*((D.a r s)⁻¹*D.R n r b):=by
 let ro:Nat->Rat:=fun j=>if j=n then D.R n r b else D.a r j
 let co:Nat->Rat:=fun j=>if j=n then D.Rc n l b else D.c l j
 have er:bb n b (D.basic r)=val n D.free ro (bb n b):=by
  have:sum n (fun j=>ro j*bb n b (D.free j))=sum n fun j=>D.a r j*bb n b (D.free j):=zAh fun j hj=>by show (if j=n then _ else _)*_=_; rw [if_neg (by omega)]
  rw [val,this]; show _=(if n=n then D.R n r b else _)-_
  rw [if_pos rfl,Dict.R]; grind
 have ec:(0:Rat)=val n D.free co (bb n b):=by
  have:sum n (fun j=>co j*bb n b (D.free j))=sum n fun j=>D.c l j*bb n b (D.free j):=zAh fun j hj=>by show (if j=n then _ else _)*_=_; rw [if_neg (by omega)]
  rw [val,this]; show _=(if n=n then D.Rc n l b else _)-_
  rw [if_pos rfl,Dict.Rc]; grind
 have es:ro s=D.a r s:=if_neg (by omega);have es':co s=D.c l s:=if_neg (by omega);have k0:=(zDA hs (F:=D.free) (r:=ro) (x:=bb n b) (D.basic r) (by rw [es]; exact h0)).1 er;have k1:=ec.trans (zCY hs (D.basic r) (r:=co) k0)
 rw [val,zAh (g:=fun j=>(D.pivot r s).c l j*bb n b ((D.pivot r s).free j)) (fun j hj=>by
  show elim s (scaled s ro) co j*_=elim s (scaled s (D.a r)) (D.c l) j*bb n b (turn D.free s (D.basic r) j);unfold elim scaled; rw [es,es']; by_cases h:j=s
  ·simp only [if_pos h]
  ·simp only [if_neg h]; rw [show ro j=D.a r j from if_neg (by omega),show co j=D.c l j from if_neg (by omega)]),zBD _ _ (by omega),zBA _ (by omega),es,es',show ro n=D.R n r b from if_pos rfl,show co n=D.Rc n l b from if_pos rfl] at k1
 rw [Dict.Rc]; grind
end Go.Proofs.YtpjaodcimomaiaaGreat.Lin
namespace Go.Proofs.YtpjaodcimomaiaaGreat.Lin
theorem fits_one (q:Rat):∃ k,Fits k q:=
 ⟨q.num.natAbs+q.den,nlt (Nat.le_of_lt Nat.lt_two_pow_self) (Nat.pow_le_pow_right (by omega) (by omega)),nlt (Nat.le_of_lt Nat.lt_two_pow_self) (Nat.pow_le_pow_right (by omega) (by omega))⟩
theorem zIm (n:Nat) (f:Nat->Rat):∃ k,∀ i,i<n->Fits k (f i):=by
 induction n with
 | zero=>exact ⟨0,fun i hi=>by omega⟩
 | succ n ih=>
  obtain ⟨k,h⟩:=ih;obtain ⟨l,h'⟩:=fits_one (f n);refine ⟨k+l,fun i hi=>?_⟩;by_cases e:i=n
  ·rw [e]; exact h'.mono (by omega)
  ·exact (h i (by omega)).mono (by omega)
theorem zGX (m n:Nat) (f:Nat->Nat->Rat):∃ k,∀ i j,i<m->j<n->Fits k (f i j):=by
 induction m with
 | zero=>exact ⟨0,fun i j hi=>by omega⟩
 | succ m ih=>
  obtain ⟨k,h⟩:=ih;obtain ⟨l,h'⟩:=zIm n (f m);refine ⟨k+l,fun i j hi hj=>?_⟩;by_cases e:i=m
  ·rw [e]; exact (h' j hj).mono (by omega)
  ·exact (h i j (by omega) hj).mono (by omega)
theorem start_fits (P:Prob):∃ k,1<=k/\P.start.Fits P k:=by
 obtain ⟨k,h⟩:=zGX P.m (P.n+1) P.start.a;obtain ⟨l,h'⟩:=zGX P.K (P.n+1) P.start.c;exact ⟨k+l+1,by omega,fun i j hi hj=>(h i j hi (by omega)).mono (by omega),fun i j hi hj=>(h' i j hi (by omega)).mono (by omega)⟩
def LFeas (P:Prob) (N:Nat) (lev:Nat->Nat->Rat) (D:Dict):Prop:=∀ i,i<P.m->LexPos N fun k=>D.R P.n i (lev k)
end Go.Proofs.YtpjaodcimomaiaaGreat.Lin
namespace Go.Proofs.YtpjaodcimomaiaaGreat.Lin
def unit (i:Nat):Nat->Rat:=fun x=>if x=i then 1 else 0
theorem zBB (n i v:Nat):bb n (unit i) v=if v=n+i then 1 else 0:=by
 unfold bb unit;by_cases h:v<n
 ·rw [if_pos h,if_neg (by omega)]
 ·rw [if_neg h];by_cases e:v=n+i
  ·rw [if_pos (by omega),if_pos e]
  ·rw [if_neg (by omega),if_neg e]
section
variable {P:Prob} {D:Dict}
end
def levels (P:Prob) (ch:Option (Nat->Rat)) (k:Nat):Nat->Rat:=
 match ch with
 | none=>if k=0 then P.b else unit (k-1)
 | some c=>if k=0 then P.b else if k=1 then c else unit (k-2)
def given:Option (Nat->Rat)->Nat
 | none=>1
 | some _=>2
theorem zEj (P:Prob) (ch:Option (Nat->Rat)) (i:Nat):levels P ch (given ch+i)=unit i:=by
 cases ch with
 | none=>show (if 1+i=0 then _ else unit (1+i-1))=_; rw [if_neg (by omega),show 1+i-1=i by omega]
 | some c=>show (if 2+i=0 then _ else if 2+i=1 then _ else unit (2+i-2))=_; rw [if_neg (by omega),if_neg (by omega),show 2+i-2=i by omega]
theorem zFJ (ch:Option (Nat->Rat)):0<given ch:=by cases ch <;> simp [given]
def LInf (P:Prob) (N:Nat) (lev:Nat->Nat->Rat) (D:Dict):Prop:=∃ r,r<P.m/\LexNeg N (fun k=>D.R P.n r (lev k))/\∀ j,j<P.n->0<=D.a r j
end Go.Proofs.YtpjaodcimomaiaaGreat.Lin
namespace Go.Proofs.YtpjaodcimomaiaaGreat
open Go.RowKit Go.Shelf
structure PV where
 d:Nat
 bas:SV
 fre:SV
 row:SV
 rb:Nat->Nat
 rc:Nat->Nat
 cb:Nat
 cc:Nat
structure PDA (W:World) (G:Nat->Prop) (x:PV) (V M E:Nat) (D:Lin.Dict):Prop where
 blk:W.heap[x.d]?=some (.cells #[.int .i64 V,x.bas.val,x.fre.val,x.row.val,.slice (some ⟨x.cb,0,none⟩) (E+1) x.cc] 191 (0,0))
 bas:Arr W x.bas M 3 fun i=>.int .i64 (D.basic i)
 fre:Arr W x.fre V 3 fun j=>.int .i64 (D.free j)
 row:Arr W x.row M 24 fun i=>.slice (some ⟨x.rb i,0,none⟩) (E+1) (x.rc i)
 rows:∀ i,i<M->RowP W G (x.rb i) (rowL E (D.a i))
 caps:∀ i,i<M->E+1<=x.rc i/\x.rc i<=9223372036854775807
 cst:RowP W G x.cb (rowL E (D.c 0))
 ccap:E+1<=x.cc/\x.cc<=9223372036854775807
 rinj:∀ i j,i<M->j<M->x.rb i=x.rb j->i=j
 apart:∀ i,i<M->x.rb i ≠ x.cb
 bf:∀ g,x.bas.A=some ⟨g,0,none⟩->x.fre.A ≠ some ⟨g,0,none⟩
 gin:∀ b,G b->b<W.heap.size
 gd:G x.d
 gb:∀ g,x.bas.A=some ⟨g,0,none⟩->G g
 gf:∀ g,x.fre.A=some ⟨g,0,none⟩->G g
 gr:∀ g,x.row.A=some ⟨g,0,none⟩->G g
section
variable {W W':World} {G:Nat->Prop} {x:PV} {V M E:Nat} {D D':Lin.Dict}
theorem PDA.dlt (h:PDA W G x V M E D):x.d<W.heap.size:=zAa h.blk
theorem PDA.cells (h:PDA W G x V M E D) :
  W.cell? ⟨x.d,0,none⟩=some (.int .i64 V)/\W.cell? ⟨x.d,1,none⟩=some x.bas.val/\W.cell? ⟨x.d,2,none⟩=some x.fre.val/\W.cell? ⟨x.d,3,none⟩=some x.row.val/\
  W.cell? ⟨x.d,4,none⟩=some (.slice (some ⟨x.cb,0,none⟩) (E+1) x.cc)/\∀ o,W.frozen? ⟨x.d,o,none⟩=false:=by
 simp [World.cell?,World.frozen?,h.blk]
theorem PDA.call (h:PDA W G x V M E D) (hb:Below W.heap.size W W'):PDA W' G x V M E D:=
 ⟨(hb.block _ h.dlt).trans h.blk,h.bas.below hb,h.fre.below hb,h.row.below hb,fun i hi=>(h.rows i hi).below hb,h.caps,h.cst.below hb,h.ccap,h.rinj,h.apart,h.bf,
  fun b hg=>ltl (h.gin b hg) hb.size,h.gd,h.gb,h.gf,h.gr⟩
end
def plc (D:Lin.Dict) (V k i:Nat):Int:=if Lin.find D.free (V+i) k<k then (Lin.find D.free (V+i) k:Int) else -1
def IntsAt' (W:World) (b n:Nat) (f:Nat->Int):Prop:=∃ cs,W.heap[b]?=some (.cells cs 3 (0,0))/\∀ i,i<n->cs[i]?=some (.int .i64 (f i))
theorem IntsAt'.cell {W:World} {b n:Nat} {f:Nat->Int} (h:IntsAt' W b n f) {i:Nat} (hi:i<n):W.cell? ⟨b,i,none⟩=some (.int .i64 (f i))/\(∀ o,W.frozen? ⟨b,o,none⟩=false)/\b<W.heap.size:=by
 obtain ⟨cs,e,hc⟩:=h;exact ⟨by simp [World.cell?,e,hc i hi],fun o=>by simp [World.frozen?,e],zAa e⟩
theorem IntsAt'.keep {W W':World} {b n:Nat} {f:Nat->Int} (h:IntsAt' W b n f) (hb:Below W.heap.size W W'):IntsAt' W' b n f:=by
 obtain ⟨cs,e,hc⟩:=h;exact ⟨cs,(hb.block b (zAa e)).trans e,hc⟩
theorem IntsAt'.set {W:World} {b n:Nat} {f g:Nat->Int} (h:IntsAt' W b n f) (k:Nat) (v:Int) (_hk:k<n) (e:∀ i,i<n->g i=if i=k then v else f i):IntsAt' (W.setCell ⟨b,k,none⟩ (.int .i64 v)) b n g:=by
 obtain ⟨cs,eb,hc⟩:=h;refine ⟨_,zAe _ eb,fun i hi=>?_⟩;have hs:i<cs.size:=(Array.getElem?_eq_some_iff.1 (hc i hi)).1;rw [Array.getElem?_setIfInBounds,e i hi];by_cases h':k=i
 ·subst h'; rw [if_pos rfl,if_pos hs,if_pos rfl]
 ·rw [if_neg h',if_neg (Ne.symm h')]; exact hc i hi
def rv (D:Lin.Dict) (V E row i:Nat):Rat:=
 if i<E+1-V then D.a row (V+i)
 else if 0<=plc D V V (i-(E+1-V)) then D.a row (plc D V V (i-(E+1-V))).toNat
 else if D.basic row=V+(i-(E+1-V)) then 1 else 0
theorem zJL (D:Lin.Dict) (V k i:Nat) (h:0<=plc D V k i):(plc D V k i).toNat<k:=by
 unfold plc at *
 split at h
 ·rename_i h1; simp [h1]
 ·omega
def PInv (P:Lin.Prob) (ch:Option (Nat->Rat)) (D:Lin.Dict):Prop:=
 Lin.Good P D/\∀ c,ch=some c->(∀ i,i<P.m->D.a i (P.n+1)=D.R P.n i c)/\D.c 0 (P.n+1)=D.Rc P.n 0 c
theorem PInv.pivot {P:Lin.Prob} {ch:Option (Nat->Rat)} {D:Lin.Dict} (h:PInv P ch D) {r s:Nat} (hr:r<P.m) (hs:s<P.n) (h0:D.a r s ≠ 0):PInv P ch (D.pivot r s):=by
 refine ⟨h.1.pivot hr hs h0,fun c hc=>?_⟩;obtain ⟨ha,hcc⟩:=h.2 c hc;have es:Lin.scaled s (D.a r) (P.n+1)=(D.a r s)⁻¹*D.R P.n r c:=by rw [Lin.zBA _ (by omega),ha r hr]
 refine ⟨fun i hi=>?_,?_⟩
 ·rw [Lin.zEs hs h0];show (if i=r then Lin.scaled s (D.a r) else Lin.elim s (Lin.scaled s (D.a r)) (D.a i)) (P.n+1)=_;by_cases e:i=r
  ·rw [if_pos e,if_pos e,es]
  ·rw [if_neg e,if_neg e,Lin.zBD _ _ (by omega),es,ha i hi]
 ·rw [Lin.zFs hs h0];show Lin.elim s (Lin.scaled s (D.a r)) (D.c 0) (P.n+1)=_;rw [Lin.zBD _ _ (by omega),es,hcc]
theorem zJ9 {P:Lin.Prob} {D:Lin.Dict} (G:Lin.Good P D) {row i:Nat} (hr:row<P.m) :
  D.R P.n row (Lin.unit i)=if 0<=plc D P.n P.n i then D.a row (plc D P.n P.n i).toNat else if D.basic row=P.n+i then 1 else 0:=by
 rw [Lin.Dict.R,Lin.zBB];by_cases h:Lin.find D.free (P.n+i) P.n<P.n
 ·have e:plc D P.n P.n i=(Lin.find D.free (P.n+i) P.n:Int):=by unfold plc; rw [if_pos h]
  have e2:D.free (Lin.find D.free (P.n+i) P.n)=P.n+i:=by
   rcases Lin.zCi D.free (P.n+i) P.n with h1 | h1
   ·exact h1.2
   ·omega
  have e5:(if 0<=plc D P.n P.n i then D.a row (plc D P.n P.n i).toNat else if D.basic row=P.n+i then (1:Rat) else 0)=D.a row (Lin.find D.free (P.n+i) P.n):=by
   rw [e,if_pos (by omega),Int.toNat_natCast]
  rw [e5,if_neg (fun e3=>G.apart row _ hr h (e3.trans e2.symm)),Lin.zBu (s:=Lin.find D.free (P.n+i) P.n) h (fun j hj hne=>by
   rw [Lin.zBB,if_neg (fun e3=>hne (G.fInj _ _ hj h (e3.trans e2.symm)))]; grind),Lin.zBB,if_pos e2]; grind
 ·have e:plc D P.n P.n i=-1:=by unfold plc; rw [if_neg h]
  have e5:(if 0<=plc D P.n P.n i then D.a row (plc D P.n P.n i).toNat else if D.basic row=P.n+i then (1:Rat) else 0)=if D.basic row=P.n+i then (1:Rat) else 0:=by
   rw [e,if_neg (by omega)]
  rw [e5,Lin.zAC fun j hj=>by
   rw [Lin.zBB,if_neg (fun e3=>h (Lin.zFk hj e3).1)]; grind]; grind
theorem PInv.rv {P:Lin.Prob} {ch:Option (Nat->Rat)} {D:Lin.Dict} (h:PInv P ch D) {E row k:Nat} (hE:E+1-P.n=Lin.given ch) (hr:row<P.m) :
  rv D P.n E row k=D.R P.n row (Lin.levels P ch k):=by
 unfold Proofs.YtpjaodcimomaiaaGreat.rv;rw [hE];by_cases hk:k<Lin.given ch
 ·rw [if_pos hk]
  cases ch with
  | none=>
   obtain rfl:k=0:=by simp [Lin.given] at hk; omega
   exact h.1.R hr
  | some c=>
   have:k=0\/k=1:=by simp [Lin.given] at hk; omega
   rcases this with rfl | rfl
   ·exact h.1.R hr
   ·exact (h.2 c rfl).1 row hr
 ·obtain ⟨i,rfl⟩:∃ i,k=Lin.given ch+i:=⟨k-Lin.given ch,by omega⟩;rw [if_neg hk,Lin.zEj,show Lin.given ch+i-Lin.given ch=i by omega,zJ9 h.1 hr]
structure PFits (V M E kb:Nat) (D:Lin.Dict):Prop where
 a:∀ i j,i<M->j<=E->Lin.Fits kb (D.a i j)
 c:∀ j,j<=E->Lin.Fits kb (D.c 0 j)
 r:∀ i k,i<M->k<E+1-V+M->Lin.Fits kb (rv D V E i k)
theorem PInv.fits {P:Lin.Prob} {ch:Option (Nat->Rat)} {D:Lin.Dict} (h:PInv P ch D) {E k:Nat} (hE:E+1-P.n=Lin.given ch) (hK:0<P.K) (hk:1<=k) (h0:P.start.Fits P k) (h1:∀ c,ch=some c->(P.re c).start.Fits (P.re c) k):PFits P.n P.m E (5 ^ P.n*k) D:=by
 have f0:=h.1.fits hk h0;have hg:=Lin.zFJ ch
 have ha:∀ i j,i<P.m->j<=E->Lin.Fits (5 ^ P.n*k) (D.a i j):=by
  intro i j hi hj;by_cases hj2:j<=P.n
  ·exact f0.1 i j hi hj2
  ·cases ch with
   | none=>simp [Lin.given] at hE; omega
   | some c=>
    obtain rfl:j=P.n+1:=by simp [Lin.given] at hE; omega
    have:=((h.1.re c).fits hk (h1 c rfl)).1 i P.n hi (nlr _);rw [show (D.re P.n c).a i P.n=D.R P.n i c from if_pos rfl] at this;rw [(h.2 c rfl).1 i hi]; exact this
 have hc:∀ j,j<=E->Lin.Fits (5 ^ P.n*k) (D.c 0 j):=by
  intro j hj;by_cases hj2:j<=P.n
  ·exact f0.2 0 j hK hj2
  ·cases ch with
   | none=>simp [Lin.given] at hE; omega
   | some c=>
    obtain rfl:j=P.n+1:=by simp [Lin.given] at hE; omega
    have:=((h.1.re c).fits hk (h1 c rfl)).2 0 P.n hK (nlr _);rw [show (D.re P.n c).c 0 P.n=D.Rc P.n 0 c from if_pos rfl] at this;rw [(h.2 c rfl).2]; exact this
 refine ⟨ha,hc,fun i j hi hj=>?_⟩;unfold Proofs.YtpjaodcimomaiaaGreat.rv
 split
 ·exact ha i _ hi (by omega)
 ·split
  ·rename_i h2;have:=zJL _ _ _ _ h2;exact ha i _ hi (by omega)
  ·split
   ·exact Lin.Fits.one _
   ·exact Lin.Fits.zero _
end Go.Proofs.YtpjaodcimomaiaaGreat
