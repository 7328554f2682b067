/- Texts BnM of this claim. -/
import Derived.Test.YtpjaodcimomaiaaGreatL12
set_option maxHeartbeats 4000000
namespace Go.Proofs.YtpjaodcimomaiaaGreat.Lin
variable {s k i j n m:Nat} {f:Nat->Rat} {bn cn:Nat->Nat}
theorem zMX (n m:Nat) (f:Nat->Nat->Rat):sum n (fun i=>sum m fun j=>f i j)=sum m fun j=>sum n fun i=>f i j:=by
 induction n with
 | zero=>exact (zAC fun _ _=>rfl).symm
 | succ n ih=>
  show sum n _+sum m _=_;rw [ih,<-zCb];rfl
section
variable {P:Prob} {D:Dict}
theorem zLs (G:Good P D) (f g:Nat->Rat) (hz:∀ v,P.n<=v->v<P.n+P.m->f v=0) :
  sum P.n (fun k=>f k*(if find D.basic k P.m<P.m then g (find D.basic k P.m) else 0))=sum P.m fun i=>f (D.basic i)*g i:=by
 have h1:∀ k,k<P.n->f k*(if find D.basic k P.m<P.m then g (find D.basic k P.m) else 0)=sum P.m fun i=>if D.basic i=k then f k*g i else 0:=fun k _=>by
  rcases zCi D.basic k P.m with ⟨h,e⟩ | ⟨h,e⟩
  ·rw [if_pos h,zBu (s:=find D.basic k P.m) h,if_pos e];intro i hi hne;exact if_neg fun e'=>hne (G.bInj i _ hi h (e'.trans e.symm))
  ·rw [if_neg (by omega),zAC]
   ·grind
   ·intro i hi; exact if_neg (e i hi)
 rw [zAh h1,zMX];refine zAh fun i hi=>?_
 by_cases hb:D.basic i<P.n
 ·rw [zBu (s:=D.basic i) hb,if_pos rfl];intro k _ hne;exact if_neg (Ne.symm hne)
 ·rw [zAC,hz _ (by omega) (G.bLt i hi)]
  ·grind
  ·intro k hk;exact if_neg (by omega)
theorem Good.cost_at (G:Good P D) {l:Nat} (hl:l<P.K) (hf:∀ v,v<P.n->f v=P.O l v) (hz:∀ v,P.n<=v->v<P.n+P.m->f v=0) (hs:s<P.n) :
  D.c l s=- f (D.free s)+sum P.m fun i=>f (D.basic i)*D.a i s:=by
 have e:P.at (D.dir P s) l=- D.c l s:=by
  have h1:=G.obj_dir hs G.point_sys 1 (l:=l) (by omega)
  have h2:P.obj l (fun v=>D.point P v+1*D.dir P s v)=P.obj l (D.point P)+P.obj l (D.dir P s):=by
   unfold Prob.obj;rw [if_pos hl,if_pos hl,if_pos hl,zLo]; grind
  rw [zKX hl] at h1;have h3:P.obj l (D.dir P s)=P.at (D.dir P s) l:=by unfold Prob.obj Prob.at; rw [if_pos hl]
  grind
 have hb:=zLs G f (fun i=>- D.a i s) hz
 have e2:P.at (D.dir P s) l=sum P.n (fun k=>f k*(if find D.basic k P.m<P.m then-D.a (find D.basic k P.m) s else 0))+f (D.free s):=by
  have e3:∀ k,k<P.n->P.O l k*D.dir P s k=f k*(if find D.basic k P.m<P.m then-D.a (find D.basic k P.m) s else 0)+(if k=D.free s then f k else 0):=fun k hk=>by
   rw [<-hf k hk];unfold Dict.dir;by_cases h:find D.basic k P.m<P.m
   ·rw [if_pos h,if_pos h,if_neg,Rat.add_zero];intro e;exact G.apart _ s h hs ((zFk (f:=D.basic) (v:=k) (m:=P.m) h (by rcases zCi D.basic k P.m with h' | h'; exact h'.2; omega)).2.trans e)
   ·rw [if_neg h,if_neg h];by_cases e:k=D.free s
    ·rw [if_pos e,if_pos e]; grind
    ·rw [if_neg e,if_neg e]; grind
  unfold Prob.at;rw [zAh e3,zCb];congr 1;by_cases h:D.free s<P.n
  ·rw [zBu (s:=D.free s) h,if_pos rfl];intro k _ hne;exact if_neg hne
  ·rw [zAC,hz _ (by omega) (G.fLt s hs)];intro k hk;exact if_neg (by omega)
 rw [hb] at e2
 have e4:sum P.m (fun i=>f (D.basic i) *-D.a i s)=- sum P.m fun i=>f (D.basic i)*D.a i s:=by
  rw [<-zFC];exact zAh fun i _=>by grind
 grind
theorem Good.cost_last (G:Good P D) {l:Nat} (hl:l<P.K) (hf:∀ v,v<P.n->f v=P.O l v) (hz:∀ v,P.n<=v->v<P.n+P.m->f v=0) :
  D.c l P.n=sum P.m fun i=>f (D.basic i)*D.a i P.n:=by
 rw [<-G.at_point hl,<-zLs G f (fun i=>D.a i P.n) hz];unfold Prob.at;exact zAh fun k hk=>by rw [hf k hk]; rfl
end
def aimTo (n:Nat) (bn cn:Nat->Nat) (a:Nat->Nat->Rat) (f:Nat->Rat) (k0:Rat) (i j:Nat):Rat:=(if j=n then k0 else-f (cn j))+sum i fun r=>f (bn r)*a r j
theorem zLc (n:Nat) (bn cn:Nat->Nat) (a:Nat->Nat->Rat) (f:Nat->Rat) (k0:Rat) (i j:Nat):aimTo n bn cn a f k0 (i+1) j=aimTo n bn cn a f k0 i j+f (bn i)*a i j:=by
 unfold aimTo;rw [show sum (i+1) (fun r=>f (bn r)*a r j)=sum i (fun r=>f (bn r)*a r j)+f (bn i)*a i j from rfl];grind
theorem zL5 (n:Nat) (bn cn:Nat->Nat) (a:Nat->Nat->Rat) (f:Nat->Rat) (k0:Rat) (j:Nat):aimTo n bn cn a f k0 0 j=if j=n then k0 else-f (cn j):=by
 unfold aimTo;rw [show sum 0 (fun r=>f (bn r)*a r j)=0 from rfl];grind
theorem zMO :∀ {n:Nat},(∀ i,i<n->Fits k (f i))->Fits (n*(k+1)) (sum n f):=by
 intro n
 induction n with
 | zero=>intro _; exact Fits.zero _
 | succ n ih=>
  intro h;exact ((ih fun i hi=>h i (by omega)).add (h n (by omega))).mono (by rw [Nat.add_mul]; omega)
theorem zMc {a:Nat->Nat->Rat} {k0:Rat} (hf:∀ v,Fits k (f v)) (h0:Fits k k0) (ha:∀ i j,i<m->j<=n->Fits k (a i j)) (hi:i<=m) (hj:j<=n):Fits (i*(2*k+1)+k+1) (aimTo n bn cn a f k0 i j):=by
 have h1:Fits (i*(2*k+1)) (sum i fun r=>f (bn r)*a r j):=zMO fun r hr=>by
  have:=(hf (bn r)).mul (ha r j (by omega) hj)
  rwa [<-Nat.two_mul] at this
 have h2:Fits k (if j=n then k0 else-f (cn j)):=by split; exact h0; exact (hf _).neg
 exact (h2.add h1).mono (by omega)
end Go.Proofs.YtpjaodcimomaiaaGreat.Lin
