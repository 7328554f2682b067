/- Texts MoH MoI MoJ MoQ of this claim. -/
import Derived.Test.YtjancagcmghfjaaGreatW12
set_option maxHeartbeats 4000000
namespace Go.Proofs.YtjancagcmghfjaaGreat
namespace Mo
theorem zXJ {par:Nat->Nat} (h:Dn par) {n x y:Nat} (hx:par x=x) (hy:par y=y) (hyn:max x y<=n) {par':Nat->Nat} (e:∀ b,par' b=if b=max x y then min x y else par b):∀ b,b<=n->upN par' n b=if upN par n b=max x y then min x y else upN par n b:=by
 have h':Dn par':=fun b=>by
  rw [e]; split
  ·omega
  ·exact h b
 by_cases exy:x=y
 ·subst exy
  have e2:par'=par:=by
   funext b;rw [e]
   split
   ·rename_i hb; rw [hb,Nat.max_self,Nat.min_self,hx]
   ·rfl
  intro b _;rw [e2]
  split
  ·rename_i hb; rw [hb]; simp
  ·rfl
 ·have hM:par' (max x y)=min x y:=by rw [e,if_pos rfl]
  have hm:par' (min x y)=min x y:=by
   rw [e,if_neg (by omega)];rcases Nat.le_total x y with hle | hle
   ·rw [Nat.min_eq_left hle]; exact hx
   ·rw [Nat.min_eq_right hle]; exact hy
  have hMp:par (max x y)=max x y:=by
   rcases Nat.le_total x y with hle | hle
   ·rw [Nat.max_eq_right hle]; exact hy
   ·rw [Nat.max_eq_left hle]; exact hx
  intro b
  induction b using Nat.strongRecOn with
  | ind b ih=>
   intro hb;by_cases eb:b=max x y
   ·subst eb;rw [zWc h' hyn (by rw [hM]; omega),hM,zUn hm,zUn hMp,if_pos rfl]
   ·have e1:par' b=par b:=(by rw [e,if_neg eb]);by_cases er:par b=b
    ·rw [zUn (e1.trans er),zUn er,if_neg eb]
    ·have hlt:par b<b:=by have:=h b; omega
     rw [zWc h' hb (by rw [e1]; exact er),e1,ih _ hlt (by omega),zWc h hb er]
theorem zYL {α:Type} {motive:List α->Prop} (nil:motive []) (snoc:∀ (l:List α) (a:α),motive l->motive (l++[a])) (l:List α):motive l:=by
 have:∀ r:List α,motive r.reverse:=fun r=>by
  induction r with
  | nil=>exact nil
  | cons a r ih=>rw [List.reverse_cons]; exact snoc _ _ ih
 have:=this l.reverse
 rwa [List.reverse_reverse] at this
def root (h:Hr) (b:Nat):Nat:=upN (par h) h.buses.toNat b
theorem zXR (h:Hr):Dn (par h):=zVa _ _ _
theorem zWr {n:Nat} {par:Nat->Nat} (h:Dn par):∀ b,b<=n->
  refsGo 0 0 (numb n par b).1=(List.range b).filter (fun a=>decide (upN par n a=a))/\(numb n par b).2=(refsGo 0 0 (numb n par b).1).length/\
   ∀ a,a<b->(numb n par b).1.getD a 0=(numb n par b).1.getD (upN par n a) 0/\(numb n par b).1.getD a 0<(numb n par b).2/\(upN par n a=a->(refsGo 0 0 (numb n par b).1).getD ((numb n par b).1.getD a 0) 0=a)
 | 0,_=>⟨rfl,rfl,fun a ha=>absurd ha (Nat.not_lt_zero a)⟩
 | b+1,hb=>by
  obtain ⟨h1,h2,h3⟩:=zWr (n:=n) h b (by omega);have hl:=zUw n par b;have hu:=zVy h n b;have hur:=zVz h n b (by omega);unfold numb;dsimp only;generalize numb n par b=r at h1 h2 h3 hl ⊢;obtain ⟨L,c⟩:=r;dsimp only at h1 h2 h3 hl ⊢
  have ga:∀ (x a:Nat),a<b->(L++[x]).getD a 0=L.getD a 0:=fun x a ha=>by
   rw [gdd,gdd,List.getElem?_append_left (by omega)]
  have gb:∀ x:Nat,(L++[x]).getD b 0=x:=fun x=>by
   rw [gdd,List.getElem?_append_right (by omega),hl]; simp
  rw [List.range_succ,List.filter_append];by_cases e:upN par n b=b
  ·rw [if_pos e];dsimp only;have hs:refsGo 0 0 (L++[c])=refsGo 0 0 L++[b]:=(by rw [zUm,if_pos (by omega),hl,Nat.zero_add]);refine ⟨by rw [hs,h1,List.filter_cons_of_pos (by simpa using e)]; rfl,by rw [hs,List.length_append,List.length_singleton]; omega,fun a ha=>?_⟩;by_cases ea:a=b
   ·subst ea;rw [e];refine ⟨rfl,by rw [gb]; omega,fun _=>?_⟩;rw [gb,hs,h2,gdd,List.getElem?_append_right (nlr _)]; simp
   ·have ha':a<b:=(by omega);have hua:=zVy h n a;obtain ⟨g1,g2,g3⟩:=h3 a ha';rw [ga _ _ ha',ga _ _ (by omega)];refine ⟨g1,by omega,fun hr=>?_⟩;rw [hs,gdd,List.getElem?_append_left (by omega),<-gdd];exact g3 hr
  ·rw [if_neg e];dsimp only;have hub:upN par n b<b:=(by omega);obtain ⟨u1,u2,-⟩:=h3 _ hub;have hs:refsGo 0 0 (L++[L.getD (upN par n b) 0])=refsGo 0 0 L:=(by rw [zUm,if_neg (by omega)]);refine ⟨by rw [hs,h1,List.filter_cons_of_neg (by simpa using e)]; simp,by rw [hs]; exact h2,fun a ha=>?_⟩;by_cases ea:a=b
   ·subst ea;rw [gb,ga _ _ hub];exact ⟨rfl,u2,fun hr=>absurd hr e⟩
   ·have ha':a<b:=(by omega);have hua:=zVy h n a;obtain ⟨g1,g2,g3⟩:=h3 a ha';rw [ga _ _ ha',ga _ _ (by omega),hs];exact ⟨g1,g2,g3⟩
theorem zYK (h:Hr):refsOf h=(List.range h.buses.toNat).filter fun b=>decide (root h b=b):=(zWr (zXR h) h.buses.toNat (nlr _)).1
end Mo
namespace Mo
open Gj Lin
theorem zVS {n:Nat} {m:Mt} (h:Sq n m) {a b:Nat} (ha:a<n) (hb:b<n) (q:Rat) (x:Nat->Rat) (i:Nat):(sum n fun j=>ent (addAt m a b q) i j*x j)=(sum n fun j=>ent m i j*x j)+if i=a then q*x b else 0:=by
 by_cases e:i=a
 ·rw [if_pos e]
  have h1:(sum n fun j=>ent (addAt m a b q) i j*x j)=sum n fun j=>ent m i j*x j+(if j=b then q*x b else 0):=zAh fun j _=>by
   rw [zUb h ha hb];by_cases ej:j=b
   ·rw [if_pos ⟨e,ej⟩,if_pos ej,e,ej]; grind
   ·rw [if_neg fun h=>ej h.2,if_neg ej]; grind
  rw [h1,zCb,zBu (s:=b) hb fun j _ hj=>if_neg hj,if_pos rfl]
 ·rw [if_neg e]
  have h1:(sum n fun j=>ent (addAt m a b q) i j*x j)=sum n fun j=>ent m i j*x j:=zAh fun j _=>by
   rw [zUb h ha hb,if_neg fun h=>e h.1]
  rw [h1]; grind
def lineAct (l:Ln) (x:Nat->Rat) (i:Nat):Rat:=(if i=l.f.toNat then 1 / (l.x:Rat)*(x l.f.toNat-x l.t.toNat) else 0)+if i=l.t.toNat then 1 / (l.x:Rat)*(x l.t.toNat-x l.f.toNat) else 0
theorem zYi {n:Nat} {m:Mt} (h:Sq n m) {l:Ln} (hf:l.f.toNat<n) (ht:l.t.toNat<n) (x:Nat->Rat) (i:Nat):(sum n fun j=>ent (eqLine m l) i j*x j)=(sum n fun j=>ent m i j*x j)+lineAct l x i:=by
 have s1:=h.addAt l.f.toNat l.f.toNat (1 / (l.x:Rat));have s2:=s1.addAt l.f.toNat l.t.toNat (-(1 / (l.x:Rat)));have s3:=s2.addAt l.t.toNat l.t.toNat (1 / (l.x:Rat));unfold eqLine lineAct;simp only;rw [zVS s3 ht hf,zVS s2 ht ht,zVS s1 hf ht,zVS h hf hf]
 split <;> split <;> grind
theorem zWm {n:Nat} (f:Nat->Ln) (x:Nat->Rat) (i:Nat):∀ (ks:List Nat) {m:Mt},Sq n m->(∀ j ∈ ks,(f j).f.toNat<n/\(f j).t.toNat<n)->
  (sum n fun j=>ent (ks.foldl (fun m k=>eqLine m (f k)) m) i j*x j)=(sum n fun j=>ent m i j*x j)+(ks.map fun k=>lineAct (f k) x i).sum
 | [],_,_,_=>by simp only [List.foldl_nil,List.map_nil,List.sum_nil]; grind
 | k :: ks,m,hs,hk=>by
  obtain ⟨h1,h2⟩:=hk k List.mem_cons_self;rw [List.foldl_cons,zWm f x i ks (hs.line (f k)) fun j hj=>hk j (List.mem_cons_of_mem _ hj),zYi hs h1 h2,List.map_cons,List.sum_cons];grind
theorem zW2 {n b:Nat} {m:Mt} (h:Sq n m) (hb:b<n) (i j:Nat):ent (m.set b ((unitM n).getD b [])) i j=if i=b then ent (unitM n) b j else ent m i j:=by
 unfold ent;rw [zT6 _ _ _ _ _ (by rw [h.1]; exact hb)]
 split <;> rfl
theorem zYt {n b:Nat} (hb:b<n) (x:Nat->Rat):(sum n fun j=>ent (unitM n) b j*x j)=x b:=by
 have e:∀ j,j<n->ent (unitM n) b j=if j=b then 1 else 0:=fun j hj=>by
  unfold ent unitM;rw [getD_map_range _ _ hb,getD_map_range _ _ hj]
 rw [zBu (s:=b) hb fun j hj hne=>by rw [e j hj,if_neg hne]; grind,e b hb,if_pos rfl]; grind
theorem zWZ {n:Nat} (x:Nat->Rat) (i:Nat):∀ (rf:List Nat) {m:Mt},Sq n m->(∀ b ∈ rf,b<n)->
  (sum n fun j=>ent (rf.foldl (fun m b=>m.set b ((unitM n).getD b [])) m) i j*x j)=if i ∈ rf then x i else sum n fun j=>ent m i j*x j
 | [],_,_,_=>by rw [if_neg (by simp)]; rfl
 | b :: rf,m,hs,hb=>by
  have hbn:=hb b List.mem_cons_self;rw [List.foldl_cons,zWZ x i rf (hs.setU hbn) fun c hc=>hb c (List.mem_cons_of_mem _ hc)];by_cases h1:i ∈ rf
  ·rw [if_pos h1,if_pos (List.mem_cons_of_mem _ h1)]
  ·rw [if_neg h1];by_cases h2:i=b
   ·subst h2;rw [if_pos List.mem_cons_self,<-zYt hbn x];exact zAh fun j _=>by rw [zW2 hs hbn,if_pos rfl]
   ·rw [if_neg (by simp [h1,h2])];exact zAh fun j _=>by rw [zW2 hs hbn,if_neg h2]
theorem zYG {h:Hr} (h0:hrErr h=0) (x:Nat->Rat) (i:Nat):(sum h.buses.toNat fun j=>ent (mat h) i j*x j)=if i ∈ refsOf h then x i else ((ins h).map fun k=>lineAct (h.lines.getD k d0) x i).sum:=by
 unfold mat eqs;have hs:=foldl_sq' (fun j=>h.lines.getD j ⟨0,0,0,0⟩) (ins h) (zUV h.buses.toNat);rw [zWZ x i (refsOf h) hs fun b hb=>zV7 hb];by_cases hi:i ∈ refsOf h
 ·rw [if_pos hi,if_pos hi]
 ·rw [if_neg hi,if_neg hi,zWm (fun j=>h.lines.getD j ⟨0,0,0,0⟩) x i (ins h) (zUV _) fun j hj=>by have:=zUv h0 hj; exact ⟨this.1,this.2.1⟩,
   zAC fun j _=>by rw [zVA]; grind]
  exact Rat.zero_add _
theorem zYl {h:Hr} {b:Nat}:b ∈ refsOf h ↔ b<h.buses.toNat/\root h b=b:=by
 rw [zYK,List.mem_filter,List.mem_range]; simp
end Mo
namespace Mo
open Gj Lin
def vr0:Vr:=⟨false,0,0,0,⟨0,0⟩⟩
end Mo
namespace Mo
open Gj Lin
theorem zXc {n:Nat} {ls:List Ln} {v:Nat->Rat} (ks:List Nat):(∀ k ∈ ks,(ls.getD k d0).f.toNat<n/\(ls.getD k d0).t.toNat<n/\v (ls.getD k d0).f.toNat=v (ls.getD k d0).t.toNat)->∀ b,b<=n->v (upN (joins n ls ks) n b)=v b:=by
 refine zYL (motive:=fun ks=>(∀ k ∈ ks,(ls.getD k d0).f.toNat<n/\(ls.getD k d0).t.toNat<n/\v (ls.getD k d0).f.toNat=v (ls.getD k d0).t.toNat)->∀ b,b<=n->v (upN (joins n ls ks) n b)=v b) (fun _ b _=>?_) (fun ks j ih hk b hb=>?_) ks
 ·rw [zUn (show joins n ls [] b=b from rfl)]
 ·have hd:=zVa n ls ks;obtain ⟨j1,j2,je⟩:=hk j (List.mem_append_right _ (List.mem_singleton.2 rfl));have r1:=zVz hd n _ (Nat.le_of_lt j1);have r2:=zVz hd n _ (Nat.le_of_lt j2);have l1:=zVy hd n (ls.getD j d0).f.toNat;have l2:=zVy hd n (ls.getD j d0).t.toNat;have key:=zXJ hd r1 r2 (n:=n) (by omega) (par':=joins n ls (ks++[j])) (fun b=>by rw [zVO]; rfl);have ih':=ih fun k hk'=>hk k (List.mem_append_left _ hk')
  have e1:=ih' _ (Nat.le_of_lt j1);have e2:=ih' _ (Nat.le_of_lt j2);have eb:=ih' b hb;rw [key b hb];generalize upN (joins n ls ks) n (ls.getD j d0).f.toNat=x at *;generalize upN (joins n ls ks) n (ls.getD j d0).t.toNat=y at *
  split
  ·rename_i h;rw [h] at eb;rcases Nat.le_total x y with hle | hle
   ·rw [Nat.max_eq_right hle] at eb;rw [Nat.min_eq_left hle,<-eb,e1,e2,je]
   ·rw [Nat.max_eq_left hle] at eb;rw [Nat.min_eq_right hle,<-eb,e1,e2,je]
  ·exact eb
theorem zWL {n:Nat} {l:Ln} (hf:l.f.toNat<n) (ht:l.t.toNat<n) (v:Nat->Rat):(sum n fun i=>v i*lineAct l v i)=1 / (l.x:Rat)*((v l.f.toNat-v l.t.toNat)*(v l.f.toNat-v l.t.toNat)):=by
 have e:(sum n fun i=>v i*lineAct l v i)=(sum n fun i=>if i=l.f.toNat then v i*(1 / (l.x:Rat)*(v l.f.toNat-v l.t.toNat)) else 0)+sum n fun i=>if i=l.t.toNat then v i*(1 / (l.x:Rat)*(v l.t.toNat-v l.f.toNat)) else 0:=by
  rw [<-zCb];refine zAh fun i _=>?_
  unfold lineAct
  split <;> split <;> grind
 rw [e,zBu (s:=l.f.toNat) hf fun i _ h=>if_neg h,zBu (s:=l.t.toNat) ht fun i _ h=>if_neg h,if_pos rfl,if_pos rfl];grind
theorem zW4 {α:Type} (n:Nat) (g:α->Nat->Rat):∀ ks:List α,(sum n fun i=>(ks.map fun k=>g k i).sum)=(ks.map fun k=>sum n (g k)).sum
 | []=>by simp only [List.map_nil,List.sum_nil]; exact zAC fun _ _=>rfl
 | k :: ks=>by
  simp only [List.map_cons,List.sum_cons];rw [zCb,zW4 n g ks]
theorem zWX {α:Type} (c:Rat) (g:α->Rat):∀ ks:List α,c*(ks.map g).sum=(ks.map fun k=>c*g k).sum
 | []=>by simp only [List.map_nil,List.sum_nil]; grind
 | k :: ks=>by
  simp only [List.map_cons,List.sum_cons];rw [<-zWX c g ks]; grind
theorem zWn {α:Type} {g:α->Rat}:∀ {ks:List α},(∀ k ∈ ks,0<=g k)->(ks.map g).sum=0->∀ k ∈ ks,g k=0
 | [],_,_,_,h=>by cases h
 | j :: ks,h0,hs,k,hk=>by
  have nn:∀ l:List α,(∀ k ∈ l,0<=g k)->0<=(l.map g).sum:=by
   intro l
   induction l with
   | nil=>intro _; simp only [List.map_nil,List.sum_nil]; exact Rat.le_refl
   | cons a l ih=>
    intro h;simp only [List.map_cons,List.sum_cons];have:=h a List.mem_cons_self;have:=ih fun k hk=>h k (List.mem_cons_of_mem _ hk)
    grind
  simp only [List.map_cons,List.sum_cons] at hs;have h1:=h0 j List.mem_cons_self;have h2:=nn ks fun k hk=>h0 k (List.mem_cons_of_mem _ hk)
  rcases List.mem_cons.1 hk with rfl | hk
  ·grind
  ·exact zWn (fun k hk=>h0 k (List.mem_cons_of_mem _ hk)) (by grind) k hk
theorem zYg {h:Hr} (h0:hrErr h=0):∃ m,inv h=some m:=by
 cases hm:inv h with
 | some m=>exact ⟨m,rfl⟩
 | none=>
  exfalso;have hn:(mat h).length=h.buses.toNat:=(zXN h).1;obtain ⟨v,k,hk,hv,hnull⟩:=zWk (m:=mat h) hm;rw [hn] at hk hnull
  have hrow:∀ i,i<h.buses.toNat->(if i ∈ refsOf h then v i else ((ins h).map fun k=>lineAct (h.lines.getD k d0) v i).sum)=0:=fun i hi=>by
   rw [<-zYG h0]; exact hnull i (by rw [hn]; exact hi)
  have href:∀ i ∈ refsOf h,v i=0:=fun i hi=>by
   have:=hrow i (zV7 hi)
   rwa [if_pos hi] at this
  have hE:(sum h.buses.toNat fun i=>v i*((ins h).map fun k=>lineAct (h.lines.getD k d0) v i).sum)=0:=zAC fun i hi=>by
   by_cases hr:i ∈ refsOf h
   ·rw [href i hr]; grind
   ·have:=hrow i hi;rw [if_neg hr] at this;rw [this]; grind
  have hE2:((ins h).map fun k=>1 / ((h.lines.getD k d0).x:Rat)*((v (h.lines.getD k d0).f.toNat-v (h.lines.getD k d0).t.toNat)*(v (h.lines.getD k d0).f.toNat-v (h.lines.getD k d0).t.toNat))).sum=0:=by
   rw [<-hE];have e1:(sum h.buses.toNat fun i=>v i*((ins h).map fun k=>lineAct (h.lines.getD k d0) v i).sum)=sum h.buses.toNat fun i=>((ins h).map fun k=>v i*lineAct (h.lines.getD k d0) v i).sum:=zAh fun i _=>zWX _ _ _
   rw [e1,zW4 h.buses.toNat (fun k i=>v i*lineAct (h.lines.getD k d0) v i)];congr 1;(refine List.map_congr_left fun k hk=>?_);obtain ⟨h1,h2,-⟩:=zUv h0 hk;exact (zWL h1 h2 v).symm
  have hz:=zWn (fun k hk=>by
   obtain ⟨-,-,-,h1,-⟩:=zUv h0 hk;have hx:(0:Rat)<((h.lines.getD k d0).x:Rat):=by exact_mod_cast (show (0:Int)<(h.lines.getD k d0).x by omega)
   have hq:0<=1 / ((h.lines.getD k d0).x:Rat):=by
    rw [Rat.div_def];exact Rat.mul_nonneg (by decide) (Rat.le_of_lt (Rat.inv_pos.2 hx))
   exact Rat.mul_nonneg hq (sq_nn _)) hE2
  have hline:∀ k ∈ ins h,v (h.lines.getD k d0).f.toNat=v (h.lines.getD k d0).t.toNat:=fun k hk=>by
   obtain ⟨-,-,-,h1,-⟩:=zUv h0 hk;have hx:(0:Rat)<((h.lines.getD k d0).x:Rat):=by exact_mod_cast (show (0:Int)<(h.lines.getD k d0).x by omega)
   have hq:0<1 / ((h.lines.getD k d0).x:Rat):=by
    rw [Rat.div_def];exact Rat.mul_pos (by decide) (Rat.inv_pos.2 hx)
   have:=hz k hk;rcases Rat.mul_eq_zero.1 this with e | e
   ·grind
   ·rcases Rat.mul_eq_zero.1 e with e | e <;> grind
  have hroot:=zXc (v:=v) (n:=h.buses.toNat) (ls:=h.lines) (ins h) (fun j hj=>by
   obtain ⟨h1,h2,-⟩:=zUv h0 hj;exact ⟨h1,h2,hline j hj⟩) k (Nat.le_of_lt hk)
  have hk2:root h k ∈ refsOf h:=by
   refine zYl.2 ⟨?_,zUn (zVz (zXR h) h.buses.toNat k (Nat.le_of_lt hk)) _⟩;have:=zVy (zXR h) h.buses.toNat k;show upN _ _ _<_;omega
  exact hv (by rw [<-hroot]; exact href _ hk2)
where
 sq_nn (a:Rat):0<=a*a:=by
  rcases Rat.le_total (a:=0) (b:=a) with h | h
  ·exact Rat.mul_nonneg h h
  ·have:0<=(-a)*(-a):=Rat.mul_nonneg (by grind) (by grind);grind
end Mo
end Go.Proofs.YtjancagcmghfjaaGreat
