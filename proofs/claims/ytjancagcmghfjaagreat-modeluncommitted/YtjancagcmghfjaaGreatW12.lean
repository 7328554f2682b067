/- Texts MoC MoE MoF MoG MpM of this claim. -/
import Derived.Test.YtjancagcmghfjaaGreatW11
set_option maxHeartbeats 4000000
namespace Go.Proofs.YtjancagcmghfjaaGreat
namespace Mo
open Gj
def d0:Ln:=⟨0,0,0,0⟩
theorem zVT {P:Ln->Prop} {ls:List Ln}:(∀ l ∈ ls,P l) ↔ ∀ j,j<ls.length->P (ls.getD j d0):=by
 constructor
 ·intro h j hj;rw [gdd,gge hj];exact h _ (List.getElem_mem hj)
 ·intro h l hl;obtain ⟨j,hj,rfl⟩:=List.getElem_of_mem hl;have:=h j hj
  rwa [gdd,gge hj] at this
def Sq (n:Nat) (m:Mt):Prop:=m.length=n/\Rect m n
theorem Sq.addAt {n:Nat} {m:Mt} (h:Sq n m) (i j:Nat) (q:Rat):Sq n (addAt m i j q):=by
 refine ⟨by unfold Mo.addAt; rw [List.length_set]; exact h.1,fun r hr=>?_⟩;unfold Mo.addAt at hr ⊢;rw [List.length_set] at hr;by_cases hi:i<m.length
 ·rw [zT6 _ _ _ _ _ hi]
  split
  ·rw [List.length_set]; exact h.2 _ hi
  ·exact h.2 _ hr
 ·rw [List.set_eq_of_length_le (by omega)]; exact h.2 _ hr
theorem zUb {n:Nat} {m:Mt} (h:Sq n m) {i j:Nat} (hi:i<n) (hj:j<n) (q:Rat) (a b:Nat):ent (addAt m i j q) a b=if a=i/\b=j then ent m i j+q else ent m a b:=by
 have hi':i<m.length:=by rw [h.1]; exact hi
 have hj':j<(m.getD i []).length:=by rw [h.2 i hi']; exact hj
 unfold Mo.addAt ent;rw [zT6 _ _ _ _ _ hi'];by_cases e:a=i
 ·rw [if_pos e,zT6 _ _ _ _ _ hj'];by_cases e2:b=j
  ·rw [if_pos e2,if_pos ⟨e,e2⟩]
  ·rw [if_neg e2,if_neg fun h=>e2 h.2,e]
 ·rw [if_neg e,if_neg fun h=>e h.1]
theorem Sq.line {n:Nat} {m:Mt} (h:Sq n m) (l:Ln):Sq n (eqLine m l):=(((h.addAt _ _ _).addAt _ _ _).addAt _ _ _).addAt _ _ _
theorem zUV (n:Nat):Sq n (zeroM n):=by
 unfold zeroM;refine ⟨by simp,fun i hi=>?_⟩;rw [List.length_map,List.length_range] at hi;rw [getD_map_range _ _ hi]; simp
theorem zUO {n:Nat} (f:Nat->Ln):∀ (ks:List Nat) {m:Mt},Sq n m->Sq n (ks.foldl (fun m k=>eqLine m (f k)) m)
 | [],_,h=>h
 | k :: ks,_,h=>zUO f ks (h.line (f k))
theorem zUi {h:Hr} (h0:hrErr h=0):1<=h.buses/\h.buses<=6/\h.lines.length<=10/\(∀ l ∈ h.lines,LnOk h.buses l)/\outOk h.lines.length none h.out=true:=by
 have ho:outErr h.buses h.lines h.out=0:=by
  unfold hrErr at h0
  split at h0
  ·exact absurd h0 (by assumption)
  ·rename_i h1; simpa using h1
 have hn:netErr h.buses h.lines=0:=by
  unfold outErr at ho
  split at ho
  ·exact absurd ho (by assumption)
  ·rename_i h1; simpa using h1
 unfold outErr at ho;rw [if_neg (by simpa using hn)] at ho;unfold netErr at hn
 split at hn
 ·cases hn
 split at hn
 ·cases hn
 split at hn
 ·refine ⟨by omega,by omega,by omega,by assumption,?_⟩
  split at ho
  ·assumption
  ·cases ho
 ·cases hn
theorem zYy {h:Hr} {k:Nat} (hk:k ∈ ins h):k<h.lines.length:=by
 unfold ins inS at hk;exact List.mem_range.1 (List.mem_filter.1 hk).1
theorem zXK {h:Hr} (h0:hrErr h=0) {k:Nat} (hk:k<h.lines.length):LnOk h.buses (h.lines.getD k d0):=zVT.1 (zUi h0).2.2.2.1 k hk
theorem zUN {f:Nat->List (List Rat × Rat)} (h:∀ k,(f k).length=2):∀ l:List Nat,(l.flatMap f).length=2*l.length
 | []=>rfl
 | x :: l=>by rw [List.flatMap_cons,List.length_append,h,zUN h l,List.length_cons]; omega
end Mo
namespace Mo
theorem zWB:∀ (d a:Nat) (l:List Nat),(∀ x ∈ l,a<=x/\x<a+d)->l.Pairwise (·<·)->((List.range' a d).filter fun k=>!(l.contains k)).length+l.length=d
 | 0,a,l,h,_=>by
  cases l with
  | nil=>rfl
  | cons x t=>have:=h x List.mem_cons_self; omega
 | d+1,a,l,h,hp=>by
  rw [List.range'_succ];by_cases ha:a ∈ l
  ·cases l with
   | nil=>cases ha
   | cons k t=>
    obtain ⟨h1,h2⟩:=List.pairwise_cons.1 hp
    have hk:k=a:=by
     rcases List.mem_cons.1 ha with e | e
     ·exact e.symm
     ·have:=h1 a e; have:=(h k List.mem_cons_self).1; omega
    subst hk;rw [List.filter_cons_of_neg (by simp)];have ih:=zWB d (k+1) t (fun x hx=>by have:=h x (List.mem_cons_of_mem _ hx); have:=h1 x hx; omega) h2
    have e:(List.range' (k+1) d).filter (fun j=>!((k :: t).contains j))=(List.range' (k+1) d).filter fun j=>!(t.contains j):=by
     apply List.filter_congr;intro j hj;have hj':=(List.mem_range'_1.1 hj).1;have:j ≠ k:=(by omega);simp [this]
    rw [e,List.length_cons];omega
  ·rw [List.filter_cons_of_pos (by simpa using ha),List.length_cons]
   have ih:=zWB d (a+1) l (fun x hx=>by
    have:=h x hx;have:x ≠ a:=(fun e=>ha (e ▸ hx));omega) hp
   omega
theorem zUZ {n:Nat}:∀ {l:List Int} {o:Option Int},outOk n o l=true->(∀ x ∈ l,0<=x/\x<n/\∀ p,o=some p->p<x)/\l.Pairwise (·<·)
 | [],_,_=>⟨fun x hx=>(by cases hx),.nil⟩
 | k :: t,o,h=>by
  unfold outOk at h;simp only [Bool.and_eq_true,decide_eq_true_eq] at h;obtain ⟨⟨⟨h1,h2⟩,h3⟩,h4⟩:=h;obtain ⟨g1,g2⟩:=zUZ h4;have hk:∀ p,o=some p->p<k:=fun p e=>by subst e; simpa using h3
  refine ⟨fun x hx=>?_,List.pairwise_cons.2 ⟨fun x hx=>(g1 x hx).2.2 k rfl,g2⟩⟩;rcases List.mem_cons.1 hx with rfl | hx
  ·exact ⟨h1,h2,hk⟩
  ·obtain ⟨a,b,c⟩:=g1 x hx;exact ⟨a,b,fun p e=>by have:=hk p e; have:=c k rfl; omega⟩
theorem zV2 {h:Hr} (h0:hrErr h=0):(ins h).length+h.out.length=h.lines.length:=by
 obtain ⟨g1,g2⟩:=zUZ (zUi h0).2.2.2.2
 have e:ins h=(List.range' 0 h.lines.length).filter fun k=>!((h.out.map Int.toNat).contains k):=by
  unfold ins inS;rw [List.range_eq_range'];apply List.filter_congr;intro k _;congr 1;rw [Bool.eq_iff_iff,List.contains_iff_mem,List.contains_iff_mem,List.mem_map];constructor
  ·intro hk; exact ⟨k,hk,by simp⟩
  ·rintro ⟨x,hx,e⟩;have:=(g1 x hx).1;rw [<-e,Int.toNat_of_nonneg this]; exact hx
 have:=zWB h.lines.length 0 (h.out.map Int.toNat) (fun x hx=>by
  obtain ⟨y,hy,rfl⟩:=List.mem_map.1 hx;have:=g1 y hy
  omega) (List.pairwise_map.2 (g2.imp_of_mem fun {a b} ha hb hab=>by
   have:=(g1 a ha).1;have:=(g1 b hb).1;omega))
 rw [e];rw [List.length_map] at this;exact this
theorem zUh {h:Hr} (h0:hrErr h=0):h.units.length<=5/\h.bids.length<=6/\(∀ u ∈ h.units,unitErr u h.buses=0)/\h.on.length=h.units.length/\bidsErr h.buses h.bids=0:=by
 unfold hrErr at h0
 split at h0
 ·exact absurd h0 (by assumption)
 split at h0
 ·cases h0
 split at h0
 ·exact absurd h0 (by assumption)
 rename_i h3
 split at h0
 ·cases h0
 exact ⟨by omega,by omega,zVx.1 (by simpa using h3),by omega,h0⟩
theorem zUs {buses:Int}:∀ {bs:List Bd},bidsErr buses bs=0->∀ b ∈ bs,0<=b.bus/\b.bus<buses/\stepErr false b.steps=0
 | [],_,_,hb=>by cases hb
 | c :: bs,h,b,hb=>by
  unfold bidsErr at h
  split at h
  ·cases h
  split at h
  ·exact absurd h (by assumption)
  rename_i h1 h2;rcases List.mem_cons.1 hb with rfl | hb
  ·exact ⟨by omega,by omega,by simpa using h2⟩
  ·exact zUs h b hb
theorem zT8 {up:Bool} {l:List St} (h:stepErr up l=0):1<=l.length/\l.length<=3/\chk up none l=0:=by
 unfold stepErr at h
 split at h
 ·cases h
 split at h
 ·cases h
 exact ⟨by omega,by omega,h⟩
theorem zVJ {up:Bool}:∀ {o:Option Int} {l:List St},chk up o l=0->∀ s ∈ l,1<=s.q/\s.q<=1000000/\-1000000<=s.p/\s.p<=1000000
 | _,[],_,_,hs=>by cases hs
 | o,t :: l,h,s,hs=>by
  unfold chk at h
  split at h
  ·cases h
  rename_i h1;have ht:1<=t.q/\t.q<=1000000/\-1000000<=t.p/\t.p<=1000000:=by omega
  rcases List.mem_cons.1 hs with rfl | hs
  ·exact ht
  ·cases o with
   | none=>exact zVJ h s hs
   | some p=>
    simp only at h
    split at h
    ·exact zVJ h s hs
    ·cases h
theorem zVw {u:Un} {buses:Int} (h:unitErr u buses=0):0<=u.bus/\u.bus<buses/\stepErr true u.steps=0/\0<=u.min/\u.min<=sumQ u.steps:=by
 unfold unitErr at h
 split at h
 ·cases h
 split at h
 ·exact absurd h (by assumption)
 split at h
 ·cases h
 rename_i h1 h2 h3;exact ⟨by omega,by omega,by simpa using h2,by omega,by omega⟩
theorem zUA {bid:Bool} {i:Nat} {bus:Int}:∀ {k:Nat} {l:List St} {v:Vr},v ∈ stepVars bid i bus k l->v.bus=bus/\v.s ∈ l
 | _,[],_,h=>by cases h
 | k,s :: l,v,h=>by
  rcases List.mem_cons.1 h with rfl | h
  ·exact ⟨rfl,List.mem_cons_self⟩
  ·have:=zUA h; exact ⟨this.1,List.mem_cons_of_mem _ this.2⟩
def VrOk (h:Hr) (v:Vr):Prop:=0<=v.bus/\v.bus<h.buses/\1<=v.s.q/\v.s.q<=1000000/\-1000000<=v.s.p/\v.s.p<=1000000
theorem zVv {P:Vr->Prop}:∀ {i:Nat} {us:List Un} {os:List Bool},(∀ u ∈ us,∀ i,∀ v ∈ stepVars false i u.bus 0 u.steps,P v)->∀ v ∈ unitVars i us os,P v
 | _,[],_,_,_,h=>by cases h
 | _,_ :: _,[],_,_,h=>by cases h
 | i,u :: us,o :: os,hu,v,h=>by
  unfold unitVars at h;rcases List.mem_append.1 h with h | h
  ·split at h
   ·exact hu u List.mem_cons_self i v h
   ·cases h
  ·exact zVv (fun u' hu'=>hu u' (List.mem_cons_of_mem _ hu')) v h
theorem zVH {P:Vr->Prop}:∀ {i:Nat} {bs:List Bd},(∀ b ∈ bs,∀ i,∀ v ∈ stepVars true i b.bus 0 b.steps,P v)->∀ v ∈ bidVars i bs,P v
 | _,[],_,_,h=>by cases h
 | i,b :: bs,hb,v,h=>by
  unfold bidVars at h;rcases List.mem_append.1 h with h | h
  ·exact hb b List.mem_cons_self i v h
  ·exact zVH (fun b' hb'=>hb b' (List.mem_cons_of_mem _ hb')) v h
theorem zX3 {h:Hr} (h0:hrErr h=0):∀ v ∈ vars h,VrOk h v:=by
 obtain ⟨-,-,hu,-,hb⟩:=zUh h0;intro v hv;rcases List.mem_append.1 hv with hv | hv
 ·refine zVv (P:=VrOk h) (fun u hu' i v hv=>?_) v hv;obtain ⟨h1,h2,h3,-⟩:=zVw (hu u hu');obtain ⟨e,hs⟩:=zUA hv;exact ⟨by omega,by omega,zVJ (zT8 h3).2.2 _ hs⟩
 ·refine zVH (P:=VrOk h) (fun b hb' i v hv=>?_) v hv;obtain ⟨h1,h2,h3⟩:=zUs hb b hb';obtain ⟨e,hs⟩:=zUA hv;exact ⟨by omega,by omega,zVJ (zT8 h3).2.2 _ hs⟩
theorem zVu:∀ {i:Nat} {us:List Un} {os:List Bool},(∀ u ∈ us,u.steps.length<=3)->(unitVars i us os).length<=3*us.length
 | _,[],_,_=>nzl _
 | _,_ :: _,[],_=>nzl _
 | i,u :: us,o :: os,h=>by
  unfold unitVars;have h1:=h u List.mem_cons_self;have h2:=zVu (i:=i+1) (os:=os) fun u' hu'=>h u' (List.mem_cons_of_mem _ hu')
  rw [List.length_append,List.length_cons]
  split
  ·rw [zT9]; omega
  ·simp only [List.length_nil]; omega
theorem zVG:∀ {i:Nat} {bs:List Bd},(∀ b ∈ bs,b.steps.length<=3)->(bidVars i bs).length<=3*bs.length
 | _,[],_=>nzl _
 | i,b :: bs,h=>by
  unfold bidVars;have h1:=h b List.mem_cons_self;have h2:=zVG (i:=i+1) fun b' hb'=>h b' (List.mem_cons_of_mem _ hb')
  rw [List.length_append,List.length_cons,zT9]; omega
theorem zUU {h:Hr} (h0:hrErr h=0):(vars h).length<=33:=by
 obtain ⟨hu5,hb6,hu,-,hb⟩:=zUh h0;have h1:=zVu (i:=0) (os:=h.on) fun u hu'=>(zT8 (zVw (hu u hu')).2.2.1).2.1
 have h2:=zVG (i:=0) fun b hb'=>(zT8 (zUs hb b hb').2.2).2.1
 unfold vars;rw [List.length_append]; omega
theorem zUE:∀ (b c:Nat) (l:List Nat),(refsGo b c l).length<=l.length
 | _,_,[]=>nlr _
 | b,c,i :: l=>by
  unfold refsGo
  split
  ·have:=zUE (b+1) (c+1) l; simp only [List.length_cons]; omega
  ·have:=zUE (b+1) c l; simp only [List.length_cons]; omega
theorem zUw (n:Nat) (par:Nat->Nat):∀ b,(numb n par b).1.length=b
 | 0=>rfl
 | b+1=>by
  have:=zUw n par b;unfold numb;dsimp only
  split <;> simp [this]
theorem zV6 {h:Hr} (h0:hrErr h=0):(refsOf h).length<=6:=by
 have h1:=zUE 0 0 (isl h);have h2:(isl h).length=h.buses.toNat:=zUw _ _ _;have:=(zUi h0).2.1;unfold refsOf;omega
end Mo
namespace Mo
open Gj
theorem zUC {x:Int} (h1:1<=x) (h2:x<=1000):Lin.Fits 10 (1 / (x:Rat)):=by
 have h:Lin.Fits 10 (x:Rat):=Lin.Fits.ofInt (by omega);have:=h.inv
 rwa [show (1:Rat) / (x:Rat)=(x:Rat)⁻¹ by rw [Rat.div_def]; grind]
theorem zVA (n i j:Nat):ent (zeroM n) i j=0:=by
 unfold ent zeroM;by_cases hi:i<n
 ·rw [getD_map_range _ _ hi];by_cases hj:j<n
  ·rw [getD_map_range _ _ hj]
  ·rw [zAw _ _ _ (by simp; omega)]
 ·rw [zAw _ i [] (by simp; omega)]; rfl
theorem zWx (n i j:Nat):ent (unitM n) i j=0\/ent (unitM n) i j=1:=by
 unfold ent unitM;by_cases hi:i<n
 ·rw [getD_map_range _ _ hi];by_cases hj:j<n
  ·rw [getD_map_range _ _ hj]; split
   ·exact .inr rfl
   ·exact .inl rfl
  ·rw [zAw _ _ _ (by simp; omega)]; exact .inl rfl
 ·rw [zAw _ i [] (by simp; omega)]; exact .inl rfl
theorem zYj {n k:Nat} {m:Mt} {l:Ln} (hs:Sq n m) (h:FitM k m) (hf:l.f.toNat<n) (ht:l.t.toNat<n) (hne:l.f.toNat ≠ l.t.toNat) (h1:1<=l.x) (h2:l.x<=1000):FitM (k+11) (eqLine m l):=fun a b=>by
 have hq:=zUC h1 h2;have hn:=hq.neg;have s1:=hs.addAt l.f.toNat l.f.toNat (1 / (l.x:Rat));have s2:=s1.addAt l.f.toNat l.t.toNat (-(1 / (l.x:Rat)));have s3:=s2.addAt l.t.toNat l.t.toNat (1 / (l.x:Rat));unfold eqLine;simp only;generalize l.f.toNat=f at *;generalize l.t.toNat=t at *;generalize 1 / (l.x:Rat)=q at *;rw [zUb s3 ht hf,zUb s2 ht ht,zUb s1 hf ht,zUb hs hf hf];simp only [zUb s2 ht ht,zUb s1 hf ht,zUb hs hf hf];have e1:=(h f f).add hq;have e2:=(h f t).add hn;have e3:=(h t t).add hq;have e4:=(h t f).add hn;have e5:∀ a b,Lin.Fits (k+11) (ent m a b):=fun a b=>(h a b).mono (by omega)
 by_cases a1:a=f <;> by_cases a2:a=t <;> by_cases b1:b=f <;> by_cases b2:b=t <;> simp_all
theorem zVn {n:Nat} (f:Nat->Ln):∀ (ks:List Nat) {k:Nat} {m:Mt},Sq n m->FitM k m->(∀ j ∈ ks,(f j).f.toNat<n/\(f j).t.toNat<n/\(f j).f.toNat ≠ (f j).t.toNat/\1<=(f j).x/\(f j).x<=1000)->FitM (k+11*ks.length) (ks.foldl (fun m k=>eqLine m (f k)) m)
 | [],_,_,_,h,_=>h
 | j :: ks,k,m,hs,h,hj=>by
  obtain ⟨h1,h2,h3,h4,h5⟩:=hj j List.mem_cons_self;have:=zVn f ks (hs.line (f j)) (zYj hs h h1 h2 h3 h4 h5) fun i hi=>hj i (List.mem_cons_of_mem _ hi)
  rw [List.foldl_cons,List.length_cons]
  rwa [show k+11*(ks.length+1)=k+11+11*ks.length by omega]
theorem zYP {k n b:Nat} {m:Mt} (h:FitM k m):FitM k (m.set b ((unitM n).getD b [])):=fun i j=>by
 by_cases hb:b<m.length
 ·unfold ent;rw [zT6 _ _ _ _ _ hb]
  split
  ·rcases zWx n b j with e | e
   ·unfold ent at e; rw [e]; exact Lin.Fits.zero _
   ·unfold ent at e; rw [e]; exact Lin.Fits.one _
  ·exact h i j
 ·rw [List.set_eq_of_length_le (by omega)]; exact h i j
theorem Sq.setU {n b:Nat} {m:Mt} (h:Sq n m) (hb:b<n):Sq n (m.set b ((unitM n).getD b [])):=by
 refine ⟨by rw [List.length_set]; exact h.1,fun i hi=>?_⟩;rw [List.length_set] at hi;rw [zT6 _ _ _ _ _ (by rw [h.1]; exact hb)]
 split
 ·unfold unitM; rw [getD_map_range _ _ hb]; simp
 ·exact h.2 i hi
theorem zW0 {k n:Nat}:∀ (rf:List Nat) {m:Mt},FitM k m->FitM k (rf.foldl (fun m b=>m.set b ((unitM n).getD b [])) m)
 | [],_,h=>h
 | _ :: rf,_,h=>zW0 rf (zYP h)
theorem zXT {n:Nat}:∀ (rf:List Nat) {m:Mt},(∀ b ∈ rf,b<n)->Sq n m->Sq n (rf.foldl (fun m b=>m.set b ((unitM n).getD b [])) m)
 | [],_,_,h=>h
 | b :: rf,_,hb,h=>zXT rf (fun c hc=>hb c (List.mem_cons_of_mem _ hc)) (h.setU (hb b List.mem_cons_self))
theorem zUR:∀ (b c:Nat) (l:List Nat),∀ x ∈ refsGo b c l,x<b+l.length
 | _,_,[],_,hx=>by cases hx
 | b,c,i :: l,x,hx=>by
  unfold refsGo at hx;rw [List.length_cons]
  split at hx
  ·rcases List.mem_cons.1 hx with rfl | hx
   ·omega
   ·have:=zUR (b+1) (c+1) l x hx; omega
  ·have:=zUR (b+1) c l x hx; omega
theorem zV7 {h:Hr} {b:Nat} (hb:b ∈ refsOf h):b<h.buses.toNat:=by
 have:=zUR 0 0 (isl h) b hb;have e:(isl h).length=h.buses.toNat:=zUw _ _ _;omega
def mat (h:Hr):Mt:=eqs h.buses.toNat h.lines (ins h) (refsOf h)
theorem zUv {h:Hr} (h0:hrErr h=0) {j:Nat} (hj:j ∈ ins h):(h.lines.getD j d0).f.toNat<h.buses.toNat/\(h.lines.getD j d0).t.toNat<h.buses.toNat/\(h.lines.getD j d0).f.toNat ≠ (h.lines.getD j d0).t.toNat/\1<=(h.lines.getD j d0).x/\(h.lines.getD j d0).x<=1000:=by
 obtain ⟨h1,h2,h3,h4,h5,h6,h7,-⟩:=zXK h0 (zYy hj);exact ⟨by omega,by omega,by omega,h6,h7⟩
theorem foldl_sq' {n:Nat} (f:Nat->Ln) (ks:List Nat) {m:Mt} (h:Sq n m):Sq n (ks.foldl (fun m k=>eqLine m (f k)) m):=zUO f ks h
theorem zXN (h:Hr):Sq h.buses.toNat (mat h):=zXT _ (fun _ hb=>zV7 hb) (foldl_sq' (fun j=>h.lines.getD j ⟨0,0,0,0⟩) (ins h) (zUV _))
theorem zXM {h:Hr} (h0:hrErr h=0):FitM 110 (mat h):=by
 have hl:=zV2 h0;have h10:=(zUi h0).2.2.1;have h1:FitM 0 (zeroM h.buses.toNat):=fun i j=>by rw [zVA]; exact Lin.Fits.zero _
 have h2:=zVn (fun j=>h.lines.getD j ⟨0,0,0,0⟩) (ins h) (zUV _) h1 fun j hj=>zUv h0 hj
 exact zW0 _ fun i j=>(h2 i j).mono (by omega)
theorem zVE {k:Nat} {m:Mt} (h:FitM k m):FitM k (beside m):=fun i j=>by
 by_cases hi:i<m.length
 ·by_cases hj:j<m.length
  ·rw [zUH hi hj]; exact h i j
  ·by_cases hj2:j<m.length+m.length
   ·obtain ⟨d,rfl⟩:∃ d,j=m.length+d:=⟨j-m.length,by omega⟩;rw [zUz hi (by omega)]
    split
    ·exact Lin.Fits.one _
    ·exact Lin.Fits.zero _
   ·have:=zUI m i (by rw [zUa]; exact hi);unfold ent;rw [zAw _ _ _ (by rw [this]; omega)]; exact Lin.Fits.zero _
 ·unfold ent;rw [zAw (beside m) i [] (by rw [zUa]; omega)]; exact Lin.Fits.zero _
theorem zWR:∀ (f c:Nat) {k:Nat} {m:Mt} {ps:List Nat},FitM k m->ps.length<=m.length->FitM (grow f k) (run f c m ps).1
 | 0,_,_,_,_,h,_=>h
 | f+1,c,k,m,ps,h,hp=>by
  unfold run
  split
  ·exact fun i j=>(h i j).mono (zXG _ _)
  ·split
   ·exact fun i j=>(zWR f (c+1) h hp i j).mono (by
     show grow f k<=grow f (5*k+5);exact grow_mono f (by omega))
   ·rename_i g hg;obtain ⟨g1,g2,-⟩:=zUD hg;exact zWR f (c+1) (h.next (by omega) (by omega)) (by rw [zT5,List.length_append,List.length_singleton]; omega)
where
 grow_mono:∀ (n:Nat) {k l:Nat},k<=l->grow n k<=grow n l
  | 0,_,_,h=>h
  | n+1,k,l,h=>grow_mono n (show 5*k+5<=5*l+5 by omega)
theorem zXI {h:Hr} (h0:hrErr h=0) {m:Mt} (hm:inv h=some m):FitM 2000000 m:=by
 have hb:=(zUi h0).2.1;have hb1:=(zUi h0).1;have hl:(mat h).length<=6:=by rw [(zXN h).1]; omega
 have hm':inverse (mat h)=some m:=hm;unfold inverse at hm'
 split at hm'
 ·cases hm'
 ·obtain rfl:=Option.some.inj hm';have h1:=zWR (mat h).length 0 (k:=110) (ps:=[]) (zVE (zXM h0)) (nzl _);intro i j;rw [zWV];refine (h1 i _).mono ?_;generalize (mat h).length=L at hl ⊢;rcases (show L=0\/L=1\/L=2\/L=3\/L=4\/L=5\/L=6 by omega) with rfl | rfl | rfl | rfl | rfl | rfl | rfl <;> decide
theorem zVM {h:Hr} (h0:hrErr h=0) {m:Mt} (hm:inv h=some m) (k b:Nat):Lin.Fits 4000011 (factor h.lines (ins h) m k b):=by
 unfold factor;simp only
 split
 ·rename_i hk;obtain ⟨-,-,-,h1,h2⟩:=zUv h0 hk;have hf:=zXI h0 hm;have:=((hf (h.lines.getD k d0).f.toNat b).sub (hf (h.lines.getD k d0).t.toNat b)).mul (zUC h1 h2);rw [show ∀ a x:Rat,a / x=a*(1 / x) by intro a x; rw [Rat.div_def,Rat.div_def]; grind];exact this.mono (by omega)
 ·exact Lin.Fits.zero _
end Mo
namespace Mo
def nx (out:List Int) (k:Nat):Nat:=(out.filter fun x=>decide (x<(k:Int))).length
theorem zYH {out:List Int} (h:∀ x ∈ out,0<=x):nx out 0=0:=by
 unfold nx;rw [List.filter_eq_nil_iff.2 fun x hx=>by have:=h x hx; simp; omega]; rfl
theorem zYm:∀ {out:List Int} {k:Nat},out.Pairwise (·<·)->(k:Int) ∈ out->∃ a b,out=a++(k:Int) :: b/\nx out k=a.length/\nx out (k+1)=a.length+1:=by
 intro out k hp hk;obtain ⟨a,b,e⟩:=List.append_of_mem hk;rw [e] at hp;obtain ⟨h1,h2,h3⟩:=List.pairwise_append.1 hp;have ha:∀ x ∈ a,x<(k:Int):=fun x hx=>h3 x hx _ List.mem_cons_self
 have hb:∀ x ∈ b,(k:Int)<x:=fun x hx=>(List.pairwise_cons.1 h2).1 x hx
 refine ⟨a,b,e,?_,?_⟩
 ·unfold nx;rw [e,List.filter_append,List.filter_cons_of_neg (by simp),List.filter_eq_self.2 fun x hx=>by simpa using ha x hx,List.filter_eq_nil_iff.2 fun x hx=>by have:=hb x hx; simp; omega];simp
 ·unfold nx;rw [e,List.filter_append,List.filter_cons_of_pos (by simp; omega),List.filter_eq_self.2 fun x hx=>by have:=ha x hx; simp; omega,List.filter_eq_nil_iff.2 fun x hx=>by have:=hb x hx; simp; omega];simp
theorem zY6 {out:List Int} {k:Nat} (hp:out.Pairwise (·<·)) (hk:(k:Int) ∈ out):nx out k<out.length/\out.getD (nx out k) 0=k/\nx out (k+1)=nx out k+1:=by
 obtain ⟨a,b,e,h1,h2⟩:=zYm hp hk;rw [h1,h2];refine ⟨by rw [e]; simp,?_,rfl⟩;rw [e,gdd,List.getElem?_append_right (nlr _)];simp
theorem zY0 {out:List Int} {k:Nat} (hk:(k:Int) ∉ out):nx out (k+1)=nx out k:=by
 unfold nx;congr 1;apply List.filter_congr;intro x hx;have:x ≠ (k:Int):=fun e=>hk (e ▸ hx)
 simp only [decide_eq_decide];omega
theorem zY1 {out:List Int} {k:Nat} (hk:(k:Int) ∉ out) (h:nx out k<out.length):out.getD (nx out k) 0 ≠ k:=fun e=>hk (by
 rw [<-e,gdd,gge h];exact List.getElem_mem h)
theorem zV0 (out:List Int) (k:Nat):inS (k+1) out=if (k:Int) ∈ out then inS k out else inS k out++[k]:=by
 unfold inS;rw [List.range_succ,List.filter_append];by_cases h:(k:Int) ∈ out
 ·rw [if_pos h,List.filter_cons_of_neg (by simpa using h)]; simp
 ·rw [if_neg h,List.filter_cons_of_pos (by simpa using h)]; rfl
def Dn (par:Nat->Nat):Prop:=∀ b,par b<=b
theorem zVy {par:Nat->Nat} (h:Dn par):∀ k b,upN par k b<=b
 | 0,b=>nlr _
 | k+1,b=>by
  unfold upN
  split
  ·exact nlr _
  ·exact nlt (zVy h k _) (h b)
theorem zVz {par:Nat->Nat} (h:Dn par):∀ k b,b<=k->par (upN par k b)=upN par k b
 | 0,b,hb=>by
  obtain rfl:b=0:=by omega
  have:=h 0;show par 0=0
  omega
 | k+1,b,hb=>by
  unfold upN
  split
  ·assumption
  ·have:=h b;exact zVz h k _ (by omega)
theorem zUn {par:Nat->Nat} {b:Nat} (h:par b=b):∀ k,upN par k b=b
 | 0=>rfl
 | k+1=>by unfold upN; rw [if_pos h]
theorem zX2 {par:Nat->Nat} (h:Dn par):∀ {k b:Nat},b<=k->upN par (k+1) b=upN par k b
 | 0,b,hb=>by
  obtain rfl:b=0:=by omega
  have h0:par 0=0:=by have:=h 0; omega
  rw [zUn h0,zUn h0]
 | k+1,b,hb=>by
  by_cases e:par b=b
  ·rw [zUn e,zUn e]
  ·have:=h b
   have e1:∀ j,upN par (j+1) b=upN par j (par b):=fun j=>by
    show (if par b=b then b else upN par j (par b))=_;rw [if_neg e]
   rw [e1,e1];exact zX2 h (by omega)
theorem zWc {par:Nat->Nat} (h:Dn par) {n b:Nat} (hb:b<=n) (e:par b ≠ b):upN par n b=upN par n (par b):=by
 have:=h b
 cases n with
 | zero=>omega
 | succ n=>
  rw [zX2 h (k:=n) (b:=par b) (by omega)]
  conv=>lhs; unfold upN
  rw [if_neg e]
theorem Dn.join {par:Nat->Nat} (h:Dn par) (n:Nat) (l:Ln):Dn (join n par l):=fun b=>by
 unfold Mo.join
 split
 ·omega
 ·exact h b
theorem Dn.id:Dn id:=fun b=>nlr b
theorem zVO (n:Nat) (ls:List Ln) (ks:List Nat) (k:Nat):joins n ls (ks++[k])=join n (joins n ls ks) (ls.getD k d0):=by
 unfold joins;rw [List.foldl_append]; rfl
theorem zVa (n:Nat) (ls:List Ln):∀ ks:List Nat,Dn (joins n ls ks):=by
 have key:∀ (ks:List Nat) (par:Nat->Nat),Dn par->Dn (ks.foldl (fun par k=>join n par (ls.getD k ⟨0,0,0,0⟩)) par):=by
  intro ks
  induction ks with
  | nil=>exact fun _ h=>h
  | cons k ks ih=>exact fun par h=>ih _ (h.join n _)
 exact fun ks=>key ks _ Dn.id
theorem zXP {n:Nat} {par:Nat->Nat} (h:Dn par):∀ b,(∀ x ∈ (numb n par b).1,x<(numb n par b).2)/\(numb n par b).2<=b
 | 0=>⟨fun x hx=>(by cases hx),nlr _⟩
 | b+1=>by
  obtain ⟨h1,h2⟩:=zXP h b (n:=n);unfold numb;dsimp only
  split
  ·refine ⟨fun x hx=>?_,by dsimp only; omega⟩;rcases List.mem_append.1 hx with hx | hx
   ·have:=h1 x hx; dsimp only; omega
   ·obtain rfl:=List.mem_singleton.1 hx; dsimp only; omega
  ·rename_i e;have hu:=zVy h n b;have hl:upN par n b<(numb n par b).1.length:=by rw [zUw]; omega
   refine ⟨fun x hx=>?_,by dsimp only; omega⟩;rcases List.mem_append.1 hx with hx | hx
   ·exact h1 x hx
   ·obtain rfl:=List.mem_singleton.1 hx;refine h1 _ ?_;rw [gdd,gge hl];exact List.getElem_mem hl
theorem zUm:∀ (b c:Nat) (l:List Nat) (i:Nat),refsGo b c (l++[i])=if i=c+(refsGo b c l).length then refsGo b c l++[b+l.length] else refsGo b c l
 | b,c,[],i=>by
  show (if i=c then b :: refsGo (b+1) (c+1) [] else refsGo (b+1) c [])=_;by_cases e:i=c
  ·rw [if_pos e,if_pos (by simpa [refsGo] using e)]; rfl
  ·rw [if_neg e,if_neg (by simpa [refsGo] using e)]; rfl
 | b,c,j :: l,i=>by
  rw [List.cons_append];unfold refsGo;by_cases e:j=c
  ·rw [if_pos e,if_pos e,zUm (b+1) (c+1) l i,List.length_cons,List.length_cons];by_cases e2:i=c+1+(refsGo (b+1) (c+1) l).length
   ·rw [if_pos e2,if_pos (by omega),List.cons_append,show b+(l.length+1)=b+1+l.length by omega]
   ·rw [if_neg e2,if_neg (by omega)]
  ·rw [if_neg e,if_neg e,zUm (b+1) c l i,List.length_cons,show b+(l.length+1)=b+1+l.length by omega]
end Mo
namespace Mo
theorem zUo {α:Type} {l:List α} {k:Nat} (d:α) (h:k<l.length):l.drop k=l.getD k d :: l.drop (k+1):=by
 rw [List.drop_eq_getElem_cons h,gdd,gge h]; rfl
theorem zUx {α:Type} {l:List α} {k:Nat} (d:α) (h:k<l.length):l.take (k+1)=l.take k++[l.getD k d]:=by
 rw [List.take_succ_eq_append_getElem h,gdd,gge h]; rfl
abbrev st0:St:=⟨0,0⟩
def prev (l:List St):Nat->Option Int
 | 0=>none
 | k+1=>some (l.getD k st0).p
abbrev StBad (s:St):Prop:=s.q<1\/1000000<s.q\/s.p < -1000000\/1000000<s.p
theorem zYA {up:Bool} {l:List St} {k:Nat} (h:k<l.length) (hb:StBad (l.getD k st0)):chk up (prev l k) (l.drop k)=1:=by
 rw [zUo st0 h]; unfold chk; exact if_pos hb
theorem zX7 {up:Bool} {l:List St} {k:Nat} (h:k<l.length) (hb:¬ StBad (l.getD k st0)) (hk:0<k) (hf:follows up (l.getD (k-1) st0).p (l.getD k st0).p=false):chk up (prev l k) (l.drop k)=3:=by
 rw [zUo st0 h]
 cases k with
 | zero=>omega
 | succ k=>
  unfold chk
  have hf':¬ follows up (l.getD k st0).p (l.getD (k+1) st0).p=true:=by
   rw [show l.getD k st0=l.getD (k+1-1) st0 by rfl,hf]; decide
  exact (if_neg hb).trans (if_neg hf')
theorem zX8 {up:Bool} {l:List St} {k:Nat} (h:k<l.length) (hb:¬ StBad (l.getD k st0)) (hf:0<k->follows up (l.getD (k-1) st0).p (l.getD k st0).p=true):chk up (prev l k) (l.drop k)=chk up (prev l (k+1)) (l.drop (k+1)):=by
 rw [zUo st0 h]
 cases k with
 | zero=>
  conv=>lhs; unfold chk
  exact if_neg hb
 | succ k=>
  conv=>lhs; unfold chk
  exact (if_neg hb).trans (if_pos (hf (by omega)))
theorem zYB {up:Bool} {l:List St}:chk up (prev l l.length) (l.drop l.length)=0:=by
 rw [List.drop_length]; unfold chk; rfl
theorem zWv (s:St):∀ l:List St,sumQ (l++[s])=sumQ l+s.q
 | []=>by simp [sumQ]
 | t :: l=>by rw [List.cons_append]; unfold sumQ; rw [zWv s l]; omega
theorem zXW:∀ {l:List St},(∀ s ∈ l,1<=s.q/\s.q<=1000000)->0<=sumQ l/\sumQ l<=1000000*l.length
 | [],_=>by simp [sumQ]
 | s :: l,h=>by
  have:=zXW (l:=l) fun t ht=>h t (List.mem_cons_of_mem _ ht)
  have:=h s List.mem_cons_self;unfold sumQ;rw [List.length_cons];omega
def prevO (l:List Int):Nat->Option Int
 | 0=>none
 | k+1=>some (l.getD k 0)
theorem zWY {n:Nat} {l:List Int} {k:Nat} (h:k<l.length) (h1:0<=l.getD k 0) (h2:l.getD k 0<n) (h3:0<k->l.getD (k-1) 0<l.getD k 0):outOk n (prevO l k) (l.drop k)=outOk n (prevO l (k+1)) (l.drop (k+1)):=by
 rw [zUo 0 h]
 cases k with
 | zero=>
  conv=>lhs; unfold outOk
  rw [decide_eq_true (show 0<=l.getD 0 0/\l.getD 0 0<(n:Int) from ⟨h1,h2⟩)]; rfl
 | succ k=>
  have:=h3 (by omega)
  conv=>lhs; unfold outOk
  have h4:l.getD k 0<l.getD (k+1) 0:=this;simp only [prevO,h1,h2,h4,and_self,decide_true,Bool.true_and]
theorem zWO {n:Nat} {l:List Int} {k:Nat} (h:k<l.length) (hb:l.getD k 0<0\/(n:Int)<=l.getD k 0\/(0<k/\l.getD k 0<=l.getD (k-1) 0)):outOk n (prevO l k) (l.drop k)=false:=by
 rw [zUo 0 h];unfold outOk;rcases hb with hb | hb | ⟨hk,hb⟩
 ·rw [show decide (0<=l.getD k 0/\l.getD k 0<(n:Int))=false from decide_eq_false (by omega)]; simp
 ·rw [show decide (0<=l.getD k 0/\l.getD k 0<(n:Int))=false from decide_eq_false (by omega)]; simp
 ·cases k with
  | zero=>omega
  | succ k=>
   have h4:¬ l.getD k 0<l.getD (k+1) 0:=by
    have:l.getD (k+1) 0<=l.getD k 0:=hb;omega
   simp only [prevO];rw [decide_eq_false h4]; simp
theorem zYJ {n:Nat} {l:List Int}:outOk n (prevO l l.length) (l.drop l.length)=true:=by
 rw [List.drop_length]; unfold outOk; rfl
theorem zUJ {buses:Int} {ls:List Ln} {out:List Int}:outErr buses ls out=0 ↔ netErr buses ls=0/\outOk ls.length none out=true:=by
 unfold outErr;by_cases h:netErr buses ls=0
 ·rw [if_neg (by omega)];by_cases h2:outOk ls.length none out=true
  ·rw [if_pos h2]; simp [h,h2]
  ·rw [if_neg h2]; simp [h2]
 ·rw [if_pos h]; simp [h]
def uoff (us:List Un) (os:List Bool) (i:Nat):Nat:=(unitVars 0 (us.take i) (os.take i)).length
abbrev u0:Un:=⟨0,0,[],0,0,0,0,0,0⟩
def uVars (us:List Un) (os:List Bool) (s i:Nat):List Vr:=if os.getD i false=true then stepVars false (s+i) (us.getD i u0).bus 0 (us.getD i u0).steps else []
theorem zUk:∀ (i s:Nat) (us:List Un) (os:List Bool),i<us.length->unitVars s (us.take (i+1)) (os.take (i+1))=unitVars s (us.take i) (os.take i)++uVars us os s i
 | _,_,[],_,h=>absurd h (Nat.not_lt_zero _)
 | i,s,u :: us,[],h=>by
  have e:∀ j l,unitVars s l (List.take j ([]:List Bool))=[]:=fun j l=>by rw [List.take_nil]; cases l <;> rfl
  rw [e,e];unfold uVars
  simp
 | 0,s,u :: us,o :: os,_=>by
  show (if o=true then stepVars false s u.bus 0 u.steps else [])++unitVars (s+1) (us.take 0) (os.take 0)=[]++_;unfold uVars;rw [List.take_zero,List.take_zero];show _++([]:List Vr)=[]++(if o=true then stepVars false (s+0) u.bus 0 u.steps else [])
  simp
 | i+1,s,u :: us,o :: os,h=>by
  have ih:=zUk i (s+1) us os (by simpa using h);show (if o=true then stepVars false s u.bus 0 u.steps else [])++unitVars (s+1) (us.take (i+1)) (os.take (i+1))=((if o=true then stepVars false s u.bus 0 u.steps else [])++unitVars (s+1) (us.take i) (os.take i))++_;rw [ih,List.append_assoc];unfold uVars;simp only [List.getD_cons_succ];rw [show s+1+i=s+(i+1) by omega]
theorem zU6 {us:List Un} {os:List Bool}:∀ {j:Nat} (i:Nat),i<=j->j<=us.length->∃ t,unitVars 0 (us.take j) (os.take j)=unitVars 0 (us.take i) (os.take i)++t
 | 0,i,h,_=>by
  obtain rfl:i=0:=by omega
  exact ⟨[],by simp⟩
 | j+1,i,h,hj=>by
  by_cases e:i=j+1
  ·subst e; exact ⟨[],by simp⟩
  ·obtain ⟨t,ht⟩:=zU6 i (show i<=j by omega) (by omega) (us:=us) (os:=os);exact ⟨t++uVars us os 0 j,by rw [zUk j 0 us os (by omega),ht,List.append_assoc]⟩
theorem zU5 (us:List Un) (os:List Bool):unitVars 0 (us.take us.length) (os.take us.length)=unitVars 0 us os:=by
 rw [List.take_length]
 have key:∀ (us:List Un) (os:List Bool) (s:Nat),unitVars s us (os.take us.length)=unitVars s us os:=by
  intro us
  induction us with
  | nil=>intro os s; cases os <;> rfl
  | cons u us ih=>
   intro os s
   cases os with
   | nil=>rfl
   | cons o os=>
    show _++unitVars (s+1) us (os.take us.length)=_++unitVars (s+1) us os;rw [ih]
 exact key us os 0
theorem zUB {bid:Bool} {i:Nat} {bus:Int}:∀ {k j:Nat} {l:List St},k<l.length->(stepVars bid i bus j l)[k]?=some ⟨bid,i,j+k,bus,l.getD k st0⟩
 | _,_,[],h=>absurd h (Nat.not_lt_zero _)
 | 0,j,s :: l,_=>rfl
 | k+1,j,s :: l,h=>by
  unfold stepVars;rw [List.getElem?_cons_succ,zUB (by simpa using h),List.getD_cons_succ,show j+1+k=j+(k+1) by omega]
theorem zX1 {us:List Un} {os:List Bool} {i:Nat} (h:i<us.length):uoff us os (i+1)=uoff us os i+if os.getD i false=true then (us.getD i u0).steps.length else 0:=by
 unfold uoff;rw [zUk i 0 us os h,List.length_append];unfold uVars
 split
 ·rw [zT9]
 ·rfl
theorem zYv (us:List Un) (os:List Bool):uoff us os us.length=(unitVars 0 us os).length:=by unfold uoff; rw [zU5]
theorem zX4 {h:Hr} {i k:Nat} (hi:i<h.units.length) (ho:h.on.getD i false=true) (hk:k<(h.units.getD i u0).steps.length) :
  (vars h)[uoff h.units h.on i+k]?=some ⟨false,i,k,(h.units.getD i u0).bus,(h.units.getD i u0).steps.getD k st0⟩:=by
 obtain ⟨t,ht⟩:=zU6 (us:=h.units) (os:=h.on) (i+1) (show i+1<=h.units.length by omega) (nlr _);rw [zU5,zUk i 0 _ _ hi] at ht;unfold vars uoff;rw [ht,List.append_assoc,List.append_assoc,List.getElem?_append_right (by omega),Nat.add_sub_cancel_left];unfold uVars;rw [if_pos ho,List.getElem?_append_left (by rw [zT9]; exact hk),zUB hk,Nat.zero_add,Nat.zero_add]
theorem zUq:∀ (s:Nat) (bs cs:List Bd),bidVars s (bs++cs)=bidVars s bs++bidVars (s+bs.length) cs
 | s,[],cs=>rfl
 | s,b :: bs,cs=>by
  show stepVars true s b.bus 0 b.steps++bidVars (s+1) (bs++cs)=(stepVars true s b.bus 0 b.steps++bidVars (s+1) bs)++_;rw [zUq (s+1) bs cs,List.append_assoc,List.length_cons,show s+1+bs.length=s+(bs.length+1) by omega]
def boff (h:Hr) (i:Nat):Nat:=(unitVars 0 h.units h.on).length+(bidVars 0 (h.bids.take i)).length
abbrev b0:Bd:=⟨0,[]⟩
theorem zXy {h:Hr} {i:Nat} (hi:i<h.bids.length):boff h (i+1)=boff h i+(h.bids.getD i b0).steps.length:=by
 unfold boff;rw [zUx b0 hi,zUq,List.length_append];show _+(_+(stepVars true _ _ 0 (h.bids.getD i b0).steps++[]).length)=_;rw [List.append_nil,zT9];omega
theorem zWd (h:Hr):boff h 0=uoff h.units h.on h.units.length:=by rw [zYv]; rfl
theorem zX5 (h:Hr):boff h h.bids.length=(vars h).length:=by
 unfold boff vars;rw [List.take_length,List.length_append]
theorem zYx {h:Hr} {i k:Nat} (hi:i<h.bids.length) (hk:k<(h.bids.getD i b0).steps.length) :
  (vars h)[boff h i+k]?=some ⟨true,i,k,(h.bids.getD i b0).bus,(h.bids.getD i b0).steps.getD k st0⟩:=by
 have e:h.bids=h.bids.take i++(h.bids.getD i b0 :: h.bids.drop (i+1)):=by rw [<-zUo b0 hi,List.take_append_drop]
 have e2:bidVars 0 h.bids=bidVars 0 (h.bids.take i)++(stepVars true i (h.bids.getD i b0).bus 0 (h.bids.getD i b0).steps++bidVars (i+1) (h.bids.drop (i+1))):=by
  conv=>lhs; rw [e]
  rw [zUq,Nat.zero_add,List.length_take,Nat.min_eq_left (by omega)];rfl
 unfold vars boff;rw [e2,Nat.add_assoc,List.getElem?_append_right (by omega),Nat.add_sub_cancel_left,List.getElem?_append_right (by omega),Nat.add_sub_cancel_left,List.getElem?_append_left (by rw [zT9]; exact hk),zUB hk,Nat.zero_add]
end Mo
end Go.Proofs.YtjancagcmghfjaaGreat
