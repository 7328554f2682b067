/- Texts MoC MoE MoF MoG MoH MoI MoJ MrA of this claim. -/
import Derived.Test.YtjancagcmghfjaaGreatX10
set_option maxHeartbeats 4000000
namespace Go.Proofs.YtjancagcmghfjaaGreat
namespace Mo
open Gj
def d0:Ln:=⟨0,0,0,0⟩
theorem zVT {P:Ln->Prop} {ls:List Ln}:(∀ l ∈ ls,P l) ↔ ∀ j,j<ls.length->P (ls.getD j d0):=by
 constructor
 ·intro h j hj;rw [gdd,gge hj];exact h _ (List.getElem_mem hj)
 ·intro h l hl;obtain ⟨j,hj,rfl⟩:=List.getElem_of_mem hl;have:=h j hj
  rwa [gdd,gge hj] at this
def Sq (n:Nat) (m:Mt):Prop:=m.length=n/\Rect m n
theorem Sq.addAt {n:Nat} {m:Mt} (h:Sq n m) (i j:Nat) (q:Rat):Sq n (addAt m i j q):=by
 refine ⟨by unfold Mo.addAt; rw [List.length_set]; exact h.1,fun r hr=>?_⟩;unfold Mo.addAt at hr ⊢;rw [List.length_set] at hr;by_cases hi:i<m.length
 ·rw [zT6 _ _ _ _ _ hi]
  split
  ·rw [List.length_set]; exact h.2 _ hi
  ·exact h.2 _ hr
 ·rw [List.set_eq_of_length_le (by omega)]; exact h.2 _ hr
theorem zUb {n:Nat} {m:Mt} (h:Sq n m) {i j:Nat} (hi:i<n) (hj:j<n) (q:Rat) (a b:Nat):ent (addAt m i j q) a b=if a=i/\b=j then ent m i j+q else ent m a b:=by
 have hi':i<m.length:=by rw [h.1]; exact hi
 have hj':j<(m.getD i []).length:=by rw [h.2 i hi']; exact hj
 unfold Mo.addAt ent;rw [zT6 _ _ _ _ _ hi'];by_cases e:a=i
 ·rw [if_pos e,zT6 _ _ _ _ _ hj'];by_cases e2:b=j
  ·rw [if_pos e2,if_pos ⟨e,e2⟩]
  ·rw [if_neg e2,if_neg fun h=>e2 h.2,e]
 ·rw [if_neg e,if_neg fun h=>e h.1]
theorem Sq.line {n:Nat} {m:Mt} (h:Sq n m) (l:Ln):Sq n (eqLine m l):=(((h.addAt _ _ _).addAt _ _ _).addAt _ _ _).addAt _ _ _
theorem zUV (n:Nat):Sq n (zeroM n):=by
 unfold zeroM;refine ⟨by simp,fun i hi=>?_⟩;rw [List.length_map,List.length_range] at hi;rw [getD_map_range _ _ hi]; simp
theorem zUO {n:Nat} (f:Nat->Ln):∀ (ks:List Nat) {m:Mt},Sq n m->Sq n (ks.foldl (fun m k=>eqLine m (f k)) m)
 | [],_,h=>h
 | k :: ks,_,h=>zUO f ks (h.line (f k))
theorem zUi {h:Hr} (h0:hrErr h=0):1<=h.buses/\h.buses<=6/\h.lines.length<=10/\(∀ l ∈ h.lines,LnOk h.buses l)/\outOk h.lines.length none h.out=true:=by
 have ho:outErr h.buses h.lines h.out=0:=by
  unfold hrErr at h0
  split at h0
  ·exact absurd h0 (by assumption)
  ·rename_i h1; simpa using h1
 have hn:netErr h.buses h.lines=0:=by
  unfold outErr at ho
  split at ho
  ·exact absurd ho (by assumption)
  ·rename_i h1; simpa using h1
 unfold outErr at ho;rw [if_neg (by simpa using hn)] at ho;unfold netErr at hn
 split at hn
 ·cases hn
 split at hn
 ·cases hn
 split at hn
 ·refine ⟨by omega,by omega,by omega,by assumption,?_⟩
  split at ho
  ·assumption
  ·cases ho
 ·cases hn
theorem zYy {h:Hr} {k:Nat} (hk:k ∈ ins h):k<h.lines.length:=by
 unfold ins inS at hk;exact List.mem_range.1 (List.mem_filter.1 hk).1
theorem zXK {h:Hr} (h0:hrErr h=0) {k:Nat} (hk:k<h.lines.length):LnOk h.buses (h.lines.getD k d0):=zVT.1 (zUi h0).2.2.2.1 k hk
theorem zUN {f:Nat->List (List Rat × Rat)} (h:∀ k,(f k).length=2):∀ l:List Nat,(l.flatMap f).length=2*l.length
 | []=>rfl
 | x :: l=>by rw [List.flatMap_cons,List.length_append,h,zUN h l,List.length_cons]; omega
end Mo
namespace Mo
theorem zWB:∀ (d a:Nat) (l:List Nat),(∀ x ∈ l,a<=x/\x<a+d)->l.Pairwise (·<·)->((List.range' a d).filter fun k=>!(l.contains k)).length+l.length=d
 | 0,a,l,h,_=>by
  cases l with
  | nil=>rfl
  | cons x t=>have:=h x List.mem_cons_self; omega
 | d+1,a,l,h,hp=>by
  rw [List.range'_succ];by_cases ha:a ∈ l
  ·cases l with
   | nil=>cases ha
   | cons k t=>
    obtain ⟨h1,h2⟩:=List.pairwise_cons.1 hp
    have hk:k=a:=by
     rcases List.mem_cons.1 ha with e | e
     ·exact e.symm
     ·have:=h1 a e; have:=(h k List.mem_cons_self).1; omega
    subst hk;rw [List.filter_cons_of_neg (by simp)];have ih:=zWB d (k+1) t (fun x hx=>by have:=h x (List.mem_cons_of_mem _ hx); have:=h1 x hx; omega) h2
    have e:(List.range' (k+1) d).filter (fun j=>!((k :: t).contains j))=(List.range' (k+1) d).filter fun j=>!(t.contains j):=by
     apply List.filter_congr;intro j hj;have hj':=(List.mem_range'_1.1 hj).1;have:j ≠ k:=(by omega);simp [this]
    rw [e,List.length_cons];omega
  ·rw [List.filter_cons_of_pos (by simpa using ha),List.length_cons]
   have ih:=zWB d (a+1) l (fun x hx=>by
    have:=h x hx;have:x ≠ a:=(fun e=>ha (e ▸ hx));omega) hp
   omega
theorem zUZ {n:Nat}:∀ {l:List Int} {o:Option Int},outOk n o l=true->(∀ x ∈ l,0<=x/\x<n/\∀ p,o=some p->p<x)/\l.Pairwise (·<·)
 | [],_,_=>⟨fun x hx=>(by cases hx),.nil⟩
 | k :: t,o,h=>by
  unfold outOk at h;simp only [Bool.and_eq_true,decide_eq_true_eq] at h;obtain ⟨⟨⟨h1,h2⟩,h3⟩,h4⟩:=h;obtain ⟨g1,g2⟩:=zUZ h4;have hk:∀ p,o=some p->p<k:=fun p e=>by subst e; simpa using h3
  refine ⟨fun x hx=>?_,List.pairwise_cons.2 ⟨fun x hx=>(g1 x hx).2.2 k rfl,g2⟩⟩;rcases List.mem_cons.1 hx with rfl | hx
  ·exact ⟨h1,h2,hk⟩
  ·obtain ⟨a,b,c⟩:=g1 x hx;exact ⟨a,b,fun p e=>by have:=hk p e; have:=c k rfl; omega⟩
theorem zV2 {h:Hr} (h0:hrErr h=0):(ins h).length+h.out.length=h.lines.length:=by
 obtain ⟨g1,g2⟩:=zUZ (zUi h0).2.2.2.2
 have e:ins h=(List.range' 0 h.lines.length).filter fun k=>!((h.out.map Int.toNat).contains k):=by
  unfold ins inS;rw [List.range_eq_range'];apply List.filter_congr;intro k _;congr 1;rw [Bool.eq_iff_iff,List.contains_iff_mem,List.contains_iff_mem,List.mem_map];constructor
  ·intro hk; exact ⟨k,hk,by simp⟩
  ·rintro ⟨x,hx,e⟩;have:=(g1 x hx).1;rw [<-e,Int.toNat_of_nonneg this]; exact hx
 have:=zWB h.lines.length 0 (h.out.map Int.toNat) (fun x hx=>by
  obtain ⟨y,hy,rfl⟩:=List.mem_map.1 hx;have:=g1 y hy
  omega) (List.pairwise_map.2 (g2.imp_of_mem fun {a b} ha hb hab=>by
   have:=(g1 a ha).1;have:=(g1 b hb).1;omega))
 rw [e];rw [List.length_map] at this;exact this
theorem zUh {h:Hr} (h0:hrErr h=0):h.units.length<=5/\h.bids.length<=6/\(∀ u ∈ h.units,unitErr u h.buses=0)/\h.on.length=h.units.length/\bidsErr h.buses h.bids=0:=by
 unfold hrErr at h0
 split at h0
 ·exact absurd h0 (by assumption)
 split at h0
 ·cases h0
 split at h0
 ·exact absurd h0 (by assumption)
 rename_i h3
 split at h0
 ·cases h0
 exact ⟨by omega,by omega,zVx.1 (by simpa using h3),by omega,h0⟩
theorem zUs {buses:Int}:∀ {bs:List Bd},bidsErr buses bs=0->∀ b ∈ bs,0<=b.bus/\b.bus<buses/\stepErr false b.steps=0
 | [],_,_,hb=>by cases hb
 | c :: bs,h,b,hb=>by
  unfold bidsErr at h
  split at h
  ·cases h
  split at h
  ·exact absurd h (by assumption)
  rename_i h1 h2;rcases List.mem_cons.1 hb with rfl | hb
  ·exact ⟨by omega,by omega,by simpa using h2⟩
  ·exact zUs h b hb
theorem zT8 {up:Bool} {l:List St} (h:stepErr up l=0):1<=l.length/\l.length<=3/\chk up none l=0:=by
 unfold stepErr at h
 split at h
 ·cases h
 split at h
 ·cases h
 exact ⟨by omega,by omega,h⟩
theorem zVJ {up:Bool}:∀ {o:Option Int} {l:List St},chk up o l=0->∀ s ∈ l,1<=s.q/\s.q<=1000000/\-1000000<=s.p/\s.p<=1000000
 | _,[],_,_,hs=>by cases hs
 | o,t :: l,h,s,hs=>by
  unfold chk at h
  split at h
  ·cases h
  rename_i h1;have ht:1<=t.q/\t.q<=1000000/\-1000000<=t.p/\t.p<=1000000:=by omega
  rcases List.mem_cons.1 hs with rfl | hs
  ·exact ht
  ·cases o with
   | none=>exact zVJ h s hs
   | some p=>
    simp only at h
    split at h
    ·exact zVJ h s hs
    ·cases h
theorem zVw {u:Un} {buses:Int} (h:unitErr u buses=0):0<=u.bus/\u.bus<buses/\stepErr true u.steps=0/\0<=u.min/\u.min<=sumQ u.steps:=by
 unfold unitErr at h
 split at h
 ·cases h
 split at h
 ·exact absurd h (by assumption)
 split at h
 ·cases h
 rename_i h1 h2 h3;exact ⟨by omega,by omega,by simpa using h2,by omega,by omega⟩
theorem zUA {bid:Bool} {i:Nat} {bus:Int}:∀ {k:Nat} {l:List St} {v:Vr},v ∈ stepVars bid i bus k l->v.bus=bus/\v.s ∈ l
 | _,[],_,h=>by cases h
 | k,s :: l,v,h=>by
  rcases List.mem_cons.1 h with rfl | h
  ·exact ⟨rfl,List.mem_cons_self⟩
  ·have:=zUA h; exact ⟨this.1,List.mem_cons_of_mem _ this.2⟩
def VrOk (h:Hr) (v:Vr):Prop:=0<=v.bus/\v.bus<h.buses/\1<=v.s.q/\v.s.q<=1000000/\-1000000<=v.s.p/\v.s.p<=1000000
theorem zVv {P:Vr->Prop}:∀ {i:Nat} {us:List Un} {os:List Bool},(∀ u ∈ us,∀ i,∀ v ∈ stepVars false i u.bus 0 u.steps,P v)->∀ v ∈ unitVars i us os,P v
 | _,[],_,_,_,h=>by cases h
 | _,_ :: _,[],_,_,h=>by cases h
 | i,u :: us,o :: os,hu,v,h=>by
  unfold unitVars at h;rcases List.mem_append.1 h with h | h
  ·split at h
   ·exact hu u List.mem_cons_self i v h
   ·cases h
  ·exact zVv (fun u' hu'=>hu u' (List.mem_cons_of_mem _ hu')) v h
theorem zVH {P:Vr->Prop}:∀ {i:Nat} {bs:List Bd},(∀ b ∈ bs,∀ i,∀ v ∈ stepVars true i b.bus 0 b.steps,P v)->∀ v ∈ bidVars i bs,P v
 | _,[],_,_,h=>by cases h
 | i,b :: bs,hb,v,h=>by
  unfold bidVars at h;rcases List.mem_append.1 h with h | h
  ·exact hb b List.mem_cons_self i v h
  ·exact zVH (fun b' hb'=>hb b' (List.mem_cons_of_mem _ hb')) v h
theorem zX3 {h:Hr} (h0:hrErr h=0):∀ v ∈ vars h,VrOk h v:=by
 obtain ⟨-,-,hu,-,hb⟩:=zUh h0;intro v hv;rcases List.mem_append.1 hv with hv | hv
 ·refine zVv (P:=VrOk h) (fun u hu' i v hv=>?_) v hv;obtain ⟨h1,h2,h3,-⟩:=zVw (hu u hu');obtain ⟨e,hs⟩:=zUA hv;exact ⟨by omega,by omega,zVJ (zT8 h3).2.2 _ hs⟩
 ·refine zVH (P:=VrOk h) (fun b hb' i v hv=>?_) v hv;obtain ⟨h1,h2,h3⟩:=zUs hb b hb';obtain ⟨e,hs⟩:=zUA hv;exact ⟨by omega,by omega,zVJ (zT8 h3).2.2 _ hs⟩
theorem zVu:∀ {i:Nat} {us:List Un} {os:List Bool},(∀ u ∈ us,u.steps.length<=3)->(unitVars i us os).length<=3*us.length
 | _,[],_,_=>nzl _
 | _,_ :: _,[],_=>nzl _
 | i,u :: us,o :: os,h=>by
  unfold unitVars;have h1:=h u List.mem_cons_self;have h2:=zVu (i:=i+1) (os:=os) fun u' hu'=>h u' (List.mem_cons_of_mem _ hu')
  rw [List.length_append,List.length_cons]
  split
  ·rw [zT9]; omega
  ·simp only [List.length_nil]; omega
theorem zVG:∀ {i:Nat} {bs:List Bd},(∀ b ∈ bs,b.steps.length<=3)->(bidVars i bs).length<=3*bs.length
 | _,[],_=>nzl _
 | i,b :: bs,h=>by
  unfold bidVars;have h1:=h b List.mem_cons_self;have h2:=zVG (i:=i+1) fun b' hb'=>h b' (List.mem_cons_of_mem _ hb')
  rw [List.length_append,List.length_cons,zT9]; omega
theorem zUU {h:Hr} (h0:hrErr h=0):(vars h).length<=33:=by
 obtain ⟨hu5,hb6,hu,-,hb⟩:=zUh h0;have h1:=zVu (i:=0) (os:=h.on) fun u hu'=>(zT8 (zVw (hu u hu')).2.2.1).2.1
 have h2:=zVG (i:=0) fun b hb'=>(zT8 (zUs hb b hb').2.2).2.1
 unfold vars;rw [List.length_append]; omega
theorem zUE:∀ (b c:Nat) (l:List Nat),(refsGo b c l).length<=l.length
 | _,_,[]=>nlr _
 | b,c,i :: l=>by
  unfold refsGo
  split
  ·have:=zUE (b+1) (c+1) l; simp only [List.length_cons]; omega
  ·have:=zUE (b+1) c l; simp only [List.length_cons]; omega
theorem zUw (n:Nat) (par:Nat->Nat):∀ b,(numb n par b).1.length=b
 | 0=>rfl
 | b+1=>by
  have:=zUw n par b;unfold numb;dsimp only
  split <;> simp [this]
theorem zV6 {h:Hr} (h0:hrErr h=0):(refsOf h).length<=6:=by
 have h1:=zUE 0 0 (isl h);have h2:(isl h).length=h.buses.toNat:=zUw _ _ _;have:=(zUi h0).2.1;unfold refsOf;omega
end Mo
namespace Mo
open Gj
theorem zUC {x:Int} (h1:1<=x) (h2:x<=1000):Lin.Fits 10 (1 / (x:Rat)):=by
 have h:Lin.Fits 10 (x:Rat):=Lin.Fits.ofInt (by omega);have:=h.inv
 rwa [show (1:Rat) / (x:Rat)=(x:Rat)⁻¹ by rw [Rat.div_def]; grind]
theorem zVA (n i j:Nat):ent (zeroM n) i j=0:=by
 unfold ent zeroM;by_cases hi:i<n
 ·rw [getD_map_range _ _ hi];by_cases hj:j<n
  ·rw [getD_map_range _ _ hj]
  ·rw [zAw _ _ _ (by simp; omega)]
 ·rw [zAw _ i [] (by simp; omega)]; rfl
theorem zWx (n i j:Nat):ent (unitM n) i j=0\/ent (unitM n) i j=1:=by
 unfold ent unitM;by_cases hi:i<n
 ·rw [getD_map_range _ _ hi];by_cases hj:j<n
  ·rw [getD_map_range _ _ hj]; split
   ·exact .inr rfl
   ·exact .inl rfl
  ·rw [zAw _ _ _ (by simp; omega)]; exact .inl rfl
 ·rw [zAw _ i [] (by simp; omega)]; exact .inl rfl
theorem zYj {n k:Nat} {m:Mt} {l:Ln} (hs:Sq n m) (h:FitM k m) (hf:l.f.toNat<n) (ht:l.t.toNat<n) (hne:l.f.toNat ≠ l.t.toNat) (h1:1<=l.x) (h2:l.x<=1000):FitM (k+11) (eqLine m l):=fun a b=>by
 have hq:=zUC h1 h2;have hn:=hq.neg;have s1:=hs.addAt l.f.toNat l.f.toNat (1 / (l.x:Rat));have s2:=s1.addAt l.f.toNat l.t.toNat (-(1 / (l.x:Rat)));have s3:=s2.addAt l.t.toNat l.t.toNat (1 / (l.x:Rat));unfold eqLine;simp only;generalize l.f.toNat=f at *;generalize l.t.toNat=t at *;generalize 1 / (l.x:Rat)=q at *;rw [zUb s3 ht hf,zUb s2 ht ht,zUb s1 hf ht,zUb hs hf hf];simp only [zUb s2 ht ht,zUb s1 hf ht,zUb hs hf hf];have e1:=(h f f).add hq;have e2:=(h f t).add hn;have e3:=(h t t).add hq;have e4:=(h t f).add hn;have e5:∀ a b,Lin.Fits (k+11) (ent m a b):=fun a b=>(h a b).mono (by omega)
 by_cases a1:a=f <;> by_cases a2:a=t <;> by_cases b1:b=f <;> by_cases b2:b=t <;> simp_all
theorem zVn {n:Nat} (f:Nat->Ln):∀ (ks:List Nat) {k:Nat} {m:Mt},Sq n m->FitM k m->(∀ j ∈ ks,(f j).f.toNat<n/\(f j).t.toNat<n/\(f j).f.toNat ≠ (f j).t.toNat/\1<=(f j).x/\(f j).x<=1000)->FitM (k+11*ks.length) (ks.foldl (fun m k=>eqLine m (f k)) m)
 | [],_,_,_,h,_=>h
 | j :: ks,k,m,hs,h,hj=>by
  obtain ⟨h1,h2,h3,h4,h5⟩:=hj j List.mem_cons_self;have:=zVn f ks (hs.line (f j)) (zYj hs h h1 h2 h3 h4 h5) fun i hi=>hj i (List.mem_cons_of_mem _ hi)
  rw [List.foldl_cons,List.length_cons]
  rwa [show k+11*(ks.length+1)=k+11+11*ks.length by omega]
theorem zYP {k n b:Nat} {m:Mt} (h:FitM k m):FitM k (m.set b ((unitM n).getD b [])):=fun i j=>by
 by_cases hb:b<m.length
 ·unfold ent;rw [zT6 _ _ _ _ _ hb]
  split
  ·rcases zWx n b j with e | e
   ·unfold ent at e; rw [e]; exact Lin.Fits.zero _
   ·unfold ent at e; rw [e]; exact Lin.Fits.one _
  ·exact h i j
 ·rw [List.set_eq_of_length_le (by omega)]; exact h i j
theorem Sq.setU {n b:Nat} {m:Mt} (h:Sq n m) (hb:b<n):Sq n (m.set b ((unitM n).getD b [])):=by
 refine ⟨by rw [List.length_set]; exact h.1,fun i hi=>?_⟩;rw [List.length_set] at hi;rw [zT6 _ _ _ _ _ (by rw [h.1]; exact hb)]
 split
 ·unfold unitM; rw [getD_map_range _ _ hb]; simp
 ·exact h.2 i hi
theorem zW0 {k n:Nat}:∀ (rf:List Nat) {m:Mt},FitM k m->FitM k (rf.foldl (fun m b=>m.set b ((unitM n).getD b [])) m)
 | [],_,h=>h
 | _ :: rf,_,h=>zW0 rf (zYP h)
theorem zXT {n:Nat}:∀ (rf:List Nat) {m:Mt},(∀ b ∈ rf,b<n)->Sq n m->Sq n (rf.foldl (fun m b=>m.set b ((unitM n).getD b [])) m)
 | [],_,_,h=>h
 | b :: rf,_,hb,h=>zXT rf (fun c hc=>hb c (List.mem_cons_of_mem _ hc)) (h.setU (hb b List.mem_cons_self))
theorem zUR:∀ (b c:Nat) (l:List Nat),∀ x ∈ refsGo b c l,x<b+l.length
 | _,_,[],_,hx=>by cases hx
 | b,c,i :: l,x,hx=>by
  unfold refsGo at hx;rw [List.length_cons]
  split at hx
  ·rcases List.mem_cons.1 hx with rfl | hx
   ·omega
   ·have:=zUR (b+1) (c+1) l x hx; omega
  ·have:=zUR (b+1) c l x hx; omega
theorem zV7 {h:Hr} {b:Nat} (hb:b ∈ refsOf h):b<h.buses.toNat:=by
 have:=zUR 0 0 (isl h) b hb;have e:(isl h).length=h.buses.toNat:=zUw _ _ _;omega
def mat (h:Hr):Mt:=eqs h.buses.toNat h.lines (ins h) (refsOf h)
theorem zUv {h:Hr} (h0:hrErr h=0) {j:Nat} (hj:j ∈ ins h):(h.lines.getD j d0).f.toNat<h.buses.toNat/\(h.lines.getD j d0).t.toNat<h.buses.toNat/\(h.lines.getD j d0).f.toNat ≠ (h.lines.getD j d0).t.toNat/\1<=(h.lines.getD j d0).x/\(h.lines.getD j d0).x<=1000:=by
 obtain ⟨h1,h2,h3,h4,h5,h6,h7,-⟩:=zXK h0 (zYy hj);exact ⟨by omega,by omega,by omega,h6,h7⟩
theorem foldl_sq' {n:Nat} (f:Nat->Ln) (ks:List Nat) {m:Mt} (h:Sq n m):Sq n (ks.foldl (fun m k=>eqLine m (f k)) m):=zUO f ks h
theorem zXN (h:Hr):Sq h.buses.toNat (mat h):=zXT _ (fun _ hb=>zV7 hb) (foldl_sq' (fun j=>h.lines.getD j ⟨0,0,0,0⟩) (ins h) (zUV _))
theorem zXM {h:Hr} (h0:hrErr h=0):FitM 110 (mat h):=by
 have hl:=zV2 h0;have h10:=(zUi h0).2.2.1;have h1:FitM 0 (zeroM h.buses.toNat):=fun i j=>by rw [zVA]; exact Lin.Fits.zero _
 have h2:=zVn (fun j=>h.lines.getD j ⟨0,0,0,0⟩) (ins h) (zUV _) h1 fun j hj=>zUv h0 hj
 exact zW0 _ fun i j=>(h2 i j).mono (by omega)
theorem zVE {k:Nat} {m:Mt} (h:FitM k m):FitM k (beside m):=fun i j=>by
 by_cases hi:i<m.length
 ·by_cases hj:j<m.length
  ·rw [zUH hi hj]; exact h i j
  ·by_cases hj2:j<m.length+m.length
   ·obtain ⟨d,rfl⟩:∃ d,j=m.length+d:=⟨j-m.length,by omega⟩;rw [zUz hi (by omega)]
    split
    ·exact Lin.Fits.one _
    ·exact Lin.Fits.zero _
   ·have:=zUI m i (by rw [zUa]; exact hi);unfold ent;rw [zAw _ _ _ (by rw [this]; omega)]; exact Lin.Fits.zero _
 ·unfold ent;rw [zAw (beside m) i [] (by rw [zUa]; omega)]; exact Lin.Fits.zero _
theorem zWR:∀ (f c:Nat) {k:Nat} {m:Mt} {ps:List Nat},FitM k m->ps.length<=m.length->FitM (grow f k) (run f c m ps).1
 | 0,_,_,_,_,h,_=>h
 | f+1,c,k,m,ps,h,hp=>by
  unfold run
  split
  ·exact fun i j=>(h i j).mono (zXG _ _)
  ·split
   ·exact fun i j=>(zWR f (c+1) h hp i j).mono (by
     show grow f k<=grow f (5*k+5);exact grow_mono f (by omega))
   ·rename_i g hg;obtain ⟨g1,g2,-⟩:=zUD hg;exact zWR f (c+1) (h.next (by omega) (by omega)) (by rw [zT5,List.length_append,List.length_singleton]; omega)
where
 grow_mono:∀ (n:Nat) {k l:Nat},k<=l->grow n k<=grow n l
  | 0,_,_,h=>h
  | n+1,k,l,h=>grow_mono n (show 5*k+5<=5*l+5 by omega)
theorem zXI {h:Hr} (h0:hrErr h=0) {m:Mt} (hm:inv h=some m):FitM 2000000 m:=by
 have hb:=(zUi h0).2.1;have hb1:=(zUi h0).1;have hl:(mat h).length<=6:=by rw [(zXN h).1]; omega
 have hm':inverse (mat h)=some m:=hm;unfold inverse at hm'
 split at hm'
 ·cases hm'
 ·obtain rfl:=Option.some.inj hm';have h1:=zWR (mat h).length 0 (k:=110) (ps:=[]) (zVE (zXM h0)) (nzl _);intro i j;rw [zWV];refine (h1 i _).mono ?_;generalize (mat h).length=L at hl ⊢;rcases (show L=0\/L=1\/L=2\/L=3\/L=4\/L=5\/L=6 by omega) with rfl | rfl | rfl | rfl | rfl | rfl | rfl <;> decide
theorem zVM {h:Hr} (h0:hrErr h=0) {m:Mt} (hm:inv h=some m) (k b:Nat):Lin.Fits 4000011 (factor h.lines (ins h) m k b):=by
 unfold factor;simp only
 split
 ·rename_i hk;obtain ⟨-,-,-,h1,h2⟩:=zUv h0 hk;have hf:=zXI h0 hm;have:=((hf (h.lines.getD k d0).f.toNat b).sub (hf (h.lines.getD k d0).t.toNat b)).mul (zUC h1 h2);rw [show ∀ a x:Rat,a / x=a*(1 / x) by intro a x; rw [Rat.div_def,Rat.div_def]; grind];exact this.mono (by omega)
 ·exact Lin.Fits.zero _
end Mo
namespace Mo
def nx (out:List Int) (k:Nat):Nat:=(out.filter fun x=>decide (x<(k:Int))).length
theorem zYH {out:List Int} (h:∀ x ∈ out,0<=x):nx out 0=0:=by
 unfold nx;rw [List.filter_eq_nil_iff.2 fun x hx=>by have:=h x hx; simp; omega]; rfl
theorem zYm:∀ {out:List Int} {k:Nat},out.Pairwise (·<·)->(k:Int) ∈ out->∃ a b,out=a++(k:Int) :: b/\nx out k=a.length/\nx out (k+1)=a.length+1:=by
 intro out k hp hk;obtain ⟨a,b,e⟩:=List.append_of_mem hk;rw [e] at hp;obtain ⟨h1,h2,h3⟩:=List.pairwise_append.1 hp;have ha:∀ x ∈ a,x<(k:Int):=fun x hx=>h3 x hx _ List.mem_cons_self
 have hb:∀ x ∈ b,(k:Int)<x:=fun x hx=>(List.pairwise_cons.1 h2).1 x hx
 refine ⟨a,b,e,?_,?_⟩
 ·unfold nx;rw [e,List.filter_append,List.filter_cons_of_neg (by simp),List.filter_eq_self.2 fun x hx=>by simpa using ha x hx,List.filter_eq_nil_iff.2 fun x hx=>by have:=hb x hx; simp; omega];simp
 ·unfold nx;rw [e,List.filter_append,List.filter_cons_of_pos (by simp; omega),List.filter_eq_self.2 fun x hx=>by have:=ha x hx; simp; omega,List.filter_eq_nil_iff.2 fun x hx=>by have:=hb x hx; simp; omega];simp
theorem zY6 {out:List Int} {k:Nat} (hp:out.Pairwise (·<·)) (hk:(k:Int) ∈ out):nx out k<out.length/\out.getD (nx out k) 0=k/\nx out (k+1)=nx out k+1:=by
 obtain ⟨a,b,e,h1,h2⟩:=zYm hp hk;rw [h1,h2];refine ⟨by rw [e]; simp,?_,rfl⟩;rw [e,gdd,List.getElem?_append_right (nlr _)];simp
theorem zY0 {out:List Int} {k:Nat} (hk:(k:Int) ∉ out):nx out (k+1)=nx out k:=by
 unfold nx;congr 1;apply List.filter_congr;intro x hx;have:x ≠ (k:Int):=fun e=>hk (e ▸ hx)
 simp only [decide_eq_decide];omega
theorem zY1 {out:List Int} {k:Nat} (hk:(k:Int) ∉ out) (h:nx out k<out.length):out.getD (nx out k) 0 ≠ k:=fun e=>hk (by
 rw [<-e,gdd,gge h];exact List.getElem_mem h)
theorem zV0 (out:List Int) (k:Nat):inS (k+1) out=if (k:Int) ∈ out then inS k out else inS k out++[k]:=by
 unfold inS;rw [List.range_succ,List.filter_append];by_cases h:(k:Int) ∈ out
 ·rw [if_pos h,List.filter_cons_of_neg (by simpa using h)]; simp
 ·rw [if_neg h,List.filter_cons_of_pos (by simpa using h)]; rfl
def Dn (par:Nat->Nat):Prop:=∀ b,par b<=b
theorem zVy {par:Nat->Nat} (h:Dn par):∀ k b,upN par k b<=b
 | 0,b=>nlr _
 | k+1,b=>by
  unfold upN
  split
  ·exact nlr _
  ·exact nlt (zVy h k _) (h b)
theorem zVz {par:Nat->Nat} (h:Dn par):∀ k b,b<=k->par (upN par k b)=upN par k b
 | 0,b,hb=>by
  obtain rfl:b=0:=by omega
  have:=h 0;show par 0=0
  omega
 | k+1,b,hb=>by
  unfold upN
  split
  ·assumption
  ·have:=h b;exact zVz h k _ (by omega)
theorem up_same {par:Nat->Nat} {b:Nat} (h:par b=b):∀ k,upN par k b=b
 | 0=>rfl
 | k+1=>by unfold upN; rw [if_pos h]
theorem zX2 {par:Nat->Nat} (h:Dn par):∀ {k b:Nat},b<=k->upN par (k+1) b=upN par k b
 | 0,b,hb=>by
  obtain rfl:b=0:=by omega
  have h0:par 0=0:=by have:=h 0; omega
  rw [up_same h0,up_same h0]
 | k+1,b,hb=>by
  by_cases e:par b=b
  ·rw [up_same e,up_same e]
  ·have:=h b
   have e1:∀ j,upN par (j+1) b=upN par j (par b):=fun j=>by
    show (if par b=b then b else upN par j (par b))=_;rw [if_neg e]
   rw [e1,e1];exact zX2 h (by omega)
theorem zWc {par:Nat->Nat} (h:Dn par) {n b:Nat} (hb:b<=n) (e:par b ≠ b):upN par n b=upN par n (par b):=by
 have:=h b
 cases n with
 | zero=>omega
 | succ n=>
  rw [zX2 h (k:=n) (b:=par b) (by omega)]
  conv=>lhs; unfold upN
  rw [if_neg e]
theorem Dn.join {par:Nat->Nat} (h:Dn par) (n:Nat) (l:Ln):Dn (join n par l):=fun b=>by
 unfold Mo.join
 split
 ·omega
 ·exact h b
theorem Dn.id:Dn id:=fun b=>nlr b
theorem zVO (n:Nat) (ls:List Ln) (ks:List Nat) (k:Nat):joins n ls (ks++[k])=join n (joins n ls ks) (ls.getD k d0):=by
 unfold joins;rw [List.foldl_append]; rfl
theorem zVa (n:Nat) (ls:List Ln):∀ ks:List Nat,Dn (joins n ls ks):=by
 have key:∀ (ks:List Nat) (par:Nat->Nat),Dn par->Dn (ks.foldl (fun par k=>join n par (ls.getD k ⟨0,0,0,0⟩)) par):=by
  intro ks
  induction ks with
  | nil=>exact fun _ h=>h
  | cons k ks ih=>exact fun par h=>ih _ (h.join n _)
 exact fun ks=>key ks _ Dn.id
theorem zXP {n:Nat} {par:Nat->Nat} (h:Dn par):∀ b,(∀ x ∈ (numb n par b).1,x<(numb n par b).2)/\(numb n par b).2<=b
 | 0=>⟨fun x hx=>(by cases hx),nlr _⟩
 | b+1=>by
  obtain ⟨h1,h2⟩:=zXP h b (n:=n);unfold numb;dsimp only
  split
  ·refine ⟨fun x hx=>?_,by dsimp only; omega⟩;rcases List.mem_append.1 hx with hx | hx
   ·have:=h1 x hx; dsimp only; omega
   ·obtain rfl:=List.mem_singleton.1 hx; dsimp only; omega
  ·rename_i e;have hu:=zVy h n b;have hl:upN par n b<(numb n par b).1.length:=by rw [zUw]; omega
   refine ⟨fun x hx=>?_,by dsimp only; omega⟩;rcases List.mem_append.1 hx with hx | hx
   ·exact h1 x hx
   ·obtain rfl:=List.mem_singleton.1 hx;refine h1 _ ?_;rw [gdd,gge hl];exact List.getElem_mem hl
theorem zUm:∀ (b c:Nat) (l:List Nat) (i:Nat),refsGo b c (l++[i])=if i=c+(refsGo b c l).length then refsGo b c l++[b+l.length] else refsGo b c l
 | b,c,[],i=>by
  show (if i=c then b :: refsGo (b+1) (c+1) [] else refsGo (b+1) c [])=_;by_cases e:i=c
  ·rw [if_pos e,if_pos (by simpa [refsGo] using e)]; rfl
  ·rw [if_neg e,if_neg (by simpa [refsGo] using e)]; rfl
 | b,c,j :: l,i=>by
  rw [List.cons_append];unfold refsGo;by_cases e:j=c
  ·rw [if_pos e,if_pos e,zUm (b+1) (c+1) l i,List.length_cons,List.length_cons];by_cases e2:i=c+1+(refsGo (b+1) (c+1) l).length
   ·rw [if_pos e2,if_pos (by omega),List.cons_append,show b+(l.length+1)=b+1+l.length by omega]
   ·rw [if_neg e2,if_neg (by omega)]
  ·rw [if_neg e,if_neg e,zUm (b+1) c l i,List.length_cons,show b+(l.length+1)=b+1+l.length by omega]
end Mo
namespace Mo
theorem zXJ {par:Nat->Nat} (h:Dn par) {n x y:Nat} (hx:par x=x) (hy:par y=y) (hyn:max x y<=n) {par':Nat->Nat} (e:∀ b,par' b=if b=max x y then min x y else par b):∀ b,b<=n->upN par' n b=if upN par n b=max x y then min x y else upN par n b:=by
 have h':Dn par':=fun b=>by
  rw [e]; split
  ·omega
  ·exact h b
 by_cases exy:x=y
 ·subst exy
  have e2:par'=par:=by
   funext b;rw [e]
   split
   ·rename_i hb; rw [hb,Nat.max_self,Nat.min_self,hx]
   ·rfl
  intro b _;rw [e2]
  split
  ·rename_i hb; rw [hb]; simp
  ·rfl
 ·have hM:par' (max x y)=min x y:=by rw [e,if_pos rfl]
  have hm:par' (min x y)=min x y:=by
   rw [e,if_neg (by omega)];rcases Nat.le_total x y with hle | hle
   ·rw [Nat.min_eq_left hle]; exact hx
   ·rw [Nat.min_eq_right hle]; exact hy
  have hMp:par (max x y)=max x y:=by
   rcases Nat.le_total x y with hle | hle
   ·rw [Nat.max_eq_right hle]; exact hy
   ·rw [Nat.max_eq_left hle]; exact hx
  intro b
  induction b using Nat.strongRecOn with
  | ind b ih=>
   intro hb;by_cases eb:b=max x y
   ·subst eb;rw [zWc h' hyn (by rw [hM]; omega),hM,up_same hm,up_same hMp,if_pos rfl]
   ·have e1:par' b=par b:=(by rw [e,if_neg eb]);by_cases er:par b=b
    ·rw [up_same (e1.trans er),up_same er,if_neg eb]
    ·have hlt:par b<b:=by have:=h b; omega
     rw [zWc h' hb (by rw [e1]; exact er),e1,ih _ hlt (by omega),zWc h hb er]
theorem zYL {α:Type} {motive:List α->Prop} (nil:motive []) (snoc:∀ (l:List α) (a:α),motive l->motive (l++[a])) (l:List α):motive l:=by
 have:∀ r:List α,motive r.reverse:=fun r=>by
  induction r with
  | nil=>exact nil
  | cons a r ih=>rw [List.reverse_cons]; exact snoc _ _ ih
 have:=this l.reverse
 rwa [List.reverse_reverse] at this
def root (h:Hr) (b:Nat):Nat:=upN (par h) h.buses.toNat b
theorem zXR (h:Hr):Dn (par h):=zVa _ _ _
theorem zWr {n:Nat} {par:Nat->Nat} (h:Dn par):∀ b,b<=n->
  refsGo 0 0 (numb n par b).1=(List.range b).filter (fun a=>decide (upN par n a=a))/\(numb n par b).2=(refsGo 0 0 (numb n par b).1).length/\
   ∀ a,a<b->(numb n par b).1.getD a 0=(numb n par b).1.getD (upN par n a) 0/\(numb n par b).1.getD a 0<(numb n par b).2/\(upN par n a=a->(refsGo 0 0 (numb n par b).1).getD ((numb n par b).1.getD a 0) 0=a)
 | 0,_=>⟨rfl,rfl,fun a ha=>absurd ha (Nat.not_lt_zero a)⟩
 | b+1,hb=>by
  obtain ⟨h1,h2,h3⟩:=zWr (n:=n) h b (by omega);have hl:=zUw n par b;have hu:=zVy h n b;have hur:=zVz h n b (by omega);unfold numb;dsimp only;generalize numb n par b=r at h1 h2 h3 hl ⊢;obtain ⟨L,c⟩:=r;dsimp only at h1 h2 h3 hl ⊢
  have ga:∀ (x a:Nat),a<b->(L++[x]).getD a 0=L.getD a 0:=fun x a ha=>by
   rw [gdd,gdd,List.getElem?_append_left (by omega)]
  have gb:∀ x:Nat,(L++[x]).getD b 0=x:=fun x=>by
   rw [gdd,List.getElem?_append_right (by omega),hl]; simp
  rw [List.range_succ,List.filter_append];by_cases e:upN par n b=b
  ·rw [if_pos e];dsimp only;have hs:refsGo 0 0 (L++[c])=refsGo 0 0 L++[b]:=(by rw [zUm,if_pos (by omega),hl,Nat.zero_add]);refine ⟨by rw [hs,h1,List.filter_cons_of_pos (by simpa using e)]; rfl,by rw [hs,List.length_append,List.length_singleton]; omega,fun a ha=>?_⟩;by_cases ea:a=b
   ·subst ea;rw [e];refine ⟨rfl,by rw [gb]; omega,fun _=>?_⟩;rw [gb,hs,h2,gdd,List.getElem?_append_right (nlr _)]; simp
   ·have ha':a<b:=(by omega);have hua:=zVy h n a;obtain ⟨g1,g2,g3⟩:=h3 a ha';rw [ga _ _ ha',ga _ _ (by omega)];refine ⟨g1,by omega,fun hr=>?_⟩;rw [hs,gdd,List.getElem?_append_left (by omega),<-gdd];exact g3 hr
  ·rw [if_neg e];dsimp only;have hub:upN par n b<b:=(by omega);obtain ⟨u1,u2,-⟩:=h3 _ hub;have hs:refsGo 0 0 (L++[L.getD (upN par n b) 0])=refsGo 0 0 L:=(by rw [zUm,if_neg (by omega)]);refine ⟨by rw [hs,h1,List.filter_cons_of_neg (by simpa using e)]; simp,by rw [hs]; exact h2,fun a ha=>?_⟩;by_cases ea:a=b
   ·subst ea;rw [gb,ga _ _ hub];exact ⟨rfl,u2,fun hr=>absurd hr e⟩
   ·have ha':a<b:=(by omega);have hua:=zVy h n a;obtain ⟨g1,g2,g3⟩:=h3 a ha';rw [ga _ _ ha',ga _ _ (by omega),hs];exact ⟨g1,g2,g3⟩
theorem zYK (h:Hr):refsOf h=(List.range h.buses.toNat).filter fun b=>decide (root h b=b):=(zWr (zXR h) h.buses.toNat (nlr _)).1
end Mo
namespace Mo
open Gj Lin
theorem zVS {n:Nat} {m:Mt} (h:Sq n m) {a b:Nat} (ha:a<n) (hb:b<n) (q:Rat) (x:Nat->Rat) (i:Nat):(sum n fun j=>ent (addAt m a b q) i j*x j)=(sum n fun j=>ent m i j*x j)+if i=a then q*x b else 0:=by
 by_cases e:i=a
 ·rw [if_pos e]
  have h1:(sum n fun j=>ent (addAt m a b q) i j*x j)=sum n fun j=>ent m i j*x j+(if j=b then q*x b else 0):=zAh fun j _=>by
   rw [zUb h ha hb];by_cases ej:j=b
   ·rw [if_pos ⟨e,ej⟩,if_pos ej,e,ej]; grind
   ·rw [if_neg fun h=>ej h.2,if_neg ej]; grind
  rw [h1,zCb,zBu (s:=b) hb fun j _ hj=>if_neg hj,if_pos rfl]
 ·rw [if_neg e]
  have h1:(sum n fun j=>ent (addAt m a b q) i j*x j)=sum n fun j=>ent m i j*x j:=zAh fun j _=>by
   rw [zUb h ha hb,if_neg fun h=>e h.1]
  rw [h1]; grind
def lineAct (l:Ln) (x:Nat->Rat) (i:Nat):Rat:=(if i=l.f.toNat then 1 / (l.x:Rat)*(x l.f.toNat-x l.t.toNat) else 0)+if i=l.t.toNat then 1 / (l.x:Rat)*(x l.t.toNat-x l.f.toNat) else 0
theorem zYi {n:Nat} {m:Mt} (h:Sq n m) {l:Ln} (hf:l.f.toNat<n) (ht:l.t.toNat<n) (x:Nat->Rat) (i:Nat):(sum n fun j=>ent (eqLine m l) i j*x j)=(sum n fun j=>ent m i j*x j)+lineAct l x i:=by
 have s1:=h.addAt l.f.toNat l.f.toNat (1 / (l.x:Rat));have s2:=s1.addAt l.f.toNat l.t.toNat (-(1 / (l.x:Rat)));have s3:=s2.addAt l.t.toNat l.t.toNat (1 / (l.x:Rat));unfold eqLine lineAct;simp only;rw [zVS s3 ht hf,zVS s2 ht ht,zVS s1 hf ht,zVS h hf hf]
 split <;> split <;> grind
theorem zWm {n:Nat} (f:Nat->Ln) (x:Nat->Rat) (i:Nat):∀ (ks:List Nat) {m:Mt},Sq n m->(∀ j ∈ ks,(f j).f.toNat<n/\(f j).t.toNat<n)->
  (sum n fun j=>ent (ks.foldl (fun m k=>eqLine m (f k)) m) i j*x j)=(sum n fun j=>ent m i j*x j)+(ks.map fun k=>lineAct (f k) x i).sum
 | [],_,_,_=>by simp only [List.foldl_nil,List.map_nil,List.sum_nil]; grind
 | k :: ks,m,hs,hk=>by
  obtain ⟨h1,h2⟩:=hk k List.mem_cons_self;rw [List.foldl_cons,zWm f x i ks (hs.line (f k)) fun j hj=>hk j (List.mem_cons_of_mem _ hj),zYi hs h1 h2,List.map_cons,List.sum_cons];grind
theorem zW2 {n b:Nat} {m:Mt} (h:Sq n m) (hb:b<n) (i j:Nat):ent (m.set b ((unitM n).getD b [])) i j=if i=b then ent (unitM n) b j else ent m i j:=by
 unfold ent;rw [zT6 _ _ _ _ _ (by rw [h.1]; exact hb)]
 split <;> rfl
theorem zYt {n b:Nat} (hb:b<n) (x:Nat->Rat):(sum n fun j=>ent (unitM n) b j*x j)=x b:=by
 have e:∀ j,j<n->ent (unitM n) b j=if j=b then 1 else 0:=fun j hj=>by
  unfold ent unitM;rw [getD_map_range _ _ hb,getD_map_range _ _ hj]
 rw [zBu (s:=b) hb fun j hj hne=>by rw [e j hj,if_neg hne]; grind,e b hb,if_pos rfl]; grind
theorem zWZ {n:Nat} (x:Nat->Rat) (i:Nat):∀ (rf:List Nat) {m:Mt},Sq n m->(∀ b ∈ rf,b<n)->
  (sum n fun j=>ent (rf.foldl (fun m b=>m.set b ((unitM n).getD b [])) m) i j*x j)=if i ∈ rf then x i else sum n fun j=>ent m i j*x j
 | [],_,_,_=>by rw [if_neg (by simp)]; rfl
 | b :: rf,m,hs,hb=>by
  have hbn:=hb b List.mem_cons_self;rw [List.foldl_cons,zWZ x i rf (hs.setU hbn) fun c hc=>hb c (List.mem_cons_of_mem _ hc)];by_cases h1:i ∈ rf
  ·rw [if_pos h1,if_pos (List.mem_cons_of_mem _ h1)]
  ·rw [if_neg h1];by_cases h2:i=b
   ·subst h2;rw [if_pos List.mem_cons_self,<-zYt hbn x];exact zAh fun j _=>by rw [zW2 hs hbn,if_pos rfl]
   ·rw [if_neg (by simp [h1,h2])];exact zAh fun j _=>by rw [zW2 hs hbn,if_neg h2]
theorem zYG {h:Hr} (h0:hrErr h=0) (x:Nat->Rat) (i:Nat):(sum h.buses.toNat fun j=>ent (mat h) i j*x j)=if i ∈ refsOf h then x i else ((ins h).map fun k=>lineAct (h.lines.getD k d0) x i).sum:=by
 unfold mat eqs;have hs:=foldl_sq' (fun j=>h.lines.getD j ⟨0,0,0,0⟩) (ins h) (zUV h.buses.toNat);rw [zWZ x i (refsOf h) hs fun b hb=>zV7 hb];by_cases hi:i ∈ refsOf h
 ·rw [if_pos hi,if_pos hi]
 ·rw [if_neg hi,if_neg hi,zWm (fun j=>h.lines.getD j ⟨0,0,0,0⟩) x i (ins h) (zUV _) fun j hj=>by have:=zUv h0 hj; exact ⟨this.1,this.2.1⟩,
   zAC fun j _=>by rw [zVA]; grind]
  exact Rat.zero_add _
theorem zYl {h:Hr} {b:Nat}:b ∈ refsOf h ↔ b<h.buses.toNat/\root h b=b:=by
 rw [zYK,List.mem_filter,List.mem_range]; simp
end Mo
namespace Mo
open Gj Lin
def vr0:Vr:=⟨false,0,0,0,⟨0,0⟩⟩
end Mo
open Go.RowKit Go.Shelf Gj
namespace Mo
theorem _root_.Go.Proofs.YtjancagcmghfjaaGreat.ValC.grown {W W':World} {B k:Nat} {G:Nat->Prop} {v:Value} {qs:List QV} {l:List Rat} {row:Option Nat} (h:ValC W B G v k qs l) (hg:W.grownBy W' row) (hr:∀ r,row=some r->∃ o:Obj,W.heap[r]?=some o/\o.isCells=false):ValC W' B G v k qs l:=
 ⟨zEp hg hr h.own,h.row,h.len,h.llen,fun j hj=>(h.elem j hj).carry (Carry.grown hg hr)⟩
structure Jag (W:World) (B:Nat) (G:Nat->Prop) (g n:Nat) (vs:List Value) (qs:List (List QV)) (m:List (List Rat)):Prop where
 len:vs.length=n
 ql:qs.length=n
 ml:m.length=n
 gg:G g
 blk:W.heap[g]?=some (.cells vs.toArray 34 (0,0))
 row:∀ i,i<n->ValC W B G (vs.getD i undef) (m.getD i []).length (qs.getD i []) (m.getD i [])
 dis:∀ i j,i<n->j<n->i ≠ j->∀ b,(vs.getD i undef).ownBlock=some b->(vs.getD j undef).ownBlock ≠ some b
def JOwn (g n:Nat) (vs:List Value) (b:Nat):Prop:=b=g\/∃ i,i<n/\(vs.getD i undef).ownBlock=some b
section
variable {W W':World} {B g n:Nat} {G G' H:Nat->Prop} {vs:List Value} {qs:List (List QV)} {m:List (List Rat)}
theorem Jag.grown {row:Option Nat} (h:Jag W B G g n vs qs m) (hg:W.grownBy W' row) (hr:∀ r,row=some r->∃ o:Obj,W.heap[r]?=some o/\o.isCells=false):Jag W' B G g n vs qs m:=
 ⟨h.len,h.ql,h.ml,h.gg,zAi hg hr h.blk,fun i hi=>(h.row i hi).grown hg hr,h.dis⟩
theorem Jag.own_lt (h:Jag W B G g n vs qs m) {b:Nat} (hb:JOwn g n vs b):b<W.heap.size/\G b:=by
 rcases hb with rfl | ⟨i,hi,e⟩
 ·exact ⟨zAa h.blk,h.gg⟩
 ·exact ⟨((h.row i hi).lt e).2,(h.row i hi).row b e⟩
theorem Jag.keep (h:Jag W B G g n vs qs m) (hF:Fr H W W') (hH:∀ b,JOwn g n vs b->¬ H b) (hHG:∀ y,H y->G y) (hG:More W G G'):Jag W' B G' g n vs qs m:=
 ⟨h.len,h.ql,h.ml,hG.old g h.gg,(hF.block g (zAa h.blk) (hH g (.inl rfl))).trans h.blk,fun i hi=>(h.row i hi).keep hF (fun j hj=>hH j (.inr ⟨i,hi,hj⟩)) hHG hG,h.dis⟩
theorem Jag.ne (h:Jag W B G g n vs qs m) {i b:Nat} (hi:i<n) (e:(vs.getD i undef).ownBlock=some b):b ≠ g:=by
 rintro rfl;obtain ⟨_,cs,hh⟩:=zAc (h.row i hi).own e;rw [h.blk] at hh;cases hh
theorem Jag.nil (hg:G g) (hh:W.heap[g]?=some (.cells (List.replicate n (.slice none 0 0)).toArray 34 (0,0))):Jag W B G g n (List.replicate n (.slice none 0 0)) (List.replicate n []) (List.replicate n []):=by
 have e:∀ i,i<n->(List.replicate n (Value.slice none 0 0)).getD i undef = .slice none 0 0:=fun i hi=>by simp [hi]
 refine ⟨by simp,by simp,by simp,hg,hh,fun i hi=>?_,fun i j hi hj _ b hb=>?_⟩
 ·have e1:(List.replicate n ([]:List Rat)).getD i []=[]:=by simp [hi]
  have e2:(List.replicate n ([]:List QV)).getD i []=[]:=by simp [hi]
  rw [e i hi,e1,e2];exact ValC.nil _ _ _
 ·rw [e i hi] at hb; simp [Value.ownBlock] at hb
theorem Jag.step {W2:World} {o:Obj} {i:Nat} {z:QV} {q:Rat} {v':Value} (h:Jag W B G g n vs qs m) (hi:i<n) (hz:QCan W (fun b=>¬ G b) z q) (hown:W2.ownsRow B 80 4 v' ((m.getD i []).length+1) ((qs.getD i []).flatMap cells4q++cells4q z)) (hg:(W.alloc o).grownBy W2 (vs.getD i undef).ownBlock)
  (hat:v'.ownBlock=(vs.getD i undef).ownBlock\/v'.ownBlock=some (W.alloc o).heap.size) :
  Jag (W2.setCell ⟨g,i,none⟩ v') B (fun y=>G y\/v'.ownBlock=some y) g n (vs.set i v') (qs.set i (qs.getD i []++[z])) (m.set i (m.getD i []++[q]))/\Fr (fun y=>y=g\/(vs.getD i undef).ownBlock=some y) W (W2.setCell ⟨g,i,none⟩ v')/\More W G (fun y=>G y\/v'.ownBlock=some y)/\
   (∀ b,JOwn g n (vs.set i v') b->JOwn g n vs b\/W.heap.size<=b)/\W2.cell? ⟨g,i,none⟩=some (vs.getD i undef)/\W2.frozen? ⟨g,i,none⟩=false:=by
 have hrow:=h.row i hi;obtain ⟨hv2,hF2,hM⟩:=hrow.step hz hown hg hat;have hgl:=zAa h.blk;have hne:¬ (vs.getD i undef).ownBlock=some g:=fun e=>h.ne hi e rfl
 have hblk2:W2.heap[g]?=some (.cells vs.toArray 34 (0,0)):=(hF2.block g hgl hne).trans h.blk
 have hvn:∀ b,v'.ownBlock=some b->(vs.getD i undef).ownBlock=some b\/W.heap.size<=b:=fun b hb=>by
  rcases hat with e | e
  ·exact .inl (e.symm.trans hb)
  ·rw [e] at hb; cases hb; right; simp
 have hF3:Fr (fun y=>y=g\/(vs.getD i undef).ownBlock=some y) W (W2.setCell ⟨g,i,none⟩ v'):=(hF2.mono fun y hy=>.inr hy).set (p:=⟨g,i,none⟩) (.inl rfl) v';have hFs:Fr (fun y=>y=g) W2 (W2.setCell ⟨g,i,none⟩ v'):=(Fr.refl (fun y=>y=g) W2).set (p:=⟨g,i,none⟩) rfl v';have hv'g:¬ v'.ownBlock=some g:=fun e=>(hvn g e).elim hne fun e2=>by omega
 have gd:∀ j,j ≠ i->(vs.set i v').getD j undef=vs.getD j undef:=fun j hj=>by rw [gdd,List.getElem?_set_ne (Ne.symm hj),<-gdd]
 have gs:(vs.set i v').getD i undef=v':=by rw [gdd,List.getElem?_set_self (by rw [h.len]; exact hi)]; rfl
 refine ⟨⟨by rw [List.length_set]; exact h.len,by rw [List.length_set]; exact h.ql,by rw [List.length_set]; exact h.ml,.inl h.gg,?_,fun j hj=>?_,?_⟩,hF3,hM,fun b hb=>?_,?_,by simp [World.frozen?,hblk2]⟩
 ·rw [zAe _ hblk2];simp
 ·by_cases e:j=i
  ·subst e;have e1:(m.set j (m.getD j []++[q])).getD j []=m.getD j []++[q]:=by rw [gdd,List.getElem?_set_self (by rw [h.ml]; exact hi)]; rfl
   have e2:(qs.set j (qs.getD j []++[z])).getD j []=qs.getD j []++[z]:=by rw [gdd,List.getElem?_set_self (by rw [h.ql]; exact hi)]; rfl
   rw [gs,e1,e2,List.length_append];exact hv2.keep hFs (fun b hb e=>hv'g (e ▸ hb)) (fun y hy=>.inl (hy ▸ h.gg)) ⟨fun _ hy=>hy,fun _ hy=>.inl hy⟩
  ·have e1:(m.set i (m.getD i []++[q])).getD j []=m.getD j []:=(by rw [gdd,List.getElem?_set_ne (Ne.symm e),<-gdd]);have e2:(qs.set i (qs.getD i []++[z])).getD j []=qs.getD j []:=(by rw [gdd,List.getElem?_set_ne (Ne.symm e),<-gdd]);rw [gd j e,e1,e2];exact (h.row j hj).keep hF3 (fun b hb e2=>e2.elim (fun e3=>h.ne hj hb e3) fun e3=>h.dis i j hi hj (Ne.symm e) b e3 hb) (fun y hy=>hy.elim (fun e=>e ▸ h.gg) fun e=>hrow.row y e) hM
 ·intro a b ha hb hab c hc hc2
  have key:∀ x,x<n->x ≠ i->∀ c,(vs.getD x undef).ownBlock=some c->v'.ownBlock ≠ some c:=fun x hx hxi c hc hv=>by
   rcases hvn c hv with e | e
   ·exact h.dis i x hi hx (Ne.symm hxi) c e hc
   ·have:=((h.row x hx).lt hc).2; omega
  by_cases ea:a=i
  ·subst ea;rw [gs] at hc;rw [gd b (Ne.symm hab)] at hc2;exact key b hb (Ne.symm hab) c hc2 hc
  ·rw [gd a ea] at hc;by_cases eb:b=i
   ·subst eb;rw [gs] at hc2;exact key a ha ea c hc hc2
   ·rw [gd b eb] at hc2;exact h.dis a b ha hb hab c hc hc2
 ·rcases hb with rfl | ⟨j,hj,hb⟩
  ·exact .inl (.inl rfl)
  ·by_cases e:j=i
   ·subst e;rw [gs] at hb;exact (hvn b hb).imp (fun e=>.inr ⟨j,hj,e⟩) id
   ·rw [gd j e] at hb;exact .inl (.inr ⟨j,hj,hb⟩)
 ·have hil:i<vs.length:=by rw [h.len]; exact hi
  simp [World.cell?,hblk2,hil]
theorem Jag.mat {lo:Nat} (h:Jag W B G g n vs qs m) (hn:n<=1000000) (hg:lo<=g) (hB:lo<=B) (hG:∀ y,y<lo->G y):MatCan W (New lo) (New lo) ⟨some ⟨g,0,none⟩,n,n⟩ m:=by
 refine ⟨h.ml,nlr _,by show n<=_; omega,fun i hi=>?_⟩;have hi':i<n:=hi;have hrow:=h.row i hi';obtain ⟨s,e,hs,hv⟩:=hrow.vec;have hil:i<vs.length:=by rw [h.len]; exact hi'
 refine ⟨⟨g,0,none⟩,s,rfl,hg,?_,hv.len,hv.le,hv.cap,fun k hk=>?_⟩
 ·rw [zA4,Nat.zero_add];simp only [World.cell?,h.blk];rw [<-show vs.getD i undef=s.val from e,gdd,gge hil];simp [hil]
 ·obtain ⟨ad,v,e2,-,hc,hq⟩:=hv.elem k hk;refine ⟨ad,v,e2,?_,hc,hq.imp fun b _ hb=>?_⟩
  ·have:=(hrow.lt (j:=ad.block) (by rw [e]; simp [SV.val,e2,Value.ownBlock])).1;show lo<=ad.block;omega
  ·exact Nat.le_of_not_lt fun hl=>hb (hG b hl)
end
def bk (vs:List Vr) (l:List Rat) (bid:Bool) (i:Nat) (is:List Nat):List Rat:=(is.filter fun j=>(vs.getD j vr0).bid == bid && (vs.getD j vr0).which == i).map fun j=>l.getD j 0
def bks (vs:List Vr) (l:List Rat) (bid:Bool) (n:Nat) (is:List Nat):List (List Rat):=(List.range n).map fun i=>bk vs l bid i is
theorem yAm (vs:List Vr) (l:List Rat) (bid:Bool) (i k:Nat) (is:List Nat):bk vs l bid i (is++[k])=if (vs.getD k vr0).bid=bid/\(vs.getD k vr0).which=i then bk vs l bid i is++[l.getD k 0] else bk vs l bid i is:=by
 unfold bk;rw [List.filter_append,List.map_append];by_cases h:(vs.getD k vr0).bid=bid/\(vs.getD k vr0).which=i
 ·rw [if_pos h,List.filter_cons_of_pos (by simpa using h)]; rfl
 ·rw [if_neg h,List.filter_cons_of_neg (by simpa using h)]; simp
theorem yAh (vs:List Vr) (l:List Rat) (bid:Bool) {n i:Nat} (is:List Nat) (hi:i<n):(bks vs l bid n is).getD i []=bk vs l bid i is:=by
 unfold bks;rw [gdd,List.getElem?_map,List.getElem?_range hi]; rfl
theorem yAn (vs:List Vr) (l:List Rat) {bid:Bool} {n i k:Nat} (is:List Nat) (hi:i<n) (h1:(vs.getD k vr0).bid=bid) (h2:(vs.getD k vr0).which=i):bks vs l bid n (is++[k])=(bks vs l bid n is).set i ((bks vs l bid n is).getD i []++[l.getD k 0]):=by
 apply List.ext_getElem
 ·simp [bks]
 ·intro j hj hj2;have hjn:j<n:=by simpa [bks] using hj
  have e0:=yAh vs l bid is hi;rw [List.getElem_set];simp only [e0];simp only [bks,List.getElem_map,List.getElem_range];rw [yAm];by_cases e:i=j
  ·subst e; rw [if_pos ⟨h1,h2⟩,if_pos rfl]
  ·rw [if_neg (fun h=>e (h2.symm.trans h.2)),if_neg e]
theorem yAk (vs:List Vr) (l:List Rat) {bid:Bool} {n k:Nat} (is:List Nat) (h1:(vs.getD k vr0).bid ≠ bid):bks vs l bid n (is++[k])=bks vs l bid n is:=by
 unfold bks;exact List.map_congr_left fun i _=>by rw [yAm,if_neg fun h=>h1 h.1]
theorem yAo (vs:List Vr) (l:List Rat) (bid:Bool) (n:Nat):bks vs l bid n []=List.replicate n []:=by
 unfold bks bk;rw [List.eq_replicate_iff];exact ⟨by simp,fun b hb=>by obtain ⟨i,_,rfl⟩:=List.mem_map.1 hb; rfl⟩
def BkI {n:Nat} (w W0:World) (c un bn:Nat) (vs:List Vr) (l:List Rat) (pre:List (Fin n)) (W:World):Prop:=
 ∃ (G:Nat->Prop) (vs1:List Value) (qs1:List (List QV)) (vs2:List Value) (qs2:List (List QV)),Jag W (c+8) G (c+3) un vs1 qs1 (bks vs l false un (pre.map Fin.val))/\Jag W (c+8) G (c+4) bn vs2 qs2 (bks vs l true bn (pre.map Fin.val))/\(∀ y,JOwn (c+3) un vs1 y->¬ JOwn (c+4) bn vs2 y)/\
  (∀ y,y<c+8->G y)/\(∀ y,G y->y<W.heap.size)/\c+8<=W.heap.size/\Below w w W/\Carry (fun y=>y<c+8/\y ≠ c+3/\y ≠ c+4) W0 W
theorem BkI.own {n:Nat} {w W0:World} {c un bn B:Nat} {vs:List Vr} {l:List Rat} (hB:w.heap.size<=B):OwnFrom B (BkI (n:=n) w W0 c un bn vs l):=fun s W W' row hs hg hr=>by
 obtain ⟨G,vs1,qs1,vs2,qs2,h1,h2,h3,h4,h5,h6,h7,h8⟩:=hs;exact ⟨G,vs1,qs1,vs2,qs2,h1.grown hg (fun r e=>(hr r e).2),h2.grown hg (fun r e=>(hr r e).2),h3,h4,fun y hy=>ltl (h5 y hy) hg.size,nlt h6 hg.size,ownFrom_below (nlr _) hB s W W' row h7 hg hr,h8.trans (Carry.grown hg (fun r e=>(hr r e).2))⟩
theorem yAg {H:Nat->Prop} {W W':World} (B:Nat) (hF:Fr H W W') (hH:∀ y,H y->∃ cs t f,W.heap[y]?=some (.cells cs t f)):KeepsFrom B W W':=
 ⟨hF.size,fun k o _ hk ho=>by
  refine (hF.block k (zAa hk) fun hy=>?_).trans hk;obtain ⟨cs,t,f,e⟩:=hH k hy;rw [e] at hk;cases hk;cases ho⟩
theorem yAf {H X:Nat->Prop} {W W':World} (hF:Fr H W W') (hH:∀ y,X y->¬ H y):Carry X W W':=
 ⟨hF.size,fun k _ _ _ hx hk=>(hF.block k (zAa hk) (hH k hx)).trans hk⟩
theorem Jag.cellsB {W:World} {B g n:Nat} {G:Nat->Prop} {vs:List Value} {qs:List (List QV)} {m:List (List Rat)} (h:Jag W B G g n vs qs m) {i y:Nat} (hi:i<n) (hy:y=g\/(vs.getD i undef).ownBlock=some y):∃ cs t f,W.heap[y]?=some (.cells cs t f):=by
 rcases hy with rfl | hy
 ·exact ⟨_,_,_,h.blk⟩
 ·obtain ⟨_,cs,hh⟩:=zAc (h.row i hi).own hy;exact ⟨_,_,_,hh⟩
theorem yAj {W W2:World} {c g g' n n' i:Nat} {G:Nat->Prop} {vs vs':List Value} {qs qs':List (List QV)} {m m':List (List Rat)} {o:Obj} {z:QV} {q:Rat} {v':Value} (h:Jag W (c+8) G g n vs qs m) (h':Jag W (c+8) G g' n' vs' qs' m') (hd:∀ y,JOwn g n vs y->¬ JOwn g' n' vs' y) (hG:∀ y,G y->y<W.heap.size) (hi:i<n) (hz:QCan W (fun b=>¬ G b) z q)
  (hown:W2.ownsRow (c+8) 80 4 v' ((m.getD i []).length+1) ((qs.getD i []).flatMap cells4q++cells4q z)) (hg:(W.alloc o).grownBy W2 (vs.getD i undef).ownBlock) (hat:v'.ownBlock=(vs.getD i undef).ownBlock\/v'.ownBlock=some (W.alloc o).heap.size) :
  ∃ (G':Nat->Prop) (vs1:List Value) (qs1:List (List QV)),Jag (W2.setCell ⟨g,i,none⟩ v') (c+8) G' g n vs1 qs1 (m.set i (m.getD i []++[q]))/\Jag (W2.setCell ⟨g,i,none⟩ v') (c+8) G' g' n' vs' qs' m'/\(∀ y,JOwn g n vs1 y->¬ JOwn g' n' vs' y)/\(∀ y,G y->G' y)/\(∀ y,G' y->y<(W2.setCell ⟨g,i,none⟩ v').heap.size)/\
   Fr (fun y=>y=g\/(vs.getD i undef).ownBlock=some y) W (W2.setCell ⟨g,i,none⟩ v')/\W2.cell? ⟨g,i,none⟩=some (vs.getD i undef)/\(∀ o,W2.frozen? ⟨g,o,none⟩=false)/\Fr (fun y=>(vs.getD i undef).ownBlock=some y) W W2:=by
 obtain ⟨a1,a2,a3,a4,a5,a6⟩:=h.step hi hz hown hg hat;have hrow:=h.row i hi;have hF2:=(hrow.step hz hown hg hat).2.1;have hgl:=zAa h.blk;have hblk2:W2.heap[g]?=some (.cells vs.toArray 34 (0,0)):=(hF2.block g hgl fun e=>h.ne hi e rfl).trans h.blk;refine ⟨_,_,_,a1,h'.keep a2 (fun b hb hy=>hd b (hy.imp id fun e=>⟨i,hi,e⟩) hb) (fun y hy=>hy.elim (fun e=>e ▸ h.gg) fun e=>hrow.row y e) a3,fun y hy hy2=>?_,a3.old,fun y hy=>?_,a2,a5,fun o=>by simp [World.frozen?,hblk2],hF2⟩
 ·rcases a4 y hy with e | e
  ·exact hd y e hy2
  ·have:=(h'.own_lt hy2).1; omega
 ·rcases hy with hy | hy
  ·exact ltl (hG y hy) a2.size
  ·have gs:(vs.set i v').getD i undef=v':=by rw [gdd,List.getElem?_set_self (by rw [h.len]; exact hi)]; rfl
   exact (a1.own_lt (.inr ⟨i,hi,by rw [gs]; exact hy⟩)).1
end Mo
end Go.Proofs.YtjancagcmghfjaaGreat
