/- Texts MoB of this claim. -/
import Derived.Test.YtjancagcmghfjaaGreatW09
set_option maxHeartbeats 4000000
namespace Go.Proofs.YtjancagcmghfjaaGreat
namespace Mo
def keep:List Un->List Bool->List Un
 | u :: us,o :: os=>if o then u :: keep us os else keep us os
 | _,_=>[]
theorem zYh:∀ us:List Un,keep us (us.map fun _=>true)=us
 | []=>rfl
 | u :: us=>by show (if true=true then _ else _)=_; rw [if_pos rfl,zYh us]
def less (h:Hr):Hr:={h with units:=keep h.units h.on,on:=(keep h.units h.on).map fun _=>true}
theorem zZY:∀ {us:List Un} {os:List Bool} {u:Un},u ∈ keep us os->u ∈ us
 | [],_,_,h=>by cases h
 | _ :: _,[],_,h=>by cases h
 | v :: us,o :: os,u,h=>by
  unfold keep at h
  split at h
  ·rcases List.mem_cons.1 h with rfl | h
   ·exact List.mem_cons_self
   ·exact List.mem_cons_of_mem _ (zZY h)
  ·exact List.mem_cons_of_mem _ (zZY h)
theorem zZX:∀ (us:List Un) (os:List Bool),(keep us os).length<=us.length
 | [],_=>nlr _
 | _ :: _,[]=>nzl _
 | v :: us,o :: os=>by
  have:=zZX us os;unfold keep
  split
  ·simp only [List.length_cons]; omega
  ·simp only [List.length_cons]; omega
theorem zVx {buses:Int}:∀ {us:List Un},unitsErr buses us=0 ↔ ∀ u ∈ us,unitErr u buses=0
 | []=>by simp [unitsErr]
 | u :: us=>by
  unfold unitsErr;by_cases e:unitErr u buses=0
  ·rw [if_neg (by simpa using e),zVx];simp [e]
  ·rw [if_pos e];constructor
   ·intro h; exact absurd h e
   ·intro h; exact absurd (h u List.mem_cons_self) e
theorem yAd {h:Hr} (h0:hrErr h=0):hrErr (less h)=0:=by
 unfold hrErr at h0 ⊢;have e1:outErr (less h).buses (less h).lines (less h).out=outErr h.buses h.lines h.out:=rfl;rw [e1]
 split at h0
 ·exact absurd h0 (by assumption)
 rename_i h1;rw [if_neg h1]
 split at h0
 ·cases h0
 rename_i h2;rw [if_neg (by have:=zZX h.units h.on; show ¬ (5<(keep h.units h.on).length\/6<h.bids.length); omega)]
 split at h0
 ·exact absurd h0 (by assumption)
 rename_i h3;have h3':unitsErr h.buses h.units=0:=by simpa using h3
 have h4:unitsErr (less h).buses (less h).units=0:=zVx.2 fun u hu=>zVx.1 h3' u (zZY hu)
 rw [if_neg (by simpa using h4)]
 split at h0
 ·cases h0
 rw [if_neg (by show ¬ ((keep h.units h.on).map fun _=>true).length ≠ (keep h.units h.on).length; simp)];exact h0
theorem zWt {α:Type} (g:Bool->Int->St->α) (bid:Bool) (i:Nat) (bus:Int):∀ (k:Nat) (l:List St),(stepVars bid i bus k l).map (fun v=>g v.bid v.bus v.s)=l.map (g bid bus)
 | _,[]=>rfl
 | k,s :: l=>by simp only [stepVars,List.map_cons,zWt g bid i bus (k+1) l]
theorem zZQ {α:Type} (g:Bool->Int->St->α):∀ (i:Nat) (us:List Un) (os:List Bool),(unitVars i us os).map (fun v=>g v.bid v.bus v.s)=(keep us os).flatMap fun u=>u.steps.map (g false u.bus)
 | _,[],_=>rfl
 | _,_ :: _,[]=>rfl
 | i,u :: us,o :: os=>by
  unfold unitVars keep;rw [List.map_append,zZQ g (i+1) us os]
  cases o with
  | true=>rw [if_pos rfl,if_pos rfl,zWt,List.flatMap_cons]
  | false=>rw [if_neg (by decide),if_neg (by decide)]; rfl
theorem zZR {α:Type} (h:Hr) (g:Bool->Int->St->α):(vars (less h)).map (fun v=>g v.bid v.bus v.s)=(vars h).map fun v=>g v.bid v.bus v.s:=by
 unfold vars;rw [List.map_append,List.map_append,zZQ,zZQ];have e:keep (less h).units (less h).on=keep h.units h.on:=zYh _;rw [e]; rfl
def blocks (a:Nat):List Un->Nat->List (List Rat × Rat)
 | [],_=>[]
 | u :: us,b=>(List.replicate a 0++List.replicate u.steps.length (-1)++List.replicate ((us.map fun u=>u.steps.length).sum+b) 0,((-u.min:Int):Rat)) :: blocks (a+u.steps.length) us b
theorem zT9 (bid:Bool) (i:Nat) (bus:Int):∀ (k:Nat) (l:List St),(stepVars bid i bus k l).length=l.length
 | _,[]=>rfl
 | k,s :: l=>by simp only [stepVars,List.length_cons,zT9 bid i bus (k+1) l]
theorem zZL {bid:Bool} {i:Nat} {bus:Int}:∀ {k:Nat} {l:List St} {v:Vr},v ∈ stepVars bid i bus k l->v.bid=bid/\v.which=i
 | _,[],_,h=>by cases h
 | k,s :: l,v,h=>by
  rcases List.mem_cons.1 h with rfl | h
  ·exact ⟨rfl,rfl⟩
  ·exact zZL h
theorem zZU:∀ {i:Nat} {us:List Un} {os:List Bool} {v:Vr},v ∈ unitVars i us os->v.bid=false/\i<=v.which
 | _,[],_,_,h=>by cases h
 | _,_ :: _,[],_,h=>by cases h
 | i,u :: us,o :: os,v,h=>by
  unfold unitVars at h;rcases List.mem_append.1 h with h | h
  ·split at h
   ·have:=zZL h; exact ⟨this.1,by omega⟩
   ·cases h
  ·have:=zZU h; exact ⟨this.1,by omega⟩
theorem zZT:∀ (i:Nat) (us:List Un) (os:List Bool),(unitVars i us os).length=((keep us os).map fun u=>u.steps.length).sum
 | _,[],_=>rfl
 | _,_ :: _,[]=>rfl
 | i,u :: us,o :: os=>by
  unfold unitVars keep;rw [List.length_append,zZT (i+1) us os]
  cases o with
  | true=>rw [if_pos rfl,if_pos rfl,zT9,List.map_cons,List.sum_cons]
  | false=>rw [if_neg (by decide),if_neg (by decide)]; simp
theorem zZO {i:Nat}:∀ {vs:List Vr},(∀ v ∈ vs,v.bid=true\/v.which ≠ i)->minRow vs i=List.replicate vs.length 0
 | [],_=>rfl
 | v :: vs,h=>by
  show (if v.bid=true\/v.which ≠ i then (0:Rat) else -1) :: minRow vs i=_;rw [if_pos (h v List.mem_cons_self),zZO fun u hu=>h u (List.mem_cons_of_mem _ hu)]; rfl
theorem zZW {i:Nat}:∀ {vs:List Vr},(∀ v ∈ vs,v.bid=false/\v.which=i)->minRow vs i=List.replicate vs.length (-1)
 | [],_=>rfl
 | v :: vs,h=>by
  obtain ⟨h1,h2⟩:=h v List.mem_cons_self;show (if v.bid=true\/v.which ≠ i then (0:Rat) else -1) :: minRow vs i=_;rw [if_neg (by rw [h1,h2]; simp),zZW fun u hu=>h u (List.mem_cons_of_mem _ hu)]; rfl
theorem zZN (vs ws:List Vr) (i:Nat):minRow (vs++ws) i=minRow vs i++minRow ws i:=List.map_append ..
theorem zZM:∀ (us:List Un) (os:List Bool) (i:Nat) (pre post:List Vr),(∀ v ∈ pre,v.bid=true\/v.which<i)->(∀ v ∈ post,v.bid=true)->
  minRows (pre++(unitVars i us os++post)) i us os=blocks pre.length (keep us os) post.length
 | [],_,_,_,_,_,_=>rfl
 | _ :: _,[],_,_,_,_,_=>rfl
 | u :: us,o :: os,i,pre,post,h1,h2=>by
  unfold minRows unitVars keep
  cases o with
  | false=>
   simp only [Bool.false_eq_true,if_false,List.nil_append]
   exact zZM us os (i+1) pre post (fun v hv=>(h1 v hv).imp id fun h=>by omega) h2
  | true=>
   simp only [if_true,List.singleton_append]
   have h3:=zZM us os (i+1) (pre++stepVars false i u.bus 0 u.steps) post (fun v hv=>by
    rcases List.mem_append.1 hv with hv | hv
    ·exact (h1 v hv).imp id fun h=>by omega
    ·have:=zZL hv; exact .inr (by omega)) h2
   have e:pre++(stepVars false i u.bus 0 u.steps++unitVars (i+1) us os++post)=(pre++stepVars false i u.bus 0 u.steps)++(unitVars (i+1) us os++post):=by simp
   rw [e,h3,zZN,zZN,zZN,zZO fun v hv=>(h1 v hv).imp id fun h=>by omega,zZW fun v hv=>zZL hv,
    zZO (vs:=unitVars (i+1) us os) fun v hv=>.inr (by have:=zZU hv; omega),zZO (vs:=post) fun v hv=>.inl (h2 v hv),zT9,zZT,List.length_append,zT9]
   rw [List.replicate_append_replicate];rfl
theorem zZV:∀ {i:Nat} {bs:List Bd} {v:Vr},v ∈ bidVars i bs->v.bid=true
 | _,[],_,h=>by cases h
 | i,b :: bs,v,h=>by
  unfold bidVars at h;rcases List.mem_append.1 h with h | h
  ·exact (zZL h).1
  ·exact zZV h
theorem zZS (h:Hr):minRows (vars h) 0 h.units h.on=blocks 0 (keep h.units h.on) (bidVars 0 h.bids).length:=
 zZM h.units h.on 0 [] (bidVars 0 h.bids) (fun v hv=>by cases hv) fun v hv=>zZV hv
theorem yAb (h:Hr):minRows (vars (less h)) 0 (less h).units (less h).on=minRows (vars h) 0 h.units h.on:=by
 rw [zZS,zZS,show keep (less h).units (less h).on=keep h.units h.on from zYh _]; rfl
theorem zZZ (h:Hr):(vars (less h)).length=(vars h).length:=by
 have:=congrArg List.length (zZR h fun _ _ _=>());simpa using this
theorem yAc (h:Hr):obj (vars (less h))=obj (vars h):=zZR h fun b _ s=>((-(if b then -1 else 1)*s.p:Int):Rat)
theorem yAa (h:Hr) (n:Nat):islRow (less h) (vars (less h)) n=islRow h (vars h) n:=zZR h fun b bus _=>if (isl h).getD bus.toNat 0=n then ((-(if b then -1 else 1):Int):Rat) else 0
theorem zZ3 (h:Hr) (m:Gj.Mt) (k:Nat):flowRow (less h) m (vars (less h)) k=flowRow h m (vars h) k:=zZR h fun b bus _=>((if b then -1 else 1:Int):Rat)*factor h.lines (ins h) m k bus.toNat
theorem zZ8 (h:Hr):capRows (vars (less h))=capRows (vars h):=by
 unfold capRows;rw [zZZ];refine List.map_congr_left fun k hk=>?_
 have hk':k<(vars h).length:=List.mem_range.1 hk;have e:=congrArg (fun l:List Int=>l.getD k 0) (zZR h fun _ _ s=>s.q);simp only [gdd,List.getElem?_map] at e ⊢;rw [gge hk',gge (by rw [zZZ]; exact hk')] at e ⊢;simp only [Option.map_some,Option.getD_some] at e ⊢;rw [e]
theorem zZ4 (h:Hr) (m:Gj.Mt):rows (less h) m=rows h m:=by
 unfold rows;rw [yAb,zZ8];have e1:(fun n=>both (islRow (less h) (vars (less h)) n) 0)=fun n=>both (islRow h (vars h) n) 0:=by funext n; rw [yAa]
 have e2:(fun k=>both (flowRow (less h) m (vars (less h)) k) ((((less h).lines.getD k ⟨0,0,0,0⟩).c:Int):Rat))=fun k=>both (flowRow h m (vars h) k) (((h.lines.getD k ⟨0,0,0,0⟩).c:Int):Rat):=by funext k; rw [zZ3]; rfl
 rw [e1,e2];rfl
theorem zZ9 (h:Hr):inv (less h)=inv h:=rfl
end Mo
end Go.Proofs.YtjancagcmghfjaaGreat
