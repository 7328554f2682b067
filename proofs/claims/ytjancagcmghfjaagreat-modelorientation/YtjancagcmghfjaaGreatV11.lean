/- Texts MoB of this claim. -/
import Derived.Test.YtjancagcmghfjaaGreatV09
set_option maxHeartbeats 4000000
namespace Go.Proofs.YtjancagcmghfjaaGreat
namespace Mo
def keep:List Un->List Bool->List Un
 | u :: us,o :: os=>if o then u :: keep us os else keep us os
 | _,_=>[]
theorem zYh:∀ us:List Un,keep us (us.map fun _=>true)=us
 | []=>rfl
 | u :: us=>by show (if true=true then _ else _)=_; rw [if_pos rfl,zYh us]
theorem zVx {buses:Int}:∀ {us:List Un},unitsErr buses us=0 ↔ ∀ u ∈ us,unitErr u buses=0
 | []=>by simp [unitsErr]
 | u :: us=>by
  unfold unitsErr;by_cases e:unitErr u buses=0
  ·rw [if_neg (by simpa using e),zVx];simp [e]
  ·rw [if_pos e];constructor
   ·intro h; exact absurd h e
   ·intro h; exact absurd (h u List.mem_cons_self) e
theorem zWt {α:Type} (g:Bool->Int->St->α) (bid:Bool) (i:Nat) (bus:Int):∀ (k:Nat) (l:List St),(stepVars bid i bus k l).map (fun v=>g v.bid v.bus v.s)=l.map (g bid bus)
 | _,[]=>rfl
 | k,s :: l=>by simp only [stepVars,List.map_cons,zWt g bid i bus (k+1) l]
theorem zT9 (bid:Bool) (i:Nat) (bus:Int):∀ (k:Nat) (l:List St),(stepVars bid i bus k l).length=l.length
 | _,[]=>rfl
 | k,s :: l=>by simp only [stepVars,List.length_cons,zT9 bid i bus (k+1) l]
end Mo
end Go.Proofs.YtjancagcmghfjaaGreat
