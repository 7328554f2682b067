/- Texts MoA MoB of this claim. -/
import Derived.Test.YtjancagcmghfjaaGreatX09
set_option maxHeartbeats 4000000
namespace Go.Proofs.YtjancagcmghfjaaGreat
namespace Mo
structure Ln where
 f:Int
 t:Int
 x:Int
 c:Int
structure St where
 q:Int
 p:Int
structure Un where
 bus:Int
 min:Int
 steps:List St
 up:Int
 down:Int
 start:Int
 idle:Int
 spin:Int
 on:Int
structure Bd where
 bus:Int
 steps:List St
structure Hr where
 buses:Int
 lines:List Ln
 out:List Int
 units:List Un
 on:List Bool
 bids:List Bd
def follows (up:Bool) (p c:Int):Bool:=if up then decide (p<c) else decide (c<p)
def chk (up:Bool):Option Int->List St->Int
 | _,[]=>0
 | o,s :: l=>if s.q<1\/1000000<s.q\/s.p < -1000000\/1000000<s.p then 1 else
  match o with
  | none=>chk up (some s.p) l
  | some p=>if follows up p s.p=true then chk up (some s.p) l else 3
def stepErr (up:Bool) (l:List St):Int:=if l.length=0 then 4 else if 3<l.length then 5 else chk up none l
def sumQ:List St->Int
 | []=>0
 | s :: l=>s.q+sumQ l
def unitErr (u:Un) (buses:Int):Int:=
 if u.bus<0\/buses<=u.bus then 1 else
 if stepErr true u.steps ≠ 0 then stepErr true u.steps else
 if u.min<0\/sumQ u.steps<u.min then 1 else
 if u.up<1\/6<u.up\/u.down<1\/6<u.down then 1 else
 if u.start<0\/1000000000<u.start\/u.idle<0\/1000000000<u.idle then 1 else
 if u.spin<0\/1000000<u.spin then 1 else
 if u.on=0\/u.on < -6\/6<u.on then 1 else 0
def LnOk (buses:Int) (l:Ln):Prop:=0<=l.f/\l.f<buses/\0<=l.t/\l.t<buses/\l.f ≠ l.t/\1<=l.x/\l.x<=1000/\0<=l.c/\l.c<=1000000
instance (buses:Int) (l:Ln):Decidable (LnOk buses l):=by unfold LnOk; infer_instance
def netErr (buses:Int) (ls:List Ln):Int:=if buses<1\/6<buses then 1 else if 10<ls.length then 5 else if ∀ l ∈ ls,LnOk buses l then 0 else 1
def outOk (n:Nat):Option Int->List Int->Bool
 | _,[]=>true
 | o,k :: l=>decide (0<=k/\k<n) && (match o with | none=>true | some p=>decide (p<k)) && outOk n (some k) l
def outErr (buses:Int) (ls:List Ln) (out:List Int):Int:=if netErr buses ls ≠ 0 then netErr buses ls else if outOk ls.length none out=true then 0 else 1
def inS (n:Nat) (out:List Int):List Nat:=(List.range n).filter fun k=>!(out.contains (k:Int))
def upN (par:Nat->Nat):Nat->Nat->Nat
 | 0,b=>b
 | k+1,b=>if par b=b then b else upN par k (par b)
def join (n:Nat) (par:Nat->Nat) (l:Ln):Nat->Nat:=fun b=>
 if b=max (upN par n l.f.toNat) (upN par n l.t.toNat) then min (upN par n l.f.toNat) (upN par n l.t.toNat) else par b
def joins (n:Nat) (ls:List Ln) (ks:List Nat):Nat->Nat:=ks.foldl (fun par k=>join n par (ls.getD k ⟨0,0,0,0⟩)) id
def numb (n:Nat) (par:Nat->Nat):Nat->List Nat × Nat
 | 0=>([],0)
 | b+1=>let r:=numb n par b; if upN par n b=b then (r.1++[r.2],r.2+1) else (r.1++[r.1.getD (upN par n b) 0],r.2)
def refsGo:Nat->Nat->List Nat->List Nat
 | _,_,[]=>[]
 | b,c,i :: l=>if i=c then b :: refsGo (b+1) (c+1) l else refsGo (b+1) c l
def addAt (m:Gj.Mt) (i j:Nat) (q:Rat):Gj.Mt:=m.set i ((m.getD i []).set j (Gj.ent m i j+q))
def eqLine (m:Gj.Mt) (l:Ln):Gj.Mt:=
 let q:Rat:=1 / (l.x:Rat); let f:=l.f.toNat; let t:=l.t.toNat
 addAt (addAt (addAt (addAt m f f q) f t (-q)) t t q) t f (-q)
def zeroM (n:Nat):Gj.Mt:=(List.range n).map fun _=>(List.range n).map fun _=>0
def unitM (n:Nat):Gj.Mt:=(List.range n).map fun i=>(List.range n).map fun k=>if k=i then 1 else 0
def eqs (n:Nat) (ls:List Ln) (ks rf:List Nat):Gj.Mt:=rf.foldl (fun m b=>m.set b ((unitM n).getD b [])) (ks.foldl (fun m k=>eqLine m (ls.getD k ⟨0,0,0,0⟩)) (zeroM n))
def factor (ls:List Ln) (ks:List Nat) (inv:Gj.Mt) (k b:Nat):Rat:=
 let l:=ls.getD k ⟨0,0,0,0⟩
 if k ∈ ks then (Gj.ent inv l.f.toNat b-Gj.ent inv l.t.toNat b) / (l.x:Rat) else 0
structure Vr where
 bid:Bool
 which:Nat
 step:Nat
 bus:Int
 s:St
def Vr.sign (v:Vr):Int:=if v.bid then -1 else 1
def stepVars (bid:Bool) (i:Nat) (bus:Int):Nat->List St->List Vr
 | _,[]=>[]
 | k,s :: l=>⟨bid,i,k,bus,s⟩ :: stepVars bid i bus (k+1) l
def unitVars:Nat->List Un->List Bool->List Vr
 | i,u :: us,o :: os=>(if o then stepVars false i u.bus 0 u.steps else [])++unitVars (i+1) us os
 | _,_,_=>[]
def bidVars:Nat->List Bd->List Vr
 | _,[]=>[]
 | i,b :: bs=>stepVars true i b.bus 0 b.steps++bidVars (i+1) bs
def vars (h:Hr):List Vr:=unitVars 0 h.units h.on++bidVars 0 h.bids
def unitsErr (buses:Int):List Un->Int
 | []=>0
 | u :: us=>if unitErr u buses ≠ 0 then unitErr u buses else unitsErr buses us
def bidsErr (buses:Int):List Bd->Int
 | []=>0
 | b :: bs=>if b.bus<0\/buses<=b.bus then 1 else if stepErr false b.steps ≠ 0 then stepErr false b.steps else bidsErr buses bs
def hrErr (h:Hr):Int:=
 if outErr h.buses h.lines h.out ≠ 0 then outErr h.buses h.lines h.out else
 if 5<h.units.length\/6<h.bids.length then 5 else
 if unitsErr h.buses h.units ≠ 0 then unitsErr h.buses h.units else
 if h.on.length ≠ h.units.length then 3 else bidsErr h.buses h.bids
def ins (h:Hr):List Nat:=inS h.lines.length h.out
def par (h:Hr):Nat->Nat:=joins h.buses.toNat h.lines (ins h)
def isl (h:Hr):List Nat:=(numb h.buses.toNat (par h) h.buses.toNat).1
def refsOf (h:Hr):List Nat:=refsGo 0 0 (isl h)
def inv (h:Hr):Option Gj.Mt:=Gj.inverse (eqs h.buses.toNat h.lines (ins h) (refsOf h))
def neg (r:List Rat):List Rat:=r.map fun q=>-q
def obj (vs:List Vr):List Rat:=vs.map fun v=>((-v.sign*v.s.p:Int):Rat)
def islRow (h:Hr) (vs:List Vr) (n:Nat):List Rat:=vs.map fun v=>if (isl h).getD v.bus.toNat 0=n then ((-v.sign:Int):Rat) else 0
def flowRow (h:Hr) (m:Gj.Mt) (vs:List Vr) (k:Nat):List Rat:=vs.map fun v=>(v.sign:Rat)*factor h.lines (ins h) m k v.bus.toNat
def minRow (vs:List Vr) (i:Nat):List Rat:=vs.map fun v=>if v.bid=true\/v.which ≠ i then 0 else -1
def capRow (n k:Nat):List Rat:=(List.range n).map fun j=>if j=k then 1 else 0
def minRows (vs:List Vr):Nat->List Un->List Bool->List (List Rat × Rat)
 | i,u :: us,o :: os=>(if o then [(minRow vs i,((-u.min:Int):Rat))] else [])++minRows vs (i+1) us os
 | _,_,_=>[]
def capRows (vs:List Vr):List (List Rat × Rat):=(List.range vs.length).map fun k=>(capRow vs.length k,(((vs.getD k ⟨false,0,0,0,⟨0,0⟩⟩).s.q:Int):Rat))
def both (r:List Rat) (b:Rat):List (List Rat × Rat):=[(r,b),(neg r,b)]
def rows (h:Hr) (m:Gj.Mt):List (List Rat × Rat):=
 (List.range (refsOf h).length).flatMap (fun n=>both (islRow h (vars h) n) 0) ++
 (ins h).flatMap (fun k=>both (flowRow h m (vars h) k) ((h.lines.getD k ⟨0,0,0,0⟩).c:Rat)) ++
 minRows (vars h) 0 h.units h.on++capRows (vars h)
end Mo
namespace Mo
def keep:List Un->List Bool->List Un
 | u :: us,o :: os=>if o then u :: keep us os else keep us os
 | _,_=>[]
theorem zYh:∀ us:List Un,keep us (us.map fun _=>true)=us
 | []=>rfl
 | u :: us=>by show (if true=true then _ else _)=_; rw [if_pos rfl,zYh us]
theorem zVx {buses:Int}:∀ {us:List Un},unitsErr buses us=0 ↔ ∀ u ∈ us,unitErr u buses=0
 | []=>by simp [unitsErr]
 | u :: us=>by
  unfold unitsErr;by_cases e:unitErr u buses=0
  ·rw [if_neg (by simpa using e),zVx];simp [e]
  ·rw [if_pos e];constructor
   ·intro h; exact absurd h e
   ·intro h; exact absurd (h u List.mem_cons_self) e
theorem zWt {α:Type} (g:Bool->Int->St->α) (bid:Bool) (i:Nat) (bus:Int):∀ (k:Nat) (l:List St),(stepVars bid i bus k l).map (fun v=>g v.bid v.bus v.s)=l.map (g bid bus)
 | _,[]=>rfl
 | k,s :: l=>by simp only [stepVars,List.map_cons,zWt g bid i bus (k+1) l]
theorem zT9 (bid:Bool) (i:Nat) (bus:Int):∀ (k:Nat) (l:List St),(stepVars bid i bus k l).length=l.length
 | _,[]=>rfl
 | k,s :: l=>by simp only [stepVars,List.length_cons,zT9 bid i bus (k+1) l]
end Mo
end Go.Proofs.YtjancagcmghfjaaGreat
