/- Texts MpM of this claim. -/
import Derived.Test.YtjancagcmghfjaaGreatX11
set_option maxHeartbeats 4000000
namespace Go.Proofs.YtjancagcmghfjaaGreat
namespace Mo
theorem zUo {α:Type} {l:List α} {k:Nat} (d:α) (h:k<l.length):l.drop k=l.getD k d :: l.drop (k+1):=by
 rw [List.drop_eq_getElem_cons h,gdd,gge h]; rfl
theorem zUx {α:Type} {l:List α} {k:Nat} (d:α) (h:k<l.length):l.take (k+1)=l.take k++[l.getD k d]:=by
 rw [List.take_succ_eq_append_getElem h,gdd,gge h]; rfl
abbrev st0:St:=⟨0,0⟩
def prev (l:List St):Nat->Option Int
 | 0=>none
 | k+1=>some (l.getD k st0).p
abbrev StBad (s:St):Prop:=s.q<1\/1000000<s.q\/s.p < -1000000\/1000000<s.p
theorem zYA {up:Bool} {l:List St} {k:Nat} (h:k<l.length) (hb:StBad (l.getD k st0)):chk up (prev l k) (l.drop k)=1:=by
 rw [zUo st0 h]; unfold chk; exact if_pos hb
theorem zX7 {up:Bool} {l:List St} {k:Nat} (h:k<l.length) (hb:¬ StBad (l.getD k st0)) (hk:0<k) (hf:follows up (l.getD (k-1) st0).p (l.getD k st0).p=false):chk up (prev l k) (l.drop k)=3:=by
 rw [zUo st0 h]
 cases k with
 | zero=>omega
 | succ k=>
  unfold chk
  have hf':¬ follows up (l.getD k st0).p (l.getD (k+1) st0).p=true:=by
   rw [show l.getD k st0=l.getD (k+1-1) st0 by rfl,hf]; decide
  exact (if_neg hb).trans (if_neg hf')
theorem zX8 {up:Bool} {l:List St} {k:Nat} (h:k<l.length) (hb:¬ StBad (l.getD k st0)) (hf:0<k->follows up (l.getD (k-1) st0).p (l.getD k st0).p=true):chk up (prev l k) (l.drop k)=chk up (prev l (k+1)) (l.drop (k+1)):=by
 rw [zUo st0 h]
 cases k with
 | zero=>
  conv=>lhs; unfold chk
  exact if_neg hb
 | succ k=>
  conv=>lhs; unfold chk
  exact (if_neg hb).trans (if_pos (hf (by omega)))
theorem zYB {up:Bool} {l:List St}:chk up (prev l l.length) (l.drop l.length)=0:=by
 rw [List.drop_length]; unfold chk; rfl
theorem zWv (s:St):∀ l:List St,sumQ (l++[s])=sumQ l+s.q
 | []=>by simp [sumQ]
 | t :: l=>by rw [List.cons_append]; unfold sumQ; rw [zWv s l]; omega
theorem zXW:∀ {l:List St},(∀ s ∈ l,1<=s.q/\s.q<=1000000)->0<=sumQ l/\sumQ l<=1000000*l.length
 | [],_=>by simp [sumQ]
 | s :: l,h=>by
  have:=zXW (l:=l) fun t ht=>h t (List.mem_cons_of_mem _ ht)
  have:=h s List.mem_cons_self;unfold sumQ;rw [List.length_cons];omega
def prevO (l:List Int):Nat->Option Int
 | 0=>none
 | k+1=>some (l.getD k 0)
theorem zWY {n:Nat} {l:List Int} {k:Nat} (h:k<l.length) (h1:0<=l.getD k 0) (h2:l.getD k 0<n) (h3:0<k->l.getD (k-1) 0<l.getD k 0):outOk n (prevO l k) (l.drop k)=outOk n (prevO l (k+1)) (l.drop (k+1)):=by
 rw [zUo 0 h]
 cases k with
 | zero=>
  conv=>lhs; unfold outOk
  rw [decide_eq_true (show 0<=l.getD 0 0/\l.getD 0 0<(n:Int) from ⟨h1,h2⟩)]; rfl
 | succ k=>
  have:=h3 (by omega)
  conv=>lhs; unfold outOk
  have h4:l.getD k 0<l.getD (k+1) 0:=this;simp only [prevO,h1,h2,h4,and_self,decide_true,Bool.true_and]
theorem zWO {n:Nat} {l:List Int} {k:Nat} (h:k<l.length) (hb:l.getD k 0<0\/(n:Int)<=l.getD k 0\/(0<k/\l.getD k 0<=l.getD (k-1) 0)):outOk n (prevO l k) (l.drop k)=false:=by
 rw [zUo 0 h];unfold outOk;rcases hb with hb | hb | ⟨hk,hb⟩
 ·rw [show decide (0<=l.getD k 0/\l.getD k 0<(n:Int))=false from decide_eq_false (by omega)]; simp
 ·rw [show decide (0<=l.getD k 0/\l.getD k 0<(n:Int))=false from decide_eq_false (by omega)]; simp
 ·cases k with
  | zero=>omega
  | succ k=>
   have h4:¬ l.getD k 0<l.getD (k+1) 0:=by
    have:l.getD (k+1) 0<=l.getD k 0:=hb;omega
   simp only [prevO];rw [decide_eq_false h4]; simp
theorem zYJ {n:Nat} {l:List Int}:outOk n (prevO l l.length) (l.drop l.length)=true:=by
 rw [List.drop_length]; unfold outOk; rfl
theorem zUJ {buses:Int} {ls:List Ln} {out:List Int}:outErr buses ls out=0 ↔ netErr buses ls=0/\outOk ls.length none out=true:=by
 unfold outErr;by_cases h:netErr buses ls=0
 ·rw [if_neg (by omega)];by_cases h2:outOk ls.length none out=true
  ·rw [if_pos h2]; simp [h,h2]
  ·rw [if_neg h2]; simp [h2]
 ·rw [if_pos h]; simp [h]
def uoff (us:List Un) (os:List Bool) (i:Nat):Nat:=(unitVars 0 (us.take i) (os.take i)).length
abbrev u0:Un:=⟨0,0,[],0,0,0,0,0,0⟩
def uVars (us:List Un) (os:List Bool) (s i:Nat):List Vr:=if os.getD i false=true then stepVars false (s+i) (us.getD i u0).bus 0 (us.getD i u0).steps else []
theorem zUk:∀ (i s:Nat) (us:List Un) (os:List Bool),i<us.length->unitVars s (us.take (i+1)) (os.take (i+1))=unitVars s (us.take i) (os.take i)++uVars us os s i
 | _,_,[],_,h=>absurd h (Nat.not_lt_zero _)
 | i,s,u :: us,[],h=>by
  have e:∀ j l,unitVars s l (List.take j ([]:List Bool))=[]:=fun j l=>by rw [List.take_nil]; cases l <;> rfl
  rw [e,e];unfold uVars
  simp
 | 0,s,u :: us,o :: os,_=>by
  show (if o=true then stepVars false s u.bus 0 u.steps else [])++unitVars (s+1) (us.take 0) (os.take 0)=[]++_;unfold uVars;rw [List.take_zero,List.take_zero];show _++([]:List Vr)=[]++(if o=true then stepVars false (s+0) u.bus 0 u.steps else [])
  simp
 | i+1,s,u :: us,o :: os,h=>by
  have ih:=zUk i (s+1) us os (by simpa using h);show (if o=true then stepVars false s u.bus 0 u.steps else [])++unitVars (s+1) (us.take (i+1)) (os.take (i+1))=((if o=true then stepVars false s u.bus 0 u.steps else [])++unitVars (s+1) (us.take i) (os.take i))++_;rw [ih,List.append_assoc];unfold uVars;simp only [List.getD_cons_succ];rw [show s+1+i=s+(i+1) by omega]
theorem zU6 {us:List Un} {os:List Bool}:∀ {j:Nat} (i:Nat),i<=j->j<=us.length->∃ t,unitVars 0 (us.take j) (os.take j)=unitVars 0 (us.take i) (os.take i)++t
 | 0,i,h,_=>by
  obtain rfl:i=0:=by omega
  exact ⟨[],by simp⟩
 | j+1,i,h,hj=>by
  by_cases e:i=j+1
  ·subst e; exact ⟨[],by simp⟩
  ·obtain ⟨t,ht⟩:=zU6 i (show i<=j by omega) (by omega) (us:=us) (os:=os);exact ⟨t++uVars us os 0 j,by rw [zUk j 0 us os (by omega),ht,List.append_assoc]⟩
theorem zU5 (us:List Un) (os:List Bool):unitVars 0 (us.take us.length) (os.take us.length)=unitVars 0 us os:=by
 rw [List.take_length]
 have key:∀ (us:List Un) (os:List Bool) (s:Nat),unitVars s us (os.take us.length)=unitVars s us os:=by
  intro us
  induction us with
  | nil=>intro os s; cases os <;> rfl
  | cons u us ih=>
   intro os s
   cases os with
   | nil=>rfl
   | cons o os=>
    show _++unitVars (s+1) us (os.take us.length)=_++unitVars (s+1) us os;rw [ih]
 exact key us os 0
theorem zUB {bid:Bool} {i:Nat} {bus:Int}:∀ {k j:Nat} {l:List St},k<l.length->(stepVars bid i bus j l)[k]?=some ⟨bid,i,j+k,bus,l.getD k st0⟩
 | _,_,[],h=>absurd h (Nat.not_lt_zero _)
 | 0,j,s :: l,_=>rfl
 | k+1,j,s :: l,h=>by
  unfold stepVars;rw [List.getElem?_cons_succ,zUB (by simpa using h),List.getD_cons_succ,show j+1+k=j+(k+1) by omega]
theorem zX1 {us:List Un} {os:List Bool} {i:Nat} (h:i<us.length):uoff us os (i+1)=uoff us os i+if os.getD i false=true then (us.getD i u0).steps.length else 0:=by
 unfold uoff;rw [zUk i 0 us os h,List.length_append];unfold uVars
 split
 ·rw [zT9]
 ·rfl
theorem zYv (us:List Un) (os:List Bool):uoff us os us.length=(unitVars 0 us os).length:=by unfold uoff; rw [zU5]
theorem zX4 {h:Hr} {i k:Nat} (hi:i<h.units.length) (ho:h.on.getD i false=true) (hk:k<(h.units.getD i u0).steps.length) :
  (vars h)[uoff h.units h.on i+k]?=some ⟨false,i,k,(h.units.getD i u0).bus,(h.units.getD i u0).steps.getD k st0⟩:=by
 obtain ⟨t,ht⟩:=zU6 (us:=h.units) (os:=h.on) (i+1) (show i+1<=h.units.length by omega) (nlr _);rw [zU5,zUk i 0 _ _ hi] at ht;unfold vars uoff;rw [ht,List.append_assoc,List.append_assoc,List.getElem?_append_right (by omega),Nat.add_sub_cancel_left];unfold uVars;rw [if_pos ho,List.getElem?_append_left (by rw [zT9]; exact hk),zUB hk,Nat.zero_add,Nat.zero_add]
theorem zUq:∀ (s:Nat) (bs cs:List Bd),bidVars s (bs++cs)=bidVars s bs++bidVars (s+bs.length) cs
 | s,[],cs=>rfl
 | s,b :: bs,cs=>by
  show stepVars true s b.bus 0 b.steps++bidVars (s+1) (bs++cs)=(stepVars true s b.bus 0 b.steps++bidVars (s+1) bs)++_;rw [zUq (s+1) bs cs,List.append_assoc,List.length_cons,show s+1+bs.length=s+(bs.length+1) by omega]
def boff (h:Hr) (i:Nat):Nat:=(unitVars 0 h.units h.on).length+(bidVars 0 (h.bids.take i)).length
abbrev b0:Bd:=⟨0,[]⟩
theorem zXy {h:Hr} {i:Nat} (hi:i<h.bids.length):boff h (i+1)=boff h i+(h.bids.getD i b0).steps.length:=by
 unfold boff;rw [zUx b0 hi,zUq,List.length_append];show _+(_+(stepVars true _ _ 0 (h.bids.getD i b0).steps++[]).length)=_;rw [List.append_nil,zT9];omega
theorem zWd (h:Hr):boff h 0=uoff h.units h.on h.units.length:=by rw [zYv]; rfl
theorem zX5 (h:Hr):boff h h.bids.length=(vars h).length:=by
 unfold boff vars;rw [List.take_length,List.length_append]
theorem zYx {h:Hr} {i k:Nat} (hi:i<h.bids.length) (hk:k<(h.bids.getD i b0).steps.length) :
  (vars h)[boff h i+k]?=some ⟨true,i,k,(h.bids.getD i b0).bus,(h.bids.getD i b0).steps.getD k st0⟩:=by
 have e:h.bids=h.bids.take i++(h.bids.getD i b0 :: h.bids.drop (i+1)):=by rw [<-zUo b0 hi,List.take_append_drop]
 have e2:bidVars 0 h.bids=bidVars 0 (h.bids.take i)++(stepVars true i (h.bids.getD i b0).bus 0 (h.bids.getD i b0).steps++bidVars (i+1) (h.bids.drop (i+1))):=by
  conv=>lhs; rw [e]
  rw [zUq,Nat.zero_add,List.length_take,Nat.min_eq_left (by omega)];rfl
 unfold vars boff;rw [e2,Nat.add_assoc,List.getElem?_append_right (by omega),Nat.add_sub_cancel_left,List.getElem?_append_right (by omega),Nat.add_sub_cancel_left,List.getElem?_append_left (by rw [zT9]; exact hk),zUB hk,Nat.zero_add]
end Mo
end Go.Proofs.YtjancagcmghfjaaGreat
