/- Texts MoV MpYa MpX MpXb of this claim. -/
import Derived.Test.YtjancagcmghfjaaGreatX27
set_option maxHeartbeats 4000000
set_option maxRecDepth 40000
namespace Go.Proofs.YtjancagcmghfjaaGreat
namespace Mo
theorem zUK {bid:Bool} {i:Nat} {bus:Int}:∀ {k:Nat} {l:List St} {v:Vr},v ∈ stepVars bid i bus k l->v.bid=bid/\v.which=i/\v.bus=bus/\k<=v.step/\l[v.step-k]?=some v.s
 | _,[],_,h=>by cases h
 | k,s :: l,v,h=>by
  rcases List.mem_cons.1 h with rfl | h
  ·exact ⟨rfl,rfl,rfl,nlr _,by simp⟩
  ·obtain ⟨h1,h2,h3,h4,h5⟩:=zUK h;refine ⟨h1,h2,h3,by omega,?_⟩;rw [show v.step-k=(v.step-(k+1))+1 by omega,List.getElem?_cons_succ];exact h5
theorem zVt:∀ {i:Nat} {us:List Un} {os:List Bool} {v:Vr},v ∈ unitVars i us os->v.bid=false/\i<=v.which/\∃ u,us[v.which-i]?=some u/\v.bus=u.bus/\u.steps[v.step]?=some v.s
 | _,[],_,_,h=>by cases h
 | _,_ :: _,[],_,h=>by cases h
 | i,u :: us,o :: os,v,h=>by
  unfold unitVars at h;rcases List.mem_append.1 h with h | h
  ·split at h
   ·obtain ⟨h1,h2,h3,h4,h5⟩:=zUK h;exact ⟨h1,by omega,u,by rw [h2,Nat.sub_self]; rfl,h3,by rw [<-h5,Nat.sub_zero]⟩
   ·cases h
  ·obtain ⟨h1,h2,u',h3,h4⟩:=zVt h;exact ⟨h1,by omega,u',by rw [show v.which-i=(v.which-(i+1))+1 by omega,List.getElem?_cons_succ]; exact h3,h4⟩
theorem zVF:∀ {i:Nat} {bs:List Bd} {v:Vr},v ∈ bidVars i bs->v.bid=true/\i<=v.which/\∃ u,bs[v.which-i]?=some u/\v.bus=u.bus/\u.steps[v.step]?=some v.s
 | _,[],_,h=>by cases h
 | i,b :: bs,v,h=>by
  unfold bidVars at h;rcases List.mem_append.1 h with h | h
  ·obtain ⟨h1,h2,h3,h4,h5⟩:=zUK h;exact ⟨h1,by omega,b,by rw [h2,Nat.sub_self]; rfl,h3,by rw [<-h5,Nat.sub_zero]⟩
  ·obtain ⟨h1,h2,u',h3,h4⟩:=zVF h;exact ⟨h1,by omega,u',by rw [show v.which-i=(v.which-(i+1))+1 by omega,List.getElem?_cons_succ]; exact h3,h4⟩
theorem zYR {h:Hr} {v:Vr} (hv:v ∈ vars h):(v.bid=false/\v.which<h.units.length/\v.bus=(h.units.getD v.which ⟨0,0,[],0,0,0,0,0,0⟩).bus/\v.step<(h.units.getD v.which ⟨0,0,[],0,0,0,0,0,0⟩).steps.length/\v.s=(h.units.getD v.which ⟨0,0,[],0,0,0,0,0,0⟩).steps.getD v.step ⟨0,0⟩)\/
  (v.bid=true/\v.which<h.bids.length/\v.bus=(h.bids.getD v.which ⟨0,[]⟩).bus/\v.step<(h.bids.getD v.which ⟨0,[]⟩).steps.length/\v.s=(h.bids.getD v.which ⟨0,[]⟩).steps.getD v.step ⟨0,0⟩):=by
 unfold vars at hv;rcases List.mem_append.1 hv with hv | hv
 ·obtain ⟨h1,-,u,h2,h3,h4⟩:=zVt hv;rw [Nat.sub_zero] at h2;have eu:h.units.getD v.which ⟨0,0,[],0,0,0,0,0,0⟩=u:=by rw [gdd,h2]; rfl
  refine .inl ⟨h1,(List.getElem?_eq_some_iff.1 h2).1,?_,?_,?_⟩
  ·rw [gdd,h2]; exact h3
  ·rw [gdd,h2]; exact (List.getElem?_eq_some_iff.1 h4).1
  ·rw [eu,gdd,h4]; rfl
 ·obtain ⟨h1,-,u,h2,h3,h4⟩:=zVF hv;rw [Nat.sub_zero] at h2;have eu:h.bids.getD v.which ⟨0,[]⟩=u:=by rw [gdd,h2]; rfl
  refine .inr ⟨h1,(List.getElem?_eq_some_iff.1 h2).1,?_,?_,?_⟩
  ·rw [gdd,h2]; exact h3
  ·rw [gdd,h2]; exact (List.getElem?_eq_some_iff.1 h4).1
  ·rw [eu,gdd,h4]; rfl
end Mo
open Go.RowKit Go.Shelf Gj
namespace Mo
theorem zUQ (vs:List Vr) (f:Vr->Rat):(List.range vs.length).map (fun k=>f (vs.getD k vr0))=vs.map f:=by
 apply List.ext_getElem
 ·simp
 ·intro k h1 h2;rw [List.length_map] at h2;rw [List.getElem_map,List.getElem_range,List.getElem_map,gdd,gge h2]; rfl
theorem arr0 (a:Value):(#[a]++#[]:Array Value)=#[a]:=rfl
theorem arr1 (a b:Value):(#[a]++#[b]:Array Value)=#[a,b]:=rfl
theorem arr2 (a b c:Value):(#[a]++#[b,c]:Array Value)=#[a,b,c]:=rfl
theorem flat7 {α:Type} (f:α->List Value) (hf:∀ a,(f a).length=7) (l:List α) (k o:Nat) (hk:k<l.length) (ho:o<7):(l.flatMap f)[k*7+o]?=(f l[k])[o]?:=by
 induction l generalizing k with
 | nil=>simp at hk
 | cons q qs ih=>
  rw [List.flatMap_cons];have:=hf q
  cases k with
  | zero=>rw [List.getElem?_append_left (by omega)]; simp
  | succ k=>
   rw [List.getElem?_append_right (by omega)];have e:(k+1)*7+o-(f q).length=k*7+o:=(by omega);rw [e,ih k (by simpa using hk)];simp
theorem zYw:(Tryz.prog.info? 96).map (fun i=>(i.zero,i.size,i.bytes))=some (some (.agg #[.bool false,.int .i64 0,.int .i64 0,.int .i64 0,.int .i64 0,.int .i64 0,.int .i64 0]),7,56):=by kernel_rfl
theorem zVg (w:World) (v:Vr):∀ j u,(vrL v)[j]?=some u->(w.alloc (.cells #[.bool v.bid,.int .i64 (v.which:Int),.int .i64 (v.step:Int),.int .i64 v.bus,.int .i64 v.s.q,.int .i64 v.s.p,.int .i64 v.sign] 96)).cell? (Addr.add ⟨w,0,none⟩ j)=some u:=by
 intro j u h;rw [zA4,Nat.zero_add];have e:(w.alloc (.cells #[.bool v.bid,.int .i64 (v.which:Int),.int .i64 (v.step:Int),.int .i64 v.bus,.int .i64 v.s.q,.int .i64 v.s.p,.int .i64 v.sign] 96)).heap[w.heap.size]?=some (.cells #[.bool v.bid,.int .i64 (v.which:Int),.int .i64 (v.step:Int),.int .i64 v.bus,.int .i64 v.s.q,.int .i64 v.s.p,.int .i64 v.sign] 96 (0,0)):=zAd _ _ rfl;simp only [World.cell?,e]
 match j,h with
 | 0,h=>simpa [vrL] using h
 | 1,h=>simpa [vrL] using h
 | 2,h=>simpa [vrL] using h
 | 3,h=>simpa [vrL] using h
 | 4,h=>simpa [vrL] using h
 | 5,h=>simpa [vrL] using h
 | 6,h=>simpa [vrL] using h
 | j+7,h=>simp [vrL] at h
def AsmB (W:World) (d:Nat) (v:Value):Prop:=W.heap[d]?=some (.cells #[v,.int .i64 0,.slice none 0 0,.slice none 0 0,.slice none 0 0] 102 (0,0))
section
variable {W w1:World} {d:Nat} {v:Value}
theorem AsmB.lt (h:AsmB W d v):d<W.heap.size:=zAa h
theorem AsmB.cell (h:AsmB W d v):W.cell? d=some v:=by simp [World.cell?,show W.heap[d]?=_ from h]
theorem AsmB.frozen (h:AsmB W d v) (o:Nat):W.frozen? ⟨d,o,none⟩=false:=by simp [World.frozen?,show W.heap[d]?=_ from h]
end
theorem zWT {W w1:World} {n₀ d:Nat} {e:TypeId} {size:Nat} {v v':Value} {k m:Nat} {xs ys:List Value} {tmp:Obj} (hv:AsmB W d v) (hrow:W.ownsRow n₀ e size v k xs) (hc:d<n₀) (hn:n₀<=W.heap.size) (hown':w1.ownsRow n₀ e size v' m ys) (hgrow:(W.alloc tmp).grownBy w1 v.ownBlock) :
  AsmB w1 d v/\AsmB (w1.setCell d v') d v'/\(w1.setCell d v').ownsRow n₀ e size v' m ys/\KeepsOthers W (w1.setCell d v')/\(∀ b,b<n₀->b ≠ d->(w1.setCell d v').heap[b]?=W.heap[b]?)/\∀ B,B<=d->Below B W (w1.setCell d v'):=by
 have hdl:=hv.lt;have hv1:AsmB w1 d v:=(hgrow.block d (by simp; omega) fun e=>by have:=(zAc hrow e.symm).1; omega).trans ((Below.heap_alloc _ _ _ hdl).trans hv);have hnr:some d ≠ v'.ownBlock:=fun e=>by have:=(zAc hown' e.symm).1; omega
 refine ⟨hv1,?_,hown'.kept (grownBy_setCell' w1 d v') (.inr hnr.symm),?_,fun b hb hbc=>?_,fun B hB=>?_⟩
 ·show (w1.setCell d v').heap[d]?=_;rw [zAe _ hv1]; simp
 ·refine ((KeepsOthers.alloc W tmp).trans (KeepsOthers.of_grownBy hgrow fun j o ej hj=>?_)).trans (KeepsOthers.setCell _ _ _);obtain ⟨_,cs,hh⟩:=zAc (hrow.alloc tmp) ej;rw [hh] at hj; cases hj; rfl
 ·refine (bhs _ _ _ _ hbc).trans ((hgrow.block b (by simp; omega) fun e=>?_).trans (Below.heap_alloc _ _ _ (by omega)));have:=(zAc hrow e.symm).1;omega
 ·exact (((brf B W).alloc (by omega) tmp).grown hgrow (by simp; omega) fun j ej=>by have:=(zAc hrow ej).1; omega).setCell (p:=d) hB v'
def AsI {n:Nat} (w W0:World) (b d:Nat) (vs:List Vr) (pre:List (Fin n)) (W:World):Prop:=
 ∃ v,AsmB W d v/\W.ownsRow b 96 7 v pre.length (pre.flatMap fun i=>vrL (vs.getD i.val vr0))/\b<=W.heap.size/\Below w w W/\Carry (fun y=>y<b/\y ≠ d) W0 W
theorem AsI.own {n:Nat} {w W0:World} {b d B:Nat} {vs:List Vr} (hB:w.heap.size<=B):OwnFrom B (AsI (n:=n) w W0 b d vs):=fun s W W' row hs hg hr=>by
 obtain ⟨v,z,hown,hn,hb,hc⟩:=hs;exact ⟨v,zAi hg (fun r e=>(hr r e).2) z,zEp hg (fun r e=>(hr r e).2) hown,nlt hn hg.size,ownFrom_below (nlr _) hB s W W' row hb hg hr,hc.trans (Carry.grown hg (fun r e=>(hr r e).2))⟩
theorem zYo {n:Nat} {W:World} {B:Nat} {v:Value} {vs:List Vr} {ys:List (Fin n)} (h:W.ownsRow B 96 7 v ys.length (ys.flatMap fun i=>vrL (vs.getD i.val vr0))) (he:ys.map Fin.val=List.range vs.length) :
  ∃ t:SV,v=t.val/\VarsAt W (fun b=>B<=b) t vs:=by
 have hlen:ys.length=vs.length:=by have:=congrArg List.length he; simpa using this
 rcases h.2 with ⟨e,e2⟩ | ⟨g,cap,cur,e,h1,h2,h3,h4,h5,h6⟩
 ·have hl0:ys.length=0:=e2;exact ⟨⟨none,0,0⟩,by first | exact e | (rw [e2]; done) | exact e2,by show vs.length=0; omega,nlr _,nzl _,fun k hk=>absurd hk (Nat.not_lt_zero k)⟩
 ·refine ⟨⟨some ⟨g,0,none⟩,ys.length,cap⟩,e,hlen.symm,h3,by simpa [maxLen] using h4,fun k hk=>⟨_,rfl,?_⟩⟩;have hk':k<ys.length:=hk;subst e
  have hx:(ys[k]'hk').val=k:=by
   have e1:(ys.map Fin.val)[k]?=some k:=(by rw [he,List.getElem?_range (by omega)]);rw [List.getElem?_map,gge hk'] at e1;simpa using e1
  have key:∀ o u,o<7->(vrL (vs.getD k vr0))[o]?=some u->W.cell? ⟨g,k*7+o,none⟩=some u:=fun o u ho hu=>by
   have:=h.cells (g:=g) rfl (k*7+o) u (by rw [flat7 (fun i:Fin n=>vrL (vs.getD i.val vr0)) (fun _=>rfl) ys k o hk' ho,hx]; exact hu);rw [<-this,zA4,Nat.zero_add]
  have e0:(⟨g,0,none⟩:Addr).add (k*7)=⟨g,k*7,none⟩:=by rw [zA4,Nat.zero_add]
  rw [e0];exact ⟨h1,key 0 _ (by omega) rfl,key 1 _ (by omega) rfl,key 2 _ (by omega) rfl,key 3 _ (by omega) rfl,key 4 _ (by omega) rfl,key 5 _ (by omega) rfl,key 6 _ (by omega) rfl⟩
end Mo
namespace Mo
def minR (vs:List Vr) (us:List Un) (os:List Bool) (s i:Nat):List (List Rat × Rat):=if os.getD i false=true then [(minRow vs (s+i),((-(us.getD i u0).min:Int):Rat))] else []
theorem zU4 (vs:List Vr):∀ (i s:Nat) (us:List Un) (os:List Bool),i<us.length->minRows vs s (us.take (i+1)) (os.take (i+1))=minRows vs s (us.take i) (os.take i)++minR vs us os s i
 | _,_,[],_,h=>absurd h (Nat.not_lt_zero _)
 | i,s,u :: us,[],h=>by
  have e:∀ j l,minRows vs s l (List.take j ([]:List Bool))=[]:=fun j l=>by rw [List.take_nil]; cases l <;> rfl
  rw [e,e];unfold minR
  simp
 | 0,s,u :: us,o :: os,_=>by
  show (if o=true then [(minRow vs s,((-u.min:Int):Rat))] else [])++minRows vs (s+1) (us.take 0) (os.take 0)=[]++_;unfold minR;rw [List.take_zero,List.take_zero];show _++([]:List (List Rat × Rat))=[]++(if o=true then [(minRow vs (s+0),((-u.min:Int):Rat))] else [])
  simp
 | i+1,s,u :: us,o :: os,h=>by
  have ih:=zU4 vs i (s+1) us os (by simpa using h);show (if o=true then [(minRow vs s,((-u.min:Int):Rat))] else [])++minRows vs (s+1) (us.take (i+1)) (os.take (i+1))=((if o=true then [(minRow vs s,((-u.min:Int):Rat))] else [])++minRows vs (s+1) (us.take i) (os.take i))++_;rw [ih,List.append_assoc];unfold minR;simp only [List.getD_cons_succ];rw [show s+1+i=s+(i+1) by omega]
theorem zWN (vs:List Vr) (us:List Un) (os:List Bool) (h:os.length=us.length):minRows vs 0 (us.take us.length) (os.take us.length)=minRows vs 0 us os:=by
 rw [List.take_length,<-h,List.take_length]
theorem zUY (vs:List Vr):∀ (us:List Un) (os:List Bool) (s:Nat),(minRows vs s us os).length<=us.length
 | [],os,s=>by cases os <;> exact nzl _
 | u :: us,[],s=>nzl _
 | u :: us,o :: os,s=>by
  have:=zUY vs us os (s+1);show ((if o=true then [(minRow vs s,((-u.min:Int):Rat))] else [])++minRows vs (s+1) us os).length<=us.length+1;rw [List.length_append]
  split <;> simp <;> omega
structure AsC (w:World) (d:Nat) (x o:SV) (vs:List Vr) (m:List (List Rat)) (l:List Rat) (G G':Nat->Prop) (W:World):Prop where
 e:AsE d x o vs m l G' W
 f:Fr (fun y=>G y/\d<=y) w W
 m:More w G G'
section
variable {w W W':World} {d:Nat} {x o:SV} {vs:List Vr} {m m':List (List Rat)} {l l':List Rat} {G G' G2:Nat->Prop}
theorem AsC.refl (h:AsE d x o vs m l G w):AsC w d x o vs m l G G w:=⟨h,Fr.refl _ _,zUg _ _⟩
theorem AsC.call (h:AsC w d x o vs m l G G' W) (hb:Below W W W'):AsC w d x o vs m l G G' W':=⟨h.e.call hb,h.f.call hb,h.m⟩
theorem AsC.next (h:AsC w d x o vs m l G G' W) (he:AsE d x o vs m' l' G2 W') (hf:Fr (fun y=>G' y/\d<=y) W W') (hm:More W G' G2):AsC w d x o vs m' l' G G2 W':=⟨he,Fr.more h.f hf h.m.ge,More.trans h.m hm h.f.size⟩
theorem AsC.low (h:AsC w d x o vs m l G G' W) {w0:World} (h0:Below w0 w0 w) (hd:w0.heap.size<=d):Below w0 w0 W:=
 h0.trans (h.f.below h0.size fun y hy=>nlt hd hy.2)
end
def MnL (w:World) (d:Nat) (x o:SV) (vs:List Vr) (m:List (List Rat)) (l:List Rat) (G:Nat->Prop) (us:List Un) (os:List Bool) (n:Nat) (t:Value) (W:World):Prop:=
 ∃ (k:Nat) (G':Nat->Prop),k<=n/\t = .int .i64 (k:Int)/\AsC w d x o vs (m++(minRows vs 0 (us.take k) (os.take k)).map Prod.fst) (l++(minRows vs 0 (us.take k) (os.take k)).map Prod.snd) G G' W
theorem zWo {w w0:World} {d:Nat} {x o U N:SV} {vs:List Vr} {m:List (List Rat)} {l:List Rat} {G:Nat->Prop} {us:List Un} {os:List Bool} (h:AsE d x o vs m l G w) (h0:Below w0 w0 w) (hd:w0.heap.size<=d) (hu:UnitsAt w0 U us) (ho:OnAt w0 N os) (hl:os.length=us.length) (h5:us.length<=5) (hmn:∀ u ∈ us,0<=u.min/\u.min<=3000000) (hx:x.n<=1000) (hm:m.length<=5000) (hll:l.length<=5000) :
  Calls Tryz.prog 51 #[.pointer (some d),U.val,N.val] w fun e w'=>(∃ v,e = .returned v)/\∃ G',AsC w d x o vs (m++(minRows vs 0 us os).map Prod.fst) (l++(minRows vs 0 us os).map Prod.snd) G G' w':=by
 obtain ⟨uA,un,uc⟩:=U;obtain ⟨nA,nn,nc⟩:=N;have H:=hdq h;have HU:=hdq hu;have HO:=hdq ho;have HUn:Hid (us.length=un):=hu.len;have hnn:un=nn:=by have h1:=hu.len; have h2:=ho.len; dsimp only at h1 h2; omega
 subst hnn;have un5:un<=5:=by have:=HUn.out; omega
 have ule:un<=uc:=hu.le;have ucap:uc<=9223372036854775807:=hu.cap;have nle:un<=nc:=ho.le;have ncap:nc<=9223372036854775807:=ho.cap;have HMn:=hdq hmn;have Hxn:Hid (x.n=vs.length):=hdq h.vars.len.symm;have HMl:Hid (∀ k,(minRows vs 0 (us.take k) (os.take k)).length<=5):=hdq fun k=>nlt (zUY vs _ _ _) (by rw [List.length_take]; omega)
 have HAl:=hdq (zWN vs us os hl);rw [HUn.out] at HAl;have H0:MnL w d x o vs m l G us os un (.int .i64 0) w:=⟨0,G,nzl _,rfl,by rw [List.take_zero,List.take_zero]; show AsC w d x o vs (m++[]) (l++[]) G G w; rw [List.append_nil,List.append_nil]; exact AsC.refl h⟩;clear h hu ho hmn hl h5;dsimp only [SV.val];go_enter Tryz.func51,Tryz.ntmps51
 go_wp2;go_loopw [10] (fun t W=>MnL w d x o vs m l G us os un t W) (fun t _=>un-(intOf t).toNat)
 case atStart=>exact H0
 case round=>
  clear H0;obtain ⟨k,G1,hk,rfl,hC⟩:=hrel;by_cases hlt:k<un
  ·have hki:(k:Int)<(un:Int):=(by omega);have hlu:k<us.length:=by rw [HUn.out]; exact hlt
   have hB:=hC.low h0 hd;obtain ⟨ad,e,st,q0,q1,q2,q3,q4,q5,q6,q7,q8,qs⟩:=(SlAt.map HU.out fun a x hx=>UnC.below hB hx).cell k hlt;dsimp only at e;subst e
   obtain ⟨na,e,p0⟩:=(show ∀ k,k<un->∃ ad,nA=some ad/\wr.cell? (ad.add k)=some (.bool (os.getD k false)) from fun k hk=>by
    obtain ⟨ad,e,hc⟩:=HO.out.cell k hk;exact ⟨ad,e,cellB hB hc⟩) k (by omega)
   subst e;have hmk:=HMn.out (us.getD k u0) (by rw [gdd,gge hlu]; exact List.getElem_mem hlu);have HN1:=hdq (zU4 vs k 0 us os hlu);unfold minR at HN1;have tq:=zAb q0;have tp:=zAb p0;have HC:=hdq hC;obtain ⟨stA,stn,stc⟩:=st;dsimp only at q2;obtain ⟨on,hon⟩:∃ on,on=os.getD k false:=⟨_,rfl⟩;rw [<-hon] at p0 HN1;clear hon qs hB hC;generalize us.getD k u0=u at *;obtain ⟨bus,mn,steps,up,down,start,idle,spin,uon⟩:=u;dsimp only at q0 q1 q3 q4 q5 q6 q7 q8 hmk HN1
   cases on with
   | false=>
    have HN:Hid (MnL w d x o vs m l G us os un (.int .i64 ((k:Int)+1)) ((wr.alloc (.cells #[.int .i64 (k:Int)] 3)).alloc (.cells #[.int .i64 bus,.int .i64 mn,.slice stA stn stc,.int .i64 up,.int .i64 down,.int .i64 start,.int .i64 idle,.int .i64 spin,.int .i64 uon] 45))):=⟨k+1,G1,by omega,by simp,by
     rw [HN1.out,if_neg (by decide),List.append_nil];exact HC.out.call ((bal).alloc (by simp) _)⟩
    clear HC HN1;go_wp2;go_roundw;case rel=>first | exact HN.out | ((repeat apply Exists.intro); exact ⟨HN.out,rfl⟩)
    case measure=>simp [intOf]; omega
   | true=>
    rw [if_pos rfl,Nat.zero_add] at HN1;(go_upto_region 4 with fail);have hneg:IntKind.i64.wrap (-mn)=-mn:=IntWalk.i64_in _ (by omega)
    refine zAo (fun W=>Below wr wr W/\W.cell? wr=some (.int .i64 (k:Int))/\W.cell? ⟨wr.heap.size+1,1,none⟩=some (.int .i64 mn)/\wr.heap.size+1<W.heap.size)
     ⟨(bal).alloc (by simp) _,by go_simp,by go_simp,by simp⟩ ?_
    clear q0 q1 q2 q3 q4 q5 q6 q7 q8 p0;rintro W ⟨hbW,b0,b1,s1⟩;have HC1:=hdq (HC.out.call (hbW.drew));have HSz:=hdq (HC.out.e.gin);clear HC;have hWd:W.drew.cell? ⟨wr.heap.size+1,1,none⟩=some (.int .i64 mn):=b1;have b0d:W.drew.cell? wr=some (.int .i64 (k:Int)):=b0;have s1d:wr.heap.size+1<W.drew.heap.size:=s1;refine zAp 1000 (fun _ w'=>w'.cell? ⟨wr.heap.size+1,1,none⟩=some (.int .i64 mn)) (by kernel_rfl) ?_;refine tx4 0 1 2 4 hWd ?_;refine tkE 5 (.int .i64 mn) (fun w' hSw=>?_) (hWd) ?_
    ·(obtain ⟨_,hSw⟩:=hSw; go_simp; try with_reducible rfl)
    simp only [zz];refine tx1 6 hWd ?_;refine tk1 3 ?_;intro K hK;go_simp
    have hm1:∀ (W':World) (j:Nat),Below W.drew.heap.size W.drew W'->j<x.n->Calls Tryz.prog 101 (#[vrVal (vs.getD j vr0)]++#[.pointer (some wr)]) W' fun e W''=>QRet W' (if (vs.getD j vr0).bid=true\/(vs.getD j vr0).which ≠ k then 0 else -1) e W''/\Below W' W' W'':=fun W' j hb _=>by
     rw [arr1];exact zXl ((hb.cell (p:=wr) (by show wr.heap.size<_; omega)).trans b0d)
    have hc0:=HC1.out.e.cell0;have hcv:=HC1.out.e.vars;have hrow:=row_calls (fn:=101) (g:=fun j=>if (vs.getD j vr0).bid=true\/(vs.getD j vr0).which ≠ k then 0 else -1) hc0 hcv hx (fun _ _=>rfl) hm1;refine hrow.mono ?_;rintro e w5 ⟨⟨rb,rfl,hrb,hv⟩,h5⟩
    have hr:(List.range x.n).map (fun j=>if (vs.getD j vr0).bid=true\/(vs.getD j vr0).which ≠ k then (0:Rat) else -1)=minRow vs k:=by
     rw [Hxn.out]; exact zUQ vs fun v=>if v.bid=true\/v.which ≠ k then 0 else -1
    rw [hr] at hv;have HC5:=HC1.out.call h5;have hv5:VecCan w5 (fun y=>¬ G1 y) (fun y=>¬ G1 y) ⟨some ⟨rb,0,none⟩,x.n,x.n⟩ (minRow vs k):=hv.imp (fun y _ hy hG=>by have:=HC1.out.e.gin y hG; simp only [New] at hy; omega) fun _ _ hq=>hq.imp fun y _ hy hG=>by have:=HC1.out.e.gin y hG; simp only [New] at hy; omega
    refine hK.out _ _ ((h5.cell (by show wr.heap.size+1<_; omega)).trans hWd) ?_;clear hK K;refine tk1 7 ?_;intro K hK;go_simp;have hkl:=HMl.out k;have hl1:(m++List.map Prod.fst (minRows vs 0 (List.take k us) (List.take k os))).length<=10000:=by rw [List.length_append,List.length_map]; omega
    have hl2:(l++List.map Prod.snd (minRows vs 0 (List.take k us) (List.take k os))).length<=10000:=by rw [List.length_append,List.length_map]; omega
    have HAd:=zUM (s:=⟨some ⟨rb,0,none⟩,x.n,x.n⟩) (z:=-mn) HC5.e hv5 hl1 hl2 (by omega) (by omega);dsimp only [SV.val] at HAd;refine HAd.mono ?_;rintro e w6 ⟨⟨v6,rfl⟩,G2,hA2,hF2,hM2⟩;have hc6:=(hF2.cell (p:=⟨wr.heap.size+1,1,none⟩) (ltl s1d h5.size) (fun e=>by have:=HSz.out _ e.1; dsimp only at this; omega)).trans ((h5.cell (by show wr.heap.size+1<_; omega)).trans hWd);refine hK.out _ _ hc6 ?_;clear hK K;refine zAf (by kernel_rfl) ?_ _
    have HN:Hid (MnL w d x o vs m l G us os un (.int .i64 ((k:Int)+1)) w6):=⟨k+1,G2,by omega,by simp,by
     rw [HN1.out,List.map_append,List.map_append,<-List.append_assoc,<-List.append_assoc];exact HC5.next hA2 hF2 hM2⟩
    clear HC1 HC5 hv hv5 hA2 hF2 hM2 hc6 HN1 HSz;go_wp2;go_roundw;case rel=>first | exact HN.out | ((repeat apply Exists.intro); exact ⟨HN.out,rfl⟩)
    case measure=>simp [intOf]; omega
  ·(obtain rfl:k=un:=by omega);rw [HAl.out] at hC;have HN:=hdq hC;clear hC;go_wp2;go_end0;exact ⟨⟨_,rfl⟩,_,HN.out⟩
end Mo
namespace Mo
def capAt (vs:List Vr) (k:Nat):List Rat × Rat:=(capRow vs.length k,(((vs.getD k vr0).s.q:Int):Rat))
theorem zW9 (vs:List Vr):(List.range vs.length).map (capAt vs)=capRows vs:=rfl
theorem zX6 (n k:Nat) (hk:k<n):(List.replicate n (0:Rat)).set k 1=capRow n k:=zW5 n k hk
def CpL (w:World) (d:Nat) (x o:SV) (vs:List Vr) (m:List (List Rat)) (l:List Rat) (G:Nat->Prop) (n:Nat) (t:Value) (W:World):Prop:=
 ∃ (k:Nat) (G':Nat->Prop),k<=n/\t = .int .i64 (k:Int)/\AsC w d x o vs (m++((List.range k).map (capAt vs)).map Prod.fst) (l++((List.range k).map (capAt vs)).map Prod.snd) G G' W
theorem zU7 {w:World} {d:Nat} {x o:SV} {vs:List Vr} {m:List (List Rat)} {l:List Rat} {G:Nat->Prop} (h:AsE d x o vs m l G w) (hq:∀ v ∈ vs,0<=v.s.q/\v.s.q<=1000000) (hx:x.n<=1000) (hm:m.length<=5000) (hll:l.length<=5000) :
  Calls Tryz.prog 52 #[.pointer (some d)] w fun e w'=>(∃ v,e = .returned v)/\∃ G',AsC w d x o vs (m++(capRows vs).map Prod.fst) (l++(capRows vs).map Prod.snd) G G' w':=by
 obtain ⟨xA,n,xc⟩:=x;dsimp only at hx;have hxn:vs.length=n:=h.vars.len;have HQ:=hdq hq;have hle:n<=xc:=h.vars.le;have hcap:xc<=9223372036854775807:=h.vars.cap;have hmq:=zBZ n (by omega);have H0:CpL w d ⟨xA,n,xc⟩ o vs m l G n (.int .i64 0) w:=⟨0,G,nzl _,rfl,by show AsC w d _ o vs (m++[]) (l++[]) G G w; rw [List.append_nil,List.append_nil]; exact AsC.refl h⟩;have c0:=h.cell0;dsimp only at c0;have hdl:=zAb c0;dsimp only at hdl;clear h hq;go_enter Tryz.func52,Tryz.ntmps52
 go_wp2;clear c0 hdl;go_loopw [10] (fun t W=>CpL w d ⟨xA,n,xc⟩ o vs m l G n t W) (fun t _=>n-(intOf t).toNat)
 case atStart=>exact H0
 case round=>
  clear H0;obtain ⟨k,G1,hk,rfl,hC⟩:=hrel;by_cases hlk:k<n
  ·have hkk:(k:Int)<(n:Int):=(by omega);have c0:=hC.e.cell0;dsimp only at c0;have hdl:=zAb c0;dsimp only at hdl;obtain ⟨ad,e,hG0,q0,q1,q2,q3,q4,q5,q6⟩:=hC.e.vars.cell k hlk;dsimp only at e;subst e;have tq:=zAb q0;have hqk:=HQ.out (vs.getD k vr0) (by rw [gdd,gge (by rw [hxn]; exact hlk)]; exact List.getElem_mem (by rw [hxn]; exact hlk));have HN1:Hid ((List.range (k+1)).map (capAt vs)=(List.range k).map (capAt vs)++[(capRow n k,(((vs.getD k vr0).s.q:Int):Rat))]):=hdq (by rw [List.range_succ,List.map_append]; unfold capAt; rw [hxn]; rfl);have HC:=hdq hC;have HGi:=hdq hC.e.gin;clear hC;generalize vs.getD k vr0=v at *;obtain ⟨bid,which,step,bus,⟨q,p⟩⟩:=v;dsimp only at q0 q1 q2 q3 q4 q5 q6 hqk HN1;generalize Vr.sign ⟨bid,which,step,bus,⟨q,p⟩⟩=sg at *;have HbA:Hid (Below wr wr ((wr.alloc (.cells #[.bool bid,.int .i64 (which:Int),.int .i64 (step:Int),.int .i64 bus,.int .i64 q,.int .i64 p,.int .i64 sg] 96)).alloc (.cells (zeroQ n) 80))):=hdq ((bal).alloc (by simp) _);have HR0:=hdq (RowAt.made (wr.alloc (.cells #[.bool bid,.int .i64 (which:Int),.int .i64 (step:Int),.int .i64 bus,.int .i64 q,.int .i64 p,.int .i64 sg] 96)) n (fun y=>y<wr.heap.size+1\/y=wr.heap.size+1) (.inr (by simp)));have hsz:(wr.alloc (.cells #[.bool bid,.int .i64 (which:Int),.int .i64 (step:Int),.int .i64 bus,.int .i64 q,.int .i64 p,.int .i64 sg] 96)).heap.size=wr.heap.size+1:=(by simp);rw [hsz] at HR0;clear hsz;(go_wp2_with fail);refine (zAN 1 (by omega) (by omega) _).mono ?_;rintro e w5 ⟨⟨z,rfl,hz⟩,h5⟩;rw [show (((1:Int):Rat))=1 from rfl] at hz;have h5a:=HbA.out.trans (h5.mono HbA.out.size);have hR5:=HR0.out.below h5;obtain ⟨zv,⟨d0,d1,d2,d3⟩,-⟩:=hR5.elem k (by rw [List.length_replicate]; omega);have fz:=hR5.frozen;have hRl:=hR5.lt;dsimp only at d1 d2 d3;have b4:w5.cell? ⟨wr.heap.size,4,none⟩=some (.int .i64 q):=(h5.cell (by simp <;> omega)).trans (by go_simp);have HC5:=hdq (HC.out.call (zBq h5a (show wr.heap.size<=wr.heap.size+1 by omega) k z));have hR6:=hR5.put4 (k:=k) (by rw [List.length_replicate]; exact hlk) (hz.imp fun y _ hy=>by simp only [New] at hy; have:=HbA.out.size; simp at hy; omega);rw [zX6 n k hlk] at hR6;have hcl:(capRow n k).length=n:=by unfold capRow; simp
   have hv:=hR6.vec (by rw [hcl]; omega) n (by rw [hcl]; exact nlr _) (by omega);rw [hcl] at hv;have HV:=hdq (hv.imp (X':=fun y=>¬ G1 y) (R':=QCan _ fun y=>¬ G1 y) (fun y _ hy hG=>by subst hy; have:=HGi.out _ hG; omega) fun _ _ hq=>hq.imp fun y _ hy hG=>hy (.inl (by have:=HGi.out y hG; omega)));clear hz hR5 hR6 hv h5 h5a HbA HR0 q0 q1 q2 q3 q4 q5 q6 tq c0 hdl HC;go_upto_region 5 with fail
   refine zAo (fun W=>AsC w d ⟨some ad,n,xc⟩ o vs (m++((List.range k).map (capAt vs)).map Prod.fst) (l++((List.range k).map (capAt vs)).map Prod.snd) G G1 W/\VecCan W (fun y=>¬ G1 y) (fun y=>¬ G1 y) ⟨some ⟨wr+1,0,none⟩,n,n⟩ (capRow n k)/\W.cell? ⟨wr.heap.size,4,none⟩=some (.int .i64 q)/\wr.heap.size<W.heap.size)
    ⟨HC5.out,HV.out,by go_simp,by simp [World.setCell]; omega⟩ ?_
   clear HC5 HV b4 d0 d1 d2 d3 fz hRl;rintro W ⟨hC5,hv5,b4,s5⟩;have HA:=hdq (zUM (z:=q) hC5.e hv5 (by rw [List.length_append,List.length_map,List.length_map,List.length_range]; omega) (by rw [List.length_append,List.length_map,List.length_map,List.length_range]; omega) (by omega) (by omega));have HC:=hdq hC5;clear hC5 hv5;dsimp only [SV.val] at HA;(go_wp2_with fail);refine HA.out.mono ?_;rintro e w6 ⟨⟨v6,rfl⟩,G2,hA2,hF2,hM2⟩
   have HN:Hid (CpL w d ⟨some ad,n,xc⟩ o vs m l G n (.int .i64 ((k:Int)+1)) w6):=⟨k+1,G2,by omega,by simp,by
    rw [HN1.out,List.map_append,List.map_append,<-List.append_assoc,<-List.append_assoc];exact HC.out.next hA2 hF2 hM2⟩
   clear HC hA2 hF2 hM2 HN1 HA HGi;go_wp2;go_roundw;case rel=>first | exact HN.out | ((repeat apply Exists.intro); exact ⟨HN.out,rfl⟩)
   case measure=>simp [intOf]; omega
  ·(obtain rfl:k=n:=by omega);rw [show (List.range k).map (capAt vs)=capRows vs from by rw [<-hxn]; exact zW9 vs] at hC;have HN:=hdq hC;clear hC;go_wp2;go_end0;exact ⟨⟨_,rfl⟩,_,HN.out⟩
end Mo
end Go.Proofs.YtjancagcmghfjaaGreat
