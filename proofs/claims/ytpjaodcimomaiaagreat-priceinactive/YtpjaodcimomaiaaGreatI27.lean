/- Texts SeqV Head of this claim. -/
import Derived.Test.YtpjaodcimomaiaaGreatI04
set_option maxHeartbeats 4000000
namespace Go.Proofs.YtpjaodcimomaiaaGreat
open Go.RowKit
variable {W w:World} {L N n i ap e fuel:Nat}
def SeqV {α:Type} (F:Fence) (n:Nat) (P:Program) (g:Nat) (lb:Array Value) (encs:α->Array Value) (Kp:Nat->World->World->Prop) (Pv:Nat->Nat->α->World->Prop) (N:Nat) (w:World):Prop:=
 ∀ (l:Nat) (J:Nat->Nat->World->Prop) (Jx:World->Prop) (W:World),Below w w W->(∀ B,AbidesFrom W (J B))->
  (∀ B k x W1,W.heap.size<=B->J B k W1->Pv B k x W1->k<N->YieldAt F (n-1) P l (encs x) W1 fun e W'=>(e = .returned (.bool true)/\J B (k+1) W'/\Kp B W1 W')\/(e = .returned (.bool false)/\Jx W'))->
  (∀ B,W.heap.size<=B->J B 0 W)->
  CallsIn F n P g (#[.func (.yield l) #[] #[]]++lb) W fun e W'=>(∃ v,e = .returned v)/\((∃ B,W.heap.size<=B/\J B N W')\/Jx W')
def postV (b:Nat) (Kp:World->World->Prop) (I:World->Prop) (Ix:Code->World->Prop) (W:World):Exit->Act->World->Prop
 | .normal,_,V=>KeepsFrom b W V/\Kp W V/\I V
 | .ret,_,V=>KeepsFrom b W V/\Ix .ret V
 | .exit i,_,V=>KeepsFrom b W V/\Ix (.exit i) V
 | _,_,_=>False
structure Book (L:Nat) (r:Loop) (W:World):Prop where
 loop:W.heap[L+1]?=some (.loop r)
 late:W.heap[L]?=some (.deferred (some []))
theorem Book.put {r:Loop} (h:Book L r W) (r':Loop):Book L r' (W.putObj (L+1) (.loop r')):=
 ⟨World.putObj_heap_same (zAa h.loop),(World.putObj_heap_other (by omega)).trans h.late⟩
theorem Book.keep {r:Loop} {V:World} (h:Book L r W) (k:KeepsFrom L W V):Book L r V:=⟨k.same _ _ (by omega) h.loop rfl,k.same _ _ (nlr _) h.late rfl⟩
theorem zGd {α:Type} {F:Fence} {P:Program} {g:Operand} {ps:Array Tmp} {assign body:Code} {Q:Exit->Act->World->Prop} {a:Act} 
  (hro:F.round=none) (h1:1<=n) {gf:Nat} {lb:Array Value} (hg:a.eval g = .func (.func gf) #[] lb) (hFg:F.fn gf) (eg:∀ args w,(callFunc gf args).run P w = .ok (.enter gf args) w)
  {encs:α->Array Value} {Kp:Nat->World->World->Prop} {Pv:Nat->Nat->α->World->Prop} {w0:World} (hseq:SeqV F (n-1) P gf lb encs Kp Pv N w0)
  (hKt:∀ {B:Nat} {X Y Z:World},Kp B X Y->Kp B Y Z->Kp B X Z) (hKb:∀ (B:Nat) (W:World) (l:Nat) (o o':Obj),W.heap[l]?=some o->o.isCells=false->Kp B W (W.putObj l o')) (hb0:Below w0 w0 w) (hps:∀ x,(encs x).size=ps.size)
  (I:Nat->Nat->World->Prop) (Ix:Code->World->Prop) (Ax:Nat->Nat->α->Act->World->Prop) (hI:∀ B,OwnFrom w (I B)) (hIx:OwnFrom w Ix) (hAx:∀ B k x a',OwnFrom w (fun (_:Unit) W=>Ax B k x a' W))
  (h0:∀ B,w.heap.size<=B->I B 0 w)
  (hassign:∀ l B k x W K,w.heap.size<=B->I B k W->Pv B k x W->k<N->(∀ a' V,KeepsFrom w W V->Kp B W V->I B k V->Ax B k x a' V->K a' V)->
   assign.wpIn (F.inRound l) (n-1-1) P (Exit.then K (fun _ _ _=>False)) {tmps:=(ps.zip (encs x)).foldl (fun t (p,v)=>t.setIfInBounds p v) a.tmps,defers:=[]} W)
  (hbody:∀ l B k x a' W,w.heap.size<=B->I B k W->Ax B k x a' W->k<N->body.wpIn (F.inRound l) (n-1-1) P (postV w (Kp B) (I B (k+1)) Ix W) a' W)
  (hdone:∀ D B W,w.heap.size<=D->w.heap.size<=B->I B N W->W.heap[D]?=some (.deferred (some []))->Q .normal {a with defers:={target:=.collected D,args:=#[]} :: a.defers} W)
  (hstop:∀ D c W,w.heap.size<=D->Ix c W->W.heap[D]?=some (.deferred (some []))->Code.wpIn F n P c Q {a with defers:={target:=.collected D,args:=#[]} :: a.defers} W) :
  (Code.rangeFunc g ps assign body).wpIn F n P Q a w:=by
 refine wpIn_rangeFunc fun fn hfn=>?_
 obtain ⟨L,hL⟩:∃ L,L=w.heap.size:=⟨_,rfl⟩
 let R (s:LoopState) (j:Option Code):Loop:={state:=s,pending:=j,fn,tmps:=a.tmps,params:=ps,assign,body,defers:=L}
 have hK:KeepsFrom L w ((w.alloc (.deferred (some []))).alloc (.loop (R .ready none))):=(KeepsFrom.of_grownBy (World.grownBy_alloc _ _ none) (fun j e=>by cases e)).trans (KeepsFrom.of_grownBy (World.grownBy_alloc _ _ none) (fun j e=>by cases e))
 have hB1:Book L (R .ready none) ((w.alloc (.deferred (some []))).alloc (.loop (R .ready none))):=by
  subst hL;refine ⟨?_,(Below.heap_alloc _ _ _ (by simp)).trans (World.alloc_heap_new w _)⟩;have:=World.alloc_heap_new (w.alloc (.deferred (some []))) (.loop (R .ready none))
  rwa [World.size_alloc] at this
 have hI1:∀ B,L<=B->I B 0 ((w.alloc (.deferred (some []))).alloc (.loop (R .ready none))):=fun B hB=>(hI B).alloc _ ((hI B).alloc _ (h0 B (hL ▸ hB)))
 have hb1:Below w0 w0 ((w.alloc (.deferred (some []))).alloc (.loop (R .ready none))):=hb0.trans ((((brf _ w).alloc (nlr _) _).alloc (by simp) _).mono hb0.size)
 have hen:(Instr.enterLoop fn a.tmps ps assign body F.round).run P w = .ok (L+1,[{target:=.collected L,args:=#[]}]) ((w.alloc (.deferred (some []))).alloc (.loop (R .ready none))):=by
  rw [hro,hL]; show _=_; simp only [R,hL]; exact run_enterLoop_outer _ _ _ _ _
 have hsz:L<=((w.alloc (.deferred (some []))).alloc (.loop (R .ready none))).heap.size:=hL ▸ hK.size;rw [<-hL] at hI hIx hAx hassign hbody hdone hstop;generalize (w.alloc (.deferred (some []))).alloc (.loop (R .ready none))=W1 at *;refine ⟨_,_,W1,{target:=.fn (.func gf) lb,args:=#[.func (.yield (L+1)) #[] #[]]},W1,gf,#[.func (.yield (L+1)) #[] #[]]++lb,W1,hen,?_,?_,?_,fun _=>h1,?_⟩
 ·simp only [resolve,hg];simp [go_sem]
 ·intro f' hf'; simp [Target.leads] at hf'; subst hf'; exact hFg
 ·simp [invoke,go_sem,eg]
 refine (hseq (L+1) (fun B k W=>I B k W/\Book L (R .ready none) W) (fun W=>∃ c,Ix c W/\Book L (R .done (some c)) W) W1 hb1 ?_ ?_ fun B hB=>⟨hI1 B (nlt hsz hB),hB1⟩).mono ?_
 ·intro B s X Y row hs hgr hr;refine ⟨hI B s X Y row hs.1 hgr fun r e=>?_,(grownBy_keeps hgr (fun r e=>(hr r e).2) hs.2.loop rfl).trans hs.2.loop,(grownBy_keeps hgr (fun r e=>(hr r e).2) hs.2.late rfl).trans hs.2.late⟩;obtain ⟨hle,o,ho,hw⟩:=hr r e;exact ⟨nlt hsz hle,o,ho,Obj.not_cells_of_walk hw⟩
 ·rintro B k x W hB ⟨hi,hbk⟩ hp hlt;refine ⟨fn,_,assign,body,run_yield hbk.loop (hps x),roundIn_of_wpIn hfn (hassign _ B k x W _ (nlt hsz hB) hi hp hlt ?_)⟩;intro a' V hkV hkp hiV haV;have hbV:=hbk.keep hkV;have hbW:=hbV.put (R .busy none);refine ⟨_,run_beginRound hbV.loop rfl,?_⟩;refine wpIn_mono (hbody _ B k x a' _ (nlt hsz hB) ((hI B).putObj _ hiV (by omega) hbV.loop rfl) ((hAx B k x a').putObj (s:=()) _ haV (by omega) hbV.loop rfl) hlt) ?_;have kb:=hKb B V (L+1) _ (.loop (R .busy none)) hbV.loop rfl;rintro e a3 U hq
  cases e with
  | normal=>
   obtain ⟨hk3,hkp3,hi3⟩:=hq;have hbU:=hbW.keep hk3
   exact ⟨_,_,run_endRound none hbU.loop,.inl ⟨rfl,⟨(hI B).putObj _ hi3 (by omega) hbU.loop rfl,hbU.put (R .ready none)⟩,hKt hkp (hKt (hKt kb hkp3) (hKb B U _ _ _ hbU.loop rfl))⟩⟩
  | ret=>
   obtain ⟨hk3,hi3⟩:=hq;have hbU:=hbW.keep hk3
   exact ⟨_,_,run_endRound (some .ret) hbU.loop,.inr ⟨rfl,.ret,hIx.putObj _ hi3 (by omega) hbU.loop rfl,hbU.put (R .done (some .ret))⟩⟩
  | exit i=>
   obtain ⟨hk3,hi3⟩:=hq;have hbU:=hbW.keep hk3
   exact ⟨_,_,run_endRound (some (.exit i)) hbU.loop,.inr ⟨rfl,.exit i,hIx.putObj _ hi3 (by omega) hbU.loop rfl,hbU.put (R .done (some (.exit i)))⟩⟩
  | _=>exact hq.elim
 ·rintro e U ⟨⟨v,rfl⟩,(⟨B,hB,hi,hbU⟩ | ⟨i,hi,hbU⟩)⟩
  ·exact ⟨none,_,run_endLoop hbU.loop (by simp [R]),hdone _ B _ (nlr _) (nlt hsz hB) ((hI B).putObj _ hi (by omega) hbU.loop rfl) (hbU.put _).late⟩
  ·exact ⟨some i,_,run_endLoop hbU.loop (by simp [R]),hstop _ i _ (nlr _) (hIx.putObj _ hi (by omega) hbU.loop rfl) (hbU.put _).late⟩
open Go.RowKit Go.Shelf
def headOk (md:Region.Mode) (ops A:Array Oper) (Lf:Array Bool):Nat->Array Bool->Bool
 | 0,L=>L == Lf
 | f+1,L=>(Region.ready md ops L == Region.ready md A L) && !(Region.ready md A L).isEmpty && (Region.ready md A L).all fun i=>(match A[i]? with | some o=>o.guard.isNone && (match ops[i]? with | some _=>true | none=>false) | none=>false) && headOk md ops A Lf f (L.setIfInBounds i true)
def headPost (n:Nat) (P:Program) (md:Region.Mode) (ops:Array Oper) (Q:Exit->Act->World->Prop) (e:Nat) (Lf:Array Bool):Exit->Act->World->Prop
 | .normal,a,w=>wpAnyIn Fence.wide n P md ops Q e Lf a w
 | _,_,_=>False
theorem zGO {o:Oper} {y:Nat->Option Bool} (h:o.guard.isNone=true):Region.wanted o y=true:=by
 unfold Region.wanted; cases hg:o.guard with | none=>rfl | some g=>rw [hg] at h; cases h
theorem zEN {P:Program} {A ops:Array Oper} {Q Q':Exit->Act->World->Prop} {o:Oper} {K:Act->World->Prop} {a:Act} (ho:A[i]?=some o) (ho':ops[i]?=some o) (hc:∀ c,o.op ≠ .defer c) (hg:o.guard.isNone=true)
  (hQ:∀ c a w,¬ Q' (.panic c) a w) (hL:¬ LetsOut Q') (h:wpOp P A Q' i K a w):wpOpIn Fence.wide n P ops Q i K a w:=by
 unfold wpOp at h;unfold wpOpIn;rw [ho] at h;rw [ho'];dsimp only at h ⊢;rw [if_pos (zGO hg)] at h ⊢;rcases h with h | h
 ·refine ⟨fun _ _=>trivial,?_⟩;rw [Oper.semAt_eq _ _ _ hc];unfold Oper.wp at h;generalize (execOp a.eval o).run P w=r at h
  cases r with
  | ok x w'=>
   cases x with
   | value v=>exact h
   | skip=>exact h
   | defer d=>exact h
   | enter f args=>
    refine ⟨fun h=>(by cases h),callsIn_wide.2 ?_⟩;refine Calls.mono h fun e w'' he=>?_
    cases e with
    | returned v=>exact he
    | panicked c=>exact (hQ _ _ _ he).elim
    | outgrown=>exact (hL he).elim
   | row row args=>
    refine ⟨fun h=>(by cases h),?_⟩;intro c cs _;obtain ⟨v,w',r,s⟩:=h c cs
    exact ⟨v,w',r,stepsIn_wide.2 s⟩
   | _=>exact h.elim
  | halt x w'=>
   cases x <;> first | exact h.elim | exact (hQ _ _ _ h).elim | exact (hL h).elim
 ·exact (hL h.2).elim
theorem zCw {P:Program} {md:Region.Mode} {ops A:Array Oper} {Lf:Array Bool} {Q:Exit->Act->World->Prop} {S:Bool->World->Prop} (hc:calm A=true) (he:∀ i,i<A.size->A[i]?=ops[i]?) :
  ∀ (fuel:Nat) (L:Array Bool) (a:Act) (w:World),headOk md ops A Lf fuel L=true->wpAnyG P md A (headPost n P md ops Q e Lf) ap S fuel L a w->wpAnyIn Fence.wide n P md ops Q (e+fuel) L a w
 | 0,L,a,w,hk,h=>by
  have:L=Lf:=by simpa [headOk] using hk
  subst this
  exact h.2
 | f+1,L,a,w,hk,h=>by
  simp only [headOk,Bool.and_eq_true,beq_iff_eq,List.all_eq_true,Bool.not_eq_true'] at hk;obtain ⟨⟨h1,h2⟩,h3⟩:=hk;refine ⟨fun h0=>?_,fun i hi=>?_⟩
  ·rw [h1] at h0; rw [h0] at h2; cases h2
  ·rw [h1] at hi;obtain ⟨h4,h5⟩:=h3 i hi;have h6:=h.2 i hi
   cases ho:A[i]? with
   | none=>rw [ho] at h4; cases h4
   | some o=>
    rw [ho] at h4;have hlt:i<A.size:=(Array.getElem?_eq_some_iff.1 ho).1;simp only [Bool.and_eq_true] at h4;refine zEN (Q':=headPost n P md ops Q e Lf) ho ((he i hlt).symm.trans ho) (fun c e=>?_) h4.1 (fun _ _ _ h=>h) (by rintro ⟨_,_,h⟩; exact h) (wpOp_mono (fun a' w' h7=>zCw hc he f _ a' w' h5 h7.2) h6);have:=(Array.all_eq_true_iff_forall_mem.1 hc) o (Array.mem_of_getElem? ho);rw [e] at this; cases this
theorem zI0 {P:Program} {id:Nat} {ops:Array Oper} {Q:Exit->Act->World->Prop} (A:Array Oper) (Lf:Array Bool) (e:Nat) (ap:Nat) (S:Bool->World->Prop) {a:Act} (hm:P.follows .mixedOrders=true) (hc:calm A=true) (he:∀ i,i<A.size->A[i]?=ops[i]?) (hs:ops.size=e+A.size)
  (hk:headOk .any ops A Lf A.size (Array.replicate ops.size false)=true) (h:wpAnyG P .any A (headPost n P .any ops Q e Lf) ap S A.size (Array.replicate ops.size false) a w.drew):(Code.region id ops true).wpIn Fence.wide n P Q a w:=by
 refine wpIn_region_any hm ?_;have:=zCw hc he A.size _ a w.drew hk h;rw [<-hs] at this;exact this
theorem zH6 {P:Program} {id:Nat} {l:List Oper} {Q:Exit->Act->World->Prop} (m:Nat) (Lf:Array Bool) (e:Nat) (ap:Nat) (S:Bool->World->Prop) {a:Act} (hm:P.follows .mixedOrders=true) (hc:calm (l.take m).toArray=true) (hs:l.toArray.size=e+(l.take m).toArray.size)
  (hk:headOk .any l.toArray (l.take m).toArray Lf (l.take m).toArray.size (Array.replicate l.toArray.size false)=true) (h:wpAnyG P .any (l.take m).toArray (headPost n P .any l.toArray Q e Lf) ap S (l.take m).toArray.size (Array.replicate l.toArray.size false) a w.drew):(Code.region id l.toArray true).wpIn Fence.wide n P Q a w:=
 zI0 (l.take m).toArray Lf e ap S hm hc (fun i hi=>by
  have:i<m:=by simp at hi; omega
  simp [this]) hs hk h
theorem zCV {F:Fence} {P:Program} {md:Region.Mode} {l rest:List Oper} {Q:Exit->Act->World->Prop} {o:Oper} {listed:Array Bool} {a:Act} (hr:Region.ready md l.toArray listed=[i]) (hi:l.drop i=o :: rest) (hwa:Region.wanted o (yielded l.toArray a.tmps)=true)
  (h:∀ K:Act->World->Prop,Shut (∀ a w,wpAnyIn F n P md l.toArray Q fuel (listed.setIfInBounds i true) a w->K a w)->o.wpIn F n P a w K Q):wpAnyIn F n P md l.toArray Q (fuel+1) listed a w:=by
 refine ⟨fun h0=>(by rw [hr] at h0; cases h0),?_⟩;rw [hr];intro j hj;obtain rfl:j=i:=by simpa using hj
 unfold wpOpIn;rw [zBo hi];dsimp only;rw [if_pos hwa];exact h _ (fun _ _ h=>h)
theorem zEA {F:Fence} {P:Program} {md:Region.Mode} {ops:Array Oper} {Q:Exit->Act->World->Prop} {listed:Array Bool} {a:Act} (hr:Region.ready md ops listed=[]) (h:Q .normal a w):∀ fuel,wpAnyIn F n P md ops Q fuel listed a w
 | 0=>⟨hr,h⟩
 | _+1=>⟨fun _=>h,by rw [hr]; simp⟩
end Go.Proofs.YtpjaodcimomaiaaGreat
