/- Texts Flow MrD of this claim. -/
import Derived.Test.YtjancagcmghfjaaGreatX31
import Derived.Test.YtjancagcmghfjaaGreatX35
import Derived.Test.YtjancagcmghfjaaGreatX36
set_option maxHeartbeats 4000000
set_option maxRecDepth 60000
namespace Go.Proofs.YtjancagcmghfjaaGreat
open Go.RowKit Go.Shelf
variable {i fuel:Nat} {tm:Array Value} {w0 w:World}
theorem yAK {L:List Bool} (hi:L.getD i true=false):(L.set i true).count false+1=L.count false:=by
 induction L generalizing i with
 | nil=>simp at hi
 | cons b t ih=>
  cases i with
  | zero=>simp at hi; subst hi; simp
  | succ i=>
   have:=ih (i:=i) (by simpa using hi);rw [List.set_cons_succ,List.count_cons,List.count_cons];omega
section
variable {P:Program} {ops:Array Oper} {Q:Exit->Act->World->Prop} {md:Region.Mode} {ap:Nat} {S:Bool->World->Prop}
theorem yAT {J:Array Bool->Act->World->Prop} (hS:∀ L a w,J L a w->S (L.getD ap true) w)
  (hend:∀ L a w,J L a w->Region.ready md ops L=[]->Q .normal a w)
  (hstep:∀ L a w i,J L a w->i ∈ Region.ready md ops L->wpOp P ops Q i (fun a' w'=>J (L.setIfInBounds i true) a' w') a w) :
  ∀ (fuel:Nat) (L:Array Bool) (a:Act) (w:World),J L a w->L.toList.count false<=fuel->wpAnyG P md ops Q ap S fuel L a w:=by
 intro fuel
 induction fuel with
 | zero=>
  intro L a w hJ hc
  have hr:Region.ready md ops L=[]:=by
   rw [List.eq_nil_iff_forall_not_mem];intro i hi;have h1:=(mem_ready.1 hi).1;have h2:L.toList.getD i true=false:=by rw [gdd,Array.getElem?_toList,<-Array.getD_eq_getD_getElem?]; exact h1
   have:=yAK h2;omega
  exact ⟨hr,hend L a w hJ hr⟩
 | succ fuel ih=>
  intro L a w hJ hc;refine ⟨hend L a w hJ,fun i hi=>wpOp_mono (fun a' w' hJ'=>⟨hS _ _ _ hJ',ih _ _ _ hJ' ?_⟩) (hstep L a w i hJ hi)⟩;have h1:=(mem_ready.1 hi).1;have h2:L.toList.getD i true=false:=by rw [gdd,Array.getElem?_toList,<-Array.getD_eq_getD_getElem?]; exact h1
  have:=yAK h2;rw [Array.toList_setIfInBounds];omega
def forward (md:Region.Mode) (ops:Array Oper):Bool:=(List.range ops.size).all fun i=>match ops[i]? with | some o=>o.after.all (fun e=>!Region.binds md e || decide (e.on<i)) | none=>true
theorem yAP (hf:forward md ops=true) {L:Array Bool} (hr:Region.ready md ops L=[]):∀ i,i<ops.size->L.getD i true=true:=by
 intro i
 induction i using Nat.strongRecOn with
 | _ i ih=>
  intro hi
  cases hL:L.getD i true with
  | true=>rfl
  | false=>
   exfalso
   have h1:i ∈ Region.ready md ops L:=by
    refine mem_ready.2 ⟨hL,ops[i],by simp [hi],fun e he hb=>?_⟩;have h2:=(List.all_eq_true.1 hf) i (by simpa using hi);rw [show ops[i]?=some ops[i] by simp [hi]] at h2;have h3:=(Array.all_eq_true_iff_forall_mem.1 h2) e he;rw [hb] at h3;have h4:e.on<i:=(by simpa using h3);have h5:=ih e.on h4 (by omega);rcases Nat.lt_or_ge e.on L.size with h' | h'
    ·simp [h'] at h5 ⊢; exact h5
    ·have:L.size<=i:=(by omega);simp [Array.getElem?_eq_none this] at hL
   rw [hr] at h1;cases h1
structure FlowJ (w0:World) (D:List (Nat × Nat)) (R:Nat->Value->World->Prop) (tm:Array Value) (df:List Deferred) (L:Array Bool) (a:Act) (w:World):Prop where
 df:a.defers=df
 sz:a.tmps.size=tm.size
 bel:Below w0 w0 w
 sta:∀ d,d ∉ D.map Prod.snd->a.tmps.getD d undef=tm.getD d undef
 val:∀ x ∈ D,L.getD x.1 false=true->R x.1 (a.tmps.getD x.2 undef) w
theorem FlowJ.dep {D:List (Nat × Nat)} {R:Nat->Value->World->Prop} {df:List Deferred} {L:Array Bool} {a:Act} (h:FlowJ w0 D R tm df L a w) (hi:i ∈ Region.ready md ops L) (y:Nat × Nat) (hy:y ∈ D) (hw:waits md ops i y.1=true):R y.1 (a.tmps.getD y.2 undef) w:=by
 refine h.val y hy ?_;obtain ⟨o,ho,hall⟩:=(mem_ready.1 hi).2;rw [waits,ho] at hw;obtain ⟨e,he,h1⟩:=Array.any_eq_true'.1 hw;simp only [Bool.and_eq_true,beq_iff_eq] at h1;have h2:=hall e he h1.1
 rwa [h1.2] at h2
theorem yAE (g:Nat × Nat->Value):∀ (D:List (Nat × Nat)) (tm:Array Value) (d:Nat),d ∉ D.map Prod.snd->(D.foldl (fun t x=>t.setIfInBounds x.2 (g x)) tm)[d]?=tm[d]?
 | [],_,_,_=>rfl
 | x :: D,tm,d,h=>by
  rw [List.map_cons,List.mem_cons,not_or] at h;rw [List.foldl_cons,yAE g D _ d h.2,Array.getElem?_setIfInBounds_ne (Ne.symm h.1)]
theorem yAN (g:Nat × Nat->Value):∀ (D:List (Nat × Nat)) (tm:Array Value) (x:Nat × Nat),(D.map Prod.snd).Nodup->x ∈ D->x.2<tm.size->(D.foldl (fun t x=>t.setIfInBounds x.2 (g x)) tm)[x.2]?=some (g x)
 | y :: D,tm,x,hn,hx,hl=>by
  rw [List.map_cons,List.nodup_cons] at hn;rw [List.foldl_cons];rcases List.mem_cons.1 hx with rfl | hx
  ·rw [yAE g D _ _ hn.1]; simp [hl]
  ·exact yAN g D _ x hn.2 hx (by simpa using hl)
theorem yAG {D:List (Nat × Nat)} (hn:(D.map Prod.fst).Nodup) {x:Nat × Nat} (hx:x ∈ D):D.find? (fun y=>y.1 == x.1)=some x:=by
 induction D with
 | nil=>cases hx
 | cons y t ih=>
  rw [List.map_cons,List.nodup_cons] at hn;rw [List.find?_cons];rcases List.mem_cons.1 hx with rfl | hx'
  ·simp
  ·have:(y.1 == x.1)=false:=by
    rw [beq_eq_false_iff_ne];exact fun e=>hn.1 (e ▸ List.mem_map_of_mem hx')
   rw [this];exact ih hn.2 hx'
theorem yAX {D:List (Nat × Nat)} (hn:(D.map Prod.snd).Nodup) {x y:Nat × Nat} (hx:x ∈ D) (hy:y ∈ D) (e:x.2=y.2):x=y:=by
 induction D with
 | nil=>cases hx
 | cons z t ih=>
  rw [List.map_cons,List.nodup_cons] at hn;rcases List.mem_cons.1 hx with rfl | hx'
  ·rcases List.mem_cons.1 hy with rfl | hy'
   ·rfl
   ·exact absurd (e ▸ List.mem_map_of_mem hy') hn.1
  ·rcases List.mem_cons.1 hy with rfl | hy'
   ·exact absurd (e ▸ List.mem_map_of_mem hx') hn.1
   ·exact ih hn.2 hx' hy'
theorem flowG (D:List (Nat × Nat)) (R:Nat->Value->World->Prop) {L0:Array Bool} {df:List Deferred}
  (hS:∀ b w,Below w0 w0 w->S b w) (hR:∀ x ∈ D,∀ v w w',R x.1 v w->Below w w w'->R x.1 v w')
  (hD:D.all (fun x=>L0.getD x.1 true == false && decide (x.2<tm.size) && (match ops[x.1]? with | some o=>o.dst == some x.2 | none=>false))=true) (hn1:(D.map Prod.fst).Nodup) (hn2:(D.map Prod.snd).Nodup)
  (hL:(List.range ops.size).all (fun j=>L0.getD j true || (D.map Prod.fst).contains j)=true) (hf:forward md ops=true) (hc:L0.toList.count false<=fuel)
  (hstep:∀ x ∈ D,∀ (L:Array Bool) (a:Act) (w:World) (o:Oper),FlowJ w0 D R tm df L a w->x.1 ∈ Region.ready md ops L->ops[x.1]?=some o->Region.wanted o (yielded ops a.tmps)=true/\Oper.wp P o a w (fun a' w'=>∃ v,a'=a.put o.dst v/\Below w w w'/\R x.1 v w') Q)
  (hend:∀ (f:Nat->Value) (w:World),Below w0 w0 w->(∀ x ∈ D,R x.1 (f x.1) w)->Q .normal {tmps:=D.foldl (fun t x=>t.setIfInBounds x.2 (f x.1)) tm,defers:=df} w) :
  wpAnyG P md ops Q ap S fuel L0 {tmps:=tm,defers:=df} w0:=by
 have hD':∀ x ∈ D,L0.getD x.1 true=false/\x.2<tm.size/\∃ o,ops[x.1]?=some o/\o.dst=some x.2:=fun x hx=>by
  have h:=(List.all_eq_true.1 hD) x hx;simp only [Bool.and_eq_true,beq_iff_eq,decide_eq_true_eq] at h;refine ⟨h.1.1,h.1.2,?_⟩;have h2:=h.2
  cases ho:ops[x.1]? with
  | none=>rw [ho] at h2; cases h2
  | some o=>rw [ho] at h2; exact ⟨o,rfl,by simpa using h2⟩
 have hlt0:∀ x ∈ D,x.1<L0.size:=fun x hx=>by
  have h1:=(hD' x hx).1;rcases Nat.lt_or_ge x.1 L0.size with h' | h'
  ·exact h'
  ·simp [Array.getElem?_eq_none h'] at h1
 refine yAT (J:=fun L a w=>FlowJ w0 D R tm df L a w/\L.size=L0.size/\∀ j,j ∉ D.map Prod.fst->L.getD j true=L0.getD j true) (fun L a w hJ=>hS _ _ hJ.1.bel) ?_ ?_ fuel L0 _ w0 ⟨⟨rfl,rfl,brf _ _,fun _ _=>rfl,fun x hx hl=>?_⟩,rfl,fun _ _=>rfl⟩ hc
 ·rintro L ⟨t,d⟩ w ⟨hJ,hsz,-⟩ hr;have hal:=yAP hf hr
  have hall:∀ x ∈ D,R x.1 (t.getD x.2 undef) w:=fun x hx=>by
   refine hJ.val x hx ?_;obtain ⟨h1,h2,o,ho,h3⟩:=hD' x hx;have h4:=hal x.1 (Array.getElem?_eq_some_iff.1 ho).1;have h5:=hlt0 x hx;rw [<-hsz] at h5;simp [h5] at h4 ⊢; exact h4
  have hfx:∀ x ∈ D,(match D.find? (fun y=>y.1 == x.1) with | some y=>t.getD y.2 undef | none=>undef)=t.getD x.2 undef:=fun x hx=>by rw [yAG hn1 hx]
  have h:=hend (fun i=>match D.find? (fun y=>y.1 == i) with | some y=>t.getD y.2 undef | none=>undef) w hJ.bel fun x hx=>by
   show R x.1 (match D.find? (fun y=>y.1 == x.1) with | some y=>t.getD y.2 undef | none=>undef) w;rw [hfx x hx]; exact hall x hx
  have e:D.foldl (fun t' x=>t'.setIfInBounds x.2 (match D.find? (fun y=>y.1 == x.1) with | some y=>t.getD y.2 undef | none=>undef)) tm=t:=by
   apply Array.ext_getElem?;intro k;by_cases hk:k ∈ D.map Prod.snd
   ·obtain ⟨x,hx,rfl⟩:=List.mem_map.1 hk;have hl:=(hD' x hx).2.1;rw [yAN (fun x=>match D.find? (fun y=>y.1 == x.1) with | some y=>t.getD y.2 undef | none=>undef) D tm x hn2 hx hl,hfx x hx];have hl2:x.2<t.size:=by rw [show t.size=tm.size from hJ.sz]; exact hl
    simp [hl2]
   ·rw [yAE (fun x=>match D.find? (fun y=>y.1 == x.1) with | some y=>t.getD y.2 undef | none=>undef) D tm k hk];have h1:=hJ.sta k hk;have hs:t.size=tm.size:=hJ.sz;dsimp only at h1;by_cases hl:k<tm.size
    ·have hl2:k<t.size:=(by omega);simp [hl,hl2] at h1 ⊢; exact h1.symm
    ·have hl2:¬ k<t.size:=(by omega);rw [Array.getElem?_eq_none (by omega),Array.getElem?_eq_none (by omega)]
  obtain rfl:d=df:=hJ.df;rw [e] at h;exact h
 ·rintro L a w i ⟨hJ,hsz,ho⟩ hi
  have hiD:i ∈ D.map Prod.fst:=by
   apply Classical.byContradiction;intro hn;obtain ⟨h1,o,h2,-⟩:=mem_ready.1 hi;have h3:=(List.all_eq_true.1 hL) i (by simpa using (Array.getElem?_eq_some_iff.1 h2).1);rw [ho i hn] at h1;rw [h1] at h3;simp only [Bool.false_or,List.contains_iff_mem] at h3;exact hn h3
  obtain ⟨x,hx,rfl⟩:=List.mem_map.1 hiD;obtain ⟨h1,h2,o,h3,h4⟩:=hD' x hx;obtain ⟨h5,h6⟩:=hstep x hx L a w o hJ hi h3;unfold wpOp;rw [h3];dsimp only;rw [if_pos h5];refine .inl (Oper.wp_mono (fun a' w' h=>?_) h6);obtain ⟨v,rfl,hb,hv⟩:=h;have hw0:=hJ.bel.size;have hxL:x.1<L.size:=by rw [hsz]; exact hlt0 x hx
  have hxt:x.2<a.tmps.size:=by rw [hJ.sz]; exact h2
  rw [h4]
  have hne:∀ y ∈ D,y ≠ x->y.1 ≠ x.1/\y.2 ≠ x.2:=fun y hy hyx=>by
   refine ⟨fun e=>hyx ?_,fun e=>hyx ?_⟩
   ·have a1:=yAG hn1 hx;have a2:=yAG hn1 hy;rw [e,a1] at a2;exact (Option.some.inj a2).symm
   ·exact yAX hn2 hy hx e
  refine ⟨⟨hJ.df,by simp [Act.put]; exact hJ.sz,hJ.bel.trans (hb.mono hw0),fun d hd=>?_,fun y hy hl=>?_⟩,by simpa using hsz,fun j hj=>?_⟩
  ·have hdx:x.2 ≠ d:=(fun e=>hd (e ▸ List.mem_map_of_mem hx));rw [<-hJ.sta d hd];simp [Act.put,Array.getD_eq_getD_getElem?,Array.getElem?_setIfInBounds_ne hdx]
  ·by_cases e:y=x
   ·subst e;have:(a.put (some y.2) v).tmps.getD y.2 undef=v:=(by simp [Act.put,hxt]);rw [this]; exact hv
   ·obtain ⟨n1,n2⟩:=hne y hy e;have e1:(a.put (some x.2) v).tmps.getD y.2 undef=a.tmps.getD y.2 undef:=(by simp [Act.put,Array.getD_eq_getD_getElem?,Array.getElem?_setIfInBounds_ne (Ne.symm n2)]);rw [e1];refine hR y hy _ _ _ (hJ.val y hy ?_) hb
    rwa [getD_set_ne false (Ne.symm n1)] at hl
  ·have hjx:x.1 ≠ j:=(fun e=>hj (e ▸ List.mem_map_of_mem hx));rw [getD_set_ne true hjx];exact ho j hj
 ·exfalso;have h1:=(hD' x hx).1;have h2:=hlt0 x hx;simp [h2] at h1 hl;rw [h1] at hl;cases hl
end
namespace Mo
theorem yAO (z:Array Value) {n i:Nat} (hi:i<n):(madeCells z n)[i]?=some (z[i % z.size]!):=by simp [madeCells,hi]
abbrev zUn:Array Value:=#[.int .i64 0,.int .i64 0,.slice none 0 0,.int .i64 0,.int .i64 0,.int .i64 0,.int .i64 0,.int .i64 0,.int .i64 0]
abbrev zBd:Array Value:=#[.int .i64 0,.slice none 0 0]
theorem yAS:(Tryz.prog.info? 45).map (fun i=>(i.zero,i.size,i.bytes))=some (some (.agg zUn),9,88):=by kernel_rfl
theorem yAU:(Tryz.prog.info? 56).map (fun i=>(i.zero,i.size,i.bytes))=some (some (.agg zBd),2,32):=by kernel_rfl
theorem yAR (w:World):(Instr.makeSlice 26 (.int .i64 6) (.int .i64 6)).run Tryz.prog w = .ok (.slice (some w) 6 6) (w.alloc (.cells (madeCells zUn 54) 45)):=by
 obtain ⟨i0,hi,hz0,hz1,hz2⟩:=info_parts yAS;have hr:=run_make (P:=Tryz.prog) w 26 45 i0 (.agg zUn) Tryz.underlying26 hi hz0 .i64 .i64 6 6 (by omega) (by omega) (by rw [hz2]; omega) (by omega);rw [hz1] at hr;exact hr
theorem zMe (w:World):(Instr.makeSlice 28 (.int .i64 7) (.int .i64 7)).run Tryz.prog w = .ok (.slice (some w) 7 7) (w.alloc (.cells (madeCells zBd 14) 56)):=by
 obtain ⟨i0,hi,hz0,hz1,hz2⟩:=info_parts yAU;have hr:=run_make (P:=Tryz.prog) w 28 56 i0 (.agg zBd) Tryz.underlying28 hi hz0 .i64 .i64 7 7 (by omega) (by omega) (by rw [hz2]; omega) (by omega);rw [hz1] at hr;exact hr
theorem yAL (W:World):StepsAt W ⟨none,0,0⟩ []:=⟨rfl,nlr _,nzl _,fun k hk=>absurd hk (Nat.not_lt_zero k)⟩
theorem yAC {W:World} {g n:Nat} (h:W.heap[g]?=some (.cells (madeCells zUn 54) 45 (0,0))) (hn:n<=6):UnitsAt W ⟨some ⟨g,0,none⟩,n,6⟩ (List.replicate n un00):=by
 refine ⟨by simp,hn,by show 6<=_; decide,fun k hk=>⟨_,rfl,?_⟩⟩;have hk':k<n:=hk;have e:(List.replicate n un00).getD k un0=un00:=by simp [gdd,hk']
 rw [e,zA4,Nat.zero_add]
 have key:∀ o,o<9->W.cell? ⟨g,k*9+o,none⟩=some (zUn[o]!):=fun o ho=>by
  simp only [World.cell?,h];rw [yAO zUn (by omega),show (k*9+o) % zUn.size=o by show (k*9+o) % 9=o; omega];rfl
 exact ⟨⟨none,0,0⟩,key 0 (by omega),key 1 (by omega),key 2 (by omega),key 3 (by omega),key 4 (by omega),key 5 (by omega),key 6 (by omega),key 7 (by omega),key 8 (by omega),yAL W⟩
theorem yAJ {W:World} {g n:Nat} (h:W.heap[g]?=some (.cells (madeCells zBd 14) 56 (0,0))) (hn:n<=7):BidsAt W ⟨some ⟨g,0,none⟩,n,7⟩ (List.replicate n bd00):=by
 refine ⟨by simp,hn,by show 7<=_; decide,fun k hk=>⟨_,rfl,?_⟩⟩;have hk':k<n:=hk;have e:(List.replicate n bd00).getD k ⟨0,[]⟩=bd00:=by simp [gdd,hk']
 rw [e,zA4,Nat.zero_add]
 have key:∀ o,o<2->W.cell? ⟨g,k*2+o,none⟩=some (zBd[o]!):=fun o ho=>by
  simp only [World.cell?,h];rw [yAO zBd (by omega),show (k*2+o) % zBd.size=o by show (k*2+o) % 2=o; omega];rfl
 exact ⟨⟨none,0,0⟩,key 0 (by omega),key 1 (by omega),yAL W⟩
structure ExF (w:World) (hb bd fb gm gl:Nat) (V:HrV) (st sf:SV) (W:World):Prop where
 low:Below w w W
 vn:V.n=2
 h:W.heap[hb]?=some (.cells #[.int .i64 2,.slice V.L.A V.L.n V.L.c,.slice V.O.A V.O.n V.O.c,.slice V.U.A V.U.n V.U.c,.slice V.N.A V.N.n V.N.c,.slice V.B.A V.B.n V.B.c] 30 (0,0))
 b:W.heap[bd]?=some (.cells #[.int .i64 2,.int .i64 2,.slice st.A st.n st.c,.int .i64 1,.int .i64 1,.int .i64 0,.int .i64 0,.int .i64 0,.int .i64 1] 45 (0,0))
 f:W.heap[fb]?=some (.cells #[.int .i64 2,.slice sf.A sf.n sf.c] 56 (0,0))
 V:HrAt W V exH
 st:StepsAt W st [⟨10,3⟩]
 sf:StepsAt W sf [⟨8,9⟩]
 many:W.heap[gm]?=some (.cells (madeCells zUn 54) 45 (0,0))
 lots:W.heap[gl]?=some (.cells (madeCells zBd 14) 56 (0,0))
theorem ExF.below {w:World} {hb bd fb gm gl:Nat} {V:HrV} {st sf:SV} {W W':World} (h:ExF w hb bd fb gm gl V st sf W) (hk:Below W W W'):ExF w hb bd fb gm gl V st sf W':=
 ⟨h.low.trans (hk.mono h.low.size),h.vn,(hk.block _ (zAa h.h)).trans h.h,(hk.block _ (zAa h.b)).trans h.b,(hk.block _ (zAa h.f)).trans h.f,h.V.below hk,StepsAt.below hk h.st,StepsAt.below hk h.sf,(hk.block _ (zAa h.many)).trans h.many,(hk.block _ (zAa h.lots)).trans h.lots⟩
def HourIs (w:World) (h:Hr) (v:Value):Prop:=∃ V:HrV,v = .agg #[.int .i64 V.n,.slice V.L.A V.L.n V.L.c,.slice V.O.A V.O.n V.O.c,.slice V.U.A V.U.n V.U.c,.slice V.N.A V.N.n V.N.c,.slice V.B.A V.B.n V.B.c]/\HrAt w V h
def PairIs (w:World) (x:Hr × Int) (v:Value):Prop:=∃ V:HrV,v = .agg #[.int .i64 V.n,.slice V.L.A V.L.n V.L.c,.slice V.O.A V.O.n V.O.c,.slice V.U.A V.U.n V.U.c,.slice V.N.A V.N.n V.N.c,.slice V.B.A V.B.n V.B.c,.int .i64 x.2]/\HrAt w V x.1
def PairC (w:World) (b o:Nat) (x:Hr × Int):Prop:=∃ V:HrV,w.cell? ⟨b,o,none⟩=some (.int .i64 V.n)/\w.cell? ⟨b,o+1,none⟩=some (.slice V.L.A V.L.n V.L.c)/\w.cell? ⟨b,o+2,none⟩=some (.slice V.O.A V.O.n V.O.c)/\w.cell? ⟨b,o+3,none⟩=some (.slice V.U.A V.U.n V.U.c)/\w.cell? ⟨b,o+4,none⟩=some (.slice V.N.A V.N.n V.N.c)/\w.cell? ⟨b,o+5,none⟩=some (.slice V.B.A V.B.n V.B.c)/\w.cell? ⟨b,o+6,none⟩=some (.int .i64 x.2)/\HrAt w V x.1
theorem HourIs.below {w w':World} {h:Hr} {v:Value} (hh:HourIs w h v) (hb:Below w w w'):HourIs w' h v:=by obtain ⟨V,e,hv⟩:=hh; exact ⟨V,e,hv.below hb⟩
theorem PairIs.below {w w':World} {x:Hr × Int} {v:Value} (hh:PairIs w x v) (hb:Below w w w'):PairIs w' x v:=by obtain ⟨V,e,hv⟩:=hh; exact ⟨V,e,hv.below hb⟩
theorem PairC.below {w w':World} {b o:Nat} {x:Hr × Int} (hh:PairC w b o x) (hb:Below w w w'):PairC w' b o x:=by
 obtain ⟨V,h0,h1,h2,h3,h4,h5,h6,hv⟩:=hh;exact ⟨V,cellB hb h0,cellB hb h1,cellB hb h2,cellB hb h3,cellB hb h4,cellB hb h5,cellB hb h6,hv.below hb⟩
def exHour (k:Nat):Hr × Int:=exHours.getD k (exNone,0)
abbrev badU:Un:=⟨2,2,[⟨10,3⟩],1,1,0,0,0,1⟩
abbrev farB:Bd:=⟨2,[⟨8,9⟩]⟩
def ExR (i:Nat) (v:Value) (w:World):Prop:=
 match i with
 | 0=>∃ s:SV,v = .slice s.A s.n s.c/\IntsAt w s [-1]
 | 2=>HourIs w (exHour 0).1 v
 | 3=>PairIs w (exHour 0) v
 | 6=>∃ s:SV,v = .slice s.A s.n s.c/\IntsAt w s [1]
 | 8=>HourIs w (exHour 1).1 v
 | 9=>PairIs w (exHour 1) v
 | 23=>∃ s:SV,v = .slice s.A s.n s.c/\UnitsAt w s [badU]
 | 24=>HourIs w (exHour 4).1 v
 | 25=>PairIs w (exHour 4) v
 | 47=>∃ s:SV,v = .slice s.A s.n s.c/\BidsAt w s [farB]
 | 48=>HourIs w (exHour 8).1 v
 | 49=>PairIs w (exHour 8) v
 | 60=>∃ b,v = .slice (some ⟨b,0,none⟩) 11 11/\∀ k,k<11->PairC w b (k*7) (exHour k)
 | 61=>v = .int .i64 11
 | _=>True
theorem ExR.below {i:Nat} {v:Value} {w w':World} (h:ExR i v w) (hb:Below w w w'):ExR i v w':=by
 unfold ExR at h ⊢
 split at h
 ·obtain ⟨s,e,h1⟩:=h; exact ⟨s,e,h1.below hb⟩
 ·exact h.below hb
 ·exact h.below hb
 ·obtain ⟨s,e,h1⟩:=h; exact ⟨s,e,h1.below hb⟩
 ·exact h.below hb
 ·exact h.below hb
 ·obtain ⟨s,e,h1⟩:=h; exact ⟨s,e,UnitsAt.below hb h1⟩
 ·exact h.below hb
 ·exact h.below hb
 ·obtain ⟨s,e,h1⟩:=h; exact ⟨s,e,BidsAt.below hb h1⟩
 ·exact h.below hb
 ·exact h.below hb
 ·obtain ⟨b,e,h1⟩:=h; exact ⟨b,e,fun k hk=>(h1 k hk).below hb⟩
 ·exact h
 ·trivial
section
variable (W:World)
theorem yAW:LinesAt W ⟨none,0,0⟩ []:=⟨rfl,nlr _,nzl _,fun k hk=>absurd hk (Nat.not_lt_zero k)⟩
theorem yAx:IntsAt W ⟨none,0,0⟩ []:=⟨rfl,nlr _,nzl _,fun x hx=>(by cases hx),fun k hk=>absurd hk (Nat.not_lt_zero k)⟩
theorem yAy:UnitsAt W ⟨none,0,0⟩ []:=⟨rfl,nlr _,nzl _,fun k hk=>absurd hk (Nat.not_lt_zero k)⟩
theorem yAw:BidsAt W ⟨none,0,0⟩ []:=⟨rfl,nlr _,nzl _,fun k hk=>absurd hk (Nat.not_lt_zero k)⟩
theorem yAA:OnAt W ⟨none,0,0⟩ []:=⟨rfl,nlr _,nzl _,fun k hk=>absurd hk (Nat.not_lt_zero k)⟩
end
section
theorem yAH {W:World} {g:Nat} {x:Int} (h:W.heap[g]?=some (.cells #[.int .i64 x] 3 (0,0))) (hx:-9223372036854775808<=x/\x<=9223372036854775807):IntsAt W ⟨some ⟨g,0,none⟩,1,1⟩ [x]:=by
 refine ⟨rfl,nlr _,by show 1<=_; decide,fun y hy=>by rcases List.mem_singleton.1 hy with rfl; exact hx,fun k hk=>⟨_,rfl,?_⟩⟩;obtain rfl:k=0:=by have:k<1:=hk; omega
 simp [World.cell?,h,zA4]
theorem yAY {W:World} {g:Nat} {st:SV} (h:W.heap[g]?=some (.cells #[.int .i64 2,.int .i64 2,.slice st.A st.n st.c,.int .i64 1,.int .i64 1,.int .i64 0,.int .i64 0,.int .i64 0,.int .i64 1] 45 (0,0))) (hst:StepsAt W st [⟨10,3⟩]):UnitsAt W ⟨some ⟨g,0,none⟩,1,1⟩ [badU]:=by
 refine ⟨rfl,nlr _,by show 1<=_; decide,fun k hk=>⟨_,rfl,?_⟩⟩;obtain rfl:k=0:=by have:k<1:=hk; omega
 exact ⟨st,by simp [World.cell?,h,zA4],by simp [World.cell?,h,zA4],by simp [World.cell?,h,zA4],by simp [World.cell?,h,zA4],by simp [World.cell?,h,zA4],by simp [World.cell?,h,zA4],by simp [World.cell?,h,zA4],by simp [World.cell?,h,zA4],by simp [World.cell?,h,zA4],hst⟩
theorem yA0 {W:World} {g:Nat} {st:SV} (h:W.heap[g]?=some (.cells #[.int .i64 2,.slice st.A st.n st.c] 56 (0,0))) (hst:StepsAt W st [⟨8,9⟩]):BidsAt W ⟨some ⟨g,0,none⟩,1,1⟩ [farB]:=by
 refine ⟨rfl,nlr _,by show 1<=_; decide,fun k hk=>⟨_,rfl,?_⟩⟩;obtain rfl:k=0:=by have:k<1:=hk; omega
 exact ⟨st,by simp [World.cell?,h,zA4],by simp [World.cell?,h,zA4],hst⟩
end
theorem yA1 {w:World} {cs:Array Value} {t:TypeId} (hc:∀ k,k<11->∃ V:HrV,cs[k*7]?=some (.int .i64 V.n)/\cs[k*7+1]?=some (.slice V.L.A V.L.n V.L.c)/\cs[k*7+2]?=some (.slice V.O.A V.O.n V.O.c)/\cs[k*7+3]?=some (.slice V.U.A V.U.n V.U.c)/\cs[k*7+4]?=some (.slice V.N.A V.N.n V.N.c)/\cs[k*7+5]?=some (.slice V.B.A V.B.n V.B.c)/\cs[k*7+6]?=some (.int .i64 (exHour k).2)/\HrAt w V (exHour k).1) :
  ∀ k,k<11->PairC (w.alloc (.cells cs t)) w (k*7) (exHour k):=fun k hk=>by
 obtain ⟨V,h0,h1,h2,h3,h4,h5,h6,hv⟩:=hc k hk;have al:Below w w (w.alloc (.cells cs t)):=bal;have e:(w.alloc (.cells cs t)).heap[w.heap.size]?=some (.cells cs t (0,0)):=zAd _ _ rfl;have g:∀ o,(w.alloc (.cells cs t)).cell? ⟨w.heap.size,o,none⟩=cs[o]?:=fun o=>by simp only [World.cell?,e]; rfl
 exact ⟨V,(g _).trans h0,(g _).trans h1,(g _).trans h2,(g _).trans h3,(g _).trans h4,(g _).trans h5,(g _).trans h6,hv.below al⟩
def ExL (w:World) (hs tb:Nat) (V:HrV) (st sf:SV) (t:Value) (W:World):Prop:=
 ∃ k:Nat,k<=11/\t = .int .i64 (k:Int)/\ExF w hs (hs+1) (hs+1+1) (hs+1+1+1) (hs+1+1+1+1) V st sf W/\∀ k,k<11->PairC W tb (k*7) (exHour k)
theorem yAQ {k:Nat} (hk:k<11):hrErr (exHour k).1=(exHour k).2:=by
 have h:∀ k,k<11->hrErr (exHour k).1=(exHour k).2:=by decide
 exact h k hk
theorem yAZ {W:World} {g:Nat} {x:Bool} (h:W.heap[g]?=some (.cells #[.bool x] 4 (0,0))):OnAt W ⟨some ⟨g,0,none⟩,1,1⟩ [x]:=by
 refine ⟨rfl,nlr _,by show 1<=_; decide,fun k hk=>⟨_,rfl,?_⟩⟩;obtain rfl:k=0:=by have:k<1:=hk; omega
 simp [World.cell?,h,zA4]
theorem yAM {w w2:World} {hs o:Nat} {cs c1 c2:Array Value} {t t1 t2:TypeId} (v:Value) (h:w.heap[hs]?=some (.cells cs t (0,0))) (hb:Below w2 w2 w) (hl:w2.heap.size<=hs) :
  ∃ W,((w.setCell ⟨hs,o,none⟩ v).alloc (.cells c1 t1)).alloc (.cells c2 t2)=W/\Below w2 w2 W/\W.heap[hs]?=some (.cells (cs.setIfInBounds o v) t (0,0))/\W.heap[w.heap.size]?=some (.cells c1 t1 (0,0))/\W.heap[w.heap.size+1]?=some (.cells c2 t2 (0,0))/\(∀ b,b<w.heap.size->b ≠ hs->W.heap[b]?=w.heap[b]?)/\w.heap.size+1<W.heap.size:=by
 have hs0:=hb.size;have e0:(w.setCell ⟨hs,o,none⟩ v).heap.size=w.heap.size:=by simp [World.setCell]
 have hlt:=zAa h;refine ⟨_,rfl,(((hb.setCell (p:=⟨hs,o,none⟩) hl v)).alloc (by rw [e0]; exact hs0) _).alloc (by simp [World.setCell]; omega) _,alk (alk (zAe _ h)),?_,?_,fun b hb1 hb2=>?_,by simp [World.setCell]⟩
 ·have:=zAd (w.setCell ⟨hs,o,none⟩ v) (.cells c1 t1) rfl;rw [e0] at this;exact alk this
 ·have:=zAd ((w.setCell ⟨hs,o,none⟩ v).alloc (.cells c1 t1)) (.cells c2 t2) rfl;rw [World.size_alloc,e0] at this;exact this
 ·exact (Below.heap_alloc _ _ _ (by simp [World.setCell]; omega)).trans ((Below.heap_alloc _ _ _ (by rw [e0]; exact hb1)).trans (bhs _ _ _ _ hb2))
def BkR (i:Nat) (v:Value) (w:World):Prop:=
 match i with
 | 2=>∃ s:SV,v = .slice s.A s.n s.c/\OnAt w s [true]
 | 5=>∃ s:SV,v = .slice s.A s.n s.c/\IntsAt w s [4]/\s.n<=1000
 | 6=>∃ s:SV,v = .slice s.A s.n s.c/\VecCan w AllB AllB s (ri [4])
 | 7 | 8=>∃ s t:SV,v = .tuple #[.slice s.A s.n s.c,.slice t.A t.n t.c]/\MatCan w AllB AllB s [ri [4]]/\MatCan w AllB AllB t [ri [0]]
 | 9 | 11=>∃ s:SV,v = .slice s.A s.n s.c/\MatCan w AllB AllB s [ri [4]]
 | 10 | 12=>∃ s:SV,v = .slice s.A s.n s.c/\MatCan w AllB AllB s [ri [0]]
 | _=>True
theorem BkR.below {i:Nat} {v:Value} {w w':World} (h:BkR i v w) (hb:Below w w w'):BkR i v w':=by
 unfold BkR at h ⊢
 split at h
 ·obtain ⟨s,e,h1⟩:=h; exact ⟨s,e,h1.below hb⟩
 ·obtain ⟨s,e,h1,h2⟩:=h; exact ⟨s,e,h1.below hb,h2⟩
 ·obtain ⟨s,e,h1⟩:=h; exact ⟨s,e,h1.belowC hb⟩
 ·obtain ⟨s,t,e,h1,h2⟩:=h; exact ⟨s,t,e,h1.belowC hb,h2.belowC hb⟩
 ·obtain ⟨s,t,e,h1,h2⟩:=h; exact ⟨s,t,e,h1.belowC hb,h2.belowC hb⟩
 ·obtain ⟨s,e,h1⟩:=h; exact ⟨s,e,h1.belowC hb⟩
 ·obtain ⟨s,e,h1⟩:=h; exact ⟨s,e,h1.belowC hb⟩
 ·obtain ⟨s,e,h1⟩:=h; exact ⟨s,e,h1.belowC hb⟩
 ·obtain ⟨s,e,h1⟩:=h; exact ⟨s,e,h1.belowC hb⟩
 ·trivial
theorem yAV:bks (vars exH) (ri [4]) false exH.units.length (List.range (vars exH).length)=[ri [4]]/\bks (vars exH) (ri [4]) true exH.bids.length (List.range (vars exH).length)=[ri [0]]:=by decide +kernel
theorem yA2 (i k:Nat):QFit LM (tot ((([ri [1,2],[]]:List (List Rat)).getD i []).take k)):=by
 have h:∀ k,k<3->∃ z:Int,(z=0\/z=1\/z=3)/\tot ((ri [1,2]).take k)=(z:Rat):=fun k hk=>by
  match k,hk with
  | 0,_=>exact ⟨0,by decide,by decide +kernel⟩
  | 1,_=>exact ⟨1,by decide,by decide +kernel⟩
  | 2,_=>exact ⟨3,by decide,by decide +kernel⟩
 have hn:∀ k,tot (([]:List Rat).take k)=((0:Int):Rat):=fun k=>by rw [List.take_nil]; decide +kernel
 match i with
 | 0=>
  obtain ⟨z,hz,e⟩:∃ z:Int,(z=0\/z=1\/z=3)/\tot ((ri [1,2]).take k)=(z:Rat):=by
   by_cases hk:k<3
   ·exact h k hk
   ·have e:(ri [1,2]).take k=(ri [1,2]).take 2:=(by rw [List.take_of_length_le (by simp; omega),List.take_of_length_le (by simp)]);rw [e]; exact h 2 (by decide)
  show QFit LM (tot ((ri [1,2]).take k));rw [e]
  rcases hz with rfl | rfl | rfl <;> exact zXS _ (by decide) (by decide)
 | 1=>
  show QFit LM (tot (([]:List Rat).take k))
  rw [hn]; exact zXS _ (by decide) (by decide)
 | i+2=>
  show QFit LM (tot (([]:List Rat).take k));rw [hn]; exact zXS _ (by decide) (by decide)
theorem yAF {W w':World} (h:Below W W w'):Sees 0 [] W w':=
 Kept.sees ⟨by simp,nzl _,h.os,h.tape,h.output,h.size,fun b hb _=>h.block b hb,by simp⟩
theorem mex_calls {w:World}:Calls Tryz.prog 7 #[] w fun e w'=>e = .returned (.bool true)/\Below w w w':=by
 have f2:=hfld2;have f3:=hfld3;have f4:=hfld4;have mu:=yAR;have mb:=zMe;go_enter Tryz.func7,Tryz.ntmps7
 go_wp2_with fail
 refine zVf.mono ?_;rintro e w1 ⟨rfl,hb1⟩;have HB1:=hdq hb1;clear hb1;go_wp2_with fail
 refine zU9.mono ?_;rintro e w2 ⟨⟨V,rfl,hV⟩,hb2⟩;have hLow:Below w w w2:=HB1.out.trans (hb2.mono HB1.out.size);clear hb2 HB1;obtain ⟨n,⟨lA,ln,lc⟩,⟨oA,on,oc⟩,⟨uA,un,uc⟩,⟨nA,nn,nc⟩,⟨bA,bn,bc⟩⟩:=V;obtain rfl:n=2:=hV.n;obtain rfl:1=un:=hV.U.len;obtain rfl:1=bn:=hV.B.len;obtain ⟨ua,e,st,q0,q1,q2,q3,q4,q5,q6,q7,q8,qs⟩:=hV.U.cell 0 (by show 0<1; decide);dsimp only at e;subst e;obtain ⟨ba,e,sf,z0,z1,zs⟩:=hV.B.cell 0 (by show 0<1; decide);dsimp only at e;subst e;have ule:1<=uc:=hV.U.le;have ucap:uc<=9223372036854775807:=hV.U.cap;have ble:1<=bc:=hV.B.le;have bcap:bc<=9223372036854775807:=hV.B.cap;obtain ⟨ub,uo,us⟩:=ua;obtain rfl:us=none:=World.cell?_spot (by rw [Nat.zero_mul,add_zero'] at q0; exact q0);obtain ⟨bb,bo,bs⟩:=ba;obtain rfl:bs=none:=World.cell?_spot (by rw [Nat.zero_mul,add_zero'] at z0; exact z0);simp only [Nat.zero_mul,zA4,Nat.add_zero] at q0 q1 q2 q3 q4 q5 q6 q7 q8 z0 z1;dsimp only [exH,List.getD_cons_zero] at q0 q1 q2 q3 q4 q5 q6 q7 q8 qs z0 z1 zs;have tq:=zAb q0;have tz:=zAb z0;dsimp only at tq tz;obtain ⟨sA,sn,sc⟩:=st;obtain ⟨fA,fn,fc⟩:=sf;dsimp only at q2 z1;dsimp only [HrV.val];have HV:=hdq hV;have HL:=hdq hLow;have HS:=hdq (And.intro qs zs);clear hV hLow qs zs;go_upto_region 9 with fail
 obtain ⟨hs,hhs⟩:∃ b,b=w2.heap.size:=⟨_,rfl⟩;obtain ⟨Wz,hWz⟩:∃ Wz,(((((w2.alloc (.cells #[.int .i64 2,.slice lA ln lc,.slice oA on oc,.slice (some ⟨ub,uo,none⟩) 1 uc,.slice nA nn nc,.slice (some ⟨bb,bo,none⟩) 1 bc] 30)).alloc (.cells #[.int .i64 2,.int .i64 2,.slice sA sn sc,.int .i64 1,.int .i64 1,.int .i64 0,.int .i64 0,.int .i64 0,.int .i64 1] 45)).alloc (.cells #[.int .i64 2,.slice fA fn fc] 56)).alloc (.cells (madeCells zUn 54) 45)).alloc (.cells (madeCells zBd 14) 56))=Wz:=⟨_,rfl⟩;rw [hWz,<-hhs]
 have hX:ExF w2 hs (hs+1) (hs+1+1) (hs+1+1+1) (hs+1+1+1+1) ⟨2,⟨lA,ln,lc⟩,⟨oA,on,oc⟩,⟨some ⟨ub,uo,none⟩,1,uc⟩,⟨nA,nn,nc⟩,⟨some ⟨bb,bo,none⟩,1,bc⟩⟩ ⟨sA,sn,sc⟩ ⟨fA,fn,fc⟩ Wz:=by
  have al:Below w2 w2 Wz:=by rw [<-hWz]; exact ((((bal).alloc (by simp) _).alloc (by simp; omega) _).alloc (by simp; omega) _).alloc (by simp; omega) _
  exact ⟨al,rfl,by rw [<-hWz,hhs]; exact alk (alk (alk (alk (zAd _ _ rfl)))),by rw [<-hWz,hhs]; exact alk (alk (alk (zAd _ _ (by simp)))),by rw [<-hWz,hhs]; exact alk (alk (zAd _ _ (by simp))),HV.out.below al,StepsAt.below al HS.out.1,StepsAt.below al HS.out.2,by rw [<-hWz,hhs]; exact alk (zAd _ _ (by simp)),by rw [<-hWz,hhs]; exact zAd _ _ (by simp)⟩
 have HX:=hdq hX;have Hhs:=hdq hhs;clear hWz hhs hX HS q0 q1 q2 q3 q4 q5 q6 q7 q8 z0 z1 tq tz w1 mu mb;have x0:Wz.cell? hs=some (.int .i64 2):=by simp [World.cell?,HX.out.h]
 have x1:Wz.cell? ⟨hs,1,none⟩=some (.slice lA ln lc):=by simp [World.cell?,HX.out.h]
 have x3:Wz.cell? ⟨hs,3,none⟩=some (.slice (some ⟨ub,uo,none⟩) 1 uc):=by simp [World.cell?,HX.out.h]
 have x4:Wz.cell? ⟨hs,4,none⟩=some (.slice nA nn nc):=by simp [World.cell?,HX.out.h]
 have y0:Wz.cell? ⟨hs+1,0,none⟩=some (.int .i64 2):=by simp [World.cell?,HX.out.b]
 have y1:Wz.cell? ⟨hs+1,1,none⟩=some (.int .i64 2):=by simp [World.cell?,HX.out.b]
 have y2:Wz.cell? ⟨hs+1,2,none⟩=some (.slice sA sn sc):=by simp [World.cell?,HX.out.b]
 have y3:Wz.cell? ⟨hs+1,3,none⟩=some (.int .i64 1):=by simp [World.cell?,HX.out.b]
 have y4:Wz.cell? ⟨hs+1,4,none⟩=some (.int .i64 1):=by simp [World.cell?,HX.out.b]
 have y5:Wz.cell? ⟨hs+1,5,none⟩=some (.int .i64 0):=by simp [World.cell?,HX.out.b]
 have y6:Wz.cell? ⟨hs+1,6,none⟩=some (.int .i64 0):=by simp [World.cell?,HX.out.b]
 have y7:Wz.cell? ⟨hs+1,7,none⟩=some (.int .i64 0):=by simp [World.cell?,HX.out.b]
 have y8:Wz.cell? ⟨hs+1,8,none⟩=some (.int .i64 1):=by simp [World.cell?,HX.out.b]
 have z0:Wz.cell? ⟨hs+1+1,0,none⟩=some (.int .i64 2):=by simp [World.cell?,HX.out.f]
 have z1:Wz.cell? ⟨hs+1+1,1,none⟩=some (.slice fA fn fc):=by simp [World.cell?,HX.out.f]
 have tx:=zAb x0;have ty:=zAb y0;have tz:=zAb z0;dsimp only at tx ty tz;refine zAp 1000 (fun _ w'=>Sees 0 [] Wz w') (by kernel_rfl) ?_;have hS0:Sees 0 [] Wz Wz.drew:=Sees.st (by simp) (nzl _);refine tx4 1 4 5 7 hS0 ?_;refine tx4 10 11 12 13 hS0 ?_;refine tx4 14 15 16 17 hS0 ?_;refine tx4 18 19 20 21 hS0 ?_;refine tx4 22 26 27 28 hS0 ?_;refine tx4 29 30 31 32 hS0 ?_;refine tx4 33 34 35 36 hS0 ?_;refine tx4 37 38 39 40 hS0 ?_;refine tx4 41 42 43 44 hS0 ?_;refine tx4 45 46 50 51 hS0 ?_;refine tx4 52 53 54 55 hS0 ?_;refine tx4 56 57 58 59 hS0 ?_;refine tx1 62 hS0 ?_;clear x0 x1 x3 x4 y0 y1 y2 y3 y4 y5 y6 y7 y8 z0 z1;refine flowG [(0,40),(2,42),(3,43),(6,46),(8,48),(9,49),(23,63),(24,64),(25,65),(47,87),(48,88),(49,89),(60,100),(61,101)] ExR (fun _ w' hb=>yAF ((brf Wz Wz).drew.trans hb)) (fun x _ v w w' h hb=>h.below hb) (by kernel_rfl) (by decide) (by decide) (by kernel_rfl) (by kernel_rfl) (of_decide_eq_true (by kernel_rfl)) ?step ?fin
 case step=>
  intro x hx L a w' o J hr ho;simp only [List.mem_cons,List.not_mem_nil,or_false] at hx;rcases hx with rfl | rfl | rfl | rfl | rfl | rfl | rfl | rfl | rfl | rfl | rfl | rfl | rfl | rfl
  ·simp only [List.getElem?_toArray,List.getElem?_cons_zero,List.getElem?_cons_succ,Option.some.injEq] at ho;subst ho;have hY:=HX.out.below ((brf Wz Wz).drew.trans J.bel);have hL2:=hY.V.L;refine ⟨rfl,?_⟩;clear J hr;go_simp;exact ⟨_,rfl,bal,⟨some ⟨w',0,none⟩,1,1⟩,rfl,yAH (zAd _ _ rfl) (by decide)⟩
  ·simp only [List.getElem?_toArray,List.getElem?_cons_zero,List.getElem?_cons_succ,Option.some.injEq] at ho;subst ho;have hY:=HX.out.below ((brf Wz Wz).drew.trans J.bel);have hL2:=hY.V.L;refine ⟨rfl,?_⟩;obtain ⟨s,e40,hI⟩:=J.dep hr (0,40) (by simp) (by kernel_rfl);dsimp only at e40;have e41:a.tmps.getD 41 undef = .slice (some ⟨hs+1+1+1,0,none⟩) 6 6:=(J.sta 41 (by decide)).trans rfl;simp only [Array.getD_eq_getD_getElem?] at e40 e41;clear J hr;go_simp;exact ⟨_,rfl,brf _ _,⟨0,⟨none,0,0⟩,s,⟨some ⟨hs+1+1+1,0,none⟩,6,6⟩,⟨none,0,0⟩,⟨none,0,0⟩⟩,rfl,rfl,yAW _,hI,yAC hY.many (by decide),yAA _,yAw _⟩
  ·simp only [List.getElem?_toArray,List.getElem?_cons_zero,List.getElem?_cons_succ,Option.some.injEq] at ho;subst ho;have hY:=HX.out.below ((brf Wz Wz).drew.trans J.bel);have hL2:=hY.V.L;refine ⟨rfl,?_⟩;obtain ⟨V,e42,hV⟩:=J.dep hr (2,42) (by simp) (by kernel_rfl);dsimp only at e42;simp only [Array.getD_eq_getD_getElem?] at e42;clear J hr;go_simp;exact ⟨_,rfl,brf _ _,V,rfl,hV⟩
  ·simp only [List.getElem?_toArray,List.getElem?_cons_zero,List.getElem?_cons_succ,Option.some.injEq] at ho;subst ho;have hY:=HX.out.below ((brf Wz Wz).drew.trans J.bel);have hL2:=hY.V.L;refine ⟨rfl,?_⟩;clear J hr;go_simp;exact ⟨_,rfl,bal,⟨some ⟨w',0,none⟩,1,1⟩,rfl,yAH (zAd _ _ rfl) (by decide)⟩
  ·simp only [List.getElem?_toArray,List.getElem?_cons_zero,List.getElem?_cons_succ,Option.some.injEq] at ho;subst ho;have hY:=HX.out.below ((brf Wz Wz).drew.trans J.bel);have hL2:=hY.V.L;refine ⟨rfl,?_⟩;obtain ⟨s,e46,hI⟩:=J.dep hr (6,46) (by simp) (by kernel_rfl);dsimp only at e46;have e45:a.tmps.getD 45 undef = .agg #[.int .i64 2,.slice lA ln lc]:=(J.sta 45 (by decide)).trans rfl;have e47:a.tmps.getD 47 undef = .slice (some ⟨hs+1+1+1,0,none⟩) 6 6:=(J.sta 47 (by decide)).trans rfl;simp only [Array.getD_eq_getD_getElem?] at e45 e46 e47;clear J hr;go_simp;exact ⟨_,rfl,brf _ _,⟨2,⟨lA,ln,lc⟩,s,⟨some ⟨hs+1+1+1,0,none⟩,6,6⟩,⟨none,0,0⟩,⟨none,0,0⟩⟩,rfl,rfl,hL2,hI,yAC hY.many (by decide),yAA _,yAw _⟩
  ·simp only [List.getElem?_toArray,List.getElem?_cons_zero,List.getElem?_cons_succ,Option.some.injEq] at ho;subst ho;have hY:=HX.out.below ((brf Wz Wz).drew.trans J.bel);have hL2:=hY.V.L;refine ⟨rfl,?_⟩;obtain ⟨V,e48,hV⟩:=J.dep hr (8,48) (by simp) (by kernel_rfl);dsimp only at e48;simp only [Array.getD_eq_getD_getElem?] at e48;clear J hr;go_simp;exact ⟨_,rfl,brf _ _,V,rfl,hV⟩
  ·simp only [List.getElem?_toArray,List.getElem?_cons_zero,List.getElem?_cons_succ,Option.some.injEq] at ho;subst ho;have hY:=HX.out.below ((brf Wz Wz).drew.trans J.bel);have hL2:=hY.V.L;refine ⟨rfl,?_⟩;have e62:a.tmps.getD 62 undef = .agg #[.int .i64 2,.int .i64 2,.slice sA sn sc,.int .i64 1,.int .i64 1,.int .i64 0,.int .i64 0,.int .i64 0,.int .i64 1]:=(J.sta 62 (by decide)).trans rfl;simp only [Array.getD_eq_getD_getElem?] at e62;clear J hr;go_simp;exact ⟨_,rfl,bal,⟨some ⟨w',0,none⟩,1,1⟩,rfl,yAY (st:=⟨sA,sn,sc⟩) (zAd _ _ rfl) (StepsAt.below (bal) hY.st)⟩
  ·simp only [List.getElem?_toArray,List.getElem?_cons_zero,List.getElem?_cons_succ,Option.some.injEq] at ho;subst ho;have hY:=HX.out.below ((brf Wz Wz).drew.trans J.bel);have hL2:=hY.V.L;refine ⟨rfl,?_⟩;obtain ⟨s,e63,hI⟩:=J.dep hr (23,63) (by simp) (by kernel_rfl);dsimp only at e63;have e61:a.tmps.getD 61 undef = .agg #[.int .i64 2,.slice lA ln lc]:=(J.sta 61 (by decide)).trans rfl;simp only [Array.getD_eq_getD_getElem?] at e61 e63;clear J hr;go_simp;exact ⟨_,rfl,brf _ _,⟨2,⟨lA,ln,lc⟩,⟨none,0,0⟩,s,⟨none,0,0⟩,⟨none,0,0⟩⟩,rfl,rfl,hL2,yAx _,hI,yAA _,yAw _⟩
  ·simp only [List.getElem?_toArray,List.getElem?_cons_zero,List.getElem?_cons_succ,Option.some.injEq] at ho;subst ho;have hY:=HX.out.below ((brf Wz Wz).drew.trans J.bel);have hL2:=hY.V.L;refine ⟨rfl,?_⟩;obtain ⟨V,e64,hV⟩:=J.dep hr (24,64) (by simp) (by kernel_rfl);dsimp only at e64;simp only [Array.getD_eq_getD_getElem?] at e64;clear J hr;go_simp;exact ⟨_,rfl,brf _ _,V,rfl,hV⟩
  ·simp only [List.getElem?_toArray,List.getElem?_cons_zero,List.getElem?_cons_succ,Option.some.injEq] at ho;subst ho;have hY:=HX.out.below ((brf Wz Wz).drew.trans J.bel);have hL2:=hY.V.L;refine ⟨rfl,?_⟩;have e86:a.tmps.getD 86 undef = .agg #[.int .i64 2,.slice fA fn fc]:=(J.sta 86 (by decide)).trans rfl;simp only [Array.getD_eq_getD_getElem?] at e86;clear J hr;go_simp;exact ⟨_,rfl,bal,⟨some ⟨w',0,none⟩,1,1⟩,rfl,yA0 (st:=⟨fA,fn,fc⟩) (zAd _ _ rfl) (StepsAt.below (bal) hY.sf)⟩
  ·simp only [List.getElem?_toArray,List.getElem?_cons_zero,List.getElem?_cons_succ,Option.some.injEq] at ho;subst ho;have hY:=HX.out.below ((brf Wz Wz).drew.trans J.bel);have hL2:=hY.V.L;refine ⟨rfl,?_⟩;obtain ⟨s,e87,hI⟩:=J.dep hr (47,87) (by simp) (by kernel_rfl);dsimp only at e87;have e85:a.tmps.getD 85 undef = .agg #[.int .i64 2,.slice lA ln lc]:=(J.sta 85 (by decide)).trans rfl;simp only [Array.getD_eq_getD_getElem?] at e85 e87;clear J hr;go_simp;exact ⟨_,rfl,brf _ _,⟨2,⟨lA,ln,lc⟩,⟨none,0,0⟩,⟨none,0,0⟩,⟨none,0,0⟩,s⟩,rfl,rfl,hL2,yAx _,yAy _,yAA _,hI⟩
  ·simp only [List.getElem?_toArray,List.getElem?_cons_zero,List.getElem?_cons_succ,Option.some.injEq] at ho;subst ho;have hY:=HX.out.below ((brf Wz Wz).drew.trans J.bel);have hL2:=hY.V.L;refine ⟨rfl,?_⟩;obtain ⟨V,e88,hV⟩:=J.dep hr (48,88) (by simp) (by kernel_rfl);dsimp only at e88;simp only [Array.getD_eq_getD_getElem?] at e88;clear J hr;go_simp;exact ⟨_,rfl,brf _ _,V,rfl,hV⟩
  ·simp only [List.getElem?_toArray,List.getElem?_cons_zero,List.getElem?_cons_succ,Option.some.injEq] at ho;subst ho;have hY:=HX.out.below ((brf Wz Wz).drew.trans J.bel);have hL2:=hY.V.L;refine ⟨rfl,?_⟩;obtain ⟨V0,e43,hV0⟩:=J.dep hr (3,43) (by simp) (by kernel_rfl);obtain ⟨V1,e49,hV1⟩:=J.dep hr (9,49) (by simp) (by kernel_rfl);obtain ⟨V4,e65,hV4⟩:=J.dep hr (25,65) (by simp) (by kernel_rfl);obtain ⟨V8,e89,hV8⟩:=J.dep hr (49,89) (by simp) (by kernel_rfl);dsimp only at e43 e49 e65 e89;have e54:a.tmps.getD 54 undef = .agg #[.int .i64 2,.slice lA ln lc,.slice none 0 0,.slice (some ⟨hs+1+1+1,0,none⟩) 6 6,.slice none 0 0,.slice none 0 0,.int .i64 5]:=(J.sta 54 (by decide)).trans rfl;have e59:a.tmps.getD 59 undef = .agg #[.int .i64 2,.slice lA ln lc,.slice none 0 0,.slice none 0 0,.slice none 0 0,.slice (some ⟨hs+1+1+1+1,0,none⟩) 7 7,.int .i64 5]:=(J.sta 59 (by decide)).trans rfl;have e71:a.tmps.getD 71 undef = .agg #[.int .i64 2,.slice lA ln lc,.slice none 0 0,.slice (some ⟨hs+1+1+1,0,none⟩) 1 6,.slice none 0 0,.slice none 0 0,.int .i64 4]:=(J.sta 71 (by decide)).trans rfl;have e77:a.tmps.getD 77 undef = .agg #[.int .i64 2,.slice lA ln lc,.slice none 0 0,.slice (some ⟨ub,uo,none⟩) 1 uc,.slice none 0 0,.slice none 0 0,.int .i64 3]:=(J.sta 77 (by decide)).trans rfl;have e83:a.tmps.getD 83 undef = .agg #[.int .i64 2,.slice lA ln lc,.slice none 0 0,.slice none 0 0,.slice nA nn nc,.slice none 0 0,.int .i64 3]:=(J.sta 83 (by decide)).trans rfl;have e95:a.tmps.getD 95 undef = .agg #[.int .i64 2,.slice lA ln lc,.slice none 0 0,.slice none 0 0,.slice none 0 0,.slice (some ⟨hs+1+1+1+1,0,none⟩) 1 7,.int .i64 4]:=(J.sta 95 (by decide)).trans rfl;have e99:a.tmps.getD 99 undef = .agg #[.int .i64 2,.slice lA ln lc,.slice none 0 0,.slice none 0 0,.slice none 0 0,.slice none 0 0,.int .i64 0]:=(J.sta 99 (by decide)).trans rfl;simp only [Array.getD_eq_getD_getElem?] at e43 e49 e54 e59 e65 e71 e77 e83 e89 e95 e99;clear J hr;go_simp;refine ⟨_,rfl,bal,w'.heap.size,rfl,yA1 fun k hk=>?_⟩
   match k,hk with
   | 0,_=>exact ⟨V0,rfl,rfl,rfl,rfl,rfl,rfl,rfl,hV0⟩
   | 1,_=>exact ⟨V1,rfl,rfl,rfl,rfl,rfl,rfl,rfl,hV1⟩
   | 2,_=>exact ⟨⟨2,⟨lA,ln,lc⟩,⟨none,0,0⟩,⟨some ⟨hs+1+1+1,0,none⟩,6,6⟩,⟨none,0,0⟩,⟨none,0,0⟩⟩,rfl,rfl,rfl,rfl,rfl,rfl,rfl,⟨rfl,hL2,yAx _,yAC hY.many (by decide),yAA _,yAw _⟩⟩
   | 3,_=>exact ⟨⟨2,⟨lA,ln,lc⟩,⟨none,0,0⟩,⟨none,0,0⟩,⟨none,0,0⟩,⟨some ⟨hs+1+1+1+1,0,none⟩,7,7⟩⟩,rfl,rfl,rfl,rfl,rfl,rfl,rfl,⟨rfl,hL2,yAx _,yAy _,yAA _,yAJ hY.lots (by decide)⟩⟩
   | 4,_=>exact ⟨V4,rfl,rfl,rfl,rfl,rfl,rfl,rfl,hV4⟩
   | 5,_=>exact ⟨⟨2,⟨lA,ln,lc⟩,⟨none,0,0⟩,⟨some ⟨hs+1+1+1,0,none⟩,1,6⟩,⟨none,0,0⟩,⟨none,0,0⟩⟩,rfl,rfl,rfl,rfl,rfl,rfl,rfl,⟨rfl,hL2,yAx _,yAC (n:=1) hY.many (by decide),yAA _,yAw _⟩⟩
   | 6,_=>exact ⟨⟨2,⟨lA,ln,lc⟩,⟨none,0,0⟩,⟨some ⟨ub,uo,none⟩,1,uc⟩,⟨none,0,0⟩,⟨none,0,0⟩⟩,rfl,rfl,rfl,rfl,rfl,rfl,rfl,⟨rfl,hL2,yAx _,hY.V.U,yAA _,yAw _⟩⟩
   | 7,_=>exact ⟨⟨2,⟨lA,ln,lc⟩,⟨none,0,0⟩,⟨none,0,0⟩,⟨nA,nn,nc⟩,⟨none,0,0⟩⟩,rfl,rfl,rfl,rfl,rfl,rfl,rfl,⟨rfl,hL2,yAx _,yAy _,hY.V.N,yAw _⟩⟩
   | 8,_=>exact ⟨V8,rfl,rfl,rfl,rfl,rfl,rfl,rfl,hV8⟩
   | 9,_=>exact ⟨⟨2,⟨lA,ln,lc⟩,⟨none,0,0⟩,⟨none,0,0⟩,⟨none,0,0⟩,⟨some ⟨hs+1+1+1+1,0,none⟩,1,7⟩⟩,rfl,rfl,rfl,rfl,rfl,rfl,rfl,⟨rfl,hL2,yAx _,yAy _,yAA _,yAJ (n:=1) hY.lots (by decide)⟩⟩
   | 10,_=>exact ⟨⟨2,⟨lA,ln,lc⟩,⟨none,0,0⟩,⟨none,0,0⟩,⟨none,0,0⟩,⟨none,0,0⟩⟩,rfl,rfl,rfl,rfl,rfl,rfl,rfl,⟨rfl,hL2,yAx _,yAy _,yAA _,yAw _⟩⟩
   | k+11,hk=>exact absurd hk (by omega)
  ·simp only [List.getElem?_toArray,List.getElem?_cons_zero,List.getElem?_cons_succ,Option.some.injEq] at ho;subst ho;have hY:=HX.out.below ((brf Wz Wz).drew.trans J.bel);have hL2:=hY.V.L;refine ⟨rfl,?_⟩;obtain ⟨b,e100,-⟩:=J.dep hr (60,100) (by simp) (by kernel_rfl);dsimp only at e100;simp only [Array.getD_eq_getD_getElem?] at e100;clear J hr;go_simp;exact ⟨_,rfl,brf _ _,rfl⟩
 case fin=>
  intro f W1 hb1 hf;have hX1:=HX.out.below ((brf Wz Wz).drew.trans hb1);obtain ⟨tb,e60,hT⟩:=hf (60,100) (by simp);have e61:=hf (61,101) (by simp);dsimp only [ExR] at e60 e61;simp only [List.foldl];rw [e60,e61];clear hf e60 e61 hb1 tx ty tz HX hS0;simp only [zz];generalize f 0=f0;generalize f 2=f2';generalize f 3=f3';generalize f 6=f6;generalize f 8=f8;generalize f 9=f9;generalize f 23=f23;generalize f 24=f24;generalize f 25=f25;generalize f 47=f47;generalize f 48=f48;generalize f 49=f49;have H1:ExL w2 hs tb ⟨2,⟨lA,ln,lc⟩,⟨oA,on,oc⟩,⟨some ⟨ub,uo,none⟩,1,uc⟩,⟨nA,nn,nc⟩,⟨some ⟨bb,bo,none⟩,1,bc⟩⟩ ⟨sA,sn,sc⟩ ⟨fA,fn,fc⟩ (.int .i64 0) W1:=⟨0,nzl _,rfl,hX1,hT⟩;clear hX1 hT f;go_wp2;go_loopw [102] (fun t W=>ExL w2 hs tb ⟨2,⟨lA,ln,lc⟩,⟨oA,on,oc⟩,⟨some ⟨ub,uo,none⟩,1,uc⟩,⟨nA,nn,nc⟩,⟨some ⟨bb,bo,none⟩,1,bc⟩⟩ ⟨sA,sn,sc⟩ ⟨fA,fn,fc⟩ t W) (fun t _=>11-(intOf t).toNat)
  case atStart=>exact H1
  case round=>
   clear H1;obtain ⟨k,hk,rfl,hX,hT⟩:=hrel;by_cases hlt:k<11
   ·have hki:(k:Int)<11:=(by omega);obtain ⟨V,v0,v1,v2,v3,v4,v5,v6,hV⟩:=hT k hlt;have Her:=hdq (yAQ hlt);have tb0:=zAb v0;dsimp only at tb0;obtain ⟨z,hz⟩:∃ z,z=(exHour k).2:=⟨_,rfl⟩;rw [<-hz] at v6 Her;clear hz;generalize (exHour k).1=hh at *;obtain ⟨Vn,⟨LA,Ln,Lc⟩,⟨OA,On,Oc⟩,⟨UA,Un,Uc⟩,⟨NA,Nn,Nc⟩,⟨BA,Bn,Bc⟩⟩:=V;dsimp only at v0 v1 v2 v3 v4 v5;have HX:=hdq hX;have HT:=hdq hT;have HV:=hdq hV;clear hX hT hV;have al:Below wr wr (wr.alloc (.cells #[.int .i64 Vn,.slice LA Ln Lc,.slice OA On Oc,.slice UA Un Uc,.slice NA Nn Nc,.slice BA Bn Bc,.int .i64 z] 57)):=bal;have HBd:=hdq (zU3 (HV.out.below al));dsimp only [HrV.val] at HBd;have HAl:=hdq al;clear al;(go_wp2_with fail);refine HBd.out.mono ?_;rintro e w4 ⟨hR,hb4⟩;have hb5:=HAl.out.trans (hb4.mono HAl.out.size);have v6':w4.cell? ⟨wr.heap.size,6,none⟩=some (.int .i64 z):=(hb4.cell (p:=⟨wr.heap.size,6,none⟩) (by simp)).trans (by go_simp);have tb6:=zAb v6';dsimp only at tb6;have HB5:=hdq hb5;clear v0 v1 v2 v3 v4 v5 v6 tb0 hb4 hb5 HAl HBd HV;have hzz:(z != z)=false:=(by simp);rcases hR with ⟨h0,rfl⟩ | ⟨h0,p,m,rfl,hL⟩
    ·rw [Her.out] at h0 ⊢;have hz0:(z != 0)=true:=(by simpa using h0);have al:Below w4 w4 (w4.alloc (.cells #[.int .i64 0,.slice none 0 0,.slice none 0 0,.slice none 0 0] 36)):=bal;have mn:∀ W:World,MatCan W AllB AllB ⟨none,0,0⟩ []:=(fun W=>⟨rfl,nlr _,nzl _,fun i hi=>absurd hi (Nat.not_lt_zero i)⟩);have vn:∀ W:World,VecCan W AllB AllB ⟨none,0,0⟩ []:=(fun W=>⟨rfl,nlr _,nzl _,fun i hi=>absurd hi (Nat.not_lt_zero i)⟩);have HIs:=hdq (zZn (p:=LP0) (q:=LP0) rfl (mn (w4.alloc (.cells #[.int .i64 0,.slice none 0 0,.slice none 0 0,.slice none 0 0] 36))) (mn _) (vn _) (mn _) (mn _) (vn _));dsimp only [LPV.val] at HIs ⊢;have HB6:=hdq (HB5.out.trans (al.mono HB5.out.size));clear mn vn al h0 Her;(go_wp2_with fail);refine HIs.out.mono ?_;rintro e w5 ⟨rfl,hb6⟩;have hb7:=HB6.out.trans (hb6.mono HB6.out.size);have HN:Hid (ExL w2 hs tb ⟨2,⟨lA,ln,lc⟩,⟨oA,on,oc⟩,⟨some ⟨ub,uo,none⟩,1,uc⟩,⟨nA,nn,nc⟩,⟨some ⟨bb,bo,none⟩,1,bc⟩⟩ ⟨sA,sn,sc⟩ ⟨fA,fn,fc⟩ (.int .i64 ((k:Int)+1)) w5):=⟨k+1,by omega,by simp,HX.out.below hb7,fun j hj=>(HT.out j hj).below hb7⟩;clear hb6 hb7;go_wp2;go_roundw;case rel=>first | exact HN.out | ((repeat apply Exists.intro); exact ⟨HN.out,rfl⟩)
     case measure=>simp [intOf]; omega
    ·rw [Her.out] at h0;subst h0;obtain ⟨pn,⟨pA,pa,pc⟩,⟨rA,rn,rc⟩,⟨dA,dn,dc⟩⟩:=p;dsimp only [LPV.val];have al:Below w4 w4 (w4.alloc (.cells #[.int .i64 pn,.slice pA pa pc,.slice rA rn rc,.slice dA dn dc] 36)):=bal;have hb7:=HB5.out.trans (al.mono HB5.out.size);have HN:Hid (ExL w2 hs tb ⟨2,⟨lA,ln,lc⟩,⟨oA,on,oc⟩,⟨some ⟨ub,uo,none⟩,1,uc⟩,⟨nA,nn,nc⟩,⟨some ⟨bb,bo,none⟩,1,bc⟩⟩ ⟨sA,sn,sc⟩ ⟨fA,fn,fc⟩ (.int .i64 ((k:Int)+1)) (w4.alloc (.cells #[.int .i64 pn,.slice pA pa pc,.slice rA rn rc,.slice dA dn dc] 36))):=⟨k+1,by omega,by simp,HX.out.below hb7,fun j hj=>(HT.out j hj).below hb7⟩;clear hb7 al hL Her;go_wp2;go_roundw;case rel=>first | exact HN.out | ((repeat apply Exists.intro); exact ⟨HN.out,rfl⟩)
     case measure=>simp [intOf]; omega
   ·(obtain rfl:k=11:=by omega);clear hT;have x0:wr.cell? hs=some (.int .i64 2):=(by simp [World.cell?,hX.h]);have x1:wr.cell? ⟨hs,1,none⟩=some (.slice lA ln lc):=(by simp [World.cell?,hX.h]);have HB1:=hdq (zU3 (show HrAt wr ⟨2,⟨lA,ln,lc⟩,⟨none,0,0⟩,⟨none,0,0⟩,⟨none,0,0⟩,⟨none,0,0⟩⟩ exNone from ⟨rfl,hX.V.L,yAx _,yAy _,yAA _,yAw _⟩));dsimp only [HrV.val] at HB1;have HX:=hdq hX;clear hX;(go_wp2_with fail);refine HB1.out.mono ?_;rintro e w4 ⟨hR,hb4⟩;rcases hR with ⟨h0,-⟩ | ⟨-,p1,m1,rfl,hL⟩
    ·exact absurd yAB.1 h0
    obtain rfl:m1=[[1,0],[1,1]]:=by have:=hL.hinv; rw [yAB.2.1] at this; cases this; rfl
    have hn1:p1.n=0:=hL.n;have ho1:p1.O.n=1:=hL.o.len.symm;have hr1:p1.R.n=4:=by have:=hL.r.len; rw [yAB.2.2.2] at this; exact this.symm
    have hro:=hL.r.le;have hrc:=hL.r.cap;have hoo:=hL.o.le;have hoc:=hL.o.cap;obtain ⟨pn,⟨pA,pa,pc⟩,⟨rA,rn,rc⟩,⟨dA,dn,dc⟩⟩:=p1;dsimp only at hn1 ho1 hr1 hro hrc hoo hoc;subst hn1;subst ho1;subst hr1;dsimp only [LPV.val];have hlow:Below w2 w2 w4:=HX.out.low.trans (hb4.mono HX.out.low.size);have ehs:w4.heap[hs]?=some (.cells #[.int .i64 2,.slice lA ln lc,.slice oA on oc,.slice (some ⟨ub,uo,none⟩) 1 uc,.slice nA nn nc,.slice (some ⟨bb,bo,none⟩) 1 bc] 30 (0,0)):=(hb4.block _ (zAa HX.out.h)).trans HX.out.h;have ths:=zAa ehs;have c2:w4.cell? ⟨hs,2,none⟩=some (.slice oA on oc):=(by simp [World.cell?,ehs]);have cf:∀ o,w4.frozen? ⟨hs,o,none⟩=false:=(fun o=>by simp [World.frozen?,ehs]);obtain ⟨b1,hb1⟩:∃ b,b=w4.heap.size:=⟨_,rfl⟩;have HEh:=hdq ehs;have HLo:=hdq hlow;clear hL hb4 x0 x1 HB1 ehs hlow HX;(go_upto_region 18 with fail);have hsl:w2.heap.size<=hs:=by rw [Hhs.out]; exact nlr _
    obtain ⟨W6,hW6,a1,a2,a3,a4,-,a6⟩:=yAM (o:=2) (t1:=36) (t2:=3) (c1:=#[.int .i64 0,.slice pA 1 pc,.slice rA 4 rc,.slice dA dn dc]) (c2:=#[.int .i64 0]) (.slice (some ⟨w4+1,0,none⟩) 1 1) HEh.out HLo.out hsl;rw [hW6,<-hb1];rw [<-hb1] at a2 a3 a4;clear hW6 HEh HLo ths c2 cf hb1;have a2':W6.heap[hs]?=some (.cells #[.int .i64 2,.slice lA ln lc,.slice (some ⟨b1+1,0,none⟩) 1 1,.slice (some ⟨ub,uo,none⟩) 1 uc,.slice nA nn nc,.slice (some ⟨bb,bo,none⟩) 1 bc] 30 (0,0)):=by rw [a2]; simp
    have hx0:W6.cell? hs=some (.int .i64 2):=(by simp [World.cell?,a2']);have hx1:W6.cell? ⟨hs,1,none⟩=some (.slice lA ln lc):=(by simp [World.cell?,a2']);have hx2:W6.cell? ⟨hs,2,none⟩=some (.slice (some ⟨b1+1,0,none⟩) 1 1):=(by simp [World.cell?,a2']);have hx3:W6.cell? ⟨hs,3,none⟩=some (.slice (some ⟨ub,uo,none⟩) 1 uc):=(by simp [World.cell?,a2']);have hx4:W6.cell? ⟨hs,4,none⟩=some (.slice nA nn nc):=(by simp [World.cell?,a2']);have hx5:W6.cell? ⟨hs,5,none⟩=some (.slice (some ⟨bb,bo,none⟩) 1 bc):=(by simp [World.cell?,a2']);have hV6:=HV.out.below a1;have HB2:=hdq (zU3 (show HrAt W6 ⟨2,⟨lA,ln,lc⟩,⟨some ⟨b1+1,0,none⟩,1,1⟩,⟨some ⟨ub,uo,none⟩,1,uc⟩,⟨nA,nn,nc⟩,⟨some ⟨bb,bo,none⟩,1,bc⟩⟩ exApart from ⟨rfl,hV6.L,yAH a4 (by decide),hV6.U,hV6.N,hV6.B⟩));dsimp only [HrV.val] at HB2;have A1:=hdq a1;have A2:=hdq a2';have A3:=hdq a3;have A4:=hdq a4;have hn2:b1+1 ≠ hs:=zAy a4 a2' (by decide);clear a1 a2 a2' a3 a4 a6 hV6;(go_wp2_with fail);refine HB2.out.mono ?_;rintro e w7 ⟨hR,hb7⟩;rcases hR with ⟨h0,-⟩ | ⟨-,p2,m2,rfl,hL⟩
    ·exact absurd yAz.1 h0
    obtain rfl:m2=[[1,0],[0,1]]:=by have:=hL.hinv; rw [yAz.2.1] at this; cases this; rfl
    have hn1:p2.n=2:=hL.n;have hr1:p2.R.n=7:=by have:=hL.r.len; rw [yAz.2.2.2] at this; exact this.symm
    have h2o:=hL.r.le;have h2c:=hL.r.cap;obtain ⟨pn,⟨p2A,p2a,p2c⟩,⟨r2A,r2n,r2c⟩,⟨d2A,d2n,d2c⟩⟩:=p2;dsimp only at hn1 hr1 h2o h2c;subst hn1;subst hr1;dsimp only [LPV.val];have hsW:hs<W6.heap.size:=zAa A2.out
    have hM2:MatCan w7 (fun b=>b ≠ hs) (fun b=>b ≠ hs) ⟨r2A,7,r2c⟩ ([[-1,0],[1,0],[0,1],[0,-1],[-1,0],[1,0],[0,1]].map ri):=by
     have:=hL.r.imp (X':=fun b=>b ≠ hs) (R':=QCan w7 fun b=>b ≠ hs) (fun b _ hb=>by simp only [New] at hb; omega) fun _ _ hq=>hq.imp fun b _ hb=>by simp only [New] at hb; omega
     rw [yAz.2.2.2] at this;exact this
    have ehs:=(hb7.block _ (zAa A2.out)).trans A2.out;have e1b:=(hb7.block _ (zAa A3.out)).trans A3.out;have ths:=zAa ehs;have c2:w7.cell? ⟨hs,4,none⟩=some (.slice nA nn nc):=(by simp [World.cell?,ehs]);have cf:∀ o,w7.frozen? ⟨hs,o,none⟩=false:=(fun o=>by simp [World.frozen?,ehs]);have hn1:b1 ≠ hs:=by have h1:=zAa A3.out; rintro rfl; have h2:=A2.out; rw [A3.out] at h2; cases h2
    obtain ⟨b2,hb2⟩:∃ b,b=w7.heap.size:=⟨_,rfl⟩;have HEh:=hdq ehs;have HE1:=hdq e1b;have HE4:=hdq ((hb7.block _ (zAa A4.out)).trans A4.out);have HM2:=hdq hM2;have HLo:=hdq (A1.out.trans (hb7.mono A1.out.size));clear hL hb7 hx0 hx1 hx2 hx3 hx4 hx5 HB2 ehs e1b hM2 A1 A2 A3 A4;(go_upto_region 20 with fail);obtain ⟨W8,hW8,a1,a2,a3,a4,a5,a6⟩:=yAM (o:=4) (t1:=36) (t2:=4) (c1:=#[.int .i64 2,.slice p2A p2a p2c,.slice r2A 7 r2c,.slice d2A d2n d2c]) (c2:=#[.bool false]) (.slice (some ⟨w7+1,0,none⟩) 1 1) HEh.out HLo.out hsl;have e1b:=(a5 _ (zAa HE1.out) hn1).trans HE1.out;have e4b:=(a5 _ (zAa HE4.out) hn2).trans HE4.out
    have hM3:MatCan W8 AllB AllB ⟨r2A,7,r2c⟩ ([[-1,0],[1,0],[0,1],[0,-1],[-1,0],[1,0],[0,1]].map ri):=
     (MatAt.keep (R':=QCan W8 fun b=>b ≠ hs) HM2.out (fun a hx hl=>cob (a5 _ hl hx)) fun _ _ hq=>hq.keep fun a hx hl=>cob (a5 _ hl hx)).imp (fun _ _ _=>trivial) fun _ _ hq=>hq.imp fun _ _ _=>trivial
    rw [hW8,<-hb2];rw [<-hb2] at a2 a3 a4;clear hW8 HEh HLo ths c2 cf hb2 HM2 HE1 a5;have a2':W8.heap[hs]?=some (.cells #[.int .i64 2,.slice lA ln lc,.slice (some ⟨b1+1,0,none⟩) 1 1,.slice (some ⟨ub,uo,none⟩) 1 uc,.slice (some ⟨b2+1,0,none⟩) 1 1,.slice (some ⟨bb,bo,none⟩) 1 bc] 30 (0,0)):=by rw [a2]; simp
    have hx0:W8.cell? hs=some (.int .i64 2):=(by simp [World.cell?,a2']);have hx1:W8.cell? ⟨hs,1,none⟩=some (.slice lA ln lc):=(by simp [World.cell?,a2']);have hx2:W8.cell? ⟨hs,2,none⟩=some (.slice (some ⟨b1+1,0,none⟩) 1 1):=(by simp [World.cell?,a2']);have hx3:W8.cell? ⟨hs,3,none⟩=some (.slice (some ⟨ub,uo,none⟩) 1 uc):=(by simp [World.cell?,a2']);have hx4:W8.cell? ⟨hs,4,none⟩=some (.slice (some ⟨b2+1,0,none⟩) 1 1):=(by simp [World.cell?,a2']);have hx5:W8.cell? ⟨hs,5,none⟩=some (.slice (some ⟨bb,bo,none⟩) 1 bc):=(by simp [World.cell?,a2']);have hV8:=HV.out.below a1;have HB3:=hdq (zU3 (show HrAt W8 ⟨2,⟨lA,ln,lc⟩,⟨some ⟨b1+1,0,none⟩,1,1⟩,⟨some ⟨ub,uo,none⟩,1,uc⟩,⟨some ⟨b2+1,0,none⟩,1,1⟩,⟨some ⟨bb,bo,none⟩,1,bc⟩⟩ exOff from ⟨rfl,hV8.L,yAH e4b (by decide),hV8.U,yAZ a4,hV8.B⟩));dsimp only [HrV.val] at HB3;have A1:=hdq a1;have A2:=hdq a2';have A3:=hdq a3;have HE1:=hdq e1b;have HM2:=hdq hM3;clear a1 a2 a2' a3 a4 a6 hV8 e4b HE4 e1b hM3;(go_wp2_with fail);refine HB3.out.mono ?_;rintro e w9 ⟨hR,hb9⟩;rcases hR with ⟨h0,-⟩ | ⟨-,p3,m3,rfl,hL⟩
    ·exact absurd yAD.1 h0
    obtain rfl:m3=[[1,0],[0,1]]:=by have:=hL.hinv; rw [yAD.2.1] at this; cases this; rfl
    have hn3:p3.n=1:=hL.n;have hr3:p3.R.n=5:=by have:=hL.r.len; rw [yAD.2.2.2] at this; exact this.symm
    have h3o:=hL.r.le;have h3c:=hL.r.cap;obtain ⟨pn,⟨p3A,p3a,p3c⟩,⟨r3A,r3n,r3c⟩,⟨d3A,d3n,d3c⟩⟩:=p3;dsimp only at hn3 hr3 h3o h3c;subst hn3;subst hr3;dsimp only [LPV.val];obtain ⟨b3,hb3⟩:∃ b,b=w9.heap.size:=⟨_,rfl⟩;obtain ⟨WX,hWX⟩:∃ WX,w9.alloc (.cells #[.int .i64 1,.slice p3A p3a p3c,.slice r3A 5 r3c,.slice d3A d3n d3c] 36)=WX:=⟨_,rfl⟩;have al:Below w9 w9 WX:=by rw [<-hWX]; exact bal
    have hbX:=hb9.trans (al.mono hb9.size);have E0:=(hbX.block _ (zAa A2.out)).trans A2.out;have E1:=(hbX.block _ (zAa HE1.out)).trans HE1.out;have E2:=(hbX.block _ (zAa A3.out)).trans A3.out;have E3:WX.heap[b3]?=some (.cells #[.int .i64 1,.slice p3A p3a p3c,.slice r3A 5 r3c,.slice d3A d3n d3c] 36 (0,0)):=by rw [<-hWX,hb3]; exact zAd _ _ rfl
    have HMX:=hdq (HM2.out.belowC hbX);have HLX:=hdq (A1.out.trans (hbX.mono A1.out.size));have HE0:=hdq E0;have HE2:=hdq E2;have HE3:=hdq E3;have HE1x:=hdq E1;have HbX:=hdq hWX;have Hb3:=hdq hb3;clear hL hb9 hx0 hx1 hx2 hx3 hx4 hx5 HB3 A1 A2 A3 HE1 HM2 al hbX E0 E1 E2 E3 hWX hb3;(go_upto_region 21 with fail);rw [HbX.out,<-Hb3.out];clear HbX Hb3;have hx3:WX.cell? ⟨hs,3,none⟩=some (.slice (some ⟨ub,uo,none⟩) 1 uc):=(by simp [World.cell?,HE0.out]);have hx5:WX.cell? ⟨hs,5,none⟩=some (.slice (some ⟨bb,bo,none⟩) 1 bc):=(by simp [World.cell?,HE0.out]);have ths:=zAa HE0.out;refine zAp 1000 (fun _ w'=>Sees 0 [] WX w') (by kernel_rfl) ?_;have hS0:Sees 0 [] WX WX.drew:=Sees.st (by simp) (nzl _);refine tx4 0 1 3 4 hS0 ?_;clear hx3 hx5 ths hS0;refine flowG [(2,151),(5,154),(6,155),(7,156),(8,148),(9,157),(10,158),(11,16),(12,17)] BkR (fun _ w' hb=>yAF ((brf WX WX).drew.trans hb)) (fun x _ v w w' h hb=>h.below hb) (by kernel_rfl) (by decide) (by decide) (by kernel_rfl) (by kernel_rfl) (of_decide_eq_true (by kernel_rfl)) ?step2 ?fin2
    case step2=>
     intro x hx L a w' o J hr ho;simp only [List.mem_cons,List.not_mem_nil,or_false] at hx;rcases hx with rfl | rfl | rfl | rfl | rfl | rfl | rfl | rfl | rfl
     ·simp only [List.getElem?_toArray,List.getElem?_cons_zero,List.getElem?_cons_succ,Option.some.injEq] at ho;subst ho;refine ⟨rfl,?_⟩;go_simp;exact ⟨_,rfl,bal,⟨some ⟨w',0,none⟩,1,1⟩,rfl,yAZ (zAd _ _ rfl)⟩
     ·simp only [List.getElem?_toArray,List.getElem?_cons_zero,List.getElem?_cons_succ,Option.some.injEq] at ho;subst ho;refine ⟨rfl,?_⟩;go_simp;exact ⟨_,rfl,bal,⟨some ⟨w',0,none⟩,1,1⟩,rfl,intsNew w' [4] 1 rfl (by decide) (by decide),by show 1<=1000; decide⟩
     ·simp only [List.getElem?_toArray,List.getElem?_cons_zero,List.getElem?_cons_succ,Option.some.injEq] at ho;subst ho;refine ⟨rfl,?_⟩;obtain ⟨s,e154,hI,hn⟩:=J.dep hr (5,154) (by simp) (by kernel_rfl);dsimp only at e154;simp only [Array.getD_eq_getD_getElem?] at e154;go_simp;refine (zBP hI hn).mono ?_;rintro e w'' ⟨⟨b,rfl,hx⟩,hb⟩;exact ⟨_,rfl,hb,b,rfl,hx.imp (fun _ _ _=>trivial) fun _ _ hq=>hq.imp fun _ _ _=>trivial⟩
     ·simp only [List.getElem?_toArray,List.getElem?_cons_zero,List.getElem?_cons_succ,Option.some.injEq] at ho;subst ho;refine ⟨rfl,?_⟩;obtain ⟨s,e151,hO⟩:=J.dep hr (2,151) (by simp) (by kernel_rfl);obtain ⟨x,e155,hx⟩:=J.dep hr (6,155) (by simp) (by kernel_rfl);dsimp only at e151 e155;have e150:a.tmps.getD 150 undef = .slice (some ⟨ub,uo,none⟩) 1 uc:=(J.sta 150 (by decide)).trans rfl;have e153:a.tmps.getD 153 undef = .slice (some ⟨bb,bo,none⟩) 1 bc:=(J.sta 153 (by decide)).trans rfl;simp only [Array.getD_eq_getD_getElem?] at e151 e155 e150 e153;go_simp;have hVX:=HV.out.below (HLX.out.trans ((((brf WX WX).drew.trans J.bel)).mono HLX.out.size));refine (zEO (h:=exH) (U:=⟨some ⟨ub,uo,none⟩,1,uc⟩) (B:=⟨some ⟨bb,bo,none⟩,1,bc⟩) hVX.U hO hVX.B hx (zWW (by decide)) zYZ).mono ?_;rintro e w'' ⟨⟨s1,t1,rfl,hs1,ht1⟩,hb⟩;rw [yAV.1] at hs1;rw [yAV.2] at ht1;exact ⟨_,rfl,hb,s1,t1,rfl,hs1.imp (fun _ _ _=>trivial) fun _ _ hq=>hq.imp fun _ _ _=>trivial,ht1.imp (fun _ _ _=>trivial) fun _ _ hq=>hq.imp fun _ _ _=>trivial⟩
     ·simp only [List.getElem?_toArray,List.getElem?_cons_zero,List.getElem?_cons_succ,Option.some.injEq] at ho;subst ho;refine ⟨rfl,?_⟩;obtain ⟨s,t,e156,h1,h2⟩:=J.dep hr (7,156) (by simp) (by kernel_rfl);dsimp only at e156;simp only [Array.getD_eq_getD_getElem?] at e156;go_simp;exact ⟨_,rfl,brf _ _,s,t,rfl,h1,h2⟩
     ·simp only [List.getElem?_toArray,List.getElem?_cons_zero,List.getElem?_cons_succ,Option.some.injEq] at ho;subst ho;refine ⟨rfl,?_⟩;obtain ⟨s,t,e148,h1,h2⟩:=J.dep hr (8,148) (by simp) (by kernel_rfl);dsimp only at e148;simp only [Array.getD_eq_getD_getElem?] at e148;go_simp;exact ⟨_,rfl,brf _ _,s,rfl,h1⟩
     ·simp only [List.getElem?_toArray,List.getElem?_cons_zero,List.getElem?_cons_succ,Option.some.injEq] at ho;subst ho;refine ⟨rfl,?_⟩;obtain ⟨s,t,e148,h1,h2⟩:=J.dep hr (8,148) (by simp) (by kernel_rfl);dsimp only at e148;simp only [Array.getD_eq_getD_getElem?] at e148;go_simp;exact ⟨_,rfl,brf _ _,t,rfl,h2⟩
     ·simp only [List.getElem?_toArray,List.getElem?_cons_zero,List.getElem?_cons_succ,Option.some.injEq] at ho;subst ho;refine ⟨rfl,?_⟩;obtain ⟨s,e157,h1⟩:=J.dep hr (9,157) (by simp) (by kernel_rfl);dsimp only at e157;simp only [Array.getD_eq_getD_getElem?] at e157;go_simp;exact ⟨_,rfl,brf _ _,s,rfl,h1⟩
     ·simp only [List.getElem?_toArray,List.getElem?_cons_zero,List.getElem?_cons_succ,Option.some.injEq] at ho;subst ho;refine ⟨rfl,?_⟩;obtain ⟨s,e158,h1⟩:=J.dep hr (10,158) (by simp) (by kernel_rfl);dsimp only at e158;simp only [Array.getD_eq_getD_getElem?] at e158;go_simp;exact ⟨_,rfl,brf _ _,s,rfl,h1⟩
    case fin2=>
     intro f WY hb1 hf;obtain ⟨⟨gA,gn,gc⟩,e16,hG⟩:=hf (11,16) (by simp);obtain ⟨⟨tA,tn,tc⟩,e17,hT⟩:=hf (12,17) (by simp);dsimp only at e16 e17;simp only [List.foldl];rw [e16,e17];simp only [zz];have hbY:Below WX WX WY:=(brf WX WX).drew.trans hb1;have F1:=(hbY.block _ (zAa HE1x.out)).trans HE1x.out;have F2:=(hbY.block _ (zAa HE2.out)).trans HE2.out;have F3:=(hbY.block _ (zAa HE3.out)).trans HE3.out;have HM:=hdq (HMX.out.belowC hbY);have HLY:=hdq (HLX.out.trans (hbY.mono HLX.out.size));have n0:WY.cell? b1=some (.int .i64 0):=(by simp [World.cell?,F1]);have n1:WY.cell? ⟨b1,1,none⟩=some (.slice pA 1 pc):=(by simp [World.cell?,F1]);have n2:WY.cell? ⟨b1,2,none⟩=some (.slice rA 4 rc):=(by simp [World.cell?,F1]);have p2:WY.cell? ⟨b2,2,none⟩=some (.slice r2A 7 r2c):=(by simp [World.cell?,F2]);have o0:WY.cell? b3=some (.int .i64 1):=(by simp [World.cell?,F3]);have o2:WY.cell? ⟨b3,2,none⟩=some (.slice r3A 5 r3c):=(by simp [World.cell?,F3]);have tn1:=zAa F1;have tn2:=zAa F2;have tn3:=zAa F3;have HG:=hdq hG;have HT:=hdq hT;generalize f 2=g2;generalize f 5=g5;generalize f 6=g6;generalize f 7=g7;generalize f 8=g8;generalize f 9=g9;generalize f 10=g10;clear hb1 hf e16 e17 f HMX HLX HE1x HE2 HE3 HE0 hG hT F1 F2 F3 hbY;obtain ⟨ad,⟨s0A,s0n,s0c⟩,e,-,q0,hv0⟩:=HM.out.row 0 (by show 0<7; decide);dsimp only at e;subst e;obtain ⟨ab,ao,asp⟩:=ad;obtain rfl:asp=none:=World.cell?_spot (by rw [add_zero'] at q0; exact q0);obtain ⟨_,⟨s1A,s1n,s1c⟩,e,-,q1,hv1⟩:=HM.out.row 1 (by show 1<7; decide);cases e;obtain ⟨_,⟨s2A,s2n,s2c⟩,e,-,q2,hv2⟩:=HM.out.row 2 (by show 2<7; decide);cases e;obtain ⟨_,⟨s3A,s3n,s3c⟩,e,-,q3,hv3⟩:=HM.out.row 3 (by show 3<7; decide);cases e;dsimp only [SV.val] at q0 q1 q2 q3;rw [zA4] at q0 q1 q2 q3;rw [Nat.add_zero] at q0;have V0:Hid (VecCan WY AllB AllB ⟨s0A,s0n,s0c⟩ (ri [-1,0])):=hdq hv0;have V1:Hid (VecCan WY AllB AllB ⟨s1A,s1n,s1c⟩ (ri [1,0])):=hdq hv1;have V2:Hid (VecCan WY AllB AllB ⟨s2A,s2n,s2c⟩ (ri [0,1])):=hdq hv2;have V3:Hid (VecCan WY AllB AllB ⟨s3A,s3n,s3c⟩ (ri [0,-1])):=hdq hv3;have tq:=zAb q0;dsimp only at tq;clear hv0 hv1 hv2 hv3 HM;have hLow:Below w2 w2 WY:=HLY.out;have HLw:=hdq hLow;clear hLow HLY;have al:Below WY WY (WY.alloc (.cells #[.int .i64 (-1),.int .i64 0] 2)):=bal;have HRo:=hdq (zUj (t:=⟨some ⟨WY,0,none⟩,2,2⟩) (V0.out.belowC al) (intsNew WY [-1,0] 2 rfl (by decide) (by decide)) (by show 2<=1000; decide));dsimp only [SV.val] at HRo;have HAl:=hdq al;clear al;(go_wp2_with fail);refine HRo.out.mono ?_;rintro e Wr0 ⟨rfl,hb7⟩;have hb8:=HAl.out.trans (hb7.mono HAl.out.size);clear n0 n1 n2 tn1;replace p2:=cellB hb8 p2;replace q0:=cellB hb8 q0;replace q1:=cellB hb8 q1;replace q2:=cellB hb8 q2;replace q3:=cellB hb8 q3;replace o0:=cellB hb8 o0;replace o2:=cellB hb8 o2;replace V1:=hdq (V1.out.belowC hb8);replace V2:=hdq (V2.out.belowC hb8);replace V3:=hdq (V3.out.belowC hb8);replace HG:=hdq (HG.out.belowC hb8);replace HT:=hdq (HT.out.belowC hb8);replace HLw:=hdq (HLw.out.trans (hb8.mono HLw.out.size));replace tn2:=zAb p2;replace tn3:=zAb o0;replace tq:=zAb q0;dsimp only at tn2 tn3 tq;clear hb7 hb8 HRo HAl V0;have al:Below Wr0 Wr0 (Wr0.alloc (.cells #[.int .i64 1,.int .i64 0] 2)):=bal;have HRo:=hdq (zUj (t:=⟨some ⟨Wr0,0,none⟩,2,2⟩) (V1.out.belowC al) (intsNew Wr0 [1,0] 2 rfl (by decide) (by decide)) (by show 2<=1000; decide));dsimp only [SV.val] at HRo;have HAl:=hdq al;clear al;(go_wp2_with fail);refine HRo.out.mono ?_;rintro e Wr1 ⟨rfl,hb7⟩;have hb8:=HAl.out.trans (hb7.mono HAl.out.size);replace p2:=cellB hb8 p2;replace q0:=cellB hb8 q0;replace q1:=cellB hb8 q1;replace q2:=cellB hb8 q2;replace q3:=cellB hb8 q3;replace o0:=cellB hb8 o0;replace o2:=cellB hb8 o2;replace V2:=hdq (V2.out.belowC hb8);replace V3:=hdq (V3.out.belowC hb8);replace HG:=hdq (HG.out.belowC hb8);replace HT:=hdq (HT.out.belowC hb8);replace HLw:=hdq (HLw.out.trans (hb8.mono HLw.out.size));replace tn2:=zAb p2;replace tn3:=zAb o0;replace tq:=zAb q0;dsimp only at tn2 tn3 tq;clear hb7 hb8 HRo HAl V1;have al:Below Wr1 Wr1 (Wr1.alloc (.cells #[.int .i64 0,.int .i64 1] 2)):=bal;have HRo:=hdq (zUj (t:=⟨some ⟨Wr1,0,none⟩,2,2⟩) (V2.out.belowC al) (intsNew Wr1 [0,1] 2 rfl (by decide) (by decide)) (by show 2<=1000; decide));dsimp only [SV.val] at HRo;have HAl:=hdq al;clear al;(go_wp2_with fail);refine HRo.out.mono ?_;rintro e Wr2 ⟨rfl,hb7⟩;have hb8:=HAl.out.trans (hb7.mono HAl.out.size);replace p2:=cellB hb8 p2;replace q0:=cellB hb8 q0;replace q1:=cellB hb8 q1;replace q2:=cellB hb8 q2;replace q3:=cellB hb8 q3;replace o0:=cellB hb8 o0;replace o2:=cellB hb8 o2;replace V3:=hdq (V3.out.belowC hb8);replace HG:=hdq (HG.out.belowC hb8);replace HT:=hdq (HT.out.belowC hb8);replace HLw:=hdq (HLw.out.trans (hb8.mono HLw.out.size));replace tn2:=zAb p2;replace tn3:=zAb o0;replace tq:=zAb q0;dsimp only at tn2 tn3 tq;clear hb7 hb8 HRo HAl V2;have al:Below Wr2 Wr2 (Wr2.alloc (.cells #[.int .i64 0,.int .i64 (-1)] 2)):=bal;have HRo:=hdq (zUj (t:=⟨some ⟨Wr2,0,none⟩,2,2⟩) (V3.out.belowC al) (intsNew Wr2 [0,-1] 2 rfl (by decide) (by decide)) (by show 2<=1000; decide));dsimp only [SV.val] at HRo;have HAl:=hdq al;clear al;(go_wp2_with fail);refine HRo.out.mono ?_;rintro e Wr3 ⟨rfl,hb7⟩;have hb8:=HAl.out.trans (hb7.mono HAl.out.size);replace p2:=cellB hb8 p2;replace q0:=cellB hb8 q0;replace q1:=cellB hb8 q1;replace q2:=cellB hb8 q2;replace q3:=cellB hb8 q3;replace o0:=cellB hb8 o0;replace o2:=cellB hb8 o2;replace HG:=hdq (HG.out.belowC hb8);replace HT:=hdq (HT.out.belowC hb8);replace HLw:=hdq (HLw.out.trans (hb8.mono HLw.out.size));replace tn2:=zAb p2;replace tn3:=zAb o0;replace tq:=zAb q0;dsimp only at tn2 tn3 tq;clear hb7 hb8 HRo HAl V3;(go_upto_region 24 with fail);clear p2 q0 q1 q2 q3 o0 o2 tn2 tn3 tq;obtain rfl:1=gn:=HG.out.len;obtain rfl:1=tn:=HT.out.len;have gle:1<=gc:=HG.out.le;have gcap:gc<=9223372036854775807:=HG.out.cap;have tle:1<=tc:=HT.out.le;have tcap:tc<=9223372036854775807:=HT.out.cap;obtain ⟨gd,⟨g0A,g0n,g0c⟩,e,-,h0,hu0⟩:=HG.out.row 0 (by show 0<1; decide);dsimp only at e;subst e;obtain ⟨td,⟨t0A,t0n,t0c⟩,e,-,k0,hv0⟩:=HT.out.row 0 (by show 0<1; decide);dsimp only at e;subst e;obtain ⟨gb,go,gs⟩:=gd;obtain rfl:gs=none:=World.cell?_spot (by rw [add_zero'] at h0; exact h0);obtain ⟨tb',tz',ts⟩:=td;obtain rfl:ts=none:=World.cell?_spot (by rw [add_zero'] at k0; exact k0);dsimp only [SV.val] at h0 k0;rw [zA4,Nat.add_zero] at h0 k0;have hg0:VecCan Wr3 AllB AllB ⟨g0A,g0n,g0c⟩ (ri [4]):=hu0;have ht0:VecCan Wr3 AllB AllB ⟨t0A,t0n,t0c⟩ (ri [0]):=hv0;have tg:=zAb h0;have tt:=zAb k0;dsimp only at tg tt;have al:Below Wr3 Wr3 (Wr3.alloc (.cells #[.int .i64 4] 2)):=bal;have HRo:=hdq (zUj (t:=⟨some ⟨Wr3,0,none⟩,1,1⟩) (hg0.belowC al) (intsNew Wr3 [4] 1 rfl (by decide) (by decide)) (by show 1<=1000; decide));have HV0:=hdq ht0;have HAl:=hdq al;dsimp only [SV.val] at HRo;clear al hg0 ht0 hu0 hv0 HG HT;(go_wp2_with fail);refine HRo.out.mono ?_;rintro e W4 ⟨rfl,hb7⟩;have hb8:=HAl.out.trans (hb7.mono HAl.out.size);replace k0:=cellB hb8 k0;have al:Below W4 W4 (W4.alloc (.cells #[.int .i64 0] 2)):=bal;replace HRo:=hdq (zUj (t:=⟨some ⟨W4,0,none⟩,1,1⟩) ((HV0.out.belowC hb8).belowC al) (intsNew W4 [0] 1 rfl (by decide) (by decide)) (by show 1<=1000; decide));replace HLw:=hdq (HLw.out.trans (hb8.mono HLw.out.size));replace tt:=zAb k0;dsimp only at tt;replace HAl:=hdq al;dsimp only [SV.val] at HRo;clear h0 tg hb7 hb8 al HV0;(go_wp2_with fail);refine HRo.out.mono ?_;rintro e W5 ⟨rfl,hb7⟩;have hb8:=HAl.out.trans (hb7.mono HAl.out.size);replace HLw:=hdq (HLw.out.trans (hb8.mono HLw.out.size));clear k0 tt hb7 hb8 HRo HAl;have al:Below W5 W5 (W5.alloc (.cells #[.int .i64 1,.int .i64 2] 2)):=bal;have HFi:=hdq (zBP (s:=⟨some ⟨W5,0,none⟩,2,2⟩) (intsNew W5 [1,2] 2 rfl (by decide) (by decide)) (by show 2<=1000; decide));dsimp only [SV.val] at HFi;have HAl:=hdq al;clear al;(go_wp2_with fail);refine HFi.out.mono ?_;rintro e W6' ⟨⟨⟨xA,xn,xc⟩,rfl,hx⟩,hb7⟩;have hb8:=HAl.out.trans (hb7.mono HAl.out.size);replace HLw:=hdq (HLw.out.trans (hb8.mono HLw.out.size));dsimp only [SV.val];have al:Below W6' W6' (W6'.alloc (.cells #[.slice xA xn xc,.slice none 0 0] 34)):=bal
     have hMx:MatCan (W6'.alloc (.cells #[.slice xA xn xc,.slice none 0 0] 34)) AllB AllB ⟨some ⟨W6',0,none⟩,2,2⟩ [ri [1,2],[]]:=by
      have e9:(W6'.alloc (.cells #[.slice xA xn xc,.slice none 0 0] 34)).heap[W6'.heap.size]?=some (.cells #[.slice xA xn xc,.slice none 0 0] 34 (0,0)):=zAd _ _ rfl;have hx9:VecCan (W6'.alloc (.cells #[.slice xA xn xc,.slice none 0 0] 34)) AllB AllB ⟨xA,xn,xc⟩ (ri [1,2]):=(hx.belowC al).imp (fun _ _ _=>trivial) fun _ _ hq=>hq.imp fun _ _ _=>trivial
      generalize W6'.alloc (.cells #[.slice xA xn xc,.slice none 0 0] 34)=Wq at e9 hx9;refine ⟨rfl,nlr _,by show 2<=_; decide,fun i hi=>?_⟩
      match i,hi with
      | 0,_=>exact ⟨_,⟨xA,xn,xc⟩,rfl,trivial,by simp [World.cell?,e9,zA4],hx9⟩
      | 1,_=>exact ⟨_,⟨none,0,0⟩,rfl,trivial,by simp [World.cell?,e9,zA4],⟨rfl,nlr _,nzl _,fun k hk=>absurd hk (Nat.not_lt_zero k)⟩⟩
      | k+2,hi=>exact absurd hi (by show ¬ k+2<2; omega)
     have HTo:=hdq (yAv hMx (by show 2<=1000; decide) (fun i k=>by
      match i with
      | 0=>exact zWW (l:=[1,2]) (by decide) k
      | 1=>exact zXS 0 (by decide) (by decide)
      | i+2=>exact zXS 0 (by decide) (by decide)) yA2)
     dsimp only [SV.val] at HTo;replace HAl:=hdq al;clear hb7 hb8 HFi al hMx hx;(go_wp2_with fail);refine HTo.out.mono ?_;rintro e W7 ⟨⟨rfl,hR⟩,hb7⟩;have hb8:=HAl.out.trans (hb7.mono HAl.out.size);replace HLw:=hdq (HLw.out.trans (hb8.mono HLw.out.size))
     have hv:VecCan W7 AllB AllB ⟨some ⟨W6'+1,0,none⟩,2,2⟩ (ri [3,0]):=by
      have:=hR.vec (by simp) 2 (by simp) (by decide);rw [World.size_alloc] at this;rw [show ([ri [1,2],[]].map tot)=ri [3,0] by decide +kernel] at this;exact this.imp (fun _ _ _=>trivial) fun _ _ hq=>hq.imp fun _ _ _=>trivial
     have al:Below W7 W7 (W7.alloc (.cells #[.int .i64 3,.int .i64 0] 2)):=bal;replace HRo:=hdq (zUj (t:=⟨some ⟨W7,0,none⟩,2,2⟩) (hv.belowC al) (intsNew W7 [3,0] 2 rfl (by decide) (by decide)) (by show 2<=1000; decide));dsimp only [SV.val] at HRo;replace HAl:=hdq al;clear hR hb7 hb8 hv al HTo;dsimp only [SV.val];(go_wp2_with fail);refine HRo.out.mono ?_;rintro e W8' ⟨rfl,hb7⟩;have hb8:=HAl.out.trans (hb7.mono HAl.out.size);replace HLw:=hdq (HLw.out.trans (hb8.mono HLw.out.size));clear hb7 hb8 HAl HRo;have HCo:=hdq (cols_calls (yAy W8') (yAA W8') (yAw W8') yAB.1);dsimp only [SV.val] at HCo;(go_wp2_with fail);refine HCo.out.mono ?_;rintro e W9 ⟨⟨⟨tA',tn',tc'⟩,rfl,hT⟩,hb7⟩;obtain rfl:0=tn':=hT.len;have HL9:=hdq (HL.out.trans ((HLw.out.trans (hb7.mono HLw.out.size)).mono HL.out.size));clear hT hb7 HCo HLw;dsimp only [SV.val];go_wp2;go_ret;exact ⟨rfl,HL9.out⟩
end Mo
end Go.Proofs.YtjancagcmghfjaaGreat
