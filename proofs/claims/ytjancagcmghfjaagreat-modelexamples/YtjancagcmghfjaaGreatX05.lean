/- Texts Range Whole11 Whole12 Whole13 of this claim. -/
import Derived.RangeFuncNested
import Derived.RangeFuncBound
import Derived.RangeFuncCalls
import Derived.RangeFuncLeaves
import Derived.RangeFuncBox
import Derived.Shelf.Abstract
import Derived.Shelf.RegionOpen
import Derived.OwnWalkIn
import Derived.TacticsInMore
import Derived.LoopNIn
import Derived.LoopIn
import Derived.Laws.EntriesVeiled
import Derived.Test.YtjancagcmghfjaaGreatX04
set_option maxHeartbeats 4000000
set_option maxRecDepth 100000
namespace Go.Proofs.YtjancagcmghfjaaGreat
open Go.RowKit Go.Shelf
variable {w W W':World} {i fuel d f j n size base c b k N B1 B2:Nat} {v v0 v2 v1:Value} {tm cs:Array Value} {xs:List Value} {e t:TypeId} {X:Nat->Prop} {l a:List Nat} {A:Option Addr}
def calm (ops:Array Oper):Bool:=ops.all fun o=>match o.op with | .defer _=>false | _=>true
theorem zEB {P:Program} {ops:Array Oper} {Q:Exit->Act->World->Prop} (l n:Nat) (hc:calm ops=true) (hL:¬ LetsOut Q) {K:Act->World->Prop} {a:Act} 
  (h:wpOp P ops Q i K a w):wpOpIn (Fence.wide.inRound l) n P ops Q i K a w:=by
 unfold wpOp at h;unfold wpOpIn
 cases ho:ops[i]? with
 | none=>rw [ho] at h; exact h
 | some o=>
  rw [ho] at h;dsimp only at h ⊢
  split at h
  ·rename_i hw;rw [if_pos hw];rcases h with h | h
   ·refine ⟨fun _ _=>trivial,?_⟩
    have hnd:∀ c,o.op ≠ .defer c:=fun c e=>by
     have hmem:o ∈ ops:=Array.mem_of_getElem? ho;have:=(Array.all_eq_true_iff_forall_mem.1 hc) o hmem;rw [e] at this; cases this
    rw [Oper.semAt_eq _ _ _ hnd];unfold Oper.wp at h;generalize (execOp a.eval o).run P w=r at h
    cases r with
    | ok x w'=>
     cases x with
     | value v=>exact h
     | skip=>exact h
     | defer d=>exact h
     | enter f args=>
      refine ⟨fun h=>(by cases h),CallsIn.inRound l (callsIn_wide.2 ?_)⟩
      exact Calls.mono h fun e w'' he=>by cases e <;> exact he
     | row row args=>
      refine ⟨fun h=>(by cases h),?_⟩;intro c cs _;obtain ⟨v,w',r,s⟩:=h c cs
      exact ⟨v,w',r,stepsIn_wide.2 s⟩
     | _=>exact h.elim
    | halt x w'=>cases x <;> exact h
   ·exact (hL h.2).elim
  ·rename_i hw;rw [if_neg hw];exact ⟨fun _ _=>trivial,h⟩
theorem zCf {P:Program} {md:Region.Mode} {ops:Array Oper} {Q:Exit->Act->World->Prop} (l n:Nat) (hc:calm ops=true) (hL:¬ LetsOut Q) :
  ∀ (fuel:Nat) (listed:Array Bool) (a:Act) (w:World),wpAny P md ops Q fuel listed a w->wpAnyIn (Fence.wide.inRound l) n P md ops Q fuel listed a w
 | 0,_,_,_,h=>h
 | fuel+1,_,_,_,h=>⟨h.1,fun i hi=>zEB l n hc hL (wpOp_mono (fun a' w' h'=>zCf l n hc hL fuel _ a' w' h') (h.2 i hi))⟩
section held
variable {P:Program} {ops:Array Oper} {Q:Exit->Act->World->Prop} {md:Region.Mode} {ap:Nat} {S:Bool->World->Prop}
def wpAnyG (P:Program) (md:Region.Mode) (ops:Array Oper) (Q:Exit->Act->World->Prop) (ap:Nat) (S:Bool->World->Prop):Nat->Array Bool->Act->World->Prop
 | 0,listed,a,w=>Region.ready md ops listed=[]/\Q .normal a w
 | fuel+1,listed,a,w=>
  (Region.ready md ops listed=[]->Q .normal a w)/\
  ∀ i ∈ Region.ready md ops listed,wpOp P ops Q i (fun a' w'=>S ((listed.setIfInBounds i true).getD ap true) w'/\wpAnyG P md ops Q ap S fuel (listed.setIfInBounds i true) a' w') a w
theorem zCF:∀ (fuel:Nat) (listed:Array Bool) (a:Act) (w:World),wpAnyG P md ops Q ap S fuel listed a w->wpAny P md ops Q fuel listed a w
 | 0,_,_,_,h=>h
 | fuel+1,_,_,_,h=>⟨h.1,fun i hi=>wpOp_mono (fun a' w' h'=>zCF fuel _ a' w' h'.2) (h.2 i hi)⟩
theorem zCv {oi:Oper} {S':World->Prop} (R:Array Bool->Prop) (hi:ops[i]?=some oi) (hia:i ≠ ap)
  (hR:∀ L j,R L->i ∈ Region.ready md ops L->j ∈ Region.ready md ops L->j ≠ i->R (L.setIfInBounds j true)) (hS':∀ L w,R L->S (L.getD ap true) w->S' w)
  (hsel:∀ (j:Nat) (o:Oper) cs b,ops[j]?=some o->o.op ≠ .select cs b)
  (hQ:∀ c a w,Q (.panic c) (a.put oi.dst v) w->Q (.panic c) a w) :
  ∀ (fuel:Nat) (listed:Array Bool) (a:Act) (w:World),
   (∀ j oj,ops[j]?=some oj->j ≠ i->listed.getD j true=false->(∀ e ∈ oj.after,Region.binds md e=true->e.on ≠ i)->oi.apart ops oj=true)->
   i ∈ Region.ready md ops listed->R listed->YieldsIf P ops S' oi v a->S (listed.getD ap true) w->
   wpAnyG P md ops Q ap S fuel (listed.setIfInBounds i true) (a.put oi.dst v) w->wpAnyG P md ops Q ap S (fuel+1) listed a w:=by
 intro fuel
 induction fuel with
 | zero=>
  intro listed a w _ hr hRl hy hS H;refine ⟨fun h=>(by rw [h] at hr; cases hr),fun j hj=>?_⟩;by_cases hji:j=i
  ·subst hji; exact hy.wpOp hi (hS' _ _ hRl hS) ⟨by rw [getD_set_ne true hia]; exact hS,H⟩
  ·have:=ready_mono hj hji;rw [H.1] at this
   cases this
 | succ fuel ih=>
  intro listed a w hfree hr hRl hy hS H;refine ⟨fun h=>(by rw [h] at hr; cases hr),fun j hj=>?_⟩;by_cases hji:j=i
  ·subst hji; exact hy.wpOp hi (hS' _ _ hRl hS) ⟨by rw [getD_set_ne true hia]; exact hS,H⟩
  ·have h1:=H.2 j (ready_mono hj hji);obtain ⟨hjun,oj,hoj,hall⟩:=mem_ready.1 hj
   have hnot:∀ e ∈ oj.after,Region.binds md e=true->e.on ≠ i:=fun e he hb heq=>by
    have h1:=hall e he hb;have h0:=(mem_ready.1 hr).1;rw [heq] at h1;rcases Nat.lt_or_ge i listed.size with h' | h'
    ·simp [h'] at h0 h1; rw [h0] at h1; cases h1
    ·simp [Array.getElem?_eq_none h'] at h1
   have h2:=wpOp_putIf hoj (hfree j oj hoj hji hjun hnot) (fun cs b=>hsel i oi cs b hi) (fun cs b=>hsel j oj cs b hoj) hQ hy h1
   have hfree':∀ k ok,ops[k]?=some ok->k ≠ i->(listed.setIfInBounds j true).getD k true=false->
     (∀ e ∈ ok.after,Region.binds md e=true->e.on ≠ i)->oi.apart ops ok=true:=fun k ok hk hki hun hno=>by
    refine hfree k ok hk hki ?_ hno;by_cases hjk:j=k
    ·subst hjk; exact hjun
    ·rw [getD_set_ne true hjk] at hun; exact hun
   refine wpOp_mono (fun a' w' h3=>?_) h2
   have h4:S ((listed.setIfInBounds j true).getD ap true) w':=by
    have:=h3.2.1
    rwa [Array.setIfInBounds_comm _ _ (Ne.symm hji),getD_set_ne true hia] at this
   refine ⟨h4,ih (listed.setIfInBounds j true) a' w' hfree' (ready_mono hr (Ne.symm hji)) (hR _ _ hRl hr hj hji) h3.1 h4 ?_⟩;rw [Array.setIfInBounds_comm _ _ hji];exact h3.2.2
def waits (md:Region.Mode) (ops:Array Oper) (ap i:Nat):Bool:=match ops[ap]? with | some o=>o.after.any (fun e=>Region.binds md e && e.on == i) | none=>false
theorem zGP {oi:Oper} {listed:Array Bool} {a:Act} (hi:ops[i]?=some oi)
  (hs:Region.noSelect ops=true) (hf:Region.free md ops listed i=true) (hr:(Region.ready md ops listed).contains i=true)
  (hw:waits md ops ap i=true) (hu:listed.getD ap true=false)
  (hQ:∀ c a w,Q (.panic c) (a.put oi.dst v) w->Q (.panic c) a w) (hy:YieldsIf P ops (S false) oi v a) (hS:S false w)
  (h:wpAnyG P md ops Q ap S fuel (listed.setIfInBounds i true) (a.put oi.dst v) w):wpAnyG P md ops Q ap S (fuel+1) listed a w:=by
 have hia:i ≠ ap:=by
  rintro rfl;obtain ⟨o,ho,hall⟩:=(mem_ready.1 (by simpa using hr:i ∈ Region.ready md ops listed)).2;rw [waits,ho] at hw;obtain ⟨e,he,h1⟩:=Array.any_eq_true'.1 hw;simp only [Bool.and_eq_true,beq_iff_eq] at h1;have h2:=hall e he h1.1;rw [h1.2] at h2;rcases Nat.lt_or_ge i listed.size with h' | h'
  ·simp [h'] at hu h2; rw [hu] at h2; cases h2
  ·simp [Array.getElem?_eq_none h'] at h2
 refine zCv (S':=S false) (fun L=>L.getD ap true=false) hi hia ?_ (fun L w hL hS=>by rwa [hL] at hS) (Region.noSelect_spec hs) hQ fuel listed a w (Region.free_spec hi hf) (by simpa using hr) hu hy (by rw [hu]; exact hS) h;intro L j hL hiL hjL hji;by_cases hja:j=ap
 ·subst hja;exfalso;obtain ⟨o,ho,hall⟩:=(mem_ready.1 hjL).2;rw [waits,ho] at hw;obtain ⟨e,he,h1⟩:=Array.any_eq_true'.1 hw;simp only [Bool.and_eq_true,beq_iff_eq] at h1;have h2:=hall e he h1.1;have h0:=(mem_ready.1 hiL).1;rw [h1.2] at h2;rcases Nat.lt_or_ge i L.size with h' | h'
  ·simp [h'] at h0 h2; rw [h0] at h2; cases h2
  ·simp [Array.getElem?_eq_none h'] at h2
 ·rw [getD_set_ne true hja]; exact hL
theorem zDQ {oi:Oper} {listed:Array Bool} {a:Act} (hi:ops[i]?=some oi)
  (hs:Region.noSelect ops=true) (hf:Region.free md ops listed i=true) (hr:(Region.ready md ops listed).contains i=true) (hia:i ≠ ap)
  (hQ:∀ c a w,Q (.panic c) (a.put oi.dst v) w->Q (.panic c) a w) (hy:YieldsIf P ops (fun w=>∃ b,S b w) oi v a) (hS:S (listed.getD ap true) w)
  (h:wpAnyG P md ops Q ap S fuel (listed.setIfInBounds i true) (a.put oi.dst v) w):wpAnyG P md ops Q ap S (fuel+1) listed a w:=
 zCv (S':=fun w=>∃ b,S b w) (fun _=>True) hi hia (fun _ _ _ _ _ _=>trivial) (fun _ _ _ hS=>⟨_,hS⟩) (Region.noSelect_spec hs) hQ fuel listed a w (Region.free_spec hi hf) (by simpa using hr) trivial hy hS h
theorem zH5 {o:Oper} {listed:Array Bool} {a:Act} (hr:Region.ready md ops listed=[i]) (ho:ops[i]?=some o)
  (h:∀ K:Act->World->Prop,(∀ a w,S ((listed.setIfInBounds i true).getD ap true) w->wpAnyG P md ops Q ap S fuel (listed.setIfInBounds i true) a w->K a w)->
   if Region.wanted o (yielded ops a.tmps)=true then Oper.wp P o a w K Q else K (a.put o.dst undef) w):wpAnyG P md ops Q ap S (fuel+1) listed a w:=by
 refine ⟨fun h0=>(by rw [hr] at h0; cases h0),?_⟩;rw [hr];intro j hj;obtain rfl:j=i:=by simpa using hj
 exact wpOp_step ho (fun K' hK=>h K' (fun a w hS hW=>hK a w ⟨hS,hW⟩))
theorem zAf {listed:Array Bool} {a:Act} (hr:Region.ready md ops listed=[]) (h:Q .normal a w) :
  ∀ fuel,wpAnyG P md ops Q ap S fuel listed a w
 | 0=>⟨hr,h⟩
 | _+1=>⟨fun _=>h,by rw [hr]; simp⟩
end held
theorem zBo {l:List Oper} {o:Oper} {rest:List Oper} (h:l.drop i=o :: rest):l.toArray[i]?=some o:=by
 have:(l.drop i)[0]?=some o:=by rw [h]; rfl
 simpa [List.getElem?_drop] using this
section written
variable {P:Program} {l rest:List Oper} {Q:Exit->Act->World->Prop} {md:Region.Mode} {ap:Nat} {S:Bool->World->Prop}
theorem takeW {oi:Oper} (v:Value) {listed:Array Bool} {df:List Deferred} (hi:l.drop i=oi :: rest) (hd:oi.dst=some d)
  (hs:Region.noSelect l.toArray=true) (hf:Region.free md l.toArray listed i=true) (hr:(Region.ready md l.toArray listed).contains i=true)
  (hw:waits md l.toArray ap i=true) (hu:listed.getD ap true=false)
  (hQ:∀ c a w,Q (.panic c) (a.put (some d) v) w->Q (.panic c) a w) (hwa:Region.wanted oi (yielded l.toArray tm)=true) (hy:∀ w,S false w->(execOp (Act.eval {tmps:=tm,defers:=df}) oi).run P w = .ok (.value v) w) (hS:S false w)
  (h:wpAnyG P md l.toArray Q ap S fuel (listed.setIfInBounds i true) {tmps:=tm.setIfInBounds d v,defers:=df} w):wpAnyG P md l.toArray Q ap S (fuel+1) listed {tmps:=tm,defers:=df} w:=
 zGP (zBo hi) hs hf hr hw hu (by rw [hd]; exact hQ) (.inl ⟨hwa,hy⟩) hS (by rw [hd]; exact h)
theorem takeA {oi:Oper} (v:Value) {listed:Array Bool} {df:List Deferred} (hi:l.drop i=oi :: rest) (hd:oi.dst=some d)
  (hs:Region.noSelect l.toArray=true) (hf:Region.free md l.toArray listed i=true) (hr:(Region.ready md l.toArray listed).contains i=true) (hia:i ≠ ap)
  (hQ:∀ c a w,Q (.panic c) (a.put (some d) v) w->Q (.panic c) a w) (hwa:Region.wanted oi (yielded l.toArray tm)=true) (hy:∀ w,(∃ b,S b w)->(execOp (Act.eval {tmps:=tm,defers:=df}) oi).run P w = .ok (.value v) w) (hS:S (listed.getD ap true) w)
  (h:wpAnyG P md l.toArray Q ap S fuel (listed.setIfInBounds i true) {tmps:=tm.setIfInBounds d v,defers:=df} w):wpAnyG P md l.toArray Q ap S (fuel+1) listed {tmps:=tm,defers:=df} w:=
 zDQ (zBo hi) hs hf hr hia (by rw [hd]; exact hQ) (.inl ⟨hwa,hy⟩) hS (by rw [hd]; exact h)
theorem tkE (i:Nat) {oi:Oper} (v:Value) {listed:Array Bool} {df:List Deferred} (hy:∀ w,(∃ b,S b w)->(execOp (Act.eval {tmps:=tm,defers:=df}) oi).run P w = .ok (.value v) w) (hS:S (listed.getD ap true) w)
  (h:wpAnyG P md l.toArray Q ap S fuel (listed.setIfInBounds i true) {tmps:=tm.setIfInBounds d v,defers:=df} w) (hi:l.drop i=oi :: rest:=by rfl) (hd:oi.dst=some d:=by rfl)
  (hs:Region.noSelect l.toArray=true:=by kernel_rfl) (hf:Region.free md l.toArray listed i=true:=by kernel_rfl) (hr:(Region.ready md l.toArray listed).contains i=true:=by kernel_rfl) (hia:i ≠ ap:=by decide)
  (hQ:∀ c a w,Q (.panic c) (a.put (some d) v) w->Q (.panic c) a w:=by exact fun _ _ _ h=>h) (hwa:Region.wanted oi (yielded l.toArray tm)=true:=by rfl):wpAnyG P md l.toArray Q ap S (fuel+1) listed {tmps:=tm,defers:=df} w:=
 takeA v hi hd hs hf hr hia hQ hwa hy hS h
theorem tkA (i:Nat) {oi:Oper} (v:Value) {listed:Array Bool} {df:List Deferred} (hy:∀ w b,S b w->(execOp (Act.eval {tmps:=tm,defers:=df}) oi).run P w = .ok (.value v) w) (hS:S (listed.getD ap true) w)
  (h:wpAnyG P md l.toArray Q ap S fuel (listed.setIfInBounds i true) {tmps:=tm.setIfInBounds d v,defers:=df} w) (hi:l.drop i=oi :: rest:=by rfl) (hd:oi.dst=some d:=by rfl)
  (hs:Region.noSelect l.toArray=true:=by kernel_rfl) (hf:Region.free md l.toArray listed i=true:=by kernel_rfl) (hr:(Region.ready md l.toArray listed).contains i=true:=by kernel_rfl) (hia:i ≠ ap:=by decide)
  (hQ:∀ c a w,Q (.panic c) (a.put (some d) v) w->Q (.panic c) a w:=by exact fun _ _ _ h=>h) (hwa:Region.wanted oi (yielded l.toArray tm)=true:=by rfl):wpAnyG P md l.toArray Q ap S (fuel+1) listed {tmps:=tm,defers:=df} w:=
 takeA v hi hd hs hf hr hia hQ hwa (fun w hw=>by obtain ⟨b,hb⟩:=hw; exact hy w b hb) hS h
theorem tkX (i:Nat) {oi:Oper} {listed:Array Bool} {df:List Deferred} (hS:S (listed.getD ap true) w)
  (h:wpAnyG P md l.toArray Q ap S fuel (listed.setIfInBounds i true) {tmps:=tm.setIfInBounds d v,defers:=df} w) (hi:l.drop i=oi :: rest:=by rfl) (hd:oi.dst=some d:=by rfl)
  (hs:Region.noSelect l.toArray=true:=by kernel_rfl) (hf:Region.free md l.toArray listed i=true:=by kernel_rfl) (hr:(Region.ready md l.toArray listed).contains i=true:=by kernel_rfl) (hia:i ≠ ap:=by decide)
  (hQ:∀ c a w,Q (.panic c) (a.put (some d) v) w->Q (.panic c) a w:=by exact fun _ _ _ h=>h) (hwa:Region.wanted oi (yielded l.toArray tm)=true:=by rfl)
  (hy:∀ w b,S b w->(execOp (Act.eval {tmps:=tm,defers:=df}) oi).run P w = .ok (.value v) w:=by intro w b hSw; (try dsimp only at hSw); go_simp; try with_reducible rfl):wpAnyG P md l.toArray Q ap S (fuel+1) listed {tmps:=tm,defers:=df} w:=
 tkA i v hy hS h hi hd hs hf hr hia hQ hwa
theorem tx1 {P:Program} {l:List Oper} {Q:Exit->Act->World->Prop} {md:Region.Mode} {ap:Nat} {S:Bool->World->Prop} (i:Nat) {d0:Nat} {o0:Oper} {r0:List Oper} {t1:Array Value} {L:Array Bool} {t0:Array Value} {df:List Deferred} (hS:S (L.getD ap true) w)
    (h:wpAnyG P md l.toArray Q ap S f (L.setIfInBounds i true) {tmps:=t1,defers:=df} w)
    (hi0:l.drop i=o0 :: r0:=by rfl) (hd0:o0.dst=some d0:=by rfl) (hs0:Region.noSelect l.toArray=true:=by kernel_rfl) (hf0:Region.free md l.toArray L i=true:=by kernel_rfl) (hr0:(Region.ready md l.toArray L).contains i=true:=by kernel_rfl) (ha0:i ≠ ap:=by decide) (hQ0:∀ c a w,Q (.panic c) (a.put (some d0) v0) w->Q (.panic c) a w:=by exact fun _ _ _ h=>h) (hw0:Region.wanted o0 (yielded l.toArray t0)=true:=by rfl) (hy0:∀ w b,S b w->(execOp (Act.eval {tmps:=t0,defers:=df}) o0).run P w = .ok (.value v0) w:=by intro w b hSw; (try dsimp only at hSw); go_simp; try with_reducible rfl) (ht0:t0.setIfInBounds d0 v0=t1:=by (simp only [zz]; try rfl)) :
    wpAnyG P md l.toArray Q ap S (f+1) L {tmps:=t0,defers:=df} w:=by
  subst ht0
  exact tkX i hS (h) hi0 hd0 hs0 hf0 hr0 ha0 hQ0 hw0 hy0
theorem tx4 {P:Program} {l:List Oper} {Q:Exit->Act->World->Prop} {md:Region.Mode} {ap:Nat} {S:Bool->World->Prop} (i j k m:Nat) {d0:Nat} {o0:Oper} {r0:List Oper} {t1:Array Value} {d1:Nat} {o1:Oper} {r1:List Oper} {t2:Array Value} {d2:Nat} {o2:Oper} {r2:List Oper} {t3:Array Value} {d3:Nat} {o3:Oper} {r3:List Oper} {v3:Value} {t4:Array Value} {L:Array Bool} {t0:Array Value} {df:List Deferred} (hS:S (L.getD ap true) w)
    (h:wpAnyG P md l.toArray Q ap S f ((((L.setIfInBounds i true).setIfInBounds j true).setIfInBounds k true).setIfInBounds m true) {tmps:=t4,defers:=df} w)
    (hi0:l.drop i=o0 :: r0:=by rfl) (hd0:o0.dst=some d0:=by rfl) (hs0:Region.noSelect l.toArray=true:=by kernel_rfl) (hf0:Region.free md l.toArray L i=true:=by kernel_rfl) (hr0:(Region.ready md l.toArray L).contains i=true:=by kernel_rfl) (ha0:i ≠ ap:=by decide) (hQ0:∀ c a w,Q (.panic c) (a.put (some d0) v0) w->Q (.panic c) a w:=by exact fun _ _ _ h=>h) (hw0:Region.wanted o0 (yielded l.toArray t0)=true:=by rfl) (hy0:∀ w b,S b w->(execOp (Act.eval {tmps:=t0,defers:=df}) o0).run P w = .ok (.value v0) w:=by intro w b hSw; (try dsimp only at hSw); go_simp; try with_reducible rfl) (ht0:t0.setIfInBounds d0 v0=t1:=by (simp only [zz]; try rfl))
    (hi1:l.drop j=o1 :: r1:=by rfl) (hd1:o1.dst=some d1:=by rfl) (hs1:Region.noSelect l.toArray=true:=by kernel_rfl) (hf1:Region.free md l.toArray (L.setIfInBounds i true) j=true:=by kernel_rfl) (hr1:(Region.ready md l.toArray (L.setIfInBounds i true)).contains j=true:=by kernel_rfl) (ha1:j ≠ ap:=by decide) (hQ1:∀ c a w,Q (.panic c) (a.put (some d1) v1) w->Q (.panic c) a w:=by exact fun _ _ _ h=>h) (hw1:Region.wanted o1 (yielded l.toArray t1)=true:=by rfl) (hy1:∀ w b,S b w->(execOp (Act.eval {tmps:=t1,defers:=df}) o1).run P w = .ok (.value v1) w:=by intro w b hSw; (try dsimp only at hSw); go_simp; try with_reducible rfl) (ht1:t1.setIfInBounds d1 v1=t2:=by (simp only [zz]; try rfl))
    (hi2:l.drop k=o2 :: r2:=by rfl) (hd2:o2.dst=some d2:=by rfl) (hs2:Region.noSelect l.toArray=true:=by kernel_rfl) (hf2:Region.free md l.toArray ((L.setIfInBounds i true).setIfInBounds j true) k=true:=by kernel_rfl) (hr2:(Region.ready md l.toArray ((L.setIfInBounds i true).setIfInBounds j true)).contains k=true:=by kernel_rfl) (ha2:k ≠ ap:=by decide) (hQ2:∀ c a w,Q (.panic c) (a.put (some d2) v2) w->Q (.panic c) a w:=by exact fun _ _ _ h=>h) (hw2:Region.wanted o2 (yielded l.toArray t2)=true:=by rfl) (hy2:∀ w b,S b w->(execOp (Act.eval {tmps:=t2,defers:=df}) o2).run P w = .ok (.value v2) w:=by intro w b hSw; (try dsimp only at hSw); go_simp; try with_reducible rfl) (ht2:t2.setIfInBounds d2 v2=t3:=by (simp only [zz]; try rfl))
    (hi3:l.drop m=o3 :: r3:=by rfl) (hd3:o3.dst=some d3:=by rfl) (hs3:Region.noSelect l.toArray=true:=by kernel_rfl) (hf3:Region.free md l.toArray (((L.setIfInBounds i true).setIfInBounds j true).setIfInBounds k true) m=true:=by kernel_rfl) (hr3:(Region.ready md l.toArray (((L.setIfInBounds i true).setIfInBounds j true).setIfInBounds k true)).contains m=true:=by kernel_rfl) (ha3:m ≠ ap:=by decide) (hQ3:∀ c a w,Q (.panic c) (a.put (some d3) v3) w->Q (.panic c) a w:=by exact fun _ _ _ h=>h) (hw3:Region.wanted o3 (yielded l.toArray t3)=true:=by rfl) (hy3:∀ w b,S b w->(execOp (Act.eval {tmps:=t3,defers:=df}) o3).run P w = .ok (.value v3) w:=by intro w b hSw; (try dsimp only at hSw); go_simp; try with_reducible rfl) (ht3:t3.setIfInBounds d3 v3=t4:=by (simp only [zz]; try rfl)) :
    wpAnyG P md l.toArray Q ap S (f+1+1+1+1) L {tmps:=t0,defers:=df} w:=by
  subst ht0 ht1 ht2 ht3
  have s1:S ((L.setIfInBounds i true).getD ap true) w:=by rw [getD_set_ne true ha0]; exact hS
  have s2:S (((L.setIfInBounds i true).setIfInBounds j true).getD ap true) w:=by rw [getD_set_ne true ha1]; exact s1
  have s3:S ((((L.setIfInBounds i true).setIfInBounds j true).setIfInBounds k true).getD ap true) w:=by rw [getD_set_ne true ha2]; exact s2
  exact tkX i hS (tkX j s1 (tkX k s2 (tkX m s3 (h) hi3 hd3 hs3 hf3 hr3 ha3 hQ3 hw3 hy3) hi2 hd2 hs2 hf2 hr2 ha2 hQ2 hw2 hy2) hi1 hd1 hs1 hf1 hr1 ha1 hQ1 hw1 hy1) hi0 hd0 hs0 hf0 hr0 ha0 hQ0 hw0 hy0
theorem tkW (i:Nat) {oi:Oper} (v:Value) {listed:Array Bool} {df:List Deferred} (hy:∀ w,S false w->(execOp (Act.eval {tmps:=tm,defers:=df}) oi).run P w = .ok (.value v) w) (hS:S false w)
  (h:wpAnyG P md l.toArray Q ap S fuel (listed.setIfInBounds i true) {tmps:=tm.setIfInBounds d v,defers:=df} w) (hi:l.drop i=oi :: rest:=by rfl) (hd:oi.dst=some d:=by rfl)
  (hs:Region.noSelect l.toArray=true:=by kernel_rfl) (hf:Region.free md l.toArray listed i=true:=by kernel_rfl) (hr:(Region.ready md l.toArray listed).contains i=true:=by kernel_rfl)
  (hw:waits md l.toArray ap i=true:=by kernel_rfl) (hu:listed.getD ap true=false:=by kernel_rfl)
  (hQ:∀ c a w,Q (.panic c) (a.put (some d) v) w->Q (.panic c) a w:=by exact fun _ _ _ h=>h) (hwa:Region.wanted oi (yielded l.toArray tm)=true:=by rfl):wpAnyG P md l.toArray Q ap S (fuel+1) listed {tmps:=tm,defers:=df} w:=
 takeW v hi hd hs hf hr hw hu hQ hwa hy hS h
theorem oneW {o:Oper} {listed:Array Bool} {a:Act} (hr:Region.ready md l.toArray listed=[i]) (hi:l.drop i=o :: rest) (hwa:Region.wanted o (yielded l.toArray a.tmps)=true)
  (h:∀ K:Act->World->Prop,Shut (∀ a w,S ((listed.setIfInBounds i true).getD ap true) w->wpAnyG P md l.toArray Q ap S fuel (listed.setIfInBounds i true) a w->K a w)->Oper.wp P o a w K Q):wpAnyG P md l.toArray Q ap S (fuel+1) listed a w:=
 zH5 hr (zBo hi) fun K hK=>by rw [if_pos hwa]; exact h K hK
theorem tk1 (i:Nat) {o:Oper} {listed:Array Bool} {a:Act} 
  (h:∀ K:Act->World->Prop,Shut (∀ a w,S ((listed.setIfInBounds i true).getD ap true) w->wpAnyG P md l.toArray Q ap S fuel (listed.setIfInBounds i true) a w->K a w)->Oper.wp P o a w K Q) (hr:Region.ready md l.toArray listed=[i]:=by kernel_rfl) (hi:l.drop i=o :: rest:=by rfl) (hwa:Region.wanted o (yielded l.toArray a.tmps)=true:=by rfl):wpAnyG P md l.toArray Q ap S (fuel+1) listed a w:=
 oneW hr hi hwa h
end written
theorem zAq {P:Program} {o:Oper} {a:Act} {Q:Exit->Act->World->Prop} {K:Act->World->Prop} (s x:Operand) (t:TypeId)
  (ho:o.op = .call {callee:=.builtin .append,args:=#[s,x],argTypes:=#[t,t]})
  (base:Nat) (e:TypeId) (i:TypeInfo) (z:Value) (size bytes:Nat) (ht:P.underlying t=some (.slice e)) (hi:P.info? e=some i) (hz:i.zero=some z)
  (hsize:i.size=size) (hby:i.bytes=bytes) (hzs:z.cells.size=size) (hsz:0<size)
  (v:Value) (n:Nat) (xs:List Value) (hs:a.eval s=v) (hown:w.ownsRow base e size v n xs)
  (ad:Addr) (m c:Nat) (news:List Value) (hx:a.eval x = .slice (some ad) m c) (hl:news.length=m*size) (hnews:∀ j u,news[j]?=some u->w.cell? (ad.add j)=some u) (h1:∀ u ∈ news,u.oneCell'=true)
  (h63:n+m<=maxLen) (hbytes:(n+m)*bytes<=140737488355328) (hbase:base<=w.heap.size)
  (h:∀ v' w',w'.ownsRow base e size v' (n+m) (xs++news)->w.grownBy w' v.ownBlock->(v' = .slice none 0 0 ↔ v = .slice none 0 0/\m=0)->(v'.ownBlock=v.ownBlock\/v'.ownBlock=some w.heap.size)->K (a.put o.dst v') w') :
  Oper.wp P o a w K Q:=by
 obtain ⟨v',w',hr,h2,h3,h4,h5⟩:=run_append_own_at (P:=P) w base t o.type e i z size bytes ht hi hz hsize hby hzs hsz v n xs hown ad m c news hl hnews h1 h63 hbytes hbase;unfold Oper.wp execOp;simp only [ho,resolve,invoke,builtin,Sem.run_bind,Sem.run_pure,Result.andThen_ok,List.map_toArray,List.map_cons,List.map_nil,hs,hx,hr];exact h v' w' h2 h3 h4 h5
theorem zAc (h:W.ownsRow base e size v n xs) (hj:v.ownBlock=some j):base<=j/\∃ cs,W.heap[j]?=some (.cells cs e (0,0)):=by
 rcases h.2 with ⟨rfl,_⟩ | ⟨g,cap,cur,rfl,hg,hh,_⟩
 ·simp [Value.ownBlock] at hj
 ·simp [Value.ownBlock] at hj; subst hj; exact ⟨hg,cur,hh⟩
theorem zAr (h:W.ownsRow base e size v n xs) (hk:∀ j,v.ownBlock=some j->W'.heap[j]?=W.heap[j]?):W'.ownsRow base e size v n xs:=by
 obtain ⟨h1,h2⟩:=h;refine ⟨h1,?_⟩;rcases h2 with h2 | ⟨g,cap,cur,e1,hg1,hh,rest⟩
 ·exact .inl h2
 ·exact .inr ⟨g,cap,cur,e1,hg1,(hk g (by rw [e1]; rfl)).trans hh,rest⟩
theorem zBi {P:Program} {l id:Nat} {ops:Array Oper} {Q:Exit->Act->World->Prop} (ap:Nat) (S:Bool->World->Prop) {a:Act} (hm:P.follows .mixedOrders=true) (hc:calm ops=true)
  (hL:¬ LetsOut Q) (h:wpAnyG P .any ops Q ap S ops.size (Array.replicate ops.size false) a w.drew) :
  (Code.region id ops true).wpIn (Fence.wide.inRound l) n P Q a w:=
 wpIn_region_any hm (zCf l n hc hL _ _ _ _ (zCF _ _ _ _ h))
def Keeps (X:Nat->Prop) (W W':World):Prop:=∀ k,X k->W'.heap[k]?=W.heap[k]?
theorem Keeps.refl (X:Nat->Prop) (W:World):Keeps X W W:=fun _ _=>rfl
theorem Keeps.trans {A B C:World} (h:Keeps X A B) (k:Keeps X B C):Keeps X A C:=fun j hj=>(k j hj).trans (h j hj)
theorem Keeps.cell (h:Keeps X W W') {p:Addr} (hp:X p.block):W'.cell? p=W.cell? p:=cob (h _ hp)
theorem zG3 :∀ {A B C:World},Keeps X A B->Keeps X B C->Keeps X A C:=fun h k=>h.trans k
theorem zG2 (hX:∀ k,X k->k<w.heap.size):∀ (W:World) (l:Nat) (o o':Obj),w.heap.size<=l->W.heap[l]?=some o->o.isCells=false->o.isWalk=false->Keeps X W (W.putObj l o'):=
 fun W l _ o' hl _ _ _ k hk=>World.putObj_heap_other (by have:=hX k hk; omega)
theorem WordsAt.grown {row:Option Nat} (h:WordsAt W X A n c l) (hg:W.grownBy W' row)
  (hr:∀ r,row=some r->∃ o:Obj,W.heap[r]?=some o/\o.isCells=false):WordsAt W' X A n c l:=
 ⟨h.len,h.le,h.cap,h.ok,fun k hk=>by
  obtain ⟨ad,e,hx,hc⟩:=h.cell k hk;exact ⟨ad,e,hx,cell_kept hc hg hr⟩⟩
theorem zAi {row:Option Nat} (hg:W.grownBy W' row) (hr:∀ r,row=some r->∃ o:Obj,W.heap[r]?=some o/\o.isCells=false) {f:Nat × Nat}
  (h:W.heap[b]?=some (.cells cs t f)):W'.heap[b]?=some (.cells cs t f):=by
 refine (hg.block b (zAa h) ?_).trans h;intro e;obtain ⟨o,ho,hn⟩:=hr b e.symm;rw [h] at ho; cases ho; cases hn
attribute [local go_sem] Oper.semAt_some
theorem zCT (h:Num.Ok l) (k:Nat):l.getD k 0<4294967296:=by
 rw [gdd]
 cases e:l[k]? with
 | none=>simp
 | some x=>exact h x (List.mem_of_getElem? e)
theorem zCd (h:k<=9223372036854775806):wrap64 ((k:Int)+1)=(k:Int)+1:=by unfold wrap64; omega
theorem zCn (h:k<N) (hw:wrap64 ((k:Int)+1)=(k:Int)+1):N-(intOf (.int .i64 (wrap64 ((k:Int)+1)))).toNat<N-(intOf (.int .i64 (k:Int))).toNat:=by
 rw [hw]; simp only [intOf]; omega
theorem zA8 (h:k<=N):List.range k <+: List.range N:=by
 obtain ⟨d,rfl⟩:∃ d,N=k+d:=⟨N-k,by omega⟩;rw [List.range_add];exact List.prefix_append _ _
theorem zG8 (A B:Option Addr) (la ca lb cb:Nat) :
  CallsIn Fence.wide n Tryz.prog 230 #[.slice A la ca,.slice B lb cb] w fun e w'=>e = .returned (.func (.func 249) #[] #[.pointer (some w),.pointer (some ⟨w+1,0,none⟩)])/\
   w'=(w.alloc (.cells #[.slice A la ca] 76)).alloc (.cells #[.slice B lb cb] 76):=by
 refine callsIn_of_wp Tryz.func230 rfl trivial ?_ rfl;simp only [Tryz.ntmps230,List.size_toArray,List.length_cons,List.length_nil,Nat.reduceAdd,Nat.reduceSub,Array.replicate_succ,Array.replicate_zero,List.push_toArray,List.append_toArray,List.nil_append,List.cons_append];gi_wp2;go_ret;exact ⟨by simp,by simp⟩
theorem zIF {l la ca lb cb:Nat} {B:Option Addr} {b:List Nat} (hn:1<=n) (J Jx:List Nat->World->Prop)
  (hY:∀ pre x W,J pre W->pre.length<N->YieldAt Fence.wide (n-1) Tryz.prog l #[.int .u64 (a.getD x 0:Nat),.int .u64 (b.getD x 0:Nat)] W fun e W'=>
   (e = .returned (.bool true)/\J (pre++[x]) W'/\Keeps X W W')\/(e = .returned (.bool false)/\Jx (pre++[x]) W'))
  (W:World) (h1:W.cell? B1=some (.slice A la ca)) (h2:W.cell? B2=some (.slice B lb cb)) (hb1:X B1) (hb2:X B2)
  (ha:WordsAt W X A la ca a) (hb:WordsAt W X B lb cb b) (hN:N=max la lb) (h0:J [] W) :
  CallsIn Fence.wide n Tryz.prog 249 #[.func (.yield l) #[] #[],.pointer (some B1),.pointer (some B2)] W fun e W'=>(∃ v,e = .returned v)/\
   ((∃ ys,ys=List.range N/\J ys W')\/(∃ pre,pre <+: List.range N/\Jx pre W')):=by
 have Hca:=hdq ha.cap;have Hcb:=hdq hb.cap;refine callsIn_of_wp Tryz.func249 rfl trivial ?_ rfl;simp only [Tryz.ntmps249,List.size_toArray,List.length_cons,List.length_nil,Nat.reduceAdd,Nat.reduceSub,Array.replicate_succ,Array.replicate_zero,List.push_toArray,List.append_toArray,List.nil_append,List.cons_append];gi_wp2;rw [show (max (la:Int) (lb:Int))=(N:Int) from by omega];have Ha:=hdq ha;have Hb:=hdq hb;have HN:=hdq hN;have HY:=hdq hY;have HnN:=hdq (show N<=9223372036854775807 from by have:=ha.cap; have:=hb.cap; have:=ha.le; have:=hb.le; omega);clear ha hb hN hY
 gi_loopw [12] (fun i wr=>∃ k:Nat,k<=N/\i = .int .i64 k/\J (List.range k) wr/\Keeps X W wr)
  (fun i _=>N-(intOf i).toNat)
 case atStart=>exact ⟨0,nzl _,rfl,h0,Keeps.refl _ _⟩
 case round=>
  obtain ⟨k,hk,rfl,hJs,hnx⟩:=hrel;have c1:wr.cell? B1=some (.slice A la ca):=(hnx.cell (p:=B1) hb1).trans h1;have c2:wr.cell? B2=some (.slice B lb cb):=(hnx.cell (p:=B2) hb2).trans h2;by_cases hlt:k<N
  ·obtain ⟨fn,tmps,assign,body,hy,hR⟩:=HY.out _ k wr hJs (by simpa using hlt);have hx:a.getD k 0<4294967296:=zCT Ha.out.ok k;have hz:b.getD k 0<4294967296:=zCT Hb.out.ok k;have hxe:la<=k->a.getD k 0=0:=fun h=>by rw [gdd,List.getElem?_eq_none (by have:=Ha.out.len; omega)]; rfl
   have hze:lb<=k->b.getD k 0=0:=fun h=>by rw [gdd,List.getElem?_eq_none (by have:=Hb.out.len; omega)]; rfl
   have hxc:k<la->∃ ad,A=some ad/\wr.cell? (ad.add k)=some (.int .u32 (a.getD k 0:Nat)):=fun h=>by
    obtain ⟨ad,e,ho,hc⟩:=Ha.out.cell k h;exact ⟨ad,e,(hnx.cell (by rw [zAj]; exact ho)).trans hc⟩
   have hzc:k<lb->∃ ad,B=some ad/\wr.cell? (ad.add k)=some (.int .u32 (b.getD k 0:Nat)):=fun h=>by
    obtain ⟨ad,e,ho,hc⟩:=Hb.out.cell k h;exact ⟨ad,e,(hnx.cell (by rw [zAj]; exact ho)).trans hc⟩
   have hle:k<=9223372036854775806:=by have:=HnN.out; omega
   have Hle:=hdq hle;have Hr:=hdq (show List.range (k+1)=List.range k++[k] from List.range_succ);generalize a.getD k 0=x at *;generalize b.getD k 0=z at *;have Hxe:=hdq hxe;have Hze:=hdq hze;have Hxc:=hdq hxc;have Hzc:=hdq hzc;clear hxe hze hxc hzc hle;rcases Nat.lt_or_ge k la with hka | hka <;> rcases Nat.lt_or_ge k lb with hkb | hkb
   ·obtain ⟨a1,rfl,d1⟩:=Hxc.out hka;obtain ⟨a2,rfl,d2⟩:=Hzc.out hkb;gi_wp2;refine hR.mono ?_;have Hwr:=hdq (zCd Hle.out);rintro e W3 (⟨rfl,hJ3,hk3⟩ | ⟨rfl,hJx3⟩)
    ·gi_wp2;go_roundw;case rel=>exact ⟨k+1,by omega,by simp [Hwr.out],by rw [Hr.out]; exact hJ3,hnx.trans hk3⟩
     case measure=>exact zCn hlt Hwr.out
    ·gi_wp2;refine bodyPost_ret (results_none rfl _ _ _) rfl ?_;exact ⟨⟨_,rfl⟩,.inr ⟨_,by rw [<-Hr.out]; exact zA8 (by omega),hJx3⟩⟩
   ·obtain ⟨a1,rfl,d1⟩:=Hxc.out hka;obtain rfl:=Hze.out hkb;rw [show ((0:Nat):Int)=0 from rfl] at hy;gi_wp2;refine hR.mono ?_;have Hwr:=hdq (zCd Hle.out);rintro e W3 (⟨rfl,hJ3,hk3⟩ | ⟨rfl,hJx3⟩)
    ·gi_wp2;go_roundw;case rel=>exact ⟨k+1,by omega,by simp [Hwr.out],by rw [Hr.out]; exact hJ3,hnx.trans hk3⟩
     case measure=>exact zCn hlt Hwr.out
    ·gi_wp2;refine bodyPost_ret (results_none rfl _ _ _) rfl ?_;exact ⟨⟨_,rfl⟩,.inr ⟨_,by rw [<-Hr.out]; exact zA8 (by omega),hJx3⟩⟩
   ·obtain rfl:=Hxe.out hka;rw [show ((0:Nat):Int)=0 from rfl] at hy;obtain ⟨a2,rfl,d2⟩:=Hzc.out hkb;gi_wp2;refine hR.mono ?_;have Hwr:=hdq (zCd Hle.out);rintro e W3 (⟨rfl,hJ3,hk3⟩ | ⟨rfl,hJx3⟩)
    ·gi_wp2;go_roundw;case rel=>exact ⟨k+1,by omega,by simp [Hwr.out],by rw [Hr.out]; exact hJ3,hnx.trans hk3⟩
     case measure=>exact zCn hlt Hwr.out
    ·gi_wp2;refine bodyPost_ret (results_none rfl _ _ _) rfl ?_;exact ⟨⟨_,rfl⟩,.inr ⟨_,by rw [<-Hr.out]; exact zA8 (by omega),hJx3⟩⟩
   ·have:=HN.out;omega
  ·(obtain rfl:k=N:=by omega);gi_wp2;go_end0;exact ⟨⟨_,rfl⟩,.inl ⟨_,rfl,hJs⟩⟩
end Go.Proofs.YtjancagcmghfjaaGreat
namespace Go.Proofs.YtjancagcmghfjaaGreat
open Go.RowKit Go.Shelf
variable {w W W' W2:World} {a l:List Nat} {A:Option Addr} {X Y:Nat->Prop} {n B1 B2 N B m size base g L k c d:Nat} {v:Value} {t e:TypeId} {cs:Array Value} {xs:List Value}
attribute [local go_sem] Oper.semAt_some
theorem zEq {la ca lb cb:Nat} {B:Option Addr} {b:List Nat} (hn:1<=n) (h1:w.cell? B1=some (.slice A la ca)) (h2:w.cell? B2=some (.slice B lb cb))
  (hb1:X B1) (hb2:X B2) (hX:∀ k,X k->k<w.heap.size) (ha:WordsAt w X A la ca a) (hb:WordsAt w X B lb cb b) (hN:N=max la lb) :
  SeqStopsK Fence.wide n Tryz.prog 249 #[.pointer (some B1),.pointer (some B2)] (fun x:Nat=>#[.int .u64 (a.getD x 0:Nat),.int .u64 (b.getD x 0:Nat)]) (Keeps X) (fun ys=>ys=List.range N) (fun pre=>pre <+: List.range N) N w:=fun _l J Jx W hW _ _ hY h0=>
 zIF hn J Jx hY W ((hW.cell (p:=B1) (hX _ hb1)).trans h1) ((hW.cell (p:=B2) (hX _ hb2)).trans h2) hb1 hb2 (ha.below hW) (hb.below hW) hN h0
theorem zHr (h:Boxed W B t v) (o:Nat):W.frozen? ⟨B,o,none⟩=false:=by simp [World.frozen?,show W.heap[B]?=_ from h]
theorem zD6 (h:Boxed W B t v):Box1 W B v:=⟨h.cell,zHr h⟩
theorem zAy {p q:Nat} {cs':Array Value} {t':TypeId} {f f':Nat × Nat} (h:W.heap[p]?=some (.cells cs t f)) (h':W.heap[q]?=some (.cells cs' t' f')) (ht:t ≠ t'):p ≠ q:=by
 rintro rfl;rw [h] at h';cases h';exact ht rfl
theorem zCW {P:Program} {id:Nat} {ops:Array Oper} {Q:Exit->Act->World->Prop} (ap:Nat) (S:Bool->World->Prop) {a:Act} (hm:P.follows .mixedOrders=true)
  (h:wpAnyG P .any ops (NoPanic Q) ap S ops.size (Array.replicate ops.size false) a w.drew):(Code.region id ops true).wpIn Fence.wide n P Q a w:=
 wpIn_wide.2 (wp_region_noPanic (wp_region_any hm (zCF _ _ _ _ h)))
theorem zEm (f g:Nat->Nat):∀ l:List Nat,Num.nat (l.map fun i=>f i+g i)=Num.nat (l.map f)+Num.nat (l.map g)
 | []=>by simp [Num.nat]
 | x :: l=>by
  simp only [List.map_cons,Num.nat,zEm f g l,Nat.mul_add];omega
theorem zC4 :∀ {N:Nat},l.length<=N->Num.nat ((List.range N).map fun i=>l.getD i 0)=Num.nat l:=by
 induction l with
 | nil=>
  intro N _
  induction N with
  | zero=>rfl
  | succ N ih=>rw [List.range_succ,List.map_append,List.map_singleton,Num.nat_snoc,ih (by simp)]; simp
 | cons x l ih=>
  intro N h;obtain ⟨N,rfl⟩:∃ M,N=M+1:=⟨N-1,by simp at h; omega⟩;rw [List.range_succ_eq_map,List.map_cons,List.map_map];simp only [Num.nat];have:=ih (N:=N) (by simpa using h);rw [<-this];rfl
structure AddRel (f:Nat->Nat) (c0:Nat) (pre:List Nat) (cy:Nat) (r:List Nat):Prop where
 len:r.length=pre.length
 ok:Num.Ok r
 one:cy<=1
 val:Num.nat r+cy*Num.base ^ r.length=Num.nat (pre.map f)+c0
theorem AddRel.start (f:Nat->Nat) (c0:Nat) (h:c0<=1):AddRel f c0 [] c0 []:=⟨rfl,Num.Ok.nil,h,by simp [Num.nat]⟩
theorem AddRel.step {f:Nat->Nat} {pre r:List Nat} {c0 cy x q t:Nat} (h:AddRel f c0 pre cy r) (ht:t=f x) (hf:t<=8589934590) (hq:q=(t+cy) / 4294967296) (hm:m=(t+cy) % 4294967296) :
  AddRel f c0 (pre++[x]) q (r++[m]):=by
 have h1:=h.one;refine ⟨by simp [h.len],h.ok.append (Num.Ok.cons (by rw [hm]; exact Nat.mod_lt _ (by decide)) Num.Ok.nil),by omega,?_⟩;have hv:=h.val;rw [List.map_append,List.map_singleton,Num.nat_snoc,Num.nat_snoc,List.length_map,<-h.len,List.length_append,List.length_singleton,Nat.pow_succ,<-ht];have hd:t+cy=Num.base*q+m:=by rw [hq,hm]; exact (Nat.div_add_mod _ _).symm
 generalize Num.nat (pre.map f)=S at *;generalize Num.base ^ r.length=P at *;generalize Num.base=R at *;have e4:P*(t+cy)=P*(R*q+m):=by rw [hd]
 grind
def AddInv (f:Nat->Nat) (c0:Nat) (w:World) (p q g:Nat) (va vb:Value) (pre:List Nat) (W:World):Prop:=
 ∃ v cy r,Boxed W p 76 v/\Boxed W q 166 (.int .u64 (cy:Nat))/\Boxed W g 233 (.func (.func 231) #[] #[.pointer (some q)])/\Boxed W (g+1) 76 va/\Boxed W (g+1+1) 76 vb/\
  W.ownsRow w 105 1 v pre.length (wv r)/\AddRel f c0 pre cy r
theorem zEp {row:Option Nat} (hg:W.grownBy W' row) (hr:∀ r,row=some r->∃ o:Obj,W.heap[r]?=some o/\o.isCells=false) 
  (h:W.ownsRow base e size v n xs):W'.ownsRow base e size v n xs:=by
 obtain ⟨h1,h2⟩:=h;refine ⟨h1,?_⟩;rcases h2 with h2 | ⟨g,cap,cur,e1,hg1,hh,rest⟩
 ·exact .inl h2
 ·exact .inr ⟨g,cap,cur,e1,hg1,zAi hg hr hh,rest⟩
theorem AddInv.own {f:Nat->Nat} {c0:Nat} {p q:Nat} {va vb:Value}:Own (AddInv f c0 w p q g va vb):=by
 rintro pre W W' row ⟨v,cy,r,z1,z2,z3,z4,z5,hown,hR⟩ hg hr;exact ⟨v,cy,r,zAi hg hr z1,zAi hg hr z2,zAi hg hr z3,zAi hg hr z4,zAi hg hr z5,zEp hg hr hown,hR⟩
structure ABox (w:World) (L:Nat) (c0:Int) (W:World):Prop where
 sz:w.heap.size+3<=W.heap.size
 bel:Below w w W
 x0:W.heap[w.heap.size]?=some (.cells (wv (List.replicate L 0)).toArray 105 (0,0))
 x1:Boxed W (w+1) 76 (.slice (some w) 0 L)
 x2:Boxed W (w+1+1) 166 (.int .u64 c0)
theorem ABox.made (w:World) (L:Nat) (c0:Int):ABox w L c0 (((w.alloc (.cells (wv (List.replicate L 0)).toArray 105)).alloc (.cells #[.slice (some w) 0 L] 76)).alloc (.cells #[.int .u64 c0] 166)):=
 ⟨by simp,(((brf _ w).alloc (nlr _) _).alloc (by simp) _).alloc (by simp; omega) _,by rw [Below.heap_alloc _ _ _ (by simp; omega),Below.heap_alloc _ _ _ (by simp)]; exact zAd _ _ (by simp),
  (Below.heap_alloc _ _ _ (by simp)).trans (zAd _ _ (by simp)),zAd _ _ (by simp)⟩
theorem ABox.alloc {c0:Int} (h:ABox w L c0 W) (o:Obj):ABox w L c0 (W.alloc o):=by
 have hs:=h.sz;exact ⟨by simp; omega,h.bel.alloc h.bel.size o,(Below.heap_alloc _ _ _ (by omega)).trans h.x0,Boxed.alloc h.x1 o,Boxed.alloc h.x2 o⟩
theorem ABox.three {W1:World} {c0:Int} (h:ABox w L c0 W1) (fv va vb:Value):∃ W0,((W1.alloc (.cells #[fv] 233)).alloc (.cells #[va] 76)).alloc (.cells #[vb] 76)=W0/\ABox w L c0 W0/\
  W1.heap.size+3<=W0.heap.size/\Boxed W0 W1 233 fv/\Boxed W0 (W1+1) 76 va/\Boxed W0 (W1+1+1) 76 vb:=by
 have y4:=(Boxed.new (W1.alloc (.cells #[fv] 233)) 76 va).alloc (.cells #[vb] 76);have y5:=Boxed.new ((W1.alloc (.cells #[fv] 233)).alloc (.cells #[va] 76)) 76 vb;rw [World.size_alloc] at y4;rw [World.size_alloc,World.size_alloc] at y5;exact ⟨_,rfl,((h.alloc _).alloc _).alloc _,by simp,((Boxed.new W1 233 fv).alloc _).alloc _,y4,y5⟩
theorem ABox.row {c0:Int} (h:ABox w L c0 W) (hL:L<=35184372088000):W.ownsRow w 105 1 (.slice (some w) 0 L) 0 (wv []):=
 ⟨rfl,.inr ⟨w.heap.size,L,(wv (List.replicate L 0)).toArray,rfl,nlr _,h.x0,by omega,by simp [maxLen]; omega,by simp [zBM],rfl⟩⟩
structure WMid (w W W2:World) (p q g k:Nat) (v:Value) (cq:Int) (cm:Nat) (r:List Nat) (fv:Value):Prop where
 sz:W.heap.size+1=W2.heap.size
 keep:∀ k,k<W.heap.size->k ≠ q->W2.heap[k]?=W.heap[k]?
 p2:Boxed W2 p 76 v
 q2:Boxed W2 q 166 (.int .u64 cq)
 g2:Boxed W2 g 233 fv
 nw:∀ j u,(wv [cm])[j]?=some u->W2.cell? ((⟨W,0,none⟩:Addr).add j)=some u
 bel:Below w W W2
 own:W2.ownsRow w 105 1 v k (wv r)
theorem WMid.made {p q:Nat} {u fv:Value} {cq:Int} {cm:Nat} {r:List Nat} (z1:Boxed W p 76 v) (z2:Boxed W q 166 u) (z3:Boxed W g 233 fv) (hown:W.ownsRow w 105 1 v k (wv r)) (hB:Below w w W) (hq:w.heap.size<=q) :
  WMid w W ((W.setCell q (.int .u64 cq)).alloc (.cells #[.int .u32 cm] 105)).drew p q g k v cq cm r fv:=by
 have hk2:∀ k,k<W.heap.size->k ≠ q->((W.setCell q (.int .u64 cq)).alloc (.cells #[.int .u32 cm] 105)).drew.heap[k]?=W.heap[k]?:=fun k hk hkq=>
  (Below.heap_alloc _ _ _ (by simpa [World.setCell] using hk)).trans (bhs _ _ _ _ hkq)
 refine ⟨by simp [World.setCell,World.drew],hk2,(hk2 p z1.lt (zAy z1 z2 (by decide))).trans z1,(Boxed.set (.int .u64 cq) z2).alloc _,(hk2 g z3.lt (zAy z3 z2 (by decide))).trans z3,fun j u hj=>?_,(((brf _ W).setCell (p:=q) hq _).alloc (by have:=hB.size; simpa [World.setCell] using this) _).drew,zAr hown fun j hj=>?_⟩
 ·have:=cell_one_new (W.setCell q (.int .u64 cq)) (.int .u32 cm) 105 j u hj
  rwa [show (W.setCell q (.int .u64 cq)).heap.size=W.heap.size from by simp [World.setCell]] at this
 ·obtain ⟨_,cs,hh⟩:=zAc hown hj;exact hk2 j (zAa hh) (zAy hh z2 (by decide))
theorem WMid.grown {w3:World} {p q:Nat} {fv:Value} {cq:Int} {cm:Nat} {r:List Nat} (h:WMid w W W2 p q g k v cq cm r fv) (hg:W2.grownBy w3 v.ownBlock):Boxed w3 p 76 v/\Boxed w3 q 166 (.int .u64 cq)/\Boxed w3 g 233 fv:=by
 have no:∀ {x:Nat} {t:TypeId} {u:Value},Boxed W2 x t u->105 ≠ t->w3.heap[x]?=W2.heap[x]?:=fun {x t u} hx ht=>hg.block x hx.lt fun e=>by
  obtain ⟨_,cs,hh⟩:=zAc h.own e.symm;exact zAy hh hx ht rfl
 exact ⟨(no h.p2 (by decide)).trans h.p2,(no h.q2 (by decide)).trans h.q2,(no h.g2 (by decide)).trans h.g2⟩
theorem AddInv.push {f:Nat->Nat} {c0 B0 x cq cm g' c' p q:Nat} {w3:World} {va vb u:Value} {pre r:List Nat} {act:Act} (hpq:w.heap.size<p/\p<q/\q<g) (z1:Boxed W p 76 v) (z2:Boxed W q 166 u) (z4:Boxed W (g+1) 76 va) (z5:Boxed W (g+1+1) 76 vb)
  (hown:W.ownsRow w 105 1 v pre.length (wv r)) (hB:Below w w W) (hM:WMid w W W2 p q g pre.length v (cq:Int) cm r (.func (.func 231) #[] #[.pointer (some q)])) (hown3:w3.ownsRow w 105 1 (.slice (some g') (pre.length+1) c') (pre.length+1) (wv r++wv [cm]))
  (hgr:W2.grownBy w3 v.ownBlock) (hst:AddRel f c0 (pre++[x]) cq (r++[cm])) :
  ownPostG B0 (Keeps fun k=>k<w.heap.size\/k=g+1\/k=g+1+1) (fun pre W=>AddInv f c0 w p q g va vb pre W/\Below w w W) (fun _ _ _=>False) (pre++[x]) W Exit.normal act (w3.setCell p (.slice (some g') (pre.length+1) c')):=by
 obtain ⟨p3,q3,g3⟩:=hM.grown hgr;obtain ⟨h1,h2,h3⟩:=hpq;have lf:(w3.setCell p (.slice (some g') (pre.length+1) c')).heap.size=w3.heap.size:=by simp [World.setCell]
 have hsz2:=hM.sz;have hsz3:=hgr.size;have l4:=z4.lt;have l5:=z5.lt
 have hblk:∀ k,k<W.heap.size->k ≠ q->k ≠ p->some k ≠ v.ownBlock->(w3.setCell p (.slice (some g') (pre.length+1) c')).heap[k]?=W.heap[k]?:=fun k h1 h2 h3 h4=>
  (bhs _ _ _ _ h3).trans ((hgr.block k (by omega) h4).trans (hM.keep k h1 h2))
 have nob:∀ (k:Nat) (o:Obj),W.heap[k]?=some o->(∀ cs,o ≠ .cells cs 105 (0,0))->some k ≠ v.ownBlock:=fun k o hk ho e=>by
  obtain ⟨_,cs,hh⟩:=zAc hown e.symm;rw [hh] at hk; cases hk; exact ho cs rfl
 have k4:=hblk _ l4 (by omega) (by omega) (nob _ _ z4 (by intro cs e; cases e));have k5:=hblk _ l5 (by omega) (by omega) (nob _ _ z5 (by intro cs e; cases e));refine ⟨⟨by omega,fun k o _ hk ho=>(hblk k (zAa hk) ?_ ?_ (nob k o hk ?_)).trans hk⟩,?_,?_,?_⟩
 ·rintro rfl; rw [show W.heap[k]?=_ from z2] at hk; cases hk; cases ho
 ·rintro rfl; rw [show W.heap[k]?=_ from z1] at hk; cases hk; cases ho
 ·rintro cs rfl; cases ho
 ·rintro k (hk | rfl | rfl)
  ·(refine hblk k (by have:=hB.size; omega) (by omega) (by omega) fun e=>?_);have:=(zAc hown e.symm).1;omega
  ·exact k4
  ·exact k5
 ·refine ⟨_,cq,r++[cm],Boxed.set _ p3,(bhs _ _ _ _ (by show q ≠ p; omega)).trans q3,(bhs _ _ _ _ (by show g ≠ p; omega)).trans g3,k4.trans z4,k5.trans z5,?_,hst⟩;rw [<-zB2] at hown3;refine zAr (by simpa using hown3) fun j hj=>bhs _ _ _ _ ?_
  obtain ⟨_,cs,hh⟩:=zAc hown3 hj;exact zAy hh p3 (by decide)
 ·exact (hB.trans (hM.bel.trans ((brf _ _).grown hgr (by have:=hB.size; omega) (zC6 hM.own)))).setCell (p:=p) (by show w.heap.size<=p; omega) _
theorem zCI {B:Option Addr} {b:List Nat} (ha:WordsAt w X A n c a) (hb:WordsAt w Y B m d b) (hn:n<35184372088000) (hm:m<35184372088000) :
  Calls Tryz.prog 202 #[.slice A n c,.slice B m d] w fun e w'=>(∃ A' c' r,e = .returned (.slice A' (max n m+1) c')/\WordsAt w' (New w) A' (max n m+1) c' r/\Num.nat r=Num.nat a+Num.nat b)/\Below w w w':=by
 obtain ⟨i0,hi,hz0,hz1,hz2⟩:=info_parts zE9;refine (callsIn_wide (n:=6)).1 ?_;obtain ⟨N,hN⟩:∃ N,N=max n m:=⟨_,rfl⟩;have HN:=hdq hN;have Ha:=hdq ha;have Hb:=hdq hb;have Hn:=hdq (show N<35184372088000 from by omega);rw [<-hN]
 have hmk:∀ w,(Instr.makeSlice 76 (.int .i64 0) (.int .i64 ((N:Int)+1))).run Tryz.prog w = .ok (.slice (some ⟨w,0,none⟩) 0 (N+1)) (w.alloc (.cells (wv (List.replicate (N+1) 0)).toArray 105)):=by
  intro w;have:=zA2 0 (N+1) (by omega) (by omega) w;simpa using this
 have hmax:max (n:Int) (m:Int)=(N:Int):=by omega
 have hwr:=zCd (k:=N) (by omega);clear hn hm ha hb hN;refine callsIn_of_wp_marks Tryz.func202 rfl trivial ?_ rfl;simp only [Tryz.ntmps202,List.size_toArray,List.length_cons,List.length_nil,Nat.reduceAdd,Nat.reduceSub,Array.replicate_succ,Array.replicate_zero,List.push_toArray,List.append_toArray,List.nil_append,List.cons_append];gi_wp2;refine ⟨trivial,?_⟩;refine (callsIn_wide.2 (zA9 _ _)).mono ?_;rintro e w1 ⟨rfl,rfl⟩;have hA1:=ABox.made w (N+1) 0;generalize ((w.alloc (.cells (wv (List.replicate (N+1) 0)).toArray 105)).alloc (.cells #[.slice (some w) 0 (N+1)] 76)).alloc (.cells #[.int .u64 0] 166)=W1 at *;have HA:=hdq hA1;clear hA1;gi_wp2;refine ⟨trivial,?_⟩;refine (zG8 A B n c m d).mono ?_;rintro e w2 ⟨rfl,rfl⟩;obtain ⟨W0,hW0,hA0,hs0,y3,y4,y5⟩:=HA.out.three (.func (.func 231) #[] #[.pointer (some ⟨w+1+1,0,none⟩)]) (.slice A n c) (.slice B m d);rw [hW0];clear hW0;gi_wp2;have hs1:=HA.out.sz;have y1:=hA0.x1;have y2:=hA0.x2;have hk0:=hA0.bel;have hown0:=hA0.row (by have:=Hn.out; omega);clear hA0;obtain ⟨p,hp⟩:∃ p,p=w.heap.size+1:=⟨_,rfl⟩;obtain ⟨q,hq⟩:∃ q,q=w.heap.size+1+1:=⟨_,rfl⟩;obtain ⟨g,hg⟩:∃ g,g=W1.heap.size:=⟨_,rfl⟩
 refine wpIn_rangeFunc_ownG (F:=Fence.wide) rfl (by omega) (gf:=249) (lb:=#[.pointer (some ⟨W1+1,0,none⟩),.pointer (some ⟨W1+1+1,0,none⟩)]) rfl trivial (enters_of Tryz.func249 (by kernel_rfl) rfl)
  (zEq (X:=fun k=>k<w.heap.size\/k=W1.heap.size+1\/k=W1.heap.size+1+1) (a:=a) (b:=b) (N:=N) (by omega) y4.cell y5.cell (.inr (.inl rfl)) (.inr (.inr rfl)) (by intro k hk; omega)
   ((Ha.out.old.below hk0).imp fun k _ hk=>.inl hk) ((Hb.out.old.below hk0).imp fun k _ hk=>.inl hk) HN.out)
  zG3 (zG2 (by intro k hk; omega)) (brf _ _) (fun _=>rfl)
  (fun pre W=>AddInv (fun i=>a.getD i 0+b.getD i 0) 0 w p q g (.slice A n c) (.slice B m d) pre W/\Below w w W)
  (fun _ _ _=>False)
  (OwnFrom.and (Own.from AddInv.own _) (ownFrom_below (nlr _) (by omega)))
  (fun _ _ _ _ _ hs _ _=>hs)
  ⟨⟨_,0,[],by rw [hp]; exact y1,by rw [hq]; exact y2,by rw [hg,hq]; exact y3,by rw [hg]; exact y4,by rw [hg]; exact y5,hown0,AddRel.start _ 0 (by omega)⟩,hk0⟩
  (fun x=>{tmps:=#[.slice A n c,.slice B m d,undef,undef,.slice none 0 0,.pointer (some ⟨w+1,0,none⟩),.pointer (some W1),.int .u64 (a.getD x 0:Nat),.int .u64 (b.getD x 0:Nat),.slice A n c,.int .i64 n,.slice B m d,.int .i64 m,.int .i64 N,.int .i64 ((N:Int)+1),.slice (some w) 0 (N+1),.func (.func 231) #[] #[.pointer (some ⟨w+1+1,0,none⟩)],.slice A n c,.slice B m d,.func (.func 249) #[] #[.pointer (some ⟨W1+1,0,none⟩),.pointer (some ⟨W1+1+1,0,none⟩)],.int .u64 (a.getD x 0:Nat),.int .u64 (b.getD x 0:Nat),undef,undef,undef,undef,undef,undef,undef,undef,undef,undef,undef,undef,undef],defers:=[]}) ?assign ?body ?done ?stop
 case assign=>
  intro l x W K hK;clear hs1 hs0;gi_wp2;exact hK
 case stop=>
  rintro D c pre W _ _ h _;exact h.elim
 case body=>
  rintro l pre x W ⟨⟨v,cy,r,z1,z2,z3,z4,z5,hown,hR⟩,hB⟩ hlt;dsimp only;rw [<-hq,<-hp,<-hg];have Hq:=hdq hq;have Hp:=hdq hp;have Hg:=hdq hg;clear hq hp hg hs1 hs0;clear y1 y2 y3 y4 y5 hown0;have hx:a.getD x 0<4294967296:=zCT Ha.out.ok x;have hy:b.getD x 0<4294967296:=zCT Hb.out.ok x;obtain ⟨cq,hcq⟩:∃ cq,cq=(a.getD x 0+b.getD x 0+cy) / 4294967296:=⟨_,rfl⟩;obtain ⟨cm,hcm⟩:∃ cm,cm=(a.getD x 0+b.getD x 0+cy) % 4294967296:=⟨_,rfl⟩;have Hstep:=hdq (hR.step rfl (by omega) hcq hcm);have HQ:=hdq hcq;have HM:=hdq hcm;have hone:=hR.one;clear hcq hcm hR;generalize a.getD x 0=x1 at *;generalize b.getD x 0=x2 at *;have c1:=z1.cell;have c3:=z3.cell;have hsum:IntKind.u64.wrap ((x1:Int)+(x2:Int))=(x1:Int)+(x2:Int):=IntWalk.u64_in _ ⟨by omega,by omega⟩;gi_wp2;refine zBi 7 (fun f w'=>w'.cell? g=some (.func (.func 231) #[] #[.pointer (some q)])/\(f=false->w'.cell? p=some v)) (by kernel_rfl) (by kernel_rfl) (by rintro ⟨_,_,h⟩; exact h) ?_;refine takeW (i:=0) v rfl rfl (by kernel_rfl) (by kernel_rfl) (by kernel_rfl) (by kernel_rfl) (by kernel_rfl) (fun _ _ _ h=>h) (by rfl) (fun w' hSw=>?_) ⟨c3,fun _=>c1⟩ ?_
  ·have:=hSw.2 rfl;go_simp
  simp only [zz];refine takeA (i:=1) (.func (.func 231) #[] #[.pointer (some q)]) rfl rfl (by kernel_rfl) (by kernel_rfl) (by kernel_rfl) (by decide) (fun _ _ _ h=>h) (by rfl) (fun w' hSw=>?_) ⟨c3,fun _=>c1⟩ ?_
  ·obtain ⟨_,hSw,_⟩:=hSw;go_simp
  simp only [zz];refine takeA (i:=2) (.int .u64 x1) rfl rfl (by kernel_rfl) (by kernel_rfl) (by kernel_rfl) (by decide) (fun _ _ _ h=>h) (by rfl) (fun w' hSw=>?_) ⟨c3,fun _=>c1⟩ ?_
  ·go_simp
  simp only [zz];refine takeA (i:=3) (.int .u64 x2) rfl rfl (by kernel_rfl) (by kernel_rfl) (by kernel_rfl) (by decide) (fun _ _ _ h=>h) (by rfl) (fun w' hSw=>?_) ⟨c3,fun _=>c1⟩ ?_
  ·go_simp
  simp only [zz];refine takeA (i:=4) (.int .u64 ((x1:Int)+(x2:Int))) rfl rfl (by kernel_rfl) (by kernel_rfl) (by kernel_rfl) (by decide) (fun _ _ _ h=>h) (by rfl) (fun w' hSw=>?_) ⟨c3,fun _=>c1⟩ ?_
  ·go_simp
  simp only [zz];refine tk1 5 ?_;intro K hK;go_simp;refine (zAP ((x1:Int)+(x2:Int)) (x1+x2) cy cq cm (by simp) HQ.out HM.out (by omega) (w:=W.drew) (zD6 z2)).mono ?_;rintro e w1 ⟨rfl,rfl⟩;dsimp only;have hqp:q ≠ p:=zAy z2 z1 (by decide);have hqg:q ≠ g:=zAy z2 z3 (by decide);have hpg:p ≠ g:=zAy z1 z3 (by decide);refine hK.out _ _ ⟨?_,fun _=>?_⟩ ?_
  ·rw [World.cell?_setCell_far _ _ _ _ hqg]; exact c3
  ·rw [World.cell?_setCell_far _ _ _ _ hqp]; exact c1
  clear hK K;refine tk1 6 ?_;intro K hK;go_simp;have hM:=WMid.made (cq:=cq) (cm:=cm) z1 z2 z3 hown hB (by have:=Hq.out; omega);generalize ((W.setCell q (.int .u64 cq)).alloc (.cells #[.int .u32 cm] 105)).drew=W2 at *;have hsz2:=hM.sz;refine hK.out _ _ ⟨hM.g2.cell,fun _=>hM.p2.cell⟩ ?_;clear hK K;refine tk1 7 ?_;intro K hK;refine zAq _ _ 76 rfl w 105 i0 (.int .u32 0) 1 4 Tryz.underlying76 hi hz0 hz1 hz2 rfl (by decide) v pre.length (wv r) rfl hM.own ⟨W,0,none⟩ 1 1 (wv [cm]) rfl rfl hM.nw (zEC _) ?b1 ?b2 ?b3 ?_;case b1=>have:=Hn.out; simp [maxLen]; omega
  case b2=>have:=Hn.out; omega
  case b3=>have:=hB.size; omega
  intro v' w3 hown3 hgr hnil hat;obtain ⟨g',c',rfl⟩:=ownsRow_succ hown3;simp only [Act.put,zz];obtain ⟨p3,-,g3⟩:=hM.grown hgr;refine hK.out _ _ ⟨Boxed.cell g3,fun h=>absurd h (by decide)⟩ ?_;clear hK K;have cp3:=p3.cell;have fp3:=p3.frozen;refine tk1 8 ?_;intro K hK;go_simp;refine hK.out _ _ ⟨?_,fun h=>absurd h (by decide)⟩ ?_
  ·rw [World.cell?_setCell_far _ _ _ _ hpg]; exact Boxed.cell g3
  refine zAf (by kernel_rfl) ?_ _;gi_wp2;exact AddInv.push (by have:=Hp.out; have:=Hq.out; have:=Hg.out; have:=HA.out.sz; omega) z1 z2 z4 z5 hown hB hM hown3 hgr Hstep.out
 case done=>
  rintro D ys W hD rfl ⟨⟨v,cy,r,z1,z2,z3,z4,z5,hown,hR⟩,hB⟩ hK0;rw [<-hq,<-hp,<-hg];have Hq:=hdq hq;have Hp:=hdq hp;have Hg:=hdq hg;have Hs:=hdq hs0;clear hq hp hg hs1 hs0;clear y1 y2 y3 y4 y5 hown0;rw [List.length_range] at hown;have hone:=hR.one;have HR:=hdq hR;clear hR;have c1:=z1.cell;have c3:=z3.cell;gi_wp2;refine zCW 4 (fun f w'=>w'.cell? g=some (.func (.func 231) #[] #[.pointer (some q)])/\(f=false->w'.cell? p=some v)) (by kernel_rfl) ?_;refine takeW (i:=0) v rfl rfl (by kernel_rfl) (by kernel_rfl) (by kernel_rfl) (by kernel_rfl) (by kernel_rfl) (fun _ _ _ h=>h) (by rfl) (fun w' hSw=>?_) ⟨c3,fun _=>c1⟩ ?_
  ·have:=hSw.2 rfl;go_simp
  simp only [zz];refine takeA (i:=1) (.func (.func 231) #[] #[.pointer (some q)]) rfl rfl (by kernel_rfl) (by kernel_rfl) (by kernel_rfl) (by decide) (fun _ _ _ h=>h) (by rfl) (fun w' hSw=>?_) ⟨c3,fun _=>c1⟩ ?_
  ·obtain ⟨_,hSw,_⟩:=hSw;go_simp
  simp only [zz];refine tk1 2 ?_;intro K hK;go_simp;refine (zAP 0 0 cy 0 cy rfl (by omega) (by omega) (by omega) (w:=W.drew) (zD6 z2)).mono ?_;rintro e w1 ⟨rfl,rfl⟩;dsimp only;have hqp:q ≠ p:=zAy z2 z1 (by decide);have hqg:q ≠ g:=zAy z2 z3 (by decide);refine hK.out _ _ ⟨?_,fun _=>?_⟩ ?_
  ·rw [World.cell?_setCell_far _ _ _ _ hqg]; exact c3
  ·rw [World.cell?_setCell_far _ _ _ _ hqp]; exact c1
  clear hK K;refine tk1 3 ?_;intro K hK;go_simp;have hM:=WMid.made (cq:=0) (cm:=cy) z1 z2 z3 hown hB (by have:=Hq.out; omega);generalize ((W.setCell q (.int .u64 0)).alloc (.cells #[.int .u32 cy] 105)).drew=W2 at *;have hsz2:=hM.sz;refine hK.out _ _ ⟨hM.g2.cell,fun _=>hM.p2.cell⟩ ?_;clear hK K;refine tk1 4 ?_;intro K hK;refine zAq _ _ 76 rfl w 105 i0 (.int .u32 0) 1 4 Tryz.underlying76 hi hz0 hz1 hz2 rfl (by decide) v N (wv r) rfl hM.own ⟨W,0,none⟩ 1 1 (wv [cy]) rfl rfl hM.nw (zEC _) ?b1 ?b2 ?b3 ?_;case b1=>have:=Hn.out; simp [maxLen]; omega
  case b2=>have:=Hn.out; omega
  case b3=>have:=hB.size; omega
  intro v' w3 hown3 hgr hnil hat;obtain ⟨g',c',rfl⟩:=ownsRow_succ hown3;simp only [Act.put,zz];obtain ⟨-,-,g3⟩:=hM.grown hgr;have hsz3:=hgr.size
  have hD3:w3.heap[D]?=some (.deferred (some [])):=by
   have hDl:=zAa hK0;refine (hgr.block D (by omega) ?_).trans ((hM.keep D hDl ?_).trans hK0)
   ·intro e;obtain ⟨_,cs,hh⟩:=zAc hown e.symm;rw [hK0] at hh; cases hh
   ·rintro rfl; rw [show W.heap[D]?=_ from z2] at hK0; cases hK0
  refine hK.out _ _ ⟨Boxed.cell g3,fun h=>absurd h (by decide)⟩ ?_;clear hK K;refine tk1 5 ?_;intro K hK;go_simp;refine hK.out _ _ ⟨Boxed.cell g3,fun h=>absurd h (by decide)⟩ ?_;clear hK K;refine zAf (by kernel_rfl) (NoPanic.normal ?_) _;gi_wp2;refine ⟨by simp,.inl ⟨_,_,rfl,run_takeDeferred hD3,?_⟩⟩;have h3:Below w W2 w3:=(brf _ _).grown hgr (by have:=hB.size; omega) (zC6 hM.own);rw [<-zB2] at hown3
  have hcyb:cy<Num.base:=by
   have:(1:Nat)<Num.base:=(by decide);omega
  obtain ⟨A',c'',e1,hA⟩:=zC7 (by simpa using hown3) (HR.out.ok.append (Num.Ok.cons hcyb Num.Ok.nil));refine ⟨_,results_tmp rfl _ _ _,⟨A',c'',_,by simpa using e1,hA.grown (grownBy_putObj' _ D (.deferred none)) (fun r e=>by cases e; exact ⟨_,hD3,rfl⟩),?_⟩,?_⟩
  ·rw [Num.nat_snoc,Nat.mul_comm,HR.out.val,Nat.add_zero,zEm,zC4 (by rw [Ha.out.len,HN.out]; omega),zC4 (by rw [Hb.out.len,HN.out]; omega)]
  ·exact (hB.trans (hM.bel.trans h3)).trans (belowK_b (w:=w) (nlr _) w3 D _ _ (by have:=Hs.out; have:=HA.out.sz; omega) hD3 rfl rfl)
end Go.Proofs.YtjancagcmghfjaaGreat
namespace Go.Proofs.YtjancagcmghfjaaGreat
open Go.RowKit Go.Shelf
variable {N n c m d:Nat} {a:List Nat} {A:Option Addr} {X Y:Nat->Prop} {w:World}
attribute [local go_sem] Oper.semAt_some
theorem zFS (a b:List Nat) (hb:Num.Ok b):∀ N,Num.nat ((List.range N).map fun i=>a.getD i 0+(4294967295-b.getD i 0))+Num.nat ((List.range N).map fun i=>b.getD i 0)+1=Num.nat ((List.range N).map fun i=>a.getD i 0)+Num.base ^ N
 | 0=>by simp [Num.nat]
 | N+1=>by
  have ih:=zFS a b hb N;have h1:=zCT hb N;simp only [List.range_succ,List.map_append,List.map_singleton,Num.nat_snoc,List.length_map,List.length_range,Nat.pow_succ];generalize Num.nat ((List.range N).map fun i=>a.getD i 0+(4294967295-b.getD i 0))=S1 at *;generalize Num.nat ((List.range N).map fun i=>b.getD i 0)=S2 at *;generalize Num.nat ((List.range N).map fun i=>a.getD i 0)=S3 at *;generalize b.getD N 0=y at *;generalize a.getD N 0=x at *;have hR:Num.base=(4294967295-y)+y+1:=by unfold Num.base; omega
  generalize 4294967295-y=y' at *;generalize Num.base ^ N=P at *;generalize Num.base=R at *;subst hR;grind
theorem zIU {b r:List Nat} {cy:Nat} (h:AddRel (fun i=>a.getD i 0+(4294967295-b.getD i 0)) 1 (List.range N) cy r) (hb:Num.Ok b) (la:a.length<=N) (lb:b.length<=N) (hle:Num.nat b<=Num.nat a):Num.nat r=Num.nat a-Num.nat b:=by
 have h1:=zFS a b hb N;rw [zC4 la,zC4 lb] at h1;have h2:=h.val;have h3:=Num.nat_lt h.ok;rw [h.len,List.length_range] at h2 h3;have h4:=h.one;generalize Num.nat ((List.range N).map fun i=>a.getD i 0+(4294967295-b.getD i 0))=S1 at *;generalize Num.base ^ N=P at *;have:cy=0\/cy=1:=by omega
 rcases this with rfl | rfl
 ·rw [Nat.zero_mul] at h2; omega
 ·rw [Nat.one_mul] at h2; omega
theorem zBQ {B:Option Addr} {b:List Nat} (ha:WordsAt w X A n c a) (hb:WordsAt w Y B m d b) (hn:n<35184372088000) (hmn:m<=n) (hle:Num.nat b<=Num.nat a) :
  Calls Tryz.prog 203 #[.slice A n c,.slice B m d] w fun e w'=>(∃ A' c' r,e = .returned (.slice A' n c')/\WordsAt w' (New w) A' n c' r/\Num.nat r=Num.nat a-Num.nat b)/\Below w w w':=by
 obtain ⟨i0,hi,hz0,hz1,hz2⟩:=info_parts zE9;refine (callsIn_wide (n:=6)).1 ?_;obtain ⟨N,hN⟩:∃ N,N=n:=⟨_,rfl⟩;have HNm:=hdq (show N=max n m from by omega);have HNn:=hdq hN;have Ha:=hdq ha;have Hb:=hdq hb;have Hle:=hdq hle;have Hn:=hdq (show N<35184372088000 from by omega)
 have hmk:∀ w,(Instr.makeSlice 76 (.int .i64 0) (.int .i64 (n:Int))).run Tryz.prog w = .ok (.slice (some ⟨w,0,none⟩) 0 n) (w.alloc (.cells (wv (List.replicate n 0)).toArray 105)):=by
  intro w;have:=zA2 0 n (by omega) (by omega) w;simpa using this
 clear hn hmn hle ha hb hN;refine callsIn_of_wp_marks Tryz.func203 rfl trivial ?_ rfl;simp only [Tryz.ntmps203,List.size_toArray,List.length_cons,List.length_nil,Nat.reduceAdd,Nat.reduceSub,Array.replicate_succ,Array.replicate_zero,List.push_toArray,List.append_toArray,List.nil_append,List.cons_append];gi_wp2;refine ⟨trivial,?_⟩;refine (callsIn_wide.2 (zA9 _ _)).mono ?_;rintro e w1 ⟨rfl,rfl⟩;have hA1:=ABox.made w n 1;generalize ((w.alloc (.cells (wv (List.replicate n 0)).toArray 105)).alloc (.cells #[.slice (some w) 0 n] 76)).alloc (.cells #[.int .u64 1] 166)=W1 at *;have HA:=hdq hA1;clear hA1;gi_wp2;refine ⟨trivial,?_⟩;refine (zG8 A B n c m d).mono ?_;rintro e w2 ⟨rfl,rfl⟩;obtain ⟨W0,hW0,hA0,hs0,y3,y4,y5⟩:=HA.out.three (.func (.func 231) #[] #[.pointer (some ⟨w+1+1,0,none⟩)]) (.slice A n c) (.slice B m d);rw [hW0];clear hW0;gi_wp2;have hs1:=HA.out.sz;have y1:=hA0.x1;have y2:=hA0.x2;have hk0:=hA0.bel;have hown0:=hA0.row (by have:=Hn.out; have:=HNn.out; omega);clear hA0;obtain ⟨p,hp⟩:∃ p,p=w.heap.size+1:=⟨_,rfl⟩;obtain ⟨q,hq⟩:∃ q,q=w.heap.size+1+1:=⟨_,rfl⟩;obtain ⟨g,hg⟩:∃ g,g=W1.heap.size:=⟨_,rfl⟩
 refine wpIn_rangeFunc_ownG (F:=Fence.wide) rfl (by omega) (gf:=249) (lb:=#[.pointer (some ⟨W1+1,0,none⟩),.pointer (some ⟨W1+1+1,0,none⟩)]) rfl trivial (enters_of Tryz.func249 (by kernel_rfl) rfl)
  (zEq (X:=fun k=>k<w.heap.size\/k=W1.heap.size+1\/k=W1.heap.size+1+1) (a:=a) (b:=b) (N:=N) (by omega) y4.cell y5.cell (.inr (.inl rfl)) (.inr (.inr rfl)) (by intro k hk; omega)
   ((Ha.out.old.below hk0).imp fun k _ hk=>.inl hk) ((Hb.out.old.below hk0).imp fun k _ hk=>.inl hk) HNm.out)
  zG3 (zG2 (by intro k hk; omega)) (brf _ _) (fun _=>rfl)
  (fun pre W=>AddInv (fun i=>a.getD i 0+(4294967295-b.getD i 0)) 1 w p q g (.slice A n c) (.slice B m d) pre W/\Below w w W)
  (fun _ _ _=>False)
  (OwnFrom.and (Own.from AddInv.own _) (ownFrom_below (nlr _) (by omega)))
  (fun _ _ _ _ _ hs _ _=>hs)
  ⟨⟨_,1,[],by rw [hp]; exact y1,by rw [hq]; exact y2,by rw [hg,hq]; exact y3,by rw [hg]; exact y4,by rw [hg]; exact y5,hown0,AddRel.start _ 1 (by omega)⟩,hk0⟩
  (fun x=>{tmps:=#[.slice A n c,.slice B m d,undef,undef,.slice none 0 0,.pointer (some ⟨w+1,0,none⟩),.pointer (some W1),.int .u64 (a.getD x 0:Nat),.int .u64 (b.getD x 0:Nat),.slice A n c,.int .i64 n,.slice (some w) 0 n,.func (.func 231) #[] #[.pointer (some ⟨w+1+1,0,none⟩)],.slice A n c,.slice B m d,.func (.func 249) #[] #[.pointer (some ⟨W1+1,0,none⟩),.pointer (some ⟨W1+1+1,0,none⟩)],.int .u64 (a.getD x 0:Nat),.int .u64 (b.getD x 0:Nat),undef,undef,undef,undef,undef,undef,undef,undef,undef,undef],defers:=[]}) ?assign ?body ?done ?stop
 case assign=>
  intro l x W K hK;clear hs1 hs0;gi_wp2;exact hK
 case stop=>
  rintro D c pre W _ _ h _;exact h.elim
 case body=>
  rintro l pre x W ⟨⟨v,cy,r,z1,z2,z3,z4,z5,hown,hR⟩,hB⟩ hlt;rw [<-hq,<-hp,<-hg];have Hq:=hdq hq;have Hp:=hdq hp;have Hg:=hdq hg;clear hq hp hg hs1 hs0;clear y1 y2 y3 y4 y5 hown0;have hx:a.getD x 0<4294967296:=zCT Ha.out.ok x;have hy:b.getD x 0<4294967296:=zCT Hb.out.ok x;obtain ⟨cq,hcq⟩:∃ cq,cq=(a.getD x 0+(4294967295-b.getD x 0)+cy) / 4294967296:=⟨_,rfl⟩;obtain ⟨cm,hcm⟩:∃ cm,cm=(a.getD x 0+(4294967295-b.getD x 0)+cy) % 4294967296:=⟨_,rfl⟩;have Hstep:=hdq (hR.step rfl (by omega) hcq hcm);have HQ:=hdq hcq;have HM:=hdq hcm;have hone:=hR.one;clear hcq hcm hR;generalize a.getD x 0=x1 at *;generalize b.getD x 0=x2 at *;have c1:=z1.cell;have c3:=z3.cell;have hsub:IntKind.u64.wrap (4294967295-(x2:Int))=4294967295-(x2:Int):=IntWalk.u64_in _ ⟨by omega,by omega⟩;have hsum:IntKind.u64.wrap ((x1:Int)+(4294967295-(x2:Int)))=(x1:Int)+(4294967295-(x2:Int)):=IntWalk.u64_in _ ⟨by omega,by omega⟩;gi_wp2;refine zBi 8 (fun f w'=>w'.cell? g=some (.func (.func 231) #[] #[.pointer (some q)])/\(f=false->w'.cell? p=some v)) (by kernel_rfl) (by kernel_rfl) (by rintro ⟨_,_,h⟩; exact h) ?_;refine takeW (i:=0) v rfl rfl (by kernel_rfl) (by kernel_rfl) (by kernel_rfl) (by kernel_rfl) (by kernel_rfl) (fun _ _ _ h=>h) (by rfl) (fun w' hSw=>?_) ⟨c3,fun _=>c1⟩ ?_
  ·have:=hSw.2 rfl;go_simp
  simp only [zz];refine takeA (i:=1) (.func (.func 231) #[] #[.pointer (some q)]) rfl rfl (by kernel_rfl) (by kernel_rfl) (by kernel_rfl) (by decide) (fun _ _ _ h=>h) (by rfl) (fun w' hSw=>?_) ⟨c3,fun _=>c1⟩ ?_
  ·obtain ⟨_,hSw,_⟩:=hSw;go_simp
  simp only [zz];refine takeA (i:=2) (.int .u64 x1) rfl rfl (by kernel_rfl) (by kernel_rfl) (by kernel_rfl) (by decide) (fun _ _ _ h=>h) (by rfl) (fun w' hSw=>?_) ⟨c3,fun _=>c1⟩ ?_
  ·go_simp
  simp only [zz];refine takeA (i:=3) (.int .u64 x2) rfl rfl (by kernel_rfl) (by kernel_rfl) (by kernel_rfl) (by decide) (fun _ _ _ h=>h) (by rfl) (fun w' hSw=>?_) ⟨c3,fun _=>c1⟩ ?_
  ·go_simp
  simp only [zz];refine takeA (i:=4) (.int .u64 (4294967295-(x2:Int))) rfl rfl (by kernel_rfl) (by kernel_rfl) (by kernel_rfl) (by decide) (fun _ _ _ h=>h) (by rfl) (fun w' hSw=>?_) ⟨c3,fun _=>c1⟩ ?_
  ·go_simp
  simp only [zz];refine takeA (i:=5) (.int .u64 ((x1:Int)+(4294967295-(x2:Int)))) rfl rfl (by kernel_rfl) (by kernel_rfl) (by kernel_rfl) (by decide) (fun _ _ _ h=>h) (by rfl) (fun w' hSw=>?_) ⟨c3,fun _=>c1⟩ ?_
  ·go_simp
  simp only [zz];refine tk1 6 ?_;intro K hK;go_simp;refine (zAP ((x1:Int)+(4294967295-(x2:Int))) (x1+(4294967295-x2)) cy cq cm (by omega) HQ.out HM.out (by omega) (w:=W.drew) (zD6 z2)).mono ?_;rintro e w1 ⟨rfl,rfl⟩;dsimp only;have hqp:q ≠ p:=zAy z2 z1 (by decide);have hqg:q ≠ g:=zAy z2 z3 (by decide);have hpg:p ≠ g:=zAy z1 z3 (by decide);refine hK.out _ _ ⟨?_,fun _=>?_⟩ ?_
  ·rw [World.cell?_setCell_far _ _ _ _ hqg]; exact c3
  ·rw [World.cell?_setCell_far _ _ _ _ hqp]; exact c1
  clear hK K;refine tk1 7 ?_;intro K hK;go_simp;have hM:=WMid.made (cq:=cq) (cm:=cm) z1 z2 z3 hown hB (by have:=Hq.out; omega);generalize ((W.setCell q (.int .u64 cq)).alloc (.cells #[.int .u32 cm] 105)).drew=W2 at *;have hsz2:=hM.sz;refine hK.out _ _ ⟨hM.g2.cell,fun _=>hM.p2.cell⟩ ?_;clear hK K;refine tk1 8 ?_;intro K hK;refine zAq _ _ 76 rfl w 105 i0 (.int .u32 0) 1 4 Tryz.underlying76 hi hz0 hz1 hz2 rfl (by decide) v pre.length (wv r) rfl hM.own ⟨W,0,none⟩ 1 1 (wv [cm]) rfl rfl hM.nw (zEC _) ?b1 ?b2 ?b3 ?_;case b1=>have:=Hn.out; simp [maxLen]; omega
  case b2=>have:=Hn.out; omega
  case b3=>have:=hB.size; omega
  intro v' w3 hown3 hgr hnil hat;obtain ⟨g',c',rfl⟩:=ownsRow_succ hown3;simp only [Act.put,zz];obtain ⟨p3,-,g3⟩:=hM.grown hgr;refine hK.out _ _ ⟨Boxed.cell g3,fun h=>absurd h (by decide)⟩ ?_;clear hK K;have cp3:=p3.cell;have fp3:=p3.frozen;refine tk1 9 ?_;intro K hK;go_simp;refine hK.out _ _ ⟨?_,fun h=>absurd h (by decide)⟩ ?_
  ·rw [World.cell?_setCell_far _ _ _ _ hpg]; exact Boxed.cell g3
  refine zAf (by kernel_rfl) ?_ _;gi_wp2;exact AddInv.push (by have:=Hp.out; have:=Hq.out; have:=Hg.out; have:=HA.out.sz; omega) z1 z2 z4 z5 hown hB hM hown3 hgr Hstep.out
 case done=>
  rintro D ys W hD rfl ⟨⟨v,cy,r,z1,z2,z3,z4,z5,hown,hR⟩,hB⟩ hK0;rw [<-hq,<-hp,<-hg];have Hs:=hdq hs0;clear hs1 hs0;clear y1 y2 y3 y4 y5 hown0;rw [List.length_range] at hown;have HR:=hdq hR;clear hR;have c1:=z1.cell;have Hq:=hdq hq;have Hp:=hdq hp;have Hg:=hdq hg;clear hq hp hg;gi_wp2;refine ⟨by simp,.inl ⟨_,_,rfl,run_takeDeferred hK0,?_⟩⟩;obtain ⟨A',c'',e1,hA⟩:=zC7 hown HR.out.ok;obtain rfl:=HNn.out;refine ⟨_,results_tmp rfl _ _ _,⟨A',c'',_,by simpa using e1,hA.grown (grownBy_putObj' _ D (.deferred none)) (fun r e=>by cases e; exact ⟨_,hK0,rfl⟩),?_⟩,?_⟩
  ·exact zIU HR.out Hb.out.ok (by rw [Ha.out.len]; omega) (by have:=HNm.out; rw [Hb.out.len]; omega) Hle.out
  ·exact hB.trans (belowK_b (w:=w) (nlr _) W D _ _ (by have:=Hs.out; have:=HA.out.sz; omega) hK0 rfl rfl)
end Go.Proofs.YtjancagcmghfjaaGreat
