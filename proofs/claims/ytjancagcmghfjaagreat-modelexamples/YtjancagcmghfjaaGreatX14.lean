/- Texts Skip of this claim. -/
import Derived.Test.YtjancagcmghfjaaGreatX07
set_option maxHeartbeats 4000000
namespace Go.Proofs.YtjancagcmghfjaaGreat
open Go.RowKit Go.Shelf
variable {w:World} {tm:Array Value} {fuel i d ap f:Nat}
theorem takeN {P:Program} {l rest:List Oper} {Q:Exit->Act->World->Prop} {md:Region.Mode} {S:Bool->World->Prop} {oi:Oper} {listed:Array Bool} {df:List Deferred} (hi:l.drop i=oi :: rest) (hd:oi.dst=some d)
  (hs:Region.noSelect l.toArray=true) (hf:Region.free md l.toArray listed i=true) (hr:(Region.ready md l.toArray listed).contains i=true) (hia:i ≠ ap)
  (hQ:∀ c a w,Q (.panic c) (a.put (some d) undef) w->Q (.panic c) a w) (hwa:Region.wanted oi (yielded l.toArray tm)=false) (hS:S (listed.getD ap true) w)
  (h:wpAnyG P md l.toArray Q ap S fuel (listed.setIfInBounds i true) {tmps:=tm.setIfInBounds d undef,defers:=df} w):wpAnyG P md l.toArray Q ap S (fuel+1) listed {tmps:=tm,defers:=df} w:=
 zDQ (zBo hi) hs hf hr hia (by rw [hd]; exact hQ) (.inr ⟨hwa,rfl⟩) hS (by rw [hd]; exact h)
theorem tkN {P:Program} {l rest:List Oper} {Q:Exit->Act->World->Prop} {md:Region.Mode} {S:Bool->World->Prop} (i:Nat) {oi:Oper} {listed:Array Bool} {df:List Deferred} (hS:S (listed.getD ap true) w)
  (h:wpAnyG P md l.toArray Q ap S fuel (listed.setIfInBounds i true) {tmps:=tm.setIfInBounds d undef,defers:=df} w) (hi:l.drop i=oi :: rest:=by rfl) (hd:oi.dst=some d:=by rfl)
  (hs:Region.noSelect l.toArray=true:=by kernel_rfl) (hf:Region.free md l.toArray listed i=true:=by kernel_rfl) (hr:(Region.ready md l.toArray listed).contains i=true:=by kernel_rfl) (hia:i ≠ ap:=by decide)
  (hQ:∀ c a w,Q (.panic c) (a.put (some d) undef) w->Q (.panic c) a w:=by exact fun _ _ _ h=>h) (hwa:Region.wanted oi (yielded l.toArray tm)=false:=by rfl):wpAnyG P md l.toArray Q ap S (fuel+1) listed {tmps:=tm,defers:=df} w:=
 takeN hi hd hs hf hr hia hQ hwa hS h
theorem tn1 {P:Program} {l:List Oper} {Q:Exit->Act->World->Prop} {md:Region.Mode} {S:Bool->World->Prop} (i:Nat) {d0:Nat} {o0:Oper} {r0:List Oper} {t1:Array Value} {L:Array Bool} {t0:Array Value} {df:List Deferred} (hS:S (L.getD ap true) w)
    (h:wpAnyG P md l.toArray Q ap S f (L.setIfInBounds i true) {tmps:=t1,defers:=df} w)
    (hi0:l.drop i=o0 :: r0:=by rfl) (hd0:o0.dst=some d0:=by rfl) (hs0:Region.noSelect l.toArray=true:=by kernel_rfl) (hf0:Region.free md l.toArray L i=true:=by kernel_rfl) (hr0:(Region.ready md l.toArray L).contains i=true:=by kernel_rfl) (ha0:i ≠ ap:=by decide) (hQ0:∀ c a w,Q (.panic c) (a.put (some d0) undef) w->Q (.panic c) a w:=by exact fun _ _ _ h=>h) (hw0:Region.wanted o0 (yielded l.toArray t0)=false:=by rfl) (ht0:t0.setIfInBounds d0 undef=t1:=by (simp only [zz]; try rfl)) :
    wpAnyG P md l.toArray Q ap S (f+1) L {tmps:=t0,defers:=df} w:=by
  subst ht0
  exact tkN i hS (h) hi0 hd0 hs0 hf0 hr0 ha0 hQ0 hw0
theorem tn4 {P:Program} {l:List Oper} {Q:Exit->Act->World->Prop} {md:Region.Mode} {S:Bool->World->Prop} (i j k m:Nat) {d0:Nat} {o0:Oper} {r0:List Oper} {t1:Array Value} {d1:Nat} {o1:Oper} {r1:List Oper} {t2:Array Value} {d2:Nat} {o2:Oper} {r2:List Oper} {t3:Array Value} {d3:Nat} {o3:Oper} {r3:List Oper} {t4:Array Value} {L:Array Bool} {t0:Array Value} {df:List Deferred} (hS:S (L.getD ap true) w)
    (h:wpAnyG P md l.toArray Q ap S f ((((L.setIfInBounds i true).setIfInBounds j true).setIfInBounds k true).setIfInBounds m true) {tmps:=t4,defers:=df} w)
    (hi0:l.drop i=o0 :: r0:=by rfl) (hd0:o0.dst=some d0:=by rfl) (hs0:Region.noSelect l.toArray=true:=by kernel_rfl) (hf0:Region.free md l.toArray L i=true:=by kernel_rfl) (hr0:(Region.ready md l.toArray L).contains i=true:=by kernel_rfl) (ha0:i ≠ ap:=by decide) (hQ0:∀ c a w,Q (.panic c) (a.put (some d0) undef) w->Q (.panic c) a w:=by exact fun _ _ _ h=>h) (hw0:Region.wanted o0 (yielded l.toArray t0)=false:=by rfl) (ht0:t0.setIfInBounds d0 undef=t1:=by (simp only [zz]; try rfl))
    (hi1:l.drop j=o1 :: r1:=by rfl) (hd1:o1.dst=some d1:=by rfl) (hs1:Region.noSelect l.toArray=true:=by kernel_rfl) (hf1:Region.free md l.toArray (L.setIfInBounds i true) j=true:=by kernel_rfl) (hr1:(Region.ready md l.toArray (L.setIfInBounds i true)).contains j=true:=by kernel_rfl) (ha1:j ≠ ap:=by decide) (hQ1:∀ c a w,Q (.panic c) (a.put (some d1) undef) w->Q (.panic c) a w:=by exact fun _ _ _ h=>h) (hw1:Region.wanted o1 (yielded l.toArray t1)=false:=by rfl) (ht1:t1.setIfInBounds d1 undef=t2:=by (simp only [zz]; try rfl))
    (hi2:l.drop k=o2 :: r2:=by rfl) (hd2:o2.dst=some d2:=by rfl) (hs2:Region.noSelect l.toArray=true:=by kernel_rfl) (hf2:Region.free md l.toArray ((L.setIfInBounds i true).setIfInBounds j true) k=true:=by kernel_rfl) (hr2:(Region.ready md l.toArray ((L.setIfInBounds i true).setIfInBounds j true)).contains k=true:=by kernel_rfl) (ha2:k ≠ ap:=by decide) (hQ2:∀ c a w,Q (.panic c) (a.put (some d2) undef) w->Q (.panic c) a w:=by exact fun _ _ _ h=>h) (hw2:Region.wanted o2 (yielded l.toArray t2)=false:=by rfl) (ht2:t2.setIfInBounds d2 undef=t3:=by (simp only [zz]; try rfl))
    (hi3:l.drop m=o3 :: r3:=by rfl) (hd3:o3.dst=some d3:=by rfl) (hs3:Region.noSelect l.toArray=true:=by kernel_rfl) (hf3:Region.free md l.toArray (((L.setIfInBounds i true).setIfInBounds j true).setIfInBounds k true) m=true:=by kernel_rfl) (hr3:(Region.ready md l.toArray (((L.setIfInBounds i true).setIfInBounds j true).setIfInBounds k true)).contains m=true:=by kernel_rfl) (ha3:m ≠ ap:=by decide) (hQ3:∀ c a w,Q (.panic c) (a.put (some d3) undef) w->Q (.panic c) a w:=by exact fun _ _ _ h=>h) (hw3:Region.wanted o3 (yielded l.toArray t3)=false:=by rfl) (ht3:t3.setIfInBounds d3 undef=t4:=by (simp only [zz]; try rfl)) :
    wpAnyG P md l.toArray Q ap S (f+1+1+1+1) L {tmps:=t0,defers:=df} w:=by
  subst ht0 ht1 ht2 ht3
  have s1:S ((L.setIfInBounds i true).getD ap true) w:=by rw [getD_set_ne true ha0]; exact hS
  have s2:S (((L.setIfInBounds i true).setIfInBounds j true).getD ap true) w:=by rw [getD_set_ne true ha1]; exact s1
  have s3:S ((((L.setIfInBounds i true).setIfInBounds j true).setIfInBounds k true).getD ap true) w:=by rw [getD_set_ne true ha2]; exact s2
  exact tkN i hS (tkN j s1 (tkN k s2 (tkN m s3 (h) hi3 hd3 hs3 hf3 hr3 ha3 hQ3 hw3) hi2 hd2 hs2 hf2 hr2 ha2 hQ2 hw2) hi1 hd1 hs1 hf1 hr1 ha1 hQ1 hw1) hi0 hd0 hs0 hf0 hr0 ha0 hQ0 hw0
end Go.Proofs.YtjancagcmghfjaaGreat
