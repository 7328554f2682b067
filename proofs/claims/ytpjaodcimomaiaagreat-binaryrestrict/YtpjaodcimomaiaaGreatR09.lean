/- Texts Skip of this claim. -/
import Derived.Test.YtpjaodcimomaiaaGreatR07
set_option maxHeartbeats 4000000
namespace Go.Proofs.YtpjaodcimomaiaaGreat
open Go.RowKit Go.Shelf
variable {w:World} {tm:Array Value} {fuel i d:Nat}
theorem takeN {P:Program} {l rest:List Oper} {Q:Exit->Act->World->Prop} {md:Region.Mode} {ap:Nat} {S:Bool->World->Prop} {oi:Oper} {listed:Array Bool} {df:List Deferred} (hi:l.drop i=oi :: rest) (hd:oi.dst=some d)
  (hs:Region.noSelect l.toArray=true) (hf:Region.free md l.toArray listed i=true) (hr:(Region.ready md l.toArray listed).contains i=true) (hia:i ≠ ap)
  (hQ:∀ c a w,Q (.panic c) (a.put (some d) undef) w->Q (.panic c) a w) (hwa:Region.wanted oi (yielded l.toArray tm)=false) (hS:S (listed.getD ap true) w)
  (h:wpAnyG P md l.toArray Q ap S fuel (listed.setIfInBounds i true) {tmps:=tm.setIfInBounds d undef,defers:=df} w):wpAnyG P md l.toArray Q ap S (fuel+1) listed {tmps:=tm,defers:=df} w:=
 zDQ (zBo hi) hs hf hr hia (by rw [hd]; exact hQ) (.inr ⟨hwa,rfl⟩) hS (by rw [hd]; exact h)
theorem tkN {P:Program} {l rest:List Oper} {Q:Exit->Act->World->Prop} {md:Region.Mode} {ap:Nat} {S:Bool->World->Prop} (i:Nat) {oi:Oper} {listed:Array Bool} {df:List Deferred} (hS:S (listed.getD ap true) w)
  (h:wpAnyG P md l.toArray Q ap S fuel (listed.setIfInBounds i true) {tmps:=tm.setIfInBounds d undef,defers:=df} w) (hi:l.drop i=oi :: rest:=by rfl) (hd:oi.dst=some d:=by rfl)
  (hs:Region.noSelect l.toArray=true:=by kernel_rfl) (hf:Region.free md l.toArray listed i=true:=by kernel_rfl) (hr:(Region.ready md l.toArray listed).contains i=true:=by kernel_rfl) (hia:i ≠ ap:=by decide)
  (hQ:∀ c a w,Q (.panic c) (a.put (some d) undef) w->Q (.panic c) a w:=by exact fun _ _ _ h=>h) (hwa:Region.wanted oi (yielded l.toArray tm)=false:=by rfl):wpAnyG P md l.toArray Q ap S (fuel+1) listed {tmps:=tm,defers:=df} w:=
 takeN hi hd hs hf hr hia hQ hwa hS h
end Go.Proofs.YtpjaodcimomaiaaGreat
