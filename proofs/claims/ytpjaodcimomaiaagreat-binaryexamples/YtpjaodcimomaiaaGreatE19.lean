/- Texts Restore of this claim. -/
import Derived.Test.YtpjaodcimomaiaaGreatEA0
import Derived.Test.YtpjaodcimomaiaaGreatE15
import Derived.Test.YtpjaodcimomaiaaGreatE09
import Derived.Test.YtpjaodcimomaiaaGreatE12
import Derived.Deep.LoopGhost
import Derived.Deep.Cut
set_option maxHeartbeats 4000000
namespace Go.Proofs.YtpjaodcimomaiaaGreat
open Go.RowKit Go.Shelf
theorem zDe {q:Rat} (h:q<0):qsign q=-1:=if_pos h
theorem zD0 {q:Rat} (h:¬ q<0):¬ (qsign q<0):=by unfold qsign; rw [if_neg h]; split <;> omega
def Pick (p:Nat->Prop) (key:Nat->Nat) (i:Nat) (v:Value):Prop:=
 (v = .int .i64 (-1)/\∀ j,j<i->¬ p j)\/∃ r:Nat,r<i/\v = .int .i64 (r:Int)/\p r/\∀ j,j<i->p j->key r<=key j
section
variable {p:Nat->Prop} {key:Nat->Nat} {i:Nat} {v:Value}
theorem Pick.start:Pick p key 0 (.int .i64 (-1)):=.inl ⟨rfl,fun j hj=>by omega⟩
theorem Pick.skip (h:Pick p key i v) (hp:¬ p i):Pick p key (i+1) v:=by
 rcases h with ⟨e,h⟩ | ⟨r,hr,e,h1,h2⟩
 ·exact .inl ⟨e,fun j hj=>by by_cases h':j=i; subst h'; exact hp; exact h j (by omega)⟩
 ·exact .inr ⟨r,by omega,e,h1,fun j hj hpj=>by by_cases h':j=i; subst h'; exact absurd hpj hp; exact h2 j (by omega) hpj⟩
theorem Pick.first (h:∀ j,j<i->¬ p j) (hp:p i):Pick p key (i+1) (.int .i64 (i:Int)):=
 .inr ⟨i,by omega,rfl,hp,fun j hj hpj=>by by_cases h':j=i; subst h'; exact nlr _; exact absurd hpj (h j (by omega))⟩
theorem Pick.turn {r:Nat} (h:∀ j,j<i->p j->key r<=key j) (hp:p i) (hk:key i<key r):Pick p key (i+1) (.int .i64 (i:Int)):=
 .inr ⟨i,by omega,rfl,hp,fun j hj hpj=>by by_cases h':j=i; subst h'; exact nlr _; have:=h j (by omega) hpj; omega⟩
end
end Go.Proofs.YtpjaodcimomaiaaGreat
