/- SpreadExamples returns true. No condition. -/
import Derived.Test.YtbpngececjihlaaGreatX48
import Derived.ShutString
set_option maxHeartbeats 4000000
set_option maxRecDepth 100000
namespace Go.Proofs.YtbpngececjihlaaGreat
open Go.ChangeShapes Go.WideShapes Go.ChangeAt Go.RowKit
variable {w:World}
theorem ownK:ownKnob Tryz.prog.godebug=none:=by kernel_rfl
theorem laidOutP:laidOutB Tryz.prog=true:=by kernel_rfl
theorem zSk :Calls Tryz.prog 4 #[] w fun e w'=>e = .returned (.bool true)/\Below w w w':=by
 go_enter Tryz.func4,Tryz.ntmps4
 go_wp2_with fail
 refine zRq.mono ?_;rintro e w1 ⟨rfl,hb⟩;go_wp2;go_ret;exact ⟨rfl,hb⟩
theorem zR3 (os:Os) (started:os.Started) (H:Type) (enc:TypeId × Value->H) :
  ReturnsInHanded {} Tryz.checked os 4 .any (Rows.spreadExamplesSpec.pre6 enc Tryz.prog Tryz.f4 Rows.spreadExamplesRow.domain false) (Rows.spreadExamplesSpec.post enc Tryz.prog Tryz.f4 false true false false):=by
 refine returnsInHanded_of_change (C:=Tryz.checked) ownK started (by kernel_rfl) Tryz.func4
  (ChangeSpec.witness6 (enc:=enc) (C:=Tryz.checked) false ⟨#[],#[],[]⟩ 8 (by kernel_rfl) (by kernel_rfl) (by kernel_rfl) (by kernel_rfl)) ?_
 intro W base args ds gs before hval0 hW hcnd _;have hW':=hW;obtain ⟨p,q,hA0,hV,rfl,hfz,hnd⟩:=hW;have hA:DataW.TrodAll enc Tryz.prog W 0 (fun _=>true) true Tryz.f4.params.toList args.toList ds p:=hA0;rw [Tryz.params4] at hA;have hA1:DataW.TrodAll enc Tryz.prog W 0 (fun _=>true) true [] args.toList ds p:=hA;obtain ⟨ha,rfl,rfl⟩:=trodAll_nil hA1;obtain rfl:args=#[]:=by cases args; simp_all
 obtain ⟨rfl,rfl⟩:=trodVars_none hV;clear hA0 hval0 hA hA1;refine zSk.mono fun e W' ⟨he,bel⟩=>?_
 subst he;exact ⟨_,rfl,_,_,_,[],_,[],hW',trodAll_mk1 (shut_bool Tryz.underlying4 _),trodAll_mk0,rfl,bel.frame _,fun h=>by cases h⟩
theorem sex_holds:Rows.SpreadExamplesSaid:=
 OpenClaim.holds_of_wide 4 Tryz.f4 rfl rfl rfl rfl rfl rfl rfl ⟨rfl,rfl,rfl,rfl,rfl⟩ rfl rfl rfl rfl rfl (by kernel_rfl) Tryz.func4 (by kernel_rfl)
  (of_decide_eq_true (by kernel_rfl)) (by unfold Func.isWrapper; first | (rw [if_pos (by decide +kernel)]; kernel_rfl) | (rw [if_neg (by decide +kernel)]; exact ⟨rfl,rfl⟩))
  (fun os started H enc _=>zR3 os started H enc)
#print axioms sex_holds
end Go.Proofs.YtbpngececjihlaaGreat
