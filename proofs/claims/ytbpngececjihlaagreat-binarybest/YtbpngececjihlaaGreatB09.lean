/- Texts Long2 of this claim. -/
import Derived.Test.YtbpngececjihlaaGreatB07
import Derived.Test.YtbpngececjihlaaGreatB08
import Derived.Deep.Cut
set_option maxHeartbeats 4000000
set_option maxRecDepth 20000
namespace Go.Proofs.YtbpngececjihlaaGreat
open Go.RowKit Go.Shelf
variable {bs:List Rat} {os rs:List (List Rat)} {p:LPV} {X:Nat->Prop} {w:World}
structure LPRaw (w:World) (X:Nat->Prop) (R:QV->Rat->Prop) (p:LPV) (os rs:List (List Rat)) (bs:List Rat):Prop where
 obj:MatAt w X R p.O os
 rows:MatAt w X R p.R rs
 bounds:VecAt w X R p.B bs
def mayB (p:LPV) (os rs:List (List Rat)):Bool:=
 decide (0<=p.n/\p.n<=64/\1<=p.O.n/\p.O.n<=4/\p.R.n<=128/\p.B.n=p.R.n/\(colsOf os:Int)<=p.n/\(colsOf rs:Int)<=p.n)
theorem zC2 {R:QV->Rat->Prop} (h:LPRaw w X R p os rs bs) :
  Calls Tryz.prog 9 #[p.val] w fun e w'=>e = .returned (.bool (mayB p os rs))/\Below w w w':=by
 obtain ⟨z,⟨oA,on,oc⟩,⟨rA,rn,rc⟩,⟨bA,bn,bc⟩⟩:=p;have o1:on<=oc:=h.obj.le;have o2:oc<=9223372036854775807:=h.obj.cap;have r1:rn<=rc:=h.rows.le;have r2:rc<=9223372036854775807:=h.rows.cap;have b1:bn<=bc:=h.bounds.le;have b2:bc<=9223372036854775807:=h.bounds.cap;have ho:=hdq h.obj;have hr:=hdq h.rows;clear h;dsimp only [LPV.val] at *;go_enter Tryz.func9,Tryz.ntmps9
 go_upto_region 1 with fail
 refine zAo (fun W=>Below w w W/\Box4 W w z (.slice oA on oc) (.slice rA rn rc) (.slice bA bn bc)/\w.heap.size<W.heap.size) ⟨(az (brf _ _)),bx4,by simp <;> omega⟩ ?_;rintro W ⟨hbW,bP,s0⟩;have hBW:=hbW.size;obtain ⟨p0,p1,p2,p3,-⟩:=bP;by_cases a1:z<0
 ·have hm:Hid (false=mayB ⟨z,⟨oA,on,oc⟩,⟨rA,rn,rc⟩,⟨bA,bn,bc⟩⟩ os rs):=by show _=_; symm; simp only [mayB,decide_eq_false_iff_not]; omega
  go_wp2;go_ret;exact ⟨by rw [<-hm.out]; rfl,hbW⟩
 by_cases a2:64<z
 ·have hm:Hid (false=mayB ⟨z,⟨oA,on,oc⟩,⟨rA,rn,rc⟩,⟨bA,bn,bc⟩⟩ os rs):=by show _=_; symm; simp only [mayB,decide_eq_false_iff_not]; omega
  go_wp2;go_ret;exact ⟨by rw [<-hm.out]; rfl,hbW⟩
 by_cases a3:(on:Int)<1
 ·have hm:Hid (false=mayB ⟨z,⟨oA,on,oc⟩,⟨rA,rn,rc⟩,⟨bA,bn,bc⟩⟩ os rs):=by show _=_; symm; simp only [mayB,decide_eq_false_iff_not]; omega
  go_wp2;go_ret;exact ⟨by rw [<-hm.out]; rfl,hbW⟩
 by_cases a4:(4:Int)<(on:Int)
 ·have hm:Hid (false=mayB ⟨z,⟨oA,on,oc⟩,⟨rA,rn,rc⟩,⟨bA,bn,bc⟩⟩ os rs):=by show _=_; symm; simp only [mayB,decide_eq_false_iff_not]; omega
  go_wp2;go_ret;exact ⟨by rw [<-hm.out]; rfl,hbW⟩
 by_cases a5:(128:Int)<(rn:Int)
 ·have hm:Hid (false=mayB ⟨z,⟨oA,on,oc⟩,⟨rA,rn,rc⟩,⟨bA,bn,bc⟩⟩ os rs):=by show _=_; symm; simp only [mayB,decide_eq_false_iff_not]; omega
  go_wp2;go_ret;exact ⟨by rw [<-hm.out]; rfl,hbW⟩
 by_cases a6:¬ (bn=rn)
 ·have hm:Hid (false=mayB ⟨z,⟨oA,on,oc⟩,⟨rA,rn,rc⟩,⟨bA,bn,bc⟩⟩ os rs):=by show _=_; symm; simp only [mayB,decide_eq_false_iff_not]; omega
  have a7:((bn:Int) != (rn:Int))=true:=by simp; omega
  clear a6;go_wp2_with (rw [a7])
  go_ret;exact ⟨by rw [<-hm.out]; rfl,hbW⟩
 have a6':bn=rn:=om
 subst a6';clear a6;go_wp2_with fail
 refine (zCL (s:=⟨oA,on,oc⟩) (ho.out.keep (fun a _ hl=>hbW.cell hl) fun _ _ hr=>hr)).mono ?_; rintro e w1 ⟨rfl,rfl⟩
 by_cases hco:(colsOf os:Int)<=z
 ·have hm:Hid (decide ((colsOf rs:Int)<=z)=mayB ⟨z,⟨oA,on,oc⟩,⟨rA,bn,rc⟩,⟨bA,bn,bc⟩⟩ os rs):=by show _=_; unfold mayB; rw [decide_eq_decide]; dsimp only; constructor <;> intro h <;> omega
  rw [decide_eq_true hco];clear hco;have HS:=hdq (zCL (w:=W) (s:=⟨rA,bn,rc⟩) (z:=z) (hr.out.keep (fun a _ hl=>hbW.cell hl) fun _ _ hr=>hr));generalize colsOf rs=cr at *;go_wp2_with fail
  refine HS.out.mono ?_; rintro e w1 ⟨rfl,rfl⟩
  go_wp2;go_ret;exact ⟨by rw [<-hm.out]; rfl,hbW⟩
 ·have hm:Hid (false=mayB ⟨z,⟨oA,on,oc⟩,⟨rA,bn,rc⟩,⟨bA,bn,bc⟩⟩ os rs):=by show _=_; symm; simp only [mayB,decide_eq_false_iff_not]; omega
  rw [decide_eq_false hco];clear hco;go_wp2;go_ret;exact ⟨by rw [<-hm.out]; rfl,hbW⟩
end Go.Proofs.YtbpngececjihlaaGreat
