/- Texts MqD of this claim. -/
import Derived.Test.YtjancagcmghfjaaGreatX24
import Derived.Test.YtjancagcmghfjaaGreatX17
set_option maxHeartbeats 4000000
set_option maxRecDepth 40000
namespace Go.Proofs.YtjancagcmghfjaaGreat
open Go.RowKit Go.Shelf
namespace Mo
theorem zOF {w:World} {X Y X' Y':Nat->Prop} {L M:Nat} {sa sb:SV} {l:List Rat} (ha:VecIs w X Y L sa l) (hb:VecIs w X' Y' M sb l) (hL:L<=LM) (hM:M<=LM) (hna:sa.n<=1000000) (hnb:sb.n<=1000000) :
  Calls Tryz.prog 59 #[sa.val,sb.val] w fun e w'=>e = .returned (.bool true)/\Below w w w':=by
 refine (zNQ ha hb hL hM hna hnb).mono ?_;rintro e w' ⟨rfl,hb⟩;rw [zKA.2 (fun i _=>rfl)];exact ⟨rfl,hb⟩
theorem zXS (z:Int) (h1:-9223372036854775808<=z) (h2:z<=9223372036854775807):QFit LM (z:Rat):=zBn (k:=64) (Lin.Fits.ofInt (by omega)) (by decide)
theorem zWW {l:List Int} (h:∀ x ∈ l,-9223372036854775808<=x/\x<=9223372036854775807) (k:Nat):QFit LM ((l.map (fun x:Int=>(x:Rat))).getD k 0):=by
 rw [gdd,List.getElem?_map]
 cases hk:l[k]? with
 | none=>exact zXS 0 (by decide) (by decide)
 | some x=>
  have:=h x (List.mem_of_getElem? hk);exact zXS x this.1 this.2
theorem zUj {w:World} {X Y:Nat->Prop} {s t:SV} {l:List Int} (hs:VecCan w X Y s (l.map (fun x:Int=>(x:Rat)))) (ht:IntsAt w t l) (hn:t.n<=1000) :
  Calls Tryz.prog 22 #[s.val,t.val] w fun e w'=>e = .returned (.bool true)/\Below w w w':=by
 have HF:=hdq (zBP ht hn);have HE:=hdq fun (W:World) (hb:Below w w W) (b:SV) (hv:VecCan W (New w) (New w) b (l.map (fun x:Int=>(x:Rat))))=>zOF (L:=LM) (M:=LM) ((hs.belowC hb).loose (zWW ht.range)) (hv.loose (zWW ht.range)) (nlr _) (nlr _) (by have h1:=hs.len; have h2:=ht.len; rw [List.length_map] at h1; omega) (by have h1:=hv.len; have h2:=ht.len; rw [List.length_map] at h1; omega)
 have h1:l.length=s.n:=by have:=hs.len; rwa [List.length_map] at this
 have h2:l.length=t.n:=ht.len;have h3:=hs.le;have h4:=hs.cap;have h5:=ht.le;have h6:=ht.cap;obtain ⟨A,n,c⟩:=s;obtain ⟨B,m,d⟩:=t;dsimp only at h1 h2 h3 h4 h5 h6 hn;obtain rfl:m=n:=by omega
 clear hs ht h1 h2;dsimp only [SV.val] at HF HE ⊢;go_enter Tryz.func22,Tryz.ntmps22
 go_wp2_with fail
 refine HF.out.mono ?_;rintro e w1 ⟨⟨b,rfl,hv⟩,hb1⟩;have HE1:=hdq (HE.out w1 hb1 b hv);have Hb1:=hdq hb1;obtain ⟨bA,bn,bc⟩:=b;dsimp only [SV.val] at HE1 ⊢;clear hv hb1 HE;go_wp2_with fail
 refine HE1.out.mono ?_;rintro e w2 ⟨rfl,hb2⟩;have HC:=hdq (Hb1.out.trans (hb2.mono Hb1.out.size));clear hb2 Hb1;go_wp2;go_ret;exact ⟨rfl,HC.out⟩
end Mo
end Go.Proofs.YtjancagcmghfjaaGreat
