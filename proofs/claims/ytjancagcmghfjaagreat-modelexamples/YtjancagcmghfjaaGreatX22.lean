/- Texts MpJ of this claim. -/
import Derived.Test.YtjancagcmghfjaaGreatX19
import Derived.Test.YtjancagcmghfjaaGreatX21
import Derived.Test.YtjancagcmghfjaaGreatX14
set_option maxHeartbeats 4000000
set_option maxRecDepth 40000
namespace Go.Proofs.YtjancagcmghfjaaGreat
open Go.RowKit Go.Shelf Gj
namespace Mo
theorem zXh {w:World}:Calls Tryz.prog 190 #[] w fun e w'=>(∃ v,e = .returned v)/\w=w':=by
 go_enter Tryz.func190,Tryz.ntmps190
 go_wp2;go_end0;exact ⟨⟨_,rfl⟩,rfl⟩
theorem zXi {w:World} {v:QV}:Calls Tryz.prog 191 #[v.val] w fun e w'=>(∃ v,e = .returned v)/\Below w w w':=by
 go_enter Tryz.func191,Tryz.ntmps191
 go_wp2;go_end0;exact ⟨⟨_,rfl⟩,bal⟩
def ignV:Value:=.agg #[.func (.func 190) #[] #[],.func (.func 191) #[] #[]]
theorem zVZ {w:World}:Calls Tryz.prog 143 #[] w fun e w'=>e = .returned ignV/\Below w w w':=by
 go_enter Tryz.func143,Tryz.ntmps143
 go_wp2;have al:Below w w (w.alloc (.cells #[.func (.func 190) #[] #[],.func (.func 191) #[] #[]] 184)):=bal;exact bodyPost_ret (v:=ignV) (by simp [results,Tryz.results143,go_sem,ignV]) rfl ⟨rfl,al⟩
def pvR (o:Option Nat):Value:=match o with | none=>.tuple #[.int .i64 0,.bool false] | some g=>.tuple #[.int .i64 (g:Int),.bool true]
def PvL (w:World) (m:Mt) (c p n:Nat) (v6 v7 t:Value) (W:World):Prop:=
 ∃ i:Nat,p<=i/\i<=n/\t = .int .i64 (i:Int)/\v6 = .int .i64 0/\v7 = .bool false/\Below w w W/\pfind m c (n-p) p=pfind m c (n-i) i
theorem zVD {w:World} {b c p Wd k:Nat} {m:Mt} (h:GjM w b m) (hr:Rect m Wd) (hc:c<Wd) (hp:p<=m.length) (hf:FitM k m) (hk:k<32*LM) (hm:m.length<=1000) (hw:Wd<=1000) :
  Calls Tryz.prog 187 #[.slice (some b) m.length m.length,.int .i64 (p:Int),.int .i64 (c:Int)] w fun e w'=>e = .returned (pvR (pfind m c (m.length-p) p))/\Below w w w':=by
 have HG:=hdq h;have HF:Hid (∀ i j,QFit LM (ent m i j)):=hdq fun i j=>zBn (hf i j) hk
 have HRc:=hdq hr;obtain ⟨n,hn⟩:∃ n,n=m.length:=⟨_,rfl⟩;rw [<-hn];have HN:=hdq hn;have hp':p<=n:=by omega
 have hn1:n<=1000:=by omega
 clear h hf hr hn hp hm;obtain ⟨R,hR⟩:∃ R,R=pvR (pfind m c (n-p) p):=⟨_,rfl⟩;rw [<-hR];have HR:=hdq hR;clear hR;go_enter Tryz.func187,Tryz.ntmps187
 go_wp2;go_step3;go_wp2;go_step3;go_wp2;go_loopw [6,7,8] (fun v6 v7 t W=>PvL w m c p n v6 v7 t W) (fun _ _ t _=>n-(intOf t).toNat)
 case atStart=>exact ⟨p,nlr _,hp',rfl,rfl,rfl,brf _ _,rfl⟩
 case round=>
  obtain ⟨i,hpi,hi,rfl,rfl,rfl,hB,he⟩:=hrel;by_cases hlt:i<n
  ·have him:i<m.length:=by rw [<-HN.out]; exact hlt
   have hG:=HG.out.below hB;obtain ⟨⟨sA,sn,sc⟩,c0,hv⟩:=hG.row him;have hsn:sn=Wd:=by have h1:=hv.len; have h2:=HRc.out i him; dsimp only at h1; omega
   have hle:=hv.le;have hcap:=hv.cap;obtain ⟨ad,v,e,-,⟨d0,d1,d2,d3⟩,hq⟩:=hv.elem c (by show c<sn; omega);dsimp only at c0 e d1 d2 d3 hle hcap;subst e;subst hsn;have hii:(i:Int)<(n:Int):=(by omega);have hci:(c:Int)<(sn:Int):=(by omega);have Hq:=hdq (hq.qis (HF.out i c));have hstep:n-i=(n-(i+1))+1:=by omega
   have HE:Hid (pfind m c (n-p) p=if ent m i c=0 then pfind m c (n-(i+1)) (i+1) else some i):=by
    show _=_;rw [he,hstep]; rfl
   have HB:=hdq hB;have tq:=zAb d0;clear hv hq hG he hstep hB;(go_wp2_with fail);refine (zAn (v:=v) Hq.out).mono ?_; rintro e w1 ⟨rfl,hb1⟩
   have HB1:=hdq (HB.out.trans (hb1.mono HB.out.size));have hent:(m.getD i []).getD c 0=ent m i c:=rfl;rw [hent];clear d0 d1 d2 d3 c0 hb1 Hq;generalize ent m i c=q at *;by_cases h0:q=0
   ·have hs0:qsign q=0:=by rw [h0]; rfl
    have HN2:Hid (PvL w m c p n (.int .i64 0) (.bool false) (.int .i64 ((i:Int)+1)) w1):=⟨i+1,by omega,by omega,by simp,rfl,rfl,HB1.out,HE.out.trans (if_pos h0)⟩;rw [hs0];clear h0 hs0 HE;go_wp2;go_roundw;case rel=>first | exact HN2.out | ((repeat apply Exists.intro); exact ⟨HN2.out,rfl⟩)
    case measure=>simp [intOf]; omega
   ·have HR2:Hid (R=pvR (some i)):=hdq (by rw [HR.out,HE.out,if_neg h0]);have hsg:qsign q=-1\/qsign q=1:=by unfold qsign; rw [if_neg h0]; split; exact .inl rfl; exact .inr rfl
    rcases hsg with hs | hs
    ·rw [hs];clear h0 hs HE;go_wp2;(try rw [Exit.noGoto_ret]);exact bodyPost_ret (results_tmp2 rfl _ _ _) rfl ⟨by rw [HR2.out]; first | done | rfl,HB1.out⟩
    ·rw [hs];clear h0 hs HE;go_wp2;(try rw [Exit.noGoto_ret]);exact bodyPost_ret (results_tmp2 rfl _ _ _) rfl ⟨by rw [HR2.out]; first | done | rfl,HB1.out⟩
  ·obtain rfl:n=i:=by omega
   have HR2:Hid (R=pvR none):=by
    show _=_;rw [HR.out,he,Nat.sub_self]; rfl
   clear he;go_wp2;(try rw [Exit.noGoto_ret]);exact bodyPost_ret (results_tmp2 rfl _ _ _) rfl ⟨by rw [HR2.out]; first | done | rfl,hB⟩
end Mo
end Go.Proofs.YtjancagcmghfjaaGreat
