/- Texts AddS Add PrI of this claim. -/
import Derived.Test.YtpjaodcimomaiaaGreatI25
set_option maxHeartbeats 4000000
set_option maxRecDepth 20000
namespace Go.Proofs.YtpjaodcimomaiaaGreat
open Go.RowKit
variable {q:Rat} {L M N b k j kb:Nat} {X Y Z X' Y':Nat->Prop} {w:World} {la lb:List Rat} {sa sb s:SV}
theorem zHp {x y kv:QV} {p k:Rat} (hx:QIs w X L x p) (hy:QIs w Y M y q) (hk:QIs w Z N kv k) (hbox:w.heap[b]?=some (.cells #[.bool kv.num.ng,.slice kv.num.A kv.num.n kv.num.c,.bool kv.den.ng,.slice kv.den.A kv.den.n kv.den.c] 37 (0,0))) (hL:L<=LM) (hM:M<=LM) (hN:N<=LM) (hf:QFit LM (k*p)) :
  Calls Tryz.prog 223 #[x.val,y.val,.pointer (some b)] w fun e w'=>QRet w (k*p+q) e w'/\Below w w w':=by
 have HX:=hdq hx.old;have HY:=hdq hy.old;have HKv:=hdq hk.old;have HL:=hdq hL;have HM:=hdq hM;have HN:=hdq hN;have HF:=hdq hf;have hbl:=zAa hbox;clear hx hy hk hL hM hN hf;go_enter Tryz.func223,Tryz.ntmps223
 go_wp2;refine zAo (fun W=>Below w w W/\Box4 W w (.bool x.num.ng) (.slice x.num.A x.num.n x.num.c) (.bool x.den.ng) (.slice x.den.A x.den.n x.den.c)/\Box4 W (w+1) (.bool y.num.ng) (.slice y.num.A y.num.n y.num.c) (.bool y.den.ng) (.slice y.den.A y.den.n y.den.c)/\Box4 W (w+1+1) (.bool false) (.slice none 0 0) (.bool false) (.slice none 0 0)/\w<(W:Nat)/\w+1<(W:Nat)/\w+1+1<(W:Nat)) ⟨(az (az (az (brf _ _)))),bx4,bx4,bx4,by simp <;> omega,by simp <;> omega,by simp <;> omega⟩ ?_;rintro W ⟨hbW,bX,bY,bR,s0,s1,s2⟩;have hBW:=hbW.size;have ne02:¬ (w=(w+1+1:Nat)):=by omega
 obtain ⟨k0,k1,k2,k3⟩:W.cell? b=some (.bool kv.num.ng)/\W.cell? ⟨b,1,none⟩=some (.slice kv.num.A kv.num.n kv.num.c)/\W.cell? ⟨b,2,none⟩=some (.bool kv.den.ng)/\W.cell? ⟨b,3,none⟩=some (.slice kv.den.A kv.den.n kv.den.c):=by simp [World.cell?,(hbW.block b hbl).trans hbox]
 obtain ⟨x0,x1,x2,x3,-⟩:=id bX;obtain ⟨y0,y1,y2,y3,-⟩:=id bY;have HX2:=hdq (HX.out.below hbW);have HY2:=hdq (HY.out.below hbW);have HK2:=hdq (HKv.out.below hbW);have m1:¬ (b=w.heap.size+1+1):=by omega
 have m2:¬ (b=w.heap.size+1):=by omega
 have m3:¬ (b=w.heap.size):=by omega
 have m4:b<W:=by omega
 clear hbox HX HY HKv bX bY
 go_region_held3 (Sees w [w+1+1] W) (exact kp)
  (first
   | (go_at_call 37; ((with_reducible refine (zBb (a:=kv) (b:=x) (HK2.out.keptOld (Sees.kept (by assumption))) (HX2.out.keptOld (Sees.kept (by assumption))) HN.out HL.out).mono ?_); rintro e w1 ⟨⟨u,rfl,hu⟩,hb1⟩))
   | (go_at_call 38; ((with_reducible refine (zCD (a:=u) (b:=y) (hu.qis HF.out) (HY2.out.keptOld (Sees.kept (by assumption))) (nlr _) HM.out).mono ?_); rintro e w2 ⟨⟨z,rfl,hz⟩,hb2⟩))
   | fail)
 rename_i hS;obtain ⟨v0,v1,v2,v3⟩:=hS.kept.val4 (by simp) (by rw [bR.1]; rfl) (by rw [bR.2.1]; rfl) (by rw [bR.2.2.1]; rfl) (by rw [bR.2.2.2.1]; rfl);have hbf:=hbW.trans hS.kept.below;have hb2s:=hb2.size;have hb1s:=hb1.size;clear hS hu;go_wp2;refine bodyPost_ret (v:=z.val) (by simp [results,Tryz.results223,go_sem,v0,v1,v2,v3]) rfl ⟨⟨z,rfl,?_⟩,hbf⟩;simp only [World.size_drew] at hb1s hb2s;exact (hz.set4 (by omega)).lower (by omega)
open Go.RowKit Go.Shelf
theorem zKJ {k:QV} (hk:QIs w Z N k q) (ha:VecIs w X Y L sa la) (hb:VecIs w X' Y' M sb lb) (hL:L<=LM) (hM:M<=LM) (hN:N<=LM) (hna:sa.n<=1000000) (hnb:sb.n<=1000000) (hf:∀ i,QFit LM (q*la.getD i 0)) :
  Calls Tryz.prog 187 #[k.val,sa.val,sb.val] w fun e w'=>CbRet w ((List.range (max sa.n sb.n)).map fun i=>q*la.getD i 0+lb.getD i 0) e w'/\Below w w w':=by
 have al:Below w w (w.alloc (.cells #[.bool k.num.ng,.slice k.num.A k.num.n k.num.c,.bool k.den.ng,.slice k.den.A k.den.n k.den.c] 37)):=bal;have hbx:(w.alloc (.cells #[.bool k.num.ng,.slice k.num.A k.num.n k.num.c,.bool k.den.ng,.slice k.den.A k.den.n k.den.c] 37)).heap[w.heap.size]?=some (.cells #[.bool k.num.ng,.slice k.num.A k.num.n k.num.c,.bool k.den.ng,.slice k.den.A k.den.n k.den.c] 37 (0,0)):=zAd _ _ rfl;have hsz:w.heap.size<(w.alloc (.cells #[.bool k.num.ng,.slice k.num.A k.num.n k.num.c,.bool k.den.ng,.slice k.den.A k.den.n k.den.c] 37)).heap.size:=by simp
 have HC:=hdq (zLa (f:=223) (caps:=#[.pointer (some ⟨w,0,none⟩)]) (g:=fun i=>q*la.getD i 0+lb.getD i 0) (ha.below al) (hb.below al) hna hnb (fun args w=>rfl)
  (fun W x y i hc hx hy=>zHp hx hy ((hk.below al).old.carry hc) (hc.blk _ _ _ _ hsz hbx) hL hM hN (hf i)))
 clear ha hb hk hL hM hN hna hnb hf;obtain ⟨A,n,c⟩:=sa;obtain ⟨B,m,d⟩:=sb;dsimp only [SV.val] at *;go_enter Tryz.func187,Tryz.ntmps187
 go_wp2_with fail
 refine HC.out.mono ?_;rintro e w1 ⟨⟨z,rfl,hz,hz2⟩,hb1⟩;go_wp2;go_ret;exact ⟨⟨z,rfl,hz.low al.size,fun hp=>by obtain ⟨b,c,q1,q2,q3,q4,q5⟩:=hz2 hp; exact ⟨b,c,q1,q2,q3,nlt al.size q4,.inr rfl,q5.blk,fun k hk=>by obtain ⟨v,h1,h2⟩:=q5.elem k hk; exact ⟨v,h1,h2.imp fun x _ hx e=>hx (e.imp (fun h=>ltl h al.size) id)⟩⟩⟩,al.trans (hb1.mono al.size)⟩
theorem zD5 {k:QV} (hk:QIs w Z N k q) (ha:VecIs w X Y L sa la) (hb:VecIs w X' Y' M sb lb) (hL:L<=LM) (hM:M<=LM) (hN:N<=LM) (hna:sa.n<=1000000) (hnb:sb.n<=1000000) (hf:∀ i,QFit LM (q*la.getD i 0)) :
  Calls Tryz.prog 187 #[k.val,sa.val,sb.val] w fun e w'=>VRet w ((List.range (max sa.n sb.n)).map fun i=>q*la.getD i 0+lb.getD i 0) e w'/\Below w w w':=by
 refine (zKJ hk ha hb hL hM hN hna hnb hf).mono ?_;rintro e w' ⟨⟨s,rfl,h,_⟩,hb⟩;exact ⟨⟨s,rfl,h⟩,hb⟩
def vmTo (y:List Rat) (m:List (List Rat)) (C k:Nat):List Rat:=(List.range C).map fun j=>Lin.sum k fun i=>y.getD i 0*(m.getD i []).getD j 0
theorem zIZ (y:List Rat) (m:List (List Rat)) (C:Nat):vmTo y m C 0=List.replicate C 0:=by
 apply List.ext_getElem
 ·simp [vmTo]
 ·intro i h1 h2; simp [vmTo,Lin.sum]
theorem zHm {y:List Rat} {m:List (List Rat)} {C:Nat} (h:j<C):(vmTo y m C k).getD j 0=Lin.sum k fun i=>y.getD i 0*(m.getD i []).getD j 0:=zAS _ _ h
theorem zIX {y:List Rat} {m:List (List Rat)} {C:Nat} (h:y.getD k 0=0):vmTo y m C (k+1)=vmTo y m C k:=by
 unfold vmTo;refine List.map_congr_left fun j _=>?_
 rw [Lin.sum,h]; grind
theorem zIY {y:List Rat} {m:List (List Rat)} {C:Nat} (hl:(m.getD k []).length<=C):((List.range (max (m.getD k []).length C)).map fun i=>y.getD k 0*(m.getD k []).getD i 0+(vmTo y m C k).getD i 0)=vmTo y m C (k+1):=by
 rw [Nat.max_eq_right hl];unfold vmTo;refine List.map_congr_left fun j hj=>?_
 rw [List.mem_range] at hj;rw [zAS _ _ hj,Lin.sum]; grind
theorem VecAt.qis' {l:List Rat} (h:VecCan w X Y s l) (f:∀ k,QFit L (l.getD k 0)):VecIs w X Y L s l:=
 ⟨h.len,h.le,h.cap,fun k hk=>by
  obtain ⟨ad,v,e,hx,hc,hr⟩:=h.elem k hk;exact ⟨ad,v,e,hx,hc,hr.qis (f k)⟩⟩
theorem zIM {y:List Rat} {m:List (List Rat)} {C:Nat} (hs:∀ k j,Lin.Fits kb (Lin.sum k fun i=>y.getD i 0*(m.getD i []).getD j 0)):QFit (kb+1) ((vmTo y m C k).getD j 0):=by
 by_cases h:j<C
 ·rw [zHm h]; exact zAv (hs k j)
 ·rw [zAw _ _ _ (by simp [vmTo]; omega)];have h0:=hs 0 0;simp only [Lin.sum] at h0;exact zAv h0
def VMLoop (w:World) (y:List Rat) (m:List (List Rat)) (C n:Nat) (v t:Value) (W:World):Prop:=
 ∃ (k:Nat) (s:SV),k<=n/\t = .int .i64 k/\v = .slice s.A s.n s.c/\VecCan W (New w) (New w) s (vmTo y m C k)/\Below w w W
theorem zGb {sy sm:SV} {y:List Rat} {m:List (List Rat)} (hy:VecIs w X Y L sy y) (hm:MatIs w X' Y' M sm m) (hny:sy.n<=1000000) (hnm:sm.n<=1000000) (hC:colsOf m<=1000000) (hL:L<=LM) (hM:M<=LM)
  (hf:∀ i j,QFit LM (y.getD i 0*(m.getD i []).getD j 0)) (hs:∀ k j,Lin.Fits kb (Lin.sum k fun i=>y.getD i 0*(m.getD i []).getD j 0)) (hk:kb+1<=LM) :
  Calls Tryz.prog 177 #[sy.val,sm.val] w fun e w'=>VRet w (vmTo y m (colsOf m) (min sm.n sy.n)) e w'/\Below w w w':=by
 obtain ⟨yA,yn,yc⟩:=sy;obtain ⟨mA,mn,mc⟩:=sm;dsimp only at hny hnm;have HY:=hdq hy;have HM:=hdq hm;have HL:=hdq hL;have HML:=hdq hM;have HF:=hdq hf;have HS:=hdq hs;have HK:=hdq hk;have hyle:yn<=yc:=hy.le;have hycap:yc<=9223372036854775807:=hy.cap;have hmle:mn<=mc:=hm.le;have hmcap:mc<=9223372036854775807:=hm.cap
 have HCL:Hid (∀ k,k<mn->(m.getD k []).length<=colsOf m):=fun k hk'=>by
  have hl:k<m.length:=by have:=hm.len; dsimp only at this; omega
  refine zAU.1 (nlr _) _ ?_;rw [gdd,gge hl];exact List.getElem_mem _
 have HCC:=hdq (zDl hm);obtain ⟨C,hCe⟩:∃ C,C=colsOf m:=⟨_,rfl⟩;rw [<-hCe] at hC HCL HCC ⊢;have hmk:=zBZ C hC;clear hy hm hL hM hf hs hk hCe;show Calls _ _ #[.slice yA yn yc,.slice mA mn mc] _ _;go_enter Tryz.func177,Tryz.ntmps177
 go_wp2_with fail
 refine HCC.out.mono ?_; rintro e w1 ⟨rfl,rfl⟩
 have H0:VMLoop w y m C (min mn yn) (.slice (some w) C C) (.int .i64 0) (w.alloc (.cells (zeroQ C) 37)):=by
  have hb0:Below w w (w.alloc (.cells (zeroQ C) 37)):=bal;obtain ⟨s,e,hV⟩:=VRet.of (w:=w) (b:=w) (n:=C) (l:=vmTo y m C 0) (by simp [vmTo]) hC (nlr _) (by rw [zIZ]; exact RowAt.made w C _ (.inr rfl));obtain ⟨sA,sn,sc⟩:=s;dsimp only [SV.val] at e;cases e;exact ⟨0,_,nzl _,rfl,rfl,hV,hb0⟩
 have hw0:w.heap.size<(w.alloc (.cells (zeroQ C) 37)).heap.size:=by simp
 obtain ⟨N,hN⟩:∃ N,N=min mn yn:=⟨_,rfl⟩;have HN:=hdq hN;have hNm:N<=mn:=by omega
 have hNy:N<=yn:=by omega
 have hmin:(if (mn:Int)<(yn:Int) then (mn:Int) else (yn:Int))=(N:Int):=by rw [hN]; split <;> omega
 rw [<-hN] at H0;clear hN;go_wp2_with fail
 rw [show min (mn:Int) (yn:Int)=(N:Int) by omega,show max (N:Int) 0=(N:Int) by omega,Int.toNat_natCast];clear hmin;generalize w.alloc (.cells (zeroQ C) 37)=W0 at *;go_loopw [5,19] (fun v t W=>VMLoop w y m C N v t W) (fun _ t _=>N-(intOf t).toNat)
 case atStart=>exact H0
 case round=>
  clear H0 hw0;obtain ⟨k,s,hk,rfl,rfl,hV,hB⟩:=hrel;by_cases hlt:k<N
  ·obtain ⟨ma,r,e,-,r0,hr⟩:=(HM.out.below hB).row k (by dsimp only; omega);obtain ⟨ya,v,e2,-,⟨q0,q1,q2,q3⟩,hq⟩:=(HY.out.below hB).elem k (by dsimp only; omega);dsimp only at e e2;subst e e2;obtain ⟨rA,rn,rc⟩:=r;obtain ⟨sA,sn,sc⟩:=s;have Hr:=hdq hr;have Hq:=hdq hq;have HV:=hdq hV;have HB:=hdq hB;have hrn:rn<=rc:=hr.le;have hrc:rc<=9223372036854775807:=hr.cap;have hsn:sn<=sc:=hV.le;have hsc:sc<=9223372036854775807:=hV.cap;have hkm:k<mn:=(by omega);have hky:k<yn:=(by omega);clear hr hq hV hB;dsimp only [SV.val] at r0;(go_wp2_with fail);refine (zAn Hq.out).mono ?_; rintro e w1 ⟨rfl,hb1⟩
   have tm:=zAb r0;have tq:=zAb q0;rw [<-hb1.cell tq] at q0;rw [<-hb1.cell (p:=⟨_,_,none⟩) tq] at q1 q2 q3;rw [<-hb1.cell tm] at r0;by_cases hz:y.getD k 0=0
   ·have hs:qsign (y.getD k 0)=0:=by rw [hz]; rfl
    have HR:Hid (VMLoop w y m C N (.slice sA sn sc) (.int .i64 ((k:Int)+1)) w1):=⟨k+1,⟨sA,sn,sc⟩,by omega,by simp,rfl,by rw [zIX hz]; exact HV.out.belowC hb1,HB.out.trans (hb1.mono HB.out.size)⟩;rw [hs];clear hz hb1 q0 q1 q2 q3 r0 hs;go_wp2
    all_goals
     go_round;case rel=>exact HR.out
     case measure=>simp [intOf]; omega
   ·have hs:¬ qsign (y.getD k 0)=0:=(fun h=>hz (zBX.1 h));have HA:=hdq (zD5 (Hq.out.below hb1) (Hr.out.below hb1) (VecAt.qis' (HV.out.belowC hb1) fun j=>zIM HS.out) HML.out HK.out HL.out (by dsimp only; have:=Hr.out.len; have:=HCL.out k hkm; dsimp only at *; omega) (by dsimp only; have:=HV.out.len; simp [vmTo] at this; omega) (HF.out k));have HB1:=hdq hb1
    have Hnn:Hid (max rn sn=max (m.getD k []).length C):=by
     have h1:=Hr.out.len;have h2:=HV.out.len;simp [vmTo] at h2;dsimp only at h1;show _=_;omega
    clear hz hb1;obtain ⟨sg,hsg⟩:∃ sg,sg=qsign (y.getD k 0):=⟨_,rfl⟩;rw [<-hsg] at hs ⊢;clear hsg;(go_wp2_with fail);refine HA.out.mono ?_; rintro e w2 ⟨⟨⟨zA,zn,zc⟩,rfl,hV2⟩,hb2⟩
    have HR:Hid (VMLoop w y m C N (.slice zA zn zc) (.int .i64 ((k:Int)+1)) w2):=
     ⟨k+1,⟨zA,zn,zc⟩,by omega,by simp,rfl,by
      rw [Hnn.out,zIY (HCL.out k hkm)] at hV2;exact hV2.imp (fun b _ hb=>nlt (HB.out.trans (HB1.out.mono HB.out.size)).size hb) (fun v q hq=>hq.imp fun b _ hb=>nlt (HB.out.trans (HB1.out.mono HB.out.size)).size hb),(HB.out.trans (HB1.out.mono HB.out.size)).trans (hb2.mono (HB.out.trans (HB1.out.mono HB.out.size)).size)⟩
    clear hV2 hb2 HA Hnn q0 q1 q2 q3 r0;go_wp2
    all_goals
     go_round;case rel=>exact HR.out
     case measure=>simp [intOf]; omega
  ·(obtain rfl:k=N:=by omega);go_wp2;go_ret;exact ⟨⟨s,rfl,by rw [<-HN.out]; exact hV⟩,hB⟩
end Go.Proofs.YtpjaodcimomaiaaGreat
