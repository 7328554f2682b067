/- Texts McAddS McAdd of this claim. -/
import Derived.Test.YtjancagcmghfjaaGreatX20
set_option maxHeartbeats 4000000
set_option maxRecDepth 20000
namespace Go.Proofs.YtjancagcmghfjaaGreat
open Go.RowKit
variable {p q:Rat} {L M N b B:Nat} {X Y X' Y':Nat->Prop} {w:World} {s sa sb:SV}
theorem zHp {Z:Nat->Prop} {x y kv:QV} {k:Rat} (hx:QIs w X L x p) (hy:QIs w Y M y q) (hk:QIs w Z N kv k) (hbox:w.heap[b]?=some (.cells #[.bool kv.num.ng,.slice kv.num.A kv.num.n kv.num.c,.bool kv.den.ng,.slice kv.den.A kv.den.n kv.den.c] 80 (0,0))) (hL:L<=LM) (hM:M<=LM) (hN:N<=LM) (hf:QFit LM (k*p)) :
  Calls Tryz.prog 226 #[x.val,y.val,.pointer (some b)] w fun e w'=>QRet w (k*p+q) e w'/\Below w w w':=by
 have HX:=hdq hx.old;have HY:=hdq hy.old;have HKv:=hdq hk.old;have HL:=hdq hL;have HM:=hdq hM;have HN:=hdq hN;have HF:=hdq hf;have hbl:=zAa hbox;clear hx hy hk hL hM hN hf;go_enter Tryz.func226,Tryz.ntmps226
 go_wp2;refine zAo (fun W=>Below w w W/\Box4 W w (.bool x.num.ng) (.slice x.num.A x.num.n x.num.c) (.bool x.den.ng) (.slice x.den.A x.den.n x.den.c)/\Box4 W (w+1) (.bool y.num.ng) (.slice y.num.A y.num.n y.num.c) (.bool y.den.ng) (.slice y.den.A y.den.n y.den.c)/\Box4 W (w+1+1) (.bool false) (.slice none 0 0) (.bool false) (.slice none 0 0)/\w.heap.size<W.heap.size/\w.heap.size+1<W.heap.size/\w.heap.size+1+1<W.heap.size) ⟨(az (az (az (brf _ _)))),bx4,bx4,bx4,by simp <;> omega,by simp <;> omega,by simp <;> omega⟩ ?_;rintro W ⟨hbW,bX,bY,bR,s0,s1,s2⟩;have hBW:=hbW.size;have ne02:¬ (w.heap.size=w.heap.size+1+1):=by omega
 obtain ⟨k0,k1,k2,k3⟩:W.cell? b=some (.bool kv.num.ng)/\W.cell? ⟨b,1,none⟩=some (.slice kv.num.A kv.num.n kv.num.c)/\W.cell? ⟨b,2,none⟩=some (.bool kv.den.ng)/\W.cell? ⟨b,3,none⟩=some (.slice kv.den.A kv.den.n kv.den.c):=by simp [World.cell?,(hbW.block b hbl).trans hbox]
 obtain ⟨x0,x1,x2,x3,-⟩:=id bX;obtain ⟨y0,y1,y2,y3,-⟩:=id bY;have HX2:=hdq (HX.out.below hbW);have HY2:=hdq (HY.out.below hbW);have HK2:=hdq (HKv.out.below hbW);have m1:¬ (b=w.heap.size+1+1):=by omega
 have m2:¬ (b=w.heap.size+1):=by omega
 have m3:¬ (b=w.heap.size):=by omega
 have m4:b<W.heap.size:=by omega
 clear hbox HX HY HKv bX bY
 go_region_held3 (Sees w [w.heap.size+1+1] W) (exact kp)
  (first
   | (go_at_call 50; ((with_reducible refine (zBb (a:=kv) (b:=x) (HK2.out.keptOld (Sees.kept (by assumption))) (HX2.out.keptOld (Sees.kept (by assumption))) HN.out HL.out).mono ?_); rintro e w1 ⟨⟨u,rfl,hu⟩,hb1⟩))
   | (go_at_call 60; ((with_reducible refine (zCD (a:=u) (b:=y) (hu.qis HF.out) (HY2.out.keptOld (Sees.kept (by assumption))) (nlr _) HM.out).mono ?_); rintro e w2 ⟨⟨z,rfl,hz⟩,hb2⟩))
   | fail)
 rename_i hS;obtain ⟨v0,v1,v2,v3⟩:=hS.kept.val4 (by simp) (by rw [bR.1]; rfl) (by rw [bR.2.1]; rfl) (by rw [bR.2.2.1]; rfl) (by rw [bR.2.2.2.1]; rfl);have hbf:=hbW.trans hS.kept.below;have hb2s:=hb2.size;have hb1s:=hb1.size;clear hS hu;go_wp2;refine bodyPost_ret (v:=z.val) (by simp [results,Tryz.results226,go_sem,v0,v1,v2,v3]) rfl ⟨⟨z,rfl,?_⟩,hbf⟩;simp only [World.size_drew] at hb1s hb2s;exact (hz.set4 (by omega)).lower (by omega)
open Go.RowKit Go.Shelf Gj
theorem VecAt.low {B':Nat} {l:List Rat} (h:VecCan w (New B) (New B) s l) (hB:B'<=B):VecCan w (New B') (New B') s l:=h.imp (fun _ _ hb=>nlt hB hb) fun _ _ hq=>hq.lower hB
theorem zKJ {Z:Nat->Prop} {k:QV} {la lb:List Rat} (hk:QIs w Z N k q) (ha:VecIs w X Y L sa la) (hb:VecIs w X' Y' M sb lb) (hL:L<=LM) (hM:M<=LM) (hN:N<=LM) (hna:sa.n<=1000000) (hnb:sb.n<=1000000) (hf:∀ i,QFit LM (q*la.getD i 0)) :
  Calls Tryz.prog 189 #[k.val,sa.val,sb.val] w fun e w'=>CbRet w ((List.range (max sa.n sb.n)).map fun i=>q*la.getD i 0+lb.getD i 0) e w'/\Below w w w':=by
 have al:Below w w (w.alloc (.cells #[.bool k.num.ng,.slice k.num.A k.num.n k.num.c,.bool k.den.ng,.slice k.den.A k.den.n k.den.c] 80)):=bal;have hbx:(w.alloc (.cells #[.bool k.num.ng,.slice k.num.A k.num.n k.num.c,.bool k.den.ng,.slice k.den.A k.den.n k.den.c] 80)).heap[w.heap.size]?=some (.cells #[.bool k.num.ng,.slice k.num.A k.num.n k.num.c,.bool k.den.ng,.slice k.den.A k.den.n k.den.c] 80 (0,0)):=zAd _ _ rfl;have hsz:w.heap.size<(w.alloc (.cells #[.bool k.num.ng,.slice k.num.A k.num.n k.num.c,.bool k.den.ng,.slice k.den.A k.den.n k.den.c] 80)).heap.size:=by simp
 have HC:=hdq (zLa (f:=226) (caps:=#[.pointer (some ⟨w,0,none⟩)]) (g:=fun i=>q*la.getD i 0+lb.getD i 0) (ha.below al) (hb.below al) hna hnb (fun args w=>rfl)
  (fun W x y i hc hx hy=>zHp hx hy ((hk.below al).old.carry hc) (hc.blk _ _ _ _ hsz hbx) hL hM hN (hf i)))
 clear ha hb hk hL hM hN hna hnb hf;obtain ⟨A,n,c⟩:=sa;obtain ⟨B,m,d⟩:=sb;dsimp only [SV.val] at *;go_enter Tryz.func189,Tryz.ntmps189
 go_wp2_with fail
 refine HC.out.mono ?_;rintro e w1 ⟨⟨z,rfl,hz,hz2⟩,hb1⟩;go_wp2;go_ret;exact ⟨⟨z,rfl,hz.low al.size,fun hp=>by obtain ⟨b,c,q1,q2,q3,q4,q5⟩:=hz2 hp; exact ⟨b,c,q1,q2,q3,nlt al.size q4,.inr rfl,q5.blk,fun k hk=>by obtain ⟨v,h1,h2⟩:=q5.elem k hk; exact ⟨v,h1,h2.imp fun x _ hx e=>hx (e.imp (fun h=>ltl h al.size) id)⟩⟩⟩,al.trans (hb1.mono al.size)⟩
theorem zD5 {Z:Nat->Prop} {k:QV} {la lb:List Rat} (hk:QIs w Z N k q) (ha:VecIs w X Y L sa la) (hb:VecIs w X' Y' M sb lb) (hL:L<=LM) (hM:M<=LM) (hN:N<=LM) (hna:sa.n<=1000000) (hnb:sb.n<=1000000) (hf:∀ i,QFit LM (q*la.getD i 0)) :
  Calls Tryz.prog 189 #[k.val,sa.val,sb.val] w fun e w'=>VRet w ((List.range (max sa.n sb.n)).map fun i=>q*la.getD i 0+lb.getD i 0) e w'/\Below w w w':=by
 refine (zKJ hk ha hb hL hM hN hna hnb hf).mono ?_;rintro e w' ⟨⟨s,rfl,h,_⟩,hb⟩;exact ⟨⟨s,rfl,h⟩,hb⟩
end Go.Proofs.YtjancagcmghfjaaGreat
