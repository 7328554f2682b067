/- Texts Ra9 Rb1 of this claim. -/
import Derived.Test.YtbpngececjihlaaGreatY41
set_option maxHeartbeats 4000000
set_option maxRecDepth 20000
namespace Go.Proofs.YtbpngececjihlaaGreat
open Go.RowKit
variable {l:List Nat} {n c k:Nat} {A:Option Addr} {X:Nat->Prop} {w:World}
theorem zCR (h:Num.Ok l):(Hal.words (Num.nat l)).length<=2*l.length:=by
 refine Hal.words_length_le (ltl (Num.nat_lt h) ?_);rw [Nat.pow_mul];exact Nat.pow_le_pow_left (by decide) _
theorem zCr (ng:Bool) (h:WordsAt w X A n c l) (hn:n<=100000000000) :
  Calls Tryz.prog 140 #[.agg #[.bool ng,.slice A n c]] w fun e w'=>ZRet1 w (zval ng (Num.nat l)) e w'/\Below w w w':=by
 have HL:Hid ((Hal.words (Num.nat l)).length<=200000000000):=by
  have h1:=zCR h.ok;rw [h.len] at h1;show _<=_; omega
 have HW:=hdq h.old;have HN:=hdq hn;clear h hn;go_enter Tryz.func140,Tryz.ntmps140
 go_wp2
 skip
 refine zAo (fun W=>Below w w W/\Box2 W w (.bool ng) (.slice A n c)/\Box2 W (w+1) (.bool false) (.slice none 0 0)/\w.heap.size<W.heap.size/\w.heap.size+1<W.heap.size) ⟨(az (az (brf _ _))),bx2,bx2,by simp <;> omega,by simp <;> omega⟩ ?_;rintro W ⟨hbW,bA,bR,s0,s1⟩;have hBW:=hbW.size;have HW2:=hdq (HW.out.below hbW);obtain ⟨a0,a1,-⟩:=id bA;clear HW
 go_region_held3 (Sees w [w.heap.size+1] W) (exact kp)
  (first
   | (go_at_call 200; ((with_reducible refine (zAH (HW2.out.keptOld (Sees.kept (by assumption))) (by have:=HN.out; omega)).mono ?_); rintro e w1 ⟨⟨A1,n1,c1,rfl,-,h1⟩,hb1⟩))
   | (go_at_call 199; ((with_reducible refine (zCA (ng) h1 (by rw [<-h1.len]; have:=HL.out; omega)).mono ?_); rintro e w2 ⟨⟨ng',A',n',c',rfl,hz⟩,hb2⟩))
   | fail)
 rename_i hS;obtain ⟨v0,v1⟩:=hS.kept.val2 (by simp) (by simp [bR.1]) (by simp [bR.2.1]);have hzf:=((hz.set (p:=⟨w+1,0,none⟩) (by have:=hb1.size; have:=hb2.size; simp only [World.size_drew] at *; omega) (.bool ng')).set (p:=⟨w.heap.size+1,1,none⟩) (by have:=hb1.size; have:=hb2.size; simp only [World.size_drew] at *; omega) (.slice A' n' c')).lower (B':=w) (by have:=hb1.size; have:=hb2.size; simp only [World.size_drew] at *; omega);have hbf:=hbW.trans hS.kept.below;rw [Hal.nat_words] at hzf;have HZ:=hdq hzf;clear hS hz hzf h1 hb1 hb2;go_wp2;exact bodyPost_ret (v:=.agg #[.bool ng',.slice A' n' c']) (by simp [results,Tryz.results140,go_sem,v0,v1]) rfl ⟨⟨_,_,_,_,rfl,by exact HZ.out⟩,hbf⟩
theorem zHP (ng:Bool) (h:WordsAt w X A n c l) (hn:n<=100000000000) :
  Calls Tryz.prog 197 #[.agg #[.bool ng,.slice A n c]] w fun e w'=>ZRet1 w (- zval ng (Num.nat l)) e w'/\Below w w w':=by
 have HL:Hid ((Hal.words (Num.nat l)).length<=200000000000):=by
  have h1:=zCR h.ok;rw [h.len] at h1;show _<=_; omega
 have HW:=hdq h.old;have HN:=hdq hn;clear h hn;go_enter Tryz.func197,Tryz.ntmps197
 go_wp2
 skip
 refine zAo (fun W=>Below w w W/\Box2 W w (.bool ng) (.slice A n c)/\Box2 W (w+1) (.bool false) (.slice none 0 0)/\w.heap.size<W.heap.size/\w.heap.size+1<W.heap.size) ⟨(az (az (brf _ _))),bx2,bx2,by simp <;> omega,by simp <;> omega⟩ ?_;rintro W ⟨hbW,bA,bR,s0,s1⟩;have hBW:=hbW.size;have HW2:=hdq (HW.out.below hbW);obtain ⟨a0,a1,-⟩:=id bA;clear HW
 go_region_held3 (Sees w [w.heap.size+1] W) (exact kp)
  (first
   | (go_at_call 200; ((with_reducible refine (zAH (HW2.out.keptOld (Sees.kept (by assumption))) (by have:=HN.out; omega)).mono ?_); rintro e w1 ⟨⟨A1,n1,c1,rfl,-,h1⟩,hb1⟩))
   | (go_at_call 199; ((with_reducible refine (zCA (!ng) h1 (by rw [<-h1.len]; have:=HL.out; omega)).mono ?_); rintro e w2 ⟨⟨ng',A',n',c',rfl,hz⟩,hb2⟩))
   | fail)
 rename_i hS;obtain ⟨v0,v1⟩:=hS.kept.val2 (by simp) (by simp [bR.1]) (by simp [bR.2.1]);have hzf:=((hz.set (p:=⟨w+1,0,none⟩) (by have:=hb1.size; have:=hb2.size; simp only [World.size_drew] at *; omega) (.bool ng')).set (p:=⟨w.heap.size+1,1,none⟩) (by have:=hb1.size; have:=hb2.size; simp only [World.size_drew] at *; omega) (.slice A' n' c')).lower (B':=w) (by have:=hb1.size; have:=hb2.size; simp only [World.size_drew] at *; omega);have hbf:=hbW.trans hS.kept.below;rw [Hal.nat_words] at hzf;have HZ:=hdq hzf;clear hS hz hzf h1 hb1 hb2;go_wp2;exact bodyPost_ret (v:=.agg #[.bool ng',.slice A' n' c']) (by simp [results,Tryz.results197,go_sem,v0,v1]) rfl ⟨⟨_,_,_,_,rfl,by have:=HZ.out; rw [zDk] at this; exact this⟩,hbf⟩
theorem zHM (ng:Bool) (h:WordsAt w X A n c l) (hn:n<=100000000000) :
  Calls Tryz.prog 198 #[.agg #[.bool ng,.slice A n c]] w fun e w'=>ZRet1 w ((Num.nat l:Nat):Int) e w'/\Below w w w':=by
 have HL:Hid ((Hal.words (Num.nat l)).length<=200000000000):=by
  have h1:=zCR h.ok;rw [h.len] at h1;show _<=_; omega
 have HW:=hdq h.old;have HN:=hdq hn;clear h hn;go_enter Tryz.func198,Tryz.ntmps198
 go_wp2_with fail
 refine zAg (fun W=>Below w w W/\Box2 W w (.bool ng) (.slice A n c)/\Box2 W (w+1) (.bool false) (.slice none 0 0)/\w.heap.size<W.heap.size/\w.heap.size+1<W.heap.size) ⟨(az (az (brf _ _))),bx2,bx2,by simp <;> omega,by simp <;> omega⟩ ?_;rintro W ⟨hbW,bA,bR,s0,s1⟩;have hBW:=hbW.size;refine (zAH (HW.out.below hbW) (by have:=HN.out; omega)).mono ?_;rintro e w1 ⟨⟨A1,n1,c1,rfl,-,h1⟩,hb1⟩;go_wp2_with fail
 refine (zCA false h1 (by rw [<-h1.len]; have:=HL.out; omega)).mono ?_;rintro e w2 ⟨⟨ng',A',n',c',rfl,hz⟩,hb2⟩;have hb12:=hb1.trans (hb2.mono hb1.size);have bR2:=bR.below hb12 s1;have sR2:=ltl s1 hb12.size;have hb1s:=hb1.size;obtain ⟨r0,r1,rf⟩:=id bR2;obtain ⟨v0,v1⟩:=bR2.stored (.bool ng') (.slice A' n' c');rw [Hal.nat_words] at hz;have hzf:=((hz.set (p:=⟨w+1,0,none⟩) (by show w.heap.size+1<_; omega) (.bool ng')).set (p:=⟨w.heap.size+1,1,none⟩) (by show w.heap.size+1<_; omega) (.slice A' n' c')).lower (B':=w) (by omega);have HZ:=hdq hzf;have hbf:=((hbW.trans (hb12.mono hBW)).setCell (p:=⟨w+1,0,none⟩) (by simp) (.bool ng')).setCell (p:=⟨w.heap.size+1,1,none⟩) (by simp) (.slice A' n' c');clear hz hzf h1 hb1 hb2 hb12;go_wp2;exact bodyPost_ret (v:=.agg #[.bool ng',.slice A' n' c']) (by simp [results,Tryz.results198,go_sem,v0,v1]) rfl ⟨⟨_,_,_,_,rfl,HZ.out⟩,hbf⟩
theorem zBJ (ng:Bool) (h:WordsAt w X A n c l) (hn:n<=100000000000) :
  Calls Tryz.prog 196 #[.agg #[.bool ng,.slice A n c]] w fun e w'=>e = .returned (.int .i64 (zsign ng (Num.nat l)))/\Below w w w':=by
 have HW:=hdq h.old;have HN:=hdq hn;clear h hn;obtain ⟨m,hm⟩:∃ m,Num.nat l=m:=⟨_,rfl⟩;have HM:=hdq hm;rw [hm];clear hm;go_enter Tryz.func196,Tryz.ntmps196
 go_wp2_with fail
 refine zAg (fun W=>Below w w W/\Box2 W w (.bool ng) (.slice A n c)/\w.heap.size<W.heap.size) ⟨(az (brf _ _)),bx2,by simp <;> omega⟩ ?_;rintro W ⟨hbW,bA,s0⟩;have hBW:=hbW.size;refine (zAH (HW.out.below hbW) (by have:=HN.out; omega)).mono ?_;rintro e w1 ⟨⟨A1,n1,c1,rfl,-,h1⟩,hb1⟩;rw [HM.out] at h1;obtain ⟨a0,a1,-⟩:=bA.below hb1 s0;have hbf:=hbW.trans (hb1.mono hBW)
 have hn1:n1=0 ↔ m=0:=by
  rw [<-h1.len];constructor
  ·intro h; rw [<-Hal.nat_words m,List.eq_nil_of_length_eq_zero h]; rfl
  ·intro h; rw [h,Hal.words_zero]; rfl
 by_cases h0:m=0
 ·obtain rfl:n1=0:=hn1.2 h0;have hs:Hid (zsign ng m=0):=by show _=_; simp [zsign,h0]
  clear h1 hn1 h0;go_wp2;go_ret;exact ⟨zAz hs.out.symm,hbf⟩
 ·have h1':((n1:Int) == 0)=false:=by have:=mt hn1.1 h0; simp; omega
  clear h1 hn1;cases ng
  all_goals
   go_wp2;go_ret;exact ⟨zAz (by simp [zsign,h0]),hbf⟩
theorem zES (hk:k<=1000000):Num.nat [k,0]=k/\Num.Ok [k,0]:=by
 refine ⟨by simp [Num.nat],fun x hx=>?_⟩;simp at hx;simp only [Num.base];omega
theorem zF5 (k:Nat) (hk:k<=1000000) (hk1:0<k) :
  Calls Tryz.prog 60 #[.int .i64 ((k:Int))] w fun e w'=>ZRet1 w ((k:Int)) e w'/\Below w w w':=by
 have hk0:¬ (k:Int)<0:=by omega
 have hw:IntKind.u64.wrap (k:Int)=(k:Int):=by
  unfold IntKind.wrap; simp [IntKind.signed,IntKind.bits]; omega
 have q1:(k:Int) % 4294967296=(k:Int):=by omega
 have q2:(k:Int) / 4294967296=0:=by omega
 obtain ⟨f1,f2⟩:=zES hk;have F1:=hdq f1;have F2:=hdq f2;clear f1 f2;go_enter Tryz.func60,Tryz.ntmps60
 go_wp2_with fail
 clear hw q1 q2;have hblk:((w.alloc (.cells #[.bool false,.slice none 0 0] 28)).alloc (.cells #[.int .u32 (k:Int),.int .u32 0] 178)).heap[w.heap.size+1]?=some (.cells (([k,0]:List Nat).map fun (x:Nat)=>Value.int .u32 x).toArray 178 (0,0)):=zAd _ _ (by simp);have hbW:Below w w ((w.alloc (.cells #[.bool false,.slice none 0 0] 28)).alloc (.cells #[.int .u32 (k:Int),.int .u32 0] 178)):=(bal).alloc (by simp) _;have bR:Box2 ((w.alloc (.cells #[.bool false,.slice none 0 0] 28)).alloc (.cells #[.int .u32 (k:Int),.int .u32 0] 178)) w (.bool false) (.slice none 0 0):=bx2;have s1:w.heap.size<((w.alloc (.cells #[.bool false,.slice none 0 0] 28)).alloc (.cells #[.int .u32 (k:Int),.int .u32 0] 178)).heap.size:=by simp; omega
 have hWd:=WordsAt.block (B:=w) (by omega) F2.out (by simp) hblk;generalize (w.alloc (.cells #[.bool false,.slice none 0 0] 28)).alloc (.cells #[.int .u32 (k:Int),.int .u32 0] 178)=W at *;refine (zCr false hWd (by simp)).mono ?_;rintro e w1 ⟨⟨ng',A',n',c',rfl,hz⟩,hb1⟩;rw [F1.out] at hz;have bR2:=bR.below hb1 s1;have sR2:=ltl s1 hb1.size;obtain ⟨r0,r1,rf⟩:=id bR2;obtain ⟨v0,v1⟩:=bR2.stored (.bool ng') (.slice A' n' c');have hzf:=((hz.set (p:=w) s1 (.bool ng')).set (p:=⟨w.heap.size,1,none⟩) s1 (.slice A' n' c')).lower (B':=w) hbW.size;have HZ:=hdq hzf;have hbf:=((hbW.trans (hb1.mono hbW.size)).setCell (p:=w) (nlr _) (.bool ng')).setCell (p:=⟨w.heap.size,1,none⟩) (nlr _) (.slice A' n' c');clear hz hzf hWd hblk hb1;go_wp2;exact bodyPost_ret (v:=.agg #[.bool ng',.slice A' n' c']) (by simp [results,Tryz.results60,go_sem,v0,v1]) rfl ⟨⟨_,_,_,_,rfl,HZ.out⟩,hbf⟩
theorem zF4 (k:Nat) (hk:k<=1000000) (hk1:0<k) :
  Calls Tryz.prog 60 #[.int .i64 (-(k:Int))] w fun e w'=>ZRet1 w (-(k:Int)) e w'/\Below w w w':=by
 have hk0:-(k:Int)<0:=by omega
 have hw:IntKind.u64.wrap (-IntKind.u64.wrap (-(k:Int)))=(k:Int):=by
  unfold IntKind.wrap; simp [IntKind.signed,IntKind.bits]; omega
 have q1:(k:Int) % 4294967296=(k:Int):=by omega
 have q2:(k:Int) / 4294967296=0:=by omega
 obtain ⟨f1,f2⟩:=zES hk;have F1:=hdq f1;have F2:=hdq f2;clear f1 f2;go_enter Tryz.func60,Tryz.ntmps60
 go_wp2_with fail
 clear hw q1 q2;have hblk:((w.alloc (.cells #[.bool false,.slice none 0 0] 28)).alloc (.cells #[.int .u32 (k:Int),.int .u32 0] 178)).heap[w.heap.size+1]?=some (.cells (([k,0]:List Nat).map fun (x:Nat)=>Value.int .u32 x).toArray 178 (0,0)):=zAd _ _ (by simp);have hbW:Below w w ((w.alloc (.cells #[.bool false,.slice none 0 0] 28)).alloc (.cells #[.int .u32 (k:Int),.int .u32 0] 178)):=(bal).alloc (by simp) _;have bR:Box2 ((w.alloc (.cells #[.bool false,.slice none 0 0] 28)).alloc (.cells #[.int .u32 (k:Int),.int .u32 0] 178)) w (.bool false) (.slice none 0 0):=bx2;have s1:w.heap.size<((w.alloc (.cells #[.bool false,.slice none 0 0] 28)).alloc (.cells #[.int .u32 (k:Int),.int .u32 0] 178)).heap.size:=by simp; omega
 have hWd:=WordsAt.block (B:=w) (by omega) F2.out (by simp) hblk;generalize (w.alloc (.cells #[.bool false,.slice none 0 0] 28)).alloc (.cells #[.int .u32 (k:Int),.int .u32 0] 178)=W at *;refine (zCr true hWd (by simp)).mono ?_;rintro e w1 ⟨⟨ng',A',n',c',rfl,hz⟩,hb1⟩;rw [F1.out] at hz;have bR2:=bR.below hb1 s1;have sR2:=ltl s1 hb1.size;obtain ⟨r0,r1,rf⟩:=id bR2;obtain ⟨v0,v1⟩:=bR2.stored (.bool ng') (.slice A' n' c');have hzf:=((hz.set (p:=w) s1 (.bool ng')).set (p:=⟨w.heap.size,1,none⟩) s1 (.slice A' n' c')).lower (B':=w) hbW.size;have HZ:=hdq hzf;have hbf:=((hbW.trans (hb1.mono hbW.size)).setCell (p:=w) (nlr _) (.bool ng')).setCell (p:=⟨w.heap.size,1,none⟩) (nlr _) (.slice A' n' c');clear hz hzf hWd hblk hb1;go_wp2;exact bodyPost_ret (v:=.agg #[.bool ng',.slice A' n' c']) (by simp [results,Tryz.results60,go_sem,v0,v1]) rfl ⟨⟨_,_,_,_,rfl,HZ.out⟩,hbf⟩
theorem zB9 (n:Int) (h1:-1000000<=n) (h2:n<=1000000) (h0:n ≠ 0) :
  Calls Tryz.prog 60 #[.int .i64 n] w fun e w'=>ZRet1 w n e w'/\Below w w w':=by
 rcases (by omega:0<n\/n<0) with h | h
 ·obtain ⟨k,rfl⟩:∃ k:Nat,n=k:=⟨n.toNat,by omega⟩;exact zF5 k (by omega) (by omega)
 ·obtain ⟨k,rfl⟩:∃ k:Nat,n=-(k:Int):=⟨(-n).toNat,by omega⟩;exact zF4 k (by omega) (by omega)
end Go.Proofs.YtbpngececjihlaaGreat
