/- Texts Frac6 Frac7 Frac8 Frac9 Frac10 Frac11 Vec1 GjA of this claim. -/
import Derived.Test.YtjancagcmghfjaaGreatX07
import Derived.WideMake
import Derived.Test.YtjancagcmghfjaaGreatX00
set_option maxHeartbeats 4000000
set_option maxRecDepth 20000
namespace Go.Proofs.YtjancagcmghfjaaGreat
open Go.RowKit
variable {r i B K L M n c g k b:Nat} {w w':World} {z x y:Int} {X Y:Nat->Prop} {A:Option Addr} {ng:Bool} {q p:Rat} {l gs:List Nat}
theorem zHT {P:Program} {mty kt et:TypeId} {clock:Nat} {es:Array MapEntry} {k:IntKind} {a:Int} {val:Value} (hm:P.underlying mty=some (.map kt et)) (hk:P.underlying kt=some (.int k)) (hb:w.heap[r]?=some (.map es clock))
  (hf:Instr.findNow (.int k) (.int k a) es.toList 0=some none) :
  (Instr.mapUpdate mty (.map (some r)) (.int k a) val).run P w = .ok () {w with heap:=w.heap.setIfInBounds r (.map (es.push {key:=.int k a,val:=val,born:=clock}) (clock+1))}:=by
 have hc:(Instr.checkKey false 10000 kt (.int k a)).run P w = .ok () w:=MapKept.run_checkKey (k:=.int k a) hk (by simp [MapKept.IsKey]) false 9999;simp [Instr.mapUpdate,run_underlying hm,MapKept.run_getObj_map hb,hc,MapKept.run_findKey hk hf,MapKept.run_setObj_map _ hb,Result.andThen]
theorem zA7 {P:Program} {mty kt et:TypeId} {clock:Nat} {es:Array MapEntry} {k:IntKind} {a:Int} {val:Value} (hm:P.underlying mty=some (.map kt et)) (hk:P.underlying kt=some (.int k)) (hb:w.heap[r]?=some (.map es clock))
  (hf:Instr.findNow (.int k) (.int k a) es.toList 0=some none) :
  ∃ w',(Instr.mapUpdate mty (.map (some r)) (.int k a) val).run P w = .ok () w'/\w'.heap[r]?=some (.map (es.push {key:=.int k a,val:=val,born:=clock}) (clock+1))/\∀ B,B<=r->Below B w w':=by
 refine ⟨_,zHT hm hk hb hf,by simp [zAa hb],fun B hB=>⟨rfl,rfl,rfl,by simp,fun k hk=>?_⟩⟩;simp [Array.getElem?_setIfInBounds]; omega
theorem zCa {P:Program} {mty kt et:TypeId} {clock:Nat} {es:Array MapEntry} {k:IntKind} {a:Int} {val:Value} (hm:P.underlying mty=some (.map kt et)) (hk:P.underlying kt=some (.int k)) (hb:w.heap[r]?=some (.map es clock))
  (hf:Instr.findNow (.int k) (.int k a) es.toList 0=some (some (i,val))) :
  (Instr.lookup mty (.map (some r)) (.int k a) false).run P w = .ok val w:=by
 have hc:∀ b,(Instr.checkKey b 10000 kt (.int k a)).run P w = .ok () w:=fun b=>MapKept.run_checkKey (k:=.int k a) hk (by simp [MapKept.IsKey]) b 9999
 simp [Instr.lookup,run_underlying hm,MapKept.run_getObj_map hb,hc,MapKept.run_findKey hk hf,Result.andThen]
def opsMap:Array MapEntry:=#[{key:=.int .u8 43,val:=.agg #[.func (.func 195) #[] #[]],born:=0},{key:=.int .u8 45,val:=.agg #[.func (.func 197) #[] #[]],born:=1},
 {key:=.int .u8 42,val:=.agg #[.func (.func 199) #[] #[]],born:=2},{key:=.int .u8 47,val:=.agg #[.func (.func 200) #[] #[]],born:=3}]
theorem zBf (w:World) :
  Calls Tryz.prog 151 #[] w fun e w'=>e = .returned (.map (some w.heap.size))/\w'.heap[w.heap.size]?=some (.map opsMap 4)/\Below w w w':=by
 have hmm:=@run_makeMap Tryz.prog;have h0:(w.alloc (.map #[] 0)).heap[w.heap.size]?=some (.map #[] 0):=zAd _ _ rfl;have b0:Below w w (w.alloc (.map #[] 0)):=bal;obtain ⟨w1,r1,h1,c1⟩:=zA7 (P:=Tryz.prog) (k:=.u8) (a:=43) (val:=.agg #[.func (.func 195) #[] #[]]) Tryz.underlying196 Tryz.underlying5 h0 rfl;have b1:=b0.trans (c1 w (nlr _));obtain ⟨w2,r2,h2,c2⟩:=zA7 (P:=Tryz.prog) (k:=.u8) (a:=45) (val:=.agg #[.func (.func 197) #[] #[]]) Tryz.underlying196 Tryz.underlying5 h1 rfl;have b2:=b1.trans (c2 w (nlr _));obtain ⟨w3,r3,h3,c3⟩:=zA7 (P:=Tryz.prog) (k:=.u8) (a:=42) (val:=.agg #[.func (.func 199) #[] #[]]) Tryz.underlying196 Tryz.underlying5 h2 rfl;have b3:=b2.trans (c3 w (nlr _));obtain ⟨w4,r4,h4,c4⟩:=zA7 (P:=Tryz.prog) (k:=.u8) (a:=47) (val:=.agg #[.func (.func 200) #[] #[]]) Tryz.underlying196 Tryz.underlying5 h3 rfl;have b4:=b3.trans (c4 w (nlr _));have H4:=hdq h4;clear h0 h1 h2 h3 h4 c1 c2 c3 c4 b0 b1 b2 b3;go_wp2;go_ret;exact ⟨rfl,H4.out,b4⟩
def ZNew (B K:Nat) (w:World) (v:ZV) (z:Int):Prop:=ZAt w (New B) v.ng v.A v.n v.c z/\v.n<=K
def ZRet (w:World) (K:Nat) (z:Int) (e:Ending) (w':World):Prop:=∃ v:ZV,e = .returned v.val/\ZNew w K w' v z
theorem ZNew.below {v:ZV} (h:ZNew B K w v z) (hb:Below w w w'):ZNew B K w' v z:=⟨h.1.below hb,h.2⟩
theorem ZNew.lower {B':Nat} {v:ZV} (h:ZNew B K w v z) (hB:B'<=B):ZNew B' K w v z:=⟨h.1.lower hB,h.2⟩
theorem ZNew.zis {v:ZV} (h:ZNew B K w v z):ZIs w (New B) K v z:=⟨_,h.1.words,h.2,h.1.val.symm⟩
theorem zAO {a b:ZV} (ha:ZIs w X L a x) (hb:ZIs w Y M b y) (hL:L+M<=35184372088832) :
  Calls Tryz.prog 111 #[a.val,b.val] w fun e w'=>ZRet w (L+M) (x*y) e w'/\Below w w w':=by
 have h1:=ha.lt;have h2:=hb.lt;obtain ⟨la,wa,na,rfl⟩:=ha;obtain ⟨lb,wb,nb,rfl⟩:=hb;refine (zH4 a.ng b.ng wa wb (by omega)).mono ?_;rintro e w' ⟨⟨ng',A',n',c',rfl,hz⟩,hbw⟩;refine ⟨⟨⟨ng',A',n',c'⟩,rfl,hz,?_⟩,hbw⟩;show n'<=_;rw [<-hz.words.len];refine Num.words_length_le ?_;rw [Int.natAbs_mul,Nat.pow_add];exact Nat.mul_lt_mul_of_le_of_lt (Nat.le_of_lt h1) h2 (Num.pow_pos' L)
theorem zJE (h1:x.natAbs<Num.base ^ L) (h2:y.natAbs<Num.base ^ L):(x+y).natAbs<Num.base ^ (L+1)/\(x-y).natAbs<Num.base ^ (L+1):=by
 have e:Num.base ^ L*2<=Num.base ^ L*Num.base:=Nat.mul_le_mul_left _ (by decide);rw [Nat.pow_succ];generalize Num.base ^ L*Num.base=T at *;generalize Num.base ^ L=S at *;omega
theorem zH9 {a b:ZV} (ha:ZIs w X L a x) (hb:ZIs w Y L b y) (hL:L<35184372088000) :
  Calls Tryz.prog 196 #[a.val,b.val] w fun e w'=>ZRet w (L+1) (x+y) e w'/\Below w w w':=by
 have h1:=ha.lt;have h2:=hb.lt;obtain ⟨la,wa,na,rfl⟩:=ha;obtain ⟨lb,wb,nb,rfl⟩:=hb;refine (zH2 a.ng b.ng wa wb (by omega) (by omega)).mono ?_;rintro e w' ⟨⟨ng',A',n',c',rfl,hz⟩,hbw⟩;refine ⟨⟨⟨ng',A',n',c'⟩,rfl,hz,?_⟩,hbw⟩;show n'<=_;rw [<-hz.words.len];exact Num.words_length_le (zJE h1 h2).1
theorem zIc {a b:ZV} (ha:ZIs w X L a x) (hb:ZIs w Y L b y) (hL:L<35184372088000) :
  Calls Tryz.prog 198 #[a.val,b.val] w fun e w'=>ZRet w (L+1) (x-y) e w'/\Below w w w':=by
 have h1:=ha.lt;have h2:=hb.lt;obtain ⟨la,wa,na,rfl⟩:=ha;obtain ⟨lb,wb,nb,rfl⟩:=hb;refine (zH8 a.ng b.ng wa wb (by omega) (by omega)).mono ?_;rintro e w' ⟨⟨ng',A',n',c',rfl,hz⟩,hbw⟩;refine ⟨⟨⟨ng',A',n',c'⟩,rfl,hz,?_⟩,hbw⟩;show n'<=_;rw [<-hz.words.len];exact Num.words_length_le (zJE h1 h2).2
def ZZRet (w:World) (K:Nat) (x y:Int) (e:Ending) (w':World):Prop:=∃ u v:ZV,e = .returned (.tuple #[u.val,v.val])/\ZNew w K w' u x/\ZNew w K w' v y
theorem zQq {B' h:Nat} {x y x' y':Value} (hz:ZAt w (New B) ng A n c z) (hg:g<B) (hh:h<B) (hB:B'<=B) :
  ZAt ((((w.setCell g x).setCell ⟨g,1,none⟩ y).setCell h x').setCell ⟨h,1,none⟩ y') (New B') ng A n c z:=
 ((((hz.set (p:=g) hg _).set (p:=⟨g,1,none⟩) hg _).set (p:=h) hh _).set (p:=⟨h,1,none⟩) hh _).lower hB
theorem zQn {a b c d:ZV} {x1 y1 x2 y2 t:Int} (hk:(k=195/\z=x1*y2+x2*y1/\t=y1*y2)\/(k=197/\z=x1*y2-x2*y1/\t=y1*y2)\/(k=199/\z=x1*x2/\t=y1*y2)\/k=200/\z=x1*y2/\t=y1*x2)
  (ha:ZIs w X L a x1) (hb:ZIs w X L b y1) (hc:ZIs w X L c x2) (hd:ZIs w X L d y2) (hL:L<=LM+1) :
  Calls Tryz.prog k #[a.val,b.val,c.val,d.val] w fun e w'=>ZZRet w (L+L+1) z t e w'/\Below w w w':=by
 have HL:Hid (L+L<=35184372088832/\L+L<35184372088000):=by show _/\_; rw [zAZ] at hL; omega
 clear hL;rcases hk with ⟨rfl,rfl,rfl⟩ | ⟨rfl,rfl,rfl⟩ | ⟨rfl,rfl,rfl⟩ | ⟨rfl,rfl,rfl⟩
 all_goals
  first | go_enter Tryz.func195,Tryz.ntmps195 | go_enter Tryz.func197,Tryz.ntmps197 | go_enter Tryz.func199,Tryz.ntmps199 | go_enter Tryz.func200,Tryz.ntmps200
  go_wp2;refine zAo (fun W=>Below w w W/\Box2 W w (.bool a.ng) (.slice a.A a.n a.c)/\Box2 W (w+1) (.bool b.ng) (.slice b.A b.n b.c)/\Box2 W (w+1+1) (.bool c.ng) (.slice c.A c.n c.c)/\Box2 W (w+1+1+1) (.bool d.ng) (.slice d.A d.n d.c)/\Box2 W (w+1+1+1+1) (.bool false) (.slice none 0 0)/\Box2 W (w+1+1+1+1+1) (.bool false) (.slice none 0 0)/\w.heap.size<W.heap.size/\w.heap.size+1<W.heap.size/\w.heap.size+1+1<W.heap.size/\w.heap.size+1+1+1<W.heap.size/\w.heap.size+1+1+1+1<W.heap.size/\w.heap.size+1+1+1+1+1<W.heap.size) ⟨(az (az (az (az (az (az (brf _ _))))))),bx2,bx2,bx2,bx2,bx2,bx2,by simp <;> omega,by simp <;> omega,by simp <;> omega,by simp <;> omega,by simp <;> omega,by simp <;> omega⟩ ?_;rintro W ⟨hbW,bA,bB,bC,bD,bN,bE,s0,s1,s2,s3,s4,s5⟩;have hBW:=hbW.size;have ne02:¬ (w.heap.size=w.heap.size+1+1):=by omega
  have ne03:¬ (w.heap.size=w.heap.size+1+1+1):=by omega
  have ne04:¬ (w.heap.size=w.heap.size+1+1+1+1):=by omega
  have ne05:¬ (w.heap.size=w.heap.size+1+1+1+1+1):=by omega
  have ne13:¬ (w.heap.size+1=w.heap.size+1+1+1):=by omega
  have ne14:¬ (w.heap.size+1=w.heap.size+1+1+1+1):=by omega
  have ne15:¬ (w.heap.size+1=w.heap.size+1+1+1+1+1):=by omega
  have ne24:¬ (w.heap.size+1+1=w.heap.size+1+1+1+1):=by omega
  have ne25:¬ (w.heap.size+1+1=w.heap.size+1+1+1+1+1):=by omega
  have ne35:¬ (w.heap.size+1+1+1=w.heap.size+1+1+1+1+1):=by omega
  have ha':=ha.old.below hbW;have hb':=hb.old.below hbW;have hc':=hc.old.below hbW;have hd':=hd.old.below hbW;clear ha hb hc hd
  go_region_held3 (Sees w [w.heap.size+1+1+1+1,w.heap.size+1+1+1+1+1] W) (exact kp)
   (first
    | (go_at_call 111; ((with_reducible refine (zAO (a:=a) (b:=d) (ha'.keptOld (Sees.kept (by assumption))) (hd'.keptOld (Sees.kept (by assumption))) HL.out.1).mono ?_); rintro e w1 ⟨⟨u1,rfl,hz1⟩,hb1⟩; replace hz1:=hz1.lower (Sees.kept (by assumption):Kept w _ W _).size))
    | (go_at_call 111; ((with_reducible refine (zAO (a:=c) (b:=b) (hc'.keptOld (Sees.kept (by assumption))) (hb'.keptOld (Sees.kept (by assumption))) HL.out.1).mono ?_); rintro e w2 ⟨⟨u2,rfl,hz2⟩,hb2⟩; replace hz2:=hz2.lower (Sees.kept (by assumption):Kept w _ W _).size))
    | (go_at_call 196; ((with_reducible refine (zH9 (a:=u1) (b:=u2) (hz1.below hb2).zis hz2.zis HL.out.2).mono ?_); rintro e w3 ⟨⟨u3,rfl,hz3⟩,hb3⟩; replace hz3:=hz3.lower (Sees.kept (by assumption):Kept w _ W _).size))
    | (go_at_call 198; ((with_reducible refine (zIc (a:=u1) (b:=u2) (hz1.below hb2).zis hz2.zis HL.out.2).mono ?_); rintro e w3 ⟨⟨u3,rfl,hz3⟩,hb3⟩; replace hz3:=hz3.lower (Sees.kept (by assumption):Kept w _ W _).size))
    | (go_at_call 111; ((with_reducible refine (zAO (a:=b) (b:=d) (hb'.keptOld (Sees.kept (by assumption))) (hd'.keptOld (Sees.kept (by assumption))) HL.out.1).mono ?_); rintro e w4 ⟨⟨u4,rfl,hz4⟩,hb4⟩; replace hz4:=hz4.lower (Sees.kept (by assumption):Kept w _ W _).size))
    | (go_at_call 111; ((with_reducible refine (zAO (a:=a) (b:=c) (ha'.keptOld (Sees.kept (by assumption))) (hc'.keptOld (Sees.kept (by assumption))) HL.out.1).mono ?_); rintro e w1 ⟨⟨u1,rfl,hz1⟩,hb1⟩; replace hz1:=hz1.lower (Sees.kept (by assumption):Kept w _ W _).size))
    | (go_at_call 111; ((with_reducible refine (zAO (a:=b) (b:=c) (hb'.keptOld (Sees.kept (by assumption))) (hc'.keptOld (Sees.kept (by assumption))) HL.out.1).mono ?_); rintro e w4 ⟨⟨u4,rfl,hz4⟩,hb4⟩; replace hz4:=hz4.lower (Sees.kept (by assumption):Kept w _ W _).size))
    | fail)
  rename_i hS;obtain ⟨v0,v1,v2,v3⟩:=hS.kept.val22 (by simp) (by simp) (by omega) (by rw [bN.1]; rfl) (by rw [bN.2.1]; rfl) (by rw [bE.1]; rfl) (by rw [bE.2.1]; rfl);have hbf:=hbW.trans hS.kept.below;clear hS;go_wp2
  first
  | (have hz3:=hz3.below hb4; refine bodyPost_ret (v:=.tuple #[u3.val,u4.val]) (by simp [results,Tryz.results195,Tryz.results197,go_sem,v0,v1,v2,v3]) rfl ⟨⟨u3,u4,rfl,⟨zQq hz3.1 s4 s5 hBW,nlt hz3.2 (by omega)⟩,⟨zQq hz4.1 s4 s5 hBW,nlt hz4.2 (by omega)⟩⟩,hbf⟩)
  | (have hz1:=hz1.below hb4; refine bodyPost_ret (v:=.tuple #[u1.val,u4.val]) (by simp [results,Tryz.results199,Tryz.results200,go_sem,v0,v1,v2,v3]) rfl ⟨⟨u1,u4,rfl,⟨zQq hz1.1 s4 s5 hBW,nlt hz1.2 (by omega)⟩,⟨zQq hz4.1 s4 s5 hBW,nlt hz4.2 (by omega)⟩⟩,hbf⟩)
section
variable {w w':World} {L B:Nat} {z:ZV} {x:Int} {gs:List Nat} {v:QV} {q:Rat}
theorem ZIs.keptOff (h:ZIs w (Off gs) L z x) (k:Kept B gs w w'):ZIs w' (Off gs) L z x:=by
 obtain ⟨l,h1,h2,h3⟩:=h; exact ⟨l,h1.kept k fun g hg hx=>hx hg,h2,h3⟩
theorem QCan.set4 {x0 x1 x2 x3:Value} (h:QCan w (New B) v q) (hb:b<B):QCan ((((w.setCell b x0).setCell ⟨b,1,none⟩ x1).setCell ⟨b,2,none⟩ x2).setCell ⟨b,3,none⟩ x3) (New B) v q:=
 (((h.set (p:=b) hb _).set (p:=⟨b,1,none⟩) hb _).set (p:=⟨b,2,none⟩) hb _).set (p:=⟨b,3,none⟩) hb _
theorem zAl {a:World} {x0 x1 x2 x3:Value} (h:Below B a w) (hb:B<=b):Below B a ((((w.setCell b x0).setCell ⟨b,1,none⟩ x1).setCell ⟨b,2,none⟩ x2).setCell ⟨b,3,none⟩ x3):=
 (((h.setCell (p:=b) hb _).setCell (p:=⟨b,1,none⟩) hb _).setCell (p:=⟨b,2,none⟩) hb _).setCell (p:=⟨b,3,none⟩) hb _
theorem ZIs.offMix (h:ZIs w (Mix X B) L z x) (hX:∀ g ∈ gs,X g->False) (hg:∀ g ∈ gs,g<B):ZIs w (Off gs) L z x:=
 h.imp fun b _ hx hm=>by
  rcases hx with hx | hx
  ·exact hX b hm hx.1
  ·have:=hg b hm; omega
end
theorem zIt (hx:0<x) (hy:0<y):x*y ≠ 0:=Int.mul_ne_zero (by omega) (by omega)
theorem zA3 (hy:0<y):(y:Rat) ≠ 0:=by
 have:y ≠ 0:=by omega
 exact_mod_cast this
theorem zIv (hq:q ≠ 0) (h:q=(x:Rat) / (y:Rat)):x ≠ 0:=by
 rintro rfl; apply hq; rw [h]; show (0:Rat) / _=0; grind
theorem calcG {a b:QV} {r:Rat} (s:Int) (i fk:Nat) (num den:Int->Int->Int->Int->Int) (hff:Instr.findNow (.int .u8) (.int .u8 s) opsMap.toList 0=some (some (i,.agg #[.func (.func fk) #[] #[]])))
  (hop:∀ {w:World} {X:Nat->Prop} {a b c d:ZV} {x1 y1 x2 y2:Int},ZIs w X (L+1) a x1->ZIs w X (L+1) b y1->ZIs w X (L+1) c x2->ZIs w X (L+1) d y2->L+1<=LM+1->Calls Tryz.prog fk #[a.val,b.val,c.val,d.val] w fun e w'=>ZZRet w (L+1+(L+1)+1) (num x1 y1 x2 y2) (den x1 y1 x2 y2) e w'/\Below w w w')
  (hk:(s=43/\fk=195)\/(s=45/\fk=197)\/(s=42/\fk=199)\/s=47/\fk=200)
  (hr:∀ x1 y1 x2 y2:Int,0<y1->0<y2->p=(x1:Rat) / (y1:Rat)->q=(x2:Rat) / (y2:Rat)->den x1 y1 x2 y2 ≠ 0/\r=((num x1 y1 x2 y2:Int):Rat) / ((den x1 y1 x2 y2:Int):Rat)) (ha:QIs w X L a p) (hb:QIs w X L b q) (hL:L<=LM) :
  Calls Tryz.prog 100 #[.int .u8 s,a.val,b.val] w fun e w'=>QRet w r e w'/\Below w w w':=by
 rcases hk with ⟨rfl,rfl⟩ | ⟨rfl,rfl⟩ | ⟨rfl,rfl⟩ | ⟨rfl,rfl⟩
 all_goals
  have HL:=hdq hL;clear hL;have hfield:∀ (fk:Nat) w,(Instr.field 195 (.agg #[.func (.func fk) #[] #[]]) 0).run Tryz.prog w = .ok (.func (.func fk) #[] #[]) w:=fun _ _=>by kernel_rfl
  have Hff:=hdq hff;have Hr:=hdq hr;clear hff hr;go_enter Tryz.func100,Tryz.ntmps100
  go_wp2_with fail
  refine zAg (fun W=>Below w w W/\Box4 W w (.bool a.num.ng) (.slice a.num.A a.num.n a.num.c) (.bool a.den.ng) (.slice a.den.A a.den.n a.den.c)/\Box4 W (w+1) (.bool b.num.ng) (.slice b.num.A b.num.n b.num.c) (.bool b.den.ng) (.slice b.den.A b.den.n b.den.c)/\Box4 W (w+1+1) (.bool false) (.slice none 0 0) (.bool false) (.slice none 0 0)/\w.heap.size<W.heap.size/\w.heap.size+1<W.heap.size/\w.heap.size+1+1<W.heap.size) ⟨(az (az (az (brf _ _)))),bx4,bx4,bx4,by simp <;> omega,by simp <;> omega,by simp <;> omega⟩ ?_;rintro W ⟨hbW,bA,bB,bR,s0,s1,s2⟩;have hBW:=hbW.size;have ne02:¬ (w.heap.size=w.heap.size+1+1):=by omega
  refine (zAJ (ha.old.below hbW) HL.out).mono ?_; rintro e w1 ⟨⟨z1,z2,x1,y1,rfl,k1,k2,hy1,hp⟩,hb1⟩
  replace k1:=k1.offMix (gs:=[w.heap.size+1+1]) (by simp [Old]; omega) (by simpa using s2);replace k2:=k2.offMix (gs:=[w.heap.size+1+1]) (by simp [Old]; omega) (by simpa using s2);have Hp:=hdq hp;have Hy1:=hdq hy1;clear hp hy1;obtain ⟨hc,hf⟩:=bcell hb1;have t0:=ltl s0 hb1.size;have t1:=ltl s1 hb1.size;have t2:=ltl s2 hb1.size;go_wp2_with fail
  have al:Below w1 w1 ((w1.alloc (.cells #[.bool z1.ng,.slice z1.A z1.n z1.c] 78)).alloc (.cells #[.bool z2.ng,.slice z2.A z2.n z2.c] 78)):=(bal).alloc (by simp) _;have h12:=hb1.trans (al.mono hb1.size)
  refine zAg (fun W'=>Below w w W'/\Box4 W' (w+1+1) (.bool false) (.slice none 0 0) (.bool false) (.slice none 0 0)/\Box2 W' w1 (.bool z1.ng) (.slice z1.A z1.n z1.c)/\Box2 W' (w1+1) (.bool z2.ng) (.slice z2.A z2.n z2.c)/\w1.heap.size+1<W'.heap.size/\ZIs W' (Off [w.heap.size+1+1]) (L+1) z1 x1/\ZIs W' (Off [w.heap.size+1+1]) (L+1) z2 y1)
   ⟨hbW.trans (h12.mono hBW),bR.below h12 s2,bx2,bx2,by simp,k1.below al,k2.below al⟩ ?_
  clear k1 k2 hc hf hb1 al h12 hbW hBW bA bB bR s0 s1 s2;rintro W ⟨hbW,bR,b1,b2,sG,k1,k2⟩;have hBW:=hbW.size;refine (zAJ (hb.old.below hbW) HL.out).mono ?_; rintro e w2 ⟨⟨z3,z4,x2,y2,rfl,k3,k4,hy2,hq⟩,hb2⟩
  replace k3:=k3.offMix (gs:=[w.heap.size+1+1]) (by simp [Old]; omega) (by simp; omega);replace k4:=k4.offMix (gs:=[w.heap.size+1+1]) (by simp [Old]; omega) (by simp; omega);have Hq:=hdq hq;have Hy2:=hdq hy2;clear hq hy2;obtain ⟨hc,hf⟩:=bcell hb2;have u0:w1.heap.size+1<w2.heap.size:=ltl sG hb2.size;go_wp2;have al:Below w2 w2 ((w2.alloc (.cells #[.bool z3.ng,.slice z3.A z3.n z3.c] 78)).alloc (.cells #[.bool z4.ng,.slice z4.A z4.n z4.c] 78)):=(bal).alloc (by simp) _;have h12:=hb2.trans (al.mono hb2.size)
  refine zAo (fun W'=>Below w w W'/\Box4 W' (w+1+1) (.bool false) (.slice none 0 0) (.bool false) (.slice none 0 0)/\Box2 W' w1 (.bool z1.ng) (.slice z1.A z1.n z1.c)/\Box2 W' (w1+1) (.bool z2.ng) (.slice z2.A z2.n z2.c)/\Box2 W' w2 (.bool z3.ng) (.slice z3.A z3.n z3.c)/\Box2 W' (w2+1) (.bool z4.ng) (.slice z4.A z4.n z4.c)/\w2.heap.size+1<W'.heap.size/\ZIs W' (Off [w.heap.size+1+1]) (L+1) z1 x1/\ZIs W' (Off [w.heap.size+1+1]) (L+1) z2 y1/\ZIs W' (Off [w.heap.size+1+1]) (L+1) z3 x2/\ZIs W' (Off [w.heap.size+1+1]) (L+1) z4 y2)
   ⟨hbW.trans (h12.mono hBW),bR.below h12 (by omega),b1.below h12 (by omega),b2.below h12 (by omega),bx2,bx2,by simp,(k1.below hb2).below al,(k2.below hb2).below al,k3.below al,k4.below al⟩ ?_
  clear k1 k2 k3 k4 hc hf hb2 al h12 hbW hBW bR b1 b2 sG;rintro W ⟨hbW,bR,b1,b2,b3,b4,sG,k1,k2,k3,k4⟩;have hBW:=hbW.size;have g1:w1.heap.size<W.heap.size:=by omega
  have g2:w1.heap.size+1<W.heap.size:=by omega
  have g3:w2.heap.size<W.heap.size:=by omega
  have s2:w.heap.size+1+1<W.heap.size:=by omega
  have n1:¬ (w1.heap.size=w.heap.size+1+1):=by omega
  have n2:¬ (w1.heap.size+1=w.heap.size+1+1):=by omega
  have n3:¬ (w2.heap.size=w.heap.size+1+1):=by omega
  have n4:¬ (w2.heap.size+1=w.heap.size+1+1):=by omega
  have n2':¬ (w1.heap.size=w.heap.size+1):=by omega
  have n4':¬ (w2.heap.size=w.heap.size+1):=by omega
  have Hne:=hdq (Hr.out x1 y1 x2 y2 Hy1.out Hy2.out Hp.out Hq.out)
  go_region_held3 (Sees w [w.heap.size+1+1] W) (exact kp)
   (first
    | (go_at_call 151; ((with_reducible refine (zBf _).mono ?_); rintro e w5 ⟨rfl,hm,hb5⟩; have hlk:(Instr.lookup 196 (.map (some W.heap.size)) (.int .u8 _) false).run Tryz.prog w5 = .ok _ w5:=zCa (P:=Tryz.prog) (k:=.u8) Tryz.underlying196 Tryz.underlying5 hm Hff.out; clear hm))
    | (go_at_call 104; ((with_reducible refine (zBz (q:=r) hu.zis hv.zis Hne.out.1 Hne.out.2 (by have:=HL.out; rw [zAZ] at this; omega)).mono ?_); rintro e w7 ⟨⟨z,rfl,hz⟩,hb7⟩))
    | ((with_reducible refine (hop (k1.keptOff (Sees.kept (by assumption))) (k2.keptOff (Sees.kept (by assumption))) (k3.keptOff (Sees.kept (by assumption))) (k4.keptOff (Sees.kept (by assumption))) (by have:=HL.out; omega)).mono ?_); rintro e w6 ⟨⟨u,v,rfl,hu,hv⟩,hb6⟩)
    | fail)
  rename_i hS;obtain ⟨v0,v1,v2,v3⟩:=hS.kept.val4 (by simp) (by rw [bR.1]; rfl) (by rw [bR.2.1]; rfl) (by rw [bR.2.2.1]; rfl) (by rw [bR.2.2.2.1]; rfl);have hbf:=hbW.trans hS.kept.below;clear hS;have hs5:=hb5.size;simp only [World.size_drew] at hs5;have hs6:=hb6.size;go_wp2;exact bodyPost_ret (v:=z.val) (by simp [results,Tryz.results100,go_sem,v0,v1,v2,v3]) rfl ⟨⟨z,rfl,(hz.set4 (by omega)).lower (by omega)⟩,hbf⟩
theorem zGj {a b:QV} (ha:QIs w X L a p) (hb:QIs w X L b q) (hL:L<=LM) :
  Calls Tryz.prog 100 #[.int .u8 43,a.val,b.val] w fun e w'=>QRet w (p+q) e w'/\Below w w w':=
 calcG 43 0 _ (fun x1 y1 x2 y2=>x1*y2+x2*y1) (fun _ y1 _ y2=>y1*y2) rfl (zQn (.inl ⟨rfl,rfl,rfl⟩)) (.inl ⟨rfl,rfl⟩) (fun x1 y1 x2 y2 g1 g2 e1 e2=>⟨zIt g1 g2,by have h1:=zA3 g1; have h2:=zA3 g2; rw [e1,e2]; push_cast; grind⟩) ha hb hL
theorem zGk {a b:QV} (ha:QIs w X L a p) (hb:QIs w X L b q) (hL:L<=LM) :
  Calls Tryz.prog 100 #[.int .u8 45,a.val,b.val] w fun e w'=>QRet w (p-q) e w'/\Below w w w':=
 calcG 45 1 _ (fun x1 y1 x2 y2=>x1*y2-x2*y1) (fun _ y1 _ y2=>y1*y2) rfl (zQn (.inr (.inl ⟨rfl,rfl,rfl⟩))) (.inr (.inl ⟨rfl,rfl⟩)) (fun x1 y1 x2 y2 g1 g2 e1 e2=>⟨zIt g1 g2,by have h1:=zA3 g1; have h2:=zA3 g2; rw [e1,e2]; push_cast; grind⟩) ha hb hL
theorem zGl {a b:QV} (ha:QIs w X L a p) (hb:QIs w X L b q) (hL:L<=LM) :
  Calls Tryz.prog 100 #[.int .u8 42,a.val,b.val] w fun e w'=>QRet w (p*q) e w'/\Below w w w':=
 calcG 42 2 _ (fun x1 _ x2 _=>x1*x2) (fun _ y1 _ y2=>y1*y2) rfl (zQn (.inr (.inr (.inl ⟨rfl,rfl,rfl⟩)))) (.inr (.inr (.inl ⟨rfl,rfl⟩))) (fun x1 y1 x2 y2 g1 g2 e1 e2=>⟨zIt g1 g2,by have h1:=zA3 g1; have h2:=zA3 g2; rw [e1,e2]; push_cast; grind⟩) ha hb hL
theorem zGm {a b:QV} (ha:QIs w X L a p) (hb:QIs w X L b q) (hL:L<=LM) (hq0:q ≠ 0) :
  Calls Tryz.prog 100 #[.int .u8 47,a.val,b.val] w fun e w'=>QRet w (p / q) e w'/\Below w w w':=
 calcG 47 3 _ (fun x1 _ _ y2=>x1*y2) (fun _ y1 x2 _=>y1*x2) rfl (zQn (.inr (.inr (.inr ⟨rfl,rfl,rfl⟩)))) (.inr (.inr (.inr ⟨rfl,rfl⟩))) (fun x1 y1 x2 y2 g1 g2 e1 e2=>⟨Int.mul_ne_zero (by omega) (zIv hq0 e2),by have h1:=zA3 g1; have h2:=zA3 g2; have h3:=zIv hq0 e2; have h4:(x2:Rat) ≠ 0:=(fun e=>h3 (by exact_mod_cast e)); rw [e1,e2]; push_cast; grind⟩) ha hb hL
theorem zAT {a:QV} (ha:QIs w X L a p) (hL:L<=LM) :
  Calls Tryz.prog 58 #[a.val] w fun e w'=>QRet w p e w'/\Below w w w':=by
 have HL:=hdq hL;clear hL;go_enter Tryz.func58,Tryz.ntmps58
 go_wp2_with fail
 refine zAg (fun W=>Below w w W/\Box4 W w (.bool a.num.ng) (.slice a.num.A a.num.n a.num.c) (.bool a.den.ng) (.slice a.den.A a.den.n a.den.c)/\Box4 W (w+1) (.bool false) (.slice none 0 0) (.bool false) (.slice none 0 0)/\w.heap.size<W.heap.size/\w.heap.size+1<W.heap.size) ⟨(az (az (brf _ _))),bx4,bx4,by simp <;> omega,by simp <;> omega⟩ ?_;rintro W ⟨hbW,bA,bR,s0,s1⟩;have hBW:=hbW.size;have ha':=ha.below hbW;refine (zAX ha').mono ?_; rintro e w1 ⟨⟨x,y,is,rfl,hs⟩,hb1⟩
 obtain ⟨hc,hf⟩:=bcell hb1;cases is
 ·clear hs;go_wp2_with fail
  refine (zAJ (ha'.below hb1) HL.out).mono ?_; rintro e w2 ⟨⟨z1,z2,x1,y1,rfl,k1,k2,hy1,hp⟩,hb2⟩
  have h12:=hb1.trans (hb2.mono hb1.size);clear hc hf;obtain ⟨hc,hf⟩:=bcell h12;go_wp2_with fail
  refine (zBz k1 k2 (by omega) hp (by have:=HL.out; rw [zAZ] at this; omega)).mono ?_; rintro e w3 ⟨⟨z,rfl,hz⟩,hb3⟩
  have h13:=h12.trans (hb3.mono h12.size);clear hc hf;obtain ⟨hc,hf⟩:=bcell h13;have hs2:=h12.size;go_wp2;obtain ⟨v0,v1,v2,v3,-⟩:=(bR.below h13 s1).stored (.bool z.num.ng) (.slice z.num.A z.num.n z.num.c) (.bool z.den.ng) (.slice z.den.A z.den.n z.den.c);exact bodyPost_ret (v:=z.val) (by simp [results,Tryz.results58,go_sem,v0,v1,v2,v3]) rfl ⟨⟨z,rfl,(hz.set4 (by omega)).lower (by omega)⟩,zAl (hbW.trans (h13.mono hBW)) (by omega)⟩
 ·obtain ⟨h1,h2,h3,h4,h5⟩:=hs rfl;clear hs;have H5:=hdq h5;clear h5;go_wp2_with fail
  refine (zBr (by omega) (by omega) h1 (by omega) H5.out _).mono ?_; rintro e w3 ⟨⟨z,rfl,hz⟩,hb3⟩
  have h13:=hb1.trans (hb3.mono hb1.size);clear hc hf;obtain ⟨hc,hf⟩:=bcell h13;have hs2:=hb1.size;go_wp2;obtain ⟨v0,v1,v2,v3,-⟩:=(bR.below h13 s1).stored (.bool z.num.ng) (.slice z.num.A z.num.n z.num.c) (.bool z.den.ng) (.slice z.den.A z.den.n z.den.c);exact bodyPost_ret (v:=z.val) (by simp [results,Tryz.results58,go_sem,v0,v1,v2,v3]) rfl ⟨⟨z,rfl,(hz.set4 (by omega)).lower (by omega)⟩,zAl (hbW.trans (h13.mono hBW)) (by omega)⟩
theorem zAt {a b:Int} (h1:-2147483648<a) (h2:a<2147483648) (h3:-2147483648<b) (h4:b<2147483648):-4611686018427387904<a*b/\a*b<4611686018427387904:=by
 have e:(a*b).natAbs<=2147483647*2147483647:=by rw [Int.natAbs_mul]; exact Nat.mul_le_mul (by omega) (by omega)
 omega
theorem zAM (a b:Int) (h1:-4611686018427387904<a*b) (h2:a*b<4611686018427387904):∃ P,Hid (a*b=P)/\wrap64 (a*b)=P/\IntKind.i64.wrap (a*b)=P/\-4611686018427387904<P/\P<4611686018427387904:=
 ⟨a*b,rfl,by unfold wrap64; omega,IntWalk.i64_in _ (by omega),h1,h2⟩
theorem zQo {a b:QV} {r:Rat} (hk:(k=60/\r=p+q)\/(k=66/\r=p-q)\/k=50/\r=p*q) (ha:QIs w X L a p) (hb:QIs w Y M b q) (hL:L<=LM) (hM:M<=LM) :
  Calls Tryz.prog k #[a.val,b.val] w fun e w'=>QRet w r e w'/\Below w w w':=by
 have HLM:Hid (max L M<=LM):=hdq (Nat.max_le.2 ⟨hL,hM⟩);clear hL hM;rcases hk with ⟨rfl,rfl⟩ | ⟨rfl,rfl⟩ | ⟨rfl,rfl⟩
 all_goals
  first | go_enter Tryz.func60,Tryz.ntmps60 | go_enter Tryz.func66,Tryz.ntmps66 | go_enter Tryz.func50,Tryz.ntmps50
  go_wp2_with fail
  refine zAg (fun W=>Below w w W/\Box4 W w (.bool a.num.ng) (.slice a.num.A a.num.n a.num.c) (.bool a.den.ng) (.slice a.den.A a.den.n a.den.c)/\Box4 W (w+1) (.bool b.num.ng) (.slice b.num.A b.num.n b.num.c) (.bool b.den.ng) (.slice b.den.A b.den.n b.den.c)/\Box4 W (w+1+1) (.bool false) (.slice none 0 0) (.bool false) (.slice none 0 0)/\w.heap.size<W.heap.size/\w.heap.size+1<W.heap.size/\w.heap.size+1+1<W.heap.size) ⟨(az (az (az (brf _ _)))),bx4,bx4,bx4,by simp <;> omega,by simp <;> omega,by simp <;> omega⟩ ?_;rintro W ⟨hbW,bA,bB,bR,s0,s1,s2⟩;have hBW:=hbW.size;have ne02:¬ (w.heap.size=w.heap.size+1+1):=by omega
  have ha':=(ha.below hbW).any.mono (Nat.le_max_left L M);have hb':=(hb.below hbW).any.mono (Nat.le_max_right L M);refine (zAX ha').mono ?_; rintro e w1 ⟨⟨x1,y1,i1,rfl,hs1⟩,hb1⟩
  obtain ⟨hc,hf⟩:=bcell hb1;go_wp2_with fail
  refine (zAX (hb'.below hb1)).mono ?_; rintro e w2 ⟨⟨x2,y2,i2,rfl,hs2⟩,hb2⟩
  have h12:=hb1.trans (hb2.mono hb1.size);clear hc hf;obtain ⟨hc,hf⟩:=bcell h12;have hsz:=h12.size;have ha2:=ha'.below h12;have hb2':=hb'.below h12;by_cases hi:i1=true/\i2=true
  ·obtain ⟨rfl,rfl⟩:=hi;obtain ⟨a1,a2,a3,a4,a5⟩:=hs1 rfl;obtain ⟨c1,c2,c3,c4,c5⟩:=hs2 rfl;clear hs1 hs2;obtain ⟨P1,E1,F1,G1,d1,d2⟩:=zAM x1 y2 (zAt a3 a4 (by omega) c2).1 (zAt a3 a4 (by omega) c2).2;obtain ⟨P2,E2,F2,G2,d3,d4⟩:=zAM x2 y1 (zAt c3 c4 (by omega) a2).1 (zAt c3 c4 (by omega) a2).2;obtain ⟨P4,E4,F4,G4,d7,d8⟩:=zAM x1 x2 (zAt a3 a4 c3 c4).1 (zAt a3 a4 c3 c4).2;obtain ⟨P3,E3,F3,G3,-,d6⟩:=zAM y1 y2 (zAt (by omega) a2 (by omega) c2).1 (zAt (by omega) a2 (by omega) c2).2;have d5:0<P3:=by rw [<-E3.out]; exact Int.mul_pos a1 c1
   have Heq:Hid (p+q=((P1+P2:Int):Rat) / ((P3:Int):Rat)/\p-q=((P1-P2:Int):Rat) / ((P3:Int):Rat)/\p*q=((P4:Int):Rat) / ((P3:Int):Rat)):=by
    have h1:=zA3 a1;have h2:=zA3 c1;show _/\_/\_;rw [<-E1.out,<-E2.out,<-E3.out,<-E4.out,a5,c5]; push_cast
    refine ⟨?_,?_,?_⟩ <;> grind
   clear a5 c5;(go_wp2_with fail);refine (zBr (by omega) (by omega) (by omega) (by omega) (by first | exact Heq.out.1 | exact Heq.out.2.1 | exact Heq.out.2.2) _).mono ?_; rintro e w3 ⟨⟨z,rfl,hz⟩,hb3⟩
   have h13:=h12.trans (hb3.mono h12.size);clear hc hf;obtain ⟨hc,hf⟩:=bcell h13;go_wp2;obtain ⟨v0,v1,v2,v3,-⟩:=(bR.below h13 s2).stored (.bool z.num.ng) (.slice z.num.A z.num.n z.num.c) (.bool z.den.ng) (.slice z.den.A z.den.n z.den.c);exact bodyPost_ret (v:=z.val) (by first | simp [results,Tryz.results60,go_sem,v0,v1,v2,v3] | simp [results,Tryz.results66,go_sem,v0,v1,v2,v3] | simp [results,Tryz.results50,go_sem,v0,v1,v2,v3]) rfl ⟨⟨z,rfl,(hz.set4 (by omega)).lower (by omega)⟩,zAl (hbW.trans (h13.mono hBW)) (by omega)⟩
  ·have hi2:(i1=false)\/(i1=true/\i2=false):=by cases i1 <;> cases i2 <;> simp_all
   clear hi hs1 hs2;rcases hi2 with rfl | ⟨rfl,rfl⟩
   all_goals
    go_wp2_with fail
    first
    | with_reducible refine (zGj ha2 hb2' HLM.out).mono ?_
    | with_reducible refine (zGk ha2 hb2' HLM.out).mono ?_
    | with_reducible refine (zGl ha2 hb2' HLM.out).mono ?_
    rintro e w3 ⟨⟨z,rfl,hz⟩,hb3⟩;have h13:=h12.trans (hb3.mono h12.size);clear hc hf;obtain ⟨hc,hf⟩:=bcell h13;go_wp2;obtain ⟨v0,v1,v2,v3,-⟩:=(bR.below h13 s2).stored (.bool z.num.ng) (.slice z.num.A z.num.n z.num.c) (.bool z.den.ng) (.slice z.den.A z.den.n z.den.c);exact bodyPost_ret (v:=z.val) (by first | simp [results,Tryz.results60,go_sem,v0,v1,v2,v3] | simp [results,Tryz.results66,go_sem,v0,v1,v2,v3] | simp [results,Tryz.results50,go_sem,v0,v1,v2,v3]) rfl ⟨⟨z,rfl,(hz.set4 (by omega)).lower (by omega)⟩,zAl (hbW.trans (h13.mono hBW)) (by omega)⟩
theorem zCD {a b:QV} (ha:QIs w X L a p) (hb:QIs w Y M b q) (hL:L<=LM) (hM:M<=LM) :
  Calls Tryz.prog 60 #[a.val,b.val] w fun e w'=>QRet w (p+q) e w'/\Below w w w':=zQo (.inl ⟨rfl,rfl⟩) ha hb hL hM
theorem zDx {a b:QV} (ha:QIs w X L a p) (hb:QIs w Y M b q) (hL:L<=LM) (hM:M<=LM) :
  Calls Tryz.prog 66 #[a.val,b.val] w fun e w'=>QRet w (p-q) e w'/\Below w w w':=zQo (.inr (.inl ⟨rfl,rfl⟩)) ha hb hL hM
theorem zBb {a b:QV} (ha:QIs w X L a p) (hb:QIs w Y M b q) (hL:L<=LM) (hM:M<=LM) :
  Calls Tryz.prog 50 #[a.val,b.val] w fun e w'=>QRet w (p*q) e w'/\Below w w w':=zQo (.inr (.inr ⟨rfl,rfl⟩)) ha hb hL hM
def QERet (w:World) (q:Rat) (e:Ending) (w':World):Prop:=∃ v:QV,e = .returned (.tuple #[v.val,.int .i64 0])/\QCan w' (New w) v q
theorem zDd (h:q ≠ 0):(qsign q == 0)=false:=by
 unfold qsign;by_cases h1:q<0
 ·simp [h1]
 ·simp [h1,h]
theorem zEY {a b:QV} (ha:QIs w X L a p) (hb:QIs w Y M b q) (hL:L<=LM) (hM:M<=LM) (hq0:q ≠ 0) :
  Calls Tryz.prog 92 #[a.val,b.val] w fun e w'=>QERet w (p / q) e w'/\Below w w w':=by
 have HL:=hdq hL;have HM:=hdq hM;have HQ:=hdq hq0;have hqs:=zDd hq0;clear hL hM hq0;go_enter Tryz.func92,Tryz.ntmps92
 go_wp2_with fail
 refine zAg (fun W=>Below w w W/\Box4 W w (.bool a.num.ng) (.slice a.num.A a.num.n a.num.c) (.bool a.den.ng) (.slice a.den.A a.den.n a.den.c)/\Box4 W (w+1) (.bool b.num.ng) (.slice b.num.A b.num.n b.num.c) (.bool b.den.ng) (.slice b.den.A b.den.n b.den.c)/\Box4 W (w+1+1) (.bool false) (.slice none 0 0) (.bool false) (.slice none 0 0)/\w.heap.size<W.heap.size/\w.heap.size+1<W.heap.size/\w.heap.size+1+1<W.heap.size) ⟨(az (az (az (brf _ _)))),bx4,bx4,bx4,by simp <;> omega,by simp <;> omega,by simp <;> omega⟩ ?_;rintro W ⟨hbW,bA,bB,bR,s0,s1,s2⟩;have hBW:=hbW.size;have ne02:¬ (w.heap.size=w.heap.size+1+1):=by omega
 have ha':=(ha.below hbW).any.mono (Nat.le_max_left L M);have hb':=(hb.below hbW).any.mono (Nat.le_max_right L M);refine (zAn hb').mono ?_; rintro e w0 ⟨rfl,hb0⟩
 obtain ⟨hc,hf⟩:=bcell hb0;go_wp2_with fail
 refine (zAX (ha'.below hb0)).mono ?_; rintro e w1 ⟨⟨x1,y1,i1,rfl,hs1⟩,hb1'⟩
 have hb1:=hb0.trans (hb1'.mono hb0.size);clear hc hf;obtain ⟨hc,hf⟩:=bcell hb1;go_wp2_with fail
 refine (zAX (hb'.below hb1)).mono ?_; rintro e w2 ⟨⟨x2,y2,i2,rfl,hs2⟩,hb2⟩
 have h12:=hb1.trans (hb2.mono hb1.size);clear hc hf;obtain ⟨hc,hf⟩:=bcell h12;have hsz:=h12.size;have ha2:=ha'.below h12;have hb2':=hb'.below h12;by_cases hi:i1=true/\i2=true
 focus
  obtain ⟨rfl,rfl⟩:=hi;obtain ⟨a1,a2,a3,a4,a5⟩:=hs1 rfl;obtain ⟨c1,c2,c3,c4,c5⟩:=hs2 rfl;clear hs1 hs2;have hx2:=zIv HQ.out c5;have A5:=hdq a5;have C5:=hdq c5;clear a5 c5;by_cases hneg:x2<0
  focus
   obtain ⟨P1,E1,F1,G1,d1,d2⟩:=zAM (-x1) y2 (zAt (by omega) (by omega) (by omega) c2).1 (zAt (by omega) (by omega) (by omega) c2).2;obtain ⟨P3,E3,F3,G3,-,d6⟩:=zAM y1 (-x2) (zAt (by omega) a2 (by omega) (by omega)).1 (zAt (by omega) a2 (by omega) (by omega)).2
  rotate_left
  focus
   obtain ⟨P1,E1,F1,G1,d1,d2⟩:=zAM x1 y2 (zAt a3 a4 (by omega) c2).1 (zAt a3 a4 (by omega) c2).2;obtain ⟨P3,E3,F3,G3,-,d6⟩:=zAM y1 x2 (zAt (by omega) a2 (by omega) c4).1 (zAt (by omega) a2 (by omega) c4).2
  all_goals
   have d5:0<P3:=by rw [<-E3.out]; exact Int.mul_pos a1 (by omega)
   have Heq:Hid (p / q=((P1:Int):Rat) / ((P3:Int):Rat)):=by
    have h1:=zA3 a1;have h2:=zA3 c1;have h3:(x2:Rat) ≠ 0:=(fun e=>hx2 (by exact_mod_cast e));show p / q=_;rw [<-E1.out,<-E3.out,A5.out,C5.out]; push_cast; grind
   (go_wp2_with fail);refine (zBr (q:=p / q) (by omega) (by omega) (by omega) (by omega) Heq.out _).mono ?_
 rotate_left 2
 focus
  have hi2:(i1=false)\/(i1=true/\i2=false):=by cases i1 <;> cases i2 <;> simp_all
  clear hi hs1 hs2;rcases hi2 with rfl | ⟨rfl,rfl⟩
  all_goals
   (go_wp2_with fail);refine (zGm ha2 hb2' (by have:=HL.out; have:=HM.out; omega) HQ.out).mono ?_
 all_goals
  rintro e w3 ⟨⟨z,rfl,hz⟩,hb3⟩;have h13:=h12.trans (hb3.mono h12.size);clear hc hf;obtain ⟨hc,hf⟩:=bcell h13;go_wp2;obtain ⟨v0,v1,v2,v3,-⟩:=(bR.below h13 s2).stored (.bool z.num.ng) (.slice z.num.A z.num.n z.num.c) (.bool z.den.ng) (.slice z.den.A z.den.n z.den.c);exact bodyPost_ret (v:=.tuple #[z.val,.int .i64 0]) (by simp [results,Tryz.results92,go_sem,v0,v1,v2,v3]) rfl ⟨⟨z,rfl,(hz.set4 (by omega)).lower (by omega)⟩,zAl (hbW.trans (h13.mono hBW)) (by omega)⟩
theorem zDo (hy:0<y) (h:q=(x:Rat) / (y:Rat)):q.num.natAbs<=x.natAbs/\(q.den:Int)<=y:=by
 obtain ⟨m,hm,h1,h2⟩:=zEf hy h;have hm1:1<=m:=by omega
 constructor
 ·rw [h1,Int.natAbs_mul,Int.natAbs_natCast];exact Nat.le_mul_of_pos_right _ hm1
 ·rw [h2];have:q.den*1<=q.den*m:=Nat.mul_le_mul_left _ hm1;have e:((q.den*m:Nat):Int)=(q.den:Int)*(m:Int):=Int.natCast_mul _ _;omega
theorem QIs.fit {v:QV} (h:QIs w X L v q):QFit (L+1) q:=by
 obtain ⟨x,y,hx,hy,hq⟩:=h;have h1:=hx.lt;have h2:=hy.lt;have h3:Num.base ^ L<Num.base ^ (L+1):=Nat.pow_lt_pow_right (by decide) (by omega);have h4:1<Num.base ^ (L+1):=Nat.one_lt_pow (by omega) (by decide);rcases Int.lt_trichotomy y 0 with h0 | h0 | h0
 ·rw [zIN h0] at hq;obtain ⟨a,b⟩:=zDo (by omega) hq;exact ⟨by omega,by omega⟩
 ·subst h0;rw [zGE] at hq;obtain ⟨a,b⟩:=zDo (by omega) hq;exact ⟨by omega,by omega⟩
 ·rw [zIO h0] at hq;obtain ⟨a,b⟩:=zDo (by omega) hq;exact ⟨by omega,by omega⟩
theorem zI6 (q:Rat):cden (-q)=cden q:=rfl
theorem WordsAt.keptOff (h:WordsAt w (Off gs) A n c l) (k:Kept B gs w w'):WordsAt w' (Off gs) A n c l:=h.kept k fun _ hg hx=>hx hg
theorem zHK {a:QV} (ha:QIs w X L a p) (hL:L<=LM) :
  Calls Tryz.prog 96 #[a.val] w fun e w'=>QRet w (-p) e w'/\Below w w w':=by
 have HL:=hdq hL;clear hL;go_enter Tryz.func96,Tryz.ntmps96
 go_wp2_with fail
 refine zAg (fun W=>Below w w W/\Box4 W w (.bool a.num.ng) (.slice a.num.A a.num.n a.num.c) (.bool a.den.ng) (.slice a.den.A a.den.n a.den.c)/\Box4 W (w+1) (.bool false) (.slice none 0 0) (.bool false) (.slice none 0 0)/\w.heap.size<W.heap.size/\w.heap.size+1<W.heap.size) ⟨(az (az (brf _ _))),bx4,bx4,by simp <;> omega,by simp <;> omega⟩ ?_;rintro W ⟨hbW,bA,bR,s0,s1⟩;have hBW:=hbW.size;refine (zAT (ha.below hbW) HL.out).mono ?_; rintro e w1 ⟨⟨c,rfl,hq⟩,hb1⟩
 have hn1:Hid (c.num.n<=35184372088832):=by
  have h1:=hq.1.words.len;have h2:=Num.words_length_le (ha.fit.1);have:=HL.out; rw [zAZ] at this
  show _<=_;omega
 obtain ⟨hc,hf⟩:=bcell hb1;have t1:=ltl s1 hb1.size;go_wp2;have al:Below w1 w1 (w1.alloc (.cells #[.bool c.num.ng,.slice c.num.A c.num.n c.num.c,.bool c.den.ng,.slice c.den.A c.den.n c.den.c] 80)):=bal;have h12:=hb1.trans (al.mono hb1.size)
 refine zAo (fun W'=>Below w w W'/\Box4 W' (w+1) (.bool false) (.slice none 0 0) (.bool false) (.slice none 0 0)/\Box4 W' w1 (.bool c.num.ng) (.slice c.num.A c.num.n c.num.c) (.bool c.den.ng) (.slice c.den.A c.den.n c.den.c)/\w1.heap.size<W'.heap.size/\QCan W' (New W) c p)
  ⟨hbW.trans (h12.mono hBW),bR.below h12 s1,bx4,by simp,hq.below al⟩ ?_
 clear hc hf hb1 al h12 hbW hBW bA bR hq;obtain ⟨B,hB⟩:∃ B,B=W.heap.size:=⟨_,rfl⟩;rw [<-hB] at s0 s1 ⊢;clear hB;rintro W ⟨hbW,bR,bC,sG,hq⟩;have hBW:=hbW.size;have s2:w.heap.size+1<W.heap.size:=by omega
 have n1:¬ (w1.heap.size=w.heap.size+1):=by omega
 have hw:=hq.1.words.offNew (gs:=[w.heap.size+1]) (by simpa using s1)
 go_region_held3 (Sees w [w.heap.size+1] W) (exact kp)
  (first
   | (go_at_call 149; ((with_reducible refine (zB1 c.num.ng (hw.keptOff (Sees.kept (by assumption))) hn1.out).mono ?_); rintro e w3 ⟨⟨ng',A',n',c',rfl,hz⟩,hb3⟩)))
 rename_i hS;obtain ⟨v0,v1,v2,v3⟩:=hS.kept.val4 (by simp) (by rw [bR.1]; rfl) (by rw [bR.2.1]; rfl) (by rw [bR.2.2.1]; rfl) (by rw [bR.2.2.2.1]; rfl);have hbf:=hbW.trans hS.kept.below;have hd:=(hq.2.kept hS.kept (by simp [New]; omega)).lower (B':=w) (by omega);clear hS;have hs3:=hb3.size;simp only [World.size_drew] at hs3;go_wp2;refine bodyPost_ret (v:=.agg #[.bool ng',.slice A' n' c',.bool c.den.ng,.slice c.den.A c.den.n c.den.c]) (by simp [results,Tryz.results96,go_sem,v0,v1,v2,v3]) rfl ⟨⟨⟨⟨ng',A',n',c'⟩,c.den⟩,rfl,⟨?_,?_⟩⟩,hbf⟩
 ·rw [show (-p).num=- zval c.num.ng (Num.nat (Num.words p.num.natAbs)) by rw [hq.1.val]; rfl];exact ((((hz.set (p:=⟨w+1,0,none⟩) s2 _).set (p:=⟨w.heap.size+1,1,none⟩) s2 _).set (p:=⟨w.heap.size+1,2,none⟩) s2 _).set (p:=⟨w.heap.size+1,3,none⟩) s2 _).lower (by simpa using hBW)
 ·rw [zI6]; exact hd
def qcmp (p q:Rat):Int:=if p<q then -1 else if p=q then 0 else 1
def zsg (x:Int):Int:=if x<0 then -1 else if x=0 then 0 else 1
theorem ZIs.keptNil {z:ZV} (h:ZIs w X L z x) (k:Kept B [] w w'):ZIs w' X L z x:=h.below k.whole
theorem QIs.keptNil {v:QV} (h:QIs w X L v q) (k:Kept B [] w w'):QIs w' X L v q:=h.below k.whole
theorem zFc {a:ZV} (ha:ZIs w X L a x) :
  Calls Tryz.prog 107 #[a.val] w fun e w'=>e = .returned (.int .i64 (zsg x))/\Below w w w':=by
 obtain ⟨l,h1,h2,rfl⟩:=ha;refine (zAF a.ng h1).mono ?_;rintro e w' ⟨rfl,hb⟩;exact ⟨zAz (zCx _ _),hb⟩
theorem zIa {a b:ZV} (ha:ZIs w X L a x) (hb:ZIs w Y M b y) :
  Calls Tryz.prog 110 #[a.val,b.val] w fun e w'=>e = .returned (.int .i64 (cmpZ x y))/\Below w w w':=by
 obtain ⟨la,h1,h2,rfl⟩:=ha;obtain ⟨lb,h3,h4,rfl⟩:=hb;exact zH3 a.ng b.ng h1 h3
theorem cross {x1 y1 x2 y2:Int} (h1:0<y1) (h2:0<y2) (hp:p=(x1:Rat) / (y1:Rat)) (hq:q=(x2:Rat) / (y2:Rat)):(p<q ↔ x1*y2<x2*y1)/\(p=q ↔ x1*y2=x2*y1):=by
 have a1:(0:Rat)<(y1:Rat):=by exact_mod_cast h1
 have a2:(0:Rat)<(y2:Rat):=by exact_mod_cast h2
 have m:(0:Rat)<(y1:Rat)*(y2:Rat):=Rat.mul_pos a1 a2;have e1:(x1:Rat)*y2=p*((y1:Rat)*y2):=by rw [hp]; grind
 have e2:(x2:Rat)*y1=q*((y1:Rat)*y2):=by rw [hq]; grind
 have c1:(x1*y2<x2*y1) ↔ ((x1:Rat)*y2<(x2:Rat)*y1):=by
  constructor
  ·intro h; exact_mod_cast h
  ·intro h; exact_mod_cast h
 have c2:(x1*y2=x2*y1) ↔ ((x1:Rat)*y2=(x2:Rat)*y1):=by
  constructor
  ·intro h; exact_mod_cast h
  ·intro h; exact_mod_cast h
 rw [c1,c2,e1,e2];generalize (y1:Rat)*y2=t at *;constructor
 ·constructor
  ·intro h;have:=Rat.mul_pos (show 0<q-p by grind) m; grind
  ·intro h;rcases (by grind:p<q\/q<=p) with h3 | h3
   ·exact h3
   ·have:=Rat.mul_nonneg (show 0<=p-q by grind) (Rat.le_of_lt m); grind
 ·constructor
  ·intro h; rw [h]
  ·intro h;have:(p-q)*t=0:=(by grind);grind
theorem zHI {x1 y1 x2 y2:Int} (h1:0<y1) (h2:0<y2) (hp:p=(x1:Rat) / (y1:Rat)) (hq:q=(x2:Rat) / (y2:Rat)):qcmp p q=cmpZ (x1*y2) (x2*y1):=by
 obtain ⟨c1,c2⟩:=cross h1 h2 hp hq;unfold qcmp cmpZ;simp only [c1,c2]
 split <;> (try split) <;> (try split) <;> omega
theorem zG4 (hy:0<y):zsg (x*y)=zsg x:=by
 unfold zsg;rcases Int.lt_trichotomy x 0 with h | h | h
 ·rw [if_pos (Int.mul_neg_of_neg_of_pos h hy),if_pos h]
 ·subst h; simp
 ·have:=Int.mul_pos h hy;rw [if_neg (by omega),if_neg (by omega),if_neg (by omega),if_neg (by omega)]
theorem zIf {a b:Int} (h:zsg a ≠ zsg b\/zsg a=0):cmpZ a b=isign (zsg a-zsg b):=by
 unfold zsg at h ⊢;unfold cmpZ isign;rcases Int.lt_trichotomy a 0 with h1 | h1 | h1 <;> rcases Int.lt_trichotomy b 0 with h2 | h2 | h2 <;> (try subst h1) <;> (try subst h2) <;> simp_all <;> (try omega)
 all_goals (repeat' split at h) <;> (repeat' split) <;> simp_all <;> omega
theorem zBg {a b:QV} (ha:QIs w X L a p) (hb:QIs w Y M b q) (hL:L<=LM) (hM:M<=LM) :
  Calls Tryz.prog 63 #[a.val,b.val] w fun e w'=>e = .returned (.int .i64 (qcmp p q))/\Below w w w':=by
 have HL:=hdq hL;have HM:=hdq hM;clear hL hM;go_enter Tryz.func63,Tryz.ntmps63
 go_wp2_with fail
 refine zAg (fun W=>Below w w W/\Box4 W w (.bool a.num.ng) (.slice a.num.A a.num.n a.num.c) (.bool a.den.ng) (.slice a.den.A a.den.n a.den.c)/\Box4 W (w+1) (.bool b.num.ng) (.slice b.num.A b.num.n b.num.c) (.bool b.den.ng) (.slice b.den.A b.den.n b.den.c)/\w.heap.size<W.heap.size/\w.heap.size+1<W.heap.size) ⟨(az (az (brf _ _))),bx4,bx4,by simp <;> omega,by simp <;> omega⟩ ?_;rintro W ⟨hbW,bA,bB,s0,s1⟩;have hBW:=hbW.size;refine (zAJ (ha.below hbW) HL.out).mono ?_; rintro e w1 ⟨⟨z1,z2,x1,y1,rfl,k1,k2,hy1,hp⟩,hb1⟩
 replace k1:=k1.any;replace k2:=k2.any;have Hp:=hdq hp;have Hy1:=hdq hy1;clear hp hy1;obtain ⟨hc,hf⟩:=bcell hb1;have t0:=ltl s0 hb1.size;have t1:=ltl s1 hb1.size;go_wp2_with fail
 have al:Below w1 w1 ((w1.alloc (.cells #[.bool z1.ng,.slice z1.A z1.n z1.c] 78)).alloc (.cells #[.bool z2.ng,.slice z2.A z2.n z2.c] 78)):=(bal).alloc (by simp) _;have h12:=hb1.trans (al.mono hb1.size)
 refine zAg (fun W'=>Below w w W'/\Box2 W' w1 (.bool z1.ng) (.slice z1.A z1.n z1.c)/\Box2 W' (w1+1) (.bool z2.ng) (.slice z2.A z2.n z2.c)/\w1.heap.size+1<W'.heap.size/\ZIs W' (fun _=>True) (L+1) z1 x1/\ZIs W' (fun _=>True) (L+1) z2 y1)
  ⟨hbW.trans (h12.mono hBW),bx2,bx2,by simp,k1.below al,k2.below al⟩ ?_
 clear k1 k2 hc hf hb1 al h12 hbW hBW bA bB s0 s1;rintro W ⟨hbW,b1,b2,sG,k1,k2⟩;have hBW:=hbW.size;refine (zAJ (hb.below hbW) HM.out).mono ?_; rintro e w2 ⟨⟨z3,z4,x2,y2,rfl,k3,k4,hy2,hq⟩,hb2⟩
 replace k3:=k3.any;replace k4:=k4.any;have Hq:=hdq hq;have Hy2:=hdq hy2;clear hq hy2;obtain ⟨hc,hf⟩:=bcell hb2;have u0:w1.heap.size+1<w2.heap.size:=ltl sG hb2.size;go_wp2;have al:Below w2 w2 ((w2.alloc (.cells #[.bool z3.ng,.slice z3.A z3.n z3.c] 78)).alloc (.cells #[.bool z4.ng,.slice z4.A z4.n z4.c] 78)):=(bal).alloc (by simp) _;have h12:=hb2.trans (al.mono hb2.size)
 refine zAo (fun W'=>Below w w W'/\Box2 W' w1 (.bool z1.ng) (.slice z1.A z1.n z1.c)/\Box2 W' (w1+1) (.bool z2.ng) (.slice z2.A z2.n z2.c)/\Box2 W' w2 (.bool z3.ng) (.slice z3.A z3.n z3.c)/\Box2 W' (w2+1) (.bool z4.ng) (.slice z4.A z4.n z4.c)/\w2.heap.size+1<W'.heap.size/\ZIs W' (fun _=>True) (L+1) z1 x1/\ZIs W' (fun _=>True) (L+1) z2 y1/\ZIs W' (fun _=>True) (M+1) z3 x2/\ZIs W' (fun _=>True) (M+1) z4 y2)
  ⟨hbW.trans (h12.mono hBW),b1.below h12 (by omega),b2.below h12 (by omega),bx2,bx2,by simp,(k1.below hb2).below al,(k2.below hb2).below al,k3.below al,k4.below al⟩ ?_
 clear k1 k2 k3 k4 hc hf hb2 al h12 hbW hBW b1 b2 sG;rintro W ⟨hbW,b1,b2,b3,b4,sG,k1,k2,k3,k4⟩;have hBW:=hbW.size;have g1:w1.heap.size<W.heap.size:=by omega
 have g2:w1.heap.size+1<W.heap.size:=by omega
 have g3:w2.heap.size<W.heap.size:=by omega
 go_region_held3 (Sees w [] W) (exact kp)
  (first
   | (go_at_call 107; ((with_reducible refine (zFc (a:=z1) (k1.keptNil (Sees.kept (by assumption)))).mono ?_); rintro e w3 ⟨rfl,hb3⟩))
   | (go_at_call 107; ((with_reducible refine (zFc (a:=z3) (k3.keptNil (Sees.kept (by assumption)))).mono ?_); rintro e w4 ⟨rfl,hb4⟩)))
 rename_i hS;have Hx:=hdq (zHI Hy1.out Hy2.out Hp.out Hq.out);have r1:-1<=zsg x1/\zsg x1<=1:=by unfold zsg; split <;> (try split) <;> omega
 have r2:-1<=zsg x2/\zsg x2<=1:=by unfold zsg; split <;> (try split) <;> omega
 obtain ⟨r1,r1'⟩:=r1;obtain ⟨r2,r2'⟩:=r2;by_cases hne:zsg x1 ≠ zsg x2\/zsg x1=0
 ·have Hres:Hid (qcmp p q=isign (zsg x1-zsg x2)):=by
   show _=_;have e1:=zG4 (x:=x1) Hy2.out;have e2:=zG4 (x:=x2) Hy1.out;rw [Hx.out,zIf (by rw [e1,e2]; exact hne),e1,e2]
  have hbf:=hbW.trans hS.kept.below;clear hS
  have hne2:zsg x1 ≠ zsg x2\/(zsg x1=zsg x2/\zsg x1=0):=by
   by_cases h:zsg x1=zsg x2
   ·exact .inr ⟨h,hne.resolve_left (by simpa using h)⟩
   ·exact .inl h
  clear hne;generalize zsg x1=e1 at *;generalize zsg x2=e2 at *;rcases hne2 with hne | ⟨rfl,rfl⟩
  ·have d1:(e1 != e2)=true:=(by simpa using hne);have d2:(e1 == e2)=false:=(by simpa using hne);clear hne;(go_wp2_with fail);refine (zE7 _ _).mono ?_; rintro e w5 ⟨rfl,rfl⟩
   go_wp2;go_ret;exact ⟨zAz Hres.out.symm,hbf⟩
  ·(go_wp2_with fail);refine (zE7 _ _).mono ?_; rintro e w5 ⟨rfl,rfl⟩
   go_wp2;go_ret;exact ⟨zAz Hres.out.symm,hbf⟩
 ·have d0:zsg x1=zsg x2:=Classical.byContradiction fun h=>hne (.inl h)
  have d1:¬ (zsg x1=0):=fun h=>hne (.inr h)
  clear hne;have hb1:=hS.kept.whole;clear hS
  refine zGZ (fun W'=>Below w w W'/\Box2 W' w1 (.bool z1.ng) (.slice z1.A z1.n z1.c)/\Box2 W' (w1+1) (.bool z2.ng) (.slice z2.A z2.n z2.c)/\Box2 W' w2 (.bool z3.ng) (.slice z3.A z3.n z3.c)/\Box2 W' (w2+1) (.bool z4.ng) (.slice z4.A z4.n z4.c)/\w2.heap.size+1<W'.heap.size/\ZIs W' (fun _=>True) (L+1) z1 x1/\ZIs W' (fun _=>True) (L+1) z2 y1/\ZIs W' (fun _=>True) (M+1) z3 x2/\ZIs W' (fun _=>True) (M+1) z4 y2)
   ⟨hbW.trans (hb1.mono hBW),b1.below hb1 g1,b2.below hb1 g2,b3.below hb1 g3,b4.below hb1 sG,ltl sG hb1.size,k1.below hb1,k2.below hb1,k3.below hb1,k4.below hb1⟩ ?_
  clear k1 k2 k3 k4 hbW hBW b1 b2 b3 b4 sG g1 g2 g3 hb1;rintro W ⟨hbW,b1,b2,b3,b4,sG,k1,k2,k3,k4⟩;have hBW:=hbW.size;have g1:w1.heap.size<W.heap.size:=by omega
  have g2:w1.heap.size+1<W.heap.size:=by omega
  have g3:w2.heap.size<W.heap.size:=by omega
  rw [d0];rw [d0] at d1 r1 r1';clear d0;generalize zsg x2=e2 at *;have d2:(e2 == 0)=false:=by simpa using d1
  go_wp2
  go_region_held3 (Sees w [] W) (exact kp)
   (first
    | (go_at_call 111; ((with_reducible refine (zAO (a:=z1) (b:=z4) (k1.keptNil (Sees.kept (by assumption))) (k4.keptNil (Sees.kept (by assumption))) (by have:=HL.out; have:=HM.out; rw [zAZ] at *; omega)).mono ?_); rintro e w5 ⟨⟨u5,rfl,hz5⟩,hb5⟩))
    | (go_at_call 111; ((with_reducible refine (zAO (a:=z3) (b:=z2) (k3.keptNil (Sees.kept (by assumption))) (k2.keptNil (Sees.kept (by assumption))) (by have:=HL.out; have:=HM.out; rw [zAZ] at *; omega)).mono ?_); rintro e w6 ⟨⟨u6,rfl,hz6⟩,hb6⟩))
    | (go_at_call 110; ((with_reducible refine (zIa (a:=u5) (b:=u6) (hz5.below hb6).zis hz6.zis).mono ?_); rintro e w7 ⟨rfl,hb7⟩)))
  rename_i hS;have hbf:=hbW.trans hS.kept.below;clear hS;go_wp2;go_ret;exact ⟨zAz Hx.out.symm,hbf⟩
structure SV where
 A:Option Addr
 n:Nat
 c:Nat
abbrev SV.val (s:SV):Value:=.slice s.A s.n s.c
def QCell (w:World) (p:Addr) (v:QV):Prop:=
 w.cell? p=some (.bool v.num.ng)/\w.cell? ⟨p.block,p.off+1,none⟩=some (.slice v.num.A v.num.n v.num.c)/\w.cell? ⟨p.block,p.off+2,none⟩=some (.bool v.den.ng)/\w.cell? ⟨p.block,p.off+3,none⟩=some (.slice v.den.A v.den.n v.den.c)
structure VecAt (w:World) (X:Nat->Prop) (R:QV->Rat->Prop) (s:SV) (l:List Rat):Prop where
 len:l.length=s.n
 le:s.n<=s.c
 cap:s.c<=9223372036854775807
 elem:∀ k,k<s.n->∃ ad v,s.A=some ad/\X ad.block/\QCell w (ad.add (k*4)) v/\R v (l.getD k 0)
structure MatAt (w:World) (X:Nat->Prop) (R:QV->Rat->Prop) (s:SV) (m:List (List Rat)):Prop where
 len:m.length=s.n
 le:s.n<=s.c
 cap:s.c<=9223372036854775807
 row:∀ i,i<s.n->∃ ad r,s.A=some ad/\X ad.block/\w.cell? (ad.add i)=some (SV.val r)/\VecAt w X R r (m.getD i [])
section
variable {w w':World} {X X' Y:Nat->Prop} {R R':QV->Rat->Prop} {s:SV} {l:List Rat} {m:List (List Rat)} {p:Addr} {v:QV} {L:Nat}
theorem QCell.keep (h:QCell w p v) (hk:∀ a:Addr,a.block=p.block->p.block<w->w'.cell? a=w.cell? a):QCell w' p v:=by
 have hl:=zAb h.1;exact ⟨(hk p rfl hl).trans h.1,(hk ⟨p.block,p.off+1,none⟩ rfl hl).trans h.2.1,(hk ⟨p.block,p.off+2,none⟩ rfl hl).trans h.2.2.1,(hk ⟨p.block,p.off+3,none⟩ rfl hl).trans h.2.2.2⟩
theorem VecAt.keep (h:VecAt w X R s l) (hk:∀ a:Addr,X a.block->a.block<w->w'.cell? a=w.cell? a) (hR:∀ v q,R v q->R' v q):VecAt w' X R' s l:=
 ⟨h.len,h.le,h.cap,fun k hkn=>by
  obtain ⟨ad,v,e,hx,hc,hr⟩:=h.elem k hkn;exact ⟨ad,v,e,hx,hc.keep (fun a ha hl=>hk a (by rw [ha,zAj]; exact hx) (by rw [ha]; exact hl)),hR v _ hr⟩⟩
theorem MatAt.keep (h:MatAt w X R s m) (hk:∀ a:Addr,X a.block->a.block<w->w'.cell? a=w.cell? a) (hR:∀ v q,R v q->R' v q):MatAt w' X R' s m:=
 ⟨h.len,h.le,h.cap,fun i hi=>by
  obtain ⟨ad,r,e,hx,hc,hr⟩:=h.row i hi;exact ⟨ad,r,e,hx,(hk _ (by rw [zAj]; exact hx) (zAb hc)).trans hc,hr.keep hk hR⟩⟩
theorem VecAt.imp (h:VecAt w X R s l) (hx:∀ b,b<w.heap.size->X b->X' b) (hR:∀ v q,R v q->R' v q):VecAt w X' R' s l:=
 ⟨h.len,h.le,h.cap,fun k hkn=>by
  obtain ⟨ad,v,e,hX,hc,hr⟩:=h.elem k hkn;exact ⟨ad,v,e,hx _ (by have:=zAb hc.1; rwa [zAj] at this) hX,hc,hR v _ hr⟩⟩
theorem MatAt.imp (h:MatAt w X R s m) (hx:∀ b,b<w.heap.size->X b->X' b) (hR:∀ v q,R v q->R' v q):MatAt w X' R' s m:=
 ⟨h.len,h.le,h.cap,fun i hi=>by
  obtain ⟨ad,r,e,hX,hc,hr⟩:=h.row i hi;exact ⟨ad,r,e,hx _ (by have:=zAb hc; rwa [zAj] at this) hX,hc,hr.imp hx hR⟩⟩
end
abbrev VecIs (w:World) (X Y:Nat->Prop) (L:Nat) (s:SV) (l:List Rat):Prop:=VecAt w X (QIs w Y L) s l
abbrev MatIs (w:World) (X Y:Nat->Prop) (L:Nat) (s:SV) (m:List (List Rat)):Prop:=MatAt w X (QIs w Y L) s m
abbrev VecCan (w:World) (X Y:Nat->Prop) (s:SV) (l:List Rat):Prop:=VecAt w X (QCan w Y) s l
abbrev MatCan (w:World) (X Y:Nat->Prop) (s:SV) (m:List (List Rat)):Prop:=MatAt w X (QCan w Y) s m
section
variable {w w':World} {X Y:Nat->Prop} {L:Nat} {s:SV} {l:List Rat} {m:List (List Rat)}
theorem VecAt.below (h:VecIs w X Y L s l) (hb:Below w w w'):VecIs w' X Y L s l:=h.keep (fun _ _ hl=>hb.cell hl) fun _ _ hr=>hr.below hb
theorem MatAt.below (h:MatIs w X Y L s m) (hb:Below w w w'):MatIs w' X Y L s m:=h.keep (fun _ _ hl=>hb.cell hl) fun _ _ hr=>hr.below hb
theorem VecAt.belowC (h:VecCan w X Y s l) (hb:Below w w w'):VecCan w' X Y s l:=h.keep (fun _ _ hl=>hb.cell hl) fun _ _ hr=>hr.below hb
theorem MatAt.belowC (h:MatCan w X Y s m) (hb:Below w w w'):MatCan w' X Y s m:=h.keep (fun _ _ hl=>hb.cell hl) fun _ _ hr=>hr.below hb
end
theorem QCan.zero (w:World) (X:Nat->Prop):QCan w X ⟨⟨false,none,0,0⟩,⟨false,none,0,0⟩⟩ 0:=
 ⟨ZAt.of (l:=[]) (WordsAt.nil _ _ _ _ (nzl _)) (fun h=>absurd rfl h) rfl (fun _=>rfl),ZAt.of (l:=[]) (WordsAt.nil _ _ _ _ (nzl _)) (fun h=>absurd rfl h) rfl (fun _=>rfl)⟩
theorem zAw {α:Type} (l:List α) (k:Nat) (d:α) (h:l.length<=k):l.getD k d=d:=by
 rw [gdd,List.getElem?_eq_none h]; rfl
theorem row_calls {s:SV} {m:List (List Rat)} (h:MatIs w X Y L s m) (i:Nat) (hi:i<s.n) :
  Calls Tryz.prog 147 #[s.val,.int .i64 (i:Int)] w fun e w'=>(∃ r:SV,e = .returned r.val/\VecIs w X Y L r (m.getD i []))/\w=w':=by
 have hn:=h.le;have hc:=h.cap;obtain ⟨ad,r,e,hx,hcell,hr⟩:=h.row i hi;obtain ⟨A,n,c⟩:=s;dsimp only at e hi hn hc;subst e;have h1:¬ ((i:Int)<0):=by omega
 have h2:¬ (n<=i):=by omega
 have HR:=hdq hr;clear h hr;show Calls _ _ #[.slice (some ad) n c,.int .i64 (i:Int)] _ _;go_enter Tryz.func147,Tryz.ntmps147
 go_wp2;go_ret;exact ⟨⟨r,rfl,HR.out⟩,rfl⟩
theorem zFd {s:SV} {m:List (List Rat)} (h:MatIs w X Y L s m) (i k:Nat) (hi:i<s.n) (hk:k<=9223372036854775807) (hL:L<=LM) :
  Calls Tryz.prog 91 #[s.val,.int .i64 (i:Int),.int .i64 (k:Int)] w fun e w'=>QRet w ((m.getD i []).getD k 0) e w'/\Below w w w':=by
 have HL:=hdq hL;clear hL;have h1:¬ ((k:Int)<0):=by omega
 go_enter Tryz.func91,Tryz.ntmps91
 go_wp2_with fail
 refine zAg (fun W=>Below w w W/\Box4 W w (.bool false) (.slice none 0 0) (.bool false) (.slice none 0 0)/\w.heap.size<W.heap.size) ⟨(az (brf _ _)),bx4,by simp <;> omega⟩ ?_;rintro W ⟨hbW,bR,s0⟩;have hBW:=hbW.size;refine (row_calls (h.below hbW) i hi).mono ?_; rintro e w1 ⟨⟨r,rfl,hr⟩,rfl⟩
 have hrn:=hr.le;have hrc:=hr.cap;by_cases h2:k<r.n
 ·obtain ⟨ad,v,e,hx,⟨c0,c1,c2,c3⟩,hq⟩:=hr.elem k h2;obtain ⟨A,n,c⟩:=r;dsimp only at e h2 hrn hrc;subst e;have h3:¬ (n<=k):=by omega
  have HQ:=hdq hq;clear hr hq;dsimp only [SV.val];go_wp2_with fail
  refine (zAT HQ.out HL.out).mono ?_; rintro e w3 ⟨⟨z,rfl,hz⟩,hb3⟩
  obtain ⟨hc,hf⟩:=bcell hb3;clear c0 c1 c2 c3;go_wp2;obtain ⟨v0,v1,v2,v3,-⟩:=(bR.below hb3 s0).stored (.bool z.num.ng) (.slice z.num.A z.num.n z.num.c) (.bool z.den.ng) (.slice z.den.A z.den.n z.den.c);exact bodyPost_ret (v:=z.val) (by simp [results,Tryz.results91,go_sem,v0,v1,v2,v3]) rfl ⟨⟨z,rfl,(hz.set4 s0).lower hBW⟩,zAl (hbW.trans (hb3.mono hBW)) (by omega)⟩
 ·have h3:r.n<=k:=by omega
  have HZ:=hdq (zAw (m.getD i []) k 0 (by rw [hr.len]; omega));clear hr;go_wp2;obtain ⟨v0,v1,v2,v3,-⟩:=bR.stored (.bool false) (.slice none 0 0) (.bool false) (.slice none 0 0);exact bodyPost_ret (v:=.agg #[.bool false,.slice none 0 0,.bool false,.slice none 0 0]) (by simp [results,Tryz.results91,go_sem,v0,v1,v2,v3]) rfl ⟨⟨⟨⟨false,none,0,0⟩,⟨false,none,0,0⟩⟩,rfl,by rw [HZ.out]; exact QCan.zero _ _⟩,zAl hbW (by omega)⟩
namespace Gj
open Lin
theorem getD_append_left {α:Type} (a b:List α) (y:α) {i:Nat} (h:i<a.length):(a++b).getD i y=a.getD i y:=by
 simp only [gdd]; rw [List.getElem?_append_left h]
theorem getD_append_right {α:Type} (a b:List α) (y:α) {i:Nat}:(a++b).getD (a.length+i) y=b.getD i y:=by
 simp only [gdd]; rw [List.getElem?_append_right (by omega)]; simp
theorem getD_map_range {α:Type} (f:Nat->α) (y:α) {n i:Nat} (h:i<n):((List.range n).map f).getD i y=f i:=by
 simp [h]
abbrev Mt:=List (List Rat)
def ent (m:Mt) (i k:Nat):Rat:=(m.getD i []).getD k 0
def pfind (m:Mt) (c:Nat):Nat->Nat->Option Nat
 | 0,_=>none
 | f+1,i=>if ent m i c=0 then pfind m c f (i+1) else some i
def swap (m:Mt) (i j:Nat):Mt:=(m.set i (m.getD j [])).set j (m.getD i [])
def norm (m:Mt) (p c:Nat):Mt:=m.set p ((m.getD p []).map ((ent m p c)⁻¹*·))
def clearRow (pr r:List Rat) (c:Nat):List Rat:=if r.getD c 0=0 then r else (List.range (max pr.length r.length)).map fun k=>-(r.getD c 0)*pr.getD k 0+r.getD k 0
def clearTo (m:Mt) (p c:Nat):Nat->Mt
 | 0=>m
 | i+1=>if i=p then clearTo m p c i else (clearTo m p c i).set i (clearRow ((clearTo m p c i).getD p []) ((clearTo m p c i).getD i []) c)
def step (m:Mt) (p c f:Nat):Mt:=clearTo (norm (if f=p then m else swap m f p) p c) p c m.length
def run:Nat->Nat->Mt->List Nat->Mt × List Nat
 | 0,_,m,ps=>(m,ps)
 | f+1,c,m,ps=>if ps.length=m.length then (m,ps) else match pfind m c (m.length-ps.length) ps.length with
  | none=>run f (c+1) m ps
  | some g=>run f (c+1) (step m ps.length c g) (ps++[c])
def Rect (m:Mt) (w:Nat):Prop:=∀ i,i<m.length->(m.getD i []).length=w
theorem zT6 {α:Type} (l:List α) (i j:Nat) (x d:α) (h:i<l.length):(l.set i x).getD j d=if j=i then x else l.getD j d:=by
 simp only [gdd,List.getElem?_set];by_cases e:i=j
 ·subst e; simp [h]
 ·simp [e,show ¬ j=i from fun h=>e h.symm]
theorem zUD {m:Mt} {c:Nat}:∀ {f i g:Nat},pfind m c f i=some g->i<=g/\g<i+f/\ent m g c ≠ 0
 | 0,_,_,h=>by cases h
 | f+1,i,g,h=>by
  unfold pfind at h;by_cases e:ent m i c=0
  ·rw [if_pos e] at h;have:=zUD h;exact ⟨by omega,by omega,this.2.2⟩
  ·rw [if_neg e] at h;cases h;exact ⟨nlr _,by omega,e⟩
theorem zVQ {m:Mt} {c:Nat}:∀ {f i:Nat},pfind m c f i=none->∀ g,i<=g->g<i+f->ent m g c=0
 | 0,_,_,g,h1,h2=>by omega
 | f+1,i,h,g,h1,h2=>by
  unfold pfind at h;by_cases e:ent m i c=0
  ·rw [if_pos e] at h;by_cases eg:g=i
   ·rw [eg]; exact e
   ·exact zVQ h g (by omega) (by omega)
  ·rw [if_neg e] at h; cases h
theorem zVr (m:Mt) (i j:Nat):(swap m i j).length=m.length:=by simp [swap]
theorem zXZ {m:Mt} {i j:Nat} (hi:i<m.length) (hj:j<m.length) (k:Nat):(swap m i j).getD k []=if k=j then m.getD i [] else if k=i then m.getD j [] else m.getD k []:=by
 unfold swap;rw [zT6 _ _ _ _ _ (by simpa using hj),zT6 _ _ _ _ _ hi]
theorem zUd (m:Mt) (p c:Nat):(norm m p c).length=m.length:=by simp [norm]
theorem zYd (a:Rat) (l:List Rat) (i:Nat):(l.map (a*·)).getD i 0=a*l.getD i 0:=by
 simp only [gdd,List.getElem?_map]
 cases l[i]? with
 | none=>simp
 | some x=>simp
theorem zVb {m:Mt} {p c:Nat} (hp:p<m.length) (i k:Nat):ent (norm m p c) i k=if i=p then (ent m p c)⁻¹*ent m p k else ent m i k:=by
 unfold norm ent;rw [zT6 _ _ _ _ _ hp]
 split
 ·exact zYd _ _ _
 ·rfl
theorem zVi (pr r:List Rat) (c w:Nat) (h1:pr.length=w) (h2:r.length=w):(clearRow pr r c).length=w:=by
 unfold clearRow
 split
 ·exact h2
 ·simp [h1,h2]
theorem zWg (pr r:List Rat) (c k:Nat):(clearRow pr r c).getD k 0=r.getD k 0-r.getD c 0*pr.getD k 0:=by
 unfold clearRow
 split
 ·rename_i h; rw [h]; grind
 ·by_cases hk:k<max pr.length r.length
  ·rw [getD_map_range _ _ hk]; grind
  ·rw [zAw _ _ _ (by simp; omega),zAw _ k _ (show r.length<=k by omega),zAw _ k _ (show pr.length<=k by omega)]; grind
theorem zT7 (m:Mt) (p c:Nat):∀ i,(clearTo m p c i).length=m.length
 | 0=>rfl
 | i+1=>by
  unfold clearTo
  split
  ·exact zT7 m p c i
  ·rw [List.length_set]; exact zT7 m p c i
theorem zUe {m:Mt} {p c:Nat}:∀ (n:Nat),n<=m.length->∀ i,(clearTo m p c n).getD i []=if i<n/\i ≠ p then clearRow (m.getD p []) (m.getD i []) c else m.getD i []
 | 0,_,i=>by rw [if_neg (by omega)]; rfl
 | n+1,hn,i=>by
  unfold clearTo;have ih:=zUe (m:=m) (p:=p) (c:=c) n (by omega);by_cases e:n=p
  ·rw [if_pos e,ih i];by_cases h:i<n/\i ≠ p
   ·rw [if_pos h,if_pos ⟨by omega,h.2⟩]
   ·rw [if_neg h,if_neg (by omega)]
  ·rw [if_neg e,zT6 _ _ _ _ _ (by rw [zT7]; omega),ih p,if_neg (show ¬ (p<n/\p ≠ p) from fun h=>h.2 rfl)];by_cases ei:i=n
   ·subst ei;rw [if_pos rfl,if_pos ⟨by omega,e⟩,ih i,if_neg (by omega)]
   ·rw [if_neg ei,ih i];by_cases h:i<n/\i ≠ p
    ·rw [if_pos h,if_pos ⟨by omega,h.2⟩]
    ·rw [if_neg h,if_neg (by omega)]
theorem zXC {m:Mt} {p c:Nat} {i:Nat} (hi:i<m.length) (k:Nat):ent (clearTo m p c m.length) i k=if i=p then ent m p k else ent m i k-ent m i c*ent m p k:=by
 unfold ent;rw [zUe _ (nlr _)];by_cases e:i=p
 ·rw [if_neg (by omega),if_pos e,e]
 ·rw [if_pos ⟨hi,e⟩,if_neg e,zWg]
theorem zT5 (m:Mt) (p c f:Nat):(step m p c f).length=m.length:=by
 unfold step;rw [zT7,zUd]
 split
 ·rfl
 ·exact zVr _ _ _
def sw (m:Mt) (p f:Nat):Mt:=if f=p then m else swap m f p
theorem zUc (m:Mt) (p f:Nat):(sw m p f).length=m.length:=by unfold sw; split; rfl; exact zVr _ _ _
theorem zWb {m:Mt} {p f:Nat} (hp:p<m.length) (hf:f<m.length) (i:Nat):(sw m p f).getD i []=m.getD (if i=p then f else if i=f then p else i) []:=by
 unfold sw;by_cases e:f=p
 ·subst e;rw [if_pos rfl];by_cases h:i=f
  ·rw [if_pos h,h]
  ·rw [if_neg h,if_neg h]
 ·rw [if_neg e,zXZ hf hp];by_cases h1:i=p
  ·rw [if_pos h1,if_pos h1]
  ·rw [if_neg h1,if_neg h1];by_cases h2:i=f
   ·rw [if_pos h2,if_pos h2]
   ·rw [if_neg h2,if_neg h2]
theorem zWa (m:Mt) (p c f:Nat):step m p c f=clearTo (norm (sw m p f) p c) p c (norm (sw m p f) p c).length:=by
 rw [zUd,zUc]; rfl
theorem zVd {m:Mt} {p c f:Nat} (hp:p<m.length) (hf:f<m.length) {i:Nat} (hi:i<m.length) (k:Nat) :
  ent (step m p c f) i k=if i=p then (ent m f c)⁻¹*ent m f k else ent m (if i=f then p else i) k-ent m (if i=f then p else i) c*((ent m f c)⁻¹*ent m f k):=by
 have es:∀ i k,ent (sw m p f) i k=ent m (if i=p then f else if i=f then p else i) k:=fun i k=>by unfold ent; rw [zWb hp hf]
 rw [zWa,zXC (by rw [zUd,zUc]; exact hi),zVb (by rw [zUc]; exact hp),zVb (by rw [zUc]; exact hp),zVb (by rw [zUc]; exact hp)];simp only [es,if_pos];by_cases e:i=p
 ·rw [if_pos e,if_pos e]
 ·simp only [if_neg e]
theorem zWu {m:Mt} {p c f w:Nat} (h:Rect m w) (hp:p<m.length) (hf:f<m.length):Rect (step m p c f) w:=by
 have h1:Rect (sw m p f) w:=fun i hi=>by
  rw [zUc] at hi;rw [zWb hp hf];apply h
  split
  ·exact hf
  ·split <;> omega
 have h2:Rect (norm (sw m p f) p c) w:=fun i hi=>by
  rw [zUd] at hi;unfold norm;rw [zT6 _ _ _ _ _ (by rw [zUc]; exact hp)]
  split
  ·rw [List.length_map]; exact h1 p (by rw [zUc]; exact hp)
  ·exact h1 i hi
 intro i hi;rw [zWa,zT7] at hi;rw [zWa,zUe _ (nlr _)]
 split
 ·exact zVi _ _ _ _ (h2 p (by rw [zUd,zUc]; exact hp)) (h2 i hi)
 ·exact h2 i hi
def Null (m:Mt) (w:Nat) (v:Nat->Rat):Prop:=∀ i,i<m.length->(sum w fun k=>ent m i k*v k)=0
theorem zXV {m:Mt} {p c f w:Nat} {v:Nat->Rat} (hp:p<m.length) (hf:f<m.length) (h0:ent m f c ≠ 0):Null (step m p c f) w v ↔ Null m w v:=by
 have hi:(ent m f c)⁻¹ ≠ 0:=fun e=>by
  have:=Rat.mul_inv_cancel _ h0;rw [e,Rat.mul_zero] at this;exact absurd this (by decide)
 have e1:(sum w fun k=>ent (step m p c f) p k*v k)=(ent m f c)⁻¹*sum w fun k=>ent m f k*v k:=by
  rw [<-zBK];exact zAh fun k _=>by rw [zVd hp hf hp,if_pos rfl]; grind
 have e2:∀ i,i<m.length->i ≠ p->(sum w fun k=>ent (step m p c f) i k*v k)=(sum w fun k=>ent m (if i=f then p else i) k*v k)-ent m (if i=f then p else i) c*((ent m f c)⁻¹*sum w fun k=>ent m f k*v k):=fun i hi hne=>by
  rw [<-zBK,<-zBK,<-zFD];exact zAh fun k _=>by rw [zVd hp hf hi,if_neg hne]; grind
 constructor
 ·intro h
  have hfz:(sum w fun k=>ent m f k*v k)=0:=by
   have:=h p (by rw [zT5]; exact hp);rw [e1] at this;rcases Rat.mul_eq_zero.1 this with h | h
   ·exact absurd h hi
   ·exact h
  intro i hil;by_cases e:i=f
  ·rw [e]; exact hfz
  ·by_cases ep:i=p
   ·
    have:=h f (by rw [zT5]; exact hf);rw [e2 f hf (fun e'=>e (ep.trans e'.symm)),if_pos rfl,hfz] at this;rw [ep]; grind
   ·have:=h i (by rw [zT5]; exact hil);rw [e2 i hil ep,if_neg e,hfz] at this;grind
 ·intro h i hil;rw [zT5] at hil;by_cases ep:i=p
  ·rw [ep,e1,h f hf]; grind
  ·rw [e2 i hil ep,h f hf];have:(sum w fun k=>ent m (if i=f then p else i) k*v k)=0:=h _ (by split <;> omega);rw [this]; grind
structure Unt (m:Mt) (c:Nat):Prop where
 le:c<=m.length
 one:∀ i k,i<m.length->k<c->ent m i k=if i=k then 1 else 0
theorem Unt.step {m:Mt} {c f:Nat} (h:Unt m c) (hc:c<m.length) (h1:c<=f) (h2:f<m.length) (h0:ent m f c ≠ 0):Unt (step m c c f) (c+1):=by
 refine ⟨by rw [zT5]; omega,fun i k hi hk=>?_⟩;rw [zT5] at hi;rw [zVd hc h2 hi];by_cases ek:k=c
 ·subst ek;by_cases e:i=k
  ·rw [if_pos e,if_pos e,Rat.inv_mul_cancel _ h0]
  ·rw [if_neg e,if_neg e,Rat.inv_mul_cancel _ h0]; grind
 ·have hk':k<c:=by omega
  have hf0:ent m f k=0:=by rw [h.one f k h2 hk',if_neg (by omega)]
  rw [hf0];by_cases e:i=c
  ·rw [if_pos e,if_neg (by omega)]; grind
  ·rw [if_neg e];by_cases ef:i=f
   ·rw [if_pos ef,h.one c k hc hk',if_neg (by omega),if_neg (by omega)]; grind
   ·rw [if_neg ef,h.one i k hi hk']; grind
theorem Unt.zero (m:Mt):Unt m 0:=⟨nzl _,fun _ _ _ h=>by omega⟩
def uni (i:Nat) (x:Nat):Rat:=if x=i then 1 else 0
theorem zXY {n i:Nat} (h:i<n):sum n (uni i)=1:=by
 rw [zBu (f:=uni i) h fun j _ hj=>if_neg hj]; exact if_pos rfl
theorem Unt.stuck {m:Mt} {c n:Nat} (h:Unt m c) (hc:c<n) (h0:∀ g,c<=g->g<m.length->ent m g c=0):∃ v:Nat->Rat,Null m n v/\v c=1:=by
 refine ⟨fun k=>if k=c then 1 else if k<c then-ent m k c else 0,fun i hi=>?_,by simp⟩
 have e:(sum n fun k=>ent m i k*if k=c then 1 else if k<c then-ent m k c else 0)=sum n fun k=>ent m i c*uni c k+(if i<c then-ent m i c*uni i k else 0):=zAh fun k hk=>by
  by_cases e1:k=c
  ·subst e1;rw [if_pos rfl];by_cases hic:i<k
   ·rw [if_pos hic]; unfold uni; rw [if_pos rfl,if_neg (by omega)]; grind
   ·rw [if_neg hic]; unfold uni; rw [if_pos rfl]; grind
  ·rw [if_neg e1];have u1:uni c k=0:=by unfold uni; rw [if_neg (by omega)]
   rw [u1];by_cases e2:k<c
   ·rw [if_pos e2,h.one i k hi e2];by_cases e3:i=k
    ·subst e3; rw [if_pos rfl,if_pos e2]; unfold uni; rw [if_pos rfl]; grind
    ·rw [if_neg e3];by_cases hic:i<c
     ·rw [if_pos hic]; unfold uni; rw [if_neg (by omega)]; grind
     ·rw [if_neg hic]; grind
   ·rw [if_neg e2];by_cases hic:i<c
    ·rw [if_pos hic]; unfold uni; rw [if_neg (by omega)]; grind
    ·rw [if_neg hic]; grind
 rw [e,zCb,zBK,show (sum n fun i=>uni c i)=1 from zXY hc];by_cases hic:i<c
 ·rw [zAh (g:=fun k=>- ent m i c*uni i k) (fun k _=>by rw [if_pos hic]),zBK,show (sum n fun k=>uni i k)=1 from zXY (by omega)]; grind
 ·rw [zAC fun k _=>by rw [if_neg hic],h0 i (by omega) hi]; grind
end Gj
end Go.Proofs.YtjancagcmghfjaaGreat
