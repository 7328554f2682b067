/- Texts Region Frac3 Frac5 of this claim. -/
import Derived.Test.YtjancagcmghfjaaGreatX06
set_option maxHeartbeats 4000000
namespace Go.Proofs.YtjancagcmghfjaaGreat
open Go.RowKit Go.Shelf
variable {w w' W w1:World} {fuel i j ap d B g m o b n c L:Nat} {v:Value} {tm:Array Value} {z x y:Int} {ng:Bool} {q:Rat} {l:List Nat} {A:Option Addr} {X Y:Nat->Prop}
theorem zGc {P:Program} {ops:Array Oper} {Q:Exit->Act->World->Prop} {md:Region.Mode} {S:Bool->World->Prop} {oi:Oper} {listed:Array Bool} {a:Act} (hi:ops[i]?=some oi)
  (hs:Region.noSelect ops=true) (hf:Region.free md ops listed i=true) (hr:(Region.ready md ops listed).contains i=true)
  (hw:waits md ops ap j=true) (hw2:waits md ops j i=true) (hu:listed.getD ap true=false) (huj:listed.getD j true=false) (hia:i ≠ ap)
  (hQ:∀ c a w,Q (.panic c) (a.put oi.dst v) w->Q (.panic c) a w) (hy:YieldsIf P ops (S false) oi v a) (hS:S false w)
  (h:wpAnyG P md ops Q ap S fuel (listed.setIfInBounds i true) (a.put oi.dst v) w):wpAnyG P md ops Q ap S (fuel+1) listed a w:=by
 have stays:∀ (L:Array Bool) (x y:Nat),waits md ops x y=true->L.getD y true=false->x ∉ Region.ready md ops L:=by
  intro L x y hwx hy hx;obtain ⟨o,ho,hall⟩:=(mem_ready.1 hx).2;rw [waits,ho] at hwx;obtain ⟨e,he,h1⟩:=Array.any_eq_true'.1 hwx;simp only [Bool.and_eq_true,beq_iff_eq] at h1;have h2:=hall e he h1.1;rw [h1.2] at h2;rcases Nat.lt_or_ge y L.size with h' | h'
  ·simp [h'] at hy h2; rw [hy] at h2; cases h2
  ·simp [Array.getElem?_eq_none h'] at h2
 refine zCv (S':=S false) (fun L=>L.getD ap true=false/\L.getD j true=false) hi hia ?_ (fun L w hL hS=>by rwa [hL.1] at hS) (Region.noSelect_spec hs) hQ fuel listed a w (Region.free_spec hi hf) (by simpa using hr) ⟨hu,huj⟩ hy (by rw [hu]; exact hS) h;intro L k hL hiL hkL hki;have hka:k ≠ ap:=fun e=>stays L ap j hw hL.2 (e ▸ hkL)
 have hkj:k ≠ j:=fun e=>by
  have hiu:L.getD i true=false:=by
   have:=(mem_ready.1 hiL).1;exact this
  exact stays L j i hw2 hiu (e ▸ hkL)
 exact ⟨by rw [getD_set_ne true hka]; exact hL.1,by rw [getD_set_ne true hkj]; exact hL.2⟩
theorem takeW2 {P:Program} {l rest:List Oper} {Q:Exit->Act->World->Prop} {md:Region.Mode} {S:Bool->World->Prop} (j:Nat) {oi:Oper} (v:Value) {listed:Array Bool} {df:List Deferred} (hi:l.drop i=oi :: rest) (hd:oi.dst=some d)
  (hs:Region.noSelect l.toArray=true) (hf:Region.free md l.toArray listed i=true) (hr:(Region.ready md l.toArray listed).contains i=true)
  (hw:waits md l.toArray ap j=true) (hw2:waits md l.toArray j i=true) (hu:listed.getD ap true=false) (huj:listed.getD j true=false) (hia:i ≠ ap)
  (hQ:∀ c a w,Q (.panic c) (a.put (some d) v) w->Q (.panic c) a w) (hwa:Region.wanted oi (yielded l.toArray tm)=true) (hy:∀ w,S false w->(execOp (Act.eval {tmps:=tm,defers:=df}) oi).run P w = .ok (.value v) w) (hS:S false w)
  (h:wpAnyG P md l.toArray Q ap S fuel (listed.setIfInBounds i true) {tmps:=tm.setIfInBounds d v,defers:=df} w):wpAnyG P md l.toArray Q ap S (fuel+1) listed {tmps:=tm,defers:=df} w:=
 zGc (zBo hi) hs hf hr hw hw2 hu huj hia (by rw [hd]; exact hQ) (.inl ⟨hwa,hy⟩) hS (by rw [hd]; exact h)
theorem tkV {P:Program} {l rest:List Oper} {Q:Exit->Act->World->Prop} {md:Region.Mode} {S:Bool->World->Prop} (i j:Nat) {oi:Oper} (v:Value) {listed:Array Bool} {df:List Deferred} (hy:∀ w,S false w->(execOp (Act.eval {tmps:=tm,defers:=df}) oi).run P w = .ok (.value v) w) (hS:S false w)
  (h:wpAnyG P md l.toArray Q ap S fuel (listed.setIfInBounds i true) {tmps:=tm.setIfInBounds d v,defers:=df} w) (hi:l.drop i=oi :: rest:=by rfl) (hd:oi.dst=some d:=by rfl)
  (hs:Region.noSelect l.toArray=true:=by kernel_rfl) (hf:Region.free md l.toArray listed i=true:=by kernel_rfl) (hr:(Region.ready md l.toArray listed).contains i=true:=by kernel_rfl)
  (hw:waits md l.toArray ap j=true:=by kernel_rfl) (hw2:waits md l.toArray j i=true:=by kernel_rfl) (hu:listed.getD ap true=false:=by kernel_rfl) (huj:listed.getD j true=false:=by kernel_rfl) (hia:i ≠ ap:=by decide)
  (hQ:∀ c a w,Q (.panic c) (a.put (some d) v) w->Q (.panic c) a w:=by exact fun _ _ _ h=>h) (hwa:Region.wanted oi (yielded l.toArray tm)=true:=by rfl):wpAnyG P md l.toArray Q ap S (fuel+1) listed {tmps:=tm,defers:=df} w:=
 takeW2 j v hi hd hs hf hr hw hw2 hu huj hia hQ hwa hy hS h
theorem zAp {P:Program} {id:Nat} {ops:Array Oper} {Q:Exit->Act->World->Prop} (ap:Nat) (S:Bool->World->Prop) {a:Act} (hm:P.follows .mixedOrders=true)
  (h:wpAnyG P .any ops Q ap S ops.size (Array.replicate ops.size false) a w.drew):(Code.region id ops true).wp P Q a w:=
 wp_region_any hm (zCF _ _ _ _ h)
def Off (gs:List Nat):Nat->Prop:=fun b=>b ∉ gs
section
variable {w w':World} {gs:List Nat} {A:Option Addr} {n c:Nat} {l:List Nat}
theorem WordsAt.setOff (h:WordsAt w (Off gs) A n c l) {p:Addr} (hp:p.block ∈ gs) (v:Value):WordsAt (w.setCell p v) (Off gs) A n c l:=
 h.keep fun q hq _=>World.cell?_setCell_other w p q v (fun e=>by subst e; exact hq hp)
theorem ZAt.setOff (h:ZAt w (Off gs) ng A n c z) {p:Addr} (hp:p.block ∈ gs) (v:Value):ZAt (w.setCell p v) (Off gs) ng A n c z:=⟨h.sign,h.words.setOff hp v⟩
theorem WordsAt.offOld (h:WordsAt w (Old B) A n c l) (hg:∀ g ∈ gs,B<=g):WordsAt w (Off gs) A n c l:=h.imp fun b _ hb hm=>by have:=hg b hm; simp only [Old] at hb; omega
theorem WordsAt.offNew (h:WordsAt w (New B) A n c l) (hg:∀ g ∈ gs,g<B):WordsAt w (Off gs) A n c l:=h.imp fun b _ hb hm=>by have:=hg b hm; simp only [New] at hb; omega
theorem WordsAt.offAdd (h:WordsAt w (Off gs) A n c l) (hg:w.heap.size<=g):WordsAt w (Off (g :: gs)) A n c l:=h.imp fun b hb hx hm=>by
 rcases List.mem_cons.1 hm with e | e
 ·omega
 ·exact hx e
end
def QRet (w:World) (q:Rat) (e:Ending) (w':World):Prop:=∃ v:QV,e = .returned v.val/\QCan w' (New w) v q
theorem zEf (hy:0<y) (h:q=(x:Rat) / (y:Rat)):∃ m:Nat,m ≠ 0/\x=q.num*m/\y=q.den*m:=by
 have e:mkRat x y.natAbs=q:=by
  rw [Rat.mkRat_eq_div,h];congr 1;have:((y.natAbs:Int):Rat)=(y:Rat):=by rw [Int.natAbs_of_nonneg (by omega)]
  exact_mod_cast this
 obtain ⟨m,hm,h1,h2⟩:=Rat.mkRat_num_den (show y.natAbs ≠ 0 by omega) (show mkRat x y.natAbs=⟨q.num,q.den,q.den_nz,q.reduced⟩ from e);exact ⟨m,hm,h1,by rw [<-Int.natAbs_of_nonneg (show 0<=y by omega),h2]; simp⟩
theorem zIn :Nat.gcd (q.num*m).natAbs (q.den*m)=m:=by
 rw [Int.natAbs_mul,Int.natAbs_natCast,Nat.gcd_mul_right,q.reduced,Nat.one_mul]
theorem zCH (ng:Bool) (n:Nat):(zval ng n).natAbs=n:=by cases ng <;> simp [zval]
theorem Box4.far4 {u0 u1 u2 u3:Value} (h:Box4 w b u0 u1 u2 u3) {b':Nat} (hb:b' ≠ b) (x:Value):Box4 (w.setCell ⟨b',o,none⟩ x) b u0 u1 u2 u3:=by
 have s:∀ o',(w.setCell ⟨b',o,none⟩ x).cell? ⟨b,o',none⟩=w.cell? ⟨b,o',none⟩:=fun o'=>World.cell?_setCell_far _ _ _ _ (by simpa using hb)
 exact ⟨by rw [s]; exact h.1,by rw [s]; exact h.2.1,by rw [s]; exact h.2.2.1,by rw [s]; exact h.2.2.2.1,fun o=>by rw [World.frozen?_setCell]; exact h.2.2.2.2 o⟩
theorem WordsAt.offBack (h:WordsAt w X A n c l) (h':WordsAt w' Y A n c l):WordsAt w Y A n c l:=
 ⟨h.len,h.le,h.cap,h.ok,fun k hk=>by
  obtain ⟨ad,e,hx,hc⟩:=h.cell k hk;obtain ⟨ad',e',hx',_⟩:=h'.cell k hk;rw [e] at e'; cases e'
  exact ⟨ad,e,hx',hc⟩⟩
theorem zBz {zn zd:ZV} (hx:ZIs w X L zn x) (hy:ZIs w Y L zd y) (hy0:y ≠ 0) (hq:q=(x:Rat) / (y:Rat)) (hL:L<35184372070000) :
  Calls Tryz.prog 104 #[zn.val,zd.val] w fun e w'=>QRet w q e w'/\Below w w w':=by
 obtain ⟨lx,hlx,hlm,ex⟩:=hx;obtain ⟨ly,hly,hln,ey⟩:=hy;have N1:=hdq (show zn.n<35184372070000 from by omega);have N2:=hdq (show zd.n<35184372070000 from by omega);clear hL hlm hln;have hd:=zCx zd.ng (Num.nat ly);rw [<-ey] at hd;rcases Decidable.em (y<0) with hc | hc
 focus
  rw [if_pos hc] at hd;have Hd:=hdq hd;have Hm:=hdq (zEf (x:=-x) (y:=-y) (q:=q) (by omega) (by rw [hq]; push_cast; grind));rw [ex,ey] at Hm;clear hd hc ex ey hq hy0
 rotate_left
 focus
  rw [if_neg hc,if_neg hy0] at hd;have Hd:=hdq hd;have Hm:=hdq (zEf (by omega) hq);rw [ex,ey] at Hm;clear hd hc ex ey hq hy0
 rotate_left
 all_goals
  go_enter Tryz.func104,Tryz.ntmps104
  go_wp2_with fail
  refine zAg (fun W=>Below w w W/\Box2 W w (.bool zn.ng) (.slice zn.A zn.n zn.c)/\Box2 W (w+1) (.bool zd.ng) (.slice zd.A zd.n zd.c)/\Box4 W (w+1+1) (.bool false) (.slice none 0 0) (.bool false) (.slice none 0 0)/\w.heap.size<W.heap.size/\w.heap.size+1<W.heap.size/\w.heap.size+1+1<W.heap.size) ⟨(az (az (az (brf _ _)))),bx2,bx2,bx4,by simp <;> omega,by simp <;> omega,by simp <;> omega⟩ ?_;rintro W ⟨hbW,bN,bD,bR,s0,s1,s2⟩;have hBW:=hbW.size;have ne02:¬ (w.heap.size=w.heap.size+1+1):=by omega
  refine (zAF zd.ng (hly.below hbW)).mono ?_; rintro e w1 ⟨rfl,hb1⟩
  rw [Hd.out];obtain ⟨hc1,hf1⟩:=bcell hb1;go_wp2_with fail
  clear hc1 hf1;have F:Gen (fun W=>Below w w W/\Box2 W w (.bool zn.ng) (.slice zn.A zn.n zn.c)/\Box2 W (w+1) (.bool zd.ng) (.slice zd.A zd.n zd.c)/\Box4 W (w+1+1) (.bool false) (.slice none 0 0) (.bool false) (.slice none 0 0)/\w.heap.size<W.heap.size/\w.heap.size+1<W.heap.size/\w.heap.size+1+1<W.heap.size) _:=⟨hbW.trans (hb1.mono hBW),bN.below hb1 s0,bD.below hb1 s1,bR.below hb1 s2,ltl s0 hb1.size,ltl s1 hb1.size,ltl s2 hb1.size⟩;with_reducible first | refine zDq F ?_ | refine zDr F ?_ | refine zDp F ?_
  clear F hbW hBW bN bD bR s0 s1 s2 hb1;rintro W ⟨hbW,bN,bD,bR,s0,s1,s2⟩;have hBW:=hbW.size
 focus
  have hx':=hlx.old.below hbW;have hy':=hly.old.below hbW;have cN0:=bN.1;have cN1:=bN.2.1;have cD0:=bD.1;have cD1:=bD.2.1;have fN0:=bN.2.2;have fD0:=bD.2.2;refine zAp 4 (fun f w'=>f=false->w'.cell? w=some (.bool zn.ng)/\w'.cell? ⟨w.heap.size,1,none⟩=some (.slice zn.A zn.n zn.c)/\w'.cell? ⟨w+1,0,none⟩=some (.bool zd.ng)/\w'.cell? ⟨w.heap.size+1,1,none⟩=some (.slice zd.A zd.n zd.c)) (by kernel_rfl) ?_;refine takeW2 (i:=0) 1 (.agg #[.bool zn.ng,.slice zn.A zn.n zn.c]) rfl rfl (by kernel_rfl) (by kernel_rfl) (by kernel_rfl) (by kernel_rfl) (by kernel_rfl) (by kernel_rfl) (by kernel_rfl) (by decide) (fun _ _ _ h=>h) (by rfl) (fun w' hSw=>?_) (fun _=>⟨cN0,cN1,cD0,cD1⟩) ?_
  ·obtain ⟨a1,a2,a3,a4⟩:=hSw rfl;go_simp
  simp only [zz];refine takeW2 (i:=2) 3 (.agg #[.bool zd.ng,.slice zd.A zd.n zd.c]) rfl rfl (by kernel_rfl) (by kernel_rfl) (by kernel_rfl) (by kernel_rfl) (by kernel_rfl) (by kernel_rfl) (by kernel_rfl) (by decide) (fun _ _ _ h=>h) (by rfl) (fun w' hSw=>?_) (fun _=>⟨cN0,cN1,cD0,cD1⟩) ?_
  ·obtain ⟨a1,a2,a3,a4⟩:=hSw rfl;go_simp
  simp only [zz];refine tk1 1 ?_;intro K hK;go_simp;refine (zB1 (w:=W.drew) zn.ng (hx'.below (brf _ _).drew) (by have:=N1.out; omega)).mono ?_;rintro e w3 ⟨⟨ng',A',n',c',rfl,hz⟩,hb3⟩;dsimp only;obtain ⟨hc3,hf3⟩:=bcell hb3;refine hK.out _ _ (fun _=>⟨(hc3 _ _ s0).trans cN0,(hc3 _ _ s0).trans cN1,(hc3 _ _ s1).trans cD0,(hc3 _ _ s1).trans cD1⟩) ?_;clear hK K;refine tk1 3 ?_;intro K hK;go_simp;have h13:Below W W w3:=(brf _ W).drew.trans hb3;refine (zB1 (w:=w3) zd.ng (hy'.below h13) (by have:=N2.out; omega)).mono ?_;rintro e w4 ⟨⟨ngD,AD,nD,cD,rfl,hz2⟩,hb4⟩;dsimp only;have h14:Below W W w4:=h13.trans (hb4.mono h13.size);clear hc3 hf3;obtain ⟨hc4,hf4⟩:=bcell h14;refine hK.out _ _ (fun _=>⟨(hc4 _ _ s0).trans cN0,(hc4 _ _ s0).trans cN1,(hc4 _ _ s1).trans cD0,(hc4 _ _ s1).trans cD1⟩) ?_;clear hK K;refine tk1 4 ?_;intro K hK;go_simp;refine hK.out _ _ (fun h=>absurd h (by decide)) ?_;clear hK K;refine tk1 5 ?_;intro K hK;go_simp;refine hK.out _ _ (fun h=>absurd h (by decide)) ?_;clear hK K;refine zAf (by kernel_rfl) ?_ _;have bN4:=bN.below h14 s0;have bD4:=bD.below h14 s1;have bR4:=bR.below h14 s2;have hz':=hz.below hb4;have hs3:W.heap.size<=w3.heap.size:=h13.size;have hv1:=hz.val;have hv2:=hz2.val
  have l1:n'<=zn.n:=by
   rw [<-hz.words.len];refine Num.words_length_le ?_;rw [Int.natAbs_neg,zCH,<-hlx.len]; exact Num.nat_lt hlx.ok
  have l2:nD<=zd.n:=by
   rw [<-hz2.words.len];refine Num.words_length_le ?_;rw [Int.natAbs_neg,zCH,<-hly.len]; exact Num.nat_lt hly.ok
  rw [<-hv1,<-hv2] at Hm;clear hv1 hv2;replace N1:Hid (n'<35184372070000):=by have:=N1.out; show _<_; omega
  replace N2:Hid (nD<35184372070000):=by have:=N2.out; show _<_; omega
  clear l1 l2;have kN:=((((hz'.words.offNew (gs:=[w.heap.size,w.heap.size+1,w.heap.size+1+1]) (by simp; omega)).setOff (p:=w) (by simp) (.bool ng')).setOff (p:=⟨w.heap.size,1,none⟩) (by simp) (.slice A' n' c')).setOff (p:=⟨w+1,0,none⟩) (by simp) (.bool ngD)).setOff (p:=⟨w.heap.size+1,1,none⟩) (by simp) (.slice AD nD cD);have kD:=((((hz2.words.offNew (gs:=[w.heap.size,w.heap.size+1,w.heap.size+1+1]) (by simp; omega)).setOff (p:=w) (by simp) (.bool ng')).setOff (p:=⟨w.heap.size,1,none⟩) (by simp) (.slice A' n' c')).setOff (p:=⟨w+1,0,none⟩) (by simp) (.bool ngD)).setOff (p:=⟨w.heap.size+1,1,none⟩) (by simp) (.slice AD nD cD);generalize hl1:Num.words (-zval zn.ng (Num.nat lx)).natAbs=ln at *;generalize hl2:Num.words (-zval zd.ng (Num.nat ly)).natAbs=ld at *
  refine zGZ (fun W=>Below w w W/\Box2 W w (.bool ng') (.slice A' n' c')/\Box2 W (w+1) (.bool ngD) (.slice AD nD cD)/\Box4 W (w+1+1) (.bool false) (.slice none 0 0) (.bool false) (.slice none 0 0)/\w.heap.size+1+1<W.heap.size/\WordsAt W (Off [w.heap.size,w.heap.size+1,w.heap.size+1+1]) A' n' c' ln/\WordsAt W (Off [w.heap.size,w.heap.size+1,w.heap.size+1+1]) AD nD cD ld)
   ⟨((((hbW.trans (h14.mono hBW)).setCell (by simp) _).setCell (by simp) _).setCell (by simp) _).setCell (by simp) _,((bN4.restored _ _).far2 (by omega) _).far2 (by omega) _,((bD4.far2 (by omega) _).far2 (by omega) _).restored _ _,(((bR4.far4 (by omega) _).far4 (by omega) _).far4 (by omega) _).far4 (by omega) _,by have:=h14.size; simp [World.setCell]; omega,kN,kD⟩ ?_
  clear bN4 bD4 bR4 kN kD hz hz' hz2 hx' hy' hbW hBW bN bD bR s0 s1 s2 hb3 hb4 hl1 hl2 h13 h14 cN0 cN1 cD0 cD1 fN0 fD0 hc4 hf4 hs3;rintro W ⟨hbW,bN,bD,bR,s2,kN,kD⟩;have s0:w.heap.size<W.heap.size:=by omega
  have s1:w.heap.size+1<W.heap.size:=by omega
  have hBW:=hbW.size;clear hlx hly;go_wp2_with fail
 rotate_left
 focus
  have kN:=(hlx.old.below hbW).offOld (gs:=[w.heap.size,w.heap.size+1,w.heap.size+1+1]) (by simp; omega);have kD:=(hly.old.below hbW).offOld (gs:=[w.heap.size,w.heap.size+1,w.heap.size+1+1]) (by simp; omega);clear hlx hly;generalize lx=ln at *;generalize ly=ld at *;generalize zn.ng=ng' at *;generalize zn.A=A' at *;generalize zn.n=n' at *;generalize zn.c=c' at *;generalize zd.ng=ngD at *;generalize zd.A=AD at *;generalize zd.n=nD at *;generalize zd.c=cD at *
 all_goals
  refine (zFI ng' ngD kN kD (by have:=N1.out; omega) (by have:=N2.out; omega)).mono ?_; rintro e w1 ⟨⟨gg,Ag,mg,cg,rfl,hg⟩,hb1⟩
  obtain ⟨m,Hm0,He1,He2,HG⟩:∃ m:Nat,Hid (m ≠ 0)/\Hid (zval ng' (Num.nat ln)=q.num*m)/\Hid (zval ngD (Num.nat ld)=q.den*m)/\Hid (Nat.gcd (Num.nat ln) (Num.nat ld)=m):=by
   obtain ⟨m,h1,h2,h3⟩:=Hm.out;refine ⟨m,h1,h2,h3,?_⟩;have e1:Num.nat ln=(q.num*m).natAbs:=by rw [<-h2,zCH]
   have e2:Num.nat ld=q.den*m:=by
    have:((q.den:Int)*(m:Int)).natAbs=q.den*m:=by rw [<-Int.natCast_mul]; rfl
    rw [<-this,<-h3,zCH]
   show _=_;rw [e1,e2]; exact zIn
  rw [HG.out] at hg
  have Mg:Hid (mg<35184372070000):=by
   have h1:=hg.words.len
   have h2:(Num.words (m:Int).natAbs).length<=nD:=by
    refine Num.words_length_le ?_;have h3:=Num.nat_lt kD.ok;rw [kD.len] at h3
    have h4:Num.nat ld ≠ 0:=by
     intro h; have:=He2.out; rw [h] at this
     have h5:(q.den:Int)*m ≠ 0:=Int.mul_ne_zero (by have:=q.den_nz; omega) (by have:=Hm0.out; omega);cases hb:ngD <;> simp [zval,hb] at this <;> omega
    have h6:m<=Num.nat ld:=by rw [<-HG.out]; exact Nat.gcd_le_right _ (by omega)
    show (m:Int).natAbs<_;rw [Int.natAbs_natCast]; omega
   have:=N2.out;show _<_;omega
  obtain ⟨hc,hf⟩:=bcell hb1;have t0:=ltl s0 hb1.size;have t1:=ltl s1 hb1.size;have t2:=ltl s2 hb1.size;go_wp2_with fail
  have al1:Below w1 w1 (w1.alloc (.cells #[.bool gg,.slice Ag mg cg] 78)):=bal;have h12:Below W W (w1.alloc (.cells #[.bool gg,.slice Ag mg cg] 78)):=hb1.trans (al1.mono hb1.size)
  refine zAg (fun W'=>Below w w W'/\Box2 W' w (.bool ng') (.slice A' n' c')/\Box2 W' (w+1) (.bool ngD) (.slice AD nD cD)/\Box4 W' (w+1+1) (.bool false) (.slice none 0 0) (.bool false) (.slice none 0 0)/\Box2 W' w1 (.bool gg) (.slice Ag mg cg)/\w1.heap.size<W'.heap.size/\
    WordsAt W' (Off [w1.heap.size,w.heap.size,w.heap.size+1,w.heap.size+1+1]) A' n' c' ln/\WordsAt W' (Off [w1.heap.size,w.heap.size,w.heap.size+1,w.heap.size+1+1]) AD nD cD ld/\ZAt W' (Off [w1.heap.size,w.heap.size,w.heap.size+1,w.heap.size+1+1]) gg Ag mg cg m)
   ⟨hbW.trans (h12.mono hBW),bN.below h12 s0,bD.below h12 s1,bR.below h12 s2,bx2,by simp,((kN.below hb1).offAdd (nlr _)).below al1,((kD.below hb1).offAdd (nlr _)).below al1,
    ⟨hg.sign,((hg.words.offNew (gs:=[w.heap.size,w.heap.size+1,w.heap.size+1+1]) (by simp; omega)).offAdd (nlr _)).below al1⟩⟩ ?_
  clear bN bD bR kN kD hg hc hf hb1 al1 h12 hbW;rintro W2 ⟨hbW,bN,bD,bR,bG,sG,kN,kD,kG⟩;have n0:¬ (w.heap.size=w1.heap.size):=by omega
  have n1:¬ (w.heap.size+1=w1.heap.size):=by omega
  have n2:¬ (w.heap.size+1+1=w1.heap.size):=by omega
  have n0':¬ (w1.heap.size=w.heap.size):=by omega
  have n1':¬ (w1.heap.size=w.heap.size+1):=by omega
  have n2':¬ (w1.heap.size=w.heap.size+1+1):=by omega
  clear s0 s1 s2 hBW;have s0:w.heap.size<W2.heap.size:=by omega
  have s1:w.heap.size+1<W2.heap.size:=by omega
  have s2:w.heap.size+1+1<W2.heap.size:=by omega
  have hv:=kG.val;have hg0:Num.nat (Num.words (m:Int).natAbs) ≠ 0:=by rw [Num.nat_words,Int.natAbs_natCast]; exact Hm0.out
  refine (zBN ng' gg kN kG.words (by have:=N1.out; omega) hg0 (by have:=Mg.out; omega)).mono ?_;rintro e w2 ⟨⟨q1,A1,k1,c1,r1,B1,j1,d1,rfl,hq1,-⟩,hb2⟩;rw [hv,He1.out,Int.mul_ediv_cancel _ (by have:=Hm0.out; omega)] at hq1;obtain ⟨hc,hf⟩:=bcell hb2;go_wp2_with fail
  refine zAg (fun W'=>Below w w W'/\Box2 W' w (.bool q1) (.slice A1 k1 c1)/\Box2 W' (w+1) (.bool ngD) (.slice AD nD cD)/\Box4 W' (w+1+1) (.bool false) (.slice none 0 0) (.bool false) (.slice none 0 0)/\Box2 W' w1 (.bool gg) (.slice Ag mg cg)/\w1.heap.size<W'.heap.size/\
    ZAt W' (Off [w1.heap.size,w.heap.size,w.heap.size+1,w.heap.size+1+1]) q1 A1 k1 c1 q.num/\WordsAt W' (Off [w1.heap.size,w.heap.size,w.heap.size+1,w.heap.size+1+1]) AD nD cD ld/\ZAt W' (Off [w1.heap.size,w.heap.size,w.heap.size+1,w.heap.size+1+1]) gg Ag mg cg m/\ZAt W' (New w) q1 A1 k1 c1 q.num)
   ⟨((hbW.trans (hb2.mono (by omega))).setCell (by simp) _).setCell (by simp) _,(bN.below hb2 s0).restored _ _,((bD.below hb2 s1).far2 (by omega) _).far2 (by omega) _,((bR.below hb2 s2).far4 (by omega) _).far4 (by omega) _,((bG.below hb2 sG).far2 (by omega) _).far2 (by omega) _,by have:=hb2.size; simp [World.setCell]; omega,
    (ZAt.setOff ⟨hq1.sign,hq1.words.offNew (by simp; omega)⟩ (by simp) _).setOff (by simp) _,((kD.below hb2).setOff (by simp) _).setOff (by simp) _,((kG.below hb2).setOff (by simp) _).setOff (by simp) _,((hq1.set (by simpa using s0) _).set (by simpa using s0) _).lower (by omega)⟩ ?_
  clear bN bD bR bG kN kD kG hc hf hb2 hq1 hbW sG s0 s1 s2;rintro W3 ⟨hbW,bN,bD,bR,bG,sG,kN,kD,kG,fN⟩;have s0:w.heap.size<W3.heap.size:=by omega
  have s1:w.heap.size+1<W3.heap.size:=by omega
  have s2:w.heap.size+1+1<W3.heap.size:=by omega
  refine (zBN ngD gg kD kG.words (by have:=N2.out; omega) hg0 (by have:=Mg.out; omega)).mono ?_;rintro e w3 ⟨⟨q2,A2,k2,c2,r2,B2,j2,d2,rfl,hq2,-⟩,hb3⟩;rw [hv,He2.out,Int.mul_ediv_cancel _ (by have:=Hm0.out; omega)] at hq2;obtain ⟨hc,hf⟩:=bcell hb3;go_wp2_with fail
  refine zAg (fun W'=>Below w w W'/\Box2 W' w (.bool q1) (.slice A1 k1 c1)/\Box2 W' (w+1) (.bool q2) (.slice A2 k2 c2)/\Box4 W' (w+1+1) (.bool false) (.slice none 0 0) (.bool false) (.slice none 0 0)/\w1.heap.size<W'.heap.size/\
    ZAt W' (Off [w1.heap.size,w.heap.size,w.heap.size+1,w.heap.size+1+1]) q1 A1 k1 c1 q.num/\ZAt W' (Off [w1.heap.size,w.heap.size,w.heap.size+1,w.heap.size+1+1]) q2 A2 k2 c2 q.den/\ZAt W' (New w) q1 A1 k1 c1 q.num/\ZAt W' (New w) q2 A2 k2 c2 q.den)
   ⟨((hbW.trans (hb3.mono (by omega))).setCell (by simp) _).setCell (by simp) _,((bN.below hb3 s0).far2 (by omega) _).far2 (by omega) _,(bD.below hb3 s1).restored _ _,((bR.below hb3 s2).far4 (by omega) _).far4 (by omega) _,by have:=hb3.size; simp [World.setCell]; omega,
    ((kN.below hb3).setOff (by simp) _).setOff (by simp) _,(ZAt.setOff ⟨hq2.sign,hq2.words.offNew (by simp; omega)⟩ (by simp) _).setOff (by simp) _,⟨fN.sign,(((kN.below hb3).setOff (by simp) _).setOff (by simp) _).words.offBack (fN.words.below hb3)⟩,((hq2.set (by simpa using s1) _).set (by simpa using s1) _).lower (by omega)⟩ ?_
  clear bN bD bR bG kN kD kG hc hf hb3 hq2 hbW sG s0 s1 s2 fN;rintro W4 ⟨hbW,bN,bD,bR,sG,kN,kD,fN,fD⟩;have s0:w.heap.size<W4.heap.size:=by omega
  have s1:w.heap.size+1<W4.heap.size:=by omega
  have s2:w.heap.size+1+1<W4.heap.size:=by omega
  have hvd:=kD.val;refine (zAs q2 kD.words).mono ?_; rintro e w4 ⟨rfl,hb4⟩
  rw [hvd];obtain ⟨hc,hf⟩:=bcell hb4;clear hv hg0 hvd Hm;have bN4:=bN.below hb4 s0;have bD4:=bD.below hb4 s1;have bR4:=bR.below hb4 s2;have kN4:=kN.below hb4;have kD4:=kD.below hb4;by_cases h1:q.den=1
  ·have Hden:=hdq h1;rw [h1];clear h1;go_wp2;obtain ⟨v0,v1,v2,v3,-⟩:=((bR4.far4 (b':=w+1) (o:=0) (by omega) (.bool false)).far4 (b':=w+1) (o:=1) (by omega) (.slice none 0 0)).stored (.bool q1) (.slice A1 k1 c1) (.bool false) (.slice none 0 0);refine bodyPost_ret (v:=.agg #[.bool q1,.slice A1 k1 c1,.bool false,.slice none 0 0]) (by simp [results,Tryz.results104,go_sem,v0,v1,v2,v3]) rfl ⟨⟨⟨⟨q1,A1,k1,c1⟩,⟨false,none,0,0⟩⟩,rfl,⟨?_,?_⟩⟩,?_⟩
   ·exact ⟨fN.sign,(((((((kN4.setOff (by simp) _).setOff (by simp) _).setOff (by simp) _).setOff (by simp) _).setOff (by simp) _).setOff (by simp) _)).words.offBack (fN.words.below hb4)⟩
   ·exact ZAt.of (l:=[]) (WordsAt.nil _ _ _ _ (nzl _)) (fun h=>absurd rfl h) (by simp [cden,Hden.out]; rfl) (fun _=>rfl)
   ·exact ((((((hbW.trans (hb4.mono (by omega))).setCell (by simp) _).setCell (by simp) _).setCell (by simp; omega) _).setCell (by simp; omega) _).setCell (by simp; omega) _).setCell (by simp; omega) _
  ·have Hcd:Hid (cden q=q.den):=by show _=_; unfold cden; rw [if_neg h1]
   have hne:((q.den:Int) == 1)=false:=by simp; omega
   have hne2:(q.den == 1)=false:=by simp; omega
   clear h1;cases hfd:fits (q.den:Int)
   ·clear hfd;go_wp2;obtain ⟨v0,v1,v2,v3,-⟩:=bR4.stored (.bool q1) (.slice A1 k1 c1) (.bool q2) (.slice A2 k2 c2);refine bodyPost_ret (v:=.agg #[.bool q1,.slice A1 k1 c1,.bool q2,.slice A2 k2 c2]) (by simp [results,Tryz.results104,go_sem,v0,v1,v2,v3]) rfl ⟨⟨⟨⟨q1,A1,k1,c1⟩,⟨q2,A2,k2,c2⟩⟩,rfl,⟨?_,?_⟩⟩,?_⟩
    ·exact ⟨fN.sign,(((((kN4.setOff (by simp) _).setOff (by simp) _).setOff (by simp) _).setOff (by simp) _)).words.offBack (fN.words.below hb4)⟩
    ·rw [Hcd.out];exact ⟨fD.sign,(((((kD4.setOff (by simp) _).setOff (by simp) _).setOff (by simp) _).setOff (by simp) _)).words.offBack (fD.words.below hb4)⟩
    ·exact ((((hbW.trans (hb4.mono (by omega))).setCell (by simp; omega) _).setCell (by simp; omega) _).setCell (by simp; omega) _).setCell (by simp; omega) _
   ·rw [zAQ hfd];clear hfd;go_wp2;obtain ⟨v0,v1,v2,v3,-⟩:=bR4.stored (.bool q1) (.slice A1 k1 c1) (.bool q2) (.slice A2 k2 c2);refine bodyPost_ret (v:=.agg #[.bool q1,.slice A1 k1 c1,.bool q2,.slice A2 k2 c2]) (by simp [results,Tryz.results104,go_sem,v0,v1,v2,v3]) rfl ⟨⟨⟨⟨q1,A1,k1,c1⟩,⟨q2,A2,k2,c2⟩⟩,rfl,⟨?_,?_⟩⟩,?_⟩
    ·exact ⟨fN.sign,(((((kN4.setOff (by simp) _).setOff (by simp) _).setOff (by simp) _).setOff (by simp) _)).words.offBack (fN.words.below hb4)⟩
    ·rw [Hcd.out];exact ⟨fD.sign,(((((kD4.setOff (by simp) _).setOff (by simp) _).setOff (by simp) _).setOff (by simp) _)).words.offBack (fD.words.below hb4)⟩
    ·exact ((((hbW.trans (hb4.mono (by omega))).setCell (by simp; omega) _).setCell (by simp; omega) _).setCell (by simp; omega) _).setCell (by simp; omega) _
open Go.RowKit
theorem zI5 (n:Int):cden (n:Rat)=0:=by unfold cden; simp
theorem zAN (n:Int) (h1:-9223372036854775808<=n) (h2:n<=9223372036854775807) (w:World) :
  Calls Tryz.prog 47 #[.int .i64 n] w fun e w'=>QRet w (n:Rat) e w'/\Below w w w':=by
 have H1:=hdq h1;have H2:=hdq h2;clear h1 h2;go_enter Tryz.func47,Tryz.ntmps47
 go_wp2_with fail
 refine zAg (fun W=>Below w w W/\Box4 W w (.bool false) (.slice none 0 0) (.bool false) (.slice none 0 0)/\w.heap.size<W.heap.size) ⟨(az (brf _ _)),bx4,by simp <;> omega⟩ ?_;rintro W ⟨hbW,bR,s0⟩;have hBW:=hbW.size;refine (zAI n H1.out H2.out _).mono ?_; rintro e w1 ⟨⟨ng,A,k,c,rfl,hz⟩,hb1⟩
 obtain ⟨hc,hf⟩:=bcell hb1;go_wp2;obtain ⟨v0,v1,v2,v3,-⟩:=(bR.below hb1 s0).stored (.bool ng) (.slice A k c) (.bool false) (.slice none 0 0);refine bodyPost_ret (v:=.agg #[.bool ng,.slice A k c,.bool false,.slice none 0 0]) (by simp [results,Tryz.results47,go_sem,v0,v1,v2,v3]) rfl ⟨⟨⟨⟨ng,A,k,c⟩,⟨false,none,0,0⟩⟩,rfl,⟨?_,?_⟩⟩,?_⟩
 ·have:=((((hz.set (p:=w) s0 (.bool ng)).set (p:=⟨w.heap.size,1,none⟩) s0 (.slice A k c)).set (p:=⟨w.heap.size,2,none⟩) s0 (.bool false)).set (p:=⟨w.heap.size,3,none⟩) s0 (.slice none 0 0)).lower hBW;simpa using this
 ·exact ZAt.of (l:=[]) (WordsAt.nil _ _ _ _ (nzl _)) (fun h=>absurd rfl h) (by rw [zI5]; rfl) (fun _=>rfl)
 ·exact ((((hbW.trans (hb1.mono hBW)).setCell (by simp) _).setCell (by simp) _).setCell (by simp) _).setCell (by simp) _
def RatioLoop (w:World) (G:Nat) (k:Nat) (x y:Value) (wr:World):Prop:=
 ∃ m n:Int,x = .int .i64 m/\y = .int .i64 n/\-9223372036854775808<m/\m<=9223372036854775807/\-9223372036854775808<n/\n<=9223372036854775807/\Int.gcd m n=G/\k=n.natAbs/\Below (w+1) (w.alloc (.cells #[.bool false,.slice none 0 0,.bool false,.slice none 0 0] 80)) wr
theorem zEL (m:Int) {n:Int} (h:n ≠ 0):(m.tmod n).natAbs<n.natAbs:=by
 rw [Int.natAbs_tmod]; exact Nat.mod_lt _ (by omega)
theorem zJf (m n:Int):Int.gcd n (m.tmod n)=Int.gcd m n:=by
 unfold Int.gcd;rw [Int.natAbs_tmod,Nat.gcd_comm m.natAbs,Nat.gcd_rec n.natAbs m.natAbs,Nat.gcd_comm]
theorem bcell' (hb:Below B W w1):(∀ b o,b<B->w1.cell? ⟨b,o,none⟩=W.cell? ⟨b,o,none⟩)/\(∀ b o,b<B->w1.frozen? ⟨b,o,none⟩=W.frozen? ⟨b,o,none⟩):=
 ⟨fun b o h=>hb.cell (p:=⟨b,o,none⟩) h,fun b o h=>hb.frozen (p:=⟨b,o,none⟩) h⟩
theorem zBr {a b:Int} (h1:-9223372036854775808<a) (h2:a<=9223372036854775807) (h3:0<b) (h4:b<=9223372036854775807) (hq:q=(a:Rat) / (b:Rat)) (w:World) :
  Calls Tryz.prog 99 #[.int .i64 a,.int .i64 b] w fun e w'=>QRet w q e w'/\Below w w w':=by
 obtain ⟨m,hm0,ea,eb⟩:=zEf h3 hq
 have hG:Int.gcd a b=m:=by
  have:=zIn (q:=q) (m:=m);rw [<-this,ea,eb];unfold Int.gcd;congr 1
 have HG:=hdq hG;have Hm:=hdq hm0;have Ea:=hdq ea;have Eb:=hdq eb;clear hG hm0 ea eb hq;go_enter Tryz.func99,Tryz.ntmps99
 go_wp2;go_loopg [5,6] b.natAbs (fun k x y wr=>RatioLoop w m k x y wr)
 case atStart=>exact ⟨a,b,rfl,rfl,h1,h2,by omega,h4,HG.out,rfl,brf _ _⟩
 case round=>
  obtain ⟨x,y,rfl,rfl,x1,x2,y1,y2,hg,hk,hbr⟩:=hrel;have Hg:=hdq hg;have Hk:=hdq hk;clear hg hk;by_cases hy:y=0
  ·subst hy;have hx:x.natAbs=m:=by have:=Hg.out; rw [Int.gcd_zero_right] at this; exact this
   have hx2:(x<0/\x=-(m:Int))\/(¬ x<0/\x=(m:Int)):=(by omega);have mp:0<(m:Int):=by have:=Hm.out; omega
   have mb:(m:Int)<=9223372036854775807:=(by omega);have qa:a.tdiv (m:Int)=q.num:=by rw [Ea.out]; exact Int.mul_tdiv_cancel _ (by omega)
   have qb:b.tdiv (m:Int)=q.den:=by rw [Eb.out]; exact Int.mul_tdiv_cancel _ (by omega)
   have qna:q.num.natAbs<=a.natAbs:=by rw [<-qa,Int.natAbs_tdiv]; exact Nat.div_le_self _ _
   have qdb:q.den<=b.natAbs:=by
    have h6:=Int.natAbs_tdiv b m;rw [qb] at h6;have h5:b.natAbs.div (m:Int).natAbs<=b.natAbs:=Nat.div_le_self b.natAbs (m:Int).natAbs;rw [<-h6] at h5;simpa using h5
   have qn1:-9223372036854775808<=q.num:=(by omega);have qn2:q.num<=9223372036854775807:=(by omega);have qd2:(q.den:Int)<=9223372036854775807:=(by omega);clear qna qdb;clear Hg Hk hx;have z1:((m:Int) == 0)=false:=by simp; omega
   have z2:¬ ((m:Int)=0):=(by omega);have z3:¬ (m=0):=(by omega);have z4:(m == 0)=false:=by simp; omega
   have wn:IntKind.i64.wrap (q.num)=q.num:=IntWalk.i64_in _ (by omega);have wd:IntKind.i64.wrap (q.den:Int)=(q.den:Int):=IntWalk.i64_in _ (by omega);obtain ⟨hc,hf⟩:=bcell' hbr;have Hsz:=hbr.size;have B0:Box4 (w.alloc (.cells #[.bool false,.slice none 0 0,.bool false,.slice none 0 0] 80)) w (.bool false) (.slice none 0 0) (.bool false) (.slice none 0 0):=bx4;by_cases hbm:b=(m:Int)
   ·have Hden:Hid (q.den=1):=by
     have:=Eb.out;rw [hbm] at this;have h5:(1:Int)*m=q.den*m:=(by omega);have:=Int.eq_of_mul_eq_mul_right (by omega) h5;show _=_;omega
    have t1:((m:Int) == b)=true:=(by simp [hbm]);rcases hx2 with ⟨hx1,rfl⟩ | ⟨hx1,rfl⟩
    all_goals
     subst hbm;clear qb;(go_wp2_with fail);refine (zAI _ qn1 qn2 _).mono ?_; rintro e w1 ⟨⟨ng,A,k,c,rfl,hz⟩,hb1⟩
     clear hc hf;have h01:Below (w+1) (w.alloc (.cells #[.bool false,.slice none 0 0,.bool false,.slice none 0 0] 80)) w1:=hbr.trans (hb1.mono (by simp at Hsz; omega));have bR:=B0.below h01 (by omega);obtain ⟨hc,hf⟩:=bcell' h01;go_wp2;obtain ⟨v0,v1,v2,v3,-⟩:=bR.stored (.bool ng) (.slice A k c) (.bool false) (.slice none 0 0);have s0:w.heap.size<wr.heap.size:=by simp at Hsz; omega
     refine bodyPost_ret (v:=.agg #[.bool ng,.slice A k c,.bool false,.slice none 0 0]) (by simp [results,Tryz.results99,go_sem,v0,v1,v2,v3]) rfl ⟨⟨⟨⟨ng,A,k,c⟩,⟨false,none,0,0⟩⟩,rfl,⟨?_,?_⟩⟩,?_⟩
     ·exact ((((hz.set (p:=w) s0 (.bool ng)).set (p:=⟨w.heap.size,1,none⟩) s0 (.slice A k c)).set (p:=⟨w.heap.size,2,none⟩) s0 (.bool false)).set (p:=⟨w.heap.size,3,none⟩) s0 (.slice none 0 0)).lower (by omega)
     ·exact ZAt.of (l:=[]) (WordsAt.nil _ _ _ _ (nzl _)) (fun h=>absurd rfl h) (by unfold cden; rw [if_pos Hden.out]; rfl) (fun _=>rfl)
     ·exact (((((((brf _ w).alloc (nlr _) _).trans (h01.mono (by omega))).setCell (by simp) _).setCell (by simp) _).setCell (by simp) _).setCell (by simp) _)
   ·have t1:((m:Int) == b)=false:=by simpa using fun e=>hbm e.symm
    have Hcd:Hid (cden q=q.den):=by
     show _=_;unfold cden;rw [if_neg];intro h5;have h6:=Eb.out;rw [h5] at h6;exact hbm (by omega)
    rcases hx2 with ⟨hx1,rfl⟩ | ⟨hx1,rfl⟩
    all_goals
     (go_wp2_with fail);refine zAo (fun W=>Below w w W/\Box4 W w (.bool false) (.slice none 0 0) (.bool false) (.slice none 0 0)/\w.heap.size<W.heap.size) ⟨((brf _ w).alloc (nlr _) _).trans (hbr.mono (by omega)),B0.below hbr (by omega),by simp at Hsz; omega⟩ ?_;clear hc hf hbr Hsz;rintro W ⟨hbW,bR,s0⟩;have hBW:=hbW.size
     go_region_held3 (Sees w [w.heap.size] W) (exact kp)
      (first
       | (go_at_call 95; ((with_reducible refine (zAI q.num qn1 qn2 _).mono ?_); rintro e w3 ⟨⟨ng1,A1,n1,c1,rfl,hz1⟩,hb3⟩; replace hz1:=hz1.lower (Sees.kept (by assumption):Kept w _ W _).size))
       | (go_at_call 95; ((with_reducible refine (zAI (q.den:Int) (by omega) qd2 _).mono ?_); rintro e w4 ⟨⟨ng2,A2,n2,c2,rfl,hz2⟩,hb4⟩; replace hz2:=hz2.lower (Sees.kept (by assumption):Kept w _ W _).size)))
     rename_i hS;obtain ⟨v0,v1,v2,v3⟩:=hS.kept.val4 (by simp) (by rw [bR.1]; rfl) (by rw [bR.2.1]; rfl) (by rw [bR.2.2.1]; rfl) (by rw [bR.2.2.2.1]; rfl);have hbf:=hbW.trans hS.kept.below;clear hS;go_wp2;refine bodyPost_ret (v:=.agg #[.bool ng1,.slice A1 n1 c1,.bool ng2,.slice A2 n2 c2]) (by simp [results,Tryz.results99,go_sem,v0,v1,v2,v3]) rfl ⟨⟨⟨⟨ng1,A1,n1,c1⟩,⟨ng2,A2,n2,c2⟩⟩,rfl,⟨?_,?_⟩⟩,hbf⟩
     ·exact (((((hz1.below hb4).set (p:=w) s0 (.bool ng1)).set (p:=⟨w.heap.size,1,none⟩) s0 (.slice A1 n1 c1)).set (p:=⟨w.heap.size,2,none⟩) s0 (.bool ng2)).set (p:=⟨w.heap.size,3,none⟩) s0 (.slice A2 n2 c2)).lower (by omega)
     ·rw [Hcd.out];exact ((((hz2.set (p:=w) s0 (.bool ng1)).set (p:=⟨w.heap.size,1,none⟩) s0 (.slice A1 n1 c1)).set (p:=⟨w.heap.size,2,none⟩) s0 (.bool ng2)).set (p:=⟨w.heap.size,3,none⟩) s0 (.slice A2 n2 c2)).lower (by omega)
  ·have c1:(y == 0)=false:=(by simpa using hy);have c2:(y != 0)=true:=(by simpa using hy);have hlt:=hdq (zEL x hy);have hr:=hdq (zJf x y);obtain ⟨r,hr0⟩:∃ r,r=x.tmod y:=⟨_,rfl⟩;rw [<-hr0] at hlt hr;have r1:-9223372036854775808<r:=by have:=hlt.out; omega
   have r2:r<=9223372036854775807:=by have:=hlt.out; omega
   have hrem:x.tmod y=r:=hr0.symm;clear hr0;go_wp2;(go_quiet (fail));go_wp2;(go_roundg r.natAbs);case measure=>rw [Hk.out]; exact hlt.out
   case rel=>exact ⟨y,r,rfl,rfl,y1,y2,r1,r2,by rw [hr.out,Hg.out],rfl,zAB hbr _⟩
end Go.Proofs.YtjancagcmghfjaaGreat
