/- Texts NegL SpG SpH SpI SpJ SpR of this claim. -/
import Derived.Test.YtbpngececjihlaaGreatY34
set_option maxHeartbeats 4000000
set_option maxRecDepth 40000
namespace Go.Proofs.YtbpngececjihlaaGreat
open Go.RowKit Go.Shelf
variable {q:Rat} {L M N V B B' row n g b c0 c1 c2 c k:Nat} {s R S sa sb:SV} {X Y Z G X' Y':Nat->Prop} {w w' W2:World} {bs cl:List Rat} {os rs:List (List Rat)} {p:LPV} {x0 x1 x2 x3 x4 v v0 v1 v2 v3 u0 u1 u2 u3:Value} {z:QV}
theorem zRT (h:QFit L q):QFit L (-q):=⟨by show (-q.num).natAbs<_; rw [Int.natAbs_neg]; exact h.1,h.2⟩
theorem zSs (l:List Rat) (i:Nat):(l.map ((-1:Rat)*·)).getD i 0=-(l.getD i 0):=by
 by_cases h:i<l.length
 ·simp [List.getD,h]; grind
 ·rw [zAw _ _ _ (by simpa using h),zAw _ _ _ (by omega)]; rfl
theorem zRd {l:List Rat} (h:∀ i,QFit L (l.getD i 0)) (i:Nat):QFit L ((l.map ((-1:Rat)*·)).getD i 0):=by
 rw [zSs]; exact zRT (h i)
theorem zQ1 {k:QV} {l:List Rat} (hk:QIs w Z M k q) (h:VecIs w X Y L s l) (hn:s.n<=1000000) (hL:L<=LM) (hM:M<=LM) (hf:∀ i,QFit N ((l.map (q*·)).getD i 0)) :
  Calls Tryz.prog 110 #[k.val,s.val] w fun e w'=>(∃ r:SV,e = .returned r.val/\VecIs w' (New w) (New w) N r (l.map (q*·)))/\Below w w w':=by
 refine (zLH hk h hn hL hM).mono ?_;rintro e w' ⟨⟨r,rfl,hr⟩,hb⟩;exact ⟨⟨r,rfl,hr.loose hf⟩,hb⟩
theorem zQZ {f:Rat->Rat} {fn:Nat} {caps:Array Value} (h:LPIs w X Y L p os rs bs) (hV:p.n=V) (hV4:V<=4) (ho:p.O.n=1) (hr:p.R.n<=5) (hb:p.B.n=p.R.n) (hco:colsOf os<=V) (hcr:colsOf rs<=V) (hL:L<=200000) (hcall:∀ (args:Array Value) (w:World),Sem.run Tryz.prog (callFunc fn args) w = .ok (.enter fn args) w)
  (ht:∀ W z q,Below w w W->QIs W AllB (1000*(L+1)) z q->Lin.Fits (20000*(L+1)) q->Calls Tryz.prog fn (#[z.val]++caps) W fun e W'=>QRet W (f q) e W'/\Below W W W') :
  Calls Tryz.prog 111 #[p.val,.func (.func fn) #[] caps] w fun e w'=>LimRet w (prob1 V os rs bs) f e w'/\Below w w w':=by
 have h2:5 ^ V*(32*(L+1))<=20000*(L+1):=nlt (zJZ hV4) (by omega);refine zRv h hV (by omega) (by omega) (by omega) (by omega) hb hco hcr (by rw [zAZ]; omega) (fun D hD=>zBE h (by simp [Lin.given]) (fun c hc=>by cases hc) D hD) (by rw [zAZ]; omega) hcall fun W z q hb hz hf=>?_
 have hf2:=hf.mono h2;exact ht W z q hb ((hz.qis (zBn hf2 (by omega))).imp fun _ _ _=>trivial) hf2
theorem LimIs.low {b:Bool} {v:QV} {o:Option Rat} (h:LimIs w (New B) b v o) (hB:B'<=B):LimIs w (New B') b v o:=
 h.imp id fun ⟨q,h1,h2,h3⟩=>⟨q,h1,h2,h3.lower hB⟩
theorem LimIs.set5 {b0:Nat} {b:Bool} {v:QV} {o:Option Rat} (h:LimIs w (New B) b v o) (hb:b0<B):LimIs (set5 w b0 x0 x1 x2 x3 x4) (New B) b v o:=
 h.imp id fun ⟨q,h1,h2,h3⟩=>⟨q,h1,h2,h3.set5 hb⟩
theorem zQ8 {l:List Rat} (h:l.length<=V):colsOf [l]<=V:=zAU.2 fun r hr=>by
 obtain rfl:=List.mem_singleton.1 hr; exact h
theorem zRP (h:colsOf rs<=V) (hc:cl.length<=V):colsOf ((rs.map fun r=>resize r (colsOf rs)).set row cl)<=V:=zAU.2 fun r hr=>by
 rcases List.mem_or_eq_of_mem_set hr with hr | rfl
 ·obtain ⟨x,-,rfl⟩:=List.mem_map.1 hr;rw [zMD]; exact h
 ·exact hc
def RqAt (B V n L:Nat) (rs:List (List Rat)) (bs:List Rat) (p:Value) (W:World):Prop:=
 ∃ (g:Nat) (R S:SV),p = .pointer (some g)/\B<=g/\Box4 W g (.int .i64 V) (.slice none 0 0) R.val S.val/\R.n=n/\S.n=n/\MatIs W (fun x=>x ≠ g/\B<=x) (fun x=>x ≠ g/\B<=x) L R rs/\VecIs W (fun x=>x ≠ g/\B<=x) (fun x=>x ≠ g/\B<=x) L S bs
abbrev BoxL (W:World) (b:Nat) (p:LPV):Prop:=Box4 W b (.int .i64 p.n) (.slice p.O.A p.O.n p.O.c) (.slice p.R.A p.R.n p.R.c) (.slice p.B.A p.B.n p.B.c)
abbrev BoxQ (W:World) (b:Nat) (v:QV):Prop:=Box4 W b (.bool v.num.ng) (.slice v.num.A v.num.n v.num.c) (.bool v.den.ng) (.slice v.den.A v.den.n v.den.c)
theorem zRj (a:Addr):a.add 0=a:=rfl
theorem zRk {a:Addr} (h:w.cell? a=some v):∃ b o,a=⟨b,o,none⟩:=by
 obtain ⟨b,o,s⟩:=a
 cases s with
 | none=>exact ⟨b,o,rfl⟩
 | some s=>
  unfold World.cell? at h
  split at h <;> simp at h
theorem zSG {y:World} {D:Nat} (hB:B<=y.heap.size) (hD:B<=D) (hR:R.n=n) (hS:S.n=n) (h1:MatIs y (fun x=>New B x\/D<=x) (fun x=>New B x\/D<=x) L R rs) (h2:VecIs y (fun x=>New B x\/D<=x) (fun x=>New B x\/D<=x) L S bs) :
  RqAt B V n L rs bs (.pointer (some y)) (y.alloc (.cells #[.int .i64 V,.slice none 0 0,.slice R.A R.n R.c,.slice S.A S.n S.c] 25)):=
 have hx:∀ b,b<y.heap.size->(New B b\/D<=b)->b ≠ y.heap.size/\B<=b:=fun b hb h=>by simp only [New] at h; omega
 ⟨_,R,S,rfl,hB,bx4,hR,hS,
  MatAt.below (h1.imp hx fun _ _ hq=>hq.imp hx) (bal),VecAt.below (h2.imp hx fun _ _ hq=>hq.imp hx) (bal)⟩
theorem zRo {y:World} {D:Nat} (hg:B<=g) (hD:g<D) (bx:Box4 y g v0 v1 v2 v3) (hR:R.n=n) (hS:S.n=n) (h1:MatIs y (fun x=>(x ≠ g/\B<=x)\/D<=x) (fun x=>(x ≠ g/\B<=x)\/D<=x) L R rs) (h2:VecIs y (fun x=>(x ≠ g/\B<=x)\/D<=x) (fun x=>(x ≠ g/\B<=x)\/D<=x) L S bs) :
  RqAt B V n L rs bs (.pointer (some g)) ((((y.setCell g (.int .i64 V)).setCell ⟨g,1,none⟩ (.slice none 0 0)).setCell ⟨g,2,none⟩ (.slice R.A R.n R.c)).setCell ⟨g,3,none⟩ (.slice S.A S.n S.c)):=by
 have P8:=Put.four (W:=y) g (.int .i64 V) (.slice none 0 0) (.slice R.A R.n R.c) (.slice S.A S.n S.c);have kx:∀ a:Addr,(a.block ≠ g/\B<=a.block)->a.block<y->((((y.setCell g (.int .i64 V)).setCell ⟨g,1,none⟩ (.slice none 0 0)).setCell ⟨g,2,none⟩ (.slice R.A R.n R.c)).setCell ⟨g,3,none⟩ (.slice S.A S.n S.c)).cell? a=y.cell? a:=fun a ha _=>cob (P8.keep _ ha.1)
 have hx:∀ b,b<y.heap.size->((b ≠ g/\B<=b)\/D<=b)->b ≠ g/\B<=b:=fun b _ h=>by omega
 exact ⟨g,R,S,rfl,hg,bx.stored _ _ _ _,hR,hS,
  (h1.imp (R':=QIs y (fun x=>x ≠ g/\B<=x) L) hx fun _ _ hq=>hq.imp hx).keep kx fun _ _ hq=>hq.keep kx,
  (h2.imp (R':=QIs y (fun x=>x ≠ g/\B<=x) L) hx fun _ _ hq=>hq.imp hx).keep kx fun _ _ hq=>hq.keep kx⟩
theorem zRA (h:Box4 w b u0 u1 u2 u3) (x:Value):Box4 (w.setCell ⟨b,1,none⟩ x) b u0 x u2 u3:=by
 obtain ⟨h0,h1,h2,h3,hf⟩:=h;exact ⟨(World.cell?_setCell_other _ _ _ _ (by simp)).trans h0,World.cell?_setCell_same' _ _ _ (by rw [h1]; rfl),(World.cell?_setCell_other _ _ _ _ (by simp)).trans h2,(World.cell?_setCell_other _ _ _ _ (by simp)).trans h3,fun o=>by simp only [World.frozen?_setCell]; exact hf o⟩
theorem Box5.setCell_ne {v4:Value} {p:Addr} (h:Box5 w b v0 v1 v2 v3 v4) (hp:p.block ≠ b):Box5 (w.setCell p v) b v0 v1 v2 v3 v4:=by
 have k:∀ o,(w.setCell p v).cell? ⟨b,o,none⟩=w.cell? ⟨b,o,none⟩:=fun o=>cob (bhs _ _ _ _ (Ne.symm hp))
 exact ⟨(k _).trans h.1,(k _).trans h.2.1,(k _).trans h.2.2.1,(k _).trans h.2.2.2.1,(k _).trans h.2.2.2.2.1,fun o=>by simp only [World.frozen?_setCell]; exact h.2.2.2.2.2 o⟩
theorem zSv {o:SV} {ol:List Rat} (kx:∀ a:Addr,a.block ≠ g->a.block<w->w'.cell? a=w.cell? a) (hb:b ≠ g) (ho:VecIs w X X L o ol) (hR:MatIs w (fun x=>x ≠ g) (fun x=>x ≠ g) L R rs) (hS:VecIs w (fun x=>x ≠ g) (fun x=>x ≠ g) L S bs) (hX:∀ b,b<w.heap.size->X b->b ≠ g) (hc:w.cell? ⟨b,0,none⟩=some o.val) :
  LPIs w' AllB AllB L ⟨V,⟨some ⟨b,0,none⟩,1,1⟩,R,S⟩ [ol] rs bs:=
 ⟨⟨rfl,nlr _,by dsimp only; omega,fun i hi=>by
  obtain rfl:i=0:=by have:i<1:=hi; omega
  exact ⟨⟨b,0,none⟩,o,rfl,trivial,(kx _ hb (zAb hc)).trans hc,((ho.imp (X':=fun x=>x ≠ g) (R':=QIs w (fun x=>x ≠ g) L) hX fun _ _ hq=>hq.imp hX).keep (R':=QIs w' (fun x=>x ≠ g) L) kx fun _ _ hq=>hq.keep kx).imp (fun _ _ _=>trivial) fun _ _ hq=>hq.imp fun _ _ _=>trivial⟩⟩,
  (hR.keep (R':=QIs w' (fun x=>x ≠ g) L) kx fun _ _ hq=>hq.keep kx).imp (fun _ _ _=>trivial) fun _ _ hq=>hq.imp fun _ _ _=>trivial,
  (hS.keep (R':=QIs w' (fun x=>x ≠ g) L) kx fun _ _ hq=>hq.keep kx).imp (fun _ _ _=>trivial) fun _ _ hq=>hq.imp fun _ _ _=>trivial⟩
abbrev GrS (c0 c1 c2 row n rc:Nat) (rad:Addr) (r:SV) (m:QV) (_:Bool) (w':World):Prop:=
 (w'.cell? c2=some (.bool m.num.ng)/\w'.cell? ⟨c2,1,none⟩=some (.slice m.num.A m.num.n m.num.c)/\w'.cell? ⟨c2,2,none⟩=some (.bool m.den.ng)/\w'.cell? ⟨c2,3,none⟩=some (.slice m.den.A m.den.n m.den.c))/\w'.cell? ⟨c0,2,none⟩=some (.slice (some rad) n rc)/\w'.cell? c1=some (.int .i64 (row:Int))/\w'.cell? (rad.add row)=some (.slice r.A r.n r.c)
theorem zRc {rc:Nat} {rad:Addr} {r:SV} {m:QV} {b:Bool} (h:GrS c0 c1 c2 row n rc rad r m b w) (hb:Below w w w'):GrS c0 c1 c2 row n rc rad r m b w':=by
 obtain ⟨⟨a0,a1,a2,a3⟩,a4,a5,a6⟩:=h;exact ⟨⟨cellK hb a0,cellK hb a1,cellK hb a2,cellK hb a3⟩,cellK hb a4,cellK hb a5,cellK hb a6⟩
theorem zSg {rc:Nat} {rad:Addr} {r:SV} {m:QV} {b b':Bool} (h:GrS c0 c1 c2 row n rc rad r m b w) (h0:c0 ≠ g) (h1:c1 ≠ g) (h2:c2 ≠ g) (h3:rad.block ≠ g) (hk:∀ p:Addr,p.block ≠ g->w'.cell? p=w.cell? p):GrS c0 c1 c2 row n rc rad r m b' w':=by
 obtain ⟨⟨a0,a1,a2,a3⟩,a4,a5,a6⟩:=h;exact ⟨⟨(hk _ h2).trans a0,(hk _ h2).trans a1,(hk _ h2).trans a2,(hk _ h2).trans a3⟩,(hk _ h0).trans a4,(hk _ h1).trans a5,(hk _ (by rw [zAj]; exact h3)).trans a6⟩
theorem zSd {c3:Nat} {m:QV} {v:Rat} (h:LPIs w AllB AllB L p os rs bs) (hn:p.n=V) (hV:V<=4) (ho:1<=p.O.n) (hr:p.R.n<=5) (hb:p.B.n=p.R.n) (hco:colsOf os<=V) (hcr:colsOf rs<=V) (hi:row<p.R.n) (hL:L<=100000)
  (b0:BoxL w c0 p) (b1:w.cell? c1=some (.int .i64 (row:Int))) (b2:BoxQ w c2 m) (b3:BoxQ w c3 z) (hm:QIs w AllB 1 m (-1)) (hz:QIs w AllB (L+1) z v) (hvf:QFit (L+1) v) :
  Calls Tryz.prog 125 #[.pointer (some c0),.pointer (some c1),.pointer (some c2),.pointer (some c3)] w fun e w'=>LimRet w (prob1 V [(rs.getD row []).map (-1*·)] ((rs.map fun r=>resize r (colsOf rs)).set row ((os.getD 0 []).map (-1*·))) (bs.set row (-v))) (fun t=>-(t+bs.getD row 0)) e w'/\Below w w w':=by
 obtain ⟨n,⟨oA,on,oc⟩,⟨rA,rn,rc⟩,⟨bA,bn,bc⟩⟩:=p;dsimp only at hn hr hb hi ho;subst hn hb;have H:=hdq h
 have HLM:Hid (L+1+1<=LM):=by
  have h2:200000<=LM:=by rw [zAZ]; decide
  show _<=_;omega
 have HM:=hdq hm;have HZ:=hdq hz;have HV:=hdq hvf;have HCr:=hdq hcr;have HCo:=hdq hco;obtain ⟨oad,⟨rA0,rn0,rc0⟩,eo,-,hoc,hor⟩:=h.obj.row 0 ho;obtain ⟨rad,⟨rA1,rn1,rc1⟩,er,-,hrc,hrr⟩:=h.rows.row row hi;dsimp only at eo er;subst eo er;rw [zRj] at hoc;obtain ⟨ob,oo,rfl⟩:=zRk hoc;have HO:=hdq hor;have HR:=hdq hrr;have HF0:Hid (∀ i,QFit (L+1) (((os.getD 0 []).map ((-1:Rat)*·)).getD i 0)):=zRd (MatAt.fit h.obj 0);have HF1:Hid (∀ i,QFit (L+1) (((rs.getD row []).map ((-1:Rat)*·)).getD i 0)):=zRd (MatAt.fit h.rows row)
 have HN1:Hid (rn1<=1000000):=by
  have h1:=hrr.len;have h2:=zBT hcr row;dsimp only at h1;show rn1<=_;omega
 have HVn:Hid (QFit (L+1) (-v)):=zRT hvf;have HL:Hid (L<=LM):=by have:=HLM.out; show _<=_; omega
 have HL1:Hid (L+1<=LM):=by have:=HLM.out; show _<=_; omega
 have H1:Hid (1<=LM):=by have:=HLM.out; show _<=_; omega
 have HN0:Hid (rn0<=1000000):=by
  have h1:=hor.len;have h2:=zBT hco 0;dsimp only at h1;show rn0<=_;omega
 clear h hm hz hvf hcr hco hor hrr;obtain ⟨a0,a1,a2,a3,-⟩:=b0;obtain ⟨m0,m1,m2,m3,-⟩:=b2;obtain ⟨z0,z1,z2,z3,-⟩:=b3;dsimp only [SV.val] at *;go_enter Tryz.func125,Tryz.ntmps125
 go_upto_region 1 with fail
 refine zAo (fun W=>Below w w W/\Box5 W w (.bool false) (.bool false) (.slice none 0 0) (.bool false) (.slice none 0 0)/\w.heap.size<W.heap.size) ⟨(az (brf _ _)),⟨by go_simp,by go_simp,by go_simp,by go_simp,by go_simp,by intro o; go_simp⟩,by simp <;> omega⟩ ?_;rintro W ⟨hbW,bR,s0⟩;have hBW:=hbW.size;replace a0:=cellK hbW a0;replace a1:=cellK hbW a1;replace a2:=cellK hbW a2;replace a3:=cellK hbW a3;replace b1:=cellK hbW b1;replace m0:=cellK hbW m0;replace m1:=cellK hbW m1;replace m2:=cellK hbW m2;replace m3:=cellK hbW m3;replace z0:=cellK hbW z0;replace z1:=cellK hbW z1;replace z2:=cellK hbW z2;replace z3:=cellK hbW z3;replace hoc:=cellK hbW hoc;replace hrc:=cellK hbW hrc;have t0:=zAb a0;have t1:=zAb b1;have t2:=zAb m0;have t3:=zAb z0;have tq:=zAb hoc;have tr:=zAb hrc;dsimp only at t0 t1 t2 t3 tq;have hon:(0:Int)<(on:Int):=by omega
 have hon2:0<on:=by omega
 have hii:(row:Int)<(bn:Int):=by omega
 go_cut [5] from 6 to 17 (fun p W'=>RqAt W V bn (L+1) ((rs.map fun r=>resize r (colsOf rs)).set row ((os.getD 0 []).map (-1*·))) (bs.set row (-v)) p W'/\Below W W W')
 case first=>
  go_region_held3 (Sees w [] W) (exact kp)
   (first
    | (go_at_call 110; ((with_reducible refine (zQ1 (N:=L+1) (k:=m) (s:=⟨rA0,rn0,rc0⟩) (HM.out.below (hbW.trans ((Sees.kept (by assumption)).whole.mono hBW))) (HO.out.below (hbW.trans ((Sees.kept (by assumption)).whole.mono hBW))) HN0.out HL.out H1.out HF0.out).mono ?_); rintro e y1 ⟨⟨⟨sA,sn,sc⟩,rfl,hs⟩,hc1⟩; (have sz1:W.heap.size<=y1.heap.size:=by exact nlt (Sees.kept (by assumption):Kept w [] W _).size hc1.size); (have lt1:=fun (b:Nat) h=>ltl (n:=b) h hc1.size); (obtain ⟨hcc1,hf1⟩:=bcell hc1)))
    | (go_at_call 116; ((with_reducible refine (zHK (a:=z) (HZ.out.below (hbW.trans ((Sees.kept (by assumption)).whole.mono hBW))) HL1.out).mono ?_); rintro e y2 ⟨⟨u,rfl,hu⟩,hc2⟩; (have sz2:W.heap.size<=y2.heap.size:=by exact nlt (Sees.kept (by assumption):Kept w [] W _).size hc2.size); (have lt2:=fun (b:Nat) h=>ltl (n:=b) h hc2.size); (obtain ⟨hcc2,hf2⟩:=bcell hc2)))
    | (go_at_call 126; ((with_reducible refine ((fun _ _=>zQY (p:=⟨V,⟨some ⟨ob,oo,none⟩,on,oc⟩,⟨some rad,bn,rc⟩,⟨bA,bn,bc⟩⟩) (c:=⟨sA,sn,sc⟩) (cl:=(os.getD 0 []).map (-1*·)) (z:=u) (q:=-v) (H.out.below (hbW.trans ((Sees.kept (by assumption)).whole.mono hBW))) rfl (by show bn<=_; omega) rfl (nlt HCr.out (by omega)) hi HL.out HVn.out) (hc1.trans (hc2.mono hc1.size)) (show Sees w [] W y2 from by assumption)).mono ?_); rintro e y3 ⟨⟨⟨n3,⟨o3A,o3n,o3c⟩,⟨r3A,r3n,r3c⟩,⟨b3A,b3n,b3c⟩⟩,rfl,e3,e4,e5,e6,hro⟩,hc3⟩; (dsimp only at e3 e4 e5 e6); (cases e4); (subst e3 e5 e6); (have sz3:W.heap.size<=y3.heap.size:=by exact nlt (Sees.kept (by assumption):Kept w [] W _).size hc3.size); (have lt3:=fun (b:Nat) h=>ltl (n:=b) h hc3.size); (obtain ⟨hcc3,hf3⟩:=bcell hc3); (obtain ⟨hcc13,hf13⟩:=bcell ((hc1.trans (hc2.mono hc1.size)).trans (hc3.mono (nlt hc1.size hc2.size))))))
    | (go_at_call 126; ((with_reducible refine ((fun _=>zQY (p:=⟨V,⟨some ⟨ob,oo,none⟩,on,oc⟩,⟨some rad,bn,rc⟩,⟨bA,bn,bc⟩⟩) (c:=⟨sA,sn,sc⟩) (cl:=(os.getD 0 []).map (-1*·)) (z:=u) (q:=-v) (H.out.below (hbW.trans ((Sees.kept (by assumption)).whole.mono hBW))) rfl (by show bn<=_; omega) rfl (nlt HCr.out (by omega)) hi HL.out HVn.out) (hc1.trans (hc2.mono hc1.size))).mono ?_); rintro e y3 ⟨⟨⟨n3,⟨o3A,o3n,o3c⟩,⟨r3A,r3n,r3c⟩,⟨b3A,b3n,b3c⟩⟩,rfl,e3,e4,e5,e6,hro⟩,hc3⟩; (dsimp only at e3 e4 e5 e6); (cases e4); (subst e3 e5 e6); (have sz3:W.heap.size<=y3.heap.size:=by exact nlt (Sees.kept (by assumption):Kept w [] W _).size hc3.size); (have lt3:=fun (b:Nat) h=>ltl (n:=b) h hc3.size); (obtain ⟨hcc3,hf3⟩:=bcell hc3)))
    | (go_at_call 126; ((with_reducible refine ((fun _=>zQY (p:=⟨V,⟨some ⟨ob,oo,none⟩,on,oc⟩,⟨some rad,bn,rc⟩,⟨bA,bn,bc⟩⟩) (c:=⟨sA,sn,sc⟩) (cl:=(os.getD 0 []).map (-1*·)) (z:=u) (q:=-v) (H.out.below (hbW.trans ((Sees.kept (by assumption)).whole.mono hBW))) rfl (by show bn<=_; omega) rfl (nlt HCr.out (by omega)) hi HL.out HVn.out) (show Sees w [] W y2 from by assumption)).mono ?_); rintro e y3 ⟨⟨⟨n3,⟨o3A,o3n,o3c⟩,⟨r3A,r3n,r3c⟩,⟨b3A,b3n,b3c⟩⟩,rfl,e3,e4,e5,e6,hro⟩,hc3⟩; (dsimp only at e3 e4 e5 e6); (cases e4); (subst e3 e5 e6); (have sz3:W.heap.size<=y3.heap.size:=by exact nlt (Sees.kept (by assumption):Kept w [] W _).size hc3.size); (have lt3:=fun (b:Nat) h=>ltl (n:=b) h hc3.size); (obtain ⟨hcc3,hf3⟩:=bcell hc3); (obtain ⟨hcc23,hf23⟩:=bcell (hc2.trans (hc3.mono hc2.size)))))
    | fail)
  focus
   rename_i hS;(go_wp2_with fail);go_meet
   case rel=>
    have hx:∀ b,b<y2.heap.size->New W.drew.heap.size b->New W b:=(fun _ _ h=>h);obtain ⟨f1,f2⟩:=hro (New W) (VecAt.below hs hc2) (hu.lower sz1);exact ⟨zSG (R:=⟨r3A,b3n,r3c⟩) (S:=⟨b3A,b3n,b3c⟩) sz3 sz2 rfl rfl f1 f2,hS.kept.whole⟩
  focus
   rename_i hS;(go_wp2_with fail);go_meet
   case rel=>
    have hx:∀ b,b<y2.heap.size->New W.drew.heap.size b->b ≠ y2.heap.size/\W.heap.size<=b:=(fun b hb h=>⟨Nat.ne_of_lt hb,h⟩);have hx2:∀ b,b<y2.heap.size->New y1 b->b ≠ y2.heap.size/\W.heap.size<=b:=(fun b hb h=>⟨Nat.ne_of_lt hb,nlt sz1 h⟩);obtain ⟨f1,f2⟩:=hro (fun x=>x ≠ y2.heap.size/\W.heap.size<=x) (VecAt.below ((VecAt.below hs hc2).imp hx fun _ _ hq=>hq.imp hx) (bal)) ((hu.imp hx2).below (bal));exact ⟨zRo (R:=⟨r3A,b3n,r3c⟩) (S:=⟨b3A,b3n,b3c⟩) sz2 (by simp) ((zQI y2).below hc3 (by simp)) rfl rfl f1 f2,hS.kept.whole⟩
  focus
   rename_i hS;(go_wp2_with fail);go_meet
   case rel=>
    have hx:∀ b,b<y1.heap.size->New W.drew.heap.size b->b ≠ y1.heap.size/\W.heap.size<=b:=(fun b hb h=>⟨Nat.ne_of_lt hb,h⟩);obtain ⟨f1,f2⟩:=hro (fun x=>x ≠ y1.heap.size/\W.heap.size<=x) (VecAt.below (VecAt.below (hs.imp hx fun _ _ hq=>hq.imp hx) (bal)) hc2) (hu.imp fun b _ hb=>by simp [New] at hb; omega);exact ⟨zRo (R:=⟨r3A,b3n,r3c⟩) (S:=⟨b3A,b3n,b3c⟩) sz1 (lt2 _ (by simp)) (((zQI y1).below hc2 (by simp)).below hc3 (lt2 _ (by simp))) rfl rfl f1 f2,hS.kept.whole⟩
  focus
   rename_i hS;(go_wp2_with fail);go_meet
   case rel=>
    have lw:W.heap.size<y1.heap.size:=lt1 _ (by simp);obtain ⟨f1,f2⟩:=hro (fun x=>x ≠ W.heap.size/\W.heap.size<=x) ((VecAt.below hs hc2).imp (fun b _ hb=>by simp [New] at hb; omega) fun _ _ hq=>hq.imp fun b _ hb=>by simp [New] at hb; omega) (hu.imp fun b _ hb=>by simp only [New] at hb; omega);exact ⟨zRo (R:=⟨r3A,b3n,r3c⟩) (S:=⟨b3A,b3n,b3c⟩) (nlr _) (lt2 _ (lt1 _ (by simp))) ((((zRu W).below hc1 (by simp)).below hc2 (lt1 _ (by simp))).below hc3 (lt2 _ (lt1 _ (by simp)))) rfl rfl f1 f2,hS.kept.whole⟩
 case rest=>
  obtain ⟨⟨g,R,S,rfl,hg,bG,hRn,hSn,hR,hS⟩,hbc⟩:=hcut;replace hR:MatIs wc (fun x=>x ≠ g) (fun x=>x ≠ g) (L+1) R _:=hR.imp (fun _ _ h=>h.1) fun _ _ hq=>hq.imp fun _ _ h=>h.1
  replace hS:VecIs wc (fun x=>x ≠ g) (fun x=>x ≠ g) (L+1) S _:=hS.imp (fun _ _ h=>h.1) fun _ _ hq=>hq.imp fun _ _ h=>h.1
  obtain ⟨g0,g1,g2,g3,-⟩:=id bG;have sg:=zAb g0;dsimp only at sg;replace a0:=cellK hbc a0;replace a1:=cellK hbc a1;replace a2:=cellK hbc a2;replace a3:=cellK hbc a3;replace b1:=cellK hbc b1;replace m0:=cellK hbc m0;replace m1:=cellK hbc m1;replace m2:=cellK hbc m2;replace m3:=cellK hbc m3;replace hrc:=cellK hbc hrc;have bR':=bR.below hbc s0;have hbW':=hbW.trans (hbc.mono hBW);have hbs:=hbc.size;clear z0 z1 z2 z3 hoc t3 tq bR hbc;go_upto_region 2 with fail
  refine zAp 9 (GrS c0 c1 c2 row bn rc rad ⟨rA1,rn1,rc1⟩ m) (by kernel_rfl) ?_;have hS0:GrS c0 c1 c2 row bn rc rad ⟨rA1,rn1,rc1⟩ m false wc.drew:=⟨⟨m0,m1,m2,m3⟩,a2,b1,hrc⟩;refine tx4 0 1 2 3 hS0 ?_;refine tx1 4 hS0 ?_;refine tx1 5 hS0 ?_;refine tk1 6 ?_;intro K hK;go_simp;have hd:Below wc wc wc.drew:=(brf _ _).drew;refine (zQ1 (N:=L+1) (k:=m) (s:=⟨rA1,rn1,rc1⟩) (HM.out.below (hbW'.trans (hd.mono hbW'.size))) (HR.out.below (hbW'.trans (hd.mono hbW'.size))) HN1.out HL.out H1.out HF1.out).mono ?_;rintro e y ⟨⟨⟨sA,sn,sc⟩,rfl,hs⟩,hc1⟩;have hS1:=zRc hS0 hc1;refine hK.out _ _ hS1 ?_;clear hK K;have h1:Below wc wc y:=hd.trans hc1;have bG1:=bG.below h1 sg;have hR1:=MatAt.below hR h1;have hS1':=VecAt.below hS h1;have bR1:=bR'.below h1 (by omega);have hbw1:=hbW'.trans (h1.mono hbW'.size);have hsy:=h1.size;clear bG hR hS bR' h1;have al:Below y y (y.alloc (.cells #[.slice sA sn sc] 23)):=bal;refine tk1 7 ?_;intro K hK;go_simp;refine hK.out _ _ (zRc hS1 al) ?_;clear hK K;refine tk1 8 ?_;intro K hK;go_simp;refine hK.out _ _ (zRc hS1 al) ?_;clear hK K;rw [zAj] at tr;obtain ⟨k0,k1,k2,k3,kf⟩:=bG1.below al (by omega);have bGF:Box4 ((y.alloc (.cells #[.slice sA sn sc] 23)).setCell ⟨g,1,none⟩ (.slice (some y) 1 1)) g (.int .i64 V) (.slice (some y) 1 1) R.val S.val:=zRA ⟨k0,k1,k2,k3,kf⟩ _;have kx:∀ a:Addr,a.block ≠ g->a.block<(y.alloc (.cells #[.slice sA sn sc] 23)).heap.size->((y.alloc (.cells #[.slice sA sn sc] 23)).setCell ⟨g,1,none⟩ (.slice (some y) 1 1)).cell? a=(y.alloc (.cells #[.slice sA sn sc] 23)).cell? a:=fun a ha _=>cob (bhs _ _ _ _ ha)
  have HQ:=hdq (zSv (V:=V) (b:=y) (o:=⟨sA,sn,sc⟩) kx (by omega) (VecAt.below hs al) (MatAt.below hR1 al) (VecAt.below hS1' al) (fun b _ hb=>by simp only [New] at hb; have:wc.heap.size<=b:=hb; omega) (by go_simp));have HG:=zSg (g:=g) (b':=false) (w':=(y.alloc (.cells #[.slice sA sn sc] 23)).setCell ⟨g,1,none⟩ (.slice (some y) 1 1)) (zRc hS1 al) (by omega) (by omega) (by omega) (by omega) fun p hp=>cob (bhs _ _ _ _ hp)
  have bRF:=(bR1.below al (by omega)).setCell_ne (p:=⟨g,1,none⟩) (v:=.slice (some y) 1 1) (by show g ≠ w.heap.size; omega);have hbF:=(hbw1.trans (al.mono hbw1.size)).setCell (p:=⟨g,1,none⟩) (by show w.heap.size<=g; omega) (.slice (some y) 1 1);have a3F:=(kx ⟨c0,3,none⟩ (by show c0 ≠ g; omega) (by show c0<_; simp; omega)).trans (cellK al (cellK (hd.trans hc1) a3));refine tk1 9 ?_;intro K hK;go_simp;refine hK.out _ _ (by exact HG) ?_;clear hK K;refine zAf (by kernel_rfl) ?_ _;clear hS1' hR1 hs bR1 bG1 k0 k1 k2 k3 kf kx hS0 hS1 al m0 m1 m2 m3 a0 a1 a2 a3 b1 hrc g0 g1 g2 g3 hd hc1 hbw1;show Exit.then _ _ Exit.normal _ ((y.alloc (.cells #[.slice sA sn sc] 23)).setCell ⟨g,1,none⟩ (.slice (some y) 1 1));have sF:g<((y.alloc (.cells #[.slice sA sn sc] 23)).setCell ⟨g,1,none⟩ (.slice (some y) 1 1)).heap.size:=zAb bGF.1;generalize (y.alloc (.cells #[.slice sA sn sc] 23)).setCell ⟨g,1,none⟩ (.slice (some y) 1 1)=WF at *;generalize y.heap.size=yb at *;obtain ⟨k0,k1,k2,k3,-⟩:=bGF;obtain ⟨RA,Rn,Rc⟩:=R;obtain ⟨SA,Sn,Sc⟩:=S;dsimp only [SV.val] at *;subst hRn hSn;have HP1:=hdq (show colsOf [(rs.getD row []).map ((-1:Rat)*·)]<=V from zQ8 (by rw [List.length_map]; exact zBT HCr.out row));have HP2:=hdq (zRP (row:=row) (cl:=(os.getD 0 []).map ((-1:Rat)*·)) HCr.out (by rw [List.length_map]; exact zBT HCo.out 0));go_wp2_with fail
  refine (zQZ (f:=fun t=>-(t+bs.getD row 0)) (caps:=#[.pointer (some c0),.pointer (some c1)]) HQ.out rfl hV rfl (by show _<=5; omega) rfl HP1.out HP2.out (by omega) (fun _ _=>rfl) fun W' z' q' hb' hz' hf'=>by
   have h11:=zRZ (H.out.bounds.below (hbF.trans (hb'.mono hbF.size))) (cellK hb' a3F) (cellK hb' HG.2.2.1) hi hz' (zBn (L:=1000*(L+1+1)) (hf'.add (zAR (VecAt.fit H.out.bounds row))) (by omega)) HL.out (by rw [zAZ]; omega) (by rw [zAZ]; omega);simpa using h11).mono ?_
  rintro e w9 ⟨⟨b9,v9,o9,rfl,hl9,hL9⟩,hb9⟩;have HL9:=hdq hL9;have bR9:=bRF.below hb9 (by omega);have hbe:=hbF.trans (hb9.mono hbF.size);have hl9':=hl9.low (show w.heap.size+1<=WF.heap.size by omega);have hbs9:=hbF.size;clear HQ HG bRF hbF a3F k0 k1 k2 k3 hb9 hl9 hL9;obtain ⟨v0,v1,v2,v3,v4,-⟩:=bR9.stored (.bool b9) (.bool v9.num.ng) (.slice v9.num.A v9.num.n v9.num.c) (.bool v9.den.ng) (.slice v9.den.A v9.den.n v9.den.c);have HB:=hdq (zQ7 (x0:=.bool b9) (x1:=.bool v9.num.ng) (x2:=.slice v9.num.A v9.num.n v9.num.c) (x3:=.bool v9.den.ng) (x4:=.slice v9.den.A v9.den.n v9.den.c) (b:=w) hbe (nlr _));have HO9:=hdq (hl9'.set5 (x0:=.bool b9) (x1:=.bool v9.num.ng) (x2:=.slice v9.num.A v9.num.n v9.num.c) (x3:=.bool v9.den.ng) (x4:=.slice v9.den.A v9.den.n v9.den.c) (b0:=w) (Nat.lt_succ_self _));clear hl9' hbe;obtain ⟨r0,r1,r2,r3,r4,rf⟩:=bR9;dsimp only [limV] at *;go_wp2;try rw [Exit.noGoto_ret]
  exact bodyPost_ret (v:=limV b9 v9) (by simp [results,Tryz.results125,go_sem,v0,v1,v2,v3,v4,limV]) rfl ⟨⟨b9,v9,o9,rfl,HO9.out.low (Nat.le_succ _),HL9.out⟩,HB.out⟩
theorem zRm {l u:Nat} (hl:l ≠ u) {x y:Value} (bL:Box1 W2 l x) (bU:Box1 W2 u y) (f g:Value) (W3:World) (e:W3=(W2.setCell l f).setCell u g) :
  Box1 W3 l f/\Box1 W3 u g/\Fr (fun x=>x=l\/x=u) W2 W3:=by
 subst e;exact ⟨(bL.set f).far (p:=u) (Ne.symm hl) g,(bU.far (p:=l) hl f).set g,((Fr.refl _ W2).set (p:=l) (.inl rfl) f).set (p:=u) (.inr rfl) g⟩
theorem zRb {p:Addr} (h:w.cell? p=some v):w.setCell p v=w:=by
 have e:(w.setCell p v).heap=w.heap:=by
  apply Array.ext_getElem?;intro k;by_cases hp:k=p.block
  ·subst hp;unfold World.cell? at h
   split at h
   ·rename_i cs t f e
    split at h
    ·cases h
    ·rename_i hs;obtain ⟨ho,hv⟩:=Array.getElem?_eq_some_iff.1 h;simp [World.setCell,Array.getElem?_modify,e,hs,<-hv];apply Array.ext_getElem?;intro i;rw [Array.getElem?_setIfInBounds];by_cases hi:p.off=i
     ·subst hi; simp [ho]
     ·simp [hi]
   ·cases h
  ·exact bhs _ _ _ _ hp
 cases w;simp only [World.setCell] at e ⊢;exact congrArg (fun h=>World.mk h _ _ _ _) e
def FreeRet (_w:World) (p:LPV) (row:Nat) (z:QV) (e:Ending) (w':World):Prop:=
 ∃ (c0 c1 c2 c3:Nat) (m:QV),e = .returned (.tuple #[.agg #[.func (.func 125) #[] #[.pointer (some c0),.pointer (some c1),.pointer (some c2),.pointer (some c3)]],.agg #[.func (.func 128) #[] #[]]])/\
  BoxL w' c0 p/\w'.cell? c1=some (.int .i64 (row:Int))/\BoxQ w' c2 m/\BoxQ w' c3 z/\QIs w' AllB 1 m (-1)
theorem zSe :Calls Tryz.prog 128 #[] w fun e w'=>e = .returned (limV true q0V)/\Below w w w':=by
 go_enter Tryz.func128,Tryz.ntmps128
 go_wp2_with fail
 exact bodyPost_ret (v:=limV true q0V) (by simp [results,Tryz.results128,go_sem,limV,q0V]) rfl ⟨rfl,bal⟩
theorem zR0 :
  Calls Tryz.prog 54 #[p.val,z.val,.int .i64 (row:Int)] w fun e w'=>FreeRet w p row z e w'/\Below w w w':=by
 obtain ⟨n,⟨oA,on,oc⟩,⟨rA,rn,rc⟩,⟨bA,bn,bc⟩⟩:=p;dsimp only [LPV.val,SV.val];go_enter Tryz.func54,Tryz.ntmps54
 go_upto_region 1 with fail
 refine zAo (fun W=>Below w w W/\Box4 W w (.int .i64 n) (.slice oA on oc) (.slice rA rn rc) (.slice bA bn bc)/\Box4 W (w+1) (.bool z.num.ng) (.slice z.num.A z.num.n z.num.c) (.bool z.den.ng) (.slice z.den.A z.den.n z.den.c)/\Box1 W (w+1+1) (.int .i64 (row:Int))/\Box1 W (w+1+1+1) (.nilFunc)/\Box1 W (w+1+1+1+1) (.nilFunc)/\w.heap.size<W.heap.size/\w.heap.size+1<W.heap.size/\w.heap.size+1+1<W.heap.size/\w.heap.size+1+1+1<W.heap.size/\w.heap.size+1+1+1+1<W.heap.size) ⟨(az (az (az (az (az (brf _ _)))))),bx4,bx4,⟨by go_simp,by intro o; go_simp⟩,⟨by go_simp,by intro o; go_simp⟩,⟨by go_simp,by intro o; go_simp⟩,by simp <;> omega,by simp <;> omega,by simp <;> omega,by simp <;> omega,by simp <;> omega⟩ ?_;rintro W ⟨hbW,bP,bZ,bI,bL,bU,s0,s1,s2,s3,s4⟩;have hBW:=hbW.size;have ne02:¬ (w.heap.size=w.heap.size+1+1):=by omega
 have ne03:¬ (w.heap.size=w.heap.size+1+1+1):=by omega
 have ne04:¬ (w.heap.size=w.heap.size+1+1+1+1):=by omega
 have ne13:¬ (w.heap.size+1=w.heap.size+1+1+1):=by omega
 have ne14:¬ (w.heap.size+1=w.heap.size+1+1+1+1):=by omega
 have ne24:¬ (w.heap.size+1+1=w.heap.size+1+1+1+1):=by omega
 go_wp2_with fail
 refine (zAN (-1) (by decide) (by decide) _).mono ?_;rintro e w1 ⟨⟨m,rfl,hm⟩,hb1⟩;replace bP:=bP.below hb1 s0;replace bZ:=bZ.below hb1 s1;replace bI:=bI.below hb1 s2;replace bL:=bL.below hb1 s3;replace bU:=bU.below hb1 s4;have hb01:=hbW.trans (hb1.mono hBW);have h1s:=hb1.size;clear hb1 hbW;go_upto_region 2 with fail
 have al:Below w1 w1 (w1.alloc (.cells #[.bool m.num.ng,.slice m.num.A m.num.n m.num.c,.bool m.den.ng,.slice m.den.A m.den.n m.den.c] 30)):=bal;have bM:=zAA (zAd w1 (.cells #[.bool m.num.ng,.slice m.num.A m.num.n m.num.c,.bool m.den.ng,.slice m.den.A m.den.n m.den.c] 30) rfl);replace bP:=bP.below al (by omega);replace bZ:=bZ.below al (by omega);replace bI:=bI.below al (by omega);replace bL:=bL.below al (by omega);replace bU:=bU.below al (by omega);replace hm:=(hm.below al).qis (L:=1) ⟨by decide +kernel,by decide +kernel⟩;replace hb01:=hb01.trans (al.mono hb01.size);have hs9:=al.size;clear al;generalize w1.alloc (.cells #[.bool m.num.ng,.slice m.num.A m.num.n m.num.c,.bool m.den.ng,.slice m.den.A m.den.n m.den.c] 30)=W2 at *;generalize w1.heap.size=mb at *;obtain ⟨l0,lf⟩:=id bL;obtain ⟨u0,uf⟩:=id bU;go_wp2_with fail
 obtain ⟨bL3,bU3,fr3⟩:=zRm (by omega:w.heap.size+1+1+1 ≠ w.heap.size+1+1+1+1) bL bU (.func (.func 125) #[] #[.pointer (some w),.pointer (some ⟨w+1+1,0,none⟩),.pointer (some mb),.pointer (some ⟨w+1,0,none⟩)]) (.func (.func 128) #[] #[]) _ rfl;clear bL bU l0 lf u0 uf;generalize (W2.setCell ⟨w+1+1+1,0,none⟩ (.func (.func 125) #[] #[.pointer (some w),.pointer (some ⟨w+1+1,0,none⟩),.pointer (some mb),.pointer (some ⟨w+1,0,none⟩)])).setCell ⟨w+1+1+1+1,0,none⟩ (.func (.func 128) #[] #[])=W3 at *;obtain ⟨x0,xf⟩:=id bL3;obtain ⟨y0,yf⟩:=id bU3;refine zAp 3 (fun _ w'=>w'.cell? ⟨w+1+1+1,0,none⟩=some (.func (.func 125) #[] #[.pointer (some w),.pointer (some ⟨w+1+1,0,none⟩),.pointer (some mb),.pointer (some ⟨w+1,0,none⟩)])/\w'.cell? ⟨w+1+1+1+1,0,none⟩=some (.func (.func 128) #[] #[])) (by kernel_rfl) ?_;have hS0:W3.drew.cell? ⟨w+1+1+1,0,none⟩=some (.func (.func 125) #[] #[.pointer (some w),.pointer (some ⟨w+1+1,0,none⟩),.pointer (some mb),.pointer (some ⟨w+1,0,none⟩)])/\W3.drew.cell? ⟨w+1+1+1+1,0,none⟩=some (.func (.func 128) #[] #[]):=⟨x0,y0⟩;refine tx1 0 hS0 ?_;refine tx1 1 hS0 ?_;refine tk1 2 ?_;intro K hK;go_simp;have e1:(W3.setCell ⟨w+1+1+1,0,none⟩ (.func (.func 125) #[] #[.pointer (some w),.pointer (some ⟨w+1+1,0,none⟩),.pointer (some mb),.pointer (some ⟨w+1,0,none⟩)]))=W3:=zRb x0;rw [e1];refine hK.out _ _ hS0 ?_;clear hK K e1;refine tk1 3 ?_;intro K hK;go_simp;have e1:(W3.setCell ⟨w+1+1+1+1,0,none⟩ (.func (.func 128) #[] #[]))=W3:=zRb y0;rw [e1];refine hK.out _ _ hS0 ?_;clear hK K e1;refine zAf (by kernel_rfl) ?_ _;have bP3:BoxL W3 w ⟨n,⟨oA,on,oc⟩,⟨rA,rn,rc⟩,⟨bA,bn,bc⟩⟩:=bP.heap (fr3.block _ (by omega) (by omega));have bZ3:BoxQ W3 (w+1) z:=bZ.heap (fr3.block _ (by omega) (by omega));have bM3:BoxQ W3 mb m:=bM.heap (fr3.block _ (zAb bM.1) (by omega));have bI3:=(cob (a:=⟨w+1+1,0,none⟩) (fr3.block (w+1+1) (by omega) (by omega))).trans bI.1;have hm3:QIs W3 AllB 1 m (-1):=(hm.keep fun p hp hl=>fr3.cell hl (by simp only [New] at hp; omega)).imp fun _ _ _=>trivial
 have hbf:=hb01.trans (fr3.below (B:=w) (by omega) (by intro b hb; omega))
 have HF:Hid (FreeRet w ⟨n,⟨oA,on,oc⟩,⟨rA,rn,rc⟩,⟨bA,bn,bc⟩⟩ row z (.returned (.tuple #[.agg #[.func (.func 125) #[] #[.pointer (some w),.pointer (some ⟨w+1+1,0,none⟩),.pointer (some mb),.pointer (some ⟨w+1,0,none⟩)]],.agg #[.func (.func 128) #[] #[]]])) W3.drew):=
  ⟨_,_,_,_,m,rfl,bP3.below (brf _ _).drew (zAb bP3.1),(cellK (brf _ _).drew bI3),bM3.below (brf _ _).drew (zAb bM3.1),bZ3.below (brf _ _).drew (zAb bZ3.1),hm3.below (brf _ _).drew⟩
 have HB:=hdq hbf.drew;clear bP bZ bM bI hm bP3 bZ3 bM3 bI3 hm3 hbf hb01 fr3 hS0 bL3 bU3;go_wp2;try rw [Exit.noGoto_ret]
 exact bodyPost_ret (v:=.tuple #[.agg #[.func (.func 125) #[] #[.pointer (some w),.pointer (some ⟨w+1+1,0,none⟩),.pointer (some mb),.pointer (some ⟨w+1,0,none⟩)]],.agg #[.func (.func 128) #[] #[]]]) (by simp [results,Tryz.results54,go_sem,x0,y0]) rfl ⟨HF.out,HB.out⟩
theorem zR5 {m:QV} {base:Rat} (b0:BoxQ w c m) (hm:QIs w Y L m base) (hz:QIs w Z M z q) (hs:QFit N (q+base)) (hL:L<=LM) (hM:M<=LM) (hN:N<=LM) :
  Calls Tryz.prog 131 #[z.val,.pointer (some c)] w fun e w'=>QRet w (-(q+base)) e w'/\Below w w w':=by
 obtain ⟨m0,m1,m2,m3,-⟩:=b0;have HL:=hdq hL;have HM:=hdq hM;have HN:=hdq hN;have HS:=hdq hs;have HZ:=hdq hz;have HB:=hdq hm;clear hL hM hN hs hz hm;go_enter Tryz.func131,Tryz.ntmps131
 go_upto_region 1 with fail
 refine zAo (fun W=>Below w w W/\Box4 W w (.bool z.num.ng) (.slice z.num.A z.num.n z.num.c) (.bool z.den.ng) (.slice z.den.A z.den.n z.den.c)/\Box4 W (w+1) (.bool false) (.slice none 0 0) (.bool false) (.slice none 0 0)/\w.heap.size<W.heap.size/\w.heap.size+1<W.heap.size) ⟨(az (az (brf _ _))),bx4,bx4,by simp <;> omega,by simp <;> omega⟩ ?_;rintro W ⟨hbW,bZ,bR,s0,s1⟩;have hBW:=hbW.size;obtain ⟨z0,z1,z2,z3,-⟩:=id bZ;replace m0:=cellK hbW m0;replace m1:=cellK hbW m1;replace m2:=cellK hbW m2;replace m3:=cellK hbW m3;go_wp2_with fail
 refine (zCD (a:=z) (b:=m) (HZ.out.below hbW) (HB.out.below hbW) HM.out HL.out).mono ?_;rintro e w1 ⟨⟨x,rfl,hx⟩,hb1⟩;have bR1:=bR.below hb1 s1;have hb01:=hbW.trans (hb1.mono hBW);have h1s:=hb1.size;clear bR hb1 bZ z0 z1 z2 z3 m0 m1 m2 m3 hbW;go_wp2_with fail
 refine (zHK (a:=x) (hx.qis HS.out) HN.out).mono ?_;rintro e w2 ⟨⟨y,rfl,hy⟩,hb2⟩;have bR2:=bR1.below hb2 (by omega);have hb02:=hb01.trans (hb2.mono hb01.size);have hy':=hy.lower (show w.heap.size+1+1<=w1.heap.size by omega);clear bR1 hb01 hb2 hx hy;obtain ⟨v0,v1,v2,v3,-⟩:=bR2.stored (.bool y.num.ng) (.slice y.num.A y.num.n y.num.c) (.bool y.den.ng) (.slice y.den.A y.den.n y.den.c);have HB':=hdq (zAl (x0:=.bool y.num.ng) (x1:=.slice y.num.A y.num.n y.num.c) (x2:=.bool y.den.ng) (x3:=.slice y.den.A y.den.n y.den.c) (b:=w+1) hb02 (by omega));have HY:=hdq ((hy'.set4 (b:=w+1) (x0:=.bool y.num.ng) (x1:=.slice y.num.A y.num.n y.num.c) (x2:=.bool y.den.ng) (x3:=.slice y.den.A y.den.n y.den.c) (by omega)).lower (show w.heap.size<=_ by omega));obtain ⟨r0,r1,r2,r3,rf⟩:=id bR2;clear hb02 hy';go_wp2;try rw [Exit.noGoto_ret]
 exact bodyPost_ret (v:=y.val) (by simp [results,Tryz.results131,go_sem,v0,v1,v2,v3]) rfl ⟨⟨y,rfl,HY.out⟩,HB'.out⟩
theorem zR6 {m:QV} {base:Rat} (b0:BoxQ w c m) (hm:QIs w Y L m base) (hz:QIs w Z M z q) (hL:L<=LM) (hM:M<=LM) :
  Calls Tryz.prog 133 #[z.val,.pointer (some c)] w fun e w'=>QRet w (q-base) e w'/\Below w w w':=by
 obtain ⟨m0,m1,m2,m3,-⟩:=b0;have HL:=hdq hL;have HM:=hdq hM;have HZ:=hdq hz;have HB:=hdq hm;clear hL hM hz hm;go_enter Tryz.func133,Tryz.ntmps133
 go_upto_region 1 with fail
 refine zAo (fun W=>Below w w W/\Box4 W w (.bool z.num.ng) (.slice z.num.A z.num.n z.num.c) (.bool z.den.ng) (.slice z.den.A z.den.n z.den.c)/\Box4 W (w+1) (.bool false) (.slice none 0 0) (.bool false) (.slice none 0 0)/\w.heap.size<W.heap.size/\w.heap.size+1<W.heap.size) ⟨(az (az (brf _ _))),bx4,bx4,by simp <;> omega,by simp <;> omega⟩ ?_;rintro W ⟨hbW,bZ,bR,s0,s1⟩;have hBW:=hbW.size;obtain ⟨z0,z1,z2,z3,-⟩:=id bZ;replace m0:=cellK hbW m0;replace m1:=cellK hbW m1;replace m2:=cellK hbW m2;replace m3:=cellK hbW m3;go_wp2_with fail
 refine (zDx (a:=z) (b:=m) (HZ.out.below hbW) (HB.out.below hbW) HM.out HL.out).mono ?_;rintro e w2 ⟨⟨y,rfl,hy⟩,hb1⟩;have bR2:=bR.below hb1 s1;have hb02:=hbW.trans (hb1.mono hBW);have hy':=hy.lower (show w.heap.size+1+1<=W.heap.size by omega);clear bR hb1 bZ z0 z1 z2 z3 m0 m1 m2 m3 hbW hy;obtain ⟨v0,v1,v2,v3,-⟩:=bR2.stored (.bool y.num.ng) (.slice y.num.A y.num.n y.num.c) (.bool y.den.ng) (.slice y.den.A y.den.n y.den.c);have HB':=hdq (zAl (x0:=.bool y.num.ng) (x1:=.slice y.num.A y.num.n y.num.c) (x2:=.bool y.den.ng) (x3:=.slice y.den.A y.den.n y.den.c) (b:=w+1) hb02 (by omega));have HY:=hdq ((hy'.set4 (b:=w+1) (x0:=.bool y.num.ng) (x1:=.slice y.num.A y.num.n y.num.c) (x2:=.bool y.den.ng) (x3:=.slice y.den.A y.den.n y.den.c) (by omega)).lower (show w.heap.size<=_ by omega));obtain ⟨r0,r1,r2,r3,rf⟩:=id bR2;clear hb02 hy';go_wp2;try rw [Exit.noGoto_ret]
 exact bodyPost_ret (v:=y.val) (by simp [results,Tryz.results133,go_sem,v0,v1,v2,v3]) rfl ⟨⟨y,rfl,HY.out⟩,HB'.out⟩
structure TgAt (w:World) (c0 g c2 V L n:Nat) (R S gs:SV) (m:QV) (gl bs:List Rat) (rs:List (List Rat)) (base:Rat):Prop where
 ne0:c0 ≠ g
 ne2:c2 ≠ g
 prog:∃ o:SV,Box4 w g (.int .i64 V) o.val R.val S.val
 rn:R.n=n
 sn:S.n=n
 rows:MatIs w (fun x=>x ≠ g) (fun x=>x ≠ g) L R rs
 bnds:VecIs w (fun x=>x ≠ g) (fun x=>x ≠ g) L S bs
 gain:w.cell? c0=some gs.val
 vec:VecIs w (fun x=>x ≠ g) (fun x=>x ≠ g) L gs gl
 box:BoxQ w c2 m
 val:QIs w (fun x=>x ≠ g) L m base
section
variable {w w':World} {c0 g c2 V L n:Nat} {R S gs:SV} {m:QV} {gl bs:List Rat} {rs:List (List Rat)} {base:Rat}
theorem TgAt.below (h:TgAt w c0 g c2 V L n R S gs m gl bs rs base) (hb:Below w w w'):TgAt w' c0 g c2 V L n R S gs m gl bs rs base:=by
 obtain ⟨o,ho⟩:=h.prog;exact ⟨h.ne0,h.ne2,⟨o,ho.below hb (zAb ho.1)⟩,h.rn,h.sn,MatAt.below h.rows hb,VecAt.below h.bnds hb,cellK hb h.gain,VecAt.below h.vec hb,h.box.below hb (zAb h.box.1),h.val.below hb⟩
theorem TgAt.fr (h:TgAt w c0 g c2 V L n R S gs m gl bs rs base) (hf:Fr (fun x=>x=g) w w') {o:SV} (ho:Box4 w' g (.int .i64 V) o.val R.val S.val):TgAt w' c0 g c2 V L n R S gs m gl bs rs base:=
 have hk:∀ a:Addr,a.block ≠ g->a.block<w->w'.cell? a=w.cell? a:=fun _ ha hl=>hf.cell hl ha
 ⟨h.ne0,h.ne2,⟨o,ho⟩,h.rn,h.sn,h.rows.keep hk fun _ _ hq=>hq.keep hk,h.bnds.keep hk fun _ _ hq=>hq.keep hk,(hk _ h.ne0 (zAb h.gain)).trans h.gain,h.vec.keep hk fun _ _ hq=>hq.keep hk,h.box.heap (hf.block _ (zAb h.box.1) h.ne2),h.val.keep hk⟩
theorem TgAt.store (h:TgAt w c0 g c2 V L n R S gs m gl bs rs base) {o:SV} {ol:List Rat} (ho:VecIs w (fun x=>x ≠ g) (fun x=>x ≠ g) L o ol) (WF:World) (e:WF=(w.setCell ⟨g,1,none⟩ (.slice (some w) 1 1)).alloc (.cells #[o.val] 23)) :
  TgAt WF c0 g c2 V L n R S gs m gl bs rs base/\LPIs WF AllB AllB L ⟨V,⟨some ⟨w,0,none⟩,1,1⟩,R,S⟩ [ol] rs bs/\Box4 WF g (.int .i64 V) (.slice (some w) 1 1) R.val S.val/\Fr (fun x=>x=g) w WF:=by
 obtain ⟨o0,hg⟩:=h.prog;have lg:g<w.heap.size:=zAb hg.1;rw [<-zRx _ _ (by exact lg)] at e;subst e;have al:Below w w (w.alloc (.cells #[o.val] 23)):=bal;have bx:=zRA (hg.below al lg) (.slice (some w) 1 1);have kx:∀ a:Addr,a.block ≠ g->a.block<(w.alloc (.cells #[o.val] 23)).heap.size->((w.alloc (.cells #[o.val] 23)).setCell ⟨g,1,none⟩ (.slice (some w) 1 1)).cell? a=(w.alloc (.cells #[o.val] 23)).cell? a:=fun a ha _=>cob (bhs _ _ _ _ ha)
 exact ⟨(h.below al).fr ((Fr.refl (fun x=>x=g) _).set (p:=⟨g,1,none⟩) rfl _) (o:=⟨some ⟨w,0,none⟩,1,1⟩) bx,
  zSv kx (by omega) (VecAt.below ho al) (MatAt.below h.rows al) (VecAt.below h.bnds al) (fun _ _ h=>h) (by go_simp),bx,(Fr.of_below (G:=fun x=>x=g) al).set (p:=⟨g,1,none⟩) rfl _⟩
end
theorem Fr.old (h:Fr (fun x=>G x\/w.heap.size<=x) w w'):Fr G w w':=
 ⟨h.os,h.tape,h.output,h.size,fun c hc hg=>h.block c hc fun hx=>hx.elim hg fun h=>by omega⟩
theorem zRt (h:Fr G w w') (hb:w.heap.size<=b):Fr G w (set5 w' b x0 x1 x2 x3 x4):=by
 have h0:=h.mono (H:=fun x=>G x\/w.heap.size<=x) fun _=>.inl
 have h1:=h0.set (p:=b) (.inr hb) x0;have h2:=h1.set (p:=⟨b,1,none⟩) (.inr hb) x1;have h3:=h2.set (p:=⟨b,2,none⟩) (.inr hb) x2;have h4:=h3.set (p:=⟨b,3,none⟩) (.inr hb) x3;have h5:=h4.set (p:=⟨b,4,none⟩) (.inr hb) x4;exact Fr.old h5
theorem Box4.setNe {p:Addr} (h:Box4 w b v0 v1 v2 v3) (hp:b ≠ p.block):Box4 (w.setCell p v) b v0 v1 v2 v3:=h.heap (bhs _ _ _ _ hp)
theorem Box4.five {b':Nat} (h:Box4 w b u0 u1 u2 u3) (hb:b ≠ b'):Box4 (set5 w b' x0 x1 x2 x3 x4) b u0 u1 u2 u3:=by
 have h1:=h.setNe (p:=b') (v:=x0) hb;have h2:=h1.setNe (p:=⟨b',1,none⟩) (v:=x1) hb;have h3:=h2.setNe (p:=⟨b',2,none⟩) (v:=x2) hb;have h4:=h3.setNe (p:=⟨b',3,none⟩) (v:=x3) hb;exact h4.setNe (p:=⟨b',4,none⟩) (v:=x4) hb
theorem zSp {gs:SV} {m:QV} {gl:List Rat} {base:Rat} (h:TgAt w c0 g c2 V L n R S gs m gl bs rs base) (hV:V<=4) (hn:n<=5) (hL:L<=200000) (hg:gl.length<=V) (hcr:colsOf rs<=V) :
  Calls Tryz.prog 132 #[.pointer (some c0),.pointer (some g),.pointer (some c2)] w fun e w'=>LimRet w (prob1 V [gl] rs bs) (fun t=>t-base) e w'/\TgAt w' c0 g c2 V L n R S gs m gl bs rs base/\Fr (fun x=>x=g) w w':=by
 have H:=hdq h;have HC:=hdq hcr;have HG:=hdq (zQ8 hg);obtain ⟨o,bG⟩:=h.prog;have k0:=h.gain;have n0:=h.ne0;have e1:=h.rn;have e2:=h.sn;obtain ⟨oA,on,oc⟩:=o;obtain ⟨RA,Rn,Rc⟩:=R;obtain ⟨SA,Sn,Sc⟩:=S;obtain ⟨gA,gn,gc⟩:=gs;dsimp only at e1 e2;clear h hcr hg;subst e1 e2;dsimp only [SV.val] at *;go_enter Tryz.func132,Tryz.ntmps132
 go_upto_region 1 with fail
 refine zAo (fun W=>Below w w W/\Box5 W w (.bool false) (.bool false) (.slice none 0 0) (.bool false) (.slice none 0 0)/\w.heap.size<W.heap.size) ⟨(az (brf _ _)),⟨by go_simp,by go_simp,by go_simp,by go_simp,by go_simp,by intro o; go_simp⟩,by simp <;> omega⟩ ?_;rintro W ⟨hbW,bR,s0⟩;have hBW:=hbW.size;have bG1:=bG.below hbW (zAb bG.1);replace k0:=cellK hbW k0;obtain ⟨q0,q1,q2,q3,qf⟩:=id bG1;have lg:=zAb bG.1;dsimp only at lg;have lgW:g<W.heap.size:=ltl lg hBW;go_upto_region 2 with fail
 have bR1:=bR.setCell_ne (p:=⟨g,1,none⟩) (v:=.slice (some W) 1 1) (by show g ≠ w.heap.size; omega);have bRF:=bR1.below ((brf _ _).alloc (nlr _) (.cells #[.slice gA gn gc] 23)) (by simpa [World.setCell] using s0);obtain ⟨hT,hQ,bGF,hf⟩:=(H.out.below hbW).store (o:=⟨gA,gn,gc⟩) (H.out.below hbW).vec _ rfl;have HT:=hdq hT;have HQ:=hdq hQ;have hFR:=(Fr.of_below hbW).trans hf;have hWF:=hf.size;clear bG bR q0 q1 q2 q3 qf k0 hT hQ hf bR1 bG1;dsimp only [SV.val] at *;generalize (W.setCell ⟨g,1,none⟩ (.slice (some W) 1 1)).alloc (.cells #[.slice gA gn gc] 23)=WF at *;generalize W.heap.size=yb at *;obtain ⟨k0,k1,k2,k3,kf⟩:=bGF;go_wp2_with fail
 refine (zQZ (f:=fun t=>t-base) (caps:=#[.pointer (some c2)]) HQ.out rfl hV rfl (by show _<=5; omega) rfl HG.out HC.out hL (fun _ _=>rfl) fun W' z' q' hb' hz' hf'=>by
  have h11:=zR6 ((HT.out.below hb').box) ((HT.out.below hb').val) hz' (by rw [zAZ]; omega) (by rw [zAZ]; omega);simpa using h11).mono ?_
 rintro e w9 ⟨⟨b9,v9,o9,rfl,hl9,hL9⟩,hb9⟩;have HL9:=hdq hL9;have bR9:=bRF.below hb9 (by omega);have bG9:=(show Box4 WF g (.int .i64 V) (.slice (some yb) 1 1) (.slice RA Sn Rc) (.slice SA Sn Sc) from ⟨k0,k1,k2,k3,kf⟩).below hb9 (by omega);have hF9:=hFR.trans (Fr.of_below hb9);have hl9':=hl9.low (show w.heap.size+1<=WF.heap.size by omega);obtain ⟨v0,v1,v2,v3,v4,-⟩:=bR9.stored (.bool b9) (.bool v9.num.ng) (.slice v9.num.A v9.num.n v9.num.c) (.bool v9.den.ng) (.slice v9.den.A v9.den.n v9.den.c);have hF5:=zRt (x0:=.bool b9) (x1:=.bool v9.num.ng) (x2:=.slice v9.num.A v9.num.n v9.num.c) (x3:=.bool v9.den.ng) (x4:=.slice v9.den.A v9.den.n v9.den.c) (b:=w) hF9 (nlr _);have HT5:=hdq (H.out.fr hF5 (o:=⟨some ⟨yb,0,none⟩,1,1⟩) (bG9.five (by omega)));have HF5:=hdq hF5;have HO9:=hdq (hl9'.set5 (x0:=.bool b9) (x1:=.bool v9.num.ng) (x2:=.slice v9.num.A v9.num.n v9.num.c) (x3:=.bool v9.den.ng) (x4:=.slice v9.den.A v9.den.n v9.den.c) (b0:=w) (Nat.lt_succ_self _));clear hl9' hl9 hL9 hF5 hF9 hFR bG9 HT HQ bRF hb9 k0 k1 k2 k3 kf;obtain ⟨r0,r1,r2,r3,r4,rf⟩:=bR9;dsimp only [limV] at *;go_wp2;try rw [Exit.noGoto_ret]
 exact bodyPost_ret (v:=limV b9 v9) (by simp [results,Tryz.results132,go_sem,v0,v1,v2,v3,v4,limV]) rfl ⟨⟨b9,v9,o9,rfl,HO9.out.low (Nat.le_succ _),HL9.out⟩,HT5.out,HF5.out⟩
theorem zSo {gs:SV} {m:QV} {gl:List Rat} {base:Rat} (h:TgAt w c0 g c2 V L n R S gs m gl bs rs base) (hV:V<=4) (hn:n<=5) (hL:L<=200000) (hf:∀ i,QFit L (gl.getD i 0)) (hbf:QFit L base) (hg:gl.length<=V) (hcr:colsOf rs<=V) :
  Calls Tryz.prog 130 #[.pointer (some c0),.pointer (some g),.pointer (some c2)] w fun e w'=>LimRet w (prob1 V [gl.map (-1*·)] rs bs) (fun t=>-(t+base)) e w'/\TgAt w' c0 g c2 V L n R S gs m gl bs rs base/\Fr (fun x=>x=g) w w':=by
 have H:=hdq h;have HC:=hdq hcr;have HFL:=hdq (zRd hf);have HBF:=hdq hbf;have HG:=hdq (show colsOf [gl.map ((-1:Rat)*·)]<=V from zQ8 (by rw [List.length_map]; exact hg));have HL:Hid (L<=LM):=hdq (by rw [zAZ]; omega);have H1:Hid (1<=LM):=hdq (by rw [zAZ]; omega);have HN:Hid (gs.n<=1000000):=hdq (by rw [<-h.vec.len]; omega);obtain ⟨o,bG⟩:=h.prog;have k0:=h.gain;have n0:=h.ne0;have e1:=h.rn;have e2:=h.sn;obtain ⟨oA,on,oc⟩:=o;obtain ⟨RA,Rn,Rc⟩:=R;obtain ⟨SA,Sn,Sc⟩:=S;obtain ⟨gA,gn,gc⟩:=gs;dsimp only at e1 e2 HN;clear h hcr hg hf hbf;subst e1 e2;dsimp only [SV.val] at *;go_enter Tryz.func130,Tryz.ntmps130
 go_upto_region 1 with fail
 refine zAo (fun W=>Below w w W/\Box5 W w (.bool false) (.bool false) (.slice none 0 0) (.bool false) (.slice none 0 0)/\w.heap.size<W.heap.size) ⟨(az (brf _ _)),⟨by go_simp,by go_simp,by go_simp,by go_simp,by go_simp,by intro o; go_simp⟩,by simp <;> omega⟩ ?_;rintro W ⟨hbW,bR,s0⟩;have hBW:=hbW.size;replace k0:=cellK hbW k0;have lg:=zAb bG.1;dsimp only at lg;refine zAp 5 (fun _ w'=>w'.cell? c0=some (.slice gA gn gc)) (by kernel_rfl) ?_;have hS0:W.drew.cell? c0=some (.slice gA gn gc):=k0;refine tx1 1 hS0 ?_;refine tk1 0 ?_;intro K hK;go_simp;refine (zAN (-1) (by decide) (by decide) _).mono ?_;rintro e w1 ⟨⟨u,rfl,hu⟩,hb1⟩;have hd:Below W W W.drew:=(brf _ _).drew;have h1:Below W W w1:=hd.trans hb1;refine hK.out _ _ (cellK h1 k0) ?_;clear hK K;refine tk1 2 ?_;intro K hK;go_simp;refine (zQ1 (N:=L) (k:=u) (s:=⟨gA,gn,gc⟩) (hu.qis (L:=1) ⟨by decide +kernel,by decide +kernel⟩) (H.out.vec.below (hbW.trans (h1.mono hBW))) HN.out HL.out H1.out HFL.out).mono ?_;rintro e w2 ⟨⟨⟨sA,sn,sc⟩,rfl,hs⟩,hb2⟩;have h2:Below W W w2:=h1.trans (hb2.mono h1.size);refine hK.out _ _ (cellK h2 k0) ?_;clear hK K;have hs':VecIs w2 (fun x=>x ≠ g) (fun x=>x ≠ g) L ⟨sA,sn,sc⟩ (gl.map (-1*·)):=hs.imp (fun b _ hb=>by simp only [New] at hb; have:=h1.size; omega) fun _ _ hq=>hq.imp fun b _ hb=>by simp only [New] at hb; have:=h1.size; omega
 have hb02:=hbW.trans (h2.mono hBW);have bR2:=bR.below h2 s0;have hs2:=h2.size;have k2:=cellK h2 k0;clear hs hb1 hb2 hu h1 h2 hd bR hS0;have lgW:g<w2.heap.size:=by omega
 have bG2:=bG.below hb02 lg;obtain ⟨q0,q1,q2,q3,qf⟩:=id bG2;have al:Below w2 w2 (w2.alloc (.cells #[.slice sA sn sc] 23)):=bal;refine tk1 3 ?_;intro K hK;go_simp;refine hK.out _ _ (cellK al k2) ?_;clear hK K;refine tk1 4 ?_;intro K hK;go_simp;refine hK.out _ _ (cellK al k2) ?_;clear hK K;refine tk1 5 ?_;intro K hK;go_simp;have bR1:=bR2.setCell_ne (p:=⟨g,1,none⟩) (v:=.slice (some w2) 1 1) (by show g ≠ w.heap.size; omega);have s02:w.heap.size<w2.heap.size:=by omega
 have bRF:=bR1.below ((brf _ _).alloc (nlr _) (.cells #[.slice sA sn sc] 23)) (by simpa [World.setCell] using s02);obtain ⟨hT,hQ,bGF,hf⟩:=(H.out.below hb02).store (o:=⟨sA,sn,sc⟩) hs' _ rfl;refine hK.out _ _ hT.gain ?_;clear hK K;refine zAf (by kernel_rfl) ?_ _;have HT:=hdq hT;have HQ:=hdq hQ;have hFR:=(Fr.of_below hb02).trans hf;have hWF:=hf.size;clear bG q0 q1 q2 q3 qf k0 k2 hT hQ hf bR1 bG2 bR2 al hs';dsimp only [SV.val] at *;generalize (w2.setCell ⟨g,1,none⟩ (.slice (some w2) 1 1)).alloc (.cells #[.slice sA sn sc] 23)=WF at *;generalize w2.heap.size=yb at *;obtain ⟨k0,k1,k2,k3,kf⟩:=bGF;go_wp2_with fail
 refine (zQZ (f:=fun t=>-(t+base)) (caps:=#[.pointer (some c2)]) HQ.out rfl hV rfl (by show _<=5; omega) rfl HG.out HC.out hL (fun _ _=>rfl) fun W' z' q' hb' hz' hf'=>by
  have h11:=zR5 ((HT.out.below hb').box) ((HT.out.below hb').val) hz' (zBn (L:=1000*(L+1)) (hf'.add (zAR HBF.out)) (by omega)) (by rw [zAZ]; omega) (by rw [zAZ]; omega) (by rw [zAZ]; omega);simpa using h11).mono ?_
 rintro e w9 ⟨⟨b9,v9,o9,rfl,hl9,hL9⟩,hb9⟩;have HL9:=hdq hL9;have bR9:=bRF.below hb9 (by omega);have bG9:=(show Box4 WF g (.int .i64 V) (.slice (some yb) 1 1) (.slice RA Sn Rc) (.slice SA Sn Sc) from ⟨k0,k1,k2,k3,kf⟩).below hb9 (by omega);have hF9:=hFR.trans (Fr.of_below hb9);have hl9':=hl9.low (show w.heap.size+1<=WF.heap.size by omega);obtain ⟨v0,v1,v2,v3,v4,-⟩:=bR9.stored (.bool b9) (.bool v9.num.ng) (.slice v9.num.A v9.num.n v9.num.c) (.bool v9.den.ng) (.slice v9.den.A v9.den.n v9.den.c);have hF5:=zRt (x0:=.bool b9) (x1:=.bool v9.num.ng) (x2:=.slice v9.num.A v9.num.n v9.num.c) (x3:=.bool v9.den.ng) (x4:=.slice v9.den.A v9.den.n v9.den.c) (b:=w) hF9 (nlr _);have HT5:=hdq (H.out.fr hF5 (o:=⟨some ⟨yb,0,none⟩,1,1⟩) (bG9.five (by omega)));have HF5:=hdq hF5;have HO9:=hdq (hl9'.set5 (x0:=.bool b9) (x1:=.bool v9.num.ng) (x2:=.slice v9.num.A v9.num.n v9.num.c) (x3:=.bool v9.den.ng) (x4:=.slice v9.den.A v9.den.n v9.den.c) (b0:=w) (Nat.lt_succ_self _));clear hl9' hl9 hL9 hF5 hF9 hFR bG9 HT HQ bRF hb9 k0 k1 k2 k3 kf;obtain ⟨r0,r1,r2,r3,r4,rf⟩:=bR9;dsimp only [limV] at *;go_wp2;try rw [Exit.noGoto_ret]
 exact bodyPost_ret (v:=limV b9 v9) (by simp [results,Tryz.results130,go_sem,v0,v1,v2,v3,v4,limV]) rfl ⟨⟨b9,v9,o9,rfl,HO9.out.low (Nat.le_succ _),HL9.out⟩,HT5.out,HF5.out⟩
def CellQ (W0:World) (p:Value) (q:Rat) (W:World):Prop:=∃ (g:Nat) (z:QV),p = .pointer (some g)/\W0.heap.size<=g/\BoxQ W g z/\QCan W (New W0) z q/\Below W0 W0 W
def CellV (W0:World) (L:Nat) (p:Value) (l:List Rat) (W:World):Prop:=∃ (g:Nat) (s:SV),p = .pointer (some g)/\W0.heap.size<=g/\W.cell? g=some s.val/\VecIs W (New W0) (New W0) L s l/\Below W0 W0 W
theorem zRw (a:Rat) (l:List Rat) (i:Nat):(l.map (a*·)).getD i 0=a*l.getD i 0:=by
 by_cases h:i<l.length
 ·simp [List.getD,h]
 ·rw [zAw _ _ _ (by simpa using h),zAw _ _ _ (by omega)]; simp
theorem zRa (a:Rat):((1:Int):Rat)*a=a:=by rw [show ((1:Int):Rat)=1 from rfl,Rat.one_mul]
theorem zRg (n:Nat) (f:Nat->Rat) (i:Nat):((List.range n).map f).getD i 0=if i<n then f i else 0:=by
 by_cases h:i<n
 ·simp [List.getD,h]
 ·rw [zAw _ _ _ (by simpa using h),if_neg h]
theorem zRO {la lb:List Rat} (ha:VecIs w X Y L sa la) (hb:VecIs w X' Y' M sb lb) (hL:L<=LM) (hM:M<=LM) (hna:sa.n<=1000000) (hnb:sb.n<=1000000) (hn:n=max la.length lb.length) (hf:∀ i,QFit N (((List.range n).map fun i=>la.getD i 0-lb.getD i 0).getD i 0)) :
  Calls Tryz.prog 129 #[sa.val,sb.val] w fun e w'=>(∃ r:SV,e = .returned r.val/\VecIs w' (New w) (New w) N r ((List.range n).map fun i=>la.getD i 0-lb.getD i 0))/\Below w w w':=by
 refine (zR7 ha hb hL hM hna hnb).mono ?_;rintro e w' ⟨⟨r,rfl,hr⟩,hb⟩;rw [<-ha.len,<-‹VecIs w X' Y' M sb lb›.len,<-hn] at hr;exact ⟨⟨r,rfl,hr.loose hf⟩,hb⟩
def TightRet (w:World) (V L n:Nat) (gl bs:List Rat) (rs:List (List Rat)) (base:Rat) (e:Ending) (w':World):Prop:=
 ∃ (c0 g c2:Nat) (R S gs:SV) (m:QV),e = .returned (.tuple #[.agg #[.func (.func 130) #[] #[.pointer (some c0),.pointer (some g),.pointer (some c2)]],.agg #[.func (.func 132) #[] #[.pointer (some c0),.pointer (some g),.pointer (some c2)]]])/\w.heap.size<=g/\
   ∀ W',Fr (fun x=>x<w.heap.size) w' W'->TgAt W' c0 g c2 V (3*L+3) n R S gs m gl bs rs base
theorem zRN {d:QV} {v dv:Rat} (h:LPIs w AllB AllB L p os rs bs) (hn:p.n=V) (hV:V<=4) (ho:1<=p.O.n) (hr:p.R.n<=5) (hb:p.B.n=p.R.n) (hco:colsOf os<=V) (hcr:colsOf rs<=V) (hi:row<p.R.n) (hL:L<=60000)
  (hz:QIs w AllB L z v) (hd:QIs w AllB L d dv) (hvf:QFit L v) (hdf:QFit L dv) (hd0:dv ≠ 0) :
  Calls Tryz.prog 55 #[p.val,z.val,.int .i64 (row:Int),d.val] w fun e w'=>TightRet w V L p.R.n ((os.getD 0 []).map (dv⁻¹*·)) (bs.set row (bs.getD row 0-dv⁻¹*v)) ((rs.map fun r=>resize r (colsOf rs)).set row ((List.range (max (rs.getD row []).length (os.getD 0 []).length)).map fun i=>(rs.getD row []).getD i 0-((os.getD 0 []).map (dv⁻¹*·)).getD i 0)) (dv⁻¹*v) e w'/\Below w w w':=by
 obtain ⟨n,⟨oA,on,oc⟩,⟨rA,rn,rc⟩,⟨bA,bn,bc⟩⟩:=p;dsimp only at hn hr hb hi ho;subst hn hb;have H:=hdq h;have HL:Hid (L<=LM):=hdq (by rw [zAZ]; omega);have HL2:Hid (2*L+2<=LM):=hdq (by rw [zAZ]; omega);have HL3:Hid (3*L+2<=LM):=hdq (by rw [zAZ]; omega);have H1:Hid (L+1<=LM):=hdq (by rw [zAZ]; omega);have H11:Hid (1<=LM):=hdq (by rw [zAZ]; omega);have HQ1:Hid (QFit 1 ((1:Int):Rat)):=⟨by decide +kernel,by decide +kernel⟩;have HZ:=hdq hz;have HD:=hdq hd;have HD0:=hdq hd0;have HCr:=hdq hcr;have HCo:=hdq hco;obtain ⟨oad,⟨rA0,rn0,rc0⟩,eo,-,hoc,hor⟩:=h.obj.row 0 ho;obtain ⟨rad,⟨rA1,rn1,rc1⟩,er,-,hrc,hrr⟩:=h.rows.row row hi;obtain ⟨bad,bv,eb,-,hbc,hbq⟩:=h.bounds.elem row hi;dsimp only at eo er eb;subst eo er eb;rw [zRj] at hoc;obtain ⟨ob,oo,rfl⟩:=zRk hoc;have HO:=hdq hor;have HR:=hdq hrr;have HBQ:=hdq hbq;have fi:Lin.Fits (32*L) dv⁻¹:=(zAR hdf).inv;have FI:=hdq (zBn (L:=L+1) fi (by omega));have fo:∀ i,Lin.Fits (32*(L+1)) ((os.getD 0 []).getD i 0):=fun i=>zAR (MatAt.fit h.obj 0 i)
 have fg:∀ i,Lin.Fits (64*L+32) (((os.getD 0 []).map (dv⁻¹*·)).getD i 0):=fun i=>by
  rw [zRw]; exact (fi.mul (fo i)).mono (by omega)
 have HFG:Hid (∀ i,QFit (2*L+2) (((os.getD 0 []).map (dv⁻¹*·)).getD i 0)):=fun i=>zBn (fg i) (by omega)
 have fb:Lin.Fits (64*L) (dv⁻¹*v):=(fi.mul (zAR hvf)).mono (by omega);have HFB:Hid (QFit (2*L+2) (dv⁻¹*v)):=zBn fb (by omega)
 have HFR:Hid (∀ i,QFit (3*L+3) (((List.range (max (rs.getD row []).length (os.getD 0 []).length)).map fun i=>(rs.getD row []).getD i 0-((os.getD 0 []).map (dv⁻¹*·)).getD i 0).getD i 0)):=fun i=>by
  rw [zRg]
  split
  ·exact zBn ((zAR (MatAt.fit h.rows row i)).sub (fg i)) (by omega)
  ·exact QFit.zero _
 have HFS:Hid (QFit (3*L+2+1) (bs.getD row 0-dv⁻¹*v)):=zBn ((zAR (VecAt.fit h.bounds row)).sub fb) (by omega)
 have HN0:Hid (rn0<=1000000):=by
  have h1:=hor.len;have h2:=zBT hco 0;dsimp only at h1;show rn0<=_;omega
 have HN1:Hid (rn1<=1000000):=by
  have h1:=hrr.len;have h2:=zBT hcr row;dsimp only at h1;show rn1<=_;omega
 have HE0:Hid ((os.getD 0 []).length=rn0):=hor.len;have HE1:Hid ((rs.getD row []).length=rn1):=hrr.len;obtain ⟨e0,e1,e2,e3⟩:=id hbc;clear h hz hd hd0 hcr hco hor hrr hbq fi fo fg fb hvf hdf hbc;dsimp only [LPV.val,SV.val] at *;generalize hgl:(os.getD 0 []).map (dv⁻¹*·)=gl;generalize hrl:((List.range (max (rs.getD row []).length (os.getD 0 []).length)).map fun i=>(rs.getD row []).getD i 0-gl.getD i 0)=rl;generalize hbq:bs.getD row 0-dv⁻¹*v=bq;generalize hba:dv⁻¹*v=base;replace hgl:=hdq hgl;replace hrl:=hdq hrl;replace hbq:=hdq hbq;replace hba:=hdq hba;go_enter Tryz.func55,Tryz.ntmps55
 go_upto_region 1 with fail
 refine zAo (fun W=>Below w w W/\Box4 W w (.int .i64 V) (.slice (some ⟨ob,oo,none⟩) on oc) (.slice (some rad) bn rc) (.slice (some bad) bn bc)/\Box4 W (w+1) (.bool z.num.ng) (.slice z.num.A z.num.n z.num.c) (.bool z.den.ng) (.slice z.den.A z.den.n z.den.c)/\Box4 W (w+1+1) (.bool d.num.ng) (.slice d.num.A d.num.n d.num.c) (.bool d.den.ng) (.slice d.den.A d.den.n d.den.c)/\Box1 W (w+1+1+1) (.nilFunc)/\Box1 W (w+1+1+1+1) (.nilFunc)/\w.heap.size<W.heap.size/\w.heap.size+1<W.heap.size/\w.heap.size+1+1<W.heap.size/\w.heap.size+1+1+1<W.heap.size/\w.heap.size+1+1+1+1<W.heap.size) ⟨(az (az (az (az (az (brf _ _)))))),bx4,bx4,bx4,⟨by go_simp,by intro o; go_simp⟩,⟨by go_simp,by intro o; go_simp⟩,by simp <;> omega,by simp <;> omega,by simp <;> omega,by simp <;> omega,by simp <;> omega⟩ ?_;rintro W ⟨hbW,bP,bZ,bD,bL,bU,s0,s1,s2,s3,s4⟩;have hBW:=hbW.size;have ne02:¬ (w.heap.size=w.heap.size+1+1):=by omega
 have ne03:¬ (w.heap.size=w.heap.size+1+1+1):=by omega
 have ne04:¬ (w.heap.size=w.heap.size+1+1+1+1):=by omega
 have ne13:¬ (w.heap.size+1=w.heap.size+1+1+1):=by omega
 have ne14:¬ (w.heap.size+1=w.heap.size+1+1+1+1):=by omega
 have ne24:¬ (w.heap.size+1+1=w.heap.size+1+1+1+1):=by omega
 obtain ⟨d0,d1,d2,d3,-⟩:=id bD;go_cut [10,11] from 15 to 21 (fun p _ W'=>CellQ W p dv⁻¹ W')
 case first=>
  go_region_held3 (Sees w [] W) (exact kp)
   (first
    | (go_at_call 44; ((with_reducible refine (zAN 1 (by decide) (by decide) _).mono ?_); rintro e w3 ⟨⟨y,rfl,hy⟩,hb3⟩; (have sz3:W.heap.size<=w3.heap.size:=by exact nlt (Sees.kept (by assumption):Kept w [] W _).size hb3.size); (obtain ⟨hc3,hf3⟩:=bcell hb3); (have lt3:=fun (b:Nat) h=>ltl (n:=b) h hb3.size)))
    | (go_at_call 109; ((with_reducible refine (zEY (a:=y) (b:=d) (hy.qis HQ1.out) (HD.out.below (hbW.trans ((Sees.kept (by assumption)).whole.mono hBW))) H11.out HL.out HD0.out).mono ?_); rintro e w4 ⟨⟨x,rfl,hx⟩,hb4⟩; (have sz4:W.heap.size<=w4.heap.size:=by exact nlt (Sees.kept (by assumption):Kept w [] W _).size hb4.size); (obtain ⟨hc4,hf4⟩:=bcell hb4); (have lt4:=fun (b:Nat) h=>ltl (n:=b) h hb4.size)))
    | (go_at_call 109; ((with_reducible refine (zEY (a:=y) (b:=d) ((hy.below (bal)).qis HQ1.out) (HD.out.below (hbW.trans ((Sees.kept (by assumption)).whole.mono hBW))) H11.out HL.out HD0.out).mono ?_); rintro e w4 ⟨⟨x,rfl,hx⟩,hb4⟩; (have sz4:W.heap.size<=w4.heap.size:=by exact nlt (Sees.kept (by assumption):Kept w [] W _).size hb4.size); (obtain ⟨hc4,hf4⟩:=bcell hb4); (have lt4:=fun (b:Nat) h=>ltl (n:=b) h hb4.size)))
    | fail)
  focus
   rename_i hS;(go_wp2_with fail);go_meet
   case rel=>
    rw [Rat.div_def] at hx;exact ⟨_,x,rfl,sz4,bx4,(zRa dv⁻¹ ▸ hx.below (bal)).lower sz3,hS.kept.whole⟩
  focus
   rename_i hS;(go_wp2_with fail);go_meet
   case rel=>
    rw [Rat.div_def] at hx;exact ⟨_,x,rfl,sz3,bx4,(zRa dv⁻¹ ▸ hx.set4 (by simp)).lower (by simp; omega),hS.kept.whole⟩
  focus
   rename_i hS;(go_wp2_with fail);go_meet
   case rel=>
    rw [Rat.div_def] at hx;have b0:Box4 (W.alloc (.cells #[.bool false,.slice none 0 0,.bool false,.slice none 0 0] 30)).drew W (.bool false) (.slice none 0 0) (.bool false) (.slice none 0 0):=bx4;exact ⟨_,x,rfl,nlr _,((b0.below hb3 (by simp)).below hb4 (lt3 _ (by simp))).stored _ _ _ _,(zRa dv⁻¹ ▸ hx.set4 (lt3 _ (by simp))).lower (by omega),hS.kept.whole⟩
 case rest=>
  obtain ⟨ig,x,rfl,hig,bI,hx,hbc1⟩:=hcut
  rename World=>W1
  have HX:=hdq (hx.qis FI.out);replace bP:=bP.below hbc1 s0;replace bZ:=bZ.below hbc1 s1;replace bL:=bL.below hbc1 s3;replace bU:=bU.below hbc1 s4;have hb1:=hbW.trans (hbc1.mono hBW);have hz1:=hbc1.size;clear d0 d1 d2 d3 bD hx hbc1 hbW;have sI:=zAb bI.1;dsimp only at sI;obtain ⟨p0,p1,p2,p3,-⟩:=id bP;obtain ⟨x0,x1,x2,x3,-⟩:=id bI;have ho1:=cellK hb1 hoc;have lo:=zAb hoc;have lo1:=zAb ho1;dsimp only at lo lo1;have hon:(0:Int)<(on:Int):=by omega
  have hon2:0<on:=by omega
  have hbs1:=hb1.size;have c0:w.heap.size<W1.heap.size:=by omega
  have c1:w.heap.size+1<W1.heap.size:=by omega
  have c3:w.heap.size+1+1+1<W1.heap.size:=by omega
  have c4:w.heap.size+1+1+1+1<W1.heap.size:=by omega
  go_upto_region 2 with fail
  go_cut [12] from 21 to 27 (fun p W'=>CellV W1 (2*L+2) p ((os.getD 0 []).map (dv⁻¹*·)) W')
  case first=>
   go_region_held3 (Sees w [] W1) (exact kp)
    (first
     | (go_at_call 110; ((with_reducible refine (zQ1 (N:=2*L+2) (k:=x) (s:=⟨rA0,rn0,rc0⟩) (HX.out.below (Sees.kept (by assumption)).whole) (HO.out.below (hb1.trans ((Sees.kept (by assumption)).whole.mono hbs1))) HN0.out HL.out H1.out HFG.out).mono ?_); rintro e y1 ⟨⟨⟨sA,sn,sc⟩,rfl,hs⟩,hc1⟩; (have sz1:W1.heap.size<=y1.heap.size:=by exact nlt (Sees.kept (by assumption):Kept w [] W1 _).size hc1.size); (have lt1:=fun (b:Nat) h=>ltl (n:=b) h hc1.size); (obtain ⟨hcc1,hf1⟩:=bcell hc1); (have kq1:Kept w [] W1 y1:=(Kept.call2 hc1 (by assumption):Sees w [] W1 y1).kept)))
     | fail)
   focus
    rename_i hS;(go_wp2_with fail);go_meet;case rel=>exact ⟨_,⟨sA,sn,sc⟩,rfl,sz1,by go_simp,VecAt.below (hs.imp (fun _ _ hb=>hb) fun _ _ hq=>hq) (bal),hS.kept.whole⟩
   focus
    rename_i hS;(go_wp2_with fail);go_meet
    case rel=>
     have kx:∀ a:Addr,New (W1+1) a.block->a.block<y1->(y1.setCell W1 (.slice sA sn sc)).cell? a=y1.cell? a:=(fun a ha _=>cob (bhs _ _ _ _ (by simp only [New] at ha; show a.block ≠ W1.heap.size; omega)));have hs':VecIs y1 (New (W1+1)) (New (W1+1)) (2*L+2) ⟨sA,sn,sc⟩ ((os.getD 0 []).map (dv⁻¹*·)):=hs.imp (fun b _ hb=>by simpa [New] using hb) fun _ _ hq=>hq.imp fun b _ hb=>by simpa [New] using hb
     have lw:W1.heap.size<y1.heap.size:=lt1 _ (by simp);have c0:y1.cell? W1=some (.slice none 0 0):=(hcc1 _ 0 (by simp)).trans (by show (W1.alloc _).cell? _=_; simp);exact ⟨_,⟨sA,sn,sc⟩,rfl,nlr _,World.cell?_setCell_same' _ _ _ (by rw [c0]; rfl),(hs'.keep (R':=QIs _ (New (W1+1)) (2*L+2)) kx fun _ _ hq=>hq.keep kx).imp (fun b _ hb=>by simp only [New] at hb ⊢; omega) fun _ _ hq=>hq.imp fun b _ hb=>(by simp only [New] at hb ⊢; omega),hS.kept.whole⟩
  case rest=>
   obtain ⟨gg,⟨gA,gn,gc⟩,rfl,hgg,hgc,hgv,hbc2⟩:=hcut
   rename World=>W2
   replace bP:=bP.below hbc2 c0;replace bZ:=bZ.below hbc2 c1;replace bI:=bI.below hbc2 sI;replace bL:=bL.below hbc2 c3;replace bU:=bU.below hbc2 c4;have HX2:=hdq (HX.out.below hbc2);have hb2:=hb1.trans (hbc2.mono hbs1);have hz2:=hbc2.size;have hbs2:=hb2.size;have hgv2:=hdq hgv;clear hbc2 hb1 HX p0 p1 p2 p3 x0 x1 x2 x3 ho1 lo1 hgv;obtain ⟨x0,x1,x2,x3,-⟩:=id bI;obtain ⟨z0,z1,z2,z3,-⟩:=id bZ;(go_wp2_with fail);refine (zBb (a:=x) (b:=z) HX2.out (HZ.out.below hb2) H1.out HL.out).mono ?_;rintro e w3 ⟨⟨m,rfl,hm⟩,hb3⟩;replace bP:=bP.below hb3 (by omega);replace bL:=bL.below hb3 (by omega);replace bU:=bU.below hb3 (by omega);have hgc3:=cellK hb3 hgc;have hgv3:=VecAt.below hgv2.out hb3;have hb03:=hb2.trans (hb3.mono hbs2);have hz3:=hb3.size;clear hb3 hgv2 hgc HX2 x0 x1 x2 x3 z0 z1 z2 z3 bI bZ hb2;(go_upto_region 4 with fail);have al:Below w3 w3 (w3.alloc (.cells #[.bool m.num.ng,.slice m.num.A m.num.n m.num.c,.bool m.den.ng,.slice m.den.A m.den.n m.den.c] 30)):=bal;have bM:=zAA (zAd w3 (.cells #[.bool m.num.ng,.slice m.num.A m.num.n m.num.c,.bool m.den.ng,.slice m.den.A m.den.n m.den.c] 30) rfl);replace bP:=bP.below al (by omega);replace bL:=bL.below al (by omega);replace bU:=bU.below al (by omega);have hgc4:=cellK al hgc3;have hgv4:=hdq (VecAt.below hgv3 al);have hm4:=hdq ((hm.below al).qis HFB.out);have hb4:=hb03.trans (al.mono hb03.size);have hz4:=al.size;have sm:w3.heap.size<(w3.alloc (.cells #[.bool m.num.ng,.slice m.num.A m.num.n m.num.c,.bool m.den.ng,.slice m.den.A m.den.n m.den.c] 30)).heap.size:=(by simp);have sg:gg<w3.heap.size:=zAb hgc3;clear al hgc3 hgv3 hm hb03;generalize w3.alloc (.cells #[.bool m.num.ng,.slice m.num.A m.num.n m.num.c,.bool m.den.ng,.slice m.den.A m.den.n m.den.c] 30)=W4 at *;generalize w3.heap.size=mb at *;have hbs4:=hb4.size;obtain ⟨p0,p1,p2,p3,-⟩:=id bP;obtain ⟨m0,m1,m2,m3,-⟩:=id bM;have f0:=cellK hb4 e0;have f1:=cellK hb4 e1;have f2:=cellK hb4 e2;have f3:=cellK hb4 e3;have hr4:=cellK hb4 hrc;have t0:w.heap.size<W4.heap.size:=(by omega);have tg:gg<W4.heap.size:=(by omega);have tb:=zAb f0;have tr:=zAb hr4;have br:rad.block<w:=by have:=zAb hrc; rwa [zAj] at this
   have bb:bad.block<w:=by have:=zAb e0; rwa [zAj] at this
   have hii:(row:Int)<(bn:Int):=(by omega);have HSL:Hid (max (rs.getD row []).length (os.getD 0 []).length=max (rs.getD row []).length ((os.getD 0 []).map (dv⁻¹*·)).length):=hdq (by rw [List.length_map]);have HGN:Hid (gn<=1000000):=hdq (by have h1:=hgv4.out.len; have h2:=HE0.out; have h3:=HN0.out; simp only [List.length_map] at h1; omega);go_cut [14] from 30 to 47 (fun p W'=>RqAt W4 V bn (3*L+3) ((rs.map fun r=>resize r (colsOf rs)).set row ((List.range (max (rs.getD row []).length (os.getD 0 []).length)).map fun i=>(rs.getD row []).getD i 0-((os.getD 0 []).map (dv⁻¹*·)).getD i 0)) (bs.set row (bs.getD row 0-dv⁻¹*v)) p W'/\Below W4 W4 W')
   case first=>
    go_region_held3 (Sees w [] W4) (exact kp)
     (first
      | (go_at_call 129; ((with_reducible refine (zRO (N:=3*L+3) (sa:=⟨rA1,rn1,rc1⟩) (sb:=⟨gA,gn,gc⟩) (HR.out.below (hb4.trans ((Sees.kept (by assumption)).whole.mono hbs4))) (hgv4.out.below (Sees.kept (by assumption)).whole) HL.out HL2.out HN1.out HGN.out HSL.out HFR.out).mono ?_); rintro e y1 ⟨⟨⟨sA,sn,sc⟩,rfl,hs⟩,hc1⟩; (have sz1:W4.heap.size<=y1.heap.size:=by exact nlt (Sees.kept (by assumption):Kept w [] W4 _).size hc1.size); (have lt1:=fun (b:Nat) h=>ltl (n:=b) h hc1.size); (obtain ⟨hcc1,hf1⟩:=bcell hc1)))
      | (go_at_call 113; ((with_reducible refine (zDx (a:=bv) (b:=m) (HBQ.out.below (hb4.trans ((Sees.kept (by assumption)).whole.mono hbs4))) (hm4.out.below (Sees.kept (by assumption)).whole) HL.out HL2.out).mono ?_); rintro e y2 ⟨⟨u,rfl,hu⟩,hc2⟩; (have sz2:W4.heap.size<=y2.heap.size:=by exact nlt (Sees.kept (by assumption):Kept w [] W4 _).size hc2.size); (have lt2:=fun (b:Nat) h=>ltl (n:=b) h hc2.size); (obtain ⟨hcc2,hf2⟩:=bcell hc2)))
       | (go_at_call 126; ((with_reducible refine ((fun _ _=>zQY (L:=3*L+2) (p:=⟨V,⟨some ⟨ob,oo,none⟩,on,oc⟩,⟨some rad,bn,rc⟩,⟨some bad,bn,bc⟩⟩) (c:=⟨sA,sn,sc⟩) (cl:=(List.range (max (rs.getD row []).length (os.getD 0 []).length)).map fun i=>(rs.getD row []).getD i 0-((os.getD 0 []).map (dv⁻¹*·)).getD i 0) (z:=u) (q:=bs.getD row 0-dv⁻¹*v) ((H.out.more (M:=3*L+2) (by omega)).below (hb4.trans ((Sees.kept (by assumption)).whole.mono hbs4))) rfl (by show bn<=_; omega) rfl (nlt HCr.out (by omega)) hi HL3.out HFS.out) (hc1.trans (hc2.mono hc1.size)) (show Sees w [] W4 y2 from by assumption)).mono ?_); rintro e y3 ⟨⟨⟨n3,⟨o3A,o3n,o3c⟩,⟨r3A,r3n,r3c⟩,⟨b3A,b3n,b3c⟩⟩,rfl,e3,e4,e5,e6,hro⟩,hc3⟩; (dsimp only at e3 e4 e5 e6); (cases e4); (subst e3 e5 e6); (have sz3:W4.heap.size<=y3.heap.size:=by exact nlt (Sees.kept (by assumption):Kept w [] W4 _).size hc3.size); (have lt3:=fun (b:Nat) h=>ltl (n:=b) h hc3.size); (obtain ⟨hcc3,hf3⟩:=bcell hc3); (obtain ⟨hcc13,hf13⟩:=bcell ((hc1.trans (hc2.mono hc1.size)).trans (hc3.mono (nlt hc1.size hc2.size))))))
       | (go_at_call 126; ((with_reducible refine ((fun _=>zQY (L:=3*L+2) (p:=⟨V,⟨some ⟨ob,oo,none⟩,on,oc⟩,⟨some rad,bn,rc⟩,⟨some bad,bn,bc⟩⟩) (c:=⟨sA,sn,sc⟩) (cl:=(List.range (max (rs.getD row []).length (os.getD 0 []).length)).map fun i=>(rs.getD row []).getD i 0-((os.getD 0 []).map (dv⁻¹*·)).getD i 0) (z:=u) (q:=bs.getD row 0-dv⁻¹*v) ((H.out.more (M:=3*L+2) (by omega)).below (hb4.trans ((Sees.kept (by assumption)).whole.mono hbs4))) rfl (by show bn<=_; omega) rfl (nlt HCr.out (by omega)) hi HL3.out HFS.out) (hc1.trans (hc2.mono hc1.size))).mono ?_); rintro e y3 ⟨⟨⟨n3,⟨o3A,o3n,o3c⟩,⟨r3A,r3n,r3c⟩,⟨b3A,b3n,b3c⟩⟩,rfl,e3,e4,e5,e6,hro⟩,hc3⟩; (dsimp only at e3 e4 e5 e6); (cases e4); (subst e3 e5 e6); (have sz3:W4.heap.size<=y3.heap.size:=by exact nlt (Sees.kept (by assumption):Kept w [] W4 _).size hc3.size); (have lt3:=fun (b:Nat) h=>ltl (n:=b) h hc3.size); (obtain ⟨hcc3,hf3⟩:=bcell hc3)))
       | (go_at_call 126; ((with_reducible refine ((fun _=>zQY (L:=3*L+2) (p:=⟨V,⟨some ⟨ob,oo,none⟩,on,oc⟩,⟨some rad,bn,rc⟩,⟨some bad,bn,bc⟩⟩) (c:=⟨sA,sn,sc⟩) (cl:=(List.range (max (rs.getD row []).length (os.getD 0 []).length)).map fun i=>(rs.getD row []).getD i 0-((os.getD 0 []).map (dv⁻¹*·)).getD i 0) (z:=u) (q:=bs.getD row 0-dv⁻¹*v) ((H.out.more (M:=3*L+2) (by omega)).below (hb4.trans ((Sees.kept (by assumption)).whole.mono hbs4))) rfl (by show bn<=_; omega) rfl (nlt HCr.out (by omega)) hi HL3.out HFS.out) (show Sees w [] W4 y2 from by assumption)).mono ?_); rintro e y3 ⟨⟨⟨n3,⟨o3A,o3n,o3c⟩,⟨r3A,r3n,r3c⟩,⟨b3A,b3n,b3c⟩⟩,rfl,e3,e4,e5,e6,hro⟩,hc3⟩; (dsimp only at e3 e4 e5 e6); (cases e4); (subst e3 e5 e6); (have sz3:W4.heap.size<=y3.heap.size:=by exact nlt (Sees.kept (by assumption):Kept w [] W4 _).size hc3.size); (have lt3:=fun (b:Nat) h=>ltl (n:=b) h hc3.size); (obtain ⟨hcc3,hf3⟩:=bcell hc3); (obtain ⟨hcc23,hf23⟩:=bcell (hc2.trans (hc3.mono hc2.size)))))
      | fail)
    focus
     rename_i hS;(go_wp2_with fail);go_meet
     case rel=>
      have hx:∀ b,b<y2.heap.size->New W4.drew.heap.size b->New W4 b:=(fun _ _ h=>h);obtain ⟨f1,f2⟩:=hro (New W4) (VecAt.below hs hc2) (hu.lower sz1);exact ⟨zSG (R:=⟨r3A,b3n,r3c⟩) (S:=⟨b3A,b3n,b3c⟩) sz3 sz2 rfl rfl f1 f2,hS.kept.whole⟩
    focus
     rename_i hS;(go_wp2_with fail);go_meet
     case rel=>
      have hx:∀ b,b<y2.heap.size->New W4.drew.heap.size b->b ≠ y2.heap.size/\W4.heap.size<=b:=(fun b hb h=>⟨Nat.ne_of_lt hb,h⟩);have hx2:∀ b,b<y2.heap.size->New y1 b->b ≠ y2.heap.size/\W4.heap.size<=b:=(fun b hb h=>⟨Nat.ne_of_lt hb,nlt sz1 h⟩);obtain ⟨f1,f2⟩:=hro (fun x=>x ≠ y2.heap.size/\W4.heap.size<=x) (VecAt.below ((VecAt.below hs hc2).imp hx fun _ _ hq=>hq.imp hx) (bal)) ((hu.imp hx2).below (bal));exact ⟨zRo (R:=⟨r3A,b3n,r3c⟩) (S:=⟨b3A,b3n,b3c⟩) sz2 (by simp) ((zQI y2).below hc3 (by simp)) rfl rfl f1 f2,hS.kept.whole⟩
    focus
     rename_i hS;(go_wp2_with fail);go_meet
     case rel=>
      have hx:∀ b,b<y1.heap.size->New W4.drew.heap.size b->b ≠ y1.heap.size/\W4.heap.size<=b:=(fun b hb h=>⟨Nat.ne_of_lt hb,h⟩);obtain ⟨f1,f2⟩:=hro (fun x=>x ≠ y1.heap.size/\W4.heap.size<=x) (VecAt.below (VecAt.below (hs.imp hx fun _ _ hq=>hq.imp hx) (bal)) hc2) (hu.imp fun b _ hb=>by simp [New] at hb; omega);exact ⟨zRo (R:=⟨r3A,b3n,r3c⟩) (S:=⟨b3A,b3n,b3c⟩) sz1 (lt2 _ (by simp)) (((zQI y1).below hc2 (by simp)).below hc3 (lt2 _ (by simp))) rfl rfl f1 f2,hS.kept.whole⟩
    focus
     rename_i hS;(go_wp2_with fail);go_meet
     case rel=>
      have lw:W4.heap.size<y1.heap.size:=lt1 _ (by simp);obtain ⟨f1,f2⟩:=hro (fun x=>x ≠ W4.heap.size/\W4.heap.size<=x) ((VecAt.below hs hc2).imp (fun b _ hb=>by simp [New] at hb; omega) fun _ _ hq=>hq.imp fun b _ hb=>by simp [New] at hb; omega) (hu.imp fun b _ hb=>by simp only [New] at hb; omega);exact ⟨zRo (R:=⟨r3A,b3n,r3c⟩) (S:=⟨b3A,b3n,b3c⟩) (nlr _) (lt2 _ (lt1 _ (by simp))) ((((zRu W4).below hc1 (by simp)).below hc2 (lt1 _ (by simp))).below hc3 (lt2 _ (lt1 _ (by simp)))) rfl rfl f1 f2,hS.kept.whole⟩
   case rest=>
    obtain ⟨⟨g,R,S,rfl,hg,bG,hRn,hSn,hR,hS⟩,hbc⟩:=hcut
    rename World=>W5
    have hbs5:=hbc.size;have hb5:=hb4.trans (hbc.mono hbs4);have bL5:=bL.below hbc (by omega);have bU5:=bU.below hbc (by omega);have bM5:=bM.below hbc sm;have hgc5:=cellK hbc hgc4;have hgx:∀ b,b<W4.heap.size->New W1 b->b ≠ g/\New W1 b:=(fun b hb h=>⟨by omega,h⟩);have hgy:∀ b,b<W4.heap.size->New W2 b->b ≠ g/\New W2 b:=(fun b hb h=>⟨by omega,h⟩);have hgv5:=VecAt.below (hgv4.out.imp hgx fun _ _ hq=>hq.imp hgx) hbc;have hm5:=(hm4.out.imp hgy).below hbc;clear hgx hgy;clear p0 p1 p2 p3 m0 m1 m2 m3 f0 f1 f2 f3 hr4 e0 e1 e2 e3 hrc hoc bP bM hbc hb4 hgc4 hgv4 hm4 H HO HR HBQ;obtain ⟨l0,lf⟩:=id bL5;obtain ⟨u0,uf⟩:=id bU5;(go_upto_region 7 with fail);obtain ⟨bL7,bU7,fr7⟩:=zRm (by omega:w.heap.size+1+1+1 ≠ w.heap.size+1+1+1+1) bL5 bU5 (.func (.func 130) #[] #[.pointer (some gg),.pointer (some g),.pointer (some mb)]) (.func (.func 132) #[] #[.pointer (some gg),.pointer (some g),.pointer (some mb)]) _ rfl;clear bL5 bU5 l0 lf u0 uf bL bU;generalize (W5.setCell ⟨w+1+1+1,0,none⟩ (.func (.func 130) #[] #[.pointer (some gg),.pointer (some g),.pointer (some mb)])).setCell ⟨w+1+1+1+1,0,none⟩ (.func (.func 132) #[] #[.pointer (some gg),.pointer (some g),.pointer (some mb)])=W7 at *;obtain ⟨x0,xf⟩:=id bL7;obtain ⟨y0,yf⟩:=id bU7;have k7:∀ a:Addr,W1.heap.size<=a.block->a.block<W5->W7.cell? a=W5.cell? a:=(fun a ha hl=>fr7.cell hl (by omega));have n7:∀ b,W1.heap.size<=b->b<W5.heap.size->W7.heap[b]?=W5.heap[b]?:=(fun b ha hl=>fr7.block b hl (by omega));have lm5:mb<W5.heap.size:=(by omega);have lg5:=zAb bG.1
    have hT:∀ W',Fr (fun x=>x<w.heap.size) W7.drew W'->TgAt W' gg g mb V (3*L+3) bn R S ⟨gA,gn,gc⟩ m ((os.getD 0 []).map (dv⁻¹*·)) (bs.set row (bs.getD row 0-dv⁻¹*v)) ((rs.map fun r=>resize r (colsOf rs)).set row ((List.range (max (rs.getD row []).length (os.getD 0 []).length)).map fun i=>(rs.getD row []).getD i 0-((os.getD 0 []).map (dv⁻¹*·)).getD i 0)) (dv⁻¹*v):=by
     intro W' hf;have hs7:W5.heap.size<=W7.drew.heap.size:=fr7.size;replace k7:∀ a:Addr,W1.heap.size<=a.block->a.block<W5->W'.cell? a=W5.cell? a:=(fun a ha hl=>(hf.cell (by omega) (by omega)).trans (k7 a ha hl));replace n7:∀ b,W1.heap.size<=b->b<W5.heap.size->W'.heap[b]?=W5.heap[b]?:=(fun b ha hl=>(hf.block b (by omega) (by omega)).trans (n7 b ha hl));have kA:∀ a:Addr,(a.block ≠ g/\W4.heap.size<=a.block)->a.block<W5->W'.cell? a=W5.cell? a:=(fun a ha hl=>k7 a (by omega) hl);have kB:∀ a:Addr,New W1 a.block->a.block<W5->W'.cell? a=W5.cell? a:=(fun a ha hl=>k7 a ha hl);have kC:∀ a:Addr,(a.block ≠ g/\New W2 a.block)->a.block<W5->W'.cell? a=W5.cell? a:=(fun a ha hl=>k7 a (nlt hz2 ha.2) hl);have lgg:gg<W5.heap.size:=zAb hgc5;refine ⟨by omega,by omega,⟨⟨none,0,0⟩,bG.heap (n7 g (by omega) lg5)⟩,hRn,hSn,?_,?_,(k7 ⟨gg,0,none⟩ hgg lgg).trans hgc5,?_,bM5.heap (n7 mb (by omega) lm5),?_⟩
     ·exact (hR.keep (R':=QIs W' (fun x=>x ≠ g/\W4.heap.size<=x) (3*L+3)) kA fun _ _ hq=>hq.keep kA).imp (fun _ _ h=>h.1) fun _ _ hq=>hq.imp fun _ _ h=>h.1
     ·exact (hS.keep (R':=QIs W' (fun x=>x ≠ g/\W4.heap.size<=x) (3*L+3)) kA fun _ _ hq=>hq.keep kA).imp (fun _ _ h=>h.1) fun _ _ hq=>hq.imp fun _ _ h=>h.1
     ·exact (hgv5.keep (R':=QIs W' (fun x=>x ≠ g/\New W1 x) (2*L+2)) (fun a ha hl=>kB a ha.2 hl) fun _ _ hq=>hq.keep fun a ha hl=>kB a ha.2 hl).imp (fun _ _ h=>h.1) fun _ _ hq=>(hq.mono (by omega)).imp fun _ _ h=>h.1
     ·exact ((hm5.keep kC).mono (by omega)).imp fun _ _ h=>h.1
    rw [hgl.out,hrl.out,hbq.out,hba.out] at hT;have HT:=hdq hT;have HB:=hdq (hb5.trans (fr7.below (B:=w) (by omega) (by intro b hb; omega))).drew;have HG:=hdq (show w.heap.size<=g by omega);refine zAp 3 (fun _ w'=>w'.cell? ⟨w+1+1+1,0,none⟩=some (.func (.func 130) #[] #[.pointer (some gg),.pointer (some g),.pointer (some mb)])/\w'.cell? ⟨w+1+1+1+1,0,none⟩=some (.func (.func 132) #[] #[.pointer (some gg),.pointer (some g),.pointer (some mb)])) (by kernel_rfl) ?_;have hS0:W7.drew.cell? ⟨w+1+1+1,0,none⟩=some (.func (.func 130) #[] #[.pointer (some gg),.pointer (some g),.pointer (some mb)])/\W7.drew.cell? ⟨w+1+1+1+1,0,none⟩=some (.func (.func 132) #[] #[.pointer (some gg),.pointer (some g),.pointer (some mb)]):=⟨x0,y0⟩;refine tx1 0 hS0 ?_;refine tx1 1 hS0 ?_;refine tk1 2 ?_;intro K hK;go_simp;have e1:(W7.setCell ⟨w+1+1+1,0,none⟩ (.func (.func 130) #[] #[.pointer (some gg),.pointer (some g),.pointer (some mb)]))=W7:=zRb x0;rw [e1];refine hK.out _ _ hS0 ?_;clear hK K e1;refine tk1 3 ?_;intro K hK;go_simp;have e1:(W7.setCell ⟨w+1+1+1+1,0,none⟩ (.func (.func 132) #[] #[.pointer (some gg),.pointer (some g),.pointer (some mb)]))=W7:=zRb y0;rw [e1];refine hK.out _ _ hS0 ?_;clear hK K e1;refine zAf (by kernel_rfl) ?_ _;clear hS0 hT k7 n7 fr7 bG hR hS hgc5 hgv5 hm5 bM5 hb5 bL7 bU7;go_wp2;(try rw [Exit.noGoto_ret]);exact bodyPost_ret (v:=.tuple #[.agg #[(.func (.func 130) #[] #[.pointer (some gg),.pointer (some g),.pointer (some mb)])],.agg #[(.func (.func 132) #[] #[.pointer (some gg),.pointer (some g),.pointer (some mb)])]]) (by simp [results,Tryz.results55,go_sem,x0,y0]) rfl ⟨⟨gg,g,mb,R,S,⟨gA,gn,gc⟩,m,rfl,HG.out,HT.out⟩,HB.out⟩
theorem zR1 {vv iv:QV} {v inv:Rat} (hz:QIs w X L z q) (b1:BoxQ w c1 vv) (b2:BoxQ w c2 iv) (hv:QIs w Y M vv v) (hi:QIs w Z N iv inv) (hf:QFit LM (v*inv)) (hL:L<=LM) (hM:M<=LM) (hN:N<=LM) :
  Calls Tryz.prog 112 #[z.val,.pointer (some c1),.pointer (some c2)] w fun e w'=>QRet w (q-v*inv) e w'/\Below w w w':=by
 have HZ:=hdq hz.old;have HV:=hdq hv.old;have HI:=hdq hi.old;have HL:=hdq hL;have HM:=hdq hM;have HN:=hdq hN;have HF:=hdq hf;have l1:=zAb b1.1;have l2:=zAb b2.1;dsimp only at l1 l2;clear hz hv hi hL hM hN hf;go_enter Tryz.func112,Tryz.ntmps112
 go_wp2;refine zAo (fun W=>Below w w W/\Box4 W w (.bool z.num.ng) (.slice z.num.A z.num.n z.num.c) (.bool z.den.ng) (.slice z.den.A z.den.n z.den.c)/\Box4 W (w+1) (.bool false) (.slice none 0 0) (.bool false) (.slice none 0 0)/\w.heap.size<W.heap.size/\w.heap.size+1<W.heap.size) ⟨(az (az (brf _ _))),bx4,bx4,by simp <;> omega,by simp <;> omega⟩ ?_;rintro W ⟨hbW,bZ,bR,s0,s1⟩;have hBW:=hbW.size;obtain ⟨k0,k1,k2,k3,-⟩:=b1.below hbW l1;obtain ⟨i0,i1,i2,i3,-⟩:=b2.below hbW l2;obtain ⟨z0,z1,z2,z3,-⟩:=id bZ;have HZ2:=hdq (HZ.out.below hbW);have HV2:=hdq (HV.out.below hbW);have HI2:=hdq (HI.out.below hbW);have m1:¬ (c1=w.heap.size+1):=by omega
 have m2:¬ (c2=w.heap.size+1):=by omega
 have m3:c1<W.heap.size:=by omega
 have m4:c2<W.heap.size:=by omega
 clear b1 b2 HZ HV HI bZ
 go_region_held3 (Sees w [w.heap.size+1] W) (exact kp)
  (first
   | (go_at_call 13; ((with_reducible refine (zBb (a:=vv) (b:=iv) (HV2.out.keptOld (Sees.kept (by assumption))) (HI2.out.keptOld (Sees.kept (by assumption))) HM.out HN.out).mono ?_); rintro e w1 ⟨⟨u,rfl,hu⟩,hb1⟩))
   | (go_at_call 113; ((with_reducible refine (zDx (a:=z) (b:=u) (HZ2.out.keptOld (Sees.kept (by assumption))) (hu.qis HF.out) HL.out (nlr _)).mono ?_); rintro e w2 ⟨⟨x,rfl,hx⟩,hb2⟩))
   | fail)
 rename_i hS;obtain ⟨v0,v1,v2,v3⟩:=hS.kept.val4 (by simp) (by rw [bR.1]; rfl) (by rw [bR.2.1]; rfl) (by rw [bR.2.2.1]; rfl) (by rw [bR.2.2.2.1]; rfl);have hbf:=hbW.trans hS.kept.below;have hb2s:=hb2.size;have hb1s:=hb1.size;clear hS hu;go_wp2;refine bodyPost_ret (v:=x.val) (by simp [results,Tryz.results112,go_sem,v0,v1,v2,v3]) rfl ⟨⟨x,rfl,?_⟩,hbf⟩;simp only [World.size_drew] at hb1s hb2s;exact (hx.set4 (by omega)).lower (by omega)
theorem zR8 {m:List (List Rat)} (h:MatIs w X Y L s m) (k:Nat) (hi:0<s.n) (hk:k<=9223372036854775807) (hL:L<=LM) :
  Calls Tryz.prog 107 #[s.val,.int .i64 0,.int .i64 (k:Int)] w fun e w'=>QRet w ((m.getD 0 []).getD k 0) e w'/\Below w w w':=zFd h 0 k hi hk hL
theorem zR2 (hz:QIs w X L z q) (h:LPIs w AllB AllB M p os rs bs) (ho:1<=p.O.n) (hk:k<=1000) (b1:BoxL w c1 p) (b2:w.cell? c2=some (.int .i64 (k:Int))) (hf:QFit N (q+(os.getD 0 []).getD k 0)) (hL:L<=LM) (hM:M+1<=LM) (hN:N<=LM) :
  Calls Tryz.prog 115 #[z.val,.pointer (some c1),.pointer (some c2)] w fun e w'=>QRet w (-(q+(os.getD 0 []).getD k 0)) e w'/\Below w w w':=by
 have HZ:=hdq hz.old;have HO:=hdq h.obj;have HMF:=hdq (MatAt.fit h.obj 0 k);have HL:=hdq hL;have HM:=hdq hM;have HM0:Hid (M<=LM):=nlt (Nat.le_succ _) hM;have HN:=hdq hN;have HF:=hdq hf;have HK:Hid (k<=9223372036854775807):=hdq (by omega);have l1:=zAb b1.1;have l2:=zAb b2;dsimp only at l1 l2;obtain ⟨n,⟨oA,on,oc⟩,⟨rA,rn,rc⟩,⟨bA,bn,bc⟩⟩:=p;dsimp only at ho;clear hz h hL hM hN hf;go_enter Tryz.func115,Tryz.ntmps115
 go_wp2;refine zAo (fun W=>Below w w W/\Box4 W w (.bool z.num.ng) (.slice z.num.A z.num.n z.num.c) (.bool z.den.ng) (.slice z.den.A z.den.n z.den.c)/\Box4 W (w+1) (.bool false) (.slice none 0 0) (.bool false) (.slice none 0 0)/\w.heap.size<W.heap.size/\w.heap.size+1<W.heap.size) ⟨(az (az (brf _ _))),bx4,bx4,by simp <;> omega,by simp <;> omega⟩ ?_;rintro W ⟨hbW,bZ,bR,s0,s1⟩;have hBW:=hbW.size;obtain ⟨k0,k1,k2,k3,-⟩:=b1.below hbW l1;dsimp only at k1;have i0:=cellK hbW b2;obtain ⟨z0,z1,z2,z3,-⟩:=id bZ;have HZ2:=hdq (HZ.out.below hbW);have HO2:=hdq (MatAt.below HO.out hbW);have m1:¬ (c1=w.heap.size+1):=by omega
 have m2:¬ (c2=w.heap.size+1):=by omega
 have m3:c1<W.heap.size:=by omega
 have m4:c2<W.heap.size:=by omega
 clear b1 b2 HZ HO bZ k0 k2 k3
 go_region_held3 (Sees w [w.heap.size+1] W) (exact kp)
  (first
   | (go_at_call 107; ((with_reducible refine (zR8 (s:=⟨oA,on,oc⟩) (MatAt.below HO2.out ((brf _ _).drew)) k (by show 0<on; omega) HK.out HM0.out).mono ?_); rintro e w1 ⟨⟨u,rfl,hu⟩,hb1⟩))
   | (go_at_call 14; ((with_reducible refine (zCD (a:=z) (b:=u) (HZ2.out.keptOld (Sees.kept (by assumption))) (hu.qis HMF.out) HL.out HM.out).mono ?_); rintro e w2 ⟨⟨x,rfl,hx⟩,hb2⟩))
   | (go_at_call 116; ((with_reducible refine (zHK (a:=x) (hx.qis HF.out) HN.out).mono ?_); rintro e w3 ⟨⟨y,rfl,hy⟩,hb3⟩))
   | fail)
 rename_i hS;obtain ⟨v0,v1,v2,v3⟩:=hS.kept.val4 (by simp) (by rw [bR.1]; rfl) (by rw [bR.2.1]; rfl) (by rw [bR.2.2.1]; rfl) (by rw [bR.2.2.2.1]; rfl);have hbf:=hbW.trans hS.kept.below;have hb3s:=hb3.size;have hb2s:=hb2.size;have hb1s:=hb1.size;clear hS hu hx;go_wp2;refine bodyPost_ret (v:=y.val) (by simp [results,Tryz.results115,go_sem,v0,v1,v2,v3]) rfl ⟨⟨y,rfl,?_⟩,hbf⟩;simp only [World.size_drew] at hb1s hb2s hb3s;exact (hy.set4 (by omega)).lower (by omega)
end Go.Proofs.YtbpngececjihlaaGreat
