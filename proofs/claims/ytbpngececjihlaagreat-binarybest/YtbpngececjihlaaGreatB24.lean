/- Texts AddS Add BnD BnE BnF BnH BnI BnI2 BnI3 of this claim. -/
import Derived.Test.YtbpngececjihlaaGreatB23
import Derived.Test.YtbpngececjihlaaGreatB22
set_option maxHeartbeats 4000000
set_option maxRecDepth 40000
namespace Go.Proofs.YtbpngececjihlaaGreat
open Go.RowKit
variable {q:Rat} {L M N b b' k r B c n i j V m K pb col kb:Nat} {X Y Z X' Y' G H G':Nat->Prop} {w W w' W':World} {la lb base l:List Rat} {sa sb s:SV} {lv:Nat->Bool} {bn cn:Nat->Nat} {f:Nat->Rat} {t T:TypeId} {cs:Array Value}
theorem zHp {x y kv:QV} {p k:Rat} (hx:QIs w X L x p) (hy:QIs w Y M y q) (hk:QIs w Z N kv k) (hbox:w.heap[b]?=some (.cells #[kv.num.ng,kv.num,kv.den.ng,kv.den] 30 (0,0))) (hL:L<=LM) (hM:M<=LM) (hN:N<=LM) (hf:QFit LM (k*p)) :
  Calls Tryz.prog 229 #[x.val,y.val,.pointer (some b)] w fun e w'=>QRet w (k*p+q) e w'/\Below w w w':=by
 have HX:=hdq hx.old;have HY:=hdq hy.old;have HKv:=hdq hk.old;have HL:=hdq hL;have HM:=hdq hM;have HN:=hdq hN;have HF:=hdq hf;have hbl:=zAa hbox;clear hx hy hk hL hM hN hf;go_enter Tryz.func229,Tryz.ntmps229
 go_wp2;refine zAo (fun W=>Below w w W/\Box4 W w x.num.ng x.num x.den.ng x.den/\Box4 W (w+1) y.num.ng y.num y.den.ng y.den/\Box4 W (w+1+1) false () false ()/\w.heap.size<W.heap.size/\w.heap.size+1<W.heap.size/\w.heap.size+1+1<W.heap.size) ⟨(az (az (az (brf _ _)))),bx4,bx4,bx4,by simp <;> omega,by simp <;> omega,by simp <;> omega⟩ ?_;rintro W ⟨hbW,bX,bY,bR,s0,s1,s2⟩;have hBW:=hbW.size;have ne02:¬ (w.heap.size=w.heap.size+1+1):=om
 obtain ⟨k0,k1,k2,k3⟩:W.cell? b=some (.bool kv.num.ng)/\W.cell? ⟨b,1,none⟩=some (.slice kv.num.A kv.num.n kv.num.c)/\W.cell? ⟨b,2,none⟩=some (.bool kv.den.ng)/\W.cell? ⟨b,3,none⟩=some (.slice kv.den.A kv.den.n kv.den.c):=by simp [World.cell?,(hbW.block b hbl).trans hbox]
 obtain ⟨x0,x1,x2,x3,-⟩:=id bX;obtain ⟨y0,y1,y2,y3,-⟩:=id bY;have HX2:=hdq (HX.out.below hbW);have HY2:=hdq (HY.out.below hbW);have HK2:=hdq (HKv.out.below hbW);have m1:¬ (b=w.heap.size+1+1):=om
 have m2:¬ (b=w.heap.size+1):=om
 have m3:¬ (b=w.heap.size):=om
 have m4:b<W.heap.size:=om
 clear hbox HX HY HKv bX bY
 go_region_held3 (Sees w [w.heap.size+1+1] W) (exact kp)
  (first
   | (go_at_call 13; ((with_reducible refine (zBb (a:=kv) (b:=x) (HK2.out.keptOld sk) (HX2.out.keptOld sk) HN.out HL.out).mono ?_); rintro e w1 ⟨⟨u,rfl,hu⟩,hb1⟩))
   | (go_at_call 14; ((with_reducible refine (zCD (a:=u) (b:=y) (hu.qis HF.out) (HY2.out.keptOld sk) (nlr _) HM.out).mono ?_); rintro e w2 ⟨⟨z,rfl,hz⟩,hb2⟩))
   | fail)
 rename_i hS;obtain ⟨v0,v1,v2,v3⟩:=hS.kept.val4 si (by rw [bR.1]; rfl) (by rw [bR.2.1]; rfl) (by rw [bR.2.2.1]; rfl) (by rw [bR.2.2.2.1]; rfl);have hbf:=hbW.trans hS.kept.below;have hb2s:=hb2.size;have hb1s:=hb1.size;clear hS hu;go_wp2;refine bodyPost_ret (v:=z.val) (by simp [results,Tryz.results229,go_sem,v0,v1,v2,v3]) rfl ⟨⟨z,rfl,?_⟩,hbf⟩;simp only [World.size_drew] at hb1s hb2s;exact (hz.set4 om).lower om
open Go.RowKit Go.Shelf
theorem zKJ {k:QV} (hk:QIs w Z N k q) (ha:VecIs w X Y L sa la) (hb:VecIs w X' Y' M sb lb) (hL:L<=LM) (hM:M<=LM) (hN:N<=LM) (hna:sa.n<=1000000) (hnb:sb.n<=1000000) (hf:∀ i,QFit LM (q*la.getD i 0)) :
  Calls Tryz.prog 204 #[k.val,sa.val,sb.val] w fun e w'=>CbRet w ((List.range (max sa.n sb.n)).map fun i=>q*la.getD i 0+lb.getD i 0) e w'/\Below w w w':=by
 have al:Below w w (w.alloc (.cells #[.bool k.num.ng,.slice k.num.A k.num.n k.num.c,.bool k.den.ng,.slice k.den.A k.den.n k.den.c] 30)):=bal;have hbx:(w.alloc (.cells #[.bool k.num.ng,.slice k.num.A k.num.n k.num.c,.bool k.den.ng,.slice k.den.A k.den.n k.den.c] 30)).heap[w.heap.size]?=some (.cells #[.bool k.num.ng,.slice k.num.A k.num.n k.num.c,.bool k.den.ng,.slice k.den.A k.den.n k.den.c] 30 (0,0)):=zAd _ _ rfl;have hsz:w.heap.size<(w.alloc (.cells #[.bool k.num.ng,.slice k.num.A k.num.n k.num.c,.bool k.den.ng,.slice k.den.A k.den.n k.den.c] 30)).heap.size:=si
 have HC:=hdq (zLa (f:=229) (caps:=#[.pointer (some ⟨w,0,none⟩)]) (g:=fun i=>q*la.getD i 0+lb.getD i 0) (ha.below al) (hb.below al) hna hnb (fun args w=>rfl)
  (fun W x y i hc hx hy=>zHp hx hy ((hk.below al).old.carry hc) (hc.blk _ _ _ _ hsz hbx) hL hM hN (hf i)))
 clear ha hb hk hL hM hN hna hnb hf;obtain ⟨A,n,c⟩:=sa;obtain ⟨B,m,d⟩:=sb;dsimp only [SV.val] at *;go_enter Tryz.func204,Tryz.ntmps204
 go_wp2_with fail
 refine HC.out.mono ?_;rintro e w1 ⟨⟨z,rfl,hz,hz2⟩,hb1⟩;go_wp2;go_ret;exact ⟨⟨z,rfl,hz.low al.size,fun hp=>by obtain ⟨b,c,q1,q2,q3,q4,q5⟩:=hz2 hp; exact ⟨b,c,q1,q2,q3,nlt al.size q4,.inr rfl,q5.blk,fun k hk=>by obtain ⟨v,h1,h2⟩:=q5.elem k hk; exact ⟨v,h1,h2.imp fun x _ hx e=>hx (e.imp (fun h=>ltl h al.size) id)⟩⟩⟩,al.trans (hb1.mono al.size)⟩
structure RowB (w:World) (G:Nat->Prop) (L b:Nat) (l:List Rat):Prop where
 mem:G b
 blk:∃ cs,w.heap[b]?=some (.cells cs 30 (0,0))/\4*l.length<=cs.size
 elem:∀ k,k<l.length->∃ v:QV,QCell w ⟨b,k*4,none⟩ v/\QIs w (fun x=>¬ G x) L v (l.getD k 0)
section
variable {w w':World} {G G':Nat->Prop} {L b:Nat} {l:List Rat}
theorem RowB.lt (h:RowB w G L b l):b<w.heap.size:=by
 obtain ⟨cs,e,_⟩:=h.blk; exact zAa e
theorem RowB.frozen (h:RowB w G L b l) (o:Nat):w.frozen? ⟨b,o,none⟩=false:=by
 obtain ⟨cs,e,_⟩:=h.blk; simp [World.frozen?,e]
theorem RowB.keep (h:RowB w G L b l) (hb:w'.heap[b]?=w.heap[b]?) (hk:∀ p:Addr,¬ G p.block->p.block<w->w'.cell? p=w.cell? p):RowB w' G L b l:=
 ⟨h.mem,by rw [hb]; exact h.blk,fun k hkl=>by
  obtain ⟨v,h1,h2⟩:=h.elem k hkl;exact ⟨v,h1.keep (fun a ha _=>cob (by rw [ha]; exact hb)),h2.keep hk⟩⟩
theorem RowB.below (h:RowB w G L b l) (hb:Below w w w'):RowB w' G L b l:=h.keep (hb.block b h.lt) fun _ _ hl=>hb.cell hl
theorem RowB.grow (h:RowB w G L b l) (hG:∀ x,G x->G' x) (hn:∀ x,x<w.heap.size->G' x->G x):RowB w G' L b l:=
 ⟨hG b h.mem,h.blk,fun k hk=>by
  obtain ⟨v,h1,h2⟩:=h.elem k hk;exact ⟨v,h1,h2.imp fun x hx hg hg'=>hg (hn x hx hg')⟩⟩
theorem RowB.call (h:RowB w G L b l) (hb:Below w w w') (hG:∀ x,G x->G' x) (hn:∀ x,G' x->G x\/w.heap.size<=x):RowB w' G' L b l:=
 (h.grow hG fun x hx hg=>(hn x hg).resolve_right om).below hb
theorem RowB.put4_other (h:RowB w G L b l) (hb':G b') (hne:b' ≠ b) (k:Nat) (v:QV):RowB (put4 w b' k v) G L b l:=
 h.keep (zAx w b' k v (Ne.symm hne)) fun _p hp _=>zCq w b' k v (fun e=>hp (e ▸ hb'))
theorem RowB.put4 (h:RowB w G L b l) (hk:k<l.length) {v:QV} (hv:QIs w (fun x=>¬ G x) L v q):RowB (put4 w b k v) G L b (l.set k q):=by
 obtain ⟨cs,e,hsz⟩:=h.blk;have kq:∀ u q,QIs w (fun x=>¬ G x) L u q->QIs (Proofs.YtbpngececjihlaaGreat.put4 w b k v) (fun x=>¬ G x) L u q:=fun u q hq=>hq.keep fun p hp _=>zCq w b k v (fun e=>hp (e ▸ h.mem))
 have e4:(Proofs.YtbpngececjihlaaGreat.put4 w b k v).heap[b]?=some (.cells ((((cs.setIfInBounds (k*4) v.num.ng).setIfInBounds (k*4+1) v.num).setIfInBounds (k*4+2) v.den.ng).setIfInBounds (k*4+3) v.den) 30 (0,0)):=
  zAe _ (zAe _ (zAe _ (zAe _ e)))
 refine ⟨h.mem,⟨_,e4,by simpa using hsz⟩,fun j hj=>?_⟩;rw [List.length_set] at hj
 have get:∀ o,(Proofs.YtbpngececjihlaaGreat.put4 w b k v).cell? ⟨b,o,none⟩=((((cs.setIfInBounds (k*4) v.num.ng).setIfInBounds (k*4+1) v.num).setIfInBounds (k*4+2) v.den.ng).setIfInBounds (k*4+3) v.den)[o]?:=by
  intro o; simp only [World.cell?,e4]; simp
 have get0:∀ o,w.cell? ⟨b,o,none⟩=cs[o]?:=by intro o; simp only [World.cell?,e]; simp
 by_cases hjk:j=k
 ·subst hjk;refine ⟨v,⟨?_,?_,?_,?_⟩,?_⟩
  ·rw [get]; simp [Array.getElem?_setIfInBounds]; omega
  ·rw [get]; simp [Array.getElem?_setIfInBounds]; omega
  ·rw [get]; simp [Array.getElem?_setIfInBounds]; omega
  ·rw [get]; simp [Array.getElem?_setIfInBounds]; omega
  ·have:(l.set j q).getD j 0=q:=(by simp [hk]);rw [this];exact kq _ _ hv
 ·obtain ⟨u,⟨c0,c1,c2,c3⟩,hu⟩:=h.elem j hj;dsimp only at c0 c1 c2 c3
  have far:∀ o,o<4->(Proofs.YtbpngececjihlaaGreat.put4 w b k v).cell? ⟨b,j*4+o,none⟩=w.cell? ⟨b,j*4+o,none⟩:=by
   intro o ho;rw [get,get0];simp only [Array.getElem?_setIfInBounds];rw [if_neg om,if_neg om,if_neg om,if_neg om]
  refine ⟨u,⟨(far 0 om).trans c0,(far 1 om).trans c1,(far 2 om).trans c2,(far 3 om).trans c3⟩,?_⟩;have:(l.set k q).getD j 0=l.getD j 0:=by simp [Ne.symm hjk]
  rw [this];exact kq _ _ hu
theorem RowB.fr (h:RowB w G L b l) (hW:Fr (fun y=>y=r) w w') (hr:G r) (hne:b ≠ r):RowB w' G L b l:=
 h.keep (hW.block b h.lt hne) fun _ hp hl=>hW.cell hl fun e=>hp (by rw [e]; exact hr)
theorem RowP.rowB (h:RowP w G b l) (hf:∀ k,QFit L (l.getD k 0)):RowB w G L b l:=⟨h.mem,h.blk,fun k hk=>by
 obtain ⟨v,h1,h2⟩:=h.elem k hk;exact ⟨v,h1,h2.qis (hf k)⟩⟩
theorem RowB.new (h:RowB w (fun x=>x<B\/x=b) L b l) (hm:G b) (hG:∀ x,G x->x<B\/x=b):RowB w G L b l:=
 ⟨hm,h.blk,fun k hk=>by
  obtain ⟨v,h1,h2⟩:=h.elem k hk;exact ⟨v,h1,h2.imp fun x _ hx hg=>hx (hG x hg)⟩⟩
theorem RowB.vec (h:RowB w G L b l) (hc:l.length<=c) (hc2:c<=9223372036854775807):VecIs w (fun x=>x=b) (fun x=>¬ G x) L ⟨some ⟨b,0,none⟩,l.length,c⟩ l:=
 ⟨rfl,hc,hc2,fun k hk=>by
  obtain ⟨v,h1,h2⟩:=h.elem k hk;refine ⟨⟨b,0,none⟩,v,rfl,rfl,?_,h2⟩;rw [zA4,Nat.zero_add]; exact h1⟩
end
structure TV where
 d:Nat
 bs:SV
 row:SV
 bas:SV
 cols:SV
 lv:SV
 rb:Nat->Nat
 rc:Nat->Nat
 gb:Nat
 gc:Nat
def TV.goal (x:TV) (n:Nat) (g:Option (Nat->Rat)):Value:=match g with
 | none=>.slice none 0 0
 | some _=>.slice (some x.gb) (n+1) x.gc
structure TB (W:World) (G:Nat->Prop) (x:TV) (V n m L:Nat) (base:List Rat) (bn cn:Nat->Nat) (a:Nat->Nat->Rat) (lv:Nat->Bool) (g:Option (Nat->Rat)):Prop where
 blk:W.heap[x.d]?=some (.cells #[.int .i64 V,x.bs.val,x.row.val,x.bas.val,x.cols.val,x.lv.val,x.goal n g] 186 (0,0))
 base:VecIs W (fun b=>¬ G b) (fun b=>¬ G b) 1 x.bs base
 row:Arr W x.row m 23 fun i=>.slice (some ⟨x.rb i,0,none⟩) (n+1) (x.rc i)
 bas:Arr W x.bas m 3 fun i=>.int .i64 (bn i)
 cols:Arr W x.cols n 3 fun j=>.int .i64 (cn j)
 live:Arr W x.lv n 4 fun j=>.bool (lv j)
 rows:∀ i,i<m->RowB W G L (x.rb i) (rowL n (a i))
 caps:∀ i,i<m->n+1<=x.rc i/\x.rc i<=9223372036854775807
 aim:∀ f,g=some f->RowB W G L x.gb (rowL n f)/\n+1<=x.gc/\x.gc<=9223372036854775807/\∀ i,i<m->x.rb i ≠ x.gb
 rinj:∀ i j,i<m->j<m->x.rb i=x.rb j->i=j
 bf:∀ y,x.bas.A=some ⟨y,0,none⟩->x.cols.A ≠ some ⟨y,0,none⟩
 gin:∀ b,G b->b<W.heap.size
 gd:G x.d
 gr:∀ y,x.row.A=some ⟨y,0,none⟩->G y
 gb:∀ y,x.bas.A=some ⟨y,0,none⟩->G y
 gc:∀ y,x.cols.A=some ⟨y,0,none⟩->G y
 gl:∀ y,x.lv.A=some ⟨y,0,none⟩->G y
section
variable {W W':World} {G G':Nat->Prop} {x:TV} {V n m L:Nat} {base:List Rat} {bn cn:Nat->Nat} {a:Nat->Nat->Rat} {lv:Nat->Bool} {g:Option (Nat->Rat)}
theorem TB.dlt (h:TB W G x V n m L base bn cn a lv g):x.d<W.heap.size:=zAa h.blk
theorem TB.cells (h:TB W G x V n m L base bn cn a lv g) :
  W.cell? x.d=some (.int .i64 V)/\W.cell? ⟨x.d,1,none⟩=some x.bs.val/\W.cell? ⟨x.d,2,none⟩=some x.row.val/\W.cell? ⟨x.d,3,none⟩=some x.bas.val/\W.cell? ⟨x.d,4,none⟩=some x.cols.val/\
  W.cell? ⟨x.d,5,none⟩=some x.lv.val/\W.cell? ⟨x.d,6,none⟩=some (x.goal n g)/\∀ o,W.frozen? ⟨x.d,o,none⟩=false:=by
 simp [World.cell?,World.frozen?,h.blk]
theorem TB.call (h:TB W G x V n m L base bn cn a lv g) (hb:Below W W W') (hG:∀ y,G y->G' y) (hn:∀ y,G' y->G y\/W.heap.size<=y) (hl:∀ y,G' y->y<W'.heap.size):TB W' G' x V n m L base bn cn a lv g:=by
 have off:∀ y,y<W.heap.size->¬ G y->¬ G' y:=fun y hy hg hg'=>hg ((hn y hg').resolve_right om)
 exact ⟨(hb.block _ h.dlt).trans h.blk,(h.base.imp (fun y hy hg=>off y hy hg) fun _ _ hq=>hq.imp fun y hy hg=>off y hy hg).below hb,h.row.below hb,h.bas.below hb,h.cols.below hb,h.live.below hb,
  fun i hi=>(h.rows i hi).call hb hG hn,h.caps,fun f e=>⟨(h.aim f e).1.call hb hG hn,(h.aim f e).2⟩,h.rinj,h.bf,hl,hG _ h.gd,fun y e=>hG _ (h.gr y e),fun y e=>hG _ (h.gb y e),fun y e=>hG _ (h.gc y e),fun y e=>hG _ (h.gl y e)⟩
theorem TB.below (h:TB W G x V n m L base bn cn a lv g) (hb:Below W W W'):TB W' G x V n m L base bn cn a lv g:=
 h.call hb (fun _ h=>h) (fun _ h=>.inl h) (fun y hy=>ltl (h.gin y hy) hb.size)
end
def Least (f:Nat->Nat) (p:Nat->Bool) (k r:Nat) (is:Bool):Prop:=
 (is=false/\r=0/\∀ i,i<k->p i=false)\/(is=true/\r<k/\p r=true/\∀ i,i<k->p i=true->f r<=f i)
theorem Least.pass {f:Nat->Nat} {p:Nat->Bool} {is:Bool} (h:Least f p k r is) (hp:p k=true) (hc:is=true->f k<f r):Least f p (k+1) k true:=by
 refine .inr ⟨rfl,om,hp,fun i hi h1=>?_⟩;by_cases e:i=k
 ·rw [e]; exact nlr _
 ·rcases h with ⟨_,_,h2⟩ | ⟨h2,_,_,h3⟩
  ·rw [h2 i om] at h1; cases h1
  ·have:=h3 i om h1;have:=hc h2;omega
theorem Least.fail {f:Nat->Nat} {p:Nat->Bool} {is:Bool} (h:Least f p k r is) (hp:p k=false\/(is=true/\f r<=f k)):Least f p (k+1) r is:=by
 rcases h with ⟨h1,h2,h3⟩ | ⟨h1,h2,h3,h4⟩
 ·refine .inl ⟨h1,h2,fun i hi=>?_⟩;by_cases e:i=k
  ·rcases hp with hp | ⟨hp,_⟩
   ·rw [e]; exact hp
   ·rw [h1] at hp; cases hp
  ·exact h3 i om
 ·refine .inr ⟨h1,om,h3,fun i hi hpi=>?_⟩;by_cases e:i=k
  ·rcases hp with hp | ⟨_,hp⟩
   ·rw [e,hp] at hpi; cases hpi
   ·rw [e]; exact hp
  ·exact h4 i om hpi
def LeastRet (f:Nat->Nat) (p:Nat->Bool) (n:Nat) (e:Ending):Prop:=∃ (r:Nat) (is:Bool),e = .returned (.tuple #[.int .i64 (r:Int),.bool is])/\Least f p n r is
def LsLoop (w:World) (f:Nat->Nat) (p:Nat->Bool) (n:Nat) (pl is t:Value) (W:World):Prop:=
 ∃ (k r:Nat) (b:Bool),k<=n/\t = .int .i64 (k:Int)/\pl = .int .i64 (r:Int)/\is = .bool b/\Least f p k r b/\Below w w W
theorem zKQ {fn:Nat} {caps:Array Value} {f:Nat->Nat} {p:Nat->Bool} (h:Arr w s n 3 fun i=>.int .i64 (f i:Int)) (hcall:∀ (args:Array Value) (w:World),Sem.run Tryz.prog (callFunc fn args) w = .ok (.enter fn args) w)
  (ht:∀ W i,i<n->Below w w W->Calls Tryz.prog fn (#[.int .i64 (i:Int)]++caps) W fun e w'=>e = .returned (.bool (p i))/\Below W W w') :
  Calls Tryz.prog 149 #[s.val,.func (.func fn) #[] caps] w fun e w'=>LeastRet f p n e/\Below w w w':=by
 obtain ⟨A,m,c⟩:=s;obtain rfl:m=n:=h.len;have hle:m<=c:=h.le;have hcap:c<=9223372036854775807:=h.cap;have H:=hdq h;have HT:=hdq ht;have HC:=hdq hcall;clear h ht hcall;dsimp only [SV.val];go_enter Tryz.func149,Tryz.ntmps149
 go_wp2;have H0:LsLoop w f p m (.int .i64 0) false (.int .i64 0) w:=⟨0,0,false,nzl _,rfl,rfl,rfl,.inl ⟨rfl,rfl,fun i hi=>absurd hi om⟩,brf _ _⟩;go_loopw [4,5,10] (fun pl is t W=>LsLoop w f p m pl is t W) (fun _ _ t _=>m-(intOf t).toNat)
 case atStart=>exact H0
 case round=>
  clear H0;obtain ⟨k,r,b,hk,rfl,rfl,rfl,hL,hB⟩:=hrel;have HL:=hdq hL;clear hL;by_cases hlt:k<m
  ·obtain ⟨g,eA,hc,-,hg⟩:=(H.out.below hB).elem hlt;dsimp only at eA;subst eA;have hki:(k:Int)<(m:Int):=om;have hk0:(0:Int)<=(k:Int):=om;have HCall:=hdq (HT.out wr k hlt hB);have HB:=hdq hB;have hcall:=HC.out;obtain ⟨q,hq⟩:∃ q,p k=q:=⟨_,rfl⟩;have HQ:=hdq hq;rw [hq] at HCall;clear hq hB
   cases b with
   | false=>
    (go_wp2_with fail);refine HCall.out.mono ?_;rintro e w1 ⟨rfl,hb1⟩;have HB1:=hdq (HB.out.trans (hb1.mono HB.out.size));clear hb1 hcall hc
    cases q with
    | true=>
     have HN:=hdq (HL.out.pass HQ.out fun h=>by cases h);go_wp2;go_roundw;case rel=>exact ⟨k+1,k,true,om,si,rfl,rfl,HN.out,HB1.out⟩
     case measure=>simp [intOf]; omega
    | false=>
     have HN:=hdq (HL.out.fail (.inl HQ.out));go_wp2;go_roundw;case rel=>exact ⟨k+1,r,false,om,si,rfl,rfl,HN.out,HB1.out⟩
     case measure=>simp [intOf]; omega
   | true=>
    have hr:r<k/\p r=true:=by
     rcases HL.out with ⟨h,_⟩ | ⟨_,h1,h2,_⟩
     ·cases h
     ·exact ⟨h1,h2⟩
    obtain ⟨hr1,-⟩:=hr;obtain ⟨g',eA',hc',-,-⟩:=(H.out.below HB.out).elem (show r<m by omega);cases eA';have hri:(r:Int)<(m:Int):=om;have hr0:(0:Int)<=(r:Int):=om;by_cases hv:f k<f r
    ·have hvi:(f k:Int)<(f r:Int):=om;(go_wp2_with fail);refine HCall.out.mono ?_;rintro e w1 ⟨rfl,hb1⟩;have HB1:=hdq (HB.out.trans (hb1.mono HB.out.size));clear hb1 hcall hc hc'
     cases q with
     | true=>
      have HN:=hdq (HL.out.pass HQ.out fun _=>hv);go_wp2;go_roundw;case rel=>exact ⟨k+1,k,true,om,si,rfl,rfl,HN.out,HB1.out⟩
      case measure=>simp [intOf]; omega
     | false=>
      have HN:=hdq (HL.out.fail (.inl HQ.out));go_wp2;go_roundw;case rel=>exact ⟨k+1,r,true,om,si,rfl,rfl,HN.out,HB1.out⟩
      case measure=>simp [intOf]; omega
    ·have hvi:¬ (f k:Int)<(f r:Int):=om;have hvd:decide ((f k:Int)<(f r:Int))=false:=decide_eq_false hvi;have HN:=hdq (HL.out.fail (.inr ⟨rfl,Nat.le_of_not_lt hv⟩));clear hcall;go_wp2;go_roundw;case rel=>exact ⟨k+1,r,true,om,si,rfl,rfl,HN.out,HB.out⟩
     case measure=>simp [intOf]; omega
  ·(obtain rfl:k=m:=om);have hki:¬ (k:Int)<(k:Int):=om;have HB:=hdq hB;clear hB;go_wp2;(try rw [Exit.noGoto_ret]);exact bodyPost_ret (v:=.tuple #[r,b]) (by simp [results,Tryz.results149,go_sem]) rfl ⟨⟨r,b,rfl,HL.out⟩,HB.out⟩
theorem zLm (q:Rat):decide (qsign q<0)=decide (q<0):=by
 unfold qsign
 split
 ·rename_i h; rw [decide_eq_true (by decide:(-1:Int)<0),decide_eq_true h]
 ·rename_i h;rw [decide_eq_false h]
  split <;> rfl
theorem zMf {x:TV} {a:Nat->Nat->Rat} {g:Option (Nat->Rat)} {b1 b2:Nat} (h:TB W G x V n m L base bn cn a lv g) (hi:i<m) (hj:j<=n)
  (h1:W.cell? b1=some (.pointer (some x.d))) (h2:W.cell? b2=some (.int .i64 (j:Int))) :
  Calls Tryz.prog 150 #[.int .i64 (i:Int),.pointer (some b1),.pointer (some b2)] W fun e w'=>e = .returned (.bool (decide (a i j<0)))/\Below W W w':=by
 obtain ⟨k0,k1,k2,k3,k4,k5,k6,-⟩:=h.cells;obtain ⟨gr,eR,hr,-,tr⟩:=h.row.elem hi;obtain ⟨v,⟨v0,v1,v2,v3⟩,hv⟩:=(h.rows i hi).elem j (by rw [zAm]; omega);rw [zAL _ hj] at hv;have hm1:x.row.n=m:=h.row.len;have hm2:x.row.n<=x.row.c:=h.row.le;have hm3:x.row.c<=9223372036854775807:=h.row.cap;obtain ⟨hc1,hc2⟩:=h.caps i hi;have tb:=(h.rows i hi).lt;have td:=h.dlt;have t1:=zAb h1;have t2:=zAb h2;have HV:=hdq hv;obtain ⟨d,bs,⟨rA,rn,rcc⟩,bas,cols,lvs,rb,rc,gb,gc⟩:=x;dsimp only [SV.val] at *;subst eR;subst hm1;have hii:(i:Int)<(rn:Int):=om
 have hi0:(0:Int)<=(i:Int):=om
 have hji:(j:Int)<(n:Int)+1:=om
 have hj0:(0:Int)<=(j:Int):=om
 have hjn:j<n+1:=om
 generalize rb i=br at *;generalize rc i=cr at *;clear h hv;go_enter Tryz.func150,Tryz.ntmps150
 go_upto_region 1 with fail
 refine zAp 1000 (fun _ w'=>Sees W [] W w') kj ?_;have hS0:Sees W [] W W.drew:=Sees.st si (nlr _);refine tx4 0 1 2 3 hS0 ?_;refine tx4 4 5 6 7 hS0 ?_;refine tx1 8 hS0 ?_;refine tx1 9 hS0 ?_;refine tk1 10 ?_;intro K hK;go_simp;refine (zAn (HV.out.below (brf _ _).drew)).mono ?_;rintro e w1 ⟨rfl,hb1⟩;have hS1:=Kept.call2 hb1 hS0;refine hK.out _ _ hS1 ?_;clear hK K hb1 hS0;have HQ:=hdq (zLm (a i j));generalize qsign (a i j)=s at *;refine tx1 11 hS1 ?_;refine tx1 12 hS1 ?_;refine zAf kj ?_ _;have hbf:=hS1.kept.whole;clear hS1;go_wp2;go_ret;exact ⟨by rw [<-HQ.out]; rfl,hbf⟩
theorem zMg {x:TV} {a:Nat->Nat->Rat} {g:Option (Nat->Rat)} {b1 b2:Nat} (h:TB W G x V n m L base bn cn a lv g) (hi:i<m) (hj:j<=n)
  (h1:W.cell? b1=some (.pointer (some x.d))) (h2:W.cell? b2=some (.int .i64 (i:Int))) :
  Calls Tryz.prog 151 #[.int .i64 (j:Int),.pointer (some b1),.pointer (some b2)] W fun e w'=>e = .returned (.bool (decide (a i j<0)))/\Below W W w':=by
 obtain ⟨k0,k1,k2,k3,k4,k5,k6,-⟩:=h.cells;obtain ⟨gr,eR,hr,-,tr⟩:=h.row.elem hi;obtain ⟨v,⟨v0,v1,v2,v3⟩,hv⟩:=(h.rows i hi).elem j (by rw [zAm]; omega);rw [zAL _ hj] at hv;have hm1:x.row.n=m:=h.row.len;have hm2:x.row.n<=x.row.c:=h.row.le;have hm3:x.row.c<=9223372036854775807:=h.row.cap;obtain ⟨hc1,hc2⟩:=h.caps i hi;have tb:=(h.rows i hi).lt;have td:=h.dlt;have t1:=zAb h1;have t2:=zAb h2;have HV:=hdq hv;obtain ⟨d,bs,⟨rA,rn,rcc⟩,bas,cols,lvs,rb,rc,gb,gc⟩:=x;dsimp only [SV.val] at *;subst eR;subst hm1;have hii:(i:Int)<(rn:Int):=om
 have hi0:(0:Int)<=(i:Int):=om
 have hji:(j:Int)<(n:Int)+1:=om
 have hj0:(0:Int)<=(j:Int):=om
 have hjn:j<n+1:=om
 generalize rb i=br at *;generalize rc i=cr at *;clear h hv;go_enter Tryz.func151,Tryz.ntmps151
 go_upto_region 1 with fail
 refine zAp 1000 (fun _ w'=>Sees W [] W w') kj ?_;have hS0:Sees W [] W W.drew:=Sees.st si (nlr _);refine tx4 0 1 2 3 hS0 ?_;refine tx4 4 5 6 7 hS0 ?_;refine tx1 8 hS0 ?_;refine tx1 9 hS0 ?_;refine tk1 10 ?_;intro K hK;go_simp;refine (zAn (HV.out.below (brf _ _).drew)).mono ?_;rintro e w1 ⟨rfl,hb1⟩;have hS1:=Kept.call2 hb1 hS0;refine hK.out _ _ hS1 ?_;clear hK K hb1 hS0;have HQ:=hdq (zLm (a i j));generalize qsign (a i j)=s at *;refine tx1 11 hS1 ?_;refine tx1 12 hS1 ?_;refine zAf kj ?_ _;have hbf:=hS1.kept.whole;clear hS1;go_wp2;go_ret;exact ⟨by rw [<-HQ.out]; rfl,hbf⟩
theorem Kept.fr (h:Kept 0 [r] w w'):Fr (fun y=>y=r) w w':=⟨h.os,h.tape,h.output,h.size,fun b hb hg=>h.block b hb (by simpa using hg)⟩
def RedRet (w:World) (G:Nat->Prop) (L r V:Nat) (f:Nat->Rat) (e:Ending) (w':World):Prop:=
 ∃ b c,e = .returned (.slice (some ⟨b,0,none⟩) (V+1) c)/\V+1<=c/\c<=9223372036854775807/\(b=r\/w.heap.size<=b)/\RowB w' (fun x=>G x\/x=b) L b (rowL V f)/\Kept 0 [r] w w'
theorem zMu (V col:Nat) (g f:Nat->Rat):((List.range (max (V+1) (V+1))).map fun i=>-f col*(rowL V g).getD i 0+((rowL V f).set col 0).getD i 0)=rowL V (Lin.elim col g f):=by
 rw [Nat.max_self];unfold rowL;apply List.map_congr_left;intro k hk;rw [List.mem_range] at hk;have e1:(rowL V g).getD k 0=g k:=zAL g om
 have e2:((rowL V f).set col 0).getD k 0=if k=col then 0 else f k:=by
  rw [zD1,zAL _ om]; rfl
 unfold rowL at e1 e2;rw [e1,e2];unfold Lin.elim;grind
theorem QFit.of_zero (h:QFit L q):QFit L 0:=by
 cases L with
 | zero=>exact absurd h.2 (by have:=q.den_pos; simp; omega)
 | succ k=>exact QFit.zero k
theorem QFit.up (h:QFit L q) (hk:L<=K):QFit K q:=
 ⟨ltl h.1 (Nat.pow_le_pow_right dj hk),ltl h.2 (Nat.pow_le_pow_right dj hk)⟩
theorem zLU (V col:Nat) (f:Nat->Rat):((rowL V f).set col 0).length=V+1:=by rw [List.length_set,zAm]
theorem RowB.vecN (h:RowB w G L b l) (hl:l.length=N) (hc:N<=c) (hc2:c<=9223372036854775807):VecIs w (fun x=>x=b) (fun x=>¬ G x) L ⟨some ⟨b,0,none⟩,N,c⟩ l:=by
 subst hl; exact h.vec hc hc2
theorem qzero (w:World) (X:Nat->Prop) (L:Nat):QIs w X L ⟨⟨false,none,0,0⟩,⟨false,none,0,0⟩⟩ 0:=
 ⟨0,0,⟨[],WordsAt.nil _ _ _ _ (nzl _),nzl _,rfl⟩,⟨[],WordsAt.nil _ _ _ _ (nzl _),nzl _,rfl⟩,by simp [qv]⟩
theorem zKS {cr pc bc bp:Nat} {g:Nat->Rat} (hr:RowB w G L r (rowL V f)) (hp:RowB w G L pb (rowL V g)) (hne:pb ≠ r) (hG:∀ x,G x->x<w.heap.size)
  (hc:col<=V) (hV:V<=1000) (hL:L<=LM) (hf:∀ j,j<=V->Lin.Fits kb (f j)) (hg:∀ j,j<=V->Lin.Fits kb (g j)) (hk:2*kb+1<=LM) (hres:∀ j,j<=V->QFit L (Lin.elim col g f j))
  (h1:w.cell? bc=some (.int .i64 (col:Int))) (h2:w.cell? bp=some (.slice (some pb) (V+1) pc)) (n1:¬ G bc) (n2:¬ G bp)
  (m1:V+1<=cr) (m2:cr<=9223372036854775807) (m3:V+1<=pc) (m4:pc<=9223372036854775807) :
  Calls Tryz.prog 203 #[.slice (some r) (V+1) cr,.pointer (some bc),.pointer (some bp)] w (RedRet w G L r V (Lin.elim col g f)):=by
 have HK:=hdq hk;have HL:=hdq hL;have HF:=hdq hf;have HG:=hdq hg;have HR:=hdq hres;clear hk hL hf hg hres;obtain ⟨v,⟨c0,c1,c2,c3⟩,hv⟩:=hr.elem col (by rw [zAm]; omega);rw [zAL f hc] at hv;dsimp only at c1 c2 c3;have hcl:col<V+1:=by omega
 have hcli:(col:Int)<(V:Int)+1:=by omega
 have hc0:(0:Int)<=(col:Int):=by omega
 have hrl:=hr.lt;have l1:=zAb h1;have l2:=zAb h2;have nr1:bc ≠ r:=fun e=>n1 (e ▸ hr.mem)
 have nr2:bp ≠ r:=fun e=>n2 (e ▸ hr.mem)
 dsimp only at l1 l2;go_enter Tryz.func203,Tryz.ntmps203
 go_wp2_with fail
 refine zAg (fun W=>Below w w W/\Box4 W w (.bool v.num.ng) (.slice v.num.A v.num.n v.num.c) (.bool v.den.ng) (.slice v.den.A v.den.n v.den.c)/\w.heap.size<W.heap.size) ⟨(az (brf _ _)),bx4,by simp <;> omega⟩ ?_;rintro W ⟨hbW,bF,s0⟩;have hBW:=hbW.size;have hv1:=hv.below hbW;refine (zAn hv1).mono ?_; rintro e w1 ⟨rfl,hb1⟩
 have h01:=hbW.trans (hb1.mono hBW);have bF1:=bF.below hb1 s0;have hv2:=hv1.below hb1;by_cases h0:f col=0
 ·have hq:qsign (f col)=0:=by rw [h0]; rfl
  have HE:=hdq (zIi (V:=V) (g:=g) h0);rw [hq];clear hq h0 c0 c1 c2 c3;go_wp2;try rw [Exit.noGoto_ret]
  refine bodyPost_ret (v:=.slice (some r) (V+1) cr) (by simp [results,Tryz.results203,go_sem]) rfl ⟨r,cr,rfl,m1,m2,.inl rfl,?_,(Kept.refl (by simp) (nzl _)).call h01⟩;rw [<-HE.out];exact (hr.grow (fun _ h=>.inl h) fun x _ hx=>hx.elim id fun e=>e ▸ hr.mem).below h01
 ·have hq:(qsign (f col) == 0)=false:=zDd h0;clear h0;have hr1:=hr.below h01;obtain ⟨zv,⟨d0,d1,d2,d3⟩,-⟩:=hr1.elem col (by rw [zAm]; omega);have fz:=hr1.frozen;dsimp only at d1 d2 d3;have g1:w1.cell? bc=some (.int .i64 (col:Int)):=(h01.cell l1).trans h1;have g2:w1.cell? bp=some (.slice (some pb) (V+1) pc):=(h01.cell l2).trans h2;clear c0 c1 c2 c3;go_wp2_with fail
  have hput:∀ p:Addr,p.block ≠ r->(put4 w1 r col ⟨⟨false,none,0,0⟩,⟨false,none,0,0⟩⟩).cell? p=w1.cell? p:=fun p hp=>zCq _ _ _ _ hp
  have hr2:RowB (put4 w1 r col ⟨⟨false,none,0,0⟩,⟨false,none,0,0⟩⟩) G L r ((rowL V f).set col 0):=hr1.put4 (by rw [zAm]; omega) (qzero _ _ _);have hp2:RowB (put4 w1 r col ⟨⟨false,none,0,0⟩,⟨false,none,0,0⟩⟩) G L pb (rowL V g):=(hp.below h01).put4_other hr1.mem (Ne.symm hne) _ _;have hv3:QIs (put4 w1 r col ⟨⟨false,none,0,0⟩,⟨false,none,0,0⟩⟩) (fun x=>¬ G x) L v (f col):=hv2.keep fun p hp _=>hput p fun e=>hp (e ▸ hr.mem)
  have hF2:Kept 0 [r] w (put4 w1 r col ⟨⟨false,none,0,0⟩,⟨false,none,0,0⟩⟩):=(((((Kept.refl (by simp) (nzl _)).call h01).set _ (.inl (by simp))).set _ (.inl (by simp))).set _ (.inl (by simp))).set _ (.inl (by simp));have bF2:Box4 (put4 w1 r col ⟨⟨false,none,0,0⟩,⟨false,none,0,0⟩⟩) w (.bool v.num.ng) (.slice v.num.A v.num.n v.num.c) (.bool v.den.ng) (.slice v.den.A v.den.n v.den.c):=bF1.heap (zAx _ _ _ _ (by omega));rw [<-hput _ nr2] at g2;have hzs:w1.heap.size<=(put4 w1 r col ⟨⟨false,none,0,0⟩,⟨false,none,0,0⟩⟩).heap.size:=by rw [zBI]; exact nlr _
  clear hput d0 d1 d2 d3 fz g1 hr1 bF bF1 hv1 hv2 hv hq;show Code.wp _ _ _ _ (put4 w1 r col ⟨⟨false,none,0,0⟩,⟨false,none,0,0⟩⟩);generalize put4 w1 r col ⟨⟨false,none,0,0⟩,⟨false,none,0,0⟩⟩=W2 at *;have hw2:w.heap.size<W2.heap.size:=zAb bF2.1;have hbp2:bp<W2.heap.size:=by omega
  have hBW2:w.heap.size<=W2.heap.size:=by omega
  have HR2:=hdq hr2;have HP2:=hdq hp2;have HV2:=hdq hv3;have HK1:Hid (kb+1<=LM):=by have:=HK.out; show kb+1<=LM; omega
  have HFC:Hid (QFit (kb+1) (-f col)):=hdq (zAv (HF.out col hc).neg)
  have HM:Hid (∀ i,QFit LM (-f col*(rowL V g).getD i 0)):=by
   (refine hdq fun i=>?_);by_cases hi:i<=V
   ·rw [zAL g hi];have h:=zAv ((HF.out col hc).neg.mul (HG.out i hi));rw [<-Nat.two_mul] at h;exact h.up HK.out
   ·have e:(rowL V g).getD i 0=0:=by rw [gdd,List.getElem?_eq_none (by rw [zAm]; omega)]; rfl
    rw [e,Rat.mul_zero];exact QFit.zero _
  obtain ⟨b0,b1,b2,b3,b4⟩:=bF2;clear hr2 hp2 hv3 h01 hb1 hbW s0;go_upto_region 5 with fail
  go_region_held3 (Sees w [] W2) (exact kp)
   (first
    | (go_at_call 116; ((with_reducible refine (zHK (a:=v) (HV2.out.keptNil (Sees.kept (by assumption))) HL.out).mono ?_); rintro e w3 ⟨⟨z,rfl,hz⟩,hb3⟩; (have sz3:W2.heap.size<=w3.heap.size:=by exact nlt (Sees.kept (by assumption):Kept w [] W2 _).size hb3.size)))
    | (go_at_call 204; ((with_reducible refine (zKJ (k:=z) (sa:=⟨some ⟨pb,0,none⟩,V+1,pc⟩) (sb:=⟨some ⟨r,0,none⟩,V+1,cr⟩) (hz.qis HFC.out) ((HP2.out.below (Sees.kept (by assumption)).whole).vecN (zAm _ _) m3 m4) ((HR2.out.below (Sees.kept (by assumption)).whole).vecN (zLU _ _ _) m1 m2) HL.out HL.out HK1.out (show V+1<=1000000 by omega) (show V+1<=1000000 by omega) HM.out).mono ?_); rintro e w4 ⟨⟨s,rfl,hs,hrow⟩,hb4⟩))
    | (go_at_call 204; ((with_reducible refine (zKJ (k:=z) (sa:=⟨some ⟨pb,0,none⟩,V+1,pc⟩) (sb:=⟨some ⟨r,0,none⟩,V+1,cr⟩) ((hz.below (brf _ _).drew).qis HFC.out) ((HP2.out.below (Sees.kept (by assumption)).whole).vecN (zAm _ _) m3 m4) ((HR2.out.below (Sees.kept (by assumption)).whole).vecN (zLU _ _ _) m1 m2) HL.out HL.out HK1.out (show V+1<=1000000 by omega) (show V+1<=1000000 by omega) HM.out).mono ?_); rintro e w4 ⟨⟨s,rfl,hs,hrow⟩,hb4⟩))
    | fail)
  all_goals
   rename_i hS;rw [zMu] at hrow;obtain ⟨b,c,rfl,hc1,hc2,hbn,hP⟩:=hrow (by rw [zAm]; omega);rw [zAm] at hc1;rw [zAm]
   have hB:RowB w4 (fun x=>G x\/x=b) L b (rowL V (Lin.elim col g f)):=(hP.rowB fun k=>by
    by_cases hk:k<=V
    ·rw [zAL _ hk]; exact HR.out k hk
    ·rw [show (rowL V (Lin.elim col g f)).getD k 0=0 by rw [gdd,List.getElem?_eq_none (by rw [zAm]; omega)]; rfl];exact QFit.of_zero (HR.out 0 (nzl _))).new (.inr rfl) fun x hx=>hx.elim (fun hg=>.inl (by have h1:=hG x hg; have h2:W2.heap.size<=w3.heap.size:=sz3; show x<w3.heap.size; omega)) .inr
   have HB:=hdq hB;have hwk:=hS.kept.whole;have hbw:w.heap.size<=b:=by have h1:w3.heap.size<=b:=hbn; have h2:W2.heap.size<=w3.heap.size:=sz3; omega
   clear hB hP hs hS hz b0 b1 b2 b3 b4;go_wp2;(try rw [Exit.noGoto_ret]);exact bodyPost_ret (v:=.slice (some b) (V+1) c) (by simp [results,Tryz.results203,go_sem,SV.val]) rfl ⟨b,c,rfl,hc1,hc2,.inr hbw,HB.out,hF2.call hwk⟩
section
variable {W W' W'':World} {G G':Nat->Prop} {x:TV} {V n m L:Nat} {base:List Rat} {bn cn:Nat->Nat} {a:Nat->Nat->Rat} {lv:Nat->Bool} {g:Option (Nat->Rat)}
theorem zKG {cs':Array Value} {t':TypeId} {o o':Nat × Nat} (h:w.heap[b]?=some (.cells cs t o)) (h':w.heap[b']?=some (.cells cs' t' o')) (ht:t ≠ t'):b ≠ b':=by
 rintro rfl;rw [h] at h';injection h' with h'
 injection h' with _ h'
 exact ht h'
theorem TB.redo (h:TB W G x V n m L base bn cn a lv g) {gr:Nat} (hi:i<m) (er:x.row.A=some ⟨gr,0,none⟩) (hF:Fr (fun y=>y=x.rb i) W W') (hG:∀ y,G y->G' y) (hn:∀ y,G' y->G y\/W.heap.size<=y) (hl:∀ y,G' y->y<W'.heap.size)
  (hR:RowB W' G' L b (rowL n f)) (c1:n+1<=c) (c2:c<=9223372036854775807) (hb2:∀ j,j<m->j ≠ i->x.rb j ≠ b) (hb3:∀ f,g=some f->x.gb ≠ b) :
  TB (W'.setCell ⟨gr,i,none⟩ (.slice (some b) (n+1) c)) G' {x with rb:=Lin.turn x.rb i b,rc:=Lin.turn x.rc i c} V n m L base bn cn (Lin.turn a i f) lv g:=by
 obtain ⟨csr,hgr⟩:=h.row.block er;obtain ⟨csi,hri,-⟩:=(h.rows i hi).blk;have n1:gr ≠ x.rb i:=zKG hgr hri dj;have hgl:=zAa hgr;have hgr':W'.heap[gr]?=_:=(hF.block gr hgl n1).trans hgr;obtain ⟨csb,hbb,-⟩:=hR.blk;have n2:b ≠ gr:=(zKG hgr' hbb dj).symm
 have key:∀ y,y<W.heap.size->y ≠ x.rb i->y ≠ gr->(W'.setCell ⟨gr,i,none⟩ (.slice (some b) (n+1) c)).heap[y]?=W.heap[y]?:=fun y hy h1 h2=>
  (bhs _ _ _ _ h2).trans (hF.block y hy h1)
 have off:∀ y,y<W.heap.size->¬ G y->¬ G' y:=fun y hy hg hg'=>hg ((hn y hg').resolve_right om)
 have gi:=(h.rows i hi).mem;have ggr:=h.gr gr er
 have kc:∀ p:Addr,¬ G p.block->p.block<W->(W'.setCell ⟨gr,i,none⟩ (.slice (some b) (n+1) c)).cell? p=W.cell? p:=fun p hp hl'=>
  cob (key _ hl' (fun e=>hp (e ▸ gi)) (fun e=>hp (e ▸ ggr)))
 have kr:∀ {l b'},RowB W G L b' l->b' ≠ x.rb i->RowB (W'.setCell ⟨gr,i,none⟩ (.slice (some b) (n+1) c)) G' L b' l:=fun {l b'} hr hne=>
  (RowB.grow hr hG fun y hy hg'=>(hn y hg').resolve_right om).keep (key _ hr.lt hne (by obtain ⟨cs,e,-⟩:=hr.blk; exact (zKG hgr e dj).symm)) fun p hp hl'=>kc p (fun hg=>hp (hG _ hg)) hl'
 have ka:∀ {s k T fv},Arr W s k T fv->(T ≠ 30)->(T ≠ 23)->Arr (W'.setCell ⟨gr,i,none⟩ (.slice (some b) (n+1) c)) s k T fv:=fun {s k T fv} ha t1 t2=>
  ha.keep fun y ey hy=>by
   obtain ⟨cs,hy2⟩:=ha.block ey;exact key y hy (zKG hy2 hri t1) (zKG hy2 hgr t2)
 have kc':∀ p:Addr,¬ G' p.block->p.block<W->(W'.setCell ⟨gr,i,none⟩ (.slice (some b) (n+1) c)).cell? p=W.cell? p:=fun p hp=>kc p fun hg=>hp (hG _ hg)
 refine ⟨(key _ h.dlt (zKG h.blk hri dj) (zKG h.blk hgr dj)).trans h.blk,?_,?_,ka h.bas dj dj,ka h.cols dj dj,ka h.live dj dj,fun j hj=>?_,fun j hj=>?_,fun f' e=>?_,fun j k hj hk e=>?_,h.bf,fun y hy=>?_,hG _ h.gd,fun y e=>hG _ (h.gr y e),fun y e=>hG _ (h.gb y e),fun y e=>hG _ (h.gc y e),fun y e=>hG _ (h.gl y e)⟩
 ·exact VecAt.keep (h.base.imp (fun y hy hg=>off y hy hg) fun _ _ hq=>hq.imp fun y hy hg=>off y hy hg) kc' fun _ _ hq=>hq.keep kc'
 ·refine ((h.row.keep (W':=W') fun y ey hy=>by rw [er] at ey; cases ey; exact hF.block gr hy n1).set er _).congr fun k hk=>?_
  show (if k=i then _ else _)=Value.slice (some ⟨Lin.turn x.rb i b k,0,none⟩) (n+1) (Lin.turn x.rc i c k);by_cases e:k=i
  ·rw [if_pos e,e,Lin.zBL,Lin.zBL]
  ·rw [if_neg e,Lin.zBh _ e,Lin.zBh _ e]
 ·show RowB _ G' L (Lin.turn x.rb i b j) (rowL n (Lin.turn a i f j));by_cases e:j=i
  ·rw [e,Lin.zBL,Lin.zBL];exact hR.keep (bhs _ _ _ _ n2) fun p hp _=>cob (bhs _ _ _ _ fun e=>hp (by rw [e]; exact hG _ ggr))
  ·rw [Lin.zBh _ e,Lin.zBh _ e];exact kr (h.rows j hj) fun e'=>e (h.rinj j i hj hi e')
 ·show n+1<=Lin.turn x.rc i c j/\Lin.turn x.rc i c j<=9223372036854775807;by_cases e:j=i
  ·rw [e,Lin.zBL]; exact ⟨c1,c2⟩
  ·rw [Lin.zBh _ e]; exact h.caps j hj
 ·obtain ⟨q1,q2,q3,q4⟩:=h.aim f' e;refine ⟨kr q1 (Ne.symm (q4 i hi)),q2,q3,fun j hj=>?_⟩;show Lin.turn x.rb i b j ≠ x.gb;by_cases e':j=i
  ·rw [e',Lin.zBL]; exact Ne.symm (hb3 f' e)
  ·rw [Lin.zBh _ e']; exact q4 j hj
 ·have e:Lin.turn x.rb i b j=Lin.turn x.rb i b k:=e;by_cases e1:j=i
  ·by_cases e2:k=i
   ·rw [e1,e2]
   ·rw [e1,Lin.zBL,Lin.zBh _ e2] at e;exact absurd e.symm (hb2 k hk e2)
  ·by_cases e2:k=i
   ·rw [e2,Lin.zBL,Lin.zBh _ e1] at e;exact absurd e (hb2 j hj e1)
   ·rw [Lin.zBh _ e1,Lin.zBh _ e2] at e;exact h.rinj j k hj hk e
 ·have:=hl y hy;simpa [World.setCell] using this
end
section
variable {W W' W'':World} {G G':Nat->Prop} {x:TV} {V n m L:Nat} {base:List Rat} {bn cn:Nat->Nat} {a:Nat->Nat->Rat} {lv:Nat->Bool} {g:Option (Nat->Rat)}
theorem TB.congr {bn' cn':Nat->Nat} {a':Nat->Nat->Rat} {lv':Nat->Bool} (h:TB W G x V n m L base bn cn a lv g) (h1:∀ i,i<m->bn i=bn' i) (h2:∀ j,j<n->cn j=cn' j) (h3:∀ i j,i<m->j<=n->a i j=a' i j) (h4:∀ j,j<n->lv j=lv' j):TB W G x V n m L base bn' cn' a' lv' g:=
 {h with
  bas:=h.bas.congr fun k hk=>by rw [h1 k hk]
  cols:=h.cols.congr fun k hk=>by rw [h2 k hk]
  live:=h.live.congr fun k hk=>by rw [h4 k hk]
  rows:=fun i hi=>by rw [<-zBs fun j hj=>h3 i j hi hj]; exact h.rows i hi}
theorem TB.goalEq {f':Nat->Rat} (h:TB W G x V n m L base bn cn a lv (some f)) (e:∀ j,j<=n->f j=f' j):TB W G x V n m L base bn cn a lv (some f'):=
 {h with
  blk:=h.blk
  aim:=fun q hq=>by cases hq; rw [<-zBs fun j hj=>e j hj]; exact h.aim f rfl}
theorem TB.arr (h:TB W G x V n m L base bn cn a lv g) {y:Nat} (v:Value) (hy:G y) (hb:W.heap[y]?=some (.cells cs T (0,0))) (t1:T ≠ 30) (t2:T ≠ 23) (t3:T ≠ 186)
  {bn' cn':Nat->Nat} {lv':Nat->Bool} (k1:Arr (W.setCell ⟨y,k,none⟩ v) x.bas m 3 fun i=>.int .i64 (bn' i)) (k2:Arr (W.setCell ⟨y,k,none⟩ v) x.cols n 3 fun j=>.int .i64 (cn' j)) (k3:Arr (W.setCell ⟨y,k,none⟩ v) x.lv n 4 fun j=>.bool (lv' j)) :
  TB (W.setCell ⟨y,k,none⟩ v) G x V n m L base bn' cn' a lv' g:=by
 have key:∀ b,b ≠ y->(W.setCell ⟨y,k,none⟩ v).heap[b]?=W.heap[b]?:=fun b h1=>bhs _ _ _ _ h1
 have kc:∀ p:Addr,¬ G p.block->p.block<W->(W.setCell ⟨y,k,none⟩ v).cell? p=W.cell? p:=fun p hp _=>cob (key _ fun e=>hp (e ▸ hy))
 have kr:∀ {l b'},RowB W G L b' l->RowB (W.setCell ⟨y,k,none⟩ v) G L b' l:=fun {l b'} hr=>hr.keep (key _ (by obtain ⟨cs',e,-⟩:=hr.blk; exact (zKG hb e t1).symm)) kc
 exact ⟨(key _ (zKG hb h.blk t3).symm).trans h.blk,VecAt.keep h.base kc fun _ _ hq=>hq.keep kc,h.row.keep fun b e _=>key b (by obtain ⟨cs',e'⟩:=h.row.block e; exact (zKG hb e' t2).symm),k1,k2,k3,
  fun i hi=>kr (h.rows i hi),h.caps,fun f e=>⟨kr (h.aim f e).1,(h.aim f e).2⟩,h.rinj,h.bf,fun b hb=>by simpa [World.setCell] using h.gin b hb,h.gd,h.gr,h.gb,h.gc,h.gl⟩
theorem TB.setB (h:TB W G x V n m L base bn cn a lv g) {y v:Nat} (e:x.bas.A=some ⟨y,0,none⟩):TB (W.setCell ⟨y,r,none⟩ v) G x V n m L base (Lin.turn bn r v) cn a lv g:=by
 obtain ⟨cs,hb⟩:=h.bas.block e;refine h.arr _ (h.gb y e) hb dj dj dj ((h.bas.set e _).congr fun i hi=>?_) (h.cols.keep fun b e' _=>bhs _ _ _ _ fun e2=>h.bf y e (by rw [e',e2])) (h.live.keep fun b e' _=>bhs _ _ _ _ ?_)
 ·show (if i=r then _ else _)=Value.int .i64 ((Lin.turn bn r v i:Nat):Int);by_cases e:i=r
  ·rw [if_pos e,e,Lin.zBL]
  ·rw [if_neg e,Lin.zBh _ e]
 ·obtain ⟨cs',e2⟩:=h.live.block e';exact (zKG hb e2 dj).symm
theorem TB.setC (h:TB W G x V n m L base bn cn a lv g) {y s v:Nat} (e:x.cols.A=some ⟨y,0,none⟩):TB (W.setCell ⟨y,s,none⟩ v) G x V n m L base bn (Lin.turn cn s v) a lv g:=by
 obtain ⟨cs,hb⟩:=h.cols.block e;refine h.arr _ (h.gc y e) hb dj dj dj (h.bas.keep fun b e' _=>bhs _ _ _ _ fun e2=>h.bf b e' (by rw [e,e2])) ((h.cols.set e _).congr fun i hi=>?_) (h.live.keep fun b e' _=>bhs _ _ _ _ ?_)
 ·show (if i=s then _ else _)=Value.int .i64 ((Lin.turn cn s v i:Nat):Int);by_cases e:i=s
  ·rw [if_pos e,e,Lin.zBL]
  ·rw [if_neg e,Lin.zBh _ e]
 ·obtain ⟨cs',e2⟩:=h.live.block e';exact (zKG hb e2 dj).symm
theorem TB.setL (h:TB W G x V n m L base bn cn a lv g) {y s:Nat} {v:Bool} (e:x.lv.A=some ⟨y,0,none⟩):TB (W.setCell ⟨y,s,none⟩ v) G x V n m L base bn cn a (Lin.turn lv s v) g:=by
 obtain ⟨cs,hb⟩:=h.live.block e;refine h.arr _ (h.gl y e) hb dj dj dj (h.bas.keep fun b e' _=>bhs _ _ _ _ ?_) (h.cols.keep fun b e' _=>bhs _ _ _ _ ?_) ((h.live.set e _).congr fun i hi=>?_)
 ·obtain ⟨cs',e2⟩:=h.bas.block e';exact (zKG hb e2 dj).symm
 ·obtain ⟨cs',e2⟩:=h.cols.block e';exact (zKG hb e2 dj).symm
 ·show (if i=s then _ else _)=Value.bool (Lin.turn lv s v i);by_cases e:i=s
  ·rw [if_pos e,e,Lin.zBL]
  ·rw [if_neg e,Lin.zBh _ e]
theorem TB.regoal (h:TB W G x V n m L base bn cn a lv g) (hF:Fr (fun y=>g ≠ none/\y=x.gb) W W') (hG:∀ y,G y->G' y) (hn:∀ y,G' y->G y\/W.heap.size<=y) (hl:∀ y,G' y->y<W'.heap.size)
  (hR:RowB W' G' L b (rowL n f)) (c1:n+1<=c) (c2:c<=9223372036854775807) (hb2:∀ j,j<m->x.rb j ≠ b) :
  TB (W'.setCell ⟨x.d,6,none⟩ (.slice (some b) (n+1) c)) G' {x with gb:=b,gc:=c} V n m L base bn cn a lv (some f):=by
 have hx:∀ y,y<W.heap.size->(g ≠ none/\y=x.gb)->G y/\∃ cs,W.heap[y]?=some (.cells cs 30 (0,0)):=fun y hy ⟨h1,h2⟩=>by
  cases g with
  | none=>exact absurd rfl h1
  | some f0=>
   obtain ⟨q,-⟩:=h.aim f0 rfl;obtain ⟨cs,e,-⟩:=q.blk;exact ⟨h2 ▸ q.mem,cs,h2 ▸ e⟩
 have hd':W'.heap[x.d]?=_:=(hF.block x.d h.dlt (fun e=>by obtain ⟨-,cs,e'⟩:=hx _ h.dlt e; exact zKG h.blk e' dj rfl)).trans h.blk
 have key:∀ y,y<W.heap.size->y ≠ x.d->¬ (g ≠ none/\y=x.gb)->(W'.setCell ⟨x.d,6,none⟩ (.slice (some b) (n+1) c)).heap[y]?=W.heap[y]?:=fun y hy h1 h2=>
  (bhs _ _ _ _ h1).trans (hF.block y hy h2)
 have keyT:∀ (y:Nat) (cs:Array Value) (T:TypeId),W.heap[y]?=some (Obj.cells cs T (0,0))->T ≠ 30->T ≠ 186->(W'.setCell ⟨x.d,6,none⟩ (.slice (some b) (n+1) c)).heap[y]?=W.heap[y]?:=fun y cs T e t1 t2=>
  key y (zAa e) (zKG e h.blk t2) fun e'=>by obtain ⟨-,cs,e2⟩:=hx _ (zAa e) e'; exact zKG e e2 t1 rfl
 have kc:∀ p:Addr,¬ G p.block->p.block<W->(W'.setCell ⟨x.d,6,none⟩ (.slice (some b) (n+1) c)).cell? p=W.cell? p:=fun p hp hl'=>
  cob (key _ hl' (fun e=>hp (e ▸ h.gd)) fun e=>hp (hx _ hl' e).1)
 have kc':∀ p:Addr,¬ G' p.block->p.block<W->(W'.setCell ⟨x.d,6,none⟩ (.slice (some b) (n+1) c)).cell? p=W.cell? p:=fun p hp=>kc p fun hg=>hp (hG _ hg)
 have off:∀ y,y<W.heap.size->¬ G y->¬ G' y:=fun y hy hg hg'=>hg ((hn y hg').resolve_right om)
 have ka:∀ {s k T fv},Arr W s k T fv->(T ≠ 30)->(T ≠ 186)->Arr (W'.setCell ⟨x.d,6,none⟩ (.slice (some b) (n+1) c)) s k T fv:=fun {s k T fv} ha t1 t2=>
  ha.keep fun y ey _=>by
   obtain ⟨cs,hy2⟩:=ha.block ey;exact keyT y cs T hy2 t1 t2
 obtain ⟨csb,hbb,-⟩:=hR.blk;have n2:b ≠ x.d:=(zKG hd' hbb dj).symm;refine ⟨?_,VecAt.keep (h.base.imp (fun y hy hg=>off y hy hg) fun _ _ hq=>hq.imp fun y hy hg=>off y hy hg) kc' fun _ _ hq=>hq.keep kc',ka h.row dj dj,ka h.bas dj dj,ka h.cols dj dj,ka h.live dj dj,fun j hj=>?_,h.caps,fun f' e=>?_,h.rinj,h.bf,fun y hy=>?_,hG _ h.gd,fun y e=>hG _ (h.gr y e),fun y e=>hG _ (h.gb y e),fun y e=>hG _ (h.gc y e),fun y e=>hG _ (h.gl y e)⟩
 ·have:=zAe (o:=6) (.slice (some b) (n+1) c) hd';simpa [TV.goal] using this
 ·refine (RowB.grow (h.rows j hj) hG fun y hy hg'=>(hn y hg').resolve_right om).keep (key _ (h.rows j hj).lt ?_ fun e=>?_) kc'
  ·obtain ⟨cs,e,-⟩:=(h.rows j hj).blk;exact (zKG h.blk e dj).symm
  ·obtain ⟨e1,e2⟩:=e
   cases g with
   | none=>exact e1 rfl
   | some f0=>exact (h.aim f0 rfl).2.2.2 j hj e2
 ·cases e;exact ⟨hR.keep (bhs _ _ _ _ n2) fun p hp _=>cob (bhs _ _ _ _ fun e=>hp (by rw [e]; exact hG _ h.gd)),c1,c2,hb2⟩
 ·have:=hl y hy;simpa [World.setCell] using this
end
def pvA (a:Nat->Nat->Rat) (r s k:Nat):Nat->Nat->Rat:=fun i=>if i<k/\i ≠ r then Lin.elim s (Lin.scaled s (a r)) (a i) else a i
def pvG (a:Nat->Nat->Rat) (r s:Nat) (g:Option (Nat->Rat)):Option (Nat->Rat):=g.map (Lin.elim s (Lin.scaled s (a r)))
structure More (w:World) (G G':Nat->Prop):Prop where
 old:∀ y,G y->G' y
 new:∀ y,G' y->G y\/w.heap.size<=y
def Ow (x:TV) (m:Nat) (q:Bool) (y:Nat):Prop:=y=x.d\/(x.row.A=some ⟨y,0,none⟩\/x.bas.A=some ⟨y,0,none⟩\/x.cols.A=some ⟨y,0,none⟩\/x.lv.A=some ⟨y,0,none⟩)\/(∃ i,i<m/\y=x.rb i)\/(q=true/\y=x.gb)
theorem TB.ow {x:TV} {a:Nat->Nat->Rat} {g:Option (Nat->Rat)} (h:TB W G x V n m L base bn cn a lv g) {y:Nat} (hy:Ow x m g.isSome y):G y:=by
 rcases hy with rfl | (e | e | e | e) | ⟨i,hi,rfl⟩ | ⟨e,rfl⟩
 ·exact h.gd
 ·exact h.gr y e
 ·exact h.gb y e
 ·exact h.gc y e
 ·exact h.gl y e
 ·exact (h.rows i hi).mem
 ·cases g with
  | none=>cases e
  | some f=>exact (h.aim f rfl).1.mem
def Less (w:World) (H H':Nat->Prop):Prop:=∀ y,H' y->H y\/w.heap.size<=y
theorem Less.refl (w:World) (H:Nat->Prop):Less w H H:=fun _ h=>.inl h
theorem Less.trans {H' H'':Nat->Prop} (h:Less w H H') (h':Less w' H' H'') (hs:w.heap.size<=w'.heap.size):Less w H H'':=fun y hy=>(h' y hy).elim (h y) fun e=>.inr (nlt hs e)
theorem Less.lower {H':Nat->Prop} (h:Less w' H H') (hs:w.heap.size<=w'.heap.size):Less w H H':=fun y hy=>(h y hy).imp id fun e=>nlt hs e
def BPvRet (w:World) (G:Nat->Prop) (x:TV) (V n m L:Nat) (base:List Rat) (bn cn:Nat->Nat) (a:Nat->Nat->Rat) (lv:Nat->Bool) (g:Option (Nat->Rat)) (w':World):Prop:=
 ∃ G' x',x'.d=x.d/\More w G G'/\Less w (Ow x m g.isSome) (Ow x' m g.isSome)/\Fr (Ow x m g.isSome) w w'/\TB w' G' x' V n m L base bn cn a lv g
structure BPv (w:World) (G H:Nat->Prop) (x:TV) (V n m L:Nat) (base:List Rat) (bn cn:Nat->Nat) (a:Nat->Nat->Rat) (lv:Nat->Bool) (g:Option (Nat->Rat)) (r s gp pb pc k:Nat) (W:World):Prop where
 le:k<=m
 ex:∃ G' rb rc,More w G G'/\Less w H (Ow {x with rb:=rb,rc:=rc} m g.isSome)/\TB W G' {x with rb:=rb,rc:=rc} V n m L base bn cn (pvA a r s k) lv g/\RowB W G' L pb (rowL n (Lin.scaled s (a r)))/\(∀ j,j<m->rb j ≠ pb)/\(∀ f,g=some f->x.gb ≠ pb)/\¬ G' w.heap.size/\¬ G' gp
 fr:Fr H w W
 col:W.cell? w=some (.int .i64 (s:Int))
 piv:W.cell? gp=some (.slice (some pb) (n+1) pc)
theorem RowAt.lowB (h:RowAt w (fun x=>x<B+1\/x=b) b l) (hne:b ≠ B) (v:Value):RowAt (w.setCell B v) (fun x=>x<B\/x=b) b l:=by
 have key:∀ y,y ≠ B->(w.setCell B v).heap[y]?=w.heap[y]?:=fun y hy=>bhs _ _ _ _ hy
 refine ⟨.inr rfl,by rw [key b hne]; exact h.blk,fun k hk=>?_⟩;obtain ⟨u,h1,h2⟩:=h.elem k hk;exact ⟨u,h1.keep (fun a ha _=>cob (by rw [ha]; exact key b hne)),(h2.keep (w':=w.setCell B v) fun p hp _=>cob (key _ om)).imp fun x _ hx=>om⟩
def BPvLoop (w:World) (G H:Nat->Prop) (x:TV) (V n m L:Nat) (base:List Rat) (bn cn:Nat->Nat) (a:Nat->Nat->Rat) (lv:Nat->Bool) (g:Option (Nat->Rat)) (r s gp pb pc:Nat) (t:Value) (W:World):Prop:=
 ∃ k:Nat,t = .int .i64 (k:Int)/\BPv w G H x V n m L base bn cn a lv g r s gp pb pc k W
theorem Fr.more {w'':World} (h:Fr G w w') (h':Fr G' w' w'') (hm:Less w G G'):Fr G w w'':=
 ⟨h'.os.trans h.os,h'.tape.trans h.tape,h'.output.trans h.output,nlt h.size h'.size,fun b hb hg=>
  (h'.block b (ltl hb h.size) fun x=>(hm b x).elim hg fun e=>om).trans (h.block b hb hg)⟩
theorem BPv.step {x:TV} {a:Nat->Nat->Rat} {g:Option (Nat->Rat)} {s gp pc gr:Nat} {rb rc:Nat->Nat}
  (hMo:More w G G') (hOw:Less w H (Ow {x with rb:=rb,rc:=rc} m g.isSome)) (hT:TB W G' {x with rb:=rb,rc:=rc} V n m L base bn cn (pvA a r s k) lv g) (hP:RowB W G' L pb (rowL n (Lin.scaled s (a r)))) (hrb:∀ j,j<m->rb j ≠ pb) (hgb:∀ f,g=some f->x.gb ≠ pb) (nx:¬ G' w) (np:¬ G' gp)
  (hfr:Fr H w W) (hcol:W.cell? w=some (.int .i64 (s:Int))) (hpiv:W.cell? gp=some (.slice (some pb) (n+1) pc)) (hk:k<m) (hkr:k ≠ r) (er:x.row.A=some ⟨gr,0,none⟩)
  (hbn:b=rb k\/W.heap.size<=b) (hR:RowB W' (fun y=>G' y\/y=b) L b (rowL n (Lin.elim s (Lin.scaled s (a r)) (a k)))) (hK:Fr (fun y=>y=rb k) W W') (c1:n+1<=c) (c2:c<=9223372036854775807) :
  BPv w G H x V n m L base bn cn a lv g r s gp pb pc (k+1) (W'.setCell ⟨gr,k,none⟩ (.slice (some b) (n+1) c)):=by
 have hx:=zAb hcol;have hg:=zAb hpiv;have hpl:=hP.lt;have hwW:=hfr.size;have hrk:G' (rb k):=(hT.rows k hk).mem;have hgr:G' gr:=hT.gr gr er;have hrl:=(hT.rows k hk).lt;dsimp only at hx hg hrl;have hn:∀ y,(G' y\/y=b)->G' y\/W.heap.size<=y:=fun y hy=>hy.elim .inl fun e=>hbn.elim (fun h=>.inl (by rw [e,h]; exact hrk)) fun h=>.inr om
 have nb:∀ y,y<W.heap.size->¬ G' y->y ≠ b:=fun y hy hg' e=>by
  rcases hbn with h | h
  ·exact hg' (by rw [e,h]; exact hrk)
  ·omega
 obtain ⟨csr,hbr⟩:=hT.row.block er;obtain ⟨csp,hbp,-⟩:=hP.blk;have npg:pb ≠ gr:=(zKG hbr hbp dj).symm;obtain ⟨csk,hbk,-⟩:=(hT.rows k hk).blk;have nkg:rb k ≠ gr:=(zKG hbr hbk dj).symm;have hF:Fr (Ow {x with rb:=rb,rc:=rc} m g.isSome) W (W'.setCell ⟨gr,k,none⟩ (.slice (some b) (n+1) c)):=(hK.mono fun y e=>.inr (.inr (.inl ⟨k,hk,e⟩))).set (.inr (.inl (.inl er))) _;have cell:∀ p:Addr,p.block<W->¬ G' p.block->(W'.setCell ⟨gr,k,none⟩ (.slice (some b) (n+1) c)).cell? p=W.cell? p:=fun p hp hg=>hF.cell hp fun ho=>hg (hT.ow ho)
 refine ⟨om,⟨fun y=>G' y\/y=b,_,_,⟨fun y hy=>.inl (hMo.old y hy),fun y hy=>(hn y hy).elim (hMo.new y) fun e=>.inr (nlt hwW e)⟩,
  fun y hy=>?_,
  (hT.redo hk er hK (fun y hy=>.inl hy) hn (fun y hy=>hy.elim (fun hg=>ltl (hT.gin y hg) hK.size) fun e=>by rw [e]; exact hR.lt) hR c1 c2 (fun j hj hne e=>?_) fun f e e'=>?_).congr (fun _ _=>rfl) (fun _ _=>rfl) (fun i j hi hj=>?_) (fun _ _=>rfl),?_,fun j hj=>?_,hgb,fun h=>?_,fun h=>?_⟩,hfr.more hF hOw,(cell _ hx nx).trans hcol,(cell _ hg np).trans hpiv⟩
 ·rcases hy with h | h | ⟨i,hi,h⟩ | h
  ·exact hOw y (.inl h)
  ·exact hOw y (.inr (.inl h))
  ·dsimp only at h;by_cases e:i=k
   ·rw [e,Lin.zBL] at h;rcases hbn with h2 | h2
    ·exact hOw y (.inr (.inr (.inl ⟨k,hk,h.trans h2⟩)))
    ·right; omega
   ·rw [Lin.zBh _ e] at h;exact hOw y (.inr (.inr (.inl ⟨i,hi,h⟩)))
  ·exact hOw y (.inr (.inr (.inr h)))
 ·rcases hbn with h | h
  ·exact hne (hT.rinj j k hj hk (e.trans h))
  ·have:=(hT.rows j hj).lt;dsimp only at this e;omega
 ·obtain ⟨h1,-,-,h4⟩:=hT.aim f e;rcases hbn with h | h
  ·exact h4 k hk (h.symm.trans e'.symm)
  ·have:=h1.lt;dsimp only at this e';omega
 ·by_cases e:i=k
  ·rw [e,Lin.zBL]; unfold pvA; rw [if_pos ⟨om,hkr⟩]
  ·rw [Lin.zBh _ e]; unfold pvA
   by_cases h:i<k/\i ≠ r
   ·rw [if_pos h,if_pos ⟨om,h.2⟩]
   ·rw [if_neg h,if_neg fun h'=>h ⟨om,h'.2⟩]
 ·have h1:RowB W (fun y=>G' y\/y=b) L pb (rowL n (Lin.scaled s (a r))):=hP.grow (fun y hy=>.inl hy) fun y hy hg'=>(hn y hg').resolve_right om
  have h2:=h1.fr hK (.inl hrk) (fun e=>hrb k hk e.symm);exact h2.keep (bhs _ _ _ _ npg) fun p hp _=>cob (bhs _ _ _ _ fun e=>hp (.inl (by rw [e]; exact hgr)))
 ·show Lin.turn rb k b j ≠ pb;by_cases e:j=k
  ·rw [e,Lin.zBL];rcases hbn with h | h
   ·rw [h]; exact hrb k hk
   ·omega
  ·rw [Lin.zBh _ e]; exact hrb j hj
 ·exact h.elim nx fun e=>nb _ hx nx e
 ·exact h.elim np fun e=>nb _ hg np e
theorem BPv.goal {x:TV} {a:Nat->Nat->Rat} {s gp pc:Nat} {rb rc:Nat->Nat}
  (hMo:More w G G') (hOw:Less w H (Ow {x with rb:=rb,rc:=rc} m true)) (hT:TB W G' {x with rb:=rb,rc:=rc} V n m L base bn cn (pvA a r s m) lv (some f)) (hP:RowB W G' L pb (rowL n (Lin.scaled s (a r)))) (hrb:∀ j,j<m->rb j ≠ pb) (hgb:x.gb ≠ pb) (nx:¬ G' w) (np:¬ G' gp)
  (hfr:Fr H w W) (hcol:W.cell? w=some (.int .i64 (s:Int))) (hpiv:W.cell? gp=some (.slice (some pb) (n+1) pc))
  (hbn:b=x.gb\/W.heap.size<=b) (hR:RowB W' (fun y=>G' y\/y=b) L b (rowL n (Lin.elim s (Lin.scaled s (a r)) f))) (hK:Fr (fun y=>y=x.gb) W W') (c1:n+1<=c) (c2:c<=9223372036854775807) :
  BPv w G H {x with gb:=b,gc:=c} V n m L base bn cn a lv (pvG a r s (some f)) r s gp pb pc m (W'.setCell ⟨x.d,6,none⟩ (.slice (some b) (n+1) c)):=by
 have hx:=zAb hcol;have hg:=zAb hpiv;have hpl:=hP.lt;have hwW:=hfr.size;obtain ⟨a1,a2,a3,a4⟩:=hT.aim f rfl;have hgg:G' x.gb:=a1.mem;have hgl:=a1.lt;have hd:G' x.d:=hT.gd;dsimp only at hx hg hgl a4;have hn:∀ y,(G' y\/y=b)->G' y\/W.heap.size<=y:=fun y hy=>hy.elim .inl fun e=>hbn.elim (fun h=>.inl (by rw [e,h]; exact hgg)) fun h=>.inr om
 have nb:∀ y,y<W.heap.size->¬ G' y->y ≠ b:=fun y hy hg' e=>by
  rcases hbn with h | h
  ·exact hg' (by rw [e,h]; exact hgg)
  ·omega
 obtain ⟨csp,hbp,-⟩:=hP.blk;have npd:pb ≠ x.d:=(zKG hT.blk hbp dj).symm;have hF:Fr (Ow {x with rb:=rb,rc:=rc} m true) W (W'.setCell ⟨x.d,6,none⟩ (.slice (some b) (n+1) c)):=(hK.mono fun y e=>.inr (.inr (.inr ⟨rfl,e⟩))).set (.inl rfl) _;have cell:∀ p:Addr,p.block<W->¬ G' p.block->(W'.setCell ⟨x.d,6,none⟩ (.slice (some b) (n+1) c)).cell? p=W.cell? p:=fun p hp hg=>hF.cell hp fun ho=>hg (hT.ow ho)
 refine ⟨nlr _,⟨fun y=>G' y\/y=b,rb,rc,⟨fun y hy=>.inl (hMo.old y hy),fun y hy=>(hn y hy).elim (hMo.new y) fun e=>.inr (nlt hwW e)⟩,
  fun y hy=>?_,
  hT.regoal (hK.mono fun y e=>⟨si,e⟩) (fun y hy=>.inl hy) hn (fun y hy=>hy.elim (fun hg=>ltl (hT.gin y hg) hK.size) fun e=>by rw [e]; exact hR.lt) hR c1 c2 fun j hj e=>?_,?_,hrb,fun _ _ e=>?_,fun h=>?_,fun h=>?_⟩,hfr.more hF hOw,(cell _ hx nx).trans hcol,(cell _ hg np).trans hpiv⟩
 ·rcases hy with h | h | h | ⟨-,h⟩
  ·exact hOw y (.inl h)
  ·exact hOw y (.inr (.inl h))
  ·exact hOw y (.inr (.inr (.inl h)))
  ·dsimp only at h;rcases hbn with h2 | h2
   ·exact hOw y (.inr (.inr (.inr ⟨rfl,h.trans h2⟩)))
   ·right; omega
 ·rcases hbn with h | h
  ·exact a4 j hj (e.trans h)
  ·have:=(hT.rows j hj).lt;dsimp only at this e;omega
 ·have h1:RowB W (fun y=>G' y\/y=b) L pb (rowL n (Lin.scaled s (a r))):=hP.grow (fun y hy=>.inl hy) fun y hy hg'=>(hn y hg').resolve_right om
  have h2:=h1.fr hK (.inl hgg) (Ne.symm hgb);exact h2.keep (bhs _ _ _ _ npd) fun p hp _=>cob (bhs _ _ _ _ fun e=>hp (.inl (by rw [e]; exact hd)))
 ·dsimp only at e;rcases hbn with h | h
  ·exact hgb (h.symm.trans e)
  ·omega
 ·exact h.elim nx fun e=>nb _ hx nx e
 ·exact h.elim np fun e=>nb _ hg np e
theorem BPv.fin {x:TV} {a:Nat->Nat->Rat} {g:Option (Nat->Rat)} {s gp pc gr:Nat} (h:BPv w G H x V n m L base bn cn a lv g r s gp pb pc m W)
  (er:x.row.A=some ⟨gr,0,none⟩) (hr:r<m) (hpw:w.heap.size<=pb) (c1:n+1<=pc) (c2:pc<=9223372036854775807) :
  ∃ G' x',x'.d=x.d/\x'.bas=x.bas/\x'.cols=x.cols/\More w G G'/\Less w H (Ow x' m g.isSome)/\Fr H w (W.setCell ⟨gr,r,none⟩ (.slice (some pb) (n+1) pc))/\¬ G' w.heap.size/\(W.setCell ⟨gr,r,none⟩ (.slice (some pb) (n+1) pc)).cell? w=some (.int .i64 (s:Int))/\
   TB (W.setCell ⟨gr,r,none⟩ (.slice (some pb) (n+1) pc)) G' x' V n m L base bn cn (fun i=>if i=r then Lin.scaled s (a r) else Lin.elim s (Lin.scaled s (a r)) (a i)) lv g:=by
 obtain ⟨-,⟨G',rb,rc,hMo,hOw,hT,hP,hrb,hgb,nx,np⟩,hfr,hcol,hpiv⟩:=h;have hgr:G' gr:=hT.gr gr er;have hne:w.heap.size ≠ gr:=fun e=>nx (by rw [e]; exact hgr)
 refine ⟨G',{x with rb:=Lin.turn rb r pb,rc:=Lin.turn rc r pc},rfl,rfl,rfl,hMo,fun y hy=>?_,hfr.more ((Fr.refl _ _).set (.inr (.inl (.inl er))) _) hOw,nx,(World.cell?_setCell_far _ _ _ _ (Ne.symm hne)).trans hcol,
  (hT.redo hr er (Fr.refl _ _) (fun _ h=>h) (fun _ h=>.inl h) hT.gin hP c1 c2 (fun j hj _=>hrb j hj) hgb).congr (fun _ _=>rfl) (fun _ _=>rfl) (fun i j hi _=>?_) fun _ _=>rfl⟩
 ·rcases hy with h | h | ⟨i,hi,h⟩ | h
  ·exact hOw y (.inl h)
  ·exact hOw y (.inr (.inl h))
  ·dsimp only at h;by_cases e:i=r
   ·rw [e,Lin.zBL] at h;right; omega
   ·rw [Lin.zBh _ e] at h;exact hOw y (.inr (.inr (.inl ⟨i,hi,h⟩)))
  ·exact hOw y (.inr (.inr (.inr h)))
 ·by_cases e:i=r
  ·rw [e,Lin.zBL,if_pos rfl]
  ·rw [Lin.zBh _ e,if_neg e]; unfold pvA; rw [if_pos ⟨hi,e⟩]
end Go.Proofs.YtbpngececjihlaaGreat
