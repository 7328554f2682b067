/- Texts BoG BoK BoH of this claim. -/
import Derived.Test.YtpjaodcimomaiaaGreatOA0
import Derived.Test.YtpjaodcimomaiaaGreatO45
import Derived.Test.YtpjaodcimomaiaaGreatO22
import Derived.Test.YtpjaodcimomaiaaGreatO46
set_option maxHeartbeats 4000000
namespace Go.Proofs.YtpjaodcimomaiaaGreat
open Go.RowKit Go.Shelf Lin
theorem zNv {f:Nat->Rat} {n:Nat} (h:∀ k,n<=k->f k=0):∀ d,sum (n+d) f=sum n f
 | 0=>rfl
 | d+1=>by
  show sum (n+d) f+f (n+d)=_;rw [zNv h d,h _ (by omega)]; grind
theorem zNP {V:Nat} {r x:List Rat} (hr:r.length<=V) (hx:x.length<=V):dotL r x=sum V fun k=>r.getD k 0*x.getD k 0:=by
 unfold dotL
 have h:=zNv (f:=fun k=>r.getD k 0*x.getD k 0) (n:=min r.length x.length) (fun k hk=>by
  rcases Nat.le_total r.length x.length with h | h
  ·rw [Nat.min_eq_left h] at hk; show r.getD k 0*x.getD k 0=0; rw [zAw r _ _ hk]; grind
  ·rw [Nat.min_eq_right h] at hk; show r.getD k 0*x.getD k 0=0; rw [zAw x _ _ hk]; grind) (V-min r.length x.length)
 rw [<-h,show min r.length x.length+(V-min r.length x.length)=V by omega]
theorem vcmp_lexneg' {f g:Nat->Rat} {N:Nat} (h:LexPos N fun l=>g l-f l):vcmp f g N=-1:=by
 obtain ⟨i,hi,h1,h2⟩:=h;rw [zKr (x:=i) (fun j hj=>by have:=h2 j hj; grind) (by grind) hi];unfold qcmp; grind
section
variable {V:Nat} {os rs:List (List Rat)} {bs:List Rat} {zs:List Int}
theorem zNX {x y:List Rat} (hc:colsOf os<=V) (hx:x.length<=V) (hy:y.length<=V) (hm:max y.length x.length=V) :
  lpcmp os x y=vcmp (fun l=>(BPof V os rs bs zs).dot ((BPof V os rs bs zs).lev l) fun k=>x.getD k 0) (fun l=>(BPof V os rs bs zs).dot ((BPof V os rs bs zs).lev l) fun k=>y.getD k 0) (os.length+V):=by
 have e1:∀ z:List Rat,z.length<=V->∀ i,i<os.length->(BPof V os rs bs zs).dot ((BPof V os rs bs zs).lev i) (fun k=>z.getD k 0)=(os.map fun r=>dotL r z).getD i 0:=fun z hz i hi=>by
  rw [show (os.map fun r=>dotL r z).getD i 0=dotL (os.getD i []) z by simp [gdd,hi],zNP (zBT hc i) hz];refine zAh fun k hk=>?_
  show (if i<os.length then _ else _)*_=_;rw [if_pos hi]; rfl
 have e2:∀ z:List Rat,∀ i,i<V->(BPof V os rs bs zs).dot ((BPof V os rs bs zs).lev (os.length+i)) (fun k=>z.getD k 0)=- z.getD i 0:=fun z i hi=>BP.lev_x (B:=BPof V os rs bs zs) hi
 rw [zNV,zLg (n:=os.length) (e1 x hx) (e1 y hy),zLg (n:=V) (e2 x) (e2 y),zNW];unfold lpcmp;rw [hm]
theorem zN2 {x y:List Rat} (hc:colsOf os<=V) (hx:x.length<=V) (hy:y.length<=V) (hm:max y.length x.length=V) (h:(BPof V os rs bs zs).Le (fun k=>x.getD k 0) fun k=>y.getD k 0):¬ 0<lpcmp os x y:=by
 rw [zNX (rs:=rs) (bs:=bs) (zs:=zs) hc hx hy hm];rcases h with h | h
 ·rw [zKq fun i hi=>by have:=h i hi; simp only at this; grind]; decide
 ·have h':=vcmp_lexneg' h;rw [show os.length+V=(BPof V os rs bs zs).K+(BPof V os rs bs zs).V from rfl,h']; decide
theorem zN3 {x y:List Rat} {k:Nat} (hc:colsOf os<=V) (hx:x.length<=V) (hy:y.length<=V) (hm:max y.length x.length=V) (h:(BPof V os rs bs zs).Le (fun k=>x.getD k 0) fun k=>y.getD k 0) (hk:k<V) (hne:x.getD k 0 ≠ y.getD k 0):lpcmp os x y<0:=by
 rw [zNX (rs:=rs) (bs:=bs) (zs:=zs) hc hx hy hm];rcases h with h | h
 ·have h1:=h (os.length+k) (by show os.length+k<os.length+V; omega);have e:=fun z:List Rat=>BP.lev_x (B:=BPof V os rs bs zs) (x:=fun k=>z.getD k 0) hk
  have h2:(BPof V os rs bs zs).dot ((BPof V os rs bs zs).lev ((BPof V os rs bs zs).K+k)) (fun k=>y.getD k 0)-(BPof V os rs bs zs).dot ((BPof V os rs bs zs).lev ((BPof V os rs bs zs).K+k)) (fun k=>x.getD k 0)=0:=h1;rw [e x,e y] at h2;exact absurd (by grind) hne
 ·have h':=vcmp_lexneg' h;rw [show os.length+V=(BPof V os rs bs zs).K+(BPof V os rs bs zs).V from rfl,h']; decide
theorem zOk {row:List Rat} {most:Rat} (hb:bs.length=rs.length) (x:Nat->Rat):(BPof V os (rs++[row]) (bs++[most]) zs).S x ↔ (BPof V os rs bs zs).S x/\(sum V fun k=>row.getD k 0*x k)<=most:=by
 have g1:∀ i,i<rs.length->(rs++[row]).getD i []=rs.getD i []:=fun i hi=>by simp [gdd,List.getElem?_append_left hi]
 have g2:∀ i,i<rs.length->(bs++[most]).getD i 0=bs.getD i 0:=fun i hi=>by simp [gdd,List.getElem?_append_left (show i<bs.length by omega)]
 have g3:(rs++[row]).getD rs.length []=row:=by simp [gdd]
 have g4:(bs++[most]).getD rs.length 0=most:=by rw [<-hb]; simp [gdd]
 constructor
 ·rintro ⟨⟨hn,hr⟩,hz⟩;refine ⟨⟨⟨hn,fun i hi=>?_⟩,hz⟩,?_⟩
  ·have:=hr i (by show i<(rs++[row]).length; simp; exact Nat.lt_succ_of_lt hi);show sum V _<=bs.getD i 0;rw [<-g2 i hi];refine Rat.le_trans (req (zAh fun k _=>?_)) this;show (rs.getD i []).getD k 0*_=((rs++[row]).getD i []).getD k 0*_;rw [g1 i hi]
  ·have:=hr rs.length (by show rs.length<(rs++[row]).length; simp);rw [show (BPof V os (rs++[row]) (bs++[most]) zs).b rs.length=most from g4] at this;refine Rat.le_trans (req (zAh fun k _=>?_)) this;show row.getD k 0*_=((rs++[row]).getD rs.length []).getD k 0*_;rw [g3]
 ·rintro ⟨⟨⟨hn,hr⟩,hz⟩,hm⟩;refine ⟨⟨hn,fun i hi=>?_⟩,hz⟩;have hi':i<rs.length+1:=by have:i<(rs++[row]).length:=hi; simpa using this
  by_cases e:i<rs.length
  ·have:=hr i e;show _<=(bs++[most]).getD i 0;rw [g2 i e];refine Rat.le_trans (req (zAh fun k _=>?_)) this;show ((rs++[row]).getD i []).getD k 0*_=(rs.getD i []).getD k 0*_;rw [g1 i e]
  ·(obtain rfl:i=rs.length:=by omega);show _<=(bs++[most]).getD rs.length 0;rw [g4];refine Rat.le_trans (req (zAh fun k _=>?_)) hm;show ((rs++[row]).getD rs.length []).getD k 0*_=row.getD k 0*_;rw [g3]
theorem zNZ {row:List Rat} {most:Rat} (h:(BPof V os (rs++[row]) (bs++[most]) zs).Ray):(BPof V os rs bs zs).Ray:=by
 obtain ⟨d,h1,h2,h3,h4⟩:=h;refine ⟨d,h1,fun i hi=>?_,h3,h4⟩;have hi':i<rs.length:=hi;have:=h2 i (by show i<(rs++[row]).length; simp; omega);refine Rat.le_trans (req (zAh fun k _=>?_)) this;show (rs.getD i []).getD k 0*_=((rs++[row]).getD i []).getD k 0*_;rw [show (rs++[row]).getD i []=rs.getD i [] by simp [gdd,List.getElem?_append_left hi']]
end
open Go.RowKit Go.Shelf
abbrev Box5 (W:World) (b:Nat) (v0 v1 v2 v3 v4:Value):Prop:=
 W.cell? ⟨b,0,none⟩=some v0/\W.cell? ⟨b,1,none⟩=some v1/\W.cell? ⟨b,2,none⟩=some v2/\W.cell? ⟨b,3,none⟩=some v3/\W.cell? ⟨b,4,none⟩=some v4/\(∀ o,W.frozen? ⟨b,o,none⟩=false)
theorem Box5.below {w w':World} {b:Nat} {v0 v1 v2 v3 v4:Value} (h:Box5 w b v0 v1 v2 v3 v4) {B:Nat} (hb:Below B w w') (hlt:b<B):Box5 w' b v0 v1 v2 v3 v4:=
 ⟨by rw [hb.cell hlt]; exact h.1,by rw [hb.cell hlt]; exact h.2.1,by rw [hb.cell hlt]; exact h.2.2.1,by rw [hb.cell hlt]; exact h.2.2.2.1,by rw [hb.cell hlt]; exact h.2.2.2.2.1,fun o=>by rw [hb.frozen hlt]; exact h.2.2.2.2.2 o⟩
structure BinF (w:World) (b:BinV) (V:Nat) (os rs:List (List Rat)) (bs:List Rat) (zs:List Int):Prop where
 n:b.p.n=V
 V4:V<=4
 o1:1<=b.p.O.n
 o2:b.p.O.n<=4
 r:b.p.R.n<=5
 bn:b.p.B.n=b.p.R.n
 co:colsOf os<=V
 cr:colsOf rs<=V
 lp:LPIs w AllB AllB 8 b.p os rs bs
 z:IntsAt w b.bin zs
 z4:zs.length<=4
 zok:∀ i,i<zs.length->ZOk V zs i
theorem BinF.below {w w':World} {b:BinV} {V:Nat} {os rs:List (List Rat)} {bs:List Rat} {zs:List Int} (h:BinF w b V os rs bs zs) (hb:Below w.heap.size w w'):BinF w' b V os rs bs zs:=
 ⟨h.n,h.V4,h.o1,h.o2,h.r,h.bn,h.co,h.cr,h.lp.below hb,h.z.below hb,h.z4,h.zok⟩
theorem zN9 {V:Int} {zs:List Int} (h:∀ i,i<zs.length->ZOk V zs i) {i:Nat}:∀ j,i<j->j<zs.length->zs.getD i 0<zs.getD j 0
 | 0,h1,_=>absurd h1 (Nat.not_lt_zero i)
 | j+1,h1,h2=>by
  have h3:=(h (j+1) h2).2.2 (by omega);rw [Nat.add_sub_cancel] at h3;by_cases e:i=j
  ·subst e; exact h3
  ·exact Int.lt_trans (zN9 h j (by omega) (by omega)) h3
theorem zOi {V:Nat} {os rs:List (List Rat)} {bs:List Rat} {zs:List Int} (h:∀ i,i<zs.length->ZOk V zs i):(BPof V os rs bs zs).Ok:=
 ⟨fun i hi=>by
  have hi':i<zs.length:=hi;obtain ⟨h1,h2,-⟩:=h i hi';show (zs.getD i 0).toNat<V;omega,fun i j hij hj=>by
  have hj':j<zs.length:=hj;obtain ⟨h1,-,-⟩:=h i (by omega);have h2:=zN9 h j hij hj';show (zs.getD i 0).toNat<(zs.getD j 0).toNat;omega⟩
theorem BinF.sok {w:World} {b:BinV} {V:Nat} {os rs:List (List Rat)} {bs:List Rat} {zs:List Int} (h:BinF w b V os rs bs zs):SoK (BPof V os rs bs zs) 905000:=by
 have hV:=h.V4
 have hq:bqk V 288<=904500:=by
  have h5:5 ^ V<=625:=nlt (Nat.pow_le_pow_right (by decide) hV) (by decide);have h6:V*(288+1)<=4*289:=Nat.mul_le_mul_right _ hV;have:=Nat.mul_le_mul h5 (show 288+V*(288+1)+1<=1445 by omega);unfold bqk; omega
 have hr:=h.lp.rows.len;have hr5:=h.r;have hz:=h.z4;have hmn:(rs.length+zs.length)*(2*bqk V 288+1)<=9*1809001:=Nat.mul_le_mul (by omega) (by omega);refine SoK.of (k:=288) (by decide) (fun i v _=>zAR (h.lp.rows.fit i v)) (fun i _=>zAR (h.lp.bounds.fit i)) (fun l v _=>zAR (h.lp.obj.fit l v)) ?_ (by decide) (by rw [zAZ]; decide) (by rw [zAZ]; decide) ?_ ?_
 ·show bqk V 288+1<=_; omega
 ·show (rs.length+zs.length)*(2*bqk V 288+1)+bqk V 288+2<=_;rw [zAZ]; omega
 ·show 2*bqk V 288+1<=_;rw [zAZ]; omega
theorem BinF.solve {w:World} {b:BinV} {V:Nat} {os rs:List (List Rat)} {bs:List Rat} {zs:List Int} (h:BinF w b V os rs bs zs):Calls Tryz.prog 16 #[b.val] w (BSoRet w 905000 (BPof V os rs bs zs)):=
 zLk h.lp h.n (by have:=h.V4; omega) h.o1 h.o2 (by have:=h.r; omega) h.bn h.co h.cr h.z (by have:=h.z4; omega) (fun i hi=>(h.zok i hi).1) (zOi h.zok) h.sok
theorem zOj {V:Nat} {os rs:List (List Rat)} {bs x:List Rat} {zs:List Int} (hc:colsOf rs<=V) (hx:x.length<=V):((∀ k,k<x.length->0<=x.getD k 0)/\∀ i,i<rs.length->dotL (rs.getD i []) x<=bs.getD i 0) ↔ (BPof V os rs bs zs).LF fun k=>x.getD k 0:=by
 constructor
 ·rintro ⟨h1,h2⟩;refine ⟨fun k hk=>?_,fun i hi=>?_⟩
  ·by_cases e:k<x.length
   ·exact h1 k e
   ·show 0<=x.getD k 0;rw [zAw _ _ _ (by omega)]; exact Rat.le_refl
  ·have:=h2 i hi;rw [zNP (zBT hc i) hx] at this;exact this
 ·rintro ⟨h1,h2⟩;refine ⟨fun k hk=>h1 k (by show k<V; omega),fun i hi=>?_⟩;rw [zNP (zBT hc i) hx];exact h2 i hi
theorem BinF.feas {w:World} {X Y:Nat->Prop} {M:Nat} {b:BinV} {V:Nat} {os rs:List (List Rat)} {bs x:List Rat} {zs:List Int} {s:SV} (c:Bool) (h:BinF w b V os rs bs zs) (hx:VecIs w X Y M s x) (hM:M<=905000) (hs:s.n<=9223372036854775807) (hc:(x.length<=V/\(BPof V os rs bs zs).S fun k=>x.getD k 0) ↔ c=true) :
  Calls Tryz.prog 27 #[b.val,s.val] w fun e w'=>e = .returned (.bool c)/\Below w.heap.size w w':=by
 have hV:=h.V4
 have hvd:∀ w',Below w.heap.size w w'->Calls Tryz.prog 18 #[b.val] w' fun e w2=>e = .returned (.bool true)/\Below w'.heap.size w' w2:=fun w' hb=>
  zKZ (X:=AllB) (Y:=AllB) (os:=os) (rs:=rs) (bs:=bs) (B:=BPof V os rs bs zs) (fun w2 hb2=>zBv ((h.lp.below hb).below hb2) h.n (by omega) h.o1 h.o2 (by have:=h.r; omega) h.bn h.co h.cr) h.n rfl (by omega) (by have:=h.z4; show zs.length<=12; omega) (zOi h.zok) ((h.z.below hb).bin fun i hi=>(h.zok i hi).1)
 have hML:M<=LM:=by rw [zAZ]; omega
 have hbi:∀ i,i<(BPof V os rs bs zs).nb->(BPof V os rs bs zs).bin i<=1000000:=fun i hi=>by
  have h1:=(zOi (os:=os) (rs:=rs) (bs:=bs) h.zok).lt i hi;have h2:(BPof V os rs bs zs).bin i<V:=h1;omega
 have hn12:(BPof V os rs bs zs).nb<=12:=by have:=h.z4; show zs.length<=12; omega
 have hzb:=h.z.bin (V:=V) (os:=os) (rs:=rs) (bs:=bs) fun i hi=>(h.zok i hi).1
 by_cases hl:x.length<=V
 ·have key:∀ f:Bool,(((BPof V os rs bs zs).LF fun k=>x.getD k 0) ↔ f=true)->Calls Tryz.prog 27 #[b.val,s.val] w fun e w'=>e = .returned (.bool c)/\Below w.heap.size w w':=fun f hf=>
   zLJ (B:=BPof V os rs bs zs) f c hvd (fun w' hb=>zEE (V:=V) (kb:=29000000) f (h.lp.below hb) h.n (by omega) h.o1 h.o2 (by have:=h.r; omega) h.bn h.co h.cr (hx.below hb) hl (by rw [zAZ]; omega) hML (by rw [zAZ]; omega) (fun i k=>((zAR (h.lp.rows.fit i k)).mul (zAR (hx.fit k))).mono (by omega)) ((zOj h.cr hl).trans hf)) hx hML hzb hbi hn12
    ⟨fun ⟨h1,h2⟩=>hc.1 ⟨hl,hf.2 h1,h2⟩,fun e=>⟨hf.1 (hc.2 e).2.1,(hc.2 e).2.2⟩⟩
  by_cases hf:(BPof V os rs bs zs).LF fun k=>x.getD k 0
  ·exact key true ⟨fun _=>rfl,fun _=>hf⟩
  ·exact key false ⟨fun h=>absurd h hf,fun h=>by cases h⟩
 ·refine zLJ (B:=BPof V os rs bs zs) false c hvd (fun w' hb=>zNA (V:=V) (h.lp.below hb) h.n (by omega) h.o1 h.o2 (by have:=h.r; omega) h.bn h.co h.cr (by have:=hx.len; omega) hs) hx hML hzb hbi hn12 ⟨fun h=>absurd h.1 (by decide),fun e=>absurd (hc.2 e).1 hl⟩
theorem BSoRet.code {w w':World} {L:Nat} {B:Lin.BP} {e:Ending} (h:BSoRet w L B e w'):Below w.heap.size w w':=by
 obtain ⟨_,_,_,_,hb,_⟩:=h; exact hb
theorem zOe {w:World} {b:Nat} {s t:SV} {l m:List Rat} (h:w.heap[b]?=some (.cells #[s.val,t.val] 24 (0,0))) (hs:VecAt w AllB (QAny w AllB) s l) (ht:VecAt w AllB (QAny w AllB) t m):MatAt w AllB (QAny w AllB) ⟨some ⟨b,0,none⟩,2,2⟩ [l,m]:=
 ⟨rfl,nlr _,by show 2<=_; omega,fun k hk=>by
  have:k<2:=hk;rcases (show k=0\/k=1 by omega) with rfl | rfl
  ·exact ⟨⟨b,0,none⟩,s,rfl,trivial,by simp [Addr.add,World.cell?,h],hs⟩
  ·exact ⟨⟨b,0,none⟩,t,rfl,trivial,by simp [Addr.add,World.cell?,h],ht⟩⟩
theorem zN8 {w W:World} {b k:Nat} {s:SV} {l:List Rat} {m:List (List Rat)} {n:Nat} (hh:VecAt w AllB (QAny w AllB) s l) (hb:Below w.heap.size w W) (h:W.cell? (Addr.add ⟨b,0,none⟩ k)=some s.val) (hk:k<n) (hm:m.getD k []=l) (hv:MatIs W AllB AllB 6 ⟨some ⟨b,0,none⟩,n,n⟩ m):VecIs w AllB AllB 6 s l:=by
 obtain ⟨ad,r,e,-,hc,hr⟩:=hv.row k hk;cases e;rw [h] at hc;obtain ⟨A,n,c⟩:=s;obtain ⟨A',n',c'⟩:=r;simp only [SV.val,Option.some.injEq,Value.slice.injEq] at hc;obtain ⟨rfl,rfl,rfl⟩:=hc;rw [hm] at hr;exact hh.back hb hr
theorem LPRaw.raw {w w':World} {X Y:Nat->Prop} {p:LPV} {os rs:List (List Rat)} {bs:List Rat} (h:LPRaw w X (QAny w Y) p os rs bs) (hb:Below w.heap.size w w'):LPRaw w' X (fun _ _=>True) p os rs bs:=
 ⟨(h.obj.belowA hb).imp (fun _ _ h=>h) fun _ _ _=>trivial,(h.rows.belowA hb).imp (fun _ _ h=>h) fun _ _ _=>trivial,(h.bounds.belowA hb).imp (fun _ _ h=>h) fun _ _ _=>trivial⟩
theorem zNO {w:World} {b:Nat} {x y:Value} {T:TypeId} {f:Nat × Nat} (h:w.heap[b]?=some (.cells #[x,y] T f)):w.cell? (Addr.add ⟨b,0,none⟩ 0)=some x/\w.cell? (Addr.add ⟨b,0,none⟩ 1)=some y:=by
 constructor <;> simp [Addr.add,World.cell?,h]
theorem zNY {V:Nat} {os rs:List (List Rat)} {bs row:List Rat} {zs:List Int} {most:Rat} {x:Nat->Rat} (hc:colsOf os<=V) (hl:bs.length=rs.length) (hx:(BPof V os rs bs zs).S x) (hr:¬ (BPof V os rs bs zs).Ray) (hb:∀ y,(BPof V os rs bs zs).S y->(BPof V os rs bs zs).Le y x)
  {w w':World} {L:Nat} {e:Ending} (h:BSoRet w L (BPof V os (rs++[row]) (bs++[most]) zs) e w') :
  ((Lin.sum V fun k=>row.getD k 0*x k)<=most/\∃ (v:SV) (s:Nat),e = .returned (.tuple #[v.val,.int .i64 (s:Int),.int .i64 0])/\VecIs w' (fun _=>True) (fun _=>True) L v ((List.range V).map x))\/
  (most<(Lin.sum V fun k=>row.getD k 0*x k)/\((∃ (v:SV) (s:Nat),e = .returned (.tuple #[v.val,.int .i64 (s:Int),.int .i64 8]))\/∃ (v:SV) (s:Nat) (y:Nat->Rat),e = .returned (.tuple #[v.val,.int .i64 (s:Int),.int .i64 0])/\VecIs w' (fun _=>True) (fun _=>True) L v ((List.range V).map y)/\lpcmp os ((List.range V).map y) ((List.range V).map x)<0)):=by
 have eS:=zOk (V:=V) (os:=os) (rs:=rs) (bs:=bs) (zs:=zs) (row:=row) (most:=most) hl;have hcg:∀ y:Nat->Rat,∀ k,k<V->((List.range V).map y).getD k 0=y k:=fun y k hk=>zAS _ _ hk
 obtain ⟨v,s,c,rfl,hbl,h⟩:=h;by_cases hle:(Lin.sum V fun k=>row.getD k 0*x k)<=most
 ·refine .inl ⟨hle,?_⟩;have hxS:=(eS x).2 ⟨hx,hle⟩;rcases h with ⟨rfl,-,-,y,hy,-,hby,hv,-⟩ | ⟨-,-,-,hno⟩ | ⟨-,-,-,hray,-⟩
  ·refine ⟨v,s,rfl,?_⟩;have h1:(BPof V os rs bs zs).Le x y:=hby x hxS;have h2:=hb y ((eS y).1 hy).1;have e:(List.range V).map y=(List.range V).map x:=List.map_congr_left fun k hk=>(h2.antisymm h1 (List.mem_range.1 hk))
   rw [<-e]; exact hv
  ·exact absurd hxS (hno x)
  ·exact absurd (zNZ hray) hr
 ·refine .inr ⟨Rat.not_le.1 hle,?_⟩;rcases h with ⟨rfl,-,-,y,hy,-,hby,hv,-⟩ | ⟨rfl,-,-,hno⟩ | ⟨-,-,-,hray,-⟩
  ·refine .inr ⟨v,s,y,rfl,hv,?_⟩;have hyS:=(eS y).1 hy;have h2:=hb y hyS.1
   obtain ⟨k,hk,hne⟩:∃ k,k<V/\y k ≠ x k:=by
    (refine Classical.byContradiction fun hn=>hle ?_);have e:∀ k,k<V->y k=x k:=(fun k hk=>Classical.byContradiction fun h=>hn ⟨k,hk,h⟩);rw [Lin.zAh (g:=fun k=>row.getD k 0*y k) fun k hk=>by rw [e k hk]];exact hyS.2
   refine zN3 (rs:=rs) (bs:=bs) (zs:=zs) (k:=k) hc (by simp) (by simp) (by simp) (h2.congr (fun k hk=>(hcg y k hk).symm) fun k hk=>(hcg x k hk).symm) hk ?_;rw [hcg y k hk,hcg x k hk]; exact hne
  ·exact .inl ⟨v,s,rfl⟩
  ·exact absurd (zNZ hray) hr
theorem zNB {p q:Rat} (h:p<=q):∃ o:Int,qcmp p q=o/\o<=0:=⟨_,rfl,zJ4 h⟩
set_option maxRecDepth 40000 in
theorem zNz {w:World} {b:BinV} {os rs:List (List Rat)} {bs:List Rat} {zs:List Int} {z r:SV} {zl row:List Rat} {mv:QV} {most:Rat} (h:LPRaw w AllB (QAny w AllB) b.p os rs bs) (hzs:IntsAt w b.bin zs) (hz:VecAt w AllB (QAny w AllB) z zl) (hr:VecAt w AllB (QAny w AllB) r row) (hm:QAny w AllB mv most) :
  Calls Tryz.prog 6 #[b.val,z.val,r.val,mv.val] w fun e w'=>e = .returned (.bool true)/\Below w.heap.size w w':=by
 obtain ⟨⟨n,⟨oA,on,oc⟩,⟨rA,rn,rc⟩,⟨bA,bn,bc⟩⟩,⟨iA,iN,ic⟩⟩:=b;obtain ⟨zA,zn,zc⟩:=z;obtain ⟨qA,qn,qc⟩:=r;have hi1:iN<=ic:=hzs.le;have hi2:ic<=9223372036854775807:=hzs.cap;have hzl:zs.length=iN:=hzs.len;have hr1:rn<=rc:=h.rows.le;have hr2:rc<=9223372036854775807:=h.rows.cap;have hz1:zn<=zc:=hz.le;have hz2:zc<=9223372036854775807:=hz.cap;have HZl:=hdq hzl;replace h:=hdq h;replace hzs:=hdq hzs;replace hz:=hdq hz;replace hr:=hdq hr;replace hm:=hdq hm;clear hzl;dsimp only [BinV.val,LPV.val,SV.val] at *;go_enter Tryz.func6,Tryz.ntmps6
 go_upto_region 1 with fail
 refine zAo (fun W=>Below w.heap.size w W/\Box5 W w.heap.size (.int .i64 n) (.slice oA on oc) (.slice rA rn rc) (.slice bA bn bc) (.slice iA iN ic)/\Box4 W (w.heap.size+1) (.bool mv.num.ng) (.slice mv.num.A mv.num.n mv.num.c) (.bool mv.den.ng) (.slice mv.den.A mv.den.n mv.den.c)/\w.heap.size<W.heap.size/\w.heap.size+1<W.heap.size) ⟨(((brf _ _).alloc (by simp <;> omega) _).alloc (by simp <;> omega) _),⟨by go_simp,by go_simp,by go_simp,by go_simp,by go_simp,by intro o; go_simp⟩,⟨by go_simp,by go_simp,by go_simp,by go_simp,by intro o; go_simp⟩,by simp <;> omega,by simp <;> omega⟩ ?_;rintro W ⟨hbW,bP,bM,s0,s1⟩;have hBW:=hbW.size;obtain ⟨p0,p1,p2,p3,p4,-⟩:=id bP;obtain ⟨m0,m1,m2,m3,-⟩:=id bM;clear hBW;go_wp2_with fail
 refine (zNL (b:=⟨⟨n,⟨oA,on,oc⟩,⟨rA,rn,rc⟩,⟨bA,bn,bc⟩⟩,⟨iA,iN,ic⟩⟩) (h.out.below hbW) (by show iN<=_; omega)).mono ?_;rintro e w1 ⟨⟨c,rfl,hbb⟩,hb1⟩
 cases c with
 | true=>
  clear hbb;replace bP:=bP.below hb1 s0;replace bM:=bM.below hb1 s1;replace s0:=ltl s0 hb1.size;replace s1:=ltl s1 hb1.size;replace hbW:=hbW.trans (hb1.mono hbW.size);clear p0 p1 p2 p3 p4 m0 m1 m2 m3;obtain ⟨p0,p1,p2,p3,p4,-⟩:=id bP;obtain ⟨m0,m1,m2,m3,-⟩:=id bM;go_wp2_with fail
  refine zLi.mono ?_;rintro e wl ⟨rfl,hbl⟩;have hbf:=hbW.trans (hbl.mono hbW.size);go_wp2;go_ret
  exact ⟨rfl,hbf⟩
 | false=>
  have HS:=hdq (And.intro (Short6.back h.out hbW (hbb rfl).1) (hbb rfl).2);clear hbb;replace bP:=bP.below hb1 s0;replace bM:=bM.below hb1 s1;replace s0:=ltl s0 hb1.size;replace s1:=ltl s1 hb1.size;replace hbW:=hbW.trans (hb1.mono hbW.size);clear p0 p1 p2 p3 p4 m0 m1 m2 m3;obtain ⟨p0,p1,p2,p3,p4,-⟩:=id bP;obtain ⟨m0,m1,m2,m3,-⟩:=id bM;go_wp2_with fail
  refine (zNN (b:=⟨⟨n,⟨oA,on,oc⟩,⟨rA,rn,rc⟩,⟨bA,bn,bc⟩⟩,⟨iA,iN,ic⟩⟩) (fun w' hb=>(h.out.below hbW).raw hb) (hzs.out.below hbW)).mono ?_;rintro e w2 ⟨⟨c,rfl,hmm⟩,hb2⟩;replace bP:=bP.below hb2 s0;replace bM:=bM.below hb2 s1;replace s0:=ltl s0 hb2.size;replace s1:=ltl s1 hb2.size;replace hbW:=hbW.trans (hb2.mono hbW.size);clear p0 p1 p2 p3 p4 m0 m1 m2 m3;obtain ⟨p0,p1,p2,p3,p4,-⟩:=id bP;obtain ⟨m0,m1,m2,m3,-⟩:=id bM
  cases c with
  | false=>
   clear hmm;(go_wp2_with fail);refine zLi.mono ?_;rintro e wl ⟨rfl,hbl⟩;have hbf:=hbW.trans (hbl.mono hbW.size);go_wp2;go_ret
   exact ⟨rfl,hbf⟩
  | true=>
   have HMy:=hdq (hmm rfl);clear hmm hb1 hb2;by_cases h3:3<iN
   ·have h3':(3:Int)<(iN:Int):=(by omega);(go_wp2_with fail);refine zLi.mono ?_;rintro e wl ⟨rfl,hbl⟩;have hbf:=hbW.trans (hbl.mono hbW.size);go_wp2;go_ret;exact ⟨rfl,hbf⟩
   ·have h3':¬ (3:Int)<(iN:Int):=(by omega);by_cases h4:3<rn
    ·have h4':(3:Int)<(rn:Int):=(by omega);(go_wp2_with fail);refine zLi.mono ?_;rintro e wl ⟨rfl,hbl⟩;have hbf:=hbW.trans (hbl.mono hbW.size);go_wp2;go_ret;exact ⟨rfl,hbf⟩
    ·have h4':¬ (3:Int)<(rn:Int):=(by omega);(go_wp2_with fail);have al3:(w2.alloc (.cells #[.slice zA zn zc,.slice qA qn qc] 24)).heap[w2.heap.size]?=some (.cells #[.slice zA zn zc,.slice qA qn qc] 24 (0,0)):=zAd _ _ rfl;have hb3:Below w2.heap.size w2 (w2.alloc (.cells #[.slice zA zn zc,.slice qA qn qc] 24)):=(brf _ _).alloc (nlr _) _;replace bP:=bP.below hb3 s0;replace bM:=bM.below hb3 s1;replace s0:=ltl s0 hb3.size;replace s1:=ltl s1 hb3.size;replace hbW:=hbW.trans (hb3.mono hbW.size);clear p0 p1 p2 p3 p4 m0 m1 m2 m3;obtain ⟨p0,p1,p2,p3,p4,-⟩:=id bP;obtain ⟨m0,m1,m2,m3,-⟩:=id bM;refine (zCl (zOe (s:=⟨zA,zn,zc⟩) (t:=⟨qA,qn,qc⟩) al3 (zKB hz.out hbW) (zKB hr.out hbW))).mono ?_;rintro e w4 ⟨⟨c,rfl,hbb⟩,hb4⟩
     cases c with
     | true=>
      clear hbb;replace bP:=bP.below hb4 s0;replace bM:=bM.below hb4 s1;replace s0:=ltl s0 hb4.size;replace s1:=ltl s1 hb4.size;replace hbW:=hbW.trans (hb4.mono hbW.size);clear p0 p1 p2 p3 p4 m0 m1 m2 m3;obtain ⟨p0,p1,p2,p3,p4,-⟩:=id bP;obtain ⟨m0,m1,m2,m3,-⟩:=id bM;(go_wp2_with fail);refine zLi.mono ?_;rintro e wl ⟨rfl,hbl⟩;have hbf:=hbW.trans (hbl.mono hbW.size);go_wp2;go_ret
      exact ⟨rfl,hbf⟩
     | false=>
      have HZv:=hdq (zN8 (s:=⟨zA,zn,zc⟩) (k:=0) (b:=w2.heap.size) hz.out hbW (zNO al3).1 (by decide) rfl (hbb rfl).1);have HRow:=hdq (zN8 (s:=⟨qA,qn,qc⟩) (k:=1) (b:=w2.heap.size) hr.out hbW (zNO al3).2 (by decide) rfl (hbb rfl).1);clear hbb al3;replace bP:=bP.below hb4 s0;replace bM:=bM.below hb4 s1;replace s0:=ltl s0 hb4.size;replace s1:=ltl s1 hb4.size;replace hbW:=hbW.trans (hb4.mono hbW.size);clear p0 p1 p2 p3 p4 m0 m1 m2 m3;obtain ⟨p0,p1,p2,p3,p4,-⟩:=id bP;obtain ⟨m0,m1,m2,m3,-⟩:=id bM;(go_wp2_with fail);have al5:(w4.alloc (.cells #[.bool mv.num.ng,.slice mv.num.A mv.num.n mv.num.c,.bool mv.den.ng,.slice mv.den.A mv.den.n mv.den.c] 37)).heap[w4.heap.size]?=some (.cells #[.bool mv.num.ng,.slice mv.num.A mv.num.n mv.num.c,.bool mv.den.ng,.slice mv.den.A mv.den.n mv.den.c] 37 (0,0)):=zAd _ _ rfl;have hb5:Below w4.heap.size w4 (w4.alloc (.cells #[.bool mv.num.ng,.slice mv.num.A mv.num.n mv.num.c,.bool mv.den.ng,.slice mv.den.A mv.den.n mv.den.c] 37)):=(brf _ _).alloc (nlr _) _;replace bP:=bP.below hb5 s0;replace bM:=bM.below hb5 s1;replace s0:=ltl s0 hb5.size;replace s1:=ltl s1 hb5.size;replace hbW:=hbW.trans (hb5.mono hbW.size);clear p0 p1 p2 p3 p4 m0 m1 m2 m3;obtain ⟨p0,p1,p2,p3,p4,-⟩:=id bP;obtain ⟨m0,m1,m2,m3,-⟩:=id bM;refine (zDG (zJ6 al5 (hm.out.below hbW))).mono ?_;rintro e w6 ⟨⟨c,rfl,hbb⟩,hb6⟩
      cases c with
      | true=>
       clear hbb;replace bP:=bP.below hb6 s0;replace bM:=bM.below hb6 s1;replace s0:=ltl s0 hb6.size;replace s1:=ltl s1 hb6.size;replace hbW:=hbW.trans (hb6.mono hbW.size);clear p0 p1 p2 p3 p4 m0 m1 m2 m3;obtain ⟨p0,p1,p2,p3,p4,-⟩:=id bP;obtain ⟨m0,m1,m2,m3,-⟩:=id bM;(go_wp2_with fail);refine zLi.mono ?_;rintro e wl ⟨rfl,hbl⟩;have hbf:=hbW.trans (hbl.mono hbW.size);go_wp2;go_ret
       exact ⟨rfl,hbf⟩
      | false=>
       have HMost:=hdq (zJ3 hm.out al5 (hbb rfl));clear hbb al5;replace bP:=bP.below hb6 s0;replace bM:=bM.below hb6 s1;replace s0:=ltl s0 hb6.size;replace s1:=ltl s1 hb6.size;replace hbW:=hbW.trans (hb6.mono hbW.size);clear p0 p1 p2 p3 p4 m0 m1 m2 m3;obtain ⟨p0,p1,p2,p3,p4,-⟩:=id bP;obtain ⟨m0,m1,m2,m3,-⟩:=id bM;clear hb3 hb4 hb5 hb6;have HF:=hdq (zHY HS.out.1 HS.out.2 HMy.out.1);obtain ⟨V,rfl⟩:∃ V:Nat,n=V:=⟨n.toNat,by have:=HF.out.1; show n=(n.toNat:Int); simp only at this; omega⟩;have HFb:Hid (BinF w ⟨⟨V,⟨oA,on,oc⟩,⟨rA,rn,rc⟩,⟨bA,bn,bc⟩⟩,⟨iA,iN,ic⟩⟩ V os rs bs zs):=hdq ⟨rfl,by have:=HF.out.2.1; show V<=4; simp only at this; omega,HF.out.2.2.1,HF.out.2.2.2.1,by show rn<=5; omega,HF.out.2.2.2.2.2.1,by have:=HF.out.2.2.2.2.2.2.1; show colsOf os<=V; simp only at this; omega,by have:=HF.out.2.2.2.2.2.2.2.1; show colsOf rs<=V; simp only at this; omega,HF.out.2.2.2.2.2.2.2.2.more (by decide),hzs.out,by rw [HZl.out]; omega,HMy.out.2.2⟩;have hV4:V<=4:=HFb.out.V4;have HOn:Hid (1<=on/\on<=4/\bn=rn):=hdq ⟨HFb.out.o1,HFb.out.o2,HFb.out.bn⟩;have HP6:=hdq HF.out.2.2.2.2.2.2.2.2;clear HF HS HMy h hm hr;(go_wp2_with fail);refine (BinF.solve (b:=⟨⟨V,⟨oA,on,oc⟩,⟨rA,rn,rc⟩,⟨bA,bn,bc⟩⟩,⟨iA,iN,ic⟩⟩) (HFb.out.below hbW)).mono ?_;rintro e x1 ⟨⟨vA,vn,vc⟩,s,c,rfl,hx1,hcase⟩;replace bP:=bP.below hx1 s0;replace bM:=bM.below hx1 s1;replace s0:=ltl s0 hx1.size;replace s1:=ltl s1 hx1.size;replace hbW:=hbW.trans (hx1.mono hbW.size);clear p0 p1 p2 p3 p4 m0 m1 m2 m3;obtain ⟨p0,p1,p2,p3,p4,-⟩:=id bP;obtain ⟨m0,m1,m2,m3,-⟩:=id bM;dsimp only [SV.val];rcases hcase with ⟨rfl,-,-,x,hxS,hray,hbest,hxv,-⟩ | ⟨rfl,rfl,hnil,hno⟩ | ⟨rfl,rfl,hnil,-,-⟩
       ·have HXS:=hdq hxS;have HRy:=hdq hray;have HBs:=hdq hbest;obtain ⟨xl,hxl⟩:∃ xl,xl=(List.range V).map x:=⟨_,rfl⟩;have hxv':VecIs x1 (fun _=>True) (fun _=>True) 905000 ⟨vA,vn,vc⟩ xl:=by rw [hxl]; exact hxv
        have HXV:=hdq hxv';have hxll:xl.length=V:=by rw [hxl]; simp
        have HXL:=hdq hxll;have Hxe:=hdq hxl;clear hxS hray hbest hxv hxv' hxl hxll hx1;by_cases hzf:zl.length<=V/\(BPof V os rs bs zs).S fun k=>zl.getD k 0
        ·have HZF:=hdq hzf;obtain ⟨o,ho⟩:∃ o,lpcmp os zl xl=o:=⟨_,rfl⟩
         have hno:¬ (0:Int)<o:=by
          rw [<-ho];have hle:=HBs.out _ HZF.out.2;refine zN2 (rs:=rs) (bs:=bs) (zs:=zs) HFb.out.co HZF.out.1 (by rw [HXL.out]; exact nlr _) (by rw [HXL.out]; exact Nat.max_eq_left HZF.out.1) (hle.congr (fun _ _=>rfl) fun k hk=>?_);rw [Hxe.out]; exact (zAS _ _ hk).symm
         have HOo:=hdq ho;clear ho hzf;(go_wp2_with fail);refine (BinF.feas (b:=⟨⟨V,⟨oA,on,oc⟩,⟨rA,rn,rc⟩,⟨bA,bn,bc⟩⟩,⟨iA,iN,ic⟩⟩) (s:=⟨zA,zn,zc⟩) true (HFb.out.below hbW) (HZv.out.below hbW) (by decide) (by show zn<=_; omega) ⟨fun _=>rfl,fun _=>HZF.out⟩).mono ?_;rintro e x2 ⟨rfl,hx2⟩;replace bP:=bP.below hx2 s0;replace bM:=bM.below hx2 s1;replace s0:=ltl s0 hx2.size;replace s1:=ltl s1 hx2.size;replace hbW:=hbW.trans (hx2.mono hbW.size);clear p0 p1 p2 p3 p4 m0 m1 m2 m3;obtain ⟨p0,p1,p2,p3,p4,-⟩:=id bP;obtain ⟨m0,m1,m2,m3,-⟩:=id bM;replace HXV:=hdq (HXV.out.below hx2);clear hx2;(go_wp2_with fail);refine (zNq (kb:=29000000) (p:=⟨V,⟨oA,on,oc⟩,⟨rA,rn,rc⟩,⟨bA,bn,bc⟩⟩) (sx:=⟨zA,zn,zc⟩) (sy:=⟨vA,vn,vc⟩) (HFb.out.lp.below hbW) (HZv.out.below hbW) HXV.out (by have:=HOn.out.2.1; show on<=_; omega) (fun i=>nlt (zBT HFb.out.co i) (by omega)) (by have h1:=HZv.out.len; have h2:=HZF.out.1; dsimp only at h1; show zn<=_; omega) (by have h1:=HXV.out.len; have h2:=HXL.out; dsimp only at h1; show vn<=_; omega) (by rw [zAZ]; omega) (by rw [zAZ]; omega) (by rw [zAZ]; omega) (by rw [zAZ]; omega) (fun i k=>((zAR (HFb.out.lp.obj.fit i k)).mul (zAR (HZv.out.fit k))).mono (by omega)) (fun i k=>((zAR (HFb.out.lp.obj.fit i k)).mul (zAR (HXV.out.fit k))).mono (by omega))).mono ?_;rw [HOo.out];rintro e x3 ⟨rfl,hx3⟩;replace bP:=bP.below hx3 s0;replace bM:=bM.below hx3 s1;replace s0:=ltl s0 hx3.size;replace s1:=ltl s1 hx3.size;replace hbW:=hbW.trans (hx3.mono hbW.size);clear p0 p1 p2 p3 p4 m0 m1 m2 m3;obtain ⟨p0,p1,p2,p3,p4,-⟩:=id bP;obtain ⟨m0,m1,m2,m3,-⟩:=id bM;replace HXV:=hdq (HXV.out.below hx3);clear hx3 HOo HZF;(go_wp2_with fail);refine (zF0 (s:=⟨qA,qn,qc⟩) (HRow.out.below hbW) V (by omega) (by rw [zAZ]; omega)).mono ?_;rintro e y1 ⟨⟨⟨yA,yn,yc⟩,rfl,hy⟩,hy1⟩;replace bP:=bP.below hy1 s0;replace bM:=bM.below hy1 s1;replace s0:=ltl s0 hy1.size;replace s1:=ltl s1 hy1.size;replace hbW:=hbW.trans (hy1.mono hbW.size);clear p0 p1 p2 p3 p4 m0 m1 m2 m3;obtain ⟨p0,p1,p2,p3,p4,-⟩:=id bP;obtain ⟨m0,m1,m2,m3,-⟩:=id bM;replace HXV:=hdq (HXV.out.below hy1);obtain ⟨rr,hrr⟩:∃ rr,rr=resize row V:=⟨_,rfl⟩;have HRr:Hid (VecIs y1 AllB AllB 7 ⟨yA,yn,yc⟩ rr):=by rw [hrr]; exact hdq (hy.loose (zNC HRow.out.fit V)).allB
         have hrl:rr.length=V:=by rw [hrr]; exact zNr row V
         have HRl:=hdq hrl;clear hy hrr hrl hy1;dsimp only [SV.val];(go_wp2_with fail);refine (zNp (L:=7) (V:=V) (p:=⟨V,⟨oA,on,oc⟩,⟨rA,rn,rc⟩,⟨bA,bn,bc⟩⟩) (r:=⟨yA,yn,yc⟩) (mv:=mv) ((HP6.out.more (by omega)).below hbW) rfl (by omega) HOn.out.1 HOn.out.2.1 (by show rn<=127; omega) HOn.out.2.2 HFb.out.co HFb.out.cr (by rw [zAZ]; omega) HRr.out ((HMost.out.mono (by omega)).below hbW) (by have h1:=HRr.out.len; rw [HRl.out] at h1; exact Nat.le_of_eq h1.symm)).mono ?_;rintro e y2 ⟨⟨⟨zz',⟨xA,xn,xc⟩,⟨gA,gn,gc⟩,⟨uA,un,uc⟩⟩,rfl,hz',hq⟩,hy2⟩;dsimp only at hz';subst hz';replace bP:=bP.below hy2 s0;replace bM:=bM.below hy2 s1;replace s0:=ltl s0 hy2.size;replace s1:=ltl s1 hy2.size;replace hbW:=hbW.trans (hy2.mono hbW.size);clear p0 p1 p2 p3 p4 m0 m1 m2 m3;obtain ⟨p0,p1,p2,p3,p4,-⟩:=id bP;obtain ⟨m0,m1,m2,m3,-⟩:=id bM;replace HXV:=hdq (HXV.out.below hy2);replace HRr:=hdq (HRr.out.below hy2);have HQ:=hdq hq;clear hq hy2;dsimp only [LPV.val,SV.val]
         have HC:Hid (BinF y2 ⟨⟨V,⟨xA,xn,xc⟩,⟨gA,gn,gc⟩,⟨uA,un,uc⟩⟩,⟨iA,iN,ic⟩⟩ V os (rs++[rr]) (bs++[most]) zs):=hdq (by
          have e1:os.length=xn:=HQ.out.obj.len;have e2:(rs++[rr]).length=gn:=HQ.out.rows.len;have e3:(bs++[most]).length=un:=HQ.out.bounds.len;have e4:os.length=on:=HFb.out.lp.obj.len;have e5:rs.length=rn:=HFb.out.lp.rows.len;have e6:bs.length=bn:=HFb.out.lp.bounds.len;have e7:=HOn.out;simp only [List.length_append,List.length_singleton] at e2 e3;exact ⟨rfl,hV4,by show 1<=xn; omega,by show xn<=4; omega,by show gn<=5; omega,by show un=gn; omega,HFb.out.co,zNI HFb.out.cr (by rw [HRl.out]; exact nlr _),⟨HQ.out.obj.imp (fun _ _ _=>trivial) fun _ _ hq=>hq.imp fun _ _ _=>trivial,HQ.out.rows.imp (fun _ _ _=>trivial) fun _ _ hq=>hq.imp fun _ _ _=>trivial,HQ.out.bounds.imp (fun _ _ _=>trivial) fun _ _ hq=>hq.imp fun _ _ _=>trivial⟩,hzs.out.below hbW,HFb.out.z4,HFb.out.zok⟩)
         have hbl:bs.length=rs.length:=by have e5:=HFb.out.lp.rows.len; have e6:=HFb.out.lp.bounds.len; have e7:=HOn.out.2.2; dsimp only at e5 e6; omega
         have Hbl:=hdq hbl;clear HQ hbl;(go_wp2_with fail);have al9:Below y2.heap.size y2 (y2.alloc (.cells #[.int .i64 V,.slice xA xn xc,.slice gA gn gc,.slice uA un uc] 28)):=(brf _ _).alloc (nlr _) _;replace bP:=bP.below al9 s0;replace bM:=bM.below al9 s1;replace s0:=ltl s0 al9.size;replace s1:=ltl s1 al9.size;replace hbW:=hbW.trans (al9.mono hbW.size);clear p0 p1 p2 p3 p4 m0 m1 m2 m3;obtain ⟨p0,p1,p2,p3,p4,-⟩:=id bP;obtain ⟨m0,m1,m2,m3,-⟩:=id bM;replace HXV:=hdq (HXV.out.below al9);replace HRr:=hdq (HRr.out.below al9);refine (BinF.solve (b:=⟨⟨V,⟨xA,xn,xc⟩,⟨gA,gn,gc⟩,⟨uA,un,uc⟩⟩,⟨iA,iN,ic⟩⟩) (HC.out.below al9)).mono ?_;rintro e x5 hret;have hx5:=hret.code;have hout:=zNY HFb.out.co Hbl.out HXS.out HRy.out HBs.out hret;replace bP:=bP.below hx5 s0;replace bM:=bM.below hx5 s1;replace s0:=ltl s0 hx5.size;replace s1:=ltl s1 hx5.size;replace hbW:=hbW.trans (hx5.mono hbW.size);clear p0 p1 p2 p3 p4 m0 m1 m2 m3;obtain ⟨p0,p1,p2,p3,p4,-⟩:=id bP;obtain ⟨m0,m1,m2,m3,-⟩:=id bM;replace HXV:=hdq (HXV.out.below hx5);replace HRr:=hdq (HRr.out.below hx5);clear hret hx5 al9 HC;have bW:=hbW;have hsum:(Lin.sum V fun i=>rr.getD i 0*xl.getD i 0)=Lin.sum V fun k=>rr.getD k 0*x k:=Lin.zAh fun k hk=>by rw [Hxe.out,zAS _ _ hk]
         have HSum:=hdq hsum;clear hsum;rcases hout with ⟨hle,⟨b2,bn2,bc2⟩,s2,rfl,hv2⟩ | ⟨hgt,⟨⟨b2,bn2,bc2⟩,s2,rfl⟩ | ⟨⟨b2,bn2,bc2⟩,s2,y,rfl,hyv,hlt⟩⟩
         ·rw [<-Hxe.out] at hv2;have HV2:=hdq hv2;obtain ⟨o2,ho2,hle2⟩:=zNB (by rw [HSum.out]; exact hle:(Lin.sum V fun i=>rr.getD i 0*xl.getD i 0)<=most);have HO2:=hdq ho2;clear hv2 hle ho2;dsimp only [SV.val];(go_upto_region 13 with fail);have hBW:=hbW.size
          go_region_held3 (Sees w.heap.size [] x5) (exact kp)
           (first
            | (go_at_call 31; ((with_reducible refine (zNo (kb:=29000000) (V:=V) (sa:=⟨yA,yn,yc⟩) (sb:=⟨vA,vn,vc⟩) (HRr.out.below (Sees.kept (by assumption)).whole) (HXV.out.below (Sees.kept (by assumption)).whole) (by rw [zAZ]; omega) (by rw [zAZ]; omega) HRl.out HXL.out (by omega) (by rw [zAZ]; omega) (fun i=>((zAR (HRr.out.fit i)).mul (zAR (HXV.out.fit i))).mono (by omega))).mono ?_); rintro e y7 ⟨⟨u,rfl,hu⟩,hc2⟩))
            | (go_at_call 30; ((with_reducible refine (zNn o2 hu (HMost.out.below (bW.trans ((Sees.kept (by assumption)).whole.mono bW.size))) (nlr _) (by rw [zAZ]; omega) HO2.out).mono ?_); rintro e y8 ⟨rfl,hc3⟩))
            | fail)
          rename_i hS;have hS':=hS.kept.whole;clear hu hc2 hc3;replace bP:=bP.below hS' s0;replace bM:=bM.below hS' s1;replace s0:=ltl s0 hS'.size;replace s1:=ltl s1 hS'.size;replace hbW:=hbW.trans (hS'.mono hbW.size);clear p0 p1 p2 p3 p4 m0 m1 m2 m3;obtain ⟨p0,p1,p2,p3,p4,-⟩:=id bP;obtain ⟨m0,m1,m2,m3,-⟩:=id bM;replace HV2:=hdq (HV2.out.below hS');replace HXV:=hdq (HXV.out.below hS');clear hS hS';(go_wp2_with fail);refine (zNx true (V:=V) (sa:=⟨vA,vn,vc⟩) (sb:=⟨b2,bn2,bc2⟩) HXV.out HV2.out (by rw [zAZ]; omega) (by rw [zAZ]; omega) HXL.out HXL.out (by omega) ⟨fun _=>rfl,fun _ _ _=>rfl⟩).mono ?_;rintro e y4 ⟨rfl,hc4⟩;replace bP:=bP.below hc4 s0;replace bM:=bM.below hc4 s1;replace s0:=ltl s0 hc4.size;replace s1:=ltl s1 hc4.size;replace hbW:=hbW.trans (hc4.mono hbW.size);clear p0 p1 p2 p3 p4 m0 m1 m2 m3;obtain ⟨p0,p1,p2,p3,p4,-⟩:=id bP;obtain ⟨m0,m1,m2,m3,-⟩:=id bM;(go_wp2_with fail);refine zLi.mono ?_;rintro e wl ⟨rfl,hbl⟩;have hbf:=hbW.trans (hbl.mono hbW.size);go_wp2;go_ret;exact ⟨rfl,hbf⟩
         ·have HO2:Hid (qcmp (Lin.sum V fun i=>rr.getD i 0*xl.getD i 0) most=1):=hdq (zNF (by rw [HSum.out]; exact hgt));clear hgt;dsimp only [SV.val];(go_upto_region 13 with fail);have hBW:=hbW.size
          go_region_held3 (Sees w.heap.size [] x5) (exact kp)
           (first
            | (go_at_call 31; ((with_reducible refine (zNo (kb:=29000000) (V:=V) (sa:=⟨yA,yn,yc⟩) (sb:=⟨vA,vn,vc⟩) (HRr.out.below (Sees.kept (by assumption)).whole) (HXV.out.below (Sees.kept (by assumption)).whole) (by rw [zAZ]; omega) (by rw [zAZ]; omega) HRl.out HXL.out (by omega) (by rw [zAZ]; omega) (fun i=>((zAR (HRr.out.fit i)).mul (zAR (HXV.out.fit i))).mono (by omega))).mono ?_); rintro e y7 ⟨⟨u,rfl,hu⟩,hc2⟩))
            | (go_at_call 30; ((with_reducible refine (zNn 1 hu (HMost.out.below (bW.trans ((Sees.kept (by assumption)).whole.mono bW.size))) (nlr _) (by rw [zAZ]; omega) HO2.out).mono ?_); rintro e y8 ⟨rfl,hc3⟩))
            | fail)
          rename_i hS;have hS':=hS.kept.whole;clear hu hc2 hc3;replace bP:=bP.below hS' s0;replace bM:=bM.below hS' s1;replace s0:=ltl s0 hS'.size;replace s1:=ltl s1 hS'.size;replace hbW:=hbW.trans (hS'.mono hbW.size);clear p0 p1 p2 p3 p4 m0 m1 m2 m3;obtain ⟨p0,p1,p2,p3,p4,-⟩:=id bP;obtain ⟨m0,m1,m2,m3,-⟩:=id bM;clear hS hS';(go_wp2_with fail);refine zLi.mono ?_;rintro e wl ⟨rfl,hbl⟩;have hbf:=hbW.trans (hbl.mono hbW.size);go_wp2;go_ret;exact ⟨rfl,hbf⟩
         ·have HO2:Hid (qcmp (Lin.sum V fun i=>rr.getD i 0*xl.getD i 0) most=1):=hdq (zNF (by rw [HSum.out]; exact hgt));obtain ⟨yl,hyl⟩:∃ yl,yl=(List.range V).map y:=⟨_,rfl⟩;rw [<-hyl] at hyv hlt;rw [<-Hxe.out] at hlt;have hyll:yl.length=V:=by rw [hyl]; simp
          have HYL:=hdq hyll;have HYV:=hdq hyv;obtain ⟨o,ho⟩:∃ o,lpcmp os yl xl=o:=⟨_,rfl⟩;rw [ho] at hlt;have HOo:=hdq ho;clear hgt hyl hyll hyv ho;dsimp only [SV.val];(go_upto_region 13 with fail);have hBW:=hbW.size
          go_region_held3 (Sees w.heap.size [] x5) (exact kp)
           (first
            | (go_at_call 31; ((with_reducible refine (zNo (kb:=29000000) (V:=V) (sa:=⟨yA,yn,yc⟩) (sb:=⟨vA,vn,vc⟩) (HRr.out.below (Sees.kept (by assumption)).whole) (HXV.out.below (Sees.kept (by assumption)).whole) (by rw [zAZ]; omega) (by rw [zAZ]; omega) HRl.out HXL.out (by omega) (by rw [zAZ]; omega) (fun i=>((zAR (HRr.out.fit i)).mul (zAR (HXV.out.fit i))).mono (by omega))).mono ?_); rintro e y7 ⟨⟨u,rfl,hu⟩,hc2⟩))
            | (go_at_call 30; ((with_reducible refine (zNn 1 hu (HMost.out.below (bW.trans ((Sees.kept (by assumption)).whole.mono bW.size))) (nlr _) (by rw [zAZ]; omega) HO2.out).mono ?_); rintro e y8 ⟨rfl,hc3⟩))
            | fail)
          rename_i hS;have hS':=hS.kept.whole;clear hu hc2 hc3;replace bP:=bP.below hS' s0;replace bM:=bM.below hS' s1;replace s0:=ltl s0 hS'.size;replace s1:=ltl s1 hS'.size;replace hbW:=hbW.trans (hS'.mono hbW.size);clear p0 p1 p2 p3 p4 m0 m1 m2 m3;obtain ⟨p0,p1,p2,p3,p4,-⟩:=id bP;obtain ⟨m0,m1,m2,m3,-⟩:=id bM;replace HYV:=hdq (HYV.out.below hS');replace HXV:=hdq (HXV.out.below hS');clear hS hS';(go_wp2_with fail);refine (zNq (kb:=29000000) (p:=⟨V,⟨oA,on,oc⟩,⟨rA,rn,rc⟩,⟨bA,bn,bc⟩⟩) (sx:=⟨b2,bn2,bc2⟩) (sy:=⟨vA,vn,vc⟩) (HFb.out.lp.below hbW) HYV.out HXV.out (by have:=HOn.out.2.1; show on<=_; omega) (fun i=>nlt (zBT HFb.out.co i) (by omega)) (by have h1:=HYV.out.len; have h2:=HYL.out; dsimp only at h1; show bn2<=_; omega) (by have h1:=HXV.out.len; have h2:=HXL.out; dsimp only at h1; show vn<=_; omega) (by rw [zAZ]; omega) (by rw [zAZ]; omega) (by rw [zAZ]; omega) (by rw [zAZ]; omega) (fun i k=>((zAR (HFb.out.lp.obj.fit i k)).mul (zAR (HYV.out.fit k))).mono (by omega)) (fun i k=>((zAR (HFb.out.lp.obj.fit i k)).mul (zAR (HXV.out.fit k))).mono (by omega))).mono ?_;rw [HOo.out];rintro e y4 ⟨rfl,hc4⟩;replace bP:=bP.below hc4 s0;replace bM:=bM.below hc4 s1;replace s0:=ltl s0 hc4.size;replace s1:=ltl s1 hc4.size;replace hbW:=hbW.trans (hc4.mono hbW.size);clear p0 p1 p2 p3 p4 m0 m1 m2 m3;obtain ⟨p0,p1,p2,p3,p4,-⟩:=id bP;obtain ⟨m0,m1,m2,m3,-⟩:=id bM;(go_wp2_with fail);refine zLi.mono ?_;rintro e wl ⟨rfl,hbl⟩;have hbf:=hbW.trans (hbl.mono hbW.size);go_wp2;go_ret;exact ⟨rfl,hbf⟩
        ·have HZF:=hdq hzf;clear hzf;(go_wp2_with fail);refine (BinF.feas (b:=⟨⟨V,⟨oA,on,oc⟩,⟨rA,rn,rc⟩,⟨bA,bn,bc⟩⟩,⟨iA,iN,ic⟩⟩) (s:=⟨zA,zn,zc⟩) false (HFb.out.below hbW) (HZv.out.below hbW) (by decide) (by show zn<=_; omega) ⟨fun h=>absurd h HZF.out,fun h=>by cases h⟩).mono ?_;rintro e x2 ⟨rfl,hx2⟩;replace bP:=bP.below hx2 s0;replace bM:=bM.below hx2 s1;replace s0:=ltl s0 hx2.size;replace s1:=ltl s1 hx2.size;replace hbW:=hbW.trans (hx2.mono hbW.size);clear p0 p1 p2 p3 p4 m0 m1 m2 m3;obtain ⟨p0,p1,p2,p3,p4,-⟩:=id bP;obtain ⟨m0,m1,m2,m3,-⟩:=id bM;replace HXV:=hdq (HXV.out.below hx2);clear hx2;(go_wp2_with fail);refine (zF0 (s:=⟨qA,qn,qc⟩) (HRow.out.below hbW) V (by omega) (by rw [zAZ]; omega)).mono ?_;rintro e y1 ⟨⟨⟨yA,yn,yc⟩,rfl,hy⟩,hy1⟩;replace bP:=bP.below hy1 s0;replace bM:=bM.below hy1 s1;replace s0:=ltl s0 hy1.size;replace s1:=ltl s1 hy1.size;replace hbW:=hbW.trans (hy1.mono hbW.size);clear p0 p1 p2 p3 p4 m0 m1 m2 m3;obtain ⟨p0,p1,p2,p3,p4,-⟩:=id bP;obtain ⟨m0,m1,m2,m3,-⟩:=id bM;replace HXV:=hdq (HXV.out.below hy1);obtain ⟨rr,hrr⟩:∃ rr,rr=resize row V:=⟨_,rfl⟩;have HRr:Hid (VecIs y1 AllB AllB 7 ⟨yA,yn,yc⟩ rr):=by rw [hrr]; exact hdq (hy.loose (zNC HRow.out.fit V)).allB
         have hrl:rr.length=V:=by rw [hrr]; exact zNr row V
         have HRl:=hdq hrl;clear hy hrr hrl hy1;dsimp only [SV.val];(go_wp2_with fail);refine (zNp (L:=7) (V:=V) (p:=⟨V,⟨oA,on,oc⟩,⟨rA,rn,rc⟩,⟨bA,bn,bc⟩⟩) (r:=⟨yA,yn,yc⟩) (mv:=mv) ((HP6.out.more (by omega)).below hbW) rfl (by omega) HOn.out.1 HOn.out.2.1 (by show rn<=127; omega) HOn.out.2.2 HFb.out.co HFb.out.cr (by rw [zAZ]; omega) HRr.out ((HMost.out.mono (by omega)).below hbW) (by have h1:=HRr.out.len; rw [HRl.out] at h1; exact Nat.le_of_eq h1.symm)).mono ?_;rintro e y2 ⟨⟨⟨zz',⟨xA,xn,xc⟩,⟨gA,gn,gc⟩,⟨uA,un,uc⟩⟩,rfl,hz',hq⟩,hy2⟩;dsimp only at hz';subst hz';replace bP:=bP.below hy2 s0;replace bM:=bM.below hy2 s1;replace s0:=ltl s0 hy2.size;replace s1:=ltl s1 hy2.size;replace hbW:=hbW.trans (hy2.mono hbW.size);clear p0 p1 p2 p3 p4 m0 m1 m2 m3;obtain ⟨p0,p1,p2,p3,p4,-⟩:=id bP;obtain ⟨m0,m1,m2,m3,-⟩:=id bM;replace HXV:=hdq (HXV.out.below hy2);replace HRr:=hdq (HRr.out.below hy2);have HQ:=hdq hq;clear hq hy2;dsimp only [LPV.val,SV.val]
         have HC:Hid (BinF y2 ⟨⟨V,⟨xA,xn,xc⟩,⟨gA,gn,gc⟩,⟨uA,un,uc⟩⟩,⟨iA,iN,ic⟩⟩ V os (rs++[rr]) (bs++[most]) zs):=hdq (by
          have e1:os.length=xn:=HQ.out.obj.len;have e2:(rs++[rr]).length=gn:=HQ.out.rows.len;have e3:(bs++[most]).length=un:=HQ.out.bounds.len;have e4:os.length=on:=HFb.out.lp.obj.len;have e5:rs.length=rn:=HFb.out.lp.rows.len;have e6:bs.length=bn:=HFb.out.lp.bounds.len;have e7:=HOn.out;simp only [List.length_append,List.length_singleton] at e2 e3;exact ⟨rfl,hV4,by show 1<=xn; omega,by show xn<=4; omega,by show gn<=5; omega,by show un=gn; omega,HFb.out.co,zNI HFb.out.cr (by rw [HRl.out]; exact nlr _),⟨HQ.out.obj.imp (fun _ _ _=>trivial) fun _ _ hq=>hq.imp fun _ _ _=>trivial,HQ.out.rows.imp (fun _ _ _=>trivial) fun _ _ hq=>hq.imp fun _ _ _=>trivial,HQ.out.bounds.imp (fun _ _ _=>trivial) fun _ _ hq=>hq.imp fun _ _ _=>trivial⟩,hzs.out.below hbW,HFb.out.z4,HFb.out.zok⟩)
         have hbl:bs.length=rs.length:=by have e5:=HFb.out.lp.rows.len; have e6:=HFb.out.lp.bounds.len; have e7:=HOn.out.2.2; dsimp only at e5 e6; omega
         have Hbl:=hdq hbl;clear HQ hbl;(go_wp2_with fail);have al9:Below y2.heap.size y2 (y2.alloc (.cells #[.int .i64 V,.slice xA xn xc,.slice gA gn gc,.slice uA un uc] 28)):=(brf _ _).alloc (nlr _) _;replace bP:=bP.below al9 s0;replace bM:=bM.below al9 s1;replace s0:=ltl s0 al9.size;replace s1:=ltl s1 al9.size;replace hbW:=hbW.trans (al9.mono hbW.size);clear p0 p1 p2 p3 p4 m0 m1 m2 m3;obtain ⟨p0,p1,p2,p3,p4,-⟩:=id bP;obtain ⟨m0,m1,m2,m3,-⟩:=id bM;replace HXV:=hdq (HXV.out.below al9);replace HRr:=hdq (HRr.out.below al9);refine (BinF.solve (b:=⟨⟨V,⟨xA,xn,xc⟩,⟨gA,gn,gc⟩,⟨uA,un,uc⟩⟩,⟨iA,iN,ic⟩⟩) (HC.out.below al9)).mono ?_;rintro e x5 hret;have hx5:=hret.code;have hout:=zNY HFb.out.co Hbl.out HXS.out HRy.out HBs.out hret;replace bP:=bP.below hx5 s0;replace bM:=bM.below hx5 s1;replace s0:=ltl s0 hx5.size;replace s1:=ltl s1 hx5.size;replace hbW:=hbW.trans (hx5.mono hbW.size);clear p0 p1 p2 p3 p4 m0 m1 m2 m3;obtain ⟨p0,p1,p2,p3,p4,-⟩:=id bP;obtain ⟨m0,m1,m2,m3,-⟩:=id bM;replace HXV:=hdq (HXV.out.below hx5);replace HRr:=hdq (HRr.out.below hx5);clear hret hx5 al9 HC;have bW:=hbW;have hsum:(Lin.sum V fun i=>rr.getD i 0*xl.getD i 0)=Lin.sum V fun k=>rr.getD k 0*x k:=Lin.zAh fun k hk=>by rw [Hxe.out,zAS _ _ hk]
         have HSum:=hdq hsum;clear hsum;rcases hout with ⟨hle,⟨b2,bn2,bc2⟩,s2,rfl,hv2⟩ | ⟨hgt,⟨⟨b2,bn2,bc2⟩,s2,rfl⟩ | ⟨⟨b2,bn2,bc2⟩,s2,y,rfl,hyv,hlt⟩⟩
         ·rw [<-Hxe.out] at hv2;have HV2:=hdq hv2;obtain ⟨o2,ho2,hle2⟩:=zNB (by rw [HSum.out]; exact hle:(Lin.sum V fun i=>rr.getD i 0*xl.getD i 0)<=most);have HO2:=hdq ho2;clear hv2 hle ho2;dsimp only [SV.val];(go_upto_region 13 with fail);have hBW:=hbW.size
          go_region_held3 (Sees w.heap.size [] x5) (exact kp)
           (first
            | (go_at_call 31; ((with_reducible refine (zNo (kb:=29000000) (V:=V) (sa:=⟨yA,yn,yc⟩) (sb:=⟨vA,vn,vc⟩) (HRr.out.below (Sees.kept (by assumption)).whole) (HXV.out.below (Sees.kept (by assumption)).whole) (by rw [zAZ]; omega) (by rw [zAZ]; omega) HRl.out HXL.out (by omega) (by rw [zAZ]; omega) (fun i=>((zAR (HRr.out.fit i)).mul (zAR (HXV.out.fit i))).mono (by omega))).mono ?_); rintro e y7 ⟨⟨u,rfl,hu⟩,hc2⟩))
            | (go_at_call 30; ((with_reducible refine (zNn o2 hu (HMost.out.below (bW.trans ((Sees.kept (by assumption)).whole.mono bW.size))) (nlr _) (by rw [zAZ]; omega) HO2.out).mono ?_); rintro e y8 ⟨rfl,hc3⟩))
            | fail)
          rename_i hS;have hS':=hS.kept.whole;clear hu hc2 hc3;replace bP:=bP.below hS' s0;replace bM:=bM.below hS' s1;replace s0:=ltl s0 hS'.size;replace s1:=ltl s1 hS'.size;replace hbW:=hbW.trans (hS'.mono hbW.size);clear p0 p1 p2 p3 p4 m0 m1 m2 m3;obtain ⟨p0,p1,p2,p3,p4,-⟩:=id bP;obtain ⟨m0,m1,m2,m3,-⟩:=id bM;replace HV2:=hdq (HV2.out.below hS');replace HXV:=hdq (HXV.out.below hS');clear hS hS';(go_wp2_with fail);refine (zNx true (V:=V) (sa:=⟨vA,vn,vc⟩) (sb:=⟨b2,bn2,bc2⟩) HXV.out HV2.out (by rw [zAZ]; omega) (by rw [zAZ]; omega) HXL.out HXL.out (by omega) ⟨fun _=>rfl,fun _ _ _=>rfl⟩).mono ?_;rintro e y4 ⟨rfl,hc4⟩;replace bP:=bP.below hc4 s0;replace bM:=bM.below hc4 s1;replace s0:=ltl s0 hc4.size;replace s1:=ltl s1 hc4.size;replace hbW:=hbW.trans (hc4.mono hbW.size);clear p0 p1 p2 p3 p4 m0 m1 m2 m3;obtain ⟨p0,p1,p2,p3,p4,-⟩:=id bP;obtain ⟨m0,m1,m2,m3,-⟩:=id bM;(go_wp2_with fail);refine zLi.mono ?_;rintro e wl ⟨rfl,hbl⟩;have hbf:=hbW.trans (hbl.mono hbW.size);go_wp2;go_ret;exact ⟨rfl,hbf⟩
         ·have HO2:Hid (qcmp (Lin.sum V fun i=>rr.getD i 0*xl.getD i 0) most=1):=hdq (zNF (by rw [HSum.out]; exact hgt));clear hgt;dsimp only [SV.val];(go_upto_region 13 with fail);have hBW:=hbW.size
          go_region_held3 (Sees w.heap.size [] x5) (exact kp)
           (first
            | (go_at_call 31; ((with_reducible refine (zNo (kb:=29000000) (V:=V) (sa:=⟨yA,yn,yc⟩) (sb:=⟨vA,vn,vc⟩) (HRr.out.below (Sees.kept (by assumption)).whole) (HXV.out.below (Sees.kept (by assumption)).whole) (by rw [zAZ]; omega) (by rw [zAZ]; omega) HRl.out HXL.out (by omega) (by rw [zAZ]; omega) (fun i=>((zAR (HRr.out.fit i)).mul (zAR (HXV.out.fit i))).mono (by omega))).mono ?_); rintro e y7 ⟨⟨u,rfl,hu⟩,hc2⟩))
            | (go_at_call 30; ((with_reducible refine (zNn 1 hu (HMost.out.below (bW.trans ((Sees.kept (by assumption)).whole.mono bW.size))) (nlr _) (by rw [zAZ]; omega) HO2.out).mono ?_); rintro e y8 ⟨rfl,hc3⟩))
            | fail)
          rename_i hS;have hS':=hS.kept.whole;clear hu hc2 hc3;replace bP:=bP.below hS' s0;replace bM:=bM.below hS' s1;replace s0:=ltl s0 hS'.size;replace s1:=ltl s1 hS'.size;replace hbW:=hbW.trans (hS'.mono hbW.size);clear p0 p1 p2 p3 p4 m0 m1 m2 m3;obtain ⟨p0,p1,p2,p3,p4,-⟩:=id bP;obtain ⟨m0,m1,m2,m3,-⟩:=id bM;clear hS hS';(go_wp2_with fail);refine zLi.mono ?_;rintro e wl ⟨rfl,hbl⟩;have hbf:=hbW.trans (hbl.mono hbW.size);go_wp2;go_ret;exact ⟨rfl,hbf⟩
         ·have HO2:Hid (qcmp (Lin.sum V fun i=>rr.getD i 0*xl.getD i 0) most=1):=hdq (zNF (by rw [HSum.out]; exact hgt));obtain ⟨yl,hyl⟩:∃ yl,yl=(List.range V).map y:=⟨_,rfl⟩;rw [<-hyl] at hyv hlt;rw [<-Hxe.out] at hlt;have hyll:yl.length=V:=by rw [hyl]; simp
          have HYL:=hdq hyll;have HYV:=hdq hyv;obtain ⟨o,ho⟩:∃ o,lpcmp os yl xl=o:=⟨_,rfl⟩;rw [ho] at hlt;have HOo:=hdq ho;clear hgt hyl hyll hyv ho;dsimp only [SV.val];(go_upto_region 13 with fail);have hBW:=hbW.size
          go_region_held3 (Sees w.heap.size [] x5) (exact kp)
           (first
            | (go_at_call 31; ((with_reducible refine (zNo (kb:=29000000) (V:=V) (sa:=⟨yA,yn,yc⟩) (sb:=⟨vA,vn,vc⟩) (HRr.out.below (Sees.kept (by assumption)).whole) (HXV.out.below (Sees.kept (by assumption)).whole) (by rw [zAZ]; omega) (by rw [zAZ]; omega) HRl.out HXL.out (by omega) (by rw [zAZ]; omega) (fun i=>((zAR (HRr.out.fit i)).mul (zAR (HXV.out.fit i))).mono (by omega))).mono ?_); rintro e y7 ⟨⟨u,rfl,hu⟩,hc2⟩))
            | (go_at_call 30; ((with_reducible refine (zNn 1 hu (HMost.out.below (bW.trans ((Sees.kept (by assumption)).whole.mono bW.size))) (nlr _) (by rw [zAZ]; omega) HO2.out).mono ?_); rintro e y8 ⟨rfl,hc3⟩))
            | fail)
          rename_i hS;have hS':=hS.kept.whole;clear hu hc2 hc3;replace bP:=bP.below hS' s0;replace bM:=bM.below hS' s1;replace s0:=ltl s0 hS'.size;replace s1:=ltl s1 hS'.size;replace hbW:=hbW.trans (hS'.mono hbW.size);clear p0 p1 p2 p3 p4 m0 m1 m2 m3;obtain ⟨p0,p1,p2,p3,p4,-⟩:=id bP;obtain ⟨m0,m1,m2,m3,-⟩:=id bM;replace HYV:=hdq (HYV.out.below hS');replace HXV:=hdq (HXV.out.below hS');clear hS hS';(go_wp2_with fail);refine (zNq (kb:=29000000) (p:=⟨V,⟨oA,on,oc⟩,⟨rA,rn,rc⟩,⟨bA,bn,bc⟩⟩) (sx:=⟨b2,bn2,bc2⟩) (sy:=⟨vA,vn,vc⟩) (HFb.out.lp.below hbW) HYV.out HXV.out (by have:=HOn.out.2.1; show on<=_; omega) (fun i=>nlt (zBT HFb.out.co i) (by omega)) (by have h1:=HYV.out.len; have h2:=HYL.out; dsimp only at h1; show bn2<=_; omega) (by have h1:=HXV.out.len; have h2:=HXL.out; dsimp only at h1; show vn<=_; omega) (by rw [zAZ]; omega) (by rw [zAZ]; omega) (by rw [zAZ]; omega) (by rw [zAZ]; omega) (fun i k=>((zAR (HFb.out.lp.obj.fit i k)).mul (zAR (HYV.out.fit k))).mono (by omega)) (fun i k=>((zAR (HFb.out.lp.obj.fit i k)).mul (zAR (HXV.out.fit k))).mono (by omega))).mono ?_;rw [HOo.out];rintro e y4 ⟨rfl,hc4⟩;replace bP:=bP.below hc4 s0;replace bM:=bM.below hc4 s1;replace s0:=ltl s0 hc4.size;replace s1:=ltl s1 hc4.size;replace hbW:=hbW.trans (hc4.mono hbW.size);clear p0 p1 p2 p3 p4 m0 m1 m2 m3;obtain ⟨p0,p1,p2,p3,p4,-⟩:=id bP;obtain ⟨m0,m1,m2,m3,-⟩:=id bM;(go_wp2_with fail);refine zLi.mono ?_;rintro e wl ⟨rfl,hbl⟩;have hbf:=hbW.trans (hbl.mono hbW.size);go_wp2;go_ret;exact ⟨rfl,hbf⟩
       ·cases hnil;have HNo:=hdq hno;clear hno hx1;(go_wp2_with fail);refine (BinF.feas (b:=⟨⟨V,⟨oA,on,oc⟩,⟨rA,rn,rc⟩,⟨bA,bn,bc⟩⟩,⟨iA,iN,ic⟩⟩) (s:=⟨zA,zn,zc⟩) false (HFb.out.below hbW) (HZv.out.below hbW) (by decide) (by show zn<=_; omega) ⟨fun h=>absurd h.2 (HNo.out _),fun h=>by cases h⟩).mono ?_;rintro e x2 ⟨rfl,hx2⟩;replace bP:=bP.below hx2 s0;replace bM:=bM.below hx2 s1;replace s0:=ltl s0 hx2.size;replace s1:=ltl s1 hx2.size;replace hbW:=hbW.trans (hx2.mono hbW.size);clear p0 p1 p2 p3 p4 m0 m1 m2 m3;obtain ⟨p0,p1,p2,p3,p4,-⟩:=id bP;obtain ⟨m0,m1,m2,m3,-⟩:=id bM;(go_wp2_with fail);refine zLi.mono ?_;rintro e wl ⟨rfl,hbl⟩;have hbf:=hbW.trans (hbl.mono hbW.size);go_wp2;go_ret;exact ⟨rfl,hbf⟩
       ·cases hnil;clear hx1;(go_wp2_with fail);refine zLi.mono ?_;rintro e wl ⟨rfl,hbl⟩;have hbf:=hbW.trans (hbl.mono hbW.size);go_wp2;go_ret;exact ⟨rfl,hbf⟩
end Go.Proofs.YtpjaodcimomaiaaGreat
