/- Texts BoG BoK of this claim. -/
import Derived.Test.YtbpngececjihlaaGreatB46
set_option maxHeartbeats 4000000
namespace Go.Proofs.YtbpngececjihlaaGreat
open Go.RowKit Go.Shelf Lin
variable {n V B b i M L:Nat} {f:Nat->Rat} {v0 v1 v2 v3 v4:Value} {w w':World} {zs:List Int} {bs:List Rat} {os rs:List (List Rat)} {s:SV} {X Y:Nat->Prop}
theorem zNv (h:∀ k,n<=k->f k=0):∀ d,sum (n+d) f=sum n f
 | 0=>rfl
 | d+1=>by
  show sum (n+d) f+f (n+d)=_;rw [zNv h d,h _ om]; grind
theorem zNP {r x:List Rat} (hr:r.length<=V) (hx:x.length<=V):dotL r x=sum V fun k=>r.getD k 0*x.getD k 0:=by
 unfold dotL
 have h:=zNv (f:=fun k=>r.getD k 0*x.getD k 0) (n:=min r.length x.length) (fun k hk=>by
  rcases Nat.le_total r.length x.length with h | h
  ·rw [Nat.min_eq_left h] at hk; show r.getD k 0*x.getD k 0=0; rw [zAw r _ _ hk]; grind
  ·rw [Nat.min_eq_right h] at hk; show r.getD k 0*x.getD k 0=0; rw [zAw x _ _ hk]; grind) (V-min r.length x.length)
 rw [<-h,show min r.length x.length+(V-min r.length x.length)=V by omega]
section
variable {V:Nat} {os rs:List (List Rat)} {bs:List Rat} {zs:List Int}
theorem zNX {x y:List Rat} (hc:colsOf os<=V) (hx:x.length<=V) (hy:y.length<=V) (hm:max y.length x.length=V) :
  lpcmp os x y=vcmp (fun l=>(BPof V os rs bs zs).dot ((BPof V os rs bs zs).lev l) fun k=>x.getD k 0) (fun l=>(BPof V os rs bs zs).dot ((BPof V os rs bs zs).lev l) fun k=>y.getD k 0) (os.length+V):=by
 have e1:∀ z:List Rat,z.length<=V->∀ i,i<os.length->(BPof V os rs bs zs).dot ((BPof V os rs bs zs).lev i) (fun k=>z.getD k 0)=(os.map fun r=>dotL r z).getD i 0:=fun z hz i hi=>by
  rw [show (os.map fun r=>dotL r z).getD i 0=dotL (os.getD i []) z by simp [hi],zNP (zBT hc i) hz];refine zAh fun k hk=>?_
  show (if i<os.length then _ else _)*_=_;rw [if_pos hi]; rfl
 have e2:∀ z:List Rat,∀ i,i<V->(BPof V os rs bs zs).dot ((BPof V os rs bs zs).lev (os.length+i)) (fun k=>z.getD k 0)=- z.getD i 0:=fun z i hi=>BP.lev_x (B:=BPof V os rs bs zs) hi
 rw [zNV,zLg (n:=os.length) (e1 x hx) (e1 y hy),zLg (n:=V) (e2 x) (e2 y),zNW];unfold lpcmp;rw [hm]
theorem zOk {row:List Rat} {most:Rat} (hb:bs.length=rs.length) (x:Nat->Rat):(BPof V os (rs++[row]) (bs++[most]) zs).S x ↔ (BPof V os rs bs zs).S x/\(sum V fun k=>row.getD k 0*x k)<=most:=by
 have g1:∀ i,i<rs.length->(rs++[row]).getD i []=rs.getD i []:=fun i hi=>by simp [List.getElem?_append_left hi]
 have g2:∀ i,i<rs.length->(bs++[most]).getD i 0=bs.getD i 0:=fun i hi=>by simp [List.getElem?_append_left (show i<bs.length by omega)]
 have g3:(rs++[row]).getD rs.length []=row:=si
 have g4:(bs++[most]).getD rs.length 0=most:=by rw [<-hb]; simp
 constructor
 ·rintro ⟨⟨hn,hr⟩,hz⟩;refine ⟨⟨⟨hn,fun i hi=>?_⟩,hz⟩,?_⟩
  ·have:=hr i (by show i<(rs++[row]).length; simp; exact Nat.lt_succ_of_lt hi);show sum V _<=bs.getD i 0;rw [<-g2 i hi];refine Rat.le_trans (req (zAh fun k _=>?_)) this;show (rs.getD i []).getD k 0*_=((rs++[row]).getD i []).getD k 0*_;rw [g1 i hi]
  ·have:=hr rs.length (by show rs.length<(rs++[row]).length; simp);rw [show (BPof V os (rs++[row]) (bs++[most]) zs).b rs.length=most from g4] at this;refine Rat.le_trans (req (zAh fun k _=>?_)) this;show row.getD k 0*_=((rs++[row]).getD rs.length []).getD k 0*_;rw [g3]
 ·rintro ⟨⟨⟨hn,hr⟩,hz⟩,hm⟩;refine ⟨⟨hn,fun i hi=>?_⟩,hz⟩;have hi':i<rs.length+1:=by have:i<(rs++[row]).length:=hi; simpa using this
  by_cases e:i<rs.length
  ·have:=hr i e;show _<=(bs++[most]).getD i 0;rw [g2 i e];refine Rat.le_trans (req (zAh fun k _=>?_)) this;show ((rs++[row]).getD i []).getD k 0*_=(rs.getD i []).getD k 0*_;rw [g1 i e]
  ·(obtain rfl:i=rs.length:=om);show _<=(bs++[most]).getD rs.length 0;rw [g4];refine Rat.le_trans (req (zAh fun k _=>?_)) hm;show ((rs++[row]).getD rs.length []).getD k 0*_=row.getD k 0*_;rw [g3]
end
open Go.RowKit Go.Shelf
abbrev Box5 (W:World) (b:Nat) (v0 v1 v2 v3 v4:Value):Prop:=
 W.cell? b=some v0/\W.cell? ⟨b,1,none⟩=some v1/\W.cell? ⟨b,2,none⟩=some v2/\W.cell? ⟨b,3,none⟩=some v3/\W.cell? ⟨b,4,none⟩=some v4/\(∀ o,W.frozen? ⟨b,o,none⟩=false)
theorem Box5.below (h:Box5 w b v0 v1 v2 v3 v4) (hb:Below B w w') (hlt:b<B):Box5 w' b v0 v1 v2 v3 v4:=
 ⟨by rw [hb.cell hlt]; exact h.1,by rw [hb.cell hlt]; exact h.2.1,by rw [hb.cell hlt]; exact h.2.2.1,by rw [hb.cell hlt]; exact h.2.2.2.1,by rw [hb.cell hlt]; exact h.2.2.2.2.1,fun o=>by rw [hb.frozen hlt]; exact h.2.2.2.2.2 o⟩
structure BinF (w:World) (b:BinV) (V:Nat) (os rs:List (List Rat)) (bs:List Rat) (zs:List Int):Prop where
 n:b.p.n=V
 V4:V<=4
 o1:1<=b.p.O.n
 o2:b.p.O.n<=4
 r:b.p.R.n<=5
 bn:b.p.B.n=b.p.R.n
 co:colsOf os<=V
 cr:colsOf rs<=V
 lp:LPIs w AllB AllB 8 b.p os rs bs
 z:IntsAt w b.bin zs
 z4:zs.length<=4
 zok:∀ i,i<zs.length->ZOk V zs i
theorem BinF.below {b:BinV} (h:BinF w b V os rs bs zs) (hb:Below w w w'):BinF w' b V os rs bs zs:=
 ⟨h.n,h.V4,h.o1,h.o2,h.r,h.bn,h.co,h.cr,h.lp.below hb,h.z.below hb,h.z4,h.zok⟩
theorem zN9 {V:Int} (h:∀ i,i<zs.length->ZOk V zs i) :∀ j,i<j->j<zs.length->zs.getD i 0<zs.getD j 0
 | 0,h1,_=>absurd h1 (Nat.not_lt_zero i)
 | j+1,h1,h2=>by
  have h3:=(h (j+1) h2).2.2 om;rw [Nat.add_sub_cancel] at h3;by_cases e:i=j
  ·subst e; exact h3
  ·exact Int.lt_trans (zN9 h j om om) h3
theorem zOi (h:∀ i,i<zs.length->ZOk V zs i):(BPof V os rs bs zs).Ok:=
 ⟨fun i hi=>by
  have hi':i<zs.length:=hi;obtain ⟨h1,h2,-⟩:=h i hi';show (zs.getD i 0).toNat<V;omega,fun i j hij hj=>by
  have hj':j<zs.length:=hj;obtain ⟨h1,-,-⟩:=h i om;have h2:=zN9 h j hij hj';show (zs.getD i 0).toNat<(zs.getD j 0).toNat;omega⟩
theorem BinF.sok {b:BinV} (h:BinF w b V os rs bs zs):SoK (BPof V os rs bs zs) 905000:=by
 have hV:=h.V4
 have hq:bqk V 288<=904500:=by
  have h5:5 ^ V<=625:=nlt (Nat.pow_le_pow_right dj hV) dj;have h6:V*(288+1)<=4*289:=Nat.mul_le_mul_right _ hV;have:=Nat.mul_le_mul h5 (show 288+V*(288+1)+1<=1445 by omega);unfold bqk; omega
 have hr:=h.lp.rows.len;have hr5:=h.r;have hz:=h.z4;have hmn:(rs.length+zs.length)*(2*bqk V 288+1)<=9*1809001:=Nat.mul_le_mul om om;refine SoK.of (k:=288) dj (fun i v _=>zAR (h.lp.rows.fit i v)) (fun i _=>zAR (h.lp.bounds.fit i)) (fun l v _=>zAR (h.lp.obj.fit l v)) ?_ dj (by rw [zAZ]; decide) (by rw [zAZ]; decide) ?_ ?_
 ·show bqk V 288+1<=_; omega
 ·show (rs.length+zs.length)*(2*bqk V 288+1)+bqk V 288+2<=_;rw [zAZ]; omega
 ·show 2*bqk V 288+1<=_;rw [zAZ]; omega
theorem BinF.solve {b:BinV} (h:BinF w b V os rs bs zs):Calls Tryz.prog 23 #[b.val] w (BSoRet w 905000 (BPof V os rs bs zs)):=
 zLk h.lp h.n (by have:=h.V4; omega) h.o1 h.o2 (by have:=h.r; omega) h.bn h.co h.cr h.z (by have:=h.z4; omega) (fun i hi=>(h.zok i hi).1) (zOi h.zok) h.sok
theorem zOj {x:List Rat} (hc:colsOf rs<=V) (hx:x.length<=V):((∀ k,k<x.length->0<=x.getD k 0)/\∀ i,i<rs.length->dotL (rs.getD i []) x<=bs.getD i 0) ↔ (BPof V os rs bs zs).LF fun k=>x.getD k 0:=by
 constructor
 ·rintro ⟨h1,h2⟩;refine ⟨fun k hk=>?_,fun i hi=>?_⟩
  ·by_cases e:k<x.length
   ·exact h1 k e
   ·show 0<=x.getD k 0;rw [zAw _ _ _ om]; exact Rat.le_refl
  ·have:=h2 i hi;rw [zNP (zBT hc i) hx] at this;exact this
 ·rintro ⟨h1,h2⟩;refine ⟨fun k hk=>h1 k (by show k<V; omega),fun i hi=>?_⟩;rw [zNP (zBT hc i) hx];exact h2 i hi
theorem BinF.feas {b:BinV} {x:List Rat} (c:Bool) (h:BinF w b V os rs bs zs) (hx:VecIs w X Y M s x) (hM:M<=905000) (hs:s.n<=9223372036854775807) (hc:(x.length<=V/\(BPof V os rs bs zs).S fun k=>x.getD k 0) ↔ c=true) :
  Calls Tryz.prog 30 #[b.val,s.val] w fun e w'=>e = .returned (.bool c)/\Below w w w':=by
 have hV:=h.V4
 have hvd:∀ w',Below w w w'->Calls Tryz.prog 68 #[b.val] w' fun e w2=>e = .returned (.bool true)/\Below w' w' w2:=fun w' hb=>
  zKZ (B:=BPof V os rs bs zs) (fun w2 hb2=>zBv ((h.lp.below hb).below hb2) h.n om h.o1 h.o2 (by have:=h.r; omega) h.bn h.co h.cr) h.n rfl om (by have:=h.z4; show zs.length<=12; omega) (zOi h.zok) ((h.z.below hb).bin fun i hi=>(h.zok i hi).1)
 have hML:M<=LM:=by rw [zAZ]; omega
 have hbi:∀ i,i<(BPof V os rs bs zs).nb->(BPof V os rs bs zs).bin i<=1000000:=fun i hi=>by
  have h1:=(zOi (os:=os) (rs:=rs) (bs:=bs) h.zok).lt i hi;have h2:(BPof V os rs bs zs).bin i<V:=h1;omega
 have hn12:(BPof V os rs bs zs).nb<=12:=by have:=h.z4; show zs.length<=12; omega
 have hzb:=h.z.bin (V:=V) (os:=os) (rs:=rs) (bs:=bs) fun i hi=>(h.zok i hi).1
 by_cases hl:x.length<=V
 ·have key:∀ f:Bool,(((BPof V os rs bs zs).LF fun k=>x.getD k 0) ↔ f=true)->Calls Tryz.prog 30 #[b.val,s.val] w fun e w'=>e = .returned (.bool c)/\Below w w w':=fun f hf=>
   zLJ (B:=BPof V os rs bs zs) f c hvd (fun w' hb=>zEE (V:=V) (kb:=29000000) f (h.lp.below hb) h.n om h.o1 h.o2 (by have:=h.r; omega) h.bn h.co h.cr (hx.below hb) hl (by rw [zAZ]; omega) hML (by rw [zAZ]; omega) (fun i k=>((zAR (h.lp.rows.fit i k)).mul (zAR (hx.fit k))).mono om) ((zOj h.cr hl).trans hf)) hx hML hzb hbi hn12
    ⟨fun ⟨h1,h2⟩=>hc.1 ⟨hl,hf.2 h1,h2⟩,fun e=>⟨hf.1 (hc.2 e).2.1,(hc.2 e).2.2⟩⟩
  by_cases hf:(BPof V os rs bs zs).LF fun k=>x.getD k 0
  ·exact key true ⟨fun _=>rfl,fun _=>hf⟩
  ·exact key false ⟨fun h=>absurd h hf,fun h=>by cases h⟩
 ·refine zLJ (B:=BPof V os rs bs zs) false c hvd (fun w' hb=>zNA (V:=V) (h.lp.below hb) h.n om h.o1 h.o2 (by have:=h.r; omega) h.bn h.co h.cr (by have:=hx.len; omega) hs) hx hML hzb hbi hn12 ⟨fun h=>absurd h.1 dj,fun e=>absurd (hc.2 e).1 hl⟩
theorem BSoRet.code {B:Lin.BP} {e:Ending} (h:BSoRet w L B e w'):Below w w w':=by
 obtain ⟨_,_,_,_,hb,_⟩:=h; exact hb
end Go.Proofs.YtbpngececjihlaaGreat
