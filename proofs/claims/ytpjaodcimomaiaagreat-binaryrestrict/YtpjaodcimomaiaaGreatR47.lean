/- Texts BoG BoK BoI of this claim. -/
import Derived.Test.YtpjaodcimomaiaaGreatR46
set_option maxHeartbeats 4000000
set_option maxRecDepth 40000
namespace Go.Proofs.YtpjaodcimomaiaaGreat
open Go.RowKit Go.Shelf Lin
variable {n V N k B b i L:Nat} {f:Nat->Rat} {w w' W W2:World} {zs:List Int} {bs:List Rat} {os rs:List (List Rat)} {X Y:Nat->Prop} {x:Int} {v':Value}
theorem zNv (h:∀ k,n<=k->f k=0):∀ d,sum (n+d) f=sum n f
 | 0=>rfl
 | d+1=>by
  show sum (n+d) f+f (n+d)=_;rw [zNv h d,h _ (by omega)]; grind
theorem zNP {r x:List Rat} (hr:r.length<=V) (hx:x.length<=V):dotL r x=sum V fun k=>r.getD k 0*x.getD k 0:=by
 unfold dotL
 have h:=zNv (f:=fun k=>r.getD k 0*x.getD k 0) (n:=min r.length x.length) (fun k hk=>by
  rcases Nat.le_total r.length x.length with h | h
  ·rw [Nat.min_eq_left h] at hk; show r.getD k 0*x.getD k 0=0; rw [zAw r _ _ hk]; grind
  ·rw [Nat.min_eq_right h] at hk; show r.getD k 0*x.getD k 0=0; rw [zAw x _ _ hk]; grind) (V-min r.length x.length)
 rw [<-h,show min r.length x.length+(V-min r.length x.length)=V by omega]
theorem vcmp_lexneg' {g:Nat->Rat} (h:LexPos N fun l=>g l-f l):vcmp f g N=-1:=by
 obtain ⟨i,hi,h1,h2⟩:=h;rw [zKr (x:=i) (fun j hj=>by have:=h2 j hj; grind) (by grind) hi];unfold qcmp; grind
section
variable {V:Nat} {os rs:List (List Rat)} {bs:List Rat} {zs:List Int}
theorem zNX {x y:List Rat} (hc:colsOf os<=V) (hx:x.length<=V) (hy:y.length<=V) (hm:max y.length x.length=V) :
  lpcmp os x y=vcmp (fun l=>(BPof V os rs bs zs).dot ((BPof V os rs bs zs).lev l) fun k=>x.getD k 0) (fun l=>(BPof V os rs bs zs).dot ((BPof V os rs bs zs).lev l) fun k=>y.getD k 0) (os.length+V):=by
 have e1:∀ z:List Rat,z.length<=V->∀ i,i<os.length->(BPof V os rs bs zs).dot ((BPof V os rs bs zs).lev i) (fun k=>z.getD k 0)=(os.map fun r=>dotL r z).getD i 0:=fun z hz i hi=>by
  rw [show (os.map fun r=>dotL r z).getD i 0=dotL (os.getD i []) z by simp [hi],zNP (zBT hc i) hz];refine zAh fun k hk=>?_
  show (if i<os.length then _ else _)*_=_;rw [if_pos hi]; rfl
 have e2:∀ z:List Rat,∀ i,i<V->(BPof V os rs bs zs).dot ((BPof V os rs bs zs).lev (os.length+i)) (fun k=>z.getD k 0)=- z.getD i 0:=fun z i hi=>BP.lev_x (B:=BPof V os rs bs zs) hi
 rw [zNV,zLg (n:=os.length) (e1 x hx) (e1 y hy),zLg (n:=V) (e2 x) (e2 y),zNW];unfold lpcmp;rw [hm]
theorem zN3 {x y:List Rat} (hc:colsOf os<=V) (hx:x.length<=V) (hy:y.length<=V) (hm:max y.length x.length=V) (h:(BPof V os rs bs zs).Le (fun k=>x.getD k 0) fun k=>y.getD k 0) (hk:k<V) (hne:x.getD k 0 ≠ y.getD k 0):lpcmp os x y<0:=by
 rw [zNX (rs:=rs) (bs:=bs) (zs:=zs) hc hx hy hm];rcases h with h | h
 ·have h1:=h (os.length+k) (by show os.length+k<os.length+V; omega);have e:=fun z:List Rat=>BP.lev_x (B:=BPof V os rs bs zs) (x:=fun k=>z.getD k 0) hk
  have h2:(BPof V os rs bs zs).dot ((BPof V os rs bs zs).lev ((BPof V os rs bs zs).K+k)) (fun k=>y.getD k 0)-(BPof V os rs bs zs).dot ((BPof V os rs bs zs).lev ((BPof V os rs bs zs).K+k)) (fun k=>x.getD k 0)=0:=h1;rw [e x,e y] at h2;exact absurd (by grind) hne
 ·have h':=vcmp_lexneg' h;rw [show os.length+V=(BPof V os rs bs zs).K+(BPof V os rs bs zs).V from rfl,h']; decide
theorem zOn {P:Nat->Prop}:(∀ i,i<(BPof V os rs bs zs).nb->P ((BPof V os rs bs zs).bin i)) ↔ ∀ z ∈ zs,P z.toNat:=by
 constructor
 ·intro h z hz;obtain ⟨i,hi,rfl⟩:=List.getElem_of_mem hz;have:=h i hi;show P (zs[i]).toNat;have e:zs.getD i 0=zs[i]:=by simp [gdd,hi]
  rw [<-e]; exact this
 ·intro h i hi;have hi':i<zs.length:=hi;have e:zs.getD i 0=zs[i]:=by simp [gdd,hi']
  show P (zs.getD i 0).toNat;rw [e]; exact h _ (List.getElem_mem hi')
theorem zOt {zs':List Int} (hm:∀ z:Int,z ∈ zs' ↔ z=k\/z ∈ zs) (x:Nat->Rat):(BPof V os rs bs zs').S x ↔ (BPof V os rs bs zs).S x/\(x k=0\/x k=1):=by
 have h1:=zOn (V:=V) (os:=os) (rs:=rs) (bs:=bs) (zs:=zs) (P:=fun i=>x i=0\/x i=1);have h2:=zOn (V:=V) (os:=os) (rs:=rs) (bs:=bs) (zs:=zs') (P:=fun i=>x i=0\/x i=1);constructor
 ·rintro ⟨hl,hb⟩;have h3:=h2.1 hb;exact ⟨⟨hl,h1.2 fun z hz=>h3 z ((hm z).2 (.inr hz))⟩,by simpa using h3 k ((hm k).2 (.inl rfl))⟩
 ·rintro ⟨⟨hl,hb⟩,hk⟩;have h3:=h1.1 hb;refine ⟨hl,h2.2 fun z hz=>?_⟩;rcases (hm z).1 hz with rfl | h
  ·simpa using hk
  ·exact h3 z h
theorem zOp {zs':List Int} (hm:∀ z:Int,z ∈ zs' ↔ z=k\/z ∈ zs) (h:(BPof V os rs bs zs').Ray):(BPof V os rs bs zs).Ray:=by
 obtain ⟨d,h1,h2,h3,h4⟩:=h;have g:=(zOn (V:=V) (os:=os) (rs:=rs) (bs:=bs) (zs:=zs') (P:=fun i=>d i=0)).1 h3;exact ⟨d,h1,h2,(zOn (V:=V) (os:=os) (rs:=rs) (bs:=bs) (zs:=zs) (P:=fun i=>d i=0)).2 fun z hz=>g z ((hm z).2 (.inr hz)),h4⟩
end
open Go.RowKit Go.Shelf
abbrev Box5 (W:World) (b:Nat) (v0 v1 v2 v3 v4:Value):Prop:=
 W.cell? ⟨b,0,none⟩=some v0/\W.cell? ⟨b,1,none⟩=some v1/\W.cell? ⟨b,2,none⟩=some v2/\W.cell? ⟨b,3,none⟩=some v3/\W.cell? ⟨b,4,none⟩=some v4/\(∀ o,W.frozen? ⟨b,o,none⟩=false)
theorem Box5.below {v0 v1 v2 v3 v4:Value} (h:Box5 w b v0 v1 v2 v3 v4) (hb:Below B w w') (hlt:b<B):Box5 w' b v0 v1 v2 v3 v4:=
 ⟨by rw [hb.cell hlt]; exact h.1,by rw [hb.cell hlt]; exact h.2.1,by rw [hb.cell hlt]; exact h.2.2.1,by rw [hb.cell hlt]; exact h.2.2.2.1,by rw [hb.cell hlt]; exact h.2.2.2.2.1,fun o=>by rw [hb.frozen hlt]; exact h.2.2.2.2.2 o⟩
structure BinF (w:World) (b:BinV) (V:Nat) (os rs:List (List Rat)) (bs:List Rat) (zs:List Int):Prop where
 n:b.p.n=V
 V4:V<=4
 o1:1<=b.p.O.n
 o2:b.p.O.n<=4
 r:b.p.R.n<=5
 bn:b.p.B.n=b.p.R.n
 co:colsOf os<=V
 cr:colsOf rs<=V
 lp:LPIs w AllB AllB 8 b.p os rs bs
 z:IntsAt w b.bin zs
 z4:zs.length<=4
 zok:∀ i,i<zs.length->ZOk V zs i
theorem BinF.below {b:BinV} (h:BinF w b V os rs bs zs) (hb:Below w.heap.size w w'):BinF w' b V os rs bs zs:=
 ⟨h.n,h.V4,h.o1,h.o2,h.r,h.bn,h.co,h.cr,h.lp.below hb,h.z.below hb,h.z4,h.zok⟩
theorem zN9 {V:Int} (h:∀ i,i<zs.length->ZOk V zs i) :∀ j,i<j->j<zs.length->zs.getD i 0<zs.getD j 0
 | 0,h1,_=>absurd h1 (Nat.not_lt_zero i)
 | j+1,h1,h2=>by
  have h3:=(h (j+1) h2).2.2 (by omega);rw [Nat.add_sub_cancel] at h3;by_cases e:i=j
  ·subst e; exact h3
  ·exact Int.lt_trans (zN9 h j (by omega) (by omega)) h3
theorem zOi (h:∀ i,i<zs.length->ZOk V zs i):(BPof V os rs bs zs).Ok:=
 ⟨fun i hi=>by
  have hi':i<zs.length:=hi;obtain ⟨h1,h2,-⟩:=h i hi';show (zs.getD i 0).toNat<V;omega,fun i j hij hj=>by
  have hj':j<zs.length:=hj;obtain ⟨h1,-,-⟩:=h i (by omega);have h2:=zN9 h j hij hj';show (zs.getD i 0).toNat<(zs.getD j 0).toNat;omega⟩
theorem BinF.sok {b:BinV} (h:BinF w b V os rs bs zs):SoK (BPof V os rs bs zs) 905000:=by
 have hV:=h.V4
 have hq:bqk V 288<=904500:=by
  have h5:5 ^ V<=625:=nlt (Nat.pow_le_pow_right (by decide) hV) (by decide);have h6:V*(288+1)<=4*289:=Nat.mul_le_mul_right _ hV;have:=Nat.mul_le_mul h5 (show 288+V*(288+1)+1<=1445 by omega);unfold bqk; omega
 have hr:=h.lp.rows.len;have hr5:=h.r;have hz:=h.z4;have hmn:(rs.length+zs.length)*(2*bqk V 288+1)<=9*1809001:=Nat.mul_le_mul (by omega) (by omega);refine SoK.of (k:=288) (by decide) (fun i v _=>zAR (h.lp.rows.fit i v)) (fun i _=>zAR (h.lp.bounds.fit i)) (fun l v _=>zAR (h.lp.obj.fit l v)) ?_ (by decide) (by rw [zAZ]; decide) (by rw [zAZ]; decide) ?_ ?_
 ·show bqk V 288+1<=_; omega
 ·show (rs.length+zs.length)*(2*bqk V 288+1)+bqk V 288+2<=_;rw [zAZ]; omega
 ·show 2*bqk V 288+1<=_;rw [zAZ]; omega
theorem BinF.solve {b:BinV} (h:BinF w b V os rs bs zs):Calls Tryz.prog 16 #[b.val] w (BSoRet w 905000 (BPof V os rs bs zs)):=
 zLk h.lp h.n (by have:=h.V4; omega) h.o1 h.o2 (by have:=h.r; omega) h.bn h.co h.cr h.z (by have:=h.z4; omega) (fun i hi=>(h.zok i hi).1) (zOi h.zok) h.sok
theorem BSoRet.code {B:Lin.BP} {e:Ending} (h:BSoRet w L B e w'):Below w.heap.size w w':=by
 obtain ⟨_,_,_,_,hb,_⟩:=h; exact hb
theorem LPRaw.raw2 {p:LPV} (h:LPRaw w X (QAny w Y) p os rs bs) (hb:Below w.heap.size w w'):LPRaw w' X (fun _ _=>True) p os rs bs:=
 ⟨(h.obj.belowA hb).imp (fun _ _ h=>h) fun _ _ _=>trivial,(h.rows.belowA hb).imp (fun _ _ h=>h) fun _ _ _=>trivial,(h.bounds.belowA hb).imp (fun _ _ h=>h) fun _ _ _=>trivial⟩
def insS (k:Int) (s:List Int × Bool) (z:Int):List Int × Bool:=if k<z/\s.2=false then (s.1++[k,z],true) else (s.1++[z],s.2)
def insF (k:Int) (zs:List Int):List Int × Bool:=zs.foldl (insS k) ([],false)
def insK (k:Int) (zs:List Int):List Int:=if (insF k zs).2=true then (insF k zs).1 else (insF k zs).1++[k]
theorem zOm {k:Int} (hi:i<zs.length):insF k (zs.take (i+1))=insS k (insF k (zs.take i)) (zs.getD i 0):=by
 have e:zs.take (i+1)=zs.take i++[zs.getD i 0]:=by
  rw [List.take_add_one,gge hi];simp [gdd,hi]
 rw [e];unfold insF;rw [List.foldl_append]; rfl
theorem zok1 {V a:Int} (h0:0<=a) (h1:a<V):∀ i,i<[a].length->ZOk V [a] i:=fun i hi=>by
 obtain rfl:i=0:=by simp at hi; omega
 exact ⟨h0,h1,fun h=>by omega⟩
theorem zok2 {V a b:Int} (h0:0<=a) (h1:a<b) (h2:b<V):∀ i,i<[a,b].length->ZOk V [a,b] i:=fun i hi=>by
 have hi':i<2:=hi;rcases (show i=0\/i=1 by omega) with rfl | rfl
 ·exact ⟨h0,by show a<V; omega,fun h=>by omega⟩
 ·exact ⟨by show 0<=b; omega,h2,fun _=>h1⟩
theorem zok3 {V a b c:Int} (h0:0<=a) (h1:a<b) (h2:b<c) (h3:c<V):∀ i,i<[a,b,c].length->ZOk V [a,b,c] i:=fun i hi=>by
 have hi':i<3:=hi;rcases (show i=0\/i=1\/i=2 by omega) with rfl | rfl | rfl
 ·exact ⟨h0,by show a<V; omega,fun h=>by omega⟩
 ·exact ⟨by show 0<=b; omega,by show b<V; omega,fun _=>h1⟩
 ·exact ⟨by show 0<=c; omega,h3,fun _=>h2⟩
theorem zOs {V k:Int} (hl:zs.length<=2) (hz:∀ i,i<zs.length->ZOk V zs i) (h0:0<=k) (h1:k<V) (hn:∀ j,j<zs.length->zs.getD j 0 ≠ k) :
  (insK k zs).length<=4/\(∀ i,i<(insK k zs).length->ZOk V (insK k zs) i)/\∀ z,z ∈ insK k zs ↔ z=k\/z ∈ zs:=by
 match zs,hl,hz,hn with
 | [],_,_,_=>exact ⟨by simp [insK,insF],zok1 h0 h1,fun z=>by simp [insK,insF]⟩
 | [a],_,hz,hn=>
  obtain ⟨a0,a1,-⟩:=hz 0 (by simp);have na:a ≠ k:=hn 0 (by simp);replace a0:0<=a:=a0;replace a1:a<V:=a1;by_cases h:k<a
  ·have e:insK k [a]=[k,a]:=(by simp [insK,insF,insS,h]);rw [e];exact ⟨by simp,zok2 h0 h a1,fun z=>by simp⟩
  ·have e:insK k [a]=[a,k]:=(by simp [insK,insF,insS,h]);rw [e]
   exact ⟨by simp,zok2 a0 (by omega) h1,fun z=>by simp [or_comm]⟩
 | [a,b],_,hz,hn=>
  obtain ⟨a0,a1,-⟩:=hz 0 (by simp);obtain ⟨b0,b1,b2⟩:=hz 1 (by simp);have na:a ≠ k:=hn 0 (by simp);have nb:b ≠ k:=hn 1 (by simp);replace a0:0<=a:=a0;replace a1:a<V:=a1;replace b1:b<V:=b1;replace b2:a<b:=b2 (by decide);by_cases h:k<a
  ·have e:insK k [a,b]=[k,a,b]:=(by simp [insK,insF,insS,h]);rw [e];exact ⟨by simp,zok3 h0 h b2 b1,fun z=>by simp⟩
  ·by_cases h':k<b
   ·have e:insK k [a,b]=[a,k,b]:=(by simp [insK,insF,insS,h,h']);rw [e]
    exact ⟨by simp,zok3 a0 (by omega) h' b1,fun z=>by
     simp only [List.mem_cons,List.not_mem_nil,or_false];constructor <;> (rintro (h | h | h) <;> simp [h])⟩
   ·have e:insK k [a,b]=[a,b,k]:=(by simp [insK,insF,insS,h,h']);rw [e]
    exact ⟨by simp,zok3 a0 b2 (by omega) h1,fun z=>by
     simp only [List.mem_cons,List.not_mem_nil,or_false]
     constructor <;> (rintro (h | h | h) <;> simp [h])⟩
 | _ :: _ :: _ :: _,hl,_,_=>simp at hl
theorem zOu {zs':List Int} {x:Nat->Rat} (hc:colsOf os<=V) (hm:∀ z:Int,z ∈ zs' ↔ z=k\/z ∈ zs) (hk:k<V) (hx:(BPof V os rs bs zs).S x) (hr:¬ (BPof V os rs bs zs).Ray) (hb:∀ y,(BPof V os rs bs zs).S y->(BPof V os rs bs zs).Le y x)
  {e:Ending} (h:BSoRet w L (BPof V os rs bs zs') e w') :
  ((x k=0\/x k=1)/\∃ (v:SV) (s:Nat),e = .returned (.tuple #[v.val,.int .i64 (s:Int),.int .i64 0])/\VecIs w' (fun _=>True) (fun _=>True) L v ((List.range V).map x))\/
  (¬ (x k=0\/x k=1)/\((∃ (v:SV) (s:Nat),e = .returned (.tuple #[v.val,.int .i64 (s:Int),.int .i64 8]))\/∃ (v:SV) (s:Nat) (y:Nat->Rat),e = .returned (.tuple #[v.val,.int .i64 (s:Int),.int .i64 0])/\VecIs w' (fun _=>True) (fun _=>True) L v ((List.range V).map y)/\lpcmp os ((List.range V).map y) ((List.range V).map x)<0)):=by
 have eS:=zOt (V:=V) (os:=os) (rs:=rs) (bs:=bs) hm;have hcg:∀ y:Nat->Rat,∀ k,k<V->((List.range V).map y).getD k 0=y k:=fun y k hk=>zAS _ _ hk
 obtain ⟨v,s,c,rfl,hbl,h⟩:=h;by_cases hle:x k=0\/x k=1
 ·refine .inl ⟨hle,?_⟩;have hxS:=(eS x).2 ⟨hx,hle⟩;rcases h with ⟨rfl,-,-,y,hy,-,hby,hv,-⟩ | ⟨-,-,-,hno⟩ | ⟨-,-,-,hray,-⟩
  ·refine ⟨v,s,rfl,?_⟩;have h1:(BPof V os rs bs zs).Le x y:=hby x hxS;have h2:=hb y ((eS y).1 hy).1;have e:(List.range V).map y=(List.range V).map x:=List.map_congr_left fun k hk=>(h2.antisymm h1 (List.mem_range.1 hk))
   rw [<-e]; exact hv
  ·exact absurd hxS (hno x)
  ·exact absurd (zOp hm hray) hr
 ·refine .inr ⟨hle,?_⟩;rcases h with ⟨rfl,-,-,y,hy,-,hby,hv,-⟩ | ⟨rfl,-,-,hno⟩ | ⟨-,-,-,hray,-⟩
  ·refine .inr ⟨v,s,y,rfl,hv,?_⟩;have hyS:=(eS y).1 hy;have h2:=hb y hyS.1;refine zN3 (rs:=rs) (bs:=bs) (zs:=zs) (k:=k) hc (by simp) (by simp) (by simp) (h2.congr (fun k hk=>(hcg y k hk).symm) fun k hk=>(hcg x k hk).symm) hk ?_;rw [hcg y k hk,hcg x k hk];intro e; rw [e] at hyS; exact hle hyS.2
  ·exact .inl ⟨v,s,rfl⟩
  ·exact absurd (zOp hm hray) hr
theorem zOr {zs':List Int} (hm:∀ z:Int,z ∈ zs' ↔ z=k\/z ∈ zs) (hno:∀ x,¬ (BPof V os rs bs zs).S x) {e:Ending} (h:BSoRet w L (BPof V os rs bs zs') e w') :
  ∃ (v:SV) (s:Nat),e = .returned (.tuple #[v.val,.int .i64 (s:Int),.int .i64 8]):=by
 have eS:=zOt (V:=V) (os:=os) (rs:=rs) (bs:=bs) hm;obtain ⟨v,s,c,rfl,hbl,⟨-,-,-,y,hy,-⟩ | ⟨rfl,-⟩ | ⟨-,-,-,-,y,hy⟩⟩:=h
 ·exact absurd ((eS y).1 hy).1 (hno y)
 ·exact ⟨v,s,rfl⟩
 ·exact absurd ((eS y).1 hy).1 (hno y)
theorem zOq {B:Lin.BP} {e:Ending} (h:BSoRet w L B e w'):∃ (v:SV) (s c:Nat),e = .returned (.tuple #[v.val,.int .i64 (s:Int),.int .i64 (c:Int)])/\(c=0\/c=8\/c=9):=by
 obtain ⟨v,s,c,rfl,hbl,⟨rfl,-⟩ | ⟨rfl,-⟩ | ⟨rfl,-⟩⟩:=h
 ·exact ⟨v,s,0,rfl,.inl rfl⟩
 ·exact ⟨v,s,8,rfl,.inr (.inl rfl)⟩
 ·exact ⟨v,s,9,rfl,.inr (.inr rfl)⟩
abbrev ivz (l:List Int):List Value:=l.map fun z=>.int .i64 z
theorem Box5.heap {v0 v1 v2 v3 v4:Value} (h:Box5 w b v0 v1 v2 v3 v4) (e:w'.heap[b]?=w.heap[b]?):Box5 w' b v0 v1 v2 v3 v4:=
 ⟨(cob (a:=⟨b,0,none⟩) e).trans h.1,(cob (a:=⟨b,1,none⟩) e).trans h.2.1,(cob (a:=⟨b,2,none⟩) e).trans h.2.2.1,(cob (a:=⟨b,3,none⟩) e).trans h.2.2.2.1,(cob (a:=⟨b,4,none⟩) e).trans h.2.2.2.2.1,fun o=>(World.frozen?_of_block (a:=⟨b,o,none⟩) e).trans (h.2.2.2.2.2 o)⟩
structure RsI (w:World) (cb:Nat) (c0 c1 c2 c3 c4:Value) (l:List Int) (vr:Value) (W:World):Prop where
 bel:Below w.heap.size w W
 hc:w.heap.size<cb
 box:Box5 W w.heap.size c0 c1 c2 c3 c4
 cbx:W.heap[cb]?=some (.cells #[c0,c1,c2,c3,vr] 31 (0,0))
 own:W.ownsRow (cb+1) 3 1 vr l.length (ivz l)
theorem RsI.push {cb:Nat} {c0 c1 c2 c3 c4 vr:Value} {l:List Int} {ob:Obj} (h:RsI w cb c0 c1 c2 c3 c4 l vr W) (hown:W2.ownsRow (cb+1) 3 1 v' (l.length+1) (ivz l++[.int .i64 x])) (hg:(W.alloc ob).grownBy W2 vr.ownBlock) (h1:∀ j,v'.ownBlock=some j->cb+1<=j) :
  RsI w cb c0 c1 c2 c3 c4 (l++[x]) v' (W2.setCell ⟨cb,4,none⟩ v'):=by
 have hcl:=zAa h.cbx
 have hlow:∀ y,y<=cb->W2.heap[y]?=W.heap[y]?:=fun y hy=>(hg.block y (by simp; omega) fun e=>by
  have:=(zAc h.own e.symm).1; omega).trans (Below.heap_alloc _ _ _ (by omega))
 have k1:W2.heap[cb]?=_:=(hlow cb (nlr _)).trans h.cbx;have hsz:=hg.size
 have hF:Fr (fun y=>w.heap.size<=y) W (W2.setCell ⟨cb,4,none⟩ v'):=by
  have hF1:Fr (fun y=>w.heap.size<=y) W W2:=⟨hg.os,hg.tape,hg.output,by simp at hsz; omega,fun b hb hn=>(hg.block b (by simp; omega) fun e=>by have:=(zAc h.own e.symm).1; have:=h.hc; omega).trans (Below.heap_alloc _ _ _ hb)⟩;exact hF1.set (p:=⟨cb,4,none⟩) (Nat.le_of_lt h.hc) _
 refine ⟨h.bel.trans (hF.below h.bel.size fun y e=>e),h.hc,h.box.heap ((bhs _ _ _ _ (by show w.heap.size ≠ cb; have:=h.hc; omega)).trans (hlow _ (Nat.le_of_lt h.hc))),?_,?_⟩
 ·rw [zAe _ k1]; simp
 ·rw [List.length_append,List.length_singleton,show ivz (l++[x])=ivz l++[.int .i64 x] by simp [ivz]];exact zAr hown fun j hj=>bhs _ _ _ _ (by have:=h1 j hj; show j ≠ cb; omega)
def RsL (w:World) (cb:Nat) (c0 c1 c2 c3 c4:Value) (k:Int) (zs:List Int) (t u:Value) (W:World):Prop:=
 ∃ (i:Nat) (l:List Int) (d:Bool) (vr:Value),i<=zs.length/\t = .bool d/\u = .int .i64 (i:Int)/\insF k (zs.take i)=(l,d)/\(∀ j,j<i->zs.getD j 0 ≠ k)/\(l.length<=i+1/\(d=false->l.length<=i))/\RsI w cb c0 c1 c2 c3 c4 l vr W
theorem zOl {b:BinV} {which:Nat} (h:LPRaw w AllB (QAny w AllB) b.p os rs bs) (hzs:IntsAt w b.bin zs) (hwh:which<256) :
  Calls Tryz.prog 5 #[b.val,.int .u8 which] w fun e w'=>e = .returned (.bool true)/\Below w.heap.size w w':=by
 obtain ⟨⟨n,⟨oA,on,oc⟩,⟨rA,rn,rc⟩,⟨bA,bn,bc⟩⟩,⟨iA,iN,ic⟩⟩:=b;have hi1:iN<=ic:=hzs.le;have hi2:ic<=9223372036854775807:=hzs.cap;have hzl:zs.length=iN:=hzs.len;have HZl:=hdq hzl;replace h:=hdq h;replace hzs:=hdq hzs;clear hzl;dsimp only [BinV.val,LPV.val,SV.val] at *;go_enter Tryz.func5,Tryz.ntmps5
 go_upto_region 1 with fail
 refine zAo (fun W=>Below w.heap.size w W/\Box5 W w.heap.size (.int .i64 n) (.slice oA on oc) (.slice rA rn rc) (.slice bA bn bc) (.slice iA iN ic)/\w.heap.size<W.heap.size) ⟨((brf _ _).alloc (by simp <;> omega) _),⟨by go_simp,by go_simp,by go_simp,by go_simp,by go_simp,by intro o; go_simp⟩,by simp <;> omega⟩ ?_;rintro W ⟨hbW,bP,s0⟩;have hBW:=hbW.size;obtain ⟨p0,p1,p2,p3,p4,-⟩:=id bP;clear hBW;go_wp2_with fail
 refine (zNL (b:=⟨⟨n,⟨oA,on,oc⟩,⟨rA,rn,rc⟩,⟨bA,bn,bc⟩⟩,⟨iA,iN,ic⟩⟩) (h.out.below hbW) (by show iN<=_; omega)).mono ?_;rintro e w1 ⟨⟨c,rfl,hbb⟩,hb1⟩
 cases c with
 | true=>
  clear hbb;replace bP:=bP.below hb1 s0;replace s0:=ltl s0 hb1.size;replace hbW:=hbW.trans (hb1.mono hbW.size);clear p0 p1 p2 p3 p4;obtain ⟨p0,p1,p2,p3,p4,-⟩:=id bP;go_wp2_with fail
  refine zLi.mono ?_;rintro e wl ⟨rfl,hbl⟩;have hbf:=hbW.trans (hbl.mono hbW.size);go_wp2;go_ret
  exact ⟨rfl,hbf⟩
 | false=>
  have HS:=hdq (And.intro (Short6.back h.out hbW (hbb rfl).1) (hbb rfl).2);clear hbb;replace bP:=bP.below hb1 s0;replace s0:=ltl s0 hb1.size;replace hbW:=hbW.trans (hb1.mono hbW.size);clear p0 p1 p2 p3 p4;obtain ⟨p0,p1,p2,p3,p4,-⟩:=id bP;go_wp2_with fail
  refine (zNN (b:=⟨⟨n,⟨oA,on,oc⟩,⟨rA,rn,rc⟩,⟨bA,bn,bc⟩⟩,⟨iA,iN,ic⟩⟩) (fun w' hb=>(h.out.below hbW).raw2 hb) (hzs.out.below hbW)).mono ?_;rintro e w2 ⟨⟨c,rfl,hmm⟩,hb2⟩;replace bP:=bP.below hb2 s0;replace s0:=ltl s0 hb2.size;replace hbW:=hbW.trans (hb2.mono hbW.size);clear p0 p1 p2 p3 p4;obtain ⟨p0,p1,p2,p3,p4,-⟩:=id bP
  cases c with
  | false=>
   clear hmm;(go_wp2_with fail);refine zLi.mono ?_;rintro e wl ⟨rfl,hbl⟩;have hbf:=hbW.trans (hbl.mono hbW.size);go_wp2;go_ret
   exact ⟨rfl,hbf⟩
  | true=>
   have HMy:=hdq (hmm rfl);clear hmm hb1 hb2;by_cases h3:2<iN
   ·have h3':(2:Int)<(iN:Int):=(by omega);(go_wp2_with fail);refine zLi.mono ?_;rintro e wl ⟨rfl,hbl⟩;have hbf:=hbW.trans (hbl.mono hbW.size);go_wp2;go_ret;exact ⟨rfl,hbf⟩
   ·have h3':¬ (2:Int)<(iN:Int):=(by omega);have HF:=hdq (zHY HS.out.1 HS.out.2 HMy.out.1);obtain ⟨V,rfl⟩:∃ V:Nat,n=V:=⟨n.toNat,by have:=HF.out.1; show n=(n.toNat:Int); simp only at this; omega⟩;have HFb:Hid (BinF w ⟨⟨V,⟨oA,on,oc⟩,⟨rA,rn,rc⟩,⟨bA,bn,bc⟩⟩,⟨iA,iN,ic⟩⟩ V os rs bs zs):=hdq ⟨rfl,by have:=HF.out.2.1; show V<=4; simp only at this; omega,HF.out.2.2.1,HF.out.2.2.2.1,by have:=HF.out.2.2.2.2.1; show rn<=5; simp only at this; omega,HF.out.2.2.2.2.2.1,by have:=HF.out.2.2.2.2.2.2.1; show colsOf os<=V; simp only at this; omega,by have:=HF.out.2.2.2.2.2.2.2.1; show colsOf rs<=V; simp only at this; omega,HF.out.2.2.2.2.2.2.2.2.more (by decide),hzs.out,by rw [HZl.out]; omega,HMy.out.2.2⟩;have hV4:V<=4:=HFb.out.V4;clear HF HS HMy h;by_cases hV0:V=0
    ·subst hV0;(go_wp2_with fail);refine zLi.mono ?_;rintro e wl ⟨rfl,hbl⟩;have hbf:=hbW.trans (hbl.mono hbW.size);go_wp2;go_ret;exact ⟨rfl,hbf⟩
    ·have hV0':¬ ((V:Int)=0):=(by omega);have hV0b:((V:Int) == 0)=false:=by simp; omega
     have hkV:which % V<V:=Nat.mod_lt _ (by omega);(go_upto_region 4 with fail);obtain ⟨k,hk⟩:∃ k:Nat,(which:Int) % (V:Int)=(k:Int):=⟨which % V,by simp⟩;have hk1:k<V:=by have:=Int.emod_lt_of_pos (which:Int) (show (0:Int)<(V:Int) by omega); omega
     rw [hk];clear hk hkV;have HK:=hdq hk1;have hsz2:w.heap.size<w2.heap.size:=s0;clear hk1;go_wp2;have alc:Below w2.heap.size w2 (w2.alloc (.cells #[.int .i64 V,.slice oA on oc,.slice rA rn rc,.slice bA bn bc,.slice none 0 0] 31)):=(brf _ _).alloc (nlr _) _
     have H0:RsL w w2.heap.size (.int .i64 V) (.slice oA on oc) (.slice rA rn rc) (.slice bA bn bc) (.slice iA iN ic) k zs (.bool false) (.int .i64 0) (w2.alloc (.cells #[.int .i64 V,.slice oA on oc,.slice rA rn rc,.slice bA bn bc,.slice none 0 0] 31)):=
      ⟨0,[],false,.slice none 0 0,nzl _,rfl,rfl,rfl,fun j hj=>absurd hj (Nat.not_lt_zero j),⟨nzl _,fun _=>nlr _⟩,hbW.trans (alc.mono hbW.size),hsz2,bP.below alc s0,zAd _ _ rfl,World.ownsRow_nil _ _ _ _⟩
     generalize w2.alloc (.cells #[.int .i64 V,.slice oA on oc,.slice rA rn rc,.slice bA bn bc,.slice none 0 0] 31)=W3 at *;generalize w2.heap.size=cb at *;clear alc bP p0 p1 p2 p3 p4 hbW s0;(go_loopw [7,8] (fun t u W=>RsL w cb (.int .i64 V) (.slice oA on oc) (.slice rA rn rc) (.slice bA bn bc) (.slice iA iN ic) k zs t u W) (fun _ u _=>iN-(intOf u).toNat));case atStart=>exact H0
     case round=>
      clear H0;obtain ⟨i,l,d,vr,hi,rfl,rfl,hins,hne,hlen,hR⟩:=hrel;obtain ⟨uA,uc,rfl,ho1,ho2⟩:=zKU hR.own;by_cases hlt:i<iN
      ·have hki:(i:Int)<(iN:Int):=(by omega);obtain ⟨ad,ea,hcell⟩:=hzs.out.cell i hlt;cases ea;obtain ⟨z,hz⟩:∃ z,zs.getD i 0=z:=⟨_,rfl⟩;rw [hz] at hcell;have HZ:=hdq hz;have cz0:wr.cell? (ad.add i)=some (.int .i64 z):=(hR.bel.cell (zAb hcell)).trans hcell;have HI2:=hdq (And.intro hins (And.intro hne hlen));clear hz hins hne hlen;by_cases hzk:z=(k:Int)
       ·have hbk:(z == (k:Int))=true:=(by simp [hzk]);obtain ⟨p0,p1,p2,p3,p4,-⟩:=id hR.box;have hbW:=hR.bel;clear hR hzk;(go_wp2_with fail);refine zLi.mono ?_;rintro e wl ⟨rfl,hbl⟩;have hbf:=hbW.trans (hbl.mono hbW.size);go_wp2;go_ret;exact ⟨rfl,hbf⟩
       ·have hbk:(z == (k:Int))=false:=(by simp [hzk]);have HZK:=hdq hzk;clear hzk;by_cases hg:(k:Int)<z
        ·cases d with
         | false=>
          obtain ⟨p0,p1,p2,p3,p4,-⟩:=id hR.box;have c4:wr.cell? ⟨cb,4,none⟩=some (.slice uA l.length uc):=(by simp [World.cell?,hR.cbx]);have hcl:=zAa hR.cbx;have hcw:=hR.hc;have hl3:l.length<=3:=by have:=HI2.out.2.2.1; omega
          have hadb:(ad.add i).block<w.heap.size:=zAb hcell;have hbw:=hR.bel.size;have HR:=hdq hR;clear hR;obtain ⟨i0,hiI,hz0,hz1,hz2⟩:=info_parts zG1;(go_wp2_with (at_builtin; refine wpList_append_own_at _ rfl _ _ 29 rfl (cb+1) 3 i0 (.int .i64 0) 1 8 Tryz.underlying29 hiI hz0 hz1 hz2 rfl (by decide) (.slice uA l.length uc) l.length (ivz l) rfl (HR.out.own.alloc _) ⟨wr.heap.size,0,none⟩ 1 1 [.int .i64 (k:Int)] rfl rfl ?cells ?one ?b1 ?b2 ?b3 ?_));case one=>rfl
          case b1=>simp [maxLen]; omega
          case b2=>omega
          case b3=>first | omega | (simp; omega)
          intro v' W5 hown5 hg5 hnil5 hat5;obtain ⟨g5,c5,rfl⟩:=ownsRow_succ hown5;have hlow:∀ y,y<=cb->W5.heap[y]?=wr.heap[y]?:=(fun y hy=>(hg5.block y (by simp; omega) fun e=>by have:=(zAc HR.out.own e.symm).1; omega).trans (Below.heap_alloc _ _ _ (by omega)));have d4:W5.cell? ⟨cb,4,none⟩=some (.slice uA l.length uc):=(cob (a:=⟨cb,4,none⟩) (hlow _ (nlr _))).trans c4;have df:∀ o,W5.frozen? ⟨cb,o,none⟩=false:=(fun o=>(World.frozen?_of_block (a:=⟨cb,o,none⟩) (hlow _ (nlr _))).trans (by simp [World.frozen?,HR.out.cbx]));have hR6:=HR.out.push hown5 hg5 fun j hj=>(zAc hown5 hj).1
          have HR6:=hdq hR6;clear p0 p1 p2 p3 p4 c4 hown5 hg5 hnil5 hat5 hlow hR6 HR hcl hbw;(go_upto_region 13 with fail);clear d4 df;have hR:=HR6.out;clear HR6;generalize W5.setCell ⟨cb,4,none⟩ (.slice (some ⟨g5,0,none⟩) (l.length+1) c5)=W6 at *;obtain ⟨L,hL⟩:∃ L,L=l++[(k:Int)]:=⟨_,rfl⟩;have hLl:l.length+1=L.length:=by rw [hL]; simp
          rw [<-hL,hLl] at hR
          have hins':insF k (zs.take (i+1))=(L++[z],true):=by
           rw [zOm (by rw [HZl.out]; exact hlt),HI2.out.1,HZ.out,hL]; simp [insS,hg]
          have HLn:Hid ((L++[z]).length<=i+1+1/\(true=false->(L++[z]).length<=i+1)):=hdq ⟨by have:=HI2.out.2.2.2 (by simp); rw [List.length_append,<-hLl,List.length_singleton]; omega,fun h=>by cases h⟩;rw [hLl];clear hL hLl;generalize some (⟨g5,0,none⟩:Addr)=uA at *;generalize c5=uc at *;have Hin:=hdq hins';clear hins';obtain ⟨p0,p1,p2,p3,p4,-⟩:=id hR.box;have c4:W6.cell? ⟨cb,4,none⟩=some (.slice uA L.length uc):=(by simp [World.cell?,hR.cbx]);have cz:W6.cell? (ad.add i)=some (.int .i64 z):=(hR.bel.cell (zAb hcell)).trans hcell;have hcl:=zAa hR.cbx;have hcw:=hR.hc;have hadb:(ad.add i).block<w.heap.size:=zAb hcell;have hbw:=hR.bel.size;have HR:=hdq hR;clear hR;(go_upto_region 14 with fail);refine zAp 8 (fun f w'=>(w'.cell? ⟨w.heap.size,4,none⟩=some (.slice (some ad) iN ic)/\w'.cell? (ad.add i)=some (.int .i64 z))/\(f=false->w'.cell? ⟨cb,4,none⟩=some (.slice uA L.length uc))) (by kernel_rfl) ?_;have hS0:(W6.drew.cell? ⟨w.heap.size,4,none⟩=some (.slice (some ad) iN ic)/\W6.drew.cell? (ad.add i)=some (.int .i64 z))/\(false=false->W6.drew.cell? ⟨cb,4,none⟩=some (.slice uA L.length uc)):=⟨⟨p4,cz⟩,fun _=>c4⟩;refine tkE 0 (.pointer (some ⟨cb,4,none⟩)) (fun w' hSw=>?_) (hS0) ?_
          ·go_simp
          simp only [zz];refine tkW 1 (.slice uA L.length uc) (fun w' hSw=>?_) (hS0) ?_
          ·have:=hSw.2 rfl; go_simp
          simp only [zz];refine tkE 2 (.pointer (some ⟨w.heap.size,4,none⟩)) (fun w' hSw=>?_) (hS0) ?_
          ·go_simp
          simp only [zz];refine tkE 3 (.slice (some ad) iN ic) (fun w' hSw=>?_) (hS0) ?_
          ·obtain ⟨_,⟨z0,z1⟩,_⟩:=hSw; go_simp
          simp only [zz];refine tkE 4 (.int .i64 (i:Int)) (fun w' hSw=>?_) (hS0) ?_
          ·go_simp
          simp only [zz];refine tkE 5 (.pointer (some (ad.add i))) (fun w' hSw=>?_) (hS0) ?_
          ·go_simp
          simp only [zz];refine tkE 6 (.int .i64 z) (fun w' hSw=>?_) (hS0) ?_
          ·obtain ⟨_,⟨z0,z1⟩,_⟩:=hSw; go_simp
          simp only [zz];refine tk1 7 ?_;intro K hK;go_simp;have al:Below W6.heap.size W6 (W6.alloc (.cells #[.int .i64 z] 3)).drew:=((brf _ _).alloc (nlr _) _).drew;refine hK.out _ _ ⟨⟨(al.cell (p:=⟨w.heap.size,4,none⟩) (by show w.heap.size<_; omega)).trans p4,(al.cell (p:=ad.add i) (by omega)).trans cz⟩,fun _=>(al.cell (p:=⟨cb,4,none⟩) hcl).trans c4⟩ ?_;clear hK K;refine tk1 8 ?_;intro K hK;obtain ⟨i0,hiI,hz0,hz1,hz2⟩:=info_parts zG1;have hlen3:L.length<=3:=by have h2:=HLn.out.1; rw [List.length_append,List.length_singleton] at h2; omega
          refine zAq _ _ 29 rfl (cb+1) 3 i0 (.int .i64 0) 1 8 Tryz.underlying29 hiI hz0 hz1 hz2 rfl (by decide) (.slice uA L.length uc) L.length (ivz L) rfl (HR.out.own.alloc _) ⟨W6.heap.size,0,none⟩ 1 1 [.int .i64 z] rfl rfl (cell_one_new _ _ _) (by intro u hu; simp at hu; subst hu; rfl) (by simp [maxLen]; omega) (by omega) (by simp; omega) ?_;intro v' W5 hown5 hg5 hnil5 hat5;obtain ⟨g5,c5,rfl⟩:=ownsRow_succ hown5;have hgx:(W6.alloc (.cells #[.int .i64 z] 3)).grownBy W5 (Value.slice uA L.length uc).ownBlock:=⟨hg5.1,hg5.2,hg5.3,hg5.size,hg5.block⟩;have hlow:∀ y,y<=cb->W5.heap[y]?=W6.heap[y]?:=(fun y hy=>(hg5.block y (by simp; omega) fun e=>by have:=(zAc HR.out.own e.symm).1; omega).trans (Below.heap_alloc _ _ _ (by omega)));have q4:W5.cell? ⟨w.heap.size,4,none⟩=some (.slice (some ad) iN ic):=(cob (a:=⟨w.heap.size,4,none⟩) (hlow _ (by show w.heap.size<=cb; omega))).trans p4;have qz:W5.cell? (ad.add i)=some (.int .i64 z):=(cob (a:=ad.add i) (hlow _ (by omega))).trans cz;have d4:W5.cell? ⟨cb,4,none⟩=some (.slice uA L.length uc):=(cob (a:=⟨cb,4,none⟩) (hlow _ (nlr _))).trans c4;have df:∀ o,W5.frozen? ⟨cb,o,none⟩=false:=fun o=>(World.frozen?_of_block (a:=⟨cb,o,none⟩) (hlow _ (nlr _))).trans (by simp [World.frozen?,HR.out.cbx])
          have Hfin:Hid (RsL w cb (.int .i64 V) (.slice oA on oc) (.slice rA rn rc) (.slice bA bn bc) (.slice (some ad) iN ic) k zs (.bool true) (.int .i64 ((i:Int)+1)) (W5.setCell ⟨cb,4,none⟩ (.slice (some ⟨g5,0,none⟩) (L.length+1) c5))):=hdq ⟨i+1,L++[z],true,_,by rw [HZl.out]; exact hlt,rfl,by simp,Hin.out,fun j hj=>by
           by_cases e:j<i
           ·exact HI2.out.2.1 j e
           ·(obtain rfl:j=i:=by omega);rw [HZ.out]; exact HZK.out,HLn.out,by
           have:=HR.out.push hown5 hgx fun j hj=>(zAc hown5 hj).1
           exact this⟩
          simp only [Act.put,zz];refine hK.out _ _ ⟨⟨q4,qz⟩,fun h=>absurd h (by decide)⟩ ?_;clear hK K hown5 hg5 hgx hnil5 hat5;refine tk1 9 ?_;intro K hK;go_simp;refine hK.out _ _ ⟨⟨q4,qz⟩,fun h=>absurd h (by decide)⟩ ?_;clear hK K;refine tk1 10 ?_;intro K hK;go_simp;refine hK.out _ _ ⟨⟨(cob (a:=⟨w.heap.size,4,none⟩) (bhs W5 ⟨cb,4,none⟩ _ _ (by show w.heap.size ≠ cb; omega))).trans q4,(cob (a:=ad.add i) (bhs W5 ⟨cb,4,none⟩ _ _ (by show (ad.add i).block ≠ cb; omega))).trans qz⟩,fun h=>absurd h (by decide)⟩ ?_;clear hK K;refine zAf (by kernel_rfl) ?_ _;clear p0 p1 p2 p3 p4 c4 cz cz0 q4 qz d4 df hS0 al;go_wp2;go_roundw;case rel=>first | exact Hfin.out | ((repeat apply Exists.intro); exact ⟨Hfin.out,rfl⟩)
          case measure=>simp [intOf]; omega
         | true=>
          have hins':insF k (zs.take (i+1))=(l++[z],true):=by
           rw [zOm (by rw [HZl.out]; exact hlt),HI2.out.1,HZ.out]; simp [insS]
          have HLn:Hid ((l++[z]).length<=i+1+1/\(true=false->(l++[z]).length<=i+1)):=hdq ⟨by have:=HI2.out.2.2.1; simp; omega,fun h=>by cases h⟩;have Hin:=hdq hins';clear hins';obtain ⟨p0,p1,p2,p3,p4,-⟩:=id hR.box;have c4:wr.cell? ⟨cb,4,none⟩=some (.slice uA l.length uc):=(by simp [World.cell?,hR.cbx]);have cz:wr.cell? (ad.add i)=some (.int .i64 z):=(hR.bel.cell (zAb hcell)).trans hcell;have hcl:=zAa hR.cbx;have hcw:=hR.hc;have hadb:(ad.add i).block<w.heap.size:=zAb hcell;have hbw:=hR.bel.size;have HR:=hdq hR;clear hR;(go_upto_region 14 with fail);refine zAp 8 (fun f w'=>(w'.cell? ⟨w.heap.size,4,none⟩=some (.slice (some ad) iN ic)/\w'.cell? (ad.add i)=some (.int .i64 z))/\(f=false->w'.cell? ⟨cb,4,none⟩=some (.slice uA l.length uc))) (by kernel_rfl) ?_;have hS0:(wr.drew.cell? ⟨w.heap.size,4,none⟩=some (.slice (some ad) iN ic)/\wr.drew.cell? (ad.add i)=some (.int .i64 z))/\(false=false->wr.drew.cell? ⟨cb,4,none⟩=some (.slice uA l.length uc)):=⟨⟨p4,cz⟩,fun _=>c4⟩;refine tkE 0 (.pointer (some ⟨cb,4,none⟩)) (fun w' hSw=>?_) (hS0) ?_
          ·go_simp
          simp only [zz];refine tkW 1 (.slice uA l.length uc) (fun w' hSw=>?_) (hS0) ?_
          ·have:=hSw.2 rfl; go_simp
          simp only [zz];refine tkE 2 (.pointer (some ⟨w.heap.size,4,none⟩)) (fun w' hSw=>?_) (hS0) ?_
          ·go_simp
          simp only [zz];refine tkE 3 (.slice (some ad) iN ic) (fun w' hSw=>?_) (hS0) ?_
          ·obtain ⟨_,⟨z0,z1⟩,_⟩:=hSw; go_simp
          simp only [zz];refine tkE 4 (.int .i64 (i:Int)) (fun w' hSw=>?_) (hS0) ?_
          ·go_simp
          simp only [zz];refine tkE 5 (.pointer (some (ad.add i))) (fun w' hSw=>?_) (hS0) ?_
          ·go_simp
          simp only [zz];refine tkE 6 (.int .i64 z) (fun w' hSw=>?_) (hS0) ?_
          ·obtain ⟨_,⟨z0,z1⟩,_⟩:=hSw; go_simp
          simp only [zz];refine tk1 7 ?_;intro K hK;go_simp;have al:Below wr.heap.size wr (wr.alloc (.cells #[.int .i64 z] 3)).drew:=((brf _ _).alloc (nlr _) _).drew;refine hK.out _ _ ⟨⟨(al.cell (p:=⟨w.heap.size,4,none⟩) (by show w.heap.size<_; omega)).trans p4,(al.cell (p:=ad.add i) (by omega)).trans cz⟩,fun _=>(al.cell (p:=⟨cb,4,none⟩) hcl).trans c4⟩ ?_;clear hK K;refine tk1 8 ?_;intro K hK;obtain ⟨i0,hiI,hz0,hz1,hz2⟩:=info_parts zG1;have hlen3:l.length<=3:=by have h2:=HLn.out.1; rw [List.length_append,List.length_singleton] at h2; omega
          refine zAq _ _ 29 rfl (cb+1) 3 i0 (.int .i64 0) 1 8 Tryz.underlying29 hiI hz0 hz1 hz2 rfl (by decide) (.slice uA l.length uc) l.length (ivz l) rfl (HR.out.own.alloc _) ⟨wr.heap.size,0,none⟩ 1 1 [.int .i64 z] rfl rfl (cell_one_new _ _ _) (by intro u hu; simp at hu; subst hu; rfl) (by simp [maxLen]; omega) (by omega) (by simp; omega) ?_;intro v' W5 hown5 hg5 hnil5 hat5;obtain ⟨g5,c5,rfl⟩:=ownsRow_succ hown5;have hgx:(wr.alloc (.cells #[.int .i64 z] 3)).grownBy W5 (Value.slice uA l.length uc).ownBlock:=⟨hg5.1,hg5.2,hg5.3,hg5.size,hg5.block⟩;have hlow:∀ y,y<=cb->W5.heap[y]?=wr.heap[y]?:=(fun y hy=>(hg5.block y (by simp; omega) fun e=>by have:=(zAc HR.out.own e.symm).1; omega).trans (Below.heap_alloc _ _ _ (by omega)));have q4:W5.cell? ⟨w.heap.size,4,none⟩=some (.slice (some ad) iN ic):=(cob (a:=⟨w.heap.size,4,none⟩) (hlow _ (by show w.heap.size<=cb; omega))).trans p4;have qz:W5.cell? (ad.add i)=some (.int .i64 z):=(cob (a:=ad.add i) (hlow _ (by omega))).trans cz;have d4:W5.cell? ⟨cb,4,none⟩=some (.slice uA l.length uc):=(cob (a:=⟨cb,4,none⟩) (hlow _ (nlr _))).trans c4;have df:∀ o,W5.frozen? ⟨cb,o,none⟩=false:=fun o=>(World.frozen?_of_block (a:=⟨cb,o,none⟩) (hlow _ (nlr _))).trans (by simp [World.frozen?,HR.out.cbx])
          have Hfin:Hid (RsL w cb (.int .i64 V) (.slice oA on oc) (.slice rA rn rc) (.slice bA bn bc) (.slice (some ad) iN ic) k zs (.bool true) (.int .i64 ((i:Int)+1)) (W5.setCell ⟨cb,4,none⟩ (.slice (some ⟨g5,0,none⟩) (l.length+1) c5))):=hdq ⟨i+1,l++[z],true,_,by rw [HZl.out]; exact hlt,rfl,by simp,Hin.out,fun j hj=>by
           by_cases e:j<i
           ·exact HI2.out.2.1 j e
           ·(obtain rfl:j=i:=by omega);rw [HZ.out]; exact HZK.out,HLn.out,by
           have:=HR.out.push hown5 hgx fun j hj=>(zAc hown5 hj).1
           exact this⟩
          simp only [Act.put,zz];refine hK.out _ _ ⟨⟨q4,qz⟩,fun h=>absurd h (by decide)⟩ ?_;clear hK K hown5 hg5 hgx hnil5 hat5;refine tk1 9 ?_;intro K hK;go_simp;refine hK.out _ _ ⟨⟨q4,qz⟩,fun h=>absurd h (by decide)⟩ ?_;clear hK K;refine tk1 10 ?_;intro K hK;go_simp;refine hK.out _ _ ⟨⟨(cob (a:=⟨w.heap.size,4,none⟩) (bhs W5 ⟨cb,4,none⟩ _ _ (by show w.heap.size ≠ cb; omega))).trans q4,(cob (a:=ad.add i) (bhs W5 ⟨cb,4,none⟩ _ _ (by show (ad.add i).block ≠ cb; omega))).trans qz⟩,fun h=>absurd h (by decide)⟩ ?_;clear hK K;refine zAf (by kernel_rfl) ?_ _;clear p0 p1 p2 p3 p4 c4 cz cz0 q4 qz d4 df hS0 al;go_wp2;go_roundw;case rel=>first | exact Hfin.out | ((repeat apply Exists.intro); exact ⟨Hfin.out,rfl⟩)
          case measure=>simp [intOf]; omega
        ·have hins':insF k (zs.take (i+1))=(l++[z],d):=by
          rw [zOm (by rw [HZl.out]; exact hlt),HI2.out.1,HZ.out]; simp [insS,hg]
         have HLn:Hid ((l++[z]).length<=i+1+1/\(d=false->(l++[z]).length<=i+1)):=hdq ⟨by have:=HI2.out.2.2.1; simp; omega,fun h=>by have:=HI2.out.2.2.2 h; simp; omega⟩;have Hin:=hdq hins';clear hins';obtain ⟨p0,p1,p2,p3,p4,-⟩:=id hR.box;have c4:wr.cell? ⟨cb,4,none⟩=some (.slice uA l.length uc):=(by simp [World.cell?,hR.cbx]);have cz:wr.cell? (ad.add i)=some (.int .i64 z):=(hR.bel.cell (zAb hcell)).trans hcell;have hcl:=zAa hR.cbx;have hcw:=hR.hc;have hadb:(ad.add i).block<w.heap.size:=zAb hcell;have hbw:=hR.bel.size;have HR:=hdq hR;clear hR;(go_upto_region 14 with fail);refine zAp 8 (fun f w'=>(w'.cell? ⟨w.heap.size,4,none⟩=some (.slice (some ad) iN ic)/\w'.cell? (ad.add i)=some (.int .i64 z))/\(f=false->w'.cell? ⟨cb,4,none⟩=some (.slice uA l.length uc))) (by kernel_rfl) ?_;have hS0:(wr.drew.cell? ⟨w.heap.size,4,none⟩=some (.slice (some ad) iN ic)/\wr.drew.cell? (ad.add i)=some (.int .i64 z))/\(false=false->wr.drew.cell? ⟨cb,4,none⟩=some (.slice uA l.length uc)):=⟨⟨p4,cz⟩,fun _=>c4⟩;refine tkE 0 (.pointer (some ⟨cb,4,none⟩)) (fun w' hSw=>?_) (hS0) ?_
         ·go_simp
         simp only [zz];refine tkW 1 (.slice uA l.length uc) (fun w' hSw=>?_) (hS0) ?_
         ·have:=hSw.2 rfl; go_simp
         simp only [zz];refine tkE 2 (.pointer (some ⟨w.heap.size,4,none⟩)) (fun w' hSw=>?_) (hS0) ?_
         ·go_simp
         simp only [zz];refine tkE 3 (.slice (some ad) iN ic) (fun w' hSw=>?_) (hS0) ?_
         ·obtain ⟨_,⟨z0,z1⟩,_⟩:=hSw; go_simp
         simp only [zz];refine tkE 4 (.int .i64 (i:Int)) (fun w' hSw=>?_) (hS0) ?_
         ·go_simp
         simp only [zz];refine tkE 5 (.pointer (some (ad.add i))) (fun w' hSw=>?_) (hS0) ?_
         ·go_simp
         simp only [zz];refine tkE 6 (.int .i64 z) (fun w' hSw=>?_) (hS0) ?_
         ·obtain ⟨_,⟨z0,z1⟩,_⟩:=hSw; go_simp
         simp only [zz];refine tk1 7 ?_;intro K hK;go_simp;have al:Below wr.heap.size wr (wr.alloc (.cells #[.int .i64 z] 3)).drew:=((brf _ _).alloc (nlr _) _).drew;refine hK.out _ _ ⟨⟨(al.cell (p:=⟨w.heap.size,4,none⟩) (by show w.heap.size<_; omega)).trans p4,(al.cell (p:=ad.add i) (by omega)).trans cz⟩,fun _=>(al.cell (p:=⟨cb,4,none⟩) hcl).trans c4⟩ ?_;clear hK K;refine tk1 8 ?_;intro K hK;obtain ⟨i0,hiI,hz0,hz1,hz2⟩:=info_parts zG1;have hlen3:l.length<=3:=by have h2:=HLn.out.1; rw [List.length_append,List.length_singleton] at h2; omega
         refine zAq _ _ 29 rfl (cb+1) 3 i0 (.int .i64 0) 1 8 Tryz.underlying29 hiI hz0 hz1 hz2 rfl (by decide) (.slice uA l.length uc) l.length (ivz l) rfl (HR.out.own.alloc _) ⟨wr.heap.size,0,none⟩ 1 1 [.int .i64 z] rfl rfl (cell_one_new _ _ _) (by intro u hu; simp at hu; subst hu; rfl) (by simp [maxLen]; omega) (by omega) (by simp; omega) ?_;intro v' W5 hown5 hg5 hnil5 hat5;obtain ⟨g5,c5,rfl⟩:=ownsRow_succ hown5;have hgx:(wr.alloc (.cells #[.int .i64 z] 3)).grownBy W5 (Value.slice uA l.length uc).ownBlock:=⟨hg5.1,hg5.2,hg5.3,hg5.size,hg5.block⟩;have hlow:∀ y,y<=cb->W5.heap[y]?=wr.heap[y]?:=(fun y hy=>(hg5.block y (by simp; omega) fun e=>by have:=(zAc HR.out.own e.symm).1; omega).trans (Below.heap_alloc _ _ _ (by omega)));have q4:W5.cell? ⟨w.heap.size,4,none⟩=some (.slice (some ad) iN ic):=(cob (a:=⟨w.heap.size,4,none⟩) (hlow _ (by show w.heap.size<=cb; omega))).trans p4;have qz:W5.cell? (ad.add i)=some (.int .i64 z):=(cob (a:=ad.add i) (hlow _ (by omega))).trans cz;have d4:W5.cell? ⟨cb,4,none⟩=some (.slice uA l.length uc):=(cob (a:=⟨cb,4,none⟩) (hlow _ (nlr _))).trans c4;have df:∀ o,W5.frozen? ⟨cb,o,none⟩=false:=fun o=>(World.frozen?_of_block (a:=⟨cb,o,none⟩) (hlow _ (nlr _))).trans (by simp [World.frozen?,HR.out.cbx])
         have Hfin:Hid (RsL w cb (.int .i64 V) (.slice oA on oc) (.slice rA rn rc) (.slice bA bn bc) (.slice (some ad) iN ic) k zs (.bool d) (.int .i64 ((i:Int)+1)) (W5.setCell ⟨cb,4,none⟩ (.slice (some ⟨g5,0,none⟩) (l.length+1) c5))):=hdq ⟨i+1,l++[z],d,_,by rw [HZl.out]; exact hlt,rfl,by simp,Hin.out,fun j hj=>by
          by_cases e:j<i
          ·exact HI2.out.2.1 j e
          ·(obtain rfl:j=i:=by omega);rw [HZ.out]; exact HZK.out,HLn.out,by
          have:=HR.out.push hown5 hgx fun j hj=>(zAc hown5 hj).1
          exact this⟩
         simp only [Act.put,zz];refine hK.out _ _ ⟨⟨q4,qz⟩,fun h=>absurd h (by decide)⟩ ?_;clear hK K hown5 hg5 hgx hnil5 hat5;refine tk1 9 ?_;intro K hK;go_simp;refine hK.out _ _ ⟨⟨q4,qz⟩,fun h=>absurd h (by decide)⟩ ?_;clear hK K;refine tk1 10 ?_;intro K hK;go_simp;refine hK.out _ _ ⟨⟨(cob (a:=⟨w.heap.size,4,none⟩) (bhs W5 ⟨cb,4,none⟩ _ _ (by show w.heap.size ≠ cb; omega))).trans q4,(cob (a:=ad.add i) (bhs W5 ⟨cb,4,none⟩ _ _ (by show (ad.add i).block ≠ cb; omega))).trans qz⟩,fun h=>absurd h (by decide)⟩ ?_;clear hK K;refine zAf (by kernel_rfl) ?_ _;clear p0 p1 p2 p3 p4 c4 cz cz0 q4 qz d4 df hS0 al;go_wp2;go_roundw;case rel=>first | exact Hfin.out | ((repeat apply Exists.intro); exact ⟨Hfin.out,rfl⟩)
         case measure=>simp [intOf]; omega
      ·obtain rfl:i=iN:=by have:=HZl.out; omega
       have hNe:∀ j,j<zs.length->zs.getD j 0 ≠ (k:Int):=(fun j hj=>hne j (by rw [<-HZl.out]; exact hj));have HNe:=hdq hNe;have htk:zs.take i=zs:=List.take_of_length_le (by rw [HZl.out]; exact nlr _);rw [htk] at hins;have HIn:=hdq hins;have hl3:l.length<=3:=by have:=hlen.1; omega
       clear hne hNe htk hins hlen
       cases d with
       | true=>
        have HLK:Hid (insK k zs=l):=hdq (by unfold insK; rw [HIn.out]; rfl);obtain ⟨hK4,hKz,hKm⟩:=zOs (V:=(V:Int)) (k:=(k:Int)) (zs:=zs) (by rw [HZl.out]; omega) HFb.out.zok (by omega) (by have:=HK.out; omega) HNe.out;rw [HLK.out] at hK4 hKz hKm;have HKm:=hdq hKm
        have hZL:IntsAt wr ⟨uA,l.length,uc⟩ l:=by
         (obtain ⟨⟨A2,n2,c2⟩,e3,⟨h1,h2,h3,h4⟩,-⟩:=own_arr' (f:=fun i=>.int .i64 (l.getD i 0)) hR.own fun j hj=>by simp [ivz,gdd,hj]);simp only [SV.val,Value.slice.injEq] at e3;obtain ⟨rfl,rfl,rfl⟩:=e3;refine ⟨rfl,h2,h3,fun x hx=>?_,fun j hj=>?_⟩
         ·obtain ⟨j,hj,rfl⟩:=List.getElem_of_mem hx;have hzj:=hKz j hj;have e5:l.getD j 0=l[j]:=(by simp [gdd,hj]);have h6:=hzj.1;have h7:=hzj.2.1;rw [e5] at h6 h7;omega
         ·have hj':j<l.length:=hj;rcases h4 with ⟨_,h6⟩ | ⟨g,cur,h5,h6,h7⟩
          ·omega
          ·exact ⟨⟨g,0,none⟩,h5,by rw [zA4,Nat.zero_add]; simp only [World.cell?,h6]; exact h7 j hj'⟩
        have HCF:Hid (BinF wr ⟨⟨V,⟨oA,on,oc⟩,⟨rA,rn,rc⟩,⟨bA,bn,bc⟩⟩,⟨uA,l.length,uc⟩⟩ V os rs bs l):=hdq ⟨rfl,hV4,HFb.out.o1,HFb.out.o2,HFb.out.r,HFb.out.bn,HFb.out.co,HFb.out.cr,HFb.out.lp.below hR.bel,hZL,hK4,hKz⟩;have bP:=hR.box;have hbW:=hR.bel;have hcw:=hR.hc;have sc:cb<wr.heap.size:=zAa hR.cbx;have s0:w.heap.size<wr.heap.size:=(by omega);have bC:Box5 wr cb (.int .i64 V) (.slice oA on oc) (.slice rA rn rc) (.slice bA bn bc) (.slice uA l.length uc):=⟨by simp [World.cell?,hR.cbx],by simp [World.cell?,hR.cbx],by simp [World.cell?,hR.cbx],by simp [World.cell?,hR.cbx],by simp [World.cell?,hR.cbx],fun o=>by simp [World.frozen?,hR.cbx]⟩;obtain ⟨p0,p1,p2,p3,p4,-⟩:=id bP;clear hR hK4 hKz hKm hZL;(go_wp2_with fail);refine (BinF.solve (b:=⟨⟨V,⟨oA,on,oc⟩,⟨rA,rn,rc⟩,⟨bA,bn,bc⟩⟩,⟨iA,i,ic⟩⟩) (HFb.out.below hbW)).mono ?_;rintro e x1 ⟨⟨vA,vn,vc⟩,s,c,rfl,hx1,hcase⟩;replace bP:=bP.below hx1 s0;replace s0:=ltl s0 hx1.size;replace hbW:=hbW.trans (hx1.mono hbW.size);clear p0 p1 p2 p3 p4;obtain ⟨p0,p1,p2,p3,p4,-⟩:=id bP;replace bC:=bC.below hx1 sc;obtain ⟨c0,c1,c2,c3,c4,-⟩:=id bC;dsimp only [SV.val];(go_wp2_with fail);refine (BinF.solve (b:=⟨⟨V,⟨oA,on,oc⟩,⟨rA,rn,rc⟩,⟨bA,bn,bc⟩⟩,⟨uA,l.length,uc⟩⟩) (HCF.out.below hx1)).mono ?_;rintro e x2 hret;have hx2:=hret.code;replace bP:=bP.below hx2 s0;replace s0:=ltl s0 hx2.size;replace hbW:=hbW.trans (hx2.mono hbW.size);clear p0 p1 p2 p3 p4;obtain ⟨p0,p1,p2,p3,p4,-⟩:=id bP;clear c0 c1 c2 c3 c4 bC;rcases hcase with ⟨rfl,-,-,x,hxS,hray,hbest,hxv,-⟩ | ⟨rfl,rfl,hnil,hno⟩ | ⟨rfl,rfl,hnil,-,-⟩
        ·have hout:=zOu HFb.out.co HKm.out HK.out hxS hray hbest hret;obtain ⟨xl,hxl⟩:∃ xl,xl=(List.range V).map x:=⟨_,rfl⟩;have hxv':VecIs x1 (fun _=>True) (fun _=>True) 905000 ⟨vA,vn,vc⟩ xl:=by rw [hxl]; exact hxv
         have hxll:xl.length=V:=by rw [hxl]; simp
         have hvn:vn=V:=by rw [<-hxll]; exact hxv'.len.symm
         have hxk:xl.getD k 0=x k:=by rw [hxl]; exact zAS _ _ HK.out
         subst hvn;rw [<-hxl] at hout;have HXV:=hdq (hxv'.below hx2);have HXL:=hdq hxll;obtain ⟨ad2,u,eA,-,⟨q0,q1,q2,q3⟩,hu⟩:=HXV.out.elem k HK.out;dsimp only at eA;subst eA;rw [hxk] at hu;have hvc1:vn<=vc:=HXV.out.le;have hvc2:vc<=9223372036854775807:=HXV.out.cap;have hkV:(k:Int)<(vn:Int):=by have:=HK.out; omega
         obtain ⟨q,hq⟩:∃ q,x k=q:=⟨_,rfl⟩;rw [hq] at hu hout;have HU:=hdq hu;clear hret hxS hray hbest hxv hxv' hxll hxk hxl hu hq hx1 hx2;rcases hout with ⟨h01,⟨b2,bn2,bc2⟩,s2,rfl,hv2⟩ | ⟨h01,⟨⟨b2,bn2,bc2⟩,s2,rfl⟩ | ⟨⟨b2,bn2,bc2⟩,s2,y,rfl,hyv,hlt⟩⟩
         ·have HV2:=hdq hv2;clear hv2;dsimp only [SV.val];(go_upto_region 26 with fail);have alu:Below x2.heap.size x2 (x2.alloc (.cells #[.bool u.num.ng,.slice u.num.A u.num.n u.num.c,.bool u.den.ng,.slice u.den.A u.den.n u.den.c] 37)):=(brf _ _).alloc (nlr _) _;have bU:Box4 (x2.alloc (.cells #[.bool u.num.ng,.slice u.num.A u.num.n u.num.c,.bool u.den.ng,.slice u.den.A u.den.n u.den.c] 37)) x2.heap.size (.bool u.num.ng) (.slice u.num.A u.num.n u.num.c) (.bool u.den.ng) (.slice u.den.A u.den.n u.den.c):=bx4;have sU:x2.heap.size<(x2.alloc (.cells #[.bool u.num.ng,.slice u.num.A u.num.n u.num.c,.bool u.den.ng,.slice u.den.A u.den.n u.den.c] 37)).heap.size:=(by simp);replace bP:=bP.below alu s0;replace s0:=ltl s0 alu.size;replace hbW:=hbW.trans (alu.mono hbW.size);clear p0 p1 p2 p3 p4;obtain ⟨p0,p1,p2,p3,p4,-⟩:=id bP;replace HXV:=hdq (HXV.out.below alu);replace HU:=hdq (HU.out.below alu);generalize x2.alloc (.cells #[.bool u.num.ng,.slice u.num.A u.num.n u.num.c,.bool u.den.ng,.slice u.den.A u.den.n u.den.c] 37)=x3 at *;clear q0 q1 q2 q3;obtain ⟨v0,v1,v2,v3,-⟩:=id bU;refine zAp 1000 (fun _ w'=>Sees w.heap.size [] x3 w') (by kernel_rfl) ?_;have hS0:Sees w.heap.size [] x3 x3.drew:=Sees.st (by simp) hbW.size;refine tkX 0 (hS0) ?_;simp only [zz];refine tk1 1 ?_;intro K hK;go_simp;refine (zAn (HU.out.below (brf _ _).drew)).mono ?_;rintro e y1 ⟨rfl,hb1⟩;have hS1:=Kept.call2 hb1 hS0;refine hK.out _ _ hS1 ?_;clear hK K hb1 hS0;rcases h01 with rfl | rfl
          ·skip
           rw [show qsign 0=0 from rfl];refine tkX 2 (hS1) ?_;simp only [zz];refine tkX 3 (hS1) ?_;simp only [zz];refine tkN 4 (hS1) ?_;simp only [zz];refine tkN 5 (hS1) ?_;simp only [zz];refine tkN 6 (hS1) ?_;simp only [zz];refine tkX 7 (hS1) ?_;simp only [zz];refine tkX 8 (hS1) ?_;simp only [zz];refine zAf (by kernel_rfl) ?_ _;have hS':=hS1.kept.whole;clear hS1 v0 v1 v2 v3 bU;replace bP:=bP.below hS' s0;replace s0:=ltl s0 hS'.size;replace hbW:=hbW.trans (hS'.mono hbW.size);clear p0 p1 p2 p3 p4;obtain ⟨p0,p1,p2,p3,p4,-⟩:=id bP;replace HXV:=hdq (HXV.out.below hS');replace HV2:=hdq ((HV2.out.below alu).below hS');clear hS';(go_wp2_with fail);refine (zNx true (V:=vn) (sa:=⟨some ad2,vn,vc⟩) (sb:=⟨b2,bn2,bc2⟩) HXV.out HV2.out (by rw [zAZ]; omega) (by rw [zAZ]; omega) HXL.out HXL.out (by omega) ⟨fun _=>rfl,fun _ _ _=>rfl⟩).mono ?_;rintro e y4 ⟨rfl,hc4⟩;replace bP:=bP.below hc4 s0;replace s0:=ltl s0 hc4.size;replace hbW:=hbW.trans (hc4.mono hbW.size);clear p0 p1 p2 p3 p4;obtain ⟨p0,p1,p2,p3,p4,-⟩:=id bP;(go_wp2_with fail);refine zLi.mono ?_;rintro e wl ⟨rfl,hbl⟩;have hbf:=hbW.trans (hbl.mono hbW.size);go_wp2;go_ret;exact ⟨rfl,hbf⟩
          ·have HEq:Hid (decide ((1:Rat)=((1:Int):Rat))=true):=hdq (by decide);have hq0:(1:Rat) ≠ 0:=(by decide);obtain ⟨sg,hsg⟩:∃ sg,qsign (1:Rat)=sg:=⟨_,rfl⟩
           have hs0:(sg == 0)=false:=by
            rw [<-hsg]; unfold qsign; simp; grind
           rw [hsg];clear hsg;refine tkX 2 (hS1) ?_;simp only [zz];refine tkX 3 (hS1) ?_;simp only [zz];refine tkX 4 (hS1) ?_;simp only [zz];refine tk1 5 ?_;intro K hK;go_simp;refine (zAN 1 (by decide) (by decide) _).mono ?_;rintro e y2 ⟨⟨z1,rfl,hz1⟩,hb2⟩;have hS2:=Kept.call2 hb2 hS1;refine hK.out _ _ hS2 ?_;clear hK K hb2 hS1;refine tk1 6 ?_;intro K hK;go_simp;refine (zFY (a:=u) (b:=z1) (HU.out.below hS2.kept.whole) (hz1.qis (L:=1) (by exact ⟨by decide +kernel,by decide +kernel⟩)) (by rw [zAZ]; omega) (by rw [zAZ]; omega)).mono ?_;rw [HEq.out];rintro e y3 ⟨rfl,hb3⟩;have hS3:=Kept.call2 hb3 hS2;refine hK.out _ _ hS3 ?_;clear hK K hb3 hS2 hz1;refine tkX 7 (hS3) ?_;simp only [zz];refine tkX 8 (hS3) ?_;simp only [zz];refine zAf (by kernel_rfl) ?_ _;have hS':=hS3.kept.whole;clear hS3 v0 v1 v2 v3 bU;replace bP:=bP.below hS' s0;replace s0:=ltl s0 hS'.size;replace hbW:=hbW.trans (hS'.mono hbW.size);clear p0 p1 p2 p3 p4;obtain ⟨p0,p1,p2,p3,p4,-⟩:=id bP;replace HXV:=hdq (HXV.out.below hS');replace HV2:=hdq ((HV2.out.below alu).below hS');clear hS';(go_wp2_with fail);refine (zNx true (V:=vn) (sa:=⟨some ad2,vn,vc⟩) (sb:=⟨b2,bn2,bc2⟩) HXV.out HV2.out (by rw [zAZ]; omega) (by rw [zAZ]; omega) HXL.out HXL.out (by omega) ⟨fun _=>rfl,fun _ _ _=>rfl⟩).mono ?_;rintro e y4 ⟨rfl,hc4⟩;replace bP:=bP.below hc4 s0;replace s0:=ltl s0 hc4.size;replace hbW:=hbW.trans (hc4.mono hbW.size);clear p0 p1 p2 p3 p4;obtain ⟨p0,p1,p2,p3,p4,-⟩:=id bP;(go_wp2_with fail);refine zLi.mono ?_;rintro e wl ⟨rfl,hbl⟩;have hbf:=hbW.trans (hbl.mono hbW.size);go_wp2;go_ret;exact ⟨rfl,hbf⟩
         ·have HEq:Hid (decide (q=((1:Int):Rat))=false):=hdq (decide_eq_false fun h=>h01 (.inr h));have hq0:q ≠ 0:=(fun h=>h01 (.inl h));dsimp only [SV.val];(go_upto_region 26 with fail);have alu:Below x2.heap.size x2 (x2.alloc (.cells #[.bool u.num.ng,.slice u.num.A u.num.n u.num.c,.bool u.den.ng,.slice u.den.A u.den.n u.den.c] 37)):=(brf _ _).alloc (nlr _) _;have bU:Box4 (x2.alloc (.cells #[.bool u.num.ng,.slice u.num.A u.num.n u.num.c,.bool u.den.ng,.slice u.den.A u.den.n u.den.c] 37)) x2.heap.size (.bool u.num.ng) (.slice u.num.A u.num.n u.num.c) (.bool u.den.ng) (.slice u.den.A u.den.n u.den.c):=bx4;have sU:x2.heap.size<(x2.alloc (.cells #[.bool u.num.ng,.slice u.num.A u.num.n u.num.c,.bool u.den.ng,.slice u.den.A u.den.n u.den.c] 37)).heap.size:=(by simp);replace bP:=bP.below alu s0;replace s0:=ltl s0 alu.size;replace hbW:=hbW.trans (alu.mono hbW.size);clear p0 p1 p2 p3 p4;obtain ⟨p0,p1,p2,p3,p4,-⟩:=id bP;replace HXV:=hdq (HXV.out.below alu);replace HU:=hdq (HU.out.below alu);generalize x2.alloc (.cells #[.bool u.num.ng,.slice u.num.A u.num.n u.num.c,.bool u.den.ng,.slice u.den.A u.den.n u.den.c] 37)=x3 at *;clear q0 q1 q2 q3;obtain ⟨v0,v1,v2,v3,-⟩:=id bU;refine zAp 1000 (fun _ w'=>Sees w.heap.size [] x3 w') (by kernel_rfl) ?_;have hS0:Sees w.heap.size [] x3 x3.drew:=Sees.st (by simp) hbW.size;refine tkX 0 (hS0) ?_;simp only [zz];refine tk1 1 ?_;intro K hK;go_simp;refine (zAn (HU.out.below (brf _ _).drew)).mono ?_;rintro e y1 ⟨rfl,hb1⟩;have hS1:=Kept.call2 hb1 hS0;refine hK.out _ _ hS1 ?_;clear hK K hb1 hS0;obtain ⟨sg,hsg⟩:∃ sg,qsign q=sg:=⟨_,rfl⟩
          have hs0:(sg == 0)=false:=by
           rw [<-hsg]; unfold qsign; simp; grind
          rw [hsg];clear hsg;refine tkX 2 (hS1) ?_;simp only [zz];refine tkX 3 (hS1) ?_;simp only [zz];refine tkX 4 (hS1) ?_;simp only [zz];refine tk1 5 ?_;intro K hK;go_simp;refine (zAN 1 (by decide) (by decide) _).mono ?_;rintro e y2 ⟨⟨z1,rfl,hz1⟩,hb2⟩;have hS2:=Kept.call2 hb2 hS1;refine hK.out _ _ hS2 ?_;clear hK K hb2 hS1;refine tk1 6 ?_;intro K hK;go_simp;refine (zFY (a:=u) (b:=z1) (HU.out.below hS2.kept.whole) (hz1.qis (L:=1) (by exact ⟨by decide +kernel,by decide +kernel⟩)) (by rw [zAZ]; omega) (by rw [zAZ]; omega)).mono ?_;rw [HEq.out];rintro e y3 ⟨rfl,hb3⟩;have hS3:=Kept.call2 hb3 hS2;refine hK.out _ _ hS3 ?_;clear hK K hb3 hS2 hz1;refine tkX 7 (hS3) ?_;simp only [zz];refine tkX 8 (hS3) ?_;simp only [zz];refine zAf (by kernel_rfl) ?_ _;have hS':=hS3.kept.whole;clear hS3 v0 v1 v2 v3 bU;replace bP:=bP.below hS' s0;replace s0:=ltl s0 hS'.size;replace hbW:=hbW.trans (hS'.mono hbW.size);clear p0 p1 p2 p3 p4;obtain ⟨p0,p1,p2,p3,p4,-⟩:=id bP;replace HXV:=hdq (HXV.out.below hS');(go_wp2_with fail);refine zLi.mono ?_;rintro e wl ⟨rfl,hbl⟩;have hbf:=hbW.trans (hbl.mono hbW.size);go_wp2;go_ret;exact ⟨rfl,hbf⟩
         ·have HEq:Hid (decide (q=((1:Int):Rat))=false):=hdq (decide_eq_false fun h=>h01 (.inr h));have hq0:q ≠ 0:=(fun h=>h01 (.inl h));obtain ⟨yl,hyl⟩:∃ yl,yl=(List.range vn).map y:=⟨_,rfl⟩;rw [<-hyl] at hyv hlt;have hyll:yl.length=vn:=by rw [hyl]; simp
          have HYL:=hdq hyll;have HYV:=hdq hyv;obtain ⟨o,ho⟩:∃ o,lpcmp os yl xl=o:=⟨_,rfl⟩;rw [ho] at hlt;have HOo:=hdq ho;clear hyl hyll hyv ho;dsimp only [SV.val];(go_upto_region 26 with fail);have alu:Below x2.heap.size x2 (x2.alloc (.cells #[.bool u.num.ng,.slice u.num.A u.num.n u.num.c,.bool u.den.ng,.slice u.den.A u.den.n u.den.c] 37)):=(brf _ _).alloc (nlr _) _;have bU:Box4 (x2.alloc (.cells #[.bool u.num.ng,.slice u.num.A u.num.n u.num.c,.bool u.den.ng,.slice u.den.A u.den.n u.den.c] 37)) x2.heap.size (.bool u.num.ng) (.slice u.num.A u.num.n u.num.c) (.bool u.den.ng) (.slice u.den.A u.den.n u.den.c):=bx4;have sU:x2.heap.size<(x2.alloc (.cells #[.bool u.num.ng,.slice u.num.A u.num.n u.num.c,.bool u.den.ng,.slice u.den.A u.den.n u.den.c] 37)).heap.size:=(by simp);replace bP:=bP.below alu s0;replace s0:=ltl s0 alu.size;replace hbW:=hbW.trans (alu.mono hbW.size);clear p0 p1 p2 p3 p4;obtain ⟨p0,p1,p2,p3,p4,-⟩:=id bP;replace HXV:=hdq (HXV.out.below alu);replace HU:=hdq (HU.out.below alu);generalize x2.alloc (.cells #[.bool u.num.ng,.slice u.num.A u.num.n u.num.c,.bool u.den.ng,.slice u.den.A u.den.n u.den.c] 37)=x3 at *;clear q0 q1 q2 q3;obtain ⟨v0,v1,v2,v3,-⟩:=id bU;refine zAp 1000 (fun _ w'=>Sees w.heap.size [] x3 w') (by kernel_rfl) ?_;have hS0:Sees w.heap.size [] x3 x3.drew:=Sees.st (by simp) hbW.size;refine tkX 0 (hS0) ?_;simp only [zz];refine tk1 1 ?_;intro K hK;go_simp;refine (zAn (HU.out.below (brf _ _).drew)).mono ?_;rintro e y1 ⟨rfl,hb1⟩;have hS1:=Kept.call2 hb1 hS0;refine hK.out _ _ hS1 ?_;clear hK K hb1 hS0;replace HYV:=hdq (HYV.out.below alu);obtain ⟨sg,hsg⟩:∃ sg,qsign q=sg:=⟨_,rfl⟩
          have hs0:(sg == 0)=false:=by
           rw [<-hsg]; unfold qsign; simp; grind
          rw [hsg];clear hsg;refine tkX 2 (hS1) ?_;simp only [zz];refine tkX 3 (hS1) ?_;simp only [zz];refine tkX 4 (hS1) ?_;simp only [zz];refine tk1 5 ?_;intro K hK;go_simp;refine (zAN 1 (by decide) (by decide) _).mono ?_;rintro e y2 ⟨⟨z1,rfl,hz1⟩,hb2⟩;have hS2:=Kept.call2 hb2 hS1;refine hK.out _ _ hS2 ?_;clear hK K hb2 hS1;refine tk1 6 ?_;intro K hK;go_simp;refine (zFY (a:=u) (b:=z1) (HU.out.below hS2.kept.whole) (hz1.qis (L:=1) (by exact ⟨by decide +kernel,by decide +kernel⟩)) (by rw [zAZ]; omega) (by rw [zAZ]; omega)).mono ?_;rw [HEq.out];rintro e y3 ⟨rfl,hb3⟩;have hS3:=Kept.call2 hb3 hS2;refine hK.out _ _ hS3 ?_;clear hK K hb3 hS2 hz1;refine tkX 7 (hS3) ?_;simp only [zz];refine tkX 8 (hS3) ?_;simp only [zz];refine zAf (by kernel_rfl) ?_ _;have hS':=hS3.kept.whole;clear hS3 v0 v1 v2 v3 bU;replace bP:=bP.below hS' s0;replace s0:=ltl s0 hS'.size;replace hbW:=hbW.trans (hS'.mono hbW.size);clear p0 p1 p2 p3 p4;obtain ⟨p0,p1,p2,p3,p4,-⟩:=id bP;replace HXV:=hdq (HXV.out.below hS');replace HYV:=hdq (HYV.out.below hS');clear hS';(go_wp2_with fail);refine (zNq (kb:=29000000) (p:=⟨vn,⟨oA,on,oc⟩,⟨rA,rn,rc⟩,⟨bA,bn,bc⟩⟩) (sx:=⟨b2,bn2,bc2⟩) (sy:=⟨some ad2,vn,vc⟩) (HFb.out.lp.below hbW) HYV.out HXV.out (by have:=HFb.out.o2; dsimp only at this; show on<=_; omega) (fun i=>nlt (zBT HFb.out.co i) (by omega)) (by have h1:=HYV.out.len; have h2:=HYL.out; dsimp only at h1; show bn2<=_; omega) (by show vn<=_; omega) (by rw [zAZ]; omega) (by rw [zAZ]; omega) (by rw [zAZ]; omega) (by rw [zAZ]; omega) (fun i k=>((zAR (HFb.out.lp.obj.fit i k)).mul (zAR (HYV.out.fit k))).mono (by omega)) (fun i k=>((zAR (HFb.out.lp.obj.fit i k)).mul (zAR (HXV.out.fit k))).mono (by omega))).mono ?_;rw [HOo.out];rintro e y4 ⟨rfl,hc4⟩;replace bP:=bP.below hc4 s0;replace s0:=ltl s0 hc4.size;replace hbW:=hbW.trans (hc4.mono hbW.size);clear p0 p1 p2 p3 p4;obtain ⟨p0,p1,p2,p3,p4,-⟩:=id bP;(go_wp2_with fail);refine zLi.mono ?_;rintro e wl ⟨rfl,hbl⟩;have hbf:=hbW.trans (hbl.mono hbW.size);go_wp2;go_ret;exact ⟨rfl,hbf⟩
        ·cases hnil;obtain ⟨⟨b2,bn2,bc2⟩,s2,rfl⟩:=zOr HKm.out hno hret;clear hret hno hx1 hx2;dsimp only [SV.val];(go_wp2_with fail);refine zLi.mono ?_;rintro e wl ⟨rfl,hbl⟩;have hbf:=hbW.trans (hbl.mono hbW.size);go_wp2;go_ret;exact ⟨rfl,hbf⟩
        ·cases hnil;obtain ⟨⟨b2,bn2,bc2⟩,s2,c,rfl,hc2⟩:=zOq hret;clear hret hx1 hx2;dsimp only [SV.val];rcases hc2 with rfl | rfl | rfl
         ·skip
          (go_wp2_with fail);refine zLi.mono ?_;rintro e wl ⟨rfl,hbl⟩;have hbf:=hbW.trans (hbl.mono hbW.size);go_wp2;go_ret;exact ⟨rfl,hbf⟩
         ·skip
          (go_wp2_with fail);refine zLi.mono ?_;rintro e wl ⟨rfl,hbl⟩;have hbf:=hbW.trans (hbl.mono hbW.size);go_wp2;go_ret;exact ⟨rfl,hbf⟩
         ·skip
          (go_wp2_with fail);refine zLi.mono ?_;rintro e wl ⟨rfl,hbl⟩;have hbf:=hbW.trans (hbl.mono hbW.size);go_wp2;go_ret
          exact ⟨rfl,hbf⟩
       | false=>
        have c4:wr.cell? ⟨cb,4,none⟩=some (.slice uA l.length uc):=(by simp [World.cell?,hR.cbx]);obtain ⟨p0,p1,p2,p3,p4,-⟩:=id hR.box;have hcl:=zAa hR.cbx;have hcw:=hR.hc;have HR:=hdq hR;clear hR;obtain ⟨i0,hiI,hz0,hz1,hz2⟩:=info_parts zG1;(go_wp2_with (at_builtin; refine wpList_append_own_at _ rfl _ _ 29 rfl (cb+1) 3 i0 (.int .i64 0) 1 8 Tryz.underlying29 hiI hz0 hz1 hz2 rfl (by decide) (.slice uA l.length uc) l.length (ivz l) rfl (HR.out.own.alloc _) ⟨wr.heap.size,0,none⟩ 1 1 [.int .i64 (k:Int)] rfl rfl ?cells ?one ?b1 ?b2 ?b3 ?_));case one=>first | rfl | (intro u hu; simp at hu; subst hu; rfl)
        case b1=>simp [maxLen]; omega
        case b2=>omega
        case b3=>first | omega | (simp; omega)
        intro v' W5 hown5 hg5 hnil5 hat5;obtain ⟨g5,c5,rfl⟩:=ownsRow_succ hown5;have hlow:∀ y,y<=cb->W5.heap[y]?=wr.heap[y]?:=(fun y hy=>(hg5.block y (by simp; omega) fun e=>by have:=(zAc HR.out.own e.symm).1; omega).trans (Below.heap_alloc _ _ _ (by omega)));have d4:W5.cell? ⟨cb,4,none⟩=some (.slice uA l.length uc):=(cob (a:=⟨cb,4,none⟩) (hlow _ (nlr _))).trans c4;have df:∀ o,W5.frozen? ⟨cb,o,none⟩=false:=(fun o=>(World.frozen?_of_block (a:=⟨cb,o,none⟩) (hlow _ (nlr _))).trans (by simp [World.frozen?,HR.out.cbx]));have hR6:=HR.out.push hown5 hg5 fun j hj=>(zAc hown5 hj).1
        have HR6:=hdq hR6;clear p0 p1 p2 p3 p4 c4 hown5 hg5 hnil5 hat5 hlow hR6 HR hcl;(go_upto_region 17 with fail);clear d4 df;have hR:=HR6.out;clear HR6;generalize W5.setCell ⟨cb,4,none⟩ (.slice (some ⟨g5,0,none⟩) (l.length+1) c5)=W6 at *;obtain ⟨L,hL⟩:∃ L,L=l++[(k:Int)]:=⟨_,rfl⟩;have hLl:l.length+1=L.length:=by rw [hL]; simp
        rw [<-hL,hLl] at hR;have HLK:Hid (insK k zs=L):=hdq (by unfold insK; rw [HIn.out,hL]; rfl);rw [hLl];clear hL hLl;generalize some (⟨g5,0,none⟩:Addr)=uA at *;generalize c5=uc at *;obtain ⟨hK4,hKz,hKm⟩:=zOs (V:=(V:Int)) (k:=(k:Int)) (zs:=zs) (by rw [HZl.out]; omega) HFb.out.zok (by omega) (by have:=HK.out; omega) HNe.out;rw [HLK.out] at hK4 hKz hKm;have HKm:=hdq hKm
        have hZL:IntsAt W6 ⟨uA,L.length,uc⟩ L:=by
         (obtain ⟨⟨A2,n2,c2⟩,e3,⟨h1,h2,h3,h4⟩,-⟩:=own_arr' (f:=fun i=>.int .i64 (L.getD i 0)) hR.own fun j hj=>by simp [ivz,gdd,hj]);simp only [SV.val,Value.slice.injEq] at e3;obtain ⟨rfl,rfl,rfl⟩:=e3;refine ⟨rfl,h2,h3,fun x hx=>?_,fun j hj=>?_⟩
         ·obtain ⟨j,hj,rfl⟩:=List.getElem_of_mem hx;have hzj:=hKz j hj;have e5:L.getD j 0=L[j]:=(by simp [gdd,hj]);have h6:=hzj.1;have h7:=hzj.2.1;rw [e5] at h6 h7;omega
         ·have hj':j<L.length:=hj;rcases h4 with ⟨_,h6⟩ | ⟨g,cur,h5,h6,h7⟩
          ·omega
          ·exact ⟨⟨g,0,none⟩,h5,by rw [zA4,Nat.zero_add]; simp only [World.cell?,h6]; exact h7 j hj'⟩
        have HCF:Hid (BinF W6 ⟨⟨V,⟨oA,on,oc⟩,⟨rA,rn,rc⟩,⟨bA,bn,bc⟩⟩,⟨uA,L.length,uc⟩⟩ V os rs bs L):=hdq ⟨rfl,hV4,HFb.out.o1,HFb.out.o2,HFb.out.r,HFb.out.bn,HFb.out.co,HFb.out.cr,HFb.out.lp.below hR.bel,hZL,hK4,hKz⟩;have bP:=hR.box;have hbW:=hR.bel;have hcw:=hR.hc;have sc:cb<W6.heap.size:=zAa hR.cbx;have s0:w.heap.size<W6.heap.size:=(by omega);have bC:Box5 W6 cb (.int .i64 V) (.slice oA on oc) (.slice rA rn rc) (.slice bA bn bc) (.slice uA L.length uc):=⟨by simp [World.cell?,hR.cbx],by simp [World.cell?,hR.cbx],by simp [World.cell?,hR.cbx],by simp [World.cell?,hR.cbx],by simp [World.cell?,hR.cbx],fun o=>by simp [World.frozen?,hR.cbx]⟩;obtain ⟨p0,p1,p2,p3,p4,-⟩:=id bP;clear hR hK4 hKz hKm hZL;(go_wp2_with fail);refine (BinF.solve (b:=⟨⟨V,⟨oA,on,oc⟩,⟨rA,rn,rc⟩,⟨bA,bn,bc⟩⟩,⟨iA,i,ic⟩⟩) (HFb.out.below hbW)).mono ?_;rintro e x1 ⟨⟨vA,vn,vc⟩,s,c,rfl,hx1,hcase⟩;replace bP:=bP.below hx1 s0;replace s0:=ltl s0 hx1.size;replace hbW:=hbW.trans (hx1.mono hbW.size);clear p0 p1 p2 p3 p4;obtain ⟨p0,p1,p2,p3,p4,-⟩:=id bP;replace bC:=bC.below hx1 sc;obtain ⟨c0,c1,c2,c3,c4,-⟩:=id bC;dsimp only [SV.val];(go_wp2_with fail);refine (BinF.solve (b:=⟨⟨V,⟨oA,on,oc⟩,⟨rA,rn,rc⟩,⟨bA,bn,bc⟩⟩,⟨uA,L.length,uc⟩⟩) (HCF.out.below hx1)).mono ?_;rintro e x2 hret;have hx2:=hret.code;replace bP:=bP.below hx2 s0;replace s0:=ltl s0 hx2.size;replace hbW:=hbW.trans (hx2.mono hbW.size);clear p0 p1 p2 p3 p4;obtain ⟨p0,p1,p2,p3,p4,-⟩:=id bP;clear c0 c1 c2 c3 c4 bC;rcases hcase with ⟨rfl,-,-,x,hxS,hray,hbest,hxv,-⟩ | ⟨rfl,rfl,hnil,hno⟩ | ⟨rfl,rfl,hnil,-,-⟩
        ·have hout:=zOu HFb.out.co HKm.out HK.out hxS hray hbest hret;obtain ⟨xl,hxl⟩:∃ xl,xl=(List.range V).map x:=⟨_,rfl⟩;have hxv':VecIs x1 (fun _=>True) (fun _=>True) 905000 ⟨vA,vn,vc⟩ xl:=by rw [hxl]; exact hxv
         have hxll:xl.length=V:=by rw [hxl]; simp
         have hvn:vn=V:=by rw [<-hxll]; exact hxv'.len.symm
         have hxk:xl.getD k 0=x k:=by rw [hxl]; exact zAS _ _ HK.out
         subst hvn;rw [<-hxl] at hout;have HXV:=hdq (hxv'.below hx2);have HXL:=hdq hxll;obtain ⟨ad2,u,eA,-,⟨q0,q1,q2,q3⟩,hu⟩:=HXV.out.elem k HK.out;dsimp only at eA;subst eA;rw [hxk] at hu;have hvc1:vn<=vc:=HXV.out.le;have hvc2:vc<=9223372036854775807:=HXV.out.cap;have hkV:(k:Int)<(vn:Int):=by have:=HK.out; omega
         obtain ⟨q,hq⟩:∃ q,x k=q:=⟨_,rfl⟩;rw [hq] at hu hout;have HU:=hdq hu;clear hret hxS hray hbest hxv hxv' hxll hxk hxl hu hq hx1 hx2;rcases hout with ⟨h01,⟨b2,bn2,bc2⟩,s2,rfl,hv2⟩ | ⟨h01,⟨⟨b2,bn2,bc2⟩,s2,rfl⟩ | ⟨⟨b2,bn2,bc2⟩,s2,y,rfl,hyv,hlt⟩⟩
         ·have HV2:=hdq hv2;clear hv2;dsimp only [SV.val];(go_upto_region 26 with fail);have alu:Below x2.heap.size x2 (x2.alloc (.cells #[.bool u.num.ng,.slice u.num.A u.num.n u.num.c,.bool u.den.ng,.slice u.den.A u.den.n u.den.c] 37)):=(brf _ _).alloc (nlr _) _;have bU:Box4 (x2.alloc (.cells #[.bool u.num.ng,.slice u.num.A u.num.n u.num.c,.bool u.den.ng,.slice u.den.A u.den.n u.den.c] 37)) x2.heap.size (.bool u.num.ng) (.slice u.num.A u.num.n u.num.c) (.bool u.den.ng) (.slice u.den.A u.den.n u.den.c):=bx4;have sU:x2.heap.size<(x2.alloc (.cells #[.bool u.num.ng,.slice u.num.A u.num.n u.num.c,.bool u.den.ng,.slice u.den.A u.den.n u.den.c] 37)).heap.size:=(by simp);replace bP:=bP.below alu s0;replace s0:=ltl s0 alu.size;replace hbW:=hbW.trans (alu.mono hbW.size);clear p0 p1 p2 p3 p4;obtain ⟨p0,p1,p2,p3,p4,-⟩:=id bP;replace HXV:=hdq (HXV.out.below alu);replace HU:=hdq (HU.out.below alu);generalize x2.alloc (.cells #[.bool u.num.ng,.slice u.num.A u.num.n u.num.c,.bool u.den.ng,.slice u.den.A u.den.n u.den.c] 37)=x3 at *;clear q0 q1 q2 q3;obtain ⟨v0,v1,v2,v3,-⟩:=id bU;refine zAp 1000 (fun _ w'=>Sees w.heap.size [] x3 w') (by kernel_rfl) ?_;have hS0:Sees w.heap.size [] x3 x3.drew:=Sees.st (by simp) hbW.size;refine tkX 0 (hS0) ?_;simp only [zz];refine tk1 1 ?_;intro K hK;go_simp;refine (zAn (HU.out.below (brf _ _).drew)).mono ?_;rintro e y1 ⟨rfl,hb1⟩;have hS1:=Kept.call2 hb1 hS0;refine hK.out _ _ hS1 ?_;clear hK K hb1 hS0;rcases h01 with rfl | rfl
          ·skip
           rw [show qsign 0=0 from rfl];refine tkX 2 (hS1) ?_;simp only [zz];refine tkX 3 (hS1) ?_;simp only [zz];refine tkN 4 (hS1) ?_;simp only [zz];refine tkN 5 (hS1) ?_;simp only [zz];refine tkN 6 (hS1) ?_;simp only [zz];refine tkX 7 (hS1) ?_;simp only [zz];refine tkX 8 (hS1) ?_;simp only [zz];refine zAf (by kernel_rfl) ?_ _;have hS':=hS1.kept.whole;clear hS1 v0 v1 v2 v3 bU;replace bP:=bP.below hS' s0;replace s0:=ltl s0 hS'.size;replace hbW:=hbW.trans (hS'.mono hbW.size);clear p0 p1 p2 p3 p4;obtain ⟨p0,p1,p2,p3,p4,-⟩:=id bP;replace HXV:=hdq (HXV.out.below hS');replace HV2:=hdq ((HV2.out.below alu).below hS');clear hS';(go_wp2_with fail);refine (zNx true (V:=vn) (sa:=⟨some ad2,vn,vc⟩) (sb:=⟨b2,bn2,bc2⟩) HXV.out HV2.out (by rw [zAZ]; omega) (by rw [zAZ]; omega) HXL.out HXL.out (by omega) ⟨fun _=>rfl,fun _ _ _=>rfl⟩).mono ?_;rintro e y4 ⟨rfl,hc4⟩;replace bP:=bP.below hc4 s0;replace s0:=ltl s0 hc4.size;replace hbW:=hbW.trans (hc4.mono hbW.size);clear p0 p1 p2 p3 p4;obtain ⟨p0,p1,p2,p3,p4,-⟩:=id bP;(go_wp2_with fail);refine zLi.mono ?_;rintro e wl ⟨rfl,hbl⟩;have hbf:=hbW.trans (hbl.mono hbW.size);go_wp2;go_ret;exact ⟨rfl,hbf⟩
          ·have HEq:Hid (decide ((1:Rat)=((1:Int):Rat))=true):=hdq (by decide);have hq0:(1:Rat) ≠ 0:=(by decide);obtain ⟨sg,hsg⟩:∃ sg,qsign (1:Rat)=sg:=⟨_,rfl⟩
           have hs0:(sg == 0)=false:=by
            rw [<-hsg]; unfold qsign; simp; grind
           rw [hsg];clear hsg;refine tkX 2 (hS1) ?_;simp only [zz];refine tkX 3 (hS1) ?_;simp only [zz];refine tkX 4 (hS1) ?_;simp only [zz];refine tk1 5 ?_;intro K hK;go_simp;refine (zAN 1 (by decide) (by decide) _).mono ?_;rintro e y2 ⟨⟨z1,rfl,hz1⟩,hb2⟩;have hS2:=Kept.call2 hb2 hS1;refine hK.out _ _ hS2 ?_;clear hK K hb2 hS1;refine tk1 6 ?_;intro K hK;go_simp;refine (zFY (a:=u) (b:=z1) (HU.out.below hS2.kept.whole) (hz1.qis (L:=1) (by exact ⟨by decide +kernel,by decide +kernel⟩)) (by rw [zAZ]; omega) (by rw [zAZ]; omega)).mono ?_;rw [HEq.out];rintro e y3 ⟨rfl,hb3⟩;have hS3:=Kept.call2 hb3 hS2;refine hK.out _ _ hS3 ?_;clear hK K hb3 hS2 hz1;refine tkX 7 (hS3) ?_;simp only [zz];refine tkX 8 (hS3) ?_;simp only [zz];refine zAf (by kernel_rfl) ?_ _;have hS':=hS3.kept.whole;clear hS3 v0 v1 v2 v3 bU;replace bP:=bP.below hS' s0;replace s0:=ltl s0 hS'.size;replace hbW:=hbW.trans (hS'.mono hbW.size);clear p0 p1 p2 p3 p4;obtain ⟨p0,p1,p2,p3,p4,-⟩:=id bP;replace HXV:=hdq (HXV.out.below hS');replace HV2:=hdq ((HV2.out.below alu).below hS');clear hS';(go_wp2_with fail);refine (zNx true (V:=vn) (sa:=⟨some ad2,vn,vc⟩) (sb:=⟨b2,bn2,bc2⟩) HXV.out HV2.out (by rw [zAZ]; omega) (by rw [zAZ]; omega) HXL.out HXL.out (by omega) ⟨fun _=>rfl,fun _ _ _=>rfl⟩).mono ?_;rintro e y4 ⟨rfl,hc4⟩;replace bP:=bP.below hc4 s0;replace s0:=ltl s0 hc4.size;replace hbW:=hbW.trans (hc4.mono hbW.size);clear p0 p1 p2 p3 p4;obtain ⟨p0,p1,p2,p3,p4,-⟩:=id bP;(go_wp2_with fail);refine zLi.mono ?_;rintro e wl ⟨rfl,hbl⟩;have hbf:=hbW.trans (hbl.mono hbW.size);go_wp2;go_ret;exact ⟨rfl,hbf⟩
         ·have HEq:Hid (decide (q=((1:Int):Rat))=false):=hdq (decide_eq_false fun h=>h01 (.inr h));have hq0:q ≠ 0:=(fun h=>h01 (.inl h));dsimp only [SV.val];(go_upto_region 26 with fail);have alu:Below x2.heap.size x2 (x2.alloc (.cells #[.bool u.num.ng,.slice u.num.A u.num.n u.num.c,.bool u.den.ng,.slice u.den.A u.den.n u.den.c] 37)):=(brf _ _).alloc (nlr _) _;have bU:Box4 (x2.alloc (.cells #[.bool u.num.ng,.slice u.num.A u.num.n u.num.c,.bool u.den.ng,.slice u.den.A u.den.n u.den.c] 37)) x2.heap.size (.bool u.num.ng) (.slice u.num.A u.num.n u.num.c) (.bool u.den.ng) (.slice u.den.A u.den.n u.den.c):=bx4;have sU:x2.heap.size<(x2.alloc (.cells #[.bool u.num.ng,.slice u.num.A u.num.n u.num.c,.bool u.den.ng,.slice u.den.A u.den.n u.den.c] 37)).heap.size:=(by simp);replace bP:=bP.below alu s0;replace s0:=ltl s0 alu.size;replace hbW:=hbW.trans (alu.mono hbW.size);clear p0 p1 p2 p3 p4;obtain ⟨p0,p1,p2,p3,p4,-⟩:=id bP;replace HXV:=hdq (HXV.out.below alu);replace HU:=hdq (HU.out.below alu);generalize x2.alloc (.cells #[.bool u.num.ng,.slice u.num.A u.num.n u.num.c,.bool u.den.ng,.slice u.den.A u.den.n u.den.c] 37)=x3 at *;clear q0 q1 q2 q3;obtain ⟨v0,v1,v2,v3,-⟩:=id bU;refine zAp 1000 (fun _ w'=>Sees w.heap.size [] x3 w') (by kernel_rfl) ?_;have hS0:Sees w.heap.size [] x3 x3.drew:=Sees.st (by simp) hbW.size;refine tkX 0 (hS0) ?_;simp only [zz];refine tk1 1 ?_;intro K hK;go_simp;refine (zAn (HU.out.below (brf _ _).drew)).mono ?_;rintro e y1 ⟨rfl,hb1⟩;have hS1:=Kept.call2 hb1 hS0;refine hK.out _ _ hS1 ?_;clear hK K hb1 hS0;obtain ⟨sg,hsg⟩:∃ sg,qsign q=sg:=⟨_,rfl⟩
          have hs0:(sg == 0)=false:=by
           rw [<-hsg]; unfold qsign; simp; grind
          rw [hsg];clear hsg;refine tkX 2 (hS1) ?_;simp only [zz];refine tkX 3 (hS1) ?_;simp only [zz];refine tkX 4 (hS1) ?_;simp only [zz];refine tk1 5 ?_;intro K hK;go_simp;refine (zAN 1 (by decide) (by decide) _).mono ?_;rintro e y2 ⟨⟨z1,rfl,hz1⟩,hb2⟩;have hS2:=Kept.call2 hb2 hS1;refine hK.out _ _ hS2 ?_;clear hK K hb2 hS1;refine tk1 6 ?_;intro K hK;go_simp;refine (zFY (a:=u) (b:=z1) (HU.out.below hS2.kept.whole) (hz1.qis (L:=1) (by exact ⟨by decide +kernel,by decide +kernel⟩)) (by rw [zAZ]; omega) (by rw [zAZ]; omega)).mono ?_;rw [HEq.out];rintro e y3 ⟨rfl,hb3⟩;have hS3:=Kept.call2 hb3 hS2;refine hK.out _ _ hS3 ?_;clear hK K hb3 hS2 hz1;refine tkX 7 (hS3) ?_;simp only [zz];refine tkX 8 (hS3) ?_;simp only [zz];refine zAf (by kernel_rfl) ?_ _;have hS':=hS3.kept.whole;clear hS3 v0 v1 v2 v3 bU;replace bP:=bP.below hS' s0;replace s0:=ltl s0 hS'.size;replace hbW:=hbW.trans (hS'.mono hbW.size);clear p0 p1 p2 p3 p4;obtain ⟨p0,p1,p2,p3,p4,-⟩:=id bP;replace HXV:=hdq (HXV.out.below hS');(go_wp2_with fail);refine zLi.mono ?_;rintro e wl ⟨rfl,hbl⟩;have hbf:=hbW.trans (hbl.mono hbW.size);go_wp2;go_ret;exact ⟨rfl,hbf⟩
         ·have HEq:Hid (decide (q=((1:Int):Rat))=false):=hdq (decide_eq_false fun h=>h01 (.inr h));have hq0:q ≠ 0:=(fun h=>h01 (.inl h));obtain ⟨yl,hyl⟩:∃ yl,yl=(List.range vn).map y:=⟨_,rfl⟩;rw [<-hyl] at hyv hlt;have hyll:yl.length=vn:=by rw [hyl]; simp
          have HYL:=hdq hyll;have HYV:=hdq hyv;obtain ⟨o,ho⟩:∃ o,lpcmp os yl xl=o:=⟨_,rfl⟩;rw [ho] at hlt;have HOo:=hdq ho;clear hyl hyll hyv ho;dsimp only [SV.val];(go_upto_region 26 with fail);have alu:Below x2.heap.size x2 (x2.alloc (.cells #[.bool u.num.ng,.slice u.num.A u.num.n u.num.c,.bool u.den.ng,.slice u.den.A u.den.n u.den.c] 37)):=(brf _ _).alloc (nlr _) _;have bU:Box4 (x2.alloc (.cells #[.bool u.num.ng,.slice u.num.A u.num.n u.num.c,.bool u.den.ng,.slice u.den.A u.den.n u.den.c] 37)) x2.heap.size (.bool u.num.ng) (.slice u.num.A u.num.n u.num.c) (.bool u.den.ng) (.slice u.den.A u.den.n u.den.c):=bx4;have sU:x2.heap.size<(x2.alloc (.cells #[.bool u.num.ng,.slice u.num.A u.num.n u.num.c,.bool u.den.ng,.slice u.den.A u.den.n u.den.c] 37)).heap.size:=(by simp);replace bP:=bP.below alu s0;replace s0:=ltl s0 alu.size;replace hbW:=hbW.trans (alu.mono hbW.size);clear p0 p1 p2 p3 p4;obtain ⟨p0,p1,p2,p3,p4,-⟩:=id bP;replace HXV:=hdq (HXV.out.below alu);replace HU:=hdq (HU.out.below alu);generalize x2.alloc (.cells #[.bool u.num.ng,.slice u.num.A u.num.n u.num.c,.bool u.den.ng,.slice u.den.A u.den.n u.den.c] 37)=x3 at *;clear q0 q1 q2 q3;obtain ⟨v0,v1,v2,v3,-⟩:=id bU;refine zAp 1000 (fun _ w'=>Sees w.heap.size [] x3 w') (by kernel_rfl) ?_;have hS0:Sees w.heap.size [] x3 x3.drew:=Sees.st (by simp) hbW.size;refine tkX 0 (hS0) ?_;simp only [zz];refine tk1 1 ?_;intro K hK;go_simp;refine (zAn (HU.out.below (brf _ _).drew)).mono ?_;rintro e y1 ⟨rfl,hb1⟩;have hS1:=Kept.call2 hb1 hS0;refine hK.out _ _ hS1 ?_;clear hK K hb1 hS0;replace HYV:=hdq (HYV.out.below alu);obtain ⟨sg,hsg⟩:∃ sg,qsign q=sg:=⟨_,rfl⟩
          have hs0:(sg == 0)=false:=by
           rw [<-hsg]; unfold qsign; simp; grind
          rw [hsg];clear hsg;refine tkX 2 (hS1) ?_;simp only [zz];refine tkX 3 (hS1) ?_;simp only [zz];refine tkX 4 (hS1) ?_;simp only [zz];refine tk1 5 ?_;intro K hK;go_simp;refine (zAN 1 (by decide) (by decide) _).mono ?_;rintro e y2 ⟨⟨z1,rfl,hz1⟩,hb2⟩;have hS2:=Kept.call2 hb2 hS1;refine hK.out _ _ hS2 ?_;clear hK K hb2 hS1;refine tk1 6 ?_;intro K hK;go_simp;refine (zFY (a:=u) (b:=z1) (HU.out.below hS2.kept.whole) (hz1.qis (L:=1) (by exact ⟨by decide +kernel,by decide +kernel⟩)) (by rw [zAZ]; omega) (by rw [zAZ]; omega)).mono ?_;rw [HEq.out];rintro e y3 ⟨rfl,hb3⟩;have hS3:=Kept.call2 hb3 hS2;refine hK.out _ _ hS3 ?_;clear hK K hb3 hS2 hz1;refine tkX 7 (hS3) ?_;simp only [zz];refine tkX 8 (hS3) ?_;simp only [zz];refine zAf (by kernel_rfl) ?_ _;have hS':=hS3.kept.whole;clear hS3 v0 v1 v2 v3 bU;replace bP:=bP.below hS' s0;replace s0:=ltl s0 hS'.size;replace hbW:=hbW.trans (hS'.mono hbW.size);clear p0 p1 p2 p3 p4;obtain ⟨p0,p1,p2,p3,p4,-⟩:=id bP;replace HXV:=hdq (HXV.out.below hS');replace HYV:=hdq (HYV.out.below hS');clear hS';(go_wp2_with fail);refine (zNq (kb:=29000000) (p:=⟨vn,⟨oA,on,oc⟩,⟨rA,rn,rc⟩,⟨bA,bn,bc⟩⟩) (sx:=⟨b2,bn2,bc2⟩) (sy:=⟨some ad2,vn,vc⟩) (HFb.out.lp.below hbW) HYV.out HXV.out (by have:=HFb.out.o2; dsimp only at this; show on<=_; omega) (fun i=>nlt (zBT HFb.out.co i) (by omega)) (by have h1:=HYV.out.len; have h2:=HYL.out; dsimp only at h1; show bn2<=_; omega) (by show vn<=_; omega) (by rw [zAZ]; omega) (by rw [zAZ]; omega) (by rw [zAZ]; omega) (by rw [zAZ]; omega) (fun i k=>((zAR (HFb.out.lp.obj.fit i k)).mul (zAR (HYV.out.fit k))).mono (by omega)) (fun i k=>((zAR (HFb.out.lp.obj.fit i k)).mul (zAR (HXV.out.fit k))).mono (by omega))).mono ?_;rw [HOo.out];rintro e y4 ⟨rfl,hc4⟩;replace bP:=bP.below hc4 s0;replace s0:=ltl s0 hc4.size;replace hbW:=hbW.trans (hc4.mono hbW.size);clear p0 p1 p2 p3 p4;obtain ⟨p0,p1,p2,p3,p4,-⟩:=id bP;(go_wp2_with fail);refine zLi.mono ?_;rintro e wl ⟨rfl,hbl⟩;have hbf:=hbW.trans (hbl.mono hbW.size);go_wp2;go_ret;exact ⟨rfl,hbf⟩
        ·cases hnil;obtain ⟨⟨b2,bn2,bc2⟩,s2,rfl⟩:=zOr HKm.out hno hret;clear hret hno hx1 hx2;dsimp only [SV.val];(go_wp2_with fail);refine zLi.mono ?_;rintro e wl ⟨rfl,hbl⟩;have hbf:=hbW.trans (hbl.mono hbW.size);go_wp2;go_ret;exact ⟨rfl,hbf⟩
        ·cases hnil;obtain ⟨⟨b2,bn2,bc2⟩,s2,c,rfl,hc2⟩:=zOq hret;clear hret hx1 hx2;dsimp only [SV.val];rcases hc2 with rfl | rfl | rfl
         ·skip
          (go_wp2_with fail);refine zLi.mono ?_;rintro e wl ⟨rfl,hbl⟩;have hbf:=hbW.trans (hbl.mono hbW.size);go_wp2;go_ret;exact ⟨rfl,hbf⟩
         ·skip
          (go_wp2_with fail);refine zLi.mono ?_;rintro e wl ⟨rfl,hbl⟩;have hbf:=hbW.trans (hbl.mono hbW.size);go_wp2;go_ret;exact ⟨rfl,hbf⟩
         ·skip
          (go_wp2_with fail);refine zLi.mono ?_;rintro e wl ⟨rfl,hbl⟩;have hbf:=hbW.trans (hbl.mono hbW.size);go_wp2;go_ret;exact ⟨rfl,hbf⟩
end Go.Proofs.YtpjaodcimomaiaaGreat
