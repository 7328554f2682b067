/- Texts BoR BoQ BoS of this claim. -/
import Derived.Test.YtpjaodcimomaiaaGreatX47
set_option maxHeartbeats 4000000
set_option maxRecDepth 40000
namespace Go.Proofs.YtpjaodcimomaiaaGreat
open Go.RowKit Go.Shelf Lin
variable {z:Int} {V k N lo hi b L n g B:Nat} {x f:Nat->Rat} {bs l:List Rat} {rs os:List (List Rat)} {p:LPV} {X Y X' Y' G:Nat->Prop} {w w1 w2 w' W:World} {zs:List Int} {v0 v1 v2 v3:Value}
def uR (V:Nat) (z:Int):List Rat:=(List.range V).map fun v=>if v=z.toNat then 1 else 0
theorem zQf (hk:k<V):(uR V z).getD k 0=if k=z.toNat then 1 else 0:=by
 unfold uR; exact zAS _ _ hk
theorem zP5 (V:Nat) (z:Int):(uR V z).length=V:=by simp [uR]
theorem zP6 (hz:z.toNat<V):(sum V fun k=>(uR V z).getD k 0*x k)=x z.toNat:=by
 rw [zAh (g:=fun k=>(if k=z.toNat then 1 else 0)*x k) fun k hk=>by rw [zQf hk],zBu hz fun i hi h=>by rw [if_neg h]; grind,if_pos rfl]; grind
theorem zQe (V k:Nat) (z:Int):QFit 1 ((uR V z).getD k 0):=by
 have h0:QFit 1 0:=⟨by decide +kernel,by decide +kernel⟩;have h1:QFit 1 1:=⟨by decide +kernel,by decide +kernel⟩;by_cases h:k<V
 ·rw [zQf h]; split
  ·exact h1
  ·exact h0
 ·rw [zAw _ _ _ (by rw [zP5]; omega)]; exact h0
def rxR (V:Nat) (rs:List (List Rat)) (zs:List Int):List (List Rat):=rs++zs.map (uR V)
def rxB (bs:List Rat) (zs:List Int):List Rat:=bs++zs.map fun _=>1
section
variable {V:Nat} {os:List (List Rat)}
theorem zP2 :∀ (zs:List Int) (rs:List (List Rat)) (bs:List Rat),bs.length=rs.length->(∀ z ∈ zs,z.toNat<V)->
  ((BPof V os (rxR V rs zs) (rxB bs zs) []).S x ↔ (BPof V os rs bs []).S x/\∀ z ∈ zs,x z.toNat<=1)
 | [],rs,bs,_,_=>by
  rw [show rxR V rs []=rs by simp [rxR],show rxB bs []=bs by simp [rxB]]; simp
 | z :: t,rs,bs,hb,hz=>by
  rw [show rxR V rs (z :: t)=rxR V (rs++[uR V z]) t by simp [rxR],show rxB bs (z :: t)=rxB (bs++[1]) t by simp [rxB],
   zP2 t (rs++[uR V z]) (bs++[1]) (by simp [hb]) (fun z hz'=>hz z (List.mem_cons_of_mem _ hz')),zOk hb,zP6 (hz z List.mem_cons_self)]
  simp only [List.mem_cons,forall_eq_or_imp,and_assoc]
theorem zQm (zs:List Int):(BPof V os rs bs []).S x ↔ (BPof V os rs bs zs).LF x:=
 ⟨fun h=>h.1,fun h=>⟨h,fun i hi=>absurd hi (Nat.not_lt_zero i)⟩⟩
theorem zQk :(probOf V os rs bs).Feasible x ↔ (BPof V os rs bs []).S x:=
 ⟨fun h=>⟨h,fun i hi=>absurd hi (Nat.not_lt_zero i)⟩,fun h=>h.1⟩
section
variable {rs:List (List Rat)} {bs:List Rat} {zs:List Int}
theorem zPZ (hb:bs.length=rs.length) (hz:∀ z ∈ zs,z.toNat<V):(probOf V os (rxR V rs zs) (rxB bs zs)).Feasible x ↔ (BPof V os rs bs zs).LF x/\∀ z ∈ zs,x z.toNat<=1:=by
 rw [zQk,zP2 zs rs bs hb hz,zQm zs]
theorem zPR (h:(BPof V os rs bs zs).S x) (hb:bs.length=rs.length) (hz:∀ z ∈ zs,z.toNat<V):(probOf V os (rxR V rs zs) (rxB bs zs)).Feasible x:=
 (zPZ hb hz).2 ⟨h.1,fun z hz'=>by
  rcases (zOn (P:=fun i=>x i=0\/x i=1)).1 h.2 z hz' with h | h
  ·rw [h]; decide
  ·rw [h]; decide⟩
theorem zPT {rs':List (List Rat)} {bs':List Rat} {l:Nat} (hl:l<os.length+V):(probOf V os rs' bs').obj l x=(BPof V os rs bs zs).dot ((BPof V os rs bs zs).lev l) x:=by
 by_cases h:l<os.length
 ·show (if l<os.length then _ else _)=_;rw [if_pos h]
  exact zAh fun k hk=>by
   show _=(if l<os.length then _ else _)*_;rw [if_pos h]; rfl
 ·show (if l<os.length then _ else _)=_;rw [if_neg h];have e:=BP.lev_x (B:=BPof V os rs bs zs) (x:=x) (k:=l-os.length) (by show _<V; omega);rw [show (BPof V os rs bs zs).K+(l-os.length)=l by show os.length+_=_; omega] at e;exact e.symm
theorem zQl {rs':List (List Rat)} {bs':List Rat} {y:Nat->Rat} (ho:(probOf V os rs' bs').Optimal x) (hy:(probOf V os rs' bs').Feasible y):(BPof V os rs bs zs).Le y x:=by
 rcases ho.2 y hy with h | h
 ·refine .inr ?_;obtain ⟨i,hi,h1,h2⟩:=h;have hi':i<os.length+V:=hi;refine ⟨i,hi,?_,fun j hj=>?_⟩
  ·simp only at h1 ⊢;rw [zPT (rs:=rs) (bs:=bs) (zs:=zs) hi',zPT (rs:=rs) (bs:=bs) (zs:=zs) hi'] at h1;exact h1
  ·have:=h2 j hj;simp only at this ⊢;rw [zPT (rs:=rs) (bs:=bs) (zs:=zs) (by omega),zPT (rs:=rs) (bs:=bs) (zs:=zs) (by omega)] at this;exact this
 ·refine .inl fun l hl=>?_
  have e:(BPof V os rs bs zs).dot ((BPof V os rs bs zs).lev l) x=(BPof V os rs bs zs).dot ((BPof V os rs bs zs).lev l) y:=zAh fun k hk=>by rw [h k hk]
  simp only;rw [e]; grind
theorem zQi {d:Nat->Rat} (h:(probOf V os (rxR V rs zs) (rxB bs zs)).Unbounded x d) (_hb:bs.length=rs.length) (hz:∀ z ∈ zs,z.toNat<V):(BPof V os rs bs zs).Ray:=by
 obtain ⟨-,h0,h1,h2⟩:=h;refine ⟨d,h0,fun i hi=>?_,(zOn (P:=fun i=>d i=0)).2 fun z hz'=>?_,h2⟩
 ·have hi':i<rs.length:=hi;have:=h1 i (by show i<(rxR V rs zs).length; simp [rxR]; omega);refine Rat.le_trans (req (zAh fun k _=>?_)) this;show (rs.getD i []).getD k 0*_=((rxR V rs zs).getD i []).getD k 0*_;rw [show (rxR V rs zs).getD i []=rs.getD i [] by simp [rxR,gdd,List.getElem?_append_left hi']]
 ·obtain ⟨j,hj,rfl⟩:=List.getElem_of_mem hz';have:=h1 (rs.length+j) (by show _<(rxR V rs zs).length; simp [rxR]; exact hj)
  have e:(rxR V rs zs).getD (rs.length+j) []=uR V zs[j]:=by
   simp [rxR,gdd,List.getElem?_append_right,hj]
  have h3:(sum V fun k=>(uR V zs[j]).getD k 0*d k)<=0:=by
   refine Rat.le_trans (req (zAh fun k _=>?_)) this;show _=((rxR V rs zs).getD (rs.length+j) []).getD k 0*_;rw [e]
  rw [zP6 (hz _ hz')] at h3;have:=h0 _ (hz _ hz');show d (zs[j]).toNat=0;grind
theorem zQh {d:Nat->Rat} (hx:(probOf V os (rxR V rs zs) (rxB bs zs)).Feasible x) (hb:bs.length=rs.length) (hz:∀ z ∈ zs,z.toNat<V) (h0:∀ k,k<V->0<=d k) (h1:∀ i,i<rs.length->(BPof V os rs bs zs).dot ((BPof V os rs bs zs).A i) d<=0) (h2:∀ i,i<(BPof V os rs bs zs).nb->d ((BPof V os rs bs zs).bin i)=0) (h3:LexPos os.length fun l=>(BPof V os rs bs zs).dot ((BPof V os rs bs zs).O l) d) :
  (probOf V os (rxR V rs zs) (rxB bs zs)).Unbounded x d:=by
 refine ⟨hx,h0,fun i hi=>?_,h3⟩;have hi':i<rs.length+zs.length:=by have:i<(rxR V rs zs).length:=hi; simpa [rxR] using this
 show (sum V fun k=>((rxR V rs zs).getD i []).getD k 0*d k)<=0;by_cases e:i<rs.length
 ·rw [show (rxR V rs zs).getD i []=rs.getD i [] by simp [rxR,gdd,List.getElem?_append_left e]];exact h1 i e
 ·obtain ⟨j,rfl⟩:∃ j,i=rs.length+j:=⟨i-rs.length,by omega⟩;have hj:j<zs.length:=by omega
  rw [show (rxR V rs zs).getD (rs.length+j) []=uR V zs[j] by simp [rxR,gdd,List.getElem?_append_right,hj],zP6 (hz _ (List.getElem_mem hj))];have:=(zOn (P:=fun i=>d i=0)).1 h2 _ (List.getElem_mem hj);exact req this
theorem zQc {g:Nat->Rat} (h:LexPos N fun l=>f l-g l):vcmp f g N=1:=by
 obtain ⟨i,hi,h1,h2⟩:=h;rw [zKr (x:=i) (fun j hj=>by have:=h2 j hj; grind) (by grind) hi];unfold qcmp; grind
theorem zP8 {x y:List Rat} (hc:colsOf os<=V) (hx:x.length<=V) (hy:y.length<=V) (hm:max y.length x.length=V) (h:(BPof V os rs bs zs).Le (fun k=>y.getD k 0) fun k=>x.getD k 0):¬ lpcmp os x y<0:=by
 rw [zNX (rs:=rs) (bs:=bs) (zs:=zs) hc hx hy hm];rcases h with h | h
 ·rw [zKq fun i hi=>by have:=h i hi; simp only at this; grind]; decide
 ·have h':=zQc h;rw [show os.length+V=(BPof V os rs bs zs).K+(BPof V os rs bs zs).V from rfl,h']; decide
theorem zP0 (h:LPIs w X Y 8 p os rs bs):(probOf V os (rxR V rs zs) (rxB bs zs)).start.Fits (probOf V os (rxR V rs zs) (rxB bs zs)) 288:=by
 refine ⟨fun i j hi hj=>?_,fun l j hl hj=>?_⟩
 ·show Lin.Fits _ (if j<V then ((rxR V rs zs).getD i []).getD j 0 else (rxB bs zs).getD i 0)
  split
  ·by_cases e:i<rs.length
   ·rw [show (rxR V rs zs).getD i []=rs.getD i [] by simp [rxR,gdd,List.getElem?_append_left e]];exact zAR (h.rows.fit i j)
   ·by_cases e2:i-rs.length<zs.length
    ·rw [show (rxR V rs zs).getD i []=uR V zs[i-rs.length] by simp [rxR,gdd,List.getElem?_append_right (show rs.length<=i by omega),e2]];exact (zAR (zQe V j _)).mono (by decide)
    ·rw [show (rxR V rs zs).getD i []=[] by simp [rxR,gdd,List.getElem?_append_right (show rs.length<=i by omega),show zs[i-rs.length]?=none from List.getElem?_eq_none (by omega)]];exact Lin.Fits.zero _
  ·by_cases e:i<bs.length
   ·rw [show (rxB bs zs).getD i 0=bs.getD i 0 by simp [rxB,gdd,List.getElem?_append_left e]];exact zAR (h.bounds.fit i)
   ·by_cases e2:i-bs.length<zs.length
    ·rw [show (rxB bs zs).getD i 0=1 by simp [rxB,gdd,List.getElem?_append_right (show bs.length<=i by omega),e2]];exact Lin.Fits.one _
    ·rw [show (rxB bs zs).getD i 0=0 by simp [rxB,gdd,List.getElem?_append_right (show bs.length<=i by omega),show zs[i-bs.length]?=none from List.getElem?_eq_none (by omega)]];exact Lin.Fits.zero _
 ·show Lin.Fits _ (if j<V then-(os.getD l []).getD j 0 else 0)
  split
  ·exact (zAR (h.obj.fit l j)).neg
  ·exact Lin.Fits.zero _
end
end
def RelaxOut (V:Nat) (os rs:List (List Rat)) (bs:List Rat) (zs:List Int) (r:RV) (x1 x2:World) (e:Ending):Prop:=
 (r.kind=2/\∃ (v:SV) (s:Nat),e = .returned (.tuple #[v.val,.int .i64 (s:Int),.int .i64 8]))\/
 (r.kind=3/\∃ (v:SV) (s:Nat),e = .returned (.tuple #[v.val,.int .i64 (s:Int),.int .i64 8])\/e = .returned (.tuple #[v.val,.int .i64 (s:Int),.int .i64 9]))\/
 (r.kind=1/\∃ l:List Rat,l.length=V/\VecIs x1 AllB AllB 6000 r.X l/\
  ((¬ ((BPof V os rs bs zs).S fun k=>l.getD k 0)/\∃ (v:SV) (s:Nat),e = .returned (.tuple #[v.val,.int .i64 (s:Int),.int .i64 8]))\/
   ∃ (v:SV) (s:Nat) (y:List Rat),e = .returned (.tuple #[v.val,.int .i64 (s:Int),.int .i64 0])/\y.length=V/\VecIs x2 AllB AllB 905000 v y/\¬ lpcmp os l y<0/\(((BPof V os rs bs zs).S fun k=>l.getD k 0)->y=l)))
theorem zP3 {x1 x2:World} {r:RV} {e:Ending} (hP:LPIs w X Y 8 p os rs bs) (hc:colsOf os<=V) (hV:V<=4) (hb:bs.length=rs.length) (hz:∀ z ∈ zs,z.toNat<V)
  (h1:Solved w1 (probOf V os (rxR V rs zs) (rxB bs zs)) r x1) (h2:BSoRet w2 905000 (BPof V os rs bs zs) e x2):RelaxOut V os rs bs zs r x1 x2 e:=by
 have h5:5 ^ V<=625:=nlt (Nat.pow_le_pow_right (by omega) hV) (by decide);have n1:5 ^ V*288<=180000:=nlt (Nat.mul_le_mul h5 (nlr 288)) (by decide);have hh1:=h1;obtain ⟨v,s,c,rfl,-,h2⟩:=h2;rcases h1 with ⟨e1,_⟩ | ⟨e1,_,_,_,_,_,_,no1,_⟩ | ⟨e1,l,l',ll,ll',hu,-⟩
 ·obtain ⟨l,ll,lf,lv,lo⟩:=zQg hh1 e1 (by decide) (zP0 hP) n1 (by decide);refine .inr (.inr ⟨e1,l,ll,lv,?_⟩);rcases h2 with ⟨rfl,-,-,y,hy,-,hby,hv,-⟩ | ⟨rfl,-,-,hno⟩ | ⟨-,-,-,⟨d,d0,d1,d2,d3⟩,y,hy⟩
  ·have hl:(BPof V os rs bs zs).Le y fun k=>l.getD k 0:=zQl lo (zPR hy hb hz)
   have hcg:∀ k,k<V->((List.range V).map y).getD k 0=y k:=(fun k hk=>zAS _ _ hk);refine .inr ⟨v,s,(List.range V).map y,rfl,by simp,hv.imp (fun _ _ _=>trivial) fun _ _ hq=>hq.imp fun _ _ _=>trivial,?_,fun hs=>?_⟩
   ·have ll':l.length=V:=ll;exact zP8 (rs:=rs) (bs:=bs) (zs:=zs) hc (by omega) (by simp) (by simp [ll']) (hl.congr (fun k hk=>(hcg k hk).symm) fun _ _=>rfl)
   ·have hl2:=hby _ hs;apply List.ext_getElem
    ·simp [show l.length=V from ll]
    ·intro k h1 h2;have hk:k<V:=(by simpa using h1);have:=hl.antisymm hl2 hk;simp only [List.getElem_map,List.getElem_range];rw [this];simp [gdd,h2]
  ·exact .inl ⟨hno _,v,s,rfl⟩
  ·exact absurd lo ((zQh (zPR hy hb hz) hb hz d0 d1 d2 d3).no_optimal _)
 ·refine .inl ⟨e1,v,s,?_⟩;rcases h2 with ⟨-,-,-,y,hy,-⟩ | ⟨rfl,-⟩ | ⟨-,-,-,-,y,hy⟩
  ·exact absurd (zPR hy hb hz) (no1 y)
  ·rfl
  ·exact absurd (zPR hy hb hz) (no1 y)
 ·refine .inr (.inl ⟨e1,v,s,?_⟩);rcases h2 with ⟨-,-,-,y,hy,hr,-⟩ | ⟨rfl,-⟩ | ⟨rfl,-⟩
  ·exact absurd (zQi hu hb hz) hr
  ·exact .inl rfl
  ·exact .inr rfl
open Go.RowKit Go.Shelf
theorem MPart.mat {m:List (List Rat)} (h:MPart lo hi b m w) (hl:m.length<=9223372036854775807):MatCan w (fun x=>lo<=x/\x<hi) (fun x=>lo<=x/\x<hi) ⟨some ⟨b,0,none⟩,m.length,m.length⟩ m:=by
 obtain ⟨h1,h2,cs,sv,h3,h4,h5⟩:=h;exact ⟨rfl,nlr _,hl,fun i hi=>⟨⟨b,0,none⟩,sv i,rfl,⟨h1,h2⟩,by rw [zA4,Nat.zero_add]; simp only [World.cell?,h3]; exact (h5 i hi).1,(h5 i hi).2.imp (fun _ _ h=>⟨h.1,h.2.1⟩) fun _ _ hq=>hq.imp fun _ _ h=>⟨h.1,h.2.1⟩⟩⟩
theorem VPart.vec (h:VPart lo hi b l w) (hl:l.length<=9223372036854775807):VecCan w (fun x=>lo<=x/\x<hi) (fun x=>lo<=x/\x<hi) ⟨some ⟨b,0,none⟩,l.length,l.length⟩ l:=by
 obtain ⟨h1,h2,h3⟩:=h;exact (h3.vec hl _ (nlr _) hl).imp (fun x _ hx=>by subst hx; exact ⟨h1,h2⟩) fun _ _ hq=>hq.imp fun x _ hx=>by have:=Classical.not_not.1 hx; exact ⟨this.1,this.2.1⟩
theorem CopyRet.lpis {e:Ending} (h:CopyRet w p.n os rs bs e w') (hp:LPIs w X Y L p os rs bs) :
  ∃ q:LPV,e = .returned q.val/\q.n=p.n/\q.O.n=p.O.n/\q.R.n=p.R.n/\q.B.n=p.B.n/\LPIs w' (fun x=>w.heap.size<=x/\x<w'.heap.size) (fun x=>w.heap.size<=x/\x<w'.heap.size) (L+1) q os rs bs:=by
 obtain ⟨k0,k1,k2,k3,b1,b2,b3,hk0,hk3,rfl,g1,g2,g3⟩:=h;have e1:=hp.obj.len;have e2:=hp.rows.len;have e3:=hp.bounds.len;have c1:=nlt hp.obj.le hp.obj.cap;have c2:=nlt hp.rows.le hp.rows.cap;have c3:=nlt hp.bounds.le hp.bounds.cap;have o1:k0<=b1/\b1<k1:=⟨g1.1,g1.2.1⟩;have o2:k1<=b2/\b2<k2:=⟨g2.1,g2.2.1⟩;have o3:k2<=b3/\b3<k3:=⟨g3.1,g3.2.1⟩;refine ⟨⟨p.n,⟨some ⟨b1,0,none⟩,os.length,os.length⟩,⟨some ⟨b2,0,none⟩,rs.length,rs.length⟩,⟨some ⟨b3,0,none⟩,bs.length,bs.length⟩⟩,rfl,rfl,e1,e2,e3,?_⟩
 have hm:∀ {lo hi:Nat} {s:SV} {m:List (List Rat)},MatCan w' (fun x=>lo<=x/\x<hi) (fun x=>lo<=x/\x<hi) s m->w.heap.size<=lo->hi<=w'.heap.size->(∀ i k,QFit (L+1) ((m.getD i []).getD k 0))->MatIs w' (fun x=>w.heap.size<=x/\x<w'.heap.size) (fun x=>w.heap.size<=x/\x<w'.heap.size) (L+1) s m:=fun {lo hi s m} hm h1 h2 hf=>⟨hm.len,hm.le,hm.cap,fun i hi=>by
  obtain ⟨ad,r,e,hx,hc,hv⟩:=hm.row i hi;exact ⟨ad,r,e,⟨by omega,by omega⟩,hc,(hv.loose fun k=>hf i k).imp (fun b _ hb=>⟨by omega,by omega⟩) fun _ _ hq=>hq.imp fun b _ hb=>⟨by omega,by omega⟩⟩⟩
 exact ⟨hm (g1.mat (by omega)) hk0 (by omega) hp.obj.fit,hm (g2.mat (by omega)) (by omega) (by omega) hp.rows.fit,((g3.vec (by omega)).loose hp.bounds.fit).imp (fun b _ hb=>⟨by omega,by omega⟩) fun _ _ hq=>hq.imp fun b _ hb=>⟨by omega,by omega⟩⟩
theorem BinF.valid {b:BinV} (h:BinF w b V os rs bs zs):Calls Tryz.prog 18 #[b.val] w fun e w'=>e = .returned (.bool true)/\Below w w w':=
 zKZ (X:=AllB) (Y:=AllB) (os:=os) (rs:=rs) (bs:=bs) (B:=BPof V os rs bs zs) (fun w2 hb2=>zBv (h.lp.below hb2) h.n (by have:=h.V4; omega) h.o1 h.o2 (by have:=h.r; omega) h.bn h.co h.cr) h.n rfl (by have:=h.V4; omega) (by have:=h.z4; show zs.length<=12; omega) (zOi h.zok) (h.z.bin fun i hi=>(h.zok i hi).1)
theorem LPIs.imp (h:LPIs w X Y L p os rs bs) (hx:∀ b,b<w.heap.size->X b->X' b) (hy:∀ b,b<w.heap.size->Y b->Y' b):LPIs w X' Y' L p os rs bs:=
 ⟨h.obj.imp hx fun _ _ hq=>hq.imp hy,h.rows.imp hx fun _ _ hq=>hq.imp hy,h.bounds.imp hx fun _ _ hq=>hq.imp hy⟩
def Box4q (W:World) (b:Nat) (q:LPV):Prop:=Box4 W b (.int .i64 q.n) (.slice q.O.A q.O.n q.O.c) (.slice q.R.A q.R.n q.R.c) (.slice q.B.A q.B.n q.B.c)
def RxL (w:World) (pb V:Nat) (v0 v1 v2 v3 v4:Value) (os rs:List (List Rat)) (bs:List Rat) (zs:List Int) (on rn:Nat) (t:Value) (W:World):Prop:=
 ∃ (i:Nat) (q:LPV),i<=zs.length/\t = .int .i64 (i:Int)/\Below w w W/\w.heap.size+1<pb/\Box5 W w v0 v1 v2 v3 v4/\Box4 W (w+1) (.int .i64 0) (.slice none 0 0) (.slice none 0 0) (.slice none 0 0)/\Box4q W pb q/\
  q.n=V/\q.O.n=on/\q.R.n=rn+i/\q.B.n=rn+i/\LPIs W (fun x=>w.heap.size+2<=x/\x ≠ pb) (fun x=>w.heap.size+2<=x/\x ≠ pb) (9+i) q os (rxR V rs (zs.take i)) (rxB bs (zs.take i))
theorem zP4 (h:colsOf rs<=V):colsOf (rxR V rs zs)<=V:=by
 rw [zAU] at h ⊢;intro r hr;rcases List.mem_append.1 hr with hr | hr
 ·exact h r hr
 ·obtain ⟨z,-,rfl⟩:=List.mem_map.1 hr;rw [zP5]; exact nlr _
theorem zQa (L:Nat):QFit (9+L) ((1:Int):Rat):=(show QFit 1 ((1:Int):Rat) from ⟨by decide +kernel,by decide +kernel⟩).up (by omega)
theorem RowAt.vecN (h:RowAt W G b l) (hn:l.length=n) (hn2:n<=1000):VecCan W (fun x=>x=b) (fun x=>¬ G x) ⟨some ⟨b,0,none⟩,n,n⟩ l:=by
 subst hn;exact h.vec (by omega) _ (nlr _) (by omega)
theorem zP7 (W:World):Box4 (W.alloc (.cells #[.int .i64 0,.slice none 0 0,.slice none 0 0,.slice none 0 0] 28)) W (.int .i64 0) (.slice none 0 0) (.slice none 0 0) (.slice none 0 0):=bx4
theorem zQd (W:World):Box4 (W.alloc (.cells #[.int .i64 0,.slice none 0 0,.slice none 0 0,.slice none 0 0] 28)).drew W (.int .i64 0) (.slice none 0 0) (.slice none 0 0) (.slice none 0 0):=bx4
theorem zP1 {v4:Value} (h:Box5 w b v0 v1 v2 v3 v4) (e:w'.heap[b]?=w.heap[b]?):Box5 w' b v0 v1 v2 v3 v4:=
 ⟨(cob (a:=b) e).trans h.1,(cob (a:=⟨b,1,none⟩) e).trans h.2.1,(cob (a:=⟨b,2,none⟩) e).trans h.2.2.1,(cob (a:=⟨b,3,none⟩) e).trans h.2.2.2.1,(cob (a:=⟨b,4,none⟩) e).trans h.2.2.2.2.1,fun o=>(World.frozen?_of_block (a:=⟨b,o,none⟩) e).trans (h.2.2.2.2.2 o)⟩
def RxNew (wr:World) (V L g:Nat) (os rs:List (List Rat)) (bs:List Rat) (q:LPV) (W:World):Prop:=
 wr.heap.size<=g/\Box4q W g q/\q.n=V/\Below wr wr W/\LPIs W (fun x=>wr.heap.size<=x/\x ≠ g) (fun x=>wr.heap.size<=x/\x ≠ g) L q os rs bs
theorem zPW (V m L:Nat) (z:Int) (h1:1<=V) (hV:V<=1000) (hz:z=m) (hm:m<=1000000) (hL:1<=L) :
  Calls Tryz.prog 14 #[.int .i64 (V:Int),.int .i64 (m:Int)] w fun e w'=>(∃ s:SV,e = .returned s.val/\s.n=V/\VecIs w' AllB AllB L s (uR V z))/\Below w w w':=by
 refine (zLf V m h1 hV hm).mono ?_;rintro e w' ⟨⟨rfl,hu⟩,hb⟩;have e:(List.range V).map (fun i=>if i=m then (1:Rat) else 0)=uR V z:=by rw [hz]; rfl
 rw [e] at hu;exact ⟨⟨⟨some ⟨w,0,none⟩,V,V⟩,rfl,rfl,((hu.vecN (zP5 _ _) hV).loose fun k=>(zQe V k _).up hL).imp (fun _ _ _=>trivial) fun _ _ hq=>hq.imp fun _ _ _=>trivial⟩,hb⟩
theorem zPX (L:Nat):Calls Tryz.prog 23 #[.int .i64 1] w fun e w'=>(∃ u:QV,e = .returned u.val/\QIs w' AllB (9+L) u 1)/\Below w w w':=by
 refine (zAN 1 (by decide) (by decide) _).mono ?_;rintro e w' ⟨⟨u,rfl,hu⟩,hb⟩;exact ⟨⟨u,rfl,(hu.qis (L:=9+L) (zQa _)).imp fun _ _ _=>trivial⟩,hb⟩
theorem zPQ {wr y:World} {q:LPV} (hq:LPIs y (fun x=>B<=x) (fun x=>B<=x) L q os rs bs) (hg:wr.heap.size<=g) (hB:g<B) (b:Box4 y g v0 v1 v2 v3) (hb:Below wr wr ((((y.setCell g (.int .i64 q.n)).setCell ⟨g,1,none⟩ (.slice q.O.A q.O.n q.O.c)).setCell ⟨g,2,none⟩ (.slice q.R.A q.R.n q.R.c)).setCell ⟨g,3,none⟩ (.slice q.B.A q.B.n q.B.c))) (hn:q.n=V) :
  RxNew wr V L g os rs bs q ((((y.setCell g (.int .i64 q.n)).setCell ⟨g,1,none⟩ (.slice q.O.A q.O.n q.O.c)).setCell ⟨g,2,none⟩ (.slice q.R.A q.R.n q.R.c)).setCell ⟨g,3,none⟩ (.slice q.B.A q.B.n q.B.c)):=by
 have P8:=Put.four (W:=y) g (.int .i64 q.n) (.slice q.O.A q.O.n q.O.c) (.slice q.R.A q.R.n q.R.c) (.slice q.B.A q.B.n q.B.c);exact ⟨hg,b.stored _ _ _ _,hn,hb,(hq.put P8 hB).imp (fun b _ hb=>⟨by omega,by omega⟩) fun b _ hb=>⟨by omega,by omega⟩⟩
theorem zQb {wr y:World} {q:LPV} (hq:LPIs y (fun x=>B<=x) (fun x=>B<=x) L q os rs bs) (hB:wr.heap.size<=B) (hs:wr.heap.size<=y.heap.size) (hb:Below wr wr (y.alloc (.cells #[.int .i64 q.n,.slice q.O.A q.O.n q.O.c,.slice q.R.A q.R.n q.R.c,.slice q.B.A q.B.n q.B.c] 28))) (hn:q.n=V) :
  RxNew wr V L y os rs bs q (y.alloc (.cells #[.int .i64 q.n,.slice q.O.A q.O.n q.O.c,.slice q.R.A q.R.n q.R.c,.slice q.B.A q.B.n q.B.c] 28)):=by
 have al:Below y y (y.alloc (.cells #[.int .i64 q.n,.slice q.O.A q.O.n q.O.c,.slice q.R.A q.R.n q.R.c,.slice q.B.A q.B.n q.B.c] 28)):=(brf _ _).alloc (nlr _) _;exact ⟨hs,bx4,hn,hb,(hq.imp (fun b hl hb=>⟨by omega,by omega⟩) fun b hl hb=>⟨by omega,by omega⟩).below al⟩
theorem zPP {b:BinV} (h:BinF w b V os rs bs zs) :
  Calls Tryz.prog 50 #[b.val] w fun e w'=>(∃ q:LPV,e = .returned (.tuple #[q.val,.int .i64 0])/\q.n=V/\q.O.n=b.p.O.n/\q.R.n=b.p.R.n+zs.length/\q.B.n=q.R.n/\LPIs w' AllB AllB (9+zs.length) q os (rxR V rs zs) (rxB bs zs))/\Below w w w':=by
 obtain ⟨⟨n,⟨oA,on,oc⟩,⟨rA,rn,rc⟩,⟨bA,bn,bc⟩⟩,⟨iA,iN,ic⟩⟩:=b;obtain rfl:n=V:=h.n;obtain rfl:rn=bn:=h.bn.symm;have hV4:V<=4:=h.V4;have hr5:rn<=5:=h.r;have hz4:zs.length<=4:=h.z4;have hzl:zs.length=iN:=h.z.len;have hi1:iN<=ic:=h.z.le;have hi2:ic<=9223372036854775807:=h.z.cap;have HZl:=hdq hzl;have H:=hdq h;clear h;dsimp only [BinV.val,LPV.val,SV.val] at *;go_enter Tryz.func50,Tryz.ntmps50
 go_upto_region 1 with fail
 refine zAo (fun W=>Below w w W/\Box5 W w (.int .i64 V) (.slice oA on oc) (.slice rA rn rc) (.slice bA rn bc) (.slice iA iN ic)/\Box4 W (w+1) (.int .i64 0) (.slice none 0 0) (.slice none 0 0) (.slice none 0 0)/\w.heap.size<W.heap.size/\w.heap.size+1<W.heap.size) ⟨(az (az (brf _ _))),⟨by go_simp,by go_simp,by go_simp,by go_simp,by go_simp,by intro o; go_simp⟩,bx4,by simp <;> omega,by simp <;> omega⟩ ?_;rintro W ⟨hbW,bP,bR,s0,s1⟩;have hBW:=hbW.size;obtain ⟨p0,p1,p2,p3,p4,-⟩:=id bP;clear hBW;go_wp2_with fail
 refine (BinF.valid (b:=⟨⟨V,⟨oA,on,oc⟩,⟨rA,rn,rc⟩,⟨bA,rn,bc⟩⟩,⟨iA,iN,ic⟩⟩) (H.out.below hbW)).mono ?_;rintro e w1 ⟨rfl,hb1⟩;replace bP:=bP.below hb1 s0;replace bR:=bR.below hb1 s1;replace s0:=ltl s0 hb1.size;replace s1:=ltl s1 hb1.size;replace hbW:=hbW.trans (hb1.mono hbW.size);clear p0 p1 p2 p3 p4;obtain ⟨p0,p1,p2,p3,p4,-⟩:=id bP;clear hb1;have hg:¬ ((128:Int)<(rn:Int)+(iN:Int)):=by omega
 have hg2:IntKind.i64.wrap ((rn:Int)+(iN:Int))=(rn:Int)+(iN:Int):=IntWalk.i64_in _ (by omega);go_wp2_with fail
 refine (zPV (p:=⟨V,⟨oA,on,oc⟩,⟨rA,rn,rc⟩,⟨bA,rn,bc⟩⟩) (H.out.below hbW).lp (by have:=H.out.o2; dsimp only at this; show on<=_; omega) (by show rn<=_; omega) (by show rn<=_; omega) (fun i=>nlt (zBT H.out.co i) (by omega)) (fun i=>nlt (zBT H.out.cr i) (by omega)) (by rw [zAZ]; decide)).mono ?_;rintro e w2 ⟨hcp,hb2⟩;obtain ⟨⟨z,⟨xA,xn,xc⟩,⟨yA,yn,yc⟩,⟨uA,un,uc⟩⟩,rfl,hz,e1,e2,e3,hq⟩:=CopyRet.lpis (p:=⟨V,⟨oA,on,oc⟩,⟨rA,rn,rc⟩,⟨bA,rn,bc⟩⟩) hcp (H.out.below hbW).lp;dsimp only at hz e1 e2 e3;subst hz e1 e2 e3;have HQ:=hdq hq;have hsz2:=hb2.size;have hs1w:=s1;replace bP:=bP.below hb2 s0;replace bR:=bR.below hb2 s1;replace s0:=ltl s0 hb2.size;replace s1:=ltl s1 hb2.size;replace hbW:=hbW.trans (hb2.mono hbW.size);clear p0 p1 p2 p3 p4;obtain ⟨p0,p1,p2,p3,p4,-⟩:=id bP;clear hq hcp hg hg2;dsimp only at *;go_upto_region 4 with fail
 have al:Below w2 w2 (w2.alloc (.cells #[.int .i64 V,.slice xA xn xc,.slice yA un yc,.slice uA un uc] 28)):=(brf _ _).alloc (nlr _) _
 have H0:RxL w w2 V (.int .i64 V) (.slice oA xn oc) (.slice rA un rc) (.slice bA un bc) (.slice iA iN ic) os rs bs zs xn un (.int .i64 0) (w2.alloc (.cells #[.int .i64 V,.slice xA xn xc,.slice yA un yc,.slice uA un uc] 28)):=
  ⟨0,⟨V,⟨xA,xn,xc⟩,⟨yA,un,yc⟩,⟨uA,un,uc⟩⟩,nzl _,rfl,hbW.trans (al.mono hbW.size),s1,bP.below al s0,bR.below al s1,bx4,rfl,rfl,rfl,rfl,by
   rw [List.take_zero,show rxR V rs []=rs by simp [rxR],show rxB bs []=bs by simp [rxB]];exact (HQ.out.below al).imp (fun b _ hb=>⟨by have:=hb.1; omega,by have:=hb.2; omega⟩) fun b _ hb=>⟨by have:=hb.1; omega,by have:=hb.2; omega⟩⟩
 clear HQ;generalize w2.alloc (.cells #[.int .i64 V,.slice xA xn xc,.slice yA un yc,.slice uA un uc] 28)=W3 at *;have bP3:=bP.below al s0;obtain ⟨t0,t1,t2,t3,t4,-⟩:=id bP3;generalize w2.heap.size=pb at *;clear al bP bR p0 p1 p2 p3 p4 hbW s0 s1 bP3 t0 t1 t2 t3 hsz2 hs1w;go_wp2;go_loopw [30] (fun t W=>RxL w pb V (.int .i64 V) (.slice oA xn oc) (.slice rA un rc) (.slice bA un bc) (.slice iA iN ic) os rs bs zs xn un t W) (fun t _=>iN-(intOf t).toNat)
 case atStart=>exact H0
 case round=>
  clear H0 t4;obtain ⟨i,⟨z,⟨xA,xm,xc⟩,⟨yA,yn,yc⟩,⟨uA,un',uc⟩⟩,hi,rfl,hbW,hpb,bP,bR,bQ,hz,e1,e2,e3,hq⟩:=hrel;dsimp only at hz e1 e2 e3;subst hz e1 e2 e3;obtain ⟨q0,q1,q2,q3,qf⟩:=id bQ;have s0:w.heap.size<wr.heap.size:=zAb bP.1;have s1:w.heap.size+1<wr.heap.size:=zAb bR.1;have sq:pb<wr.heap.size:=zAb q0;dsimp only at q0 q1 q2 q3;by_cases hlt:i<iN
  ·have hki:(i:Int)<(iN:Int):=(by omega);obtain ⟨ad,ea,hcell⟩:=H.out.z.cell i hlt;cases ea;obtain ⟨hz0,hz1,-⟩:=H.out.zok i (by omega);obtain ⟨m,hm⟩:∃ m:Nat,zs.getD i 0=m:=⟨(zs.getD i 0).toNat,by omega⟩;rw [hm] at hcell hz1;have HM:=hdq hm;have hcw:=(hbW.cell (zAb hcell)).trans hcell;have hmV:m<V:=(by omega);clear hm hz0 hcell;(go_upto_region 7 with fail);have hbw:=hbW.size;have HQ:=hdq hq;have HC:=hdq (zP4 (zs:=zs.take i) H.out.cr);have HL9:Hid (9+i+1<=LM):=hdq (by rw [zAZ]; omega);have hr127:un+i<=127:=(by omega);have hV64:V<=64:=(by omega);clear hq;go_cut [7,8,30] from 30 to 49 (fun p f t W=>t = .int .i64 (i:Int)/\f = .int .i64 0/\∃ (g:Nat) (q:LPV),p = .pointer (some g)/\RxNew wr V (9+i+1) g os (rxR V rs (zs.take i)++[uR V (zs.getD i 0)]) (rxB bs (zs.take i)++[1]) q W)
   case first=>
    go_region_held3 (Sees w [] wr) (exact kp)
     (first
      | (go_at_call 14; ((with_reducible refine (zPW V m (9+i) (zs.getD i 0) (by omega) (by omega) HM.out (by omega) (by omega)).mono ?_); rintro e y1 ⟨⟨⟨sA,sn,sc⟩,rfl,hsn,hu⟩,hc1⟩; (dsimp only at hsn; subst hsn); (have sz1:wr.heap.size<=y1.heap.size:=by exact nlt (Sees.kept (by assumption):Kept w [] wr _).size hc1.size); (obtain ⟨hcc1,hf1⟩:=bcell hc1); (have lt1:=fun (b:Nat) h=>ltl (n:=b) h hc1.size)))
      | (go_at_call 23; ((with_reducible refine (zPX i).mono ?_); rintro e y2 ⟨⟨u,rfl,hv⟩,hc2⟩; (have sz2:wr.heap.size<=y2.heap.size:=by exact nlt (Sees.kept (by assumption):Kept w [] wr _).size hc2.size); (obtain ⟨hcc2,hf2⟩:=bcell hc2); (have lt2:=fun (b:Nat) h=>ltl (n:=b) h hc2.size)))
      | (go_at_call 29; ((with_reducible refine (zNp (p:=⟨sn,⟨xA,xm,xc⟩,⟨yA,un+i,yc⟩,⟨uA,un+i,uc⟩⟩) (r:=⟨sA,sn,sc⟩) (mv:=u) (HQ.out.below (Sees.kept (by assumption)).whole) rfl hV64 H.out.o1 H.out.o2 hr127 rfl H.out.co HC.out HL9.out (hu.below hc2) hv (nlr _)).mono ?_); rintro e y3 ⟨⟨⟨zq,⟨qa,qm,qc⟩,⟨ra,rm,rd⟩,⟨ba,bm,bd⟩⟩,rfl,hqn,hq3⟩,hc3⟩; (dsimp only at hqn; subst hqn); (have sz3:wr.heap.size<=y3.heap.size:=by exact nlt (Sees.kept (by assumption):Kept w [] wr _).size hc3.size); (obtain ⟨hcc3,hf3⟩:=bcell hc3); (have lt3:=fun (b:Nat) h=>ltl (n:=b) h hc3.size); (obtain ⟨hcc13,hf13⟩:=bcell ((hc1.trans (hc2.mono hc1.size)).trans (hc3.mono (nlt hc1.size hc2.size))))))
      | (go_at_call 29; ((with_reducible refine (zNp (p:=⟨sn,⟨xA,xm,xc⟩,⟨yA,un+i,yc⟩,⟨uA,un+i,uc⟩⟩) (r:=⟨sA,sn,sc⟩) (mv:=u) (HQ.out.below (Sees.kept (by assumption)).whole) rfl hV64 H.out.o1 H.out.o2 hr127 rfl H.out.co HC.out HL9.out (hu.below (((brf _ _).alloc (nlr _) _).trans (hc2.mono (by simp)))) hv (nlr _)).mono ?_); rintro e y3 ⟨⟨⟨zq,⟨qa,qm,qc⟩,⟨ra,rm,rd⟩,⟨ba,bm,bd⟩⟩,rfl,hqn,hq3⟩,hc3⟩; (dsimp only at hqn; subst hqn); (have sz3:wr.heap.size<=y3.heap.size:=by exact nlt (Sees.kept (by assumption):Kept w [] wr _).size hc3.size); (obtain ⟨hcc3,hf3⟩:=bcell hc3); (have lt3:=fun (b:Nat) h=>ltl (n:=b) h hc3.size); (obtain ⟨hcc23,hf23⟩:=bcell (hc2.trans (hc3.mono hc2.size)))))
      | (go_at_call 29; ((with_reducible refine (zNp (p:=⟨sn,⟨xA,xm,xc⟩,⟨yA,un+i,yc⟩,⟨uA,un+i,uc⟩⟩) (r:=⟨sA,sn,sc⟩) (mv:=u) (HQ.out.below (Sees.kept (by assumption)).whole) rfl hV64 H.out.o1 H.out.o2 hr127 rfl H.out.co HC.out HL9.out (hu.below (hc2.alloc hc2.size _)) (hv.below ((brf _ _).alloc (nlr _) _)) (nlr _)).mono ?_); rintro e y3 ⟨⟨⟨zq,⟨qa,qm,qc⟩,⟨ra,rm,rd⟩,⟨ba,bm,bd⟩⟩,rfl,hqn,hq3⟩,hc3⟩; (dsimp only at hqn; subst hqn); (have sz3:wr.heap.size<=y3.heap.size:=by exact nlt (Sees.kept (by assumption):Kept w [] wr _).size hc3.size); (obtain ⟨hcc3,hf3⟩:=bcell hc3); (have lt3:=fun (b:Nat) h=>ltl (n:=b) h hc3.size)))
      | fail)
    ·rename_i hS;(go_wp2_with fail);go_meet;case rel=>exact ⟨rfl,rfl,_,⟨sn,⟨qa,qm,qc⟩,⟨ra,rm,rd⟩,⟨ba,bm,bd⟩⟩,rfl,zQb hq3 sz2 sz3 hS.kept.whole rfl⟩
    ·rename_i hS;(go_wp2_with fail);go_meet;case rel=>exact ⟨rfl,rfl,_,⟨sn,⟨qa,qm,qc⟩,⟨ra,rm,rd⟩,⟨ba,bm,bd⟩⟩,rfl,zPQ hq3 sz2 (by simp) ((zP7 y2).below hc3 (by simp)) hS.kept.whole rfl⟩
    ·rename_i hS;(go_wp2_with fail);go_meet;case rel=>exact ⟨rfl,rfl,_,⟨sn,⟨qa,qm,qc⟩,⟨ra,rm,rd⟩,⟨ba,bm,bd⟩⟩,rfl,zPQ hq3 sz1 (lt2 _ (by simp)) (((zP7 y1).below hc2 (by simp)).below hc3 (lt2 _ (by simp))) hS.kept.whole rfl⟩
    ·rename_i hS;(go_wp2_with fail);go_meet;case rel=>exact ⟨rfl,rfl,_,⟨sn,⟨qa,qm,qc⟩,⟨ra,rm,rd⟩,⟨ba,bm,bd⟩⟩,rfl,zPQ hq3 (nlr _) (lt2 _ (lt1 _ (by simp))) ((((zQd wr).below hc1 (by simp)).below hc2 (lt1 _ (by simp))).below hc3 (lt2 _ (lt1 _ (by simp)))) hS.kept.whole rfl⟩
   case rest=>
    obtain ⟨rfl,rfl,g,⟨zq,⟨qa,qm,qc⟩,⟨ra,rm,rd⟩,⟨ba,bm,bd⟩⟩,rfl,hg,hbq,hqn,hbel,hq'⟩:=hcut;dsimp only at hqn;subst hqn;have bP':=bP.below hbel s0;have bR':=bR.below hbel s1;have bQ':=bQ.below hbel sq;have P8:=Put.four (W:=wc) pb (.int .i64 V) (.slice qa qm qc) (.slice ra rm rd) (.slice ba bm bd)
    have el:zs.take (i+1)=zs.take i++[zs.getD i 0]:=by
     rw [List.take_add_one,gge (by omega)];simp [gdd,show i<zs.length by omega]
    have l1:=hq'.obj.len;have l2:=hq'.rows.len;have l3:=hq'.bounds.len;have l4:=H.out.lp.obj.len;have l5:=H.out.lp.rows.len;have l6:=H.out.lp.bounds.len;dsimp only at l1 l2 l3 l4 l5 l6
    have Hfin:Hid (RxL w pb V (.int .i64 V) (.slice oA xm oc) (.slice rA un rc) (.slice bA un bc) (.slice (some ad) iN ic) os rs bs zs xm un (.int .i64 ((i:Int)+1)) ((((wc.setCell pb (.int .i64 V)).setCell ⟨pb,1,none⟩ (.slice qa qm qc)).setCell ⟨pb,2,none⟩ (.slice ra rm rd)).setCell ⟨pb,3,none⟩ (.slice ba bm bd))):=hdq
     ⟨i+1,⟨V,⟨qa,qm,qc⟩,⟨ra,rm,rd⟩,⟨ba,bm,bd⟩⟩,by omega,by simp,(hbW.trans (hbel.mono hbw)).trans (P8.below _ (by omega)),hpb,zP1 bP' (P8.keep _ (by omega)),bR'.heap (P8.keep _ (by omega)),bQ'.stored _ _ _ _,rfl,by show qm=xm; omega,by show rm=un+(i+1); rw [<-l2]; simp [rxR]; omega,by show bm=un+(i+1); rw [<-l3]; simp [rxB]; omega,by
      rw [el,show rxR V rs (zs.take i++[zs.getD i 0])=rxR V rs (zs.take i)++[uR V (zs.getD i 0)] by simp [rxR],show rxB bs (zs.take i++[zs.getD i 0])=rxB bs (zs.take i)++[1] by simp [rxB]];exact ((hq'.imp (X':=fun x=>wr.heap.size<=x) (Y':=fun x=>wr.heap.size<=x) (fun b _ hb=>hb.1) fun b _ hb=>hb.1).put P8 sq).imp (fun b _ hb=>⟨by omega,by omega⟩) fun b _ hb=>⟨by omega,by omega⟩⟩
    obtain ⟨g0,g1,g2,g3,-⟩:=id hbq;obtain ⟨r0,r1,r2,r3,rf⟩:=id bQ';clear q0 q1 q2 q3 qf P8 bP' bR' bQ' hq' HQ l1 l2 l3 l4 l5 l6 el bP bR bQ hbq;go_wp2;go_roundw;case rel=>exact fn_ Hfin.out
    case measure=>simp [intOf]; omega
  ·(obtain rfl:i=iN:=by omega);obtain ⟨r0,r1,r2,r3,rf⟩:=id bR;have P8:=Put.four (W:=wr) (w+1) (.int .i64 V) (.slice xA xm xc) (.slice yA (un+i) yc) (.slice uA (un+i) uc);have bR8:=bR.stored (.int .i64 V) (.slice xA xm xc) (.slice yA (un+i) yc) (.slice uA (un+i) uc);have hqf:=(((hq.imp (X':=fun x=>w.heap.size+2<=x) (Y':=fun x=>w.heap.size+2<=x) (fun b _ hb=>hb.1) fun b _ hb=>hb.1).put P8 (by omega)).imp (X':=AllB) (Y':=AllB) (fun _ _ _=>trivial) fun _ _ _=>trivial);rw [List.take_of_length_le (by omega)] at hqf;have HQ:=hdq hqf;have hbf:=hdq (hbW.trans (P8.below _ (by omega)));clear hq hqf P8 bP bQ qf;go_wp2;generalize (((wr.setCell ⟨w+1,0,none⟩ (.int .i64 V)).setCell ⟨w.heap.size+1,1,none⟩ (.slice xA xm xc)).setCell ⟨w.heap.size+1,2,none⟩ (.slice yA (un+i) yc)).setCell ⟨w.heap.size+1,3,none⟩ (.slice uA (un+i) uc)=y8 at *;clear r0 r1 r2 r3 rf;obtain ⟨r0,r1,r2,r3,-⟩:=id bR8;(try rw [Exit.noGoto_ret]);exact bodyPost_ret (v:=.tuple #[.agg #[.int .i64 V,.slice xA xm xc,.slice yA (un+i) yc,.slice uA (un+i) uc],.int .i64 0]) (by simp [results,Tryz.results50,go_sem,r0,r1,r2,r3]) rfl ⟨⟨⟨V,⟨xA,xm,xc⟩,⟨yA,un+i,yc⟩,⟨uA,un+i,uc⟩⟩,rfl,rfl,rfl,by rw [HZl.out],rfl,by rw [HZl.out]; exact HQ.out⟩,hbf.out⟩
theorem LPRaw.raw3 (h:LPRaw w X (QAny w Y) p os rs bs) (hb:Below w w w'):LPRaw w' X (fun _ _=>True) p os rs bs:=
 ⟨(h.obj.belowA hb).imp (fun _ _ h=>h) fun _ _ _=>trivial,(h.rows.belowA hb).imp (fun _ _ h=>h) fun _ _ _=>trivial,(h.bounds.belowA hb).imp (fun _ _ h=>h) fun _ _ _=>trivial⟩
theorem zQj (h:∀ i,i<zs.length->ZOk V zs i):∀ z ∈ zs,z.toNat<V:=fun z hz=>by
 obtain ⟨j,hj,rfl⟩:=List.getElem_of_mem hz;obtain ⟨h1,h2,-⟩:=h j hj;have e:zs.getD j 0=zs[j]:=by simp [gdd,hj]
 rw [e] at h1 h2;omega
theorem zPU {b:BinV} (h:LPRaw w AllB (QAny w AllB) b.p os rs bs) (hzs:IntsAt w b.bin zs) :
  Calls Tryz.prog 10 #[b.val] w fun e w'=>e = .returned (.bool true)/\Below w w w':=by
 obtain ⟨⟨n,⟨oA,on,oc⟩,⟨rA,rn,rc⟩,⟨bA,bn,bc⟩⟩,⟨iA,iN,ic⟩⟩:=b;have hi1:iN<=ic:=hzs.le;have hi2:ic<=9223372036854775807:=hzs.cap;have hzl:zs.length=iN:=hzs.len;have HZl:=hdq hzl;replace h:=hdq h;replace hzs:=hdq hzs;clear hzl;dsimp only [BinV.val,LPV.val,SV.val] at *;go_enter Tryz.func10,Tryz.ntmps10
 go_upto_region 1 with fail
 refine zAo (fun W=>Below w w W/\Box5 W w (.int .i64 n) (.slice oA on oc) (.slice rA rn rc) (.slice bA bn bc) (.slice iA iN ic)/\w.heap.size<W.heap.size) ⟨(az (brf _ _)),⟨by go_simp,by go_simp,by go_simp,by go_simp,by go_simp,by intro o; go_simp⟩,by simp <;> omega⟩ ?_;rintro W ⟨hbW,bP,s0⟩;have hBW:=hbW.size;obtain ⟨p0,p1,p2,p3,p4,-⟩:=id bP;clear hBW;go_wp2_with fail
 refine (zNL (b:=⟨⟨n,⟨oA,on,oc⟩,⟨rA,rn,rc⟩,⟨bA,bn,bc⟩⟩,⟨iA,iN,ic⟩⟩) (h.out.below hbW) (by show iN<=_; omega)).mono ?_;rintro e w1 ⟨⟨c,rfl,hbb⟩,hb1⟩
 cases c with
 | true=>
  clear hbb;replace bP:=bP.below hb1 s0;replace s0:=ltl s0 hb1.size;replace hbW:=hbW.trans (hb1.mono hbW.size);clear p0 p1 p2 p3 p4;obtain ⟨p0,p1,p2,p3,p4,-⟩:=id bP;go_wp2_with fail
  refine zLi.mono ?_;rintro e wl ⟨rfl,hbl⟩;have hbf:=hbW.trans (hbl.mono hbW.size);go_wp2;go_ret
  exact ⟨rfl,hbf⟩
 | false=>
  have HS:=hdq (And.intro (Short6.back h.out hbW (hbb rfl).1) (hbb rfl).2);clear hbb;replace bP:=bP.below hb1 s0;replace s0:=ltl s0 hb1.size;replace hbW:=hbW.trans (hb1.mono hbW.size);clear p0 p1 p2 p3 p4;obtain ⟨p0,p1,p2,p3,p4,-⟩:=id bP;go_wp2_with fail
  refine (zNN (b:=⟨⟨n,⟨oA,on,oc⟩,⟨rA,rn,rc⟩,⟨bA,bn,bc⟩⟩,⟨iA,iN,ic⟩⟩) (fun w' hb=>(h.out.below hbW).raw3 hb) (hzs.out.below hbW)).mono ?_;rintro e w2 ⟨⟨c,rfl,hmm⟩,hb2⟩;replace bP:=bP.below hb2 s0;replace s0:=ltl s0 hb2.size;replace hbW:=hbW.trans (hb2.mono hbW.size);clear p0 p1 p2 p3 p4;obtain ⟨p0,p1,p2,p3,p4,-⟩:=id bP
  cases c with
  | false=>
   clear hmm;(go_wp2_with fail);refine zLi.mono ?_;rintro e wl ⟨rfl,hbl⟩;have hbf:=hbW.trans (hbl.mono hbW.size);go_wp2;go_ret
   exact ⟨rfl,hbf⟩
  | true=>
   have HMy:=hdq (hmm rfl);clear hmm hb1 hb2;by_cases h3:3<iN
   ·have h3':(3:Int)<(iN:Int):=(by omega);(go_wp2_with fail);refine zLi.mono ?_;rintro e wl ⟨rfl,hbl⟩;have hbf:=hbW.trans (hbl.mono hbW.size);go_wp2;go_ret;exact ⟨rfl,hbf⟩
   ·have h3':¬ (3:Int)<(iN:Int):=(by omega);have HF:=hdq (zHY HS.out.1 HS.out.2 HMy.out.1);obtain ⟨V,rfl⟩:∃ V:Nat,n=V:=⟨n.toNat,by have:=HF.out.1; show n=(n.toNat:Int); simp only at this; omega⟩;have HFb:Hid (BinF w ⟨⟨V,⟨oA,on,oc⟩,⟨rA,rn,rc⟩,⟨bA,bn,bc⟩⟩,⟨iA,iN,ic⟩⟩ V os rs bs zs):=hdq ⟨rfl,by have:=HF.out.2.1; show V<=4; simp only at this; omega,HF.out.2.2.1,HF.out.2.2.2.1,by have:=HF.out.2.2.2.2.1; show rn<=5; simp only at this; omega,HF.out.2.2.2.2.2.1,by have:=HF.out.2.2.2.2.2.2.1; show colsOf os<=V; simp only at this; omega,by have:=HF.out.2.2.2.2.2.2.2.1; show colsOf rs<=V; simp only at this; omega,HF.out.2.2.2.2.2.2.2.2.more (by decide),hzs.out,by rw [HZl.out]; omega,HMy.out.2.2⟩;have hV4:V<=4:=HFb.out.V4;clear HF HS HMy h;(go_wp2_with fail);refine (zPP (b:=⟨⟨V,⟨oA,on,oc⟩,⟨rA,rn,rc⟩,⟨bA,bn,bc⟩⟩,⟨iA,iN,ic⟩⟩) (HFb.out.below hbW)).mono ?_;rintro e w3 ⟨⟨⟨zq,⟨xA,xm,xc⟩,⟨yA,ym,yc⟩,⟨uA,um,uc⟩⟩,rfl,e0,e1,e2,e3,hq⟩,hb3⟩;dsimp only at e0 e1 e2 e3;subst e0 e1 e3;have HQ:=hdq hq;have hr5:rn<=5:=HFb.out.r;have hym:um<=128:=by have:=HZl.out; omega
    clear hq e2;replace bP:=bP.below hb3 s0;replace s0:=ltl s0 hb3.size;replace hbW:=hbW.trans (hb3.mono hbW.size);clear p0 p1 p2 p3 p4;obtain ⟨p0,p1,p2,p3,p4,-⟩:=id bP;(go_upto_region 4 with fail);have al:Below w3 w3 (w3.alloc (.cells #[.int .i64 V,.slice xA xm xc,.slice yA um yc,.slice uA um uc] 28)):=(brf _ _).alloc (nlr _) _;have bQ:Box4 (w3.alloc (.cells #[.int .i64 V,.slice xA xm xc,.slice yA um yc,.slice uA um uc] 28)) w3 (.int .i64 V) (.slice xA xm xc) (.slice yA um yc) (.slice uA um uc):=bx4;replace bP:=bP.below al s0;replace s0:=ltl s0 al.size;replace hbW:=hbW.trans (al.mono hbW.size);clear p0 p1 p2 p3 p4;obtain ⟨p0,p1,p2,p3,p4,-⟩:=id bP;replace HQ:=hdq (HQ.out.below al);clear al;generalize w3.alloc (.cells #[.int .i64 V,.slice xA xm xc,.slice yA um yc,.slice uA um uc] 28)=W3 at *;generalize w3.heap.size=pb at *;obtain ⟨q0,q1,q2,q3,-⟩:=id bQ;(go_wp2_with fail);refine (zPN (p:=⟨V,⟨xA,xm,xc⟩,⟨yA,um,yc⟩,⟨uA,um,uc⟩⟩) (V:=V) HQ.out rfl (by omega) HFb.out.o1 HFb.out.o2 hym rfl HFb.out.co (zP4 HFb.out.cr) (by rw [HZl.out]; omega)).mono ?_;rintro e w4 ⟨⟨r,rfl,hsol⟩,hb4⟩;replace bP:=bP.below hb4 s0;replace s0:=ltl s0 hb4.size;replace hbW:=hbW.trans (hb4.mono hbW.size);clear p0 p1 p2 p3 p4;obtain ⟨p0,p1,p2,p3,p4,-⟩:=id bP;clear q0 q1 q2 q3 bQ HQ;(go_upto_region 5 with fail);obtain ⟨rk,⟨vA,vn,vc⟩,⟨y1,y2,y3⟩,⟨r1,r2,r3⟩,⟨f1,f2,f3⟩,rpv⟩:=r;dsimp only [SV.val];have al:Below w4 w4 (w4.alloc (.cells #[.int .u8 rk,.slice vA vn vc,.slice y1 y2 y3,.slice r1 r2 r3,.slice f1 f2 f3,.int .i64 rpv] 80)):=(brf _ _).alloc (nlr _) _;have bR:Box6 (w4.alloc (.cells #[.int .u8 rk,.slice vA vn vc,.slice y1 y2 y3,.slice r1 r2 r3,.slice f1 f2 f3,.int .i64 rpv] 80)) w4 (.int .u8 rk) (.slice vA vn vc) (.slice y1 y2 y3) (.slice r1 r2 r3) (.slice f1 f2 f3) (.int .i64 rpv):=zAd _ _ rfl;have HSl:=hdq hsol;replace bP:=bP.below al s0;replace s0:=ltl s0 al.size;replace hbW:=hbW.trans (al.mono hbW.size);clear p0 p1 p2 p3 p4;obtain ⟨p0,p1,p2,p3,p4,-⟩:=id bP;clear hsol hb4;generalize w4.alloc (.cells #[.int .u8 rk,.slice vA vn vc,.slice y1 y2 y3,.slice r1 r2 r3,.slice f1 f2 f3,.int .i64 rpv] 80)=W5 at *;have AL:=hdq al;clear al;(go_wp2_with fail);refine (BinF.solve (b:=⟨⟨V,⟨oA,xm,oc⟩,⟨rA,rn,rc⟩,⟨bA,bn,bc⟩⟩,⟨iA,iN,ic⟩⟩) (HFb.out.below hbW)).mono ?_;rintro e x1 hret;have hx1:=hret.code;have hbl:bs.length=rs.length:=by have h1:=HFb.out.lp.rows.len; have h2:=HFb.out.lp.bounds.len; have h3:=HFb.out.bn; dsimp only at h1 h2 h3; omega
    have hout:=zP3 HFb.out.lp HFb.out.co hV4 hbl (zQj HFb.out.zok) HSl.out hret;replace bP:=bP.below hx1 s0;replace s0:=ltl s0 hx1.size;replace hbW:=hbW.trans (hx1.mono hbW.size);clear p0 p1 p2 p3 p4;obtain ⟨p0,p1,p2,p3,p4,-⟩:=id bP;replace bR:=(hx1.block _ (zAa bR)).trans bR;obtain ⟨c0,c1,-⟩:=zO1 bR;have sb:=zAa bR;clear hret HSl hbl;rcases hout with ⟨hk,⟨b2,bn2,bc2⟩,s2,rfl⟩ | ⟨hk,⟨b2,bn2,bc2⟩,s2,rfl | rfl⟩ | ⟨hk,l,hl,hv,⟨hnS,⟨b2,bn2,bc2⟩,s2,rfl⟩ | ⟨⟨b2,bn2,bc2⟩,s2,y,rfl,hyl,hyv,hge,heq⟩⟩
    ·dsimp only at hk;subst hk;dsimp only [SV.val];(go_wp2_with fail);refine zLi.mono ?_;rintro e wl ⟨rfl,hbl⟩;have hbf:=hbW.trans (hbl.mono hbW.size);go_wp2;go_ret;exact ⟨rfl,hbf⟩
    ·dsimp only at hk;subst hk;dsimp only [SV.val];(go_wp2_with fail);refine zLi.mono ?_;rintro e wl ⟨rfl,hbl⟩;have hbf:=hbW.trans (hbl.mono hbW.size);go_wp2;go_ret;exact ⟨rfl,hbf⟩
    ·dsimp only at hk;subst hk;dsimp only [SV.val];(go_wp2_with fail);refine zLi.mono ?_;rintro e wl ⟨rfl,hbl⟩;have hbf:=hbW.trans (hbl.mono hbW.size);go_wp2;go_ret;exact ⟨rfl,hbf⟩
    ·dsimp only at hk;subst hk;dsimp only [SV.val];have HX:Hid (VecIs x1 AllB AllB 6000 ⟨vA,vn,vc⟩ l):=hdq (hv.below (AL.out.trans (hx1.mono AL.out.size)));have HL:=hdq hl;clear hv hx1 AL hl;(go_wp2_with fail);refine (BinF.feas (b:=⟨⟨V,⟨oA,xm,oc⟩,⟨rA,rn,rc⟩,⟨bA,bn,bc⟩⟩,⟨iA,iN,ic⟩⟩) (s:=⟨vA,vn,vc⟩) false (HFb.out.below hbW) HX.out (by decide) (by have h1:=HX.out.len; have h2:=HL.out; dsimp only at h1; show vn<=_; omega) ⟨fun h=>absurd h.2 hnS,fun h=>by cases h⟩).mono ?_;rintro e x3 ⟨rfl,hf⟩;replace bP:=bP.below hf s0;replace s0:=ltl s0 hf.size;replace hbW:=hbW.trans (hf.mono hbW.size);clear p0 p1 p2 p3 p4;obtain ⟨p0,p1,p2,p3,p4,-⟩:=id bP;replace bR:=(hf.block _ (zAa bR)).trans bR;clear c0 c1;obtain ⟨c0,c1,-⟩:=zO1 bR;replace sb:=zAa bR;replace HX:=hdq (HX.out.below hf);(go_wp2_with fail);refine zLi.mono ?_;rintro e wl ⟨rfl,hbl⟩;have hbf:=hbW.trans (hbl.mono hbW.size);go_wp2;go_ret;exact ⟨rfl,hbf⟩
    ·dsimp only at hk;subst hk;dsimp only [SV.val];have HX:Hid (VecIs x1 AllB AllB 6000 ⟨vA,vn,vc⟩ l):=hdq (hv.below (AL.out.trans (hx1.mono AL.out.size)));have HY:=hdq hyv;have HL:=hdq hl;have HYL:=hdq hyl;obtain ⟨o,ho⟩:∃ o,lpcmp os l y=o:=⟨_,rfl⟩;rw [ho] at hge;have HO:=hdq ho;have HEq:=hdq heq;clear hv hx1 AL hl hyv hyl ho heq;(go_wp2_with fail);refine (zNq (kb:=29000000) (p:=⟨V,⟨oA,xm,oc⟩,⟨rA,rn,rc⟩,⟨bA,bn,bc⟩⟩) (sx:=⟨vA,vn,vc⟩) (sy:=⟨b2,bn2,bc2⟩) (HFb.out.lp.below hbW) HX.out HY.out (by have:=HFb.out.o2; dsimp only at this; show xm<=_; omega) (fun i=>nlt (zBT HFb.out.co i) (by omega)) (by have h1:=HX.out.len; have h2:=HL.out; dsimp only at h1; show vn<=_; omega) (by have h1:=HY.out.len; have h2:=HYL.out; dsimp only at h1; show bn2<=_; omega) (by rw [zAZ]; omega) (by rw [zAZ]; omega) (by rw [zAZ]; omega) (by rw [zAZ]; omega) (fun i k=>((zAR (HFb.out.lp.obj.fit i k)).mul (zAR (HX.out.fit k))).mono (by omega)) (fun i k=>((zAR (HFb.out.lp.obj.fit i k)).mul (zAR (HY.out.fit k))).mono (by omega))).mono ?_;rw [HO.out];rintro e x2 ⟨rfl,hx2⟩;replace bP:=bP.below hx2 s0;replace s0:=ltl s0 hx2.size;replace hbW:=hbW.trans (hx2.mono hbW.size);clear p0 p1 p2 p3 p4;obtain ⟨p0,p1,p2,p3,p4,-⟩:=id bP;replace bR:=(hx2.block _ (zAa bR)).trans bR;clear c0 c1;obtain ⟨c0,c1,-⟩:=zO1 bR;replace sb:=zAa bR;replace HX:=hdq (HX.out.below hx2);replace HY:=hdq (HY.out.below hx2);clear hx2;by_cases hS:(BPof V os rs bs zs).S fun k=>l.getD k 0
     ·obtain rfl:=HEq.out hS;have hge2:=hge;(go_wp2_with fail);refine (BinF.feas (b:=⟨⟨V,⟨oA,xm,oc⟩,⟨rA,rn,rc⟩,⟨bA,bn,bc⟩⟩,⟨iA,iN,ic⟩⟩) (s:=⟨vA,vn,vc⟩) true (HFb.out.below hbW) HX.out (by decide) (by have h1:=HX.out.len; have h2:=HL.out; dsimp only at h1; show vn<=_; omega) ⟨fun _=>rfl,fun _=>⟨by have:=HL.out; omega,hS⟩⟩).mono ?_;rintro e x3 ⟨rfl,hf⟩;replace bP:=bP.below hf s0;replace s0:=ltl s0 hf.size;replace hbW:=hbW.trans (hf.mono hbW.size);clear p0 p1 p2 p3 p4;obtain ⟨p0,p1,p2,p3,p4,-⟩:=id bP;replace bR:=(hf.block _ (zAa bR)).trans bR;clear c0 c1;obtain ⟨c0,c1,-⟩:=zO1 bR;replace sb:=zAa bR;replace HX:=hdq (HX.out.below hf);replace HY:=hdq (HY.out.below hf);(go_wp2_with fail);refine (zNx true (V:=V) (sa:=⟨vA,vn,vc⟩) (sb:=⟨b2,bn2,bc2⟩) HX.out HY.out (by rw [zAZ]; omega) (by rw [zAZ]; omega) HL.out HL.out (by omega) ⟨fun _=>rfl,fun _ _ _=>rfl⟩).mono ?_;rintro e x4 ⟨rfl,hx4⟩;replace bP:=bP.below hx4 s0;replace s0:=ltl s0 hx4.size;replace hbW:=hbW.trans (hx4.mono hbW.size);clear p0 p1 p2 p3 p4;obtain ⟨p0,p1,p2,p3,p4,-⟩:=id bP;(go_wp2_with fail);refine zLi.mono ?_;rintro e wl ⟨rfl,hbl⟩;have hbf:=hbW.trans (hbl.mono hbW.size);go_wp2;go_ret;exact ⟨rfl,hbf⟩
     ·skip
      (go_wp2_with fail);refine (BinF.feas (b:=⟨⟨V,⟨oA,xm,oc⟩,⟨rA,rn,rc⟩,⟨bA,bn,bc⟩⟩,⟨iA,iN,ic⟩⟩) (s:=⟨vA,vn,vc⟩) false (HFb.out.below hbW) HX.out (by decide) (by have h1:=HX.out.len; have h2:=HL.out; dsimp only at h1; show vn<=_; omega) ⟨fun h=>absurd h.2 hS,fun h=>by cases h⟩).mono ?_;rintro e x3 ⟨rfl,hf⟩;replace bP:=bP.below hf s0;replace s0:=ltl s0 hf.size;replace hbW:=hbW.trans (hf.mono hbW.size);clear p0 p1 p2 p3 p4;obtain ⟨p0,p1,p2,p3,p4,-⟩:=id bP;replace bR:=(hf.block _ (zAa bR)).trans bR;clear c0 c1;obtain ⟨c0,c1,-⟩:=zO1 bR;replace sb:=zAa bR;replace HX:=hdq (HX.out.below hf);(go_wp2_with fail);refine zLi.mono ?_;rintro e wl ⟨rfl,hbl⟩;have hbf:=hbW.trans (hbl.mono hbW.size);go_wp2;go_ret;exact ⟨rfl,hbf⟩
end Go.Proofs.YtpjaodcimomaiaaGreat
