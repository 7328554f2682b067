/- Texts BoM BoC BoD of this claim. -/
import Derived.Test.YtbpngececjihlaaGreatB44
set_option maxHeartbeats 4000000
set_option maxRecDepth 100000
namespace Go.Proofs.YtbpngececjihlaaGreat
variable {zs:List Int} {bs:List Rat} {os rs:List (List Rat)} {V N L M:Nat} {f x:Nat->Rat} {s:SV} {p:LPV} {X Y:Nat->Prop} {w:World}
def BPof (V:Nat) (os rs:List (List Rat)) (bs:List Rat) (zs:List Int):Lin.BP where
 V:=V
 K:=os.length
 M:=rs.length
 nb:=zs.length
 A:=fun i k=>(rs.getD i []).getD k 0
 O:=fun l k=>(os.getD l []).getD k 0
 b:=fun i=>bs.getD i 0
 bin:=fun i=>(zs.getD i 0).toNat
theorem BPof.tight (h:∀ l,(os.getD l []).length<=V):Tight (BPof V os rs bs zs):=fun l _k _ hk=>zAw _ _ _ (nlt (h l) hk)
theorem req {a b:Rat} (h:a=b):a<=b:=h ▸ Rat.le_refl
theorem zM6 (h:Lin.LexNN N f) (hN:0<N):0<=f 0:=by
 rcases h with h | ⟨i,hi,hp,hz⟩
 ·exact req (h 0 hN).symm
 ·rcases Nat.eq_zero_or_pos i with rfl | h0
  ·exact Rat.le_of_lt hp
  ·exact req (hz 0 h0).symm
def kn:Lin.BP:=BPof 3 [rats [5,4,3]] [rats [2,3,1],rats [4,1,2],rats [3,4,2]] (rats [5,11,8]) [0,1,2]
def kx (k:Nat):Rat:=if k=0 then 1 else if k=1 then 1 else 0
theorem zLA (f x:Nat->Rat):kn.dot f x=f 0*x 0+f 1*x 1+f 2*x 2:=by
 simp only [Lin.BP.dot,kn,BPof,Lin.sum,Rat.zero_add]
theorem zNh (h:kn.S x):2*x 0+3*x 1+x 2<=5:=by
 have:=h.1.2 0 dj;rw [zLA] at this;simp [kn,BPof,rats] at this;exact this
theorem zNf:kn.Ok:=⟨fun i hi=>by
  have:i<3:=hi;rcases (show i=0\/i=1\/i=2 by omega) with rfl | rfl | rfl <;> decide,fun i j hij hj=>by
  have:j<3:=hj;rcases (show (i=0/\j=1)\/(i=0/\j=2)\/(i=1/\j=2) by omega) with ⟨rfl,rfl⟩ | ⟨rfl,rfl⟩ | ⟨rfl,rfl⟩ <;> decide⟩
theorem zMx:kn.S kx:=by
 refine ⟨⟨fun k hk=>?_,fun i hi=>?_⟩,fun i hi=>?_⟩
 ·unfold kx; split <;> (try split) <;> decide
 ·have:i<3:=hi;rw [zLA];rcases (show i=0\/i=1\/i=2 by omega) with rfl | rfl | rfl <;> (simp [kn,BPof,rats,kx]; grind)
 ·have:i<3:=hi;rcases (show i=0\/i=1\/i=2 by omega) with rfl | rfl | rfl
  ·exact .inr rfl
  ·exact .inr rfl
  ·exact .inl rfl
theorem zM2 (h:kn.S x) (hle:kn.Le kx x):x 0=1/\x 1=1/\x 2=0:=by
 have h0:x 0=0\/x 0=1:=h.2 0 dj;have h1:x 1=0\/x 1=1:=h.2 1 dj;have h2:x 2=0\/x 2=1:=h.2 2 dj;have hr:=zNh h;have hn:=zM6 hle dj;rw [zLA,zLA] at hn;simp [Lin.BP.lev,kn,BPof,rats,kx] at hn;rcases h0 with h0 | h0 <;> rcases h1 with h1 | h1 <;> rcases h2 with h2 | h2 <;> rw [h0,h1,h2] at hr hn <;> grind
theorem zNg:¬ kn.Ray:=fun ⟨d,_,_,hb,i,hi,hp,_⟩=>by
 have d0:d 0=0:=hb 0 dj;have d1:d 1=0:=hb 1 dj;have d2:d 2=0:=hb 2 dj;dsimp only at hp;rw [zLA,d0,d1,d2] at hp;grind
def on1:Lin.BP:=BPof 1 [rats [1]] [rats [2]] (rats [1]) [0]
def on2:Lin.BP:=BPof 1 [rats [1]] [rats [-2],rats [2]] (rats [-1,1]) [0]
theorem zLN (f x:Nat->Rat):on1.dot f x=f 0*x 0:=by simp only [Lin.BP.dot,on1,BPof,Lin.sum,Rat.zero_add]
theorem zM8 (f x:Nat->Rat):on2.dot f x=f 0*x 0:=by simp only [Lin.BP.dot,on2,BPof,Lin.sum,Rat.zero_add]
theorem zNi:on1.Ok:=by
 refine ⟨fun i hi=>?_,fun i j hij hj=>?_⟩
 ·have h1:i<1:=hi;obtain rfl:i=0:=om
  decide
 ·have h1:j<1:=hj;omega
theorem zNj:on2.Ok:=by
 refine ⟨fun i hi=>?_,fun i j hij hj=>?_⟩
 ·have h1:i<1:=hi;obtain rfl:i=0:=om
  decide
 ·have h1:j<1:=hj;omega
theorem zMU:on1.S fun _=>0:=by
 refine ⟨⟨fun k hk=>Rat.le_refl,fun i hi=>?_⟩,fun i hi=>.inl rfl⟩;rw [zLN];obtain rfl:i=0:=by have:i<1:=hi; omega
 simp [on1,BPof,rats];try grind
theorem zMT (h:on1.S x):x 0=0:=by
 have h0:x 0=0\/x 0=1:=h.2 0 dj;have:=h.1.2 0 dj;rw [zLN] at this;simp [on1,BPof,rats] at this;rcases h0 with h0 | h0
 ·exact h0
 ·rw [h0] at this; grind
theorem zM7:¬ on1.Ray:=fun ⟨d,_,_,hb,i,hi,hp,_⟩=>by
 have d0:d 0=0:=hb 0 dj;dsimp only at hp;rw [zLN,d0] at hp;grind
theorem on2_none (x:Nat->Rat):¬ on2.S x:=fun h=>by
 have h0:x 0=0\/x 0=1:=h.2 0 dj;have r1:=h.1.2 0 dj;have r2:=h.1.2 1 dj;rw [zM8] at r1 r2;simp [on2,BPof,rats] at r1 r2;rcases h0 with h0 | h0 <;> rw [h0] at r1 r2 <;> grind
open Go.RowKit Go.Shelf
attribute [local go_sem] Oper.semAt_some
theorem zNA (h:LPIs w X Y L p os rs bs) (hV:p.n=V) (hV2:V<=64) (ho1:1<=p.O.n) (ho2:p.O.n<=4) (hr:p.R.n<=128) (hb:p.B.n=p.R.n) (hco:colsOf os<=V) (hcr:colsOf rs<=V) (hs:V<s.n) (hs2:s.n<=9223372036854775807) :
  Calls Tryz.prog 89 #[p.val,s.val] w fun e w'=>e = .returned (.bool false)/\Below w w w':=by
 refine (callsIn_wide (n:=6)).1 ?_;obtain ⟨z,⟨oA,on,oc⟩,⟨A,la,ca⟩,⟨B,lb,cb⟩⟩:=p;obtain ⟨xA,xn,xc⟩:=s;dsimp only [LPV.val,SV.val] at *;subst hV;subst hb;have HP:=hdq h;have HCo:=hdq hco;have HCr:=hdq hcr;clear h hco hcr;refine callsIn_of_wp_marks Tryz.func89 rfl trivial ?_ rfl;simp only [Tryz.ntmps89,List.size_toArray,List.length_cons,List.length_nil,Nat.reduceAdd,Nat.reduceSub,Array.replicate_succ,Array.replicate_zero,List.push_toArray,List.append_toArray,List.nil_append,List.cons_append];gi_wp2;refine zH7 ?_;gi_wp2;refine ⟨trivial,?_⟩;have hk0:Below w w ((w.alloc (.cells #[.int .i64 V,.slice oA on oc,.slice A lb ca,.slice B lb cb] 25)).alloc (.cells #[.slice xA xn xc] 23)):=((brf _ w).alloc (nlr _) _).alloc si _;have hs0:((w.alloc (.cells #[.int .i64 V,.slice oA on oc,.slice A lb ca,.slice B lb cb] 25)).alloc (.cells #[.slice xA xn xc] 23)).heap.size=w.heap.size+2:=si
 have b0:Box4 ((w.alloc (.cells #[.int .i64 V,.slice oA on oc,.slice A lb ca,.slice B lb cb] 25)).alloc (.cells #[.slice xA xn xc] 23)) w (.int .i64 V) (.slice oA on oc) (.slice A lb ca) (.slice B lb cb):=bx4;have b1:Boxed ((w.alloc (.cells #[.int .i64 V,.slice oA on oc,.slice A lb ca,.slice B lb cb] 25)).alloc (.cells #[.slice xA xn xc] 23)) (w+1) 23 (.slice xA xn xc):=zAd _ _ si;generalize ((w.alloc (.cells #[.int .i64 V,.slice oA on oc,.slice A lb ca,.slice B lb cb] 25)).alloc (.cells #[.slice xA xn xc] 23))=W0 at *;refine (callsIn_wide.2 (zBv (p:=⟨V,⟨oA,on,oc⟩,⟨A,lb,ca⟩,⟨B,lb,cb⟩⟩) (HP.out.below hk0) rfl hV2 ho1 ho2 hr rfl HCo.out HCr.out)).mono ?_;rintro e w1 ⟨rfl,hb1⟩;have hB1:=hk0.trans (hb1.mono hk0.size);replace b0:=b0.below hb1 om;replace b1:Boxed w1 (w+1) 23 (.slice xA xn xc):=(hb1.block _ (zAa b1)).trans b1;obtain ⟨q0,q1,q2,q3,qf⟩:=id b0;have c1:=b1.cell;have hxvi:(V:Int)<(xn:Int):=om
 have hxvd:decide (V<xn)=true:=by simp; omega
 have HB1:=hdq hB1;clear hk0 hs0 hb1 hB1 b0 b1;gi_wp2;refine ⟨.bool false,by simp [results,Tryz.results89,go_sem],?_⟩;exact ⟨rfl,HB1.out⟩
def BFL (w W0:World) (nb:Nat) (ok:Nat->Prop) (t:Value) (W:World):Prop:=∃ i:Nat,i<=nb/\t = .int .i64 (i:Int)/\Below w w W/\Below W0 W0 W/\∀ j,j<i->ok j
theorem zLJ {b:BinV} {x:List Rat} {B:Lin.BP} (f c:Bool) (hvd:∀ w',Below w w w'->Calls Tryz.prog 68 #[b.val] w' fun e w2=>e = .returned true/\Below w' w' w2)
  (hfe:∀ w',Below w w w'->Calls Tryz.prog 89 #[b.p.val,s.val] w' fun e w2=>e = .returned f/\Below w' w' w2) (hx:VecIs w X Y M s x) (hM:M<=LM) (hb:BinIs w B b.bin) (hB:∀ i,i<B.nb->B.bin i<=1000000) (_hnb:B.nb<=12)
  (hc:(f=true/\∀ i,i<B.nb->x.getD (B.bin i) 0=0\/x.getD (B.bin i) 0=1) ↔ c=true) :
  Calls Tryz.prog 30 #[b.val,s.val] w fun e w'=>e = .returned c/\Below w w w':=by
 obtain ⟨⟨pn,⟨OA,On,Oc⟩,⟨RA,Rn,Rc⟩,⟨BA,Bn,Bc⟩⟩,⟨bA,bN,bC⟩⟩:=b;obtain ⟨sA,sn,sc⟩:=s;have en:bN=B.nb:=hb.len;subst en;have hbc:B.nb<=bC:=hb.le;have hbc2:bC<=9223372036854775807:=hb.cap;have HVd:=hdq hvd;have HFe:=hdq hfe;have HX:=hdq hx;have HM:=hdq hM;have HB:=hdq hb;have HBi:=hdq hB;have HC:=hdq hc;clear hvd hfe hx hM hb hB hc;dsimp only [BinV.val,LPV.val,SV.val] at *;go_enter Tryz.func30,Tryz.ntmps30
 obtain ⟨W0,hW0⟩:∃ W0,W0=w.alloc (.cells #[pn,.slice OA On Oc,.slice RA Rn Rc,.slice BA Bn Bc,.slice bA B.nb bC] 50):=⟨_,rfl⟩;have al:Below w w W0:=by rw [hW0]; exact bal
 have hq:W0.heap[w.heap.size]?=some (.cells #[pn,.slice OA On Oc,.slice RA Rn Rc,.slice BA Bn Bc,.slice bA B.nb bC] 50 (0,0)):=by rw [hW0]; exact zAd _ _ rfl
 have hl0:=zAa hq;have p0:W0.cell? w=some (.int .i64 pn):=by simp [World.cell?,hq]
 have p1:W0.cell? ⟨w.heap.size,1,none⟩=some (.slice OA On Oc):=by simp [World.cell?,hq]
 have p2:W0.cell? ⟨w.heap.size,2,none⟩=some (.slice RA Rn Rc):=by simp [World.cell?,hq]
 have p3:W0.cell? ⟨w.heap.size,3,none⟩=some (.slice BA Bn Bc):=by simp [World.cell?,hq]
 have p4:W0.cell? ⟨w.heap.size,4,none⟩=some (.slice bA B.nb bC):=by simp [World.cell?,hq]
 clear hq;go_upto_region 1 with fail
 rw [<-hW0];clear hW0;go_wp2_with fail
 refine (HVd.out W0 al).mono ?_;rintro e w1 ⟨rfl,hb1⟩;have q0:=(hb1.cell (p:=w) hl0).trans p0;have q1:=(hb1.cell (p:=⟨w.heap.size,1,none⟩) hl0).trans p1;have q2:=(hb1.cell (p:=⟨w.heap.size,2,none⟩) hl0).trans p2;have q3:=(hb1.cell (p:=⟨w.heap.size,3,none⟩) hl0).trans p3;have q4:=(hb1.cell (p:=⟨w.heap.size,4,none⟩) hl0).trans p4;have hl1:=ltl hl0 hb1.size;have hbl:=al.trans (hb1.mono al.size);clear p0 p1 p2 p3 p4 hb1 hl0 al;go_wp2_with fail
 refine (HFe.out w1 hbl).mono ?_;rintro e w2 ⟨rfl,hb2⟩;have p4:=(hb2.cell (p:=⟨w.heap.size,4,none⟩) hl1).trans q4;have hbl2:=hdq (hbl.trans (hb2.mono hbl.size));have hl2:=ltl hl1 hb2.size;clear q0 q1 q2 q3 q4 hb2 hbl hl1
 cases f with
 | false=>
  obtain rfl:c=false:=by
   cases c with
   | false=>rfl
   | true=>exact absurd (HC.out.2 rfl).1 dj
  go_wp2;go_ret
  exact ⟨rfl,hbl2.out⟩
 | true=>
  have H0:BFL w w2 B.nb (fun i=>x.getD (B.bin i) 0=0\/x.getD (B.bin i) 0=1) (.int .i64 0) w2:=⟨0,nzl _,rfl,hbl2.out,brf _ _,fun j hj=>absurd hj (Nat.not_lt_zero j)⟩;go_wp2;go_loopw [20] (fun t W=>BFL w w2 B.nb (fun i=>x.getD (B.bin i) 0=0\/x.getD (B.bin i) 0=1) t W) (fun t _=>B.nb-(intOf t).toNat)
  case atStart=>exact H0
  case round=>
   clear H0;obtain ⟨i,hi,rfl,hB1,hB2,hok⟩:=hrel;have HOk:=hdq hok;clear hok;by_cases hlt:i<B.nb
   ·have hki:(i:Int)<(B.nb:Int):=om;obtain ⟨adb,eb,cb⟩:=(HB.out.below hB1).cell i hlt;dsimp only at eb;subst eb;have HB1:=hdq hB1;have HB2:=hdq hB2;clear hB1 hB2;(go_wp2_with fail);refine (zKH (s:=⟨sA,sn,sc⟩) (HX.out.below HB1.out) (HBi.out i hlt)).mono ?_;rintro e w3 ⟨⟨v,rfl,hv⟩,hb3⟩;(go_wp2_with fail);refine (zKW hv HM.out).mono ?_;rintro e w4 ⟨rfl,hb4⟩;have hb34:=hb3.trans (hb4.mono hb3.size);have hB14:=hdq (HB1.out.trans (hb34.mono HB1.out.size));have hB24:=hdq (HB2.out.trans (hb34.mono HB2.out.size));clear hv hb3 hb4 hb34;by_cases h01:x.getD (B.bin i) 0=0\/x.getD (B.bin i) 0=1
    ·rw [decide_eq_true h01]
     have Hfin:Hid (BFL w w2 B.nb (fun i=>x.getD (B.bin i) 0=0\/x.getD (B.bin i) 0=1) (.int .i64 ((i:Int)+1)) w4):=hdq ⟨i+1,om,si,hB14.out,hB24.out,fun j hj=>by
      by_cases e:j<i
      ·exact HOk.out j e
      ·(obtain rfl:j=i:=om);exact h01⟩
     clear h01;go_wp2;go_roundw;case rel=>exact fn_ Hfin.out
     case measure=>simp [intOf]; omega
    ·rw [decide_eq_false h01]
     obtain rfl:c=false:=by
      cases c with
      | false=>rfl
      | true=>exact absurd ((HC.out.2 rfl).2 i hlt) h01
     clear h01;go_wp2;go_ret;exact ⟨rfl,hB14.out⟩
   ·(obtain rfl:i=B.nb:=om);obtain rfl:c=true:=HC.out.1 ⟨si,fun j hj=>HOk.out j hj⟩;go_wp2;go_ret;exact ⟨rfl,hB1⟩
end Go.Proofs.YtbpngececjihlaaGreat
namespace Go.Proofs.YtbpngececjihlaaGreat
open Go.RowKit Go.Shelf
variable {zs:List Int} {s:SV} {bs:List Rat} {os rs:List (List Rat)} {V L B0:Nat} {w w':World} {X Y:Nat->Prop} {x:Nat->Rat}
theorem IntsAt.bin (h:IntsAt w s zs) (hz:∀ i,i<zs.length->0<=zs.getD i 0):BinIs w (BPof V os rs bs zs) s:=
 ⟨h.len.symm,h.le,h.cap,fun k hk=>by
  have hk':k<zs.length:=hk;obtain ⟨ad,e,hc⟩:=h.cell k (by rw [<-h.len]; exact hk');refine ⟨ad,e,?_⟩;rw [hc];show some (Value.int .i64 (zs.getD k 0))=some (.int .i64 ((zs.getD k 0).toNat:Int));rw [Int.toNat_of_nonneg (hz k hk')]⟩
theorem zLk {b:BinV} (h:LPIs w X Y 8 b.p os rs bs) (hV:b.p.n=V) (hV2:V<=64) (ho1:1<=b.p.O.n) (ho2:b.p.O.n<=4) (hr:b.p.R.n<=128) (hbl:b.p.B.n=b.p.R.n) (hco:colsOf os<=V) (hcr:colsOf rs<=V)
  (hz:IntsAt w b.bin zs) (hzn:zs.length<=12) (hz0:∀ i,i<zs.length->0<=zs.getD i 0) (ok:(BPof V os rs bs zs).Ok) (hk:SoK (BPof V os rs bs zs) L):Calls Tryz.prog 23 #[b.val] w (BSoRet w L (BPof V os rs bs zs)):=
 zLy h (fun w' hb=>zBv (h.below hb) hV hV2 ho1 ho2 hr hbl hco hcr) hV rfl hV2 hzn ok (BPof.tight (zBT hco)) (hz.bin hz0) h.rows.len.symm (hbl.trans h.rows.len.symm) (by show rs.length<=800; rw [h.rows.len]; omega) (zBT hcr) (fun _ _ _=>rfl) (fun _ _=>rfl) h.obj.len.symm (by show os.length<=900; rw [h.obj.len]; omega) (fun _ _ _=>rfl) (zBT hco) hk
structure BinIn (w:World) (B:Nat) (b:BinV) (V:Nat) (os rs:List (List Rat)) (bs:List Rat) (zs:List Int):Prop where
 n:b.p.n=V
 O:MatCan w (New B) (New B) b.p.O os
 R:MatCan w (New B) (New B) b.p.R rs
 B:VecCan w (New B) (New B) b.p.B bs
 Z:IntsAt w b.bin zs
def Small (m:List (List Int)):Prop:=∀ l ∈ m,∀ z ∈ l,z.natAbs<1000
instance (m:List (List Int)):Decidable (Small m):=inferInstanceAs (Decidable (∀ l ∈ m,∀ z ∈ l,z.natAbs<1000))
theorem BinIn.lp {b:BinV} {os rs:List (List Int)} {bs:List Int} (h:BinIn w B0 b V (os.map rats) (rs.map rats) (rats bs) zs) (so:Small os) (sr:Small rs) (sb:Small [bs]):LPIs w (New B0) (New B0) 8 b.p (os.map rats) (rs.map rats) (rats bs):=
 LRet.lpis h.O h.R h.B (fun i k=>(zDn so i k).up dj) (fun i k=>(zDn sr i k).up dj) fun k=>(zCZ (fun z hz=>sb bs si z hz) k).up dj
theorem zKL {b:BinV} {os rs:List (List Int)} {bs:List Int} (h:BinIn w B0 b V (os.map rats) (rs.map rats) (rats bs) zs) (so:Small os) (sr:Small rs) (sb:Small [bs]) (hV:V<=3) (ho1:1<=os.length) (ho2:os.length<=4) (hr:rs.length<=8) (hbl:bs.length=rs.length)
  (hco:colsOf (os.map rats)<=V) (hcr:colsOf (rs.map rats)<=V) (hzn:zs.length<=3) (hz0:∀ i,i<zs.length->0<=zs.getD i 0) (ok:(BPof V (os.map rats) (rs.map rats) (rats bs) zs).Ok):Calls Tryz.prog 23 #[b.val] w (BSoRet w 1000000 (BPof V (os.map rats) (rs.map rats) (rats bs) zs)):=by
 have e1:=h.O.len;have e2:=h.R.len;have e3:=h.B.len;rw [List.length_map] at e1 e2;rw [show (rats bs).length=bs.length by simp [rats]] at e3
 have hq:bqk V 32<=20000:=by
  have h5:5 ^ V<=125:=nlt (Nat.pow_le_pow_right dj hV) dj;have h6:V*(32+1)<=99:=nlt (Nat.mul_le_mul_right _ hV) dj;have:=Nat.mul_le_mul h5 (show 32+V*(32+1)+1<=132 by omega);unfold bqk; omega
 have hmn:(rs.length+zs.length)*(2*bqk V 32+1)<=11*40001:=Nat.mul_le_mul om om;refine zLk (h.lp so sr sb) h.n om om om om om hco hcr h.Z om hz0 ok (SoK.of (k:=32) dj (fun i v _=>zAR (zDn sr i v)) (fun i _=>zAR (zCZ (fun z hz=>sb bs si z hz) i)) (fun l v _=>zAR (zDn so l v)) ?_ dj dj dj ?_ ?_)
 ·show bqk V 32+1<=_; omega
 ·show ((rs.map rats).length+zs.length)*(2*bqk V 32+1)+bqk V 32+2<=_;rw [List.length_map,zAZ]; omega
 ·show 2*bqk V 32+1<=_;rw [zAZ]; omega
def AlR (w w':World) (e:Ending) (l:List Rat):Prop:=∃ (v:SV) (s:Nat),e = .returned (.tuple #[v.val,.int .i64 (s:Int),.int .i64 0])/\1<=s/\s<=16/\VecCan w' (fun _=>True) (fun _=>True) v l/\Below w w w'
theorem zM3 (h:x 0=1/\x 1=1/\x 2=0):(List.range 3).map x=rats [1,1,0]:=by simp [List.range_succ,rats,h.1,h.2.1,h.2.2]
theorem zM9 (h:x 0=0):(List.range 1).map x=rats [0]:=by simp [List.range_succ,rats,h]
theorem zMP {b:BinV} (h:BinIn w B0 b 3 [rats [5,4,3]] [rats [2,3,1],rats [4,1,2],rats [3,4,2]] (rats [5,11,8]) [0,1,2]):Calls Tryz.prog 23 #[b.val] w fun e w'=>AlR w w' e (rats [1,1,0]):=by
 refine (zKL (os:=[[5,4,3]]) (rs:=[[2,3,1],[4,1,2],[3,4,2]]) (bs:=[5,11,8]) (zs:=[0,1,2]) h dj dj dj dj dj dj dj dj dj dj dj dj zNf).mono ?_;rintro e w' ⟨v,s,c,rfl,hb,⟨rfl,h1,h2,x,hx,-,hbest,-,hc⟩ | ⟨-,-,-,hno⟩ | ⟨-,-,-,hr,-⟩⟩
 ·exact ⟨v,s,rfl,h1,by have:2 ^ ((BPof 3 (List.map rats [[5,4,3]]) (List.map rats [[2,3,1],[4,1,2],[3,4,2]]) (rats [5,11,8]) [0,1,2]).nb+1)=16:=rfl; omega,by rw [<-zM3 (zM2 hx (hbest _ zMx))]; exact hc,hb⟩
 ·exact absurd zMx (hno _)
 ·exact absurd hr zNg
theorem zMA {b:BinV} (h:BinIn w B0 b 1 [rats [1]] [rats [2]] (rats [1]) [0]):Calls Tryz.prog 23 #[b.val] w fun e w'=>AlR w w' e (rats [0]):=by
 refine (zKL (os:=[[1]]) (rs:=[[2]]) (bs:=[1]) (zs:=[0]) h dj dj dj dj dj dj dj dj dj dj dj dj zNi).mono ?_;rintro e w' ⟨v,s,c,rfl,hb,⟨rfl,h1,h2,x,hx,-,hbest,-,hc⟩ | ⟨-,-,-,hno⟩ | ⟨-,-,-,hr,-⟩⟩
 ·exact ⟨v,s,rfl,h1,by have:2 ^ ((BPof 1 (List.map rats [[1]]) (List.map rats [[2]]) (rats [1]) [0]).nb+1)=4:=rfl; omega,by rw [<-zM9 (zMT hx)]; exact hc,hb⟩
 ·exact absurd zMU (hno _)
 ·exact absurd hr zM7
theorem zMB {b:BinV} (h:BinIn w B0 b 1 [rats [1]] [rats [-2],rats [2]] (rats [-1,1]) [0]):Calls Tryz.prog 23 #[b.val] w fun e w'=>e = .returned (.tuple #[.slice none 0 0,.int .i64 0,.int .i64 8])/\Below w w w':=by
 refine (zKL (os:=[[1]]) (rs:=[[-2],[2]]) (bs:=[-1,1]) (zs:=[0]) h dj dj dj dj dj dj dj dj dj dj dj dj zNj).mono ?_;rintro e w' ⟨v,s,c,rfl,hb,⟨rfl,h1,h2,x,hx,-,hbest,-,hc⟩ | ⟨rfl,rfl,rfl,hno⟩ | ⟨-,-,-,-,x,hx⟩⟩
 ·exact absurd hx (on2_none x)
 ·exact ⟨rfl,hb⟩
 ·exact absurd hx (on2_none x)
theorem zLY {b:BinV} (h:BinIn w B0 b 3 [rats [5,4,3]] [rats [2,3,1],rats [4,1,2],rats [3,4,2]] (rats [5,11,8]) [0,1,2]):Calls Tryz.prog 68 #[b.val] w fun e w'=>e = .returned (.bool true)/\Below w w w':=by
 have hp:=BinIn.lp (os:=[[5,4,3]]) (rs:=[[2,3,1],[4,1,2],[3,4,2]]) (bs:=[5,11,8]) h dj dj dj;have e1:1=b.p.O.n:=h.O.len;have e2:3=b.p.R.n:=h.R.len;have e3:3=b.p.B.n:=h.B.len;exact zKZ (V:=3) (B:=kn) (fun w' hb=>zBv (hp.below hb) h.n dj om om om om dj dj) h.n rfl dj dj zNf (h.Z.bin dj)
theorem BinIn.below {b:BinV} (h:BinIn w B0 b V os rs bs zs) (hb:Below w w w'):BinIn w' B0 b V os rs bs zs:=⟨h.n,h.O.belowC hb,h.R.belowC hb,h.B.belowC hb,h.Z.below hb⟩
theorem zLM {b:BinV} (h:BinIn w B0 b 3 [rats [5,4,3]] [rats [2,3,1],rats [4,1,2],rats [3,4,2]] (rats [5,11,8]) [0,1,2]) (hx:VecCan w X Y s (rats [1,1,0])):Calls Tryz.prog 30 #[b.val,s.val] w fun e w'=>e = .returned (.bool true)/\Below w w w':=by
 have hp:=BinIn.lp (os:=[[5,4,3]]) (rs:=[[2,3,1],[4,1,2],[3,4,2]]) (bs:=[5,11,8]) h dj dj dj;have e1:1=b.p.O.n:=h.O.len;have e2:3=b.p.R.n:=h.R.len;have e3:3=b.p.B.n:=h.B.len;have hq:VecIs w X Y 1 s (rats [1,1,0]):=hx.loose fun k=>zCZ dj k
 exact zLJ (B:=kn) true true (fun w' hb=>zLY (h.below hb)) (fun w' hb=>zEE (V:=3) (kb:=64) true (hp.below hb) h.n dj om om om om dj dj (hq.below hb) dj dj dj dj (fun i k=>(zAR (zDn (m:=[[2,3,1],[4,1,2],[3,4,2]]) dj i k)).mul (zAR (zCZ dj k))) ⟨fun _=>rfl,fun _=>by decide +kernel⟩) hq dj (h.Z.bin dj) dj dj ⟨fun _=>rfl,fun _=>by decide +kernel⟩
theorem zK1 {r b:List Int} (h1:r.length<=1000) (h2:∀ x ∈ r,-9223372036854775808<=x/\x<=9223372036854775807) (h3:b.length<=1000) (h4:∀ x ∈ b,-9223372036854775808<=x/\x<=9223372036854775807) :
  Calls Tryz.prog 67 #[.slice (some w) r.length r.length,.slice (some ⟨w+1,0,none⟩) b.length b.length] ((w.alloc (intCells r)).alloc (intCells b)) fun e w'=>(∃ v:BinV,e = .returned v.val/\BinIn w' w v 1 [rats [1]] (r.map fun z=>rats [z]) (rats b) [0])/\Below w w w':=by
 obtain ⟨W,hW⟩:∃ W,W=(w.alloc (intCells r)).alloc (intCells b):=⟨_,rfl⟩;rw [<-hW];have i1:W.heap[w.heap.size]?=some (.cells (r.map fun z=>Value.int .i64 z).toArray 2 (0,0)):=by rw [hW]; exact (Below.heap_alloc _ _ _ si).trans (zAd _ _ rfl)
 have i2:W.heap[w.heap.size+1]?=some (.cells (b.map fun z=>Value.int .i64 z).toArray 2 (0,0)):=by rw [hW]; exact zAd _ _ si
 have hb:Below w w W:=by rw [hW]; exact (bal).alloc si _
 clear hW;refine (zL8 (sr:=⟨some ⟨w,0,none⟩,r.length,r.length⟩) (sm:=⟨some ⟨w+1,0,none⟩,b.length,b.length⟩) (IntsAt.blk i1 h1 h2) (IntsAt.blk i2 h3 h4) h1 h3).mono ?_;rintro e w' ⟨⟨v,rfl,g1,g2,g3,g4,g5⟩,hb'⟩;exact ⟨⟨v,rfl,g1,g2.low hb.size,g3.low hb.size,g4.low hb.size,g5⟩,hb.trans (hb'.mono hb.size)⟩
theorem zLi :Calls Tryz.prog 22 #[] w fun e w'=>e = .returned (.bool true)/\Below w w w':=by
 go_enter Tryz.func22,Tryz.ntmps22
 go_wp2_with fail
 refine zKK.mono ?_;rintro e w1 ⟨⟨b,rfl,h1,h2,h3,h4,h5⟩,hb1⟩;have hP:=hdq (BinIn.mk h1 h2 h3 h4 h5);have HB:=hdq hb1;clear h1 h2 h3 h4 h5 hb1;go_wp2_with fail
 refine (zMP hP.out).mono ?_;rintro e w2 ⟨⟨vA,vn,vc⟩,s,rfl,hs1,hs2,hv,hb2⟩;have k1:(1:Int)<=(s:Int):=om
 have k2:(s:Int)<=16:=om
 replace HB:=hdq (HB.out.trans (hb2.mono HB.out.size));have HV:=hdq hv;clear hs1 hs2 hv hb2 hP;dsimp only [SV.val];go_wp2_with fail
 refine (zK1 (w:=w2) (r:=[2]) (b:=[1]) dj dj dj dj).mono ?_;rintro e w3 ⟨⟨b2,rfl,h2⟩,hb3⟩;have HP2:=hdq h2;replace HB:=hdq (HB.out.trans (hb3.mono HB.out.size));replace HV:=hdq (HV.out.belowC hb3);clear h2 hb3;go_wp2_with fail
 refine (zMA HP2.out).mono ?_;rintro e w4 ⟨⟨uA,un,uc⟩,s2,rfl,-,-,hu,hb4⟩;replace HB:=hdq (HB.out.trans (hb4.mono HB.out.size));replace HV:=hdq (HV.out.belowC hb4);have HU:=hdq hu;clear hu hb4 HP2;dsimp only [SV.val];go_wp2_with fail
 refine (zK1 (w:=w4) (r:=[-2,2]) (b:=[-1,1]) dj dj dj dj).mono ?_;rintro e w5 ⟨⟨b3,rfl,h3⟩,hb5⟩;have HP3:=hdq h3;replace HB:=hdq (HB.out.trans (hb5.mono HB.out.size));replace HV:=hdq (HV.out.belowC hb5);replace HU:=hdq (HU.out.belowC hb5);clear h3 hb5;go_wp2_with fail
 refine (zMB HP3.out).mono ?_;rintro e w6 ⟨rfl,hb6⟩;replace HB:=hdq (HB.out.trans (hb6.mono HB.out.size));replace HV:=hdq (HV.out.belowC hb6);replace HU:=hdq (HU.out.belowC hb6);clear hb6 HP3;go_wp2_with fail
 refine (zCE (w:=w6) (l:=[1,1,0]) dj dj).mono ?_;rintro e w7 ⟨⟨⟨xA,xn,xc⟩,rfl,hx⟩,hb7⟩;replace HB:=hdq (HB.out.trans (hb7.mono HB.out.size));replace HV:=hdq (HV.out.belowC hb7);replace HU:=hdq (HU.out.belowC hb7);have HX:=hdq hx;clear hb7 hx;dsimp only [SV.val];go_wp2_with fail
 refine (zE5 (a:=⟨vA,vn,vc⟩) (b:=⟨xA,xn,xc⟩) HV.out HX.out).mono ?_;rintro e w8 ⟨rfl,hb8⟩;replace HB:=hdq (HB.out.trans (hb8.mono HB.out.size));replace HV:=hdq (HV.out.belowC hb8);replace HU:=hdq (HU.out.belowC hb8);clear hb8 HX;go_wp2_with fail
 refine (zCE (w:=w8) (l:=[0]) dj dj).mono ?_;rintro e w9 ⟨⟨⟨yA,yn,yc⟩,rfl,hy⟩,hb9⟩;replace HB:=hdq (HB.out.trans (hb9.mono HB.out.size));replace HV:=hdq (HV.out.belowC hb9);replace HU:=hdq (HU.out.belowC hb9);have HY:=hdq hy;clear hb9 hy;dsimp only [SV.val];go_wp2_with fail
 refine (zE5 (a:=⟨uA,un,uc⟩) (b:=⟨yA,yn,yc⟩) HU.out HY.out).mono ?_;rintro e wa ⟨rfl,hba⟩;replace HB:=hdq (HB.out.trans (hba.mono HB.out.size));replace HV:=hdq (HV.out.belowC hba);clear hba HY HU;go_wp2_with fail
 refine zKK.mono ?_;rintro e wb ⟨⟨b4,rfl,h1,h2,h3,h4,h5⟩,hbb⟩;have HP4:=hdq (BinIn.mk h1 h2 h3 h4 h5);replace HB:=hdq (HB.out.trans (hbb.mono HB.out.size));replace HV:=hdq (HV.out.belowC hbb);clear h1 h2 h3 h4 h5 hbb;go_wp2_with fail
 refine (zLY HP4.out).mono ?_;rintro e wc ⟨rfl,hbc⟩;replace HB:=hdq (HB.out.trans (hbc.mono HB.out.size));replace HV:=hdq (HV.out.belowC hbc);clear hbc HP4;go_wp2_with fail
 refine zKK.mono ?_;rintro e wd ⟨⟨b5,rfl,h1,h2,h3,h4,h5⟩,hbd⟩;have HP5:=hdq (BinIn.mk h1 h2 h3 h4 h5);replace HB:=hdq (HB.out.trans (hbd.mono HB.out.size));replace HV:=hdq (HV.out.belowC hbd);clear h1 h2 h3 h4 h5 hbd;go_wp2_with fail
 refine (zLM (s:=⟨vA,vn,vc⟩) HP5.out HV.out).mono ?_;rintro e we ⟨rfl,hbe⟩;replace HB:=hdq (HB.out.trans (hbe.mono HB.out.size));clear hbe HP5;go_wp2;go_ret;exact ⟨rfl,HB.out⟩
end Go.Proofs.YtbpngececjihlaaGreat
