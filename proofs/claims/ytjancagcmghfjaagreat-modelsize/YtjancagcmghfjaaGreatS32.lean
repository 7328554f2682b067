/- Texts McPrS MqC MqH of this claim. -/
import Derived.Test.YtjancagcmghfjaaGreatS31
set_option maxHeartbeats 4000000
set_option maxRecDepth 60000
namespace Go.Proofs.YtjancagcmghfjaaGreat
open Go.RowKit Go.Shelf
namespace Mo
end Mo
namespace Mo
theorem zWM:∀ l:List Rat,∃ S,∀ k,(l.getD k 0).num.natAbs+(l.getD k 0).den<=S
 | []=>⟨1,fun k=>by simp⟩
 | q :: l=>by
  obtain ⟨S,h⟩:=zWM l;refine ⟨max S (q.num.natAbs+q.den),fun k=>?_⟩
  cases k with
  | zero=>exact Nat.le_max_right _ _
  | succ k=>exact nlt (h k) (Nat.le_max_left _ _)
theorem zXL:∀ m:List (List Rat),∃ S,∀ i k,((m.getD i []).getD k 0).num.natAbs+((m.getD i []).getD k 0).den<=S
 | []=>⟨1,fun i k=>by simp⟩
 | l :: m=>by
  obtain ⟨S,h⟩:=zXL m;obtain ⟨R,h2⟩:=zWM l;refine ⟨max S R,fun i k=>?_⟩
  cases i with
  | zero=>exact nlt (h2 k) (Nat.le_max_right _ _)
  | succ i=>exact nlt (h i k) (Nat.le_max_left _ _)
theorem zXw {q:Rat} {S L:Nat} (h:q.num.natAbs+q.den<=S) (hL:S<=L):QFit L q:=
 ⟨Nat.lt_of_le_of_lt (show q.num.natAbs<=L by omega) (Nat.lt_pow_self (by decide)),Nat.lt_of_le_of_lt (show q.den<=L by omega) (Nat.lt_pow_self (by decide))⟩
theorem zYk {w:World} {X:Nat->Prop} {p:LPV} {os rs:List (List Rat)} {bs:List Rat} (ho:MatCan w X X p.O os) (hr:MatCan w X X p.R rs) (hb:VecCan w X X p.B bs):∃ L,LPIs w X X L p os rs bs:=by
 obtain ⟨S1,h1⟩:=zXL os;obtain ⟨S2,h2⟩:=zXL rs;obtain ⟨S3,h3⟩:=zWM bs;refine ⟨max S1 (max S2 S3),⟨ho.len,ho.le,ho.cap,fun i hi=>?_⟩,⟨hr.len,hr.le,hr.cap,fun i hi=>?_⟩,hb.loose fun k=>zXw (h3 k) (by omega)⟩
 ·obtain ⟨ad,r,e,hx,hc,hv⟩:=ho.row i hi;exact ⟨ad,r,e,hx,hc,VecAt.loose hv fun k=>zXw (h1 i k) (by omega)⟩
 ·obtain ⟨ad,r,e,hx,hc,hv⟩:=hr.row i hi;exact ⟨ad,r,e,hx,hc,VecAt.loose hv fun k=>zXw (h2 i k) (by omega)⟩
structure HBx (w:World) (b:Nat) (v:HrV) (W:World):Prop where
 low:Below w w W
 c0:W.cell? b=some (.int .i64 v.n)
 c1:W.cell? ⟨b,1,none⟩=some (.slice v.L.A v.L.n v.L.c)
 c2:W.cell? ⟨b,2,none⟩=some (.slice v.O.A v.O.n v.O.c)
 c3:W.cell? ⟨b,3,none⟩=some (.slice v.U.A v.U.n v.U.c)
 c4:W.cell? ⟨b,4,none⟩=some (.slice v.N.A v.N.n v.N.c)
 c5:W.cell? ⟨b,5,none⟩=some (.slice v.B.A v.B.n v.B.c)
theorem HBx.below {w W W':World} {b:Nat} {v:HrV} (h:HBx w b v W) (hb:Below W W W'):HBx w b v W':=
 ⟨h.low.trans (hb.mono h.low.size),cellB hb h.c0,cellB hb h.c1,cellB hb h.c2,cellB hb h.c3,cellB hb h.c4,cellB hb h.c5⟩
theorem HBx.new (w:World) (v:HrV):HBx w w v (w.alloc (.cells #[.int .i64 v.n,.slice v.L.A v.L.n v.L.c,.slice v.O.A v.O.n v.O.c,.slice v.U.A v.U.n v.U.c,.slice v.N.A v.N.n v.N.c,.slice v.B.A v.B.n v.B.c] 30)):=
 ⟨bal,by go_simp,by go_simp,by go_simp,by go_simp,by go_simp,by go_simp⟩
structure PBx (b:Nat) (p:LPV) (W:World):Prop where
 c0:W.cell? b=some (.int .i64 p.n)
 c1:W.cell? ⟨b,1,none⟩=some (.slice p.O.A p.O.n p.O.c)
 c2:W.cell? ⟨b,2,none⟩=some (.slice p.R.A p.R.n p.R.c)
 c3:W.cell? ⟨b,3,none⟩=some (.slice p.B.A p.B.n p.B.c)
theorem PBx.below {W W':World} {b:Nat} {p:LPV} (h:PBx b p W) (hb:Below W W W'):PBx b p W':=⟨cellB hb h.c0,cellB hb h.c1,cellB hb h.c2,cellB hb h.c3⟩
theorem PBx.new (W:World) (p:LPV):PBx W p (W.alloc (.cells #[.int .i64 p.n,.slice p.O.A p.O.n p.O.c,.slice p.R.A p.R.n p.R.c,.slice p.B.A p.B.n p.B.c] 36)):=⟨by go_simp,by go_simp,by go_simp,by go_simp⟩
theorem zXs {h:Hr} {m:Gj.Mt}:∀ r ∈ (rows h m).map Prod.fst,r.length=(vars h).length:=by
 have hb:∀ (r:List Rat) (b:Rat) (p:List Rat × Rat),r.length=(vars h).length->p ∈ Mo.both r b->p.1.length=(vars h).length:=fun r b p hr hp=>by
  unfold Mo.both at hp;rcases List.mem_cons.1 hp with rfl | hp
  ·exact hr
  ·rw [List.mem_singleton] at hp; subst hp; show (neg r).length=_; unfold neg; rw [List.length_map]; exact hr
 have hm:∀ (us:List Un) (os:List Bool) (s:Nat) (p:List Rat × Rat),p ∈ minRows (vars h) s us os->p.1.length=(vars h).length:=by
  intro us
  induction us with
  | nil=>intro os s p hp; cases os <;> cases hp
  | cons u us ih=>
   intro os s p hp
   cases os with
   | nil=>cases hp
   | cons o os=>
    have hp':p ∈ (if o=true then [(minRow (vars h) s,((-u.min:Int):Rat))] else [])++minRows (vars h) (s+1) us os:=hp;rcases List.mem_append.1 hp' with hp | hp
    ·split at hp
     ·rw [List.mem_singleton] at hp; subst hp; show (minRow (vars h) s).length=_; unfold minRow; rw [List.length_map]
     ·cases hp
    ·exact ih os (s+1) p hp
 intro r hr;obtain ⟨p,hp,rfl⟩:=List.mem_map.1 hr;unfold rows at hp;rcases List.mem_append.1 hp with hp | hp
 ·rcases List.mem_append.1 hp with hp | hp
  ·rcases List.mem_append.1 hp with hp | hp
   ·obtain ⟨n,-,hp⟩:=List.mem_flatMap.1 hp;exact hb _ _ _ (by unfold islRow; rw [List.length_map]) hp
   ·obtain ⟨n,-,hp⟩:=List.mem_flatMap.1 hp;exact hb _ _ _ (by unfold flowRow; rw [List.length_map]) hp
  ·exact hm _ _ _ _ hp
 ·unfold capRows at hp;obtain ⟨k,-,rfl⟩:=List.mem_map.1 hp;show (capRow _ _).length=_;unfold capRow; simp
theorem zWh:∀ (os:List Bool) (k:Nat),k<os.length->cntT (os.take (k+1))=cntT (os.take k)+if os.getD k false=true then 1 else 0
 | [],k,hk=>absurd hk (Nat.not_lt_zero k)
 | o :: os,0,_=>by cases o <;> rfl
 | o :: os,k+1,hk=>by
  have ih:=zWh os k (by simpa using hk);cases o <;> simp only [List.take_succ_cons,cntT,List.getD_cons_succ] <;> omega
theorem msize_calls {w:World} {v:HrV} {h:Hr} (hA:HrAt w v h):Calls Tryz.prog 6 #[v.val] w fun e w'=>e = .returned (.bool true)/\Below w w w':=by
 have HA:=hdq hA;have HN:=HBx.new w v;have HLg:=hdq (zXk (hA.below HN.low));have HBd:=hdq fun W (hb:Below w w W)=>zU3 (hA.below hb)
 obtain ⟨n,L,O,U,N,B⟩:=v;obtain rfl:n=h.buses:=hA.n;dsimp only [HrV.val] at HLg HBd ⊢;have HN:=hdq HN;clear hA;go_enter Tryz.func6,Tryz.ntmps6
 go_upto_region 1 with fail
 obtain ⟨hbx,hh⟩:∃ b,b=w.heap.size:=⟨_,rfl⟩;rw [<-hh] at HN ⊢;clear hh;generalize w.alloc (.cells #[.int .i64 h.buses,.slice L.A L.n L.c,.slice O.A O.n O.c,.slice U.A U.n U.c,.slice N.A N.n N.c,.slice B.A B.n B.c] 30)=w1 at *;obtain ⟨-,c0,c1,c2,c3,c4,c5⟩:=HN.out;dsimp only at c0 c1 c2 c3 c4 c5;go_wp2_with fail
 refine HLg.out.mono ?_;rintro e w2 ⟨⟨b,rfl⟩,hb2⟩;have HN2:=hdq (HN.out.below hb2);clear c0 c1 c2 c3 c4 c5 HN HLg hb2
 cases b with
 | true=>
  go_wp2_with fail
  refine zVf.mono ?_;rintro e w3 ⟨rfl,hb3⟩;have HF:=hdq (HN2.out.below hb3).low;go_wp2;go_ret
  exact ⟨rfl,HF.out⟩
 | false=>
  go_wp2_with fail
  refine zVf.mono ?_;rintro e w3 ⟨rfl,hb3⟩;have HN3:=hdq (HN2.out.below hb3);obtain ⟨-,c0,c1,c2,c3,c4,c5⟩:=HN3.out;dsimp only at c0 c1 c2 c3 c4 c5;clear HN2 hb3;go_wp2_with fail
  refine (HBd.out w3 HN3.out.low).mono ?_;rintro e w4 ⟨hR,hb4⟩;have HN4:=hdq (HN3.out.below hb4);clear c0 c1 c2 c3 c4 c5 HN3 hb4;rcases hR with ⟨h0,rfl⟩ | ⟨h0,p,m,rfl,hL⟩
  ·have hne:(hrErr h != 0)=true:=(by simpa using h0);have HPn:=hdq (PBx.new w4 LP0);have al:=(brf w4 w4).alloc (nlr _) (.cells #[.int .i64 0,.slice none 0 0,.slice none 0 0,.slice none 0 0] 36);have HF:=hdq (HN4.out.low.trans (al.mono HN4.out.low.size));generalize hrErr h=er at *;clear h0 HBd al;go_wp2;go_ret;exact ⟨rfl,HF.out⟩
  ·obtain ⟨pn,⟨oA,on,oc⟩,⟨rA,rn,rc⟩,⟨bA,bn,bc⟩⟩:=p;have hpn:pn=((vars h).length:Int):=hL.n;subst hpn;have HPn:=hdq (PBx.new w4 ⟨((vars h).length:Int),⟨oA,on,oc⟩,⟨rA,rn,rc⟩,⟨bA,bn,bc⟩⟩);have al:=(brf w4 w4).alloc (nlr _) (.cells #[.int .i64 ((vars h).length:Int),.slice oA on oc,.slice rA rn rc,.slice bA bn bc] 36);have HL5:=hdq ((hL.below al).imp (X':=AllB) fun _ _ _=>trivial);have HN5:=hdq (HN4.out.below al);have H0:=hdq h0;have HCl:=hdq fun W (hb:Below w w W)=>cols_calls (UnitsAt.below hb HA.out.U) (HA.out.N.below hb) (BidsAt.below hb HA.out.B) h0
   have HRf:=hdq fun W (hb:Below w w W)=>zU0 (n:=h.buses) (LinesAt.below hb HA.out.L) (HA.out.O.below hb) (zV5 h0)
   have hon:on=1:=hL.o.len.symm;have hrn:((rows h m).map Prod.fst).length=rn:=hL.r.len;have hbn:((rows h m).map Prod.snd).length=bn:=hL.b.len;rw [List.length_map] at hrn hbn;have Hrows:=hdq (zW1 (zUh h0).2.2.2.1 m);have Hins:=hdq (zV2 h0);have Hvl:=hdq (zUU h0);have hr70:rn<=70:=by have:=zYN h0 m; omega
   subst hon;have Hrn:=hdq hrn;have Hbn:=hdq hbn;have rle:=hL.r.le;have rcap:=hL.r.cap;have ole:=hL.o.le;have ocap:=hL.o.cap;dsimp only at rle rcap ole ocap;have Hll:=hdq HA.out.L.len;have Hol:=hdq HA.out.O.len;have lle:=HA.out.L.le;have lcap:=HA.out.L.cap;have oile:=HA.out.O.le;have oicap:=HA.out.O.cap;have nle:=HA.out.N.le;have ncap:=HA.out.N.cap;have Hnl:=hdq HA.out.N.len;have l10:=(zUi h0).2.2.1;dsimp only at lle lcap oile oicap nle ncap Hll Hol Hnl;dsimp only [LPV.val,SV.val] at HCl ⊢;clear hL h0 al hrn hbn HBd HN4;(go_upto_region 4 with fail);obtain ⟨pb,hpb⟩:∃ b,b=w4.heap.size:=⟨_,rfl⟩;rw [<-hpb] at HPn ⊢;clear hpb;dsimp only at HPn;generalize w4.alloc (.cells #[.int .i64 ((vars h).length:Int),.slice oA 1 oc,.slice rA rn rc,.slice bA bn bc] 36)=w5 at *;obtain ⟨-,c0,c1,c2,c3,c4,c5⟩:=HN5.out;dsimp only at c0 c1 c2 c3 c4 c5;(go_wp2_with fail);refine (HCl.out w5 HN5.out.low).mono ?_;rintro e w6 ⟨⟨⟨tA,tn,tc⟩,rfl,hT⟩,hb6⟩;have htn:tn=(vars h).length:=hT.len.symm;subst htn;have tle:=hT.le;have tcap:=hT.cap;dsimp only at tle tcap;have HN6:=hdq (HN5.out.below hb6);have HP6:=hdq (HPn.out.below hb6);have HL6:=hdq (HL5.out.below hb6);clear c0 c1 c2 c3 c4 c5 HN5 HPn HL5 hb6 hT HCl;obtain ⟨-,c0,c1,c2,c3,c4,c5⟩:=HN6.out;dsimp only at c0 c1 c2 c3 c4 c5;dsimp only [SV.val];(go_wp2_with fail);refine (HRf.out w6 HN6.out.low).mono ?_;rintro e w7 ⟨⟨⟨sA,sn,sc⟩,rfl,hS⟩,hb7⟩;have hsn:(refsOf h).length=sn:=by have:=hS.len; rw [List.length_map] at this; exact this
   have Hsn:=hdq hsn;have sle:=hS.le;have scap:=hS.cap;dsimp only at sle scap;have sn6:sn<=6:=by rw [<-hsn]; exact zV6 H0.out
   have HN7:=hdq (HN6.out.below hb7);have HP7:=hdq (HP6.out.below hb7);have HL7:=hdq (HL6.out.below hb7);clear c0 c1 c2 c3 c4 c5 HN6 HP6 HL6 hb7 hS HRf hsn;obtain ⟨-,c0,c1,c2,c3,c4,c5⟩:=HN7.out;dsimp only at c0 c1 c2 c3 c4 c5;have q0:=HP7.out.c0;have q1:=HP7.out.c1;have q2:=HP7.out.c2;have q3:=HP7.out.c3;dsimp only at q0 q1 q2 q3;dsimp only [SV.val];have HOn:=hdq (HA.out.N.below HN7.out.low);go_wp2;(go_loop [8,9] (fun t i=>∃ k:Nat,k<=N.n/\i = .int .i64 k/\t = .int .i64 (cntT (h.on.take k))) (fun _ i=>N.n-(intOf i).toNat));case atStart=>exact ⟨0,nzl _,rfl,rfl⟩
   case round=>
    obtain ⟨k,hk,rfl,rfl⟩:=hrel;have hcl:cntT (h.on.take k)<=k:=nlt (zVV _) (by rw [List.length_take]; omega);by_cases hlt:k<N.n
    ·have hki:(k:Int)<(N.n:Int):=(by omega);obtain ⟨ad,e,x0⟩:=HOn.out.cell k hlt;have hct:=hdq (zWh h.on k (by rw [Hnl.out]; exact hlt));obtain ⟨NA,Nn,Nc⟩:=N;dsimp only at e hlt hki nle ncap c4 hk;subst e;generalize h.on.getD k false=o at *
     cases o with
     | true=>
      rw [if_pos rfl] at hct;go_wp2;go_round;case rel=>exact ⟨k+1,by show k+1<=Nn; omega,by go_num,by rw [hct.out]; go_num⟩
      case measure=>simp [intOf]; omega
     | false=>
      rw [if_neg (by decide),Nat.add_zero] at hct;go_wp2;go_round;case rel=>exact ⟨k+1,by show k+1<=Nn; omega,by go_num,by rw [hct.out]; simp⟩
      case measure=>simp [intOf]; omega
    ·(obtain rfl:k=N.n:=by omega);have hck:cntT (h.on.take N.n)=cntT h.on:=(by rw [<-Hnl.out,List.take_length]);rw [hck];have HVa:=hdq (show ∃ L,LPIs w7 AllB AllB L ⟨((vars h).length:Int),⟨oA,1,oc⟩,⟨rA,rn,rc⟩,⟨bA,bn,bc⟩⟩ [obj (vars h)] ((rows h m).map Prod.fst) ((rows h m).map Prod.snd) from zYk HL7.out.o HL7.out.r HL7.out.b);obtain ⟨L9,hLP⟩:=HVa.out;have HVd:=hdq (zBv hLP rfl (by have:=Hvl.out; omega) (nlr _) (by show 1<=4; decide) (by show rn<=128; omega) (by show bn=rn; have:=Hrn.out; have:=Hbn.out; omega) (zAU.2 fun r hr=>by rw [List.mem_singleton] at hr; subst hr; unfold obj; rw [List.length_map]; exact nlr _) (zAU.2 fun r hr=>Nat.le_of_eq (zXs r hr)));dsimp only [LPV.val] at HVd;have hcn:cntT h.on<=5:=by have h1:=zVV h.on; have h2:=(zUh H0.out).1; have h3:=(zUh H0.out).2.2.2.1; omega
     have hLn:L.n<=10:=by have:=Hll.out; omega
     have hOn:O.n<=L.n:=by have h1:=Hins.out; have h2:=Hll.out; have h3:=Hol.out; omega
     have heq:(rn:Int)=2*(sn:Int)+2*((L.n:Int)-(O.n:Int))+(cntT h.on:Int)+((vars h).length:Int):=by
      have h1:=Hins.out; have h2:=Hll.out; have h3:=Hol.out; have h4:=Hrows.out; have h5:=Hrn.out; have h6:=Hsn.out; omega
     have hbn2:bn=rn:=by have:=Hrn.out; have:=Hbn.out; omega
     have hvl:=Hvl.out;have HQ:=hdq heq;clear hck hLP HL7 HVa HOn heq;generalize cntT h.on=cn at *;generalize (vars h).length=vn at *;subst hbn2;(go_wp2_with fail);refine HVd.out.mono ?_;rintro e w8 ⟨rfl,hb8⟩;have HN8:=hdq (HN7.out.below hb8);have HP8:=hdq (HP7.out.below hb8);clear c0 c1 c2 c3 c4 c5 q0 q1 q2 q3 HN7 HP7 hb8 HVd;obtain ⟨-,c0,c1,c2,c3,c4,c5⟩:=HN8.out;dsimp only at c0 c1 c2 c3 c4 c5;have q0:=HP8.out.c0;have q1:=HP8.out.c1;have q2:=HP8.out.c2;have q3:=HP8.out.c3;dsimp only at q0 q1 q2 q3;have heqb:((bn:Int) == 2*(sn:Int)+2*((L.n:Int)-(O.n:Int))+(cn:Int)+(vn:Int))=true:=by rw [<-HQ.out]; simp
     have heq2:(bn:Int)=2*(sn:Int)+2*((L.n:Int)-(O.n:Int))+(cn:Int)+(vn:Int):=HQ.out;have HF:=hdq HN8.out.low;go_wp2;go_ret;exact ⟨rfl,HF.out⟩
end Mo
end Go.Proofs.YtjancagcmghfjaaGreat
