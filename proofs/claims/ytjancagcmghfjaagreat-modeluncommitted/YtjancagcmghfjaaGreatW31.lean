/- Texts MqF MqG of this claim. -/
import Derived.Test.YtjancagcmghfjaaGreatW30
set_option maxHeartbeats 4000000
set_option maxRecDepth 100000
namespace Go.Proofs.YtjancagcmghfjaaGreat
open Go.RowKit Go.Shelf Gj
namespace Mo
attribute [local go_sem] Oper.semAt_some
abbrev colL (v:Vr):List Value:=[.bool v.bid,.int .i64 (v.which:Int),.int .i64 (v.step:Int)]
def ColC (w:World) (a:Addr) (v:Vr):Prop:=w.cell? a=some (.bool v.bid)/\w.cell? ⟨a.block,a.off+1,none⟩=some (.int .i64 (v.which:Int))/\w.cell? ⟨a.block,a.off+2,none⟩=some (.int .i64 (v.step:Int))
abbrev ColsAt (w:World) (s:SV) (vs:List Vr):Prop:=SlAt w 3 ColC vr0 s vs
theorem ColsAt.below {w w':World} {s:SV} {vs:List Vr} (h:ColsAt w s vs) (hb:Below w w w'):ColsAt w' s vs:=SlAt.map h fun _ _ h=>⟨cellB hb h.1,cellB hb h.2.1,cellB hb h.2.2⟩
theorem flat3 {α:Type} (f:α->List Value) (hf:∀ a,(f a).length=3) (l:List α) (k o:Nat) (hk:k<l.length) (ho:o<3):(l.flatMap f)[k*3+o]?=(f l[k])[o]?:=by
 induction l generalizing k with
 | nil=>simp at hk
 | cons q qs ih=>
  rw [List.flatMap_cons];have:=hf q
  cases k with
  | zero=>rw [List.getElem?_append_left (by omega)]; simp
  | succ k=>
   rw [List.getElem?_append_right (by omega)];have e:(k+1)*3+o-(f q).length=k*3+o:=(by omega);rw [e,ih k (by simpa using hk)];simp
theorem zYa:(Tryz.prog.info? 69).map (fun i=>(i.zero,i.size,i.bytes))=some (some (.agg #[.bool false,.int .i64 0,.int .i64 0]),3,24):=by kernel_rfl
theorem zWA (w:World) (v:Vr):∀ j u,(colL v)[j]?=some u->(w.alloc (.cells #[.bool v.bid,.int .i64 (v.which:Int),.int .i64 (v.step:Int)] 69)).cell? (Addr.add ⟨w,0,none⟩ j)=some u:=by
 intro j u h;rw [zA4,Nat.zero_add];have e:(w.alloc (.cells #[.bool v.bid,.int .i64 (v.which:Int),.int .i64 (v.step:Int)] 69)).heap[w.heap.size]?=some (.cells #[.bool v.bid,.int .i64 (v.which:Int),.int .i64 (v.step:Int)] 69 (0,0)):=zAd _ _ rfl;simp only [World.cell?,e]
 match j,h with
 | 0,h=>simpa [colL] using h
 | 1,h=>simpa [colL] using h
 | 2,h=>simpa [colL] using h
 | j+3,h=>simp [colL] at h
def CcI {n:Nat} (w W0:World) (b c:Nat) (vs:List Vr) (pre:List (Fin n)) (W:World):Prop:=
 ∃ v,Boxed W c 51 v/\W.ownsRow b 69 3 v pre.length (pre.flatMap fun i=>colL (vs.getD i.val vr0))/\b<=W.heap.size/\Below w w W/\Carry (fun y=>y<b/\y ≠ c) W0 W
theorem CcI.own {n:Nat} {w W0:World} {b c B:Nat} {vs:List Vr} (hB:w.heap.size<=B):OwnFrom B (CcI (n:=n) w W0 b c vs):=fun s W W' row hs hg hr=>by
 obtain ⟨v,z,hown,hn,hb,hc⟩:=hs;exact ⟨v,zAi hg (fun r e=>(hr r e).2) z,zEp hg (fun r e=>(hr r e).2) hown,nlt hn hg.size,ownFrom_below (nlr _) hB s W W' row hb hg hr,hc.trans (Carry.grown hg (fun r e=>(hr r e).2))⟩
theorem zYn {n:Nat} {W:World} {B:Nat} {v:Value} {vs:List Vr} {ys:List (Fin n)} (h:W.ownsRow B 69 3 v ys.length (ys.flatMap fun i=>colL (vs.getD i.val vr0))) (he:ys.map Fin.val=List.range vs.length) :
  ∃ t:SV,v=t.val/\(∀ ad,t.A=some ad->B<=ad.block)/\ColsAt W t vs:=by
 have hlen:ys.length=vs.length:=by have:=congrArg List.length he; simpa using this
 rcases h.2 with ⟨e,e2⟩ | ⟨g,cap,cur,e,h1,h2,h3,h4,h5,h6⟩
 ·have hl0:ys.length=0:=e2;exact ⟨⟨none,0,0⟩,by first | exact e | (rw [e2]; done) | exact e2,fun ad e=>(by cases e),by show vs.length=0; omega,nlr _,nzl _,fun k hk=>absurd hk (Nat.not_lt_zero k)⟩
 ·refine ⟨⟨some ⟨g,0,none⟩,ys.length,cap⟩,e,fun ad e=>(by cases e; exact h1),hlen.symm,h3,by simpa [maxLen] using h4,fun k hk=>⟨_,rfl,?_⟩⟩;have hk':k<ys.length:=hk;subst e
  have hx:(ys[k]'hk').val=k:=by
   have e1:(ys.map Fin.val)[k]?=some k:=(by rw [he,List.getElem?_range (by omega)]);rw [List.getElem?_map,gge hk'] at e1;simpa using e1
  have key:∀ o u,o<3->(colL (vs.getD k vr0))[o]?=some u->W.cell? ⟨g,k*3+o,none⟩=some u:=fun o u ho hu=>by
   have:=h.cells (g:=g) rfl (k*3+o) u (by rw [flat3 (fun i:Fin n=>colL (vs.getD i.val vr0)) (fun _=>rfl) ys k o hk' ho,hx]; exact hu);rw [<-this,zA4,Nat.zero_add]
  have e0:(⟨g,0,none⟩:Addr).add (k*3)=⟨g,k*3,none⟩:=by rw [zA4,Nat.zero_add]
  rw [e0];exact ⟨key 0 _ (by omega) rfl,key 1 _ (by omega) rfl,key 2 _ (by omega) rfl⟩
theorem cols_calls {w:World} {h:Hr} {U N B:SV} (hu:UnitsAt w U h.units) (ho:OnAt w N h.on) (hb:BidsAt w B h.bids) (h0:hrErr h=0) :
  Calls Tryz.prog 17 #[U.val,N.val,B.val] w fun e w'=>(∃ t:SV,e = .returned t.val/\ColsAt w' t (vars h))/\Below w w w':=by
 obtain ⟨uA,un,uc⟩:=U;obtain ⟨nA,nn,nc⟩:=N;obtain ⟨bA,bn,bc⟩:=B;obtain ⟨r1,r2,r3,r4,r5⟩:=zUh h0;have Hst:Hid (∀ u ∈ h.units,u.steps.length<=3):=hdq fun u hu=>(zT8 (zVw (r3 u hu)).2.2.1).2.1
 have Hsb:Hid (∀ u ∈ h.bids,u.steps.length<=3):=hdq fun u hu=>(zT8 (zUs r5 u hu).2.2).2.1
 have Hvl:=hdq (zUU h0);have hu5:=r1;have hb6:=r2;have Hon:=hdq r4;have HU:=hdq hu;have HO:=hdq ho;have HB:=hdq hb;clear hu ho hb r1 r2 r3 r4 r5 h0;dsimp only [SV.val];refine (callsIn_wide (n:=6)).1 ?_;refine callsIn_of_wp_marks Tryz.func17 rfl trivial ?_ rfl;simp only [Tryz.ntmps17,List.size_toArray,List.length_cons,List.length_nil,Nat.reduceAdd,Nat.reduceSub,Array.replicate_succ,Array.replicate_zero,List.push_toArray,List.append_toArray,List.nil_append,List.cons_append];gi_wp2;refine ⟨trivial,?_⟩;refine (zVL uA nA bA un uc nn nc bn bc).mono ?_;rintro e w2 ⟨rfl,rfl⟩;gi_wp2;obtain ⟨c,hc⟩:∃ c,c=w.heap.size:=⟨_,rfl⟩;obtain ⟨W0,hW0⟩:∃ W0,(((w.alloc (.cells #[.slice none 0 0] 51)).alloc (.cells #[.slice uA un uc] 26)).alloc (.cells #[.slice nA nn nc] 27)).alloc (.cells #[.slice bA bn bc] 28)=W0:=⟨_,rfl⟩;rw [hW0,<-hc];have hk0:Below w w W0:=by rw [<-hW0]; exact ((((brf _ w).alloc (nlr _) _).alloc (by simp) _).alloc (by simp; omega) _).alloc (by simp; omega) _
 have hs0:W0.heap.size=c+4:=by rw [<-hW0,hc]; simp
 have z0:Boxed W0 c 51 (.slice none 0 0):=by rw [<-hW0,hc]; exact alk (alk (alk (zAd _ _ rfl)))
 have x4:W0.cell? ⟨c+1,0,none⟩=some (.slice uA un uc):=by
  have e:W0.heap[c+1]?=some (.cells #[.slice uA un uc] 26 (0,0)):=by rw [<-hW0,hc]; exact alk (alk (zAd _ _ (by simp)))
  simp [World.cell?,e]
 have x5:W0.cell? ⟨c+1+1,0,none⟩=some (.slice nA nn nc):=by
  have e:W0.heap[c+1+1]?=some (.cells #[.slice nA nn nc] 27 (0,0)):=by rw [<-hW0,hc]; exact alk (zAd _ _ (by simp))
  simp [World.cell?,e]
 have x6:W0.cell? ⟨c+1+2,0,none⟩=some (.slice bA bn bc):=by
  have e:W0.heap[c+1+2]?=some (.cells #[.slice bA bn bc] 28 (0,0)):=by rw [<-hW0,hc]; exact zAd _ _ (by simp)
  simp [World.cell?,e]
 have HK0:=hdq hk0;have Hs:=hdq hs0;have hc1:w.heap.size<=c:=by omega
 have hc2:c<=w.heap.size:=by omega
 clear hW0 hc hk0 hs0
 refine wpIn_rangeFunc_ownH (F:=Fence.wide) rfl (by omega) (gf:=103) (lb:=#[.pointer (some ⟨c+1,0,none⟩),.pointer (some ⟨c+1+1,0,none⟩),.pointer (some ⟨c+1+2,0,none⟩)]) rfl trivial (enters_of Tryz.func103 (by kernel_rfl) rfl)
  (zVK (X:=fun y=>y<c+4/\y ≠ c) (w0:=w) (h:=h) (U:=⟨uA,un,uc⟩) (N:=⟨nA,nn,nc⟩) (B:=⟨bA,bn,bc⟩) (by omega) x4 (by omega) x5 (by omega) x6 (by omega) HU.out HO.out HB.out (Carry.of_below HK0.out) (fun y hy=>by omega) Hon.out Hst.out Hsb.out hu5 hb6 (by have:=Hvl.out; omega))
  (fun h k=>h.trans k) (fun W l o o' _ hl ho _=>Carry.putObj o' hl ho) (brf _ _) (fun _=>rfl)
  (fun pre W=>CcI w W0 (c+4) c (vars h) pre W)
  (fun _ _ _=>False)
  (CcI.own (by rw [Hs.out]; omega))
  (fun _ _ _ _ _ hs _ _=>hs)
  ⟨_,z0,World.ownsRow_nil _ _ _ _,by rw [Hs.out]; exact nlr _,HK0.out,Carry.refl _ _⟩
  (fun x1 a' W=>∃ q,a'={tmps:=#[.slice uA un uc,.slice nA nn nc,.slice bA bn bc,undef,undef,undef,.slice none 0 0,.pointer (some c),undef,.pointer (some ⟨q,0,none⟩),.slice uA un uc,.slice nA nn nc,.slice bA bn bc,.func (.func 103) #[] #[.pointer (some ⟨c+1,0,none⟩),.pointer (some ⟨c+1+1,0,none⟩),.pointer (some ⟨c+1+2,0,none⟩)],.int .i64 (x1.val:Int),.agg #[.bool ((vars h).getD x1.val vr0).bid,.int .i64 (((vars h).getD x1.val vr0).which:Int),.int .i64 (((vars h).getD x1.val vr0).step:Int)],undef,undef,undef,undef,undef],defers:=[]}/\W.heap[q]?=some (.cells #[.bool ((vars h).getD x1.val vr0).bid,.int .i64 (((vars h).getD x1.val vr0).which:Int),.int .i64 (((vars h).getD x1.val vr0).step:Int)] 69 (0,0)))
  (fun x a' _ W W' row hs hg hr=>?hAx) ?assign ?body ?done ?stop
 case hAx=>
  obtain ⟨q,e,g1⟩:=hs;exact ⟨q,e,zAi hg (fun r e=>(hr r e).2) g1⟩
 case stop=>
  rintro D c pre W _ _ h _;exact h.elim
 case assign=>
  intro l pre x1 W K hI hK;unfold colA;generalize (vars h).getD x1.val vr0=vr at *;gi_wp2;have al:Below W W (W.alloc (.cells #[.bool vr.bid,.int .i64 (vr.which:Int),.int .i64 (vr.step:Int)] 69)):=bal;have hgb:W.grownBy (W.alloc (.cells #[.bool vr.bid,.int .i64 (vr.which:Int),.int .i64 (vr.step:Int)] 69)) none:=⟨al.os,al.tape,al.output,al.size,fun k hk _=>al.block k hk⟩;exact hK _ _ ⟨al.size,fun k o _ hk _=>(al.block k (zAa hk)).trans hk⟩ (Carry.of_below al) (CcI.own (B:=w) (nlr _) _ _ _ _ hI hgb (fun r e=>by cases e)) ⟨W.heap.size,rfl,zAd _ _ rfl⟩
 case body=>
  rintro l pre x1 a' W _ _ ⟨v,z,hown,hn,hB,hcar⟩ ⟨q,rfl,g1⟩ hlt;have HL1:Hid ((pre++[x1]).flatMap (fun i=>colL ((vars h).getD i.val vr0))=pre.flatMap (fun i=>colL ((vars h).getD i.val vr0))++colL ((vars h).getD x1.val vr0)):=hdq (by rw [List.flatMap_append]; simp);have hpl:pre.length<=33:=by have:=Hvl.out; omega
  generalize (vars h).getD x1.val vr0=vr at *;have g0:W.cell? q=some (.bool vr.bid):=by simp [World.cell?,g1]
  have g2:W.cell? ⟨q,1,none⟩=some (.int .i64 (vr.which:Int)):=by simp [World.cell?,g1]
  have g3:W.cell? ⟨q,2,none⟩=some (.int .i64 (vr.step:Int)):=by simp [World.cell?,g1]
  have ql:=zAa g1;have c1:=z.cell;have zl:=z.lt;obtain ⟨i0,hiI,hz0,hz1,hz2⟩:=info_parts zYa;have HB:=hdq hB;have HCar:=hdq hcar;clear g1 hB hcar x4 x5 x6 z0;gi_wp2_with (gi_at_builtin; refine wpListIn_append_own _ rfl _ _ 51 rfl (c+4) 69 i0 (.agg #[.bool false,.int .i64 0,.int .i64 0]) 3 24 Tryz.underlying51 hiI hz0 hz1 hz2 rfl (by decide) v pre.length (pre.flatMap fun i=>colL ((vars h).getD i.val vr0)) rfl (hown.alloc _) ⟨W,0,none⟩ 1 1 (colL vr) rfl rfl ?cells ?one ?b1 ?b2 ?b3 ?_)
  case cells=>exact zWA _ _
  case one=>intro u hu; simp [colL] at hu; rcases hu with rfl | rfl | rfl <;> rfl
  case b1=>simp [maxLen]; omega
  case b2=>omega
  case b3=>simp; omega
  intro v' W9 hown9 hg9 hnil9;obtain ⟨p1,p2,p3,p4,p5,p6⟩:=zWU z hown (by omega) hn hown9 hg9;obtain ⟨g9,c9,rfl⟩:=ownsRow_succ hown9;have d1:=p1.cell;have d2:=p1.frozen;have Hfin:Hid _:=hdq (And.intro (And.intro p2 p3) (And.intro p4 (And.intro p5 p6)));clear p1 p2 p3 p4 p5 p6 hown9 hg9 hnil9 hown z c1;gi_wp2;obtain ⟨⟨q2,q3⟩,q4,q5,q6⟩:=Hfin.out;refine ⟨q4.from _,⟨q4.size,fun b cs t f hx hb=>(q5 b hx.1 hx.2).trans hb⟩,⟨_,q2,?_,nlt hn q4.size,HB.out.trans (q6 w (by omega)),HCar.out.trans ⟨q4.size,fun b cs t f hx hb=>(q5 b hx.1 hx.2).trans hb⟩⟩⟩;rw [List.length_append,HL1.out];simpa using q3
 case done=>
  rintro Dd ys W hDd he ⟨v,z,hown,hn,hB,hcar⟩ hK0;obtain ⟨⟨tA,tn,tc⟩,rfl,htB,hva⟩:=zYn hown he;have c1:=z.cell;have Hs':=hdq hn;dsimp only [SV.val] at c1;have HB:=hdq hB;clear x4 x5 x6 z0 hcar hB z hown;gi_wp2;refine ⟨by simp,.inl ⟨_,_,rfl,run_takeDeferred hK0,?_⟩⟩;have hcr:Carry (fun _=>True) W (W.putObj Dd (.deferred none)):=Carry.grown (grownBy_putObj' W Dd (.deferred none)) (fun r e=>by cases e; exact ⟨_,hK0,rfl⟩);exact ⟨_,results_tmp rfl _ _ _,⟨⟨tA,tn,tc⟩,rfl,SlAt.map hva fun _ _ hq=>⟨hcr.cell trivial hq.1,hcr.cell trivial hq.2.1,hcr.cell trivial hq.2.2⟩⟩,HB.out.trans (belowK_b (w:=w) (nlr _) W Dd _ _ (by have:=Hs.out; omega) hK0 rfl rfl)⟩
end Mo
open Go.RowKit Go.Shelf
namespace Mo
abbrev ri (l:List Int):List Rat:=l.map fun x:Int=>(x:Rat)
theorem intsNew (W:World) (l:List Int) (n:Nat) (hn:l.length=n) (hr:∀ x ∈ l,-9223372036854775808<=x/\x<=9223372036854775807) (hb:n<=1000):IntsAt (W.alloc (.cells (l.map fun x=>Value.int .i64 x).toArray 2)) ⟨some ⟨W,0,none⟩,n,n⟩ l:=by
 subst hn;refine ⟨rfl,nlr _,by show l.length<=_; omega,hr,fun k hk=>⟨_,rfl,?_⟩⟩;have hk':k<l.length:=hk;rw [zA4,Nat.zero_add];have e:(W.alloc (.cells (l.map fun x=>Value.int .i64 x).toArray 2)).heap[W.heap.size]?=some (.cells (l.map fun x=>Value.int .i64 x).toArray 2 (0,0)):=zAd _ _ rfl;simp only [World.cell?,e];rw [gdd,gge hk'];simp [hk']
def exRI:List (List Int):=[[-1,1],[1,-1],[0,1],[0,-1],[-1,0],[1,0],[0,1]]
theorem zYW:(rows exH [[1,0],[1,1]]).map Prod.fst=exRI.map ri:=by rw [zXF]; decide +kernel
theorem zYU:(rows exH [[1,0],[1,1]]).map Prod.snd=ri [0,0,5,5,-2,10,8]:=by rw [zXF]; decide +kernel
theorem zYV:[obj (vars exH)]=[ri [-3,9]]:=by rw [zYY]; decide +kernel
theorem zXE:vars exH=[⟨false,0,0,0,⟨10,3⟩⟩,⟨true,0,0,1,⟨8,9⟩⟩]:=rfl
theorem hfld2 (n:Int) (A B C D E:Value) (w:World):(Instr.field 30 (.agg #[.int .i64 n,A,B,C,D,E]) 2).run Tryz.prog w = .ok C w:=by kernel_rfl
theorem hfld3 (n:Int) (A B C D E:Value) (w:World):(Instr.field 30 (.agg #[.int .i64 n,A,B,C,D,E]) 3).run Tryz.prog w = .ok D w:=by kernel_rfl
theorem hfld4 (n:Int) (A B C D E:Value) (w:World):(Instr.field 30 (.agg #[.int .i64 n,A,B,C,D,E]) 4).run Tryz.prog w = .ok E w:=by kernel_rfl
structure AwP (w:World) (pb:Nat) (p:LPV) (W:World):Prop where
 low:Below w w W
 box:Box4 W pb (.int .i64 2) (.slice p.O.A p.O.n p.O.c) (.slice p.R.A p.R.n p.R.c) (.slice p.B.A p.B.n p.B.c)
 sz:pb<W.heap.size
 o:MatCan W AllB AllB p.O [ri [-3,9]]
 r:MatCan W AllB AllB p.R (exRI.map ri)
 b:VecCan W AllB AllB p.B (ri [0,0,5,5,-2,10,8])
theorem AwP.below {w W W':World} {pb:Nat} {p:LPV} (h:AwP w pb p W) (hb:Below W W W'):AwP w pb p W':=by
 obtain ⟨r0,r1,r2,r3,r4⟩:=h.box;exact ⟨h.low.trans (hb.mono h.low.size),⟨cellB hb r0,cellB hb r1,cellB hb r2,cellB hb r3,fun o=>(hb.frozen h.sz).trans (r4 o)⟩,ltl h.sz hb.size,h.o.belowC hb,h.r.belowC hb,h.b.belowC hb⟩
theorem zVf {w:World}:Calls Tryz.prog 10 #[] w fun e w'=>e = .returned (.bool true)/\Below w w w':=by
 have f2:=hfld2;have f3:=hfld3;have f4:=hfld4;go_enter Tryz.func10,Tryz.ntmps10
 go_wp2_with fail
 refine zU9.mono ?_;rintro e w1 ⟨⟨V,rfl,hV⟩,hb1⟩;have HB:=hdq (zU3 hV);have Hb1:=hdq hb1;obtain ⟨n,L,O,U,N,B⟩:=V;dsimp only [HrV.val] at HB ⊢;clear hV hb1;go_wp2_with fail
 refine HB.out.mono ?_;rintro e w2 ⟨hR,hb2⟩;rcases hR with ⟨h0,-⟩ | ⟨-,p,m,rfl,hL⟩
 ·exact absurd zYZ h0
 have hm:m=[[1,0],[1,1]]:=by have:=hL.hinv; rw [zYX] at this; cases this; rfl
 subst hm;have hpn:p.n=2:=by have:=hL.n; rw [zXE] at this; exact this
 have c2:Below w w w2:=Hb1.out.trans (hb2.mono Hb1.out.size)
 have HP2:Hid (Below w w w2/\MatCan w2 AllB AllB p.O [ri [-3,9]]/\MatCan w2 AllB AllB p.R (exRI.map ri)/\VecCan w2 AllB AllB p.B (ri [0,0,5,5,-2,10,8])):=hdq (by
  obtain ⟨-,-,h1,h2,h3,-⟩:=hL.imp (X':=AllB) fun _ _ _=>trivial
  rw [zYV] at h1;rw [zYW] at h2;rw [zYU] at h3;exact ⟨c2,h1,h2,h3⟩)
 have hon:p.O.n=1:=HP2.out.2.1.len.symm;have hrn:p.R.n=7:=HP2.out.2.2.1.len.symm;have o1:=HP2.out.2.1.le;have o2:=HP2.out.2.1.cap;have r1:=HP2.out.2.2.1.le;have r2:=HP2.out.2.2.1.cap;have b1:=HP2.out.2.2.2.le;have b2:=HP2.out.2.2.2.cap;have b3:p.B.n=7:=HP2.out.2.2.2.len.symm;clear hL hb2 c2 HB Hb1;obtain ⟨pn,⟨oA,on,oc⟩,⟨rA,rn,rc⟩,⟨bA,bn,bc⟩⟩:=p;dsimp only at hpn hon hrn o1 o2 r1 r2 b1 b2 b3;subst hpn;subst hon;subst hrn;subst b3;dsimp only [LPV.val]
 have hAl:AwP w w2 ⟨2,⟨oA,1,oc⟩,⟨rA,7,rc⟩,⟨bA,7,bc⟩⟩ (w2.alloc (.cells #[.int .i64 2,.slice oA 1 oc,.slice rA 7 rc,.slice bA 7 bc] 36)):=by
  have al:Below w2 w2 (w2.alloc (.cells #[.int .i64 2,.slice oA 1 oc,.slice rA 7 rc,.slice bA 7 bc] 36)):=bal;obtain ⟨h1,h2,h3,h4⟩:=HP2.out;exact ⟨h1.trans (al.mono h1.size),bx4,by simp,h2.belowC al,h3.belowC al,h4.belowC al⟩
 have HA:=hdq hAl;clear hAl HP2;go_upto_region 2 with fail
 obtain ⟨pb,hpb⟩:∃ pb,pb=w2.heap.size:=⟨_,rfl⟩;rw [<-hpb] at HA ⊢;clear hpb;generalize w2.alloc (.cells #[.int .i64 2,.slice oA 1 oc,.slice rA 7 rc,.slice bA 7 bc] 36)=W at *;clear w2;obtain ⟨p0,p1,p2,p3,-⟩:=HA.out.box;have sz:=HA.out.sz;dsimp only at p1 p2 p3;go_upto_region 4 with fail
 clear p0 p1 p2 p3 sz;go_wp2_with fail
 refine zU9.mono ?_;rintro e w3 ⟨⟨V1,rfl,hV1⟩,hb3⟩;have HA3:=hdq (HA.out.below hb3);have HU:=hdq hV1.U;obtain ⟨n',L',O',⟨uA,un,uc⟩,N',B'⟩:=V1;dsimp only [HrV.val] at HU ⊢;clear HA hV1 hb3;go_wp2_with fail
 refine zU9.mono ?_;rintro e w4 ⟨⟨V2,rfl,hV2⟩,hb4⟩;have HA4:=hdq (HA3.out.below hb4);have HU4:=hdq (UnitsAt.below hb4 HU.out);have HN4:=hdq hV2.N;obtain ⟨n'',L'',O'',U'',⟨nA,nn,nc⟩,B''⟩:=V2;dsimp only [HrV.val] at HN4 ⊢;clear HA3 HU hV2 hb4;go_wp2_with fail
 refine zU9.mono ?_;rintro e w5 ⟨⟨V3,rfl,hV3⟩,hb5⟩;have HA5:=hdq (HA4.out.below hb5);have HCo:=hdq (cols_calls (UnitsAt.below hb5 HU4.out) (HN4.out.below hb5) hV3.B zYZ);obtain ⟨n3,L3,O3,U3,N3,⟨dA,dn,dc⟩⟩:=V3;dsimp only [HrV.val,SV.val] at HCo ⊢;clear HA4 HU4 HN4 hV3 hb5;go_wp2_with fail
 refine HCo.out.mono ?_;rintro e w6 ⟨⟨t,rfl,hT⟩,hb6⟩;have HA:=hdq (HA5.out.below hb6);have HT:=hdq hT;obtain ⟨tA,tn,tc⟩:=t;have htn:tn=2:=by have:=hT.len; rw [zXE] at this; exact this.symm
 subst htn;have t1:2<=tc:=hT.le;have t2:tc<=9223372036854775807:=hT.cap;dsimp only [SV.val];clear hb6 HA5 HCo hT;generalize w6=W at *;obtain ⟨p0,p1,p2,p3,-⟩:=HA.out.box;have sz:=HA.out.sz;dsimp only at p1 p2 p3;obtain ⟨ad,⟨sA,sn,sc⟩,e,-,hcell,hv⟩:=HA.out.o.row 0 (by show 0<1; decide);dsimp only [SV.val] at e hcell;subst e;obtain ⟨ab,ao,asp⟩:=ad;obtain rfl:asp=none:=World.cell?_spot (by rw [add_zero'] at hcell; exact hcell);rw [zA4] at hcell;rw [Nat.add_zero] at hcell;have ht:=zAb hcell;have hv':VecCan W AllB AllB ⟨sA,sn,sc⟩ (ri [-3,9]):=hv;have al:Below W W (W.alloc (.cells #[.int .i64 (-3),.int .i64 9] 2)):=bal;have HRo:=hdq (zUj (t:=⟨some ⟨W,0,none⟩,2,2⟩) (hv'.belowC al) (intsNew W [-3,9] 2 rfl (by decide) (by decide)) (by show 2<=1000; decide));have HA2:=hdq (HA.out.below al);have HT2:=hdq (ColsAt.below HT.out al);dsimp only [SV.val] at HRo;clear hv' al hv;go_wp2_with fail
 refine HRo.out.mono ?_;rintro e Wx1 ⟨rfl,hb7⟩;replace HA:=hdq (HA2.out.below hb7);replace HT:=hdq (ColsAt.below HT2.out hb7);clear p0 p1 p2 p3 sz HRo HA2 HT2 hb7 hcell ht;obtain ⟨p0,p1,p2,p3,-⟩:=HA.out.box;have sz:=HA.out.sz;dsimp only at p1 p2 p3;obtain ⟨ad,⟨sA,sn,sc⟩,e,-,hcell,hv⟩:=HA.out.r.row 0 (by show 0<7; decide);dsimp only [SV.val] at e hcell;subst e;obtain ⟨ab,ao,asp⟩:=ad;obtain rfl:asp=none:=World.cell?_spot (by rw [add_zero'] at hcell; exact hcell);rw [zA4] at hcell;rw [Nat.add_zero] at hcell;have ht:=zAb hcell;have hv':VecCan Wx1 AllB AllB ⟨sA,sn,sc⟩ (ri [-1,1]):=hv;have al:Below Wx1 Wx1 (Wx1.alloc (.cells #[.int .i64 (-1),.int .i64 1] 2)):=bal;have HRo:=hdq (zUj (t:=⟨some ⟨Wx1,0,none⟩,2,2⟩) (hv'.belowC al) (intsNew Wx1 [-1,1] 2 rfl (by decide) (by decide)) (by show 2<=1000; decide));have HA2:=hdq (HA.out.below al);have HT2:=hdq (ColsAt.below HT.out al);dsimp only [SV.val] at HRo;clear hv' al hv;go_wp2_with fail
 refine HRo.out.mono ?_;rintro e Wx2 ⟨rfl,hb7⟩;replace HA:=hdq (HA2.out.below hb7);replace HT:=hdq (ColsAt.below HT2.out hb7);clear p0 p1 p2 p3 sz HRo HA2 HT2 hb7 hcell ht;obtain ⟨p0,p1,p2,p3,-⟩:=HA.out.box;have sz:=HA.out.sz;dsimp only at p1 p2 p3;obtain ⟨ad,⟨sA,sn,sc⟩,e,-,hcell,hv⟩:=HA.out.r.row 1 (by show 1<7; decide);dsimp only [SV.val] at e hcell;cases e;rw [zA4] at hcell;have ht:=zAb hcell;have hv':VecCan Wx2 AllB AllB ⟨sA,sn,sc⟩ (ri [1,-1]):=hv;have al:Below Wx2 Wx2 (Wx2.alloc (.cells #[.int .i64 1,.int .i64 (-1)] 2)):=bal;have HRo:=hdq (zUj (t:=⟨some ⟨Wx2,0,none⟩,2,2⟩) (hv'.belowC al) (intsNew Wx2 [1,-1] 2 rfl (by decide) (by decide)) (by show 2<=1000; decide));have HA2:=hdq (HA.out.below al);have HT2:=hdq (ColsAt.below HT.out al);dsimp only [SV.val] at HRo;clear hv' al hv;go_wp2_with fail
 refine HRo.out.mono ?_;rintro e Wx3 ⟨rfl,hb7⟩;replace HA:=hdq (HA2.out.below hb7);replace HT:=hdq (ColsAt.below HT2.out hb7);clear p0 p1 p2 p3 sz HRo HA2 HT2 hb7 hcell ht;obtain ⟨p0,p1,p2,p3,-⟩:=HA.out.box;have sz:=HA.out.sz;dsimp only at p1 p2 p3;obtain ⟨ad,⟨sA,sn,sc⟩,e,-,hcell,hv⟩:=HA.out.r.row 2 (by show 2<7; decide);dsimp only [SV.val] at e hcell;cases e;rw [zA4] at hcell;have ht:=zAb hcell;have hv':VecCan Wx3 AllB AllB ⟨sA,sn,sc⟩ (ri [0,1]):=hv;have al:Below Wx3 Wx3 (Wx3.alloc (.cells #[.int .i64 0,.int .i64 1] 2)):=bal;have HRo:=hdq (zUj (t:=⟨some ⟨Wx3,0,none⟩,2,2⟩) (hv'.belowC al) (intsNew Wx3 [0,1] 2 rfl (by decide) (by decide)) (by show 2<=1000; decide));have HA2:=hdq (HA.out.below al);have HT2:=hdq (ColsAt.below HT.out al);dsimp only [SV.val] at HRo;clear hv' al hv;go_wp2_with fail
 refine HRo.out.mono ?_;rintro e Wx4 ⟨rfl,hb7⟩;replace HA:=hdq (HA2.out.below hb7);replace HT:=hdq (ColsAt.below HT2.out hb7);clear p0 p1 p2 p3 sz HRo HA2 HT2 hb7 hcell ht;obtain ⟨p0,p1,p2,p3,-⟩:=HA.out.box;have sz:=HA.out.sz;dsimp only at p1 p2 p3;obtain ⟨ad,⟨sA,sn,sc⟩,e,-,hcell,hv⟩:=HA.out.r.row 3 (by show 3<7; decide);dsimp only [SV.val] at e hcell;cases e;rw [zA4] at hcell;have ht:=zAb hcell;have hv':VecCan Wx4 AllB AllB ⟨sA,sn,sc⟩ (ri [0,-1]):=hv;have al:Below Wx4 Wx4 (Wx4.alloc (.cells #[.int .i64 0,.int .i64 (-1)] 2)):=bal;have HRo:=hdq (zUj (t:=⟨some ⟨Wx4,0,none⟩,2,2⟩) (hv'.belowC al) (intsNew Wx4 [0,-1] 2 rfl (by decide) (by decide)) (by show 2<=1000; decide));have HA2:=hdq (HA.out.below al);have HT2:=hdq (ColsAt.below HT.out al);dsimp only [SV.val] at HRo;clear hv' al hv;go_wp2_with fail
 refine HRo.out.mono ?_;rintro e Wx5 ⟨rfl,hb7⟩;replace HA:=hdq (HA2.out.below hb7);replace HT:=hdq (ColsAt.below HT2.out hb7);clear p0 p1 p2 p3 sz HRo HA2 HT2 hb7 hcell ht;obtain ⟨p0,p1,p2,p3,-⟩:=HA.out.box;have sz:=HA.out.sz;dsimp only at p1 p2 p3;obtain ⟨ad,⟨sA,sn,sc⟩,e,-,hcell,hv⟩:=HA.out.r.row 4 (by show 4<7; decide);dsimp only [SV.val] at e hcell;cases e;rw [zA4] at hcell;have ht:=zAb hcell;have hv':VecCan Wx5 AllB AllB ⟨sA,sn,sc⟩ (ri [-1,0]):=hv;have al:Below Wx5 Wx5 (Wx5.alloc (.cells #[.int .i64 (-1),.int .i64 0] 2)):=bal;have HRo:=hdq (zUj (t:=⟨some ⟨Wx5,0,none⟩,2,2⟩) (hv'.belowC al) (intsNew Wx5 [-1,0] 2 rfl (by decide) (by decide)) (by show 2<=1000; decide));have HA2:=hdq (HA.out.below al);have HT2:=hdq (ColsAt.below HT.out al);dsimp only [SV.val] at HRo;clear hv' al hv;go_wp2_with fail
 refine HRo.out.mono ?_;rintro e Wx6 ⟨rfl,hb7⟩;replace HA:=hdq (HA2.out.below hb7);replace HT:=hdq (ColsAt.below HT2.out hb7);clear p0 p1 p2 p3 sz HRo HA2 HT2 hb7 hcell ht;obtain ⟨p0,p1,p2,p3,-⟩:=HA.out.box;have sz:=HA.out.sz;dsimp only at p1 p2 p3;obtain ⟨ad,⟨sA,sn,sc⟩,e,-,hcell,hv⟩:=HA.out.r.row 5 (by show 5<7; decide);dsimp only [SV.val] at e hcell;cases e;rw [zA4] at hcell;have ht:=zAb hcell;have hv':VecCan Wx6 AllB AllB ⟨sA,sn,sc⟩ (ri [1,0]):=hv;have al:Below Wx6 Wx6 (Wx6.alloc (.cells #[.int .i64 1,.int .i64 0] 2)):=bal;have HRo:=hdq (zUj (t:=⟨some ⟨Wx6,0,none⟩,2,2⟩) (hv'.belowC al) (intsNew Wx6 [1,0] 2 rfl (by decide) (by decide)) (by show 2<=1000; decide));have HA2:=hdq (HA.out.below al);have HT2:=hdq (ColsAt.below HT.out al);dsimp only [SV.val] at HRo;clear hv' al hv;go_wp2_with fail
 refine HRo.out.mono ?_;rintro e Wx7 ⟨rfl,hb7⟩;replace HA:=hdq (HA2.out.below hb7);replace HT:=hdq (ColsAt.below HT2.out hb7);clear p0 p1 p2 p3 sz HRo HA2 HT2 hb7 hcell ht;obtain ⟨p0,p1,p2,p3,-⟩:=HA.out.box;have sz:=HA.out.sz;dsimp only at p1 p2 p3;obtain ⟨ad,⟨sA,sn,sc⟩,e,-,hcell,hv⟩:=HA.out.r.row 6 (by show 6<7; decide);dsimp only [SV.val] at e hcell;cases e;rw [zA4] at hcell;have ht:=zAb hcell;have hv':VecCan Wx7 AllB AllB ⟨sA,sn,sc⟩ (ri [0,1]):=hv;have al:Below Wx7 Wx7 (Wx7.alloc (.cells #[.int .i64 0,.int .i64 1] 2)):=bal;have HRo:=hdq (zUj (t:=⟨some ⟨Wx7,0,none⟩,2,2⟩) (hv'.belowC al) (intsNew Wx7 [0,1] 2 rfl (by decide) (by decide)) (by show 2<=1000; decide));have HA2:=hdq (HA.out.below al);have HT2:=hdq (ColsAt.below HT.out al);dsimp only [SV.val] at HRo;clear hv' al hv;go_wp2_with fail
 refine HRo.out.mono ?_;rintro e Wx8 ⟨rfl,hb7⟩;replace HA:=hdq (HA2.out.below hb7);replace HT:=hdq (ColsAt.below HT2.out hb7);clear p0 p1 p2 p3 sz HRo HA2 HT2 hb7 hcell ht;obtain ⟨p0,p1,p2,p3,-⟩:=HA.out.box;have sz:=HA.out.sz;dsimp only at p1 p2 p3;have hv':VecCan Wx8 AllB AllB ⟨bA,7,bc⟩ (ri [0,0,5,5,-2,10,8]):=HA.out.b;have al:Below Wx8 Wx8 (Wx8.alloc (.cells #[.int .i64 0,.int .i64 0,.int .i64 5,.int .i64 5,.int .i64 (-2),.int .i64 10,.int .i64 8] 2)):=bal;have HRo:=hdq (zUj (t:=⟨some ⟨Wx8,0,none⟩,7,7⟩) (hv'.belowC al) (intsNew Wx8 [0,0,5,5,-2,10,8] 7 rfl (by decide) (by decide)) (by show 7<=1000; decide));have HA2:=hdq (HA.out.below al);have HT2:=hdq (ColsAt.below HT.out al);dsimp only [SV.val] at HRo;clear hv' al;go_wp2_with fail
 refine HRo.out.mono ?_;rintro e Wx9 ⟨rfl,hb7⟩;replace HA:=hdq (HA2.out.below hb7);replace HT:=hdq (ColsAt.below HT2.out hb7);clear p0 p1 p2 p3 sz HRo HA2 HT2 hb7;obtain ⟨ad,e,l0,l1,l2⟩:=HT.out.cell 0 (by show 0<2; decide);dsimp only at e;subst e;obtain ⟨ad2,e,m0,m1,m2⟩:=HT.out.cell 1 (by show 1<2; decide);cases e;rw [zXE] at l0 l1 l2 m0 m1 m2;obtain ⟨ab,ao,asp⟩:=ad;obtain rfl:asp=none:=World.cell?_spot (by rw [Nat.zero_mul,add_zero'] at l0; exact l0);simp only [Nat.zero_mul,Nat.one_mul,zA4,Nat.add_zero,List.getD_cons_zero,List.getD_cons_succ] at l0 l1 l2 m0 m1 m2;have t0:=zAb l0;have t9:=zAb m0;have HL:=hdq HA.out.low;clear HA HT;go_wp2;go_ret;exact ⟨rfl,HL.out⟩
end Mo
end Go.Proofs.YtjancagcmghfjaaGreat
