/- Texts MqF of this claim. -/
import Derived.Test.YtjancagcmghfjaaGreatX28
set_option maxHeartbeats 4000000
set_option maxRecDepth 100000
namespace Go.Proofs.YtjancagcmghfjaaGreat
open Go.RowKit Go.Shelf Gj
namespace Mo
attribute [local go_sem] Oper.semAt_some
abbrev colL (v:Vr):List Value:=[.bool v.bid,.int .i64 (v.which:Int),.int .i64 (v.step:Int)]
def ColC (w:World) (a:Addr) (v:Vr):Prop:=w.cell? a=some (.bool v.bid)/\w.cell? ⟨a.block,a.off+1,none⟩=some (.int .i64 (v.which:Int))/\w.cell? ⟨a.block,a.off+2,none⟩=some (.int .i64 (v.step:Int))
abbrev ColsAt (w:World) (s:SV) (vs:List Vr):Prop:=SlAt w 3 ColC vr0 s vs
theorem ColsAt.below {w w':World} {s:SV} {vs:List Vr} (h:ColsAt w s vs) (hb:Below w w w'):ColsAt w' s vs:=SlAt.map h fun _ _ h=>⟨cellB hb h.1,cellB hb h.2.1,cellB hb h.2.2⟩
theorem flat3 {α:Type} (f:α->List Value) (hf:∀ a,(f a).length=3) (l:List α) (k o:Nat) (hk:k<l.length) (ho:o<3):(l.flatMap f)[k*3+o]?=(f l[k])[o]?:=by
 induction l generalizing k with
 | nil=>simp at hk
 | cons q qs ih=>
  rw [List.flatMap_cons];have:=hf q
  cases k with
  | zero=>rw [List.getElem?_append_left (by omega)]; simp
  | succ k=>
   rw [List.getElem?_append_right (by omega)];have e:(k+1)*3+o-(f q).length=k*3+o:=(by omega);rw [e,ih k (by simpa using hk)];simp
theorem zYa:(Tryz.prog.info? 69).map (fun i=>(i.zero,i.size,i.bytes))=some (some (.agg #[.bool false,.int .i64 0,.int .i64 0]),3,24):=by kernel_rfl
theorem zWA (w:World) (v:Vr):∀ j u,(colL v)[j]?=some u->(w.alloc (.cells #[.bool v.bid,.int .i64 (v.which:Int),.int .i64 (v.step:Int)] 69)).cell? (Addr.add ⟨w,0,none⟩ j)=some u:=by
 intro j u h;rw [zA4,Nat.zero_add];have e:(w.alloc (.cells #[.bool v.bid,.int .i64 (v.which:Int),.int .i64 (v.step:Int)] 69)).heap[w.heap.size]?=some (.cells #[.bool v.bid,.int .i64 (v.which:Int),.int .i64 (v.step:Int)] 69 (0,0)):=zAd _ _ rfl;simp only [World.cell?,e]
 match j,h with
 | 0,h=>simpa [colL] using h
 | 1,h=>simpa [colL] using h
 | 2,h=>simpa [colL] using h
 | j+3,h=>simp [colL] at h
def CcI {n:Nat} (w W0:World) (b c:Nat) (vs:List Vr) (pre:List (Fin n)) (W:World):Prop:=
 ∃ v,Boxed W c 51 v/\W.ownsRow b 69 3 v pre.length (pre.flatMap fun i=>colL (vs.getD i.val vr0))/\b<=W.heap.size/\Below w w W/\Carry (fun y=>y<b/\y ≠ c) W0 W
theorem CcI.own {n:Nat} {w W0:World} {b c B:Nat} {vs:List Vr} (hB:w.heap.size<=B):OwnFrom B (CcI (n:=n) w W0 b c vs):=fun s W W' row hs hg hr=>by
 obtain ⟨v,z,hown,hn,hb,hc⟩:=hs;exact ⟨v,zAi hg (fun r e=>(hr r e).2) z,zEp hg (fun r e=>(hr r e).2) hown,nlt hn hg.size,ownFrom_below (nlr _) hB s W W' row hb hg hr,hc.trans (Carry.grown hg (fun r e=>(hr r e).2))⟩
theorem zYn {n:Nat} {W:World} {B:Nat} {v:Value} {vs:List Vr} {ys:List (Fin n)} (h:W.ownsRow B 69 3 v ys.length (ys.flatMap fun i=>colL (vs.getD i.val vr0))) (he:ys.map Fin.val=List.range vs.length) :
  ∃ t:SV,v=t.val/\(∀ ad,t.A=some ad->B<=ad.block)/\ColsAt W t vs:=by
 have hlen:ys.length=vs.length:=by have:=congrArg List.length he; simpa using this
 rcases h.2 with ⟨e,e2⟩ | ⟨g,cap,cur,e,h1,h2,h3,h4,h5,h6⟩
 ·have hl0:ys.length=0:=e2;exact ⟨⟨none,0,0⟩,by first | exact e | (rw [e2]; done) | exact e2,fun ad e=>(by cases e),by show vs.length=0; omega,nlr _,nzl _,fun k hk=>absurd hk (Nat.not_lt_zero k)⟩
 ·refine ⟨⟨some ⟨g,0,none⟩,ys.length,cap⟩,e,fun ad e=>(by cases e; exact h1),hlen.symm,h3,by simpa [maxLen] using h4,fun k hk=>⟨_,rfl,?_⟩⟩;have hk':k<ys.length:=hk;subst e
  have hx:(ys[k]'hk').val=k:=by
   have e1:(ys.map Fin.val)[k]?=some k:=(by rw [he,List.getElem?_range (by omega)]);rw [List.getElem?_map,gge hk'] at e1;simpa using e1
  have key:∀ o u,o<3->(colL (vs.getD k vr0))[o]?=some u->W.cell? ⟨g,k*3+o,none⟩=some u:=fun o u ho hu=>by
   have:=h.cells (g:=g) rfl (k*3+o) u (by rw [flat3 (fun i:Fin n=>colL (vs.getD i.val vr0)) (fun _=>rfl) ys k o hk' ho,hx]; exact hu);rw [<-this,zA4,Nat.zero_add]
  have e0:(⟨g,0,none⟩:Addr).add (k*3)=⟨g,k*3,none⟩:=by rw [zA4,Nat.zero_add]
  rw [e0];exact ⟨key 0 _ (by omega) rfl,key 1 _ (by omega) rfl,key 2 _ (by omega) rfl⟩
theorem cols_calls {w:World} {h:Hr} {U N B:SV} (hu:UnitsAt w U h.units) (ho:OnAt w N h.on) (hb:BidsAt w B h.bids) (h0:hrErr h=0) :
  Calls Tryz.prog 17 #[U.val,N.val,B.val] w fun e w'=>(∃ t:SV,e = .returned t.val/\ColsAt w' t (vars h))/\Below w w w':=by
 obtain ⟨uA,un,uc⟩:=U;obtain ⟨nA,nn,nc⟩:=N;obtain ⟨bA,bn,bc⟩:=B;obtain ⟨r1,r2,r3,r4,r5⟩:=zUh h0;have Hst:Hid (∀ u ∈ h.units,u.steps.length<=3):=hdq fun u hu=>(zT8 (zVw (r3 u hu)).2.2.1).2.1
 have Hsb:Hid (∀ u ∈ h.bids,u.steps.length<=3):=hdq fun u hu=>(zT8 (zUs r5 u hu).2.2).2.1
 have Hvl:=hdq (zUU h0);have hu5:=r1;have hb6:=r2;have Hon:=hdq r4;have HU:=hdq hu;have HO:=hdq ho;have HB:=hdq hb;clear hu ho hb r1 r2 r3 r4 r5 h0;dsimp only [SV.val];refine (callsIn_wide (n:=6)).1 ?_;refine callsIn_of_wp_marks Tryz.func17 rfl trivial ?_ rfl;simp only [Tryz.ntmps17,List.size_toArray,List.length_cons,List.length_nil,Nat.reduceAdd,Nat.reduceSub,Array.replicate_succ,Array.replicate_zero,List.push_toArray,List.append_toArray,List.nil_append,List.cons_append];gi_wp2;refine ⟨trivial,?_⟩;refine (zVL uA nA bA un uc nn nc bn bc).mono ?_;rintro e w2 ⟨rfl,rfl⟩;gi_wp2;obtain ⟨c,hc⟩:∃ c,c=w.heap.size:=⟨_,rfl⟩;obtain ⟨W0,hW0⟩:∃ W0,(((w.alloc (.cells #[.slice none 0 0] 51)).alloc (.cells #[.slice uA un uc] 26)).alloc (.cells #[.slice nA nn nc] 27)).alloc (.cells #[.slice bA bn bc] 28)=W0:=⟨_,rfl⟩;rw [hW0,<-hc];have hk0:Below w w W0:=by rw [<-hW0]; exact ((((brf _ w).alloc (nlr _) _).alloc (by simp) _).alloc (by simp; omega) _).alloc (by simp; omega) _
 have hs0:W0.heap.size=c+4:=by rw [<-hW0,hc]; simp
 have z0:Boxed W0 c 51 (.slice none 0 0):=by rw [<-hW0,hc]; exact alk (alk (alk (zAd _ _ rfl)))
 have x4:W0.cell? ⟨c+1,0,none⟩=some (.slice uA un uc):=by
  have e:W0.heap[c+1]?=some (.cells #[.slice uA un uc] 26 (0,0)):=by rw [<-hW0,hc]; exact alk (alk (zAd _ _ (by simp)))
  simp [World.cell?,e]
 have x5:W0.cell? ⟨c+1+1,0,none⟩=some (.slice nA nn nc):=by
  have e:W0.heap[c+1+1]?=some (.cells #[.slice nA nn nc] 27 (0,0)):=by rw [<-hW0,hc]; exact alk (zAd _ _ (by simp))
  simp [World.cell?,e]
 have x6:W0.cell? ⟨c+1+2,0,none⟩=some (.slice bA bn bc):=by
  have e:W0.heap[c+1+2]?=some (.cells #[.slice bA bn bc] 28 (0,0)):=by rw [<-hW0,hc]; exact zAd _ _ (by simp)
  simp [World.cell?,e]
 have HK0:=hdq hk0;have Hs:=hdq hs0;have hc1:w.heap.size<=c:=by omega
 have hc2:c<=w.heap.size:=by omega
 clear hW0 hc hk0 hs0
 refine wpIn_rangeFunc_ownH (F:=Fence.wide) rfl (by omega) (gf:=103) (lb:=#[.pointer (some ⟨c+1,0,none⟩),.pointer (some ⟨c+1+1,0,none⟩),.pointer (some ⟨c+1+2,0,none⟩)]) rfl trivial (enters_of Tryz.func103 (by kernel_rfl) rfl)
  (zVK (X:=fun y=>y<c+4/\y ≠ c) (w0:=w) (h:=h) (U:=⟨uA,un,uc⟩) (N:=⟨nA,nn,nc⟩) (B:=⟨bA,bn,bc⟩) (by omega) x4 (by omega) x5 (by omega) x6 (by omega) HU.out HO.out HB.out (Carry.of_below HK0.out) (fun y hy=>by omega) Hon.out Hst.out Hsb.out hu5 hb6 (by have:=Hvl.out; omega))
  (fun h k=>h.trans k) (fun W l o o' _ hl ho _=>Carry.putObj o' hl ho) (brf _ _) (fun _=>rfl)
  (fun pre W=>CcI w W0 (c+4) c (vars h) pre W)
  (fun _ _ _=>False)
  (CcI.own (by rw [Hs.out]; omega))
  (fun _ _ _ _ _ hs _ _=>hs)
  ⟨_,z0,World.ownsRow_nil _ _ _ _,by rw [Hs.out]; exact nlr _,HK0.out,Carry.refl _ _⟩
  (fun x1 a' W=>∃ q,a'={tmps:=#[.slice uA un uc,.slice nA nn nc,.slice bA bn bc,undef,undef,undef,.slice none 0 0,.pointer (some c),undef,.pointer (some ⟨q,0,none⟩),.slice uA un uc,.slice nA nn nc,.slice bA bn bc,.func (.func 103) #[] #[.pointer (some ⟨c+1,0,none⟩),.pointer (some ⟨c+1+1,0,none⟩),.pointer (some ⟨c+1+2,0,none⟩)],.int .i64 (x1.val:Int),.agg #[.bool ((vars h).getD x1.val vr0).bid,.int .i64 (((vars h).getD x1.val vr0).which:Int),.int .i64 (((vars h).getD x1.val vr0).step:Int)],undef,undef,undef,undef,undef],defers:=[]}/\W.heap[q]?=some (.cells #[.bool ((vars h).getD x1.val vr0).bid,.int .i64 (((vars h).getD x1.val vr0).which:Int),.int .i64 (((vars h).getD x1.val vr0).step:Int)] 69 (0,0)))
  (fun x a' _ W W' row hs hg hr=>?hAx) ?assign ?body ?done ?stop
 case hAx=>
  obtain ⟨q,e,g1⟩:=hs;exact ⟨q,e,zAi hg (fun r e=>(hr r e).2) g1⟩
 case stop=>
  rintro D c pre W _ _ h _;exact h.elim
 case assign=>
  intro l pre x1 W K hI hK;unfold colA;generalize (vars h).getD x1.val vr0=vr at *;gi_wp2;have al:Below W W (W.alloc (.cells #[.bool vr.bid,.int .i64 (vr.which:Int),.int .i64 (vr.step:Int)] 69)):=bal;have hgb:W.grownBy (W.alloc (.cells #[.bool vr.bid,.int .i64 (vr.which:Int),.int .i64 (vr.step:Int)] 69)) none:=⟨al.os,al.tape,al.output,al.size,fun k hk _=>al.block k hk⟩;exact hK _ _ ⟨al.size,fun k o _ hk _=>(al.block k (zAa hk)).trans hk⟩ (Carry.of_below al) (CcI.own (B:=w) (nlr _) _ _ _ _ hI hgb (fun r e=>by cases e)) ⟨W.heap.size,rfl,zAd _ _ rfl⟩
 case body=>
  rintro l pre x1 a' W _ _ ⟨v,z,hown,hn,hB,hcar⟩ ⟨q,rfl,g1⟩ hlt;have HL1:Hid ((pre++[x1]).flatMap (fun i=>colL ((vars h).getD i.val vr0))=pre.flatMap (fun i=>colL ((vars h).getD i.val vr0))++colL ((vars h).getD x1.val vr0)):=hdq (by rw [List.flatMap_append]; simp);have hpl:pre.length<=33:=by have:=Hvl.out; omega
  generalize (vars h).getD x1.val vr0=vr at *;have g0:W.cell? q=some (.bool vr.bid):=by simp [World.cell?,g1]
  have g2:W.cell? ⟨q,1,none⟩=some (.int .i64 (vr.which:Int)):=by simp [World.cell?,g1]
  have g3:W.cell? ⟨q,2,none⟩=some (.int .i64 (vr.step:Int)):=by simp [World.cell?,g1]
  have ql:=zAa g1;have c1:=z.cell;have zl:=z.lt;obtain ⟨i0,hiI,hz0,hz1,hz2⟩:=info_parts zYa;have HB:=hdq hB;have HCar:=hdq hcar;clear g1 hB hcar x4 x5 x6 z0;gi_wp2_with (gi_at_builtin; refine wpListIn_append_own _ rfl _ _ 51 rfl (c+4) 69 i0 (.agg #[.bool false,.int .i64 0,.int .i64 0]) 3 24 Tryz.underlying51 hiI hz0 hz1 hz2 rfl (by decide) v pre.length (pre.flatMap fun i=>colL ((vars h).getD i.val vr0)) rfl (hown.alloc _) ⟨W,0,none⟩ 1 1 (colL vr) rfl rfl ?cells ?one ?b1 ?b2 ?b3 ?_)
  case cells=>exact zWA _ _
  case one=>intro u hu; simp [colL] at hu; rcases hu with rfl | rfl | rfl <;> rfl
  case b1=>simp [maxLen]; omega
  case b2=>omega
  case b3=>simp; omega
  intro v' W9 hown9 hg9 hnil9;obtain ⟨p1,p2,p3,p4,p5,p6⟩:=zWU z hown (by omega) hn hown9 hg9;obtain ⟨g9,c9,rfl⟩:=ownsRow_succ hown9;have d1:=p1.cell;have d2:=p1.frozen;have Hfin:Hid _:=hdq (And.intro (And.intro p2 p3) (And.intro p4 (And.intro p5 p6)));clear p1 p2 p3 p4 p5 p6 hown9 hg9 hnil9 hown z c1;gi_wp2;obtain ⟨⟨q2,q3⟩,q4,q5,q6⟩:=Hfin.out;refine ⟨q4.from _,⟨q4.size,fun b cs t f hx hb=>(q5 b hx.1 hx.2).trans hb⟩,⟨_,q2,?_,nlt hn q4.size,HB.out.trans (q6 w (by omega)),HCar.out.trans ⟨q4.size,fun b cs t f hx hb=>(q5 b hx.1 hx.2).trans hb⟩⟩⟩;rw [List.length_append,HL1.out];simpa using q3
 case done=>
  rintro Dd ys W hDd he ⟨v,z,hown,hn,hB,hcar⟩ hK0;obtain ⟨⟨tA,tn,tc⟩,rfl,htB,hva⟩:=zYn hown he;have c1:=z.cell;have Hs':=hdq hn;dsimp only [SV.val] at c1;have HB:=hdq hB;clear x4 x5 x6 z0 hcar hB z hown;gi_wp2;refine ⟨by simp,.inl ⟨_,_,rfl,run_takeDeferred hK0,?_⟩⟩;have hcr:Carry (fun _=>True) W (W.putObj Dd (.deferred none)):=Carry.grown (grownBy_putObj' W Dd (.deferred none)) (fun r e=>by cases e; exact ⟨_,hK0,rfl⟩);exact ⟨_,results_tmp rfl _ _ _,⟨⟨tA,tn,tc⟩,rfl,SlAt.map hva fun _ _ hq=>⟨hcr.cell trivial hq.1,hcr.cell trivial hq.2.1,hcr.cell trivial hq.2.2⟩⟩,HB.out.trans (belowK_b (w:=w) (nlr _) W Dd _ _ (by have:=Hs.out; omega) hK0 rfl rfl)⟩
end Mo
end Go.Proofs.YtjancagcmghfjaaGreat
