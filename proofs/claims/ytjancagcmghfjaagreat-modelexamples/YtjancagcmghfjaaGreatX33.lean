/- Texts MqB of this claim. -/
import Derived.Test.YtjancagcmghfjaaGreatX30
set_option maxHeartbeats 4000000
set_option maxRecDepth 60000
namespace Go.Proofs.YtjancagcmghfjaaGreat
open Go.RowKit Go.Shelf Gj
namespace Mo
theorem zU3 {w:World} {v:HrV} {h:Hr} (hA:HrAt w v h) :
  Calls Tryz.prog 15 #[v.val] w fun e w'=>BldR h w e w'/\Below w w w':=by
 have HC:=hdq fun W (hb:Below w w W)=>zXz (hA.below hb)
 obtain ⟨n,L,O,U,N,B⟩:=v;dsimp only [SV.val] at HC;dsimp only [HrV.val];clear hA;go_enter Tryz.func15,Tryz.ntmps15
 go_wp2_with fail
 obtain ⟨W2,hW2⟩:∃ W2,(w.alloc (.cells #[.int .i64 n,.slice L.A L.n L.c,.slice O.A O.n O.c,.slice U.A U.n U.c,.slice N.A N.n N.c,.slice B.A B.n B.c] 30)).alloc (.cells #[.int .i64 0,.slice none 0 0,.slice none 0 0,.slice none 0 0] 36)=W2:=⟨_,rfl⟩;rw [hW2];have a2:Below w w W2:=by rw [<-hW2]; exact (bal).alloc (by simp) _
 have e2:W2.heap[w.heap.size+1]?=some (.cells #[.int .i64 0,.slice none 0 0,.slice none 0 0,.slice none 0 0] 36 (0,0)):=by rw [<-hW2]; exact zAd _ _ (by simp)
 have s2:W2.heap.size=w.heap.size+2:=by rw [<-hW2]; simp
 have bR:Box4 W2 (w+1) (.int .i64 0) (.slice none 0 0) (.slice none 0 0) (.slice none 0 0):=⟨by simp [World.cell?,e2],by simp [World.cell?,e2],by simp [World.cell?,e2],by simp [World.cell?,e2],fun o=>by simp [World.frozen?,e2]⟩;have s1:w.heap.size+1<W2.heap.size:=by omega
 clear hW2 e2;refine (HC.out W2 a2).mono ?_;rintro e w1 ⟨hR,hb1⟩;have c1:Below w w w1:=a2.trans (hb1.mono a2.size);have bR1:=bR.below hb1 s1;have t1:w.heap.size+1<w1.heap.size:=ltl s1 hb1.size;obtain ⟨z0,z1,z2,z3,z9⟩:=id bR1;have S2:=hdq s2;clear s2 a2 hb1 bR s1;rcases hR with ⟨h0,rfl⟩ | ⟨h0,p,m,rfl,hL⟩
 ·obtain ⟨v0,v1,v2,v3,-⟩:=bR1.stored (.int .i64 0) (.slice none 0 0) (.slice none 0 0) (.slice none 0 0);have HBe:=hdq (zAl (x0:=.int .i64 0) (x1:=.slice none 0 0) (x2:=.slice none 0 0) (x3:=.slice none 0 0) (b:=w+1) c1 (by omega));have H0:=hdq h0;clear bR1 c1 h0;dsimp only [LPV.val];go_wp2;exact bodyPost_ret (v:=.tuple #[.agg #[.int .i64 0,.slice none 0 0,.slice none 0 0,.slice none 0 0],.int .i64 (hrErr h)]) (by simp [results,Tryz.results15,go_sem,v0,v1,v2,v3]) rfl ⟨.inl ⟨H0.out,rfl⟩,HBe.out⟩
 ·obtain ⟨pn,⟨oA,on,oc⟩,⟨rA,rn,rc⟩,⟨bA,bn,bc⟩⟩:=p;obtain ⟨v0,v1,v2,v3,-⟩:=bR1.stored (.int .i64 pn) (.slice oA on oc) (.slice rA rn rc) (.slice bA bn bc);have HBe:=hdq (zAl (x0:=.int .i64 pn) (x1:=.slice oA on oc) (x2:=.slice rA rn rc) (x3:=.slice bA bn bc) (b:=w+1) c1 (by omega));have HL:=hdq ((LPC.keep hL (W':=(((w1.setCell ⟨w+1,0,none⟩ (.int .i64 pn)).setCell ⟨w.heap.size+1,1,none⟩ (.slice oA on oc)).setCell ⟨w.heap.size+1,2,none⟩ (.slice rA rn rc)).setCell ⟨w.heap.size+1,3,none⟩ (.slice bA bn bc)) (fun a ha _=>zXU (by simp only [New] at ha; have:=S2.out; omega)) (by simp [World.setCell]) (fun a=>by rw [World.frozen?_setCell,World.frozen?_setCell,World.frozen?_setCell,World.frozen?_setCell])).imp (X':=New w) fun b _ hb=>by simp only [New] at hb ⊢; have:=S2.out; omega);have H0:=hdq h0;clear bR1 c1 h0 hL;dsimp only [LPV.val];go_wp2;exact bodyPost_ret (v:=.tuple #[.agg #[.int .i64 pn,.slice oA on oc,.slice rA rn rc,.slice bA bn bc],.int .i64 0]) (by simp [results,Tryz.results15,go_sem,v0,v1,v2,v3]) rfl ⟨.inr ⟨H0.out,_,m,rfl,HL.out⟩,HBe.out⟩
end Mo
end Go.Proofs.YtjancagcmghfjaaGreat
