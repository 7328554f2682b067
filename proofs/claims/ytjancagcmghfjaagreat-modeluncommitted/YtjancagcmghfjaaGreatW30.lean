/- Texts MoK MqE of this claim. -/
import Derived.Test.YtjancagcmghfjaaGreatW29
set_option maxHeartbeats 4000000
set_option maxRecDepth 40000
namespace Go.Proofs.YtjancagcmghfjaaGreat
namespace Mo
def exH:Hr:=⟨2,[⟨0,1,1,5⟩],[],[⟨0,2,[⟨10,3⟩],1,1,0,0,0,1⟩],[true],[⟨1,[⟨8,9⟩]⟩]⟩
theorem zYZ:hrErr exH=0:=by decide
theorem zYX:inv exH=some [[1,0],[1,1]]:=by decide +kernel
theorem zYY:obj (vars exH)=[-3,9]:=by decide +kernel
theorem zXF:rows exH [[1,0],[1,1]]=[([-1,1],0),([1,-1],0),([0,1],5),([0,-1],5),([-1,0],-2),([1,0],10),([0,1],8)]:=by decide +kernel
end Mo
open Go.RowKit Go.Shelf
namespace Mo
theorem zU9 {w:World}:Calls Tryz.prog 19 #[] w fun e w'=>(∃ V,e = .returned V.val/\HrAt w' V exH)/\Below w w w':=by
 go_enter Tryz.func19,Tryz.ntmps19
 go_wp2;obtain ⟨W,hW⟩:∃ W,((((((w.alloc (.cells #[.int .i64 2,.slice (some ⟨w+1,0,none⟩) 1 1,.slice none 0 0,.slice (some ⟨w+1+1+1,0,none⟩) 1 1,.slice (some ⟨w+1+1+1+1,0,none⟩) 1 1,.slice (some ⟨w+1+1+1+1+1+1,0,none⟩) 1 1] 30)).alloc (.cells #[.int .i64 0,.int .i64 1,.int .i64 1,.int .i64 5] 47)).alloc (.cells #[.int .i64 10,.int .i64 3] 83)).alloc (.cells #[.int .i64 0,.int .i64 2,.slice (some ⟨w+1+1,0,none⟩) 1 1,.int .i64 1,.int .i64 1,.int .i64 0,.int .i64 0,.int .i64 0,.int .i64 1] 45)).alloc (.cells #[.bool true] 4)).alloc (.cells #[.int .i64 8,.int .i64 9] 83)).alloc (.cells #[.int .i64 1,.slice (some ⟨w+1+1+1+1+1,0,none⟩) 1 1] 56)=W:=⟨_,rfl⟩;rw [hW];have hb:Below w w W:=by rw [<-hW]; exact ((((((((brf _ w).alloc (nlr _) _).alloc (by simp <;> omega) _).alloc (by simp <;> omega) _).alloc (by simp <;> omega) _).alloc (by simp <;> omega) _).alloc (by simp <;> omega) _).alloc (by simp <;> omega) _)
 have e0:W.heap[w.heap.size]?=some (.cells #[.int .i64 2,.slice (some ⟨w+1,0,none⟩) 1 1,.slice none 0 0,.slice (some ⟨w+1+1+1,0,none⟩) 1 1,.slice (some ⟨w+1+1+1+1,0,none⟩) 1 1,.slice (some ⟨w+1+1+1+1+1+1,0,none⟩) 1 1] 30 (0,0)):=by rw [<-hW]; exact alk (alk (alk (alk (alk (alk (zAd _ _ (by simp)))))))
 have e1:W.heap[w.heap.size+1]?=some (.cells #[.int .i64 0,.int .i64 1,.int .i64 1,.int .i64 5] 47 (0,0)):=by rw [<-hW]; exact alk (alk (alk (alk (alk (zAd _ _ (by simp))))))
 have e2:W.heap[w.heap.size+1+1]?=some (.cells #[.int .i64 10,.int .i64 3] 83 (0,0)):=by rw [<-hW]; exact alk (alk (alk (alk (zAd _ _ (by simp)))))
 have e3:W.heap[w.heap.size+1+1+1]?=some (.cells #[.int .i64 0,.int .i64 2,.slice (some ⟨w+1+1,0,none⟩) 1 1,.int .i64 1,.int .i64 1,.int .i64 0,.int .i64 0,.int .i64 0,.int .i64 1] 45 (0,0)):=by rw [<-hW]; exact alk (alk (alk (zAd _ _ (by simp))))
 have e4:W.heap[w.heap.size+1+1+1+1]?=some (.cells #[.bool true] 4 (0,0)):=by rw [<-hW]; exact alk (alk (zAd _ _ (by simp)))
 have e5:W.heap[w.heap.size+1+1+1+1+1]?=some (.cells #[.int .i64 8,.int .i64 9] 83 (0,0)):=by rw [<-hW]; exact alk (zAd _ _ (by simp))
 have e6:W.heap[w.heap.size+1+1+1+1+1+1]?=some (.cells #[.int .i64 1,.slice (some ⟨w+1+1+1+1+1,0,none⟩) 1 1] 56 (0,0)):=by rw [<-hW]; exact zAd _ _ (by simp)
 clear hW;have v0:W.cell? w=some (.int .i64 2):=by simp [World.cell?,e0]
 have v1:W.cell? ⟨w.heap.size,1,none⟩=some (.slice (some ⟨w+1,0,none⟩) 1 1):=by simp [World.cell?,e0]
 have v2:W.cell? ⟨w.heap.size,2,none⟩=some (.slice none 0 0):=by simp [World.cell?,e0]
 have v3:W.cell? ⟨w.heap.size,3,none⟩=some (.slice (some ⟨w+1+1+1,0,none⟩) 1 1):=by simp [World.cell?,e0]
 have v4:W.cell? ⟨w.heap.size,4,none⟩=some (.slice (some ⟨w+1+1+1+1,0,none⟩) 1 1):=by simp [World.cell?,e0]
 have v5:W.cell? ⟨w.heap.size,5,none⟩=some (.slice (some ⟨w+1+1+1+1+1+1,0,none⟩) 1 1):=by simp [World.cell?,e0]
 refine bodyPost_ret (v:=.agg #[.int .i64 2,.slice (some ⟨w+1,0,none⟩) 1 1,.slice none 0 0,.slice (some ⟨w+1+1+1,0,none⟩) 1 1,.slice (some ⟨w+1+1+1+1,0,none⟩) 1 1,.slice (some ⟨w+1+1+1+1+1+1,0,none⟩) 1 1]) (by simp [results,Tryz.results19,go_sem,v0,v1,v2,v3,v4,v5]) rfl ⟨⟨⟨2,⟨some ⟨w+1,0,none⟩,1,1⟩,⟨none,0,0⟩,⟨some ⟨w+1+1+1,0,none⟩,1,1⟩,⟨some ⟨w+1+1+1+1,0,none⟩,1,1⟩,⟨some ⟨w+1+1+1+1+1+1,0,none⟩,1,1⟩⟩,rfl,?_⟩,hb⟩;have one:∀ k,k<1->k=0:=fun k hk=>by omega
 have st2:StepsAt W ⟨some ⟨w+1+1,0,none⟩,1,1⟩ [⟨10,3⟩]:=⟨rfl,nlr _,by show 1<=_; decide,fun k hk=>by obtain rfl:=one k hk; exact ⟨_,rfl,by simp [World.cell?,e2,zA4],by simp [World.cell?,e2,zA4]⟩⟩;have st5:StepsAt W ⟨some ⟨w+1+1+1+1+1,0,none⟩,1,1⟩ [⟨8,9⟩]:=⟨rfl,nlr _,by show 1<=_; decide,fun k hk=>by obtain rfl:=one k hk; exact ⟨_,rfl,by simp [World.cell?,e5,zA4],by simp [World.cell?,e5,zA4]⟩⟩;refine ⟨rfl,⟨rfl,nlr _,by show 1<=_; decide,fun k hk=>?_⟩,⟨rfl,nlr _,nzl _,fun x hx=>(by cases hx),fun k hk=>absurd hk (Nat.not_lt_zero k)⟩,⟨rfl,nlr _,by show 1<=_; decide,fun k hk=>?_⟩,⟨rfl,nlr _,by show 1<=_; decide,fun k hk=>?_⟩,⟨rfl,nlr _,by show 1<=_; decide,fun k hk=>?_⟩⟩
 ·obtain rfl:=one k hk; exact ⟨_,rfl,by simp [World.cell?,e1,zA4,exH],by simp [World.cell?,e1,zA4,exH],by simp [World.cell?,e1,zA4,exH],by simp [World.cell?,e1,zA4,exH]⟩
 ·obtain rfl:=one k hk; exact ⟨_,rfl,⟨some ⟨w+1+1,0,none⟩,1,1⟩,by simp [World.cell?,e3,zA4,exH],by simp [World.cell?,e3,zA4,exH],by simp [World.cell?,e3,zA4],by simp [World.cell?,e3,zA4,exH],by simp [World.cell?,e3,zA4,exH],by simp [World.cell?,e3,zA4,exH],by simp [World.cell?,e3,zA4,exH],by simp [World.cell?,e3,zA4,exH],by simp [World.cell?,e3,zA4,exH],st2⟩
 ·obtain rfl:=one k hk; exact ⟨_,rfl,by simp [World.cell?,e4,zA4,exH]⟩
 ·obtain rfl:=one k hk; exact ⟨_,rfl,⟨some ⟨w+1+1+1+1+1,0,none⟩,1,1⟩,by simp [World.cell?,e6,zA4,exH],by simp [World.cell?,e6,zA4],st5⟩
end Mo
end Go.Proofs.YtjancagcmghfjaaGreat
