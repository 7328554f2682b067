/- Texts MoD MpI of this claim. -/
import Derived.Test.YtjancagcmghfjaaGreatX12
set_option maxHeartbeats 4000000
set_option maxRecDepth 40000
namespace Go.Proofs.YtjancagcmghfjaaGreat
open Go.RowKit Go.Shelf
namespace Mo
structure SlAt {α:Type} (w:World) (sz:Nat) (C:World->Addr->α->Prop) (d:α) (s:SV) (l:List α):Prop where
 len:l.length=s.n
 le:s.n<=s.c
 cap:s.c<=9223372036854775807
 cell:∀ k,k<s.n->∃ ad,s.A=some ad/\C w (ad.add (k*sz)) (l.getD k d)
theorem SlAt.map {α:Type} {w w':World} {sz:Nat} {C C':World->Addr->α->Prop} {d:α} {s:SV} {l:List α} (h:SlAt w sz C d s l) (hC:∀ a x,C w a x->C' w' a x):SlAt w' sz C' d s l:=
 ⟨h.len,h.le,h.cap,fun k hk=>by
  obtain ⟨ad,e,hc⟩:=h.cell k hk;exact ⟨ad,e,hC _ _ hc⟩⟩
def StC (w:World) (a:Addr) (s:St):Prop:=w.cell? a=some (.int .i64 s.q)/\w.cell? ⟨a.block,a.off+1,none⟩=some (.int .i64 s.p)
def LnC (w:World) (a:Addr) (l:Ln):Prop:=w.cell? a=some (.int .i64 l.f)/\w.cell? ⟨a.block,a.off+1,none⟩=some (.int .i64 l.t)/\w.cell? ⟨a.block,a.off+2,none⟩=some (.int .i64 l.x)/\w.cell? ⟨a.block,a.off+3,none⟩=some (.int .i64 l.c)
abbrev StepsAt (w:World) (s:SV) (l:List St):Prop:=SlAt w 2 StC ⟨0,0⟩ s l
abbrev LinesAt (w:World) (s:SV) (l:List Ln):Prop:=SlAt w 4 LnC ⟨0,0,0,0⟩ s l
def UnC (w:World) (a:Addr) (u:Un):Prop:=∃ st:SV,w.cell? a=some (.int .i64 u.bus)/\w.cell? ⟨a.block,a.off+1,none⟩=some (.int .i64 u.min)/\w.cell? ⟨a.block,a.off+2,none⟩=some (.slice st.A st.n st.c)/\
 w.cell? ⟨a.block,a.off+3,none⟩=some (.int .i64 u.up)/\w.cell? ⟨a.block,a.off+4,none⟩=some (.int .i64 u.down)/\w.cell? ⟨a.block,a.off+5,none⟩=some (.int .i64 u.start)/\w.cell? ⟨a.block,a.off+6,none⟩=some (.int .i64 u.idle)/\
 w.cell? ⟨a.block,a.off+7,none⟩=some (.int .i64 u.spin)/\w.cell? ⟨a.block,a.off+8,none⟩=some (.int .i64 u.on)/\StepsAt w st u.steps
def BdC (w:World) (a:Addr) (b:Bd):Prop:=∃ st:SV,w.cell? a=some (.int .i64 b.bus)/\w.cell? ⟨a.block,a.off+1,none⟩=some (.slice st.A st.n st.c)/\StepsAt w st b.steps
abbrev un0:Un:=⟨0,0,[],0,0,0,0,0,0⟩
abbrev UnitsAt (w:World) (s:SV) (l:List Un):Prop:=SlAt w 9 UnC un0 s l
abbrev BidsAt (w:World) (s:SV) (l:List Bd):Prop:=SlAt w 2 BdC ⟨0,[]⟩ s l
structure OnAt (w:World) (s:SV) (l:List Bool):Prop where
 len:l.length=s.n
 le:s.n<=s.c
 cap:s.c<=9223372036854775807
 cell:∀ k,k<s.n->∃ ad,s.A=some ad/\w.cell? (ad.add k)=some (.bool (l.getD k false))
structure HrV where
 n:Int
 L:SV
 O:SV
 U:SV
 N:SV
 B:SV
structure HrAt (w:World) (v:HrV) (h:Hr):Prop where
 n:v.n=h.buses
 L:LinesAt w v.L h.lines
 O:IntsAt w v.O h.out
 U:UnitsAt w v.U h.units
 N:OnAt w v.N h.on
 B:BidsAt w v.B h.bids
section
variable {w w':World} (hb:Below w w w')
 include hb
theorem cellB {a:Addr} {v:Value} (h:w.cell? a=some v):w'.cell? a=some v:=(hb.cell (zAb h)).trans h
theorem StC.below {a:Addr} {s:St} (h:StC w a s):StC w' a s:=⟨cellB hb h.1,cellB hb h.2⟩
theorem LnC.below {a:Addr} {s:Ln} (h:LnC w a s):LnC w' a s:=⟨cellB hb h.1,cellB hb h.2.1,cellB hb h.2.2.1,cellB hb h.2.2.2⟩
theorem StepsAt.below {s:SV} {l:List St} (h:StepsAt w s l):StepsAt w' s l:=SlAt.map h fun _ _ h=>StC.below hb h
theorem LinesAt.below {s:SV} {l:List Ln} (h:LinesAt w s l):LinesAt w' s l:=SlAt.map h fun _ _ h=>LnC.below hb h
theorem UnC.below {a:Addr} {u:Un} (h:UnC w a u):UnC w' a u:=by
 obtain ⟨st,h0,h1,h2,h3,h4,h5,h6,h7,h8,h9⟩:=h;exact ⟨st,cellB hb h0,cellB hb h1,cellB hb h2,cellB hb h3,cellB hb h4,cellB hb h5,cellB hb h6,cellB hb h7,cellB hb h8,StepsAt.below hb h9⟩
theorem BdC.below {a:Addr} {b:Bd} (h:BdC w a b):BdC w' a b:=by
 obtain ⟨st,h0,h1,h2⟩:=h;exact ⟨st,cellB hb h0,cellB hb h1,StepsAt.below hb h2⟩
theorem UnitsAt.below {s:SV} {l:List Un} (h:UnitsAt w s l):UnitsAt w' s l:=SlAt.map h fun _ _ h=>UnC.below hb h
theorem BidsAt.below {s:SV} {l:List Bd} (h:BidsAt w s l):BidsAt w' s l:=SlAt.map h fun _ _ h=>BdC.below hb h
theorem OnAt.below {s:SV} {l:List Bool} (h:OnAt w s l):OnAt w' s l:=⟨h.len,h.le,h.cap,fun k hk=>by
 obtain ⟨ad,e,hc⟩:=h.cell k hk;exact ⟨ad,e,cellB hb hc⟩⟩
theorem HrAt.below {v:HrV} {h:Hr} (hh:HrAt w v h):HrAt w' v h:=⟨hh.n,LinesAt.below hb hh.L,hh.O.below hb,UnitsAt.below hb hh.U,hh.N.below hb,BidsAt.below hb hh.B⟩
end
end Mo
namespace Mo
theorem zUP:(Tryz.prog.info? 3).map (fun i=>(i.zero,i.size,i.bytes))=some (some (.int .i64 0),1,8):=by kernel_rfl
def rowN (n:Nat) (f:Nat->Nat):Array Value:=((List.range n).map fun i=>Value.int .i64 (f i:Int)).toArray
theorem zUT (n:Nat) (f:Nat->Nat):(rowN n f).size=n:=by simp [rowN]
theorem zUS {n:Nat} (f:Nat->Nat) {i:Nat} (h:i<n):(rowN n f)[i]?=some (.int .i64 (f i:Int)):=by simp [rowN,h]
theorem zXq {n:Nat} {f g:Nat->Nat} (h:∀ i,i<n->f i=g i):rowN n f=rowN n g:=by
 unfold rowN;rw [List.map_congr_left fun i hi=>by rw [h i (List.mem_range.1 hi)]]
def upd (f:Nat->Nat) (i v:Nat):Nat->Nat:=fun b=>if b=i then v else f b
theorem zYp {n i v:Nat} {f:Nat->Nat} (h:i<n):(rowN n f).setIfInBounds i (.int .i64 (v:Int))=rowN n (upd f i v):=by
 apply Array.ext_getElem?;intro j;rw [Array.getElem?_setIfInBounds,zUT];by_cases e:i=j
 ·subst e;rw [if_pos rfl,if_pos h,zUS _ h];simp [upd]
 ·rw [if_neg e];by_cases hj:j<n
  ·rw [zUS _ hj,zUS _ hj];simp [upd,Ne.symm e]
  ·rw [Array.getElem?_eq_none (by rw [zUT]; omega),Array.getElem?_eq_none (by rw [zUT]; omega)]
def NatRow (W:World) (b n:Nat) (f:Nat->Nat):Prop:=W.heap[b]?=some (.cells (rowN n f) 3 (0,0))
section
variable {W W':World} {b n:Nat} {f g:Nat->Nat}
theorem NatRow.lt (h:NatRow W b n f):b<W.heap.size:=zAa h
theorem NatRow.cell (h:NatRow W b n f) {i:Nat} (hi:i<n):W.cell? ⟨b,i,none⟩=some (.int .i64 (f i:Int)):=by
 simp only [World.cell?,show W.heap[b]?=_ from h];exact zUS f hi
theorem NatRow.frozen (h:NatRow W b n f) (o:Nat):W.frozen? ⟨b,o,none⟩=false:=by simp [World.frozen?,show W.heap[b]?=_ from h]
theorem NatRow.below (h:NatRow W b n f) (hb:Below W W W'):NatRow W' b n f:=(hb.block _ h.lt).trans h
theorem NatRow.heap (h:NatRow W b n f) (hb:W'.heap[b]?=W.heap[b]?):NatRow W' b n f:=hb.trans h
theorem NatRow.congr (h:NatRow W b n f) (e:∀ i,i<n->f i=g i):NatRow W b n g:=by
 unfold NatRow; rw [<-zXq e]; exact h
theorem NatRow.set (h:NatRow W b n f) {i:Nat} (hi:i<n) (v:Nat):NatRow (W.setCell ⟨b,i,none⟩ (.int .i64 (v:Int))) b n (upd f i v):=by
 unfold NatRow;rw [zAe _ h,zYp hi]
theorem NatRow.made (w:World) (n:Nat):NatRow (w.alloc (.cells (rowN n fun _=>0) 3)) w n fun _=>0:=zAd _ _ (by simp)
end
theorem zVR (n:Nat) (hn:n<=1000000) (w:World) :
  (Instr.makeSlice 25 (.int .i64 (n:Int)) (.int .i64 (n:Int))).run Tryz.prog w = .ok (.slice (some w) n n) (w.alloc (.cells (rowN n fun _=>0) 3)):=by
 obtain ⟨i0,hi,hz0,hz1,hz2⟩:=info_parts zUP;have hr:=run_make (P:=Tryz.prog) w 25 3 i0 (.int .i64 0) Tryz.underlying25 hi hz0 .i64 .i64 n n (by omega) (by omega) (by rw [hz2]; omega) (by omega);rw [hz1] at hr
 have e:rowN n (fun _=>0)=madeCells #[Value.int .i64 0] n:=by
  apply Array.ext_getElem?;intro j;by_cases hj:j<n
  ·rw [zUS _ hj]; simp [madeCells,hj,show j % 1=0 by omega]
  ·rw [Array.getElem?_eq_none (by rw [zUT]; omega),Array.getElem?_eq_none (by simp [madeCells]; omega)]
 rw [e];simpa [Value.cells] using hr
def FnL (w:World) (par:Nat->Nat) (n b0:Nat) (t:Value) (W:World):Prop:=∃ b:Nat,b<n/\t = .int .i64 (b:Int)/\W=w/\upN par n b=upN par n b0
theorem zUW {w:World} {c p n b:Nat} {par:Nat->Nat} (h0:w.cell? c=some (.slice (some p) n n)) (h:NatRow w p n par) (hp:Dn par) (hb:b<n) (_:n<=1000) :
  Calls Tryz.prog 86 #[.int .i64 (b:Int),.pointer (some c)] w fun e w'=>e = .returned (.int .i64 (upN par n b:Nat))/\w'=w:=by
 have H:=hdq h;have hpl:=h.lt;have hcl:c<w.heap.size:=zAb h0;clear h;go_enter Tryz.func86,Tryz.ntmps86
 go_wp2;go_step3;go_wp2;go_step3;go_wp2;go_loopw [0] (fun t W=>FnL w par n b t W) (fun t _=>(intOf t).toNat)
 case atStart=>exact ⟨b,hb,rfl,rfl,rfl⟩
 case round=>
  obtain ⟨x,hx,rfl,rfl,hu⟩:=hrel;have q0:=H.out.cell hx;have hxi:(x:Int)<(n:Int):=by omega
  have HU:=hdq hu;have hpx:=hp x;clear hu;by_cases he:par x=x
  ·have HE:Hid (upN par n b=x):=hdq (HU.out.symm.trans (up_same he n));rw [he] at q0;clear he hpx;go_wp2;(try rw [Exit.noGoto_ret]);go_ret;exact ⟨by rw [HE.out]; first | done | rfl,rfl⟩
  ·have HE:Hid (FnL wr par n b (.int .i64 (par x:Int)) wr):=⟨par x,by omega,rfl,rfl,(zWc hp (by omega) he).symm.trans HU.out⟩;have hne:((par x:Int) == (x:Int))=false:=beq_false_of_ne (by omega);generalize par x=y at *;go_wp2;go_roundw;case rel=>exact HE.out
   case measure=>simp [intOf]; omega
end Mo
end Go.Proofs.YtjancagcmghfjaaGreat
