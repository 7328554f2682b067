/- Texts Comp2 Carry Cand Opt of this claim. -/
import Derived.Test.YtbpngececjihlaaGreatY13
import Derived.Test.YtbpngececjihlaaGreatY14
set_option maxHeartbeats 4000000
namespace Go.Proofs.YtbpngececjihlaaGreat
open Go.RowKit Go.Shelf
variable {v:Value} {l:List Nat} {n c L:Nat} {A:Option Addr} {ng:Bool} {q:Rat}
section
variable {w W W':World} {v:Value} {cs:List Value} {Fx:List (Nat × Array Value × TypeId)}
end
def zeroI (n:Nat):Array Value:=madeCells #[Value.int .i64 0] n
theorem zFb (n:Nat):(zeroI n).size=n:=by simp [zeroI,madeCells]
theorem zGg (n k:Nat) (hk:k<n):(zeroI n)[k]?=some (.int .i64 0):=by
 have hl:k<(zeroI n).size:=by rw [zFb]; omega
 rw [Array.getElem?_eq_getElem hl];simp only [zeroI,madeCells,Array.getElem_map,Array.getElem_range];show some (#[Value.int .i64 0][k % 1]!)=_;rw [show k % 1=0 by omega]; rfl
theorem zHU (n:Nat) (hn:n<=1000000) (w:World) :
  (Instr.makeSlice 48 (.int .i64 (n:Int)) (.int .i64 (n:Int))).run Tryz.prog w = .ok (.slice (some w) n n) (w.alloc (.cells (zeroI n) 3)):=by
 obtain ⟨i0,hi,hz0,hz1,hz2⟩:=info_parts zG1;have hr:=run_make (P:=Tryz.prog) w 48 3 i0 (.int .i64 0) Tryz.underlying48 hi hz0 .i64 .i64 n n (by omega) (by omega) (by rw [hz2]; omega) (by omega);rw [hz1] at hr;simpa [zeroI,Value.cells] using hr
structure Carry (X:Nat->Prop) (w w':World):Prop where
 size:w.heap.size<=w'.heap.size
 blk:∀ k cs t f,X k->w.heap[k]?=some (.cells cs t f)->w'.heap[k]?=some (.cells cs t f)
section
variable {X Y:Nat->Prop} {w w' w'':World}
theorem Carry.refl (X:Nat->Prop) (w:World):Carry X w w:=⟨nlr _,fun _ _ _ _ _ h=>h⟩
theorem Carry.trans (h:Carry X w w') (k:Carry X w' w''):Carry X w w'':=⟨nlt h.size k.size,fun b cs t f hx hb=>k.blk b cs t f hx (h.blk b cs t f hx hb)⟩
theorem Carry.mono (h:Carry X w w') (hY:∀ b,Y b->X b):Carry Y w w':=⟨h.size,fun b cs t f hy hb=>h.blk b cs t f (hY b hy) hb⟩
theorem Carry.of_below (h:Below w w w'):Carry X w w':=⟨h.size,fun b _cs _t _f _ hb=>(h.block b (zAa hb)).trans hb⟩
theorem Carry.cell (h:Carry X w w') {p:Addr} (hx:X p.block) (hc:w.cell? p=some v):w'.cell? p=some v:=by
 unfold World.cell? at hc
 cases hb:w.heap[p.block]? with
 | none=>rw [hb] at hc; cases hc
 | some o=>
  cases o with
  | cells cs t f=>rw [hb] at hc; unfold World.cell?; rw [h.blk _ cs t f hx hb]; exact hc
  | _=>rw [hb] at hc; cases hc
theorem Carry.putObj {l:Nat} {o:Obj} (o':Obj) (hl:w.heap[l]?=some o) (ho:o.isCells=false):Carry X w (w.putObj l o'):=
 ⟨by simp,fun k cs t f _ hk=>(World.putObj_heap_other (by rintro rfl; rw [hk] at hl; cases hl; cases ho)).trans hk⟩
theorem Carry.grown {row:Option Nat} (hg:w.grownBy w' row) (hr:∀ r,row=some r->∃ o:Obj,w.heap[r]?=some o/\o.isCells=false):Carry X w w':=
 ⟨hg.size,fun _k _cs _t _f _ hk=>zAi hg hr hk⟩
theorem WordsAt.carry (h:WordsAt w X A n c l) (hk:Carry X w w'):WordsAt w' X A n c l:=
 ⟨h.len,h.le,h.cap,h.ok,fun k hkn=>by
  obtain ⟨ad,e,hx,hc⟩:=h.cell k hkn;exact ⟨ad,e,hx,hk.cell (by rw [zAj]; exact hx) hc⟩⟩
theorem ZAt.carry {z:Int} (h:ZAt w X ng A n c z) (hk:Carry X w w'):ZAt w' X ng A n c z:=⟨h.sign,h.words.carry hk⟩
theorem ZIs.carry {z:ZV} {x:Int} (h:ZIs w X L z x) (hk:Carry X w w'):ZIs w' X L z x:=by obtain ⟨l,h1,h2⟩:=h; exact ⟨l,h1.carry hk,h2⟩
theorem QIs.carry {v:QV} (h:QIs w X L v q) (hk:Carry X w w'):QIs w' X L v q:=by obtain ⟨x,y,h1,h2,h3⟩:=h; exact ⟨x,y,h1.carry hk,h2.carry hk,h3⟩
theorem QCan.carry {v:QV} (h:QCan w X v q) (hk:Carry X w w'):QCan w' X v q:=⟨h.1.carry hk,h.2.carry hk⟩
theorem QCell.carry {p:Addr} {v:QV} (h:QCell w p v) (hk:Carry X w w') (hx:X p.block):QCell w' p v:=
 ⟨hk.cell hx h.1,hk.cell (p:=⟨p.block,p.off+1,none⟩) hx h.2.1,hk.cell (p:=⟨p.block,p.off+2,none⟩) hx h.2.2.1,hk.cell (p:=⟨p.block,p.off+3,none⟩) hx h.2.2.2⟩
end
attribute [local go_sem] Oper.semAt_some
end Go.Proofs.YtbpngececjihlaaGreat
namespace Go.Proofs.YtbpngececjihlaaGreat
open Go.RowKit Go.Shelf
def zeroS (n:Nat):Array Value:=madeCells #[Value.slice none 0 0] n
theorem zIb (n:Nat):(zeroS n).size=n:=by simp [zeroS,madeCells]
theorem zHV (n:Nat) (hn:n<=1000000) (w:World) :
  (Instr.makeSlice 22 (.int .i64 (n:Int)) (.int .i64 (n:Int))).run Tryz.prog w = .ok (.slice (some w) n n) (w.alloc (.cells (zeroS n) 23)):=by
 obtain ⟨i0,hi,hz0,hz1,hz2⟩:=info_parts zFA;have hr:=run_make (P:=Tryz.prog) w 22 23 i0 (.slice none 0 0) Tryz.underlying22 hi hz0 .i64 .i64 n n (by omega) (by omega) (by rw [hz2]; omega) (by omega);rw [hz1] at hr;simpa [zeroS,Value.cells] using hr
end Go.Proofs.YtbpngececjihlaaGreat
