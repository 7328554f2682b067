/- Texts Pivot Last Comp1 Infeas Unb of this claim. -/
import Derived.Test.YtlepljpdkbjbhaaGreatQA0
import Derived.Test.YtlepljpdkbjbhaaGreatQ12
import Derived.Deep.Cut
set_option maxHeartbeats 4000000
namespace Go.Proofs.YtlepljpdkbjbhaaGreat
open Go.RowKit Go.Shelf
section
variable {W:World} {G:Nat->Prop} {x:DV} {V M K:Nat} {D D':Lin.Dict} {pv rw cl:Int}
theorem DA.congr (h:DA W G x V M K D pv rw cl) (hb:∀ i,i<M->D.basic i=D'.basic i) (hf:∀ j,j<V->D.free j=D'.free j) (ha:∀ i j,i<M->j<=V->D.a i j=D'.a i j) (hc:∀ i j,i<K->j<=V->D.c i j=D'.c i j):DA W G x V M K D' pv rw cl:=
 ⟨h.blk,h.bas.congr fun i hi=>by rw [hb i hi],h.fre.congr fun j hj=>by rw [hf j hj],h.row,h.cst,fun i hi=>by rw [<-zBs fun j hj=>ha i j hi hj]; exact h.rows i hi,fun i hi=>by rw [<-zBs fun j hj=>hc i j hi hj]; exact h.csts i hi,h.rinj,h.cinj,h.apart,h.bf,h.gin,h.gd,h.gb,h.gf,h.gr,h.gc⟩
theorem RowAt.setOther {b g o:Nat} {l:List Rat} {v:Value} {cs:Array Value} {T:TypeId} {f:Nat × Nat} (h:RowAt W G b l) (hg:G g) (hb:W.heap[g]?=some (.cells cs T f)) (hT:T ≠ 30):RowAt (W.setCell ⟨g,o,none⟩ v) G b l:=by
 have hne:b ≠ g:=by
  rintro rfl;obtain ⟨cs',e,_⟩:=h.blk;rw [hb] at e;simp only [Option.some.injEq,Obj.cells.injEq] at e;exact hT e.2.1
 exact h.keep (bhs _ _ _ _ hne) fun p hp _=>cob (bhs _ _ _ _ (fun e=>hp (by rw [e]; exact hg)))
theorem Arr.block {s:SV} {n:Nat} {T:TypeId} {f:Nat->Value} (h:Arr W s n T f) {g:Nat} (e:s.A=some ⟨g,0,none⟩):∃ cs,W.heap[g]?=some (.cells cs T (0,0)):=by
 rcases h.blk with ⟨h0,_⟩ | ⟨g',cs,e',hb,_⟩
 ·rw [h0] at e; cases e
 ·rw [e] at e'; cases e'; exact ⟨cs,hb⟩
theorem DA.setF (h:DA W G x V M K D pv rw cl) {g:Nat} (e:x.fre.A=some ⟨g,0,none⟩) (r v:Nat):DA (W.setCell ⟨g,r,none⟩ (.int .i64 v)) G x V M K {D with free:=Lin.turn D.free r v} pv rw cl:=by
 obtain ⟨cs,hb⟩:=h.fre.block e;have hd:x.d ≠ g:=by rintro e'; have:=h.blk; rw [e',hb] at this; cases this
 have k:∀ g',g' ≠ g->(W.setCell ⟨g,r,none⟩ (.int .i64 v)).heap[g']?=W.heap[g']?:=fun g' hg=>bhs _ _ _ _ hg
 exact ⟨(k _ hd).trans h.blk,h.bas.keep fun g' e' _=>k g' (fun e2=>h.bf g' e' (by rw [e2]; exact e)),(h.fre.set e (.int .i64 v)).congr fun i _=>by by_cases hir:i=r <;> simp [hir,Lin.turn],h.row.keep fun g' e' _=>k g' (zDD h.row hb (by decide) e'),h.cst.keep fun g' e' _=>k g' (zDD h.cst hb (by decide) e'),
  fun i hi=>(h.rows i hi).setOther (h.gf g e) hb (by decide),fun i hi=>(h.csts i hi).setOther (h.gf g e) hb (by decide),h.rinj,h.cinj,h.apart,h.bf,fun b hb=>by simpa [World.setCell] using h.gin b hb,h.gd,h.gb,h.gf,h.gr,h.gc⟩
end
def scaleTo (s:Nat) (r:Nat->Rat) (k:Nat):Nat->Rat:=fun j=>if j<k then Lin.scaled s r j else if j=s then 1 else r j
theorem zF8 (s:Nat) (r:Nat->Rat):scaleTo s r 0=Lin.turn r s 1:=by funext j; simp [scaleTo,Lin.turn]
theorem zDO {s:Nat} {r:Nat->Rat} {k:Nat}:Lin.turn (scaleTo s r k) k ((r s)⁻¹*(if k=s then 1 else r k))=scaleTo s r (k+1):=by
 funext j;unfold Lin.turn scaleTo Lin.scaled;grind
theorem zF7 {s:Nat} {r:Nat->Rat} {k:Nat} (h0:(if k=s then 1 else r k)=0):scaleTo s r k=scaleTo s r (k+1):=by
 rw [<-zDO,h0];funext j;unfold Lin.turn scaleTo;grind
theorem zHX {s:Nat} {r:Nat->Rat} {k:Nat}:scaleTo s r k k=if k=s then 1 else r k:=by unfold scaleTo; rw [if_neg (by omega)]
def pivTo (D:Lin.Dict) (r s i l:Nat):Lin.Dict where
 basic:=D.basic
 free:=D.free
 a:=fun j=>if j=r then Lin.scaled s (D.a r) else if j<i then Lin.elim s (Lin.scaled s (D.a r)) (D.a j) else D.a j
 c:=fun j=>if j<l then Lin.elim s (Lin.scaled s (D.a r)) (D.c j) else D.c j
theorem zEW {D:Lin.Dict} {r s i l j:Nat} (h:j ≠ i):(pivTo D r s (i+1) l).a j=(pivTo D r s i l).a j:=by
 have:j<i+1 ↔ j<i:=by omega
 simp only [pivTo,this]
theorem zEV {D:Lin.Dict} {r s i l:Nat} (h:i ≠ r):(pivTo D r s (i+1) l).a i=Lin.elim s (Lin.scaled s (D.a r)) (D.a i)/\(pivTo D r s i l).a i=D.a i:=by
 simp [pivTo,h]
theorem zC8 {D:Lin.Dict} {r s i l:Nat}:(pivTo D r s i l).a r=Lin.scaled s (D.a r):=by simp [pivTo]
theorem zEX {D:Lin.Dict} {r s i l:Nat}:(pivTo D r s i (l+1)).c l=Lin.elim s (Lin.scaled s (D.a r)) (D.c l)/\(pivTo D r s i l).c l=D.c l:=by
 simp [pivTo]
theorem map_set {V:Nat} (f:Nat->Rat) {k:Nat} (q:Rat):((List.range V).map f).set k q=(List.range V).map (Lin.turn f k q):=by
 apply List.ext_getElem
 ·simp
 ·intro i h1 h2;simp only [List.getElem_set,List.getElem_map,List.getElem_range,Lin.turn];by_cases e:k=i
  ·subst e; simp
  ·rw [if_neg e,if_neg (Ne.symm e)]
def rowOf (D:Lin.Dict) (M k:Nat):Nat:=if Lin.find D.basic k M<M then Lin.find D.basic k M+1 else 0
structure RV where
 kind:Nat
 X:SV
 Y:SV
 R:SV
 F:SV
 pv:Int
abbrev RV.val (r:RV):Value:=.agg #[.int .u8 (r.kind:Int),.slice r.X.A r.X.n r.X.c,.slice r.Y.A r.Y.n r.Y.c,.slice r.R.A r.R.n r.R.c,.slice r.F.A r.F.n r.F.c,.int .i64 r.pv]
end Go.Proofs.YtlepljpdkbjbhaaGreat
