/- Small laws for drawn regions and for objects of the call's own: a struct stored whole, a variable made, what leaves an object as it is. Plain lemmas. -/
import Derived.Test.YtfdbcihcdjjdhaaGreatDoorYK2
import Derived.IntWalk
import Derived.BigRegion
import Derived.Deep.RegionHeld3
import Derived.Deep.DeepCutAuto
namespace Go.Proofs.YtfdbcihcdjjdhaaGreatDoor
open Go.RowKit
set_option linter.unusedVariables false
set_option maxHeartbeats 4000000
set_option maxRecDepth 100000
theorem gr_row {w:World} {g:Nat} (cs:Array Value):w.grownBy (w.setRow g cs) (some g):=⟨rfl,rfl,rfl,by simp[World.setRow],fun k hk hne=>setRow_other w g k cs (fun e=>hne (by rw[e]))⟩
theorem step_storeRow {P:Program} {ops:Array Oper} {o:Oper} {a:Act} {w:World} {K:Act→World→Prop} {Q:Exit→Act→World→Prop} {E':Prop} (hgd:o.guard=none) (ty:TypeId) (x y:Operand) (ho:o.op= .store ty x y)
    (g:Nat) (cells:Array Value) (hx:a.eval x= .pointer (some ⟨g,0,none⟩)) (hy:a.eval y= .agg cells)
    (t:TypeId) (old:Array Value) (hg:Blk w g t old) (hi:(P.info? ty).map (·.size)=some cells.size) (hold:old.size=cells.size) (h1:cells.all (·.oneCell')=true)
    (h:∀w',Blk w' g t cells→w.grownBy w' (some g)→K (a.put o.dst undef) w'):
    if Region.wanted o (yielded ops a.tmps)=true then Oper.wp P o a w K Q else E':=by
 have hw:Region.wanted o (yielded ops a.tmps)=true:=(by simp[Region.wanted,hgd]);rw[if_pos hw];exact wp_store_row ty x y ho g cells hx hy t old hg hi hold h1 (h _ (setRow_heap w g old cells t (0,0) hg) (gr_row cells))
theorem step_alloc {P:Program} {ops:Array Oper} {o:Oper} {a:Act} {w:World} {K:Act→World→Prop} {Q:Exit→Act→World→Prop} {E':Prop} (hgd:o.guard=none) (ty:TypeId) (cells:Array Value) (ho:o.op= .alloc ty) (hz:∀w,(zeroValue ty).run P w= .ok (.agg cells) w)
    (h:∀g w',Blk w' g ty cells→Below w.heap.size w w'→w.heap.size≤g→g<w'.heap.size→w.heap.size≤w'.heap.size→K (a.put o.dst (.pointer (some ⟨g,0,none⟩))) w'):
    if Region.wanted o (yielded ops a.tmps)=true then Oper.wp P o a w K Q else E':=by
 have hw:Region.wanted o (yielded ops a.tmps)=true:=(by simp[Region.wanted,hgd]);rw[if_pos hw]
 have hrun:(Instr.alloc ty true (.tuple #[])).run P w= .ok (.pointer (some ⟨w.heap.size,0,none⟩)) (w.alloc (.cells cells ty)):=by
  simp[Instr.alloc,hz,newVar,newRow,Value.cells]
 unfold Oper.wp execOp;simp only[ho,Sem.run_bind,Sem.run_pure,Result.andThen_ok,hrun];exact h _ _ (Blk.new_ w ty cells) ((Below.refl _ _).al _) (Nat.le_refl _) (by simp) (by simp)
section
variable {α β : Type} {E E2 : TypeId} {size s2 : Nat} {enc : α → List Value} {e2 : β → List Value} {B B2 : Nat} {w w' w2 : World} {v v2 : Value} {l : List α} {l2 : List β}
theorem OwnL.early (h:OwnL E size enc B w v l) (h2:OwnL E2 s2 e2 B2 w2 v2 l2) (hb:w.heap.size≤B2) {g:Nat} (hg:v.ownBlock=some g):v2.ownBlock≠some g:=by
 intro h3;have k1:=(World.ownsRow.lt h g hg).2;have k2:=(World.ownsRow.lt h2 g h3).1;omega
theorem OwnL.twoE (a:OwnL E size enc B w v l) (b:OwnL E2 s2 e2 B2 w v2 l2) (hne:E≠E2) {g:Nat} (h1:v.ownBlock=some g):v2.ownBlock≠some g:=by
 rcases b.2 with⟨rfl,_⟩|⟨g2,cap,cur,rfl,_,hh,_⟩
 · simp[Value.ownBlock]
 · intro he;have:g2=g:=(by simpa[Value.ownBlock]using he);subst this;exact(a.apart (g:=g2) (t:=E2) (cs:=cur) hh hne) h1
end
structure Grown (S:Nat→Prop) (w w':World):Prop where
  os:w'.os=w.os
  tape:w'.tape=w.tape
  output:w'.output=w.output
  size:w.heap.size≤w'.heap.size
  block:∀k,k<w.heap.size→¬S k→w'.heap[k]? =w.heap[k]?
section
variable {S T : Nat → Prop} {w w' w'' w0 : World}
theorem Grown.of {v:Value} (h:w.grownBy w' v.ownBlock):Grown (fun k=>v.ownBlock=some k) w w':=⟨h.os,h.tape,h.output,h.size,fun k hk hs=>h.block k hk fun e=>hs e.symm⟩
theorem Grown.ofBelow (h:Below w.heap.size w w'):Grown S w w':=⟨h.os,h.tape,h.output,h.size,fun k hk _=>h.block k hk⟩
theorem Grown.tr (h:Grown S w w') (h':Grown S w' w''):Grown S w w'':=⟨h'.os.trans h.os,h'.tape.trans h.tape,h'.output.trans h.output,Nat.le_trans h.size h'.size,fun k hk hs=>(h'.block k (Nat.lt_of_lt_of_le hk h.size) hs).trans (h.block k hk hs)⟩
theorem Grown.wide (h:Grown S w w') (hs:∀k,S k→T k):Grown T w w':=⟨h.os,h.tape,h.output,h.size,fun k hk ht=>h.block k hk fun e=>ht (hs k e)⟩
theorem OwnL.grownS {α:Type} {E:TypeId} {size:Nat} {enc:α→List Value} {B:Nat} {v:Value} {l:List α} (h:OwnL E size enc B w v l) (hg:Grown S w w') (hne:∀g,v.ownBlock=some g→¬S g):OwnL E size enc B w' v l:=by
 rcases h.2 with⟨e,h0⟩|⟨g,cap,cur,e,hb,hh,hc⟩
 · exact⟨h.1,.inl ⟨e,h0⟩⟩
 · refine ⟨h.1, .inr ⟨g, cap, cur, e, hb, (hg.block g ?_ (hne g (by rw [e]; rfl))).trans hh, hc⟩⟩;exact(World.ownsRow.lt h g (by rw[e];rfl)).2
theorem Blk.grownS {g:Nat} {t:TypeId} {cs:Array Value} (h:Blk w g t cs) (hg:Grown S w w') (hne:¬S g):Blk w' g t cs:=(hg.block g h.lt hne).trans h
theorem Below.grownS {B:Nat} (h:Below B w0 w) (hg:Grown S w w') (hB:B≤w.heap.size) (hS:∀k,S k→B≤k):Below B w0 w':=
 ⟨hg.os.trans h.os,hg.tape.trans h.tape,hg.output.trans h.output,Nat.le_trans h.size hg.size,fun k hk=>(hg.block k (by omega) (fun e=>by have:=hS k e;omega)).trans (h.block k hk)⟩
end
theorem apart_of {S T : Nat → Prop} {n m : Nat} (a : ∀ k, S k → k < n) (b : ∀ k, T k → m ≤ k) (h : n ≤ m) : ∀ k, S k → ¬ T k := fun k hk ht => by
 have h1:=a k hk;have h2:=b k ht;omega
theorem OwnL.rowL {α:Type} {E:TypeId} {size:Nat} {enc:α→List Value} {B g:Nat} {w w':World} {v:Value} {l:List α} {t:TypeId} {cs:Array Value} (h:OwnL E size enc B w v l) (hb:Blk w g t cs) (hne:E≠t) (hg:w.grownBy w' (some g)):OwnL E size enc B w' v l:=
 h.grownS (S:=fun k=>k=g) ⟨hg.os,hg.tape,hg.output,hg.size,fun k hk hs=>hg.block k hk (fun e=>hs (by injection e))⟩ (fun k hk e=>h.apart hb hne (e▸hk))
theorem OwnL.keptF {α β:Type} {E1 E2:TypeId} {s1 s2:Nat} {e1:α→List Value} {e2:β→List Value} {B1 B2:Nat} {w w':World} {v1 v2:Value} {l1:List α} {l2:List β} (a:OwnL E1 s1 e1 B1 w v1 l1) (b:OwnL E2 s2 e2 B2 w v2 l2) (hne:E1≠E2) (hg:w.grownBy w' v2.ownBlock):OwnL E1 s1 e1 B1 w' v1 l1:=by
 refine World.ownsRow.kept a hg ?_;rcases h1:v1.ownBlock with _|g1
 · exact .inl rfl
 · exact .inr fun h=>a.twoE b hne h1 h.symm
end Go.Proofs.YtfdbcihcdjjdhaaGreatDoor
