import Derived.Test.YtjijonhkofhikaaGreatDoorFDoActS
set_option linter.unusedVariables false
set_option linter.unusedSimpArgs false
set_option maxHeartbeats 4000000
set_option maxRecDepth 100000
namespace Go.Proofs.YtjijonhkofhikaaGreatDoor
open Go.ChangeShapes Go.WideShapes Go.ChangeAt Go.RowKit
theorem LF {x z:Fl} {b:Bool} (hs:bQ x) (h:iU x=(z,b)):bQ z:=by
 rcases b with _|_
 . unfold iU at h;split at h
   . cases h
   . injection h with h _;rw[<-h];exact hs
 . exact(Bj hs h).2.2.2
theorem xP {y:Wk} (a:Ac) (hs:bQ y.1):bQ (zT y a).1:=by
 unfold zT;repeat' split
 . exact Lb _ hs
 . exact Od _ hs
 . exact hs
 . exact LF (b:=(iU y.1).2) hs rfl
 . exact hs
 . exact hs
noncomputable def goR (y:Wk) (ns:List Int):List Ac->Wk×List Int
  |[]=>(y,ns)
  |a::l=>goR (zT y a) (ns++[zD y a]) l
noncomputable def rQ (y:Wk) (l:List Ac):Wk×List Int:=if dF y=true/\l.length<=40 then goR y [] l else(y,[])
theorem KL {y:Wk} {ns:List Int} {l:List Ac} {k:Nat} (h:k<l.length):goR y ns (l.drop k)=goR (zT y l[k]) (ns++[zD y l[k]]) (l.drop (k+1)):=by rw[List.drop_eq_getElem_cons h];rfl
theorem M7 {y:Wk} {ns:List Int} {l:List Ac}:goR y ns (l.drop l.length)=(y,ns):=by rw[List.drop_of_length_le (Nat.le_refl _)];rfl
def QI (R:Wk×List Int) (w:World) (e:Ending) (w':World):Prop:=∃u1 u2 u3 u4 A c,e= .returned (.tuple #[.agg #[u1,u2,u3,u4,.int .i64 R.1.2.1,.int .i64 R.1.2.2.1,.int .i64 R.1.2.2.2],.slice A R.2.length c])/\
  aB w.heap.size w' u1 u2 u3 u4 R.1.1/\aD 3 1 aW w.heap.size w' (.slice A R.2.length c) R.2/\(∀g,u1.ownBlock=some g->(Value.slice A R.2.length c).ownBlock≠some g)/\Below w.heap.size w w'
section
variable {W w w' : World} {gP gR : Nat} {cP cR : Array Value} {u1 u2 u3 u4 v : Value} {x : Fl} {B B' : Nat} {ns : List Int}
structure DB (W w:World) (gP gR:Nat) (cP cR:Array Value):Prop where
  B:Below W.heap.size W w
  p:Blk w gP 32 cP
  r:Blk w gR 32 cR
theorem DB.bl (h:DB W w gP gR cP cR) (hb:Below w.heap.size w w'):DB W w' gP gR cP cR:=⟨h.B.tr hb,h.p.bl hb,h.r.bl hb⟩
theorem DB.al (h:DB W w gP gR cP cR) (o:Obj):DB W (w.alloc o) gP gR cP cR:=⟨h.B.al o,h.p.alloc o,h.r.alloc o⟩
theorem DB.gr {g:Nat} (h:DB W w gP gR cP cR) (hg:w.grownBy w' (some g)) (hW:W.heap.size<=g) (h1:gP≠g) (h3:gR≠g):DB W w' gP gR cP cR:=
 ⟨h.B.grown hg h.B.size (fun k hk=>by injection hk with hk;subst hk;exact hW),h.p.grown hg (by simp;exact h1),h.r.grown hg (by simp;exact h3)⟩
theorem DB.alg {o:Obj} (h:DB W w gP gR cP cR) (hg:(w.alloc o).grownBy w' (some w.heap.size)):DB W w' gP gR cP cR:=
 (h.al o).gr hg h.B.size (Nat.ne_of_lt h.p.lt) (Nat.ne_of_lt h.r.lt)
theorem DB.app {o:Obj} (h:DB W w gP gR cP cR) (oS:aD 3 1 aW B' w v ns) (hg:(w.alloc o).grownBy w' v.ownBlock) (hB:Below W.heap.size W w'):DB W w' gP gR cP cR:=
 ⟨hB,(h.p.alloc o).grown hg (fun e=>oS.apart h.p (by decide) e.symm),(h.r.alloc o).grown hg (fun e=>oS.apart h.r (by decide) e.symm)⟩
theorem aB.Td {o:Obj} (h:aB B w u1 u2 u3 u4 x) (oS:aD 3 1 aW B' w v ns) (ap:∀g,u1.ownBlock=some g->v.ownBlock≠some g) (hg:(w.alloc o).grownBy w' v.ownBlock):aB B w' u1 u2 u3 u4 x:=
 ⟨(h.a.alloc o).fH (Grown.of hg) (fun g q e=>ap g q e),(h.b.alloc o).fH (Grown.of hg) (fun g q=>h.b.vO oS (by decide) q),(h.c.alloc o).fH (Grown.of hg) (fun g q=>h.c.vO oS (by decide) q),(h.d.alloc o).fH (Grown.of hg) (fun g q=>h.d.vO oS (by decide) q),h.ap⟩
theorem aD.SH {t:TypeId} {cs:Array Value} (h:aD 3 1 aW B w v ns) (h1:3≠t) (hg:(w.alloc (.cells cs t)).grownBy w' (some w.heap.size)):aD 3 1 aW B w' v ns:=aD.FC (h.alloc _) (Blk.aX w t cs) h1 hg
theorem aB.newer (h : aB B w' u1 u2 u3 u4 x) (oS : aD 3 1 aW B' w v ns) (hb : w.heap.size <= B) : ∀ g, u1.ownBlock = some g -> v.ownBlock ≠ some g := fun g q e => by
 have:=(h.lt (.inl q)).1;have:=(World.ownsRow.lt oS g e).2;omega
theorem QJ {v' : Value} {n : Nat} (h : aB B w u1 u2 u3 u4 x) (ap : ∀ g, u1.ownBlock = some g -> v.ownBlock ≠ some g) (hd : v'.ownBlock = v.ownBlock ∨ v'.ownBlock = some n) (hn : w.heap.size <= n) : ∀ g, u1.ownBlock = some g -> v'.ownBlock ≠ some g := fun g q e => by
 have h1:=(h.lt (.inl q)).2;rcases hd with d|d
 . exact ap g q (d.symm.trans e)
 . rw[e]at d;injection d with d;omega
end
theorem Sv (w:World) (x:Int):(Instr.buildSlice 24 1 #[(0,.int .i64 x)]).run Tryz.prog w= .ok (.slice (some ⟨w.heap.size,0,none⟩) 1 1) (w.alloc (.cells #[.int .i64 x] 3)):=by
 obtain⟨ht,a6,hzs,hsz⟩:=fP;obtain⟨i0,hi,hz0,hz1,hz2⟩:=info_parts a6;simp[Instr.buildSlice,run_underlying ht,sizeOf,typeInfo,hi,hz1,hz0,newRow,Instr.fill,Value.cells,Array.range,Array.zipIdx];refine congrArg (fun cs=>w.alloc (Obj.cells cs 3)) (Array.ext (by simp[hz1]) (fun i h1 h2=> ?_));obtain rfl:i=0:=by simpa using h2
 simp
theorem rZ {ops:Array Oper} {o:Oper} {a:Act} {w:World} {K:Act->World->Prop} {Q:Exit->Act->World->Prop} {E':Prop} {x:Int} (hgd:o.guard=none) (y:Operand) (ho:o.op= .buildSlice 24 1 #[(0,y)]) (hy:a.eval y= .int .i64 x)
    (h:∀g w',Below w.heap.size w w'->Blk w' g 3 #[.int .i64 x]->w.heap.size<=g->K (a.put o.dst (.slice (some ⟨g,0,none⟩) 1 1)) w'):
    if Region.wanted o (yielded ops a.tmps)=true then Oper.wp Tryz.prog o a w K Q else E':=by
 have hw:Region.wanted o (yielded ops a.tmps)=true:=(by simp[Region.wanted,hgd]);rw[if_pos hw];have hrun:=Sv w x;unfold Oper.wp execOp;simp only[ho,Sem.run_bind,Sem.run_pure,Result.andThen_ok,List.map_toArray,List.map_cons,List.map_nil,hy,hrun];exact h _ _ ((Below.refl _ _).al _) (Blk.aX w 3 #[.int .i64 x]) (Nat.le_refl _)
end Go.Proofs.YtjijonhkofhikaaGreatDoor
