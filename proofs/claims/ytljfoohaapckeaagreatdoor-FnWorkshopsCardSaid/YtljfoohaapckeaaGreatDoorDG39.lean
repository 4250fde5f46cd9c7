/- Acts done to a workshop: plain laws, and the words that the walks share. No program in sight but its types. DoAct of the program: the walk. Conditions: sizes; the library's table of powers, as its text lays it. DoAct of the reference: the walk. Conditions: sizes. The laws FnExactUndoFlip and FnExactUndoAll: the walks. No conditions. What an act leaves: sizes; the same result in slices. Plain lemmas. Acts done one after another: plain laws, and the words that the walks share. A new floor, by the program: the walk. Conditions: sizes. A workshop stays valid: by acts, by purchases, by breaks, by turns. Plain laws; no program in sight. -/
import Derived.Test.YtljfoohaapckeaaGreatDoorDG25
import Derived.Test.YtljfoohaapckeaaGreatDoorDBrk
import Derived.Test.YtljfoohaapckeaaGreatDoorDBuy
import Derived.Test.YtljfoohaapckeaaGreatDoorDG23
import Derived.Test.YtljfoohaapckeaaGreatDoorDG6
import Derived.Test.YtljfoohaapckeaaGreatDoorDG28
import Derived.Test.YtljfoohaapckeaaGreatDoorDG21
namespace Go.Proofs.YtljfoohaapckeaaGreatDoor
open Go.ChangeShapes Go.WideShapes Go.ChangeAt Go.RowKit
set_option linter.unusedVariables false
set_option linter.unusedSimpArgs false
set_option maxHeartbeats 4000000
set_option maxRecDepth 100000
def bI (b:Bool):Int:=if b=true then 1 else 0
structure R4 (w:World) (u1 u2 u3 u4:Value) (x:Fl):Prop where
  a:Rd 1 bH w u1 x.1
  b:Rd 3 aU w u2 x.2.1
  c:Rd 3 aU w u3 x.2.2.1
  d:Rd 2 bT w u4 x.2.2.2
section
variable {W w w' : World} {gP gA gR : Nat} {cP cA cR : Array Value} {u1 u2 u3 u4 : Value} {x : Fl}
theorem R4.bl (h:R4 w u1 u2 u3 u4 x) (hb:Below w.heap.size w w'):R4 w' u1 u2 u3 u4 x:=⟨h.a.Oz hb,h.b.Oz hb,h.c.Oz hb,h.d.Oz hb⟩
theorem aD.r4 {B:Nat} (h:aD B w u1 u2 u3 u4 x):R4 w u1 u2 u3 u4 x:=⟨h.ra,h.rb,h.rc,h.rd⟩
theorem aD.alg {B:Nat} {t:TypeId} {cs:Array Value} (h:aD B w u1 u2 u3 u4 x) (h1:3≠t) (h2:60≠t) (h3:70≠t) (hg:(w.alloc (.cells cs t)).grownBy w' (some w.heap.size)):aD B w' u1 u2 u3 u4 x:=
 (h.alloc _).eD (Blk.bK w t cs) h1 h2 h3 hg
structure DA (W w:World) (gP gA gR:Nat) (cP cA cR:Array Value):Prop where
  B:Below W.heap.size W w
  p:Blk w gP 32 cP
  a:Blk w gA 73 cA
  r:Blk w gR 32 cR
theorem DA.bl (h:DA W w gP gA gR cP cA cR) (hb:Below w.heap.size w w'):DA W w' gP gA gR cP cA cR:=⟨h.B.tr hb,h.p.bl hb,h.a.bl hb,h.r.bl hb⟩
theorem DA.al (h:DA W w gP gA gR cP cA cR) (o:Obj):DA W (w.alloc o) gP gA gR cP cA cR:=⟨h.B.al o,h.p.alloc o,h.a.alloc o,h.r.alloc o⟩
theorem DA.gr {g:Nat} (h:DA W w gP gA gR cP cA cR) (hg:w.grownBy w' (some g)) (hW:W.heap.size<=g) (h1:gP≠g) (h2:gA≠g) (h3:gR≠g):DA W w' gP gA gR cP cA cR:=
 ⟨h.B.grown hg h.B.size (fun k hk=>by injection hk with hk;subst hk;exact hW),h.p.grown hg (by simp;exact h1),h.a.grown hg (by simp;exact h2),h.r.grown hg (by simp;exact h3)⟩
theorem DA.alg {o:Obj} (h:DA W w gP gA gR cP cA cR) (hg:(w.alloc o).grownBy w' (some w.heap.size)):DA W w' gP gA gR cP cA cR:=
 (h.al o).gr hg h.B.size (Nat.ne_of_lt h.p.lt) (Nat.ne_of_lt h.a.lt) (Nat.ne_of_lt h.r.lt)
end
theorem R4.one {w:World} {u1 u2 u3 u4:Value} {x:Fl} (h:R4 w u1 u2 u3 u4 x):u1.oneCell'=true/\u2.oneCell'=true/\u3.oneCell'=true/\u4.oneCell'=true:=by
 obtain⟨A1,c1,rfl,_⟩:=h.a.form;obtain⟨A2,c2,rfl,_⟩:=h.b.form;obtain⟨A3,c3,rfl,_⟩:=h.c.form;obtain⟨A4,c4,rfl,_⟩:=h.d.form;exact⟨rfl,rfl,rfl,rfl⟩
theorem aD.one {B:Nat} {w:World} {u1 u2 u3 u4:Value} {x:Fl} (h:aD B w u1 u2 u3 u4 x):u1.oneCell'=true/\u2.oneCell'=true/\u3.oneCell'=true/\u4.oneCell'=true:=h.r4.one
theorem Cb {u1 u2 u3 u4:Value} {s p r:Int} (h:u1.oneCell'=true/\u2.oneCell'=true/\u3.oneCell'=true/\u4.oneCell'=true):(#[u1,u2,u3,u4,.int .i64 s,.int .i64 p,.int .i64 r]:Array Value).all (·.oneCell')=true:=by
 obtain⟨a,b,c,d⟩:=h;simp only[List.all_toArray,List.all_cons,a,b,c,d,List.all_nil,Bool.and_true,Bool.true_and];rfl
section
variable {W w w' : World} {gP gR : Nat} {cP cR : Array Value} {u1 u2 u3 u4 v : Value} {x : Fl} {B B' : Nat} {ns : List Int}
structure DB (W w:World) (gP gR:Nat) (cP cR:Array Value):Prop where
  B:Below W.heap.size W w
  p:Blk w gP 32 cP
  r:Blk w gR 32 cR
theorem DB.bl (h:DB W w gP gR cP cR) (hb:Below w.heap.size w w'):DB W w' gP gR cP cR:=⟨h.B.tr hb,h.p.bl hb,h.r.bl hb⟩
theorem DB.al (h:DB W w gP gR cP cR) (o:Obj):DB W (w.alloc o) gP gR cP cR:=⟨h.B.al o,h.p.alloc o,h.r.alloc o⟩
theorem DB.gr {g:Nat} (h:DB W w gP gR cP cR) (hg:w.grownBy w' (some g)) (hW:W.heap.size<=g) (h1:gP≠g) (h3:gR≠g):DB W w' gP gR cP cR:=
 ⟨h.B.grown hg h.B.size (fun k hk=>by injection hk with hk;subst hk;exact hW),h.p.grown hg (by simp;exact h1),h.r.grown hg (by simp;exact h3)⟩
theorem DB.alg {o:Obj} (h:DB W w gP gR cP cR) (hg:(w.alloc o).grownBy w' (some w.heap.size)):DB W w' gP gR cP cR:=
 (h.al o).gr hg h.B.size (Nat.ne_of_lt h.p.lt) (Nat.ne_of_lt h.r.lt)
theorem DB.app {o:Obj} (h:DB W w gP gR cP cR) (oS:aC 3 1 aY B' w v ns) (hg:(w.alloc o).grownBy w' v.ownBlock) (hB:Below W.heap.size W w'):DB W w' gP gR cP cR:=
 ⟨hB,(h.p.alloc o).grown hg (fun e=>oS.apart h.p (by decide) e.symm),(h.r.alloc o).grown hg (fun e=>oS.apart h.r (by decide) e.symm)⟩
end
def jL (rows:List Int):Fl:=if bG rows=0 then([],[],[],[])else(rows,fE rows,fE rows,[])
theorem yO {rows:List Int} (h:Small rows.length):dZ (jL rows):=by
 have:=pJ rows;unfold jL;split
 . exact⟨by unfold Small;simp,by unfold Small;simp,by unfold Small;simp,by unfold Small;simp⟩
 . exact⟨h,by unfold Small;simp only;omega,by unfold Small;simp only;omega,by unfold Small;simp⟩
theorem dH {P:Program} {ops:Array Oper} {rest:List Oper} {o:Oper} {a:Act} {w:World} {Q:Exit->Act->World->Prop} (hgd:o.guard=none) (ty:TypeId) (x y:Operand) (ho:o.op= .store ty x y)
    (g:Nat) (cells:Array Value) (hx:a.eval x= .pointer (some ⟨g,0,none⟩)) (hy:a.eval y= .agg cells)
    (t:TypeId) (old:Array Value) (hg:Blk w g t old) (hi:(P.info? ty).map (·.size)=some cells.size) (hold:old.size=cells.size) (h1:cells.all (·.oneCell')=true)
    (h:∀w',Blk w' g t cells->w.grownBy w' (some g)->wpList P ops Q rest (a.put o.dst undef) w'):wpList P ops Q (o::rest) a w:=
 wpList_store_row hgd ty x y ho g cells hx hy t old hg hi hold h1 (h _ (setRow_heap w g old cells t (0,0) hg) (I1 cells))
theorem xK (B:Nat) (w:World):aD B w (.slice none 0 0) (.slice none 0 0) (.slice none 0 0) (.slice none 0 0) ([],[],[],[]):=
 ⟨aC.CV,aC.CV,aC.CV,aC.CV,fun g q=>by simp[Value.ownBlock]at q⟩
theorem Nk {x:Fl} (c:Cl) (h:lH x=true):lH (E9 x c).1=true:=by
 unfold E9;split
 . rename_i q;obtain⟨h1,h2,h3⟩:=lI.1 h;refine lI.2 ⟨h1,?_,(by show fJ x.2.1 (x.2.2.2++[c])=some (aS x.2.2.1 c);rw[yY,h3,Option.bind_some,if_neg q.2.2])⟩;show(x.2.2.2++[c]).length<=60;rw[List.length_append,List.length_singleton];have:=q.2.1;omega
 . exact h
theorem mE {y:Wk}:dB y=true↔lH y.1=true/\(inB y.2.1 0 10000&&inB y.2.2.1 0 10000&&inB y.2.2.2 0 10000)=true:=by
 unfold dB lH;rw[Bool.and_eq_true]
theorem xV {y:Wk} (c:Cl) (h:dB y=true):dB (nD y c,y.2)=true:=by
 obtain⟨h1,h2⟩:=mE.1 h;refine mE.2 ⟨?_,h2⟩;show lH (nD y c)=true;unfold nD;split
 . exact Nk c h1
 . exact h1
theorem Dn {y:Wk} (l:List (Int×Int)) (n:Int) (h:dB y=true):dB (y.1,vW y l n,vX y l n,y.2.2.2)=true:=by
 unfold vW vX;by_cases q:sH y l n=true
 . rw[if_pos q,if_pos q];unfold sH at q;rw[Bool.and_eq_true]at q;exact q.2
 . rw[if_neg q,if_neg q];exact h
theorem wQ {y:Wk} (i:Int) (h:dB y=true):dB (iX y i)=true:=by
 unfold iX;split
 . rename_i q;unfold uQ at q;rw[Bool.and_eq_true]at q;exact q.2
 . exact h
theorem IP {rows:List Int} (hr:dJ rows) (h:xD rows):(fF rows).length<=58:=by
 unfold fF;rw[if_pos (aN.2 hr),vN]
 have hb : ∀ j, 58 <= j -> (setOf rows).testBit j = false := fun j hj => by
  rw[uG hr];by_cases hk:j/8<rows.length
  . have h7 : j / 8 = 7 := by have := hr.1; omega
    have hv:=h.2 _ hk (by omega);have hp:=hr.2 _ (List.getElem_mem hk);rw[List.getD_eq_getElem?_getD,List.getElem?_eq_getElem hk];obtain⟨n,hn⟩:∃n:Nat,n=(rows[j/8]).toNat:=⟨_,rfl⟩;show(rows[j/8]).toNat.testBit (j%8)=false;rw[<-hn];have hn3:n<2^2:=(by omega);refine Nat.testBit_lt_two_pow (Nat.lt_of_lt_of_le hn3 (Nat.pow_le_pow_right (by omega) (by omega)))
  . rw [List.getD_eq_getElem?_getD, List.getElem?_eq_none (by omega)];simp
 have hle : ∀ f : Nat -> Bool, ∀ k, cntF f k <= k := fun f k => by
  induction k with
  |zero=>exact Nat.le_refl _
  |succ k ih=>rw[iA];have:=Bool.toNat_le (f k);omega
 show cntF _ (58+1+1+1+1+1+1)<=58;simp only[iA _ (58+1+1+1+1+1),iA _ (58+1+1+1+1),iA _ (58+1+1+1),iA _ (58+1+1),iA _ (58+1),iA _ 58,hb 58 (by omega),hb (58+1) (by omega),hb (58+1+1) (by omega),hb (58+1+1+1) (by omega),hb (58+1+1+1+1) (by omega),hb (58+1+1+1+1+1) (by omega),Bool.toNat_false,Nat.add_zero];exact hle _ _
theorem N9 {rows:List Int} (h:dJ rows):bG rows=gU (setOf rows):=by unfold bG;rw[if_pos (aN.2 h)]
theorem Fj {rows:List Int} (h:R12 rows):oZ rows=true/\jL rows=(rows,fE rows,fE rows,[])/\dP rows (fE rows)=true/\(fE rows).length<=29:=by
 obtain⟨h1,h2,h3,h4⟩:=h;have hne:bG rows≠0:=by omega
 have ht:dP rows (fE rows)=true:=by
  unfold fE;rw[if_neg hne];exact zN h1 (Ij (dX h1) (by rw[<-N9 h1];exact hne))
 refine⟨by unfold oZ;exact decide_eq_true hne,by unfold jL;rw[if_neg hne],ht,?_⟩;have hc:=IP h1 h4;unfold dP at ht;rw[Bool.and_eq_true,decide_eq_true_iff]at ht;omega
theorem Oa {rows:List Int} (h:R12 rows):lH (jL rows)=true:=by
 obtain⟨h1,h2,h3,h4⟩:=Fj h;rw[h2];exact lI.2 ⟨h3,by simp,by simp[fJ]⟩
theorem JR {rows:List Int} {stock:Int} (h:R12 rows) (hs:30<=stock/\stock<=49):dB (jL rows,stock-((jL rows).2.2.1.length:Int),0,0)=true:=by
 have hf:=Oa h;obtain⟨h1,h2,h3,h4⟩:=Fj h;refine mE.2 ⟨hf,?_⟩;rw[h2];unfold inB;simp;omega
end Go.Proofs.YtljfoohaapckeaaGreatDoor
