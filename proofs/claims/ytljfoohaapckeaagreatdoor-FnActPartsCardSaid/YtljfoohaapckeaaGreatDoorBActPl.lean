/- Acts done to a workshop: plain laws, and the words that the walks share. No program in sight but its types. -/
import Derived.Test.YtljfoohaapckeaaGreatDoorBG16
import Derived.Test.YtljfoohaapckeaaGreatDoorBBrk
import Derived.Test.YtljfoohaapckeaaGreatDoorBBuy
namespace Go.Proofs.YtljfoohaapckeaaGreatDoor
open Go.ChangeShapes Go.WideShapes Go.ChangeAt Go.RowKit
set_option linter.unusedVariables false
set_option linter.unusedSimpArgs false
set_option maxHeartbeats 4000000
set_option maxRecDepth 100000
def bI (b:Bool):Int:=if b=true then 1 else 0
abbrev Ac:=Int×Int×Int
def sam:List (Int×Int):=[(6,7),(10,11)]
noncomputable def wY (y:Wk) (a:Ac):Wk:=if(aY y&&qB a.1 a.2.1 a.2.2)=true then(if a.1=1 then(jZ y a.2,y.2)else if a.1=2 then lY y a.2.1 else if a.1=3 then(y.1,AA y sam a.2.1,AJ y sam a.2.1,y.2.2.2)else if a.1=4 then((jP y.1).1,y.2)else y)else y
noncomputable def AL (y:Wk) (a:Ac):Int:=if(aY y&&qB a.1 a.2.1 a.2.2)=true then(if a.1=1 then bI (lS y a.2)else if a.1=2 then yS y a.2.1 else if a.1=3 then bI (tO y sam a.2.1)else if a.1=4 then bI (jP y.1).2 else 1)else-1
theorem NL {y:Wk} {a:Ac} (h:(aY y&&qB a.1 a.2.1 a.2.2)=false):wY y a=y/\AL y a= -1:=by unfold wY AL;rw[h];exact⟨rfl,rfl⟩
theorem KT {y:Wk} {k a b:Int} (h:aY y=true) (h':qB k a b=true):
 (k=1/\wY y (k,a,b)=(jZ y (a,b),y.2)/\AL y (k,a,b)=bI (lS y (a,b)))∨(k=2/\wY y (k,a,b)=lY y a/\AL y (k,a,b)=yS y a)∨
 (k=3/\wY y (k,a,b)=(y.1,AA y sam a,AJ y sam a,y.2.2.2)/\AL y (k,a,b)=bI (tO y sam a))∨(k=4/\wY y (k,a,b)=((jP y.1).1,y.2)/\AL y (k,a,b)=bI (jP y.1).2)∨
 (k=5/\wY y (k,a,b)=y/\AL y (k,a,b)=1):=by
 have hk:k=1∨k=2∨k=3∨k=4∨k=5:=by
  unfold qB at h';repeat' split at h'
  all_goals simp_all
 unfold wY AL;simp only[h,h',Bool.and_self,if_true];rcases hk with rfl|rfl|rfl|rfl|rfl<;>simp
structure R4 (w:World) (u1 u2 u3 u4:Value) (x:Fl):Prop where
  a:Rd 1 bH w u1 x.1
  b:Rd 3 aT w u2 x.2.1
  c:Rd 3 aT w u3 x.2.2.1
  d:Rd 2 bV w u4 x.2.2.2
section
variable {W w w' : World} {gP gA gR : Nat} {cP cA cR : Array Value} {u1 u2 u3 u4 : Value} {x : Fl}
theorem R4.bl (h:R4 w u1 u2 u3 u4 x) (hb:Below w.heap.size w w'):R4 w' u1 u2 u3 u4 x:=⟨h.a.Qj hb,h.b.Qj hb,h.c.Qj hb,h.d.Qj hb⟩
theorem aC.r4 {B:Nat} (h:aC B w u1 u2 u3 u4 x):R4 w u1 u2 u3 u4 x:=⟨h.ra,h.rb,h.rc,h.rd⟩
theorem aC.alg {B:Nat} {t:TypeId} {cs:Array Value} (h:aC B w u1 u2 u3 u4 x) (h1:3≠t) (h2:60≠t) (h3:70≠t) (hg:(w.alloc (.cells cs t)).grownBy w' (some w.heap.size)):aC B w' u1 u2 u3 u4 x:=
 (h.alloc _).dB (Blk.aZ w t cs) h1 h2 h3 hg
structure DA (W w:World) (gP gA gR:Nat) (cP cA cR:Array Value):Prop where
  B:Below W.heap.size W w
  p:Blk w gP 32 cP
  a:Blk w gA 73 cA
  r:Blk w gR 32 cR
theorem DA.bl (h:DA W w gP gA gR cP cA cR) (hb:Below w.heap.size w w'):DA W w' gP gA gR cP cA cR:=⟨h.B.tr hb,h.p.bl hb,h.a.bl hb,h.r.bl hb⟩
theorem DA.al (h:DA W w gP gA gR cP cA cR) (o:Obj):DA W (w.alloc o) gP gA gR cP cA cR:=⟨h.B.al o,h.p.alloc o,h.a.alloc o,h.r.alloc o⟩
theorem DA.gr {g:Nat} (h:DA W w gP gA gR cP cA cR) (hg:w.grownBy w' (some g)) (hW:W.heap.size<=g) (h1:gP≠g) (h2:gA≠g) (h3:gR≠g):DA W w' gP gA gR cP cA cR:=
 ⟨h.B.grown hg h.B.size (fun k hk=>by injection hk with hk;subst hk;exact hW),h.p.grown hg (by simp;exact h1),h.a.grown hg (by simp;exact h2),h.r.grown hg (by simp;exact h3)⟩
theorem DA.alg {o:Obj} (h:DA W w gP gA gR cP cA cR) (hg:(w.alloc o).grownBy w' (some w.heap.size)):DA W w' gP gA gR cP cA cR:=
 (h.al o).gr hg h.B.size (Nat.ne_of_lt h.p.lt) (Nat.ne_of_lt h.a.lt) (Nat.ne_of_lt h.r.lt)
end
def JG (mk:Value->Value) (q:Wk) (w:World) (e:Ending) (w':World):Prop:=∃u1 u2 u3 u4,e= .returned (mk (.agg #[u1,u2,u3,u4,.int .i64 q.2.1,.int .i64 q.2.2.1,.int .i64 q.2.2.2]))/\aC w.heap.size w' u1 u2 u3 u4 q.1/\Below w.heap.size w w'
theorem PN {q : Wk} {n : Int} {w w' : World} {e : Ending} (h : J2 q n w e w') : JG (fun v => .tuple #[v, .int .i64 n]) q w e w' := by
 obtain⟨_,_,_,_,_,_,_,_,h1,h2,h3⟩:=h;exact⟨_,_,_,_,h1,h2,h3⟩
theorem NM {z : Fl} {s p r : Int} {b : Bool} {w w' : World} {e : Ending} (h : uB z s p r b w e w') : JG (fun v => .tuple #[v, .bool b]) (z, s, p, r) w e w' := by
 obtain⟨_,_,_,_,_,_,_,_,h1,h2,h3⟩:=h;exact⟨_,_,_,_,h1,h2,h3⟩
theorem NN {z : Fl} {s p r : Int} {w w' : World} {e : Ending} (h : Jk z s p r w e w') : JG (fun v => v) (z, s, p, r) w e w' := by
 obtain⟨_,_,_,_,_,_,_,_,h1,h2,h3⟩:=h;exact⟨_,_,_,_,h1,h2,h3⟩
theorem R4.one {w:World} {u1 u2 u3 u4:Value} {x:Fl} (h:R4 w u1 u2 u3 u4 x):u1.oneCell'=true/\u2.oneCell'=true/\u3.oneCell'=true/\u4.oneCell'=true:=by
 obtain⟨A1,c1,rfl,_⟩:=h.a.form;obtain⟨A2,c2,rfl,_⟩:=h.b.form;obtain⟨A3,c3,rfl,_⟩:=h.c.form;obtain⟨A4,c4,rfl,_⟩:=h.d.form;exact⟨rfl,rfl,rfl,rfl⟩
theorem aC.one {B:Nat} {w:World} {u1 u2 u3 u4:Value} {x:Fl} (h:aC B w u1 u2 u3 u4 x):u1.oneCell'=true/\u2.oneCell'=true/\u3.oneCell'=true/\u4.oneCell'=true:=h.r4.one
theorem lN {u1 u2 u3 u4:Value} {s p r:Int} (h:u1.oneCell'=true/\u2.oneCell'=true/\u3.oneCell'=true/\u4.oneCell'=true):(#[u1,u2,u3,u4,.int .i64 s,.int .i64 p,.int .i64 r]:Array Value).all (·.oneCell')=true:=by
 obtain⟨a,b,c,d⟩:=h;simp only[List.all_toArray,List.all_cons,a,b,c,d,List.all_nil,Bool.and_true,Bool.true_and];rfl
end Go.Proofs.YtljfoohaapckeaaGreatDoor
