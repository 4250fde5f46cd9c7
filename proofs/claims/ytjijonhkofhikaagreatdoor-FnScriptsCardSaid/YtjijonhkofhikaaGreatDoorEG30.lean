import Derived.Test.YtjijonhkofhikaaGreatDoorEBrk
import Derived.Test.YtjijonhkofhikaaGreatDoorEBuy
open _root_.Nat renaming ne_of_lt->TZ,le_refl->T9
open _root_.Go.Proofs.Tryz (prog)
open _root_.Go.Proofs.Tryz renaming results27->Ua
set_option linter.unusedVariables false
set_option linter.unusedSimpArgs false
set_option maxHeartbeats 4000000
set_option maxRecDepth 100000
namespace Go.Proofs.YtjijonhkofhikaaGreatDoor
open Go.ChangeShapes Go.WideShapes Go.ChangeAt Go.RowKit
def bI (b:Bool):Int:=if b=true then 1 else 0
abbrev Ac:=Int×Int×Int
def sam:List (Int×Int):=[(6,7),(10,11)]
noncomputable def Dt (y:Wk) (a:Ac):Wk:=if(bV y&&iP a.1 a.2.1 a.2.2)=true then(if a.1=1 then(kN y a.2,y.2)else if a.1=2 then mD y a.2.1 else if a.1=3 then(y.1,Ae y sam a.2.1,Ag y sam a.2.1,y.2.2.2)else if a.1=4 then((kT y.1).1,y.2)else y)else y
noncomputable def Cy (y:Wk) (a:Ac):Int:=if(bV y&&iP a.1 a.2.1 a.2.2)=true then(if a.1=1 then bI (mH y a.2)else if a.1=2 then Ad y a.2.1 else if a.1=3 then bI (sV y sam a.2.1)else if a.1=4 then bI (kT y.1).2 else 1)else-1
theorem Tm {y:Wk} {a:Ac} (h:(bV y&&iP a.1 a.2.1 a.2.2)=false):Dt y a=y/\Cy y a= -1:=by unfold Dt Cy;rw[h];exact⟨rfl,rfl⟩
theorem Sb {y:Wk} {k a b:Int} (h:bV y=true) (h':iP k a b=true):
 (k=1/\Dt y (k,a,b)=(kN y (a,b),y.2)/\Cy y (k,a,b)=bI (mH y (a,b)))∨(k=2/\Dt y (k,a,b)=mD y a/\Cy y (k,a,b)=Ad y a)∨
 (k=3/\Dt y (k,a,b)=(y.1,Ae y sam a,Ag y sam a,y.2.2.2)/\Cy y (k,a,b)=bI (sV y sam a))∨(k=4/\Dt y (k,a,b)=((kT y.1).1,y.2)/\Cy y (k,a,b)=bI (kT y.1).2)∨
 (k=5/\Dt y (k,a,b)=y/\Cy y (k,a,b)=1):=by
 have hk:k=1∨k=2∨k=3∨k=4∨k=5:=by
  unfold iP at h';repeat' split at h'
  all_goals simp_all
 unfold Dt Cy;simp only[h,h',Bool.and_self,if_true];rcases hk with rfl|rfl|rfl|rfl|rfl<;>simp
structure R4 (w:World) (u1 u2 u3 u4:Value) (x:Fl):Prop where
  a:Rd 1 bG w u1 x.1
  b:Rd 3 aU w u2 x.2.1
  c:Rd 3 aU w u3 x.2.2.1
  d:Rd 2 cO w u4 x.2.2.2
section
variable {W w w' : World} {gP gA gR : Nat} {cP cA cR : Array Value} {u1 u2 u3 u4 : Value} {x : Fl}
theorem R4.bl (h:R4 w u1 u2 u3 u4 x) (hb:Below w.heap.size w w'):R4 w' u1 u2 u3 u4 x:=⟨h.a.TW hb,h.b.TW hb,h.c.TW hb,h.d.TW hb⟩
theorem aB.r4 {B:Nat} (h:aB B w u1 u2 u3 u4 x):R4 w u1 u2 u3 u4 x:=⟨h.ra,h.rb,h.rc,h.rd⟩
theorem aB.alg {B:Nat} {t:TypeId} {cs:Array Value} (h:aB B w u1 u2 u3 u4 x) (h1:3≠t) (h2:99≠t) (h3:83≠t) (hg:(w.alloc (.cells cs t)).grownBy w' (some w.heap.size)):aB B w' u1 u2 u3 u4 x:=
 (h.alloc _).dD (Blk.aZ w t cs) h1 h2 h3 hg
structure DA (W w:World) (gP gA gR:Nat) (cP cA cR:Array Value):Prop where
  B:Below W.heap.size W w
  p:Blk w gP 32 cP
  a:Blk w gA 54 cA
  r:Blk w gR 32 cR
theorem DA.bl (h:DA W w gP gA gR cP cA cR) (hb:Below w.heap.size w w'):DA W w' gP gA gR cP cA cR:=⟨h.B.tr hb,h.p.bl hb,h.a.bl hb,h.r.bl hb⟩
theorem DA.al (h:DA W w gP gA gR cP cA cR) (o:Obj):DA W (w.alloc o) gP gA gR cP cA cR:=⟨h.B.al o,h.p.alloc o,h.a.alloc o,h.r.alloc o⟩
theorem DA.gr {g:Nat} (h:DA W w gP gA gR cP cA cR) (hg:w.grownBy w' (some g)) (hW:W.heap.size<=g) (h1:gP≠g) (h2:gA≠g) (h3:gR≠g):DA W w' gP gA gR cP cA cR:=
 ⟨h.B.grown hg h.B.size (fun k hk=>by injection hk with hk;subst hk;exact hW),h.p.grown hg (by simp;exact h1),h.a.grown hg (by simp;exact h2),h.r.grown hg (by simp;exact h3)⟩
theorem DA.alg {o:Obj} (h:DA W w gP gA gR cP cA cR) (hg:(w.alloc o).grownBy w' (some w.heap.size)):DA W w' gP gA gR cP cA cR:=
 (h.al o).gr hg h.B.size (TZ h.p.lt) (TZ h.a.lt) (TZ h.r.lt)
end
def LW (mk:Value->Value) (q:Wk) (w:World) (e:Ending) (w':World):Prop:=∃u1 u2 u3 u4,e= .returned (mk (.agg #[u1,u2,u3,u4,.int .i64 q.2.1,.int .i64 q.2.2.1,.int .i64 q.2.2.2]))/\aB w.heap.size w' u1 u2 u3 u4 q.1/\Below w.heap.size w w'
theorem Tn {q : Wk} {n : Int} {w w' : World} {e : Ending} (h : Mr q n w e w') : LW (fun v => .tuple #[v, .int .i64 n]) q w e w' := by
 obtain⟨_,_,_,_,_,_,_,_,h1,h2,h3⟩:=h;exact⟨_,_,_,_,h1,h2,h3⟩
theorem QS {z : Fl} {s p r : Int} {b : Bool} {w w' : World} {e : Ending} (h : qM z s p r b w e w') : LW (fun v => .tuple #[v, .bool b]) (z, s, p, r) w e w' := by
 obtain⟨_,_,_,_,_,_,_,_,h1,h2,h3⟩:=h;exact⟨_,_,_,_,h1,h2,h3⟩
theorem QT {z : Fl} {s p r : Int} {w w' : World} {e : Ending} (h : Eu z s p r w e w') : LW (fun v => v) (z, s, p, r) w e w' := by
 obtain⟨_,_,_,_,_,_,_,_,h1,h2,h3⟩:=h;exact⟨_,_,_,_,h1,h2,h3⟩
theorem R4.one {w:World} {u1 u2 u3 u4:Value} {x:Fl} (h:R4 w u1 u2 u3 u4 x):u1.oneCell'=true/\u2.oneCell'=true/\u3.oneCell'=true/\u4.oneCell'=true:=by
 obtain⟨A1,c1,rfl,_⟩:=h.a.form;obtain⟨A2,c2,rfl,_⟩:=h.b.form;obtain⟨A3,c3,rfl,_⟩:=h.c.form;obtain⟨A4,c4,rfl,_⟩:=h.d.form;exact⟨rfl,rfl,rfl,rfl⟩
theorem aB.one {B:Nat} {w:World} {u1 u2 u3 u4:Value} {x:Fl} (h:aB B w u1 u2 u3 u4 x):u1.oneCell'=true/\u2.oneCell'=true/\u3.oneCell'=true/\u4.oneCell'=true:=h.r4.one
theorem nP {u1 u2 u3 u4:Value} {s p r:Int} (h:u1.oneCell'=true/\u2.oneCell'=true/\u3.oneCell'=true/\u4.oneCell'=true):(#[u1,u2,u3,u4,.int .i64 s,.int .i64 p,.int .i64 r]:Array Value).all (·.oneCell')=true:=by
 obtain⟨a,b,c,d⟩:=h;simp only[List.all_toArray,List.all_cons,a,b,c,d,List.all_nil,Bool.and_true,Bool.true_and];rfl
theorem LX (u1 u2 u3 u4:Value) (x:Fl) (s p r k a b:Int) (w:World) (h1:Rd 1 bG w u1 x.1) (h2:Rd 3 aU w u2 x.2.1) (h3:Rd 3 aU w u3 x.2.2.1) (h4:Rd 2 cO w u4 x.2.2.2) (hs:bZ x) (ht:Tab w):
 Calls prog 27 #[.agg #[u1,u2,u3,u4,.int .i64 s,.int .i64 p,.int .i64 r],.agg #[.int .i64 k,.int .i64 a,.int .i64 b]] w (LW (fun v=> .tuple #[v,.int .i64 (Cy (x,s,p,r) (k,a,b))]) (Dt (x,s,p,r) (k,a,b)) w):=by
 have eC:=TY ht;clear ht;obtain⟨q,hq⟩:=TV (Dt (x,s,p,r) (k,a,b));obtain⟨n,hn⟩:=TV (Cy (x,s,p,r) (k,a,b));obtain⟨kk,cJ⟩:=TV (bV (x,s,p,r));obtain⟨ao,hao⟩:=TV (iP k a b);have hno:= @Tm (x,s,p,r) (k,a,b);have b7:= @Sb (x,s,p,r) k a b;simp only at hno b7;rw[<-hq,<-hn]at hno b7⊢;rw[<-cJ,<-hao]at hno b7;have CK:∀w,R4 w u1 u2 u3 u4 x->Calls prog 26 #[.agg #[u1,u2,u3,u4,.int .i64 s,.int .i64 p,.int .i64 r]] w (Ret (.bool kk) w):=fun w h=>by rw[cJ];exact iC _ _ _ _ (x,s,p,r) w h.a h.b h.c h.d hs.2.1
 have CA:∀w,Calls prog 44 #[.agg #[.int .i64 k,.int .i64 a,.int .i64 b]] w (Ret (.bool ao) w):=fun w=>by rw[hao];exact mO k a b w
 have CC:∀w,R4 w u1 u2 u3 u4 x->Calls prog 25 #[.agg #[u1,u2,u3,u4,.int .i64 s,.int .i64 p,.int .i64 r]] w (LW (fun v=>v) (x,s,p,r) w):=fun w h=>(lC _ _ _ _ x s p r w h.a h.b h.c h.d hs).mono fun _ _=>QT
 have CT:∀w,R4 w u1 u2 u3 u4 x->Calls prog 52 #[.agg #[u1,u2,u3,u4,.int .i64 s,.int .i64 p,.int .i64 r],.agg #[.int .i64 a,.int .i64 b]] w (LW (fun v=> .tuple #[v,.bool (mH (x,s,p,r) (a,b))]) (kN (x,s,p,r) (a,b),s,p,r) w):=fun w h=>(NV _ _ _ _ x s p r a b w h.a h.b h.c h.d hs).mono fun _ _=>QS
 have CB:∀w,R4 w u1 u2 u3 u4 x->Tab w->Calls prog 53 #[.agg #[u1,u2,u3,u4,.int .i64 s,.int .i64 p,.int .i64 r],.int .i64 a] w (LW (fun v=> .tuple #[v,.int .i64 (Ad (x,s,p,r) a)]) (mD (x,s,p,r) a) w):=fun w h ht=>(PW _ _ _ _ x s p r a w h.a h.b h.c h.d hs ht).mono fun _ _=>Tn
 have CY:∀w u,R4 w u1 u2 u3 u4 x->Rd 2 cO w u sam->Calls prog 54 #[.agg #[u1,u2,u3,u4,.int .i64 s,.int .i64 p,.int .i64 r],u,.int .i64 a] w (LW (fun v=> .tuple #[v,.bool (sV (x,s,p,r) sam a)]) (x,Ae (x,s,p,r) sam a,Ag (x,s,p,r) sam a,r) w):=fun w u h hu=>(P5 _ _ _ _ u x s p r sam a w h.a h.b h.c h.d hu hs).mono fun _ _=>QS
 have CU:∀w,R4 w u1 u2 u3 u4 x->Calls prog 56 #[.agg #[u1,u2,u3,u4]] w (nD (kT x).1 (kT x).2 w):=fun w h=>Gz _ _ _ _ x w h.a h.b h.c h.d hs
 have CD:∀w,R4 w u1 u2 u3 u4 x->Calls prog 57 #[.agg #[u1,u2,u3,u4,.int .i64 s,.int .i64 p,.int .i64 r]] w (Ret (.bool kk) w):=fun w h=>by rw[cJ];exact Ls _ _ _ _ x s p r w h.a h.b h.c h.d hs
 have CS:∀w,Calls prog 55 #[] w (iH 134 2 dH sam w):=fun w=>Jv w
 have HN:=TY hno;have HY:=TY b7;have hR:R4 w u1 u2 u3 u4 x:=⟨h1,h2,h3,h4⟩;clear hq hn cJ hao hno b7 h1 h2 h3 h4
 have D0:DA w (((w.alloc (.cells #[u1,u2,u3,u4,.int .i64 s,.int .i64 p,.int .i64 r] 32)).alloc (.cells #[.int .i64 k,.int .i64 a,.int .i64 b] 54)).alloc (.cells #[.slice none 0 0,.slice none 0 0,.slice none 0 0,.slice none 0 0,.int .i64 0,.int .i64 0,.int .i64 0] 32)) w.heap.size (w.heap.size+1) (w.heap.size+1+1) #[u1,u2,u3,u4,.int .i64 s,.int .i64 p,.int .i64 r] #[.int .i64 k,.int .i64 a,.int .i64 b] #[.slice none 0 0,.slice none 0 0,.slice none 0 0,.slice none 0 0,.int .i64 0,.int .i64 0,.int .i64 0]:=
  ⟨(((Below.refl w.heap.size w).al _).al _).al _,((Blk.aZ w _ _).alloc _).alloc _,(Blk.gZ (w.alloc _) _ _ (w.heap.size+1) (by simp)).alloc _,Blk.gZ ((w.alloc _).alloc _) _ _ (w.heap.size+1+1) (by simp)⟩
 go_enter Tryz.func27,Tryz.ntmps27
 go_wp2_with fail
 obtain⟨W0,hW0⟩:=TV (((w.alloc (.cells #[u1,u2,u3,u4,.int .i64 s,.int .i64 p,.int .i64 r] 32)).alloc (.cells #[.int .i64 k,.int .i64 a,.int .i64 b] 54)).alloc (.cells #[.slice none 0 0,.slice none 0 0,.slice none 0 0,.slice none 0 0,.int .i64 0,.int .i64 0,.int .i64 0] 32));obtain⟨gP,cM⟩:=TV w.heap.size;obtain⟨gA,cN⟩:=TV (w.heap.size+1);obtain⟨gR,cE⟩:=TV (w.heap.size+1+1);rw[<-hW0,<-cE,<-cN,<-cM]at D0;rw[<-hW0,<-cE,<-cN,<-cM];have b9:w.heap.size<=gR:=(by omega);have eE:gP≠gR:=(by omega);have eI:gA≠gR:=(by omega);have eJ:gP≠gA:=(by omega);clear hW0 cM cN cE;refine(CK _ (hR.bl D0.B)).mono ?_;rintro e w1 ⟨rfl,hb1⟩;have D1:=D0.bl hb1;clear D0 hb1;cases kk
 . skip;obtain⟨rfl,rfl⟩:=HN.out (by first|rfl|trivial);obtain⟨a7,a8,bA,bB,bC,bD,bF⟩:=D1.p.n7;go_wp2_with fail
   refine(CC _ (hR.bl D1.B)).mono ?_;rintro e w9 ⟨C1,C2,C3,C4,rfl,oO,cQ⟩;have D9:=D1.bl cQ;have oO:=oO.mono D1.B.size;clear a7 a8 bA bB bC bD bF;go_wp2_with (refine aA rfl 32 _ _ rfl gR #[C1,C2,C3,C4,.int .i64 s,.int .i64 p,.int .i64 r] rfl rfl _ _ D9.r (by kernel_rfl) rfl (nP oO.one) ?_;intro wE bE a6)
   have oE:=aB.dD oO D9.r (by decide) (by decide) (by decide) a6;have BE:=D9.B.grown a6 D9.B.size (fun k hk=>by injection hk with hk;subst hk;exact b9);obtain⟨bJ,bK,bL,bN,bO,bR,bU⟩:=bE.n7;refine bodyPost_ret (v:= .tuple #[.agg #[C1,C2,C3,C4,.int .i64 s,.int .i64 p,.int .i64 r],.int .i64 (-1)]) (by simp[results,Ua,go_sem,bJ,bK,bL,bN,bO,bR,bU]) rfl ⟨_,_,_,_,rfl,oE,BE⟩
 . obtain⟨bY,b5,b6⟩:=D1.a.n3;go_wp2_with fail
   refine(CA _).mono ?_;rintro e w2 ⟨rfl,hb2⟩;have D2:=D1.bl hb2;clear D1 hb2 bY b5 b6;cases ao
   . skip;obtain⟨rfl,rfl⟩:=HN.out (by first|rfl|trivial);obtain⟨a7,a8,bA,bB,bC,bD,bF⟩:=D2.p.n7;go_wp2_with fail
     refine(CC _ (hR.bl D2.B)).mono ?_;rintro e w9 ⟨C1,C2,C3,C4,rfl,oO,cQ⟩;have D9:=D2.bl cQ;have oO:=oO.mono D2.B.size;clear a7 a8 bA bB bC bD bF;go_wp2_with (refine aA rfl 32 _ _ rfl gR #[C1,C2,C3,C4,.int .i64 s,.int .i64 p,.int .i64 r] rfl rfl _ _ D9.r (by kernel_rfl) rfl (nP oO.one) ?_;intro wE bE a6)
     have oE:=aB.dD oO D9.r (by decide) (by decide) (by decide) a6;have BE:=D9.B.grown a6 D9.B.size (fun k hk=>by injection hk with hk;subst hk;exact b9);obtain⟨bJ,bK,bL,bN,bO,bR,bU⟩:=bE.n7;refine bodyPost_ret (v:= .tuple #[.agg #[C1,C2,C3,C4,.int .i64 s,.int .i64 p,.int .i64 r],.int .i64 (-1)]) (by simp[results,Ua,go_sem,bJ,bK,bL,bN,bO,bR,bU]) rfl ⟨_,_,_,_,rfl,oE,BE⟩
   . obtain⟨a7,a8,bA,bB,bC,bD,bF⟩:=D2.p.n7;go_wp2_with fail
     refine(CC _ (hR.bl D2.B)).mono ?_;rintro e w3 ⟨C1,C2,C3,C4,rfl,oO,hb3⟩;have D3:=D2.bl hb3;have oO:=oO.mono D2.B.size;clear a7 a8 bA bB bC bD bF D2 hb3;go_upto_region 6 with(refine aA rfl 32 _ _ rfl w3.heap.size #[C1,C2,C3,C4,.int .i64 s,.int .i64 p,.int .i64 r] rfl rfl _ _ (Blk.aZ w3 32 #[.slice none 0 0,.slice none 0 0,.slice none 0 0,.slice none 0 0,.int .i64 0,.int .i64 0,.int .i64 0]) (by kernel_rfl) rfl (nP oO.one) ?_;intro w4 cF hg4;have D4:=D3.alg hg4;have oO:=aB.alg oO (by decide) (by decide) (by decide) hg4;obtain⟨bY,b5,b6⟩:=D4.a.n3)
     obtain⟨gN,cH⟩:=TV w3.heap.size;have cT:gP≠gN:=by have:=D3.p.lt;omega
     have cU:gA≠gN:=by have:=D3.a.lt;omega
     have cV:gR≠gN:=by have:=D3.r.lt;omega
     have cW:w.heap.size<=gN:=by have:=D3.B.size;omega
     rw[<-cH]at cF⊢;clear cH hg4 D3 bY b5 b6;rcases HY.out (by first|rfl|trivial) (by first|rfl|trivial)with⟨rfl,e1,e2⟩|⟨rfl,e1,e2⟩|⟨rfl,e1,e2⟩|⟨rfl,e1,e2⟩|⟨rfl,e1,e2⟩
     . obtain⟨z,hz⟩:=TV (kN (x,s,p,r) (a,b));obtain⟨bb,cG⟩:=TV (mH (x,s,p,r) (a,b));rw[<-hz,<-cG]at CT;rw[<-hz]at e1;rw[<-cG]at e2;subst e1 e2;clear hz cG;obtain⟨a7,a8,bA,bB,bC,bD,bF⟩:=D4.p.n7;obtain⟨bY,b5,b6⟩:=D4.a.n3;go_wp2_with fail
       refine(CT _ (hR.bl D4.B)).mono ?_;rintro e w5 ⟨E1,E2,E3,E4,rfl,oT,bW⟩;have D5:=D4.bl bW;have cB:=cF.bl bW;clear a7 a8 bA bB bC bD bF bY b5 b6 bW;have oT:=oT.mono D4.B.size;go_upto_region 14 with(refine aA rfl 32 _ _ rfl gN #[E1,E2,E3,E4,.int .i64 s,.int .i64 p,.int .i64 r] rfl rfl _ _ cB (by kernel_rfl) rfl (nP oT.one) ?_;intro w6 cC cI)
       have D6:=D5.gr cI cW cT cU cV;have bX:=aB.dD oT cB (by decide) (by decide) (by decide) cI;cases bb
       . skip;obtain⟨a7,a8,bA,bB,bC,bD,bF⟩:=cC.n7;go_wp2_with (refine aA rfl 32 _ _ rfl gR #[E1,E2,E3,E4,.int .i64 s,.int .i64 p,.int .i64 r] rfl rfl _ _ D6.r (by kernel_rfl) rfl (nP bX.one) ?_;intro wE bE a6)
         have oE:=aB.dD bX D6.r (by decide) (by decide) (by decide) a6;have BE:=D6.B.grown a6 D6.B.size (fun k hk=>by injection hk with hk;subst hk;exact b9);obtain⟨bJ,bK,bL,bN,bO,bR,bU⟩:=bE.n7;refine bodyPost_ret (v:= .tuple #[.agg #[E1,E2,E3,E4,.int .i64 s,.int .i64 p,.int .i64 r],.int .i64 0]) (by simp[results,Ua,go_sem,bJ,bK,bL,bN,bO,bR,bU]) rfl ⟨_,_,_,_,rfl,oE,BE⟩
       . skip;obtain⟨a7,a8,bA,bB,bC,bD,bF⟩:=cC.n7;go_wp2_with (refine aA rfl 32 _ _ rfl gR #[E1,E2,E3,E4,.int .i64 s,.int .i64 p,.int .i64 r] rfl rfl _ _ D6.r (by kernel_rfl) rfl (nP bX.one) ?_;intro wE bE a6)
         have oE:=aB.dD bX D6.r (by decide) (by decide) (by decide) a6;have BE:=D6.B.grown a6 D6.B.size (fun k hk=>by injection hk with hk;subst hk;exact b9);obtain⟨bJ,bK,bL,bN,bO,bR,bU⟩:=bE.n7;refine bodyPost_ret (v:= .tuple #[.agg #[E1,E2,E3,E4,.int .i64 s,.int .i64 p,.int .i64 r],.int .i64 1]) (by simp[results,Ua,go_sem,bJ,bK,bL,bN,bO,bR,bU]) rfl ⟨_,_,_,_,rfl,oE,BE⟩
     . obtain⟨⟨z,s2,p2,r2⟩,hz⟩:∃z,z=mD (x,s,p,r) a:=⟨_,rfl⟩;have hm:=e2;rw[<-hz]at CB e1;rw[<-e2]at CB;subst e1;clear hz hm e2;obtain⟨a7,a8,bA,bB,bC,bD,bF⟩:=D4.p.n7;obtain⟨bY,b5,b6⟩:=D4.a.n3;go_wp2_with fail
       refine(CB _ (hR.bl D4.B) (eC.out.below D4.B)).mono ?_;rintro e w5 ⟨E1,E2,E3,E4,rfl,oT,bW⟩;have D5:=D4.bl bW;have cB:=cF.bl bW;clear a7 a8 bA bB bC bD bF bY b5 b6 bW;have oT:=oT.mono D4.B.size;go_wp2_with (refine aA rfl 32 _ _ rfl gR #[E1,E2,E3,E4,.int .i64 s2,.int .i64 p2,.int .i64 r2] rfl rfl _ _ D5.r (by kernel_rfl) rfl (nP oT.one) ?_;intro wE bE a6)
       have oE:=aB.dD oT D5.r (by decide) (by decide) (by decide) a6;have BE:=D5.B.grown a6 D5.B.size (fun k hk=>by injection hk with hk;subst hk;exact b9);obtain⟨bJ,bK,bL,bN,bO,bR,bU⟩:=bE.n7;refine bodyPost_ret (v:= .tuple #[.agg #[E1,E2,E3,E4,.int .i64 s2,.int .i64 p2,.int .i64 r2],.int .i64 n]) (by simp[results,Ua,go_sem,bJ,bK,bL,bN,bO,bR,bU]) rfl ⟨_,_,_,_,rfl,oE,BE⟩
     . skip;obtain⟨ss,cX⟩:=TV (Ae (x,s,p,r) sam a);obtain⟨pp,cY⟩:=TV (Ag (x,s,p,r) sam a);obtain⟨bb,cG⟩:=TV (sV (x,s,p,r) sam a);rw[<-cX,<-cY,<-cG]at CY;rw[<-cX,<-cY]at e1;rw[<-cG]at e2;subst e1 e2;clear cX cY cG;obtain⟨a7,a8,bA,bB,bC,bD,bF⟩:=D4.p.n7;obtain⟨bY,b5,b6⟩:=D4.a.n3;have e5:=D4.p.lt;have e6:=D4.a.lt;have Bw:Below w4.heap.size w4 w4.drew:=(Below.refl _ _).drew;have hz:w4.heap.size<=w4.drew.heap.size:=(by simp);go_wp2_with fail
       refine rB (fun w'=>w'.cell? ⟨gP,0,none⟩=some u1/\w'.cell? ⟨gP,1,none⟩=some u2/\w'.cell? ⟨gP,2,none⟩=some u3/\w'.cell? ⟨gP,3,none⟩=some u4/\w'.cell? ⟨gP,4,none⟩=some (.int .i64 s)/\w'.cell? ⟨gP,5,none⟩=some (.int .i64 p)/\w'.cell? ⟨gP,6,none⟩=some (.int .i64 r)/\w'.cell? ⟨gA,1,none⟩=some (.int .i64 a)) fun hHeld=>(tW 0)<|(tW 2)<|(tW 3)<|(tR [1])<|tL fun K hK=>?_
       go_simp
       (first|(go_at_call 55;go_must (refine(CS _).mono ?_;rintro e wX ⟨AS,cS,rfl,oS,b8⟩;obtain⟨cK,cL,cD⟩:=bkn b8 w4.heap.size hz;have hz:=cD;have Bw:=Bw.tr b8);(try go_wp2_with fail))|(go_at_call 54;go_must (refine(CY _ _ (hR.bl (D4.B.tr Bw)) (oS.rd qF (by decide))).mono ?_;rintro e wX ⟨E1,E2,E3,E4,rfl,oT,b8⟩;have oT:=oT.mono (D4.B.tr Bw).size;obtain⟨cK,cL,cD⟩:=bkn b8 w4.heap.size hz;have hz:=cD;have Bw:=Bw.tr b8);(try go_wp2_with fail)))
       refine tK hK fun hHeld=>?_
       clear hK K;refine(tR [4])<|tL fun K hK=>?_
       go_simp
       (first|(go_at_call 55;go_must (refine(CS _).mono ?_;rintro e wX ⟨AS,cS,rfl,oS,b8⟩;obtain⟨cK,cL,cD⟩:=bkn b8 w4.heap.size hz;have hz:=cD;have Bw:=Bw.tr b8);(try go_wp2_with fail))|(go_at_call 54;go_must (refine(CY _ _ (hR.bl (D4.B.tr Bw)) (oS.rd qF (by decide))).mono ?_;rintro e wX ⟨E1,E2,E3,E4,rfl,oT,b8⟩;have oT:=oT.mono (D4.B.tr Bw).size;obtain⟨cK,cL,cD⟩:=bkn b8 w4.heap.size hz;have hz:=cD;have Bw:=Bw.tr b8);(try go_wp2_with fail)))
       refine tK hK fun hHeld=>?_
       clear hK K;refine(tW 5)<|(tW 6)<|(tW 7)<|(tR [8])<|tL fun K hK=>?_
       (refine aL rfl 32 _ _ rfl gN #[E1,E2,E3,E4,.int .i64 ss,.int .i64 pp,.int .i64 r] rfl rfl _ _ (cF.bl Bw) (by kernel_rfl) rfl (nP oT.one) ?_;intro w6 cC cI;have D6:=(D4.bl Bw).gr cI cW cT cU cV;have bX:=aB.dD oT (cF.bl Bw) (by decide) (by decide) (by decide) cI;obtain⟨e7,e8,e9,fD,fL,fN,fR⟩:=D6.p.n7;obtain⟨fS,fW,fX⟩:=D6.a.n3)
       refine tK hK fun hHeld=>?_
       clear hK K;refine(tW 9)<|tD ?_;clear hHeld hz cK cL cD;cases bb
       . skip;obtain⟨a7,a8,bA,bB,bC,bD,bF⟩:=cC.n7;go_wp2_with (refine aA rfl 32 _ _ rfl gR #[E1,E2,E3,E4,.int .i64 ss,.int .i64 pp,.int .i64 r] rfl rfl _ _ D6.r (by kernel_rfl) rfl (nP bX.one) ?_;intro wE bE a6)
         have oE:=aB.dD bX D6.r (by decide) (by decide) (by decide) a6;have BE:=D6.B.grown a6 D6.B.size (fun k hk=>by injection hk with hk;subst hk;exact b9);obtain⟨bJ,bK,bL,bN,bO,bR,bU⟩:=bE.n7;refine bodyPost_ret (v:= .tuple #[.agg #[E1,E2,E3,E4,.int .i64 ss,.int .i64 pp,.int .i64 r],.int .i64 0]) (by simp[results,Ua,go_sem,bJ,bK,bL,bN,bO,bR,bU]) rfl ⟨_,_,_,_,rfl,oE,BE⟩
       . skip;obtain⟨a7,a8,bA,bB,bC,bD,bF⟩:=cC.n7;go_wp2_with (refine aA rfl 32 _ _ rfl gR #[E1,E2,E3,E4,.int .i64 ss,.int .i64 pp,.int .i64 r] rfl rfl _ _ D6.r (by kernel_rfl) rfl (nP bX.one) ?_;intro wE bE a6)
         have oE:=aB.dD bX D6.r (by decide) (by decide) (by decide) a6;have BE:=D6.B.grown a6 D6.B.size (fun k hk=>by injection hk with hk;subst hk;exact b9);obtain⟨bJ,bK,bL,bN,bO,bR,bU⟩:=bE.n7;refine bodyPost_ret (v:= .tuple #[.agg #[E1,E2,E3,E4,.int .i64 ss,.int .i64 pp,.int .i64 r],.int .i64 1]) (by simp[results,Ua,go_sem,bJ,bK,bL,bN,bO,bR,bU]) rfl ⟨_,_,_,_,rfl,oE,BE⟩
     . obtain⟨⟨z,bb⟩,hz⟩:∃z,z=kT x:=⟨_,rfl⟩;rw[<-hz]at CU e1 e2;simp only at CU e1 e2;subst e1 e2;clear hz;obtain⟨a7,a8,bA,bB,bC,bD,bF⟩:=D4.p.n7;obtain⟨bY,b5,b6⟩:=D4.a.n3;go_wp2_with fail
       refine(CU _ (hR.bl D4.B)).mono ?_;rintro e w5 ⟨A1,e1,A2,e2,A3,e3,A4,e4,rfl,oT,bW⟩;have D5:=D4.bl bW;have cB:=cF.bl bW;clear a7 a8 bA bB bC bD bF bY b5 b6 bW;have oT:=oT.mono D4.B.size;obtain⟨eK,eL,eM,eN,eP,eR,eW⟩:=cB.n7;have fO:=fun j=>cB.frozen j
       have dL:=dA (dA (dA (dA (World.grownBy.refl w5 (some gN)) 0 (.slice A1 z.1.length e1)) 1 (.slice A2 z.2.1.length e2)) 2 (.slice A3 z.2.2.1.length e3)) 3 (.slice A4 z.2.2.2.length e4);have cC:Blk ((((w5.setCell ⟨gN,0,none⟩ (.slice A1 z.1.length e1)).setCell ⟨gN,1,none⟩ (.slice A2 z.2.1.length e2)).setCell ⟨gN,2,none⟩ (.slice A3 z.2.2.1.length e3)).setCell ⟨gN,3,none⟩ (.slice A4 z.2.2.2.length e4)) gN 32 #[.slice A1 z.1.length e1,.slice A2 z.2.1.length e2,.slice A3 z.2.2.1.length e3,.slice A4 z.2.2.2.length e4,.int .i64 s,.int .i64 p,.int .i64 r]:=(((cB.st 0 _ _ rfl).st 1 _ _ rfl).st 2 _ _ rfl).st 3 _ _ rfl;have D6:=D5.gr dL cW cT cU cV;have bX:=aB.dD oT cB (by decide) (by decide) (by decide) dL;go_upto_region 14 with(fail)
       obtain⟨w6,dT⟩:=TV ((((w5.setCell ⟨gN,0,none⟩ (.slice A1 z.1.length e1)).setCell ⟨gN,1,none⟩ (.slice A2 z.2.1.length e2)).setCell ⟨gN,2,none⟩ (.slice A3 z.2.2.1.length e3)).setCell ⟨gN,3,none⟩ (.slice A4 z.2.2.2.length e4));rw[<-dT]at cC D6 bX⊢;clear dT dL fO eK eL eM eN eP eR eW;cases bb
       . skip;obtain⟨a7,a8,bA,bB,bC,bD,bF⟩:=cC.n7;go_wp2_with (refine aA rfl 32 _ _ rfl gR #[.slice A1 z.1.length e1,.slice A2 z.2.1.length e2,.slice A3 z.2.2.1.length e3,.slice A4 z.2.2.2.length e4,.int .i64 s,.int .i64 p,.int .i64 r] rfl rfl _ _ D6.r (by kernel_rfl) rfl (nP bX.one) ?_;intro wE bE a6)
         have oE:=aB.dD bX D6.r (by decide) (by decide) (by decide) a6;have BE:=D6.B.grown a6 D6.B.size (fun k hk=>by injection hk with hk;subst hk;exact b9);obtain⟨bJ,bK,bL,bN,bO,bR,bU⟩:=bE.n7;refine bodyPost_ret (v:= .tuple #[.agg #[.slice A1 z.1.length e1,.slice A2 z.2.1.length e2,.slice A3 z.2.2.1.length e3,.slice A4 z.2.2.2.length e4,.int .i64 s,.int .i64 p,.int .i64 r],.int .i64 0]) (by simp[results,Ua,go_sem,bJ,bK,bL,bN,bO,bR,bU]) rfl ⟨_,_,_,_,rfl,oE,BE⟩
       . skip;obtain⟨a7,a8,bA,bB,bC,bD,bF⟩:=cC.n7;go_wp2_with (refine aA rfl 32 _ _ rfl gR #[.slice A1 z.1.length e1,.slice A2 z.2.1.length e2,.slice A3 z.2.2.1.length e3,.slice A4 z.2.2.2.length e4,.int .i64 s,.int .i64 p,.int .i64 r] rfl rfl _ _ D6.r (by kernel_rfl) rfl (nP bX.one) ?_;intro wE bE a6)
         have oE:=aB.dD bX D6.r (by decide) (by decide) (by decide) a6;have BE:=D6.B.grown a6 D6.B.size (fun k hk=>by injection hk with hk;subst hk;exact b9);obtain⟨bJ,bK,bL,bN,bO,bR,bU⟩:=bE.n7;refine bodyPost_ret (v:= .tuple #[.agg #[.slice A1 z.1.length e1,.slice A2 z.2.1.length e2,.slice A3 z.2.2.1.length e3,.slice A4 z.2.2.2.length e4,.int .i64 s,.int .i64 p,.int .i64 r],.int .i64 1]) (by simp[results,Ua,go_sem,bJ,bK,bL,bN,bO,bR,bU]) rfl ⟨_,_,_,_,rfl,oE,BE⟩
     . subst e1 e2;obtain⟨a7,a8,bA,bB,bC,bD,bF⟩:=D4.p.n7;obtain⟨bY,b5,b6⟩:=D4.a.n3;go_wp2_with fail
       refine(CD _ (hR.bl D4.B)).mono ?_;rintro e w5 ⟨rfl,bW⟩;have eA:=oO.below bW;have D5:=D4.bl bW;have cB:=cF.bl bW;clear a7 a8 bA bB bC bD bF bY b5 b6 bW;obtain⟨a7,a8,bA,bB,bC,bD,bF⟩:=cB.n7;go_wp2_with (refine aA rfl 32 _ _ rfl gR #[C1,C2,C3,C4,.int .i64 s,.int .i64 p,.int .i64 r] rfl rfl _ _ D5.r (by kernel_rfl) rfl (nP eA.one) ?_;intro wE bE a6)
       have oE:=aB.dD eA D5.r (by decide) (by decide) (by decide) a6;have BE:=D5.B.grown a6 D5.B.size (fun k hk=>by injection hk with hk;subst hk;exact b9);obtain⟨bJ,bK,bL,bN,bO,bR,bU⟩:=bE.n7;refine bodyPost_ret (v:= .tuple #[.agg #[C1,C2,C3,C4,.int .i64 s,.int .i64 p,.int .i64 r],.int .i64 1]) (by simp[results,Ua,go_sem,bJ,bK,bL,bN,bO,bR,bU]) rfl ⟨_,_,_,_,rfl,oE,BE⟩
theorem LY {x z:Fl} {b:Bool} (hs:bZ x) (h:kT x=(z,b)):bZ z:=by
 rcases b with _|_
 . unfold kT at h;split at h
   . cases h
   . injection h with h _;rw[<-h];exact hs
 . exact(GG hs h).2.2.2
theorem BK {y:Wk} (a:Ac) (hs:bZ y.1):bZ (Dt y a).1:=by
 unfold Dt;repeat' split
 . exact nX _ hs
 . exact pE _ hs
 . exact hs
 . exact LY (b:=(kT y.1).2) hs rfl
 . exact hs
 . exact hs
noncomputable def goR (y:Wk) (ns:List Int):List Ac->Wk×List Int
  |[]=>(y,ns)
  |a::l=>goR (Dt y a) (ns++[Cy y a]) l
noncomputable def yE (y:Wk) (l:List Ac):Wk×List Int:=if bV y=true/\l.length<=40 then goR y [] l else(y,[])
theorem P6 {y:Wk} {ns:List Int} {l:List Ac} {k:Nat} (h:k<l.length):goR y ns (l.drop k)=goR (Dt y l[k]) (ns++[Cy y l[k]]) (l.drop (k+1)):=by rw[List.drop_eq_getElem_cons h];rfl
theorem Sc {y:Wk} {ns:List Int} {l:List Ac}:goR y ns (l.drop l.length)=(y,ns):=by rw[List.drop_of_length_le (T9 _)];rfl
def Tp (R:Wk×List Int) (w:World) (e:Ending) (w':World):Prop:=∃u1 u2 u3 u4 A c,e= .returned (.tuple #[.agg #[u1,u2,u3,u4,.int .i64 R.1.2.1,.int .i64 R.1.2.2.1,.int .i64 R.1.2.2.2],.slice A R.2.length c])/\
  aB w.heap.size w' u1 u2 u3 u4 R.1.1/\aD 3 1 bH w.heap.size w' (.slice A R.2.length c) R.2/\(∀g,u1.ownBlock=some g->(Value.slice A R.2.length c).ownBlock≠some g)/\Below w.heap.size w w'
section
variable {W w w' : World} {gP gR : Nat} {cP cR : Array Value} {u1 u2 u3 u4 v : Value} {x : Fl} {B B' : Nat} {ns : List Int}
structure DB (W w:World) (gP gR:Nat) (cP cR:Array Value):Prop where
  B:Below W.heap.size W w
  p:Blk w gP 32 cP
  r:Blk w gR 32 cR
theorem DB.bl (h:DB W w gP gR cP cR) (hb:Below w.heap.size w w'):DB W w' gP gR cP cR:=⟨h.B.tr hb,h.p.bl hb,h.r.bl hb⟩
theorem DB.al (h:DB W w gP gR cP cR) (o:Obj):DB W (w.alloc o) gP gR cP cR:=⟨h.B.al o,h.p.alloc o,h.r.alloc o⟩
theorem DB.gr {g:Nat} (h:DB W w gP gR cP cR) (hg:w.grownBy w' (some g)) (hW:W.heap.size<=g) (h1:gP≠g) (h3:gR≠g):DB W w' gP gR cP cR:=
 ⟨h.B.grown hg h.B.size (fun k hk=>by injection hk with hk;subst hk;exact hW),h.p.grown hg (by simp;exact h1),h.r.grown hg (by simp;exact h3)⟩
theorem DB.alg {o:Obj} (h:DB W w gP gR cP cR) (hg:(w.alloc o).grownBy w' (some w.heap.size)):DB W w' gP gR cP cR:=
 (h.al o).gr hg h.B.size (TZ h.p.lt) (TZ h.r.lt)
theorem DB.app {o:Obj} (h:DB W w gP gR cP cR) (oS:aD 3 1 bH B' w v ns) (hg:(w.alloc o).grownBy w' v.ownBlock) (hB:Below W.heap.size W w'):DB W w' gP gR cP cR:=
 ⟨hB,(h.p.alloc o).grown hg (fun e=>oS.apart h.p (by decide) e.symm),(h.r.alloc o).grown hg (fun e=>oS.apart h.r (by decide) e.symm)⟩
theorem aB.TT {o:Obj} (h:aB B w u1 u2 u3 u4 x) (oS:aD 3 1 bH B' w v ns) (ap:∀g,u1.ownBlock=some g->v.ownBlock≠some g) (hg:(w.alloc o).grownBy w' v.ownBlock):aB B w' u1 u2 u3 u4 x:=
 ⟨(h.a.alloc o).jC (Grown.of hg) (fun g q e=>ap g q e),(h.b.alloc o).jC (Grown.of hg) (fun g q=>h.b.Ep oS (by decide) q),(h.c.alloc o).jC (Grown.of hg) (fun g q=>h.c.Ep oS (by decide) q),(h.d.alloc o).jC (Grown.of hg) (fun g q=>h.d.Ep oS (by decide) q),h.ap⟩
theorem aD.TE {t:TypeId} {cs:Array Value} (h:aD 3 1 bH B w v ns) (h1:3≠t) (hg:(w.alloc (.cells cs t)).grownBy w' (some w.heap.size)):aD 3 1 bH B w' v ns:=aD.yZ (h.alloc _) (Blk.aZ w t cs) h1 hg
theorem aB.newer (h : aB B w' u1 u2 u3 u4 x) (oS : aD 3 1 bH B' w v ns) (hb : w.heap.size <= B) : ∀ g, u1.ownBlock = some g -> v.ownBlock ≠ some g := fun g q e => by
 have:=(h.lt (.inl q)).1;have:=(World.ownsRow.lt oS g e).2;omega
theorem Tq {v' : Value} {n : Nat} (h : aB B w u1 u2 u3 u4 x) (ap : ∀ g, u1.ownBlock = some g -> v.ownBlock ≠ some g) (hd : v'.ownBlock = v.ownBlock ∨ v'.ownBlock = some n) (hn : w.heap.size <= n) : ∀ g, u1.ownBlock = some g -> v'.ownBlock ≠ some g := fun g q e => by
 have h1:=(h.lt (.inl q)).2;rcases hd with d|d
 . exact ap g q (d.symm.trans e)
 . rw[e]at d;injection d with d;omega
end
theorem Tt (w:World) (x:Int):(Instr.buildSlice 24 1 #[(0,.int .i64 x)]).run prog w= .ok (.slice (some ⟨w.heap.size,0,none⟩) 1 1) (w.alloc (.cells #[.int .i64 x] 3)):=by
 obtain⟨ht,a6,hzs,hsz⟩:=fE;obtain⟨i0,hi,hz0,hz1,hz2⟩:=info_parts a6;simp[Instr.buildSlice,run_underlying ht,sizeOf,typeInfo,hi,hz1,hz0,newRow,Instr.fill,Value.cells,Array.range,Array.zipIdx];refine congrArg (fun cs=>w.alloc (Obj.cells cs 3)) (Array.ext (by simp[hz1]) (fun i h1 h2=> ?_));obtain rfl:i=0:=by simpa using h2
 simp
theorem lD {ops:Array Oper} {o:Oper} {a:Act} {w:World} {K:Act->World->Prop} {Q:Exit->Act->World->Prop} {E':Prop} {x:Int} (hgd:o.guard=none) (y:Operand) (ho:o.op= .buildSlice 24 1 #[(0,y)]) (hy:a.eval y= .int .i64 x)
    (h:∀g w',Below w.heap.size w w'->Blk w' g 3 #[.int .i64 x]->w.heap.size<=g->K (a.put o.dst (.slice (some ⟨g,0,none⟩) 1 1)) w'):
    if Region.wanted o (yielded ops a.tmps)=true then Oper.wp prog o a w K Q else E':=by
 have hw:Region.wanted o (yielded ops a.tmps)=true:=(by simp[Region.wanted,hgd]);rw[if_pos hw];have hrun:=Tt w x;unfold Oper.wp execOp;simp only[ho,Sem.run_bind,Sem.run_pure,Result.andThen_ok,List.map_toArray,List.map_cons,List.map_nil,hy,hrun];exact h _ _ ((Below.refl _ _).al _) (Blk.aZ w 3 #[.int .i64 x]) (T9 _)
theorem Tu (w:World) (x y z:Int):(Instr.buildSlice 24 3 #[(0,.int .i64 x),(1,.int .i64 y),(2,.int .i64 z)]).run prog w= .ok (.slice (some ⟨w.heap.size,0,none⟩) 3 3) (w.alloc (.cells #[.int .i64 x,.int .i64 y,.int .i64 z] 3)):=by
 obtain⟨ht,a6,hzs,hsz⟩:=fE;obtain⟨i0,hi,hz0,hz1,hz2⟩:=info_parts a6;simp[Instr.buildSlice,run_underlying ht,sizeOf,typeInfo,hi,hz1,hz0,newRow,Instr.fill,Value.cells,Array.range,Array.zipIdx];refine congrArg (fun cs=>w.alloc (Obj.cells cs 3)) (Array.ext (by simp[hz1]) (fun i h1 h2=> ?_));have h3:i=0∨i=1∨i=2:=by simp at h2;omega
 rw[<-Option.some_inj,<-Array.getElem?_eq_getElem,<-Array.getElem?_eq_getElem];rcases h3 with rfl|rfl|rfl<;>simp[Array.getElem?_setIfInBounds,hz1]
theorem JY {ops:Array Oper} {o:Oper} {a:Act} {w:World} {K:Act->World->Prop} {Q:Exit->Act->World->Prop} {E':Prop} {x y z:Int} (hgd:o.guard=none) (p q r:Operand) (ho:o.op= .buildSlice 24 3 #[(0,p),(1,q),(2,r)]) (hp:a.eval p= .int .i64 x) (hq:a.eval q= .int .i64 y) (hr:a.eval r= .int .i64 z)
    (h:∀g w',Below w.heap.size w w'->aD 3 1 bH w.heap.size w' (.slice (some ⟨g,0,none⟩) 3 3) [x,y,z]->w.heap.size<=g->K (a.put o.dst (.slice (some ⟨g,0,none⟩) 3 3)) w'):
    if Region.wanted o (yielded ops a.tmps)=true then Oper.wp prog o a w K Q else E':=by
 have hw:Region.wanted o (yielded ops a.tmps)=true:=(by simp[Region.wanted,hgd]);rw[if_pos hw];have hrun:=Tu w x y z;unfold Oper.wp execOp;simp only[ho,Sem.run_bind,Sem.run_pure,Result.andThen_ok,List.map_toArray,List.map_cons,List.map_nil,hp,hq,hr,hrun];exact h _ _ ((Below.refl _ _).al _) ⟨by simp[bH],.inr ⟨w.heap.size,3,#[.int .i64 x,.int .i64 y,.int .i64 z],rfl,T9 _,heap_alloc_new w _,by simp,by simp[maxLen],by simp,by simp[bH]⟩⟩ (T9 _)
end Go.Proofs.YtjijonhkofhikaaGreatDoor
