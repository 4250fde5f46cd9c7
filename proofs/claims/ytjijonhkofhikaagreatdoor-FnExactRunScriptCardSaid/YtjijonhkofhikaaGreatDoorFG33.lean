import Derived.Test.YtjijonhkofhikaaGreatDoorFBrk
import Derived.Test.YtjijonhkofhikaaGreatDoorFBuy
open _root_.Nat renaming ne_of_lt->Tm
open _root_.Go.Proofs.Tryz (prog)
open _root_.Go.Proofs.Tryz renaming results27->Tn
set_option linter.unusedVariables false
set_option linter.unusedSimpArgs false
set_option maxHeartbeats 4000000
set_option maxRecDepth 100000
namespace Go.Proofs.YtjijonhkofhikaaGreatDoor
open Go.ChangeShapes Go.WideShapes Go.ChangeAt Go.RowKit
def bI (b:Bool):Int:=if b=true then 1 else 0
abbrev Ac:=Int×Int×Int
def sam:List (Int×Int):=[(6,7),(10,11)]
noncomputable def zT (y:Wk) (a:Ac):Wk:=if(dF y&&jW a.1 a.2.1 a.2.2)=true then(if a.1=1 then(oJ y a.2,y.2)else if a.1=2 then rY y a.2.1 else if a.1=3 then(y.1,GV y sam a.2.1,GX y sam a.2.1,y.2.2.2)else if a.1=4 then((iU y.1).1,y.2)else y)else y
noncomputable def zD (y:Wk) (a:Ac):Int:=if(dF y&&jW a.1 a.2.1 a.2.2)=true then(if a.1=1 then bI (nZ y a.2)else if a.1=2 then FM y a.2.1 else if a.1=3 then bI (tF y sam a.2.1)else if a.1=4 then bI (iU y.1).2 else 1)else-1
theorem QG {y:Wk} {a:Ac} (h:(dF y&&jW a.1 a.2.1 a.2.2)=false):zT y a=y/\zD y a= -1:=by unfold zT zD;rw[h];exact⟨rfl,rfl⟩
theorem M6 {y:Wk} {k a b:Int} (h:dF y=true) (h':jW k a b=true):
 (k=1/\zT y (k,a,b)=(oJ y (a,b),y.2)/\zD y (k,a,b)=bI (nZ y (a,b)))∨(k=2/\zT y (k,a,b)=rY y a/\zD y (k,a,b)=FM y a)∨
 (k=3/\zT y (k,a,b)=(y.1,GV y sam a,GX y sam a,y.2.2.2)/\zD y (k,a,b)=bI (tF y sam a))∨(k=4/\zT y (k,a,b)=((iU y.1).1,y.2)/\zD y (k,a,b)=bI (iU y.1).2)∨
 (k=5/\zT y (k,a,b)=y/\zD y (k,a,b)=1):=by
 have hk:k=1∨k=2∨k=3∨k=4∨k=5:=by
  unfold jW at h';repeat' split at h'
  all_goals simp_all
 unfold zT zD;simp only[h,h',Bool.and_self,if_true];rcases hk with rfl|rfl|rfl|rfl|rfl<;>simp
structure R4 (w:World) (u1 u2 u3 u4:Value) (x:Fl):Prop where
  a:Rd 1 aZ w u1 x.1
  b:Rd 3 aQ w u2 x.2.1
  c:Rd 3 aQ w u3 x.2.2.1
  d:Rd 2 bT w u4 x.2.2.2
section
variable {W w w' : World} {gP gA gR : Nat} {cP cA cR : Array Value} {u1 u2 u3 u4 : Value} {x : Fl}
theorem R4.bl (h:R4 w u1 u2 u3 u4 x) (hb:Below w.heap.size w w'):R4 w' u1 u2 u3 u4 x:=⟨h.a.Tj hb,h.b.Tj hb,h.c.Tj hb,h.d.Tj hb⟩
theorem aB.r4 {B:Nat} (h:aB B w u1 u2 u3 u4 x):R4 w u1 u2 u3 u4 x:=⟨h.ra,h.rb,h.rc,h.rd⟩
theorem aB.alg {B:Nat} {t:TypeId} {cs:Array Value} (h:aB B w u1 u2 u3 u4 x) (h1:3≠t) (h2:99≠t) (h3:83≠t) (hg:(w.alloc (.cells cs t)).grownBy w' (some w.heap.size)):aB B w' u1 u2 u3 u4 x:=
 (h.alloc _).cO (Blk.aX w t cs) h1 h2 h3 hg
structure DA (W w:World) (gP gA gR:Nat) (cP cA cR:Array Value):Prop where
  B:Below W.heap.size W w
  p:Blk w gP 32 cP
  a:Blk w gA 54 cA
  r:Blk w gR 32 cR
theorem DA.bl (h:DA W w gP gA gR cP cA cR) (hb:Below w.heap.size w w'):DA W w' gP gA gR cP cA cR:=⟨h.B.tr hb,h.p.bl hb,h.a.bl hb,h.r.bl hb⟩
theorem DA.al (h:DA W w gP gA gR cP cA cR) (o:Obj):DA W (w.alloc o) gP gA gR cP cA cR:=⟨h.B.al o,h.p.alloc o,h.a.alloc o,h.r.alloc o⟩
theorem DA.gr {g:Nat} (h:DA W w gP gA gR cP cA cR) (hg:w.grownBy w' (some g)) (hW:W.heap.size<=g) (h1:gP≠g) (h2:gA≠g) (h3:gR≠g):DA W w' gP gA gR cP cA cR:=
 ⟨h.B.grown hg h.B.size (fun k hk=>by injection hk with hk;subst hk;exact hW),h.p.grown hg (by simp;exact h1),h.a.grown hg (by simp;exact h2),h.r.grown hg (by simp;exact h3)⟩
theorem DA.alg {o:Obj} (h:DA W w gP gA gR cP cA cR) (hg:(w.alloc o).grownBy w' (some w.heap.size)):DA W w' gP gA gR cP cA cR:=
 (h.al o).gr hg h.B.size (Tm h.p.lt) (Tm h.a.lt) (Tm h.r.lt)
end
def Co (mk:Value->Value) (q:Wk) (w:World) (e:Ending) (w':World):Prop:=∃u1 u2 u3 u4,e= .returned (mk (.agg #[u1,u2,u3,u4,.int .i64 q.2.1,.int .i64 q.2.2.1,.int .i64 q.2.2.2]))/\aB w.heap.size w' u1 u2 u3 u4 q.1/\Below w.heap.size w w'
theorem QH {q : Wk} {n : Int} {w w' : World} {e : Ending} (h : LZ q n w e w') : Co (fun v => .tuple #[v, .int .i64 n]) q w e w' := by
 obtain⟨_,_,_,_,_,_,_,_,h1,h2,h3⟩:=h;exact⟨_,_,_,_,h1,h2,h3⟩
theorem Jg {z : Fl} {s p r : Int} {b : Bool} {w w' : World} {e : Ending} (h : sI z s p r b w e w') : Co (fun v => .tuple #[v, .bool b]) (z, s, p, r) w e w' := by
 obtain⟨_,_,_,_,_,_,_,_,h1,h2,h3⟩:=h;exact⟨_,_,_,_,h1,h2,h3⟩
theorem Jh {z : Fl} {s p r : Int} {w w' : World} {e : Ending} (h : Cx z s p r w e w') : Co (fun v => v) (z, s, p, r) w e w' := by
 obtain⟨_,_,_,_,_,_,_,_,h1,h2,h3⟩:=h;exact⟨_,_,_,_,h1,h2,h3⟩
theorem R4.one {w:World} {u1 u2 u3 u4:Value} {x:Fl} (h:R4 w u1 u2 u3 u4 x):u1.oneCell'=true/\u2.oneCell'=true/\u3.oneCell'=true/\u4.oneCell'=true:=by
 obtain⟨A1,c1,rfl,_⟩:=h.a.form;obtain⟨A2,c2,rfl,_⟩:=h.b.form;obtain⟨A3,c3,rfl,_⟩:=h.c.form;obtain⟨A4,c4,rfl,_⟩:=h.d.form;exact⟨rfl,rfl,rfl,rfl⟩
theorem aB.one {B:Nat} {w:World} {u1 u2 u3 u4:Value} {x:Fl} (h:aB B w u1 u2 u3 u4 x):u1.oneCell'=true/\u2.oneCell'=true/\u3.oneCell'=true/\u4.oneCell'=true:=h.r4.one
theorem mV {u1 u2 u3 u4:Value} {s p r:Int} (h:u1.oneCell'=true/\u2.oneCell'=true/\u3.oneCell'=true/\u4.oneCell'=true):(#[u1,u2,u3,u4,.int .i64 s,.int .i64 p,.int .i64 r]:Array Value).all (·.oneCell')=true:=by
 obtain⟨a,b,c,d⟩:=h;simp only[List.all_toArray,List.all_cons,a,b,c,d,List.all_nil,Bool.and_true,Bool.true_and];rfl
theorem LC (u1 u2 u3 u4:Value) (x:Fl) (s p r k a b:Int) (w:World) (h1:Rd 1 aZ w u1 x.1) (h2:Rd 3 aQ w u2 x.2.1) (h3:Rd 3 aQ w u3 x.2.2.1) (h4:Rd 2 bT w u4 x.2.2.2) (hs:bQ x) (ht:Tab w):
 Calls prog 27 #[.agg #[u1,u2,u3,u4,.int .i64 s,.int .i64 p,.int .i64 r],.agg #[.int .i64 k,.int .i64 a,.int .i64 b]] w (Co (fun v=> .tuple #[v,.int .i64 (zD (x,s,p,r) (k,a,b))]) (zT (x,s,p,r) (k,a,b)) w):=by
 have dT:=Tk ht;clear ht;obtain⟨q,hq⟩:=Ti (zT (x,s,p,r) (k,a,b));obtain⟨n,hn⟩:=Ti (zD (x,s,p,r) (k,a,b));obtain⟨kk,cH⟩:=Ti (dF (x,s,p,r));obtain⟨ao,hao⟩:=Ti (jW k a b);have hno:= @QG (x,s,p,r) (k,a,b);have b5:= @M6 (x,s,p,r) k a b;simp only at hno b5;rw[<-hq,<-hn]at hno b5⊢;rw[<-cH,<-hao]at hno b5;have CK:∀w,R4 w u1 u2 u3 u4 x->Calls prog 26 #[.agg #[u1,u2,u3,u4,.int .i64 s,.int .i64 p,.int .i64 r]] w (Ret (.bool kk) w):=fun w h=>by rw[cH];exact iM _ _ _ _ (x,s,p,r) w h.a h.b h.c h.d hs.2.1
 have CA:∀w,Calls prog 44 #[.agg #[.int .i64 k,.int .i64 a,.int .i64 b]] w (Ret (.bool ao) w):=fun w=>by rw[hao];exact mR k a b w
 have CC:∀w,R4 w u1 u2 u3 u4 x->Calls prog 25 #[.agg #[u1,u2,u3,u4,.int .i64 s,.int .i64 p,.int .i64 r]] w (Co (fun v=>v) (x,s,p,r) w):=fun w h=>(lH _ _ _ _ x s p r w h.a h.b h.c h.d hs).mono fun _ _=>Jh
 have CT:∀w,R4 w u1 u2 u3 u4 x->Calls prog 52 #[.agg #[u1,u2,u3,u4,.int .i64 s,.int .i64 p,.int .i64 r],.agg #[.int .i64 a,.int .i64 b]] w (Co (fun v=> .tuple #[v,.bool (nZ (x,s,p,r) (a,b))]) (oJ (x,s,p,r) (a,b),s,p,r) w):=fun w h=>(NL _ _ _ _ x s p r a b w h.a h.b h.c h.d hs).mono fun _ _=>Jg
 have CB:∀w,R4 w u1 u2 u3 u4 x->Tab w->Calls prog 53 #[.agg #[u1,u2,u3,u4,.int .i64 s,.int .i64 p,.int .i64 r],.int .i64 a] w (Co (fun v=> .tuple #[v,.int .i64 (FM (x,s,p,r) a)]) (rY (x,s,p,r) a) w):=fun w h ht=>(PR _ _ _ _ x s p r a w h.a h.b h.c h.d hs ht).mono fun _ _=>QH
 have CY:∀w u,R4 w u1 u2 u3 u4 x->Rd 2 bT w u sam->Calls prog 54 #[.agg #[u1,u2,u3,u4,.int .i64 s,.int .i64 p,.int .i64 r],u,.int .i64 a] w (Co (fun v=> .tuple #[v,.bool (tF (x,s,p,r) sam a)]) (x,GV (x,s,p,r) sam a,GX (x,s,p,r) sam a,r) w):=fun w u h hu=>(PW _ _ _ _ u x s p r sam a w h.a h.b h.c h.d hu hs).mono fun _ _=>Jg
 have CU:∀w,R4 w u1 u2 u3 u4 x->Calls prog 56 #[.agg #[u1,u2,u3,u4]] w (kW (iU x).1 (iU x).2 w):=fun w h=>Gh _ _ _ _ x w h.a h.b h.c h.d hs
 have CD:∀w,R4 w u1 u2 u3 u4 x->Calls prog 57 #[.agg #[u1,u2,u3,u4,.int .i64 s,.int .i64 p,.int .i64 r]] w (Ret (.bool kk) w):=fun w h=>by rw[cH];exact Lc _ _ _ _ x s p r w h.a h.b h.c h.d hs
 have CS:∀w,Calls prog 55 #[] w (fM 134 2 dM sam w):=fun w=>Jl w
 have HN:=Tk hno;have HY:=Tk b5;have hR:R4 w u1 u2 u3 u4 x:=⟨h1,h2,h3,h4⟩;clear hq hn cH hao hno b5 h1 h2 h3 h4
 have D0:DA w (((w.alloc (.cells #[u1,u2,u3,u4,.int .i64 s,.int .i64 p,.int .i64 r] 32)).alloc (.cells #[.int .i64 k,.int .i64 a,.int .i64 b] 54)).alloc (.cells #[.slice none 0 0,.slice none 0 0,.slice none 0 0,.slice none 0 0,.int .i64 0,.int .i64 0,.int .i64 0] 32)) w.heap.size (w.heap.size+1) (w.heap.size+1+1) #[u1,u2,u3,u4,.int .i64 s,.int .i64 p,.int .i64 r] #[.int .i64 k,.int .i64 a,.int .i64 b] #[.slice none 0 0,.slice none 0 0,.slice none 0 0,.slice none 0 0,.int .i64 0,.int .i64 0,.int .i64 0]:=
  ⟨(((Below.refl w.heap.size w).al _).al _).al _,((Blk.aX w _ _).alloc _).alloc _,(Blk.gI (w.alloc _) _ _ (w.heap.size+1) (by simp)).alloc _,Blk.gI ((w.alloc _).alloc _) _ _ (w.heap.size+1+1) (by simp)⟩
 go_enter Tryz.func27,Tryz.ntmps27
 go_wp2_with fail
 obtain⟨W0,hW0⟩:=Ti (((w.alloc (.cells #[u1,u2,u3,u4,.int .i64 s,.int .i64 p,.int .i64 r] 32)).alloc (.cells #[.int .i64 k,.int .i64 a,.int .i64 b] 54)).alloc (.cells #[.slice none 0 0,.slice none 0 0,.slice none 0 0,.slice none 0 0,.int .i64 0,.int .i64 0,.int .i64 0] 32));obtain⟨gP,cK⟩:=Ti w.heap.size;obtain⟨gA,cL⟩:=Ti (w.heap.size+1);obtain⟨gR,cC⟩:=Ti (w.heap.size+1+1);rw[<-hW0,<-cC,<-cL,<-cK]at D0;rw[<-hW0,<-cC,<-cL,<-cK];have b7:w.heap.size<=gR:=(by omega);have eA:gP≠gR:=(by omega);have eC:gA≠gR:=(by omega);have eE:gP≠gA:=(by omega);clear hW0 cK cL cC;refine(CK _ (hR.bl D0.B)).mono ?_;rintro e w1 ⟨rfl,hb1⟩;have D1:=D0.bl hb1;clear D0 hb1;cases kk
 . skip;obtain⟨rfl,rfl⟩:=HN.out (by first|rfl|trivial);obtain⟨a7,a8,bA,bB,bC,bD,bF⟩:=D1.p.n7;go_wp2_with fail
   refine(CC _ (hR.bl D1.B)).mono ?_;rintro e w9 ⟨C1,C2,C3,C4,rfl,oO,cM⟩;have D9:=D1.bl cM;have oO:=oO.mono D1.B.size;clear a7 a8 bA bB bC bD bF;go_wp2_with (refine aA rfl 32 _ _ rfl gR #[C1,C2,C3,C4,.int .i64 s,.int .i64 p,.int .i64 r] rfl rfl _ _ D9.r (by kernel_rfl) rfl (mV oO.one) ?_;intro wE bE a6)
   have oE:=aB.cO oO D9.r (by decide) (by decide) (by decide) a6;have BE:=D9.B.grown a6 D9.B.size (fun k hk=>by injection hk with hk;subst hk;exact b7);obtain⟨bJ,bK,bL,bM,bN,bO,bP⟩:=bE.n7;refine bodyPost_ret (v:= .tuple #[.agg #[C1,C2,C3,C4,.int .i64 s,.int .i64 p,.int .i64 r],.int .i64 (-1)]) (by simp[results,Tn,go_sem,bJ,bK,bL,bM,bN,bO,bP]) rfl ⟨_,_,_,_,rfl,oE,BE⟩
 . obtain⟨bU,bX,bY⟩:=D1.a.n3;go_wp2_with fail
   refine(CA _).mono ?_;rintro e w2 ⟨rfl,hb2⟩;have D2:=D1.bl hb2;clear D1 hb2 bU bX bY;cases ao
   . skip;obtain⟨rfl,rfl⟩:=HN.out (by first|rfl|trivial);obtain⟨a7,a8,bA,bB,bC,bD,bF⟩:=D2.p.n7;go_wp2_with fail
     refine(CC _ (hR.bl D2.B)).mono ?_;rintro e w9 ⟨C1,C2,C3,C4,rfl,oO,cM⟩;have D9:=D2.bl cM;have oO:=oO.mono D2.B.size;clear a7 a8 bA bB bC bD bF;go_wp2_with (refine aA rfl 32 _ _ rfl gR #[C1,C2,C3,C4,.int .i64 s,.int .i64 p,.int .i64 r] rfl rfl _ _ D9.r (by kernel_rfl) rfl (mV oO.one) ?_;intro wE bE a6)
     have oE:=aB.cO oO D9.r (by decide) (by decide) (by decide) a6;have BE:=D9.B.grown a6 D9.B.size (fun k hk=>by injection hk with hk;subst hk;exact b7);obtain⟨bJ,bK,bL,bM,bN,bO,bP⟩:=bE.n7;refine bodyPost_ret (v:= .tuple #[.agg #[C1,C2,C3,C4,.int .i64 s,.int .i64 p,.int .i64 r],.int .i64 (-1)]) (by simp[results,Tn,go_sem,bJ,bK,bL,bM,bN,bO,bP]) rfl ⟨_,_,_,_,rfl,oE,BE⟩
   . obtain⟨a7,a8,bA,bB,bC,bD,bF⟩:=D2.p.n7;go_wp2_with fail
     refine(CC _ (hR.bl D2.B)).mono ?_;rintro e w3 ⟨C1,C2,C3,C4,rfl,oO,hb3⟩;have D3:=D2.bl hb3;have oO:=oO.mono D2.B.size;clear a7 a8 bA bB bC bD bF D2 hb3;go_upto_region 6 with(refine aA rfl 32 _ _ rfl w3.heap.size #[C1,C2,C3,C4,.int .i64 s,.int .i64 p,.int .i64 r] rfl rfl _ _ (Blk.aX w3 32 #[.slice none 0 0,.slice none 0 0,.slice none 0 0,.slice none 0 0,.int .i64 0,.int .i64 0,.int .i64 0]) (by kernel_rfl) rfl (mV oO.one) ?_;intro w4 cD hg4;have D4:=D3.alg hg4;have oO:=aB.alg oO (by decide) (by decide) (by decide) hg4;obtain⟨bU,bX,bY⟩:=D4.a.n3)
     obtain⟨gN,cF⟩:=Ti w3.heap.size;have cN:gP≠gN:=by have:=D3.p.lt;omega
     have cQ:gA≠gN:=by have:=D3.a.lt;omega
     have cT:gR≠gN:=by have:=D3.r.lt;omega
     have cU:w.heap.size<=gN:=by have:=D3.B.size;omega
     rw[<-cF]at cD⊢;clear cF hg4 D3 bU bX bY;rcases HY.out (by first|rfl|trivial) (by first|rfl|trivial)with⟨rfl,e1,e2⟩|⟨rfl,e1,e2⟩|⟨rfl,e1,e2⟩|⟨rfl,e1,e2⟩|⟨rfl,e1,e2⟩
     . obtain⟨z,hz⟩:=Ti (oJ (x,s,p,r) (a,b));obtain⟨bb,cE⟩:=Ti (nZ (x,s,p,r) (a,b));rw[<-hz,<-cE]at CT;rw[<-hz]at e1;rw[<-cE]at e2;subst e1 e2;clear hz cE;obtain⟨a7,a8,bA,bB,bC,bD,bF⟩:=D4.p.n7;obtain⟨bU,bX,bY⟩:=D4.a.n3;go_wp2_with fail
       refine(CT _ (hR.bl D4.B)).mono ?_;rintro e w5 ⟨E1,E2,E3,E4,rfl,oT,bR⟩;have D5:=D4.bl bR;have b8:=cD.bl bR;clear a7 a8 bA bB bC bD bF bU bX bY bR;have oT:=oT.mono D4.B.size;go_upto_region 14 with(refine aA rfl 32 _ _ rfl gN #[E1,E2,E3,E4,.int .i64 s,.int .i64 p,.int .i64 r] rfl rfl _ _ b8 (by kernel_rfl) rfl (mV oT.one) ?_;intro w6 b9 cG)
       have D6:=D5.gr cG cU cN cQ cT;have bS:=aB.cO oT b8 (by decide) (by decide) (by decide) cG;cases bb
       . skip;obtain⟨a7,a8,bA,bB,bC,bD,bF⟩:=b9.n7;go_wp2_with (refine aA rfl 32 _ _ rfl gR #[E1,E2,E3,E4,.int .i64 s,.int .i64 p,.int .i64 r] rfl rfl _ _ D6.r (by kernel_rfl) rfl (mV bS.one) ?_;intro wE bE a6)
         have oE:=aB.cO bS D6.r (by decide) (by decide) (by decide) a6;have BE:=D6.B.grown a6 D6.B.size (fun k hk=>by injection hk with hk;subst hk;exact b7);obtain⟨bJ,bK,bL,bM,bN,bO,bP⟩:=bE.n7;refine bodyPost_ret (v:= .tuple #[.agg #[E1,E2,E3,E4,.int .i64 s,.int .i64 p,.int .i64 r],.int .i64 0]) (by simp[results,Tn,go_sem,bJ,bK,bL,bM,bN,bO,bP]) rfl ⟨_,_,_,_,rfl,oE,BE⟩
       . skip;obtain⟨a7,a8,bA,bB,bC,bD,bF⟩:=b9.n7;go_wp2_with (refine aA rfl 32 _ _ rfl gR #[E1,E2,E3,E4,.int .i64 s,.int .i64 p,.int .i64 r] rfl rfl _ _ D6.r (by kernel_rfl) rfl (mV bS.one) ?_;intro wE bE a6)
         have oE:=aB.cO bS D6.r (by decide) (by decide) (by decide) a6;have BE:=D6.B.grown a6 D6.B.size (fun k hk=>by injection hk with hk;subst hk;exact b7);obtain⟨bJ,bK,bL,bM,bN,bO,bP⟩:=bE.n7;refine bodyPost_ret (v:= .tuple #[.agg #[E1,E2,E3,E4,.int .i64 s,.int .i64 p,.int .i64 r],.int .i64 1]) (by simp[results,Tn,go_sem,bJ,bK,bL,bM,bN,bO,bP]) rfl ⟨_,_,_,_,rfl,oE,BE⟩
     . obtain⟨⟨z,s2,p2,r2⟩,hz⟩:∃z,z=rY (x,s,p,r) a:=⟨_,rfl⟩;have hm:=e2;rw[<-hz]at CB e1;rw[<-e2]at CB;subst e1;clear hz hm e2;obtain⟨a7,a8,bA,bB,bC,bD,bF⟩:=D4.p.n7;obtain⟨bU,bX,bY⟩:=D4.a.n3;go_wp2_with fail
       refine(CB _ (hR.bl D4.B) (dT.out.below D4.B)).mono ?_;rintro e w5 ⟨E1,E2,E3,E4,rfl,oT,bR⟩;have D5:=D4.bl bR;have b8:=cD.bl bR;clear a7 a8 bA bB bC bD bF bU bX bY bR;have oT:=oT.mono D4.B.size;go_wp2_with (refine aA rfl 32 _ _ rfl gR #[E1,E2,E3,E4,.int .i64 s2,.int .i64 p2,.int .i64 r2] rfl rfl _ _ D5.r (by kernel_rfl) rfl (mV oT.one) ?_;intro wE bE a6)
       have oE:=aB.cO oT D5.r (by decide) (by decide) (by decide) a6;have BE:=D5.B.grown a6 D5.B.size (fun k hk=>by injection hk with hk;subst hk;exact b7);obtain⟨bJ,bK,bL,bM,bN,bO,bP⟩:=bE.n7;refine bodyPost_ret (v:= .tuple #[.agg #[E1,E2,E3,E4,.int .i64 s2,.int .i64 p2,.int .i64 r2],.int .i64 n]) (by simp[results,Tn,go_sem,bJ,bK,bL,bM,bN,bO,bP]) rfl ⟨_,_,_,_,rfl,oE,BE⟩
     . skip;obtain⟨ss,cV⟩:=Ti (GV (x,s,p,r) sam a);obtain⟨pp,cW⟩:=Ti (GX (x,s,p,r) sam a);obtain⟨bb,cE⟩:=Ti (tF (x,s,p,r) sam a);rw[<-cV,<-cW,<-cE]at CY;rw[<-cV,<-cW]at e1;rw[<-cE]at e2;subst e1 e2;clear cV cW cE;obtain⟨a7,a8,bA,bB,bC,bD,bF⟩:=D4.p.n7;obtain⟨bU,bX,bY⟩:=D4.a.n3;have eR:=D4.p.lt;have eW:=D4.a.lt;have Bw:Below w4.heap.size w4 w4.drew:=(Below.refl _ _).drew;have hz:w4.heap.size<=w4.drew.heap.size:=(by simp);go_wp2_with fail
       refine rB (fun w'=>w'.cell? ⟨gP,0,none⟩=some u1/\w'.cell? ⟨gP,1,none⟩=some u2/\w'.cell? ⟨gP,2,none⟩=some u3/\w'.cell? ⟨gP,3,none⟩=some u4/\w'.cell? ⟨gP,4,none⟩=some (.int .i64 s)/\w'.cell? ⟨gP,5,none⟩=some (.int .i64 p)/\w'.cell? ⟨gP,6,none⟩=some (.int .i64 r)/\w'.cell? ⟨gA,1,none⟩=some (.int .i64 a)) fun hHeld=>(tW 0)<|(tW 2)<|(tW 3)<|(tR [1])<|tL fun K hK=>?_
       go_simp
       (first|(go_at_call 55;go_must (refine(CS _).mono ?_;rintro e wX ⟨AS,cS,rfl,oS,b6⟩;obtain⟨cI,cJ,cB⟩:=bkn b6 w4.heap.size hz;have hz:=cB;have Bw:=Bw.tr b6);(try go_wp2_with fail))|(go_at_call 54;go_must (refine(CY _ _ (hR.bl (D4.B.tr Bw)) (oS.rd IM (by decide))).mono ?_;rintro e wX ⟨E1,E2,E3,E4,rfl,oT,b6⟩;have oT:=oT.mono (D4.B.tr Bw).size;obtain⟨cI,cJ,cB⟩:=bkn b6 w4.heap.size hz;have hz:=cB;have Bw:=Bw.tr b6);(try go_wp2_with fail)))
       refine tK hK fun hHeld=>?_
       clear hK K;refine(tR [4])<|tL fun K hK=>?_
       go_simp
       (first|(go_at_call 55;go_must (refine(CS _).mono ?_;rintro e wX ⟨AS,cS,rfl,oS,b6⟩;obtain⟨cI,cJ,cB⟩:=bkn b6 w4.heap.size hz;have hz:=cB;have Bw:=Bw.tr b6);(try go_wp2_with fail))|(go_at_call 54;go_must (refine(CY _ _ (hR.bl (D4.B.tr Bw)) (oS.rd IM (by decide))).mono ?_;rintro e wX ⟨E1,E2,E3,E4,rfl,oT,b6⟩;have oT:=oT.mono (D4.B.tr Bw).size;obtain⟨cI,cJ,cB⟩:=bkn b6 w4.heap.size hz;have hz:=cB;have Bw:=Bw.tr b6);(try go_wp2_with fail)))
       refine tK hK fun hHeld=>?_
       clear hK K;refine(tW 5)<|(tW 6)<|(tW 7)<|(tR [8])<|tL fun K hK=>?_
       (refine aK rfl 32 _ _ rfl gN #[E1,E2,E3,E4,.int .i64 ss,.int .i64 pp,.int .i64 r] rfl rfl _ _ (cD.bl Bw) (by kernel_rfl) rfl (mV oT.one) ?_;intro w6 b9 cG;have D6:=(D4.bl Bw).gr cG cU cN cQ cT;have bS:=aB.cO oT (cD.bl Bw) (by decide) (by decide) (by decide) cG;obtain⟨e5,e6,e7,e8,e9,fD,fL⟩:=D6.p.n7;obtain⟨fN,fR,fS⟩:=D6.a.n3)
       refine tK hK fun hHeld=>?_
       clear hK K;refine(tW 9)<|tD ?_;clear hHeld hz cI cJ cB;cases bb
       . skip;obtain⟨a7,a8,bA,bB,bC,bD,bF⟩:=b9.n7;go_wp2_with (refine aA rfl 32 _ _ rfl gR #[E1,E2,E3,E4,.int .i64 ss,.int .i64 pp,.int .i64 r] rfl rfl _ _ D6.r (by kernel_rfl) rfl (mV bS.one) ?_;intro wE bE a6)
         have oE:=aB.cO bS D6.r (by decide) (by decide) (by decide) a6;have BE:=D6.B.grown a6 D6.B.size (fun k hk=>by injection hk with hk;subst hk;exact b7);obtain⟨bJ,bK,bL,bM,bN,bO,bP⟩:=bE.n7;refine bodyPost_ret (v:= .tuple #[.agg #[E1,E2,E3,E4,.int .i64 ss,.int .i64 pp,.int .i64 r],.int .i64 0]) (by simp[results,Tn,go_sem,bJ,bK,bL,bM,bN,bO,bP]) rfl ⟨_,_,_,_,rfl,oE,BE⟩
       . skip;obtain⟨a7,a8,bA,bB,bC,bD,bF⟩:=b9.n7;go_wp2_with (refine aA rfl 32 _ _ rfl gR #[E1,E2,E3,E4,.int .i64 ss,.int .i64 pp,.int .i64 r] rfl rfl _ _ D6.r (by kernel_rfl) rfl (mV bS.one) ?_;intro wE bE a6)
         have oE:=aB.cO bS D6.r (by decide) (by decide) (by decide) a6;have BE:=D6.B.grown a6 D6.B.size (fun k hk=>by injection hk with hk;subst hk;exact b7);obtain⟨bJ,bK,bL,bM,bN,bO,bP⟩:=bE.n7;refine bodyPost_ret (v:= .tuple #[.agg #[E1,E2,E3,E4,.int .i64 ss,.int .i64 pp,.int .i64 r],.int .i64 1]) (by simp[results,Tn,go_sem,bJ,bK,bL,bM,bN,bO,bP]) rfl ⟨_,_,_,_,rfl,oE,BE⟩
     . obtain⟨⟨z,bb⟩,hz⟩:∃z,z=iU x:=⟨_,rfl⟩;rw[<-hz]at CU e1 e2;simp only at CU e1 e2;subst e1 e2;clear hz;obtain⟨a7,a8,bA,bB,bC,bD,bF⟩:=D4.p.n7;obtain⟨bU,bX,bY⟩:=D4.a.n3;go_wp2_with fail
       refine(CU _ (hR.bl D4.B)).mono ?_;rintro e w5 ⟨A1,e1,A2,e2,A3,e3,A4,e4,rfl,oT,bR⟩;have D5:=D4.bl bR;have b8:=cD.bl bR;clear a7 a8 bA bB bC bD bF bU bX bY bR;have oT:=oT.mono D4.B.size;obtain⟨eI,eJ,eK,eL,eM,eN,eP⟩:=b8.n7;have fO:=fun j=>b8.frozen j
       have cX:=dB (dB (dB (dB (World.grownBy.refl w5 (some gN)) 0 (.slice A1 z.1.length e1)) 1 (.slice A2 z.2.1.length e2)) 2 (.slice A3 z.2.2.1.length e3)) 3 (.slice A4 z.2.2.2.length e4);have b9:Blk ((((w5.setCell ⟨gN,0,none⟩ (.slice A1 z.1.length e1)).setCell ⟨gN,1,none⟩ (.slice A2 z.2.1.length e2)).setCell ⟨gN,2,none⟩ (.slice A3 z.2.2.1.length e3)).setCell ⟨gN,3,none⟩ (.slice A4 z.2.2.2.length e4)) gN 32 #[.slice A1 z.1.length e1,.slice A2 z.2.1.length e2,.slice A3 z.2.2.1.length e3,.slice A4 z.2.2.2.length e4,.int .i64 s,.int .i64 p,.int .i64 r]:=(((b8.st 0 _ _ rfl).st 1 _ _ rfl).st 2 _ _ rfl).st 3 _ _ rfl;have D6:=D5.gr cX cU cN cQ cT;have bS:=aB.cO oT b8 (by decide) (by decide) (by decide) cX;go_upto_region 14 with(fail)
       obtain⟨w6,cY⟩:=Ti ((((w5.setCell ⟨gN,0,none⟩ (.slice A1 z.1.length e1)).setCell ⟨gN,1,none⟩ (.slice A2 z.2.1.length e2)).setCell ⟨gN,2,none⟩ (.slice A3 z.2.2.1.length e3)).setCell ⟨gN,3,none⟩ (.slice A4 z.2.2.2.length e4));rw[<-cY]at b9 D6 bS⊢;clear cY cX fO eI eJ eK eL eM eN eP;cases bb
       . skip;obtain⟨a7,a8,bA,bB,bC,bD,bF⟩:=b9.n7;go_wp2_with (refine aA rfl 32 _ _ rfl gR #[.slice A1 z.1.length e1,.slice A2 z.2.1.length e2,.slice A3 z.2.2.1.length e3,.slice A4 z.2.2.2.length e4,.int .i64 s,.int .i64 p,.int .i64 r] rfl rfl _ _ D6.r (by kernel_rfl) rfl (mV bS.one) ?_;intro wE bE a6)
         have oE:=aB.cO bS D6.r (by decide) (by decide) (by decide) a6;have BE:=D6.B.grown a6 D6.B.size (fun k hk=>by injection hk with hk;subst hk;exact b7);obtain⟨bJ,bK,bL,bM,bN,bO,bP⟩:=bE.n7;refine bodyPost_ret (v:= .tuple #[.agg #[.slice A1 z.1.length e1,.slice A2 z.2.1.length e2,.slice A3 z.2.2.1.length e3,.slice A4 z.2.2.2.length e4,.int .i64 s,.int .i64 p,.int .i64 r],.int .i64 0]) (by simp[results,Tn,go_sem,bJ,bK,bL,bM,bN,bO,bP]) rfl ⟨_,_,_,_,rfl,oE,BE⟩
       . skip;obtain⟨a7,a8,bA,bB,bC,bD,bF⟩:=b9.n7;go_wp2_with (refine aA rfl 32 _ _ rfl gR #[.slice A1 z.1.length e1,.slice A2 z.2.1.length e2,.slice A3 z.2.2.1.length e3,.slice A4 z.2.2.2.length e4,.int .i64 s,.int .i64 p,.int .i64 r] rfl rfl _ _ D6.r (by kernel_rfl) rfl (mV bS.one) ?_;intro wE bE a6)
         have oE:=aB.cO bS D6.r (by decide) (by decide) (by decide) a6;have BE:=D6.B.grown a6 D6.B.size (fun k hk=>by injection hk with hk;subst hk;exact b7);obtain⟨bJ,bK,bL,bM,bN,bO,bP⟩:=bE.n7;refine bodyPost_ret (v:= .tuple #[.agg #[.slice A1 z.1.length e1,.slice A2 z.2.1.length e2,.slice A3 z.2.2.1.length e3,.slice A4 z.2.2.2.length e4,.int .i64 s,.int .i64 p,.int .i64 r],.int .i64 1]) (by simp[results,Tn,go_sem,bJ,bK,bL,bM,bN,bO,bP]) rfl ⟨_,_,_,_,rfl,oE,BE⟩
     . subst e1 e2;obtain⟨a7,a8,bA,bB,bC,bD,bF⟩:=D4.p.n7;obtain⟨bU,bX,bY⟩:=D4.a.n3;go_wp2_with fail
       refine(CD _ (hR.bl D4.B)).mono ?_;rintro e w5 ⟨rfl,bR⟩;have dL:=oO.below bR;have D5:=D4.bl bR;have b8:=cD.bl bR;clear a7 a8 bA bB bC bD bF bU bX bY bR;obtain⟨a7,a8,bA,bB,bC,bD,bF⟩:=b8.n7;go_wp2_with (refine aA rfl 32 _ _ rfl gR #[C1,C2,C3,C4,.int .i64 s,.int .i64 p,.int .i64 r] rfl rfl _ _ D5.r (by kernel_rfl) rfl (mV dL.one) ?_;intro wE bE a6)
       have oE:=aB.cO dL D5.r (by decide) (by decide) (by decide) a6;have BE:=D5.B.grown a6 D5.B.size (fun k hk=>by injection hk with hk;subst hk;exact b7);obtain⟨bJ,bK,bL,bM,bN,bO,bP⟩:=bE.n7;refine bodyPost_ret (v:= .tuple #[.agg #[C1,C2,C3,C4,.int .i64 s,.int .i64 p,.int .i64 r],.int .i64 1]) (by simp[results,Tn,go_sem,bJ,bK,bL,bM,bN,bO,bP]) rfl ⟨_,_,_,_,rfl,oE,BE⟩
end Go.Proofs.YtjijonhkofhikaaGreatDoor
