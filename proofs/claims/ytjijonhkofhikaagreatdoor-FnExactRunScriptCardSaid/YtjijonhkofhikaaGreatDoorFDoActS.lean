import Derived.Test.YtjijonhkofhikaaGreatDoorFG33
open _root_.Go.Proofs.Tryz (prog)
open _root_.Go.Proofs.Tryz renaming results70->Tm
set_option linter.unusedVariables false
set_option linter.unusedSimpArgs false
set_option maxHeartbeats 4000000
set_option maxRecDepth 100000
namespace Go.Proofs.YtjijonhkofhikaaGreatDoor
open Go.ChangeShapes Go.WideShapes Go.ChangeAt Go.RowKit
theorem xO (b:Bool) (w:World):Calls prog 117 #[.bool b] w (Pure (.int .i64 (bI b)) w):=by
 go_enter Tryz.func117,Tryz.ntmps117
 cases b<;>go_wp2<;>go_ret<;>exact⟨rfl,rfl⟩
theorem LD (u1 u2 u3 u4:Value) (x:Fl) (s p r k a b:Int) (w:World) (h1:Rd 1 aZ w u1 x.1) (h2:Rd 3 aQ w u2 x.2.1) (h3:Rd 3 aQ w u3 x.2.2.1) (h4:Rd 2 bT w u4 x.2.2.2) (hs:bQ x):
 Calls prog 70 #[.agg #[u1,u2,u3,u4,.int .i64 s,.int .i64 p,.int .i64 r],.agg #[.int .i64 k,.int .i64 a,.int .i64 b]] w (Co (fun v=> .tuple #[v,.int .i64 (zD (x,s,p,r) (k,a,b))]) (zT (x,s,p,r) (k,a,b)) w):=by
 obtain⟨q,hq⟩:=Ti (zT (x,s,p,r) (k,a,b));obtain⟨n,hn⟩:=Ti (zD (x,s,p,r) (k,a,b));obtain⟨kk,cH⟩:=Ti (dF (x,s,p,r));obtain⟨ao,hao⟩:=Ti (jW k a b);have hno:= @QG (x,s,p,r) (k,a,b);have b5:= @M6 (x,s,p,r) k a b;simp only at hno b5;rw[<-hq,<-hn]at hno b5⊢;rw[<-cH,<-hao]at hno b5;have CK:∀w,R4 w u1 u2 u3 u4 x->Calls prog 69 #[.agg #[u1,u2,u3,u4,.int .i64 s,.int .i64 p,.int .i64 r]] w (Ret (.bool kk) w):=fun w h=>by rw[cH];exact fA _ _ _ _ (x,s,p,r) w h.a h.b h.c h.d hs.2.1
 have CA:∀w,Calls prog 111 #[.agg #[.int .i64 k,.int .i64 a,.int .i64 b]] w (Ret (.bool ao) w):=fun w=>by rw[hao];exact mU k a b w
 have CC:∀w,R4 w u1 u2 u3 u4 x->Calls prog 68 #[.agg #[u1,u2,u3,u4,.int .i64 s,.int .i64 p,.int .i64 r]] w (Co (fun v=>v) (x,s,p,r) w):=fun w h=>(lI _ _ _ _ x s p r w h.a h.b h.c h.d hs).mono fun _ _=>Jh
 have CT:∀w,R4 w u1 u2 u3 u4 x->Calls prog 80 #[.agg #[u1,u2,u3,u4,.int .i64 s,.int .i64 p,.int .i64 r],.agg #[.int .i64 a,.int .i64 b]] w (Co (fun v=> .tuple #[v,.bool (nZ (x,s,p,r) (a,b))]) (oJ (x,s,p,r) (a,b),s,p,r) w):=fun w h=>(NM _ _ _ _ x s p r a b w h.a h.b h.c h.d hs).mono fun _ _=>Jg
 have CB:∀w,R4 w u1 u2 u3 u4 x->Calls prog 78 #[.agg #[u1,u2,u3,u4,.int .i64 s,.int .i64 p,.int .i64 r],.int .i64 a] w (Co (fun v=> .tuple #[v,.int .i64 (FM (x,s,p,r) a)]) (rY (x,s,p,r) a) w):=fun w h=>(PS _ _ _ _ x s p r a w h.a h.b h.c h.d hs).mono fun _ _=>QH
 have CY:∀w u,R4 w u1 u2 u3 u4 x->Rd 2 bT w u sam->Calls prog 77 #[.agg #[u1,u2,u3,u4,.int .i64 s,.int .i64 p,.int .i64 r],u,.int .i64 a] w (Co (fun v=> .tuple #[v,.bool (tF (x,s,p,r) sam a)]) (x,GV (x,s,p,r) sam a,GX (x,s,p,r) sam a,r) w):=fun w u h hu=>(PX _ _ _ _ u x s p r sam a w h.a h.b h.c h.d hu hs).mono fun _ _=>Jg
 have CU:∀w,R4 w u1 u2 u3 u4 x->Calls prog 115 #[.agg #[u1,u2,u3,u4]] w (kW (iU x).1 (iU x).2 w):=fun w h=>Gl _ _ _ _ x w h.a h.b h.c h.d hs
 have CD:∀w,R4 w u1 u2 u3 u4 x->Calls prog 116 #[.agg #[u1,u2,u3,u4,.int .i64 s,.int .i64 p,.int .i64 r]] w (Ret (.bool kk) w):=fun w h=>by rw[cH];exact Ld _ _ _ _ x s p r w h.a h.b h.c h.d hs
 have CS:∀w,Calls prog 114 #[] w (fM 134 2 dM sam w):=fun w=>Jm w
 have HN:=Tk hno;have HY:=Tk b5;have hR:R4 w u1 u2 u3 u4 x:=⟨h1,h2,h3,h4⟩;clear hq hn cH hao hno b5 h1 h2 h3 h4
 have D0:DA w (((w.alloc (.cells #[u1,u2,u3,u4,.int .i64 s,.int .i64 p,.int .i64 r] 32)).alloc (.cells #[.int .i64 k,.int .i64 a,.int .i64 b] 54)).alloc (.cells #[.slice none 0 0,.slice none 0 0,.slice none 0 0,.slice none 0 0,.int .i64 0,.int .i64 0,.int .i64 0] 32)) w.heap.size (w.heap.size+1) (w.heap.size+1+1) #[u1,u2,u3,u4,.int .i64 s,.int .i64 p,.int .i64 r] #[.int .i64 k,.int .i64 a,.int .i64 b] #[.slice none 0 0,.slice none 0 0,.slice none 0 0,.slice none 0 0,.int .i64 0,.int .i64 0,.int .i64 0]:=
  ⟨(((Below.refl w.heap.size w).al _).al _).al _,((Blk.aX w _ _).alloc _).alloc _,(Blk.gI (w.alloc _) _ _ (w.heap.size+1) (by simp)).alloc _,Blk.gI ((w.alloc _).alloc _) _ _ (w.heap.size+1+1) (by simp)⟩
 go_enter Tryz.func70,Tryz.ntmps70
 go_wp2_with fail
 obtain⟨W0,hW0⟩:=Ti (((w.alloc (.cells #[u1,u2,u3,u4,.int .i64 s,.int .i64 p,.int .i64 r] 32)).alloc (.cells #[.int .i64 k,.int .i64 a,.int .i64 b] 54)).alloc (.cells #[.slice none 0 0,.slice none 0 0,.slice none 0 0,.slice none 0 0,.int .i64 0,.int .i64 0,.int .i64 0] 32));obtain⟨gP,cW⟩:=Ti w.heap.size;obtain⟨gA,cX⟩:=Ti (w.heap.size+1);obtain⟨gR,cA⟩:=Ti (w.heap.size+1+1);rw[<-hW0,<-cA,<-cX,<-cW]at D0;rw[<-hW0,<-cA,<-cX,<-cW];have cB:w.heap.size<=gR:=(by omega);have e5:gP≠gR:=(by omega);have e6:gA≠gR:=(by omega);have e7:gP≠gA:=(by omega);clear hW0 cW cX cA;refine(CC _ (hR.bl D0.B)).mono ?_;rintro e w3 ⟨C1,C2,C3,C4,rfl,oO,hb3⟩;have D3:=D0.bl hb3;have oO:=oO.mono D0.B.size;clear D0 hb3;go_upto_region 2 with(refine aA rfl 32 _ _ rfl w3.heap.size #[C1,C2,C3,C4,.int .i64 s,.int .i64 p,.int .i64 r] rfl rfl _ _ (Blk.aX w3 32 #[.slice none 0 0,.slice none 0 0,.slice none 0 0,.slice none 0 0,.int .i64 0,.int .i64 0,.int .i64 0]) (by kernel_rfl) rfl (mV oO.one) ?_;intro w0 cY hg4;have D0:=D3.alg hg4;have oO:=aB.alg oO (by decide) (by decide) (by decide) hg4)
 obtain⟨gN,cG⟩:=Ti w3.heap.size;have dL:gP≠gN:=by have:=D3.p.lt;omega
 have dT:gA≠gN:=by have:=D3.a.lt;omega
 have eA:gR≠gN:=by have:=D3.r.lt;omega
 have eC:w.heap.size<=gN:=by have:=D3.B.size;omega
 rw[<-cG]at cY⊢;clear cG hg4 D3;obtain⟨a7,a8,bA,bB,bC,bD,bF⟩:=D0.p.n7;go_wp2_with fail
 refine(CK _ (hR.bl D0.B)).mono ?_;rintro e w1 ⟨rfl,hb1⟩;have D1:=D0.bl hb1;have eE:=cY.bl hb1;have cI:=oO.below hb1;clear D0 cY oO hb1 a7 a8 bA bB bC bD bF;cases kk
 . obtain ⟨rfl, rfl⟩ := HN.out (by first | rfl | trivial);obtain⟨a7,a8,bA,bB,bC,bD,bF⟩:=eE.n7;go_wp2_with (refine aA rfl 32 _ _ rfl gR #[C1,C2,C3,C4,.int .i64 s,.int .i64 p,.int .i64 r] rfl rfl _ _ D1.r (by kernel_rfl) rfl (mV cI.one) ?_;intro wE bE a6)
   have oE:=aB.cO cI D1.r (by decide) (by decide) (by decide) a6;have BE:=D1.B.grown a6 D1.B.size (fun k hk=>by injection hk with hk;subst hk;exact cB);obtain⟨bL,bM,bN,bO,bP,bR,bS⟩:=bE.n7;refine bodyPost_ret (v:= .tuple #[.agg #[C1,C2,C3,C4,.int .i64 s,.int .i64 p,.int .i64 r],.int .i64 (-1)]) (by simp[results,Tm,go_sem,bL,bM,bN,bO,bP,bR,bS]) rfl ⟨_,_,_,_,rfl,oE,BE⟩
 . obtain⟨bU,bX,bY⟩:=D1.a.n3;go_wp2_with fail
   refine(CA _).mono ?_;rintro e w4 ⟨rfl,hb4⟩;have D4:=D1.bl hb4;have cC:=eE.bl hb4;have eI:=cI.below hb4;clear D1 eE cI hb4 bU bX bY;cases ao
   . obtain ⟨rfl, rfl⟩ := HN.out (by first | rfl | trivial);obtain⟨a7,a8,bA,bB,bC,bD,bF⟩:=cC.n7;go_wp2_with (refine aA rfl 32 _ _ rfl gR #[C1,C2,C3,C4,.int .i64 s,.int .i64 p,.int .i64 r] rfl rfl _ _ D4.r (by kernel_rfl) rfl (mV eI.one) ?_;intro wE bE a6)
     have oE:=aB.cO eI D4.r (by decide) (by decide) (by decide) a6;have BE:=D4.B.grown a6 D4.B.size (fun k hk=>by injection hk with hk;subst hk;exact cB);obtain⟨bL,bM,bN,bO,bP,bR,bS⟩:=bE.n7;refine bodyPost_ret (v:= .tuple #[.agg #[C1,C2,C3,C4,.int .i64 s,.int .i64 p,.int .i64 r],.int .i64 (-1)]) (by simp[results,Tm,go_sem,bL,bM,bN,bO,bP,bR,bS]) rfl ⟨_,_,_,_,rfl,oE,BE⟩
   . obtain⟨bU,bX,bY⟩:=D4.a.n3;go_upto_region 6 with(fail)
     clear bU bX bY;rcases HY.out (by first|rfl|trivial) (by first|rfl|trivial)with⟨rfl,e1,e2⟩|⟨rfl,e1,e2⟩|⟨rfl,e1,e2⟩|⟨rfl,e1,e2⟩|⟨rfl,e1,e2⟩
     . obtain⟨z,hz⟩:=Ti (oJ (x,s,p,r) (a,b));obtain⟨bb,cD⟩:=Ti (nZ (x,s,p,r) (a,b));rw[<-hz,<-cD]at CT;rw[<-hz]at e1;rw[<-cD]at e2;subst e1 e2;clear hz cD;obtain⟨a7,a8,bA,bB,bC,bD,bF⟩:=D4.p.n7;obtain⟨bU,bX,bY⟩:=D4.a.n3;go_wp2_with fail
       refine(CT _ (hR.bl D4.B)).mono ?_;rintro e w5 ⟨E1,E2,E3,E4,rfl,oT,cE⟩;have D5:=D4.bl cE;have b7:=cC.bl cE;clear a7 a8 bA bB bC bD bF bU bX bY cE;have oT:=oT.mono D4.B.size;go_upto_region 19 with(refine aA rfl 32 _ _ rfl gN #[E1,E2,E3,E4,.int .i64 s,.int .i64 p,.int .i64 r] rfl rfl _ _ b7 (by kernel_rfl) rfl (mV oT.one) ?_;intro w6 bJ b8)
       have D6:=D5.gr b8 eC dL dT eA;have bK:=aB.cO oT b7 (by decide) (by decide) (by decide) b8;obtain⟨a7,a8,bA,bB,bC,bD,bF⟩:=bJ.n7;have cJ:=bJ.lt;have Bw:Below w6.heap.size w6 w6.drew:=(Below.refl _ _).drew;have hz:w6.heap.size<=w6.drew.heap.size:=(by simp);go_wp2_with fail
       refine rB (fun w'=>w'.cell? ⟨gN,0,none⟩=some (E1)/\w'.cell? ⟨gN,1,none⟩=some (E2)/\w'.cell? ⟨gN,2,none⟩=some (E3)/\w'.cell? ⟨gN,3,none⟩=some (E4)/\w'.cell? ⟨gN,4,none⟩=some (.int .i64 s)/\w'.cell? ⟨gN,5,none⟩=some (.int .i64 p)/\w'.cell? ⟨gN,6,none⟩=some (.int .i64 r)) fun hHeld=>(tW 0)<|(tW 1)<|(tR [2])<|tL fun K hK=>?_
       go_simp
       (go_at_call 117;go_must (refine(xO bb _).mono ?_;rintro e wX ⟨rfl,rfl⟩))
       refine tK hK fun hHeld=>?_
       clear hK K;refine(tR [3])<|tL fun K hK=>?_
       (refine aK rfl 32 _ _ rfl gR #[E1,E2,E3,E4,.int .i64 s,.int .i64 p,.int .i64 r] rfl rfl _ _ (D6.r.bl Bw) (by kernel_rfl) rfl (mV bK.one) ?_;intro wE bE a6;have oE:=aB.cO (bK.below Bw) (D6.r.bl Bw) (by decide) (by decide) (by decide) a6;have BE:=(D6.B.tr Bw).grown a6 (D6.B.tr Bw).size (fun k hk=>by injection hk with hk;subst hk;exact cB);have cF:=(bJ.bl Bw).grown a6 (by simp;omega);obtain⟨cK,cL,cM,cN,cP,cQ,cR⟩:=cF.n7)
       refine tK hK fun hHeld=>?_
       clear hK K;refine(tW 4)<|tD ?_
       all_goals
         go_wp2_with fail
         obtain⟨bL,bM,bN,bO,bP,bR,bS⟩:=bE.n7;refine bodyPost_ret (v:= .tuple #[.agg #[E1,E2,E3,E4,.int .i64 s,.int .i64 p,.int .i64 r],.int .i64 (bI bb)]) (by simp[results,Tm,go_sem,bL,bM,bN,bO,bP,bR,bS]) rfl ⟨_,_,_,_,rfl,oE,BE⟩
     . obtain⟨⟨z,s2,p2,r2⟩,hz⟩:∃z,z=rY (x,s,p,r) a:=⟨_,rfl⟩;rw[<-hz]at CB e1;rw[<-e2]at CB;subst e1;clear hz e2;obtain⟨a7,a8,bA,bB,bC,bD,bF⟩:=D4.p.n7;obtain⟨bU,bX,bY⟩:=D4.a.n3;go_wp2_with fail
       refine(CB _ (hR.bl D4.B)).mono ?_;rintro e w5 ⟨E1,E2,E3,E4,rfl,oT,cE⟩;have D5:=D4.bl cE;have b7:=cC.bl cE;clear a7 a8 bA bB bC bD bF bU bX bY cE;have oT:=oT.mono D4.B.size;go_upto_region 10 with(refine aA rfl 32 _ _ rfl w5.heap.size #[E1,E2,E3,E4,.int .i64 s2,.int .i64 p2,.int .i64 r2] rfl rfl _ _ (Blk.aX w5 32 #[.slice none 0 0,.slice none 0 0,.slice none 0 0,.slice none 0 0,.int .i64 0,.int .i64 0,.int .i64 0]) (by kernel_rfl) rfl (mV oT.one) ?_;intro w6 e8 b8;have D6:=D5.alg b8;have bK:=aB.alg oT (by decide) (by decide) (by decide) b8)
       obtain⟨a7,a8,bA,bB,bC,bD,bF⟩:=e8.n7;go_wp2_with (refine aA rfl 32 _ _ rfl gR #[E1,E2,E3,E4,.int .i64 s2,.int .i64 p2,.int .i64 r2] rfl rfl _ _ D6.r (by kernel_rfl) rfl (mV bK.one) ?_;intro wE bE a6)
       have oE:=aB.cO bK D6.r (by decide) (by decide) (by decide) a6;have BE:=D6.B.grown a6 D6.B.size (fun k hk=>by injection hk with hk;subst hk;exact cB);obtain⟨bL,bM,bN,bO,bP,bR,bS⟩:=bE.n7;refine bodyPost_ret (v:= .tuple #[.agg #[E1,E2,E3,E4,.int .i64 s2,.int .i64 p2,.int .i64 r2],.int .i64 n]) (by simp[results,Tm,go_sem,bL,bM,bN,bO,bP,bR,bS]) rfl ⟨_,_,_,_,rfl,oE,BE⟩
     . skip;obtain⟨ss,eJ⟩:=Ti (GV (x,s,p,r) sam a);obtain⟨pp,eK⟩:=Ti (GX (x,s,p,r) sam a);obtain⟨bb,cD⟩:=Ti (tF (x,s,p,r) sam a);rw[<-eJ,<-eK,<-cD]at CY;rw[<-eJ,<-eK]at e1;rw[<-cD]at e2;subst e1 e2;clear eJ eK cD;obtain⟨a7,a8,bA,bB,bC,bD,bF⟩:=D4.p.n7;obtain⟨bU,bX,bY⟩:=D4.a.n3;have fX:=D4.p.lt;have fY:=D4.a.lt;have Bw:Below w4.heap.size w4 w4.drew:=(Below.refl _ _).drew;have hz:w4.heap.size<=w4.drew.heap.size:=(by simp);go_wp2_with fail
       refine rB (fun w'=>w'.cell? ⟨gP,0,none⟩=some u1/\w'.cell? ⟨gP,1,none⟩=some u2/\w'.cell? ⟨gP,2,none⟩=some u3/\w'.cell? ⟨gP,3,none⟩=some u4/\w'.cell? ⟨gP,4,none⟩=some (.int .i64 s)/\w'.cell? ⟨gP,5,none⟩=some (.int .i64 p)/\w'.cell? ⟨gP,6,none⟩=some (.int .i64 r)/\w'.cell? ⟨gA,1,none⟩=some (.int .i64 a)) fun hHeld=>(tW 0)<|(tW 2)<|(tW 3)<|(tR [1])<|tL fun K hK=>?_
       go_simp
       (first|(go_at_call 114;go_must (refine(CS _).mono ?_;rintro e wX ⟨AS,cS,rfl,oS,b6⟩;obtain⟨cT,cU,b9⟩:=bkn b6 w4.heap.size hz;have hz:=b9;have Bw:=Bw.tr b6);(try go_wp2_with fail))|(go_at_call 77;go_must (refine(CY _ _ (hR.bl (D4.B.tr Bw)) (oS.rd IM (by decide))).mono ?_;rintro e wX ⟨E1,E2,E3,E4,rfl,oT,b6⟩;have oT:=oT.mono (D4.B.tr Bw).size;obtain⟨cT,cU,b9⟩:=bkn b6 w4.heap.size hz;have hz:=b9;have Bw:=Bw.tr b6);(try go_wp2_with fail)))
       refine tK hK fun hHeld=>?_
       clear hK K;refine(tR [4])<|tL fun K hK=>?_
       go_simp
       (first|(go_at_call 114;go_must (refine(CS _).mono ?_;rintro e wX ⟨AS,cS,rfl,oS,b6⟩;obtain⟨cT,cU,b9⟩:=bkn b6 w4.heap.size hz;have hz:=b9;have Bw:=Bw.tr b6);(try go_wp2_with fail))|(go_at_call 77;go_must (refine(CY _ _ (hR.bl (D4.B.tr Bw)) (oS.rd IM (by decide))).mono ?_;rintro e wX ⟨E1,E2,E3,E4,rfl,oT,b6⟩;have oT:=oT.mono (D4.B.tr Bw).size;obtain⟨cT,cU,b9⟩:=bkn b6 w4.heap.size hz;have hz:=b9;have Bw:=Bw.tr b6);(try go_wp2_with fail)))
       refine tK hK fun hHeld=>?_
       clear hK K;refine(tW 5)<|(tW 6)<|(tW 7)<|(tR [8])<|tL fun K hK=>?_
       (refine aK rfl 32 _ _ rfl gN #[E1,E2,E3,E4,.int .i64 ss,.int .i64 pp,.int .i64 r] rfl rfl _ _ (cC.bl Bw) (by kernel_rfl) rfl (mV oT.one) ?_;intro w6 bJ b8;have D6:=(D4.bl Bw).gr b8 eC dL dT eA;have bK:=aB.cO oT (cC.bl Bw) (by decide) (by decide) (by decide) b8;obtain⟨cK,cL,cM,cN,cP,cQ,cR⟩:=D6.p.n7;obtain⟨gB,gC,gD⟩:=D6.a.n3)
       refine tK hK fun hHeld=>?_
       clear hK K;refine(tW 9)<|tD ?_;clear hHeld hz cT cU b9;obtain⟨a7,a8,bA,bB,bC,bD,bF⟩:=bJ.n7;have cJ:=bJ.lt;have Bw:Below w6.heap.size w6 w6.drew:=(Below.refl _ _).drew;have hz:w6.heap.size<=w6.drew.heap.size:=(by simp);go_wp2_with fail
       refine rB (fun w'=>w'.cell? ⟨gN,0,none⟩=some (E1)/\w'.cell? ⟨gN,1,none⟩=some (E2)/\w'.cell? ⟨gN,2,none⟩=some (E3)/\w'.cell? ⟨gN,3,none⟩=some (E4)/\w'.cell? ⟨gN,4,none⟩=some (.int .i64 ss)/\w'.cell? ⟨gN,5,none⟩=some (.int .i64 pp)/\w'.cell? ⟨gN,6,none⟩=some (.int .i64 r)) fun hHeld=>(tW 0)<|(tW 1)<|(tR [2])<|tL fun K hK=>?_
       go_simp
       (go_at_call 117;go_must (refine(xO bb _).mono ?_;rintro e wX ⟨rfl,rfl⟩))
       refine tK hK fun hHeld=>?_
       clear hK K;refine(tR [3])<|tL fun K hK=>?_
       (refine aK rfl 32 _ _ rfl gR #[E1,E2,E3,E4,.int .i64 ss,.int .i64 pp,.int .i64 r] rfl rfl _ _ (D6.r.bl Bw) (by kernel_rfl) rfl (mV bK.one) ?_;intro wE bE a6;have oE:=aB.cO (bK.below Bw) (D6.r.bl Bw) (by decide) (by decide) (by decide) a6;have BE:=(D6.B.tr Bw).grown a6 (D6.B.tr Bw).size (fun k hk=>by injection hk with hk;subst hk;exact cB);have cF:=(bJ.bl Bw).grown a6 (by simp;omega);obtain⟨cK,cL,cM,cN,cP,cQ,cR⟩:=cF.n7)
       refine tK hK fun hHeld=>?_
       clear hK K;refine(tW 4)<|tD ?_
       all_goals
         go_wp2_with fail
         obtain⟨bL,bM,bN,bO,bP,bR,bS⟩:=bE.n7;refine bodyPost_ret (v:= .tuple #[.agg #[E1,E2,E3,E4,.int .i64 ss,.int .i64 pp,.int .i64 r],.int .i64 (bI bb)]) (by simp[results,Tm,go_sem,bL,bM,bN,bO,bP,bR,bS]) rfl ⟨_,_,_,_,rfl,oE,BE⟩
     . obtain⟨⟨z,bb⟩,hz⟩:∃z,z=iU x:=⟨_,rfl⟩;rw[<-hz]at CU e1 e2;simp only at CU e1 e2;subst e1 e2;clear hz;obtain⟨a7,a8,bA,bB,bC,bD,bF⟩:=D4.p.n7;obtain⟨bU,bX,bY⟩:=D4.a.n3;go_wp2_with fail
       refine(CU _ (hR.bl D4.B)).mono ?_;rintro e w7 ⟨A1,e1,A2,e2,A3,e3,A4,e4,rfl,oT,eL⟩;have D7:=D4.bl eL;have eN:=cC.bl eL;have oT:=oT.mono D4.B.size;clear a7 a8 bA bB bC bD bF bU bX bY eL;have cJ:=eN.lt;go_upto_region 15 with(fail)
       have eP:=Blk.aX w7 30 #[.slice A1 z.1.length e1,.slice A2 z.2.1.length e2,.slice A3 z.2.2.1.length e3,.slice A4 z.2.2.2.length e4];have D5:=D7.al (.cells #[.slice A1 z.1.length e1,.slice A2 z.2.1.length e2,.slice A3 z.2.2.1.length e3,.slice A4 z.2.2.2.length e4] 30);have oT:=oT.alloc (.cells #[.slice A1 z.1.length e1,.slice A2 z.2.1.length e2,.slice A3 z.2.2.1.length e3,.slice A4 z.2.2.2.length e4] 30);have b7:=eN.alloc (.cells #[.slice A1 z.1.length e1,.slice A2 z.2.1.length e2,.slice A3 z.2.2.1.length e3,.slice A4 z.2.2.2.length e4] 30);obtain⟨w5,eR⟩:=Ti (w7.alloc (.cells #[.slice A1 z.1.length e1,.slice A2 z.2.1.length e2,.slice A3 z.2.2.1.length e3,.slice A4 z.2.2.2.length e4] 30));rw[<-eR]at eP D5 oT b7⊢;clear eR;obtain⟨gF,gK,gL,gM⟩:=eP.n4;obtain⟨e9,fD,fL,fN,fR,fS,fW⟩:=b7.n7;have fO:=fun j=>b7.frozen j
       have eM:=dB (dB (dB (dB (World.grownBy.refl w5 (some gN)) 0 (.slice A1 z.1.length e1)) 1 (.slice A2 z.2.1.length e2)) 2 (.slice A3 z.2.2.1.length e3)) 3 (.slice A4 z.2.2.2.length e4);have bJ:Blk ((((w5.setCell ⟨gN,0,none⟩ (.slice A1 z.1.length e1)).setCell ⟨gN,1,none⟩ (.slice A2 z.2.1.length e2)).setCell ⟨gN,2,none⟩ (.slice A3 z.2.2.1.length e3)).setCell ⟨gN,3,none⟩ (.slice A4 z.2.2.2.length e4)) gN 32 #[.slice A1 z.1.length e1,.slice A2 z.2.1.length e2,.slice A3 z.2.2.1.length e3,.slice A4 z.2.2.2.length e4,.int .i64 s,.int .i64 p,.int .i64 r]:=(((b7.st 0 _ _ rfl).st 1 _ _ rfl).st 2 _ _ rfl).st 3 _ _ rfl;have D6:=D5.gr eM eC dL dT eA;have bK:=aB.cO oT b7 (by decide) (by decide) (by decide) eM;go_upto_region 19 with(fail)
       obtain⟨w6,eW⟩:=Ti ((((w5.setCell ⟨gN,0,none⟩ (.slice A1 z.1.length e1)).setCell ⟨gN,1,none⟩ (.slice A2 z.2.1.length e2)).setCell ⟨gN,2,none⟩ (.slice A3 z.2.2.1.length e3)).setCell ⟨gN,3,none⟩ (.slice A4 z.2.2.2.length e4));rw[<-eW]at bJ D6 bK⊢;clear eW eM fO e9 fD fL fN fR fS fW;obtain⟨a7,a8,bA,bB,bC,bD,bF⟩:=bJ.n7;have cJ:=bJ.lt;have Bw:Below w6.heap.size w6 w6.drew:=(Below.refl _ _).drew;have hz:w6.heap.size<=w6.drew.heap.size:=(by simp);go_wp2_with fail
       refine rB (fun w'=>w'.cell? ⟨gN,0,none⟩=some (.slice A1 z.1.length e1)/\w'.cell? ⟨gN,1,none⟩=some (.slice A2 z.2.1.length e2)/\w'.cell? ⟨gN,2,none⟩=some (.slice A3 z.2.2.1.length e3)/\w'.cell? ⟨gN,3,none⟩=some (.slice A4 z.2.2.2.length e4)/\w'.cell? ⟨gN,4,none⟩=some (.int .i64 s)/\w'.cell? ⟨gN,5,none⟩=some (.int .i64 p)/\w'.cell? ⟨gN,6,none⟩=some (.int .i64 r)) fun hHeld=>(tW 0)<|(tW 1)<|(tR [2])<|tL fun K hK=>?_
       go_simp
       (go_at_call 117;go_must (refine(xO bb _).mono ?_;rintro e wX ⟨rfl,rfl⟩))
       refine tK hK fun hHeld=>?_
       clear hK K;refine(tR [3])<|tL fun K hK=>?_
       (refine aK rfl 32 _ _ rfl gR #[.slice A1 z.1.length e1,.slice A2 z.2.1.length e2,.slice A3 z.2.2.1.length e3,.slice A4 z.2.2.2.length e4,.int .i64 s,.int .i64 p,.int .i64 r] rfl rfl _ _ (D6.r.bl Bw) (by kernel_rfl) rfl (mV bK.one) ?_;intro wE bE a6;have oE:=aB.cO (bK.below Bw) (D6.r.bl Bw) (by decide) (by decide) (by decide) a6;have BE:=(D6.B.tr Bw).grown a6 (D6.B.tr Bw).size (fun k hk=>by injection hk with hk;subst hk;exact cB);have cF:=(bJ.bl Bw).grown a6 (by simp;omega);obtain⟨cK,cL,cM,cN,cP,cQ,cR⟩:=cF.n7)
       refine tK hK fun hHeld=>?_
       clear hK K;refine(tW 4)<|tD ?_
       all_goals
         go_wp2_with fail
         obtain⟨bL,bM,bN,bO,bP,bR,bS⟩:=bE.n7;refine bodyPost_ret (v:= .tuple #[.agg #[.slice A1 z.1.length e1,.slice A2 z.2.1.length e2,.slice A3 z.2.2.1.length e3,.slice A4 z.2.2.2.length e4,.int .i64 s,.int .i64 p,.int .i64 r],.int .i64 (bI bb)]) (by simp[results,Tm,go_sem,bL,bM,bN,bO,bP,bR,bS]) rfl ⟨_,_,_,_,rfl,oE,BE⟩
     . subst e1 e2;obtain⟨a7,a8,bA,bB,bC,bD,bF⟩:=D4.p.n7;obtain⟨bU,bX,bY⟩:=D4.a.n3;go_wp2_with fail
       refine(CD _ (hR.bl D4.B)).mono ?_;rintro e w6 ⟨rfl,cV⟩;have bK:=eI.below cV;have D6:=D4.bl cV;have bJ:=cC.bl cV;clear a7 a8 bA bB bC bD bF bU bX bY cV;go_upto_region 19 with(fail)
       obtain⟨a7,a8,bA,bB,bC,bD,bF⟩:=bJ.n7;have cJ:=bJ.lt;have Bw:Below w6.heap.size w6 w6.drew:=(Below.refl _ _).drew;have hz:w6.heap.size<=w6.drew.heap.size:=(by simp);go_wp2_with fail
       refine rB (fun w'=>w'.cell? ⟨gN,0,none⟩=some (C1)/\w'.cell? ⟨gN,1,none⟩=some (C2)/\w'.cell? ⟨gN,2,none⟩=some (C3)/\w'.cell? ⟨gN,3,none⟩=some (C4)/\w'.cell? ⟨gN,4,none⟩=some (.int .i64 s)/\w'.cell? ⟨gN,5,none⟩=some (.int .i64 p)/\w'.cell? ⟨gN,6,none⟩=some (.int .i64 r)) fun hHeld=>(tW 0)<|(tW 1)<|(tR [2])<|tL fun K hK=>?_
       go_simp
       (go_at_call 117;go_must (refine(xO true _).mono ?_;rintro e wX ⟨rfl,rfl⟩))
       refine tK hK fun hHeld=>?_
       clear hK K;refine(tR [3])<|tL fun K hK=>?_
       (refine aK rfl 32 _ _ rfl gR #[C1,C2,C3,C4,.int .i64 s,.int .i64 p,.int .i64 r] rfl rfl _ _ (D6.r.bl Bw) (by kernel_rfl) rfl (mV bK.one) ?_;intro wE bE a6;have oE:=aB.cO (bK.below Bw) (D6.r.bl Bw) (by decide) (by decide) (by decide) a6;have BE:=(D6.B.tr Bw).grown a6 (D6.B.tr Bw).size (fun k hk=>by injection hk with hk;subst hk;exact cB);have cF:=(bJ.bl Bw).grown a6 (by simp;omega);obtain⟨cK,cL,cM,cN,cP,cQ,cR⟩:=cF.n7)
       refine tK hK fun hHeld=>?_
       clear hK K;refine(tW 4)<|tD ?_
       all_goals
         go_wp2_with fail
         obtain⟨bL,bM,bN,bO,bP,bR,bS⟩:=bE.n7;refine bodyPost_ret (v:= .tuple #[.agg #[C1,C2,C3,C4,.int .i64 s,.int .i64 p,.int .i64 r],.int .i64 (bI true)]) (by simp[results,Tm,go_sem,bL,bM,bN,bO,bP,bR,bS]) rfl ⟨_,_,_,_,rfl,oE,BE⟩
end Go.Proofs.YtjijonhkofhikaaGreatDoor
