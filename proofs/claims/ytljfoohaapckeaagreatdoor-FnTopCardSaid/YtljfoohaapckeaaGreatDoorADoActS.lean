/- DoAct of the reference: the walk. Conditions: sizes. -/
import Derived.Test.YtljfoohaapckeaaGreatDoorAActPl
open _root_.Go.Proofs.Tryz (prog results42)
namespace Go.Proofs.YtljfoohaapckeaaGreatDoor
open Go.ChangeShapes Go.WideShapes Go.ChangeAt Go.RowKit
set_option linter.unusedVariables false
set_option linter.unusedSimpArgs false
set_option maxHeartbeats 4000000
set_option maxRecDepth 100000
theorem uZ (b:Bool) (w:World):Calls prog 103 #[.bool b] w (Pure (.int .i64 (bI b)) w):=by
 go_enter Tryz.func103,Tryz.ntmps103
 cases b<;>go_wp2<;>go_ret<;>exact⟨rfl,rfl⟩
theorem I6 (u1 u2 u3 u4:Value) (x:Fl) (s p r k a b:Int) (w:World) (h1:Rd 1 aX w u1 x.1) (h2:Rd 3 aQ w u2 x.2.1) (h3:Rd 3 aQ w u3 x.2.2.1) (h4:Rd 2 bH w u4 x.2.2.2) (hs:cZ x):
 Calls prog 42 #[.agg #[u1,u2,u3,u4,.int .i64 s,.int .i64 p,.int .i64 r],.agg #[.int .i64 k,.int .i64 a,.int .i64 b]] w (Av (fun v=> .tuple #[v,.int .i64 (wJ (x,s,p,r) (k,a,b))]) (sZ (x,s,p,r) (k,a,b)) w):=by
 obtain⟨q,hq⟩:=Pj (sZ (x,s,p,r) (k,a,b));obtain⟨n,hn⟩:=Pj (wJ (x,s,p,r) (k,a,b));obtain⟨kk,hkk⟩:=Pj (bT (x,s,p,r));obtain⟨ao,hao⟩:=Pj (mD k a b);have hno:= @FL (x,s,p,r) (k,a,b);have hyes:= @yG (x,s,p,r) k a b;simp only at hno hyes;rw[<-hq,<-hn]at hno hyes⊢;rw[<-hkk,<-hao]at hno hyes;have CK:∀w,R4 w u1 u2 u3 u4 x->Calls prog 95 #[.agg #[u1,u2,u3,u4,.int .i64 s,.int .i64 p,.int .i64 r]] w (Ret (.bool kk) w):=fun w h=>by rw[hkk];exact fJ _ _ _ _ (x,s,p,r) w h.a h.b h.c h.d hs.2.1
 have CA:∀w,Calls prog 96 #[.agg #[.int .i64 k,.int .i64 a,.int .i64 b]] w (Ret (.bool ao) w):=fun w=>by rw[hao];exact Ig k a b w
 have CC:∀w,R4 w u1 u2 u3 u4 x->Calls prog 94 #[.agg #[u1,u2,u3,u4,.int .i64 s,.int .i64 p,.int .i64 r]] w (Av (fun v=>v) (x,s,p,r) w):=fun w h=>(lS _ _ _ _ x s p r w h.a h.b h.c h.d hs).mono fun _ _=>MR
 have CT:∀w,R4 w u1 u2 u3 u4 x->Calls prog 97 #[.agg #[u1,u2,u3,u4,.int .i64 s,.int .i64 p,.int .i64 r],.agg #[.int .i64 a,.int .i64 b]] w (Av (fun v=> .tuple #[v,.bool (kW (x,s,p,r) (a,b))]) (iV (x,s,p,r) (a,b),s,p,r) w):=fun w h=>(nW _ _ _ _ x s p r a b w h.a h.b h.c h.d hs).mono fun _ _=>FM
 have CB:∀w,R4 w u1 u2 u3 u4 x->Calls prog 98 #[.agg #[u1,u2,u3,u4,.int .i64 s,.int .i64 p,.int .i64 r],.int .i64 a] w (Av (fun v=> .tuple #[v,.int .i64 (sO (x,s,p,r) a)]) (kH (x,s,p,r) a) w):=fun w h=>(pO _ _ _ _ x s p r a w h.a h.b h.c h.d hs).mono fun _ _=>MQ
 have CY:∀w u,R4 w u1 u2 u3 u4 x->Rd 2 bH w u sam->Calls prog 99 #[.agg #[u1,u2,u3,u4,.int .i64 s,.int .i64 p,.int .i64 r],u,.int .i64 a] w (Av (fun v=> .tuple #[v,.bool (nT (x,s,p,r) sam a)]) (x,vK (x,s,p,r) sam a,vL (x,s,p,r) sam a,r) w):=fun w u h hu=>(uO _ _ _ _ u x s p r sam a w h.a h.b h.c h.d hu hs).mono fun _ _=>FM
 have CU:∀w,R4 w u1 u2 u3 u4 x->Calls prog 101 #[.agg #[u1,u2,u3,u4]] w (kF (fF x).1 (fF x).2 w):=fun w h=>Eb _ _ _ _ x w h.a h.b h.c h.d hs
 have CD:∀w,R4 w u1 u2 u3 u4 x->Calls prog 102 #[.agg #[u1,u2,u3,u4,.int .i64 s,.int .i64 p,.int .i64 r]] w (Ret (.bool kk) w):=fun w h=>by rw[hkk];exact IB _ _ _ _ x s p r w h.a h.b h.c h.d hs
 have CS:∀w,Calls prog 100 #[] w (iB 102 2 dD sam w):=fun w=>FO w
 have HN:=Pm hno;have HY:=Pm hyes;have hR:R4 w u1 u2 u3 u4 x:=⟨h1,h2,h3,h4⟩;clear hq hn hkk hao hno hyes h1 h2 h3 h4
 have D0:DA w (((w.alloc (.cells #[u1,u2,u3,u4,.int .i64 s,.int .i64 p,.int .i64 r] 32)).alloc (.cells #[.int .i64 k,.int .i64 a,.int .i64 b] 73)).alloc (.cells #[.slice none 0 0,.slice none 0 0,.slice none 0 0,.slice none 0 0,.int .i64 0,.int .i64 0,.int .i64 0] 32)) w.heap.size (w.heap.size+1) (w.heap.size+1+1) #[u1,u2,u3,u4,.int .i64 s,.int .i64 p,.int .i64 r] #[.int .i64 k,.int .i64 a,.int .i64 b] #[.slice none 0 0,.slice none 0 0,.slice none 0 0,.slice none 0 0,.int .i64 0,.int .i64 0,.int .i64 0]:=
  ⟨(((Below.refl w.heap.size w).al _).al _).al _,((Blk.aW w _ _).alloc _).alloc _,(Blk.gJ (w.alloc _) _ _ (w.heap.size+1) (by simp)).alloc _,Blk.gJ ((w.alloc _).alloc _) _ _ (w.heap.size+1+1) (by simp)⟩
 go_enter Tryz.func42,Tryz.ntmps42
 go_wp2_with fail
 obtain⟨W0,hW0⟩:=Pj (((w.alloc (.cells #[u1,u2,u3,u4,.int .i64 s,.int .i64 p,.int .i64 r] 32)).alloc (.cells #[.int .i64 k,.int .i64 a,.int .i64 b] 73)).alloc (.cells #[.slice none 0 0,.slice none 0 0,.slice none 0 0,.slice none 0 0,.int .i64 0,.int .i64 0,.int .i64 0] 32));obtain⟨gP,hgP⟩:=Pj w.heap.size;obtain⟨gA,hgA⟩:=Pj (w.heap.size+1);obtain⟨gR,hgR'⟩:=Pj (w.heap.size+1+1);rw[<-hW0,<-hgR',<-hgA,<-hgP]at D0;rw[<-hW0,<-hgR',<-hgA,<-hgP];have hgR:w.heap.size<=gR:=(by omega);have hgPR:gP≠gR:=(by omega);have hgAR:gA≠gR:=(by omega);have hgPA:gP≠gA:=(by omega);clear hW0 hgP hgA hgR';refine(CC _ (hR.bl D0.B)).mono ?_;rintro e w3 ⟨C1,C2,C3,C4,rfl,oO,hb3⟩;have D3:=D0.bl hb3;have oO:=oO.mono D0.B.size;clear D0 hb3;go_upto_region 2 with(refine aA rfl 32 _ _ rfl w3.heap.size #[C1,C2,C3,C4,.int .i64 s,.int .i64 p,.int .i64 r] rfl rfl _ _ (Blk.aW w3 32 #[.slice none 0 0,.slice none 0 0,.slice none 0 0,.slice none 0 0,.int .i64 0,.int .i64 0,.int .i64 0]) (by kernel_rfl) rfl (kC oO.one) ?_;intro w0 bN0 hg4;have D0:=D3.alg hg4;have oO:=aB.alg oO (by decide) (by decide) (by decide) hg4)
 obtain⟨gN,hgN'⟩:=Pj w3.heap.size;have hPN:gP≠gN:=by have:=D3.p.lt;omega
 have hAN:gA≠gN:=by have:=D3.a.lt;omega
 have hRN:gR≠gN:=by have:=D3.r.lt;omega
 have hgN:w.heap.size<=gN:=by have:=D3.B.size;omega
 rw[<-hgN']at bN0⊢;clear hgN' hg4 D3;obtain⟨y_0,y_1,y_2,y_3,y_4,y_5,y_6⟩:=D0.p.n7;go_wp2_with fail
 refine(CK _ (hR.bl D0.B)).mono ?_;rintro e w1 ⟨rfl,hb1⟩;have D1:=D0.bl hb1;have bN1:=bN0.bl hb1;have oO1:=oO.below hb1;clear D0 bN0 oO hb1 y_0 y_1 y_2 y_3 y_4 y_5 y_6;cases kk
 . obtain ⟨rfl, rfl⟩ := HN.out (by first | rfl | trivial);obtain⟨y_0,y_1,y_2,y_3,y_4,y_5,y_6⟩:=bN1.n7;go_wp2_with (refine aA rfl 32 _ _ rfl gR #[C1,C2,C3,C4,.int .i64 s,.int .i64 p,.int .i64 r] rfl rfl _ _ D1.r (by kernel_rfl) rfl (kC oO1.one) ?_;intro wE bE hgE)
   have oE:=aB.bZ oO1 D1.r (by decide) (by decide) (by decide) hgE;have BE:=D1.B.grown hgE D1.B.size (fun k hk=>by injection hk with hk;subst hk;exact hgR);obtain⟨q_0,q_1,q_2,q_3,q_4,q_5,q_6⟩:=bE.n7;refine bodyPost_ret (v:= .tuple #[.agg #[C1,C2,C3,C4,.int .i64 s,.int .i64 p,.int .i64 r],.int .i64 (-1)]) (by simp[results,results42,go_sem,q_0,q_1,q_2,q_3,q_4,q_5,q_6]) rfl ⟨_,_,_,_,rfl,oE,BE⟩
 . obtain⟨a_0,a_1,a_2⟩:=D1.a.n3;go_wp2_with fail
   refine(CA _).mono ?_;rintro e w4 ⟨rfl,hb4⟩;have D4:=D1.bl hb4;have bN4:=bN1.bl hb4;have oO4:=oO1.below hb4;clear D1 bN1 oO1 hb4 a_0 a_1 a_2;cases ao
   . obtain ⟨rfl, rfl⟩ := HN.out (by first | rfl | trivial);obtain⟨y_0,y_1,y_2,y_3,y_4,y_5,y_6⟩:=bN4.n7;go_wp2_with (refine aA rfl 32 _ _ rfl gR #[C1,C2,C3,C4,.int .i64 s,.int .i64 p,.int .i64 r] rfl rfl _ _ D4.r (by kernel_rfl) rfl (kC oO4.one) ?_;intro wE bE hgE)
     have oE:=aB.bZ oO4 D4.r (by decide) (by decide) (by decide) hgE;have BE:=D4.B.grown hgE D4.B.size (fun k hk=>by injection hk with hk;subst hk;exact hgR);obtain⟨q_0,q_1,q_2,q_3,q_4,q_5,q_6⟩:=bE.n7;refine bodyPost_ret (v:= .tuple #[.agg #[C1,C2,C3,C4,.int .i64 s,.int .i64 p,.int .i64 r],.int .i64 (-1)]) (by simp[results,results42,go_sem,q_0,q_1,q_2,q_3,q_4,q_5,q_6]) rfl ⟨_,_,_,_,rfl,oE,BE⟩
   . obtain⟨a_0,a_1,a_2⟩:=D4.a.n3;go_upto_region 6 with(fail)
     clear a_0 a_1 a_2;rcases HY.out (by first|rfl|trivial) (by first|rfl|trivial)with⟨rfl,e1,e2⟩|⟨rfl,e1,e2⟩|⟨rfl,e1,e2⟩|⟨rfl,e1,e2⟩|⟨rfl,e1,e2⟩
     . obtain⟨z,hz⟩:=Pj (iV (x,s,p,r) (a,b));obtain⟨bb,hbb⟩:=Pj (kW (x,s,p,r) (a,b));rw[<-hz,<-hbb]at CT;rw[<-hz]at e1;rw[<-hbb]at e2;subst e1 e2;clear hz hbb;obtain⟨y_0,y_1,y_2,y_3,y_4,y_5,y_6⟩:=D4.p.n7;obtain⟨a_0,a_1,a_2⟩:=D4.a.n3;go_wp2_with fail
       refine(CT _ (hR.bl D4.B)).mono ?_;rintro e w5 ⟨E1,E2,E3,E4,rfl,oT,hb5⟩;have D5:=D4.bl hb5;have bN5:=bN4.bl hb5;clear y_0 y_1 y_2 y_3 y_4 y_5 y_6 a_0 a_1 a_2 hb5;have oT:=oT.mono D4.B.size;go_upto_region 19 with(refine aA rfl 32 _ _ rfl gN #[E1,E2,E3,E4,.int .i64 s,.int .i64 p,.int .i64 r] rfl rfl _ _ bN5 (by kernel_rfl) rfl (kC oT.one) ?_;intro w6 bN6 hg6)
       have D6:=D5.gr hg6 hgN hPN hAN hRN;have oT6:=aB.bZ oT bN5 (by decide) (by decide) (by decide) hg6;obtain⟨y_0,y_1,y_2,y_3,y_4,y_5,y_6⟩:=bN6.n7;have hNl:=bN6.lt;have Bw:Below w6.heap.size w6 w6.drew:=(Below.refl _ _).drew;have hz:w6.heap.size<=w6.drew.heap.size:=(by simp);go_wp2_with fail
       refine rB (fun w'=>w'.cell? ⟨gN,0,none⟩=some (E1)/\w'.cell? ⟨gN,1,none⟩=some (E2)/\w'.cell? ⟨gN,2,none⟩=some (E3)/\w'.cell? ⟨gN,3,none⟩=some (E4)/\w'.cell? ⟨gN,4,none⟩=some (.int .i64 s)/\w'.cell? ⟨gN,5,none⟩=some (.int .i64 p)/\w'.cell? ⟨gN,6,none⟩=some (.int .i64 r)) fun hHeld=>(tW 0)<|(tW 1)<|(tR [2])<|tL fun K hK=>?_
       go_simp
       (go_at_call 103;go_must (refine(uZ bb _).mono ?_;rintro e wX ⟨rfl,rfl⟩))
       refine tK hK fun hHeld=>?_
       clear hK K;refine(tR [3])<|tL fun K hK=>?_
       (refine aF rfl 32 _ _ rfl gR #[E1,E2,E3,E4,.int .i64 s,.int .i64 p,.int .i64 r] rfl rfl _ _ (D6.r.bl Bw) (by kernel_rfl) rfl (kC oT6.one) ?_;intro wE bE hgE;have oE:=aB.bZ (oT6.below Bw) (D6.r.bl Bw) (by decide) (by decide) (by decide) hgE;have BE:=(D6.B.tr Bw).grown hgE (D6.B.tr Bw).size (fun k hk=>by injection hk with hk;subst hk;exact hgR);have bNE:=(bN6.bl Bw).grown hgE (by simp;omega);obtain⟨c_0,c_1,c_2,c_3,c_4,c_5,c_6⟩:=bNE.n7)
       refine tK hK fun hHeld=>?_
       clear hK K;refine(tW 4)<|tD ?_
       all_goals
         go_wp2_with fail
         obtain⟨q_0,q_1,q_2,q_3,q_4,q_5,q_6⟩:=bE.n7;refine bodyPost_ret (v:= .tuple #[.agg #[E1,E2,E3,E4,.int .i64 s,.int .i64 p,.int .i64 r],.int .i64 (bI bb)]) (by simp[results,results42,go_sem,q_0,q_1,q_2,q_3,q_4,q_5,q_6]) rfl ⟨_,_,_,_,rfl,oE,BE⟩
     . obtain⟨⟨z,s2,p2,r2⟩,hz⟩:∃z,z=kH (x,s,p,r) a:=⟨_,rfl⟩;rw[<-hz]at CB e1;rw[<-e2]at CB;subst e1;clear hz e2;obtain⟨y_0,y_1,y_2,y_3,y_4,y_5,y_6⟩:=D4.p.n7;obtain⟨a_0,a_1,a_2⟩:=D4.a.n3;go_wp2_with fail
       refine(CB _ (hR.bl D4.B)).mono ?_;rintro e w5 ⟨E1,E2,E3,E4,rfl,oT,hb5⟩;have D5:=D4.bl hb5;have bN5:=bN4.bl hb5;clear y_0 y_1 y_2 y_3 y_4 y_5 y_6 a_0 a_1 a_2 hb5;have oT:=oT.mono D4.B.size;go_upto_region 10 with(refine aA rfl 32 _ _ rfl w5.heap.size #[E1,E2,E3,E4,.int .i64 s2,.int .i64 p2,.int .i64 r2] rfl rfl _ _ (Blk.aW w5 32 #[.slice none 0 0,.slice none 0 0,.slice none 0 0,.slice none 0 0,.int .i64 0,.int .i64 0,.int .i64 0]) (by kernel_rfl) rfl (kC oT.one) ?_;intro w6 bM6 hg6;have D6:=D5.alg hg6;have oT6:=aB.alg oT (by decide) (by decide) (by decide) hg6)
       obtain⟨y_0,y_1,y_2,y_3,y_4,y_5,y_6⟩:=bM6.n7;go_wp2_with (refine aA rfl 32 _ _ rfl gR #[E1,E2,E3,E4,.int .i64 s2,.int .i64 p2,.int .i64 r2] rfl rfl _ _ D6.r (by kernel_rfl) rfl (kC oT6.one) ?_;intro wE bE hgE)
       have oE:=aB.bZ oT6 D6.r (by decide) (by decide) (by decide) hgE;have BE:=D6.B.grown hgE D6.B.size (fun k hk=>by injection hk with hk;subst hk;exact hgR);obtain⟨q_0,q_1,q_2,q_3,q_4,q_5,q_6⟩:=bE.n7;refine bodyPost_ret (v:= .tuple #[.agg #[E1,E2,E3,E4,.int .i64 s2,.int .i64 p2,.int .i64 r2],.int .i64 n]) (by simp[results,results42,go_sem,q_0,q_1,q_2,q_3,q_4,q_5,q_6]) rfl ⟨_,_,_,_,rfl,oE,BE⟩
     . skip;obtain⟨ss,hss⟩:=Pj (vK (x,s,p,r) sam a);obtain⟨pp,hpp⟩:=Pj (vL (x,s,p,r) sam a);obtain⟨bb,hbb⟩:=Pj (nT (x,s,p,r) sam a);rw[<-hss,<-hpp,<-hbb]at CY;rw[<-hss,<-hpp]at e1;rw[<-hbb]at e2;subst e1 e2;clear hss hpp hbb;obtain⟨y_0,y_1,y_2,y_3,y_4,y_5,y_6⟩:=D4.p.n7;obtain⟨a_0,a_1,a_2⟩:=D4.a.n3;have hPl:=D4.p.lt;have hAl:=D4.a.lt;have Bw:Below w4.heap.size w4 w4.drew:=(Below.refl _ _).drew;have hz:w4.heap.size<=w4.drew.heap.size:=(by simp);go_wp2_with fail
       refine rB (fun w'=>w'.cell? ⟨gP,0,none⟩=some u1/\w'.cell? ⟨gP,1,none⟩=some u2/\w'.cell? ⟨gP,2,none⟩=some u3/\w'.cell? ⟨gP,3,none⟩=some u4/\w'.cell? ⟨gP,4,none⟩=some (.int .i64 s)/\w'.cell? ⟨gP,5,none⟩=some (.int .i64 p)/\w'.cell? ⟨gP,6,none⟩=some (.int .i64 r)/\w'.cell? ⟨gA,1,none⟩=some (.int .i64 a)) fun hHeld=>(tW 0)<|(tW 2)<|(tW 3)<|(tR [1])<|tL fun K hK=>?_
       go_simp
       (first|(go_at_call 100;go_must (refine(CS _).mono ?_;rintro e wX ⟨AS,cS,rfl,oS,hbX⟩;obtain⟨hcX,hfX,hzX⟩:=bkn hbX w4.heap.size hz;have hz:=hzX;have Bw:=Bw.tr hbX);(try go_wp2_with fail))|(go_at_call 99;go_must (refine(CY _ _ (hR.bl (D4.B.tr Bw)) (oS.rd fQ (by decide))).mono ?_;rintro e wX ⟨E1,E2,E3,E4,rfl,oT,hbX⟩;have oT:=oT.mono (D4.B.tr Bw).size;obtain⟨hcX,hfX,hzX⟩:=bkn hbX w4.heap.size hz;have hz:=hzX;have Bw:=Bw.tr hbX);(try go_wp2_with fail)))
       refine tK hK fun hHeld=>?_
       clear hK K;refine(tR [4])<|tL fun K hK=>?_
       go_simp
       (first|(go_at_call 100;go_must (refine(CS _).mono ?_;rintro e wX ⟨AS,cS,rfl,oS,hbX⟩;obtain⟨hcX,hfX,hzX⟩:=bkn hbX w4.heap.size hz;have hz:=hzX;have Bw:=Bw.tr hbX);(try go_wp2_with fail))|(go_at_call 99;go_must (refine(CY _ _ (hR.bl (D4.B.tr Bw)) (oS.rd fQ (by decide))).mono ?_;rintro e wX ⟨E1,E2,E3,E4,rfl,oT,hbX⟩;have oT:=oT.mono (D4.B.tr Bw).size;obtain⟨hcX,hfX,hzX⟩:=bkn hbX w4.heap.size hz;have hz:=hzX;have Bw:=Bw.tr hbX);(try go_wp2_with fail)))
       refine tK hK fun hHeld=>?_
       clear hK K;refine(tW 5)<|(tW 6)<|(tW 7)<|(tR [8])<|tL fun K hK=>?_
       (refine aF rfl 32 _ _ rfl gN #[E1,E2,E3,E4,.int .i64 ss,.int .i64 pp,.int .i64 r] rfl rfl _ _ (bN4.bl Bw) (by kernel_rfl) rfl (kC oT.one) ?_;intro w6 bN6 hg6;have D6:=(D4.bl Bw).gr hg6 hgN hPN hAN hRN;have oT6:=aB.bZ oT (bN4.bl Bw) (by decide) (by decide) (by decide) hg6;obtain⟨c_0,c_1,c_2,c_3,c_4,c_5,c_6⟩:=D6.p.n7;obtain⟨f_0,f_1,f_2⟩:=D6.a.n3)
       refine tK hK fun hHeld=>?_
       clear hK K;refine(tW 9)<|tD ?_;clear hHeld hz hcX hfX hzX;obtain⟨y_0,y_1,y_2,y_3,y_4,y_5,y_6⟩:=bN6.n7;have hNl:=bN6.lt;have Bw:Below w6.heap.size w6 w6.drew:=(Below.refl _ _).drew;have hz:w6.heap.size<=w6.drew.heap.size:=(by simp);go_wp2_with fail
       refine rB (fun w'=>w'.cell? ⟨gN,0,none⟩=some (E1)/\w'.cell? ⟨gN,1,none⟩=some (E2)/\w'.cell? ⟨gN,2,none⟩=some (E3)/\w'.cell? ⟨gN,3,none⟩=some (E4)/\w'.cell? ⟨gN,4,none⟩=some (.int .i64 ss)/\w'.cell? ⟨gN,5,none⟩=some (.int .i64 pp)/\w'.cell? ⟨gN,6,none⟩=some (.int .i64 r)) fun hHeld=>(tW 0)<|(tW 1)<|(tR [2])<|tL fun K hK=>?_
       go_simp
       (go_at_call 103;go_must (refine(uZ bb _).mono ?_;rintro e wX ⟨rfl,rfl⟩))
       refine tK hK fun hHeld=>?_
       clear hK K;refine(tR [3])<|tL fun K hK=>?_
       (refine aF rfl 32 _ _ rfl gR #[E1,E2,E3,E4,.int .i64 ss,.int .i64 pp,.int .i64 r] rfl rfl _ _ (D6.r.bl Bw) (by kernel_rfl) rfl (kC oT6.one) ?_;intro wE bE hgE;have oE:=aB.bZ (oT6.below Bw) (D6.r.bl Bw) (by decide) (by decide) (by decide) hgE;have BE:=(D6.B.tr Bw).grown hgE (D6.B.tr Bw).size (fun k hk=>by injection hk with hk;subst hk;exact hgR);have bNE:=(bN6.bl Bw).grown hgE (by simp;omega);obtain⟨c_0,c_1,c_2,c_3,c_4,c_5,c_6⟩:=bNE.n7)
       refine tK hK fun hHeld=>?_
       clear hK K;refine(tW 4)<|tD ?_
       all_goals
         go_wp2_with fail
         obtain⟨q_0,q_1,q_2,q_3,q_4,q_5,q_6⟩:=bE.n7;refine bodyPost_ret (v:= .tuple #[.agg #[E1,E2,E3,E4,.int .i64 ss,.int .i64 pp,.int .i64 r],.int .i64 (bI bb)]) (by simp[results,results42,go_sem,q_0,q_1,q_2,q_3,q_4,q_5,q_6]) rfl ⟨_,_,_,_,rfl,oE,BE⟩
     . obtain⟨⟨z,bb⟩,hz⟩:∃z,z=fF x:=⟨_,rfl⟩;rw[<-hz]at CU e1 e2;simp only at CU e1 e2;subst e1 e2;clear hz;obtain⟨y_0,y_1,y_2,y_3,y_4,y_5,y_6⟩:=D4.p.n7;obtain⟨a_0,a_1,a_2⟩:=D4.a.n3;go_wp2_with fail
       refine(CU _ (hR.bl D4.B)).mono ?_;rintro e w7 ⟨A1,e1,A2,e2,A3,e3,A4,e4,rfl,oT,hb7⟩;have D7:=D4.bl hb7;have bN7:=bN4.bl hb7;have oT:=oT.mono D4.B.size;clear y_0 y_1 y_2 y_3 y_4 y_5 y_6 a_0 a_1 a_2 hb7;have hNl:=bN7.lt;go_upto_region 15 with(fail)
       have bM5:=Blk.aW w7 30 #[.slice A1 z.1.length e1,.slice A2 z.2.1.length e2,.slice A3 z.2.2.1.length e3,.slice A4 z.2.2.2.length e4];have D5:=D7.al (.cells #[.slice A1 z.1.length e1,.slice A2 z.2.1.length e2,.slice A3 z.2.2.1.length e3,.slice A4 z.2.2.2.length e4] 30);have oT:=oT.alloc (.cells #[.slice A1 z.1.length e1,.slice A2 z.2.1.length e2,.slice A3 z.2.2.1.length e3,.slice A4 z.2.2.2.length e4] 30);have bN5:=bN7.alloc (.cells #[.slice A1 z.1.length e1,.slice A2 z.2.1.length e2,.slice A3 z.2.2.1.length e3,.slice A4 z.2.2.2.length e4] 30);obtain⟨w5,hw5⟩:=Pj (w7.alloc (.cells #[.slice A1 z.1.length e1,.slice A2 z.2.1.length e2,.slice A3 z.2.2.1.length e3,.slice A4 z.2.2.2.length e4] 30));rw[<-hw5]at bM5 D5 oT bN5⊢;clear hw5;obtain⟨m_0,m_1,m_2,m_3⟩:=bM5.n4;obtain⟨o_0,o_1,o_2,o_3,o_4,o_5,o_6⟩:=bN5.n7;have fO:=fun j=>bN5.frozen j
       have hgg:=cO (cO (cO (cO (World.grownBy.refl w5 (some gN)) 0 (.slice A1 z.1.length e1)) 1 (.slice A2 z.2.1.length e2)) 2 (.slice A3 z.2.2.1.length e3)) 3 (.slice A4 z.2.2.2.length e4);have bN6:Blk ((((w5.setCell ⟨gN,0,none⟩ (.slice A1 z.1.length e1)).setCell ⟨gN,1,none⟩ (.slice A2 z.2.1.length e2)).setCell ⟨gN,2,none⟩ (.slice A3 z.2.2.1.length e3)).setCell ⟨gN,3,none⟩ (.slice A4 z.2.2.2.length e4)) gN 32 #[.slice A1 z.1.length e1,.slice A2 z.2.1.length e2,.slice A3 z.2.2.1.length e3,.slice A4 z.2.2.2.length e4,.int .i64 s,.int .i64 p,.int .i64 r]:=(((bN5.st 0 _ _ rfl).st 1 _ _ rfl).st 2 _ _ rfl).st 3 _ _ rfl;have D6:=D5.gr hgg hgN hPN hAN hRN;have oT6:=aB.bZ oT bN5 (by decide) (by decide) (by decide) hgg;go_upto_region 19 with(fail)
       obtain⟨w6,hW6⟩:=Pj ((((w5.setCell ⟨gN,0,none⟩ (.slice A1 z.1.length e1)).setCell ⟨gN,1,none⟩ (.slice A2 z.2.1.length e2)).setCell ⟨gN,2,none⟩ (.slice A3 z.2.2.1.length e3)).setCell ⟨gN,3,none⟩ (.slice A4 z.2.2.2.length e4));rw[<-hW6]at bN6 D6 oT6⊢;clear hW6 hgg fO o_0 o_1 o_2 o_3 o_4 o_5 o_6;obtain⟨y_0,y_1,y_2,y_3,y_4,y_5,y_6⟩:=bN6.n7;have hNl:=bN6.lt;have Bw:Below w6.heap.size w6 w6.drew:=(Below.refl _ _).drew;have hz:w6.heap.size<=w6.drew.heap.size:=(by simp);go_wp2_with fail
       refine rB (fun w'=>w'.cell? ⟨gN,0,none⟩=some (.slice A1 z.1.length e1)/\w'.cell? ⟨gN,1,none⟩=some (.slice A2 z.2.1.length e2)/\w'.cell? ⟨gN,2,none⟩=some (.slice A3 z.2.2.1.length e3)/\w'.cell? ⟨gN,3,none⟩=some (.slice A4 z.2.2.2.length e4)/\w'.cell? ⟨gN,4,none⟩=some (.int .i64 s)/\w'.cell? ⟨gN,5,none⟩=some (.int .i64 p)/\w'.cell? ⟨gN,6,none⟩=some (.int .i64 r)) fun hHeld=>(tW 0)<|(tW 1)<|(tR [2])<|tL fun K hK=>?_
       go_simp
       (go_at_call 103;go_must (refine(uZ bb _).mono ?_;rintro e wX ⟨rfl,rfl⟩))
       refine tK hK fun hHeld=>?_
       clear hK K;refine(tR [3])<|tL fun K hK=>?_
       (refine aF rfl 32 _ _ rfl gR #[.slice A1 z.1.length e1,.slice A2 z.2.1.length e2,.slice A3 z.2.2.1.length e3,.slice A4 z.2.2.2.length e4,.int .i64 s,.int .i64 p,.int .i64 r] rfl rfl _ _ (D6.r.bl Bw) (by kernel_rfl) rfl (kC oT6.one) ?_;intro wE bE hgE;have oE:=aB.bZ (oT6.below Bw) (D6.r.bl Bw) (by decide) (by decide) (by decide) hgE;have BE:=(D6.B.tr Bw).grown hgE (D6.B.tr Bw).size (fun k hk=>by injection hk with hk;subst hk;exact hgR);have bNE:=(bN6.bl Bw).grown hgE (by simp;omega);obtain⟨c_0,c_1,c_2,c_3,c_4,c_5,c_6⟩:=bNE.n7)
       refine tK hK fun hHeld=>?_
       clear hK K;refine(tW 4)<|tD ?_
       all_goals
         go_wp2_with fail
         obtain⟨q_0,q_1,q_2,q_3,q_4,q_5,q_6⟩:=bE.n7;refine bodyPost_ret (v:= .tuple #[.agg #[.slice A1 z.1.length e1,.slice A2 z.2.1.length e2,.slice A3 z.2.2.1.length e3,.slice A4 z.2.2.2.length e4,.int .i64 s,.int .i64 p,.int .i64 r],.int .i64 (bI bb)]) (by simp[results,results42,go_sem,q_0,q_1,q_2,q_3,q_4,q_5,q_6]) rfl ⟨_,_,_,_,rfl,oE,BE⟩
     . subst e1 e2;obtain⟨y_0,y_1,y_2,y_3,y_4,y_5,y_6⟩:=D4.p.n7;obtain⟨a_0,a_1,a_2⟩:=D4.a.n3;go_wp2_with fail
       refine(CD _ (hR.bl D4.B)).mono ?_;rintro e w6 ⟨rfl,hb6⟩;have oT6:=oO4.below hb6;have D6:=D4.bl hb6;have bN6:=bN4.bl hb6;clear y_0 y_1 y_2 y_3 y_4 y_5 y_6 a_0 a_1 a_2 hb6;go_upto_region 19 with(fail)
       obtain⟨y_0,y_1,y_2,y_3,y_4,y_5,y_6⟩:=bN6.n7;have hNl:=bN6.lt;have Bw:Below w6.heap.size w6 w6.drew:=(Below.refl _ _).drew;have hz:w6.heap.size<=w6.drew.heap.size:=(by simp);go_wp2_with fail
       refine rB (fun w'=>w'.cell? ⟨gN,0,none⟩=some (C1)/\w'.cell? ⟨gN,1,none⟩=some (C2)/\w'.cell? ⟨gN,2,none⟩=some (C3)/\w'.cell? ⟨gN,3,none⟩=some (C4)/\w'.cell? ⟨gN,4,none⟩=some (.int .i64 s)/\w'.cell? ⟨gN,5,none⟩=some (.int .i64 p)/\w'.cell? ⟨gN,6,none⟩=some (.int .i64 r)) fun hHeld=>(tW 0)<|(tW 1)<|(tR [2])<|tL fun K hK=>?_
       go_simp
       (go_at_call 103;go_must (refine(uZ true _).mono ?_;rintro e wX ⟨rfl,rfl⟩))
       refine tK hK fun hHeld=>?_
       clear hK K;refine(tR [3])<|tL fun K hK=>?_
       (refine aF rfl 32 _ _ rfl gR #[C1,C2,C3,C4,.int .i64 s,.int .i64 p,.int .i64 r] rfl rfl _ _ (D6.r.bl Bw) (by kernel_rfl) rfl (kC oT6.one) ?_;intro wE bE hgE;have oE:=aB.bZ (oT6.below Bw) (D6.r.bl Bw) (by decide) (by decide) (by decide) hgE;have BE:=(D6.B.tr Bw).grown hgE (D6.B.tr Bw).size (fun k hk=>by injection hk with hk;subst hk;exact hgR);have bNE:=(bN6.bl Bw).grown hgE (by simp;omega);obtain⟨c_0,c_1,c_2,c_3,c_4,c_5,c_6⟩:=bNE.n7)
       refine tK hK fun hHeld=>?_
       clear hK K;refine(tW 4)<|tD ?_
       all_goals
         go_wp2_with fail
         obtain⟨q_0,q_1,q_2,q_3,q_4,q_5,q_6⟩:=bE.n7;refine bodyPost_ret (v:= .tuple #[.agg #[C1,C2,C3,C4,.int .i64 s,.int .i64 p,.int .i64 r],.int .i64 (bI true)]) (by simp[results,results42,go_sem,q_0,q_1,q_2,q_3,q_4,q_5,q_6]) rfl ⟨_,_,_,_,rfl,oE,BE⟩
end Go.Proofs.YtljfoohaapckeaaGreatDoor
