/- DoAct of the reference: the walk. Conditions: sizes. -/
import Derived.Test.YtfdbcihcdjjdhaaGreatDoorYActPl
namespace Go.Proofs.YtfdbcihcdjjdhaaGreatDoor
open Go.ChangeShapes Go.WideShapes Go.ChangeAt Go.RowKit
set_option linter.unusedVariables false
set_option linter.unusedSimpArgs false
set_option maxHeartbeats 4000000
set_option maxRecDepth 100000
theorem boolS_any (b:Bool) (w:World):Calls Tryz.prog 101 #[.bool b] w (Pure (.int .i64 (bI b)) w):=by
 go_enter Tryz.func101,Tryz.ntmps101
 cases b<;>go_wp2<;>go_ret<;>exact⟨rfl,rfl⟩
theorem doActS_any (u1 u2 u3 u4:Value) (x:Fl) (s p r k a b:Int) (w:World) (h1:Rd 1 RInt w u1 x.1) (h2:Rd 3 RDom w u2 x.2.1) (h3:Rd 3 RDom w u3 x.2.2.1) (h4:Rd 2 RPair w u4 x.2.2.2) (hs:Small4 x):
 Calls Tryz.prog 24 #[.agg #[u1,u2,u3,u4,.int .i64 s,.int .i64 p,.int .i64 r],.agg #[.int .i64 k,.int .i64 a,.int .i64 b]] w (RetW (fun v=> .tuple #[v,.int .i64 (actN (x,s,p,r) (k,a,b))]) (actW (x,s,p,r) (k,a,b)) w):=by
 obtain⟨q,hq⟩:∃q,q=actW (x,s,p,r) (k,a,b):=⟨_,rfl⟩;obtain⟨n,hn⟩:∃n,n=actN (x,s,p,r) (k,a,b):=⟨_,rfl⟩;obtain⟨kk,hkk⟩:∃kk,kk=workOk (x,s,p,r):=⟨_,rfl⟩;obtain⟨ao,hao⟩:∃ao,ao=actOk k a b:=⟨_,rfl⟩;have hno:= @act_no (x,s,p,r) (k,a,b);have hyes:= @act_yes (x,s,p,r) k a b;simp only at hno hyes;rw[←hq,←hn]at hno hyes⊢;rw[←hkk,←hao]at hno hyes;have CK:∀w,R4 w u1 u2 u3 u4 x→Calls Tryz.prog 82 #[.agg #[u1,u2,u3,u4,.int .i64 s,.int .i64 p,.int .i64 r]] w (Ret (.bool kk) w):=fun w h=>by rw[hkk];exact workOkS_any _ _ _ _ (x,s,p,r) w h.a h.b h.c h.d hs.2.1
 have CA:∀w,Calls Tryz.prog 95 #[.agg #[.int .i64 k,.int .i64 a,.int .i64 b]] w (Ret (.bool ao) w):=fun w=>by rw[hao];exact actOkS_any k a b w
 have CC:∀w,R4 w u1 u2 u3 u4 x→Calls Tryz.prog 81 #[.agg #[u1,u2,u3,u4,.int .i64 s,.int .i64 p,.int .i64 r]] w (RetW (fun v=>v) (x,s,p,r) w):=fun w h=>(copyWkS_any _ _ _ _ x s p r w h.a h.b h.c h.d hs).mono fun _ _=>retW_w
 have CT:∀w,R4 w u1 u2 u3 u4 x→Calls Tryz.prog 96 #[.agg #[u1,u2,u3,u4,.int .i64 s,.int .i64 p,.int .i64 r],.agg #[.int .i64 a,.int .i64 b]] w (RetW (fun v=> .tuple #[v,.bool (turnOk (x,s,p,r) (a,b))]) (turnFl (x,s,p,r) (a,b),s,p,r) w):=fun w h=>(turnS_any _ _ _ _ x s p r a b w h.a h.b h.c h.d hs).mono fun _ _=>retW_b
 have CB:∀w,R4 w u1 u2 u3 u4 x→Calls Tryz.prog 18 #[.agg #[u1,u2,u3,u4,.int .i64 s,.int .i64 p,.int .i64 r],.int .i64 a] w (RetW (fun v=> .tuple #[v,.int .i64 (brkN (x,s,p,r) a)]) (brkWk (x,s,p,r) a) w):=fun w h=>(brkS_any _ _ _ _ x s p r a w h.a h.b h.c h.d hs).mono fun _ _=>retW_n
 have CY:∀w u,R4 w u1 u2 u3 u4 x→Rd 2 RPair w u sam→Calls Tryz.prog 97 #[.agg #[u1,u2,u3,u4,.int .i64 s,.int .i64 p,.int .i64 r],u,.int .i64 a] w (RetW (fun v=> .tuple #[v,.bool (buyOk (x,s,p,r) sam a)]) (x,buyS (x,s,p,r) sam a,buyP (x,s,p,r) sam a,r) w):=fun w u h hu=>(buyS_any _ _ _ _ u x s p r sam a w h.a h.b h.c h.d hu hs).mono fun _ _=>retW_b
 have CU:∀w,R4 w u1 u2 u3 u4 x→Calls Tryz.prog 99 #[.agg #[u1,u2,u3,u4]] w (RetFlB (undoFl x).1 (undoFl x).2 w):=fun w h=>undoS_any _ _ _ _ x w h.a h.b h.c h.d hs
 have CD:∀w,R4 w u1 u2 u3 u4 x→Calls Tryz.prog 100 #[.agg #[u1,u2,u3,u4,.int .i64 s,.int .i64 p,.int .i64 r]] w (Ret (.bool kk) w):=fun w h=>by rw[hkk];exact auditS_any _ _ _ _ x s p r w h.a h.b h.c h.d hs
 have CS:∀w,Calls Tryz.prog 98 #[] w (RetOwn 144 2 ePair sam w):=fun w=>sampleS_any w
 have HN:=Lib.hid hno;have HY:=Lib.hid hyes;have hR:R4 w u1 u2 u3 u4 x:=⟨h1,h2,h3,h4⟩;clear hq hn hkk hao hno hyes h1 h2 h3 h4
 have D0:DA w (((w.alloc (.cells #[u1,u2,u3,u4,.int .i64 s,.int .i64 p,.int .i64 r] 38)).alloc (.cells #[.int .i64 k,.int .i64 a,.int .i64 b] 48)).alloc (.cells #[.slice none 0 0,.slice none 0 0,.slice none 0 0,.slice none 0 0,.int .i64 0,.int .i64 0,.int .i64 0] 38)) w.heap.size (w.heap.size+1) (w.heap.size+1+1) #[u1,u2,u3,u4,.int .i64 s,.int .i64 p,.int .i64 r] #[.int .i64 k,.int .i64 a,.int .i64 b] #[.slice none 0 0,.slice none 0 0,.slice none 0 0,.slice none 0 0,.int .i64 0,.int .i64 0,.int .i64 0]:=
  ⟨(((Below.refl w.heap.size w).al _).al _).al _,((Blk.new_ w _ _).alloc _).alloc _,(Blk.new2 (w.alloc _) _ _ (w.heap.size+1) (by simp)).alloc _,Blk.new2 ((w.alloc _).alloc _) _ _ (w.heap.size+1+1) (by simp)⟩
 go_enter Tryz.func24,Tryz.ntmps24
 go_wp2_with fail
 obtain⟨W0,hW0⟩:∃W0,W0=((w.alloc (.cells #[u1,u2,u3,u4,.int .i64 s,.int .i64 p,.int .i64 r] 38)).alloc (.cells #[.int .i64 k,.int .i64 a,.int .i64 b] 48)).alloc (.cells #[.slice none 0 0,.slice none 0 0,.slice none 0 0,.slice none 0 0,.int .i64 0,.int .i64 0,.int .i64 0] 38):=⟨_,rfl⟩;obtain⟨gP,hgP⟩:∃g,g=w.heap.size:=⟨_,rfl⟩;obtain⟨gA,hgA⟩:∃g,g=w.heap.size+1:=⟨_,rfl⟩;obtain⟨gR,hgR'⟩:∃g,g=w.heap.size+1+1:=⟨_,rfl⟩;rw[←hW0,←hgR',←hgA,←hgP]at D0;rw[←hW0,←hgR',←hgA,←hgP];have hgR:w.heap.size≤gR:=(by omega);have hgPR:gP≠gR:=(by omega);have hgAR:gA≠gR:=(by omega);have hgPA:gP≠gA:=(by omega);clear hW0 hgP hgA hgR';refine(CC _ (hR.bl D0.B)).mono ?_;rintro e w3 ⟨C1,C2,C3,C4,rfl,oO,hb3⟩;have D3:=D0.bl hb3;have oO:=oO.mono D0.B.size;clear D0 hb3;go_upto_region 2 with(refine wpList_storeRow rfl 38 _ _ rfl w3.heap.size #[C1,C2,C3,C4,.int .i64 s,.int .i64 p,.int .i64 r] rfl rfl _ _ (Blk.new_ w3 38 #[.slice none 0 0,.slice none 0 0,.slice none 0 0,.slice none 0 0,.int .i64 0,.int .i64 0,.int .i64 0]) (by kernel_rfl) rfl (one7 oO.one) ?_;intro w0 bN0 hg4;have D0:=D3.alg hg4;have oO:=OwnFl.alg oO (by decide) (by decide) (by decide) hg4)
 obtain⟨gN,hgN'⟩:∃g,g=w3.heap.size:=⟨_,rfl⟩;have hPN:gP≠gN:=by have:=D3.p.lt;omega
 have hAN:gA≠gN:=by have:=D3.a.lt;omega
 have hRN:gR≠gN:=by have:=D3.r.lt;omega
 have hgN:w.heap.size≤gN:=by have:=D3.B.size;omega
 rw[←hgN']at bN0⊢;clear hgN' hg4 D3;obtain⟨y_0,y_1,y_2,y_3,y_4,y_5,y_6⟩:=D0.p.n7;go_wp2_with fail
 refine(CK _ (hR.bl D0.B)).mono ?_;rintro e w1 ⟨rfl,hb1⟩;have D1:=D0.bl hb1;have bN1:=bN0.bl hb1;have oO1:=oO.below hb1;clear D0 bN0 oO hb1 y_0 y_1 y_2 y_3 y_4 y_5 y_6;cases kk
 · obtain ⟨rfl, rfl⟩ := HN.out (by first | rfl | trivial);obtain⟨y_0,y_1,y_2,y_3,y_4,y_5,y_6⟩:=bN1.n7;go_wp2_with (refine wpList_storeRow rfl 38 _ _ rfl gR #[C1,C2,C3,C4,.int .i64 s,.int .i64 p,.int .i64 r] rfl rfl _ _ D1.r (by kernel_rfl) rfl (one7 oO1.one) ?_;intro wE bE hgE)
   have oE:=OwnFl.rowI oO1 D1.r (by decide) (by decide) (by decide) hgE;have BE:=D1.B.grown hgE D1.B.size (fun k hk=>by injection hk with hk;subst hk;exact hgR);obtain⟨q_0,q_1,q_2,q_3,q_4,q_5,q_6⟩:=bE.n7;refine bodyPost_ret (v:= .tuple #[.agg #[C1,C2,C3,C4,.int .i64 s,.int .i64 p,.int .i64 r],.int .i64 (-1)]) (by simp[results,Tryz.results24,go_sem,q_0,q_1,q_2,q_3,q_4,q_5,q_6]) rfl ⟨_,_,_,_,rfl,oE,BE⟩
 · obtain⟨a_0,a_1,a_2⟩:=D1.a.n3;go_wp2_with fail
   refine(CA _).mono ?_;rintro e w4 ⟨rfl,hb4⟩;have D4:=D1.bl hb4;have bN4:=bN1.bl hb4;have oO4:=oO1.below hb4;clear D1 bN1 oO1 hb4 a_0 a_1 a_2;cases ao
   · obtain ⟨rfl, rfl⟩ := HN.out (by first | rfl | trivial);obtain⟨y_0,y_1,y_2,y_3,y_4,y_5,y_6⟩:=bN4.n7;go_wp2_with (refine wpList_storeRow rfl 38 _ _ rfl gR #[C1,C2,C3,C4,.int .i64 s,.int .i64 p,.int .i64 r] rfl rfl _ _ D4.r (by kernel_rfl) rfl (one7 oO4.one) ?_;intro wE bE hgE)
     have oE:=OwnFl.rowI oO4 D4.r (by decide) (by decide) (by decide) hgE;have BE:=D4.B.grown hgE D4.B.size (fun k hk=>by injection hk with hk;subst hk;exact hgR);obtain⟨q_0,q_1,q_2,q_3,q_4,q_5,q_6⟩:=bE.n7;refine bodyPost_ret (v:= .tuple #[.agg #[C1,C2,C3,C4,.int .i64 s,.int .i64 p,.int .i64 r],.int .i64 (-1)]) (by simp[results,Tryz.results24,go_sem,q_0,q_1,q_2,q_3,q_4,q_5,q_6]) rfl ⟨_,_,_,_,rfl,oE,BE⟩
   · obtain⟨a_0,a_1,a_2⟩:=D4.a.n3;go_upto_region 6 with(fail)
     clear a_0 a_1 a_2;rcases HY.out (by first|rfl|trivial) (by first|rfl|trivial)with⟨rfl,e1,e2⟩|⟨rfl,e1,e2⟩|⟨rfl,e1,e2⟩|⟨rfl,e1,e2⟩|⟨rfl,e1,e2⟩
     · obtain⟨z,hz⟩:∃z,z=turnFl (x,s,p,r) (a,b):=⟨_,rfl⟩;obtain⟨bb,hbb⟩:∃z,z=turnOk (x,s,p,r) (a,b):=⟨_,rfl⟩;rw[←hz,←hbb]at CT;rw[←hz]at e1;rw[←hbb]at e2;subst e1 e2;clear hz hbb;obtain⟨y_0,y_1,y_2,y_3,y_4,y_5,y_6⟩:=D4.p.n7;obtain⟨a_0,a_1,a_2⟩:=D4.a.n3;go_wp2_with fail
       refine(CT _ (hR.bl D4.B)).mono ?_;rintro e w5 ⟨E1,E2,E3,E4,rfl,oT,hb5⟩;have D5:=D4.bl hb5;have bN5:=bN4.bl hb5;clear y_0 y_1 y_2 y_3 y_4 y_5 y_6 a_0 a_1 a_2 hb5;have oT:=oT.mono D4.B.size;go_upto_region 19 with(refine wpList_storeRow rfl 38 _ _ rfl gN #[E1,E2,E3,E4,.int .i64 s,.int .i64 p,.int .i64 r] rfl rfl _ _ bN5 (by kernel_rfl) rfl (one7 oT.one) ?_;intro w6 bN6 hg6)
       have D6:=D5.gr hg6 hgN hPN hAN hRN;have oT6:=OwnFl.rowI oT bN5 (by decide) (by decide) (by decide) hg6;obtain⟨y_0,y_1,y_2,y_3,y_4,y_5,y_6⟩:=bN6.n7;have hNl:=bN6.lt;have Bw:Below w6.heap.size w6 w6.drew:=(Below.refl _ _).drew;have hz:w6.heap.size≤w6.drew.heap.size:=(by simp);go_wp2_with fail
       refine rB (fun w'=>w'.cell? ⟨gN,0,none⟩=some (E1)∧w'.cell? ⟨gN,1,none⟩=some (E2)∧w'.cell? ⟨gN,2,none⟩=some (E3)∧w'.cell? ⟨gN,3,none⟩=some (E4)∧w'.cell? ⟨gN,4,none⟩=some (.int .i64 s)∧w'.cell? ⟨gN,5,none⟩=some (.int .i64 p)∧w'.cell? ⟨gN,6,none⟩=some (.int .i64 r)) fun hHeld=>(tW 0)<|(tW 1)<|(tR [2])<|tL fun K hK=>?_
       go_simp
       (go_at_call 101;go_must (refine(boolS_any bb _).mono ?_;rintro e wX ⟨rfl,rfl⟩))
       refine tK hK fun hHeld=>?_
       clear hK K;refine(tR [3])<|tL fun K hK=>?_
       (refine step_storeRow rfl 38 _ _ rfl gR #[E1,E2,E3,E4,.int .i64 s,.int .i64 p,.int .i64 r] rfl rfl _ _ (D6.r.bl Bw) (by kernel_rfl) rfl (one7 oT6.one) ?_;intro wE bE hgE;have oE:=OwnFl.rowI (oT6.below Bw) (D6.r.bl Bw) (by decide) (by decide) (by decide) hgE;have BE:=(D6.B.tr Bw).grown hgE (D6.B.tr Bw).size (fun k hk=>by injection hk with hk;subst hk;exact hgR);have bNE:=(bN6.bl Bw).grown hgE (by simp;omega);obtain⟨c_0,c_1,c_2,c_3,c_4,c_5,c_6⟩:=bNE.n7)
       refine tK hK fun hHeld=>?_
       clear hK K;refine(tW 4)<|tD ?_
       all_goals
         go_wp2_with fail
         obtain⟨q_0,q_1,q_2,q_3,q_4,q_5,q_6⟩:=bE.n7;refine bodyPost_ret (v:= .tuple #[.agg #[E1,E2,E3,E4,.int .i64 s,.int .i64 p,.int .i64 r],.int .i64 (bI bb)]) (by simp[results,Tryz.results24,go_sem,q_0,q_1,q_2,q_3,q_4,q_5,q_6]) rfl ⟨_,_,_,_,rfl,oE,BE⟩
     · obtain⟨⟨z,s2,p2,r2⟩,hz⟩:∃z,z=brkWk (x,s,p,r) a:=⟨_,rfl⟩;rw[←hz]at CB e1;rw[←e2]at CB;subst e1;clear hz e2;obtain⟨y_0,y_1,y_2,y_3,y_4,y_5,y_6⟩:=D4.p.n7;obtain⟨a_0,a_1,a_2⟩:=D4.a.n3;go_wp2_with fail
       refine(CB _ (hR.bl D4.B)).mono ?_;rintro e w5 ⟨E1,E2,E3,E4,rfl,oT,hb5⟩;have D5:=D4.bl hb5;have bN5:=bN4.bl hb5;clear y_0 y_1 y_2 y_3 y_4 y_5 y_6 a_0 a_1 a_2 hb5;have oT:=oT.mono D4.B.size;go_upto_region 10 with(refine wpList_storeRow rfl 38 _ _ rfl w5.heap.size #[E1,E2,E3,E4,.int .i64 s2,.int .i64 p2,.int .i64 r2] rfl rfl _ _ (Blk.new_ w5 38 #[.slice none 0 0,.slice none 0 0,.slice none 0 0,.slice none 0 0,.int .i64 0,.int .i64 0,.int .i64 0]) (by kernel_rfl) rfl (one7 oT.one) ?_;intro w6 bM6 hg6;have D6:=D5.alg hg6;have oT6:=OwnFl.alg oT (by decide) (by decide) (by decide) hg6)
       obtain⟨y_0,y_1,y_2,y_3,y_4,y_5,y_6⟩:=bM6.n7;go_wp2_with (refine wpList_storeRow rfl 38 _ _ rfl gR #[E1,E2,E3,E4,.int .i64 s2,.int .i64 p2,.int .i64 r2] rfl rfl _ _ D6.r (by kernel_rfl) rfl (one7 oT6.one) ?_;intro wE bE hgE)
       have oE:=OwnFl.rowI oT6 D6.r (by decide) (by decide) (by decide) hgE;have BE:=D6.B.grown hgE D6.B.size (fun k hk=>by injection hk with hk;subst hk;exact hgR);obtain⟨q_0,q_1,q_2,q_3,q_4,q_5,q_6⟩:=bE.n7;refine bodyPost_ret (v:= .tuple #[.agg #[E1,E2,E3,E4,.int .i64 s2,.int .i64 p2,.int .i64 r2],.int .i64 n]) (by simp[results,Tryz.results24,go_sem,q_0,q_1,q_2,q_3,q_4,q_5,q_6]) rfl ⟨_,_,_,_,rfl,oE,BE⟩
     · skip;obtain⟨ss,hss⟩:∃z,z=buyS (x,s,p,r) sam a:=⟨_,rfl⟩;obtain⟨pp,hpp⟩:∃z,z=buyP (x,s,p,r) sam a:=⟨_,rfl⟩;obtain⟨bb,hbb⟩:∃z,z=buyOk (x,s,p,r) sam a:=⟨_,rfl⟩;rw[←hss,←hpp,←hbb]at CY;rw[←hss,←hpp]at e1;rw[←hbb]at e2;subst e1 e2;clear hss hpp hbb;obtain⟨y_0,y_1,y_2,y_3,y_4,y_5,y_6⟩:=D4.p.n7;obtain⟨a_0,a_1,a_2⟩:=D4.a.n3;have hPl:=D4.p.lt;have hAl:=D4.a.lt;have Bw:Below w4.heap.size w4 w4.drew:=(Below.refl _ _).drew;have hz:w4.heap.size≤w4.drew.heap.size:=(by simp);go_wp2_with fail
       refine rB (fun w'=>w'.cell? ⟨gP,0,none⟩=some u1∧w'.cell? ⟨gP,1,none⟩=some u2∧w'.cell? ⟨gP,2,none⟩=some u3∧w'.cell? ⟨gP,3,none⟩=some u4∧w'.cell? ⟨gP,4,none⟩=some (.int .i64 s)∧w'.cell? ⟨gP,5,none⟩=some (.int .i64 p)∧w'.cell? ⟨gP,6,none⟩=some (.int .i64 r)∧w'.cell? ⟨gA,1,none⟩=some (.int .i64 a)) fun hHeld=>(tW 0)<|(tW 2)<|(tW 3)<|(tR [1])<|tL fun K hK=>?_
       go_simp
       (first|(go_at_call 98;go_must (refine(CS _).mono ?_;rintro e wX ⟨AS,cS,rfl,oS,hbX⟩;obtain⟨hcX,hfX,hzX⟩:=bkn hbX w4.heap.size hz;have hz:=hzX;have Bw:=Bw.tr hbX);(try go_wp2_with fail))|(go_at_call 97;go_must (refine(CY _ _ (hR.bl (D4.B.tr Bw)) (oS.rd lenBox (by decide))).mono ?_;rintro e wX ⟨E1,E2,E3,E4,rfl,oT,hbX⟩;have oT:=oT.mono (D4.B.tr Bw).size;obtain⟨hcX,hfX,hzX⟩:=bkn hbX w4.heap.size hz;have hz:=hzX;have Bw:=Bw.tr hbX);(try go_wp2_with fail)))
       refine tK hK fun hHeld=>?_
       clear hK K;refine(tR [4])<|tL fun K hK=>?_
       go_simp
       (first|(go_at_call 98;go_must (refine(CS _).mono ?_;rintro e wX ⟨AS,cS,rfl,oS,hbX⟩;obtain⟨hcX,hfX,hzX⟩:=bkn hbX w4.heap.size hz;have hz:=hzX;have Bw:=Bw.tr hbX);(try go_wp2_with fail))|(go_at_call 97;go_must (refine(CY _ _ (hR.bl (D4.B.tr Bw)) (oS.rd lenBox (by decide))).mono ?_;rintro e wX ⟨E1,E2,E3,E4,rfl,oT,hbX⟩;have oT:=oT.mono (D4.B.tr Bw).size;obtain⟨hcX,hfX,hzX⟩:=bkn hbX w4.heap.size hz;have hz:=hzX;have Bw:=Bw.tr hbX);(try go_wp2_with fail)))
       refine tK hK fun hHeld=>?_
       clear hK K;refine(tW 5)<|(tW 6)<|(tW 7)<|(tR [8])<|tL fun K hK=>?_
       (refine step_storeRow rfl 38 _ _ rfl gN #[E1,E2,E3,E4,.int .i64 ss,.int .i64 pp,.int .i64 r] rfl rfl _ _ (bN4.bl Bw) (by kernel_rfl) rfl (one7 oT.one) ?_;intro w6 bN6 hg6;have D6:=(D4.bl Bw).gr hg6 hgN hPN hAN hRN;have oT6:=OwnFl.rowI oT (bN4.bl Bw) (by decide) (by decide) (by decide) hg6;obtain⟨c_0,c_1,c_2,c_3,c_4,c_5,c_6⟩:=D6.p.n7;obtain⟨f_0,f_1,f_2⟩:=D6.a.n3)
       refine tK hK fun hHeld=>?_
       clear hK K;refine(tW 9)<|tD ?_;clear hHeld hz hcX hfX hzX;obtain⟨y_0,y_1,y_2,y_3,y_4,y_5,y_6⟩:=bN6.n7;have hNl:=bN6.lt;have Bw:Below w6.heap.size w6 w6.drew:=(Below.refl _ _).drew;have hz:w6.heap.size≤w6.drew.heap.size:=(by simp);go_wp2_with fail
       refine rB (fun w'=>w'.cell? ⟨gN,0,none⟩=some (E1)∧w'.cell? ⟨gN,1,none⟩=some (E2)∧w'.cell? ⟨gN,2,none⟩=some (E3)∧w'.cell? ⟨gN,3,none⟩=some (E4)∧w'.cell? ⟨gN,4,none⟩=some (.int .i64 ss)∧w'.cell? ⟨gN,5,none⟩=some (.int .i64 pp)∧w'.cell? ⟨gN,6,none⟩=some (.int .i64 r)) fun hHeld=>(tW 0)<|(tW 1)<|(tR [2])<|tL fun K hK=>?_
       go_simp
       (go_at_call 101;go_must (refine(boolS_any bb _).mono ?_;rintro e wX ⟨rfl,rfl⟩))
       refine tK hK fun hHeld=>?_
       clear hK K;refine(tR [3])<|tL fun K hK=>?_
       (refine step_storeRow rfl 38 _ _ rfl gR #[E1,E2,E3,E4,.int .i64 ss,.int .i64 pp,.int .i64 r] rfl rfl _ _ (D6.r.bl Bw) (by kernel_rfl) rfl (one7 oT6.one) ?_;intro wE bE hgE;have oE:=OwnFl.rowI (oT6.below Bw) (D6.r.bl Bw) (by decide) (by decide) (by decide) hgE;have BE:=(D6.B.tr Bw).grown hgE (D6.B.tr Bw).size (fun k hk=>by injection hk with hk;subst hk;exact hgR);have bNE:=(bN6.bl Bw).grown hgE (by simp;omega);obtain⟨c_0,c_1,c_2,c_3,c_4,c_5,c_6⟩:=bNE.n7)
       refine tK hK fun hHeld=>?_
       clear hK K;refine(tW 4)<|tD ?_
       all_goals
         go_wp2_with fail
         obtain⟨q_0,q_1,q_2,q_3,q_4,q_5,q_6⟩:=bE.n7;refine bodyPost_ret (v:= .tuple #[.agg #[E1,E2,E3,E4,.int .i64 ss,.int .i64 pp,.int .i64 r],.int .i64 (bI bb)]) (by simp[results,Tryz.results24,go_sem,q_0,q_1,q_2,q_3,q_4,q_5,q_6]) rfl ⟨_,_,_,_,rfl,oE,BE⟩
     · obtain⟨⟨z,bb⟩,hz⟩:∃z,z=undoFl x:=⟨_,rfl⟩;rw[←hz]at CU e1 e2;simp only at CU e1 e2;subst e1 e2;clear hz;obtain⟨y_0,y_1,y_2,y_3,y_4,y_5,y_6⟩:=D4.p.n7;obtain⟨a_0,a_1,a_2⟩:=D4.a.n3;go_wp2_with fail
       refine(CU _ (hR.bl D4.B)).mono ?_;rintro e w7 ⟨A1,e1,A2,e2,A3,e3,A4,e4,rfl,oT,hb7⟩;have D7:=D4.bl hb7;have bN7:=bN4.bl hb7;have oT:=oT.mono D4.B.size;clear y_0 y_1 y_2 y_3 y_4 y_5 y_6 a_0 a_1 a_2 hb7;have hNl:=bN7.lt;go_upto_region 15 with(fail)
       have bM5:=Blk.new_ w7 36 #[.slice A1 z.1.length e1,.slice A2 z.2.1.length e2,.slice A3 z.2.2.1.length e3,.slice A4 z.2.2.2.length e4];have D5:=D7.al (.cells #[.slice A1 z.1.length e1,.slice A2 z.2.1.length e2,.slice A3 z.2.2.1.length e3,.slice A4 z.2.2.2.length e4] 36);have oT:=oT.alloc (.cells #[.slice A1 z.1.length e1,.slice A2 z.2.1.length e2,.slice A3 z.2.2.1.length e3,.slice A4 z.2.2.2.length e4] 36);have bN5:=bN7.alloc (.cells #[.slice A1 z.1.length e1,.slice A2 z.2.1.length e2,.slice A3 z.2.2.1.length e3,.slice A4 z.2.2.2.length e4] 36);obtain⟨w5,hw5⟩:∃v,v=w7.alloc (.cells #[.slice A1 z.1.length e1,.slice A2 z.2.1.length e2,.slice A3 z.2.2.1.length e3,.slice A4 z.2.2.2.length e4] 36):=⟨_,rfl⟩;rw[←hw5]at bM5 D5 oT bN5⊢;clear hw5;obtain⟨m_0,m_1,m_2,m_3⟩:=bM5.n4;obtain⟨o_0,o_1,o_2,o_3,o_4,o_5,o_6⟩:=bN5.n7;have fO:=fun j=>bN5.frozen j
       have hgg:=gr_set (gr_set (gr_set (gr_set (World.grownBy.refl w5 (some gN)) 0 (.slice A1 z.1.length e1)) 1 (.slice A2 z.2.1.length e2)) 2 (.slice A3 z.2.2.1.length e3)) 3 (.slice A4 z.2.2.2.length e4);have bN6:Blk ((((w5.setCell ⟨gN,0,none⟩ (.slice A1 z.1.length e1)).setCell ⟨gN,1,none⟩ (.slice A2 z.2.1.length e2)).setCell ⟨gN,2,none⟩ (.slice A3 z.2.2.1.length e3)).setCell ⟨gN,3,none⟩ (.slice A4 z.2.2.2.length e4)) gN 38 #[.slice A1 z.1.length e1,.slice A2 z.2.1.length e2,.slice A3 z.2.2.1.length e3,.slice A4 z.2.2.2.length e4,.int .i64 s,.int .i64 p,.int .i64 r]:=(((bN5.st 0 _ _ rfl).st 1 _ _ rfl).st 2 _ _ rfl).st 3 _ _ rfl;have D6:=D5.gr hgg hgN hPN hAN hRN;have oT6:=OwnFl.rowI oT bN5 (by decide) (by decide) (by decide) hgg;go_upto_region 19 with(fail)
       obtain⟨w6,hW6⟩:∃W6,W6=(((w5.setCell ⟨gN,0,none⟩ (.slice A1 z.1.length e1)).setCell ⟨gN,1,none⟩ (.slice A2 z.2.1.length e2)).setCell ⟨gN,2,none⟩ (.slice A3 z.2.2.1.length e3)).setCell ⟨gN,3,none⟩ (.slice A4 z.2.2.2.length e4):=⟨_,rfl⟩;rw[←hW6]at bN6 D6 oT6⊢;clear hW6 hgg fO o_0 o_1 o_2 o_3 o_4 o_5 o_6;obtain⟨y_0,y_1,y_2,y_3,y_4,y_5,y_6⟩:=bN6.n7;have hNl:=bN6.lt;have Bw:Below w6.heap.size w6 w6.drew:=(Below.refl _ _).drew;have hz:w6.heap.size≤w6.drew.heap.size:=(by simp);go_wp2_with fail
       refine rB (fun w'=>w'.cell? ⟨gN,0,none⟩=some (.slice A1 z.1.length e1)∧w'.cell? ⟨gN,1,none⟩=some (.slice A2 z.2.1.length e2)∧w'.cell? ⟨gN,2,none⟩=some (.slice A3 z.2.2.1.length e3)∧w'.cell? ⟨gN,3,none⟩=some (.slice A4 z.2.2.2.length e4)∧w'.cell? ⟨gN,4,none⟩=some (.int .i64 s)∧w'.cell? ⟨gN,5,none⟩=some (.int .i64 p)∧w'.cell? ⟨gN,6,none⟩=some (.int .i64 r)) fun hHeld=>(tW 0)<|(tW 1)<|(tR [2])<|tL fun K hK=>?_
       go_simp
       (go_at_call 101;go_must (refine(boolS_any bb _).mono ?_;rintro e wX ⟨rfl,rfl⟩))
       refine tK hK fun hHeld=>?_
       clear hK K;refine(tR [3])<|tL fun K hK=>?_
       (refine step_storeRow rfl 38 _ _ rfl gR #[.slice A1 z.1.length e1,.slice A2 z.2.1.length e2,.slice A3 z.2.2.1.length e3,.slice A4 z.2.2.2.length e4,.int .i64 s,.int .i64 p,.int .i64 r] rfl rfl _ _ (D6.r.bl Bw) (by kernel_rfl) rfl (one7 oT6.one) ?_;intro wE bE hgE;have oE:=OwnFl.rowI (oT6.below Bw) (D6.r.bl Bw) (by decide) (by decide) (by decide) hgE;have BE:=(D6.B.tr Bw).grown hgE (D6.B.tr Bw).size (fun k hk=>by injection hk with hk;subst hk;exact hgR);have bNE:=(bN6.bl Bw).grown hgE (by simp;omega);obtain⟨c_0,c_1,c_2,c_3,c_4,c_5,c_6⟩:=bNE.n7)
       refine tK hK fun hHeld=>?_
       clear hK K;refine(tW 4)<|tD ?_
       all_goals
         go_wp2_with fail
         obtain⟨q_0,q_1,q_2,q_3,q_4,q_5,q_6⟩:=bE.n7;refine bodyPost_ret (v:= .tuple #[.agg #[.slice A1 z.1.length e1,.slice A2 z.2.1.length e2,.slice A3 z.2.2.1.length e3,.slice A4 z.2.2.2.length e4,.int .i64 s,.int .i64 p,.int .i64 r],.int .i64 (bI bb)]) (by simp[results,Tryz.results24,go_sem,q_0,q_1,q_2,q_3,q_4,q_5,q_6]) rfl ⟨_,_,_,_,rfl,oE,BE⟩
     · subst e1 e2;obtain⟨y_0,y_1,y_2,y_3,y_4,y_5,y_6⟩:=D4.p.n7;obtain⟨a_0,a_1,a_2⟩:=D4.a.n3;go_wp2_with fail
       refine(CD _ (hR.bl D4.B)).mono ?_;rintro e w6 ⟨rfl,hb6⟩;have oT6:=oO4.below hb6;have D6:=D4.bl hb6;have bN6:=bN4.bl hb6;clear y_0 y_1 y_2 y_3 y_4 y_5 y_6 a_0 a_1 a_2 hb6;go_upto_region 19 with(fail)
       obtain⟨y_0,y_1,y_2,y_3,y_4,y_5,y_6⟩:=bN6.n7;have hNl:=bN6.lt;have Bw:Below w6.heap.size w6 w6.drew:=(Below.refl _ _).drew;have hz:w6.heap.size≤w6.drew.heap.size:=(by simp);go_wp2_with fail
       refine rB (fun w'=>w'.cell? ⟨gN,0,none⟩=some (C1)∧w'.cell? ⟨gN,1,none⟩=some (C2)∧w'.cell? ⟨gN,2,none⟩=some (C3)∧w'.cell? ⟨gN,3,none⟩=some (C4)∧w'.cell? ⟨gN,4,none⟩=some (.int .i64 s)∧w'.cell? ⟨gN,5,none⟩=some (.int .i64 p)∧w'.cell? ⟨gN,6,none⟩=some (.int .i64 r)) fun hHeld=>(tW 0)<|(tW 1)<|(tR [2])<|tL fun K hK=>?_
       go_simp
       (go_at_call 101;go_must (refine(boolS_any true _).mono ?_;rintro e wX ⟨rfl,rfl⟩))
       refine tK hK fun hHeld=>?_
       clear hK K;refine(tR [3])<|tL fun K hK=>?_
       (refine step_storeRow rfl 38 _ _ rfl gR #[C1,C2,C3,C4,.int .i64 s,.int .i64 p,.int .i64 r] rfl rfl _ _ (D6.r.bl Bw) (by kernel_rfl) rfl (one7 oT6.one) ?_;intro wE bE hgE;have oE:=OwnFl.rowI (oT6.below Bw) (D6.r.bl Bw) (by decide) (by decide) (by decide) hgE;have BE:=(D6.B.tr Bw).grown hgE (D6.B.tr Bw).size (fun k hk=>by injection hk with hk;subst hk;exact hgR);have bNE:=(bN6.bl Bw).grown hgE (by simp;omega);obtain⟨c_0,c_1,c_2,c_3,c_4,c_5,c_6⟩:=bNE.n7)
       refine tK hK fun hHeld=>?_
       clear hK K;refine(tW 4)<|tD ?_
       all_goals
         go_wp2_with fail
         obtain⟨q_0,q_1,q_2,q_3,q_4,q_5,q_6⟩:=bE.n7;refine bodyPost_ret (v:= .tuple #[.agg #[C1,C2,C3,C4,.int .i64 s,.int .i64 p,.int .i64 r],.int .i64 (bI true)]) (by simp[results,Tryz.results24,go_sem,q_0,q_1,q_2,q_3,q_4,q_5,q_6]) rfl ⟨_,_,_,_,rfl,oE,BE⟩
end Go.Proofs.YtfdbcihcdjjdhaaGreatDoor
