import Derived.Test.YtjijonhkofhikaaGreatDoorEG12
open _root_.List renaming getElem_mem->TZ
open _root_.Nat renaming le_refl->T9
open _root_.Go.Value renaming oneCell'->Ua
open _root_.Go.Proofs.Tryz (prog func134 ntmps134)
open _root_.Go.Proofs.Tryz renaming results134->Ub,results80->Uc
set_option linter.unusedVariables false
set_option linter.unusedSimpArgs false
set_option maxHeartbeats 4000000
set_option maxRecDepth 100000
namespace Go.Proofs.YtjijonhkofhikaaGreatDoor
open Go.ChangeShapes Go.WideShapes Go.ChangeAt Go.RowKit
theorem Tc (v1 v2 v3 v4:Value) (x:Fl) (cx cy:Int) (w:World) (h1:Rd 1 bG w v1 x.1) (h2:Rd 3 aU w v2 x.2.1) (h3:Rd 3 aU w v3 x.2.2.1) (h4:Rd 2 cO w v4 x.2.2.2) (hs:bZ x)
    (hno:mG x=false∨(mG x=true/\x.2.2.2.length=60)∨(mG x=true/\x.2.2.2.length≠60/\kindOf x.2.2.1 (cx,cy)=0)):
    Calls prog 134 #[.agg #[v1,v2,v3,v4],.agg #[.int .i64 cx,.int .i64 cy]] w (nD x false w):=by
 have cL:=hs;obtain⟨rows,f,n,cs⟩:=x;simp only at h1 h2 h3 h4;obtain⟨s1,s2,s3,s4⟩:=hs;simp only at s1 s2 s3 s4;obtain⟨A1,c1,rfl,hc1,eA⟩:=h1.form;obtain⟨A2,c2,rfl,hc2,eC⟩:=h2.form;obtain⟨A3,c3,rfl,hc3,eE⟩:=h3.form;obtain⟨A4,c4,rfl,eI,eJ⟩:=h4.form;have B0:=(((Below.refl w.heap.size w).al (.cells #[.slice A1 rows.length c1,.slice A2 f.length c2,.slice A3 n.length c3,.slice A4 cs.length c4] 30)).al (.cells #[.int .i64 cx,.int .i64 cy] 83)).al (.cells #[.slice none 0 0,.slice none 0 0,.slice none 0 0,.slice none 0 0] 30);have bP:=((Blk.aZ w 30 #[.slice A1 rows.length c1,.slice A2 f.length c2,.slice A3 n.length c3,.slice A4 cs.length c4]).alloc (.cells #[.int .i64 cx,.int .i64 cy] 83)).alloc (.cells #[.slice none 0 0,.slice none 0 0,.slice none 0 0,.slice none 0 0] 30);have bC:=(Blk.gZ (w.alloc (.cells #[.slice A1 rows.length c1,.slice A2 f.length c2,.slice A3 n.length c3,.slice A4 cs.length c4] 30)) 83 #[.int .i64 cx,.int .i64 cy] (w.heap.size+1) (by simp)).alloc (.cells #[.slice none 0 0,.slice none 0 0,.slice none 0 0,.slice none 0 0] 30);have bR:=Blk.gZ ((w.alloc (.cells #[.slice A1 rows.length c1,.slice A2 f.length c2,.slice A3 n.length c3,.slice A4 cs.length c4] 30)).alloc (.cells #[.int .i64 cx,.int .i64 cy] 83)) 30 #[.slice none 0 0,.slice none 0 0,.slice none 0 0,.slice none 0 0] (w.heap.size+1+1) (by simp);obtain⟨m,hm⟩:=TV ((fJ n (cx,cy)).1);obtain⟨b,hb⟩:=TV ((fJ n (cx,cy)).2);have CF:∀(u:Value) (w:World),Rd 3 aU w u n->Calls prog 169 #[u,.agg #[.int .i64 cx,.int .i64 cy]] w (gJ 99 3 aX m b w):=fun u w k1=>by rw[hm,hb];exact rZ u n cx cy w k1 s3
 have HB:Hid ((kindOf n (cx,cy)=0->b=false)/\(kindOf n (cx,cy)≠0->b=true/\m=aW n (cx,cy))):=TY ⟨fun q=>by rw[hb];unfold fJ;rw[if_pos q],fun q=>by rw[hb,hm];unfold fJ;rw[if_neg q];exact⟨rfl,rfl⟩⟩;clear hm hb;go_enter func134,ntmps134
 go_wp2_with fail
 obtain⟨W0,hW0⟩:=TV (((w.alloc (.cells #[.slice A1 rows.length c1,.slice A2 f.length c2,.slice A3 n.length c3,.slice A4 cs.length c4] 30)).alloc (.cells #[.int .i64 cx,.int .i64 cy] 83)).alloc (.cells #[.slice none 0 0,.slice none 0 0,.slice none 0 0,.slice none 0 0] 30));obtain⟨gP,b7⟩:=TV w.heap.size;obtain⟨gC,b8⟩:=TV (w.heap.size+1);obtain⟨gR,a7⟩:=TV (w.heap.size+1+1);rw[<-hW0]at B0 bP bC bR⊢;rw[<-a7]at bR⊢;rw[<-b8]at bC⊢;rw[<-b7]at bP⊢;have bN:w.heap.size<=gR:=(by omega);have eK:gP≠gR:=(by omega);have hw0:w.heap.size<=W0.heap.size:=B0.size;clear hW0 b7 b8 a7;obtain⟨cM,cN,cP,cQ⟩:=bP.n4;have eL:=bP.lt;have eM:=bR.lt;have hl0:=bC.lt;go_wp2_with fail
 refine(rY _ _ _ _ (rows,f,n,cs) _ (h1.TW B0) (h2.TW B0) (h3.TW B0) (h4.TW B0) cL).mono ?_;rintro e w1 ⟨C1,e1,C2,e2,C3,e3,C4,e4,rfl,oF,hb1⟩;have B1:=B0.tr hb1;have b9:=bP.bl hb1;have cA:=bC.bl hb1;have cB:=bR.bl hb1;have oF:=oF.mono hw0;have bO:=Blk.aZ w1 30 #[.slice none 0 0,.slice none 0 0,.slice none 0 0,.slice none 0 0];have cR:=oF.alloc (.cells #[.slice none 0 0,.slice none 0 0,.slice none 0 0,.slice none 0 0] 30);have cS:=cB.alloc (.cells #[.slice none 0 0,.slice none 0 0,.slice none 0 0,.slice none 0 0] 30);have cT:=b9.alloc (.cells #[.slice none 0 0,.slice none 0 0,.slice none 0 0,.slice none 0 0] 30);have Ba:=B1.al (.cells #[.slice none 0 0,.slice none 0 0,.slice none 0 0,.slice none 0 0] 30);have cU:w.heap.size<=w1.heap.size:=B1.size;have eN:gR<w1.heap.size:=cB.lt;have eP:gP<w1.heap.size:=b9.lt;have cV:=cA.alloc (.cells #[.slice none 0 0,.slice none 0 0,.slice none 0 0,.slice none 0 0] 30);have eR:gC<w1.heap.size:=cA.lt;clear cM cN cP cQ;go_wp2_with (refine aA rfl 30 _ _ rfl w1.heap.size #[.slice C1 rows.length e1,.slice C2 f.length e2,.slice C3 n.length e3,.slice C4 cs.length e4] rfl rfl _ _ bO (by kernel_rfl) rfl (by simp[Ua]) ?_;intro wS bS a8;have oS:=aB.dD cR bO (by decide) (by decide) (by decide) a8;have cW:=cS.grown a8 (by simp;omega);have cC:=cT.grown a8 (by simp;omega);have cD:=cV.grown a8 (by simp;omega);have BS:=Ba.grown a8 Ba.size (fun k hk=>by injection hk with hk;subst hk;exact cU);obtain⟨bU,bW,bX,bY⟩:=cC.n4;obtain⟨bK,bL⟩:=cD.n2)
 refine(uR _ _ _ _ rows f n cs _ (h1.TW BS) (h2.TW BS) (h3.TW BS) (h4.TW BS) s2).mono ?_;rintro e w2 ⟨rfl,hb2⟩;have B2:=BS.tr hb2;have cX:=cC.bl hb2;have bA:=cW.bl hb2;have cE:=bS.bl hb2;have cF:=cD.bl hb2;have b5:=oS.below hb2;clear bU bW bX bY bK bL;obtain⟨bU,bW,bX,bY⟩:=cX.n4;obtain⟨cG,cH,cI,cJ⟩:=cE.n4;obtain⟨bK,bL⟩:=cF.n2;rcases hno with hno|⟨hno,b6⟩|⟨hno,b6,hk⟩
 . rw[show dM rows f n cs=false from hno];go_wp2_with (refine aA rfl 30 _ _ rfl gR #[.slice C1 rows.length e1,.slice C2 f.length e2,.slice C3 n.length e3,.slice C4 cs.length e4] rfl rfl _ _ bA (by kernel_rfl) rfl (by simp[Ua]) ?_;intro wE bE a6)
   have oE:aB w.heap.size wE _ _ _ _ _:=aB.dD b5 bA (by decide) (by decide) (by decide) a6;have BE:=B2.grown a6 B2.size (fun k hk=>by injection hk with hk;subst hk;exact bN);obtain⟨bB,bD,bF,bJ⟩:=bE.n4;refine bodyPost_ret (v:= .tuple #[.agg #[.slice C1 rows.length e1,.slice C2 f.length e2,.slice C3 n.length e3,.slice C4 cs.length e4],.bool false]) (by simp[results,Ub,go_sem,bB,bD,bF,bJ]) rfl ⟨C1,e1,C2,e2,C3,e3,C4,e4,rfl,oE,BE⟩
 . rw[show dM rows f n cs=true from hno];have hz0:((cs.length:Int)==60)=true:=by rw[show cs.length=60 from b6];rfl
   clear b6;go_wp2_with (refine aA rfl 30 _ _ rfl gR #[.slice C1 rows.length e1,.slice C2 f.length e2,.slice C3 n.length e3,.slice C4 cs.length e4] rfl rfl _ _ bA (by kernel_rfl) rfl (by simp[Ua]) ?_;intro wE bE a6)
   have oE:aB w.heap.size wE _ _ _ _ _:=aB.dD b5 bA (by decide) (by decide) (by decide) a6;have BE:=B2.grown a6 B2.size (fun k hk=>by injection hk with hk;subst hk;exact bN);obtain⟨bB,bD,bF,bJ⟩:=bE.n4;refine bodyPost_ret (v:= .tuple #[.agg #[.slice C1 rows.length e1,.slice C2 f.length e2,.slice C3 n.length e3,.slice C4 cs.length e4],.bool false]) (by simp[results,Ub,go_sem,bB,bD,bF,bJ]) rfl ⟨C1,e1,C2,e2,C3,e3,C4,e4,rfl,oE,BE⟩
 . rw[show dM rows f n cs=true from hno];have hz0:((cs.length:Int)==60)=false:=by rw[beq_eq_false_iff_ne];omega
   go_wp2_with fail
   refine(CF _ _ (h3.TW B2)).mono ?_;rintro e w3 ⟨D,d,rfl,oM,hb3⟩;have B3:=B2.tr hb3;have cK:=bA.bl hb3;have cY:=cE.bl hb3;have dL:=cF.bl hb3;have dT:=b5.below hb3;clear bU bW bX bY cG cH cI cJ bK bL;obtain⟨cG,cH,cI,cJ⟩:=cY.n4;obtain⟨bK,bL⟩:=dL.n2;rw[HB.out.1 hk];go_wp2_with (refine aA rfl 30 _ _ rfl gR #[.slice C1 rows.length e1,.slice C2 f.length e2,.slice C3 n.length e3,.slice C4 cs.length e4] rfl rfl _ _ cK (by kernel_rfl) rfl (by simp[Ua]) ?_;intro wE bE a6)
   have oE:aB w.heap.size wE _ _ _ _ _:=aB.dD dT cK (by decide) (by decide) (by decide) a6;have BE:=B3.grown a6 B3.size (fun k hk=>by injection hk with hk;subst hk;exact bN);obtain⟨bB,bD,bF,bJ⟩:=bE.n4;refine bodyPost_ret (v:= .tuple #[.agg #[.slice C1 rows.length e1,.slice C2 f.length e2,.slice C3 n.length e3,.slice C4 cs.length e4],.bool false]) (by simp[results,Ub,go_sem,bB,bD,bF,bJ]) rfl ⟨C1,e1,C2,e2,C3,e3,C4,e4,rfl,oE,BE⟩
theorem RB (v1 v2 v3 v4:Value) (x:Fl) (cx cy:Int) (w:World) (h1:Rd 1 bG w v1 x.1) (h2:Rd 3 aU w v2 x.2.1) (h3:Rd 3 aU w v3 x.2.2.1) (h4:Rd 2 cO w v4 x.2.2.2) (hs:bZ x)
    (b6:mG x=true) (hn:x.2.2.2.length≠60) (hk:kindOf x.2.2.1 (cx,cy)≠0):
    Calls prog 134 #[.agg #[v1,v2,v3,v4],.agg #[.int .i64 cx,.int .i64 cy]] w (nD (x.1,x.2.1,aW x.2.2.1 (cx,cy),x.2.2.2++[(cx,cy)]) true w):=by
 obtain⟨y,hy⟩:=TV (((x.1,x.2.1,aW x.2.2.1 (cx,cy),x.2.2.2++[(cx,cy)]):Fl));rw[<-hy];have cQ:=hs;obtain⟨rows,f,n,cs⟩:=x;simp only at h1 h2 h3 h4;obtain⟨s1,s2,s3,s4⟩:=hs;simp only at s1 s2 s3 s4;obtain⟨A1,c1,rfl,hc1,e7⟩:=h1.form;obtain⟨A2,c2,rfl,hc2,e8⟩:=h2.form;obtain⟨A3,c3,rfl,hc3,e9⟩:=h3.form;obtain⟨A4,c4,rfl,cR,cS⟩:=h4.form;have B0:=(((Below.refl w.heap.size w).al (.cells #[.slice A1 rows.length c1,.slice A2 f.length c2,.slice A3 n.length c3,.slice A4 cs.length c4] 30)).al (.cells #[.int .i64 cx,.int .i64 cy] 83)).al (.cells #[.slice none 0 0,.slice none 0 0,.slice none 0 0,.slice none 0 0] 30);have bP:=((Blk.aZ w 30 #[.slice A1 rows.length c1,.slice A2 f.length c2,.slice A3 n.length c3,.slice A4 cs.length c4]).alloc (.cells #[.int .i64 cx,.int .i64 cy] 83)).alloc (.cells #[.slice none 0 0,.slice none 0 0,.slice none 0 0,.slice none 0 0] 30);have bC:=(Blk.gZ (w.alloc (.cells #[.slice A1 rows.length c1,.slice A2 f.length c2,.slice A3 n.length c3,.slice A4 cs.length c4] 30)) 83 #[.int .i64 cx,.int .i64 cy] (w.heap.size+1) (by simp)).alloc (.cells #[.slice none 0 0,.slice none 0 0,.slice none 0 0,.slice none 0 0] 30);have bR:=Blk.gZ ((w.alloc (.cells #[.slice A1 rows.length c1,.slice A2 f.length c2,.slice A3 n.length c3,.slice A4 cs.length c4] 30)).alloc (.cells #[.int .i64 cx,.int .i64 cy] 83)) 30 #[.slice none 0 0,.slice none 0 0,.slice none 0 0,.slice none 0 0] (w.heap.size+1+1) (by simp);obtain⟨m,hm⟩:=TV ((fJ n (cx,cy)).1);obtain⟨b,hb⟩:=TV ((fJ n (cx,cy)).2);have CF:∀(u:Value) (w:World),Rd 3 aU w u n->Calls prog 169 #[u,.agg #[.int .i64 cx,.int .i64 cy]] w (gJ 99 3 aX m b w):=fun u w k1=>by rw[hm,hb];exact rZ u n cx cy w k1 s3
 have HB:Hid ((kindOf n (cx,cy)=0->b=false)/\(kindOf n (cx,cy)≠0->b=true/\m=aW n (cx,cy))):=TY ⟨fun q=>by rw[hb];unfold fJ;rw[if_pos q],fun q=>by rw[hb,hm];unfold fJ;rw[if_neg q];exact⟨rfl,rfl⟩⟩;clear hm hb;go_enter func134,ntmps134
 go_wp2_with fail
 obtain⟨W0,hW0⟩:=TV (((w.alloc (.cells #[.slice A1 rows.length c1,.slice A2 f.length c2,.slice A3 n.length c3,.slice A4 cs.length c4] 30)).alloc (.cells #[.int .i64 cx,.int .i64 cy] 83)).alloc (.cells #[.slice none 0 0,.slice none 0 0,.slice none 0 0,.slice none 0 0] 30));obtain⟨gP,b7⟩:=TV w.heap.size;obtain⟨gC,b8⟩:=TV (w.heap.size+1);obtain⟨gR,a7⟩:=TV (w.heap.size+1+1);rw[<-hW0]at B0 bP bC bR⊢;rw[<-a7]at bR⊢;rw[<-b8]at bC⊢;rw[<-b7]at bP⊢;have cT:w.heap.size<=gR:=(by omega);have fD:gP≠gR:=(by omega);have hw0:w.heap.size<=W0.heap.size:=B0.size;clear hW0 b7 b8 a7;obtain⟨cU,cV,cW,cX⟩:=bP.n4;have fL:=bP.lt;have fN:=bR.lt;have hl0:=bC.lt;go_wp2_with fail
 refine(rY _ _ _ _ (rows,f,n,cs) _ (h1.TW B0) (h2.TW B0) (h3.TW B0) (h4.TW B0) cQ).mono ?_;rintro e w1 ⟨C1,e1,C2,e2,C3,e3,C4,e4,rfl,oF,hb1⟩;have B1:=B0.tr hb1;have b9:=bP.bl hb1;have cA:=bC.bl hb1;have cB:=bR.bl hb1;have oF:=oF.mono hw0;have bO:=Blk.aZ w1 30 #[.slice none 0 0,.slice none 0 0,.slice none 0 0,.slice none 0 0];have cY:=oF.alloc (.cells #[.slice none 0 0,.slice none 0 0,.slice none 0 0,.slice none 0 0] 30);have dL:=cB.alloc (.cells #[.slice none 0 0,.slice none 0 0,.slice none 0 0,.slice none 0 0] 30);have dT:=b9.alloc (.cells #[.slice none 0 0,.slice none 0 0,.slice none 0 0,.slice none 0 0] 30);have Ba:=B1.al (.cells #[.slice none 0 0,.slice none 0 0,.slice none 0 0,.slice none 0 0] 30);have bJ:w.heap.size<=w1.heap.size:=B1.size;have fR:gR<w1.heap.size:=cB.lt;have fS:gP<w1.heap.size:=b9.lt;have eA:=cA.alloc (.cells #[.slice none 0 0,.slice none 0 0,.slice none 0 0,.slice none 0 0] 30);have fW:gC<w1.heap.size:=cA.lt;clear cU cV cW cX;go_wp2_with (refine aA rfl 30 _ _ rfl w1.heap.size #[.slice C1 rows.length e1,.slice C2 f.length e2,.slice C3 n.length e3,.slice C4 cs.length e4] rfl rfl _ _ bO (by kernel_rfl) rfl (by simp[Ua]) ?_;intro wS bS a8;have oS:=aB.dD cY bO (by decide) (by decide) (by decide) a8;have eC:=dL.grown a8 (by simp;omega);have cC:=dT.grown a8 (by simp;omega);have cD:=eA.grown a8 (by simp;omega);have BS:=Ba.grown a8 Ba.size (fun k hk=>by injection hk with hk;subst hk;exact bJ);obtain⟨bK,bL,bN,bU⟩:=cC.n4;obtain⟨bA,bB⟩:=cD.n2)
 refine(uR _ _ _ _ rows f n cs _ (h1.TW BS) (h2.TW BS) (h3.TW BS) (h4.TW BS) s2).mono ?_;rintro e w2 ⟨rfl,hb2⟩;have B2:=BS.tr hb2;have eE:=cC.bl hb2;have eI:=eC.bl hb2;have cE:=bS.bl hb2;have cF:=cD.bl hb2;have cG:=oS.below hb2;clear bK bL bN bU bA bB;obtain⟨bK,bL,bN,bU⟩:=eE.n4;obtain⟨cH,cI,cJ,cK⟩:=cE.n4;obtain⟨bA,bB⟩:=cF.n2;try simp only at hk hn
 have eJ:cs.length<=60:=yY b6;obtain⟨rfl,hm⟩:=HB.out.2 hk;obtain⟨t,ht⟩:=TV (cs++[((cx,cy):Cl)]);have hy':y=(rows,f,m,t):=(by rw[hy,hm,ht]);have H8:Hid ((cs.length+1)*16<=140737488355328):=TY (by omega);have HM:Hid (cs.length+1<=maxLen):=TY (by unfold maxLen;omega);have hz0:((cs.length:Int)==60)=false:=by rw[beq_eq_false_iff_ne];omega
 have HT:=TY ht;have HY:=TY hy';clear ht hn eJ hm HB hy hy';rw[show dM rows f n cs=true from b6];go_wp2_with fail
 refine(CF _ _ (h3.TW B2)).mono ?_;rintro e w3 ⟨D,d,rfl,oM,hb3⟩;have B3:=B2.tr hb3;have eK:=eI.bl hb3;have bD:=cE.bl hb3;have eL:=cF.bl hb3;have bW:=cG.below hb3;clear bK bL bN bU cH cI cJ cK bA bB;obtain⟨cH,cI,cJ,cK⟩:=bD.n4;obtain⟨bA,bB⟩:=eL.n2;have hap:∀q,(Value.slice C2 f.length e2).ownBlock=some q->(Value.slice D m.length d).ownBlock≠some q:=fun q hq=>cG.b.early oM (T9 _) hq
 have eM:aB w.heap.size w3 (.slice C1 rows.length e1) (.slice C2 f.length e2) (.slice D m.length d) (.slice C4 cs.length e4) (rows,f,m,cs):=⟨bW.a,bW.b,oM.mono B2.size,bW.d,hap⟩;have fO:∀j,w3.frozen? ⟨w1.heap.size,j,none⟩=false:=fun j=>bD.frozen j
 have bX:=dA (World.grownBy.refl w3 (some w1.heap.size)) 2 (.slice D m.length d);have cL:=bD.st 2 (.slice D m.length d) #[.slice C1 rows.length e1,.slice C2 f.length e2,.slice D m.length d,.slice C4 cs.length e4] rfl;have bF:=aB.dD eM bD (by decide) (by decide) (by decide) bX;have cM:=eK.grown bX (by simp;omega);have B5:=B3.grown bX B3.size (fun k hk=>by injection hk with hk;subst hk;exact bJ);go_wp2_with (first|(at_builtin;go_must (refine aS (enc:=dH) jE eG oneCell B5 bF.d ((cx,cy):Cl) H8.out HM.out (by simp) rfl _ _ rfl rfl rfl ?_);intro v4 w4 a6 hb4 hg4 fX;rw[<-HT.out]at a6;obtain⟨E4,q4,rfl,cR,cS⟩:=a6.form;have oG:=(bF.alloc (.cells (dH (cx,cy)).toArray 83)).TP a6 hg4;have bY:=(cL.alloc (.cells (dH (cx,cy)).toArray 83)).grown hg4 (fun e=>(bF.d.apart cL (by decide)) e.symm);have eN:=(cM.alloc (.cells (dH (cx,cy)).toArray 83)).grown hg4 (fun e=>(bF.d.apart cM (by decide)) e.symm);obtain⟨fY,gA,gB,gD⟩:=bY.n4;have gF:∀j,w4.frozen? ⟨w1.heap.size,j,none⟩=false:=(fun j=>bY.frozen j);have b5:=dA (World.grownBy.refl w4 (some w1.heap.size)) 3 (.slice E4 t.length q4);have cN:=eN.grown b5 (by simp;omega);have eP:=aB.dD oG bY (by decide) (by decide) (by decide) b5;have B6:=hb4.grown b5 hb4.size (fun k hk=>by injection hk with hk;subst hk;exact bJ))|(refine aA rfl 30 _ _ rfl gR #[.slice C1 rows.length e1,.slice C2 f.length e2,.slice D m.length d,.slice E4 t.length q4] rfl rfl _ _ cN (by kernel_rfl) rfl (by simp[Ua]) ?_;intro wE bE cP))
 have oE:aB w.heap.size wE _ _ _ _ _:=aB.dD eP cN (by decide) (by decide) (by decide) cP;have BE:=B6.grown cP B6.size (fun k hk=>by injection hk with hk;subst hk;exact cT);obtain⟨eR,eW,e5,e6⟩:=bE.n4;refine bodyPost_ret (v:= .tuple #[.agg #[.slice C1 rows.length e1,.slice C2 f.length e2,.slice D m.length d,.slice E4 t.length q4],.bool true]) (by simp[results,Ub,go_sem,eR,eW,e5,e6]) rfl (by rw[HY.out];exact⟨C1,e1,C2,e2,D,d,E4,q4,rfl,oE,BE⟩)
theorem RD (v1 v2 v3 v4:Value) (x:Fl) (cx cy:Int) (w:World) (h1:Rd 1 bG w v1 x.1) (h2:Rd 3 aU w v2 x.2.1) (h3:Rd 3 aU w v3 x.2.2.1) (h4:Rd 2 cO w v4 x.2.2.2) (hs:bZ x):
 Calls prog 134 #[.agg #[v1,v2,v3,v4],.agg #[.int .i64 cx,.int .i64 cy]] w (nD (Dr x (cx,cy)).1 (Dr x (cx,cy)).2 w):=by
 unfold Dr;by_cases h:mG x=true/\x.2.2.2.length≠60/\kindOf x.2.2.1 (cx,cy)≠0
 . rw[if_pos h];exact RB v1 v2 v3 v4 x cx cy w h1 h2 h3 h4 hs h.1 h.2.1 h.2.2
 . rw[if_neg h];refine Tc v1 v2 v3 v4 x cx cy w h1 h2 h3 h4 hs ?_;rcases q:mG x with _|_
   . exact .inl rfl
   . by_cases q2:x.2.2.2.length=60
     . exact .inr (.inl ⟨rfl,q2⟩)
     . by_cases q3:kindOf x.2.2.1 (cx,cy)=0
       . exact .inr (.inr ⟨rfl,q2,q3⟩)
       . exact absurd ⟨q,q2,q3⟩ h
theorem sZ (v1 v2 v3 v4:Value) (x:Fl) (s p r cx cy:Int) (w:World) (h1:Rd 1 bG w v1 x.1) (h2:Rd 3 aU w v2 x.2.1) (h3:Rd 3 aU w v3 x.2.2.1) (h4:Rd 2 cO w v4 x.2.2.2) (hs:bZ x):
 Calls prog 80 #[.agg #[v1,v2,v3,v4,.int .i64 s,.int .i64 p,.int .i64 r],.agg #[.int .i64 cx,.int .i64 cy]] w (qM (kN (x,s,p,r) (cx,cy)) s p r (mH (x,s,p,r) (cx,cy)) w):=by
 obtain⟨A1,c1,rfl,hc1,eJ⟩:=h1.form;obtain⟨A2,c2,rfl,hc2,eK⟩:=h2.form;obtain⟨A3,c3,rfl,hc3,eL⟩:=h3.form;obtain⟨A4,c4,rfl,eM,eN⟩:=h4.form;obtain⟨z,b,hz⟩:∃z b,Dr x (cx,cy)=(z,b):=⟨_,_,rfl⟩;obtain⟨k,hk⟩:=TV (bV (x,s,p,r))
 have CF : ∀ (a1 a2 a3 a4 : Value) (w : World), Rd 1 bG w a1 x.1 -> Rd 3 aU w a2 x.2.1 -> Rd 3 aU w a3 x.2.2.1 -> Rd 2 cO w a4 x.2.2.2 -> Calls prog 134 #[.agg #[a1, a2, a3, a4], .agg #[.int .i64 cx, .int .i64 cy]] w (nD z b w) := fun a1 a2 a3 a4 w k1 k2 k3 k4 => by
  have:=RD a1 a2 a3 a4 x cx cy w k1 k2 k3 k4 hs;rw[hz]at this;exact this
 have hT:mH (x,s,p,r) (cx,cy)=(k&&b):=by unfold mH;rw[<-hk];simp only[hz]
 have hF:kN (x,s,p,r) (cx,cy)=if(k&&b)=true then z else x:=by unfold kN;rw[hT];simp only[hz]
 obtain⟨zz,hzz⟩:∃q,q=if(k&&b)=true then z else x:=⟨_,rfl⟩
 obtain⟨bb,cH⟩:=TV ((k&&b));rw[hT,hF,<-hzz,<-cH];have HZ:=TY hzz;have HB:=TY cH;have HK:=TY hk;clear hT hF hz hzz cH hk;have B0:=(((Below.refl w.heap.size w).al (.cells #[.slice A1 x.1.length c1,.slice A2 x.2.1.length c2,.slice A3 x.2.2.1.length c3,.slice A4 x.2.2.2.length c4,.int .i64 s,.int .i64 p,.int .i64 r] 32)).al (.cells #[.int .i64 cx,.int .i64 cy] 83)).al (.cells #[.slice none 0 0,.slice none 0 0,.slice none 0 0,.slice none 0 0,.int .i64 0,.int .i64 0,.int .i64 0] 32);have bP:=((Blk.aZ w 32 #[.slice A1 x.1.length c1,.slice A2 x.2.1.length c2,.slice A3 x.2.2.1.length c3,.slice A4 x.2.2.2.length c4,.int .i64 s,.int .i64 p,.int .i64 r]).alloc (.cells #[.int .i64 cx,.int .i64 cy] 83)).alloc (.cells #[.slice none 0 0,.slice none 0 0,.slice none 0 0,.slice none 0 0,.int .i64 0,.int .i64 0,.int .i64 0] 32);have bC:=(Blk.gZ (w.alloc (.cells #[.slice A1 x.1.length c1,.slice A2 x.2.1.length c2,.slice A3 x.2.2.1.length c3,.slice A4 x.2.2.2.length c4,.int .i64 s,.int .i64 p,.int .i64 r] 32)) 83 #[.int .i64 cx,.int .i64 cy] (w.heap.size+1) (by simp)).alloc (.cells #[.slice none 0 0,.slice none 0 0,.slice none 0 0,.slice none 0 0,.int .i64 0,.int .i64 0,.int .i64 0] 32);have bR:=Blk.gZ ((w.alloc (.cells #[.slice A1 x.1.length c1,.slice A2 x.2.1.length c2,.slice A3 x.2.2.1.length c3,.slice A4 x.2.2.2.length c4,.int .i64 s,.int .i64 p,.int .i64 r] 32)).alloc (.cells #[.int .i64 cx,.int .i64 cy] 83)) 32 #[.slice none 0 0,.slice none 0 0,.slice none 0 0,.slice none 0 0,.int .i64 0,.int .i64 0,.int .i64 0] (w.heap.size+1+1) (by simp);go_enter Tryz.func80,Tryz.ntmps80
 go_wp2_with fail
 obtain⟨W0,hW0⟩:=TV (((w.alloc (.cells #[.slice A1 x.1.length c1,.slice A2 x.2.1.length c2,.slice A3 x.2.2.1.length c3,.slice A4 x.2.2.2.length c4,.int .i64 s,.int .i64 p,.int .i64 r] 32)).alloc (.cells #[.int .i64 cx,.int .i64 cy] 83)).alloc (.cells #[.slice none 0 0,.slice none 0 0,.slice none 0 0,.slice none 0 0,.int .i64 0,.int .i64 0,.int .i64 0] 32));obtain⟨gP,cL⟩:=TV w.heap.size;obtain⟨gC,cM⟩:=TV (w.heap.size+1);obtain⟨gR,bY⟩:=TV (w.heap.size+1+1);rw[<-hW0]at B0 bP bC bR⊢;rw[<-bY]at bR⊢;rw[<-cM]at bC⊢;rw[<-cL]at bP⊢;have cI:w.heap.size<=gR:=(by omega);clear hW0 cL cM bY;obtain⟨bB,bD,bF,bJ,bK,bL,bN⟩:=bP.n7;refine(pI _ _ _ _ x s p r _ (h1.TW B0) (h2.TW B0) (h3.TW B0) (h4.TW B0) hs).mono ?_;rintro e w1 ⟨C1,c1',C2,a6,C3,a7,C4,a8,rfl,oO,hb1⟩;have oO:=oO.mono B0.size;have cN:w.heap.size<=w1.heap.size:=(B0.tr hb1).size;have bO:=Blk.aZ w1 32 #[.slice C1 x.1.length c1',.slice C2 x.2.1.length a6,.slice C3 x.2.2.1.length a7,.slice C4 x.2.2.2.length a8,.int .i64 s,.int .i64 p,.int .i64 r];have b5:=oO.alloc (.cells #[.slice C1 x.1.length c1',.slice C2 x.2.1.length a6,.slice C3 x.2.2.1.length a7,.slice C4 x.2.2.2.length a8,.int .i64 s,.int .i64 p,.int .i64 r] 32);have B1:=(B0.tr hb1).al (.cells #[.slice C1 x.1.length c1',.slice C2 x.2.1.length a6,.slice C3 x.2.2.1.length a7,.slice C4 x.2.2.2.length a8,.int .i64 s,.int .i64 p,.int .i64 r] 32);have bU:=(bP.bl hb1).alloc (.cells #[.slice C1 x.1.length c1',.slice C2 x.2.1.length a6,.slice C3 x.2.2.1.length a7,.slice C4 x.2.2.2.length a8,.int .i64 s,.int .i64 p,.int .i64 r] 32);have cJ:=(bC.bl hb1).alloc (.cells #[.slice C1 x.1.length c1',.slice C2 x.2.1.length a6,.slice C3 x.2.2.1.length a7,.slice C4 x.2.2.2.length a8,.int .i64 s,.int .i64 p,.int .i64 r] 32);have bW:=(bR.bl hb1).alloc (.cells #[.slice C1 x.1.length c1',.slice C2 x.2.1.length a6,.slice C3 x.2.2.1.length a7,.slice C4 x.2.2.2.length a8,.int .i64 s,.int .i64 p,.int .i64 r] 32);have eP:=(bR.bl hb1).lt;have eR:=(bP.bl hb1).lt;have eW:=(bC.bl hb1).lt;have e5:gP≠w1.heap.size:=(by omega);have e6:gC≠w1.heap.size:=(by omega);obtain⟨gO,b6⟩:=TV w1.heap.size;have cS:gR≠gO:=(by omega);have e7:=cS.symm;have cN:w.heap.size<=gO:=(by omega);clear oO bB bD bF bJ bK bL bN;obtain⟨bB,bD,bF,bJ,bK,bL,bN⟩:=bU.n7;go_wp2_with fail
 refine(kZ _ _ _ _ (x,s,p,r) _ (h1.TW B1) (h2.TW B1) (h3.TW B1) (h4.TW B1) hs.2.1).mono ?_;rintro e w2 ⟨rfl,hb2⟩;rw[<-b6]at bO⊢;rw[<-HK.out];clear b6 bB bD bF bJ bK bL bN;have B1:=B1.tr hb2;have bU:=bU.bl hb2;have cJ:=cJ.bl hb2;have bW:=bW.bl hb2;have bO:=bO.bl hb2;have b5:=b5.below hb2;have cT:=bO.lt;cases k
 . obtain rfl : x = zz := by rw [HZ.out]; rfl
   obtain rfl:bb=false:=by rw[HB.out];rfl
   obtain⟨bB,bD,bF,bJ,bK,bL,bN⟩:=bO.n7;go_wp2_with (refine aA rfl 32 _ _ rfl gR #[.slice C1 x.1.length c1',.slice C2 x.2.1.length a6,.slice C3 x.2.2.1.length a7,.slice C4 x.2.2.2.length a8,.int .i64 s,.int .i64 p,.int .i64 r] rfl rfl _ _ bW (by kernel_rfl) rfl (by simp[Ua]) ?_;intro wE bE bA)
   have oE:aB w.heap.size wE _ _ _ _ _:=aB.dD b5 bW (by decide) (by decide) (by decide) bA;have BE:=B1.grown bA B1.size (fun k hk=>by injection hk with hk;subst hk;exact cI);obtain⟨b7,b8,b9,cA,cB,cC,cD⟩:=bE.n7;refine bodyPost_ret (v:= .tuple #[.agg #[.slice C1 x.1.length c1',.slice C2 x.2.1.length a6,.slice C3 x.2.2.1.length a7,.slice C4 x.2.2.2.length a8,.int .i64 s,.int .i64 p,.int .i64 r],.bool false]) (by simp[results,Uc,go_sem,b7,b8,b9,cA,cB,cC,cD]) rfl ⟨C1,c1',C2,a6,C3,a7,C4,a8,rfl,oE,BE⟩
 . skip;obtain⟨bB,bD,bF,bJ,bK,bL,bN⟩:=bU.n7;obtain⟨cU,cV⟩:=cJ.n2;have hb0:=hb2;clear hb2;go_wp2_with fail
   refine(CF _ _ _ _ _ (h1.TW B1) (h2.TW B1) (h3.TW B1) (h4.TW B1)).mono ?_;rintro e w2 ⟨D1,d1,D2,d2,D3,d3,D4,d4,rfl,oD,hb2⟩;clear bB bD bF bJ bK bL bN cU cV;have oD:=oD.mono B1.size;have cF:=Blk.aZ w2 30 #[.slice D1 z.1.length d1,.slice D2 z.2.1.length d2,.slice D3 z.2.2.1.length d3,.slice D4 z.2.2.2.length d4];have cP:=oD.alloc (.cells #[.slice D1 z.1.length d1,.slice D2 z.2.1.length d2,.slice D3 z.2.2.1.length d3,.slice D4 z.2.2.2.length d4] 30);have cW:=(b5.below hb2).alloc (.cells #[.slice D1 z.1.length d1,.slice D2 z.2.1.length d2,.slice D3 z.2.2.1.length d3,.slice D4 z.2.2.2.length d4] 30);have B2:=(B1.tr hb2).al (.cells #[.slice D1 z.1.length d1,.slice D2 z.2.1.length d2,.slice D3 z.2.2.1.length d3,.slice D4 z.2.2.2.length d4] 30);have e8:=(bU.bl hb2).alloc (.cells #[.slice D1 z.1.length d1,.slice D2 z.2.1.length d2,.slice D3 z.2.2.1.length d3,.slice D4 z.2.2.2.length d4] 30);have cG:=(bW.bl hb2).alloc (.cells #[.slice D1 z.1.length d1,.slice D2 z.2.1.length d2,.slice D3 z.2.2.1.length d3,.slice D4 z.2.2.2.length d4] 30);have bX:=(bO.bl hb2).alloc (.cells #[.slice D1 z.1.length d1,.slice D2 z.2.1.length d2,.slice D3 z.2.2.1.length d3,.slice D4 z.2.2.2.length d4] 30);have cX:=(bU.bl hb2).lt;have cY:=(bO.bl hb2).lt;have dL:=(bW.bl hb2).lt;have dT:gP≠w2.heap.size:=(by omega);obtain⟨gF,cE⟩:=TV w2.heap.size;have eA:gF≠gO:=(by omega);have eC:gF≠gR:=(by omega);have e9:=eA.symm;have fD:=eC.symm;clear oD b5;cases b
   . obtain rfl : x = zz := by rw [HZ.out]; rfl
     obtain rfl:bb=false:=by rw[HB.out];rfl
     obtain⟨bB,bD,bF,bJ,bK,bL,bN⟩:=bX.n7;go_wp2_with (refine aA rfl 32 _ _ rfl gR #[.slice C1 x.1.length c1',.slice C2 x.2.1.length a6,.slice C3 x.2.2.1.length a7,.slice C4 x.2.2.2.length a8,.int .i64 s,.int .i64 p,.int .i64 r] rfl rfl _ _ cG (by kernel_rfl) rfl (by simp[Ua]) ?_;intro wE bE bA)
     have oE:aB w.heap.size wE _ _ _ _ _:=aB.dD cW cG (by decide) (by decide) (by decide) bA;have BE:=B2.grown bA B2.size (fun k hk=>by injection hk with hk;subst hk;exact cI);obtain⟨b7,b8,b9,cA,cB,cC,cD⟩:=bE.n7;refine bodyPost_ret (v:= .tuple #[.agg #[.slice C1 x.1.length c1',.slice C2 x.2.1.length a6,.slice C3 x.2.2.1.length a7,.slice C4 x.2.2.2.length a8,.int .i64 s,.int .i64 p,.int .i64 r],.bool false]) (by simp[results,Uc,go_sem,b7,b8,b9,cA,cB,cC,cD]) rfl ⟨C1,c1',C2,a6,C3,a7,C4,a8,rfl,oE,BE⟩
   . obtain rfl : z = zz := by rw [HZ.out]; rfl
     obtain rfl:bb=true:=by rw[HB.out];rfl
     go_upto_region 7 with(fail)
     obtain⟨W3,hW3⟩:=TV (w2.alloc (.cells #[.slice D1 z.1.length d1,.slice D2 z.2.1.length d2,.slice D3 z.2.2.1.length d3,.slice D4 z.2.2.2.length d4] 30));rw[<-hW3]at cF cG bX cP B2⊢;rw[<-cE]at cF⊢;clear hW3 cE;obtain⟨fL,fN,fR,fS⟩:=cF.n4;have cQ:=bX.lt;have eE:=cF.lt;obtain⟨fW,fX,fY,gA,gB,gD,gK⟩:=bX.n7;have fO:∀j,W3.frozen? ⟨gO,j,none⟩=false:=fun j=>bX.frozen j
     have cK:=dA (dA (dA (dA (World.grownBy.refl W3 (some gO)) 0 (.slice D1 z.1.length d1)) 1 (.slice D2 z.2.1.length d2)) 2 (.slice D3 z.2.2.1.length d3)) 3 (.slice D4 z.2.2.2.length d4);have cR:=cG.grown cK (by simp;omega);have eI:=aB.dD cP bX (by decide) (by decide) (by decide) cK;have B5:=B2.grown cK B2.size (fun k hk=>by injection hk with hk;subst hk;exact cN);go_wp2_with (refine aA rfl 32 _ _ rfl gR #[.slice D1 z.1.length d1,.slice D2 z.2.1.length d2,.slice D3 z.2.2.1.length d3,.slice D4 z.2.2.2.length d4,.int .i64 s,.int .i64 p,.int .i64 r] rfl rfl _ _ cR (by kernel_rfl) rfl (by simp[Ua]) ?_;intro wE bE bA)
     have oE:aB w.heap.size wE _ _ _ _ _:=aB.dD eI cR (by decide) (by decide) (by decide) bA;have BE:=B5.grown bA B5.size (fun k hk=>by injection hk with hk;subst hk;exact cI);obtain⟨b7,b8,b9,cA,cB,cC,cD⟩:=bE.n7;refine bodyPost_ret (v:= .tuple #[.agg #[.slice D1 z.1.length d1,.slice D2 z.2.1.length d2,.slice D3 z.2.2.1.length d3,.slice D4 z.2.2.2.length d4,.int .i64 s,.int .i64 p,.int .i64 r],.bool true]) (by simp[results,Uc,go_sem,b7,b8,b9,cA,cB,cC,cD]) rfl ⟨D1,d1,D2,d2,D3,d3,D4,d4,rfl,oE,BE⟩
end Go.Proofs.YtjijonhkofhikaaGreatDoor
namespace Go.Proofs.YtjijonhkofhikaaGreatDoor
structure kU (E:Nat->Nat->Prop) (s n:Nat) (f:Nat->Int):Prop where
  st:f s=0
  low:∀i,-1<=f i
  zero:∀i,f i=0->i=s
  pre:∀i (m:Int),0<=m->f i=m+1->∃j,f j=m/\E j i
  edge:∀j i,0<=f j->E j i->0<=f i/\f i<=f j+1
  top:∀i,f i<n
  inn:∀i,0<=f i->i<n
theorem kU.le {E:Nat->Nat->Prop} {s n n':Nat} {f g:Nat->Int} (hf:kU E s n f) (hg:kU E s n' g):∀(m:Nat) (i:Nat),g i=m->0<=f i/\f i<=m
  | 0, i, h => by
   have:=hg.zero i h;subst this;rw[hf.st];omega
  | m + 1, i, h => by
   obtain⟨j,hj,he⟩:=hg.pre i m (by omega) (by rw[h];omega);have h1:=kU.le hf hg m j hj;have h2:=hf.edge j i h1.1 he;omega
theorem kU.same {E:Nat->Nat->Prop} {s n n':Nat} {f g:Nat->Int} (hf:kU E s n f) (hg:kU E s n' g):∀i,f i=g i:=by
 intro i;have h1:=hf.low i;have h2:=hg.low i;by_cases h:0<=g i
 . have a := kU.le hf hg (g i).toNat i (by omega);have b:=kU.le hg hf (f i).toNat i (by omega);omega
 . by_cases h':0<=f i
   . have b := kU.le hg hf (f i).toNat i (by omega);omega
   . omega
def upd (f:Nat->Int) (i:Nat) (v:Int):Nat->Int:=fun x=>if x=i then v else f x
theorem uC (f:Nat->Int) (i:Nat) (v:Int):upd f i v i=v:=if_pos rfl
theorem upd_ne {f:Nat->Int} {i j:Nat} {v:Int} (h:j≠i):upd f i v j=f j:=if_neg h
def vM (n:Nat) (f:Nat->Int):List Int:=(List.range n).map f
theorem jR (n:Nat) (f:Nat->Int):(vM n f).length=n:=by simp[vM]
theorem IY {n:Nat} {f:Nat->Int} {i:Nat} (h:i<(vM n f).length):(vM n f)[i]=f i:=by simp[vM]
theorem Pm (n:Nat) (f:Nat->Int) (i:Nat) (v:Int):vM n (upd f i v)=(vM n f).set i v:=by
 apply List.ext_getElem
 . simp[vM]
 . intro k h1 h2;rw[IY,List.getElem_set];unfold upd;by_cases h:k=i
   . rw[if_pos h,if_pos h.symm]
   . rw[if_neg h,if_neg (fun e=>h e.symm),IY]
structure Bfs (E:Nat->Nat->Prop) (s n:Nat) (f:Nat->Int) (q:List Nat) (p:Nat):Prop where
  lt:∀i∈q,i<n
  nd:q.Nodup
  iff:∀i,0<=f i↔i∈q
  low:∀i,-1<=f i
  srt:q.Pairwise fun a b=>f a<=f b
  top:∀h:p<q.length,∀i∈q,f i<=f q[p]+1
  st:f s=0
  zero:∀i,f i=0->i=s
  pre:∀i (m:Int),0<=m->f i=m+1->∃j,f j=m/\E j i
  don:∀j∈q.take p,∀i,E j i->i∈q/\f i<=f j+1
  bd:∀a (h:a<q.length),f q[a]<=a
theorem GH:∀(n:Nat) (q:List Nat),q.Nodup->(∀i∈q,i<n)->q.length<=n
  |0,[],_,_=>T9 _
  |0,x::q,_,h=>by have:=h x List.mem_cons_self;omega
  | n + 1, q, hd, h => by
   have h1 : (q.erase n).length <= n := GH n (q.erase n) (hd.erase n) (fun i hi => by
    have h2:=h i (List.mem_of_mem_erase hi);have h3:i≠n:=fun e=>by subst e;exact(List.Nodup.not_mem_erase hd) hi
    omega)
   have h4:=List.length_erase (a:=n) (l:=q);split at h4<;>omega
theorem Bfs.len {E:Nat->Nat->Prop} {s n:Nat} {f:Nat->Int} {q:List Nat} {p:Nat} (h:Bfs E s n f q p):q.length<=n:=GH n q h.nd h.lt
def f0 (s:Nat):Nat->Int:=upd (fun _=> -1) s 0
theorem Lt (s i:Nat):f0 s i=if i=s then 0 else-1:=rfl
theorem GI (E:Nat->Nat->Prop) {s n:Nat} (hs:s<n):Bfs E s n (f0 s) [s] 0 where
  lt:=fun i hi=>by rw[List.mem_singleton.1 hi];exact hs
  nd:=by simp
  iff := fun i => by
   rw[List.mem_singleton,Lt];split
   . rename_i h;exact⟨fun _=>h,fun _=>by omega⟩
   . rename_i h;exact⟨fun q=>by omega,fun q=>absurd q h⟩
  low:=fun i=>by rw[Lt];split<;>omega
  srt:=by simp
  top := fun h i hi => by
   rw[List.mem_singleton.1 hi];show f0 s s<=f0 s s+1;omega
  st:=uC _ _ _
  zero := fun i h => by
   rw[Lt]at h;split at h
   . assumption
   . omega
  pre := fun i m hm h => by
   rw[Lt]at h;split at h<;>omega
  don:=fun j hj=>by simp at hj
  bd := fun a h => by
   obtain rfl:a=0:=by simp at h;omega
   show f0 s s<=0;rw[Lt,if_pos rfl];omega
theorem MQ {E:Nat->Nat->Prop} {s n:Nat} {f:Nat->Int} {q:List Nat} {p:Nat} (h:Bfs E s n f q p) (hp:p<q.length) {i:Nat} (hi:i<n) (he:E q[p] i) (hn:f i<0):Bfs E s n (upd f i (f q[p]+1)) (q++[i]) p:=by
 have hq:i∉q:=fun hm=>by have:=(h.iff i).2 hm;omega
 have old:∀j∈q,upd f i (f q[p]+1) j=f j:=fun j hj=>upd_ne fun e=>hq (e▸hj)
 have h0:0<=f q[p]:=(h.iff _).2 (TZ hp);have a6:(q++[i])[p]'(by simp;omega)=q[p]:=(by rw[List.getElem_append_left hp]);refine⟨fun j hj=> ?_,?_,fun j=> ?_,fun j=> ?_,?_,fun hl j hj=> ?_,?_,fun j hj=> ?_,fun j m hm hj=> ?_,fun j hj k hk=> ?_,fun a ha=> ?_⟩
 . rcases List.mem_append.1 hj with hj|hj
   . exact h.lt j hj
   . rw[List.mem_singleton.1 hj];exact hi
 . rw[List.nodup_append];exact⟨h.nd,by simp,fun a ha b hb=>by rw[List.mem_singleton.1 hb];exact fun e=>hq (e▸ha)⟩
 . rw[List.mem_append,List.mem_singleton];by_cases e:j=i
   . subst e;rw[uC];exact⟨fun _=> .inr rfl,fun _=>by omega⟩
   . rw[upd_ne e,h.iff];exact⟨fun q=> .inl q,fun q=>q.resolve_right e⟩
 . by_cases e:j=i
   . subst e;rw[uC];omega
   . rw[upd_ne e];exact h.low j
 . rw[List.pairwise_append];refine⟨h.srt.imp_of_mem fun{a b} ha hb hab=>by rw[old a ha,old b hb];exact hab,by simp,fun a ha b hb=> ?_⟩;rw[List.mem_singleton.1 hb,uC,old a ha];exact h.top hp a ha
 . rw[a6,old _ (TZ hp)];rcases List.mem_append.1 hj with hj|hj
   . rw[old j hj];exact h.top hp j hj
   . rw[List.mem_singleton.1 hj,uC];omega
 . have : s ∈ q := (h.iff s).1 (by rw [h.st]; omega);rw[old s this,h.st]
 . by_cases e:j=i
   . subst e;rw[uC]at hj;omega
   . rw[upd_ne e]at hj;exact h.zero j hj
 . by_cases e:j=i
   . subst e;rw[uC]at hj;refine⟨q[p],?_,he⟩;rw[old _ (TZ hp)];omega
   . rw[upd_ne e]at hj;obtain⟨k,hk,a7⟩:=h.pre j m hm hj;refine⟨k,?_,a7⟩;rw[old k ((h.iff k).1 (by omega))];exact hk
 . have hj':j∈q.take p:=by
    rwa [List.take_append_of_le_length (by omega)]at hj
   have h1:=h.don j hj' k hk;refine⟨List.mem_append.2 (.inl h1.1),?_⟩;rw[old k h1.1,old j (List.mem_of_mem_take hj')];exact h1.2
 . by_cases e:a<q.length
   . rw[List.getElem_append_left e,old _ (TZ e)];exact h.bd a e
   . obtain rfl : a = q.length := by simp at ha; omega
     rw[List.getElem_append_right (T9 _)];simp only[Nat.sub_self,List.getElem_cons_zero];rw[uC];have:=h.bd p hp;omega
theorem Kn {E:Nat->Nat->Prop} {s n:Nat} {f:Nat->Int} {q:List Nat} {p:Nat} (h:Bfs E s n f q p) (hp:p<q.length) (hd:∀i,E q[p] i->0<=f i):Bfs E s n f q (p+1):=by
 refine⟨h.lt,h.nd,h.iff,h.low,h.srt,fun hl j hj=> ?_,h.st,h.zero,h.pre,fun j hj k hk=> ?_,h.bd⟩
 . have h1:=h.top hp j hj;have h2:f q[p]<=f q[p+1]:=List.pairwise_iff_getElem.1 h.srt p (p+1) hp hl (by omega);omega
 . rw[List.take_succ_eq_append_getElem hp]at hj;rcases List.mem_append.1 hj with hj|hj
   . exact h.don j hj k hk
   . rw[List.mem_singleton.1 hj]at hk⊢;have h1:=(h.iff k).1 (hd k hk);exact⟨h1,h.top hp k h1⟩
theorem MR {E:Nat->Nat->Prop} {s n:Nat} {f:Nat->Int} {q:List Nat} (h:Bfs E s n f q q.length):kU E s n f where
  st:=h.st
  low:=h.low
  zero:=h.zero
  pre:=h.pre
  edge := fun j i hj he => by
   have h1:=h.don j (by rw[List.take_length];exact(h.iff j).1 hj) i he;exact⟨(h.iff i).2 h1.1,h1.2⟩
  top := fun i => by
   have hn:=h.len;by_cases hi:0<=f i
   . obtain⟨a,ha,e⟩:=List.getElem_of_mem ((h.iff i).1 hi);have:=h.bd a ha;rw[e]at this;omega
   . have hs := h.lt s ((h.iff s).1 (by rw [h.st]; omega));omega
  inn:=fun i hi=>h.lt i ((h.iff i).1 hi)
end Go.Proofs.YtjijonhkofhikaaGreatDoor
