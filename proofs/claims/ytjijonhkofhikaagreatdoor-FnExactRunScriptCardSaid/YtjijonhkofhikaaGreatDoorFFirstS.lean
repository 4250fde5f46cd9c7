import Derived.Test.YtjijonhkofhikaaGreatDoorFFirstI
open _root_.Nat renaming le_refl->Tm
open _root_.Go.Proofs.Tryz (prog func171 ntmps171)
set_option linter.unusedVariables false
set_option linter.unusedSimpArgs false
set_option maxHeartbeats 4000000
set_option maxRecDepth 100000
namespace Go.Proofs.YtjijonhkofhikaaGreatDoor
open Go.ChangeShapes Go.WideShapes Go.ChangeAt Go.RowKit
def sliceLen:Value->Nat
  | .slice _ n _=>n
  |_=>0
def Src (w:World) (h0:Value) (r0:List Int) (wr:World) (v:Value) (N:List Int):Prop:=(v=h0/\N=r0)∨aD 3 1 aW w.heap.size wr v N
theorem Src.rd {w wr:World} {h0 v:Value} {r0 N:List Int} (h:Src w h0 r0 wr v N) (h1:Rd 1 aZ w h0 r0) (B:Below w.heap.size w wr):Rd 1 aZ wr v N:=by
 rcases h with⟨rfl,rfl⟩|h
 . exact h1.Tj B
 . exact h.rd aM (by decide)
theorem Src.bl {w wr w':World} {h0 v:Value} {r0 N:List Int} (h:Src w h0 r0 wr v N) (hb:Below wr.heap.size wr w'):Src w h0 r0 w' v N:=by
 rcases h with h|h
 . exact .inl h
 . exact .inr (h.below hb)
theorem Ig {rows:List Int} {s i:Nat} (a6:dX rows) (a7:setOf rows=s):qA rows (eT i)=0↔vU s i=false:=by
 unfold qA vU;rw[aR.2 a6,a7,Bool.true_and];rcases q:eY s (eT i)with _|_
 . simp
 . simp
theorem Nh {s:Nat} {d:Dm} (h:eY s d=true):aI d=true:=by unfold eY at h;rw[Bool.and_eq_true]at h;exact h.1
theorem JR (v:Value) (rows:List Int) (w:World) (h:Rd 1 aZ w v rows):Calls prog 171 #[.agg #[v]] w (OH (dU rows) (kH rows) w):=by
 obtain⟨A,c,rfl,hc,hm⟩:=h.form;have hA:=((Below.refl w.heap.size w).al (.cells #[.slice A rows.length c] 26)).al (.cells #[] 99);have bX:=(Blk.aX w 26 #[.slice A rows.length c]).alloc (.cells #[] 99)
 have b8:aD 99 3 aV w.heap.size ((w.alloc (.cells #[.slice A rows.length c] 26)).alloc (.cells #[] 99)) (.slice (some ⟨w.heap.size+1,0,none⟩) ([]:List Dm).length 0) []:=by
  have:=(fF (w.alloc (.cells #[.slice A rows.length c] 26)) (E:=99) (size:=3) (enc:=aV)).mono (show w.heap.size<=_ from(((Below.refl w.heap.size w).al (.cells #[.slice A rows.length c] 26))).size);simpa using this
 by_cases h0:bG rows=0
 . have e1 : dU rows = [] := by unfold dU; rw [if_pos h0]
   have e2:kH rows=false:=by unfold kH;exact decide_eq_false (fun q=>q h0)
   rw[e1,e2];have C:∀(u:Value) (w:World),Rd 1 aZ w u rows->Calls prog 219 #[.agg #[u]] w (Ret (.int .i64 0) w):=fun u w k1=>by have:=wP u rows w k1;rw[h0]at this;exact this
   clear h0 e1 e2;go_enter func171,ntmps171
   go_wp2_with fail
   refine(C _ _ (h.Tj hA)).mono ?_;rintro e w1 ⟨rfl,hb1⟩;go_wp2;go_ret2
   exact⟨_,_,rfl,b8.below hb1,hA.tr hb1⟩
 . have hr:bW rows=true:=by
    rcases q:bW rows with _|_
    . exact absurd (show bG rows=0 by unfold bG;rw[q];rfl) h0
    . rfl
   have cR:Hid (dX rows):=Tk (aR.1 hr);have hs0:=dW cR.out;have e1:dU rows=firstT (setOf rows):=by unfold dU;rw[if_neg h0]
   have e2:kH rows=true:=by unfold kH;exact decide_eq_true h0
   rw[e1,e2];have hc0:gH (setOf rows)≠0:=by unfold bG at h0;rw[if_pos hr]at h0;exact h0
   obtain⟨n,hn⟩:=Ti (bG rows);have C:∀(u:Value) (w:World),Rd 1 aZ w u rows->Calls prog 219 #[.agg #[u]] w (Ret (.int .i64 n) w):=fun u w k1=>by rw[hn];exact wP u rows w k1
   rw[<-hn]at h0;have k6:(n==0)=false:=(by simpa using h0);obtain⟨R,hR⟩:=Ti (firstT (setOf rows));have k7:R.length<=64:=by rw[hR];exact yZ _
   rw[<-hR];have hZ:Hid ([]++firstT (setOf rows)=R):=Tk hR.symm;have h9:=Tk hc0;clear h0 hr e1 e2 hR hc0 hn;go_enter func171,ntmps171
   go_wp2_with fail
   refine(C _ _ (h.Tj hA)).mono ?_;rintro e w1 ⟨rfl,hb1⟩;have B1:=(hA.tr hb1).al (.cells #[.slice A rows.length c] 26);have cS:=(b8.below hb1).alloc (.cells #[.slice A rows.length c] 26);have e7:=Blk.aX w1 26 #[.slice A rows.length c];have zx:=(bX.bl hb1).c1;have bN:w.heap.size<=w1.heap.size:=(hA.tr hb1).size;obtain⟨gO,b9⟩:=Ti w1.heap.size;rw[<-b9]at e7 bN;have cT:Src w (.slice A rows.length c) rows (w1.alloc (.cells #[.slice A rows.length c] 26)) (.slice A rows.length c) rows:= .inl ⟨rfl,rfl⟩;clear hA bX hb1 b8;go_wp2_with fail
   rw[<-b9];clear b9 zx;go_loopw [4] (fun s4 wr=>∃(s:Nat) (N:List Int) (out:List Dm) (A1 A2:Option Addr) (c1 c2:Nat),s<U64/\s4= .slice A1 out.length c1/\Hid (dX N)/\Hid (setOf N=s)/\Blk wr gO 26 #[.slice A2 N.length c2]/\Src w (.slice A rows.length c) rows wr (.slice A2 N.length c2) N/\aD 99 3 aV w.heap.size wr (.slice A1 out.length c1) out/\Below w.heap.size w wr/\Hid (gH s≠0)/\Hid (out++firstT s=R)) (fun s4 _=>R.length-sliceLen s4)
   case atStart=>exact⟨setOf rows,rows,[],_,_,_,_,hs0,rfl,cR,Tk rfl,e7,cT,cS,B1,h9,hZ⟩
   case round=>
    obtain⟨s,N,out,A1,A2,c1,c2,hs,rfl,bF,eR,bO,src,own,B,Hc,HR⟩:=hrel;clear cS e7 cT B1 hZ h9;have hlen:out.length<=64:=by have:=congrArg List.length HR.out;rw[List.length_append]at this;omega
    have eW:eU N=eX s 64:=by unfold eU;rw[if_pos (aR.2 bF.out),eR.out]
    have CN:∀(u:Value) (w:World),Rd 1 aZ w u N->Calls prog 217 #[.agg #[u]] w (Ret (.int .i64 (eX s 64).length) w):=fun u w k1=>by have:=vE u N w k1;rw[eW]at this;exact this
    have CC:∀(u:Value) (w:World),Rd 1 aZ w u N->Calls prog 220 #[.agg #[u]] w (fM 83 2 dM (eX s 64) w):=fun u w k1=>by have:=uQ u N w k1;rw[eW]at this;exact this
    have hle:=vC s 64;have rN:=src.rd h B;have zo:=bO.c1;by_cases hz:s=0
    . have hl0:=(wD hs).2 hz;have ho:out=R:=by have:=HR.out;rw[hz,BV,List.append_nil]at this;exact this
      subst ho;obtain⟨L,hL⟩:=Ti ((eX s 64).length);rw[<-hL]at CN hl0;subst hl0;clear HR Hc hz CC hle eW hL;go_wp2_with fail
      refine(CN _ _ rN).mono ?_;rintro e w2 ⟨rfl,hb2⟩;go_wp2;go_ret2
      exact⟨_,_,rfl,own.below hb2,B.tr hb2⟩
    . obtain⟨i,hl⟩:=xB hs hz;obtain⟨rest,bB⟩:=zC hl;obtain⟨x,hx⟩:=Ti (i%8);obtain⟨y,hy⟩:=Ti (i/8);have hi:=hl.1;obtain⟨bJ,bK,cA⟩:=Ei hs hl Hc.out;have k8:out.length<R.length:=by have:=congrArg List.length HR.out;rw[List.length_append,cA,List.length_cons]at this;omega
      have hrt:eT i=((x:Int),(y:Int),false):=by unfold eT;rw[<-hx,<-hy]
      have e8:fT i=((x:Int),(y:Int),true):=by unfold fT;rw[<-hx,<-hy]
      have j0:iT i=((x:Int),(y:Int)):=by unfold iT;rw[hx,hy,show((i:Int)%8)=((i%8:Nat):Int) by omega,show((i:Int)/8)=((i/8:Nat):Int) by omega]
      rw[j0]at bB;have a7:=Ig (i:=i) bF.out eR.out;rw[hrt]at a7;obtain⟨n2,e9⟩:=Ti (qA N ((x:Int),(y:Int),false));have CW:∀(u:Value) (w:World),Rd 1 aZ w u N->Calls prog 221 #[.agg #[u],.agg #[.int .i64 x,.int .i64 y,.bool false]] w (Ret (.int .i64 n2) w):=fun u w k1=>by rw[e9];exact H7 u N x y false w k1
      rw[<-e9]at a7;obtain⟨cs,hcs⟩:=Ti (eX s 64);rw[<-hcs]at CN CC hle bB;have fL:0<cs.length:=by rw[bB];simp
      have hce:cs[0]=((x:Int),(y:Int)):=by subst bB;rfl
      have j5:(0:Int)<cs.length:=(by omega);have j1:=Tk hce;have H8:Hid ((out.length+1)*24<=140737488355328):=Tk (by omega);have HM:Hid (out.length+1<=maxLen):=Tk (by unfold maxLen;omega);clear hz hl hx hy bB j0 e9 hcs hce eW hi;go_wp2_with fail
      refine(CN _ _ rN).mono ?_;rintro e w2 ⟨rfl,hb2⟩;have fN:=bO.bl hb2;have cU:=own.below hb2;have cB:=src.bl hb2;have B2:=B.tr hb2;clear bO own src B hb2 zo rN;have zo:=fN.c1;go_wp2_with fail
      refine(CC _ _ (cB.rd h B2)).mono ?_;rintro e w3 ⟨AC,cC,rfl,oC,hb3⟩;obtain⟨gC,rfl,fR,fS⟩:=oC.split fL;have q0:=oC.slot eB (by decide) fL 0 (.int .i64 x) (by rw[j1.out];rfl);have q1:=oC.slot eB (by decide) fL 1 (.int .i64 y) (by rw[j1.out];rfl);rw[Nat.zero_mul,Nat.add_zero]at q0;rw[Nat.zero_mul,Nat.zero_add]at q1;have fW:=fN.bl hb3;have cD:=cU.below hb3;have cV:=cB.bl hb3;have B3:=B2.tr hb3;have hap:Value.ownBlock (.slice A1 out.length c1)≠some (w3.heap.size+1):=fun e=>by have:=(World.ownsRow.lt cD _ e).2;omega
      have j2:w.heap.size<=w3.heap.size+1:=by have:=B3.size;omega
      have k9:=fW.lt;clear fN cU cB B2 hb3 zo oC;go_upto_region 8 with(fail)
      have e5:=(fW.alloc (.cells #[.int .i64 x,.int .i64 y] 83)).alloc (.cells #[.int .i64 x,.int .i64 y,.bool false] 99);have cE:=(cD.alloc (.cells #[.int .i64 x,.int .i64 y] 83)).alloc (.cells #[.int .i64 x,.int .i64 y,.bool false] 99);have b6:=(cV.bl ((Below.refl _ _).al (.cells #[.int .i64 x,.int .i64 y] 83))).bl ((Below.refl _ _).al (.cells #[.int .i64 x,.int .i64 y,.bool false] 99));have B4:=(B3.al (.cells #[.int .i64 x,.int .i64 y] 83)).al (.cells #[.int .i64 x,.int .i64 y,.bool false] 99);have cW:=Blk.gI (w3.alloc (.cells #[.int .i64 x,.int .i64 y] 83)) 99 #[.int .i64 x,.int .i64 y,.bool false] (w3.heap.size+1) (by simp);obtain⟨W,hW⟩:=Ti ((w3.alloc (.cells #[.int .i64 x,.int .i64 y] 83)).alloc (.cells #[.int .i64 x,.int .i64 y,.bool false] 99));obtain⟨gD,j3⟩:=Ti (w3.heap.size+1);have j4:gO≠gD:=(by omega);have e6:=j4.symm;rw[<-hW]at e5 cE b6 B4 cW⊢;rw[<-j3]at cW hap j2⊢;clear hW j3 fW cD cV B3 q0 q1 fR fS;have zo:=e5.c1;obtain⟨cF,cG,cH⟩:=cW.n3;go_wp2_with fail
      refine(CW _ _ (b6.rd h B4)).mono ?_;rintro e w5 ⟨rfl,cP⟩;have fX:=e5.bl cP;have cX:=cE.below cP;have cY:=b6.bl cP;have B5:=B4.tr cP;have cQ:=cW.bl cP;clear e5 cE b6 B4 cW cP zo cF cG cH;rcases hg:vU s i with _|_
      . have hst : vV s i = ((x : Int), (y : Int), true) := by unfold vV; rw [hg, if_neg (by simp), e8]
        have bP:n2=0:=a7.2 hg;have hne:(n2==0)=true:=by rw[bP];rfl
        clear a7 bP hg;have fD:=fun j=>cQ.frozen j
        obtain⟨lA,lB,lO⟩:=cQ.n3;have dL:=cQ.st 2 (.bool true) #[.int .i64 x,.int .i64 y,.bool true] rfl;have dT:=cX.far (a:=⟨gD,2,none⟩) hap (.bool true);have eA:=fX.far (p:=⟨gD,2,none⟩) j4 (.bool true);have j6:=B5.st ⟨gD,2,none⟩ (.bool true) j2
        have eC:Src w (.slice A rows.length c) rows (w5.setCell ⟨gD,2,none⟩ (.bool true)) (.slice A2 N.length c2) N:=by
         rcases cY with q|q
         . exact .inl q
         . exact .inr (q.far (q.apart cQ (by decide)) _)
        rw[hst]at bJ bK cA;have b7:=Nh bJ;obtain⟨sx,sy,a8⟩:∃sx sy,sec ((x:Int),(y:Int),true)=(sx,sy):=⟨_,_,rfl⟩;obtain⟨cI,cJ⟩:=dR b7;rw[a8]at cJ;simp only at cI;have eE:fC ((x:Int),(y:Int),true)=(dJ ((x:Int),(y:Int))).toNat:=rfl;have eI:jL ((x:Int),(y:Int),true)=(dJ (sx,sy)).toNat:=by unfold jL;rw[a8]
        have hwt:=wO hs b7;obtain⟨S1,hS1⟩:=Ti (jA s (fC ((x:Int),(y:Int),true)));obtain⟨S2,bR⟩:=Ti (dE s (aG ((x:Int),(y:Int),true)));rw[<-hS1,<-bR]at hwt;have fY:S1<U64:=by rw[hS1];exact eD hs
        have hl2:S2<U64:=by rw[bR];exact eD hs
        have gF:Hid ((out++[((x:Int),(y:Int),true)])++firstT S2=R):=Tk (by rw[<-HR.out,cA,<-bR,List.append_assoc];rfl);have gK:Hid (gH S2≠0):=Tk (by rw[bR];exact bK);have eJ:=nA S1 8 (Tm _)
        have C1 : ∀ (u : Value) (w : World), Rd 1 aZ w u N -> Calls prog 222 #[.agg #[u], .agg #[.int .i64 x, .int .i64 y], .bool false] w (qU (rowsOf S1 8) true w) := fun u w k1 => by
         have:=kR u N x y false w k1 (by have:=bF.out.1;unfold Small;omega);rw[yE bF.out cI,eR.out,<-eE,<-hS1]at this;exact this
        have C2 : ∀ (u : Value) (w : World), Rd 1 aZ w u (rowsOf S1 8) -> Calls prog 222 #[.agg #[u], .agg #[.int .i64 sx, .int .i64 sy], .bool false] w (qU (rowsOf S2 8) true w) := fun u w k1 => by
         have:=kR u (rowsOf S1 8) sx sy false w k1 (by rw[fV];unfold Small;decide);rw[yE eJ cJ,lU fY,<-eI,hwt]at this;exact this
        have cK:=Tk a8;have gL:=Tk b7;clear hst hrt e8 bJ bK cA a8 cI cJ eE eI hwt hS1 bR eJ b7 HR Hc;obtain⟨cF,cG,cH⟩:=dL.n3;go_wp2_with fail
        refine(jX x y true _ gL.out).mono ?_;rintro e w6 ⟨rfl,bL⟩;rw[cK.out];go_upto_region 11 with(fail)
        have bC:=(((eA).bl bL).alloc (.cells #[.int .i64 x,.int .i64 y] 83)).alloc (.cells #[.int .i64 sx,.int .i64 sy] 83);have bD:=(((dT).below bL).alloc (.cells #[.int .i64 x,.int .i64 y] 83)).alloc (.cells #[.int .i64 sx,.int .i64 sy] 83);have bS:=(((eC).bl bL).bl ((Below.refl _ _).al (.cells #[.int .i64 x,.int .i64 y] 83))).bl ((Below.refl _ _).al (.cells #[.int .i64 sx,.int .i64 sy] 83));have B6:=(((j6).tr bL).al (.cells #[.int .i64 x,.int .i64 y] 83)).al (.cells #[.int .i64 sx,.int .i64 sy] 83);have eK:=(((dL).bl bL).alloc (.cells #[.int .i64 x,.int .i64 y] 83)).alloc (.cells #[.int .i64 sx,.int .i64 sy] 83);have cL:=(Blk.aX w6 83 #[.int .i64 x,.int .i64 y]).alloc (.cells #[.int .i64 sx,.int .i64 sy] 83);have cM:=Blk.gI (w6.alloc (.cells #[.int .i64 x,.int .i64 y] 83)) 83 #[.int .i64 sx,.int .i64 sy] (w6.heap.size+1) (by simp);have gM:=((eA).bl bL).lt;obtain⟨U,hU⟩:=Ti ((w6.alloc (.cells #[.int .i64 x,.int .i64 y] 83)).alloc (.cells #[.int .i64 sx,.int .i64 sy] 83));obtain⟨gB,eL⟩:=Ti (w6.heap.size+1);obtain⟨gA,eM⟩:=Ti w6.heap.size;rw[<-hU]at bC bD bS B6 eK cL cM⊢;rw[<-eL]at cM⊢;rw[<-eM]at cL⊢;have gN:gO≠gB:=(by omega);have gP:=gN.symm;clear hU eL eM cF cG cH;have cN:=bC.c1;obtain⟨gQ,gR⟩:=cL.n2;go_wp2_with fail
        refine(C1 _ _ (bS.rd h B6)).mono ?_;rintro e w7 ⟨E1,e1,rfl,o7,a6⟩;rw[fV]at o7⊢;have o7:=(o7.mono B6.size).far (a:=⟨gO,0,none⟩) ((o7.mono B6.size).apart (bC.bl a6) (by decide)) (.slice E1 8 e1);have fO:=fun j=>(bC.bl a6).frozen j
        have zO:=(bC.bl a6).c1;have bM:=(bC.bl a6).set1 (.slice E1 8 e1);have bU:=(bD.below a6).far (a:=⟨gO,0,none⟩) ((bD.below a6).apart (bC.bl a6) (by decide)) (.slice E1 8 e1);have gS:=(eK.bl a6).far (p:=⟨gO,0,none⟩) e6 (.slice E1 8 e1);have gT:=(cM.bl a6).far (p:=⟨gO,0,none⟩) gP (.slice E1 8 e1);have B7:=(B6.tr a6).st ⟨gO,0,none⟩ (.slice E1 8 e1) bN;clear cN gQ gR;have cN:=bM.c1;obtain⟨gW,gX⟩:=gT.n2;go_wp2_with fail
        refine(C2 _ _ (o7.rd (l:=rowsOf S1 8) aM (by decide))).mono ?_;rintro e w8 ⟨E2,e2,rfl,o8,bA⟩;rw[fV]at o8⊢;have o8:=(o8.mono B7.size).far (a:=⟨gO,0,none⟩) ((o8.mono B7.size).apart (bM.bl bA) (by decide)) (.slice E2 8 e2);have j7:=fun j=>(bM.bl bA).frozen j
        have j8:=(bM.bl bA).c1;have eN:=(bM.bl bA).set1 (.slice E2 8 e2);have bE:=(bU.below bA).far (a:=⟨gO,0,none⟩) ((bU.below bA).apart (bM.bl bA) (by decide)) (.slice E2 8 e2);have bY:=gS.bl bA;have gY:=bY.far (p:=⟨gO,0,none⟩) e6 (.slice E2 8 e2);have B8:=(B7.tr bA).st ⟨gO,0,none⟩ (.slice E2 8 e2) bN;clear cN gW gX;obtain⟨cF,cG,cH⟩:=bY.n3;obtain⟨j9,kA,kB⟩:=gY.n3;go_wp2_with (at_builtin;go_must (refine lX (enc:=aV) aJ aC aL B8 bE (((x:Int),(y:Int),true):Dm) H8.out HM.out (by simp) rfl _ _ rfl rfl rfl ?_);intro v9 w9 b5 hE eP kO;obtain⟨A9,c9,rfl,k0,k5⟩:=b5.form;have hP:=(eN.alloc (.cells (aV ((x:Int),(y:Int),true)).toArray 99)).grown eP (fun e=>(bE.apart eN (by decide)) e.symm);have o9:=aD.mG (aD.alloc (l:=rowsOf S2 8) o8 (.cells (aV ((x:Int),(y:Int),true)).toArray 99)) (bE.alloc (.cells (aV ((x:Int),(y:Int),true)).toArray 99)) (by decide) eP)
        go_roundw
        case rel=>exact⟨S2,rowsOf S2 8,_,_,E2,_,e2,hl2,by simp,Tk (nA S2 8 (Tm _)),Tk (lU hl2),by rw[fV];exact hP,.inr (by rw[fV];exact o9),b5,hE,gK,gF⟩
        case measure=>simp[sliceLen];omega
      . have hst : vV s i = ((x : Int), (y : Int), false) := by unfold vV; rw [hg, if_pos rfl, hrt]
        have bP:n2≠0:=fun e=>by rw[a7.1 e]at hg;cases hg
        have hne:(n2==0)=false:=(by simpa using bP);clear a7 bP hg;rw[hst]at bJ bK cA;have b7:=Nh bJ;obtain⟨sx,sy,a8⟩:∃sx sy,sec ((x:Int),(y:Int),false)=(sx,sy):=⟨_,_,rfl⟩;obtain⟨cI,cJ⟩:=dR b7;rw[a8]at cJ;simp only at cI;have eE:fC ((x:Int),(y:Int),false)=(dJ ((x:Int),(y:Int))).toNat:=rfl;have eI:jL ((x:Int),(y:Int),false)=(dJ (sx,sy)).toNat:=by unfold jL;rw[a8]
        have hwt:=wO hs b7;obtain⟨S1,hS1⟩:=Ti (jA s (fC ((x:Int),(y:Int),false)));obtain⟨S2,bR⟩:=Ti (dE s (aG ((x:Int),(y:Int),false)));rw[<-hS1,<-bR]at hwt;have fY:S1<U64:=by rw[hS1];exact eD hs
        have hl2:S2<U64:=by rw[bR];exact eD hs
        have gF:Hid ((out++[((x:Int),(y:Int),false)])++firstT S2=R):=Tk (by rw[<-HR.out,cA,<-bR,List.append_assoc];rfl);have gK:Hid (gH S2≠0):=Tk (by rw[bR];exact bK);have eJ:=nA S1 8 (Tm _)
        have C1 : ∀ (u : Value) (w : World), Rd 1 aZ w u N -> Calls prog 222 #[.agg #[u], .agg #[.int .i64 x, .int .i64 y], .bool false] w (qU (rowsOf S1 8) true w) := fun u w k1 => by
         have:=kR u N x y false w k1 (by have:=bF.out.1;unfold Small;omega);rw[yE bF.out cI,eR.out,<-eE,<-hS1]at this;exact this
        have C2 : ∀ (u : Value) (w : World), Rd 1 aZ w u (rowsOf S1 8) -> Calls prog 222 #[.agg #[u], .agg #[.int .i64 sx, .int .i64 sy], .bool false] w (qU (rowsOf S2 8) true w) := fun u w k1 => by
         have:=kR u (rowsOf S1 8) sx sy false w k1 (by rw[fV];unfold Small;decide);rw[yE eJ cJ,lU fY,<-eI,hwt]at this;exact this
        have cK:=Tk a8;have gL:=Tk b7;clear hst hrt e8 bJ bK cA a8 cI cJ eE eI hwt hS1 bR eJ b7 HR Hc;obtain⟨cF,cG,cH⟩:=cQ.n3;go_wp2_with fail
        refine(jX x y false _ gL.out).mono ?_;rintro e w6 ⟨rfl,bL⟩;rw[cK.out];go_upto_region 11 with(fail)
        have bC:=(((fX).bl bL).alloc (.cells #[.int .i64 x,.int .i64 y] 83)).alloc (.cells #[.int .i64 sx,.int .i64 sy] 83);have bD:=(((cX).below bL).alloc (.cells #[.int .i64 x,.int .i64 y] 83)).alloc (.cells #[.int .i64 sx,.int .i64 sy] 83);have bS:=(((cY).bl bL).bl ((Below.refl _ _).al (.cells #[.int .i64 x,.int .i64 y] 83))).bl ((Below.refl _ _).al (.cells #[.int .i64 sx,.int .i64 sy] 83));have B6:=(((B5).tr bL).al (.cells #[.int .i64 x,.int .i64 y] 83)).al (.cells #[.int .i64 sx,.int .i64 sy] 83);have eK:=(((cQ).bl bL).alloc (.cells #[.int .i64 x,.int .i64 y] 83)).alloc (.cells #[.int .i64 sx,.int .i64 sy] 83);have cL:=(Blk.aX w6 83 #[.int .i64 x,.int .i64 y]).alloc (.cells #[.int .i64 sx,.int .i64 sy] 83);have cM:=Blk.gI (w6.alloc (.cells #[.int .i64 x,.int .i64 y] 83)) 83 #[.int .i64 sx,.int .i64 sy] (w6.heap.size+1) (by simp);have gM:=((fX).bl bL).lt;obtain⟨U,hU⟩:=Ti ((w6.alloc (.cells #[.int .i64 x,.int .i64 y] 83)).alloc (.cells #[.int .i64 sx,.int .i64 sy] 83));obtain⟨gB,eL⟩:=Ti (w6.heap.size+1);obtain⟨gA,eM⟩:=Ti w6.heap.size;rw[<-hU]at bC bD bS B6 eK cL cM⊢;rw[<-eL]at cM⊢;rw[<-eM]at cL⊢;have gN:gO≠gB:=(by omega);have gP:=gN.symm;clear hU eL eM cF cG cH;have cN:=bC.c1;obtain⟨gQ,gR⟩:=cL.n2;go_wp2_with fail
        refine(C1 _ _ (bS.rd h B6)).mono ?_;rintro e w7 ⟨E1,e1,rfl,o7,a6⟩;rw[fV]at o7⊢;have o7:=(o7.mono B6.size).far (a:=⟨gO,0,none⟩) ((o7.mono B6.size).apart (bC.bl a6) (by decide)) (.slice E1 8 e1);have fO:=fun j=>(bC.bl a6).frozen j
        have zO:=(bC.bl a6).c1;have bM:=(bC.bl a6).set1 (.slice E1 8 e1);have bU:=(bD.below a6).far (a:=⟨gO,0,none⟩) ((bD.below a6).apart (bC.bl a6) (by decide)) (.slice E1 8 e1);have gS:=(eK.bl a6).far (p:=⟨gO,0,none⟩) e6 (.slice E1 8 e1);have gT:=(cM.bl a6).far (p:=⟨gO,0,none⟩) gP (.slice E1 8 e1);have B7:=(B6.tr a6).st ⟨gO,0,none⟩ (.slice E1 8 e1) bN;clear cN gQ gR;have cN:=bM.c1;obtain⟨gW,gX⟩:=gT.n2;go_wp2_with fail
        refine(C2 _ _ (o7.rd (l:=rowsOf S1 8) aM (by decide))).mono ?_;rintro e w8 ⟨E2,e2,rfl,o8,bA⟩;rw[fV]at o8⊢;have o8:=(o8.mono B7.size).far (a:=⟨gO,0,none⟩) ((o8.mono B7.size).apart (bM.bl bA) (by decide)) (.slice E2 8 e2);have j7:=fun j=>(bM.bl bA).frozen j
        have j8:=(bM.bl bA).c1;have eN:=(bM.bl bA).set1 (.slice E2 8 e2);have bE:=(bU.below bA).far (a:=⟨gO,0,none⟩) ((bU.below bA).apart (bM.bl bA) (by decide)) (.slice E2 8 e2);have bY:=gS.bl bA;have gY:=bY.far (p:=⟨gO,0,none⟩) e6 (.slice E2 8 e2);have B8:=(B7.tr bA).st ⟨gO,0,none⟩ (.slice E2 8 e2) bN;clear cN gW gX;obtain⟨cF,cG,cH⟩:=bY.n3;obtain⟨j9,kA,kB⟩:=gY.n3;go_wp2_with (at_builtin;go_must (refine lX (enc:=aV) aJ aC aL B8 bE (((x:Int),(y:Int),false):Dm) H8.out HM.out (by simp) rfl _ _ rfl rfl rfl ?_);intro v9 w9 b5 hE eP kO;obtain⟨A9,c9,rfl,k0,k5⟩:=b5.form;have hP:=(eN.alloc (.cells (aV ((x:Int),(y:Int),false)).toArray 99)).grown eP (fun e=>(bE.apart eN (by decide)) e.symm);have o9:=aD.mG (aD.alloc (l:=rowsOf S2 8) o8 (.cells (aV ((x:Int),(y:Int),false)).toArray 99)) (bE.alloc (.cells (aV ((x:Int),(y:Int),false)).toArray 99)) (by decide) eP)
        go_roundw
        case rel=>exact⟨S2,rowsOf S2 8,_,_,E2,_,e2,hl2,by simp,Tk (nA S2 8 (Tm _)),Tk (lU hl2),by rw[fV];exact hP,.inr (by rw[fV];exact o9),b5,hE,gK,gF⟩
        case measure=>simp[sliceLen];omega
end Go.Proofs.YtjijonhkofhikaaGreatDoor
