import Derived.Test.YtjijonhkofhikaaGreatDoorEFirstI
open _root_.Nat renaming le_refl->TZ
open _root_.Go.Proofs.Tryz (prog func171 ntmps171)
set_option linter.unusedVariables false
set_option linter.unusedSimpArgs false
set_option maxHeartbeats 4000000
set_option maxRecDepth 100000
namespace Go.Proofs.YtjijonhkofhikaaGreatDoor
open Go.ChangeShapes Go.WideShapes Go.ChangeAt Go.RowKit
def sliceLen:Value->Nat
  | .slice _ n _=>n
  |_=>0
def Src (w:World) (h0:Value) (r0:List Int) (wr:World) (v:Value) (N:List Int):Prop:=(v=h0/\N=r0)∨aD 3 1 bH w.heap.size wr v N
theorem Src.rd {w wr:World} {h0 v:Value} {r0 N:List Int} (h:Src w h0 r0 wr v N) (h1:Rd 1 bG w h0 r0) (B:Below w.heap.size w wr):Rd 1 bG wr v N:=by
 rcases h with⟨rfl,rfl⟩|h
 . exact h1.TW B
 . exact h.rd aJ (by decide)
theorem Src.bl {w wr w':World} {h0 v:Value} {r0 N:List Int} (h:Src w h0 r0 wr v N) (hb:Below wr.heap.size wr w'):Src w h0 r0 w' v N:=by
 rcases h with h|h
 . exact .inl h
 . exact .inr (h.below hb)
theorem IG {rows:List Int} {s i:Nat} (a6:dY rows) (a7:setOf rows=s):pW rows (eQ i)=0↔vP s i=false:=by
 unfold pW vP;rw[aN.2 a6,a7,Bool.true_and];rcases q:eU s (eQ i)with _|_
 . simp
 . simp
theorem Nw {s:Nat} {d:Dm} (h:eU s d=true):aI d=true:=by unfold eU at h;rw[Bool.and_eq_true]at h;exact h.1
theorem J8 (v:Value) (rows:List Int) (w:World) (h:Rd 1 bG w v rows):Calls prog 171 #[.agg #[v]] w (OJ (dV rows) (jW rows) w):=by
 obtain⟨A,c,rfl,hc,hm⟩:=h.form;have hA:=((Below.refl w.heap.size w).al (.cells #[.slice A rows.length c] 26)).al (.cells #[] 99);have bX:=(Blk.aZ w 26 #[.slice A rows.length c]).alloc (.cells #[] 99)
 have cA:aD 99 3 aX w.heap.size ((w.alloc (.cells #[.slice A rows.length c] 26)).alloc (.cells #[] 99)) (.slice (some ⟨w.heap.size+1,0,none⟩) ([]:List Dm).length 0) []:=by
  have:=(eZ (w.alloc (.cells #[.slice A rows.length c] 26)) (E:=99) (size:=3) (enc:=aX)).mono (show w.heap.size<=_ from(((Below.refl w.heap.size w).al (.cells #[.slice A rows.length c] 26))).size);simpa using this
 by_cases h0:aY rows=0
 . have e1 : dV rows = [] := by unfold dV; rw [if_pos h0]
   have e2:jW rows=false:=by unfold jW;exact decide_eq_false (fun q=>q h0)
   rw[e1,e2];have C:∀(u:Value) (w:World),Rd 1 bG w u rows->Calls prog 219 #[.agg #[u]] w (Ret (.int .i64 0) w):=fun u w k1=>by have:=wM u rows w k1;rw[h0]at this;exact this
   clear h0 e1 e2;go_enter func171,ntmps171
   go_wp2_with fail
   refine(C _ _ (h.TW hA)).mono ?_;rintro e w1 ⟨rfl,hb1⟩;go_wp2;go_ret2
   exact⟨_,_,rfl,cA.below hb1,hA.tr hb1⟩
 . have hr:bQ rows=true:=by
    rcases q:bQ rows with _|_
    . exact absurd (show aY rows=0 by unfold aY;rw[q];rfl) h0
    . rfl
   have cT:Hid (dY rows):=TY (aN.1 hr);have hs0:=dW cT.out;have e1:dV rows=firstT (setOf rows):=by unfold dV;rw[if_neg h0]
   have e2:jW rows=true:=by unfold jW;exact decide_eq_true h0
   rw[e1,e2];have hc0:fF (setOf rows)≠0:=by unfold aY at h0;rw[if_pos hr]at h0;exact h0
   obtain⟨n,hn⟩:=TV (aY rows);have C:∀(u:Value) (w:World),Rd 1 bG w u rows->Calls prog 219 #[.agg #[u]] w (Ret (.int .i64 n) w):=fun u w k1=>by rw[hn];exact wM u rows w k1
   rw[<-hn]at h0;have k8:(n==0)=false:=(by simpa using h0);obtain⟨R,hR⟩:=TV (firstT (setOf rows));have k9:R.length<=64:=by rw[hR];exact zG _
   rw[<-hR];have j0:Hid ([]++firstT (setOf rows)=R):=TY hR.symm;have j1:=TY hc0;clear h0 hr e1 e2 hR hc0 hn;go_enter func171,ntmps171
   go_wp2_with fail
   refine(C _ _ (h.TW hA)).mono ?_;rintro e w1 ⟨rfl,hb1⟩;have B1:=(hA.tr hb1).al (.cells #[.slice A rows.length c] 26);have cU:=(cA.below hb1).alloc (.cells #[.slice A rows.length c] 26);have e9:=Blk.aZ w1 26 #[.slice A rows.length c];have zx:=(bX.bl hb1).c1;have bR:w.heap.size<=w1.heap.size:=(hA.tr hb1).size;obtain⟨gO,cB⟩:=TV w1.heap.size;rw[<-cB]at e9 bR;have cV:Src w (.slice A rows.length c) rows (w1.alloc (.cells #[.slice A rows.length c] 26)) (.slice A rows.length c) rows:= .inl ⟨rfl,rfl⟩;clear hA bX hb1 cA;go_wp2_with fail
   rw[<-cB];clear cB zx;go_loopw [4] (fun s4 wr=>∃(s:Nat) (N:List Int) (out:List Dm) (A1 A2:Option Addr) (c1 c2:Nat),s<U64/\s4= .slice A1 out.length c1/\Hid (dY N)/\Hid (setOf N=s)/\Blk wr gO 26 #[.slice A2 N.length c2]/\Src w (.slice A rows.length c) rows wr (.slice A2 N.length c2) N/\aD 99 3 aX w.heap.size wr (.slice A1 out.length c1) out/\Below w.heap.size w wr/\Hid (fF s≠0)/\Hid (out++firstT s=R)) (fun s4 _=>R.length-sliceLen s4)
   case atStart=>exact⟨setOf rows,rows,[],_,_,_,_,hs0,rfl,cT,TY rfl,e9,cV,cU,B1,j1,j0⟩
   case round=>
    obtain⟨s,N,out,A1,A2,c1,c2,hs,rfl,bF,e5,bO,src,own,B,Hc,HR⟩:=hrel;clear cU e9 cV B1 j0 j1;have hlen:out.length<=64:=by have:=congrArg List.length HR.out;rw[List.length_append]at this;omega
    have e6:eF N=eT s 64:=by unfold eF;rw[if_pos (aN.2 bF.out),e5.out]
    have CN:∀(u:Value) (w:World),Rd 1 bG w u N->Calls prog 217 #[.agg #[u]] w (Ret (.int .i64 (eT s 64).length) w):=fun u w k1=>by have:=vC u N w k1;rw[e6]at this;exact this
    have CC:∀(u:Value) (w:World),Rd 1 bG w u N->Calls prog 220 #[.agg #[u]] w (iH 83 2 dH (eT s 64) w):=fun u w k1=>by have:=uM u N w k1;rw[e6]at this;exact this
    have hle:=uY s 64;have rN:=src.rd h B;have zo:=bO.c1;by_cases hz:s=0
    . have hl0:=(vV hs).2 hz;have ho:out=R:=by have:=HR.out;rw[hz,Ch,List.append_nil]at this;exact this
      subst ho;obtain⟨L,hL⟩:=TV ((eT s 64).length);rw[<-hL]at CN hl0;subst hl0;clear HR Hc hz CC hle e6 hL;go_wp2_with fail
      refine(CN _ _ rN).mono ?_;rintro e w2 ⟨rfl,hb2⟩;go_wp2;go_ret2
      exact⟨_,_,rfl,own.below hb2,B.tr hb2⟩
    . obtain⟨i,hl⟩:=xB hs hz;obtain⟨rest,bB⟩:=zH hl;obtain⟨x,hx⟩:=TV (i%8);obtain⟨y,hy⟩:=TV (i/8);have hi:=hl.1;obtain⟨bJ,bK,cD⟩:=Ex hs hl Hc.out;have lA:out.length<R.length:=by have:=congrArg List.length HR.out;rw[List.length_append,cD,List.length_cons]at this;omega
      have hrt:eQ i=((x:Int),(y:Int),false):=by unfold eQ;rw[<-hx,<-hy]
      have fL:fK i=((x:Int),(y:Int),true):=by unfold fK;rw[<-hx,<-hy]
      have j2:iI i=((x:Int),(y:Int)):=by unfold iI;rw[hx,hy,show((i:Int)%8)=((i%8:Nat):Int) by omega,show((i:Int)/8)=((i/8:Nat):Int) by omega]
      rw[j2]at bB;have a7:=IG (i:=i) bF.out e5.out;rw[hrt]at a7;obtain⟨n2,fN⟩:=TV (pW N ((x:Int),(y:Int),false));have CW:∀(u:Value) (w:World),Rd 1 bG w u N->Calls prog 221 #[.agg #[u],.agg #[.int .i64 x,.int .i64 y,.bool false]] w (Ret (.int .i64 n2) w):=fun u w k1=>by rw[fN];exact Iu u N x y false w k1
      rw[<-fN]at a7;obtain⟨cs,hcs⟩:=TV (eT s 64);rw[<-hcs]at CN CC hle bB;have fR:0<cs.length:=by rw[bB];simp
      have hce:cs[0]=((x:Int),(y:Int)):=by subst bB;rfl
      have j7:(0:Int)<cs.length:=(by omega);have j3:=TY hce;have H8:Hid ((out.length+1)*24<=140737488355328):=TY (by omega);have HM:Hid (out.length+1<=maxLen):=TY (by unfold maxLen;omega);clear hz hl hx hy bB j2 fN hcs hce e6 hi;go_wp2_with fail
      refine(CN _ _ rN).mono ?_;rintro e w2 ⟨rfl,hb2⟩;have fS:=bO.bl hb2;have cW:=own.below hb2;have cE:=src.bl hb2;have B2:=B.tr hb2;clear bO own src B hb2 zo rN;have zo:=fS.c1;go_wp2_with fail
      refine(CC _ _ (cE.rd h B2)).mono ?_;rintro e w3 ⟨AC,cC,rfl,oC,hb3⟩;obtain⟨gC,rfl,fW,fX⟩:=oC.split fR;have q0:=oC.slot eG (by decide) fR 0 (.int .i64 x) (by rw[j3.out];rfl);have q1:=oC.slot eG (by decide) fR 1 (.int .i64 y) (by rw[j3.out];rfl);rw[Nat.zero_mul,Nat.add_zero]at q0;rw[Nat.zero_mul,Nat.zero_add]at q1;have fY:=fS.bl hb3;have cF:=cW.below hb3;have cX:=cE.bl hb3;have B3:=B2.tr hb3;have hap:Value.ownBlock (.slice A1 out.length c1)≠some (w3.heap.size+1):=fun e=>by have:=(World.ownsRow.lt cF _ e).2;omega
      have j4:w.heap.size<=w3.heap.size+1:=by have:=B3.size;omega
      have lB:=fY.lt;clear fS cW cE B2 hb3 zo oC;go_upto_region 8 with(fail)
      have e7:=(fY.alloc (.cells #[.int .i64 x,.int .i64 y] 83)).alloc (.cells #[.int .i64 x,.int .i64 y,.bool false] 99);have cG:=(cF.alloc (.cells #[.int .i64 x,.int .i64 y] 83)).alloc (.cells #[.int .i64 x,.int .i64 y,.bool false] 99);have b8:=(cX.bl ((Below.refl _ _).al (.cells #[.int .i64 x,.int .i64 y] 83))).bl ((Below.refl _ _).al (.cells #[.int .i64 x,.int .i64 y,.bool false] 99));have B4:=(B3.al (.cells #[.int .i64 x,.int .i64 y] 83)).al (.cells #[.int .i64 x,.int .i64 y,.bool false] 99);have cY:=Blk.gZ (w3.alloc (.cells #[.int .i64 x,.int .i64 y] 83)) 99 #[.int .i64 x,.int .i64 y,.bool false] (w3.heap.size+1) (by simp);obtain⟨W,hW⟩:=TV ((w3.alloc (.cells #[.int .i64 x,.int .i64 y] 83)).alloc (.cells #[.int .i64 x,.int .i64 y,.bool false] 99));obtain⟨gD,j5⟩:=TV (w3.heap.size+1);have j6:gO≠gD:=(by omega);have e8:=j6.symm;rw[<-hW]at e7 cG b8 B4 cY⊢;rw[<-j5]at cY hap j4⊢;clear hW j5 fY cF cX B3 q0 q1 fW fX;have zo:=e7.c1;obtain⟨cH,cI,cJ⟩:=cY.n3;go_wp2_with fail
      refine(CW _ _ (b8.rd h B4)).mono ?_;rintro e w5 ⟨rfl,cR⟩;have gF:=e7.bl cR;have dL:=cG.below cR;have dT:=b8.bl cR;have B5:=B4.tr cR;have cS:=cY.bl cR;clear e7 cG b8 B4 cY cR zo cH cI cJ;rcases hg:vP s i with _|_
      . have hst : vQ s i = ((x : Int), (y : Int), true) := by unfold vQ; rw [hg, if_neg (by simp), fL]
        have bU:n2=0:=a7.2 hg;have hne:(n2==0)=true:=by rw[bU];rfl
        clear a7 bU hg;have fD:=fun j=>cS.frozen j
        obtain⟨lO,lR,l4⟩:=cS.n3;have eA:=cS.st 2 (.bool true) #[.int .i64 x,.int .i64 y,.bool true] rfl;have eC:=dL.far (a:=⟨gD,2,none⟩) hap (.bool true);have eE:=gF.far (p:=⟨gD,2,none⟩) j6 (.bool true);have j8:=B5.st ⟨gD,2,none⟩ (.bool true) j4
        have eI:Src w (.slice A rows.length c) rows (w5.setCell ⟨gD,2,none⟩ (.bool true)) (.slice A2 N.length c2) N:=by
         rcases dT with q|q
         . exact .inl q
         . exact .inr (q.far (q.apart cS (by decide)) _)
        rw[hst]at bJ bK cD;have b9:=Nw bJ;obtain⟨sx,sy,a8⟩:∃sx sy,sec ((x:Int),(y:Int),true)=(sx,sy):=⟨_,_,rfl⟩;obtain⟨cK,cL⟩:=dR b9;rw[a8]at cL;simp only at cK;have eJ:eY ((x:Int),(y:Int),true)=(dJ ((x:Int),(y:Int))).toNat:=rfl;have eK:jG ((x:Int),(y:Int),true)=(dJ (sx,sy)).toNat:=by unfold jG;rw[a8]
        have hwt:=wL hs b9;obtain⟨S1,hS1⟩:=TV (iO s (eY ((x:Int),(y:Int),true)));obtain⟨S2,bW⟩:=TV (dE s (aG ((x:Int),(y:Int),true)));rw[<-hS1,<-bW]at hwt;have gK:S1<U64:=by rw[hS1];exact eD hs
        have hl2:S2<U64:=by rw[bW];exact eD hs
        have gL:Hid ((out++[((x:Int),(y:Int),true)])++firstT S2=R):=TY (by rw[<-HR.out,cD,<-bW,List.append_assoc];rfl);have gM:Hid (fF S2≠0):=TY (by rw[bW];exact bK);have eL:=mV S1 8 (TZ _)
        have C1 : ∀ (u : Value) (w : World), Rd 1 bG w u N -> Calls prog 222 #[.agg #[u], .agg #[.int .i64 x, .int .i64 y], .bool false] w (qV (rowsOf S1 8) true w) := fun u w k1 => by
         have:=kJ u N x y false w k1 (by have:=bF.out.1;unfold Small;omega);rw[yC bF.out cK,e5.out,<-eJ,<-hS1]at this;exact this
        have C2 : ∀ (u : Value) (w : World), Rd 1 bG w u (rowsOf S1 8) -> Calls prog 222 #[.agg #[u], .agg #[.int .i64 sx, .int .i64 sy], .bool false] w (qV (rowsOf S2 8) true w) := fun u w k1 => by
         have:=kJ u (rowsOf S1 8) sx sy false w k1 (by rw[fP];unfold Small;decide);rw[yC eL cL,lQ gK,<-eK,hwt]at this;exact this
        have cM:=TY a8;have gN:=TY b9;clear hst hrt fL bJ bK cD a8 cK cL eJ eK hwt hS1 bW eL b9 HR Hc;obtain⟨cH,cI,cJ⟩:=eA.n3;go_wp2_with fail
        refine(jP x y true _ gN.out).mono ?_;rintro e w6 ⟨rfl,bL⟩;rw[cM.out];go_upto_region 11 with(fail)
        have bC:=(((eE).bl bL).alloc (.cells #[.int .i64 x,.int .i64 y] 83)).alloc (.cells #[.int .i64 sx,.int .i64 sy] 83);have bD:=(((eC).below bL).alloc (.cells #[.int .i64 x,.int .i64 y] 83)).alloc (.cells #[.int .i64 sx,.int .i64 sy] 83);have bY:=(((eI).bl bL).bl ((Below.refl _ _).al (.cells #[.int .i64 x,.int .i64 y] 83))).bl ((Below.refl _ _).al (.cells #[.int .i64 sx,.int .i64 sy] 83));have B6:=(((j8).tr bL).al (.cells #[.int .i64 x,.int .i64 y] 83)).al (.cells #[.int .i64 sx,.int .i64 sy] 83);have eM:=(((eA).bl bL).alloc (.cells #[.int .i64 x,.int .i64 y] 83)).alloc (.cells #[.int .i64 sx,.int .i64 sy] 83);have cN:=(Blk.aZ w6 83 #[.int .i64 x,.int .i64 y]).alloc (.cells #[.int .i64 sx,.int .i64 sy] 83);have cP:=Blk.gZ (w6.alloc (.cells #[.int .i64 x,.int .i64 y] 83)) 83 #[.int .i64 sx,.int .i64 sy] (w6.heap.size+1) (by simp);have gP:=((eE).bl bL).lt;obtain⟨U,hU⟩:=TV ((w6.alloc (.cells #[.int .i64 x,.int .i64 y] 83)).alloc (.cells #[.int .i64 sx,.int .i64 sy] 83));obtain⟨gB,eN⟩:=TV (w6.heap.size+1);obtain⟨gA,eP⟩:=TV w6.heap.size;rw[<-hU]at bC bD bY B6 eM cN cP⊢;rw[<-eN]at cP⊢;rw[<-eP]at cN⊢;have gQ:gO≠gB:=(by omega);have gR:=gQ.symm;clear hU eN eP cH cI cJ;have cQ:=bC.c1;obtain⟨gS,gT⟩:=cN.n2;go_wp2_with fail
        refine(C1 _ _ (bY.rd h B6)).mono ?_;rintro e w7 ⟨E1,e1,rfl,o7,a6⟩;rw[fP]at o7⊢;have o7:=(o7.mono B6.size).far (a:=⟨gO,0,none⟩) ((o7.mono B6.size).apart (bC.bl a6) (by decide)) (.slice E1 8 e1);have fO:=fun j=>(bC.bl a6).frozen j
        have zO:=(bC.bl a6).c1;have bN:=(bC.bl a6).set1 (.slice E1 8 e1);have b5:=(bD.below a6).far (a:=⟨gO,0,none⟩) ((bD.below a6).apart (bC.bl a6) (by decide)) (.slice E1 8 e1);have gW:=(eM.bl a6).far (p:=⟨gO,0,none⟩) e8 (.slice E1 8 e1);have gX:=(cP.bl a6).far (p:=⟨gO,0,none⟩) gR (.slice E1 8 e1);have B7:=(B6.tr a6).st ⟨gO,0,none⟩ (.slice E1 8 e1) bR;clear cQ gS gT;have cQ:=bN.c1;obtain⟨gY,hE⟩:=gX.n2;go_wp2_with fail
        refine(C2 _ _ (o7.rd (l:=rowsOf S1 8) aJ (by decide))).mono ?_;rintro e w8 ⟨E2,e2,rfl,o8,bA⟩;rw[fP]at o8⊢;have o8:=(o8.mono B7.size).far (a:=⟨gO,0,none⟩) ((o8.mono B7.size).apart (bN.bl bA) (by decide)) (.slice E2 8 e2);have j9:=fun j=>(bN.bl bA).frozen j
        have kA:=(bN.bl bA).c1;have eR:=(bN.bl bA).set1 (.slice E2 8 e2);have bE:=(b5.below bA).far (a:=⟨gO,0,none⟩) ((b5.below bA).apart (bN.bl bA) (by decide)) (.slice E2 8 e2);have b6:=gW.bl bA;have hP:=b6.far (p:=⟨gO,0,none⟩) e8 (.slice E2 8 e2);have B8:=(B7.tr bA).st ⟨gO,0,none⟩ (.slice E2 8 e2) bR;clear cQ gY hE;obtain⟨cH,cI,cJ⟩:=b6.n3;obtain⟨kB,kO,k0⟩:=hP.n3;go_wp2_with (at_builtin;go_must (refine lT (enc:=aX) aK aC aM B8 bE (((x:Int),(y:Int),true):Dm) H8.out HM.out (by simp) rfl _ _ rfl rfl rfl ?_);intro v9 w9 b7 hZ eW k5;obtain⟨A9,c9,rfl,k6,k7⟩:=b7.form;have h9:=(eR.alloc (.cells (aX ((x:Int),(y:Int),true)).toArray 99)).grown eW (fun e=>(bE.apart eR (by decide)) e.symm);have o9:=aD.lX (aD.alloc (l:=rowsOf S2 8) o8 (.cells (aX ((x:Int),(y:Int),true)).toArray 99)) (bE.alloc (.cells (aX ((x:Int),(y:Int),true)).toArray 99)) (by decide) eW)
        go_roundw
        case rel=>exact⟨S2,rowsOf S2 8,_,_,E2,_,e2,hl2,by simp,TY (mV S2 8 (TZ _)),TY (lQ hl2),by rw[fP];exact h9,.inr (by rw[fP];exact o9),b7,hZ,gM,gL⟩
        case measure=>simp[sliceLen];omega
      . have hst : vQ s i = ((x : Int), (y : Int), false) := by unfold vQ; rw [hg, if_pos rfl, hrt]
        have bU:n2≠0:=fun e=>by rw[a7.1 e]at hg;cases hg
        have hne:(n2==0)=false:=(by simpa using bU);clear a7 bU hg;rw[hst]at bJ bK cD;have b9:=Nw bJ;obtain⟨sx,sy,a8⟩:∃sx sy,sec ((x:Int),(y:Int),false)=(sx,sy):=⟨_,_,rfl⟩;obtain⟨cK,cL⟩:=dR b9;rw[a8]at cL;simp only at cK;have eJ:eY ((x:Int),(y:Int),false)=(dJ ((x:Int),(y:Int))).toNat:=rfl;have eK:jG ((x:Int),(y:Int),false)=(dJ (sx,sy)).toNat:=by unfold jG;rw[a8]
        have hwt:=wL hs b9;obtain⟨S1,hS1⟩:=TV (iO s (eY ((x:Int),(y:Int),false)));obtain⟨S2,bW⟩:=TV (dE s (aG ((x:Int),(y:Int),false)));rw[<-hS1,<-bW]at hwt;have gK:S1<U64:=by rw[hS1];exact eD hs
        have hl2:S2<U64:=by rw[bW];exact eD hs
        have gL:Hid ((out++[((x:Int),(y:Int),false)])++firstT S2=R):=TY (by rw[<-HR.out,cD,<-bW,List.append_assoc];rfl);have gM:Hid (fF S2≠0):=TY (by rw[bW];exact bK);have eL:=mV S1 8 (TZ _)
        have C1 : ∀ (u : Value) (w : World), Rd 1 bG w u N -> Calls prog 222 #[.agg #[u], .agg #[.int .i64 x, .int .i64 y], .bool false] w (qV (rowsOf S1 8) true w) := fun u w k1 => by
         have:=kJ u N x y false w k1 (by have:=bF.out.1;unfold Small;omega);rw[yC bF.out cK,e5.out,<-eJ,<-hS1]at this;exact this
        have C2 : ∀ (u : Value) (w : World), Rd 1 bG w u (rowsOf S1 8) -> Calls prog 222 #[.agg #[u], .agg #[.int .i64 sx, .int .i64 sy], .bool false] w (qV (rowsOf S2 8) true w) := fun u w k1 => by
         have:=kJ u (rowsOf S1 8) sx sy false w k1 (by rw[fP];unfold Small;decide);rw[yC eL cL,lQ gK,<-eK,hwt]at this;exact this
        have cM:=TY a8;have gN:=TY b9;clear hst hrt fL bJ bK cD a8 cK cL eJ eK hwt hS1 bW eL b9 HR Hc;obtain⟨cH,cI,cJ⟩:=cS.n3;go_wp2_with fail
        refine(jP x y false _ gN.out).mono ?_;rintro e w6 ⟨rfl,bL⟩;rw[cM.out];go_upto_region 11 with(fail)
        have bC:=(((gF).bl bL).alloc (.cells #[.int .i64 x,.int .i64 y] 83)).alloc (.cells #[.int .i64 sx,.int .i64 sy] 83);have bD:=(((dL).below bL).alloc (.cells #[.int .i64 x,.int .i64 y] 83)).alloc (.cells #[.int .i64 sx,.int .i64 sy] 83);have bY:=(((dT).bl bL).bl ((Below.refl _ _).al (.cells #[.int .i64 x,.int .i64 y] 83))).bl ((Below.refl _ _).al (.cells #[.int .i64 sx,.int .i64 sy] 83));have B6:=(((B5).tr bL).al (.cells #[.int .i64 x,.int .i64 y] 83)).al (.cells #[.int .i64 sx,.int .i64 sy] 83);have eM:=(((cS).bl bL).alloc (.cells #[.int .i64 x,.int .i64 y] 83)).alloc (.cells #[.int .i64 sx,.int .i64 sy] 83);have cN:=(Blk.aZ w6 83 #[.int .i64 x,.int .i64 y]).alloc (.cells #[.int .i64 sx,.int .i64 sy] 83);have cP:=Blk.gZ (w6.alloc (.cells #[.int .i64 x,.int .i64 y] 83)) 83 #[.int .i64 sx,.int .i64 sy] (w6.heap.size+1) (by simp);have gP:=((gF).bl bL).lt;obtain⟨U,hU⟩:=TV ((w6.alloc (.cells #[.int .i64 x,.int .i64 y] 83)).alloc (.cells #[.int .i64 sx,.int .i64 sy] 83));obtain⟨gB,eN⟩:=TV (w6.heap.size+1);obtain⟨gA,eP⟩:=TV w6.heap.size;rw[<-hU]at bC bD bY B6 eM cN cP⊢;rw[<-eN]at cP⊢;rw[<-eP]at cN⊢;have gQ:gO≠gB:=(by omega);have gR:=gQ.symm;clear hU eN eP cH cI cJ;have cQ:=bC.c1;obtain⟨gS,gT⟩:=cN.n2;go_wp2_with fail
        refine(C1 _ _ (bY.rd h B6)).mono ?_;rintro e w7 ⟨E1,e1,rfl,o7,a6⟩;rw[fP]at o7⊢;have o7:=(o7.mono B6.size).far (a:=⟨gO,0,none⟩) ((o7.mono B6.size).apart (bC.bl a6) (by decide)) (.slice E1 8 e1);have fO:=fun j=>(bC.bl a6).frozen j
        have zO:=(bC.bl a6).c1;have bN:=(bC.bl a6).set1 (.slice E1 8 e1);have b5:=(bD.below a6).far (a:=⟨gO,0,none⟩) ((bD.below a6).apart (bC.bl a6) (by decide)) (.slice E1 8 e1);have gW:=(eM.bl a6).far (p:=⟨gO,0,none⟩) e8 (.slice E1 8 e1);have gX:=(cP.bl a6).far (p:=⟨gO,0,none⟩) gR (.slice E1 8 e1);have B7:=(B6.tr a6).st ⟨gO,0,none⟩ (.slice E1 8 e1) bR;clear cQ gS gT;have cQ:=bN.c1;obtain⟨gY,hE⟩:=gX.n2;go_wp2_with fail
        refine(C2 _ _ (o7.rd (l:=rowsOf S1 8) aJ (by decide))).mono ?_;rintro e w8 ⟨E2,e2,rfl,o8,bA⟩;rw[fP]at o8⊢;have o8:=(o8.mono B7.size).far (a:=⟨gO,0,none⟩) ((o8.mono B7.size).apart (bN.bl bA) (by decide)) (.slice E2 8 e2);have j9:=fun j=>(bN.bl bA).frozen j
        have kA:=(bN.bl bA).c1;have eR:=(bN.bl bA).set1 (.slice E2 8 e2);have bE:=(b5.below bA).far (a:=⟨gO,0,none⟩) ((b5.below bA).apart (bN.bl bA) (by decide)) (.slice E2 8 e2);have b6:=gW.bl bA;have hP:=b6.far (p:=⟨gO,0,none⟩) e8 (.slice E2 8 e2);have B8:=(B7.tr bA).st ⟨gO,0,none⟩ (.slice E2 8 e2) bR;clear cQ gY hE;obtain⟨cH,cI,cJ⟩:=b6.n3;obtain⟨kB,kO,k0⟩:=hP.n3;go_wp2_with (at_builtin;go_must (refine lT (enc:=aX) aK aC aM B8 bE (((x:Int),(y:Int),false):Dm) H8.out HM.out (by simp) rfl _ _ rfl rfl rfl ?_);intro v9 w9 b7 hZ eW k5;obtain⟨A9,c9,rfl,k6,k7⟩:=b7.form;have h9:=(eR.alloc (.cells (aX ((x:Int),(y:Int),false)).toArray 99)).grown eW (fun e=>(bE.apart eR (by decide)) e.symm);have o9:=aD.lX (aD.alloc (l:=rowsOf S2 8) o8 (.cells (aX ((x:Int),(y:Int),false)).toArray 99)) (bE.alloc (.cells (aX ((x:Int),(y:Int),false)).toArray 99)) (by decide) eW)
        go_roundw
        case rel=>exact⟨S2,rowsOf S2 8,_,_,E2,_,e2,hl2,by simp,TY (mV S2 8 (TZ _)),TY (lQ hl2),by rw[fP];exact h9,.inr (by rw[fP];exact o9),b7,hZ,gM,gL⟩
        case measure=>simp[sliceLen];omega
end Go.Proofs.YtjijonhkofhikaaGreatDoor
