import Derived.Test.YtjijonhkofhikaaGreatDoorEK10
open _root_.List renaming replicate->TZ,getElem?_eq_getElem->T9,getD_eq_getElem?_getD->Ua,getElem?_toArray->Ub,getElem?_cons_zero->Uc,getElem?_cons_succ->Ud
open _root_.Nat renaming one_pos->Ue,mul_one->Uf,add_zero->Ug
open _root_.Option renaming getD_some->Uh
open _root_.Go.IntWalk renaming i64_in->Ui
set_option linter.unusedVariables false
set_option linter.unusedSimpArgs false
set_option maxHeartbeats 4000000
set_option maxRecDepth 100000
namespace Go.Proofs.YtjijonhkofhikaaGreatDoor
open Go.ChangeShapes Go.WideShapes Go.ChangeAt Go.RowKit
def SSt (W0:World) (g gc gn x y:Nat) (now nx:List Int) (wr:World):Prop:=
 aD 3 1 bH W0.heap.size wr (.slice (some ⟨g,0,none⟩) 256 256) now/\aD 3 1 bH W0.heap.size wr (.slice (some ⟨gn,0,none⟩) 256 256) nx/\Blk wr gc 83 #[.int .i64 x,.int .i64 y]/\g≠gn/\Below W0.heap.size W0 wr
section
variable {W0 wr w' : World} {g gc gn x y : Nat} {now nx : List Int}
theorem SSt.bl (h:SSt W0 g gc gn x y now nx wr) (hb:Below wr.heap.size wr w'):SSt W0 g gc gn x y now nx w':=by
 obtain⟨a,b,c,e,f⟩:=h;exact⟨a.below hb,b.below hb,c.bl hb,e,f.tr hb⟩
theorem SSt.put (h:SSt W0 g gc gn x y now nx wr) {r:List Int} (own:aD 3 1 bH W0.heap.size w' (.slice (some ⟨gn,0,none⟩) 256 256) r) (hg:wr.grownBy w' (some gn)):SSt W0 g gc gn x y now r w':=by
 obtain⟨a,b,c,e,f⟩:=h;have hc:gc≠gn:=by intro q;have:=b.apart c (by decide);rw[q]at this;exact this rfl
 refine⟨World.ownsRow.kept a hg (.inr (by simp[Value.ownBlock];exact e)),own,c.grown hg (by simpa using hc),e,f.grown hg f.size (fun k hk=> ?_)⟩;injection hk with hk;rw[<-hk];exact b.at_.2.1
end
theorem PM {r:Int} {x:Nat} (h0:0<=r) (h1:r<=255) (hx:x<8):(bits .and .i64 (r/2^x) 1==0)= !r.toNat.testBit x:=by
 rw[<-IP h0 h1 hx,Ap,Bool.eq_iff_iff,beq_iff_eq,Bool.not_eq_true',beq_eq_false_iff_ne];omega
theorem JO (i x y:Nat) (w:World) (hi:i<64) (hx:x=i%8) (hy:y=i/8):Calls Tryz.prog 132 #[.int .i64 i] w (Ret (.tuple #[.agg #[.int .i64 x,.int .i64 y],.bool true]) w):=by
 have:=vY i w hi;rw[hx,hy];simpa using this
theorem Jn (nx : List Int) (k : Nat) (n : Int) : fU 0 (fun a b => a + b) nx k n = nx.set k (nx.getD k 0 + n) := by
 unfold fU;by_cases h:nx.getD k 0=0
 . rw[if_pos h,h,Int.zero_add]
 . rw[if_neg h]
theorem SSt.al {W0 wr:World} {g gc gn x y:Nat} {now nx:List Int} (h:SSt W0 g gc gn x y now nx wr) (o:Obj):SSt W0 g gc gn x y now nx (wr.alloc o):=h.bl ((Below.refl _ _).al o)
theorem vI (v:Value) (rows:List Int) (w:World) (h:Rd 1 bG w v rows) (cJ:Hid (dY rows)):Calls Tryz.prog 125 #[.agg #[v]] w (Ret (.int .i64 (fF (setOf rows))) w):=by
 obtain⟨A,c,rfl,hc,hm⟩:=h.form;have hA:=(Below.refl w.heap.size w).al (.cells #[.slice A rows.length c] 26);have hx:=Blk.aZ w 26 #[.slice A rows.length c];have cQ:Hid ((256:Int)=((256:Nat):Int)):=TY rfl;have hs:=dW cJ.out;obtain⟨s,eI⟩:=TV (setOf rows);rw[<-eI]at hs⊢;have cR:=TY eI;clear eI;obtain⟨R,hR⟩:=TV (fF s);rw[<-hR];have HR:=TY hR;clear hR;have B0:=Below.refl (w.alloc (.cells #[.slice A rows.length c] 26)).heap.size (w.alloc (.cells #[.slice A rows.length c] 26));go_enter Tryz.func125,Tryz.ntmps125
 go_wp2_with (at_make;go_must (refine mM (enc:=bH) (z0:=(0:Int)) fE rfl B0 256 (by decide) (by decide) _ cQ.out rfl _ _ rfl rfl rfl ?_);intro w1 hown1 hb1 hg1;have hown2:aD 3 1 bH (w.alloc (.cells #[.slice A rows.length c] 26)).heap.size w1 (.slice (some ⟨w.heap.size+1,0,none⟩) 256 256) (TZ 256 (0:Int)):=(by simpa using hown1);have hl0:0<(TZ 256 (0:Int)).length:=(by rw[List.length_replicate];decide);obtain⟨u2,s2⟩:=hown2.DI aJ hl0;have eJ:=hown2.free;have cE:=hown2.iZ aJ hl0 (y:=1) rfl;have e0:bT s 0=(TZ 256 (0:Int)).set 0 1:=rfl;rw[<-e0]at cE;have B3:=hb1.st ⟨w.heap.size+1,0,none⟩ (.int .i64 1) (by simp);clear e0 hl0)
 go_loopw [4,5] (fun s4 s5 wr=>∃(i g:Nat),i<=64/\s5= .int .i64 i/\s4= .slice (some ⟨g,0,none⟩) 256 256/\aD 3 1 bH (w.alloc (.cells #[.slice A rows.length c] 26)).heap.size wr (.slice (some ⟨g,0,none⟩) 256 256) (bT s i)/\Below (w.alloc (.cells #[.slice A rows.length c] 26)).heap.size (w.alloc (.cells #[.slice A rows.length c] 26)) wr) (fun _ i _=>64-(intOf i).toNat)
 case atStart=>exact⟨0,w.heap.size+1,by omega,rfl,rfl,cE,B3⟩
 case round=>
  obtain⟨i,g,hi,rfl,rfl,b9,bW⟩:=hrel;clear cE B3 hown1 hown2 hb1 hg1 s2 eJ;by_cases cA:i<64
  . obtain⟨x,fW⟩:=TV (i%8);obtain⟨y,hy⟩:=TV (i/8);have cF:x<8:=(by omega);have eK:y<8:=(by omega);have cS:(i:Int)%8=(x:Int):=(by omega);have Hx:=TY fW;have Hy:=TY hy;clear fW hy;go_wp2_with fail
    refine(JO i x y _ cA Hx.out Hy.out).mono ?_;rintro e w4 ⟨rfl,hb4⟩;try rw[cS]
    clear cS;have B4:=(bW.tr hb4).al (.cells #[.int .i64 x,.int .i64 y] 83);have bC:=Blk.aZ w4 83 #[.int .i64 x,.int .i64 y];have cT:=(b9.below hb4).alloc (.cells #[.int .i64 x,.int .i64 y] 83);go_wp2_with (at_make;go_must (refine mM (enc:=bH) (z0:=(0:Int)) fE rfl B4 256 (by decide) (by decide) _ cQ.out rfl _ _ rfl rfl rfl ?_);intro w5 cC fX eL)
    have dL:SSt (w.alloc (.cells #[.slice A rows.length c] 26)) g w4.heap.size (w4.heap.size+1) x y (bT s i) (TZ 256 0) w5:=by
     have kA:=(b9.below hb4).at_.2.2;exact⟨World.ownsRow.kept cT eL (.inr (by simp[Value.ownBlock])),(by simpa using cC:aD 3 1 bH (w.alloc (.cells #[.slice A rows.length c] 26)).heap.size w5 (.slice (some ⟨w4.heap.size+1,0,none⟩) 256 256) (TZ 256 0)),bC.grown eL (by simp),by omega,fX⟩
    obtain⟨gn,fY⟩:=TV (w4.heap.size+1);rw[<-fY]at dL⊢;obtain⟨gc,gA⟩:=TV w4.heap.size;rw[<-gA]at dL⊢;have cS:(i:Int)%8=(x:Int):=by have:=Hx.out;omega
    try rw[cS]
    have cU:=EI cF;obtain⟨P,hP⟩:=TV (2^x);rw[<-hP]at cU;obtain⟨gS,kB⟩:=cU;have HP:=TY hP;clear gA fY cS hP;go_loopw [10] (fun gT wr=>∃(K:Nat) (nx:List Int),K<=256/\gT= .int .i64 K/\Hid (nx=mJ s 0 (fun a b=>a+b) (fun n _=>n) (bT s i) i K)/\SSt (w.alloc (.cells #[.slice A rows.length c] 26)) g gc gn x y (bT s i) nx wr) (fun i _=>256-(intOf i).toNat)
    case atStart=>exact⟨0,_,by omega,rfl,TY (by unfold mJ;rw[List.range_zero];rfl),dL⟩
    case round=>
     obtain⟨K,nx,hK,rfl,bX,hst⟩:=hrel;clear dL b9 bW cT cC fX eL B4 bC hb4;by_cases hlt:K<256
     . have cG : K < (bT s i).length := by unfold bT; rw [yA]; exact hlt
       have zK:=hst.1.slot aJ Ue cG 0 (.int .i64 (bT s i)[K]) rfl;rw[Uf,Ug]at zK;have bY:=Nh s i K cA hlt _ (T9 cG);have cK:(bT s i).getD K 0=(bT s i)[K]:=(by rw[Ua,T9 cG,Uh]);obtain⟨n,hn⟩:=TV ((bT s i)[K]);rw[<-hn]at zK bY cK;have cD:=TY cK;clear hn cK cG;have gB:nx.length=256:=(by rw[bX.out,lY]);have dT:=TY gB;clear gB;by_cases cV:n=0
       . subst cV;have bU:Hid (jK s 0 (fun a b=>a+b) (fun n _=>n) i nx K 0=nx):=TY (by unfold jK;rw[if_pos rfl]);clear bY;go_wp2;go_roundw
         case rel=>exact⟨K+1,_,by omega,by go_num,TY (by rw[dN,<-bX.out,cD.out];exact bU.out.symm),hst⟩
         case measure=>simp[intOf];omega
       . have gW : (n == 0) = false := by simpa using cV
         obtain⟨kO,k0,gC⟩:=bY.resolve_left cV;have gD:i=8*y+x:=by have:=Hx.out;have:=Hy.out;omega
         have Hi:=TY gD;have eM:Hid (Nf nx):=TY (by rw[bX.out];exact BI s i K cA hlt);have gX:Hid (Nf (sK s 0 (fun a b=>a+b) (fun n _=>n) i nx K n)):=TY (by rw[<-cD.out,bX.out];exact KI s i K cA hlt);have t16:=IP (r:=(K:Int)) (x:=x) (by omega) (by omega) cF;rw[Int.toNat_natCast,gS]at t16;have bE:K.testBit (i%8)=true->s.testBit i=true:=fun q=>Fx gC q
         have bA : jK s 0 (fun a b => a + b) (fun n _ => n) i nx K n = if s.testBit i then (if K.testBit x then fU 0 (fun a b => a + b) nx (K - P) n else zC s 0 (fun a b => a + b) (fun n _ => n) i (sK s 0 (fun a b => a + b) (fun n _ => n) i nx K n) K n) else (if K.testBit x then nx else fU 0 (fun a b => a + b) nx K n) := by
          unfold jK;rw[if_neg cV,<-Hx.out,<-HP.out]
         rw[<-Hx.out]at bE;clear gC cV gD;have cL:=hst.2.2.1.cell 0;have cM:=hst.2.2.1.cell 1;simp only[Ub,Uc,Ud]at cL cM;have gF:=hx.bl hst.2.2.2.2;have zx:=gF.c1;rcases bR:K.testBit x with _|_
         . rcases hB:s.testBit i with _|_
           . rw[hB,bR]at bA;rw[bR]at t16;have bF:=TY bA;have HB:=TY hB;have gK:=TY bR;clear bA hB bR bE;have bU:Hid (jK s 0 (fun a b=>a+b) (fun n _=>n) i nx K n=fU 0 (fun a b=>a+b) nx K n):=TY (by rw[bF.out];rfl);go_wp2_with fail
             refine(kY _ rows x y _ (h.TW (hA.tr hst.2.2.2.2)) cJ cF eK).mono ?_;rintro e w6 ⟨rfl,cW⟩;rw[<-cR.out,<-Hi.out,HB.out];have bL:=hst.bl cW;have bB:K<(nx:List Int).length:=by rw[dT.out];omega
             have zV:=bL.2.1.slot aJ Ue bB 0 (.int .i64 (nx:List Int)[K]) rfl;rw[Uf,Ug]at zV;have eN:=bL.2.1.free;have b5:=eM.out (K) _ (T9 bB);have bN:(nx:List Int).getD (K) 0=(nx:List Int)[K]:=(by rw[Ua,T9 bB,Uh]);obtain⟨v,hv⟩:=TV ((nx:List Int)[K]);rw[<-hv]at zV b5 bN;obtain⟨hv0,eR⟩:=b5;have cH:=TY bN;clear hv bN;have eW:(K:Int)<256:=(by omega);have a8:=bL.2.1.iZ aJ bB (y:=v+n) rfl;have e7:(nx:List Int).set (K) (v+n)=fU 0 (fun a b=>a+b) nx (K) n:=(by rw[Jn,cH.out]);rw[e7]at a8;go_wp2;go_roundw
             case rel=>exact⟨K+1,_,by omega,by go_num,TY (by rw[dN,<-bX.out,cD.out];exact bU.out.symm),bL.put a8 (dA (World.grownBy.refl _ _) _ _)⟩
             case measure=>simp[intOf];omega
           . rw[hB,bR]at bA;rw[bR]at t16;have bF:=TY bA;have HB:=TY hB;have gK:=TY bR;clear bA hB bR bE;obtain⟨a1,a2,a3,a4,a5⟩:=Bg hlt cF;rw[<-HP.out]at a1 a2 a3 a4 a5;go_wp2_with fail
             refine(kY _ rows x y _ (h.TW (hA.tr hst.2.2.2.2)) cJ cF eK).mono ?_;rintro e w6 ⟨rfl,cW⟩;rw[<-cR.out,<-Hi.out,HB.out];have bL:=hst.bl cW;have gL:=hx.bl bL.2.2.2.2;have gY:=gL.lt;have hE:=bL.2.2.1.lt;have e5:gc≠w6.heap.size:=(by omega);have hZ:=gL.c1;have cX:=bL.2.2.1.cell 0;have cY:=bL.2.2.1.cell 1;simp only[Ub,Uc,Ud]at cX cY;clear cL cM zx gF t16 zK;have eA:=uD (s:=s) (no:=0) (add:=fun a b=>a+b) (wt:=fun n _=>n) i nx K n
             have e6 : sK s 0 (fun a b => a + b) (fun n _ => n) i nx K n = if jU s i then fU 0 (fun a b => a + b) nx (K ||| P) n else nx := by
              unfold sK;rw[<-Hx.out,<-HP.out]
             obtain⟨nd,cB⟩:∃nd,nd=sK s 0 (fun a b=>a+b) (fun n _=>n) i nx K n:=⟨_,rfl⟩;have e8:=gX.out;rw[<-cB]at eA e6 e8;rw[dT.out]at eA;have eC:Hid (sK s 0 (fun a b=>a+b) (fun n _=>n) i nx K n=nd):=TY cB.symm;have h9:=TY eA;have gM:=TY e6;have j0:=TY e8;clear eA e6 cB e8;have stA:=bL.al (.cells #[.int .i64 x,.int .i64 ((y:Int)+1)] 83);go_upto_region 25 with(fail)
             go_cut [99] (fun j1 wx=>j1= .bool (jU s i)/\SSt (w.alloc (.cells #[.slice A rows.length c] 26)) g gc gn x y (bT s i) nx wx)
             case first=>
              by_cases k5:y<7
              . have b6 : bM ((x : Int), (y : Int) + 1) = true := dB.2 (by simp only; omega);have bJ:=TY b6;clear b6;have hq:s.testBit (8*(y+1)+x)=jU s i:=by unfold jU;rw[decide_eq_true (by have:=Hi.out;omega),Bool.true_and,show i+8=8*(y+1)+x by have:=Hi.out;omega]
                have bK:((y:Int)+1)=((y+1:Nat):Int):=by omega
                have CH : ∀ w', Below (w.alloc (.cells #[.slice A rows.length c] 26)).heap.size (w.alloc (.cells #[.slice A rows.length c] 26)) w' -> Calls Tryz.prog 121 #[.agg #[.slice A rows.length c], .agg #[.int .i64 x, .int .i64 ((y : Int) + 1)]] w' (Ret (.bool (jU s i)) w') := fun w' hb => by
                 have:=kY _ rows x (y+1) w' (h.TW (hA.tr hb)) cJ (by omega) (by omega);rw[<-cR.out,hq,<-bK]at this;exact this
                clear hq bK;go_wp2_with fail
                refine(iK _ _ _).mono ?_;rintro e eE ⟨rfl,a7⟩;rw[bJ.out];have a6:=stA.bl a7;have gN:=(hx.bl a6.2.2.2.2).c1;have b7:=(Blk.aZ w6 83 #[.int .i64 x,.int .i64 ((y:Int)+1)]).bl a7;obtain⟨gO,gP⟩:=b7.n2;go_wp2_with ((refine(CH _ a6.2.2.2.2).mono ?_);rintro e e9 ⟨rfl,bO⟩;skip)
                go_meet
                exact⟨rfl,a6.bl bO⟩
              . have b6:bM ((x:Int),(y:Int)+1)=false:=by
                 rcases e:bM ((x:Int),(y:Int)+1)with _|_
                 . rfl
                 . have:=dB.1 e;simp only at this;omega
                have bJ:=TY b6;clear b6;have Hd:Hid (jU s i=false):=TY (by unfold jU;rw[decide_eq_false (by have:=Hi.out;omega)];rfl);go_wp2_with fail
                refine(iK _ _ _).mono ?_;rintro e eE ⟨rfl,a7⟩;rw[bJ.out];go_wp2_with fail
                go_meet
                exact⟨by rw[Hd.out],stA.bl a7⟩
             case rest=>
              obtain⟨rfl,b8⟩:=hcut;clear hZ cX cY e5;go_upto_if 99 with(fail)
              go_cut [113] (fun j2 wx=>SSt (w.alloc (.cells #[.slice A rows.length c] 26)) g gc gn x y (bT s i) nd wx)
              case first=>
               rcases hd:jU s i with _|_
               . have cB : nd = nx := by rw [gM.out, hd]; rfl
                 have fD:=TY cB;clear hd cB;go_wp2_with fail
                 go_meet
                 rw[fD.out];exact b8
               . have cB : nd = fU 0 (fun a b => a + b) nx (K ||| P) n := by rw [gM.out, hd]; rfl
                 have fD:=TY cB;clear hd cB;have eP:IntKind.i64.wrap (P:Int)=(P:Int):=Ui _ (by omega);have bB:(K|||P)<(nx:List Int).length:=by rw[dT.out];omega
                 have zV:=b8.2.1.slot aJ Ue bB 0 (.int .i64 (nx:List Int)[(K|||P)]) rfl;rw[Uf,Ug]at zV;have eN:=b8.2.1.free;have b5:=eM.out ((K|||P)) _ (T9 bB);have bN:(nx:List Int).getD ((K|||P)) 0=(nx:List Int)[(K|||P)]:=(by rw[Ua,T9 bB,Uh]);obtain⟨v,hv⟩:=TV ((nx:List Int)[(K|||P)]);rw[<-hv]at zV b5 bN;obtain⟨hv0,eR⟩:=b5;have cH:=TY bN;clear hv bN;have eW:((K|||P:Nat):Int)<256:=(by omega);have cL:=b8.2.2.1.cell 0;have cM:=b8.2.2.1.cell 1;simp only[Ub,Uc,Ud]at cL cM;have j3:=b8.2.2.1.lt;have j4:IntKind.i64.wrap (v+n)=v+n:=Ui _ (by omega);have cI:gc≠gn:=by intro q;have:=b8.2.1.apart b8.2.2.1 (by decide);rw[q]at this;exact this rfl
                 have fL:=cI.symm;go_wp2_with fail
                 refine rB (fun w'=>w'.cell? ⟨gc,0,none⟩=some (.int .i64 x)/\w'.cell? ⟨gc,1,none⟩=some (.int .i64 y)) fun hHeld=>(tW 0)<|(tW 1)<|(tW 2)<|(tW 3)<|(tW 4)<|(tW 5)<|(tW 6)<|(tW 7)<|(tW 8)<|(tW 9)<|(tW 10)<|(tW 12)<|(tR [11])<|tL fun K hK=>?_
                 go_simp
                 refine tK hK fun hHeld=>?_
                 clear hK K;refine(tW 13)<|(tW 14)<|(tR [15])<|tL fun K hK=>?_
                 go_simp
                 refine tK hK fun hHeld=>?_
                 clear hK K;refine tD ?_;go_wp2_with fail
                 go_meet
                 have a8:=b8.2.1.iZ aJ bB (y:=v+n) rfl;have e7:nx.set (K|||P) (v+n)=fU 0 (fun a b=>a+b) nx (K|||P) n:=(by rw[Jn,cH.out]);rw[e7]at a8;rw[fD.out];exact(b8.put a8 (dA (World.grownBy.refl _ _) _ _)).bl (Below.refl _ _).drew
              case rest=>
               have cN:SSt (w.alloc (.cells #[.slice A rows.length c] 26)) g gc gn x y (bT s i) nd wc:=hcut;have j5:Hid ((nd:List Int).length=256):=TY h9.out;have j6:Hid (Nf nd):=TY j0.out;have fN:=cN.2.2.1.cell 0;have fO:=cN.2.2.1.cell 1;simp only[Ub,Uc,Ud]at fN fO;have gQ:=hx.bl cN.2.2.2.2;have k6:=gQ.c1;have k7:=gQ.lt;have k8:=cN.2.2.1.lt;have k9:gc≠(wc).heap.size:=(by omega);have lA:=(hA.tr cN.2.2.2.2).al (.cells #[.int .i64 ((x:Int)+1),.int .i64 y] 83);have stA:=cN.al (.cells #[.int .i64 ((x:Int)+1),.int .i64 y] 83);by_cases lB:x<7
               . obtain ⟨c1, c2, c3, c4, c5⟩ := Bg hlt (show x + 1 < 8 by omega);obtain⟨P2,fR⟩:=TV (2^(x+1));have gR:=EI (show x+1<8 by omega);rw[<-fR]at c1 c2 c3 c4 c5 gR;obtain⟨fS,j7⟩:=gR;have b6:bM ((x:Int)+1,(y:Int))=true:=dB.2 (by simp only;omega);have bK:((x:Int)+1)=((x+1:Nat):Int):=(by omega);have j8:=TY fR;have bJ:=TY b6;clear fR b6;have hq:s.testBit (8*y+(x+1))=jV s i:=by unfold jV;rw[decide_eq_true (by have:=Hx.out;omega),Bool.true_and,show i+1=8*y+(x+1) by have:=Hi.out;omega]
                 have t34:=PM (r:=(K:Int)) (x:=x+1) (by omega) (by omega) (by omega);rw[Int.toNat_natCast,fS]at t34;have ew:IntKind.i64.wrap ((x:Int)+1)=(x:Int)+1:=Ui _ (by omega);have ex:((x:Int)+1).toNat=x+1:=(by omega);have lO:(0:Int)<=(x:Int)+1:=by omega
                 have CH : ∀ w', Below (w.alloc (.cells #[.slice A rows.length c] 26)).heap.size (w.alloc (.cells #[.slice A rows.length c] 26)) w' -> Calls Tryz.prog 121 #[.agg #[.slice A rows.length c], .agg #[.int .i64 ((x : Int) + 1), .int .i64 y]] w' (Ret (.bool (jV s i)) w') := fun w' hb => by
                  have:=kY _ rows (x+1) y w' (h.TW (hA.tr hb)) cJ (by omega) (by omega);rw[<-cR.out,hq,<-bK]at this;exact this
                 clear hq bK;rcases hr:jV s i with _|_
                 . have bU : Hid (jK s 0 (fun a b => a + b) (fun n _ => n) i nx K n = nd) := TY (by rw [bF.out, eC.out]; unfold zC; rw [hr]; rfl);rw[hr]at CH;clear hr;go_wp2_with fail
                   refine(iK _ _ _).mono ?_;rintro e eE ⟨rfl,a7⟩;rw[bJ.out];have a6:=stA.bl a7;have gN:=(hx.bl a6.2.2.2.2).c1;have b7:=(Blk.aZ wc 83 #[.int .i64 ((x:Int)+1),.int .i64 y]).bl a7;obtain⟨gO,gP⟩:=b7.n2;go_wp2_with ((refine(CH _ a6.2.2.2.2).mono ?_);rintro e e9 ⟨rfl,bO⟩;skip)
                   go_roundw
                   case rel=>exact⟨K+1,_,by omega,by go_num,TY (by rw[dN,<-bX.out,cD.out];exact bU.out.symm),a6.bl bO⟩
                   case measure=>simp[intOf];omega
                 . have Hr:=TY hr;rw[hr]at CH;clear hr;go_wp2_with fail
                   refine(iK _ _ _).mono ?_;rintro e eE ⟨rfl,a7⟩;rw[bJ.out];have a6:=stA.bl a7;have gN:=(hx.bl a6.2.2.2.2).c1;have b7:=(Blk.aZ wc 83 #[.int .i64 ((x:Int)+1),.int .i64 y]).bl a7;obtain⟨gO,gP⟩:=b7.n2;rcases cP:K.testBit (x+1)with _|_
                   . rw[cP]at t34
                     have bU : Hid (jK s 0 (fun a b => a + b) (fun n _ => n) i nx K n = fU 0 (fun a b => a + b) nd (K ||| P2) n) := TY (by
                      rw[bF.out,eC.out];unfold zC;rw[Hr.out,<-Hx.out,cP,<-j8.out];rfl)
                     clear cP;have lR:IntKind.i64.wrap (P2:Int)=(P2:Int):=Ui _ (by omega);go_wp2_with ((refine(CH _ a6.2.2.2.2).mono ?_);rintro e e9 ⟨rfl,bO⟩;skip)
                     have bD:=a6.bl bO;have bB:(K|||P2)<(nd:List Int).length:=by rw[j5.out];omega
                     have zV:=bD.2.1.slot aJ Ue bB 0 (.int .i64 (nd:List Int)[(K|||P2)]) rfl;rw[Uf,Ug]at zV;have eN:=bD.2.1.free;have b5:=j6.out ((K|||P2)) _ (T9 bB);have bN:(nd:List Int).getD ((K|||P2)) 0=(nd:List Int)[(K|||P2)]:=(by rw[Ua,T9 bB,Uh]);obtain⟨v,hv⟩:=TV ((nd:List Int)[(K|||P2)]);rw[<-hv]at zV b5 bN;obtain⟨hv0,eR⟩:=b5;have cH:=TY bN;clear hv bN;have eW:((K|||P2:Nat):Int)<256:=(by omega);have cL:=bD.2.2.1.cell 0;have cM:=bD.2.2.1.cell 1;simp only[Ub,Uc,Ud]at cL cM;have j3:=bD.2.2.1.lt;have j4:IntKind.i64.wrap (v+n)=v+n:=Ui _ (by omega);have cI:gc≠gn:=by intro q;have:=bD.2.1.apart bD.2.2.1 (by decide);rw[q]at this;exact this rfl
                     have fL:=cI.symm;refine rB (fun w'=>w'.cell? ⟨gc,0,none⟩=some (.int .i64 x)/\w'.cell? ⟨gc,1,none⟩=some (.int .i64 y)) fun hHeld=>(tW 0)<|(tW 1)<|(tW 2)<|(tW 3)<|(tW 4)<|(tW 5)<|(tW 6)<|(tW 7)<|(tW 8)<|(tW 9)<|(tW 10)<|(tW 11)<|(tW 12)<|(tW 14)<|(tR [13])<|tL fun K hK=>?_
                     go_simp
                     refine tK hK fun hHeld=>?_
                     clear hK K;refine(tW 15)<|(tW 16)<|(tR [17])<|tL fun K hK=>?_
                     go_simp
                     refine tK hK fun hHeld=>?_
                     clear hK K;refine tD ?_;have a8:=bD.2.1.iZ aJ bB (y:=v+n) rfl;have e7:(nd:List Int).set (K|||P2) (v+n)=fU 0 (fun a b=>a+b) nd (K|||P2) n:=(by rw[Jn,cH.out]);rw[e7]at a8;go_wp2;go_roundw
                     case rel=>exact⟨K+1,_,by omega,by go_num,TY (by rw[dN,<-bX.out,cD.out];exact bU.out.symm),(bD.put a8 (dA (World.grownBy.refl _ _) _ _)).bl (Below.refl _ _).drew⟩
                     case measure=>simp[intOf];omega
                   . rw[cP]at t34;have bU:Hid (jK s 0 (fun a b=>a+b) (fun n _=>n) i nx K n=nd):=TY (by rw[bF.out,eC.out];unfold zC;rw[Hr.out,<-Hx.out,cP];rfl);clear cP;go_wp2_with ((refine(CH _ a6.2.2.2.2).mono ?_);rintro e e9 ⟨rfl,bO⟩;skip)
                     go_roundw
                     case rel=>exact⟨K+1,_,by omega,by go_num,TY (by rw[dN,<-bX.out,cD.out];exact bU.out.symm),a6.bl bO⟩
                     case measure=>simp[intOf];omega
               . have b6:bM ((x:Int)+1,(y:Int))=false:=by
                  rcases e:bM ((x:Int)+1,(y:Int))with _|_
                  . rfl
                  . have:=dB.1 e;simp only at this;omega
                 have bJ:=TY b6;have bU:Hid (jK s 0 (fun a b=>a+b) (fun n _=>n) i nx K n=nd):=TY (by rw[bF.out,eC.out];unfold zC jV;rw[decide_eq_false (by have:=Hx.out;omega)];rfl);clear b6;go_wp2_with fail
                 refine(iK _ _ _).mono ?_;rintro e eE ⟨rfl,a7⟩;rw[bJ.out];go_wp2;go_roundw
                 case rel=>exact⟨K+1,_,by omega,by go_num,TY (by rw[dN,<-bX.out,cD.out];exact bU.out.symm),(stA.bl a7)⟩
                 case measure=>simp[intOf];omega
         . have hB:=bE bR;rw[hB,bR]at bA;rw[bR]at t16;obtain⟨k1,k2,_⟩:=pV K hlt x cF bR;rw[<-HP.out]at k1 k2;have j9:(K:Int)-(P:Int)=((K-P:Nat):Int):=(by omega);have bF:=TY bA;have HB:=TY hB;have gK:=TY bR;clear bA hB bR bE;have bU:Hid (jK s 0 (fun a b=>a+b) (fun n _=>n) i nx K n=fU 0 (fun a b=>a+b) nx (K-P) n):=TY (by rw[bF.out];rfl);go_wp2_with fail
           refine(kY _ rows x y _ (h.TW (hA.tr hst.2.2.2.2)) cJ cF eK).mono ?_;rintro e w6 ⟨rfl,cW⟩;rw[<-cR.out,<-Hi.out,HB.out];have bL:=hst.bl cW;have bB:(K-P)<(nx:List Int).length:=by rw[dT.out];omega
           have zV:=bL.2.1.slot aJ Ue bB 0 (.int .i64 (nx:List Int)[(K-P)]) rfl;rw[Uf,Ug]at zV;have eN:=bL.2.1.free;have b5:=eM.out ((K-P)) _ (T9 bB);have bN:(nx:List Int).getD ((K-P)) 0=(nx:List Int)[(K-P)]:=(by rw[Ua,T9 bB,Uh]);obtain⟨v,hv⟩:=TV ((nx:List Int)[(K-P)]);rw[<-hv]at zV b5 bN;obtain⟨hv0,eR⟩:=b5;have cH:=TY bN;clear hv bN;have eW:((K-P:Nat):Int)<256:=(by omega);have a8:=bL.2.1.iZ aJ bB (y:=v+n) rfl;have e7:(nx:List Int).set ((K-P)) (v+n)=fU 0 (fun a b=>a+b) nx ((K-P)) n:=(by rw[Jn,cH.out]);rw[e7]at a8;go_wp2;go_roundw
           case rel=>exact⟨K+1,_,by omega,by go_num,TY (by rw[dN,<-bX.out,cD.out];exact bU.out.symm),bL.put a8 (dA (World.grownBy.refl _ _) _ _)⟩
           case measure=>simp[intOf];omega
     . obtain rfl : K = 256 := by omega
       have e1:bT s (i+1)=nx:=by rw[EJ];exact bX.out.symm
       have E1:=TY e1;clear e1;go_wp2;go_roundw
       case rel=>exact⟨i+1,gn,by omega,by go_num,rfl,by rw[E1.out];exact hst.2.1,hst.2.2.2.2⟩
       case measure=>simp[intOf];omega
  . obtain rfl : i = 64 := by omega
    have cG:0<(bT s 64).length:=by unfold bT;rw[yA];decide
    have zK:=b9.slot aJ Ue cG 0 (.int .i64 (bT s 64)[0]) rfl;rw[Uf,Ug]at zK;have cK:R=(bT s 64)[0]:=by rw[HR.out];unfold fF;rw[Ua,T9 cG,Uh]
    rw[<-cK]at zK;clear cK;go_wp2;go_ret;exact⟨rfl,hA.tr bW⟩
end Go.Proofs.YtjijonhkofhikaaGreatDoor
