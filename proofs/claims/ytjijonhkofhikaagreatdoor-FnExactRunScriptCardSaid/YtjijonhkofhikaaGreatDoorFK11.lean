import Derived.Test.YtjijonhkofhikaaGreatDoorFK10
open _root_.List renaming replicate->Tm,getElem?_eq_getElem->Tn,getD_eq_getElem?_getD->Tp,getElem?_toArray->Tq,getElem?_cons_zero->Tt,getElem?_cons_succ->Tu
open _root_.Nat renaming one_pos->Tv,mul_one->Tw,add_zero->Tx
open _root_.Option renaming getD_some->Ty
open _root_.Go.IntWalk renaming i64_in->Tz
set_option linter.unusedVariables false
set_option linter.unusedSimpArgs false
set_option maxHeartbeats 4000000
set_option maxRecDepth 100000
namespace Go.Proofs.YtjijonhkofhikaaGreatDoor
open Go.ChangeShapes Go.WideShapes Go.ChangeAt Go.RowKit
def SSt (W0:World) (g gc gn x y:Nat) (now nx:List Int) (wr:World):Prop:=
 aD 3 1 aW W0.heap.size wr (.slice (some ⟨g,0,none⟩) 256 256) now/\aD 3 1 aW W0.heap.size wr (.slice (some ⟨gn,0,none⟩) 256 256) nx/\Blk wr gc 83 #[.int .i64 x,.int .i64 y]/\g≠gn/\Below W0.heap.size W0 wr
section
variable {W0 wr w' : World} {g gc gn x y : Nat} {now nx : List Int}
theorem SSt.bl (h:SSt W0 g gc gn x y now nx wr) (hb:Below wr.heap.size wr w'):SSt W0 g gc gn x y now nx w':=by
 obtain⟨a,b,c,e,f⟩:=h;exact⟨a.below hb,b.below hb,c.bl hb,e,f.tr hb⟩
theorem SSt.put (h:SSt W0 g gc gn x y now nx wr) {r:List Int} (own:aD 3 1 aW W0.heap.size w' (.slice (some ⟨gn,0,none⟩) 256 256) r) (hg:wr.grownBy w' (some gn)):SSt W0 g gc gn x y now r w':=by
 obtain⟨a,b,c,e,f⟩:=h;have hc:gc≠gn:=by intro q;have:=b.apart c (by decide);rw[q]at this;exact this rfl
 refine⟨World.ownsRow.kept a hg (.inr (by simp[Value.ownBlock];exact e)),own,c.grown hg (by simpa using hc),e,f.grown hg f.size (fun k hk=> ?_)⟩;injection hk with hk;rw[<-hk];exact b.at_.2.1
end
theorem PG {r:Int} {x:Nat} (h0:0<=r) (h1:r<=255) (hx:x<8):(bits .and .i64 (r/2^x) 1==0)= !r.toNat.testBit x:=by
 rw[<-Iq h0 h1 hx,J2,Bool.eq_iff_iff,beq_iff_eq,Bool.not_eq_true',beq_eq_false_iff_ne];omega
theorem JF (i x y:Nat) (w:World) (hi:i<64) (hx:x=i%8) (hy:y=i/8):Calls Tryz.prog 132 #[.int .i64 i] w (Ret (.tuple #[.agg #[.int .i64 x,.int .i64 y],.bool true]) w):=by
 have:=wF i w hi;rw[hx,hy];simpa using this
theorem Jc (nx : List Int) (k : Nat) (n : Int) : gV 0 (fun a b => a + b) nx k n = nx.set k (nx.getD k 0 + n) := by
 unfold gV;by_cases h:nx.getD k 0=0
 . rw[if_pos h,h,Int.zero_add]
 . rw[if_neg h]
theorem SSt.al {W0 wr:World} {g gc gn x y:Nat} {now nx:List Int} (h:SSt W0 g gc gn x y now nx wr) (o:Obj):SSt W0 g gc gn x y now nx (wr.alloc o):=h.bl ((Below.refl _ _).al o)
theorem Ez (v:Value) (rows:List Int) (w:World) (h:Rd 1 aZ w v rows) (cH:Hid (dX rows)):Calls Tryz.prog 125 #[.agg #[v]] w (Ret (.int .i64 (gH (setOf rows))) w):=by
 obtain⟨A,c,rfl,hc,hm⟩:=h.form;have hA:=(Below.refl w.heap.size w).al (.cells #[.slice A rows.length c] 26);have hx:=Blk.aX w 26 #[.slice A rows.length c];have cN:Hid ((256:Int)=((256:Nat):Int)):=Tk rfl;have hs:=dW cH.out;obtain⟨s,eC⟩:=Ti (setOf rows);rw[<-eC]at hs⊢;have cP:=Tk eC;clear eC;obtain⟨R,hR⟩:=Ti (gH s);rw[<-hR];have HR:=Tk hR;clear hR;have B0:=Below.refl (w.alloc (.cells #[.slice A rows.length c] 26)).heap.size (w.alloc (.cells #[.slice A rows.length c] 26));go_enter Tryz.func125,Tryz.ntmps125
 go_wp2_with (at_make;go_must (refine mQ (enc:=aW) (z0:=(0:Int)) fP rfl B0 256 (by decide) (by decide) _ cN.out rfl _ _ rfl rfl rfl ?_);intro w1 hown1 hb1 hg1;have hown2:aD 3 1 aW (w.alloc (.cells #[.slice A rows.length c] 26)).heap.size w1 (.slice (some ⟨w.heap.size+1,0,none⟩) 256 256) (Tm 256 (0:Int)):=(by simpa using hown1);have hl0:0<(Tm 256 (0:Int)).length:=(by rw[List.length_replicate];decide);obtain⟨u2,s2⟩:=hown2.Cv aM hl0;have eE:=hown2.free;have cC:=hown2.kI aM hl0 (y:=1) rfl;have e0:bV s 0=(Tm 256 (0:Int)).set 0 1:=rfl;rw[<-e0]at cC;have B3:=hb1.st ⟨w.heap.size+1,0,none⟩ (.int .i64 1) (by simp);clear e0 hl0)
 go_loopw [4,5] (fun s4 s5 wr=>∃(i g:Nat),i<=64/\s5= .int .i64 i/\s4= .slice (some ⟨g,0,none⟩) 256 256/\aD 3 1 aW (w.alloc (.cells #[.slice A rows.length c] 26)).heap.size wr (.slice (some ⟨g,0,none⟩) 256 256) (bV s i)/\Below (w.alloc (.cells #[.slice A rows.length c] 26)).heap.size (w.alloc (.cells #[.slice A rows.length c] 26)) wr) (fun _ i _=>64-(intOf i).toNat)
 case atStart=>exact⟨0,w.heap.size+1,by omega,rfl,rfl,cC,B3⟩
 case round=>
  obtain⟨i,g,hi,rfl,rfl,b7,bR⟩:=hrel;clear cC B3 hown1 hown2 hb1 hg1 s2 eE;by_cases b8:i<64
  . obtain⟨x,fR⟩:=Ti (i%8);obtain⟨y,hy⟩:=Ti (i/8);have cD:x<8:=(by omega);have eI:y<8:=(by omega);have cQ:(i:Int)%8=(x:Int):=(by omega);have Hx:=Tk fR;have Hy:=Tk hy;clear fR hy;go_wp2_with fail
    refine(JF i x y _ b8 Hx.out Hy.out).mono ?_;rintro e w4 ⟨rfl,hb4⟩;try rw[cQ]
    clear cQ;have B4:=(bR.tr hb4).al (.cells #[.int .i64 x,.int .i64 y] 83);have bC:=Blk.aX w4 83 #[.int .i64 x,.int .i64 y];have cR:=(b7.below hb4).alloc (.cells #[.int .i64 x,.int .i64 y] 83);go_wp2_with (at_make;go_must (refine mQ (enc:=aW) (z0:=(0:Int)) fP rfl B4 256 (by decide) (by decide) _ cN.out rfl _ _ rfl rfl rfl ?_);intro w5 cA fS eJ)
    have cX:SSt (w.alloc (.cells #[.slice A rows.length c] 26)) g w4.heap.size (w4.heap.size+1) x y (bV s i) (Tm 256 0) w5:=by
     have j8:=(b7.below hb4).at_.2.2;exact⟨World.ownsRow.kept cR eJ (.inr (by simp[Value.ownBlock])),(by simpa using cA:aD 3 1 aW (w.alloc (.cells #[.slice A rows.length c] 26)).heap.size w5 (.slice (some ⟨w4.heap.size+1,0,none⟩) 256 256) (Tm 256 0)),bC.grown eJ (by simp),by omega,fS⟩
    obtain⟨gn,fW⟩:=Ti (w4.heap.size+1);rw[<-fW]at cX⊢;obtain⟨gc,fX⟩:=Ti w4.heap.size;rw[<-fX]at cX⊢;have cQ:(i:Int)%8=(x:Int):=by have:=Hx.out;omega
    try rw[cQ]
    have cS:=Ew cD;obtain⟨P,hP⟩:=Ti (2^x);rw[<-hP]at cS;obtain⟨gQ,j9⟩:=cS;have HP:=Tk hP;clear fX fW cQ hP;go_loopw [10] (fun gR wr=>∃(K:Nat) (nx:List Int),K<=256/\gR= .int .i64 K/\Hid (nx=mO s 0 (fun a b=>a+b) (fun n _=>n) (bV s i) i K)/\SSt (w.alloc (.cells #[.slice A rows.length c] 26)) g gc gn x y (bV s i) nx wr) (fun i _=>256-(intOf i).toNat)
    case atStart=>exact⟨0,_,by omega,rfl,Tk (by unfold mO;rw[List.range_zero];rfl),cX⟩
    case round=>
     obtain⟨K,nx,hK,rfl,bS,hst⟩:=hrel;clear cX b7 bR cR cA fS eJ B4 bC hb4;by_cases hlt:K<256
     . have cE : K < (bV s i).length := by unfold bV; rw [yC]; exact hlt
       have zK:=hst.1.slot aM Tv cE 0 (.int .i64 (bV s i)[K]) rfl;rw[Tw,Tx]at zK;have bU:=MV s i K b8 hlt _ (Tn cE);have cI:(bV s i).getD K 0=(bV s i)[K]:=(by rw[Tp,Tn cE,Ty]);obtain⟨n,hn⟩:=Ti ((bV s i)[K]);rw[<-hn]at zK bU cI;have cB:=Tk cI;clear hn cI cE;have fY:nx.length=256:=(by rw[bS.out,mH]);have cY:=Tk fY;clear fY;by_cases cT:n=0
       . subst cT;have bP:Hid (jP s 0 (fun a b=>a+b) (fun n _=>n) i nx K 0=nx):=Tk (by unfold jP;rw[if_pos rfl]);clear bU;go_wp2;go_roundw
         case rel=>exact⟨K+1,_,by omega,by go_num,Tk (by rw[dO,<-bS.out,cB.out];exact bP.out.symm),hst⟩
         case measure=>simp[intOf];omega
       . have gS : (n == 0) = false := by simpa using cT
         obtain⟨kA,kB,gA⟩:=bU.resolve_left cT;have gB:i=8*y+x:=by have:=Hx.out;have:=Hy.out;omega
         have Hi:=Tk gB;have eK:Hid (MS nx):=Tk (by rw[bS.out];exact Bt s i K b8 hlt);have gT:Hid (MS (sO s 0 (fun a b=>a+b) (fun n _=>n) i nx K n)):=Tk (by rw[<-cB.out,bS.out];exact Kv s i K b8 hlt);have t16:=Iq (r:=(K:Int)) (x:=x) (by omega) (by omega) cD;rw[Int.toNat_natCast,gQ]at t16;have bE:K.testBit (i%8)=true->s.testBit i=true:=fun q=>Fg gA q
         have bA : jP s 0 (fun a b => a + b) (fun n _ => n) i nx K n = if s.testBit i then (if K.testBit x then gV 0 (fun a b => a + b) nx (K - P) n else yX s 0 (fun a b => a + b) (fun n _ => n) i (sO s 0 (fun a b => a + b) (fun n _ => n) i nx K n) K n) else (if K.testBit x then nx else gV 0 (fun a b => a + b) nx K n) := by
          unfold jP;rw[if_neg cT,<-Hx.out,<-HP.out]
         rw[<-Hx.out]at bE;clear gA cT gB;have cJ:=hst.2.2.1.cell 0;have cK:=hst.2.2.1.cell 1;simp only[Tq,Tt,Tu]at cJ cK;have gC:=hx.bl hst.2.2.2.2;have zx:=gC.c1;rcases bO:K.testBit x with _|_
         . rcases hB:s.testBit i with _|_
           . rw[hB,bO]at bA;rw[bO]at t16;have bF:=Tk bA;have HB:=Tk hB;have gD:=Tk bO;clear bA hB bO bE;have bP:Hid (jP s 0 (fun a b=>a+b) (fun n _=>n) i nx K n=gV 0 (fun a b=>a+b) nx K n):=Tk (by rw[bF.out];rfl);go_wp2_with fail
             refine(eO _ rows x y _ (h.Tj (hA.tr hst.2.2.2.2)) cH cD eI).mono ?_;rintro e w6 ⟨rfl,cU⟩;rw[<-cP.out,<-Hi.out,HB.out];have bL:=hst.bl cU;have bB:K<(nx:List Int).length:=by rw[cY.out];omega
             have zV:=bL.2.1.slot aM Tv bB 0 (.int .i64 (nx:List Int)[K]) rfl;rw[Tw,Tx]at zV;have eL:=bL.2.1.free;have bX:=eK.out (K) _ (Tn bB);have bM:(nx:List Int).getD (K) 0=(nx:List Int)[K]:=(by rw[Tp,Tn bB,Ty]);obtain⟨v,hv⟩:=Ti ((nx:List Int)[K]);rw[<-hv]at zV bX bM;obtain⟨hv0,eM⟩:=bX;have cF:=Tk bM;clear hv bM;have eN:(K:Int)<256:=(by omega);have a8:=bL.2.1.kI aM bB (y:=v+n) rfl;have e7:(nx:List Int).set (K) (v+n)=gV 0 (fun a b=>a+b) nx (K) n:=(by rw[Jc,cF.out]);rw[e7]at a8;go_wp2;go_roundw
             case rel=>exact⟨K+1,_,by omega,by go_num,Tk (by rw[dO,<-bS.out,cB.out];exact bP.out.symm),bL.put a8 (dB (World.grownBy.refl _ _) _ _)⟩
             case measure=>simp[intOf];omega
           . rw[hB,bO]at bA;rw[bO]at t16;have bF:=Tk bA;have HB:=Tk hB;have gD:=Tk bO;clear bA hB bO bE;obtain⟨a1,a2,a3,a4,a5⟩:=AZ hlt cD;rw[<-HP.out]at a1 a2 a3 a4 a5;go_wp2_with fail
             refine(eO _ rows x y _ (h.Tj (hA.tr hst.2.2.2.2)) cH cD eI).mono ?_;rintro e w6 ⟨rfl,cU⟩;rw[<-cP.out,<-Hi.out,HB.out];have bL:=hst.bl cU;have gF:=hx.bl bL.2.2.2.2;have gW:=gF.lt;have gX:=bL.2.2.1.lt;have eR:gc≠w6.heap.size:=(by omega);have gY:=gF.c1;have cV:=bL.2.2.1.cell 0;have cW:=bL.2.2.1.cell 1;simp only[Tq,Tt,Tu]at cV cW;clear cJ cK zx gC t16 zK;have dL:=uG (s:=s) (no:=0) (add:=fun a b=>a+b) (wt:=fun n _=>n) i nx K n
             have eW : sO s 0 (fun a b => a + b) (fun n _ => n) i nx K n = if kF s i then gV 0 (fun a b => a + b) nx (K ||| P) n else nx := by
              unfold sO;rw[<-Hx.out,<-HP.out]
             obtain⟨nd,b9⟩:∃nd,nd=sO s 0 (fun a b=>a+b) (fun n _=>n) i nx K n:=⟨_,rfl⟩;have e5:=gT.out;rw[<-b9]at dL eW e5;rw[cY.out]at dL;have dT:Hid (sO s 0 (fun a b=>a+b) (fun n _=>n) i nx K n=nd):=Tk b9.symm;have hE:=Tk dL;have gK:=Tk eW;have hZ:=Tk e5;clear dL eW b9 e5;have stA:=bL.al (.cells #[.int .i64 x,.int .i64 ((y:Int)+1)] 83);go_upto_region 25 with(fail)
             go_cut [99] (fun h9 wx=>h9= .bool (kF s i)/\SSt (w.alloc (.cells #[.slice A rows.length c] 26)) g gc gn x y (bV s i) nx wx)
             case first=>
              by_cases kO:y<7
              . have bY : bH ((x : Int), (y : Int) + 1) = true := dC.2 (by simp only; omega);have bJ:=Tk bY;clear bY;have hq:s.testBit (8*(y+1)+x)=kF s i:=by unfold kF;rw[decide_eq_true (by have:=Hi.out;omega),Bool.true_and,show i+8=8*(y+1)+x by have:=Hi.out;omega]
                have bK:((y:Int)+1)=((y+1:Nat):Int):=by omega
                have CH : ∀ w', Below (w.alloc (.cells #[.slice A rows.length c] 26)).heap.size (w.alloc (.cells #[.slice A rows.length c] 26)) w' -> Calls Tryz.prog 121 #[.agg #[.slice A rows.length c], .agg #[.int .i64 x, .int .i64 ((y : Int) + 1)]] w' (Ret (.bool (kF s i)) w') := fun w' hb => by
                 have:=eO _ rows x (y+1) w' (h.Tj (hA.tr hb)) cH (by omega) (by omega);rw[<-cP.out,hq,<-bK]at this;exact this
                clear hq bK;go_wp2_with fail
                refine(iV _ _ _).mono ?_;rintro e eA ⟨rfl,a7⟩;rw[bJ.out];have a6:=stA.bl a7;have gL:=(hx.bl a6.2.2.2.2).c1;have b5:=(Blk.aX w6 83 #[.int .i64 x,.int .i64 ((y:Int)+1)]).bl a7;obtain⟨gM,gN⟩:=b5.n2;go_wp2_with ((refine(CH _ a6.2.2.2.2).mono ?_);rintro e e6 ⟨rfl,bN⟩;skip)
                go_meet
                exact⟨rfl,a6.bl bN⟩
              . have bY:bH ((x:Int),(y:Int)+1)=false:=by
                 rcases e:bH ((x:Int),(y:Int)+1)with _|_
                 . rfl
                 . have:=dC.1 e;simp only at this;omega
                have bJ:=Tk bY;clear bY;have Hd:Hid (kF s i=false):=Tk (by unfold kF;rw[decide_eq_false (by have:=Hi.out;omega)];rfl);go_wp2_with fail
                refine(iV _ _ _).mono ?_;rintro e eA ⟨rfl,a7⟩;rw[bJ.out];go_wp2_with fail
                go_meet
                exact⟨by rw[Hd.out],stA.bl a7⟩
             case rest=>
              obtain⟨rfl,b6⟩:=hcut;clear gY cV cW eR;go_upto_if 99 with(fail)
              go_cut [113] (fun j0 wx=>SSt (w.alloc (.cells #[.slice A rows.length c] 26)) g gc gn x y (bV s i) nd wx)
              case first=>
               rcases hd:kF s i with _|_
               . have b9 : nd = nx := by rw [gK.out, hd]; rfl
                 have e8:=Tk b9;clear hd b9;go_wp2_with fail
                 go_meet
                 rw[e8.out];exact b6
               . have b9 : nd = gV 0 (fun a b => a + b) nx (K ||| P) n := by rw [gK.out, hd]; rfl
                 have e8:=Tk b9;clear hd b9;have eP:IntKind.i64.wrap (P:Int)=(P:Int):=Tz _ (by omega);have bB:(K|||P)<(nx:List Int).length:=by rw[cY.out];omega
                 have zV:=b6.2.1.slot aM Tv bB 0 (.int .i64 (nx:List Int)[(K|||P)]) rfl;rw[Tw,Tx]at zV;have eL:=b6.2.1.free;have bX:=eK.out ((K|||P)) _ (Tn bB);have bM:(nx:List Int).getD ((K|||P)) 0=(nx:List Int)[(K|||P)]:=(by rw[Tp,Tn bB,Ty]);obtain⟨v,hv⟩:=Ti ((nx:List Int)[(K|||P)]);rw[<-hv]at zV bX bM;obtain⟨hv0,eM⟩:=bX;have cF:=Tk bM;clear hv bM;have eN:((K|||P:Nat):Int)<256:=(by omega);have cJ:=b6.2.2.1.cell 0;have cK:=b6.2.2.1.cell 1;simp only[Tq,Tt,Tu]at cJ cK;have j1:=b6.2.2.1.lt;have j2:IntKind.i64.wrap (v+n)=v+n:=Tz _ (by omega);have cG:gc≠gn:=by intro q;have:=b6.2.1.apart b6.2.2.1 (by decide);rw[q]at this;exact this rfl
                 have e9:=cG.symm;go_wp2_with fail
                 refine rB (fun w'=>w'.cell? ⟨gc,0,none⟩=some (.int .i64 x)/\w'.cell? ⟨gc,1,none⟩=some (.int .i64 y)) fun hHeld=>(tW 0)<|(tW 1)<|(tW 2)<|(tW 3)<|(tW 4)<|(tW 5)<|(tW 6)<|(tW 7)<|(tW 8)<|(tW 9)<|(tW 10)<|(tW 12)<|(tR [11])<|tL fun K hK=>?_
                 go_simp
                 refine tK hK fun hHeld=>?_
                 clear hK K;refine(tW 13)<|(tW 14)<|(tR [15])<|tL fun K hK=>?_
                 go_simp
                 refine tK hK fun hHeld=>?_
                 clear hK K;refine tD ?_;go_wp2_with fail
                 go_meet
                 have a8:=b6.2.1.kI aM bB (y:=v+n) rfl;have e7:nx.set (K|||P) (v+n)=gV 0 (fun a b=>a+b) nx (K|||P) n:=(by rw[Jc,cF.out]);rw[e7]at a8;rw[e8.out];exact(b6.put a8 (dB (World.grownBy.refl _ _) _ _)).bl (Below.refl _ _).drew
              case rest=>
               have cL:SSt (w.alloc (.cells #[.slice A rows.length c] 26)) g gc gn x y (bV s i) nd wc:=hcut;have j3:Hid ((nd:List Int).length=256):=Tk hE.out;have j4:Hid (MS nd):=Tk hZ.out;have fD:=cL.2.2.1.cell 0;have fL:=cL.2.2.1.cell 1;simp only[Tq,Tt,Tu]at fD fL;have gO:=hx.bl cL.2.2.2.2;have k0:=gO.c1;have k5:=gO.lt;have k6:=cL.2.2.1.lt;have k7:gc≠(wc).heap.size:=(by omega);have k8:=(hA.tr cL.2.2.2.2).al (.cells #[.int .i64 ((x:Int)+1),.int .i64 y] 83);have stA:=cL.al (.cells #[.int .i64 ((x:Int)+1),.int .i64 y] 83);by_cases k9:x<7
               . obtain ⟨c1, c2, c3, c4, c5⟩ := AZ hlt (show x + 1 < 8 by omega);obtain⟨P2,fN⟩:=Ti (2^(x+1));have gP:=Ew (show x+1<8 by omega);rw[<-fN]at c1 c2 c3 c4 c5 gP;obtain⟨fO,j5⟩:=gP;have bY:bH ((x:Int)+1,(y:Int))=true:=dC.2 (by simp only;omega);have bK:((x:Int)+1)=((x+1:Nat):Int):=(by omega);have j6:=Tk fN;have bJ:=Tk bY;clear fN bY;have hq:s.testBit (8*y+(x+1))=kG s i:=by unfold kG;rw[decide_eq_true (by have:=Hx.out;omega),Bool.true_and,show i+1=8*y+(x+1) by have:=Hi.out;omega]
                 have t34:=PG (r:=(K:Int)) (x:=x+1) (by omega) (by omega) (by omega);rw[Int.toNat_natCast,fO]at t34;have ew:IntKind.i64.wrap ((x:Int)+1)=(x:Int)+1:=Tz _ (by omega);have ex:((x:Int)+1).toNat=x+1:=(by omega);have lA:(0:Int)<=(x:Int)+1:=by omega
                 have CH : ∀ w', Below (w.alloc (.cells #[.slice A rows.length c] 26)).heap.size (w.alloc (.cells #[.slice A rows.length c] 26)) w' -> Calls Tryz.prog 121 #[.agg #[.slice A rows.length c], .agg #[.int .i64 ((x : Int) + 1), .int .i64 y]] w' (Ret (.bool (kG s i)) w') := fun w' hb => by
                  have:=eO _ rows (x+1) y w' (h.Tj (hA.tr hb)) cH (by omega) (by omega);rw[<-cP.out,hq,<-bK]at this;exact this
                 clear hq bK;rcases hr:kG s i with _|_
                 . have bP : Hid (jP s 0 (fun a b => a + b) (fun n _ => n) i nx K n = nd) := Tk (by rw [bF.out, dT.out]; unfold yX; rw [hr]; rfl);rw[hr]at CH;clear hr;go_wp2_with fail
                   refine(iV _ _ _).mono ?_;rintro e eA ⟨rfl,a7⟩;rw[bJ.out];have a6:=stA.bl a7;have gL:=(hx.bl a6.2.2.2.2).c1;have b5:=(Blk.aX wc 83 #[.int .i64 ((x:Int)+1),.int .i64 y]).bl a7;obtain⟨gM,gN⟩:=b5.n2;go_wp2_with ((refine(CH _ a6.2.2.2.2).mono ?_);rintro e e6 ⟨rfl,bN⟩;skip)
                   go_roundw
                   case rel=>exact⟨K+1,_,by omega,by go_num,Tk (by rw[dO,<-bS.out,cB.out];exact bP.out.symm),a6.bl bN⟩
                   case measure=>simp[intOf];omega
                 . have Hr:=Tk hr;rw[hr]at CH;clear hr;go_wp2_with fail
                   refine(iV _ _ _).mono ?_;rintro e eA ⟨rfl,a7⟩;rw[bJ.out];have a6:=stA.bl a7;have gL:=(hx.bl a6.2.2.2.2).c1;have b5:=(Blk.aX wc 83 #[.int .i64 ((x:Int)+1),.int .i64 y]).bl a7;obtain⟨gM,gN⟩:=b5.n2;rcases cM:K.testBit (x+1)with _|_
                   . rw[cM]at t34
                     have bP : Hid (jP s 0 (fun a b => a + b) (fun n _ => n) i nx K n = gV 0 (fun a b => a + b) nd (K ||| P2) n) := Tk (by
                      rw[bF.out,dT.out];unfold yX;rw[Hr.out,<-Hx.out,cM,<-j6.out];rfl)
                     clear cM;have lB:IntKind.i64.wrap (P2:Int)=(P2:Int):=Tz _ (by omega);go_wp2_with ((refine(CH _ a6.2.2.2.2).mono ?_);rintro e e6 ⟨rfl,bN⟩;skip)
                     have bD:=a6.bl bN;have bB:(K|||P2)<(nd:List Int).length:=by rw[j3.out];omega
                     have zV:=bD.2.1.slot aM Tv bB 0 (.int .i64 (nd:List Int)[(K|||P2)]) rfl;rw[Tw,Tx]at zV;have eL:=bD.2.1.free;have bX:=j4.out ((K|||P2)) _ (Tn bB);have bM:(nd:List Int).getD ((K|||P2)) 0=(nd:List Int)[(K|||P2)]:=(by rw[Tp,Tn bB,Ty]);obtain⟨v,hv⟩:=Ti ((nd:List Int)[(K|||P2)]);rw[<-hv]at zV bX bM;obtain⟨hv0,eM⟩:=bX;have cF:=Tk bM;clear hv bM;have eN:((K|||P2:Nat):Int)<256:=(by omega);have cJ:=bD.2.2.1.cell 0;have cK:=bD.2.2.1.cell 1;simp only[Tq,Tt,Tu]at cJ cK;have j1:=bD.2.2.1.lt;have j2:IntKind.i64.wrap (v+n)=v+n:=Tz _ (by omega);have cG:gc≠gn:=by intro q;have:=bD.2.1.apart bD.2.2.1 (by decide);rw[q]at this;exact this rfl
                     have e9:=cG.symm;refine rB (fun w'=>w'.cell? ⟨gc,0,none⟩=some (.int .i64 x)/\w'.cell? ⟨gc,1,none⟩=some (.int .i64 y)) fun hHeld=>(tW 0)<|(tW 1)<|(tW 2)<|(tW 3)<|(tW 4)<|(tW 5)<|(tW 6)<|(tW 7)<|(tW 8)<|(tW 9)<|(tW 10)<|(tW 11)<|(tW 12)<|(tW 14)<|(tR [13])<|tL fun K hK=>?_
                     go_simp
                     refine tK hK fun hHeld=>?_
                     clear hK K;refine(tW 15)<|(tW 16)<|(tR [17])<|tL fun K hK=>?_
                     go_simp
                     refine tK hK fun hHeld=>?_
                     clear hK K;refine tD ?_;have a8:=bD.2.1.kI aM bB (y:=v+n) rfl;have e7:(nd:List Int).set (K|||P2) (v+n)=gV 0 (fun a b=>a+b) nd (K|||P2) n:=(by rw[Jc,cF.out]);rw[e7]at a8;go_wp2;go_roundw
                     case rel=>exact⟨K+1,_,by omega,by go_num,Tk (by rw[dO,<-bS.out,cB.out];exact bP.out.symm),(bD.put a8 (dB (World.grownBy.refl _ _) _ _)).bl (Below.refl _ _).drew⟩
                     case measure=>simp[intOf];omega
                   . rw[cM]at t34;have bP:Hid (jP s 0 (fun a b=>a+b) (fun n _=>n) i nx K n=nd):=Tk (by rw[bF.out,dT.out];unfold yX;rw[Hr.out,<-Hx.out,cM];rfl);clear cM;go_wp2_with ((refine(CH _ a6.2.2.2.2).mono ?_);rintro e e6 ⟨rfl,bN⟩;skip)
                     go_roundw
                     case rel=>exact⟨K+1,_,by omega,by go_num,Tk (by rw[dO,<-bS.out,cB.out];exact bP.out.symm),a6.bl bN⟩
                     case measure=>simp[intOf];omega
               . have bY:bH ((x:Int)+1,(y:Int))=false:=by
                  rcases e:bH ((x:Int)+1,(y:Int))with _|_
                  . rfl
                  . have:=dC.1 e;simp only at this;omega
                 have bJ:=Tk bY;have bP:Hid (jP s 0 (fun a b=>a+b) (fun n _=>n) i nx K n=nd):=Tk (by rw[bF.out,dT.out];unfold yX kG;rw[decide_eq_false (by have:=Hx.out;omega)];rfl);clear bY;go_wp2_with fail
                 refine(iV _ _ _).mono ?_;rintro e eA ⟨rfl,a7⟩;rw[bJ.out];go_wp2;go_roundw
                 case rel=>exact⟨K+1,_,by omega,by go_num,Tk (by rw[dO,<-bS.out,cB.out];exact bP.out.symm),(stA.bl a7)⟩
                 case measure=>simp[intOf];omega
         . have hB:=bE bO;rw[hB,bO]at bA;rw[bO]at t16;obtain⟨k1,k2,_⟩:=pY K hlt x cD bO;rw[<-HP.out]at k1 k2;have j7:(K:Int)-(P:Int)=((K-P:Nat):Int):=(by omega);have bF:=Tk bA;have HB:=Tk hB;have gD:=Tk bO;clear bA hB bO bE;have bP:Hid (jP s 0 (fun a b=>a+b) (fun n _=>n) i nx K n=gV 0 (fun a b=>a+b) nx (K-P) n):=Tk (by rw[bF.out];rfl);go_wp2_with fail
           refine(eO _ rows x y _ (h.Tj (hA.tr hst.2.2.2.2)) cH cD eI).mono ?_;rintro e w6 ⟨rfl,cU⟩;rw[<-cP.out,<-Hi.out,HB.out];have bL:=hst.bl cU;have bB:(K-P)<(nx:List Int).length:=by rw[cY.out];omega
           have zV:=bL.2.1.slot aM Tv bB 0 (.int .i64 (nx:List Int)[(K-P)]) rfl;rw[Tw,Tx]at zV;have eL:=bL.2.1.free;have bX:=eK.out ((K-P)) _ (Tn bB);have bM:(nx:List Int).getD ((K-P)) 0=(nx:List Int)[(K-P)]:=(by rw[Tp,Tn bB,Ty]);obtain⟨v,hv⟩:=Ti ((nx:List Int)[(K-P)]);rw[<-hv]at zV bX bM;obtain⟨hv0,eM⟩:=bX;have cF:=Tk bM;clear hv bM;have eN:((K-P:Nat):Int)<256:=(by omega);have a8:=bL.2.1.kI aM bB (y:=v+n) rfl;have e7:(nx:List Int).set ((K-P)) (v+n)=gV 0 (fun a b=>a+b) nx ((K-P)) n:=(by rw[Jc,cF.out]);rw[e7]at a8;go_wp2;go_roundw
           case rel=>exact⟨K+1,_,by omega,by go_num,Tk (by rw[dO,<-bS.out,cB.out];exact bP.out.symm),bL.put a8 (dB (World.grownBy.refl _ _) _ _)⟩
           case measure=>simp[intOf];omega
     . obtain rfl : K = 256 := by omega
       have e1:bV s (i+1)=nx:=by rw[Ex];exact bS.out.symm
       have E1:=Tk e1;clear e1;go_wp2;go_roundw
       case rel=>exact⟨i+1,gn,by omega,by go_num,rfl,by rw[E1.out];exact hst.2.1,hst.2.2.2.2⟩
       case measure=>simp[intOf];omega
  . obtain rfl : i = 64 := by omega
    have cE:0<(bV s 64).length:=by unfold bV;rw[yC];decide
    have zK:=b7.slot aM Tv cE 0 (.int .i64 (bV s 64)[0]) rfl;rw[Tw,Tx]at zK;have cI:R=(bV s 64)[0]:=by rw[HR.out];unfold gH;rw[Tp,Tn cE,Ty]
    rw[<-cI]at zK;clear cI;go_wp2;go_ret;exact⟨rfl,hA.tr bR⟩
end Go.Proofs.YtjijonhkofhikaaGreatDoor
