import Derived.Test.YtjijonhkofhikaaGreatDoorFK11
import Derived.Test.YtjijonhkofhikaaGreatDoorFG18
open _root_.List renaming length_append->Tm
open _root_.Nat renaming le_refl->Tn
open _root_.Go.Value (slice)
open _root_.Go.Proofs.Tryz (prog func219 ntmps219)
open _root_.Go.Proofs.Tryz renaming func221->Tp,ntmps221->Tq
set_option linter.unusedVariables false
set_option linter.unusedSimpArgs false
set_option maxHeartbeats 4000000
set_option maxRecDepth 100000
namespace Go.Proofs.YtjijonhkofhikaaGreatDoor
open Go.ChangeShapes Go.WideShapes Go.ChangeAt Go.RowKit
theorem wP (v:Value) (rows:List Int) (w:World) (h:Rd 1 aZ w v rows):Calls prog 219 #[.agg #[v]] w (Ret (.int .i64 (bG rows)) w):=by
 obtain⟨A,c,rfl,hc,hm⟩:=h.form;have hA:=(Below.refl w.heap.size w).al (.cells #[.slice A rows.length c] 26);have bX:=Blk.aX w 26 #[.slice A rows.length c];rcases hk:bW rows with _|_
 . have e : bG rows = 0 := by unfold bG; rw [hk]; rfl
   rw[e];have Hk:=Tk hk;clear hk e;go_enter func219,ntmps219
   go_wp2_with fail
   refine(fB _ rows _ (h.Tj hA)).mono ?_;rintro e w1 ⟨rfl,hb1⟩;rw[Hk.out];go_wp2;go_ret;exact⟨rfl,hA.tr hb1⟩
 . have e : bG rows = gH (setOf rows) := by unfold bG; rw [if_pos hk]
   rw[e];have a6:Hid (dX rows):=Tk (aR.1 hk);have Hk:=Tk hk;clear hk e;obtain⟨R,hR⟩:=Ti (gH (setOf rows));have C:∀(u:Value) (w:World),Rd 1 aZ w u rows->Calls prog 125 #[.agg #[u]] w (Ret (.int .i64 R) w):=fun u w k1=>by rw[hR];exact Ez u rows w k1 a6
   rw[<-hR];clear hR;go_enter func219,ntmps219
   go_wp2_with fail
   refine(fB _ rows _ (h.Tj hA)).mono ?_;rintro e w1 ⟨rfl,hb1⟩;rw[Hk.out];have z1:=(bX.bl hb1).c1;go_wp2_with fail
   refine(C _ _ ((h.Tj hA).Tj hb1)).mono ?_;rintro e w2 ⟨rfl,hb2⟩;go_wp2;go_ret;exact⟨rfl,(hA.tr hb1).tr hb2⟩
theorem Bu {s:Nat} {rows:List Int} (h:s=setOf rows) (hs:setOf rows<U64):s<U64:=h▸hs
theorem yE {rows:List Int} {c:Cl} (a6:dX rows) (hc:bH c=true):mP rows c false=(rowsOf (jA (setOf rows) (dJ c).toNat) 8,true):=by
 unfold mP;rw[aR.2 a6,hc];rfl
theorem H7 (v:Value) (rows:List Int) (x y:Int) (d:Bool) (w:World) (h:Rd 1 aZ w v rows):Calls prog 221 #[.agg #[v],.agg #[.int .i64 x,.int .i64 y,.bool d]] w (Ret (.int .i64 (qA rows (x,y,d))) w):=by
 obtain⟨A,c,rfl,hc,hm⟩:=h.form;have B0:=((Below.refl w.heap.size w).al (.cells #[.slice A rows.length c] 26)).al (.cells #[.int .i64 x,.int .i64 y,.bool d] 99);have bX:=(Blk.aX w 26 #[.slice A rows.length c]).alloc (.cells #[.int .i64 x,.int .i64 y,.bool d] 99);have bD:=Blk.gI (w.alloc (.cells #[.slice A rows.length c] 26)) 99 #[.int .i64 x,.int .i64 y,.bool d] (w.heap.size+1) (by simp);rcases hd:aI (x,y,d)with _|_
 . have e : qA rows (x, y, d) = 0 := by unfold qA eY; rw [hd]; simp
   rw[e];have Hd:=Tk hd;clear hd e;go_enter Tp,Tq
   go_wp2_with fail
   refine(dD x y d _).mono ?_;rintro e w1 ⟨rfl,hb1⟩;rw[Hd.out];go_wp2;go_ret;exact⟨rfl,B0.tr hb1⟩
 . obtain⟨cM,cN⟩:=dR hd;obtain⟨sx,sy,b5⟩:∃sx sy,sec (x,y,d)=(sx,sy):=⟨_,_,rfl⟩;rw[b5]at cN;simp only at cM;have cB:=Tk cM;have cP:=Tk cN;have bA:=Tk b5;have Hd:=Tk hd;clear cM cN b5 hd;rcases hk:bW rows with _|_
   . have e : qA rows (x, y, d) = 0 := by unfold qA; rw [hk]; rfl
     rw[e];have Hk:=Tk hk;clear hk e;go_enter Tp,Tq
     go_wp2_with fail
     refine(dD x y d _).mono ?_;rintro e w1 ⟨rfl,hb1⟩;rw[Hd.out];have B1:=B0.tr hb1;have bB:=bX.bl hb1;have bC:=bD.bl hb1;obtain⟨gX,bE⟩:=Ti w.heap.size;obtain⟨gD,bF⟩:=Ti (w.heap.size+1);rw[<-bF]at bC⊢;rw[<-bE]at bB⊢;clear bE bF;obtain⟨b6,b7,b8⟩:=bC.n3;go_wp2_with fail
     refine(jX x y d _ Hd.out).mono ?_;rintro e w2 ⟨rfl,hb2⟩;rw[bA.out];go_upto_region 4 with(fail)
     have B3:=((B1.tr hb2).al (.cells #[.int .i64 x,.int .i64 y] 83)).al (.cells #[.int .i64 sx,.int .i64 sy] 83);have a8:=((bB.bl hb2).alloc (.cells #[.int .i64 x,.int .i64 y] 83)).alloc (.cells #[.int .i64 sx,.int .i64 sy] 83);have a6:=(Blk.aX w2 83 #[.int .i64 x,.int .i64 y]).alloc (.cells #[.int .i64 sx,.int .i64 sy] 83);have a7:=Blk.gI (w2.alloc (.cells #[.int .i64 x,.int .i64 y] 83)) 83 #[.int .i64 sx,.int .i64 sy] (w2.heap.size+1) (by simp);obtain⟨W3,hW3⟩:=Ti ((w2.alloc (.cells #[.int .i64 x,.int .i64 y] 83)).alloc (.cells #[.int .i64 sx,.int .i64 sy] 83));obtain⟨gB,bJ⟩:=Ti (w2.heap.size+1);obtain⟨gA,bK⟩:=Ti w2.heap.size;rw[<-hW3]at B3 a8 a6 a7⊢;rw[<-bJ]at a7⊢;rw[<-bK]at a6⊢;clear hW3 bJ bK b6 b7 b8;have bM:=a8.c1;obtain⟨bN,bO⟩:=a6.n2;obtain⟨bP,bR⟩:=a7.n2;go_wp2_with fail
     refine(BN _ rows x y _ (h.Tj B3) cB.out Hk.out).mono ?_;rintro e w4 ⟨rfl,hb4⟩;go_wp2;go_ret;exact⟨rfl,B3.tr hb4⟩
   . have bU:Hid (dX rows):=Tk (aR.1 hk);have hs:=dW bU.out;obtain⟨s,b9⟩:=Ti (setOf rows);have cC:Hid (s=setOf rows):=Tk b9;obtain⟨cQ,cR⟩:=Kc Hd.out;have cS:fC (x,y,d)=(dJ (x,y)).toNat:=rfl;have cT:jL (x,y,d)=(dJ (sx,sy)).toNat:=by unfold jL;rw[bA.out]
     have hw2:=wO (d:=(x,y,d)) (Bu b9 hs) Hd.out
     have bS:eY s (x,y,d)=(s.testBit (fC (x,y,d))&&s.testBit (jL (x,y,d))):=by
      unfold eY;rw[Hd.out,xX (Bu b9 hs) Hd.out,Bool.true_and]
     obtain⟨I,hI⟩:=Ti (fC (x,y,d));obtain⟨J,hJ⟩:=Ti (jL (x,y,d));rw[<-hI]at cS bS hw2 cQ;rw[<-hJ]at cT bS hw2 cR;have cG:=Tk cS;have cU:=Tk cT
     have hcw:qA rows (x,y,d)=if(s.testBit I&&s.testBit J)=true then gH (dE s (aG (x,y,d)))else 0:=by
      unfold qA;rw[hk,<-b9,bS,Bool.true_and]
     rw[hcw];have eC:=Tk hw2;clear hw2 bS hcw hk cS cT hI hJ;rcases e1:s.testBit I with _|_
     . rw [Bool.false_and, if_neg (by simp)];have cD:=Tk e1;clear e1;go_enter Tp,Tq
       go_wp2_with fail
       refine(dD x y d _).mono ?_;rintro e w1 ⟨rfl,hb1⟩;rw[Hd.out];have B1:=B0.tr hb1;have bB:=bX.bl hb1;have bC:=bD.bl hb1;obtain⟨gX,bE⟩:=Ti w.heap.size;obtain⟨gD,bF⟩:=Ti (w.heap.size+1);rw[<-bF]at bC⊢;rw[<-bE]at bB⊢;clear bE bF;obtain⟨b6,b7,b8⟩:=bC.n3;go_wp2_with fail
       refine(jX x y d _ Hd.out).mono ?_;rintro e w2 ⟨rfl,hb2⟩;rw[bA.out];go_upto_region 4 with(fail)
       have B3:=((B1.tr hb2).al (.cells #[.int .i64 x,.int .i64 y] 83)).al (.cells #[.int .i64 sx,.int .i64 sy] 83);have a8:=((bB.bl hb2).alloc (.cells #[.int .i64 x,.int .i64 y] 83)).alloc (.cells #[.int .i64 sx,.int .i64 sy] 83);have a6:=(Blk.aX w2 83 #[.int .i64 x,.int .i64 y]).alloc (.cells #[.int .i64 sx,.int .i64 sy] 83);have a7:=Blk.gI (w2.alloc (.cells #[.int .i64 x,.int .i64 y] 83)) 83 #[.int .i64 sx,.int .i64 sy] (w2.heap.size+1) (by simp);obtain⟨W3,hW3⟩:=Ti ((w2.alloc (.cells #[.int .i64 x,.int .i64 y] 83)).alloc (.cells #[.int .i64 sx,.int .i64 sy] 83));obtain⟨gB,bJ⟩:=Ti (w2.heap.size+1);obtain⟨gA,bK⟩:=Ti w2.heap.size;rw[<-hW3]at B3 a8 a6 a7⊢;rw[<-bJ]at a7⊢;rw[<-bK]at a6⊢;clear hW3 bJ bK b6 b7 b8;have bM:=a8.c1;obtain⟨bN,bO⟩:=a6.n2;obtain⟨bP,bR⟩:=a7.n2;go_wp2_with fail
       refine(iX _ rows x y s I _ (h.Tj B3) cB.out bU cC cG.out).mono ?_;rintro e w4 ⟨rfl,hb4⟩;rw[cD.out];go_wp2;go_ret;exact⟨rfl,B3.tr hb4⟩
     . rcases e2:s.testBit J with _|_
       . rw [Bool.and_false, if_neg (by simp)];have cD:=Tk e1;have cV:=Tk e2;clear e1 e2;go_enter Tp,Tq
         go_wp2_with fail
         refine(dD x y d _).mono ?_;rintro e w1 ⟨rfl,hb1⟩;rw[Hd.out];have B1:=B0.tr hb1;have bB:=bX.bl hb1;have bC:=bD.bl hb1;obtain⟨gX,bE⟩:=Ti w.heap.size;obtain⟨gD,bF⟩:=Ti (w.heap.size+1);rw[<-bF]at bC⊢;rw[<-bE]at bB⊢;clear bE bF;obtain⟨b6,b7,b8⟩:=bC.n3;go_wp2_with fail
         refine(jX x y d _ Hd.out).mono ?_;rintro e w2 ⟨rfl,hb2⟩;rw[bA.out];go_upto_region 4 with(fail)
         have B3:=((B1.tr hb2).al (.cells #[.int .i64 x,.int .i64 y] 83)).al (.cells #[.int .i64 sx,.int .i64 sy] 83);have a8:=((bB.bl hb2).alloc (.cells #[.int .i64 x,.int .i64 y] 83)).alloc (.cells #[.int .i64 sx,.int .i64 sy] 83);have a6:=(Blk.aX w2 83 #[.int .i64 x,.int .i64 y]).alloc (.cells #[.int .i64 sx,.int .i64 sy] 83);have a7:=Blk.gI (w2.alloc (.cells #[.int .i64 x,.int .i64 y] 83)) 83 #[.int .i64 sx,.int .i64 sy] (w2.heap.size+1) (by simp);obtain⟨W3,hW3⟩:=Ti ((w2.alloc (.cells #[.int .i64 x,.int .i64 y] 83)).alloc (.cells #[.int .i64 sx,.int .i64 sy] 83));obtain⟨gB,bJ⟩:=Ti (w2.heap.size+1);obtain⟨gA,bK⟩:=Ti w2.heap.size;rw[<-hW3]at B3 a8 a6 a7⊢;rw[<-bJ]at a7⊢;rw[<-bK]at a6⊢;clear hW3 bJ bK b6 b7 b8;have bM:=a8.c1;obtain⟨bN,bO⟩:=a6.n2;obtain⟨bP,bR⟩:=a7.n2;go_wp2_with fail
         refine(iX _ rows x y s I _ (h.Tj B3) cB.out bU cC cG.out).mono ?_;rintro e w4 ⟨rfl,hb4⟩;rw[cD.out];have B4:=B3.tr hb4;have cH:=a8.bl hb4;have cI:=a6.bl hb4;have cJ:=a7.bl hb4;clear bM bN bO bP bR;have bM:=cH.c1;obtain⟨bN,bO⟩:=cI.n2;obtain⟨bP,bR⟩:=cJ.n2;go_wp2_with fail
         refine(iX _ rows sx sy s J _ (h.Tj B4) cP.out bU cC cU.out).mono ?_;rintro e w5 ⟨rfl,cA⟩;rw[cV.out];go_wp2;go_ret;exact⟨rfl,B4.tr cA⟩
       . rw[Bool.true_and,if_pos rfl];have cD:=Tk e1;have cV:=Tk e2;clear e1 e2;obtain⟨R,hR⟩:=Ti (gH (dE s (aG (x,y,d))));obtain⟨N1,cK⟩:=Ti (rowsOf (jA s I) 8);obtain⟨N2,cL⟩:=Ti (rowsOf (jA (jA s I) J) 8);have hs':s<U64:=Bu b9 hs;have dT:mP rows (x,y) false=(N1,true):=(by rw[yE bU.out cB.out,cK,<-b9,<-cG.out]);have bL:dX N1:=by rw[cK];exact nA _ 8 (Tn _)
         have cE:setOf N1=jA s I:=by rw[cK];exact lU (eD hs')
         have hw2:mP N1 (sx,sy) false=(N2,true):=(by rw[yE bL cP.out,cL,cE,<-cU.out]);have bY:dX N2:=by rw[cL];exact nA _ 8 (Tn _)
         have cF:setOf N2=dE s (aG (x,y,d)):=by rw[cL];exact(lU (show jA (jA s I) J<U64 from eD (eD hs'))).trans eC.out
         have C1 : ∀ (u : Value) (w : World), Rd 1 aZ w u rows -> Calls prog 222 #[.agg #[u], .agg #[.int .i64 x, .int .i64 y], .bool false] w (qU N1 true w) := fun u w k1 => by
          have:=kR u rows x y false w k1 (by have:=bU.out.1;unfold Small;omega);rw[dT]at this;exact this
         have C2 : ∀ (u : Value) (w : World), Rd 1 aZ w u N1 -> Calls prog 222 #[.agg #[u], .agg #[.int .i64 sx, .int .i64 sy], .bool false] w (qU N2 true w) := fun u w k1 => by
          have:=kR u N1 sx sy false w k1 (by have:=bL.1;unfold Small;omega);rw[hw2]at this;exact this
         have C3 : ∀ (u : Value) (w : World), Rd 1 aZ w u N2 -> Calls prog 125 #[.agg #[u]] w (Ret (.int .i64 R) w) := fun u w k1 => by
          have:=Ez u N2 w k1 (Tk bY);rw[cF,<-hR]at this;exact this
         rw[<-hR];clear hR cK cL dT hw2 cE cF bL bY b9;go_enter Tp,Tq
         go_wp2_with fail
         refine(dD x y d _).mono ?_;rintro e w1 ⟨rfl,hb1⟩;rw[Hd.out];have B1:=B0.tr hb1;have bB:=bX.bl hb1;have bC:=bD.bl hb1;obtain⟨gX,bE⟩:=Ti w.heap.size;obtain⟨gD,bF⟩:=Ti (w.heap.size+1);rw[<-bF]at bC⊢;rw[<-bE]at bB⊢;clear bE bF;obtain⟨b6,b7,b8⟩:=bC.n3;go_wp2_with fail
         refine(jX x y d _ Hd.out).mono ?_;rintro e w2 ⟨rfl,hb2⟩;rw[bA.out];go_upto_region 4 with(fail)
         have B3:=((B1.tr hb2).al (.cells #[.int .i64 x,.int .i64 y] 83)).al (.cells #[.int .i64 sx,.int .i64 sy] 83);have a8:=((bB.bl hb2).alloc (.cells #[.int .i64 x,.int .i64 y] 83)).alloc (.cells #[.int .i64 sx,.int .i64 sy] 83);have a6:=(Blk.aX w2 83 #[.int .i64 x,.int .i64 y]).alloc (.cells #[.int .i64 sx,.int .i64 sy] 83);have a7:=Blk.gI (w2.alloc (.cells #[.int .i64 x,.int .i64 y] 83)) 83 #[.int .i64 sx,.int .i64 sy] (w2.heap.size+1) (by simp);obtain⟨W3,hW3⟩:=Ti ((w2.alloc (.cells #[.int .i64 x,.int .i64 y] 83)).alloc (.cells #[.int .i64 sx,.int .i64 sy] 83));obtain⟨gB,bJ⟩:=Ti (w2.heap.size+1);obtain⟨gA,bK⟩:=Ti w2.heap.size;rw[<-hW3]at B3 a8 a6 a7⊢;rw[<-bJ]at a7⊢;rw[<-bK]at a6⊢;clear hW3 bJ bK b6 b7 b8;have bM:=a8.c1;obtain⟨bN,bO⟩:=a6.n2;obtain⟨bP,bR⟩:=a7.n2;go_wp2_with fail
         refine(iX _ rows x y s I _ (h.Tj B3) cB.out bU cC cG.out).mono ?_;rintro e w4 ⟨rfl,hb4⟩;rw[cD.out];have B4:=B3.tr hb4;have cH:=a8.bl hb4;have cI:=a6.bl hb4;have cJ:=a7.bl hb4;clear bM bN bO bP bR;have bM:=cH.c1;obtain⟨bN,bO⟩:=cI.n2;obtain⟨bP,bR⟩:=cJ.n2;go_wp2_with fail
         refine(iX _ rows sx sy s J _ (h.Tj B4) cP.out bU cC cU.out).mono ?_;rintro e w5 ⟨rfl,cA⟩;rw[cV.out];have B5:=B4.tr cA;have eE:=cH.bl cA;have eI:=cI.bl cA;have eA:=cJ.bl cA;clear bM bN bO bP bR;have bM:=eE.c1;obtain⟨bN,bO⟩:=eI.n2;go_wp2_with fail
         refine(C1 _ _ (h.Tj B5)).mono ?_;rintro e w6 ⟨D,d1,rfl,cW,cX⟩;have B6:=(B5.tr cX).al (.cells #[.slice D N1.length d1] 26);have eJ:=(eA.bl cX).alloc (.cells #[.slice D N1.length d1] 26);have eK:=Blk.aX w6 26 #[.slice D N1.length d1];have cY:=(cW.alloc (.cells #[.slice D N1.length d1] 26)).rd aM (by decide);have hBl:=(eA.bl cX).lt;have eN:gB≠w6.heap.size:=(by omega);clear bM bN bO;have eP:=eK.c1;obtain⟨bP,bR⟩:=eJ.n2;go_wp2_with fail
         refine(C2 _ _ cY).mono ?_;rintro e w8 ⟨E,e1,rfl,dL,eL⟩;go_wp2_with fail
         refine(C3 _ _ ((dL.alloc (.cells #[.slice E N2.length e1] 26)).rd aM (by decide))).mono ?_;rintro e w9 ⟨rfl,eM⟩;go_wp2;go_ret;exact⟨rfl,((B6.tr eL).al _).tr eM⟩
section
variable {P : Program} {ops : Array Oper} {o : Oper} {a : Act} {w : World} {K : Act -> World -> Prop} {Q : Exit -> Act -> World -> Prop} {E' : Prop} {t E : TypeId} {z : Value} {size bytes : Nat} {α : Type} {enc : α -> List Value} {B : Nat} {v : Value} {l : List α}
theorem pG (R:Row P t E z size bytes) (a8:∀x,(enc x).length=size) (hB:B<=w.heap.size) (hown:aD E size enc B w v l) (y:α) (h1:∀u∈enc y,u.oneCell'=true) {g:Nat} (hb:Blk w g E (enc y).toArray)
    (hlen:(l.length+1)*bytes<=140737488355328) (a6:l.length+1<=maxLen) (hgd:o.guard=none)
    (s x:Operand) (ho:o.op= .call {callee:= .builtin .append,args:= #[s,x],argTypes:= #[t,t]})
    (hs:a.eval s=v) (hx:a.eval x= .slice (some ⟨g,0,none⟩) 1 1)
    (h:∀A c w',aD E size enc B w' (.slice A (l.length+1) c) (l++[y])->w.grownBy w' v.ownBlock->K (a.put o.dst (.slice A (l.length+1) c)) w'):
    if Region.wanted o (yielded ops a.tmps)=true then Oper.wp P o a w K Q else E':=by
 have hw:Region.wanted o (yielded ops a.tmps)=true:=(by simp[Region.wanted,hgd]);rw[if_pos hw];obtain⟨ht,a7,hzs,hsz⟩:=R;obtain⟨i0,hi,hz0,hz1,hz2⟩:=info_parts a7
 obtain⟨v',w',hrun,h2,h3,_,h5⟩:=run_append_own_at (P:=P) w B t o.type E i0 z size bytes ht hi hz0 hz1 hz2 hzs hsz v l.length (l.flatMap enc) hown
   ⟨g, 0, none⟩ 1 1 (enc y) (by rw [a8]; omega) (fun j u hj => by
    have:=hb.cell j;rw[List.getElem?_toArray,hj]at this
    have e:(Addr.mk g 0 none).add j=⟨g,j,none⟩:=by
     unfold Addr.add;split
     . simp_all
     . simp
    rw[e];exact this) h1 a6 hlen hB
 unfold Oper.wp execOp;simp only[ho,resolve,invoke,builtin,Sem.run_bind,Sem.run_pure,Result.andThen_ok,List.map_toArray,List.map_cons,List.map_nil,hs,hx,hrun]
 have hO:aD E size enc B w' v' (l++[y]):=by
  unfold aD;rw[Tm,List.flatMap_append,List.length_singleton];simpa using h2
 obtain⟨A,c,e,_⟩:=hO.form;rw[Tm,List.length_singleton]at e;subst e;exact h A c w' hO h3
theorem qP (R:Row P t E z 1 bytes) {us a6:List Value} (hB:B<=w.heap.size) (hown:aD E 1 eV B w v us) {A:Option Addr} {c:Nat} (hm:Rd 1 (RE eV) w (.slice A a6.length c) a6) (h1:∀u∈a6,u.oneCell'=true)
    (hlen:(us.length+a6.length)*bytes<=140737488355328) (a8:us.length+a6.length<=maxLen) (hgd:o.guard=none)
    (s x:Operand) (ho:o.op= .call {callee:= .builtin .append,args:= #[s,x],argTypes:= #[t,t]})
    (hs:a.eval s=v) (hx:a.eval x= .slice A a6.length c)
    (h:∀A' c' w',aD E 1 eV B w' (.slice A' (us.length+a6.length) c') (us++a6)->w.grownBy w' v.ownBlock->K (a.put o.dst (.slice A' (us.length+a6.length) c')) w'):
    if Region.wanted o (yielded ops a.tmps)=true then Oper.wp P o a w K Q else E':=by
 have hw:Region.wanted o (yielded ops a.tmps)=true:=(by simp[Region.wanted,hgd]);rw[if_pos hw];obtain⟨ht,bA,hzs,hsz⟩:=R;obtain⟨i0,hi,hz0,hz1,hz2⟩:=info_parts bA
 have key:∃v' w',(Builtin.append_ #[t,t] o.type #[v,.slice A a6.length c]).run P w= .ok v' w'/\aD E 1 eV B w' v' (us++a6)/\w.grownBy w' v.ownBlock:=by
  by_cases hA:A=none
  . subst hA
    have bB:a6=[]:=by
     obtain⟨A',c',e,_,_,h3⟩:=hm;injection e with e1 e2 e3;rcases Nat.eq_zero_or_pos a6.length with h0|h0
     . exact List.eq_nil_of_length_eq_zero h0
     . obtain⟨b,off,e4,_⟩:=h3 h0;rw[e4]at e1;cases e1
    subst bB;refine⟨v,w,?_,by simpa using hown,World.grownBy.refl _ _⟩;rcases hown.2 with⟨rfl,hn⟩|⟨g,cap,cur,rfl,_,_,bC,_⟩
    . simp[Builtin.append_,run_underlying ht,sizeOf,typeInfo,hi,Builtin.lenOf,Builtin.firstCells]
    . simp[Builtin.append_,run_underlying ht,sizeOf,typeInfo,hi,Builtin.lenOf,Builtin.firstCells,bC,storeCells]
  . obtain ⟨ad, rfl⟩ : ∃ ad, A = some ad := by cases A with
     |none=>exact absurd rfl hA
     |some ad=>exact⟨ad,rfl⟩
    have a7:∀j u,(a6.flatMap eV)[j]? =some u->w.cell? (ad.add j)=some u:=by
     intro j u hj;obtain⟨i,x,r,k1,k2,k3⟩:=EU Cb a6 j u hj;have hi':i<a6.length:=(List.getElem?_eq_some_iff.1 k1).1;obtain⟨b,off,e,_,hc⟩:=hm.at_ hi';injection e with e;subst e;have hx:a6[i]=x:=by rw[List.getElem?_eq_getElem hi']at k1;injection k1
     have:=hc r u (by rw[hx];exact k2)
     have e:(Addr.mk b off none).add j=⟨b,off+i*1+r,none⟩:=by
      unfold Addr.add;split
      . simp_all
      . simp[k3,Nat.add_assoc]
     rw[e];exact this
    obtain⟨v',w',hrun,h2,h3,_,h5⟩:=run_append_own_at (P:=P) w B t o.type E i0 z 1 bytes ht hi hz0 hz1 hz2 hzs hsz v us.length (us.flatMap eV) hown
      ad a6.length c (a6.flatMap eV) (iB Cb a6) a7 (fun u hu => by
       obtain⟨x,hx,bD⟩:=List.mem_flatMap.1 hu;rw[show u=x by simpa[eV]using bD];exact h1 x hx) a8 hlen hB
    refine⟨v',w',hrun,?_,h3⟩;unfold aD;rw[Tm,List.flatMap_append];exact h2
 obtain⟨v',w',hrun,hO,hb⟩:=key;unfold Oper.wp execOp;simp only[ho,resolve,invoke,builtin,Sem.run_bind,Sem.run_pure,Result.andThen_ok,List.map_toArray,List.map_cons,List.map_nil,hs,hx,hrun];obtain⟨A',c',e,_⟩:=hO.form;rw[Tm]at e;subst e;exact h A' c' w' hO hb
end
theorem Jd {n:Nat} {W cur:World} (hb:Below n W cur) (T:TypeId) (cs:Array Value):∃w' g,w'=cur.alloc (.cells cs T)/\g=cur.heap.size/\Blk w' g T cs/\Below cur.heap.size cur w':=
 ⟨_,_,rfl,rfl,Blk.aX cur T cs,(Below.refl _ _).al _⟩
theorem N7 (v u:Value) (rows:List Int) (l:List Dm) (w:World) (h:Rd 1 aZ w v rows) (h2:Rd 3 aQ w u l):Calls prog 236 #[.agg #[v],u] w (fM 83 2 dM (Rq rows l) w):=by
 obtain⟨A,c,rfl,hc,hm⟩:=h.form;obtain⟨A2,c2,rfl,hc2,bY⟩:=h2.form;have hA:=((Below.refl w.heap.size w).al (.cells #[.slice A rows.length c] 26)).al (.cells #[] 83);have bX:=(Blk.aX w 26 #[.slice A rows.length c]).alloc (.cells #[] 83);have ho:=eG (w.alloc (.cells #[.slice A rows.length c] 26)) (E:=83) (size:=2) (enc:=dM) (w.heap.size+1) (by simp) w.heap.size (by simp);have hle:=BH rows;obtain⟨cs,hcs⟩:=Ti (eU rows);have bF:Rq rows l=cs.filter fun c=>decide (nW l c<0):=by rw[hcs];rfl
 rw[<-hcs]at hle;obtain⟨R,hR⟩:=Ti (Rq rows l);rw[<-hR]at bF⊢;have bM:=Tk hcs;have bN:=Tk bF;clear hcs bF hR;go_enter Tryz.func236,Tryz.ntmps236
 go_wp2_with fail
 refine(uQ _ rows _ (h.Tj hA)).mono ?_;rintro e w1 ⟨A6,c6,rfl,a6,hb1⟩;rw[<-bM.out]at a6⊢;have B1:=hA.tr hb1;have bA:=ho.below hb1;have a7:=a6.mono hA.size
 have hne:(slice A6 cs.length c6).ownBlock≠(slice (some ⟨w.heap.size+1,0,none⟩) 0 0).ownBlock:=by
  intro e;have:=World.ownsRow.lt a6 (w.heap.size+1) (by rw[e];rfl);simp at this;omega
 clear ho a6 bX hA hb1;go_wp2;go_loopw [5,7] (fun s5 s7 wr=>∃(k:Nat) (out:List Cl) (A5:Option Addr) (c5:Nat),k<=cs.length/\out.length<=k/\s7= .int .i64 k/\s5= .slice A5 out.length c5/\Hid (out++(cs.drop k).filter (fun c=>decide (nW l c<0))=R)/\aD 83 2 dM w.heap.size wr (.slice A5 out.length c5) out/\aD 83 2 dM w.heap.size wr (.slice A6 cs.length c6) cs/\Hid ((slice A6 cs.length c6).ownBlock≠(slice A5 out.length c5).ownBlock)/\Below w.heap.size w wr) (fun _ i _=>cs.length-(intOf i).toNat)
 case atStart=>exact⟨0,[],_,_,Nat.zero_le _,Tn _,rfl,rfl,Tk bN.out.symm,bA,a7,Tk hne,B1⟩
 case round=>
  obtain⟨k,out,A5,c5,hk,b5,rfl,rfl,Hg,hown,bL,bJ,a8⟩:=hrel;clear bA a7 hne B1;by_cases hlt:k<cs.length
  . have bO : (k : Int) < (cs.length : Int) := by omega
    obtain⟨b,off,rfl,hb,q1,q2⟩:=(bL.rd eB (by decide)).iR hlt;have hg:=Hg.out;rw[List.drop_eq_getElem_cons hlt,List.filter_cons]at hg;obtain⟨d,hd⟩:=Ti (cs[k]);rw[<-hd]at q1 q2 hg;obtain⟨x,y⟩:=d;simp only at q1 q2;obtain⟨D,hD⟩:=Ti (nW l (x,y));rw[<-hD]at hg;have HD:=Tk hD;have Hd:=Tk hd;clear hD hd;have H8:Hid ((out.length+1)*16<=140737488355328):=Tk (by omega);have HM:Hid (out.length+1<=maxLen):=Tk (by unfold maxLen;omega);go_wp2_with fail
    refine(jG _ l x y _ (h2.Tj a8)).mono ?_;rintro e w2 ⟨rfl,hb2⟩;rw[<-HD.out];have bB:=hown.below hb2;have bE:=bL.below hb2;have B2:=a8.tr hb2;by_cases bC:D<0
    . rw [if_pos (by simpa using bC), <- List.singleton_append, <- List.append_assoc] at hg;have bK:=Tk hg;clear hg;obtain⟨b9,bP,e9,r0,r1,r2⟩:=(bE.rd eB (by decide)).iR hlt;injection e9 with e9;injection e9 with bR bS _;subst bR;subst bS;rw[<-Hd.out]at r1 r2;simp only at r1 r2;go_wp2_with (at_builtin;go_must (refine aF (enc:=dM) jK eB oneCell B2 bB ((x,y):Cl) H8.out HM.out rfl _ _ rfl rfl rfl ?_);intro v4 w4 bD hb4 hg4 bU;obtain⟨A4,c4,rfl,b6,b7⟩:=bD.form)
      have ha:aD 83 2 dM w.heap.size w4 (.slice (some ⟨b,off,none⟩) cs.length c6) cs/\(slice (some ⟨b,off,none⟩) cs.length c6).ownBlock≠(slice A4 (out++[((x,y):Cl)]).length c4).ownBlock:=by
       refine⟨World.ownsRow.kept (bE.alloc _) hg4 (.inr bJ.out),?_⟩;rcases bU with e|e
       . rw[e];exact bJ.out
       . rw[e];intro q;have:=World.ownsRow.lt bE _ q;omega
      go_roundw
      case rel=>exact⟨k+1,out++[(x,y)],A4,c4,by omega,by simp;omega,by go_num,by simp,bK,bD,ha.1,Tk ha.2,hb4⟩
      case measure=>simp[intOf];omega
    . rw [if_neg (by simpa using bC)] at hg;have bK:=Tk hg;clear hg;go_wp2;go_roundw
      case rel=>exact⟨k+1,out,A5,c5,by omega,by omega,by go_num,rfl,bK,bB,bE,bJ,B2⟩
      case measure=>simp[intOf];omega
  . obtain rfl : k = cs.length := by omega
    have hg:=Hg.out;rw[List.drop_of_length_le (Tn _),List.filter_nil,List.append_nil]at hg;subst hg;go_wp2;go_ret;exact⟨A5,c5,rfl,hown,a8⟩
end Go.Proofs.YtjijonhkofhikaaGreatDoor
