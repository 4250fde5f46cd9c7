import Derived.Test.YtjijonhkofhikaaGreatDoorEK11
import Derived.Test.YtjijonhkofhikaaGreatDoorEG15
open _root_.List renaming length_append->TZ
open _root_.Nat renaming le_refl->T9
open _root_.Go.Proofs.Tryz (prog func219 ntmps219)
open _root_.Go.Proofs.Tryz renaming func221->Ua,ntmps221->Ub
set_option linter.unusedVariables false
set_option linter.unusedSimpArgs false
set_option maxHeartbeats 4000000
set_option maxRecDepth 100000
namespace Go.Proofs.YtjijonhkofhikaaGreatDoor
open Go.ChangeShapes Go.WideShapes Go.ChangeAt Go.RowKit
theorem wM (v:Value) (rows:List Int) (w:World) (h:Rd 1 bG w v rows):Calls prog 219 #[.agg #[v]] w (Ret (.int .i64 (aY rows)) w):=by
 obtain⟨A,c,rfl,hc,hm⟩:=h.form;have hA:=(Below.refl w.heap.size w).al (.cells #[.slice A rows.length c] 26);have bX:=Blk.aZ w 26 #[.slice A rows.length c];rcases hk:bQ rows with _|_
 . have e : aY rows = 0 := by unfold aY; rw [hk]; rfl
   rw[e];have Hk:=TY hk;clear hk e;go_enter func219,ntmps219
   go_wp2_with fail
   refine(dZ _ rows _ (h.TW hA)).mono ?_;rintro e w1 ⟨rfl,hb1⟩;rw[Hk.out];go_wp2;go_ret;exact⟨rfl,hA.tr hb1⟩
 . have e : aY rows = fF (setOf rows) := by unfold aY; rw [if_pos hk]
   rw[e];have a6:Hid (dY rows):=TY (aN.1 hk);have Hk:=TY hk;clear hk e;obtain⟨R,hR⟩:=TV (fF (setOf rows));have C:∀(u:Value) (w:World),Rd 1 bG w u rows->Calls prog 125 #[.agg #[u]] w (Ret (.int .i64 R) w):=fun u w k1=>by rw[hR];exact vI u rows w k1 a6
   rw[<-hR];clear hR;go_enter func219,ntmps219
   go_wp2_with fail
   refine(dZ _ rows _ (h.TW hA)).mono ?_;rintro e w1 ⟨rfl,hb1⟩;rw[Hk.out];have z1:=(bX.bl hb1).c1;go_wp2_with fail
   refine(C _ _ ((h.TW hA).TW hb1)).mono ?_;rintro e w2 ⟨rfl,hb2⟩;go_wp2;go_ret;exact⟨rfl,(hA.tr hb1).tr hb2⟩
theorem BJ {s:Nat} {rows:List Int} (h:s=setOf rows) (hs:setOf rows<U64):s<U64:=h▸hs
theorem yC {rows:List Int} {c:Cl} (a6:dY rows) (hc:bM c=true):mK rows c false=(rowsOf (iO (setOf rows) (dJ c).toNat) 8,true):=by
 unfold mK;rw[aN.2 a6,hc];rfl
theorem Iu (v:Value) (rows:List Int) (x y:Int) (d:Bool) (w:World) (h:Rd 1 bG w v rows):Calls prog 221 #[.agg #[v],.agg #[.int .i64 x,.int .i64 y,.bool d]] w (Ret (.int .i64 (pW rows (x,y,d))) w):=by
 obtain⟨A,c,rfl,hc,hm⟩:=h.form;have B0:=((Below.refl w.heap.size w).al (.cells #[.slice A rows.length c] 26)).al (.cells #[.int .i64 x,.int .i64 y,.bool d] 99);have bX:=(Blk.aZ w 26 #[.slice A rows.length c]).alloc (.cells #[.int .i64 x,.int .i64 y,.bool d] 99);have bD:=Blk.gZ (w.alloc (.cells #[.slice A rows.length c] 26)) 99 #[.int .i64 x,.int .i64 y,.bool d] (w.heap.size+1) (by simp);rcases hd:aI (x,y,d)with _|_
 . have e : pW rows (x, y, d) = 0 := by unfold pW eU; rw [hd]; simp
   rw[e];have Hd:=TY hd;clear hd e;go_enter Ua,Ub
   go_wp2_with fail
   refine(dC x y d _).mono ?_;rintro e w1 ⟨rfl,hb1⟩;rw[Hd.out];go_wp2;go_ret;exact⟨rfl,B0.tr hb1⟩
 . obtain⟨cP,cQ⟩:=dR hd;obtain⟨sx,sy,b7⟩:∃sx sy,sec (x,y,d)=(sx,sy):=⟨_,_,rfl⟩;rw[b7]at cQ;simp only at cP;have cD:=TY cP;have cR:=TY cQ;have bA:=TY b7;have Hd:=TY hd;clear cP cQ b7 hd;rcases hk:bQ rows with _|_
   . have e : pW rows (x, y, d) = 0 := by unfold pW; rw [hk]; rfl
     rw[e];have Hk:=TY hk;clear hk e;go_enter Ua,Ub
     go_wp2_with fail
     refine(dC x y d _).mono ?_;rintro e w1 ⟨rfl,hb1⟩;rw[Hd.out];have B1:=B0.tr hb1;have bB:=bX.bl hb1;have bC:=bD.bl hb1;obtain⟨gX,bE⟩:=TV w.heap.size;obtain⟨gD,bF⟩:=TV (w.heap.size+1);rw[<-bF]at bC⊢;rw[<-bE]at bB⊢;clear bE bF;obtain⟨b8,b9,cA⟩:=bC.n3;go_wp2_with fail
     refine(jP x y d _ Hd.out).mono ?_;rintro e w2 ⟨rfl,hb2⟩;rw[bA.out];go_upto_region 4 with(fail)
     have B3:=((B1.tr hb2).al (.cells #[.int .i64 x,.int .i64 y] 83)).al (.cells #[.int .i64 sx,.int .i64 sy] 83);have a8:=((bB.bl hb2).alloc (.cells #[.int .i64 x,.int .i64 y] 83)).alloc (.cells #[.int .i64 sx,.int .i64 sy] 83);have a6:=(Blk.aZ w2 83 #[.int .i64 x,.int .i64 y]).alloc (.cells #[.int .i64 sx,.int .i64 sy] 83);have a7:=Blk.gZ (w2.alloc (.cells #[.int .i64 x,.int .i64 y] 83)) 83 #[.int .i64 sx,.int .i64 sy] (w2.heap.size+1) (by simp);obtain⟨W3,hW3⟩:=TV ((w2.alloc (.cells #[.int .i64 x,.int .i64 y] 83)).alloc (.cells #[.int .i64 sx,.int .i64 sy] 83));obtain⟨gB,bJ⟩:=TV (w2.heap.size+1);obtain⟨gA,bK⟩:=TV w2.heap.size;rw[<-hW3]at B3 a8 a6 a7⊢;rw[<-bJ]at a7⊢;rw[<-bK]at a6⊢;clear hW3 bJ bK b8 b9 cA;have bN:=a8.c1;obtain⟨bO,bR⟩:=a6.n2;obtain⟨bU,bW⟩:=a7.n2;go_wp2_with fail
     refine(Cc _ rows x y _ (h.TW B3) cD.out Hk.out).mono ?_;rintro e w4 ⟨rfl,hb4⟩;go_wp2;go_ret;exact⟨rfl,B3.tr hb4⟩
   . have b5:Hid (dY rows):=TY (aN.1 hk);have hs:=dW b5.out;obtain⟨s,cB⟩:=TV (setOf rows);have cE:Hid (s=setOf rows):=TY cB;obtain⟨cS,cT⟩:=Kq Hd.out;have cU:eY (x,y,d)=(dJ (x,y)).toNat:=rfl;have cV:jG (x,y,d)=(dJ (sx,sy)).toNat:=by unfold jG;rw[bA.out]
     have hw2:=wL (d:=(x,y,d)) (BJ cB hs) Hd.out
     have bY:eU s (x,y,d)=(s.testBit (eY (x,y,d))&&s.testBit (jG (x,y,d))):=by
      unfold eU;rw[Hd.out,xX (BJ cB hs) Hd.out,Bool.true_and]
     obtain⟨I,hI⟩:=TV (eY (x,y,d));obtain⟨J,hJ⟩:=TV (jG (x,y,d));rw[<-hI]at cU bY hw2 cS;rw[<-hJ]at cV bY hw2 cT;have cI:=TY cU;have cW:=TY cV
     have hcw:pW rows (x,y,d)=if(s.testBit I&&s.testBit J)=true then fF (dE s (aG (x,y,d)))else 0:=by
      unfold pW;rw[hk,<-cB,bY,Bool.true_and]
     rw[hcw];have eI:=TY hw2;clear hw2 bY hcw hk cU cV hI hJ;rcases e1:s.testBit I with _|_
     . rw [Bool.false_and, if_neg (by simp)];have cF:=TY e1;clear e1;go_enter Ua,Ub
       go_wp2_with fail
       refine(dC x y d _).mono ?_;rintro e w1 ⟨rfl,hb1⟩;rw[Hd.out];have B1:=B0.tr hb1;have bB:=bX.bl hb1;have bC:=bD.bl hb1;obtain⟨gX,bE⟩:=TV w.heap.size;obtain⟨gD,bF⟩:=TV (w.heap.size+1);rw[<-bF]at bC⊢;rw[<-bE]at bB⊢;clear bE bF;obtain⟨b8,b9,cA⟩:=bC.n3;go_wp2_with fail
       refine(jP x y d _ Hd.out).mono ?_;rintro e w2 ⟨rfl,hb2⟩;rw[bA.out];go_upto_region 4 with(fail)
       have B3:=((B1.tr hb2).al (.cells #[.int .i64 x,.int .i64 y] 83)).al (.cells #[.int .i64 sx,.int .i64 sy] 83);have a8:=((bB.bl hb2).alloc (.cells #[.int .i64 x,.int .i64 y] 83)).alloc (.cells #[.int .i64 sx,.int .i64 sy] 83);have a6:=(Blk.aZ w2 83 #[.int .i64 x,.int .i64 y]).alloc (.cells #[.int .i64 sx,.int .i64 sy] 83);have a7:=Blk.gZ (w2.alloc (.cells #[.int .i64 x,.int .i64 y] 83)) 83 #[.int .i64 sx,.int .i64 sy] (w2.heap.size+1) (by simp);obtain⟨W3,hW3⟩:=TV ((w2.alloc (.cells #[.int .i64 x,.int .i64 y] 83)).alloc (.cells #[.int .i64 sx,.int .i64 sy] 83));obtain⟨gB,bJ⟩:=TV (w2.heap.size+1);obtain⟨gA,bK⟩:=TV w2.heap.size;rw[<-hW3]at B3 a8 a6 a7⊢;rw[<-bJ]at a7⊢;rw[<-bK]at a6⊢;clear hW3 bJ bK b8 b9 cA;have bN:=a8.c1;obtain⟨bO,bR⟩:=a6.n2;obtain⟨bU,bW⟩:=a7.n2;go_wp2_with fail
       refine(iL _ rows x y s I _ (h.TW B3) cD.out b5 cE cI.out).mono ?_;rintro e w4 ⟨rfl,hb4⟩;rw[cF.out];go_wp2;go_ret;exact⟨rfl,B3.tr hb4⟩
     . rcases e2:s.testBit J with _|_
       . rw [Bool.and_false, if_neg (by simp)];have cF:=TY e1;have cX:=TY e2;clear e1 e2;go_enter Ua,Ub
         go_wp2_with fail
         refine(dC x y d _).mono ?_;rintro e w1 ⟨rfl,hb1⟩;rw[Hd.out];have B1:=B0.tr hb1;have bB:=bX.bl hb1;have bC:=bD.bl hb1;obtain⟨gX,bE⟩:=TV w.heap.size;obtain⟨gD,bF⟩:=TV (w.heap.size+1);rw[<-bF]at bC⊢;rw[<-bE]at bB⊢;clear bE bF;obtain⟨b8,b9,cA⟩:=bC.n3;go_wp2_with fail
         refine(jP x y d _ Hd.out).mono ?_;rintro e w2 ⟨rfl,hb2⟩;rw[bA.out];go_upto_region 4 with(fail)
         have B3:=((B1.tr hb2).al (.cells #[.int .i64 x,.int .i64 y] 83)).al (.cells #[.int .i64 sx,.int .i64 sy] 83);have a8:=((bB.bl hb2).alloc (.cells #[.int .i64 x,.int .i64 y] 83)).alloc (.cells #[.int .i64 sx,.int .i64 sy] 83);have a6:=(Blk.aZ w2 83 #[.int .i64 x,.int .i64 y]).alloc (.cells #[.int .i64 sx,.int .i64 sy] 83);have a7:=Blk.gZ (w2.alloc (.cells #[.int .i64 x,.int .i64 y] 83)) 83 #[.int .i64 sx,.int .i64 sy] (w2.heap.size+1) (by simp);obtain⟨W3,hW3⟩:=TV ((w2.alloc (.cells #[.int .i64 x,.int .i64 y] 83)).alloc (.cells #[.int .i64 sx,.int .i64 sy] 83));obtain⟨gB,bJ⟩:=TV (w2.heap.size+1);obtain⟨gA,bK⟩:=TV w2.heap.size;rw[<-hW3]at B3 a8 a6 a7⊢;rw[<-bJ]at a7⊢;rw[<-bK]at a6⊢;clear hW3 bJ bK b8 b9 cA;have bN:=a8.c1;obtain⟨bO,bR⟩:=a6.n2;obtain⟨bU,bW⟩:=a7.n2;go_wp2_with fail
         refine(iL _ rows x y s I _ (h.TW B3) cD.out b5 cE cI.out).mono ?_;rintro e w4 ⟨rfl,hb4⟩;rw[cF.out];have B4:=B3.tr hb4;have cJ:=a8.bl hb4;have cK:=a6.bl hb4;have cL:=a7.bl hb4;clear bN bO bR bU bW;have bN:=cJ.c1;obtain⟨bO,bR⟩:=cK.n2;obtain⟨bU,bW⟩:=cL.n2;go_wp2_with fail
         refine(iL _ rows sx sy s J _ (h.TW B4) cR.out b5 cE cW.out).mono ?_;rintro e w5 ⟨rfl,cC⟩;rw[cX.out];go_wp2;go_ret;exact⟨rfl,B4.tr cC⟩
       . rw[Bool.true_and,if_pos rfl];have cF:=TY e1;have cX:=TY e2;clear e1 e2;obtain⟨R,hR⟩:=TV (fF (dE s (aG (x,y,d))));obtain⟨N1,cM⟩:=TV (rowsOf (iO s I) 8);obtain⟨N2,cN⟩:=TV (rowsOf (iO (iO s I) J) 8);have hs':s<U64:=BJ cB hs;have eC:mK rows (x,y) false=(N1,true):=(by rw[yC b5.out cD.out,cM,<-cB,<-cI.out]);have bL:dY N1:=by rw[cM];exact mV _ 8 (T9 _)
         have cG:setOf N1=iO s I:=by rw[cM];exact lQ (eD hs')
         have hw2:mK N1 (sx,sy) false=(N2,true):=(by rw[yC bL cR.out,cN,cG,<-cW.out]);have b6:dY N2:=by rw[cN];exact mV _ 8 (T9 _)
         have cH:setOf N2=dE s (aG (x,y,d)):=by rw[cN];exact(lQ (show iO (iO s I) J<U64 from eD (eD hs'))).trans eI.out
         have C1 : ∀ (u : Value) (w : World), Rd 1 bG w u rows -> Calls prog 222 #[.agg #[u], .agg #[.int .i64 x, .int .i64 y], .bool false] w (qV N1 true w) := fun u w k1 => by
          have:=kJ u rows x y false w k1 (by have:=b5.out.1;unfold Small;omega);rw[eC]at this;exact this
         have C2 : ∀ (u : Value) (w : World), Rd 1 bG w u N1 -> Calls prog 222 #[.agg #[u], .agg #[.int .i64 sx, .int .i64 sy], .bool false] w (qV N2 true w) := fun u w k1 => by
          have:=kJ u N1 sx sy false w k1 (by have:=bL.1;unfold Small;omega);rw[hw2]at this;exact this
         have C3 : ∀ (u : Value) (w : World), Rd 1 bG w u N2 -> Calls prog 125 #[.agg #[u]] w (Ret (.int .i64 R) w) := fun u w k1 => by
          have:=vI u N2 w k1 (TY b6);rw[cH,<-hR]at this;exact this
         rw[<-hR];clear hR cM cN eC hw2 cG cH bL b6 cB;go_enter Ua,Ub
         go_wp2_with fail
         refine(dC x y d _).mono ?_;rintro e w1 ⟨rfl,hb1⟩;rw[Hd.out];have B1:=B0.tr hb1;have bB:=bX.bl hb1;have bC:=bD.bl hb1;obtain⟨gX,bE⟩:=TV w.heap.size;obtain⟨gD,bF⟩:=TV (w.heap.size+1);rw[<-bF]at bC⊢;rw[<-bE]at bB⊢;clear bE bF;obtain⟨b8,b9,cA⟩:=bC.n3;go_wp2_with fail
         refine(jP x y d _ Hd.out).mono ?_;rintro e w2 ⟨rfl,hb2⟩;rw[bA.out];go_upto_region 4 with(fail)
         have B3:=((B1.tr hb2).al (.cells #[.int .i64 x,.int .i64 y] 83)).al (.cells #[.int .i64 sx,.int .i64 sy] 83);have a8:=((bB.bl hb2).alloc (.cells #[.int .i64 x,.int .i64 y] 83)).alloc (.cells #[.int .i64 sx,.int .i64 sy] 83);have a6:=(Blk.aZ w2 83 #[.int .i64 x,.int .i64 y]).alloc (.cells #[.int .i64 sx,.int .i64 sy] 83);have a7:=Blk.gZ (w2.alloc (.cells #[.int .i64 x,.int .i64 y] 83)) 83 #[.int .i64 sx,.int .i64 sy] (w2.heap.size+1) (by simp);obtain⟨W3,hW3⟩:=TV ((w2.alloc (.cells #[.int .i64 x,.int .i64 y] 83)).alloc (.cells #[.int .i64 sx,.int .i64 sy] 83));obtain⟨gB,bJ⟩:=TV (w2.heap.size+1);obtain⟨gA,bK⟩:=TV w2.heap.size;rw[<-hW3]at B3 a8 a6 a7⊢;rw[<-bJ]at a7⊢;rw[<-bK]at a6⊢;clear hW3 bJ bK b8 b9 cA;have bN:=a8.c1;obtain⟨bO,bR⟩:=a6.n2;obtain⟨bU,bW⟩:=a7.n2;go_wp2_with fail
         refine(iL _ rows x y s I _ (h.TW B3) cD.out b5 cE cI.out).mono ?_;rintro e w4 ⟨rfl,hb4⟩;rw[cF.out];have B4:=B3.tr hb4;have cJ:=a8.bl hb4;have cK:=a6.bl hb4;have cL:=a7.bl hb4;clear bN bO bR bU bW;have bN:=cJ.c1;obtain⟨bO,bR⟩:=cK.n2;obtain⟨bU,bW⟩:=cL.n2;go_wp2_with fail
         refine(iL _ rows sx sy s J _ (h.TW B4) cR.out b5 cE cW.out).mono ?_;rintro e w5 ⟨rfl,cC⟩;rw[cX.out];have B5:=B4.tr cC;have eJ:=cJ.bl cC;have eK:=cK.bl cC;have eE:=cL.bl cC;clear bN bO bR bU bW;have bN:=eJ.c1;obtain⟨bO,bR⟩:=eK.n2;go_wp2_with fail
         refine(C1 _ _ (h.TW B5)).mono ?_;rintro e w6 ⟨D,d1,rfl,cY,dL⟩;have B6:=(B5.tr dL).al (.cells #[.slice D N1.length d1] 26);have eL:=(eE.bl dL).alloc (.cells #[.slice D N1.length d1] 26);have eM:=Blk.aZ w6 26 #[.slice D N1.length d1];have dT:=(cY.alloc (.cells #[.slice D N1.length d1] 26)).rd aJ (by decide);have hBl:=(eE.bl dL).lt;have eR:gB≠w6.heap.size:=(by omega);clear bN bO bR;have eW:=eM.c1;obtain⟨bU,bW⟩:=eL.n2;go_wp2_with fail
         refine(C2 _ _ dT).mono ?_;rintro e w8 ⟨E,e1,rfl,eA,eN⟩;go_wp2_with fail
         refine(C3 _ _ ((eA.alloc (.cells #[.slice E N2.length e1] 26)).rd aJ (by decide))).mono ?_;rintro e w9 ⟨rfl,eP⟩;go_wp2;go_ret;exact⟨rfl,((B6.tr eN).al _).tr eP⟩
section
variable {P : Program} {ops : Array Oper} {o : Oper} {a : Act} {w : World} {K : Act -> World -> Prop} {Q : Exit -> Act -> World -> Prop} {E' : Prop} {t E : TypeId} {z : Value} {size bytes : Nat} {α : Type} {enc : α -> List Value} {B : Nat} {v : Value} {l : List α}
theorem kH (R:Row P t E z size bytes) (a8:∀x,(enc x).length=size) (hB:B<=w.heap.size) (hown:aD E size enc B w v l) (y:α) (h1:∀u∈enc y,u.oneCell'=true) {g:Nat} (hb:Blk w g E (enc y).toArray)
    (hlen:(l.length+1)*bytes<=140737488355328) (a6:l.length+1<=maxLen) (hgd:o.guard=none)
    (s x:Operand) (ho:o.op= .call {callee:= .builtin .append,args:= #[s,x],argTypes:= #[t,t]})
    (hs:a.eval s=v) (hx:a.eval x= .slice (some ⟨g,0,none⟩) 1 1)
    (h:∀A c w',aD E size enc B w' (.slice A (l.length+1) c) (l++[y])->w.grownBy w' v.ownBlock->K (a.put o.dst (.slice A (l.length+1) c)) w'):
    if Region.wanted o (yielded ops a.tmps)=true then Oper.wp P o a w K Q else E':=by
 have hw:Region.wanted o (yielded ops a.tmps)=true:=(by simp[Region.wanted,hgd]);rw[if_pos hw];obtain⟨ht,a7,hzs,hsz⟩:=R;obtain⟨i0,hi,hz0,hz1,hz2⟩:=info_parts a7
 obtain⟨v',w',hrun,h2,h3,_,h5⟩:=run_append_own_at (P:=P) w B t o.type E i0 z size bytes ht hi hz0 hz1 hz2 hzs hsz v l.length (l.flatMap enc) hown
   ⟨g, 0, none⟩ 1 1 (enc y) (by rw [a8]; omega) (fun j u hj => by
    have:=hb.cell j;rw[List.getElem?_toArray,hj]at this
    have e:(Addr.mk g 0 none).add j=⟨g,j,none⟩:=by
     unfold Addr.add;split
     . simp_all
     . simp
    rw[e];exact this) h1 a6 hlen hB
 unfold Oper.wp execOp;simp only[ho,resolve,invoke,builtin,Sem.run_bind,Sem.run_pure,Result.andThen_ok,List.map_toArray,List.map_cons,List.map_nil,hs,hx,hrun]
 have hO:aD E size enc B w' v' (l++[y]):=by
  unfold aD;rw[TZ,List.flatMap_append,List.length_singleton];simpa using h2
 obtain⟨A,c,e,_⟩:=hO.form;rw[TZ,List.length_singleton]at e;subst e;exact h A c w' hO h3
theorem qP (R:Row P t E z 1 bytes) {us a6:List Value} (hB:B<=w.heap.size) (hown:aD E 1 eV B w v us) {A:Option Addr} {c:Nat} (hm:Rd 1 (RE eV) w (.slice A a6.length c) a6) (h1:∀u∈a6,u.oneCell'=true)
    (hlen:(us.length+a6.length)*bytes<=140737488355328) (a8:us.length+a6.length<=maxLen) (hgd:o.guard=none)
    (s x:Operand) (ho:o.op= .call {callee:= .builtin .append,args:= #[s,x],argTypes:= #[t,t]})
    (hs:a.eval s=v) (hx:a.eval x= .slice A a6.length c)
    (h:∀A' c' w',aD E 1 eV B w' (.slice A' (us.length+a6.length) c') (us++a6)->w.grownBy w' v.ownBlock->K (a.put o.dst (.slice A' (us.length+a6.length) c')) w'):
    if Region.wanted o (yielded ops a.tmps)=true then Oper.wp P o a w K Q else E':=by
 have hw:Region.wanted o (yielded ops a.tmps)=true:=(by simp[Region.wanted,hgd]);rw[if_pos hw];obtain⟨ht,bA,hzs,hsz⟩:=R;obtain⟨i0,hi,hz0,hz1,hz2⟩:=info_parts bA
 have key:∃v' w',(Builtin.append_ #[t,t] o.type #[v,.slice A a6.length c]).run P w= .ok v' w'/\aD E 1 eV B w' v' (us++a6)/\w.grownBy w' v.ownBlock:=by
  by_cases hA:A=none
  . subst hA
    have bB:a6=[]:=by
     obtain⟨A',c',e,_,_,h3⟩:=hm;injection e with e1 e2 e3;rcases Nat.eq_zero_or_pos a6.length with h0|h0
     . exact List.eq_nil_of_length_eq_zero h0
     . obtain⟨b,off,e4,_⟩:=h3 h0;rw[e4]at e1;cases e1
    subst bB;refine⟨v,w,?_,by simpa using hown,World.grownBy.refl _ _⟩;rcases hown.2 with⟨rfl,hn⟩|⟨g,cap,cur,rfl,_,_,bC,_⟩
    . simp[Builtin.append_,run_underlying ht,sizeOf,typeInfo,hi,Builtin.lenOf,Builtin.firstCells]
    . simp[Builtin.append_,run_underlying ht,sizeOf,typeInfo,hi,Builtin.lenOf,Builtin.firstCells,bC,storeCells]
  . obtain ⟨ad, rfl⟩ : ∃ ad, A = some ad := by cases A with
     |none=>exact absurd rfl hA
     |some ad=>exact⟨ad,rfl⟩
    have a7:∀j u,(a6.flatMap eV)[j]? =some u->w.cell? (ad.add j)=some u:=by
     intro j u hj;obtain⟨i,x,r,k1,k2,k3⟩:=E9 Ck a6 j u hj;have hi':i<a6.length:=(List.getElem?_eq_some_iff.1 k1).1;obtain⟨b,off,e,_,hc⟩:=hm.at_ hi';injection e with e;subst e;have hx:a6[i]=x:=by rw[List.getElem?_eq_getElem hi']at k1;injection k1
     have:=hc r u (by rw[hx];exact k2)
     have e:(Addr.mk b off none).add j=⟨b,off+i*1+r,none⟩:=by
      unfold Addr.add;split
      . simp_all
      . simp[k3,Nat.add_assoc]
     rw[e];exact this
    obtain⟨v',w',hrun,h2,h3,_,h5⟩:=run_append_own_at (P:=P) w B t o.type E i0 z 1 bytes ht hi hz0 hz1 hz2 hzs hsz v us.length (us.flatMap eV) hown
      ad a6.length c (a6.flatMap eV) (fZ Ck a6) a7 (fun u hu => by
       obtain⟨x,hx,bD⟩:=List.mem_flatMap.1 hu;rw[show u=x by simpa[eV]using bD];exact h1 x hx) a8 hlen hB
    refine⟨v',w',hrun,?_,h3⟩;unfold aD;rw[TZ,List.flatMap_append];exact h2
 obtain⟨v',w',hrun,hO,hb⟩:=key;unfold Oper.wp execOp;simp only[ho,resolve,invoke,builtin,Sem.run_bind,Sem.run_pure,Result.andThen_ok,List.map_toArray,List.map_cons,List.map_nil,hs,hx,hrun];obtain⟨A',c',e,_⟩:=hO.form;rw[TZ]at e;subst e;exact h A' c' w' hO hb
end
theorem Jo {n:Nat} {W cur:World} (hb:Below n W cur) (T:TypeId) (cs:Array Value):∃w' g,w'=cur.alloc (.cells cs T)/\g=cur.heap.size/\Blk w' g T cs/\Below cur.heap.size cur w':=
 ⟨_,_,rfl,rfl,Blk.aZ cur T cs,(Below.refl _ _).al _⟩
theorem Og (v u:Value) (rows:List Int) (l:List Dm) (w:World) (h:Rd 1 bG w v rows) (h2:Rd 3 aU w u l):Calls prog 236 #[.agg #[v],u] w (iH 83 2 dH (RN rows l) w):=by
 obtain⟨A,c,rfl,hc,hm⟩:=h.form;obtain⟨A2,c2,rfl,hc2,b6⟩:=h2.form;have hA:=((Below.refl w.heap.size w).al (.cells #[.slice A rows.length c] 26)).al (.cells #[] 83);have bX:=(Blk.aZ w 26 #[.slice A rows.length c]).alloc (.cells #[] 83);have ho:=fI (w.alloc (.cells #[.slice A rows.length c] 26)) (E:=83) (size:=2) (enc:=dH) (w.heap.size+1) (by simp) w.heap.size (by simp);have hle:=BV rows;obtain⟨cs,hcs⟩:=TV (eF rows);have bF:RN rows l=cs.filter fun c=>decide (qC l c<0):=by rw[hcs];rfl
 rw[<-hcs]at hle;obtain⟨R,hR⟩:=TV (RN rows l);rw[<-hR]at bF⊢;have bN:=TY hcs;have bO:=TY bF;clear hcs bF hR;go_enter Tryz.func236,Tryz.ntmps236
 go_wp2_with fail
 refine(uM _ rows _ (h.TW hA)).mono ?_;rintro e w1 ⟨A6,c6,rfl,a6,hb1⟩;rw[<-bN.out]at a6⊢;have B1:=hA.tr hb1;have bA:=ho.below hb1;have a7:=a6.mono hA.size
 have hne:(Value.slice A6 cs.length c6).ownBlock≠(Value.slice (some ⟨w.heap.size+1,0,none⟩) 0 0).ownBlock:=by
  intro e;have:=World.ownsRow.lt a6 (w.heap.size+1) (by rw[e];rfl);simp at this;omega
 clear ho a6 bX hA hb1;go_wp2;go_loopw [5,7] (fun s5 s7 wr=>∃(k:Nat) (out:List Cl) (A5:Option Addr) (c5:Nat),k<=cs.length/\out.length<=k/\s7= .int .i64 k/\s5= .slice A5 out.length c5/\Hid (out++(cs.drop k).filter (fun c=>decide (qC l c<0))=R)/\aD 83 2 dH w.heap.size wr (.slice A5 out.length c5) out/\aD 83 2 dH w.heap.size wr (.slice A6 cs.length c6) cs/\Hid ((Value.slice A6 cs.length c6).ownBlock≠(Value.slice A5 out.length c5).ownBlock)/\Below w.heap.size w wr) (fun _ i _=>cs.length-(intOf i).toNat)
 case atStart=>exact⟨0,[],_,_,Nat.zero_le _,T9 _,rfl,rfl,TY bO.out.symm,bA,a7,TY hne,B1⟩
 case round=>
  obtain⟨k,out,A5,c5,hk,b7,rfl,rfl,Hg,hown,bL,bJ,a8⟩:=hrel;clear bA a7 hne B1;by_cases hlt:k<cs.length
  . have bR : (k : Int) < (cs.length : Int) := by omega
    obtain⟨b,off,rfl,hb,q1,q2⟩:=(bL.rd eG (by decide)).fQ hlt;have hg:=Hg.out;rw[List.drop_eq_getElem_cons hlt,List.filter_cons]at hg;obtain⟨d,hd⟩:=TV (cs[k]);rw[<-hd]at q1 q2 hg;obtain⟨x,y⟩:=d;simp only at q1 q2;obtain⟨D,hD⟩:=TV (qC l (x,y));rw[<-hD]at hg;have HD:=TY hD;have Hd:=TY hd;clear hD hd;have H8:Hid ((out.length+1)*16<=140737488355328):=TY (by omega);have HM:Hid (out.length+1<=maxLen):=TY (by unfold maxLen;omega);go_wp2_with fail
    refine(yS _ l x y _ (h2.TW a8)).mono ?_;rintro e w2 ⟨rfl,hb2⟩;rw[<-HD.out];have bB:=hown.below hb2;have bE:=bL.below hb2;have B2:=a8.tr hb2;by_cases bC:D<0
    . rw [if_pos (by simpa using bC), <- List.singleton_append, <- List.append_assoc] at hg;have bK:=TY hg;clear hg;obtain⟨b9,bU,e9,r0,r1,r2⟩:=(bE.rd eG (by decide)).fQ hlt;injection e9 with e9;injection e9 with bW bY _;subst bW;subst bY;rw[<-Hd.out]at r1 r2;simp only at r1 r2;go_wp2_with (at_builtin;go_must (refine aF (enc:=dH) jE eG oneCell B2 bB ((x,y):Cl) H8.out HM.out rfl _ _ rfl rfl rfl ?_);intro v4 w4 bD hb4 hg4 b5;obtain⟨A4,c4,rfl,b8,cA⟩:=bD.form)
      have ha:aD 83 2 dH w.heap.size w4 (.slice (some ⟨b,off,none⟩) cs.length c6) cs/\(Value.slice (some ⟨b,off,none⟩) cs.length c6).ownBlock≠(Value.slice A4 (out++[((x,y):Cl)]).length c4).ownBlock:=by
       refine⟨World.ownsRow.kept (bE.alloc _) hg4 (.inr bJ.out),?_⟩;rcases b5 with e|e
       . rw[e];exact bJ.out
       . rw[e];intro q;have:=World.ownsRow.lt bE _ q;omega
      go_roundw
      case rel=>exact⟨k+1,out++[(x,y)],A4,c4,by omega,by simp;omega,by go_num,by simp,bK,bD,ha.1,TY ha.2,hb4⟩
      case measure=>simp[intOf];omega
    . rw [if_neg (by simpa using bC)] at hg;have bK:=TY hg;clear hg;go_wp2;go_roundw
      case rel=>exact⟨k+1,out,A5,c5,by omega,by omega,by go_num,rfl,bK,bB,bE,bJ,B2⟩
      case measure=>simp[intOf];omega
  . obtain rfl : k = cs.length := by omega
    have hg:=Hg.out;rw[List.drop_of_length_le (T9 _),List.filter_nil,List.append_nil]at hg;subst hg;go_wp2;go_ret;exact⟨A5,c5,rfl,hown,a8⟩
end Go.Proofs.YtjijonhkofhikaaGreatDoor
