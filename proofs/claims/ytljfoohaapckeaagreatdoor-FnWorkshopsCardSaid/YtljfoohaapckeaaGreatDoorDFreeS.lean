/- The reference's counts with a domino, its forced dominoes: the walks. Conditions: sizes. -/
import Derived.Test.YtljfoohaapckeaaGreatDoorDK11
import Derived.Test.YtljfoohaapckeaaGreatDoorDK9
import Derived.Test.YtljfoohaapckeaaGreatDoorDK5
import Derived.Test.YtljfoohaapckeaaGreatDoorDK3
import Derived.Test.YtljfoohaapckeaaGreatDoorDG6
open _root_.Go.Proofs.Tryz (prog func217 ntmps217 func218 ntmps218)
namespace Go.Proofs.YtljfoohaapckeaaGreatDoor
open Go.ChangeShapes Go.WideShapes Go.ChangeAt Go.RowKit
set_option linter.unusedVariables false
set_option linter.unusedSimpArgs false
set_option maxHeartbeats 4000000
set_option maxRecDepth 100000
theorem tH (v:Value) (rows:List Int) (w:World) (h:Rd 1 bH w v rows):Calls prog 217 #[.agg #[v]] w (Ret (.int .i64 (bG rows)) w):=by
 obtain⟨A,c,rfl,hc,hm⟩:=h.form;have hA:=(Below.refl w.heap.size w).al (.cells #[.slice A rows.length c] 26);have bX:=Blk.bK w 26 #[.slice A rows.length c];rcases hk:aZ rows with _|_
 . have e : bG rows = 0 := by unfold bG; rw [hk]; rfl
   rw[e];have Hk:=OA hk;clear hk e;go_enter func217,ntmps217
   go_wp2_with fail
   refine(dK _ rows _ (h.Oz hA)).mono ?_;rintro e w1 ⟨rfl,hb1⟩;rw[Hk.out];go_wp2;go_ret;exact⟨rfl,hA.tr hb1⟩
 . have e : bG rows = gU (setOf rows) := by unfold bG; rw [if_pos hk]
   rw[e];have Hok:Hid (dJ rows):=OA (aN.1 hk);have Hk:=OA hk;clear hk e;obtain⟨R,hR⟩:=Oy (gU (setOf rows));have C:∀(u:Value) (w:World),Rd 1 bH w u rows->Calls prog 182 #[.agg #[u]] w (Ret (.int .i64 R) w):=fun u w k1=>by rw[hR];exact rM u rows w k1 Hok
   rw[<-hR];clear hR;go_enter func217,ntmps217
   go_wp2_with fail
   refine(dK _ rows _ (h.Oz hA)).mono ?_;rintro e w1 ⟨rfl,hb1⟩;rw[Hk.out];have z1:=(bX.bl hb1).c1;go_wp2_with fail
   refine(C _ _ ((h.Oz hA).Oz hb1)).mono ?_;rintro e w2 ⟨rfl,hb2⟩;go_wp2;go_ret;exact⟨rfl,(hA.tr hb1).tr hb2⟩
theorem yM {s:Nat} {rows:List Int} (h:s=setOf rows) (hs:setOf rows<U64):s<U64:=h▸hs
theorem uY {rows:List Int} {c:Cl} (Hok:dJ rows) (hc:aV c=true):kR rows c false=(rowsOf (gZ (setOf rows) (cO c).toNat) 8,true):=by
 unfold kR;rw[aN.2 Hok,hc];rfl
theorem EL (v:Value) (rows:List Int) (x y:Int) (d:Bool) (w:World) (h:Rd 1 bH w v rows):Calls prog 218 #[.agg #[v],.agg #[.int .i64 x,.int .i64 y,.bool d]] w (Ret (.int .i64 (mV rows (x,y,d))) w):=by
 obtain⟨A,c,rfl,hc,hm⟩:=h.form;have B0:=((Below.refl w.heap.size w).al (.cells #[.slice A rows.length c] 26)).al (.cells #[.int .i64 x,.int .i64 y,.bool d] 60);have bX:=(Blk.bK w 26 #[.slice A rows.length c]).alloc (.cells #[.int .i64 x,.int .i64 y,.bool d] 60);have bD:=Blk.iV (w.alloc (.cells #[.slice A rows.length c] 26)) 60 #[.int .i64 x,.int .i64 y,.bool d] (w.heap.size+1) (by simp);rcases hd:aH (x,y,d)with _|_
 . have e : mV rows (x, y, d) = 0 := by unfold mV eT; rw [hd]; simp
   rw[e];have Hd:=OA hd;clear hd e;go_enter func218,ntmps218
   go_wp2_with fail
   refine(bM x y d _).mono ?_;rintro e w1 ⟨rfl,hb1⟩;rw[Hd.out];go_wp2;go_ret;exact⟨rfl,B0.tr hb1⟩
 . obtain⟨hcI,hcJ⟩:=dC hd;obtain⟨sx,sy,hsec⟩:∃sx sy,sec (x,y,d)=(sx,sy):=⟨_,_,rfl⟩;rw[hsec]at hcJ;simp only at hcI;have HcI:=OA hcI;have HcJ:=OA hcJ;have Hsec:=OA hsec;have Hd:=OA hd;clear hcI hcJ hsec hd;rcases hk:aZ rows with _|_
   . have e : mV rows (x, y, d) = 0 := by unfold mV; rw [hk]; rfl
     rw[e];have Hk:=OA hk;clear hk e;go_enter func218,ntmps218
     go_wp2_with fail
     refine(bM x y d _).mono ?_;rintro e w1 ⟨rfl,hb1⟩;rw[Hd.out];have B1:=B0.tr hb1;have bX1:=bX.bl hb1;have bD1:=bD.bl hb1;obtain⟨gX,hgX⟩:=Oy w.heap.size;obtain⟨gD,hgD⟩:=Oy (w.heap.size+1);rw[<-hgD]at bD1⊢;rw[<-hgX]at bX1⊢;clear hgX hgD;obtain⟨d_0,d_1,d_2⟩:=bD1.n3;go_wp2_with fail
     refine(iU x y d _ Hd.out).mono ?_;rintro e w2 ⟨rfl,hb2⟩;rw[Hsec.out];go_upto_region 4 with(fail)
     have B3:=((B1.tr hb2).al (.cells #[.int .i64 x,.int .i64 y] 70)).al (.cells #[.int .i64 sx,.int .i64 sy] 70);have bX3:=((bX1.bl hb2).alloc (.cells #[.int .i64 x,.int .i64 y] 70)).alloc (.cells #[.int .i64 sx,.int .i64 sy] 70);have bA3:=(Blk.bK w2 70 #[.int .i64 x,.int .i64 y]).alloc (.cells #[.int .i64 sx,.int .i64 sy] 70);have bB3:=Blk.iV (w2.alloc (.cells #[.int .i64 x,.int .i64 y] 70)) 70 #[.int .i64 sx,.int .i64 sy] (w2.heap.size+1) (by simp);obtain⟨W3,hW3⟩:=Oy ((w2.alloc (.cells #[.int .i64 x,.int .i64 y] 70)).alloc (.cells #[.int .i64 sx,.int .i64 sy] 70));obtain⟨gB,hgB⟩:=Oy (w2.heap.size+1);obtain⟨gA,hgA⟩:=Oy w2.heap.size;rw[<-hW3]at B3 bX3 bA3 bB3⊢;rw[<-hgB]at bB3⊢;rw[<-hgA]at bA3⊢;clear hW3 hgB hgA d_0 d_1 d_2;have z_0:=bX3.c1;obtain⟨a_0,a_1⟩:=bA3.n2;obtain⟨b_0,b_1⟩:=bB3.n2;go_wp2_with fail
     refine(yX _ rows x y _ (h.Oz B3) HcI.out Hk.out).mono ?_;rintro e w4 ⟨rfl,hb4⟩;go_wp2;go_ret;exact⟨rfl,B3.tr hb4⟩
   . have Hok:Hid (dJ rows):=OA (aN.1 hk);have hs:=dX Hok.out;obtain⟨s,hse⟩:=Oy (setOf rows);have Hse:Hid (s=setOf rows):=OA hse;obtain⟨hI64,hJ64⟩:=Gj Hd.out;have hIe:dM (x,y,d)=(cO (x,y)).toNat:=rfl;have hJe:fU (x,y,d)=(cO (sx,sy)).toNat:=by unfold fU;rw[Hsec.out]
     have hw2:=tF (d:=(x,y,d)) (yM hse hs) Hd.out
     have hfit:eT s (x,y,d)=(s.testBit (dM (x,y,d))&&s.testBit (fU (x,y,d))):=by
      unfold eT;rw[Hd.out,xL (yM hse hs) Hd.out,Bool.true_and]
     obtain⟨I,hI⟩:=Oy (dM (x,y,d));obtain⟨J,hJ⟩:=Oy (fU (x,y,d));rw[<-hI]at hIe hfit hw2 hI64;rw[<-hJ]at hJe hfit hw2 hJ64;have HIe:=OA hIe;have HJe:=OA hJe
     have hcw:mV rows (x,y,d)=if(s.testBit I&&s.testBit J)=true then gU (dN s (aK (x,y,d)))else 0:=by
      unfold mV;rw[hk,<-hse,hfit,Bool.true_and]
     rw[hcw];have Hw2:=OA hw2;clear hw2 hfit hcw hk hIe hJe hI hJ;rcases e1:s.testBit I with _|_
     . rw [Bool.false_and, if_neg (by simp)];have He1:=OA e1;clear e1;go_enter func218,ntmps218
       go_wp2_with fail
       refine(bM x y d _).mono ?_;rintro e w1 ⟨rfl,hb1⟩;rw[Hd.out];have B1:=B0.tr hb1;have bX1:=bX.bl hb1;have bD1:=bD.bl hb1;obtain⟨gX,hgX⟩:=Oy w.heap.size;obtain⟨gD,hgD⟩:=Oy (w.heap.size+1);rw[<-hgD]at bD1⊢;rw[<-hgX]at bX1⊢;clear hgX hgD;obtain⟨d_0,d_1,d_2⟩:=bD1.n3;go_wp2_with fail
       refine(iU x y d _ Hd.out).mono ?_;rintro e w2 ⟨rfl,hb2⟩;rw[Hsec.out];go_upto_region 4 with(fail)
       have B3:=((B1.tr hb2).al (.cells #[.int .i64 x,.int .i64 y] 70)).al (.cells #[.int .i64 sx,.int .i64 sy] 70);have bX3:=((bX1.bl hb2).alloc (.cells #[.int .i64 x,.int .i64 y] 70)).alloc (.cells #[.int .i64 sx,.int .i64 sy] 70);have bA3:=(Blk.bK w2 70 #[.int .i64 x,.int .i64 y]).alloc (.cells #[.int .i64 sx,.int .i64 sy] 70);have bB3:=Blk.iV (w2.alloc (.cells #[.int .i64 x,.int .i64 y] 70)) 70 #[.int .i64 sx,.int .i64 sy] (w2.heap.size+1) (by simp);obtain⟨W3,hW3⟩:=Oy ((w2.alloc (.cells #[.int .i64 x,.int .i64 y] 70)).alloc (.cells #[.int .i64 sx,.int .i64 sy] 70));obtain⟨gB,hgB⟩:=Oy (w2.heap.size+1);obtain⟨gA,hgA⟩:=Oy w2.heap.size;rw[<-hW3]at B3 bX3 bA3 bB3⊢;rw[<-hgB]at bB3⊢;rw[<-hgA]at bA3⊢;clear hW3 hgB hgA d_0 d_1 d_2;have z_0:=bX3.c1;obtain⟨a_0,a_1⟩:=bA3.n2;obtain⟨b_0,b_1⟩:=bB3.n2;go_wp2_with fail
       refine(gK _ rows x y s I _ (h.Oz B3) HcI.out Hok Hse HIe.out).mono ?_;rintro e w4 ⟨rfl,hb4⟩;rw[He1.out];go_wp2;go_ret;exact⟨rfl,B3.tr hb4⟩
     . rcases e2:s.testBit J with _|_
       . rw [Bool.and_false, if_neg (by simp)];have He1:=OA e1;have He2:=OA e2;clear e1 e2;go_enter func218,ntmps218
         go_wp2_with fail
         refine(bM x y d _).mono ?_;rintro e w1 ⟨rfl,hb1⟩;rw[Hd.out];have B1:=B0.tr hb1;have bX1:=bX.bl hb1;have bD1:=bD.bl hb1;obtain⟨gX,hgX⟩:=Oy w.heap.size;obtain⟨gD,hgD⟩:=Oy (w.heap.size+1);rw[<-hgD]at bD1⊢;rw[<-hgX]at bX1⊢;clear hgX hgD;obtain⟨d_0,d_1,d_2⟩:=bD1.n3;go_wp2_with fail
         refine(iU x y d _ Hd.out).mono ?_;rintro e w2 ⟨rfl,hb2⟩;rw[Hsec.out];go_upto_region 4 with(fail)
         have B3:=((B1.tr hb2).al (.cells #[.int .i64 x,.int .i64 y] 70)).al (.cells #[.int .i64 sx,.int .i64 sy] 70);have bX3:=((bX1.bl hb2).alloc (.cells #[.int .i64 x,.int .i64 y] 70)).alloc (.cells #[.int .i64 sx,.int .i64 sy] 70);have bA3:=(Blk.bK w2 70 #[.int .i64 x,.int .i64 y]).alloc (.cells #[.int .i64 sx,.int .i64 sy] 70);have bB3:=Blk.iV (w2.alloc (.cells #[.int .i64 x,.int .i64 y] 70)) 70 #[.int .i64 sx,.int .i64 sy] (w2.heap.size+1) (by simp);obtain⟨W3,hW3⟩:=Oy ((w2.alloc (.cells #[.int .i64 x,.int .i64 y] 70)).alloc (.cells #[.int .i64 sx,.int .i64 sy] 70));obtain⟨gB,hgB⟩:=Oy (w2.heap.size+1);obtain⟨gA,hgA⟩:=Oy w2.heap.size;rw[<-hW3]at B3 bX3 bA3 bB3⊢;rw[<-hgB]at bB3⊢;rw[<-hgA]at bA3⊢;clear hW3 hgB hgA d_0 d_1 d_2;have z_0:=bX3.c1;obtain⟨a_0,a_1⟩:=bA3.n2;obtain⟨b_0,b_1⟩:=bB3.n2;go_wp2_with fail
         refine(gK _ rows x y s I _ (h.Oz B3) HcI.out Hok Hse HIe.out).mono ?_;rintro e w4 ⟨rfl,hb4⟩;rw[He1.out];have B4:=B3.tr hb4;have bX4:=bX3.bl hb4;have bA4:=bA3.bl hb4;have bB4:=bB3.bl hb4;clear z_0 a_0 a_1 b_0 b_1;have z_0:=bX4.c1;obtain⟨a_0,a_1⟩:=bA4.n2;obtain⟨b_0,b_1⟩:=bB4.n2;go_wp2_with fail
         refine(gK _ rows sx sy s J _ (h.Oz B4) HcJ.out Hok Hse HJe.out).mono ?_;rintro e w5 ⟨rfl,hb5⟩;rw[He2.out];go_wp2;go_ret;exact⟨rfl,B4.tr hb5⟩
       . rw[Bool.true_and,if_pos rfl];have He1:=OA e1;have He2:=OA e2;clear e1 e2;obtain⟨R,hR⟩:=Oy (gU (dN s (aK (x,y,d))));obtain⟨N1,hN1⟩:=Oy (rowsOf (gZ s I) 8);obtain⟨N2,hN2⟩:=Oy (rowsOf (gZ (gZ s I) J) 8);have hs':s<U64:=yM hse hs;have hw1:kR rows (x,y) false=(N1,true):=(by rw[uY Hok.out HcI.out,hN1,<-hse,<-HIe.out]);have hN1ok:dJ N1:=by rw[hN1];exact kZ _ 8 (Nat.le_refl _)
         have hsN1:setOf N1=gZ s I:=by rw[hN1];exact kF (eQ hs')
         have hw2:kR N1 (sx,sy) false=(N2,true):=(by rw[uY hN1ok HcJ.out,hN2,hsN1,<-HJe.out]);have hN2ok:dJ N2:=by rw[hN2];exact kZ _ 8 (Nat.le_refl _)
         have hsN2:setOf N2=dN s (aK (x,y,d)):=by rw[hN2];exact(kF (show gZ (gZ s I) J<U64 from eQ (eQ hs'))).trans Hw2.out
         have C1 : ∀ (u : Value) (w : World), Rd 1 bH w u rows -> Calls prog 219 #[.agg #[u], .agg #[.int .i64 x, .int .i64 y], .bool false] w (nO N1 true w) := fun u w k1 => by
          have:=jM u rows x y false w k1 (by have:=Hok.out.1;unfold Small;omega);rw[hw1]at this;exact this
         have C2 : ∀ (u : Value) (w : World), Rd 1 bH w u N1 -> Calls prog 219 #[.agg #[u], .agg #[.int .i64 sx, .int .i64 sy], .bool false] w (nO N2 true w) := fun u w k1 => by
          have:=jM u N1 sx sy false w k1 (by have:=hN1ok.1;unfold Small;omega);rw[hw2]at this;exact this
         have C3 : ∀ (u : Value) (w : World), Rd 1 bH w u N2 -> Calls prog 182 #[.agg #[u]] w (Ret (.int .i64 R) w) := fun u w k1 => by
          have:=rM u N2 w k1 (OA hN2ok);rw[hsN2,<-hR]at this;exact this
         rw[<-hR];clear hR hN1 hN2 hw1 hw2 hsN1 hsN2 hN1ok hN2ok hse;go_enter func218,ntmps218
         go_wp2_with fail
         refine(bM x y d _).mono ?_;rintro e w1 ⟨rfl,hb1⟩;rw[Hd.out];have B1:=B0.tr hb1;have bX1:=bX.bl hb1;have bD1:=bD.bl hb1;obtain⟨gX,hgX⟩:=Oy w.heap.size;obtain⟨gD,hgD⟩:=Oy (w.heap.size+1);rw[<-hgD]at bD1⊢;rw[<-hgX]at bX1⊢;clear hgX hgD;obtain⟨d_0,d_1,d_2⟩:=bD1.n3;go_wp2_with fail
         refine(iU x y d _ Hd.out).mono ?_;rintro e w2 ⟨rfl,hb2⟩;rw[Hsec.out];go_upto_region 4 with(fail)
         have B3:=((B1.tr hb2).al (.cells #[.int .i64 x,.int .i64 y] 70)).al (.cells #[.int .i64 sx,.int .i64 sy] 70);have bX3:=((bX1.bl hb2).alloc (.cells #[.int .i64 x,.int .i64 y] 70)).alloc (.cells #[.int .i64 sx,.int .i64 sy] 70);have bA3:=(Blk.bK w2 70 #[.int .i64 x,.int .i64 y]).alloc (.cells #[.int .i64 sx,.int .i64 sy] 70);have bB3:=Blk.iV (w2.alloc (.cells #[.int .i64 x,.int .i64 y] 70)) 70 #[.int .i64 sx,.int .i64 sy] (w2.heap.size+1) (by simp);obtain⟨W3,hW3⟩:=Oy ((w2.alloc (.cells #[.int .i64 x,.int .i64 y] 70)).alloc (.cells #[.int .i64 sx,.int .i64 sy] 70));obtain⟨gB,hgB⟩:=Oy (w2.heap.size+1);obtain⟨gA,hgA⟩:=Oy w2.heap.size;rw[<-hW3]at B3 bX3 bA3 bB3⊢;rw[<-hgB]at bB3⊢;rw[<-hgA]at bA3⊢;clear hW3 hgB hgA d_0 d_1 d_2;have z_0:=bX3.c1;obtain⟨a_0,a_1⟩:=bA3.n2;obtain⟨b_0,b_1⟩:=bB3.n2;go_wp2_with fail
         refine(gK _ rows x y s I _ (h.Oz B3) HcI.out Hok Hse HIe.out).mono ?_;rintro e w4 ⟨rfl,hb4⟩;rw[He1.out];have B4:=B3.tr hb4;have bX4:=bX3.bl hb4;have bA4:=bA3.bl hb4;have bB4:=bB3.bl hb4;clear z_0 a_0 a_1 b_0 b_1;have z_0:=bX4.c1;obtain⟨a_0,a_1⟩:=bA4.n2;obtain⟨b_0,b_1⟩:=bB4.n2;go_wp2_with fail
         refine(gK _ rows sx sy s J _ (h.Oz B4) HcJ.out Hok Hse HJe.out).mono ?_;rintro e w5 ⟨rfl,hb5⟩;rw[He2.out];have B5:=B4.tr hb5;have bX5:=bX4.bl hb5;have bA5:=bA4.bl hb5;have bB5:=bB4.bl hb5;clear z_0 a_0 a_1 b_0 b_1;have z_0:=bX5.c1;obtain⟨a_0,a_1⟩:=bA5.n2;go_wp2_with fail
         refine(C1 _ _ (h.Oz B5)).mono ?_;rintro e w6 ⟨D,d1,rfl,own6,hb6⟩;have B6:=(B5.tr hb6).al (.cells #[.slice D N1.length d1] 26);have bB6:=(bB5.bl hb6).alloc (.cells #[.slice D N1.length d1] 26);have bY6:=Blk.bK w6 26 #[.slice D N1.length d1];have own7:=(own6.alloc (.cells #[.slice D N1.length d1] 26)).rd aL (by decide);have hBl:=(bB5.bl hb6).lt;have hBn:gB≠w6.heap.size:=(by omega);clear z_0 a_0 a_1;have y_0:=bY6.c1;obtain⟨b_0,b_1⟩:=bB6.n2;go_wp2_with fail
         refine(C2 _ _ own7).mono ?_;rintro e w8 ⟨E,e1,rfl,own8,hb8⟩;go_wp2_with fail
         refine(C3 _ _ ((own8.alloc (.cells #[.slice E N2.length e1] 26)).rd aL (by decide))).mono ?_;rintro e w9 ⟨rfl,hb9⟩;go_wp2;go_ret;exact⟨rfl,((B6.tr hb8).al _).tr hb9⟩
end Go.Proofs.YtljfoohaapckeaaGreatDoor
