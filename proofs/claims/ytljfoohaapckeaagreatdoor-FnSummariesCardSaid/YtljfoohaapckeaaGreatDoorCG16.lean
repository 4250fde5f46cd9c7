/- The reference's counts with a domino, its forced dominoes: the walks. Conditions: sizes. Appends in drawn regions; the cells that a head leaves, by the reference. No conditions but sizes. -/
import Derived.Test.YtljfoohaapckeaaGreatDoorCK11
import Derived.Test.YtljfoohaapckeaaGreatDoorCK9
import Derived.Test.YtljfoohaapckeaaGreatDoorCK5
import Derived.Test.YtljfoohaapckeaaGreatDoorCK3
import Derived.Test.YtljfoohaapckeaaGreatDoorCG6
import Derived.Test.YtljfoohaapckeaaGreatDoorCListSt
import Derived.Test.YtljfoohaapckeaaGreatDoorCK4
open _root_.Go.Proofs.Tryz (prog func217 ntmps217 func218 ntmps218)
namespace Go.Proofs.YtljfoohaapckeaaGreatDoor
open Go.ChangeShapes Go.WideShapes Go.ChangeAt Go.RowKit
set_option linter.unusedVariables false
set_option linter.unusedSimpArgs false
set_option maxHeartbeats 4000000
set_option maxRecDepth 100000
theorem vS (v:Value) (rows:List Int) (w:World) (h:Rd 1 bV w v rows):Calls prog 217 #[.agg #[v]] w (Ret (.int .i64 (aU rows)) w):=by
 obtain⟨A,c,rfl,hc,hm⟩:=h.form;have hA:=(Below.refl w.heap.size w).al (.cells #[.slice A rows.length c] 26);have bX:=Blk.aY w 26 #[.slice A rows.length c];rcases hk:aZ rows with _|_
 . have e : aU rows = 0 := by unfold aU; rw [hk]; rfl
   rw[e];have Hk:=SQ hk;clear hk e;go_enter func217,ntmps217
   go_wp2_with fail
   refine(dS _ rows _ (h.SN hA)).mono ?_;rintro e w1 ⟨rfl,hb1⟩;rw[Hk.out];go_wp2;go_ret;exact⟨rfl,hA.tr hb1⟩
 . have e : aU rows = fF (setOf rows) := by unfold aU; rw [if_pos hk]
   rw[e];have Hok:Hid (dK rows):=SQ (aO.1 hk);have Hk:=SQ hk;clear hk e;obtain⟨R,hR⟩:=SL (fF (setOf rows));have C:∀(u:Value) (w:World),Rd 1 bV w u rows->Calls prog 182 #[.agg #[u]] w (Ret (.int .i64 R) w):=fun u w k1=>by rw[hR];exact uK u rows w k1 Hok
   rw[<-hR];clear hR;go_enter func217,ntmps217
   go_wp2_with fail
   refine(dS _ rows _ (h.SN hA)).mono ?_;rintro e w1 ⟨rfl,hb1⟩;rw[Hk.out];have z1:=(bX.bl hb1).c1;go_wp2_with fail
   refine(C _ _ ((h.SN hA).SN hb1)).mono ?_;rintro e w2 ⟨rfl,hb2⟩;go_wp2;go_ret;exact⟨rfl,(hA.tr hb1).tr hb2⟩
theorem Bj {s:Nat} {rows:List Int} (h:s=setOf rows) (hs:setOf rows<U64):s<U64:=h▸hs
theorem xJ {rows:List Int} {c:Cl} (Hok:dK rows) (hc:aX c=true):mH rows c false=(rowsOf (iK (setOf rows) (dF c).toNat) 8,true):=by
 unfold mH;rw[aO.2 Hok,hc];rfl
theorem Gz (v:Value) (rows:List Int) (x y:Int) (d:Bool) (w:World) (h:Rd 1 bV w v rows):Calls prog 218 #[.agg #[v],.agg #[.int .i64 x,.int .i64 y,.bool d]] w (Ret (.int .i64 (nZ rows (x,y,d))) w):=by
 obtain⟨A,c,rfl,hc,hm⟩:=h.form;have B0:=((Below.refl w.heap.size w).al (.cells #[.slice A rows.length c] 26)).al (.cells #[.int .i64 x,.int .i64 y,.bool d] 60);have bX:=(Blk.aY w 26 #[.slice A rows.length c]).alloc (.cells #[.int .i64 x,.int .i64 y,.bool d] 60);have bD:=Blk.iX (w.alloc (.cells #[.slice A rows.length c] 26)) 60 #[.int .i64 x,.int .i64 y,.bool d] (w.heap.size+1) (by simp);rcases hd:aJ (x,y,d)with _|_
 . have e : nZ rows (x, y, d) = 0 := by unfold nZ eQ; rw [hd]; simp
   rw[e];have Hd:=SQ hd;clear hd e;go_enter func218,ntmps218
   go_wp2_with fail
   refine(dA x y d _).mono ?_;rintro e w1 ⟨rfl,hb1⟩;rw[Hd.out];go_wp2;go_ret;exact⟨rfl,B0.tr hb1⟩
 . obtain⟨hcI,hcJ⟩:=dU hd;obtain⟨sx,sy,hsec⟩:∃sx sy,sec (x,y,d)=(sx,sy):=⟨_,_,rfl⟩;rw[hsec]at hcJ;simp only at hcI;have HcI:=SQ hcI;have HcJ:=SQ hcJ;have Hsec:=SQ hsec;have Hd:=SQ hd;clear hcI hcJ hsec hd;rcases hk:aZ rows with _|_
   . have e : nZ rows (x, y, d) = 0 := by unfold nZ; rw [hk]; rfl
     rw[e];have Hk:=SQ hk;clear hk e;go_enter func218,ntmps218
     go_wp2_with fail
     refine(dA x y d _).mono ?_;rintro e w1 ⟨rfl,hb1⟩;rw[Hd.out];have B1:=B0.tr hb1;have bX1:=bX.bl hb1;have bD1:=bD.bl hb1;obtain⟨gX,hgX⟩:=SL w.heap.size;obtain⟨gD,hgD⟩:=SL (w.heap.size+1);rw[<-hgD]at bD1⊢;rw[<-hgX]at bX1⊢;clear hgX hgD;obtain⟨d_0,d_1,d_2⟩:=bD1.n3;go_wp2_with fail
     refine(jM x y d _ Hd.out).mono ?_;rintro e w2 ⟨rfl,hb2⟩;rw[Hsec.out];go_upto_region 4 with(fail)
     have B3:=((B1.tr hb2).al (.cells #[.int .i64 x,.int .i64 y] 70)).al (.cells #[.int .i64 sx,.int .i64 sy] 70);have bX3:=((bX1.bl hb2).alloc (.cells #[.int .i64 x,.int .i64 y] 70)).alloc (.cells #[.int .i64 sx,.int .i64 sy] 70);have bA3:=(Blk.aY w2 70 #[.int .i64 x,.int .i64 y]).alloc (.cells #[.int .i64 sx,.int .i64 sy] 70);have bB3:=Blk.iX (w2.alloc (.cells #[.int .i64 x,.int .i64 y] 70)) 70 #[.int .i64 sx,.int .i64 sy] (w2.heap.size+1) (by simp);obtain⟨W3,hW3⟩:=SL ((w2.alloc (.cells #[.int .i64 x,.int .i64 y] 70)).alloc (.cells #[.int .i64 sx,.int .i64 sy] 70));obtain⟨gB,hgB⟩:=SL (w2.heap.size+1);obtain⟨gA,hgA⟩:=SL w2.heap.size;rw[<-hW3]at B3 bX3 bA3 bB3⊢;rw[<-hgB]at bB3⊢;rw[<-hgA]at bA3⊢;clear hW3 hgB hgA d_0 d_1 d_2;have z_0:=bX3.c1;obtain⟨a_0,a_1⟩:=bA3.n2;obtain⟨b_0,b_1⟩:=bB3.n2;go_wp2_with fail
     refine(BB _ rows x y _ (h.SN B3) HcI.out Hk.out).mono ?_;rintro e w4 ⟨rfl,hb4⟩;go_wp2;go_ret;exact⟨rfl,B3.tr hb4⟩
   . have Hok:Hid (dK rows):=SQ (aO.1 hk);have hs:=dM Hok.out;obtain⟨s,hse⟩:=SL (setOf rows);have Hse:Hid (s=setOf rows):=SQ hse;obtain⟨hI64,hJ64⟩:=Jt Hd.out;have hIe:eZ (x,y,d)=(dF (x,y)).toNat:=rfl;have hJe:iZ (x,y,d)=(dF (sx,sy)).toNat:=by unfold iZ;rw[Hsec.out]
     have hw2:=vR (d:=(x,y,d)) (Bj hse hs) Hd.out
     have hfit:eQ s (x,y,d)=(s.testBit (eZ (x,y,d))&&s.testBit (iZ (x,y,d))):=by
      unfold eQ;rw[Hd.out,xD (Bj hse hs) Hd.out,Bool.true_and]
     obtain⟨I,hI⟩:=SL (eZ (x,y,d));obtain⟨J,hJ⟩:=SL (iZ (x,y,d));rw[<-hI]at hIe hfit hw2 hI64;rw[<-hJ]at hJe hfit hw2 hJ64;have HIe:=SQ hIe;have HJe:=SQ hJe
     have hcw:nZ rows (x,y,d)=if(s.testBit I&&s.testBit J)=true then fF (dB s (aG (x,y,d)))else 0:=by
      unfold nZ;rw[hk,<-hse,hfit,Bool.true_and]
     rw[hcw];have Hw2:=SQ hw2;clear hw2 hfit hcw hk hIe hJe hI hJ;rcases e1:s.testBit I with _|_
     . rw [Bool.false_and, if_neg (by simp)];have He1:=SQ e1;clear e1;go_enter func218,ntmps218
       go_wp2_with fail
       refine(dA x y d _).mono ?_;rintro e w1 ⟨rfl,hb1⟩;rw[Hd.out];have B1:=B0.tr hb1;have bX1:=bX.bl hb1;have bD1:=bD.bl hb1;obtain⟨gX,hgX⟩:=SL w.heap.size;obtain⟨gD,hgD⟩:=SL (w.heap.size+1);rw[<-hgD]at bD1⊢;rw[<-hgX]at bX1⊢;clear hgX hgD;obtain⟨d_0,d_1,d_2⟩:=bD1.n3;go_wp2_with fail
       refine(jM x y d _ Hd.out).mono ?_;rintro e w2 ⟨rfl,hb2⟩;rw[Hsec.out];go_upto_region 4 with(fail)
       have B3:=((B1.tr hb2).al (.cells #[.int .i64 x,.int .i64 y] 70)).al (.cells #[.int .i64 sx,.int .i64 sy] 70);have bX3:=((bX1.bl hb2).alloc (.cells #[.int .i64 x,.int .i64 y] 70)).alloc (.cells #[.int .i64 sx,.int .i64 sy] 70);have bA3:=(Blk.aY w2 70 #[.int .i64 x,.int .i64 y]).alloc (.cells #[.int .i64 sx,.int .i64 sy] 70);have bB3:=Blk.iX (w2.alloc (.cells #[.int .i64 x,.int .i64 y] 70)) 70 #[.int .i64 sx,.int .i64 sy] (w2.heap.size+1) (by simp);obtain⟨W3,hW3⟩:=SL ((w2.alloc (.cells #[.int .i64 x,.int .i64 y] 70)).alloc (.cells #[.int .i64 sx,.int .i64 sy] 70));obtain⟨gB,hgB⟩:=SL (w2.heap.size+1);obtain⟨gA,hgA⟩:=SL w2.heap.size;rw[<-hW3]at B3 bX3 bA3 bB3⊢;rw[<-hgB]at bB3⊢;rw[<-hgA]at bA3⊢;clear hW3 hgB hgA d_0 d_1 d_2;have z_0:=bX3.c1;obtain⟨a_0,a_1⟩:=bA3.n2;obtain⟨b_0,b_1⟩:=bB3.n2;go_wp2_with fail
       refine(iG _ rows x y s I _ (h.SN B3) HcI.out Hok Hse HIe.out).mono ?_;rintro e w4 ⟨rfl,hb4⟩;rw[He1.out];go_wp2;go_ret;exact⟨rfl,B3.tr hb4⟩
     . rcases e2:s.testBit J with _|_
       . rw [Bool.and_false, if_neg (by simp)];have He1:=SQ e1;have He2:=SQ e2;clear e1 e2;go_enter func218,ntmps218
         go_wp2_with fail
         refine(dA x y d _).mono ?_;rintro e w1 ⟨rfl,hb1⟩;rw[Hd.out];have B1:=B0.tr hb1;have bX1:=bX.bl hb1;have bD1:=bD.bl hb1;obtain⟨gX,hgX⟩:=SL w.heap.size;obtain⟨gD,hgD⟩:=SL (w.heap.size+1);rw[<-hgD]at bD1⊢;rw[<-hgX]at bX1⊢;clear hgX hgD;obtain⟨d_0,d_1,d_2⟩:=bD1.n3;go_wp2_with fail
         refine(jM x y d _ Hd.out).mono ?_;rintro e w2 ⟨rfl,hb2⟩;rw[Hsec.out];go_upto_region 4 with(fail)
         have B3:=((B1.tr hb2).al (.cells #[.int .i64 x,.int .i64 y] 70)).al (.cells #[.int .i64 sx,.int .i64 sy] 70);have bX3:=((bX1.bl hb2).alloc (.cells #[.int .i64 x,.int .i64 y] 70)).alloc (.cells #[.int .i64 sx,.int .i64 sy] 70);have bA3:=(Blk.aY w2 70 #[.int .i64 x,.int .i64 y]).alloc (.cells #[.int .i64 sx,.int .i64 sy] 70);have bB3:=Blk.iX (w2.alloc (.cells #[.int .i64 x,.int .i64 y] 70)) 70 #[.int .i64 sx,.int .i64 sy] (w2.heap.size+1) (by simp);obtain⟨W3,hW3⟩:=SL ((w2.alloc (.cells #[.int .i64 x,.int .i64 y] 70)).alloc (.cells #[.int .i64 sx,.int .i64 sy] 70));obtain⟨gB,hgB⟩:=SL (w2.heap.size+1);obtain⟨gA,hgA⟩:=SL w2.heap.size;rw[<-hW3]at B3 bX3 bA3 bB3⊢;rw[<-hgB]at bB3⊢;rw[<-hgA]at bA3⊢;clear hW3 hgB hgA d_0 d_1 d_2;have z_0:=bX3.c1;obtain⟨a_0,a_1⟩:=bA3.n2;obtain⟨b_0,b_1⟩:=bB3.n2;go_wp2_with fail
         refine(iG _ rows x y s I _ (h.SN B3) HcI.out Hok Hse HIe.out).mono ?_;rintro e w4 ⟨rfl,hb4⟩;rw[He1.out];have B4:=B3.tr hb4;have bX4:=bX3.bl hb4;have bA4:=bA3.bl hb4;have bB4:=bB3.bl hb4;clear z_0 a_0 a_1 b_0 b_1;have z_0:=bX4.c1;obtain⟨a_0,a_1⟩:=bA4.n2;obtain⟨b_0,b_1⟩:=bB4.n2;go_wp2_with fail
         refine(iG _ rows sx sy s J _ (h.SN B4) HcJ.out Hok Hse HJe.out).mono ?_;rintro e w5 ⟨rfl,hb5⟩;rw[He2.out];go_wp2;go_ret;exact⟨rfl,B4.tr hb5⟩
       . rw[Bool.true_and,if_pos rfl];have He1:=SQ e1;have He2:=SQ e2;clear e1 e2;obtain⟨R,hR⟩:=SL (fF (dB s (aG (x,y,d))));obtain⟨N1,hN1⟩:=SL (rowsOf (iK s I) 8);obtain⟨N2,hN2⟩:=SL (rowsOf (iK (iK s I) J) 8);have hs':s<U64:=Bj hse hs;have hw1:mH rows (x,y) false=(N1,true):=(by rw[xJ Hok.out HcI.out,hN1,<-hse,<-HIe.out]);have hN1ok:dK N1:=by rw[hN1];exact mM _ 8 (Nat.le_refl _)
         have hsN1:setOf N1=iK s I:=by rw[hN1];exact lN (eB hs')
         have hw2:mH N1 (sx,sy) false=(N2,true):=(by rw[xJ hN1ok HcJ.out,hN2,hsN1,<-HJe.out]);have hN2ok:dK N2:=by rw[hN2];exact mM _ 8 (Nat.le_refl _)
         have hsN2:setOf N2=dB s (aG (x,y,d)):=by rw[hN2];exact(lN (show iK (iK s I) J<U64 from eB (eB hs'))).trans Hw2.out
         have C1 : ∀ (u : Value) (w : World), Rd 1 bV w u rows -> Calls prog 219 #[.agg #[u], .agg #[.int .i64 x, .int .i64 y], .bool false] w (qB N1 true w) := fun u w k1 => by
          have:=kI u rows x y false w k1 (by have:=Hok.out.1;unfold Small;omega);rw[hw1]at this;exact this
         have C2 : ∀ (u : Value) (w : World), Rd 1 bV w u N1 -> Calls prog 219 #[.agg #[u], .agg #[.int .i64 sx, .int .i64 sy], .bool false] w (qB N2 true w) := fun u w k1 => by
          have:=kI u N1 sx sy false w k1 (by have:=hN1ok.1;unfold Small;omega);rw[hw2]at this;exact this
         have C3 : ∀ (u : Value) (w : World), Rd 1 bV w u N2 -> Calls prog 182 #[.agg #[u]] w (Ret (.int .i64 R) w) := fun u w k1 => by
          have:=uK u N2 w k1 (SQ hN2ok);rw[hsN2,<-hR]at this;exact this
         rw[<-hR];clear hR hN1 hN2 hw1 hw2 hsN1 hsN2 hN1ok hN2ok hse;go_enter func218,ntmps218
         go_wp2_with fail
         refine(dA x y d _).mono ?_;rintro e w1 ⟨rfl,hb1⟩;rw[Hd.out];have B1:=B0.tr hb1;have bX1:=bX.bl hb1;have bD1:=bD.bl hb1;obtain⟨gX,hgX⟩:=SL w.heap.size;obtain⟨gD,hgD⟩:=SL (w.heap.size+1);rw[<-hgD]at bD1⊢;rw[<-hgX]at bX1⊢;clear hgX hgD;obtain⟨d_0,d_1,d_2⟩:=bD1.n3;go_wp2_with fail
         refine(jM x y d _ Hd.out).mono ?_;rintro e w2 ⟨rfl,hb2⟩;rw[Hsec.out];go_upto_region 4 with(fail)
         have B3:=((B1.tr hb2).al (.cells #[.int .i64 x,.int .i64 y] 70)).al (.cells #[.int .i64 sx,.int .i64 sy] 70);have bX3:=((bX1.bl hb2).alloc (.cells #[.int .i64 x,.int .i64 y] 70)).alloc (.cells #[.int .i64 sx,.int .i64 sy] 70);have bA3:=(Blk.aY w2 70 #[.int .i64 x,.int .i64 y]).alloc (.cells #[.int .i64 sx,.int .i64 sy] 70);have bB3:=Blk.iX (w2.alloc (.cells #[.int .i64 x,.int .i64 y] 70)) 70 #[.int .i64 sx,.int .i64 sy] (w2.heap.size+1) (by simp);obtain⟨W3,hW3⟩:=SL ((w2.alloc (.cells #[.int .i64 x,.int .i64 y] 70)).alloc (.cells #[.int .i64 sx,.int .i64 sy] 70));obtain⟨gB,hgB⟩:=SL (w2.heap.size+1);obtain⟨gA,hgA⟩:=SL w2.heap.size;rw[<-hW3]at B3 bX3 bA3 bB3⊢;rw[<-hgB]at bB3⊢;rw[<-hgA]at bA3⊢;clear hW3 hgB hgA d_0 d_1 d_2;have z_0:=bX3.c1;obtain⟨a_0,a_1⟩:=bA3.n2;obtain⟨b_0,b_1⟩:=bB3.n2;go_wp2_with fail
         refine(iG _ rows x y s I _ (h.SN B3) HcI.out Hok Hse HIe.out).mono ?_;rintro e w4 ⟨rfl,hb4⟩;rw[He1.out];have B4:=B3.tr hb4;have bX4:=bX3.bl hb4;have bA4:=bA3.bl hb4;have bB4:=bB3.bl hb4;clear z_0 a_0 a_1 b_0 b_1;have z_0:=bX4.c1;obtain⟨a_0,a_1⟩:=bA4.n2;obtain⟨b_0,b_1⟩:=bB4.n2;go_wp2_with fail
         refine(iG _ rows sx sy s J _ (h.SN B4) HcJ.out Hok Hse HJe.out).mono ?_;rintro e w5 ⟨rfl,hb5⟩;rw[He2.out];have B5:=B4.tr hb5;have bX5:=bX4.bl hb5;have bA5:=bA4.bl hb5;have bB5:=bB4.bl hb5;clear z_0 a_0 a_1 b_0 b_1;have z_0:=bX5.c1;obtain⟨a_0,a_1⟩:=bA5.n2;go_wp2_with fail
         refine(C1 _ _ (h.SN B5)).mono ?_;rintro e w6 ⟨D,d1,rfl,own6,hb6⟩;have B6:=(B5.tr hb6).al (.cells #[.slice D N1.length d1] 26);have bB6:=(bB5.bl hb6).alloc (.cells #[.slice D N1.length d1] 26);have bY6:=Blk.aY w6 26 #[.slice D N1.length d1];have own7:=(own6.alloc (.cells #[.slice D N1.length d1] 26)).rd aN (by decide);have hBl:=(bB5.bl hb6).lt;have hBn:gB≠w6.heap.size:=(by omega);clear z_0 a_0 a_1;have y_0:=bY6.c1;obtain⟨b_0,b_1⟩:=bB6.n2;go_wp2_with fail
         refine(C2 _ _ own7).mono ?_;rintro e w8 ⟨E,e1,rfl,own8,hb8⟩;go_wp2_with fail
         refine(C3 _ _ ((own8.alloc (.cells #[.slice E N2.length e1] 26)).rd aN (by decide))).mono ?_;rintro e w9 ⟨rfl,hb9⟩;go_wp2;go_ret;exact⟨rfl,((B6.tr hb8).al _).tr hb9⟩
section
variable {P : Program} {ops : Array Oper} {o : Oper} {a : Act} {w : World} {K : Act -> World -> Prop} {Q : Exit -> Act -> World -> Prop} {E' : Prop} {t E : TypeId} {z : Value} {size bytes : Nat} {α : Type} {enc : α -> List Value} {B : Nat} {v : Value} {l : List α}
theorem kF (R:Row P t E z size bytes) (henc:∀x,(enc x).length=size) (hB:B<=w.heap.size) (hown:aC E size enc B w v l) (y:α) (h1:∀u∈enc y,u.oneCell'=true) {g:Nat} (hb:Blk w g E (enc y).toArray)
    (hlen:(l.length+1)*bytes<=140737488355328) (hlen2:l.length+1<=maxLen) (hgd:o.guard=none)
    (s x:Operand) (ho:o.op= .call {callee:= .builtin .append,args:= #[s,x],argTypes:= #[t,t]})
    (hs:a.eval s=v) (hx:a.eval x= .slice (some ⟨g,0,none⟩) 1 1)
    (h:∀A c w',aC E size enc B w' (.slice A (l.length+1) c) (l++[y])->w.grownBy w' v.ownBlock->K (a.put o.dst (.slice A (l.length+1) c)) w'):
    if Region.wanted o (yielded ops a.tmps)=true then Oper.wp P o a w K Q else E':=by
 have hw:Region.wanted o (yielded ops a.tmps)=true:=(by simp[Region.wanted,hgd]);rw[if_pos hw];obtain⟨ht,hinfo,hzs,hsz⟩:=R;obtain⟨i0,hi,hz0,hz1,hz2⟩:=info_parts hinfo
 obtain⟨v',w',hrun,h2,h3,_,h5⟩:=run_append_own_at (P:=P) w B t o.type E i0 z size bytes ht hi hz0 hz1 hz2 hzs hsz v l.length (l.flatMap enc) hown
   ⟨g, 0, none⟩ 1 1 (enc y) (by rw [henc]; omega) (fun j u hj => by
    have:=hb.cell j;rw[List.getElem?_toArray,hj]at this
    have e:(Addr.mk g 0 none).add j=⟨g,j,none⟩:=by
     unfold Addr.add;split
     . simp_all
     . simp
    rw[e];exact this) h1 hlen2 hlen hB
 unfold Oper.wp execOp;simp only[ho,resolve,invoke,builtin,Sem.run_bind,Sem.run_pure,Result.andThen_ok,List.map_toArray,List.map_cons,List.map_nil,hs,hx,hrun]
 have hO:aC E size enc B w' v' (l++[y]):=by
  unfold aC;rw[List.length_append,List.flatMap_append,List.length_singleton];simpa using h2
 obtain⟨A,c,e,_⟩:=hO.form;rw[List.length_append,List.length_singleton]at e;subst e;exact h A c w' hO h3
theorem pO (R:Row P t E z 1 bytes) {us us2:List Value} (hB:B<=w.heap.size) (hown:aC E 1 eV B w v us) {A:Option Addr} {c:Nat} (hm:Rd 1 (RE eV) w (.slice A us2.length c) us2) (h1:∀u∈us2,u.oneCell'=true)
    (hlen:(us.length+us2.length)*bytes<=140737488355328) (hlen2:us.length+us2.length<=maxLen) (hgd:o.guard=none)
    (s x:Operand) (ho:o.op= .call {callee:= .builtin .append,args:= #[s,x],argTypes:= #[t,t]})
    (hs:a.eval s=v) (hx:a.eval x= .slice A us2.length c)
    (h:∀A' c' w',aC E 1 eV B w' (.slice A' (us.length+us2.length) c') (us++us2)->w.grownBy w' v.ownBlock->K (a.put o.dst (.slice A' (us.length+us2.length) c')) w'):
    if Region.wanted o (yielded ops a.tmps)=true then Oper.wp P o a w K Q else E':=by
 have hw:Region.wanted o (yielded ops a.tmps)=true:=(by simp[Region.wanted,hgd]);rw[if_pos hw];obtain⟨ht,hinfo,hzs,hsz⟩:=R;obtain⟨i0,hi,hz0,hz1,hz2⟩:=info_parts hinfo
 have key:∃v' w',(Builtin.append_ #[t,t] o.type #[v,.slice A us2.length c]).run P w= .ok v' w'/\aC E 1 eV B w' v' (us++us2)/\w.grownBy w' v.ownBlock:=by
  by_cases hA:A=none
  . subst hA
    have hm0:us2=[]:=by
     obtain⟨A',c',e,_,_,h3⟩:=hm;injection e with e1 e2 e3;rcases Nat.eq_zero_or_pos us2.length with h0|h0
     . exact List.eq_nil_of_length_eq_zero h0
     . obtain⟨b,off,e4,_⟩:=h3 h0;rw[e4]at e1;cases e1
    subst hm0;refine⟨v,w,?_,by simpa using hown,World.grownBy.refl _ _⟩;rcases hown.2 with⟨rfl,hn⟩|⟨g,cap,cur,rfl,_,_,hnc,_⟩
    . simp[Builtin.append_,run_underlying ht,sizeOf,typeInfo,hi,Builtin.lenOf,Builtin.firstCells]
    . simp[Builtin.append_,run_underlying ht,sizeOf,typeInfo,hi,Builtin.lenOf,Builtin.firstCells,hnc,storeCells]
  . obtain ⟨ad, rfl⟩ : ∃ ad, A = some ad := by cases A with
     |none=>exact absurd rfl hA
     |some ad=>exact⟨ad,rfl⟩
    have hcells:∀j u,(us2.flatMap eV)[j]? =some u->w.cell? (ad.add j)=some u:=by
     intro j u hj;obtain⟨i,x,r,k1,k2,k3⟩:=EB BH us2 j u hj;have hi':i<us2.length:=(List.getElem?_eq_some_iff.1 k1).1;obtain⟨b,off,e,_,hc⟩:=hm.at_ hi';injection e with e;subst e;have hx:us2[i]=x:=by rw[List.getElem?_eq_getElem hi']at k1;injection k1
     have:=hc r u (by rw[hx];exact k2)
     have e:(Addr.mk b off none).add j=⟨b,off+i*1+r,none⟩:=by
      unfold Addr.add;split
      . simp_all
      . simp[k3,Nat.add_assoc]
     rw[e];exact this
    obtain⟨v',w',hrun,h2,h3,_,h5⟩:=run_append_own_at (P:=P) w B t o.type E i0 z 1 bytes ht hi hz0 hz1 hz2 hzs hsz v us.length (us.flatMap eV) hown
      ad us2.length c (us2.flatMap eV) (fV BH us2) hcells (fun u hu => by
       obtain⟨x,hx,hxu⟩:=List.mem_flatMap.1 hu;rw[show u=x by simpa[eV]using hxu];exact h1 x hx) hlen2 hlen hB
    refine⟨v',w',hrun,?_,h3⟩;unfold aC;rw[List.length_append,List.flatMap_append];exact h2
 obtain⟨v',w',hrun,hO,hb⟩:=key;unfold Oper.wp execOp;simp only[ho,resolve,invoke,builtin,Sem.run_bind,Sem.run_pure,Result.andThen_ok,List.map_toArray,List.map_cons,List.map_nil,hs,hx,hrun];obtain⟨A',c',e,_⟩:=hO.form;rw[List.length_append]at e;subst e;exact h A' c' w' hO hb
end
theorem Ir {n:Nat} {W cur:World} (hb:Below n W cur) (T:TypeId) (cs:Array Value):∃w' g,w'=cur.alloc (.cells cs T)/\g=cur.heap.size/\Blk w' g T cs/\Below cur.heap.size cur w':=
 ⟨_,_,rfl,rfl,Blk.aY cur T cs,(Below.refl _ _).al _⟩
theorem M6 (v u:Value) (rows:List Int) (l:List Dm) (w:World) (h:Rd 1 bV w v rows) (h2:Rd 3 bG w u l):Calls prog 238 #[.agg #[v],u] w (jV 70 2 dH (QB rows l) w):=by
 obtain⟨A,c,rfl,hc,hm⟩:=h.form;obtain⟨A2,c2,rfl,hc2,hm2⟩:=h2.form;have hA:=((Below.refl w.heap.size w).al (.cells #[.slice A rows.length c] 26)).al (.cells #[] 70);have bX:=(Blk.aY w 26 #[.slice A rows.length c]).alloc (.cells #[] 70);have ho:=iA (w.alloc (.cells #[.slice A rows.length c] 26)) (E:=70) (size:=2) (enc:=dH) (w.heap.size+1) (by simp) w.heap.size (by simp);have hle:=Bu rows;obtain⟨cs,hcs⟩:=SL (eT rows);have hun:QB rows l=cs.filter fun c=>decide (pE l c<0):=by rw[hcs];rfl
 rw[<-hcs]at hle;obtain⟨R,hR⟩:=SL (QB rows l);rw[<-hR]at hun⊢;have Hcs:=SQ hcs;have Hun:=SQ hun;clear hcs hun hR;go_enter Tryz.func238,Tryz.ntmps238
 go_wp2_with fail
 refine(tY _ rows _ (h.SN hA)).mono ?_;rintro e w1 ⟨A6,c6,rfl,own6,hb1⟩;rw[<-Hcs.out]at own6⊢;have B1:=hA.tr hb1;have own5:=ho.below hb1;have own6':=own6.mono hA.size
 have hne:(Value.slice A6 cs.length c6).ownBlock≠(Value.slice (some ⟨w.heap.size+1,0,none⟩) 0 0).ownBlock:=by
  intro e;have:=World.ownsRow.lt own6 (w.heap.size+1) (by rw[e];rfl);simp at this;omega
 clear ho own6 bX hA hb1;go_wp2;go_loopw [5,7] (fun s5 s7 wr=>∃(k:Nat) (out:List Cl) (A5:Option Addr) (c5:Nat),k<=cs.length/\out.length<=k/\s7= .int .i64 k/\s5= .slice A5 out.length c5/\Hid (out++(cs.drop k).filter (fun c=>decide (pE l c<0))=R)/\aC 70 2 dH w.heap.size wr (.slice A5 out.length c5) out/\aC 70 2 dH w.heap.size wr (.slice A6 cs.length c6) cs/\Hid ((Value.slice A6 cs.length c6).ownBlock≠(Value.slice A5 out.length c5).ownBlock)/\Below w.heap.size w wr) (fun _ i _=>cs.length-(intOf i).toNat)
 case atStart=>exact⟨0,[],_,_,Nat.zero_le _,Nat.le_refl _,rfl,rfl,SQ Hun.out.symm,own5,own6',SQ hne,B1⟩
 case round=>
  obtain⟨k,out,A5,c5,hk,hol,rfl,rfl,Hg,hown,hcl,Hne,hbel⟩:=hrel;clear own5 own6' hne B1;by_cases hlt:k<cs.length
  . have hltI : (k : Int) < (cs.length : Int) := by omega
    obtain⟨b,off,rfl,hb,q1,q2⟩:=(hcl.rd dY (by decide)).fE hlt;have hg:=Hg.out;rw[List.drop_eq_getElem_cons hlt,List.filter_cons]at hg;obtain⟨d,hd⟩:=SL (cs[k]);rw[<-hd]at q1 q2 hg;obtain⟨x,y⟩:=d;simp only at q1 q2;obtain⟨D,hD⟩:=SL (pE l (x,y));rw[<-hD]at hg;have HD:=SQ hD;have Hd:=SQ hd;clear hD hd;have H8:Hid ((out.length+1)*16<=140737488355328):=SQ (by omega);have HM:Hid (out.length+1<=maxLen):=SQ (by unfold maxLen;omega);go_wp2_with fail
    refine(yD _ l x y _ (h2.SN hbel)).mono ?_;rintro e w2 ⟨rfl,hb2⟩;rw[<-HD.out];have own2:=hown.below hb2;have cl2:=hcl.below hb2;have B2:=hbel.tr hb2;by_cases hneg:D<0
    . rw [if_pos (by simpa using hneg), <- List.singleton_append, <- List.append_assoc] at hg;have Hg2:=SQ hg;clear hg;obtain⟨b9,off9,e9,r0,r1,r2⟩:=(cl2.rd dY (by decide)).fE hlt;injection e9 with e9;injection e9 with e91 e92 _;subst e91;subst e92;rw[<-Hd.out]at r1 r2;simp only at r1 r2;go_wp2_with (at_builtin;go_must (refine aH (enc:=dH) iY dY oneCell B2 own2 ((x,y):Cl) H8.out HM.out rfl _ _ rfl rfl rfl ?_);intro v4 w4 own4 hb4 hg4 hd4;obtain⟨A4,c4,rfl,hc4,hm4⟩:=own4.form)
      have ha:aC 70 2 dH w.heap.size w4 (.slice (some ⟨b,off,none⟩) cs.length c6) cs/\(Value.slice (some ⟨b,off,none⟩) cs.length c6).ownBlock≠(Value.slice A4 (out++[((x,y):Cl)]).length c4).ownBlock:=by
       refine⟨World.ownsRow.kept (cl2.alloc _) hg4 (.inr Hne.out),?_⟩;rcases hd4 with e|e
       . rw[e];exact Hne.out
       . rw[e];intro q;have:=World.ownsRow.lt cl2 _ q;omega
      go_roundw
      case rel=>exact⟨k+1,out++[(x,y)],A4,c4,by omega,by simp;omega,by go_num,by simp,Hg2,own4,ha.1,SQ ha.2,hb4⟩
      case measure=>simp[intOf];omega
    . rw [if_neg (by simpa using hneg)] at hg;have Hg2:=SQ hg;clear hg;go_wp2;go_roundw
      case rel=>exact⟨k+1,out,A5,c5,by omega,by omega,by go_num,rfl,Hg2,own2,cl2,Hne,B2⟩
      case measure=>simp[intOf];omega
  . obtain rfl : k = cs.length := by omega
    have hg:=Hg.out;rw[List.drop_of_length_le (Nat.le_refl _),List.filter_nil,List.append_nil]at hg;subst hg;go_wp2;go_ret;exact⟨A5,c5,rfl,hown,hbel⟩
end Go.Proofs.YtljfoohaapckeaaGreatDoor
