/- The reference's counts with a domino, its forced dominoes: the walks. Conditions: sizes. -/
import Derived.Test.YtljfoohaapckeaaGreatDoorZK11
import Derived.Test.YtljfoohaapckeaaGreatDoorZK9
import Derived.Test.YtljfoohaapckeaaGreatDoorZK5
import Derived.Test.YtljfoohaapckeaaGreatDoorZK3
import Derived.Test.YtljfoohaapckeaaGreatDoorZG6
open _root_.Go.Proofs.Tryz (prog func217 ntmps217 func218 ntmps218)
namespace Go.Proofs.YtljfoohaapckeaaGreatDoor
open Go.ChangeShapes Go.WideShapes Go.ChangeAt Go.RowKit
set_option linter.unusedVariables false
set_option linter.unusedSimpArgs false
set_option maxHeartbeats 4000000
set_option maxRecDepth 100000
theorem vC (v:Value) (rows:List Int) (w:World) (h:Rd 1 bG w v rows):Calls prog 217 #[.agg #[v]] w (Ret (.int .i64 (aY rows)) w):=by
 obtain⟨A,c,rfl,hc,hm⟩:=h.form;have hA:=(Below.refl w.heap.size w).al (.cells #[.slice A rows.length c] 26);have bX:=Blk.aZ w 26 #[.slice A rows.length c];rcases hk:bV rows with _|_
 . have e : aY rows = 0 := by unfold aY; rw [hk]; rfl
   rw[e];have Hk:=Sb hk;clear hk e;go_enter func217,ntmps217
   go_wp2_with fail
   refine(dV _ rows _ (h.Sa hA)).mono ?_;rintro e w1 ⟨rfl,hb1⟩;rw[Hk.out];go_wp2;go_ret;exact⟨rfl,hA.tr hb1⟩
 . have e : aY rows = fE (setOf rows) := by unfold aY; rw [if_pos hk]
   rw[e];have Hok:Hid (dU rows):=Sb (aN.1 hk);have Hk:=Sb hk;clear hk e;obtain⟨R,hR⟩:=R9 (fE (setOf rows));have C:∀(u:Value) (w:World),Rd 1 bG w u rows->Calls prog 182 #[.agg #[u]] w (Ret (.int .i64 R) w):=fun u w k1=>by rw[hR];exact tT u rows w k1 Hok
   rw[<-hR];clear hR;go_enter func217,ntmps217
   go_wp2_with fail
   refine(dV _ rows _ (h.Sa hA)).mono ?_;rintro e w1 ⟨rfl,hb1⟩;rw[Hk.out];have z1:=(bX.bl hb1).c1;go_wp2_with fail
   refine(C _ _ ((h.Sa hA).Sa hb1)).mono ?_;rintro e w2 ⟨rfl,hb2⟩;go_wp2;go_ret;exact⟨rfl,(hA.tr hb1).tr hb2⟩
theorem AL {s:Nat} {rows:List Int} (h:s=setOf rows) (hs:setOf rows<U64):s<U64:=h▸hs
theorem wK {rows:List Int} {c:Cl} (Hok:dU rows) (hc:bQ c=true):lQ rows c false=(rowsOf (iI (setOf rows) (dI c).toNat) 8,true):=by
 unfold lQ;rw[aN.2 Hok,hc];rfl
theorem Gn (v:Value) (rows:List Int) (x y:Int) (d:Bool) (w:World) (h:Rd 1 bG w v rows):Calls prog 218 #[.agg #[v],.agg #[.int .i64 x,.int .i64 y,.bool d]] w (Ret (.int .i64 (nY rows (x,y,d))) w):=by
 obtain⟨A,c,rfl,hc,hm⟩:=h.form;have B0:=((Below.refl w.heap.size w).al (.cells #[.slice A rows.length c] 26)).al (.cells #[.int .i64 x,.int .i64 y,.bool d] 60);have bX:=(Blk.aZ w 26 #[.slice A rows.length c]).alloc (.cells #[.int .i64 x,.int .i64 y,.bool d] 60);have bD:=Blk.gI (w.alloc (.cells #[.slice A rows.length c] 26)) 60 #[.int .i64 x,.int .i64 y,.bool d] (w.heap.size+1) (by simp);rcases hd:aJ (x,y,d)with _|_
 . have e : nY rows (x, y, d) = 0 := by unfold nY eT; rw [hd]; simp
   rw[e];have Hd:=Sb hd;clear hd e;go_enter func218,ntmps218
   go_wp2_with fail
   refine(dA x y d _).mono ?_;rintro e w1 ⟨rfl,hb1⟩;rw[Hd.out];go_wp2;go_ret;exact⟨rfl,B0.tr hb1⟩
 . obtain⟨hcI,hcJ⟩:=dK hd;obtain⟨sx,sy,hsec⟩:∃sx sy,sec (x,y,d)=(sx,sy):=⟨_,_,rfl⟩;rw[hsec]at hcJ;simp only at hcI;have HcI:=Sb hcI;have HcJ:=Sb hcJ;have Hsec:=Sb hsec;have Hd:=Sb hd;clear hcI hcJ hsec hd;rcases hk:bV rows with _|_
   . have e : nY rows (x, y, d) = 0 := by unfold nY; rw [hk]; rfl
     rw[e];have Hk:=Sb hk;clear hk e;go_enter func218,ntmps218
     go_wp2_with fail
     refine(dA x y d _).mono ?_;rintro e w1 ⟨rfl,hb1⟩;rw[Hd.out];have B1:=B0.tr hb1;have bX1:=bX.bl hb1;have bD1:=bD.bl hb1;obtain⟨gX,hgX⟩:=R9 w.heap.size;obtain⟨gD,hgD⟩:=R9 (w.heap.size+1);rw[<-hgD]at bD1⊢;rw[<-hgX]at bX1⊢;clear hgX hgD;obtain⟨d_0,d_1,d_2⟩:=bD1.n3;go_wp2_with fail
     refine(jH x y d _ Hd.out).mono ?_;rintro e w2 ⟨rfl,hb2⟩;rw[Hsec.out];go_upto_region 4 with(fail)
     have B3:=((B1.tr hb2).al (.cells #[.int .i64 x,.int .i64 y] 70)).al (.cells #[.int .i64 sx,.int .i64 sy] 70);have bX3:=((bX1.bl hb2).alloc (.cells #[.int .i64 x,.int .i64 y] 70)).alloc (.cells #[.int .i64 sx,.int .i64 sy] 70);have bA3:=(Blk.aZ w2 70 #[.int .i64 x,.int .i64 y]).alloc (.cells #[.int .i64 sx,.int .i64 sy] 70);have bB3:=Blk.gI (w2.alloc (.cells #[.int .i64 x,.int .i64 y] 70)) 70 #[.int .i64 sx,.int .i64 sy] (w2.heap.size+1) (by simp);obtain⟨W3,hW3⟩:=R9 ((w2.alloc (.cells #[.int .i64 x,.int .i64 y] 70)).alloc (.cells #[.int .i64 sx,.int .i64 sy] 70));obtain⟨gB,hgB⟩:=R9 (w2.heap.size+1);obtain⟨gA,hgA⟩:=R9 w2.heap.size;rw[<-hW3]at B3 bX3 bA3 bB3⊢;rw[<-hgB]at bB3⊢;rw[<-hgA]at bA3⊢;clear hW3 hgB hgA d_0 d_1 d_2;have z_0:=bX3.c1;obtain⟨a_0,a_1⟩:=bA3.n2;obtain⟨b_0,b_1⟩:=bB3.n2;go_wp2_with fail
     refine(Bb _ rows x y _ (h.Sa B3) HcI.out Hk.out).mono ?_;rintro e w4 ⟨rfl,hb4⟩;go_wp2;go_ret;exact⟨rfl,B3.tr hb4⟩
   . have Hok:Hid (dU rows):=Sb (aN.1 hk);have hs:=eB Hok.out;obtain⟨s,hse⟩:=R9 (setOf rows);have Hse:Hid (s=setOf rows):=Sb hse;obtain⟨hI64,hJ64⟩:=Jb Hd.out;have hIe:eY (x,y,d)=(dI (x,y)).toNat:=rfl;have hJe:iZ (x,y,d)=(dI (sx,sy)).toNat:=by unfold iZ;rw[Hsec.out]
     have hw2:=uZ (d:=(x,y,d)) (AL hse hs) Hd.out
     have hfit:eT s (x,y,d)=(s.testBit (eY (x,y,d))&&s.testBit (iZ (x,y,d))):=by
      unfold eT;rw[Hd.out,wG (AL hse hs) Hd.out,Bool.true_and]
     obtain⟨I,hI⟩:=R9 (eY (x,y,d));obtain⟨J,hJ⟩:=R9 (iZ (x,y,d));rw[<-hI]at hIe hfit hw2 hI64;rw[<-hJ]at hJe hfit hw2 hJ64;have HIe:=Sb hIe;have HJe:=Sb hJe
     have hcw:nY rows (x,y,d)=if(s.testBit I&&s.testBit J)=true then fE (dC s (aH (x,y,d)))else 0:=by
      unfold nY;rw[hk,<-hse,hfit,Bool.true_and]
     rw[hcw];have Hw2:=Sb hw2;clear hw2 hfit hcw hk hIe hJe hI hJ;rcases e1:s.testBit I with _|_
     . rw [Bool.false_and, if_neg (by simp)];have He1:=Sb e1;clear e1;go_enter func218,ntmps218
       go_wp2_with fail
       refine(dA x y d _).mono ?_;rintro e w1 ⟨rfl,hb1⟩;rw[Hd.out];have B1:=B0.tr hb1;have bX1:=bX.bl hb1;have bD1:=bD.bl hb1;obtain⟨gX,hgX⟩:=R9 w.heap.size;obtain⟨gD,hgD⟩:=R9 (w.heap.size+1);rw[<-hgD]at bD1⊢;rw[<-hgX]at bX1⊢;clear hgX hgD;obtain⟨d_0,d_1,d_2⟩:=bD1.n3;go_wp2_with fail
       refine(jH x y d _ Hd.out).mono ?_;rintro e w2 ⟨rfl,hb2⟩;rw[Hsec.out];go_upto_region 4 with(fail)
       have B3:=((B1.tr hb2).al (.cells #[.int .i64 x,.int .i64 y] 70)).al (.cells #[.int .i64 sx,.int .i64 sy] 70);have bX3:=((bX1.bl hb2).alloc (.cells #[.int .i64 x,.int .i64 y] 70)).alloc (.cells #[.int .i64 sx,.int .i64 sy] 70);have bA3:=(Blk.aZ w2 70 #[.int .i64 x,.int .i64 y]).alloc (.cells #[.int .i64 sx,.int .i64 sy] 70);have bB3:=Blk.gI (w2.alloc (.cells #[.int .i64 x,.int .i64 y] 70)) 70 #[.int .i64 sx,.int .i64 sy] (w2.heap.size+1) (by simp);obtain⟨W3,hW3⟩:=R9 ((w2.alloc (.cells #[.int .i64 x,.int .i64 y] 70)).alloc (.cells #[.int .i64 sx,.int .i64 sy] 70));obtain⟨gB,hgB⟩:=R9 (w2.heap.size+1);obtain⟨gA,hgA⟩:=R9 w2.heap.size;rw[<-hW3]at B3 bX3 bA3 bB3⊢;rw[<-hgB]at bB3⊢;rw[<-hgA]at bA3⊢;clear hW3 hgB hgA d_0 d_1 d_2;have z_0:=bX3.c1;obtain⟨a_0,a_1⟩:=bA3.n2;obtain⟨b_0,b_1⟩:=bB3.n2;go_wp2_with fail
       refine(iG _ rows x y s I _ (h.Sa B3) HcI.out Hok Hse HIe.out).mono ?_;rintro e w4 ⟨rfl,hb4⟩;rw[He1.out];go_wp2;go_ret;exact⟨rfl,B3.tr hb4⟩
     . rcases e2:s.testBit J with _|_
       . rw [Bool.and_false, if_neg (by simp)];have He1:=Sb e1;have He2:=Sb e2;clear e1 e2;go_enter func218,ntmps218
         go_wp2_with fail
         refine(dA x y d _).mono ?_;rintro e w1 ⟨rfl,hb1⟩;rw[Hd.out];have B1:=B0.tr hb1;have bX1:=bX.bl hb1;have bD1:=bD.bl hb1;obtain⟨gX,hgX⟩:=R9 w.heap.size;obtain⟨gD,hgD⟩:=R9 (w.heap.size+1);rw[<-hgD]at bD1⊢;rw[<-hgX]at bX1⊢;clear hgX hgD;obtain⟨d_0,d_1,d_2⟩:=bD1.n3;go_wp2_with fail
         refine(jH x y d _ Hd.out).mono ?_;rintro e w2 ⟨rfl,hb2⟩;rw[Hsec.out];go_upto_region 4 with(fail)
         have B3:=((B1.tr hb2).al (.cells #[.int .i64 x,.int .i64 y] 70)).al (.cells #[.int .i64 sx,.int .i64 sy] 70);have bX3:=((bX1.bl hb2).alloc (.cells #[.int .i64 x,.int .i64 y] 70)).alloc (.cells #[.int .i64 sx,.int .i64 sy] 70);have bA3:=(Blk.aZ w2 70 #[.int .i64 x,.int .i64 y]).alloc (.cells #[.int .i64 sx,.int .i64 sy] 70);have bB3:=Blk.gI (w2.alloc (.cells #[.int .i64 x,.int .i64 y] 70)) 70 #[.int .i64 sx,.int .i64 sy] (w2.heap.size+1) (by simp);obtain⟨W3,hW3⟩:=R9 ((w2.alloc (.cells #[.int .i64 x,.int .i64 y] 70)).alloc (.cells #[.int .i64 sx,.int .i64 sy] 70));obtain⟨gB,hgB⟩:=R9 (w2.heap.size+1);obtain⟨gA,hgA⟩:=R9 w2.heap.size;rw[<-hW3]at B3 bX3 bA3 bB3⊢;rw[<-hgB]at bB3⊢;rw[<-hgA]at bA3⊢;clear hW3 hgB hgA d_0 d_1 d_2;have z_0:=bX3.c1;obtain⟨a_0,a_1⟩:=bA3.n2;obtain⟨b_0,b_1⟩:=bB3.n2;go_wp2_with fail
         refine(iG _ rows x y s I _ (h.Sa B3) HcI.out Hok Hse HIe.out).mono ?_;rintro e w4 ⟨rfl,hb4⟩;rw[He1.out];have B4:=B3.tr hb4;have bX4:=bX3.bl hb4;have bA4:=bA3.bl hb4;have bB4:=bB3.bl hb4;clear z_0 a_0 a_1 b_0 b_1;have z_0:=bX4.c1;obtain⟨a_0,a_1⟩:=bA4.n2;obtain⟨b_0,b_1⟩:=bB4.n2;go_wp2_with fail
         refine(iG _ rows sx sy s J _ (h.Sa B4) HcJ.out Hok Hse HJe.out).mono ?_;rintro e w5 ⟨rfl,hb5⟩;rw[He2.out];go_wp2;go_ret;exact⟨rfl,B4.tr hb5⟩
       . rw[Bool.true_and,if_pos rfl];have He1:=Sb e1;have He2:=Sb e2;clear e1 e2;obtain⟨R,hR⟩:=R9 (fE (dC s (aH (x,y,d))));obtain⟨N1,hN1⟩:=R9 (rowsOf (iI s I) 8);obtain⟨N2,hN2⟩:=R9 (rowsOf (iI (iI s I) J) 8);have hs':s<U64:=AL hse hs;have hw1:lQ rows (x,y) false=(N1,true):=(by rw[wK Hok.out HcI.out,hN1,<-hse,<-HIe.out]);have hN1ok:dU N1:=by rw[hN1];exact lZ _ 8 (Nat.le_refl _)
         have hsN1:setOf N1=iI s I:=by rw[hN1];exact kY (dZ hs')
         have hw2:lQ N1 (sx,sy) false=(N2,true):=(by rw[wK hN1ok HcJ.out,hN2,hsN1,<-HJe.out]);have hN2ok:dU N2:=by rw[hN2];exact lZ _ 8 (Nat.le_refl _)
         have hsN2:setOf N2=dC s (aH (x,y,d)):=by rw[hN2];exact(kY (show iI (iI s I) J<U64 from dZ (dZ hs'))).trans Hw2.out
         have C1 : ∀ (u : Value) (w : World), Rd 1 bG w u rows -> Calls prog 219 #[.agg #[u], .agg #[.int .i64 x, .int .i64 y], .bool false] w (pR N1 true w) := fun u w k1 => by
          have:=jX u rows x y false w k1 (by have:=Hok.out.1;unfold Small;omega);rw[hw1]at this;exact this
         have C2 : ∀ (u : Value) (w : World), Rd 1 bG w u N1 -> Calls prog 219 #[.agg #[u], .agg #[.int .i64 sx, .int .i64 sy], .bool false] w (pR N2 true w) := fun u w k1 => by
          have:=jX u N1 sx sy false w k1 (by have:=hN1ok.1;unfold Small;omega);rw[hw2]at this;exact this
         have C3 : ∀ (u : Value) (w : World), Rd 1 bG w u N2 -> Calls prog 182 #[.agg #[u]] w (Ret (.int .i64 R) w) := fun u w k1 => by
          have:=tT u N2 w k1 (Sb hN2ok);rw[hsN2,<-hR]at this;exact this
         rw[<-hR];clear hR hN1 hN2 hw1 hw2 hsN1 hsN2 hN1ok hN2ok hse;go_enter func218,ntmps218
         go_wp2_with fail
         refine(dA x y d _).mono ?_;rintro e w1 ⟨rfl,hb1⟩;rw[Hd.out];have B1:=B0.tr hb1;have bX1:=bX.bl hb1;have bD1:=bD.bl hb1;obtain⟨gX,hgX⟩:=R9 w.heap.size;obtain⟨gD,hgD⟩:=R9 (w.heap.size+1);rw[<-hgD]at bD1⊢;rw[<-hgX]at bX1⊢;clear hgX hgD;obtain⟨d_0,d_1,d_2⟩:=bD1.n3;go_wp2_with fail
         refine(jH x y d _ Hd.out).mono ?_;rintro e w2 ⟨rfl,hb2⟩;rw[Hsec.out];go_upto_region 4 with(fail)
         have B3:=((B1.tr hb2).al (.cells #[.int .i64 x,.int .i64 y] 70)).al (.cells #[.int .i64 sx,.int .i64 sy] 70);have bX3:=((bX1.bl hb2).alloc (.cells #[.int .i64 x,.int .i64 y] 70)).alloc (.cells #[.int .i64 sx,.int .i64 sy] 70);have bA3:=(Blk.aZ w2 70 #[.int .i64 x,.int .i64 y]).alloc (.cells #[.int .i64 sx,.int .i64 sy] 70);have bB3:=Blk.gI (w2.alloc (.cells #[.int .i64 x,.int .i64 y] 70)) 70 #[.int .i64 sx,.int .i64 sy] (w2.heap.size+1) (by simp);obtain⟨W3,hW3⟩:=R9 ((w2.alloc (.cells #[.int .i64 x,.int .i64 y] 70)).alloc (.cells #[.int .i64 sx,.int .i64 sy] 70));obtain⟨gB,hgB⟩:=R9 (w2.heap.size+1);obtain⟨gA,hgA⟩:=R9 w2.heap.size;rw[<-hW3]at B3 bX3 bA3 bB3⊢;rw[<-hgB]at bB3⊢;rw[<-hgA]at bA3⊢;clear hW3 hgB hgA d_0 d_1 d_2;have z_0:=bX3.c1;obtain⟨a_0,a_1⟩:=bA3.n2;obtain⟨b_0,b_1⟩:=bB3.n2;go_wp2_with fail
         refine(iG _ rows x y s I _ (h.Sa B3) HcI.out Hok Hse HIe.out).mono ?_;rintro e w4 ⟨rfl,hb4⟩;rw[He1.out];have B4:=B3.tr hb4;have bX4:=bX3.bl hb4;have bA4:=bA3.bl hb4;have bB4:=bB3.bl hb4;clear z_0 a_0 a_1 b_0 b_1;have z_0:=bX4.c1;obtain⟨a_0,a_1⟩:=bA4.n2;obtain⟨b_0,b_1⟩:=bB4.n2;go_wp2_with fail
         refine(iG _ rows sx sy s J _ (h.Sa B4) HcJ.out Hok Hse HJe.out).mono ?_;rintro e w5 ⟨rfl,hb5⟩;rw[He2.out];have B5:=B4.tr hb5;have bX5:=bX4.bl hb5;have bA5:=bA4.bl hb5;have bB5:=bB4.bl hb5;clear z_0 a_0 a_1 b_0 b_1;have z_0:=bX5.c1;obtain⟨a_0,a_1⟩:=bA5.n2;go_wp2_with fail
         refine(C1 _ _ (h.Sa B5)).mono ?_;rintro e w6 ⟨D,d1,rfl,own6,hb6⟩;have B6:=(B5.tr hb6).al (.cells #[.slice D N1.length d1] 26);have bB6:=(bB5.bl hb6).alloc (.cells #[.slice D N1.length d1] 26);have bY6:=Blk.aZ w6 26 #[.slice D N1.length d1];have own7:=(own6.alloc (.cells #[.slice D N1.length d1] 26)).rd aI (by decide);have hBl:=(bB5.bl hb6).lt;have hBn:gB≠w6.heap.size:=(by omega);clear z_0 a_0 a_1;have y_0:=bY6.c1;obtain⟨b_0,b_1⟩:=bB6.n2;go_wp2_with fail
         refine(C2 _ _ own7).mono ?_;rintro e w8 ⟨E,e1,rfl,own8,hb8⟩;go_wp2_with fail
         refine(C3 _ _ ((own8.alloc (.cells #[.slice E N2.length e1] 26)).rd aI (by decide))).mono ?_;rintro e w9 ⟨rfl,hb9⟩;go_wp2;go_ret;exact⟨rfl,((B6.tr hb8).al _).tr hb9⟩
end Go.Proofs.YtljfoohaapckeaaGreatDoor
