import Derived.Test.YtjijonhkofhikaaGreatDoorFK6
open _root_.List renaming length_take->Tm
open _root_.Go.Value renaming oneCell'->Tn
open _root_.Go.Proofs.Tryz renaming zeroValue30->Tp,results56->Tq
set_option linter.unusedVariables false
set_option linter.unusedSimpArgs false
set_option maxHeartbeats 4000000
set_option maxRecDepth 100000
namespace Go.Proofs.YtjijonhkofhikaaGreatDoor
open Go.ChangeShapes Go.WideShapes Go.ChangeAt Go.RowKit
section
variable {α β : Type} {E E2 : TypeId} {size s2 : Nat} {enc : α -> List Value} {e2 : β -> List Value} {B B2 : Nat} {w w' w2 : World} {v v2 : Value} {l : List α} {l2 : List β}
theorem aD.takeA {A:Option Addr} {n c j:Nat} (h:aD E size enc B w (.slice A n c) l) (a6:∀x,(enc x).length=size) (hj:j<=n):aD E size enc B w (.slice A j c) (l.take j):=by
 unfold aD at h⊢;obtain⟨hl,h⟩:=h
 have hn:l.length=n:=by
  rcases h with⟨e,h0⟩|⟨g,cap,cur,e,_⟩<;>injection e with e1 e2 e3<;>omega
 have a7:(l.take j).length=j:=by rw[Tm];omega
 rw[a7];have hf:(l.take j).flatMap enc=(l.flatMap enc).take (j*size):=(Bh a6 l j).symm;refine⟨by rw[iB a6,a7],?_⟩;rcases h with⟨e,h0⟩|⟨g,cap,cur,e,hb,hh,hc,hm,hs,hx⟩
 . injection e with e1 e2 e3;left;obtain rfl:j=0:=by omega
   subst e1;subst e3;exact⟨rfl,rfl⟩
 . injection e with e1 e2 e3;subst e1;subst e3;right;refine⟨g,c,cur,rfl,hb,hh,by omega,hm,hs,?_⟩;rw[hf,<-hx,List.take_take,Nat.min_eq_left (Nat.mul_le_mul_right _ (by omega))]
end
theorem Pb (v1 v2 v3 v4:Value) (x:Fl) (w:World) (h1:Rd 1 aZ w v1 x.1) (h2:Rd 3 aQ w v2 x.2.1) (h3:Rd 3 aQ w v3 x.2.2.1) (h4:Rd 2 bT w v4 x.2.2.2) (hs:bQ x) (hno:kV x=false∨(kV x=true/\x.2.2.2.length=0)):
 Calls Tryz.prog 56 #[.agg #[v1,v2,v3,v4]] w (kW x false w):=by
 have bY:=hs;obtain⟨rows,f,n,cs⟩:=x;simp only at h1 h2 h3 h4;obtain⟨s1,s2,s3,s4⟩:=hs;simp only at s1 s2 s3 s4;obtain⟨A1,c1,rfl,hc1,cP⟩:=h1.form;obtain⟨A2,c2,rfl,hc2,cQ⟩:=h2.form;obtain⟨A3,c3,rfl,hc3,cR⟩:=h3.form;obtain⟨A4,c4,rfl,cS,cT⟩:=h4.form;have B0:=((Below.refl w.heap.size w).al (.cells #[.slice A1 rows.length c1,.slice A2 f.length c2,.slice A3 n.length c3,.slice A4 cs.length c4] 30)).al (.cells #[.slice none 0 0,.slice none 0 0,.slice none 0 0,.slice none 0 0] 30);have bP:=(Blk.aX w 30 #[.slice A1 rows.length c1,.slice A2 f.length c2,.slice A3 n.length c3,.slice A4 cs.length c4]).alloc (.cells #[.slice none 0 0,.slice none 0 0,.slice none 0 0,.slice none 0 0] 30);have bR:=Blk.gI (w.alloc (.cells #[.slice A1 rows.length c1,.slice A2 f.length c2,.slice A3 n.length c3,.slice A4 cs.length c4] 30)) 30 #[.slice none 0 0,.slice none 0 0,.slice none 0 0,.slice none 0 0] (w.heap.size+1) (by simp);go_enter Tryz.func56,Tryz.ntmps56
 go_wp2_with fail
 obtain⟨W0,hW0⟩:=Ti ((w.alloc (.cells #[.slice A1 rows.length c1,.slice A2 f.length c2,.slice A3 n.length c3,.slice A4 cs.length c4] 30)).alloc (.cells #[.slice none 0 0,.slice none 0 0,.slice none 0 0,.slice none 0 0] 30));obtain⟨gP,b5⟩:=Ti w.heap.size;obtain⟨gR,bA⟩:=Ti (w.heap.size+1);rw[<-hW0]at B0 bP bR⊢;rw[<-bA]at bR⊢;rw[<-b5]at bP⊢;have b6:w.heap.size<=gR:=(by omega);have cU:gP≠gR:=(by omega);have hw0:w.heap.size<=W0.heap.size:=B0.size;clear hW0 b5 bA;obtain⟨cG,cH,cI,cJ⟩:=bP.n4;have cV:=bP.lt;have cW:=bR.lt;have Bw:Below W0.heap.size W0 W0.drew:=(Below.refl _ _).drew;have hz:W0.heap.size<=W0.drew.heap.size:=(by simp);have bR:=bR.bl Bw;refine rB (fun w'=>w'.cell? ⟨gP,0,none⟩=some (.slice A1 rows.length c1)/\w'.cell? ⟨gP,1,none⟩=some (.slice A2 f.length c2)/\w'.cell? ⟨gP,2,none⟩=some (.slice A3 n.length c3)/\w'.cell? ⟨gP,3,none⟩=some (.slice A4 cs.length c4)) fun hHeld=>(tW 0)<|(tW 2)<|(tW 3)<|(tW 4)<|(tR [1,5])<|tC (fun K hK=>?_) ?_
 (go_simp;go_at_call 49;go_must (refine(kL _ _ _ _ (rows,f,n,cs) _ (h1.Tj (B0.tr Bw)) (h2.Tj (B0.tr Bw)) (h3.Tj (B0.tr Bw)) (h4.Tj (B0.tr Bw)) bY).mono ?_;rintro e wX ⟨C1,e1,C2,e2,C3,e3,C4,e4,rfl,oF,a6⟩;have oF:=oF.mono (show w.heap.size<=_ by omega);obtain⟨bD,bF,a8⟩:=bkn a6 W0.heap.size hz;have hz:=a8;have Bw:=Bw.tr a6;have bR:=bR.bl a6;(try have oF:=oF.below a6);(try have bO:=bO.bl a6)))
 refine tK hK fun hHeld=>?_
 clear hK K;refine(tR [5])<|tL fun K hK=>?_
 (refine kP rfl 30 _ rfl Tp ?_;intro gO wX bO a6 bJ bK cK;have bL:w.heap.size<=gO:=(by omega);have cL:gP≠gO:=(by omega);have cM:gR≠gO:=(by omega);obtain⟨bD,bF,a8⟩:=bkn a6 W0.heap.size hz;have hz:=a8;have Bw:=Bw.tr a6;have bR:=bR.bl a6;(try have oF:=oF.below a6);(try have bO:=bO.bl a6))
 refine tK hK fun hHeld=>?_
 clear hK K;refine(tR [6])<|tL fun K hK=>?_
 (refine aK rfl 30 _ _ rfl gO #[.slice C1 rows.length e1,.slice C2 f.length e2,.slice C3 n.length e3,.slice C4 cs.length e4] rfl rfl _ _ bO (by kernel_rfl) rfl (by simp[Tn]) ?_;intro wX b7 a7;have b8:aB w.heap.size wX _ _ _ _ (rows,f,n,cs):=aB.cO oF bO (by decide) (by decide) (by decide) a7;have BX:=(B0.tr Bw).grown a7 (B0.tr Bw).size (fun k hk=>by injection hk with hk;subst hk;exact bL);have bM:=(bP.bl Bw).grown a7 (by simp;omega);have b9:=bR.grown a7 (by simp;omega);obtain⟨cA,cB,cC,cD⟩:=bM.n4)
 refine tK hK fun hHeld=>?_
 clear hK K;refine(tW 7)<|tD ?_
 rotate_left 1
 refine tL fun K hK=>?_
 (refine kP rfl 30 _ rfl Tp ?_;intro gO wX bO a6 bJ bK cK;have bL:w.heap.size<=gO:=(by omega);have cL:gP≠gO:=(by omega);have cM:gR≠gO:=(by omega);obtain⟨bD,bF,a8⟩:=bkn a6 W0.heap.size hz;have hz:=a8;have Bw:=Bw.tr a6;have bR:=bR.bl a6;(try have oF:=oF.below a6);(try have bO:=bO.bl a6))
 refine tK hK fun hHeld=>?_
 clear hK K;refine(tR [1])<|tL fun K hK=>?_
 (go_simp;go_at_call 49;go_must (refine(kL _ _ _ _ (rows,f,n,cs) _ (h1.Tj (B0.tr Bw)) (h2.Tj (B0.tr Bw)) (h3.Tj (B0.tr Bw)) (h4.Tj (B0.tr Bw)) bY).mono ?_;rintro e wX ⟨C1,e1,C2,e2,C3,e3,C4,e4,rfl,oF,a6⟩;have oF:=oF.mono (show w.heap.size<=_ by omega);obtain⟨bD,bF,a8⟩:=bkn a6 W0.heap.size hz;have hz:=a8;have Bw:=Bw.tr a6;have bR:=bR.bl a6;(try have oF:=oF.below a6);(try have bO:=bO.bl a6)))
 refine tK hK fun hHeld=>?_
 clear hK K;refine(tR [6])<|tL fun K hK=>?_
 (refine aK rfl 30 _ _ rfl gO #[.slice C1 rows.length e1,.slice C2 f.length e2,.slice C3 n.length e3,.slice C4 cs.length e4] rfl rfl _ _ bO (by kernel_rfl) rfl (by simp[Tn]) ?_;intro wX b7 a7;have b8:aB w.heap.size wX _ _ _ _ (rows,f,n,cs):=aB.cO oF bO (by decide) (by decide) (by decide) a7;have BX:=(B0.tr Bw).grown a7 (B0.tr Bw).size (fun k hk=>by injection hk with hk;subst hk;exact bL);have bM:=(bP.bl Bw).grown a7 (by simp;omega);have b9:=bR.grown a7 (by simp;omega);obtain⟨cA,cB,cC,cD⟩:=bM.n4)
 refine tK hK fun hHeld=>?_
 clear hK K;refine(tW 7)<|tD ?_
 all_goals
   clear cG cH cI cJ;go_wp2_with fail
   refine(nK _ _ _ _ rows f n cs _ (h1.Tj BX) (h2.Tj BX) (h3.Tj BX) (h4.Tj BX) s2).mono ?_;rintro e w2 ⟨rfl,hb2⟩;have B2:=BX.tr hb2;have bC:=b9.bl hb2;have cN:=b7.bl hb2;have cE:=b8.below hb2;clear cA cB cC cD;obtain⟨cX,cY,dL,dT⟩:=cN.n4;rcases hno with hno|⟨hno,cF⟩
   . rw[show dG rows f n cs=false from hno];go_wp2_with (refine aA rfl 30 _ _ rfl gR #[.slice C1 rows.length e1,.slice C2 f.length e2,.slice C3 n.length e3,.slice C4 cs.length e4] rfl rfl _ _ bC (by kernel_rfl) rfl (by simp[Tn]) ?_;intro wE bE bB)
     have oE:aB w.heap.size wE _ _ _ _ _:=aB.cO cE bC (by decide) (by decide) (by decide) bB;have BE:=B2.grown bB B2.size (fun k hk=>by injection hk with hk;subst hk;exact b6);obtain⟨bN,bS,bU,bX⟩:=bE.n4;refine bodyPost_ret (v:= .tuple #[.agg #[.slice C1 rows.length e1,.slice C2 f.length e2,.slice C3 n.length e3,.slice C4 cs.length e4],.bool false]) (by simp[results,Tq,go_sem,bN,bS,bU,bX]) rfl ⟨C1,e1,C2,e2,C3,e3,C4,e4,rfl,oE,BE⟩
   . rw[show dG rows f n cs=true from hno];have hz0:((cs.length:Int)==0)=true:=by rw[show cs.length=0 from cF];rfl
     clear cF;go_wp2_with (refine aA rfl 30 _ _ rfl gR #[.slice C1 rows.length e1,.slice C2 f.length e2,.slice C3 n.length e3,.slice C4 cs.length e4] rfl rfl _ _ bC (by kernel_rfl) rfl (by simp[Tn]) ?_;intro wE bE bB)
     have oE:aB w.heap.size wE _ _ _ _ _:=aB.cO cE bC (by decide) (by decide) (by decide) bB;have BE:=B2.grown bB B2.size (fun k hk=>by injection hk with hk;subst hk;exact b6);obtain⟨bN,bS,bU,bX⟩:=bE.n4;refine bodyPost_ret (v:= .tuple #[.agg #[.slice C1 rows.length e1,.slice C2 f.length e2,.slice C3 n.length e3,.slice C4 cs.length e4],.bool false]) (by simp[results,Tq,go_sem,bN,bS,bU,bX]) rfl ⟨C1,e1,C2,e2,C3,e3,C4,e4,rfl,oE,BE⟩
theorem NI (v1 v2 v3 v4:Value) (x:Fl) (w:World) (h1:Rd 1 aZ w v1 x.1) (h2:Rd 3 aQ w v2 x.2.1) (h3:Rd 3 aQ w v3 x.2.2.1) (h4:Rd 2 bT w v4 x.2.2.2) (hs:bQ x) (cQ:kV x=true) (hn:x.2.2.2.length≠0):
 Calls Tryz.prog 56 #[.agg #[v1,v2,v3,v4]] w (kW (yA x (x.2.2.2.length-1)) true w):=by
 have cB:=hs;obtain⟨rows,f,n,cs⟩:=x;simp only at h1 h2 h3 h4;obtain⟨s1,s2,s3,s4⟩:=hs;simp only at s1 s2 s3 s4;obtain⟨A1,c1,rfl,hc1,e6⟩:=h1.form;obtain⟨A2,c2,rfl,hc2,e7⟩:=h2.form;obtain⟨A3,c3,rfl,hc3,e8⟩:=h3.form;obtain⟨A4,c4,rfl,e9,fD⟩:=h4.form;have B0:=((Below.refl w.heap.size w).al (.cells #[.slice A1 rows.length c1,.slice A2 f.length c2,.slice A3 n.length c3,.slice A4 cs.length c4] 30)).al (.cells #[.slice none 0 0,.slice none 0 0,.slice none 0 0,.slice none 0 0] 30);have bP:=(Blk.aX w 30 #[.slice A1 rows.length c1,.slice A2 f.length c2,.slice A3 n.length c3,.slice A4 cs.length c4]).alloc (.cells #[.slice none 0 0,.slice none 0 0,.slice none 0 0,.slice none 0 0] 30);have bR:=Blk.gI (w.alloc (.cells #[.slice A1 rows.length c1,.slice A2 f.length c2,.slice A3 n.length c3,.slice A4 cs.length c4] 30)) 30 #[.slice none 0 0,.slice none 0 0,.slice none 0 0,.slice none 0 0] (w.heap.size+1) (by simp);simp only at hn;obtain⟨t,ht⟩:=Ti (cs.take (cs.length-1));have fL:t.length+1=cs.length:=by rw[ht,Tm];omega
 obtain⟨m,hm⟩:=Ti ((dS f t).1);obtain⟨b,hb⟩:=Ti ((dS f t).2);have hy:yA (rows,f,n,cs) (cs.length-1)=(rows,f,m,t):=by rw[hm,ht];rfl
 rw[hy];have CF:∀(u v:Value) (w:World),Rd 3 aQ w u f->Rd 2 bT w v t->Calls Tryz.prog 92 #[u,v] w (fZ 99 3 aV m b w):=fun u v w k1 k2=>by rw[hm,hb];exact zQ u v f t w k1 k2 s2
 have cC:t=cs.take t.length:=by rw[ht,Tm];congr 1;omega
 have HT:=Tk cC;have hz0:((cs.length:Int)==0)=false:=by rw[beq_eq_false_iff_ne];omega
 clear hm hb hy ht cC;go_enter Tryz.func56,Tryz.ntmps56
 go_wp2_with fail
 obtain⟨W0,hW0⟩:=Ti ((w.alloc (.cells #[.slice A1 rows.length c1,.slice A2 f.length c2,.slice A3 n.length c3,.slice A4 cs.length c4] 30)).alloc (.cells #[.slice none 0 0,.slice none 0 0,.slice none 0 0,.slice none 0 0] 30));obtain⟨gP,cD⟩:=Ti w.heap.size;obtain⟨gR,bA⟩:=Ti (w.heap.size+1);rw[<-hW0]at B0 bP bR⊢;rw[<-bA]at bR⊢;rw[<-cD]at bP⊢;have cR:w.heap.size<=gR:=(by omega);have fN:gP≠gR:=(by omega);have hw0:w.heap.size<=W0.heap.size:=B0.size;clear hW0 cD bA;obtain⟨cS,cT,cU,cV⟩:=bP.n4;have fR:=bP.lt;have fS:=bR.lt;have Bw:Below W0.heap.size W0 W0.drew:=(Below.refl _ _).drew;have hz:W0.heap.size<=W0.drew.heap.size:=(by simp);have bR:=bR.bl Bw;refine rB (fun w'=>w'.cell? ⟨gP,0,none⟩=some (.slice A1 rows.length c1)/\w'.cell? ⟨gP,1,none⟩=some (.slice A2 f.length c2)/\w'.cell? ⟨gP,2,none⟩=some (.slice A3 n.length c3)/\w'.cell? ⟨gP,3,none⟩=some (.slice A4 cs.length c4)) fun hHeld=>(tW 0)<|(tW 2)<|(tW 3)<|(tW 4)<|(tR [1,5])<|tC (fun K hK=>?_) ?_
 (go_simp;go_at_call 49;go_must (refine(kL _ _ _ _ (rows,f,n,cs) _ (h1.Tj (B0.tr Bw)) (h2.Tj (B0.tr Bw)) (h3.Tj (B0.tr Bw)) (h4.Tj (B0.tr Bw)) cB).mono ?_;rintro e wX ⟨C1,e1,C2,e2,C3,e3,C4,e4,rfl,oF,a6⟩;have oF:=oF.mono (show w.heap.size<=_ by omega);obtain⟨bU,bX,a8⟩:=bkn a6 W0.heap.size hz;have hz:=a8;have Bw:=Bw.tr a6;have bR:=bR.bl a6;(try have oF:=oF.below a6);(try have bO:=bO.bl a6)))
 refine tK hK fun hHeld=>?_
 clear hK K;refine(tR [5])<|tL fun K hK=>?_
 (refine kP rfl 30 _ rfl Tp ?_;intro gO wX bO a6 bY b5 cW;have bB:w.heap.size<=gO:=(by omega);have cX:gP≠gO:=(by omega);have cY:gR≠gO:=(by omega);obtain⟨bU,bX,a8⟩:=bkn a6 W0.heap.size hz;have hz:=a8;have Bw:=Bw.tr a6;have bR:=bR.bl a6;(try have oF:=oF.below a6);(try have bO:=bO.bl a6))
 refine tK hK fun hHeld=>?_
 clear hK K;refine(tR [6])<|tL fun K hK=>?_
 (refine aK rfl 30 _ _ rfl gO #[.slice C1 rows.length e1,.slice C2 f.length e2,.slice C3 n.length e3,.slice C4 cs.length e4] rfl rfl _ _ bO (by kernel_rfl) rfl (by simp[Tn]) ?_;intro wX cE a7;have cF:aB w.heap.size wX _ _ _ _ (rows,f,n,cs):=aB.cO oF bO (by decide) (by decide) (by decide) a7;have BX:=(B0.tr Bw).grown a7 (B0.tr Bw).size (fun k hk=>by injection hk with hk;subst hk;exact bB);have bC:=(bP.bl Bw).grown a7 (by simp;omega);have cG:=bR.grown a7 (by simp;omega);obtain⟨bD,bF,bJ,bK⟩:=bC.n4)
 refine tK hK fun hHeld=>?_
 clear hK K;refine(tW 7)<|tD ?_
 rotate_left 1
 refine tL fun K hK=>?_
 (refine kP rfl 30 _ rfl Tp ?_;intro gO wX bO a6 bY b5 cW;have bB:w.heap.size<=gO:=(by omega);have cX:gP≠gO:=(by omega);have cY:gR≠gO:=(by omega);obtain⟨bU,bX,a8⟩:=bkn a6 W0.heap.size hz;have hz:=a8;have Bw:=Bw.tr a6;have bR:=bR.bl a6;(try have oF:=oF.below a6);(try have bO:=bO.bl a6))
 refine tK hK fun hHeld=>?_
 clear hK K;refine(tR [1])<|tL fun K hK=>?_
 (go_simp;go_at_call 49;go_must (refine(kL _ _ _ _ (rows,f,n,cs) _ (h1.Tj (B0.tr Bw)) (h2.Tj (B0.tr Bw)) (h3.Tj (B0.tr Bw)) (h4.Tj (B0.tr Bw)) cB).mono ?_;rintro e wX ⟨C1,e1,C2,e2,C3,e3,C4,e4,rfl,oF,a6⟩;have oF:=oF.mono (show w.heap.size<=_ by omega);obtain⟨bU,bX,a8⟩:=bkn a6 W0.heap.size hz;have hz:=a8;have Bw:=Bw.tr a6;have bR:=bR.bl a6;(try have oF:=oF.below a6);(try have bO:=bO.bl a6)))
 refine tK hK fun hHeld=>?_
 clear hK K;refine(tR [6])<|tL fun K hK=>?_
 (refine aK rfl 30 _ _ rfl gO #[.slice C1 rows.length e1,.slice C2 f.length e2,.slice C3 n.length e3,.slice C4 cs.length e4] rfl rfl _ _ bO (by kernel_rfl) rfl (by simp[Tn]) ?_;intro wX cE a7;have cF:aB w.heap.size wX _ _ _ _ (rows,f,n,cs):=aB.cO oF bO (by decide) (by decide) (by decide) a7;have BX:=(B0.tr Bw).grown a7 (B0.tr Bw).size (fun k hk=>by injection hk with hk;subst hk;exact bB);have bC:=(bP.bl Bw).grown a7 (by simp;omega);have cG:=bR.grown a7 (by simp;omega);obtain⟨bD,bF,bJ,bK⟩:=bC.n4)
 refine tK hK fun hHeld=>?_
 clear hK K;refine(tW 7)<|tD ?_
 all_goals
   clear cS cT cU cV;go_wp2_with fail
   refine(nK _ _ _ _ rows f n cs _ (h1.Tj BX) (h2.Tj BX) (h3.Tj BX) (h4.Tj BX) s2).mono ?_;rintro e w2 ⟨rfl,hb2⟩;rw[show dG rows f n cs=true from cQ];have B2:=BX.tr hb2;have dL:=cG.bl hb2;have bL:=cE.bl hb2;have cH:=bC.bl hb2;have cI:=cF.below hb2;clear bD bF bJ bK;obtain⟨cJ,cK,cL,cM⟩:=bL.n4;obtain⟨bD,bF,bJ,bK⟩:=cH.n4;have fO:∀j,w2.frozen? ⟨gO,j,none⟩=false:=fun j=>bL.frozen j
   obtain⟨_,_,dT,b6,eA⟩:=cI.d.form;injection dT with b7 eC b8;subst b7;subst b8;have fW:(cs.length:Int)-1=(t.length:Int):=(by omega);have eE:t.length<=e4:=by simp only at b6;omega
   have eI:(t.length:Int)<=e4:=(by omega);have bM:=dB (World.grownBy.refl w2 (some gO)) 3 (.slice C4 t.length e4);have eJ:=bL.st 3 (.slice C4 t.length e4) #[.slice C1 rows.length e1,.slice C2 f.length e2,.slice C3 n.length e3,.slice C4 t.length e4] rfl;have bN:=aB.cO cI bL (by decide) (by decide) (by decide) bM;have eK:=dL.grown bM (by simp;omega);have fX:=cH.grown bM (by simp;omega);have B3:=B2.grown bM B2.size (fun k hk=>by injection hk with hk;subst hk;exact bB);have b9:=bN.d.takeA eB (show t.length<=cs.length by omega);rw[<-HT.out]at b9;go_wp2_with fail
   refine(CF _ _ _ (h2.Tj B3) (b9.rd eB (by decide))).mono ?_;rintro e w4 ⟨D,d,rfl,oM,hb4⟩;have hap:∀q,(Value.slice C2 f.length e2).ownBlock=some q->(Value.slice D m.length d).ownBlock≠some q:=fun q hq=>bN.b.early oM (Nat.le_refl _) hq
   have eL:aB w.heap.size w4 (.slice C1 rows.length e1) (.slice C2 f.length e2) (.slice D m.length d) (.slice C4 t.length e4) (rows,f,m,t):=⟨bN.a.below hb4,bN.b.below hb4,oM.mono B3.size,b9.below hb4,hap⟩;have bS:=eJ.bl hb4;have eM:=eK.bl hb4;have B4:=B3.tr hb4;clear cJ cK cL cM bD bF bJ bK fO;obtain⟨cJ,cK,cL,cM⟩:=bS.n4;have fO:∀j,w4.frozen? ⟨gO,j,none⟩=false:=fun j=>bS.frozen j
   have cA:=dB (World.grownBy.refl w4 (some gO)) 2 (.slice D m.length d);have fY:=bS.st 2 (.slice D m.length d) #[.slice C1 rows.length e1,.slice C2 f.length e2,.slice D m.length d,.slice C4 t.length e4] rfl;have eN:=aB.cO eL bS (by decide) (by decide) (by decide) cA;have cN:=eM.grown cA (by simp;omega);have B5:=B4.grown cA B4.size (fun k hk=>by injection hk with hk;subst hk;exact bB);go_wp2_with (refine aA rfl 30 _ _ rfl gR #[.slice C1 rows.length e1,.slice C2 f.length e2,.slice D m.length d,.slice C4 t.length e4] rfl rfl _ _ cN (by kernel_rfl) rfl (by simp[Tn]) ?_;intro wE bE cP)
   have oE:aB w.heap.size wE _ _ _ _ _:=aB.cO eN cN (by decide) (by decide) (by decide) cP;have BE:=B5.grown cP B5.size (fun k hk=>by injection hk with hk;subst hk;exact cR);obtain⟨eP,eR,eW,e5⟩:=bE.n4;refine bodyPost_ret (v:= .tuple #[.agg #[.slice C1 rows.length e1,.slice C2 f.length e2,.slice D m.length d,.slice C4 t.length e4],.bool true]) (by simp[results,Tq,go_sem,eP,eR,eW,e5]) rfl ⟨C1,e1,C2,e2,D,d,C4,e4,rfl,oE,BE⟩
theorem Gh (v1 v2 v3 v4:Value) (x:Fl) (w:World) (h1:Rd 1 aZ w v1 x.1) (h2:Rd 3 aQ w v2 x.2.1) (h3:Rd 3 aQ w v3 x.2.2.1) (h4:Rd 2 bT w v4 x.2.2.2) (hs:bQ x):
 Calls Tryz.prog 56 #[.agg #[v1,v2,v3,v4]] w (kW (iU x).1 (iU x).2 w):=by
 unfold iU;by_cases h:kV x=true/\x.2.2.2.length≠0
 . rw[if_pos h];exact NI v1 v2 v3 v4 x w h1 h2 h3 h4 hs h.1 h.2
 . rw[if_neg h];refine Pb v1 v2 v3 v4 x w h1 h2 h3 h4 hs ?_;rcases q:kV x with _|_
   . exact .inl rfl
   . exact .inr ⟨rfl,by rcases Nat.eq_zero_or_pos x.2.2.2.length with e|e;exact e;exact absurd ⟨q,by omega⟩ h⟩
theorem aB.row {B g:Nat} {w w':World} {v1 v2 v3 v4:Value} {x:Fl} {t:TypeId} {cs:Array Value} (h:aB B w v1 v2 v3 v4 x) (hb:Blk w g t cs) (h1:3≠t) (h2:99≠t) (h3:83≠t) (hg:w.grownBy w' (some g)):aB B w' v1 v2 v3 v4 x:=
 h.fH (S:=fun k=>k=g) ⟨hg.os,hg.tape,hg.output,hg.size,fun k hk hs=>hg.block k hk (fun e=>hs (by injection e))⟩ (fun k hk e=>h.apart hb h1 h2 h3 (e▸hk))
theorem lG (v1 v2 v3 v4:Value) (x:Fl) (w:World) (h1:Rd 1 aZ w v1 x.1) (h2:Rd 3 aQ w v2 x.2.1) (h3:Rd 3 aQ w v3 x.2.2.1) (h4:Rd 2 bT w v4 x.2.2.2) (hs:bQ x):Calls Tryz.prog 112 #[.agg #[v1,v2,v3,v4]] w (uE x w):=by
 obtain⟨rows,f,n,cs⟩:=x;simp only at h1 h2 h3 h4;obtain⟨s1,s2,s3,s4⟩:=hs;simp only at s1 s2 s3 s4;obtain⟨A1,c1,rfl,hc1,cE⟩:=h1.form;obtain⟨A2,c2,rfl,hc2,cF⟩:=h2.form;obtain⟨A3,c3,rfl,hc3,cG⟩:=h3.form;obtain⟨A4,c4,rfl,cH,cI⟩:=h4.form;have B0:=((Below.refl w.heap.size w).al (.cells #[.slice A1 rows.length c1,.slice A2 f.length c2,.slice A3 n.length c3,.slice A4 cs.length c4] 30)).al (.cells #[.slice none 0 0,.slice none 0 0,.slice none 0 0,.slice none 0 0] 30);have bP:=(Blk.aX w 30 #[.slice A1 rows.length c1,.slice A2 f.length c2,.slice A3 n.length c3,.slice A4 cs.length c4]).alloc (.cells #[.slice none 0 0,.slice none 0 0,.slice none 0 0,.slice none 0 0] 30);have bR:=Blk.gI (w.alloc (.cells #[.slice A1 rows.length c1,.slice A2 f.length c2,.slice A3 n.length c3,.slice A4 cs.length c4] 30)) 30 #[.slice none 0 0,.slice none 0 0,.slice none 0 0,.slice none 0 0] (w.heap.size+1) (by simp);have H2:Hid (f.length*24<=140737488355328):=Tk (by unfold Small at s2;omega);have H3:Hid (n.length*24<=140737488355328):=Tk (by unfold Small at s3;omega);have H4:Hid (cs.length*16<=140737488355328):=Tk (by unfold Small at s4;omega);have M2:=Tk s2.max;have M3:=Tk s3.max;have M4:=Tk s4.max;go_enter Tryz.func112,Tryz.ntmps112
 go_wp2_with fail
 obtain⟨W0,hW0⟩:=Ti ((w.alloc (.cells #[.slice A1 rows.length c1,.slice A2 f.length c2,.slice A3 n.length c3,.slice A4 cs.length c4] 30)).alloc (.cells #[.slice none 0 0,.slice none 0 0,.slice none 0 0,.slice none 0 0] 30));obtain⟨gP,bN⟩:=Ti w.heap.size;obtain⟨gR,bK⟩:=Ti (w.heap.size+1);rw[<-hW0]at B0 bP bR⊢;rw[<-bK]at bR⊢;rw[<-bN]at bP⊢;have bU:w.heap.size<=gR:=(by omega);have cJ:gP≠gR:=(by omega);have hw0:w.heap.size<=W0.heap.size:=B0.size;clear hW0 bN bK;obtain⟨cK,cL,cM,cN⟩:=bP.n4;have cP:=bP.lt;have cQ:=bR.lt;have Bw:Below W0.heap.size W0 W0.drew:=(Below.refl _ _).drew;have hz:W0.heap.size<=W0.drew.heap.size:=(by simp);have bR:=bR.bl Bw;refine rB (fun w'=>w'.cell? ⟨gP,0,none⟩=some (.slice A1 rows.length c1)/\w'.cell? ⟨gP,1,none⟩=some (.slice A2 f.length c2)/\w'.cell? ⟨gP,2,none⟩=some (.slice A3 n.length c3)/\w'.cell? ⟨gP,3,none⟩=some (.slice A4 cs.length c4)) fun hHeld=>?_
 repeat' (first
  |((with_reducible show AllReadyH _ _ _ _ _ _ _ _ _ _);first
  |(with_reducible exact AllReadyH.nil)
  | (refine tN 2 (fun K hK=>?_) ?_
     (go_simp;go_at_call 165;go_must (refine(xH _ rows _ (h1.Tj (B0.tr Bw)) s1).mono ?_;rintro e wX ⟨C1,e1,rfl,a7,a6⟩;have a7:=a7.mono (show w.heap.size<=_ by omega);have bE:=a6.size;obtain⟨bF,bJ,bD⟩:=bkn a6 W0.heap.size hz;have hz:=bD;have Bw:=Bw.tr a6;have bR:=bR.bl a6;(try have a7:=a7.below a6);(try have a8:=a8.below a6);(try have bA:=bA.below a6);(try have bB:=bB.below a6);(try have b3:=b3.bl a6);(try have b7:=b7.bl a6);(try have bC:=bC.bl a6)))
     refine tK hK fun hHeld=>?_
     clear hK K)
  | (refine tN 3 (fun K hK=>?_) ?_
     (refine iK aJ rfl rfl ?_;intro g3 wX b3 a6 bY b5 bL;have bE:=a6.size;obtain⟨bF,bJ,bD⟩:=bkn a6 W0.heap.size hz;have hz:=bD;have Bw:=Bw.tr a6;have bR:=bR.bl a6;(try have a7:=a7.below a6);(try have a8:=a8.below a6);(try have bA:=bA.below a6);(try have bB:=bB.below a6);(try have b3:=b3.bl a6);(try have b7:=b7.bl a6);(try have bC:=bC.bl a6))
     refine tK hK fun hHeld=>?_
     clear hK K)
  | (refine tN 6 (fun K hK=>?_) ?_
     (refine jD aJ aC aL (B:=w.heap.size) b3 (by omega) (h2.Tj (B0.tr Bw)) H2.out M2.out rfl _ _ rfl rfl rfl ?_;intro C2 e2 wX a8 a6 hk2 bL;have bE:=a6.size;obtain⟨bF,bJ,bD⟩:=bkn a6 W0.heap.size hz;have hz:=bD;have Bw:=Bw.tr a6;have bR:=bR.bl a6;(try have a7:=a7.below a6);(try have a8:=a8.below a6);(try have bA:=bA.below a6);(try have bB:=bB.below a6);(try have b3:=b3.bl a6);(try have b7:=b7.bl a6);(try have bC:=bC.bl a6))
     refine tK hK fun hHeld=>?_
     clear hK K)
  | (refine tN 7 (fun K hK=>?_) ?_
     (refine iK aJ rfl rfl ?_;intro g7 wX b7 a6 b6 b8 bL;have bE:=a6.size;obtain⟨bF,bJ,bD⟩:=bkn a6 W0.heap.size hz;have hz:=bD;have Bw:=Bw.tr a6;have bR:=bR.bl a6;(try have a7:=a7.below a6);(try have a8:=a8.below a6);(try have bA:=bA.below a6);(try have bB:=bB.below a6);(try have b3:=b3.bl a6);(try have b7:=b7.bl a6);(try have bC:=bC.bl a6))
     refine tK hK fun hHeld=>?_
     clear hK K)
  | (refine tN 10 (fun K hK=>?_) ?_
     (refine jD aJ aC aL (B:=w.heap.size) b7 (by omega) (h3.Tj (B0.tr Bw)) H3.out M3.out rfl _ _ rfl rfl rfl ?_;intro C3 e3 wX bA a6 hk3 bL;have bE:=a6.size;obtain⟨bF,bJ,bD⟩:=bkn a6 W0.heap.size hz;have hz:=bD;have Bw:=Bw.tr a6;have bR:=bR.bl a6;(try have a7:=a7.below a6);(try have a8:=a8.below a6);(try have bA:=bA.below a6);(try have bB:=bB.below a6);(try have b3:=b3.bl a6);(try have b7:=b7.bl a6);(try have bC:=bC.bl a6))
     refine tK hK fun hHeld=>?_
     clear hK K)
  | (refine tN 11 (fun K hK=>?_) ?_
     (refine iK jK rfl rfl ?_;intro g11 wX bC a6 bO bS bL;have bE:=a6.size;obtain⟨bF,bJ,bD⟩:=bkn a6 W0.heap.size hz;have hz:=bD;have Bw:=Bw.tr a6;have bR:=bR.bl a6;(try have a7:=a7.below a6);(try have a8:=a8.below a6);(try have bA:=bA.below a6);(try have bB:=bB.below a6);(try have b3:=b3.bl a6);(try have b7:=b7.bl a6);(try have bC:=bC.bl a6))
     refine tK hK fun hHeld=>?_
     clear hK K)
  | (refine tN 14 (fun K hK=>?_) ?_
     (refine jD jK eB oneCell (B:=w.heap.size) bC (by omega) (h4.Tj (B0.tr Bw)) H4.out M4.out rfl _ _ rfl rfl rfl ?_;intro C4 e4 wX bB a6 hk4 bL;have bE:=a6.size;obtain⟨bF,bJ,bD⟩:=bkn a6 W0.heap.size hz;have hz:=bD;have Bw:=Bw.tr a6;have bR:=bR.bl a6;(try have a7:=a7.below a6);(try have a8:=a8.below a6);(try have bA:=bA.below a6);(try have bB:=bB.below a6);(try have b3:=b3.bl a6);(try have b7:=b7.bl a6);(try have bC:=bC.bl a6))
     refine tK hK fun hHeld=>?_
     clear hK K)
  | (refine tN 16 (fun K hK=>?_) ?_
     (refine aK rfl 30 _ _ rfl gR _ rfl rfl _ _ bR (by kernel_rfl) rfl (by simp[Tn]) ?_;intro wX bX bM;have oF:aB w.heap.size wX _ _ _ _ (rows,f,n,cs):=aB.row ⟨a7,a8,bA,bB,fun k q2 q3=>by have e2:=hk2 k q2;have e3:=hk3 k q3;omega⟩ bR (by decide) (by decide) (by decide) bM;have BX:=(B0.tr Bw).grown bM (B0.tr Bw).size (fun k hk=>by injection hk with hk;subst hk;exact bU);have b9:=(bP.bl Bw).grown bM (by simp;omega);obtain⟨cR,cS,cT,cU⟩:=b9.n4;clear a7 a8 bA bB)
     refine tK hK fun hHeld=>?_
     clear hK K)
  )
  |((with_reducible show wpAnyH _ _ _ _ _ _ _ _ _);first
  |(refine(tQ [2,3,7,11]) ?_)
  |(refine(tQ [3,7,11]) ?_)
  |(refine(tQ [6,7,11]) ?_)
  |(refine(tQ [7,11]) ?_)
  |(refine(tQ [10,11]) ?_)
  |(refine(tQ [11]) ?_)
  |(refine(tQ [14]) ?_)
  |(refine(tQ [16]) ?_)
  |(refine(tQ [10]) ?_)
  |(refine(tQ [7]) ?_)
  |(refine(tQ [6,11]) ?_)
  |(refine(tQ [6]) ?_)
  |(refine(tQ [6,7]) ?_)
  |(refine(tQ [3,11]) ?_)
  |(refine(tQ [3]) ?_)
  |(refine(tQ [3,7]) ?_)
  |(refine(tQ [2,7,11]) ?_)
  |(refine(tQ [2,11]) ?_)
  |(refine(tQ [2]) ?_)
  |(refine(tQ [2,7]) ?_)
  |(refine(tQ [2,3,11]) ?_)
  |(refine(tQ [2,3]) ?_)
  |(refine(tQ [2,3,7]) ?_)
  |(refine(tX 0) ?_)
  |(refine(tX 1) ?_)
  |(refine(tX 4) ?_)
  |(refine(tX 5) ?_)
  |(refine(tX 8) ?_)
  |(refine(tX 9) ?_)
  |(refine(tX 12) ?_)
  |(refine(tX 13) ?_)
  |(refine(tX 15) ?_)
  |(refine tE ?_)))
 all_goals (refine⟨trivial,?_⟩)
 all_goals
   go_wp2_with fail
   obtain⟨cA,cB,cC,cD⟩:=bX.n4;refine bodyPost_ret (v:= .agg #[.slice C1 rows.length e1,.slice C2 f.length e2,.slice C3 n.length e3,.slice C4 cs.length e4]) (by simp[results,Tryz.results112,go_sem,cA,cB,cC,cD]) rfl ⟨C1,e1,C2,e2,C3,e3,C4,e4,rfl,oF,BX⟩
end Go.Proofs.YtjijonhkofhikaaGreatDoor
