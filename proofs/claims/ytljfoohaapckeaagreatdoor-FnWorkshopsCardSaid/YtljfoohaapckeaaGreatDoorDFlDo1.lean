/- A flip made and taken back by the program: the walks. Conditions: sizes. -/
import Derived.Test.YtljfoohaapckeaaGreatDoorDFlCopyI
import Derived.Test.YtljfoohaapckeaaGreatDoorDK6
open _root_.Go.Value (oneCell')
open _root_.Go.Proofs.Tryz (prog func40 ntmps40 zeroValue30 results40)
namespace Go.Proofs.YtljfoohaapckeaaGreatDoor
open Go.ChangeShapes Go.WideShapes Go.ChangeAt Go.RowKit
set_option linter.unusedVariables false
set_option linter.unusedSimpArgs false
set_option maxHeartbeats 4000000
set_option maxRecDepth 100000
section
variable {α β : Type} {E E2 : TypeId} {size s2 : Nat} {enc : α -> List Value} {e2 : β -> List Value} {B B2 : Nat} {w w' w2 : World} {v v2 : Value} {l : List α} {l2 : List β}
theorem aC.takeA {A:Option Addr} {n c j:Nat} (h:aC E size enc B w (.slice A n c) l) (henc:∀x,(enc x).length=size) (hj:j<=n):aC E size enc B w (.slice A j c) (l.take j):=by
 unfold aC at h⊢;obtain⟨hl,h⟩:=h
 have hn:l.length=n:=by
  rcases h with⟨e,h0⟩|⟨g,cap,cur,e,_⟩<;>injection e with e1 e2 e3<;>omega
 have hjl:(l.take j).length=j:=by rw[List.length_take];omega
 rw[hjl];have hf:(l.take j).flatMap enc=(l.flatMap enc).take (j*size):=(yF henc l j).symm;refine⟨by rw[gW henc,hjl],?_⟩;rcases h with⟨e,h0⟩|⟨g,cap,cur,e,hb,hh,hc,hm,hs,hx⟩
 . injection e with e1 e2 e3;left;obtain rfl:j=0:=by omega
   subst e1;subst e3;exact⟨rfl,rfl⟩
 . injection e with e1 e2 e3;subst e1;subst e3;right;refine⟨g,c,cur,rfl,hb,hh,by omega,hm,hs,?_⟩;rw[hf,<-hx,List.take_take,Nat.min_eq_left (Nat.mul_le_mul_right _ (by omega))]
end
theorem KX (v1 v2 v3 v4:Value) (x:Fl) (w:World) (h1:Rd 1 bH w v1 x.1) (h2:Rd 3 aU w v2 x.2.1) (h3:Rd 3 aU w v3 x.2.2.1) (h4:Rd 2 bT w v4 x.2.2.2) (hs:dZ x) (hno:lH x=false∨(lH x=true/\x.2.2.2.length=0)):
 Calls prog 40 #[.agg #[v1,v2,v3,v4]] w (rY x false w):=by
 have hs4:=hs;obtain⟨rows,f,n,cs⟩:=x;simp only at h1 h2 h3 h4;obtain⟨s1,s2,s3,s4⟩:=hs;simp only at s1 s2 s3 s4;obtain⟨A1,c1,rfl,hc1,hm1⟩:=h1.form;obtain⟨A2,c2,rfl,hc2,hm2⟩:=h2.form;obtain⟨A3,c3,rfl,hc3,hm3⟩:=h3.form;obtain⟨A4,c4,rfl,hc4,hm4⟩:=h4.form;have B0:=((Below.refl w.heap.size w).al (.cells #[.slice A1 rows.length c1,.slice A2 f.length c2,.slice A3 n.length c3,.slice A4 cs.length c4] 30)).al (.cells #[.slice none 0 0,.slice none 0 0,.slice none 0 0,.slice none 0 0] 30);have bP:=(Blk.bK w 30 #[.slice A1 rows.length c1,.slice A2 f.length c2,.slice A3 n.length c3,.slice A4 cs.length c4]).alloc (.cells #[.slice none 0 0,.slice none 0 0,.slice none 0 0,.slice none 0 0] 30);have bR:=Blk.iV (w.alloc (.cells #[.slice A1 rows.length c1,.slice A2 f.length c2,.slice A3 n.length c3,.slice A4 cs.length c4] 30)) 30 #[.slice none 0 0,.slice none 0 0,.slice none 0 0,.slice none 0 0] (w.heap.size+1) (by simp);go_enter func40,ntmps40
 go_wp2_with fail
 obtain⟨W0,hW0⟩:=Oy ((w.alloc (.cells #[.slice A1 rows.length c1,.slice A2 f.length c2,.slice A3 n.length c3,.slice A4 cs.length c4] 30)).alloc (.cells #[.slice none 0 0,.slice none 0 0,.slice none 0 0,.slice none 0 0] 30));obtain⟨gP,hgP⟩:=Oy w.heap.size;obtain⟨gR,hgR'⟩:=Oy (w.heap.size+1);rw[<-hW0]at B0 bP bR⊢;rw[<-hgR']at bR⊢;rw[<-hgP]at bP⊢;have hgR:w.heap.size<=gR:=(by omega);have hPR:gP≠gR:=(by omega);have hw0:w.heap.size<=W0.heap.size:=B0.size;clear hW0 hgP hgR';obtain⟨z_0,z_1,z_2,z_3⟩:=bP.n4;have hp0:=bP.lt;have hr0:=bR.lt;have Bw:Below W0.heap.size W0 W0.drew:=(Below.refl _ _).drew;have hz:W0.heap.size<=W0.drew.heap.size:=(by simp);have bR:=bR.bl Bw;refine rB (fun w'=>w'.cell? ⟨gP,0,none⟩=some (.slice A1 rows.length c1)/\w'.cell? ⟨gP,1,none⟩=some (.slice A2 f.length c2)/\w'.cell? ⟨gP,2,none⟩=some (.slice A3 n.length c3)/\w'.cell? ⟨gP,3,none⟩=some (.slice A4 cs.length c4)) fun hHeld=>(tW 0)<|(tW 2)<|(tW 3)<|(tW 4)<|(tR [1,5])<|tC (fun K hK=>?_) ?_
 (go_simp;go_at_call 83;go_must (refine(kV _ _ _ _ (rows,f,n,cs) _ (h1.Oz (B0.tr Bw)) (h2.Oz (B0.tr Bw)) (h3.Oz (B0.tr Bw)) (h4.Oz (B0.tr Bw)) hs4).mono ?_;rintro e wX ⟨C1,e1,C2,e2,C3,e3,C4,e4,rfl,oF,hbX⟩;have oF:=oF.mono (show w.heap.size<=_ by omega);obtain⟨hcX,hfX,hzX⟩:=bkn hbX W0.heap.size hz;have hz:=hzX;have Bw:=Bw.tr hbX;have bR:=bR.bl hbX;(try have oF:=oF.below hbX);(try have bO:=bO.bl hbX)))
 refine tK hK fun hHeld=>?_
 clear hK K;refine(tR [5])<|tL fun K hK=>?_
 (refine lU rfl 30 _ rfl zeroValue30 ?_;intro gO wX bO hbX hgO1 hgO2 hgz;have hgO:w.heap.size<=gO:=(by omega);have hPO:gP≠gO:=(by omega);have hRO:gR≠gO:=(by omega);obtain⟨hcX,hfX,hzX⟩:=bkn hbX W0.heap.size hz;have hz:=hzX;have Bw:=Bw.tr hbX;have bR:=bR.bl hbX;(try have oF:=oF.below hbX);(try have bO:=bO.bl hbX))
 refine tK hK fun hHeld=>?_
 clear hK K;refine(tR [6])<|tL fun K hK=>?_
 (refine aJ rfl 30 _ _ rfl gO #[.slice C1 rows.length e1,.slice C2 f.length e2,.slice C3 n.length e3,.slice C4 cs.length e4] rfl rfl _ _ bO (by kernel_rfl) rfl (by simp[oneCell']) ?_;intro wX bOX hgX;have oFX:aD w.heap.size wX _ _ _ _ (rows,f,n,cs):=aD.eD oF bO (by decide) (by decide) (by decide) hgX;have BX:=(B0.tr Bw).grown hgX (B0.tr Bw).size (fun k hk=>by injection hk with hk;subst hk;exact hgO);have bPX:=(bP.bl Bw).grown hgX (by simp;omega);have bRX:=bR.grown hgX (by simp;omega);obtain⟨c_0,c_1,c_2,c_3⟩:=bPX.n4)
 refine tK hK fun hHeld=>?_
 clear hK K;refine(tW 7)<|tD ?_
 rotate_left 1
 refine tL fun K hK=>?_
 (refine lU rfl 30 _ rfl zeroValue30 ?_;intro gO wX bO hbX hgO1 hgO2 hgz;have hgO:w.heap.size<=gO:=(by omega);have hPO:gP≠gO:=(by omega);have hRO:gR≠gO:=(by omega);obtain⟨hcX,hfX,hzX⟩:=bkn hbX W0.heap.size hz;have hz:=hzX;have Bw:=Bw.tr hbX;have bR:=bR.bl hbX;(try have oF:=oF.below hbX);(try have bO:=bO.bl hbX))
 refine tK hK fun hHeld=>?_
 clear hK K;refine(tR [1])<|tL fun K hK=>?_
 (go_simp;go_at_call 83;go_must (refine(kV _ _ _ _ (rows,f,n,cs) _ (h1.Oz (B0.tr Bw)) (h2.Oz (B0.tr Bw)) (h3.Oz (B0.tr Bw)) (h4.Oz (B0.tr Bw)) hs4).mono ?_;rintro e wX ⟨C1,e1,C2,e2,C3,e3,C4,e4,rfl,oF,hbX⟩;have oF:=oF.mono (show w.heap.size<=_ by omega);obtain⟨hcX,hfX,hzX⟩:=bkn hbX W0.heap.size hz;have hz:=hzX;have Bw:=Bw.tr hbX;have bR:=bR.bl hbX;(try have oF:=oF.below hbX);(try have bO:=bO.bl hbX)))
 refine tK hK fun hHeld=>?_
 clear hK K;refine(tR [6])<|tL fun K hK=>?_
 (refine aJ rfl 30 _ _ rfl gO #[.slice C1 rows.length e1,.slice C2 f.length e2,.slice C3 n.length e3,.slice C4 cs.length e4] rfl rfl _ _ bO (by kernel_rfl) rfl (by simp[oneCell']) ?_;intro wX bOX hgX;have oFX:aD w.heap.size wX _ _ _ _ (rows,f,n,cs):=aD.eD oF bO (by decide) (by decide) (by decide) hgX;have BX:=(B0.tr Bw).grown hgX (B0.tr Bw).size (fun k hk=>by injection hk with hk;subst hk;exact hgO);have bPX:=(bP.bl Bw).grown hgX (by simp;omega);have bRX:=bR.grown hgX (by simp;omega);obtain⟨c_0,c_1,c_2,c_3⟩:=bPX.n4)
 refine tK hK fun hHeld=>?_
 clear hK K;refine(tW 7)<|tD ?_
 all_goals
   clear z_0 z_1 z_2 z_3;go_wp2_with fail
   refine(qX _ _ _ _ rows f n cs _ (h1.Oz BX) (h2.Oz BX) (h3.Oz BX) (h4.Oz BX) s2).mono ?_;rintro e w2 ⟨rfl,hb2⟩;have B2:=BX.tr hb2;have bR2:=bRX.bl hb2;have bO2:=bOX.bl hb2;have oF2:=oFX.below hb2;clear c_0 c_1 c_2 c_3;obtain⟨y_0,y_1,y_2,y_3⟩:=bO2.n4;rcases hno with hno|⟨hno,hn0⟩
   . rw[show dV rows f n cs=false from hno];go_wp2_with (refine aA rfl 30 _ _ rfl gR #[.slice C1 rows.length e1,.slice C2 f.length e2,.slice C3 n.length e3,.slice C4 cs.length e4] rfl rfl _ _ bR2 (by kernel_rfl) rfl (by simp[oneCell']) ?_;intro wE bE hgE)
     have oE:aD w.heap.size wE _ _ _ _ _:=aD.eD oF2 bR2 (by decide) (by decide) (by decide) hgE;have BE:=B2.grown hgE B2.size (fun k hk=>by injection hk with hk;subst hk;exact hgR);obtain⟨q_0,q_1,q_2,q_3⟩:=bE.n4;refine bodyPost_ret (v:= .tuple #[.agg #[.slice C1 rows.length e1,.slice C2 f.length e2,.slice C3 n.length e3,.slice C4 cs.length e4],.bool false]) (by simp[results,results40,go_sem,q_0,q_1,q_2,q_3]) rfl ⟨C1,e1,C2,e2,C3,e3,C4,e4,rfl,oE,BE⟩
   . rw[show dV rows f n cs=true from hno];have hz0:((cs.length:Int)==0)=true:=by rw[show cs.length=0 from hn0];rfl
     clear hn0;go_wp2_with (refine aA rfl 30 _ _ rfl gR #[.slice C1 rows.length e1,.slice C2 f.length e2,.slice C3 n.length e3,.slice C4 cs.length e4] rfl rfl _ _ bR2 (by kernel_rfl) rfl (by simp[oneCell']) ?_;intro wE bE hgE)
     have oE:aD w.heap.size wE _ _ _ _ _:=aD.eD oF2 bR2 (by decide) (by decide) (by decide) hgE;have BE:=B2.grown hgE B2.size (fun k hk=>by injection hk with hk;subst hk;exact hgR);obtain⟨q_0,q_1,q_2,q_3⟩:=bE.n4;refine bodyPost_ret (v:= .tuple #[.agg #[.slice C1 rows.length e1,.slice C2 f.length e2,.slice C3 n.length e3,.slice C4 cs.length e4],.bool false]) (by simp[results,results40,go_sem,q_0,q_1,q_2,q_3]) rfl ⟨C1,e1,C2,e2,C3,e3,C4,e4,rfl,oE,BE⟩
theorem Ka (v1 v2 v3 v4:Value) (x:Fl) (w:World) (h1:Rd 1 bH w v1 x.1) (h2:Rd 3 aU w v2 x.2.1) (h3:Rd 3 aU w v3 x.2.2.1) (h4:Rd 2 bT w v4 x.2.2.2) (hs:dZ x) (hok:lH x=true) (hn:x.2.2.2.length≠0):
 Calls prog 40 #[.agg #[v1,v2,v3,v4]] w (rY (xN x (x.2.2.2.length-1)) true w):=by
 have hs4:=hs;obtain⟨rows,f,n,cs⟩:=x;simp only at h1 h2 h3 h4;obtain⟨s1,s2,s3,s4⟩:=hs;simp only at s1 s2 s3 s4;obtain⟨A1,c1,rfl,hc1,hm1⟩:=h1.form;obtain⟨A2,c2,rfl,hc2,hm2⟩:=h2.form;obtain⟨A3,c3,rfl,hc3,hm3⟩:=h3.form;obtain⟨A4,c4,rfl,hc4,hm4⟩:=h4.form;have B0:=((Below.refl w.heap.size w).al (.cells #[.slice A1 rows.length c1,.slice A2 f.length c2,.slice A3 n.length c3,.slice A4 cs.length c4] 30)).al (.cells #[.slice none 0 0,.slice none 0 0,.slice none 0 0,.slice none 0 0] 30);have bP:=(Blk.bK w 30 #[.slice A1 rows.length c1,.slice A2 f.length c2,.slice A3 n.length c3,.slice A4 cs.length c4]).alloc (.cells #[.slice none 0 0,.slice none 0 0,.slice none 0 0,.slice none 0 0] 30);have bR:=Blk.iV (w.alloc (.cells #[.slice A1 rows.length c1,.slice A2 f.length c2,.slice A3 n.length c3,.slice A4 cs.length c4] 30)) 30 #[.slice none 0 0,.slice none 0 0,.slice none 0 0,.slice none 0 0] (w.heap.size+1) (by simp);simp only at hn;obtain⟨t,ht⟩:=Oy (cs.take (cs.length-1));have htl:t.length+1=cs.length:=by rw[ht,List.length_take];omega
 obtain⟨m,hm⟩:=Oy ((dD f t).1);obtain⟨b,hb⟩:=Oy ((dD f t).2);have hy:xN (rows,f,n,cs) (cs.length-1)=(rows,f,m,t):=by rw[hm,ht];rfl
 rw[hy];have CF:∀(u v:Value) (w:World),Rd 3 aU w u f->Rd 2 bT w v t->Calls prog 90 #[u,v] w (iG 60 3 aT m b w):=fun u v w k1 k2=>by rw[hm,hb];exact wH u v f t w k1 k2 s2
 have ht':t=cs.take t.length:=by rw[ht,List.length_take];congr 1;omega
 have HT:=OA ht';have hz0:((cs.length:Int)==0)=false:=by rw[beq_eq_false_iff_ne];omega
 clear hm hb hy ht ht';go_enter func40,ntmps40
 go_wp2_with fail
 obtain⟨W0,hW0⟩:=Oy ((w.alloc (.cells #[.slice A1 rows.length c1,.slice A2 f.length c2,.slice A3 n.length c3,.slice A4 cs.length c4] 30)).alloc (.cells #[.slice none 0 0,.slice none 0 0,.slice none 0 0,.slice none 0 0] 30));obtain⟨gP,hgP⟩:=Oy w.heap.size;obtain⟨gR,hgR'⟩:=Oy (w.heap.size+1);rw[<-hW0]at B0 bP bR⊢;rw[<-hgR']at bR⊢;rw[<-hgP]at bP⊢;have hgR:w.heap.size<=gR:=(by omega);have hPR:gP≠gR:=(by omega);have hw0:w.heap.size<=W0.heap.size:=B0.size;clear hW0 hgP hgR';obtain⟨z_0,z_1,z_2,z_3⟩:=bP.n4;have hp0:=bP.lt;have hr0:=bR.lt;have Bw:Below W0.heap.size W0 W0.drew:=(Below.refl _ _).drew;have hz:W0.heap.size<=W0.drew.heap.size:=(by simp);have bR:=bR.bl Bw;refine rB (fun w'=>w'.cell? ⟨gP,0,none⟩=some (.slice A1 rows.length c1)/\w'.cell? ⟨gP,1,none⟩=some (.slice A2 f.length c2)/\w'.cell? ⟨gP,2,none⟩=some (.slice A3 n.length c3)/\w'.cell? ⟨gP,3,none⟩=some (.slice A4 cs.length c4)) fun hHeld=>(tW 0)<|(tW 2)<|(tW 3)<|(tW 4)<|(tR [1,5])<|tC (fun K hK=>?_) ?_
 (go_simp;go_at_call 83;go_must (refine(kV _ _ _ _ (rows,f,n,cs) _ (h1.Oz (B0.tr Bw)) (h2.Oz (B0.tr Bw)) (h3.Oz (B0.tr Bw)) (h4.Oz (B0.tr Bw)) hs4).mono ?_;rintro e wX ⟨C1,e1,C2,e2,C3,e3,C4,e4,rfl,oF,hbX⟩;have oF:=oF.mono (show w.heap.size<=_ by omega);obtain⟨hcX,hfX,hzX⟩:=bkn hbX W0.heap.size hz;have hz:=hzX;have Bw:=Bw.tr hbX;have bR:=bR.bl hbX;(try have oF:=oF.below hbX);(try have bO:=bO.bl hbX)))
 refine tK hK fun hHeld=>?_
 clear hK K;refine(tR [5])<|tL fun K hK=>?_
 (refine lU rfl 30 _ rfl zeroValue30 ?_;intro gO wX bO hbX hgO1 hgO2 hgz;have hgO:w.heap.size<=gO:=(by omega);have hPO:gP≠gO:=(by omega);have hRO:gR≠gO:=(by omega);obtain⟨hcX,hfX,hzX⟩:=bkn hbX W0.heap.size hz;have hz:=hzX;have Bw:=Bw.tr hbX;have bR:=bR.bl hbX;(try have oF:=oF.below hbX);(try have bO:=bO.bl hbX))
 refine tK hK fun hHeld=>?_
 clear hK K;refine(tR [6])<|tL fun K hK=>?_
 (refine aJ rfl 30 _ _ rfl gO #[.slice C1 rows.length e1,.slice C2 f.length e2,.slice C3 n.length e3,.slice C4 cs.length e4] rfl rfl _ _ bO (by kernel_rfl) rfl (by simp[oneCell']) ?_;intro wX bOX hgX;have oFX:aD w.heap.size wX _ _ _ _ (rows,f,n,cs):=aD.eD oF bO (by decide) (by decide) (by decide) hgX;have BX:=(B0.tr Bw).grown hgX (B0.tr Bw).size (fun k hk=>by injection hk with hk;subst hk;exact hgO);have bPX:=(bP.bl Bw).grown hgX (by simp;omega);have bRX:=bR.grown hgX (by simp;omega);obtain⟨c_0,c_1,c_2,c_3⟩:=bPX.n4)
 refine tK hK fun hHeld=>?_
 clear hK K;refine(tW 7)<|tD ?_
 rotate_left 1
 refine tL fun K hK=>?_
 (refine lU rfl 30 _ rfl zeroValue30 ?_;intro gO wX bO hbX hgO1 hgO2 hgz;have hgO:w.heap.size<=gO:=(by omega);have hPO:gP≠gO:=(by omega);have hRO:gR≠gO:=(by omega);obtain⟨hcX,hfX,hzX⟩:=bkn hbX W0.heap.size hz;have hz:=hzX;have Bw:=Bw.tr hbX;have bR:=bR.bl hbX;(try have oF:=oF.below hbX);(try have bO:=bO.bl hbX))
 refine tK hK fun hHeld=>?_
 clear hK K;refine(tR [1])<|tL fun K hK=>?_
 (go_simp;go_at_call 83;go_must (refine(kV _ _ _ _ (rows,f,n,cs) _ (h1.Oz (B0.tr Bw)) (h2.Oz (B0.tr Bw)) (h3.Oz (B0.tr Bw)) (h4.Oz (B0.tr Bw)) hs4).mono ?_;rintro e wX ⟨C1,e1,C2,e2,C3,e3,C4,e4,rfl,oF,hbX⟩;have oF:=oF.mono (show w.heap.size<=_ by omega);obtain⟨hcX,hfX,hzX⟩:=bkn hbX W0.heap.size hz;have hz:=hzX;have Bw:=Bw.tr hbX;have bR:=bR.bl hbX;(try have oF:=oF.below hbX);(try have bO:=bO.bl hbX)))
 refine tK hK fun hHeld=>?_
 clear hK K;refine(tR [6])<|tL fun K hK=>?_
 (refine aJ rfl 30 _ _ rfl gO #[.slice C1 rows.length e1,.slice C2 f.length e2,.slice C3 n.length e3,.slice C4 cs.length e4] rfl rfl _ _ bO (by kernel_rfl) rfl (by simp[oneCell']) ?_;intro wX bOX hgX;have oFX:aD w.heap.size wX _ _ _ _ (rows,f,n,cs):=aD.eD oF bO (by decide) (by decide) (by decide) hgX;have BX:=(B0.tr Bw).grown hgX (B0.tr Bw).size (fun k hk=>by injection hk with hk;subst hk;exact hgO);have bPX:=(bP.bl Bw).grown hgX (by simp;omega);have bRX:=bR.grown hgX (by simp;omega);obtain⟨c_0,c_1,c_2,c_3⟩:=bPX.n4)
 refine tK hK fun hHeld=>?_
 clear hK K;refine(tW 7)<|tD ?_
 all_goals
   clear z_0 z_1 z_2 z_3;go_wp2_with fail
   refine(qX _ _ _ _ rows f n cs _ (h1.Oz BX) (h2.Oz BX) (h3.Oz BX) (h4.Oz BX) s2).mono ?_;rintro e w2 ⟨rfl,hb2⟩;rw[show dV rows f n cs=true from hok];have B2:=BX.tr hb2;have bR2:=bRX.bl hb2;have bO2:=bOX.bl hb2;have bP2:=bPX.bl hb2;have oF2:=oFX.below hb2;clear c_0 c_1 c_2 c_3;obtain⟨y_0,y_1,y_2,y_3⟩:=bO2.n4;obtain⟨c_0,c_1,c_2,c_3⟩:=bP2.n4;have fO:∀j,w2.frozen? ⟨gO,j,none⟩=false:=fun j=>bO2.frozen j
   obtain⟨_,_,eq4,hc4',hm4'⟩:=oF2.d.form;injection eq4 with eq41 eq42 eq43;subst eq41;subst eq43;have hsl:(cs.length:Int)-1=(t.length:Int):=(by omega);have hsl2:t.length<=e4:=by simp only at hc4';omega
   have hsl3:(t.length:Int)<=e4:=(by omega);have hgg:=dI (World.grownBy.refl w2 (some gO)) 3 (.slice C4 t.length e4);have bO3:=bO2.st 3 (.slice C4 t.length e4) #[.slice C1 rows.length e1,.slice C2 f.length e2,.slice C3 n.length e3,.slice C4 t.length e4] rfl;have oF3:=aD.eD oF2 bO2 (by decide) (by decide) (by decide) hgg;have bR3:=bR2.grown hgg (by simp;omega);have bP3:=bP2.grown hgg (by simp;omega);have B3:=B2.grown hgg B2.size (fun k hk=>by injection hk with hk;subst hk;exact hgO);have oT3:=oF3.d.takeA dS (show t.length<=cs.length by omega);rw[<-HT.out]at oT3;go_wp2_with fail
   refine(CF _ _ _ (h2.Oz B3) (oT3.rd dS (by decide))).mono ?_;rintro e w4 ⟨D,d,rfl,oM,hb4⟩;have hap:∀q,(Value.slice C2 f.length e2).ownBlock=some q->(Value.slice D m.length d).ownBlock≠some q:=fun q hq=>oF3.b.early oM (Nat.le_refl _) hq
   have oF4:aD w.heap.size w4 (.slice C1 rows.length e1) (.slice C2 f.length e2) (.slice D m.length d) (.slice C4 t.length e4) (rows,f,m,t):=⟨oF3.a.below hb4,oF3.b.below hb4,oM.mono B3.size,oT3.below hb4,hap⟩;have bO4:=bO3.bl hb4;have bR4:=bR3.bl hb4;have B4:=B3.tr hb4;clear y_0 y_1 y_2 y_3 c_0 c_1 c_2 c_3 fO;obtain⟨y_0,y_1,y_2,y_3⟩:=bO4.n4;have fO:∀j,w4.frozen? ⟨gO,j,none⟩=false:=fun j=>bO4.frozen j
   have hgh:=dI (World.grownBy.refl w4 (some gO)) 2 (.slice D m.length d);have bO5:=bO4.st 2 (.slice D m.length d) #[.slice C1 rows.length e1,.slice C2 f.length e2,.slice D m.length d,.slice C4 t.length e4] rfl;have oF5:=aD.eD oF4 bO4 (by decide) (by decide) (by decide) hgh;have bR5:=bR4.grown hgh (by simp;omega);have B5:=B4.grown hgh B4.size (fun k hk=>by injection hk with hk;subst hk;exact hgO);go_wp2_with (refine aA rfl 30 _ _ rfl gR #[.slice C1 rows.length e1,.slice C2 f.length e2,.slice D m.length d,.slice C4 t.length e4] rfl rfl _ _ bR5 (by kernel_rfl) rfl (by simp[oneCell']) ?_;intro wE bE hgE)
   have oE:aD w.heap.size wE _ _ _ _ _:=aD.eD oF5 bR5 (by decide) (by decide) (by decide) hgE;have BE:=B5.grown hgE B5.size (fun k hk=>by injection hk with hk;subst hk;exact hgR);obtain⟨q_0,q_1,q_2,q_3⟩:=bE.n4;refine bodyPost_ret (v:= .tuple #[.agg #[.slice C1 rows.length e1,.slice C2 f.length e2,.slice D m.length d,.slice C4 t.length e4],.bool true]) (by simp[results,results40,go_sem,q_0,q_1,q_2,q_3]) rfl ⟨C1,e1,C2,e2,D,d,C4,e4,rfl,oE,BE⟩
theorem Kb (v1 v2 v3 v4:Value) (x:Fl) (w:World) (h1:Rd 1 bH w v1 x.1) (h2:Rd 3 aU w v2 x.2.1) (h3:Rd 3 aU w v3 x.2.2.1) (h4:Rd 2 bT w v4 x.2.2.2) (hs:dZ x):
 Calls prog 40 #[.agg #[v1,v2,v3,v4]] w (rY (uV x).1 (uV x).2 w):=by
 unfold uV;by_cases h:lH x=true/\x.2.2.2.length≠0
 . rw[if_pos h];exact Ka v1 v2 v3 v4 x w h1 h2 h3 h4 hs h.1 h.2
 . rw[if_neg h];refine KX v1 v2 v3 v4 x w h1 h2 h3 h4 hs ?_;rcases q:lH x with _|_
   . exact .inl rfl
   . exact .inr ⟨rfl,by rcases Nat.eq_zero_or_pos x.2.2.2.length with e|e;exact e;exact absurd ⟨q,by omega⟩ h⟩
end Go.Proofs.YtljfoohaapckeaaGreatDoor
