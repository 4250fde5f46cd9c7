/- Floors copied, by the program: the walk. Conditions: sizes. -/
import Derived.Test.YtljfoohaapckeaaGreatDoorDG6
namespace Go.Proofs.YtljfoohaapckeaaGreatDoor
open Go.ChangeShapes Go.WideShapes Go.ChangeAt Go.RowKit
set_option linter.unusedVariables false
set_option linter.unusedSimpArgs false
set_option maxHeartbeats 4000000
set_option maxRecDepth 100000
theorem kV (v1 v2 v3 v4:Value) (x:Fl) (w:World) (h1:Rd 1 bH w v1 x.1) (h2:Rd 3 aU w v2 x.2.1) (h3:Rd 3 aU w v3 x.2.2.1) (h4:Rd 2 bT w v4 x.2.2.2) (hs:dZ x):Calls Tryz.prog 83 #[.agg #[v1,v2,v3,v4]] w (wW x w):=by
 obtain⟨rows,f,n,cs⟩:=x;simp only at h1 h2 h3 h4;obtain⟨s1,s2,s3,s4⟩:=hs;simp only at s1 s2 s3 s4;obtain⟨A1,c1,rfl,hc1,hm1⟩:=h1.form;obtain⟨A2,c2,rfl,hc2,hm2⟩:=h2.form;obtain⟨A3,c3,rfl,hc3,hm3⟩:=h3.form;obtain⟨A4,c4,rfl,hc4,hm4⟩:=h4.form;have B0:=((Below.refl w.heap.size w).al (.cells #[.slice A1 rows.length c1,.slice A2 f.length c2,.slice A3 n.length c3,.slice A4 cs.length c4] 30)).al (.cells #[.slice none 0 0,.slice none 0 0,.slice none 0 0,.slice none 0 0] 30);have bP:=(Blk.bK w 30 #[.slice A1 rows.length c1,.slice A2 f.length c2,.slice A3 n.length c3,.slice A4 cs.length c4]).alloc (.cells #[.slice none 0 0,.slice none 0 0,.slice none 0 0,.slice none 0 0] 30);have bR:=Blk.iV (w.alloc (.cells #[.slice A1 rows.length c1,.slice A2 f.length c2,.slice A3 n.length c3,.slice A4 cs.length c4] 30)) 30 #[.slice none 0 0,.slice none 0 0,.slice none 0 0,.slice none 0 0] (w.heap.size+1) (by simp);have H4:Hid (cs.length*16<=140737488355328):=OA (by unfold Small at s4;omega);have M4:=OA s4.max;go_enter Tryz.func83,Tryz.ntmps83
 go_wp2_with fail
 obtain⟨W0,hW0⟩:=Oy ((w.alloc (.cells #[.slice A1 rows.length c1,.slice A2 f.length c2,.slice A3 n.length c3,.slice A4 cs.length c4] 30)).alloc (.cells #[.slice none 0 0,.slice none 0 0,.slice none 0 0,.slice none 0 0] 30));obtain⟨gP,hgP⟩:=Oy w.heap.size;obtain⟨gR,hgR'⟩:=Oy (w.heap.size+1);rw[<-hW0]at B0 bP bR⊢;rw[<-hgR']at bR⊢;rw[<-hgP]at bP⊢;have hgR:w.heap.size<=gR:=(by omega);have hPR:gP≠gR:=(by omega);have hw0:w.heap.size<=W0.heap.size:=B0.size;clear hW0 hgP hgR';obtain⟨z_0,z_1,z_2,z_3⟩:=bP.n4;have hp0:=bP.lt;have hr0:=bR.lt;have Bw:Below W0.heap.size W0 W0.drew:=(Below.refl _ _).drew;have hz:W0.heap.size<=W0.drew.heap.size:=(by simp);have bR:=bR.bl Bw;refine rB (fun w'=>w'.cell? ⟨gP,0,none⟩=some (.slice A1 rows.length c1)/\w'.cell? ⟨gP,1,none⟩=some (.slice A2 f.length c2)/\w'.cell? ⟨gP,2,none⟩=some (.slice A3 n.length c3)/\w'.cell? ⟨gP,3,none⟩=some (.slice A4 cs.length c4)) fun hHeld=>(tW 0)<|(tW 1)<|(tW 3)<|(tW 4)<|(tW 6)<|(tW 7)<|(tW 10)<|(tW 11)<|(tR [2,9])<|tC (fun K hK=>?_) ?_
 (go_simp;go_at_call 87;go_must (refine(AP _ rows _ (h1.Oz (B0.tr Bw)) s1).mono ?_;rintro e wX ⟨C1,e1,rfl,own1,hbX⟩;have own1:=own1.mono (show w.heap.size<=_ by omega);have hgy:=hbX.size;obtain⟨hcX,hfX,hzX⟩:=bkn hbX W0.heap.size hz;have hz:=hzX;have Bw:=Bw.tr hbX;have bR:=bR.bl hbX;(try have own1:=own1.below hbX);(try have own2:=own2.below hbX);(try have own3:=own3.below hbX);(try have own4:=own4.below hbX);(try have b3:=b3.bl hbX);(try have b7:=b7.bl hbX);(try have b11:=b11.bl hbX)))
 refine tK hK fun hHeld=>?_
 clear hK K;refine(tR [5,9])<|tC (fun K hK=>?_) ?_;(go_simp;go_at_call 88;go_must (refine(cZ _ f _ (h2.Oz (B0.tr Bw)) s2).mono ?_;rintro e wX ⟨C2,e2,rfl,own2,hbX⟩;have own2:=own2.mono (show w.heap.size<=_ by omega);have hgy:=hbX.size;obtain⟨hcX,hfX,hzX⟩:=bkn hbX W0.heap.size hz;have hz:=hzX;have Bw:=Bw.tr hbX;have bR:=bR.bl hbX;(try have own1:=own1.below hbX);(try have own2:=own2.below hbX);(try have own3:=own3.below hbX);(try have own4:=own4.below hbX);(try have b3:=b3.bl hbX);(try have b7:=b7.bl hbX);(try have b11:=b11.bl hbX)))
 refine tK hK fun hHeld=>?_
 clear hK K;refine(tR [8,9])<|tC (fun K hK=>?_) ?_;(go_simp;go_at_call 88;go_must (refine(cZ _ n _ (h3.Oz (B0.tr Bw)) s3).mono ?_;rintro e wX ⟨C3,e3,rfl,own3,hbX⟩;have ap23:∀k,(Value.slice C2 f.length e2).ownBlock=some k->(Value.slice C3 n.length e3).ownBlock≠some k:=fun k q=>own2.early own3 (Nat.le_refl _) q;have own3:=own3.mono (show w.heap.size<=_ by omega);have hgy:=hbX.size;obtain⟨hcX,hfX,hzX⟩:=bkn hbX W0.heap.size hz;have hz:=hzX;have Bw:=Bw.tr hbX;have bR:=bR.bl hbX;(try have own1:=own1.below hbX);(try have own2:=own2.below hbX);(try have own3:=own3.below hbX);(try have own4:=own4.below hbX);(try have b3:=b3.bl hbX);(try have b7:=b7.bl hbX);(try have b11:=b11.bl hbX)))
 refine tK hK fun hHeld=>?_
 clear hK K;refine(tR [9])<|tL fun K hK=>?_
 (refine fV iY rfl rfl ?_;intro g11 wX b11 hbX hg11a hg11b hgz;have hgy:=hbX.size;obtain⟨hcX,hfX,hzX⟩:=bkn hbX W0.heap.size hz;have hz:=hzX;have Bw:=Bw.tr hbX;have bR:=bR.bl hbX;(try have own1:=own1.below hbX);(try have own2:=own2.below hbX);(try have own3:=own3.below hbX);(try have own4:=own4.below hbX);(try have b3:=b3.bl hbX);(try have b7:=b7.bl hbX);(try have b11:=b11.bl hbX))
 refine tK hK fun hHeld=>?_
 clear hK K;refine(tR [12])<|tL fun K hK=>?_
 (refine iC iY dS oneCell (B:=w.heap.size) b11 (by omega) (h4.Oz (B0.tr Bw)) H4.out M4.out rfl _ _ rfl rfl rfl ?_;intro C4 e4 wX own4 hbX hk4 hgz;have hgy:=hbX.size;obtain⟨hcX,hfX,hzX⟩:=bkn hbX W0.heap.size hz;have hz:=hzX;have Bw:=Bw.tr hbX;have bR:=bR.bl hbX;(try have own1:=own1.below hbX);(try have own2:=own2.below hbX);(try have own3:=own3.below hbX);(try have own4:=own4.below hbX);(try have b3:=b3.bl hbX);(try have b7:=b7.bl hbX);(try have b11:=b11.bl hbX))
 refine tK hK fun hHeld=>?_
 clear hK K;refine(tW 13)<|(tR [14])<|tL fun K hK=>?_
 (refine aJ rfl 30 _ _ rfl gR _ rfl rfl _ _ bR (by kernel_rfl) rfl (by simp[Value.oneCell']) ?_;intro wX bX hgX;have oF:aD w.heap.size wX _ _ _ _ (rows,f,n,cs):=aD.eD ⟨own1,own2,own3,own4,ap23⟩ bR (by decide) (by decide) (by decide) hgX;have BX:=(B0.tr Bw).grown hgX (B0.tr Bw).size (fun k hk=>by injection hk with hk;subst hk;exact hgR);have bPX:=(bP.bl Bw).grown hgX (by simp;omega);obtain⟨c_0,c_1,c_2,c_3⟩:=bPX.n4;clear own1 own2 own3 own4)
 refine tK hK fun hHeld=>?_
 clear hK K;refine tD ?_
 rotate_left 1
 refine tL fun K hK=>?_
 (refine fV iY rfl rfl ?_;intro g11 wX b11 hbX hg11a hg11b hgz;have hgy:=hbX.size;obtain⟨hcX,hfX,hzX⟩:=bkn hbX W0.heap.size hz;have hz:=hzX;have Bw:=Bw.tr hbX;have bR:=bR.bl hbX;(try have own1:=own1.below hbX);(try have own2:=own2.below hbX);(try have own3:=own3.below hbX);(try have own4:=own4.below hbX);(try have b3:=b3.bl hbX);(try have b7:=b7.bl hbX);(try have b11:=b11.bl hbX))
 refine tK hK fun hHeld=>?_
 clear hK K;refine(tR [8])<|tL fun K hK=>?_
 (go_simp;go_at_call 88;go_must (refine(cZ _ n _ (h3.Oz (B0.tr Bw)) s3).mono ?_;rintro e wX ⟨C3,e3,rfl,own3,hbX⟩;have ap23:∀k,(Value.slice C2 f.length e2).ownBlock=some k->(Value.slice C3 n.length e3).ownBlock≠some k:=fun k q=>own2.early own3 (Nat.le_refl _) q;have own3:=own3.mono (show w.heap.size<=_ by omega);have hgy:=hbX.size;obtain⟨hcX,hfX,hzX⟩:=bkn hbX W0.heap.size hz;have hz:=hzX;have Bw:=Bw.tr hbX;have bR:=bR.bl hbX;(try have own1:=own1.below hbX);(try have own2:=own2.below hbX);(try have own3:=own3.below hbX);(try have own4:=own4.below hbX);(try have b3:=b3.bl hbX);(try have b7:=b7.bl hbX);(try have b11:=b11.bl hbX)))
 refine tK hK fun hHeld=>?_
 clear hK K;refine(tR [12])<|tL fun K hK=>?_
 (refine iC iY dS oneCell (B:=w.heap.size) b11 (by omega) (h4.Oz (B0.tr Bw)) H4.out M4.out rfl _ _ rfl rfl rfl ?_;intro C4 e4 wX own4 hbX hk4 hgz;have hgy:=hbX.size;obtain⟨hcX,hfX,hzX⟩:=bkn hbX W0.heap.size hz;have hz:=hzX;have Bw:=Bw.tr hbX;have bR:=bR.bl hbX;(try have own1:=own1.below hbX);(try have own2:=own2.below hbX);(try have own3:=own3.below hbX);(try have own4:=own4.below hbX);(try have b3:=b3.bl hbX);(try have b7:=b7.bl hbX);(try have b11:=b11.bl hbX))
 refine tK hK fun hHeld=>?_
 clear hK K;refine(tW 13)<|(tR [14])<|tL fun K hK=>?_
 (refine aJ rfl 30 _ _ rfl gR _ rfl rfl _ _ bR (by kernel_rfl) rfl (by simp[Value.oneCell']) ?_;intro wX bX hgX;have oF:aD w.heap.size wX _ _ _ _ (rows,f,n,cs):=aD.eD ⟨own1,own2,own3,own4,ap23⟩ bR (by decide) (by decide) (by decide) hgX;have BX:=(B0.tr Bw).grown hgX (B0.tr Bw).size (fun k hk=>by injection hk with hk;subst hk;exact hgR);have bPX:=(bP.bl Bw).grown hgX (by simp;omega);obtain⟨c_0,c_1,c_2,c_3⟩:=bPX.n4;clear own1 own2 own3 own4)
 refine tK hK fun hHeld=>?_
 clear hK K;refine tD ?_
 rotate_left 1
 refine tL fun K hK=>?_
 (refine fV iY rfl rfl ?_;intro g11 wX b11 hbX hg11a hg11b hgz;have hgy:=hbX.size;obtain⟨hcX,hfX,hzX⟩:=bkn hbX W0.heap.size hz;have hz:=hzX;have Bw:=Bw.tr hbX;have bR:=bR.bl hbX;(try have own1:=own1.below hbX);(try have own2:=own2.below hbX);(try have own3:=own3.below hbX);(try have own4:=own4.below hbX);(try have b3:=b3.bl hbX);(try have b7:=b7.bl hbX);(try have b11:=b11.bl hbX))
 refine tK hK fun hHeld=>?_
 clear hK K;refine(tR [5])<|tL fun K hK=>?_
 (go_simp;go_at_call 88;go_must (refine(cZ _ f _ (h2.Oz (B0.tr Bw)) s2).mono ?_;rintro e wX ⟨C2,e2,rfl,own2,hbX⟩;have own2:=own2.mono (show w.heap.size<=_ by omega);have hgy:=hbX.size;obtain⟨hcX,hfX,hzX⟩:=bkn hbX W0.heap.size hz;have hz:=hzX;have Bw:=Bw.tr hbX;have bR:=bR.bl hbX;(try have own1:=own1.below hbX);(try have own2:=own2.below hbX);(try have own3:=own3.below hbX);(try have own4:=own4.below hbX);(try have b3:=b3.bl hbX);(try have b7:=b7.bl hbX);(try have b11:=b11.bl hbX)))
 refine tK hK fun hHeld=>?_
 clear hK K;refine(tR [8])<|tL fun K hK=>?_
 (go_simp;go_at_call 88;go_must (refine(cZ _ n _ (h3.Oz (B0.tr Bw)) s3).mono ?_;rintro e wX ⟨C3,e3,rfl,own3,hbX⟩;have ap23:∀k,(Value.slice C2 f.length e2).ownBlock=some k->(Value.slice C3 n.length e3).ownBlock≠some k:=fun k q=>own2.early own3 (Nat.le_refl _) q;have own3:=own3.mono (show w.heap.size<=_ by omega);have hgy:=hbX.size;obtain⟨hcX,hfX,hzX⟩:=bkn hbX W0.heap.size hz;have hz:=hzX;have Bw:=Bw.tr hbX;have bR:=bR.bl hbX;(try have own1:=own1.below hbX);(try have own2:=own2.below hbX);(try have own3:=own3.below hbX);(try have own4:=own4.below hbX);(try have b3:=b3.bl hbX);(try have b7:=b7.bl hbX);(try have b11:=b11.bl hbX)))
 refine tK hK fun hHeld=>?_
 clear hK K;refine(tR [12])<|tL fun K hK=>?_
 (refine iC iY dS oneCell (B:=w.heap.size) b11 (by omega) (h4.Oz (B0.tr Bw)) H4.out M4.out rfl _ _ rfl rfl rfl ?_;intro C4 e4 wX own4 hbX hk4 hgz;have hgy:=hbX.size;obtain⟨hcX,hfX,hzX⟩:=bkn hbX W0.heap.size hz;have hz:=hzX;have Bw:=Bw.tr hbX;have bR:=bR.bl hbX;(try have own1:=own1.below hbX);(try have own2:=own2.below hbX);(try have own3:=own3.below hbX);(try have own4:=own4.below hbX);(try have b3:=b3.bl hbX);(try have b7:=b7.bl hbX);(try have b11:=b11.bl hbX))
 refine tK hK fun hHeld=>?_
 clear hK K;refine(tW 13)<|(tR [14])<|tL fun K hK=>?_
 (refine aJ rfl 30 _ _ rfl gR _ rfl rfl _ _ bR (by kernel_rfl) rfl (by simp[Value.oneCell']) ?_;intro wX bX hgX;have oF:aD w.heap.size wX _ _ _ _ (rows,f,n,cs):=aD.eD ⟨own1,own2,own3,own4,ap23⟩ bR (by decide) (by decide) (by decide) hgX;have BX:=(B0.tr Bw).grown hgX (B0.tr Bw).size (fun k hk=>by injection hk with hk;subst hk;exact hgR);have bPX:=(bP.bl Bw).grown hgX (by simp;omega);obtain⟨c_0,c_1,c_2,c_3⟩:=bPX.n4;clear own1 own2 own3 own4)
 refine tK hK fun hHeld=>?_
 clear hK K;refine tD ?_
 rotate_left 1
 refine tL fun K hK=>?_
 (refine fV iY rfl rfl ?_;intro g11 wX b11 hbX hg11a hg11b hgz;have hgy:=hbX.size;obtain⟨hcX,hfX,hzX⟩:=bkn hbX W0.heap.size hz;have hz:=hzX;have Bw:=Bw.tr hbX;have bR:=bR.bl hbX;(try have own1:=own1.below hbX);(try have own2:=own2.below hbX);(try have own3:=own3.below hbX);(try have own4:=own4.below hbX);(try have b3:=b3.bl hbX);(try have b7:=b7.bl hbX);(try have b11:=b11.bl hbX))
 refine tK hK fun hHeld=>?_
 clear hK K;refine(tR [2])<|tL fun K hK=>?_
 (go_simp;go_at_call 87;go_must (refine(AP _ rows _ (h1.Oz (B0.tr Bw)) s1).mono ?_;rintro e wX ⟨C1,e1,rfl,own1,hbX⟩;have own1:=own1.mono (show w.heap.size<=_ by omega);have hgy:=hbX.size;obtain⟨hcX,hfX,hzX⟩:=bkn hbX W0.heap.size hz;have hz:=hzX;have Bw:=Bw.tr hbX;have bR:=bR.bl hbX;(try have own1:=own1.below hbX);(try have own2:=own2.below hbX);(try have own3:=own3.below hbX);(try have own4:=own4.below hbX);(try have b3:=b3.bl hbX);(try have b7:=b7.bl hbX);(try have b11:=b11.bl hbX)))
 refine tK hK fun hHeld=>?_
 clear hK K;refine(tR [5])<|tL fun K hK=>?_
 (go_simp;go_at_call 88;go_must (refine(cZ _ f _ (h2.Oz (B0.tr Bw)) s2).mono ?_;rintro e wX ⟨C2,e2,rfl,own2,hbX⟩;have own2:=own2.mono (show w.heap.size<=_ by omega);have hgy:=hbX.size;obtain⟨hcX,hfX,hzX⟩:=bkn hbX W0.heap.size hz;have hz:=hzX;have Bw:=Bw.tr hbX;have bR:=bR.bl hbX;(try have own1:=own1.below hbX);(try have own2:=own2.below hbX);(try have own3:=own3.below hbX);(try have own4:=own4.below hbX);(try have b3:=b3.bl hbX);(try have b7:=b7.bl hbX);(try have b11:=b11.bl hbX)))
 refine tK hK fun hHeld=>?_
 clear hK K;refine(tR [8])<|tL fun K hK=>?_
 (go_simp;go_at_call 88;go_must (refine(cZ _ n _ (h3.Oz (B0.tr Bw)) s3).mono ?_;rintro e wX ⟨C3,e3,rfl,own3,hbX⟩;have ap23:∀k,(Value.slice C2 f.length e2).ownBlock=some k->(Value.slice C3 n.length e3).ownBlock≠some k:=fun k q=>own2.early own3 (Nat.le_refl _) q;have own3:=own3.mono (show w.heap.size<=_ by omega);have hgy:=hbX.size;obtain⟨hcX,hfX,hzX⟩:=bkn hbX W0.heap.size hz;have hz:=hzX;have Bw:=Bw.tr hbX;have bR:=bR.bl hbX;(try have own1:=own1.below hbX);(try have own2:=own2.below hbX);(try have own3:=own3.below hbX);(try have own4:=own4.below hbX);(try have b3:=b3.bl hbX);(try have b7:=b7.bl hbX);(try have b11:=b11.bl hbX)))
 refine tK hK fun hHeld=>?_
 clear hK K;refine(tR [12])<|tL fun K hK=>?_
 (refine iC iY dS oneCell (B:=w.heap.size) b11 (by omega) (h4.Oz (B0.tr Bw)) H4.out M4.out rfl _ _ rfl rfl rfl ?_;intro C4 e4 wX own4 hbX hk4 hgz;have hgy:=hbX.size;obtain⟨hcX,hfX,hzX⟩:=bkn hbX W0.heap.size hz;have hz:=hzX;have Bw:=Bw.tr hbX;have bR:=bR.bl hbX;(try have own1:=own1.below hbX);(try have own2:=own2.below hbX);(try have own3:=own3.below hbX);(try have own4:=own4.below hbX);(try have b3:=b3.bl hbX);(try have b7:=b7.bl hbX);(try have b11:=b11.bl hbX))
 refine tK hK fun hHeld=>?_
 clear hK K;refine(tW 13)<|(tR [14])<|tL fun K hK=>?_
 (refine aJ rfl 30 _ _ rfl gR _ rfl rfl _ _ bR (by kernel_rfl) rfl (by simp[Value.oneCell']) ?_;intro wX bX hgX;have oF:aD w.heap.size wX _ _ _ _ (rows,f,n,cs):=aD.eD ⟨own1,own2,own3,own4,ap23⟩ bR (by decide) (by decide) (by decide) hgX;have BX:=(B0.tr Bw).grown hgX (B0.tr Bw).size (fun k hk=>by injection hk with hk;subst hk;exact hgR);have bPX:=(bP.bl Bw).grown hgX (by simp;omega);obtain⟨c_0,c_1,c_2,c_3⟩:=bPX.n4;clear own1 own2 own3 own4)
 refine tK hK fun hHeld=>?_
 clear hK K;refine tD ?_
 all_goals
   go_wp2_with fail
   obtain⟨q_0,q_1,q_2,q_3⟩:=bX.n4;refine bodyPost_ret (v:= .agg #[.slice C1 rows.length e1,.slice C2 f.length e2,.slice C3 n.length e3,.slice C4 cs.length e4]) (by simp[results,Tryz.results83,go_sem,q_0,q_1,q_2,q_3]) rfl ⟨C1,e1,C2,e2,C3,e3,C4,e4,rfl,oF,BX⟩
end Go.Proofs.YtljfoohaapckeaaGreatDoor
