/- Floors copied, by the reference and by the program: the walks. Conditions: sizes. -/
import Derived.Test.YtljfoohaapckeaaGreatDoorBG6
namespace Go.Proofs.YtljfoohaapckeaaGreatDoor
open Go.ChangeShapes Go.WideShapes Go.ChangeAt Go.RowKit
set_option linter.unusedVariables false
set_option linter.unusedSimpArgs false
set_option maxHeartbeats 4000000
set_option maxRecDepth 100000
theorem aC.row {B g:Nat} {w w':World} {v1 v2 v3 v4:Value} {x:Fl} {t:TypeId} {cs:Array Value} (h:aC B w v1 v2 v3 v4 x) (hb:Blk w g t cs) (h1:3≠t) (h2:60≠t) (h3:70≠t) (hg:w.grownBy w' (some g)):aC B w' v1 v2 v3 v4 x:=
 h.lJ (S:=fun k=>k=g) ⟨hg.os,hg.tape,hg.output,hg.size,fun k hk hs=>hg.block k hk (fun e=>hs (by injection e))⟩ (fun k hk e=>h.apart hb h1 h2 h3 (e▸hk))
theorem qH (v1 v2 v3 v4:Value) (x:Fl) (w:World) (h1:Rd 1 bH w v1 x.1) (h2:Rd 3 aT w v2 x.2.1) (h3:Rd 3 aT w v3 x.2.2.1) (h4:Rd 2 bV w v4 x.2.2.2) (hs:dA x):Calls Tryz.prog 151 #[.agg #[v1,v2,v3,v4]] w (xU x w):=by
 obtain⟨rows,f,n,cs⟩:=x;simp only at h1 h2 h3 h4;obtain⟨s1,s2,s3,s4⟩:=hs;simp only at s1 s2 s3 s4;obtain⟨A1,c1,rfl,hc1,hm1⟩:=h1.form;obtain⟨A2,c2,rfl,hc2,hm2⟩:=h2.form;obtain⟨A3,c3,rfl,hc3,hm3⟩:=h3.form;obtain⟨A4,c4,rfl,hc4,hm4⟩:=h4.form;have B0:=((Below.refl w.heap.size w).al (.cells #[.slice A1 rows.length c1,.slice A2 f.length c2,.slice A3 n.length c3,.slice A4 cs.length c4] 30)).al (.cells #[.slice none 0 0,.slice none 0 0,.slice none 0 0,.slice none 0 0] 30);have bP:=(Blk.aZ w 30 #[.slice A1 rows.length c1,.slice A2 f.length c2,.slice A3 n.length c3,.slice A4 cs.length c4]).alloc (.cells #[.slice none 0 0,.slice none 0 0,.slice none 0 0,.slice none 0 0] 30);have bR:=Blk.iC (w.alloc (.cells #[.slice A1 rows.length c1,.slice A2 f.length c2,.slice A3 n.length c3,.slice A4 cs.length c4] 30)) 30 #[.slice none 0 0,.slice none 0 0,.slice none 0 0,.slice none 0 0] (w.heap.size+1) (by simp);have H2:Hid (f.length*24<=140737488355328):=Qk (by unfold Small at s2;omega);have H3:Hid (n.length*24<=140737488355328):=Qk (by unfold Small at s3;omega);have H4:Hid (cs.length*16<=140737488355328):=Qk (by unfold Small at s4;omega);have M2:=Qk s2.max;have M3:=Qk s3.max;have M4:=Qk s4.max;go_enter Tryz.func151,Tryz.ntmps151
 go_wp2_with fail
 obtain⟨W0,hW0⟩:=Qi ((w.alloc (.cells #[.slice A1 rows.length c1,.slice A2 f.length c2,.slice A3 n.length c3,.slice A4 cs.length c4] 30)).alloc (.cells #[.slice none 0 0,.slice none 0 0,.slice none 0 0,.slice none 0 0] 30));obtain⟨gP,hgP⟩:=Qi w.heap.size;obtain⟨gR,hgR'⟩:=Qi (w.heap.size+1);rw[<-hW0]at B0 bP bR⊢;rw[<-hgR']at bR⊢;rw[<-hgP]at bP⊢;have hgR:w.heap.size<=gR:=(by omega);have hPR:gP≠gR:=(by omega);have hw0:w.heap.size<=W0.heap.size:=B0.size;clear hW0 hgP hgR';obtain⟨z_0,z_1,z_2,z_3⟩:=bP.n4;have hp0:=bP.lt;have hr0:=bR.lt;have Bw:Below W0.heap.size W0 W0.drew:=(Below.refl _ _).drew;have hz:W0.heap.size<=W0.drew.heap.size:=(by simp);have bR:=bR.bl Bw;refine rB (fun w'=>w'.cell? ⟨gP,0,none⟩=some (.slice A1 rows.length c1)/\w'.cell? ⟨gP,1,none⟩=some (.slice A2 f.length c2)/\w'.cell? ⟨gP,2,none⟩=some (.slice A3 n.length c3)/\w'.cell? ⟨gP,3,none⟩=some (.slice A4 cs.length c4)) fun hHeld=>?_
 repeat' (first
  |((with_reducible show AllReadyH _ _ _ _ _ _ _ _ _ _);first
  |(with_reducible exact AllReadyH.nil)
  | (refine tN 2 (fun K hK=>?_) ?_
     (go_simp;go_at_call 195;go_must (refine(vH _ rows _ (h1.Qj (B0.tr Bw)) s1).mono ?_;rintro e wX ⟨C1,e1,rfl,own1,hbX⟩;have own1:=own1.mono (show w.heap.size<=_ by omega);have hgy:=hbX.size;obtain⟨hcX,hfX,hzX⟩:=bkn hbX W0.heap.size hz;have hz:=hzX;have Bw:=Bw.tr hbX;have bR:=bR.bl hbX;(try have own1:=own1.below hbX);(try have own2:=own2.below hbX);(try have own3:=own3.below hbX);(try have own4:=own4.below hbX);(try have b3:=b3.bl hbX);(try have b7:=b7.bl hbX);(try have b11:=b11.bl hbX)))
     refine tK hK fun hHeld=>?_
     clear hK K)
  | (refine tN 3 (fun K hK=>?_) ?_
     (refine fZ aL rfl rfl ?_;intro g3 wX b3 hbX hg3a hg3b hgz;have hgy:=hbX.size;obtain⟨hcX,hfX,hzX⟩:=bkn hbX W0.heap.size hz;have hz:=hzX;have Bw:=Bw.tr hbX;have bR:=bR.bl hbX;(try have own1:=own1.below hbX);(try have own2:=own2.below hbX);(try have own3:=own3.below hbX);(try have own4:=own4.below hbX);(try have b3:=b3.bl hbX);(try have b7:=b7.bl hbX);(try have b11:=b11.bl hbX))
     refine tK hK fun hHeld=>?_
     clear hK K)
  | (refine tN 6 (fun K hK=>?_) ?_
     (refine iM aL aB aM (B:=w.heap.size) b3 (by omega) (h2.Qj (B0.tr Bw)) H2.out M2.out rfl _ _ rfl rfl rfl ?_;intro C2 e2 wX own2 hbX hk2 hgz;have hgy:=hbX.size;obtain⟨hcX,hfX,hzX⟩:=bkn hbX W0.heap.size hz;have hz:=hzX;have Bw:=Bw.tr hbX;have bR:=bR.bl hbX;(try have own1:=own1.below hbX);(try have own2:=own2.below hbX);(try have own3:=own3.below hbX);(try have own4:=own4.below hbX);(try have b3:=b3.bl hbX);(try have b7:=b7.bl hbX);(try have b11:=b11.bl hbX))
     refine tK hK fun hHeld=>?_
     clear hK K)
  | (refine tN 7 (fun K hK=>?_) ?_
     (refine fZ aL rfl rfl ?_;intro g7 wX b7 hbX hg7a hg7b hgz;have hgy:=hbX.size;obtain⟨hcX,hfX,hzX⟩:=bkn hbX W0.heap.size hz;have hz:=hzX;have Bw:=Bw.tr hbX;have bR:=bR.bl hbX;(try have own1:=own1.below hbX);(try have own2:=own2.below hbX);(try have own3:=own3.below hbX);(try have own4:=own4.below hbX);(try have b3:=b3.bl hbX);(try have b7:=b7.bl hbX);(try have b11:=b11.bl hbX))
     refine tK hK fun hHeld=>?_
     clear hK K)
  | (refine tN 10 (fun K hK=>?_) ?_
     (refine iM aL aB aM (B:=w.heap.size) b7 (by omega) (h3.Qj (B0.tr Bw)) H3.out M3.out rfl _ _ rfl rfl rfl ?_;intro C3 e3 wX own3 hbX hk3 hgz;have hgy:=hbX.size;obtain⟨hcX,hfX,hzX⟩:=bkn hbX W0.heap.size hz;have hz:=hzX;have Bw:=Bw.tr hbX;have bR:=bR.bl hbX;(try have own1:=own1.below hbX);(try have own2:=own2.below hbX);(try have own3:=own3.below hbX);(try have own4:=own4.below hbX);(try have b3:=b3.bl hbX);(try have b7:=b7.bl hbX);(try have b11:=b11.bl hbX))
     refine tK hK fun hHeld=>?_
     clear hK K)
  | (refine tN 11 (fun K hK=>?_) ?_
     (refine fZ iY rfl rfl ?_;intro g11 wX b11 hbX hg11a hg11b hgz;have hgy:=hbX.size;obtain⟨hcX,hfX,hzX⟩:=bkn hbX W0.heap.size hz;have hz:=hzX;have Bw:=Bw.tr hbX;have bR:=bR.bl hbX;(try have own1:=own1.below hbX);(try have own2:=own2.below hbX);(try have own3:=own3.below hbX);(try have own4:=own4.below hbX);(try have b3:=b3.bl hbX);(try have b7:=b7.bl hbX);(try have b11:=b11.bl hbX))
     refine tK hK fun hHeld=>?_
     clear hK K)
  | (refine tN 14 (fun K hK=>?_) ?_
     (refine iM iY dX oneCell (B:=w.heap.size) b11 (by omega) (h4.Qj (B0.tr Bw)) H4.out M4.out rfl _ _ rfl rfl rfl ?_;intro C4 e4 wX own4 hbX hk4 hgz;have hgy:=hbX.size;obtain⟨hcX,hfX,hzX⟩:=bkn hbX W0.heap.size hz;have hz:=hzX;have Bw:=Bw.tr hbX;have bR:=bR.bl hbX;(try have own1:=own1.below hbX);(try have own2:=own2.below hbX);(try have own3:=own3.below hbX);(try have own4:=own4.below hbX);(try have b3:=b3.bl hbX);(try have b7:=b7.bl hbX);(try have b11:=b11.bl hbX))
     refine tK hK fun hHeld=>?_
     clear hK K)
  | (refine tN 16 (fun K hK=>?_) ?_
     (refine aG rfl 30 _ _ rfl gR _ rfl rfl _ _ bR (by kernel_rfl) rfl (by simp[Value.oneCell']) ?_;intro wX bX hgX;have oF:aC w.heap.size wX _ _ _ _ (rows,f,n,cs):=aC.row ⟨own1,own2,own3,own4,fun k q2 q3=>by have e2:=hk2 k q2;have e3:=hk3 k q3;omega⟩ bR (by decide) (by decide) (by decide) hgX;have BX:=(B0.tr Bw).grown hgX (B0.tr Bw).size (fun k hk=>by injection hk with hk;subst hk;exact hgR);have bPX:=(bP.bl Bw).grown hgX (by simp;omega);obtain⟨c_0,c_1,c_2,c_3⟩:=bPX.n4;clear own1 own2 own3 own4)
     refine tK hK fun hHeld=>?_
     clear hK K)
  )
  |((with_reducible show wpAnyH _ _ _ _ _ _ _ _ _);first
  |(refine(tQ [2,3,7,11]) ?_)
  |(refine(tQ [3,7,11]) ?_)
  |(refine(tQ [6,7,11]) ?_)
  |(refine(tQ [7,11]) ?_)
  |(refine(tQ [10,11]) ?_)
  |(refine(tQ [11]) ?_)
  |(refine(tQ [14]) ?_)
  |(refine(tQ [16]) ?_)
  |(refine(tQ [10]) ?_)
  |(refine(tQ [7]) ?_)
  |(refine(tQ [6,11]) ?_)
  |(refine(tQ [6]) ?_)
  |(refine(tQ [6,7]) ?_)
  |(refine(tQ [3,11]) ?_)
  |(refine(tQ [3]) ?_)
  |(refine(tQ [3,7]) ?_)
  |(refine(tQ [2,7,11]) ?_)
  |(refine(tQ [2,11]) ?_)
  |(refine(tQ [2]) ?_)
  |(refine(tQ [2,7]) ?_)
  |(refine(tQ [2,3,11]) ?_)
  |(refine(tQ [2,3]) ?_)
  |(refine(tQ [2,3,7]) ?_)
  |(refine(tX 0) ?_)
  |(refine(tX 1) ?_)
  |(refine(tX 4) ?_)
  |(refine(tX 5) ?_)
  |(refine(tX 8) ?_)
  |(refine(tX 9) ?_)
  |(refine(tX 12) ?_)
  |(refine(tX 13) ?_)
  |(refine(tX 15) ?_)
  |(refine tE ?_)))
 all_goals (refine⟨trivial,?_⟩)
 all_goals
   go_wp2_with fail
   obtain⟨q_0,q_1,q_2,q_3⟩:=bX.n4;refine bodyPost_ret (v:= .agg #[.slice C1 rows.length e1,.slice C2 f.length e2,.slice C3 n.length e3,.slice C4 cs.length e4]) (by simp[results,Tryz.results151,go_sem,q_0,q_1,q_2,q_3]) rfl ⟨C1,e1,C2,e2,C3,e3,C4,e4,rfl,oF,BX⟩
end Go.Proofs.YtljfoohaapckeaaGreatDoor
