/- The sample workshop, on both sides: the walk, with OpenWorkshop's answer as given. No conditions. A drawn workshop or the sample. No conditions but sizes. A drawn scenario: a workshop and acts. No conditions but sizes. -/
import Derived.Test.YtljfoohaapckeaaGreatDoorAG41
import Derived.Test.YtljfoohaapckeaaGreatDoorAK3
import Derived.Test.YtljfoohaapckeaaGreatDoorAG13
import Derived.Test.YtljfoohaapckeaaGreatDoorADrawW
namespace Go.Proofs.YtljfoohaapckeaaGreatDoor
open Go.ChangeShapes Go.WideShapes Go.ChangeAt Go.RowKit
set_option linter.unusedVariables false
set_option linter.unusedSimpArgs false
set_option maxHeartbeats 4000000
set_option maxRecDepth 100000
theorem K5 (z:Fl) (st:Int) (b:Bool) (w:World)
    (CO:∀(u:Value) (w:World),Rd 1 aX w u (aV 4 4)->Calls Tryz.prog 128 #[.agg #[u],.int .i64 12] w (sQ z st 0 0 b w)):
    Calls Tryz.prog 121 #[] w (Iz z st 0 0 w):=by
 have CR:∀(w:World),Calls Tryz.prog 177 #[.int .i64 4,.int .i64 4] w (Fw (aV 4 4) w):=fun w=>uT 4 4 w ⟨by decide,by decide⟩ ⟨by decide,by decide⟩
 obtain⟨y1,y2,y3,y4⟩:=z;obtain⟨rr,hrr⟩:=Pj (aV 4 4);rw[<-hrr]at CO CR;clear hrr;have B0:=(Below.refl w.heap.size w).al (.cells #[.slice none 0 0,.slice none 0 0,.slice none 0 0,.slice none 0 0,.int .i64 0,.int .i64 0,.int .i64 0] 32);have bR:=Blk.aW w 32 #[.slice none 0 0,.slice none 0 0,.slice none 0 0,.slice none 0 0,.int .i64 0,.int .i64 0,.int .i64 0];go_enter Tryz.func121,Tryz.ntmps121
 go_wp2_with fail
 refine(CR _).mono ?_;rintro e w1 ⟨P,q,rfl,oP,hb1⟩;go_wp2_with fail
 refine(CO _ _ (oP.rd aJ (by decide))).mono ?_;rintro e w2 ⟨A1,c1,A2,c2,A3,c3,A4,c4,rfl,oY,hb2⟩;have oY:=(oY.mono (B0.tr hb1).size).alloc (.cells #[.slice none 0 0,.slice none 0 0,.slice none 0 0,.slice none 0 0,.int .i64 0,.int .i64 0,.int .i64 0] 32);have B1:=((B0.tr hb1).tr hb2).al (.cells #[.slice none 0 0,.slice none 0 0,.slice none 0 0,.slice none 0 0,.int .i64 0,.int .i64 0,.int .i64 0] 32);have bR1:=((bR.bl hb1).bl hb2).alloc (.cells #[.slice none 0 0,.slice none 0 0,.slice none 0 0,.slice none 0 0,.int .i64 0,.int .i64 0,.int .i64 0] 32);have bO:=Blk.aW w2 32 #[.slice none 0 0,.slice none 0 0,.slice none 0 0,.slice none 0 0,.int .i64 0,.int .i64 0,.int .i64 0];have hgO:w.heap.size<=w2.heap.size:=((B0.tr hb1).tr hb2).size;have hRl:=((bR.bl hb1).bl hb2).lt;have hgR:w.heap.size<=w.heap.size:=Nat.le_refl _;clear hb1 hb2 B0 bR;go_wp2_with (first|(refine dC rfl 32 _ _ rfl w2.heap.size #[.slice A1 y1.length c1,.slice A2 y2.length c2,.slice A3 y3.length c3,.slice A4 y4.length c4,.int .i64 st,.int .i64 0,.int .i64 0] rfl rfl _ _ bO (by kernel_rfl) rfl (by simp[Value.oneCell']) ?_;intro wS bS hgS;have oS:=aB.bZ oY bO (by decide) (by decide) (by decide) hgS;have bRS:=bR1.grown hgS (by simp;omega);have BS:=B1.grown hgS B1.size (fun k hk=>by injection hk with hk;subst hk;exact hgO);obtain⟨y_0,y_1,y_2,y_3,y_4,y_5,y_6⟩:=bS.n7)|(refine dC rfl 32 _ _ rfl w.heap.size #[.slice A1 y1.length c1,.slice A2 y2.length c2,.slice A3 y3.length c3,.slice A4 y4.length c4,.int .i64 st,.int .i64 0,.int .i64 0] rfl rfl _ _ bRS (by kernel_rfl) rfl (by simp[Value.oneCell']) ?_;intro wE bE hgE))
 have oE:aB w.heap.size wE _ _ _ _ _:=aB.bZ (oS) bRS (by decide) (by decide) (by decide) hgE;have BE:=BS.grown hgE BS.size (fun k hk=>by injection hk with hk;subst hk;exact hgR);obtain⟨q_0,q_1,q_2,q_3,q_4,q_5,q_6⟩:=bE.n7;refine bodyPost_ret (v:= .agg #[.slice A1 y1.length c1,.slice A2 y2.length c2,.slice A3 y3.length c3,.slice A4 y4.length c4,.int .i64 st,.int .i64 0,.int .i64 0]) (by simp[results,Tryz.results121,go_sem,q_0,q_1,q_2,q_3,q_4,q_5,q_6]) rfl ⟨A1,c1,A2,c2,A3,c3,A4,c4,rfl,oE,BE⟩
theorem OY:R12 (aV 4 4):=by
 have hr:dM (aV 4 4):=by
  refine⟨by simp[aV],fun r hr=> ?_⟩;unfold aV at hr;rw[(List.mem_replicate.1 hr).2];omega
 have h:1<=(iJ (setOf (aV 4 4))).length/\(iJ (setOf (aV 4 4))).length<=60:=by decide+kernel
 have e:bG (aV 4 4)=((iJ (setOf (aV 4 4))).length:Nat):=by
  unfold bG;rw[if_pos (aN.2 hr),qR (dY hr)]
 exact⟨hr,by omega,by omega,qV (by decide)⟩
theorem MV {rows:List Int} (hr:R12 rows) (hc:(dW rows).length=16):bT (iR rows,12-((iR rows).2.2.1.length:Int),0,0)=true:=by
 have hf:=MS hr;obtain⟨h1,h2,h3,h4⟩:=yH hr;refine jU.2 ⟨hf,?_⟩;unfold dI at h3;rw[Bool.and_eq_true,decide_eq_true_iff,hc]at h3;have h5:=h3.2;rw[h2];unfold inB;simp;omega
theorem Jd {rows:List Int} (hr:R12 rows) (hc:(dW rows).length=16) (v:Value) (w:World) (h:Rd 1 aX w v rows):Calls Tryz.prog 128 #[.agg #[v],.int .i64 12] w (sQ (iR rows) (12-((iR rows).2.2.1.length:Int)) 0 0 true w):=by
 have hl:Small rows.length:=by have:=hr.1.1;unfold Small;omega
 have CS:=EC v rows 12 _ w h hl (fun u1 u2 u3 u4 w k1 k2 k3 k4=>fJ u1 u2 u3 u4 (iR rows,12-((iR rows).2.2.1.length:Int),0,0) w k1 k2 k3 k4 (qW hl).2.1);rw[MV hr hc,(yH hr).1,show inB 12 0 20000=true from rfl]at CS;exact CS
theorem Mw:∃(x:Fl) (s:Int),bT (x,s,0,0)=true/\cZ x/\∀w,Calls Tryz.prog 121 #[] w (Iz x s 0 0 w):=by
 have hr:=OY;have hc:(dW (aV 4 4)).length=16:=(by decide+kernel);have CS:=fun(z:Fl) (st:Int) (w:World)=>K5 z st true w
 obtain⟨rows,hrows⟩:=Pj (aV 4 4);rw[<-hrows]at hr hc CS;have hl:Small rows.length:=by have:=hr.1.1;unfold Small;omega
 exact⟨_,_,MV hr hc,qW hl,fun w=>CS _ _ w (fun u w k1=>Jd hr hc u w k1)⟩
theorem Je (W : World) (g : Nat) (v : Value) (l : List Int) (w : World) (h : Rd 1 mI W v l) (Hok : Hid (nH (fun x => 0 <= x /\ x <= 255) l)) (hg : W.heap.size <= g) (hbel : Below W.heap.size W w) (hcur : Cur w g v l.length) :
 Calls Tryz.prog 60 #[.pointer (some ⟨g,0,none⟩)] w (Ia W g v l.length w):=by
 have hW:=hbel.size;have hX:=Blk.aW w 32 #[.slice none 0 0,.slice none 0 0,.slice none 0 0,.slice none 0 0,.int .i64 0,.int .i64 0,.int .i64 0];have D:=(DS.refl hcur hbel).al (.cells #[.slice none 0 0,.slice none 0 0,.slice none 0 0,.slice none 0 0,.int .i64 0,.int .i64 0,.int .i64 0] 32);go_enter Tryz.func60,Tryz.ntmps60
 go_wp2_with fail
 refine(xI 2 W g v l _ h Hok hg D.B D.cur (by decide)).mono ?_;rintro e w1 ⟨yes,rfl,c1,B1,g1⟩;replace hX:=hX.ds D.cur g1 (by decide);replace D:=D.dr c1 B1 g1;obtain⟨gX,hgX'⟩:=Pj w.heap.size;have HgX:=Pm hgX';rw[<-hgX']at hX;have hgX:w.heap.size<=gX:=(by omega);have hne:=(D.cur.ne hX (by decide)).symm;clear hgX' c1 B1 g1;rcases yes with _|_
 . go_wp2_with fail
   refine(EU W g v l _ h Hok hg D.B D.cur).mono ?_;rintro e w2 ⟨x,s,p,r,V1,V2,V3,V4,rfl,own,hf,hsm,D2⟩;replace hX:=hX.ds D.cur D2.gr (by decide);replace own:=own.mono (B':=w.heap.size) D.gr.size;replace D:=D.tr D2;have Hf:=Pm hf;have Hs:=Pm hsm;clear hf hsm D2;go_wp2_with (rw[<-HgX.out];refine aA rfl 32 _ _ rfl gX #[V1,V2,V3,V4,.int .i64 s,.int .i64 p,.int .i64 r] rfl rfl _ _ hX (by kernel_rfl) rfl (kC own.one) ?_;intro wE bE hgE)
   have oE:=aB.bZ own hX (by decide) (by decide) (by decide) hgE;obtain⟨q_0,q_1,q_2,q_3,q_4,q_5,q_6⟩:=bE.n7;refine bodyPost_ret (v:= .agg #[V1,V2,V3,V4,.int .i64 s,.int .i64 p,.int .i64 r]) (by simp[results,Tryz.results60,go_sem,q_0,q_1,q_2,q_3,q_4,q_5,q_6]) rfl ⟨x,s,p,r,V1,V2,V3,V4,rfl,oE,Hf.out,Hs.out,D.st hgE hgX hW hne⟩
 . obtain⟨x,s,hk,hs4,CW⟩:=Mw;go_wp2_with fail
   refine(CW _).mono ?_;rintro e w2 ⟨A1,c1,A2,c2,A3,c3,A4,c4,rfl,own,hb2⟩;replace hX:=hX.bl hb2;replace own:=own.mono (B':=w.heap.size) D.gr.size;replace D:=D.bl hb2;have Hf:=Pm hk;have Hs:=Pm hs4;clear hk hs4 hb2 CW;obtain⟨V1,hV1⟩:=Pj (Value.slice A1 x.1.length c1);obtain⟨V2,hV2⟩:=Pj (Value.slice A2 x.2.1.length c2);obtain⟨V3,hV3⟩:=Pj (Value.slice A3 x.2.2.1.length c3);obtain⟨V4,hV4⟩:=Pj (Value.slice A4 x.2.2.2.length c4);rw[<-hV1,<-hV2,<-hV3,<-hV4]at own⊢;clear hV1 hV2 hV3 hV4;go_wp2_with (rw[<-HgX.out];refine aA rfl 32 _ _ rfl gX #[V1,V2,V3,V4,.int .i64 s,.int .i64 0,.int .i64 0] rfl rfl _ _ hX (by kernel_rfl) rfl (kC own.one) ?_;intro wE bE hgE)
   have oE:=aB.bZ own hX (by decide) (by decide) (by decide) hgE;obtain⟨q_0,q_1,q_2,q_3,q_4,q_5,q_6⟩:=bE.n7;refine bodyPost_ret (v:= .agg #[V1,V2,V3,V4,.int .i64 s,.int .i64 0,.int .i64 0]) (by simp[results,Tryz.results60,go_sem,q_0,q_1,q_2,q_3,q_4,q_5,q_6]) rfl ⟨x,s,0,0,V1,V2,V3,V4,rfl,oE,Hf.out,Hs.out,D.st hgE hgX hW hne⟩
def Mx (w:World) (e:Ending) (w':World):Prop:=∃(x:Fl) (s p r:Int) (V1 V2 V3 V4:Value) (al:List Ac) (A:Option Addr) (c:Nat),e= .returned (.tuple #[.agg #[V1,V2,V3,V4,.int .i64 s,.int .i64 p,.int .i64 r],.slice A al.length c])/\aB w.heap.size w' V1 V2 V3 V4 x/\bT (x,s,p,r)=true/\cZ x/\
  aD 73 3 xG w.heap.size w' (.slice A al.length c) al/\al.length<=17/\(∀a∈al,mD a.1 a.2.1 a.2.2=true)/\Below w.heap.size w w'
theorem EW (v : Value) (l : List Int) (w : World) (h : Rd 1 mI w v l) (ok : nH (fun x => 0 <= x /\ x <= 255) l) (hl : l.length <= 1048576) :
 Calls Tryz.prog 14 #[v] w (Mx w):=by
 have Hok:=Pm ok;have hX:=Blk.aW w 32 #[.slice none 0 0,.slice none 0 0,.slice none 0 0,.slice none 0 0,.int .i64 0,.int .i64 0,.int .i64 0];have hA:=(Below.refl w.heap.size w).al (.cells #[.slice none 0 0,.slice none 0 0,.slice none 0 0,.slice none 0 0,.int .i64 0,.int .i64 0,.int .i64 0] 32);go_enter Tryz.func14,Tryz.ntmps14
 go_wp2_with fail
 refine(JC _ l _ (h.Pk hA) ok hl).mono ?_;rintro e w1 ⟨g,rfl,hg,hcur,hb1⟩;have hgw:w.heap.size<=g:=by simp at hg;omega
 have D:DS w w w1 g v l.length:=⟨hcur,hA.tr hb1,M8 (World.grownBy.refl w (some g)) (hA.tr hb1)⟩;replace hX:=hX.bl hb1;have hW:w.heap.size<=w.heap.size:=Nat.le_refl _;clear hcur hb1 hA;obtain⟨gX,hgX'⟩:=Pj w.heap.size;have HgX:=Pm hgX';rw[<-hgX']at hX;have hgX:w.heap.size<=gX:=(by omega);have hne:=(D.cur.ne hX (by decide)).symm;clear hgX' hg;go_wp2_with fail
 refine(Je w g v l _ h Hok hgw D.B D.cur).mono ?_;rintro e w2 ⟨x,s,p,r,V1,V2,V3,V4,rfl,own,hf,hsm,D2⟩;replace hX:=hX.ds D.cur D2.gr (by decide);replace own:=own.mono (B':=w.heap.size) D.gr.size;replace D:=D.tr D2;have Hf:=Pm hf;have Hs:=Pm hsm;clear hf hsm D2;go_wp2_with fail
 refine(EP w g v l _ h Hok hgw D.B D.cur).mono ?_;rintro e w3 ⟨al,A,c,rfl,oA,hal,hac,D3⟩;replace hX:=hX.ds D.cur D3.gr (by decide);replace own:=own.cur D.cur D3.gr;replace oA:=oA.mono (B':=w.heap.size) D.gr.size;replace D:=D.tr D3;have Hac:=Pm hac;clear hac D3;go_wp2_with (rw[<-HgX.out];refine aA rfl 32 _ _ rfl gX #[V1,V2,V3,V4,.int .i64 s,.int .i64 p,.int .i64 r] rfl rfl _ _ hX (by kernel_rfl) rfl (kC own.one) ?_;intro wE bE hgE)
 have oE:=aB.bZ own hX (by decide) (by decide) (by decide) hgE;have oAE:=aD.vZ oA hX (by decide) hgE;obtain⟨q_0,q_1,q_2,q_3,q_4,q_5,q_6⟩:=bE.n7;refine bodyPost_ret (v:= .tuple #[.agg #[V1,V2,V3,V4,.int .i64 s,.int .i64 p,.int .i64 r],.slice A al.length c]) (by simp[results,Tryz.results14,go_sem,q_0,q_1,q_2,q_3,q_4,q_5,q_6]) rfl ⟨x,s,p,r,V1,V2,V3,V4,al,A,c,rfl,oE,Hf.out,Hs.out,oAE,hal,Hac.out,(D.st hgE hgX hW hne).B⟩
end Go.Proofs.YtljfoohaapckeaaGreatDoor
