/- The sample workshop, on both sides: the walk, with OpenWorkshop's answer as given. No conditions. A drawn workshop or the sample. No conditions but sizes. A drawn scenario: a workshop and acts. No conditions but sizes. -/
import Derived.Test.YtljfoohaapckeaaGreatDoorBG40
import Derived.Test.YtljfoohaapckeaaGreatDoorBK3
import Derived.Test.YtljfoohaapckeaaGreatDoorBG14
import Derived.Test.YtljfoohaapckeaaGreatDoorBDrawW
namespace Go.Proofs.YtljfoohaapckeaaGreatDoor
open Go.ChangeShapes Go.WideShapes Go.ChangeAt Go.RowKit
set_option linter.unusedVariables false
set_option linter.unusedSimpArgs false
set_option maxHeartbeats 4000000
set_option maxRecDepth 100000
theorem LX (z:Fl) (st:Int) (b:Bool) (w:World)
    (CO:∀(u:Value) (w:World),Rd 1 bH w u (aW 4 4)->Calls Tryz.prog 128 #[.agg #[u],.int .i64 12] w (uB z st 0 0 b w)):
    Calls Tryz.prog 121 #[] w (Jk z st 0 0 w):=by
 have CR:∀(w:World),Calls Tryz.prog 177 #[.int .i64 4,.int .i64 4] w (Ga (aW 4 4) w):=fun w=>vI 4 4 w ⟨by decide,by decide⟩ ⟨by decide,by decide⟩
 obtain⟨y1,y2,y3,y4⟩:=z;obtain⟨rr,hrr⟩:=Qi (aW 4 4);rw[<-hrr]at CO CR;clear hrr;have B0:=(Below.refl w.heap.size w).al (.cells #[.slice none 0 0,.slice none 0 0,.slice none 0 0,.slice none 0 0,.int .i64 0,.int .i64 0,.int .i64 0] 32);have bR:=Blk.aZ w 32 #[.slice none 0 0,.slice none 0 0,.slice none 0 0,.slice none 0 0,.int .i64 0,.int .i64 0,.int .i64 0];go_enter Tryz.func121,Tryz.ntmps121
 go_wp2_with fail
 refine(CR _).mono ?_;rintro e w1 ⟨P,q,rfl,oP,hb1⟩;go_wp2_with fail
 refine(CO _ _ (oP.rd aI (by decide))).mono ?_;rintro e w2 ⟨A1,c1,A2,c2,A3,c3,A4,c4,rfl,oY,hb2⟩;have oY:=(oY.mono (B0.tr hb1).size).alloc (.cells #[.slice none 0 0,.slice none 0 0,.slice none 0 0,.slice none 0 0,.int .i64 0,.int .i64 0,.int .i64 0] 32);have B1:=((B0.tr hb1).tr hb2).al (.cells #[.slice none 0 0,.slice none 0 0,.slice none 0 0,.slice none 0 0,.int .i64 0,.int .i64 0,.int .i64 0] 32);have bR1:=((bR.bl hb1).bl hb2).alloc (.cells #[.slice none 0 0,.slice none 0 0,.slice none 0 0,.slice none 0 0,.int .i64 0,.int .i64 0,.int .i64 0] 32);have bO:=Blk.aZ w2 32 #[.slice none 0 0,.slice none 0 0,.slice none 0 0,.slice none 0 0,.int .i64 0,.int .i64 0,.int .i64 0];have hgO:w.heap.size<=w2.heap.size:=((B0.tr hb1).tr hb2).size;have hRl:=((bR.bl hb1).bl hb2).lt;have hgR:w.heap.size<=w.heap.size:=Nat.le_refl _;clear hb1 hb2 B0 bR;go_wp2_with (first|(refine dC rfl 32 _ _ rfl w2.heap.size #[.slice A1 y1.length c1,.slice A2 y2.length c2,.slice A3 y3.length c3,.slice A4 y4.length c4,.int .i64 st,.int .i64 0,.int .i64 0] rfl rfl _ _ bO (by kernel_rfl) rfl (by simp[Value.oneCell']) ?_;intro wS bS hgS;have oS:=aC.dB oY bO (by decide) (by decide) (by decide) hgS;have bRS:=bR1.grown hgS (by simp;omega);have BS:=B1.grown hgS B1.size (fun k hk=>by injection hk with hk;subst hk;exact hgO);obtain⟨y_0,y_1,y_2,y_3,y_4,y_5,y_6⟩:=bS.n7)|(refine dC rfl 32 _ _ rfl w.heap.size #[.slice A1 y1.length c1,.slice A2 y2.length c2,.slice A3 y3.length c3,.slice A4 y4.length c4,.int .i64 st,.int .i64 0,.int .i64 0] rfl rfl _ _ bRS (by kernel_rfl) rfl (by simp[Value.oneCell']) ?_;intro wE bE hgE))
 have oE:aC w.heap.size wE _ _ _ _ _:=aC.dB (oS) bRS (by decide) (by decide) (by decide) hgE;have BE:=BS.grown hgE BS.size (fun k hk=>by injection hk with hk;subst hk;exact hgR);obtain⟨q_0,q_1,q_2,q_3,q_4,q_5,q_6⟩:=bE.n7;refine bodyPost_ret (v:= .agg #[.slice A1 y1.length c1,.slice A2 y2.length c2,.slice A3 y3.length c3,.slice A4 y4.length c4,.int .i64 st,.int .i64 0,.int .i64 0]) (by simp[results,Tryz.results121,go_sem,q_0,q_1,q_2,q_3,q_4,q_5,q_6]) rfl ⟨A1,c1,A2,c2,A3,c3,A4,c4,rfl,oE,BE⟩
theorem PV:R12 (aW 4 4):=by
 have hr:dS (aW 4 4):=by
  refine⟨by simp[aW],fun r hr=> ?_⟩;unfold aW at hr;rw[(List.mem_replicate.1 hr).2];omega
 have h:1<=(iX (setOf (aW 4 4))).length/\(iX (setOf (aW 4 4))).length<=60:=by decide+kernel
 have e:bK (aW 4 4)=((iX (setOf (aW 4 4))).length:Nat):=by
  unfold bK;rw[if_pos (aN.2 hr),rG (dU hr)]
 exact⟨hr,by omega,by omega,rJ (by decide)⟩
theorem NQ {rows:List Int} (hr:R12 rows) (hc:(eF rows).length=16):aY (iT rows,12-((iT rows).2.2.1.length:Int),0,0)=true:=by
 have hf:=NP hr;obtain⟨h1,h2,h3,h4⟩:=yT hr;refine nA.2 ⟨hf,?_⟩;unfold eG at h3;rw[Bool.and_eq_true,decide_eq_true_iff,hc]at h3;have h5:=h3.2;rw[h2];unfold inB;simp;omega
theorem JM {rows:List Int} (hr:R12 rows) (hc:(eF rows).length=16) (v:Value) (w:World) (h:Rd 1 bH w v rows):Calls Tryz.prog 128 #[.agg #[v],.int .i64 12] w (uB (iT rows) (12-((iT rows).2.2.1.length:Int)) 0 0 true w):=by
 have hl:Small rows.length:=by have:=hr.1.1;unfold Small;omega
 have CS:=Fh v rows 12 _ w h hl (fun u1 u2 u3 u4 w k1 k2 k3 k4=>kL u1 u2 u3 u4 (iT rows,12-((iT rows).2.2.1.length:Int),0,0) w k1 k2 k3 k4 (rM hl).2.1);rw[NQ hr hc,(yT hr).1,show inB 12 0 20000=true from rfl]at CS;exact CS
theorem Np:∃(x:Fl) (s:Int),aY (x,s,0,0)=true/\dA x/\∀w,Calls Tryz.prog 121 #[] w (Jk x s 0 0 w):=by
 have hr:=PV;have hc:(eF (aW 4 4)).length=16:=(by decide+kernel);have CS:=fun(z:Fl) (st:Int) (w:World)=>LX z st true w
 obtain⟨rows,hrows⟩:=Qi (aW 4 4);rw[<-hrows]at hr hc CS;have hl:Small rows.length:=by have:=hr.1.1;unfold Small;omega
 exact⟨_,_,NQ hr hc,rM hl,fun w=>CS _ _ w (fun u w k1=>JM hr hc u w k1)⟩
theorem JN (W : World) (g : Nat) (v : Value) (l : List Int) (w : World) (h : Rd 1 mE W v l) (Hok : Hid (mK (fun x => 0 <= x /\ x <= 255) l)) (hg : W.heap.size <= g) (hbel : Below W.heap.size W w) (hcur : Cur w g v l.length) :
 Calls Tryz.prog 60 #[.pointer (some ⟨g,0,none⟩)] w (IX W g v l.length w):=by
 have hW:=hbel.size;have hX:=Blk.aZ w 32 #[.slice none 0 0,.slice none 0 0,.slice none 0 0,.slice none 0 0,.int .i64 0,.int .i64 0,.int .i64 0];have D:=(DS.refl hcur hbel).al (.cells #[.slice none 0 0,.slice none 0 0,.slice none 0 0,.slice none 0 0,.int .i64 0,.int .i64 0,.int .i64 0] 32);go_enter Tryz.func60,Tryz.ntmps60
 go_wp2_with fail
 refine(xS 2 W g v l _ h Hok hg D.B D.cur (by decide)).mono ?_;rintro e w1 ⟨yes,rfl,c1,B1,g1⟩;replace hX:=hX.ds D.cur g1 (by decide);replace D:=D.dr c1 B1 g1;obtain⟨gX,hgX'⟩:=Qi w.heap.size;have HgX:=Qk hgX';rw[<-hgX']at hX;have hgX:w.heap.size<=gX:=(by omega);have hne:=(D.cur.ne hX (by decide)).symm;clear hgX' c1 B1 g1;rcases yes with _|_
 . go_wp2_with fail
   refine(FH W g v l _ h Hok hg D.B D.cur).mono ?_;rintro e w2 ⟨x,s,p,r,V1,V2,V3,V4,rfl,own,hf,hsm,D2⟩;replace hX:=hX.ds D.cur D2.gr (by decide);replace own:=own.mono (B':=w.heap.size) D.gr.size;replace D:=D.tr D2;have Hf:=Qk hf;have Hs:=Qk hsm;clear hf hsm D2;go_wp2_with (rw[<-HgX.out];refine aA rfl 32 _ _ rfl gX #[V1,V2,V3,V4,.int .i64 s,.int .i64 p,.int .i64 r] rfl rfl _ _ hX (by kernel_rfl) rfl (lN own.one) ?_;intro wE bE hgE)
   have oE:=aC.dB own hX (by decide) (by decide) (by decide) hgE;obtain⟨q_0,q_1,q_2,q_3,q_4,q_5,q_6⟩:=bE.n7;refine bodyPost_ret (v:= .agg #[V1,V2,V3,V4,.int .i64 s,.int .i64 p,.int .i64 r]) (by simp[results,Tryz.results60,go_sem,q_0,q_1,q_2,q_3,q_4,q_5,q_6]) rfl ⟨x,s,p,r,V1,V2,V3,V4,rfl,oE,Hf.out,Hs.out,D.st hgE hgX hW hne⟩
 . obtain⟨x,s,hk,hs4,CW⟩:=Np;go_wp2_with fail
   refine(CW _).mono ?_;rintro e w2 ⟨A1,c1,A2,c2,A3,c3,A4,c4,rfl,own,hb2⟩;replace hX:=hX.bl hb2;replace own:=own.mono (B':=w.heap.size) D.gr.size;replace D:=D.bl hb2;have Hf:=Qk hk;have Hs:=Qk hs4;clear hk hs4 hb2 CW;obtain⟨V1,hV1⟩:=Qi (Value.slice A1 x.1.length c1);obtain⟨V2,hV2⟩:=Qi (Value.slice A2 x.2.1.length c2);obtain⟨V3,hV3⟩:=Qi (Value.slice A3 x.2.2.1.length c3);obtain⟨V4,hV4⟩:=Qi (Value.slice A4 x.2.2.2.length c4);rw[<-hV1,<-hV2,<-hV3,<-hV4]at own⊢;clear hV1 hV2 hV3 hV4;go_wp2_with (rw[<-HgX.out];refine aA rfl 32 _ _ rfl gX #[V1,V2,V3,V4,.int .i64 s,.int .i64 0,.int .i64 0] rfl rfl _ _ hX (by kernel_rfl) rfl (lN own.one) ?_;intro wE bE hgE)
   have oE:=aC.dB own hX (by decide) (by decide) (by decide) hgE;obtain⟨q_0,q_1,q_2,q_3,q_4,q_5,q_6⟩:=bE.n7;refine bodyPost_ret (v:= .agg #[V1,V2,V3,V4,.int .i64 s,.int .i64 0,.int .i64 0]) (by simp[results,Tryz.results60,go_sem,q_0,q_1,q_2,q_3,q_4,q_5,q_6]) rfl ⟨x,s,0,0,V1,V2,V3,V4,rfl,oE,Hf.out,Hs.out,D.st hgE hgX hW hne⟩
def Nq (w:World) (e:Ending) (w':World):Prop:=∃(x:Fl) (s p r:Int) (V1 V2 V3 V4:Value) (al:List Ac) (A:Option Addr) (c:Nat),e= .returned (.tuple #[.agg #[V1,V2,V3,V4,.int .i64 s,.int .i64 p,.int .i64 r],.slice A al.length c])/\aC w.heap.size w' V1 V2 V3 V4 x/\aY (x,s,p,r)=true/\dA x/\
  aD 73 3 tZ w.heap.size w' (.slice A al.length c) al/\al.length<=17/\(∀a∈al,qB a.1 a.2.1 a.2.2=true)/\Below w.heap.size w w'
theorem FI (v : Value) (l : List Int) (w : World) (h : Rd 1 mE w v l) (ok : mK (fun x => 0 <= x /\ x <= 255) l) (hl : l.length <= 1048576) :
 Calls Tryz.prog 14 #[v] w (Nq w):=by
 have Hok:=Qk ok;have hX:=Blk.aZ w 32 #[.slice none 0 0,.slice none 0 0,.slice none 0 0,.slice none 0 0,.int .i64 0,.int .i64 0,.int .i64 0];have hA:=(Below.refl w.heap.size w).al (.cells #[.slice none 0 0,.slice none 0 0,.slice none 0 0,.slice none 0 0,.int .i64 0,.int .i64 0,.int .i64 0] 32);go_enter Tryz.func14,Tryz.ntmps14
 go_wp2_with fail
 refine(FL _ l _ (h.Qj hA) ok hl).mono ?_;rintro e w1 ⟨g,rfl,hg,hcur,hb1⟩;have hgw:w.heap.size<=g:=by simp at hg;omega
 have D:DS w w w1 g v l.length:=⟨hcur,hA.tr hb1,L8 (World.grownBy.refl w (some g)) (hA.tr hb1)⟩;replace hX:=hX.bl hb1;have hW:w.heap.size<=w.heap.size:=Nat.le_refl _;clear hcur hb1 hA;obtain⟨gX,hgX'⟩:=Qi w.heap.size;have HgX:=Qk hgX';rw[<-hgX']at hX;have hgX:w.heap.size<=gX:=(by omega);have hne:=(D.cur.ne hX (by decide)).symm;clear hgX' hg;go_wp2_with fail
 refine(JN w g v l _ h Hok hgw D.B D.cur).mono ?_;rintro e w2 ⟨x,s,p,r,V1,V2,V3,V4,rfl,own,hf,hsm,D2⟩;replace hX:=hX.ds D.cur D2.gr (by decide);replace own:=own.mono (B':=w.heap.size) D.gr.size;replace D:=D.tr D2;have Hf:=Qk hf;have Hs:=Qk hsm;clear hf hsm D2;go_wp2_with fail
 refine(Fv w g v l _ h Hok hgw D.B D.cur).mono ?_;rintro e w3 ⟨al,A,c,rfl,oA,hal,hac,D3⟩;replace hX:=hX.ds D.cur D3.gr (by decide);replace own:=own.cur D.cur D3.gr;replace oA:=oA.mono (B':=w.heap.size) D.gr.size;replace D:=D.tr D3;have Hac:=Qk hac;clear hac D3;go_wp2_with (rw[<-HgX.out];refine aA rfl 32 _ _ rfl gX #[V1,V2,V3,V4,.int .i64 s,.int .i64 p,.int .i64 r] rfl rfl _ _ hX (by kernel_rfl) rfl (lN own.one) ?_;intro wE bE hgE)
 have oE:=aC.dB own hX (by decide) (by decide) (by decide) hgE;have oAE:=aD.uG oA hX (by decide) hgE;obtain⟨q_0,q_1,q_2,q_3,q_4,q_5,q_6⟩:=bE.n7;refine bodyPost_ret (v:= .tuple #[.agg #[V1,V2,V3,V4,.int .i64 s,.int .i64 p,.int .i64 r],.slice A al.length c]) (by simp[results,Tryz.results14,go_sem,q_0,q_1,q_2,q_3,q_4,q_5,q_6]) rfl ⟨x,s,p,r,V1,V2,V3,V4,al,A,c,rfl,oE,Hf.out,Hs.out,oAE,hal,Hac.out,(D.st hgE hgX hW hne).B⟩
end Go.Proofs.YtljfoohaapckeaaGreatDoor
