/- The sample workshop, on both sides: the walk, with OpenWorkshop's answer as given. No conditions. A drawn workshop or the sample. No conditions but sizes. A drawn scenario: a workshop and acts. No conditions but sizes. FnActTexts: the law's walk. No conditions but sizes; the library's table of powers and its error for a text that is no number. -/
import Derived.Test.YtljfoohaapckeaaGreatDoorCG36
import Derived.Test.YtljfoohaapckeaaGreatDoorCK3
import Derived.Test.YtljfoohaapckeaaGreatDoorCG23
import Derived.Test.YtljfoohaapckeaaGreatDoorCDrawW
import Derived.Test.YtljfoohaapckeaaGreatDoorCG43
import Derived.Test.YtljfoohaapckeaaGreatDoorCPActI
open _root_.Go.Proofs.Tryz (prog func10 ntmps10)
namespace Go.Proofs.YtljfoohaapckeaaGreatDoor
open Go.ChangeShapes Go.WideShapes Go.ChangeAt Go.RowKit
set_option linter.unusedVariables false
set_option linter.unusedSimpArgs false
set_option maxHeartbeats 4000000
set_option maxRecDepth 100000
theorem NG (z:Fl) (st:Int) (b:Bool) (w:World)
    (CO:∀(u:Value) (w:World),Rd 1 bV w u (aW 4 4)->Calls prog 128 #[.agg #[u],.int .i64 12] w (Cy z st 0 0 b w)):
    Calls prog 121 #[] w (Qh z st 0 0 w):=by
 have CR:∀(w:World),Calls prog 177 #[.int .i64 4,.int .i64 4] w (Ii (aW 4 4) w):=fun w=>wP 4 4 w ⟨by decide,by decide⟩ ⟨by decide,by decide⟩
 obtain⟨y1,y2,y3,y4⟩:=z;obtain⟨rr,hrr⟩:=SL (aW 4 4);rw[<-hrr]at CO CR;clear hrr;have B0:=(Below.refl w.heap.size w).al (.cells #[.slice none 0 0,.slice none 0 0,.slice none 0 0,.slice none 0 0,.int .i64 0,.int .i64 0,.int .i64 0] 32);have bR:=Blk.aY w 32 #[.slice none 0 0,.slice none 0 0,.slice none 0 0,.slice none 0 0,.int .i64 0,.int .i64 0,.int .i64 0];go_enter Tryz.func121,Tryz.ntmps121
 go_wp2_with fail
 refine(CR _).mono ?_;rintro e w1 ⟨P,q,rfl,oP,hb1⟩;go_wp2_with fail
 refine(CO _ _ (oP.rd aN (by decide))).mono ?_;rintro e w2 ⟨A1,c1,A2,c2,A3,c3,A4,c4,rfl,oY,hb2⟩;have oY:=(oY.mono (B0.tr hb1).size).alloc (.cells #[.slice none 0 0,.slice none 0 0,.slice none 0 0,.slice none 0 0,.int .i64 0,.int .i64 0,.int .i64 0] 32);have B1:=((B0.tr hb1).tr hb2).al (.cells #[.slice none 0 0,.slice none 0 0,.slice none 0 0,.slice none 0 0,.int .i64 0,.int .i64 0,.int .i64 0] 32);have bR1:=((bR.bl hb1).bl hb2).alloc (.cells #[.slice none 0 0,.slice none 0 0,.slice none 0 0,.slice none 0 0,.int .i64 0,.int .i64 0,.int .i64 0] 32);have bO:=Blk.aY w2 32 #[.slice none 0 0,.slice none 0 0,.slice none 0 0,.slice none 0 0,.int .i64 0,.int .i64 0,.int .i64 0];have hgO:w.heap.size<=w2.heap.size:=((B0.tr hb1).tr hb2).size;have hRl:=((bR.bl hb1).bl hb2).lt;have hgR:w.heap.size<=w.heap.size:=Nat.le_refl _;clear hb1 hb2 B0 bR;go_wp2_with (first|(refine bZ rfl 32 _ _ rfl w2.heap.size #[.slice A1 y1.length c1,.slice A2 y2.length c2,.slice A3 y3.length c3,.slice A4 y4.length c4,.int .i64 st,.int .i64 0,.int .i64 0] rfl rfl _ _ bO (by kernel_rfl) rfl (by simp[Value.oneCell']) ?_;intro wS bS hgS;have oS:=aF.dZ oY bO (by decide) (by decide) (by decide) hgS;have bRS:=bR1.grown hgS (by simp;omega);have BS:=B1.grown hgS B1.size (fun k hk=>by injection hk with hk;subst hk;exact hgO);obtain⟨y_0,y_1,y_2,y_3,y_4,y_5,y_6⟩:=bS.n7)|(refine bZ rfl 32 _ _ rfl w.heap.size #[.slice A1 y1.length c1,.slice A2 y2.length c2,.slice A3 y3.length c3,.slice A4 y4.length c4,.int .i64 st,.int .i64 0,.int .i64 0] rfl rfl _ _ bRS (by kernel_rfl) rfl (by simp[Value.oneCell']) ?_;intro wE bE hgE))
 have oE:aF w.heap.size wE _ _ _ _ _:=aF.dZ (oS) bRS (by decide) (by decide) (by decide) hgE;have BE:=BS.grown hgE BS.size (fun k hk=>by injection hk with hk;subst hk;exact hgR);obtain⟨q_0,q_1,q_2,q_3,q_4,q_5,q_6⟩:=bE.n7;refine bodyPost_ret (v:= .agg #[.slice A1 y1.length c1,.slice A2 y2.length c2,.slice A3 y3.length c3,.slice A4 y4.length c4,.int .i64 st,.int .i64 0,.int .i64 0]) (by simp[results,Tryz.results121,go_sem,q_0,q_1,q_2,q_3,q_4,q_5,q_6]) rfl ⟨A1,c1,A2,c2,A3,c3,A4,c4,rfl,oE,BE⟩
theorem Sn:R12 (aW 4 4):=by
 have hr:dK (aW 4 4):=by
  refine⟨by simp[aW],fun r hr=> ?_⟩;unfold aW at hr;rw[(List.mem_replicate.1 hr).2];omega
 have h:1<=(iM (setOf (aW 4 4))).length/\(iM (setOf (aW 4 4))).length<=60:=by decide+kernel
 have e:aU (aW 4 4)=((iM (setOf (aW 4 4))).length:Nat):=by
  unfold aU;rw[if_pos (aO.2 hr),sN (dM hr)]
 exact⟨hr,by omega,by omega,sO (by decide)⟩
theorem Qb {rows:List Int} (hr:R12 rows) (hc:(eT rows).length=16):dW (fM rows,12-((fM rows).2.2.1.length:Int),0,0)=true:=by
 have hf:=Lu hr;obtain⟨h1,h2,h3,h4⟩:=rW hr;refine uO.2 ⟨hf,?_⟩;unfold dN at h3;rw[Bool.and_eq_true,decide_eq_true_iff,hc]at h3;have h5:=h3.2;rw[h2];unfold inB;simp;omega
theorem Lc {rows:List Int} (hr:R12 rows) (hc:(eT rows).length=16) (v:Value) (w:World) (h:Rd 1 bV w v rows):Calls prog 128 #[.agg #[v],.int .i64 12] w (Cy (fM rows) (12-((fM rows).2.2.1.length:Int)) 0 0 true w):=by
 have hl:Small rows.length:=by have:=hr.1.1;unfold Small;omega
 have CS:=Gq v rows 12 _ w h hl (fun u1 u2 u3 u4 w k1 k2 k3 k4=>lC u1 u2 u3 u4 (fM rows,12-((fM rows).2.2.1.length:Int),0,0) w k1 k2 k3 k4 (nP hl).2.1);rw[Qb hr hc,(rW hr).1,show inB 12 0 20000=true from rfl]at CS;exact CS
theorem Pt:∃(x:Fl) (s:Int),dW (x,s,0,0)=true/\dG x/\∀w,Calls prog 121 #[] w (Qh x s 0 0 w):=by
 have hr:=Sn;have hc:(eT (aW 4 4)).length=16:=(by decide+kernel);have CS:=fun(z:Fl) (st:Int) (w:World)=>NG z st true w
 obtain⟨rows,hrows⟩:=SL (aW 4 4);rw[<-hrows]at hr hc CS;have hl:Small rows.length:=by have:=hr.1.1;unfold Small;omega
 exact⟨_,_,Qb hr hc,nP hl,fun w=>CS _ _ w (fun u w k1=>Lc hr hc u w k1)⟩
theorem Ld (W : World) (g : Nat) (v : Value) (l : List Int) (w : World) (h : Rd 1 kT W v l) (Hok : Hid (lV (fun x => 0 <= x /\ x <= 255) l)) (hg : W.heap.size <= g) (hbel : Below W.heap.size W w) (hcur : Cur w g v l.length) :
 Calls prog 60 #[.pointer (some ⟨g,0,none⟩)] w (JZ W g v l.length w):=by
 have hW:=hbel.size;have hX:=Blk.aY w 32 #[.slice none 0 0,.slice none 0 0,.slice none 0 0,.slice none 0 0,.int .i64 0,.int .i64 0,.int .i64 0];have D:=(DS.refl hcur hbel).al (.cells #[.slice none 0 0,.slice none 0 0,.slice none 0 0,.slice none 0 0,.int .i64 0,.int .i64 0,.int .i64 0] 32);go_enter Tryz.func60,Tryz.ntmps60
 go_wp2_with fail
 refine(zZ 2 W g v l _ h Hok hg D.B D.cur (by decide)).mono ?_;rintro e w1 ⟨yes,rfl,c1,B1,g1⟩;replace hX:=hX.ds D.cur g1 (by decide);replace D:=D.dr c1 B1 g1;obtain⟨gX,hgX'⟩:=SL w.heap.size;have HgX:=SQ hgX';rw[<-hgX']at hX;have hgX:w.heap.size<=gX:=(by omega);have hne:=(D.cur.ne hX (by decide)).symm;clear hgX' c1 B1 g1;rcases yes with _|_
 . go_wp2_with fail
   refine(GK W g v l _ h Hok hg D.B D.cur).mono ?_;rintro e w2 ⟨x,s,p,r,V1,V2,V3,V4,rfl,own,hf,hsm,D2⟩;replace hX:=hX.ds D.cur D2.gr (by decide);replace own:=own.mono (B':=w.heap.size) D.gr.size;replace D:=D.tr D2;have Hf:=SQ hf;have Hs:=SQ hsm;clear hf hsm D2;go_wp2_with (rw[<-HgX.out];refine aA rfl 32 _ _ rfl gX #[V1,V2,V3,V4,.int .i64 s,.int .i64 p,.int .i64 r] rfl rfl _ _ hX (by kernel_rfl) rfl (CG own.one) ?_;intro wE bE hgE)
   have oE:=aF.dZ own hX (by decide) (by decide) (by decide) hgE;obtain⟨q_0,q_1,q_2,q_3,q_4,q_5,q_6⟩:=bE.n7;refine bodyPost_ret (v:= .agg #[V1,V2,V3,V4,.int .i64 s,.int .i64 p,.int .i64 r]) (by simp[results,Tryz.results60,go_sem,q_0,q_1,q_2,q_3,q_4,q_5,q_6]) rfl ⟨x,s,p,r,V1,V2,V3,V4,rfl,oE,Hf.out,Hs.out,D.st hgE hgX hW hne⟩
 . obtain⟨x,s,hk,hs4,CW⟩:=Pt;go_wp2_with fail
   refine(CW _).mono ?_;rintro e w2 ⟨A1,c1,A2,c2,A3,c3,A4,c4,rfl,own,hb2⟩;replace hX:=hX.bl hb2;replace own:=own.mono (B':=w.heap.size) D.gr.size;replace D:=D.bl hb2;have Hf:=SQ hk;have Hs:=SQ hs4;clear hk hs4 hb2 CW;obtain⟨V1,hV1⟩:=SL (Value.slice A1 x.1.length c1);obtain⟨V2,hV2⟩:=SL (Value.slice A2 x.2.1.length c2);obtain⟨V3,hV3⟩:=SL (Value.slice A3 x.2.2.1.length c3);obtain⟨V4,hV4⟩:=SL (Value.slice A4 x.2.2.2.length c4);rw[<-hV1,<-hV2,<-hV3,<-hV4]at own⊢;clear hV1 hV2 hV3 hV4;go_wp2_with (rw[<-HgX.out];refine aA rfl 32 _ _ rfl gX #[V1,V2,V3,V4,.int .i64 s,.int .i64 0,.int .i64 0] rfl rfl _ _ hX (by kernel_rfl) rfl (CG own.one) ?_;intro wE bE hgE)
   have oE:=aF.dZ own hX (by decide) (by decide) (by decide) hgE;obtain⟨q_0,q_1,q_2,q_3,q_4,q_5,q_6⟩:=bE.n7;refine bodyPost_ret (v:= .agg #[V1,V2,V3,V4,.int .i64 s,.int .i64 0,.int .i64 0]) (by simp[results,Tryz.results60,go_sem,q_0,q_1,q_2,q_3,q_4,q_5,q_6]) rfl ⟨x,s,0,0,V1,V2,V3,V4,rfl,oE,Hf.out,Hs.out,D.st hgE hgX hW hne⟩
def Pv (w:World) (e:Ending) (w':World):Prop:=∃(x:Fl) (s p r:Int) (V1 V2 V3 V4:Value) (al:List Ac) (A:Option Addr) (c:Nat),e= .returned (.tuple #[.agg #[V1,V2,V3,V4,.int .i64 s,.int .i64 p,.int .i64 r],.slice A al.length c])/\aF w.heap.size w' V1 V2 V3 V4 x/\dW (x,s,p,r)=true/\dG x/\
  aC 73 3 Cm w.heap.size w' (.slice A al.length c) al/\al.length<=17/\(∀a∈al,lF a.1 a.2.1 a.2.2=true)/\Below w.heap.size w w'
theorem zT (v : Value) (l : List Int) (w : World) (h : Rd 1 kT w v l) (ok : lV (fun x => 0 <= x /\ x <= 255) l) (hl : l.length <= 1048576) :
 Calls prog 14 #[v] w (Pv w):=by
 have Hok:=SQ ok;have hX:=Blk.aY w 32 #[.slice none 0 0,.slice none 0 0,.slice none 0 0,.slice none 0 0,.int .i64 0,.int .i64 0,.int .i64 0];have hA:=(Below.refl w.heap.size w).al (.cells #[.slice none 0 0,.slice none 0 0,.slice none 0 0,.slice none 0 0,.int .i64 0,.int .i64 0,.int .i64 0] 32);go_enter Tryz.func14,Tryz.ntmps14
 go_wp2_with fail
 refine(GV _ l _ (h.SN hA) ok hl).mono ?_;rintro e w1 ⟨g,rfl,hg,hcur,hb1⟩;have hgw:w.heap.size<=g:=by simp at hg;omega
 have D:DS w w w1 g v l.length:=⟨hcur,hA.tr hb1,NK (World.grownBy.refl w (some g)) (hA.tr hb1)⟩;replace hX:=hX.bl hb1;have hW:w.heap.size<=w.heap.size:=Nat.le_refl _;clear hcur hb1 hA;obtain⟨gX,hgX'⟩:=SL w.heap.size;have HgX:=SQ hgX';rw[<-hgX']at hX;have hgX:w.heap.size<=gX:=(by omega);have hne:=(D.cur.ne hX (by decide)).symm;clear hgX' hg;go_wp2_with fail
 refine(Ld w g v l _ h Hok hgw D.B D.cur).mono ?_;rintro e w2 ⟨x,s,p,r,V1,V2,V3,V4,rfl,own,hf,hsm,D2⟩;replace hX:=hX.ds D.cur D2.gr (by decide);replace own:=own.mono (B':=w.heap.size) D.gr.size;replace D:=D.tr D2;have Hf:=SQ hf;have Hs:=SQ hsm;clear hf hsm D2;go_wp2_with fail
 refine(Gx w g v l _ h Hok hgw D.B D.cur).mono ?_;rintro e w3 ⟨al,A,c,rfl,oA,hal,hac,D3⟩;replace hX:=hX.ds D.cur D3.gr (by decide);replace own:=own.cur D.cur D3.gr;replace oA:=oA.mono (B':=w.heap.size) D.gr.size;replace D:=D.tr D3;have Hac:=SQ hac;clear hac D3;go_wp2_with (rw[<-HgX.out];refine aA rfl 32 _ _ rfl gX #[V1,V2,V3,V4,.int .i64 s,.int .i64 p,.int .i64 r] rfl rfl _ _ hX (by kernel_rfl) rfl (CG own.one) ?_;intro wE bE hgE)
 have oE:=aF.dZ own hX (by decide) (by decide) (by decide) hgE;have oAE:=aC.Dz oA hX (by decide) hgE;obtain⟨q_0,q_1,q_2,q_3,q_4,q_5,q_6⟩:=bE.n7;refine bodyPost_ret (v:= .tuple #[.agg #[V1,V2,V3,V4,.int .i64 s,.int .i64 p,.int .i64 r],.slice A al.length c]) (by simp[results,Tryz.results14,go_sem,q_0,q_1,q_2,q_3,q_4,q_5,q_6]) rfl ⟨x,s,p,r,V1,V2,V3,V4,al,A,c,rfl,oE,Hf.out,Hs.out,oAE,hal,Hac.out,(D.st hgE hgX hW hne).B⟩
theorem Ka (v:Value) (l:List Int) (w:World) (h:Rd 1 kT w v l):Calls prog 13 #[v] w (Pure (.bool (decide (1048576<l.length))) w):=by
 obtain⟨A,c,rfl,hc,hm⟩:=h.form;go_enter Tryz.func13,Tryz.ntmps13
 go_wp2;go_ret;exact⟨by simp;omega,rfl⟩
theorem Le (k a b:Int) (h:lF k a b=true) (w:World) (ht:Tab w):Calls prog 51 #[.agg #[.int .i64 k,.int .i64 a,.int .i64 b]] w (Ret (.tuple #[.string (iJ k a b),.bool true]) w):=by
 have:=Ca k a b w ht;rw[h]at this;exact this
theorem Rm (k a b:Int) (h:lF k a b=true) (w:World) (ht:Tab w) (hs:Syn w):Calls prog 52 #[.string (J9 (iJ k a b))] w (Ret (.tuple #[.agg #[.int .i64 k,.int .i64 a,.int .i64 b],.bool true]) w):=by
 have:=Rl (J9 (iJ k a b)) w ht hs;unfold paV at this;rw[(Qa h).1,(Qa h).2]at this;exact this
theorem Cs (w : World) (tab : Tab w) (syn : Syn w) (v : Value) (l : List Int) (h : Rd 1 kT w v l) (ok : lV (fun x => 0 <= x /\ x <= 255) l) : Calls prog 10 #[v] w (Ret (.bool true) w) := by
 by_cases hsz:1048576<l.length
 . have hd : decide (1048576 < l.length) = true := by simpa using hsz
   have Hd:=SQ hd;clear hd;go_enter func10,ntmps10
   go_wp2_with fail
   refine(Ka _ l _ h).mono ?_;rintro e w0 ⟨rfl,rfl⟩;rw[Hd.out];go_wp2;go_ret;exact⟨rfl,Below.refl _ _⟩
 . have hd : decide (1048576 < l.length) = false := by simpa using hsz
   have Hd:=SQ hd;clear hd;have hl:l.length<=1048576:=(by omega);have Hok:=SQ ok;have HTB:=SQ tab;have HSY:=SQ syn;clear ok tab syn;go_enter func10,ntmps10
   go_wp2_with fail
   refine(Ka _ l _ h).mono ?_;rintro e w0 ⟨rfl,rfl⟩;rw[Hd.out];go_wp2_with fail
   refine(zT _ l _ h Hok.out hl).mono ?_;rintro e w1 ⟨x,s,p,r,V1,V2,V3,V4,al,A,c,rfl,oF,hk,hs,oA,hal,hac,hb1⟩;have HAC:=SQ hac;clear hk hs hac;go_upto_region 4 with(refine aA rfl 32 _ _ rfl w1.heap.size #[V1,V2,V3,V4,.int .i64 s,.int .i64 p,.int .i64 r] rfl rfl _ _ (Blk.aY w1 32 #[.slice none 0 0,.slice none 0 0,.slice none 0 0,.slice none 0 0,.int .i64 0,.int .i64 0,.int .i64 0]) (by kernel_rfl) rfl (CG oF.one) ?_;intro w2 bO hg2)
   have oA2:=aC.Dz (oA.alloc (.cells #[.slice none 0 0,.slice none 0 0,.slice none 0 0,.slice none 0 0,.int .i64 0,.int .i64 0,.int .i64 0] 32)) (Blk.aY w1 32 #[.slice none 0 0,.slice none 0 0,.slice none 0 0,.slice none 0 0,.int .i64 0,.int .i64 0,.int .i64 0]) (by decide) hg2;have B2:=(hb1.al (.cells #[.slice none 0 0,.slice none 0 0,.slice none 0 0,.slice none 0 0,.int .i64 0,.int .i64 0,.int .i64 0] 32)).grown hg2 (hb1.al _).size (fun k hk=>by injection hk with hk;subst hk;exact hb1.size);have RA:=oA2.rd (fun _=>rfl) (by decide);clear oF oA hb1 hg2 bO oA2;go_wp2;go_loopw [5] (fun s5 wr=>∃k:Nat,k<=al.length/\s5= .int .i64 k/\Below w2.heap.size w2 wr) (fun i _=>al.length-(intOf i).toNat)
   case atStart=>exact⟨0,Nat.zero_le _,rfl,Below.refl _ _⟩
   case round=>
    obtain⟨k,hk,rfl,B⟩:=hrel;by_cases hlt:k<al.length
    . have hki : (k : Int) < (al.length : Int) := by omega
      have hx:=HAC.out al[k] (List.getElem_mem hlt);have RA3:=RA.SN B;obtain⟨b,off,hA,hb,k0,k1,k2⟩:=RA3.Lj hlt;obtain⟨q,hq⟩:=SL (al[k]);rw[<-hq]at k0 k1 k2 hx;obtain⟨a0,a1,a2⟩:=q;simp only at k0 k1 k2 hx;have Hx:=SQ hx;have Hq:=SQ hq;have Hz:=SQ (zS a0 a1 a2);subst hA;obtain⟨T,hT⟩:=SL (iJ a0 a1 a2);have CF:∀W,Below w2.heap.size w2 W->Calls prog 51 #[.agg #[.int .i64 a0,.int .i64 a1,.int .i64 a2]] W (Ret (.tuple #[.string T,.bool true]) W):=fun W hb=>by rw[hT];exact Le a0 a1 a2 Hx.out W (HTB.out.below (B2.tr hb))
      have CP:∀W,Below w2.heap.size w2 W->Calls prog 52 #[.string ((⟨#[32,32]⟩:ByteArray)++T++(⟨#[32]⟩:ByteArray))] W (Ret (.tuple #[.agg #[.int .i64 a0,.int .i64 a1,.int .i64 a2],.bool true]) W):=fun W hb=>by rw[hT];exact Rm a0 a1 a2 Hx.out W (HTB.out.below (B2.tr hb)) (HSY.out.below (B2.tr hb))
      rw[<-hT]at Hz;clear hx hq hT;have HF:=SQ CF;have HP:=SQ CP;clear CF CP;have hTn:T.size<=100:=Hz.out;go_wp2_with fail
      refine(HF.out _ B).mono ?_;rintro e w3 ⟨rfl,hb3⟩;have B3:=B.tr hb3;go_wp2_with fail
      refine(HP.out _ B3).mono ?_;rintro e w4 ⟨rfl,hb4⟩;have B4:=B3.tr hb4;obtain⟨b4,off4,e4,hb4',j0,j1,j2⟩:=(RA.SN B4).Lj hlt;injection e4 with e4;injection e4 with e5 e6;subst e5;subst e6;rw[<-Hq.out]at j0 j1 j2;simp only at j0 j1 j2;have b3:=Blk.aY w4 73 #[.int .i64 0,.int .i64 0,.int .i64 0];have B5:=B4.al (.cells #[.int .i64 0,.int .i64 0,.int .i64 0] 73);clear k0 k1 k2 hb;go_upto_region 9 with(refine fB rfl 73 _ _ rfl w4.heap.size #[.int .i64 a0,.int .i64 a1,.int .i64 a2] rfl rfl _ _ b3 (by kernel_rfl) rfl (by simp[Value.oneCell']) ?_;intro w5 b5 hg5)
      have B6:=B5.grown hg5 B5.size (fun k hk=>by injection hk with hk;subst hk;exact B4.size);obtain⟨b7,off7,e7,hb7,i0,i1,i2⟩:=(RA.SN B6).Lj hlt;injection e7 with e7;injection e7 with e8 e9;subst e8;subst e9;rw[<-Hq.out]at i0 i1 i2;simp only at i0 i1 i2;obtain⟨y_0,y_1,y_2⟩:=b5.n3;clear j0 j1 j2 hb4' b3 B5 hg5 b5;go_quiet (fail)
      go_wp2;go_roundw
      case rel=>exact⟨k+1,by omega,by go_num,below_drewN B6 _⟩
      case measure=>simp[intOf];omega
    . go_wp2;go_ret;exact⟨rfl,B2.tr B⟩
end Go.Proofs.YtljfoohaapckeaaGreatDoor
