import Derived.Test.YtjijonhkofhikaaGreatDoorEDrawW
open _root_.Nat renaming le_refl->TZ
open _root_.Go.Value renaming oneCell'->T9
open _root_.Go.Proofs.Tryz (prog func13 ntmps13 func3 ntmps3)
set_option linter.unusedVariables false
set_option linter.unusedSimpArgs false
set_option maxHeartbeats 4000000
set_option maxRecDepth 100000
namespace Go.Proofs.YtjijonhkofhikaaGreatDoor
open Go.ChangeShapes Go.WideShapes Go.ChangeAt Go.RowKit
theorem OA (z:Fl) (st:Int) (b:Bool) (w:World)
    (CO:∀(u:Value) (w:World),Rd 1 bG w u (aP 4 4)->Calls prog 28 #[.agg #[u],.int .i64 12] w (qM z st 0 0 b w)):
    Calls prog 10 #[] w (Eu z st 0 0 w):=by
 have CR:∀(w:World),Calls prog 29 #[.int .i64 4,.int .i64 4] w (C8 (aP 4 4) w):=fun w=>NH 4 4 w ⟨by decide,by decide⟩ ⟨by decide,by decide⟩
 obtain⟨y1,y2,y3,y4⟩:=z;obtain⟨rr,a7⟩:=TV (aP 4 4);rw[<-a7]at CO CR;clear a7;have B0:=(Below.refl w.heap.size w).al (.cells #[.slice none 0 0,.slice none 0 0,.slice none 0 0,.slice none 0 0,.int .i64 0,.int .i64 0,.int .i64 0] 32);have bR:=Blk.aZ w 32 #[.slice none 0 0,.slice none 0 0,.slice none 0 0,.slice none 0 0,.int .i64 0,.int .i64 0,.int .i64 0];go_enter Tryz.func10,Tryz.ntmps10
 go_wp2_with fail
 refine(CR _).mono ?_;rintro e w1 ⟨P,q,rfl,oP,hb1⟩;go_wp2_with fail
 refine(CO _ _ (oP.rd aJ (by decide))).mono ?_;rintro e w2 ⟨A1,c1,A2,c2,A3,c3,A4,c4,rfl,oY,hb2⟩;have oY:=(oY.mono (B0.tr hb1).size).alloc (.cells #[.slice none 0 0,.slice none 0 0,.slice none 0 0,.slice none 0 0,.int .i64 0,.int .i64 0,.int .i64 0] 32);have B1:=((B0.tr hb1).tr hb2).al (.cells #[.slice none 0 0,.slice none 0 0,.slice none 0 0,.slice none 0 0,.int .i64 0,.int .i64 0,.int .i64 0] 32);have bB:=((bR.bl hb1).bl hb2).alloc (.cells #[.slice none 0 0,.slice none 0 0,.slice none 0 0,.slice none 0 0,.int .i64 0,.int .i64 0,.int .i64 0] 32);have bO:=Blk.aZ w2 32 #[.slice none 0 0,.slice none 0 0,.slice none 0 0,.slice none 0 0,.int .i64 0,.int .i64 0,.int .i64 0];have bC:w.heap.size<=w2.heap.size:=((B0.tr hb1).tr hb2).size;have bX:=((bR.bl hb1).bl hb2).lt;have bD:w.heap.size<=w.heap.size:=TZ _;clear hb1 hb2 B0 bR;go_wp2_with (first|(refine aO rfl 32 _ _ rfl w2.heap.size #[.slice A1 y1.length c1,.slice A2 y2.length c2,.slice A3 y3.length c3,.slice A4 y4.length c4,.int .i64 st,.int .i64 0,.int .i64 0] rfl rfl _ _ bO (by kernel_rfl) rfl (by simp[T9]) ?_;intro wS bS a6;have oS:=aB.dD oY bO (by decide) (by decide) (by decide) a6;have a8:=bB.grown a6 (by simp;omega);have BS:=B1.grown a6 B1.size (fun k hk=>by injection hk with hk;subst hk;exact bC);obtain⟨bY,b5,b6,b7,b8,b9,cA⟩:=bS.n7)|(refine aO rfl 32 _ _ rfl w.heap.size #[.slice A1 y1.length c1,.slice A2 y2.length c2,.slice A3 y3.length c3,.slice A4 y4.length c4,.int .i64 st,.int .i64 0,.int .i64 0] rfl rfl _ _ a8 (by kernel_rfl) rfl (by simp[T9]) ?_;intro wE bE bA))
 have oE:aB w.heap.size wE _ _ _ _ _:=aB.dD (oS) a8 (by decide) (by decide) (by decide) bA;have BE:=BS.grown bA BS.size (fun k hk=>by injection hk with hk;subst hk;exact bD);obtain⟨bF,bJ,bK,bL,bN,bU,bW⟩:=bE.n7;refine bodyPost_ret (v:= .agg #[.slice A1 y1.length c1,.slice A2 y2.length c2,.slice A3 y3.length c3,.slice A4 y4.length c4,.int .i64 st,.int .i64 0,.int .i64 0]) (by simp[results,Tryz.results10,go_sem,bF,bJ,bK,bL,bN,bU,bW]) rfl ⟨A1,c1,A2,c2,A3,c3,A4,c4,rfl,oE,BE⟩
theorem OB (z:Fl) (st:Int) (b:Bool) (w:World)
    (CO:∀(u:Value) (w:World),Rd 1 bG w u (aP 4 4)->Calls prog 71 #[.agg #[u],.int .i64 12] w (qM z st 0 0 b w)):
    Calls prog 36 #[] w (Eu z st 0 0 w):=by
 have CR:∀(w:World),Calls prog 72 #[.int .i64 4,.int .i64 4] w (C8 (aP 4 4) w):=fun w=>xJ 4 4 w ⟨by decide,by decide⟩ ⟨by decide,by decide⟩
 obtain⟨y1,y2,y3,y4⟩:=z;obtain⟨rr,a7⟩:=TV (aP 4 4);rw[<-a7]at CO CR;clear a7;have B0:=(Below.refl w.heap.size w).al (.cells #[.slice none 0 0,.slice none 0 0,.slice none 0 0,.slice none 0 0,.int .i64 0,.int .i64 0,.int .i64 0] 32);have bR:=Blk.aZ w 32 #[.slice none 0 0,.slice none 0 0,.slice none 0 0,.slice none 0 0,.int .i64 0,.int .i64 0,.int .i64 0];go_enter Tryz.func36,Tryz.ntmps36
 go_wp2_with fail
 refine(CR _).mono ?_;rintro e w1 ⟨P,q,rfl,oP,hb1⟩;go_wp2_with fail
 refine(CO _ _ (oP.rd aJ (by decide))).mono ?_;rintro e w2 ⟨A1,c1,A2,c2,A3,c3,A4,c4,rfl,oY,hb2⟩;have oY:=(oY.mono (B0.tr hb1).size).alloc (.cells #[.slice none 0 0,.slice none 0 0,.slice none 0 0,.slice none 0 0,.int .i64 0,.int .i64 0,.int .i64 0] 32);have B1:=((B0.tr hb1).tr hb2).al (.cells #[.slice none 0 0,.slice none 0 0,.slice none 0 0,.slice none 0 0,.int .i64 0,.int .i64 0,.int .i64 0] 32);have bB:=((bR.bl hb1).bl hb2).alloc (.cells #[.slice none 0 0,.slice none 0 0,.slice none 0 0,.slice none 0 0,.int .i64 0,.int .i64 0,.int .i64 0] 32);have bO:=Blk.aZ w2 32 #[.slice none 0 0,.slice none 0 0,.slice none 0 0,.slice none 0 0,.int .i64 0,.int .i64 0,.int .i64 0];have bC:w.heap.size<=w2.heap.size:=((B0.tr hb1).tr hb2).size;have bX:=((bR.bl hb1).bl hb2).lt;have bD:w.heap.size<=w.heap.size:=TZ _;clear hb1 hb2 B0 bR;go_wp2_with (first|(refine aO rfl 32 _ _ rfl w2.heap.size #[.slice A1 y1.length c1,.slice A2 y2.length c2,.slice A3 y3.length c3,.slice A4 y4.length c4,.int .i64 st,.int .i64 0,.int .i64 0] rfl rfl _ _ bO (by kernel_rfl) rfl (by simp[T9]) ?_;intro wS bS a6;have oS:=aB.dD oY bO (by decide) (by decide) (by decide) a6;have a8:=bB.grown a6 (by simp;omega);have BS:=B1.grown a6 B1.size (fun k hk=>by injection hk with hk;subst hk;exact bC);obtain⟨bY,b5,b6,b7,b8,b9,cA⟩:=bS.n7)|(refine aO rfl 32 _ _ rfl w.heap.size #[.slice A1 y1.length c1,.slice A2 y2.length c2,.slice A3 y3.length c3,.slice A4 y4.length c4,.int .i64 st,.int .i64 0,.int .i64 0] rfl rfl _ _ a8 (by kernel_rfl) rfl (by simp[T9]) ?_;intro wE bE bA))
 have oE:aB w.heap.size wE _ _ _ _ _:=aB.dD (oS) a8 (by decide) (by decide) (by decide) bA;have BE:=BS.grown bA BS.size (fun k hk=>by injection hk with hk;subst hk;exact bD);obtain⟨bF,bJ,bK,bL,bN,bU,bW⟩:=bE.n7;refine bodyPost_ret (v:= .agg #[.slice A1 y1.length c1,.slice A2 y2.length c2,.slice A3 y3.length c3,.slice A4 y4.length c4,.int .i64 st,.int .i64 0,.int .i64 0]) (by simp[results,Tryz.results36,go_sem,bF,bJ,bK,bL,bN,bU,bW]) rfl ⟨A1,c1,A2,c2,A3,c3,A4,c4,rfl,oE,BE⟩
theorem QZ:R12 (aP 4 4):=by
 have hr:dY (aP 4 4):=by
  refine⟨by simp[aP],fun r hr=> ?_⟩;unfold aP at hr;rw[(List.mem_replicate.1 hr).2];omega
 have h:1<=(jD (setOf (aP 4 4))).length/\(jD (setOf (aP 4 4))).length<=60:=by decide+kernel
 have e:aY (aP 4 4)=((jD (setOf (aP 4 4))).length:Nat):=by
  unfold aY;rw[if_pos (aN.2 hr),tJ (dW hr)]
 exact⟨hr,by omega,by omega,tT (by decide)⟩
theorem Ju {rows:List Int} (hr:R12 rows) (hc:(eF rows).length=16):bV (eO rows,12-((eO rows).2.2.1.length:Int),0,0)=true:=by
 have hf:=QW hr;obtain⟨h1,h2,h3,h4⟩:=yF hr;refine rF.2 ⟨hf,?_⟩;unfold eX at h3;rw[Bool.and_eq_true,decide_eq_true_iff,hc]at h3;have h5:=h3.2;rw[h2];unfold inB;simp;omega
theorem Me {rows:List Int} (hr:R12 rows) (hc:(eF rows).length=16) (v:Value) (w:World) (h:Rd 1 bG w v rows):Calls prog 71 #[.agg #[v],.int .i64 12] w (qM (eO rows) (12-((eO rows).2.2.1.length:Int)) 0 0 true w):=by
 have hl:Small rows.length:=by have:=hr.1.1;unfold Small;omega
 have CS:=Ih v rows 12 _ w h hl (fun u1 u2 u3 u4 w k1 k2 k3 k4=>kZ u1 u2 u3 u4 (eO rows,12-((eO rows).2.2.1.length:Int),0,0) w k1 k2 k3 k4 (mY hl).2.1);rw[Ju hr hc,(yF hr).1,show inB 12 0 20000=true from rfl]at CS;exact CS
theorem Qx:∃(x:Fl) (s:Int),bV (x,s,0,0)=true/\bZ x/\∀w,Calls prog 36 #[] w (Eu x s 0 0 w):=by
 have hr:=QZ;have hc:(eF (aP 4 4)).length=16:=(by decide+kernel);have CS:=fun(z:Fl) (st:Int) (w:World)=>OB z st true w
 obtain⟨rows,a6⟩:=TV (aP 4 4);rw[<-a6]at hr hc CS;have hl:Small rows.length:=by have:=hr.1.1;unfold Small;omega
 exact⟨_,_,Ju hr hc,mY hl,fun w=>CS _ _ w (fun u w k1=>Me hr hc u w k1)⟩
theorem Mf (W : World) (g : Nat) (v : Value) (l : List Int) (w : World) (h : Rd 1 nG W v l) (bN : Hid (nR (fun x => 0 <= x /\ x <= 255) l)) (hg : W.heap.size <= g) (a7 : Below W.heap.size W w) (bA : Cur w g v l.length) :
 Calls prog 19 #[.pointer (some ⟨g,0,none⟩)] w (KW W g v l.length w):=by
 have hW:=a7.size;have hX:=Blk.aZ w 32 #[.slice none 0 0,.slice none 0 0,.slice none 0 0,.slice none 0 0,.int .i64 0,.int .i64 0,.int .i64 0];have D:=(DS.refl bA a7).al (.cells #[.slice none 0 0,.slice none 0 0,.slice none 0 0,.slice none 0 0,.int .i64 0,.int .i64 0,.int .i64 0] 32);go_enter Tryz.func19,Tryz.ntmps19
 go_wp2_with fail
 refine(Aq 2 W g v l _ h bN hg D.B D.cur (by decide)).mono ?_;rintro e w1 ⟨yes,rfl,c1,B1,g1⟩;replace hX:=hX.ds D.cur g1 (by decide);replace D:=D.dr c1 B1 g1;obtain⟨gX,a6⟩:=TV w.heap.size;have bO:=TY a6;rw[<-a6]at hX;have bR:w.heap.size<=gX:=(by omega);have hne:=(D.cur.ne hX (by decide)).symm;clear a6 c1 B1 g1;rcases yes with _|_
 . go_wp2_with fail
   refine(II W g v l _ h bN hg D.B D.cur).mono ?_;rintro e w2 ⟨x,s,p,r,V1,V2,V3,V4,rfl,own,hf,hsm,D2⟩;replace hX:=hX.ds D.cur D2.gr (by decide);replace own:=own.mono (B':=w.heap.size) D.gr.size;replace D:=D.tr D2;have Hf:=TY hf;have Hs:=TY hsm;clear hf hsm D2;go_wp2_with (rw[<-bO.out];refine aA rfl 32 _ _ rfl gX #[V1,V2,V3,V4,.int .i64 s,.int .i64 p,.int .i64 r] rfl rfl _ _ hX (by kernel_rfl) rfl (nP own.one) ?_;intro wE bE a8)
   have oE:=aB.dD own hX (by decide) (by decide) (by decide) a8;obtain⟨bB,bC,bD,bF,bJ,bK,bL⟩:=bE.n7;refine bodyPost_ret (v:= .agg #[V1,V2,V3,V4,.int .i64 s,.int .i64 p,.int .i64 r]) (by simp[results,Tryz.results19,go_sem,bB,bC,bD,bF,bJ,bK,bL]) rfl ⟨x,s,p,r,V1,V2,V3,V4,rfl,oE,Hf.out,Hs.out,D.st a8 bR hW hne⟩
 . obtain⟨x,s,hk,bU,CW⟩:=Qx;go_wp2_with fail
   refine(CW _).mono ?_;rintro e w2 ⟨A1,c1,A2,c2,A3,c3,A4,c4,rfl,own,hb2⟩;replace hX:=hX.bl hb2;replace own:=own.mono (B':=w.heap.size) D.gr.size;replace D:=D.bl hb2;have Hf:=TY hk;have Hs:=TY bU;clear hk bU hb2 CW;obtain⟨V1,hV1⟩:=TV (Value.slice A1 x.1.length c1);obtain⟨V2,hV2⟩:=TV (Value.slice A2 x.2.1.length c2);obtain⟨V3,bW⟩:=TV (Value.slice A3 x.2.2.1.length c3);obtain⟨V4,bX⟩:=TV (Value.slice A4 x.2.2.2.length c4);rw[<-hV1,<-hV2,<-bW,<-bX]at own⊢;clear hV1 hV2 bW bX;go_wp2_with (rw[<-bO.out];refine aA rfl 32 _ _ rfl gX #[V1,V2,V3,V4,.int .i64 s,.int .i64 0,.int .i64 0] rfl rfl _ _ hX (by kernel_rfl) rfl (nP own.one) ?_;intro wE bE a8)
   have oE:=aB.dD own hX (by decide) (by decide) (by decide) a8;obtain⟨bB,bC,bD,bF,bJ,bK,bL⟩:=bE.n7;refine bodyPost_ret (v:= .agg #[V1,V2,V3,V4,.int .i64 s,.int .i64 0,.int .i64 0]) (by simp[results,Tryz.results19,go_sem,bB,bC,bD,bF,bJ,bK,bL]) rfl ⟨x,s,0,0,V1,V2,V3,V4,rfl,oE,Hf.out,Hs.out,D.st a8 bR hW hne⟩
def Qy (w:World) (e:Ending) (w':World):Prop:=∃(x:Fl) (s p r:Int) (V1 V2 V3 V4:Value) (al:List Ac) (A:Option Addr) (c:Nat),e= .returned (.tuple #[.agg #[V1,V2,V3,V4,.int .i64 s,.int .i64 p,.int .i64 r],.slice A al.length c])/\aB w.heap.size w' V1 V2 V3 V4 x/\bV (x,s,p,r)=true/\bZ x/\
  aD 54 3 pK w.heap.size w' (.slice A al.length c) al/\al.length<=17/\(∀a∈al,iP a.1 a.2.1 a.2.2=true)/\Below w.heap.size w w'
theorem IJ (v : Value) (l : List Int) (w : World) (h : Rd 1 nG w v l) (ok : nR (fun x => 0 <= x /\ x <= 255) l) (hl : l.length <= 1048576) :
 Calls prog 6 #[v] w (Qy w):=by
 have bA:=TY ok;have hX:=Blk.aZ w 32 #[.slice none 0 0,.slice none 0 0,.slice none 0 0,.slice none 0 0,.int .i64 0,.int .i64 0,.int .i64 0];have hA:=(Below.refl w.heap.size w).al (.cells #[.slice none 0 0,.slice none 0 0,.slice none 0 0,.slice none 0 0,.int .i64 0,.int .i64 0,.int .i64 0] 32);go_enter Tryz.func6,Tryz.ntmps6
 go_wp2_with fail
 refine(MI _ l _ (h.TW hA) ok hl).mono ?_;rintro e w1 ⟨g,rfl,hg,a7,hb1⟩;have bB:w.heap.size<=g:=by simp at hg;omega
 have D:DS w w w1 g v l.length:=⟨a7,hA.tr hb1,Q5 (World.grownBy.refl w (some g)) (hA.tr hb1)⟩;replace hX:=hX.bl hb1;have hW:w.heap.size<=w.heap.size:=TZ _;clear a7 hb1 hA;obtain⟨gX,a6⟩:=TV w.heap.size;have bD:=TY a6;rw[<-a6]at hX;have bF:w.heap.size<=gX:=(by omega);have hne:=(D.cur.ne hX (by decide)).symm;clear a6 hg;go_wp2_with fail
 refine(Mf w g v l _ h bA bB D.B D.cur).mono ?_;rintro e w2 ⟨x,s,p,r,V1,V2,V3,V4,rfl,own,hf,hsm,D2⟩;replace hX:=hX.ds D.cur D2.gr (by decide);replace own:=own.mono (B':=w.heap.size) D.gr.size;replace D:=D.tr D2;have Hf:=TY hf;have Hs:=TY hsm;clear hf hsm D2;go_wp2_with fail
 refine(IB w g v l _ h bA bB D.B D.cur).mono ?_;rintro e w3 ⟨al,A,c,rfl,oA,bJ,bC,D3⟩;replace hX:=hX.ds D.cur D3.gr (by decide);replace own:=own.cur D.cur D3.gr;replace oA:=oA.mono (B':=w.heap.size) D.gr.size;replace D:=D.tr D3;have bK:=TY bC;clear bC D3;go_wp2_with (rw[<-bD.out];refine aA rfl 32 _ _ rfl gX #[V1,V2,V3,V4,.int .i64 s,.int .i64 p,.int .i64 r] rfl rfl _ _ hX (by kernel_rfl) rfl (nP own.one) ?_;intro wE bE a8)
 have oE:=aB.dD own hX (by decide) (by decide) (by decide) a8;have bL:=aD.yZ oA hX (by decide) a8;obtain⟨bN,bO,bR,bU,bW,bX,bY⟩:=bE.n7;refine bodyPost_ret (v:= .tuple #[.agg #[V1,V2,V3,V4,.int .i64 s,.int .i64 p,.int .i64 r],.slice A al.length c]) (by simp[results,Tryz.results6,go_sem,bN,bO,bR,bU,bW,bX,bY]) rfl ⟨x,s,p,r,V1,V2,V3,V4,al,A,c,rfl,oE,Hf.out,Hs.out,bL,bJ,bK.out,(D.st a8 bF hW hne).B⟩
theorem Ka {rows:List Int} (hr:R12 rows) (hc:(eF rows).length=16) (v:Value) (w:World) (h:Rd 1 bG w v rows):Calls prog 28 #[.agg #[v],.int .i64 12] w (qM (eO rows) (12-((eO rows).2.2.1.length:Int)) 0 0 true w):=by
 have hl:Small rows.length:=by have:=hr.1.1;unfold Small;omega
 have CS:=Ox v rows 12 _ w h hl (fun u1 u2 u3 u4 w k1 k2 k3 k4=>iC u1 u2 u3 u4 (eO rows,12-((eO rows).2.2.1.length:Int),0,0) w k1 k2 k3 k4 (mY hl).2.1);rw[Ju hr hc,(yF hr).1,show inB 12 0 20000=true from rfl]at CS;exact CS
theorem OC:∃(x:Fl) (s:Int),bV (x,s,0,0)=true/\bZ x/\∀w,Calls prog 10 #[] w (Eu x s 0 0 w):=by
 have hr:=QZ;have hc:(eF (aP 4 4)).length=16:=(by decide+kernel);have CS:=fun(z:Fl) (st:Int) (w:World)=>OA z st true w
 obtain⟨rows,a6⟩:=TV (aP 4 4);rw[<-a6]at hr hc CS;have hl:Small rows.length:=by have:=hr.1.1;unfold Small;omega
 exact⟨_,_,Ju hr hc,mY hl,fun w=>CS _ _ w (fun u w k1=>Ka hr hc u w k1)⟩
theorem Dx (u v:Value) (l m:List ByteArray) (w:World) (h:Rd 1 (RE iX) w u l) (h':Rd 1 (RE iX) w v m):Calls prog 13 #[u,v] w (Ret (.bool (decide (l=m))) w):=by
 obtain⟨A,c,rfl,hc,hm⟩:=h.form;obtain⟨A',c',rfl,hc',bC⟩:=h'.form;by_cases hlen:l.length=m.length
 . have hne : ((l.length : Int) != (m.length : Int)) = false := by simp [hlen]
   have a7:=TY hlen;clear hlen;go_enter func13,ntmps13
   go_wp2;go_loopw [5] (fun i wr=>∃k:Nat,k<=l.length/\i= .int .i64 k/\Hid (decide (l.drop k=m.drop k)=decide (l=m))/\Below w.heap.size w wr) (fun i _=>l.length-(intOf i).toNat)
   case atStart=>exact⟨0,Nat.zero_le _,rfl,TY rfl,Below.refl _ _⟩
   case round=>
    obtain⟨k,hk,rfl,Hg,a6⟩:=hrel;by_cases hlt:k<l.length
    . have a8 : k < m.length := by have := a7.out; omega
      obtain⟨b,off,rfl,hb,h1⟩:=(h.TW a6).OE hlt;obtain⟨b',bA,rfl,hb',q1⟩:=(h'.TW a6).OE a8;have bB:(k:Int)<(m.length:Int):=(by omega);go_wp2_with fail
      go_quiet (fail)
      go_wp2
      all_goals first
        | (go_roundw
           case rel=>exact⟨k+1,by omega,by go_num,Mg Hg hlt a8 (by rename_i hx;simpa[str_inj]using hx),below_drewN a6 _⟩
           case measure=>simp[intOf];omega)
        | (go_ret
           exact⟨lF (Mh Hg hlt a8 (by rename_i hx;simpa[str_inj]using hx)).symm,below_drewN a6 _⟩)
    . go_wp2;go_ret;exact⟨lF (IL Hg (by omega) (by have:=a7.out;omega)).symm,a6⟩
 . have hne : ((l.length : Int) != (m.length : Int)) = true := by simp; omega
   go_enter func13,ntmps13
   go_wp2;go_ret;exact⟨lF (by rw[eq_comm,decide_eq_false_iff_not];exact fun e=>hlen (by rw[e])),Below.refl _ _⟩
theorem Qz (u v:Value) (l:List ByteArray) (w:World) (h:Rd 1 (RE iX) w u l) (h':Rd 1 (RE iX) w v l):Calls prog 13 #[u,v] w (Ret (.bool true) w):=by
 have:=Dx u v l l w h h';rw[decide_eq_true (rfl:l=l)]at this;exact this
theorem KX (v:Value) (l:List Int) (w:World) (h:Rd 1 nG w v l):Calls prog 5 #[v] w (Pure (.bool (decide (1048576<l.length))) w):=by
 obtain⟨A,c,rfl,hc,hm⟩:=h.form;go_enter Tryz.func5,Tryz.ntmps5
 go_wp2;go_ret;exact⟨by simp;omega,rfl⟩
theorem alR {w w':World} {o:Obj} (hg:(w.alloc o).grownBy w' (some w.heap.size)):Below w.heap.size w w':=((Below.refl w.heap.size w).al o).grown hg ((Below.refl w.heap.size w).al o).size (fun k hk=>by injection hk with hk;subst hk;exact TZ _)
theorem Dy (w : World) (tab : Tab w) (b7 : Syn w) (mx : OP w) (v : Value) (l : List Int) (h : Rd 1 nG w v l) (ok : nR (fun x => 0 <= x /\ x <= 255) l) : Calls prog 3 #[v] w (Ret (.bool true) w) := by
 by_cases hsz:1048576<l.length
 . have hd : decide (1048576 < l.length) = true := by simpa using hsz
   have Hd:=TY hd;clear hd;go_enter func3,ntmps3
   go_wp2_with fail
   refine(KX _ l _ h).mono ?_;rintro e w0 ⟨rfl,rfl⟩;rw[Hd.out];go_wp2;go_ret;exact⟨rfl,Below.refl _ _⟩
 . have hd : decide (1048576 < l.length) = false := by simpa using hsz
   have Hd:=TY hd;clear hd;have hl:l.length<=1048576:=(by omega);have cI:=TY ok;have bA:=TY tab;have cJ:=TY b7;have cK:=TY mx;clear ok tab b7 mx;go_enter func3,ntmps3
   go_wp2_with fail
   refine(KX _ l _ h).mono ?_;rintro e w0 ⟨rfl,rfl⟩;rw[Hd.out];go_wp2_with fail
   refine(IJ _ l _ h cI.out hl).mono ?_;rintro e w1 ⟨x0,s0,p0,r0,V1,V2,V3,V4,al,A,c,rfl,oF,hk,hs,oA,cL,b8,hb1⟩;go_upto_region 4 with(refine aA rfl 32 _ _ rfl w1.heap.size #[V1,V2,V3,V4,.int .i64 s0,.int .i64 p0,.int .i64 r0] rfl rfl _ _ (Blk.aZ w1 32 #[.slice none 0 0,.slice none 0 0,.slice none 0 0,.slice none 0 0,.int .i64 0,.int .i64 0,.int .i64 0]) (by kernel_rfl) rfl (nP oF.one) ?_;intro w2 bO hg2)
   have bL:=aD.yZ (oA.alloc (.cells #[.slice none 0 0,.slice none 0 0,.slice none 0 0,.slice none 0 0,.int .i64 0,.int .i64 0,.int .i64 0] 32)) (Blk.aZ w1 32 #[.slice none 0 0,.slice none 0 0,.slice none 0 0,.slice none 0 0,.int .i64 0,.int .i64 0,.int .i64 0]) (by decide) hg2;have B2:=hb1.tr (alR hg2);clear oF oA hb1 hg2 bO hk hs;obtain⟨x,s,hk,hs,CW⟩:=OC;obtain⟨b9,cA⟩:=J2 (y:=(x,s,0,0)) b8 (show al.length<=40 by omega);have CT:=JE (.slice A al.length c) al w2 (bL.rd CZ (by decide)) (bA.out.below B2);have CS:=fun W (b:Below w2.heap.size w2 W)=>J4 x s hk hs CW (pQ al) W (bA.out.below (B2.tr b)) (cJ.out.below (B2.tr b)) (cK.out.below (B2.tr b))
   have CR:=fun(u1 u2 u3 u4:Value) (W:World) (q:R4 W u1 u2 u3 u4 x) (q5:Rd 3 (RE pK) W (.slice A al.length c) al) (q6:Tab W)=>KV u1 u2 u3 u4 (.slice A al.length c) x s 0 0 al W q.a q.b q.c q.d q5 hs q6
   have bF:=Np (l:=al) (y:=(x,s,0,0)) hs;have hsm:=EX (l:=al) (y:=(x,s,0,0)) hs;have bJ:=Nq (y:=(x,s,0,0)) (l:=al);rw[cA]at CS;rw[b9]at CT;obtain⟨⟨⟨⟨X,S,P,Q⟩,N⟩,cB⟩⟩:Nonempty {R:Wk×List Int//R=yE (x,s,0,0) al}:=⟨⟨_,rfl⟩⟩;rw[<-cB]at CS CR bF hsm bJ;simp only at CS bF hsm bJ;obtain⟨T,hT⟩:=TV (lM (X,S,P,Q));have bN:=CE (X,S,P,Q);rw[<-hT]at CS bN;obtain⟨OUT,a6⟩:=TV (N.map Bh++T);rw[<-a6]at CS;obtain⟨TX,cC⟩:=TV (pQ al);rw[<-cC]at CS CT;have cM:=TY CS;have cN:=TY CR;have cP:=TY bF;have cQ:=TY hsm;have bB:=TY bJ;have HT:=TY hT;have HO:=TY a6;have cR:=TY CW;have cD:=TY bN;clear CS CR bF hsm bJ hT a6 cC cB b9 cA hk hs CW b8 cL bN;go_wp2_with fail
   refine CT.mono ?_;rintro e w3 ⟨rfl,hb3⟩;clear CT;go_wp2_with fail
   refine(cM.out _ hb3).mono ?_;rintro e w4 ⟨A4,c4,rfl,oO,hb4⟩;have B4:=hb3.tr hb4;go_wp2_with fail
   refine(cR.out _).mono ?_;rintro e w5 ⟨A1,c1,A2,c2,A3,c3,A5,c5,rfl,oW,bR⟩;have cE:=oO.below bR;have B5:=B4.tr bR;go_wp2_with fail
   refine(cN.out _ _ _ _ _ oW.r4 ((bL.below B5).rd CZ (by decide)) (bA.out.below (B2.tr B5))).mono ?_;rintro e w6 ⟨E1,E2,E3,E4,A6,c6,rfl,oX,oN,_,bU⟩;simp only at oX oN;have cF:=cE.below bU;have B6:=B5.tr bU;clear hb3 hb4 B4 bR oO cE B5 bU oW bL;go_upto_region 7 with(refine aA rfl 32 _ _ rfl w6.heap.size #[E1,E2,E3,E4,.int .i64 S,.int .i64 P,.int .i64 Q] rfl rfl _ _ (Blk.aZ w6 32 #[.slice none 0 0,.slice none 0 0,.slice none 0 0,.slice none 0 0,.int .i64 0,.int .i64 0,.int .i64 0]) (by kernel_rfl) rfl (nP oX.one) ?_;intro w7 bX bC)
   have cS:=aB.alg oX (by decide) (by decide) (by decide) bC;have cT:=oN.TE (by decide) bC;have cU:=cF.below (alR bC);have B7:=B6.tr (alR bC);clear oX oN cF B6 bC;obtain⟨gX,cG⟩:=TV w6.heap.size;rw[<-cG]at bX⊢;clear cG;have bD:=(fI w7 (E:=9) (size:=1) (enc:=iX) w7.heap.size rfl w7.heap.size (TZ _));have K0:=(Below.refl w7.heap.size w7).al (.cells #[] 9);go_wp2;go_loopw [11,12] (fun cV s12 wr=>∃(k:Nat) (ts:List ByteArray) (D:Option Addr) (d:Nat),k<=N.length/\s12= .int .i64 k/\cV= .slice D ts.length d/\Hid (ts.length=k)/\Hid (ts=(N.take k).map Bh)/\aD 9 1 iX w7.heap.size wr (.slice D ts.length d) ts/\Below w7.heap.size w7 wr) (fun _ i _=>N.length-(intOf i).toNat)
   case atStart=>exact⟨0,[],_,_,Nat.zero_le _,rfl,rfl,TY rfl,TY rfl,bD,K0⟩
   case round=>
    clear bD K0;obtain⟨k,ts,D,d,hk,rfl,rfl,bE,bW,oS,K⟩:=hrel;by_cases hlt:k<N.length
    . obtain ⟨b, off, hA, hb, k1⟩ := ((cT.below K).rd aJ (by decide)).sP hlt;subst hA;have eP:(k:Int)<(N.length:Int):=(by omega);have hn:=cP.out N[k] (List.getElem_mem hlt);have bY:ts++[Bh N[k]]=(N.take (k+1)).map Bh:=by rw[bW.out,List.take_succ_eq_append_getElem hlt,List.map_append];rfl
      obtain⟨n,cH⟩:=TV (N[k]);rw[<-cH]at k1 hn bY;have cW:=TY bY;have eR:=hn.1;have eW:=hn.2;have e5:=bB.out;clear cH bY hn;go_wp2_with fail
      refine(Ig n _ (by omega) (by omega) (bA.out.below (B2.tr (B7.tr K)))).mono ?_;rintro e w8 ⟨rfl,a7⟩;have bK:=oS.below a7;have K8:=K.tr a7;have H8:Hid ((ts.length+1)*16<=140737488355328):=TY (by have:=bE.out;have:=bB.out;omega);have HM:Hid (ts.length+1<=maxLen):=TY (by have:=bE.out;have:=bB.out;unfold maxLen;omega);clear oS K a7 k1 hb;go_wp2_with (at_builtin;go_must (refine kW (enc:=iX) qG jA sF (B:=w7.heap.size) w8 K8.size bK (Bh n) rfl H8.out HM.out rfl _ _ rfl rfl rfl ?_);intro v9 w9 a8 cX b5;obtain⟨A9,c9,rfl⟩:=b5)
      have K9:=Below.app K8 bK (TZ _) cX;go_roundw
      case rel=>exact⟨k+1,ts++[Bh n],A9,c9,by omega,by go_num,by simp,TY (by have:=bE.out;simp;omega),cW,by rw[List.length_append,List.length_singleton];exact a8,K9⟩
      case measure=>simp[intOf];omega
    . have cY : k = N.length := by omega
      subst cY;have b6:=bW.out;rw[List.take_length]at b6;have dL:Hid (ts++T=OUT):=TY (by rw[HO.out,b6]);have CF:=TR X S P Q T cQ.out HT.out (cS.below K).r4 (bA.out.below (B2.tr (B7.tr K)));obtain⟨dT,eA,eC,eE,eI,eJ,eK⟩:=(bX.bl K).n7;have H8:Hid ((ts.length+T.length)*16<=140737488355328):=TY (by have:=bE.out;have:=bB.out;have:=cD.out;omega);have HM:Hid (ts.length+T.length<=maxLen):=TY (by have:=bE.out;have:=bB.out;have:=cD.out;unfold maxLen;omega);clear b6 bW;go_wp2_with fail
      refine CF.mono ?_;rintro e w8 ⟨A8,c8,rfl,oT,a7⟩;have bK:=oS.below a7;have K8:=K.tr a7;clear CF dT eA eC eE eI eJ eK oS K a7;go_wp2_with (at_builtin;go_must (refine dX (enc:=iX) qG jA sF K8.size bK (oT.rd jA (by decide)) H8.out HM.out rfl _ _ rfl rfl rfl ?_);intro v9 w9 a8 eL b5;obtain⟨A9,c9,rfl⟩:=b5)
      have K9:=K8.trans eL;have eM:=cU.below K9;go_wp2_with fail
      refine(Qz _ _ OUT _ (eM.rd jA (by decide)) (Sv (a8.rd jA (by decide)) dL.out)).mono ?_;rintro e wz ⟨rfl,eN⟩;go_wp2;go_ret;exact⟨rfl,B2.tr (B7.tr (K9.tr eN))⟩
end Go.Proofs.YtjijonhkofhikaaGreatDoor
