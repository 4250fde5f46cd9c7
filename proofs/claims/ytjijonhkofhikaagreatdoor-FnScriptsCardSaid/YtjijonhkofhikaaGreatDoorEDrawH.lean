import Derived.Test.YtjijonhkofhikaaGreatDoorEG34
open _root_.List renaming length_set->TZ
open _root_.Nat renaming le_trans->T9,le_refl->Ua
open _root_.Int renaming eq_ofNat_of_zero_le->Ub
open _root_.Go.Value renaming oneCell'->Uc
open _root_.Go.Proofs.Tryz renaming results177->Ud
set_option linter.unusedVariables false
set_option linter.unusedSimpArgs false
set_option maxHeartbeats 4000000
set_option maxRecDepth 100000
namespace Go.Proofs.YtjijonhkofhikaaGreatDoor
open Go.ChangeShapes Go.WideShapes Go.ChangeAt Go.RowKit
def Qm (W:World) (g:Nat) (u:Value) (n:Nat) (L:List Int) (w:World) (e:Ending) (w':World):Prop:=∃x,e= .returned (.int .i64 x)/\x∈L/\DS W w w' g u n
theorem Qn (W : World) (g : Nat) (v a : Value) (l L : List Int) (B : Nat) (w : World) (h : Rd 1 nG W v l) (bB : Hid (nR (fun x => 0 <= x /\ x <= 255) l)) (hg : W.heap.size <= g) (a6 : Below W.heap.size W w) (a7 : Cur w g v l.length)
    (own:aD 3 1 bH B w a L) (hne:L≠[]):Calls Tryz.prog 224 #[.pointer (some ⟨g,0,none⟩),a] w (Qm W g v l.length L w):=by
 have D:=DS.refl a7 a6;obtain⟨A,c,rfl,hc,hm⟩:=own.form;go_enter Tryz.func224,Tryz.ntmps224
 go_wp2_with fail
 refine(aQ (L.length:Int) W g v l _ h bB hg D.B D.cur (by unfold maxLen at hm;omega)).mono ?_;rintro e w1 ⟨x,rfl,hx,c1,B1,g1⟩;have a8:=own.cur D.cur (by decide) g1;have D1:=D.dr c1 B1 g1;have hL:0<L.length:=List.length_pos_iff.2 hne;have bA:0<=x/\x<(L.length:Int):=by unfold dQ at hx;omega
 obtain⟨k,rfl⟩:=Ub bA.1;have hk:k<L.length:=(by omega);have bC:(k:Int)<(L.length:Int):=(by omega);obtain⟨b,off,rfl,hb,k0⟩:=(a8.rd aJ (by decide)).sP hk;obtain⟨y,hy⟩:=TV (L[k]);rw[<-hy]at k0;have HY:=TY hy;clear hy hx bA D c1 B1 g1;go_wp2;go_ret;exact⟨y,rfl,by rw[HY.out];exact List.getElem_mem hk,D1⟩
theorem Nu {W w w':World} {g:Nat} (hB:Below W.heap.size W w) (a6:Below W.heap.size W w') (k:kV w g w'):w.grownBy w' (some g):=
 ⟨a6.os.trans hB.os.symm,a6.tape.trans hB.tape.symm,a6.output.trans hB.output.symm,k.1,fun i hi hn=>k.2 i hi (fun e=>hn (by rw[e]))⟩
def AP (rows:List Int):Prop:=rows.length<=9/\∀k (h:k<rows.length),5<=k->rows[k]<=3
theorem tT {rows:List Int} (h:rows.length<=5):AP rows:=⟨by omega,fun k hk h5=>by omega⟩
theorem Qo {rows : List Int} {y : Int} (h : AP rows) : AP (rows.set 0 y) := ⟨by rw [TZ]; exact h.1, fun k hk h5 => by
 rw[List.getElem_set_ne (by omega)];exact h.2 k (by rw[TZ]at hk;exact hk) h5⟩
theorem Ow {rows : List Int} {y : Int} (h : AP rows) (h8 : rows.length <= 8) (hy : y <= 3) : AP (rows ++ [y]) := ⟨by rw [List.length_append, List.length_singleton]; omega, fun k hk h5 => by
 by_cases hlt:k<rows.length
 . rw[List.getElem_append_left hlt];exact h.2 k hlt h5
 . rw[List.getElem_append_right (by omega)];simp;exact hy⟩
def Sl (W:World) (g:Nat) (u:Value) (n:Nat) (w:World) (e:Ending) (w':World):Prop:=∃(rows:List Int) (A:Option Addr) (c:Nat),e= .returned (.agg #[.slice A rows.length c])/\aD 3 1 bH w.heap.size w' (.slice A rows.length c) rows/\AP rows/\DS W w w' g u n
theorem J7 (W : World) (g : Nat) (v : Value) (l : List Int) (w : World) (h : Rd 1 nG W v l) (bX : Hid (nR (fun x => 0 <= x /\ x <= 255) l)) (hg : W.heap.size <= g) (b5 : Below W.heap.size W w) (cG : Cur w g v l.length) :
 Calls Tryz.prog 177 #[.pointer (some ⟨g,0,none⟩)] w (Sl W g v l.length w):=by
 have hW:=b5.size;have hX:=Blk.aZ w 26 #[.slice none 0 0];have D:=(DS.refl cG b5).al (.cells #[.slice none 0 0] 26);go_enter Tryz.func177,Tryz.ntmps177
 go_wp2_with fail
 refine(vL W g v l _ h bX hg D.B D.cur).mono ?_;rintro e w1 ⟨rows,A,c,rfl,own,hr1,cS,cT,b6,B1,k1⟩;have g1:=Nu D.B B1 k1;replace hX:=(hX.ds D.cur g1 (by decide)).alloc (.cells #[.slice A rows.length c] 26);have D1:=D.dr b6 B1 g1;have cU:w.heap.size<w1.heap.size:=by have:=g1.size;simp at this;omega
 replace own:=(own.mono (B':=w.heap.size) (by simp)).alloc (.cells #[.slice A rows.length c] 26);have hR:=Blk.aZ w1 26 #[.slice A rows.length c];replace D:=D1.al (.cells #[.slice A rows.length c] 26);clear g1 b6 B1 k1 D1;go_wp2_with fail
 refine(aQ 10 W g v l _ h bX hg D.B D.cur (by decide)).mono ?_;rintro e w2 ⟨x,rfl,hx,c2,B2,g2⟩;replace hX:=hX.ds D.cur g2 (by decide);replace hR:=hR.ds D.cur g2 (by decide);replace own:=own.cur D.cur (by decide) g2;replace D:=D.dr c2 B2 g2;obtain⟨gX,b7⟩:=TV w.heap.size;obtain⟨gR,b8⟩:=TV w1.heap.size;rw[<-b7]at hX⊢;rw[<-b8]at hR⊢;have cE:w.heap.size<=gX:=(by omega);have cM:w.heap.size<=gR:=(by omega);have eE:gR≠gX:=(by omega);have hne:=(D.cur.ne hX (by decide)).symm;have b9:=(D.cur.ne hR (by decide)).symm;have cV:x=0∨x=1∨x=2∨(x≠0/\x≠1/\x≠2):=(by omega);have HL:=TY (tT cS);clear hx c2 B2 g2 b7 b8 cU cT;rcases cV with rfl|rfl|rfl|⟨e0,e1,e2⟩
 . obtain ⟨g5, rfl, cW, eI⟩ := own.split (k := 0) (by omega);have eJ:(0:Int)<(rows.length:Int):=(by omega);have hgo:g5≠gR:=fun e=>(own.apart hR (by decide)) (by rw[e];rfl)
   have Bw:Below w2.heap.size w2 w2.drew:=(Below.refl _ _).drew;have zR:=hR.c1;have eK:=hR.lt;go_upto_region 4 with(fail)
   refine rB (fun w'=>w'.cell? ⟨gR,0,none⟩=some (.slice (some ⟨g5,0,none⟩) rows.length c)) fun hHeld=>(tW 0)<|(tW 1)<|(tW 2)<|(tR [3])<|tL fun K hK=>?_
   (refine JY rfl _ _ _ rfl rfl rfl rfl ?_;intro gL wX cA oL eL;obtain⟨wB,cB⟩:=TV w2.drew;rw[<-cB]at cA oL;have cC:=(hX.bl Bw).bl (by rw[<-cB];exact cA);have bU:=(hR.bl Bw).bl (by rw[<-cB];exact cA);have bF:=(own.below Bw).below (by rw[<-cB];exact cA);have D3:=(D.bl Bw).bl (by rw[<-cB];exact cA);have zR:=bU.c1)
   refine tK hK fun hHeld=>?_
   clear hK K;refine(tR [4])<|tL fun K hK=>?_
   go_simp
   (go_at_call 224;go_must (refine(Qn W g v _ l [-1,255,256] wB.heap.size _ h bX hg D3.B D3.cur oL (by simp)).mono ?_;rintro e wX ⟨y,rfl,hy,D4⟩;have bJ:=cC.ds D3.cur D4.gr (by decide);have bA:=bU.ds D3.cur D4.gr (by decide);have a6:=bF.cur D3.cur (by decide) D4.gr;have D5:=D3.tr D4;have zR:=bA.c1;have cD:0<rows.length:=hr1;have s1:=a6.slot aJ Nat.one_pos cD 0 _ rfl;rw[Nat.zero_mul,Nat.add_zero]at s1;have s2:=a6.free 0))
   refine tK hK fun hHeld=>?_
   clear hK K;refine(tW 5)<|(tR [6])<|tL fun K hK=>?_
   go_simp
   refine tK hK fun hHeld=>?_
   clear hK K;refine tD ?_;have a7:=dA (World.grownBy.refl wX (some g5)) 0 (.int .i64 y);have hgx:g5≠gX:=fun e=>(a6.apart bJ (by decide)) (by rw[e];rfl)
   have cY:g≠g5:=fun e=>(D5.cur.apart a6 (by decide)) (by rw[<-e];rfl)
   have cH:=a6.iZ aJ (y:=y) cD rfl;have bD:=bA.grown a7 (by simp;omega);have D6:=D5.st a7 cW hW cY;replace hX:=bJ.grown a7 (by simp;omega);have zR:=bD.c1;go_wp2_with (refine aA rfl 26 _ _ rfl gX #[.slice (some ⟨g5,0,none⟩) rows.length c] rfl rfl _ _ hX (by kernel_rfl) rfl (by simp[Uc]) ?_;intro wE bE bK)
   have oE:=aD.yZ cH hX (by decide) bK;have qE:=bE.c1;refine bodyPost_ret (v:= .agg #[.slice (some ⟨g5,0,none⟩) rows.length c]) (by simp[results,Ud,go_sem,qE]) rfl ⟨rows.set 0 y,_,_,by rw[TZ],by rw[TZ];exact oE,Qo HL.out,D6.st bK cE hW hne⟩
 . have f0:((1:Int)==0)=false:=rfl;go_wp2;go_loopw [24] (fun _ wr=>∃(rs:List Int) (A':Option Addr) (c':Nat),Hid (AP rs)/\Blk wr gR 26 #[.slice A' rs.length c']/\aD 3 1 bH w.heap.size wr (.slice A' rs.length c') rs/\Blk wr gX 26 #[.slice none 0 0]/\DS W w wr g v l.length) (fun _ wr=>10-Ed wr gR)
   case atStart=>exact⟨rows,_,_,HL,hR,own,hX,D⟩
   case round=>
    obtain⟨rs,A',c',cN,cI,bL,dL,D2⟩:=hrel;clear hR own hX D;have zR:=cI.c1;have Bw:Below wr.heap.size wr wr.drew:=(Below.refl _ _).drew;go_wp2_with fail
    refine rB (fun w'=>w'.cell? ⟨gR,0,none⟩=some (.slice A' rs.length c')) fun hHeld=>(tW 0)<|(tW 1)<|(tW 2)<|(tW 3)<|(tR [4])<|tL fun K hK=>?_
    go_simp
    (go_at_call 42;go_must (refine(aQ 2 W g v l _ h bX hg (D2.bl Bw).B (D2.bl Bw).cur (by decide)).mono ?_;rintro e w3 ⟨y,rfl,hy,cX,BX,a7⟩;have eM:0<=y/\y<=1:=(by unfold dQ at hy;omega);have eN:IntKind.i64.wrap (8+y)=8+y:=IntWalk.i64_in _ (by omega);have D3:=(D2.bl Bw).dr cX BX a7;have bU:=(cI.bl Bw).ds (D2.bl Bw).cur a7 (by decide);have cC:=(dL.bl Bw).ds (D2.bl Bw).cur a7 (by decide);have bF:=(bL.below Bw).cur (D2.bl Bw).cur (by decide) a7;have zR:=bU.c1))
    refine tK hK fun hHeld=>?_
    clear hK K;refine(tW 5)<|(tW 6)<|tD ?_;clear hy cX BX a7 hHeld;by_cases hlt:(rs.length:Int)<8+y
    . have a8:Below w3.heap.size w3 w3.drew:=(Below.refl _ _).drew;have H8:Hid ((rs.length+1)*8<=140737488355328):=TY (by omega);have HM:Hid (rs.length+1<=maxLen):=TY (by unfold maxLen;omega);have dT:rs.length<=8:=(by omega);go_wp2_with fail
      refine rB (fun _=>True) fun hHeld=>(tW 0)<|(tW 2)<|(tR [1,3])<|tC (fun K hK=>?_) ?_
      go_simp
      refine tK hK fun hHeld=>?_
      clear hK K;refine(tR [3])<|tL fun K hK=>?_
      go_simp
      (go_at_call 42;go_must (refine(aQ 4 W g v l _ h bX hg (D3.bl a8).B (D3.bl a8).cur (by decide)).mono ?_;rintro e w4 ⟨z,rfl,hz,cX,BX,a7⟩;have D4:=(D3.bl a8).dr cX BX a7;have bY:=(bU.bl a8).ds (D3.bl a8).cur a7 (by decide);have cF:=(cC.bl a8).ds (D3.bl a8).cur a7 (by decide);have bO:=(bF.below a8).cur (D3.bl a8).cur (by decide) a7;have zR:=bY.c1))
      refine tK hK fun hHeld=>?_
      clear hK K;refine(tR [4])<|tL fun K hK=>?_
      (refine lD rfl _ rfl rfl ?_;intro gB w5 bC bB cP;have D5:=D4.bl bC;have bA:=bY.bl bC;have bJ:=cF.bl bC;have a6:=bO.below bC;have zR:=bA.c1)
      refine tK hK fun hHeld=>?_
      clear hK K;refine(tR [5])<|tL fun K hK=>?_
      (refine kH fE aJ (T9 D5.gr.size (Ua _)) a6 z (jN _) bB H8.out HM.out rfl _ _ rfl rfl rfl ?_;intro A8 c8 w6 bW bN;have D6:=D5.app a6 (by decide) (Ua _) hW bN;have bD:=bA.grown bN (fun e=>a6.apart bA (by decide) e.symm);have cJ:=bJ.grown bN (fun e=>a6.apart bJ (by decide) e.symm);have zR:=bD.c1;have fR:=bD.frozen 0)
      refine tK hK fun hHeld=>?_
      clear hK K;refine(tW 6)<|(tR [7])<|tL fun K hK=>?_
      go_simp
      refine tK hK fun hHeld=>?_
      clear hK K;refine tD ?_
      rotate_left 1
      refine tL fun K hK=>?_
      go_simp
      (go_at_call 42;go_must (refine(aQ 4 W g v l _ h bX hg (D3.bl a8).B (D3.bl a8).cur (by decide)).mono ?_;rintro e w4 ⟨z,rfl,hz,cX,BX,a7⟩;have D4:=(D3.bl a8).dr cX BX a7;have bY:=(bU.bl a8).ds (D3.bl a8).cur a7 (by decide);have cF:=(cC.bl a8).ds (D3.bl a8).cur a7 (by decide);have bO:=(bF.below a8).cur (D3.bl a8).cur (by decide) a7;have zR:=bY.c1))
      refine tK hK fun hHeld=>?_
      clear hK K;refine(tR [1,4])<|tC (fun K hK=>?_) ?_;go_simp
      refine tK hK fun hHeld=>?_
      clear hK K;refine(tR [4])<|tL fun K hK=>?_
      (refine lD rfl _ rfl rfl ?_;intro gB w5 bC bB cP;have D5:=D4.bl bC;have bA:=bY.bl bC;have bJ:=cF.bl bC;have a6:=bO.below bC;have zR:=bA.c1)
      refine tK hK fun hHeld=>?_
      clear hK K;refine(tR [5])<|tL fun K hK=>?_
      (refine kH fE aJ (T9 D5.gr.size (Ua _)) a6 z (jN _) bB H8.out HM.out rfl _ _ rfl rfl rfl ?_;intro A8 c8 w6 bW bN;have D6:=D5.app a6 (by decide) (Ua _) hW bN;have bD:=bA.grown bN (fun e=>a6.apart bA (by decide) e.symm);have cJ:=bJ.grown bN (fun e=>a6.apart bJ (by decide) e.symm);have zR:=bD.c1;have fR:=bD.frozen 0)
      refine tK hK fun hHeld=>?_
      clear hK K;refine(tW 6)<|(tR [7])<|tL fun K hK=>?_
      go_simp
      refine tK hK fun hHeld=>?_
      clear hK K;refine tD ?_
      rotate_left 1
      refine tL fun K hK=>?_
      (refine lD rfl _ rfl rfl ?_;intro gB w5 bC bB cP;have D5:=D4.bl bC;have bA:=bY.bl bC;have bJ:=cF.bl bC;have a6:=bO.below bC;have zR:=bA.c1)
      refine tK hK fun hHeld=>?_
      clear hK K;refine(tR [1])<|tL fun K hK=>?_
      go_simp
      refine tK hK fun hHeld=>?_
      clear hK K;refine(tR [5])<|tL fun K hK=>?_
      (refine kH fE aJ (T9 D5.gr.size (Ua _)) a6 z (jN _) bB H8.out HM.out rfl _ _ rfl rfl rfl ?_;intro A8 c8 w6 bW bN;have D6:=D5.app a6 (by decide) (Ua _) hW bN;have bD:=bA.grown bN (fun e=>a6.apart bA (by decide) e.symm);have cJ:=bJ.grown bN (fun e=>a6.apart bJ (by decide) e.symm);have zR:=bD.c1;have fR:=bD.frozen 0)
      refine tK hK fun hHeld=>?_
      clear hK K;refine(tW 6)<|(tR [7])<|tL fun K hK=>?_
      go_simp
      refine tK hK fun hHeld=>?_
      clear hK K;refine tD ?_
      all_goals
        have eA:z<=3:=by unfold dQ at hz;omega
        have bR:=dA (World.grownBy.refl w6 (some gR)) 0 (.slice A8 (rs.length+1) c8);have D7:=D6.st bR cM hW b9;have cK:=aD.yZ bW bD (by decide) bR;have cQ:=bD.st 0 (.slice A8 (rs.length+1) c8) _ rfl;have eC:=cJ.grown bR (by simp;omega);have hl:(rs++[z]).length=rs.length+1:=(by rw[List.length_append,List.length_singleton]);go_wp2;go_roundw
        case rel=>exact⟨rs++[z],A8,c8,TY (Ow cN.out dT eA),by rw[hl];exact cQ,by rw[hl];exact cK,eC,D7⟩
        case measure=>rw[cQ.len_,cI.len_];omega
    . have hX:=cC;have zR:=bU.c1;go_wp2_with (refine aA rfl 26 _ _ rfl gX #[.slice A' rs.length c'] rfl rfl _ _ hX (by kernel_rfl) rfl (by simp[Uc]) ?_;intro wE bE bK)
      have oE:=aD.yZ bF hX (by decide) bK;have qE:=bE.c1;refine bodyPost_ret (v:= .agg #[.slice A' rs.length c']) (by simp[results,Ud,go_sem,qE]) rfl ⟨_,_,_,rfl,oE,cN.out,D3.st bK cE hW hne⟩
 . have f0:((2:Int)==0)=false:=rfl;have cL:=own.takeA aJ (Nat.zero_le _);have cR:=hR.st 0 (.slice A 0 c) #[.slice A 0 c] rfl;have hf:=hR.frozen 0;have zR:=hR.c1;have bR:=dA (World.grownBy.refl w2 (some gR)) 0 (.slice A 0 c);have D1:=D.st bR cM hW b9;have bL:=aD.yZ cL hR (by decide) bR;replace hX:=hX.grown bR (by simp;omega);rw[List.take_zero]at bL;go_upto_region 10 with(fail)
   obtain⟨w3,hw3⟩:=TV (w2.setCell ⟨gR,0,none⟩ (.slice A 0 c));rw[<-hw3]at D1 bL hX cR⊢;clear hw3 bR zR hf;have zR:=cR.c1;go_wp2_with (refine aA rfl 26 _ _ rfl gX #[.slice A 0 c] rfl rfl _ _ hX (by kernel_rfl) rfl (by simp[Uc]) ?_;intro wE bE bK)
   have oE:=aD.yZ bL hX (by decide) bK;have qE:=bE.c1;refine bodyPost_ret (v:= .agg #[.slice A 0 c]) (by simp[results,Ud,go_sem,qE]) rfl ⟨[],_,_,rfl,oE,⟨Nat.zero_le _,fun k hk=>absurd hk (Nat.not_lt_zero _)⟩,D1.st bK cE hW hne⟩
 . have f0:(x==0)=false:=beq_false_of_ne e0;have f1:(x==1)=false:=beq_false_of_ne e1;have f2:(x==2)=false:=beq_false_of_ne e2;have zR:=hR.c1;go_wp2_with (refine aA rfl 26 _ _ rfl gX #[.slice A rows.length c] rfl rfl _ _ hX (by kernel_rfl) rfl (by simp[Uc]) ?_;intro wE bE bK)
   have oE:=aD.yZ own hX (by decide) bK;have qE:=bE.c1;refine bodyPost_ret (v:= .agg #[.slice A rows.length c]) (by simp[results,Ud,go_sem,qE]) rfl ⟨_,_,_,rfl,oE,HL.out,D.st bK cE hW hne⟩
def Qp (w:World) (e:Ending) (w':World):Prop:=∃(rows:List Int) (A:Option Addr) (c:Nat),e= .returned (.agg #[.slice A rows.length c])/\aD 3 1 bH w.heap.size w' (.slice A rows.length c) rows/\AP rows/\Below w.heap.size w w'
theorem FZ (v : Value) (l : List Int) (w : World) (h : Rd 1 nG w v l) (ok : nR (fun x => 0 <= x /\ x <= 255) l) (hl : l.length <= 1048576) :
 Calls Tryz.prog 123 #[v] w (Qp w):=by
 have bB:=TY ok;have hX:=Blk.aZ w 26 #[.slice none 0 0];have hA:=(Below.refl w.heap.size w).al (.cells #[.slice none 0 0] 26);go_enter Tryz.func123,Tryz.ntmps123
 go_wp2_with fail
 refine(MI _ l _ (h.TW hA) ok hl).mono ?_;rintro e w1 ⟨g,rfl,hg,bF,hb1⟩;have bC:w.heap.size<=g:=by simp at hg;omega
 have bJ:g≠w.heap.size:=by simp at hg;omega
 have D:DS w w w1 g v l.length:=⟨bF,hA.tr hb1,Q5 (World.grownBy.refl w (some g)) (hA.tr hb1)⟩;replace hX:=hX.bl hb1;have hW:w.heap.size<=w.heap.size:=Ua _;clear bF hb1 hA hg;go_wp2_with fail
 refine(Aq 3 w g v l _ h bB bC D.B D.cur (by decide)).mono ?_;rintro e w2 ⟨yes,rfl,c2,B2,g2⟩;replace hX:=hX.ds D.cur g2 (by decide);replace D:=D.dr c2 B2 g2;obtain⟨gX,a7⟩:=TV w.heap.size;rw[<-a7]at hX bJ⊢;have cB:w.heap.size<=gX:=(by omega);have hne:g≠gX:=bJ;clear c2 B2 g2;rcases yes with _|_
 . go_wp2_with fail
   refine(J7 w g v l _ h bB bC D.B D.cur).mono ?_;rintro e cX ⟨rows,A,c,rfl,own,cL,D2⟩;replace hX:=hX.ds D.cur D2.gr (by decide);replace own:=own.mono (B':=w.heap.size) D.B.size;replace D:=D.tr D2;rw[<-a7];clear a7;have zR:=hX.c1;go_wp2_with (refine aA rfl 26 _ _ rfl gX #[.slice A rows.length c] rfl rfl _ _ hX (by kernel_rfl) rfl (by simp[Uc]) ?_;intro wE bE bK)
   have oE:=aD.yZ own hX (by decide) bK;have qE:=bE.c1;refine bodyPost_ret (v:= .agg #[.slice A rows.length c]) (by simp[results,Tryz.results123,go_sem,qE]) rfl ⟨_,_,_,rfl,oE,cL,(D.st bK cB hW hne).B⟩
 . go_wp2_with fail
   refine(aQ 4 w g v l _ h bB bC D.B D.cur (by decide)).mono ?_;rintro e w3 ⟨a,rfl,ha,c3,B3,g3⟩;replace hX:=hX.ds D.cur g3 (by decide);replace D:=D.dr c3 B3 g3;have cC:0<=a/\a<=3:=by unfold dQ at ha;omega
   obtain⟨a,rfl⟩:=Ub cC.1;have cM:a<=3:=(by omega);clear cC ha c3 B3 g3;go_wp2_with fail
   refine(aQ 3 w g v l _ h bB bC D.B D.cur (by decide)).mono ?_;rintro e w4 ⟨b,rfl,hb,c4,B4,g4⟩;replace hX:=hX.ds D.cur g4 (by decide);replace D:=D.dr c4 B4 g4;have cD:0<=b/\b<=2:=by unfold dQ at hb;omega
   obtain⟨b,rfl⟩:=Ub cD.1;have bD:b<=2:=(by omega);clear cD hb c4 B4 g4;go_wp2_with fail
   rw[show(3:Int)+a=((3+a:Nat):Int) by simp,show(3:Int)+b=((3+b:Nat):Int) by simp];obtain⟨a',ha'⟩:∃a',a'=3+a:=⟨_,rfl⟩;obtain⟨b',hb'⟩:∃b',b'=3+b:=⟨_,rfl⟩;rw[<-ha',<-hb'];have ha1:3<=a':=(by omega);have cY:a'<=6:=(by omega);have cN:3<=b':=(by omega);have dL:b'<=5:=(by omega);clear ha' hb' cM bD;refine(xJ a' b' _ ⟨by omega,by omega⟩ ⟨by omega,by omega⟩).mono ?_;rintro e w5 ⟨A3,c5,rfl,a8,bD⟩;have b6:(aP a' b').length=b':=(by simp[aP]);rw[b6]at a8⊢;have b7:gX<w5.heap.size:=(hX.bl bD).lt;replace hX:=(hX.bl bD).alloc (.cells #[.slice A3 b' c5] 26);have hR:=Blk.aZ w5 26 #[.slice A3 b' c5];have bL:=(a8.mono (B':=w.heap.size) D.B.size).alloc (.cells #[.slice A3 b' c5] 26);replace D:=(D.bl bD).al (.cells #[.slice A3 b' c5] 26)
   have bA : ∀ r ∈ aP a' b', 0 <= r /\ r <= 255 := fun r hr => by
    have:=C9 (w:=a') (by omega);unfold aP at hr;rw[(List.mem_replicate.1 hr).2];omega
   clear a8 bD;go_wp2_with fail
   refine(aQ 3 w g v l _ h bB bC D.B D.cur (by decide)).mono ?_;rintro e w6 ⟨k0,rfl,cE,c6,B6,g6⟩;replace hX:=hX.ds D.cur g6 (by decide);replace hR:=hR.ds D.cur g6 (by decide);have bN:=bL.cur D.cur (by decide) g6;replace D:=D.dr c6 B6 g6;have bO:0<=k0/\k0<=2:=by unfold dQ at cE;omega
   obtain⟨k0,rfl⟩:=Ub bO.1;have cP:k0<=2:=(by omega);obtain⟨br,hbr⟩:=TV w5.heap.size;rw[<-hbr]at hR b7;clear bO cE bL c6 B6 g6;go_wp2;rw[<-hbr];have dT:=TY hbr;have cQ:=TY b6;have bR:=TY bA;have cR:=TY a7;clear hbr b6 bA a7;go_loopw [5] (fun s6 wr=>∃(k:Nat) (rows:List Int),k<=3/\s6= .int .i64 k/\Hid (rows.length=b')/\Hid (∀r∈rows,0<=r/\r<=255)/\aD 3 1 bH w.heap.size wr (.slice A3 b' c5) rows/\Blk wr br 26 #[.slice A3 b' c5]/\Blk wr gX 26 #[.slice none 0 0]/\DS w w wr g v l.length) (fun i _=>(intOf i).toNat)
   case atStart=>exact⟨1+k0,_,by omega,by simp,cQ,bR,bN,hR,hX,D⟩
   case round=>
    obtain⟨k,rows,hk,rfl,Hl,Hr,hown,hy,hx,D0⟩:=hrel;clear bN hR hX D;have q0:=hy.c1;by_cases eA:0<k
    . go_wp2_with fail
      refine(aQ ((b':Int)-2) w g v l _ h bB bC D0.B D0.cur (by omega)).mono ?_;rintro e w7 ⟨y,rfl,cF,c7,B7,g7⟩;have bU:0<=y/\y<b'-2:=by unfold dQ at cF;omega
      obtain⟨y,rfl⟩:=Ub bU.1;have cG:1+y<b':=(by omega);have bW:=hown.cur D0.cur (by decide) g7;have cH:=hy.ds D0.cur g7 (by decide);have hx1:=hx.ds D0.cur g7 (by decide);have D1:=D0.dr c7 B7 g7;clear bU cF q0 hown hy hx D0 c7 B7 g7;go_wp2_with fail
      refine(aQ 3 w g v l _ h bB bC D1.B D1.cur (by decide)).mono ?_;rintro e w8 ⟨x,rfl,cI,c8,B8,g8⟩;have bX:0<=x/\x<3:=by unfold dQ at cI;omega
      obtain⟨x,rfl⟩:=Ub bX.1;have cS:1+x<=3:=(by omega);have a6:=bW.cur D1.cur (by decide) g8;have bY:=cH.ds D1.cur g8 (by decide);have hx2:=hx1.ds D1.cur g8 (by decide);have D2:=D1.dr c8 B8 g8;clear bX cI bW cH hx1 D1 c8 B8 g8;go_upto_region 9 with(fail)
      rw[show(1:Int)+x=((1+x:Nat):Int) by simp,show(1:Int)+y=((1+y:Nat):Int) by simp];obtain⟨y',hy'⟩:∃y',y'=1+y:=⟨_,rfl⟩;obtain⟨x',b8⟩:∃x',x'=1+x:=⟨_,rfl⟩;rw[<-hy',<-b8];rw[<-hy']at cG;rw[<-b8]at cS;clear hy' b8;have b5:y'<rows.length:=by rw[Hl.out];exact cG
      obtain⟨r,hr⟩:=TV (rows[y']);have cJ:=Hr.out rows[y'] (List.getElem_mem b5);rw[<-hr]at cJ;obtain⟨cT,hr1⟩:=cJ;obtain⟨g5,rfl,cU,eC⟩:=a6.split b5;have s1:=a6.slot aJ Nat.one_pos b5 0 (.int .i64 r) (by rw[hr];rfl);have s2:=a6.free y';rw[Nat.mul_one,Nat.add_zero]at s1;have q1:=bY.c1;have q2:=bY.lt;have eE:(y':Int)<b':=(by omega);have hp:=C9 (w:=x') (by omega);have b9:=QG (r:=r) (P:=2^x') (h0:=cT) (hP:=hp.1);have e0:=Ap (r/2^x');have eI:=TY hr;clear hr;by_cases ht:(r/2^x')%2=1
      . have cA:=b9 ht;have t1:((r/2^x')%2==1)=true:=(by simpa using ht);obtain⟨P,hP⟩:=TV ((2:Int)^x');rw[<-hP]at hp cA;have e1:IntKind.i64.wrap ((2:Int)^x')=P:=by rw[<-hP];exact IntWalk.i64_in _ (by omega)
        have e2:IntKind.i64.wrap (r-P)=r-P:=IntWalk.i64_in _ (by omega);have HP:=TY hP;clear ht b9 hP;have hgo:g5≠br:=fun e=>(a6.apart bY (by decide)) (by rw[e];rfl)
        have hgx:g5≠gX:=fun e=>(a6.apart hx2 (by decide)) (by rw[e];rfl)
        have cV:g≠g5:=fun e=>(D2.cur.apart a6 (by decide)) (by rw[<-e];rfl)
        have a8:=(a6.iZ aJ (y:=r-P) b5 rfl).drewN 1;have cW:=(bY.far (p:=⟨g5,y',none⟩) (fun e=>hgo e.symm) (.int .i64 (r-P))).drewN 1;have hx3:=(hx2.far (p:=⟨g5,y',none⟩) (fun e=>hgx e.symm) (.int .i64 (r-P))).drewN 1;have D3:=(D2.st (dA (World.grownBy.refl w8 (some g5)) y' (.int .i64 (r-P))) cU hW cV).bl ((Below.refl _ _).drew);have HL:Hid ((rows.set y' (r-P)).length=b'):=TY (by rw[TZ];exact Hl.out)
        have HR : Hid (∀ z ∈ rows.set y' (r - P), 0 <= z /\ z <= 255) := TY fun z hz => by
         rcases List.mem_or_eq_of_mem_set hz with hz|rfl
         . exact Hr.out z hz
         . omega
        go_wp2_with fail
        go_still_tail 12,(by kernel_rfl)
        change wpList _ _ _ _ _ (World.drew _);clear e0 e1 e2;go_wp2;go_roundw
        case rel=>exact⟨k-1,_,by omega,by go_num,HL,HR,a8,cW,hx3,D3⟩
        case measure=>simp[intOf];omega
      . have t1 : ((r / 2 ^ x') % 2 == 1) = false := by simpa using ht
        clear b9 ht;go_wp2;go_roundw
        case rel=>exact⟨k-1,rows,by omega,by go_num,Hl,Hr,a6,bY,hx2,D2⟩
        case measure=>simp[intOf];omega
    . obtain rfl : k = 0 := by omega
      have hX:=hx;have cK:=Hl.out;go_upto_region 11 with(fail)
      rw[<-cR.out];have zR:=hy.c1;go_wp2_with (refine aA rfl 26 _ _ rfl gX #[.slice A3 b' c5] rfl rfl _ _ hX (by kernel_rfl) rfl (by simp[Uc]) ?_;intro wE bE bK)
      have oE:=aD.yZ hown hX (by decide) bK;have qE:=bE.c1;refine bodyPost_ret (v:= .agg #[.slice A3 b' c5]) (by simp[results,Tryz.results123,go_sem,qE]) rfl ⟨rows,A3,c5,by rw[cK],by rw[cK];exact oE,tT (by omega),(D0.st bK cB hW hne).B⟩
end Go.Proofs.YtjijonhkofhikaaGreatDoor
