import Derived.Test.YtjijonhkofhikaaGreatDoorEDrawH
open _root_.Nat renaming le_refl->TZ
open _root_.Bool renaming and_eq_true->T9
open _root_.Go.Value renaming oneCell'->Ua
open _root_.Go.Proofs.Tryz (prog)
open _root_.Go.Proofs.Tryz renaming results75->Ub
set_option linter.unusedVariables false
set_option linter.unusedSimpArgs false
set_option maxHeartbeats 4000000
set_option maxRecDepth 100000
namespace Go.Proofs.YtjijonhkofhikaaGreatDoor
open Go.ChangeShapes Go.WideShapes Go.ChangeAt Go.RowKit
def R12 (rows:List Int):Prop:=dY rows/\1<=aY rows/\aY rows<=60/\AP rows
def Sm (W:World) (g:Nat) (u:Value) (n:Nat) (w:World) (e:Ending) (w':World):Prop:=∃(rows:List Int) (A:Option Addr) (c:Nat),e= .returned (.agg #[.slice A rows.length c])/\aD 3 1 bH w.heap.size w' (.slice A rows.length c) rows/\R12 rows/\DS W w w' g u n
theorem Qq:R12 (aP 4 3):=by
 have hr:dY (aP 4 3):=by
  refine⟨by simp[aP],fun r hr=> ?_⟩;unfold aP at hr;rw[(List.mem_replicate.1 hr).2];omega
 have h:1<=(jD (setOf (aP 4 3))).length/\(jD (setOf (aP 4 3))).length<=60:=by decide+kernel
 have e:aY (aP 4 3)=((jD (setOf (aP 4 3))).length:Nat):=by
  unfold aY;rw[if_pos (aN.2 hr),tJ (dW hr)]
 exact⟨hr,by omega,by omega,tT (by decide)⟩
theorem EY {x:Int} (h:0<=x/\x<=255):IntKind.u8.wrap x=x:=by
 unfold IntKind.wrap;simp[IntKind.bits,IntKind.signed];omega
theorem Ma (w:World) (a b c d:Int):aD 5 1 qR w.heap.size (w.alloc (.cells #[.int .u8 a,.int .u8 b,.int .u8 c,.int .u8 d] 5)) (.slice (some ⟨w.heap.size,0,none⟩) 4 4) [a,b,c,d]:=
 ⟨by simp[qR],.inr ⟨w.heap.size,4,#[.int .u8 a,.int .u8 b,.int .u8 c,.int .u8 d],rfl,TZ _,heap_alloc_new w _,by simp,by simp[maxLen],by simp,by simp[qR]⟩⟩
theorem IE (W : World) (g : Nat) (v : Value) (l : List Int) (w : World) (h : Rd 1 nG W v l) (bU : Hid (nR (fun x => 0 <= x /\ x <= 255) l)) (hg : W.heap.size <= g) (bX : Below W.heap.size W w) (cC : Cur w g v l.length) :
 Calls prog 75 #[.pointer (some ⟨g,0,none⟩)] w (Sm W g v l.length w):=by
 have hW:=bX.size;have hX:=Blk.aZ w 26 #[.slice none 0 0];have D:=(DS.refl cC bX).al (.cells #[.slice none 0 0] 26);go_enter Tryz.func75,Tryz.ntmps75
 obtain⟨gX,bK⟩:=TV w.heap.size;have cD:=TY bK;rw[<-bK]at hX;have cE:w.heap.size<=gX:=(by omega);have hne:=(D.cur.ne hX (by decide)).symm;go_wp2_with fail
 clear bK;go_loopw [3] (fun s3 wr=>∃k:Nat,k<=6/\s3= .int .i64 k/\Blk wr gX 26 #[.slice none 0 0]/\DS W w wr g v l.length) (fun i _=>6-(intOf i).toNat)
 case atStart=>exact⟨0,by omega,rfl,hX,D⟩
 case round=>
  obtain⟨k,hk,rfl,cF,D0⟩:=hrel;clear hX D;by_cases hlt:k<6
  . have dT : decide ((k : Int) < 6) = true := decide_eq_true (by omega);go_wp2_with fail
    refine(vL W g v l _ h bU hg D0.B D0.cur).mono ?_;rintro e w1 ⟨rows,A,c,rfl,own,h1,h5,hr,b5,B1,k1⟩;have g1:=Nu D0.B B1 k1;have cG:=cF.ds D0.cur g1 (by decide);have cX:=cG.lt;have cJ:=cG.alloc (.cells #[.slice A rows.length c] 26);have D1:=(D0.dr b5 B1 g1).al (.cells #[.slice A rows.length c] 26);have a8:=(own.mono (B':=w.heap.size) D0.gr.size).alloc (.cells #[.slice A rows.length c] 26);have cK:=Blk.aZ w1 26 #[.slice A rows.length c];clear own b5 B1 k1 g1 cF D0 cG;go_wp2_with fail
    refine(Aq 4 W g v l _ h bU hg D1.B D1.cur (by decide)).mono ?_;rintro e w2 ⟨yes,rfl,c2,B2,g2⟩;have cH:=cJ.ds D1.cur g2 (by decide);have bL:=a8.cur D1.cur (by decide) g2;have b9:=cK.ds D1.cur g2 (by decide);have D2:=D1.dr c2 B2 g2;clear cJ a8 cK D1 c2 B2 g2;have Hl:=TY (tT h5);rcases yes with _|_
    . skip;have zy:=b9.c1;obtain⟨o,ho⟩:=TV (bQ rows);have CO:∀(u:Value) (w:World),Rd 1 bG w u rows->Calls prog 124 #[.agg #[u]] w (Ret (.bool o) w):=fun u w k1=>by rw[ho];exact dZ u rows w k1
      go_wp2_with fail
      refine(CO _ _ (bL.rd aJ (by decide))).mono ?_;rintro e w7 ⟨rfl,bB⟩;have bN:=cH.bl bB;have a7:=bL.below bB;have D7:=D2.bl bB;have bO:=b9.bl bB;clear zy;have zy:=bO.c1;cases o
      . clear ho CO;go_wp2;go_roundw
        case rel=>exact⟨k+1,by omega,by go_num,bN,D7⟩
        case measure=>simp[intOf];omega
      . have bC:=aN.1 ho.symm;obtain⟨n,hn⟩:=TV (fF (setOf rows));have CC:∀(u:Value) (w:World),Rd 1 bG w u rows->Calls prog 125 #[.agg #[u]] w (Ret (.int .i64 n) w):=fun u w k1=>by rw[hn];exact vI u rows w k1 (TY bC)
        obtain⟨i,hi⟩:=TV (inB n 1 60);have CI:∀(w:World),Calls prog 65 #[.int .i64 n,.int .i64 1,.int .i64 60] w (Pure (.bool i) w):=fun w=>by rw[hi];exact iY n 1 60 w
        have HF : Hid (i = true -> R12 rows) := TY fun q => by
         rw[hi]at q;have h1:1<=n/\n<=60:=(by simpa[inB]using q);have:aY rows=n:=by unfold aY;rw[if_pos (aN.2 bC),hn]
         exact⟨bC,by omega,by omega,Hl.out⟩
        clear hn hi bC ho CO;go_wp2_with fail
        refine(CC _ _ (a7.rd aJ (by decide))).mono ?_;rintro e w8 ⟨rfl,bA⟩;have b6:=bN.bl bA;have bR:=a7.below bA;have D8:=D7.bl bA;have cI:=bO.bl bA;clear zy bN a7 D7 bO bA;have zy:=cI.c1;cases i
        . go_wp2_with (go_at_call 65;(with_reducible refine(CI _).mono ?_);rintro e w' ⟨rfl,rfl⟩)
          go_roundw
          case rel=>exact⟨k+1,by omega,by go_num,b6,D8⟩
          case measure=>simp[intOf];omega
        . have hX:=b6;go_wp2_with (first|(go_at_call 65;(with_reducible refine(CI _).mono ?_);rintro e w' ⟨rfl,rfl⟩)|(rw[<-cD.out];refine aA rfl 26 _ _ rfl gX #[.slice A rows.length c] rfl rfl _ _ hX (by kernel_rfl) rfl (by simp[Ua]) ?_;intro wE bE bF))
          have oE:=aD.yZ bR hX (by decide) bF;have qE:=bE.c1;refine bodyPost_ret (v:= .agg #[.slice A rows.length c]) (by simp[results,Ub,go_sem,qE]) rfl ⟨_,_,_,rfl,oE,(by first|exact HF.out rfl|exact HF.out trivial),D8.st bF cE hW hne⟩
    . go_wp2_with fail
      refine(aQ 256 W g v l _ h bU hg D2.B D2.cur (by decide)).mono ?_;rintro e w3 ⟨x0,rfl,hx0,c3,B3,g3⟩;have cL:=cH.ds D2.cur g3 (by decide);have cM:=b9.ds D2.cur g3 (by decide);have D3:=D2.dr c3 B3 g3;clear cH b9 D2 c3 B3 g3 bL;go_wp2_with fail
      refine(aQ 256 W g v l _ h bU hg D3.B D3.cur (by decide)).mono ?_;rintro e w4 ⟨x1,rfl,hx1,c4,B4,g4⟩;have cN:=cL.ds D3.cur g4 (by decide);have cP:=cM.ds D3.cur g4 (by decide);have D4:=D3.dr c4 B4 g4;clear cL cM D3 c4 B4 g4;go_wp2_with fail
      refine(aQ 256 W g v l _ h bU hg D4.B D4.cur (by decide)).mono ?_;rintro e w5 ⟨x2,rfl,hx2,c5,B5,g5⟩;have cQ:=cN.ds D4.cur g5 (by decide);have cR:=cP.ds D4.cur g5 (by decide);have D5:=D4.dr c5 B5 g5;clear cN cP D4 c5 B5 g5;go_wp2_with fail
      refine(aQ 256 W g v l _ h bU hg D5.B D5.cur (by decide)).mono ?_;rintro e w6 ⟨x3,rfl,hx3,c6,B6,g6⟩;have cS:=cQ.ds D5.cur g6 (by decide);have cT:=cR.ds D5.cur g6 (by decide);have D6:=D5.dr c6 B6 g6;clear cQ cR D5 c6 B6 g6;have y0:0<=x0/\x0<=255:=by unfold dQ at hx0;omega
      have y1:0<=x1/\x1<=255:=by unfold dQ at hx1;omega
      have y2:0<=x2/\x2<=255:=by unfold dQ at hx2;omega
      have y3:0<=x3/\x3<=255:=by unfold dQ at hx3;omega
      have v0:=EY y0;have v1:=EY y1;have v2:=EY y2;have v3:=EY y3;clear hx0 hx1 hx2 hx3;have m0:x0%256=x0:=(by omega);have m1:x1%256=x1:=(by omega);have m2:x2%256=x2:=(by omega);have b7:=Ma w6 x0 x1 x2 x3
      have cU : nR (fun x => 0 <= x /\ x <= 255) [x0, x1, x2, x3] := fun x hx => by
       simp at hx;omega
      go_wp2_with fail
      refine(FZ _ [x0,x1,x2,x3] _ (b7.rd (fun _=>rfl) (by decide)) cU (by simp)).mono ?_;rintro e w9 ⟨a6,A9,c9,rfl,bD,cY,cA⟩;have D9:=(D6.al (.cells #[.int .u8 x0,.int .u8 x1,.int .u8 x2,.int .u8 x3] 5)).bl cA;have cV:=(cS.alloc (.cells #[.int .u8 x0,.int .u8 x1,.int .u8 x2,.int .u8 x3] 5)).bl cA;have bW:=(cT.alloc (.cells #[.int .u8 x0,.int .u8 x1,.int .u8 x2,.int .u8 x3] 5)).bl cA;have bD:=bD.mono (B':=w.heap.size) (Nat.le_trans D6.gr.size (by simp));clear b7 cU cA cS cT D6 m0 m1 m2 v0 v1 v2 v3;have zy:=bW.c1;have zf:=bW.frozen 0;have b8:=D9.cur.ne bW (by decide);have cB:=dA (World.grownBy.refl w9 (some w1.heap.size)) 0 (.slice A9 a6.length c9);have D:=D9.st cB (by omega) hW b8.symm;have bY:=bW.st 0 (.slice A9 a6.length c9) _ rfl;have own:=aD.yZ bD bW (by decide) cB;have hX:=cV.grown cB (by simp;omega);go_upto_region 7 with(fail)
      obtain⟨wE,cW⟩:=TV (w9.setCell ⟨w1.heap.size,0,none⟩ (.slice A9 a6.length c9));rw[<-cW]at D own hX bY⊢;clear cW cB zy zf D9 bW bD cV b8;have zy:=bY.c1;obtain⟨o,ho⟩:=TV (bQ a6);have CO:∀(u:Value) (w:World),Rd 1 bG w u a6->Calls prog 124 #[.agg #[u]] w (Ret (.bool o) w):=fun u w k1=>by rw[ho];exact dZ u a6 w k1
      go_wp2_with fail
      refine(CO _ _ (own.rd aJ (by decide))).mono ?_;rintro e w7 ⟨rfl,bB⟩;have bN:=hX.bl bB;have a7:=own.below bB;have D7:=D.bl bB;have bO:=bY.bl bB;clear zy;have zy:=bO.c1;cases o
      . clear ho CO;go_wp2;go_roundw
        case rel=>exact⟨k+1,by omega,by go_num,bN,D7⟩
        case measure=>simp[intOf];omega
      . have bC:=aN.1 ho.symm;obtain⟨n,hn⟩:=TV (fF (setOf a6));have CC:∀(u:Value) (w:World),Rd 1 bG w u a6->Calls prog 125 #[.agg #[u]] w (Ret (.int .i64 n) w):=fun u w k1=>by rw[hn];exact vI u a6 w k1 (TY bC)
        obtain⟨i,hi⟩:=TV (inB n 1 60);have CI:∀(w:World),Calls prog 65 #[.int .i64 n,.int .i64 1,.int .i64 60] w (Pure (.bool i) w):=fun w=>by rw[hi];exact iY n 1 60 w
        have HF : Hid (i = true -> R12 a6) := TY fun q => by
         rw[hi]at q;have h1:1<=n/\n<=60:=(by simpa[inB]using q);have:aY a6=n:=by unfold aY;rw[if_pos (aN.2 bC),hn]
         exact⟨bC,by omega,by omega,cY⟩
        clear hn hi bC ho CO;go_wp2_with fail
        refine(CC _ _ (a7.rd aJ (by decide))).mono ?_;rintro e w8 ⟨rfl,bA⟩;have b6:=bN.bl bA;have bR:=a7.below bA;have D8:=D7.bl bA;have cI:=bO.bl bA;clear zy bN a7 D7 bO bA;have zy:=cI.c1;cases i
        . go_wp2_with (go_at_call 65;(with_reducible refine(CI _).mono ?_);rintro e w' ⟨rfl,rfl⟩)
          go_roundw
          case rel=>exact⟨k+1,by omega,by go_num,b6,D8⟩
          case measure=>simp[intOf];omega
        . have hX:=b6;go_wp2_with (first|(go_at_call 65;(with_reducible refine(CI _).mono ?_);rintro e w' ⟨rfl,rfl⟩)|(rw[<-cD.out];refine aA rfl 26 _ _ rfl gX #[.slice A9 a6.length c9] rfl rfl _ _ hX (by kernel_rfl) rfl (by simp[Ua]) ?_;intro wE bE bF))
          have oE:=aD.yZ bR hX (by decide) bF;have qE:=bE.c1;refine bodyPost_ret (v:= .agg #[.slice A9 a6.length c9]) (by simp[results,Ub,go_sem,qE]) rfl ⟨_,_,_,rfl,oE,(by first|exact HF.out rfl|exact HF.out trivial),D8.st bF cE hW hne⟩
  . obtain rfl : k = 6 := by omega
    go_wp2_with fail
    refine(xJ 4 3 _ ⟨by decide,by decide⟩ ⟨by decide,by decide⟩).mono ?_;rintro e w1 ⟨A,c,rfl,own,hb1⟩;have dL:(aP 4 3).length=3:=(by decide);have hX:=cF.bl hb1;have D1:=D0.bl hb1;have a8:=own.mono (B':=w.heap.size) D0.gr.size;have HR:=TY Qq;obtain⟨rows,bJ⟩:=TV (aP 4 3);rw[<-bJ]at a8 HR⊢;clear bJ dL own hb1;rw[<-cD.out];have zR:=hX.c1;go_wp2_with (refine aA rfl 26 _ _ rfl gX #[.slice A rows.length c] rfl rfl _ _ hX (by kernel_rfl) rfl (by simp[Ua]) ?_;intro wE bE bF)
    have oE:=aD.yZ a8 hX (by decide) bF;have qE:=bE.c1;refine bodyPost_ret (v:= .agg #[.slice A rows.length c]) (by simp[results,Ub,go_sem,qE]) rfl ⟨_,_,_,rfl,oE,HR.out,D1.st bF cE hW hne⟩
def eO (rows:List Int):Fl:=if aY rows=0 then([],[],[],[])else(rows,dV rows,dV rows,[])
theorem mY {rows:List Int} (h:Small rows.length):bZ (eO rows):=by
 have:=mI rows;unfold eO;split
 . exact⟨by unfold Small;simp,by unfold Small;simp,by unfold Small;simp,by unfold Small;simp⟩
 . exact⟨h,by unfold Small;simp only;omega,by unfold Small;simp only;omega,by unfold Small;simp⟩
theorem aO {P:Program} {ops:Array Oper} {rest:List Oper} {o:Oper} {a:Act} {w:World} {Q:Exit->Act->World->Prop} (hgd:o.guard=none) (ty:TypeId) (x y:Operand) (ho:o.op= .store ty x y)
    (g:Nat) (cells:Array Value) (hx:a.eval x= .pointer (some ⟨g,0,none⟩)) (hy:a.eval y= .agg cells)
    (t:TypeId) (old:Array Value) (hg:Blk w g t old) (hi:(P.info? ty).map (·.size)=some cells.size) (hold:old.size=cells.size) (h1:cells.all (·.oneCell')=true)
    (h:∀w',Blk w' g t cells->w.grownBy w' (some g)->wpList P ops Q rest (a.put o.dst undef) w'):wpList P ops Q (o::rest) a w:=
 wpList_store_row hgd ty x y ho g cells hx hy t old hg hi hold h1 (h _ (setRow_heap w g old cells t (0,0) hg) (Je cells))
theorem qB (B:Nat) (w:World):aB B w (.slice none 0 0) (.slice none 0 0) (.slice none 0 0) (.slice none 0 0) ([],[],[],[]):=
 ⟨aD.DF,aD.DF,aD.DF,aD.DF,fun g q=>by simp[Value.ownBlock]at q⟩
theorem Qr (v:Value) (rows:List Int) (w:World) (h:Rd 1 bG w v rows) (hl:Small rows.length):Calls prog 58 #[.agg #[v]] w (nD (eO rows) (jW rows) w):=by
 obtain⟨A,c,rfl,hc,hm⟩:=h.form;have B0:=((Below.refl w.heap.size w).al (.cells #[.slice A rows.length c] 26)).al (.cells #[.slice none 0 0,.slice none 0 0,.slice none 0 0,.slice none 0 0] 30);have bX:=(Blk.aZ w 26 #[.slice A rows.length c]).alloc (.cells #[.slice none 0 0,.slice none 0 0,.slice none 0 0,.slice none 0 0] 30);have bR:=Blk.gZ (w.alloc (.cells #[.slice A rows.length c] 26)) 30 #[.slice none 0 0,.slice none 0 0,.slice none 0 0,.slice none 0 0] (w.heap.size+1) (by simp);obtain⟨F,hF⟩:=TV (dV rows);obtain⟨b,hb⟩:=TV (jW rows);have b7:F.length<=64:=by rw[hF];exact mI rows
 have bY:Small F.length:=by unfold Small;omega
 have CF:∀(u:Value) (w:World),Rd 1 bG w u rows->Calls prog 102 #[.agg #[u]] w (OJ F b w):=fun u w k1=>by rw[hF,hb];exact JP u rows w k1
 have bB : b = false -> eO rows = ([], [], [], []) := fun q => by
  rw[hb]at q;unfold jW at q;unfold eO;rw[if_pos (by simpa using q)]
 have bC : b = true -> eO rows = (rows, F, F, []) := fun q => by
  rw[hb]at q;unfold jW at q;unfold eO;rw[if_neg (by simpa using q),<-hF]
 obtain⟨y,hy⟩:=TV (eO rows);rw[<-hy]at bB bC⊢;rw[<-hb];have b5:=TY bB;have b6:=TY bC;clear hF hb bB bC hy;go_enter Tryz.func58,Tryz.ntmps58
 go_wp2_with fail
 refine(CF _ _ (h.TW B0)).mono ?_;rintro e w1 ⟨F1,f1,rfl,oF,hb1⟩;have B1:=B0.tr hb1;have bD:=bX.bl hb1;have a7:=bR.bl hb1;have oF:=oF.mono B0.size;obtain⟨gX,bN⟩:=TV w.heap.size;obtain⟨gR,a6⟩:=TV (w.heap.size+1);have bO:w.heap.size<=gR:=(by omega);rw[<-a6]at a7⊢;rw[<-bN]at bD⊢;clear bN a6 hb1 B0 bX bR;cases b
 . obtain rfl:([],[],[],[])=y:=(b5.out rfl).symm;go_wp2_with (refine aO rfl 30 _ _ rfl gR #[.slice none 0 0,.slice none 0 0,.slice none 0 0,.slice none 0 0] rfl rfl _ _ a7 (by kernel_rfl) rfl (by simp[Ua]) ?_;intro wE bE a8)
   have BE:=B1.grown a8 B1.size (fun k hk=>by injection hk with hk;subst hk;exact bO);obtain⟨bF,bJ,bK,bL⟩:=bE.n4;refine bodyPost_ret (v:= .tuple #[.agg #[.slice none 0 0,.slice none 0 0,.slice none 0 0,.slice none 0 0],.bool false]) (by simp[results,Tryz.results58,go_sem,bF,bJ,bK,bL]) rfl ⟨none,0,none,0,none,0,none,0,rfl,qB _ _,BE⟩
 . obtain rfl:(rows,F,F,[])=y:=(b6.out rfl).symm;have z0:=bD.c1;go_wp2_with fail
   refine(yL _ rows _ (h.TW B1) hl).mono ?_;rintro e w2 ⟨D1,d1,rfl,o1,hb2⟩;have o1:=o1.mono B1.size;have bA:=oF.below hb2;have B2:=B1.tr hb2;have bU:=a7.bl hb2;go_wp2_with fail
   refine(dG _ F _ (bA.rd aC (by decide)) bY).mono ?_;rintro e w3 ⟨D3,d3,rfl,o3,hb3⟩;have ap:∀g,(Value.slice F1 F.length f1).ownBlock=some g->(Value.slice D3 F.length d3).ownBlock≠some g:=fun g hg=>bA.early o3 (TZ _) hg
   have o3:=o3.mono B2.size;have B3:=(B2.tr hb3).al (.cells #[] 83);have bW:=(bU.bl hb3).alloc (.cells #[] 83);have o4:aD 83 2 dH w.heap.size (w3.alloc (.cells #[] 83)) (.slice (some ⟨w3.heap.size,0,none⟩) 0 0) ([]:List Cl):=(eZ w3).mono (B2.tr hb3).size
   have oA:aB w.heap.size (w3.alloc (.cells #[] 83)) (.slice D1 rows.length d1) (.slice F1 F.length f1) (.slice D3 F.length d3) (.slice (some ⟨w3.heap.size,0,none⟩) 0 0) (rows,F,F,[]):=
    ⟨(o1.below hb3).alloc _,(bA.below hb3).alloc _,o3.alloc _,o4,ap⟩
   clear z0 hb2 hb3 o1 oF bA o3 o4 B1 B2 bD a7 bU;go_wp2_with (refine aO rfl 30 _ _ rfl gR #[.slice D1 rows.length d1,.slice F1 F.length f1,.slice D3 F.length d3,.slice (some ⟨w3.heap.size,0,none⟩) 0 0] rfl rfl _ _ bW (by kernel_rfl) rfl (by simp[Ua]) ?_;intro wE bE a8)
   have oE:=aB.dD oA bW (by decide) (by decide) (by decide) a8;have BE:=B3.grown a8 B3.size (fun k hk=>by injection hk with hk;subst hk;exact bO);obtain⟨bF,bJ,bK,bL⟩:=bE.n4;refine bodyPost_ret (v:= .tuple #[.agg #[.slice D1 rows.length d1,.slice F1 F.length f1,.slice D3 F.length d3,.slice (some ⟨w3.heap.size,0,none⟩) 0 0],.bool true]) (by simp[results,Tryz.results58,go_sem,bF,bJ,bK,bL]) rfl ⟨D1,d1,F1,f1,D3,d3,some ⟨w3.heap.size,0,none⟩,0,rfl,oE,BE⟩
theorem Sn {x:Fl} (c:Cl) (h:mG x=true):mG (Dr x c).1=true:=by
 unfold Dr;split
 . rename_i q;obtain⟨h1,h2,h3⟩:=pU.1 h;refine pU.2 ⟨h1,?_,(by show iJ x.2.1 (x.2.2.2++[c])=some (aW x.2.2.1 c);rw[Ce,h3,Option.bind_some,if_neg q.2.2])⟩;show(x.2.2.2++[c]).length<=60;rw[List.length_append,List.length_singleton];have:=q.2.1;omega
 . exact h
theorem rF {y:Wk}:bV y=true↔mG y.1=true/\(inB y.2.1 0 10000&&inB y.2.2.1 0 10000&&inB y.2.2.2 0 10000)=true:=by
 unfold bV mG;rw[T9]
theorem Bi {y:Wk} (c:Cl) (h:bV y=true):bV (kN y c,y.2)=true:=by
 obtain⟨h1,h2⟩:=rF.1 h;refine rF.2 ⟨?_,h2⟩;show mG (kN y c)=true;unfold kN;split
 . exact Sn c h1
 . exact h1
theorem Jt {y:Wk} (l:List (Int×Int)) (n:Int) (h:bV y=true):bV (y.1,Ae y l n,Ag y l n,y.2.2.2)=true:=by
 unfold Ae Ag;by_cases q:sV y l n=true
 . rw[if_pos q,if_pos q];unfold sV at q;rw[T9]at q;exact q.2
 . rw[if_neg q,if_neg q];exact h
theorem Dl {y:Wk} (i:Int) (h:bV y=true):bV (mD y i)=true:=by
 unfold mD;split
 . rename_i q;unfold ES at q;rw[T9]at q;exact q.2
 . exact h
theorem Mc {rows:List Int} (hr:dY rows) (h:AP rows):(eF rows).length<=58:=by
 unfold eF;rw[if_pos (aN.2 hr),yT]
 have hb : ∀ j, 58 <= j -> (setOf rows).testBit j = false := fun j hj => by
  rw[xG hr];by_cases hk:j/8<rows.length
  . have h7 : j / 8 = 7 := by have := hr.1; omega
    have hv:=h.2 _ hk (by omega);have hp:=hr.2 _ (List.getElem_mem hk);rw[List.getD_eq_getElem?_getD,List.getElem?_eq_getElem hk];obtain⟨n,hn⟩:∃n:Nat,n=(rows[j/8]).toNat:=⟨_,rfl⟩;show(rows[j/8]).toNat.testBit (j%8)=false;rw[<-hn];have a6:n<2^2:=(by omega);refine Nat.testBit_lt_two_pow (Nat.lt_of_lt_of_le a6 (Nat.pow_le_pow_right (by omega) (by omega)))
  . rw [List.getD_eq_getElem?_getD, List.getElem?_eq_none (by omega)];simp
 have hle : ∀ f : Nat -> Bool, ∀ k, cntF f k <= k := fun f k => by
  induction k with
  |zero=>exact TZ _
  |succ k ih=>rw[iQ];have:=Bool.toNat_le (f k);omega
 show cntF _ (58+1+1+1+1+1+1)<=58;simp only[iQ _ (58+1+1+1+1+1),iQ _ (58+1+1+1+1),iQ _ (58+1+1+1),iQ _ (58+1+1),iQ _ (58+1),iQ _ 58,hb 58 (by omega),hb (58+1) (by omega),hb (58+1+1) (by omega),hb (58+1+1+1) (by omega),hb (58+1+1+1+1) (by omega),hb (58+1+1+1+1+1) (by omega),Bool.toNat_false,Nat.add_zero];exact hle _ _
theorem TB {rows:List Int} (h:dY rows):aY rows=fF (setOf rows):=by unfold aY;rw[if_pos (aN.2 h)]
theorem yF {rows:List Int} (h:R12 rows):jW rows=true/\eO rows=(rows,dV rows,dV rows,[])/\eX rows (dV rows)=true/\(dV rows).length<=29:=by
 obtain⟨h1,h2,h3,h4⟩:=h;have hne:aY rows≠0:=by omega
 have ht:eX rows (dV rows)=true:=by
  unfold dV;rw[if_neg hne];exact JH h1 (LA (dW h1) (by rw[<-TB h1];exact hne))
 refine⟨by unfold jW;exact decide_eq_true hne,by unfold eO;rw[if_neg hne],ht,?_⟩;have hc:=Mc h1 h4;unfold eX at ht;rw[T9,decide_eq_true_iff]at ht;omega
theorem QW {rows:List Int} (h:R12 rows):mG (eO rows)=true:=by
 obtain⟨h1,h2,h3,h4⟩:=yF h;rw[h2];exact pU.2 ⟨h3,by simp,by simp[iJ]⟩
theorem Nv {rows:List Int} {stock:Int} (h:R12 rows) (hs:30<=stock/\stock<=49):bV (eO rows,stock-((eO rows).2.2.1.length:Int),0,0)=true:=by
 have hf:=QW h;obtain⟨h1,h2,h3,h4⟩:=yF h;refine rF.2 ⟨hf,?_⟩;rw[h2];unfold inB;simp;omega
end Go.Proofs.YtjijonhkofhikaaGreatDoor
