/- A region with 1 to 60 tilings, drawn. No conditions but sizes. A new floor, by the program: the walk. Conditions: sizes. A workshop stays valid: by acts, by purchases, by breaks, by turns. Plain laws; no program in sight. Valid floors are tiled; what acts do to the stock and the money. Plain laws; no program in sight. -/
import Derived.Test.YtljfoohaapckeaaGreatDoorADrawH
import Derived.Test.YtljfoohaapckeaaGreatDoorAListS
import Derived.Test.YtljfoohaapckeaaGreatDoorAG27
import Derived.Test.YtljfoohaapckeaaGreatDoorAG5
import Derived.Test.YtljfoohaapckeaaGreatDoorAG13
import Derived.Test.YtljfoohaapckeaaGreatDoorAG39
import Derived.Test.YtljfoohaapckeaaGreatDoorAG20
open _root_.Bool (and_eq_true)
open _root_.Go.Proofs.Tryz (prog results129)
namespace Go.Proofs.YtljfoohaapckeaaGreatDoor
open Go.ChangeShapes Go.WideShapes Go.ChangeAt Go.RowKit
set_option linter.unusedVariables false
set_option linter.unusedSimpArgs false
set_option maxHeartbeats 4000000
set_option maxRecDepth 100000
def R12 (rows:List Int):Prop:=dM rows/\1<=bG rows/\bG rows<=60/\xV rows
def NT (W:World) (g:Nat) (u:Value) (n:Nat) (w:World) (e:Ending) (w':World):Prop:=∃(rows:List Int) (A:Option Addr) (c:Nat),e= .returned (.agg #[.slice A rows.length c])/\aD 3 1 bQ w.heap.size w' (.slice A rows.length c) rows/\R12 rows/\DS W w w' g u n
theorem Mq:R12 (aV 4 3):=by
 have hr:dM (aV 4 3):=by
  refine⟨by simp[aV],fun r hr=> ?_⟩;unfold aV at hr;rw[(List.mem_replicate.1 hr).2];omega
 have h:1<=(iJ (setOf (aV 4 3))).length/\(iJ (setOf (aV 4 3))).length<=60:=by decide+kernel
 have e:bG (aV 4 3)=((iJ (setOf (aV 4 3))).length:Nat):=by
  unfold bG;rw[if_pos (aN.2 hr),qR (dY hr)]
 exact⟨hr,by omega,by omega,qV (by decide)⟩
theorem Ch {x:Int} (h:0<=x/\x<=255):IntKind.u8.wrap x=x:=by
 unfold IntKind.wrap;simp[IntKind.bits,IntKind.signed];omega
theorem I9 (w:World) (a b c d:Int):aD 5 1 K8 w.heap.size (w.alloc (.cells #[.int .u8 a,.int .u8 b,.int .u8 c,.int .u8 d] 5)) (.slice (some ⟨w.heap.size,0,none⟩) 4 4) [a,b,c,d]:=
 ⟨by simp[K8],.inr ⟨w.heap.size,4,#[.int .u8 a,.int .u8 b,.int .u8 c,.int .u8 d],rfl,Nat.le_refl _,heap_alloc_new w _,by simp,by simp[maxLen],by simp,by simp[K8]⟩⟩
theorem ES (W : World) (g : Nat) (v : Value) (l : List Int) (w : World) (h : Rd 1 mI W v l) (Hok : Hid (nH (fun x => 0 <= x /\ x <= 255) l)) (hg : W.heap.size <= g) (hbel : Below W.heap.size W w) (hcur : Cur w g v l.length) :
 Calls prog 129 #[.pointer (some ⟨g,0,none⟩)] w (NT W g v l.length w):=by
 have hW:=hbel.size;have hX:=Blk.aW w 26 #[.slice none 0 0];have D:=(DS.refl hcur hbel).al (.cells #[.slice none 0 0] 26);go_enter Tryz.func129,Tryz.ntmps129
 obtain⟨gX,hgX'⟩:=Pj w.heap.size;have HgX:=Pm hgX';rw[<-hgX']at hX;have hgX:w.heap.size<=gX:=(by omega);have hne:=(D.cur.ne hX (by decide)).symm;go_wp2_with fail
 clear hgX';go_loopw [3] (fun s3 wr=>∃k:Nat,k<=6/\s3= .int .i64 k/\Blk wr gX 26 #[.slice none 0 0]/\DS W w wr g v l.length) (fun i _=>6-(intOf i).toNat)
 case atStart=>exact⟨0,by omega,rfl,hX,D⟩
 case round=>
  obtain⟨k,hk,rfl,hX0,D0⟩:=hrel;clear hX D;by_cases hlt:k<6
  . have hkI : decide ((k : Int) < 6) = true := decide_eq_true (by omega);go_wp2_with fail
    refine(sK W g v l _ h Hok hg D0.B D0.cur).mono ?_;rintro e w1 ⟨rows,A,c,rfl,own,h1,h5,hr,cur1,B1,k1⟩;have g1:=Ke D0.B B1 k1;have hXb:=hX0.ds D0.cur g1 (by decide);have hlt1:=hXb.lt;have hX1:=hXb.alloc (.cells #[.slice A rows.length c] 26);have D1:=(D0.dr cur1 B1 g1).al (.cells #[.slice A rows.length c] 26);have own1:=(own.mono (B':=w.heap.size) D0.gr.size).alloc (.cells #[.slice A rows.length c] 26);have bY1:=Blk.aW w1 26 #[.slice A rows.length c];clear own cur1 B1 k1 g1 hX0 D0 hXb;go_wp2_with fail
    refine(xI 4 W g v l _ h Hok hg D1.B D1.cur (by decide)).mono ?_;rintro e w2 ⟨yes,rfl,c2,B2,g2⟩;have hX2:=hX1.ds D1.cur g2 (by decide);have own2:=own1.cur D1.cur (by decide) g2;have bY2:=bY1.ds D1.cur g2 (by decide);have D2:=D1.dr c2 B2 g2;clear hX1 own1 bY1 D1 c2 B2 g2;have Hl:=Pm (qV h5);rcases yes with _|_
    . skip;have zy:=bY2.c1;obtain⟨o,ho⟩:=Pj (bV rows);have CO:∀(u:Value) (w:World),Rd 1 aX w u rows->Calls prog 163 #[.agg #[u]] w (Ret (.bool o) w):=fun u w k1=>by rw[ho];exact dQ u rows w k1
      go_wp2_with fail
      refine(CO _ _ (own2.rd aJ (by decide))).mono ?_;rintro e w7 ⟨rfl,hb7⟩;have hX7:=hX2.bl hb7;have own7:=own2.below hb7;have D7:=D2.bl hb7;have bY7:=bY2.bl hb7;clear zy;have zy:=bY7.c1;cases o
      . clear ho CO;go_wp2;go_roundw
        case rel=>exact⟨k+1,by omega,by go_num,hX7,D7⟩
        case measure=>simp[intOf];omega
      . have hok:=aN.1 ho.symm;obtain⟨n,hn⟩:=Pj (iG (setOf rows));have CC:∀(u:Value) (w:World),Rd 1 aX w u rows->Calls prog 182 #[.agg #[u]] w (Ret (.int .i64 n) w):=fun u w k1=>by rw[hn];exact sI u rows w k1 (Pm hok)
        obtain⟨i,hi⟩:=Pj (inB n 1 60);have CI:∀(w:World),Calls prog 73 #[.int .i64 n,.int .i64 1,.int .i64 60] w (Pure (.bool i) w):=fun w=>by rw[hi];exact iF n 1 60 w
        have HF : Hid (i = true -> R12 rows) := Pm fun q => by
         rw[hi]at q;have h1:1<=n/\n<=60:=(by simpa[inB]using q);have:bG rows=n:=by unfold bG;rw[if_pos (aN.2 hok),hn]
         exact⟨hok,by omega,by omega,Hl.out⟩
        clear hn hi hok ho CO;go_wp2_with fail
        refine(CC _ _ (own7.rd aJ (by decide))).mono ?_;rintro e w8 ⟨rfl,hb8⟩;have hX8:=hX7.bl hb8;have own8:=own7.below hb8;have D8:=D7.bl hb8;have bY8:=bY7.bl hb8;clear zy hX7 own7 D7 bY7 hb8;have zy:=bY8.c1;cases i
        . go_wp2_with (go_at_call 73;(with_reducible refine(CI _).mono ?_);rintro e w' ⟨rfl,rfl⟩)
          go_roundw
          case rel=>exact⟨k+1,by omega,by go_num,hX8,D8⟩
          case measure=>simp[intOf];omega
        . have hX:=hX8;go_wp2_with (first|(go_at_call 73;(with_reducible refine(CI _).mono ?_);rintro e w' ⟨rfl,rfl⟩)|(rw[<-HgX.out];refine aA rfl 26 _ _ rfl gX #[.slice A rows.length c] rfl rfl _ _ hX (by kernel_rfl) rfl (by simp[Value.oneCell']) ?_;intro wE bE hgE))
          have oE:=aD.vZ own8 hX (by decide) hgE;have qE:=bE.c1;refine bodyPost_ret (v:= .agg #[.slice A rows.length c]) (by simp[results,results129,go_sem,qE]) rfl ⟨_,_,_,rfl,oE,(by first|exact HF.out rfl|exact HF.out trivial),D8.st hgE hgX hW hne⟩
    . go_wp2_with fail
      refine(aO 256 W g v l _ h Hok hg D2.B D2.cur (by decide)).mono ?_;rintro e w3 ⟨x0,rfl,hx0,c3,B3,g3⟩;have hX3:=hX2.ds D2.cur g3 (by decide);have bY3:=bY2.ds D2.cur g3 (by decide);have D3:=D2.dr c3 B3 g3;clear hX2 bY2 D2 c3 B3 g3 own2;go_wp2_with fail
      refine(aO 256 W g v l _ h Hok hg D3.B D3.cur (by decide)).mono ?_;rintro e w4 ⟨x1,rfl,hx1,c4,B4,g4⟩;have hX4:=hX3.ds D3.cur g4 (by decide);have bY4:=bY3.ds D3.cur g4 (by decide);have D4:=D3.dr c4 B4 g4;clear hX3 bY3 D3 c4 B4 g4;go_wp2_with fail
      refine(aO 256 W g v l _ h Hok hg D4.B D4.cur (by decide)).mono ?_;rintro e w5 ⟨x2,rfl,hx2,c5,B5,g5⟩;have hX5:=hX4.ds D4.cur g5 (by decide);have bY5:=bY4.ds D4.cur g5 (by decide);have D5:=D4.dr c5 B5 g5;clear hX4 bY4 D4 c5 B5 g5;go_wp2_with fail
      refine(aO 256 W g v l _ h Hok hg D5.B D5.cur (by decide)).mono ?_;rintro e w6 ⟨x3,rfl,hx3,c6,B6,g6⟩;have hX6:=hX5.ds D5.cur g6 (by decide);have bY6:=bY5.ds D5.cur g6 (by decide);have D6:=D5.dr c6 B6 g6;clear hX5 bY5 D5 c6 B6 g6;have y0:0<=x0/\x0<=255:=by unfold dV at hx0;omega
      have y1:0<=x1/\x1<=255:=by unfold dV at hx1;omega
      have y2:0<=x2/\x2<=255:=by unfold dV at hx2;omega
      have y3:0<=x3/\x3<=255:=by unfold dV at hx3;omega
      have v0:=Ch y0;have v1:=Ch y1;have v2:=Ch y2;have v3:=Ch y3;clear hx0 hx1 hx2 hx3;have m0:x0%256=x0:=(by omega);have m1:x1%256=x1:=(by omega);have m2:x2%256=x2:=(by omega);have own6:=I9 w6 x0 x1 x2 x3
      have ok6 : nH (fun x => 0 <= x /\ x <= 255) [x0, x1, x2, x3] := fun x hx => by
       simp at hx;omega
      go_wp2_with fail
      refine(Dp _ [x0,x1,x2,x3] _ (own6.rd (fun _=>rfl) (by decide)) ok6 (by simp)).mono ?_;rintro e w9 ⟨rows9,A9,c9,rfl,own9,Hl9,hb9⟩;have D9:=(D6.al (.cells #[.int .u8 x0,.int .u8 x1,.int .u8 x2,.int .u8 x3] 5)).bl hb9;have hX9:=(hX6.alloc (.cells #[.int .u8 x0,.int .u8 x1,.int .u8 x2,.int .u8 x3] 5)).bl hb9;have bY9:=(bY6.alloc (.cells #[.int .u8 x0,.int .u8 x1,.int .u8 x2,.int .u8 x3] 5)).bl hb9;have own9:=own9.mono (B':=w.heap.size) (Nat.le_trans D6.gr.size (by simp));clear own6 ok6 hb9 hX6 bY6 D6 m0 m1 m2 v0 v1 v2 v3;have zy:=bY9.c1;have zf:=bY9.frozen 0;have hneY:=D9.cur.ne bY9 (by decide);have gRR:=cO (World.grownBy.refl w9 (some w1.heap.size)) 0 (.slice A9 rows9.length c9);have D:=D9.st gRR (by omega) hW hneY.symm;have bY:=bY9.st 0 (.slice A9 rows9.length c9) _ rfl;have own:=aD.vZ own9 bY9 (by decide) gRR;have hX:=hX9.grown gRR (by simp;omega);go_upto_region 7 with(fail)
      obtain⟨wE,hwE⟩:=Pj (w9.setCell ⟨w1.heap.size,0,none⟩ (.slice A9 rows9.length c9));rw[<-hwE]at D own hX bY⊢;clear hwE gRR zy zf D9 bY9 own9 hX9 hneY;have zy:=bY.c1;obtain⟨o,ho⟩:=Pj (bV rows9);have CO:∀(u:Value) (w:World),Rd 1 aX w u rows9->Calls prog 163 #[.agg #[u]] w (Ret (.bool o) w):=fun u w k1=>by rw[ho];exact dQ u rows9 w k1
      go_wp2_with fail
      refine(CO _ _ (own.rd aJ (by decide))).mono ?_;rintro e w7 ⟨rfl,hb7⟩;have hX7:=hX.bl hb7;have own7:=own.below hb7;have D7:=D.bl hb7;have bY7:=bY.bl hb7;clear zy;have zy:=bY7.c1;cases o
      . clear ho CO;go_wp2;go_roundw
        case rel=>exact⟨k+1,by omega,by go_num,hX7,D7⟩
        case measure=>simp[intOf];omega
      . have hok:=aN.1 ho.symm;obtain⟨n,hn⟩:=Pj (iG (setOf rows9));have CC:∀(u:Value) (w:World),Rd 1 aX w u rows9->Calls prog 182 #[.agg #[u]] w (Ret (.int .i64 n) w):=fun u w k1=>by rw[hn];exact sI u rows9 w k1 (Pm hok)
        obtain⟨i,hi⟩:=Pj (inB n 1 60);have CI:∀(w:World),Calls prog 73 #[.int .i64 n,.int .i64 1,.int .i64 60] w (Pure (.bool i) w):=fun w=>by rw[hi];exact iF n 1 60 w
        have HF : Hid (i = true -> R12 rows9) := Pm fun q => by
         rw[hi]at q;have h1:1<=n/\n<=60:=(by simpa[inB]using q);have:bG rows9=n:=by unfold bG;rw[if_pos (aN.2 hok),hn]
         exact⟨hok,by omega,by omega,Hl9⟩
        clear hn hi hok ho CO;go_wp2_with fail
        refine(CC _ _ (own7.rd aJ (by decide))).mono ?_;rintro e w8 ⟨rfl,hb8⟩;have hX8:=hX7.bl hb8;have own8:=own7.below hb8;have D8:=D7.bl hb8;have bY8:=bY7.bl hb8;clear zy hX7 own7 D7 bY7 hb8;have zy:=bY8.c1;cases i
        . go_wp2_with (go_at_call 73;(with_reducible refine(CI _).mono ?_);rintro e w' ⟨rfl,rfl⟩)
          go_roundw
          case rel=>exact⟨k+1,by omega,by go_num,hX8,D8⟩
          case measure=>simp[intOf];omega
        . have hX:=hX8;go_wp2_with (first|(go_at_call 73;(with_reducible refine(CI _).mono ?_);rintro e w' ⟨rfl,rfl⟩)|(rw[<-HgX.out];refine aA rfl 26 _ _ rfl gX #[.slice A9 rows9.length c9] rfl rfl _ _ hX (by kernel_rfl) rfl (by simp[Value.oneCell']) ?_;intro wE bE hgE))
          have oE:=aD.vZ own8 hX (by decide) hgE;have qE:=bE.c1;refine bodyPost_ret (v:= .agg #[.slice A9 rows9.length c9]) (by simp[results,results129,go_sem,qE]) rfl ⟨_,_,_,rfl,oE,(by first|exact HF.out rfl|exact HF.out trivial),D8.st hgE hgX hW hne⟩
  . obtain rfl : k = 6 := by omega
    go_wp2_with fail
    refine(uT 4 3 _ ⟨by decide,by decide⟩ ⟨by decide,by decide⟩).mono ?_;rintro e w1 ⟨A,c,rfl,own,hb1⟩;have hrl:(aV 4 3).length=3:=(by decide);have hX:=hX0.bl hb1;have D1:=D0.bl hb1;have own1:=own.mono (B':=w.heap.size) D0.gr.size;have HR:=Pm Mq;obtain⟨rows,hrows⟩:=Pj (aV 4 3);rw[<-hrows]at own1 HR⊢;clear hrows hrl own hb1;rw[<-HgX.out];have zR:=hX.c1;go_wp2_with (refine aA rfl 26 _ _ rfl gX #[.slice A rows.length c] rfl rfl _ _ hX (by kernel_rfl) rfl (by simp[Value.oneCell']) ?_;intro wE bE hgE)
    have oE:=aD.vZ own1 hX (by decide) hgE;have qE:=bE.c1;refine bodyPost_ret (v:= .agg #[.slice A rows.length c]) (by simp[results,results129,go_sem,qE]) rfl ⟨_,_,_,rfl,oE,HR.out,D1.st hgE hgX hW hne⟩
def iR (rows:List Int):Fl:=if bG rows=0 then([],[],[],[])else(rows,fK rows,fK rows,[])
theorem qW {rows:List Int} (h:Small rows.length):cZ (iR rows):=by
 have:=qG rows;unfold iR;split
 . exact⟨by unfold Small;simp,by unfold Small;simp,by unfold Small;simp,by unfold Small;simp⟩
 . exact⟨h,by unfold Small;simp only;omega,by unfold Small;simp only;omega,by unfold Small;simp⟩
theorem dC {P:Program} {ops:Array Oper} {rest:List Oper} {o:Oper} {a:Act} {w:World} {Q:Exit->Act->World->Prop} (hgd:o.guard=none) (ty:TypeId) (x y:Operand) (ho:o.op= .store ty x y)
    (g:Nat) (cells:Array Value) (hx:a.eval x= .pointer (some ⟨g,0,none⟩)) (hy:a.eval y= .agg cells)
    (t:TypeId) (old:Array Value) (hg:Blk w g t old) (hi:(P.info? ty).map (·.size)=some cells.size) (hold:old.size=cells.size) (h1:cells.all (·.oneCell')=true)
    (h:∀w',Blk w' g t cells->w.grownBy w' (some g)->wpList P ops Q rest (a.put o.dst undef) w'):wpList P ops Q (o::rest) a w:=
 wpList_store_row hgd ty x y ho g cells hx hy t old hg hi hold h1 (h _ (setRow_heap w g old cells t (0,0) hg) (Jk cells))
theorem xW (B:Nat) (w:World):aB B w (.slice none 0 0) (.slice none 0 0) (.slice none 0 0) (.slice none 0 0) ([],[],[],[]):=
 ⟨aD.CV,aD.CV,aD.CV,aD.CV,fun g q=>by simp[Value.ownBlock]at q⟩
theorem NU {x:Fl} (c:Cl) (h:jG x=true):jG (yA x c).1=true:=by
 unfold yA;split
 . rename_i q;obtain⟨h1,h2,h3⟩:=lC.1 h;refine lC.2 ⟨h1,?_,(by show eH x.2.1 (x.2.2.2++[c])=some (aS x.2.2.1 c);rw[tZ,h3,Option.bind_some,if_neg q.2.2])⟩;show(x.2.2.2++[c]).length<=60;rw[List.length_append,List.length_singleton];have:=q.2.1;omega
 . exact h
theorem jU {y:Wk}:bT y=true↔jG y.1=true/\(inB y.2.1 0 10000&&inB y.2.2.1 0 10000&&inB y.2.2.2 0 10000)=true:=by
 unfold bT jG;rw[and_eq_true]
theorem vM {y:Wk} (c:Cl) (h:bT y=true):bT (iV y c,y.2)=true:=by
 obtain⟨h1,h2⟩:=jU.1 h;refine jU.2 ⟨?_,h2⟩;show jG (iV y c)=true;unfold iV;split
 . exact NU c h1
 . exact h1
theorem NV {y:Wk} (h:bT y=true):bT ((fF y.1).1,y.2)=true:=by
 obtain⟨h1,h2⟩:=jU.1 h;refine jU.2 ⟨?_,h2⟩;show jG (fF y.1).1=true;unfold fF;split
 . exact JF h1 _
 . exact h1
theorem Dq {y:Wk} (l:List (Int×Int)) (n:Int) (h:bT y=true):bT (y.1,vK y l n,vL y l n,y.2.2.2)=true:=by
 unfold vK vL;by_cases q:nT y l n=true
 . rw[if_pos q,if_pos q];unfold nT at q;rw[and_eq_true]at q;exact q.2
 . rw[if_neg q,if_neg q];exact h
theorem xE {y:Wk} (i:Int) (h:bT y=true):bT (kH y i)=true:=by
 unfold kH;split
 . rename_i q;unfold sV at q;rw[and_eq_true]at q;exact q.2
 . exact h
theorem OU {y:Wk} (a:Ac) (h:bT y=true):bT (sZ y a)=true:=by
 rcases q:(bT y&&mD a.1 a.2.1 a.2.2)with _|_
 . rw[(FL q).1];exact h
 . rw[h,Bool.true_and]at q;rcases yG (k:=a.1) (a:=a.2.1) (b:=a.2.2) h q with⟨_,e,_⟩|⟨_,e,_⟩|⟨_,e,_⟩|⟨_,e,_⟩|⟨_,e,_⟩
   . rw[show a=(a.1,a.2.1,a.2.2) from rfl,e];exact vM _ h
   . rw[show a=(a.1,a.2.1,a.2.2) from rfl,e];exact xE _ h
   . rw[show a=(a.1,a.2.1,a.2.2) from rfl,e];exact Dq _ _ h
   . rw[show a=(a.1,a.2.1,a.2.2) from rfl,e];exact NV h
   . rw[show a=(a.1,a.2.1,a.2.2) from rfl,e];exact h
theorem Ja {rows:List Int} (hr:dM rows) (h:xV rows):(dW rows).length<=58:=by
 unfold dW;rw[if_pos (aN.2 hr),vU]
 have hb : ∀ j, 58 <= j -> (setOf rows).testBit j = false := fun j hj => by
  rw[uQ hr];by_cases hk:j/8<rows.length
  . have h7 : j / 8 = 7 := by have := hr.1; omega
    have hv:=h.2 _ hk (by omega);have hp:=hr.2 _ (List.getElem_mem hk);rw[List.getD_eq_getElem?_getD,List.getElem?_eq_getElem hk];obtain⟨n,hn⟩:∃n:Nat,n=(rows[j/8]).toNat:=⟨_,rfl⟩;show(rows[j/8]).toNat.testBit (j%8)=false;rw[<-hn];have hn3:n<2^2:=(by omega);refine Nat.testBit_lt_two_pow (Nat.lt_of_lt_of_le hn3 (Nat.pow_le_pow_right (by omega) (by omega)))
  . rw [List.getD_eq_getElem?_getD, List.getElem?_eq_none (by omega)];simp
 have hle : ∀ f : Nat -> Bool, ∀ k, cntF f k <= k := fun f k => by
  induction k with
  |zero=>exact Nat.le_refl _
  |succ k ih=>rw[iL];have:=Bool.toNat_le (f k);omega
 show cntF _ (58+1+1+1+1+1+1)<=58;simp only[iL _ (58+1+1+1+1+1),iL _ (58+1+1+1+1),iL _ (58+1+1+1),iL _ (58+1+1),iL _ (58+1),iL _ 58,hb 58 (by omega),hb (58+1) (by omega),hb (58+1+1) (by omega),hb (58+1+1+1) (by omega),hb (58+1+1+1+1) (by omega),hb (58+1+1+1+1+1) (by omega),Bool.toNat_false,Nat.add_zero];exact hle _ _
theorem OV {rows:List Int} (h:dM rows):bG rows=iG (setOf rows):=by unfold bG;rw[if_pos (aN.2 h)]
theorem yH {rows:List Int} (h:R12 rows):qA rows=true/\iR rows=(rows,fK rows,fK rows,[])/\dI rows (fK rows)=true/\(fK rows).length<=29:=by
 obtain⟨h1,h2,h3,h4⟩:=h;have hne:bG rows≠0:=by omega
 have ht:dI rows (fK rows)=true:=by
  unfold fK;rw[if_neg hne];exact zW h1 (II (dY h1) (by rw[<-OV h1];exact hne))
 refine⟨by unfold qA;exact decide_eq_true hne,by unfold iR;rw[if_neg hne],ht,?_⟩;have hc:=Ja h1 h4;unfold dI at ht;rw[and_eq_true,decide_eq_true_iff]at ht;omega
theorem MS {rows:List Int} (h:R12 rows):jG (iR rows)=true:=by
 obtain⟨h1,h2,h3,h4⟩:=yH h;rw[h2];exact lC.2 ⟨h3,by simp,by simp[eH]⟩
theorem Kg {rows:List Int} {stock:Int} (h:R12 rows) (hs:30<=stock/\stock<=49):bT (iR rows,stock-((iR rows).2.2.1.length:Int),0,0)=true:=by
 have hf:=MS h;obtain⟨h1,h2,h3,h4⟩:=yH h;refine jU.2 ⟨hf,?_⟩;rw[h2];unfold inB;simp;omega
theorem Jb {rows:List Int} {l:List Dm} (h:dI rows l=true):dM rows/\l∈iJ (setOf rows):=by
 obtain⟨hr,hp⟩:=zQ h;have hpart:isPartial rows l=true:=qD.2 ⟨hr,hp⟩;rw[nU hpart,decide_eq_true_eq]at h;refine⟨hr,zY hp fun j hj hs=> ?_⟩;rw[<-h,kX,List.any_eq_true]at hs;obtain⟨d,hd,e⟩:=hs;rw[and_eq_true]at e;exact⟨d,hd,e.2⟩
theorem MU {s:Nat}:∀(cs:List Cl) {a b:List Dm},a∈iJ s->eH a cs=some b->b∈iJ s
  | [], a, b, ha, h => by
   have e:a=b:=Option.some.inj h;exact e▸ha
  | c :: r, a, b, ha, h => by
   unfold eH at h;split at h
   . cases h
   . rename_i q;exact MU r (GD ha q) h
theorem Jc {x:Fl} (h:jG x=true):dI x.1 x.2.2.1=true:=by
 obtain⟨f1,f2,f3⟩:=lC.1 h;obtain⟨hr,ht⟩:=Jb f1;exact zW hr (MU _ ht f3)
theorem Gj {x:Fl} (h:jG x=true):2*(x.2.1.length:Int)=((dW x.1).length:Nat):=by
 obtain⟨f1,f2,f3⟩:=lC.1 h;unfold dI at f1;rw[and_eq_true,decide_eq_true_iff]at f1;have:=f1.2;omega
theorem KZ (x:Fl) (c:Cl):(yA x c).1.1=x.1:=by unfold yA;split<;>rfl
theorem Mr {y:Wk} (a:Ac) (h:bT y=true):(sZ y a).1.1=y.1.1:=by
 rcases q:(bT y&&mD a.1 a.2.1 a.2.2)with _|_
 . rw[(FL q).1]
 . rw[h,Bool.true_and]at q;rcases yG (k:=a.1) (a:=a.2.1) (b:=a.2.2) h q with⟨_,e,_⟩|⟨_,e,_⟩|⟨_,e,_⟩|⟨_,e,_⟩|⟨_,e,_⟩
   . rw[show a=(a.1,a.2.1,a.2.2) from rfl,e];show(iV y _).1=_;unfold iV;split
     . exact KZ _ _
     . rfl
   . rw[show a=(a.1,a.2.1,a.2.2) from rfl,e];unfold kH xD;split<;>rfl
   . rw[show a=(a.1,a.2.1,a.2.2) from rfl,e]
   . rw[show a=(a.1,a.2.1,a.2.2) from rfl,e];show(fF y.1).1.1=_;unfold fF;split<;>rfl
   . rw[show a=(a.1,a.2.1,a.2.2) from rfl,e]
theorem OW {b:Bool} (h:bI b=1):b=true:=by cases b<;>simp_all [bI]
theorem Ms {y:Wk} {i:Int} (h:0<=sO y i):sV y i=true:=by
 unfold sO at h;split at h
 . rename_i q;exact q
 . omega
theorem NY {y:Wk} {i:Int} (h:¬0<=sO y i):sV y i=false:=by
 unfold sO at h;cases q:sV y i
 . rfl
 . rw[if_pos q]at h
   have hb:wW y.1.1 y.1.2.2.1 (Kb y i)=true:=by
    unfold sV at q;simp only[and_eq_true]at q;exact q.1.1.2
   unfold I4 at h;rw[if_pos hb]at h;omega
theorem NZ {y:Wk} {k a b:Int} (h:bT y=true) (h':mD k a b=true):
 (k=3/\wJ y (k,a,b)=1/\(sZ y (k,a,b)).2=(IntKind.i64.wrap (y.2.1+(hold sam (chosen sam a)).1),IntKind.i64.wrap (y.2.2.1+(hold sam (chosen sam a)).2),y.2.2.2))∨
 (k=2/\0<=wJ y (k,a,b)/\1<=y.2.1/\(sZ y (k,a,b)).2=(y.2.1-1,y.2.2.1,y.2.2.2+1))∨
 (¬(k=3/\wJ y (k,a,b)=1)/\¬(k=2/\0<=wJ y (k,a,b))/\(sZ y (k,a,b)).2=y.2):=by
 rcases yG h h' with⟨rfl,e1,e2⟩|⟨rfl,e1,e2⟩|⟨rfl,e1,e2⟩|⟨rfl,e1,e2⟩|⟨rfl,e1,e2⟩
 . exact .inr (.inr ⟨fun q=>absurd q.1 (by decide),fun q=>absurd q.1 (by decide),by rw[e1]⟩)
 . rw[e1,e2];by_cases q:0<=sO y a
   . have hb:=Ms q;refine .inr (.inl ⟨rfl,q,?_,by unfold kH;rw[if_pos hb];rfl⟩);have h1:=(jU.1 h).2;unfold sV at hb;unfold inB at h1;simp only[and_eq_true,Bool.not_eq_true',decide_eq_false_iff_not,decide_eq_true_eq]at hb h1;omega
   . refine .inr (.inr ⟨fun q => absurd q.1 (by decide), fun r => q r.2, ?_⟩);unfold kH;rw[NY q];rfl
 . rw[e1,e2];by_cases q:bI (nT y sam a)=1
   . have hb:=OW q;refine .inl ⟨rfl,q,?_⟩;unfold vK vL wI;rw[if_pos hb,if_pos hb]
   . refine .inr (.inr ⟨fun r => q r.2, fun q => absurd q.1 (by decide), ?_⟩);have hb:¬nT y sam a=true:=fun e=>q (by rw[e];rfl)
     unfold vK vL;rw[if_neg hb,if_neg hb]
 . exact .inr (.inr ⟨fun q=>absurd q.1 (by decide),fun q=>absurd q.1 (by decide),by rw[e1]⟩)
 . exact .inr (.inr ⟨fun q=>absurd q.1 (by decide),fun q=>absurd q.1 (by decide),by rw[e1]⟩)
end Go.Proofs.YtljfoohaapckeaaGreatDoor
