/- A region with 1 to 60 tilings, drawn. No conditions but sizes. A new floor, by the program: the walk. Conditions: sizes. A workshop stays valid: by acts, by purchases, by breaks, by turns. Plain laws; no program in sight. Acts done in two parts; numbers changed. Plain laws; no program in sight. Numbers read from texts, of both sides: the walks. Conditions: the library's table of powers and its error for a text that is no number, as its text lays them. SplitFields of both sides: the walks. No conditions. The act that a line's words are the text of: plain laws. No program in sight. ParseAct of the program: the walk. Conditions: the library's table of powers and its error for a text that is no number, as its text lays them. Steps of drawn regions: a slice without its head, an empty slice, append. Texts compared. No conditions. RunActs of the program: the walk. Conditions: sizes; the library's table of powers, as its text lays it. -/
import Derived.Test.YtljfoohaapckeaaGreatDoorBDrawH
import Derived.Test.YtljfoohaapckeaaGreatDoorBListS
import Derived.Test.YtljfoohaapckeaaGreatDoorBG27
import Derived.Test.YtljfoohaapckeaaGreatDoorBG6
import Derived.Test.YtljfoohaapckeaaGreatDoorBG14
import Derived.Test.YtljfoohaapckeaaGreatDoorBG38
import Derived.Test.YtljfoohaapckeaaGreatDoorBG20
import Derived.Test.YtljfoohaapckeaaGreatDoorBK1
import Derived.Lib.AtoiErrMem
import Derived.Test.YtljfoohaapckeaaGreatDoorBK3
import Derived.Test.YtljfoohaapckeaaGreatDoorBK2
open _root_.List (length_append length_singleton map_nil)
open _root_.Go.Proofs.Tryz (prog results129 func21 ntmps21 results15)
namespace Go.Proofs.YtljfoohaapckeaaGreatDoor
open Go.ChangeShapes Go.WideShapes Go.ChangeAt Go.RowKit
set_option linter.unusedVariables false
set_option linter.unusedSimpArgs false
set_option maxHeartbeats 4000000
set_option maxRecDepth 100000
def R12 (rows:List Int):Prop:=dS rows/\1<=bK rows/\bK rows<=60/\yG rows
def OW (W:World) (g:Nat) (u:Value) (n:Nat) (w:World) (e:Ending) (w':World):Prop:=∃(rows:List Int) (A:Option Addr) (c:Nat),e= .returned (.agg #[.slice A rows.length c])/\aD 3 1 aX w.heap.size w' (.slice A rows.length c) rows/\R12 rows/\DS W w w' g u n
theorem Nj:R12 (aW 4 3):=by
 have hr:dS (aW 4 3):=by
  refine⟨by simp[aW],fun r hr=> ?_⟩;unfold aW at hr;rw[(List.mem_replicate.1 hr).2];omega
 have h:1<=(iX (setOf (aW 4 3))).length/\(iX (setOf (aW 4 3))).length<=60:=by decide+kernel
 have e:bK (aW 4 3)=((iX (setOf (aW 4 3))).length:Nat):=by
  unfold bK;rw[if_pos (aN.2 hr),rG (dU hr)]
 exact⟨hr,by omega,by omega,rJ (by decide)⟩
theorem CX {x:Int} (h:0<=x/\x<=255):IntKind.u8.wrap x=x:=by
 unfold IntKind.wrap;simp[IntKind.bits,IntKind.signed];omega
theorem JJ (w:World) (a b c d:Int):aD 5 1 oJ w.heap.size (w.alloc (.cells #[.int .u8 a,.int .u8 b,.int .u8 c,.int .u8 d] 5)) (.slice (some ⟨w.heap.size,0,none⟩) 4 4) [a,b,c,d]:=
 ⟨by simp[oJ],.inr ⟨w.heap.size,4,#[.int .u8 a,.int .u8 b,.int .u8 c,.int .u8 d],rfl,Nat.le_refl _,heap_alloc_new w _,by simp,by simp[maxLen],by simp,by simp[oJ]⟩⟩
theorem FD (W : World) (g : Nat) (v : Value) (l : List Int) (w : World) (h : Rd 1 mE W v l) (Hok : Hid (mK (fun x => 0 <= x /\ x <= 255) l)) (hg : W.heap.size <= g) (hbel : Below W.heap.size W w) (hcur : Cur w g v l.length) :
 Calls prog 129 #[.pointer (some ⟨g,0,none⟩)] w (OW W g v l.length w):=by
 have hW:=hbel.size;have hX:=Blk.aZ w 26 #[.slice none 0 0];have D:=(DS.refl hcur hbel).al (.cells #[.slice none 0 0] 26);go_enter Tryz.func129,Tryz.ntmps129
 obtain⟨gX,hgX'⟩:=Qi w.heap.size;have HgX:=Qk hgX';rw[<-hgX']at hX;have hgX:w.heap.size<=gX:=(by omega);have hne:=(D.cur.ne hX (by decide)).symm;go_wp2_with fail
 clear hgX';go_loopw [3] (fun s3 wr=>∃k:Nat,k<=6/\s3= .int .i64 k/\Blk wr gX 26 #[.slice none 0 0]/\DS W w wr g v l.length) (fun i _=>6-(intOf i).toNat)
 case atStart=>exact⟨0,by omega,rfl,hX,D⟩
 case round=>
  obtain⟨k,hk,rfl,hX0,D0⟩:=hrel;clear hX D;by_cases hlt:k<6
  . have hkI : decide ((k : Int) < 6) = true := decide_eq_true (by omega);go_wp2_with fail
    refine(sS W g v l _ h Hok hg D0.B D0.cur).mono ?_;rintro e w1 ⟨rows,A,c,rfl,own,h1,h5,hr,cur1,B1,k1⟩;have g1:=KU D0.B B1 k1;have hXb:=hX0.ds D0.cur g1 (by decide);have hlt1:=hXb.lt;have hX1:=hXb.alloc (.cells #[.slice A rows.length c] 26);have D1:=(D0.dr cur1 B1 g1).al (.cells #[.slice A rows.length c] 26);have own1:=(own.mono (B':=w.heap.size) D0.gr.size).alloc (.cells #[.slice A rows.length c] 26);have bY1:=Blk.aZ w1 26 #[.slice A rows.length c];clear own cur1 B1 k1 g1 hX0 D0 hXb;go_wp2_with fail
    refine(xS 4 W g v l _ h Hok hg D1.B D1.cur (by decide)).mono ?_;rintro e w2 ⟨yes,rfl,c2,B2,g2⟩;have hX2:=hX1.ds D1.cur g2 (by decide);have own2:=own1.cur D1.cur (by decide) g2;have bY2:=bY1.ds D1.cur g2 (by decide);have D2:=D1.dr c2 B2 g2;clear hX1 own1 bY1 D1 c2 B2 g2;have Hl:=Qk (rJ h5);rcases yes with _|_
    . skip;have zy:=bY2.c1;obtain⟨o,ho⟩:=Qi (bT rows);have CO:∀(u:Value) (w:World),Rd 1 bH w u rows->Calls prog 163 #[.agg #[u]] w (Ret (.bool o) w):=fun u w k1=>by rw[ho];exact dP u rows w k1
      go_wp2_with fail
      refine(CO _ _ (own2.rd aI (by decide))).mono ?_;rintro e w7 ⟨rfl,hb7⟩;have hX7:=hX2.bl hb7;have own7:=own2.below hb7;have D7:=D2.bl hb7;have bY7:=bY2.bl hb7;clear zy;have zy:=bY7.c1;cases o
      . clear ho CO;go_wp2;go_roundw
        case rel=>exact⟨k+1,by omega,by go_num,hX7,D7⟩
        case measure=>simp[intOf];omega
      . have hok:=aN.1 ho.symm;obtain⟨n,hn⟩:=Qi (iG (setOf rows));have CC:∀(u:Value) (w:World),Rd 1 bH w u rows->Calls prog 182 #[.agg #[u]] w (Ret (.int .i64 n) w):=fun u w k1=>by rw[hn];exact tH u rows w k1 (Qk hok)
        obtain⟨i,hi⟩:=Qi (inB n 1 60);have CI:∀(w:World),Calls prog 73 #[.int .i64 n,.int .i64 1,.int .i64 60] w (Pure (.bool i) w):=fun w=>by rw[hi];exact iU n 1 60 w
        have HF : Hid (i = true -> R12 rows) := Qk fun q => by
         rw[hi]at q;have h1:1<=n/\n<=60:=(by simpa[inB]using q);have:bK rows=n:=by unfold bK;rw[if_pos (aN.2 hok),hn]
         exact⟨hok,by omega,by omega,Hl.out⟩
        clear hn hi hok ho CO;go_wp2_with fail
        refine(CC _ _ (own7.rd aI (by decide))).mono ?_;rintro e w8 ⟨rfl,hb8⟩;have hX8:=hX7.bl hb8;have own8:=own7.below hb8;have D8:=D7.bl hb8;have bY8:=bY7.bl hb8;clear zy hX7 own7 D7 bY7 hb8;have zy:=bY8.c1;cases i
        . go_wp2_with (go_at_call 73;(with_reducible refine(CI _).mono ?_);rintro e w' ⟨rfl,rfl⟩)
          go_roundw
          case rel=>exact⟨k+1,by omega,by go_num,hX8,D8⟩
          case measure=>simp[intOf];omega
        . have hX:=hX8;go_wp2_with (first|(go_at_call 73;(with_reducible refine(CI _).mono ?_);rintro e w' ⟨rfl,rfl⟩)|(rw[<-HgX.out];refine aA rfl 26 _ _ rfl gX #[.slice A rows.length c] rfl rfl _ _ hX (by kernel_rfl) rfl (by simp[Value.oneCell']) ?_;intro wE bE hgE))
          have oE:=aD.uG own8 hX (by decide) hgE;have qE:=bE.c1;refine bodyPost_ret (v:= .agg #[.slice A rows.length c]) (by simp[results,results129,go_sem,qE]) rfl ⟨_,_,_,rfl,oE,(by first|exact HF.out rfl|exact HF.out trivial),D8.st hgE hgX hW hne⟩
    . go_wp2_with fail
      refine(aO 256 W g v l _ h Hok hg D2.B D2.cur (by decide)).mono ?_;rintro e w3 ⟨x0,rfl,hx0,c3,B3,g3⟩;have hX3:=hX2.ds D2.cur g3 (by decide);have bY3:=bY2.ds D2.cur g3 (by decide);have D3:=D2.dr c3 B3 g3;clear hX2 bY2 D2 c3 B3 g3 own2;go_wp2_with fail
      refine(aO 256 W g v l _ h Hok hg D3.B D3.cur (by decide)).mono ?_;rintro e w4 ⟨x1,rfl,hx1,c4,B4,g4⟩;have hX4:=hX3.ds D3.cur g4 (by decide);have bY4:=bY3.ds D3.cur g4 (by decide);have D4:=D3.dr c4 B4 g4;clear hX3 bY3 D3 c4 B4 g4;go_wp2_with fail
      refine(aO 256 W g v l _ h Hok hg D4.B D4.cur (by decide)).mono ?_;rintro e w5 ⟨x2,rfl,hx2,c5,B5,g5⟩;have hX5:=hX4.ds D4.cur g5 (by decide);have bY5:=bY4.ds D4.cur g5 (by decide);have D5:=D4.dr c5 B5 g5;clear hX4 bY4 D4 c5 B5 g5;go_wp2_with fail
      refine(aO 256 W g v l _ h Hok hg D5.B D5.cur (by decide)).mono ?_;rintro e w6 ⟨x3,rfl,hx3,c6,B6,g6⟩;have hX6:=hX5.ds D5.cur g6 (by decide);have bY6:=bY5.ds D5.cur g6 (by decide);have D6:=D5.dr c6 B6 g6;clear hX5 bY5 D5 c6 B6 g6;have y0:0<=x0/\x0<=255:=by unfold dR at hx0;omega
      have y1:0<=x1/\x1<=255:=by unfold dR at hx1;omega
      have y2:0<=x2/\x2<=255:=by unfold dR at hx2;omega
      have y3:0<=x3/\x3<=255:=by unfold dR at hx3;omega
      have v0:=CX y0;have v1:=CX y1;have v2:=CX y2;have v3:=CX y3;clear hx0 hx1 hx2 hx3;have m0:x0%256=x0:=(by omega);have m1:x1%256=x1:=(by omega);have m2:x2%256=x2:=(by omega);have own6:=JJ w6 x0 x1 x2 x3
      have ok6 : mK (fun x => 0 <= x /\ x <= 255) [x0, x1, x2, x3] := fun x hx => by
       simp at hx;omega
      go_wp2_with fail
      refine(Ee _ [x0,x1,x2,x3] _ (own6.rd (fun _=>rfl) (by decide)) ok6 (by simp)).mono ?_;rintro e w9 ⟨rows9,A9,c9,rfl,own9,Hl9,hb9⟩;have D9:=(D6.al (.cells #[.int .u8 x0,.int .u8 x1,.int .u8 x2,.int .u8 x3] 5)).bl hb9;have hX9:=(hX6.alloc (.cells #[.int .u8 x0,.int .u8 x1,.int .u8 x2,.int .u8 x3] 5)).bl hb9;have bY9:=(bY6.alloc (.cells #[.int .u8 x0,.int .u8 x1,.int .u8 x2,.int .u8 x3] 5)).bl hb9;have own9:=own9.mono (B':=w.heap.size) (Nat.le_trans D6.gr.size (by simp));clear own6 ok6 hb9 hX6 bY6 D6 m0 m1 m2 v0 v1 v2 v3;have zy:=bY9.c1;have zf:=bY9.frozen 0;have hneY:=D9.cur.ne bY9 (by decide);have gRR:=cZ (World.grownBy.refl w9 (some w1.heap.size)) 0 (.slice A9 rows9.length c9);have D:=D9.st gRR (by omega) hW hneY.symm;have bY:=bY9.st 0 (.slice A9 rows9.length c9) _ rfl;have own:=aD.uG own9 bY9 (by decide) gRR;have hX:=hX9.grown gRR (by simp;omega);go_upto_region 7 with(fail)
      obtain⟨wE,hwE⟩:=Qi (w9.setCell ⟨w1.heap.size,0,none⟩ (.slice A9 rows9.length c9));rw[<-hwE]at D own hX bY⊢;clear hwE gRR zy zf D9 bY9 own9 hX9 hneY;have zy:=bY.c1;obtain⟨o,ho⟩:=Qi (bT rows9);have CO:∀(u:Value) (w:World),Rd 1 bH w u rows9->Calls prog 163 #[.agg #[u]] w (Ret (.bool o) w):=fun u w k1=>by rw[ho];exact dP u rows9 w k1
      go_wp2_with fail
      refine(CO _ _ (own.rd aI (by decide))).mono ?_;rintro e w7 ⟨rfl,hb7⟩;have hX7:=hX.bl hb7;have own7:=own.below hb7;have D7:=D.bl hb7;have bY7:=bY.bl hb7;clear zy;have zy:=bY7.c1;cases o
      . clear ho CO;go_wp2;go_roundw
        case rel=>exact⟨k+1,by omega,by go_num,hX7,D7⟩
        case measure=>simp[intOf];omega
      . have hok:=aN.1 ho.symm;obtain⟨n,hn⟩:=Qi (iG (setOf rows9));have CC:∀(u:Value) (w:World),Rd 1 bH w u rows9->Calls prog 182 #[.agg #[u]] w (Ret (.int .i64 n) w):=fun u w k1=>by rw[hn];exact tH u rows9 w k1 (Qk hok)
        obtain⟨i,hi⟩:=Qi (inB n 1 60);have CI:∀(w:World),Calls prog 73 #[.int .i64 n,.int .i64 1,.int .i64 60] w (Pure (.bool i) w):=fun w=>by rw[hi];exact iU n 1 60 w
        have HF : Hid (i = true -> R12 rows9) := Qk fun q => by
         rw[hi]at q;have h1:1<=n/\n<=60:=(by simpa[inB]using q);have:bK rows9=n:=by unfold bK;rw[if_pos (aN.2 hok),hn]
         exact⟨hok,by omega,by omega,Hl9⟩
        clear hn hi hok ho CO;go_wp2_with fail
        refine(CC _ _ (own7.rd aI (by decide))).mono ?_;rintro e w8 ⟨rfl,hb8⟩;have hX8:=hX7.bl hb8;have own8:=own7.below hb8;have D8:=D7.bl hb8;have bY8:=bY7.bl hb8;clear zy hX7 own7 D7 bY7 hb8;have zy:=bY8.c1;cases i
        . go_wp2_with (go_at_call 73;(with_reducible refine(CI _).mono ?_);rintro e w' ⟨rfl,rfl⟩)
          go_roundw
          case rel=>exact⟨k+1,by omega,by go_num,hX8,D8⟩
          case measure=>simp[intOf];omega
        . have hX:=hX8;go_wp2_with (first|(go_at_call 73;(with_reducible refine(CI _).mono ?_);rintro e w' ⟨rfl,rfl⟩)|(rw[<-HgX.out];refine aA rfl 26 _ _ rfl gX #[.slice A9 rows9.length c9] rfl rfl _ _ hX (by kernel_rfl) rfl (by simp[Value.oneCell']) ?_;intro wE bE hgE))
          have oE:=aD.uG own8 hX (by decide) hgE;have qE:=bE.c1;refine bodyPost_ret (v:= .agg #[.slice A9 rows9.length c9]) (by simp[results,results129,go_sem,qE]) rfl ⟨_,_,_,rfl,oE,(by first|exact HF.out rfl|exact HF.out trivial),D8.st hgE hgX hW hne⟩
  . obtain rfl : k = 6 := by omega
    go_wp2_with fail
    refine(vI 4 3 _ ⟨by decide,by decide⟩ ⟨by decide,by decide⟩).mono ?_;rintro e w1 ⟨A,c,rfl,own,hb1⟩;have hrl:(aW 4 3).length=3:=(by decide);have hX:=hX0.bl hb1;have D1:=D0.bl hb1;have own1:=own.mono (B':=w.heap.size) D0.gr.size;have HR:=Qk Nj;obtain⟨rows,hrows⟩:=Qi (aW 4 3);rw[<-hrows]at own1 HR⊢;clear hrows hrl own hb1;rw[<-HgX.out];have zR:=hX.c1;go_wp2_with (refine aA rfl 26 _ _ rfl gX #[.slice A rows.length c] rfl rfl _ _ hX (by kernel_rfl) rfl (by simp[Value.oneCell']) ?_;intro wE bE hgE)
    have oE:=aD.uG own1 hX (by decide) hgE;have qE:=bE.c1;refine bodyPost_ret (v:= .agg #[.slice A rows.length c]) (by simp[results,results129,go_sem,qE]) rfl ⟨_,_,_,rfl,oE,HR.out,D1.st hgE hgX hW hne⟩
def iT (rows:List Int):Fl:=if bK rows=0 then([],[],[],[])else(rows,fG rows,fG rows,[])
theorem rM {rows:List Int} (h:Small rows.length):dA (iT rows):=by
 have:=qQ rows;unfold iT;split
 . exact⟨by unfold Small;simp,by unfold Small;simp,by unfold Small;simp,by unfold Small;simp⟩
 . exact⟨h,by unfold Small;simp only;omega,by unfold Small;simp only;omega,by unfold Small;simp⟩
theorem dC {P:Program} {ops:Array Oper} {rest:List Oper} {o:Oper} {a:Act} {w:World} {Q:Exit->Act->World->Prop} (hgd:o.guard=none) (ty:TypeId) (x y:Operand) (ho:o.op= .store ty x y)
    (g:Nat) (cells:Array Value) (hx:a.eval x= .pointer (some ⟨g,0,none⟩)) (hy:a.eval y= .agg cells)
    (t:TypeId) (old:Array Value) (hg:Blk w g t old) (hi:(P.info? ty).map (·.size)=some cells.size) (hold:old.size=cells.size) (h1:cells.all (·.oneCell')=true)
    (h:∀w',Blk w' g t cells->w.grownBy w' (some g)->wpList P ops Q rest (a.put o.dst undef) w'):wpList P ops Q (o::rest) a w:=
 wpList_store_row hgd ty x y ho g cells hx hy t old hg hi hold h1 (h _ (setRow_heap w g old cells t (0,0) hg) (JV cells))
theorem yH (B:Nat) (w:World):aC B w (.slice none 0 0) (.slice none 0 0) (.slice none 0 0) (.slice none 0 0) ([],[],[],[]):=
 ⟨aD.DD,aD.DD,aD.DD,aD.DD,fun g q=>by simp[Value.ownBlock]at q⟩
theorem OX {x:Fl} (c:Cl) (h:lG x=true):lG (Bg x c).1=true:=by
 unfold Bg;split
 . rename_i q;obtain⟨h1,h2,h3⟩:=nM.1 h;refine nM.2 ⟨h1,?_,(by show iA x.2.1 (x.2.2.2++[c])=some (aS x.2.2.1 c);rw[Af,h3,Option.bind_some,if_neg q.2.2])⟩;show(x.2.2.2++[c]).length<=60;rw[length_append,length_singleton];have:=q.2.1;omega
 . exact h
theorem nA {y:Wk}:aY y=true↔lG y.1=true/\(inB y.2.1 0 10000&&inB y.2.2.1 0 10000&&inB y.2.2.2 0 10000)=true:=by
 unfold aY lG;rw[Bool.and_eq_true]
theorem vY {y:Wk} (c:Cl) (h:aY y=true):aY (jZ y c,y.2)=true:=by
 obtain⟨h1,h2⟩:=nA.1 h;refine nA.2 ⟨?_,h2⟩;show lG (jZ y c)=true;unfold jZ;split
 . exact OX c h1
 . exact h1
theorem OY {y:Wk} (h:aY y=true):aY ((jP y.1).1,y.2)=true:=by
 obtain⟨h1,h2⟩:=nA.1 h;refine nA.2 ⟨?_,h2⟩;show lG (jP y.1).1=true;unfold jP;split
 . exact Kk h1 _
 . exact h1
theorem Ef {y:Wk} (l:List (Int×Int)) (n:Int) (h:aY y=true):aY (y.1,AA y l n,AJ y l n,y.2.2.2)=true:=by
 unfold AA AJ;by_cases q:tO y l n=true
 . rw[if_pos q,if_pos q];unfold tO at q;rw[Bool.and_eq_true]at q;exact q.2
 . rw[if_neg q,if_neg q];exact h
theorem xP {y:Wk} (i:Int) (h:aY y=true):aY (lY y i)=true:=by
 unfold lY;split
 . rename_i q;unfold CJ at q;rw[Bool.and_eq_true]at q;exact q.2
 . exact h
theorem PS {y:Wk} (a:Ac) (h:aY y=true):aY (wY y a)=true:=by
 rcases q:(aY y&&qB a.1 a.2.1 a.2.2)with _|_
 . rw[(NL q).1];exact h
 . rw[h,Bool.true_and]at q;rcases KT (k:=a.1) (a:=a.2.1) (b:=a.2.2) h q with⟨_,e,_⟩|⟨_,e,_⟩|⟨_,e,_⟩|⟨_,e,_⟩|⟨_,e,_⟩
   . rw[show a=(a.1,a.2.1,a.2.2) from rfl,e];exact vY _ h
   . rw[show a=(a.1,a.2.1,a.2.2) from rfl,e];exact xP _ h
   . rw[show a=(a.1,a.2.1,a.2.2) from rfl,e];exact Ef _ _ h
   . rw[show a=(a.1,a.2.1,a.2.2) from rfl,e];exact OY h
   . rw[show a=(a.1,a.2.1,a.2.2) from rfl,e];exact h
theorem J5:∀(l:List Ac) {y:Wk} {ns:List Int},aY y=true->aY (goR y ns l).1=true
  |[],y,ns,h=>h
  |a::r,y,ns,h=>J5 r (PS a h)
theorem KV:∀(l:List Ac) (y:Wk) (ns:List Int),(goR y ns l).2.length=ns.length+l.length
  |[],y,ns=>rfl
  | a :: r, y, ns => by
   show(goR (wY y a) (ns++[AL y a]) r).2.length=_;rw[KV r,length_append,length_singleton,List.length_cons];omega
theorem OZ {y:Wk} (l:List Ac) (h:aY y=true):aY (qR y l).1=true:=by
 unfold qR;split
 . exact J5 l h
 . exact h
theorem Nk {y:Wk} {l:List Ac} (h:aY y=true) (hl:l.length<=40):(qR y l).2.length=l.length:=by
 unfold qR;rw[if_pos ⟨h,hl⟩,KV];exact Nat.zero_add _
theorem JK {rows:List Int} (hr:dS rows) (h:yG rows):(eF rows).length<=58:=by
 unfold eF;rw[if_pos (aN.2 hr),wK]
 have hb : ∀ j, 58 <= j -> (setOf rows).testBit j = false := fun j hj => by
  rw[vF hr];by_cases hk:j/8<rows.length
  . have h7 : j / 8 = 7 := by have := hr.1; omega
    have hv:=h.2 _ hk (by omega);have hp:=hr.2 _ (List.getElem_mem hk);rw[List.getD_eq_getElem?_getD,List.getElem?_eq_getElem hk];obtain⟨n,hn⟩:∃n:Nat,n=(rows[j/8]).toNat:=⟨_,rfl⟩;show(rows[j/8]).toNat.testBit (j%8)=false;rw[<-hn];have hn3:n<2^2:=(by omega);refine Nat.testBit_lt_two_pow (Nat.lt_of_lt_of_le hn3 (Nat.pow_le_pow_right (by omega) (by omega)))
  . rw [List.getD_eq_getElem?_getD, List.getElem?_eq_none (by omega)];simp
 have hle : ∀ f : Nat -> Bool, ∀ k, cntF f k <= k := fun f k => by
  induction k with
  |zero=>exact Nat.le_refl _
  |succ k ih=>rw[iK];have:=Bool.toNat_le (f k);omega
 show cntF _ (58+1+1+1+1+1+1)<=58;simp only[iK _ (58+1+1+1+1+1),iK _ (58+1+1+1+1),iK _ (58+1+1+1),iK _ (58+1+1),iK _ (58+1),iK _ 58,hb 58 (by omega),hb (58+1) (by omega),hb (58+1+1) (by omega),hb (58+1+1+1) (by omega),hb (58+1+1+1+1) (by omega),hb (58+1+1+1+1+1) (by omega),Bool.toNat_false,Nat.add_zero];exact hle _ _
theorem PT {rows:List Int} (h:dS rows):bK rows=iG (setOf rows):=by unfold bK;rw[if_pos (aN.2 h)]
theorem yT {rows:List Int} (h:R12 rows):qL rows=true/\iT rows=(rows,fG rows,fG rows,[])/\eG rows (fG rows)=true/\(fG rows).length<=29:=by
 obtain⟨h1,h2,h3,h4⟩:=h;have hne:bK rows≠0:=by omega
 have ht:eG rows (fG rows)=true:=by
  unfold fG;rw[if_neg hne];exact GD h1 (Jp (dU h1) (by rw[<-PT h1];exact hne))
 refine⟨by unfold qL;exact decide_eq_true hne,by unfold iT;rw[if_neg hne],ht,?_⟩;have hc:=JK h1 h4;unfold eG at ht;rw[Bool.and_eq_true,decide_eq_true_iff]at ht;omega
theorem NP {rows:List Int} (h:R12 rows):lG (iT rows)=true:=by
 obtain⟨h1,h2,h3,h4⟩:=yT h;rw[h2];exact nM.2 ⟨h3,by simp,by simp[iA]⟩
theorem KW {rows:List Int} {stock:Int} (h:R12 rows) (hs:30<=stock/\stock<=49):aY (iT rows,stock-((iT rows).2.2.1.length:Int),0,0)=true:=by
 have hf:=NP h;obtain⟨h1,h2,h3,h4⟩:=yT h;refine nA.2 ⟨hf,?_⟩;rw[h2];unfold inB;simp;omega
theorem KX:∀(l m:List Ac) (y:Wk) (ns:List Int),goR y ns (l++m)=goR (goR y ns l).1 (goR y ns l).2 m
  |[],m,y,ns=>rfl
  | a :: l, m, y, ns => by
   show goR (wY y a) (ns++[AL y a]) (l++m)=_;rw[KX l];rfl
theorem KY:∀(l:List Ac) (y:Wk) (ms ns:List Int),goR y (ms++ns) l=((goR y ns l).1,ms++(goR y ns l).2)
  |[],y,ms,ns=>rfl
  | a :: l, y, ms, ns => by
   show goR (wY y a) (ms++ns++[AL y a]) l=_;rw[List.append_assoc,KY l];rfl
theorem JL {y:Wk} {l:List Ac} (h:aY y=true) (hl:l.length<=40) (k:Nat):
 (qR (qR y (l.take k)).1 (l.drop k)).1=(qR y l).1/\(qR y (l.take k)).2++(qR (qR y (l.take k)).1 (l.drop k)).2=(qR y l).2:=by
 have h1:(l.take k).length<=40:=Nat.le_trans (List.length_take_le' k l) hl;have h2:(l.drop k).length<=40:=by rw[List.length_drop];omega
 have e1:qR y (l.take k)=goR y [] (l.take k):=by unfold qR;rw[if_pos ⟨h,h1⟩]
 have h3:aY (goR y [] (l.take k)).1=true:=J5 _ h;have e2:qR (goR y [] (l.take k)).1 (l.drop k)=goR (goR y [] (l.take k)).1 [] (l.drop k):=by unfold qR;rw[if_pos ⟨h3,h2⟩]
 have e3:qR y l=goR y [] l:=by unfold qR;rw[if_pos ⟨h,hl⟩]
 rw[e1,e2,e3];have e4:=KX (l.take k) (l.drop k) y [];rw[List.take_append_drop]at e4;rw[e4];have e5:=KY (l.drop k) (goR y [] (l.take k)).1 (goR y [] (l.take k)).2 [];rw[List.append_nil]at e5;rw[e5];exact⟨rfl,rfl⟩
def Syn (w:World):Prop:=∃ev:Value,w.cell? ⟨1,0,none⟩=some ev/\(ev= .nilIface∨∃te pe,ev= .iface te pe)
theorem Syn.below {w w':World} (h:Syn w) (hb:Below w.heap.size w w'):Syn w':=by
 obtain⟨ev,h1,h2⟩:=h;exact⟨ev,(hb.cell (show(⟨1,0,none⟩:Addr).block<w.heap.size from Lib.lt_of_cell h1)).trans h1,h2⟩
end Go.Proofs.YtljfoohaapckeaaGreatDoor
namespace Go.Proofs.YtljfoohaapckeaaGreatDoor
open Go.RowKit
set_option linter.unusedVariables false
set_option linter.unusedSimpArgs false
set_option maxHeartbeats 4000000
set_option maxRecDepth 100000
abbrev F3:=Int×Int×Int
end Go.Proofs.YtljfoohaapckeaaGreatDoor
namespace Go.Proofs.YtljfoohaapckeaaGreatDoor
open Go.ChangeShapes Go.WideShapes Go.ChangeAt Go.RowKit
set_option linter.unusedVariables false
set_option linter.unusedSimpArgs false
set_option maxHeartbeats 4000000
set_option maxRecDepth 100000
theorem Dz {α:Type} {E:TypeId} {size:Nat} {enc:α->List Value} {B:Nat} {w:World} {A A':Option Addr} {n c c' j:Nat} {l:List α} (h:aD E size enc B w (.slice A n c) l) (henc:∀x,(enc x).length=size) (hs:0<size) (hj:j<=n) (e:sliced A j n c size= .slice A' (n-j) c'):
 Rd size (RE enc) w (.slice A' (n-j) c') (l.drop j):=by
 obtain⟨A2,c2,e2,hr⟩:=(h.rd henc hs).tailA hj;rw[e]at e2;injection e2 with q1 q2 q3;subst q1;subst q3;exact hr
theorem Bn (u v:Value) (l m:List ByteArray) (w:World) (h:Rd 1 (RE pW) w u l) (h':Rd 1 (RE pW) w v m):Calls prog 21 #[u,v] w (Ret (.bool (decide (l=m))) w):=by
 obtain⟨A,c,rfl,hc,hm⟩:=h.form;obtain⟨A',c',rfl,hc',hm'⟩:=h'.form;by_cases hlen:l.length=m.length
 . have hne : ((l.length : Int) != (m.length : Int)) = false := by simp [hlen]
   have Hlen:=Qk hlen;clear hlen;go_enter func21,ntmps21
   go_wp2;go_loopw [5] (fun i wr=>∃k:Nat,k<=l.length/\i= .int .i64 k/\Hid (decide (l.drop k=m.drop k)=decide (l=m))/\Below w.heap.size w wr) (fun i _=>l.length-(intOf i).toNat)
   case atStart=>exact⟨0,Nat.zero_le _,rfl,Qk rfl,Below.refl _ _⟩
   case round=>
    obtain⟨k,hk,rfl,Hg,hbel⟩:=hrel;by_cases hlt:k<l.length
    . have hlm : k < m.length := by have := Hlen.out; omega
      obtain⟨b,off,rfl,hb,h1⟩:=(h.Qj hbel).O5 hlt;obtain⟨b',off',rfl,hb',q1⟩:=(h'.Qj hbel).O5 hlm;have hlt':(k:Int)<(m.length:Int):=(by omega);go_wp2_with fail
      go_quiet (fail)
      go_wp2
      all_goals first
        | (go_roundw
           case rel=>exact⟨k+1,by omega,by go_num,JQ Hg hlt hlm (by rename_i hx;simpa[str_inj]using hx),below_drewN hbel _⟩
           case measure=>simp[intOf];omega)
        | (go_ret
           exact⟨kC (JR Hg hlt hlm (by rename_i hx;simpa[str_inj]using hx)).symm,below_drewN hbel _⟩)
    . go_wp2;go_ret;exact⟨kC (FK Hg (by omega) (by have:=Hlen.out;omega)).symm,hbel⟩
 . have hne : ((l.length : Int) != (m.length : Int)) = true := by simp; omega
   go_enter func21,ntmps21
   go_wp2;go_ret;exact⟨kC (by rw[eq_comm,decide_eq_false_iff_not];exact fun e=>hlen (by rw[e])),Below.refl _ _⟩
section
variable {P : Program} {α : Type} {t E : TypeId} {z : Value} {size bytes : Nat} {enc : α -> List Value} {ops : Array Oper} {o : Oper} {a : Act} {w : World} {K : Act -> World -> Prop} {Q : Exit -> Act -> World -> Prop} {E' : Prop}
theorem CZ (R:Row P t E z size bytes) {RR:World->List Value->α->Prop} {A:Option Addr} {n c:Nat} {l:List α} (h:Rd size RR w (.slice A n c) l) (j:Nat) (hj:j<=n) {J:Int} (hJ:J=j)
    (s x:Operand) (hop:o.op=Op.slice t s (some x) none none) (hs:a.eval s= .slice A n c) (hx:a.eval x= .int .i64 J)
    (hK:∀A' c',sliced A j n c size= .slice A' (n-j) c'->K (a.put o.dst (.slice A' (n-j) c')) w) (hw:Region.wanted o (yielded ops a.tmps)=true:=by rfl):
    if Region.wanted o (yielded ops a.tmps)=true then Oper.wp P o a w K Q else E':=by
 rw[if_pos hw];subst hJ;obtain⟨ht,hinfo,hzs,hsz⟩:=R;obtain⟨i0,hi,hz0,hz1,hz2⟩:=info_parts hinfo;obtain⟨A',c',e,hr⟩:=h.tailA hj;have he:P.elem t=E:=(by simp[Program.elem,ht]);have ht':P.underlying t=some (.slice (P.elem t)):=by rw[he];exact ht
 have hrun:(Instr.sliceAt t (.slice A n c) (some (.int .i64 j)) none none).run P w= .ok (.slice A' (n-j) c') w:=by
  rw[run_sliceAt_slice w t _ _ _ _ ht',run_slice_l w t A n c ht' .i64 j (by omega) (by omega),he,<-e];simp[sizeOf,typeInfo,hi,hz1,Result.andThen]
 unfold Oper.wp;simp[execOp,hop,hs,hx,hrun,Result.andThen];exact hK A' c' e
theorem G8 (R:Row P t E z size bytes) (ho:o.op= .buildSlice t 0 #[])
    (h:∀g w',Blk w' g E #[]->Below w.heap.size w w'->w.heap.size<=g->w.heap.size<=w'.heap.size->K (a.put o.dst (.slice (some ⟨g,0,none⟩) 0 0)) w') (hw:Region.wanted o (yielded ops a.tmps)=true:=by rfl):
    if Region.wanted o (yielded ops a.tmps)=true then Oper.wp P o a w K Q else E':=by
 rw[if_pos hw];obtain⟨ht,hinfo,hzs,hsz⟩:=R;obtain⟨i0,hi,hz0,hz1,hz2⟩:=info_parts hinfo
 have hrun:(Instr.buildSlice t 0 #[]).run P w= .ok (.slice (some ⟨w.heap.size,0,none⟩) 0 0) (w.alloc (.cells #[] E)):=by
  simp[Instr.buildSlice,run_underlying ht,sizeOf,typeInfo,hi,newRow,Instr.fill];have e:(Array.map (fun _=>(default:Value)) (Array.range 0))= #[]:=by apply Array.eq_empty_of_size_eq_zero;simp
  rw[e]
 unfold Oper.wp execOp;simp only[ho,Sem.run_bind,Sem.run_pure,Result.andThen_ok,List.map_toArray,map_nil,Array.map_empty,hrun];exact h _ _ (Blk.aZ w E #[]) ((Below.refl _ _).al _) (Nat.le_refl _) (by simp)
theorem LW {B g:Nat} (hb:Blk w g E #[]) (hB:B<=g):aD E size enc B w (.slice (some ⟨g,0,none⟩) 0 0) ([]:List α):=⟨by simp,.inr ⟨g,0,#[],rfl,hB,hb,Nat.le_refl _,Nat.zero_le _,by simp,by simp⟩⟩
theorem Fg (R:Row P t E z size bytes)
    (henc:∀x,(enc x).length=size) (h1:∀x,∀u∈enc x,u.oneCell'=true) {B:Nat} (hB:B<=w.heap.size) {v:Value} {l:List α} (hown:aD E size enc B w v l) {A:Option Addr} {c:Nat} {m:List α} (hm:Rd size (RE enc) w (.slice A m.length c) m)
    (hlen:(l.length+m.length)*bytes<=140737488355328) (hlen2:l.length+m.length<=maxLen)
    (s x:Operand) (ho:o.op= .call {callee:= .builtin .append,args:= #[s,x],argTypes:= #[t,t]})
    (hs:a.eval s=v) (hx:a.eval x= .slice A m.length c)
    (h:∀A' c' w',aD E size enc B w' (.slice A' (l.length+m.length) c') (l++m)->Below B w w'->K (a.put o.dst (.slice A' (l.length+m.length) c')) w') (hw:Region.wanted o (yielded ops a.tmps)=true:=by rfl):
    if Region.wanted o (yielded ops a.tmps)=true then Oper.wp P o a w K Q else E':=by
 rw[if_pos hw];obtain⟨ht,hinfo,hzs,hsz⟩:=R;obtain⟨i0,hi,hz0,hz1,hz2⟩:=info_parts hinfo
 have key:∃v' w',(Builtin.append_ #[t,t] o.type #[v,.slice A m.length c]).run P w= .ok v' w'/\aD E size enc B w' v' (l++m)/\Below B w w':=by
  by_cases hA:A=none
  . subst hA
    have hm0:m=[]:=by
     obtain⟨A',c',e,_,_,h3⟩:=hm;injection e with e1 e2 e3;rcases Nat.eq_zero_or_pos m.length with h0|h0
     . exact List.eq_nil_of_length_eq_zero h0
     . obtain⟨b,off,e4,_⟩:=h3 h0;rw[e4]at e1;cases e1
    subst hm0;refine⟨v,w,?_,by simpa using hown,Below.refl _ _⟩;rcases hown.2 with⟨rfl,hn⟩|⟨g,cap,cur,rfl,_,_,hnc,_⟩
    . simp[Builtin.append_,run_underlying ht,sizeOf,typeInfo,hi,Builtin.lenOf,Builtin.firstCells]
    . simp[Builtin.append_,run_underlying ht,sizeOf,typeInfo,hi,Builtin.lenOf,Builtin.firstCells,hnc,storeCells]
  . obtain ⟨ad, rfl⟩ : ∃ ad, A = some ad := by cases A with
     |none=>exact absurd rfl hA
     |some ad=>exact⟨ad,rfl⟩
    have hcells:∀j u,(m.flatMap enc)[j]? =some u->w.cell? (ad.add j)=some u:=by
     intro j u hj;obtain⟨i,x,r,k1,k2,k3⟩:=xQ henc m j u hj;have hi':i<m.length:=(List.getElem?_eq_some_iff.1 k1).1;obtain⟨b,off,e,_,hc⟩:=hm.at_ hi';injection e with e;subst e;have hx:m[i]=x:=by rw[List.getElem?_eq_getElem hi']at k1;injection k1
     have:=hc r u (by rw[hx];exact k2)
     have e:(Addr.mk b off none).add j=⟨b,off+i*size+r,none⟩:=by
      unfold Addr.add;split
      . simp_all
      . simp[k3,Nat.add_assoc]
     rw[e];exact this
    obtain⟨v',w',hrun,h2,h3,_,h5⟩:=run_append_own_at (P:=P) w B t o.type E i0 z size bytes ht hi hz0 hz1 hz2 hzs hsz v l.length (l.flatMap enc) hown
      ad m.length c (m.flatMap enc) (fM henc m) hcells (DI h1 m) hlen2 hlen hB
    refine⟨v',w',hrun,?_,(Below.refl _ _).grown h3 hB (fun k hk=>(World.ownsRow.lt hown k hk).1)⟩;unfold aD;rw[length_append,List.flatMap_append];exact h2
 obtain⟨v',w',hrun,hO,hb⟩:=key;obtain⟨A',c',e,_⟩:=hO.form;rw[length_append]at e;subst e;unfold Oper.wp execOp;simp only[ho,resolve,invoke,builtin,Sem.run_bind,Sem.run_pure,Result.andThen_ok,List.map_toArray,List.map_cons,map_nil,hs,hx,hrun];exact h A' c' w' hO hb
end
theorem DC (u1 u2 u3 u4 u5:Value) (x:Fl) (s p r:Int) (l:List Ac) (w:World) (h1:Rd 1 bH w u1 x.1) (h2:Rd 3 aT w u2 x.2.1) (h3:Rd 3 aT w u3 x.2.2.1) (h4:Rd 2 bV w u4 x.2.2.2) (h5:Rd 3 (RE tZ) w u5 l) (hs:dA x) (ht:Tab w):
 Calls prog 15 #[.agg #[u1,u2,u3,u4,.int .i64 s,.int .i64 p,.int .i64 r],u5] w (J4 (qR (x,s,p,r) l) w):=by
 have HTB:=Qk ht;clear ht;obtain⟨A5,c5,rfl,hc5,hm5⟩:=h5.form;obtain⟨R,hR0⟩:=Qi (qR (x,s,p,r) l);obtain⟨kk,hkk⟩:=Qi (aY (x,s,p,r))
 have hno : kk = false ∨ ¬ l.length <= 40 -> R = ((x, s, p, r), []) := fun h => by
  rw[hR0];unfold qR;rw[<-hkk,if_neg];rcases h with h|h
  . rw[h];exact fun e=>absurd e.1 (by decide)
  . exact fun e=>h e.2
 have hyes:kk=true->l.length<=40->goR (x,s,p,r) [] l=R:=fun h h'=>by rw[hR0];unfold qR;rw[<-hkk,if_pos ⟨h,h'⟩]
 rw[<-hR0];have CK:∀w,R4 w u1 u2 u3 u4 x->Calls prog 16 #[.agg #[u1,u2,u3,u4,.int .i64 s,.int .i64 p,.int .i64 r]] w (Ret (.bool kk) w):=fun w h=>by rw[hkk];exact iI _ _ _ _ (x,s,p,r) w h.a h.b h.c h.d hs.2.1
 have CC:∀w,R4 w u1 u2 u3 u4 x->Calls prog 62 #[.agg #[u1,u2,u3,u4,.int .i64 s,.int .i64 p,.int .i64 r]] w (JG (fun v=>v) (x,s,p,r) w):=fun w h=>(kM _ _ _ _ x s p r w h.a h.b h.c h.d hs).mono fun _ _=>NN
 have HN:=Qk hno;have HY:=Qk hyes;have hR:R4 w u1 u2 u3 u4 x:=⟨h1,h2,h3,h4⟩;clear hR0 hkk hno hyes h1 h2 h3 h4
 have D0:DB w ((w.alloc (.cells #[u1,u2,u3,u4,.int .i64 s,.int .i64 p,.int .i64 r] 32)).alloc (.cells #[.slice none 0 0,.slice none 0 0,.slice none 0 0,.slice none 0 0,.int .i64 0,.int .i64 0,.int .i64 0] 32)) w.heap.size (w.heap.size+1) #[u1,u2,u3,u4,.int .i64 s,.int .i64 p,.int .i64 r] #[.slice none 0 0,.slice none 0 0,.slice none 0 0,.slice none 0 0,.int .i64 0,.int .i64 0,.int .i64 0]:=
  ⟨((Below.refl w.heap.size w).al _).al _,(Blk.aZ w _ _).alloc _,Blk.iC (w.alloc _) _ _ (w.heap.size+1) (by simp)⟩
 go_enter Tryz.func15,Tryz.ntmps15
 go_wp2_with fail
 obtain⟨W0,hW0⟩:=Qi ((w.alloc (.cells #[u1,u2,u3,u4,.int .i64 s,.int .i64 p,.int .i64 r] 32)).alloc (.cells #[.slice none 0 0,.slice none 0 0,.slice none 0 0,.slice none 0 0,.int .i64 0,.int .i64 0,.int .i64 0] 32));obtain⟨gP,hgP⟩:=Qi w.heap.size;obtain⟨gR,hgR'⟩:=Qi (w.heap.size+1);rw[<-hW0,<-hgR',<-hgP]at D0;rw[<-hW0,<-hgR',<-hgP];have hgR:w.heap.size<=gR:=(by omega);have hgPR:gP≠gR:=(by omega);clear hW0 hgP hgR';refine(CC _ (hR.bl D0.B)).mono ?_;rintro e w3 ⟨C1,C2,C3,C4,rfl,oO,hb3⟩;have D3:=D0.bl hb3;have oO:=oO.mono D0.B.size;clear D0 hb3;go_upto_region 2 with(refine aA rfl 32 _ _ rfl w3.heap.size #[C1,C2,C3,C4,.int .i64 s,.int .i64 p,.int .i64 r] rfl rfl _ _ (Blk.aZ w3 32 #[.slice none 0 0,.slice none 0 0,.slice none 0 0,.slice none 0 0,.int .i64 0,.int .i64 0,.int .i64 0]) (by kernel_rfl) rfl (lN oO.one) ?_;intro w0 bN0 hg4;have D0:=D3.alg hg4;have oO:=aC.alg oO (by decide) (by decide) (by decide) hg4)
 obtain⟨gN,hgN'⟩:=Qi w3.heap.size;have hPN:gP≠gN:=by have:=D3.p.lt;omega
 have hRN:gR≠gN:=by have:=D3.r.lt;omega
 have hgN:w.heap.size<=gN:=by have:=D3.B.size;omega
 rw[<-hgN']at bN0⊢;clear hgN' hg4 D3;obtain⟨y_0,y_1,y_2,y_3,y_4,y_5,y_6⟩:=D0.p.n7;go_wp2_with fail
 refine(CK _ (hR.bl D0.B)).mono ?_;rintro e w1 ⟨rfl,hb1⟩;have D1:=D0.bl hb1;have bN1:=bN0.bl hb1;have oO1:=oO.below hb1;clear D0 bN0 oO hb1 y_0 y_1 y_2 y_3 y_4 y_5 y_6;cases kk
 . obtain rfl := HN.out (.inl (by first | rfl | trivial));obtain⟨y_0,y_1,y_2,y_3,y_4,y_5,y_6⟩:=bN1.n7;go_wp2_with (refine aA rfl 32 _ _ rfl gR #[C1,C2,C3,C4,.int .i64 s,.int .i64 p,.int .i64 r] rfl rfl _ _ D1.r (by kernel_rfl) rfl (lN oO1.one) ?_;intro wE bE hgE)
   have oE:=aC.dB oO1 D1.r (by decide) (by decide) (by decide) hgE;have BE:=D1.B.grown hgE D1.B.size (fun k hk=>by injection hk with hk;subst hk;exact hgR);obtain⟨q_0,q_1,q_2,q_3,q_4,q_5,q_6⟩:=bE.n7;refine bodyPost_ret (v:= .tuple #[.agg #[C1,C2,C3,C4,.int .i64 s,.int .i64 p,.int .i64 r],.slice none 0 0]) (by simp[results,results15,go_sem,q_0,q_1,q_2,q_3,q_4,q_5,q_6]) rfl ⟨_,_,_,_,_,_,rfl,oE,vQ _,fun g q e=>by simp[Value.ownBlock]at e,BE⟩
 . by_cases h40:l.length<=40
   . have h40' : decide ((40 : Int) < (l.length : Int)) = false := decide_eq_false (by omega);have hy:=HY.out (by first|rfl|trivial) h40;have HG:=Qk hy;clear hy;go_wp2;go_loopw [7,26] (fun s7 s26 wr=>∃(k:Nat) (x2:Fl) (s2 p2 r2:Int) (ns:List Int) (A7:Option Addr) (c7:Nat) (V1 V2 V3 V4:Value),k<=l.length/\s26= .int .i64 k/\s7= .slice A7 ns.length c7/\Hid (goR (x2,s2,p2,r2) ns (l.drop k)=R)/\Hid (dA x2)/\Hid (ns.length=k)/\DB w wr gP gR #[u1,u2,u3,u4,.int .i64 s,.int .i64 p,.int .i64 r] #[.slice none 0 0,.slice none 0 0,.slice none 0 0,.slice none 0 0,.int .i64 0,.int .i64 0,.int .i64 0]/\Blk wr gN 32 #[V1,V2,V3,V4,.int .i64 s2,.int .i64 p2,.int .i64 r2]/\aC w.heap.size wr V1 V2 V3 V4 x2/\aD 3 1 aX w.heap.size wr (.slice A7 ns.length c7) ns/\∀g,V1.ownBlock=some g->(Value.slice A7 ns.length c7).ownBlock≠some g) (fun _ i _=>l.length-(intOf i).toNat)
     case atStart=>exact⟨0,x,s,p,r,[],_,_,_,_,_,_,Nat.zero_le _,rfl,rfl,Qk HG.out,Qk hs,Qk rfl,D1.al _,bN1.alloc _,oO1.alloc _,fK w1 _ rfl _ D1.B.size,fun g q e=>by have:=(oO1.lt (.inl q)).2;simp[Value.ownBlock]at e;omega⟩
     case round=>
      obtain⟨k,x2,s2,p2,r2,ns,A7,c7,V1,V2,V3,V4,hk,rfl,rfl,Hg,Hs2,Hn,D,bN,oW,oS,ap⟩:=hrel;clear D1 bN1 oO1;by_cases hlt:k<l.length
      . skip;obtain⟨b,off,rfl,hb,k0,k1,k2⟩:=(h5.Qj D.B).Pk hlt;have hg:=Hg.out;rw[Nc hlt]at hg;have hsm:=Ff (y:=(x2,s2,p2,r2)) l[k] Hs2.out;obtain⟨⟨ka,kb,kc⟩,hx⟩:∃x,x=l[k]:=⟨_,rfl⟩;rw[<-hx]at k0 k1 k2 hg hsm;simp only at k0 k1 k2;obtain⟨⟨z,zs,zp,zr⟩,hz⟩:∃z,z=wY (x2,s2,p2,r2) (ka,kb,kc):=⟨_,rfl⟩;obtain⟨m,hm⟩:=Qi (AL (x2,s2,p2,r2) (ka,kb,kc));rw[<-hz,<-hm]at hg;rw[<-hz]at hsm;have Hg2:=Qk hg;have HSm:=Qk hsm;have HZ:=Qk hz;have HM:=Qk hm;have hn40:ns.length<40:=by have:=Hn.out;omega
        have H8:Hid ((ns.length+1)*8<=140737488355328):=Qk (by omega);have HX:Hid (ns.length+1<=maxLen):=Qk (by unfold maxLen;omega);clear hg hsm hx hz hm;obtain⟨y_0,y_1,y_2,y_3,y_4,y_5,y_6⟩:=bN.n7;have hNl:=bN.lt;go_wp2_with fail
        refine(JH _ _ _ _ x2 s2 p2 r2 ka kb kc _ (oW.alloc _).ra (oW.alloc _).rb (oW.alloc _).rc (oW.alloc _).rd Hs2.out (HTB.out.below (D.B.al _))).mono ?_;rw[<-HZ.out,<-HM.out];rintro e w4 ⟨E1,E2,E3,E4,rfl,oT,hb4⟩;have D4:=(D.al _).bl hb4;have bN4:=(bN.alloc _).bl hb4;have oS4:=(oS.alloc _).below hb4;have ap4:=oT.newer (oS.alloc _) (Nat.le_refl _);have oT:=oT.mono (D.B.al _).size;clear y_0 y_1 y_2 y_3 y_4 y_5 y_6 hb4 D bN oW oS ap k0 k1 k2 hb;have hNl:=bN4.lt;go_upto_region 9 with(refine aA rfl 32 _ _ rfl w4.heap.size #[E1,E2,E3,E4,.int .i64 zs,.int .i64 zp,.int .i64 zr] rfl rfl _ _ (Blk.aZ w4 32 #[.slice none 0 0,.slice none 0 0,.slice none 0 0,.slice none 0 0,.int .i64 0,.int .i64 0,.int .i64 0]) (by kernel_rfl) rfl (lN oT.one) ?_;intro w5 bM5 hg5)
        have D5:=D4.alg hg5;have bN5:=(bN4.alloc _).grown hg5 (by simp;omega);have oT5:=aC.alg oT (by decide) (by decide) (by decide) hg5;have oS5:=oS4.Qd (by decide) hg5;clear D4 bN4 oT oS4 hg5;obtain⟨y_0,y_1,y_2,y_3,y_4,y_5,y_6⟩:=bM5.n7;go_upto_region 10 with(refine aA rfl 32 _ _ rfl gN #[E1,E2,E3,E4,.int .i64 zs,.int .i64 zp,.int .i64 zr] rfl rfl _ _ bN5 (by kernel_rfl) rfl (lN oT5.one) ?_;intro w6 bN6 hg6)
        have D6:=D5.gr hg6 hgN hPN hRN;have oT6:=aC.dB oT5 bN5 (by decide) (by decide) (by decide) hg6;have oS6:=aD.uG oS5 bN5 (by decide) hg6;clear D5 bN5 oT5 oS5 hg6 y_0 y_1 y_2 y_3 y_4 y_5 y_6 bM5;go_wp2_with (at_builtin;go_must (refine aF (enc:=aX) eB aI iJ D6.B oS6 (m:Int) H8.out HX.out rfl _ _ rfl rfl rfl ?_);intro v7 w7 own7 hb7 hg7 hd7;obtain⟨A8,c8,rfl,hc8,hm8⟩:=own7.form)
        go_roundw
        case rel=>exact⟨k+1,z,zs,zp,zr,ns++[m],A8,c8,E1,E2,E3,E4,by omega,by go_num,by rw[length_append,length_singleton],Hg2,HSm,Qk (by rw[length_append,length_singleton,Hn.out]),D6.app oS6 hg7 hb7,(bN6.alloc _).grown hg7 (fun e=>oS6.apart bN6 (by decide) e.symm),oT6.Qf oS6 ap4 hg7,own7,PO oT6 ap4 hd7 (by omega)⟩
        case measure=>simp[intOf];omega
      . obtain rfl : k = l.length := by omega
        have hg:=Hg.out;rw[OU]at hg;subst hg;obtain⟨y_0,y_1,y_2,y_3,y_4,y_5,y_6⟩:=bN.n7;go_wp2_with (refine aA rfl 32 _ _ rfl gR #[V1,V2,V3,V4,.int .i64 s2,.int .i64 p2,.int .i64 r2] rfl rfl _ _ D.r (by kernel_rfl) rfl (lN oW.one) ?_;intro wE bE hgE)
        have oE:=aC.dB oW D.r (by decide) (by decide) (by decide) hgE;have oL:=aD.uG oS D.r (by decide) hgE;have BE:=D.B.grown hgE D.B.size (fun k hk=>by injection hk with hk;subst hk;exact hgR);obtain⟨q_0,q_1,q_2,q_3,q_4,q_5,q_6⟩:=bE.n7;refine bodyPost_ret (v:= .tuple #[.agg #[V1,V2,V3,V4,.int .i64 s2,.int .i64 p2,.int .i64 r2],.slice A7 ns.length c7]) (by simp[results,results15,go_sem,q_0,q_1,q_2,q_3,q_4,q_5,q_6]) rfl ⟨_,_,_,_,_,_,rfl,oE,oL,ap,BE⟩
   . have h40' : decide ((40 : Int) < (l.length : Int)) = true := decide_eq_true (by omega);obtain rfl:=HN.out (.inr h40);obtain⟨y_0,y_1,y_2,y_3,y_4,y_5,y_6⟩:=bN1.n7;go_wp2_with (refine aA rfl 32 _ _ rfl gR #[C1,C2,C3,C4,.int .i64 s,.int .i64 p,.int .i64 r] rfl rfl _ _ D1.r (by kernel_rfl) rfl (lN oO1.one) ?_;intro wE bE hgE)
     have oE:=aC.dB oO1 D1.r (by decide) (by decide) (by decide) hgE;have BE:=D1.B.grown hgE D1.B.size (fun k hk=>by injection hk with hk;subst hk;exact hgR);obtain⟨q_0,q_1,q_2,q_3,q_4,q_5,q_6⟩:=bE.n7;refine bodyPost_ret (v:= .tuple #[.agg #[C1,C2,C3,C4,.int .i64 s,.int .i64 p,.int .i64 r],.slice none 0 0]) (by simp[results,results15,go_sem,q_0,q_1,q_2,q_3,q_4,q_5,q_6]) rfl ⟨_,_,_,_,_,_,rfl,oE,vQ _,fun g q e=>by simp[Value.ownBlock]at e,BE⟩
end Go.Proofs.YtljfoohaapckeaaGreatDoor
