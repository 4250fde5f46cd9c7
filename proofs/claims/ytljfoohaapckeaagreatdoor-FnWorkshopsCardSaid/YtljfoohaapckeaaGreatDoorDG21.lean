/- A region with 1 to 60 tilings, drawn. No conditions but sizes. Floors copied, by the reference and by the program: the walks. Conditions: sizes. -/
import Derived.Test.YtljfoohaapckeaaGreatDoorDDrawH
import Derived.Test.YtljfoohaapckeaaGreatDoorDListS
import Derived.Test.YtljfoohaapckeaaGreatDoorDG6
open _root_.Go.Proofs.Tryz (prog results129)
namespace Go.Proofs.YtljfoohaapckeaaGreatDoor
open Go.ChangeShapes Go.WideShapes Go.ChangeAt Go.RowKit
set_option linter.unusedVariables false
set_option linter.unusedSimpArgs false
set_option maxHeartbeats 4000000
set_option maxRecDepth 100000
def R12 (rows:List Int):Prop:=dJ rows/\1<=bG rows/\bG rows<=60/\xD rows
def MV (W:World) (g:Nat) (u:Value) (n:Nat) (w:World) (e:Ending) (w':World):Prop:=∃(rows:List Int) (A:Option Addr) (c:Nat),e= .returned (.agg #[.slice A rows.length c])/\aC 3 1 aY w.heap.size w' (.slice A rows.length c) rows/\R12 rows/\DS W w w' g u n
theorem Lf:R12 (bZ 4 3):=by
 have hr:dJ (bZ 4 3):=by
  refine⟨by simp[bZ],fun r hr=> ?_⟩;unfold bZ at hr;rw[(List.mem_replicate.1 hr).2];omega
 have h:1<=(gV (setOf (bZ 4 3))).length/\(gV (setOf (bZ 4 3))).length<=60:=by decide+kernel
 have e:bG (bZ 4 3)=((gV (setOf (bZ 4 3))).length:Nat):=by
  unfold bG;rw[if_pos (aN.2 hr),uL (dX hr)]
 exact⟨hr,by omega,by omega,uM (by decide)⟩
theorem Bu {x:Int} (h:0<=x/\x<=255):IntKind.u8.wrap x=x:=by
 unfold IntKind.wrap;simp[IntKind.bits,IntKind.signed];omega
theorem Io (w:World) (a b c d:Int):aC 5 1 KG w.heap.size (w.alloc (.cells #[.int .u8 a,.int .u8 b,.int .u8 c,.int .u8 d] 5)) (.slice (some ⟨w.heap.size,0,none⟩) 4 4) [a,b,c,d]:=
 ⟨by simp[KG],.inr ⟨w.heap.size,4,#[.int .u8 a,.int .u8 b,.int .u8 c,.int .u8 d],rfl,Nat.le_refl _,heap_alloc_new w _,by simp,by simp[maxLen],by simp,by simp[KG]⟩⟩
theorem EM (W : World) (g : Nat) (v : Value) (l : List Int) (w : World) (h : Rd 1 mM W v l) (Hok : Hid (mO (fun x => 0 <= x /\ x <= 255) l)) (hg : W.heap.size <= g) (hbel : Below W.heap.size W w) (hcur : Cur w g v l.length) :
 Calls prog 129 #[.pointer (some ⟨g,0,none⟩)] w (MV W g v l.length w):=by
 have hW:=hbel.size;have hX:=Blk.bK w 26 #[.slice none 0 0];have D:=(DS.refl hcur hbel).al (.cells #[.slice none 0 0] 26);go_enter Tryz.func129,Tryz.ntmps129
 obtain⟨gX,hgX'⟩:=Oy w.heap.size;have HgX:=OA hgX';rw[<-hgX']at hX;have hgX:w.heap.size<=gX:=(by omega);have hne:=(D.cur.ne hX (by decide)).symm;go_wp2_with fail
 clear hgX';go_loopw [3] (fun s3 wr=>∃k:Nat,k<=6/\s3= .int .i64 k/\Blk wr gX 26 #[.slice none 0 0]/\DS W w wr g v l.length) (fun i _=>6-(intOf i).toNat)
 case atStart=>exact⟨0,by omega,rfl,hX,D⟩
 case round=>
  obtain⟨k,hk,rfl,hX0,D0⟩:=hrel;clear hX D;by_cases hlt:k<6
  . have hkI : decide ((k : Int) < 6) = true := decide_eq_true (by omega);go_wp2_with fail
    refine(rG W g v l _ h Hok hg D0.B D0.cur).mono ?_;rintro e w1 ⟨rows,A,c,rfl,own,h1,h5,hr,cur1,B1,k1⟩;have g1:=Jw D0.B B1 k1;have hXb:=hX0.ds D0.cur g1 (by decide);have hlt1:=hXb.lt;have hX1:=hXb.alloc (.cells #[.slice A rows.length c] 26);have D1:=(D0.dr cur1 B1 g1).al (.cells #[.slice A rows.length c] 26);have own1:=(own.mono (B':=w.heap.size) D0.gr.size).alloc (.cells #[.slice A rows.length c] 26);have bY1:=Blk.bK w1 26 #[.slice A rows.length c];clear own cur1 B1 k1 g1 hX0 D0 hXb;go_wp2_with fail
    refine(Cm 4 W g v l _ h Hok hg D1.B D1.cur (by decide)).mono ?_;rintro e w2 ⟨yes,rfl,c2,B2,g2⟩;have hX2:=hX1.ds D1.cur g2 (by decide);have own2:=own1.cur D1.cur (by decide) g2;have bY2:=bY1.ds D1.cur g2 (by decide);have D2:=D1.dr c2 B2 g2;clear hX1 own1 bY1 D1 c2 B2 g2;have Hl:=OA (uM h5);rcases yes with _|_
    . skip;have zy:=bY2.c1;obtain⟨o,ho⟩:=Oy (aZ rows);have CO:∀(u:Value) (w:World),Rd 1 bH w u rows->Calls prog 163 #[.agg #[u]] w (Ret (.bool o) w):=fun u w k1=>by rw[ho];exact dK u rows w k1
      go_wp2_with fail
      refine(CO _ _ (own2.rd aL (by decide))).mono ?_;rintro e w7 ⟨rfl,hb7⟩;have hX7:=hX2.bl hb7;have own7:=own2.below hb7;have D7:=D2.bl hb7;have bY7:=bY2.bl hb7;clear zy;have zy:=bY7.c1;cases o
      . clear ho CO;go_wp2;go_roundw
        case rel=>exact⟨k+1,by omega,by go_num,hX7,D7⟩
        case measure=>simp[intOf];omega
      . have hok:=aN.1 ho.symm;obtain⟨n,hn⟩:=Oy (gU (setOf rows));have CC:∀(u:Value) (w:World),Rd 1 bH w u rows->Calls prog 182 #[.agg #[u]] w (Ret (.int .i64 n) w):=fun u w k1=>by rw[hn];exact rM u rows w k1 (OA hok)
        obtain⟨i,hi⟩:=Oy (inB n 1 60);have CI:∀(w:World),Calls prog 73 #[.int .i64 n,.int .i64 1,.int .i64 60] w (Pure (.bool i) w):=fun w=>by rw[hi];exact iI n 1 60 w
        have HF : Hid (i = true -> R12 rows) := OA fun q => by
         rw[hi]at q;have h1:1<=n/\n<=60:=(by simpa[inB]using q);have:bG rows=n:=by unfold bG;rw[if_pos (aN.2 hok),hn]
         exact⟨hok,by omega,by omega,Hl.out⟩
        clear hn hi hok ho CO;go_wp2_with fail
        refine(CC _ _ (own7.rd aL (by decide))).mono ?_;rintro e w8 ⟨rfl,hb8⟩;have hX8:=hX7.bl hb8;have own8:=own7.below hb8;have D8:=D7.bl hb8;have bY8:=bY7.bl hb8;clear zy hX7 own7 D7 bY7 hb8;have zy:=bY8.c1;cases i
        . go_wp2_with (go_at_call 73;(with_reducible refine(CI _).mono ?_);rintro e w' ⟨rfl,rfl⟩)
          go_roundw
          case rel=>exact⟨k+1,by omega,by go_num,hX8,D8⟩
          case measure=>simp[intOf];omega
        . have hX:=hX8;go_wp2_with (first|(go_at_call 73;(with_reducible refine(CI _).mono ?_);rintro e w' ⟨rfl,rfl⟩)|(rw[<-HgX.out];refine aA rfl 26 _ _ rfl gX #[.slice A rows.length c] rfl rfl _ _ hX (by kernel_rfl) rfl (by simp[Value.oneCell']) ?_;intro wE bE hgE))
          have oE:=aC.DY own8 hX (by decide) hgE;have qE:=bE.c1;refine bodyPost_ret (v:= .agg #[.slice A rows.length c]) (by simp[results,results129,go_sem,qE]) rfl ⟨_,_,_,rfl,oE,(by first|exact HF.out rfl|exact HF.out trivial),D8.st hgE hgX hW hne⟩
    . go_wp2_with fail
      refine(aQ 256 W g v l _ h Hok hg D2.B D2.cur (by decide)).mono ?_;rintro e w3 ⟨x0,rfl,hx0,c3,B3,g3⟩;have hX3:=hX2.ds D2.cur g3 (by decide);have bY3:=bY2.ds D2.cur g3 (by decide);have D3:=D2.dr c3 B3 g3;clear hX2 bY2 D2 c3 B3 g3 own2;go_wp2_with fail
      refine(aQ 256 W g v l _ h Hok hg D3.B D3.cur (by decide)).mono ?_;rintro e w4 ⟨x1,rfl,hx1,c4,B4,g4⟩;have hX4:=hX3.ds D3.cur g4 (by decide);have bY4:=bY3.ds D3.cur g4 (by decide);have D4:=D3.dr c4 B4 g4;clear hX3 bY3 D3 c4 B4 g4;go_wp2_with fail
      refine(aQ 256 W g v l _ h Hok hg D4.B D4.cur (by decide)).mono ?_;rintro e w5 ⟨x2,rfl,hx2,c5,B5,g5⟩;have hX5:=hX4.ds D4.cur g5 (by decide);have bY5:=bY4.ds D4.cur g5 (by decide);have D5:=D4.dr c5 B5 g5;clear hX4 bY4 D4 c5 B5 g5;go_wp2_with fail
      refine(aQ 256 W g v l _ h Hok hg D5.B D5.cur (by decide)).mono ?_;rintro e w6 ⟨x3,rfl,hx3,c6,B6,g6⟩;have hX6:=hX5.ds D5.cur g6 (by decide);have bY6:=bY5.ds D5.cur g6 (by decide);have D6:=D5.dr c6 B6 g6;clear hX5 bY5 D5 c6 B6 g6;have y0:0<=x0/\x0<=255:=by unfold dR at hx0;omega
      have y1:0<=x1/\x1<=255:=by unfold dR at hx1;omega
      have y2:0<=x2/\x2<=255:=by unfold dR at hx2;omega
      have y3:0<=x3/\x3<=255:=by unfold dR at hx3;omega
      have v0:=Bu y0;have v1:=Bu y1;have v2:=Bu y2;have v3:=Bu y3;clear hx0 hx1 hx2 hx3;have m0:x0%256=x0:=(by omega);have m1:x1%256=x1:=(by omega);have m2:x2%256=x2:=(by omega);have own6:=Io w6 x0 x1 x2 x3
      have ok6 : mO (fun x => 0 <= x /\ x <= 255) [x0, x1, x2, x3] := fun x hx => by
       simp at hx;omega
      go_wp2_with fail
      refine(De _ [x0,x1,x2,x3] _ (own6.rd (fun _=>rfl) (by decide)) ok6 (by simp)).mono ?_;rintro e w9 ⟨rows9,A9,c9,rfl,own9,Hl9,hb9⟩;have D9:=(D6.al (.cells #[.int .u8 x0,.int .u8 x1,.int .u8 x2,.int .u8 x3] 5)).bl hb9;have hX9:=(hX6.alloc (.cells #[.int .u8 x0,.int .u8 x1,.int .u8 x2,.int .u8 x3] 5)).bl hb9;have bY9:=(bY6.alloc (.cells #[.int .u8 x0,.int .u8 x1,.int .u8 x2,.int .u8 x3] 5)).bl hb9;have own9:=own9.mono (B':=w.heap.size) (Nat.le_trans D6.gr.size (by simp));clear own6 ok6 hb9 hX6 bY6 D6 m0 m1 m2 v0 v1 v2 v3;have zy:=bY9.c1;have zf:=bY9.frozen 0;have hneY:=D9.cur.ne bY9 (by decide);have gRR:=dI (World.grownBy.refl w9 (some w1.heap.size)) 0 (.slice A9 rows9.length c9);have D:=D9.st gRR (by omega) hW hneY.symm;have bY:=bY9.st 0 (.slice A9 rows9.length c9) _ rfl;have own:=aC.DY own9 bY9 (by decide) gRR;have hX:=hX9.grown gRR (by simp;omega);go_upto_region 7 with(fail)
      obtain⟨wE,hwE⟩:=Oy (w9.setCell ⟨w1.heap.size,0,none⟩ (.slice A9 rows9.length c9));rw[<-hwE]at D own hX bY⊢;clear hwE gRR zy zf D9 bY9 own9 hX9 hneY;have zy:=bY.c1;obtain⟨o,ho⟩:=Oy (aZ rows9);have CO:∀(u:Value) (w:World),Rd 1 bH w u rows9->Calls prog 163 #[.agg #[u]] w (Ret (.bool o) w):=fun u w k1=>by rw[ho];exact dK u rows9 w k1
      go_wp2_with fail
      refine(CO _ _ (own.rd aL (by decide))).mono ?_;rintro e w7 ⟨rfl,hb7⟩;have hX7:=hX.bl hb7;have own7:=own.below hb7;have D7:=D.bl hb7;have bY7:=bY.bl hb7;clear zy;have zy:=bY7.c1;cases o
      . clear ho CO;go_wp2;go_roundw
        case rel=>exact⟨k+1,by omega,by go_num,hX7,D7⟩
        case measure=>simp[intOf];omega
      . have hok:=aN.1 ho.symm;obtain⟨n,hn⟩:=Oy (gU (setOf rows9));have CC:∀(u:Value) (w:World),Rd 1 bH w u rows9->Calls prog 182 #[.agg #[u]] w (Ret (.int .i64 n) w):=fun u w k1=>by rw[hn];exact rM u rows9 w k1 (OA hok)
        obtain⟨i,hi⟩:=Oy (inB n 1 60);have CI:∀(w:World),Calls prog 73 #[.int .i64 n,.int .i64 1,.int .i64 60] w (Pure (.bool i) w):=fun w=>by rw[hi];exact iI n 1 60 w
        have HF : Hid (i = true -> R12 rows9) := OA fun q => by
         rw[hi]at q;have h1:1<=n/\n<=60:=(by simpa[inB]using q);have:bG rows9=n:=by unfold bG;rw[if_pos (aN.2 hok),hn]
         exact⟨hok,by omega,by omega,Hl9⟩
        clear hn hi hok ho CO;go_wp2_with fail
        refine(CC _ _ (own7.rd aL (by decide))).mono ?_;rintro e w8 ⟨rfl,hb8⟩;have hX8:=hX7.bl hb8;have own8:=own7.below hb8;have D8:=D7.bl hb8;have bY8:=bY7.bl hb8;clear zy hX7 own7 D7 bY7 hb8;have zy:=bY8.c1;cases i
        . go_wp2_with (go_at_call 73;(with_reducible refine(CI _).mono ?_);rintro e w' ⟨rfl,rfl⟩)
          go_roundw
          case rel=>exact⟨k+1,by omega,by go_num,hX8,D8⟩
          case measure=>simp[intOf];omega
        . have hX:=hX8;go_wp2_with (first|(go_at_call 73;(with_reducible refine(CI _).mono ?_);rintro e w' ⟨rfl,rfl⟩)|(rw[<-HgX.out];refine aA rfl 26 _ _ rfl gX #[.slice A9 rows9.length c9] rfl rfl _ _ hX (by kernel_rfl) rfl (by simp[Value.oneCell']) ?_;intro wE bE hgE))
          have oE:=aC.DY own8 hX (by decide) hgE;have qE:=bE.c1;refine bodyPost_ret (v:= .agg #[.slice A9 rows9.length c9]) (by simp[results,results129,go_sem,qE]) rfl ⟨_,_,_,rfl,oE,(by first|exact HF.out rfl|exact HF.out trivial),D8.st hgE hgX hW hne⟩
  . obtain rfl : k = 6 := by omega
    go_wp2_with fail
    refine(yD 4 3 _ ⟨by decide,by decide⟩ ⟨by decide,by decide⟩).mono ?_;rintro e w1 ⟨A,c,rfl,own,hb1⟩;have hrl:(bZ 4 3).length=3:=(by decide);have hX:=hX0.bl hb1;have D1:=D0.bl hb1;have own1:=own.mono (B':=w.heap.size) D0.gr.size;have HR:=OA Lf;obtain⟨rows,hrows⟩:=Oy (bZ 4 3);rw[<-hrows]at own1 HR⊢;clear hrows hrl own hb1;rw[<-HgX.out];have zR:=hX.c1;go_wp2_with (refine aA rfl 26 _ _ rfl gX #[.slice A rows.length c] rfl rfl _ _ hX (by kernel_rfl) rfl (by simp[Value.oneCell']) ?_;intro wE bE hgE)
    have oE:=aC.DY own1 hX (by decide) hgE;have qE:=bE.c1;refine bodyPost_ret (v:= .agg #[.slice A rows.length c]) (by simp[results,results129,go_sem,qE]) rfl ⟨_,_,_,rfl,oE,HR.out,D1.st hgE hgX hW hne⟩
theorem aD.row {B g:Nat} {w w':World} {v1 v2 v3 v4:Value} {x:Fl} {t:TypeId} {cs:Array Value} (h:aD B w v1 v2 v3 v4 x) (hb:Blk w g t cs) (h1:3≠t) (h2:60≠t) (h3:70≠t) (hg:w.grownBy w' (some g)):aD B w' v1 v2 v3 v4 x:=
 h.nC (S:=fun k=>k=g) ⟨hg.os,hg.tape,hg.output,hg.size,fun k hk hs=>hg.block k hk (fun e=>hs (by injection e))⟩ (fun k hk e=>h.apart hb h1 h2 h3 (e▸hk))
theorem oK (v1 v2 v3 v4:Value) (x:Fl) (w:World) (h1:Rd 1 bH w v1 x.1) (h2:Rd 3 aU w v2 x.2.1) (h3:Rd 3 aU w v3 x.2.2.1) (h4:Rd 2 bT w v4 x.2.2.2) (hs:dZ x):Calls prog 151 #[.agg #[v1,v2,v3,v4]] w (wW x w):=by
 obtain⟨rows,f,n,cs⟩:=x;simp only at h1 h2 h3 h4;obtain⟨s1,s2,s3,s4⟩:=hs;simp only at s1 s2 s3 s4;obtain⟨A1,c1,rfl,hc1,hm1⟩:=h1.form;obtain⟨A2,c2,rfl,hc2,hm2⟩:=h2.form;obtain⟨A3,c3,rfl,hc3,hm3⟩:=h3.form;obtain⟨A4,c4,rfl,hc4,hm4⟩:=h4.form;have B0:=((Below.refl w.heap.size w).al (.cells #[.slice A1 rows.length c1,.slice A2 f.length c2,.slice A3 n.length c3,.slice A4 cs.length c4] 30)).al (.cells #[.slice none 0 0,.slice none 0 0,.slice none 0 0,.slice none 0 0] 30);have bP:=(Blk.bK w 30 #[.slice A1 rows.length c1,.slice A2 f.length c2,.slice A3 n.length c3,.slice A4 cs.length c4]).alloc (.cells #[.slice none 0 0,.slice none 0 0,.slice none 0 0,.slice none 0 0] 30);have bR:=Blk.iV (w.alloc (.cells #[.slice A1 rows.length c1,.slice A2 f.length c2,.slice A3 n.length c3,.slice A4 cs.length c4] 30)) 30 #[.slice none 0 0,.slice none 0 0,.slice none 0 0,.slice none 0 0] (w.heap.size+1) (by simp);have H2:Hid (f.length*24<=140737488355328):=OA (by unfold Small at s2;omega);have H3:Hid (n.length*24<=140737488355328):=OA (by unfold Small at s3;omega);have H4:Hid (cs.length*16<=140737488355328):=OA (by unfold Small at s4;omega);have M2:=OA s2.max;have M3:=OA s3.max;have M4:=OA s4.max;go_enter Tryz.func151,Tryz.ntmps151
 go_wp2_with fail
 obtain⟨W0,hW0⟩:=Oy ((w.alloc (.cells #[.slice A1 rows.length c1,.slice A2 f.length c2,.slice A3 n.length c3,.slice A4 cs.length c4] 30)).alloc (.cells #[.slice none 0 0,.slice none 0 0,.slice none 0 0,.slice none 0 0] 30));obtain⟨gP,hgP⟩:=Oy w.heap.size;obtain⟨gR,hgR'⟩:=Oy (w.heap.size+1);rw[<-hW0]at B0 bP bR⊢;rw[<-hgR']at bR⊢;rw[<-hgP]at bP⊢;have hgR:w.heap.size<=gR:=(by omega);have hPR:gP≠gR:=(by omega);have hw0:w.heap.size<=W0.heap.size:=B0.size;clear hW0 hgP hgR';obtain⟨z_0,z_1,z_2,z_3⟩:=bP.n4;have hp0:=bP.lt;have hr0:=bR.lt;have Bw:Below W0.heap.size W0 W0.drew:=(Below.refl _ _).drew;have hz:W0.heap.size<=W0.drew.heap.size:=(by simp);have bR:=bR.bl Bw;refine rB (fun w'=>w'.cell? ⟨gP,0,none⟩=some (.slice A1 rows.length c1)/\w'.cell? ⟨gP,1,none⟩=some (.slice A2 f.length c2)/\w'.cell? ⟨gP,2,none⟩=some (.slice A3 n.length c3)/\w'.cell? ⟨gP,3,none⟩=some (.slice A4 cs.length c4)) fun hHeld=>?_
 repeat' (first
  |((with_reducible show AllReadyH _ _ _ _ _ _ _ _ _ _);first
  |(with_reducible exact AllReadyH.nil)
  | (refine tN 2 (fun K hK=>?_) ?_
     (go_simp;go_at_call 195;go_must (refine(uI _ rows _ (h1.Oz (B0.tr Bw)) s1).mono ?_;rintro e wX ⟨C1,e1,rfl,own1,hbX⟩;have own1:=own1.mono (show w.heap.size<=_ by omega);have hgy:=hbX.size;obtain⟨hcX,hfX,hzX⟩:=bkn hbX W0.heap.size hz;have hz:=hzX;have Bw:=Bw.tr hbX;have bR:=bR.bl hbX;(try have own1:=own1.below hbX);(try have own2:=own2.below hbX);(try have own3:=own3.below hbX);(try have own4:=own4.below hbX);(try have b3:=b3.bl hbX);(try have b7:=b7.bl hbX);(try have b11:=b11.bl hbX)))
     refine tK hK fun hHeld=>?_
     clear hK K)
  | (refine tN 3 (fun K hK=>?_) ?_
     (refine fV aI rfl rfl ?_;intro g3 wX b3 hbX hg3a hg3b hgz;have hgy:=hbX.size;obtain⟨hcX,hfX,hzX⟩:=bkn hbX W0.heap.size hz;have hz:=hzX;have Bw:=Bw.tr hbX;have bR:=bR.bl hbX;(try have own1:=own1.below hbX);(try have own2:=own2.below hbX);(try have own3:=own3.below hbX);(try have own4:=own4.below hbX);(try have b3:=b3.bl hbX);(try have b7:=b7.bl hbX);(try have b11:=b11.bl hbX))
     refine tK hK fun hHeld=>?_
     clear hK K)
  | (refine tN 6 (fun K hK=>?_) ?_
     (refine iC aI aB aM (B:=w.heap.size) b3 (by omega) (h2.Oz (B0.tr Bw)) H2.out M2.out rfl _ _ rfl rfl rfl ?_;intro C2 e2 wX own2 hbX hk2 hgz;have hgy:=hbX.size;obtain⟨hcX,hfX,hzX⟩:=bkn hbX W0.heap.size hz;have hz:=hzX;have Bw:=Bw.tr hbX;have bR:=bR.bl hbX;(try have own1:=own1.below hbX);(try have own2:=own2.below hbX);(try have own3:=own3.below hbX);(try have own4:=own4.below hbX);(try have b3:=b3.bl hbX);(try have b7:=b7.bl hbX);(try have b11:=b11.bl hbX))
     refine tK hK fun hHeld=>?_
     clear hK K)
  | (refine tN 7 (fun K hK=>?_) ?_
     (refine fV aI rfl rfl ?_;intro g7 wX b7 hbX hg7a hg7b hgz;have hgy:=hbX.size;obtain⟨hcX,hfX,hzX⟩:=bkn hbX W0.heap.size hz;have hz:=hzX;have Bw:=Bw.tr hbX;have bR:=bR.bl hbX;(try have own1:=own1.below hbX);(try have own2:=own2.below hbX);(try have own3:=own3.below hbX);(try have own4:=own4.below hbX);(try have b3:=b3.bl hbX);(try have b7:=b7.bl hbX);(try have b11:=b11.bl hbX))
     refine tK hK fun hHeld=>?_
     clear hK K)
  | (refine tN 10 (fun K hK=>?_) ?_
     (refine iC aI aB aM (B:=w.heap.size) b7 (by omega) (h3.Oz (B0.tr Bw)) H3.out M3.out rfl _ _ rfl rfl rfl ?_;intro C3 e3 wX own3 hbX hk3 hgz;have hgy:=hbX.size;obtain⟨hcX,hfX,hzX⟩:=bkn hbX W0.heap.size hz;have hz:=hzX;have Bw:=Bw.tr hbX;have bR:=bR.bl hbX;(try have own1:=own1.below hbX);(try have own2:=own2.below hbX);(try have own3:=own3.below hbX);(try have own4:=own4.below hbX);(try have b3:=b3.bl hbX);(try have b7:=b7.bl hbX);(try have b11:=b11.bl hbX))
     refine tK hK fun hHeld=>?_
     clear hK K)
  | (refine tN 11 (fun K hK=>?_) ?_
     (refine fV iY rfl rfl ?_;intro g11 wX b11 hbX hg11a hg11b hgz;have hgy:=hbX.size;obtain⟨hcX,hfX,hzX⟩:=bkn hbX W0.heap.size hz;have hz:=hzX;have Bw:=Bw.tr hbX;have bR:=bR.bl hbX;(try have own1:=own1.below hbX);(try have own2:=own2.below hbX);(try have own3:=own3.below hbX);(try have own4:=own4.below hbX);(try have b3:=b3.bl hbX);(try have b7:=b7.bl hbX);(try have b11:=b11.bl hbX))
     refine tK hK fun hHeld=>?_
     clear hK K)
  | (refine tN 14 (fun K hK=>?_) ?_
     (refine iC iY dS oneCell (B:=w.heap.size) b11 (by omega) (h4.Oz (B0.tr Bw)) H4.out M4.out rfl _ _ rfl rfl rfl ?_;intro C4 e4 wX own4 hbX hk4 hgz;have hgy:=hbX.size;obtain⟨hcX,hfX,hzX⟩:=bkn hbX W0.heap.size hz;have hz:=hzX;have Bw:=Bw.tr hbX;have bR:=bR.bl hbX;(try have own1:=own1.below hbX);(try have own2:=own2.below hbX);(try have own3:=own3.below hbX);(try have own4:=own4.below hbX);(try have b3:=b3.bl hbX);(try have b7:=b7.bl hbX);(try have b11:=b11.bl hbX))
     refine tK hK fun hHeld=>?_
     clear hK K)
  | (refine tN 16 (fun K hK=>?_) ?_
     (refine aJ rfl 30 _ _ rfl gR _ rfl rfl _ _ bR (by kernel_rfl) rfl (by simp[Value.oneCell']) ?_;intro wX bX hgX;have oF:aD w.heap.size wX _ _ _ _ (rows,f,n,cs):=aD.row ⟨own1,own2,own3,own4,fun k q2 q3=>by have e2:=hk2 k q2;have e3:=hk3 k q3;omega⟩ bR (by decide) (by decide) (by decide) hgX;have BX:=(B0.tr Bw).grown hgX (B0.tr Bw).size (fun k hk=>by injection hk with hk;subst hk;exact hgR);have bPX:=(bP.bl Bw).grown hgX (by simp;omega);obtain⟨c_0,c_1,c_2,c_3⟩:=bPX.n4;clear own1 own2 own3 own4)
     refine tK hK fun hHeld=>?_
     clear hK K)
  )
  |((with_reducible show wpAnyH _ _ _ _ _ _ _ _ _);first
  |(refine(tQ [2,3,7,11]) ?_)
  |(refine(tQ [3,7,11]) ?_)
  |(refine(tQ [6,7,11]) ?_)
  |(refine(tQ [7,11]) ?_)
  |(refine(tQ [10,11]) ?_)
  |(refine(tQ [11]) ?_)
  |(refine(tQ [14]) ?_)
  |(refine(tQ [16]) ?_)
  |(refine(tQ [10]) ?_)
  |(refine(tQ [7]) ?_)
  |(refine(tQ [6,11]) ?_)
  |(refine(tQ [6]) ?_)
  |(refine(tQ [6,7]) ?_)
  |(refine(tQ [3,11]) ?_)
  |(refine(tQ [3]) ?_)
  |(refine(tQ [3,7]) ?_)
  |(refine(tQ [2,7,11]) ?_)
  |(refine(tQ [2,11]) ?_)
  |(refine(tQ [2]) ?_)
  |(refine(tQ [2,7]) ?_)
  |(refine(tQ [2,3,11]) ?_)
  |(refine(tQ [2,3]) ?_)
  |(refine(tQ [2,3,7]) ?_)
  |(refine(tX 0) ?_)
  |(refine(tX 1) ?_)
  |(refine(tX 4) ?_)
  |(refine(tX 5) ?_)
  |(refine(tX 8) ?_)
  |(refine(tX 9) ?_)
  |(refine(tX 12) ?_)
  |(refine(tX 13) ?_)
  |(refine(tX 15) ?_)
  |(refine tE ?_)))
 all_goals (refine⟨trivial,?_⟩)
 all_goals
   go_wp2_with fail
   obtain⟨q_0,q_1,q_2,q_3⟩:=bX.n4;refine bodyPost_ret (v:= .agg #[.slice C1 rows.length e1,.slice C2 f.length e2,.slice C3 n.length e3,.slice C4 cs.length e4]) (by simp[results,Tryz.results151,go_sem,q_0,q_1,q_2,q_3]) rfl ⟨C1,e1,C2,e2,C3,e3,C4,e4,rfl,oF,BX⟩
end Go.Proofs.YtljfoohaapckeaaGreatDoor
