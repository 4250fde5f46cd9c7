/- Regions drawn with changes, and with holes. No conditions but sizes. -/
import Derived.Test.YtljfoohaapckeaaGreatDoorDG8
import Derived.Test.YtljfoohaapckeaaGreatDoorDK3
import Derived.Test.YtljfoohaapckeaaGreatDoorDFlDo1
import Derived.Test.YtljfoohaapckeaaGreatDoorDListS0
open _root_.Nat (le_trans le_refl)
open _root_.Go.Value (oneCell')
namespace Go.Proofs.YtljfoohaapckeaaGreatDoor
open Go.ChangeShapes Go.WideShapes Go.ChangeAt Go.RowKit
set_option linter.unusedVariables false
set_option linter.unusedSimpArgs false
set_option maxHeartbeats 4000000
set_option maxRecDepth 100000
def Lb (W:World) (g:Nat) (u:Value) (n:Nat) (L:List Int) (w:World) (e:Ending) (w':World):Prop:=∃x,e= .returned (.int .i64 x)/\x∈L/\DS W w w' g u n
theorem Lc (W : World) (g : Nat) (v a : Value) (l L : List Int) (B : Nat) (w : World) (h : Rd 1 mM W v l) (Hok : Hid (mO (fun x => 0 <= x /\ x <= 255) l)) (hg : W.heap.size <= g) (hbel : Below W.heap.size W w) (hcur : Cur w g v l.length)
    (own:aC 3 1 aY B w a L) (hne:L≠[]):Calls Tryz.prog 237 #[.pointer (some ⟨g,0,none⟩),a] w (Lb W g v l.length L w):=by
 have D:=DS.refl hcur hbel;obtain⟨A,c,rfl,hc,hm⟩:=own.form;go_enter Tryz.func237,Tryz.ntmps237
 go_wp2_with fail
 refine(aQ (L.length:Int) W g v l _ h Hok hg D.B D.cur (by unfold maxLen at hm;omega)).mono ?_;rintro e w1 ⟨x,rfl,hx,c1,B1,g1⟩;have own1:=own.cur D.cur (by decide) g1;have D1:=D.dr c1 B1 g1;have hL:0<L.length:=List.length_pos_iff.2 hne;have hxx:0<=x/\x<(L.length:Int):=by unfold dR at hx;omega
 obtain⟨k,rfl⟩:=Int.eq_ofNat_of_zero_le hxx.1;have hk:k<L.length:=(by omega);have hkI:(k:Int)<(L.length:Int):=(by omega);obtain⟨b,off,rfl,hb,k0⟩:=(own1.rd aL (by decide)).uE hk;obtain⟨y,hy⟩:=Oy (L[k]);rw[<-hy]at k0;have HY:=OA hy;clear hy hx hxx D c1 B1 g1;go_wp2;go_ret;exact⟨y,rfl,by rw[HY.out];exact List.getElem_mem hk,D1⟩
theorem Jw {W w w':World} {g:Nat} (hB:Below W.heap.size W w) (hB':Below W.heap.size W w') (k:jT w g w'):w.grownBy w' (some g):=
 ⟨hB'.os.trans hB.os.symm,hB'.tape.trans hB.tape.symm,hB'.output.trans hB.output.symm,k.1,fun i hi hn=>k.2 i hi (fun e=>hn (by rw[e]))⟩
def xD (rows:List Int):Prop:=rows.length<=9/\∀k (h:k<rows.length),5<=k->rows[k]<=3
theorem uM {rows:List Int} (h:rows.length<=5):xD rows:=⟨by omega,fun k hk h5=>by omega⟩
theorem Ld {rows : List Int} {y : Int} (h : xD rows) : xD (rows.set 0 y) := ⟨by rw [List.length_set]; exact h.1, fun k hk h5 => by
 rw[List.getElem_set_ne (by omega)];exact h.2 k (by rw[List.length_set]at hk;exact hk) h5⟩
theorem Kj {rows : List Int} {y : Int} (h : xD rows) (h8 : rows.length <= 8) (hy : y <= 3) : xD (rows ++ [y]) := ⟨by rw [List.length_append, List.length_singleton]; omega, fun k hk h5 => by
 by_cases hlt:k<rows.length
 . rw[List.getElem_append_left hlt];exact h.2 k hlt h5
 . rw[List.getElem_append_right (by omega)];simp;exact hy⟩
def MU (W:World) (g:Nat) (u:Value) (n:Nat) (w:World) (e:Ending) (w':World):Prop:=∃(rows:List Int) (A:Option Addr) (c:Nat),e= .returned (.agg #[.slice A rows.length c])/\aC 3 1 aY w.heap.size w' (.slice A rows.length c) rows/\xD rows/\DS W w w' g u n
theorem FP (W : World) (g : Nat) (v : Value) (l : List Int) (w : World) (h : Rd 1 mM W v l) (Hok : Hid (mO (fun x => 0 <= x /\ x <= 255) l)) (hg : W.heap.size <= g) (hbel : Below W.heap.size W w) (hcur : Cur w g v l.length) :
 Calls Tryz.prog 214 #[.pointer (some ⟨g,0,none⟩)] w (MU W g v l.length w):=by
 have hW:=hbel.size;have hX:=Blk.bK w 26 #[.slice none 0 0];have D:=(DS.refl hcur hbel).al (.cells #[.slice none 0 0] 26);go_enter Tryz.func214,Tryz.ntmps214
 go_wp2_with fail
 refine(rG W g v l _ h Hok hg D.B D.cur).mono ?_;rintro e w1 ⟨rows,A,c,rfl,own,hr1,hr5,hrr,cur1,B1,k1⟩;have g1:=Jw D.B B1 k1;replace hX:=(hX.ds D.cur g1 (by decide)).alloc (.cells #[.slice A rows.length c] 26);have D1:=D.dr cur1 B1 g1;have hwl:w.heap.size<w1.heap.size:=by have:=g1.size;simp at this;omega
 replace own:=(own.mono (B':=w.heap.size) (by simp)).alloc (.cells #[.slice A rows.length c] 26);have hR:=Blk.bK w1 26 #[.slice A rows.length c];replace D:=D1.al (.cells #[.slice A rows.length c] 26);clear g1 cur1 B1 k1 D1;go_wp2_with fail
 refine(aQ 10 W g v l _ h Hok hg D.B D.cur (by decide)).mono ?_;rintro e w2 ⟨x,rfl,hx,c2,B2,g2⟩;replace hX:=hX.ds D.cur g2 (by decide);replace hR:=hR.ds D.cur g2 (by decide);replace own:=own.cur D.cur (by decide) g2;replace D:=D.dr c2 B2 g2;obtain⟨gX,hgX'⟩:=Oy w.heap.size;obtain⟨gR,hgR'⟩:=Oy w1.heap.size;rw[<-hgX']at hX⊢;rw[<-hgR']at hR⊢;have hgX:w.heap.size<=gX:=(by omega);have hgR:w.heap.size<=gR:=(by omega);have hRX:gR≠gX:=(by omega);have hne:=(D.cur.ne hX (by decide)).symm;have hneR:=(D.cur.ne hR (by decide)).symm;have hxx:x=0∨x=1∨x=2∨(x≠0/\x≠1/\x≠2):=(by omega);have HL:=OA (uM hr5);clear hx c2 B2 g2 hgX' hgR' hwl hrr;rcases hxx with rfl|rfl|rfl|⟨e0,e1,e2⟩
 . obtain ⟨g5, rfl, hBg, hgl⟩ := own.split (k := 0) (by omega);have hr0:(0:Int)<(rows.length:Int):=(by omega);have hgo:g5≠gR:=fun e=>(own.apart hR (by decide)) (by rw[e];rfl)
   have Bw:Below w2.heap.size w2 w2.drew:=(Below.refl _ _).drew;have zR:=hR.c1;have hRl:=hR.lt;go_upto_region 4 with(fail)
   refine rB (fun w'=>w'.cell? ⟨gR,0,none⟩=some (.slice (some ⟨g5,0,none⟩) rows.length c)) fun hHeld=>(tW 0)<|(tW 1)<|(tW 2)<|(tR [3])<|tL fun K hK=>?_
   (refine FL rfl _ _ _ rfl rfl rfl rfl ?_;intro gL wX hbX oL hgL;obtain⟨wB,hwB⟩:=Oy w2.drew;rw[<-hwB]at hbX oL;have hX3:=(hX.bl Bw).bl (by rw[<-hwB];exact hbX);have hR3:=(hR.bl Bw).bl (by rw[<-hwB];exact hbX);have own3:=(own.below Bw).below (by rw[<-hwB];exact hbX);have D3:=(D.bl Bw).bl (by rw[<-hwB];exact hbX);have zR:=hR3.c1)
   refine tK hK fun hHeld=>?_
   clear hK K;refine(tR [4])<|tL fun K hK=>?_
   go_simp
   (go_at_call 237;go_must (refine(Lc W g v _ l [-1,255,256] wB.heap.size _ h Hok hg D3.B D3.cur oL (by simp)).mono ?_;rintro e wX ⟨y,rfl,hy,D4⟩;have hX5:=hX3.ds D3.cur D4.gr (by decide);have hR5:=hR3.ds D3.cur D4.gr (by decide);have own5:=own3.cur D3.cur (by decide) D4.gr;have D5:=D3.tr D4;have zR:=hR5.c1;have hr0n:0<rows.length:=hr1;have s1:=own5.slot aL Nat.one_pos hr0n 0 _ rfl;rw[Nat.zero_mul,Nat.add_zero]at s1;have s2:=own5.free 0))
   refine tK hK fun hHeld=>?_
   clear hK K;refine(tW 5)<|(tR [6])<|tL fun K hK=>?_
   go_simp
   refine tK hK fun hHeld=>?_
   clear hK K;refine tD ?_;have hgg:=dI (World.grownBy.refl wX (some g5)) 0 (.int .i64 y);have hgx:g5≠gX:=fun e=>(own5.apart hX5 (by decide)) (by rw[e];rfl)
   have hgc:g≠g5:=fun e=>(D5.cur.apart own5 (by decide)) (by rw[<-e];rfl)
   have own6:=own5.iJ aL (y:=y) hr0n rfl;have hR6:=hR5.grown hgg (by simp;omega);have D6:=D5.st hgg hBg hW hgc;replace hX:=hX5.grown hgg (by simp;omega);have zR:=hR6.c1;go_wp2_with (refine aA rfl 26 _ _ rfl gX #[.slice (some ⟨g5,0,none⟩) rows.length c] rfl rfl _ _ hX (by kernel_rfl) rfl (by simp[oneCell']) ?_;intro wE bE hgE)
   have oE:=aC.DY own6 hX (by decide) hgE;have qE:=bE.c1;refine bodyPost_ret (v:= .agg #[.slice (some ⟨g5,0,none⟩) rows.length c]) (by simp[results,Tryz.results214,go_sem,qE]) rfl ⟨rows.set 0 y,_,_,by rw[List.length_set],by rw[List.length_set];exact oE,Ld HL.out,D6.st hgE hgX hW hne⟩
 . have f0:((1:Int)==0)=false:=rfl;go_wp2;go_loopw [24] (fun _ wr=>∃(rs:List Int) (A':Option Addr) (c':Nat),Hid (xD rs)/\Blk wr gR 26 #[.slice A' rs.length c']/\aC 3 1 aY w.heap.size wr (.slice A' rs.length c') rs/\Blk wr gX 26 #[.slice none 0 0]/\DS W w wr g v l.length) (fun _ wr=>10-AV wr gR)
   case atStart=>exact⟨rows,_,_,HL,hR,own,hX,D⟩
   case round=>
    obtain⟨rs,A',c',Hrs,hR2,own2,hX2,D2⟩:=hrel;clear hR own hX D;have zR:=hR2.c1;have Bw:Below wr.heap.size wr wr.drew:=(Below.refl _ _).drew;go_wp2_with fail
    refine rB (fun w'=>w'.cell? ⟨gR,0,none⟩=some (.slice A' rs.length c')) fun hHeld=>(tW 0)<|(tW 1)<|(tW 2)<|(tW 3)<|(tR [4])<|tL fun K hK=>?_
    go_simp
    (go_at_call 67;go_must (refine(aQ 2 W g v l _ h Hok hg (D2.bl Bw).B (D2.bl Bw).cur (by decide)).mono ?_;rintro e w3 ⟨y,rfl,hy,cX,BX,hgg⟩;have hyy:0<=y/\y<=1:=(by unfold dR at hy;omega);have hw8:IntKind.i64.wrap (8+y)=8+y:=IntWalk.i64_in _ (by omega);have D3:=(D2.bl Bw).dr cX BX hgg;have hR3:=(hR2.bl Bw).ds (D2.bl Bw).cur hgg (by decide);have hX3:=(hX2.bl Bw).ds (D2.bl Bw).cur hgg (by decide);have own3:=(own2.below Bw).cur (D2.bl Bw).cur (by decide) hgg;have zR:=hR3.c1))
    refine tK hK fun hHeld=>?_
    clear hK K;refine(tW 5)<|(tW 6)<|tD ?_;clear hy cX BX hgg hHeld;by_cases hlt:(rs.length:Int)<8+y
    . have Bw3:Below w3.heap.size w3 w3.drew:=(Below.refl _ _).drew;have H8:Hid ((rs.length+1)*8<=140737488355328):=OA (by omega);have HM:Hid (rs.length+1<=maxLen):=OA (by unfold maxLen;omega);have hr8:rs.length<=8:=(by omega);go_wp2_with fail
      refine rB (fun _=>True) fun hHeld=>(tW 0)<|(tW 2)<|(tR [1,3])<|tC (fun K hK=>?_) ?_
      go_simp
      refine tK hK fun hHeld=>?_
      clear hK K;refine(tR [3])<|tL fun K hK=>?_
      go_simp
      (go_at_call 67;go_must (refine(aQ 4 W g v l _ h Hok hg (D3.bl Bw3).B (D3.bl Bw3).cur (by decide)).mono ?_;rintro e w4 ⟨z,rfl,hz,cX,BX,hgg⟩;have D4:=(D3.bl Bw3).dr cX BX hgg;have hR4:=(hR3.bl Bw3).ds (D3.bl Bw3).cur hgg (by decide);have hX4:=(hX3.bl Bw3).ds (D3.bl Bw3).cur hgg (by decide);have own4:=(own3.below Bw3).cur (D3.bl Bw3).cur (by decide) hgg;have zR:=hR4.c1))
      refine tK hK fun hHeld=>?_
      clear hK K;refine(tR [4])<|tL fun K hK=>?_
      (refine sW rfl _ rfl rfl ?_;intro gB w5 hb5 bB hgB;have D5:=D4.bl hb5;have hR5:=hR4.bl hb5;have hX5:=hX4.bl hb5;have own5:=own4.below hb5;have zR:=hR5.c1)
      refine tK hK fun hHeld=>?_
      clear hK K;refine(tR [5])<|tL fun K hK=>?_
      (refine jK fA aL (le_trans D5.gr.size (le_refl _)) own5 z (jD _) bB H8.out HM.out rfl _ _ rfl rfl rfl ?_;intro A8 c8 w6 own8 hg8;have D6:=D5.app own5 (by decide) (le_refl _) hW hg8;have hR6:=hR5.grown hg8 (fun e=>own5.apart hR5 (by decide) e.symm);have hX6:=hX5.grown hg8 (fun e=>own5.apart hX5 (by decide) e.symm);have zR:=hR6.c1;have fR:=hR6.frozen 0)
      refine tK hK fun hHeld=>?_
      clear hK K;refine(tW 6)<|(tR [7])<|tL fun K hK=>?_
      go_simp
      refine tK hK fun hHeld=>?_
      clear hK K;refine tD ?_
      rotate_left 1
      refine tL fun K hK=>?_
      go_simp
      (go_at_call 67;go_must (refine(aQ 4 W g v l _ h Hok hg (D3.bl Bw3).B (D3.bl Bw3).cur (by decide)).mono ?_;rintro e w4 ⟨z,rfl,hz,cX,BX,hgg⟩;have D4:=(D3.bl Bw3).dr cX BX hgg;have hR4:=(hR3.bl Bw3).ds (D3.bl Bw3).cur hgg (by decide);have hX4:=(hX3.bl Bw3).ds (D3.bl Bw3).cur hgg (by decide);have own4:=(own3.below Bw3).cur (D3.bl Bw3).cur (by decide) hgg;have zR:=hR4.c1))
      refine tK hK fun hHeld=>?_
      clear hK K;refine(tR [1,4])<|tC (fun K hK=>?_) ?_;go_simp
      refine tK hK fun hHeld=>?_
      clear hK K;refine(tR [4])<|tL fun K hK=>?_
      (refine sW rfl _ rfl rfl ?_;intro gB w5 hb5 bB hgB;have D5:=D4.bl hb5;have hR5:=hR4.bl hb5;have hX5:=hX4.bl hb5;have own5:=own4.below hb5;have zR:=hR5.c1)
      refine tK hK fun hHeld=>?_
      clear hK K;refine(tR [5])<|tL fun K hK=>?_
      (refine jK fA aL (le_trans D5.gr.size (le_refl _)) own5 z (jD _) bB H8.out HM.out rfl _ _ rfl rfl rfl ?_;intro A8 c8 w6 own8 hg8;have D6:=D5.app own5 (by decide) (le_refl _) hW hg8;have hR6:=hR5.grown hg8 (fun e=>own5.apart hR5 (by decide) e.symm);have hX6:=hX5.grown hg8 (fun e=>own5.apart hX5 (by decide) e.symm);have zR:=hR6.c1;have fR:=hR6.frozen 0)
      refine tK hK fun hHeld=>?_
      clear hK K;refine(tW 6)<|(tR [7])<|tL fun K hK=>?_
      go_simp
      refine tK hK fun hHeld=>?_
      clear hK K;refine tD ?_
      rotate_left 1
      refine tL fun K hK=>?_
      (refine sW rfl _ rfl rfl ?_;intro gB w5 hb5 bB hgB;have D5:=D4.bl hb5;have hR5:=hR4.bl hb5;have hX5:=hX4.bl hb5;have own5:=own4.below hb5;have zR:=hR5.c1)
      refine tK hK fun hHeld=>?_
      clear hK K;refine(tR [1])<|tL fun K hK=>?_
      go_simp
      refine tK hK fun hHeld=>?_
      clear hK K;refine(tR [5])<|tL fun K hK=>?_
      (refine jK fA aL (le_trans D5.gr.size (le_refl _)) own5 z (jD _) bB H8.out HM.out rfl _ _ rfl rfl rfl ?_;intro A8 c8 w6 own8 hg8;have D6:=D5.app own5 (by decide) (le_refl _) hW hg8;have hR6:=hR5.grown hg8 (fun e=>own5.apart hR5 (by decide) e.symm);have hX6:=hX5.grown hg8 (fun e=>own5.apart hX5 (by decide) e.symm);have zR:=hR6.c1;have fR:=hR6.frozen 0)
      refine tK hK fun hHeld=>?_
      clear hK K;refine(tW 6)<|(tR [7])<|tL fun K hK=>?_
      go_simp
      refine tK hK fun hHeld=>?_
      clear hK K;refine tD ?_
      all_goals
        have hz4:z<=3:=by unfold dR at hz;omega
        have gRR:=dI (World.grownBy.refl w6 (some gR)) 0 (.slice A8 (rs.length+1) c8);have D7:=D6.st gRR hgR hW hneR;have own9:=aC.DY own8 hR6 (by decide) gRR;have hR7:=hR6.st 0 (.slice A8 (rs.length+1) c8) _ rfl;have hX7:=hX6.grown gRR (by simp;omega);have hl:(rs++[z]).length=rs.length+1:=(by rw[List.length_append,List.length_singleton]);go_wp2;go_roundw
        case rel=>exact⟨rs++[z],A8,c8,OA (Kj Hrs.out hr8 hz4),by rw[hl];exact hR7,by rw[hl];exact own9,hX7,D7⟩
        case measure=>rw[hR7.len_,hR2.len_];omega
    . have hX:=hX3;have zR:=hR3.c1;go_wp2_with (refine aA rfl 26 _ _ rfl gX #[.slice A' rs.length c'] rfl rfl _ _ hX (by kernel_rfl) rfl (by simp[oneCell']) ?_;intro wE bE hgE)
      have oE:=aC.DY own3 hX (by decide) hgE;have qE:=bE.c1;refine bodyPost_ret (v:= .agg #[.slice A' rs.length c']) (by simp[results,Tryz.results214,go_sem,qE]) rfl ⟨_,_,_,rfl,oE,Hrs.out,D3.st hgE hgX hW hne⟩
 . have f0:((2:Int)==0)=false:=rfl;have own1:=own.takeA aL (Nat.zero_le _);have hR1:=hR.st 0 (.slice A 0 c) #[.slice A 0 c] rfl;have hf:=hR.frozen 0;have zR:=hR.c1;have gRR:=dI (World.grownBy.refl w2 (some gR)) 0 (.slice A 0 c);have D1:=D.st gRR hgR hW hneR;have own2:=aC.DY own1 hR (by decide) gRR;replace hX:=hX.grown gRR (by simp;omega);rw[List.take_zero]at own2;go_upto_region 10 with(fail)
   obtain⟨w3,hw3⟩:=Oy (w2.setCell ⟨gR,0,none⟩ (.slice A 0 c));rw[<-hw3]at D1 own2 hX hR1⊢;clear hw3 gRR zR hf;have zR:=hR1.c1;go_wp2_with (refine aA rfl 26 _ _ rfl gX #[.slice A 0 c] rfl rfl _ _ hX (by kernel_rfl) rfl (by simp[oneCell']) ?_;intro wE bE hgE)
   have oE:=aC.DY own2 hX (by decide) hgE;have qE:=bE.c1;refine bodyPost_ret (v:= .agg #[.slice A 0 c]) (by simp[results,Tryz.results214,go_sem,qE]) rfl ⟨[],_,_,rfl,oE,⟨Nat.zero_le _,fun k hk=>absurd hk (Nat.not_lt_zero _)⟩,D1.st hgE hgX hW hne⟩
 . have f0:(x==0)=false:=beq_false_of_ne e0;have f1:(x==1)=false:=beq_false_of_ne e1;have f2:(x==2)=false:=beq_false_of_ne e2;have zR:=hR.c1;go_wp2_with (refine aA rfl 26 _ _ rfl gX #[.slice A rows.length c] rfl rfl _ _ hX (by kernel_rfl) rfl (by simp[oneCell']) ?_;intro wE bE hgE)
   have oE:=aC.DY own hX (by decide) hgE;have qE:=bE.c1;refine bodyPost_ret (v:= .agg #[.slice A rows.length c]) (by simp[results,Tryz.results214,go_sem,qE]) rfl ⟨_,_,_,rfl,oE,HL.out,D.st hgE hgX hW hne⟩
def Le (w:World) (e:Ending) (w':World):Prop:=∃(rows:List Int) (A:Option Addr) (c:Nat),e= .returned (.agg #[.slice A rows.length c])/\aC 3 1 aY w.heap.size w' (.slice A rows.length c) rows/\xD rows/\Below w.heap.size w w'
theorem De (v : Value) (l : List Int) (w : World) (h : Rd 1 mM w v l) (ok : mO (fun x => 0 <= x /\ x <= 255) l) (hl : l.length <= 1048576) :
 Calls Tryz.prog 181 #[v] w (Le w):=by
 have Hok:=OA ok;have hX:=Blk.bK w 26 #[.slice none 0 0];have hA:=(Below.refl w.heap.size w).al (.cells #[.slice none 0 0] 26);go_enter Tryz.func181,Tryz.ntmps181
 go_wp2_with fail
 refine(EW _ l _ (h.Oz hA) ok hl).mono ?_;rintro e w1 ⟨g,rfl,hg,hcur,hb1⟩;have hgw:w.heap.size<=g:=by simp at hg;omega
 have hgne:g≠w.heap.size:=by simp at hg;omega
 have D:DS w w w1 g v l.length:=⟨hcur,hA.tr hb1,KI (World.grownBy.refl w (some g)) (hA.tr hb1)⟩;replace hX:=hX.bl hb1;have hW:w.heap.size<=w.heap.size:=le_refl _;clear hcur hb1 hA hg;go_wp2_with fail
 refine(Cm 3 w g v l _ h Hok hgw D.B D.cur (by decide)).mono ?_;rintro e w2 ⟨yes,rfl,c2,B2,g2⟩;replace hX:=hX.ds D.cur g2 (by decide);replace D:=D.dr c2 B2 g2;obtain⟨gX,hgX'⟩:=Oy w.heap.size;rw[<-hgX']at hX hgne⊢;have hgX:w.heap.size<=gX:=(by omega);have hne:g≠gX:=hgne;clear c2 B2 g2;rcases yes with _|_
 . go_wp2_with fail
   refine(FP w g v l _ h Hok hgw D.B D.cur).mono ?_;rintro e w12 ⟨rows,A,c,rfl,own,hLn,D2⟩;replace hX:=hX.ds D.cur D2.gr (by decide);replace own:=own.mono (B':=w.heap.size) D.B.size;replace D:=D.tr D2;rw[<-hgX'];clear hgX';have zR:=hX.c1;go_wp2_with (refine aA rfl 26 _ _ rfl gX #[.slice A rows.length c] rfl rfl _ _ hX (by kernel_rfl) rfl (by simp[oneCell']) ?_;intro wE bE hgE)
   have oE:=aC.DY own hX (by decide) hgE;have qE:=bE.c1;refine bodyPost_ret (v:= .agg #[.slice A rows.length c]) (by simp[results,Tryz.results181,go_sem,qE]) rfl ⟨_,_,_,rfl,oE,hLn,(D.st hgE hgX hW hne).B⟩
 . go_wp2_with fail
   refine(aQ 4 w g v l _ h Hok hgw D.B D.cur (by decide)).mono ?_;rintro e w3 ⟨a,rfl,ha,c3,B3,g3⟩;replace hX:=hX.ds D.cur g3 (by decide);replace D:=D.dr c3 B3 g3;have haa:0<=a/\a<=3:=by unfold dR at ha;omega
   obtain⟨a,rfl⟩:=Int.eq_ofNat_of_zero_le haa.1;have ha5:a<=3:=(by omega);clear haa ha c3 B3 g3;go_wp2_with fail
   refine(aQ 3 w g v l _ h Hok hgw D.B D.cur (by decide)).mono ?_;rintro e w4 ⟨b,rfl,hb,c4,B4,g4⟩;replace hX:=hX.ds D.cur g4 (by decide);replace D:=D.dr c4 B4 g4;have hbb:0<=b/\b<=2:=by unfold dR at hb;omega
   obtain⟨b,rfl⟩:=Int.eq_ofNat_of_zero_le hbb.1;have hb5:b<=2:=(by omega);clear hbb hb c4 B4 g4;go_wp2_with fail
   rw[show(3:Int)+a=((3+a:Nat):Int) by simp,show(3:Int)+b=((3+b:Nat):Int) by simp];obtain⟨a',ha'⟩:∃a',a'=3+a:=⟨_,rfl⟩;obtain⟨b',hb'⟩:∃b',b'=3+b:=⟨_,rfl⟩;rw[<-ha',<-hb'];have ha1:3<=a':=(by omega);have ha6:a'<=6:=(by omega);have hb1':3<=b':=(by omega);have hb6:b'<=5:=(by omega);clear ha' hb' ha5 hb5;refine(yD a' b' _ ⟨by omega,by omega⟩ ⟨by omega,by omega⟩).mono ?_;rintro e w5 ⟨A3,c5,rfl,own3,hb5⟩;have hrl:(bZ a' b').length=b':=(by simp[bZ]);rw[hrl]at own3⊢;have hlt0:gX<w5.heap.size:=(hX.bl hb5).lt;replace hX:=(hX.bl hb5).alloc (.cells #[.slice A3 b' c5] 26);have hR:=Blk.bK w5 26 #[.slice A3 b' c5];have own4:=(own3.mono (B':=w.heap.size) D.B.size).alloc (.cells #[.slice A3 b' c5] 26);replace D:=(D.bl hb5).al (.cells #[.slice A3 b' c5] 26)
   have hrows : ∀ r ∈ bZ a' b', 0 <= r /\ r <= 255 := fun r hr => by
    have:=C9 (w:=a') (by omega);unfold bZ at hr;rw[(List.mem_replicate.1 hr).2];omega
   clear own3 hb5;go_wp2_with fail
   refine(aQ 3 w g v l _ h Hok hgw D.B D.cur (by decide)).mono ?_;rintro e w6 ⟨k0,rfl,hk0,c6,B6,g6⟩;replace hX:=hX.ds D.cur g6 (by decide);replace hR:=hR.ds D.cur g6 (by decide);have own5:=own4.cur D.cur (by decide) g6;replace D:=D.dr c6 B6 g6;have hk00:0<=k0/\k0<=2:=by unfold dR at hk0;omega
   obtain⟨k0,rfl⟩:=Int.eq_ofNat_of_zero_le hk00.1;have hk04:k0<=2:=(by omega);obtain⟨br,hbr⟩:=Oy w5.heap.size;rw[<-hbr]at hR hlt0;clear hk00 hk0 own4 c6 B6 g6;go_wp2;rw[<-hbr];have Hbr:=OA hbr;have Hrl:=OA hrl;have Hrows:=OA hrows;have HgX:=OA hgX';clear hbr hrl hrows hgX';go_loopw [5] (fun s6 wr=>∃(k:Nat) (rows:List Int),k<=3/\s6= .int .i64 k/\Hid (rows.length=b')/\Hid (∀r∈rows,0<=r/\r<=255)/\aC 3 1 aY w.heap.size wr (.slice A3 b' c5) rows/\Blk wr br 26 #[.slice A3 b' c5]/\Blk wr gX 26 #[.slice none 0 0]/\DS w w wr g v l.length) (fun i _=>(intOf i).toNat)
   case atStart=>exact⟨1+k0,_,by omega,by simp,Hrl,Hrows,own5,hR,hX,D⟩
   case round=>
    obtain⟨k,rows,hk,rfl,Hl,Hr,hown,hy,hx,D0⟩:=hrel;clear own5 hR hX D;have q0:=hy.c1;by_cases hk1:0<k
    . go_wp2_with fail
      refine(aQ ((b':Int)-2) w g v l _ h Hok hgw D0.B D0.cur (by omega)).mono ?_;rintro e w7 ⟨y,rfl,hyy,c7,B7,g7⟩;have hyyy:0<=y/\y<b'-2:=by unfold dR at hyy;omega
      obtain⟨y,rfl⟩:=Int.eq_ofNat_of_zero_le hyyy.1;have hyb:1+y<b':=(by omega);have own1:=hown.cur D0.cur (by decide) g7;have hy1:=hy.ds D0.cur g7 (by decide);have hx1:=hx.ds D0.cur g7 (by decide);have D1:=D0.dr c7 B7 g7;clear hyyy hyy q0 hown hy hx D0 c7 B7 g7;go_wp2_with fail
      refine(aQ 3 w g v l _ h Hok hgw D1.B D1.cur (by decide)).mono ?_;rintro e w8 ⟨x,rfl,hxx,c8,B8,g8⟩;have hxxx:0<=x/\x<3:=by unfold dR at hxx;omega
      obtain⟨x,rfl⟩:=Int.eq_ofNat_of_zero_le hxxx.1;have hxa:1+x<=3:=(by omega);have own2:=own1.cur D1.cur (by decide) g8;have hy2:=hy1.ds D1.cur g8 (by decide);have hx2:=hx1.ds D1.cur g8 (by decide);have D2:=D1.dr c8 B8 g8;clear hxxx hxx own1 hy1 hx1 D1 c8 B8 g8;go_upto_region 9 with(fail)
      rw[show(1:Int)+x=((1+x:Nat):Int) by simp,show(1:Int)+y=((1+y:Nat):Int) by simp];obtain⟨y',hy'⟩:∃y',y'=1+y:=⟨_,rfl⟩;obtain⟨x',hx'⟩:∃x',x'=1+x:=⟨_,rfl⟩;rw[<-hy',<-hx'];rw[<-hy']at hyb;rw[<-hx']at hxa;clear hy' hx';have hyl:y'<rows.length:=by rw[Hl.out];exact hyb
      obtain⟨r,hr⟩:=Oy (rows[y']);have hrb:=Hr.out rows[y'] (List.getElem_mem hyl);rw[<-hr]at hrb;obtain⟨hr0,hr1⟩:=hrb;obtain⟨g5,rfl,hBg,hgl⟩:=own2.split hyl;have s1:=own2.slot aL Nat.one_pos hyl 0 (.int .i64 r) (by rw[hr];rfl);have s2:=own2.free y';rw[Nat.mul_one,Nat.add_zero]at s1;have q1:=hy2.c1;have q2:=hy2.lt;have hyI:(y':Int)<b':=(by omega);have hp:=C9 (w:=x') (by omega);have hge:=Mf (r:=r) (P:=2^x') (h0:=hr0) (hP:=hp.1);have e0:=wR (r/2^x');have Hrr:=OA hr;clear hr;by_cases ht:(r/2^x')%2=1
      . have hge2:=hge ht;have t1:((r/2^x')%2==1)=true:=(by simpa using ht);obtain⟨P,hP⟩:=Oy ((2:Int)^x');rw[<-hP]at hp hge2;have e1:IntKind.i64.wrap ((2:Int)^x')=P:=by rw[<-hP];exact IntWalk.i64_in _ (by omega)
        have e2:IntKind.i64.wrap (r-P)=r-P:=IntWalk.i64_in _ (by omega);have HP:=OA hP;clear ht hge hP;have hgo:g5≠br:=fun e=>(own2.apart hy2 (by decide)) (by rw[e];rfl)
        have hgx:g5≠gX:=fun e=>(own2.apart hx2 (by decide)) (by rw[e];rfl)
        have hgc:g≠g5:=fun e=>(D2.cur.apart own2 (by decide)) (by rw[<-e];rfl)
        have own3:=(own2.iJ aL (y:=r-P) hyl rfl).drewN 1;have hy3:=(hy2.far (p:=⟨g5,y',none⟩) (fun e=>hgo e.symm) (.int .i64 (r-P))).drewN 1;have hx3:=(hx2.far (p:=⟨g5,y',none⟩) (fun e=>hgx e.symm) (.int .i64 (r-P))).drewN 1;have D3:=(D2.st (dI (World.grownBy.refl w8 (some g5)) y' (.int .i64 (r-P))) hBg hW hgc).bl ((Below.refl _ _).drew);have HL:Hid ((rows.set y' (r-P)).length=b'):=OA (by rw[List.length_set];exact Hl.out)
        have HR : Hid (∀ z ∈ rows.set y' (r - P), 0 <= z /\ z <= 255) := OA fun z hz => by
         rcases List.mem_or_eq_of_mem_set hz with hz|rfl
         . exact Hr.out z hz
         . omega
        go_wp2_with fail
        go_still_tail 12,(by kernel_rfl)
        change wpList _ _ _ _ _ (World.drew _);clear e0 e1 e2;go_wp2;go_roundw
        case rel=>exact⟨k-1,_,by omega,by go_num,HL,HR,own3,hy3,hx3,D3⟩
        case measure=>simp[intOf];omega
      . have t1 : ((r / 2 ^ x') % 2 == 1) = false := by simpa using ht
        clear hge ht;go_wp2;go_roundw
        case rel=>exact⟨k-1,rows,by omega,by go_num,Hl,Hr,own2,hy2,hx2,D2⟩
        case measure=>simp[intOf];omega
    . obtain rfl : k = 0 := by omega
      have hX:=hx;have Hl':=Hl.out;go_upto_region 11 with(fail)
      rw[<-HgX.out];have zR:=hy.c1;go_wp2_with (refine aA rfl 26 _ _ rfl gX #[.slice A3 b' c5] rfl rfl _ _ hX (by kernel_rfl) rfl (by simp[oneCell']) ?_;intro wE bE hgE)
      have oE:=aC.DY hown hX (by decide) hgE;have qE:=bE.c1;refine bodyPost_ret (v:= .agg #[.slice A3 b' c5]) (by simp[results,Tryz.results181,go_sem,qE]) rfl ⟨rows,A3,c5,by rw[Hl'],by rw[Hl'];exact oE,uM (by omega),(D0.st hgE hgX hW hne).B⟩
end Go.Proofs.YtljfoohaapckeaaGreatDoor
