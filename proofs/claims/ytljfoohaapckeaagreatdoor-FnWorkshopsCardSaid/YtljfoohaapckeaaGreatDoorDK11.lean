/- CheapestPrice of the reference: the walk. No conditions but sizes. The reference's count of tilings by profiles: the walk. No conditions but sizes.. Conditions, where there are any, stand in the statements. -/
import Derived.Test.YtljfoohaapckeaaGreatDoorDK10
import Derived.Test.YtljfoohaapckeaaGreatDoorDK4
import Derived.Test.YtljfoohaapckeaaGreatDoorDK3
import Derived.Deep.DeepCutAuto
import Derived.Test.YtljfoohaapckeaaGreatDoorDK9
open _root_.List (replicate getElem?_eq_getElem getD_eq_getElem?_getD getElem?_toArray getElem?_cons_zero getElem?_cons_succ)
open _root_.Nat (one_pos mul_one add_zero)
open _root_.Option (getD_some)
open _root_.Go.IntWalk (i64_in)
namespace Go.Proofs.YtljfoohaapckeaaGreatDoor
open Go.ChangeShapes Go.WideShapes Go.ChangeAt Go.RowKit
set_option linter.unusedVariables false
set_option linter.unusedSimpArgs false
set_option maxHeartbeats 4000000
set_option maxRecDepth 100000
def SSt (W0:World) (g gc gn x y:Nat) (now nx:List Int) (wr:World):Prop:=
 aC 3 1 aY W0.heap.size wr (.slice (some ⟨g,0,none⟩) 256 256) now/\aC 3 1 aY W0.heap.size wr (.slice (some ⟨gn,0,none⟩) 256 256) nx/\Blk wr gc 70 #[.int .i64 x,.int .i64 y]/\g≠gn/\Below W0.heap.size W0 wr
section
variable {W0 wr w' : World} {g gc gn x y : Nat} {now nx : List Int}
theorem SSt.bl (h:SSt W0 g gc gn x y now nx wr) (hb:Below wr.heap.size wr w'):SSt W0 g gc gn x y now nx w':=by
 obtain⟨a,b,c,e,f⟩:=h;exact⟨a.below hb,b.below hb,c.bl hb,e,f.tr hb⟩
theorem SSt.put (h:SSt W0 g gc gn x y now nx wr) {r:List Int} (own:aC 3 1 aY W0.heap.size w' (.slice (some ⟨gn,0,none⟩) 256 256) r) (hg:wr.grownBy w' (some gn)):SSt W0 g gc gn x y now r w':=by
 obtain⟨a,b,c,e,f⟩:=h;have hc:gc≠gn:=by intro q;have:=b.apart c (by decide);rw[q]at this;exact this rfl
 refine⟨World.ownsRow.kept a hg (.inr (by simp[Value.ownBlock];exact e)),own,c.grown hg (by simpa using hc),e,f.grown hg f.size (fun k hk=> ?_)⟩;injection hk with hk;rw[<-hk];exact b.at_.2.1
end
theorem La {r:Int} {x:Nat} (h0:0<=r) (h1:r<=255) (hx:x<8):(bits .and .i64 (r/2^x) 1==0)= !r.toNat.testBit x:=by
 rw[<-EX h0 h1 hx,wR,Bool.eq_iff_iff,beq_iff_eq,Bool.not_eq_true',beq_eq_false_iff_ne];omega
theorem FO (i x y:Nat) (w:World) (hi:i<64) (hx:x=i%8) (hy:y=i/8):Calls Tryz.prog 84 #[.int .i64 i] w (Ret (.tuple #[.agg #[.int .i64 x,.int .i64 y],.bool true]) w):=by
 have:=sM i w hi;rw[hx,hy];simpa using this
theorem Fv (nx : List Int) (k : Nat) (n : Int) : fG 0 (fun a b => a + b) nx k n = nx.set k (nx.getD k 0 + n) := by
 unfold fG;by_cases h:nx.getD k 0=0
 . rw[if_pos h,h,Int.zero_add]
 . rw[if_neg h]
theorem SSt.al {W0 wr:World} {g gc gn x y:Nat} {now nx:List Int} (h:SSt W0 g gc gn x y now nx wr) (o:Obj):SSt W0 g gc gn x y now nx (wr.alloc o):=h.bl ((Below.refl _ _).al o)
theorem rM (v:Value) (rows:List Int) (w:World) (h:Rd 1 bH w v rows) (Hok:Hid (dJ rows)):Calls Tryz.prog 182 #[.agg #[v]] w (Ret (.int .i64 (gU (setOf rows))) w):=by
 obtain⟨A,c,rfl,hc,hm⟩:=h.form;have hA:=(Below.refl w.heap.size w).al (.cells #[.slice A rows.length c] 26);have hx:=Blk.bK w 26 #[.slice A rows.length c];have h256:Hid ((256:Int)=((256:Nat):Int)):=OA rfl;have hs:=dX Hok.out;obtain⟨s,hse⟩:=Oy (setOf rows);rw[<-hse]at hs⊢;have Hse:=OA hse;clear hse;obtain⟨R,hR⟩:=Oy (gU s);rw[<-hR];have HR:=OA hR;clear hR;have B0:=Below.refl (w.alloc (.cells #[.slice A rows.length c] 26)).heap.size (w.alloc (.cells #[.slice A rows.length c] 26));go_enter Tryz.func182,Tryz.ntmps182
 go_wp2_with (at_make;go_must (refine kS (enc:=aY) (z0:=(0:Int)) fA rfl B0 256 (by decide) (by decide) _ h256.out rfl _ _ rfl rfl rfl ?_);intro w1 hown1 hb1 hg1;have hown2:aC 3 1 aY (w.alloc (.cells #[.slice A rows.length c] 26)).heap.size w1 (.slice (some ⟨w.heap.size+1,0,none⟩) 256 256) (replicate 256 (0:Int)):=(by simpa using hown1);have hl0:0<(replicate 256 (0:Int)).length:=(by rw[List.length_replicate];decide);obtain⟨u2,s2⟩:=hown2.Az aL hl0;have hsf2:=hown2.free;have own3:=hown2.iJ aL hl0 (y:=1) rfl;have e0:aX s 0=(replicate 256 (0:Int)).set 0 1:=rfl;rw[<-e0]at own3;have B3:=hb1.st ⟨w.heap.size+1,0,none⟩ (.int .i64 1) (by simp);clear e0 hl0)
 go_loopw [4,5] (fun s4 s5 wr=>∃(i g:Nat),i<=64/\s5= .int .i64 i/\s4= .slice (some ⟨g,0,none⟩) 256 256/\aC 3 1 aY (w.alloc (.cells #[.slice A rows.length c] 26)).heap.size wr (.slice (some ⟨g,0,none⟩) 256 256) (aX s i)/\Below (w.alloc (.cells #[.slice A rows.length c] 26)).heap.size (w.alloc (.cells #[.slice A rows.length c] 26)) wr) (fun _ i _=>64-(intOf i).toNat)
 case atStart=>exact⟨0,w.heap.size+1,by omega,rfl,rfl,own3,B3⟩
 case round=>
  obtain⟨i,g,hi,rfl,rfl,hnow,hbel2⟩:=hrel;clear own3 B3 hown1 hown2 hb1 hg1 s2 hsf2;by_cases hi64:i<64
  . obtain⟨x,hx'⟩:=Oy (i%8);obtain⟨y,hy⟩:=Oy (i/8);have hx8:x<8:=(by omega);have hy8:y<8:=(by omega);have hxI:(i:Int)%8=(x:Int):=(by omega);have Hx:=OA hx';have Hy:=OA hy;clear hx' hy;go_wp2_with fail
    refine(FO i x y _ hi64 Hx.out Hy.out).mono ?_;rintro e w4 ⟨rfl,hb4⟩;try rw[hxI]
    clear hxI;have B4:=(hbel2.tr hb4).al (.cells #[.int .i64 x,.int .i64 y] 70);have bC:=Blk.bK w4 70 #[.int .i64 x,.int .i64 y];have now4:=(hnow.below hb4).alloc (.cells #[.int .i64 x,.int .i64 y] 70);go_wp2_with (at_make;go_must (refine kS (enc:=aY) (z0:=(0:Int)) fA rfl B4 256 (by decide) (by decide) _ h256.out rfl _ _ rfl rfl rfl ?_);intro w5 hown5 hb5 hg5)
    have st5:SSt (w.alloc (.cells #[.slice A rows.length c] 26)) g w4.heap.size (w4.heap.size+1) x y (aX s i) (replicate 256 0) w5:=by
     have hgl:=(hnow.below hb4).at_.2.2;exact⟨World.ownsRow.kept now4 hg5 (.inr (by simp[Value.ownBlock])),(by simpa using hown5:aC 3 1 aY (w.alloc (.cells #[.slice A rows.length c] 26)).heap.size w5 (.slice (some ⟨w4.heap.size+1,0,none⟩) 256 256) (replicate 256 0)),bC.grown hg5 (by simp),by omega,hb5⟩
    obtain⟨gn,hgn⟩:=Oy (w4.heap.size+1);rw[<-hgn]at st5⊢;obtain⟨gc,hgc⟩:=Oy w4.heap.size;rw[<-hgc]at st5⊢;have hxI:(i:Int)%8=(x:Int):=by have:=Hx.out;omega
    try rw[hxI]
    have hpow:=Bp hx8;obtain⟨P,hP⟩:=Oy (2^x);rw[<-hP]at hpow;obtain⟨hp2,hp8⟩:=hpow;have HP:=OA hP;clear hgc hgn hxI hP;go_loopw [10] (fun s10 wr=>∃(K:Nat) (nx:List Int),K<=256/\s10= .int .i64 K/\Hid (nx=kQ s 0 (fun a b=>a+b) (fun n _=>n) (aX s i) i K)/\SSt (w.alloc (.cells #[.slice A rows.length c] 26)) g gc gn x y (aX s i) nx wr) (fun i _=>256-(intOf i).toNat)
    case atStart=>exact⟨0,_,by omega,rfl,OA (by unfold kQ;rw[List.range_zero];rfl),st5⟩
    case round=>
     obtain⟨K,nx,hK,rfl,Hnx,hst⟩:=hrel;clear st5 hnow hbel2 now4 hown5 hb5 hg5 B4 bC hb4;by_cases hlt:K<256
     . have hil : K < (aX s i).length := by unfold aX; rw [uW]; exact hlt
       have zK:=hst.1.slot aL one_pos hil 0 (.int .i64 (aX s i)[K]) rfl;rw[mul_one,add_zero]at zK;have hgood:=Jv s i K hi64 hlt _ (getElem?_eq_getElem hil);have hgD:(aX s i).getD K 0=(aX s i)[K]:=(by rw[getD_eq_getElem?_getD,getElem?_eq_getElem hil,getD_some]);obtain⟨n,hn⟩:=Oy ((aX s i)[K]);rw[<-hn]at zK hgood hgD;have HnD:=OA hgD;clear hn hgD hil;have hnx:nx.length=256:=(by rw[Hnx.out,kK]);have Hnl:=OA hnx;clear hnx;by_cases hn1:n=0
       . subst hn1;have Heq:Hid (iP s 0 (fun a b=>a+b) (fun n _=>n) i nx K 0=nx):=OA (by unfold iP;rw[if_pos rfl]);clear hgood;go_wp2;go_roundw
         case rel=>exact⟨K+1,_,by omega,by go_num,OA (by rw[dA,<-Hnx.out,HnD.out];exact Heq.out.symm),hst⟩
         case measure=>simp[intOf];omega
       . have hn1b : (n == 0) = false := by simpa using hn1
         obtain⟨hn0,hnB,hov⟩:=hgood.resolve_left hn1;have hi8:i=8*y+x:=by have:=Hx.out;have:=Hy.out;omega
         have Hi:=OA hi8;have HbN:Hid (Jt nx):=OA (by rw[Hnx.out];exact yL s i K hi64 hlt);have HbD:Hid (Jt (pK s 0 (fun a b=>a+b) (fun n _=>n) i nx K n)):=OA (by rw[<-HnD.out,Hnx.out];exact Gm s i K hi64 hlt);have t16:=EX (r:=(K:Int)) (x:=x) (by omega) (by omega) hx8;rw[Int.toNat_natCast,hp2]at t16;have hover:K.testBit (i%8)=true->s.testBit i=true:=fun q=>Cr hov q
         have hone : iP s 0 (fun a b => a + b) (fun n _ => n) i nx K n = if s.testBit i then (if K.testBit x then fG 0 (fun a b => a + b) nx (K - P) n else vR s 0 (fun a b => a + b) (fun n _ => n) i (pK s 0 (fun a b => a + b) (fun n _ => n) i nx K n) K n) else (if K.testBit x then nx else fG 0 (fun a b => a + b) nx K n) := by
          unfold iP;rw[if_neg hn1,<-Hx.out,<-HP.out]
         rw[<-Hx.out]at hover;clear hov hn1 hi8;have zc0:=hst.2.2.1.cell 0;have zc1:=hst.2.2.1.cell 1;simp only[getElem?_toArray,getElem?_cons_zero,getElem?_cons_succ]at zc0 zc1;have bXr:=hx.bl hst.2.2.2.2;have zx:=bXr.c1;rcases hbk:K.testBit x with _|_
         . rcases hB:s.testBit i with _|_
           . rw[hB,hbk]at hone;rw[hbk]at t16;have Hone:=OA hone;have HB:=OA hB;have Hbk:=OA hbk;clear hone hB hbk hover;have Heq:Hid (iP s 0 (fun a b=>a+b) (fun n _=>n) i nx K n=fG 0 (fun a b=>a+b) nx K n):=OA (by rw[Hone.out];rfl);go_wp2_with fail
             refine(jW _ rows x y _ (h.Oz (hA.tr hst.2.2.2.2)) Hok hx8 hy8).mono ?_;rintro e w6 ⟨rfl,hb6⟩;rw[<-Hse.out,<-Hi.out,HB.out];have st6:=hst.bl hb6;have hKL:K<(nx:List Int).length:=by rw[Hnl.out];omega
             have zV:=st6.2.1.slot aL one_pos hKL 0 (.int .i64 (nx:List Int)[K]) rfl;rw[mul_one,add_zero]at zV;have hsf:=st6.2.1.free;have hvg:=HbN.out (K) _ (getElem?_eq_getElem hKL);have hvD:(nx:List Int).getD (K) 0=(nx:List Int)[K]:=(by rw[getD_eq_getElem?_getD,getElem?_eq_getElem hKL,getD_some]);obtain⟨v,hv⟩:=Oy ((nx:List Int)[K]);rw[<-hv]at zV hvg hvD;obtain⟨hv0,hv1⟩:=hvg;have HvD:=OA hvD;clear hv hvD;have hKI:(K:Int)<256:=(by omega);have own7:=st6.2.1.iJ aL hKL (y:=v+n) rfl;have e7:(nx:List Int).set (K) (v+n)=fG 0 (fun a b=>a+b) nx (K) n:=(by rw[Fv,HvD.out]);rw[e7]at own7;go_wp2;go_roundw
             case rel=>exact⟨K+1,_,by omega,by go_num,OA (by rw[dA,<-Hnx.out,HnD.out];exact Heq.out.symm),st6.put own7 (dI (World.grownBy.refl _ _) _ _)⟩
             case measure=>simp[intOf];omega
           . rw[hB,hbk]at hone;rw[hbk]at t16;have Hone:=OA hone;have HB:=OA hB;have Hbk:=OA hbk;clear hone hB hbk hover;obtain⟨a1,a2,a3,a4,a5⟩:=xR hlt hx8;rw[<-HP.out]at a1 a2 a3 a4 a5;go_wp2_with fail
             refine(jW _ rows x y _ (h.Oz (hA.tr hst.2.2.2.2)) Hok hx8 hy8).mono ?_;rintro e w6 ⟨rfl,hb6⟩;rw[<-Hse.out,<-Hi.out,HB.out];have st6:=hst.bl hb6;have bX6:=hx.bl st6.2.2.2.2;have hlX6:=bX6.lt;have hlC6:=st6.2.2.1.lt;have hzC6:gc≠w6.heap.size:=(by omega);have zx6:=bX6.c1;have zc60:=st6.2.2.1.cell 0;have zc61:=st6.2.2.1.cell 1;simp only[getElem?_toArray,getElem?_cons_zero,getElem?_cons_succ]at zc60 zc61;clear zc0 zc1 zx bXr t16 zK;have hld:=qF (s:=s) (no:=0) (add:=fun a b=>a+b) (wt:=fun n _=>n) i nx K n
             have hdv : pK s 0 (fun a b => a + b) (fun n _ => n) i nx K n = if jB s i then fG 0 (fun a b => a + b) nx (K ||| P) n else nx := by
              unfold pK;rw[<-Hx.out,<-HP.out]
             obtain⟨nd,hnd⟩:∃nd,nd=pK s 0 (fun a b=>a+b) (fun n _=>n) i nx K n:=⟨_,rfl⟩;have hbd:=HbD.out;rw[<-hnd]at hld hdv hbd;rw[Hnl.out]at hld;have Hdn:Hid (pK s 0 (fun a b=>a+b) (fun n _=>n) i nx K n=nd):=OA hnd.symm;have Hld:=OA hld;have Hdv:=OA hdv;have Hbd:=OA hbd;clear hld hdv hnd hbd;have stA:=st6.al (.cells #[.int .i64 x,.int .i64 ((y:Int)+1)] 70);go_upto_region 25 with(fail)
             go_cut [99] (fun s99 wx=>s99= .bool (jB s i)/\SSt (w.alloc (.cells #[.slice A rows.length c] 26)) g gc gn x y (aX s i) nx wx)
             case first=>
              by_cases hy7:y<7
              . have hok : aV ((x : Int), (y : Int) + 1) = true := bQ.2 (by simp only; omega);have Hok2:=OA hok;clear hok;have hq:s.testBit (8*(y+1)+x)=jB s i:=by unfold jB;rw[decide_eq_true (by have:=Hi.out;omega),Bool.true_and,show i+8=8*(y+1)+x by have:=Hi.out;omega]
                have hcast:((y:Int)+1)=((y+1:Nat):Int):=by omega
                have CH : ∀ w', Below (w.alloc (.cells #[.slice A rows.length c] 26)).heap.size (w.alloc (.cells #[.slice A rows.length c] 26)) w' -> Calls Tryz.prog 164 #[.agg #[.slice A rows.length c], .agg #[.int .i64 x, .int .i64 ((y : Int) + 1)]] w' (Ret (.bool (jB s i)) w') := fun w' hb => by
                 have:=jW _ rows x (y+1) w' (h.Oz (hA.tr hb)) Hok (by omega) (by omega);rw[<-Hse.out,hq,<-hcast]at this;exact this
                clear hq hcast;go_wp2_with fail
                refine(gJ _ _ _).mono ?_;rintro e w16 ⟨rfl,hb16⟩;rw[Hok2.out];have st16:=stA.bl hb16;have z16:=(hx.bl st16.2.2.2.2).c1;have bD16:=(Blk.bK w6 70 #[.int .i64 x,.int .i64 ((y:Int)+1)]).bl hb16;obtain⟨d_0,d_1⟩:=bD16.n2;go_wp2_with ((refine(CH _ st16.2.2.2.2).mono ?_);rintro e w17 ⟨rfl,hb17⟩;skip)
                go_meet
                exact⟨rfl,st16.bl hb17⟩
              . have hok:aV ((x:Int),(y:Int)+1)=false:=by
                 rcases e:aV ((x:Int),(y:Int)+1)with _|_
                 . rfl
                 . have:=bQ.1 e;simp only at this;omega
                have Hok2:=OA hok;clear hok;have Hd:Hid (jB s i=false):=OA (by unfold jB;rw[decide_eq_false (by have:=Hi.out;omega)];rfl);go_wp2_with fail
                refine(gJ _ _ _).mono ?_;rintro e w16 ⟨rfl,hb16⟩;rw[Hok2.out];go_wp2_with fail
                go_meet
                exact⟨by rw[Hd.out],stA.bl hb16⟩
             case rest=>
              obtain⟨rfl,stc⟩:=hcut;clear zx6 zc60 zc61 hzC6;go_upto_if 99 with(fail)
              go_cut [113] (fun s113 wx=>SSt (w.alloc (.cells #[.slice A rows.length c] 26)) g gc gn x y (aX s i) nd wx)
              case first=>
               rcases hd:jB s i with _|_
               . have hnd : nd = nx := by rw [Hdv.out, hd]; rfl
                 have Hnd:=OA hnd;clear hd hnd;go_wp2_with fail
                 go_meet
                 rw[Hnd.out];exact stc
               . have hnd : nd = fG 0 (fun a b => a + b) nx (K ||| P) n := by rw [Hdv.out, hd]; rfl
                 have Hnd:=OA hnd;clear hd hnd;have eP:IntKind.i64.wrap (P:Int)=(P:Int):=i64_in _ (by omega);have hKL:(K|||P)<(nx:List Int).length:=by rw[Hnl.out];omega
                 have zV:=stc.2.1.slot aL one_pos hKL 0 (.int .i64 (nx:List Int)[(K|||P)]) rfl;rw[mul_one,add_zero]at zV;have hsf:=stc.2.1.free;have hvg:=HbN.out ((K|||P)) _ (getElem?_eq_getElem hKL);have hvD:(nx:List Int).getD ((K|||P)) 0=(nx:List Int)[(K|||P)]:=(by rw[getD_eq_getElem?_getD,getElem?_eq_getElem hKL,getD_some]);obtain⟨v,hv⟩:=Oy ((nx:List Int)[(K|||P)]);rw[<-hv]at zV hvg hvD;obtain⟨hv0,hv1⟩:=hvg;have HvD:=OA hvD;clear hv hvD;have hKI:((K|||P:Nat):Int)<256:=(by omega);have zc0:=stc.2.2.1.cell 0;have zc1:=stc.2.2.1.cell 1;simp only[getElem?_toArray,getElem?_cons_zero,getElem?_cons_succ]at zc0 zc1;have hcl:=stc.2.2.1.lt;have ew2:IntKind.i64.wrap (v+n)=v+n:=i64_in _ (by omega);have hgcn:gc≠gn:=by intro q;have:=stc.2.1.apart stc.2.2.1 (by decide);rw[q]at this;exact this rfl
                 have hgnc:=hgcn.symm;go_wp2_with fail
                 refine rB (fun w'=>w'.cell? ⟨gc,0,none⟩=some (.int .i64 x)/\w'.cell? ⟨gc,1,none⟩=some (.int .i64 y)) fun hHeld=>(tW 0)<|(tW 1)<|(tW 2)<|(tW 3)<|(tW 4)<|(tW 5)<|(tW 6)<|(tW 7)<|(tW 8)<|(tW 9)<|(tW 10)<|(tW 12)<|(tR [11])<|tL fun K hK=>?_
                 go_simp
                 refine tK hK fun hHeld=>?_
                 clear hK K;refine(tW 13)<|(tW 14)<|(tR [15])<|tL fun K hK=>?_
                 go_simp
                 refine tK hK fun hHeld=>?_
                 clear hK K;refine tD ?_;go_wp2_with fail
                 go_meet
                 have own7:=stc.2.1.iJ aL hKL (y:=v+n) rfl;have e7:nx.set (K|||P) (v+n)=fG 0 (fun a b=>a+b) nx (K|||P) n:=(by rw[Fv,HvD.out]);rw[e7]at own7;rw[Hnd.out];exact(stc.put own7 (dI (World.grownBy.refl _ _) _ _)).bl (Below.refl _ _).drew
              case rest=>
               have stR:SSt (w.alloc (.cells #[.slice A rows.length c] 26)) g gc gn x y (aX s i) nd wc:=hcut;have HlR:Hid ((nd:List Int).length=256):=OA Hld.out;have HbR:Hid (Jt nd):=OA Hbd.out;have zcR0:=stR.2.2.1.cell 0;have zcR1:=stR.2.2.1.cell 1;simp only[getElem?_toArray,getElem?_cons_zero,getElem?_cons_succ]at zcR0 zcR1;have bXR:=hx.bl stR.2.2.2.2;have zxR:=bXR.c1;have hlX:=bXR.lt;have hlC:=stR.2.2.1.lt;have hzC:gc≠(wc).heap.size:=(by omega);have BBR:=(hA.tr stR.2.2.2.2).al (.cells #[.int .i64 ((x:Int)+1),.int .i64 y] 70);have stA:=stR.al (.cells #[.int .i64 ((x:Int)+1),.int .i64 y] 70);by_cases hx7:x<7
               . obtain ⟨c1, c2, c3, c4, c5⟩ := xR hlt (show x + 1 < 8 by omega);obtain⟨P2,hP2⟩:=Oy (2^(x+1));have hpp:=Bp (show x+1<8 by omega);rw[<-hP2]at c1 c2 c3 c4 c5 hpp;obtain⟨hpp1,hpp2⟩:=hpp;have hok:aV ((x:Int)+1,(y:Int))=true:=bQ.2 (by simp only;omega);have hcast:((x:Int)+1)=((x+1:Nat):Int):=(by omega);have HP2:=OA hP2;have Hok2:=OA hok;clear hP2 hok;have hq:s.testBit (8*y+(x+1))=jC s i:=by unfold jC;rw[decide_eq_true (by have:=Hx.out;omega),Bool.true_and,show i+1=8*y+(x+1) by have:=Hi.out;omega]
                 have t34:=La (r:=(K:Int)) (x:=x+1) (by omega) (by omega) (by omega);rw[Int.toNat_natCast,hpp1]at t34;have ew:IntKind.i64.wrap ((x:Int)+1)=(x:Int)+1:=i64_in _ (by omega);have ex:((x:Int)+1).toNat=x+1:=(by omega);have ex0:(0:Int)<=(x:Int)+1:=by omega
                 have CH : ∀ w', Below (w.alloc (.cells #[.slice A rows.length c] 26)).heap.size (w.alloc (.cells #[.slice A rows.length c] 26)) w' -> Calls Tryz.prog 164 #[.agg #[.slice A rows.length c], .agg #[.int .i64 ((x : Int) + 1), .int .i64 y]] w' (Ret (.bool (jC s i)) w') := fun w' hb => by
                  have:=jW _ rows (x+1) y w' (h.Oz (hA.tr hb)) Hok (by omega) (by omega);rw[<-Hse.out,hq,<-hcast]at this;exact this
                 clear hq hcast;rcases hr:jC s i with _|_
                 . have Heq : Hid (iP s 0 (fun a b => a + b) (fun n _ => n) i nx K n = nd) := OA (by rw [Hone.out, Hdn.out]; unfold vR; rw [hr]; rfl);rw[hr]at CH;clear hr;go_wp2_with fail
                   refine(gJ _ _ _).mono ?_;rintro e w16 ⟨rfl,hb16⟩;rw[Hok2.out];have st16:=stA.bl hb16;have z16:=(hx.bl st16.2.2.2.2).c1;have bD16:=(Blk.bK wc 70 #[.int .i64 ((x:Int)+1),.int .i64 y]).bl hb16;obtain⟨d_0,d_1⟩:=bD16.n2;go_wp2_with ((refine(CH _ st16.2.2.2.2).mono ?_);rintro e w17 ⟨rfl,hb17⟩;skip)
                   go_roundw
                   case rel=>exact⟨K+1,_,by omega,by go_num,OA (by rw[dA,<-Hnx.out,HnD.out];exact Heq.out.symm),st16.bl hb17⟩
                   case measure=>simp[intOf];omega
                 . have Hr:=OA hr;rw[hr]at CH;clear hr;go_wp2_with fail
                   refine(gJ _ _ _).mono ?_;rintro e w16 ⟨rfl,hb16⟩;rw[Hok2.out];have st16:=stA.bl hb16;have z16:=(hx.bl st16.2.2.2.2).c1;have bD16:=(Blk.bK wc 70 #[.int .i64 ((x:Int)+1),.int .i64 y]).bl hb16;obtain⟨d_0,d_1⟩:=bD16.n2;rcases hk1:K.testBit (x+1)with _|_
                   . rw[hk1]at t34
                     have Heq : Hid (iP s 0 (fun a b => a + b) (fun n _ => n) i nx K n = fG 0 (fun a b => a + b) nd (K ||| P2) n) := OA (by
                      rw[Hone.out,Hdn.out];unfold vR;rw[Hr.out,<-Hx.out,hk1,<-HP2.out];rfl)
                     clear hk1;have eP2:IntKind.i64.wrap (P2:Int)=(P2:Int):=i64_in _ (by omega);go_wp2_with ((refine(CH _ st16.2.2.2.2).mono ?_);rintro e w17 ⟨rfl,hb17⟩;skip)
                     have st17:=st16.bl hb17;have hKL:(K|||P2)<(nd:List Int).length:=by rw[HlR.out];omega
                     have zV:=st17.2.1.slot aL one_pos hKL 0 (.int .i64 (nd:List Int)[(K|||P2)]) rfl;rw[mul_one,add_zero]at zV;have hsf:=st17.2.1.free;have hvg:=HbR.out ((K|||P2)) _ (getElem?_eq_getElem hKL);have hvD:(nd:List Int).getD ((K|||P2)) 0=(nd:List Int)[(K|||P2)]:=(by rw[getD_eq_getElem?_getD,getElem?_eq_getElem hKL,getD_some]);obtain⟨v,hv⟩:=Oy ((nd:List Int)[(K|||P2)]);rw[<-hv]at zV hvg hvD;obtain⟨hv0,hv1⟩:=hvg;have HvD:=OA hvD;clear hv hvD;have hKI:((K|||P2:Nat):Int)<256:=(by omega);have zc0:=st17.2.2.1.cell 0;have zc1:=st17.2.2.1.cell 1;simp only[getElem?_toArray,getElem?_cons_zero,getElem?_cons_succ]at zc0 zc1;have hcl:=st17.2.2.1.lt;have ew2:IntKind.i64.wrap (v+n)=v+n:=i64_in _ (by omega);have hgcn:gc≠gn:=by intro q;have:=st17.2.1.apart st17.2.2.1 (by decide);rw[q]at this;exact this rfl
                     have hgnc:=hgcn.symm;refine rB (fun w'=>w'.cell? ⟨gc,0,none⟩=some (.int .i64 x)/\w'.cell? ⟨gc,1,none⟩=some (.int .i64 y)) fun hHeld=>(tW 0)<|(tW 1)<|(tW 2)<|(tW 3)<|(tW 4)<|(tW 5)<|(tW 6)<|(tW 7)<|(tW 8)<|(tW 9)<|(tW 10)<|(tW 11)<|(tW 12)<|(tW 14)<|(tR [13])<|tL fun K hK=>?_
                     go_simp
                     refine tK hK fun hHeld=>?_
                     clear hK K;refine(tW 15)<|(tW 16)<|(tR [17])<|tL fun K hK=>?_
                     go_simp
                     refine tK hK fun hHeld=>?_
                     clear hK K;refine tD ?_;have own7:=st17.2.1.iJ aL hKL (y:=v+n) rfl;have e7:(nd:List Int).set (K|||P2) (v+n)=fG 0 (fun a b=>a+b) nd (K|||P2) n:=(by rw[Fv,HvD.out]);rw[e7]at own7;go_wp2;go_roundw
                     case rel=>exact⟨K+1,_,by omega,by go_num,OA (by rw[dA,<-Hnx.out,HnD.out];exact Heq.out.symm),(st17.put own7 (dI (World.grownBy.refl _ _) _ _)).bl (Below.refl _ _).drew⟩
                     case measure=>simp[intOf];omega
                   . rw[hk1]at t34;have Heq:Hid (iP s 0 (fun a b=>a+b) (fun n _=>n) i nx K n=nd):=OA (by rw[Hone.out,Hdn.out];unfold vR;rw[Hr.out,<-Hx.out,hk1];rfl);clear hk1;go_wp2_with ((refine(CH _ st16.2.2.2.2).mono ?_);rintro e w17 ⟨rfl,hb17⟩;skip)
                     go_roundw
                     case rel=>exact⟨K+1,_,by omega,by go_num,OA (by rw[dA,<-Hnx.out,HnD.out];exact Heq.out.symm),st16.bl hb17⟩
                     case measure=>simp[intOf];omega
               . have hok:aV ((x:Int)+1,(y:Int))=false:=by
                  rcases e:aV ((x:Int)+1,(y:Int))with _|_
                  . rfl
                  . have:=bQ.1 e;simp only at this;omega
                 have Hok2:=OA hok;have Heq:Hid (iP s 0 (fun a b=>a+b) (fun n _=>n) i nx K n=nd):=OA (by rw[Hone.out,Hdn.out];unfold vR jC;rw[decide_eq_false (by have:=Hx.out;omega)];rfl);clear hok;go_wp2_with fail
                 refine(gJ _ _ _).mono ?_;rintro e w16 ⟨rfl,hb16⟩;rw[Hok2.out];go_wp2;go_roundw
                 case rel=>exact⟨K+1,_,by omega,by go_num,OA (by rw[dA,<-Hnx.out,HnD.out];exact Heq.out.symm),(stA.bl hb16)⟩
                 case measure=>simp[intOf];omega
         . have hB:=hover hbk;rw[hB,hbk]at hone;rw[hbk]at t16;obtain⟨k1,k2,_⟩:=mQ K hlt x hx8 hbk;rw[<-HP.out]at k1 k2;have hsub:(K:Int)-(P:Int)=((K-P:Nat):Int):=(by omega);have Hone:=OA hone;have HB:=OA hB;have Hbk:=OA hbk;clear hone hB hbk hover;have Heq:Hid (iP s 0 (fun a b=>a+b) (fun n _=>n) i nx K n=fG 0 (fun a b=>a+b) nx (K-P) n):=OA (by rw[Hone.out];rfl);go_wp2_with fail
           refine(jW _ rows x y _ (h.Oz (hA.tr hst.2.2.2.2)) Hok hx8 hy8).mono ?_;rintro e w6 ⟨rfl,hb6⟩;rw[<-Hse.out,<-Hi.out,HB.out];have st6:=hst.bl hb6;have hKL:(K-P)<(nx:List Int).length:=by rw[Hnl.out];omega
           have zV:=st6.2.1.slot aL one_pos hKL 0 (.int .i64 (nx:List Int)[(K-P)]) rfl;rw[mul_one,add_zero]at zV;have hsf:=st6.2.1.free;have hvg:=HbN.out ((K-P)) _ (getElem?_eq_getElem hKL);have hvD:(nx:List Int).getD ((K-P)) 0=(nx:List Int)[(K-P)]:=(by rw[getD_eq_getElem?_getD,getElem?_eq_getElem hKL,getD_some]);obtain⟨v,hv⟩:=Oy ((nx:List Int)[(K-P)]);rw[<-hv]at zV hvg hvD;obtain⟨hv0,hv1⟩:=hvg;have HvD:=OA hvD;clear hv hvD;have hKI:((K-P:Nat):Int)<256:=(by omega);have own7:=st6.2.1.iJ aL hKL (y:=v+n) rfl;have e7:(nx:List Int).set ((K-P)) (v+n)=fG 0 (fun a b=>a+b) nx ((K-P)) n:=(by rw[Fv,HvD.out]);rw[e7]at own7;go_wp2;go_roundw
           case rel=>exact⟨K+1,_,by omega,by go_num,OA (by rw[dA,<-Hnx.out,HnD.out];exact Heq.out.symm),st6.put own7 (dI (World.grownBy.refl _ _) _ _)⟩
           case measure=>simp[intOf];omega
     . obtain rfl : K = 256 := by omega
       have e1:aX s (i+1)=nx:=by rw[Bq];exact Hnx.out.symm
       have E1:=OA e1;clear e1;go_wp2;go_roundw
       case rel=>exact⟨i+1,gn,by omega,by go_num,rfl,by rw[E1.out];exact hst.2.1,hst.2.2.2.2⟩
       case measure=>simp[intOf];omega
  . obtain rfl : i = 64 := by omega
    have hil:0<(aX s 64).length:=by unfold aX;rw[uW];decide
    have zK:=hnow.slot aL one_pos hil 0 (.int .i64 (aX s 64)[0]) rfl;rw[mul_one,add_zero]at zK;have hgD:R=(aX s 64)[0]:=by rw[HR.out];unfold gU;rw[getD_eq_getElem?_getD,getElem?_eq_getElem hil,getD_some]
    rw[<-hgD]at zK;clear hgD;go_wp2;go_ret;exact⟨rfl,hA.tr hbel2⟩
end Go.Proofs.YtljfoohaapckeaaGreatDoor
