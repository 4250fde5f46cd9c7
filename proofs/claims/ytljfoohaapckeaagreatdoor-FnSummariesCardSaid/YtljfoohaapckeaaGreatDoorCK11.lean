/- CheapestPrice of the reference: the walk. No conditions but sizes. The reference's count of tilings by profiles: the walk. No conditions but sizes.. Conditions, where there are any, stand in the statements. -/
import Derived.Test.YtljfoohaapckeaaGreatDoorCK10
import Derived.Test.YtljfoohaapckeaaGreatDoorCK4
import Derived.Test.YtljfoohaapckeaaGreatDoorCK3
import Derived.Deep.DeepCutAuto
import Derived.Test.YtljfoohaapckeaaGreatDoorCK9
open _root_.List (replicate getElem?_eq_getElem getD_eq_getElem?_getD getElem?_toArray getElem?_cons_zero getElem?_cons_succ)
open _root_.Nat (one_pos mul_one add_zero)
open _root_.Option (getD_some)
open _root_.Go.IntWalk (i64_in)
namespace Go.Proofs.YtljfoohaapckeaaGreatDoor
open Go.ChangeShapes Go.WideShapes Go.ChangeAt Go.RowKit
set_option linter.unusedVariables false
set_option linter.unusedSimpArgs false
set_option maxHeartbeats 4000000
set_option maxRecDepth 100000
def SSt (W0:World) (g gc gn x y:Nat) (now nx:List Int) (wr:World):Prop:=
 aC 3 1 bT W0.heap.size wr (.slice (some ⟨g,0,none⟩) 256 256) now/\aC 3 1 bT W0.heap.size wr (.slice (some ⟨gn,0,none⟩) 256 256) nx/\Blk wr gc 70 #[.int .i64 x,.int .i64 y]/\g≠gn/\Below W0.heap.size W0 wr
section
variable {W0 wr w' : World} {g gc gn x y : Nat} {now nx : List Int}
theorem SSt.bl (h:SSt W0 g gc gn x y now nx wr) (hb:Below wr.heap.size wr w'):SSt W0 g gc gn x y now nx w':=by
 obtain⟨a,b,c,e,f⟩:=h;exact⟨a.below hb,b.below hb,c.bl hb,e,f.tr hb⟩
theorem SSt.put (h:SSt W0 g gc gn x y now nx wr) {r:List Int} (own:aC 3 1 bT W0.heap.size w' (.slice (some ⟨gn,0,none⟩) 256 256) r) (hg:wr.grownBy w' (some gn)):SSt W0 g gc gn x y now r w':=by
 obtain⟨a,b,c,e,f⟩:=h;have hc:gc≠gn:=by intro q;have:=b.apart c (by decide);rw[q]at this;exact this rfl
 refine⟨World.ownsRow.kept a hg (.inr (by simp[Value.ownBlock];exact e)),own,c.grown hg (by simpa using hc),e,f.grown hg f.size (fun k hk=> ?_)⟩;injection hk with hk;rw[<-hk];exact b.at_.2.1
end
theorem Oh {r:Int} {x:Nat} (h0:0<=r) (h1:r<=255) (hx:x<8):(bits .and .i64 (r/2^x) 1==0)= !r.toNat.testBit x:=by
 rw[<-GX h0 h1 hx,zY,Bool.eq_iff_iff,beq_iff_eq,Bool.not_eq_true',beq_eq_false_iff_ne];omega
theorem IZ (i x y:Nat) (w:World) (hi:i<64) (hx:x=i%8) (hy:y=i/8):Calls Tryz.prog 84 #[.int .i64 i] w (Ret (.tuple #[.agg #[.int .i64 x,.int .i64 y],.bool true]) w):=by
 have:=vI i w hi;rw[hx,hy];simpa using this
theorem Iq (nx : List Int) (k : Nat) (n : Int) : fQ 0 (fun a b => a + b) nx k n = nx.set k (nx.getD k 0 + n) := by
 unfold fQ;by_cases h:nx.getD k 0=0
 . rw[if_pos h,h,Int.zero_add]
 . rw[if_neg h]
theorem SSt.al {W0 wr:World} {g gc gn x y:Nat} {now nx:List Int} (h:SSt W0 g gc gn x y now nx wr) (o:Obj):SSt W0 g gc gn x y now nx (wr.alloc o):=h.bl ((Below.refl _ _).al o)
theorem uK (v:Value) (rows:List Int) (w:World) (h:Rd 1 bV w v rows) (Hok:Hid (dK rows)):Calls Tryz.prog 182 #[.agg #[v]] w (Ret (.int .i64 (fF (setOf rows))) w):=by
 obtain⟨A,c,rfl,hc,hm⟩:=h.form;have hA:=(Below.refl w.heap.size w).al (.cells #[.slice A rows.length c] 26);have hx:=Blk.aY w 26 #[.slice A rows.length c];have h256:Hid ((256:Int)=((256:Nat):Int)):=SQ rfl;have hs:=dM Hok.out;obtain⟨s,hse⟩:=SL (setOf rows);rw[<-hse]at hs⊢;have Hse:=SQ hse;clear hse;obtain⟨R,hR⟩:=SL (fF s);rw[<-hR];have HR:=SQ hR;clear hR;have B0:=Below.refl (w.alloc (.cells #[.slice A rows.length c] 26)).heap.size (w.alloc (.cells #[.slice A rows.length c] 26));go_enter Tryz.func182,Tryz.ntmps182
 go_wp2_with (at_make;go_must (refine mI (enc:=bT) (z0:=(0:Int)) fU rfl B0 256 (by decide) (by decide) _ h256.out rfl _ _ rfl rfl rfl ?_);intro w1 hown1 hb1 hg1;have hown2:aC 3 1 bT (w.alloc (.cells #[.slice A rows.length c] 26)).heap.size w1 (.slice (some ⟨w.heap.size+1,0,none⟩) 256 256) (replicate 256 (0:Int)):=(by simpa using hown1);have hl0:0<(replicate 256 (0:Int)).length:=(by rw[List.length_replicate];decide);obtain⟨u2,s2⟩:=hown2.Dc aN hl0;have hsf2:=hown2.free;have own3:=hown2.iU aN hl0 (y:=1) rfl;have e0:bQ s 0=(replicate 256 (0:Int)).set 0 1:=rfl;rw[<-e0]at own3;have B3:=hb1.st ⟨w.heap.size+1,0,none⟩ (.int .i64 1) (by simp);clear e0 hl0)
 go_loopw [4,5] (fun s4 s5 wr=>∃(i g:Nat),i<=64/\s5= .int .i64 i/\s4= .slice (some ⟨g,0,none⟩) 256 256/\aC 3 1 bT (w.alloc (.cells #[.slice A rows.length c] 26)).heap.size wr (.slice (some ⟨g,0,none⟩) 256 256) (bQ s i)/\Below (w.alloc (.cells #[.slice A rows.length c] 26)).heap.size (w.alloc (.cells #[.slice A rows.length c] 26)) wr) (fun _ i _=>64-(intOf i).toNat)
 case atStart=>exact⟨0,w.heap.size+1,by omega,rfl,rfl,own3,B3⟩
 case round=>
  obtain⟨i,g,hi,rfl,rfl,hnow,hbel2⟩:=hrel;clear own3 B3 hown1 hown2 hb1 hg1 s2 hsf2;by_cases hi64:i<64
  . obtain⟨x,hx'⟩:=SL (i%8);obtain⟨y,hy⟩:=SL (i/8);have hx8:x<8:=(by omega);have hy8:y<8:=(by omega);have hxI:(i:Int)%8=(x:Int):=(by omega);have Hx:=SQ hx';have Hy:=SQ hy;clear hx' hy;go_wp2_with fail
    refine(IZ i x y _ hi64 Hx.out Hy.out).mono ?_;rintro e w4 ⟨rfl,hb4⟩;try rw[hxI]
    clear hxI;have B4:=(hbel2.tr hb4).al (.cells #[.int .i64 x,.int .i64 y] 70);have bC:=Blk.aY w4 70 #[.int .i64 x,.int .i64 y];have now4:=(hnow.below hb4).alloc (.cells #[.int .i64 x,.int .i64 y] 70);go_wp2_with (at_make;go_must (refine mI (enc:=bT) (z0:=(0:Int)) fU rfl B4 256 (by decide) (by decide) _ h256.out rfl _ _ rfl rfl rfl ?_);intro w5 hown5 hb5 hg5)
    have st5:SSt (w.alloc (.cells #[.slice A rows.length c] 26)) g w4.heap.size (w4.heap.size+1) x y (bQ s i) (replicate 256 0) w5:=by
     have hgl:=(hnow.below hb4).at_.2.2;exact⟨World.ownsRow.kept now4 hg5 (.inr (by simp[Value.ownBlock])),(by simpa using hown5:aC 3 1 bT (w.alloc (.cells #[.slice A rows.length c] 26)).heap.size w5 (.slice (some ⟨w4.heap.size+1,0,none⟩) 256 256) (replicate 256 0)),bC.grown hg5 (by simp),by omega,hb5⟩
    obtain⟨gn,hgn⟩:=SL (w4.heap.size+1);rw[<-hgn]at st5⊢;obtain⟨gc,hgc⟩:=SL w4.heap.size;rw[<-hgc]at st5⊢;have hxI:(i:Int)%8=(x:Int):=by have:=Hx.out;omega
    try rw[hxI]
    have hpow:=DN hx8;obtain⟨P,hP⟩:=SL (2^x);rw[<-hP]at hpow;obtain⟨hp2,hp8⟩:=hpow;have HP:=SQ hP;clear hgc hgn hxI hP;go_loopw [10] (fun s10 wr=>∃(K:Nat) (nx:List Int),K<=256/\s10= .int .i64 K/\Hid (nx=mG s 0 (fun a b=>a+b) (fun n _=>n) (bQ s i) i K)/\SSt (w.alloc (.cells #[.slice A rows.length c] 26)) g gc gn x y (bQ s i) nx wr) (fun i _=>256-(intOf i).toNat)
    case atStart=>exact⟨0,_,by omega,rfl,SQ (by unfold mG;rw[List.range_zero];rfl),st5⟩
    case round=>
     obtain⟨K,nx,hK,rfl,Hnx,hst⟩:=hrel;clear st5 hnow hbel2 now4 hown5 hb5 hg5 B4 bC hb4;by_cases hlt:K<256
     . have hil : K < (bQ s i).length := by unfold bQ; rw [xH]; exact hlt
       have zK:=hst.1.slot aN one_pos hil 0 (.int .i64 (bQ s i)[K]) rfl;rw[mul_one,add_zero]at zK;have hgood:=L8 s i K hi64 hlt _ (getElem?_eq_getElem hil);have hgD:(bQ s i).getD K 0=(bQ s i)[K]:=(by rw[getD_eq_getElem?_getD,getElem?_eq_getElem hil,getD_some]);obtain⟨n,hn⟩:=SL ((bQ s i)[K]);rw[<-hn]at zK hgood hgD;have HnD:=SQ hgD;clear hn hgD hil;have hnx:nx.length=256:=(by rw[Hnx.out,lY]);have Hnl:=SQ hnx;clear hnx;by_cases hn1:n=0
       . subst hn1;have Heq:Hid (jH s 0 (fun a b=>a+b) (fun n _=>n) i nx K 0=nx):=SQ (by unfold jH;rw[if_pos rfl]);clear hgood;go_wp2;go_roundw
         case rel=>exact⟨K+1,_,by omega,by go_num,SQ (by rw[dI,<-Hnx.out,HnD.out];exact Heq.out.symm),hst⟩
         case measure=>simp[intOf];omega
       . have hn1b : (n == 0) = false := by simpa using hn1
         obtain⟨hn0,hnB,hov⟩:=hgood.resolve_left hn1;have hi8:i=8*y+x:=by have:=Hx.out;have:=Hy.out;omega
         have Hi:=SQ hi8;have HbN:Hid (LZ nx):=SQ (by rw[Hnx.out];exact Bi s i K hi64 hlt);have HbD:Hid (LZ (rU s 0 (fun a b=>a+b) (fun n _=>n) i nx K n)):=SQ (by rw[<-HnD.out,Hnx.out];exact Jv s i K hi64 hlt);have t16:=GX (r:=(K:Int)) (x:=x) (by omega) (by omega) hx8;rw[Int.toNat_natCast,hp2]at t16;have hover:K.testBit (i%8)=true->s.testBit i=true:=fun q=>EH hov q
         have hone : jH s 0 (fun a b => a + b) (fun n _ => n) i nx K n = if s.testBit i then (if K.testBit x then fQ 0 (fun a b => a + b) nx (K - P) n else yJ s 0 (fun a b => a + b) (fun n _ => n) i (rU s 0 (fun a b => a + b) (fun n _ => n) i nx K n) K n) else (if K.testBit x then nx else fQ 0 (fun a b => a + b) nx K n) := by
          unfold jH;rw[if_neg hn1,<-Hx.out,<-HP.out]
         rw[<-Hx.out]at hover;clear hov hn1 hi8;have zc0:=hst.2.2.1.cell 0;have zc1:=hst.2.2.1.cell 1;simp only[getElem?_toArray,getElem?_cons_zero,getElem?_cons_succ]at zc0 zc1;have bXr:=hx.bl hst.2.2.2.2;have zx:=bXr.c1;rcases hbk:K.testBit x with _|_
         . rcases hB:s.testBit i with _|_
           . rw[hB,hbk]at hone;rw[hbk]at t16;have Hone:=SQ hone;have HB:=SQ hB;have Hbk:=SQ hbk;clear hone hB hbk hover;have Heq:Hid (jH s 0 (fun a b=>a+b) (fun n _=>n) i nx K n=fQ 0 (fun a b=>a+b) nx K n):=SQ (by rw[Hone.out];rfl);go_wp2_with fail
             refine(kY _ rows x y _ (h.SN (hA.tr hst.2.2.2.2)) Hok hx8 hy8).mono ?_;rintro e w6 ⟨rfl,hb6⟩;rw[<-Hse.out,<-Hi.out,HB.out];have st6:=hst.bl hb6;have hKL:K<(nx:List Int).length:=by rw[Hnl.out];omega
             have zV:=st6.2.1.slot aN one_pos hKL 0 (.int .i64 (nx:List Int)[K]) rfl;rw[mul_one,add_zero]at zV;have hsf:=st6.2.1.free;have hvg:=HbN.out (K) _ (getElem?_eq_getElem hKL);have hvD:(nx:List Int).getD (K) 0=(nx:List Int)[K]:=(by rw[getD_eq_getElem?_getD,getElem?_eq_getElem hKL,getD_some]);obtain⟨v,hv⟩:=SL ((nx:List Int)[K]);rw[<-hv]at zV hvg hvD;obtain⟨hv0,hv1⟩:=hvg;have HvD:=SQ hvD;clear hv hvD;have hKI:(K:Int)<256:=(by omega);have own7:=st6.2.1.iU aN hKL (y:=v+n) rfl;have e7:(nx:List Int).set (K) (v+n)=fQ 0 (fun a b=>a+b) nx (K) n:=(by rw[Iq,HvD.out]);rw[e7]at own7;go_wp2;go_roundw
             case rel=>exact⟨K+1,_,by omega,by go_num,SQ (by rw[dI,<-Hnx.out,HnD.out];exact Heq.out.symm),st6.put own7 (eF (World.grownBy.refl _ _) _ _)⟩
             case measure=>simp[intOf];omega
           . rw[hB,hbk]at hone;rw[hbk]at t16;have Hone:=SQ hone;have HB:=SQ hB;have Hbk:=SQ hbk;clear hone hB hbk hover;obtain⟨a1,a2,a3,a4,a5⟩:=Ay hlt hx8;rw[<-HP.out]at a1 a2 a3 a4 a5;go_wp2_with fail
             refine(kY _ rows x y _ (h.SN (hA.tr hst.2.2.2.2)) Hok hx8 hy8).mono ?_;rintro e w6 ⟨rfl,hb6⟩;rw[<-Hse.out,<-Hi.out,HB.out];have st6:=hst.bl hb6;have bX6:=hx.bl st6.2.2.2.2;have hlX6:=bX6.lt;have hlC6:=st6.2.2.1.lt;have hzC6:gc≠w6.heap.size:=(by omega);have zx6:=bX6.c1;have zc60:=st6.2.2.1.cell 0;have zc61:=st6.2.2.1.cell 1;simp only[getElem?_toArray,getElem?_cons_zero,getElem?_cons_succ]at zc60 zc61;clear zc0 zc1 zx bXr t16 zK;have hld:=sW (s:=s) (no:=0) (add:=fun a b=>a+b) (wt:=fun n _=>n) i nx K n
             have hdv : rU s 0 (fun a b => a + b) (fun n _ => n) i nx K n = if jT s i then fQ 0 (fun a b => a + b) nx (K ||| P) n else nx := by
              unfold rU;rw[<-Hx.out,<-HP.out]
             obtain⟨nd,hnd⟩:∃nd,nd=rU s 0 (fun a b=>a+b) (fun n _=>n) i nx K n:=⟨_,rfl⟩;have hbd:=HbD.out;rw[<-hnd]at hld hdv hbd;rw[Hnl.out]at hld;have Hdn:Hid (rU s 0 (fun a b=>a+b) (fun n _=>n) i nx K n=nd):=SQ hnd.symm;have Hld:=SQ hld;have Hdv:=SQ hdv;have Hbd:=SQ hbd;clear hld hdv hnd hbd;have stA:=st6.al (.cells #[.int .i64 x,.int .i64 ((y:Int)+1)] 70);go_upto_region 25 with(fail)
             go_cut [99] (fun s99 wx=>s99= .bool (jT s i)/\SSt (w.alloc (.cells #[.slice A rows.length c] 26)) g gc gn x y (bQ s i) nx wx)
             case first=>
              by_cases hy7:y<7
              . have hok : aX ((x : Int), (y : Int) + 1) = true := cZ.2 (by simp only; omega);have Hok2:=SQ hok;clear hok;have hq:s.testBit (8*(y+1)+x)=jT s i:=by unfold jT;rw[decide_eq_true (by have:=Hi.out;omega),Bool.true_and,show i+8=8*(y+1)+x by have:=Hi.out;omega]
                have hcast:((y:Int)+1)=((y+1:Nat):Int):=by omega
                have CH : ∀ w', Below (w.alloc (.cells #[.slice A rows.length c] 26)).heap.size (w.alloc (.cells #[.slice A rows.length c] 26)) w' -> Calls Tryz.prog 164 #[.agg #[.slice A rows.length c], .agg #[.int .i64 x, .int .i64 ((y : Int) + 1)]] w' (Ret (.bool (jT s i)) w') := fun w' hb => by
                 have:=kY _ rows x (y+1) w' (h.SN (hA.tr hb)) Hok (by omega) (by omega);rw[<-Hse.out,hq,<-hcast]at this;exact this
                clear hq hcast;go_wp2_with fail
                refine(iF _ _ _).mono ?_;rintro e w16 ⟨rfl,hb16⟩;rw[Hok2.out];have st16:=stA.bl hb16;have z16:=(hx.bl st16.2.2.2.2).c1;have bD16:=(Blk.aY w6 70 #[.int .i64 x,.int .i64 ((y:Int)+1)]).bl hb16;obtain⟨d_0,d_1⟩:=bD16.n2;go_wp2_with ((refine(CH _ st16.2.2.2.2).mono ?_);rintro e w17 ⟨rfl,hb17⟩;skip)
                go_meet
                exact⟨rfl,st16.bl hb17⟩
              . have hok:aX ((x:Int),(y:Int)+1)=false:=by
                 rcases e:aX ((x:Int),(y:Int)+1)with _|_
                 . rfl
                 . have:=cZ.1 e;simp only at this;omega
                have Hok2:=SQ hok;clear hok;have Hd:Hid (jT s i=false):=SQ (by unfold jT;rw[decide_eq_false (by have:=Hi.out;omega)];rfl);go_wp2_with fail
                refine(iF _ _ _).mono ?_;rintro e w16 ⟨rfl,hb16⟩;rw[Hok2.out];go_wp2_with fail
                go_meet
                exact⟨by rw[Hd.out],stA.bl hb16⟩
             case rest=>
              obtain⟨rfl,stc⟩:=hcut;clear zx6 zc60 zc61 hzC6;go_upto_if 99 with(fail)
              go_cut [113] (fun s113 wx=>SSt (w.alloc (.cells #[.slice A rows.length c] 26)) g gc gn x y (bQ s i) nd wx)
              case first=>
               rcases hd:jT s i with _|_
               . have hnd : nd = nx := by rw [Hdv.out, hd]; rfl
                 have Hnd:=SQ hnd;clear hd hnd;go_wp2_with fail
                 go_meet
                 rw[Hnd.out];exact stc
               . have hnd : nd = fQ 0 (fun a b => a + b) nx (K ||| P) n := by rw [Hdv.out, hd]; rfl
                 have Hnd:=SQ hnd;clear hd hnd;have eP:IntKind.i64.wrap (P:Int)=(P:Int):=i64_in _ (by omega);have hKL:(K|||P)<(nx:List Int).length:=by rw[Hnl.out];omega
                 have zV:=stc.2.1.slot aN one_pos hKL 0 (.int .i64 (nx:List Int)[(K|||P)]) rfl;rw[mul_one,add_zero]at zV;have hsf:=stc.2.1.free;have hvg:=HbN.out ((K|||P)) _ (getElem?_eq_getElem hKL);have hvD:(nx:List Int).getD ((K|||P)) 0=(nx:List Int)[(K|||P)]:=(by rw[getD_eq_getElem?_getD,getElem?_eq_getElem hKL,getD_some]);obtain⟨v,hv⟩:=SL ((nx:List Int)[(K|||P)]);rw[<-hv]at zV hvg hvD;obtain⟨hv0,hv1⟩:=hvg;have HvD:=SQ hvD;clear hv hvD;have hKI:((K|||P:Nat):Int)<256:=(by omega);have zc0:=stc.2.2.1.cell 0;have zc1:=stc.2.2.1.cell 1;simp only[getElem?_toArray,getElem?_cons_zero,getElem?_cons_succ]at zc0 zc1;have hcl:=stc.2.2.1.lt;have ew2:IntKind.i64.wrap (v+n)=v+n:=i64_in _ (by omega);have hgcn:gc≠gn:=by intro q;have:=stc.2.1.apart stc.2.2.1 (by decide);rw[q]at this;exact this rfl
                 have hgnc:=hgcn.symm;go_wp2_with fail
                 refine rB (fun w'=>w'.cell? ⟨gc,0,none⟩=some (.int .i64 x)/\w'.cell? ⟨gc,1,none⟩=some (.int .i64 y)) fun hHeld=>(tW 0)<|(tW 1)<|(tW 2)<|(tW 3)<|(tW 4)<|(tW 5)<|(tW 6)<|(tW 7)<|(tW 8)<|(tW 9)<|(tW 10)<|(tW 12)<|(tR [11])<|tL fun K hK=>?_
                 go_simp
                 refine tK hK fun hHeld=>?_
                 clear hK K;refine(tW 13)<|(tW 14)<|(tR [15])<|tL fun K hK=>?_
                 go_simp
                 refine tK hK fun hHeld=>?_
                 clear hK K;refine tD ?_;go_wp2_with fail
                 go_meet
                 have own7:=stc.2.1.iU aN hKL (y:=v+n) rfl;have e7:nx.set (K|||P) (v+n)=fQ 0 (fun a b=>a+b) nx (K|||P) n:=(by rw[Iq,HvD.out]);rw[e7]at own7;rw[Hnd.out];exact(stc.put own7 (eF (World.grownBy.refl _ _) _ _)).bl (Below.refl _ _).drew
              case rest=>
               have stR:SSt (w.alloc (.cells #[.slice A rows.length c] 26)) g gc gn x y (bQ s i) nd wc:=hcut;have HlR:Hid ((nd:List Int).length=256):=SQ Hld.out;have HbR:Hid (LZ nd):=SQ Hbd.out;have zcR0:=stR.2.2.1.cell 0;have zcR1:=stR.2.2.1.cell 1;simp only[getElem?_toArray,getElem?_cons_zero,getElem?_cons_succ]at zcR0 zcR1;have bXR:=hx.bl stR.2.2.2.2;have zxR:=bXR.c1;have hlX:=bXR.lt;have hlC:=stR.2.2.1.lt;have hzC:gc≠(wc).heap.size:=(by omega);have BBR:=(hA.tr stR.2.2.2.2).al (.cells #[.int .i64 ((x:Int)+1),.int .i64 y] 70);have stA:=stR.al (.cells #[.int .i64 ((x:Int)+1),.int .i64 y] 70);by_cases hx7:x<7
               . obtain ⟨c1, c2, c3, c4, c5⟩ := Ay hlt (show x + 1 < 8 by omega);obtain⟨P2,hP2⟩:=SL (2^(x+1));have hpp:=DN (show x+1<8 by omega);rw[<-hP2]at c1 c2 c3 c4 c5 hpp;obtain⟨hpp1,hpp2⟩:=hpp;have hok:aX ((x:Int)+1,(y:Int))=true:=cZ.2 (by simp only;omega);have hcast:((x:Int)+1)=((x+1:Nat):Int):=(by omega);have HP2:=SQ hP2;have Hok2:=SQ hok;clear hP2 hok;have hq:s.testBit (8*y+(x+1))=jU s i:=by unfold jU;rw[decide_eq_true (by have:=Hx.out;omega),Bool.true_and,show i+1=8*y+(x+1) by have:=Hi.out;omega]
                 have t34:=Oh (r:=(K:Int)) (x:=x+1) (by omega) (by omega) (by omega);rw[Int.toNat_natCast,hpp1]at t34;have ew:IntKind.i64.wrap ((x:Int)+1)=(x:Int)+1:=i64_in _ (by omega);have ex:((x:Int)+1).toNat=x+1:=(by omega);have ex0:(0:Int)<=(x:Int)+1:=by omega
                 have CH : ∀ w', Below (w.alloc (.cells #[.slice A rows.length c] 26)).heap.size (w.alloc (.cells #[.slice A rows.length c] 26)) w' -> Calls Tryz.prog 164 #[.agg #[.slice A rows.length c], .agg #[.int .i64 ((x : Int) + 1), .int .i64 y]] w' (Ret (.bool (jU s i)) w') := fun w' hb => by
                  have:=kY _ rows (x+1) y w' (h.SN (hA.tr hb)) Hok (by omega) (by omega);rw[<-Hse.out,hq,<-hcast]at this;exact this
                 clear hq hcast;rcases hr:jU s i with _|_
                 . have Heq : Hid (jH s 0 (fun a b => a + b) (fun n _ => n) i nx K n = nd) := SQ (by rw [Hone.out, Hdn.out]; unfold yJ; rw [hr]; rfl);rw[hr]at CH;clear hr;go_wp2_with fail
                   refine(iF _ _ _).mono ?_;rintro e w16 ⟨rfl,hb16⟩;rw[Hok2.out];have st16:=stA.bl hb16;have z16:=(hx.bl st16.2.2.2.2).c1;have bD16:=(Blk.aY wc 70 #[.int .i64 ((x:Int)+1),.int .i64 y]).bl hb16;obtain⟨d_0,d_1⟩:=bD16.n2;go_wp2_with ((refine(CH _ st16.2.2.2.2).mono ?_);rintro e w17 ⟨rfl,hb17⟩;skip)
                   go_roundw
                   case rel=>exact⟨K+1,_,by omega,by go_num,SQ (by rw[dI,<-Hnx.out,HnD.out];exact Heq.out.symm),st16.bl hb17⟩
                   case measure=>simp[intOf];omega
                 . have Hr:=SQ hr;rw[hr]at CH;clear hr;go_wp2_with fail
                   refine(iF _ _ _).mono ?_;rintro e w16 ⟨rfl,hb16⟩;rw[Hok2.out];have st16:=stA.bl hb16;have z16:=(hx.bl st16.2.2.2.2).c1;have bD16:=(Blk.aY wc 70 #[.int .i64 ((x:Int)+1),.int .i64 y]).bl hb16;obtain⟨d_0,d_1⟩:=bD16.n2;rcases hk1:K.testBit (x+1)with _|_
                   . rw[hk1]at t34
                     have Heq : Hid (jH s 0 (fun a b => a + b) (fun n _ => n) i nx K n = fQ 0 (fun a b => a + b) nd (K ||| P2) n) := SQ (by
                      rw[Hone.out,Hdn.out];unfold yJ;rw[Hr.out,<-Hx.out,hk1,<-HP2.out];rfl)
                     clear hk1;have eP2:IntKind.i64.wrap (P2:Int)=(P2:Int):=i64_in _ (by omega);go_wp2_with ((refine(CH _ st16.2.2.2.2).mono ?_);rintro e w17 ⟨rfl,hb17⟩;skip)
                     have st17:=st16.bl hb17;have hKL:(K|||P2)<(nd:List Int).length:=by rw[HlR.out];omega
                     have zV:=st17.2.1.slot aN one_pos hKL 0 (.int .i64 (nd:List Int)[(K|||P2)]) rfl;rw[mul_one,add_zero]at zV;have hsf:=st17.2.1.free;have hvg:=HbR.out ((K|||P2)) _ (getElem?_eq_getElem hKL);have hvD:(nd:List Int).getD ((K|||P2)) 0=(nd:List Int)[(K|||P2)]:=(by rw[getD_eq_getElem?_getD,getElem?_eq_getElem hKL,getD_some]);obtain⟨v,hv⟩:=SL ((nd:List Int)[(K|||P2)]);rw[<-hv]at zV hvg hvD;obtain⟨hv0,hv1⟩:=hvg;have HvD:=SQ hvD;clear hv hvD;have hKI:((K|||P2:Nat):Int)<256:=(by omega);have zc0:=st17.2.2.1.cell 0;have zc1:=st17.2.2.1.cell 1;simp only[getElem?_toArray,getElem?_cons_zero,getElem?_cons_succ]at zc0 zc1;have hcl:=st17.2.2.1.lt;have ew2:IntKind.i64.wrap (v+n)=v+n:=i64_in _ (by omega);have hgcn:gc≠gn:=by intro q;have:=st17.2.1.apart st17.2.2.1 (by decide);rw[q]at this;exact this rfl
                     have hgnc:=hgcn.symm;refine rB (fun w'=>w'.cell? ⟨gc,0,none⟩=some (.int .i64 x)/\w'.cell? ⟨gc,1,none⟩=some (.int .i64 y)) fun hHeld=>(tW 0)<|(tW 1)<|(tW 2)<|(tW 3)<|(tW 4)<|(tW 5)<|(tW 6)<|(tW 7)<|(tW 8)<|(tW 9)<|(tW 10)<|(tW 11)<|(tW 12)<|(tW 14)<|(tR [13])<|tL fun K hK=>?_
                     go_simp
                     refine tK hK fun hHeld=>?_
                     clear hK K;refine(tW 15)<|(tW 16)<|(tR [17])<|tL fun K hK=>?_
                     go_simp
                     refine tK hK fun hHeld=>?_
                     clear hK K;refine tD ?_;have own7:=st17.2.1.iU aN hKL (y:=v+n) rfl;have e7:(nd:List Int).set (K|||P2) (v+n)=fQ 0 (fun a b=>a+b) nd (K|||P2) n:=(by rw[Iq,HvD.out]);rw[e7]at own7;go_wp2;go_roundw
                     case rel=>exact⟨K+1,_,by omega,by go_num,SQ (by rw[dI,<-Hnx.out,HnD.out];exact Heq.out.symm),(st17.put own7 (eF (World.grownBy.refl _ _) _ _)).bl (Below.refl _ _).drew⟩
                     case measure=>simp[intOf];omega
                   . rw[hk1]at t34;have Heq:Hid (jH s 0 (fun a b=>a+b) (fun n _=>n) i nx K n=nd):=SQ (by rw[Hone.out,Hdn.out];unfold yJ;rw[Hr.out,<-Hx.out,hk1];rfl);clear hk1;go_wp2_with ((refine(CH _ st16.2.2.2.2).mono ?_);rintro e w17 ⟨rfl,hb17⟩;skip)
                     go_roundw
                     case rel=>exact⟨K+1,_,by omega,by go_num,SQ (by rw[dI,<-Hnx.out,HnD.out];exact Heq.out.symm),st16.bl hb17⟩
                     case measure=>simp[intOf];omega
               . have hok:aX ((x:Int)+1,(y:Int))=false:=by
                  rcases e:aX ((x:Int)+1,(y:Int))with _|_
                  . rfl
                  . have:=cZ.1 e;simp only at this;omega
                 have Hok2:=SQ hok;have Heq:Hid (jH s 0 (fun a b=>a+b) (fun n _=>n) i nx K n=nd):=SQ (by rw[Hone.out,Hdn.out];unfold yJ jU;rw[decide_eq_false (by have:=Hx.out;omega)];rfl);clear hok;go_wp2_with fail
                 refine(iF _ _ _).mono ?_;rintro e w16 ⟨rfl,hb16⟩;rw[Hok2.out];go_wp2;go_roundw
                 case rel=>exact⟨K+1,_,by omega,by go_num,SQ (by rw[dI,<-Hnx.out,HnD.out];exact Heq.out.symm),(stA.bl hb16)⟩
                 case measure=>simp[intOf];omega
         . have hB:=hover hbk;rw[hB,hbk]at hone;rw[hbk]at t16;obtain⟨k1,k2,_⟩:=nY K hlt x hx8 hbk;rw[<-HP.out]at k1 k2;have hsub:(K:Int)-(P:Int)=((K-P:Nat):Int):=(by omega);have Hone:=SQ hone;have HB:=SQ hB;have Hbk:=SQ hbk;clear hone hB hbk hover;have Heq:Hid (jH s 0 (fun a b=>a+b) (fun n _=>n) i nx K n=fQ 0 (fun a b=>a+b) nx (K-P) n):=SQ (by rw[Hone.out];rfl);go_wp2_with fail
           refine(kY _ rows x y _ (h.SN (hA.tr hst.2.2.2.2)) Hok hx8 hy8).mono ?_;rintro e w6 ⟨rfl,hb6⟩;rw[<-Hse.out,<-Hi.out,HB.out];have st6:=hst.bl hb6;have hKL:(K-P)<(nx:List Int).length:=by rw[Hnl.out];omega
           have zV:=st6.2.1.slot aN one_pos hKL 0 (.int .i64 (nx:List Int)[(K-P)]) rfl;rw[mul_one,add_zero]at zV;have hsf:=st6.2.1.free;have hvg:=HbN.out ((K-P)) _ (getElem?_eq_getElem hKL);have hvD:(nx:List Int).getD ((K-P)) 0=(nx:List Int)[(K-P)]:=(by rw[getD_eq_getElem?_getD,getElem?_eq_getElem hKL,getD_some]);obtain⟨v,hv⟩:=SL ((nx:List Int)[(K-P)]);rw[<-hv]at zV hvg hvD;obtain⟨hv0,hv1⟩:=hvg;have HvD:=SQ hvD;clear hv hvD;have hKI:((K-P:Nat):Int)<256:=(by omega);have own7:=st6.2.1.iU aN hKL (y:=v+n) rfl;have e7:(nx:List Int).set ((K-P)) (v+n)=fQ 0 (fun a b=>a+b) nx ((K-P)) n:=(by rw[Iq,HvD.out]);rw[e7]at own7;go_wp2;go_roundw
           case rel=>exact⟨K+1,_,by omega,by go_num,SQ (by rw[dI,<-Hnx.out,HnD.out];exact Heq.out.symm),st6.put own7 (eF (World.grownBy.refl _ _) _ _)⟩
           case measure=>simp[intOf];omega
     . obtain rfl : K = 256 := by omega
       have e1:bQ s (i+1)=nx:=by rw[DU];exact Hnx.out.symm
       have E1:=SQ e1;clear e1;go_wp2;go_roundw
       case rel=>exact⟨i+1,gn,by omega,by go_num,rfl,by rw[E1.out];exact hst.2.1,hst.2.2.2.2⟩
       case measure=>simp[intOf];omega
  . obtain rfl : i = 64 := by omega
    have hil:0<(bQ s 64).length:=by unfold bQ;rw[xH];decide
    have zK:=hnow.slot aN one_pos hil 0 (.int .i64 (bQ s 64)[0]) rfl;rw[mul_one,add_zero]at zK;have hgD:R=(bQ s 64)[0]:=by rw[HR.out];unfold fF;rw[getD_eq_getElem?_getD,getElem?_eq_getElem hil,getD_some]
    rw[<-hgD]at zK;clear hgD;go_wp2;go_ret;exact⟨rfl,hA.tr hbel2⟩
end Go.Proofs.YtljfoohaapckeaaGreatDoor
