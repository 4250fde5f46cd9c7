import Derived.Test.YtjijonhkofhikaaGreatDoorFG39
import Derived.Test.YtjijonhkofhikaaGreatDoorFG44
open _root_.List renaming length_append->Tm,length_singleton->Tn
open _root_.Nat renaming le_refl->Tp,zero_le->Tq
open _root_.Go.Value renaming oneCell'->Tt
open _root_.Go.Proofs.Tryz (prog func14 ntmps14)
open _root_.Go.Proofs.Tryz renaming results14->Tu
set_option linter.unusedVariables false
set_option linter.unusedSimpArgs false
set_option maxHeartbeats 4000000
set_option maxRecDepth 100000
namespace Go.Proofs.YtjijonhkofhikaaGreatDoor
open Go.ChangeShapes Go.WideShapes Go.ChangeAt Go.RowKit
theorem OA:∃(x:Fl) (s:Int),dF (x,s,0,0)=true/\bQ x/\(∀w,Calls prog 36 #[] w (Cx x s 0 0 w))/\∀w,Calls prog 10 #[] w (Cx x s 0 0 w):=by
 have hr:=SC;have hc:(eU (bZ 4 4)).length=16:=(by decide+kernel);have CS:=fun(z:Fl) (st:Int) (w:World)=>Oz z st true w
 have CI:=fun(z:Fl) (st:Int) (w:World)=>Oy z st true w
 obtain⟨rows,a6⟩:=Ti (bZ 4 4);rw[<-a6]at hr hc CS CI;have hl:Small rows.length:=by have:=hr.1.1;unfold Small;omega
 exact⟨_,_,L9 hr hc,tZ hl,fun w=>CS _ _ w (fun u w k1=>LV hr hc u w k1),fun w=>CI _ _ w (fun u w k1=>JS hr hc u w k1)⟩
theorem Qm:xD (-1)=(⟨#[45,49]⟩:ByteArray):=by
 unfold xD Lib.itoa;rw[if_pos (by decide)];rw[show(-1:Int).natAbs=1 from rfl,Lib.decDigits_one (by decide)];rfl
theorem OB (w:World):Calls prog 37 #[.int .i64 (-1)] w (Ret (.string (⟨#[45,49]⟩:ByteArray)) w):=by
 go_enter Tryz.func37,Tryz.ntmps37
 go_wp2;go_loopw [0,4,5] (fun s0 s4 s5 wr=>∃(z:Value),s5=z/\((s0= .int .i64 (-1)/\s4= .string (⟨#[]⟩:ByteArray))∨(s0= .int .i64 0/\s4= .string (⟨#[49]⟩:ByteArray)))/\Below w.heap.size w wr) (fun i _ _ _=>(intOf i).natAbs)
 case atStart=>exact⟨_,rfl,.inl ⟨rfl,rfl⟩,Below.refl _ _⟩
 case round=>
  obtain⟨z,rfl,hh,a6⟩:=hrel;rcases hh with⟨rfl,rfl⟩|⟨rfl,rfl⟩
  . go_wp2_with fail
    refine(JY 1 _ (by omega) (by omega)).mono ?_;rintro e w1 ⟨rfl,hb1⟩
    have a7 := run_convert_bytes_arg (P := prog) (w1.alloc (.cells #[.int .u8 49] 5)) 22 5 Tryz.underlying22 Tryz.underlying5 w1.heap.size 0 1 1 [49] rfl (fun i hi => by
     obtain rfl:i=0:=by omega
     exact(cell_of_row _ _ 0 #[.int .u8 49] 5 (0,0) (heap_alloc_new w1 _))) 9 Tryz.underlying9
    have hd:strOfNums [49]=(⟨#[49]⟩:ByteArray):=by
     apply ByteArray.ext;apply Array.toList_inj.1;rw[strOfNums_data];rfl
    rw[hd]at a7;clear hd;go_wp2;go_roundw
    case rel=>exact⟨_,rfl,.inr ⟨by go_num,rfl⟩,(a6.tr hb1).al _⟩
    case measure=>simp[intOf]
  . go_wp2;go_ret;exact⟨rfl,a6⟩
theorem OC (n:Int) (w:World) (h0: -1<=n) (h1:n<=1048576):Calls prog 37 #[.int .i64 n] w (Ret (.string (xD n)) w):=by
 by_cases h:0<=n
 . have := nN n w h (by omega);rw[show iJ n=xD n by unfold xD;rw[EX h];rfl]at this;exact this
 . obtain rfl : n = -1 := by omega
   rw[Qm];exact OB w
theorem SY (x:Fl) (s p r:Int) (T:List ByteArray) (hs:bQ x) (hT:T=iI (x,s,p,r)) {u1 u2 u3 u4:Value} {w:World} (h:R4 w u1 u2 u3 u4 x):Calls prog 38 #[.agg #[u1,u2,u3,u4,.int .i64 s,.int .i64 p,.int .i64 r]] w (fM 9 1 fJ T w):=by
 rw[hT];obtain⟨rows,fd,nd,fl⟩:=x;exact LP u1 u2 u3 u4 rows fd nd fl s p r w h.a h.b h.c h.d hs
set_option maxHeartbeats 8000000 in
theorem JU (x:Fl) (s:Int) (hk:dF (x,s,0,0)=true) (hs:bQ x) (CW:∀w,Calls prog 36 #[] w (Cx x s 0 0 w)) (t:ByteArray) (w:World):
 Calls prog 14 #[.string t] w (fZ 9 1 fJ (lY (x,s,0,0) t).1 (lY (x,s,0,0) t).2 w):=by
 obtain⟨R,hR⟩:=Ti (lY (x,s,0,0) t);rw[<-hR];have HK:=Tk hk;have cA:=Tk hs;have fR:=Tk CW;clear hk hs CW;have cX:=eG w (E:=9) (size:=1) (enc:=fJ) w.heap.size rfl w.heap.size (Tp _);have B0:=(Below.refl w.heap.size w).al (.cells #[] 9);by_cases cY:20000<t.size
 . have dL : (20000 : Int) < (t.size : Int) := by omega
   obtain rfl:R=([],false):=by rw[hR];exact JO cY
   clear hR;go_enter func14,ntmps14
   go_wp2;refine bodyPost_ret (v:= .tuple #[.slice (some ⟨w.heap.size,0,none⟩) 0 0,.bool false]) (by simp[results,Tu,go_sem]) rfl ⟨some ⟨w.heap.size,0,none⟩,0,rfl,cX,B0⟩
 . have dL : ¬ (20000 : Int) < (t.size : Int) := by omega
   have cU:Hid (cZ (jV t)=none->R=([],false)):=Tk (fun q=>by rw[hR];exact EL q);have fS:Hid (∀az,cZ (jV t)=some az->40<az.length->R=([],false)):=Tk (fun az q q2=>by rw[hR];exact zY q q2);have fW:Hid (∀az,cZ (jV t)=some az->¬40<az.length->R=((rQ (x,s,0,0) az).2.map xD++iI (rQ (x,s,0,0) az).1,true)):=Tk (fun az q q2=>by rw[hR];exact Ct cY q q2);clear hR;have cH:=eG (w.alloc (.cells #[] 9)) (E:=54) (size:=3) (enc:=mM) (w.heap.size+1) (by simp) w.heap.size B0.size;have B1:=B0.al (.cells #[] 54);have eM:=cX.alloc (.cells #[] 54);have eN:=P9 t;have eP:=Tk eN;clear eN B0 cX cY;go_enter func14,ntmps14
   go_wp2;go_loopw [5,6,7] (fun s5 s6 s7 wr=>∃(k b:Nat) (az:List Ac) (A:Option Addr) (c:Nat),k<=t.size+1/\s7= .int .i64 k/\s6= .int .i64 b/\s5= .slice A az.length c/\az.length<=k/\Hid (LnT t k b az)/\aD 54 3 mM w.heap.size wr (.slice A az.length c) az/\aD 9 1 fJ w.heap.size wr (.slice (some ⟨w.heap.size,0,none⟩) 0 0) ([]:List ByteArray)/\Below w.heap.size w wr) (fun _ _ i _=>t.size+1-(intOf i).toNat)
   case atStart=>exact⟨0,0,[],_,_,Tq _,rfl,rfl,rfl,Tq _,eP,cH,eM,B1⟩
   case round=>
    clear cH eM B1 eP;obtain⟨k,b,az,A,c,hk,rfl,rfl,rfl,bU,Hg,oA,o4,B⟩:=hrel;rcases Hg.out with hS|⟨rfl,hall⟩
    . clear Hg;have bY:=hS.1;have b5:=hS.2.1;have b6:(k:Int)<=(t.size:Int):=(by omega);have hmx:(k:Int)+1<=9223372036854775807:=(by omega);have hk3:(k:Int)<20001:=(by omega);have HS:=Tk hS;clear hS;by_cases hlt:k<t.size
      . have cB : (k : Int) < (t.size : Int) := by omega
        by_cases hc:t[k].toNat=10
        . have i3 : ((t[k].toNat : Nat) : Int) = 10 := by omega
          have Hk:Hid (∀h:k<t.size,t[k].toNat=10):=Tk (fun _=>hc);clear hc;have hb0:(0:Int)<=(b:Int):=(by omega);have dT:(b:Int)<=(k:Int):=(by omega);have hsk:=fun q=>Nb Hk.out HS.out q
          have hst:=fun q r=>Nc Hk.out HS.out q r
          have cC:=fun q r=>KQ Hk.out HS.out q r
          obtain⟨s0,hs0⟩:=Ti (t.extract b k);have cA:=Tk hs0;rw[<-hs0]at hsk hst cC;have eA:=Tk hsk;have cI:=Tk hst;have cJ:=Tk cC;clear hs0 hsk hst cC HS Hk;go_wp2_with fail
          rw[<-cA.out];refine(rC s0 _).mono ?_;obtain⟨lo,bK⟩:=Ti (dK s0);rintro e w2 ⟨vF,rfl,hF,hb2⟩;rw[<-bK]at hF⊢;have bJ:=oA.below hb2;have bL:=o4.below hb2;have B2:=B.tr hb2;clear oA o4 hb2;have HQ:=Tk (And.intro b5 (And.intro bU (And.intro bY hk)));clear hb0 dT hmx hk3 b6 cB b5 bU bY hk;try clear i3
          rcases lo with _|_
          . have a6 : (dK s0 && decide ((eH s0).length = 0)) = false := by rw [<- bK]; rfl
            as_aux_lemma=>
             obtain⟨pk,a8⟩:=Ti ((paX s0).1);obtain⟨pa,bA⟩:=Ti ((paX s0).2.1);obtain⟨pb,bB⟩:=Ti ((paX s0).2.2);obtain⟨po,a7⟩:=Ti (paB s0);have hv:paV s0= .tuple #[.agg #[.int .i64 pk,.int .i64 pa,.int .i64 pb],.bool po]:=by unfold paV;rw[a8,bA,bB,a7]
             have CP:=EP s0 w2;rw[hv]at CP;have Ht:=cI.out a6;have Hf:=cJ.out a6;have bM:paX s0=(pk,pa,pb):=(by rw[a8,bA,bB]);rw[bM,<-a7]at Ht;rw[<-a7]at Hf;have bN:=Tk Ht;have bO:=Tk Hf;clear hv a8 bA bB a7 bM Ht Hf a6 hF bK;go_wp2_with fail
             refine CP.mono ?_;rintro e w3 ⟨rfl,hb3⟩;have bC:=bJ.below hb3;have bP:=bL.below hb3;have B3:=B2.tr hb3;have b3:=Blk.aX w3 54 #[.int .i64 0,.int .i64 0,.int .i64 0];clear CP bJ bL hb3;go_upto_region 15 with(refine aY rfl 54 _ _ rfl w3.heap.size #[.int .i64 pk,.int .i64 pa,.int .i64 pb] rfl rfl _ _ b3 (by kernel_rfl) rfl (by simp[Tt]) ?_;intro w4 b4 hg4)
             have bD:aD 54 3 mM w.heap.size w4 (.slice A az.length c) az:=World.ownsRow.kept (bC.alloc (.cells #[.int .i64 0,.int .i64 0,.int .i64 0] 54)) hg4 (.inr (fun e=>by have:=(World.ownsRow.lt bC _ e).2;omega));have bE:=aD.FC (bP.alloc (.cells #[.int .i64 0,.int .i64 0,.int .i64 0] 54)) b3 (by decide) hg4;have B4:=(B3.al (.cells #[.int .i64 0,.int .i64 0,.int .i64 0] 54)).grown hg4 (B3.al _).size (fun k hk=>by injection hk with hk;subst hk;exact B3.size);clear b3 hg4 bC bP B3;obtain⟨gP,bR⟩:=Ti w3.heap.size;rw[<-bR]at b4⊢;clear bR;rcases po with _|_
             . obtain rfl:=cU.out (bO.out rfl);go_wp2;refine bodyPost_ret (v:= .tuple #[.slice (some ⟨w.heap.size,0,none⟩) 0 0,.bool false]) (by simp[results,Tu,go_sem]) rfl ⟨some ⟨w.heap.size,0,none⟩,0,rfl,bE,B4⟩
             . have Hn:=Tk (bN.out rfl);obtain⟨cK,cL,cM⟩:=b4.n3;have H8:Hid ((az.length+1)*24<=140737488355328):=Tk (by have:=HQ.out;omega);have HM:Hid (az.length+1<=maxLen):=Tk (by have:=HQ.out;unfold maxLen;omega);clear bN bO;obtain⟨b5,bU,bY,hk⟩:=HQ.out;have b6:(k:Int)<=(t.size:Int):=(by omega);have hmx:(k:Int)+1<=9223372036854775807:=(by omega);have hk3:(k:Int)<20001:=(by omega);go_wp2_with (at_builtin;go_must (refine jN (enc:=mM) CG xS CE (B:=w.heap.size) w4 B4.size bD (pk,pa,pb) rfl H8.out HM.out rfl _ _ rfl rfl rfl ?_);intro v5 w5 bF bS cD;obtain⟨A5,c5,rfl⟩:=cD)
               have B5:=Below.app B4 bD (Tp _) bS;have cE:=bE.fH (Grown.of bS) (fun g q=>bE.vO bD (by decide) q);go_roundw
               case rel=>exact⟨k+1,k+1,az++[(pk,pa,pb)],A5,c5,by have:=HQ.out;omega,by go_num,by go_num,by simp,by have:=HQ.out;simp;omega,Hn,by rw[Tm,Tn];exact bF,cE,B5⟩
               case measure=>have:=HQ.out;simp[intOf];omega
          . obtain⟨Af,cf,rfl,cN,cP⟩:=(hF rfl).form;by_cases hz:(eH s0).length=0
            . have cQ : ((eH s0).length : Int) = 0 := by omega
              have a6:(dK s0&&decide ((eH s0).length=0))=true:=by rw[<-bK,decide_eq_true hz];rfl
              have Hn:=Tk (eA.out a6);clear a6 hF bK cN cP;obtain⟨b5,bU,bY,hk⟩:=HQ.out;have b6:(k:Int)<=(t.size:Int):=(by omega);have hmx:(k:Int)+1<=9223372036854775807:=(by omega);have hk3:(k:Int)<20001:=(by omega);go_wp2;go_roundw
              case rel=>exact⟨k+1,k+1,az,A,c,by have:=HQ.out;omega,by go_num,by go_num,rfl,by have:=HQ.out;omega,Hn,bJ,bL,B2⟩
              case measure=>have:=HQ.out;simp[intOf];omega
            . have cQ : ¬ ((eH s0).length : Int) = 0 := by omega
              have a6:(dK s0&&decide ((eH s0).length=0))=false:=(by rw[decide_eq_false hz,Bool.and_false]);clear cN cP;obtain⟨nf,cR⟩:=Ti ((eH s0).length);rw[<-cR]at cQ⊢;clear cR hz
              as_aux_lemma=>
               obtain⟨pk,a8⟩:=Ti ((paX s0).1);obtain⟨pa,bA⟩:=Ti ((paX s0).2.1);obtain⟨pb,bB⟩:=Ti ((paX s0).2.2);obtain⟨po,a7⟩:=Ti (paB s0);have hv:paV s0= .tuple #[.agg #[.int .i64 pk,.int .i64 pa,.int .i64 pb],.bool po]:=by unfold paV;rw[a8,bA,bB,a7]
               have CP:=EP s0 w2;rw[hv]at CP;have Ht:=cI.out a6;have Hf:=cJ.out a6;have bM:paX s0=(pk,pa,pb):=(by rw[a8,bA,bB]);rw[bM,<-a7]at Ht;rw[<-a7]at Hf;have bN:=Tk Ht;have bO:=Tk Hf;clear hv a8 bA bB a7 bM Ht Hf a6 hF bK;go_wp2_with fail
               refine CP.mono ?_;rintro e w3 ⟨rfl,hb3⟩;have bC:=bJ.below hb3;have bP:=bL.below hb3;have B3:=B2.tr hb3;have b3:=Blk.aX w3 54 #[.int .i64 0,.int .i64 0,.int .i64 0];clear CP bJ bL hb3;go_upto_region 15 with(refine aY rfl 54 _ _ rfl w3.heap.size #[.int .i64 pk,.int .i64 pa,.int .i64 pb] rfl rfl _ _ b3 (by kernel_rfl) rfl (by simp[Tt]) ?_;intro w4 b4 hg4)
               have bD:aD 54 3 mM w.heap.size w4 (.slice A az.length c) az:=World.ownsRow.kept (bC.alloc (.cells #[.int .i64 0,.int .i64 0,.int .i64 0] 54)) hg4 (.inr (fun e=>by have:=(World.ownsRow.lt bC _ e).2;omega));have bE:=aD.FC (bP.alloc (.cells #[.int .i64 0,.int .i64 0,.int .i64 0] 54)) b3 (by decide) hg4;have B4:=(B3.al (.cells #[.int .i64 0,.int .i64 0,.int .i64 0] 54)).grown hg4 (B3.al _).size (fun k hk=>by injection hk with hk;subst hk;exact B3.size);clear b3 hg4 bC bP B3;obtain⟨gP,bR⟩:=Ti w3.heap.size;rw[<-bR]at b4⊢;clear bR;rcases po with _|_
               . obtain rfl:=cU.out (bO.out rfl);go_wp2;refine bodyPost_ret (v:= .tuple #[.slice (some ⟨w.heap.size,0,none⟩) 0 0,.bool false]) (by simp[results,Tu,go_sem]) rfl ⟨some ⟨w.heap.size,0,none⟩,0,rfl,bE,B4⟩
               . have Hn:=Tk (bN.out rfl);obtain⟨cK,cL,cM⟩:=b4.n3;have H8:Hid ((az.length+1)*24<=140737488355328):=Tk (by have:=HQ.out;omega);have HM:Hid (az.length+1<=maxLen):=Tk (by have:=HQ.out;unfold maxLen;omega);clear bN bO;obtain⟨b5,bU,bY,hk⟩:=HQ.out;have b6:(k:Int)<=(t.size:Int):=(by omega);have hmx:(k:Int)+1<=9223372036854775807:=(by omega);have hk3:(k:Int)<20001:=(by omega);go_wp2_with (at_builtin;go_must (refine jN (enc:=mM) CG xS CE (B:=w.heap.size) w4 B4.size bD (pk,pa,pb) rfl H8.out HM.out rfl _ _ rfl rfl rfl ?_);intro v5 w5 bF bS cD;obtain⟨A5,c5,rfl⟩:=cD)
                 have B5:=Below.app B4 bD (Tp _) bS;have cE:=bE.fH (Grown.of bS) (fun g q=>bE.vO bD (by decide) q);go_roundw
                 case rel=>exact⟨k+1,k+1,az++[(pk,pa,pb)],A5,c5,by have:=HQ.out;omega,by go_num,by go_num,by simp,by have:=HQ.out;simp;omega,Hn,by rw[Tm,Tn];exact bF,cE,B5⟩
                 case measure=>have:=HQ.out;simp[intOf];omega
        . have i3 : (((t[k].toNat : Nat) : Int) != 10) = true := by simp; omega
          have Hs:=Tk (RO hlt hc HS.out);go_wp2;go_roundw
          case rel=>exact⟨k+1,b,az,A,c,by omega,by go_num,rfl,rfl,by omega,Hs,oA,o4,B⟩
          case measure=>simp[intOf];omega
      . have cB : ¬ ((k : Int) < (t.size : Int)) := by omega
        have Hk:Hid (∀h:k<t.size,t[k].toNat=10):=Tk (fun h=>absurd h hlt);have hb0:(0:Int)<=(b:Int):=(by omega);have dT:(b:Int)<=(k:Int):=(by omega);have hsk:=fun q=>Nb Hk.out HS.out q
        have hst:=fun q r=>Nc Hk.out HS.out q r
        have cC:=fun q r=>KQ Hk.out HS.out q r
        obtain⟨s0,hs0⟩:=Ti (t.extract b k);have cA:=Tk hs0;rw[<-hs0]at hsk hst cC;have eA:=Tk hsk;have cI:=Tk hst;have cJ:=Tk cC;clear hs0 hsk hst cC HS Hk;go_wp2_with fail
        rw[<-cA.out];refine(rC s0 _).mono ?_;obtain⟨lo,bK⟩:=Ti (dK s0);rintro e w2 ⟨vF,rfl,hF,hb2⟩;rw[<-bK]at hF⊢;have bJ:=oA.below hb2;have bL:=o4.below hb2;have B2:=B.tr hb2;clear oA o4 hb2;have HQ:=Tk (And.intro b5 (And.intro bU (And.intro bY hk)));clear hb0 dT hmx hk3 b6 cB b5 bU bY hk;try clear i3
        rcases lo with _|_
        . have a6 : (dK s0 && decide ((eH s0).length = 0)) = false := by rw [<- bK]; rfl
          as_aux_lemma=>
           obtain⟨pk,a8⟩:=Ti ((paX s0).1);obtain⟨pa,bA⟩:=Ti ((paX s0).2.1);obtain⟨pb,bB⟩:=Ti ((paX s0).2.2);obtain⟨po,a7⟩:=Ti (paB s0);have hv:paV s0= .tuple #[.agg #[.int .i64 pk,.int .i64 pa,.int .i64 pb],.bool po]:=by unfold paV;rw[a8,bA,bB,a7]
           have CP:=EP s0 w2;rw[hv]at CP;have Ht:=cI.out a6;have Hf:=cJ.out a6;have bM:paX s0=(pk,pa,pb):=(by rw[a8,bA,bB]);rw[bM,<-a7]at Ht;rw[<-a7]at Hf;have bN:=Tk Ht;have bO:=Tk Hf;clear hv a8 bA bB a7 bM Ht Hf a6 hF bK;go_wp2_with fail
           refine CP.mono ?_;rintro e w3 ⟨rfl,hb3⟩;have bC:=bJ.below hb3;have bP:=bL.below hb3;have B3:=B2.tr hb3;have b3:=Blk.aX w3 54 #[.int .i64 0,.int .i64 0,.int .i64 0];clear CP bJ bL hb3;go_upto_region 15 with(refine aY rfl 54 _ _ rfl w3.heap.size #[.int .i64 pk,.int .i64 pa,.int .i64 pb] rfl rfl _ _ b3 (by kernel_rfl) rfl (by simp[Tt]) ?_;intro w4 b4 hg4)
           have bD:aD 54 3 mM w.heap.size w4 (.slice A az.length c) az:=World.ownsRow.kept (bC.alloc (.cells #[.int .i64 0,.int .i64 0,.int .i64 0] 54)) hg4 (.inr (fun e=>by have:=(World.ownsRow.lt bC _ e).2;omega));have bE:=aD.FC (bP.alloc (.cells #[.int .i64 0,.int .i64 0,.int .i64 0] 54)) b3 (by decide) hg4;have B4:=(B3.al (.cells #[.int .i64 0,.int .i64 0,.int .i64 0] 54)).grown hg4 (B3.al _).size (fun k hk=>by injection hk with hk;subst hk;exact B3.size);clear b3 hg4 bC bP B3;obtain⟨gP,bR⟩:=Ti w3.heap.size;rw[<-bR]at b4⊢;clear bR;rcases po with _|_
           . obtain rfl:=cU.out (bO.out rfl);go_wp2;refine bodyPost_ret (v:= .tuple #[.slice (some ⟨w.heap.size,0,none⟩) 0 0,.bool false]) (by simp[results,Tu,go_sem]) rfl ⟨some ⟨w.heap.size,0,none⟩,0,rfl,bE,B4⟩
           . have Hn:=Tk (bN.out rfl);obtain⟨cK,cL,cM⟩:=b4.n3;have H8:Hid ((az.length+1)*24<=140737488355328):=Tk (by have:=HQ.out;omega);have HM:Hid (az.length+1<=maxLen):=Tk (by have:=HQ.out;unfold maxLen;omega);clear bN bO;obtain⟨b5,bU,bY,hk⟩:=HQ.out;have b6:(k:Int)<=(t.size:Int):=(by omega);have hmx:(k:Int)+1<=9223372036854775807:=(by omega);have hk3:(k:Int)<20001:=(by omega);go_wp2_with (at_builtin;go_must (refine jN (enc:=mM) CG xS CE (B:=w.heap.size) w4 B4.size bD (pk,pa,pb) rfl H8.out HM.out rfl _ _ rfl rfl rfl ?_);intro v5 w5 bF bS cD;obtain⟨A5,c5,rfl⟩:=cD)
             have B5:=Below.app B4 bD (Tp _) bS;have cE:=bE.fH (Grown.of bS) (fun g q=>bE.vO bD (by decide) q);go_roundw
             case rel=>exact⟨k+1,k+1,az++[(pk,pa,pb)],A5,c5,by have:=HQ.out;omega,by go_num,by go_num,by simp,by have:=HQ.out;simp;omega,Hn,by rw[Tm,Tn];exact bF,cE,B5⟩
             case measure=>have:=HQ.out;simp[intOf];omega
        . obtain⟨Af,cf,rfl,cN,cP⟩:=(hF rfl).form;by_cases hz:(eH s0).length=0
          . have cQ : ((eH s0).length : Int) = 0 := by omega
            have a6:(dK s0&&decide ((eH s0).length=0))=true:=by rw[<-bK,decide_eq_true hz];rfl
            have Hn:=Tk (eA.out a6);clear a6 hF bK cN cP;obtain⟨b5,bU,bY,hk⟩:=HQ.out;have b6:(k:Int)<=(t.size:Int):=(by omega);have hmx:(k:Int)+1<=9223372036854775807:=(by omega);have hk3:(k:Int)<20001:=(by omega);go_wp2;go_roundw
            case rel=>exact⟨k+1,k+1,az,A,c,by have:=HQ.out;omega,by go_num,by go_num,rfl,by have:=HQ.out;omega,Hn,bJ,bL,B2⟩
            case measure=>have:=HQ.out;simp[intOf];omega
          . have cQ : ¬ ((eH s0).length : Int) = 0 := by omega
            have a6:(dK s0&&decide ((eH s0).length=0))=false:=(by rw[decide_eq_false hz,Bool.and_false]);clear cN cP;obtain⟨nf,cR⟩:=Ti ((eH s0).length);rw[<-cR]at cQ⊢;clear cR hz
            as_aux_lemma=>
             obtain⟨pk,a8⟩:=Ti ((paX s0).1);obtain⟨pa,bA⟩:=Ti ((paX s0).2.1);obtain⟨pb,bB⟩:=Ti ((paX s0).2.2);obtain⟨po,a7⟩:=Ti (paB s0);have hv:paV s0= .tuple #[.agg #[.int .i64 pk,.int .i64 pa,.int .i64 pb],.bool po]:=by unfold paV;rw[a8,bA,bB,a7]
             have CP:=EP s0 w2;rw[hv]at CP;have Ht:=cI.out a6;have Hf:=cJ.out a6;have bM:paX s0=(pk,pa,pb):=(by rw[a8,bA,bB]);rw[bM,<-a7]at Ht;rw[<-a7]at Hf;have bN:=Tk Ht;have bO:=Tk Hf;clear hv a8 bA bB a7 bM Ht Hf a6 hF bK;go_wp2_with fail
             refine CP.mono ?_;rintro e w3 ⟨rfl,hb3⟩;have bC:=bJ.below hb3;have bP:=bL.below hb3;have B3:=B2.tr hb3;have b3:=Blk.aX w3 54 #[.int .i64 0,.int .i64 0,.int .i64 0];clear CP bJ bL hb3;go_upto_region 15 with(refine aY rfl 54 _ _ rfl w3.heap.size #[.int .i64 pk,.int .i64 pa,.int .i64 pb] rfl rfl _ _ b3 (by kernel_rfl) rfl (by simp[Tt]) ?_;intro w4 b4 hg4)
             have bD:aD 54 3 mM w.heap.size w4 (.slice A az.length c) az:=World.ownsRow.kept (bC.alloc (.cells #[.int .i64 0,.int .i64 0,.int .i64 0] 54)) hg4 (.inr (fun e=>by have:=(World.ownsRow.lt bC _ e).2;omega));have bE:=aD.FC (bP.alloc (.cells #[.int .i64 0,.int .i64 0,.int .i64 0] 54)) b3 (by decide) hg4;have B4:=(B3.al (.cells #[.int .i64 0,.int .i64 0,.int .i64 0] 54)).grown hg4 (B3.al _).size (fun k hk=>by injection hk with hk;subst hk;exact B3.size);clear b3 hg4 bC bP B3;obtain⟨gP,bR⟩:=Ti w3.heap.size;rw[<-bR]at b4⊢;clear bR;rcases po with _|_
             . obtain rfl:=cU.out (bO.out rfl);go_wp2;refine bodyPost_ret (v:= .tuple #[.slice (some ⟨w.heap.size,0,none⟩) 0 0,.bool false]) (by simp[results,Tu,go_sem]) rfl ⟨some ⟨w.heap.size,0,none⟩,0,rfl,bE,B4⟩
             . have Hn:=Tk (bN.out rfl);obtain⟨cK,cL,cM⟩:=b4.n3;have H8:Hid ((az.length+1)*24<=140737488355328):=Tk (by have:=HQ.out;omega);have HM:Hid (az.length+1<=maxLen):=Tk (by have:=HQ.out;unfold maxLen;omega);clear bN bO;obtain⟨b5,bU,bY,hk⟩:=HQ.out;have b6:(k:Int)<=(t.size:Int):=(by omega);have hmx:(k:Int)+1<=9223372036854775807:=(by omega);have hk3:(k:Int)<20001:=(by omega);go_wp2_with (at_builtin;go_must (refine jN (enc:=mM) CG xS CE (B:=w.heap.size) w4 B4.size bD (pk,pa,pb) rfl H8.out HM.out rfl _ _ rfl rfl rfl ?_);intro v5 w5 bF bS cD;obtain⟨A5,c5,rfl⟩:=cD)
               have B5:=Below.app B4 bD (Tp _) bS;have cE:=bE.fH (Grown.of bS) (fun g q=>bE.vO bD (by decide) q);go_roundw
               case rel=>exact⟨k+1,k+1,az++[(pk,pa,pb)],A5,c5,by have:=HQ.out;omega,by go_num,by go_num,by simp,by have:=HQ.out;simp;omega,Hn,by rw[Tm,Tn];exact bF,cE,B5⟩
               case measure=>have:=HQ.out;simp[intOf];omega
    . clear Hg;have b6:¬(((t.size+1:Nat):Int)<=(t.size:Int)):=(by omega);by_cases eR:40<az.length
      . have eC : (40 : Int) < (az.length : Int) := by omega
        obtain rfl:=fS.out az hall eR;go_wp2;refine bodyPost_ret (v:= .tuple #[.slice (some ⟨w.heap.size,0,none⟩) 0 0,.bool false]) (by simp[results,Tu,go_sem]) rfl ⟨some ⟨w.heap.size,0,none⟩,0,rfl,o4,B⟩
      . have eC : ¬ (40 : Int) < (az.length : Int) := by omega
        as_aux_lemma=>
         have cV:=fW.out az hall eR;have cW:=Na (l:=az) (y:=(x,s,0,0)) cA.out;have hsm:=EO (l:=az) (y:=(x,s,0,0)) cA.out;have CR:=fun(u1 u2 u3 u4:Value) (W:World) (q:R4 W u1 u2 u3 u4 x) (q5:Rd 3 (RE mM) W (.slice A az.length c) az)=>Qj u1 u2 u3 u4 (.slice A az.length c) x s 0 0 az W q.a q.b q.c q.d q5 cA.out
         obtain⟨⟨⟨X,S,P,Q⟩,N⟩,eE⟩:∃R,R=rQ (x,s,0,0) az:=⟨_,rfl⟩;have gY:N.length<=40:=by have:=IJ (y:=(x,s,0,0)) (l:=az);rw[<-eE]at this;exact this
         rw[<-eE]at cV cW hsm CR;simp only at cV cW hsm;have fX:=Tk cV;have fY:=Tk cW;have gA:=Tk hsm;have gB:=Tk CR;clear cV cW hsm CR eE hall o4;go_wp2_with fail
         refine(fR.out _).mono ?_;rintro e w2 ⟨A1,c1,A2,c2,A3,c3,A4,c4,rfl,oW,hb2⟩;have bJ:=oA.below hb2;have B2:=B.tr hb2;go_wp2_with fail
         refine(gB.out _ _ _ _ _ oW.r4 (bJ.rd xS (by decide))).mono ?_;rintro e w3 ⟨E1,E2,E3,E4,A5,c5,rfl,oX,oN,_,hb3⟩;simp only at oX oN;have B3:=B2.tr hb3;clear oW oA bJ hb2 B2;go_upto_region 21 with(refine aA rfl 32 _ _ rfl w3.heap.size #[E1,E2,E3,E4,.int .i64 S,.int .i64 P,.int .i64 Q] rfl rfl _ _ (Blk.aX w3 32 #[.slice none 0 0,.slice none 0 0,.slice none 0 0,.slice none 0 0,.int .i64 0,.int .i64 0,.int .i64 0]) (by kernel_rfl) rfl (mV oX.one) ?_;intro w4 bX hg4)
         have eW:=aB.alg oX (by decide) (by decide) (by decide) hg4;have e5:=oN.SH (by decide) hg4;have B4:=(B3.al (.cells #[.slice none 0 0,.slice none 0 0,.slice none 0 0,.slice none 0 0,.int .i64 0,.int .i64 0,.int .i64 0] 32)).grown hg4 (B3.al _).size (fun k hk=>by injection hk with hk;subst hk;exact B3.size);have hw3:w.heap.size<=w3.heap.size:=B3.size;clear oX oN hg4 B3 hb3;obtain⟨gX,e6⟩:=Ti w3.heap.size;rw[<-e6]at bX⊢;clear e6;have cS:=(eG w4 (E:=9) (size:=1) (enc:=fJ) w4.heap.size rfl w.heap.size B4.size);have e7:=bX.alloc (.cells #[] 9);have e8:=eW.alloc (.cells #[] 9);have e9:=e5.alloc (.cells #[] 9);have B5:=B4.al (.cells #[] 9);clear bX eW e5 B4;go_wp2;go_loopw [15,16] (fun gC gD wr=>∃(k:Nat) (ts:List ByteArray) (D:Option Addr) (d:Nat),k<=N.length/\gD= .int .i64 k/\gC= .slice D ts.length d/\Hid (ts.length=k)/\Hid (ts=(N.take k).map xD)/\aD 9 1 fJ w.heap.size wr (.slice D ts.length d) ts/\aD 3 1 aW w2.heap.size wr (.slice A5 N.length c5) N/\Blk wr gX 32 #[E1,E2,E3,E4,.int .i64 S,.int .i64 P,.int .i64 Q]/\aB w2.heap.size wr E1 E2 E3 E4 X/\Below w.heap.size w wr) (fun _ i _=>N.length-(intOf i).toNat)
         case atStart=>exact⟨0,[],_,_,Tq _,rfl,rfl,Tk rfl,Tk rfl,cS,e9,e7,e8,B5⟩
         case round=>
          clear cS e9 e7 e8 B5;obtain⟨k,ts,D,d,hk,rfl,rfl,cT,eI,oS,oN,bX,oX,B⟩:=hrel;by_cases hlt:k<N.length
          . obtain ⟨b, off, hA, hb, k1⟩ := (oN.rd aM (by decide)).uX hlt;subst hA;have b6:(k:Int)<(N.length:Int):=(by omega);have hn:=fY.out N[k] (List.getElem_mem hlt);have eJ:ts++[xD N[k]]=(N.take (k+1)).map xD:=by rw[eI.out,List.take_succ_eq_append_getElem hlt,List.map_append];rfl
            obtain⟨n,fD⟩:=Ti (N[k]);rw[<-fD]at k1 hn eJ;have gF:=Tk eJ;have hE:=hn.1;have hP:=hn.2;clear fD eJ hn;go_wp2_with fail
            refine(OC n _ (by omega) (by omega)).mono ?_;rintro e w6 ⟨rfl,b7⟩;have b8:=oS.below b7;have fL:=oN.below b7;have fN:=bX.bl b7;have b9:=oX.below b7;have B6:=B.tr b7;have H8:Hid ((ts.length+1)*16<=140737488355328):=Tk (by have:=cT.out;omega);have HM:Hid (ts.length+1<=maxLen):=Tk (by have:=cT.out;unfold maxLen;omega);clear oS oN bX oX B b7 k1 hb;go_wp2_with (at_builtin;go_must (refine jN (enc:=fJ) mW eZ nM (B:=w.heap.size) w6 B6.size b8 (xD n) rfl H8.out HM.out rfl _ _ rfl rfl rfl ?_);intro v7 w7 cF cG eK;obtain⟨A7,c7,rfl⟩:=eK)
            have B7:=Below.app B6 b8 (Tp _) cG;have gK:=fL.fH (Grown.of cG) (fun g q=>fL.vO b8 (by decide) q);have gL:=fN.grown cG (fun e=>b8.apart fN (by decide) e.symm);have gM:aB w2.heap.size w7 E1 E2 E3 E4 X:=⟨b9.a.fH (Grown.of cG) (fun g q=>b9.a.vO b8 (by decide) q),b9.b.fH (Grown.of cG) (fun g q=>b9.b.vO b8 (by decide) q),b9.c.fH (Grown.of cG) (fun g q=>b9.c.vO b8 (by decide) q),b9.d.fH (Grown.of cG) (fun g q=>b9.d.vO b8 (by decide) q),b9.ap⟩;go_roundw
            case rel=>exact⟨k+1,ts++[xD n],A7,c7,by omega,by go_num,by simp,Tk (by have:=cT.out;simp;omega),gF,by rw[Tm,Tn];exact cF,gK,gL,gM,B7⟩
            case measure=>simp[intOf];omega
          . have gN : k = N.length := by omega
            subst gN;have eL:=eI.out;rw[List.take_length]at eL;have fO:=fX.out;obtain⟨T,hT⟩:=Ti (iI (X,S,P,Q));rw[<-hT,<-eL]at fO;have gO:=Cr (X,S,P,Q);rw[<-hT]at gO;have CF:=SY X S P Q T gA.out hT oX.r4;obtain⟨cK,cL,cM,gQ,gR,gS,gT⟩:=bX.n7;subst fO;have H8:Hid ((ts.length+T.length)*16<=140737488355328):=Tk (by have:=cT.out;omega);have HM:Hid (ts.length+T.length<=maxLen):=Tk (by have:=cT.out;unfold maxLen;omega);clear hT eL eI;go_wp2_with fail
            refine CF.mono ?_;rintro e w6 ⟨A6,c6,rfl,oT,b7⟩;have b8:=oS.below b7;have B6:=B.tr b7;clear CF cK cL cM gQ gR gS gT oS B b7;go_wp2_with (at_builtin;go_must (refine dN (enc:=fJ) mW eZ nM B6.size b8 (oT.rd eZ (by decide)) H8.out HM.out rfl _ _ rfl rfl rfl ?_);intro v7 w7 cF gW eK;obtain⟨A7,c7,rfl⟩:=eK)
            refine bodyPost_ret (v:= .tuple #[.slice A7 (ts.length+T.length) c7,.bool true]) (by simp[results,Tu,go_sem]) rfl ⟨A7,c7,by rw[Tm],by rw[Tm];exact cF,B6.trans gW⟩
end Go.Proofs.YtjijonhkofhikaaGreatDoor
