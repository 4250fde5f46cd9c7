import Derived.Test.YtjijonhkofhikaaGreatDoorFG24
open _root_.List renaming getElem?_toArray->Tm,getElem?_cons_zero->Tn,getElem?_cons_succ->Tp
open _root_.Bool renaming and_eq_true->Tq
open _root_.Go.Proofs.Tryz (prog func102 ntmps102)
set_option linter.unusedVariables false
set_option linter.unusedSimpArgs false
set_option maxHeartbeats 4000000
set_option maxRecDepth 100000
namespace Go.Proofs.YtjijonhkofhikaaGreatDoor
open Go.ChangeShapes Go.WideShapes Go.ChangeAt Go.RowKit
def dU (rows:List Int):List Dm:=if bG rows=0 then[]else firstT (setOf rows)
def kH (rows:List Int):Bool:=decide (bG rows≠0)
theorem mK (rows:List Int):(dU rows).length<=64:=by
 unfold dU;split
 . simp
 . exact yZ _
def OH (l:List Dm) (b:Bool) (w:World) (e:Ending) (w':World):Prop:=∃A c,e= .returned (.tuple #[.slice A l.length c,.bool b])/\aD 99 3 aV w.heap.size w' (.slice A l.length c) l/\Below w.heap.size w w'
theorem lX {P:Program} {ops:Array Oper} {rest:List Oper} {o:Oper} {a:Act} {Q:Exit->Act->World->Prop} {α:Type} {t E:TypeId} {z:Value} {size bytes:Nat} (R:Row P t E z size bytes)
    {enc:α->List Value} (a7:∀x,(enc x).length=size) (h1:∀x,∀u∈enc x,u.oneCell'=true)
    {W0 w:World} (a8:Below W0.heap.size W0 w) {v:Value} {l:List α} (hown:aD E size enc W0.heap.size w v l) (y:α)
    (hlen:(l.length+1)*bytes<=140737488355328) (a6:l.length+1<=maxLen) {g:Nat} (hg:g=w.heap.size)
    (hgd:o.guard=none) (s x:Operand) (ho:o.op= .call {callee:= .builtin .append,args:= #[s,x],argTypes:= #[t,t]})
    (hs:a.eval s=v) (hx:a.eval x= .slice (some ⟨g,0,none⟩) 1 1)
    (h:∀v' w',aD E size enc W0.heap.size w' v' (l++[y])->Below W0.heap.size W0 w'->(w.alloc (.cells (enc y).toArray E)).grownBy w' v.ownBlock->(v'.ownBlock=v.ownBlock∨v'.ownBlock=some (w.heap.size+1))->wpList P ops Q rest (a.put o.dst v') w'):
    wpList P ops Q (o::rest) a (w.alloc (.cells (enc y).toArray E)):=by
 subst hg;exact aF R a7 h1 a8 hown y hlen a6 hgd s x ho hs hx h
theorem PI {s i:Nat} (hs:s<U64):(bits .and .u64 ((s:Int)/2^i) 1==0)= !s.testBit i:=by
 have e:(s:Int)/2^i=((s/2^i:Nat):Int):=(by simp);have h1:s/2^i<18446744073709551616:=Nat.lt_of_le_of_lt (Nat.div_le_self _ _) (by unfold U64 at hs;exact hs);have h2:=u64_and_nat (s/2^i) 1 h1 (by decide);rw[e,show(1:Int)=((1:Nat):Int) from rfl,h2,nat_mask1,Nat.testBit_eq_decide_div_mod_eq];rw[Bool.eq_iff_iff,beq_iff_eq,Bool.not_eq_true',decide_eq_false_iff_not];omega
theorem EC (s i x y:Nat) (w:World) (hs:s<U64) (Hl:Hid (sK s i)) (Hx:Hid (x=i%8)) (Hy:Hid (y=i/8)):Calls prog 156 #[.int .u64 s] w (Ret (.agg #[.int .i64 x,.int .i64 y]) w):=by
 have hi:=Hl.out.1;have hA:=(Below.refl w.heap.size w).al (.cells #[.int .i64 0,.int .i64 0] 83);have bR:=Blk.aX w 83 #[.int .i64 0,.int .i64 0];go_enter Tryz.func156,Tryz.ntmps156
 go_wp2_with fail
 go_loop [3] (fun s3=>∃k:Nat,k<=i/\s3= .int .i64 k) (fun s3=>i-(intOf s3).toNat)
 case atStart=>exact⟨0,by omega,rfl⟩
 case round=>
  obtain⟨k,hk,rfl⟩:=hrel;have a6:=PI (i:=k) hs;by_cases hlt:k<i
  . have hb:s.testBit k=false:=Hl.out.2.2 k hlt;rw[hb]at a6;have Hb:=Tk hb;clear hb;go_wp2;go_round
    case rel=>exact⟨k+1,by omega,by go_num⟩
    case measure=>simp[intOf];omega
  . obtain rfl : k = i := by omega
    have hb:=Hl.out.2.1;rw[hb]at a6;have Hb:=Tk hb;clear hb;go_wp2_with fail
    refine(Ci k x y _ (by omega) Hx.out Hy.out).mono ?_;rintro e w1 ⟨rfl,hb1⟩;have a8:=bR.bl hb1;have B1:=hA.tr hb1;obtain⟨gR,a7⟩:=Ti w.heap.size;have bA:w.heap.size<=gR:=(by omega);rw[<-a7]at a8⊢;clear a7 bR;obtain⟨bD,bF⟩:=a8.n2;have fR:=fun j=>a8.frozen j
    have bE:=(a8.st 0 (.int .i64 x) #[.int .i64 x,.int .i64 0] rfl).st 1 (.int .i64 y) #[.int .i64 x,.int .i64 y] rfl;have BE:=(B1.st ⟨gR,0,none⟩ (.int .i64 x) bA).st ⟨gR,1,none⟩ (.int .i64 y) bA;go_wp2;obtain⟨bB,bC⟩:=bE.n2;exact bodyPost_ret (v:= .agg #[.int .i64 x,.int .i64 y]) (by simp[results,Tryz.results156,go_sem,bB,bC]) rfl ⟨rfl,BE⟩
theorem JG (v:Value) (rows:List Int) (w:World) (h:Rd 1 aZ w v rows):Calls prog 102 #[.agg #[v]] w (OH (dU rows) (kH rows) w):=by
 obtain⟨A,c,rfl,hc,hm⟩:=h.form;have hA:=(Below.refl w.heap.size w).al (.cells #[.slice A rows.length c] 26);have bX:=Blk.aX w 26 #[.slice A rows.length c];by_cases h0:bG rows=0
 . have e1 : dU rows = [] := by unfold dU; rw [if_pos h0]
   have e2:kH rows=false:=by unfold kH;exact decide_eq_false (fun q=>q h0)
   rw[e1,e2];have CT:∀(u:Value) (w:World),Rd 1 aZ w u rows->Calls prog 155 #[.agg #[u]] w (Ret (.bool false) w):=fun u w k1=>Ck u rows false w k1 (.inl ⟨h0,rfl⟩)
   clear h0 e1 e2;go_enter func102,ntmps102
   go_wp2_with fail
   refine(CT _ _ (h.Tj hA)).mono ?_;rintro e w1 ⟨rfl,hb1⟩;go_wp2;go_ret2
   exact⟨none,0,rfl,aD.Di,hA.tr hb1⟩
 . have hr:bW rows=true:=by
    rcases q:bW rows with _|_
    . exact absurd (show bG rows=0 by unfold bG;rw[q];rfl) h0
    . rfl
   have cQ:Hid (dX rows):=Tk (aR.1 hr);have hs0:=dW cQ.out;have e1:dU rows=firstT (setOf rows):=by unfold dU;rw[if_neg h0]
   have e2:kH rows=true:=by unfold kH;exact decide_eq_true h0
   rw[e1,e2];have hc0:gH (setOf rows)≠0:=by unfold bG at h0;rw[if_pos hr]at h0;exact h0
   have CT:∀(u:Value) (w:World),Rd 1 aZ w u rows->Calls prog 155 #[.agg #[u]] w (Ret (.bool true) w):=fun u w k1=>Ck u rows true w k1 (.inr ⟨h0,rfl⟩)
   obtain⟨s0,b5⟩:=Ti (setOf rows);have CS:∀(u:Value) (w:World),Rd 1 aZ w u rows->Calls prog 61 #[.agg #[u]] w (Ret (.int .u64 (s0:Nat)) w):=fun u w k1=>by rw[b5];exact pV u rows w k1 cQ
   rw[<-b5]at hs0 hc0⊢;obtain⟨R,hR⟩:=Ti (firstT s0);have eM:R.length<=64:=by rw[hR];exact yZ s0
   rw[<-hR];have cR:Hid ([]++firstT s0=R):=Tk hR.symm;have cS:=Tk hc0;clear h0 hr e1 e2 b5 hR hc0;go_enter func102,ntmps102
   go_wp2_with fail
   refine(CT _ _ (h.Tj hA)).mono ?_;rintro e w1 ⟨rfl,hb1⟩;have B1:=(hA.tr hb1).al (.cells #[] 99);have cT:=(bX.bl hb1).alloc (.cells #[] 99);have eE:=(bX.bl hb1).lt;have eI:w.heap.size≠w1.heap.size:=by omega
   have cE:aD 99 3 aV w.heap.size (w1.alloc (.cells #[] 99)) (.slice (some ⟨w1.heap.size,0,none⟩) ([]:List Dm).length 0) []:=
    (fF w1 (E:=99) (size:=3) (enc:=aV)).mono (hA.tr hb1).size
   have z0:=cT.c1;go_wp2_with fail
   refine(CS _ _ (h.Tj B1)).mono ?_;rintro e w2 ⟨rfl,hb2⟩;have cF:=cE.below hb2;have B2:=B1.tr hb2;clear hA bX B1 cT hb1 hb2 cE z0 eE eI;go_wp2_with fail
   go_loopw [4,5] (fun s4 s5 wr=>∃(s:Nat) (out:List Dm) (A1:Option Addr) (c1:Nat),s<U64/\s5= .int .u64 s/\s4= .slice A1 out.length c1/\aD 99 3 aV w.heap.size wr (.slice A1 out.length c1) out/\Below w.heap.size w wr/\Hid (gH s≠0)/\Hid (out++firstT s=R)) (fun _ s5 _=>(intOf s5).toNat)
   case atStart=>exact⟨s0,[],_,_,hs0,rfl,rfl,cF,B2,cS,cR⟩
   case round=>
    obtain⟨s,out,A1,c1,hs,rfl,rfl,own,B,Hc,HR⟩:=hrel;clear cF B2 cR cS;have hlen:out.length<=64:=by have:=congrArg List.length HR.out;rw[List.length_append]at this;omega
    by_cases hz:s=0
    . subst hz;have ho:out=R:=by have:=HR.out;rw[BV,List.append_nil]at this;exact this
      subst ho;clear HR Hc;go_wp2;go_ret2
      exact⟨_,_,rfl,own,B⟩
    . obtain⟨i,hl⟩:=xB hs hz;have eJ:((s:Int) !=0)=true:=by rw[bne_iff_ne];omega
      obtain⟨x,hx⟩:=Ti (i%8);obtain⟨y,hy⟩:=Ti (i/8);have hi:=hl.1;obtain⟨a7,hc2,cC⟩:=Ei hs hl Hc.out;have bP:=Lh hs a7;have Hl:=Tk hl;have Hx:=Tk hx;have Hy:=Tk hy;have hrt:eT i=((x:Int),(y:Int),false):=by unfold eT;rw[<-hx,<-hy]
      have cK:fT i=((x:Int),(y:Int),true):=by unfold fT;rw[<-hx,<-hy]
      have H8:Hid ((out.length+1)*24<=140737488355328):=Tk (by omega);have HM:Hid (out.length+1<=maxLen):=Tk (by unfold maxLen;omega);clear hz hl hx hy;go_wp2_with fail
      refine(EC s i x y _ hs Hl Hx Hy).mono ?_;rintro e w3 ⟨rfl,hb3⟩;have hap:Value.ownBlock (.slice A1 out.length c1)≠some (w3.heap.size+1):=fun e=>by have:=(World.ownsRow.lt (own.below hb3) _ e).2;omega
      have cI:w.heap.size<=w3.heap.size+1:=by have:=(B.tr hb3).size;omega
      have bB:=((own.below hb3).alloc (.cells #[.int .i64 x,.int .i64 y] 83)).alloc (.cells #[.int .i64 x,.int .i64 y,.bool false] 99);have B3:=((B.tr hb3).al (.cells #[.int .i64 x,.int .i64 y] 83)).al (.cells #[.int .i64 x,.int .i64 y,.bool false] 99);have bL:=Blk.gI (w3.alloc (.cells #[.int .i64 x,.int .i64 y] 83)) 99 #[.int .i64 x,.int .i64 y,.bool false] (w3.heap.size+1) (by simp);clear own B hb3;go_upto_region 8 with(fail)
      obtain⟨W,hW⟩:=Ti ((w3.alloc (.cells #[.int .i64 x,.int .i64 y] 83)).alloc (.cells #[.int .i64 x,.int .i64 y,.bool false] 99));obtain⟨gD,cU⟩:=Ti (w3.heap.size+1);rw[<-hW]at bB B3 bL⊢;rw[<-cU]at bL hap cI⊢;clear hW cU;obtain⟨bR,bS,bU⟩:=bL.n3;have hDl:=bL.lt;have Bw:Below W.heap.size W W.drew:=(Below.refl _ _).drew;have hz:W.heap.size<=W.drew.heap.size:=(by simp);rcases hg:vU s i with _|_
      . have hst : vV s i = ((x : Int), (y : Int), true) := by unfold vV; rw [hg, if_neg (by simp), cK]
        rw[hst]at a7 hc2 cC bP;have bO:aI ((x:Int),(y:Int),true)=true:=by unfold eY at a7;rw[Tq]at a7;exact a7.1
        unfold vU at hg;rw[hrt]at hg;have cG:Hid ((out++[((x:Int),(y:Int),true)])++firstT (dE s (aG ((x:Int),(y:Int),true)))=R):=Tk (by rw[<-HR.out,cC,List.append_assoc];rfl);have cH:dE s (aG ((x:Int),(y:Int),true))<U64:=eD hs;have CD:∀w,Calls prog 106 #[.agg #[.int .i64 x,.int .i64 y,.bool true]] w (Ret (.int .u64 (aG ((x:Int),(y:Int),true):Nat)) w):=fun w=>dA x y true w bO
        obtain⟨u1,u2⟩:=uD hs (dQ bO);have cV:=Tk bO;have cD:=Tk hc2;clear hst cC a7 hc2 bO hrt cK HR Hc;rcases b6:aI ((x:Int),(y:Int),false)with _|_
        . have bK:=Tk b6;clear b6 hg;refine rB (fun w'=>w'.cell? ⟨gD,0,none⟩=some (.int .i64 x)/\w'.cell? ⟨gD,1,none⟩=some (.int .i64 y)/\w'.cell? ⟨gD,2,none⟩=some (.bool false)) fun hHeld=>(tW 0)<|(tR [1])<|tL fun K hK=>?_
          go_simp
          (first|(go_at_call 105;go_must (refine(aO x y false _).mono ?_;rintro e wX ⟨rfl,a6⟩;rw[bK.out];obtain⟨bC,bD,a8⟩:=bkn a6 W.heap.size hz;have hz:=a8;have Bw:=Bw.tr a6);(try go_wp2_with fail)))
          refine tK hK fun hHeld=>?_
          clear hK K;refine(tW 2)<|(tW 3)<|(tU 4)<|(tU 5)<|(tU 6)<|(tU 7)<|(tU 8)<|(tU 9)<|(tU 10)<|(tW 11)<|(tW 12)<|(tU 13)<|(tU 14)<|(tU 15)<|(tU 16)<|(tU 17)<|(tU 18)<|(tW 19)<|tD ?_;obtain⟨V,hV⟩:=Ti wX;rw[<-hV]at Bw⊢;clear hV bC bD hz bR bS bU;(try clear hHeld)
          have bE:=bB.below Bw;have B4:=B3.tr Bw;have bJ:=bL.bl Bw;clear bB B3 bL Bw;have fD:=fun j=>bJ.frozen j
          obtain⟨cW,cX,cY⟩:=bJ.n3;have bY:=bJ.st 2 (.bool true) #[.int .i64 x,.int .i64 y,.bool true] rfl;have bM:=bE.far (a:=⟨gD,2,none⟩) hap (.bool true);have B5:=B4.st ⟨gD,2,none⟩ (.bool true) cI;obtain⟨bR,bS,bU⟩:=bY.n3;go_wp2_with (at_builtin;go_must (refine lX (enc:=aV) aJ aC aL B5 bM (((x:Int),(y:Int),true):Dm) H8.out HM.out (by simp) rfl _ _ rfl rfl rfl ?_);intro v8 w8 bA b7 b8 cL;obtain⟨A8,c8,rfl,cM,cN⟩:=bA.form;have bF:=(bY.alloc (.cells (aV ((x:Int),(y:Int),true)).toArray 99)).grown b8 (fun e=>hap e.symm);have b9:=bF.cell 0;have cA:=bF.cell 1;have cB:=bF.cell 2;simp only[Tm,Tn,Tp]at b9 cA cB)
          refine(CD _).mono ?_;rintro e w9 ⟨rfl,bN⟩;go_wp2;go_roundw
          case rel=>exact⟨_,_,_,_,cH,rfl,by simp,bA.below bN,b7.tr bN,cD,cG⟩
          case measure=>simp[intOf];omega
        . have dL:=dQ b6;obtain⟨D,hD⟩:=Ti (aG ((x:Int),(y:Int),false));have cJ:∀w,Calls prog 106 #[.agg #[.int .i64 x,.int .i64 y,.bool false]] w (Ret (.int .u64 (D:Nat)) w):=fun w=>by rw[hD];exact dA x y false w b6
          rw[<-hD]at dL hg;obtain⟨u1,u2⟩:=uD hs dL;unfold eY at hg;rw[b6,Bool.true_and,<-hD]at hg;have bK:=Tk b6;clear b6 hD;by_cases q:s&&&D=D
          . have hne : (((s &&& D : Nat) : Int) != (D : Int)) = false := by rw [q]; simp
            have dT:gH (dE s D)=0:=by
             rw[decide_eq_true q,Bool.true_and,decide_eq_false_iff_not]at hg;omega
            have CN:∀w,Calls prog 157 #[.int .u64 (dE s D:Nat)] w (Ret (.int .i64 0) w):=fun w=>by have:=Fs (dE s D) w (eD hs);rw[dT]at this;exact this
            clear q hg dT;go_region_held3 (fun w'=>w'.cell? ⟨gD,0,none⟩=some (.int .i64 x)/\w'.cell? ⟨gD,1,none⟩=some (.int .i64 y)/\w'.cell? ⟨gD,2,none⟩=some (.bool false)) (go_keep) (first|(go_at_call 105;go_must (refine(aO x y false _).mono ?_;rintro e wX ⟨rfl,a6⟩;rw[bK.out];obtain⟨bC,bD,a8⟩:=bkn a6 W.heap.size hz;have hz:=a8;have Bw:=Bw.tr a6);(try go_wp2_with fail))|(go_at_call 106;go_must (refine(cJ _).mono ?_;rintro e wX ⟨rfl,a6⟩;obtain⟨bC,bD,a8⟩:=bkn a6 W.heap.size hz;have hz:=a8;have Bw:=Bw.tr a6);(try go_wp2_with fail))|(go_at_call 157;go_must (refine(CN _).mono ?_;rintro e wX ⟨rfl,a6⟩;obtain⟨bC,bD,a8⟩:=bkn a6 W.heap.size hz;have hz:=a8;have Bw:=Bw.tr a6);(try go_wp2_with fail)))
            obtain⟨V,hV⟩:=Ti wX;rw[<-hV]at Bw⊢;clear hV bC bD hz bR bS bU;(try clear hHeld)
            have bE:=bB.below Bw;have B4:=B3.tr Bw;have bJ:=bL.bl Bw;clear bB B3 bL Bw;have fD:=fun j=>bJ.frozen j
            obtain⟨cW,cX,cY⟩:=bJ.n3;have bY:=bJ.st 2 (.bool true) #[.int .i64 x,.int .i64 y,.bool true] rfl;have bM:=bE.far (a:=⟨gD,2,none⟩) hap (.bool true);have B5:=B4.st ⟨gD,2,none⟩ (.bool true) cI;obtain⟨bR,bS,bU⟩:=bY.n3;go_wp2_with (at_builtin;go_must (refine lX (enc:=aV) aJ aC aL B5 bM (((x:Int),(y:Int),true):Dm) H8.out HM.out (by simp) rfl _ _ rfl rfl rfl ?_);intro v8 w8 bA b7 b8 cL;obtain⟨A8,c8,rfl,cM,cN⟩:=bA.form;have bF:=(bY.alloc (.cells (aV ((x:Int),(y:Int),true)).toArray 99)).grown b8 (fun e=>hap e.symm);have b9:=bF.cell 0;have cA:=bF.cell 1;have cB:=bF.cell 2;simp only[Tm,Tn,Tp]at b9 cA cB)
            refine(CD _).mono ?_;rintro e w9 ⟨rfl,bN⟩;go_wp2;go_roundw
            case rel=>exact⟨_,_,_,_,cH,rfl,by simp,bA.below bN,b7.tr bN,cD,cG⟩
            case measure=>simp[intOf];omega
          . have hne : (((s &&& D : Nat) : Int) != (D : Int)) = true := by rw [bne_iff_ne]; omega
            clear q hg;refine rB (fun w'=>w'.cell? ⟨gD,0,none⟩=some (.int .i64 x)/\w'.cell? ⟨gD,1,none⟩=some (.int .i64 y)/\w'.cell? ⟨gD,2,none⟩=some (.bool false)) fun hHeld=>(tW 0)<|(tR [1])<|tL fun K hK=>?_
            go_simp
            (first|(go_at_call 105;go_must (refine(aO x y false _).mono ?_;rintro e wX ⟨rfl,a6⟩;rw[bK.out];obtain⟨bC,bD,a8⟩:=bkn a6 W.heap.size hz;have hz:=a8;have Bw:=Bw.tr a6);(try go_wp2_with fail))|(go_at_call 106;go_must (refine(cJ _).mono ?_;rintro e wX ⟨rfl,a6⟩;obtain⟨bC,bD,a8⟩:=bkn a6 W.heap.size hz;have hz:=a8;have Bw:=Bw.tr a6);(try go_wp2_with fail)))
            refine tK hK fun hHeld=>?_
            clear hK K;refine(tW 2)<|(tW 3)<|(tW 4)<|(tW 5)<|(tW 8)<|(tR [6])<|tL fun K hK=>?_
            go_simp
            (first|(go_at_call 105;go_must (refine(aO x y false _).mono ?_;rintro e wX ⟨rfl,a6⟩;rw[bK.out];obtain⟨bC,bD,a8⟩:=bkn a6 W.heap.size hz;have hz:=a8;have Bw:=Bw.tr a6);(try go_wp2_with fail))|(go_at_call 106;go_must (refine(cJ _).mono ?_;rintro e wX ⟨rfl,a6⟩;obtain⟨bC,bD,a8⟩:=bkn a6 W.heap.size hz;have hz:=a8;have Bw:=Bw.tr a6);(try go_wp2_with fail)))
            refine tK hK fun hHeld=>?_
            clear hK K;refine(tW 7)<|(tR [9])<|tL fun K hK=>?_
            go_simp
            (first|(go_at_call 105;go_must (refine(aO x y false _).mono ?_;rintro e wX ⟨rfl,a6⟩;rw[bK.out];obtain⟨bC,bD,a8⟩:=bkn a6 W.heap.size hz;have hz:=a8;have Bw:=Bw.tr a6);(try go_wp2_with fail))|(go_at_call 106;go_must (refine(cJ _).mono ?_;rintro e wX ⟨rfl,a6⟩;obtain⟨bC,bD,a8⟩:=bkn a6 W.heap.size hz;have hz:=a8;have Bw:=Bw.tr a6);(try go_wp2_with fail)))
            refine tK hK fun hHeld=>?_
            clear hK K;refine(tW 10)<|(tW 11)<|(tW 12)<|(tU 13)<|(tU 14)<|(tU 15)<|(tU 16)<|(tU 17)<|(tU 18)<|(tW 19)<|tD ?_;obtain⟨V,hV⟩:=Ti wX;rw[<-hV]at Bw⊢;clear hV bC bD hz bR bS bU;(try clear hHeld)
            have bE:=bB.below Bw;have B4:=B3.tr Bw;have bJ:=bL.bl Bw;clear bB B3 bL Bw;have fD:=fun j=>bJ.frozen j
            obtain⟨cW,cX,cY⟩:=bJ.n3;have bY:=bJ.st 2 (.bool true) #[.int .i64 x,.int .i64 y,.bool true] rfl;have bM:=bE.far (a:=⟨gD,2,none⟩) hap (.bool true);have B5:=B4.st ⟨gD,2,none⟩ (.bool true) cI;obtain⟨bR,bS,bU⟩:=bY.n3;go_wp2_with (at_builtin;go_must (refine lX (enc:=aV) aJ aC aL B5 bM (((x:Int),(y:Int),true):Dm) H8.out HM.out (by simp) rfl _ _ rfl rfl rfl ?_);intro v8 w8 bA b7 b8 cL;obtain⟨A8,c8,rfl,cM,cN⟩:=bA.form;have bF:=(bY.alloc (.cells (aV ((x:Int),(y:Int),true)).toArray 99)).grown b8 (fun e=>hap e.symm);have b9:=bF.cell 0;have cA:=bF.cell 1;have cB:=bF.cell 2;simp only[Tm,Tn,Tp]at b9 cA cB)
            refine(CD _).mono ?_;rintro e w9 ⟨rfl,bN⟩;go_wp2;go_roundw
            case rel=>exact⟨_,_,_,_,cH,rfl,by simp,bA.below bN,b7.tr bN,cD,cG⟩
            case measure=>simp[intOf];omega
      . have hst : vV s i = ((x : Int), (y : Int), false) := by unfold vV; rw [hg, if_pos rfl, hrt]
        rw[hst]at a7 hc2 cC bP;have bO:aI ((x:Int),(y:Int),false)=true:=by unfold eY at a7;rw[Tq]at a7;exact a7.1
        have hq:s&&&aG ((x:Int),(y:Int),false)=aG ((x:Int),(y:Int),false):=by unfold eY at a7;rw[Tq,decide_eq_true_iff]at a7;exact a7.2
        clear hg;have cG:Hid ((out++[((x:Int),(y:Int),false)])++firstT (dE s (aG ((x:Int),(y:Int),false)))=R):=Tk (by rw[<-HR.out,cC,List.append_assoc];rfl);have cH:dE s (aG ((x:Int),(y:Int),false))<U64:=eD hs;have CD:∀w,Calls prog 106 #[.agg #[.int .i64 x,.int .i64 y,.bool false]] w (Ret (.int .u64 (aG ((x:Int),(y:Int),false):Nat)) w):=fun w=>dA x y false w bO
        obtain⟨u1,u2⟩:=uD hs (dQ bO);have cV:=Tk bO;have cD:=Tk hc2;clear hst cC a7 hc2 bO hrt cK HR Hc;obtain⟨D,hD⟩:=Ti (aG ((x:Int),(y:Int),false));have hne:(((s&&&aG ((x:Int),(y:Int),false):Nat):Int) !=(aG ((x:Int),(y:Int),false):Int))=false:=by rw[hq];simp
        rw[<-hD]at hne;have CN:∀w,Calls prog 157 #[.int .u64 (dE s D:Nat)] w (Ret (.int .i64 (gH (dE s D))) w):=fun w=>Fs (dE s D) w (eD hs)
        have eA:∀w,Calls prog 106 #[.agg #[.int .i64 x,.int .i64 y,.bool false]] w (Ret (.int .u64 (D:Nat)) w):=fun w=>by rw[hD];exact CD w
        have eC:=u1;have cP:=u2;rw[<-hD]at eC cP;obtain⟨n,hn⟩:=Ti (gH (dE s D));have eK:(n==0)=false:=by rw[hn,hD];simpa using cD.out
        rw[<-hn]at CN;have eL:=Tk hD;clear hq hn hD u1 u2;go_region_held3 (fun w'=>w'.cell? ⟨gD,0,none⟩=some (.int .i64 x)/\w'.cell? ⟨gD,1,none⟩=some (.int .i64 y)/\w'.cell? ⟨gD,2,none⟩=some (.bool false)) (go_keep) (first|(go_at_call 105;go_must (refine(aO x y false _).mono ?_;rintro e wX ⟨rfl,a6⟩;rw[cV.out];obtain⟨bC,bD,a8⟩:=bkn a6 W.heap.size hz;have hz:=a8;have Bw:=Bw.tr a6);(try go_wp2_with fail))|(go_at_call 106;go_must (refine(eA _).mono ?_;rintro e wX ⟨rfl,a6⟩;obtain⟨bC,bD,a8⟩:=bkn a6 W.heap.size hz;have hz:=a8;have Bw:=Bw.tr a6);(try go_wp2_with fail))|(go_at_call 157;go_must (refine(CN _).mono ?_;rintro e wX ⟨rfl,a6⟩;obtain⟨bC,bD,a8⟩:=bkn a6 W.heap.size hz;have hz:=a8;have Bw:=Bw.tr a6);(try go_wp2_with fail)))
        have u2:bits .andNot .u64 (s:Int) (aG ((x:Int),(y:Int),false):Int)=((dE s (aG ((x:Int),(y:Int),false)):Nat):Int):=by rw[<-eL.out];exact cP
        clear eC cP hne CN eA eK;obtain⟨V,hV⟩:=Ti wX;rw[<-hV]at Bw⊢;clear hV bC bD hz bR bS bU;(try clear hHeld)
        have bE:=bB.below Bw;have B4:=B3.tr Bw;have bJ:=bL.bl Bw;clear bB B3 bL Bw;obtain⟨bR,bS,bU⟩:=bJ.n3;go_wp2_with (at_builtin;go_must (refine lX (enc:=aV) aJ aC aL B4 bE (((x:Int),(y:Int),false):Dm) H8.out HM.out (by simp) rfl _ _ rfl rfl rfl ?_);intro v8 w8 bA b7 b8 cL;obtain⟨A8,c8,rfl,cM,cN⟩:=bA.form;have bF:=(bJ.alloc (.cells (aV ((x:Int),(y:Int),false)).toArray 99)).grown b8 (fun e=>hap e.symm);have b9:=bF.cell 0;have cA:=bF.cell 1;have cB:=bF.cell 2;simp only[Tm,Tn,Tp]at b9 cA cB)
        refine(CD _).mono ?_;rintro e w9 ⟨rfl,bN⟩;go_wp2;go_roundw
        case rel=>exact⟨_,_,_,_,cH,rfl,by simp,bA.below bN,b7.tr bN,cD,cG⟩
        case measure=>simp[intOf];omega
end Go.Proofs.YtjijonhkofhikaaGreatDoor
