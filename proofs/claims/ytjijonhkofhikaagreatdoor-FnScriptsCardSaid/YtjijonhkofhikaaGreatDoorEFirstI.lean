import Derived.Test.YtjijonhkofhikaaGreatDoorEG21
open _root_.List renaming getElem?_toArray->TZ,getElem?_cons_zero->T9,getElem?_cons_succ->Ua
open _root_.Bool renaming and_eq_true->Ub
open _root_.Go.Proofs.Tryz (prog func102 ntmps102)
set_option linter.unusedVariables false
set_option linter.unusedSimpArgs false
set_option maxHeartbeats 4000000
set_option maxRecDepth 100000
namespace Go.Proofs.YtjijonhkofhikaaGreatDoor
open Go.ChangeShapes Go.WideShapes Go.ChangeAt Go.RowKit
def dV (rows:List Int):List Dm:=if aY rows=0 then[]else firstT (setOf rows)
def jW (rows:List Int):Bool:=decide (aY rows≠0)
theorem mI (rows:List Int):(dV rows).length<=64:=by
 unfold dV;split
 . simp
 . exact zG _
def OJ (l:List Dm) (b:Bool) (w:World) (e:Ending) (w':World):Prop:=∃A c,e= .returned (.tuple #[.slice A l.length c,.bool b])/\aD 99 3 aX w.heap.size w' (.slice A l.length c) l/\Below w.heap.size w w'
theorem lT {P:Program} {ops:Array Oper} {rest:List Oper} {o:Oper} {a:Act} {Q:Exit->Act->World->Prop} {α:Type} {t E:TypeId} {z:Value} {size bytes:Nat} (R:Row P t E z size bytes)
    {enc:α->List Value} (a7:∀x,(enc x).length=size) (h1:∀x,∀u∈enc x,u.oneCell'=true)
    {W0 w:World} (a8:Below W0.heap.size W0 w) {v:Value} {l:List α} (hown:aD E size enc W0.heap.size w v l) (y:α)
    (hlen:(l.length+1)*bytes<=140737488355328) (a6:l.length+1<=maxLen) {g:Nat} (hg:g=w.heap.size)
    (hgd:o.guard=none) (s x:Operand) (ho:o.op= .call {callee:= .builtin .append,args:= #[s,x],argTypes:= #[t,t]})
    (hs:a.eval s=v) (hx:a.eval x= .slice (some ⟨g,0,none⟩) 1 1)
    (h:∀v' w',aD E size enc W0.heap.size w' v' (l++[y])->Below W0.heap.size W0 w'->(w.alloc (.cells (enc y).toArray E)).grownBy w' v.ownBlock->(v'.ownBlock=v.ownBlock∨v'.ownBlock=some (w.heap.size+1))->wpList P ops Q rest (a.put o.dst v') w'):
    wpList P ops Q (o::rest) a (w.alloc (.cells (enc y).toArray E)):=by
 subst hg;exact aF R a7 h1 a8 hown y hlen a6 hgd s x ho hs hx h
theorem PO {s i:Nat} (hs:s<U64):(bits .and .u64 ((s:Int)/2^i) 1==0)= !s.testBit i:=by
 have e:(s:Int)/2^i=((s/2^i:Nat):Int):=(by simp);have h1:s/2^i<18446744073709551616:=Nat.lt_of_le_of_lt (Nat.div_le_self _ _) (by unfold U64 at hs;exact hs);have h2:=u64_and_nat (s/2^i) 1 h1 (by decide);rw[e,show(1:Int)=((1:Nat):Int) from rfl,h2,nat_mask1,Nat.testBit_eq_decide_div_mod_eq];rw[Bool.eq_iff_iff,beq_iff_eq,Bool.not_eq_true',decide_eq_false_iff_not];omega
theorem EN (s i x y:Nat) (w:World) (hs:s<U64) (Hl:Hid (sI s i)) (Hx:Hid (x=i%8)) (Hy:Hid (y=i/8)):Calls prog 156 #[.int .u64 s] w (Ret (.agg #[.int .i64 x,.int .i64 y]) w):=by
 have hi:=Hl.out.1;have hA:=(Below.refl w.heap.size w).al (.cells #[.int .i64 0,.int .i64 0] 83);have bR:=Blk.aZ w 83 #[.int .i64 0,.int .i64 0];go_enter Tryz.func156,Tryz.ntmps156
 go_wp2_with fail
 go_loop [3] (fun s3=>∃k:Nat,k<=i/\s3= .int .i64 k) (fun s3=>i-(intOf s3).toNat)
 case atStart=>exact⟨0,by omega,rfl⟩
 case round=>
  obtain⟨k,hk,rfl⟩:=hrel;have a6:=PO (i:=k) hs;by_cases hlt:k<i
  . have hb:s.testBit k=false:=Hl.out.2.2 k hlt;rw[hb]at a6;have Hb:=TY hb;clear hb;go_wp2;go_round
    case rel=>exact⟨k+1,by omega,by go_num⟩
    case measure=>simp[intOf];omega
  . obtain rfl : k = i := by omega
    have hb:=Hl.out.2.1;rw[hb]at a6;have Hb:=TY hb;clear hb;go_wp2_with fail
    refine(Cs k x y _ (by omega) Hx.out Hy.out).mono ?_;rintro e w1 ⟨rfl,hb1⟩;have a8:=bR.bl hb1;have B1:=hA.tr hb1;obtain⟨gR,a7⟩:=TV w.heap.size;have bA:w.heap.size<=gR:=(by omega);rw[<-a7]at a8⊢;clear a7 bR;obtain⟨bD,bF⟩:=a8.n2;have fR:=fun j=>a8.frozen j
    have bE:=(a8.st 0 (.int .i64 x) #[.int .i64 x,.int .i64 0] rfl).st 1 (.int .i64 y) #[.int .i64 x,.int .i64 y] rfl;have BE:=(B1.st ⟨gR,0,none⟩ (.int .i64 x) bA).st ⟨gR,1,none⟩ (.int .i64 y) bA;go_wp2;obtain⟨bB,bC⟩:=bE.n2;exact bodyPost_ret (v:= .agg #[.int .i64 x,.int .i64 y]) (by simp[results,Tryz.results156,go_sem,bB,bC]) rfl ⟨rfl,BE⟩
theorem JP (v:Value) (rows:List Int) (w:World) (h:Rd 1 bG w v rows):Calls prog 102 #[.agg #[v]] w (OJ (dV rows) (jW rows) w):=by
 obtain⟨A,c,rfl,hc,hm⟩:=h.form;have hA:=(Below.refl w.heap.size w).al (.cells #[.slice A rows.length c] 26);have bX:=Blk.aZ w 26 #[.slice A rows.length c];by_cases h0:aY rows=0
 . have e1 : dV rows = [] := by unfold dV; rw [if_pos h0]
   have e2:jW rows=false:=by unfold jW;exact decide_eq_false (fun q=>q h0)
   rw[e1,e2];have CT:∀(u:Value) (w:World),Rd 1 bG w u rows->Calls prog 155 #[.agg #[u]] w (Ret (.bool false) w):=fun u w k1=>Cu u rows false w k1 (.inl ⟨h0,rfl⟩)
   clear h0 e1 e2;go_enter func102,ntmps102
   go_wp2_with fail
   refine(CT _ _ (h.TW hA)).mono ?_;rintro e w1 ⟨rfl,hb1⟩;go_wp2;go_ret2
   exact⟨none,0,rfl,aD.DF,hA.tr hb1⟩
 . have hr:bQ rows=true:=by
    rcases q:bQ rows with _|_
    . exact absurd (show aY rows=0 by unfold aY;rw[q];rfl) h0
    . rfl
   have cS:Hid (dY rows):=TY (aN.1 hr);have hs0:=dW cS.out;have e1:dV rows=firstT (setOf rows):=by unfold dV;rw[if_neg h0]
   have e2:jW rows=true:=by unfold jW;exact decide_eq_true h0
   rw[e1,e2];have hc0:fF (setOf rows)≠0:=by unfold aY at h0;rw[if_pos hr]at h0;exact h0
   have CT:∀(u:Value) (w:World),Rd 1 bG w u rows->Calls prog 155 #[.agg #[u]] w (Ret (.bool true) w):=fun u w k1=>Cu u rows true w k1 (.inr ⟨h0,rfl⟩)
   obtain⟨s0,b7⟩:=TV (setOf rows);have CS:∀(u:Value) (w:World),Rd 1 bG w u rows->Calls prog 61 #[.agg #[u]] w (Ret (.int .u64 (s0:Nat)) w):=fun u w k1=>by rw[b7];exact pM u rows w k1 cS
   rw[<-b7]at hs0 hc0⊢;obtain⟨R,hR⟩:=TV (firstT s0);have eP:R.length<=64:=by rw[hR];exact zG s0
   rw[<-hR];have cT:Hid ([]++firstT s0=R):=TY hR.symm;have cU:=TY hc0;clear h0 hr e1 e2 b7 hR hc0;go_enter func102,ntmps102
   go_wp2_with fail
   refine(CT _ _ (h.TW hA)).mono ?_;rintro e w1 ⟨rfl,hb1⟩;have B1:=(hA.tr hb1).al (.cells #[] 99);have cV:=(bX.bl hb1).alloc (.cells #[] 99);have eJ:=(bX.bl hb1).lt;have eK:w.heap.size≠w1.heap.size:=by omega
   have cG:aD 99 3 aX w.heap.size (w1.alloc (.cells #[] 99)) (.slice (some ⟨w1.heap.size,0,none⟩) ([]:List Dm).length 0) []:=
    (eZ w1 (E:=99) (size:=3) (enc:=aX)).mono (hA.tr hb1).size
   have z0:=cV.c1;go_wp2_with fail
   refine(CS _ _ (h.TW B1)).mono ?_;rintro e w2 ⟨rfl,hb2⟩;have cH:=cG.below hb2;have B2:=B1.tr hb2;clear hA bX B1 cV hb1 hb2 cG z0 eJ eK;go_wp2_with fail
   go_loopw [4,5] (fun s4 s5 wr=>∃(s:Nat) (out:List Dm) (A1:Option Addr) (c1:Nat),s<U64/\s5= .int .u64 s/\s4= .slice A1 out.length c1/\aD 99 3 aX w.heap.size wr (.slice A1 out.length c1) out/\Below w.heap.size w wr/\Hid (fF s≠0)/\Hid (out++firstT s=R)) (fun _ s5 _=>(intOf s5).toNat)
   case atStart=>exact⟨s0,[],_,_,hs0,rfl,rfl,cH,B2,cU,cT⟩
   case round=>
    obtain⟨s,out,A1,c1,hs,rfl,rfl,own,B,Hc,HR⟩:=hrel;clear cH B2 cT cU;have hlen:out.length<=64:=by have:=congrArg List.length HR.out;rw[List.length_append]at this;omega
    by_cases hz:s=0
    . subst hz;have ho:out=R:=by have:=HR.out;rw[Ch,List.append_nil]at this;exact this
      subst ho;clear HR Hc;go_wp2;go_ret2
      exact⟨_,_,rfl,own,B⟩
    . obtain⟨i,hl⟩:=xB hs hz;have eL:((s:Int) !=0)=true:=by rw[bne_iff_ne];omega
      obtain⟨x,hx⟩:=TV (i%8);obtain⟨y,hy⟩:=TV (i/8);have hi:=hl.1;obtain⟨a7,hc2,cE⟩:=Ex hs hl Hc.out;have bU:=Lx hs a7;have Hl:=TY hl;have Hx:=TY hx;have Hy:=TY hy;have hrt:eQ i=((x:Int),(y:Int),false):=by unfold eQ;rw[<-hx,<-hy]
      have cM:fK i=((x:Int),(y:Int),true):=by unfold fK;rw[<-hx,<-hy]
      have H8:Hid ((out.length+1)*24<=140737488355328):=TY (by omega);have HM:Hid (out.length+1<=maxLen):=TY (by unfold maxLen;omega);clear hz hl hx hy;go_wp2_with fail
      refine(EN s i x y _ hs Hl Hx Hy).mono ?_;rintro e w3 ⟨rfl,hb3⟩;have hap:Value.ownBlock (.slice A1 out.length c1)≠some (w3.heap.size+1):=fun e=>by have:=(World.ownsRow.lt (own.below hb3) _ e).2;omega
      have cK:w.heap.size<=w3.heap.size+1:=by have:=(B.tr hb3).size;omega
      have bB:=((own.below hb3).alloc (.cells #[.int .i64 x,.int .i64 y] 83)).alloc (.cells #[.int .i64 x,.int .i64 y,.bool false] 99);have B3:=((B.tr hb3).al (.cells #[.int .i64 x,.int .i64 y] 83)).al (.cells #[.int .i64 x,.int .i64 y,.bool false] 99);have bL:=Blk.gZ (w3.alloc (.cells #[.int .i64 x,.int .i64 y] 83)) 99 #[.int .i64 x,.int .i64 y,.bool false] (w3.heap.size+1) (by simp);clear own B hb3;go_upto_region 8 with(fail)
      obtain⟨W,hW⟩:=TV ((w3.alloc (.cells #[.int .i64 x,.int .i64 y] 83)).alloc (.cells #[.int .i64 x,.int .i64 y,.bool false] 99));obtain⟨gD,cW⟩:=TV (w3.heap.size+1);rw[<-hW]at bB B3 bL⊢;rw[<-cW]at bL hap cK⊢;clear hW cW;obtain⟨bW,bY,b5⟩:=bL.n3;have hDl:=bL.lt;have Bw:Below W.heap.size W W.drew:=(Below.refl _ _).drew;have hz:W.heap.size<=W.drew.heap.size:=(by simp);rcases hg:vP s i with _|_
      . have hst : vQ s i = ((x : Int), (y : Int), true) := by unfold vQ; rw [hg, if_neg (by simp), cM]
        rw[hst]at a7 hc2 cE bU;have bR:aI ((x:Int),(y:Int),true)=true:=by unfold eU at a7;rw[Ub]at a7;exact a7.1
        unfold vP at hg;rw[hrt]at hg;have cI:Hid ((out++[((x:Int),(y:Int),true)])++firstT (dE s (aG ((x:Int),(y:Int),true)))=R):=TY (by rw[<-HR.out,cE,List.append_assoc];rfl);have cJ:dE s (aG ((x:Int),(y:Int),true))<U64:=eD hs;have CD:∀w,Calls prog 106 #[.agg #[.int .i64 x,.int .i64 y,.bool true]] w (Ret (.int .u64 (aG ((x:Int),(y:Int),true):Nat)) w):=fun w=>cZ x y true w bR
        obtain⟨u1,u2⟩:=uB hs (dP bR);have cX:=TY bR;have cF:=TY hc2;clear hst cE a7 hc2 bR hrt cM HR Hc;rcases b8:aI ((x:Int),(y:Int),false)with _|_
        . have bK:=TY b8;clear b8 hg;refine rB (fun w'=>w'.cell? ⟨gD,0,none⟩=some (.int .i64 x)/\w'.cell? ⟨gD,1,none⟩=some (.int .i64 y)/\w'.cell? ⟨gD,2,none⟩=some (.bool false)) fun hHeld=>(tW 0)<|(tR [1])<|tL fun K hK=>?_
          go_simp
          (first|(go_at_call 105;go_must (refine(aR x y false _).mono ?_;rintro e wX ⟨rfl,a6⟩;rw[bK.out];obtain⟨bC,bD,a8⟩:=bkn a6 W.heap.size hz;have hz:=a8;have Bw:=Bw.tr a6);(try go_wp2_with fail)))
          refine tK hK fun hHeld=>?_
          clear hK K;refine(tW 2)<|(tW 3)<|(tU 4)<|(tU 5)<|(tU 6)<|(tU 7)<|(tU 8)<|(tU 9)<|(tU 10)<|(tW 11)<|(tW 12)<|(tU 13)<|(tU 14)<|(tU 15)<|(tU 16)<|(tU 17)<|(tU 18)<|(tW 19)<|tD ?_;obtain⟨V,hV⟩:=TV wX;rw[<-hV]at Bw⊢;clear hV bC bD hz bW bY b5;(try clear hHeld)
          have bE:=bB.below Bw;have B4:=B3.tr Bw;have bJ:=bL.bl Bw;clear bB B3 bL Bw;have fD:=fun j=>bJ.frozen j
          obtain⟨cY,dL,dT⟩:=bJ.n3;have b6:=bJ.st 2 (.bool true) #[.int .i64 x,.int .i64 y,.bool true] rfl;have bN:=bE.far (a:=⟨gD,2,none⟩) hap (.bool true);have B5:=B4.st ⟨gD,2,none⟩ (.bool true) cK;obtain⟨bW,bY,b5⟩:=b6.n3;go_wp2_with (at_builtin;go_must (refine lT (enc:=aX) aK aC aM B5 bN (((x:Int),(y:Int),true):Dm) H8.out HM.out (by simp) rfl _ _ rfl rfl rfl ?_);intro v8 w8 bA b9 cA cN;obtain⟨A8,c8,rfl,cP,cQ⟩:=bA.form;have bF:=(b6.alloc (.cells (aX ((x:Int),(y:Int),true)).toArray 99)).grown cA (fun e=>hap e.symm);have cB:=bF.cell 0;have cC:=bF.cell 1;have cD:=bF.cell 2;simp only[TZ,T9,Ua]at cB cC cD)
          refine(CD _).mono ?_;rintro e w9 ⟨rfl,bO⟩;go_wp2;go_roundw
          case rel=>exact⟨_,_,_,_,cJ,rfl,by simp,bA.below bO,b9.tr bO,cF,cI⟩
          case measure=>simp[intOf];omega
        . have eA:=dP b8;obtain⟨D,hD⟩:=TV (aG ((x:Int),(y:Int),false));have cL:∀w,Calls prog 106 #[.agg #[.int .i64 x,.int .i64 y,.bool false]] w (Ret (.int .u64 (D:Nat)) w):=fun w=>by rw[hD];exact cZ x y false w b8
          rw[<-hD]at eA hg;obtain⟨u1,u2⟩:=uB hs eA;unfold eU at hg;rw[b8,Bool.true_and,<-hD]at hg;have bK:=TY b8;clear b8 hD;by_cases q:s&&&D=D
          . have hne : (((s &&& D : Nat) : Int) != (D : Int)) = false := by rw [q]; simp
            have eC:fF (dE s D)=0:=by
             rw[decide_eq_true q,Bool.true_and,decide_eq_false_iff_not]at hg;omega
            have CN:∀w,Calls prog 157 #[.int .u64 (dE s D:Nat)] w (Ret (.int .i64 0) w):=fun w=>by have:=FD (dE s D) w (eD hs);rw[eC]at this;exact this
            clear q hg eC;go_region_held3 (fun w'=>w'.cell? ⟨gD,0,none⟩=some (.int .i64 x)/\w'.cell? ⟨gD,1,none⟩=some (.int .i64 y)/\w'.cell? ⟨gD,2,none⟩=some (.bool false)) (go_keep) (first|(go_at_call 105;go_must (refine(aR x y false _).mono ?_;rintro e wX ⟨rfl,a6⟩;rw[bK.out];obtain⟨bC,bD,a8⟩:=bkn a6 W.heap.size hz;have hz:=a8;have Bw:=Bw.tr a6);(try go_wp2_with fail))|(go_at_call 106;go_must (refine(cL _).mono ?_;rintro e wX ⟨rfl,a6⟩;obtain⟨bC,bD,a8⟩:=bkn a6 W.heap.size hz;have hz:=a8;have Bw:=Bw.tr a6);(try go_wp2_with fail))|(go_at_call 157;go_must (refine(CN _).mono ?_;rintro e wX ⟨rfl,a6⟩;obtain⟨bC,bD,a8⟩:=bkn a6 W.heap.size hz;have hz:=a8;have Bw:=Bw.tr a6);(try go_wp2_with fail)))
            obtain⟨V,hV⟩:=TV wX;rw[<-hV]at Bw⊢;clear hV bC bD hz bW bY b5;(try clear hHeld)
            have bE:=bB.below Bw;have B4:=B3.tr Bw;have bJ:=bL.bl Bw;clear bB B3 bL Bw;have fD:=fun j=>bJ.frozen j
            obtain⟨cY,dL,dT⟩:=bJ.n3;have b6:=bJ.st 2 (.bool true) #[.int .i64 x,.int .i64 y,.bool true] rfl;have bN:=bE.far (a:=⟨gD,2,none⟩) hap (.bool true);have B5:=B4.st ⟨gD,2,none⟩ (.bool true) cK;obtain⟨bW,bY,b5⟩:=b6.n3;go_wp2_with (at_builtin;go_must (refine lT (enc:=aX) aK aC aM B5 bN (((x:Int),(y:Int),true):Dm) H8.out HM.out (by simp) rfl _ _ rfl rfl rfl ?_);intro v8 w8 bA b9 cA cN;obtain⟨A8,c8,rfl,cP,cQ⟩:=bA.form;have bF:=(b6.alloc (.cells (aX ((x:Int),(y:Int),true)).toArray 99)).grown cA (fun e=>hap e.symm);have cB:=bF.cell 0;have cC:=bF.cell 1;have cD:=bF.cell 2;simp only[TZ,T9,Ua]at cB cC cD)
            refine(CD _).mono ?_;rintro e w9 ⟨rfl,bO⟩;go_wp2;go_roundw
            case rel=>exact⟨_,_,_,_,cJ,rfl,by simp,bA.below bO,b9.tr bO,cF,cI⟩
            case measure=>simp[intOf];omega
          . have hne : (((s &&& D : Nat) : Int) != (D : Int)) = true := by rw [bne_iff_ne]; omega
            clear q hg;refine rB (fun w'=>w'.cell? ⟨gD,0,none⟩=some (.int .i64 x)/\w'.cell? ⟨gD,1,none⟩=some (.int .i64 y)/\w'.cell? ⟨gD,2,none⟩=some (.bool false)) fun hHeld=>(tW 0)<|(tR [1])<|tL fun K hK=>?_
            go_simp
            (first|(go_at_call 105;go_must (refine(aR x y false _).mono ?_;rintro e wX ⟨rfl,a6⟩;rw[bK.out];obtain⟨bC,bD,a8⟩:=bkn a6 W.heap.size hz;have hz:=a8;have Bw:=Bw.tr a6);(try go_wp2_with fail))|(go_at_call 106;go_must (refine(cL _).mono ?_;rintro e wX ⟨rfl,a6⟩;obtain⟨bC,bD,a8⟩:=bkn a6 W.heap.size hz;have hz:=a8;have Bw:=Bw.tr a6);(try go_wp2_with fail)))
            refine tK hK fun hHeld=>?_
            clear hK K;refine(tW 2)<|(tW 3)<|(tW 4)<|(tW 5)<|(tW 8)<|(tR [6])<|tL fun K hK=>?_
            go_simp
            (first|(go_at_call 105;go_must (refine(aR x y false _).mono ?_;rintro e wX ⟨rfl,a6⟩;rw[bK.out];obtain⟨bC,bD,a8⟩:=bkn a6 W.heap.size hz;have hz:=a8;have Bw:=Bw.tr a6);(try go_wp2_with fail))|(go_at_call 106;go_must (refine(cL _).mono ?_;rintro e wX ⟨rfl,a6⟩;obtain⟨bC,bD,a8⟩:=bkn a6 W.heap.size hz;have hz:=a8;have Bw:=Bw.tr a6);(try go_wp2_with fail)))
            refine tK hK fun hHeld=>?_
            clear hK K;refine(tW 7)<|(tR [9])<|tL fun K hK=>?_
            go_simp
            (first|(go_at_call 105;go_must (refine(aR x y false _).mono ?_;rintro e wX ⟨rfl,a6⟩;rw[bK.out];obtain⟨bC,bD,a8⟩:=bkn a6 W.heap.size hz;have hz:=a8;have Bw:=Bw.tr a6);(try go_wp2_with fail))|(go_at_call 106;go_must (refine(cL _).mono ?_;rintro e wX ⟨rfl,a6⟩;obtain⟨bC,bD,a8⟩:=bkn a6 W.heap.size hz;have hz:=a8;have Bw:=Bw.tr a6);(try go_wp2_with fail)))
            refine tK hK fun hHeld=>?_
            clear hK K;refine(tW 10)<|(tW 11)<|(tW 12)<|(tU 13)<|(tU 14)<|(tU 15)<|(tU 16)<|(tU 17)<|(tU 18)<|(tW 19)<|tD ?_;obtain⟨V,hV⟩:=TV wX;rw[<-hV]at Bw⊢;clear hV bC bD hz bW bY b5;(try clear hHeld)
            have bE:=bB.below Bw;have B4:=B3.tr Bw;have bJ:=bL.bl Bw;clear bB B3 bL Bw;have fD:=fun j=>bJ.frozen j
            obtain⟨cY,dL,dT⟩:=bJ.n3;have b6:=bJ.st 2 (.bool true) #[.int .i64 x,.int .i64 y,.bool true] rfl;have bN:=bE.far (a:=⟨gD,2,none⟩) hap (.bool true);have B5:=B4.st ⟨gD,2,none⟩ (.bool true) cK;obtain⟨bW,bY,b5⟩:=b6.n3;go_wp2_with (at_builtin;go_must (refine lT (enc:=aX) aK aC aM B5 bN (((x:Int),(y:Int),true):Dm) H8.out HM.out (by simp) rfl _ _ rfl rfl rfl ?_);intro v8 w8 bA b9 cA cN;obtain⟨A8,c8,rfl,cP,cQ⟩:=bA.form;have bF:=(b6.alloc (.cells (aX ((x:Int),(y:Int),true)).toArray 99)).grown cA (fun e=>hap e.symm);have cB:=bF.cell 0;have cC:=bF.cell 1;have cD:=bF.cell 2;simp only[TZ,T9,Ua]at cB cC cD)
            refine(CD _).mono ?_;rintro e w9 ⟨rfl,bO⟩;go_wp2;go_roundw
            case rel=>exact⟨_,_,_,_,cJ,rfl,by simp,bA.below bO,b9.tr bO,cF,cI⟩
            case measure=>simp[intOf];omega
      . have hst : vQ s i = ((x : Int), (y : Int), false) := by unfold vQ; rw [hg, if_pos rfl, hrt]
        rw[hst]at a7 hc2 cE bU;have bR:aI ((x:Int),(y:Int),false)=true:=by unfold eU at a7;rw[Ub]at a7;exact a7.1
        have hq:s&&&aG ((x:Int),(y:Int),false)=aG ((x:Int),(y:Int),false):=by unfold eU at a7;rw[Ub,decide_eq_true_iff]at a7;exact a7.2
        clear hg;have cI:Hid ((out++[((x:Int),(y:Int),false)])++firstT (dE s (aG ((x:Int),(y:Int),false)))=R):=TY (by rw[<-HR.out,cE,List.append_assoc];rfl);have cJ:dE s (aG ((x:Int),(y:Int),false))<U64:=eD hs;have CD:∀w,Calls prog 106 #[.agg #[.int .i64 x,.int .i64 y,.bool false]] w (Ret (.int .u64 (aG ((x:Int),(y:Int),false):Nat)) w):=fun w=>cZ x y false w bR
        obtain⟨u1,u2⟩:=uB hs (dP bR);have cX:=TY bR;have cF:=TY hc2;clear hst cE a7 hc2 bR hrt cM HR Hc;obtain⟨D,hD⟩:=TV (aG ((x:Int),(y:Int),false));have hne:(((s&&&aG ((x:Int),(y:Int),false):Nat):Int) !=(aG ((x:Int),(y:Int),false):Int))=false:=by rw[hq];simp
        rw[<-hD]at hne;have CN:∀w,Calls prog 157 #[.int .u64 (dE s D:Nat)] w (Ret (.int .i64 (fF (dE s D))) w):=fun w=>FD (dE s D) w (eD hs)
        have eE:∀w,Calls prog 106 #[.agg #[.int .i64 x,.int .i64 y,.bool false]] w (Ret (.int .u64 (D:Nat)) w):=fun w=>by rw[hD];exact CD w
        have eI:=u1;have cR:=u2;rw[<-hD]at eI cR;obtain⟨n,hn⟩:=TV (fF (dE s D));have eM:(n==0)=false:=by rw[hn,hD];simpa using cF.out
        rw[<-hn]at CN;have eN:=TY hD;clear hq hn hD u1 u2;go_region_held3 (fun w'=>w'.cell? ⟨gD,0,none⟩=some (.int .i64 x)/\w'.cell? ⟨gD,1,none⟩=some (.int .i64 y)/\w'.cell? ⟨gD,2,none⟩=some (.bool false)) (go_keep) (first|(go_at_call 105;go_must (refine(aR x y false _).mono ?_;rintro e wX ⟨rfl,a6⟩;rw[cX.out];obtain⟨bC,bD,a8⟩:=bkn a6 W.heap.size hz;have hz:=a8;have Bw:=Bw.tr a6);(try go_wp2_with fail))|(go_at_call 106;go_must (refine(eE _).mono ?_;rintro e wX ⟨rfl,a6⟩;obtain⟨bC,bD,a8⟩:=bkn a6 W.heap.size hz;have hz:=a8;have Bw:=Bw.tr a6);(try go_wp2_with fail))|(go_at_call 157;go_must (refine(CN _).mono ?_;rintro e wX ⟨rfl,a6⟩;obtain⟨bC,bD,a8⟩:=bkn a6 W.heap.size hz;have hz:=a8;have Bw:=Bw.tr a6);(try go_wp2_with fail)))
        have u2:bits .andNot .u64 (s:Int) (aG ((x:Int),(y:Int),false):Int)=((dE s (aG ((x:Int),(y:Int),false)):Nat):Int):=by rw[<-eN.out];exact cR
        clear eI cR hne CN eE eM;obtain⟨V,hV⟩:=TV wX;rw[<-hV]at Bw⊢;clear hV bC bD hz bW bY b5;(try clear hHeld)
        have bE:=bB.below Bw;have B4:=B3.tr Bw;have bJ:=bL.bl Bw;clear bB B3 bL Bw;obtain⟨bW,bY,b5⟩:=bJ.n3;go_wp2_with (at_builtin;go_must (refine lT (enc:=aX) aK aC aM B4 bE (((x:Int),(y:Int),false):Dm) H8.out HM.out (by simp) rfl _ _ rfl rfl rfl ?_);intro v8 w8 bA b9 cA cN;obtain⟨A8,c8,rfl,cP,cQ⟩:=bA.form;have bF:=(bJ.alloc (.cells (aX ((x:Int),(y:Int),false)).toArray 99)).grown cA (fun e=>hap e.symm);have cB:=bF.cell 0;have cC:=bF.cell 1;have cD:=bF.cell 2;simp only[TZ,T9,Ua]at cB cC cD)
        refine(CD _).mono ?_;rintro e w9 ⟨rfl,bO⟩;go_wp2;go_roundw
        case rel=>exact⟨_,_,_,_,cJ,rfl,by simp,bA.below bO,b9.tr bO,cF,cI⟩
        case measure=>simp[intOf];omega
end Go.Proofs.YtjijonhkofhikaaGreatDoor
