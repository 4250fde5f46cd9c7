import Derived.Test.YtjijonhkofhikaaGreatDoorEG16
import Derived.Test.YtjijonhkofhikaaGreatDoorEListS
open _root_.List renaming length_append->TZ,getElem_mem->T9
open _root_.Nat renaming zero_le->Ua,le_refl->Ub
open _root_.Go.Proofs.Tryz (prog func203 ntmps203 func155 ntmps155)
set_option linter.unusedVariables false
set_option linter.unusedSimpArgs false
set_option maxHeartbeats 4000000
set_option maxRecDepth 100000
namespace Go.Proofs.YtjijonhkofhikaaGreatDoor
open Go.ChangeShapes Go.WideShapes Go.ChangeAt Go.RowKit
theorem EM (v u:Value) (rows:List Int) (m:List Dm) (w:World) (h:Rd 1 bG w v rows) (h':Rd 3 aU w u m):Calls prog 180 #[.agg #[v],u] w (Ret (.int .i64 (oJ (aH rows) m)) w):=by
 have B0:=(Below.refl w.heap.size w).al (.cells #[v] 26);obtain⟨T,hT⟩:=TV (aH rows);have cL:∀(W:World),Rd 1 bG W v rows->Calls prog 181 #[.agg #[v]] W (EA T W):=fun W hW=>by rw[hT];exact uU v rows W hW
 rw[<-hT];have a8:=TY cL;clear hT cL;go_enter Tryz.func180,Tryz.ntmps180
 go_wp2_with fail
 refine(a8.out _ (h.TW B0)).mono ?_;rintro e w1 ⟨A,c,rfl,oT,hb1⟩;have B1:=B0.tr hb1
 have bA:T.length<=9223372036854775807:=by
  obtain⟨_,_,e,h1,h2⟩:=oT.form;unfold maxLen at h2;omega
 clear hb1 B0;go_wp2;go_loopw [6] (fun s6 wr=>∃(k:Nat),k<=T.length/\s6= .int .i64 k/\Hid (∀j (hj:j<k) (h:j<T.length),T[j]≠m)/\Below w1.heap.size w1 wr) (fun i _=>T.length-(intOf i).toNat)
 case atStart=>exact⟨0,Ua _,rfl,TY (fun j hj=>by omega),Below.refl _ _⟩
 case round=>
  obtain⟨k,hk,rfl,Hg,a6⟩:=hrel;by_cases hlt:k<T.length
  . obtain⟨g,D,d,rfl,hg1,hg2,c1,a7⟩:=(oT.below a6).pick hlt;have bB:(k:Int)<(T.length:Int):=(by omega);obtain⟨t,ht⟩:=TV (T[k]);rw[<-ht]at c1 a7;have HT:=TY ht;clear ht;have B2:=B1.tr a6;go_wp2_with fail
    refine(uQ _ _ t m _ (a7.rd aC (by decide)) (h'.TW B2)).mono ?_;rintro e w2 ⟨rfl,hb2⟩;by_cases he:t=m
    . rw[decide_eq_true he];have HI:Hid (oJ T m=(k:Int)):=TY (index_hit hlt (fun j hj=>Hg.out j hj (by omega)) (by rw[<-HT.out];exact he));clear he;go_wp2;go_ret;exact⟨by rw[HI.out];rfl,B2.tr hb2⟩
    . rw[decide_eq_false he]
      have HN : Hid (∀ j (hj : j < k + 1) (h : j < T.length), T[j] ≠ m) := TY (fun j hj h q => by
       rcases(by omega:j<k∨j=k)with h1|h1
       . exact Hg.out j h1 h q
       . subst h1;rw[<-HT.out]at q;exact he q)
      clear he;go_wp2;go_roundw
      case rel=>exact⟨k+1,by omega,by go_num,HN,a6.tr hb2⟩
      case measure=>simp[intOf];omega
  . obtain rfl : k = T.length := by omega
    have HI:Hid (oJ T m= -1):=TY (EB (fun j hj=>Hg.out j hj hj));go_wp2;go_ret;exact⟨by rw[HI.out];rfl,B1.tr a6⟩
def seen (p j:Nat):List Int:=if p<j then[(p:Int)]else[]
theorem PN {p:Nat}:seen p p++[(p:Int)]=seen p (p+1):=by unfold seen;rw[if_neg (by omega),if_pos (by omega)];rfl
theorem R6 {p j:Nat} (h:p≠j):seen p (j+1)=seen p j:=by
 unfold seen;by_cases q:p<j
 . rw[if_pos (by omega),if_pos q]
 . rw[if_neg (by omega),if_neg q]
theorem KN (p j:Nat):(seen p j).length<=1:=by unfold seen;split<;>simp
def lnk (l:List Int) (p j:Nat):List Int:=l++seen p j
theorem KO (l:List Int) (p:Nat):lnk l p 0=l:=by unfold lnk seen;rw[if_neg (by omega),List.append_nil]
theorem R7 (l:List Int) (p:Nat):lnk l p p++[(p:Int)]=lnk l p (p+1):=by unfold lnk;rw[List.append_assoc,PN]
theorem Ti (l:List Int) {p j:Nat} (h:p≠j):lnk l p (j+1)=lnk l p j:=by unfold lnk;rw[R6 h]
theorem R8 (l:List Int) (p j:Nat):(lnk l p j).length<=l.length+1:=by unfold lnk;rw[TZ];have:=KN p j;omega
theorem R9 (l:List Int) {p n:Nat} (h:p<n):lnk l p n=l++[(p:Int)]:=by unfold lnk seen;rw[if_pos h]
theorem LP {B:Nat} (v:Value) (T:List (List Dm)) (w:World) (h:dU 27 99 3 aX B w v T) (hT:pY T) (cH:∀t∈T,t.length<=64):
 Calls prog 183 #[v] w (fun e w'=>∃A c,e= .returned (.slice A T.length c)/\dU 24 3 1 bH w.heap.size w' (.slice A T.length c) (mU T T.length)/\Below w.heap.size w w'):=by
 obtain⟨A,c,rfl,hc,hm⟩:=h.form;have hsm:=hT.sm;have HF:=TY hT;have HK:=TY cH;have oo:=fI w (E:=24) (size:=1) (enc:=eV) w.heap.size rfl w.heap.size (Ub _);have bF:dU 24 3 1 bH w.heap.size (w.alloc (.cells #[] 24)) (.slice (some ⟨w.heap.size,0,none⟩) 0 0) (mU T 0):=⟨[],oo,rfl,fun k u x hu=>by simp at hu⟩;clear hT cH hc hm oo;go_enter Tryz.func183,Tryz.ntmps183
 go_wp2;go_loopw [3,4] (fun s3 s4 wr=>∃(k:Nat) (D:Option Addr) (d:Nat),k<=T.length/\s4= .int .i64 k/\s3= .slice D k d/\dU 24 3 1 bH w.heap.size wr (.slice D k d) (mU T k)/\Below w.heap.size w wr) (fun _ i _=>T.length-(intOf i).toNat)
 case atStart=>exact⟨0,_,_,Ua _,rfl,rfl,bF,(Below.refl _ _).al _⟩
 case round=>
  clear bF;obtain⟨k,D,d,hk,rfl,rfl,bF,a6⟩:=hrel;by_cases hlt:k<T.length
  . obtain⟨g,D1,d1,rfl,hg1,hg2,c1,tk⟩:=(h.below a6).pick hlt;have eE:(k:Int)<(T.length:Int):=(by omega);obtain⟨l,hl⟩:=TV (T[k]);have eI:l.length<=64:=by rw[hl];exact HK.out _ (T9 hlt)
    have bL:til T k=l:=(by rw[iV hlt,hl]);rw[<-hl]at c1 tk;have a8:=TY bL;have cC:=TY hlt;have cS:Small l.length:=by unfold Small;omega
    clear hl bL;go_wp2_with fail
    refine(zL _ l _ (tk.rd aC (by decide))).mono ?_;rintro e w1 ⟨A6,c6,rfl,oF,hb1⟩;have cT:=xN l;obtain⟨F,hF⟩:=TV (fC l);rw[<-hF]at oF cT⊢;have bN:=TY hF;have B1:=a6.tr hb1;have cU:=tk.below hb1;have bO:=bF.below hb1;have cK:w1.cell? ⟨g,k,none⟩=some (.slice D1 l.length d1):=(hb1.cell (p:=⟨g,k,none⟩) hg2).trans c1;have bR:g<w1.heap.size:=Nat.lt_of_lt_of_le hg2 hb1.size;have oi:=fI w1 (E:=3) (size:=1) (enc:=bH) w1.heap.size rfl w1.heap.size (Ub _);clear hF bF a6 hb1 tk c1;go_wp2;go_loopw [6,7] (fun s6 s7 wr=>∃(t:Nat) (D:Option Addr) (d:Nat),t<=F.length/\s7= .int .i64 t/\s6= .slice D t d/\aD 3 1 bH w1.heap.size wr (.slice D t d) (iD T k t)/\Below w1.heap.size w1 wr) (fun _ i _=>F.length-(intOf i).toNat)
    case atStart=>exact⟨0,_,_,Ua _,rfl,rfl,oi,(Below.refl _ _).al _⟩
    case round=>
     clear oi;obtain⟨t,D2,d2,ht,rfl,rfl,hown,a6⟩:=hrel;by_cases bA:t<F.length
     . have cI:=oF.below a6;obtain⟨b,off,rfl,hb,q0,q1⟩:=(cI.rd eG (by decide)).fQ bA;have cV:=(a6.cell (p:=⟨g,k,none⟩) bR).trans cK;obtain⟨xy,b9⟩:=TV (F[t]);have bU:xy∈fC l:=by rw[b9,<-bN.out];exact T9 bA
       rw[<-b9]at q0 q1;obtain⟨x,y⟩:=xy;simp only at q0 q1;have cD:¬kindOf l (x,y)=0:=lZ.1 bU;have cE:=(HF.out.cl _ (T9 cC.out) (x,y) (by rw[<-iV cC.out,a8.out];exact cD)).1;rw[<-iV cC.out,a8.out]at cE;obtain⟨hat,bW⟩:=oH cE;obtain⟨p,hp⟩:=TV (ix T (aW l (x,y)))
       have cJ:iD T k t++[(p:Int)]=iD T k (t+1):=by
        have bX:t<(fC (til T k)).length:=by rw[a8.out,<-bN.out];exact bA
        rw[<-JJ bX];congr 2
        have e:(fC (til T k))[t]=(x,y):=by
         have:∀(G:List Cl),G=F->∀h:t<G.length,G[t]=(x,y):=fun G e h=>by subst e;exact b9.symm
         exact this _ (by rw[a8.out,<-bN.out]) bX
        unfold vS;rw[e,a8.out,hp]
       have bY:(iD T k t).length=t:=LD (by rw[a8.out,<-bN.out];omega)
       have cL : ∀ j (h : j < T.length), T[j] = aW l (x, y) ↔ j = p := fun j h => by
        constructor
        . intro e;rw[hp,<-e];exact(Sz HF.out.nd h).symm
        . intro e;subst e;have:=bW;simp only[<-hp]at this;exact this
       rw[<-hp]at hat;have cM:=TY cJ;have bJ:=TY bY;have cW:=TY cD;have cN:=TY cL;clear cJ bY cD bU b9 cE cI bW hp cL;have eJ:(t:Int)<(F.length:Int):=(by omega);obtain⟨W,hW⟩:=TV wr;rw[<-hW]at a6 hown q0 q1 cV hb⊢;clear hW;have eK:g<W.heap.size:=Nat.lt_of_lt_of_le bR a6.size;have Bw:Below W.heap.size W W.drew:=(Below.refl _ _).drew;have hz:W.heap.size<=W.drew.heap.size:=(by simp);go_wp2_with fail
       refine rB (fun w'=>w'.cell? ⟨g,k,none⟩=some (.slice D1 l.length d1)/\w'.cell? ⟨b,off+t*2,none⟩=some (.int .i64 x)/\w'.cell? ⟨b,off+t*2+1,none⟩=some (.int .i64 y)) fun hHeld=>(tW 0)<|(tW 1)<|(tW 2)<|(tW 3)<|(tW 4)<|(tW 5)<|(tW 6)<|(tW 7)<|(tR [8])<|tL fun K hK=>?_
       go_simp
       (go_at_call 169;go_must (refine(wJ _ l x y _ ((cU.below (a6.tr Bw)).rd aC (by decide)) cS cW.out).mono ?_;rintro e wX ⟨A7,c7,rfl,oN,cP⟩;obtain⟨eL,eM,cX⟩:=bkn cP W.heap.size hz;have hz:=cX;have Bw:=Bw.tr cP);(try go_wp2_with fail))
       refine tK hK fun hHeld=>?_
       clear hK K;refine(tW 9)<|(tW 10)<|(tW 11)<|(tW 12)<|(tW 13)<|tD ?_
       all_goals
         have B2:=a6.tr Bw;have bB:=hown.below Bw;have eN:=Ub wX.heap.size
       obtain⟨V,hV⟩:=TV wX;rw[<-hV]at B2 bB oN Bw⊢;clear hV;obtain⟨N,hN⟩:=TV (aW l (x,y));rw[<-hN]at oN cN⊢;clear hN;go_wp2;go_loopw [6,10] (fun s6 cY wr=>∃(j:Nat) (D:Option Addr) (d:Nat),j<=T.length/\cY= .int .i64 j/\s6= .slice D (lnk (iD T k t) p j).length d/\aD 3 1 bH w1.heap.size wr (.slice D (lnk (iD T k t) p j).length d) (lnk (iD T k t) p j)/\Below w1.heap.size w1 wr/\aD 99 3 aX w1.heap.size wr (.slice A7 N.length c7) N) (fun _ i _=>T.length-(intOf i).toNat)
       case atStart => exact ⟨0, _, _, Ua _, rfl, by rw [KO, bJ.out], by
        rw[KO,bJ.out];exact bB,B2,oN.mono (by first|exact a6.size|simpa using a6.size)⟩
       case round=>
        clear bB B2 oN;obtain⟨j,D3,d3,hj,rfl,rfl,hown,a7,oN⟩:=hrel;by_cases cQ:j<T.length
        . obtain⟨g2,Dj,dj,b5,_,_,cj,tj⟩:=(h.below (B1.tr a7)).pick cQ;injection b5 with b5;injection b5 with b5 _;subst b5;have eP:(j:Int)<(T.length:Int):=(by omega);have bC:=cN.out j cQ;obtain⟨u,hu⟩:=TV (T[j]);rw[<-hu]at cj tj bC;have b6:=TY bC;have b7:=KN p j;clear hu bC;go_wp2_with fail
          refine(uQ _ _ u N _ (tj.rd aC (by decide)) (oN.rd aC (by decide))).mono ?_;rintro e w5 ⟨rfl,cF⟩;have bD:=hown.below cF;have B5:=a7.tr cF;have b8:=oN.below cF;by_cases bK:j=p
          . rw[decide_eq_true (b6.out.2 bK)];have HS:Hid ((lnk (iD T k t) p j)++[(j:Int)]=lnk (iD T k t) p (j+1)):=TY (by rw[bK];exact R7 _ _);have cR:Hid ((lnk (iD T k t) p j).length<=100):=TY (by have:=R8 (iD T k t) p j;rw[bJ.out]at this;omega);have H8:Hid (((lnk (iD T k t) p j).length+1)*8<=140737488355328):=TY (by have:=cR.out;omega);have HM:Hid ((lnk (iD T k t) p j).length+1<=maxLen):=TY (by have:=cR.out;unfold maxLen;omega);have cA:Hid ((lnk (iD T k t) p (j+1)).length=(lnk (iD T k t) p j).length+1):=TY (by rw[<-HS.out,TZ];rfl);clear bK b7;go_wp2_with (at_builtin;go_must (refine aF (enc:=bH) fE aJ jN B5 bD (j:Int) H8.out HM.out rfl _ _ rfl rfl rfl ?_);intro v6 w6 bE dL dT eR;rw[HS.out]at bE;obtain⟨A8,c8,rfl,eW,e5⟩:=bE.form)
            have eA:=aD.lX (b8.alloc (.cells (bH (j:Int)).toArray 3)) (bD.alloc (.cells (bH (j:Int)).toArray 3)) (by decide) dT;go_roundw
            case rel=>exact⟨j+1,A8,c8,by omega,by go_num,by first|rfl|rw[cA.out],bE,dL,eA⟩
            case measure=>simp[intOf];omega
          . rw [decide_eq_false (fun e => bK (b6.out.1 e))];have HS:Hid (lnk (iD T k t) p (j+1)=lnk (iD T k t) p j):=TY (Ti _ (fun e=>bK e.symm));clear bK b7;go_wp2;go_roundw
            case rel=>exact⟨j+1,D3,d3,by omega,by go_num,by rw[HS.out],by rw[HS.out];exact bD,B5,b8⟩
            case measure=>simp[intOf];omega
        . obtain rfl : j = T.length := by omega
          have HS : Hid (lnk (iD T k t) p T.length = iD T k (t + 1)) := TY (by
           rw[R9 _ hat];exact cM.out)
          have cA:Hid ((iD T k (t+1)).length=t+1):=TY (by rw[<-cM.out,TZ,bJ.out];rfl);rw[HS.out,cA.out]at hown;rw[HS.out,cA.out];go_wp2;go_roundw
          case rel=>exact⟨t+1,D3,d3,by omega,by go_num,rfl,hown,a7⟩
          case measure=>simp[intOf];omega
     . obtain rfl : t = F.length := by omega
       have bY:iD T k F.length=sU T k:=(by rw[<-LF,a8.out,<-bN.out]);rw[bY]at hown;obtain⟨us,h1,h2,h3⟩:=bO.below a6;have cB:us.length=k:=by rw[h2];exact oQ T k
       have B2:=B1.tr a6;have H8:Hid ((us.length+1)*24<=140737488355328):=TY (by rw[cB];omega);have HM:Hid (us.length+1<=maxLen):=TY (by rw[cB];unfold maxLen;omega);have hrow:∀j,(Value.slice D k d).ownBlock=some j->w.heap.size<=j:=fun j hj=>(World.ownsRow.lt h1 j hj).1
       have eC:=TY cB;have bJ:=TY (JL T k);have cG:=TY hrow;have hown':=hown.mono B1.size;clear cB bY hrow bO B1;go_wp2_with (at_builtin;go_must (refine pJ (enc:=eV) Na Ck wr B2.size h1 (.slice D2 F.length d2) (by simp[eV,Value.oneCell']) rfl H8.out HM.out rfl _ _ rfl rfl rfl ?_);intro A5 c5 w5 o5 g5 e6)
       have b8:=dU.snoc (by decide) h1 h2 h3 hown' o5 g5;rw[bJ.out,eC.out]at b8;have B5:=B2.grown g5 B2.size (fun j hj=>cG.out j hj);go_roundw
       case rel=>exact⟨k+1,A5,c5,by omega,by go_num,by rw[oQ],b8,B5⟩
       case measure=>simp[intOf];omega
  . obtain rfl : k = T.length := by omega
    go_wp2;go_ret;exact⟨_,_,rfl,bF,a6⟩
theorem FD (s:Nat) (w:World) (hs:s<U64):Calls prog 157 #[.int .u64 s] w (Ret (.int .i64 (fF s)) w):=by
 obtain⟨R,hR⟩:=TV (fF s);have C:Calls prog 209 #[.int .u64 s,.int .i64 0,.func (.func 210) #[] #[],.func (.func 211) #[] #[]] w (Ret (.int .i64 R) w):=by rw[hR];exact Oe s w hs
 rw[<-hR];clear hR;go_enter Tryz.func157,Tryz.ntmps157
 go_wp2_with fail
 refine C.mono ?_;rintro e w1 ⟨rfl,hb1⟩;go_wp2;go_ret;exact⟨rfl,hb1⟩
theorem Ct (v:Value) (rows:List Int) (w:World) (h:Rd 1 bG w v rows):Calls prog 203 #[.agg #[v]] w (Ret (.int .i64 (aY rows)) w):=by
 obtain⟨A,c,rfl,hc,hm⟩:=h.form;have hA:=(Below.refl w.heap.size w).al (.cells #[.slice A rows.length c] 26);have bX:=Blk.aZ w 26 #[.slice A rows.length c];rcases hk:bQ rows with _|_
 . have e : aY rows = 0 := by unfold aY; rw [hk]; rfl
   rw[e];have Hk:=TY hk;clear hk e;go_enter func203,ntmps203
   go_wp2_with fail
   refine(nT _ rows _ (h.TW hA)).mono ?_;rintro e w1 ⟨rfl,hb1⟩;rw[Hk.out];go_wp2;go_ret;exact⟨rfl,hA.tr hb1⟩
 . have e : aY rows = fF (setOf rows) := by unfold aY; rw [if_pos hk]
   rw[e];have a6:Hid (dY rows):=TY (aN.1 hk);have Hk:=TY hk;clear hk e;go_enter func203,ntmps203
   go_wp2_with fail
   refine(nT _ rows _ (h.TW hA)).mono ?_;rintro e w1 ⟨rfl,hb1⟩;rw[Hk.out];have z1:=(bX.bl hb1).c1;go_wp2_with fail
   refine(pM _ rows _ ((h.TW hA).TW hb1) a6).mono ?_;rintro e w2 ⟨rfl,hb2⟩;go_wp2_with fail
   refine(FD _ _ (dW a6.out)).mono ?_;rintro e w3 ⟨rfl,hb3⟩;go_wp2;go_ret;exact⟨rfl,((hA.tr hb1).tr hb2).tr hb3⟩
theorem Cu (v:Value) (rows:List Int) (b:Bool) (w:World) (h:Rd 1 bG w v rows) (hb:(aY rows=0/\b=false)∨(aY rows≠0/\b=true)):Calls prog 155 #[.agg #[v]] w (Ret (.bool b) w):=by
 obtain⟨A,c,rfl,hc,hm⟩:=h.form;have hA:=(Below.refl w.heap.size w).al (.cells #[.slice A rows.length c] 26);have a6:=Lv rows;obtain⟨k,hk⟩:=TV (aY rows);have C:∀(u:Value) (w:World),Rd 1 bG w u rows->Calls prog 203 #[.agg #[u]] w (Ret (.int .i64 k) w):=fun u w k1=>by rw[hk];exact Ct u rows w k1
 rw[<-hk]at a6 hb;clear hk;rcases hb with⟨h0,rfl⟩|⟨h0,rfl⟩
 . subst h0;go_enter func155,ntmps155
   go_wp2_with fail
   refine(C _ _ (h.TW hA)).mono ?_;rintro e w1 ⟨rfl,hb1⟩;go_wp2;go_ret;exact⟨rfl,hA.tr hb1⟩
 . have hp : 0 < k := by omega
   have a7:decide (0<k)=true:=decide_eq_true hp;clear h0;go_enter func155,ntmps155
   go_wp2_with fail
   refine(C _ _ (h.TW hA)).mono ?_;rintro e w1 ⟨rfl,hb1⟩;go_wp2;go_ret;exact⟨by first|rfl|(rw[a7])|simp[hp],hA.tr hb1⟩
end Go.Proofs.YtjijonhkofhikaaGreatDoor
