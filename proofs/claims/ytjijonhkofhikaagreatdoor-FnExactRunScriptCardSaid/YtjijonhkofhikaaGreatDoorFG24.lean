import Derived.Test.YtjijonhkofhikaaGreatDoorFG19
import Derived.Test.YtjijonhkofhikaaGreatDoorFListS
open _root_.List renaming length_append->Tm,getElem_mem->Tn
open _root_.Nat renaming zero_le->Tp,le_refl->Tq
open _root_.Go.Proofs.Tryz (prog func203 ntmps203 func155 ntmps155)
set_option linter.unusedVariables false
set_option linter.unusedSimpArgs false
set_option maxHeartbeats 4000000
set_option maxRecDepth 100000
namespace Go.Proofs.YtjijonhkofhikaaGreatDoor
open Go.ChangeShapes Go.WideShapes Go.ChangeAt Go.RowKit
theorem EB (v u:Value) (rows:List Int) (m:List Dm) (w:World) (h:Rd 1 aZ w v rows) (h':Rd 3 aQ w u m):Calls prog 180 #[.agg #[v],u] w (Ret (.int .i64 (oZ (aH rows) m)) w):=by
 have B0:=(Below.refl w.heap.size w).al (.cells #[v] 26);obtain⟨T,hT⟩:=Ti (aH rows);have cL:∀(W:World),Rd 1 aZ W v rows->Calls prog 181 #[.agg #[v]] W (Em T W):=fun W hW=>by rw[hT];exact uW v rows W hW
 rw[<-hT];have a8:=Tk cL;clear hT cL;go_enter Tryz.func180,Tryz.ntmps180
 go_wp2_with fail
 refine(a8.out _ (h.Tj B0)).mono ?_;rintro e w1 ⟨A,c,rfl,oT,hb1⟩;have B1:=B0.tr hb1
 have bA:T.length<=9223372036854775807:=by
  obtain⟨_,_,e,h1,h2⟩:=oT.form;unfold maxLen at h2;omega
 clear hb1 B0;go_wp2;go_loopw [6] (fun s6 wr=>∃(k:Nat),k<=T.length/\s6= .int .i64 k/\Hid (∀j (hj:j<k) (h:j<T.length),T[j]≠m)/\Below w1.heap.size w1 wr) (fun i _=>T.length-(intOf i).toNat)
 case atStart=>exact⟨0,Tp _,rfl,Tk (fun j hj=>by omega),Below.refl _ _⟩
 case round=>
  obtain⟨k,hk,rfl,Hg,a6⟩:=hrel;by_cases hlt:k<T.length
  . obtain⟨g,D,d,rfl,hg1,hg2,c1,a7⟩:=(oT.below a6).pick hlt;have bB:(k:Int)<(T.length:Int):=(by omega);obtain⟨t,ht⟩:=Ti (T[k]);rw[<-ht]at c1 a7;have HT:=Tk ht;clear ht;have B2:=B1.tr a6;go_wp2_with fail
    refine(qK _ _ t m _ (a7.rd aC (by decide)) (h'.Tj B2)).mono ?_;rintro e w2 ⟨rfl,hb2⟩;by_cases he:t=m
    . rw[decide_eq_true he];have HI:Hid (oZ T m=(k:Int)):=Tk (index_hit hlt (fun j hj=>Hg.out j hj (by omega)) (by rw[<-HT.out];exact he));clear he;go_wp2;go_ret;exact⟨by rw[HI.out];rfl,B2.tr hb2⟩
    . rw[decide_eq_false he]
      have HN : Hid (∀ j (hj : j < k + 1) (h : j < T.length), T[j] ≠ m) := Tk (fun j hj h q => by
       rcases(by omega:j<k∨j=k)with h1|h1
       . exact Hg.out j h1 h q
       . subst h1;rw[<-HT.out]at q;exact he q)
      clear he;go_wp2;go_roundw
      case rel=>exact⟨k+1,by omega,by go_num,HN,a6.tr hb2⟩
      case measure=>simp[intOf];omega
  . obtain rfl : k = T.length := by omega
    have HI:Hid (oZ T m= -1):=Tk (En (fun j hj=>Hg.out j hj hj));go_wp2;go_ret;exact⟨by rw[HI.out];rfl,B1.tr a6⟩
def seen (p j:Nat):List Int:=if p<j then[(p:Int)]else[]
theorem PH {p:Nat}:seen p p++[(p:Int)]=seen p (p+1):=by unfold seen;rw[if_neg (by omega),if_pos (by omega)];rfl
theorem RF {p j:Nat} (h:p≠j):seen p (j+1)=seen p j:=by
 unfold seen;by_cases q:p<j
 . rw[if_pos (by omega),if_pos q]
 . rw[if_neg (by omega),if_neg q]
theorem KA (p j:Nat):(seen p j).length<=1:=by unfold seen;split<;>simp
def lnk (l:List Int) (p j:Nat):List Int:=l++seen p j
theorem KC (l:List Int) (p:Nat):lnk l p 0=l:=by unfold lnk seen;rw[if_neg (by omega),List.append_nil]
theorem RG (l:List Int) (p:Nat):lnk l p p++[(p:Int)]=lnk l p (p+1):=by unfold lnk;rw[List.append_assoc,PH]
theorem Sn (l:List Int) {p j:Nat} (h:p≠j):lnk l p (j+1)=lnk l p j:=by unfold lnk;rw[RF h]
theorem RH (l:List Int) (p j:Nat):(lnk l p j).length<=l.length+1:=by unfold lnk;rw[Tm];have:=KA p j;omega
theorem RI (l:List Int) {p n:Nat} (h:p<n):lnk l p n=l++[(p:Int)]:=by unfold lnk seen;rw[if_pos h]
theorem Lx {B:Nat} (v:Value) (T:List (List Dm)) (w:World) (h:dY 27 99 3 aV B w v T) (hT:qC T) (cF:∀t∈T,t.length<=64):
 Calls prog 183 #[v] w (fun e w'=>∃A c,e= .returned (.slice A T.length c)/\dY 24 3 1 aW w.heap.size w' (.slice A T.length c) (mZ T T.length)/\Below w.heap.size w w'):=by
 obtain⟨A,c,rfl,hc,hm⟩:=h.form;have hsm:=hT.sm;have HF:=Tk hT;have HK:=Tk cF;have oo:=eG w (E:=24) (size:=1) (enc:=eV) w.heap.size rfl w.heap.size (Tq _);have bF:dY 24 3 1 aW w.heap.size (w.alloc (.cells #[] 24)) (.slice (some ⟨w.heap.size,0,none⟩) 0 0) (mZ T 0):=⟨[],oo,rfl,fun k u x hu=>by simp at hu⟩;clear hT cF hc hm oo;go_enter Tryz.func183,Tryz.ntmps183
 go_wp2;go_loopw [3,4] (fun s3 s4 wr=>∃(k:Nat) (D:Option Addr) (d:Nat),k<=T.length/\s4= .int .i64 k/\s3= .slice D k d/\dY 24 3 1 aW w.heap.size wr (.slice D k d) (mZ T k)/\Below w.heap.size w wr) (fun _ i _=>T.length-(intOf i).toNat)
 case atStart=>exact⟨0,_,_,Tp _,rfl,rfl,bF,(Below.refl _ _).al _⟩
 case round=>
  clear bF;obtain⟨k,D,d,hk,rfl,rfl,bF,a6⟩:=hrel;by_cases hlt:k<T.length
  . obtain⟨g,D1,d1,rfl,hg1,hg2,c1,tk⟩:=(h.below a6).pick hlt;have eA:(k:Int)<(T.length:Int):=(by omega);obtain⟨l,hl⟩:=Ti (T[k]);have eC:l.length<=64:=by rw[hl];exact HK.out _ (Tn hlt)
    have bL:til T k=l:=(by rw[jF hlt,hl]);rw[<-hl]at c1 tk;have a8:=Tk bL;have cA:=Tk hlt;have cQ:Small l.length:=by unfold Small;omega
    clear hl bL;go_wp2_with fail
    refine(Ev _ l _ (tk.rd aC (by decide))).mono ?_;rintro e w1 ⟨A6,c6,rfl,oF,hb1⟩;have cR:=xM l;obtain⟨F,hF⟩:=Ti (gG l);rw[<-hF]at oF cR⊢;have bM:=Tk hF;have B1:=a6.tr hb1;have cS:=tk.below hb1;have bN:=bF.below hb1;have cK:w1.cell? ⟨g,k,none⟩=some (.slice D1 l.length d1):=(hb1.cell (p:=⟨g,k,none⟩) hg2).trans c1;have bO:g<w1.heap.size:=Nat.lt_of_lt_of_le hg2 hb1.size;have oi:=eG w1 (E:=3) (size:=1) (enc:=aW) w1.heap.size rfl w1.heap.size (Tq _);clear hF bF a6 hb1 tk c1;go_wp2;go_loopw [6,7] (fun s6 s7 wr=>∃(t:Nat) (D:Option Addr) (d:Nat),t<=F.length/\s7= .int .i64 t/\s6= .slice D t d/\aD 3 1 aW w1.heap.size wr (.slice D t d) (iN T k t)/\Below w1.heap.size w1 wr) (fun _ i _=>F.length-(intOf i).toNat)
    case atStart=>exact⟨0,_,_,Tp _,rfl,rfl,oi,(Below.refl _ _).al _⟩
    case round=>
     clear oi;obtain⟨t,D2,d2,ht,rfl,rfl,hown,a6⟩:=hrel;by_cases bA:t<F.length
     . have cG:=oF.below a6;obtain⟨b,off,rfl,hb,q0,q1⟩:=(cG.rd eB (by decide)).iR bA;have cT:=(a6.cell (p:=⟨g,k,none⟩) bO).trans cK;obtain⟨xy,b7⟩:=Ti (F[t]);have bP:xy∈gG l:=by rw[b7,<-bM.out];exact Tn bA
       rw[<-b7]at q0 q1;obtain⟨x,y⟩:=xy;simp only at q0 q1;have cB:¬kindOf l (x,y)=0:=mI.1 bP;have cC:=(HF.out.cl _ (Tn cA.out) (x,y) (by rw[<-jF cA.out,a8.out];exact cB)).1;rw[<-jF cA.out,a8.out]at cC;obtain⟨hat,bR⟩:=oV cC;obtain⟨p,hp⟩:=Ti (ix T (aU l (x,y)))
       have cH:iN T k t++[(p:Int)]=iN T k (t+1):=by
        have bS:t<(gG (til T k)).length:=by rw[a8.out,<-bM.out];exact bA
        rw[<-JA bS];congr 2
        have e:(gG (til T k))[t]=(x,y):=by
         have:∀(G:List Cl),G=F->∀h:t<G.length,G[t]=(x,y):=fun G e h=>by subst e;exact b7.symm
         exact this _ (by rw[a8.out,<-bM.out]) bS
        unfold vX;rw[e,a8.out,hp]
       have bU:(iN T k t).length=t:=Lm (by rw[a8.out,<-bM.out];omega)
       have cI : ∀ j (h : j < T.length), T[j] = aU l (x, y) ↔ j = p := fun j h => by
        constructor
        . intro e;rw[hp,<-e];exact(RY HF.out.nd h).symm
        . intro e;subst e;have:=bR;simp only[<-hp]at this;exact this
       rw[<-hp]at hat;have cJ:=Tk cH;have bJ:=Tk bU;have cU:=Tk cB;have cL:=Tk cI;clear cH bU cB bP b7 cC cG bR hp cI;have eE:(t:Int)<(F.length:Int):=(by omega);obtain⟨W,hW⟩:=Ti wr;rw[<-hW]at a6 hown q0 q1 cT hb⊢;clear hW;have eI:g<W.heap.size:=Nat.lt_of_lt_of_le bO a6.size;have Bw:Below W.heap.size W W.drew:=(Below.refl _ _).drew;have hz:W.heap.size<=W.drew.heap.size:=(by simp);go_wp2_with fail
       refine rB (fun w'=>w'.cell? ⟨g,k,none⟩=some (.slice D1 l.length d1)/\w'.cell? ⟨b,off+t*2,none⟩=some (.int .i64 x)/\w'.cell? ⟨b,off+t*2+1,none⟩=some (.int .i64 y)) fun hHeld=>(tW 0)<|(tW 1)<|(tW 2)<|(tW 3)<|(tW 4)<|(tW 5)<|(tW 6)<|(tW 7)<|(tR [8])<|tL fun K hK=>?_
       go_simp
       (go_at_call 169;go_must (refine(rX _ l x y _ ((cS.below (a6.tr Bw)).rd aC (by decide)) cQ cU.out).mono ?_;rintro e wX ⟨A7,c7,rfl,oN,cM⟩;obtain⟨eJ,eK,cV⟩:=bkn cM W.heap.size hz;have hz:=cV;have Bw:=Bw.tr cM);(try go_wp2_with fail))
       refine tK hK fun hHeld=>?_
       clear hK K;refine(tW 9)<|(tW 10)<|(tW 11)<|(tW 12)<|(tW 13)<|tD ?_
       all_goals
         have B2:=a6.tr Bw;have bB:=hown.below Bw;have eL:=Tq wX.heap.size
       obtain⟨V,hV⟩:=Ti wX;rw[<-hV]at B2 bB oN Bw⊢;clear hV;obtain⟨N,hN⟩:=Ti (aU l (x,y));rw[<-hN]at oN cL⊢;clear hN;go_wp2;go_loopw [6,10] (fun s6 cW wr=>∃(j:Nat) (D:Option Addr) (d:Nat),j<=T.length/\cW= .int .i64 j/\s6= .slice D (lnk (iN T k t) p j).length d/\aD 3 1 aW w1.heap.size wr (.slice D (lnk (iN T k t) p j).length d) (lnk (iN T k t) p j)/\Below w1.heap.size w1 wr/\aD 99 3 aV w1.heap.size wr (.slice A7 N.length c7) N) (fun _ i _=>T.length-(intOf i).toNat)
       case atStart => exact ⟨0, _, _, Tp _, rfl, by rw [KC, bJ.out], by
        rw[KC,bJ.out];exact bB,B2,oN.mono (by first|exact a6.size|simpa using a6.size)⟩
       case round=>
        clear bB B2 oN;obtain⟨j,D3,d3,hj,rfl,rfl,hown,a7,oN⟩:=hrel;by_cases cN:j<T.length
        . obtain⟨g2,Dj,dj,bX,_,_,cj,tj⟩:=(h.below (B1.tr a7)).pick cN;injection bX with bX;injection bX with bX _;subst bX;have eM:(j:Int)<(T.length:Int):=(by omega);have bC:=cL.out j cN;obtain⟨u,hu⟩:=Ti (T[j]);rw[<-hu]at cj tj bC;have bY:=Tk bC;have b5:=KA p j;clear hu bC;go_wp2_with fail
          refine(qK _ _ u N _ (tj.rd aC (by decide)) (oN.rd aC (by decide))).mono ?_;rintro e w5 ⟨rfl,cD⟩;have bD:=hown.below cD;have B5:=a7.tr cD;have b6:=oN.below cD;by_cases bK:j=p
          . rw[decide_eq_true (bY.out.2 bK)];have HS:Hid ((lnk (iN T k t) p j)++[(j:Int)]=lnk (iN T k t) p (j+1)):=Tk (by rw[bK];exact RG _ _);have cP:Hid ((lnk (iN T k t) p j).length<=100):=Tk (by have:=RH (iN T k t) p j;rw[bJ.out]at this;omega);have H8:Hid (((lnk (iN T k t) p j).length+1)*8<=140737488355328):=Tk (by have:=cP.out;omega);have HM:Hid ((lnk (iN T k t) p j).length+1<=maxLen):=Tk (by have:=cP.out;unfold maxLen;omega);have b8:Hid ((lnk (iN T k t) p (j+1)).length=(lnk (iN T k t) p j).length+1):=Tk (by rw[<-HS.out,Tm];rfl);clear bK b5;go_wp2_with (at_builtin;go_must (refine aF (enc:=aW) fP aM jS B5 bD (j:Int) H8.out HM.out rfl _ _ rfl rfl rfl ?_);intro v6 w6 bE cX cY eN;rw[HS.out]at bE;obtain⟨A8,c8,rfl,eP,eR⟩:=bE.form)
            have dL:=aD.mG (b6.alloc (.cells (aW (j:Int)).toArray 3)) (bD.alloc (.cells (aW (j:Int)).toArray 3)) (by decide) cY;go_roundw
            case rel=>exact⟨j+1,A8,c8,by omega,by go_num,by first|rfl|rw[b8.out],bE,cX,dL⟩
            case measure=>simp[intOf];omega
          . rw [decide_eq_false (fun e => bK (bY.out.1 e))];have HS:Hid (lnk (iN T k t) p (j+1)=lnk (iN T k t) p j):=Tk (Sn _ (fun e=>bK e.symm));clear bK b5;go_wp2;go_roundw
            case rel=>exact⟨j+1,D3,d3,by omega,by go_num,by rw[HS.out],by rw[HS.out];exact bD,B5,b6⟩
            case measure=>simp[intOf];omega
        . obtain rfl : j = T.length := by omega
          have HS : Hid (lnk (iN T k t) p T.length = iN T k (t + 1)) := Tk (by
           rw[RI _ hat];exact cJ.out)
          have b8:Hid ((iN T k (t+1)).length=t+1):=Tk (by rw[<-cJ.out,Tm,bJ.out];rfl);rw[HS.out,b8.out]at hown;rw[HS.out,b8.out];go_wp2;go_roundw
          case rel=>exact⟨t+1,D3,d3,by omega,by go_num,rfl,hown,a7⟩
          case measure=>simp[intOf];omega
     . obtain rfl : t = F.length := by omega
       have bU:iN T k F.length=sZ T k:=(by rw[<-Lp,a8.out,<-bM.out]);rw[bU]at hown;obtain⟨us,h1,h2,h3⟩:=bN.below a6;have b9:us.length=k:=by rw[h2];exact pF T k
       have B2:=B1.tr a6;have H8:Hid ((us.length+1)*24<=140737488355328):=Tk (by rw[b9];omega);have HM:Hid (us.length+1<=maxLen):=Tk (by rw[b9];unfold maxLen;omega);have hrow:∀j,(Value.slice D k d).ownBlock=some j->w.heap.size<=j:=fun j hj=>(World.ownsRow.lt h1 j hj).1
       have dT:=Tk b9;have bJ:=Tk (JC T k);have cE:=Tk hrow;have hown':=hown.mono B1.size;clear b9 bU hrow bN B1;go_wp2_with (at_builtin;go_must (refine pR (enc:=eV) MP Cb wr B2.size h1 (.slice D2 F.length d2) (by simp[eV,Value.oneCell']) rfl H8.out HM.out rfl _ _ rfl rfl rfl ?_);intro A5 c5 w5 o5 g5 eW)
       have b6:=dY.snoc (by decide) h1 h2 h3 hown' o5 g5;rw[bJ.out,dT.out]at b6;have B5:=B2.grown g5 B2.size (fun j hj=>cE.out j hj);go_roundw
       case rel=>exact⟨k+1,A5,c5,by omega,by go_num,by rw[pF],b6,B5⟩
       case measure=>simp[intOf];omega
  . obtain rfl : k = T.length := by omega
    go_wp2;go_ret;exact⟨_,_,rfl,bF,a6⟩
theorem Fs (s:Nat) (w:World) (hs:s<U64):Calls prog 157 #[.int .u64 s] w (Ret (.int .i64 (gH s)) w):=by
 obtain⟨R,hR⟩:=Ti (gH s);have C:Calls prog 209 #[.int .u64 s,.int .i64 0,.func (.func 210) #[] #[],.func (.func 211) #[] #[]] w (Ret (.int .i64 R) w):=by rw[hR];exact NZ s w hs
 rw[<-hR];clear hR;go_enter Tryz.func157,Tryz.ntmps157
 go_wp2_with fail
 refine C.mono ?_;rintro e w1 ⟨rfl,hb1⟩;go_wp2;go_ret;exact⟨rfl,hb1⟩
theorem Cj (v:Value) (rows:List Int) (w:World) (h:Rd 1 aZ w v rows):Calls prog 203 #[.agg #[v]] w (Ret (.int .i64 (bG rows)) w):=by
 obtain⟨A,c,rfl,hc,hm⟩:=h.form;have hA:=(Below.refl w.heap.size w).al (.cells #[.slice A rows.length c] 26);have bX:=Blk.aX w 26 #[.slice A rows.length c];rcases hk:bW rows with _|_
 . have e : bG rows = 0 := by unfold bG; rw [hk]; rfl
   rw[e];have Hk:=Tk hk;clear hk e;go_enter func203,ntmps203
   go_wp2_with fail
   refine(nV _ rows _ (h.Tj hA)).mono ?_;rintro e w1 ⟨rfl,hb1⟩;rw[Hk.out];go_wp2;go_ret;exact⟨rfl,hA.tr hb1⟩
 . have e : bG rows = gH (setOf rows) := by unfold bG; rw [if_pos hk]
   rw[e];have a6:Hid (dX rows):=Tk (aR.1 hk);have Hk:=Tk hk;clear hk e;go_enter func203,ntmps203
   go_wp2_with fail
   refine(nV _ rows _ (h.Tj hA)).mono ?_;rintro e w1 ⟨rfl,hb1⟩;rw[Hk.out];have z1:=(bX.bl hb1).c1;go_wp2_with fail
   refine(pV _ rows _ ((h.Tj hA).Tj hb1) a6).mono ?_;rintro e w2 ⟨rfl,hb2⟩;go_wp2_with fail
   refine(Fs _ _ (dW a6.out)).mono ?_;rintro e w3 ⟨rfl,hb3⟩;go_wp2;go_ret;exact⟨rfl,((hA.tr hb1).tr hb2).tr hb3⟩
theorem Ck (v:Value) (rows:List Int) (b:Bool) (w:World) (h:Rd 1 aZ w v rows) (hb:(bG rows=0/\b=false)∨(bG rows≠0/\b=true)):Calls prog 155 #[.agg #[v]] w (Ret (.bool b) w):=by
 obtain⟨A,c,rfl,hc,hm⟩:=h.form;have hA:=(Below.refl w.heap.size w).al (.cells #[.slice A rows.length c] 26);have a6:=Lg rows;obtain⟨k,hk⟩:=Ti (bG rows);have C:∀(u:Value) (w:World),Rd 1 aZ w u rows->Calls prog 203 #[.agg #[u]] w (Ret (.int .i64 k) w):=fun u w k1=>by rw[hk];exact Cj u rows w k1
 rw[<-hk]at a6 hb;clear hk;rcases hb with⟨h0,rfl⟩|⟨h0,rfl⟩
 . subst h0;go_enter func155,ntmps155
   go_wp2_with fail
   refine(C _ _ (h.Tj hA)).mono ?_;rintro e w1 ⟨rfl,hb1⟩;go_wp2;go_ret;exact⟨rfl,hA.tr hb1⟩
 . have hp : 0 < k := by omega
   have a7:decide (0<k)=true:=decide_eq_true hp;clear h0;go_enter func155,ntmps155
   go_wp2_with fail
   refine(C _ _ (h.Tj hA)).mono ?_;rintro e w1 ⟨rfl,hb1⟩;go_wp2;go_ret;exact⟨by first|rfl|(rw[a7])|simp[hp],hA.tr hb1⟩
end Go.Proofs.YtjijonhkofhikaaGreatDoor
