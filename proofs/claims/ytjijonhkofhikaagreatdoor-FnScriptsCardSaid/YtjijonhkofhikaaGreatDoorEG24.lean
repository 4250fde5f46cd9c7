import Derived.Test.YtjijonhkofhikaaGreatDoorEListI
open _root_.List renaming getElem_mem->TZ
open _root_.Nat renaming zero_le->T9
open _root_.Bool renaming and_eq_true->Ua
open _root_.Go.Proofs.Tryz (prog)
open _root_.Go.Proofs.Tryz renaming results96->Ub,results130->Uc
set_option linter.unusedVariables false
set_option linter.unusedSimpArgs false
set_option maxHeartbeats 4000000
set_option maxRecDepth 100000
namespace Go.Proofs.YtjijonhkofhikaaGreatDoor
open Go.ChangeShapes Go.WideShapes Go.ChangeAt Go.RowKit
theorem ER {α : Type} {p : α -> Bool} : ∀ {l : List α} {t : Nat} (h : t < l.length), (∀ j (hj : j < t), p (l[j]'(by omega)) = false) -> p l[t] = true -> l.find? p = some l[t]
  |[],t,h,_,_=>by simp at h
  | a :: l, 0, h, _, e => by
   have e':p a=true:=e;rw[List.find?_cons_of_pos e'];rfl
  | a :: l, t + 1, h, hn, e => by
   have e1:p a=false:=hn 0 (Nat.succ_pos _);rw[List.find?_cons_of_neg (by rw[e1];decide)];exact ER (by simpa using h) (fun j hj=>hn (j+1) (by omega)) e
theorem oZ {T:List (List Dm)} {m:List Dm} (h:m∈T):oJ T m=((ix T m:Nat):Int):=if_pos h
theorem uF {T:List (List Dm)} {m:List Dm} (h:¬m∈T):oJ T m= -1:=if_neg h
theorem De {rows:List Int} {a b:List Dm} (h:¬(a∈aH rows/\b∈aH rows/\0<=tO (aH rows) (ix (aH rows) b) (ix (aH rows) a))):GV rows a b=false/\EC rows a b=[]:=by
 have e:GV rows a b=false:=by
  rw[Bool.eq_false_iff];intro q;unfold GV at q;simp only[Ua,decide_eq_true_eq]at q;exact h ⟨q.1.1,q.1.2,q.2⟩
 exact⟨e,by unfold EC;rw[e];rfl⟩
theorem Nj {rows:List Int} {a b:List Dm} (h1:a∈aH rows) (h2:b∈aH rows) (h3:0<=tO (aH rows) (ix (aH rows) b) (ix (aH rows) a)):GV rows a b=true/\EC rows a b=vG (aH rows) (tO (aH rows) (ix (aH rows) b)) (tO (aH rows) (ix (aH rows) b) (ix (aH rows) a)).toNat (ix (aH rows) a):=by
 have e:GV rows a b=true:=by
  unfold GV;simp only[Ua,decide_eq_true_eq];exact⟨⟨h1,h2⟩,h3⟩
 exact⟨e,by unfold EC;rw[if_pos e]⟩
theorem Cv {T:List (List Dm)} {f:Nat->Int} {i t:Nat} (h:t<(fC (til T i)).length) (hn:∀j (hj:j<t) (h':j<(fC (til T i)).length),¬f (vE T i (fC (til T i))[j])=f i-1) (he:f (vE T i (fC (til T i))[t])=f i-1):Jk T f i=some (fC (til T i))[t]:=by
 unfold Jk;exact ER h (fun j hj=>by rw[decide_eq_false_iff_not];exact hn j hj (by omega)) (decide_eq_true he)
theorem PS (v va vb:Value) (rows:List Int) (a b:List Dm) (w:World) (h:Rd 1 bG w v rows) (ha:Rd 3 aU w va a) (hb:Rd 3 aU w vb b) (ht:Tab w):Calls prog 96 #[.agg #[v],va,vb] w (gJ 83 2 dH (EC rows a b) (GV rows a b) w):=by
 have B0:=(Below.refl w.heap.size w).al (.cells #[v] 26);obtain⟨Aa,ca,rfl,_,_⟩:=ha.form;obtain⟨Ab,cb,rfl,_,_⟩:=hb.form;have bW:=Fz rows;obtain⟨T,hT⟩:=TV (aH rows);have cX:∀t∈T,(∀d∈t,aI d=true)/\t.length<=64:=fun t ht=>by rw[hT]at ht;exact⟨RS ht,kG ht⟩
 have cL:∀(W:World),Rd 1 bG W v rows->Calls prog 146 #[.agg #[v]] W (EA T W):=fun W hW=>by rw[hT];exact G8 v rows W hW
 rw[<-hT]at bW;have e8:=TY ht;have HT:=TY hT;have bX:=TY bW;have cC:=TY cX;have e9:=TY cL;have hsm:=bW.sm;clear ht hT bW cX cL;go_enter Tryz.func96,Tryz.ntmps96
 go_wp2_with fail
 refine(e9.out _ (h.TW B0)).mono ?_;rintro e w1 ⟨A,c,rfl,oT,hb1⟩;have B1:=B0.tr hb1;have oT:=oT.mono B0.size;go_wp2_with fail
 refine(vH _ _ T a _ oT (ha.TW B1)).mono ?_;rintro e w2 ⟨rfl,hb2⟩;have B2:=B1.tr hb2;have oT:=oT.below hb2;go_wp2_with fail
 refine(vH _ _ T b _ oT (hb.TW B2)).mono ?_;rintro e w3 ⟨rfl,hb3⟩;have B3:=B2.tr hb3;have oT:=oT.below hb3;by_cases bC:a∈T
 . rw[oZ bC];obtain⟨bY,bJ⟩:=oH bC;obtain⟨i,hi⟩:=TV (ix T a);rw[<-hi]at bY⊢;have cD:til T i=a:=by rw[iV bY];have:=bJ;simp only[<-hi]at this;exact this
   by_cases bF:b∈T
   . rw[oZ bF];obtain⟨hkb,cE⟩:=oH bF;obtain⟨k,hk⟩:=TV (ix T b);rw[<-hk]at hkb⊢;have fD:=TY bC;have fL:=TY bF;have Hi:=TY hi;have Hk:=TY hk;have cY:=TY cD;have fN:Small a.length:=by have:=(cC.out a bC).2;unfold Small;omega
     clear bC bF hi hk cD bJ cE;go_wp2_with fail
     refine(Od _ T _ oT bX.out cC.out (e8.out.below B3)).mono ?_;rintro e w4 ⟨A4,c4,rfl,oN,hb4⟩;have B4:=B3.tr hb4;have fO:=oT.below hb4;go_wp2_with fail
     refine(PG _ T (qO T T.length) k _ oN (Py T) bX.out hkb).mono ?_;rintro e w5 ⟨⟨A5,c5,rfl,oD,dL⟩,hD⟩;have B5:=B4.tr dL;have fR:=fO.below dL;obtain⟨f,hf⟩:=TV (tO T k);rw[<-hf]at oD hD;rw[jR]at oD⊢;have fS:0<T.length:=(by omega);obtain⟨gD,rfl,gT,fW⟩:=oD.split (k:=0) (by rw[jR];exact fS);have cI:=kQ oD bY;have gW:(i:Int)<(T.length:Int):=(by omega);obtain⟨vi,cF⟩:=TV (f i);rw[<-cF]at cI;have Hf:=TY hf;have HD:=TY hD;have bK:=TY cF;clear hf hD cF;by_cases cG:vi<0
     . have HN := TY (De (rows := rows) (a := a) (b := b) (fun q => by
        have:=q.2.2;rw[<-HT.out,<-Hi.out,<-Hk.out,<-Hf.out,<-bK.out]at this;omega))
       go_wp2;refine bodyPost_ret (v:= .tuple #[.slice none 0 0,.bool false]) (by simp[results,Ub,go_sem]) rfl ⟨none,0,by rw[HN.out.1,HN.out.2];rfl,by rw[HN.out.2];exact aD.DF,B5⟩
     . have bL := Nj (rows := rows) (a := a) (b := b) (by rw [<- HT.out]; exact fD.out) (by rw [<- HT.out]; exact fL.out) (by rw [<- HT.out, <- Hi.out, <- Hk.out, <- Hf.out, <- bK.out]; omega);rw[<-HT.out,<-Hi.out,<-Hk.out,<-Hf.out,<-bK.out]at bL;obtain⟨W,hW⟩:=TV (EC rows a b);rw[<-hW]at bL⊢;have dT:=HD.out.top i;rw[<-bK.out]at dT;obtain⟨m,rfl⟩:∃m:Nat,vi=m:=⟨vi.toNat,by omega⟩;have fX:m<=300:=(by omega);have cH:=bL.2;rw[Int.toNat_natCast]at cH;have HW:=TY bL.1;have fY:=TY cH;have eA:=TY hW;have eC:=fI w5 (E:=83) (size:=2) (enc:=dH) w5.heap.size rfl w5.heap.size (Nat.le_refl _);have BM:=(Below.refl w5.heap.size w5).al (.cells #[] 83);clear bL cH hW cG dT;go_wp2_with fail
       refine(dG _ a _ (ha.TW (B5.tr BM)) fN).mono ?_;rintro e w6 ⟨A6,c6,rfl,oA,cJ⟩;have B6:=BM.tr cJ;have eE:=eC.below cJ;have cK:=oA.mono BM.size;rw[<-cY.out]at cK;go_wp2;clear cI;go_loopg [9,12,13] m (fun gk s9 s12 cM wr=>∃(i:Nat) (D:Option Addr) (d:Nat) (A7:Option Addr) (c7:Nat) (out:List Cl),i<T.length/\s9= .int .i64 i/\s12= .slice D out.length d/\aD 83 2 dH w5.heap.size wr (.slice D out.length d) out/\cM= .slice A7 (til T i).length c7/\aD 99 3 aX w5.heap.size wr (.slice A7 (til T i).length c7) (til T i)/\Hid (f i=gk/\out++vG T f gk i=W)/\out.length+gk<=300/\Below w5.heap.size w5 wr)
       case atStart=>exact⟨i,_,_,_,_,[],bY,rfl,rfl,eE,by rw[cY.out],cK,TY ⟨bK.out.symm,fY.out.symm⟩,by simpa using fX,B6⟩
       case round=>
        clear eC BM B6 eE cK oA cJ;obtain⟨i,D,d,A7,c7,out,hi,rfl,rfl,hown,rfl,a8,Hg,gX,a6⟩:=hrel;by_cases hg0:gk=0
        . subst hg0;have hik:i=k:=HD.out.zero i (by have:=Hg.out.1;simpa using this);have gY:((i:Int) !=(k:Int))=false:=by rw[hik];exact bne_self_eq_false _
          have HO:Hid (out=W):=TY (by have:=Hg.out.2;rw[vG,List.append_nil]at this;exact this);clear hik;go_wp2;refine bodyPost_ret (v:= .tuple #[.slice D out.length d,.bool true]) (by simp[results,Ub,go_sem]) rfl ⟨D,d,by rw[HW.out,<-eA.out,HO.out],by rw[<-eA.out];have:=hown.mono B5.size;rw[HO.out]at this;exact this,B5.tr a6⟩
        . obtain ⟨m', rfl⟩ : ∃ m', gk = m' + 1 := ⟨gk - 1, by omega⟩;have hstep:=GU bX.out HD.out (i:=i) (m:=m') (by have:=Hg.out.1;omega)
          have hne:((i:Int) !=(k:Int))=true:=by
           rw[bne_iff_ne];intro e;have e2:i=k:=(by omega);have:=Hg.out.1;rw[e2,HD.out.st]at this;omega
          have HS:=TY hstep;have eI:f i=((m'+1:Nat):Int):=Hg.out.1;have b5:=TY eI;clear hstep hg0 eI;have bD:(til T i).length<=64:=by rw[iV hi];exact(cC.out _ (TZ hi)).2
          have eJ:Small (til T i).length:=by unfold Small;omega
          obtain⟨l,hl⟩:=TV (til T i);rw[<-hl]at a8 eJ bD⊢;have HL:=TY hl;clear hl;go_wp2_with fail
          refine(EH _ l _ (a8.rd aC (by decide))).mono ?_;rintro e w7 ⟨A8,c8,rfl,oF,b6⟩;have gA:=xN l;obtain⟨F,hF⟩:=TV (fC l);rw[<-hF]at oF gA⊢;have bN:=TY hF;have cN:=hown.below b6;have cP:=a8.below b6;have B7:=a6.tr b6;clear hF hown a8 a6 b6;go_wp2;go_loopw [9,12,13,51] (fun s9 s12 cM gB wr=>∃(t:Nat),t<=F.length/\s9= .int .i64 i/\s12= .slice D out.length d/\cM= .slice A7 l.length c7/\gB= .int .i64 t/\Hid (∀j (hj:j<t) (h':j<F.length),¬f (vE T i F[j])=f i-1)/\Below w7.heap.size w7 wr) (fun _ _ _ x _=>F.length-(intOf x).toNat)
          case atStart=>exact⟨0,T9 _,rfl,rfl,rfl,rfl,TY (fun j hj=>by omega),Below.refl _ _⟩
          case round=>
           obtain⟨t,ht,rfl,rfl,rfl,rfl,Hn,a6⟩:=hrel;by_cases hlt:t<F.length
           . have eK:=oF.below a6;obtain⟨bk,off,rfl,hE,q0,q1⟩:=(eK.rd eG (by decide)).fQ hlt;obtain⟨xy,b7⟩:=TV (F[t]);have bE:xy∈fC l:=by rw[b7,<-bN.out];exact TZ hlt
             rw[<-b7]at q0 q1;obtain⟨x,y⟩:=xy;simp only at q0 q1;have cQ:¬kindOf l (x,y)=0:=lZ.1 bE
             have cR:aW l (x,y)∈T:=by
              have:=(bX.out.cl _ (TZ hi) (x,y) (by rw[<-iV hi,<-HL.out];exact cQ)).1;rw[<-iV hi,<-HL.out]at this;exact this
             obtain⟨hat,bO⟩:=oH cR;obtain⟨at_,a7⟩:=TV (ix T (aW l (x,y)));have eL:vE T i (x,y)=at_:=by unfold vE;rw[<-HL.out,a7]
             have cD:(t:Int)<(F.length:Int):=(by omega);have B8:=a6.al (.cells #[.int .i64 x,.int .i64 y] 83);have b8:=Blk.aZ wr 83 #[.int .i64 x,.int .i64 y];have cS:=cP.below B8;have eM:=TY cR;have gC:=TY cQ;have eN:=TY b7;have gF:=TY bE;have cU:=TY eL;rw[<-a7]at hat;have bB:til T at_=aW l (x,y):=by rw[iV hat];have:=bO;simp only[<-a7]at this;exact this
             have eP:=TY bB;have eR:=TY a7;clear cR cQ b7 bE eL bO bB a7 eK;go_wp2_with fail
             refine(wH _ l x y _ (cS.rd aC (by decide)) eJ gC.out).mono ?_;rintro e w9 ⟨A9,c9,rfl,oN,eW⟩;have B9:=B8.tr eW;have b9:=b8.bl eW;have gK:=(fR.below B7).below B9;obtain⟨N,hN⟩:=TV (aW l (x,y));rw[<-hN]at oN eM eP eR⊢;clear hN;go_wp2_with fail
             refine(vH _ _ T N _ gK (oN.rd aC (by decide))).mono ?_;rintro e wA ⟨rfl,cV⟩;rw[oZ eM.out,<-eR.out];have BA:=B9.tr cV;have bA:=b9.bl cV;have e5:=(oD.below B7).below BA;have cT:=kQ e5 hat;have cI:=kQ e5 hi;have gL:(at_:Int)<(T.length:Int):=(by omega);have hP:(i:Int)<(T.length:Int):=(by omega);obtain⟨va,cW⟩:=TV (f at_);rw[<-cW]at cT;rw[b5.out]at cI;have cA:=TY cW;clear cW;have hZ: -1<=va:=by rw[cA.out];exact HD.out.low _
             have BO:=B7.tr BA;have bR:=cN.below BA;obtain⟨h9,j0⟩:=bA.n2;by_cases gM:va=(m':Int)
             . subst gM;have H8:Hid ((out.length+1)*16<=140737488355328):=TY (by omega);have HM:Hid (out.length+1<=maxLen):=TY (by unfold maxLen;omega)
               have HG : Hid (f at_ = (m' : Int) /\ (out ++ [(x, y)]) ++ vG T f m' at_ = W) := TY (by
                have bU:t<(fC (til T i)).length:=by rw[<-HL.out,<-bN.out];exact hlt
                have e6:(fC (til T i))[t]=(x,y):=by
                 have:∀(G:List Cl),G=F->∀h:t<G.length,G[t]=(x,y):=fun G e h=>by subst e;exact eN.out.symm
                 exact this _ (by rw[<-HL.out,<-bN.out]) bU
                have hs := Cv (f := f) bU (fun j hj h' => by
                 have gN:j<F.length:=(by omega);have:=Hn.out j hj gN
                 have e:(fC (til T i))[j]=F[j]:=by
                  have:∀(G:List Cl),G=F->∀h:j<G.length,G[j]=F[j]:=fun G e h=>by subst e;rfl
                  exact this _ (by rw[<-HL.out,<-bN.out]) h'
                 rw[e];exact this) (by rw[e6,cU.out,<-cA.out,b5.out];omega)
                rw[e6]at hs;refine⟨cA.out.symm,?_⟩;have h2:=Hg.out.2;rw[Kw hs,cU.out]at h2;rw[<-h2];simp)
               go_wp2_with fail
               go_quiet (fail)
               go_wp2_with (at_builtin;go_must (refine aS (enc:=dH) jE eG oneCell (below_drewN BO _) (bR.below (below_drewN (Below.refl _ _) _)) ((x,y):Cl) H8.out HM.out (by simp) rfl _ _ rfl rfl rfl ?_);intro vB wB ownB gO gP j1;obtain⟨AB,cB,rfl,hcB,j2⟩:=ownB.form)
               go_roundg m'
               case measure=>omega
               case rel=>
                have gQ:=(oN.below cV).below (below_drewN (Below.refl _ _) nq);have gR:=aD.lX (gQ.alloc (.cells (dH (x,y)).toArray 83)) ((bR.below (below_drewN (Below.refl _ _) nq)).alloc (.cells (dH (x,y)).toArray 83)) (by decide) gP;have gS:w5.heap.size<=(wr.alloc (.cells #[.int .i64 x,.int .i64 y] 83)).heap.size:=(B7.tr B8).size;have e7:=gR.mono gS;rw[<-eP.out]at e7⊢;exact⟨at_,AB,cB,A9,c9,out++[(x,y)],hat,rfl,by simp,ownB,rfl,e7,HG,by simp;omega,gO⟩
             . go_wp2_with fail
               go_quiet (fail)
               go_wp2;go_roundw
               case rel => exact ⟨t + 1, by omega, rfl, rfl, rfl, by go_num, TY (fun j hj h' => by
                rcases(by omega:j<t∨j=t)with h1|h1
                . exact Hn.out j h1 h'
                . subst h1;rw[<-eN.out,cU.out,<-cA.out,b5.out];omega),below_drewN BA _⟩
               case measure=>simp[intOf];omega
           . obtain rfl : t = F.length := by omega
             exfalso;obtain⟨c,h1,h2,h3,_,_⟩:=HS.out;have h4:=List.mem_of_find?_eq_some h1;rw[<-HL.out,<-bN.out]at h4;obtain⟨j,hj,e⟩:=List.getElem_of_mem h4;refine Hn.out j hj hj ?_;rw[e,h3,b5.out];omega
   . rw[uF bF];have HN:=TY (De (rows:=rows) (a:=a) (b:=b) (fun q=>bF (by rw[HT.out];exact q.2.1)));go_wp2;refine bodyPost_ret (v:= .tuple #[.slice none 0 0,.bool false]) (by simp[results,Ub,go_sem]) rfl ⟨none,0,by rw[HN.out.1,HN.out.2];rfl,by rw[HN.out.2];exact aD.DF,B3⟩
 . rw[uF bC];have HN:=TY (De (rows:=rows) (a:=a) (b:=b) (fun q=>bC (by rw[HT.out];exact q.1)));go_wp2;refine bodyPost_ret (v:= .tuple #[.slice none 0 0,.bool false]) (by simp[results,Ub,go_sem]) rfl ⟨none,0,by rw[HN.out.1,HN.out.2];rfl,by rw[HN.out.2];exact aD.DF,B3⟩
theorem dU.lX {α β:Type} {E0 E E2:TypeId} {size s2:Nat} {enc:α->List Value} {e2:β->List Value} {B B2:Nat} {w w':World} {v v2:Value} {ls:List (List α)} {l2:List β} (a:dU E0 E size enc B w v ls) (b:aD E2 s2 e2 B2 w v2 l2) (a6:E0≠E2) (hne:E≠E2) (hg:w.grownBy w' v2.ownBlock):dU E0 E size enc B w' v ls:=by
 obtain⟨us,h1,h2,h3⟩:=a;exact⟨us,h1.lX b a6 hg,h2,fun k u x hu hx=>(h3 k u x hu hx).lX b hne hg⟩
theorem Ol {T:List (List Dm)} {i:Nat} (h:i<T.length):∃h':i<(mU T T.length).length,(mU T T.length)[i]=sU T i:=⟨by rw[oQ];exact h,by simp[mU]⟩
theorem PT {T:List (List Dm)} {i t:Nat} (h:t<(fC (til T i)).length):∃h':t<(sU T i).length,(sU T i)[t]=vS T i (fC (til T i))[t]:=⟨by unfold sU;rw[List.length_map];exact h,by simp[sU]⟩
theorem PU (v va vb:Value) (rows:List Int) (a b:List Dm) (w:World) (h:Rd 1 bG w v rows) (ha:Rd 3 aU w va a) (hb:Rd 3 aU w vb b):Calls prog 130 #[.agg #[v],va,vb] w (gJ 83 2 dH (EC rows a b) (GV rows a b) w):=by
 obtain⟨Aa,ca,rfl,_,_⟩:=ha.form;obtain⟨Ab,cb,rfl,_,_⟩:=hb.form;have bX:=(Blk.aZ w 26 #[v]).alloc (.cells #[] 83);have B0:=((Below.refl w.heap.size w).al (.cells #[v] 26)).al (.cells #[] 83);have eM:=fI (w.alloc (.cells #[v] 26)) (E:=83) (size:=2) (enc:=dH) (w.heap.size+1) (by simp) w.heap.size (by simp);have b9:=Fz rows;obtain⟨T,hT⟩:=TV (aH rows);have eN:∀t∈T,t.length<=64:=fun t ht=>by rw[hT]at ht;exact kG ht
 have cL:∀(W:World),Rd 1 bG W v rows->Calls prog 181 #[.agg #[v]] W (EA T W):=fun W hW=>by rw[hT];exact uU v rows W hW
 have cI:∀(u:Value) (m:List Dm) (W:World),Rd 1 bG W v rows->Rd 3 aU W u m->Calls prog 180 #[.agg #[v],u] W (Ret (.int .i64 (oJ T m)) W):=fun u m W h1 h2=>by rw[hT];exact EM v u rows m W h1 h2
 rw[<-hT]at b9;have HT:=TY hT;have cA:=TY b9;have gK:=TY eN;have gM:=TY cL;have eP:=TY cI;have hsm:=b9.sm;clear hT b9 eN cL cI;go_enter Tryz.func130,Tryz.ntmps130
 have z0:=bX.c1;go_wp2_with fail
 refine(eP.out _ a _ (h.TW B0) (ha.TW B0)).mono ?_;rintro e w1 ⟨rfl,hb1⟩;have B1:=B0.tr hb1;have cH:=bX.bl hb1;have eR:=eM.below hb1;clear z0;have z0:=cH.c1;go_wp2_with fail
 refine(eP.out _ b _ (h.TW B1) (hb.TW B1)).mono ?_;rintro e w2 ⟨rfl,hb2⟩;have B2:=B1.tr hb2;have eW:=cH.bl hb2;have cC:=eR.below hb2;clear z0 eM eR bX cH B0 B1;by_cases bE:a∈T
 . rw[oZ bE];obtain⟨cJ,cK⟩:=oH bE;obtain⟨i,hi⟩:=TV (ix T a);rw[<-hi]at cJ⊢;by_cases bF:b∈T
   . rw[oZ bF];obtain⟨hkb,cM⟩:=oH bF;obtain⟨k,hk⟩:=TV (ix T b);rw[<-hk]at hkb⊢;have gN:=TY bE;have gO:=TY bF;have Hi:=TY hi;have Hk:=TY hk;clear bE bF hi hk cK cM;have z0:=eW.c1;go_wp2_with fail
     refine(gM.out _ (h.TW B2)).mono ?_;rintro e w3 ⟨A,c,rfl,oT,hb3⟩;have B3:=B2.tr hb3;have e5:=cC.below hb3;go_wp2_with fail
     refine(LP _ T _ oT cA.out gK.out).mono ?_;rintro e w4 ⟨A4,c4,rfl,oL,hb4⟩;have B4:=B3.tr hb4;have e6:=oT.below hb4;have e7:=e5.below hb4;go_wp2_with fail
     refine(PH _ T (mU T T.length) k _ oL (Pz T) cA.out hkb).mono ?_;rintro e w5 ⟨⟨A5,c5,rfl,oD,bO⟩,hD⟩;have B5:=B4.tr bO;have e8:=e6.below bO;have e9:=oL.below bO;have cP:=e7.below bO;obtain⟨f,hf⟩:=TV (tO T k);rw[<-hf]at oD hD;rw[jR]at oD⊢;have gP:0<T.length:=(by omega);obtain⟨gD,rfl,gQ,cQ⟩:=oD.split (k:=0) (by rw[jR];exact gP);have cI:=kQ oD cJ;have k7:(i:Int)<(T.length:Int):=(by omega);obtain⟨vi,cR⟩:=TV (f i);rw[<-cR]at cI;have Hf:=TY hf;have HD:=TY hD;have bR:=TY cR;clear hf hD cR eW z0 cC e5 e7 oT e6 oL B2 B3 B4 hb3 hb4 bO;by_cases cS:vi<0
     . have HN := TY (De (rows := rows) (a := a) (b := b) (fun q => by
        have:=q.2.2;rw[<-HT.out,<-Hi.out,<-Hk.out,<-Hf.out,<-bR.out]at this;omega))
       go_wp2;refine bodyPost_ret (v:= .tuple #[.slice (some ⟨w.heap.size+1,0,none⟩) 0 0,.bool false]) (by simp[results,Uc,go_sem]) rfl ⟨some ⟨w.heap.size+1,0,none⟩,0,by rw[HN.out.1,HN.out.2];rfl,by rw[HN.out.2];exact cP,B5⟩
     . have bU := Nj (rows := rows) (a := a) (b := b) (by rw [<- HT.out]; exact gN.out) (by rw [<- HT.out]; exact gO.out) (by rw [<- HT.out, <- Hi.out, <- Hk.out, <- Hf.out, <- bR.out]; omega);rw[<-HT.out,<-Hi.out,<-Hk.out,<-Hf.out,<-bR.out]at bU;obtain⟨W,hW⟩:=TV (EC rows a b);rw[<-hW]at bU;have fD:=HD.out.top i;rw[<-bR.out]at fD;obtain⟨m,rfl⟩:∃m:Nat,vi=m:=⟨vi.toNat,by omega⟩;have gR:m<=300:=(by omega);have cU:=bU.2;rw[Int.toNat_natCast]at cU;have HW:=TY bU.1;have gS:=TY cU;have fL:=TY hW;clear bU cU hW cS fD;go_wp2;clear cI;go_loopg [8,9] m (fun gk s8 s9 wr=>∃(i:Nat) (D:Option Addr) (d:Nat) (out:List Cl),i<T.length/\s9= .int .i64 i/\s8= .slice D out.length d/\aD 83 2 dH w.heap.size wr (.slice D out.length d) out/\dU 27 99 3 aX 0 wr (.slice A T.length c) T/\dU 24 3 1 bH 0 wr (.slice A4 T.length c4) (mU T T.length)/\aD 3 1 bH 0 wr (.slice (some ⟨gD,0,none⟩) T.length c5) (vM T.length f)/\Hid (f i=gk/\out++vG T f gk i=W)/\out.length+gk<=300/\Below w.heap.size w wr)
       case atStart=>exact⟨i,_,_,[],cJ,rfl,rfl,cP,e8.mono (T9 _),e9.mono (T9 _),oD.mono (T9 _),TY ⟨bR.out.symm,gS.out.symm⟩,by simpa using gR,B5⟩
       case round=>
        clear cP e8 e9 oD B5 gQ cQ;obtain⟨i,D,d,out,hi,rfl,rfl,hown,oT,oL,oD,Hg,k8,a6⟩:=hrel;by_cases hg0:gk=0
        . subst hg0;have hik:i=k:=HD.out.zero i (by have:=Hg.out.1;simpa using this);have k9:((i:Int) !=(k:Int))=false:=by rw[hik];exact bne_self_eq_false _
          have HO:Hid (out=W):=TY (by have:=Hg.out.2;rw[vG,List.append_nil]at this;exact this);clear hik;go_wp2;refine bodyPost_ret (v:= .tuple #[.slice D out.length d,.bool true]) (by simp[results,Uc,go_sem]) rfl ⟨D,d,by rw[HW.out,<-fL.out,HO.out],by rw[<-fL.out];have:=hown;rw[HO.out]at this;exact this,a6⟩
        . obtain ⟨m', rfl⟩ : ∃ m', gk = m' + 1 := ⟨gk - 1, by omega⟩;have hstep:=GU cA.out HD.out (i:=i) (m:=m') (by have:=Hg.out.1;omega)
          have hne:((i:Int) !=(k:Int))=true:=by
           rw[bne_iff_ne];intro e;have e2:i=k:=(by omega);have:=Hg.out.1;rw[e2,HD.out.st]at this;omega
          have HS:=TY hstep;have fN:f i=((m'+1:Nat):Int):=Hg.out.1;have cD:=TY fN;clear hstep hg0 fN;have lA:(i:Int)<(T.length:Int):=(by omega);obtain⟨gT,D1,d1,gW,_,lB,cT,tk⟩:=oT.pick hi;subst gW;obtain⟨l,hl⟩:=TV (til T i);rw[<-iV hi,<-hl]at cT tk;have HL:=TY hl;clear hl;go_wp2_with fail
          refine(zL _ l _ (tk.rd aC (by decide))).mono ?_;rintro e w7 ⟨A8,c8,rfl,oF,bJ⟩;have gX:=xN l;obtain⟨F,hF⟩:=TV (fC l);rw[<-hF]at oF gX⊢;have bK:=TY hF;have cV:=hown.below bJ;have gY:=oT.below bJ;have cW:=oL.below bJ;have fO:=oD.below bJ;have B7:=a6.tr bJ;obtain⟨fR,bB⟩:=Ol hi;obtain⟨gL,DL,dL,hE,_,hP,cL,oN⟩:=cW.OI fR;subst hE;rw[bB]at cL oN;have cX:(sU T i).length=F.length:=by unfold sU;rw[List.length_map,<-HL.out,<-bK.out]
          rw[cX]at cL oN;have hZ:=TY cX;have h9:=TY fR;have cY:=TY bB;clear hF hown oT oL oD a6 bJ tk cT bB cX;go_wp2;go_loopw [8,9,15] (fun s8 s9 j0 wr=>∃(t:Nat),t<=F.length/\s9= .int .i64 i/\s8= .slice D out.length d/\j0= .int .i64 t/\Hid (∀j (hj:j<t) (h':j<F.length),¬f (vE T i F[j])=f i-1)/\Below w7.heap.size w7 wr) (fun _ _ x _=>F.length-(intOf x).toNat)
          case atStart=>exact⟨0,T9 _,rfl,rfl,rfl,TY (fun j hj=>by omega),Below.refl _ _⟩
          case round=>
           obtain⟨t,ht,rfl,rfl,rfl,Hn,a6⟩:=hrel;by_cases hlt:t<F.length
           . have fS:=oF.below a6;obtain⟨bk,off,rfl,lO,q0,q1⟩:=(fS.rd eG (by decide)).fQ hlt;obtain⟨xy,bW⟩:=TV (F[t]);have bY:xy∈fC l:=by rw[bW,<-bK.out];exact TZ hlt
             have bC:t<(fC (til T i)).length:=by rw[<-HL.out,<-bK.out];exact hlt
             have dT:(fC (til T i))[t]=xy:=by
              have:∀(G:List Cl),G=F->∀h:t<G.length,G[t]=xy:=fun G e h=>by subst e;exact bW.symm
              exact this _ (by rw[<-HL.out,<-bK.out]) bC
             rw[<-bW]at q0 q1;obtain⟨x,y⟩:=xy;simp only at q0 q1;have fW:¬kindOf l (x,y)=0:=lZ.1 bY
             have fX:aW l (x,y)∈T:=by
              have:=(cA.out.cl _ (TZ hi) (x,y) (by rw[<-iV hi,<-HL.out];exact fW)).1;rw[<-iV hi,<-HL.out]at this;exact this
             obtain⟨hat,eA⟩:=oH fX;obtain⟨at_,a8⟩:=TV (ix T (aW l (x,y)));have fY:vE T i (x,y)=at_:=by unfold vE;rw[<-HL.out,a8]
             rw[<-a8]at hat;obtain⟨hlk,b5⟩:=PT bC;have hlv:(sU T i)[t]=(at_:Int):=by rw[b5,dT];unfold vS;rw[<-HL.out,<-a8]
             have gA:=oN.below a6;obtain⟨bL,j1,j2,lR,cN⟩:=(gA.rd aJ (by decide)).sP hlk;rw[hlv]at cN;have j3:=(a6.cell (p:=⟨gL,i,none⟩) hP).trans cL;rw[j2]at j3;have gB:=fO.below a6;have cT:=kQ gB hat;have cI:=kQ gB hi;have l4:(t:Int)<(F.length:Int):=(by omega);have j4:(at_:Int)<(T.length:Int):=(by omega);obtain⟨va,cE⟩:=TV (f at_);rw[<-cE]at cT;rw[cD.out]at cI;have eC:=TY cE;have j5:=TY bW;have eE:=TY fY;have gC:=TY dT;have j6:=TY bC;have j7:=TY hlk;have j8:=TY hlv;have l5: -1<=va:=by rw[cE];exact HD.out.low _
             have BO:=B7.tr a6;have bD:=cV.below a6;clear cE bW fY dT bY fW fX eA a8 b5 hlv gA fS;by_cases j9:va=(m':Int)
             . subst j9;have H8:Hid ((out.length+1)*16<=140737488355328):=TY (by omega);have HM:Hid (out.length+1<=maxLen):=TY (by unfold maxLen;omega)
               have HG : Hid (f at_ = (m' : Int) /\ (out ++ [(x, y)]) ++ vG T f m' at_ = W) := TY (by
                have hs := Cv (f := f) j6.out (fun j hj h' => by
                 have kA:j<F.length:=(by omega);have:=Hn.out j hj kA
                 have e:(fC (til T i))[j]=F[j]:=by
                  have:∀(G:List Cl),G=F->∀h:j<G.length,G[j]=F[j]:=fun G e h=>by subst e;rfl
                  exact this _ (by rw[<-HL.out,<-bK.out]) h'
                 rw[e];exact this) (by rw[gC.out,eE.out,<-eC.out,cD.out];omega)
                rw[gC.out]at hs;refine⟨eC.out.symm,?_⟩;have h2:=Hg.out.2;rw[Kw hs,eE.out]at h2;rw[<-h2];simp)
               go_wp2_with fail
               go_quiet (fail)
               have bA : ∀ wB, ((wr.drewN nq).alloc (.cells (dH (x, y)).toArray 83)).grownBy wB (Value.slice D out.length d).ownBlock -> ∃ (cF b6 a7 : Nat), wB.cell? ⟨gL, i, none⟩ = some (.slice (some ⟨b6, a7, none⟩) F.length cF) /\ wB.cell? ⟨b6, a7 + t, none⟩ = some (.int .i64 at_) := fun wB bN => by
                have b7:=((bD.below (below_drewN (Below.refl _ _) nq)).alloc (.cells (dH (x,y)).toArray 83));have eI:=dU.lX ((cW.below (below_drewN a6 nq)).alloc (.cells (dH (x,y)).toArray 83)) b7 (by decide) (by decide) bN;obtain⟨kB,l6,cF,eJ,_,_,cG,gF⟩:=eI.OI h9.out;have hg2:gL=kB:=by injection eJ with eJ;injection eJ
                subst hg2;rw[cY.out,hZ.out]at cG gF;obtain⟨b6,a7,eK,kO,eL⟩:=(gF.rd aJ (by decide)).sP j7.out;rw[j8.out]at eL;rw[eK]at cG;exact⟨cF,b6,a7,cG,eL⟩
               have b8:=TY bA;clear bA;go_wp2_with (at_builtin;go_must (refine aS (enc:=dH) jE eG oneCell (below_drewN BO _) (bD.below (below_drewN (Below.refl _ _) _)) ((x,y):Cl) H8.out HM.out (by simp) rfl _ _ rfl rfl rfl ?_);intro vB wB ownB k0 bN l7;obtain⟨AB,cB,rfl,hcB,l8⟩:=ownB.form;obtain⟨cF,b6,a7,cG,eL⟩:=b8.out _ bN)
               have b7:=((bD.below (below_drewN (Below.refl _ _) nq)).alloc (.cells (dH (x,y)).toArray 83));have eI:=dU.lX ((cW.below (below_drewN a6 nq)).alloc (.cells (dH (x,y)).toArray 83)) b7 (by decide) (by decide) bN;have k5:=dU.lX ((gY.below (below_drewN a6 nq)).alloc (.cells (dH (x,y)).toArray 83)) b7 (by decide) (by decide) bN;have k6:=aD.lX ((fO.below (below_drewN a6 nq)).alloc (.cells (dH (x,y)).toArray 83)) b7 (by decide) bN;go_roundg m'
               case measure=>omega
               case rel=>exact⟨at_,AB,cB,out++[(x,y)],hat,rfl,by simp,ownB,k5,eI,k6,HG,by simp;omega,k0⟩
             . go_wp2_with fail
               go_quiet (fail)
               go_wp2;go_roundw
               case rel => exact ⟨t + 1, by omega, rfl, rfl, by go_num, TY (fun j hj h' => by
                rcases(by omega:j<t∨j=t)with h1|h1
                . exact Hn.out j h1 h'
                . subst h1;rw[<-j5.out,eE.out,<-eC.out,cD.out];omega),below_drewN a6 _⟩
               case measure=>simp[intOf];omega
           . obtain rfl : t = F.length := by omega
             exfalso;obtain⟨c,h1,h2,h3,_,_⟩:=HS.out;have h4:=List.mem_of_find?_eq_some h1;rw[<-HL.out,<-bK.out]at h4;obtain⟨j,hj,e⟩:=List.getElem_of_mem h4;refine Hn.out j hj hj ?_;rw[e,h3,cD.out];omega
   . rw[uF bF];have HN:=TY (De (rows:=rows) (a:=a) (b:=b) (fun q=>bF (by rw[HT.out];exact q.2.1)));go_wp2;refine bodyPost_ret (v:= .tuple #[.slice (some ⟨w.heap.size+1,0,none⟩) 0 0,.bool false]) (by simp[results,Uc,go_sem]) rfl ⟨some ⟨w.heap.size+1,0,none⟩,0,by rw[HN.out.1,HN.out.2];rfl,by rw[HN.out.2];exact cC,B2⟩
 . rw[uF bE];have HN:=TY (De (rows:=rows) (a:=a) (b:=b) (fun q=>bE (by rw[HT.out];exact q.1)));go_wp2;refine bodyPost_ret (v:= .tuple #[.slice (some ⟨w.heap.size+1,0,none⟩) 0 0,.bool false]) (by simp[results,Uc,go_sem]) rfl ⟨some ⟨w.heap.size+1,0,none⟩,0,by rw[HN.out.1,HN.out.2];rfl,by rw[HN.out.2];exact cC,B2⟩
theorem FE (u v:Value) (a b:List Dm) (w:World) (h:Rd 3 aU w u a) (h':Rd 3 aU w v b) (hl:a.length<=1000):Calls prog 152 #[u,v] w (Ret (.int .i64 (chg a b:Nat)) w):=by
 obtain⟨A,c,rfl,hc,hm⟩:=h.form;go_enter Tryz.func152,Tryz.ntmps152
 go_wp2;go_loopw [5,10] (fun s5 a8 wr=>∃(k:Nat),k<=a.length/\a8= .int .i64 k/\s5= .int .i64 (vR a b k:Nat)/\Below w.heap.size w wr) (fun _ i _=>a.length-(intOf i).toNat)
 case atStart=>exact⟨0,T9 _,rfl,rfl,Below.refl _ _⟩
 case round=>
  obtain⟨k,hk,rfl,rfl,a6⟩:=hrel;by_cases hlt:k<a.length
  . obtain⟨bb,off,rfl,hb,q0,q1,q2⟩:=(h.TW a6).jT hlt;have bA:(k:Int)<(a.length:Int):=(by omega);have hst:=ED (b:=b) hlt;have hle:=Ky a b k;obtain⟨x,hx⟩:=TV (a[k]);rw[<-hx]at q0 q1 q2 hst;obtain⟨x,y,s⟩:=x;simp only at q0 q1 q2;obtain⟨n,hn⟩:=TV (vR a b k);rw[<-hn]at hst hle⊢;obtain⟨bo,a7⟩:=TV (b.contains (x,y,s));have cH:∀W:World,Rd 3 aU W v b->Calls prog 201 #[v,.agg #[.int .i64 x,.int .i64 y,.bool s]] W (Ret (.bool bo) W):=fun W hW=>by rw[a7];exact iB v b x y s W hW
    rw[<-a7]at hst;have HC:=TY cH;have HST:=TY hst;clear hx hn a7 cH hst;have B1:=a6.al (.cells #[.int .i64 x,.int .i64 y,.bool s] 99);go_wp2_with fail
    refine(HC.out _ (h'.TW B1)).mono ?_;rintro e w2 ⟨rfl,hb2⟩;have B2:=B1.tr hb2;have bB:(n:Int)<=1000:=(by omega);cases bo
    . go_wp2;go_roundw
      case rel=>exact⟨k+1,by omega,by go_num,by rw[HST.out];go_num,B2⟩
      case measure=>simp[intOf];omega
    . go_wp2;go_roundw
      case rel=>exact⟨k+1,by omega,by go_num,by rw[HST.out];rfl,B2⟩
      case measure=>simp[intOf];omega
  . obtain rfl : k = a.length := by omega
    rw[GX];go_wp2;go_ret;exact⟨rfl,a6⟩
theorem KS (u v:Value) (a b:List Dm) (w:World) (h:Rd 3 aU w u a) (h':Rd 3 aU w v b) (hl:a.length<=1000):Calls prog 131 #[u,v] w (Ret (.int .i64 (chg a b:Nat)) w):=by
 obtain⟨A,c,rfl,hc,hm⟩:=h.form;go_enter Tryz.func131,Tryz.ntmps131
 go_wp2;go_loopw [5,6] (fun s5 s6 wr=>∃(k:Nat),k<=a.length/\s6= .int .i64 k/\s5= .int .i64 (vR a b k:Nat)/\Below w.heap.size w wr) (fun _ i _=>a.length-(intOf i).toNat)
 case atStart=>exact⟨0,T9 _,rfl,rfl,Below.refl _ _⟩
 case round=>
  obtain⟨k,hk,rfl,rfl,a6⟩:=hrel;by_cases hlt:k<a.length
  . obtain⟨bb,off,rfl,hb,q0,q1,q2⟩:=(h.TW a6).jT hlt;have bB:(k:Int)<(a.length:Int):=(by omega);have hst:=ED (b:=b) hlt;have hle:=Ky a b k;obtain⟨x,hx⟩:=TV (a[k]);rw[<-hx]at q0 q1 q2 hst;obtain⟨x,y,s⟩:=x;simp only at q0 q1 q2;obtain⟨n,hn⟩:=TV (vR a b k);rw[<-hn]at hst hle⊢;have HST:=TY hst;clear hx hn hst;have bC:(n:Int)<=1000:=(by omega);rcases a7:b.contains (x,y,s)with _|_
    . go_wp2_with fail
      refine(xZ v b x y s _ (h'.TW a6) a7).mono ?_;rintro e w2 ⟨rfl,hb2⟩;have B2:=a6.tr hb2;have a8:Hid (vR a b (k+1)=n+1):=TY (by rw[HST.out,a7];rfl);clear a7;go_wp2;go_roundw
      case rel=>exact⟨k+1,by omega,by go_num,by rw[a8.out];go_num,B2⟩
      case measure=>simp[intOf];omega
    . obtain⟨r,bD,bA⟩:=rH v b x y s wr (h'.TW a6) a7;have a8:Hid (vR a b (k+1)=n):=TY (by rw[HST.out,a7];rfl);clear a7;go_wp2_with fail
      refine bA.mono ?_;rintro e w2 ⟨rfl,hb2⟩;have B2:=a6.tr hb2;go_wp2;go_roundw
      case rel=>exact⟨k+1,by omega,by go_num,by rw[a8.out],B2⟩
      case measure=>simp[intOf];omega
  . obtain rfl : k = a.length := by omega
    rw[GX];go_wp2;go_ret;exact⟨rfl,a6⟩
def LQ (T:List (List Dm)) (B:Nat) (w:World) (v:Value) (o:Option (List Dm)):Prop:=(o=none/\v= .slice none 0 0)∨∃m g d,o=some m/\m∈T/\v= .slice (some ⟨g,0,none⟩) m.length d/\aD 99 3 aX B w (.slice (some ⟨g,0,none⟩) m.length d) m
theorem LQ.below {T:List (List Dm)} {B:Nat} {w w':World} {v:Value} {o:Option (List Dm)} (h:LQ T B w v o) (hb:Below w.heap.size w w'):LQ T B w' v o:=by
 rcases h with h|⟨m,g,d,h1,h2,h3,h4⟩
 . exact .inl h
 . exact .inr ⟨m,g,d,h1,h2,h3,h4.below hb⟩
theorem G9 {l t:List Dm} {d:Dm} {o:Option (List Dm)} (h:t.contains d=true):kC l d o t=o:=by unfold kC;rw[if_pos h]
theorem Cw {l t:List Dm} {d:Dm} (h:t.contains d=false):kC l d none t=some t:=by unfold kC;rw[if_neg (by rw[h];decide)]
theorem HV {l t m:List Dm} {d:Dm} (h:t.contains d=false) (hl:chg l t<chg l m):kC l d (some m) t=some t:=by unfold kC;rw[if_neg (by rw[h];decide)];simp only;rw[if_pos hl]
theorem H5 {l t m:List Dm} {d:Dm} (h:t.contains d=false) (hl:¬chg l t<chg l m):kC l d (some m) t=some m:=by unfold kC;rw[if_neg (by rw[h];decide)];simp only;rw[if_neg hl]
theorem JQ {B:Nat} (u v:Value) (T:List (List Dm)) (l:List Dm) (x y:Int) (s:Bool) (w:World) (h:dU 27 99 3 aX B w u T) (h':Rd 3 aU w v l) (hl:l.length<=1000) (hT:T.length<=300) (hne:∀t∈T,t≠[]):
 Calls prog 148 #[u,v,.agg #[.int .i64 x,.int .i64 y,.bool s]] w (fun e w'=>∃bv,e= .returned bv/\LQ T B w' bv (fV T l (x,y,s))/\Below w.heap.size w w'):=by
 obtain⟨A,c,rfl,hc,hm⟩:=h.form;obtain⟨Al,cl,rfl,_,_⟩:=h'.form;have B0:=(Below.refl w.heap.size w).al (.cells #[.int .i64 x,.int .i64 y,.bool s] 99);have bX:=Blk.aZ w 99 #[.int .i64 x,.int .i64 y,.bool s];obtain⟨W,hW⟩:=TV (w.alloc (.cells #[.int .i64 x,.int .i64 y,.bool s] 99));rw[<-hW]at B0 bX;have HW:=TY hW;have bD:=TY hne;clear hne hc hm;have hnil:=fun(w:World) (a:Option Addr) (n c:Nat)=>Lib.run_eql_slice_nil (P:=prog) w 27 99 a n c 0 0 Tryz.underlying27
 go_enter Tryz.func148,Tryz.ntmps148
 go_wp2;rw[<-hW];clear hW;go_loopw [7,12] (fun s7 s12 wr=>∃(k:Nat),k<=T.length/\s12= .int .i64 k/\LQ T B wr s7 (lS T l (x,y,s) k)/\Below W.heap.size W wr) (fun _ i _=>T.length-(intOf i).toNat)
 case atStart=>exact⟨0,T9 _,rfl,.inl ⟨rfl,rfl⟩,Below.refl _ _⟩
 case round=>
  obtain⟨k,hk,rfl,bA,a6⟩:=hrel;have B1:=B0.tr a6;have bE:=bX.bl a6;by_cases hlt:k<T.length
  . obtain⟨g,D,d,rfl,hg1,hg2,c1,tk⟩:=(h.below B1).pick hlt;have bK:(k:Int)<(T.length:Int):=(by omega);have hst:=Cm (list:=l) (d:=(x,y,s)) hlt;have bB:T[k]∈T:=TZ hlt;obtain⟨t,ht⟩:=TV (T[k]);rw[<-ht]at c1 tk hst bB;have HST:=TY hst;have bC:=TY bB
    obtain⟨_,gt,hD,_⟩:∃z g',D=some ⟨g',0,none⟩/\z=0:=by
     obtain⟨g',e,_,_⟩:=tk.split (k:=0) (List.length_pos_iff.2 (bD.out t bB));exact⟨0,g',e,rfl⟩
    subst hD;clear ht hst bB;obtain⟨bL,bN,bO⟩:=bE.n3;rcases a7:t.contains (x,y,s)with _|_
    . have cH : ∀ W : World, Rd 3 aU W (.slice (some ⟨gt, 0, none⟩) t.length d) t -> Calls prog 201 #[.slice (some ⟨gt, 0, none⟩) t.length d, .agg #[.int .i64 x, .int .i64 y, .bool s]] W (Ret (.bool false) W) := fun W hW => by rw [<- a7]; exact iB _ t x y s W hW
      have HC:=TY cH;clear cH;rcases bA with⟨hb0,rfl⟩|⟨m,gm,dm,hb0,bF,rfl,om⟩
      . have HN : Hid (lS T l (x, y, s) (k + 1) = some t) := TY (by rw [HST.out, hb0]; exact Cw a7);clear hb0 a7;go_wp2_with fail
        refine(HC.out _ (tk.rd aC (by decide))).mono ?_;rintro e w2 ⟨rfl,hb2⟩;go_wp2;go_roundw
        case rel=>exact⟨k+1,by omega,by go_num,.inr ⟨t,gt,d,HN.out,bC.out,rfl,tk.below hb2⟩,a6.tr hb2⟩
        case measure=>simp[intOf];omega
      . have bR : (chg l t : Int) <= 1000 := by have := Jl l t; omega
        go_wp2_with fail
        refine(HC.out _ (tk.rd aC (by decide))).mono ?_;rintro e w2 ⟨rfl,hb2⟩;have B2:=B1.tr hb2;go_wp2_with fail
        refine(FE _ _ l t _ (h'.TW B2) ((tk.below hb2).rd aC (by decide)) hl).mono ?_;rintro e w3 ⟨rfl,hb3⟩;have B3:=B2.tr hb3;go_wp2_with fail
        refine(FE _ _ l m _ (h'.TW B3) (((om.below hb2).below hb3).rd aC (by decide)) hl).mono ?_;rintro e w4 ⟨rfl,hb4⟩;have b4:=(a6.tr hb2).tr hb3|>.tr hb4;by_cases a8:chg l t<chg l m
        . have bJ : (chg l t : Int) < (chg l m : Int) := by omega
          have HN:Hid (lS T l (x,y,s) (k+1)=some t):=TY (by rw[HST.out,hb0];exact HV a7 a8);clear hb0 a7;go_wp2;go_roundw
          case rel=>exact⟨k+1,by omega,by go_num,.inr ⟨t,gt,d,HN.out,bC.out,rfl,((tk.below hb2).below hb3).below hb4⟩,b4⟩
          case measure=>simp[intOf];omega
        . have bJ : ¬ ((chg l t : Int) < (chg l m : Int)) := by omega
          have HN:Hid (lS T l (x,y,s) (k+1)=some m):=TY (by rw[HST.out,hb0];exact H5 a7 a8);clear hb0 a7;go_wp2;go_roundw
          case rel=>exact⟨k+1,by omega,by go_num,.inr ⟨m,gm,dm,HN.out,bF,rfl,((om.below hb2).below hb3).below hb4⟩,b4⟩
          case measure=>simp[intOf];omega
    . have cH : ∀ W : World, Rd 3 aU W (.slice (some ⟨gt, 0, none⟩) t.length d) t -> Calls prog 201 #[.slice (some ⟨gt, 0, none⟩) t.length d, .agg #[.int .i64 x, .int .i64 y, .bool s]] W (Ret (.bool true) W) := fun W hW => by rw [<- a7]; exact iB _ t x y s W hW
      have HC:=TY cH;clear cH;have HN:Hid (lS T l (x,y,s) (k+1)=lS T l (x,y,s) k):=TY (by rw[HST.out];exact G9 a7);clear a7;go_wp2_with fail
      refine(HC.out _ (tk.rd aC (by decide))).mono ?_;rintro e w2 ⟨rfl,hb2⟩;go_wp2;go_roundw
      case rel=>exact⟨k+1,by omega,by go_num,by rw[HN.out];exact bA.below hb2,a6.tr hb2⟩
      case measure=>simp[intOf];omega
  . obtain rfl : k = T.length := by omega
    rw[EE]at bA;go_wp2;go_ret;exact⟨_,rfl,bA,B1⟩
def SA (T:List (List Dm)) (o:Option (List Dm)) (q:Int):Prop:=(o=none/\q= -1)∨∃(j:Nat) (h:j<T.length),o=some T[j]/\q=(j:Int)
theorem Om {B:Nat} (u v:Value) (T:List (List Dm)) (l:List Dm) (x y:Int) (s:Bool) (w:World) (h:dU 27 99 3 aX B w u T) (h':Rd 3 aU w v l) (hl:l.length<=1000) (hT:T.length<=300):
 Calls prog 182 #[u,v,.agg #[.int .i64 x,.int .i64 y,.bool s]] w (fun e w'=>∃q,e= .returned (.int .i64 q)/\SA T (fV T l (x,y,s)) q/\Below w.heap.size w w'):=by
 obtain⟨A,c,rfl,hc,hm⟩:=h.form;obtain⟨Al,cl,rfl,_,_⟩:=h'.form;have B0:=(Below.refl w.heap.size w).al (.cells #[.int .i64 x,.int .i64 y,.bool s] 99);have bX:=Blk.aZ w 99 #[.int .i64 x,.int .i64 y,.bool s];obtain⟨W,hW⟩:=TV (w.alloc (.cells #[.int .i64 x,.int .i64 y,.bool s] 99));rw[<-hW]at B0 bX;have HW:=TY hW;clear hc hm;go_enter Tryz.func182,Tryz.ntmps182
 go_wp2;rw[<-hW];clear hW;go_loopw [7,8,9] (fun s7 s8 s9 wr=>∃(k:Nat) (q n:Int),k<=T.length/\s9= .int .i64 k/\s7= .int .i64 q/\s8= .int .i64 n/\SA T (lS T l (x,y,s) k) q/\(∀m,lS T l (x,y,s) k=some m->n=(chg l m:Nat))/\Below W.heap.size W wr) (fun _ _ i _=>T.length-(intOf i).toNat)
 case atStart=>exact⟨0,-1,0,T9 _,rfl,rfl,rfl,.inl ⟨rfl,rfl⟩,(fun m h=>by cases h),Below.refl _ _⟩
 case round=>
  obtain⟨k,q,n,hk,rfl,rfl,rfl,bC,a8,a6⟩:=hrel;have B1:=B0.tr a6;have bJ:=bX.bl a6;by_cases hlt:k<T.length
  . obtain⟨g,D,d,rfl,hg1,hg2,c1,oT⟩:=(h.below B1).pick hlt;have bR:(k:Int)<(T.length:Int):=(by omega);have hst:=Cm (list:=l) (d:=(x,y,s)) hlt;obtain⟨t,ht⟩:=TV (T[k]);rw[<-ht]at c1 oT hst;have HST:=TY hst;have HT:=TY ht;clear ht hst;have bU:(chg l t:Int)<=1000:=by have:=Jl l t;omega
    obtain⟨bW,bY,b5⟩:=bJ.n3;have b6:w.heap.size<wr.heap.size:=by have:=bJ.lt;omega
    rcases a7:t.contains (x,y,s)with _|_
    . have bD:=TY a7;clear a7;have Bw:Below wr.heap.size wr wr.drew:=(Below.refl _ _).drew;have hz:wr.heap.size<=wr.drew.heap.size:=(by simp);go_wp2_with fail
      refine rB (fun w'=>w'.cell? ⟨g,k,none⟩=some (.slice D t.length d)/\w'.cell? ⟨w.heap.size,0,none⟩=some (.int .i64 x)/\w'.cell? ⟨w.heap.size,1,none⟩=some (.int .i64 y)/\w'.cell? ⟨w.heap.size,2,none⟩=some (.bool s)) fun hHeld=>(tW 0)<|(tW 1)<|(tW 2)<|(tW 3)<|(tW 4)<|(tR [5])<|tL fun K hK=>?_
      go_simp
      (go_at_call 185;go_must (refine(xZ _ t x y s _ ((oT.below Bw).rd aC (by decide)) bD.out).mono ?_;rintro e wX ⟨rfl,bA⟩;obtain⟨bL,bN,bF⟩:=bkn bA wr.heap.size hz;have hz:=bF;have Bw:=Bw.tr bA);(try go_wp2_with fail))
      refine tK hK fun hHeld=>?_
      clear hK K;refine(tW 6)<|tD ?_
      all_goals
        have B2:=B1.tr Bw;have c2:=(Bw.cell (p:=⟨g,k,none⟩) hg2).trans c1;go_wp2_with fail
        refine(KS _ _ l t _ (h'.TW B2) ((oT.below Bw).rd aC (by decide)) hl).mono ?_;rintro e w3 ⟨rfl,hb3⟩;have Bk:=(a6.tr Bw).tr hb3;rcases bC with⟨hb0,rfl⟩|⟨j,hj,hb0,rfl⟩
        . have HN : Hid (lS T l (x, y, s) (k + 1) = some T[k]) := TY (by rw [HST.out, hb0, <- HT.out]; exact Cw bD.out);clear hb0 a8;go_wp2;go_roundw
          case rel=>exact⟨k+1,k,_,by omega,by go_num,rfl,rfl,.inr ⟨k,hlt,HN.out,rfl⟩,fun m hm=>by rw[HN.out,<-HT.out]at hm;injection hm with hm;rw[hm],Bk⟩
          case measure=>simp[intOf];omega
        . have b7 : (j : Int) <= 300 := by omega
          obtain⟨m,hm⟩:=TV (T[j]);rw[<-hm]at hb0;have hn:=a8 m hb0;have b8:n<=1000/\0<=n:=by have:=Jl l m;omega
          by_cases bB:chg l t<chg l m
          . have bO : (chg l t : Int) < n := by omega
            have HN:Hid (lS T l (x,y,s) (k+1)=some T[k]):=TY (by rw[HST.out,hb0,<-HT.out];exact HV bD.out bB);clear hb0 a8 hn hm;go_wp2;go_roundw
            case rel=>exact⟨k+1,k,_,by omega,by go_num,rfl,rfl,.inr ⟨k,hlt,HN.out,rfl⟩,fun m hm=>by rw[HN.out,<-HT.out]at hm;injection hm with hm;rw[hm],Bk⟩
            case measure=>simp[intOf];omega
          . have bO : ¬ ((chg l t : Int) < n) := by omega
            have HN:Hid (lS T l (x,y,s) (k+1)=some m):=TY (by rw[HST.out,hb0];exact H5 bD.out bB);have HM:=TY hm;have Hn:=TY hn;clear hb0 a8 hn hm;go_wp2;go_roundw
            case rel=>exact⟨k+1,j,n,by omega,by go_num,rfl,rfl,.inr ⟨j,hj,by rw[HN.out,HM.out],rfl⟩,fun m' bE=>by rw[HN.out]at bE;injection bE with bE;rw[<-bE];exact Hn.out,Bk⟩
            case measure=>simp[intOf];omega
    . have HN : Hid (lS T l (x, y, s) (k + 1) = lS T l (x, y, s) k) := TY (by rw [HST.out]; exact G9 a7);obtain⟨r,bK,-⟩:=rH _ t x y s _ (oT.rd aC (by decide)) a7;have Hr:Hid (∀W:World,Rd 3 aU W (.slice D t.length d) t->Calls prog 185 #[.slice D t.length d,.agg #[.int .i64 x,.int .i64 y,.bool s]] W (fun e w'=>∃r:Int,0<=r/\e= .returned (.int .i64 r)/\Below W.heap.size W w')):=TY (fun W hW=>by obtain⟨r,h0,hc⟩:=rH _ t x y s W hW a7;exact hc.mono (fun e w' hh=>⟨r,h0,hh⟩));clear a7 bK;have Bw:Below wr.heap.size wr wr.drew:=(Below.refl _ _).drew;have hz:wr.heap.size<=wr.drew.heap.size:=(by simp);go_wp2_with fail
      refine rB (fun w'=>w'.cell? ⟨g,k,none⟩=some (.slice D t.length d)/\w'.cell? ⟨w.heap.size,0,none⟩=some (.int .i64 x)/\w'.cell? ⟨w.heap.size,1,none⟩=some (.int .i64 y)/\w'.cell? ⟨w.heap.size,2,none⟩=some (.bool s)) fun hHeld=>(tW 0)<|(tW 1)<|(tW 2)<|(tW 3)<|(tW 4)<|(tR [5])<|tL fun K hK=>?_
      go_simp
      (go_at_call 185;go_must (refine(Hr.out _ ((oT.below Bw).rd aC (by decide))).mono ?_;rintro e wX ⟨r,bK,rfl,bA⟩;obtain⟨bL,bN,bF⟩:=bkn bA wr.heap.size hz;have hz:=bF;have Bw:=Bw.tr bA);(try go_wp2_with fail))
      refine tK hK fun hHeld=>?_
      clear hK K;refine(tW 6)<|tD ?_
      all_goals
        have Bk:=a6.tr Bw;go_wp2;go_roundw
        case rel=>exact⟨k+1,q,n,by omega,by go_num,rfl,rfl,by rw[HN.out];exact bC,by rw[HN.out];exact a8,Bk⟩
        case measure=>simp[intOf];omega
  . obtain rfl : k = T.length := by omega
    rw[EE]at bC;go_wp2;go_ret;exact⟨_,rfl,bC,B1⟩
theorem Nk {rows:List Int} {l:List Dm} {d:Dm} (h:¬l∈aH rows):Cn rows l d=[]/\Bf rows l d=false:=by
 unfold Cn Bf;rw[if_neg h,decide_eq_false h];exact⟨rfl,rfl⟩
theorem KT {rows:List Int} {l:List Dm} {d:Dm} (h:l∈aH rows) (e:fV (aH rows) l d=none):Cn rows l d=[]/\Bf rows l d=false:=by
 unfold Cn Bf;rw[if_pos h,decide_eq_true h,e];exact⟨rfl,rfl⟩
theorem FH {rows:List Int} {l m:List Dm} {d:Dm} (h:l∈aH rows) (e:fV (aH rows) l d=some m):Cn rows l d=m/\Bf rows l d=true:=by
 unfold Cn Bf;rw[if_pos h,decide_eq_true h,e];exact⟨rfl,rfl⟩
theorem I5 {rows:List Int} {l:List Dm} {d:Dm} (h:Bf rows l d=true):l∈aH rows/\Cn rows l d∈aH rows:=by
 unfold Bf at h;rw[Ua,decide_eq_true_iff,Option.isSome_iff_exists]at h;obtain⟨h1,m,h2⟩:=h;rw[(FH h1 h2).1];rcases Kz _ _ _ h2 with h3|h3
 . cases h3
 . exact⟨h1,h3⟩
theorem PV (v u:Value) (rows:List Int) (l:List Dm) (x y:Int) (s:Bool) (w:World) (h:Rd 1 bG w v rows) (h':Rd 3 aU w u l):Calls prog 129 #[.agg #[v],u,.agg #[.int .i64 x,.int .i64 y,.bool s]] w (gJ 99 3 aX (Cn rows l (x,y,s)) (Bf rows l (x,y,s)) w):=by
 obtain⟨Al,cl,rfl,_,_⟩:=h'.form;have B0:=((Below.refl w.heap.size w).al (.cells #[v] 26)).al (.cells #[.int .i64 x,.int .i64 y,.bool s] 99);have bR:=(Blk.aZ w 26 #[v]).alloc (.cells #[.int .i64 x,.int .i64 y,.bool s] 99);have bX:=Blk.gZ (w.alloc (.cells #[v] 26)) 99 #[.int .i64 x,.int .i64 y,.bool s] (w.heap.size+1) (by simp);have hsm:=Az rows;have a6:= @Nk rows l (x,y,s);have hnone:= @KT rows l (x,y,s);have hsome:=fun m=> @FH rows l m (x,y,s)
 obtain⟨T,hT⟩:=TV (aH rows);have cL:∀(W:World),Rd 1 bG W v rows->Calls prog 181 #[.agg #[v]] W (EA T W):=fun W hW=>by rw[hT];exact uU v rows W hW
 have cI:∀(u:Value) (m:List Dm) (W:World),Rd 1 bG W v rows->Rd 3 aU W u m->Calls prog 180 #[.agg #[v],u] W (Ret (.int .i64 (oJ T m)) W):=fun u m W h1 h2=>by rw[hT];exact EM v u rows m W h1 h2
 have bD:∀m:List Dm,m∈aH rows->m.length<=1000:=fun m hm=>by have:=kG hm;omega
 rw[<-hT]at hsm a6 hnone hsome bD;have bE:=TY cL;have bF:=TY cI;have bJ:=TY a6;have bK:=TY hnone;have bL:=TY hsome;clear hT cL cI a6 hnone hsome;go_enter Tryz.func129,Tryz.ntmps129
 have z0:=bR.c1;obtain⟨a8,bA,bB⟩:=bX.n3;go_wp2_with fail
 refine(bF.out _ l _ (h.TW B0) (h'.TW B0)).mono ?_;rintro e w1 ⟨rfl,hb1⟩;have B1:=B0.tr hb1;have bN:=bR.bl hb1;have bO:=bX.bl hb1;clear z0 a8 bA bB;by_cases hm:l∈T
 . have bU:=bD l hm;rw[oZ hm];obtain⟨bW,bC⟩:=oH hm;obtain⟨i,hi⟩:=TV (ix T l);rw[<-hi]at bW⊢;clear hi bC;have Hm:=TY hm;clear hm;have z0:=bN.c1;go_wp2_with fail
   refine(bE.out _ (h.TW B1)).mono ?_;rintro e w2 ⟨A,c,rfl,oT,hb2⟩;have B2:=B1.tr hb2;clear z0;have bY:=bO.bl hb2;obtain⟨a8,bA,bB⟩:=bY.n3;go_wp2_with fail
   refine(Om _ _ T l x y s _ oT (h'.TW B2) bU hsm).mono ?_;rintro e w3 ⟨q,rfl,hq,hb3⟩;have B3:=B2.tr hb3;clear a8 bA bB;rcases hq with⟨e0,rfl⟩|⟨j,hj,e0,rfl⟩
   . obtain⟨r1,r2⟩:=bK.out Hm.out e0;clear e0;go_wp2;go_ret2
     rw[r1,r2];exact⟨_,_,rfl,fI w3 (E:=99) (size:=3) (enc:=aX) w3.heap.size (by simp) w.heap.size (by have:=B3.size;simpa using this),B3.al _⟩
   . obtain⟨g,D,d,rfl,hg1,hg2,c1,a7⟩:=(oT.below hb3).pick hj;obtain⟨r1,r2⟩:=bL.out _ Hm.out e0;clear e0;obtain⟨t,ht⟩:=TV (T[j]);rw[<-ht]at c1 a7 r1;clear ht;have b5:(j:Int)<(T.length:Int):=(by omega);go_wp2;go_ret2
     rw[r1,r2];exact⟨_,_,rfl,a7.mono B1.size,B3⟩
 . rw[uF hm];obtain⟨r1,r2⟩:=bJ.out hm;clear hm;go_wp2;go_ret2
   rw[r1,r2];exact⟨_,_,rfl,fI w1 (E:=99) (size:=3) (enc:=aX) w1.heap.size (by simp) w.heap.size (by have:=B1.size;simpa using this),B1.al _⟩
theorem KU (v u:Value) (rows:List Int) (l:List Dm) (x y:Int) (s:Bool) (w:World) (h:Rd 1 bG w v rows) (h':Rd 3 aU w u l) (hne:l≠[]):Calls prog 95 #[.agg #[v],u,.agg #[.int .i64 x,.int .i64 y,.bool s]] w (gJ 99 3 aX (Cn rows l (x,y,s)) (Bf rows l (x,y,s)) w):=by
 obtain⟨Al,cl,rfl,_,_⟩:=h'.form;have B0:=((Below.refl w.heap.size w).al (.cells #[v] 26)).al (.cells #[.int .i64 x,.int .i64 y,.bool s] 99);have bR:=(Blk.aZ w 26 #[v]).alloc (.cells #[.int .i64 x,.int .i64 y,.bool s] 99);have bX:=Blk.gZ (w.alloc (.cells #[v] 26)) 99 #[.int .i64 x,.int .i64 y,.bool s] (w.heap.size+1) (by simp);have hsm:=Az rows;have a6:= @Nk rows l (x,y,s);have hnone:= @KT rows l (x,y,s);have hsome:=fun m=> @FH rows l m (x,y,s)
 have hall:l∈aH rows->∀t∈aH rows,t≠[]:=fun h1 t h2=>RQ h1 h2 hne
 obtain⟨T,hT⟩:=TV (aH rows);have cL:∀(W:World),Rd 1 bG W v rows->Calls prog 146 #[.agg #[v]] W (EA T W):=fun W hW=>by rw[hT];exact G8 v rows W hW
 have bD:∀m:List Dm,m∈aH rows->m.length<=1000:=fun m hm=>by have:=kG hm;omega
 rw[<-hT]at hsm a6 hnone hsome bD hall;have bE:=TY cL;have bF:=TY a6;have bJ:=TY hnone;have bK:=TY hsome;have a7:=TY hall;clear hT cL a6 hnone hsome hall hne;have hnil:=fun(w:World) (a:Option Addr) (n c:Nat)=>run_neq_slice_nil_any (P:=prog) w 27 99 a n c 0 0 Tryz.underlying27
 go_enter Tryz.func95,Tryz.ntmps95
 have z0:=bR.c1;obtain⟨a8,bA,bB⟩:=bX.n3;go_wp2_with fail
 refine(bE.out _ (h.TW B0)).mono ?_;rintro e w1 ⟨A,c,rfl,oT,hb1⟩;have B1:=B0.tr hb1;have bL:=bX.bl hb1;clear z0 a8 bA bB;go_wp2_with fail
 refine(vH _ _ T l _ oT (h'.TW B1)).mono ?_;rintro e w2 ⟨rfl,hb2⟩;have B2:=B1.tr hb2;have bN:=oT.below hb2;have bO:=bL.bl hb2;by_cases hm:l∈T
 . have bU:=bD l hm;rw[oZ hm];obtain⟨bW,bC⟩:=oH hm;obtain⟨i,hi⟩:=TV (ix T l);rw[<-hi]at bW⊢;clear hi bC;have Hm:=TY hm;clear hm;obtain⟨a8,bA,bB⟩:=bO.n3;go_wp2_with fail
   refine(JQ _ _ T l x y s _ bN (h'.TW B2) bU hsm (a7.out Hm.out)).mono ?_;rintro e w3 ⟨bv,rfl,hq,hb3⟩;have B3:=B2.tr hb3;clear a8 bA bB;rcases hq with⟨e0,rfl⟩|⟨m,g,d,e0,bY,rfl,om⟩
   . obtain⟨r1,r2⟩:=bJ.out Hm.out e0;clear e0;go_wp2;go_ret2
     rw[r1,r2];exact⟨_,_,rfl,aD.DF,B3⟩
   . obtain⟨r1,r2⟩:=bK.out _ Hm.out e0;clear e0;go_wp2;go_ret2
     rw[r1,r2];exact⟨_,_,rfl,om.mono B0.size,B3⟩
 . rw[uF hm];obtain⟨r1,r2⟩:=bF.out hm;clear hm;go_wp2;go_ret2
   rw[r1,r2];exact⟨_,_,rfl,aD.DF,B2⟩
def LU (rows:List Int) (l:List Dm) (d:Dm):Int:=if Bf rows l d=true then((chg l (Cn rows l d):Nat):Int)else-1
theorem JR (v u:Value) (rows:List Int) (l:List Dm) (x y:Int) (s:Bool) (w:World) (h:Rd 1 bG w v rows) (h':Rd 3 aU w u l) (hne:l≠[]):Calls prog 97 #[.agg #[v],u,.agg #[.int .i64 x,.int .i64 y,.bool s]] w (Ret (.int .i64 (LU rows l (x,y,s))) w):=by
 obtain⟨Al,cl,rfl,_,_⟩:=h'.form;have B0:=((Below.refl w.heap.size w).al (.cells #[v] 26)).al (.cells #[.int .i64 x,.int .i64 y,.bool s] 99);have bR:=(Blk.aZ w 26 #[v]).alloc (.cells #[.int .i64 x,.int .i64 y,.bool s] 99);have bX:=Blk.gZ (w.alloc (.cells #[v] 26)) 99 #[.int .i64 x,.int .i64 y,.bool s] (w.heap.size+1) (by simp);have a6:Bf rows l (x,y,s)=true->l.length<=1000:=fun hb=>by have:=kG (I5 hb).1;omega
 have cR:=fun(W:World) (h1:Rd 1 bG W v rows) (h2:Rd 3 aU W (.slice Al l.length cl) l)=>KU v _ rows l x y s W h1 h2 hne
 have hN:LU rows l (x,y,s)=if Bf rows l (x,y,s)=true then((chg l (Cn rows l (x,y,s)):Nat):Int)else-1:=rfl
 obtain⟨b,hb⟩:=TV (Bf rows l (x,y,s));obtain⟨m,hm⟩:=TV (Cn rows l (x,y,s));obtain⟨N,a7⟩:=TV (LU rows l (x,y,s));rw[<-a7]at hN⊢;rw[<-hb,<-hm]at hN;rw[<-hb]at a6;simp only[<-hb,<-hm]at cR;have HR:=TY cR;have HN:=TY hN;clear cR hN hb hm hne a7;go_enter Tryz.func97,Tryz.ntmps97
 have z0:=bR.c1;obtain⟨a8,bA,bB⟩:=bX.n3;go_wp2_with fail
 refine(HR.out _ (h.TW B0) (h'.TW B0)).mono ?_;rintro e w1 ⟨A,c,rfl,om,hb1⟩;have B1:=B0.tr hb1;clear z0 a8 bA bB;cases b
 . go_wp2;go_ret;exact⟨by rw[HN.out];rfl,B1⟩
 . have bC:=a6 rfl;go_wp2_with fail
   refine(FE _ _ l m _ (h'.TW B1) (om.rd aC (by decide)) bC).mono ?_;rintro e w2 ⟨rfl,hb2⟩;go_wp2;go_ret;exact⟨by rw[HN.out];rfl,B1.tr hb2⟩
end Go.Proofs.YtjijonhkofhikaaGreatDoor
