import Derived.Test.YtjijonhkofhikaaGreatDoorFListI
open _root_.List renaming getElem_mem->Tm
open _root_.Nat renaming zero_le->Tn
open _root_.Bool renaming and_eq_true->Tp
open _root_.Go.Proofs.Tryz (prog)
open _root_.Go.Proofs.Tryz renaming results96->Tq,results130->Tt
set_option linter.unusedVariables false
set_option linter.unusedSimpArgs false
set_option maxHeartbeats 4000000
set_option maxRecDepth 100000
namespace Go.Proofs.YtjijonhkofhikaaGreatDoor
open Go.ChangeShapes Go.WideShapes Go.ChangeAt Go.RowKit
theorem EF {α : Type} {p : α -> Bool} : ∀ {l : List α} {t : Nat} (h : t < l.length), (∀ j (hj : j < t), p (l[j]'(by omega)) = false) -> p l[t] = true -> l.find? p = some l[t]
  |[],t,h,_,_=>by simp at h
  | a :: l, 0, h, _, e => by
   have e':p a=true:=e;rw[List.find?_cons_of_pos e'];rfl
  | a :: l, t + 1, h, hn, e => by
   have e1:p a=false:=hn 0 (Nat.succ_pos _);rw[List.find?_cons_of_neg (by rw[e1];decide)];exact EF (by simpa using h) (fun j hj=>hn (j+1) (by omega)) e
theorem pJ {T:List (List Dm)} {m:List Dm} (h:m∈T):oZ T m=((ix T m:Nat):Int):=if_pos h
theorem uI {T:List (List Dm)} {m:List Dm} (h:¬m∈T):oZ T m= -1:=if_neg h
theorem CZ {rows:List Int} {a b:List Dm} (h:¬(a∈aH rows/\b∈aH rows/\0<=tY (aH rows) (ix (aH rows) b) (ix (aH rows) a))):Gz rows a b=false/\Eo rows a b=[]:=by
 have e:Gz rows a b=false:=by
  rw[Bool.eq_false_iff];intro q;unfold Gz at q;simp only[Tp,decide_eq_true_eq]at q;exact h ⟨q.1.1,q.1.2,q.2⟩
 exact⟨e,by unfold Eo;rw[e];rfl⟩
theorem MX {rows:List Int} {a b:List Dm} (h1:a∈aH rows) (h2:b∈aH rows) (h3:0<=tY (aH rows) (ix (aH rows) b) (ix (aH rows) a)):Gz rows a b=true/\Eo rows a b=vI (aH rows) (tY (aH rows) (ix (aH rows) b)) (tY (aH rows) (ix (aH rows) b) (ix (aH rows) a)).toNat (ix (aH rows) a):=by
 have e:Gz rows a b=true:=by
  unfold Gz;simp only[Tp,decide_eq_true_eq];exact⟨⟨h1,h2⟩,h3⟩
 exact⟨e,by unfold Eo;rw[if_pos e]⟩
theorem Cm {T:List (List Dm)} {f:Nat->Int} {i t:Nat} (h:t<(gG (til T i)).length) (hn:∀j (hj:j<t) (h':j<(gG (til T i)).length),¬f (vH T i (gG (til T i))[j])=f i-1) (he:f (vH T i (gG (til T i))[t])=f i-1):I9 T f i=some (gG (til T i))[t]:=by
 unfold I9;exact EF h (fun j hj=>by rw[decide_eq_false_iff_not];exact hn j hj (by omega)) (decide_eq_true he)
theorem PM (v va vb:Value) (rows:List Int) (a b:List Dm) (w:World) (h:Rd 1 aZ w v rows) (ha:Rd 3 aQ w va a) (hb:Rd 3 aQ w vb b) (ht:Tab w):Calls prog 96 #[.agg #[v],va,vb] w (fZ 83 2 dM (Eo rows a b) (Gz rows a b) w):=by
 have B0:=(Below.refl w.heap.size w).al (.cells #[v] 26);obtain⟨Aa,ca,rfl,_,_⟩:=ha.form;obtain⟨Ab,cb,rfl,_,_⟩:=hb.form;have bR:=Fj rows;obtain⟨T,hT⟩:=Ti (aH rows);have cV:∀t∈T,(∀d∈t,aI d=true)/\t.length<=64:=fun t ht=>by rw[hT]at ht;exact⟨Rv ht,kN ht⟩
 have cL:∀(W:World),Rd 1 aZ W v rows->Calls prog 146 #[.agg #[v]] W (Em T W):=fun W hW=>by rw[hT];exact GK v rows W hW
 rw[<-hT]at bR;have e6:=Tk ht;have HT:=Tk hT;have bS:=Tk bR;have b7:=Tk cV;have e7:=Tk cL;have hsm:=bR.sm;clear ht hT bR cV cL;go_enter Tryz.func96,Tryz.ntmps96
 go_wp2_with fail
 refine(e7.out _ (h.Tj B0)).mono ?_;rintro e w1 ⟨A,c,rfl,oT,hb1⟩;have B1:=B0.tr hb1;have oT:=oT.mono B0.size;go_wp2_with fail
 refine(vJ _ _ T a _ oT (ha.Tj B1)).mono ?_;rintro e w2 ⟨rfl,hb2⟩;have B2:=B1.tr hb2;have oT:=oT.below hb2;go_wp2_with fail
 refine(vJ _ _ T b _ oT (hb.Tj B2)).mono ?_;rintro e w3 ⟨rfl,hb3⟩;have B3:=B2.tr hb3;have oT:=oT.below hb3;by_cases bC:a∈T
 . rw[pJ bC];obtain⟨bU,bJ⟩:=oV bC;obtain⟨i,hi⟩:=Ti (ix T a);rw[<-hi]at bU⊢;have cA:til T i=a:=by rw[jF bU];have:=bJ;simp only[<-hi]at this;exact this
   by_cases bF:b∈T
   . rw[pJ bF];obtain⟨hkb,cC⟩:=oV bF;obtain⟨k,hk⟩:=Ti (ix T b);rw[<-hk]at hkb⊢;have e8:=Tk bC;have e9:=Tk bF;have Hi:=Tk hi;have Hk:=Tk hk;have cW:=Tk cA;have fD:Small a.length:=by have:=(b7.out a bC).2;unfold Small;omega
     clear bC bF hi hk cA bJ cC;go_wp2_with fail
     refine(NY _ T _ oT bS.out b7.out (e6.out.below B3)).mono ?_;rintro e w4 ⟨A4,c4,rfl,oN,hb4⟩;have B4:=B3.tr hb4;have fL:=oT.below hb4;go_wp2_with fail
     refine(Px _ T (qO T T.length) k _ oN (Ps T) bS.out hkb).mono ?_;rintro e w5 ⟨⟨A5,c5,rfl,oD,cX⟩,hD⟩;have B5:=B4.tr cX;have fN:=fL.below cX;obtain⟨f,hf⟩:=Ti (tY T k);rw[<-hf]at oD hD;rw[jY]at oD⊢;have fO:0<T.length:=(by omega);obtain⟨gD,rfl,gR,fR⟩:=oD.split (k:=0) (by rw[jY];exact fO);have cI:=kY oD bU;have gS:(i:Int)<(T.length:Int):=(by omega);obtain⟨vi,cD⟩:=Ti (f i);rw[<-cD]at cI;have Hf:=Tk hf;have HD:=Tk hD;have bK:=Tk cD;clear hf hD cD;by_cases cE:vi<0
     . have HN := Tk (CZ (rows := rows) (a := a) (b := b) (fun q => by
        have:=q.2.2;rw[<-HT.out,<-Hi.out,<-Hk.out,<-Hf.out,<-bK.out]at this;omega))
       go_wp2;refine bodyPost_ret (v:= .tuple #[.slice none 0 0,.bool false]) (by simp[results,Tq,go_sem]) rfl ⟨none,0,by rw[HN.out.1,HN.out.2];rfl,by rw[HN.out.2];exact aD.Di,B5⟩
     . have bL := MX (rows := rows) (a := a) (b := b) (by rw [<- HT.out]; exact e8.out) (by rw [<- HT.out]; exact e9.out) (by rw [<- HT.out, <- Hi.out, <- Hk.out, <- Hf.out, <- bK.out]; omega);rw[<-HT.out,<-Hi.out,<-Hk.out,<-Hf.out,<-bK.out]at bL;obtain⟨W,hW⟩:=Ti (Eo rows a b);rw[<-hW]at bL⊢;have cY:=HD.out.top i;rw[<-bK.out]at cY;obtain⟨m,rfl⟩:∃m:Nat,vi=m:=⟨vi.toNat,by omega⟩;have fS:m<=300:=(by omega);have cF:=bL.2;rw[Int.toNat_natCast]at cF;have HW:=Tk bL.1;have fW:=Tk cF;have dL:=Tk hW;have dT:=eG w5 (E:=83) (size:=2) (enc:=dM) w5.heap.size rfl w5.heap.size (Nat.le_refl _);have BM:=(Below.refl w5.heap.size w5).al (.cells #[] 83);clear bL cF hW cE cY;go_wp2_with fail
       refine(dH _ a _ (ha.Tj (B5.tr BM)) fD).mono ?_;rintro e w6 ⟨A6,c6,rfl,oA,cG⟩;have B6:=BM.tr cG;have eA:=dT.below cG;have cH:=oA.mono BM.size;rw[<-cW.out]at cH;go_wp2;clear cI;go_loopg [9,12,13] m (fun gk s9 s12 cJ wr=>∃(i:Nat) (D:Option Addr) (d:Nat) (A7:Option Addr) (c7:Nat) (out:List Cl),i<T.length/\s9= .int .i64 i/\s12= .slice D out.length d/\aD 83 2 dM w5.heap.size wr (.slice D out.length d) out/\cJ= .slice A7 (til T i).length c7/\aD 99 3 aV w5.heap.size wr (.slice A7 (til T i).length c7) (til T i)/\Hid (f i=gk/\out++vI T f gk i=W)/\out.length+gk<=300/\Below w5.heap.size w5 wr)
       case atStart=>exact⟨i,_,_,_,_,[],bU,rfl,rfl,eA,by rw[cW.out],cH,Tk ⟨bK.out.symm,fW.out.symm⟩,by simpa using fS,B6⟩
       case round=>
        clear dT BM B6 eA cH oA cG;obtain⟨i,D,d,A7,c7,out,hi,rfl,rfl,hown,rfl,a8,Hg,gT,a6⟩:=hrel;by_cases hg0:gk=0
        . subst hg0;have hik:i=k:=HD.out.zero i (by have:=Hg.out.1;simpa using this);have gW:((i:Int) !=(k:Int))=false:=by rw[hik];exact bne_self_eq_false _
          have HO:Hid (out=W):=Tk (by have:=Hg.out.2;rw[vI,List.append_nil]at this;exact this);clear hik;go_wp2;refine bodyPost_ret (v:= .tuple #[.slice D out.length d,.bool true]) (by simp[results,Tq,go_sem]) rfl ⟨D,d,by rw[HW.out,<-dL.out,HO.out],by rw[<-dL.out];have:=hown.mono B5.size;rw[HO.out]at this;exact this,B5.tr a6⟩
        . obtain ⟨m', rfl⟩ : ∃ m', gk = m' + 1 := ⟨gk - 1, by omega⟩;have hstep:=Gy bS.out HD.out (i:=i) (m:=m') (by have:=Hg.out.1;omega)
          have hne:((i:Int) !=(k:Int))=true:=by
           rw[bne_iff_ne];intro e;have e2:i=k:=(by omega);have:=Hg.out.1;rw[e2,HD.out.st]at this;omega
          have HS:=Tk hstep;have eC:f i=((m'+1:Nat):Int):=Hg.out.1;have bX:=Tk eC;clear hstep hg0 eC;have bD:(til T i).length<=64:=by rw[jF hi];exact(b7.out _ (Tm hi)).2
          have eE:Small (til T i).length:=by unfold Small;omega
          obtain⟨l,hl⟩:=Ti (til T i);rw[<-hl]at a8 eE bD⊢;have HL:=Tk hl;clear hl;go_wp2_with fail
          refine(Eu _ l _ (a8.rd aC (by decide))).mono ?_;rintro e w7 ⟨A8,c8,rfl,oF,bY⟩;have fX:=xM l;obtain⟨F,hF⟩:=Ti (gG l);rw[<-hF]at oF fX⊢;have bM:=Tk hF;have cK:=hown.below bY;have cM:=a8.below bY;have B7:=a6.tr bY;clear hF hown a8 a6 bY;go_wp2;go_loopw [9,12,13,51] (fun s9 s12 cJ fY wr=>∃(t:Nat),t<=F.length/\s9= .int .i64 i/\s12= .slice D out.length d/\cJ= .slice A7 l.length c7/\fY= .int .i64 t/\Hid (∀j (hj:j<t) (h':j<F.length),¬f (vH T i F[j])=f i-1)/\Below w7.heap.size w7 wr) (fun _ _ _ x _=>F.length-(intOf x).toNat)
          case atStart=>exact⟨0,Tn _,rfl,rfl,rfl,rfl,Tk (fun j hj=>by omega),Below.refl _ _⟩
          case round=>
           obtain⟨t,ht,rfl,rfl,rfl,rfl,Hn,a6⟩:=hrel;by_cases hlt:t<F.length
           . have eI:=oF.below a6;obtain⟨bk,off,rfl,gX,q0,q1⟩:=(eI.rd eB (by decide)).iR hlt;obtain⟨xy,b5⟩:=Ti (F[t]);have bE:xy∈gG l:=by rw[b5,<-bM.out];exact Tm hlt
             rw[<-b5]at q0 q1;obtain⟨x,y⟩:=xy;simp only at q0 q1;have cN:¬kindOf l (x,y)=0:=mI.1 bE
             have cP:aU l (x,y)∈T:=by
              have:=(bS.out.cl _ (Tm hi) (x,y) (by rw[<-jF hi,<-HL.out];exact cN)).1;rw[<-jF hi,<-HL.out]at this;exact this
             obtain⟨hat,bN⟩:=oV cP;obtain⟨at_,a7⟩:=Ti (ix T (aU l (x,y)));have eJ:vH T i (x,y)=at_:=by unfold vH;rw[<-HL.out,a7]
             have cA:(t:Int)<(F.length:Int):=(by omega);have B8:=a6.al (.cells #[.int .i64 x,.int .i64 y] 83);have b8:=Blk.aX wr 83 #[.int .i64 x,.int .i64 y];have cQ:=cM.below B8;have eK:=Tk cP;have gA:=Tk cN;have eL:=Tk b5;have gB:=Tk bE;have cR:=Tk eJ;rw[<-a7]at hat;have bB:til T at_=aU l (x,y):=by rw[jF hat];have:=bN;simp only[<-a7]at this;exact this
             have eM:=Tk bB;have eN:=Tk a7;clear cP cN b5 bE eJ bN bB a7 eI;go_wp2_with fail
             refine(wL _ l x y _ (cQ.rd aC (by decide)) eE gA.out).mono ?_;rintro e w9 ⟨A9,c9,rfl,oN,eP⟩;have B9:=B8.tr eP;have b9:=b8.bl eP;have gC:=(fN.below B7).below B9;obtain⟨N,hN⟩:=Ti (aU l (x,y));rw[<-hN]at oN eK eM eN⊢;clear hN;go_wp2_with fail
             refine(vJ _ _ T N _ gC (oN.rd aC (by decide))).mono ?_;rintro e wA ⟨rfl,cS⟩;rw[pJ eK.out,<-eN.out];have BA:=B9.tr cS;have bA:=b9.bl cS;have eR:=(oD.below B7).below BA;have cT:=kY eR hat;have cI:=kY eR hi;have gF:(at_:Int)<(T.length:Int):=(by omega);have gY:(i:Int)<(T.length:Int):=(by omega);obtain⟨va,cU⟩:=Ti (f at_);rw[<-cU]at cT;rw[bX.out]at cI;have b6:=Tk cU;clear cU;have hE: -1<=va:=by rw[b6.out];exact HD.out.low _
             have BO:=B7.tr BA;have bO:=cK.below BA;obtain⟨hP,hZ⟩:=bA.n2;by_cases gK:va=(m':Int)
             . subst gK;have H8:Hid ((out.length+1)*16<=140737488355328):=Tk (by omega);have HM:Hid (out.length+1<=maxLen):=Tk (by unfold maxLen;omega)
               have HG : Hid (f at_ = (m' : Int) /\ (out ++ [(x, y)]) ++ vI T f m' at_ = W) := Tk (by
                have bP:t<(gG (til T i)).length:=by rw[<-HL.out,<-bM.out];exact hlt
                have eW:(gG (til T i))[t]=(x,y):=by
                 have:∀(G:List Cl),G=F->∀h:t<G.length,G[t]=(x,y):=fun G e h=>by subst e;exact eL.out.symm
                 exact this _ (by rw[<-HL.out,<-bM.out]) bP
                have hs := Cm (f := f) bP (fun j hj h' => by
                 have gL:j<F.length:=(by omega);have:=Hn.out j hj gL
                 have e:(gG (til T i))[j]=F[j]:=by
                  have:∀(G:List Cl),G=F->∀h:j<G.length,G[j]=F[j]:=fun G e h=>by subst e;rfl
                  exact this _ (by rw[<-HL.out,<-bM.out]) h'
                 rw[e];exact this) (by rw[eW,cR.out,<-b6.out,bX.out];omega)
                rw[eW]at hs;refine⟨b6.out.symm,?_⟩;have h2:=Hg.out.2;rw[Kj hs,cR.out]at h2;rw[<-h2];simp)
               go_wp2_with fail
               go_quiet (fail)
               go_wp2_with (at_builtin;go_must (refine aP (enc:=dM) jK eB oneCell (below_drewN BO _) (bO.below (below_drewN (Below.refl _ _) _)) ((x,y):Cl) H8.out HM.out (by simp) rfl _ _ rfl rfl rfl ?_);intro vB wB ownB gM gN h9;obtain⟨AB,cB,rfl,hcB,j0⟩:=ownB.form)
               go_roundg m'
               case measure=>omega
               case rel=>
                have gO:=(oN.below cS).below (below_drewN (Below.refl _ _) nq);have gP:=aD.mG (gO.alloc (.cells (dM (x,y)).toArray 83)) ((bO.below (below_drewN (Below.refl _ _) nq)).alloc (.cells (dM (x,y)).toArray 83)) (by decide) gN;have gQ:w5.heap.size<=(wr.alloc (.cells #[.int .i64 x,.int .i64 y] 83)).heap.size:=(B7.tr B8).size;have e5:=gP.mono gQ;rw[<-eM.out]at e5⊢;exact⟨at_,AB,cB,A9,c9,out++[(x,y)],hat,rfl,by simp,ownB,rfl,e5,HG,by simp;omega,gM⟩
             . go_wp2_with fail
               go_quiet (fail)
               go_wp2;go_roundw
               case rel => exact ⟨t + 1, by omega, rfl, rfl, rfl, by go_num, Tk (fun j hj h' => by
                rcases(by omega:j<t∨j=t)with h1|h1
                . exact Hn.out j h1 h'
                . subst h1;rw[<-eL.out,cR.out,<-b6.out,bX.out];omega),below_drewN BA _⟩
               case measure=>simp[intOf];omega
           . obtain rfl : t = F.length := by omega
             exfalso;obtain⟨c,h1,h2,h3,_,_⟩:=HS.out;have h4:=List.mem_of_find?_eq_some h1;rw[<-HL.out,<-bM.out]at h4;obtain⟨j,hj,e⟩:=List.getElem_of_mem h4;refine Hn.out j hj hj ?_;rw[e,h3,bX.out];omega
   . rw[uI bF];have HN:=Tk (CZ (rows:=rows) (a:=a) (b:=b) (fun q=>bF (by rw[HT.out];exact q.2.1)));go_wp2;refine bodyPost_ret (v:= .tuple #[.slice none 0 0,.bool false]) (by simp[results,Tq,go_sem]) rfl ⟨none,0,by rw[HN.out.1,HN.out.2];rfl,by rw[HN.out.2];exact aD.Di,B3⟩
 . rw[uI bC];have HN:=Tk (CZ (rows:=rows) (a:=a) (b:=b) (fun q=>bC (by rw[HT.out];exact q.1)));go_wp2;refine bodyPost_ret (v:= .tuple #[.slice none 0 0,.bool false]) (by simp[results,Tq,go_sem]) rfl ⟨none,0,by rw[HN.out.1,HN.out.2];rfl,by rw[HN.out.2];exact aD.Di,B3⟩
theorem dY.mG {α β:Type} {E0 E E2:TypeId} {size s2:Nat} {enc:α->List Value} {e2:β->List Value} {B B2:Nat} {w w':World} {v v2:Value} {ls:List (List α)} {l2:List β} (a:dY E0 E size enc B w v ls) (b:aD E2 s2 e2 B2 w v2 l2) (a6:E0≠E2) (hne:E≠E2) (hg:w.grownBy w' v2.ownBlock):dY E0 E size enc B w' v ls:=by
 obtain⟨us,h1,h2,h3⟩:=a;exact⟨us,h1.mG b a6 hg,h2,fun k u x hu hx=>(h3 k u x hu hx).mG b hne hg⟩
theorem Ob {T:List (List Dm)} {i:Nat} (h:i<T.length):∃h':i<(mZ T T.length).length,(mZ T T.length)[i]=sZ T i:=⟨by rw[pF];exact h,by simp[mZ]⟩
theorem PN {T:List (List Dm)} {i t:Nat} (h:t<(gG (til T i)).length):∃h':t<(sZ T i).length,(sZ T i)[t]=vX T i (gG (til T i))[t]:=⟨by unfold sZ;rw[List.length_map];exact h,by simp[sZ]⟩
theorem PO (v va vb:Value) (rows:List Int) (a b:List Dm) (w:World) (h:Rd 1 aZ w v rows) (ha:Rd 3 aQ w va a) (hb:Rd 3 aQ w vb b):Calls prog 130 #[.agg #[v],va,vb] w (fZ 83 2 dM (Eo rows a b) (Gz rows a b) w):=by
 obtain⟨Aa,ca,rfl,_,_⟩:=ha.form;obtain⟨Ab,cb,rfl,_,_⟩:=hb.form;have bX:=(Blk.aX w 26 #[v]).alloc (.cells #[] 83);have B0:=((Below.refl w.heap.size w).al (.cells #[v] 26)).al (.cells #[] 83);have eK:=eG (w.alloc (.cells #[v] 26)) (E:=83) (size:=2) (enc:=dM) (w.heap.size+1) (by simp) w.heap.size (by simp);have b7:=Fj rows;obtain⟨T,hT⟩:=Ti (aH rows);have eL:∀t∈T,t.length<=64:=fun t ht=>by rw[hT]at ht;exact kN ht
 have cL:∀(W:World),Rd 1 aZ W v rows->Calls prog 181 #[.agg #[v]] W (Em T W):=fun W hW=>by rw[hT];exact uW v rows W hW
 have cI:∀(u:Value) (m:List Dm) (W:World),Rd 1 aZ W v rows->Rd 3 aQ W u m->Calls prog 180 #[.agg #[v],u] W (Ret (.int .i64 (oZ T m)) W):=fun u m W h1 h2=>by rw[hT];exact EB v u rows m W h1 h2
 rw[<-hT]at b7;have HT:=Tk hT;have b8:=Tk b7;have gC:=Tk eL;have gF:=Tk cL;have eM:=Tk cI;have hsm:=b7.sm;clear hT b7 eL cL cI;go_enter Tryz.func130,Tryz.ntmps130
 have z0:=bX.c1;go_wp2_with fail
 refine(eM.out _ a _ (h.Tj B0) (ha.Tj B0)).mono ?_;rintro e w1 ⟨rfl,hb1⟩;have B1:=B0.tr hb1;have cF:=bX.bl hb1;have eN:=eK.below hb1;clear z0;have z0:=cF.c1;go_wp2_with fail
 refine(eM.out _ b _ (h.Tj B1) (hb.Tj B1)).mono ?_;rintro e w2 ⟨rfl,hb2⟩;have B2:=B1.tr hb2;have eP:=cF.bl hb2;have b9:=eN.below hb2;clear z0 eK eN bX cF B0 B1;by_cases bE:a∈T
 . rw[pJ bE];obtain⟨cG,cH⟩:=oV bE;obtain⟨i,hi⟩:=Ti (ix T a);rw[<-hi]at cG⊢;by_cases bF:b∈T
   . rw[pJ bF];obtain⟨hkb,cJ⟩:=oV bF;obtain⟨k,hk⟩:=Ti (ix T b);rw[<-hk]at hkb⊢;have gK:=Tk bE;have gM:=Tk bF;have Hi:=Tk hi;have Hk:=Tk hk;clear bE bF hi hk cH cJ;have z0:=eP.c1;go_wp2_with fail
     refine(gF.out _ (h.Tj B2)).mono ?_;rintro e w3 ⟨A,c,rfl,oT,hb3⟩;have B3:=B2.tr hb3;have eR:=b9.below hb3;go_wp2_with fail
     refine(Lx _ T _ oT b8.out gC.out).mono ?_;rintro e w4 ⟨A4,c4,rfl,oL,hb4⟩;have B4:=B3.tr hb4;have eW:=oT.below hb4;have e5:=eR.below hb4;go_wp2_with fail
     refine(Py _ T (mZ T T.length) k _ oL (Pt T) b8.out hkb).mono ?_;rintro e w5 ⟨⟨A5,c5,rfl,oD,bN⟩,hD⟩;have B5:=B4.tr bN;have e6:=eW.below bN;have e7:=oL.below bN;have cK:=e5.below bN;obtain⟨f,hf⟩:=Ti (tY T k);rw[<-hf]at oD hD;rw[jY]at oD⊢;have gN:0<T.length:=(by omega);obtain⟨gD,rfl,gO,cM⟩:=oD.split (k:=0) (by rw[jY];exact gN);have cI:=kY oD cG;have k5:(i:Int)<(T.length:Int):=(by omega);obtain⟨vi,cP⟩:=Ti (f i);rw[<-cP]at cI;have Hf:=Tk hf;have HD:=Tk hD;have bO:=Tk cP;clear hf hD cP eP z0 b9 eR e5 oT eW oL B2 B3 B4 hb3 hb4 bN;by_cases cQ:vi<0
     . have HN := Tk (CZ (rows := rows) (a := a) (b := b) (fun q => by
        have:=q.2.2;rw[<-HT.out,<-Hi.out,<-Hk.out,<-Hf.out,<-bO.out]at this;omega))
       go_wp2;refine bodyPost_ret (v:= .tuple #[.slice (some ⟨w.heap.size+1,0,none⟩) 0 0,.bool false]) (by simp[results,Tt,go_sem]) rfl ⟨some ⟨w.heap.size+1,0,none⟩,0,by rw[HN.out.1,HN.out.2];rfl,by rw[HN.out.2];exact cK,B5⟩
     . have bP := MX (rows := rows) (a := a) (b := b) (by rw [<- HT.out]; exact gK.out) (by rw [<- HT.out]; exact gM.out) (by rw [<- HT.out, <- Hi.out, <- Hk.out, <- Hf.out, <- bO.out]; omega);rw[<-HT.out,<-Hi.out,<-Hk.out,<-Hf.out,<-bO.out]at bP;obtain⟨W,hW⟩:=Ti (Eo rows a b);rw[<-hW]at bP;have e8:=HD.out.top i;rw[<-bO.out]at e8;obtain⟨m,rfl⟩:∃m:Nat,vi=m:=⟨vi.toNat,by omega⟩;have gP:m<=300:=(by omega);have cR:=bP.2;rw[Int.toNat_natCast]at cR;have HW:=Tk bP.1;have gQ:=Tk cR;have e9:=Tk hW;clear bP cR hW cQ e8;go_wp2;clear cI;go_loopg [8,9] m (fun gk s8 s9 wr=>∃(i:Nat) (D:Option Addr) (d:Nat) (out:List Cl),i<T.length/\s9= .int .i64 i/\s8= .slice D out.length d/\aD 83 2 dM w.heap.size wr (.slice D out.length d) out/\dY 27 99 3 aV 0 wr (.slice A T.length c) T/\dY 24 3 1 aW 0 wr (.slice A4 T.length c4) (mZ T T.length)/\aD 3 1 aW 0 wr (.slice (some ⟨gD,0,none⟩) T.length c5) (vP T.length f)/\Hid (f i=gk/\out++vI T f gk i=W)/\out.length+gk<=300/\Below w.heap.size w wr)
       case atStart=>exact⟨i,_,_,[],cG,rfl,rfl,cK,e6.mono (Tn _),e7.mono (Tn _),oD.mono (Tn _),Tk ⟨bO.out.symm,gQ.out.symm⟩,by simpa using gP,B5⟩
       case round=>
        clear cK e6 e7 oD B5 gO cM;obtain⟨i,D,d,out,hi,rfl,rfl,hown,oT,oL,oD,Hg,k6,a6⟩:=hrel;by_cases hg0:gk=0
        . subst hg0;have hik:i=k:=HD.out.zero i (by have:=Hg.out.1;simpa using this);have k7:((i:Int) !=(k:Int))=false:=by rw[hik];exact bne_self_eq_false _
          have HO:Hid (out=W):=Tk (by have:=Hg.out.2;rw[vI,List.append_nil]at this;exact this);clear hik;go_wp2;refine bodyPost_ret (v:= .tuple #[.slice D out.length d,.bool true]) (by simp[results,Tt,go_sem]) rfl ⟨D,d,by rw[HW.out,<-e9.out,HO.out],by rw[<-e9.out];have:=hown;rw[HO.out]at this;exact this,a6⟩
        . obtain ⟨m', rfl⟩ : ∃ m', gk = m' + 1 := ⟨gk - 1, by omega⟩;have hstep:=Gy b8.out HD.out (i:=i) (m:=m') (by have:=Hg.out.1;omega)
          have hne:((i:Int) !=(k:Int))=true:=by
           rw[bne_iff_ne];intro e;have e2:i=k:=(by omega);have:=Hg.out.1;rw[e2,HD.out.st]at this;omega
          have HS:=Tk hstep;have fD:f i=((m'+1:Nat):Int):=Hg.out.1;have cA:=Tk fD;clear hstep hg0 fD;have k8:(i:Int)<(T.length:Int):=(by omega);obtain⟨gT,D1,d1,gR,_,k9,cT,tk⟩:=oT.pick hi;subst gR;obtain⟨l,hl⟩:=Ti (til T i);rw[<-jF hi,<-hl]at cT tk;have HL:=Tk hl;clear hl;go_wp2_with fail
          refine(Ev _ l _ (tk.rd aC (by decide))).mono ?_;rintro e w7 ⟨A8,c8,rfl,oF,bJ⟩;have gS:=xM l;obtain⟨F,hF⟩:=Ti (gG l);rw[<-hF]at oF gS⊢;have bK:=Tk hF;have cS:=hown.below bJ;have gW:=oT.below bJ;have cU:=oL.below bJ;have fL:=oD.below bJ;have B7:=a6.tr bJ;obtain⟨fN,bB⟩:=Ob hi;obtain⟨gL,DL,dL,gX,_,gY,cL,oN⟩:=cU.OG fN;subst gX;rw[bB]at cL oN;have cV:(sZ T i).length=F.length:=by unfold sZ;rw[List.length_map,<-HL.out,<-bK.out]
          rw[cV]at cL oN;have hE:=Tk cV;have hP:=Tk fN;have cW:=Tk bB;clear hF hown oT oL oD a6 bJ tk cT bB cV;go_wp2;go_loopw [8,9,15] (fun s8 s9 hZ wr=>∃(t:Nat),t<=F.length/\s9= .int .i64 i/\s8= .slice D out.length d/\hZ= .int .i64 t/\Hid (∀j (hj:j<t) (h':j<F.length),¬f (vH T i F[j])=f i-1)/\Below w7.heap.size w7 wr) (fun _ _ x _=>F.length-(intOf x).toNat)
          case atStart=>exact⟨0,Tn _,rfl,rfl,rfl,Tk (fun j hj=>by omega),Below.refl _ _⟩
          case round=>
           obtain⟨t,ht,rfl,rfl,rfl,Hn,a6⟩:=hrel;by_cases hlt:t<F.length
           . have fO:=oF.below a6;obtain⟨bk,off,rfl,lA,q0,q1⟩:=(fO.rd eB (by decide)).iR hlt;obtain⟨xy,bR⟩:=Ti (F[t]);have bS:xy∈gG l:=by rw[bR,<-bK.out];exact Tm hlt
             have bC:t<(gG (til T i)).length:=by rw[<-HL.out,<-bK.out];exact hlt
             have cX:(gG (til T i))[t]=xy:=by
              have:∀(G:List Cl),G=F->∀h:t<G.length,G[t]=xy:=fun G e h=>by subst e;exact bR.symm
              exact this _ (by rw[<-HL.out,<-bK.out]) bC
             rw[<-bR]at q0 q1;obtain⟨x,y⟩:=xy;simp only at q0 q1;have fR:¬kindOf l (x,y)=0:=mI.1 bS
             have fS:aU l (x,y)∈T:=by
              have:=(b8.out.cl _ (Tm hi) (x,y) (by rw[<-jF hi,<-HL.out];exact fR)).1;rw[<-jF hi,<-HL.out]at this;exact this
             obtain⟨hat,cY⟩:=oV fS;obtain⟨at_,a8⟩:=Ti (ix T (aU l (x,y)));have fW:vH T i (x,y)=at_:=by unfold vH;rw[<-HL.out,a8]
             rw[<-a8]at hat;obtain⟨hlk,bU⟩:=PN bC;have hlv:(sZ T i)[t]=(at_:Int):=by rw[bU,cX];unfold vX;rw[<-HL.out,<-a8]
             have fX:=oN.below a6;obtain⟨bL,h9,j0,lB,cN⟩:=(fX.rd aM (by decide)).uX hlk;rw[hlv]at cN;have j1:=(a6.cell (p:=⟨gL,i,none⟩) gY).trans cL;rw[j0]at j1;have fY:=fL.below a6;have cT:=kY fY hat;have cI:=kY fY hi;have lO:(t:Int)<(F.length:Int):=(by omega);have j2:(at_:Int)<(T.length:Int):=(by omega);obtain⟨va,cC⟩:=Ti (f at_);rw[<-cC]at cT;rw[cA.out]at cI;have dT:=Tk cC;have j3:=Tk bR;have eA:=Tk fW;have gA:=Tk cX;have j4:=Tk bC;have j5:=Tk hlk;have j6:=Tk hlv;have lR: -1<=va:=by rw[cC];exact HD.out.low _
             have BO:=B7.tr a6;have bD:=cS.below a6;clear cC bR fW cX bS fR fS cY a8 bU hlv fX fO;by_cases j7:va=(m':Int)
             . subst j7;have H8:Hid ((out.length+1)*16<=140737488355328):=Tk (by omega);have HM:Hid (out.length+1<=maxLen):=Tk (by unfold maxLen;omega)
               have HG : Hid (f at_ = (m' : Int) /\ (out ++ [(x, y)]) ++ vI T f m' at_ = W) := Tk (by
                have hs := Cm (f := f) j4.out (fun j hj h' => by
                 have j8:j<F.length:=(by omega);have:=Hn.out j hj j8
                 have e:(gG (til T i))[j]=F[j]:=by
                  have:∀(G:List Cl),G=F->∀h:j<G.length,G[j]=F[j]:=fun G e h=>by subst e;rfl
                  exact this _ (by rw[<-HL.out,<-bK.out]) h'
                 rw[e];exact this) (by rw[gA.out,eA.out,<-dT.out,cA.out];omega)
                rw[gA.out]at hs;refine⟨dT.out.symm,?_⟩;have h2:=Hg.out.2;rw[Kj hs,eA.out]at h2;rw[<-h2];simp)
               go_wp2_with fail
               go_quiet (fail)
               have bA : ∀ wB, ((wr.drewN nq).alloc (.cells (dM (x, y)).toArray 83)).grownBy wB (Value.slice D out.length d).ownBlock -> ∃ (cD bY a7 : Nat), wB.cell? ⟨gL, i, none⟩ = some (.slice (some ⟨bY, a7, none⟩) F.length cD) /\ wB.cell? ⟨bY, a7 + t, none⟩ = some (.int .i64 at_) := fun wB bM => by
                have b5:=((bD.below (below_drewN (Below.refl _ _) nq)).alloc (.cells (dM (x,y)).toArray 83));have eC:=dY.mG ((cU.below (below_drewN a6 nq)).alloc (.cells (dM (x,y)).toArray 83)) b5 (by decide) (by decide) bM;obtain⟨j9,l4,cD,eE,_,_,cE,gB⟩:=eC.OG hP.out;have hg2:gL=j9:=by injection eE with eE;injection eE
                subst hg2;rw[cW.out,hE.out]at cE gB;obtain⟨bY,a7,eI,kA,eJ⟩:=(gB.rd aM (by decide)).uX j5.out;rw[j6.out]at eJ;rw[eI]at cE;exact⟨cD,bY,a7,cE,eJ⟩
               have b6:=Tk bA;clear bA;go_wp2_with (at_builtin;go_must (refine aP (enc:=dM) jK eB oneCell (below_drewN BO _) (bD.below (below_drewN (Below.refl _ _) _)) ((x,y):Cl) H8.out HM.out (by simp) rfl _ _ rfl rfl rfl ?_);intro vB wB ownB kB bM l5;obtain⟨AB,cB,rfl,hcB,l6⟩:=ownB.form;obtain⟨cD,bY,a7,cE,eJ⟩:=b6.out _ bM)
               have b5:=((bD.below (below_drewN (Below.refl _ _) nq)).alloc (.cells (dM (x,y)).toArray 83));have eC:=dY.mG ((cU.below (below_drewN a6 nq)).alloc (.cells (dM (x,y)).toArray 83)) b5 (by decide) (by decide) bM;have kO:=dY.mG ((gW.below (below_drewN a6 nq)).alloc (.cells (dM (x,y)).toArray 83)) b5 (by decide) (by decide) bM;have k0:=aD.mG ((fL.below (below_drewN a6 nq)).alloc (.cells (dM (x,y)).toArray 83)) b5 (by decide) bM;go_roundg m'
               case measure=>omega
               case rel=>exact⟨at_,AB,cB,out++[(x,y)],hat,rfl,by simp,ownB,kO,eC,k0,HG,by simp;omega,kB⟩
             . go_wp2_with fail
               go_quiet (fail)
               go_wp2;go_roundw
               case rel => exact ⟨t + 1, by omega, rfl, rfl, by go_num, Tk (fun j hj h' => by
                rcases(by omega:j<t∨j=t)with h1|h1
                . exact Hn.out j h1 h'
                . subst h1;rw[<-j3.out,eA.out,<-dT.out,cA.out];omega),below_drewN a6 _⟩
               case measure=>simp[intOf];omega
           . obtain rfl : t = F.length := by omega
             exfalso;obtain⟨c,h1,h2,h3,_,_⟩:=HS.out;have h4:=List.mem_of_find?_eq_some h1;rw[<-HL.out,<-bK.out]at h4;obtain⟨j,hj,e⟩:=List.getElem_of_mem h4;refine Hn.out j hj hj ?_;rw[e,h3,cA.out];omega
   . rw[uI bF];have HN:=Tk (CZ (rows:=rows) (a:=a) (b:=b) (fun q=>bF (by rw[HT.out];exact q.2.1)));go_wp2;refine bodyPost_ret (v:= .tuple #[.slice (some ⟨w.heap.size+1,0,none⟩) 0 0,.bool false]) (by simp[results,Tt,go_sem]) rfl ⟨some ⟨w.heap.size+1,0,none⟩,0,by rw[HN.out.1,HN.out.2];rfl,by rw[HN.out.2];exact b9,B2⟩
 . rw[uI bE];have HN:=Tk (CZ (rows:=rows) (a:=a) (b:=b) (fun q=>bE (by rw[HT.out];exact q.1)));go_wp2;refine bodyPost_ret (v:= .tuple #[.slice (some ⟨w.heap.size+1,0,none⟩) 0 0,.bool false]) (by simp[results,Tt,go_sem]) rfl ⟨some ⟨w.heap.size+1,0,none⟩,0,by rw[HN.out.1,HN.out.2];rfl,by rw[HN.out.2];exact b9,B2⟩
theorem Fu (u v:Value) (a b:List Dm) (w:World) (h:Rd 3 aQ w u a) (h':Rd 3 aQ w v b) (hl:a.length<=1000):Calls prog 152 #[u,v] w (Ret (.int .i64 (chg a b:Nat)) w):=by
 obtain⟨A,c,rfl,hc,hm⟩:=h.form;go_enter Tryz.func152,Tryz.ntmps152
 go_wp2;go_loopw [5,10] (fun s5 a8 wr=>∃(k:Nat),k<=a.length/\a8= .int .i64 k/\s5= .int .i64 (vW a b k:Nat)/\Below w.heap.size w wr) (fun _ i _=>a.length-(intOf i).toNat)
 case atStart=>exact⟨0,Tn _,rfl,rfl,Below.refl _ _⟩
 case round=>
  obtain⟨k,hk,rfl,rfl,a6⟩:=hrel;by_cases hlt:k<a.length
  . obtain⟨bb,off,rfl,hb,q0,q1,q2⟩:=(h.Tj a6).kE hlt;have bA:(k:Int)<(a.length:Int):=(by omega);have hst:=Ep (b:=b) hlt;have hle:=Kk a b k;obtain⟨x,hx⟩:=Ti (a[k]);rw[<-hx]at q0 q1 q2 hst;obtain⟨x,y,s⟩:=x;simp only at q0 q1 q2;obtain⟨n,hn⟩:=Ti (vW a b k);rw[<-hn]at hst hle⊢;obtain⟨bo,a7⟩:=Ti (b.contains (x,y,s));have cH:∀W:World,Rd 3 aQ W v b->Calls prog 201 #[v,.agg #[.int .i64 x,.int .i64 y,.bool s]] W (Ret (.bool bo) W):=fun W hW=>by rw[a7];exact iL v b x y s W hW
    rw[<-a7]at hst;have HC:=Tk cH;have HST:=Tk hst;clear hx hn a7 cH hst;have B1:=a6.al (.cells #[.int .i64 x,.int .i64 y,.bool s] 99);go_wp2_with fail
    refine(HC.out _ (h'.Tj B1)).mono ?_;rintro e w2 ⟨rfl,hb2⟩;have B2:=B1.tr hb2;have bB:(n:Int)<=1000:=(by omega);cases bo
    . go_wp2;go_roundw
      case rel=>exact⟨k+1,by omega,by go_num,by rw[HST.out];go_num,B2⟩
      case measure=>simp[intOf];omega
    . go_wp2;go_roundw
      case rel=>exact⟨k+1,by omega,by go_num,by rw[HST.out];rfl,B2⟩
      case measure=>simp[intOf];omega
  . obtain rfl : k = a.length := by omega
    rw[GA];go_wp2;go_ret;exact⟨rfl,a6⟩
theorem KG (u v:Value) (a b:List Dm) (w:World) (h:Rd 3 aQ w u a) (h':Rd 3 aQ w v b) (hl:a.length<=1000):Calls prog 131 #[u,v] w (Ret (.int .i64 (chg a b:Nat)) w):=by
 obtain⟨A,c,rfl,hc,hm⟩:=h.form;go_enter Tryz.func131,Tryz.ntmps131
 go_wp2;go_loopw [5,6] (fun s5 s6 wr=>∃(k:Nat),k<=a.length/\s6= .int .i64 k/\s5= .int .i64 (vW a b k:Nat)/\Below w.heap.size w wr) (fun _ i _=>a.length-(intOf i).toNat)
 case atStart=>exact⟨0,Tn _,rfl,rfl,Below.refl _ _⟩
 case round=>
  obtain⟨k,hk,rfl,rfl,a6⟩:=hrel;by_cases hlt:k<a.length
  . obtain⟨bb,off,rfl,hb,q0,q1,q2⟩:=(h.Tj a6).kE hlt;have bB:(k:Int)<(a.length:Int):=(by omega);have hst:=Ep (b:=b) hlt;have hle:=Kk a b k;obtain⟨x,hx⟩:=Ti (a[k]);rw[<-hx]at q0 q1 q2 hst;obtain⟨x,y,s⟩:=x;simp only at q0 q1 q2;obtain⟨n,hn⟩:=Ti (vW a b k);rw[<-hn]at hst hle⊢;have HST:=Tk hst;clear hx hn hst;have bC:(n:Int)<=1000:=(by omega);rcases a7:b.contains (x,y,s)with _|_
    . go_wp2_with fail
      refine(yB v b x y s _ (h'.Tj a6) a7).mono ?_;rintro e w2 ⟨rfl,hb2⟩;have B2:=a6.tr hb2;have a8:Hid (vW a b (k+1)=n+1):=Tk (by rw[HST.out,a7];rfl);clear a7;go_wp2;go_roundw
      case rel=>exact⟨k+1,by omega,by go_num,by rw[a8.out];go_num,B2⟩
      case measure=>simp[intOf];omega
    . obtain⟨r,bD,bA⟩:=rH v b x y s wr (h'.Tj a6) a7;have a8:Hid (vW a b (k+1)=n):=Tk (by rw[HST.out,a7];rfl);clear a7;go_wp2_with fail
      refine bA.mono ?_;rintro e w2 ⟨rfl,hb2⟩;have B2:=a6.tr hb2;go_wp2;go_roundw
      case rel=>exact⟨k+1,by omega,by go_num,by rw[a8.out],B2⟩
      case measure=>simp[intOf];omega
  . obtain rfl : k = a.length := by omega
    rw[GA];go_wp2;go_ret;exact⟨rfl,a6⟩
def LA (T:List (List Dm)) (B:Nat) (w:World) (v:Value) (o:Option (List Dm)):Prop:=(o=none/\v= .slice none 0 0)∨∃m g d,o=some m/\m∈T/\v= .slice (some ⟨g,0,none⟩) m.length d/\aD 99 3 aV B w (.slice (some ⟨g,0,none⟩) m.length d) m
theorem LA.below {T:List (List Dm)} {B:Nat} {w w':World} {v:Value} {o:Option (List Dm)} (h:LA T B w v o) (hb:Below w.heap.size w w'):LA T B w' v o:=by
 rcases h with h|⟨m,g,d,h1,h2,h3,h4⟩
 . exact .inl h
 . exact .inr ⟨m,g,d,h1,h2,h3,h4.below hb⟩
theorem GL {l t:List Dm} {d:Dm} {o:Option (List Dm)} (h:t.contains d=true):kK l d o t=o:=by unfold kK;rw[if_pos h]
theorem Cn {l t:List Dm} {d:Dm} (h:t.contains d=false):kK l d none t=some t:=by unfold kK;rw[if_neg (by rw[h];decide)]
theorem GM {l t m:List Dm} {d:Dm} (h:t.contains d=false) (hl:chg l t<chg l m):kK l d (some m) t=some t:=by unfold kK;rw[if_neg (by rw[h];decide)];simp only;rw[if_pos hl]
theorem GN {l t m:List Dm} {d:Dm} (h:t.contains d=false) (hl:¬chg l t<chg l m):kK l d (some m) t=some m:=by unfold kK;rw[if_neg (by rw[h];decide)];simp only;rw[if_neg hl]
theorem JH {B:Nat} (u v:Value) (T:List (List Dm)) (l:List Dm) (x y:Int) (s:Bool) (w:World) (h:dY 27 99 3 aV B w u T) (h':Rd 3 aQ w v l) (hl:l.length<=1000) (hT:T.length<=300) (hne:∀t∈T,t≠[]):
 Calls prog 148 #[u,v,.agg #[.int .i64 x,.int .i64 y,.bool s]] w (fun e w'=>∃bv,e= .returned bv/\LA T B w' bv (gZ T l (x,y,s))/\Below w.heap.size w w'):=by
 obtain⟨A,c,rfl,hc,hm⟩:=h.form;obtain⟨Al,cl,rfl,_,_⟩:=h'.form;have B0:=(Below.refl w.heap.size w).al (.cells #[.int .i64 x,.int .i64 y,.bool s] 99);have bX:=Blk.aX w 99 #[.int .i64 x,.int .i64 y,.bool s];obtain⟨W,hW⟩:=Ti (w.alloc (.cells #[.int .i64 x,.int .i64 y,.bool s] 99));rw[<-hW]at B0 bX;have HW:=Tk hW;have bD:=Tk hne;clear hne hc hm;have hnil:=fun(w:World) (a:Option Addr) (n c:Nat)=>Lib.run_eql_slice_nil (P:=prog) w 27 99 a n c 0 0 Tryz.underlying27
 go_enter Tryz.func148,Tryz.ntmps148
 go_wp2;rw[<-hW];clear hW;go_loopw [7,12] (fun s7 s12 wr=>∃(k:Nat),k<=T.length/\s12= .int .i64 k/\LA T B wr s7 (lW T l (x,y,s) k)/\Below W.heap.size W wr) (fun _ i _=>T.length-(intOf i).toNat)
 case atStart=>exact⟨0,Tn _,rfl,.inl ⟨rfl,rfl⟩,Below.refl _ _⟩
 case round=>
  obtain⟨k,hk,rfl,bA,a6⟩:=hrel;have B1:=B0.tr a6;have bE:=bX.bl a6;by_cases hlt:k<T.length
  . obtain⟨g,D,d,rfl,hg1,hg2,c1,tk⟩:=(h.below B1).pick hlt;have bK:(k:Int)<(T.length:Int):=(by omega);have hst:=Cc (list:=l) (d:=(x,y,s)) hlt;have bB:T[k]∈T:=Tm hlt;obtain⟨t,ht⟩:=Ti (T[k]);rw[<-ht]at c1 tk hst bB;have HST:=Tk hst;have bC:=Tk bB
    obtain⟨_,gt,hD,_⟩:∃z g',D=some ⟨g',0,none⟩/\z=0:=by
     obtain⟨g',e,_,_⟩:=tk.split (k:=0) (List.length_pos_iff.2 (bD.out t bB));exact⟨0,g',e,rfl⟩
    subst hD;clear ht hst bB;obtain⟨bL,bM,bN⟩:=bE.n3;rcases a7:t.contains (x,y,s)with _|_
    . have cH : ∀ W : World, Rd 3 aQ W (.slice (some ⟨gt, 0, none⟩) t.length d) t -> Calls prog 201 #[.slice (some ⟨gt, 0, none⟩) t.length d, .agg #[.int .i64 x, .int .i64 y, .bool s]] W (Ret (.bool false) W) := fun W hW => by rw [<- a7]; exact iL _ t x y s W hW
      have HC:=Tk cH;clear cH;rcases bA with⟨hb0,rfl⟩|⟨m,gm,dm,hb0,bF,rfl,om⟩
      . have HN : Hid (lW T l (x, y, s) (k + 1) = some t) := Tk (by rw [HST.out, hb0]; exact Cn a7);clear hb0 a7;go_wp2_with fail
        refine(HC.out _ (tk.rd aC (by decide))).mono ?_;rintro e w2 ⟨rfl,hb2⟩;go_wp2;go_roundw
        case rel=>exact⟨k+1,by omega,by go_num,.inr ⟨t,gt,d,HN.out,bC.out,rfl,tk.below hb2⟩,a6.tr hb2⟩
        case measure=>simp[intOf];omega
      . have bO : (chg l t : Int) <= 1000 := by have := Ja l t; omega
        go_wp2_with fail
        refine(HC.out _ (tk.rd aC (by decide))).mono ?_;rintro e w2 ⟨rfl,hb2⟩;have B2:=B1.tr hb2;go_wp2_with fail
        refine(Fu _ _ l t _ (h'.Tj B2) ((tk.below hb2).rd aC (by decide)) hl).mono ?_;rintro e w3 ⟨rfl,hb3⟩;have B3:=B2.tr hb3;go_wp2_with fail
        refine(Fu _ _ l m _ (h'.Tj B3) (((om.below hb2).below hb3).rd aC (by decide)) hl).mono ?_;rintro e w4 ⟨rfl,hb4⟩;have b4:=(a6.tr hb2).tr hb3|>.tr hb4;by_cases a8:chg l t<chg l m
        . have bJ : (chg l t : Int) < (chg l m : Int) := by omega
          have HN:Hid (lW T l (x,y,s) (k+1)=some t):=Tk (by rw[HST.out,hb0];exact GM a7 a8);clear hb0 a7;go_wp2;go_roundw
          case rel=>exact⟨k+1,by omega,by go_num,.inr ⟨t,gt,d,HN.out,bC.out,rfl,((tk.below hb2).below hb3).below hb4⟩,b4⟩
          case measure=>simp[intOf];omega
        . have bJ : ¬ ((chg l t : Int) < (chg l m : Int)) := by omega
          have HN:Hid (lW T l (x,y,s) (k+1)=some m):=Tk (by rw[HST.out,hb0];exact GN a7 a8);clear hb0 a7;go_wp2;go_roundw
          case rel=>exact⟨k+1,by omega,by go_num,.inr ⟨m,gm,dm,HN.out,bF,rfl,((om.below hb2).below hb3).below hb4⟩,b4⟩
          case measure=>simp[intOf];omega
    . have cH : ∀ W : World, Rd 3 aQ W (.slice (some ⟨gt, 0, none⟩) t.length d) t -> Calls prog 201 #[.slice (some ⟨gt, 0, none⟩) t.length d, .agg #[.int .i64 x, .int .i64 y, .bool s]] W (Ret (.bool true) W) := fun W hW => by rw [<- a7]; exact iL _ t x y s W hW
      have HC:=Tk cH;clear cH;have HN:Hid (lW T l (x,y,s) (k+1)=lW T l (x,y,s) k):=Tk (by rw[HST.out];exact GL a7);clear a7;go_wp2_with fail
      refine(HC.out _ (tk.rd aC (by decide))).mono ?_;rintro e w2 ⟨rfl,hb2⟩;go_wp2;go_roundw
      case rel=>exact⟨k+1,by omega,by go_num,by rw[HN.out];exact bA.below hb2,a6.tr hb2⟩
      case measure=>simp[intOf];omega
  . obtain rfl : k = T.length := by omega
    rw[Er]at bA;go_wp2;go_ret;exact⟨_,rfl,bA,B1⟩
def RZ (T:List (List Dm)) (o:Option (List Dm)) (q:Int):Prop:=(o=none/\q= -1)∨∃(j:Nat) (h:j<T.length),o=some T[j]/\q=(j:Int)
theorem Oc {B:Nat} (u v:Value) (T:List (List Dm)) (l:List Dm) (x y:Int) (s:Bool) (w:World) (h:dY 27 99 3 aV B w u T) (h':Rd 3 aQ w v l) (hl:l.length<=1000) (hT:T.length<=300):
 Calls prog 182 #[u,v,.agg #[.int .i64 x,.int .i64 y,.bool s]] w (fun e w'=>∃q,e= .returned (.int .i64 q)/\RZ T (gZ T l (x,y,s)) q/\Below w.heap.size w w'):=by
 obtain⟨A,c,rfl,hc,hm⟩:=h.form;obtain⟨Al,cl,rfl,_,_⟩:=h'.form;have B0:=(Below.refl w.heap.size w).al (.cells #[.int .i64 x,.int .i64 y,.bool s] 99);have bX:=Blk.aX w 99 #[.int .i64 x,.int .i64 y,.bool s];obtain⟨W,hW⟩:=Ti (w.alloc (.cells #[.int .i64 x,.int .i64 y,.bool s] 99));rw[<-hW]at B0 bX;have HW:=Tk hW;clear hc hm;go_enter Tryz.func182,Tryz.ntmps182
 go_wp2;rw[<-hW];clear hW;go_loopw [7,8,9] (fun s7 s8 s9 wr=>∃(k:Nat) (q n:Int),k<=T.length/\s9= .int .i64 k/\s7= .int .i64 q/\s8= .int .i64 n/\RZ T (lW T l (x,y,s) k) q/\(∀m,lW T l (x,y,s) k=some m->n=(chg l m:Nat))/\Below W.heap.size W wr) (fun _ _ i _=>T.length-(intOf i).toNat)
 case atStart=>exact⟨0,-1,0,Tn _,rfl,rfl,rfl,.inl ⟨rfl,rfl⟩,(fun m h=>by cases h),Below.refl _ _⟩
 case round=>
  obtain⟨k,q,n,hk,rfl,rfl,rfl,bC,a8,a6⟩:=hrel;have B1:=B0.tr a6;have bJ:=bX.bl a6;by_cases hlt:k<T.length
  . obtain⟨g,D,d,rfl,hg1,hg2,c1,oT⟩:=(h.below B1).pick hlt;have bO:(k:Int)<(T.length:Int):=(by omega);have hst:=Cc (list:=l) (d:=(x,y,s)) hlt;obtain⟨t,ht⟩:=Ti (T[k]);rw[<-ht]at c1 oT hst;have HST:=Tk hst;have HT:=Tk ht;clear ht hst;have bP:(chg l t:Int)<=1000:=by have:=Ja l t;omega
    obtain⟨bR,bS,bU⟩:=bJ.n3;have bY:w.heap.size<wr.heap.size:=by have:=bJ.lt;omega
    rcases a7:t.contains (x,y,s)with _|_
    . have bD:=Tk a7;clear a7;have Bw:Below wr.heap.size wr wr.drew:=(Below.refl _ _).drew;have hz:wr.heap.size<=wr.drew.heap.size:=(by simp);go_wp2_with fail
      refine rB (fun w'=>w'.cell? ⟨g,k,none⟩=some (.slice D t.length d)/\w'.cell? ⟨w.heap.size,0,none⟩=some (.int .i64 x)/\w'.cell? ⟨w.heap.size,1,none⟩=some (.int .i64 y)/\w'.cell? ⟨w.heap.size,2,none⟩=some (.bool s)) fun hHeld=>(tW 0)<|(tW 1)<|(tW 2)<|(tW 3)<|(tW 4)<|(tR [5])<|tL fun K hK=>?_
      go_simp
      (go_at_call 185;go_must (refine(yB _ t x y s _ ((oT.below Bw).rd aC (by decide)) bD.out).mono ?_;rintro e wX ⟨rfl,bA⟩;obtain⟨bL,bM,bF⟩:=bkn bA wr.heap.size hz;have hz:=bF;have Bw:=Bw.tr bA);(try go_wp2_with fail))
      refine tK hK fun hHeld=>?_
      clear hK K;refine(tW 6)<|tD ?_
      all_goals
        have B2:=B1.tr Bw;have c2:=(Bw.cell (p:=⟨g,k,none⟩) hg2).trans c1;go_wp2_with fail
        refine(KG _ _ l t _ (h'.Tj B2) ((oT.below Bw).rd aC (by decide)) hl).mono ?_;rintro e w3 ⟨rfl,hb3⟩;have Bk:=(a6.tr Bw).tr hb3;rcases bC with⟨hb0,rfl⟩|⟨j,hj,hb0,rfl⟩
        . have HN : Hid (lW T l (x, y, s) (k + 1) = some T[k]) := Tk (by rw [HST.out, hb0, <- HT.out]; exact Cn bD.out);clear hb0 a8;go_wp2;go_roundw
          case rel=>exact⟨k+1,k,_,by omega,by go_num,rfl,rfl,.inr ⟨k,hlt,HN.out,rfl⟩,fun m hm=>by rw[HN.out,<-HT.out]at hm;injection hm with hm;rw[hm],Bk⟩
          case measure=>simp[intOf];omega
        . have b5 : (j : Int) <= 300 := by omega
          obtain⟨m,hm⟩:=Ti (T[j]);rw[<-hm]at hb0;have hn:=a8 m hb0;have b6:n<=1000/\0<=n:=by have:=Ja l m;omega
          by_cases bB:chg l t<chg l m
          . have bN : (chg l t : Int) < n := by omega
            have HN:Hid (lW T l (x,y,s) (k+1)=some T[k]):=Tk (by rw[HST.out,hb0,<-HT.out];exact GM bD.out bB);clear hb0 a8 hn hm;go_wp2;go_roundw
            case rel=>exact⟨k+1,k,_,by omega,by go_num,rfl,rfl,.inr ⟨k,hlt,HN.out,rfl⟩,fun m hm=>by rw[HN.out,<-HT.out]at hm;injection hm with hm;rw[hm],Bk⟩
            case measure=>simp[intOf];omega
          . have bN : ¬ ((chg l t : Int) < n) := by omega
            have HN:Hid (lW T l (x,y,s) (k+1)=some m):=Tk (by rw[HST.out,hb0];exact GN bD.out bB);have HM:=Tk hm;have Hn:=Tk hn;clear hb0 a8 hn hm;go_wp2;go_roundw
            case rel=>exact⟨k+1,j,n,by omega,by go_num,rfl,rfl,.inr ⟨j,hj,by rw[HN.out,HM.out],rfl⟩,fun m' bE=>by rw[HN.out]at bE;injection bE with bE;rw[<-bE];exact Hn.out,Bk⟩
            case measure=>simp[intOf];omega
    . have HN : Hid (lW T l (x, y, s) (k + 1) = lW T l (x, y, s) k) := Tk (by rw [HST.out]; exact GL a7);obtain⟨r,bK,-⟩:=rH _ t x y s _ (oT.rd aC (by decide)) a7;have Hr:Hid (∀W:World,Rd 3 aQ W (.slice D t.length d) t->Calls prog 185 #[.slice D t.length d,.agg #[.int .i64 x,.int .i64 y,.bool s]] W (fun e w'=>∃r:Int,0<=r/\e= .returned (.int .i64 r)/\Below W.heap.size W w')):=Tk (fun W hW=>by obtain⟨r,h0,hc⟩:=rH _ t x y s W hW a7;exact hc.mono (fun e w' hh=>⟨r,h0,hh⟩));clear a7 bK;have Bw:Below wr.heap.size wr wr.drew:=(Below.refl _ _).drew;have hz:wr.heap.size<=wr.drew.heap.size:=(by simp);go_wp2_with fail
      refine rB (fun w'=>w'.cell? ⟨g,k,none⟩=some (.slice D t.length d)/\w'.cell? ⟨w.heap.size,0,none⟩=some (.int .i64 x)/\w'.cell? ⟨w.heap.size,1,none⟩=some (.int .i64 y)/\w'.cell? ⟨w.heap.size,2,none⟩=some (.bool s)) fun hHeld=>(tW 0)<|(tW 1)<|(tW 2)<|(tW 3)<|(tW 4)<|(tR [5])<|tL fun K hK=>?_
      go_simp
      (go_at_call 185;go_must (refine(Hr.out _ ((oT.below Bw).rd aC (by decide))).mono ?_;rintro e wX ⟨r,bK,rfl,bA⟩;obtain⟨bL,bM,bF⟩:=bkn bA wr.heap.size hz;have hz:=bF;have Bw:=Bw.tr bA);(try go_wp2_with fail))
      refine tK hK fun hHeld=>?_
      clear hK K;refine(tW 6)<|tD ?_
      all_goals
        have Bk:=a6.tr Bw;go_wp2;go_roundw
        case rel=>exact⟨k+1,q,n,by omega,by go_num,rfl,rfl,by rw[HN.out];exact bC,by rw[HN.out];exact a8,Bk⟩
        case measure=>simp[intOf];omega
  . obtain rfl : k = T.length := by omega
    rw[Er]at bC;go_wp2;go_ret;exact⟨_,rfl,bC,B1⟩
theorem MZ {rows:List Int} {l:List Dm} {d:Dm} (h:¬l∈aH rows):Ce rows l d=[]/\AY rows l d=false:=by
 unfold Ce AY;rw[if_neg h,decide_eq_false h];exact⟨rfl,rfl⟩
theorem KH {rows:List Int} {l:List Dm} {d:Dm} (h:l∈aH rows) (e:gZ (aH rows) l d=none):Ce rows l d=[]/\AY rows l d=false:=by
 unfold Ce AY;rw[if_pos h,decide_eq_true h,e];exact⟨rfl,rfl⟩
theorem Fv {rows:List Int} {l m:List Dm} {d:Dm} (h:l∈aH rows) (e:gZ (aH rows) l d=some m):Ce rows l d=m/\AY rows l d=true:=by
 unfold Ce AY;rw[if_pos h,decide_eq_true h,e];exact⟨rfl,rfl⟩
theorem IE {rows:List Int} {l:List Dm} {d:Dm} (h:AY rows l d=true):l∈aH rows/\Ce rows l d∈aH rows:=by
 unfold AY at h;rw[Tp,decide_eq_true_iff,Option.isSome_iff_exists]at h;obtain⟨h1,m,h2⟩:=h;rw[(Fv h1 h2).1];rcases Kl _ _ _ h2 with h3|h3
 . cases h3
 . exact⟨h1,h3⟩
theorem PQ (v u:Value) (rows:List Int) (l:List Dm) (x y:Int) (s:Bool) (w:World) (h:Rd 1 aZ w v rows) (h':Rd 3 aQ w u l):Calls prog 129 #[.agg #[v],u,.agg #[.int .i64 x,.int .i64 y,.bool s]] w (fZ 99 3 aV (Ce rows l (x,y,s)) (AY rows l (x,y,s)) w):=by
 obtain⟨Al,cl,rfl,_,_⟩:=h'.form;have B0:=((Below.refl w.heap.size w).al (.cells #[v] 26)).al (.cells #[.int .i64 x,.int .i64 y,.bool s] 99);have bR:=(Blk.aX w 26 #[v]).alloc (.cells #[.int .i64 x,.int .i64 y,.bool s] 99);have bX:=Blk.gI (w.alloc (.cells #[v] 26)) 99 #[.int .i64 x,.int .i64 y,.bool s] (w.heap.size+1) (by simp);have hsm:=Ar rows;have a6:= @MZ rows l (x,y,s);have hnone:= @KH rows l (x,y,s);have hsome:=fun m=> @Fv rows l m (x,y,s)
 obtain⟨T,hT⟩:=Ti (aH rows);have cL:∀(W:World),Rd 1 aZ W v rows->Calls prog 181 #[.agg #[v]] W (Em T W):=fun W hW=>by rw[hT];exact uW v rows W hW
 have cI:∀(u:Value) (m:List Dm) (W:World),Rd 1 aZ W v rows->Rd 3 aQ W u m->Calls prog 180 #[.agg #[v],u] W (Ret (.int .i64 (oZ T m)) W):=fun u m W h1 h2=>by rw[hT];exact EB v u rows m W h1 h2
 have bD:∀m:List Dm,m∈aH rows->m.length<=1000:=fun m hm=>by have:=kN hm;omega
 rw[<-hT]at hsm a6 hnone hsome bD;have bE:=Tk cL;have bF:=Tk cI;have bJ:=Tk a6;have bK:=Tk hnone;have bL:=Tk hsome;clear hT cL cI a6 hnone hsome;go_enter Tryz.func129,Tryz.ntmps129
 have z0:=bR.c1;obtain⟨a8,bA,bB⟩:=bX.n3;go_wp2_with fail
 refine(bF.out _ l _ (h.Tj B0) (h'.Tj B0)).mono ?_;rintro e w1 ⟨rfl,hb1⟩;have B1:=B0.tr hb1;have bM:=bR.bl hb1;have bN:=bX.bl hb1;clear z0 a8 bA bB;by_cases hm:l∈T
 . have bO:=bD l hm;rw[pJ hm];obtain⟨bP,bC⟩:=oV hm;obtain⟨i,hi⟩:=Ti (ix T l);rw[<-hi]at bP⊢;clear hi bC;have Hm:=Tk hm;clear hm;have z0:=bM.c1;go_wp2_with fail
   refine(bE.out _ (h.Tj B1)).mono ?_;rintro e w2 ⟨A,c,rfl,oT,hb2⟩;have B2:=B1.tr hb2;clear z0;have bS:=bN.bl hb2;obtain⟨a8,bA,bB⟩:=bS.n3;go_wp2_with fail
   refine(Oc _ _ T l x y s _ oT (h'.Tj B2) bO hsm).mono ?_;rintro e w3 ⟨q,rfl,hq,hb3⟩;have B3:=B2.tr hb3;clear a8 bA bB;rcases hq with⟨e0,rfl⟩|⟨j,hj,e0,rfl⟩
   . obtain⟨r1,r2⟩:=bK.out Hm.out e0;clear e0;go_wp2;go_ret2
     rw[r1,r2];exact⟨_,_,rfl,eG w3 (E:=99) (size:=3) (enc:=aV) w3.heap.size (by simp) w.heap.size (by have:=B3.size;simpa using this),B3.al _⟩
   . obtain⟨g,D,d,rfl,hg1,hg2,c1,a7⟩:=(oT.below hb3).pick hj;obtain⟨r1,r2⟩:=bL.out _ Hm.out e0;clear e0;obtain⟨t,ht⟩:=Ti (T[j]);rw[<-ht]at c1 a7 r1;clear ht;have bU:(j:Int)<(T.length:Int):=(by omega);go_wp2;go_ret2
     rw[r1,r2];exact⟨_,_,rfl,a7.mono B1.size,B3⟩
 . rw[uI hm];obtain⟨r1,r2⟩:=bJ.out hm;clear hm;go_wp2;go_ret2
   rw[r1,r2];exact⟨_,_,rfl,eG w1 (E:=99) (size:=3) (enc:=aV) w1.heap.size (by simp) w.heap.size (by have:=B1.size;simpa using this),B1.al _⟩
theorem KI (v u:Value) (rows:List Int) (l:List Dm) (x y:Int) (s:Bool) (w:World) (h:Rd 1 aZ w v rows) (h':Rd 3 aQ w u l) (hne:l≠[]):Calls prog 95 #[.agg #[v],u,.agg #[.int .i64 x,.int .i64 y,.bool s]] w (fZ 99 3 aV (Ce rows l (x,y,s)) (AY rows l (x,y,s)) w):=by
 obtain⟨Al,cl,rfl,_,_⟩:=h'.form;have B0:=((Below.refl w.heap.size w).al (.cells #[v] 26)).al (.cells #[.int .i64 x,.int .i64 y,.bool s] 99);have bR:=(Blk.aX w 26 #[v]).alloc (.cells #[.int .i64 x,.int .i64 y,.bool s] 99);have bX:=Blk.gI (w.alloc (.cells #[v] 26)) 99 #[.int .i64 x,.int .i64 y,.bool s] (w.heap.size+1) (by simp);have hsm:=Ar rows;have a6:= @MZ rows l (x,y,s);have hnone:= @KH rows l (x,y,s);have hsome:=fun m=> @Fv rows l m (x,y,s)
 have hall:l∈aH rows->∀t∈aH rows,t≠[]:=fun h1 t h2=>Ru h1 h2 hne
 obtain⟨T,hT⟩:=Ti (aH rows);have cL:∀(W:World),Rd 1 aZ W v rows->Calls prog 146 #[.agg #[v]] W (Em T W):=fun W hW=>by rw[hT];exact GK v rows W hW
 have bD:∀m:List Dm,m∈aH rows->m.length<=1000:=fun m hm=>by have:=kN hm;omega
 rw[<-hT]at hsm a6 hnone hsome bD hall;have bE:=Tk cL;have bF:=Tk a6;have bJ:=Tk hnone;have bK:=Tk hsome;have a7:=Tk hall;clear hT cL a6 hnone hsome hall hne;have hnil:=fun(w:World) (a:Option Addr) (n c:Nat)=>run_neq_slice_nil_any (P:=prog) w 27 99 a n c 0 0 Tryz.underlying27
 go_enter Tryz.func95,Tryz.ntmps95
 have z0:=bR.c1;obtain⟨a8,bA,bB⟩:=bX.n3;go_wp2_with fail
 refine(bE.out _ (h.Tj B0)).mono ?_;rintro e w1 ⟨A,c,rfl,oT,hb1⟩;have B1:=B0.tr hb1;have bL:=bX.bl hb1;clear z0 a8 bA bB;go_wp2_with fail
 refine(vJ _ _ T l _ oT (h'.Tj B1)).mono ?_;rintro e w2 ⟨rfl,hb2⟩;have B2:=B1.tr hb2;have bM:=oT.below hb2;have bN:=bL.bl hb2;by_cases hm:l∈T
 . have bO:=bD l hm;rw[pJ hm];obtain⟨bP,bC⟩:=oV hm;obtain⟨i,hi⟩:=Ti (ix T l);rw[<-hi]at bP⊢;clear hi bC;have Hm:=Tk hm;clear hm;obtain⟨a8,bA,bB⟩:=bN.n3;go_wp2_with fail
   refine(JH _ _ T l x y s _ bM (h'.Tj B2) bO hsm (a7.out Hm.out)).mono ?_;rintro e w3 ⟨bv,rfl,hq,hb3⟩;have B3:=B2.tr hb3;clear a8 bA bB;rcases hq with⟨e0,rfl⟩|⟨m,g,d,e0,bS,rfl,om⟩
   . obtain⟨r1,r2⟩:=bJ.out Hm.out e0;clear e0;go_wp2;go_ret2
     rw[r1,r2];exact⟨_,_,rfl,aD.Di,B3⟩
   . obtain⟨r1,r2⟩:=bK.out _ Hm.out e0;clear e0;go_wp2;go_ret2
     rw[r1,r2];exact⟨_,_,rfl,om.mono B0.size,B3⟩
 . rw[uI hm];obtain⟨r1,r2⟩:=bF.out hm;clear hm;go_wp2;go_ret2
   rw[r1,r2];exact⟨_,_,rfl,aD.Di,B2⟩
def LB (rows:List Int) (l:List Dm) (d:Dm):Int:=if AY rows l d=true then((chg l (Ce rows l d):Nat):Int)else-1
theorem JI (v u:Value) (rows:List Int) (l:List Dm) (x y:Int) (s:Bool) (w:World) (h:Rd 1 aZ w v rows) (h':Rd 3 aQ w u l) (hne:l≠[]):Calls prog 97 #[.agg #[v],u,.agg #[.int .i64 x,.int .i64 y,.bool s]] w (Ret (.int .i64 (LB rows l (x,y,s))) w):=by
 obtain⟨Al,cl,rfl,_,_⟩:=h'.form;have B0:=((Below.refl w.heap.size w).al (.cells #[v] 26)).al (.cells #[.int .i64 x,.int .i64 y,.bool s] 99);have bR:=(Blk.aX w 26 #[v]).alloc (.cells #[.int .i64 x,.int .i64 y,.bool s] 99);have bX:=Blk.gI (w.alloc (.cells #[v] 26)) 99 #[.int .i64 x,.int .i64 y,.bool s] (w.heap.size+1) (by simp);have a6:AY rows l (x,y,s)=true->l.length<=1000:=fun hb=>by have:=kN (IE hb).1;omega
 have cR:=fun(W:World) (h1:Rd 1 aZ W v rows) (h2:Rd 3 aQ W (.slice Al l.length cl) l)=>KI v _ rows l x y s W h1 h2 hne
 have hN:LB rows l (x,y,s)=if AY rows l (x,y,s)=true then((chg l (Ce rows l (x,y,s)):Nat):Int)else-1:=rfl
 obtain⟨b,hb⟩:=Ti (AY rows l (x,y,s));obtain⟨m,hm⟩:=Ti (Ce rows l (x,y,s));obtain⟨N,a7⟩:=Ti (LB rows l (x,y,s));rw[<-a7]at hN⊢;rw[<-hb,<-hm]at hN;rw[<-hb]at a6;simp only[<-hb,<-hm]at cR;have HR:=Tk cR;have HN:=Tk hN;clear cR hN hb hm hne a7;go_enter Tryz.func97,Tryz.ntmps97
 have z0:=bR.c1;obtain⟨a8,bA,bB⟩:=bX.n3;go_wp2_with fail
 refine(HR.out _ (h.Tj B0) (h'.Tj B0)).mono ?_;rintro e w1 ⟨A,c,rfl,om,hb1⟩;have B1:=B0.tr hb1;clear z0 a8 bA bB;cases b
 . go_wp2;go_ret;exact⟨by rw[HN.out];rfl,B1⟩
 . have bC:=a6 rfl;go_wp2_with fail
   refine(Fu _ _ l m _ (h'.Tj B1) (om.rd aC (by decide)) bC).mono ?_;rintro e w2 ⟨rfl,hb2⟩;go_wp2;go_ret;exact⟨by rw[HN.out];rfl,B1.tr hb2⟩
end Go.Proofs.YtjijonhkofhikaaGreatDoor
