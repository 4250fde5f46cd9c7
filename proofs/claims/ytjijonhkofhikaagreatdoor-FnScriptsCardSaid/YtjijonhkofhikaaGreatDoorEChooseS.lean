import Derived.Test.YtjijonhkofhikaaGreatDoorEG26
open _root_.Nat renaming one_pos->TZ,mul_one->T9,add_zero->Ua
open _root_.Bool renaming and_eq_true->Ub
open _root_.Int renaming toNat_zero->Uc
open _root_.Option renaming getD_some->Ud
set_option linter.unusedVariables false
set_option maxHeartbeats 4000000
set_option maxRecDepth 100000
namespace Go.Proofs.YtjijonhkofhikaaGreatDoor
open Go.ChangeShapes Go.WideShapes Go.ChangeAt Go.RowKit
theorem uH {n:Nat} {b:Int×Int} {left:Int} {k:Nat}:fits [] n b left k=(decide (nd n (k*b.1)=0)&&decide (left-k*b.2=0)):=by
 unfold fits;rcases hz:nd n (k*b.1)with _|m
 . rw[rC];simp;omega
 . rw[Ms];simp
theorem H7 {r:List (Int×Int)} (hr:vW r) (hne:r≠[]) {n:Nat} {b:Int×Int} {left:Int} {k:Nat}:fits r n b left k=decide (lp r (nd n (k*b.1))=left-k*b.2):=by
 unfold fits;have:=mE hr hne (nd n (k*b.1));rw[Bool.eq_iff_iff];simp;omega
theorem vJ (v:Value) (l:List (Int×Int)) (i:Int) (w:World) (h:Rd 2 cO w v l) (a6:Hid (∀x∈l,fM x)) (h0:0<=i) (h5:i<=500) (a7:l.length<=1048576):
 Calls Tryz.prog 179 #[v,.int .i64 i] w (iH 3 1 bH (least l i.toNat) w):=by
 obtain⟨n,rfl⟩:=Int.eq_ofNat_of_zero_le h0;rw[Int.toNat_natCast];exact DU v l n w h a6 (by omega) a7
theorem JV (v:Value) (l:List (Int×Int)) (n:Nat) (w:World) (h:Rd 2 cO w v l) (cT:dF l l.length=true) (hn:n<=500):
 Calls Tryz.prog 128 #[v,.int .i64 n] w (iH 3 1 bH (choose l n (lp l n)) w):=by
 obtain⟨A,c,rfl,hc,hm⟩:=h.form;obtain⟨hall,h1,h5⟩:=kD _ _ cT;have fY:l.length<=5:=(by omega);have hF:vW l:=hall;have hne:l≠[]:=by rintro rfl;simp at h1
 have hcc:=mP cT hn;have bY:cheapest l n=lp l n:=by rw[hcc];unfold lp;rw[List.getD_eq_getElem?_getD,List.getElem?_eq_getElem (by rw[fG];omega)];rfl
 have e5:=mE hF hne n;obtain⟨L,hL⟩:=TV (lp l n);rw[<-hL]at e5 bY⊢;have HL:=TY hL;have HF:=TY hF;have e9:=TY bY;have gA:=TY hne;clear hL hF bY hcc hne hall cT;go_enter Tryz.func128,Tryz.ntmps128
 go_wp2_with fail
 refine(yI _ l n _ h).mono ?_;rintro e w1 ⟨rfl,hb1⟩;rw[e9.out];go_wp2;go_loopw [5,6,7,8] (fun s5 s6 s7 s8 wr=>∃(k m:Nat) (out:List Int) (A':Option Addr) (c':Nat),k<=l.length/\m<=500/\s8= .int .i64 k/\s7= .int .i64 m/\s5= .int .i64 (lp (l.drop k) m)/\s6= .slice A' k c'/\Hid (out.length=k/\out++choose (l.drop k) m (lp (l.drop k) m)=choose l n L/\0<=lp (l.drop k) m)/\aD 3 1 bH w.heap.size wr (.slice A' k c') out/\Below w.heap.size w wr) (fun _ _ _ i _=>l.length-(intOf i).toNat)
 case atStart=>exact⟨0,n,[],some ⟨w1.heap.size,0,none⟩,0,Nat.zero_le _,hn,rfl,rfl,(by rw[HL.out];rfl),rfl,TY ⟨rfl,by rw[HL.out];rfl,by have:=HL.out;show 0<=lp l n;omega⟩,World.ownsRow_lit w1 #[] 0 hb1.size (by simp[maxLen]) rfl,hb1.al _⟩
 case round=>
  obtain⟨k,m,out,A',c',hk,gB,rfl,rfl,rfl,rfl,Hg,hown,bW⟩:=hrel;clear hb1;by_cases hlt:k<l.length
  . obtain⟨b,off,rfl,hb,q1,q2⟩:=(h.TW bW).fQ hlt;have eK:=h.TW bW;obtain⟨s,hs⟩:=TV (l[k].1);obtain⟨p,hp⟩:=TV (l[k].2);obtain⟨r,hr⟩:=TV (l.drop (k+1));have eL:r.length=l.length-(k+1):=by rw[hr];simp
    have hd:l.drop k=(s,p)::r:=(by rw[List.drop_eq_getElem_cons hlt,hs,hp,hr]);have cI:vW ((s,p)::r):=by rw[<-hd];exact fun x hx=>HF.out x (List.mem_of_mem_drop hx)
    have F:=cI (s,p) List.mem_cons_self;unfold fM at F;obtain⟨f1,f2,f3,f4⟩:=F;simp only at f1 f2 f3 f4;rw[hd]at Hg⊢;obtain⟨lf,cQ⟩:=TV (lp ((s,p)::r) m);have cU:=FJ cI m;obtain⟨K,hK⟩:=TV (kOf r m (s,p) lf);have eM:=FI cI m;rw[<-cQ,<-hK]at eM;obtain⟨gC,eN,hKn⟩:=eM;rw[<-cQ]at Hg cU⊢;obtain⟨g1,g2,g3⟩:=Hg.out;rw[choose]at g2;simp only[<-hK]at g2;have HG:=TY g2;have a7:=TY g1;rw[<-hs]at q1;rw[<-hp]at q2;have Hs:=TY hs;have Hp:=TY hp;have Hr:=TY hr;have Hd:=TY hd;have cH:=TY cI;have gD:=TY cQ;have HK:=TY hK;have eP:=TY eN;have eR:=TY hKn;have fD:=TY eK;have cV:=TY eL;clear hs hp hr hd cI cQ hK eN hKn g1 g2 eL eK Hg;have cR:r.length<=1048576:=by have:=cV.out;omega
    have HJ:Hid ((k:Int)+1=((k+1:Nat):Int)):=TY (by omega);have fL:Hid (k+1<=l.length):=TY hlt;go_wp2_with ((with_reducible refine mQ Mi fD.out (k+1) fL.out HJ.out rfl _ _ rfl rfl rfl ?_);intro A5 c5 cW;rw[<-Hr.out,<-cV.out]at cW;rw[<-cV.out])
    obtain⟨wo,rfl⟩:∃wo:World,wo=wr:=⟨_,rfl⟩;have cS:=TY cW;clear cW;go_loopw [10] (fun fN wi=>∃j:Nat,j<=K/\fN= .int .i64 j/\aD 3 1 bH w.heap.size wi (.slice A' k c') out/\Below w.heap.size w wi/\Below wo.heap.size wo wi) (fun i _=>K-(intOf i).toNat)
    case atStart=>exact⟨0,Nat.zero_le _,rfl,hown,bW,Below.refl _ _⟩
    case round=>
     obtain⟨j,hj,rfl,own,bJ,bA⟩:=hrel;have mj:=tZ (a:=j) (b:=p) (m:=1000) (by omega) (by omega) f3 f4;have ms:=tZ (a:=j) (b:=s) (m:=50) (by omega) (by omega) f1 f2;have eW: -9223372036854775808<=lf-(j:Int)*p/\lf-(j:Int)*p<=9223372036854775807:=(by omega);clear q1 q2 hown;obtain⟨b6,fO,e6,gF,q1,q2⟩:=(h.TW bJ).fQ hlt;injection e6 with e6;injection e6 with fR fS gK;subst fR;subst fS;rw[<-Hs.out]at q1;rw[<-Hp.out]at q2;by_cases fW:(m:Int)-(j:Int)*s<=0
     . skip;have hI:(0:Int).toNat=nd m ((j:Int)*s):=by unfold nd;omega
       have cJ:(0:Int)<=0:=(by omega);have cK:(0:Int)<=500:=(by omega);have cL:=fG r (0:Int).toNat
       have hRv : ∀ hq : (0 : Int).toNat < (least r (0 : Int).toNat).length, (least r (0 : Int).toNat)[(0 : Int).toNat] = lp r (nd m ((j : Int) * s)) := fun hq => by
        have:=AL r (0:Int).toNat (0:Int).toNat (Nat.le_refl _);rw[List.getD_eq_getElem?_getD,List.getElem?_eq_getElem (by omega),Ud]at this;rw[this,hI]
       have HI:=TY hI;have cM:=TY cL;have cN:=TY hRv;clear hI cL hRv;by_cases cX:j=K
       . subst cX;have hf:=eP.out;obtain⟨bX,hf2⟩:=xP hf;simp only at bX hf2;have bB:=TY bX;have bO:=TY hf2;rcases Classical.em (r=[])with a6|a6
         . have t1 : ((r.length : Int) == 0) = true := by rw [a6]; rfl
           have t2:((0:Int)==0)=true:=by
            rw[a6,uH]at hf;simp only[Ub,decide_eq_true_eq]at hf;have:=HI.out;first|(simp;done)|(rw[beq_iff_eq];omega)
           have t3:(lf-(j:Int)*p==0)=true:=by rw[a6,uH]at hf;simp only[Ub,decide_eq_true_eq]at hf;rw[beq_iff_eq];omega
           have b5:=TY a6;clear a6 hf bX hf2
           first
             |exact absurd t2 (by rw[beq_iff_eq];omega)
             | clear t2
               have bC:aD 3 1 bH w.heap.size wr (.slice A' k c') out:=own;have H8:Hid ((out.length+1)*8<=140737488355328):=TY (by rw[a7.out];omega);have HM:Hid (out.length+1<=maxLen):=TY (by rw[a7.out];unfold maxLen;omega);have bD:=h.TW bJ;obtain⟨b7,b9,e7,cY,y0,y1⟩:=bD.fQ hlt;injection e7 with e7;injection e7 with cA cB dL;subst cA;subst cB;rw[<-Hs.out]at y0;rw[<-Hp.out]at y1;clear bD;have cC:=TY bJ;go_wp2_with (at_builtin;go_must (refine aF (enc:=bH) fE aJ jN cC.out bC j H8.out HM.out rfl _ _ rfl rfl rfl ?_);intro v3 w3 bE hb3 hg3 dT;obtain⟨A3,c3,rfl,hc3,eA⟩:=bE.form;obtain⟨b8,cD,e8,eC,z0,z1⟩:=(h.TW hb3).fQ hlt;injection e8 with e8;injection e8 with cE cF eE;subst cE;subst cF;rw[<-Hs.out]at z0;rw[<-Hp.out]at z1)
               all_goals
                 have eI:nd m ((j:Int)*s)=((m:Int)-(j:Int)*s).toNat:=rfl
                 have cG:Hid ((out++[(j:Int)]).length=k+1/\(out++[(j:Int)])++choose (l.drop (k+1)) (nd m ((j:Int)*s)) (lp (l.drop (k+1)) (nd m ((j:Int)*s)))=choose l n L/\0<=lp (l.drop (k+1)) (nd m ((j:Int)*s))):=by
                  rw[<-Hr.out];refine TY ⟨by simp[a7.out],?_,bO.out⟩;have:=HG.out;rw[bB.out]at this;simpa using this
                 have bK:lp (l.drop (k+1)) (nd m ((j:Int)*s))=lf-j*p:=by rw[<-Hr.out,bB.out]
                 have bL:aD 3 1 bH w.heap.size w3 (.slice A3 (k+1) c3) (out++[(j:Int)]):=by
                  have e:(out++[(j:Int)]).length=k+1:=(by simp[a7.out]);rw[<-e];exact bE
                 go_roundw
                 case rel=>
                  refine⟨k+1,nd m ((j:Int)*s),out++[(j:Int)],A3,c3,by omega,by omega,by go_num,?_,by rw[bK],by rw[a7.out],cG,bL,hb3⟩
                  first
                    |(rw[show nd m ((j:Int)*s)=0 by omega];rfl)
                    |rw[show(m:Int)-(j:Int)*s=(nd m ((j:Int)*s):Nat) by omega]
                    |(rw[show(nd m ((j:Int)*s):Nat)=(if(0:Int)<(m:Int)-(j:Int)*s then(m:Int)-(j:Int)*s else 0) by split<;>omega])
                    |(rw[show(nd m ((j:Int)*s):Nat)=(if(m:Int)-(j:Int)*s<=0 then 0 else(m:Int)-(j:Int)*s) by split<;>omega])
                 case measure=>simp[intOf];omega
         . have t1 : ((r.length : Int) == 0) = false := by simpa using a6
           have t4:0<r.length:=List.length_pos_iff.2 a6;have t5:0<=lf-(j:Int)*p:=(by omega);have b5:=TY a6;clear a6 hf bX hf2;go_wp2_with fail
           refine(vJ _ r 0 _ ((cS.out).TW bA) (TY cH.out.tail) cJ cK cR).mono ?_;rintro e w9 ⟨A9,c9,rfl,a8,bN⟩;obtain⟨R,hR⟩:=TV (least r (0:Int).toNat);have bF:(0:Int).toNat<(least r (0:Int).toNat).length:=by have:=cM.out;omega
           obtain⟨q,hq⟩:=TV (lp r (nd m ((j:Int)*s)));obtain⟨g,rfl,hB,hg⟩:=a8.split bF;have hcell:=a8.slot aJ TZ bF 0 (.int .i64 q) (by rw[cN.out bF,hq];rfl);rw[T9,Ua]at hcell;try rw[Uc]at hcell
           rw[<-hR]at a8 bF⊢;have eJ:(0:Int)<R.length:=(by omega);try rw[Uc]at bF
           have Hq:=TY hq;have HR:=TY hR;clear hq hR;have t6:(q==lf-(j:Int)*p)=true:=(by rw[beq_iff_eq,Hq.out,bB.out]);have bR:=own.below bN;have cP:=bJ.tr bN;have bC:aD 3 1 bH w.heap.size w9 (.slice A' k c') out:=bR;have H8:Hid ((out.length+1)*8<=140737488355328):=TY (by rw[a7.out];omega);have HM:Hid (out.length+1<=maxLen):=TY (by rw[a7.out];unfold maxLen;omega);have bD:=h.TW cP;obtain⟨b7,b9,e7,cY,y0,y1⟩:=bD.fQ hlt;injection e7 with e7;injection e7 with cA cB dL;subst cA;subst cB;rw[<-Hs.out]at y0;rw[<-Hp.out]at y1;clear bD;have cC:=TY cP;go_wp2_with (at_builtin;go_must (refine aF (enc:=bH) fE aJ jN cC.out bC j H8.out HM.out rfl _ _ rfl rfl rfl ?_);intro v3 w3 bE hb3 hg3 dT;obtain⟨A3,c3,rfl,hc3,eA⟩:=bE.form;obtain⟨b8,cD,e8,eC,z0,z1⟩:=(h.TW hb3).fQ hlt;injection e8 with e8;injection e8 with cE cF eE;subst cE;subst cF;rw[<-Hs.out]at z0;rw[<-Hp.out]at z1)
           all_goals
             have eI:nd m ((j:Int)*s)=((m:Int)-(j:Int)*s).toNat:=rfl
             have cG:Hid ((out++[(j:Int)]).length=k+1/\(out++[(j:Int)])++choose (l.drop (k+1)) (nd m ((j:Int)*s)) (lp (l.drop (k+1)) (nd m ((j:Int)*s)))=choose l n L/\0<=lp (l.drop (k+1)) (nd m ((j:Int)*s))):=by
              rw[<-Hr.out];refine TY ⟨by simp[a7.out],?_,bO.out⟩;have:=HG.out;rw[bB.out]at this;simpa using this
             have bK:lp (l.drop (k+1)) (nd m ((j:Int)*s))=lf-j*p:=by rw[<-Hr.out,bB.out]
             have bL:aD 3 1 bH w.heap.size w3 (.slice A3 (k+1) c3) (out++[(j:Int)]):=by
              have e:(out++[(j:Int)]).length=k+1:=(by simp[a7.out]);rw[<-e];exact bE
             go_roundw
             case rel=>
              refine⟨k+1,nd m ((j:Int)*s),out++[(j:Int)],A3,c3,by omega,by omega,by go_num,?_,by rw[bK],by rw[a7.out],cG,bL,hb3⟩
              first
                |(rw[show nd m ((j:Int)*s)=0 by omega];rfl)
                |rw[show(m:Int)-(j:Int)*s=(nd m ((j:Int)*s):Nat) by omega]
                |(rw[show(nd m ((j:Int)*s):Nat)=(if(0:Int)<(m:Int)-(j:Int)*s then(m:Int)-(j:Int)*s else 0) by split<;>omega])
                |(rw[show(nd m ((j:Int)*s):Nat)=(if(m:Int)-(j:Int)*s<=0 then 0 else(m:Int)-(j:Int)*s) by split<;>omega])
             case measure=>simp[intOf];omega
       . have hf := eR.out j (by omega);rcases Classical.em (r=[])with a6|a6
         . have t1 : ((r.length : Int) == 0) = true := by rw [a6]; rfl
           have t4:decide ((0:Int)<(r.length:Int))=false:=by rw[a6];rfl
           have fX:decide (0<r.length)=false:=by rw[a6];rfl
           have bU:((0:Int)==0)=false∨(((0:Int)==0)=true/\(lf-(j:Int)*p==0)=false):=by
            rw[a6,uH]at hf;simp only[Bool.and_eq_false_iff,decide_eq_false_iff_not]at hf;have:=HI.out;rw[beq_eq_false_iff_ne,beq_iff_eq,beq_eq_false_iff_ne];omega
           have b5:=TY a6;clear a6 hf;rcases bU with t2|⟨t2,t3⟩
           . first
              |exact absurd t2 (by decide)
              | go_wp2
                go_roundw
                case rel=>exact⟨j+1,by omega,by go_num,own,bJ,bA⟩
                case measure=>simp[intOf];omega
           . first
              |exact absurd t2 (by rw[beq_iff_eq];omega)
              | clear t2
                go_wp2;go_roundw
                case rel=>exact⟨j+1,by omega,by go_num,own,bJ,bA⟩
                case measure=>simp[intOf];omega
         . have t1 : ((r.length : Int) == 0) = false := by simpa using a6
           have t4:0<r.length:=List.length_pos_iff.2 a6;rw[H7 cH.out.tail a6,decide_eq_false_iff_not]at hf;have Hf:=TY hf;have b5:=TY a6;clear a6 hf;by_cases t5:0<=lf-(j:Int)*p
           . go_wp2_with fail
             refine(vJ _ r 0 _ ((cS.out).TW bA) (TY cH.out.tail) cJ cK cR).mono ?_;rintro e w9 ⟨A9,c9,rfl,a8,bN⟩;obtain⟨R,hR⟩:=TV (least r (0:Int).toNat);have bF:(0:Int).toNat<(least r (0:Int).toNat).length:=by have:=cM.out;omega
             obtain⟨q,hq⟩:=TV (lp r (nd m ((j:Int)*s)));obtain⟨g,rfl,hB,hg⟩:=a8.split bF;have hcell:=a8.slot aJ TZ bF 0 (.int .i64 q) (by rw[cN.out bF,hq];rfl);rw[T9,Ua]at hcell;try rw[Uc]at hcell
             rw[<-hR]at a8 bF⊢;have eJ:(0:Int)<R.length:=(by omega);try rw[Uc]at bF
             have Hq:=TY hq;have HR:=TY hR;clear hq hR;have t6:(q==lf-(j:Int)*p)=false:=by rw[beq_eq_false_iff_ne,Hq.out];exact Hf.out
             go_wp2;go_roundw
             case rel=>exact⟨j+1,by omega,by go_num,own.below bN,bJ.tr bN,bA.tr bN⟩
             case measure=>simp[intOf];omega
           . go_wp2;go_roundw
             case rel=>exact⟨j+1,by omega,by go_num,own,bJ,bA⟩
             case measure=>simp[intOf];omega
     . skip;have hI:(((m:Int)-(j:Int)*s):Int).toNat=nd m ((j:Int)*s):=by unfold nd;omega
       have cJ:(0:Int)<=((m:Int)-(j:Int)*s):=(by omega);have cK:(((m:Int)-(j:Int)*s):Int)<=500:=(by omega);have cL:=fG r (((m:Int)-(j:Int)*s):Int).toNat
       have hRv : ∀ hq : (((m : Int) - (j : Int) * s) : Int).toNat < (least r (((m : Int) - (j : Int) * s) : Int).toNat).length, (least r (((m : Int) - (j : Int) * s) : Int).toNat)[(((m : Int) - (j : Int) * s) : Int).toNat] = lp r (nd m ((j : Int) * s)) := fun hq => by
        have:=AL r (((m:Int)-(j:Int)*s):Int).toNat (((m:Int)-(j:Int)*s):Int).toNat (Nat.le_refl _);rw[List.getD_eq_getElem?_getD,List.getElem?_eq_getElem (by omega),Ud]at this;rw[this,hI]
       have HI:=TY hI;have cM:=TY cL;have cN:=TY hRv;clear hI cL hRv;by_cases cX:j=K
       . subst cX;have hf:=eP.out;obtain⟨bX,hf2⟩:=xP hf;simp only at bX hf2;have bB:=TY bX;have bO:=TY hf2;rcases Classical.em (r=[])with a6|a6
         . have t1 : ((r.length : Int) == 0) = true := by rw [a6]; rfl
           have t2:((((m:Int)-(j:Int)*s):Int)==0)=true:=by
            rw[a6,uH]at hf;simp only[Ub,decide_eq_true_eq]at hf;have:=HI.out;first|(simp;done)|(rw[beq_iff_eq];omega)
           have t3:(lf-(j:Int)*p==0)=true:=by rw[a6,uH]at hf;simp only[Ub,decide_eq_true_eq]at hf;rw[beq_iff_eq];omega
           have b5:=TY a6;clear a6 hf bX hf2
           first
             |exact absurd t2 (by rw[beq_iff_eq];omega)
             | clear t2
               have bC:aD 3 1 bH w.heap.size wr (.slice A' k c') out:=own;have H8:Hid ((out.length+1)*8<=140737488355328):=TY (by rw[a7.out];omega);have HM:Hid (out.length+1<=maxLen):=TY (by rw[a7.out];unfold maxLen;omega);have bD:=h.TW bJ;obtain⟨b7,b9,e7,cY,y0,y1⟩:=bD.fQ hlt;injection e7 with e7;injection e7 with cA cB dL;subst cA;subst cB;rw[<-Hs.out]at y0;rw[<-Hp.out]at y1;clear bD;have cC:=TY bJ;go_wp2_with (at_builtin;go_must (refine aF (enc:=bH) fE aJ jN cC.out bC j H8.out HM.out rfl _ _ rfl rfl rfl ?_);intro v3 w3 bE hb3 hg3 dT;obtain⟨A3,c3,rfl,hc3,eA⟩:=bE.form;obtain⟨b8,cD,e8,eC,z0,z1⟩:=(h.TW hb3).fQ hlt;injection e8 with e8;injection e8 with cE cF eE;subst cE;subst cF;rw[<-Hs.out]at z0;rw[<-Hp.out]at z1)
               all_goals
                 have eI:nd m ((j:Int)*s)=((m:Int)-(j:Int)*s).toNat:=rfl
                 have cG:Hid ((out++[(j:Int)]).length=k+1/\(out++[(j:Int)])++choose (l.drop (k+1)) (nd m ((j:Int)*s)) (lp (l.drop (k+1)) (nd m ((j:Int)*s)))=choose l n L/\0<=lp (l.drop (k+1)) (nd m ((j:Int)*s))):=by
                  rw[<-Hr.out];refine TY ⟨by simp[a7.out],?_,bO.out⟩;have:=HG.out;rw[bB.out]at this;simpa using this
                 have bK:lp (l.drop (k+1)) (nd m ((j:Int)*s))=lf-j*p:=by rw[<-Hr.out,bB.out]
                 have bL:aD 3 1 bH w.heap.size w3 (.slice A3 (k+1) c3) (out++[(j:Int)]):=by
                  have e:(out++[(j:Int)]).length=k+1:=(by simp[a7.out]);rw[<-e];exact bE
                 go_roundw
                 case rel=>
                  refine⟨k+1,nd m ((j:Int)*s),out++[(j:Int)],A3,c3,by omega,by omega,by go_num,?_,by rw[bK],by rw[a7.out],cG,bL,hb3⟩
                  first
                    |(rw[show nd m ((j:Int)*s)=0 by omega];rfl)
                    |rw[show(m:Int)-(j:Int)*s=(nd m ((j:Int)*s):Nat) by omega]
                    |(rw[show(nd m ((j:Int)*s):Nat)=(if(0:Int)<(m:Int)-(j:Int)*s then(m:Int)-(j:Int)*s else 0) by split<;>omega])
                    |(rw[show(nd m ((j:Int)*s):Nat)=(if(m:Int)-(j:Int)*s<=0 then 0 else(m:Int)-(j:Int)*s) by split<;>omega])
                 case measure=>simp[intOf];omega
         . have t1 : ((r.length : Int) == 0) = false := by simpa using a6
           have t4:0<r.length:=List.length_pos_iff.2 a6;have t5:0<=lf-(j:Int)*p:=(by omega);have b5:=TY a6;clear a6 hf bX hf2;go_wp2_with fail
           refine(vJ _ r ((m:Int)-(j:Int)*s) _ ((cS.out).TW bA) (TY cH.out.tail) cJ cK cR).mono ?_;rintro e w9 ⟨A9,c9,rfl,a8,bN⟩;obtain⟨R,hR⟩:=TV (least r (((m:Int)-(j:Int)*s):Int).toNat);have bF:(((m:Int)-(j:Int)*s):Int).toNat<(least r (((m:Int)-(j:Int)*s):Int).toNat).length:=by have:=cM.out;omega
           obtain⟨q,hq⟩:=TV (lp r (nd m ((j:Int)*s)));obtain⟨g,rfl,hB,hg⟩:=a8.split bF;have hcell:=a8.slot aJ TZ bF 0 (.int .i64 q) (by rw[cN.out bF,hq];rfl);rw[T9,Ua]at hcell;try rw[Uc]at hcell
           rw[<-hR]at a8 bF⊢;have eJ:(((m:Int)-(j:Int)*s):Int)<R.length:=(by omega);try rw[Uc]at bF
           have Hq:=TY hq;have HR:=TY hR;clear hq hR;have t6:(q==lf-(j:Int)*p)=true:=(by rw[beq_iff_eq,Hq.out,bB.out]);have bR:=own.below bN;have cP:=bJ.tr bN;have bC:aD 3 1 bH w.heap.size w9 (.slice A' k c') out:=bR;have H8:Hid ((out.length+1)*8<=140737488355328):=TY (by rw[a7.out];omega);have HM:Hid (out.length+1<=maxLen):=TY (by rw[a7.out];unfold maxLen;omega);have bD:=h.TW cP;obtain⟨b7,b9,e7,cY,y0,y1⟩:=bD.fQ hlt;injection e7 with e7;injection e7 with cA cB dL;subst cA;subst cB;rw[<-Hs.out]at y0;rw[<-Hp.out]at y1;clear bD;have cC:=TY cP;go_wp2_with (at_builtin;go_must (refine aF (enc:=bH) fE aJ jN cC.out bC j H8.out HM.out rfl _ _ rfl rfl rfl ?_);intro v3 w3 bE hb3 hg3 dT;obtain⟨A3,c3,rfl,hc3,eA⟩:=bE.form;obtain⟨b8,cD,e8,eC,z0,z1⟩:=(h.TW hb3).fQ hlt;injection e8 with e8;injection e8 with cE cF eE;subst cE;subst cF;rw[<-Hs.out]at z0;rw[<-Hp.out]at z1)
           all_goals
             have eI:nd m ((j:Int)*s)=((m:Int)-(j:Int)*s).toNat:=rfl
             have cG:Hid ((out++[(j:Int)]).length=k+1/\(out++[(j:Int)])++choose (l.drop (k+1)) (nd m ((j:Int)*s)) (lp (l.drop (k+1)) (nd m ((j:Int)*s)))=choose l n L/\0<=lp (l.drop (k+1)) (nd m ((j:Int)*s))):=by
              rw[<-Hr.out];refine TY ⟨by simp[a7.out],?_,bO.out⟩;have:=HG.out;rw[bB.out]at this;simpa using this
             have bK:lp (l.drop (k+1)) (nd m ((j:Int)*s))=lf-j*p:=by rw[<-Hr.out,bB.out]
             have bL:aD 3 1 bH w.heap.size w3 (.slice A3 (k+1) c3) (out++[(j:Int)]):=by
              have e:(out++[(j:Int)]).length=k+1:=(by simp[a7.out]);rw[<-e];exact bE
             go_roundw
             case rel=>
              refine⟨k+1,nd m ((j:Int)*s),out++[(j:Int)],A3,c3,by omega,by omega,by go_num,?_,by rw[bK],by rw[a7.out],cG,bL,hb3⟩
              first
                |(rw[show nd m ((j:Int)*s)=0 by omega];rfl)
                |rw[show(m:Int)-(j:Int)*s=(nd m ((j:Int)*s):Nat) by omega]
                |(rw[show(nd m ((j:Int)*s):Nat)=(if(0:Int)<(m:Int)-(j:Int)*s then(m:Int)-(j:Int)*s else 0) by split<;>omega])
                |(rw[show(nd m ((j:Int)*s):Nat)=(if(m:Int)-(j:Int)*s<=0 then 0 else(m:Int)-(j:Int)*s) by split<;>omega])
             case measure=>simp[intOf];omega
       . have hf := eR.out j (by omega);rcases Classical.em (r=[])with a6|a6
         . have t1 : ((r.length : Int) == 0) = true := by rw [a6]; rfl
           have t4:decide ((0:Int)<(r.length:Int))=false:=by rw[a6];rfl
           have fX:decide (0<r.length)=false:=by rw[a6];rfl
           have bU:((((m:Int)-(j:Int)*s):Int)==0)=false∨(((((m:Int)-(j:Int)*s):Int)==0)=true/\(lf-(j:Int)*p==0)=false):=by
            rw[a6,uH]at hf;simp only[Bool.and_eq_false_iff,decide_eq_false_iff_not]at hf;have:=HI.out;rw[beq_eq_false_iff_ne,beq_iff_eq,beq_eq_false_iff_ne];omega
           have b5:=TY a6;clear a6 hf;rcases bU with t2|⟨t2,t3⟩
           . first
              |exact absurd t2 (by decide)
              | go_wp2
                go_roundw
                case rel=>exact⟨j+1,by omega,by go_num,own,bJ,bA⟩
                case measure=>simp[intOf];omega
           . first
              |exact absurd t2 (by rw[beq_iff_eq];omega)
              | clear t2
                go_wp2;go_roundw
                case rel=>exact⟨j+1,by omega,by go_num,own,bJ,bA⟩
                case measure=>simp[intOf];omega
         . have t1 : ((r.length : Int) == 0) = false := by simpa using a6
           have t4:0<r.length:=List.length_pos_iff.2 a6;rw[H7 cH.out.tail a6,decide_eq_false_iff_not]at hf;have Hf:=TY hf;have b5:=TY a6;clear a6 hf;by_cases t5:0<=lf-(j:Int)*p
           . go_wp2_with fail
             refine(vJ _ r ((m:Int)-(j:Int)*s) _ ((cS.out).TW bA) (TY cH.out.tail) cJ cK cR).mono ?_;rintro e w9 ⟨A9,c9,rfl,a8,bN⟩;obtain⟨R,hR⟩:=TV (least r (((m:Int)-(j:Int)*s):Int).toNat);have bF:(((m:Int)-(j:Int)*s):Int).toNat<(least r (((m:Int)-(j:Int)*s):Int).toNat).length:=by have:=cM.out;omega
             obtain⟨q,hq⟩:=TV (lp r (nd m ((j:Int)*s)));obtain⟨g,rfl,hB,hg⟩:=a8.split bF;have hcell:=a8.slot aJ TZ bF 0 (.int .i64 q) (by rw[cN.out bF,hq];rfl);rw[T9,Ua]at hcell;try rw[Uc]at hcell
             rw[<-hR]at a8 bF⊢;have eJ:(((m:Int)-(j:Int)*s):Int)<R.length:=(by omega);try rw[Uc]at bF
             have Hq:=TY hq;have HR:=TY hR;clear hq hR;have t6:(q==lf-(j:Int)*p)=false:=by rw[beq_eq_false_iff_ne,Hq.out];exact Hf.out
             go_wp2;go_roundw
             case rel=>exact⟨j+1,by omega,by go_num,own.below bN,bJ.tr bN,bA.tr bN⟩
             case measure=>simp[intOf];omega
           . go_wp2;go_roundw
             case rel=>exact⟨j+1,by omega,by go_num,own,bJ,bA⟩
             case measure=>simp[intOf];omega
  . go_wp2;go_ret;obtain rfl:k=l.length:=by omega
    obtain⟨g1,g2,g3⟩:=Hg.out;rw[List.drop_length,choose,List.append_nil]at g2;subst g2;rw[<-g1]at hown⊢;exact⟨_,_,rfl,hown,bW⟩
end Go.Proofs.YtjijonhkofhikaaGreatDoor
