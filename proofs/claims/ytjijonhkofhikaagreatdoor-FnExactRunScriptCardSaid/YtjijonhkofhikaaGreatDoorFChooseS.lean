import Derived.Test.YtjijonhkofhikaaGreatDoorFG29
open _root_.Nat renaming one_pos->Tm,mul_one->Tn,add_zero->Tp
open _root_.Bool renaming and_eq_true->Tq
open _root_.Int renaming toNat_zero->Tt
open _root_.Option renaming getD_some->Tu
set_option linter.unusedVariables false
set_option maxHeartbeats 4000000
set_option maxRecDepth 100000
namespace Go.Proofs.YtjijonhkofhikaaGreatDoor
open Go.ChangeShapes Go.WideShapes Go.ChangeAt Go.RowKit
theorem uJ {n:Nat} {b:Int×Int} {left:Int} {k:Nat}:fits [] n b left k=(decide (nd n (k*b.1)=0)&&decide (left-k*b.2=0)):=by
 unfold fits;rcases hz:nd n (k*b.1)with _|m
 . rw[vR];simp;omega
 . rw[QE];simp
theorem GR {r:List (Int×Int)} (hr:Bb r) (hne:r≠[]) {n:Nat} {b:Int×Int} {left:Int} {k:Nat}:fits r n b left k=decide (lp r (nd n (k*b.1))=left-k*b.2):=by
 unfold fits;have:=pK hr hne (nd n (k*b.1));rw[Bool.eq_iff_iff];simp;omega
theorem vK (v:Value) (l:List (Int×Int)) (i:Int) (w:World) (h:Rd 2 bT w v l) (a6:Hid (∀x∈l,jJ x)) (h0:0<=i) (h5:i<=500) (a7:l.length<=1048576):
 Calls Tryz.prog 179 #[v,.int .i64 i] w (fM 3 1 aW (least l i.toNat) w):=by
 obtain⟨n,rfl⟩:=Int.eq_ofNat_of_zero_le h0;rw[Int.toNat_natCast];exact Dq v l n w h a6 (by omega) a7
theorem JK (v:Value) (l:List (Int×Int)) (n:Nat) (w:World) (h:Rd 2 bT w v l) (cR:dV l l.length=true) (hn:n<=500):
 Calls Tryz.prog 128 #[v,.int .i64 n] w (fM 3 1 aW (choose l n (lp l n)) w):=by
 obtain⟨A,c,rfl,hc,hm⟩:=h.form;obtain⟨hall,h1,h5⟩:=lD _ _ cR;have fW:l.length<=5:=(by omega);have hF:Bb l:=hall;have hne:l≠[]:=by rintro rfl;simp at h1
 have hcc:=pM cR hn;have bU:cheapest l n=lp l n:=by rw[hcc];unfold lp;rw[List.getD_eq_getElem?_getD,List.getElem?_eq_getElem (by rw[gJ];omega)];rfl
 have eR:=pK hF hne n;obtain⟨L,hL⟩:=Ti (lp l n);rw[<-hL]at eR bU⊢;have HL:=Tk hL;have HF:=Tk hF;have eW:=Tk bU;have fX:=Tk hne;clear hL hF bU hcc hne hall cR;go_enter Tryz.func128,Tryz.ntmps128
 go_wp2_with fail
 refine(yI _ l n _ h).mono ?_;rintro e w1 ⟨rfl,hb1⟩;rw[eW.out];go_wp2;go_loopw [5,6,7,8] (fun s5 s6 s7 s8 wr=>∃(k m:Nat) (out:List Int) (A':Option Addr) (c':Nat),k<=l.length/\m<=500/\s8= .int .i64 k/\s7= .int .i64 m/\s5= .int .i64 (lp (l.drop k) m)/\s6= .slice A' k c'/\Hid (out.length=k/\out++choose (l.drop k) m (lp (l.drop k) m)=choose l n L/\0<=lp (l.drop k) m)/\aD 3 1 aW w.heap.size wr (.slice A' k c') out/\Below w.heap.size w wr) (fun _ _ _ i _=>l.length-(intOf i).toNat)
 case atStart=>exact⟨0,n,[],some ⟨w1.heap.size,0,none⟩,0,Nat.zero_le _,hn,rfl,rfl,(by rw[HL.out];rfl),rfl,Tk ⟨rfl,by rw[HL.out];rfl,by have:=HL.out;show 0<=lp l n;omega⟩,World.ownsRow_lit w1 #[] 0 hb1.size (by simp[maxLen]) rfl,hb1.al _⟩
 case round=>
  obtain⟨k,m,out,A',c',hk,fY,rfl,rfl,rfl,rfl,Hg,hown,bR⟩:=hrel;clear hb1;by_cases hlt:k<l.length
  . obtain⟨b,off,rfl,hb,q1,q2⟩:=(h.Tj bR).iR hlt;have eI:=h.Tj bR;obtain⟨s,hs⟩:=Ti (l[k].1);obtain⟨p,hp⟩:=Ti (l[k].2);obtain⟨r,hr⟩:=Ti (l.drop (k+1));have eJ:r.length=l.length-(k+1):=by rw[hr];simp
    have hd:l.drop k=(s,p)::r:=(by rw[List.drop_eq_getElem_cons hlt,hs,hp,hr]);have cG:Bb ((s,p)::r):=by rw[<-hd];exact fun x hx=>HF.out x (List.mem_of_mem_drop hx)
    have F:=cG (s,p) List.mem_cons_self;unfold jJ at F;obtain⟨f1,f2,f3,f4⟩:=F;simp only at f1 f2 f3 f4;rw[hd]at Hg⊢;obtain⟨lf,cN⟩:=Ti (lp ((s,p)::r) m);have cS:=Fw cG m;obtain⟨K,hK⟩:=Ti (kOf r m (s,p) lf);have eK:=KJ cG m;rw[<-cN,<-hK]at eK;obtain⟨gA,eL,hKn⟩:=eK;rw[<-cN]at Hg cS⊢;obtain⟨g1,g2,g3⟩:=Hg.out;rw[choose]at g2;simp only[<-hK]at g2;have HG:=Tk g2;have a7:=Tk g1;rw[<-hs]at q1;rw[<-hp]at q2;have Hs:=Tk hs;have Hp:=Tk hp;have Hr:=Tk hr;have Hd:=Tk hd;have cF:=Tk cG;have gB:=Tk cN;have HK:=Tk hK;have eM:=Tk eL;have eN:=Tk hKn;have e5:=Tk eI;have cT:=Tk eJ;clear hs hp hr hd cG cN hK eL hKn g1 g2 eJ eI Hg;have cP:r.length<=1048576:=by have:=cT.out;omega
    have HJ:Hid ((k:Int)+1=((k+1:Nat):Int)):=Tk (by omega);have e9:Hid (k+1<=l.length):=Tk hlt;go_wp2_with ((with_reducible refine mX Qo e5.out (k+1) e9.out HJ.out rfl _ _ rfl rfl rfl ?_);intro A5 c5 cU;rw[<-Hr.out,<-cT.out]at cU;rw[<-cT.out])
    obtain⟨wo,rfl⟩:∃wo:World,wo=wr:=⟨_,rfl⟩;have cQ:=Tk cU;clear cU;go_loopw [10] (fun fD wi=>∃j:Nat,j<=K/\fD= .int .i64 j/\aD 3 1 aW w.heap.size wi (.slice A' k c') out/\Below w.heap.size w wi/\Below wo.heap.size wo wi) (fun i _=>K-(intOf i).toNat)
    case atStart=>exact⟨0,Nat.zero_le _,rfl,hown,bR,Below.refl _ _⟩
    case round=>
     obtain⟨j,hj,rfl,own,bJ,bA⟩:=hrel;have mj:=uB (a:=j) (b:=p) (m:=1000) (by omega) (by omega) f3 f4;have ms:=uB (a:=j) (b:=s) (m:=50) (by omega) (by omega) f1 f2;have eP: -9223372036854775808<=lf-(j:Int)*p/\lf-(j:Int)*p<=9223372036854775807:=(by omega);clear q1 q2 hown;obtain⟨b6,fL,e6,gC,q1,q2⟩:=(h.Tj bJ).iR hlt;injection e6 with e6;injection e6 with fN fO gD;subst fN;subst fO;rw[<-Hs.out]at q1;rw[<-Hp.out]at q2;by_cases fR:(m:Int)-(j:Int)*s<=0
     . skip;have hI:(0:Int).toNat=nd m ((j:Int)*s):=by unfold nd;omega
       have cH:(0:Int)<=0:=(by omega);have cI:(0:Int)<=500:=(by omega);have cJ:=gJ r (0:Int).toNat
       have hRv : ∀ hq : (0 : Int).toNat < (least r (0 : Int).toNat).length, (least r (0 : Int).toNat)[(0 : Int).toNat] = lp r (nd m ((j : Int) * s)) := fun hq => by
        have:=Aw r (0:Int).toNat (0:Int).toNat (Nat.le_refl _);rw[List.getD_eq_getElem?_getD,List.getElem?_eq_getElem (by omega),Tu]at this;rw[this,hI]
       have HI:=Tk hI;have cK:=Tk cJ;have cL:=Tk hRv;clear hI cJ hRv;by_cases cV:j=K
       . subst cV;have hf:=eM.out;obtain⟨bS,hf2⟩:=Bv hf;simp only at bS hf2;have bB:=Tk bS;have bN:=Tk hf2;rcases Classical.em (r=[])with a6|a6
         . have t1 : ((r.length : Int) == 0) = true := by rw [a6]; rfl
           have t2:((0:Int)==0)=true:=by
            rw[a6,uJ]at hf;simp only[Tq,decide_eq_true_eq]at hf;have:=HI.out;first|(simp;done)|(rw[beq_iff_eq];omega)
           have t3:(lf-(j:Int)*p==0)=true:=by rw[a6,uJ]at hf;simp only[Tq,decide_eq_true_eq]at hf;rw[beq_iff_eq];omega
           have bX:=Tk a6;clear a6 hf bS hf2
           first
             |exact absurd t2 (by rw[beq_iff_eq];omega)
             | clear t2
               have bC:aD 3 1 aW w.heap.size wr (.slice A' k c') out:=own;have H8:Hid ((out.length+1)*8<=140737488355328):=Tk (by rw[a7.out];omega);have HM:Hid (out.length+1<=maxLen):=Tk (by rw[a7.out];unfold maxLen;omega);have bD:=h.Tj bJ;obtain⟨b7,bY,e7,cW,y0,y1⟩:=bD.iR hlt;injection e7 with e7;injection e7 with b5 b9 cX;subst b5;subst b9;rw[<-Hs.out]at y0;rw[<-Hp.out]at y1;clear bD;have cA:=Tk bJ;go_wp2_with (at_builtin;go_must (refine aF (enc:=aW) fP aM jS cA.out bC j H8.out HM.out rfl _ _ rfl rfl rfl ?_);intro v3 w3 bE hb3 hg3 cY;obtain⟨A3,c3,rfl,hc3,dL⟩:=bE.form;obtain⟨b8,cB,e8,dT,z0,z1⟩:=(h.Tj hb3).iR hlt;injection e8 with e8;injection e8 with cC cD eA;subst cC;subst cD;rw[<-Hs.out]at z0;rw[<-Hp.out]at z1)
               all_goals
                 have eC:nd m ((j:Int)*s)=((m:Int)-(j:Int)*s).toNat:=rfl
                 have cE:Hid ((out++[(j:Int)]).length=k+1/\(out++[(j:Int)])++choose (l.drop (k+1)) (nd m ((j:Int)*s)) (lp (l.drop (k+1)) (nd m ((j:Int)*s)))=choose l n L/\0<=lp (l.drop (k+1)) (nd m ((j:Int)*s))):=by
                  rw[<-Hr.out];refine Tk ⟨by simp[a7.out],?_,bN.out⟩;have:=HG.out;rw[bB.out]at this;simpa using this
                 have bK:lp (l.drop (k+1)) (nd m ((j:Int)*s))=lf-j*p:=by rw[<-Hr.out,bB.out]
                 have bL:aD 3 1 aW w.heap.size w3 (.slice A3 (k+1) c3) (out++[(j:Int)]):=by
                  have e:(out++[(j:Int)]).length=k+1:=(by simp[a7.out]);rw[<-e];exact bE
                 go_roundw
                 case rel=>
                  refine⟨k+1,nd m ((j:Int)*s),out++[(j:Int)],A3,c3,by omega,by omega,by go_num,?_,by rw[bK],by rw[a7.out],cE,bL,hb3⟩
                  first
                    |(rw[show nd m ((j:Int)*s)=0 by omega];rfl)
                    |rw[show(m:Int)-(j:Int)*s=(nd m ((j:Int)*s):Nat) by omega]
                    |(rw[show(nd m ((j:Int)*s):Nat)=(if(0:Int)<(m:Int)-(j:Int)*s then(m:Int)-(j:Int)*s else 0) by split<;>omega])
                    |(rw[show(nd m ((j:Int)*s):Nat)=(if(m:Int)-(j:Int)*s<=0 then 0 else(m:Int)-(j:Int)*s) by split<;>omega])
                 case measure=>simp[intOf];omega
         . have t1 : ((r.length : Int) == 0) = false := by simpa using a6
           have t4:0<r.length:=List.length_pos_iff.2 a6;have t5:0<=lf-(j:Int)*p:=(by omega);have bX:=Tk a6;clear a6 hf bS hf2;go_wp2_with fail
           refine(vK _ r 0 _ ((cQ.out).Tj bA) (Tk cF.out.tail) cH cI cP).mono ?_;rintro e w9 ⟨A9,c9,rfl,a8,bM⟩;obtain⟨R,hR⟩:=Ti (least r (0:Int).toNat);have bF:(0:Int).toNat<(least r (0:Int).toNat).length:=by have:=cK.out;omega
           obtain⟨q,hq⟩:=Ti (lp r (nd m ((j:Int)*s)));obtain⟨g,rfl,hB,hg⟩:=a8.split bF;have hcell:=a8.slot aM Tm bF 0 (.int .i64 q) (by rw[cL.out bF,hq];rfl);rw[Tn,Tp]at hcell;try rw[Tt]at hcell
           rw[<-hR]at a8 bF⊢;have eE:(0:Int)<R.length:=(by omega);try rw[Tt]at bF
           have Hq:=Tk hq;have HR:=Tk hR;clear hq hR;have t6:(q==lf-(j:Int)*p)=true:=(by rw[beq_iff_eq,Hq.out,bB.out]);have bO:=own.below bM;have cM:=bJ.tr bM;have bC:aD 3 1 aW w.heap.size w9 (.slice A' k c') out:=bO;have H8:Hid ((out.length+1)*8<=140737488355328):=Tk (by rw[a7.out];omega);have HM:Hid (out.length+1<=maxLen):=Tk (by rw[a7.out];unfold maxLen;omega);have bD:=h.Tj cM;obtain⟨b7,bY,e7,cW,y0,y1⟩:=bD.iR hlt;injection e7 with e7;injection e7 with b5 b9 cX;subst b5;subst b9;rw[<-Hs.out]at y0;rw[<-Hp.out]at y1;clear bD;have cA:=Tk cM;go_wp2_with (at_builtin;go_must (refine aF (enc:=aW) fP aM jS cA.out bC j H8.out HM.out rfl _ _ rfl rfl rfl ?_);intro v3 w3 bE hb3 hg3 cY;obtain⟨A3,c3,rfl,hc3,dL⟩:=bE.form;obtain⟨b8,cB,e8,dT,z0,z1⟩:=(h.Tj hb3).iR hlt;injection e8 with e8;injection e8 with cC cD eA;subst cC;subst cD;rw[<-Hs.out]at z0;rw[<-Hp.out]at z1)
           all_goals
             have eC:nd m ((j:Int)*s)=((m:Int)-(j:Int)*s).toNat:=rfl
             have cE:Hid ((out++[(j:Int)]).length=k+1/\(out++[(j:Int)])++choose (l.drop (k+1)) (nd m ((j:Int)*s)) (lp (l.drop (k+1)) (nd m ((j:Int)*s)))=choose l n L/\0<=lp (l.drop (k+1)) (nd m ((j:Int)*s))):=by
              rw[<-Hr.out];refine Tk ⟨by simp[a7.out],?_,bN.out⟩;have:=HG.out;rw[bB.out]at this;simpa using this
             have bK:lp (l.drop (k+1)) (nd m ((j:Int)*s))=lf-j*p:=by rw[<-Hr.out,bB.out]
             have bL:aD 3 1 aW w.heap.size w3 (.slice A3 (k+1) c3) (out++[(j:Int)]):=by
              have e:(out++[(j:Int)]).length=k+1:=(by simp[a7.out]);rw[<-e];exact bE
             go_roundw
             case rel=>
              refine⟨k+1,nd m ((j:Int)*s),out++[(j:Int)],A3,c3,by omega,by omega,by go_num,?_,by rw[bK],by rw[a7.out],cE,bL,hb3⟩
              first
                |(rw[show nd m ((j:Int)*s)=0 by omega];rfl)
                |rw[show(m:Int)-(j:Int)*s=(nd m ((j:Int)*s):Nat) by omega]
                |(rw[show(nd m ((j:Int)*s):Nat)=(if(0:Int)<(m:Int)-(j:Int)*s then(m:Int)-(j:Int)*s else 0) by split<;>omega])
                |(rw[show(nd m ((j:Int)*s):Nat)=(if(m:Int)-(j:Int)*s<=0 then 0 else(m:Int)-(j:Int)*s) by split<;>omega])
             case measure=>simp[intOf];omega
       . have hf := eN.out j (by omega);rcases Classical.em (r=[])with a6|a6
         . have t1 : ((r.length : Int) == 0) = true := by rw [a6]; rfl
           have t4:decide ((0:Int)<(r.length:Int))=false:=by rw[a6];rfl
           have fS:decide (0<r.length)=false:=by rw[a6];rfl
           have bP:((0:Int)==0)=false∨(((0:Int)==0)=true/\(lf-(j:Int)*p==0)=false):=by
            rw[a6,uJ]at hf;simp only[Bool.and_eq_false_iff,decide_eq_false_iff_not]at hf;have:=HI.out;rw[beq_eq_false_iff_ne,beq_iff_eq,beq_eq_false_iff_ne];omega
           have bX:=Tk a6;clear a6 hf;rcases bP with t2|⟨t2,t3⟩
           . first
              |exact absurd t2 (by decide)
              | go_wp2
                go_roundw
                case rel=>exact⟨j+1,by omega,by go_num,own,bJ,bA⟩
                case measure=>simp[intOf];omega
           . first
              |exact absurd t2 (by rw[beq_iff_eq];omega)
              | clear t2
                go_wp2;go_roundw
                case rel=>exact⟨j+1,by omega,by go_num,own,bJ,bA⟩
                case measure=>simp[intOf];omega
         . have t1 : ((r.length : Int) == 0) = false := by simpa using a6
           have t4:0<r.length:=List.length_pos_iff.2 a6;rw[GR cF.out.tail a6,decide_eq_false_iff_not]at hf;have Hf:=Tk hf;have bX:=Tk a6;clear a6 hf;by_cases t5:0<=lf-(j:Int)*p
           . go_wp2_with fail
             refine(vK _ r 0 _ ((cQ.out).Tj bA) (Tk cF.out.tail) cH cI cP).mono ?_;rintro e w9 ⟨A9,c9,rfl,a8,bM⟩;obtain⟨R,hR⟩:=Ti (least r (0:Int).toNat);have bF:(0:Int).toNat<(least r (0:Int).toNat).length:=by have:=cK.out;omega
             obtain⟨q,hq⟩:=Ti (lp r (nd m ((j:Int)*s)));obtain⟨g,rfl,hB,hg⟩:=a8.split bF;have hcell:=a8.slot aM Tm bF 0 (.int .i64 q) (by rw[cL.out bF,hq];rfl);rw[Tn,Tp]at hcell;try rw[Tt]at hcell
             rw[<-hR]at a8 bF⊢;have eE:(0:Int)<R.length:=(by omega);try rw[Tt]at bF
             have Hq:=Tk hq;have HR:=Tk hR;clear hq hR;have t6:(q==lf-(j:Int)*p)=false:=by rw[beq_eq_false_iff_ne,Hq.out];exact Hf.out
             go_wp2;go_roundw
             case rel=>exact⟨j+1,by omega,by go_num,own.below bM,bJ.tr bM,bA.tr bM⟩
             case measure=>simp[intOf];omega
           . go_wp2;go_roundw
             case rel=>exact⟨j+1,by omega,by go_num,own,bJ,bA⟩
             case measure=>simp[intOf];omega
     . skip;have hI:(((m:Int)-(j:Int)*s):Int).toNat=nd m ((j:Int)*s):=by unfold nd;omega
       have cH:(0:Int)<=((m:Int)-(j:Int)*s):=(by omega);have cI:(((m:Int)-(j:Int)*s):Int)<=500:=(by omega);have cJ:=gJ r (((m:Int)-(j:Int)*s):Int).toNat
       have hRv : ∀ hq : (((m : Int) - (j : Int) * s) : Int).toNat < (least r (((m : Int) - (j : Int) * s) : Int).toNat).length, (least r (((m : Int) - (j : Int) * s) : Int).toNat)[(((m : Int) - (j : Int) * s) : Int).toNat] = lp r (nd m ((j : Int) * s)) := fun hq => by
        have:=Aw r (((m:Int)-(j:Int)*s):Int).toNat (((m:Int)-(j:Int)*s):Int).toNat (Nat.le_refl _);rw[List.getD_eq_getElem?_getD,List.getElem?_eq_getElem (by omega),Tu]at this;rw[this,hI]
       have HI:=Tk hI;have cK:=Tk cJ;have cL:=Tk hRv;clear hI cJ hRv;by_cases cV:j=K
       . subst cV;have hf:=eM.out;obtain⟨bS,hf2⟩:=Bv hf;simp only at bS hf2;have bB:=Tk bS;have bN:=Tk hf2;rcases Classical.em (r=[])with a6|a6
         . have t1 : ((r.length : Int) == 0) = true := by rw [a6]; rfl
           have t2:((((m:Int)-(j:Int)*s):Int)==0)=true:=by
            rw[a6,uJ]at hf;simp only[Tq,decide_eq_true_eq]at hf;have:=HI.out;first|(simp;done)|(rw[beq_iff_eq];omega)
           have t3:(lf-(j:Int)*p==0)=true:=by rw[a6,uJ]at hf;simp only[Tq,decide_eq_true_eq]at hf;rw[beq_iff_eq];omega
           have bX:=Tk a6;clear a6 hf bS hf2
           first
             |exact absurd t2 (by rw[beq_iff_eq];omega)
             | clear t2
               have bC:aD 3 1 aW w.heap.size wr (.slice A' k c') out:=own;have H8:Hid ((out.length+1)*8<=140737488355328):=Tk (by rw[a7.out];omega);have HM:Hid (out.length+1<=maxLen):=Tk (by rw[a7.out];unfold maxLen;omega);have bD:=h.Tj bJ;obtain⟨b7,bY,e7,cW,y0,y1⟩:=bD.iR hlt;injection e7 with e7;injection e7 with b5 b9 cX;subst b5;subst b9;rw[<-Hs.out]at y0;rw[<-Hp.out]at y1;clear bD;have cA:=Tk bJ;go_wp2_with (at_builtin;go_must (refine aF (enc:=aW) fP aM jS cA.out bC j H8.out HM.out rfl _ _ rfl rfl rfl ?_);intro v3 w3 bE hb3 hg3 cY;obtain⟨A3,c3,rfl,hc3,dL⟩:=bE.form;obtain⟨b8,cB,e8,dT,z0,z1⟩:=(h.Tj hb3).iR hlt;injection e8 with e8;injection e8 with cC cD eA;subst cC;subst cD;rw[<-Hs.out]at z0;rw[<-Hp.out]at z1)
               all_goals
                 have eC:nd m ((j:Int)*s)=((m:Int)-(j:Int)*s).toNat:=rfl
                 have cE:Hid ((out++[(j:Int)]).length=k+1/\(out++[(j:Int)])++choose (l.drop (k+1)) (nd m ((j:Int)*s)) (lp (l.drop (k+1)) (nd m ((j:Int)*s)))=choose l n L/\0<=lp (l.drop (k+1)) (nd m ((j:Int)*s))):=by
                  rw[<-Hr.out];refine Tk ⟨by simp[a7.out],?_,bN.out⟩;have:=HG.out;rw[bB.out]at this;simpa using this
                 have bK:lp (l.drop (k+1)) (nd m ((j:Int)*s))=lf-j*p:=by rw[<-Hr.out,bB.out]
                 have bL:aD 3 1 aW w.heap.size w3 (.slice A3 (k+1) c3) (out++[(j:Int)]):=by
                  have e:(out++[(j:Int)]).length=k+1:=(by simp[a7.out]);rw[<-e];exact bE
                 go_roundw
                 case rel=>
                  refine⟨k+1,nd m ((j:Int)*s),out++[(j:Int)],A3,c3,by omega,by omega,by go_num,?_,by rw[bK],by rw[a7.out],cE,bL,hb3⟩
                  first
                    |(rw[show nd m ((j:Int)*s)=0 by omega];rfl)
                    |rw[show(m:Int)-(j:Int)*s=(nd m ((j:Int)*s):Nat) by omega]
                    |(rw[show(nd m ((j:Int)*s):Nat)=(if(0:Int)<(m:Int)-(j:Int)*s then(m:Int)-(j:Int)*s else 0) by split<;>omega])
                    |(rw[show(nd m ((j:Int)*s):Nat)=(if(m:Int)-(j:Int)*s<=0 then 0 else(m:Int)-(j:Int)*s) by split<;>omega])
                 case measure=>simp[intOf];omega
         . have t1 : ((r.length : Int) == 0) = false := by simpa using a6
           have t4:0<r.length:=List.length_pos_iff.2 a6;have t5:0<=lf-(j:Int)*p:=(by omega);have bX:=Tk a6;clear a6 hf bS hf2;go_wp2_with fail
           refine(vK _ r ((m:Int)-(j:Int)*s) _ ((cQ.out).Tj bA) (Tk cF.out.tail) cH cI cP).mono ?_;rintro e w9 ⟨A9,c9,rfl,a8,bM⟩;obtain⟨R,hR⟩:=Ti (least r (((m:Int)-(j:Int)*s):Int).toNat);have bF:(((m:Int)-(j:Int)*s):Int).toNat<(least r (((m:Int)-(j:Int)*s):Int).toNat).length:=by have:=cK.out;omega
           obtain⟨q,hq⟩:=Ti (lp r (nd m ((j:Int)*s)));obtain⟨g,rfl,hB,hg⟩:=a8.split bF;have hcell:=a8.slot aM Tm bF 0 (.int .i64 q) (by rw[cL.out bF,hq];rfl);rw[Tn,Tp]at hcell;try rw[Tt]at hcell
           rw[<-hR]at a8 bF⊢;have eE:(((m:Int)-(j:Int)*s):Int)<R.length:=(by omega);try rw[Tt]at bF
           have Hq:=Tk hq;have HR:=Tk hR;clear hq hR;have t6:(q==lf-(j:Int)*p)=true:=(by rw[beq_iff_eq,Hq.out,bB.out]);have bO:=own.below bM;have cM:=bJ.tr bM;have bC:aD 3 1 aW w.heap.size w9 (.slice A' k c') out:=bO;have H8:Hid ((out.length+1)*8<=140737488355328):=Tk (by rw[a7.out];omega);have HM:Hid (out.length+1<=maxLen):=Tk (by rw[a7.out];unfold maxLen;omega);have bD:=h.Tj cM;obtain⟨b7,bY,e7,cW,y0,y1⟩:=bD.iR hlt;injection e7 with e7;injection e7 with b5 b9 cX;subst b5;subst b9;rw[<-Hs.out]at y0;rw[<-Hp.out]at y1;clear bD;have cA:=Tk cM;go_wp2_with (at_builtin;go_must (refine aF (enc:=aW) fP aM jS cA.out bC j H8.out HM.out rfl _ _ rfl rfl rfl ?_);intro v3 w3 bE hb3 hg3 cY;obtain⟨A3,c3,rfl,hc3,dL⟩:=bE.form;obtain⟨b8,cB,e8,dT,z0,z1⟩:=(h.Tj hb3).iR hlt;injection e8 with e8;injection e8 with cC cD eA;subst cC;subst cD;rw[<-Hs.out]at z0;rw[<-Hp.out]at z1)
           all_goals
             have eC:nd m ((j:Int)*s)=((m:Int)-(j:Int)*s).toNat:=rfl
             have cE:Hid ((out++[(j:Int)]).length=k+1/\(out++[(j:Int)])++choose (l.drop (k+1)) (nd m ((j:Int)*s)) (lp (l.drop (k+1)) (nd m ((j:Int)*s)))=choose l n L/\0<=lp (l.drop (k+1)) (nd m ((j:Int)*s))):=by
              rw[<-Hr.out];refine Tk ⟨by simp[a7.out],?_,bN.out⟩;have:=HG.out;rw[bB.out]at this;simpa using this
             have bK:lp (l.drop (k+1)) (nd m ((j:Int)*s))=lf-j*p:=by rw[<-Hr.out,bB.out]
             have bL:aD 3 1 aW w.heap.size w3 (.slice A3 (k+1) c3) (out++[(j:Int)]):=by
              have e:(out++[(j:Int)]).length=k+1:=(by simp[a7.out]);rw[<-e];exact bE
             go_roundw
             case rel=>
              refine⟨k+1,nd m ((j:Int)*s),out++[(j:Int)],A3,c3,by omega,by omega,by go_num,?_,by rw[bK],by rw[a7.out],cE,bL,hb3⟩
              first
                |(rw[show nd m ((j:Int)*s)=0 by omega];rfl)
                |rw[show(m:Int)-(j:Int)*s=(nd m ((j:Int)*s):Nat) by omega]
                |(rw[show(nd m ((j:Int)*s):Nat)=(if(0:Int)<(m:Int)-(j:Int)*s then(m:Int)-(j:Int)*s else 0) by split<;>omega])
                |(rw[show(nd m ((j:Int)*s):Nat)=(if(m:Int)-(j:Int)*s<=0 then 0 else(m:Int)-(j:Int)*s) by split<;>omega])
             case measure=>simp[intOf];omega
       . have hf := eN.out j (by omega);rcases Classical.em (r=[])with a6|a6
         . have t1 : ((r.length : Int) == 0) = true := by rw [a6]; rfl
           have t4:decide ((0:Int)<(r.length:Int))=false:=by rw[a6];rfl
           have fS:decide (0<r.length)=false:=by rw[a6];rfl
           have bP:((((m:Int)-(j:Int)*s):Int)==0)=false∨(((((m:Int)-(j:Int)*s):Int)==0)=true/\(lf-(j:Int)*p==0)=false):=by
            rw[a6,uJ]at hf;simp only[Bool.and_eq_false_iff,decide_eq_false_iff_not]at hf;have:=HI.out;rw[beq_eq_false_iff_ne,beq_iff_eq,beq_eq_false_iff_ne];omega
           have bX:=Tk a6;clear a6 hf;rcases bP with t2|⟨t2,t3⟩
           . first
              |exact absurd t2 (by decide)
              | go_wp2
                go_roundw
                case rel=>exact⟨j+1,by omega,by go_num,own,bJ,bA⟩
                case measure=>simp[intOf];omega
           . first
              |exact absurd t2 (by rw[beq_iff_eq];omega)
              | clear t2
                go_wp2;go_roundw
                case rel=>exact⟨j+1,by omega,by go_num,own,bJ,bA⟩
                case measure=>simp[intOf];omega
         . have t1 : ((r.length : Int) == 0) = false := by simpa using a6
           have t4:0<r.length:=List.length_pos_iff.2 a6;rw[GR cF.out.tail a6,decide_eq_false_iff_not]at hf;have Hf:=Tk hf;have bX:=Tk a6;clear a6 hf;by_cases t5:0<=lf-(j:Int)*p
           . go_wp2_with fail
             refine(vK _ r ((m:Int)-(j:Int)*s) _ ((cQ.out).Tj bA) (Tk cF.out.tail) cH cI cP).mono ?_;rintro e w9 ⟨A9,c9,rfl,a8,bM⟩;obtain⟨R,hR⟩:=Ti (least r (((m:Int)-(j:Int)*s):Int).toNat);have bF:(((m:Int)-(j:Int)*s):Int).toNat<(least r (((m:Int)-(j:Int)*s):Int).toNat).length:=by have:=cK.out;omega
             obtain⟨q,hq⟩:=Ti (lp r (nd m ((j:Int)*s)));obtain⟨g,rfl,hB,hg⟩:=a8.split bF;have hcell:=a8.slot aM Tm bF 0 (.int .i64 q) (by rw[cL.out bF,hq];rfl);rw[Tn,Tp]at hcell;try rw[Tt]at hcell
             rw[<-hR]at a8 bF⊢;have eE:(((m:Int)-(j:Int)*s):Int)<R.length:=(by omega);try rw[Tt]at bF
             have Hq:=Tk hq;have HR:=Tk hR;clear hq hR;have t6:(q==lf-(j:Int)*p)=false:=by rw[beq_eq_false_iff_ne,Hq.out];exact Hf.out
             go_wp2;go_roundw
             case rel=>exact⟨j+1,by omega,by go_num,own.below bM,bJ.tr bM,bA.tr bM⟩
             case measure=>simp[intOf];omega
           . go_wp2;go_roundw
             case rel=>exact⟨j+1,by omega,by go_num,own,bJ,bA⟩
             case measure=>simp[intOf];omega
  . go_wp2;go_ret;obtain rfl:k=l.length:=by omega
    obtain⟨g1,g2,g3⟩:=Hg.out;rw[List.drop_length,choose,List.append_nil]at g2;subst g2;rw[<-g1]at hown⊢;exact⟨_,_,rfl,hown,bR⟩
end Go.Proofs.YtjijonhkofhikaaGreatDoor
