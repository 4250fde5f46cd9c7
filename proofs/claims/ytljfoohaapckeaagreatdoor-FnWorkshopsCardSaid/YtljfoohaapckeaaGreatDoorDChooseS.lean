/- ChooseBoxes of the reference: the walk. No conditions. -/
import Derived.Test.YtljfoohaapckeaaGreatDoorDG35
open _root_.Nat (one_pos mul_one add_zero)
open _root_.Int (toNat_zero)
namespace Go.Proofs.YtljfoohaapckeaaGreatDoor
open Go.ChangeShapes Go.WideShapes Go.ChangeAt Go.RowKit
set_option linter.unusedVariables false
set_option maxHeartbeats 4000000
set_option maxRecDepth 100000
theorem qN {n:Nat} {b:Int×Int} {left:Int} {k:Nat}:fits [] n b left k=(decide (nd n (k*b.1)=0)&&decide (left-k*b.2=0)):=by
 unfold fits;rcases hz:nd n (k*b.1)with _|m
 . rw[nV];simp;omega
 . rw[I9];simp
theorem EB {r:List (Int×Int)} (hr:sK r) (hne:r≠[]) {n:Nat} {b:Int×Int} {left:Int} {k:Nat}:fits r n b left k=decide (lp r (nd n (k*b.1))=left-k*b.2):=by
 unfold fits;have:=kM hr hne (nd n (k*b.1));rw[Bool.eq_iff_iff];simp;omega
theorem rR (v:Value) (l:List (Int×Int)) (i:Int) (w:World) (h:Rd 2 bT w v l) (Hall:Hid (∀x∈l,eU x)) (h0:0<=i) (h5:i<=500) (hl5:l.length<=1048576):
 Calls Tryz.prog 75 #[v,.int .i64 i] w (jA 3 1 aY (least l i.toNat) w):=by
 obtain⟨n,rfl⟩:=Int.eq_ofNat_of_zero_le h0;rw[Int.toNat_natCast];exact AO v l n w h Hall (by omega) hl5
theorem F6 (v:Value) (l:List (Int×Int)) (n:Nat) (w:World) (h:Rd 2 bT w v l) (hok:bV l l.length=true) (hn:n<=500):
 Calls Tryz.prog 28 #[v,.int .i64 n] w (jA 3 1 aY (choose l n (lp l n)) w):=by
 obtain⟨A,c,rfl,hc,hm⟩:=h.form;obtain⟨hall,h1,h5⟩:=jG _ _ hok;have hl5:l.length<=5:=(by omega);have hF:sK l:=hall;have hne:l≠[]:=by rintro rfl;simp at h1
 have hcc:=kT hok hn;have hlpn:cheapest l n=lp l n:=by rw[hcc];unfold lp;rw[List.getD_eq_getElem?_getD,List.getElem?_eq_getElem (by rw[eH];omega)];rfl
 have hp0:=kM hF hne n;obtain⟨L,hL⟩:=Oy (lp l n);rw[<-hL]at hp0 hlpn⊢;have HL:=OA hL;have HF:=OA hF;have Hlp:=OA hlpn;have Hne:=OA hne;clear hL hF hlpn hcc hne hall hok;go_enter Tryz.func28,Tryz.ntmps28
 go_wp2_with fail
 refine(vH _ l n _ h).mono ?_;rintro e w1 ⟨rfl,hb1⟩;rw[Hlp.out];go_wp2;go_loopw [5,6,7,8] (fun s5 s6 s7 s8 wr=>∃(k m:Nat) (out:List Int) (A':Option Addr) (c':Nat),k<=l.length/\m<=500/\s8= .int .i64 k/\s7= .int .i64 m/\s5= .int .i64 (lp (l.drop k) m)/\s6= .slice A' k c'/\Hid (out.length=k/\out++choose (l.drop k) m (lp (l.drop k) m)=choose l n L/\0<=lp (l.drop k) m)/\aC 3 1 aY w.heap.size wr (.slice A' k c') out/\Below w.heap.size w wr) (fun _ _ _ i _=>l.length-(intOf i).toNat)
 case atStart=>exact⟨0,n,[],some ⟨w1.heap.size,0,none⟩,0,Nat.zero_le _,hn,rfl,rfl,(by rw[HL.out];rfl),rfl,OA ⟨rfl,by rw[HL.out];rfl,by have:=HL.out;show 0<=lp l n;omega⟩,World.ownsRow_lit w1 #[] 0 hb1.size (by simp[maxLen]) rfl,hb1.al _⟩
 case round=>
  obtain⟨k,m,out,A',c',hk,hm5,rfl,rfl,rfl,rfl,Hg,hown,hbel⟩:=hrel;clear hb1;by_cases hlt:k<l.length
  . obtain⟨b,off,rfl,hb,q1,q2⟩:=(h.Oz hbel).eZ hlt;have hrd:=h.Oz hbel;obtain⟨s,hs⟩:=Oy (l[k].1);obtain⟨p,hp⟩:=Oy (l[k].2);obtain⟨r,hr⟩:=Oy (l.drop (k+1));have hrl:r.length=l.length-(k+1):=by rw[hr];simp
    have hd:l.drop k=(s,p)::r:=(by rw[List.drop_eq_getElem_cons hlt,hs,hp,hr]);have hFd:sK ((s,p)::r):=by rw[<-hd];exact fun x hx=>HF.out x (List.mem_of_mem_drop hx)
    have F:=hFd (s,p) List.mem_cons_self;unfold eU at F;obtain⟨f1,f2,f3,f4⟩:=F;simp only at f1 f2 f3 f4;rw[hd]at Hg⊢;obtain⟨lf,hlf⟩:=Oy (lp ((s,p)::r) m);have hlfb:=CP hFd m;obtain⟨K,hK⟩:=Oy (kOf r m (s,p) lf);have hKs:=CJ hFd m;rw[<-hlf,<-hK]at hKs;obtain⟨hKm,hKf,hKn⟩:=hKs;rw[<-hlf]at Hg hlfb⊢;obtain⟨g1,g2,g3⟩:=Hg.out;rw[choose]at g2;simp only[<-hK]at g2;have HG:=OA g2;have Hout:=OA g1;rw[<-hs]at q1;rw[<-hp]at q2;have Hs:=OA hs;have Hp:=OA hp;have Hr:=OA hr;have Hd:=OA hd;have HFd:=OA hFd;have Hlf:=OA hlf;have HK:=OA hK;have HKf:=OA hKf;have HKn:=OA hKn;have Hrd:=OA hrd;have Hrl:=OA hrl;clear hs hp hr hd hFd hlf hK hKf hKn g1 g2 hrl hrd Hg;have hr5:r.length<=1048576:=by have:=Hrl.out;omega
    have HJ:Hid ((k:Int)+1=((k+1:Nat):Int)):=OA (by omega);have HK1:Hid (k+1<=l.length):=OA hlt;go_wp2_with ((with_reducible refine kU IY Hrd.out (k+1) HK1.out HJ.out rfl _ _ rfl rfl rfl ?_);intro A5 c5 hr6;rw[<-Hr.out,<-Hrl.out]at hr6;rw[<-Hrl.out])
    obtain⟨wo,rfl⟩:∃wo:World,wo=wr:=⟨_,rfl⟩;have Hr6:=OA hr6;clear hr6;go_loopw [10] (fun s10 wi=>∃j:Nat,j<=K/\s10= .int .i64 j/\aC 3 1 aY w.heap.size wi (.slice A' k c') out/\Below w.heap.size w wi/\Below wo.heap.size wo wi) (fun i _=>K-(intOf i).toNat)
    case atStart=>exact⟨0,Nat.zero_le _,rfl,hown,hbel,Below.refl _ _⟩
    case round=>
     obtain⟨j,hj,rfl,own,hbi,hbi6⟩:=hrel;have mj:=qC (a:=j) (b:=p) (m:=1000) (by omega) (by omega) f3 f4;have ms:=qC (a:=j) (b:=s) (m:=50) (by omega) (by omega) f1 f2;have hdiff: -9223372036854775808<=lf-(j:Int)*p/\lf-(j:Int)*p<=9223372036854775807:=(by omega);clear q1 q2 hown;obtain⟨b6,off6,e6,hb6,q1,q2⟩:=(h.Oz hbi).eZ hlt;injection e6 with e6;injection e6 with e61 e62 e63;subst e61;subst e62;rw[<-Hs.out]at q1;rw[<-Hp.out]at q2;by_cases hneg:(m:Int)-(j:Int)*s<=0
     . skip;have hI:(0:Int).toNat=nd m ((j:Int)*s):=by unfold nd;omega
       have hI0:(0:Int)<=0:=(by omega);have hI5:(0:Int)<=500:=(by omega);have hRl:=eH r (0:Int).toNat
       have hRv : ∀ hq : (0 : Int).toNat < (least r (0 : Int).toNat).length, (least r (0 : Int).toNat)[(0 : Int).toNat] = lp r (nd m ((j : Int) * s)) := fun hq => by
        have:=xI r (0:Int).toNat (0:Int).toNat (Nat.le_refl _);rw[List.getD_eq_getElem?_getD,List.getElem?_eq_getElem (by omega),Option.getD_some]at this;rw[this,hI]
       have HI:=OA hI;have HRl:=OA hRl;have HRv:=OA hRv;clear hI hRl hRv;by_cases hjK:j=K
       . subst hjK;have hf:=HKf.out;obtain⟨hf1,hf2⟩:=uR hf;simp only at hf1 hf2;have Hlpq:=OA hf1;have Hlp0:=OA hf2;rcases Classical.em (r=[])with hre|hre
         . have t1 : ((r.length : Int) == 0) = true := by rw [hre]; rfl
           have t2:((0:Int)==0)=true:=by
            rw[hre,qN]at hf;simp only[Bool.and_eq_true,decide_eq_true_eq]at hf;have:=HI.out;first|(simp;done)|(rw[beq_iff_eq];omega)
           have t3:(lf-(j:Int)*p==0)=true:=by rw[hre,qN]at hf;simp only[Bool.and_eq_true,decide_eq_true_eq]at hf;rw[beq_iff_eq];omega
           have Hre:=OA hre;clear hre hf hf1 hf2
           first
             |exact absurd t2 (by rw[beq_iff_eq];omega)
             | clear t2
               have own1K:aC 3 1 aY w.heap.size wr (.slice A' k c') out:=own;have H8:Hid ((out.length+1)*8<=140737488355328):=OA (by rw[Hout.out];omega);have HM:Hid (out.length+1<=maxLen):=OA (by rw[Hout.out];unfold maxLen;omega);have hlst:=h.Oz hbi;obtain⟨b7,off7,e7,hb7,y0,y1⟩:=hlst.eZ hlt;injection e7 with e7;injection e7 with e71 e72 e73;subst e71;subst e72;rw[<-Hs.out]at y0;rw[<-Hp.out]at y1;clear hlst;have HB3:=OA hbi;go_wp2_with (at_builtin;go_must (refine aG (enc:=aY) fA aL jD HB3.out own1K j H8.out HM.out rfl _ _ rfl rfl rfl ?_);intro v3 w3 own3 hb3 hg3 hd3;obtain⟨A3,c3,rfl,hc3,hm3⟩:=own3.form;obtain⟨b8,off8,e8,hb8,z0,z1⟩:=(h.Oz hb3).eZ hlt;injection e8 with e8;injection e8 with e81 e82 e83;subst e81;subst e82;rw[<-Hs.out]at z0;rw[<-Hp.out]at z1)
               all_goals
                 have hnd:nd m ((j:Int)*s)=((m:Int)-(j:Int)*s).toNat:=rfl
                 have HG2:Hid ((out++[(j:Int)]).length=k+1/\(out++[(j:Int)])++choose (l.drop (k+1)) (nd m ((j:Int)*s)) (lp (l.drop (k+1)) (nd m ((j:Int)*s)))=choose l n L/\0<=lp (l.drop (k+1)) (nd m ((j:Int)*s))):=by
                  rw[<-Hr.out];refine OA ⟨by simp[Hout.out],?_,Hlp0.out⟩;have:=HG.out;rw[Hlpq.out]at this;simpa using this
                 have hlpq:lp (l.drop (k+1)) (nd m ((j:Int)*s))=lf-j*p:=by rw[<-Hr.out,Hlpq.out]
                 have own4:aC 3 1 aY w.heap.size w3 (.slice A3 (k+1) c3) (out++[(j:Int)]):=by
                  have e:(out++[(j:Int)]).length=k+1:=(by simp[Hout.out]);rw[<-e];exact own3
                 go_roundw
                 case rel=>
                  refine⟨k+1,nd m ((j:Int)*s),out++[(j:Int)],A3,c3,by omega,by omega,by go_num,?_,by rw[hlpq],by rw[Hout.out],HG2,own4,hb3⟩
                  first
                    |(rw[show nd m ((j:Int)*s)=0 by omega];rfl)
                    |rw[show(m:Int)-(j:Int)*s=(nd m ((j:Int)*s):Nat) by omega]
                    |(rw[show(nd m ((j:Int)*s):Nat)=(if(0:Int)<(m:Int)-(j:Int)*s then(m:Int)-(j:Int)*s else 0) by split<;>omega])
                    |(rw[show(nd m ((j:Int)*s):Nat)=(if(m:Int)-(j:Int)*s<=0 then 0 else(m:Int)-(j:Int)*s) by split<;>omega])
                 case measure=>simp[intOf];omega
         . have t1 : ((r.length : Int) == 0) = false := by simpa using hre
           have t4:0<r.length:=List.length_pos_iff.2 hre;have t5:0<=lf-(j:Int)*p:=(by omega);have Hre:=OA hre;clear hre hf hf1 hf2;go_wp2_with fail
           refine(rR _ r 0 _ ((Hr6.out).Oz hbi6) (OA HFd.out.tail) hI0 hI5 hr5).mono ?_;rintro e w9 ⟨A9,c9,rfl,own9,hb9⟩;obtain⟨R,hR⟩:=Oy (least r (0:Int).toNat);have hmR:(0:Int).toNat<(least r (0:Int).toNat).length:=by have:=HRl.out;omega
           obtain⟨q,hq⟩:=Oy (lp r (nd m ((j:Int)*s)));obtain⟨g,rfl,hB,hg⟩:=own9.split hmR;have hcell:=own9.slot aL one_pos hmR 0 (.int .i64 q) (by rw[HRv.out hmR,hq];rfl);rw[mul_one,add_zero]at hcell;try rw[toNat_zero]at hcell
           rw[<-hR]at own9 hmR⊢;have hmI:(0:Int)<R.length:=(by omega);try rw[toNat_zero]at hmR
           have Hq:=OA hq;have HR:=OA hR;clear hq hR;have t6:(q==lf-(j:Int)*p)=true:=(by rw[beq_iff_eq,Hq.out,Hlpq.out]);have own10:=own.below hb9;have B10:=hbi.tr hb9;have own1K:aC 3 1 aY w.heap.size w9 (.slice A' k c') out:=own10;have H8:Hid ((out.length+1)*8<=140737488355328):=OA (by rw[Hout.out];omega);have HM:Hid (out.length+1<=maxLen):=OA (by rw[Hout.out];unfold maxLen;omega);have hlst:=h.Oz B10;obtain⟨b7,off7,e7,hb7,y0,y1⟩:=hlst.eZ hlt;injection e7 with e7;injection e7 with e71 e72 e73;subst e71;subst e72;rw[<-Hs.out]at y0;rw[<-Hp.out]at y1;clear hlst;have HB3:=OA B10;go_wp2_with (at_builtin;go_must (refine aG (enc:=aY) fA aL jD HB3.out own1K j H8.out HM.out rfl _ _ rfl rfl rfl ?_);intro v3 w3 own3 hb3 hg3 hd3;obtain⟨A3,c3,rfl,hc3,hm3⟩:=own3.form;obtain⟨b8,off8,e8,hb8,z0,z1⟩:=(h.Oz hb3).eZ hlt;injection e8 with e8;injection e8 with e81 e82 e83;subst e81;subst e82;rw[<-Hs.out]at z0;rw[<-Hp.out]at z1)
           all_goals
             have hnd:nd m ((j:Int)*s)=((m:Int)-(j:Int)*s).toNat:=rfl
             have HG2:Hid ((out++[(j:Int)]).length=k+1/\(out++[(j:Int)])++choose (l.drop (k+1)) (nd m ((j:Int)*s)) (lp (l.drop (k+1)) (nd m ((j:Int)*s)))=choose l n L/\0<=lp (l.drop (k+1)) (nd m ((j:Int)*s))):=by
              rw[<-Hr.out];refine OA ⟨by simp[Hout.out],?_,Hlp0.out⟩;have:=HG.out;rw[Hlpq.out]at this;simpa using this
             have hlpq:lp (l.drop (k+1)) (nd m ((j:Int)*s))=lf-j*p:=by rw[<-Hr.out,Hlpq.out]
             have own4:aC 3 1 aY w.heap.size w3 (.slice A3 (k+1) c3) (out++[(j:Int)]):=by
              have e:(out++[(j:Int)]).length=k+1:=(by simp[Hout.out]);rw[<-e];exact own3
             go_roundw
             case rel=>
              refine⟨k+1,nd m ((j:Int)*s),out++[(j:Int)],A3,c3,by omega,by omega,by go_num,?_,by rw[hlpq],by rw[Hout.out],HG2,own4,hb3⟩
              first
                |(rw[show nd m ((j:Int)*s)=0 by omega];rfl)
                |rw[show(m:Int)-(j:Int)*s=(nd m ((j:Int)*s):Nat) by omega]
                |(rw[show(nd m ((j:Int)*s):Nat)=(if(0:Int)<(m:Int)-(j:Int)*s then(m:Int)-(j:Int)*s else 0) by split<;>omega])
                |(rw[show(nd m ((j:Int)*s):Nat)=(if(m:Int)-(j:Int)*s<=0 then 0 else(m:Int)-(j:Int)*s) by split<;>omega])
             case measure=>simp[intOf];omega
       . have hf := HKn.out j (by omega);rcases Classical.em (r=[])with hre|hre
         . have t1 : ((r.length : Int) == 0) = true := by rw [hre]; rfl
           have t4:decide ((0:Int)<(r.length:Int))=false:=by rw[hre];rfl
           have t4':decide (0<r.length)=false:=by rw[hre];rfl
           have hcond:((0:Int)==0)=false∨(((0:Int)==0)=true/\(lf-(j:Int)*p==0)=false):=by
            rw[hre,qN]at hf;simp only[Bool.and_eq_false_iff,decide_eq_false_iff_not]at hf;have:=HI.out;rw[beq_eq_false_iff_ne,beq_iff_eq,beq_eq_false_iff_ne];omega
           have Hre:=OA hre;clear hre hf;rcases hcond with t2|⟨t2,t3⟩
           . first
              |exact absurd t2 (by decide)
              | go_wp2
                go_roundw
                case rel=>exact⟨j+1,by omega,by go_num,own,hbi,hbi6⟩
                case measure=>simp[intOf];omega
           . first
              |exact absurd t2 (by rw[beq_iff_eq];omega)
              | clear t2
                go_wp2;go_roundw
                case rel=>exact⟨j+1,by omega,by go_num,own,hbi,hbi6⟩
                case measure=>simp[intOf];omega
         . have t1 : ((r.length : Int) == 0) = false := by simpa using hre
           have t4:0<r.length:=List.length_pos_iff.2 hre;rw[EB HFd.out.tail hre,decide_eq_false_iff_not]at hf;have Hf:=OA hf;have Hre:=OA hre;clear hre hf;by_cases t5:0<=lf-(j:Int)*p
           . go_wp2_with fail
             refine(rR _ r 0 _ ((Hr6.out).Oz hbi6) (OA HFd.out.tail) hI0 hI5 hr5).mono ?_;rintro e w9 ⟨A9,c9,rfl,own9,hb9⟩;obtain⟨R,hR⟩:=Oy (least r (0:Int).toNat);have hmR:(0:Int).toNat<(least r (0:Int).toNat).length:=by have:=HRl.out;omega
             obtain⟨q,hq⟩:=Oy (lp r (nd m ((j:Int)*s)));obtain⟨g,rfl,hB,hg⟩:=own9.split hmR;have hcell:=own9.slot aL one_pos hmR 0 (.int .i64 q) (by rw[HRv.out hmR,hq];rfl);rw[mul_one,add_zero]at hcell;try rw[toNat_zero]at hcell
             rw[<-hR]at own9 hmR⊢;have hmI:(0:Int)<R.length:=(by omega);try rw[toNat_zero]at hmR
             have Hq:=OA hq;have HR:=OA hR;clear hq hR;have t6:(q==lf-(j:Int)*p)=false:=by rw[beq_eq_false_iff_ne,Hq.out];exact Hf.out
             go_wp2;go_roundw
             case rel=>exact⟨j+1,by omega,by go_num,own.below hb9,hbi.tr hb9,hbi6.tr hb9⟩
             case measure=>simp[intOf];omega
           . go_wp2;go_roundw
             case rel=>exact⟨j+1,by omega,by go_num,own,hbi,hbi6⟩
             case measure=>simp[intOf];omega
     . skip;have hI:(((m:Int)-(j:Int)*s):Int).toNat=nd m ((j:Int)*s):=by unfold nd;omega
       have hI0:(0:Int)<=((m:Int)-(j:Int)*s):=(by omega);have hI5:(((m:Int)-(j:Int)*s):Int)<=500:=(by omega);have hRl:=eH r (((m:Int)-(j:Int)*s):Int).toNat
       have hRv : ∀ hq : (((m : Int) - (j : Int) * s) : Int).toNat < (least r (((m : Int) - (j : Int) * s) : Int).toNat).length, (least r (((m : Int) - (j : Int) * s) : Int).toNat)[(((m : Int) - (j : Int) * s) : Int).toNat] = lp r (nd m ((j : Int) * s)) := fun hq => by
        have:=xI r (((m:Int)-(j:Int)*s):Int).toNat (((m:Int)-(j:Int)*s):Int).toNat (Nat.le_refl _);rw[List.getD_eq_getElem?_getD,List.getElem?_eq_getElem (by omega),Option.getD_some]at this;rw[this,hI]
       have HI:=OA hI;have HRl:=OA hRl;have HRv:=OA hRv;clear hI hRl hRv;by_cases hjK:j=K
       . subst hjK;have hf:=HKf.out;obtain⟨hf1,hf2⟩:=uR hf;simp only at hf1 hf2;have Hlpq:=OA hf1;have Hlp0:=OA hf2;rcases Classical.em (r=[])with hre|hre
         . have t1 : ((r.length : Int) == 0) = true := by rw [hre]; rfl
           have t2:((((m:Int)-(j:Int)*s):Int)==0)=true:=by
            rw[hre,qN]at hf;simp only[Bool.and_eq_true,decide_eq_true_eq]at hf;have:=HI.out;first|(simp;done)|(rw[beq_iff_eq];omega)
           have t3:(lf-(j:Int)*p==0)=true:=by rw[hre,qN]at hf;simp only[Bool.and_eq_true,decide_eq_true_eq]at hf;rw[beq_iff_eq];omega
           have Hre:=OA hre;clear hre hf hf1 hf2
           first
             |exact absurd t2 (by rw[beq_iff_eq];omega)
             | clear t2
               have own1K:aC 3 1 aY w.heap.size wr (.slice A' k c') out:=own;have H8:Hid ((out.length+1)*8<=140737488355328):=OA (by rw[Hout.out];omega);have HM:Hid (out.length+1<=maxLen):=OA (by rw[Hout.out];unfold maxLen;omega);have hlst:=h.Oz hbi;obtain⟨b7,off7,e7,hb7,y0,y1⟩:=hlst.eZ hlt;injection e7 with e7;injection e7 with e71 e72 e73;subst e71;subst e72;rw[<-Hs.out]at y0;rw[<-Hp.out]at y1;clear hlst;have HB3:=OA hbi;go_wp2_with (at_builtin;go_must (refine aG (enc:=aY) fA aL jD HB3.out own1K j H8.out HM.out rfl _ _ rfl rfl rfl ?_);intro v3 w3 own3 hb3 hg3 hd3;obtain⟨A3,c3,rfl,hc3,hm3⟩:=own3.form;obtain⟨b8,off8,e8,hb8,z0,z1⟩:=(h.Oz hb3).eZ hlt;injection e8 with e8;injection e8 with e81 e82 e83;subst e81;subst e82;rw[<-Hs.out]at z0;rw[<-Hp.out]at z1)
               all_goals
                 have hnd:nd m ((j:Int)*s)=((m:Int)-(j:Int)*s).toNat:=rfl
                 have HG2:Hid ((out++[(j:Int)]).length=k+1/\(out++[(j:Int)])++choose (l.drop (k+1)) (nd m ((j:Int)*s)) (lp (l.drop (k+1)) (nd m ((j:Int)*s)))=choose l n L/\0<=lp (l.drop (k+1)) (nd m ((j:Int)*s))):=by
                  rw[<-Hr.out];refine OA ⟨by simp[Hout.out],?_,Hlp0.out⟩;have:=HG.out;rw[Hlpq.out]at this;simpa using this
                 have hlpq:lp (l.drop (k+1)) (nd m ((j:Int)*s))=lf-j*p:=by rw[<-Hr.out,Hlpq.out]
                 have own4:aC 3 1 aY w.heap.size w3 (.slice A3 (k+1) c3) (out++[(j:Int)]):=by
                  have e:(out++[(j:Int)]).length=k+1:=(by simp[Hout.out]);rw[<-e];exact own3
                 go_roundw
                 case rel=>
                  refine⟨k+1,nd m ((j:Int)*s),out++[(j:Int)],A3,c3,by omega,by omega,by go_num,?_,by rw[hlpq],by rw[Hout.out],HG2,own4,hb3⟩
                  first
                    |(rw[show nd m ((j:Int)*s)=0 by omega];rfl)
                    |rw[show(m:Int)-(j:Int)*s=(nd m ((j:Int)*s):Nat) by omega]
                    |(rw[show(nd m ((j:Int)*s):Nat)=(if(0:Int)<(m:Int)-(j:Int)*s then(m:Int)-(j:Int)*s else 0) by split<;>omega])
                    |(rw[show(nd m ((j:Int)*s):Nat)=(if(m:Int)-(j:Int)*s<=0 then 0 else(m:Int)-(j:Int)*s) by split<;>omega])
                 case measure=>simp[intOf];omega
         . have t1 : ((r.length : Int) == 0) = false := by simpa using hre
           have t4:0<r.length:=List.length_pos_iff.2 hre;have t5:0<=lf-(j:Int)*p:=(by omega);have Hre:=OA hre;clear hre hf hf1 hf2;go_wp2_with fail
           refine(rR _ r ((m:Int)-(j:Int)*s) _ ((Hr6.out).Oz hbi6) (OA HFd.out.tail) hI0 hI5 hr5).mono ?_;rintro e w9 ⟨A9,c9,rfl,own9,hb9⟩;obtain⟨R,hR⟩:=Oy (least r (((m:Int)-(j:Int)*s):Int).toNat);have hmR:(((m:Int)-(j:Int)*s):Int).toNat<(least r (((m:Int)-(j:Int)*s):Int).toNat).length:=by have:=HRl.out;omega
           obtain⟨q,hq⟩:=Oy (lp r (nd m ((j:Int)*s)));obtain⟨g,rfl,hB,hg⟩:=own9.split hmR;have hcell:=own9.slot aL one_pos hmR 0 (.int .i64 q) (by rw[HRv.out hmR,hq];rfl);rw[mul_one,add_zero]at hcell;try rw[toNat_zero]at hcell
           rw[<-hR]at own9 hmR⊢;have hmI:(((m:Int)-(j:Int)*s):Int)<R.length:=(by omega);try rw[toNat_zero]at hmR
           have Hq:=OA hq;have HR:=OA hR;clear hq hR;have t6:(q==lf-(j:Int)*p)=true:=(by rw[beq_iff_eq,Hq.out,Hlpq.out]);have own10:=own.below hb9;have B10:=hbi.tr hb9;have own1K:aC 3 1 aY w.heap.size w9 (.slice A' k c') out:=own10;have H8:Hid ((out.length+1)*8<=140737488355328):=OA (by rw[Hout.out];omega);have HM:Hid (out.length+1<=maxLen):=OA (by rw[Hout.out];unfold maxLen;omega);have hlst:=h.Oz B10;obtain⟨b7,off7,e7,hb7,y0,y1⟩:=hlst.eZ hlt;injection e7 with e7;injection e7 with e71 e72 e73;subst e71;subst e72;rw[<-Hs.out]at y0;rw[<-Hp.out]at y1;clear hlst;have HB3:=OA B10;go_wp2_with (at_builtin;go_must (refine aG (enc:=aY) fA aL jD HB3.out own1K j H8.out HM.out rfl _ _ rfl rfl rfl ?_);intro v3 w3 own3 hb3 hg3 hd3;obtain⟨A3,c3,rfl,hc3,hm3⟩:=own3.form;obtain⟨b8,off8,e8,hb8,z0,z1⟩:=(h.Oz hb3).eZ hlt;injection e8 with e8;injection e8 with e81 e82 e83;subst e81;subst e82;rw[<-Hs.out]at z0;rw[<-Hp.out]at z1)
           all_goals
             have hnd:nd m ((j:Int)*s)=((m:Int)-(j:Int)*s).toNat:=rfl
             have HG2:Hid ((out++[(j:Int)]).length=k+1/\(out++[(j:Int)])++choose (l.drop (k+1)) (nd m ((j:Int)*s)) (lp (l.drop (k+1)) (nd m ((j:Int)*s)))=choose l n L/\0<=lp (l.drop (k+1)) (nd m ((j:Int)*s))):=by
              rw[<-Hr.out];refine OA ⟨by simp[Hout.out],?_,Hlp0.out⟩;have:=HG.out;rw[Hlpq.out]at this;simpa using this
             have hlpq:lp (l.drop (k+1)) (nd m ((j:Int)*s))=lf-j*p:=by rw[<-Hr.out,Hlpq.out]
             have own4:aC 3 1 aY w.heap.size w3 (.slice A3 (k+1) c3) (out++[(j:Int)]):=by
              have e:(out++[(j:Int)]).length=k+1:=(by simp[Hout.out]);rw[<-e];exact own3
             go_roundw
             case rel=>
              refine⟨k+1,nd m ((j:Int)*s),out++[(j:Int)],A3,c3,by omega,by omega,by go_num,?_,by rw[hlpq],by rw[Hout.out],HG2,own4,hb3⟩
              first
                |(rw[show nd m ((j:Int)*s)=0 by omega];rfl)
                |rw[show(m:Int)-(j:Int)*s=(nd m ((j:Int)*s):Nat) by omega]
                |(rw[show(nd m ((j:Int)*s):Nat)=(if(0:Int)<(m:Int)-(j:Int)*s then(m:Int)-(j:Int)*s else 0) by split<;>omega])
                |(rw[show(nd m ((j:Int)*s):Nat)=(if(m:Int)-(j:Int)*s<=0 then 0 else(m:Int)-(j:Int)*s) by split<;>omega])
             case measure=>simp[intOf];omega
       . have hf := HKn.out j (by omega);rcases Classical.em (r=[])with hre|hre
         . have t1 : ((r.length : Int) == 0) = true := by rw [hre]; rfl
           have t4:decide ((0:Int)<(r.length:Int))=false:=by rw[hre];rfl
           have t4':decide (0<r.length)=false:=by rw[hre];rfl
           have hcond:((((m:Int)-(j:Int)*s):Int)==0)=false∨(((((m:Int)-(j:Int)*s):Int)==0)=true/\(lf-(j:Int)*p==0)=false):=by
            rw[hre,qN]at hf;simp only[Bool.and_eq_false_iff,decide_eq_false_iff_not]at hf;have:=HI.out;rw[beq_eq_false_iff_ne,beq_iff_eq,beq_eq_false_iff_ne];omega
           have Hre:=OA hre;clear hre hf;rcases hcond with t2|⟨t2,t3⟩
           . first
              |exact absurd t2 (by decide)
              | go_wp2
                go_roundw
                case rel=>exact⟨j+1,by omega,by go_num,own,hbi,hbi6⟩
                case measure=>simp[intOf];omega
           . first
              |exact absurd t2 (by rw[beq_iff_eq];omega)
              | clear t2
                go_wp2;go_roundw
                case rel=>exact⟨j+1,by omega,by go_num,own,hbi,hbi6⟩
                case measure=>simp[intOf];omega
         . have t1 : ((r.length : Int) == 0) = false := by simpa using hre
           have t4:0<r.length:=List.length_pos_iff.2 hre;rw[EB HFd.out.tail hre,decide_eq_false_iff_not]at hf;have Hf:=OA hf;have Hre:=OA hre;clear hre hf;by_cases t5:0<=lf-(j:Int)*p
           . go_wp2_with fail
             refine(rR _ r ((m:Int)-(j:Int)*s) _ ((Hr6.out).Oz hbi6) (OA HFd.out.tail) hI0 hI5 hr5).mono ?_;rintro e w9 ⟨A9,c9,rfl,own9,hb9⟩;obtain⟨R,hR⟩:=Oy (least r (((m:Int)-(j:Int)*s):Int).toNat);have hmR:(((m:Int)-(j:Int)*s):Int).toNat<(least r (((m:Int)-(j:Int)*s):Int).toNat).length:=by have:=HRl.out;omega
             obtain⟨q,hq⟩:=Oy (lp r (nd m ((j:Int)*s)));obtain⟨g,rfl,hB,hg⟩:=own9.split hmR;have hcell:=own9.slot aL one_pos hmR 0 (.int .i64 q) (by rw[HRv.out hmR,hq];rfl);rw[mul_one,add_zero]at hcell;try rw[toNat_zero]at hcell
             rw[<-hR]at own9 hmR⊢;have hmI:(((m:Int)-(j:Int)*s):Int)<R.length:=(by omega);try rw[toNat_zero]at hmR
             have Hq:=OA hq;have HR:=OA hR;clear hq hR;have t6:(q==lf-(j:Int)*p)=false:=by rw[beq_eq_false_iff_ne,Hq.out];exact Hf.out
             go_wp2;go_roundw
             case rel=>exact⟨j+1,by omega,by go_num,own.below hb9,hbi.tr hb9,hbi6.tr hb9⟩
             case measure=>simp[intOf];omega
           . go_wp2;go_roundw
             case rel=>exact⟨j+1,by omega,by go_num,own,hbi,hbi6⟩
             case measure=>simp[intOf];omega
  . go_wp2;go_ret;obtain rfl:k=l.length:=by omega
    obtain⟨g1,g2,g3⟩:=Hg.out;rw[List.drop_length,choose,List.append_nil]at g2;subst g2;rw[<-g1]at hown⊢;exact⟨_,_,rfl,hown,hbel⟩
end Go.Proofs.YtljfoohaapckeaaGreatDoor
