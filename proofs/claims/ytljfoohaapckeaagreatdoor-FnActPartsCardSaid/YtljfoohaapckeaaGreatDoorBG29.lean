/- The shortest way of flips, of the program: the walk. Conditions: the library's table of powers, as its text lays it. The shortest way of flips, of the reference: the walk. No conditions. Repairs, of both sides: the walks. No conditions but sizes. -/
import Derived.Test.YtljfoohaapckeaaGreatDoorBG22
import Derived.Test.YtljfoohaapckeaaGreatDoorBListI
import Derived.Test.YtljfoohaapckeaaGreatDoorBG6
import Derived.Test.YtljfoohaapckeaaGreatDoorBG20
import Derived.Test.YtljfoohaapckeaaGreatDoorBG27
import Derived.Lib.SliceRun
open _root_.Nat (zero_le)
open _root_.Go.Proofs.Tryz (prog results78 results155)
namespace Go.Proofs.YtljfoohaapckeaaGreatDoor
open Go.ChangeShapes Go.WideShapes Go.ChangeAt Go.RowKit
set_option linter.unusedVariables false
set_option linter.unusedSimpArgs false
set_option maxHeartbeats 4000000
set_option maxRecDepth 100000
theorem CG {α : Type} {p : α -> Bool} : ∀ {l : List α} {t : Nat} (h : t < l.length), (∀ j (hj : j < t), p (l[j]'(by omega)) = false) -> p l[t] = true -> l.find? p = some l[t]
  |[],t,h,_,_=>by simp at h
  | a :: l, 0, h, _, e => by
   have e':p a=true:=e;rw[List.find?_cons_of_pos e'];rfl
  | a :: l, t + 1, h, hn, e => by
   have e1:p a=false:=hn 0 (Nat.succ_pos _);rw[List.find?_cons_of_neg (by rw[e1];decide)];exact CG (by simpa using h) (fun j hj=>hn (j+1) (by omega)) e
theorem nC {T:List (List Dm)} {m:List Dm} (h:m∈T):mX T m=((ix T m:Nat):Int):=if_pos h
theorem rV {T:List (List Dm)} {m:List Dm} (h:¬m∈T):mX T m= -1:=if_neg h
theorem Bb {rows:List Int} {a b:List Dm} (h:¬(a∈aH rows/\b∈aH rows/\0<=rH (aH rows) (ix (aH rows) b) (ix (aH rows) a))):EP rows a b=false/\Ck rows a b=[]:=by
 have e:EP rows a b=false:=by
  rw[Bool.eq_false_iff];intro q;unfold EP at q;simp only[Bool.and_eq_true,decide_eq_true_eq]at q;exact h ⟨q.1.1,q.1.2,q.2⟩
 exact⟨e,by unfold Ck;rw[e];rfl⟩
theorem KP {rows:List Int} {a b:List Dm} (h1:a∈aH rows) (h2:b∈aH rows) (h3:0<=rH (aH rows) (ix (aH rows) b) (ix (aH rows) a)):EP rows a b=true/\Ck rows a b=sZ (aH rows) (rH (aH rows) (ix (aH rows) b)) (rH (aH rows) (ix (aH rows) b) (ix (aH rows) a)).toNat (ix (aH rows) a):=by
 have e:EP rows a b=true:=by
  unfold EP;simp only[Bool.and_eq_true,decide_eq_true_eq];exact⟨⟨h1,h2⟩,h3⟩
 exact⟨e,by unfold Ck;rw[if_pos e]⟩
theorem Ay {T:List (List Dm)} {f:Nat->Int} {i t:Nat} (h:t<(dW (til T i)).length) (hn:∀j (hj:j<t) (h':j<(dW (til T i)).length),¬f (sW T i (dW (til T i))[j])=f i-1) (he:f (sW T i (dW (til T i))[t])=f i-1):Gi T f i=some (dW (til T i))[t]:=by
 unfold Gi;exact CG h (fun j hj=>by rw[decide_eq_false_iff_not];exact hn j hj (by omega)) (decide_eq_true he)
theorem MZ (v va vb:Value) (rows:List Int) (a b:List Dm) (w:World) (h:Rd 1 bH w v rows) (ha:Rd 3 aT w va a) (hb:Rd 3 aT w vb b) (ht:Tab w):Calls prog 78 #[.agg #[v],va,vb] w (gV 70 2 dE (Ck rows a b) (EP rows a b) w):=by
 have B0:=(Below.refl w.heap.size w).al (.cells #[v] 26);obtain⟨Aa,ca,rfl,_,_⟩:=ha.form;obtain⟨Ab,cb,rfl,_,_⟩:=hb.form;have hFS:=Dt rows;obtain⟨T,hT⟩:=Qi (aH rows);have hTo:∀t∈T,(∀d∈t,aJ d=true)/\t.length<=64:=fun t ht=>by rw[hT]at ht;exact⟨OB ht,jT ht⟩
 have cL:∀(W:World),Rd 1 bH W v rows->Calls prog 130 #[.agg #[v]] W (Ci T W):=fun W hW=>by rw[hT];exact EZ v rows W hW
 rw[<-hT]at hFS;have HTt:=Qk ht;have HT:=Qk hT;have HFS:=Qk hFS;have HTo:=Qk hTo;have HCL:=Qk cL;have hsm:=hFS.sm;clear ht hT hFS hTo cL;go_enter Tryz.func78,Tryz.ntmps78
 go_wp2_with fail
 refine(HCL.out _ (h.Qj B0)).mono ?_;rintro e w1 ⟨A,c,rfl,oT,hb1⟩;have B1:=B0.tr hb1;have oT:=oT.mono B0.size;go_wp2_with fail
 refine(tF _ _ T a _ oT (ha.Qj B1)).mono ?_;rintro e w2 ⟨rfl,hb2⟩;have B2:=B1.tr hb2;have oT:=oT.below hb2;go_wp2_with fail
 refine(tF _ _ T b _ oT (hb.Qj B2)).mono ?_;rintro e w3 ⟨rfl,hb3⟩;have B3:=B2.tr hb3;have oT:=oT.below hb3;by_cases hma:a∈T
 . rw[nC hma];obtain⟨hia,hia2⟩:=mW hma;obtain⟨i,hi⟩:=Qi (ix T a);rw[<-hi]at hia⊢;have hti:til T i=a:=by rw[iO hia];have:=hia2;simp only[<-hi]at this;exact this
   by_cases hmb:b∈T
   . rw[nC hmb];obtain⟨hkb,hkb2⟩:=mW hmb;obtain⟨k,hk⟩:=Qi (ix T b);rw[<-hk]at hkb⊢;have Hma:=Qk hma;have Hmb:=Qk hmb;have Hi:=Qk hi;have Hk:=Qk hk;have HTI:=Qk hti;have hsa:Small a.length:=by have:=(HTo.out a hma).2;unfold Small;omega
     clear hma hmb hi hk hti hia2 hkb2;go_wp2_with fail
     refine(LF _ T _ oT HFS.out HTo.out (HTt.out.below B3)).mono ?_;rintro e w4 ⟨A4,c4,rfl,oN,hb4⟩;have B4:=B3.tr hb4;have oT4:=oT.below hb4;go_wp2_with fail
     refine(MM _ T (nY T T.length) k _ oN (MI T) HFS.out hkb).mono ?_;rintro e w5 ⟨⟨A5,c5,rfl,oD,hb5⟩,hD⟩;have B5:=B4.tr hb5;have oT5:=oT4.below hb5;obtain⟨f,hf⟩:=Qi (rH T k);rw[<-hf]at oD hD;rw[jJ]at oD⊢;have hTp:0<T.length:=(by omega);obtain⟨gD,rfl,hgD,hgD2⟩:=oD.split (k:=0) (by rw[jJ];exact hTp);have cI:=kE oD hia;have hii:(i:Int)<(T.length:Int):=(by omega);obtain⟨vi,hvi⟩:=Qi (f i);rw[<-hvi]at cI;have Hf:=Qk hf;have HD:=Qk hD;have HVI:=Qk hvi;clear hf hD hvi;by_cases hneg:vi<0
     . have HN := Qk (Bb (rows := rows) (a := a) (b := b) (fun q => by
        have:=q.2.2;rw[<-HT.out,<-Hi.out,<-Hk.out,<-Hf.out,<-HVI.out]at this;omega))
       go_wp2;refine bodyPost_ret (v:= .tuple #[.slice none 0 0,.bool false]) (by simp[results,results78,go_sem]) rfl ⟨none,0,by rw[HN.out.1,HN.out.2];rfl,by rw[HN.out.2];exact aD.DD,B5⟩
     . have hwy := KP (rows := rows) (a := a) (b := b) (by rw [<- HT.out]; exact Hma.out) (by rw [<- HT.out]; exact Hmb.out) (by rw [<- HT.out, <- Hi.out, <- Hk.out, <- Hf.out, <- HVI.out]; omega);rw[<-HT.out,<-Hi.out,<-Hk.out,<-Hf.out,<-HVI.out]at hwy;obtain⟨W,hW⟩:=Qi (Ck rows a b);rw[<-hW]at hwy⊢;have hvm:=HD.out.top i;rw[<-HVI.out]at hvm;obtain⟨m,rfl⟩:∃m:Nat,vi=m:=⟨vi.toNat,by omega⟩;have hm3:m<=300:=(by omega);have hwm:=hwy.2;rw[Int.toNat_natCast]at hwm;have HW:=Qk hwy.1;have HWM:=Qk hwm;have HWL:=Qk hW;have ow0:=fK w5 (E:=70) (size:=2) (enc:=dE) w5.heap.size rfl w5.heap.size (Nat.le_refl _);have BM:=(Below.refl w5.heap.size w5).al (.cells #[] 70);clear hwy hwm hW hneg hvm;go_wp2_with fail
       refine(dH _ a _ (ha.Qj (B5.tr BM)) hsa).mono ?_;rintro e w6 ⟨A6,c6,rfl,oA,hb6⟩;have B6:=BM.tr hb6;have ow1:=ow0.below hb6;have oA1:=oA.mono BM.size;rw[<-HTI.out]at oA1;go_wp2;clear cI;go_loopg [9,12,13] m (fun gk s9 s12 s13 wr=>∃(i:Nat) (D:Option Addr) (d:Nat) (A7:Option Addr) (c7:Nat) (out:List Cl),i<T.length/\s9= .int .i64 i/\s12= .slice D out.length d/\aD 70 2 dE w5.heap.size wr (.slice D out.length d) out/\s13= .slice A7 (til T i).length c7/\aD 60 3 aV w5.heap.size wr (.slice A7 (til T i).length c7) (til T i)/\Hid (f i=gk/\out++sZ T f gk i=W)/\out.length+gk<=300/\Below w5.heap.size w5 wr)
       case atStart=>exact⟨i,_,_,_,_,[],hia,rfl,rfl,ow1,by rw[HTI.out],oA1,Qk ⟨HVI.out.symm,HWM.out.symm⟩,by simpa using hm3,B6⟩
       case round=>
        clear ow0 BM B6 ow1 oA1 oA hb6;obtain⟨i,D,d,A7,c7,out,hi,rfl,rfl,hown,rfl,hnow,Hg,hol,hbel⟩:=hrel;by_cases hg0:gk=0
        . subst hg0;have hik:i=k:=HD.out.zero i (by have:=Hg.out.1;simpa using this);have hee:((i:Int) !=(k:Int))=false:=by rw[hik];exact bne_self_eq_false _
          have HO:Hid (out=W):=Qk (by have:=Hg.out.2;rw[sZ,List.append_nil]at this;exact this);clear hik;go_wp2;refine bodyPost_ret (v:= .tuple #[.slice D out.length d,.bool true]) (by simp[results,results78,go_sem]) rfl ⟨D,d,by rw[HW.out,<-HWL.out,HO.out],by rw[<-HWL.out];have:=hown.mono B5.size;rw[HO.out]at this;exact this,B5.tr hbel⟩
        . obtain ⟨m', rfl⟩ : ∃ m', gk = m' + 1 := ⟨gk - 1, by omega⟩;have hstep:=EO HFS.out HD.out (i:=i) (m:=m') (by have:=Hg.out.1;omega)
          have hne:((i:Int) !=(k:Int))=true:=by
           rw[bne_iff_ne];intro e;have e2:i=k:=(by omega);have:=Hg.out.1;rw[e2,HD.out.st]at this;omega
          have HS:=Qk hstep;have hFi:f i=((m'+1:Nat):Int):=Hg.out.1;have HFi:=Qk hFi;clear hstep hg0 hFi;have hlen64:(til T i).length<=64:=by rw[iO hi];exact(HTo.out _ (List.getElem_mem hi)).2
          have hsl:Small (til T i).length:=by unfold Small;omega
          obtain⟨l,hl⟩:=Qi (til T i);rw[<-hl]at hnow hsl hlen64⊢;have HL:=Qk hl;clear hl;go_wp2_with fail
          refine(Ct _ l _ (hnow.rd aB (by decide))).mono ?_;rintro e w7 ⟨A8,c8,rfl,oF,hb7⟩;have hfl:=vM l;obtain⟨F,hF⟩:=Qi (dW l);rw[<-hF]at oF hfl⊢;have HF2:=Qk hF;have own7:=hown.below hb7;have now7:=hnow.below hb7;have B7:=hbel.tr hb7;clear hF hown hnow hbel hb7;go_wp2;go_loopw [9,12,13,51] (fun s9 s12 s13 s51 wr=>∃(t:Nat),t<=F.length/\s9= .int .i64 i/\s12= .slice D out.length d/\s13= .slice A7 l.length c7/\s51= .int .i64 t/\Hid (∀j (hj:j<t) (h':j<F.length),¬f (sW T i F[j])=f i-1)/\Below w7.heap.size w7 wr) (fun _ _ _ x _=>F.length-(intOf x).toNat)
          case atStart=>exact⟨0,zero_le _,rfl,rfl,rfl,rfl,Qk (fun j hj=>by omega),Below.refl _ _⟩
          case round=>
           obtain⟨t,ht,rfl,rfl,rfl,rfl,Hn,hbel⟩:=hrel;by_cases hlt:t<F.length
           . have oF2:=oF.below hbel;obtain⟨bk,off,rfl,hbk,q0,q1⟩:=(oF2.rd dX (by decide)).fB hlt;obtain⟨xy,hxy⟩:=Qi (F[t]);have hmem:xy∈dW l:=by rw[hxy,<-HF2.out];exact List.getElem_mem hlt
             rw[<-hxy]at q0 q1;obtain⟨x,y⟩:=xy;simp only at q0 q1;have hkd:¬kindOf l (x,y)=0:=lF.1 hmem
             have hnT:aS l (x,y)∈T:=by
              have:=(HFS.out.cl _ (List.getElem_mem hi) (x,y) (by rw[<-iO hi,<-HL.out];exact hkd)).1;rw[<-iO hi,<-HL.out]at this;exact this
             obtain⟨hat,hat2⟩:=mW hnT;obtain⟨at_,hat3⟩:=Qi (ix T (aS l (x,y)));have hnx:sW T i (x,y)=at_:=by unfold sW;rw[<-HL.out,hat3]
             have hti:(t:Int)<(F.length:Int):=(by omega);have B8:=hbel.al (.cells #[.int .i64 x,.int .i64 y] 70);have b8:=Blk.aZ wr 70 #[.int .i64 x,.int .i64 y];have now8:=now7.below B8;have HNT:=Qk hnT;have HKD:=Qk hkd;have HXY:=Qk hxy;have HMem:=Qk hmem;have HNX:=Qk hnx;rw[<-hat3]at hat;have hat2':til T at_=aS l (x,y):=by rw[iO hat];have:=hat2;simp only[<-hat3]at this;exact this
             have HA2:=Qk hat2';have HA3:=Qk hat3;clear hnT hkd hxy hmem hnx hat2 hat2' hat3 oF2;go_wp2_with fail
             refine(uO _ l x y _ (now8.rd aB (by decide)) hsl HKD.out).mono ?_;rintro e w9 ⟨A9,c9,rfl,oN,hb9⟩;have B9:=B8.tr hb9;have b9:=b8.bl hb9;have oT9:=(oT5.below B7).below B9;obtain⟨N,hN⟩:=Qi (aS l (x,y));rw[<-hN]at oN HNT HA2 HA3⊢;clear hN;go_wp2_with fail
             refine(tF _ _ T N _ oT9 (oN.rd aB (by decide))).mono ?_;rintro e wA ⟨rfl,hbA⟩;rw[nC HNT.out,<-HA3.out];have BA:=B9.tr hbA;have bA:=b9.bl hbA;have oDA:=(oD.below B7).below BA;have cT:=kE oDA hat;have cI:=kE oDA hi;have hatI:(at_:Int)<(T.length:Int):=(by omega);have hiI:(i:Int)<(T.length:Int):=(by omega);obtain⟨va,hva⟩:=Qi (f at_);rw[<-hva]at cT;rw[HFi.out]at cI;have HVA:=Qk hva;clear hva;have hvb: -1<=va:=by rw[HVA.out];exact HD.out.low _
             have BO:=B7.tr BA;have ownA:=own7.below BA;obtain⟨k_0,k_1⟩:=bA.n2;by_cases hve:va=(m':Int)
             . subst hve;have H8:Hid ((out.length+1)*16<=140737488355328):=Qk (by omega);have HM:Hid (out.length+1<=maxLen):=Qk (by unfold maxLen;omega)
               have HG : Hid (f at_ = (m' : Int) /\ (out ++ [(x, y)]) ++ sZ T f m' at_ = W) := Qk (by
                have hlt':t<(dW (til T i)).length:=by rw[<-HL.out,<-HF2.out];exact hlt
                have hFt:(dW (til T i))[t]=(x,y):=by
                 have:∀(G:List Cl),G=F->∀h:t<G.length,G[t]=(x,y):=fun G e h=>by subst e;exact HXY.out.symm
                 exact this _ (by rw[<-HL.out,<-HF2.out]) hlt'
                have hs := Ay (f := f) hlt' (fun j hj h' => by
                 have hj2:j<F.length:=(by omega);have:=Hn.out j hj hj2
                 have e:(dW (til T i))[j]=F[j]:=by
                  have:∀(G:List Cl),G=F->∀h:j<G.length,G[j]=F[j]:=fun G e h=>by subst e;rfl
                  exact this _ (by rw[<-HL.out,<-HF2.out]) h'
                 rw[e];exact this) (by rw[hFt,HNX.out,<-HVA.out,HFi.out];omega)
                rw[hFt]at hs;refine⟨HVA.out.symm,?_⟩;have h2:=Hg.out.2;rw[Il hs,HNX.out]at h2;rw[<-h2];simp)
               go_wp2_with fail
               go_quiet (fail)
               go_wp2_with (at_builtin;go_must (refine aP (enc:=dE) iY dX oneCell (below_drewN BO _) (ownA.below (below_drewN (Below.refl _ _) _)) ((x,y):Cl) H8.out HM.out (by simp) rfl _ _ rfl rfl rfl ?_);intro vB wB ownB hbB hgB hdB;obtain⟨AB,cB,rfl,hcB,hmB⟩:=ownB.form)
               go_roundg m'
               case measure=>omega
               case rel=>
                have oNA:=(oN.below hbA).below (below_drewN (Below.refl _ _) nq);have oNB:=aD.lC (oNA.alloc (.cells (dE (x,y)).toArray 70)) ((ownA.below (below_drewN (Below.refl _ _) nq)).alloc (.cells (dE (x,y)).toArray 70)) (by decide) hgB;have hsB:w5.heap.size<=(wr.alloc (.cells #[.int .i64 x,.int .i64 y] 70)).heap.size:=(B7.tr B8).size;have oNC:=oNB.mono hsB;rw[<-HA2.out]at oNC⊢;exact⟨at_,AB,cB,A9,c9,out++[(x,y)],hat,rfl,by simp,ownB,rfl,oNC,HG,by simp;omega,hbB⟩
             . go_wp2_with fail
               go_quiet (fail)
               go_wp2;go_roundw
               case rel => exact ⟨t + 1, by omega, rfl, rfl, rfl, by go_num, Qk (fun j hj h' => by
                rcases(by omega:j<t∨j=t)with h1|h1
                . exact Hn.out j h1 h'
                . subst h1;rw[<-HXY.out,HNX.out,<-HVA.out,HFi.out];omega),below_drewN BA _⟩
               case measure=>simp[intOf];omega
           . obtain rfl : t = F.length := by omega
             exfalso;obtain⟨c,h1,h2,h3,_,_⟩:=HS.out;have h4:=List.mem_of_find?_eq_some h1;rw[<-HL.out,<-HF2.out]at h4;obtain⟨j,hj,e⟩:=List.getElem_of_mem h4;refine Hn.out j hj hj ?_;rw[e,h3,HFi.out];omega
   . rw[rV hmb];have HN:=Qk (Bb (rows:=rows) (a:=a) (b:=b) (fun q=>hmb (by rw[HT.out];exact q.2.1)));go_wp2;refine bodyPost_ret (v:= .tuple #[.slice none 0 0,.bool false]) (by simp[results,results78,go_sem]) rfl ⟨none,0,by rw[HN.out.1,HN.out.2];rfl,by rw[HN.out.2];exact aD.DD,B3⟩
 . rw[rV hma];have HN:=Qk (Bb (rows:=rows) (a:=a) (b:=b) (fun q=>hma (by rw[HT.out];exact q.1)));go_wp2;refine bodyPost_ret (v:= .tuple #[.slice none 0 0,.bool false]) (by simp[results,results78,go_sem]) rfl ⟨none,0,by rw[HN.out.1,HN.out.2];rfl,by rw[HN.out.2];exact aD.DD,B3⟩
theorem dN.lC {α β:Type} {E0 E E2:TypeId} {size s2:Nat} {enc:α->List Value} {e2:β->List Value} {B B2:Nat} {w w':World} {v v2:Value} {ls:List (List α)} {l2:List β} (a:dN E0 E size enc B w v ls) (b:aD E2 s2 e2 B2 w v2 l2) (hne0:E0≠E2) (hne:E≠E2) (hg:w.grownBy w' v2.ownBlock):dN E0 E size enc B w' v ls:=by
 obtain⟨us,h1,h2,h3⟩:=a;exact⟨us,h1.lC b hne0 hg,h2,fun k u x hu hx=>(h3 k u x hu hx).lC b hne hg⟩
theorem LP {T:List (List Dm)} {i:Nat} (h:i<T.length):∃h':i<(lT T T.length).length,(lT T T.length)[i]=qZ T i:=⟨by rw[mZ];exact h,by simp[lT]⟩
theorem M0 {T:List (List Dm)} {i t:Nat} (h:t<(dW (til T i)).length):∃h':t<(qZ T i).length,(qZ T i)[t]=uE T i (dW (til T i))[t]:=⟨by unfold qZ;rw[List.length_map];exact h,by simp[qZ]⟩
theorem M5 (v va vb:Value) (rows:List Int) (a b:List Dm) (w:World) (h:Rd 1 bH w v rows) (ha:Rd 3 aT w va a) (hb:Rd 3 aT w vb b):Calls prog 155 #[.agg #[v],va,vb] w (gV 70 2 dE (Ck rows a b) (EP rows a b) w):=by
 obtain⟨Aa,ca,rfl,_,_⟩:=ha.form;obtain⟨Ab,cb,rfl,_,_⟩:=hb.form;have bX:=(Blk.aZ w 26 #[v]).alloc (.cells #[] 70);have B0:=((Below.refl w.heap.size w).al (.cells #[v] 26)).al (.cells #[] 70);have ow0:=fK (w.alloc (.cells #[v] 26)) (E:=70) (size:=2) (enc:=dE) (w.heap.size+1) (by simp) w.heap.size (by simp);have hFS:=Dt rows;obtain⟨T,hT⟩:=Qi (aH rows);have hTo:∀t∈T,t.length<=64:=fun t ht=>by rw[hT]at ht;exact jT ht
 have cL:∀(W:World),Rd 1 bH W v rows->Calls prog 198 #[.agg #[v]] W (Ci T W):=fun W hW=>by rw[hT];exact sO v rows W hW
 have cI:∀(u:Value) (m:List Dm) (W:World),Rd 1 bH W v rows->Rd 3 aT W u m->Calls prog 197 #[.agg #[v],u] W (Ret (.int .i64 (mX T m)) W):=fun u m W h1 h2=>by rw[hT];exact Cy v u rows m W h1 h2
 rw[<-hT]at hFS;have HT:=Qk hT;have HFS:=Qk hFS;have HTo:=Qk hTo;have HCL:=Qk cL;have HCI:=Qk cI;have hsm:=hFS.sm;clear hT hFS hTo cL cI;go_enter Tryz.func155,Tryz.ntmps155
 have z0:=bX.c1;go_wp2_with fail
 refine(HCI.out _ a _ (h.Qj B0) (ha.Qj B0)).mono ?_;rintro e w1 ⟨rfl,hb1⟩;have B1:=B0.tr hb1;have bX1:=bX.bl hb1;have ow1:=ow0.below hb1;clear z0;have z0:=bX1.c1;go_wp2_with fail
 refine(HCI.out _ b _ (h.Qj B1) (hb.Qj B1)).mono ?_;rintro e w2 ⟨rfl,hb2⟩;have B2:=B1.tr hb2;have bX2:=bX1.bl hb2;have ow2:=ow1.below hb2;clear z0 ow0 ow1 bX bX1 B0 B1;by_cases hma:a∈T
 . rw[nC hma];obtain⟨hia,hia2⟩:=mW hma;obtain⟨i,hi⟩:=Qi (ix T a);rw[<-hi]at hia⊢;by_cases hmb:b∈T
   . rw[nC hmb];obtain⟨hkb,hkb2⟩:=mW hmb;obtain⟨k,hk⟩:=Qi (ix T b);rw[<-hk]at hkb⊢;have Hma:=Qk hma;have Hmb:=Qk hmb;have Hi:=Qk hi;have Hk:=Qk hk;clear hma hmb hi hk hia2 hkb2;have z0:=bX2.c1;go_wp2_with fail
     refine(HCL.out _ (h.Qj B2)).mono ?_;rintro e w3 ⟨A,c,rfl,oT,hb3⟩;have B3:=B2.tr hb3;have ow3:=ow2.below hb3;go_wp2_with fail
     refine(JD _ T _ oT HFS.out HTo.out).mono ?_;rintro e w4 ⟨A4,c4,rfl,oL,hb4⟩;have B4:=B3.tr hb4;have oT4:=oT.below hb4;have ow4:=ow3.below hb4;go_wp2_with fail
     refine(MN _ T (lT T T.length) k _ oL (MJ T) HFS.out hkb).mono ?_;rintro e w5 ⟨⟨A5,c5,rfl,oD,hb5⟩,hD⟩;have B5:=B4.tr hb5;have oT5:=oT4.below hb5;have oL5:=oL.below hb5;have ow5:=ow4.below hb5;obtain⟨f,hf⟩:=Qi (rH T k);rw[<-hf]at oD hD;rw[jJ]at oD⊢;have hTp:0<T.length:=(by omega);obtain⟨gD,rfl,hgD,hgD2⟩:=oD.split (k:=0) (by rw[jJ];exact hTp);have cI:=kE oD hia;have hii:(i:Int)<(T.length:Int):=(by omega);obtain⟨vi,hvi⟩:=Qi (f i);rw[<-hvi]at cI;have Hf:=Qk hf;have HD:=Qk hD;have HVI:=Qk hvi;clear hf hD hvi bX2 z0 ow2 ow3 ow4 oT oT4 oL B2 B3 B4 hb3 hb4 hb5;by_cases hneg:vi<0
     . have HN := Qk (Bb (rows := rows) (a := a) (b := b) (fun q => by
        have:=q.2.2;rw[<-HT.out,<-Hi.out,<-Hk.out,<-Hf.out,<-HVI.out]at this;omega))
       go_wp2;refine bodyPost_ret (v:= .tuple #[.slice (some ⟨w.heap.size+1,0,none⟩) 0 0,.bool false]) (by simp[results,results155,go_sem]) rfl ⟨some ⟨w.heap.size+1,0,none⟩,0,by rw[HN.out.1,HN.out.2];rfl,by rw[HN.out.2];exact ow5,B5⟩
     . have hwy := KP (rows := rows) (a := a) (b := b) (by rw [<- HT.out]; exact Hma.out) (by rw [<- HT.out]; exact Hmb.out) (by rw [<- HT.out, <- Hi.out, <- Hk.out, <- Hf.out, <- HVI.out]; omega);rw[<-HT.out,<-Hi.out,<-Hk.out,<-Hf.out,<-HVI.out]at hwy;obtain⟨W,hW⟩:=Qi (Ck rows a b);rw[<-hW]at hwy;have hvm:=HD.out.top i;rw[<-HVI.out]at hvm;obtain⟨m,rfl⟩:∃m:Nat,vi=m:=⟨vi.toNat,by omega⟩;have hm3:m<=300:=(by omega);have hwm:=hwy.2;rw[Int.toNat_natCast]at hwm;have HW:=Qk hwy.1;have HWM:=Qk hwm;have HWL:=Qk hW;clear hwy hwm hW hneg hvm;go_wp2;clear cI;go_loopg [8,9] m (fun gk s8 s9 wr=>∃(i:Nat) (D:Option Addr) (d:Nat) (out:List Cl),i<T.length/\s9= .int .i64 i/\s8= .slice D out.length d/\aD 70 2 dE w.heap.size wr (.slice D out.length d) out/\dN 27 60 3 aV 0 wr (.slice A T.length c) T/\dN 24 3 1 aX 0 wr (.slice A4 T.length c4) (lT T T.length)/\aD 3 1 aX 0 wr (.slice (some ⟨gD,0,none⟩) T.length c5) (tT T.length f)/\Hid (f i=gk/\out++sZ T f gk i=W)/\out.length+gk<=300/\Below w.heap.size w wr)
       case atStart=>exact⟨i,_,_,[],hia,rfl,rfl,ow5,oT5.mono (zero_le _),oL5.mono (zero_le _),oD.mono (zero_le _),Qk ⟨HVI.out.symm,HWM.out.symm⟩,by simpa using hm3,B5⟩
       case round=>
        clear ow5 oT5 oL5 oD B5 hgD hgD2;obtain⟨i,D,d,out,hi,rfl,rfl,hown,oT,oL,oD,Hg,hol,hbel⟩:=hrel;by_cases hg0:gk=0
        . subst hg0;have hik:i=k:=HD.out.zero i (by have:=Hg.out.1;simpa using this);have hee:((i:Int) !=(k:Int))=false:=by rw[hik];exact bne_self_eq_false _
          have HO:Hid (out=W):=Qk (by have:=Hg.out.2;rw[sZ,List.append_nil]at this;exact this);clear hik;go_wp2;refine bodyPost_ret (v:= .tuple #[.slice D out.length d,.bool true]) (by simp[results,results155,go_sem]) rfl ⟨D,d,by rw[HW.out,<-HWL.out,HO.out],by rw[<-HWL.out];have:=hown;rw[HO.out]at this;exact this,hbel⟩
        . obtain ⟨m', rfl⟩ : ∃ m', gk = m' + 1 := ⟨gk - 1, by omega⟩;have hstep:=EO HFS.out HD.out (i:=i) (m:=m') (by have:=Hg.out.1;omega)
          have hne:((i:Int) !=(k:Int))=true:=by
           rw[bne_iff_ne];intro e;have e2:i=k:=(by omega);have:=Hg.out.1;rw[e2,HD.out.st]at this;omega
          have HS:=Qk hstep;have hFi:f i=((m'+1:Nat):Int):=Hg.out.1;have HFi:=Qk hFi;clear hstep hg0 hFi;have hiI:(i:Int)<(T.length:Int):=(by omega);obtain⟨gT,D1,d1,hAe,_,hgT,cT,tk⟩:=oT.pick hi;subst hAe;obtain⟨l,hl⟩:=Qi (til T i);rw[<-iO hi,<-hl]at cT tk;have HL:=Qk hl;clear hl;go_wp2_with fail
          refine(wV _ l _ (tk.rd aB (by decide))).mono ?_;rintro e w7 ⟨A8,c8,rfl,oF,hb7⟩;have hfl:=vM l;obtain⟨F,hF⟩:=Qi (dW l);rw[<-hF]at oF hfl⊢;have HF2:=Qk hF;have own7:=hown.below hb7;have oT7:=oT.below hb7;have oL7:=oL.below hb7;have oD7:=oD.below hb7;have B7:=hbel.tr hb7;obtain⟨hil,hil2⟩:=LP hi;obtain⟨gL,DL,dL,hAL,_,hgL,cL,oN⟩:=oL7.L9 hil;subst hAL;rw[hil2]at cL oN;have hNl:(qZ T i).length=F.length:=by unfold qZ;rw[List.length_map,<-HL.out,<-HF2.out]
          rw[hNl]at cL oN;have HNl:=Qk hNl;have HIL:=Qk hil;have HIL2:=Qk hil2;clear hF hown oT oL oD hbel hb7 tk cT hil2 hNl;go_wp2;go_loopw [8,9,15] (fun s8 s9 s15 wr=>∃(t:Nat),t<=F.length/\s9= .int .i64 i/\s8= .slice D out.length d/\s15= .int .i64 t/\Hid (∀j (hj:j<t) (h':j<F.length),¬f (sW T i F[j])=f i-1)/\Below w7.heap.size w7 wr) (fun _ _ x _=>F.length-(intOf x).toNat)
          case atStart=>exact⟨0,zero_le _,rfl,rfl,rfl,Qk (fun j hj=>by omega),Below.refl _ _⟩
          case round=>
           obtain⟨t,ht,rfl,rfl,rfl,Hn,hbel⟩:=hrel;by_cases hlt:t<F.length
           . have oF2:=oF.below hbel;obtain⟨bk,off,rfl,hbk,q0,q1⟩:=(oF2.rd dX (by decide)).fB hlt;obtain⟨xy,hxy⟩:=Qi (F[t]);have hmem:xy∈dW l:=by rw[hxy,<-HF2.out];exact List.getElem_mem hlt
             have hlt':t<(dW (til T i)).length:=by rw[<-HL.out,<-HF2.out];exact hlt
             have hFt:(dW (til T i))[t]=xy:=by
              have:∀(G:List Cl),G=F->∀h:t<G.length,G[t]=xy:=fun G e h=>by subst e;exact hxy.symm
              exact this _ (by rw[<-HL.out,<-HF2.out]) hlt'
             rw[<-hxy]at q0 q1;obtain⟨x,y⟩:=xy;simp only at q0 q1;have hkd:¬kindOf l (x,y)=0:=lF.1 hmem
             have hnT:aS l (x,y)∈T:=by
              have:=(HFS.out.cl _ (List.getElem_mem hi) (x,y) (by rw[<-iO hi,<-HL.out];exact hkd)).1;rw[<-iO hi,<-HL.out]at this;exact this
             obtain⟨hat,hat2⟩:=mW hnT;obtain⟨at_,hat3⟩:=Qi (ix T (aS l (x,y)));have hnx:sW T i (x,y)=at_:=by unfold sW;rw[<-HL.out,hat3]
             rw[<-hat3]at hat;obtain⟨hlk,hlk2⟩:=M0 hlt';have hlv:(qZ T i)[t]=(at_:Int):=by rw[hlk2,hFt];unfold uE;rw[<-HL.out,<-hat3]
             have oN2:=oN.below hbel;obtain⟨bL,offL,hDe,hbL,cN⟩:=(oN2.rd aI (by decide)).pY hlk;rw[hlv]at cN;have cL2:=(hbel.cell (p:=⟨gL,i,none⟩) hgL).trans cL;rw[hDe]at cL2;have oD2:=oD7.below hbel;have cT:=kE oD2 hat;have cI:=kE oD2 hi;have hti:(t:Int)<(F.length:Int):=(by omega);have hatI:(at_:Int)<(T.length:Int):=(by omega);obtain⟨va,hva⟩:=Qi (f at_);rw[<-hva]at cT;rw[HFi.out]at cI;have HVA:=Qk hva;have HXY:=Qk hxy;have HNX:=Qk hnx;have HFT:=Qk hFt;have HLT:=Qk hlt';have HLK:=Qk hlk;have HLV:=Qk hlv;have hvb: -1<=va:=by rw[hva];exact HD.out.low _
             have BO:=B7.tr hbel;have ownA:=own7.below hbel;clear hva hxy hnx hFt hmem hkd hnT hat2 hat3 hlk2 hlv oN2 oF2;by_cases hve:va=(m':Int)
             . subst hve;have H8:Hid ((out.length+1)*16<=140737488355328):=Qk (by omega);have HM:Hid (out.length+1<=maxLen):=Qk (by unfold maxLen;omega)
               have HG : Hid (f at_ = (m' : Int) /\ (out ++ [(x, y)]) ++ sZ T f m' at_ = W) := Qk (by
                have hs := Ay (f := f) HLT.out (fun j hj h' => by
                 have hj2:j<F.length:=(by omega);have:=Hn.out j hj hj2
                 have e:(dW (til T i))[j]=F[j]:=by
                  have:∀(G:List Cl),G=F->∀h:j<G.length,G[j]=F[j]:=fun G e h=>by subst e;rfl
                  exact this _ (by rw[<-HL.out,<-HF2.out]) h'
                 rw[e];exact this) (by rw[HFT.out,HNX.out,<-HVA.out,HFi.out];omega)
                rw[HFT.out]at hs;refine⟨HVA.out.symm,?_⟩;have h2:=Hg.out.2;rw[Il hs,HNX.out]at h2;rw[<-h2];simp)
               go_wp2_with fail
               go_quiet (fail)
               have hkeep : ∀ wB, ((wr.drewN nq).alloc (.cells (dE (x, y)).toArray 70)).grownBy wB (Value.slice D out.length d).ownBlock -> ∃ (dL2 bL2 offL2 : Nat), wB.cell? ⟨gL, i, none⟩ = some (.slice (some ⟨bL2, offL2, none⟩) F.length dL2) /\ wB.cell? ⟨bL2, offL2 + t, none⟩ = some (.int .i64 at_) := fun wB hgB => by
                have oXB:=((ownA.below (below_drewN (Below.refl _ _) nq)).alloc (.cells (dE (x,y)).toArray 70));have oLB:=dN.lC ((oL7.below (below_drewN hbel nq)).alloc (.cells (dE (x,y)).toArray 70)) oXB (by decide) (by decide) hgB;obtain⟨gL2,DL2,dL2,hA2,_,_,cLB,oNB⟩:=oLB.L9 HIL.out;have hg2:gL=gL2:=by injection hA2 with hA2;injection hA2
                subst hg2;rw[HIL2.out,HNl.out]at cLB oNB;obtain⟨bL2,offL2,hDe2,hbL2,cNB⟩:=(oNB.rd aI (by decide)).pY HLK.out;rw[HLV.out]at cNB;rw[hDe2]at cLB;exact⟨dL2,bL2,offL2,cLB,cNB⟩
               have HKeep:=Qk hkeep;clear hkeep;go_wp2_with (at_builtin;go_must (refine aP (enc:=dE) iY dX oneCell (below_drewN BO _) (ownA.below (below_drewN (Below.refl _ _) _)) ((x,y):Cl) H8.out HM.out (by simp) rfl _ _ rfl rfl rfl ?_);intro vB wB ownB hbB hgB hdB;obtain⟨AB,cB,rfl,hcB,hmB⟩:=ownB.form;obtain⟨dL2,bL2,offL2,cLB,cNB⟩:=HKeep.out _ hgB)
               have oXB:=((ownA.below (below_drewN (Below.refl _ _) nq)).alloc (.cells (dE (x,y)).toArray 70));have oLB:=dN.lC ((oL7.below (below_drewN hbel nq)).alloc (.cells (dE (x,y)).toArray 70)) oXB (by decide) (by decide) hgB;have oTB:=dN.lC ((oT7.below (below_drewN hbel nq)).alloc (.cells (dE (x,y)).toArray 70)) oXB (by decide) (by decide) hgB;have oDB:=aD.lC ((oD7.below (below_drewN hbel nq)).alloc (.cells (dE (x,y)).toArray 70)) oXB (by decide) hgB;go_roundg m'
               case measure=>omega
               case rel=>exact⟨at_,AB,cB,out++[(x,y)],hat,rfl,by simp,ownB,oTB,oLB,oDB,HG,by simp;omega,hbB⟩
             . go_wp2_with fail
               go_quiet (fail)
               go_wp2;go_roundw
               case rel => exact ⟨t + 1, by omega, rfl, rfl, by go_num, Qk (fun j hj h' => by
                rcases(by omega:j<t∨j=t)with h1|h1
                . exact Hn.out j h1 h'
                . subst h1;rw[<-HXY.out,HNX.out,<-HVA.out,HFi.out];omega),below_drewN hbel _⟩
               case measure=>simp[intOf];omega
           . obtain rfl : t = F.length := by omega
             exfalso;obtain⟨c,h1,h2,h3,_,_⟩:=HS.out;have h4:=List.mem_of_find?_eq_some h1;rw[<-HL.out,<-HF2.out]at h4;obtain⟨j,hj,e⟩:=List.getElem_of_mem h4;refine Hn.out j hj hj ?_;rw[e,h3,HFi.out];omega
   . rw[rV hmb];have HN:=Qk (Bb (rows:=rows) (a:=a) (b:=b) (fun q=>hmb (by rw[HT.out];exact q.2.1)));go_wp2;refine bodyPost_ret (v:= .tuple #[.slice (some ⟨w.heap.size+1,0,none⟩) 0 0,.bool false]) (by simp[results,results155,go_sem]) rfl ⟨some ⟨w.heap.size+1,0,none⟩,0,by rw[HN.out.1,HN.out.2];rfl,by rw[HN.out.2];exact ow2,B2⟩
 . rw[rV hma];have HN:=Qk (Bb (rows:=rows) (a:=a) (b:=b) (fun q=>hma (by rw[HT.out];exact q.1)));go_wp2;refine bodyPost_ret (v:= .tuple #[.slice (some ⟨w.heap.size+1,0,none⟩) 0 0,.bool false]) (by simp[results,results155,go_sem]) rfl ⟨some ⟨w.heap.size+1,0,none⟩,0,by rw[HN.out.1,HN.out.2];rfl,by rw[HN.out.2];exact ow2,B2⟩
theorem Dw (u v:Value) (a b:List Dm) (w:World) (h:Rd 3 aT w u a) (h':Rd 3 aT w v b) (hl:a.length<=1000):Calls prog 136 #[u,v] w (Ret (.int .i64 (chg a b:Nat)) w):=by
 obtain⟨A,c,rfl,hc,hm⟩:=h.form;go_enter Tryz.func136,Tryz.ntmps136
 go_wp2;go_loopw [5,10] (fun s5 s10 wr=>∃(k:Nat),k<=a.length/\s10= .int .i64 k/\s5= .int .i64 (uC a b k:Nat)/\Below w.heap.size w wr) (fun _ i _=>a.length-(intOf i).toNat)
 case atStart=>exact⟨0,zero_le _,rfl,rfl,Below.refl _ _⟩
 case round=>
  obtain⟨k,hk,rfl,rfl,hbel⟩:=hrel;by_cases hlt:k<a.length
  . obtain⟨bb,off,rfl,hb,q0,q1,q2⟩:=(h.Qj hbel).jL hlt;have hki:(k:Int)<(a.length:Int):=(by omega);have hst:=Cm (b:=b) hlt;have hle:=Im a b k;obtain⟨x,hx⟩:=Qi (a[k]);rw[<-hx]at q0 q1 q2 hst;obtain⟨x,y,s⟩:=x;simp only at q0 q1 q2;obtain⟨n,hn⟩:=Qi (uC a b k);rw[<-hn]at hst hle⊢;obtain⟨bo,hbo⟩:=Qi (b.contains (x,y,s));have cH:∀W:World,Rd 3 aT W v b->Calls prog 149 #[v,.agg #[.int .i64 x,.int .i64 y,.bool s]] W (Ret (.bool bo) W):=fun W hW=>by rw[hbo];exact gG v b x y s W hW
    rw[<-hbo]at hst;have HC:=Qk cH;have HST:=Qk hst;clear hx hn hbo cH hst;have B1:=hbel.al (.cells #[.int .i64 x,.int .i64 y,.bool s] 60);go_wp2_with fail
    refine(HC.out _ (h'.Qj B1)).mono ?_;rintro e w2 ⟨rfl,hb2⟩;have B2:=B1.tr hb2;have hn2:(n:Int)<=1000:=(by omega);cases bo
    . go_wp2;go_roundw
      case rel=>exact⟨k+1,by omega,by go_num,by rw[HST.out];go_num,B2⟩
      case measure=>simp[intOf];omega
    . go_wp2;go_roundw
      case rel=>exact⟨k+1,by omega,by go_num,by rw[HST.out];rfl,B2⟩
      case measure=>simp[intOf];omega
  . obtain rfl : k = a.length := by omega
    rw[ER];go_wp2;go_ret;exact⟨rfl,hbel⟩
theorem IQ (u v:Value) (a b:List Dm) (w:World) (h:Rd 3 aT w u a) (h':Rd 3 aT w v b) (hl:a.length<=1000):Calls prog 32 #[u,v] w (Ret (.int .i64 (chg a b:Nat)) w):=by
 obtain⟨A,c,rfl,hc,hm⟩:=h.form;go_enter Tryz.func32,Tryz.ntmps32
 go_wp2;go_loopw [5,6] (fun s5 s6 wr=>∃(k:Nat),k<=a.length/\s6= .int .i64 k/\s5= .int .i64 (uC a b k:Nat)/\Below w.heap.size w wr) (fun _ i _=>a.length-(intOf i).toNat)
 case atStart=>exact⟨0,zero_le _,rfl,rfl,Below.refl _ _⟩
 case round=>
  obtain⟨k,hk,rfl,rfl,hbel⟩:=hrel;by_cases hlt:k<a.length
  . obtain⟨bb,off,rfl,hb,q0,q1,q2⟩:=(h.Qj hbel).jL hlt;have hki:(k:Int)<(a.length:Int):=(by omega);have hst:=Cm (b:=b) hlt;have hle:=Im a b k;obtain⟨x,hx⟩:=Qi (a[k]);rw[<-hx]at q0 q1 q2 hst;obtain⟨x,y,s⟩:=x;simp only at q0 q1 q2;obtain⟨n,hn⟩:=Qi (uC a b k);rw[<-hn]at hst hle⊢;have HST:=Qk hst;clear hx hn hst;have hn2:(n:Int)<=1000:=(by omega);rcases hbo:b.contains (x,y,s)with _|_
    . go_wp2_with fail
      refine(vT v b x y s _ (h'.Qj hbel) hbo).mono ?_;rintro e w2 ⟨rfl,hb2⟩;have B2:=hbel.tr hb2;have HS2:Hid (uC a b (k+1)=n+1):=Qk (by rw[HST.out,hbo];rfl);clear hbo;go_wp2;go_roundw
      case rel=>exact⟨k+1,by omega,by go_num,by rw[HS2.out];go_num,B2⟩
      case measure=>simp[intOf];omega
    . obtain⟨r,hr0,hcr⟩:=pQ v b x y s wr (h'.Qj hbel) hbo;have HS2:Hid (uC a b (k+1)=n):=Qk (by rw[HST.out,hbo];rfl);clear hbo;go_wp2_with fail
      refine hcr.mono ?_;rintro e w2 ⟨rfl,hb2⟩;have B2:=hbel.tr hb2;go_wp2;go_roundw
      case rel=>exact⟨k+1,by omega,by go_num,by rw[HS2.out],B2⟩
      case measure=>simp[intOf];omega
  . obtain rfl : k = a.length := by omega
    rw[ER];go_wp2;go_ret;exact⟨rfl,hbel⟩
def JF (T:List (List Dm)) (B:Nat) (w:World) (v:Value) (o:Option (List Dm)):Prop:=(o=none/\v= .slice none 0 0)∨∃m g d,o=some m/\m∈T/\v= .slice (some ⟨g,0,none⟩) m.length d/\aD 60 3 aV B w (.slice (some ⟨g,0,none⟩) m.length d) m
theorem JF.below {T:List (List Dm)} {B:Nat} {w w':World} {v:Value} {o:Option (List Dm)} (h:JF T B w v o) (hb:Below w.heap.size w w'):JF T B w' v o:=by
 rcases h with h|⟨m,g,d,h1,h2,h3,h4⟩
 . exact .inl h
 . exact .inr ⟨m,g,d,h1,h2,h3,h4.below hb⟩
theorem E5 {l t:List Dm} {d:Dm} {o:Option (List Dm)} (h:t.contains d=true):jQ l d o t=o:=by unfold jQ;rw[if_pos h]
theorem Az {l t:List Dm} {d:Dm} (h:t.contains d=false):jQ l d none t=some t:=by unfold jQ;rw[if_neg (by rw[h];decide)]
theorem E8 {l t m:List Dm} {d:Dm} (h:t.contains d=false) (hl:chg l t<chg l m):jQ l d (some m) t=some t:=by unfold jQ;rw[if_neg (by rw[h];decide)];simp only;rw[if_pos hl]
theorem E9 {l t m:List Dm} {d:Dm} (h:t.contains d=false) (hl:¬chg l t<chg l m):jQ l d (some m) t=some m:=by unfold jQ;rw[if_neg (by rw[h];decide)];simp only;rw[if_neg hl]
theorem GR {B:Nat} (u v:Value) (T:List (List Dm)) (l:List Dm) (x y:Int) (s:Bool) (w:World) (h:dN 27 60 3 aV B w u T) (h':Rd 3 aT w v l) (hl:l.length<=1000) (hT:T.length<=300) (hne:∀t∈T,t≠[]):
 Calls prog 132 #[u,v,.agg #[.int .i64 x,.int .i64 y,.bool s]] w (fun e w'=>∃bv,e= .returned bv/\JF T B w' bv (fJ T l (x,y,s))/\Below w.heap.size w w'):=by
 obtain⟨A,c,rfl,hc,hm⟩:=h.form;obtain⟨Al,cl,rfl,_,_⟩:=h'.form;have B0:=(Below.refl w.heap.size w).al (.cells #[.int .i64 x,.int .i64 y,.bool s] 60);have bX:=Blk.aZ w 60 #[.int .i64 x,.int .i64 y,.bool s];obtain⟨W,hW⟩:=Qi (w.alloc (.cells #[.int .i64 x,.int .i64 y,.bool s] 60));rw[<-hW]at B0 bX;have HW:=Qk hW;have HNE:=Qk hne;clear hne hc hm;have hnil:=fun(w:World) (a:Option Addr) (n c:Nat)=>Lib.run_eql_slice_nil (P:=prog) w 27 60 a n c 0 0 Tryz.underlying27
 go_enter Tryz.func132,Tryz.ntmps132
 go_wp2;rw[<-hW];clear hW;go_loopw [7,12] (fun s7 s12 wr=>∃(k:Nat),k<=T.length/\s12= .int .i64 k/\JF T B wr s7 (kX T l (x,y,s) k)/\Below W.heap.size W wr) (fun _ i _=>T.length-(intOf i).toNat)
 case atStart=>exact⟨0,zero_le _,rfl,.inl ⟨rfl,rfl⟩,Below.refl _ _⟩
 case round=>
  obtain⟨k,hk,rfl,hbv,hbel⟩:=hrel;have B1:=B0.tr hbel;have bX1:=bX.bl hbel;by_cases hlt:k<T.length
  . obtain⟨g,D,d,rfl,hg1,hg2,c1,tk⟩:=(h.below B1).pick hlt;have hki:(k:Int)<(T.length:Int):=(by omega);have hst:=Ap (list:=l) (d:=(x,y,s)) hlt;have htT:T[k]∈T:=List.getElem_mem hlt;obtain⟨t,ht⟩:=Qi (T[k]);rw[<-ht]at c1 tk hst htT;have HST:=Qk hst;have HtT:=Qk htT
    obtain⟨_,gt,hD,_⟩:∃z g',D=some ⟨g',0,none⟩/\z=0:=by
     obtain⟨g',e,_,_⟩:=tk.split (k:=0) (List.length_pos_iff.2 (HNE.out t htT));exact⟨0,g',e,rfl⟩
    subst hD;clear ht hst htT;obtain⟨q_0,q_1,q_2⟩:=bX1.n3;rcases hct:t.contains (x,y,s)with _|_
    . have cH : ∀ W : World, Rd 3 aT W (.slice (some ⟨gt, 0, none⟩) t.length d) t -> Calls prog 149 #[.slice (some ⟨gt, 0, none⟩) t.length d, .agg #[.int .i64 x, .int .i64 y, .bool s]] W (Ret (.bool false) W) := fun W hW => by rw [<- hct]; exact gG _ t x y s W hW
      have HC:=Qk cH;clear cH;rcases hbv with⟨hb0,rfl⟩|⟨m,gm,dm,hb0,hmT,rfl,om⟩
      . have HN : Hid (kX T l (x, y, s) (k + 1) = some t) := Qk (by rw [HST.out, hb0]; exact Az hct);clear hb0 hct;go_wp2_with fail
        refine(HC.out _ (tk.rd aB (by decide))).mono ?_;rintro e w2 ⟨rfl,hb2⟩;go_wp2;go_roundw
        case rel=>exact⟨k+1,by omega,by go_num,.inr ⟨t,gt,d,HN.out,HtT.out,rfl,tk.below hb2⟩,hbel.tr hb2⟩
        case measure=>simp[intOf];omega
      . have h1l : (chg l t : Int) <= 1000 := by have := JZ l t; omega
        go_wp2_with fail
        refine(HC.out _ (tk.rd aB (by decide))).mono ?_;rintro e w2 ⟨rfl,hb2⟩;have B2:=B1.tr hb2;go_wp2_with fail
        refine(Dw _ _ l t _ (h'.Qj B2) ((tk.below hb2).rd aB (by decide)) hl).mono ?_;rintro e w3 ⟨rfl,hb3⟩;have B3:=B2.tr hb3;go_wp2_with fail
        refine(Dw _ _ l m _ (h'.Qj B3) (((om.below hb2).below hb3).rd aB (by decide)) hl).mono ?_;rintro e w4 ⟨rfl,hb4⟩;have b4:=(hbel.tr hb2).tr hb3|>.tr hb4;by_cases hlt2:chg l t<chg l m
        . have hi2 : (chg l t : Int) < (chg l m : Int) := by omega
          have HN:Hid (kX T l (x,y,s) (k+1)=some t):=Qk (by rw[HST.out,hb0];exact E8 hct hlt2);clear hb0 hct;go_wp2;go_roundw
          case rel=>exact⟨k+1,by omega,by go_num,.inr ⟨t,gt,d,HN.out,HtT.out,rfl,((tk.below hb2).below hb3).below hb4⟩,b4⟩
          case measure=>simp[intOf];omega
        . have hi2 : ¬ ((chg l t : Int) < (chg l m : Int)) := by omega
          have HN:Hid (kX T l (x,y,s) (k+1)=some m):=Qk (by rw[HST.out,hb0];exact E9 hct hlt2);clear hb0 hct;go_wp2;go_roundw
          case rel=>exact⟨k+1,by omega,by go_num,.inr ⟨m,gm,dm,HN.out,hmT,rfl,((om.below hb2).below hb3).below hb4⟩,b4⟩
          case measure=>simp[intOf];omega
    . have cH : ∀ W : World, Rd 3 aT W (.slice (some ⟨gt, 0, none⟩) t.length d) t -> Calls prog 149 #[.slice (some ⟨gt, 0, none⟩) t.length d, .agg #[.int .i64 x, .int .i64 y, .bool s]] W (Ret (.bool true) W) := fun W hW => by rw [<- hct]; exact gG _ t x y s W hW
      have HC:=Qk cH;clear cH;have HN:Hid (kX T l (x,y,s) (k+1)=kX T l (x,y,s) k):=Qk (by rw[HST.out];exact E5 hct);clear hct;go_wp2_with fail
      refine(HC.out _ (tk.rd aB (by decide))).mono ?_;rintro e w2 ⟨rfl,hb2⟩;go_wp2;go_roundw
      case rel=>exact⟨k+1,by omega,by go_num,by rw[HN.out];exact hbv.below hb2,hbel.tr hb2⟩
      case measure=>simp[intOf];omega
  . obtain rfl : k = T.length := by omega
    rw[Cn]at hbv;go_wp2;go_ret;exact⟨_,rfl,hbv,B1⟩
def Pf (T:List (List Dm)) (o:Option (List Dm)) (q:Int):Prop:=(o=none/\q= -1)∨∃(j:Nat) (h:j<T.length),o=some T[j]/\q=(j:Int)
theorem LQ {B:Nat} (u v:Value) (T:List (List Dm)) (l:List Dm) (x y:Int) (s:Bool) (w:World) (h:dN 27 60 3 aV B w u T) (h':Rd 3 aT w v l) (hl:l.length<=1000) (hT:T.length<=300):
 Calls prog 199 #[u,v,.agg #[.int .i64 x,.int .i64 y,.bool s]] w (fun e w'=>∃q,e= .returned (.int .i64 q)/\Pf T (fJ T l (x,y,s)) q/\Below w.heap.size w w'):=by
 obtain⟨A,c,rfl,hc,hm⟩:=h.form;obtain⟨Al,cl,rfl,_,_⟩:=h'.form;have B0:=(Below.refl w.heap.size w).al (.cells #[.int .i64 x,.int .i64 y,.bool s] 60);have bX:=Blk.aZ w 60 #[.int .i64 x,.int .i64 y,.bool s];obtain⟨W,hW⟩:=Qi (w.alloc (.cells #[.int .i64 x,.int .i64 y,.bool s] 60));rw[<-hW]at B0 bX;have HW:=Qk hW;clear hc hm;go_enter Tryz.func199,Tryz.ntmps199
 go_wp2;rw[<-hW];clear hW;go_loopw [7,8,9] (fun s7 s8 s9 wr=>∃(k:Nat) (q n:Int),k<=T.length/\s9= .int .i64 k/\s7= .int .i64 q/\s8= .int .i64 n/\Pf T (kX T l (x,y,s) k) q/\(∀m,kX T l (x,y,s) k=some m->n=(chg l m:Nat))/\Below W.heap.size W wr) (fun _ _ i _=>T.length-(intOf i).toNat)
 case atStart=>exact⟨0,-1,0,zero_le _,rfl,rfl,rfl,.inl ⟨rfl,rfl⟩,(fun m h=>by cases h),Below.refl _ _⟩
 case round=>
  obtain⟨k,q,n,hk,rfl,rfl,rfl,hbq,hbn,hbel⟩:=hrel;have B1:=B0.tr hbel;have bX1:=bX.bl hbel;by_cases hlt:k<T.length
  . obtain⟨g,D,d,rfl,hg1,hg2,c1,oT⟩:=(h.below B1).pick hlt;have hki:(k:Int)<(T.length:Int):=(by omega);have hst:=Ap (list:=l) (d:=(x,y,s)) hlt;obtain⟨t,ht⟩:=Qi (T[k]);rw[<-ht]at c1 oT hst;have HST:=Qk hst;have HT:=Qk ht;clear ht hst;have h1l:(chg l t:Int)<=1000:=by have:=JZ l t;omega
    obtain⟨q_0,q_1,q_2⟩:=bX1.n3;have hwX:w.heap.size<wr.heap.size:=by have:=bX1.lt;omega
    rcases hct:t.contains (x,y,s)with _|_
    . have Hct:=Qk hct;clear hct;have Bw:Below wr.heap.size wr wr.drew:=(Below.refl _ _).drew;have hz:wr.heap.size<=wr.drew.heap.size:=(by simp);go_wp2_with fail
      refine rB (fun w'=>w'.cell? ⟨g,k,none⟩=some (.slice D t.length d)/\w'.cell? ⟨w.heap.size,0,none⟩=some (.int .i64 x)/\w'.cell? ⟨w.heap.size,1,none⟩=some (.int .i64 y)/\w'.cell? ⟨w.heap.size,2,none⟩=some (.bool s)) fun hHeld=>(tW 0)<|(tW 1)<|(tW 2)<|(tW 3)<|(tW 4)<|(tR [5])<|tL fun K hK=>?_
      go_simp
      (go_at_call 81;go_must (refine(vT _ t x y s _ ((oT.below Bw).rd aB (by decide)) Hct.out).mono ?_;rintro e wX ⟨rfl,hbX⟩;obtain⟨hcX,hfX,hzX⟩:=bkn hbX wr.heap.size hz;have hz:=hzX;have Bw:=Bw.tr hbX);(try go_wp2_with fail))
      refine tK hK fun hHeld=>?_
      clear hK K;refine(tW 6)<|tD ?_
      all_goals
        have B2:=B1.tr Bw;have c2:=(Bw.cell (p:=⟨g,k,none⟩) hg2).trans c1;go_wp2_with fail
        refine(IQ _ _ l t _ (h'.Qj B2) ((oT.below Bw).rd aB (by decide)) hl).mono ?_;rintro e w3 ⟨rfl,hb3⟩;have Bk:=(hbel.tr Bw).tr hb3;rcases hbq with⟨hb0,rfl⟩|⟨j,hj,hb0,rfl⟩
        . have HN : Hid (kX T l (x, y, s) (k + 1) = some T[k]) := Qk (by rw [HST.out, hb0, <- HT.out]; exact Az Hct.out);clear hb0 hbn;go_wp2;go_roundw
          case rel=>exact⟨k+1,k,_,by omega,by go_num,rfl,rfl,.inr ⟨k,hlt,HN.out,rfl⟩,fun m hm=>by rw[HN.out,<-HT.out]at hm;injection hm with hm;rw[hm],Bk⟩
          case measure=>simp[intOf];omega
        . have hj2 : (j : Int) <= 300 := by omega
          obtain⟨m,hm⟩:=Qi (T[j]);rw[<-hm]at hb0;have hn:=hbn m hb0;have h2l:n<=1000/\0<=n:=by have:=JZ l m;omega
          by_cases hlt2:chg l t<chg l m
          . have hi2 : (chg l t : Int) < n := by omega
            have HN:Hid (kX T l (x,y,s) (k+1)=some T[k]):=Qk (by rw[HST.out,hb0,<-HT.out];exact E8 Hct.out hlt2);clear hb0 hbn hn hm;go_wp2;go_roundw
            case rel=>exact⟨k+1,k,_,by omega,by go_num,rfl,rfl,.inr ⟨k,hlt,HN.out,rfl⟩,fun m hm=>by rw[HN.out,<-HT.out]at hm;injection hm with hm;rw[hm],Bk⟩
            case measure=>simp[intOf];omega
          . have hi2 : ¬ ((chg l t : Int) < n) := by omega
            have HN:Hid (kX T l (x,y,s) (k+1)=some m):=Qk (by rw[HST.out,hb0];exact E9 Hct.out hlt2);have HM:=Qk hm;have Hn:=Qk hn;clear hb0 hbn hn hm;go_wp2;go_roundw
            case rel=>exact⟨k+1,j,n,by omega,by go_num,rfl,rfl,.inr ⟨j,hj,by rw[HN.out,HM.out],rfl⟩,fun m' hm'=>by rw[HN.out]at hm';injection hm' with hm';rw[<-hm'];exact Hn.out,Bk⟩
            case measure=>simp[intOf];omega
    . have HN : Hid (kX T l (x, y, s) (k + 1) = kX T l (x, y, s) k) := Qk (by rw [HST.out]; exact E5 hct);obtain⟨r,hr0,-⟩:=pQ _ t x y s _ (oT.rd aB (by decide)) hct;have Hr:Hid (∀W:World,Rd 3 aT W (.slice D t.length d) t->Calls prog 81 #[.slice D t.length d,.agg #[.int .i64 x,.int .i64 y,.bool s]] W (fun e w'=>∃r:Int,0<=r/\e= .returned (.int .i64 r)/\Below W.heap.size W w')):=Qk (fun W hW=>by obtain⟨r,h0,hc⟩:=pQ _ t x y s W hW hct;exact hc.mono (fun e w' hh=>⟨r,h0,hh⟩));clear hct hr0;have Bw:Below wr.heap.size wr wr.drew:=(Below.refl _ _).drew;have hz:wr.heap.size<=wr.drew.heap.size:=(by simp);go_wp2_with fail
      refine rB (fun w'=>w'.cell? ⟨g,k,none⟩=some (.slice D t.length d)/\w'.cell? ⟨w.heap.size,0,none⟩=some (.int .i64 x)/\w'.cell? ⟨w.heap.size,1,none⟩=some (.int .i64 y)/\w'.cell? ⟨w.heap.size,2,none⟩=some (.bool s)) fun hHeld=>(tW 0)<|(tW 1)<|(tW 2)<|(tW 3)<|(tW 4)<|(tR [5])<|tL fun K hK=>?_
      go_simp
      (go_at_call 81;go_must (refine(Hr.out _ ((oT.below Bw).rd aB (by decide))).mono ?_;rintro e wX ⟨r,hr0,rfl,hbX⟩;obtain⟨hcX,hfX,hzX⟩:=bkn hbX wr.heap.size hz;have hz:=hzX;have Bw:=Bw.tr hbX);(try go_wp2_with fail))
      refine tK hK fun hHeld=>?_
      clear hK K;refine(tW 6)<|tD ?_
      all_goals
        have Bk:=hbel.tr Bw;go_wp2;go_roundw
        case rel=>exact⟨k+1,q,n,by omega,by go_num,rfl,rfl,by rw[HN.out];exact hbq,by rw[HN.out];exact hbn,Bk⟩
        case measure=>simp[intOf];omega
  . obtain rfl : k = T.length := by omega
    rw[Cn]at hbq;go_wp2;go_ret;exact⟨_,rfl,hbq,B1⟩
end Go.Proofs.YtljfoohaapckeaaGreatDoor
