/- The shortest way of flips, of the program: the walk. Conditions: the library's table of powers, as its text lays it. -/
import Derived.Test.YtljfoohaapckeaaGreatDoorZG32
import Derived.Test.YtljfoohaapckeaaGreatDoorZListI
import Derived.Test.YtljfoohaapckeaaGreatDoorZG6
import Derived.Test.YtljfoohaapckeaaGreatDoorZG28
namespace Go.Proofs.YtljfoohaapckeaaGreatDoor
open Go.ChangeShapes Go.WideShapes Go.ChangeAt Go.RowKit
set_option linter.unusedVariables false
set_option linter.unusedSimpArgs false
set_option maxHeartbeats 4000000
set_option maxRecDepth 100000
theorem DX {α : Type} {p : α -> Bool} : ∀ {l : List α} {t : Nat} (h : t < l.length), (∀ j (hj : j < t), p (l[j]'(by omega)) = false) -> p l[t] = true -> l.find? p = some l[t]
  |[],t,h,_,_=>by simp at h
  | a :: l, 0, h, _, e => by
   have e':p a=true:=e;rw[List.find?_cons_of_pos e'];rfl
  | a :: l, t + 1, h, hn, e => by
   have e1:p a=false:=hn 0 (Nat.succ_pos _);rw[List.find?_cons_of_neg (by rw[e1];decide)];exact DX (by simpa using h) (fun j hj=>hn (j+1) (by omega)) e
theorem nM {T:List (List Dm)} {m:List Dm} (h:m∈T):nJ T m=((ix T m:Nat):Int):=if_pos h
theorem sD {T:List (List Dm)} {m:List Dm} (h:¬m∈T):nJ T m= -1:=if_neg h
theorem BV {rows:List Int} {a b:List Dm} (h:¬(a∈aG rows/\b∈aG rows/\0<=rQ (aG rows) (ix (aG rows) b) (ix (aG rows) a))):FR rows a b=false/\Dv rows a b=[]:=by
 have e:FR rows a b=false:=by
  rw[Bool.eq_false_iff];intro q;unfold FR at q;simp only[Bool.and_eq_true,decide_eq_true_eq]at q;exact h ⟨q.1.1,q.1.2,q.2⟩
 exact⟨e,by unfold Dv;rw[e];rfl⟩
theorem LU {rows:List Int} {a b:List Dm} (h1:a∈aG rows) (h2:b∈aG rows) (h3:0<=rQ (aG rows) (ix (aG rows) b) (ix (aG rows) a)):FR rows a b=true/\Dv rows a b=tY (aG rows) (rQ (aG rows) (ix (aG rows) b)) (rQ (aG rows) (ix (aG rows) b) (ix (aG rows) a)).toNat (ix (aG rows) a):=by
 have e:FR rows a b=true:=by
  unfold FR;simp only[Bool.and_eq_true,decide_eq_true_eq];exact⟨⟨h1,h2⟩,h3⟩
 exact⟨e,by unfold Dv;rw[if_pos e]⟩
theorem Bv {T:List (List Dm)} {f:Nat->Int} {i t:Nat} (h:t<(eF (til T i)).length) (hn:∀j (hj:j<t) (h':j<(eF (til T i)).length),¬f (tV T i (eF (til T i))[j])=f i-1) (he:f (tV T i (eF (til T i))[t])=f i-1):H9 T f i=some (eF (til T i))[t]:=by
 unfold H9;exact DX h (fun j hj=>by rw[decide_eq_false_iff_not];exact hn j hj (by omega)) (decide_eq_true he)
theorem Ow (v va vb:Value) (rows:List Int) (a b:List Dm) (w:World) (h:Rd 1 bG w v rows) (ha:Rd 3 aU w va a) (hb:Rd 3 aU w vb b) (ht:Tab w):Calls Tryz.prog 78 #[.agg #[v],va,vb] w (iC 70 2 dG (Dv rows a b) (FR rows a b) w):=by
 have B0:=(Below.refl w.heap.size w).al (.cells #[v] 26);obtain⟨Aa,ca,rfl,_,_⟩:=ha.form;obtain⟨Ab,cb,rfl,_,_⟩:=hb.form;have hFS:=Ew rows;obtain⟨T,hT⟩:=R9 (aG rows);have hTo:∀t∈T,(∀d∈t,aJ d=true)/\t.length<=64:=fun t ht=>by rw[hT]at ht;exact⟨Qh ht,jU ht⟩
 have cL:∀(W:World),Rd 1 bG W v rows->Calls Tryz.prog 130 #[.agg #[v]] W (Dh T W):=fun W hW=>by rw[hT];exact F5 v rows W hW
 rw[<-hT]at hFS;have HTt:=Sb ht;have HT:=Sb hT;have HFS:=Sb hFS;have HTo:=Sb hTo;have HCL:=Sb cL;have hsm:=hFS.sm;clear ht hT hFS hTo cL;go_enter Tryz.func78,Tryz.ntmps78
 go_wp2_with fail
 refine(HCL.out _ (h.Sa B0)).mono ?_;rintro e w1 ⟨A,c,rfl,oT,hb1⟩;have B1:=B0.tr hb1;have oT:=oT.mono B0.size;go_wp2_with fail
 refine(uA _ _ T a _ oT (ha.Sa B1)).mono ?_;rintro e w2 ⟨rfl,hb2⟩;have B2:=B1.tr hb2;have oT:=oT.below hb2;go_wp2_with fail
 refine(uA _ _ T b _ oT (hb.Sa B2)).mono ?_;rintro e w3 ⟨rfl,hb3⟩;have B3:=B2.tr hb3;have oT:=oT.below hb3;by_cases hma:a∈T
 . rw[nM hma];obtain⟨hia,hia2⟩:=nI hma;obtain⟨i,hi⟩:=R9 (ix T a);rw[<-hi]at hia⊢;have hti:til T i=a:=by rw[iO hia];have:=hia2;simp only[<-hi]at this;exact this
   by_cases hmb:b∈T
   . rw[nM hmb];obtain⟨hkb,hkb2⟩:=nI hmb;obtain⟨k,hk⟩:=R9 (ix T b);rw[<-hk]at hkb⊢;have Hma:=Sb hma;have Hmb:=Sb hmb;have Hi:=Sb hi;have Hk:=Sb hk;have HTI:=Sb hti;have hsa:Small a.length:=by have:=(HTo.out a hma).2;unfold Small;omega
     clear hma hmb hi hk hti hia2 hkb2;go_wp2_with fail
     refine(MU _ T _ oT HFS.out HTo.out (HTt.out.below B3)).mono ?_;rintro e w4 ⟨A4,c4,rfl,oN,hb4⟩;have B4:=B3.tr hb4;have oT4:=oT.below hb4;go_wp2_with fail
     refine(Oj _ T (pO T T.length) k _ oN (Oe T) HFS.out hkb).mono ?_;rintro e w5 ⟨⟨A5,c5,rfl,oD,hb5⟩,hD⟩;have B5:=B4.tr hb5;have oT5:=oT4.below hb5;obtain⟨f,hf⟩:=R9 (rQ T k);rw[<-hf]at oD hD;rw[jI]at oD⊢;have hTp:0<T.length:=(by omega);obtain⟨gD,rfl,hgD,hgD2⟩:=oD.split (k:=0) (by rw[jI];exact hTp);have cI:=kG oD hia;have hii:(i:Int)<(T.length:Int):=(by omega);obtain⟨vi,hvi⟩:=R9 (f i);rw[<-hvi]at cI;have Hf:=Sb hf;have HD:=Sb hD;have HVI:=Sb hvi;clear hf hD hvi;by_cases hneg:vi<0
     . have HN := Sb (BV (rows := rows) (a := a) (b := b) (fun q => by
        have:=q.2.2;rw[<-HT.out,<-Hi.out,<-Hk.out,<-Hf.out,<-HVI.out]at this;omega))
       go_wp2;refine bodyPost_ret (v:= .tuple #[.slice none 0 0,.bool false]) (by simp[results,Tryz.results78,go_sem]) rfl ⟨none,0,by rw[HN.out.1,HN.out.2];rfl,by rw[HN.out.2];exact aD.Ct,B5⟩
     . have hwy := LU (rows := rows) (a := a) (b := b) (by rw [<- HT.out]; exact Hma.out) (by rw [<- HT.out]; exact Hmb.out) (by rw [<- HT.out, <- Hi.out, <- Hk.out, <- Hf.out, <- HVI.out]; omega);rw[<-HT.out,<-Hi.out,<-Hk.out,<-Hf.out,<-HVI.out]at hwy;obtain⟨W,hW⟩:=R9 (Dv rows a b);rw[<-hW]at hwy⊢;have hvm:=HD.out.top i;rw[<-HVI.out]at hvm;obtain⟨m,rfl⟩:∃m:Nat,vi=m:=⟨vi.toNat,by omega⟩;have hm3:m<=300:=(by omega);have hwm:=hwy.2;rw[Int.toNat_natCast]at hwm;have HW:=Sb hwy.1;have HWM:=Sb hwm;have HWL:=Sb hW;have ow0:=gV w5 (E:=70) (size:=2) (enc:=dG) w5.heap.size rfl w5.heap.size (Nat.le_refl _);have BM:=(Below.refl w5.heap.size w5).al (.cells #[] 70);clear hwy hwm hW hneg hvm;go_wp2_with fail
       refine(dF _ a _ (ha.Sa (B5.tr BM)) hsa).mono ?_;rintro e w6 ⟨A6,c6,rfl,oA,hb6⟩;have B6:=BM.tr hb6;have ow1:=ow0.below hb6;have oA1:=oA.mono BM.size;rw[<-HTI.out]at oA1;go_wp2;clear cI;go_loopg [9,12,13] m (fun gk s9 s12 s13 wr=>∃(i:Nat) (D:Option Addr) (d:Nat) (A7:Option Addr) (c7:Nat) (out:List Cl),i<T.length/\s9= .int .i64 i/\s12= .slice D out.length d/\aD 70 2 dG w5.heap.size wr (.slice D out.length d) out/\s13= .slice A7 (til T i).length c7/\aD 60 3 aX w5.heap.size wr (.slice A7 (til T i).length c7) (til T i)/\Hid (f i=gk/\out++tY T f gk i=W)/\out.length+gk<=300/\Below w5.heap.size w5 wr)
       case atStart=>exact⟨i,_,_,_,_,[],hia,rfl,rfl,ow1,by rw[HTI.out],oA1,Sb ⟨HVI.out.symm,HWM.out.symm⟩,by simpa using hm3,B6⟩
       case round=>
        clear ow0 BM B6 ow1 oA1 oA hb6;obtain⟨i,D,d,A7,c7,out,hi,rfl,rfl,hown,rfl,hnow,Hg,hol,hbel⟩:=hrel;by_cases hg0:gk=0
        . subst hg0;have hik:i=k:=HD.out.zero i (by have:=Hg.out.1;simpa using this);have hee:((i:Int) !=(k:Int))=false:=by rw[hik];exact bne_self_eq_false _
          have HO:Hid (out=W):=Sb (by have:=Hg.out.2;rw[tY,List.append_nil]at this;exact this);clear hik;go_wp2;refine bodyPost_ret (v:= .tuple #[.slice D out.length d,.bool true]) (by simp[results,Tryz.results78,go_sem]) rfl ⟨D,d,by rw[HW.out,<-HWL.out,HO.out],by rw[<-HWL.out];have:=hown.mono B5.size;rw[HO.out]at this;exact this,B5.tr hbel⟩
        . obtain ⟨m', rfl⟩ : ∃ m', gk = m' + 1 := ⟨gk - 1, by omega⟩;have hstep:=FQ HFS.out HD.out (i:=i) (m:=m') (by have:=Hg.out.1;omega)
          have hne:((i:Int) !=(k:Int))=true:=by
           rw[bne_iff_ne];intro e;have e2:i=k:=(by omega);have:=Hg.out.1;rw[e2,HD.out.st]at this;omega
          have HS:=Sb hstep;have hFi:f i=((m'+1:Nat):Int):=Hg.out.1;have HFi:=Sb hFi;clear hstep hg0 hFi;have hlen64:(til T i).length<=64:=by rw[iO hi];exact(HTo.out _ (List.getElem_mem hi)).2
          have hsl:Small (til T i).length:=by unfold Small;omega
          obtain⟨l,hl⟩:=R9 (til T i);rw[<-hl]at hnow hsl hlen64⊢;have HL:=Sb hl;clear hl;go_wp2_with fail
          refine(DK _ l _ (hnow.rd aC (by decide))).mono ?_;rintro e w7 ⟨A8,c8,rfl,oF,hb7⟩;have hfl:=vZ l;obtain⟨F,hF⟩:=R9 (eF l);rw[<-hF]at oF hfl⊢;have HF2:=Sb hF;have own7:=hown.below hb7;have now7:=hnow.below hb7;have B7:=hbel.tr hb7;clear hF hown hnow hbel hb7;go_wp2;go_loopw [9,12,13,51] (fun s9 s12 s13 s51 wr=>∃(t:Nat),t<=F.length/\s9= .int .i64 i/\s12= .slice D out.length d/\s13= .slice A7 l.length c7/\s51= .int .i64 t/\Hid (∀j (hj:j<t) (h':j<F.length),¬f (tV T i F[j])=f i-1)/\Below w7.heap.size w7 wr) (fun _ _ _ x _=>F.length-(intOf x).toNat)
          case atStart=>exact⟨0,Nat.zero_le _,rfl,rfl,rfl,rfl,Sb (fun j hj=>by omega),Below.refl _ _⟩
          case round=>
           obtain⟨t,ht,rfl,rfl,rfl,rfl,Hn,hbel⟩:=hrel;by_cases hlt:t<F.length
           . have oF2:=oF.below hbel;obtain⟨bk,off,rfl,hbk,q0,q1⟩:=(oF2.rd eG (by decide)).fK hlt;obtain⟨xy,hxy⟩:=R9 (F[t]);have hmem:xy∈eF l:=by rw[hxy,<-HF2.out];exact List.getElem_mem hlt
             rw[<-hxy]at q0 q1;obtain⟨x,y⟩:=xy;simp only at q0 q1;have hkd:¬kindOf l (x,y)=0:=lI.1 hmem
             have hnT:aV l (x,y)∈T:=by
              have:=(HFS.out.cl _ (List.getElem_mem hi) (x,y) (by rw[<-iO hi,<-HL.out];exact hkd)).1;rw[<-iO hi,<-HL.out]at this;exact this
             obtain⟨hat,hat2⟩:=nI hnT;obtain⟨at_,hat3⟩:=R9 (ix T (aV l (x,y)));have hnx:tV T i (x,y)=at_:=by unfold tV;rw[<-HL.out,hat3]
             have hti:(t:Int)<(F.length:Int):=(by omega);have B8:=hbel.al (.cells #[.int .i64 x,.int .i64 y] 70);have b8:=Blk.aZ wr 70 #[.int .i64 x,.int .i64 y];have now8:=now7.below B8;have HNT:=Sb hnT;have HKD:=Sb hkd;have HXY:=Sb hxy;have HMem:=Sb hmem;have HNX:=Sb hnx;rw[<-hat3]at hat;have hat2':til T at_=aV l (x,y):=by rw[iO hat];have:=hat2;simp only[<-hat3]at this;exact this
             have HA2:=Sb hat2';have HA3:=Sb hat3;clear hnT hkd hxy hmem hnx hat2 hat2' hat3 oF2;go_wp2_with fail
             refine(uV _ l x y _ (now8.rd aC (by decide)) hsl HKD.out).mono ?_;rintro e w9 ⟨A9,c9,rfl,oN,hb9⟩;have B9:=B8.tr hb9;have b9:=b8.bl hb9;have oT9:=(oT5.below B7).below B9;obtain⟨N,hN⟩:=R9 (aV l (x,y));rw[<-hN]at oN HNT HA2 HA3⊢;clear hN;go_wp2_with fail
             refine(uA _ _ T N _ oT9 (oN.rd aC (by decide))).mono ?_;rintro e wA ⟨rfl,hbA⟩;rw[nM HNT.out,<-HA3.out];have BA:=B9.tr hbA;have bA:=b9.bl hbA;have oDA:=(oD.below B7).below BA;have cT:=kG oDA hat;have cI:=kG oDA hi;have hatI:(at_:Int)<(T.length:Int):=(by omega);have hiI:(i:Int)<(T.length:Int):=(by omega);obtain⟨va,hva⟩:=R9 (f at_);rw[<-hva]at cT;rw[HFi.out]at cI;have HVA:=Sb hva;clear hva;have hvb: -1<=va:=by rw[HVA.out];exact HD.out.low _
             have BO:=B7.tr BA;have ownA:=own7.below BA;obtain⟨k_0,k_1⟩:=bA.n2;by_cases hve:va=(m':Int)
             . subst hve;have H8:Hid ((out.length+1)*16<=140737488355328):=Sb (by omega);have HM:Hid (out.length+1<=maxLen):=Sb (by unfold maxLen;omega)
               have HG : Hid (f at_ = (m' : Int) /\ (out ++ [(x, y)]) ++ tY T f m' at_ = W) := Sb (by
                have hlt':t<(eF (til T i)).length:=by rw[<-HL.out,<-HF2.out];exact hlt
                have hFt:(eF (til T i))[t]=(x,y):=by
                 have:∀(G:List Cl),G=F->∀h:t<G.length,G[t]=(x,y):=fun G e h=>by subst e;exact HXY.out.symm
                 exact this _ (by rw[<-HL.out,<-HF2.out]) hlt'
                have hs := Bv (f := f) hlt' (fun j hj h' => by
                 have hj2:j<F.length:=(by omega);have:=Hn.out j hj hj2
                 have e:(eF (til T i))[j]=F[j]:=by
                  have:∀(G:List Cl),G=F->∀h:j<G.length,G[j]=F[j]:=fun G e h=>by subst e;rfl
                  exact this _ (by rw[<-HL.out,<-HF2.out]) h'
                 rw[e];exact this) (by rw[hFt,HNX.out,<-HVA.out,HFi.out];omega)
                rw[hFt]at hs;refine⟨HVA.out.symm,?_⟩;have h2:=Hg.out.2;rw[Jm hs,HNX.out]at h2;rw[<-h2];simp)
               go_wp2_with fail
               go_quiet (fail)
               go_wp2_with (at_builtin;go_must (refine aR (enc:=dG) iY eG oneCell (below_drewN BO _) (ownA.below (below_drewN (Below.refl _ _) _)) ((x,y):Cl) H8.out HM.out (by simp) rfl _ _ rfl rfl rfl ?_);intro vB wB ownB hbB hgB hdB;obtain⟨AB,cB,rfl,hcB,hmB⟩:=ownB.form)
               go_roundg m'
               case measure=>omega
               case rel=>
                have oNA:=(oN.below hbA).below (below_drewN (Below.refl _ _) nq);have oNB:=aD.lG (oNA.alloc (.cells (dG (x,y)).toArray 70)) ((ownA.below (below_drewN (Below.refl _ _) nq)).alloc (.cells (dG (x,y)).toArray 70)) (by decide) hgB;have hsB:w5.heap.size<=(wr.alloc (.cells #[.int .i64 x,.int .i64 y] 70)).heap.size:=(B7.tr B8).size;have oNC:=oNB.mono hsB;rw[<-HA2.out]at oNC⊢;exact⟨at_,AB,cB,A9,c9,out++[(x,y)],hat,rfl,by simp,ownB,rfl,oNC,HG,by simp;omega,hbB⟩
             . go_wp2_with fail
               go_quiet (fail)
               go_wp2;go_roundw
               case rel => exact ⟨t + 1, by omega, rfl, rfl, rfl, by go_num, Sb (fun j hj h' => by
                rcases(by omega:j<t∨j=t)with h1|h1
                . exact Hn.out j h1 h'
                . subst h1;rw[<-HXY.out,HNX.out,<-HVA.out,HFi.out];omega),below_drewN BA _⟩
               case measure=>simp[intOf];omega
           . obtain rfl : t = F.length := by omega
             exfalso;obtain⟨c,h1,h2,h3,_,_⟩:=HS.out;have h4:=List.mem_of_find?_eq_some h1;rw[<-HL.out,<-HF2.out]at h4;obtain⟨j,hj,e⟩:=List.getElem_of_mem h4;refine Hn.out j hj hj ?_;rw[e,h3,HFi.out];omega
   . rw[sD hmb];have HN:=Sb (BV (rows:=rows) (a:=a) (b:=b) (fun q=>hmb (by rw[HT.out];exact q.2.1)));go_wp2;refine bodyPost_ret (v:= .tuple #[.slice none 0 0,.bool false]) (by simp[results,Tryz.results78,go_sem]) rfl ⟨none,0,by rw[HN.out.1,HN.out.2];rfl,by rw[HN.out.2];exact aD.Ct,B3⟩
 . rw[sD hma];have HN:=Sb (BV (rows:=rows) (a:=a) (b:=b) (fun q=>hma (by rw[HT.out];exact q.1)));go_wp2;refine bodyPost_ret (v:= .tuple #[.slice none 0 0,.bool false]) (by simp[results,Tryz.results78,go_sem]) rfl ⟨none,0,by rw[HN.out.1,HN.out.2];rfl,by rw[HN.out.2];exact aD.Ct,B3⟩
end Go.Proofs.YtljfoohaapckeaaGreatDoor
