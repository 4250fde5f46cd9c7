/- The shortest way of flips, of the program: the walk. Conditions: the library's table of powers, as its text lays it. The shortest way of flips, of the reference: the walk. No conditions. Repairs, of both sides: the walks. No conditions but sizes. RepairOf and RepairCost, of both sides: the walks. Condition: the list is not empty (the program's own). -/
import Derived.Test.YtljfoohaapckeaaGreatDoorCG29
import Derived.Test.YtljfoohaapckeaaGreatDoorCListI
import Derived.Test.YtljfoohaapckeaaGreatDoorCG6
import Derived.Test.YtljfoohaapckeaaGreatDoorCG25
import Derived.Lib.SliceRun
import Derived.WalkSpells
open _root_.Nat (zero_le)
open _root_.Go.Proofs.Tryz (prog results78 results155)
namespace Go.Proofs.YtljfoohaapckeaaGreatDoor
open Go.ChangeShapes Go.WideShapes Go.ChangeAt Go.RowKit
set_option linter.unusedVariables false
set_option linter.unusedSimpArgs false
set_option maxHeartbeats 4000000
set_option maxRecDepth 100000
theorem Et {α : Type} {p : α -> Bool} : ∀ {l : List α} {t : Nat} (h : t < l.length), (∀ j (hj : j < t), p (l[j]'(by omega)) = false) -> p l[t] = true -> l.find? p = some l[t]
  |[],t,h,_,_=>by simp at h
  | a :: l, 0, h, _, e => by
   have e':p a=true:=e;rw[List.find?_cons_of_pos e'];rfl
  | a :: l, t + 1, h, hn, e => by
   have e1:p a=false:=hn 0 (Nat.succ_pos _);rw[List.find?_cons_of_neg (by rw[e1];decide)];exact Et (by simpa using h) (fun j hj=>hn (j+1) (by omega)) e
theorem pV {T:List (List Dm)} {m:List Dm} (h:m∈T):nK T m=((ix T m:Nat):Int):=if_pos h
theorem wJ {T:List (List Dm)} {m:List Dm} (h:¬m∈T):nK T m= -1:=if_neg h
theorem Cz {rows:List Int} {a b:List Dm} (h:¬(a∈aD rows/\b∈aD rows/\0<=nV (aD rows) (ix (aD rows) b) (ix (aD rows) a))):sS rows a b=false/\uS rows a b=[]:=by
 have e:sS rows a b=false:=by
  rw[Bool.eq_false_iff];intro q;unfold sS at q;simp only[Bool.and_eq_true,decide_eq_true_eq]at q;exact h ⟨q.1.1,q.1.2,q.2⟩
 exact⟨e,by unfold uS;rw[e];rfl⟩
theorem Mo {rows:List Int} {a b:List Dm} (h1:a∈aD rows) (h2:b∈aD rows) (h3:0<=nV (aD rows) (ix (aD rows) b) (ix (aD rows) a)):sS rows a b=true/\uS rows a b=rH (aD rows) (nV (aD rows) (ix (aD rows) b)) (nV (aD rows) (ix (aD rows) b) (ix (aD rows) a)).toNat (ix (aD rows) a):=by
 have e:sS rows a b=true:=by
  unfold sS;simp only[Bool.and_eq_true,decide_eq_true_eq];exact⟨⟨h1,h2⟩,h3⟩
 exact⟨e,by unfold uS;rw[if_pos e]⟩
theorem Ch {T:List (List Dm)} {f:Nat->Int} {i t:Nat} (h:t<(dP (til T i)).length) (hn:∀j (hj:j<t) (h':j<(dP (til T i)).length),¬f (rZ T i (dP (til T i))[j])=f i-1) (he:f (rZ T i (dP (til T i))[t])=f i-1):Iy T f i=some (dP (til T i))[t]:=by
 unfold Iy;exact Et h (fun j hj=>by rw[decide_eq_false_iff_not];exact hn j hj (by omega)) (decide_eq_true he)
theorem JU (v va vb:Value) (rows:List Int) (a b:List Dm) (w:World) (h:Rd 1 bV w v rows) (ha:Rd 3 bG w va a) (hb:Rd 3 bG w vb b) (ht:Tab w):Calls prog 78 #[.agg #[v],va,vb] w (jB 70 2 dH (uS rows a b) (sS rows a b) w):=by
 have B0:=(Below.refl w.heap.size w).al (.cells #[v] 26);obtain⟨Aa,ca,rfl,_,_⟩:=ha.form;obtain⟨Ab,cb,rfl,_,_⟩:=hb.form;have hFS:=wG rows;obtain⟨T,hT⟩:=SL (aD rows);have hTo:∀t∈T,(∀d∈t,aJ d=true)/\t.length<=64:=fun t ht=>by rw[hT]at ht;exact⟨QK ht,mR ht⟩
 have cL:∀(W:World),Rd 1 bV W v rows->Calls prog 130 #[.agg #[v]] W (Fy T W):=fun W hW=>by rw[hT];exact Nn v rows W hW
 rw[<-hT]at hFS;have HTt:=SQ ht;have HT:=SQ hT;have HFS:=SQ hFS;have HTo:=SQ hTo;have HCL:=SQ cL;have hsm:=hFS.sm;clear ht hT hFS hTo cL;go_enter Tryz.func78,Tryz.ntmps78
 go_wp2_with fail
 refine(HCL.out _ (h.SN B0)).mono ?_;rintro e w1 ⟨A,c,rfl,oT,hb1⟩;have B1:=B0.tr hb1;have oT:=oT.mono B0.size;go_wp2_with fail
 refine(yQ _ _ T a _ oT (ha.SN B1)).mono ?_;rintro e w2 ⟨rfl,hb2⟩;have B2:=B1.tr hb2;have oT:=oT.below hb2;go_wp2_with fail
 refine(yQ _ _ T b _ oT (hb.SN B2)).mono ?_;rintro e w3 ⟨rfl,hb3⟩;have B3:=B2.tr hb3;have oT:=oT.below hb3;by_cases hma:a∈T
 . rw[pV hma];obtain⟨hia,hia2⟩:=mF hma;obtain⟨i,hi⟩:=SL (ix T a);rw[<-hi]at hia⊢;have hti:til T i=a:=by rw[fI hia];have:=hia2;simp only[<-hi]at this;exact this
   by_cases hmb:b∈T
   . rw[pV hmb];obtain⟨hkb,hkb2⟩:=mF hmb;obtain⟨k,hk⟩:=SL (ix T b);rw[<-hk]at hkb⊢;have Hma:=SQ hma;have Hmb:=SQ hmb;have Hi:=SQ hi;have Hk:=SQ hk;have HTI:=SQ hti;have hsa:Small a.length:=by have:=(HTo.out a hma).2;unfold Small;omega
     clear hma hmb hi hk hti hia2 hkb2;go_wp2_with fail
     refine(Nj _ T _ oT HFS.out HTo.out (HTt.out.below B3)).mono ?_;rintro e w4 ⟨A4,c4,rfl,oN,hb4⟩;have B4:=B3.tr hb4;have oT4:=oT.below hb4;go_wp2_with fail
     refine(OJ _ T (pU T T.length) k _ oN (OE T) HFS.out hkb).mono ?_;rintro e w5 ⟨⟨A5,c5,rfl,oD,hb5⟩,hD⟩;have B5:=B4.tr hb5;have oT5:=oT4.below hb5;obtain⟨f,hf⟩:=SL (nV T k);rw[<-hf]at oD hD;rw[jN]at oD⊢;have hTp:0<T.length:=(by omega);obtain⟨gD,rfl,hgD,hgD2⟩:=oD.split (k:=0) (by rw[jN];exact hTp);have cI:=kR oD hia;have hii:(i:Int)<(T.length:Int):=(by omega);obtain⟨vi,hvi⟩:=SL (f i);rw[<-hvi]at cI;have Hf:=SQ hf;have HD:=SQ hD;have HVI:=SQ hvi;clear hf hD hvi;by_cases hneg:vi<0
     . have HN := SQ (Cz (rows := rows) (a := a) (b := b) (fun q => by
        have:=q.2.2;rw[<-HT.out,<-Hi.out,<-Hk.out,<-Hf.out,<-HVI.out]at this;omega))
       go_wp2;refine bodyPost_ret (v:= .tuple #[.slice none 0 0,.bool false]) (by simp[results,results78,go_sem]) rfl ⟨none,0,by rw[HN.out.1,HN.out.2];rfl,by rw[HN.out.2];exact aC.FD,B5⟩
     . have hwy := Mo (rows := rows) (a := a) (b := b) (by rw [<- HT.out]; exact Hma.out) (by rw [<- HT.out]; exact Hmb.out) (by rw [<- HT.out, <- Hi.out, <- Hk.out, <- Hf.out, <- HVI.out]; omega);rw[<-HT.out,<-Hi.out,<-Hk.out,<-Hf.out,<-HVI.out]at hwy;obtain⟨W,hW⟩:=SL (uS rows a b);rw[<-hW]at hwy⊢;have hvm:=HD.out.top i;rw[<-HVI.out]at hvm;obtain⟨m,rfl⟩:∃m:Nat,vi=m:=⟨vi.toNat,by omega⟩;have hm3:m<=300:=(by omega);have hwm:=hwy.2;rw[Int.toNat_natCast]at hwm;have HW:=SQ hwy.1;have HWM:=SQ hwm;have HWL:=SQ hW;have ow0:=iA w5 (E:=70) (size:=2) (enc:=dH) w5.heap.size rfl w5.heap.size (Nat.le_refl _);have BM:=(Below.refl w5.heap.size w5).al (.cells #[] 70);clear hwy hwm hW hneg hvm;go_wp2_with fail
       refine(dE _ a _ (ha.SN (B5.tr BM)) hsa).mono ?_;rintro e w6 ⟨A6,c6,rfl,oA,hb6⟩;have B6:=BM.tr hb6;have ow1:=ow0.below hb6;have oA1:=oA.mono BM.size;rw[<-HTI.out]at oA1;go_wp2;clear cI;go_loopg [9,12,13] m (fun gk s9 s12 s13 wr=>∃(i:Nat) (D:Option Addr) (d:Nat) (A7:Option Addr) (c7:Nat) (out:List Cl),i<T.length/\s9= .int .i64 i/\s12= .slice D out.length d/\aC 70 2 dH w5.heap.size wr (.slice D out.length d) out/\s13= .slice A7 (til T i).length c7/\aC 60 3 aV w5.heap.size wr (.slice A7 (til T i).length c7) (til T i)/\Hid (f i=gk/\out++rH T f gk i=W)/\out.length+gk<=300/\Below w5.heap.size w5 wr)
       case atStart=>exact⟨i,_,_,_,_,[],hia,rfl,rfl,ow1,by rw[HTI.out],oA1,SQ ⟨HVI.out.symm,HWM.out.symm⟩,by simpa using hm3,B6⟩
       case round=>
        clear ow0 BM B6 ow1 oA1 oA hb6;obtain⟨i,D,d,A7,c7,out,hi,rfl,rfl,hown,rfl,hnow,Hg,hol,hbel⟩:=hrel;by_cases hg0:gk=0
        . subst hg0;have hik:i=k:=HD.out.zero i (by have:=Hg.out.1;simpa using this);have hee:((i:Int) !=(k:Int))=false:=by rw[hik];exact bne_self_eq_false _
          have HO:Hid (out=W):=SQ (by have:=Hg.out.2;rw[rH,List.append_nil]at this;exact this);clear hik;go_wp2;refine bodyPost_ret (v:= .tuple #[.slice D out.length d,.bool true]) (by simp[results,results78,go_sem]) rfl ⟨D,d,by rw[HW.out,<-HWL.out,HO.out],by rw[<-HWL.out];have:=hown.mono B5.size;rw[HO.out]at this;exact this,B5.tr hbel⟩
        . obtain ⟨m', rfl⟩ : ∃ m', gk = m' + 1 := ⟨gk - 1, by omega⟩;have hstep:=Bn HFS.out HD.out (i:=i) (m:=m') (by have:=Hg.out.1;omega)
          have hne:((i:Int) !=(k:Int))=true:=by
           rw[bne_iff_ne];intro e;have e2:i=k:=(by omega);have:=Hg.out.1;rw[e2,HD.out.st]at this;omega
          have HS:=SQ hstep;have hFi:f i=((m'+1:Nat):Int):=Hg.out.1;have HFi:=SQ hFi;clear hstep hg0 hFi;have hlen64:(til T i).length<=64:=by rw[fI hi];exact(HTo.out _ (List.getElem_mem hi)).2
          have hsl:Small (til T i).length:=by unfold Small;omega
          obtain⟨l,hl⟩:=SL (til T i);rw[<-hl]at hnow hsl hlen64⊢;have HL:=SQ hl;clear hl;go_wp2_with fail
          refine(En _ l _ (hnow.rd aB (by decide))).mono ?_;rintro e w7 ⟨A8,c8,rfl,oF,hb7⟩;have hfl:=wV l;obtain⟨F,hF⟩:=SL (dP l);rw[<-hF]at oF hfl⊢;have HF2:=SQ hF;have own7:=hown.below hb7;have now7:=hnow.below hb7;have B7:=hbel.tr hb7;clear hF hown hnow hbel hb7;go_wp2;go_loopw [9,12,13,51] (fun s9 s12 s13 s51 wr=>∃(t:Nat),t<=F.length/\s9= .int .i64 i/\s12= .slice D out.length d/\s13= .slice A7 l.length c7/\s51= .int .i64 t/\Hid (∀j (hj:j<t) (h':j<F.length),¬f (rZ T i F[j])=f i-1)/\Below w7.heap.size w7 wr) (fun _ _ _ x _=>F.length-(intOf x).toNat)
          case atStart=>exact⟨0,zero_le _,rfl,rfl,rfl,rfl,SQ (fun j hj=>by omega),Below.refl _ _⟩
          case round=>
           obtain⟨t,ht,rfl,rfl,rfl,rfl,Hn,hbel⟩:=hrel;by_cases hlt:t<F.length
           . have oF2:=oF.below hbel;obtain⟨bk,off,rfl,hbk,q0,q1⟩:=(oF2.rd dY (by decide)).fE hlt;obtain⟨xy,hxy⟩:=SL (F[t]);have hmem:xy∈dP l:=by rw[hxy,<-HF2.out];exact List.getElem_mem hlt
             rw[<-hxy]at q0 q1;obtain⟨x,y⟩:=xy;simp only at q0 q1;have hkd:¬kindOf l (x,y)=0:=jS.1 hmem
             have hnT:aR l (x,y)∈T:=by
              have:=(HFS.out.cl _ (List.getElem_mem hi) (x,y) (by rw[<-fI hi,<-HL.out];exact hkd)).1;rw[<-fI hi,<-HL.out]at this;exact this
             obtain⟨hat,hat2⟩:=mF hnT;obtain⟨at_,hat3⟩:=SL (ix T (aR l (x,y)));have hnx:rZ T i (x,y)=at_:=by unfold rZ;rw[<-HL.out,hat3]
             have hti:(t:Int)<(F.length:Int):=(by omega);have B8:=hbel.al (.cells #[.int .i64 x,.int .i64 y] 70);have b8:=Blk.aY wr 70 #[.int .i64 x,.int .i64 y];have now8:=now7.below B8;have HNT:=SQ hnT;have HKD:=SQ hkd;have HXY:=SQ hxy;have HMem:=SQ hmem;have HNX:=SQ hnx;rw[<-hat3]at hat;have hat2':til T at_=aR l (x,y):=by rw[fI hat];have:=hat2;simp only[<-hat3]at this;exact this
             have HA2:=SQ hat2';have HA3:=SQ hat3;clear hnT hkd hxy hmem hnx hat2 hat2' hat3 oF2;go_wp2_with fail
             refine(vO _ l x y _ (now8.rd aB (by decide)) hsl HKD.out).mono ?_;rintro e w9 ⟨A9,c9,rfl,oN,hb9⟩;have B9:=B8.tr hb9;have b9:=b8.bl hb9;have oT9:=(oT5.below B7).below B9;obtain⟨N,hN⟩:=SL (aR l (x,y));rw[<-hN]at oN HNT HA2 HA3⊢;clear hN;go_wp2_with fail
             refine(yQ _ _ T N _ oT9 (oN.rd aB (by decide))).mono ?_;rintro e wA ⟨rfl,hbA⟩;rw[pV HNT.out,<-HA3.out];have BA:=B9.tr hbA;have bA:=b9.bl hbA;have oDA:=(oD.below B7).below BA;have cT:=kR oDA hat;have cI:=kR oDA hi;have hatI:(at_:Int)<(T.length:Int):=(by omega);have hiI:(i:Int)<(T.length:Int):=(by omega);obtain⟨va,hva⟩:=SL (f at_);rw[<-hva]at cT;rw[HFi.out]at cI;have HVA:=SQ hva;clear hva;have hvb: -1<=va:=by rw[HVA.out];exact HD.out.low _
             have BO:=B7.tr BA;have ownA:=own7.below BA;obtain⟨k_0,k_1⟩:=bA.n2;by_cases hve:va=(m':Int)
             . subst hve;have H8:Hid ((out.length+1)*16<=140737488355328):=SQ (by omega);have HM:Hid (out.length+1<=maxLen):=SQ (by unfold maxLen;omega)
               have HG : Hid (f at_ = (m' : Int) /\ (out ++ [(x, y)]) ++ rH T f m' at_ = W) := SQ (by
                have hlt':t<(dP (til T i)).length:=by rw[<-HL.out,<-HF2.out];exact hlt
                have hFt:(dP (til T i))[t]=(x,y):=by
                 have:∀(G:List Cl),G=F->∀h:t<G.length,G[t]=(x,y):=fun G e h=>by subst e;exact HXY.out.symm
                 exact this _ (by rw[<-HL.out,<-HF2.out]) hlt'
                have hs := Ch (f := f) hlt' (fun j hj h' => by
                 have hj2:j<F.length:=(by omega);have:=Hn.out j hj hj2
                 have e:(dP (til T i))[j]=F[j]:=by
                  have:∀(G:List Cl),G=F->∀h:j<G.length,G[j]=F[j]:=fun G e h=>by subst e;rfl
                  exact this _ (by rw[<-HL.out,<-HF2.out]) h'
                 rw[e];exact this) (by rw[hFt,HNX.out,<-HVA.out,HFi.out];omega)
                rw[hFt]at hs;refine⟨HVA.out.symm,?_⟩;have h2:=Hg.out.2;rw[ES hs,HNX.out]at h2;rw[<-h2];simp)
               go_wp2_with fail
               go_quiet (fail)
               go_wp2_with (at_builtin;go_must (refine aQ (enc:=dH) iY dY oneCell (below_drewN BO _) (ownA.below (below_drewN (Below.refl _ _) _)) ((x,y):Cl) H8.out HM.out (by simp) rfl _ _ rfl rfl rfl ?_);intro vB wB ownB hbB hgB hdB;obtain⟨AB,cB,rfl,hcB,hmB⟩:=ownB.form)
               go_roundg m'
               case measure=>omega
               case rel=>
                have oNA:=(oN.below hbA).below (below_drewN (Below.refl _ _) nq);have oNB:=aC.lX (oNA.alloc (.cells (dH (x,y)).toArray 70)) ((ownA.below (below_drewN (Below.refl _ _) nq)).alloc (.cells (dH (x,y)).toArray 70)) (by decide) hgB;have hsB:w5.heap.size<=(wr.alloc (.cells #[.int .i64 x,.int .i64 y] 70)).heap.size:=(B7.tr B8).size;have oNC:=oNB.mono hsB;rw[<-HA2.out]at oNC⊢;exact⟨at_,AB,cB,A9,c9,out++[(x,y)],hat,rfl,by simp,ownB,rfl,oNC,HG,by simp;omega,hbB⟩
             . go_wp2_with fail
               go_quiet (fail)
               go_wp2;go_roundw
               case rel => exact ⟨t + 1, by omega, rfl, rfl, rfl, by go_num, SQ (fun j hj h' => by
                rcases(by omega:j<t∨j=t)with h1|h1
                . exact Hn.out j h1 h'
                . subst h1;rw[<-HXY.out,HNX.out,<-HVA.out,HFi.out];omega),below_drewN BA _⟩
               case measure=>simp[intOf];omega
           . obtain rfl : t = F.length := by omega
             exfalso;obtain⟨c,h1,h2,h3,_,_⟩:=HS.out;have h4:=List.mem_of_find?_eq_some h1;rw[<-HL.out,<-HF2.out]at h4;obtain⟨j,hj,e⟩:=List.getElem_of_mem h4;refine Hn.out j hj hj ?_;rw[e,h3,HFi.out];omega
   . rw[wJ hmb];have HN:=SQ (Cz (rows:=rows) (a:=a) (b:=b) (fun q=>hmb (by rw[HT.out];exact q.2.1)));go_wp2;refine bodyPost_ret (v:= .tuple #[.slice none 0 0,.bool false]) (by simp[results,results78,go_sem]) rfl ⟨none,0,by rw[HN.out.1,HN.out.2];rfl,by rw[HN.out.2];exact aC.FD,B3⟩
 . rw[wJ hma];have HN:=SQ (Cz (rows:=rows) (a:=a) (b:=b) (fun q=>hma (by rw[HT.out];exact q.1)));go_wp2;refine bodyPost_ret (v:= .tuple #[.slice none 0 0,.bool false]) (by simp[results,results78,go_sem]) rfl ⟨none,0,by rw[HN.out.1,HN.out.2];rfl,by rw[HN.out.2];exact aC.FD,B3⟩
theorem dR.lX {α β:Type} {E0 E E2:TypeId} {size s2:Nat} {enc:α->List Value} {e2:β->List Value} {B B2:Nat} {w w':World} {v v2:Value} {ls:List (List α)} {l2:List β} (a:dR E0 E size enc B w v ls) (b:aC E2 s2 e2 B2 w v2 l2) (hne0:E0≠E2) (hne:E≠E2) (hg:w.grownBy w' v2.ownBlock):dR E0 E size enc B w' v ls:=by
 obtain⟨us,h1,h2,h3⟩:=a;exact⟨us,h1.lX b hne0 hg,h2,fun k u x hu hx=>(h3 k u x hu hx).lX b hne hg⟩
theorem Np {T:List (List Dm)} {i:Nat} (h:i<T.length):∃h':i<(mK T T.length).length,(mK T T.length)[i]=sF T i:=⟨by rw[nN];exact h,by simp[mK]⟩
theorem OV {T:List (List Dm)} {i t:Nat} (h:t<(dP (til T i)).length):∃h':t<(sF T i).length,(sF T i)[t]=vD T i (dP (til T i))[t]:=⟨by unfold sF;rw[List.length_map];exact h,by simp[sF]⟩
theorem OW (v va vb:Value) (rows:List Int) (a b:List Dm) (w:World) (h:Rd 1 bV w v rows) (ha:Rd 3 bG w va a) (hb:Rd 3 bG w vb b):Calls prog 155 #[.agg #[v],va,vb] w (jB 70 2 dH (uS rows a b) (sS rows a b) w):=by
 obtain⟨Aa,ca,rfl,_,_⟩:=ha.form;obtain⟨Ab,cb,rfl,_,_⟩:=hb.form;have bX:=(Blk.aY w 26 #[v]).alloc (.cells #[] 70);have B0:=((Below.refl w.heap.size w).al (.cells #[v] 26)).al (.cells #[] 70);have ow0:=iA (w.alloc (.cells #[v] 26)) (E:=70) (size:=2) (enc:=dH) (w.heap.size+1) (by simp) w.heap.size (by simp);have hFS:=wG rows;obtain⟨T,hT⟩:=SL (aD rows);have hTo:∀t∈T,t.length<=64:=fun t ht=>by rw[hT]at ht;exact mR ht
 have cL:∀(W:World),Rd 1 bV W v rows->Calls prog 198 #[.agg #[v]] W (Fy T W):=fun W hW=>by rw[hT];exact uD v rows W hW
 have cI:∀(u:Value) (m:List Dm) (W:World),Rd 1 bV W v rows->Rd 3 bG W u m->Calls prog 197 #[.agg #[v],u] W (Ret (.int .i64 (nK T m)) W):=fun u m W h1 h2=>by rw[hT];exact Eo v u rows m W h1 h2
 rw[<-hT]at hFS;have HT:=SQ hT;have HFS:=SQ hFS;have HTo:=SQ hTo;have HCL:=SQ cL;have HCI:=SQ cI;have hsm:=hFS.sm;clear hT hFS hTo cL cI;go_enter Tryz.func155,Tryz.ntmps155
 have z0:=bX.c1;go_wp2_with fail
 refine(HCI.out _ a _ (h.SN B0) (ha.SN B0)).mono ?_;rintro e w1 ⟨rfl,hb1⟩;have B1:=B0.tr hb1;have bX1:=bX.bl hb1;have ow1:=ow0.below hb1;clear z0;have z0:=bX1.c1;go_wp2_with fail
 refine(HCI.out _ b _ (h.SN B1) (hb.SN B1)).mono ?_;rintro e w2 ⟨rfl,hb2⟩;have B2:=B1.tr hb2;have bX2:=bX1.bl hb2;have ow2:=ow1.below hb2;clear z0 ow0 ow1 bX bX1 B0 B1;by_cases hma:a∈T
 . rw[pV hma];obtain⟨hia,hia2⟩:=mF hma;obtain⟨i,hi⟩:=SL (ix T a);rw[<-hi]at hia⊢;by_cases hmb:b∈T
   . rw[pV hmb];obtain⟨hkb,hkb2⟩:=mF hmb;obtain⟨k,hk⟩:=SL (ix T b);rw[<-hk]at hkb⊢;have Hma:=SQ hma;have Hmb:=SQ hmb;have Hi:=SQ hi;have Hk:=SQ hk;clear hma hmb hi hk hia2 hkb2;have z0:=bX2.c1;go_wp2_with fail
     refine(HCL.out _ (h.SN B2)).mono ?_;rintro e w3 ⟨A,c,rfl,oT,hb3⟩;have B3:=B2.tr hb3;have ow3:=ow2.below hb3;go_wp2_with fail
     refine(KU _ T _ oT HFS.out HTo.out).mono ?_;rintro e w4 ⟨A4,c4,rfl,oL,hb4⟩;have B4:=B3.tr hb4;have oT4:=oT.below hb4;have ow4:=ow3.below hb4;go_wp2_with fail
     refine(OL _ T (mK T T.length) k _ oL (OG T) HFS.out hkb).mono ?_;rintro e w5 ⟨⟨A5,c5,rfl,oD,hb5⟩,hD⟩;have B5:=B4.tr hb5;have oT5:=oT4.below hb5;have oL5:=oL.below hb5;have ow5:=ow4.below hb5;obtain⟨f,hf⟩:=SL (nV T k);rw[<-hf]at oD hD;rw[jN]at oD⊢;have hTp:0<T.length:=(by omega);obtain⟨gD,rfl,hgD,hgD2⟩:=oD.split (k:=0) (by rw[jN];exact hTp);have cI:=kR oD hia;have hii:(i:Int)<(T.length:Int):=(by omega);obtain⟨vi,hvi⟩:=SL (f i);rw[<-hvi]at cI;have Hf:=SQ hf;have HD:=SQ hD;have HVI:=SQ hvi;clear hf hD hvi bX2 z0 ow2 ow3 ow4 oT oT4 oL B2 B3 B4 hb3 hb4 hb5;by_cases hneg:vi<0
     . have HN := SQ (Cz (rows := rows) (a := a) (b := b) (fun q => by
        have:=q.2.2;rw[<-HT.out,<-Hi.out,<-Hk.out,<-Hf.out,<-HVI.out]at this;omega))
       go_wp2;refine bodyPost_ret (v:= .tuple #[.slice (some ⟨w.heap.size+1,0,none⟩) 0 0,.bool false]) (by simp[results,results155,go_sem]) rfl ⟨some ⟨w.heap.size+1,0,none⟩,0,by rw[HN.out.1,HN.out.2];rfl,by rw[HN.out.2];exact ow5,B5⟩
     . have hwy := Mo (rows := rows) (a := a) (b := b) (by rw [<- HT.out]; exact Hma.out) (by rw [<- HT.out]; exact Hmb.out) (by rw [<- HT.out, <- Hi.out, <- Hk.out, <- Hf.out, <- HVI.out]; omega);rw[<-HT.out,<-Hi.out,<-Hk.out,<-Hf.out,<-HVI.out]at hwy;obtain⟨W,hW⟩:=SL (uS rows a b);rw[<-hW]at hwy;have hvm:=HD.out.top i;rw[<-HVI.out]at hvm;obtain⟨m,rfl⟩:∃m:Nat,vi=m:=⟨vi.toNat,by omega⟩;have hm3:m<=300:=(by omega);have hwm:=hwy.2;rw[Int.toNat_natCast]at hwm;have HW:=SQ hwy.1;have HWM:=SQ hwm;have HWL:=SQ hW;clear hwy hwm hW hneg hvm;go_wp2;clear cI;go_loopg [8,9] m (fun gk s8 s9 wr=>∃(i:Nat) (D:Option Addr) (d:Nat) (out:List Cl),i<T.length/\s9= .int .i64 i/\s8= .slice D out.length d/\aC 70 2 dH w.heap.size wr (.slice D out.length d) out/\dR 27 60 3 aV 0 wr (.slice A T.length c) T/\dR 24 3 1 bT 0 wr (.slice A4 T.length c4) (mK T T.length)/\aC 3 1 bT 0 wr (.slice (some ⟨gD,0,none⟩) T.length c5) (uR T.length f)/\Hid (f i=gk/\out++rH T f gk i=W)/\out.length+gk<=300/\Below w.heap.size w wr)
       case atStart=>exact⟨i,_,_,[],hia,rfl,rfl,ow5,oT5.mono (zero_le _),oL5.mono (zero_le _),oD.mono (zero_le _),SQ ⟨HVI.out.symm,HWM.out.symm⟩,by simpa using hm3,B5⟩
       case round=>
        clear ow5 oT5 oL5 oD B5 hgD hgD2;obtain⟨i,D,d,out,hi,rfl,rfl,hown,oT,oL,oD,Hg,hol,hbel⟩:=hrel;by_cases hg0:gk=0
        . subst hg0;have hik:i=k:=HD.out.zero i (by have:=Hg.out.1;simpa using this);have hee:((i:Int) !=(k:Int))=false:=by rw[hik];exact bne_self_eq_false _
          have HO:Hid (out=W):=SQ (by have:=Hg.out.2;rw[rH,List.append_nil]at this;exact this);clear hik;go_wp2;refine bodyPost_ret (v:= .tuple #[.slice D out.length d,.bool true]) (by simp[results,results155,go_sem]) rfl ⟨D,d,by rw[HW.out,<-HWL.out,HO.out],by rw[<-HWL.out];have:=hown;rw[HO.out]at this;exact this,hbel⟩
        . obtain ⟨m', rfl⟩ : ∃ m', gk = m' + 1 := ⟨gk - 1, by omega⟩;have hstep:=Bn HFS.out HD.out (i:=i) (m:=m') (by have:=Hg.out.1;omega)
          have hne:((i:Int) !=(k:Int))=true:=by
           rw[bne_iff_ne];intro e;have e2:i=k:=(by omega);have:=Hg.out.1;rw[e2,HD.out.st]at this;omega
          have HS:=SQ hstep;have hFi:f i=((m'+1:Nat):Int):=Hg.out.1;have HFi:=SQ hFi;clear hstep hg0 hFi;have hiI:(i:Int)<(T.length:Int):=(by omega);obtain⟨gT,D1,d1,hAe,_,hgT,cT,tk⟩:=oT.pick hi;subst hAe;obtain⟨l,hl⟩:=SL (til T i);rw[<-fI hi,<-hl]at cT tk;have HL:=SQ hl;clear hl;go_wp2_with fail
          refine(qM _ l _ (tk.rd aB (by decide))).mono ?_;rintro e w7 ⟨A8,c8,rfl,oF,hb7⟩;have hfl:=wV l;obtain⟨F,hF⟩:=SL (dP l);rw[<-hF]at oF hfl⊢;have HF2:=SQ hF;have own7:=hown.below hb7;have oT7:=oT.below hb7;have oL7:=oL.below hb7;have oD7:=oD.below hb7;have B7:=hbel.tr hb7;obtain⟨hil,hil2⟩:=Np hi;obtain⟨gL,DL,dL,hAL,_,hgL,cL,oN⟩:=oL7.NM hil;subst hAL;rw[hil2]at cL oN;have hNl:(sF T i).length=F.length:=by unfold sF;rw[List.length_map,<-HL.out,<-HF2.out]
          rw[hNl]at cL oN;have HNl:=SQ hNl;have HIL:=SQ hil;have HIL2:=SQ hil2;clear hF hown oT oL oD hbel hb7 tk cT hil2 hNl;go_wp2;go_loopw [8,9,15] (fun s8 s9 s15 wr=>∃(t:Nat),t<=F.length/\s9= .int .i64 i/\s8= .slice D out.length d/\s15= .int .i64 t/\Hid (∀j (hj:j<t) (h':j<F.length),¬f (rZ T i F[j])=f i-1)/\Below w7.heap.size w7 wr) (fun _ _ x _=>F.length-(intOf x).toNat)
          case atStart=>exact⟨0,zero_le _,rfl,rfl,rfl,SQ (fun j hj=>by omega),Below.refl _ _⟩
          case round=>
           obtain⟨t,ht,rfl,rfl,rfl,Hn,hbel⟩:=hrel;by_cases hlt:t<F.length
           . have oF2:=oF.below hbel;obtain⟨bk,off,rfl,hbk,q0,q1⟩:=(oF2.rd dY (by decide)).fE hlt;obtain⟨xy,hxy⟩:=SL (F[t]);have hmem:xy∈dP l:=by rw[hxy,<-HF2.out];exact List.getElem_mem hlt
             have hlt':t<(dP (til T i)).length:=by rw[<-HL.out,<-HF2.out];exact hlt
             have hFt:(dP (til T i))[t]=xy:=by
              have:∀(G:List Cl),G=F->∀h:t<G.length,G[t]=xy:=fun G e h=>by subst e;exact hxy.symm
              exact this _ (by rw[<-HL.out,<-HF2.out]) hlt'
             rw[<-hxy]at q0 q1;obtain⟨x,y⟩:=xy;simp only at q0 q1;have hkd:¬kindOf l (x,y)=0:=jS.1 hmem
             have hnT:aR l (x,y)∈T:=by
              have:=(HFS.out.cl _ (List.getElem_mem hi) (x,y) (by rw[<-fI hi,<-HL.out];exact hkd)).1;rw[<-fI hi,<-HL.out]at this;exact this
             obtain⟨hat,hat2⟩:=mF hnT;obtain⟨at_,hat3⟩:=SL (ix T (aR l (x,y)));have hnx:rZ T i (x,y)=at_:=by unfold rZ;rw[<-HL.out,hat3]
             rw[<-hat3]at hat;obtain⟨hlk,hlk2⟩:=OV hlt';have hlv:(sF T i)[t]=(at_:Int):=by rw[hlk2,hFt];unfold vD;rw[<-HL.out,<-hat3]
             have oN2:=oN.below hbel;obtain⟨bL,offL,hDe,hbL,cN⟩:=(oN2.rd aN (by decide)).wL hlk;rw[hlv]at cN;have cL2:=(hbel.cell (p:=⟨gL,i,none⟩) hgL).trans cL;rw[hDe]at cL2;have oD2:=oD7.below hbel;have cT:=kR oD2 hat;have cI:=kR oD2 hi;have hti:(t:Int)<(F.length:Int):=(by omega);have hatI:(at_:Int)<(T.length:Int):=(by omega);obtain⟨va,hva⟩:=SL (f at_);rw[<-hva]at cT;rw[HFi.out]at cI;have HVA:=SQ hva;have HXY:=SQ hxy;have HNX:=SQ hnx;have HFT:=SQ hFt;have HLT:=SQ hlt';have HLK:=SQ hlk;have HLV:=SQ hlv;have hvb: -1<=va:=by rw[hva];exact HD.out.low _
             have BO:=B7.tr hbel;have ownA:=own7.below hbel;clear hva hxy hnx hFt hmem hkd hnT hat2 hat3 hlk2 hlv oN2 oF2;by_cases hve:va=(m':Int)
             . subst hve;have H8:Hid ((out.length+1)*16<=140737488355328):=SQ (by omega);have HM:Hid (out.length+1<=maxLen):=SQ (by unfold maxLen;omega)
               have HG : Hid (f at_ = (m' : Int) /\ (out ++ [(x, y)]) ++ rH T f m' at_ = W) := SQ (by
                have hs := Ch (f := f) HLT.out (fun j hj h' => by
                 have hj2:j<F.length:=(by omega);have:=Hn.out j hj hj2
                 have e:(dP (til T i))[j]=F[j]:=by
                  have:∀(G:List Cl),G=F->∀h:j<G.length,G[j]=F[j]:=fun G e h=>by subst e;rfl
                  exact this _ (by rw[<-HL.out,<-HF2.out]) h'
                 rw[e];exact this) (by rw[HFT.out,HNX.out,<-HVA.out,HFi.out];omega)
                rw[HFT.out]at hs;refine⟨HVA.out.symm,?_⟩;have h2:=Hg.out.2;rw[ES hs,HNX.out]at h2;rw[<-h2];simp)
               go_wp2_with fail
               go_quiet (fail)
               have hkeep : ∀ wB, ((wr.drewN nq).alloc (.cells (dH (x, y)).toArray 70)).grownBy wB (Value.slice D out.length d).ownBlock -> ∃ (dL2 bL2 offL2 : Nat), wB.cell? ⟨gL, i, none⟩ = some (.slice (some ⟨bL2, offL2, none⟩) F.length dL2) /\ wB.cell? ⟨bL2, offL2 + t, none⟩ = some (.int .i64 at_) := fun wB hgB => by
                have oXB:=((ownA.below (below_drewN (Below.refl _ _) nq)).alloc (.cells (dH (x,y)).toArray 70));have oLB:=dR.lX ((oL7.below (below_drewN hbel nq)).alloc (.cells (dH (x,y)).toArray 70)) oXB (by decide) (by decide) hgB;obtain⟨gL2,DL2,dL2,hA2,_,_,cLB,oNB⟩:=oLB.NM HIL.out;have hg2:gL=gL2:=by injection hA2 with hA2;injection hA2
                subst hg2;rw[HIL2.out,HNl.out]at cLB oNB;obtain⟨bL2,offL2,hDe2,hbL2,cNB⟩:=(oNB.rd aN (by decide)).wL HLK.out;rw[HLV.out]at cNB;rw[hDe2]at cLB;exact⟨dL2,bL2,offL2,cLB,cNB⟩
               have HKeep:=SQ hkeep;clear hkeep;go_wp2_with (at_builtin;go_must (refine aQ (enc:=dH) iY dY oneCell (below_drewN BO _) (ownA.below (below_drewN (Below.refl _ _) _)) ((x,y):Cl) H8.out HM.out (by simp) rfl _ _ rfl rfl rfl ?_);intro vB wB ownB hbB hgB hdB;obtain⟨AB,cB,rfl,hcB,hmB⟩:=ownB.form;obtain⟨dL2,bL2,offL2,cLB,cNB⟩:=HKeep.out _ hgB)
               have oXB:=((ownA.below (below_drewN (Below.refl _ _) nq)).alloc (.cells (dH (x,y)).toArray 70));have oLB:=dR.lX ((oL7.below (below_drewN hbel nq)).alloc (.cells (dH (x,y)).toArray 70)) oXB (by decide) (by decide) hgB;have oTB:=dR.lX ((oT7.below (below_drewN hbel nq)).alloc (.cells (dH (x,y)).toArray 70)) oXB (by decide) (by decide) hgB;have oDB:=aC.lX ((oD7.below (below_drewN hbel nq)).alloc (.cells (dH (x,y)).toArray 70)) oXB (by decide) hgB;go_roundg m'
               case measure=>omega
               case rel=>exact⟨at_,AB,cB,out++[(x,y)],hat,rfl,by simp,ownB,oTB,oLB,oDB,HG,by simp;omega,hbB⟩
             . go_wp2_with fail
               go_quiet (fail)
               go_wp2;go_roundw
               case rel => exact ⟨t + 1, by omega, rfl, rfl, by go_num, SQ (fun j hj h' => by
                rcases(by omega:j<t∨j=t)with h1|h1
                . exact Hn.out j h1 h'
                . subst h1;rw[<-HXY.out,HNX.out,<-HVA.out,HFi.out];omega),below_drewN hbel _⟩
               case measure=>simp[intOf];omega
           . obtain rfl : t = F.length := by omega
             exfalso;obtain⟨c,h1,h2,h3,_,_⟩:=HS.out;have h4:=List.mem_of_find?_eq_some h1;rw[<-HL.out,<-HF2.out]at h4;obtain⟨j,hj,e⟩:=List.getElem_of_mem h4;refine Hn.out j hj hj ?_;rw[e,h3,HFi.out];omega
   . rw[wJ hmb];have HN:=SQ (Cz (rows:=rows) (a:=a) (b:=b) (fun q=>hmb (by rw[HT.out];exact q.2.1)));go_wp2;refine bodyPost_ret (v:= .tuple #[.slice (some ⟨w.heap.size+1,0,none⟩) 0 0,.bool false]) (by simp[results,results155,go_sem]) rfl ⟨some ⟨w.heap.size+1,0,none⟩,0,by rw[HN.out.1,HN.out.2];rfl,by rw[HN.out.2];exact ow2,B2⟩
 . rw[wJ hma];have HN:=SQ (Cz (rows:=rows) (a:=a) (b:=b) (fun q=>hma (by rw[HT.out];exact q.1)));go_wp2;refine bodyPost_ret (v:= .tuple #[.slice (some ⟨w.heap.size+1,0,none⟩) 0 0,.bool false]) (by simp[results,results155,go_sem]) rfl ⟨some ⟨w.heap.size+1,0,none⟩,0,by rw[HN.out.1,HN.out.2];rfl,by rw[HN.out.2];exact ow2,B2⟩
theorem JV (u v:Value) (a b:List Dm) (w:World) (h:Rd 3 bG w u a) (h':Rd 3 bG w v b) (hl:a.length<=1000):Calls prog 32 #[u,v] w (Ret (.int .i64 (chg a b:Nat)) w):=by
 obtain⟨A,c,rfl,hc,hm⟩:=h.form;go_enter Tryz.func32,Tryz.ntmps32
 go_wp2;go_loopw [5,6] (fun s5 s6 wr=>∃(k:Nat),k<=a.length/\s6= .int .i64 k/\s5= .int .i64 (yN a b k:Nat)/\Below w.heap.size w wr) (fun _ i _=>a.length-(intOf i).toNat)
 case atStart=>exact⟨0,zero_le _,rfl,rfl,Below.refl _ _⟩
 case round=>
  obtain⟨k,hk,rfl,rfl,hbel⟩:=hrel;by_cases hlt:k<a.length
  . obtain⟨bb,off,rfl,hb,q0,q1,q2⟩:=(h.SN hbel).kN hlt;have hki:(k:Int)<(a.length:Int):=(by omega);have hst:=KJ (b:=b) hlt;have hle:=Ov a b k;obtain⟨x,hx⟩:=SL (a[k]);rw[<-hx]at q0 q1 q2 hst;obtain⟨x,y,s⟩:=x;simp only at q0 q1 q2;obtain⟨n,hn⟩:=SL (yN a b k);rw[<-hn]at hst hle⊢;have HST:=SQ hst;clear hx hn hst;have hn2:(n:Int)<=1000:=(by omega);rcases hbo:b.contains (x,y,s)with _|_
    . go_wp2_with fail
      refine(xL v b x y s _ (h'.SN hbel) hbo).mono ?_;rintro e w2 ⟨rfl,hb2⟩;have B2:=hbel.tr hb2;have HS2:Hid (yN a b (k+1)=n+1):=SQ (by rw[HST.out,hbo];rfl);clear hbo;go_wp2;go_roundw
      case rel=>exact⟨k+1,by omega,by go_num,by rw[HS2.out];go_num,B2⟩
      case measure=>simp[intOf];omega
    . obtain⟨r,hr0,hcr⟩:=qU v b x y s wr (h'.SN hbel) hbo;have HS2:Hid (yN a b (k+1)=n):=SQ (by rw[HST.out,hbo];rfl);clear hbo;go_wp2_with fail
      refine hcr.mono ?_;rintro e w2 ⟨rfl,hb2⟩;have B2:=hbel.tr hb2;go_wp2;go_roundw
      case rel=>exact⟨k+1,by omega,by go_num,by rw[HS2.out],B2⟩
      case measure=>simp[intOf];omega
  . obtain rfl : k = a.length := by omega
    rw[Ng];go_wp2;go_ret;exact⟨rfl,hbel⟩
def Qi (T:List (List Dm)) (B:Nat) (w:World) (v:Value) (o:Option (List Dm)):Prop:=(o=none/\v= .slice none 0 0)∨∃m g d,o=some m/\m∈T/\v= .slice (some ⟨g,0,none⟩) m.length d/\aC 60 3 aV B w (.slice (some ⟨g,0,none⟩) m.length d) m
theorem Qi.below {T:List (List Dm)} {B:Nat} {w w':World} {v:Value} {o:Option (List Dm)} (h:Qi T B w v o) (hb:Below w.heap.size w w'):Qi T B w' v o:=by
 rcases h with h|⟨m,g,d,h1,h2,h3,h4⟩
 . exact .inl h
 . exact .inr ⟨m,g,d,h1,h2,h3,h4.below hb⟩
theorem Nq {l t:List Dm} {d:Dm} {o:Option (List Dm)} (h:t.contains d=true):jY l d o t=o:=by unfold jY;rw[if_pos h]
theorem Jd {l t:List Dm} {d:Dm} (h:t.contains d=false):jY l d none t=some t:=by unfold jY;rw[if_neg (by rw[h];decide)]
theorem Nr {l t m:List Dm} {d:Dm} (h:t.contains d=false) (hl:chg l t<chg l m):jY l d (some m) t=some t:=by unfold jY;rw[if_neg (by rw[h];decide)];simp only;rw[if_pos hl]
theorem Ns {l t m:List Dm} {d:Dm} (h:t.contains d=false) (hl:¬chg l t<chg l m):jY l d (some m) t=some m:=by unfold jY;rw[if_neg (by rw[h];decide)];simp only;rw[if_neg hl]
def Rv (T:List (List Dm)) (o:Option (List Dm)) (q:Int):Prop:=(o=none/\q= -1)∨∃(j:Nat) (h:j<T.length),o=some T[j]/\q=(j:Int)
theorem Nt {B:Nat} (u v:Value) (T:List (List Dm)) (l:List Dm) (x y:Int) (s:Bool) (w:World) (h:dR 27 60 3 aV B w u T) (h':Rd 3 bG w v l) (hl:l.length<=1000) (hT:T.length<=300):
 Calls prog 199 #[u,v,.agg #[.int .i64 x,.int .i64 y,.bool s]] w (fun e w'=>∃q,e= .returned (.int .i64 q)/\Rv T (iR T l (x,y,s)) q/\Below w.heap.size w w'):=by
 obtain⟨A,c,rfl,hc,hm⟩:=h.form;obtain⟨Al,cl,rfl,_,_⟩:=h'.form;have B0:=(Below.refl w.heap.size w).al (.cells #[.int .i64 x,.int .i64 y,.bool s] 60);have bX:=Blk.aY w 60 #[.int .i64 x,.int .i64 y,.bool s];obtain⟨W,hW⟩:=SL (w.alloc (.cells #[.int .i64 x,.int .i64 y,.bool s] 60));rw[<-hW]at B0 bX;have HW:=SQ hW;clear hc hm;go_enter Tryz.func199,Tryz.ntmps199
 go_wp2;rw[<-hW];clear hW;go_loopw [7,8,9] (fun s7 s8 s9 wr=>∃(k:Nat) (q n:Int),k<=T.length/\s9= .int .i64 k/\s7= .int .i64 q/\s8= .int .i64 n/\Rv T (pR T l (x,y,s) k) q/\(∀m,pR T l (x,y,s) k=some m->n=(chg l m:Nat))/\Below W.heap.size W wr) (fun _ _ i _=>T.length-(intOf i).toNat)
 case atStart=>exact⟨0,-1,0,zero_le _,rfl,rfl,rfl,.inl ⟨rfl,rfl⟩,(fun m h=>by cases h),Below.refl _ _⟩
 case round=>
  obtain⟨k,q,n,hk,rfl,rfl,rfl,hbq,hbn,hbel⟩:=hrel;have B1:=B0.tr hbel;have bX1:=bX.bl hbel;by_cases hlt:k<T.length
  . obtain⟨g,D,d,rfl,hg1,hg2,c1,oT⟩:=(h.below B1).pick hlt;have hki:(k:Int)<(T.length:Int):=(by omega);have hst:=I4 (list:=l) (d:=(x,y,s)) hlt;obtain⟨t,ht⟩:=SL (T[k]);rw[<-ht]at c1 oT hst;have HST:=SQ hst;have HT:=SQ ht;clear ht hst;have h1l:(chg l t:Int)<=1000:=by have:=PU l t;omega
    obtain⟨q_0,q_1,q_2⟩:=bX1.n3;have hwX:w.heap.size<wr.heap.size:=by have:=bX1.lt;omega
    rcases hct:t.contains (x,y,s)with _|_
    . have Hct:=SQ hct;clear hct;have Bw:Below wr.heap.size wr wr.drew:=(Below.refl _ _).drew;have hz:wr.heap.size<=wr.drew.heap.size:=(by simp);go_wp2_with fail
      refine rB (fun w'=>w'.cell? ⟨g,k,none⟩=some (.slice D t.length d)/\w'.cell? ⟨w.heap.size,0,none⟩=some (.int .i64 x)/\w'.cell? ⟨w.heap.size,1,none⟩=some (.int .i64 y)/\w'.cell? ⟨w.heap.size,2,none⟩=some (.bool s)) fun hHeld=>(tW 0)<|(tW 1)<|(tW 2)<|(tW 3)<|(tW 4)<|(tR [5])<|tL fun K hK=>?_
      go_simp
      (go_at_call 81;go_must (refine(xL _ t x y s _ ((oT.below Bw).rd aB (by decide)) Hct.out).mono ?_;rintro e wX ⟨rfl,hbX⟩;obtain⟨hcX,hfX,hzX⟩:=bkn hbX wr.heap.size hz;have hz:=hzX;have Bw:=Bw.tr hbX);(try go_wp2_with fail))
      refine tK hK fun hHeld=>?_
      clear hK K;refine(tW 6)<|tD ?_
      all_goals
        have B2:=B1.tr Bw;have c2:=(Bw.cell (p:=⟨g,k,none⟩) hg2).trans c1;go_wp2_with fail
        refine(JV _ _ l t _ (h'.SN B2) ((oT.below Bw).rd aB (by decide)) hl).mono ?_;rintro e w3 ⟨rfl,hb3⟩;have Bk:=(hbel.tr Bw).tr hb3;rcases hbq with⟨hb0,rfl⟩|⟨j,hj,hb0,rfl⟩
        . have HN : Hid (pR T l (x, y, s) (k + 1) = some T[k]) := SQ (by rw [HST.out, hb0, <- HT.out]; exact Jd Hct.out);clear hb0 hbn;go_wp2;go_roundw
          case rel=>exact⟨k+1,k,_,by omega,by go_num,rfl,rfl,.inr ⟨k,hlt,HN.out,rfl⟩,fun m hm=>by rw[HN.out,<-HT.out]at hm;injection hm with hm;rw[hm],Bk⟩
          case measure=>simp[intOf];omega
        . have hj2 : (j : Int) <= 300 := by omega
          obtain⟨m,hm⟩:=SL (T[j]);rw[<-hm]at hb0;have hn:=hbn m hb0;have h2l:n<=1000/\0<=n:=by have:=PU l m;omega
          by_cases hlt2:chg l t<chg l m
          . have hi2 : (chg l t : Int) < n := by omega
            have HN:Hid (pR T l (x,y,s) (k+1)=some T[k]):=SQ (by rw[HST.out,hb0,<-HT.out];exact Nr Hct.out hlt2);clear hb0 hbn hn hm;go_wp2;go_roundw
            case rel=>exact⟨k+1,k,_,by omega,by go_num,rfl,rfl,.inr ⟨k,hlt,HN.out,rfl⟩,fun m hm=>by rw[HN.out,<-HT.out]at hm;injection hm with hm;rw[hm],Bk⟩
            case measure=>simp[intOf];omega
          . have hi2 : ¬ ((chg l t : Int) < n) := by omega
            have HN:Hid (pR T l (x,y,s) (k+1)=some m):=SQ (by rw[HST.out,hb0];exact Ns Hct.out hlt2);have HM:=SQ hm;have Hn:=SQ hn;clear hb0 hbn hn hm;go_wp2;go_roundw
            case rel=>exact⟨k+1,j,n,by omega,by go_num,rfl,rfl,.inr ⟨j,hj,by rw[HN.out,HM.out],rfl⟩,fun m' hm'=>by rw[HN.out]at hm';injection hm' with hm';rw[<-hm'];exact Hn.out,Bk⟩
            case measure=>simp[intOf];omega
    . have HN : Hid (pR T l (x, y, s) (k + 1) = pR T l (x, y, s) k) := SQ (by rw [HST.out]; exact Nq hct);obtain⟨r,hr0,-⟩:=qU _ t x y s _ (oT.rd aB (by decide)) hct;have Hr:Hid (∀W:World,Rd 3 bG W (.slice D t.length d) t->Calls prog 81 #[.slice D t.length d,.agg #[.int .i64 x,.int .i64 y,.bool s]] W (fun e w'=>∃r:Int,0<=r/\e= .returned (.int .i64 r)/\Below W.heap.size W w')):=SQ (fun W hW=>by obtain⟨r,h0,hc⟩:=qU _ t x y s W hW hct;exact hc.mono (fun e w' hh=>⟨r,h0,hh⟩));clear hct hr0;have Bw:Below wr.heap.size wr wr.drew:=(Below.refl _ _).drew;have hz:wr.heap.size<=wr.drew.heap.size:=(by simp);go_wp2_with fail
      refine rB (fun w'=>w'.cell? ⟨g,k,none⟩=some (.slice D t.length d)/\w'.cell? ⟨w.heap.size,0,none⟩=some (.int .i64 x)/\w'.cell? ⟨w.heap.size,1,none⟩=some (.int .i64 y)/\w'.cell? ⟨w.heap.size,2,none⟩=some (.bool s)) fun hHeld=>(tW 0)<|(tW 1)<|(tW 2)<|(tW 3)<|(tW 4)<|(tR [5])<|tL fun K hK=>?_
      go_simp
      (go_at_call 81;go_must (refine(Hr.out _ ((oT.below Bw).rd aB (by decide))).mono ?_;rintro e wX ⟨r,hr0,rfl,hbX⟩;obtain⟨hcX,hfX,hzX⟩:=bkn hbX wr.heap.size hz;have hz:=hzX;have Bw:=Bw.tr hbX);(try go_wp2_with fail))
      refine tK hK fun hHeld=>?_
      clear hK K;refine(tW 6)<|tD ?_
      all_goals
        have Bk:=hbel.tr Bw;go_wp2;go_roundw
        case rel=>exact⟨k+1,q,n,by omega,by go_num,rfl,rfl,by rw[HN.out];exact hbq,by rw[HN.out];exact hbn,Bk⟩
        case measure=>simp[intOf];omega
  . obtain rfl : k = T.length := by omega
    rw[KL]at hbq;go_wp2;go_ret;exact⟨_,rfl,hbq,B1⟩
theorem QW {rows:List Int} {l:List Dm} {d:Dm} (h:¬l∈aD rows):H6 rows l d=[]/\Gd rows l d=false:=by
 unfold H6 Gd;rw[if_neg h,decide_eq_false h];exact⟨rfl,rfl⟩
theorem OX {rows:List Int} {l:List Dm} {d:Dm} (h:l∈aD rows) (e:iR (aD rows) l d=none):H6 rows l d=[]/\Gd rows l d=false:=by
 unfold H6 Gd;rw[if_pos h,decide_eq_true h,e];exact⟨rfl,rfl⟩
theorem JW {rows:List Int} {l m:List Dm} {d:Dm} (h:l∈aD rows) (e:iR (aD rows) l d=some m):H6 rows l d=m/\Gd rows l d=true:=by
 unfold H6 Gd;rw[if_pos h,decide_eq_true h,e];exact⟨rfl,rfl⟩
theorem Mq {rows:List Int} {l:List Dm} {d:Dm} (h:Gd rows l d=true):l∈aD rows/\H6 rows l d∈aD rows:=by
 unfold Gd at h;rw[Bool.and_eq_true,decide_eq_true_iff,Option.isSome_iff_exists]at h;obtain⟨h1,m,h2⟩:=h;rw[(JW h1 h2).1];rcases JE _ _ _ h2 with h3|h3
 . cases h3
 . exact⟨h1,h3⟩
theorem OY (v u:Value) (rows:List Int) (l:List Dm) (x y:Int) (s:Bool) (w:World) (h:Rd 1 bV w v rows) (h':Rd 3 bG w u l):Calls prog 154 #[.agg #[v],u,.agg #[.int .i64 x,.int .i64 y,.bool s]] w (jB 60 3 aV (H6 rows l (x,y,s)) (Gd rows l (x,y,s)) w):=by
 obtain⟨Al,cl,rfl,_,_⟩:=h'.form;have B0:=((Below.refl w.heap.size w).al (.cells #[v] 26)).al (.cells #[.int .i64 x,.int .i64 y,.bool s] 60);have bR:=(Blk.aY w 26 #[v]).alloc (.cells #[.int .i64 x,.int .i64 y,.bool s] 60);have bX:=Blk.iX (w.alloc (.cells #[v] 26)) 60 #[.int .i64 x,.int .i64 y,.bool s] (w.heap.size+1) (by simp);have hsm:=EJ rows;have hnot:= @QW rows l (x,y,s);have hnone:= @OX rows l (x,y,s);have hsome:=fun m=> @JW rows l m (x,y,s)
 obtain⟨T,hT⟩:=SL (aD rows);have cL:∀(W:World),Rd 1 bV W v rows->Calls prog 198 #[.agg #[v]] W (Fy T W):=fun W hW=>by rw[hT];exact uD v rows W hW
 have cI:∀(u:Value) (m:List Dm) (W:World),Rd 1 bV W v rows->Rd 3 bG W u m->Calls prog 197 #[.agg #[v],u] W (Ret (.int .i64 (nK T m)) W):=fun u m W h1 h2=>by rw[hT];exact Eo v u rows m W h1 h2
 have hlm:∀m:List Dm,m∈aD rows->m.length<=1000:=fun m hm=>by have:=mR hm;omega
 rw[<-hT]at hsm hnot hnone hsome hlm;have HCL:=SQ cL;have HCI:=SQ cI;have HN1:=SQ hnot;have HN2:=SQ hnone;have HN3:=SQ hsome;clear hT cL cI hnot hnone hsome;go_enter Tryz.func154,Tryz.ntmps154
 have z0:=bR.c1;obtain⟨q_0,q_1,q_2⟩:=bX.n3;go_wp2_with fail
 refine(HCI.out _ l _ (h.SN B0) (h'.SN B0)).mono ?_;rintro e w1 ⟨rfl,hb1⟩;have B1:=B0.tr hb1;have bR1:=bR.bl hb1;have bX1:=bX.bl hb1;clear z0 q_0 q_1 q_2;by_cases hm:l∈T
 . have hll:=hlm l hm;rw[pV hm];obtain⟨hia,hia2⟩:=mF hm;obtain⟨i,hi⟩:=SL (ix T l);rw[<-hi]at hia⊢;clear hi hia2;have Hm:=SQ hm;clear hm;have z0:=bR1.c1;go_wp2_with fail
   refine(HCL.out _ (h.SN B1)).mono ?_;rintro e w2 ⟨A,c,rfl,oT,hb2⟩;have B2:=B1.tr hb2;clear z0;have bX2:=bX1.bl hb2;obtain⟨q_0,q_1,q_2⟩:=bX2.n3;go_wp2_with fail
   refine(Nt _ _ T l x y s _ oT (h'.SN B2) hll hsm).mono ?_;rintro e w3 ⟨q,rfl,hq,hb3⟩;have B3:=B2.tr hb3;clear q_0 q_1 q_2;rcases hq with⟨e0,rfl⟩|⟨j,hj,e0,rfl⟩
   . obtain⟨r1,r2⟩:=HN2.out Hm.out e0;clear e0;go_wp2;go_ret2
     rw[r1,r2];exact⟨_,_,rfl,iA w3 (E:=60) (size:=3) (enc:=aV) w3.heap.size (by simp) w.heap.size (by have:=B3.size;simpa using this),B3.al _⟩
   . obtain⟨g,D,d,rfl,hg1,hg2,c1,ownk⟩:=(oT.below hb3).pick hj;obtain⟨r1,r2⟩:=HN3.out _ Hm.out e0;clear e0;obtain⟨t,ht⟩:=SL (T[j]);rw[<-ht]at c1 ownk r1;clear ht;have hj2:(j:Int)<(T.length:Int):=(by omega);go_wp2;go_ret2
     rw[r1,r2];exact⟨_,_,rfl,ownk.mono B1.size,B3⟩
 . rw[wJ hm];obtain⟨r1,r2⟩:=HN1.out hm;clear hm;go_wp2;go_ret2
   rw[r1,r2];exact⟨_,_,rfl,iA w1 (E:=60) (size:=3) (enc:=aV) w1.heap.size (by simp) w.heap.size (by have:=B1.size;simpa using this),B1.al _⟩
def Rw (rows:List Int) (l:List Dm) (d:Dm):Int:=if Gd rows l d=true then((chg l (H6 rows l d):Nat):Int)else-1
end Go.Proofs.YtljfoohaapckeaaGreatDoor
