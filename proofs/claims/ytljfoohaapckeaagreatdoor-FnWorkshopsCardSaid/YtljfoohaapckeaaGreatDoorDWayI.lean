/- The shortest way of flips, of the program: the walk. Conditions: the library's table of powers, as its text lays it. -/
import Derived.Test.YtljfoohaapckeaaGreatDoorDG27
import Derived.Test.YtljfoohaapckeaaGreatDoorDListI
import Derived.Test.YtljfoohaapckeaaGreatDoorDG6
import Derived.Test.YtljfoohaapckeaaGreatDoorDG25
namespace Go.Proofs.YtljfoohaapckeaaGreatDoor
open Go.ChangeShapes Go.WideShapes Go.ChangeAt Go.RowKit
set_option linter.unusedVariables false
set_option linter.unusedSimpArgs false
set_option maxHeartbeats 4000000
set_option maxRecDepth 100000
theorem BQ {α : Type} {p : α -> Bool} : ∀ {l : List α} {t : Nat} (h : t < l.length), (∀ j (hj : j < t), p (l[j]'(by omega)) = false) -> p l[t] = true -> l.find? p = some l[t]
  |[],t,h,_,_=>by simp at h
  | a :: l, 0, h, _, e => by
   have e':p a=true:=e;rw[List.find?_cons_of_pos e'];rfl
  | a :: l, t + 1, h, hn, e => by
   have e1:p a=false:=hn 0 (Nat.succ_pos _);rw[List.find?_cons_of_neg (by rw[e1];decide)];exact BQ (by simpa using h) (fun j hj=>hn (j+1) (by omega)) e
theorem mF {T:List (List Dm)} {m:List Dm} (h:m∈T):lY T m=((ix T m:Nat):Int):=if_pos h
theorem qK {T:List (List Dm)} {m:List Dm} (h:¬m∈T):lY T m= -1:=if_neg h
theorem Ap {rows:List Int} {a b:List Dm} (h:¬(a∈aF rows/\b∈aF rows/\0<=pY (aF rows) (ix (aF rows) b) (ix (aF rows) a))):Eo rows a b=false/\BD rows a b=[]:=by
 have e:Eo rows a b=false:=by
  rw[Bool.eq_false_iff];intro q;unfold Eo at q;simp only[Bool.and_eq_true,decide_eq_true_eq]at q;exact h ⟨q.1.1,q.1.2,q.2⟩
 exact⟨e,by unfold BD;rw[e];rfl⟩
theorem JO {rows:List Int} {a b:List Dm} (h1:a∈aF rows) (h2:b∈aF rows) (h3:0<=pY (aF rows) (ix (aF rows) b) (ix (aF rows) a)):Eo rows a b=true/\BD rows a b=rP (aF rows) (pY (aF rows) (ix (aF rows) b)) (pY (aF rows) (ix (aF rows) b) (ix (aF rows) a)).toNat (ix (aF rows) a):=by
 have e:Eo rows a b=true:=by
  unfold Eo;simp only[Bool.and_eq_true,decide_eq_true_eq];exact⟨⟨h1,h2⟩,h3⟩
 exact⟨e,by unfold BD;rw[if_pos e]⟩
theorem zY {T:List (List Dm)} {f:Nat->Int} {i t:Nat} (h:t<(dQ (til T i)).length) (hn:∀j (hj:j<t) (h':j<(dQ (til T i)).length),¬f (rO T i (dQ (til T i))[j])=f i-1) (he:f (rO T i (dQ (til T i))[t])=f i-1):Fz T f i=some (dQ (til T i))[t]:=by
 unfold Fz;exact BQ h (fun j hj=>by rw[decide_eq_false_iff_not];exact hn j hj (by omega)) (decide_eq_true he)
theorem LK (v va vb:Value) (rows:List Int) (a b:List Dm) (w:World) (h:Rd 1 bH w v rows) (ha:Rd 3 aU w va a) (hb:Rd 3 aU w vb b) (ht:Tab w):Calls Tryz.prog 78 #[.agg #[v],va,vb] w (iG 70 2 dE (BD rows a b) (Eo rows a b) w):=by
 have B0:=(Below.refl w.heap.size w).al (.cells #[v] 26);obtain⟨Aa,ca,rfl,_,_⟩:=ha.form;obtain⟨Ab,cb,rfl,_,_⟩:=hb.form;have hFS:=Cy rows;obtain⟨T,hT⟩:=Oy (aF rows);have hTo:∀t∈T,(∀d∈t,aH d=true)/\t.length<=64:=fun t ht=>by rw[hT]at ht;exact⟨M5 ht,jI ht⟩
 have cL:∀(W:World),Rd 1 bH W v rows->Calls Tryz.prog 130 #[.agg #[v]] W (Bo T W):=fun W hW=>by rw[hT];exact Ew v rows W hW
 rw[<-hT]at hFS;have HTt:=OA ht;have HT:=OA hT;have HFS:=OA hFS;have HTo:=OA hTo;have HCL:=OA cL;have hsm:=hFS.sm;clear ht hT hFS hTo cL;go_enter Tryz.func78,Tryz.ntmps78
 go_wp2_with fail
 refine(HCL.out _ (h.Oz B0)).mono ?_;rintro e w1 ⟨A,c,rfl,oT,hb1⟩;have B1:=B0.tr hb1;have oT:=oT.mono B0.size;go_wp2_with fail
 refine(rQ _ _ T a _ oT (ha.Oz B1)).mono ?_;rintro e w2 ⟨rfl,hb2⟩;have B2:=B1.tr hb2;have oT:=oT.below hb2;go_wp2_with fail
 refine(rQ _ _ T b _ oT (hb.Oz B2)).mono ?_;rintro e w3 ⟨rfl,hb3⟩;have B3:=B2.tr hb3;have oT:=oT.below hb3;by_cases hma:a∈T
 . rw[mF hma];obtain⟨hia,hia2⟩:=lX hma;obtain⟨i,hi⟩:=Oy (ix T a);rw[<-hi]at hia⊢;have hti:til T i=a:=by rw[iE hia];have:=hia2;simp only[<-hi]at this;exact this
   by_cases hmb:b∈T
   . rw[mF hmb];obtain⟨hkb,hkb2⟩:=lX hmb;obtain⟨k,hk⟩:=Oy (ix T b);rw[<-hk]at hkb⊢;have Hma:=OA hma;have Hmb:=OA hmb;have Hi:=OA hi;have Hk:=OA hk;have HTI:=OA hti;have hsa:Small a.length:=by have:=(HTo.out a hma).2;unfold Small;omega
     clear hma hmb hi hk hti hia2 hkb2;go_wp2_with fail
     refine(Ku _ T _ oT HFS.out HTo.out (HTt.out.below B3)).mono ?_;rintro e w4 ⟨A4,c4,rfl,oN,hb4⟩;have B4:=B3.tr hb4;have oT4:=oT.below hb4;go_wp2_with fail
     refine(Lx _ T (nN T T.length) k _ oN (Ls T) HFS.out hkb).mono ?_;rintro e w5 ⟨⟨A5,c5,rfl,oD,hb5⟩,hD⟩;have B5:=B4.tr hb5;have oT5:=oT4.below hb5;obtain⟨f,hf⟩:=Oy (pY T k);rw[<-hf]at oD hD;rw[iW]at oD⊢;have hTp:0<T.length:=(by omega);obtain⟨gD,rfl,hgD,hgD2⟩:=oD.split (k:=0) (by rw[iW];exact hTp);have cI:=jS oD hia;have hii:(i:Int)<(T.length:Int):=(by omega);obtain⟨vi,hvi⟩:=Oy (f i);rw[<-hvi]at cI;have Hf:=OA hf;have HD:=OA hD;have HVI:=OA hvi;clear hf hD hvi;by_cases hneg:vi<0
     . have HN := OA (Ap (rows := rows) (a := a) (b := b) (fun q => by
        have:=q.2.2;rw[<-HT.out,<-Hi.out,<-Hk.out,<-Hf.out,<-HVI.out]at this;omega))
       go_wp2;refine bodyPost_ret (v:= .tuple #[.slice none 0 0,.bool false]) (by simp[results,Tryz.results78,go_sem]) rfl ⟨none,0,by rw[HN.out.1,HN.out.2];rfl,by rw[HN.out.2];exact aC.CV,B5⟩
     . have hwy := JO (rows := rows) (a := a) (b := b) (by rw [<- HT.out]; exact Hma.out) (by rw [<- HT.out]; exact Hmb.out) (by rw [<- HT.out, <- Hi.out, <- Hk.out, <- Hf.out, <- HVI.out]; omega);rw[<-HT.out,<-Hi.out,<-Hk.out,<-Hf.out,<-HVI.out]at hwy;obtain⟨W,hW⟩:=Oy (BD rows a b);rw[<-hW]at hwy⊢;have hvm:=HD.out.top i;rw[<-HVI.out]at hvm;obtain⟨m,rfl⟩:∃m:Nat,vi=m:=⟨vi.toNat,by omega⟩;have hm3:m<=300:=(by omega);have hwm:=hwy.2;rw[Int.toNat_natCast]at hwm;have HW:=OA hwy.1;have HWM:=OA hwm;have HWL:=OA hW;have ow0:=iK w5 (E:=70) (size:=2) (enc:=dE) w5.heap.size rfl w5.heap.size (Nat.le_refl _);have BM:=(Below.refl w5.heap.size w5).al (.cells #[] 70);clear hwy hwm hW hneg hvm;go_wp2_with fail
       refine(cZ _ a _ (ha.Oz (B5.tr BM)) hsa).mono ?_;rintro e w6 ⟨A6,c6,rfl,oA,hb6⟩;have B6:=BM.tr hb6;have ow1:=ow0.below hb6;have oA1:=oA.mono BM.size;rw[<-HTI.out]at oA1;go_wp2;clear cI;go_loopg [9,12,13] m (fun gk s9 s12 s13 wr=>∃(i:Nat) (D:Option Addr) (d:Nat) (A7:Option Addr) (c7:Nat) (out:List Cl),i<T.length/\s9= .int .i64 i/\s12= .slice D out.length d/\aC 70 2 dE w5.heap.size wr (.slice D out.length d) out/\s13= .slice A7 (til T i).length c7/\aC 60 3 aT w5.heap.size wr (.slice A7 (til T i).length c7) (til T i)/\Hid (f i=gk/\out++rP T f gk i=W)/\out.length+gk<=300/\Below w5.heap.size w5 wr)
       case atStart=>exact⟨i,_,_,_,_,[],hia,rfl,rfl,ow1,by rw[HTI.out],oA1,OA ⟨HVI.out.symm,HWM.out.symm⟩,by simpa using hm3,B6⟩
       case round=>
        clear ow0 BM B6 ow1 oA1 oA hb6;obtain⟨i,D,d,A7,c7,out,hi,rfl,rfl,hown,rfl,hnow,Hg,hol,hbel⟩:=hrel;by_cases hg0:gk=0
        . subst hg0;have hik:i=k:=HD.out.zero i (by have:=Hg.out.1;simpa using this);have hee:((i:Int) !=(k:Int))=false:=by rw[hik];exact bne_self_eq_false _
          have HO:Hid (out=W):=OA (by have:=Hg.out.2;rw[rP,List.append_nil]at this;exact this);clear hik;go_wp2;refine bodyPost_ret (v:= .tuple #[.slice D out.length d,.bool true]) (by simp[results,Tryz.results78,go_sem]) rfl ⟨D,d,by rw[HW.out,<-HWL.out,HO.out],by rw[<-HWL.out];have:=hown.mono B5.size;rw[HO.out]at this;exact this,B5.tr hbel⟩
        . obtain ⟨m', rfl⟩ : ∃ m', gk = m' + 1 := ⟨gk - 1, by omega⟩;have hstep:=En HFS.out HD.out (i:=i) (m:=m') (by have:=Hg.out.1;omega)
          have hne:((i:Int) !=(k:Int))=true:=by
           rw[bne_iff_ne];intro e;have e2:i=k:=(by omega);have:=Hg.out.1;rw[e2,HD.out.st]at this;omega
          have HS:=OA hstep;have hFi:f i=((m'+1:Nat):Int):=Hg.out.1;have HFi:=OA hFi;clear hstep hg0 hFi;have hlen64:(til T i).length<=64:=by rw[iE hi];exact(HTo.out _ (List.getElem_mem hi)).2
          have hsl:Small (til T i).length:=by unfold Small;omega
          obtain⟨l,hl⟩:=Oy (til T i);rw[<-hl]at hnow hsl hlen64⊢;have HL:=OA hl;clear hl;go_wp2_with fail
          refine(BK _ l _ (hnow.rd aB (by decide))).mono ?_;rintro e w7 ⟨A8,c8,rfl,oF,hb7⟩;have hfl:=uO l;obtain⟨F,hF⟩:=Oy (dQ l);rw[<-hF]at oF hfl⊢;have HF2:=OA hF;have own7:=hown.below hb7;have now7:=hnow.below hb7;have B7:=hbel.tr hb7;clear hF hown hnow hbel hb7;go_wp2;go_loopw [9,12,13,51] (fun s9 s12 s13 s51 wr=>∃(t:Nat),t<=F.length/\s9= .int .i64 i/\s12= .slice D out.length d/\s13= .slice A7 l.length c7/\s51= .int .i64 t/\Hid (∀j (hj:j<t) (h':j<F.length),¬f (rO T i F[j])=f i-1)/\Below w7.heap.size w7 wr) (fun _ _ _ x _=>F.length-(intOf x).toNat)
          case atStart=>exact⟨0,Nat.zero_le _,rfl,rfl,rfl,rfl,OA (fun j hj=>by omega),Below.refl _ _⟩
          case round=>
           obtain⟨t,ht,rfl,rfl,rfl,rfl,Hn,hbel⟩:=hrel;by_cases hlt:t<F.length
           . have oF2:=oF.below hbel;obtain⟨bk,off,rfl,hbk,q0,q1⟩:=(oF2.rd dS (by decide)).eZ hlt;obtain⟨xy,hxy⟩:=Oy (F[t]);have hmem:xy∈dQ l:=by rw[hxy,<-HF2.out];exact List.getElem_mem hlt
             rw[<-hxy]at q0 q1;obtain⟨x,y⟩:=xy;simp only at q0 q1;have hkd:¬kindOf l (x,y)=0:=kL.1 hmem
             have hnT:aS l (x,y)∈T:=by
              have:=(HFS.out.cl _ (List.getElem_mem hi) (x,y) (by rw[<-iE hi,<-HL.out];exact hkd)).1;rw[<-iE hi,<-HL.out]at this;exact this
             obtain⟨hat,hat2⟩:=lX hnT;obtain⟨at_,hat3⟩:=Oy (ix T (aS l (x,y)));have hnx:rO T i (x,y)=at_:=by unfold rO;rw[<-HL.out,hat3]
             have hti:(t:Int)<(F.length:Int):=(by omega);have B8:=hbel.al (.cells #[.int .i64 x,.int .i64 y] 70);have b8:=Blk.bK wr 70 #[.int .i64 x,.int .i64 y];have now8:=now7.below B8;have HNT:=OA hnT;have HKD:=OA hkd;have HXY:=OA hxy;have HMem:=OA hmem;have HNX:=OA hnx;rw[<-hat3]at hat;have hat2':til T at_=aS l (x,y):=by rw[iE hat];have:=hat2;simp only[<-hat3]at this;exact this
             have HA2:=OA hat2';have HA3:=OA hat3;clear hnT hkd hxy hmem hnx hat2 hat2' hat3 oF2;go_wp2_with fail
             refine(sU _ l x y _ (now8.rd aB (by decide)) hsl HKD.out).mono ?_;rintro e w9 ⟨A9,c9,rfl,oN,hb9⟩;have B9:=B8.tr hb9;have b9:=b8.bl hb9;have oT9:=(oT5.below B7).below B9;obtain⟨N,hN⟩:=Oy (aS l (x,y));rw[<-hN]at oN HNT HA2 HA3⊢;clear hN;go_wp2_with fail
             refine(rQ _ _ T N _ oT9 (oN.rd aB (by decide))).mono ?_;rintro e wA ⟨rfl,hbA⟩;rw[mF HNT.out,<-HA3.out];have BA:=B9.tr hbA;have bA:=b9.bl hbA;have oDA:=(oD.below B7).below BA;have cT:=jS oDA hat;have cI:=jS oDA hi;have hatI:(at_:Int)<(T.length:Int):=(by omega);have hiI:(i:Int)<(T.length:Int):=(by omega);obtain⟨va,hva⟩:=Oy (f at_);rw[<-hva]at cT;rw[HFi.out]at cI;have HVA:=OA hva;clear hva;have hvb: -1<=va:=by rw[HVA.out];exact HD.out.low _
             have BO:=B7.tr BA;have ownA:=own7.below BA;obtain⟨k_0,k_1⟩:=bA.n2;by_cases hve:va=(m':Int)
             . subst hve;have H8:Hid ((out.length+1)*16<=140737488355328):=OA (by omega);have HM:Hid (out.length+1<=maxLen):=OA (by unfold maxLen;omega)
               have HG : Hid (f at_ = (m' : Int) /\ (out ++ [(x, y)]) ++ rP T f m' at_ = W) := OA (by
                have hlt':t<(dQ (til T i)).length:=by rw[<-HL.out,<-HF2.out];exact hlt
                have hFt:(dQ (til T i))[t]=(x,y):=by
                 have:∀(G:List Cl),G=F->∀h:t<G.length,G[t]=(x,y):=fun G e h=>by subst e;exact HXY.out.symm
                 exact this _ (by rw[<-HL.out,<-HF2.out]) hlt'
                have hs := zY (f := f) hlt' (fun j hj h' => by
                 have hj2:j<F.length:=(by omega);have:=Hn.out j hj hj2
                 have e:(dQ (til T i))[j]=F[j]:=by
                  have:∀(G:List Cl),G=F->∀h:j<G.length,G[j]=F[j]:=fun G e h=>by subst e;rfl
                  exact this _ (by rw[<-HL.out,<-HF2.out]) h'
                 rw[e];exact this) (by rw[hFt,HNX.out,<-HVA.out,HFi.out];omega)
                rw[hFt]at hs;refine⟨HVA.out.symm,?_⟩;have h2:=Hg.out.2;rw[Gx hs,HNX.out]at h2;rw[<-h2];simp)
               go_wp2_with fail
               go_quiet (fail)
               go_wp2_with (at_builtin;go_must (refine aO (enc:=dE) iY dS oneCell (below_drewN BO _) (ownA.below (below_drewN (Below.refl _ _) _)) ((x,y):Cl) H8.out HM.out (by simp) rfl _ _ rfl rfl rfl ?_);intro vB wB ownB hbB hgB hdB;obtain⟨AB,cB,rfl,hcB,hmB⟩:=ownB.form)
               go_roundg m'
               case measure=>omega
               case rel=>
                have oNA:=(oN.below hbA).below (below_drewN (Below.refl _ _) nq);have oNB:=aC.kJ (oNA.alloc (.cells (dE (x,y)).toArray 70)) ((ownA.below (below_drewN (Below.refl _ _) nq)).alloc (.cells (dE (x,y)).toArray 70)) (by decide) hgB;have hsB:w5.heap.size<=(wr.alloc (.cells #[.int .i64 x,.int .i64 y] 70)).heap.size:=(B7.tr B8).size;have oNC:=oNB.mono hsB;rw[<-HA2.out]at oNC⊢;exact⟨at_,AB,cB,A9,c9,out++[(x,y)],hat,rfl,by simp,ownB,rfl,oNC,HG,by simp;omega,hbB⟩
             . go_wp2_with fail
               go_quiet (fail)
               go_wp2;go_roundw
               case rel => exact ⟨t + 1, by omega, rfl, rfl, rfl, by go_num, OA (fun j hj h' => by
                rcases(by omega:j<t∨j=t)with h1|h1
                . exact Hn.out j h1 h'
                . subst h1;rw[<-HXY.out,HNX.out,<-HVA.out,HFi.out];omega),below_drewN BA _⟩
               case measure=>simp[intOf];omega
           . obtain rfl : t = F.length := by omega
             exfalso;obtain⟨c,h1,h2,h3,_,_⟩:=HS.out;have h4:=List.mem_of_find?_eq_some h1;rw[<-HL.out,<-HF2.out]at h4;obtain⟨j,hj,e⟩:=List.getElem_of_mem h4;refine Hn.out j hj hj ?_;rw[e,h3,HFi.out];omega
   . rw[qK hmb];have HN:=OA (Ap (rows:=rows) (a:=a) (b:=b) (fun q=>hmb (by rw[HT.out];exact q.2.1)));go_wp2;refine bodyPost_ret (v:= .tuple #[.slice none 0 0,.bool false]) (by simp[results,Tryz.results78,go_sem]) rfl ⟨none,0,by rw[HN.out.1,HN.out.2];rfl,by rw[HN.out.2];exact aC.CV,B3⟩
 . rw[qK hma];have HN:=OA (Ap (rows:=rows) (a:=a) (b:=b) (fun q=>hma (by rw[HT.out];exact q.1)));go_wp2;refine bodyPost_ret (v:= .tuple #[.slice none 0 0,.bool false]) (by simp[results,Tryz.results78,go_sem]) rfl ⟨none,0,by rw[HN.out.1,HN.out.2];rfl,by rw[HN.out.2];exact aC.CV,B3⟩
end Go.Proofs.YtljfoohaapckeaaGreatDoor
