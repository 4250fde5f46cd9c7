/- The shortest way of flips, of the reference: the walk. No conditions. -/
import Derived.Test.YtljfoohaapckeaaGreatDoorDG28
import Derived.Test.YtljfoohaapckeaaGreatDoorDWayI
namespace Go.Proofs.YtljfoohaapckeaaGreatDoor
open Go.ChangeShapes Go.WideShapes Go.ChangeAt Go.RowKit
set_option linter.unusedVariables false
set_option linter.unusedSimpArgs false
set_option maxHeartbeats 4000000
set_option maxRecDepth 100000
theorem dF.kJ {α β:Type} {E0 E E2:TypeId} {size s2:Nat} {enc:α->List Value} {e2:β->List Value} {B B2:Nat} {w w':World} {v v2:Value} {ls:List (List α)} {l2:List β} (a:dF E0 E size enc B w v ls) (b:aC E2 s2 e2 B2 w v2 l2) (hne0:E0≠E2) (hne:E≠E2) (hg:w.grownBy w' v2.ownBlock):dF E0 E size enc B w' v ls:=by
 obtain⟨us,h1,h2,h3⟩:=a;exact⟨us,h1.kJ b hne0 hg,h2,fun k u x hu hx=>(h3 k u x hu hx).kJ b hne hg⟩
theorem Ky {T:List (List Dm)} {i:Nat} (h:i<T.length):∃h':i<(kY T T.length).length,(kY T T.length)[i]=pQ T i:=⟨by rw[mD];exact h,by simp[kY]⟩
theorem LM {T:List (List Dm)} {i t:Nat} (h:t<(dQ (til T i)).length):∃h':t<(pQ T i).length,(pQ T i)[t]=sF T i (dQ (til T i))[t]:=⟨by unfold pQ;rw[List.length_map];exact h,by simp[pQ]⟩
theorem LP (v va vb:Value) (rows:List Int) (a b:List Dm) (w:World) (h:Rd 1 bH w v rows) (ha:Rd 3 aU w va a) (hb:Rd 3 aU w vb b):Calls Tryz.prog 155 #[.agg #[v],va,vb] w (iG 70 2 dE (BD rows a b) (Eo rows a b) w):=by
 obtain⟨Aa,ca,rfl,_,_⟩:=ha.form;obtain⟨Ab,cb,rfl,_,_⟩:=hb.form;have bX:=(Blk.bK w 26 #[v]).alloc (.cells #[] 70);have B0:=((Below.refl w.heap.size w).al (.cells #[v] 26)).al (.cells #[] 70);have ow0:=iK (w.alloc (.cells #[v] 26)) (E:=70) (size:=2) (enc:=dE) (w.heap.size+1) (by simp) w.heap.size (by simp);have hFS:=Cy rows;obtain⟨T,hT⟩:=Oy (aF rows);have hTo:∀t∈T,t.length<=64:=fun t ht=>by rw[hT]at ht;exact jI ht
 have cL:∀(W:World),Rd 1 bH W v rows->Calls Tryz.prog 198 #[.agg #[v]] W (Bo T W):=fun W hW=>by rw[hT];exact rA v rows W hW
 have cI:∀(u:Value) (m:List Dm) (W:World),Rd 1 bH W v rows->Rd 3 aU W u m->Calls Tryz.prog 197 #[.agg #[v],u] W (Ret (.int .i64 (lY T m)) W):=fun u m W h1 h2=>by rw[hT];exact BL v u rows m W h1 h2
 rw[<-hT]at hFS;have HT:=OA hT;have HFS:=OA hFS;have HTo:=OA hTo;have HCL:=OA cL;have HCI:=OA cI;have hsm:=hFS.sm;clear hT hFS hTo cL cI;go_enter Tryz.func155,Tryz.ntmps155
 have z0:=bX.c1;go_wp2_with fail
 refine(HCI.out _ a _ (h.Oz B0) (ha.Oz B0)).mono ?_;rintro e w1 ⟨rfl,hb1⟩;have B1:=B0.tr hb1;have bX1:=bX.bl hb1;have ow1:=ow0.below hb1;clear z0;have z0:=bX1.c1;go_wp2_with fail
 refine(HCI.out _ b _ (h.Oz B1) (hb.Oz B1)).mono ?_;rintro e w2 ⟨rfl,hb2⟩;have B2:=B1.tr hb2;have bX2:=bX1.bl hb2;have ow2:=ow1.below hb2;clear z0 ow0 ow1 bX bX1 B0 B1;by_cases hma:a∈T
 . rw[mF hma];obtain⟨hia,hia2⟩:=lX hma;obtain⟨i,hi⟩:=Oy (ix T a);rw[<-hi]at hia⊢;by_cases hmb:b∈T
   . rw[mF hmb];obtain⟨hkb,hkb2⟩:=lX hmb;obtain⟨k,hk⟩:=Oy (ix T b);rw[<-hk]at hkb⊢;have Hma:=OA hma;have Hmb:=OA hmb;have Hi:=OA hi;have Hk:=OA hk;clear hma hmb hi hk hia2 hkb2;have z0:=bX2.c1;go_wp2_with fail
     refine(HCL.out _ (h.Oz B2)).mono ?_;rintro e w3 ⟨A,c,rfl,oT,hb3⟩;have B3:=B2.tr hb3;have ow3:=ow2.below hb3;go_wp2_with fail
     refine(IJ _ T _ oT HFS.out HTo.out).mono ?_;rintro e w4 ⟨A4,c4,rfl,oL,hb4⟩;have B4:=B3.tr hb4;have oT4:=oT.below hb4;have ow4:=ow3.below hb4;go_wp2_with fail
     refine(LA _ T (kY T T.length) k _ oL (Lt T) HFS.out hkb).mono ?_;rintro e w5 ⟨⟨A5,c5,rfl,oD,hb5⟩,hD⟩;have B5:=B4.tr hb5;have oT5:=oT4.below hb5;have oL5:=oL.below hb5;have ow5:=ow4.below hb5;obtain⟨f,hf⟩:=Oy (pY T k);rw[<-hf]at oD hD;rw[iW]at oD⊢;have hTp:0<T.length:=(by omega);obtain⟨gD,rfl,hgD,hgD2⟩:=oD.split (k:=0) (by rw[iW];exact hTp);have cI:=jS oD hia;have hii:(i:Int)<(T.length:Int):=(by omega);obtain⟨vi,hvi⟩:=Oy (f i);rw[<-hvi]at cI;have Hf:=OA hf;have HD:=OA hD;have HVI:=OA hvi;clear hf hD hvi bX2 z0 ow2 ow3 ow4 oT oT4 oL B2 B3 B4 hb3 hb4 hb5;by_cases hneg:vi<0
     . have HN := OA (Ap (rows := rows) (a := a) (b := b) (fun q => by
        have:=q.2.2;rw[<-HT.out,<-Hi.out,<-Hk.out,<-Hf.out,<-HVI.out]at this;omega))
       go_wp2;refine bodyPost_ret (v:= .tuple #[.slice (some ⟨w.heap.size+1,0,none⟩) 0 0,.bool false]) (by simp[results,Tryz.results155,go_sem]) rfl ⟨some ⟨w.heap.size+1,0,none⟩,0,by rw[HN.out.1,HN.out.2];rfl,by rw[HN.out.2];exact ow5,B5⟩
     . have hwy := JO (rows := rows) (a := a) (b := b) (by rw [<- HT.out]; exact Hma.out) (by rw [<- HT.out]; exact Hmb.out) (by rw [<- HT.out, <- Hi.out, <- Hk.out, <- Hf.out, <- HVI.out]; omega);rw[<-HT.out,<-Hi.out,<-Hk.out,<-Hf.out,<-HVI.out]at hwy;obtain⟨W,hW⟩:=Oy (BD rows a b);rw[<-hW]at hwy;have hvm:=HD.out.top i;rw[<-HVI.out]at hvm;obtain⟨m,rfl⟩:∃m:Nat,vi=m:=⟨vi.toNat,by omega⟩;have hm3:m<=300:=(by omega);have hwm:=hwy.2;rw[Int.toNat_natCast]at hwm;have HW:=OA hwy.1;have HWM:=OA hwm;have HWL:=OA hW;clear hwy hwm hW hneg hvm;go_wp2;clear cI;go_loopg [8,9] m (fun gk s8 s9 wr=>∃(i:Nat) (D:Option Addr) (d:Nat) (out:List Cl),i<T.length/\s9= .int .i64 i/\s8= .slice D out.length d/\aC 70 2 dE w.heap.size wr (.slice D out.length d) out/\dF 27 60 3 aT 0 wr (.slice A T.length c) T/\dF 24 3 1 aY 0 wr (.slice A4 T.length c4) (kY T T.length)/\aC 3 1 aY 0 wr (.slice (some ⟨gD,0,none⟩) T.length c5) (rU T.length f)/\Hid (f i=gk/\out++rP T f gk i=W)/\out.length+gk<=300/\Below w.heap.size w wr)
       case atStart=>exact⟨i,_,_,[],hia,rfl,rfl,ow5,oT5.mono (Nat.zero_le _),oL5.mono (Nat.zero_le _),oD.mono (Nat.zero_le _),OA ⟨HVI.out.symm,HWM.out.symm⟩,by simpa using hm3,B5⟩
       case round=>
        clear ow5 oT5 oL5 oD B5 hgD hgD2;obtain⟨i,D,d,out,hi,rfl,rfl,hown,oT,oL,oD,Hg,hol,hbel⟩:=hrel;by_cases hg0:gk=0
        . subst hg0;have hik:i=k:=HD.out.zero i (by have:=Hg.out.1;simpa using this);have hee:((i:Int) !=(k:Int))=false:=by rw[hik];exact bne_self_eq_false _
          have HO:Hid (out=W):=OA (by have:=Hg.out.2;rw[rP,List.append_nil]at this;exact this);clear hik;go_wp2;refine bodyPost_ret (v:= .tuple #[.slice D out.length d,.bool true]) (by simp[results,Tryz.results155,go_sem]) rfl ⟨D,d,by rw[HW.out,<-HWL.out,HO.out],by rw[<-HWL.out];have:=hown;rw[HO.out]at this;exact this,hbel⟩
        . obtain ⟨m', rfl⟩ : ∃ m', gk = m' + 1 := ⟨gk - 1, by omega⟩;have hstep:=En HFS.out HD.out (i:=i) (m:=m') (by have:=Hg.out.1;omega)
          have hne:((i:Int) !=(k:Int))=true:=by
           rw[bne_iff_ne];intro e;have e2:i=k:=(by omega);have:=Hg.out.1;rw[e2,HD.out.st]at this;omega
          have HS:=OA hstep;have hFi:f i=((m'+1:Nat):Int):=Hg.out.1;have HFi:=OA hFi;clear hstep hg0 hFi;have hiI:(i:Int)<(T.length:Int):=(by omega);obtain⟨gT,D1,d1,hAe,_,hgT,cT,tk⟩:=oT.pick hi;subst hAe;obtain⟨l,hl⟩:=Oy (til T i);rw[<-iE hi,<-hl]at cT tk;have HL:=OA hl;clear hl;go_wp2_with fail
          refine(vU _ l _ (tk.rd aB (by decide))).mono ?_;rintro e w7 ⟨A8,c8,rfl,oF,hb7⟩;have hfl:=uO l;obtain⟨F,hF⟩:=Oy (dQ l);rw[<-hF]at oF hfl⊢;have HF2:=OA hF;have own7:=hown.below hb7;have oT7:=oT.below hb7;have oL7:=oL.below hb7;have oD7:=oD.below hb7;have B7:=hbel.tr hb7;obtain⟨hil,hil2⟩:=Ky hi;obtain⟨gL,DL,dL,hAL,_,hgL,cL,oN⟩:=oL7.KJ hil;subst hAL;rw[hil2]at cL oN;have hNl:(pQ T i).length=F.length:=by unfold pQ;rw[List.length_map,<-HL.out,<-HF2.out]
          rw[hNl]at cL oN;have HNl:=OA hNl;have HIL:=OA hil;have HIL2:=OA hil2;clear hF hown oT oL oD hbel hb7 tk cT hil2 hNl;go_wp2;go_loopw [8,9,15] (fun s8 s9 s15 wr=>∃(t:Nat),t<=F.length/\s9= .int .i64 i/\s8= .slice D out.length d/\s15= .int .i64 t/\Hid (∀j (hj:j<t) (h':j<F.length),¬f (rO T i F[j])=f i-1)/\Below w7.heap.size w7 wr) (fun _ _ x _=>F.length-(intOf x).toNat)
          case atStart=>exact⟨0,Nat.zero_le _,rfl,rfl,rfl,OA (fun j hj=>by omega),Below.refl _ _⟩
          case round=>
           obtain⟨t,ht,rfl,rfl,rfl,Hn,hbel⟩:=hrel;by_cases hlt:t<F.length
           . have oF2:=oF.below hbel;obtain⟨bk,off,rfl,hbk,q0,q1⟩:=(oF2.rd dS (by decide)).eZ hlt;obtain⟨xy,hxy⟩:=Oy (F[t]);have hmem:xy∈dQ l:=by rw[hxy,<-HF2.out];exact List.getElem_mem hlt
             have hlt':t<(dQ (til T i)).length:=by rw[<-HL.out,<-HF2.out];exact hlt
             have hFt:(dQ (til T i))[t]=xy:=by
              have:∀(G:List Cl),G=F->∀h:t<G.length,G[t]=xy:=fun G e h=>by subst e;exact hxy.symm
              exact this _ (by rw[<-HL.out,<-HF2.out]) hlt'
             rw[<-hxy]at q0 q1;obtain⟨x,y⟩:=xy;simp only at q0 q1;have hkd:¬kindOf l (x,y)=0:=kL.1 hmem
             have hnT:aS l (x,y)∈T:=by
              have:=(HFS.out.cl _ (List.getElem_mem hi) (x,y) (by rw[<-iE hi,<-HL.out];exact hkd)).1;rw[<-iE hi,<-HL.out]at this;exact this
             obtain⟨hat,hat2⟩:=lX hnT;obtain⟨at_,hat3⟩:=Oy (ix T (aS l (x,y)));have hnx:rO T i (x,y)=at_:=by unfold rO;rw[<-HL.out,hat3]
             rw[<-hat3]at hat;obtain⟨hlk,hlk2⟩:=LM hlt';have hlv:(pQ T i)[t]=(at_:Int):=by rw[hlk2,hFt];unfold sF;rw[<-HL.out,<-hat3]
             have oN2:=oN.below hbel;obtain⟨bL,offL,hDe,hbL,cN⟩:=(oN2.rd aL (by decide)).uE hlk;rw[hlv]at cN;have cL2:=(hbel.cell (p:=⟨gL,i,none⟩) hgL).trans cL;rw[hDe]at cL2;have oD2:=oD7.below hbel;have cT:=jS oD2 hat;have cI:=jS oD2 hi;have hti:(t:Int)<(F.length:Int):=(by omega);have hatI:(at_:Int)<(T.length:Int):=(by omega);obtain⟨va,hva⟩:=Oy (f at_);rw[<-hva]at cT;rw[HFi.out]at cI;have HVA:=OA hva;have HXY:=OA hxy;have HNX:=OA hnx;have HFT:=OA hFt;have HLT:=OA hlt';have HLK:=OA hlk;have HLV:=OA hlv;have hvb: -1<=va:=by rw[hva];exact HD.out.low _
             have BO:=B7.tr hbel;have ownA:=own7.below hbel;clear hva hxy hnx hFt hmem hkd hnT hat2 hat3 hlk2 hlv oN2 oF2;by_cases hve:va=(m':Int)
             . subst hve;have H8:Hid ((out.length+1)*16<=140737488355328):=OA (by omega);have HM:Hid (out.length+1<=maxLen):=OA (by unfold maxLen;omega)
               have HG : Hid (f at_ = (m' : Int) /\ (out ++ [(x, y)]) ++ rP T f m' at_ = W) := OA (by
                have hs := zY (f := f) HLT.out (fun j hj h' => by
                 have hj2:j<F.length:=(by omega);have:=Hn.out j hj hj2
                 have e:(dQ (til T i))[j]=F[j]:=by
                  have:∀(G:List Cl),G=F->∀h:j<G.length,G[j]=F[j]:=fun G e h=>by subst e;rfl
                  exact this _ (by rw[<-HL.out,<-HF2.out]) h'
                 rw[e];exact this) (by rw[HFT.out,HNX.out,<-HVA.out,HFi.out];omega)
                rw[HFT.out]at hs;refine⟨HVA.out.symm,?_⟩;have h2:=Hg.out.2;rw[Gx hs,HNX.out]at h2;rw[<-h2];simp)
               go_wp2_with fail
               go_quiet (fail)
               have hkeep : ∀ wB, ((wr.drewN nq).alloc (.cells (dE (x, y)).toArray 70)).grownBy wB (Value.slice D out.length d).ownBlock -> ∃ (dL2 bL2 offL2 : Nat), wB.cell? ⟨gL, i, none⟩ = some (.slice (some ⟨bL2, offL2, none⟩) F.length dL2) /\ wB.cell? ⟨bL2, offL2 + t, none⟩ = some (.int .i64 at_) := fun wB hgB => by
                have oXB:=((ownA.below (below_drewN (Below.refl _ _) nq)).alloc (.cells (dE (x,y)).toArray 70));have oLB:=dF.kJ ((oL7.below (below_drewN hbel nq)).alloc (.cells (dE (x,y)).toArray 70)) oXB (by decide) (by decide) hgB;obtain⟨gL2,DL2,dL2,hA2,_,_,cLB,oNB⟩:=oLB.KJ HIL.out;have hg2:gL=gL2:=by injection hA2 with hA2;injection hA2
                subst hg2;rw[HIL2.out,HNl.out]at cLB oNB;obtain⟨bL2,offL2,hDe2,hbL2,cNB⟩:=(oNB.rd aL (by decide)).uE HLK.out;rw[HLV.out]at cNB;rw[hDe2]at cLB;exact⟨dL2,bL2,offL2,cLB,cNB⟩
               have HKeep:=OA hkeep;clear hkeep;go_wp2_with (at_builtin;go_must (refine aO (enc:=dE) iY dS oneCell (below_drewN BO _) (ownA.below (below_drewN (Below.refl _ _) _)) ((x,y):Cl) H8.out HM.out (by simp) rfl _ _ rfl rfl rfl ?_);intro vB wB ownB hbB hgB hdB;obtain⟨AB,cB,rfl,hcB,hmB⟩:=ownB.form;obtain⟨dL2,bL2,offL2,cLB,cNB⟩:=HKeep.out _ hgB)
               have oXB:=((ownA.below (below_drewN (Below.refl _ _) nq)).alloc (.cells (dE (x,y)).toArray 70));have oLB:=dF.kJ ((oL7.below (below_drewN hbel nq)).alloc (.cells (dE (x,y)).toArray 70)) oXB (by decide) (by decide) hgB;have oTB:=dF.kJ ((oT7.below (below_drewN hbel nq)).alloc (.cells (dE (x,y)).toArray 70)) oXB (by decide) (by decide) hgB;have oDB:=aC.kJ ((oD7.below (below_drewN hbel nq)).alloc (.cells (dE (x,y)).toArray 70)) oXB (by decide) hgB;go_roundg m'
               case measure=>omega
               case rel=>exact⟨at_,AB,cB,out++[(x,y)],hat,rfl,by simp,ownB,oTB,oLB,oDB,HG,by simp;omega,hbB⟩
             . go_wp2_with fail
               go_quiet (fail)
               go_wp2;go_roundw
               case rel => exact ⟨t + 1, by omega, rfl, rfl, by go_num, OA (fun j hj h' => by
                rcases(by omega:j<t∨j=t)with h1|h1
                . exact Hn.out j h1 h'
                . subst h1;rw[<-HXY.out,HNX.out,<-HVA.out,HFi.out];omega),below_drewN hbel _⟩
               case measure=>simp[intOf];omega
           . obtain rfl : t = F.length := by omega
             exfalso;obtain⟨c,h1,h2,h3,_,_⟩:=HS.out;have h4:=List.mem_of_find?_eq_some h1;rw[<-HL.out,<-HF2.out]at h4;obtain⟨j,hj,e⟩:=List.getElem_of_mem h4;refine Hn.out j hj hj ?_;rw[e,h3,HFi.out];omega
   . rw[qK hmb];have HN:=OA (Ap (rows:=rows) (a:=a) (b:=b) (fun q=>hmb (by rw[HT.out];exact q.2.1)));go_wp2;refine bodyPost_ret (v:= .tuple #[.slice (some ⟨w.heap.size+1,0,none⟩) 0 0,.bool false]) (by simp[results,Tryz.results155,go_sem]) rfl ⟨some ⟨w.heap.size+1,0,none⟩,0,by rw[HN.out.1,HN.out.2];rfl,by rw[HN.out.2];exact ow2,B2⟩
 . rw[qK hma];have HN:=OA (Ap (rows:=rows) (a:=a) (b:=b) (fun q=>hma (by rw[HT.out];exact q.1)));go_wp2;refine bodyPost_ret (v:= .tuple #[.slice (some ⟨w.heap.size+1,0,none⟩) 0 0,.bool false]) (by simp[results,Tryz.results155,go_sem]) rfl ⟨some ⟨w.heap.size+1,0,none⟩,0,by rw[HN.out.1,HN.out.2];rfl,by rw[HN.out.2];exact ow2,B2⟩
end Go.Proofs.YtljfoohaapckeaaGreatDoor
