import Derived.Test.YtjijonhkofhikaaGreatDoorFG22
open _root_.List renaming length_append->Tm,append_nil->Tn,getElem?_toArray->Tp,getElem?_cons_zero->Tq,getElem?_cons_succ->Tt
open _root_.Nat renaming zero_add->Tu,le_refl->Tv,zero_mul->Tw
open _root_.Go.Value renaming oneCell'->Tx
open _root_.Go.Proofs.Tryz (prog func225 ntmps225 func181 ntmps181)
set_option linter.unusedVariables false
set_option linter.unusedSimpArgs false
set_option maxHeartbeats 4000000
set_option maxRecDepth 100000
namespace Go.Proofs.YtjijonhkofhikaaGreatDoor
open Go.ChangeShapes Go.WideShapes Go.ChangeAt Go.RowKit
def Je (rows:List Int) (j:Nat):Prop:=∀(head:List Dm) (most:Int) (v u:Value) (w:World),Rd 1 aZ w v rows->Rd 3 aQ w u head->(∀k,k<j->(oQ rows head).testBit k=false)->head.length<=j->((jZ (oQ rows head)).length:Int)<=most->1<=most->most<=300->
  Calls prog 225 #[.agg #[v],u,.int .i64 most] w (Em (dZ (oQ rows head) head) w)
theorem Kw {s:Nat} {d:Dm} (h:aI d=false):eY s d=false:=by unfold eY;rw[h];rfl
def Ky (s:Nat) (head:List Dm) (d:Dm):List (List Dm):=if eY s d then dZ (dE s (aG d)) (head++[d])else[]
theorem yF {s:Nat} {head:List Dm} {d:Dm} (h:eY s d=false):Ky s head d=[]:=by unfold Ky;rw[h];rfl
theorem Kz {s:Nat} {head:List Dm} {d:Dm} (h:eY s d=true):Ky s head d=dZ (dE s (aG d)) (head++[d]):=by unfold Ky;rw[if_pos h]
theorem N8 {s i:Nat} (hs:s<U64) (hl:sK s i) (head:List Dm):dZ s head=Ky s head (eT i)++Ky s head (fT i):=Gv hs hl head
theorem qQ {α:Type} {E:TypeId} {size:Nat} {enc:α->List Value} {B:Nat} {w:World} {us:List Value} {ls:List (List α)} (h2:us.length=ls.length) (h3:∀(k:Nat) (u:Value) (x:List α),us[k]? =some u->ls[k]? =some x->aD E size enc B w u x):∀u∈us,u.oneCell'=true:=by
 intro u hu;obtain⟨k,hk,rfl⟩:=List.getElem_of_mem hu;obtain⟨A,c,e,_⟩:=(h3 k us[k] ls[k] (List.getElem?_eq_getElem hk) (List.getElem?_eq_getElem (by omega))).form;rw[e];rfl
theorem EA {rows:List Int} {j:Nat} (hr:dX rows) (hj:j<=64) (IH:∀j',j<j'->j'<=64->Je rows j'):Je rows j:=by
 intro head most v u w h hu cV hh hT oD oG;have hs:=Gw hr head;have j4:=Rs hr head;obtain⟨s,j5⟩:=Ti (oQ rows head);rw[<-j5]at cV hT hs j4⊢;obtain⟨cs,hcs⟩:=Ti (eX s 64);rw[<-hcs]at j4;have CU:∀(a b:Value) (w:World),Rd 1 aZ w a rows->Rd 3 aQ w b head->Calls prog 236 #[.agg #[a],b] w (fM 83 2 dM cs w):=fun a b w k1 k2=>by rw[<-j4];exact N7 a b rows head w k1 k2
 have oH:cs.length<=64:=by rw[hcs];exact vC _ _
 have mL:head.length<=64:=(by omega);clear j4;obtain⟨A,c,rfl,hc,hm⟩:=h.form;obtain⟨Ah,ch,rfl,hch,oI⟩:=hu.form;have B0:=((Below.refl w.heap.size w).al (.cells #[.slice A rows.length c] 26)).al (.cells #[] 27);have bX:=(Blk.aX w 26 #[.slice A rows.length c]).alloc (.cells #[] 27)
 have oO:aD 27 1 eV w.heap.size ((w.alloc (.cells #[.slice A rows.length c] 26)).alloc (.cells #[] 27)) (.slice (some ⟨w.heap.size+1,0,none⟩) ([]:List Value).length 0) []:=by
  have:=(fF (w.alloc (.cells #[.slice A rows.length c] 26)) (E:=27) (size:=1) (enc:=eV)).mono (show w.heap.size<=_ from((Below.refl w.heap.size w).al (.cells #[.slice A rows.length c] 26)).size);simpa using this
 by_cases h0:s=0
 . have hc0 : cs.length = 0 := by rw [hcs]; exact (wD hs).2 h0
   have mN:((cs.length:Int)==0)=true:=by rw[hc0];rfl
   have ht:dZ s head=[head]:=(by rw[h0,Gu]);rw[ht];have H8:Hid ((([]:List Dm).length+head.length)*24<=140737488355328):=Tk (by simp;omega);have HM:Hid ((([]:List Dm).length+head.length)<=maxLen):=Tk (by unfold maxLen;simp;omega);clear hT cV IH ht hc0 h0 j5 hcs;go_enter func225,ntmps225
   go_wp2_with fail
   refine(CU _ _ _ (h.Tj B0) (hu.Tj B0)).mono ?_;rintro e w1 ⟨AC,cC,rfl,oC,hb1⟩;have B1:=B0.tr hb1;have kB:=oO.below hb1;have rh:=(hu.Tj B1).Tj ((Below.refl w1.heap.size w1).al (.cells #[] 99));have B2:=B1.al (.cells #[] 99);have kO:w.heap.size<=w1.heap.size:=B1.size;have mS:w.heap.size+1<w1.heap.size:=(World.ownsRow.lt kB _ rfl).2;have nB:=kB.alloc (.cells #[] 99);clear B0 bX oO B1 kB hb1 oC
   go_wp2_with (at_builtin; go_must (first
     |(refine dN (enc:=aV) aJ aC aL (B:=w1.heap.size) (by simp) (fF w1) rh H8.out HM.out rfl _ _ rfl rfl rfl ?_;intro v4 w4 gA hb4 hv4;obtain⟨A4,c4,rfl⟩:=hv4;simp only[List.nil_append,List.length_nil,Tu]at gA⊢;have gB:Below w.heap.size w w4:=⟨hb4.os.trans B2.os,hb4.tape.trans B2.tape,hb4.output.trans B2.output,Nat.le_trans B2.size hb4.size,fun k hk=>(hb4.block k (by omega)).trans (B2.block k hk)⟩;have k0:aD 27 1 eV w.heap.size w4 (.slice (some ⟨w.heap.size+1,0,none⟩) ([]:List Value).length 0) []:=World.ownsRow.kept nB (row:=some w1.heap.size) ⟨hb4.os,hb4.tape,hb4.output,hb4.size,fun k hk hne=>hb4.block k (by simp at hk hne;omega)⟩ (.inr (by simp[Value.ownBlock];omega)))
     |(refine pR (enc:=eV) qB Cb w4 gB.size k0 (.slice A4 head.length c4) (by simp[eV,Tx]) rfl (by decide) (by decide) rfl _ _ rfl rfl rfl ?_;intro A5 c5 w5 o5 g5 d5)))
   go_ret;exact⟨A5,c5,rfl,dY.snoc (by decide) k0 (ls:=[]) rfl (fun k u x hx=>by simp at hx) (gA.mono kO) o5 g5,Below.app gB k0 (Tv _) g5⟩
 . obtain⟨i,hl⟩:=xB hs h0;have oL:=QA hl cV;have hi:=hl.1;obtain⟨rest,cE⟩:=zC hl;obtain⟨x,hx⟩:=Ti (i%8);obtain⟨y,hy⟩:=Ti (i/8);have l5:iT i=((x:Int),(y:Int)):=by unfold iT;rw[hx,hy,show((i:Int)%8)=((i%8:Nat):Int) by omega,show((i:Int)/8)=((i/8:Nat):Int) by omega]
   rw[l5,<-hcs]at cE;have gD:0<cs.length:=by rw[cE];simp
   have hce:cs[0]=((x:Int),(y:Int)):=by subst cE;rfl
   have n5:(0:Int)<cs.length:=(by omega);have mN:((cs.length:Int)==0)=false:=by rw[beq_eq_false_iff_ne];omega
   have hrt:eT i=((x:Int),(y:Int),false):=by unfold eT;rw[<-hx,<-hy]
   have k5:fT i=((x:Int),(y:Int),true):=by unfold fT;rw[<-hx,<-hy]
   have cM:=N8 hs hl head;rw[hrt,k5]at cM
   have k6:(Ky s head ((x:Int),(y:Int),false)).length+(Ky s head ((x:Int),(y:Int),true)).length=(jZ s).length:=by
    have:=congrArg List.length cM;rw[uH,Tm]at this;omega
   have l6:aI ((x:Int),(y:Int),false)=true->fC ((x:Int),(y:Int),false)=i:=fun q=>by rw[<-hrt]at q⊢;exact MG q hi
   have l7:aI ((x:Int),(y:Int),true)=true->fC ((x:Int),(y:Int),true)=i:=fun q=>by rw[<-k5]at q⊢;exact MH q hi
   have fW:=Tk j5;have j6:=Tk hr;have Hl:=Tk hl;have n9:=Tk l6;have oA:=Tk l7;have l8:=Tk IH;have j7:=Tk hce;obtain⟨R1,k7⟩:=Ti (Ky s head ((x:Int),(y:Int),false));obtain⟨R2,k8⟩:=Ti (Ky s head ((x:Int),(y:Int),true));rw[<-k7,<-k8]at cM k6;rw[cM];have j8:=Tk k7;have j9:=Tk k8;have l9:=Tk k6;have HT:=Tk hT;clear h0 cV hl hx hy l5 hrt k5 cM k6 l6 l7 IH k7 k8 j5 hcs cE hce hT hr;go_enter func225,ntmps225
   go_wp2_with fail
   refine(CU _ _ _ (h.Tj B0) (hu.Tj B0)).mono ?_;rintro e w1 ⟨AC,cC,rfl,oC,hb1⟩;obtain⟨gC,rfl,k9,eJ⟩:=oC.split gD;have B1:=B0.tr hb1;have mA:dY 27 99 3 aV w.heap.size w1 (.slice (some ⟨w.heap.size+1,0,none⟩) ([]:List (List Dm)).length 0) []:=⟨[],oO.below hb1,rfl,fun k u x h=>by simp at h⟩;have mB:=bX.bl hb1;have mC:=oC.mono B0.size;clear B0 bX oO oC hb1 k9 eJ;go_wp2_with fail
   go_loopw [7,9] (fun s7 s9 wr=>∃(J:Int) (bC:List (List Dm)) (A7:Option Addr) (c7:Nat),s9= .int .i64 J/\s7= .slice A7 bC.length c7/\dY 27 99 3 aV w.heap.size wr (.slice A7 bC.length c7) bC/\aD 83 2 dM w.heap.size wr (.slice (some ⟨gC,0,none⟩) cs.length cC) cs/\Below w.heap.size w wr/\Blk wr w.heap.size 26 #[.slice A rows.length c]/\Hid ((J=0/\bC=[])∨(J=1/\bC=R1)∨(J=2/\bC=R1++R2))) (fun _ i _=>2-(intOf i).toNat)
   case atStart=>exact⟨0,[],_,_,rfl,rfl,mA,mC,B1,mB,Tk (.inl ⟨rfl,rfl⟩)⟩
   case round=>
    obtain⟨J,bC,A7,c7,rfl,rfl,cW,cL,B2,fX,HJ⟩:=hrel;clear mA mC B1 mB;rcases HJ.out with⟨rfl,ho⟩|⟨rfl,ho⟩|⟨rfl,ho⟩
    . have Ho : Hid (bC ++ R1 = R1) := Tk (by rw [ho]; rfl);have fY:Hid ((bC.length:Int)+R1.length<=most):=Tk (by rw[ho];have:=l9.out;have:=HT.out;simp;omega);have kA:(bC.length:Int)<most:=by rw[ho];simp;omega
      have gF:decide ((bC.length:Int)<most)=true:=decide_eq_true kA;clear HJ ho;obtain⟨W,hW⟩:=Ti wr;rw[<-hW]at cW cL B2 fX⊢;clear hW;have q1:=cL.slot eB (by decide) gD 0 (.int .i64 x) (by rw[j7.out];rfl);have q2:=cL.slot eB (by decide) gD 1 (.int .i64 y) (by rw[j7.out];rfl);rw[Tw,Nat.add_zero]at q1;rw[Tw,Tu]at q2;have eJ:=cL.at_.2.2;have Bw:Below W.heap.size W W.drew:=(Below.refl _ _).drew;have hz:W.heap.size<=W.drew.heap.size:=(by simp);obtain⟨sx,sy,cN⟩:∃sx sy,sec ((x:Int),(y:Int),false)=(sx,sy):=⟨_,_,rfl⟩;have cA:=Tk cN;clear cN;go_wp2_with fail
      refine rB (fun w'=>w'.cell? ⟨gC,0,none⟩=some (.int .i64 x)/\w'.cell? ⟨gC,1,none⟩=some (.int .i64 y)) fun hHeld=>(tW 0)<|(tW 1)<|(tW 2)<|(tW 3)<|(tW 4)<|(tW 5)<|(tW 6)<|(tW 7)<|(tW 8)<|(tW 9)<|(tW 10)<|(tR [11])<|tL fun K hK=>?_
      (refine kP rfl 99 _ rfl Tryz.zeroValue99 ?_;intro gN wX bN a6 lA lB lO;have oB:W.heap.size<=gN:=(by omega);obtain⟨bD,bE,a8⟩:=bkn a6 W.heap.size hz;replace hz:=a8;replace Bw:=Bw.tr a6)
      refine tK hK fun hHeld=>?_
      clear hK K;refine(tR [12])<|tL fun K hK=>?_
      (refine aK rfl 99 _ _ rfl gN #[.int .i64 x,.int .i64 y,.bool false] rfl rfl _ _ bN (by kernel_rfl) rfl (by simp[Tx]) ?_;intro wX cF gK;replace Bw:=Bw.grown gK hz (fun k hk=>by injection hk with hk;subst hk;omega);obtain⟨bD,bE,a8⟩:=bk Bw)
      refine tK hK fun hHeld=>?_
      clear hK K;refine tD ?_;clear bD bE;obtain⟨V,hV⟩:=Ti wX;rw[<-hV]at Bw cF⊢;clear hV hz;have gL:=cW.below Bw;have gM:=cL.below Bw;have B3:=B2.tr Bw;have eK:=fX.bl Bw;clear cW cL B2 fX q1 q2 Bw gK hHeld;obtain⟨cG,cH,cI⟩:=cF.n3;go_wp2_with fail
      refine(yK x y false sx sy cA _).mono ?_;rintro e w2 ⟨rfl,hb2⟩;have cX:=(gL.below hb2).alloc (.cells #[.int .i64 sx,.int .i64 sy] 83);have cY:=(gM.below hb2).alloc (.cells #[.int .i64 sx,.int .i64 sy] 83);have B4:=(B3.tr hb2).al (.cells #[.int .i64 sx,.int .i64 sy] 83);have dL:=(eK.bl hb2).alloc (.cells #[.int .i64 sx,.int .i64 sy] 83);have dT:=(cF.bl hb2).alloc (.cells #[.int .i64 sx,.int .i64 sy] 83);have eA:=Blk.aX w2 83 #[.int .i64 sx,.int .i64 sy];have gO:=(cF.bl hb2).lt;have gP:=(eK.bl hb2).lt;clear gL gM B3 eK cG cH cI;obtain⟨cG,cH,cI⟩:=(cF.bl hb2).n3;go_upto_region 10 with(fail)
      obtain⟨W4,gQ⟩:=Ti (w2.alloc (.cells #[.int .i64 sx,.int .i64 sy] 83));obtain⟨gY,bJ⟩:=Ti w2.heap.size;rw[<-gQ]at cX cY B4 dL dT eA⊢;rw[<-bJ]at eA⊢;clear gQ bJ cF hb2 cG cH cI gO gP;obtain⟨cG,cH,cI⟩:=dT.n3;rcases bU:aI ((x:Int),(y:Int),false)with _|_
      . have hR : R1 = [] := by rw [j8.out]; exact yF (Kw bU)
        have CD:∀w,Calls prog 172 #[.agg #[.int .i64 x,.int .i64 y,.bool false]] w (Ret (.bool false) w):=fun w=>by have:=dD x y false w;rw[bU]at this;exact this
        clear bU;go_wp2_with fail
        refine(CD _).mono ?_;rintro e w3 ⟨rfl,hb3⟩;subst hR;go_wp2;go_roundw
        case rel=>exact⟨_,bC,_,_,by go_num,rfl,cX.below hb3,cY.below hb3,B4.tr hb3,dL.bl hb3,Tk (by first|exact .inr (.inl ⟨rfl,by have:=Ho.out;rwa [Tn]at this⟩)|exact .inr (.inr ⟨rfl,by have:=Ho.out;rwa [Tn]at this⟩))⟩
        case measure=>simp[intOf]
      . have CD : ∀ w, Calls prog 172 #[.agg #[.int .i64 x, .int .i64 y, .bool false]] w (Ret (.bool true) w) := fun w => by have := dD x y false w; rw [bU] at this; exact this
        have hI:=n9.out bU;have cB:=(dR bU).2;rw[cA.out]at cB;have gR:(oQ rows head).testBit (fC ((x:Int),(y:Int),false))=true:=by rw[<-fW.out,hI];exact Hl.out.2.1
        have bY:=Ca j6.out head bU gR;rw[<-fW.out,cA.out]at bY;obtain⟨q,hq⟩:=Ti (kJ rows (sx,sy));obtain⟨D,hD⟩:=Ti (nW head (sx,sy));have CH:∀(w':World),Below w.heap.size w w'->Calls prog 175 #[.agg #[.slice A rows.length c],.agg #[.int .i64 sx,.int .i64 sy]] w' (Ret (.bool q) w'):=fun w' hb=>by rw[hq];exact qH _ rows sx sy w' (h.Tj hb) cB
        have CA:∀(w':World),Below w.heap.size w w'->Calls prog 120 #[.slice Ah head.length ch,.agg #[.int .i64 sx,.int .i64 sy]] w' (Ret (.int .i64 D) w'):=fun w' hb=>by rw[hD];exact jG _ head sx sy w' (hu.Tj hb)
        rw[<-hq,<-hD]at bY;have gS:=Tk bU;have cD:=Tk bY;have lR:=Tk hI;clear bU hI cB gR bY hq hD;go_wp2_with fail
        refine(CD _).mono ?_;rintro e w3 ⟨rfl,hb3⟩;have gT:=cX.below hb3;have gW:=cY.below hb3;have B5:=B4.tr hb3;have eL:=dL.bl hb3;have gX:=dT.bl hb3;have eM:=eA.bl hb3;clear cX cY B4 dL dT eA hb3 cG cH cI;have hE:=eL.c1;obtain⟨eN,eP⟩:=eM.n2;go_wp2_with fail
        refine(CH _ B5).mono ?_;rintro e w4 ⟨rfl,hb4⟩;have eR:=gT.below hb4;have eW:=gW.below hb4;have B6:=B5.tr hb4;have e5:=eL.bl hb4;have hP:=gX.bl hb4;have hZ:=eM.bl hb4;clear gT gW B5 eL gX eM hb4 hE eN eP;cases q
        . have hR : R1 = [] := by rw [j8.out]; exact yF (by rw [cD.out]; rfl)
          subst hR;go_wp2;go_roundw
          case rel=>exact⟨_,bC,_,_,by go_num,rfl,eR,eW,B6,e5,Tk (by first|exact .inr (.inl ⟨rfl,by have:=Ho.out;rwa [Tn]at this⟩)|exact .inr (.inr ⟨rfl,by have:=Ho.out;rwa [Tn]at this⟩))⟩
          case measure=>simp[intOf]
        . skip;obtain⟨eN,eP⟩:=hZ.n2;go_wp2_with fail
          refine(CA _ B6).mono ?_;rintro e w5 ⟨rfl,cJ⟩;have e6:=eR.below cJ;have cP:=eW.below cJ;have B7:=B6.tr cJ;have bS:=e5.bl cJ;have b6:=hP.bl cJ;clear eR eW B6 e5 hP hZ cJ eN eP;by_cases cQ:D<0
          . have l4 : decide ((0 : Int) <= D) = false := decide_eq_false (by omega);have e7:¬(0:Int)<=D:=(by omega);have cM:eY s ((x:Int),(y:Int),false)=true:=by rw[cD.out,decide_eq_true cQ];rfl
            have hR:R1=dZ (dE s (aG ((x:Int),(y:Int),false))) (head++[((x:Int),(y:Int),false)]):=(by rw[j8.out,Kz cM]);have eC:=BZ j6.out head gS.out;rw[<-fW.out]at eC;rw[<-eC]at hR;have bK:=Ap (j:=j) hs Hl.out gS.out lR.out;rw[<-eC]at bK;have h9:=congrArg List.length hR;rw[uH]at h9;have hwr:IntKind.i64.wrap (most-(bC.length:Int))=most-(bC.length:Int):=IntWalk.i64_in _ (by omega);have e8:=fun(v u:Value) (w:World) (k1:Rd 1 aZ w v rows) (k2:Rd 3 aQ w u (head++[((x:Int),(y:Int),false)]))=>l8.out (i+1) (by omega) (by omega) (head++[((x:Int),(y:Int),false)]) (most-(bC.length:Int)) v u w k1 k2 bK (by rw[Tm,List.length_singleton];omega) (by have:=fY.out;omega) (by omega) (by omega)
            rw[<-hR]at e8;have e9:=Tk e8;have H8:Hid (head.length*24<=140737488355328):=Tk (by omega);have HM:Hid (head.length<=maxLen):=Tk (by unfold maxLen;omega);have fD:Hid ((head.length+1)*24<=140737488355328):=Tk (by omega);have fL:Hid (head.length+1<=maxLen):=Tk (by unfold maxLen;omega);have bF:Hid (bC.length+R1.length<=300):=Tk (by have:=fY.out;omega);clear cM hR eC bK h9 e8;go_upto_region 11 with(fail)
            obtain⟨W5,j0⟩:=Ti w5;rw[<-j0]at e6 cP B7 bS b6⊢;clear j0;have hE:=bS.c1;obtain⟨cG,cH,cI⟩:=b6.n3;have gO:=b6.lt;have gP:=bS.lt;obtain⟨us,u1,u2,u3⟩:=e6;have Bw:Below W5.heap.size W5 W5.drew:=(Below.refl _ _).drew;have hz:W5.heap.size<=W5.drew.heap.size:=(by simp);refine rB (fun w'=>w'.cell? ⟨w.heap.size,0,none⟩=some (.slice A rows.length c)/\w'.cell? ⟨gN,0,none⟩=some (.int .i64 x)/\w'.cell? ⟨gN,1,none⟩=some (.int .i64 y)/\w'.cell? ⟨gN,2,none⟩=some (.bool false)) fun hHeld=>(tW 0)<|(tW 1)<|(tW 3)<|(tW 5)<|(tW 8)<|(tW 9)<|(tW 10)<|(tW 11)<|(tR [2,6])<|tC (fun K hK=>?_) ?_
            (refine iK aJ rfl rfl ?_;intro g5 wX b5 a6 fN fO eE;have eI:W5.heap.size<=g5:=(by omega);(try replace b9:=b9.bl a6);obtain⟨bD,bE,a8⟩:=bkn a6 W5.heap.size hz;have hz:=a8;have Bw:=Bw.tr a6)
            refine tK hK fun hHeld=>?_
            clear hK K;refine(tR [4,6])<|tC (fun K hK=>?_) ?_;(refine jD aJ aC aL b5 eI (hu.Tj (B7.tr Bw)) H8.out HM.out rfl _ _ rfl rfl rfl ?_;intro A6 c6 wX bA a6 b7 eE;(try replace b9:=b9.bl a6);obtain⟨bD,bE,a8⟩:=bkn a6 W5.heap.size hz;have hz:=a8;have Bw:=Bw.tr a6)
            refine tK hK fun hHeld=>?_
            clear hK K;refine(tR [6])<|tL fun K hK=>?_
            (go_simp;obtain⟨wX,g9,bL,bM,b9,a6⟩:=Jd Bw 99 #[.int .i64 x,.int .i64 y,.bool false];(first|(rw[<-bL,<-bM])|(have b8:(W5.alloc (.cells #[.int .i64 x,.int .i64 y,.bool false] 99)).drew=wX:=bL.symm;have bJ:W5.heap.size=g9:=bM.symm;rw[b8,bJ];clear b8 bJ));clear bL bM;(try replace b5:=b5.bl a6);(try replace bA:=bA.below a6);obtain⟨bD,bE,a8⟩:=bkn a6 W5.heap.size hz;have hz:=a8;have Bw:=Bw.tr a6)
            refine tK hK fun hHeld=>?_
            clear hK K;refine(tR [7])<|tL fun K hK=>?_
            (refine pG aJ aC hz bA (((x:Int),(y:Int),false):Dm) (aL _) b9 fD.out fL.out rfl _ _ rfl rfl rfl ?_;intro j1 c10 wX bB bO;have Bw:=Bw.grown bO hz (fun k hk=>(World.ownsRow.lt bA k hk).1);obtain⟨bD,bE,a8⟩:=bk Bw;have hz:=a8)
            refine tK hK fun hHeld=>?_
            clear hK K;refine(tR [12])<|tL fun K hK=>?_
            (go_simp;go_at_call 225;go_must (refine(e9.out _ _ _ (h.Tj (B7.tr Bw)) (bB.rd aC (by decide))).mono ?_;rintro e wX ⟨j2,c12,rfl,oR,a6⟩;obtain⟨j3,p1,p2,p3⟩:=oR;have bP:=(B7.tr Bw).size;rw[<-p2]at p1⊢;obtain⟨bD,bE,a8⟩:=bkn a6 W5.heap.size hz;have hz:=a8;have Bw:=Bw.tr a6))
            refine tK hK fun hHeld=>?_
            clear hK K;refine(tR [13])<|tL fun K hK=>?_
            (refine qP qB (B7.tr Bw).size (u1.below Bw) (p1.rd Cb (by decide)) (qQ p2 p3) (by rw[u2,p2];have:=bF.out;omega) (by rw[u2,p2];unfold maxLen;have:=bF.out;omega) rfl _ _ rfl rfl rfl ?_;intro fR c13 wX cR a7;have oF:=dY.app (by decide) (u1.below Bw) u2 (fun k u x a b=>(u3 k u x a b).below Bw) p2 (fun k u x a b=>(p3 k u x a b).mono bP) cR a7;have BF:=Below.app (B7.tr Bw) (u1.below Bw) (Tv _) a7;have cK:=(bS.bl Bw).grown a7 (fun e=>(u1.below Bw).apart (bS.bl Bw) (by decide) e.symm);have bR:=(b6.bl Bw).grown a7 (fun e=>(u1.below Bw).apart (b6.bl Bw) (by decide) e.symm);have fS:=aD.mG (cP.below Bw) (u1.below Bw) (by decide) a7;have zF:=cK.c1;have cS:=bR.cell 0;have cT:=bR.cell 1;have cU:=bR.cell 2;simp only[Tp,Tq,Tt]at cS cT cU;rw[u2,p2]at oF⊢)
            refine tK hK fun hHeld=>?_
            clear hK K;refine(tW 14)<|tD ?_
            rotate_left 1
            refine tL fun K hK=>?_
            (go_simp;obtain⟨wX,g9,bL,bM,b9,a6⟩:=Jd Bw 99 #[.int .i64 x,.int .i64 y,.bool false];(first|(rw[<-bL,<-bM])|(have b8:(W5.alloc (.cells #[.int .i64 x,.int .i64 y,.bool false] 99)).drew=wX:=bL.symm;have bJ:W5.heap.size=g9:=bM.symm;rw[b8,bJ];clear b8 bJ));clear bL bM;(try replace b5:=b5.bl a6);(try replace bA:=bA.below a6);obtain⟨bD,bE,a8⟩:=bkn a6 W5.heap.size hz;have hz:=a8;have Bw:=Bw.tr a6)
            refine tK hK fun hHeld=>?_
            clear hK K;refine(tR [4])<|tL fun K hK=>?_
            (refine jD aJ aC aL b5 eI (hu.Tj (B7.tr Bw)) H8.out HM.out rfl _ _ rfl rfl rfl ?_;intro A6 c6 wX bA a6 b7 eE;(try replace b9:=b9.bl a6);obtain⟨bD,bE,a8⟩:=bkn a6 W5.heap.size hz;have hz:=a8;have Bw:=Bw.tr a6)
            refine tK hK fun hHeld=>?_
            clear hK K;refine(tR [7])<|tL fun K hK=>?_
            (refine pG aJ aC hz bA (((x:Int),(y:Int),false):Dm) (aL _) b9 fD.out fL.out rfl _ _ rfl rfl rfl ?_;intro j1 c10 wX bB bO;have Bw:=Bw.grown bO hz (fun k hk=>(World.ownsRow.lt bA k hk).1);obtain⟨bD,bE,a8⟩:=bk Bw;have hz:=a8)
            refine tK hK fun hHeld=>?_
            clear hK K;refine(tR [12])<|tL fun K hK=>?_
            (go_simp;go_at_call 225;go_must (refine(e9.out _ _ _ (h.Tj (B7.tr Bw)) (bB.rd aC (by decide))).mono ?_;rintro e wX ⟨j2,c12,rfl,oR,a6⟩;obtain⟨j3,p1,p2,p3⟩:=oR;have bP:=(B7.tr Bw).size;rw[<-p2]at p1⊢;obtain⟨bD,bE,a8⟩:=bkn a6 W5.heap.size hz;have hz:=a8;have Bw:=Bw.tr a6))
            refine tK hK fun hHeld=>?_
            clear hK K;refine(tR [13])<|tL fun K hK=>?_
            (refine qP qB (B7.tr Bw).size (u1.below Bw) (p1.rd Cb (by decide)) (qQ p2 p3) (by rw[u2,p2];have:=bF.out;omega) (by rw[u2,p2];unfold maxLen;have:=bF.out;omega) rfl _ _ rfl rfl rfl ?_;intro fR c13 wX cR a7;have oF:=dY.app (by decide) (u1.below Bw) u2 (fun k u x a b=>(u3 k u x a b).below Bw) p2 (fun k u x a b=>(p3 k u x a b).mono bP) cR a7;have BF:=Below.app (B7.tr Bw) (u1.below Bw) (Tv _) a7;have cK:=(bS.bl Bw).grown a7 (fun e=>(u1.below Bw).apart (bS.bl Bw) (by decide) e.symm);have bR:=(b6.bl Bw).grown a7 (fun e=>(u1.below Bw).apart (b6.bl Bw) (by decide) e.symm);have fS:=aD.mG (cP.below Bw) (u1.below Bw) (by decide) a7;have zF:=cK.c1;have cS:=bR.cell 0;have cT:=bR.cell 1;have cU:=bR.cell 2;simp only[Tp,Tq,Tt]at cS cT cU;rw[u2,p2]at oF⊢)
            refine tK hK fun hHeld=>?_
            clear hK K;refine(tW 14)<|tD ?_
            rotate_left 1
            refine tL fun K hK=>?_
            (go_simp;obtain⟨wX,g9,bL,bM,b9,a6⟩:=Jd Bw 99 #[.int .i64 x,.int .i64 y,.bool false];(first|(rw[<-bL,<-bM])|(have b8:(W5.alloc (.cells #[.int .i64 x,.int .i64 y,.bool false] 99)).drew=wX:=bL.symm;have bJ:W5.heap.size=g9:=bM.symm;rw[b8,bJ];clear b8 bJ));clear bL bM;(try replace b5:=b5.bl a6);(try replace bA:=bA.below a6);obtain⟨bD,bE,a8⟩:=bkn a6 W5.heap.size hz;have hz:=a8;have Bw:=Bw.tr a6)
            refine tK hK fun hHeld=>?_
            clear hK K;refine(tR [2])<|tL fun K hK=>?_
            (refine iK aJ rfl rfl ?_;intro g5 wX b5 a6 fN fO eE;have eI:W5.heap.size<=g5:=(by omega);(try replace b9:=b9.bl a6);obtain⟨bD,bE,a8⟩:=bkn a6 W5.heap.size hz;have hz:=a8;have Bw:=Bw.tr a6)
            refine tK hK fun hHeld=>?_
            clear hK K;refine(tR [4])<|tL fun K hK=>?_
            (refine jD aJ aC aL b5 eI (hu.Tj (B7.tr Bw)) H8.out HM.out rfl _ _ rfl rfl rfl ?_;intro A6 c6 wX bA a6 b7 eE;(try replace b9:=b9.bl a6);obtain⟨bD,bE,a8⟩:=bkn a6 W5.heap.size hz;have hz:=a8;have Bw:=Bw.tr a6)
            refine tK hK fun hHeld=>?_
            clear hK K;refine(tR [7])<|tL fun K hK=>?_
            (refine pG aJ aC hz bA (((x:Int),(y:Int),false):Dm) (aL _) b9 fD.out fL.out rfl _ _ rfl rfl rfl ?_;intro j1 c10 wX bB bO;have Bw:=Bw.grown bO hz (fun k hk=>(World.ownsRow.lt bA k hk).1);obtain⟨bD,bE,a8⟩:=bk Bw;have hz:=a8)
            refine tK hK fun hHeld=>?_
            clear hK K;refine(tR [12])<|tL fun K hK=>?_
            (go_simp;go_at_call 225;go_must (refine(e9.out _ _ _ (h.Tj (B7.tr Bw)) (bB.rd aC (by decide))).mono ?_;rintro e wX ⟨j2,c12,rfl,oR,a6⟩;obtain⟨j3,p1,p2,p3⟩:=oR;have bP:=(B7.tr Bw).size;rw[<-p2]at p1⊢;obtain⟨bD,bE,a8⟩:=bkn a6 W5.heap.size hz;have hz:=a8;have Bw:=Bw.tr a6))
            refine tK hK fun hHeld=>?_
            clear hK K;refine(tR [13])<|tL fun K hK=>?_
            (refine qP qB (B7.tr Bw).size (u1.below Bw) (p1.rd Cb (by decide)) (qQ p2 p3) (by rw[u2,p2];have:=bF.out;omega) (by rw[u2,p2];unfold maxLen;have:=bF.out;omega) rfl _ _ rfl rfl rfl ?_;intro fR c13 wX cR a7;have oF:=dY.app (by decide) (u1.below Bw) u2 (fun k u x a b=>(u3 k u x a b).below Bw) p2 (fun k u x a b=>(p3 k u x a b).mono bP) cR a7;have BF:=Below.app (B7.tr Bw) (u1.below Bw) (Tv _) a7;have cK:=(bS.bl Bw).grown a7 (fun e=>(u1.below Bw).apart (bS.bl Bw) (by decide) e.symm);have bR:=(b6.bl Bw).grown a7 (fun e=>(u1.below Bw).apart (b6.bl Bw) (by decide) e.symm);have fS:=aD.mG (cP.below Bw) (u1.below Bw) (by decide) a7;have zF:=cK.c1;have cS:=bR.cell 0;have cT:=bR.cell 1;have cU:=bR.cell 2;simp only[Tp,Tq,Tt]at cS cT cU;rw[u2,p2]at oF⊢)
            refine tK hK fun hHeld=>?_
            clear hK K;refine(tW 14)<|tD ?_
            all_goals
              go_wp2;go_roundw
              case rel=>exact⟨_,bC++R1,fR,c13,by go_num,by rw[Tm],by rw[Tm];exact oF,fS,BF,cK,Tk (by first|exact .inr (.inl ⟨rfl,Ho.out⟩)|exact .inr (.inr ⟨rfl,Ho.out⟩))⟩
              case measure=>simp[intOf]
          . have l4 : decide ((0 : Int) <= D) = true := decide_eq_true (by omega);have e7:(0:Int)<=D:=(by omega);have hR:R1=[]:=by rw[j8.out];exact yF (by rw[cD.out,decide_eq_false cQ];rfl)
            subst hR;go_wp2;go_roundw
            case rel=>exact⟨_,bC,_,_,by go_num,rfl,e6,cP,B7,bS,Tk (by first|exact .inr (.inl ⟨rfl,by have:=Ho.out;rwa [Tn]at this⟩)|exact .inr (.inr ⟨rfl,by have:=Ho.out;rwa [Tn]at this⟩))⟩
            case measure=>simp[intOf]
    . have Ho : Hid (bC ++ R2 = R1 ++ R2) := Tk (by rw [ho]);have fY:Hid ((bC.length:Int)+R2.length<=most):=Tk (by rw[ho];have:=l9.out;have:=HT.out;omega);by_cases kA:(bC.length:Int)<most
      . have gF:decide ((bC.length:Int)<most)=true:=decide_eq_true kA;clear HJ ho;obtain⟨W,hW⟩:=Ti wr;rw[<-hW]at cW cL B2 fX⊢;clear hW;have q1:=cL.slot eB (by decide) gD 0 (.int .i64 x) (by rw[j7.out];rfl);have q2:=cL.slot eB (by decide) gD 1 (.int .i64 y) (by rw[j7.out];rfl);rw[Tw,Nat.add_zero]at q1;rw[Tw,Tu]at q2;have eJ:=cL.at_.2.2;have Bw:Below W.heap.size W W.drew:=(Below.refl _ _).drew;have hz:W.heap.size<=W.drew.heap.size:=(by simp);obtain⟨sx,sy,cN⟩:∃sx sy,sec ((x:Int),(y:Int),true)=(sx,sy):=⟨_,_,rfl⟩;have cA:=Tk cN;clear cN;go_wp2_with fail
        refine rB (fun w'=>w'.cell? ⟨gC,0,none⟩=some (.int .i64 x)/\w'.cell? ⟨gC,1,none⟩=some (.int .i64 y)) fun hHeld=>(tW 0)<|(tW 1)<|(tW 2)<|(tW 3)<|(tW 4)<|(tW 5)<|(tW 6)<|(tW 7)<|(tW 8)<|(tW 9)<|(tW 10)<|(tR [11])<|tL fun K hK=>?_
        (refine kP rfl 99 _ rfl Tryz.zeroValue99 ?_;intro gN wX bN a6 lA lB lO;have oB:W.heap.size<=gN:=(by omega);obtain⟨bD,bE,a8⟩:=bkn a6 W.heap.size hz;replace hz:=a8;replace Bw:=Bw.tr a6)
        refine tK hK fun hHeld=>?_
        clear hK K;refine(tR [12])<|tL fun K hK=>?_
        (refine aK rfl 99 _ _ rfl gN #[.int .i64 x,.int .i64 y,.bool true] rfl rfl _ _ bN (by kernel_rfl) rfl (by simp[Tx]) ?_;intro wX cF gK;replace Bw:=Bw.grown gK hz (fun k hk=>by injection hk with hk;subst hk;omega);obtain⟨bD,bE,a8⟩:=bk Bw)
        refine tK hK fun hHeld=>?_
        clear hK K;refine tD ?_;clear bD bE;obtain⟨V,hV⟩:=Ti wX;rw[<-hV]at Bw cF⊢;clear hV hz;have gL:=cW.below Bw;have gM:=cL.below Bw;have B3:=B2.tr Bw;have eK:=fX.bl Bw;clear cW cL B2 fX q1 q2 Bw gK hHeld;obtain⟨cG,cH,cI⟩:=cF.n3;go_wp2_with fail
        refine(yK x y true sx sy cA _).mono ?_;rintro e w2 ⟨rfl,hb2⟩;have cX:=(gL.below hb2).alloc (.cells #[.int .i64 sx,.int .i64 sy] 83);have cY:=(gM.below hb2).alloc (.cells #[.int .i64 sx,.int .i64 sy] 83);have B4:=(B3.tr hb2).al (.cells #[.int .i64 sx,.int .i64 sy] 83);have dL:=(eK.bl hb2).alloc (.cells #[.int .i64 sx,.int .i64 sy] 83);have dT:=(cF.bl hb2).alloc (.cells #[.int .i64 sx,.int .i64 sy] 83);have eA:=Blk.aX w2 83 #[.int .i64 sx,.int .i64 sy];have gO:=(cF.bl hb2).lt;have gP:=(eK.bl hb2).lt;clear gL gM B3 eK cG cH cI;obtain⟨cG,cH,cI⟩:=(cF.bl hb2).n3;go_upto_region 10 with(fail)
        obtain⟨W4,gQ⟩:=Ti (w2.alloc (.cells #[.int .i64 sx,.int .i64 sy] 83));obtain⟨gY,bJ⟩:=Ti w2.heap.size;rw[<-gQ]at cX cY B4 dL dT eA⊢;rw[<-bJ]at eA⊢;clear gQ bJ cF hb2 cG cH cI gO gP;obtain⟨cG,cH,cI⟩:=dT.n3;rcases bU:aI ((x:Int),(y:Int),true)with _|_
        . have hR : R2 = [] := by rw [j9.out]; exact yF (Kw bU)
          have CD:∀w,Calls prog 172 #[.agg #[.int .i64 x,.int .i64 y,.bool true]] w (Ret (.bool false) w):=fun w=>by have:=dD x y true w;rw[bU]at this;exact this
          clear bU;go_wp2_with fail
          refine(CD _).mono ?_;rintro e w3 ⟨rfl,hb3⟩;subst hR;go_wp2;go_roundw
          case rel=>exact⟨_,bC,_,_,by go_num,rfl,cX.below hb3,cY.below hb3,B4.tr hb3,dL.bl hb3,Tk (by first|exact .inr (.inl ⟨rfl,by have:=Ho.out;rwa [Tn]at this⟩)|exact .inr (.inr ⟨rfl,by have:=Ho.out;rwa [Tn]at this⟩))⟩
          case measure=>simp[intOf]
        . have CD : ∀ w, Calls prog 172 #[.agg #[.int .i64 x, .int .i64 y, .bool true]] w (Ret (.bool true) w) := fun w => by have := dD x y true w; rw [bU] at this; exact this
          have hI:=oA.out bU;have cB:=(dR bU).2;rw[cA.out]at cB;have gR:(oQ rows head).testBit (fC ((x:Int),(y:Int),true))=true:=by rw[<-fW.out,hI];exact Hl.out.2.1
          have bY:=Ca j6.out head bU gR;rw[<-fW.out,cA.out]at bY;obtain⟨q,hq⟩:=Ti (kJ rows (sx,sy));obtain⟨D,hD⟩:=Ti (nW head (sx,sy));have CH:∀(w':World),Below w.heap.size w w'->Calls prog 175 #[.agg #[.slice A rows.length c],.agg #[.int .i64 sx,.int .i64 sy]] w' (Ret (.bool q) w'):=fun w' hb=>by rw[hq];exact qH _ rows sx sy w' (h.Tj hb) cB
          have CA:∀(w':World),Below w.heap.size w w'->Calls prog 120 #[.slice Ah head.length ch,.agg #[.int .i64 sx,.int .i64 sy]] w' (Ret (.int .i64 D) w'):=fun w' hb=>by rw[hD];exact jG _ head sx sy w' (hu.Tj hb)
          rw[<-hq,<-hD]at bY;have gS:=Tk bU;have cD:=Tk bY;have lR:=Tk hI;clear bU hI cB gR bY hq hD;go_wp2_with fail
          refine(CD _).mono ?_;rintro e w3 ⟨rfl,hb3⟩;have gT:=cX.below hb3;have gW:=cY.below hb3;have B5:=B4.tr hb3;have eL:=dL.bl hb3;have gX:=dT.bl hb3;have eM:=eA.bl hb3;clear cX cY B4 dL dT eA hb3 cG cH cI;have hE:=eL.c1;obtain⟨eN,eP⟩:=eM.n2;go_wp2_with fail
          refine(CH _ B5).mono ?_;rintro e w4 ⟨rfl,hb4⟩;have eR:=gT.below hb4;have eW:=gW.below hb4;have B6:=B5.tr hb4;have e5:=eL.bl hb4;have hP:=gX.bl hb4;have hZ:=eM.bl hb4;clear gT gW B5 eL gX eM hb4 hE eN eP;cases q
          . have hR : R2 = [] := by rw [j9.out]; exact yF (by rw [cD.out]; rfl)
            subst hR;go_wp2;go_roundw
            case rel=>exact⟨_,bC,_,_,by go_num,rfl,eR,eW,B6,e5,Tk (by first|exact .inr (.inl ⟨rfl,by have:=Ho.out;rwa [Tn]at this⟩)|exact .inr (.inr ⟨rfl,by have:=Ho.out;rwa [Tn]at this⟩))⟩
            case measure=>simp[intOf]
          . skip;obtain⟨eN,eP⟩:=hZ.n2;go_wp2_with fail
            refine(CA _ B6).mono ?_;rintro e w5 ⟨rfl,cJ⟩;have e6:=eR.below cJ;have cP:=eW.below cJ;have B7:=B6.tr cJ;have bS:=e5.bl cJ;have b6:=hP.bl cJ;clear eR eW B6 e5 hP hZ cJ eN eP;by_cases cQ:D<0
            . have l4 : decide ((0 : Int) <= D) = false := decide_eq_false (by omega);have e7:¬(0:Int)<=D:=(by omega);have cM:eY s ((x:Int),(y:Int),true)=true:=by rw[cD.out,decide_eq_true cQ];rfl
              have hR:R2=dZ (dE s (aG ((x:Int),(y:Int),true))) (head++[((x:Int),(y:Int),true)]):=(by rw[j9.out,Kz cM]);have eC:=BZ j6.out head gS.out;rw[<-fW.out]at eC;rw[<-eC]at hR;have bK:=Ap (j:=j) hs Hl.out gS.out lR.out;rw[<-eC]at bK;have h9:=congrArg List.length hR;rw[uH]at h9;have hwr:IntKind.i64.wrap (most-(bC.length:Int))=most-(bC.length:Int):=IntWalk.i64_in _ (by omega);have e8:=fun(v u:Value) (w:World) (k1:Rd 1 aZ w v rows) (k2:Rd 3 aQ w u (head++[((x:Int),(y:Int),true)]))=>l8.out (i+1) (by omega) (by omega) (head++[((x:Int),(y:Int),true)]) (most-(bC.length:Int)) v u w k1 k2 bK (by rw[Tm,List.length_singleton];omega) (by have:=fY.out;omega) (by omega) (by omega)
              rw[<-hR]at e8;have e9:=Tk e8;have H8:Hid (head.length*24<=140737488355328):=Tk (by omega);have HM:Hid (head.length<=maxLen):=Tk (by unfold maxLen;omega);have fD:Hid ((head.length+1)*24<=140737488355328):=Tk (by omega);have fL:Hid (head.length+1<=maxLen):=Tk (by unfold maxLen;omega);have bF:Hid (bC.length+R2.length<=300):=Tk (by have:=fY.out;omega);clear cM hR eC bK h9 e8;go_upto_region 11 with(fail)
              obtain⟨W5,j0⟩:=Ti w5;rw[<-j0]at e6 cP B7 bS b6⊢;clear j0;have hE:=bS.c1;obtain⟨cG,cH,cI⟩:=b6.n3;have gO:=b6.lt;have gP:=bS.lt;obtain⟨us,u1,u2,u3⟩:=e6;have Bw:Below W5.heap.size W5 W5.drew:=(Below.refl _ _).drew;have hz:W5.heap.size<=W5.drew.heap.size:=(by simp);refine rB (fun w'=>w'.cell? ⟨w.heap.size,0,none⟩=some (.slice A rows.length c)/\w'.cell? ⟨gN,0,none⟩=some (.int .i64 x)/\w'.cell? ⟨gN,1,none⟩=some (.int .i64 y)/\w'.cell? ⟨gN,2,none⟩=some (.bool true)) fun hHeld=>(tW 0)<|(tW 1)<|(tW 3)<|(tW 5)<|(tW 8)<|(tW 9)<|(tW 10)<|(tW 11)<|(tR [2,6])<|tC (fun K hK=>?_) ?_
              (refine iK aJ rfl rfl ?_;intro g5 wX b5 a6 fN fO eE;have eI:W5.heap.size<=g5:=(by omega);(try replace b9:=b9.bl a6);obtain⟨bD,bE,a8⟩:=bkn a6 W5.heap.size hz;have hz:=a8;have Bw:=Bw.tr a6)
              refine tK hK fun hHeld=>?_
              clear hK K;refine(tR [4,6])<|tC (fun K hK=>?_) ?_;(refine jD aJ aC aL b5 eI (hu.Tj (B7.tr Bw)) H8.out HM.out rfl _ _ rfl rfl rfl ?_;intro A6 c6 wX bA a6 b7 eE;(try replace b9:=b9.bl a6);obtain⟨bD,bE,a8⟩:=bkn a6 W5.heap.size hz;have hz:=a8;have Bw:=Bw.tr a6)
              refine tK hK fun hHeld=>?_
              clear hK K;refine(tR [6])<|tL fun K hK=>?_
              (go_simp;obtain⟨wX,g9,bL,bM,b9,a6⟩:=Jd Bw 99 #[.int .i64 x,.int .i64 y,.bool true];(first|(rw[<-bL,<-bM])|(have b8:(W5.alloc (.cells #[.int .i64 x,.int .i64 y,.bool true] 99)).drew=wX:=bL.symm;have bJ:W5.heap.size=g9:=bM.symm;rw[b8,bJ];clear b8 bJ));clear bL bM;(try replace b5:=b5.bl a6);(try replace bA:=bA.below a6);obtain⟨bD,bE,a8⟩:=bkn a6 W5.heap.size hz;have hz:=a8;have Bw:=Bw.tr a6)
              refine tK hK fun hHeld=>?_
              clear hK K;refine(tR [7])<|tL fun K hK=>?_
              (refine pG aJ aC hz bA (((x:Int),(y:Int),true):Dm) (aL _) b9 fD.out fL.out rfl _ _ rfl rfl rfl ?_;intro j1 c10 wX bB bO;have Bw:=Bw.grown bO hz (fun k hk=>(World.ownsRow.lt bA k hk).1);obtain⟨bD,bE,a8⟩:=bk Bw;have hz:=a8)
              refine tK hK fun hHeld=>?_
              clear hK K;refine(tR [12])<|tL fun K hK=>?_
              (go_simp;go_at_call 225;go_must (refine(e9.out _ _ _ (h.Tj (B7.tr Bw)) (bB.rd aC (by decide))).mono ?_;rintro e wX ⟨j2,c12,rfl,oR,a6⟩;obtain⟨j3,p1,p2,p3⟩:=oR;have bP:=(B7.tr Bw).size;rw[<-p2]at p1⊢;obtain⟨bD,bE,a8⟩:=bkn a6 W5.heap.size hz;have hz:=a8;have Bw:=Bw.tr a6))
              refine tK hK fun hHeld=>?_
              clear hK K;refine(tR [13])<|tL fun K hK=>?_
              (refine qP qB (B7.tr Bw).size (u1.below Bw) (p1.rd Cb (by decide)) (qQ p2 p3) (by rw[u2,p2];have:=bF.out;omega) (by rw[u2,p2];unfold maxLen;have:=bF.out;omega) rfl _ _ rfl rfl rfl ?_;intro fR c13 wX cR a7;have oF:=dY.app (by decide) (u1.below Bw) u2 (fun k u x a b=>(u3 k u x a b).below Bw) p2 (fun k u x a b=>(p3 k u x a b).mono bP) cR a7;have BF:=Below.app (B7.tr Bw) (u1.below Bw) (Tv _) a7;have cK:=(bS.bl Bw).grown a7 (fun e=>(u1.below Bw).apart (bS.bl Bw) (by decide) e.symm);have bR:=(b6.bl Bw).grown a7 (fun e=>(u1.below Bw).apart (b6.bl Bw) (by decide) e.symm);have fS:=aD.mG (cP.below Bw) (u1.below Bw) (by decide) a7;have zF:=cK.c1;have cS:=bR.cell 0;have cT:=bR.cell 1;have cU:=bR.cell 2;simp only[Tp,Tq,Tt]at cS cT cU;rw[u2,p2]at oF⊢)
              refine tK hK fun hHeld=>?_
              clear hK K;refine(tW 14)<|tD ?_
              rotate_left 1
              refine tL fun K hK=>?_
              (go_simp;obtain⟨wX,g9,bL,bM,b9,a6⟩:=Jd Bw 99 #[.int .i64 x,.int .i64 y,.bool true];(first|(rw[<-bL,<-bM])|(have b8:(W5.alloc (.cells #[.int .i64 x,.int .i64 y,.bool true] 99)).drew=wX:=bL.symm;have bJ:W5.heap.size=g9:=bM.symm;rw[b8,bJ];clear b8 bJ));clear bL bM;(try replace b5:=b5.bl a6);(try replace bA:=bA.below a6);obtain⟨bD,bE,a8⟩:=bkn a6 W5.heap.size hz;have hz:=a8;have Bw:=Bw.tr a6)
              refine tK hK fun hHeld=>?_
              clear hK K;refine(tR [4])<|tL fun K hK=>?_
              (refine jD aJ aC aL b5 eI (hu.Tj (B7.tr Bw)) H8.out HM.out rfl _ _ rfl rfl rfl ?_;intro A6 c6 wX bA a6 b7 eE;(try replace b9:=b9.bl a6);obtain⟨bD,bE,a8⟩:=bkn a6 W5.heap.size hz;have hz:=a8;have Bw:=Bw.tr a6)
              refine tK hK fun hHeld=>?_
              clear hK K;refine(tR [7])<|tL fun K hK=>?_
              (refine pG aJ aC hz bA (((x:Int),(y:Int),true):Dm) (aL _) b9 fD.out fL.out rfl _ _ rfl rfl rfl ?_;intro j1 c10 wX bB bO;have Bw:=Bw.grown bO hz (fun k hk=>(World.ownsRow.lt bA k hk).1);obtain⟨bD,bE,a8⟩:=bk Bw;have hz:=a8)
              refine tK hK fun hHeld=>?_
              clear hK K;refine(tR [12])<|tL fun K hK=>?_
              (go_simp;go_at_call 225;go_must (refine(e9.out _ _ _ (h.Tj (B7.tr Bw)) (bB.rd aC (by decide))).mono ?_;rintro e wX ⟨j2,c12,rfl,oR,a6⟩;obtain⟨j3,p1,p2,p3⟩:=oR;have bP:=(B7.tr Bw).size;rw[<-p2]at p1⊢;obtain⟨bD,bE,a8⟩:=bkn a6 W5.heap.size hz;have hz:=a8;have Bw:=Bw.tr a6))
              refine tK hK fun hHeld=>?_
              clear hK K;refine(tR [13])<|tL fun K hK=>?_
              (refine qP qB (B7.tr Bw).size (u1.below Bw) (p1.rd Cb (by decide)) (qQ p2 p3) (by rw[u2,p2];have:=bF.out;omega) (by rw[u2,p2];unfold maxLen;have:=bF.out;omega) rfl _ _ rfl rfl rfl ?_;intro fR c13 wX cR a7;have oF:=dY.app (by decide) (u1.below Bw) u2 (fun k u x a b=>(u3 k u x a b).below Bw) p2 (fun k u x a b=>(p3 k u x a b).mono bP) cR a7;have BF:=Below.app (B7.tr Bw) (u1.below Bw) (Tv _) a7;have cK:=(bS.bl Bw).grown a7 (fun e=>(u1.below Bw).apart (bS.bl Bw) (by decide) e.symm);have bR:=(b6.bl Bw).grown a7 (fun e=>(u1.below Bw).apart (b6.bl Bw) (by decide) e.symm);have fS:=aD.mG (cP.below Bw) (u1.below Bw) (by decide) a7;have zF:=cK.c1;have cS:=bR.cell 0;have cT:=bR.cell 1;have cU:=bR.cell 2;simp only[Tp,Tq,Tt]at cS cT cU;rw[u2,p2]at oF⊢)
              refine tK hK fun hHeld=>?_
              clear hK K;refine(tW 14)<|tD ?_
              rotate_left 1
              refine tL fun K hK=>?_
              (go_simp;obtain⟨wX,g9,bL,bM,b9,a6⟩:=Jd Bw 99 #[.int .i64 x,.int .i64 y,.bool true];(first|(rw[<-bL,<-bM])|(have b8:(W5.alloc (.cells #[.int .i64 x,.int .i64 y,.bool true] 99)).drew=wX:=bL.symm;have bJ:W5.heap.size=g9:=bM.symm;rw[b8,bJ];clear b8 bJ));clear bL bM;(try replace b5:=b5.bl a6);(try replace bA:=bA.below a6);obtain⟨bD,bE,a8⟩:=bkn a6 W5.heap.size hz;have hz:=a8;have Bw:=Bw.tr a6)
              refine tK hK fun hHeld=>?_
              clear hK K;refine(tR [2])<|tL fun K hK=>?_
              (refine iK aJ rfl rfl ?_;intro g5 wX b5 a6 fN fO eE;have eI:W5.heap.size<=g5:=(by omega);(try replace b9:=b9.bl a6);obtain⟨bD,bE,a8⟩:=bkn a6 W5.heap.size hz;have hz:=a8;have Bw:=Bw.tr a6)
              refine tK hK fun hHeld=>?_
              clear hK K;refine(tR [4])<|tL fun K hK=>?_
              (refine jD aJ aC aL b5 eI (hu.Tj (B7.tr Bw)) H8.out HM.out rfl _ _ rfl rfl rfl ?_;intro A6 c6 wX bA a6 b7 eE;(try replace b9:=b9.bl a6);obtain⟨bD,bE,a8⟩:=bkn a6 W5.heap.size hz;have hz:=a8;have Bw:=Bw.tr a6)
              refine tK hK fun hHeld=>?_
              clear hK K;refine(tR [7])<|tL fun K hK=>?_
              (refine pG aJ aC hz bA (((x:Int),(y:Int),true):Dm) (aL _) b9 fD.out fL.out rfl _ _ rfl rfl rfl ?_;intro j1 c10 wX bB bO;have Bw:=Bw.grown bO hz (fun k hk=>(World.ownsRow.lt bA k hk).1);obtain⟨bD,bE,a8⟩:=bk Bw;have hz:=a8)
              refine tK hK fun hHeld=>?_
              clear hK K;refine(tR [12])<|tL fun K hK=>?_
              (go_simp;go_at_call 225;go_must (refine(e9.out _ _ _ (h.Tj (B7.tr Bw)) (bB.rd aC (by decide))).mono ?_;rintro e wX ⟨j2,c12,rfl,oR,a6⟩;obtain⟨j3,p1,p2,p3⟩:=oR;have bP:=(B7.tr Bw).size;rw[<-p2]at p1⊢;obtain⟨bD,bE,a8⟩:=bkn a6 W5.heap.size hz;have hz:=a8;have Bw:=Bw.tr a6))
              refine tK hK fun hHeld=>?_
              clear hK K;refine(tR [13])<|tL fun K hK=>?_
              (refine qP qB (B7.tr Bw).size (u1.below Bw) (p1.rd Cb (by decide)) (qQ p2 p3) (by rw[u2,p2];have:=bF.out;omega) (by rw[u2,p2];unfold maxLen;have:=bF.out;omega) rfl _ _ rfl rfl rfl ?_;intro fR c13 wX cR a7;have oF:=dY.app (by decide) (u1.below Bw) u2 (fun k u x a b=>(u3 k u x a b).below Bw) p2 (fun k u x a b=>(p3 k u x a b).mono bP) cR a7;have BF:=Below.app (B7.tr Bw) (u1.below Bw) (Tv _) a7;have cK:=(bS.bl Bw).grown a7 (fun e=>(u1.below Bw).apart (bS.bl Bw) (by decide) e.symm);have bR:=(b6.bl Bw).grown a7 (fun e=>(u1.below Bw).apart (b6.bl Bw) (by decide) e.symm);have fS:=aD.mG (cP.below Bw) (u1.below Bw) (by decide) a7;have zF:=cK.c1;have cS:=bR.cell 0;have cT:=bR.cell 1;have cU:=bR.cell 2;simp only[Tp,Tq,Tt]at cS cT cU;rw[u2,p2]at oF⊢)
              refine tK hK fun hHeld=>?_
              clear hK K;refine(tW 14)<|tD ?_
              all_goals
                go_wp2;go_roundw
                case rel=>exact⟨_,bC++R2,fR,c13,by go_num,by rw[Tm],by rw[Tm];exact oF,fS,BF,cK,Tk (by first|exact .inr (.inl ⟨rfl,Ho.out⟩)|exact .inr (.inr ⟨rfl,Ho.out⟩))⟩
                case measure=>simp[intOf]
            . have l4 : decide ((0 : Int) <= D) = true := decide_eq_true (by omega);have e7:(0:Int)<=D:=(by omega);have hR:R2=[]:=by rw[j9.out];exact yF (by rw[cD.out,decide_eq_false cQ];rfl)
              subst hR;go_wp2;go_roundw
              case rel=>exact⟨_,bC,_,_,by go_num,rfl,e6,cP,B7,bS,Tk (by first|exact .inr (.inl ⟨rfl,by have:=Ho.out;rwa [Tn]at this⟩)|exact .inr (.inr ⟨rfl,by have:=Ho.out;rwa [Tn]at this⟩))⟩
              case measure=>simp[intOf]
      . have gF:decide ((bC.length:Int)<most)=false:=decide_eq_false kA;have hR:R2=[]:=List.eq_nil_of_length_eq_zero (by have:=fY.out;omega);obtain rfl:bC=R1:=ho;subst hR;clear HJ Ho;go_wp2;go_ret;first|exact⟨A7,c7,rfl,cW,B2⟩|exact⟨A7,c7,by rw[Tn],by rw[Tn];exact cW,B2⟩
    . obtain rfl:bC=R1++R2:=ho;clear HJ;go_wp2;go_ret;exact⟨A7,c7,rfl,cW,B2⟩
theorem Lv {rows:List Int} (hr:dX rows):∀j,j<=64->Je rows j:=by
 have key:∀n j,j<=64->64-j<=n->Je rows j:=by
  intro n;induction n with
  |zero=>intro j h1 h2;exact EA hr h1 (fun j' a b=>by omega)
  |succ n ih=>intro j h1 h2;exact EA hr h1 (fun j' a b=>ih j' b (by omega))
 exact fun j hj=>key (64-j) j hj (Tv _)
theorem uW (v:Value) (rows:List Int) (w:World) (h:Rd 1 aZ w v rows):Calls prog 181 #[.agg #[v]] w (Em (aH rows) w):=by
 obtain⟨A,c,rfl,hc,hm⟩:=h.form;have hA:=(Below.refl w.heap.size w).al (.cells #[.slice A rows.length c] 26);have bX:=Blk.aX w 26 #[.slice A rows.length c];have hlen:=Ar rows;obtain⟨R,hR⟩:=Ti (aH rows);rw[<-hR]at hlen⊢;unfold aH at hR;obtain⟨n,hn⟩:=Ti (bG rows);have C:∀(u:Value) (w:World),Rd 1 aZ w u rows->Calls prog 219 #[.agg #[u]] w (Ret (.int .i64 n) w):=fun u w k1=>by rw[hn];exact wP u rows w k1
 obtain⟨i,hi⟩:=Ti (inB n 1 300);have CI:∀(w:World),Calls prog 65 #[.int .i64 n,.int .i64 1,.int .i64 300] w (Pure (.bool i) w):=fun w=>by rw[hi];exact iY n 1 300 w
 rw[<-hn,<-hi]at hR;cases i
 . obtain rfl : R = [] := by rw [hR]; rfl
   clear hR hi hn hlen;go_enter func181,ntmps181
   go_wp2_with fail
   refine(C _ _ (h.Tj hA)).mono ?_;rintro e w1 ⟨rfl,hb1⟩;go_wp2_with (go_at_call 65;(with_reducible refine(CI _).mono ?_);rintro e w' ⟨rfl,rfl⟩)
   go_ret;exact⟨_,_,rfl,⟨[],(fF w1 (E:=27) (size:=1) (enc:=eV)).mono (hA.tr hb1).size,rfl,fun k u x hx=>by simp at hx⟩,(hA.tr hb1).al _⟩
 . obtain rfl : R = jZ (setOf rows) := by rw [hR]; rfl
   have hr:bW rows=true:=by
    rcases q:bW rows with _|_
    . have h1 : 1 <= n /\ n <= 300 := by simpa [inB] using hi.symm
      exact absurd (show bG rows=0 by unfold bG;rw[q];rfl) (by omega)
    . rfl
   have a6:=aR.1 hr;have h1:1<=n/\n<=300:=(by simpa[inB]using hi.symm);have CL:=fun(a b:Value) (w:World) (k1:Rd 1 aZ w a rows) (k2:Rd 3 aQ w b [])=>Lv a6 0 (by decide) [] 300 a b w k1 k2 (fun k hk=>absurd hk (Nat.not_lt_zero k)) (by simp) (by rw[Ej a6];omega) (by decide) (by decide)
   rw[Ej a6,Ke]at CL;obtain⟨T,hT⟩:=Ti (jZ (setOf rows));rw[<-hT]at CL⊢;clear hR hi hn hr hT hlen a6 h1;go_enter func181,ntmps181
   go_wp2_with fail
   refine(C _ _ (h.Tj hA)).mono ?_;rintro e w1 ⟨rfl,hb1⟩;have B1:=(hA.tr hb1).al (.cells #[] 99);have z0:=(bX.bl hb1).c1;have hl:=(bX.bl hb1).lt;have rE:=(fF w1 (E:=99) (size:=3) (enc:=aV)).rd aC (by decide);go_wp2_with (first|(go_at_call 65;(with_reducible refine(CI _).mono ?_);rintro e w' ⟨rfl,rfl⟩)|(go_at_call 225;go_must (refine(CL _ _ _ (h.Tj B1) rE).mono ?_;rintro e w3 ⟨A3,c3,rfl,oL,hb3⟩)))
   go_ret;have hw:=B1.size;obtain⟨us,p1,p2,p3⟩:=oL;exact⟨A3,c3,rfl,⟨us,p1.mono hw,p2,fun k u x a b=>(p3 k u x a b).mono hw⟩,B1.tr hb3⟩
end Go.Proofs.YtjijonhkofhikaaGreatDoor
