import Derived.Test.YtjijonhkofhikaaGreatDoorEG19
open _root_.List renaming length_append->TZ,append_nil->T9,getElem?_toArray->Ua,getElem?_cons_zero->Ub,getElem?_cons_succ->Uc
open _root_.Nat renaming zero_add->Ud,le_refl->Ue,zero_mul->Uf
open _root_.Go.Value renaming oneCell'->Ug
open _root_.Go.Proofs.Tryz (prog func225 ntmps225 func181 ntmps181)
set_option linter.unusedVariables false
set_option linter.unusedSimpArgs false
set_option maxHeartbeats 4000000
set_option maxRecDepth 100000
namespace Go.Proofs.YtjijonhkofhikaaGreatDoor
open Go.ChangeShapes Go.WideShapes Go.ChangeAt Go.RowKit
def Jp (rows:List Int) (j:Nat):Prop:=∀(head:List Dm) (most:Int) (v u:Value) (w:World),Rd 1 bG w v rows->Rd 3 aU w u head->(∀k,k<j->(nZ rows head).testBit k=false)->head.length<=j->((jD (nZ rows head)).length:Int)<=most->1<=most->most<=300->
  Calls prog 225 #[.agg #[v],u,.int .i64 most] w (EA (eB (nZ rows head) head) w)
theorem KJ {s:Nat} {d:Dm} (h:aI d=false):eU s d=false:=by unfold eU;rw[h];rfl
def KL (s:Nat) (head:List Dm) (d:Dm):List (List Dm):=if eU s d then eB (dE s (aG d)) (head++[d])else[]
theorem yD {s:Nat} {head:List Dm} {d:Dm} (h:eU s d=false):KL s head d=[]:=by unfold KL;rw[h];rfl
theorem KM {s:Nat} {head:List Dm} {d:Dm} (h:eU s d=true):KL s head d=eB (dE s (aG d)) (head++[d]):=by unfold KL;rw[if_pos h]
theorem Oh {s i:Nat} (hs:s<U64) (hl:sI s i) (head:List Dm):eB s head=KL s head (eQ i)++KL s head (fK i):=GN hs hl head
theorem qQ {α:Type} {E:TypeId} {size:Nat} {enc:α->List Value} {B:Nat} {w:World} {us:List Value} {ls:List (List α)} (h2:us.length=ls.length) (h3:∀(k:Nat) (u:Value) (x:List α),us[k]? =some u->ls[k]? =some x->aD E size enc B w u x):∀u∈us,u.oneCell'=true:=by
 intro u hu;obtain⟨k,hk,rfl⟩:=List.getElem_of_mem hu;obtain⟨A,c,e,_⟩:=(h3 k us[k] ls[k] (List.getElem?_eq_getElem hk) (List.getElem?_eq_getElem (by omega))).form;rw[e];rfl
theorem EL {rows:List Int} {j:Nat} (hr:dY rows) (hj:j<=64) (IH:∀j',j<j'->j'<=64->Jp rows j'):Jp rows j:=by
 intro head most v u w h hu cX hh hT oI oL;have hs:=GQ hr head;have j6:=RO hr head;obtain⟨s,j7⟩:=TV (nZ rows head);rw[<-j7]at cX hT hs j6⊢;obtain⟨cs,hcs⟩:=TV (eT s 64);rw[<-hcs]at j6;have CU:∀(a b:Value) (w:World),Rd 1 bG w a rows->Rd 3 aU w b head->Calls prog 236 #[.agg #[a],b] w (iH 83 2 dH cs w):=fun a b w k1 k2=>by rw[<-j6];exact Og a b rows head w k1 k2
 have oM:cs.length<=64:=by rw[hcs];exact uY _ _
 have mS:head.length<=64:=(by omega);clear j6;obtain⟨A,c,rfl,hc,hm⟩:=h.form;obtain⟨Ah,ch,rfl,hch,oN⟩:=hu.form;have B0:=((Below.refl w.heap.size w).al (.cells #[.slice A rows.length c] 26)).al (.cells #[] 27);have bX:=(Blk.aZ w 26 #[.slice A rows.length c]).alloc (.cells #[] 27)
 have oO:aD 27 1 eV w.heap.size ((w.alloc (.cells #[.slice A rows.length c] 26)).alloc (.cells #[] 27)) (.slice (some ⟨w.heap.size+1,0,none⟩) ([]:List Value).length 0) []:=by
  have:=(eZ (w.alloc (.cells #[.slice A rows.length c] 26)) (E:=27) (size:=1) (enc:=eV)).mono (show w.heap.size<=_ from((Below.refl w.heap.size w).al (.cells #[.slice A rows.length c] 26)).size);simpa using this
 by_cases h0:s=0
 . have hc0 : cs.length = 0 := by rw [hcs]; exact (vV hs).2 h0
   have nB:((cs.length:Int)==0)=true:=by rw[hc0];rfl
   have ht:eB s head=[head]:=(by rw[h0,GM]);rw[ht];have H8:Hid ((([]:List Dm).length+head.length)*24<=140737488355328):=TY (by simp;omega);have HM:Hid ((([]:List Dm).length+head.length)<=maxLen):=TY (by unfold maxLen;simp;omega);clear hT cX IH ht hc0 h0 j7 hcs;go_enter func225,ntmps225
   go_wp2_with fail
   refine(CU _ _ _ (h.TW B0) (hu.TW B0)).mono ?_;rintro e w1 ⟨AC,cC,rfl,oC,hb1⟩;have B1:=B0.tr hb1;have k0:=oO.below hb1;have rh:=(hu.TW B1).TW ((Below.refl w1.heap.size w1).al (.cells #[] 99));have B2:=B1.al (.cells #[] 99);have k5:w.heap.size<=w1.heap.size:=B1.size;have n5:w.heap.size+1<w1.heap.size:=(World.ownsRow.lt k0 _ rfl).2;have n9:=k0.alloc (.cells #[] 99);clear B0 bX oO B1 k0 hb1 oC
   go_wp2_with (at_builtin; go_must (first
     |(refine dX (enc:=aX) aK aC aM (B:=w1.heap.size) (by simp) (eZ w1) rh H8.out HM.out rfl _ _ rfl rfl rfl ?_;intro v4 w4 gD hb4 hv4;obtain⟨A4,c4,rfl⟩:=hv4;simp only[List.nil_append,List.length_nil,Ud]at gD⊢;have gF:Below w.heap.size w w4:=⟨hb4.os.trans B2.os,hb4.tape.trans B2.tape,hb4.output.trans B2.output,Nat.le_trans B2.size hb4.size,fun k hk=>(hb4.block k (by omega)).trans (B2.block k hk)⟩;have k6:aD 27 1 eV w.heap.size w4 (.slice (some ⟨w.heap.size+1,0,none⟩) ([]:List Value).length 0) []:=World.ownsRow.kept n9 (row:=some w1.heap.size) ⟨hb4.os,hb4.tape,hb4.output,hb4.size,fun k hk hne=>hb4.block k (by simp at hk hne;omega)⟩ (.inr (by simp[Value.ownBlock];omega)))
     |(refine pJ (enc:=eV) pX Ck w4 gF.size k6 (.slice A4 head.length c4) (by simp[eV,Ug]) rfl (by decide) (by decide) rfl _ _ rfl rfl rfl ?_;intro A5 c5 w5 o5 g5 d5)))
   go_ret;exact⟨A5,c5,rfl,dU.snoc (by decide) k6 (ls:=[]) rfl (fun k u x hx=>by simp at hx) (gD.mono k5) o5 g5,Below.app gF k6 (Ue _) g5⟩
 . obtain⟨i,hl⟩:=xB hs h0;have oP:=QO hl cX;have hi:=hl.1;obtain⟨rest,cG⟩:=zH hl;obtain⟨x,hx⟩:=TV (i%8);obtain⟨y,hy⟩:=TV (i/8);have l7:iI i=((x:Int),(y:Int)):=by unfold iI;rw[hx,hy,show((i:Int)%8)=((i%8:Nat):Int) by omega,show((i:Int)/8)=((i/8:Nat):Int) by omega]
   rw[l7,<-hcs]at cG;have gK:0<cs.length:=by rw[cG];simp
   have hce:cs[0]=((x:Int),(y:Int)):=by subst cG;rfl
   have oA:(0:Int)<cs.length:=(by omega);have nB:((cs.length:Int)==0)=false:=by rw[beq_eq_false_iff_ne];omega
   have hrt:eQ i=((x:Int),(y:Int),false):=by unfold eQ;rw[<-hx,<-hy]
   have k7:fK i=((x:Int),(y:Int),true):=by unfold fK;rw[<-hx,<-hy]
   have cP:=Oh hs hl head;rw[hrt,k7]at cP
   have k8:(KL s head ((x:Int),(y:Int),false)).length+(KL s head ((x:Int),(y:Int),true)).length=(jD s).length:=by
    have:=congrArg List.length cP;rw[uE,TZ]at this;omega
   have l8:aI ((x:Int),(y:Int),false)=true->eY ((x:Int),(y:Int),false)=i:=fun q=>by rw[<-hrt]at q⊢;exact MW q hi
   have l9:aI ((x:Int),(y:Int),true)=true->eY ((x:Int),(y:Int),true)=i:=fun q=>by rw[<-k7]at q⊢;exact MX q hi
   have fY:=TY j7;have j8:=TY hr;have Hl:=TY hl;have oB:=TY l8;have oD:=TY l9;have mA:=TY IH;have j9:=TY hce;obtain⟨R1,k9⟩:=TV (KL s head ((x:Int),(y:Int),false));obtain⟨R2,lA⟩:=TV (KL s head ((x:Int),(y:Int),true));rw[<-k9,<-lA]at cP k8;rw[cP];have kA:=TY k9;have kB:=TY lA;have mB:=TY k8;have HT:=TY hT;clear h0 cX hl hx hy l7 hrt k7 cP k8 l8 l9 IH k9 lA j7 hcs cG hce hT hr;go_enter func225,ntmps225
   go_wp2_with fail
   refine(CU _ _ _ (h.TW B0) (hu.TW B0)).mono ?_;rintro e w1 ⟨AC,cC,rfl,oC,hb1⟩;obtain⟨gC,rfl,lB,eL⟩:=oC.split gK;have B1:=B0.tr hb1;have mC:dU 27 99 3 aX w.heap.size w1 (.slice (some ⟨w.heap.size+1,0,none⟩) ([]:List (List Dm)).length 0) []:=⟨[],oO.below hb1,rfl,fun k u x h=>by simp at h⟩;have mL:=bX.bl hb1;have mN:=oC.mono B0.size;clear B0 bX oO oC hb1 lB eL;go_wp2_with fail
   go_loopw [7,9] (fun s7 s9 wr=>∃(J:Int) (bC:List (List Dm)) (A7:Option Addr) (c7:Nat),s9= .int .i64 J/\s7= .slice A7 bC.length c7/\dU 27 99 3 aX w.heap.size wr (.slice A7 bC.length c7) bC/\aD 83 2 dH w.heap.size wr (.slice (some ⟨gC,0,none⟩) cs.length cC) cs/\Below w.heap.size w wr/\Blk wr w.heap.size 26 #[.slice A rows.length c]/\Hid ((J=0/\bC=[])∨(J=1/\bC=R1)∨(J=2/\bC=R1++R2))) (fun _ i _=>2-(intOf i).toNat)
   case atStart=>exact⟨0,[],_,_,rfl,rfl,mC,mN,B1,mL,TY (.inl ⟨rfl,rfl⟩)⟩
   case round=>
    obtain⟨J,bC,A7,c7,rfl,rfl,cY,cN,B2,gA,HJ⟩:=hrel;clear mC mN B1 mL;rcases HJ.out with⟨rfl,ho⟩|⟨rfl,ho⟩|⟨rfl,ho⟩
    . have Ho : Hid (bC ++ R1 = R1) := TY (by rw [ho]; rfl);have gB:Hid ((bC.length:Int)+R1.length<=most):=TY (by rw[ho];have:=mB.out;have:=HT.out;simp;omega);have kO:(bC.length:Int)<most:=by rw[ho];simp;omega
      have gL:decide ((bC.length:Int)<most)=true:=decide_eq_true kO;clear HJ ho;obtain⟨W,hW⟩:=TV wr;rw[<-hW]at cY cN B2 gA⊢;clear hW;have q1:=cN.slot eG (by decide) gK 0 (.int .i64 x) (by rw[j9.out];rfl);have q2:=cN.slot eG (by decide) gK 1 (.int .i64 y) (by rw[j9.out];rfl);rw[Uf,Nat.add_zero]at q1;rw[Uf,Ud]at q2;have eL:=cN.at_.2.2;have Bw:Below W.heap.size W W.drew:=(Below.refl _ _).drew;have hz:W.heap.size<=W.drew.heap.size:=(by simp);obtain⟨sx,sy,cQ⟩:∃sx sy,sec ((x:Int),(y:Int),false)=(sx,sy):=⟨_,_,rfl⟩;have cD:=TY cQ;clear cQ;go_wp2_with fail
      refine rB (fun w'=>w'.cell? ⟨gC,0,none⟩=some (.int .i64 x)/\w'.cell? ⟨gC,1,none⟩=some (.int .i64 y)) fun hHeld=>(tW 0)<|(tW 1)<|(tW 2)<|(tW 3)<|(tW 4)<|(tW 5)<|(tW 6)<|(tW 7)<|(tW 8)<|(tW 9)<|(tW 10)<|(tR [11])<|tL fun K hK=>?_
      (refine nW rfl 99 _ rfl Tryz.zeroValue99 ?_;intro gN wX bN a6 lO lR l4;have oG:W.heap.size<=gN:=(by omega);obtain⟨bD,bE,a8⟩:=bkn a6 W.heap.size hz;replace hz:=a8;replace Bw:=Bw.tr a6)
      refine tK hK fun hHeld=>?_
      clear hK K;refine(tR [12])<|tL fun K hK=>?_
      (refine aL rfl 99 _ _ rfl gN #[.int .i64 x,.int .i64 y,.bool false] rfl rfl _ _ bN (by kernel_rfl) rfl (by simp[Ug]) ?_;intro wX cH gM;replace Bw:=Bw.grown gM hz (fun k hk=>by injection hk with hk;subst hk;omega);obtain⟨bD,bE,a8⟩:=bk Bw)
      refine tK hK fun hHeld=>?_
      clear hK K;refine tD ?_;clear bD bE;obtain⟨V,hV⟩:=TV wX;rw[<-hV]at Bw cH⊢;clear hV hz;have gO:=cY.below Bw;have gP:=cN.below Bw;have B3:=B2.tr Bw;have eM:=gA.bl Bw;clear cY cN B2 gA q1 q2 Bw gM hHeld;obtain⟨cI,cJ,cK⟩:=cH.n3;go_wp2_with fail
      refine(yK x y false sx sy cD _).mono ?_;rintro e w2 ⟨rfl,hb2⟩;have dL:=(gO.below hb2).alloc (.cells #[.int .i64 sx,.int .i64 sy] 83);have dT:=(gP.below hb2).alloc (.cells #[.int .i64 sx,.int .i64 sy] 83);have B4:=(B3.tr hb2).al (.cells #[.int .i64 sx,.int .i64 sy] 83);have eA:=(eM.bl hb2).alloc (.cells #[.int .i64 sx,.int .i64 sy] 83);have eC:=(cH.bl hb2).alloc (.cells #[.int .i64 sx,.int .i64 sy] 83);have eE:=Blk.aZ w2 83 #[.int .i64 sx,.int .i64 sy];have gQ:=(cH.bl hb2).lt;have gR:=(eM.bl hb2).lt;clear gO gP B3 eM cI cJ cK;obtain⟨cI,cJ,cK⟩:=(cH.bl hb2).n3;go_upto_region 10 with(fail)
      obtain⟨W4,gS⟩:=TV (w2.alloc (.cells #[.int .i64 sx,.int .i64 sy] 83));obtain⟨gY,bJ⟩:=TV w2.heap.size;rw[<-gS]at dL dT B4 eA eC eE⊢;rw[<-bJ]at eE⊢;clear gS bJ cH hb2 cI cJ cK gQ gR;obtain⟨cI,cJ,cK⟩:=eC.n3;rcases b6:aI ((x:Int),(y:Int),false)with _|_
      . have hR : R1 = [] := by rw [kA.out]; exact yD (KJ b6)
        have CD:∀w,Calls prog 172 #[.agg #[.int .i64 x,.int .i64 y,.bool false]] w (Ret (.bool false) w):=fun w=>by have:=dC x y false w;rw[b6]at this;exact this
        clear b6;go_wp2_with fail
        refine(CD _).mono ?_;rintro e w3 ⟨rfl,hb3⟩;subst hR;go_wp2;go_roundw
        case rel=>exact⟨_,bC,_,_,by go_num,rfl,dL.below hb3,dT.below hb3,B4.tr hb3,eA.bl hb3,TY (by first|exact .inr (.inl ⟨rfl,by have:=Ho.out;rwa [T9]at this⟩)|exact .inr (.inr ⟨rfl,by have:=Ho.out;rwa [T9]at this⟩))⟩
        case measure=>simp[intOf]
      . have CD : ∀ w, Calls prog 172 #[.agg #[.int .i64 x, .int .i64 y, .bool false]] w (Ret (.bool true) w) := fun w => by have := dC x y false w; rw [b6] at this; exact this
        have hI:=oB.out b6;have cE:=(dR b6).2;rw[cD.out]at cE;have gT:(nZ rows head).testBit (eY ((x:Int),(y:Int),false))=true:=by rw[<-fY.out,hI];exact Hl.out.2.1
        have b7:=Cj j8.out head b6 gT;rw[<-fY.out,cD.out]at b7;obtain⟨q,hq⟩:=TV (jZ rows (sx,sy));obtain⟨D,hD⟩:=TV (qC head (sx,sy));have CH:∀(w':World),Below w.heap.size w w'->Calls prog 175 #[.agg #[.slice A rows.length c],.agg #[.int .i64 sx,.int .i64 sy]] w' (Ret (.bool q) w'):=fun w' hb=>by rw[hq];exact qD _ rows sx sy w' (h.TW hb) cE
        have CA:∀(w':World),Below w.heap.size w w'->Calls prog 120 #[.slice Ah head.length ch,.agg #[.int .i64 sx,.int .i64 sy]] w' (Ret (.int .i64 D) w'):=fun w' hb=>by rw[hD];exact yS _ head sx sy w' (hu.TW hb)
        rw[<-hq,<-hD]at b7;have gW:=TY b6;have cF:=TY b7;have l5:=TY hI;clear b6 hI cE gT b7 hq hD;go_wp2_with fail
        refine(CD _).mono ?_;rintro e w3 ⟨rfl,hb3⟩;have gX:=dL.below hb3;have hE:=dT.below hb3;have B5:=B4.tr hb3;have eN:=eA.bl hb3;have hP:=eC.bl hb3;have eP:=eE.bl hb3;clear dL dT B4 eA eC eE hb3 cI cJ cK;have hZ:=eN.c1;obtain⟨eR,eW⟩:=eP.n2;go_wp2_with fail
        refine(CH _ B5).mono ?_;rintro e w4 ⟨rfl,hb4⟩;have e5:=gX.below hb4;have e6:=hE.below hb4;have B6:=B5.tr hb4;have e7:=eN.bl hb4;have h9:=hP.bl hb4;have j0:=eP.bl hb4;clear gX hE B5 eN hP eP hb4 hZ eR eW;cases q
        . have hR : R1 = [] := by rw [kA.out]; exact yD (by rw [cF.out]; rfl)
          subst hR;go_wp2;go_roundw
          case rel=>exact⟨_,bC,_,_,by go_num,rfl,e5,e6,B6,e7,TY (by first|exact .inr (.inl ⟨rfl,by have:=Ho.out;rwa [T9]at this⟩)|exact .inr (.inr ⟨rfl,by have:=Ho.out;rwa [T9]at this⟩))⟩
          case measure=>simp[intOf]
        . skip;obtain⟨eR,eW⟩:=j0.n2;go_wp2_with fail
          refine(CA _ B6).mono ?_;rintro e w5 ⟨rfl,cL⟩;have e8:=e5.below cL;have cR:=e6.below cL;have B7:=B6.tr cL;have bY:=e7.bl cL;have b8:=h9.bl cL;clear e5 e6 B6 e7 h9 j0 cL eR eW;by_cases cS:D<0
          . have l6 : decide ((0 : Int) <= D) = false := decide_eq_false (by omega);have e9:¬(0:Int)<=D:=(by omega);have cP:eU s ((x:Int),(y:Int),false)=true:=by rw[cF.out,decide_eq_true cS];rfl
            have hR:R1=eB (dE s (aG ((x:Int),(y:Int),false))) (head++[((x:Int),(y:Int),false)]):=(by rw[kA.out,KM cP]);have eI:=Ci j8.out head gW.out;rw[<-fY.out]at eI;rw[<-eI]at hR;have bK:=Aw (j:=j) hs Hl.out gW.out l5.out;rw[<-eI]at bK;have j1:=congrArg List.length hR;rw[uE]at j1;have hwr:IntKind.i64.wrap (most-(bC.length:Int))=most-(bC.length:Int):=IntWalk.i64_in _ (by omega);have fD:=fun(v u:Value) (w:World) (k1:Rd 1 bG w v rows) (k2:Rd 3 aU w u (head++[((x:Int),(y:Int),false)]))=>mA.out (i+1) (by omega) (by omega) (head++[((x:Int),(y:Int),false)]) (most-(bC.length:Int)) v u w k1 k2 bK (by rw[TZ,List.length_singleton];omega) (by have:=gB.out;omega) (by omega) (by omega)
            rw[<-hR]at fD;have fL:=TY fD;have H8:Hid (head.length*24<=140737488355328):=TY (by omega);have HM:Hid (head.length<=maxLen):=TY (by unfold maxLen;omega);have fN:Hid ((head.length+1)*24<=140737488355328):=TY (by omega);have fO:Hid (head.length+1<=maxLen):=TY (by unfold maxLen;omega);have bF:Hid (bC.length+R1.length<=300):=TY (by have:=gB.out;omega);clear cP hR eI bK j1 fD;go_upto_region 11 with(fail)
            obtain⟨W5,j2⟩:=TV w5;rw[<-j2]at e8 cR B7 bY b8⊢;clear j2;have hZ:=bY.c1;obtain⟨cI,cJ,cK⟩:=b8.n3;have gQ:=b8.lt;have gR:=bY.lt;obtain⟨us,u1,u2,u3⟩:=e8;have Bw:Below W5.heap.size W5 W5.drew:=(Below.refl _ _).drew;have hz:W5.heap.size<=W5.drew.heap.size:=(by simp);refine rB (fun w'=>w'.cell? ⟨w.heap.size,0,none⟩=some (.slice A rows.length c)/\w'.cell? ⟨gN,0,none⟩=some (.int .i64 x)/\w'.cell? ⟨gN,1,none⟩=some (.int .i64 y)/\w'.cell? ⟨gN,2,none⟩=some (.bool false)) fun hHeld=>(tW 0)<|(tW 1)<|(tW 3)<|(tW 5)<|(tW 8)<|(tW 9)<|(tW 10)<|(tW 11)<|(tR [2,6])<|tC (fun K hK=>?_) ?_
            (refine iA aK rfl rfl ?_;intro g5 wX b5 a6 fR fS eJ;have eK:W5.heap.size<=g5:=(by omega);(try replace b9:=b9.bl a6);obtain⟨bD,bE,a8⟩:=bkn a6 W5.heap.size hz;have hz:=a8;have Bw:=Bw.tr a6)
            refine tK hK fun hHeld=>?_
            clear hK K;refine(tR [4,6])<|tC (fun K hK=>?_) ?_;(refine iT aK aC aM b5 eK (hu.TW (B7.tr Bw)) H8.out HM.out rfl _ _ rfl rfl rfl ?_;intro A6 c6 wX bA a6 cA eJ;(try replace b9:=b9.bl a6);obtain⟨bD,bE,a8⟩:=bkn a6 W5.heap.size hz;have hz:=a8;have Bw:=Bw.tr a6)
            refine tK hK fun hHeld=>?_
            clear hK K;refine(tR [6])<|tL fun K hK=>?_
            (go_simp;obtain⟨wX,g9,bL,bO,b9,a6⟩:=Jo Bw 99 #[.int .i64 x,.int .i64 y,.bool false];(first|(rw[<-bL,<-bO])|(have cB:(W5.alloc (.cells #[.int .i64 x,.int .i64 y,.bool false] 99)).drew=wX:=bL.symm;have bJ:W5.heap.size=g9:=bO.symm;rw[cB,bJ];clear cB bJ));clear bL bO;(try replace b5:=b5.bl a6);(try replace bA:=bA.below a6);obtain⟨bD,bE,a8⟩:=bkn a6 W5.heap.size hz;have hz:=a8;have Bw:=Bw.tr a6)
            refine tK hK fun hHeld=>?_
            clear hK K;refine(tR [7])<|tL fun K hK=>?_
            (refine kH aK aC hz bA (((x:Int),(y:Int),false):Dm) (aM _) b9 fN.out fO.out rfl _ _ rfl rfl rfl ?_;intro j3 c10 wX bB bR;have Bw:=Bw.grown bR hz (fun k hk=>(World.ownsRow.lt bA k hk).1);obtain⟨bD,bE,a8⟩:=bk Bw;have hz:=a8)
            refine tK hK fun hHeld=>?_
            clear hK K;refine(tR [12])<|tL fun K hK=>?_
            (go_simp;go_at_call 225;go_must (refine(fL.out _ _ _ (h.TW (B7.tr Bw)) (bB.rd aC (by decide))).mono ?_;rintro e wX ⟨j4,c12,rfl,oR,a6⟩;obtain⟨j5,p1,p2,p3⟩:=oR;have bU:=(B7.tr Bw).size;rw[<-p2]at p1⊢;obtain⟨bD,bE,a8⟩:=bkn a6 W5.heap.size hz;have hz:=a8;have Bw:=Bw.tr a6))
            refine tK hK fun hHeld=>?_
            clear hK K;refine(tR [13])<|tL fun K hK=>?_
            (refine qP pX (B7.tr Bw).size (u1.below Bw) (p1.rd Ck (by decide)) (qQ p2 p3) (by rw[u2,p2];have:=bF.out;omega) (by rw[u2,p2];unfold maxLen;have:=bF.out;omega) rfl _ _ rfl rfl rfl ?_;intro fW c13 wX cT a7;have oF:=dU.app (by decide) (u1.below Bw) u2 (fun k u x a b=>(u3 k u x a b).below Bw) p2 (fun k u x a b=>(p3 k u x a b).mono bU) cT a7;have BF:=Below.app (B7.tr Bw) (u1.below Bw) (Ue _) a7;have cM:=(bY.bl Bw).grown a7 (fun e=>(u1.below Bw).apart (bY.bl Bw) (by decide) e.symm);have bW:=(b8.bl Bw).grown a7 (fun e=>(u1.below Bw).apart (b8.bl Bw) (by decide) e.symm);have fX:=aD.lX (cR.below Bw) (u1.below Bw) (by decide) a7;have zF:=cM.c1;have cU:=bW.cell 0;have cV:=bW.cell 1;have cW:=bW.cell 2;simp only[Ua,Ub,Uc]at cU cV cW;rw[u2,p2]at oF⊢)
            refine tK hK fun hHeld=>?_
            clear hK K;refine(tW 14)<|tD ?_
            rotate_left 1
            refine tL fun K hK=>?_
            (go_simp;obtain⟨wX,g9,bL,bO,b9,a6⟩:=Jo Bw 99 #[.int .i64 x,.int .i64 y,.bool false];(first|(rw[<-bL,<-bO])|(have cB:(W5.alloc (.cells #[.int .i64 x,.int .i64 y,.bool false] 99)).drew=wX:=bL.symm;have bJ:W5.heap.size=g9:=bO.symm;rw[cB,bJ];clear cB bJ));clear bL bO;(try replace b5:=b5.bl a6);(try replace bA:=bA.below a6);obtain⟨bD,bE,a8⟩:=bkn a6 W5.heap.size hz;have hz:=a8;have Bw:=Bw.tr a6)
            refine tK hK fun hHeld=>?_
            clear hK K;refine(tR [4])<|tL fun K hK=>?_
            (refine iT aK aC aM b5 eK (hu.TW (B7.tr Bw)) H8.out HM.out rfl _ _ rfl rfl rfl ?_;intro A6 c6 wX bA a6 cA eJ;(try replace b9:=b9.bl a6);obtain⟨bD,bE,a8⟩:=bkn a6 W5.heap.size hz;have hz:=a8;have Bw:=Bw.tr a6)
            refine tK hK fun hHeld=>?_
            clear hK K;refine(tR [7])<|tL fun K hK=>?_
            (refine kH aK aC hz bA (((x:Int),(y:Int),false):Dm) (aM _) b9 fN.out fO.out rfl _ _ rfl rfl rfl ?_;intro j3 c10 wX bB bR;have Bw:=Bw.grown bR hz (fun k hk=>(World.ownsRow.lt bA k hk).1);obtain⟨bD,bE,a8⟩:=bk Bw;have hz:=a8)
            refine tK hK fun hHeld=>?_
            clear hK K;refine(tR [12])<|tL fun K hK=>?_
            (go_simp;go_at_call 225;go_must (refine(fL.out _ _ _ (h.TW (B7.tr Bw)) (bB.rd aC (by decide))).mono ?_;rintro e wX ⟨j4,c12,rfl,oR,a6⟩;obtain⟨j5,p1,p2,p3⟩:=oR;have bU:=(B7.tr Bw).size;rw[<-p2]at p1⊢;obtain⟨bD,bE,a8⟩:=bkn a6 W5.heap.size hz;have hz:=a8;have Bw:=Bw.tr a6))
            refine tK hK fun hHeld=>?_
            clear hK K;refine(tR [13])<|tL fun K hK=>?_
            (refine qP pX (B7.tr Bw).size (u1.below Bw) (p1.rd Ck (by decide)) (qQ p2 p3) (by rw[u2,p2];have:=bF.out;omega) (by rw[u2,p2];unfold maxLen;have:=bF.out;omega) rfl _ _ rfl rfl rfl ?_;intro fW c13 wX cT a7;have oF:=dU.app (by decide) (u1.below Bw) u2 (fun k u x a b=>(u3 k u x a b).below Bw) p2 (fun k u x a b=>(p3 k u x a b).mono bU) cT a7;have BF:=Below.app (B7.tr Bw) (u1.below Bw) (Ue _) a7;have cM:=(bY.bl Bw).grown a7 (fun e=>(u1.below Bw).apart (bY.bl Bw) (by decide) e.symm);have bW:=(b8.bl Bw).grown a7 (fun e=>(u1.below Bw).apart (b8.bl Bw) (by decide) e.symm);have fX:=aD.lX (cR.below Bw) (u1.below Bw) (by decide) a7;have zF:=cM.c1;have cU:=bW.cell 0;have cV:=bW.cell 1;have cW:=bW.cell 2;simp only[Ua,Ub,Uc]at cU cV cW;rw[u2,p2]at oF⊢)
            refine tK hK fun hHeld=>?_
            clear hK K;refine(tW 14)<|tD ?_
            rotate_left 1
            refine tL fun K hK=>?_
            (go_simp;obtain⟨wX,g9,bL,bO,b9,a6⟩:=Jo Bw 99 #[.int .i64 x,.int .i64 y,.bool false];(first|(rw[<-bL,<-bO])|(have cB:(W5.alloc (.cells #[.int .i64 x,.int .i64 y,.bool false] 99)).drew=wX:=bL.symm;have bJ:W5.heap.size=g9:=bO.symm;rw[cB,bJ];clear cB bJ));clear bL bO;(try replace b5:=b5.bl a6);(try replace bA:=bA.below a6);obtain⟨bD,bE,a8⟩:=bkn a6 W5.heap.size hz;have hz:=a8;have Bw:=Bw.tr a6)
            refine tK hK fun hHeld=>?_
            clear hK K;refine(tR [2])<|tL fun K hK=>?_
            (refine iA aK rfl rfl ?_;intro g5 wX b5 a6 fR fS eJ;have eK:W5.heap.size<=g5:=(by omega);(try replace b9:=b9.bl a6);obtain⟨bD,bE,a8⟩:=bkn a6 W5.heap.size hz;have hz:=a8;have Bw:=Bw.tr a6)
            refine tK hK fun hHeld=>?_
            clear hK K;refine(tR [4])<|tL fun K hK=>?_
            (refine iT aK aC aM b5 eK (hu.TW (B7.tr Bw)) H8.out HM.out rfl _ _ rfl rfl rfl ?_;intro A6 c6 wX bA a6 cA eJ;(try replace b9:=b9.bl a6);obtain⟨bD,bE,a8⟩:=bkn a6 W5.heap.size hz;have hz:=a8;have Bw:=Bw.tr a6)
            refine tK hK fun hHeld=>?_
            clear hK K;refine(tR [7])<|tL fun K hK=>?_
            (refine kH aK aC hz bA (((x:Int),(y:Int),false):Dm) (aM _) b9 fN.out fO.out rfl _ _ rfl rfl rfl ?_;intro j3 c10 wX bB bR;have Bw:=Bw.grown bR hz (fun k hk=>(World.ownsRow.lt bA k hk).1);obtain⟨bD,bE,a8⟩:=bk Bw;have hz:=a8)
            refine tK hK fun hHeld=>?_
            clear hK K;refine(tR [12])<|tL fun K hK=>?_
            (go_simp;go_at_call 225;go_must (refine(fL.out _ _ _ (h.TW (B7.tr Bw)) (bB.rd aC (by decide))).mono ?_;rintro e wX ⟨j4,c12,rfl,oR,a6⟩;obtain⟨j5,p1,p2,p3⟩:=oR;have bU:=(B7.tr Bw).size;rw[<-p2]at p1⊢;obtain⟨bD,bE,a8⟩:=bkn a6 W5.heap.size hz;have hz:=a8;have Bw:=Bw.tr a6))
            refine tK hK fun hHeld=>?_
            clear hK K;refine(tR [13])<|tL fun K hK=>?_
            (refine qP pX (B7.tr Bw).size (u1.below Bw) (p1.rd Ck (by decide)) (qQ p2 p3) (by rw[u2,p2];have:=bF.out;omega) (by rw[u2,p2];unfold maxLen;have:=bF.out;omega) rfl _ _ rfl rfl rfl ?_;intro fW c13 wX cT a7;have oF:=dU.app (by decide) (u1.below Bw) u2 (fun k u x a b=>(u3 k u x a b).below Bw) p2 (fun k u x a b=>(p3 k u x a b).mono bU) cT a7;have BF:=Below.app (B7.tr Bw) (u1.below Bw) (Ue _) a7;have cM:=(bY.bl Bw).grown a7 (fun e=>(u1.below Bw).apart (bY.bl Bw) (by decide) e.symm);have bW:=(b8.bl Bw).grown a7 (fun e=>(u1.below Bw).apart (b8.bl Bw) (by decide) e.symm);have fX:=aD.lX (cR.below Bw) (u1.below Bw) (by decide) a7;have zF:=cM.c1;have cU:=bW.cell 0;have cV:=bW.cell 1;have cW:=bW.cell 2;simp only[Ua,Ub,Uc]at cU cV cW;rw[u2,p2]at oF⊢)
            refine tK hK fun hHeld=>?_
            clear hK K;refine(tW 14)<|tD ?_
            all_goals
              go_wp2;go_roundw
              case rel=>exact⟨_,bC++R1,fW,c13,by go_num,by rw[TZ],by rw[TZ];exact oF,fX,BF,cM,TY (by first|exact .inr (.inl ⟨rfl,Ho.out⟩)|exact .inr (.inr ⟨rfl,Ho.out⟩))⟩
              case measure=>simp[intOf]
          . have l6 : decide ((0 : Int) <= D) = true := decide_eq_true (by omega);have e9:(0:Int)<=D:=(by omega);have hR:R1=[]:=by rw[kA.out];exact yD (by rw[cF.out,decide_eq_false cS];rfl)
            subst hR;go_wp2;go_roundw
            case rel=>exact⟨_,bC,_,_,by go_num,rfl,e8,cR,B7,bY,TY (by first|exact .inr (.inl ⟨rfl,by have:=Ho.out;rwa [T9]at this⟩)|exact .inr (.inr ⟨rfl,by have:=Ho.out;rwa [T9]at this⟩))⟩
            case measure=>simp[intOf]
    . have Ho : Hid (bC ++ R2 = R1 ++ R2) := TY (by rw [ho]);have gB:Hid ((bC.length:Int)+R2.length<=most):=TY (by rw[ho];have:=mB.out;have:=HT.out;omega);by_cases kO:(bC.length:Int)<most
      . have gL:decide ((bC.length:Int)<most)=true:=decide_eq_true kO;clear HJ ho;obtain⟨W,hW⟩:=TV wr;rw[<-hW]at cY cN B2 gA⊢;clear hW;have q1:=cN.slot eG (by decide) gK 0 (.int .i64 x) (by rw[j9.out];rfl);have q2:=cN.slot eG (by decide) gK 1 (.int .i64 y) (by rw[j9.out];rfl);rw[Uf,Nat.add_zero]at q1;rw[Uf,Ud]at q2;have eL:=cN.at_.2.2;have Bw:Below W.heap.size W W.drew:=(Below.refl _ _).drew;have hz:W.heap.size<=W.drew.heap.size:=(by simp);obtain⟨sx,sy,cQ⟩:∃sx sy,sec ((x:Int),(y:Int),true)=(sx,sy):=⟨_,_,rfl⟩;have cD:=TY cQ;clear cQ;go_wp2_with fail
        refine rB (fun w'=>w'.cell? ⟨gC,0,none⟩=some (.int .i64 x)/\w'.cell? ⟨gC,1,none⟩=some (.int .i64 y)) fun hHeld=>(tW 0)<|(tW 1)<|(tW 2)<|(tW 3)<|(tW 4)<|(tW 5)<|(tW 6)<|(tW 7)<|(tW 8)<|(tW 9)<|(tW 10)<|(tR [11])<|tL fun K hK=>?_
        (refine nW rfl 99 _ rfl Tryz.zeroValue99 ?_;intro gN wX bN a6 lO lR l4;have oG:W.heap.size<=gN:=(by omega);obtain⟨bD,bE,a8⟩:=bkn a6 W.heap.size hz;replace hz:=a8;replace Bw:=Bw.tr a6)
        refine tK hK fun hHeld=>?_
        clear hK K;refine(tR [12])<|tL fun K hK=>?_
        (refine aL rfl 99 _ _ rfl gN #[.int .i64 x,.int .i64 y,.bool true] rfl rfl _ _ bN (by kernel_rfl) rfl (by simp[Ug]) ?_;intro wX cH gM;replace Bw:=Bw.grown gM hz (fun k hk=>by injection hk with hk;subst hk;omega);obtain⟨bD,bE,a8⟩:=bk Bw)
        refine tK hK fun hHeld=>?_
        clear hK K;refine tD ?_;clear bD bE;obtain⟨V,hV⟩:=TV wX;rw[<-hV]at Bw cH⊢;clear hV hz;have gO:=cY.below Bw;have gP:=cN.below Bw;have B3:=B2.tr Bw;have eM:=gA.bl Bw;clear cY cN B2 gA q1 q2 Bw gM hHeld;obtain⟨cI,cJ,cK⟩:=cH.n3;go_wp2_with fail
        refine(yK x y true sx sy cD _).mono ?_;rintro e w2 ⟨rfl,hb2⟩;have dL:=(gO.below hb2).alloc (.cells #[.int .i64 sx,.int .i64 sy] 83);have dT:=(gP.below hb2).alloc (.cells #[.int .i64 sx,.int .i64 sy] 83);have B4:=(B3.tr hb2).al (.cells #[.int .i64 sx,.int .i64 sy] 83);have eA:=(eM.bl hb2).alloc (.cells #[.int .i64 sx,.int .i64 sy] 83);have eC:=(cH.bl hb2).alloc (.cells #[.int .i64 sx,.int .i64 sy] 83);have eE:=Blk.aZ w2 83 #[.int .i64 sx,.int .i64 sy];have gQ:=(cH.bl hb2).lt;have gR:=(eM.bl hb2).lt;clear gO gP B3 eM cI cJ cK;obtain⟨cI,cJ,cK⟩:=(cH.bl hb2).n3;go_upto_region 10 with(fail)
        obtain⟨W4,gS⟩:=TV (w2.alloc (.cells #[.int .i64 sx,.int .i64 sy] 83));obtain⟨gY,bJ⟩:=TV w2.heap.size;rw[<-gS]at dL dT B4 eA eC eE⊢;rw[<-bJ]at eE⊢;clear gS bJ cH hb2 cI cJ cK gQ gR;obtain⟨cI,cJ,cK⟩:=eC.n3;rcases b6:aI ((x:Int),(y:Int),true)with _|_
        . have hR : R2 = [] := by rw [kB.out]; exact yD (KJ b6)
          have CD:∀w,Calls prog 172 #[.agg #[.int .i64 x,.int .i64 y,.bool true]] w (Ret (.bool false) w):=fun w=>by have:=dC x y true w;rw[b6]at this;exact this
          clear b6;go_wp2_with fail
          refine(CD _).mono ?_;rintro e w3 ⟨rfl,hb3⟩;subst hR;go_wp2;go_roundw
          case rel=>exact⟨_,bC,_,_,by go_num,rfl,dL.below hb3,dT.below hb3,B4.tr hb3,eA.bl hb3,TY (by first|exact .inr (.inl ⟨rfl,by have:=Ho.out;rwa [T9]at this⟩)|exact .inr (.inr ⟨rfl,by have:=Ho.out;rwa [T9]at this⟩))⟩
          case measure=>simp[intOf]
        . have CD : ∀ w, Calls prog 172 #[.agg #[.int .i64 x, .int .i64 y, .bool true]] w (Ret (.bool true) w) := fun w => by have := dC x y true w; rw [b6] at this; exact this
          have hI:=oD.out b6;have cE:=(dR b6).2;rw[cD.out]at cE;have gT:(nZ rows head).testBit (eY ((x:Int),(y:Int),true))=true:=by rw[<-fY.out,hI];exact Hl.out.2.1
          have b7:=Cj j8.out head b6 gT;rw[<-fY.out,cD.out]at b7;obtain⟨q,hq⟩:=TV (jZ rows (sx,sy));obtain⟨D,hD⟩:=TV (qC head (sx,sy));have CH:∀(w':World),Below w.heap.size w w'->Calls prog 175 #[.agg #[.slice A rows.length c],.agg #[.int .i64 sx,.int .i64 sy]] w' (Ret (.bool q) w'):=fun w' hb=>by rw[hq];exact qD _ rows sx sy w' (h.TW hb) cE
          have CA:∀(w':World),Below w.heap.size w w'->Calls prog 120 #[.slice Ah head.length ch,.agg #[.int .i64 sx,.int .i64 sy]] w' (Ret (.int .i64 D) w'):=fun w' hb=>by rw[hD];exact yS _ head sx sy w' (hu.TW hb)
          rw[<-hq,<-hD]at b7;have gW:=TY b6;have cF:=TY b7;have l5:=TY hI;clear b6 hI cE gT b7 hq hD;go_wp2_with fail
          refine(CD _).mono ?_;rintro e w3 ⟨rfl,hb3⟩;have gX:=dL.below hb3;have hE:=dT.below hb3;have B5:=B4.tr hb3;have eN:=eA.bl hb3;have hP:=eC.bl hb3;have eP:=eE.bl hb3;clear dL dT B4 eA eC eE hb3 cI cJ cK;have hZ:=eN.c1;obtain⟨eR,eW⟩:=eP.n2;go_wp2_with fail
          refine(CH _ B5).mono ?_;rintro e w4 ⟨rfl,hb4⟩;have e5:=gX.below hb4;have e6:=hE.below hb4;have B6:=B5.tr hb4;have e7:=eN.bl hb4;have h9:=hP.bl hb4;have j0:=eP.bl hb4;clear gX hE B5 eN hP eP hb4 hZ eR eW;cases q
          . have hR : R2 = [] := by rw [kB.out]; exact yD (by rw [cF.out]; rfl)
            subst hR;go_wp2;go_roundw
            case rel=>exact⟨_,bC,_,_,by go_num,rfl,e5,e6,B6,e7,TY (by first|exact .inr (.inl ⟨rfl,by have:=Ho.out;rwa [T9]at this⟩)|exact .inr (.inr ⟨rfl,by have:=Ho.out;rwa [T9]at this⟩))⟩
            case measure=>simp[intOf]
          . skip;obtain⟨eR,eW⟩:=j0.n2;go_wp2_with fail
            refine(CA _ B6).mono ?_;rintro e w5 ⟨rfl,cL⟩;have e8:=e5.below cL;have cR:=e6.below cL;have B7:=B6.tr cL;have bY:=e7.bl cL;have b8:=h9.bl cL;clear e5 e6 B6 e7 h9 j0 cL eR eW;by_cases cS:D<0
            . have l6 : decide ((0 : Int) <= D) = false := decide_eq_false (by omega);have e9:¬(0:Int)<=D:=(by omega);have cP:eU s ((x:Int),(y:Int),true)=true:=by rw[cF.out,decide_eq_true cS];rfl
              have hR:R2=eB (dE s (aG ((x:Int),(y:Int),true))) (head++[((x:Int),(y:Int),true)]):=(by rw[kB.out,KM cP]);have eI:=Ci j8.out head gW.out;rw[<-fY.out]at eI;rw[<-eI]at hR;have bK:=Aw (j:=j) hs Hl.out gW.out l5.out;rw[<-eI]at bK;have j1:=congrArg List.length hR;rw[uE]at j1;have hwr:IntKind.i64.wrap (most-(bC.length:Int))=most-(bC.length:Int):=IntWalk.i64_in _ (by omega);have fD:=fun(v u:Value) (w:World) (k1:Rd 1 bG w v rows) (k2:Rd 3 aU w u (head++[((x:Int),(y:Int),true)]))=>mA.out (i+1) (by omega) (by omega) (head++[((x:Int),(y:Int),true)]) (most-(bC.length:Int)) v u w k1 k2 bK (by rw[TZ,List.length_singleton];omega) (by have:=gB.out;omega) (by omega) (by omega)
              rw[<-hR]at fD;have fL:=TY fD;have H8:Hid (head.length*24<=140737488355328):=TY (by omega);have HM:Hid (head.length<=maxLen):=TY (by unfold maxLen;omega);have fN:Hid ((head.length+1)*24<=140737488355328):=TY (by omega);have fO:Hid (head.length+1<=maxLen):=TY (by unfold maxLen;omega);have bF:Hid (bC.length+R2.length<=300):=TY (by have:=gB.out;omega);clear cP hR eI bK j1 fD;go_upto_region 11 with(fail)
              obtain⟨W5,j2⟩:=TV w5;rw[<-j2]at e8 cR B7 bY b8⊢;clear j2;have hZ:=bY.c1;obtain⟨cI,cJ,cK⟩:=b8.n3;have gQ:=b8.lt;have gR:=bY.lt;obtain⟨us,u1,u2,u3⟩:=e8;have Bw:Below W5.heap.size W5 W5.drew:=(Below.refl _ _).drew;have hz:W5.heap.size<=W5.drew.heap.size:=(by simp);refine rB (fun w'=>w'.cell? ⟨w.heap.size,0,none⟩=some (.slice A rows.length c)/\w'.cell? ⟨gN,0,none⟩=some (.int .i64 x)/\w'.cell? ⟨gN,1,none⟩=some (.int .i64 y)/\w'.cell? ⟨gN,2,none⟩=some (.bool true)) fun hHeld=>(tW 0)<|(tW 1)<|(tW 3)<|(tW 5)<|(tW 8)<|(tW 9)<|(tW 10)<|(tW 11)<|(tR [2,6])<|tC (fun K hK=>?_) ?_
              (refine iA aK rfl rfl ?_;intro g5 wX b5 a6 fR fS eJ;have eK:W5.heap.size<=g5:=(by omega);(try replace b9:=b9.bl a6);obtain⟨bD,bE,a8⟩:=bkn a6 W5.heap.size hz;have hz:=a8;have Bw:=Bw.tr a6)
              refine tK hK fun hHeld=>?_
              clear hK K;refine(tR [4,6])<|tC (fun K hK=>?_) ?_;(refine iT aK aC aM b5 eK (hu.TW (B7.tr Bw)) H8.out HM.out rfl _ _ rfl rfl rfl ?_;intro A6 c6 wX bA a6 cA eJ;(try replace b9:=b9.bl a6);obtain⟨bD,bE,a8⟩:=bkn a6 W5.heap.size hz;have hz:=a8;have Bw:=Bw.tr a6)
              refine tK hK fun hHeld=>?_
              clear hK K;refine(tR [6])<|tL fun K hK=>?_
              (go_simp;obtain⟨wX,g9,bL,bO,b9,a6⟩:=Jo Bw 99 #[.int .i64 x,.int .i64 y,.bool true];(first|(rw[<-bL,<-bO])|(have cB:(W5.alloc (.cells #[.int .i64 x,.int .i64 y,.bool true] 99)).drew=wX:=bL.symm;have bJ:W5.heap.size=g9:=bO.symm;rw[cB,bJ];clear cB bJ));clear bL bO;(try replace b5:=b5.bl a6);(try replace bA:=bA.below a6);obtain⟨bD,bE,a8⟩:=bkn a6 W5.heap.size hz;have hz:=a8;have Bw:=Bw.tr a6)
              refine tK hK fun hHeld=>?_
              clear hK K;refine(tR [7])<|tL fun K hK=>?_
              (refine kH aK aC hz bA (((x:Int),(y:Int),true):Dm) (aM _) b9 fN.out fO.out rfl _ _ rfl rfl rfl ?_;intro j3 c10 wX bB bR;have Bw:=Bw.grown bR hz (fun k hk=>(World.ownsRow.lt bA k hk).1);obtain⟨bD,bE,a8⟩:=bk Bw;have hz:=a8)
              refine tK hK fun hHeld=>?_
              clear hK K;refine(tR [12])<|tL fun K hK=>?_
              (go_simp;go_at_call 225;go_must (refine(fL.out _ _ _ (h.TW (B7.tr Bw)) (bB.rd aC (by decide))).mono ?_;rintro e wX ⟨j4,c12,rfl,oR,a6⟩;obtain⟨j5,p1,p2,p3⟩:=oR;have bU:=(B7.tr Bw).size;rw[<-p2]at p1⊢;obtain⟨bD,bE,a8⟩:=bkn a6 W5.heap.size hz;have hz:=a8;have Bw:=Bw.tr a6))
              refine tK hK fun hHeld=>?_
              clear hK K;refine(tR [13])<|tL fun K hK=>?_
              (refine qP pX (B7.tr Bw).size (u1.below Bw) (p1.rd Ck (by decide)) (qQ p2 p3) (by rw[u2,p2];have:=bF.out;omega) (by rw[u2,p2];unfold maxLen;have:=bF.out;omega) rfl _ _ rfl rfl rfl ?_;intro fW c13 wX cT a7;have oF:=dU.app (by decide) (u1.below Bw) u2 (fun k u x a b=>(u3 k u x a b).below Bw) p2 (fun k u x a b=>(p3 k u x a b).mono bU) cT a7;have BF:=Below.app (B7.tr Bw) (u1.below Bw) (Ue _) a7;have cM:=(bY.bl Bw).grown a7 (fun e=>(u1.below Bw).apart (bY.bl Bw) (by decide) e.symm);have bW:=(b8.bl Bw).grown a7 (fun e=>(u1.below Bw).apart (b8.bl Bw) (by decide) e.symm);have fX:=aD.lX (cR.below Bw) (u1.below Bw) (by decide) a7;have zF:=cM.c1;have cU:=bW.cell 0;have cV:=bW.cell 1;have cW:=bW.cell 2;simp only[Ua,Ub,Uc]at cU cV cW;rw[u2,p2]at oF⊢)
              refine tK hK fun hHeld=>?_
              clear hK K;refine(tW 14)<|tD ?_
              rotate_left 1
              refine tL fun K hK=>?_
              (go_simp;obtain⟨wX,g9,bL,bO,b9,a6⟩:=Jo Bw 99 #[.int .i64 x,.int .i64 y,.bool true];(first|(rw[<-bL,<-bO])|(have cB:(W5.alloc (.cells #[.int .i64 x,.int .i64 y,.bool true] 99)).drew=wX:=bL.symm;have bJ:W5.heap.size=g9:=bO.symm;rw[cB,bJ];clear cB bJ));clear bL bO;(try replace b5:=b5.bl a6);(try replace bA:=bA.below a6);obtain⟨bD,bE,a8⟩:=bkn a6 W5.heap.size hz;have hz:=a8;have Bw:=Bw.tr a6)
              refine tK hK fun hHeld=>?_
              clear hK K;refine(tR [4])<|tL fun K hK=>?_
              (refine iT aK aC aM b5 eK (hu.TW (B7.tr Bw)) H8.out HM.out rfl _ _ rfl rfl rfl ?_;intro A6 c6 wX bA a6 cA eJ;(try replace b9:=b9.bl a6);obtain⟨bD,bE,a8⟩:=bkn a6 W5.heap.size hz;have hz:=a8;have Bw:=Bw.tr a6)
              refine tK hK fun hHeld=>?_
              clear hK K;refine(tR [7])<|tL fun K hK=>?_
              (refine kH aK aC hz bA (((x:Int),(y:Int),true):Dm) (aM _) b9 fN.out fO.out rfl _ _ rfl rfl rfl ?_;intro j3 c10 wX bB bR;have Bw:=Bw.grown bR hz (fun k hk=>(World.ownsRow.lt bA k hk).1);obtain⟨bD,bE,a8⟩:=bk Bw;have hz:=a8)
              refine tK hK fun hHeld=>?_
              clear hK K;refine(tR [12])<|tL fun K hK=>?_
              (go_simp;go_at_call 225;go_must (refine(fL.out _ _ _ (h.TW (B7.tr Bw)) (bB.rd aC (by decide))).mono ?_;rintro e wX ⟨j4,c12,rfl,oR,a6⟩;obtain⟨j5,p1,p2,p3⟩:=oR;have bU:=(B7.tr Bw).size;rw[<-p2]at p1⊢;obtain⟨bD,bE,a8⟩:=bkn a6 W5.heap.size hz;have hz:=a8;have Bw:=Bw.tr a6))
              refine tK hK fun hHeld=>?_
              clear hK K;refine(tR [13])<|tL fun K hK=>?_
              (refine qP pX (B7.tr Bw).size (u1.below Bw) (p1.rd Ck (by decide)) (qQ p2 p3) (by rw[u2,p2];have:=bF.out;omega) (by rw[u2,p2];unfold maxLen;have:=bF.out;omega) rfl _ _ rfl rfl rfl ?_;intro fW c13 wX cT a7;have oF:=dU.app (by decide) (u1.below Bw) u2 (fun k u x a b=>(u3 k u x a b).below Bw) p2 (fun k u x a b=>(p3 k u x a b).mono bU) cT a7;have BF:=Below.app (B7.tr Bw) (u1.below Bw) (Ue _) a7;have cM:=(bY.bl Bw).grown a7 (fun e=>(u1.below Bw).apart (bY.bl Bw) (by decide) e.symm);have bW:=(b8.bl Bw).grown a7 (fun e=>(u1.below Bw).apart (b8.bl Bw) (by decide) e.symm);have fX:=aD.lX (cR.below Bw) (u1.below Bw) (by decide) a7;have zF:=cM.c1;have cU:=bW.cell 0;have cV:=bW.cell 1;have cW:=bW.cell 2;simp only[Ua,Ub,Uc]at cU cV cW;rw[u2,p2]at oF⊢)
              refine tK hK fun hHeld=>?_
              clear hK K;refine(tW 14)<|tD ?_
              rotate_left 1
              refine tL fun K hK=>?_
              (go_simp;obtain⟨wX,g9,bL,bO,b9,a6⟩:=Jo Bw 99 #[.int .i64 x,.int .i64 y,.bool true];(first|(rw[<-bL,<-bO])|(have cB:(W5.alloc (.cells #[.int .i64 x,.int .i64 y,.bool true] 99)).drew=wX:=bL.symm;have bJ:W5.heap.size=g9:=bO.symm;rw[cB,bJ];clear cB bJ));clear bL bO;(try replace b5:=b5.bl a6);(try replace bA:=bA.below a6);obtain⟨bD,bE,a8⟩:=bkn a6 W5.heap.size hz;have hz:=a8;have Bw:=Bw.tr a6)
              refine tK hK fun hHeld=>?_
              clear hK K;refine(tR [2])<|tL fun K hK=>?_
              (refine iA aK rfl rfl ?_;intro g5 wX b5 a6 fR fS eJ;have eK:W5.heap.size<=g5:=(by omega);(try replace b9:=b9.bl a6);obtain⟨bD,bE,a8⟩:=bkn a6 W5.heap.size hz;have hz:=a8;have Bw:=Bw.tr a6)
              refine tK hK fun hHeld=>?_
              clear hK K;refine(tR [4])<|tL fun K hK=>?_
              (refine iT aK aC aM b5 eK (hu.TW (B7.tr Bw)) H8.out HM.out rfl _ _ rfl rfl rfl ?_;intro A6 c6 wX bA a6 cA eJ;(try replace b9:=b9.bl a6);obtain⟨bD,bE,a8⟩:=bkn a6 W5.heap.size hz;have hz:=a8;have Bw:=Bw.tr a6)
              refine tK hK fun hHeld=>?_
              clear hK K;refine(tR [7])<|tL fun K hK=>?_
              (refine kH aK aC hz bA (((x:Int),(y:Int),true):Dm) (aM _) b9 fN.out fO.out rfl _ _ rfl rfl rfl ?_;intro j3 c10 wX bB bR;have Bw:=Bw.grown bR hz (fun k hk=>(World.ownsRow.lt bA k hk).1);obtain⟨bD,bE,a8⟩:=bk Bw;have hz:=a8)
              refine tK hK fun hHeld=>?_
              clear hK K;refine(tR [12])<|tL fun K hK=>?_
              (go_simp;go_at_call 225;go_must (refine(fL.out _ _ _ (h.TW (B7.tr Bw)) (bB.rd aC (by decide))).mono ?_;rintro e wX ⟨j4,c12,rfl,oR,a6⟩;obtain⟨j5,p1,p2,p3⟩:=oR;have bU:=(B7.tr Bw).size;rw[<-p2]at p1⊢;obtain⟨bD,bE,a8⟩:=bkn a6 W5.heap.size hz;have hz:=a8;have Bw:=Bw.tr a6))
              refine tK hK fun hHeld=>?_
              clear hK K;refine(tR [13])<|tL fun K hK=>?_
              (refine qP pX (B7.tr Bw).size (u1.below Bw) (p1.rd Ck (by decide)) (qQ p2 p3) (by rw[u2,p2];have:=bF.out;omega) (by rw[u2,p2];unfold maxLen;have:=bF.out;omega) rfl _ _ rfl rfl rfl ?_;intro fW c13 wX cT a7;have oF:=dU.app (by decide) (u1.below Bw) u2 (fun k u x a b=>(u3 k u x a b).below Bw) p2 (fun k u x a b=>(p3 k u x a b).mono bU) cT a7;have BF:=Below.app (B7.tr Bw) (u1.below Bw) (Ue _) a7;have cM:=(bY.bl Bw).grown a7 (fun e=>(u1.below Bw).apart (bY.bl Bw) (by decide) e.symm);have bW:=(b8.bl Bw).grown a7 (fun e=>(u1.below Bw).apart (b8.bl Bw) (by decide) e.symm);have fX:=aD.lX (cR.below Bw) (u1.below Bw) (by decide) a7;have zF:=cM.c1;have cU:=bW.cell 0;have cV:=bW.cell 1;have cW:=bW.cell 2;simp only[Ua,Ub,Uc]at cU cV cW;rw[u2,p2]at oF⊢)
              refine tK hK fun hHeld=>?_
              clear hK K;refine(tW 14)<|tD ?_
              all_goals
                go_wp2;go_roundw
                case rel=>exact⟨_,bC++R2,fW,c13,by go_num,by rw[TZ],by rw[TZ];exact oF,fX,BF,cM,TY (by first|exact .inr (.inl ⟨rfl,Ho.out⟩)|exact .inr (.inr ⟨rfl,Ho.out⟩))⟩
                case measure=>simp[intOf]
            . have l6 : decide ((0 : Int) <= D) = true := decide_eq_true (by omega);have e9:(0:Int)<=D:=(by omega);have hR:R2=[]:=by rw[kB.out];exact yD (by rw[cF.out,decide_eq_false cS];rfl)
              subst hR;go_wp2;go_roundw
              case rel=>exact⟨_,bC,_,_,by go_num,rfl,e8,cR,B7,bY,TY (by first|exact .inr (.inl ⟨rfl,by have:=Ho.out;rwa [T9]at this⟩)|exact .inr (.inr ⟨rfl,by have:=Ho.out;rwa [T9]at this⟩))⟩
              case measure=>simp[intOf]
      . have gL:decide ((bC.length:Int)<most)=false:=decide_eq_false kO;have hR:R2=[]:=List.eq_nil_of_length_eq_zero (by have:=gB.out;omega);obtain rfl:bC=R1:=ho;subst hR;clear HJ Ho;go_wp2;go_ret;first|exact⟨A7,c7,rfl,cY,B2⟩|exact⟨A7,c7,by rw[T9],by rw[T9];exact cY,B2⟩
    . obtain rfl:bC=R1++R2:=ho;clear HJ;go_wp2;go_ret;exact⟨A7,c7,rfl,cY,B2⟩
theorem LM {rows:List Int} (hr:dY rows):∀j,j<=64->Jp rows j:=by
 have key:∀n j,j<=64->64-j<=n->Jp rows j:=by
  intro n;induction n with
  |zero=>intro j h1 h2;exact EL hr h1 (fun j' a b=>by omega)
  |succ n ih=>intro j h1 h2;exact EL hr h1 (fun j' a b=>ih j' b (by omega))
 exact fun j hj=>key (64-j) j hj (Ue _)
theorem uU (v:Value) (rows:List Int) (w:World) (h:Rd 1 bG w v rows):Calls prog 181 #[.agg #[v]] w (EA (aH rows) w):=by
 obtain⟨A,c,rfl,hc,hm⟩:=h.form;have hA:=(Below.refl w.heap.size w).al (.cells #[.slice A rows.length c] 26);have bX:=Blk.aZ w 26 #[.slice A rows.length c];have hlen:=Az rows;obtain⟨R,hR⟩:=TV (aH rows);rw[<-hR]at hlen⊢;unfold aH at hR;obtain⟨n,hn⟩:=TV (aY rows);have C:∀(u:Value) (w:World),Rd 1 bG w u rows->Calls prog 219 #[.agg #[u]] w (Ret (.int .i64 n) w):=fun u w k1=>by rw[hn];exact wM u rows w k1
 obtain⟨i,hi⟩:=TV (inB n 1 300);have CI:∀(w:World),Calls prog 65 #[.int .i64 n,.int .i64 1,.int .i64 300] w (Pure (.bool i) w):=fun w=>by rw[hi];exact iY n 1 300 w
 rw[<-hn,<-hi]at hR;cases i
 . obtain rfl : R = [] := by rw [hR]; rfl
   clear hR hi hn hlen;go_enter func181,ntmps181
   go_wp2_with fail
   refine(C _ _ (h.TW hA)).mono ?_;rintro e w1 ⟨rfl,hb1⟩;go_wp2_with (go_at_call 65;(with_reducible refine(CI _).mono ?_);rintro e w' ⟨rfl,rfl⟩)
   go_ret;exact⟨_,_,rfl,⟨[],(eZ w1 (E:=27) (size:=1) (enc:=eV)).mono (hA.tr hb1).size,rfl,fun k u x hx=>by simp at hx⟩,(hA.tr hb1).al _⟩
 . obtain rfl : R = jD (setOf rows) := by rw [hR]; rfl
   have hr:bQ rows=true:=by
    rcases q:bQ rows with _|_
    . have h1 : 1 <= n /\ n <= 300 := by simpa [inB] using hi.symm
      exact absurd (show aY rows=0 by unfold aY;rw[q];rfl) (by omega)
    . rfl
   have a6:=aN.1 hr;have h1:1<=n/\n<=300:=(by simpa[inB]using hi.symm);have CL:=fun(a b:Value) (w:World) (k1:Rd 1 bG w a rows) (k2:Rd 3 aU w b [])=>LM a6 0 (by decide) [] 300 a b w k1 k2 (fun k hk=>absurd hk (Nat.not_lt_zero k)) (by simp) (by rw[Ey a6];omega) (by decide) (by decide)
   rw[Ey a6,Kr]at CL;obtain⟨T,hT⟩:=TV (jD (setOf rows));rw[<-hT]at CL⊢;clear hR hi hn hr hT hlen a6 h1;go_enter func181,ntmps181
   go_wp2_with fail
   refine(C _ _ (h.TW hA)).mono ?_;rintro e w1 ⟨rfl,hb1⟩;have B1:=(hA.tr hb1).al (.cells #[] 99);have z0:=(bX.bl hb1).c1;have hl:=(bX.bl hb1).lt;have rE:=(eZ w1 (E:=99) (size:=3) (enc:=aX)).rd aC (by decide);go_wp2_with (first|(go_at_call 65;(with_reducible refine(CI _).mono ?_);rintro e w' ⟨rfl,rfl⟩)|(go_at_call 225;go_must (refine(CL _ _ _ (h.TW B1) rE).mono ?_;rintro e w3 ⟨A3,c3,rfl,oL,hb3⟩)))
   go_ret;have hw:=B1.size;obtain⟨us,p1,p2,p3⟩:=oL;exact⟨A3,c3,rfl,⟨us,p1.mono hw,p2,fun k u x a b=>(p3 k u x a b).mono hw⟩,B1.tr hb3⟩
end Go.Proofs.YtjijonhkofhikaaGreatDoor
