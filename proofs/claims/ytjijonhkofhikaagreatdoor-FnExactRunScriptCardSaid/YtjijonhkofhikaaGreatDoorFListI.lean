import Derived.Test.YtjijonhkofhikaaGreatDoorFFirstI
import Derived.Laws.EntriesVeiled
open _root_.List renaming length_append->Tm,getElem?_toArray->Tn,getElem?_cons_zero->Tp,getElem?_cons_succ->Tq,append_nil->Tt
open _root_.Nat renaming le_refl->Tu
open _root_.Go.Value renaming oneCell'->Tv
open _root_.Go.Proofs.Tryz (prog func231 ntmps231 func146 ntmps146)
set_option linter.unusedVariables false
set_option linter.unusedSimpArgs false
set_option maxHeartbeats 4000000
set_option maxRecDepth 100000
namespace Go.Proofs.YtjijonhkofhikaaGreatDoor
open Go.ChangeShapes Go.WideShapes Go.ChangeAt Go.RowKit
theorem PK {W0 w:World} {gc gl gr go:Nat} {A O:Option Addr} {c oc:Nat} {head:List Dm} {ls:List (List Dm)} (st:LSt W0 w gc gl gr go (.slice A head.length c) head (.slice O ls.length oc) ls) (hh:head.length<=64) (hl:ls.length<300):
 Calls prog 205 #[.slice A head.length c,.pointer (some ⟨go,0,none⟩)] w (fun e w'=>e= .returned (.tuple #[])/\∃O' bD,LSt W0 w' gc gl gr go (.slice A head.length c) head (.slice O' (ls.length+1) bD) (ls++[head])/\Fr (.slice A head.length c) w w'):=by
 have Bw:Below w.heap.size w w.drew:=(Below.refl _ _).drew;have st:=st.bel Bw;have hz:w.heap.size<=w.drew.heap.size:=(by simp);have zo:=st.bo.c1;have H8:Hid ((ls.length+1)*24<=140737488355328):=Tk (by omega);have HM:Hid (ls.length+1<=maxLen):=Tk (by unfold maxLen;omega);have hs:Small head.length:=by unfold Small;omega
 go_enter Tryz.func205,Tryz.ntmps205
 refine rB (fun _=>True) fun hHeld=>(tW 1)<|(tR [0,2])<|tC (fun K hK=>?_) ?_
 go_simp
 refine tK hK fun hHeld=>?_
 clear hK K;refine(tR [2])<|tL fun K hK=>?_
 (go_simp;go_at_call 90;go_must (refine(dH _ head _ (st.oh.rd aC (by decide)) hs).mono ?_;rintro e wX ⟨D,d,rfl,oU,a8⟩;have a6:=st.bel a8;have zo:=a6.bo.c1))
 refine tK hK fun hHeld=>?_
 clear hK K;refine(tR [3])<|tL fun K hK=>?_
 (go_simp;have zo:=(a6.alloc (.cells #[.slice D head.length d] 27)).bo.c1)
 refine tK hK fun hHeld=>?_
 clear hK K;refine(tR [4])<|tL fun K hK=>?_
 (obtain⟨us,u1,u2,u3⟩:=a6.ol;refine Bq (enc:=eV) qB Cb wX a6.B.size u1 (.slice D head.length d) (by simp[eV,Tv]) rfl (by rw[u2];exact H8.out) (by rw[u2];exact HM.out) rfl _ _ rfl rfl rfl ?_;intro A4 c4 w4 o4 g4 d4;rw[u2]at o4 d4⊢;have a7:=a6.bo.grown g4 (fun e=>u1.apart a6.bo (by decide) e.symm);have bC:=a7.c1;obtain⟨bA,bB⟩:=st.add a8 oU u1 u2 u3 g4 o4 (d4.imp id (fun⟨g,e,hg⟩=>⟨g,e,by omega⟩)))
 refine tK hK fun hHeld=>?_
 clear hK K;refine(tR [5])<|tL fun K hK=>?_
 (have zf:=fun j=>a7.frozen j;go_simp)
 refine tK hK fun hHeld=>?_
 clear hK K;refine tD ?_
 rotate_left 1
 refine tL fun K hK=>?_
 (go_simp;go_at_call 90;go_must (refine(dH _ head _ (st.oh.rd aC (by decide)) hs).mono ?_;rintro e wX ⟨D,d,rfl,oU,a8⟩;have a6:=st.bel a8;have zo:=a6.bo.c1))
 refine tK hK fun hHeld=>?_
 clear hK K;refine(tR [0,3])<|tC (fun K hK=>?_) ?_;go_simp
 refine tK hK fun hHeld=>?_
 clear hK K;refine(tR [3])<|tL fun K hK=>?_
 (go_simp;have zo:=(a6.alloc (.cells #[.slice D head.length d] 27)).bo.c1)
 refine tK hK fun hHeld=>?_
 clear hK K;refine(tR [4])<|tL fun K hK=>?_
 (obtain⟨us,u1,u2,u3⟩:=a6.ol;refine Bq (enc:=eV) qB Cb wX a6.B.size u1 (.slice D head.length d) (by simp[eV,Tv]) rfl (by rw[u2];exact H8.out) (by rw[u2];exact HM.out) rfl _ _ rfl rfl rfl ?_;intro A4 c4 w4 o4 g4 d4;rw[u2]at o4 d4⊢;have a7:=a6.bo.grown g4 (fun e=>u1.apart a6.bo (by decide) e.symm);have bC:=a7.c1;obtain⟨bA,bB⟩:=st.add a8 oU u1 u2 u3 g4 o4 (d4.imp id (fun⟨g,e,hg⟩=>⟨g,e,by omega⟩)))
 refine tK hK fun hHeld=>?_
 clear hK K;refine(tR [5])<|tL fun K hK=>?_
 (have zf:=fun j=>a7.frozen j;go_simp)
 refine tK hK fun hHeld=>?_
 clear hK K;refine tD ?_
 rotate_left 1
 refine tL fun K hK=>?_
 (go_simp;have zo:=(a6.alloc (.cells #[.slice D head.length d] 27)).bo.c1)
 refine tK hK fun hHeld=>?_
 clear hK K;refine(tR [0])<|tL fun K hK=>?_
 go_simp
 refine tK hK fun hHeld=>?_
 clear hK K;refine(tR [4])<|tL fun K hK=>?_
 (obtain⟨us,u1,u2,u3⟩:=a6.ol;refine Bq (enc:=eV) qB Cb wX a6.B.size u1 (.slice D head.length d) (by simp[eV,Tv]) rfl (by rw[u2];exact H8.out) (by rw[u2];exact HM.out) rfl _ _ rfl rfl rfl ?_;intro A4 c4 w4 o4 g4 d4;rw[u2]at o4 d4⊢;have a7:=a6.bo.grown g4 (fun e=>u1.apart a6.bo (by decide) e.symm);have bC:=a7.c1;obtain⟨bA,bB⟩:=st.add a8 oU u1 u2 u3 g4 o4 (d4.imp id (fun⟨g,e,hg⟩=>⟨g,e,by omega⟩)))
 refine tK hK fun hHeld=>?_
 clear hK K;refine(tR [5])<|tL fun K hK=>?_
 (have zf:=fun j=>a7.frozen j;go_simp)
 refine tK hK fun hHeld=>?_
 clear hK K;refine tD ?_
 all_goals
   go_wp2;go_end0
   exact⟨rfl,A4,c4,bA,(Fr.bl Bw).tr bB (Nx.refl _ _)⟩
def SS (W0 w:World) (gc gl gr go:Nat) (v:Value) (head:List Dm) (ls:List (List Dm)) (e:Ending) (w':World):Prop:=
 e= .returned (.tuple #[])/\∃v' o',LSt W0 w' gc gl gr go v' head o' ls/\Fr v w w'/\Nx w v v'
def Jf (W0:World) (gc gl gr go:Nat) (j:Nat):Prop:=∀(s:Nat) (head:List Dm) (ls:List (List Dm)) (v o:Value) (w:World),s<U64->(∀k,k<j->s.testBit k=false)->head.length<=j->ls.length+(jZ s).length<=300->LSt W0 w gc gl gr go v head o ls->
  Calls prog 231 #[.int .u64 s,.pointer (some ⟨gc,0,none⟩),.pointer (some ⟨gl,0,none⟩),.pointer (some ⟨gr,0,none⟩)] w (SS W0 w gc gl gr go v head (ls++dZ s head))
def GJ (s i:Nat) (head:List Dm) (d:Dm):List (List Dm):=if eY s d then dZ (dE s (aG d)) (head++[d])else[]
theorem PL {s i:Nat} (hs:s<U64) (hl:sK s i) (head:List Dm):dZ s head=GJ s i head (eT i)++GJ s i head (fT i):=Gv hs hl head
theorem ED {s i:Nat} {head:List Dm} {d:Dm} (h:eY s d=false):GJ s i head d=[]:=by unfold GJ;rw[h];rfl
theorem KD {s i:Nat} {head:List Dm} {d:Dm} (h:eY s d=true):GJ s i head d=dZ (dE s (aG d)) (head++[d]):=by unfold GJ;rw[if_pos h]
theorem MW {s:Nat} {d:Dm} (h:aI d=false):eY s d=false:=by unfold eY;rw[h];rfl
theorem KE {s:Nat} {d:Dm} (h:¬s&&&aG d=aG d):eY s d=false:=by unfold eY;rw[decide_eq_false h,Bool.and_false]
theorem KF {s:Nat} {d:Dm} (h:aI d=true) (h2:s&&&aG d=aG d):eY s d=true:=by unfold eY;rw[h,decide_eq_true h2];rfl
theorem EE {W0:World} {gc gl gr go:Nat} {j:Nat} (hj:j<=64) (IH:∀j',j<j'->j'<=64->Jf W0 gc gl gr go j'):Jf W0 gc gl gr go j:=by
 intro s head ls v o w hs cQ hh eJ st;obtain⟨A,c,rfl,hc,hm⟩:=st.oh.form;obtain⟨O,oc,rfl,j3,j4⟩:=st.ol.ll.form;by_cases h0:s=0
 . subst h0;have ht:dZ 0 head=[head]:=Gu head;have hl:ls.length<300:=by rw[Bp]at eJ;simp at eJ;omega
   rw[ht];clear ht eJ cQ;have zc:=st.bc.c1;have zl:=st.bl.c1;have fN:head.length<=64:=(by omega);go_enter func231,ntmps231
   go_wp2_with (go_at_call 205;go_must (refine(PK st fN hl).mono ?_;rintro e w1 ⟨rfl,O1,j5,e8,fD⟩))
   go_end0
   exact⟨rfl,_,_,e8,fD,Nx.refl _ _⟩
 . obtain⟨i,hl⟩:=xB hs h0;have j6:=QA hl cQ;have hi:=hl.1;obtain⟨x,hx⟩:=Ti (i%8);obtain⟨y,hy⟩:=Ti (i/8);have hs0:((s:Int)==0)=false:=by rw[beq_eq_false_iff_ne];omega
   have hrt:eT i=((x:Int),(y:Int),false):=by unfold eT;rw[<-hx,<-hy]
   have fO:fT i=((x:Int),(y:Int),true):=by unfold fT;rw[<-hx,<-hy]
   have fL:=PL hs hl head;rw[hrt,fO]at fL
   have gQ:(GJ s i head ((x:Int),(y:Int),false)).length+(GJ s i head ((x:Int),(y:Int),true)).length=(jZ s).length:=by
    have:=congrArg List.length fL;rw[uH,Tm]at this;omega
   have gR:aI ((x:Int),(y:Int),false)=true->fC ((x:Int),(y:Int),false)=i:=fun q=>by rw[<-hrt]at q⊢;exact MG q hi
   have gS:aI ((x:Int),(y:Int),true)=true->fC ((x:Int),(y:Int),true)=i:=fun q=>by rw[<-fO]at q⊢;exact MH q hi
   have fR:Hid (ls++dZ s head=(ls++GJ s i head ((x:Int),(y:Int),false))++GJ s i head ((x:Int),(y:Int),true)):=Tk (by rw[fL,List.append_assoc]);have Hl:=Tk hl;have Hx:=Tk hx;have Hy:=Tk hy;have h9:=Tk gR;have j0:=Tk gS;have gT:=Tk IH;have fS:=Tk gQ;have gW:=Tk eJ;obtain⟨R1,fW⟩:=Ti (GJ s i head ((x:Int),(y:Int),false));obtain⟨R2,fX⟩:=Ti (GJ s i head ((x:Int),(y:Int),true));rw[<-fW,<-fX]at fR fS;rw[fR.out];have fY:=Tk fW;have gA:=Tk fX;clear h0 cQ hl hx hy hrt fO fL gQ gR gS IH eJ fW fX fR;go_enter func231,ntmps231
   go_wp2_with fail
   refine(EC s i x y _ hs Hl Hx Hy).mono ?_;rintro e w1 ⟨rfl,hb1⟩;have e8:=((st.bel hb1).alloc (.cells #[.int .i64 x,.int .i64 y] 83)).alloc (.cells #[.bool false,.bool true] 4);have gF:=(Blk.aX w1 83 #[.int .i64 x,.int .i64 y]).alloc (.cells #[.bool false,.bool true] 4);have gK:=Blk.gI (w1.alloc (.cells #[.int .i64 x,.int .i64 y] 83)) 4 #[.bool false,.bool true] (w1.heap.size+1) (by simp);have fD:Fr (.slice A head.length c) w ((w1.alloc (.cells #[.int .i64 x,.int .i64 y] 83)).alloc (.cells #[.bool false,.bool true] 4)):=Fr.bl ((hb1.al _).al _);go_wp2_with fail
   obtain⟨gC,gX⟩:=Ti w1.heap.size;obtain⟨gB,gY⟩:=Ti (w1.heap.size+1);rw[<-gY]at gK⊢;rw[<-gX]at gF⊢;clear gX gY st;go_loopw [18] (fun j1 wr=>∃(J:Int) (A1 O1:Option Addr) (c1 o1:Nat) (bE:List (List Dm)),j1= .int .i64 J/\LSt W0 wr gc gl gr go (.slice A1 head.length c1) head (.slice O1 bE.length o1) bE/\Fr (.slice A head.length c) w wr/\Nx w (.slice A head.length c) (.slice A1 head.length c1)/\Blk wr gC 83 #[.int .i64 x,.int .i64 y]/\Blk wr gB 4 #[.bool false,.bool true]/\Hid ((J=0/\bE=ls)∨(J=1/\bE=ls++R1)∨(J=2/\bE=(ls++R1)++R2))) (fun i _=>2-(intOf i).toNat)
   case atStart=>exact⟨0,_,_,_,_,ls,rfl,e8,fD,Nx.refl _ _,gF,gK,Tk (.inl ⟨rfl,rfl⟩)⟩
   case round=>
    obtain⟨J,A1,O1,c1,o1,bE,rfl,cI,cR,bM,eI,cS,HJ⟩:=hrel;clear e8 fD gF gK;have gL:=cS.cell 0;have gM:=cS.cell 1;simp only[Tn,Tp,Tq]at gL gM;obtain⟨hE,hP⟩:=eI.n2;have hBl:=cS.lt;have hZ:=eI.lt;rcases HJ.out with⟨rfl,ho⟩|⟨rfl,ho⟩|⟨rfl,ho⟩
    . have Ho:Hid (bE=ls):=Tk ho;have gN:Hid (bE.length+R1.length<=300):=Tk (by rw[ho];have:=fS.out;have:=gW.out;omega);clear HJ ho;have j2:=cI.bl.lt;have hap:(Value.slice A1 head.length c1).ownBlock≠some wr.heap.size:=fun e=>by have:=(World.ownsRow.lt cI.oh _ e).2;omega
      have bR:=cI.alloc (.cells #[.int .i64 x,.int .i64 y,.bool false] 99);have bS:=eI.alloc (.cells #[.int .i64 x,.int .i64 y,.bool false] 99);have bU:=cS.alloc (.cells #[.int .i64 x,.int .i64 y,.bool false] 99);have bN:=Blk.aX wr 99 #[.int .i64 x,.int .i64 y,.bool false];have bX:Fr (.slice A head.length c) w (wr.alloc (.cells #[.int .i64 x,.int .i64 y,.bool false] 99)):=cR.tr (Fr.bl ((Below.refl _ _).al _)) bM;have hwr:=cR.1;go_upto_region 7 with(fail)
      obtain⟨W,hW⟩:=Ti (wr.alloc (.cells #[.int .i64 x,.int .i64 y,.bool false] 99));obtain⟨gD,eK⟩:=Ti wr.heap.size;rw[<-hW]at bR bS bU bN bX⊢;rw[<-eK]at bN hap⊢;clear hW eK cI cR eI cS gL gM hE hP hBl hZ;obtain⟨cB,cC,cD⟩:=bN.n3;have hDl:=bN.lt;have Bw:Below W.heap.size W W.drew:=(Below.refl _ _).drew;have hz:W.heap.size<=W.drew.heap.size:=(by simp);rcases bC:aI ((x:Int),(y:Int),false)with _|_
      . have hR : R1 = [] := by rw [fY.out]; exact ED (MW bC)
        have a8:=Tk bC;clear bC;refine rB (fun w'=>w'.cell? ⟨gD,0,none⟩=some (.int .i64 x)/\w'.cell? ⟨gD,1,none⟩=some (.int .i64 y)/\w'.cell? ⟨gD,2,none⟩=some (.bool false)) fun hHeld=>(tW 0)<|(tR [1])<|tL fun K hK=>?_
        go_simp
        (first|(go_at_call 105;go_must (refine(aO x y false _).mono ?_;rintro e wX ⟨rfl,a6⟩;rw[a8.out];obtain⟨bA,bB,a7⟩:=bkn a6 W.heap.size hz;have hz:=a7;have Bw:=Bw.tr a6);(try go_wp2_with fail)))
        refine tK hK fun hHeld=>?_
        clear hK K;refine(tW 2)<|(tU 3)<|(tU 4)<|(tU 5)<|(tU 6)<|(tU 7)<|(tU 8)<|(tU 9)<|(tW 10)<|tD ?_;have bJ:=bR.bel Bw;have b6:=bS.bl Bw;have b7:=bU.bl Bw;have bY:Fr (.slice A head.length c) w _:=bX.tr (Fr.bl Bw) bM;clear bR bS bU bN bX;subst hR;go_wp2;go_roundw
        case rel=>exact⟨_,_,_,_,_,bE,by go_num,bJ,bY,bM,b6,b7,Tk (by first|exact .inr (.inl ⟨rfl,by rw[Ho.out,Tt]⟩)|exact .inr (.inr ⟨rfl,by rw[Ho.out,Tt]⟩))⟩
        case measure=>simp[intOf]
      . have eL:=dQ bC;obtain⟨D,hD⟩:=Ti (aG ((x:Int),(y:Int),false));have CD:∀w,Calls prog 106 #[.agg #[.int .i64 x,.int .i64 y,.bool false]] w (Ret (.int .u64 (D:Nat)) w):=fun w=>by rw[hD];exact dA x y false w bC
        rw[<-hD]at eL;obtain⟨u1,u2⟩:=uD hs eL;by_cases q:s&&&D=D
        . have hne : (((s &&& D : Nat) : Int) == (D : Int)) = true := by rw [q]; simp
          have cE:eY s ((x:Int),(y:Int),false)=true:=KF bC (by rw[<-hD];exact q);have hR:R1=dZ (dE s D) (head++[((x:Int),(y:Int),false)]):=(by rw[fY.out,KD cE,hD]);have hI:=h9.out bC;have bF:=Ap (j:=j) hs Hl.out bC hI;rw[<-hD]at bF;have eM:=congrArg List.length hR;rw[uH]at eM;have cF:bE.length+(jZ (dE s D)).length<=300:=by have:=gN.out;omega
          have HR:=Tk hR;have a8:=Tk bC;have HD:=Tk hD;have eN:=gT.out (i+1) (by omega) (by omega) (dE s D) (head++[((x:Int),(y:Int),false)]) bE;have cT:=fun(v o:Value) (w:World) (k:LSt W0 w gc gl gr go v (head++[((x:Int),(y:Int),false)]) o bE)=>eN v o w (eD hs) bF (by rw[Tm,List.length_singleton];omega) cF k
          rw[<-HR.out]at cT;have eP:=Tk cT;have H8:Hid ((head.length+1)*24<=140737488355328):=Tk (by omega);have HM:Hid (head.length+1<=maxLen):=Tk (by unfold maxLen;omega);clear bC q cE hR hI bF eM cF hD eN cT;refine rB (fun w'=>w'.cell? ⟨gD,0,none⟩=some (.int .i64 x)/\w'.cell? ⟨gD,1,none⟩=some (.int .i64 y)/\w'.cell? ⟨gD,2,none⟩=some (.bool false)) fun hHeld=>(tW 0)<|(tR [1])<|tL fun K hK=>?_
          go_simp
          (first|(go_at_call 105;go_must (refine(aO x y false _).mono ?_;rintro e wX ⟨rfl,a6⟩;rw[a8.out];obtain⟨bA,bB,a7⟩:=bkn a6 W.heap.size hz;have hz:=a7;have Bw:=Bw.tr a6);(try go_wp2_with fail))|(go_at_call 106;go_must (refine(CD _).mono ?_;rintro e wX ⟨rfl,a6⟩;obtain⟨bA,bB,a7⟩:=bkn a6 W.heap.size hz;have hz:=a7;have Bw:=Bw.tr a6);(try go_wp2_with fail)))
          refine tK hK fun hHeld=>?_
          clear hK K;refine(tW 2)<|(tW 3)<|(tW 4)<|(tW 7)<|(tR [5])<|tL fun K hK=>?_
          go_simp
          (first|(go_at_call 105;go_must (refine(aO x y false _).mono ?_;rintro e wX ⟨rfl,a6⟩;rw[a8.out];obtain⟨bA,bB,a7⟩:=bkn a6 W.heap.size hz;have hz:=a7;have Bw:=Bw.tr a6);(try go_wp2_with fail))|(go_at_call 106;go_must (refine(CD _).mono ?_;rintro e wX ⟨rfl,a6⟩;obtain⟨bA,bB,a7⟩:=bkn a6 W.heap.size hz;have hz:=a7;have Bw:=Bw.tr a6);(try go_wp2_with fail)))
          refine tK hK fun hHeld=>?_
          clear hK K;refine(tW 6)<|(tR [8])<|tL fun K hK=>?_
          go_simp
          (first|(go_at_call 105;go_must (refine(aO x y false _).mono ?_;rintro e wX ⟨rfl,a6⟩;rw[a8.out];obtain⟨bA,bB,a7⟩:=bkn a6 W.heap.size hz;have hz:=a7;have Bw:=Bw.tr a6);(try go_wp2_with fail))|(go_at_call 106;go_must (refine(CD _).mono ?_;rintro e wX ⟨rfl,a6⟩;obtain⟨bA,bB,a7⟩:=bkn a6 W.heap.size hz;have hz:=a7;have Bw:=Bw.tr a6);(try go_wp2_with fail)))
          refine tK hK fun hHeld=>?_
          clear hK K;refine(tW 9)<|(tW 10)<|tD ?_;obtain⟨V,hV⟩:=Ti wX;rw[<-hV]at Bw⊢;clear hV bA bB hz cB cC cD;(try clear hHeld)
          have bJ:=bR.bel Bw;have b6:=bS.bl Bw;have b7:=bU.bl Bw;have cJ:=bN.bl Bw;have bY:Fr (.slice A head.length c) w V:=bX.tr (Fr.bl Bw) bM;have eR:=bY.1;clear bR bS bU bN bX Bw;obtain⟨cB,cC,cD⟩:=cJ.n3;have zl:=bJ.bl.c1;go_upto_region 9 with(at_builtin;go_must (refine pR (enc:=aV) aJ aC V bJ.B.size bJ.oh (((x:Int),(y:Int),false):Dm) (aL _) (by simp) H8.out HM.out rfl _ _ rfl rfl rfl ?_);intro A8 c8 w8 cG cU eW;have cV:=(bJ.grow cU).2.1;have z8:=cV.c1;have f8:=fun j=>cV.frozen j)
          have bO:Nx V (.slice A1 head.length c1) (.slice A8 (head.length+1) c8):=eW.imp id (fun⟨g,e,hg⟩=>⟨g,e,by omega⟩);obtain⟨b8,bL⟩:=bJ.push cU cG bO;have b9:=bL.2 gD _ _ (.inr (.inr ⟨rfl,hap⟩)) cJ;have cK:=bL.2 gC _ _ (.inl rfl) b6;have cL:=bL.2 gB _ _ (.inr (.inl rfl)) b7;have cH:=bO.ne cJ hap;have bL:=bY.tr bL bM;have bO:=bM.tr bO eR;obtain⟨W8,e5⟩:=Ti (w8.setCell ⟨gl,0,none⟩ (.slice A8 (head.length+1) c8));rw[<-e5]at b8 b9 cK cL bL⊢;clear e5 bJ b6 b7 cJ bY eR cB cC cD zl cU eW cV z8 f8 cG;obtain⟨cB,cC,cD⟩:=b9.n3;have zr:=b8.br.c1;have gO:=b9.lt;have gP:=b8.br.lt;have Bw:Below W8.heap.size W8 W8.drew:=(Below.refl _ _).drew;have hz:W8.heap.size<=W8.drew.heap.size:=(by simp);refine rB (fun w'=>w'.cell? ⟨gr,0,none⟩=some (.func (.func 231) #[] #[.pointer (some ⟨gc,0,none⟩),.pointer (some ⟨gl,0,none⟩),.pointer (some ⟨gr,0,none⟩)])/\w'.cell? ⟨gD,0,none⟩=some (.int .i64 x)/\w'.cell? ⟨gD,1,none⟩=some (.int .i64 y)/\w'.cell? ⟨gD,2,none⟩=some (.bool false)) fun hHeld=>(tW 0)<|(tW 1)<|(tW 2)<|(tR [3])<|tL fun K hK=>?_
          go_simp
          (first|(go_at_call 106;go_must (refine(CD _).mono ?_;rintro e wX ⟨rfl,a6⟩;obtain⟨bA,bB,a7⟩:=bkn a6 W8.heap.size hz;have hz:=a7;have Bw:=Bw.tr a6);(try go_wp2_with fail))|(go_at_call 231;go_must (refine(eP.out _ _ _ (b8.bel Bw)).mono ?_;rintro e wX ⟨rfl,v9,o9,bK,bD,cA⟩;have bP:=bD.2 gD _ _ (.inr (.inr ⟨rfl,cH⟩)) (b9.bl Bw);have cM:=bP.cell 0;have cN:=bP.cell 1;have cP:=bP.cell 2;simp only[Tn,Tp,Tq]at cM cN cP;have e6:=bK.br.c1;have cW:=bD.2 gC _ _ (.inl rfl) (cK.bl Bw);have cX:=bD.2 gB _ _ (.inr (.inl rfl)) (cL.bl Bw));(try go_wp2_with fail)))
          refine tK hK fun hHeld=>?_
          clear hK K;refine(tW 4)<|(tR [5])<|tL fun K hK=>?_
          go_simp
          (first|(go_at_call 106;go_must (refine(CD _).mono ?_;rintro e wX ⟨rfl,a6⟩;obtain⟨bA,bB,a7⟩:=bkn a6 W8.heap.size hz;have hz:=a7;have Bw:=Bw.tr a6);(try go_wp2_with fail))|(go_at_call 231;go_must (refine(eP.out _ _ _ (b8.bel Bw)).mono ?_;rintro e wX ⟨rfl,v9,o9,bK,bD,cA⟩;have bP:=bD.2 gD _ _ (.inr (.inr ⟨rfl,cH⟩)) (b9.bl Bw);have cM:=bP.cell 0;have cN:=bP.cell 1;have cP:=bP.cell 2;simp only[Tn,Tp,Tq]at cM cN cP;have e6:=bK.br.c1;have cW:=bD.2 gC _ _ (.inl rfl) (cK.bl Bw);have cX:=bD.2 gB _ _ (.inr (.inl rfl)) (cL.bl Bw));(try go_wp2_with fail)))
          refine tK hK fun hHeld=>?_
          clear hK K;refine tD ?_;have bD:=(bL.tr (Fr.bl Bw) bO).tr bD bO;have cA:=bO.tr cA (Nat.le_trans (bL.tr (Fr.bl (v:= .slice A8 (head.length+1) c8) Bw) bO).1 (Tu _));obtain⟨V9,e7⟩:=Ti wX;rw[<-e7]at bK cW cX bD⊢;clear e7 cM cN cP e6 bP cB cC cD zr b8 b9 cK cL bL Bw hz;(try clear bA bB)
          (try clear hHeld)
          obtain⟨A9,c9,rfl,_,_⟩:=bK.oh.form;obtain⟨O9,p9,rfl,_,_⟩:=bK.ol.ll.form;have e9:(head++[(((x:Int),(y:Int),false):Dm)]).length=head.length+1:=(by simp);rw[e9]at bK cA;have z9:=bK.bl.c1;have f9:=fun j=>bK.bl.frozen j
          obtain⟨cY,b5,dL⟩:=bK.pop;have dT:=b5.2 gC _ _ (.inl rfl) cW;have eA:=b5.2 gB _ _ (.inr (.inl rfl)) cX;have eC:=bD.tr b5 cA;have eE:=cA.tr dL bD.1;go_wp2;go_roundw
          case rel=>exact⟨_,_,_,_,_,bE++R1,by go_num,cY,eC,eE,dT,eA,Tk (by first|exact .inr (.inl ⟨rfl,by rw[Ho.out]⟩)|exact .inr (.inr ⟨rfl,by rw[Ho.out]⟩))⟩
          case measure=>simp[intOf]
        . have hne : (((s &&& D : Nat) : Int) == (D : Int)) = false := by rw [beq_eq_false_iff_ne]; omega
          have hR:R1=[]:=by rw[fY.out];exact ED (KE (by rw[<-hD];exact q))
          have a8:=Tk bC;clear bC q hD;refine rB (fun w'=>w'.cell? ⟨gD,0,none⟩=some (.int .i64 x)/\w'.cell? ⟨gD,1,none⟩=some (.int .i64 y)/\w'.cell? ⟨gD,2,none⟩=some (.bool false)) fun hHeld=>(tW 0)<|(tR [1])<|tL fun K hK=>?_
          go_simp
          (first|(go_at_call 105;go_must (refine(aO x y false _).mono ?_;rintro e wX ⟨rfl,a6⟩;rw[a8.out];obtain⟨bA,bB,a7⟩:=bkn a6 W.heap.size hz;have hz:=a7;have Bw:=Bw.tr a6);(try go_wp2_with fail))|(go_at_call 106;go_must (refine(CD _).mono ?_;rintro e wX ⟨rfl,a6⟩;obtain⟨bA,bB,a7⟩:=bkn a6 W.heap.size hz;have hz:=a7;have Bw:=Bw.tr a6);(try go_wp2_with fail)))
          refine tK hK fun hHeld=>?_
          clear hK K;refine(tW 2)<|(tW 3)<|(tW 4)<|(tW 7)<|(tR [5])<|tL fun K hK=>?_
          go_simp
          (first|(go_at_call 105;go_must (refine(aO x y false _).mono ?_;rintro e wX ⟨rfl,a6⟩;rw[a8.out];obtain⟨bA,bB,a7⟩:=bkn a6 W.heap.size hz;have hz:=a7;have Bw:=Bw.tr a6);(try go_wp2_with fail))|(go_at_call 106;go_must (refine(CD _).mono ?_;rintro e wX ⟨rfl,a6⟩;obtain⟨bA,bB,a7⟩:=bkn a6 W.heap.size hz;have hz:=a7;have Bw:=Bw.tr a6);(try go_wp2_with fail)))
          refine tK hK fun hHeld=>?_
          clear hK K;refine(tW 6)<|(tR [8])<|tL fun K hK=>?_
          go_simp
          (first|(go_at_call 105;go_must (refine(aO x y false _).mono ?_;rintro e wX ⟨rfl,a6⟩;rw[a8.out];obtain⟨bA,bB,a7⟩:=bkn a6 W.heap.size hz;have hz:=a7;have Bw:=Bw.tr a6);(try go_wp2_with fail))|(go_at_call 106;go_must (refine(CD _).mono ?_;rintro e wX ⟨rfl,a6⟩;obtain⟨bA,bB,a7⟩:=bkn a6 W.heap.size hz;have hz:=a7;have Bw:=Bw.tr a6);(try go_wp2_with fail)))
          refine tK hK fun hHeld=>?_
          clear hK K;refine(tW 9)<|(tW 10)<|tD ?_;have bJ:=bR.bel Bw;have b6:=bS.bl Bw;have b7:=bU.bl Bw;have bY:Fr (.slice A head.length c) w _:=bX.tr (Fr.bl Bw) bM;clear bR bS bU bN bX;subst hR;go_wp2;go_roundw
          case rel=>exact⟨_,_,_,_,_,bE,by go_num,bJ,bY,bM,b6,b7,Tk (by first|exact .inr (.inl ⟨rfl,by rw[Ho.out,Tt]⟩)|exact .inr (.inr ⟨rfl,by rw[Ho.out,Tt]⟩))⟩
          case measure=>simp[intOf]
    . have Ho:Hid (bE=ls++R1):=Tk ho;have gN:Hid (bE.length+R2.length<=300):=Tk (by rw[ho,Tm];have:=fS.out;have:=gW.out;omega);clear HJ ho;have j2:=cI.bl.lt;have hap:(Value.slice A1 head.length c1).ownBlock≠some wr.heap.size:=fun e=>by have:=(World.ownsRow.lt cI.oh _ e).2;omega
      have bR:=cI.alloc (.cells #[.int .i64 x,.int .i64 y,.bool true] 99);have bS:=eI.alloc (.cells #[.int .i64 x,.int .i64 y,.bool true] 99);have bU:=cS.alloc (.cells #[.int .i64 x,.int .i64 y,.bool true] 99);have bN:=Blk.aX wr 99 #[.int .i64 x,.int .i64 y,.bool true];have bX:Fr (.slice A head.length c) w (wr.alloc (.cells #[.int .i64 x,.int .i64 y,.bool true] 99)):=cR.tr (Fr.bl ((Below.refl _ _).al _)) bM;have hwr:=cR.1;go_upto_region 7 with(fail)
      obtain⟨W,hW⟩:=Ti (wr.alloc (.cells #[.int .i64 x,.int .i64 y,.bool true] 99));obtain⟨gD,eK⟩:=Ti wr.heap.size;rw[<-hW]at bR bS bU bN bX⊢;rw[<-eK]at bN hap⊢;clear hW eK cI cR eI cS gL gM hE hP hBl hZ;obtain⟨cB,cC,cD⟩:=bN.n3;have hDl:=bN.lt;have Bw:Below W.heap.size W W.drew:=(Below.refl _ _).drew;have hz:W.heap.size<=W.drew.heap.size:=(by simp);rcases bC:aI ((x:Int),(y:Int),true)with _|_
      . have hR : R2 = [] := by rw [gA.out]; exact ED (MW bC)
        have a8:=Tk bC;clear bC;refine rB (fun w'=>w'.cell? ⟨gD,0,none⟩=some (.int .i64 x)/\w'.cell? ⟨gD,1,none⟩=some (.int .i64 y)/\w'.cell? ⟨gD,2,none⟩=some (.bool true)) fun hHeld=>(tW 0)<|(tR [1])<|tL fun K hK=>?_
        go_simp
        (first|(go_at_call 105;go_must (refine(aO x y true _).mono ?_;rintro e wX ⟨rfl,a6⟩;rw[a8.out];obtain⟨bA,bB,a7⟩:=bkn a6 W.heap.size hz;have hz:=a7;have Bw:=Bw.tr a6);(try go_wp2_with fail)))
        refine tK hK fun hHeld=>?_
        clear hK K;refine(tW 2)<|(tU 3)<|(tU 4)<|(tU 5)<|(tU 6)<|(tU 7)<|(tU 8)<|(tU 9)<|(tW 10)<|tD ?_;have bJ:=bR.bel Bw;have b6:=bS.bl Bw;have b7:=bU.bl Bw;have bY:Fr (.slice A head.length c) w _:=bX.tr (Fr.bl Bw) bM;clear bR bS bU bN bX;subst hR;go_wp2;go_roundw
        case rel=>exact⟨_,_,_,_,_,bE,by go_num,bJ,bY,bM,b6,b7,Tk (by first|exact .inr (.inl ⟨rfl,by rw[Ho.out,Tt]⟩)|exact .inr (.inr ⟨rfl,by rw[Ho.out,Tt]⟩))⟩
        case measure=>simp[intOf]
      . have eL:=dQ bC;obtain⟨D,hD⟩:=Ti (aG ((x:Int),(y:Int),true));have CD:∀w,Calls prog 106 #[.agg #[.int .i64 x,.int .i64 y,.bool true]] w (Ret (.int .u64 (D:Nat)) w):=fun w=>by rw[hD];exact dA x y true w bC
        rw[<-hD]at eL;obtain⟨u1,u2⟩:=uD hs eL;by_cases q:s&&&D=D
        . have hne : (((s &&& D : Nat) : Int) == (D : Int)) = true := by rw [q]; simp
          have cE:eY s ((x:Int),(y:Int),true)=true:=KF bC (by rw[<-hD];exact q);have hR:R2=dZ (dE s D) (head++[((x:Int),(y:Int),true)]):=(by rw[gA.out,KD cE,hD]);have hI:=j0.out bC;have bF:=Ap (j:=j) hs Hl.out bC hI;rw[<-hD]at bF;have eM:=congrArg List.length hR;rw[uH]at eM;have cF:bE.length+(jZ (dE s D)).length<=300:=by have:=gN.out;omega
          have HR:=Tk hR;have a8:=Tk bC;have HD:=Tk hD;have eN:=gT.out (i+1) (by omega) (by omega) (dE s D) (head++[((x:Int),(y:Int),true)]) bE;have cT:=fun(v o:Value) (w:World) (k:LSt W0 w gc gl gr go v (head++[((x:Int),(y:Int),true)]) o bE)=>eN v o w (eD hs) bF (by rw[Tm,List.length_singleton];omega) cF k
          rw[<-HR.out]at cT;have eP:=Tk cT;have H8:Hid ((head.length+1)*24<=140737488355328):=Tk (by omega);have HM:Hid (head.length+1<=maxLen):=Tk (by unfold maxLen;omega);clear bC q cE hR hI bF eM cF hD eN cT;refine rB (fun w'=>w'.cell? ⟨gD,0,none⟩=some (.int .i64 x)/\w'.cell? ⟨gD,1,none⟩=some (.int .i64 y)/\w'.cell? ⟨gD,2,none⟩=some (.bool true)) fun hHeld=>(tW 0)<|(tR [1])<|tL fun K hK=>?_
          go_simp
          (first|(go_at_call 105;go_must (refine(aO x y true _).mono ?_;rintro e wX ⟨rfl,a6⟩;rw[a8.out];obtain⟨bA,bB,a7⟩:=bkn a6 W.heap.size hz;have hz:=a7;have Bw:=Bw.tr a6);(try go_wp2_with fail))|(go_at_call 106;go_must (refine(CD _).mono ?_;rintro e wX ⟨rfl,a6⟩;obtain⟨bA,bB,a7⟩:=bkn a6 W.heap.size hz;have hz:=a7;have Bw:=Bw.tr a6);(try go_wp2_with fail)))
          refine tK hK fun hHeld=>?_
          clear hK K;refine(tW 2)<|(tW 3)<|(tW 4)<|(tW 7)<|(tR [5])<|tL fun K hK=>?_
          go_simp
          (first|(go_at_call 105;go_must (refine(aO x y true _).mono ?_;rintro e wX ⟨rfl,a6⟩;rw[a8.out];obtain⟨bA,bB,a7⟩:=bkn a6 W.heap.size hz;have hz:=a7;have Bw:=Bw.tr a6);(try go_wp2_with fail))|(go_at_call 106;go_must (refine(CD _).mono ?_;rintro e wX ⟨rfl,a6⟩;obtain⟨bA,bB,a7⟩:=bkn a6 W.heap.size hz;have hz:=a7;have Bw:=Bw.tr a6);(try go_wp2_with fail)))
          refine tK hK fun hHeld=>?_
          clear hK K;refine(tW 6)<|(tR [8])<|tL fun K hK=>?_
          go_simp
          (first|(go_at_call 105;go_must (refine(aO x y true _).mono ?_;rintro e wX ⟨rfl,a6⟩;rw[a8.out];obtain⟨bA,bB,a7⟩:=bkn a6 W.heap.size hz;have hz:=a7;have Bw:=Bw.tr a6);(try go_wp2_with fail))|(go_at_call 106;go_must (refine(CD _).mono ?_;rintro e wX ⟨rfl,a6⟩;obtain⟨bA,bB,a7⟩:=bkn a6 W.heap.size hz;have hz:=a7;have Bw:=Bw.tr a6);(try go_wp2_with fail)))
          refine tK hK fun hHeld=>?_
          clear hK K;refine(tW 9)<|(tW 10)<|tD ?_;obtain⟨V,hV⟩:=Ti wX;rw[<-hV]at Bw⊢;clear hV bA bB hz cB cC cD;(try clear hHeld)
          have bJ:=bR.bel Bw;have b6:=bS.bl Bw;have b7:=bU.bl Bw;have cJ:=bN.bl Bw;have bY:Fr (.slice A head.length c) w V:=bX.tr (Fr.bl Bw) bM;have eR:=bY.1;clear bR bS bU bN bX Bw;obtain⟨cB,cC,cD⟩:=cJ.n3;have zl:=bJ.bl.c1;go_upto_region 9 with(at_builtin;go_must (refine pR (enc:=aV) aJ aC V bJ.B.size bJ.oh (((x:Int),(y:Int),true):Dm) (aL _) (by simp) H8.out HM.out rfl _ _ rfl rfl rfl ?_);intro A8 c8 w8 cG cU eW;have cV:=(bJ.grow cU).2.1;have z8:=cV.c1;have f8:=fun j=>cV.frozen j)
          have bO:Nx V (.slice A1 head.length c1) (.slice A8 (head.length+1) c8):=eW.imp id (fun⟨g,e,hg⟩=>⟨g,e,by omega⟩);obtain⟨b8,bL⟩:=bJ.push cU cG bO;have b9:=bL.2 gD _ _ (.inr (.inr ⟨rfl,hap⟩)) cJ;have cK:=bL.2 gC _ _ (.inl rfl) b6;have cL:=bL.2 gB _ _ (.inr (.inl rfl)) b7;have cH:=bO.ne cJ hap;have bL:=bY.tr bL bM;have bO:=bM.tr bO eR;obtain⟨W8,e5⟩:=Ti (w8.setCell ⟨gl,0,none⟩ (.slice A8 (head.length+1) c8));rw[<-e5]at b8 b9 cK cL bL⊢;clear e5 bJ b6 b7 cJ bY eR cB cC cD zl cU eW cV z8 f8 cG;obtain⟨cB,cC,cD⟩:=b9.n3;have zr:=b8.br.c1;have gO:=b9.lt;have gP:=b8.br.lt;have Bw:Below W8.heap.size W8 W8.drew:=(Below.refl _ _).drew;have hz:W8.heap.size<=W8.drew.heap.size:=(by simp);refine rB (fun w'=>w'.cell? ⟨gr,0,none⟩=some (.func (.func 231) #[] #[.pointer (some ⟨gc,0,none⟩),.pointer (some ⟨gl,0,none⟩),.pointer (some ⟨gr,0,none⟩)])/\w'.cell? ⟨gD,0,none⟩=some (.int .i64 x)/\w'.cell? ⟨gD,1,none⟩=some (.int .i64 y)/\w'.cell? ⟨gD,2,none⟩=some (.bool true)) fun hHeld=>(tW 0)<|(tW 1)<|(tW 2)<|(tR [3])<|tL fun K hK=>?_
          go_simp
          (first|(go_at_call 106;go_must (refine(CD _).mono ?_;rintro e wX ⟨rfl,a6⟩;obtain⟨bA,bB,a7⟩:=bkn a6 W8.heap.size hz;have hz:=a7;have Bw:=Bw.tr a6);(try go_wp2_with fail))|(go_at_call 231;go_must (refine(eP.out _ _ _ (b8.bel Bw)).mono ?_;rintro e wX ⟨rfl,v9,o9,bK,bD,cA⟩;have bP:=bD.2 gD _ _ (.inr (.inr ⟨rfl,cH⟩)) (b9.bl Bw);have cM:=bP.cell 0;have cN:=bP.cell 1;have cP:=bP.cell 2;simp only[Tn,Tp,Tq]at cM cN cP;have e6:=bK.br.c1;have cW:=bD.2 gC _ _ (.inl rfl) (cK.bl Bw);have cX:=bD.2 gB _ _ (.inr (.inl rfl)) (cL.bl Bw));(try go_wp2_with fail)))
          refine tK hK fun hHeld=>?_
          clear hK K;refine(tW 4)<|(tR [5])<|tL fun K hK=>?_
          go_simp
          (first|(go_at_call 106;go_must (refine(CD _).mono ?_;rintro e wX ⟨rfl,a6⟩;obtain⟨bA,bB,a7⟩:=bkn a6 W8.heap.size hz;have hz:=a7;have Bw:=Bw.tr a6);(try go_wp2_with fail))|(go_at_call 231;go_must (refine(eP.out _ _ _ (b8.bel Bw)).mono ?_;rintro e wX ⟨rfl,v9,o9,bK,bD,cA⟩;have bP:=bD.2 gD _ _ (.inr (.inr ⟨rfl,cH⟩)) (b9.bl Bw);have cM:=bP.cell 0;have cN:=bP.cell 1;have cP:=bP.cell 2;simp only[Tn,Tp,Tq]at cM cN cP;have e6:=bK.br.c1;have cW:=bD.2 gC _ _ (.inl rfl) (cK.bl Bw);have cX:=bD.2 gB _ _ (.inr (.inl rfl)) (cL.bl Bw));(try go_wp2_with fail)))
          refine tK hK fun hHeld=>?_
          clear hK K;refine tD ?_;have bD:=(bL.tr (Fr.bl Bw) bO).tr bD bO;have cA:=bO.tr cA (Nat.le_trans (bL.tr (Fr.bl (v:= .slice A8 (head.length+1) c8) Bw) bO).1 (Tu _));obtain⟨V9,e7⟩:=Ti wX;rw[<-e7]at bK cW cX bD⊢;clear e7 cM cN cP e6 bP cB cC cD zr b8 b9 cK cL bL Bw hz;(try clear bA bB)
          (try clear hHeld)
          obtain⟨A9,c9,rfl,_,_⟩:=bK.oh.form;obtain⟨O9,p9,rfl,_,_⟩:=bK.ol.ll.form;have e9:(head++[(((x:Int),(y:Int),true):Dm)]).length=head.length+1:=(by simp);rw[e9]at bK cA;have z9:=bK.bl.c1;have f9:=fun j=>bK.bl.frozen j
          obtain⟨cY,b5,dL⟩:=bK.pop;have dT:=b5.2 gC _ _ (.inl rfl) cW;have eA:=b5.2 gB _ _ (.inr (.inl rfl)) cX;have eC:=bD.tr b5 cA;have eE:=cA.tr dL bD.1;go_wp2;go_roundw
          case rel=>exact⟨_,_,_,_,_,bE++R2,by go_num,cY,eC,eE,dT,eA,Tk (by first|exact .inr (.inl ⟨rfl,by rw[Ho.out]⟩)|exact .inr (.inr ⟨rfl,by rw[Ho.out]⟩))⟩
          case measure=>simp[intOf]
        . have hne : (((s &&& D : Nat) : Int) == (D : Int)) = false := by rw [beq_eq_false_iff_ne]; omega
          have hR:R2=[]:=by rw[gA.out];exact ED (KE (by rw[<-hD];exact q))
          have a8:=Tk bC;clear bC q hD;refine rB (fun w'=>w'.cell? ⟨gD,0,none⟩=some (.int .i64 x)/\w'.cell? ⟨gD,1,none⟩=some (.int .i64 y)/\w'.cell? ⟨gD,2,none⟩=some (.bool true)) fun hHeld=>(tW 0)<|(tR [1])<|tL fun K hK=>?_
          go_simp
          (first|(go_at_call 105;go_must (refine(aO x y true _).mono ?_;rintro e wX ⟨rfl,a6⟩;rw[a8.out];obtain⟨bA,bB,a7⟩:=bkn a6 W.heap.size hz;have hz:=a7;have Bw:=Bw.tr a6);(try go_wp2_with fail))|(go_at_call 106;go_must (refine(CD _).mono ?_;rintro e wX ⟨rfl,a6⟩;obtain⟨bA,bB,a7⟩:=bkn a6 W.heap.size hz;have hz:=a7;have Bw:=Bw.tr a6);(try go_wp2_with fail)))
          refine tK hK fun hHeld=>?_
          clear hK K;refine(tW 2)<|(tW 3)<|(tW 4)<|(tW 7)<|(tR [5])<|tL fun K hK=>?_
          go_simp
          (first|(go_at_call 105;go_must (refine(aO x y true _).mono ?_;rintro e wX ⟨rfl,a6⟩;rw[a8.out];obtain⟨bA,bB,a7⟩:=bkn a6 W.heap.size hz;have hz:=a7;have Bw:=Bw.tr a6);(try go_wp2_with fail))|(go_at_call 106;go_must (refine(CD _).mono ?_;rintro e wX ⟨rfl,a6⟩;obtain⟨bA,bB,a7⟩:=bkn a6 W.heap.size hz;have hz:=a7;have Bw:=Bw.tr a6);(try go_wp2_with fail)))
          refine tK hK fun hHeld=>?_
          clear hK K;refine(tW 6)<|(tR [8])<|tL fun K hK=>?_
          go_simp
          (first|(go_at_call 105;go_must (refine(aO x y true _).mono ?_;rintro e wX ⟨rfl,a6⟩;rw[a8.out];obtain⟨bA,bB,a7⟩:=bkn a6 W.heap.size hz;have hz:=a7;have Bw:=Bw.tr a6);(try go_wp2_with fail))|(go_at_call 106;go_must (refine(CD _).mono ?_;rintro e wX ⟨rfl,a6⟩;obtain⟨bA,bB,a7⟩:=bkn a6 W.heap.size hz;have hz:=a7;have Bw:=Bw.tr a6);(try go_wp2_with fail)))
          refine tK hK fun hHeld=>?_
          clear hK K;refine(tW 9)<|(tW 10)<|tD ?_;have bJ:=bR.bel Bw;have b6:=bS.bl Bw;have b7:=bU.bl Bw;have bY:Fr (.slice A head.length c) w _:=bX.tr (Fr.bl Bw) bM;clear bR bS bU bN bX;subst hR;go_wp2;go_roundw
          case rel=>exact⟨_,_,_,_,_,bE,by go_num,bJ,bY,bM,b6,b7,Tk (by first|exact .inr (.inl ⟨rfl,by rw[Ho.out,Tt]⟩)|exact .inr (.inr ⟨rfl,by rw[Ho.out,Tt]⟩))⟩
          case measure=>simp[intOf]
    . have Ho:=Tk ho;clear HJ ho;go_wp2;go_end0
      obtain rfl:bE=ls++R1++R2:=Ho.out;exact⟨rfl,_,_,cI,cR,bM⟩
theorem N9 {W0:World} {gc gl gr go:Nat}:∀j,j<=64->Jf W0 gc gl gr go j:=by
 have key:∀n j,j<=64->64-j<=n->Jf W0 gc gl gr go j:=by
  intro n;induction n with
  |zero=>intro j h1 h2;exact EE h1 (fun j' a b=>by omega)
  |succ n ih=>intro j h1 h2;exact EE h1 (fun j' a b=>ih j' b (by omega))
 exact fun j hj=>key (64-j) j hj (Tu _)
theorem Oa {W0 w:World} (s go oc:Nat) (O:Option Addr) (hs:s<U64) (hn:(jZ s).length<=300) (bo:Blk w go 158 #[.slice O 0 oc]) (oo:aD 27 1 eV W0.heap.size w (.slice O 0 oc) []) (B:Below W0.heap.size W0 w) (hgo:W0.heap.size<=go):
 Calls prog 204 #[.int .u64 s,.func (.func 205) #[] #[.pointer (some ⟨go,0,none⟩)]] w (fun e w'=>e= .returned (.tuple #[])/\∃o',Blk w' go 158 #[o']/\dY 27 99 3 aV W0.heap.size w' o' (jZ s)/\Below W0.heap.size W0 w'):=by
 obtain⟨W,hW⟩:=Ti ((((w.alloc (.cells #[.func (.func 205) #[] #[.pointer (some ⟨go,0,none⟩)]] 198)).alloc (.cells #[] 99)).alloc (.cells #[.slice (some ⟨w.heap.size+1,0,none⟩) 0 0] 27)).alloc (.cells #[.nilFunc] 230));have a8:=bo.lt;have a6:Below w.heap.size w W:=by rw[hW];exact((((Below.refl w.heap.size w).al _).al _).al _).al _
 have bc:Blk W w.heap.size 198 #[.func (.func 205) #[] #[.pointer (some ⟨go,0,none⟩)]]:=by rw[hW];exact(((Blk.aX w _ _).alloc _).alloc _).alloc _
 have bl:Blk W (w.heap.size+1+1) 27 #[.slice (some ⟨w.heap.size+1,0,none⟩) 0 0]:=by
  rw[hW];exact(Blk.gI ((w.alloc (.cells #[.func (.func 205) #[] #[.pointer (some ⟨go,0,none⟩)]] 198)).alloc (.cells #[] 99)) 27 _ (w.heap.size+1+1) (by simp)).alloc _
 have br:Blk W (w.heap.size+1+1+1) 230 #[.nilFunc]:=by
  rw[hW];exact Blk.gI (((w.alloc (.cells #[.func (.func 205) #[] #[.pointer (some ⟨go,0,none⟩)]] 198)).alloc (.cells #[] 99)).alloc (.cells #[.slice (some ⟨w.heap.size+1,0,none⟩) 0 0] 27)) 230 _ (w.heap.size+1+1+1) (by simp)
 have oh:aD 99 3 aV W0.heap.size W (.slice (some ⟨w.heap.size+1,0,none⟩) ([]:List Dm).length 0) []:=by
  have:=(fF (w.alloc (.cells #[.func (.func 205) #[] #[.pointer (some ⟨go,0,none⟩)]] 198)) (E:=99) (size:=3) (enc:=aV)).mono (show W0.heap.size<=_ by have:=B.size;simp;omega);rw[hW];have q:=(this.alloc (.cells #[.slice (some ⟨w.heap.size+1,0,none⟩) 0 0] 27)).alloc (.cells #[.nilFunc] 230);simpa using q
 have bK:=B.size;obtain⟨gc,bA⟩:=Ti w.heap.size;obtain⟨gh,a7⟩:=Ti (w.heap.size+1);obtain⟨gl,bB⟩:=Ti (w.heap.size+1+1);obtain⟨gr,hgr⟩:=Ti (w.heap.size+1+1+1);have bF:=bo.bl a6;have bJ:=oo.below a6;have B1:=B.tr a6;have bL:(Value.slice O 0 oc).ownBlock≠some gl:=fun e=>by have:=(World.ownsRow.lt oo _ e).2;omega
 go_enter Tryz.func204,Tryz.ntmps204
 go_upto_region 3 with(fail)
 rw[<-hW,<-hgr,<-bB,<-a7,<-bA];rw[<-hgr]at br;rw[<-bB,<-a7]at bl;rw[<-a7]at oh;rw[<-bA]at bc;have bC:W0.heap.size<=gl:=(by omega);have bD:W0.heap.size<=gr:=(by omega);clear hW bA a7 bB hgr a6 B bo oo bK a8;have z0:=br.c1;have f0:=fun j=>br.frozen j
 have bM:=br.Ij 0 (.func (.func 231) #[] #[.pointer (some ⟨gc,0,none⟩),.pointer (some ⟨gl,0,none⟩),.pointer (some ⟨gr,0,none⟩)]);have n1:=bc.ne br (by decide);have n2:=bl.ne br (by decide);have n3:=bF.ne br (by decide)
 have st:LSt W0 (W.setCell ⟨gr,0,none⟩ (.func (.func 231) #[] #[.pointer (some ⟨gc,0,none⟩),.pointer (some ⟨gl,0,none⟩),.pointer (some ⟨gr,0,none⟩)])) gc gl gr go (.slice (some ⟨gh,0,none⟩) ([]:List Dm).length 0) [] (.slice O 0 oc) []:=
  ⟨bc.far n1 _,bl.far n2 _,bM,bF.far n3 _,oh.far (oh.apart br (by decide)) _,⟨[],bJ.far (bJ.apart br (by decide)) _,rfl,fun k u x h=>by simp at h⟩,bL,B1.st _ _ bD,bC,hgo⟩
 go_wp2_with (go_at_call 231;go_must (refine(N9 0 (by decide) s [] [] _ _ _ hs (fun k hk=>absurd hk (Nat.not_lt_zero k)) (by simp) (by simpa using hn) st).mono ?_;rintro e w1 ⟨rfl,v',o',bE,bN,bO⟩))
 go_end0
 refine⟨rfl,o',bE.bo,?_,bE.B⟩;have:=bE.ol.ll;rw[List.nil_append,Ke]at this;exact this
theorem GK (v:Value) (rows:List Int) (w:World) (h:Rd 1 aZ w v rows):Calls prog 146 #[.agg #[v]] w (Em (aH rows) w):=by
 obtain⟨A,c,rfl,hc,hm⟩:=h.form;have hA:=(Below.refl w.heap.size w).al (.cells #[.slice A rows.length c] 26);have bX:=Blk.aX w 26 #[.slice A rows.length c];have hlen:=Ar rows;obtain⟨R,hR⟩:=Ti (aH rows);rw[<-hR]at hlen⊢;unfold aH at hR;obtain⟨n,hn⟩:=Ti (bG rows);have C:∀(u:Value) (w:World),Rd 1 aZ w u rows->Calls prog 203 #[.agg #[u]] w (Ret (.int .i64 n) w):=fun u w k1=>by rw[hn];exact Cj u rows w k1
 obtain⟨i,hi⟩:=Ti (inB n 1 300);have CI:∀(w:World),Calls prog 46 #[.int .i64 n,.int .i64 1,.int .i64 300] w (Pure (.bool i) w):=fun w=>by rw[hi];exact dI n 1 300 w
 rw[<-hn,<-hi]at hR;cases i
 . obtain rfl : R = [] := by rw [hR]; rfl
   clear hR hi hn hlen;go_enter func146,ntmps146
   go_wp2_with fail
   refine(C _ _ (h.Tj hA)).mono ?_;rintro e w1 ⟨rfl,hb1⟩;go_wp2_with (go_at_call 46;(with_reducible refine(CI _).mono ?_);rintro e w' ⟨rfl,rfl⟩)
   go_ret;exact⟨none,0,rfl,dY.Di,hA.tr hb1⟩
 . obtain rfl : R = jZ (setOf rows) := by rw [hR]; rfl
   have hr:bW rows=true:=by
    rcases q:bW rows with _|_
    . have h1 : 1 <= n /\ n <= 300 := by simpa [inB] using hi.symm
      exact absurd (show bG rows=0 by unfold bG;rw[q];rfl) (by omega)
    . rfl
   have a7:Hid (dX rows):=Tk (aR.1 hr);have hs0:=dW a7.out;obtain⟨s,a6⟩:=Ti (setOf rows);have CS:∀(u:Value) (w:World),Rd 1 aZ w u rows->Calls prog 61 #[.agg #[u]] w (Ret (.int .u64 (s:Nat)) w):=fun u w k1=>by rw[a6];exact pV u rows w k1 a7
   rw[<-a6]at hs0 hlen⊢;clear hR hi hn a6 hr;go_enter func146,ntmps146
   go_wp2_with fail
   refine(C _ _ (h.Tj hA)).mono ?_;rintro e w1 ⟨rfl,hb1⟩;have B1:=(hA.tr hb1).al (.cells #[] 27);have z0:=(bX.bl hb1).c1;have hl:=(bX.bl hb1).lt;go_upto_region 4 with(go_at_call 46;(with_reducible refine(CI _).mono ?_);rintro e w' ⟨rfl,rfl⟩)
   have bO:=Blk.gI (w1.alloc (.cells #[] 27)) 158 #[.slice (some ⟨w1.heap.size,0,none⟩) 0 0] (w1.heap.size+1) (by simp)
   have oO:aD 27 1 eV w.heap.size ((w1.alloc (.cells #[] 27)).alloc (.cells #[.slice (some ⟨w1.heap.size,0,none⟩) 0 0] 158)) (.slice (some ⟨w1.heap.size,0,none⟩) 0 0) []:=
    ((fF w1 (E:=27) (size:=1) (enc:=eV)).mono (hA.tr hb1).size).alloc _
   have B2:=B1.al (.cells #[.slice (some ⟨w1.heap.size,0,none⟩) 0 0] 158);have a8:=((bX.bl hb1).alloc (.cells #[] 27)).alloc (.cells #[.slice (some ⟨w1.heap.size,0,none⟩) 0 0] 158);have hg0:w.heap.size<=w1.heap.size+1:=(by omega);obtain⟨W,hW⟩:=Ti ((w1.alloc (.cells #[] 27)).alloc (.cells #[.slice (some ⟨w1.heap.size,0,none⟩) 0 0] 158));obtain⟨go,hgo⟩:=Ti (w1.heap.size+1);rw[<-hW]at bO oO B2 a8⊢;rw[<-hgo]at bO hg0⊢;clear hW hgo B1 z0 hl hb1 hA bX;have zx:=a8.c1;go_wp2_with fail
   refine(CS _ _ (h.Tj B2)).mono ?_;rintro e w3 ⟨rfl,hb3⟩;go_wp2_with (go_at_call 204;go_must (refine(Oa (W0:=w) s go _ _ hs0 hlen (bO.bl hb3) (oO.below hb3) (B2.tr hb3) hg0).mono ?_;rintro e w4 ⟨rfl,o',bB,bA,B4⟩;obtain⟨O4,c4,rfl,_,_⟩:=bA.form;have zo:=bB.c1))
   go_ret;exact⟨O4,c4,rfl,bA,B4⟩
end Go.Proofs.YtjijonhkofhikaaGreatDoor
