import Derived.Test.YtjijonhkofhikaaGreatDoorEFirstI
import Derived.Laws.EntriesVeiled
open _root_.List renaming length_append->TZ,getElem?_toArray->T9,getElem?_cons_zero->Ua,getElem?_cons_succ->Ub,append_nil->Uc
open _root_.Nat renaming le_refl->Ud
open _root_.Go.Value renaming oneCell'->Ue
open _root_.Go.Proofs.Tryz (prog func231 ntmps231 func146 ntmps146)
set_option linter.unusedVariables false
set_option linter.unusedSimpArgs false
set_option maxHeartbeats 4000000
set_option maxRecDepth 100000
namespace Go.Proofs.YtjijonhkofhikaaGreatDoor
open Go.ChangeShapes Go.WideShapes Go.ChangeAt Go.RowKit
theorem PQ {W0 w:World} {gc gl gr go:Nat} {A O:Option Addr} {c oc:Nat} {head:List Dm} {ls:List (List Dm)} (st:LSt W0 w gc gl gr go (.slice A head.length c) head (.slice O ls.length oc) ls) (hh:head.length<=64) (hl:ls.length<300):
 Calls prog 205 #[.slice A head.length c,.pointer (some ⟨go,0,none⟩)] w (fun e w'=>e= .returned (.tuple #[])/\∃O' bD,LSt W0 w' gc gl gr go (.slice A head.length c) head (.slice O' (ls.length+1) bD) (ls++[head])/\Fr (.slice A head.length c) w w'):=by
 have Bw:Below w.heap.size w w.drew:=(Below.refl _ _).drew;have st:=st.bel Bw;have hz:w.heap.size<=w.drew.heap.size:=(by simp);have zo:=st.bo.c1;have H8:Hid ((ls.length+1)*24<=140737488355328):=TY (by omega);have HM:Hid (ls.length+1<=maxLen):=TY (by unfold maxLen;omega);have hs:Small head.length:=by unfold Small;omega
 go_enter Tryz.func205,Tryz.ntmps205
 refine rB (fun _=>True) fun hHeld=>(tW 1)<|(tR [0,2])<|tC (fun K hK=>?_) ?_
 go_simp
 refine tK hK fun hHeld=>?_
 clear hK K;refine(tR [2])<|tL fun K hK=>?_
 (go_simp;go_at_call 90;go_must (refine(dG _ head _ (st.oh.rd aC (by decide)) hs).mono ?_;rintro e wX ⟨D,d,rfl,oU,a8⟩;have a6:=st.bel a8;have zo:=a6.bo.c1))
 refine tK hK fun hHeld=>?_
 clear hK K;refine(tR [3])<|tL fun K hK=>?_
 (go_simp;have zo:=(a6.alloc (.cells #[.slice D head.length d] 27)).bo.c1)
 refine tK hK fun hHeld=>?_
 clear hK K;refine(tR [4])<|tL fun K hK=>?_
 (obtain⟨us,u1,u2,u3⟩:=a6.ol;refine BG (enc:=eV) pX Ck wX a6.B.size u1 (.slice D head.length d) (by simp[eV,Ue]) rfl (by rw[u2];exact H8.out) (by rw[u2];exact HM.out) rfl _ _ rfl rfl rfl ?_;intro A4 c4 w4 o4 g4 d4;rw[u2]at o4 d4⊢;have a7:=a6.bo.grown g4 (fun e=>u1.apart a6.bo (by decide) e.symm);have bC:=a7.c1;obtain⟨bA,bB⟩:=st.add a8 oU u1 u2 u3 g4 o4 (d4.imp id (fun⟨g,e,hg⟩=>⟨g,e,by omega⟩)))
 refine tK hK fun hHeld=>?_
 clear hK K;refine(tR [5])<|tL fun K hK=>?_
 (have zf:=fun j=>a7.frozen j;go_simp)
 refine tK hK fun hHeld=>?_
 clear hK K;refine tD ?_
 rotate_left 1
 refine tL fun K hK=>?_
 (go_simp;go_at_call 90;go_must (refine(dG _ head _ (st.oh.rd aC (by decide)) hs).mono ?_;rintro e wX ⟨D,d,rfl,oU,a8⟩;have a6:=st.bel a8;have zo:=a6.bo.c1))
 refine tK hK fun hHeld=>?_
 clear hK K;refine(tR [0,3])<|tC (fun K hK=>?_) ?_;go_simp
 refine tK hK fun hHeld=>?_
 clear hK K;refine(tR [3])<|tL fun K hK=>?_
 (go_simp;have zo:=(a6.alloc (.cells #[.slice D head.length d] 27)).bo.c1)
 refine tK hK fun hHeld=>?_
 clear hK K;refine(tR [4])<|tL fun K hK=>?_
 (obtain⟨us,u1,u2,u3⟩:=a6.ol;refine BG (enc:=eV) pX Ck wX a6.B.size u1 (.slice D head.length d) (by simp[eV,Ue]) rfl (by rw[u2];exact H8.out) (by rw[u2];exact HM.out) rfl _ _ rfl rfl rfl ?_;intro A4 c4 w4 o4 g4 d4;rw[u2]at o4 d4⊢;have a7:=a6.bo.grown g4 (fun e=>u1.apart a6.bo (by decide) e.symm);have bC:=a7.c1;obtain⟨bA,bB⟩:=st.add a8 oU u1 u2 u3 g4 o4 (d4.imp id (fun⟨g,e,hg⟩=>⟨g,e,by omega⟩)))
 refine tK hK fun hHeld=>?_
 clear hK K;refine(tR [5])<|tL fun K hK=>?_
 (have zf:=fun j=>a7.frozen j;go_simp)
 refine tK hK fun hHeld=>?_
 clear hK K;refine tD ?_
 rotate_left 1
 refine tL fun K hK=>?_
 (go_simp;have zo:=(a6.alloc (.cells #[.slice D head.length d] 27)).bo.c1)
 refine tK hK fun hHeld=>?_
 clear hK K;refine(tR [0])<|tL fun K hK=>?_
 go_simp
 refine tK hK fun hHeld=>?_
 clear hK K;refine(tR [4])<|tL fun K hK=>?_
 (obtain⟨us,u1,u2,u3⟩:=a6.ol;refine BG (enc:=eV) pX Ck wX a6.B.size u1 (.slice D head.length d) (by simp[eV,Ue]) rfl (by rw[u2];exact H8.out) (by rw[u2];exact HM.out) rfl _ _ rfl rfl rfl ?_;intro A4 c4 w4 o4 g4 d4;rw[u2]at o4 d4⊢;have a7:=a6.bo.grown g4 (fun e=>u1.apart a6.bo (by decide) e.symm);have bC:=a7.c1;obtain⟨bA,bB⟩:=st.add a8 oU u1 u2 u3 g4 o4 (d4.imp id (fun⟨g,e,hg⟩=>⟨g,e,by omega⟩)))
 refine tK hK fun hHeld=>?_
 clear hK K;refine(tR [5])<|tL fun K hK=>?_
 (have zf:=fun j=>a7.frozen j;go_simp)
 refine tK hK fun hHeld=>?_
 clear hK K;refine tD ?_
 all_goals
   go_wp2;go_end0
   exact⟨rfl,A4,c4,bA,(Fr.bl Bw).tr bB (Nx.refl _ _)⟩
def TJ (W0 w:World) (gc gl gr go:Nat) (v:Value) (head:List Dm) (ls:List (List Dm)) (e:Ending) (w':World):Prop:=
 e= .returned (.tuple #[])/\∃v' o',LSt W0 w' gc gl gr go v' head o' ls/\Fr v w w'/\Nx w v v'
def Jq (W0:World) (gc gl gr go:Nat) (j:Nat):Prop:=∀(s:Nat) (head:List Dm) (ls:List (List Dm)) (v o:Value) (w:World),s<U64->(∀k,k<j->s.testBit k=false)->head.length<=j->ls.length+(jD s).length<=300->LSt W0 w gc gl gr go v head o ls->
  Calls prog 231 #[.int .u64 s,.pointer (some ⟨gc,0,none⟩),.pointer (some ⟨gl,0,none⟩),.pointer (some ⟨gr,0,none⟩)] w (TJ W0 w gc gl gr go v head (ls++eB s head))
def G7 (s i:Nat) (head:List Dm) (d:Dm):List (List Dm):=if eU s d then eB (dE s (aG d)) (head++[d])else[]
theorem PR {s i:Nat} (hs:s<U64) (hl:sI s i) (head:List Dm):eB s head=G7 s i head (eQ i)++G7 s i head (fK i):=GN hs hl head
theorem EO {s i:Nat} {head:List Dm} {d:Dm} (h:eU s d=false):G7 s i head d=[]:=by unfold G7;rw[h];rfl
theorem KP {s i:Nat} {head:List Dm} {d:Dm} (h:eU s d=true):G7 s i head d=eB (dE s (aG d)) (head++[d]):=by unfold G7;rw[if_pos h]
theorem Ni {s:Nat} {d:Dm} (h:aI d=false):eU s d=false:=by unfold eU;rw[h];rfl
theorem KQ {s:Nat} {d:Dm} (h:¬s&&&aG d=aG d):eU s d=false:=by unfold eU;rw[decide_eq_false h,Bool.and_false]
theorem KR {s:Nat} {d:Dm} (h:aI d=true) (h2:s&&&aG d=aG d):eU s d=true:=by unfold eU;rw[h,decide_eq_true h2];rfl
theorem EP {W0:World} {gc gl gr go:Nat} {j:Nat} (hj:j<=64) (IH:∀j',j<j'->j'<=64->Jq W0 gc gl gr go j'):Jq W0 gc gl gr go j:=by
 intro s head ls v o w hs cS hh eL st;obtain⟨A,c,rfl,hc,hm⟩:=st.oh.form;obtain⟨O,oc,rfl,j5,j6⟩:=st.ol.ll.form;by_cases h0:s=0
 . subst h0;have ht:eB 0 head=[head]:=GM head;have hl:ls.length<300:=by rw[BD]at eL;simp at eL;omega
   rw[ht];clear ht eL cS;have zc:=st.bc.c1;have zl:=st.bl.c1;have fR:head.length<=64:=(by omega);go_enter func231,ntmps231
   go_wp2_with (go_at_call 205;go_must (refine(PQ st fR hl).mono ?_;rintro e w1 ⟨rfl,O1,j7,fL,fN⟩))
   go_end0
   exact⟨rfl,_,_,fL,fN,Nx.refl _ _⟩
 . obtain⟨i,hl⟩:=xB hs h0;have j8:=QO hl cS;have hi:=hl.1;obtain⟨x,hx⟩:=TV (i%8);obtain⟨y,hy⟩:=TV (i/8);have hs0:((s:Int)==0)=false:=by rw[beq_eq_false_iff_ne];omega
   have hrt:eQ i=((x:Int),(y:Int),false):=by unfold eQ;rw[<-hx,<-hy]
   have fS:fK i=((x:Int),(y:Int),true):=by unfold fK;rw[<-hx,<-hy]
   have fO:=PR hs hl head;rw[hrt,fS]at fO
   have gS:(G7 s i head ((x:Int),(y:Int),false)).length+(G7 s i head ((x:Int),(y:Int),true)).length=(jD s).length:=by
    have:=congrArg List.length fO;rw[uE,TZ]at this;omega
   have gT:aI ((x:Int),(y:Int),false)=true->eY ((x:Int),(y:Int),false)=i:=fun q=>by rw[<-hrt]at q⊢;exact MW q hi
   have gW:aI ((x:Int),(y:Int),true)=true->eY ((x:Int),(y:Int),true)=i:=fun q=>by rw[<-fS]at q⊢;exact MX q hi
   have fW:Hid (ls++eB s head=(ls++G7 s i head ((x:Int),(y:Int),false))++G7 s i head ((x:Int),(y:Int),true)):=TY (by rw[fO,List.append_assoc]);have Hl:=TY hl;have Hx:=TY hx;have Hy:=TY hy;have j1:=TY gT;have j2:=TY gW;have gX:=TY IH;have fX:=TY gS;have gY:=TY eL;obtain⟨R1,fY⟩:=TV (G7 s i head ((x:Int),(y:Int),false));obtain⟨R2,gA⟩:=TV (G7 s i head ((x:Int),(y:Int),true));rw[<-fY,<-gA]at fW fX;rw[fW.out];have gF:=TY fY;have gK:=TY gA;clear h0 cS hl hx hy hrt fS fO gS gT gW IH eL fY gA fW;go_enter func231,ntmps231
   go_wp2_with fail
   refine(EN s i x y _ hs Hl Hx Hy).mono ?_;rintro e w1 ⟨rfl,hb1⟩;have fL:=((st.bel hb1).alloc (.cells #[.int .i64 x,.int .i64 y] 83)).alloc (.cells #[.bool false,.bool true] 4);have gL:=(Blk.aZ w1 83 #[.int .i64 x,.int .i64 y]).alloc (.cells #[.bool false,.bool true] 4);have gM:=Blk.gZ (w1.alloc (.cells #[.int .i64 x,.int .i64 y] 83)) 4 #[.bool false,.bool true] (w1.heap.size+1) (by simp);have fN:Fr (.slice A head.length c) w ((w1.alloc (.cells #[.int .i64 x,.int .i64 y] 83)).alloc (.cells #[.bool false,.bool true] 4)):=Fr.bl ((hb1.al _).al _);go_wp2_with fail
   obtain⟨gC,hE⟩:=TV w1.heap.size;obtain⟨gB,hP⟩:=TV (w1.heap.size+1);rw[<-hP]at gM⊢;rw[<-hE]at gL⊢;clear hE hP st;go_loopw [18] (fun j3 wr=>∃(J:Int) (A1 O1:Option Addr) (c1 o1:Nat) (bE:List (List Dm)),j3= .int .i64 J/\LSt W0 wr gc gl gr go (.slice A1 head.length c1) head (.slice O1 bE.length o1) bE/\Fr (.slice A head.length c) w wr/\Nx w (.slice A head.length c) (.slice A1 head.length c1)/\Blk wr gC 83 #[.int .i64 x,.int .i64 y]/\Blk wr gB 4 #[.bool false,.bool true]/\Hid ((J=0/\bE=ls)∨(J=1/\bE=ls++R1)∨(J=2/\bE=(ls++R1)++R2))) (fun i _=>2-(intOf i).toNat)
   case atStart=>exact⟨0,_,_,_,_,ls,rfl,fL,fN,Nx.refl _ _,gL,gM,TY (.inl ⟨rfl,rfl⟩)⟩
   case round=>
    obtain⟨J,A1,O1,c1,o1,bE,rfl,cK,cT,bN,eK,cU,HJ⟩:=hrel;clear fL fN gL gM;have gN:=cU.cell 0;have gO:=cU.cell 1;simp only[T9,Ua,Ub]at gN gO;obtain⟨hZ,h9⟩:=eK.n2;have hBl:=cU.lt;have j0:=eK.lt;rcases HJ.out with⟨rfl,ho⟩|⟨rfl,ho⟩|⟨rfl,ho⟩
    . have Ho:Hid (bE=ls):=TY ho;have gP:Hid (bE.length+R1.length<=300):=TY (by rw[ho];have:=fX.out;have:=gY.out;omega);clear HJ ho;have j4:=cK.bl.lt;have hap:(Value.slice A1 head.length c1).ownBlock≠some wr.heap.size:=fun e=>by have:=(World.ownsRow.lt cK.oh _ e).2;omega
      have bW:=cK.alloc (.cells #[.int .i64 x,.int .i64 y,.bool false] 99);have bX:=eK.alloc (.cells #[.int .i64 x,.int .i64 y,.bool false] 99);have bY:=cU.alloc (.cells #[.int .i64 x,.int .i64 y,.bool false] 99);have bO:=Blk.aZ wr 99 #[.int .i64 x,.int .i64 y,.bool false];have b5:Fr (.slice A head.length c) w (wr.alloc (.cells #[.int .i64 x,.int .i64 y,.bool false] 99)):=cT.tr (Fr.bl ((Below.refl _ _).al _)) bN;have hwr:=cT.1;go_upto_region 7 with(fail)
      obtain⟨W,hW⟩:=TV (wr.alloc (.cells #[.int .i64 x,.int .i64 y,.bool false] 99));obtain⟨gD,eM⟩:=TV wr.heap.size;rw[<-hW]at bW bX bY bO b5⊢;rw[<-eM]at bO hap⊢;clear hW eM cK cT eK cU gN gO hZ h9 hBl j0;obtain⟨cD,cE,cF⟩:=bO.n3;have hDl:=bO.lt;have Bw:Below W.heap.size W W.drew:=(Below.refl _ _).drew;have hz:W.heap.size<=W.drew.heap.size:=(by simp);rcases bC:aI ((x:Int),(y:Int),false)with _|_
      . have hR : R1 = [] := by rw [gF.out]; exact EO (Ni bC)
        have a8:=TY bC;clear bC;refine rB (fun w'=>w'.cell? ⟨gD,0,none⟩=some (.int .i64 x)/\w'.cell? ⟨gD,1,none⟩=some (.int .i64 y)/\w'.cell? ⟨gD,2,none⟩=some (.bool false)) fun hHeld=>(tW 0)<|(tR [1])<|tL fun K hK=>?_
        go_simp
        (first|(go_at_call 105;go_must (refine(aR x y false _).mono ?_;rintro e wX ⟨rfl,a6⟩;rw[a8.out];obtain⟨bA,bB,a7⟩:=bkn a6 W.heap.size hz;have hz:=a7;have Bw:=Bw.tr a6);(try go_wp2_with fail)))
        refine tK hK fun hHeld=>?_
        clear hK K;refine(tW 2)<|(tU 3)<|(tU 4)<|(tU 5)<|(tU 6)<|(tU 7)<|(tU 8)<|(tU 9)<|(tW 10)<|tD ?_;have bJ:=bW.bel Bw;have b8:=bX.bl Bw;have b9:=bY.bl Bw;have b6:Fr (.slice A head.length c) w _:=b5.tr (Fr.bl Bw) bN;clear bW bX bY bO b5;subst hR;go_wp2;go_roundw
        case rel=>exact⟨_,_,_,_,_,bE,by go_num,bJ,b6,bN,b8,b9,TY (by first|exact .inr (.inl ⟨rfl,by rw[Ho.out,Uc]⟩)|exact .inr (.inr ⟨rfl,by rw[Ho.out,Uc]⟩))⟩
        case measure=>simp[intOf]
      . have eN:=dP bC;obtain⟨D,hD⟩:=TV (aG ((x:Int),(y:Int),false));have CD:∀w,Calls prog 106 #[.agg #[.int .i64 x,.int .i64 y,.bool false]] w (Ret (.int .u64 (D:Nat)) w):=fun w=>by rw[hD];exact cZ x y false w bC
        rw[<-hD]at eN;obtain⟨u1,u2⟩:=uB hs eN;by_cases q:s&&&D=D
        . have hne : (((s &&& D : Nat) : Int) == (D : Int)) = true := by rw [q]; simp
          have cG:eU s ((x:Int),(y:Int),false)=true:=KR bC (by rw[<-hD];exact q);have hR:R1=eB (dE s D) (head++[((x:Int),(y:Int),false)]):=(by rw[gF.out,KP cG,hD]);have hI:=j1.out bC;have bF:=Aw (j:=j) hs Hl.out bC hI;rw[<-hD]at bF;have eP:=congrArg List.length hR;rw[uE]at eP;have cH:bE.length+(jD (dE s D)).length<=300:=by have:=gP.out;omega
          have HR:=TY hR;have a8:=TY bC;have HD:=TY hD;have eR:=gX.out (i+1) (by omega) (by omega) (dE s D) (head++[((x:Int),(y:Int),false)]) bE;have cV:=fun(v o:Value) (w:World) (k:LSt W0 w gc gl gr go v (head++[((x:Int),(y:Int),false)]) o bE)=>eR v o w (eD hs) bF (by rw[TZ,List.length_singleton];omega) cH k
          rw[<-HR.out]at cV;have eW:=TY cV;have H8:Hid ((head.length+1)*24<=140737488355328):=TY (by omega);have HM:Hid (head.length+1<=maxLen):=TY (by unfold maxLen;omega);clear bC q cG hR hI bF eP cH hD eR cV;refine rB (fun w'=>w'.cell? ⟨gD,0,none⟩=some (.int .i64 x)/\w'.cell? ⟨gD,1,none⟩=some (.int .i64 y)/\w'.cell? ⟨gD,2,none⟩=some (.bool false)) fun hHeld=>(tW 0)<|(tR [1])<|tL fun K hK=>?_
          go_simp
          (first|(go_at_call 105;go_must (refine(aR x y false _).mono ?_;rintro e wX ⟨rfl,a6⟩;rw[a8.out];obtain⟨bA,bB,a7⟩:=bkn a6 W.heap.size hz;have hz:=a7;have Bw:=Bw.tr a6);(try go_wp2_with fail))|(go_at_call 106;go_must (refine(CD _).mono ?_;rintro e wX ⟨rfl,a6⟩;obtain⟨bA,bB,a7⟩:=bkn a6 W.heap.size hz;have hz:=a7;have Bw:=Bw.tr a6);(try go_wp2_with fail)))
          refine tK hK fun hHeld=>?_
          clear hK K;refine(tW 2)<|(tW 3)<|(tW 4)<|(tW 7)<|(tR [5])<|tL fun K hK=>?_
          go_simp
          (first|(go_at_call 105;go_must (refine(aR x y false _).mono ?_;rintro e wX ⟨rfl,a6⟩;rw[a8.out];obtain⟨bA,bB,a7⟩:=bkn a6 W.heap.size hz;have hz:=a7;have Bw:=Bw.tr a6);(try go_wp2_with fail))|(go_at_call 106;go_must (refine(CD _).mono ?_;rintro e wX ⟨rfl,a6⟩;obtain⟨bA,bB,a7⟩:=bkn a6 W.heap.size hz;have hz:=a7;have Bw:=Bw.tr a6);(try go_wp2_with fail)))
          refine tK hK fun hHeld=>?_
          clear hK K;refine(tW 6)<|(tR [8])<|tL fun K hK=>?_
          go_simp
          (first|(go_at_call 105;go_must (refine(aR x y false _).mono ?_;rintro e wX ⟨rfl,a6⟩;rw[a8.out];obtain⟨bA,bB,a7⟩:=bkn a6 W.heap.size hz;have hz:=a7;have Bw:=Bw.tr a6);(try go_wp2_with fail))|(go_at_call 106;go_must (refine(CD _).mono ?_;rintro e wX ⟨rfl,a6⟩;obtain⟨bA,bB,a7⟩:=bkn a6 W.heap.size hz;have hz:=a7;have Bw:=Bw.tr a6);(try go_wp2_with fail)))
          refine tK hK fun hHeld=>?_
          clear hK K;refine(tW 9)<|(tW 10)<|tD ?_;obtain⟨V,hV⟩:=TV wX;rw[<-hV]at Bw⊢;clear hV bA bB hz cD cE cF;(try clear hHeld)
          have bJ:=bW.bel Bw;have b8:=bX.bl Bw;have b9:=bY.bl Bw;have cL:=bO.bl Bw;have b6:Fr (.slice A head.length c) w V:=b5.tr (Fr.bl Bw) bN;have e5:=b6.1;clear bW bX bY bO b5 Bw;obtain⟨cD,cE,cF⟩:=cL.n3;have zl:=bJ.bl.c1;go_upto_region 9 with(at_builtin;go_must (refine pJ (enc:=aX) aK aC V bJ.B.size bJ.oh (((x:Int),(y:Int),false):Dm) (aM _) (by simp) H8.out HM.out rfl _ _ rfl rfl rfl ?_);intro A8 c8 w8 cI cW e6;have cX:=(bJ.grow cW).2.1;have z8:=cX.c1;have f8:=fun j=>cX.frozen j)
          have bR:Nx V (.slice A1 head.length c1) (.slice A8 (head.length+1) c8):=e6.imp id (fun⟨g,e,hg⟩=>⟨g,e,by omega⟩);obtain⟨cA,bL⟩:=bJ.push cW cI bR;have cB:=bL.2 gD _ _ (.inr (.inr ⟨rfl,hap⟩)) cL;have cM:=bL.2 gC _ _ (.inl rfl) b8;have cN:=bL.2 gB _ _ (.inr (.inl rfl)) b9;have cJ:=bR.ne cL hap;have bL:=b6.tr bL bN;have bR:=bN.tr bR e5;obtain⟨W8,e7⟩:=TV (w8.setCell ⟨gl,0,none⟩ (.slice A8 (head.length+1) c8));rw[<-e7]at cA cB cM cN bL⊢;clear e7 bJ b8 b9 cL b6 e5 cD cE cF zl cW e6 cX z8 f8 cI;obtain⟨cD,cE,cF⟩:=cB.n3;have zr:=cA.br.c1;have gQ:=cB.lt;have gR:=cA.br.lt;have Bw:Below W8.heap.size W8 W8.drew:=(Below.refl _ _).drew;have hz:W8.heap.size<=W8.drew.heap.size:=(by simp);refine rB (fun w'=>w'.cell? ⟨gr,0,none⟩=some (.func (.func 231) #[] #[.pointer (some ⟨gc,0,none⟩),.pointer (some ⟨gl,0,none⟩),.pointer (some ⟨gr,0,none⟩)])/\w'.cell? ⟨gD,0,none⟩=some (.int .i64 x)/\w'.cell? ⟨gD,1,none⟩=some (.int .i64 y)/\w'.cell? ⟨gD,2,none⟩=some (.bool false)) fun hHeld=>(tW 0)<|(tW 1)<|(tW 2)<|(tR [3])<|tL fun K hK=>?_
          go_simp
          (first|(go_at_call 106;go_must (refine(CD _).mono ?_;rintro e wX ⟨rfl,a6⟩;obtain⟨bA,bB,a7⟩:=bkn a6 W8.heap.size hz;have hz:=a7;have Bw:=Bw.tr a6);(try go_wp2_with fail))|(go_at_call 231;go_must (refine(eW.out _ _ _ (cA.bel Bw)).mono ?_;rintro e wX ⟨rfl,v9,o9,bK,bD,cC⟩;have bU:=bD.2 gD _ _ (.inr (.inr ⟨rfl,cJ⟩)) (cB.bl Bw);have cP:=bU.cell 0;have cQ:=bU.cell 1;have cR:=bU.cell 2;simp only[T9,Ua,Ub]at cP cQ cR;have e8:=bK.br.c1;have cY:=bD.2 gC _ _ (.inl rfl) (cM.bl Bw);have dL:=bD.2 gB _ _ (.inr (.inl rfl)) (cN.bl Bw));(try go_wp2_with fail)))
          refine tK hK fun hHeld=>?_
          clear hK K;refine(tW 4)<|(tR [5])<|tL fun K hK=>?_
          go_simp
          (first|(go_at_call 106;go_must (refine(CD _).mono ?_;rintro e wX ⟨rfl,a6⟩;obtain⟨bA,bB,a7⟩:=bkn a6 W8.heap.size hz;have hz:=a7;have Bw:=Bw.tr a6);(try go_wp2_with fail))|(go_at_call 231;go_must (refine(eW.out _ _ _ (cA.bel Bw)).mono ?_;rintro e wX ⟨rfl,v9,o9,bK,bD,cC⟩;have bU:=bD.2 gD _ _ (.inr (.inr ⟨rfl,cJ⟩)) (cB.bl Bw);have cP:=bU.cell 0;have cQ:=bU.cell 1;have cR:=bU.cell 2;simp only[T9,Ua,Ub]at cP cQ cR;have e8:=bK.br.c1;have cY:=bD.2 gC _ _ (.inl rfl) (cM.bl Bw);have dL:=bD.2 gB _ _ (.inr (.inl rfl)) (cN.bl Bw));(try go_wp2_with fail)))
          refine tK hK fun hHeld=>?_
          clear hK K;refine tD ?_;have bD:=(bL.tr (Fr.bl Bw) bR).tr bD bR;have cC:=bR.tr cC (Nat.le_trans (bL.tr (Fr.bl (v:= .slice A8 (head.length+1) c8) Bw) bR).1 (Ud _));obtain⟨V9,fD⟩:=TV wX;rw[<-fD]at bK cY dL bD⊢;clear fD cP cQ cR e8 bU cD cE cF zr cA cB cM cN bL Bw hz;(try clear bA bB)
          (try clear hHeld)
          obtain⟨A9,c9,rfl,_,_⟩:=bK.oh.form;obtain⟨O9,p9,rfl,_,_⟩:=bK.ol.ll.form;have e9:(head++[(((x:Int),(y:Int),false):Dm)]).length=head.length+1:=(by simp);rw[e9]at bK cC;have z9:=bK.bl.c1;have f9:=fun j=>bK.bl.frozen j
          obtain⟨dT,b7,eA⟩:=bK.pop;have eC:=b7.2 gC _ _ (.inl rfl) cY;have eE:=b7.2 gB _ _ (.inr (.inl rfl)) dL;have eI:=bD.tr b7 cC;have eJ:=cC.tr eA bD.1;go_wp2;go_roundw
          case rel=>exact⟨_,_,_,_,_,bE++R1,by go_num,dT,eI,eJ,eC,eE,TY (by first|exact .inr (.inl ⟨rfl,by rw[Ho.out]⟩)|exact .inr (.inr ⟨rfl,by rw[Ho.out]⟩))⟩
          case measure=>simp[intOf]
        . have hne : (((s &&& D : Nat) : Int) == (D : Int)) = false := by rw [beq_eq_false_iff_ne]; omega
          have hR:R1=[]:=by rw[gF.out];exact EO (KQ (by rw[<-hD];exact q))
          have a8:=TY bC;clear bC q hD;refine rB (fun w'=>w'.cell? ⟨gD,0,none⟩=some (.int .i64 x)/\w'.cell? ⟨gD,1,none⟩=some (.int .i64 y)/\w'.cell? ⟨gD,2,none⟩=some (.bool false)) fun hHeld=>(tW 0)<|(tR [1])<|tL fun K hK=>?_
          go_simp
          (first|(go_at_call 105;go_must (refine(aR x y false _).mono ?_;rintro e wX ⟨rfl,a6⟩;rw[a8.out];obtain⟨bA,bB,a7⟩:=bkn a6 W.heap.size hz;have hz:=a7;have Bw:=Bw.tr a6);(try go_wp2_with fail))|(go_at_call 106;go_must (refine(CD _).mono ?_;rintro e wX ⟨rfl,a6⟩;obtain⟨bA,bB,a7⟩:=bkn a6 W.heap.size hz;have hz:=a7;have Bw:=Bw.tr a6);(try go_wp2_with fail)))
          refine tK hK fun hHeld=>?_
          clear hK K;refine(tW 2)<|(tW 3)<|(tW 4)<|(tW 7)<|(tR [5])<|tL fun K hK=>?_
          go_simp
          (first|(go_at_call 105;go_must (refine(aR x y false _).mono ?_;rintro e wX ⟨rfl,a6⟩;rw[a8.out];obtain⟨bA,bB,a7⟩:=bkn a6 W.heap.size hz;have hz:=a7;have Bw:=Bw.tr a6);(try go_wp2_with fail))|(go_at_call 106;go_must (refine(CD _).mono ?_;rintro e wX ⟨rfl,a6⟩;obtain⟨bA,bB,a7⟩:=bkn a6 W.heap.size hz;have hz:=a7;have Bw:=Bw.tr a6);(try go_wp2_with fail)))
          refine tK hK fun hHeld=>?_
          clear hK K;refine(tW 6)<|(tR [8])<|tL fun K hK=>?_
          go_simp
          (first|(go_at_call 105;go_must (refine(aR x y false _).mono ?_;rintro e wX ⟨rfl,a6⟩;rw[a8.out];obtain⟨bA,bB,a7⟩:=bkn a6 W.heap.size hz;have hz:=a7;have Bw:=Bw.tr a6);(try go_wp2_with fail))|(go_at_call 106;go_must (refine(CD _).mono ?_;rintro e wX ⟨rfl,a6⟩;obtain⟨bA,bB,a7⟩:=bkn a6 W.heap.size hz;have hz:=a7;have Bw:=Bw.tr a6);(try go_wp2_with fail)))
          refine tK hK fun hHeld=>?_
          clear hK K;refine(tW 9)<|(tW 10)<|tD ?_;have bJ:=bW.bel Bw;have b8:=bX.bl Bw;have b9:=bY.bl Bw;have b6:Fr (.slice A head.length c) w _:=b5.tr (Fr.bl Bw) bN;clear bW bX bY bO b5;subst hR;go_wp2;go_roundw
          case rel=>exact⟨_,_,_,_,_,bE,by go_num,bJ,b6,bN,b8,b9,TY (by first|exact .inr (.inl ⟨rfl,by rw[Ho.out,Uc]⟩)|exact .inr (.inr ⟨rfl,by rw[Ho.out,Uc]⟩))⟩
          case measure=>simp[intOf]
    . have Ho:Hid (bE=ls++R1):=TY ho;have gP:Hid (bE.length+R2.length<=300):=TY (by rw[ho,TZ];have:=fX.out;have:=gY.out;omega);clear HJ ho;have j4:=cK.bl.lt;have hap:(Value.slice A1 head.length c1).ownBlock≠some wr.heap.size:=fun e=>by have:=(World.ownsRow.lt cK.oh _ e).2;omega
      have bW:=cK.alloc (.cells #[.int .i64 x,.int .i64 y,.bool true] 99);have bX:=eK.alloc (.cells #[.int .i64 x,.int .i64 y,.bool true] 99);have bY:=cU.alloc (.cells #[.int .i64 x,.int .i64 y,.bool true] 99);have bO:=Blk.aZ wr 99 #[.int .i64 x,.int .i64 y,.bool true];have b5:Fr (.slice A head.length c) w (wr.alloc (.cells #[.int .i64 x,.int .i64 y,.bool true] 99)):=cT.tr (Fr.bl ((Below.refl _ _).al _)) bN;have hwr:=cT.1;go_upto_region 7 with(fail)
      obtain⟨W,hW⟩:=TV (wr.alloc (.cells #[.int .i64 x,.int .i64 y,.bool true] 99));obtain⟨gD,eM⟩:=TV wr.heap.size;rw[<-hW]at bW bX bY bO b5⊢;rw[<-eM]at bO hap⊢;clear hW eM cK cT eK cU gN gO hZ h9 hBl j0;obtain⟨cD,cE,cF⟩:=bO.n3;have hDl:=bO.lt;have Bw:Below W.heap.size W W.drew:=(Below.refl _ _).drew;have hz:W.heap.size<=W.drew.heap.size:=(by simp);rcases bC:aI ((x:Int),(y:Int),true)with _|_
      . have hR : R2 = [] := by rw [gK.out]; exact EO (Ni bC)
        have a8:=TY bC;clear bC;refine rB (fun w'=>w'.cell? ⟨gD,0,none⟩=some (.int .i64 x)/\w'.cell? ⟨gD,1,none⟩=some (.int .i64 y)/\w'.cell? ⟨gD,2,none⟩=some (.bool true)) fun hHeld=>(tW 0)<|(tR [1])<|tL fun K hK=>?_
        go_simp
        (first|(go_at_call 105;go_must (refine(aR x y true _).mono ?_;rintro e wX ⟨rfl,a6⟩;rw[a8.out];obtain⟨bA,bB,a7⟩:=bkn a6 W.heap.size hz;have hz:=a7;have Bw:=Bw.tr a6);(try go_wp2_with fail)))
        refine tK hK fun hHeld=>?_
        clear hK K;refine(tW 2)<|(tU 3)<|(tU 4)<|(tU 5)<|(tU 6)<|(tU 7)<|(tU 8)<|(tU 9)<|(tW 10)<|tD ?_;have bJ:=bW.bel Bw;have b8:=bX.bl Bw;have b9:=bY.bl Bw;have b6:Fr (.slice A head.length c) w _:=b5.tr (Fr.bl Bw) bN;clear bW bX bY bO b5;subst hR;go_wp2;go_roundw
        case rel=>exact⟨_,_,_,_,_,bE,by go_num,bJ,b6,bN,b8,b9,TY (by first|exact .inr (.inl ⟨rfl,by rw[Ho.out,Uc]⟩)|exact .inr (.inr ⟨rfl,by rw[Ho.out,Uc]⟩))⟩
        case measure=>simp[intOf]
      . have eN:=dP bC;obtain⟨D,hD⟩:=TV (aG ((x:Int),(y:Int),true));have CD:∀w,Calls prog 106 #[.agg #[.int .i64 x,.int .i64 y,.bool true]] w (Ret (.int .u64 (D:Nat)) w):=fun w=>by rw[hD];exact cZ x y true w bC
        rw[<-hD]at eN;obtain⟨u1,u2⟩:=uB hs eN;by_cases q:s&&&D=D
        . have hne : (((s &&& D : Nat) : Int) == (D : Int)) = true := by rw [q]; simp
          have cG:eU s ((x:Int),(y:Int),true)=true:=KR bC (by rw[<-hD];exact q);have hR:R2=eB (dE s D) (head++[((x:Int),(y:Int),true)]):=(by rw[gK.out,KP cG,hD]);have hI:=j2.out bC;have bF:=Aw (j:=j) hs Hl.out bC hI;rw[<-hD]at bF;have eP:=congrArg List.length hR;rw[uE]at eP;have cH:bE.length+(jD (dE s D)).length<=300:=by have:=gP.out;omega
          have HR:=TY hR;have a8:=TY bC;have HD:=TY hD;have eR:=gX.out (i+1) (by omega) (by omega) (dE s D) (head++[((x:Int),(y:Int),true)]) bE;have cV:=fun(v o:Value) (w:World) (k:LSt W0 w gc gl gr go v (head++[((x:Int),(y:Int),true)]) o bE)=>eR v o w (eD hs) bF (by rw[TZ,List.length_singleton];omega) cH k
          rw[<-HR.out]at cV;have eW:=TY cV;have H8:Hid ((head.length+1)*24<=140737488355328):=TY (by omega);have HM:Hid (head.length+1<=maxLen):=TY (by unfold maxLen;omega);clear bC q cG hR hI bF eP cH hD eR cV;refine rB (fun w'=>w'.cell? ⟨gD,0,none⟩=some (.int .i64 x)/\w'.cell? ⟨gD,1,none⟩=some (.int .i64 y)/\w'.cell? ⟨gD,2,none⟩=some (.bool true)) fun hHeld=>(tW 0)<|(tR [1])<|tL fun K hK=>?_
          go_simp
          (first|(go_at_call 105;go_must (refine(aR x y true _).mono ?_;rintro e wX ⟨rfl,a6⟩;rw[a8.out];obtain⟨bA,bB,a7⟩:=bkn a6 W.heap.size hz;have hz:=a7;have Bw:=Bw.tr a6);(try go_wp2_with fail))|(go_at_call 106;go_must (refine(CD _).mono ?_;rintro e wX ⟨rfl,a6⟩;obtain⟨bA,bB,a7⟩:=bkn a6 W.heap.size hz;have hz:=a7;have Bw:=Bw.tr a6);(try go_wp2_with fail)))
          refine tK hK fun hHeld=>?_
          clear hK K;refine(tW 2)<|(tW 3)<|(tW 4)<|(tW 7)<|(tR [5])<|tL fun K hK=>?_
          go_simp
          (first|(go_at_call 105;go_must (refine(aR x y true _).mono ?_;rintro e wX ⟨rfl,a6⟩;rw[a8.out];obtain⟨bA,bB,a7⟩:=bkn a6 W.heap.size hz;have hz:=a7;have Bw:=Bw.tr a6);(try go_wp2_with fail))|(go_at_call 106;go_must (refine(CD _).mono ?_;rintro e wX ⟨rfl,a6⟩;obtain⟨bA,bB,a7⟩:=bkn a6 W.heap.size hz;have hz:=a7;have Bw:=Bw.tr a6);(try go_wp2_with fail)))
          refine tK hK fun hHeld=>?_
          clear hK K;refine(tW 6)<|(tR [8])<|tL fun K hK=>?_
          go_simp
          (first|(go_at_call 105;go_must (refine(aR x y true _).mono ?_;rintro e wX ⟨rfl,a6⟩;rw[a8.out];obtain⟨bA,bB,a7⟩:=bkn a6 W.heap.size hz;have hz:=a7;have Bw:=Bw.tr a6);(try go_wp2_with fail))|(go_at_call 106;go_must (refine(CD _).mono ?_;rintro e wX ⟨rfl,a6⟩;obtain⟨bA,bB,a7⟩:=bkn a6 W.heap.size hz;have hz:=a7;have Bw:=Bw.tr a6);(try go_wp2_with fail)))
          refine tK hK fun hHeld=>?_
          clear hK K;refine(tW 9)<|(tW 10)<|tD ?_;obtain⟨V,hV⟩:=TV wX;rw[<-hV]at Bw⊢;clear hV bA bB hz cD cE cF;(try clear hHeld)
          have bJ:=bW.bel Bw;have b8:=bX.bl Bw;have b9:=bY.bl Bw;have cL:=bO.bl Bw;have b6:Fr (.slice A head.length c) w V:=b5.tr (Fr.bl Bw) bN;have e5:=b6.1;clear bW bX bY bO b5 Bw;obtain⟨cD,cE,cF⟩:=cL.n3;have zl:=bJ.bl.c1;go_upto_region 9 with(at_builtin;go_must (refine pJ (enc:=aX) aK aC V bJ.B.size bJ.oh (((x:Int),(y:Int),true):Dm) (aM _) (by simp) H8.out HM.out rfl _ _ rfl rfl rfl ?_);intro A8 c8 w8 cI cW e6;have cX:=(bJ.grow cW).2.1;have z8:=cX.c1;have f8:=fun j=>cX.frozen j)
          have bR:Nx V (.slice A1 head.length c1) (.slice A8 (head.length+1) c8):=e6.imp id (fun⟨g,e,hg⟩=>⟨g,e,by omega⟩);obtain⟨cA,bL⟩:=bJ.push cW cI bR;have cB:=bL.2 gD _ _ (.inr (.inr ⟨rfl,hap⟩)) cL;have cM:=bL.2 gC _ _ (.inl rfl) b8;have cN:=bL.2 gB _ _ (.inr (.inl rfl)) b9;have cJ:=bR.ne cL hap;have bL:=b6.tr bL bN;have bR:=bN.tr bR e5;obtain⟨W8,e7⟩:=TV (w8.setCell ⟨gl,0,none⟩ (.slice A8 (head.length+1) c8));rw[<-e7]at cA cB cM cN bL⊢;clear e7 bJ b8 b9 cL b6 e5 cD cE cF zl cW e6 cX z8 f8 cI;obtain⟨cD,cE,cF⟩:=cB.n3;have zr:=cA.br.c1;have gQ:=cB.lt;have gR:=cA.br.lt;have Bw:Below W8.heap.size W8 W8.drew:=(Below.refl _ _).drew;have hz:W8.heap.size<=W8.drew.heap.size:=(by simp);refine rB (fun w'=>w'.cell? ⟨gr,0,none⟩=some (.func (.func 231) #[] #[.pointer (some ⟨gc,0,none⟩),.pointer (some ⟨gl,0,none⟩),.pointer (some ⟨gr,0,none⟩)])/\w'.cell? ⟨gD,0,none⟩=some (.int .i64 x)/\w'.cell? ⟨gD,1,none⟩=some (.int .i64 y)/\w'.cell? ⟨gD,2,none⟩=some (.bool true)) fun hHeld=>(tW 0)<|(tW 1)<|(tW 2)<|(tR [3])<|tL fun K hK=>?_
          go_simp
          (first|(go_at_call 106;go_must (refine(CD _).mono ?_;rintro e wX ⟨rfl,a6⟩;obtain⟨bA,bB,a7⟩:=bkn a6 W8.heap.size hz;have hz:=a7;have Bw:=Bw.tr a6);(try go_wp2_with fail))|(go_at_call 231;go_must (refine(eW.out _ _ _ (cA.bel Bw)).mono ?_;rintro e wX ⟨rfl,v9,o9,bK,bD,cC⟩;have bU:=bD.2 gD _ _ (.inr (.inr ⟨rfl,cJ⟩)) (cB.bl Bw);have cP:=bU.cell 0;have cQ:=bU.cell 1;have cR:=bU.cell 2;simp only[T9,Ua,Ub]at cP cQ cR;have e8:=bK.br.c1;have cY:=bD.2 gC _ _ (.inl rfl) (cM.bl Bw);have dL:=bD.2 gB _ _ (.inr (.inl rfl)) (cN.bl Bw));(try go_wp2_with fail)))
          refine tK hK fun hHeld=>?_
          clear hK K;refine(tW 4)<|(tR [5])<|tL fun K hK=>?_
          go_simp
          (first|(go_at_call 106;go_must (refine(CD _).mono ?_;rintro e wX ⟨rfl,a6⟩;obtain⟨bA,bB,a7⟩:=bkn a6 W8.heap.size hz;have hz:=a7;have Bw:=Bw.tr a6);(try go_wp2_with fail))|(go_at_call 231;go_must (refine(eW.out _ _ _ (cA.bel Bw)).mono ?_;rintro e wX ⟨rfl,v9,o9,bK,bD,cC⟩;have bU:=bD.2 gD _ _ (.inr (.inr ⟨rfl,cJ⟩)) (cB.bl Bw);have cP:=bU.cell 0;have cQ:=bU.cell 1;have cR:=bU.cell 2;simp only[T9,Ua,Ub]at cP cQ cR;have e8:=bK.br.c1;have cY:=bD.2 gC _ _ (.inl rfl) (cM.bl Bw);have dL:=bD.2 gB _ _ (.inr (.inl rfl)) (cN.bl Bw));(try go_wp2_with fail)))
          refine tK hK fun hHeld=>?_
          clear hK K;refine tD ?_;have bD:=(bL.tr (Fr.bl Bw) bR).tr bD bR;have cC:=bR.tr cC (Nat.le_trans (bL.tr (Fr.bl (v:= .slice A8 (head.length+1) c8) Bw) bR).1 (Ud _));obtain⟨V9,fD⟩:=TV wX;rw[<-fD]at bK cY dL bD⊢;clear fD cP cQ cR e8 bU cD cE cF zr cA cB cM cN bL Bw hz;(try clear bA bB)
          (try clear hHeld)
          obtain⟨A9,c9,rfl,_,_⟩:=bK.oh.form;obtain⟨O9,p9,rfl,_,_⟩:=bK.ol.ll.form;have e9:(head++[(((x:Int),(y:Int),true):Dm)]).length=head.length+1:=(by simp);rw[e9]at bK cC;have z9:=bK.bl.c1;have f9:=fun j=>bK.bl.frozen j
          obtain⟨dT,b7,eA⟩:=bK.pop;have eC:=b7.2 gC _ _ (.inl rfl) cY;have eE:=b7.2 gB _ _ (.inr (.inl rfl)) dL;have eI:=bD.tr b7 cC;have eJ:=cC.tr eA bD.1;go_wp2;go_roundw
          case rel=>exact⟨_,_,_,_,_,bE++R2,by go_num,dT,eI,eJ,eC,eE,TY (by first|exact .inr (.inl ⟨rfl,by rw[Ho.out]⟩)|exact .inr (.inr ⟨rfl,by rw[Ho.out]⟩))⟩
          case measure=>simp[intOf]
        . have hne : (((s &&& D : Nat) : Int) == (D : Int)) = false := by rw [beq_eq_false_iff_ne]; omega
          have hR:R2=[]:=by rw[gK.out];exact EO (KQ (by rw[<-hD];exact q))
          have a8:=TY bC;clear bC q hD;refine rB (fun w'=>w'.cell? ⟨gD,0,none⟩=some (.int .i64 x)/\w'.cell? ⟨gD,1,none⟩=some (.int .i64 y)/\w'.cell? ⟨gD,2,none⟩=some (.bool true)) fun hHeld=>(tW 0)<|(tR [1])<|tL fun K hK=>?_
          go_simp
          (first|(go_at_call 105;go_must (refine(aR x y true _).mono ?_;rintro e wX ⟨rfl,a6⟩;rw[a8.out];obtain⟨bA,bB,a7⟩:=bkn a6 W.heap.size hz;have hz:=a7;have Bw:=Bw.tr a6);(try go_wp2_with fail))|(go_at_call 106;go_must (refine(CD _).mono ?_;rintro e wX ⟨rfl,a6⟩;obtain⟨bA,bB,a7⟩:=bkn a6 W.heap.size hz;have hz:=a7;have Bw:=Bw.tr a6);(try go_wp2_with fail)))
          refine tK hK fun hHeld=>?_
          clear hK K;refine(tW 2)<|(tW 3)<|(tW 4)<|(tW 7)<|(tR [5])<|tL fun K hK=>?_
          go_simp
          (first|(go_at_call 105;go_must (refine(aR x y true _).mono ?_;rintro e wX ⟨rfl,a6⟩;rw[a8.out];obtain⟨bA,bB,a7⟩:=bkn a6 W.heap.size hz;have hz:=a7;have Bw:=Bw.tr a6);(try go_wp2_with fail))|(go_at_call 106;go_must (refine(CD _).mono ?_;rintro e wX ⟨rfl,a6⟩;obtain⟨bA,bB,a7⟩:=bkn a6 W.heap.size hz;have hz:=a7;have Bw:=Bw.tr a6);(try go_wp2_with fail)))
          refine tK hK fun hHeld=>?_
          clear hK K;refine(tW 6)<|(tR [8])<|tL fun K hK=>?_
          go_simp
          (first|(go_at_call 105;go_must (refine(aR x y true _).mono ?_;rintro e wX ⟨rfl,a6⟩;rw[a8.out];obtain⟨bA,bB,a7⟩:=bkn a6 W.heap.size hz;have hz:=a7;have Bw:=Bw.tr a6);(try go_wp2_with fail))|(go_at_call 106;go_must (refine(CD _).mono ?_;rintro e wX ⟨rfl,a6⟩;obtain⟨bA,bB,a7⟩:=bkn a6 W.heap.size hz;have hz:=a7;have Bw:=Bw.tr a6);(try go_wp2_with fail)))
          refine tK hK fun hHeld=>?_
          clear hK K;refine(tW 9)<|(tW 10)<|tD ?_;have bJ:=bW.bel Bw;have b8:=bX.bl Bw;have b9:=bY.bl Bw;have b6:Fr (.slice A head.length c) w _:=b5.tr (Fr.bl Bw) bN;clear bW bX bY bO b5;subst hR;go_wp2;go_roundw
          case rel=>exact⟨_,_,_,_,_,bE,by go_num,bJ,b6,bN,b8,b9,TY (by first|exact .inr (.inl ⟨rfl,by rw[Ho.out,Uc]⟩)|exact .inr (.inr ⟨rfl,by rw[Ho.out,Uc]⟩))⟩
          case measure=>simp[intOf]
    . have Ho:=TY ho;clear HJ ho;go_wp2;go_end0
      obtain rfl:bE=ls++R1++R2:=Ho.out;exact⟨rfl,_,_,cK,cT,bN⟩
theorem Oi {W0:World} {gc gl gr go:Nat}:∀j,j<=64->Jq W0 gc gl gr go j:=by
 have key:∀n j,j<=64->64-j<=n->Jq W0 gc gl gr go j:=by
  intro n;induction n with
  |zero=>intro j h1 h2;exact EP h1 (fun j' a b=>by omega)
  |succ n ih=>intro j h1 h2;exact EP h1 (fun j' a b=>ih j' b (by omega))
 exact fun j hj=>key (64-j) j hj (Ud _)
theorem Oj {W0 w:World} (s go oc:Nat) (O:Option Addr) (hs:s<U64) (hn:(jD s).length<=300) (bo:Blk w go 158 #[.slice O 0 oc]) (oo:aD 27 1 eV W0.heap.size w (.slice O 0 oc) []) (B:Below W0.heap.size W0 w) (hgo:W0.heap.size<=go):
 Calls prog 204 #[.int .u64 s,.func (.func 205) #[] #[.pointer (some ⟨go,0,none⟩)]] w (fun e w'=>e= .returned (.tuple #[])/\∃o',Blk w' go 158 #[o']/\dU 27 99 3 aX W0.heap.size w' o' (jD s)/\Below W0.heap.size W0 w'):=by
 obtain⟨W,hW⟩:=TV ((((w.alloc (.cells #[.func (.func 205) #[] #[.pointer (some ⟨go,0,none⟩)]] 198)).alloc (.cells #[] 99)).alloc (.cells #[.slice (some ⟨w.heap.size+1,0,none⟩) 0 0] 27)).alloc (.cells #[.nilFunc] 230));have a8:=bo.lt;have a6:Below w.heap.size w W:=by rw[hW];exact((((Below.refl w.heap.size w).al _).al _).al _).al _
 have bc:Blk W w.heap.size 198 #[.func (.func 205) #[] #[.pointer (some ⟨go,0,none⟩)]]:=by rw[hW];exact(((Blk.aZ w _ _).alloc _).alloc _).alloc _
 have bl:Blk W (w.heap.size+1+1) 27 #[.slice (some ⟨w.heap.size+1,0,none⟩) 0 0]:=by
  rw[hW];exact(Blk.gZ ((w.alloc (.cells #[.func (.func 205) #[] #[.pointer (some ⟨go,0,none⟩)]] 198)).alloc (.cells #[] 99)) 27 _ (w.heap.size+1+1) (by simp)).alloc _
 have br:Blk W (w.heap.size+1+1+1) 230 #[.nilFunc]:=by
  rw[hW];exact Blk.gZ (((w.alloc (.cells #[.func (.func 205) #[] #[.pointer (some ⟨go,0,none⟩)]] 198)).alloc (.cells #[] 99)).alloc (.cells #[.slice (some ⟨w.heap.size+1,0,none⟩) 0 0] 27)) 230 _ (w.heap.size+1+1+1) (by simp)
 have oh:aD 99 3 aX W0.heap.size W (.slice (some ⟨w.heap.size+1,0,none⟩) ([]:List Dm).length 0) []:=by
  have:=(eZ (w.alloc (.cells #[.func (.func 205) #[] #[.pointer (some ⟨go,0,none⟩)]] 198)) (E:=99) (size:=3) (enc:=aX)).mono (show W0.heap.size<=_ by have:=B.size;simp;omega);rw[hW];have q:=(this.alloc (.cells #[.slice (some ⟨w.heap.size+1,0,none⟩) 0 0] 27)).alloc (.cells #[.nilFunc] 230);simpa using q
 have bK:=B.size;obtain⟨gc,bA⟩:=TV w.heap.size;obtain⟨gh,a7⟩:=TV (w.heap.size+1);obtain⟨gl,bB⟩:=TV (w.heap.size+1+1);obtain⟨gr,hgr⟩:=TV (w.heap.size+1+1+1);have bF:=bo.bl a6;have bJ:=oo.below a6;have B1:=B.tr a6;have bL:(Value.slice O 0 oc).ownBlock≠some gl:=fun e=>by have:=(World.ownsRow.lt oo _ e).2;omega
 go_enter Tryz.func204,Tryz.ntmps204
 go_upto_region 3 with(fail)
 rw[<-hW,<-hgr,<-bB,<-a7,<-bA];rw[<-hgr]at br;rw[<-bB,<-a7]at bl;rw[<-a7]at oh;rw[<-bA]at bc;have bC:W0.heap.size<=gl:=(by omega);have bD:W0.heap.size<=gr:=(by omega);clear hW bA a7 bB hgr a6 B bo oo bK a8;have z0:=br.c1;have f0:=fun j=>br.frozen j
 have bN:=br.Dq 0 (.func (.func 231) #[] #[.pointer (some ⟨gc,0,none⟩),.pointer (some ⟨gl,0,none⟩),.pointer (some ⟨gr,0,none⟩)]);have n1:=bc.ne br (by decide);have n2:=bl.ne br (by decide);have n3:=bF.ne br (by decide)
 have st:LSt W0 (W.setCell ⟨gr,0,none⟩ (.func (.func 231) #[] #[.pointer (some ⟨gc,0,none⟩),.pointer (some ⟨gl,0,none⟩),.pointer (some ⟨gr,0,none⟩)])) gc gl gr go (.slice (some ⟨gh,0,none⟩) ([]:List Dm).length 0) [] (.slice O 0 oc) []:=
  ⟨bc.far n1 _,bl.far n2 _,bN,bF.far n3 _,oh.far (oh.apart br (by decide)) _,⟨[],bJ.far (bJ.apart br (by decide)) _,rfl,fun k u x h=>by simp at h⟩,bL,B1.st _ _ bD,bC,hgo⟩
 go_wp2_with (go_at_call 231;go_must (refine(Oi 0 (by decide) s [] [] _ _ _ hs (fun k hk=>absurd hk (Nat.not_lt_zero k)) (by simp) (by simpa using hn) st).mono ?_;rintro e w1 ⟨rfl,v',o',bE,bO,bR⟩))
 go_end0
 refine⟨rfl,o',bE.bo,?_,bE.B⟩;have:=bE.ol.ll;rw[List.nil_append,Kr]at this;exact this
theorem G8 (v:Value) (rows:List Int) (w:World) (h:Rd 1 bG w v rows):Calls prog 146 #[.agg #[v]] w (EA (aH rows) w):=by
 obtain⟨A,c,rfl,hc,hm⟩:=h.form;have hA:=(Below.refl w.heap.size w).al (.cells #[.slice A rows.length c] 26);have bX:=Blk.aZ w 26 #[.slice A rows.length c];have hlen:=Az rows;obtain⟨R,hR⟩:=TV (aH rows);rw[<-hR]at hlen⊢;unfold aH at hR;obtain⟨n,hn⟩:=TV (aY rows);have C:∀(u:Value) (w:World),Rd 1 bG w u rows->Calls prog 203 #[.agg #[u]] w (Ret (.int .i64 n) w):=fun u w k1=>by rw[hn];exact Ct u rows w k1
 obtain⟨i,hi⟩:=TV (inB n 1 300);have CI:∀(w:World),Calls prog 46 #[.int .i64 n,.int .i64 1,.int .i64 300] w (Pure (.bool i) w):=fun w=>by rw[hi];exact dI n 1 300 w
 rw[<-hn,<-hi]at hR;cases i
 . obtain rfl : R = [] := by rw [hR]; rfl
   clear hR hi hn hlen;go_enter func146,ntmps146
   go_wp2_with fail
   refine(C _ _ (h.TW hA)).mono ?_;rintro e w1 ⟨rfl,hb1⟩;go_wp2_with (go_at_call 46;(with_reducible refine(CI _).mono ?_);rintro e w' ⟨rfl,rfl⟩)
   go_ret;exact⟨none,0,rfl,dU.DF,hA.tr hb1⟩
 . obtain rfl : R = jD (setOf rows) := by rw [hR]; rfl
   have hr:bQ rows=true:=by
    rcases q:bQ rows with _|_
    . have h1 : 1 <= n /\ n <= 300 := by simpa [inB] using hi.symm
      exact absurd (show aY rows=0 by unfold aY;rw[q];rfl) (by omega)
    . rfl
   have a7:Hid (dY rows):=TY (aN.1 hr);have hs0:=dW a7.out;obtain⟨s,a6⟩:=TV (setOf rows);have CS:∀(u:Value) (w:World),Rd 1 bG w u rows->Calls prog 61 #[.agg #[u]] w (Ret (.int .u64 (s:Nat)) w):=fun u w k1=>by rw[a6];exact pM u rows w k1 a7
   rw[<-a6]at hs0 hlen⊢;clear hR hi hn a6 hr;go_enter func146,ntmps146
   go_wp2_with fail
   refine(C _ _ (h.TW hA)).mono ?_;rintro e w1 ⟨rfl,hb1⟩;have B1:=(hA.tr hb1).al (.cells #[] 27);have z0:=(bX.bl hb1).c1;have hl:=(bX.bl hb1).lt;go_upto_region 4 with(go_at_call 46;(with_reducible refine(CI _).mono ?_);rintro e w' ⟨rfl,rfl⟩)
   have bO:=Blk.gZ (w1.alloc (.cells #[] 27)) 158 #[.slice (some ⟨w1.heap.size,0,none⟩) 0 0] (w1.heap.size+1) (by simp)
   have oO:aD 27 1 eV w.heap.size ((w1.alloc (.cells #[] 27)).alloc (.cells #[.slice (some ⟨w1.heap.size,0,none⟩) 0 0] 158)) (.slice (some ⟨w1.heap.size,0,none⟩) 0 0) []:=
    ((eZ w1 (E:=27) (size:=1) (enc:=eV)).mono (hA.tr hb1).size).alloc _
   have B2:=B1.al (.cells #[.slice (some ⟨w1.heap.size,0,none⟩) 0 0] 158);have a8:=((bX.bl hb1).alloc (.cells #[] 27)).alloc (.cells #[.slice (some ⟨w1.heap.size,0,none⟩) 0 0] 158);have hg0:w.heap.size<=w1.heap.size+1:=(by omega);obtain⟨W,hW⟩:=TV ((w1.alloc (.cells #[] 27)).alloc (.cells #[.slice (some ⟨w1.heap.size,0,none⟩) 0 0] 158));obtain⟨go,hgo⟩:=TV (w1.heap.size+1);rw[<-hW]at bO oO B2 a8⊢;rw[<-hgo]at bO hg0⊢;clear hW hgo B1 z0 hl hb1 hA bX;have zx:=a8.c1;go_wp2_with fail
   refine(CS _ _ (h.TW B2)).mono ?_;rintro e w3 ⟨rfl,hb3⟩;go_wp2_with (go_at_call 204;go_must (refine(Oj (W0:=w) s go _ _ hs0 hlen (bO.bl hb3) (oO.below hb3) (B2.tr hb3) hg0).mono ?_;rintro e w4 ⟨rfl,o',bB,bA,B4⟩;obtain⟨O4,c4,rfl,_,_⟩:=bA.form;have zo:=bB.c1))
   go_ret;exact⟨O4,c4,rfl,bA,B4⟩
end Go.Proofs.YtjijonhkofhikaaGreatDoor
