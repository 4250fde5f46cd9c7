/- The list of tilings, by the program: the walk. Condition: at most 300 of them. -/
import Derived.Test.YtljfoohaapckeaaGreatDoorDListSt
import Derived.Test.YtljfoohaapckeaaGreatDoorDG28
import Derived.Test.YtljfoohaapckeaaGreatDoorDG6
import Derived.Laws.EntriesVeiled
open _root_.List (length length_append getElem?_toArray getElem?_cons_zero getElem?_cons_succ append_nil)
open _root_.Go.Proofs.Tryz (prog func215 ntmps215 func130 ntmps130)
namespace Go.Proofs.YtljfoohaapckeaaGreatDoor
open Go.ChangeShapes Go.WideShapes Go.ChangeAt Go.RowKit
set_option linter.unusedVariables false
set_option linter.unusedSimpArgs false
set_option maxHeartbeats 4000000
set_option maxRecDepth 100000
theorem LH {W0 w:World} {gc gl gr go:Nat} {A O:Option Addr} {c oc:Nat} {head:List Dm} {ls:List (List Dm)} (st:LSt W0 w gc gl gr go (.slice A head.length c) head (.slice O ls.length oc) ls) (hh:head.length<=64) (hl:ls.length<300):
 Calls prog 185 #[.slice A head.length c,.pointer (some ⟨go,0,none⟩)] w (fun e w'=>e= .returned (.tuple #[])/\∃O' oc',LSt W0 w' gc gl gr go (.slice A head.length c) head (.slice O' (ls.length+1) oc') (ls++[head])/\Fr (.slice A head.length c) w w'):=by
 have Bw:Below w.heap.size w w.drew:=(Below.refl _ _).drew;have st:=st.bel Bw;have hz:w.heap.size<=w.drew.heap.size:=(by simp);have zo:=st.bo.c1;have H8:Hid ((ls.length+1)*24<=140737488355328):=OA (by omega);have HM:Hid (ls.length+1<=maxLen):=OA (by unfold maxLen;omega);have hs:Small head.length:=by unfold Small;omega
 go_enter Tryz.func185,Tryz.ntmps185
 refine rB (fun _=>True) fun hHeld=>(tW 1)<|(tR [0,2])<|tC (fun K hK=>?_) ?_
 go_simp
 refine tK hK fun hHeld=>?_
 clear hK K;refine(tR [2])<|tL fun K hK=>?_
 (go_simp;go_at_call 88;go_must (refine(cZ _ head _ (st.oh.rd aB (by decide)) hs).mono ?_;rintro e wX ⟨D,d,rfl,oU,hbX⟩;have stX:=st.bel hbX;have zo:=stX.bo.c1))
 refine tK hK fun hHeld=>?_
 clear hK K;refine(tR [3])<|tL fun K hK=>?_
 (go_simp;have zo:=(stX.alloc (.cells #[.slice D head.length d] 27)).bo.c1)
 refine tK hK fun hHeld=>?_
 clear hK K;refine(tR [4])<|tL fun K hK=>?_
 (obtain⟨us,u1,u2,u3⟩:=stX.ol;refine yK (enc:=eV) mW zG wX stX.B.size u1 (.slice D head.length d) (by simp[eV,Value.oneCell']) rfl (by rw[u2];exact H8.out) (by rw[u2];exact HM.out) rfl _ _ rfl rfl rfl ?_;intro A4 c4 w4 o4 g4 d4;rw[u2]at o4 d4⊢;have bo4:=stX.bo.grown g4 (fun e=>u1.apart stX.bo (by decide) e.symm);have zo4:=bo4.c1;obtain⟨stF,frF⟩:=st.add hbX oU u1 u2 u3 g4 o4 (d4.imp id (fun⟨g,e,hg⟩=>⟨g,e,by omega⟩)))
 refine tK hK fun hHeld=>?_
 clear hK K;refine(tR [5])<|tL fun K hK=>?_
 (have zf:=fun j=>bo4.frozen j;go_simp)
 refine tK hK fun hHeld=>?_
 clear hK K;refine tD ?_
 rotate_left 1
 refine tL fun K hK=>?_
 (go_simp;go_at_call 88;go_must (refine(cZ _ head _ (st.oh.rd aB (by decide)) hs).mono ?_;rintro e wX ⟨D,d,rfl,oU,hbX⟩;have stX:=st.bel hbX;have zo:=stX.bo.c1))
 refine tK hK fun hHeld=>?_
 clear hK K;refine(tR [0,3])<|tC (fun K hK=>?_) ?_;go_simp
 refine tK hK fun hHeld=>?_
 clear hK K;refine(tR [3])<|tL fun K hK=>?_
 (go_simp;have zo:=(stX.alloc (.cells #[.slice D head.length d] 27)).bo.c1)
 refine tK hK fun hHeld=>?_
 clear hK K;refine(tR [4])<|tL fun K hK=>?_
 (obtain⟨us,u1,u2,u3⟩:=stX.ol;refine yK (enc:=eV) mW zG wX stX.B.size u1 (.slice D head.length d) (by simp[eV,Value.oneCell']) rfl (by rw[u2];exact H8.out) (by rw[u2];exact HM.out) rfl _ _ rfl rfl rfl ?_;intro A4 c4 w4 o4 g4 d4;rw[u2]at o4 d4⊢;have bo4:=stX.bo.grown g4 (fun e=>u1.apart stX.bo (by decide) e.symm);have zo4:=bo4.c1;obtain⟨stF,frF⟩:=st.add hbX oU u1 u2 u3 g4 o4 (d4.imp id (fun⟨g,e,hg⟩=>⟨g,e,by omega⟩)))
 refine tK hK fun hHeld=>?_
 clear hK K;refine(tR [5])<|tL fun K hK=>?_
 (have zf:=fun j=>bo4.frozen j;go_simp)
 refine tK hK fun hHeld=>?_
 clear hK K;refine tD ?_
 rotate_left 1
 refine tL fun K hK=>?_
 (go_simp;have zo:=(stX.alloc (.cells #[.slice D head.length d] 27)).bo.c1)
 refine tK hK fun hHeld=>?_
 clear hK K;refine(tR [0])<|tL fun K hK=>?_
 go_simp
 refine tK hK fun hHeld=>?_
 clear hK K;refine(tR [4])<|tL fun K hK=>?_
 (obtain⟨us,u1,u2,u3⟩:=stX.ol;refine yK (enc:=eV) mW zG wX stX.B.size u1 (.slice D head.length d) (by simp[eV,Value.oneCell']) rfl (by rw[u2];exact H8.out) (by rw[u2];exact HM.out) rfl _ _ rfl rfl rfl ?_;intro A4 c4 w4 o4 g4 d4;rw[u2]at o4 d4⊢;have bo4:=stX.bo.grown g4 (fun e=>u1.apart stX.bo (by decide) e.symm);have zo4:=bo4.c1;obtain⟨stF,frF⟩:=st.add hbX oU u1 u2 u3 g4 o4 (d4.imp id (fun⟨g,e,hg⟩=>⟨g,e,by omega⟩)))
 refine tK hK fun hHeld=>?_
 clear hK K;refine(tR [5])<|tL fun K hK=>?_
 (have zf:=fun j=>bo4.frozen j;go_simp)
 refine tK hK fun hHeld=>?_
 clear hK K;refine tD ?_
 all_goals
   go_wp2;go_end0
   exact⟨rfl,A4,c4,stF,(Fr.bl Bw).tr frF (Nx.refl _ _)⟩
def Oo (W0 w:World) (gc gl gr go:Nat) (v:Value) (head:List Dm) (ls:List (List Dm)) (e:Ending) (w':World):Prop:=
 e= .returned (.tuple #[])/\∃v' o',LSt W0 w' gc gl gr go v' head o' ls/\Fr v w w'/\Nx w v v'
def FC (W0:World) (gc gl gr go:Nat) (j:Nat):Prop:=∀(s:Nat) (head:List Dm) (ls:List (List Dm)) (v o:Value) (w:World),s<U64->(∀k,k<j->s.testBit k=false)->head.length<=j->ls.length+(gV s).length<=300->LSt W0 w gc gl gr go v head o ls->
  Calls prog 215 #[.int .u64 s,.pointer (some ⟨gc,0,none⟩),.pointer (some ⟨gl,0,none⟩),.pointer (some ⟨gr,0,none⟩)] w (Oo W0 w gc gl gr go v head (ls++dO s head))
def Ev (s i:Nat) (head:List Dm) (d:Dm):List (List Dm):=if eT s d then dO (dN s (aK d)) (head++[d])else[]
theorem LJ {s i:Nat} (hs:s<U64) (hl:pI s i) (head:List Dm):dO s head=Ev s i head (dW i)++Ev s i head (eY i):=Ee hs hl head
theorem BN {s i:Nat} {head:List Dm} {d:Dm} (h:eT s d=false):Ev s i head d=[]:=by unfold Ev;rw[h];rfl
theorem GR {s i:Nat} {head:List Dm} {d:Dm} (h:eT s d=true):Ev s i head d=dO (dN s (aK d)) (head++[d]):=by unfold Ev;rw[if_pos h]
theorem JN {s:Nat} {d:Dm} (h:aH d=false):eT s d=false:=by unfold eT;rw[h];rfl
theorem GU {s:Nat} {d:Dm} (h:¬s&&&aK d=aK d):eT s d=false:=by unfold eT;rw[decide_eq_false h,Bool.and_false]
theorem GV {s:Nat} {d:Dm} (h:aH d=true) (h2:s&&&aK d=aK d):eT s d=true:=by unfold eT;rw[h,decide_eq_true h2];rfl
theorem BP {W0:World} {gc gl gr go:Nat} {j:Nat} (hj:j<=64) (IH:∀j',j<j'->j'<=64->FC W0 gc gl gr go j'):FC W0 gc gl gr go j:=by
 intro s head ls v o w hs hlow hh hls st;obtain⟨A,c,rfl,hc,hm⟩:=st.oh.form;obtain⟨O,oc,rfl,hoc,hom⟩:=st.ol.ll.form;by_cases h0:s=0
 . subst h0;have ht:dO 0 head=[head]:=Ed head;have hl:ls.length<300:=by rw[yJ]at hls;simp at hls;omega
   rw[ht];clear ht hls hlow;have zc:=st.bc.c1;have zl:=st.bl.c1;have hh64:head.length<=64:=(by omega);go_enter func215,ntmps215
   go_wp2_with (go_at_call 185;go_must (refine(LH st hh64 hl).mono ?_;rintro e w1 ⟨rfl,O1,oc1,st1,fr1⟩))
   go_end0
   exact⟨rfl,_,_,st1,fr1,Nx.refl _ _⟩
 . obtain⟨i,hl⟩:=xA hs h0;have hji:=Mj hl hlow;have hi:=hl.1;obtain⟨x,hx⟩:=Oy (i%8);obtain⟨y,hy⟩:=Oy (i/8);have hs0:((s:Int)==0)=false:=by rw[beq_eq_false_iff_ne];omega
   have hrt:dW i=((x:Int),(y:Int),false):=by unfold dW;rw[<-hx,<-hy]
   have hdn:eY i=((x:Int),(y:Int),true):=by unfold eY;rw[<-hx,<-hy]
   have hft:=LJ hs hl head;rw[hrt,hdn]at hft
   have hfl:(Ev s i head ((x:Int),(y:Int),false)).length+(Ev s i head ((x:Int),(y:Int),true)).length=(gV s).length:=by
    have:=congrArg length hft;rw[qG,length_append]at this;omega
   have hI1:aH ((x:Int),(y:Int),false)=true->dM ((x:Int),(y:Int),false)=i:=fun q=>by rw[<-hrt]at q⊢;exact Jp q hi
   have hI2:aH ((x:Int),(y:Int),true)=true->dM ((x:Int),(y:Int),true)=i:=fun q=>by rw[<-hdn]at q⊢;exact Jq q hi
   have HR0:Hid (ls++dO s head=(ls++Ev s i head ((x:Int),(y:Int),false))++Ev s i head ((x:Int),(y:Int),true)):=OA (by rw[hft,List.append_assoc]);have Hl:=OA hl;have Hx:=OA hx;have Hy:=OA hy;have HI1:=OA hI1;have HI2:=OA hI2;have HIH:=OA IH;have Hfl:=OA hfl;have Hls:=OA hls;obtain⟨R1,hR1⟩:=Oy (Ev s i head ((x:Int),(y:Int),false));obtain⟨R2,hR2⟩:=Oy (Ev s i head ((x:Int),(y:Int),true));rw[<-hR1,<-hR2]at HR0 Hfl;rw[HR0.out];have HR1:=OA hR1;have HR2:=OA hR2;clear h0 hlow hl hx hy hrt hdn hft hfl hI1 hI2 IH hls hR1 hR2 HR0;go_enter func215,ntmps215
   go_wp2_with fail
   refine(IK s i x y _ hs Hl Hx Hy).mono ?_;rintro e w1 ⟨rfl,hb1⟩;have st1:=((st.bel hb1).alloc (.cells #[.int .i64 x,.int .i64 y] 70)).alloc (.cells #[.bool false,.bool true] 4);have bC1:=(Blk.bK w1 70 #[.int .i64 x,.int .i64 y]).alloc (.cells #[.bool false,.bool true] 4);have bB1:=Blk.iV (w1.alloc (.cells #[.int .i64 x,.int .i64 y] 70)) 4 #[.bool false,.bool true] (w1.heap.size+1) (by simp);have fr1:Fr (.slice A head.length c) w ((w1.alloc (.cells #[.int .i64 x,.int .i64 y] 70)).alloc (.cells #[.bool false,.bool true] 4)):=Fr.bl ((hb1.al _).al _);go_wp2_with fail
   obtain⟨gC,hgC⟩:=Oy w1.heap.size;obtain⟨gB,hgB⟩:=Oy (w1.heap.size+1);rw[<-hgB]at bB1⊢;rw[<-hgC]at bC1⊢;clear hgC hgB st;go_loopw [18] (fun s18 wr=>∃(J:Int) (A1 O1:Option Addr) (c1 o1:Nat) (ls1:List (List Dm)),s18= .int .i64 J/\LSt W0 wr gc gl gr go (.slice A1 head.length c1) head (.slice O1 ls1.length o1) ls1/\Fr (.slice A head.length c) w wr/\Nx w (.slice A head.length c) (.slice A1 head.length c1)/\Blk wr gC 70 #[.int .i64 x,.int .i64 y]/\Blk wr gB 4 #[.bool false,.bool true]/\Hid ((J=0/\ls1=ls)∨(J=1/\ls1=ls++R1)∨(J=2/\ls1=(ls++R1)++R2))) (fun i _=>2-(intOf i).toNat)
   case atStart=>exact⟨0,_,_,_,_,ls,rfl,st1,fr1,Nx.refl _ _,bC1,bB1,OA (.inl ⟨rfl,rfl⟩)⟩
   case round=>
    obtain⟨J,A1,O1,c1,o1,ls1,rfl,st2,fr2,nx2,bC2,bB2,HJ⟩:=hrel;clear st1 fr1 bC1 bB1;have zB0:=bB2.cell 0;have zB1:=bB2.cell 1;simp only[getElem?_toArray,getElem?_cons_zero,getElem?_cons_succ]at zB0 zB1;obtain⟨c_0,c_1⟩:=bC2.n2;have hBl:=bB2.lt;have hCl:=bC2.lt;rcases HJ.out with⟨rfl,ho⟩|⟨rfl,ho⟩|⟨rfl,ho⟩
    . have Ho:Hid (ls1=ls):=OA ho;have HLs:Hid (ls1.length+R1.length<=300):=OA (by rw[ho];have:=Hfl.out;have:=Hls.out;omega);clear HJ ho;have hgl:=st2.bl.lt;have hap:(Value.slice A1 head.length c1).ownBlock≠some wr.heap.size:=fun e=>by have:=(World.ownsRow.lt st2.oh _ e).2;omega
      have st3:=st2.alloc (.cells #[.int .i64 x,.int .i64 y,.bool false] 60);have bC3:=bC2.alloc (.cells #[.int .i64 x,.int .i64 y,.bool false] 60);have bB3:=bB2.alloc (.cells #[.int .i64 x,.int .i64 y,.bool false] 60);have bD3:=Blk.bK wr 60 #[.int .i64 x,.int .i64 y,.bool false];have fr3:Fr (.slice A head.length c) w (wr.alloc (.cells #[.int .i64 x,.int .i64 y,.bool false] 60)):=fr2.tr (Fr.bl ((Below.refl _ _).al _)) nx2;have hwr:=fr2.1;go_upto_region 7 with(fail)
      obtain⟨W,hW⟩:=Oy (wr.alloc (.cells #[.int .i64 x,.int .i64 y,.bool false] 60));obtain⟨gD,hgD⟩:=Oy wr.heap.size;rw[<-hW]at st3 bC3 bB3 bD3 fr3⊢;rw[<-hgD]at bD3 hap⊢;clear hW hgD st2 fr2 bC2 bB2 zB0 zB1 c_0 c_1 hBl hCl;obtain⟨d_0,d_1,d_2⟩:=bD3.n3;have hDl:=bD3.lt;have Bw:Below W.heap.size W W.drew:=(Below.refl _ _).drew;have hz:W.heap.size<=W.drew.heap.size:=(by simp);rcases hok:aH ((x:Int),(y:Int),false)with _|_
      . have hR : R1 = [] := by rw [HR1.out]; exact BN (JN hok)
        have Hok2:=OA hok;clear hok;refine rB (fun w'=>w'.cell? ⟨gD,0,none⟩=some (.int .i64 x)/\w'.cell? ⟨gD,1,none⟩=some (.int .i64 y)/\w'.cell? ⟨gD,2,none⟩=some (.bool false)) fun hHeld=>(tW 0)<|(tR [1])<|tL fun K hK=>?_
        go_simp
        (first|(go_at_call 142;go_must (refine(aW x y false _).mono ?_;rintro e wX ⟨rfl,hbX⟩;rw[Hok2.out];obtain⟨hcX,hfX,hzX⟩:=bkn hbX W.heap.size hz;have hz:=hzX;have Bw:=Bw.tr hbX);(try go_wp2_with fail)))
        refine tK hK fun hHeld=>?_
        clear hK K;refine(tW 2)<|(tU 3)<|(tU 4)<|(tU 5)<|(tU 6)<|(tU 7)<|(tU 8)<|(tU 9)<|(tW 10)<|tD ?_;have stV:=st3.bel Bw;have bCV:=bC3.bl Bw;have bBV:=bB3.bl Bw;have frV:Fr (.slice A head.length c) w _:=fr3.tr (Fr.bl Bw) nx2;clear st3 bC3 bB3 bD3 fr3;subst hR;go_wp2;go_roundw
        case rel=>exact⟨_,_,_,_,_,ls1,by go_num,stV,frV,nx2,bCV,bBV,OA (by first|exact .inr (.inl ⟨rfl,by rw[Ho.out,append_nil]⟩)|exact .inr (.inr ⟨rfl,by rw[Ho.out,append_nil]⟩))⟩
        case measure=>simp[intOf]
      . have hdl:=eB hok;obtain⟨D,hD⟩:=Oy (aK ((x:Int),(y:Int),false));have CD:∀w,Calls prog 143 #[.agg #[.int .i64 x,.int .i64 y,.bool false]] w (Ret (.int .u64 (D:Nat)) w):=fun w=>by rw[hD];exact eG x y false w hok
        rw[<-hD]at hdl;obtain⟨u1,u2⟩:=Cn hs hdl;by_cases q:s&&&D=D
        . have hne : (((s &&& D : Nat) : Int) == (D : Int)) = true := by rw [q]; simp
          have hfit:eT s ((x:Int),(y:Int),false)=true:=GV hok (by rw[<-hD];exact q);have hR:R1=dO (dN s D) (head++[((x:Int),(y:Int),false)]):=(by rw[HR1.out,GR hfit,hD]);have hI:=HI1.out hok;have hlow2:=xB (j:=j) hs Hl.out hok hI;rw[<-hD]at hlow2;have hRl:=congrArg length hR;rw[qG]at hRl;have hls2:ls1.length+(gV (dN s D)).length<=300:=by have:=HLs.out;omega
          have HR:=OA hR;have Hok2:=OA hok;have HD:=OA hD;have IHc:=HIH.out (i+1) (by omega) (by omega) (dN s D) (head++[((x:Int),(y:Int),false)]) ls1;have IHn:=fun(v o:Value) (w:World) (k:LSt W0 w gc gl gr go v (head++[((x:Int),(y:Int),false)]) o ls1)=>IHc v o w (eQ hs) hlow2 (by rw[length_append,List.length_singleton];omega) hls2 k
          rw[<-HR.out]at IHn;have HIn:=OA IHn;have H8:Hid ((head.length+1)*24<=140737488355328):=OA (by omega);have HM:Hid (head.length+1<=maxLen):=OA (by unfold maxLen;omega);clear hok q hfit hR hI hlow2 hRl hls2 hD IHc IHn;refine rB (fun w'=>w'.cell? ⟨gD,0,none⟩=some (.int .i64 x)/\w'.cell? ⟨gD,1,none⟩=some (.int .i64 y)/\w'.cell? ⟨gD,2,none⟩=some (.bool false)) fun hHeld=>(tW 0)<|(tR [1])<|tL fun K hK=>?_
          go_simp
          (first|(go_at_call 142;go_must (refine(aW x y false _).mono ?_;rintro e wX ⟨rfl,hbX⟩;rw[Hok2.out];obtain⟨hcX,hfX,hzX⟩:=bkn hbX W.heap.size hz;have hz:=hzX;have Bw:=Bw.tr hbX);(try go_wp2_with fail))|(go_at_call 143;go_must (refine(CD _).mono ?_;rintro e wX ⟨rfl,hbX⟩;obtain⟨hcX,hfX,hzX⟩:=bkn hbX W.heap.size hz;have hz:=hzX;have Bw:=Bw.tr hbX);(try go_wp2_with fail)))
          refine tK hK fun hHeld=>?_
          clear hK K;refine(tW 2)<|(tW 3)<|(tW 4)<|(tW 7)<|(tR [5])<|tL fun K hK=>?_
          go_simp
          (first|(go_at_call 142;go_must (refine(aW x y false _).mono ?_;rintro e wX ⟨rfl,hbX⟩;rw[Hok2.out];obtain⟨hcX,hfX,hzX⟩:=bkn hbX W.heap.size hz;have hz:=hzX;have Bw:=Bw.tr hbX);(try go_wp2_with fail))|(go_at_call 143;go_must (refine(CD _).mono ?_;rintro e wX ⟨rfl,hbX⟩;obtain⟨hcX,hfX,hzX⟩:=bkn hbX W.heap.size hz;have hz:=hzX;have Bw:=Bw.tr hbX);(try go_wp2_with fail)))
          refine tK hK fun hHeld=>?_
          clear hK K;refine(tW 6)<|(tR [8])<|tL fun K hK=>?_
          go_simp
          (first|(go_at_call 142;go_must (refine(aW x y false _).mono ?_;rintro e wX ⟨rfl,hbX⟩;rw[Hok2.out];obtain⟨hcX,hfX,hzX⟩:=bkn hbX W.heap.size hz;have hz:=hzX;have Bw:=Bw.tr hbX);(try go_wp2_with fail))|(go_at_call 143;go_must (refine(CD _).mono ?_;rintro e wX ⟨rfl,hbX⟩;obtain⟨hcX,hfX,hzX⟩:=bkn hbX W.heap.size hz;have hz:=hzX;have Bw:=Bw.tr hbX);(try go_wp2_with fail)))
          refine tK hK fun hHeld=>?_
          clear hK K;refine(tW 9)<|(tW 10)<|tD ?_;obtain⟨V,hV⟩:=Oy wX;rw[<-hV]at Bw⊢;clear hV hcX hfX hz d_0 d_1 d_2;(try clear hHeld)
          have stV:=st3.bel Bw;have bCV:=bC3.bl Bw;have bBV:=bB3.bl Bw;have bDV:=bD3.bl Bw;have frV:Fr (.slice A head.length c) w V:=fr3.tr (Fr.bl Bw) nx2;have hwV:=frV.1;clear st3 bC3 bB3 bD3 fr3 Bw;obtain⟨d_0,d_1,d_2⟩:=bDV.n3;have zl:=stV.bl.c1;go_upto_region 9 with(at_builtin;go_must (refine mJ (enc:=aT) aI aB V stV.B.size stV.oh (((x:Int),(y:Int),false):Dm) (aM _) (by simp) H8.out HM.out rfl _ _ rfl rfl rfl ?_);intro A8 c8 w8 own8 hg8 hd8;have bl8:=(stV.grow hg8).2.1;have z8:=bl8.c1;have f8:=fun j=>bl8.frozen j)
          have nx8:Nx V (.slice A1 head.length c1) (.slice A8 (head.length+1) c8):=hd8.imp id (fun⟨g,e,hg⟩=>⟨g,e,by omega⟩);obtain⟨st8,fr8⟩:=stV.push hg8 own8 nx8;have bD8:=fr8.2 gD _ _ (.inr (.inr ⟨rfl,hap⟩)) bDV;have bC8:=fr8.2 gC _ _ (.inl rfl) bCV;have bB8:=fr8.2 gB _ _ (.inr (.inl rfl)) bBV;have hap8:=nx8.ne bDV hap;have fr8:=frV.tr fr8 nx2;have nx8:=nx2.tr nx8 hwV;obtain⟨W8,hW8⟩:=Oy (w8.setCell ⟨gl,0,none⟩ (.slice A8 (head.length+1) c8));rw[<-hW8]at st8 bD8 bC8 bB8 fr8⊢;clear hW8 stV bCV bBV bDV frV hwV d_0 d_1 d_2 zl hg8 hd8 bl8 z8 f8 own8;obtain⟨d_0,d_1,d_2⟩:=bD8.n3;have zr:=st8.br.c1;have hDl8:=bD8.lt;have hrl8:=st8.br.lt;have Bw:Below W8.heap.size W8 W8.drew:=(Below.refl _ _).drew;have hz:W8.heap.size<=W8.drew.heap.size:=(by simp);refine rB (fun w'=>w'.cell? ⟨gr,0,none⟩=some (.func (.func 215) #[] #[.pointer (some ⟨gc,0,none⟩),.pointer (some ⟨gl,0,none⟩),.pointer (some ⟨gr,0,none⟩)])/\w'.cell? ⟨gD,0,none⟩=some (.int .i64 x)/\w'.cell? ⟨gD,1,none⟩=some (.int .i64 y)/\w'.cell? ⟨gD,2,none⟩=some (.bool false)) fun hHeld=>(tW 0)<|(tW 1)<|(tW 2)<|(tR [3])<|tL fun K hK=>?_
          go_simp
          (first|(go_at_call 143;go_must (refine(CD _).mono ?_;rintro e wX ⟨rfl,hbX⟩;obtain⟨hcX,hfX,hzX⟩:=bkn hbX W8.heap.size hz;have hz:=hzX;have Bw:=Bw.tr hbX);(try go_wp2_with fail))|(go_at_call 215;go_must (refine(HIn.out _ _ _ (st8.bel Bw)).mono ?_;rintro e wX ⟨rfl,v9,o9,st9,fr9,nx9⟩;have bD9:=fr9.2 gD _ _ (.inr (.inr ⟨rfl,hap8⟩)) (bD8.bl Bw);have e_0:=bD9.cell 0;have e_1:=bD9.cell 1;have e_2:=bD9.cell 2;simp only[getElem?_toArray,getElem?_cons_zero,getElem?_cons_succ]at e_0 e_1 e_2;have zr9:=st9.br.c1;have bC9:=fr9.2 gC _ _ (.inl rfl) (bC8.bl Bw);have bB9:=fr9.2 gB _ _ (.inr (.inl rfl)) (bB8.bl Bw));(try go_wp2_with fail)))
          refine tK hK fun hHeld=>?_
          clear hK K;refine(tW 4)<|(tR [5])<|tL fun K hK=>?_
          go_simp
          (first|(go_at_call 143;go_must (refine(CD _).mono ?_;rintro e wX ⟨rfl,hbX⟩;obtain⟨hcX,hfX,hzX⟩:=bkn hbX W8.heap.size hz;have hz:=hzX;have Bw:=Bw.tr hbX);(try go_wp2_with fail))|(go_at_call 215;go_must (refine(HIn.out _ _ _ (st8.bel Bw)).mono ?_;rintro e wX ⟨rfl,v9,o9,st9,fr9,nx9⟩;have bD9:=fr9.2 gD _ _ (.inr (.inr ⟨rfl,hap8⟩)) (bD8.bl Bw);have e_0:=bD9.cell 0;have e_1:=bD9.cell 1;have e_2:=bD9.cell 2;simp only[getElem?_toArray,getElem?_cons_zero,getElem?_cons_succ]at e_0 e_1 e_2;have zr9:=st9.br.c1;have bC9:=fr9.2 gC _ _ (.inl rfl) (bC8.bl Bw);have bB9:=fr9.2 gB _ _ (.inr (.inl rfl)) (bB8.bl Bw));(try go_wp2_with fail)))
          refine tK hK fun hHeld=>?_
          clear hK K;refine tD ?_;have fr9:=(fr8.tr (Fr.bl Bw) nx8).tr fr9 nx8;have nx9:=nx8.tr nx9 (Nat.le_trans (fr8.tr (Fr.bl (v:= .slice A8 (head.length+1) c8) Bw) nx8).1 (Nat.le_refl _));obtain⟨V9,hV9⟩:=Oy wX;rw[<-hV9]at st9 bC9 bB9 fr9⊢;clear hV9 e_0 e_1 e_2 zr9 bD9 d_0 d_1 d_2 zr st8 bD8 bC8 bB8 fr8 Bw hz;(try clear hcX hfX)
          (try clear hHeld)
          obtain⟨A9,c9,rfl,_,_⟩:=st9.oh.form;obtain⟨O9,p9,rfl,_,_⟩:=st9.ol.ll.form;have e9:(head++[(((x:Int),(y:Int),false):Dm)]).length=head.length+1:=(by simp);rw[e9]at st9 nx9;have z9:=st9.bl.c1;have f9:=fun j=>st9.bl.frozen j
          obtain⟨st10,fr10,nx10⟩:=st9.pop;have bC10:=fr10.2 gC _ _ (.inl rfl) bC9;have bB10:=fr10.2 gB _ _ (.inr (.inl rfl)) bB9;have fr11:=fr9.tr fr10 nx9;have nx11:=nx9.tr nx10 fr9.1;go_wp2;go_roundw
          case rel=>exact⟨_,_,_,_,_,ls1++R1,by go_num,st10,fr11,nx11,bC10,bB10,OA (by first|exact .inr (.inl ⟨rfl,by rw[Ho.out]⟩)|exact .inr (.inr ⟨rfl,by rw[Ho.out]⟩))⟩
          case measure=>simp[intOf]
        . have hne : (((s &&& D : Nat) : Int) == (D : Int)) = false := by rw [beq_eq_false_iff_ne]; omega
          have hR:R1=[]:=by rw[HR1.out];exact BN (GU (by rw[<-hD];exact q))
          have Hok2:=OA hok;clear hok q hD;refine rB (fun w'=>w'.cell? ⟨gD,0,none⟩=some (.int .i64 x)/\w'.cell? ⟨gD,1,none⟩=some (.int .i64 y)/\w'.cell? ⟨gD,2,none⟩=some (.bool false)) fun hHeld=>(tW 0)<|(tR [1])<|tL fun K hK=>?_
          go_simp
          (first|(go_at_call 142;go_must (refine(aW x y false _).mono ?_;rintro e wX ⟨rfl,hbX⟩;rw[Hok2.out];obtain⟨hcX,hfX,hzX⟩:=bkn hbX W.heap.size hz;have hz:=hzX;have Bw:=Bw.tr hbX);(try go_wp2_with fail))|(go_at_call 143;go_must (refine(CD _).mono ?_;rintro e wX ⟨rfl,hbX⟩;obtain⟨hcX,hfX,hzX⟩:=bkn hbX W.heap.size hz;have hz:=hzX;have Bw:=Bw.tr hbX);(try go_wp2_with fail)))
          refine tK hK fun hHeld=>?_
          clear hK K;refine(tW 2)<|(tW 3)<|(tW 4)<|(tW 7)<|(tR [5])<|tL fun K hK=>?_
          go_simp
          (first|(go_at_call 142;go_must (refine(aW x y false _).mono ?_;rintro e wX ⟨rfl,hbX⟩;rw[Hok2.out];obtain⟨hcX,hfX,hzX⟩:=bkn hbX W.heap.size hz;have hz:=hzX;have Bw:=Bw.tr hbX);(try go_wp2_with fail))|(go_at_call 143;go_must (refine(CD _).mono ?_;rintro e wX ⟨rfl,hbX⟩;obtain⟨hcX,hfX,hzX⟩:=bkn hbX W.heap.size hz;have hz:=hzX;have Bw:=Bw.tr hbX);(try go_wp2_with fail)))
          refine tK hK fun hHeld=>?_
          clear hK K;refine(tW 6)<|(tR [8])<|tL fun K hK=>?_
          go_simp
          (first|(go_at_call 142;go_must (refine(aW x y false _).mono ?_;rintro e wX ⟨rfl,hbX⟩;rw[Hok2.out];obtain⟨hcX,hfX,hzX⟩:=bkn hbX W.heap.size hz;have hz:=hzX;have Bw:=Bw.tr hbX);(try go_wp2_with fail))|(go_at_call 143;go_must (refine(CD _).mono ?_;rintro e wX ⟨rfl,hbX⟩;obtain⟨hcX,hfX,hzX⟩:=bkn hbX W.heap.size hz;have hz:=hzX;have Bw:=Bw.tr hbX);(try go_wp2_with fail)))
          refine tK hK fun hHeld=>?_
          clear hK K;refine(tW 9)<|(tW 10)<|tD ?_;have stV:=st3.bel Bw;have bCV:=bC3.bl Bw;have bBV:=bB3.bl Bw;have frV:Fr (.slice A head.length c) w _:=fr3.tr (Fr.bl Bw) nx2;clear st3 bC3 bB3 bD3 fr3;subst hR;go_wp2;go_roundw
          case rel=>exact⟨_,_,_,_,_,ls1,by go_num,stV,frV,nx2,bCV,bBV,OA (by first|exact .inr (.inl ⟨rfl,by rw[Ho.out,append_nil]⟩)|exact .inr (.inr ⟨rfl,by rw[Ho.out,append_nil]⟩))⟩
          case measure=>simp[intOf]
    . have Ho:Hid (ls1=ls++R1):=OA ho;have HLs:Hid (ls1.length+R2.length<=300):=OA (by rw[ho,length_append];have:=Hfl.out;have:=Hls.out;omega);clear HJ ho;have hgl:=st2.bl.lt;have hap:(Value.slice A1 head.length c1).ownBlock≠some wr.heap.size:=fun e=>by have:=(World.ownsRow.lt st2.oh _ e).2;omega
      have st3:=st2.alloc (.cells #[.int .i64 x,.int .i64 y,.bool true] 60);have bC3:=bC2.alloc (.cells #[.int .i64 x,.int .i64 y,.bool true] 60);have bB3:=bB2.alloc (.cells #[.int .i64 x,.int .i64 y,.bool true] 60);have bD3:=Blk.bK wr 60 #[.int .i64 x,.int .i64 y,.bool true];have fr3:Fr (.slice A head.length c) w (wr.alloc (.cells #[.int .i64 x,.int .i64 y,.bool true] 60)):=fr2.tr (Fr.bl ((Below.refl _ _).al _)) nx2;have hwr:=fr2.1;go_upto_region 7 with(fail)
      obtain⟨W,hW⟩:=Oy (wr.alloc (.cells #[.int .i64 x,.int .i64 y,.bool true] 60));obtain⟨gD,hgD⟩:=Oy wr.heap.size;rw[<-hW]at st3 bC3 bB3 bD3 fr3⊢;rw[<-hgD]at bD3 hap⊢;clear hW hgD st2 fr2 bC2 bB2 zB0 zB1 c_0 c_1 hBl hCl;obtain⟨d_0,d_1,d_2⟩:=bD3.n3;have hDl:=bD3.lt;have Bw:Below W.heap.size W W.drew:=(Below.refl _ _).drew;have hz:W.heap.size<=W.drew.heap.size:=(by simp);rcases hok:aH ((x:Int),(y:Int),true)with _|_
      . have hR : R2 = [] := by rw [HR2.out]; exact BN (JN hok)
        have Hok2:=OA hok;clear hok;refine rB (fun w'=>w'.cell? ⟨gD,0,none⟩=some (.int .i64 x)/\w'.cell? ⟨gD,1,none⟩=some (.int .i64 y)/\w'.cell? ⟨gD,2,none⟩=some (.bool true)) fun hHeld=>(tW 0)<|(tR [1])<|tL fun K hK=>?_
        go_simp
        (first|(go_at_call 142;go_must (refine(aW x y true _).mono ?_;rintro e wX ⟨rfl,hbX⟩;rw[Hok2.out];obtain⟨hcX,hfX,hzX⟩:=bkn hbX W.heap.size hz;have hz:=hzX;have Bw:=Bw.tr hbX);(try go_wp2_with fail)))
        refine tK hK fun hHeld=>?_
        clear hK K;refine(tW 2)<|(tU 3)<|(tU 4)<|(tU 5)<|(tU 6)<|(tU 7)<|(tU 8)<|(tU 9)<|(tW 10)<|tD ?_;have stV:=st3.bel Bw;have bCV:=bC3.bl Bw;have bBV:=bB3.bl Bw;have frV:Fr (.slice A head.length c) w _:=fr3.tr (Fr.bl Bw) nx2;clear st3 bC3 bB3 bD3 fr3;subst hR;go_wp2;go_roundw
        case rel=>exact⟨_,_,_,_,_,ls1,by go_num,stV,frV,nx2,bCV,bBV,OA (by first|exact .inr (.inl ⟨rfl,by rw[Ho.out,append_nil]⟩)|exact .inr (.inr ⟨rfl,by rw[Ho.out,append_nil]⟩))⟩
        case measure=>simp[intOf]
      . have hdl:=eB hok;obtain⟨D,hD⟩:=Oy (aK ((x:Int),(y:Int),true));have CD:∀w,Calls prog 143 #[.agg #[.int .i64 x,.int .i64 y,.bool true]] w (Ret (.int .u64 (D:Nat)) w):=fun w=>by rw[hD];exact eG x y true w hok
        rw[<-hD]at hdl;obtain⟨u1,u2⟩:=Cn hs hdl;by_cases q:s&&&D=D
        . have hne : (((s &&& D : Nat) : Int) == (D : Int)) = true := by rw [q]; simp
          have hfit:eT s ((x:Int),(y:Int),true)=true:=GV hok (by rw[<-hD];exact q);have hR:R2=dO (dN s D) (head++[((x:Int),(y:Int),true)]):=(by rw[HR2.out,GR hfit,hD]);have hI:=HI2.out hok;have hlow2:=xB (j:=j) hs Hl.out hok hI;rw[<-hD]at hlow2;have hRl:=congrArg length hR;rw[qG]at hRl;have hls2:ls1.length+(gV (dN s D)).length<=300:=by have:=HLs.out;omega
          have HR:=OA hR;have Hok2:=OA hok;have HD:=OA hD;have IHc:=HIH.out (i+1) (by omega) (by omega) (dN s D) (head++[((x:Int),(y:Int),true)]) ls1;have IHn:=fun(v o:Value) (w:World) (k:LSt W0 w gc gl gr go v (head++[((x:Int),(y:Int),true)]) o ls1)=>IHc v o w (eQ hs) hlow2 (by rw[length_append,List.length_singleton];omega) hls2 k
          rw[<-HR.out]at IHn;have HIn:=OA IHn;have H8:Hid ((head.length+1)*24<=140737488355328):=OA (by omega);have HM:Hid (head.length+1<=maxLen):=OA (by unfold maxLen;omega);clear hok q hfit hR hI hlow2 hRl hls2 hD IHc IHn;refine rB (fun w'=>w'.cell? ⟨gD,0,none⟩=some (.int .i64 x)/\w'.cell? ⟨gD,1,none⟩=some (.int .i64 y)/\w'.cell? ⟨gD,2,none⟩=some (.bool true)) fun hHeld=>(tW 0)<|(tR [1])<|tL fun K hK=>?_
          go_simp
          (first|(go_at_call 142;go_must (refine(aW x y true _).mono ?_;rintro e wX ⟨rfl,hbX⟩;rw[Hok2.out];obtain⟨hcX,hfX,hzX⟩:=bkn hbX W.heap.size hz;have hz:=hzX;have Bw:=Bw.tr hbX);(try go_wp2_with fail))|(go_at_call 143;go_must (refine(CD _).mono ?_;rintro e wX ⟨rfl,hbX⟩;obtain⟨hcX,hfX,hzX⟩:=bkn hbX W.heap.size hz;have hz:=hzX;have Bw:=Bw.tr hbX);(try go_wp2_with fail)))
          refine tK hK fun hHeld=>?_
          clear hK K;refine(tW 2)<|(tW 3)<|(tW 4)<|(tW 7)<|(tR [5])<|tL fun K hK=>?_
          go_simp
          (first|(go_at_call 142;go_must (refine(aW x y true _).mono ?_;rintro e wX ⟨rfl,hbX⟩;rw[Hok2.out];obtain⟨hcX,hfX,hzX⟩:=bkn hbX W.heap.size hz;have hz:=hzX;have Bw:=Bw.tr hbX);(try go_wp2_with fail))|(go_at_call 143;go_must (refine(CD _).mono ?_;rintro e wX ⟨rfl,hbX⟩;obtain⟨hcX,hfX,hzX⟩:=bkn hbX W.heap.size hz;have hz:=hzX;have Bw:=Bw.tr hbX);(try go_wp2_with fail)))
          refine tK hK fun hHeld=>?_
          clear hK K;refine(tW 6)<|(tR [8])<|tL fun K hK=>?_
          go_simp
          (first|(go_at_call 142;go_must (refine(aW x y true _).mono ?_;rintro e wX ⟨rfl,hbX⟩;rw[Hok2.out];obtain⟨hcX,hfX,hzX⟩:=bkn hbX W.heap.size hz;have hz:=hzX;have Bw:=Bw.tr hbX);(try go_wp2_with fail))|(go_at_call 143;go_must (refine(CD _).mono ?_;rintro e wX ⟨rfl,hbX⟩;obtain⟨hcX,hfX,hzX⟩:=bkn hbX W.heap.size hz;have hz:=hzX;have Bw:=Bw.tr hbX);(try go_wp2_with fail)))
          refine tK hK fun hHeld=>?_
          clear hK K;refine(tW 9)<|(tW 10)<|tD ?_;obtain⟨V,hV⟩:=Oy wX;rw[<-hV]at Bw⊢;clear hV hcX hfX hz d_0 d_1 d_2;(try clear hHeld)
          have stV:=st3.bel Bw;have bCV:=bC3.bl Bw;have bBV:=bB3.bl Bw;have bDV:=bD3.bl Bw;have frV:Fr (.slice A head.length c) w V:=fr3.tr (Fr.bl Bw) nx2;have hwV:=frV.1;clear st3 bC3 bB3 bD3 fr3 Bw;obtain⟨d_0,d_1,d_2⟩:=bDV.n3;have zl:=stV.bl.c1;go_upto_region 9 with(at_builtin;go_must (refine mJ (enc:=aT) aI aB V stV.B.size stV.oh (((x:Int),(y:Int),true):Dm) (aM _) (by simp) H8.out HM.out rfl _ _ rfl rfl rfl ?_);intro A8 c8 w8 own8 hg8 hd8;have bl8:=(stV.grow hg8).2.1;have z8:=bl8.c1;have f8:=fun j=>bl8.frozen j)
          have nx8:Nx V (.slice A1 head.length c1) (.slice A8 (head.length+1) c8):=hd8.imp id (fun⟨g,e,hg⟩=>⟨g,e,by omega⟩);obtain⟨st8,fr8⟩:=stV.push hg8 own8 nx8;have bD8:=fr8.2 gD _ _ (.inr (.inr ⟨rfl,hap⟩)) bDV;have bC8:=fr8.2 gC _ _ (.inl rfl) bCV;have bB8:=fr8.2 gB _ _ (.inr (.inl rfl)) bBV;have hap8:=nx8.ne bDV hap;have fr8:=frV.tr fr8 nx2;have nx8:=nx2.tr nx8 hwV;obtain⟨W8,hW8⟩:=Oy (w8.setCell ⟨gl,0,none⟩ (.slice A8 (head.length+1) c8));rw[<-hW8]at st8 bD8 bC8 bB8 fr8⊢;clear hW8 stV bCV bBV bDV frV hwV d_0 d_1 d_2 zl hg8 hd8 bl8 z8 f8 own8;obtain⟨d_0,d_1,d_2⟩:=bD8.n3;have zr:=st8.br.c1;have hDl8:=bD8.lt;have hrl8:=st8.br.lt;have Bw:Below W8.heap.size W8 W8.drew:=(Below.refl _ _).drew;have hz:W8.heap.size<=W8.drew.heap.size:=(by simp);refine rB (fun w'=>w'.cell? ⟨gr,0,none⟩=some (.func (.func 215) #[] #[.pointer (some ⟨gc,0,none⟩),.pointer (some ⟨gl,0,none⟩),.pointer (some ⟨gr,0,none⟩)])/\w'.cell? ⟨gD,0,none⟩=some (.int .i64 x)/\w'.cell? ⟨gD,1,none⟩=some (.int .i64 y)/\w'.cell? ⟨gD,2,none⟩=some (.bool true)) fun hHeld=>(tW 0)<|(tW 1)<|(tW 2)<|(tR [3])<|tL fun K hK=>?_
          go_simp
          (first|(go_at_call 143;go_must (refine(CD _).mono ?_;rintro e wX ⟨rfl,hbX⟩;obtain⟨hcX,hfX,hzX⟩:=bkn hbX W8.heap.size hz;have hz:=hzX;have Bw:=Bw.tr hbX);(try go_wp2_with fail))|(go_at_call 215;go_must (refine(HIn.out _ _ _ (st8.bel Bw)).mono ?_;rintro e wX ⟨rfl,v9,o9,st9,fr9,nx9⟩;have bD9:=fr9.2 gD _ _ (.inr (.inr ⟨rfl,hap8⟩)) (bD8.bl Bw);have e_0:=bD9.cell 0;have e_1:=bD9.cell 1;have e_2:=bD9.cell 2;simp only[getElem?_toArray,getElem?_cons_zero,getElem?_cons_succ]at e_0 e_1 e_2;have zr9:=st9.br.c1;have bC9:=fr9.2 gC _ _ (.inl rfl) (bC8.bl Bw);have bB9:=fr9.2 gB _ _ (.inr (.inl rfl)) (bB8.bl Bw));(try go_wp2_with fail)))
          refine tK hK fun hHeld=>?_
          clear hK K;refine(tW 4)<|(tR [5])<|tL fun K hK=>?_
          go_simp
          (first|(go_at_call 143;go_must (refine(CD _).mono ?_;rintro e wX ⟨rfl,hbX⟩;obtain⟨hcX,hfX,hzX⟩:=bkn hbX W8.heap.size hz;have hz:=hzX;have Bw:=Bw.tr hbX);(try go_wp2_with fail))|(go_at_call 215;go_must (refine(HIn.out _ _ _ (st8.bel Bw)).mono ?_;rintro e wX ⟨rfl,v9,o9,st9,fr9,nx9⟩;have bD9:=fr9.2 gD _ _ (.inr (.inr ⟨rfl,hap8⟩)) (bD8.bl Bw);have e_0:=bD9.cell 0;have e_1:=bD9.cell 1;have e_2:=bD9.cell 2;simp only[getElem?_toArray,getElem?_cons_zero,getElem?_cons_succ]at e_0 e_1 e_2;have zr9:=st9.br.c1;have bC9:=fr9.2 gC _ _ (.inl rfl) (bC8.bl Bw);have bB9:=fr9.2 gB _ _ (.inr (.inl rfl)) (bB8.bl Bw));(try go_wp2_with fail)))
          refine tK hK fun hHeld=>?_
          clear hK K;refine tD ?_;have fr9:=(fr8.tr (Fr.bl Bw) nx8).tr fr9 nx8;have nx9:=nx8.tr nx9 (Nat.le_trans (fr8.tr (Fr.bl (v:= .slice A8 (head.length+1) c8) Bw) nx8).1 (Nat.le_refl _));obtain⟨V9,hV9⟩:=Oy wX;rw[<-hV9]at st9 bC9 bB9 fr9⊢;clear hV9 e_0 e_1 e_2 zr9 bD9 d_0 d_1 d_2 zr st8 bD8 bC8 bB8 fr8 Bw hz;(try clear hcX hfX)
          (try clear hHeld)
          obtain⟨A9,c9,rfl,_,_⟩:=st9.oh.form;obtain⟨O9,p9,rfl,_,_⟩:=st9.ol.ll.form;have e9:(head++[(((x:Int),(y:Int),true):Dm)]).length=head.length+1:=(by simp);rw[e9]at st9 nx9;have z9:=st9.bl.c1;have f9:=fun j=>st9.bl.frozen j
          obtain⟨st10,fr10,nx10⟩:=st9.pop;have bC10:=fr10.2 gC _ _ (.inl rfl) bC9;have bB10:=fr10.2 gB _ _ (.inr (.inl rfl)) bB9;have fr11:=fr9.tr fr10 nx9;have nx11:=nx9.tr nx10 fr9.1;go_wp2;go_roundw
          case rel=>exact⟨_,_,_,_,_,ls1++R2,by go_num,st10,fr11,nx11,bC10,bB10,OA (by first|exact .inr (.inl ⟨rfl,by rw[Ho.out]⟩)|exact .inr (.inr ⟨rfl,by rw[Ho.out]⟩))⟩
          case measure=>simp[intOf]
        . have hne : (((s &&& D : Nat) : Int) == (D : Int)) = false := by rw [beq_eq_false_iff_ne]; omega
          have hR:R2=[]:=by rw[HR2.out];exact BN (GU (by rw[<-hD];exact q))
          have Hok2:=OA hok;clear hok q hD;refine rB (fun w'=>w'.cell? ⟨gD,0,none⟩=some (.int .i64 x)/\w'.cell? ⟨gD,1,none⟩=some (.int .i64 y)/\w'.cell? ⟨gD,2,none⟩=some (.bool true)) fun hHeld=>(tW 0)<|(tR [1])<|tL fun K hK=>?_
          go_simp
          (first|(go_at_call 142;go_must (refine(aW x y true _).mono ?_;rintro e wX ⟨rfl,hbX⟩;rw[Hok2.out];obtain⟨hcX,hfX,hzX⟩:=bkn hbX W.heap.size hz;have hz:=hzX;have Bw:=Bw.tr hbX);(try go_wp2_with fail))|(go_at_call 143;go_must (refine(CD _).mono ?_;rintro e wX ⟨rfl,hbX⟩;obtain⟨hcX,hfX,hzX⟩:=bkn hbX W.heap.size hz;have hz:=hzX;have Bw:=Bw.tr hbX);(try go_wp2_with fail)))
          refine tK hK fun hHeld=>?_
          clear hK K;refine(tW 2)<|(tW 3)<|(tW 4)<|(tW 7)<|(tR [5])<|tL fun K hK=>?_
          go_simp
          (first|(go_at_call 142;go_must (refine(aW x y true _).mono ?_;rintro e wX ⟨rfl,hbX⟩;rw[Hok2.out];obtain⟨hcX,hfX,hzX⟩:=bkn hbX W.heap.size hz;have hz:=hzX;have Bw:=Bw.tr hbX);(try go_wp2_with fail))|(go_at_call 143;go_must (refine(CD _).mono ?_;rintro e wX ⟨rfl,hbX⟩;obtain⟨hcX,hfX,hzX⟩:=bkn hbX W.heap.size hz;have hz:=hzX;have Bw:=Bw.tr hbX);(try go_wp2_with fail)))
          refine tK hK fun hHeld=>?_
          clear hK K;refine(tW 6)<|(tR [8])<|tL fun K hK=>?_
          go_simp
          (first|(go_at_call 142;go_must (refine(aW x y true _).mono ?_;rintro e wX ⟨rfl,hbX⟩;rw[Hok2.out];obtain⟨hcX,hfX,hzX⟩:=bkn hbX W.heap.size hz;have hz:=hzX;have Bw:=Bw.tr hbX);(try go_wp2_with fail))|(go_at_call 143;go_must (refine(CD _).mono ?_;rintro e wX ⟨rfl,hbX⟩;obtain⟨hcX,hfX,hzX⟩:=bkn hbX W.heap.size hz;have hz:=hzX;have Bw:=Bw.tr hbX);(try go_wp2_with fail)))
          refine tK hK fun hHeld=>?_
          clear hK K;refine(tW 9)<|(tW 10)<|tD ?_;have stV:=st3.bel Bw;have bCV:=bC3.bl Bw;have bBV:=bB3.bl Bw;have frV:Fr (.slice A head.length c) w _:=fr3.tr (Fr.bl Bw) nx2;clear st3 bC3 bB3 bD3 fr3;subst hR;go_wp2;go_roundw
          case rel=>exact⟨_,_,_,_,_,ls1,by go_num,stV,frV,nx2,bCV,bBV,OA (by first|exact .inr (.inl ⟨rfl,by rw[Ho.out,append_nil]⟩)|exact .inr (.inr ⟨rfl,by rw[Ho.out,append_nil]⟩))⟩
          case measure=>simp[intOf]
    . have Ho:=OA ho;clear HJ ho;go_wp2;go_end0
      obtain rfl:ls1=ls++R1++R2:=Ho.out;exact⟨rfl,_,_,st2,fr2,nx2⟩
theorem Kv {W0:World} {gc gl gr go:Nat}:∀j,j<=64->FC W0 gc gl gr go j:=by
 have key:∀n j,j<=64->64-j<=n->FC W0 gc gl gr go j:=by
  intro n;induction n with
  |zero=>intro j h1 h2;exact BP h1 (fun j' a b=>by omega)
  |succ n ih=>intro j h1 h2;exact BP h1 (fun j' a b=>ih j' b (by omega))
 exact fun j hj=>key (64-j) j hj (Nat.le_refl _)
theorem Kw {W0 w:World} (s go oc:Nat) (O:Option Addr) (hs:s<U64) (hn:(gV s).length<=300) (bo:Blk w go 140 #[.slice O 0 oc]) (oo:aC 27 1 eV W0.heap.size w (.slice O 0 oc) []) (B:Below W0.heap.size W0 w) (hgo:W0.heap.size<=go):
 Calls prog 184 #[.int .u64 s,.func (.func 185) #[] #[.pointer (some ⟨go,0,none⟩)]] w (fun e w'=>e= .returned (.tuple #[])/\∃o',Blk w' go 140 #[o']/\dF 27 60 3 aT W0.heap.size w' o' (gV s)/\Below W0.heap.size W0 w'):=by
 obtain⟨W,hW⟩:=Oy ((((w.alloc (.cells #[.func (.func 185) #[] #[.pointer (some ⟨go,0,none⟩)]] 180)).alloc (.cells #[] 60)).alloc (.cells #[.slice (some ⟨w.heap.size+1,0,none⟩) 0 0] 27)).alloc (.cells #[.nilFunc] 198));have hgol:=bo.lt;have hBw:Below w.heap.size w W:=by rw[hW];exact((((Below.refl w.heap.size w).al _).al _).al _).al _
 have bc:Blk W w.heap.size 180 #[.func (.func 185) #[] #[.pointer (some ⟨go,0,none⟩)]]:=by rw[hW];exact(((Blk.bK w _ _).alloc _).alloc _).alloc _
 have bl:Blk W (w.heap.size+1+1) 27 #[.slice (some ⟨w.heap.size+1,0,none⟩) 0 0]:=by
  rw[hW];exact(Blk.iV ((w.alloc (.cells #[.func (.func 185) #[] #[.pointer (some ⟨go,0,none⟩)]] 180)).alloc (.cells #[] 60)) 27 _ (w.heap.size+1+1) (by simp)).alloc _
 have br:Blk W (w.heap.size+1+1+1) 198 #[.nilFunc]:=by
  rw[hW];exact Blk.iV (((w.alloc (.cells #[.func (.func 185) #[] #[.pointer (some ⟨go,0,none⟩)]] 180)).alloc (.cells #[] 60)).alloc (.cells #[.slice (some ⟨w.heap.size+1,0,none⟩) 0 0] 27)) 198 _ (w.heap.size+1+1+1) (by simp)
 have oh:aC 60 3 aT W0.heap.size W (.slice (some ⟨w.heap.size+1,0,none⟩) ([]:List Dm).length 0) []:=by
  have:=(fB (w.alloc (.cells #[.func (.func 185) #[] #[.pointer (some ⟨go,0,none⟩)]] 180)) (E:=60) (size:=3) (enc:=aT)).mono (show W0.heap.size<=_ by have:=B.size;simp;omega);rw[hW];have q:=(this.alloc (.cells #[.slice (some ⟨w.heap.size+1,0,none⟩) 0 0] 27)).alloc (.cells #[.nilFunc] 198);simpa using q
 have hB0:=B.size;obtain⟨gc,hgc⟩:=Oy w.heap.size;obtain⟨gh,hgh⟩:=Oy (w.heap.size+1);obtain⟨gl,hgl⟩:=Oy (w.heap.size+1+1);obtain⟨gr,hgr⟩:=Oy (w.heap.size+1+1+1);have bo1:=bo.bl hBw;have oo1:=oo.below hBw;have B1:=B.tr hBw;have hOl:(Value.slice O 0 oc).ownBlock≠some gl:=fun e=>by have:=(World.ownsRow.lt oo _ e).2;omega
 go_enter Tryz.func184,Tryz.ntmps184
 go_upto_region 3 with(fail)
 rw[<-hW,<-hgr,<-hgl,<-hgh,<-hgc];rw[<-hgr]at br;rw[<-hgl,<-hgh]at bl;rw[<-hgh]at oh;rw[<-hgc]at bc;have hgl0:W0.heap.size<=gl:=(by omega);have hgr0:W0.heap.size<=gr:=(by omega);clear hW hgc hgh hgl hgr hBw B bo oo hB0 hgol;have z0:=br.c1;have f0:=fun j=>br.frozen j
 have br2:=br.CY 0 (.func (.func 215) #[] #[.pointer (some ⟨gc,0,none⟩),.pointer (some ⟨gl,0,none⟩),.pointer (some ⟨gr,0,none⟩)]);have n1:=bc.ne br (by decide);have n2:=bl.ne br (by decide);have n3:=bo1.ne br (by decide)
 have st:LSt W0 (W.setCell ⟨gr,0,none⟩ (.func (.func 215) #[] #[.pointer (some ⟨gc,0,none⟩),.pointer (some ⟨gl,0,none⟩),.pointer (some ⟨gr,0,none⟩)])) gc gl gr go (.slice (some ⟨gh,0,none⟩) ([]:List Dm).length 0) [] (.slice O 0 oc) []:=
  ⟨bc.far n1 _,bl.far n2 _,br2,bo1.far n3 _,oh.far (oh.apart br (by decide)) _,⟨[],oo1.far (oo1.apart br (by decide)) _,rfl,fun k u x h=>by simp at h⟩,hOl,B1.st _ _ hgr0,hgl0,hgo⟩
 go_wp2_with (go_at_call 215;go_must (refine(Kv 0 (by decide) s [] [] _ _ _ hs (fun k hk=>absurd hk (Nat.not_lt_zero k)) (by simp) (by simpa using hn) st).mono ?_;rintro e w1 ⟨rfl,v',o',st1,fr1,nx1⟩))
 go_end0
 refine⟨rfl,o',st1.bo,?_,st1.B⟩;have:=st1.ol.ll;rw[List.nil_append,Gl]at this;exact this
theorem Ew (v:Value) (rows:List Int) (w:World) (h:Rd 1 bH w v rows):Calls prog 130 #[.agg #[v]] w (Bo (aF rows) w):=by
 obtain⟨A,c,rfl,hc,hm⟩:=h.form;have hA:=(Below.refl w.heap.size w).al (.cells #[.slice A rows.length c] 26);have bX:=Blk.bK w 26 #[.slice A rows.length c];have hlen:=xC rows;obtain⟨R,hR⟩:=Oy (aF rows);rw[<-hR]at hlen⊢;unfold aF at hR;obtain⟨n,hn⟩:=Oy (bG rows);have C:∀(u:Value) (w:World),Rd 1 bH w u rows->Calls prog 183 #[.agg #[u]] w (Ret (.int .i64 n) w):=fun u w k1=>by rw[hn];exact FW u rows w k1
 obtain⟨i,hi⟩:=Oy (inB n 1 300);have CI:∀(w:World),Calls prog 76 #[.int .i64 n,.int .i64 1,.int .i64 300] w (Pure (.bool i) w):=fun w=>by rw[hi];exact fI n 1 300 w
 rw[<-hn,<-hi]at hR;cases i
 . obtain rfl : R = [] := by rw [hR]; rfl
   clear hR hi hn hlen;go_enter func130,ntmps130
   go_wp2_with fail
   refine(C _ _ (h.Oz hA)).mono ?_;rintro e w1 ⟨rfl,hb1⟩;go_wp2_with (go_at_call 76;(with_reducible refine(CI _).mono ?_);rintro e w' ⟨rfl,rfl⟩)
   go_ret;exact⟨none,0,rfl,dF.CV,hA.tr hb1⟩
 . obtain rfl : R = gV (setOf rows) := by rw [hR]; rfl
   have hr:aZ rows=true:=by
    rcases q:aZ rows with _|_
    . have h1 : 1 <= n /\ n <= 300 := by simpa [inB] using hi.symm
      exact absurd (show bG rows=0 by unfold bG;rw[q];rfl) (by omega)
    . rfl
   have Hok:Hid (dJ rows):=OA (aN.1 hr);have hs0:=dX Hok.out;obtain⟨s,hse⟩:=Oy (setOf rows);have CS:∀(u:Value) (w:World),Rd 1 bH w u rows->Calls prog 109 #[.agg #[u]] w (Ret (.int .u64 (s:Nat)) w):=fun u w k1=>by rw[hse];exact qD u rows w k1 Hok
   rw[<-hse]at hs0 hlen⊢;clear hR hi hn hse hr;go_enter func130,ntmps130
   go_wp2_with fail
   refine(C _ _ (h.Oz hA)).mono ?_;rintro e w1 ⟨rfl,hb1⟩;have B1:=(hA.tr hb1).al (.cells #[] 27);have z0:=(bX.bl hb1).c1;have hl:=(bX.bl hb1).lt;go_upto_region 4 with(go_at_call 76;(with_reducible refine(CI _).mono ?_);rintro e w' ⟨rfl,rfl⟩)
   have bO:=Blk.iV (w1.alloc (.cells #[] 27)) 140 #[.slice (some ⟨w1.heap.size,0,none⟩) 0 0] (w1.heap.size+1) (by simp)
   have oO:aC 27 1 eV w.heap.size ((w1.alloc (.cells #[] 27)).alloc (.cells #[.slice (some ⟨w1.heap.size,0,none⟩) 0 0] 140)) (.slice (some ⟨w1.heap.size,0,none⟩) 0 0) []:=
    ((fB w1 (E:=27) (size:=1) (enc:=eV)).mono (hA.tr hb1).size).alloc _
   have B2:=B1.al (.cells #[.slice (some ⟨w1.heap.size,0,none⟩) 0 0] 140);have bX2:=((bX.bl hb1).alloc (.cells #[] 27)).alloc (.cells #[.slice (some ⟨w1.heap.size,0,none⟩) 0 0] 140);have hg0:w.heap.size<=w1.heap.size+1:=(by omega);obtain⟨W,hW⟩:=Oy ((w1.alloc (.cells #[] 27)).alloc (.cells #[.slice (some ⟨w1.heap.size,0,none⟩) 0 0] 140));obtain⟨go,hgo⟩:=Oy (w1.heap.size+1);rw[<-hW]at bO oO B2 bX2⊢;rw[<-hgo]at bO hg0⊢;clear hW hgo B1 z0 hl hb1 hA bX;have zx:=bX2.c1;go_wp2_with fail
   refine(CS _ _ (h.Oz B2)).mono ?_;rintro e w3 ⟨rfl,hb3⟩;go_wp2_with (go_at_call 184;go_must (refine(Kw (W0:=w) s go _ _ hs0 hlen (bO.bl hb3) (oO.below hb3) (B2.tr hb3) hg0).mono ?_;rintro e w4 ⟨rfl,o',bo4,oo4,B4⟩;obtain⟨O4,c4,rfl,_,_⟩:=oo4.form;have zo:=bo4.c1))
   go_ret;exact⟨O4,c4,rfl,oo4,B4⟩
end Go.Proofs.YtljfoohaapckeaaGreatDoor
