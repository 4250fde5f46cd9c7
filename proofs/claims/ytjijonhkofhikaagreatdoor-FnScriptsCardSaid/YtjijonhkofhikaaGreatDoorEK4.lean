import Derived.Test.YtjijonhkofhikaaGreatDoorEK3
import Derived.Deep.DeepCutAuto
open _root_.List renaming drop_of_length_le->TZ,length_set->T9
open _root_.Nat renaming zero_le->Ua,zero_mul->Ub,add_zero->Uc,le_refl->Ud,one_pos->Ue,mul_one->Uf,le_succ->Ug
open _root_.Bool renaming and_eq_true->Uh
open _root_.Go.Proofs.Tryz (prog func163 ntmps163 func60 ntmps60 func121 ntmps121 func175 ntmps175 func119 ntmps119)
set_option linter.unusedVariables false
set_option maxHeartbeats 4000000
set_option maxRecDepth 100000
set_option linter.unusedSimpArgs false
namespace Go.Proofs.YtjijonhkofhikaaGreatDoor
open Go.ChangeShapes Go.WideShapes Go.ChangeAt Go.RowKit
def aT (d:Dm):Int:=2*(d.2.1*8+d.1)+if d.2.2 then 1 else 0
def eY (d:Dm):Nat:=(dJ (d.1,d.2.1)).toNat
def jG (d:Dm):Nat:=(dJ (sec d)).toNat
def aG (d:Dm):Nat:=uV (uV 0 (eY d)) (jG d)
theorem AX {d:Dm} (h:aI d=true):eY d<64/\jG d<64:=by
 have h1:bM (d.1,d.2.1)=true:=by unfold aI at h;rw[Uh]at h;exact h.1
 have h2:bM (sec d)=true:=by unfold aI at h;rw[Uh]at h;exact h.2
 have a:=dO h1;have b:=dO h2;unfold eY jG;omega
theorem pF:0<U64:=by unfold U64;decide
theorem dP {d:Dm} (h:aI d=true):aG d<U64:=by
 obtain⟨a,b⟩:=AX h;exact Fa (Fa pF a) b
theorem Eg (x y:Int) (d:Bool) (w:World) (hd:aI (x,y,d)=true):Calls prog 163 #[.agg #[.int .i64 x,.int .i64 y,.bool d]] w (Ret (.int .i64 (aT (x,y,d))) w):=by
 have D1:=mW hd;simp only at D1;obtain⟨⟨x1,x2⟩,y1,y2⟩:=D1;have hc:bM (x,y)=true:=by unfold aI at hd;rw[Uh]at hd;exact hd.1
 have e:=(dO hc).1;simp only at e;have He:=TY e;clear e hc;cases d
 . go_enter func163,ntmps163
   go_wp2_with fail
   refine(mZ x y _).mono ?_;rintro e w1 ⟨rfl,hb1⟩;obtain⟨hc1,a7,hz1⟩:=bk hb1;(try simp at hz1)
   have a6:w.heap.size<w1.heap.size:=(by omega);rw[He.out];go_wp2;go_ret;exact⟨F8 (by simp[aT]),((Below.refl _ _).al _).tr hb1⟩
 . go_enter func163,ntmps163
   go_wp2_with fail
   refine(mZ x y _).mono ?_;rintro e w1 ⟨rfl,hb1⟩;obtain⟨hc1,a7,hz1⟩:=bk hb1;(try simp at hz1)
   have a6:w.heap.size<w1.heap.size:=(by omega);rw[He.out];go_wp2;go_ret;exact⟨F8 (by simp[aT]),((Below.refl _ _).al _).tr hb1⟩
theorem NK {d:Dm} (h:aI d=true):0<=aT d/\aT d<=127:=by
 have D1:=mW h;unfold aT;split<;>omega
theorem Br (x y:Int) (d:Bool) (w:World) (hd:aI (x,y,d)=true):Calls prog 105 #[.agg #[.int .i64 x,.int .i64 y,.bool d]] w (Ret (.bool true) w):=by
 have:=aR x y d w;rw[hd]at this;exact this
theorem Ca (x y:Int) (d:Bool) (x' y':Int) (d':Bool) (w:World) (hd:aI (x,y,d)=true) (bA:aI (x',y',d')=true):
 Calls prog 107 #[.agg #[.int .i64 x,.int .i64 y,.bool d],.agg #[.int .i64 x',.int .i64 y',.bool d']] w (Ret (.bool (decide (aT (x,y,d)<aT (x',y',d')))) w):=by
 have hA:=((Below.refl w.heap.size w).al (.cells #[.int .i64 x,.int .i64 y,.bool d] 99)).al (.cells #[.int .i64 x',.int .i64 y',.bool d'] 99);have hz:w.heap.size+1+1<=((w.alloc (.cells #[.int .i64 x,.int .i64 y,.bool d] 99)).alloc (.cells #[.int .i64 x',.int .i64 y',.bool d'] 99)).drew.heap.size:=(by simp);have a6:=hA.drew;have Hd:=TY hd;have bB:=TY bA;clear hd bA;have bE:w.heap.size<w.heap.size+1+1:=(by omega);have bF:w.heap.size+1<w.heap.size+1+1:=(by omega);go_enter Tryz.func107,Tryz.ntmps107
 go_wp2_with fail
 go_region_held3 (fun w'=>w'.cell? ⟨w.heap.size,0,none⟩=some (.int .i64 x)/\w'.cell? ⟨w.heap.size,1,none⟩=some (.int .i64 y)/\w'.cell? ⟨w.heap.size,2,none⟩=some (.bool d)/\w'.cell? ⟨w.heap.size+1,0,none⟩=some (.int .i64 x')/\w'.cell? ⟨w.heap.size+1,1,none⟩=some (.int .i64 y')/\w'.cell? ⟨w.heap.size+1,2,none⟩=some (.bool d')) (go_keep) (first|(go_at_call 105;go_must (refine(Br _ _ _ _ (by first|exact Hd.out|exact bB.out)).mono ?_;rintro e wX ⟨rfl,a7⟩;obtain⟨bC,bD,a8⟩:=bkn a7 (w.heap.size+1+1) hz;have hz:=a8;have a6:=a6.tr a7))|(go_at_call 163;go_must (refine(Eg _ _ _ _ (by first|exact Hd.out|exact bB.out)).mono ?_;rintro e wX ⟨rfl,a7⟩;obtain⟨bC,bD,a8⟩:=bkn a7 (w.heap.size+1+1) hz;have hz:=a8;have a6:=a6.tr a7)))
 go_wp2;go_ret;exact⟨rfl,a6⟩
theorem NL (S:Int) (s:Nat) (x y:Int) (w:World) (hS:S=(s:Int)) (hs:s<U64) (hc:bM (x,y)=true):Calls prog 162 #[.int .u64 S,.agg #[.int .i64 x,.int .i64 y]] w (Ret (.int .u64 (uV s (dJ (x,y)).toNat:Nat)) w):=by
 subst hS;exact ND s x y w hs hc
theorem cZ (x y:Int) (d:Bool) (w:World) (hd:aI (x,y,d)=true):Calls prog 106 #[.agg #[.int .i64 x,.int .i64 y,.bool d]] w (Ret (.int .u64 (aG (x,y,d):Nat)) w):=by
 have h1:bM (x,y)=true:=by unfold aI at hd;rw[Uh]at hd;exact hd.1
 have h2:bM (sec (x,y,d))=true:=by unfold aI at hd;rw[Uh]at hd;exact hd.2
 have hI:=(AX hd).1;have hs1:uV 0 (eY (x,y,d))<U64:=Fa pF hI;have e:aG (x,y,d)=uV (uV 0 (dJ (x,y)).toNat) (dJ (sec (x,y,d))).toNat:=rfl;have a7:uV 0 (dJ (x,y)).toNat<U64:=hs1;obtain⟨s,hs⟩:=TV (sec (x,y,d));rw[<-hs]at h2 e;obtain⟨sx,sy⟩:=s;obtain⟨D,hD⟩:=TV (aG (x,y,d));rw[<-hD]at e⊢;have H1:=TY h1;have H2:=TY h2;have Hs:=TY hs;have He:=TY e;have bB:=TY a7;clear h1 h2 hs e hs1 a7 hI hD hd;go_enter Tryz.func106,Tryz.ntmps106
 go_wp2_with fail
 refine(lW x y d _).mono ?_;rintro e w1 ⟨rfl,hb1⟩;obtain⟨hc1,bD,hz1⟩:=bk hb1;(try simp at hz1)
 have a8:w.heap.size<w1.heap.size:=(by omega);rw[<-Hs.out];have hA:=((((Below.refl _ _).al _).tr hb1).al (.cells #[.int .i64 x,.int .i64 y] 83)).al (.cells #[.int .i64 sx,.int .i64 sy] 83);have hz:w1.heap.size+1+1<=((w1.alloc (.cells #[.int .i64 x,.int .i64 y] 83)).alloc (.cells #[.int .i64 sx,.int .i64 sy] 83)).drew.heap.size:=(by simp);have a6:=hA.drew;have bE:w1.heap.size<w1.heap.size+1+1:=(by omega);have bF:w1.heap.size+1<w1.heap.size+1+1:=(by omega);go_wp2_with fail
 go_region_held3 (fun w'=>w'.cell? ⟨w1.heap.size,0,none⟩=some (.int .i64 x)/\w'.cell? ⟨w1.heap.size,1,none⟩=some (.int .i64 y)/\w'.cell? ⟨w1.heap.size+1,0,none⟩=some (.int .i64 sx)/\w'.cell? ⟨w1.heap.size+1,1,none⟩=some (.int .i64 sy)) (go_keep) (first|(go_at_call 162;go_must (refine(NL _ _ _ _ _ (by first|exact(rfl:(0:Int)=((0:Nat):Int))|rfl) (by first|exact pF|exact bB.out) (by first|exact H1.out|exact H2.out)).mono ?_;rintro e wX ⟨rfl,bA⟩;obtain⟨bJ,bK,bC⟩:=bkn bA (w1.heap.size+1+1) hz;have hz:=bC;have a6:=a6.tr bA)))
 go_wp2;go_ret;exact⟨TD (by rw[He.out]),a6⟩
def kK (left:Nat):Option Dm->List Dm->Bool
  |_,[]=>true
  |p,d::r=>aI d&&decide (left&&&aG d=aG d)&&(match p with|none=>true|some e=>decide (aT e<aT d))&&kK (dE left (aG d)) (some d) r
def isPartial (rows:List Int) (l:List Dm):Bool:=bQ rows&&kK (setOf rows) none l
end Go.Proofs.YtjijonhkofhikaaGreatDoor
namespace Go.Proofs.YtjijonhkofhikaaGreatDoor
open Go.ChangeShapes Go.WideShapes Go.ChangeAt Go.RowKit
def Aj (l:List Dm) (k:Nat):Option Dm:=if k=0 then none else l[k-1]?
theorem Cb (l:List Dm):Aj l 0=none:=rfl
theorem fT (l:List Dm) (k:Nat) (h:k<l.length):Aj l (k+1)=some l[k]:=by
 unfold Aj;rw[if_neg (by omega)];simp[h]
def rG (p:Option Dm) (d:Dm):Bool:=match p with|none=>true|some e=>decide (aT e<aT d)
theorem rV (left:Nat) (p:Option Dm) (d:Dm) (r:List Dm):kK left p (d::r)=(aI d&&decide (left&&&aG d=aG d)&&rG p d&&kK (dE left (aG d)) (some d) r):=rfl
theorem uB {a b:Nat} (ha:a<U64) (hb:b<U64):bits .and .u64 (a:Int) (b:Int)=((a&&&b:Nat):Int)/\bits .andNot .u64 (a:Int) (b:Int)=((dE a b:Nat):Int):=by
 unfold U64 at ha hb;exact⟨u64_and_nat a b ha hb,u64_andNot_nat a b ha hb⟩
theorem TI {a b:Nat} (h:a=b):Value.int .u64 a=Value.int .u64 b:=by rw[h]
theorem qK (v u:Value) (rows:List Int) (l:List Dm) (w:World) (h:Rd 1 bG w v rows) (h2:Rd 3 aU w u l):Calls prog 60 #[.agg #[v],u] w (Ret (.bool (isPartial rows l)) w):=by
 obtain⟨A,c,rfl,hc,hm⟩:=h.form;obtain⟨A2,c2,rfl,hc2,cC⟩:=h2.form;have hA:=((Below.refl w.heap.size w).al (.cells #[.slice A rows.length c] 26));have h':=h.TW hA;rcases hr:bQ rows with _|_
 . have e : isPartial rows l = false := by unfold isPartial; rw [hr]; rfl
   rw[e];go_enter func60,ntmps60
   go_wp2_with fail
   refine(nT _ rows _ h').mono ?_;rintro e w1 ⟨rfl,hb1⟩;obtain⟨hc1,b6,hz1⟩:=bk hb1;(try simp at hz1)
   have bK:w.heap.size<w1.heap.size:=(by omega);rw[hr];go_wp2;go_ret;exact⟨rfl,hA.tr hb1⟩
 . have e : isPartial rows l = kK (setOf rows) none l := by unfold isPartial; rw [hr]; rfl
   rw[e];have bE:=aN.1 hr;have hs:=dW bE;have b7:=TY bE;clear bE e;go_enter func60,ntmps60
   go_wp2_with fail
   refine(nT _ rows _ h').mono ?_;rintro e w1 ⟨rfl,hb1⟩;obtain⟨hc1,b6,hz1⟩:=bk hb1;(try simp at hz1)
   have bK:w.heap.size<w1.heap.size:=(by omega);rw[hr];go_wp2_with fail
   refine(pM _ rows _ (h'.TW hb1) b7).mono ?_;rintro e w2 ⟨rfl,hb2⟩;obtain⟨s,bW⟩:=TV (setOf rows);rw[<-bW]at hs⊢;have bU:=TY bW;clear bW hr;have B2:=(hA.tr hb1).tr hb2;clear hc1 b6 hz1 bK hb1 hb2 h';go_wp2;go_loopw [5,15] (fun s5 b8 wr=>∃k left:Nat,k<=l.length/\b8= .int .i64 k/\s5= .int .u64 left/\left<U64/\Hid (kK left (Aj l k) (l.drop k)=kK s none l)/\Hid (∀e,Aj l k=some e->aI e=true)/\Below w.heap.size w wr) (fun _ i _=>l.length-(intOf i).toNat)
   case atStart=>exact⟨0,s,Ua _,rfl,rfl,hs,TY rfl,TY (fun e he=>by cases he),B2⟩
   case round=>
    obtain⟨k,left,hk,rfl,rfl,bF,Hg,Hp,bJ⟩:=hrel;clear B2;by_cases hlt:k<l.length
    . obtain⟨b,off,rfl,hb,q1,q2,q3⟩:=(h2.TW bJ).jT hlt;have hg:=Hg.out;rw[List.drop_eq_getElem_cons hlt,rV]at hg;obtain⟨d,hd⟩:=TV (l[k]);rw[<-hd]at q1 q2 q3 hg;obtain⟨x,y,dn⟩:=d;simp only at q1 q2 q3;have b9:=bJ.al (.cells #[.int .i64 x,.int .i64 y,.bool dn] 99);have a6:=b9.drew;have hz:wr.heap.size+1<=(wr.alloc (.cells #[.int .i64 x,.int .i64 y,.bool dn] 99)).drew.heap.size:=(by simp);have cD:wr.heap.size<wr.heap.size+1:=(by omega);rcases bE:aI (x,y,dn)with _|_
      . rw[bE]at hg;simp only[Bool.false_and]at hg;have HG:=TY hg;have bO:=TY hd;have a8:=TY bE;clear hg hd bE;go_wp2_with fail
        refine rB (fun w'=>w'.cell? ⟨wr.heap.size,0,none⟩=some (.int .i64 x)/\w'.cell? ⟨wr.heap.size,1,none⟩=some (.int .i64 y)/\w'.cell? ⟨wr.heap.size,2,none⟩=some (.bool dn)) fun hHeld=>(tW 0)<|(tR [1])<|tL fun K hK=>?_
        go_simp
        (first|(go_at_call 105;go_must (refine(aR x y dn _).mono ?_;rintro e wX ⟨rfl,a7⟩;rw[a8.out];obtain⟨bB,bC,bA⟩:=bkn a7 (wr.heap.size+1) hz;have hz:=bA;have a6:=a6.tr a7);(try go_wp2_with fail)))
        refine tK hK fun hHeld=>?_
        clear hK K;refine(tW 2)<|(tW 3)<|(tU 4)<|(tU 5)<|(tU 6)<|(tU 7)<|(tU 8)<|(tU 9)<|(tU 10)<|(tW 11)<|(tW 12)<|(tU 13)<|(tU 14)<|(tU 15)<|(tU 16)<|(tU 17)<|(tU 18)<|(tU 19)<|(tU 20)<|(tU 21)<|(tU 22)<|(tU 23)<|(tU 24)<|(tW 25)<|tD ?_
        all_goals
          go_wp2;go_ret;exact⟨lF (by have:=HG.out;rw[bU.out]at this;exact this),a6⟩
      . rw[bE]at hg;simp only[Bool.true_and]at hg;have hDlt:=dP bE;obtain⟨D,hD⟩:=TV (aG (x,y,dn));rw[<-hD]at hg hDlt;obtain⟨hand,cA⟩:=uB bF hDlt;have HD:=TY hD;have a8:=TY bE;have bO:=TY hd;clear hD bE hd;rcases bD:decide (left&&&D=D)with _|_
        . rw[bD]at hg;simp only[Bool.false_and]at hg
          have hne:(((left&&&D:Nat):Int) !=(D:Int))=true:=by
           rw[decide_eq_false_iff_not]at bD;rw[bne_iff_ne];omega
          have HG:=TY hg;clear hg bD;go_wp2_with fail
          refine rB (fun w'=>w'.cell? ⟨wr.heap.size,0,none⟩=some (.int .i64 x)/\w'.cell? ⟨wr.heap.size,1,none⟩=some (.int .i64 y)/\w'.cell? ⟨wr.heap.size,2,none⟩=some (.bool dn)) fun hHeld=>(tW 0)<|(tR [1])<|tL fun K hK=>?_
          go_simp
          (first|(go_at_call 105;go_must (refine(aR x y dn _).mono ?_;rintro e wX ⟨rfl,a7⟩;rw[a8.out];obtain⟨bB,bC,bA⟩:=bkn a7 (wr.heap.size+1) hz;have hz:=bA;have a6:=a6.tr a7);(try go_wp2_with fail))|(go_at_call 106;go_must (refine(cZ x y dn _ a8.out).mono ?_;rintro e wX ⟨rfl,a7⟩;rw[<-HD.out];obtain⟨bB,bC,bA⟩:=bkn a7 (wr.heap.size+1) hz;have hz:=bA;have a6:=a6.tr a7);(try go_wp2_with fail)))
          refine tK hK fun hHeld=>?_
          clear hK K;refine(tW 2)<|(tW 3)<|(tW 4)<|(tW 5)<|(tW 8)<|(tR [6])<|tL fun K hK=>?_
          go_simp
          (first|(go_at_call 105;go_must (refine(aR x y dn _).mono ?_;rintro e wX ⟨rfl,a7⟩;rw[a8.out];obtain⟨bB,bC,bA⟩:=bkn a7 (wr.heap.size+1) hz;have hz:=bA;have a6:=a6.tr a7);(try go_wp2_with fail))|(go_at_call 106;go_must (refine(cZ x y dn _ a8.out).mono ?_;rintro e wX ⟨rfl,a7⟩;rw[<-HD.out];obtain⟨bB,bC,bA⟩:=bkn a7 (wr.heap.size+1) hz;have hz:=bA;have a6:=a6.tr a7);(try go_wp2_with fail)))
          refine tK hK fun hHeld=>?_
          clear hK K;refine(tW 7)<|(tR [9])<|tL fun K hK=>?_
          go_simp
          (first|(go_at_call 105;go_must (refine(aR x y dn _).mono ?_;rintro e wX ⟨rfl,a7⟩;rw[a8.out];obtain⟨bB,bC,bA⟩:=bkn a7 (wr.heap.size+1) hz;have hz:=bA;have a6:=a6.tr a7);(try go_wp2_with fail))|(go_at_call 106;go_must (refine(cZ x y dn _ a8.out).mono ?_;rintro e wX ⟨rfl,a7⟩;rw[<-HD.out];obtain⟨bB,bC,bA⟩:=bkn a7 (wr.heap.size+1) hz;have hz:=bA;have a6:=a6.tr a7);(try go_wp2_with fail)))
          refine tK hK fun hHeld=>?_
          clear hK K;refine(tW 10)<|(tW 11)<|(tW 12)<|(tU 13)<|(tU 14)<|(tU 15)<|(tU 16)<|(tU 17)<|(tU 18)<|(tU 19)<|(tU 20)<|(tU 21)<|(tU 22)<|(tU 23)<|(tU 24)<|(tW 25)<|tD ?_
          all_goals
            go_wp2;go_ret;exact⟨lF (by have:=HG.out;rw[bU.out]at this;exact this),a6⟩
        . rw[bD]at hg;simp only[Bool.true_and]at hg
          have hne:(((left&&&D:Nat):Int) !=(D:Int))=false:=by
           rw[decide_eq_true_iff]at bD;rw[bne_eq_false_iff_eq];omega
          clear bD;rcases Nat.eq_zero_or_pos k with rfl|cE
          . rw[Cb]at hg;simp only[rG,Bool.true_and]at hg;have HG:=TY hg;clear hg;simp only[Ub,Uc]at q1 q2 q3;go_wp2_with fail
            refine rB (fun w'=>w'.cell? ⟨wr.heap.size,0,none⟩=some (.int .i64 x)/\w'.cell? ⟨wr.heap.size,1,none⟩=some (.int .i64 y)/\w'.cell? ⟨wr.heap.size,2,none⟩=some (.bool dn)) fun hHeld=>(tW 0)<|(tR [1])<|tL fun K hK=>?_
            go_simp
            (first|(go_at_call 105;go_must (refine(aR x y dn _).mono ?_;rintro e wX ⟨rfl,a7⟩;rw[a8.out];obtain⟨bB,bC,bA⟩:=bkn a7 (wr.heap.size+1) hz;have hz:=bA;have a6:=a6.tr a7);(try go_wp2_with fail))|(go_at_call 106;go_must (refine(cZ x y dn _ a8.out).mono ?_;rintro e wX ⟨rfl,a7⟩;rw[<-HD.out];obtain⟨bB,bC,bA⟩:=bkn a7 (wr.heap.size+1) hz;have hz:=bA;have a6:=a6.tr a7);(try go_wp2_with fail)))
            refine tK hK fun hHeld=>?_
            clear hK K;refine(tW 2)<|(tW 3)<|(tW 4)<|(tW 5)<|(tW 8)<|(tR [6])<|tL fun K hK=>?_
            go_simp
            (first|(go_at_call 105;go_must (refine(aR x y dn _).mono ?_;rintro e wX ⟨rfl,a7⟩;rw[a8.out];obtain⟨bB,bC,bA⟩:=bkn a7 (wr.heap.size+1) hz;have hz:=bA;have a6:=a6.tr a7);(try go_wp2_with fail))|(go_at_call 106;go_must (refine(cZ x y dn _ a8.out).mono ?_;rintro e wX ⟨rfl,a7⟩;rw[<-HD.out];obtain⟨bB,bC,bA⟩:=bkn a7 (wr.heap.size+1) hz;have hz:=bA;have a6:=a6.tr a7);(try go_wp2_with fail)))
            refine tK hK fun hHeld=>?_
            clear hK K;refine(tW 7)<|(tR [9])<|tL fun K hK=>?_
            go_simp
            (first|(go_at_call 105;go_must (refine(aR x y dn _).mono ?_;rintro e wX ⟨rfl,a7⟩;rw[a8.out];obtain⟨bB,bC,bA⟩:=bkn a7 (wr.heap.size+1) hz;have hz:=bA;have a6:=a6.tr a7);(try go_wp2_with fail))|(go_at_call 106;go_must (refine(cZ x y dn _ a8.out).mono ?_;rintro e wX ⟨rfl,a7⟩;rw[<-HD.out];obtain⟨bB,bC,bA⟩:=bkn a7 (wr.heap.size+1) hz;have hz:=bA;have a6:=a6.tr a7);(try go_wp2_with fail)))
            refine tK hK fun hHeld=>?_
            clear hK K;refine(tW 10)<|(tW 11)<|(tW 12)<|(tW 13)<|(tW 14)<|(tW 15)<|(tU 16)<|(tU 17)<|(tU 18)<|(tU 19)<|(tU 20)<|(tU 21)<|(tU 22)<|(tU 23)<|(tW 24)<|(tW 25)<|tD ?_;go_wp2_with fail
            refine(cZ x y dn _ a8.out).mono ?_;rintro e w9 ⟨rfl,bX⟩;rw[<-HD.out];go_wp2;go_roundw
            case rel=>exact⟨_,dE left D,hlt,by go_num,rfl,eD bF,by rw[fT l _ hlt,<-bO.out];exact HG,TY (fun e he=>by rw[fT l _ hlt,<-bO.out]at he;injection he with he;rw[<-he];exact a8.out),a6.tr bX⟩
            case measure=>simp[intOf];omega
          . obtain ⟨j, rfl⟩ : ∃ j, k = j + 1 := ⟨k - 1, by omega⟩;have hj:j<l.length:=(by omega);rw[fT l j hj]at hg;have bL:=Hp.out l[j] (fT l j hj);obtain⟨b',cB,e',hb',p1,p2,p3⟩:=(h2.TW bJ).jT hj;injection e' with e';injection e' with e1 e2 e3;subst e1;subst e2;simp only[rG]at hg;obtain⟨dp,bY⟩:=TV (l[j]);rw[<-bY]at p1 p2 p3 hg bL;obtain⟨px,py,pd⟩:=dp;simp only at p1 p2 p3;have bR:=TY bL;have cF:=TY bY;clear bL bY e3;have cG:b<wr.heap.size+1:=(by omega);have cH:IntKind.i64.wrap (j:Int)=(j:Int):=IntWalk.i64_in _ (by omega);have cI:(0:Int)<=(j:Int):=(by omega);have cJ:(j:Int)<(l.length:Int):=(by omega);rcases bN:decide (aT (px,py,pd)<aT (x,y,dn))with _|_
            . rw[bN]at hg;simp only[Bool.false_and]at hg;have HG:=TY hg;have b5:=TY bN;clear hg bN;go_wp2_with fail
              go_region_held3 (fun w'=>w'.cell? ⟨wr.heap.size,0,none⟩=some (.int .i64 x)/\w'.cell? ⟨wr.heap.size,1,none⟩=some (.int .i64 y)/\w'.cell? ⟨wr.heap.size,2,none⟩=some (.bool dn)/\w'.cell? ⟨b,off+j*3,none⟩=some (.int .i64 px)/\w'.cell? ⟨b,off+j*3+1,none⟩=some (.int .i64 py)/\w'.cell? ⟨b,off+j*3+2,none⟩=some (.bool pd)) (go_keep) (first|(go_at_call 105;go_must (refine(aR x y dn _).mono ?_;rintro e wX ⟨rfl,a7⟩;rw[a8.out];obtain⟨bB,bC,bA⟩:=bkn a7 (wr.heap.size+1) hz;have hz:=bA;have a6:=a6.tr a7);(try go_wp2_with fail))|(go_at_call 106;go_must (refine(cZ x y dn _ a8.out).mono ?_;rintro e wX ⟨rfl,a7⟩;rw[<-HD.out];obtain⟨bB,bC,bA⟩:=bkn a7 (wr.heap.size+1) hz;have hz:=bA;have a6:=a6.tr a7);(try go_wp2_with fail))|(go_at_call 107;go_must (refine(Ca px py pd x y dn _ bR.out a8.out).mono ?_;rintro e wX ⟨rfl,a7⟩;rw[b5.out];obtain⟨bB,bC,bA⟩:=bkn a7 (wr.heap.size+1) hz;have hz:=bA;have a6:=a6.tr a7);(try go_wp2_with fail)))
              all_goals
                go_wp2;go_ret;exact⟨lF (by have:=HG.out;rw[bU.out]at this;exact this),a6⟩
            . rw[bN]at hg;simp only[Bool.true_and]at hg;have HG:=TY hg;have b5:=TY bN;clear hg bN;go_wp2_with fail
              go_region_held3 (fun w'=>w'.cell? ⟨wr.heap.size,0,none⟩=some (.int .i64 x)/\w'.cell? ⟨wr.heap.size,1,none⟩=some (.int .i64 y)/\w'.cell? ⟨wr.heap.size,2,none⟩=some (.bool dn)/\w'.cell? ⟨b,off+j*3,none⟩=some (.int .i64 px)/\w'.cell? ⟨b,off+j*3+1,none⟩=some (.int .i64 py)/\w'.cell? ⟨b,off+j*3+2,none⟩=some (.bool pd)) (go_keep) (first|(go_at_call 105;go_must (refine(aR x y dn _).mono ?_;rintro e wX ⟨rfl,a7⟩;rw[a8.out];obtain⟨bB,bC,bA⟩:=bkn a7 (wr.heap.size+1) hz;have hz:=bA;have a6:=a6.tr a7);(try go_wp2_with fail))|(go_at_call 106;go_must (refine(cZ x y dn _ a8.out).mono ?_;rintro e wX ⟨rfl,a7⟩;rw[<-HD.out];obtain⟨bB,bC,bA⟩:=bkn a7 (wr.heap.size+1) hz;have hz:=bA;have a6:=a6.tr a7);(try go_wp2_with fail))|(go_at_call 107;go_must (refine(Ca px py pd x y dn _ bR.out a8.out).mono ?_;rintro e wX ⟨rfl,a7⟩;rw[b5.out];obtain⟨bB,bC,bA⟩:=bkn a7 (wr.heap.size+1) hz;have hz:=bA;have a6:=a6.tr a7);(try go_wp2_with fail)))
              go_wp2_with fail
              refine(cZ x y dn _ a8.out).mono ?_;rintro e w9 ⟨rfl,bX⟩;rw[<-HD.out];go_wp2;go_roundw
              case rel=>exact⟨_,dE left D,hlt,by go_num,rfl,eD bF,by rw[fT l _ hlt,<-bO.out];exact HG,TY (fun e he=>by rw[fT l _ hlt,<-bO.out]at he;injection he with he;rw[<-he];exact a8.out),a6.tr bX⟩
              case measure=>simp[intOf];omega
    . obtain rfl : k = l.length := by omega
      have hg:=Hg.out;rw[TZ (Ud _)]at hg;have HG:=TY hg;clear hg;go_wp2;go_ret;exact⟨lF (by have:=HG.out;rw[bU.out]at this;exact this),bJ⟩
end Go.Proofs.YtjijonhkofhikaaGreatDoor
namespace Go.Proofs.YtjijonhkofhikaaGreatDoor
open Go.ChangeShapes Go.WideShapes Go.ChangeAt Go.RowKit
def mF (d:Dm) (c:Cl):Bool:=aI d&&(decide ((d.1,d.2.1)=c)||decide (sec d=c))
def rW (l:List Dm) (c:Cl):Option Dm:=l.find? (mF · c)
def iG (c:Cl):List Dm->Nat->Int
  |[],_=> -1
  |d::r,k=>if mF d c then(k:Int)else iG c r (k+1)
def qC (l:List Dm) (c:Cl):Int:=iG c l 0
theorem Im (c:Cl):∀(l:List Dm) (k:Nat),(iG c l k= -1/\rW l c=none)∨∃j,∃h:j<l.length,iG c l k=((k+j:Nat):Int)/\rW l c=some l[j]:=by
 intro l;induction l with
 |nil=>intro k;exact .inl ⟨rfl,rfl⟩
 |cons d r ih=>
  intro k;by_cases hd:mF d c=true
  . refine .inr ⟨0, by simp, ?_, ?_⟩
    . simp[iG,hd]
    . simp[rW,hd]
  . have hf : rW (d :: r) c = rW r c := by simp [rW, hd]
    have hg:iG c (d::r) k=iG c r (k+1):=(by simp[iG,hd]);rw[hf,hg];rcases ih (k+1)with h|⟨j,hj,h1,h2⟩
    . exact .inl h
    . exact .inr ⟨j+1,by simpa using hj,by rw[h1];congr 1;omega,by rw[h2];simp⟩
theorem Eh (l:List Dm) (c:Cl):(qC l c= -1/\rW l c=none)∨∃j,∃h:j<l.length,qC l c=(j:Int)/\rW l c=some l[j]:=by
 rcases Im c l 0 with h|⟨j,hj,h1,h2⟩
 . exact .inl h
 . exact .inr ⟨j,hj,by unfold qC;rw[h1];congr 1;omega,h2⟩
theorem yQ {a b:Cl} (ha:bM a=true) (hb:bM b=true) (h:(dJ a).toNat=(dJ b).toNat):a=b:=by
 have h1:=dO ha;have h2:=dO hb;have k1:=dB.1 ha;have k2:=dB.1 hb;obtain⟨a1,a2⟩:=a;obtain⟨b1,b2⟩:=b;simp only at h1 h2 k1 k2;have:a2=b2:=(by omega);have:a1=b1:=(by omega);simp_all
theorem dR {d:Dm} (h:aI d=true):bM (d.1,d.2.1)=true/\bM (sec d)=true:=by
 unfold aI at h;rw[Uh]at h;exact h
theorem aV {d:Dm} (h:aI d=true) (j:Nat):(aG d).testBit j=(decide (eY d=j)||decide (jG d=j)):=by
 unfold aG;rw[sG,sG,Nat.zero_testBit,Bool.false_or]
theorem yR {d:Dm} (h:aI d=true) (c:Cl):(bM c&&(aG d).testBit (dJ c).toNat)=mF d c:=by
 obtain⟨h1,h2⟩:=dR h;unfold mF;rw[h,Bool.true_and,aV h];rw[Bool.eq_iff_iff];simp only[Uh,Bool.or_eq_true,decide_eq_true_eq];unfold eY jG;constructor
 . rintro⟨hc,e|e⟩
   . exact .inl (yQ h1 hc e)
   . exact .inr (yQ h2 hc e)
 . rintro(e|e)
   . exact⟨e▸h1,.inl (by rw[e])⟩
   . exact⟨e▸h2,.inr (by rw[e])⟩
theorem Bt {d:Dm} (h:aI d=false) (c:Cl):mF d c=false:=by unfold mF;rw[h];rfl
theorem qW {a b:Nat} (h:a&&&b=b) (j:Nat) (hb:b.testBit j=true):a.testBit j=true:=by
 have:=congrArg (·.testBit j) h;simp only[Nat.testBit_and]at this;rw[hb]at this;simpa using this
theorem uK {left:Nat} {p:Option Dm} {d:Dm} {r:List Dm} (h:kK left p (d::r)=true):aI d=true/\left&&&aG d=aG d/\kK (dE left (aG d)) (some d) r=true:=by
 simp only[kK,Uh,decide_eq_true_eq]at h;exact⟨h.1.1.1,h.1.1.2,h.2⟩
theorem jL {a b:Nat} (ha:a<U64) (hb:b<U64) (j:Nat):(dE a b).testBit j=(a.testBit j&& !b.testBit j):=kI hb ha
theorem Ei:∀(l:List Dm) (left:Nat) (p:Option Dm),left<U64->kK left p l=true->∀d∈l,aI d=true/\∀j,(aG d).testBit j=true->left.testBit j=true:=by
 intro l;induction l with
 |nil=>intro left p _ _ d hd;cases hd
 |cons e r ih=>
  intro left p hl h d hd;obtain⟨h1,h2,h3⟩:=uK h;rcases List.mem_cons.1 hd with rfl|hd
  . exact⟨h1,fun j hj=>qW h2 j hj⟩
  . obtain⟨k1,k2⟩:=ih _ _ (eD hl) h3 d hd;refine⟨k1,fun j hj=> ?_⟩;have:=k2 j hj;rw[jL hl (dP h1)]at this;rw[Uh]at this;exact this.1
theorem jH {rows:List Int} {l:List Dm} (h:isPartial rows l=true):dY rows/\kK (setOf rows) none l=true:=by
 unfold isPartial at h;rw[Uh]at h;exact⟨aN.1 h.1,h.2⟩
theorem Rv {rows:List Int} {l:List Dm} (h:isPartial rows l=true) {c:Cl} {d:Dm} (hc:rW l c=some d):mF d c=true/\d∈l/\(setOf rows).testBit (dJ c).toNat=true:=by
 obtain⟨ho,hp⟩:=jH h;have h1:mF d c=true:=List.find?_some (p:=fun e=>mF e c) hc;have h2:d∈l:=List.mem_of_find?_eq_some hc;refine⟨h1,h2,?_⟩;obtain⟨k1,k2⟩:=Ei l _ _ (dW ho) hp d h2;apply k2;have:=yR k1 c;rw[h1,Uh]at this;exact this.2
def xW (d:Dm) (c:Cl):UInt8:=if d.2.2 then(if(d.1,d.2.1)=c then 94 else 118)else(if(d.1,d.2.1)=c then 60 else 62)
def sgn (s:Nat) (l:List Dm) (x y:Nat):UInt8:=if s.testBit (8*y+x)then(match rW l ((x:Int),(y:Int))with|none=>63|some d=>xW d ((x:Int),(y:Int)))else 46
def Jd (s:Nat) (l:List Dm) (y k:Nat):List UInt8:=(List.range k).map fun x=>sgn s l x y
def QJ (s:Nat) (l:List Dm) (y k:Nat):ByteArray:=⟨(Jd s l y k).toArray⟩
def vO (s:Nat) (l:List Dm) (n:Nat):List ByteArray:=(List.range n).map fun y=>QJ s l y 8
def jQ (rows:List Int) (l:List Dm):List ByteArray:=if isPartial rows l then vO (setOf rows) l rows.length else[]
theorem Lb (s:Nat) (l:List Dm) (y k:Nat):Jd s l y (k+1)=Jd s l y k++[sgn s l k y]:=by simp[Jd,List.range_succ]
theorem Lc (s:Nat) (l:List Dm) (n:Nat):vO s l (n+1)=vO s l n++[QJ s l n 8]:=by simp[vO,List.range_succ]
theorem xK (s:Nat) (l:List Dm) (n:Nat):(vO s l n).length=n:=by simp[vO]
end Go.Proofs.YtjijonhkofhikaaGreatDoor
namespace Go.Proofs.YtjijonhkofhikaaGreatDoor
open Go.ChangeShapes Go.WideShapes Go.ChangeAt Go.RowKit
theorem lH (v:Value) (l:List Dm) (x y:Int) (w:World) (h:Rd 3 aU w v l):Calls prog 63 #[v,.agg #[.int .i64 x,.int .i64 y]] w (Ret (.int .i64 (qC l (x,y))) w):=by
 obtain⟨A,c,rfl,hc,hm⟩:=h.form;have hA:=((Below.refl w.heap.size w).al (.cells #[.int .i64 x,.int .i64 y] 83));have hx:=Blk.aZ w 83 #[.int .i64 x,.int .i64 y];have hD:qC l (x,y)=iG (x,y) l 0:=rfl;obtain⟨D,bK⟩:=TV (qC l (x,y));rw[<-bK]at hD⊢;have HD:=TY hD;clear hD bK;go_enter Tryz.func63,Tryz.ntmps63
 go_wp2;go_loopw [9] (fun s9 wr=>∃k:Nat,k<=l.length/\s9= .int .i64 k/\Hid (iG (x,y) (l.drop k) k=D)/\wr.cell? ⟨w.heap.size,0,none⟩=some (.int .i64 x)/\wr.cell? ⟨w.heap.size,1,none⟩=some (.int .i64 y)/\w.heap.size<wr.heap.size/\Below w.heap.size w wr) (fun i _=>l.length-(intOf i).toNat)
 case atStart=>exact⟨0,Ua _,rfl,TY HD.out.symm,hx.cell 0,hx.cell 1,hx.lt,hA⟩
 case round=>
  obtain⟨k,hk,rfl,Hg,z1,z2,bO,bF⟩:=hrel;clear hx hA;by_cases hlt:k<l.length
  . obtain⟨b,off,rfl,hb,q1,q2,q3⟩:=(h.TW bF).jT hlt;have hg:=Hg.out;rw[List.drop_eq_getElem_cons hlt]at hg;obtain⟨d,hd⟩:=TV (l[k]);rw[<-hd]at q1 q2 q3 hg;obtain⟨dx,dy,dn⟩:=d;simp only at q1 q2 q3;have bL:=bF.al (.cells #[.int .i64 dx,.int .i64 dy,.bool dn] 99);have a6:=bL.drew;have hz:wr.heap.size+1<=(wr.alloc (.cells #[.int .i64 dx,.int .i64 dy,.bool dn] 99)).drew.heap.size:=(by simp);have bR:wr.heap.size<wr.heap.size+1:=(by omega);have bU:w.heap.size<wr.heap.size+1:=(by omega);have bW:w.heap.size≠wr.heap.size:=(by omega);rcases bJ:aI (dx,dy,dn)with _|_
    . have hg2 : iG (x, y) (l.drop (k + 1)) (k + 1) = D := by rw [<- hg]; simp only [iG]; rw [if_neg (by rw [Bt bJ]; simp)]
      have HG:=TY hg2;have bA:=TY bJ;have bN:=TY hd;clear hg hg2 bJ hd;go_wp2_with fail
      refine rB (fun w'=>w'.cell? ⟨wr.heap.size,0,none⟩=some (.int .i64 dx)/\w'.cell? ⟨wr.heap.size,1,none⟩=some (.int .i64 dy)/\w'.cell? ⟨wr.heap.size,2,none⟩=some (.bool dn)/\w'.cell? ⟨w.heap.size,0,none⟩=some (.int .i64 x)/\w'.cell? ⟨w.heap.size,1,none⟩=some (.int .i64 y)) fun hHeld=>(tW 0)<|(tR [1])<|tL fun K hK=>?_
      go_simp
      (first|(go_at_call 105;go_must (refine(aR dx dy dn _).mono ?_;rintro e wX ⟨rfl,a7⟩;rw[bA.out];obtain⟨bB,bC,a8⟩:=bkn a7 (wr.heap.size+1) hz;have hz:=a8;have a6:=a6.tr a7);(try go_wp2_with fail)))
      refine tK hK fun hHeld=>?_
      clear hK K;refine(tW 2)<|(tU 3)<|(tU 4)<|(tU 5)<|(tU 6)<|(tW 7)<|tD ?_;go_wp2;go_roundw
      case rel=>exact⟨k+1,by omega,by go_num,HG,hHeld.2.2.2.1,hHeld.2.2.2.2,by omega,a6⟩
      case measure=>simp[intOf];omega
    . have hDlt:=dP bJ;have bE:=yR bJ (x,y);have bA:=TY bJ;have bN:=TY hd;clear bJ hd;rcases hh:mF (dx,dy,dn) (x,y)with _|_
      . have hg2 : iG (x, y) (l.drop (k + 1)) (k + 1) = D := by rw [<- hg]; simp only [iG]; rw [if_neg (by rw [hh]; simp)]
        rw[hh]at bE;have HG:=TY hg2;have bD:=TY bE;clear hg hg2 hh bE;go_wp2_with fail
        refine rB (fun w'=>w'.cell? ⟨wr.heap.size,0,none⟩=some (.int .i64 dx)/\w'.cell? ⟨wr.heap.size,1,none⟩=some (.int .i64 dy)/\w'.cell? ⟨wr.heap.size,2,none⟩=some (.bool dn)/\w'.cell? ⟨w.heap.size,0,none⟩=some (.int .i64 x)/\w'.cell? ⟨w.heap.size,1,none⟩=some (.int .i64 y)) fun hHeld=>(tW 0)<|(tR [1])<|tL fun K hK=>?_
        go_simp
        (first|(go_at_call 105;go_must (refine(aR dx dy dn _).mono ?_;rintro e wX ⟨rfl,a7⟩;rw[bA.out];obtain⟨bB,bC,a8⟩:=bkn a7 (wr.heap.size+1) hz;have hz:=a8;have a6:=a6.tr a7);(try go_wp2_with fail))|(go_at_call 106;go_must (refine(cZ dx dy dn _ bA.out).mono ?_;rintro e wX ⟨rfl,a7⟩;obtain⟨bB,bC,a8⟩:=bkn a7 (wr.heap.size+1) hz;have hz:=a8;have a6:=a6.tr a7);(try go_wp2_with fail))|(go_at_call 62;go_must (refine(iF (aG (dx,dy,dn)) x y _ hDlt).mono ?_;rintro e wX ⟨rfl,a7⟩;rw[bD.out];obtain⟨bB,bC,a8⟩:=bkn a7 (wr.heap.size+1) hz;have hz:=a8;have a6:=a6.tr a7);(try go_wp2_with fail)))
        refine tK hK fun hHeld=>?_
        clear hK K;refine(tW 2)<|(tW 3)<|(tW 5)<|(tR [4])<|tL fun K hK=>?_
        go_simp
        (first|(go_at_call 105;go_must (refine(aR dx dy dn _).mono ?_;rintro e wX ⟨rfl,a7⟩;rw[bA.out];obtain⟨bB,bC,a8⟩:=bkn a7 (wr.heap.size+1) hz;have hz:=a8;have a6:=a6.tr a7);(try go_wp2_with fail))|(go_at_call 106;go_must (refine(cZ dx dy dn _ bA.out).mono ?_;rintro e wX ⟨rfl,a7⟩;obtain⟨bB,bC,a8⟩:=bkn a7 (wr.heap.size+1) hz;have hz:=a8;have a6:=a6.tr a7);(try go_wp2_with fail))|(go_at_call 62;go_must (refine(iF (aG (dx,dy,dn)) x y _ hDlt).mono ?_;rintro e wX ⟨rfl,a7⟩;rw[bD.out];obtain⟨bB,bC,a8⟩:=bkn a7 (wr.heap.size+1) hz;have hz:=a8;have a6:=a6.tr a7);(try go_wp2_with fail)))
        refine tK hK fun hHeld=>?_
        clear hK K;refine(tR [6])<|tL fun K hK=>?_
        go_simp
        (first|(go_at_call 105;go_must (refine(aR dx dy dn _).mono ?_;rintro e wX ⟨rfl,a7⟩;rw[bA.out];obtain⟨bB,bC,a8⟩:=bkn a7 (wr.heap.size+1) hz;have hz:=a8;have a6:=a6.tr a7);(try go_wp2_with fail))|(go_at_call 106;go_must (refine(cZ dx dy dn _ bA.out).mono ?_;rintro e wX ⟨rfl,a7⟩;obtain⟨bB,bC,a8⟩:=bkn a7 (wr.heap.size+1) hz;have hz:=a8;have a6:=a6.tr a7);(try go_wp2_with fail))|(go_at_call 62;go_must (refine(iF (aG (dx,dy,dn)) x y _ hDlt).mono ?_;rintro e wX ⟨rfl,a7⟩;rw[bD.out];obtain⟨bB,bC,a8⟩:=bkn a7 (wr.heap.size+1) hz;have hz:=a8;have a6:=a6.tr a7);(try go_wp2_with fail)))
        refine tK hK fun hHeld=>?_
        clear hK K;refine(tW 7)<|tD ?_;go_wp2;go_roundw
        case rel=>exact⟨k+1,by omega,by go_num,HG,hHeld.2.2.2.1,hHeld.2.2.2.2,by omega,a6⟩
        case measure=>simp[intOf];omega
      . have hg2 : (k : Int) = D := by rw [<- hg]; simp only [iG]; rw [if_pos hh]
        rw[hh]at bE;have HG:=TY hg2;have bD:=TY bE;clear hg hg2 hh bE;go_wp2_with fail
        refine rB (fun w'=>w'.cell? ⟨wr.heap.size,0,none⟩=some (.int .i64 dx)/\w'.cell? ⟨wr.heap.size,1,none⟩=some (.int .i64 dy)/\w'.cell? ⟨wr.heap.size,2,none⟩=some (.bool dn)/\w'.cell? ⟨w.heap.size,0,none⟩=some (.int .i64 x)/\w'.cell? ⟨w.heap.size,1,none⟩=some (.int .i64 y)) fun hHeld=>(tW 0)<|(tR [1])<|tL fun K hK=>?_
        go_simp
        (first|(go_at_call 105;go_must (refine(aR dx dy dn _).mono ?_;rintro e wX ⟨rfl,a7⟩;rw[bA.out];obtain⟨bB,bC,a8⟩:=bkn a7 (wr.heap.size+1) hz;have hz:=a8;have a6:=a6.tr a7);(try go_wp2_with fail))|(go_at_call 106;go_must (refine(cZ dx dy dn _ bA.out).mono ?_;rintro e wX ⟨rfl,a7⟩;obtain⟨bB,bC,a8⟩:=bkn a7 (wr.heap.size+1) hz;have hz:=a8;have a6:=a6.tr a7);(try go_wp2_with fail))|(go_at_call 62;go_must (refine(iF (aG (dx,dy,dn)) x y _ hDlt).mono ?_;rintro e wX ⟨rfl,a7⟩;rw[bD.out];obtain⟨bB,bC,a8⟩:=bkn a7 (wr.heap.size+1) hz;have hz:=a8;have a6:=a6.tr a7);(try go_wp2_with fail)))
        refine tK hK fun hHeld=>?_
        clear hK K;refine(tW 2)<|(tW 3)<|(tW 5)<|(tR [4])<|tL fun K hK=>?_
        go_simp
        (first|(go_at_call 105;go_must (refine(aR dx dy dn _).mono ?_;rintro e wX ⟨rfl,a7⟩;rw[bA.out];obtain⟨bB,bC,a8⟩:=bkn a7 (wr.heap.size+1) hz;have hz:=a8;have a6:=a6.tr a7);(try go_wp2_with fail))|(go_at_call 106;go_must (refine(cZ dx dy dn _ bA.out).mono ?_;rintro e wX ⟨rfl,a7⟩;obtain⟨bB,bC,a8⟩:=bkn a7 (wr.heap.size+1) hz;have hz:=a8;have a6:=a6.tr a7);(try go_wp2_with fail))|(go_at_call 62;go_must (refine(iF (aG (dx,dy,dn)) x y _ hDlt).mono ?_;rintro e wX ⟨rfl,a7⟩;rw[bD.out];obtain⟨bB,bC,a8⟩:=bkn a7 (wr.heap.size+1) hz;have hz:=a8;have a6:=a6.tr a7);(try go_wp2_with fail)))
        refine tK hK fun hHeld=>?_
        clear hK K;refine(tR [6])<|tL fun K hK=>?_
        go_simp
        (first|(go_at_call 105;go_must (refine(aR dx dy dn _).mono ?_;rintro e wX ⟨rfl,a7⟩;rw[bA.out];obtain⟨bB,bC,a8⟩:=bkn a7 (wr.heap.size+1) hz;have hz:=a8;have a6:=a6.tr a7);(try go_wp2_with fail))|(go_at_call 106;go_must (refine(cZ dx dy dn _ bA.out).mono ?_;rintro e wX ⟨rfl,a7⟩;obtain⟨bB,bC,a8⟩:=bkn a7 (wr.heap.size+1) hz;have hz:=a8;have a6:=a6.tr a7);(try go_wp2_with fail))|(go_at_call 62;go_must (refine(iF (aG (dx,dy,dn)) x y _ hDlt).mono ?_;rintro e wX ⟨rfl,a7⟩;rw[bD.out];obtain⟨bB,bC,a8⟩:=bkn a7 (wr.heap.size+1) hz;have hz:=a8;have a6:=a6.tr a7);(try go_wp2_with fail)))
        refine tK hK fun hHeld=>?_
        clear hK K;refine(tW 7)<|tD ?_;go_wp2;go_ret;exact⟨F8 HG.out,a6⟩
  . obtain rfl : k = l.length := by omega
    have hg:=Hg.out;rw[TZ (Ud _)]at hg;have HG:Hid ((-1:Int)=D):=TY hg;clear hg;go_wp2;go_ret;exact⟨F8 HG.out,bF⟩
theorem IP {r:Int} {x:Nat} (h0:0<=r) (h1:r<=255) (hx:x<8):(bits .and .i64 (r/2^x) 1==1)=r.toNat.testBit x:=by
 obtain⟨n,rfl⟩:=Int.eq_ofNat_of_zero_le h0;rw[Ap];have e:((n:Int)/2^x)%2=((n/2^x%2:Nat):Int):=(by simp);rw[e,Int.toNat_natCast,Nat.testBit_eq_decide_div_mod_eq];rw[Bool.eq_iff_iff,beq_iff_eq,decide_eq_true_iff];omega
theorem kY (v:Value) (rows:List Int) (x y:Nat) (w:World) (h:Rd 1 bG w v rows) (a8:Hid (dY rows)) (hx:x<8) (hy:y<8):Calls prog 121 #[.agg #[v],.agg #[.int .i64 x,.int .i64 y]] w (Ret (.bool ((setOf rows).testBit (8*y+x))) w):=by
 obtain⟨A,c,rfl,hc,hm⟩:=h.form;have hA:=((Below.refl w.heap.size w).al (.cells #[.slice A rows.length c] 26)).al (.cells #[.int .i64 x,.int .i64 y] 83);have a6:=xG a8.out (8*y+x);rw[show(8*y+x)/8=y by omega,show(8*y+x)%8=x by omega]at a6;obtain⟨B,hB⟩:=TV ((setOf rows).testBit (8*y+x));rw[<-hB]at a6⊢;clear hB;by_cases hlt:y<rows.length
 . obtain⟨b,off,rfl,hb,q1⟩:=h.sP hlt;rw[List.getD_eq_getElem?_getD,List.getElem?_eq_getElem hlt,Option.getD_some]at a6;obtain⟨k0,k1⟩:=a8.out.2 rows[y] (List.getElem_mem _);obtain⟨r,hr⟩:=TV (rows[y]);rw[<-hr]at q1 a6 k0 k1;have e1:=IP k0 k1 hx;rw[<-a6]at e1;have a7:(y:Int)<(rows.length:Int):=(by omega);have bB:b≠w.heap.size:=(by omega);have bC:b≠w.heap.size+1:=(by omega);clear a6 hr;go_enter func121,ntmps121
   go_wp2_with fail
   go_quiet (fail)
   go_wp2;go_ret;exact⟨rfl,below_drewN hA _⟩
 . have bA : B = false := by rw [a6, List.getD_eq_getElem?_getD, List.getElem?_eq_none (by omega)]; simp
   have bD:decide (y<rows.length)=false:=(by simpa using hlt);have a7:decide ((y:Int)<(rows.length:Int))=false:=(by simpa using hlt);have bE:=TY bA;clear bA a6 hlt;go_enter func121,ntmps121
   go_wp2_with fail
   go_quiet (fail)
   go_wp2;go_ret;exact⟨lF bE.out.symm,below_drewN hA _⟩
theorem Dv (x y:Int) (w:World) (hc:bM (x,y)=true):Calls prog 176 #[.agg #[.int .i64 x,.int .i64 y]] w (Ret (.int .i64 (dJ (x,y))) w):=by
 obtain⟨⟨x1,x2⟩,y1,y2⟩:=dB.1 hc;have e:=(dO hc).1;simp only at e x1 x2 y1 y2;have He:=TY e;have Hc:=TY hc;clear e hc;go_enter Tryz.func176,Tryz.ntmps176
 go_wp2_with fail
 refine(iK x y _).mono ?_;rintro e w1 ⟨rfl,hb1⟩;obtain⟨hc1,a7,hz1⟩:=bk hb1;(try simp at hz1)
 have a6:w.heap.size<w1.heap.size:=(by omega);rw[Hc.out];go_wp2;go_ret;exact⟨F8 (by rw[He.out]),((Below.refl _ _).al _).tr hb1⟩
def jZ (rows:List Int) (c:Cl):Bool:=bQ rows&&(bM c&&(setOf rows).testBit (dJ c).toNat)
theorem qD (v:Value) (rows:List Int) (x y:Int) (w:World) (h:Rd 1 bG w v rows) (hc:bM (x,y)=true):Calls prog 175 #[.agg #[v],.agg #[.int .i64 x,.int .i64 y]] w (Ret (.bool (jZ rows (x,y))) w):=by
 obtain⟨A,c,rfl,hc',hm⟩:=h.form;have hA:=((Below.refl w.heap.size w).al (.cells #[.slice A rows.length c] 26)).al (.cells #[.int .i64 x,.int .i64 y] 83);rcases hr:bQ rows with _|_
 . have e : jZ rows (x, y) = false := by unfold jZ; rw [hr]; rfl
   rw[e];go_enter func175,ntmps175
   go_wp2_with fail
   refine(dZ _ rows _ (h.TW hA)).mono ?_;rintro e w1 ⟨rfl,hb1⟩;obtain⟨hc1,bC,hz1⟩:=bk hb1;(try simp at hz1)
   have a6:w.heap.size<w1.heap.size:=(by omega);have a7:w.heap.size+1<w1.heap.size:=(by omega);rw[hr];go_wp2;go_ret;exact⟨rfl,hA.tr hb1⟩
 . have a8:=aN.1 hr;obtain⟨⟨x1,x2⟩,y1,y2⟩:=dB.1 hc;simp only at x1 x2 y1 y2;have e:jZ rows (x,y)=(setOf rows).testBit (dJ (x,y)).toNat:=by unfold jZ;rw[hr,hc];simp
   rw[(dO hc).1]at e;obtain⟨x,rfl⟩:=Int.eq_ofNat_of_zero_le x1;obtain⟨y,rfl⟩:=Int.eq_ofNat_of_zero_le y1;rw[show((y:Int)*8+(x:Int)).toNat=8*y+x by omega]at e;rw[e];have bD:=TY a8;have Hc:=TY hc;clear a8 e hc;go_enter func175,ntmps175
   go_wp2_with fail
   refine(dZ _ rows _ (h.TW hA)).mono ?_;rintro e w1 ⟨rfl,hb1⟩;obtain⟨hc1,bC,hz1⟩:=bk hb1;(try simp at hz1)
   have a6:w.heap.size<w1.heap.size:=(by omega);have a7:w.heap.size+1<w1.heap.size:=(by omega);rw[hr];go_wp2_with fail
   refine(iK x y _).mono ?_;rintro e w2 ⟨rfl,hb2⟩;obtain⟨hc2,hf2,hz2⟩:=bk hb2;(try simp at hz2)
   have bA:w.heap.size<w2.heap.size:=(by omega);have bB:w.heap.size+1<w2.heap.size:=(by omega);rw[Hc.out];have B2:=(hA.tr hb1).tr hb2;go_wp2_with fail
   refine(kY _ rows x y _ (h.TW B2) bD (by omega) (by omega)).mono ?_;rintro e w3 ⟨rfl,hb3⟩;go_wp2;go_ret;exact⟨rfl,B2.tr hb3⟩
theorem pG (x y:Int) (d:Bool) (x' y':Int) (d':Bool) (w:World) (hd:aI (x,y,d)=true) (a6:aI (x',y',d')=true):
 Calls prog 173 #[.agg #[.int .i64 x,.int .i64 y,.bool d],.agg #[.int .i64 x',.int .i64 y',.bool d']] w (Ret (.bool (decide (aT (x,y,d)<aT (x',y',d')))) w):=by
 have D1:=mW hd;have D2:=mW a6;simp only at D1 D2;obtain⟨⟨x1,x2⟩,y1,y2⟩:=D1;obtain⟨⟨u1,u2⟩,v1,v2⟩:=D2;have hA:=((Below.refl w.heap.size w).al (.cells #[.int .i64 x,.int .i64 y,.bool d] 99)).al (.cells #[.int .i64 x',.int .i64 y',.bool d'] 99);obtain⟨B,hB⟩:∃B,B=decide (aT (x,y,d)<aT (x',y',d')):=⟨_,rfl⟩;rw[<-hB];have HB:=TY hB;have Hd:=TY hd;have bC:=TY a6;clear hB hd a6;rcases d with _|_<;>rcases d' with _|_
 all_goals
   go_enter Tryz.func173,Tryz.ntmps173
   go_wp2_with fail
   refine(dC x y _ _).mono ?_;rintro e w1 ⟨rfl,hb1⟩;obtain⟨hc1,bD,hz1⟩:=bk hb1;(try simp at hz1)
   have a7:w.heap.size<w1.heap.size:=(by omega);have a8:w.heap.size+1<w1.heap.size:=(by omega);rw[Hd.out];go_wp2_with fail
   refine(dC x' y' _ _).mono ?_;rintro e w2 ⟨rfl,hb2⟩;obtain⟨hc2,hf2,hz2⟩:=bk hb2;(try simp at hz2)
   have bA:w.heap.size<w2.heap.size:=(by omega);have bB:w.heap.size+1<w2.heap.size:=(by omega);rw[bC.out];go_wp2
   all_goals
     go_ret;refine⟨lF ?_,(hA.tr hb1).tr hb2⟩;rw[HB.out,Bool.eq_iff_iff];simp[aT];try omega
theorem yS (v:Value) (l:List Dm) (x y:Int) (w:World) (h:Rd 3 aU w v l):Calls prog 120 #[v,.agg #[.int .i64 x,.int .i64 y]] w (Ret (.int .i64 (qC l (x,y))) w):=by
 obtain⟨A,c,rfl,hc,hm⟩:=h.form;have hA:=((Below.refl w.heap.size w).al (.cells #[.int .i64 x,.int .i64 y] 83));have hx:=Blk.aZ w 83 #[.int .i64 x,.int .i64 y];have hD:qC l (x,y)=iG (x,y) l 0:=rfl;obtain⟨D,bB⟩:=TV (qC l (x,y));rw[<-bB]at hD⊢;have HD:=TY hD;clear hD bB;go_enter Tryz.func120,Tryz.ntmps120
 go_wp2;go_loopw [5] (fun s9 wr=>∃k:Nat,k<=l.length/\s9= .int .i64 k/\Hid (iG (x,y) (l.drop k) k=D)/\wr.cell? ⟨w.heap.size,0,none⟩=some (.int .i64 x)/\wr.cell? ⟨w.heap.size,1,none⟩=some (.int .i64 y)/\w.heap.size<wr.heap.size/\Below w.heap.size w wr) (fun i _=>l.length-(intOf i).toNat)
 case atStart=>exact⟨0,Ua _,rfl,TY HD.out.symm,hx.cell 0,hx.cell 1,hx.lt,hA⟩
 case round=>
  obtain⟨k,hk,rfl,Hg,z1,z2,bJ,a6⟩:=hrel;clear hx hA;by_cases hlt:k<l.length
  . obtain⟨b,off,rfl,hb,q1,q2,q3⟩:=(h.TW a6).jT hlt;have hg:=Hg.out;rw[List.drop_eq_getElem_cons hlt]at hg;obtain⟨d,hd⟩:=TV (l[k]);rw[<-hd]at q1 q2 q3 hg;obtain⟨dx,dy,dn⟩:=d;simp only at q1 q2 q3;rcases a8:aI (dx,dy,dn)with _|_
    . have hg2 : iG (x, y) (l.drop (k + 1)) (k + 1) = D := by rw [<- hg]; simp only [iG]; rw [if_neg (by rw [Bt a8]; simp)]
      have HG:=TY hg2;have a7:=TY a8;have bF:=TY hd;clear hg hg2 a8 hd;go_wp2_with fail
      refine(dC dx dy dn _).mono ?_;rintro e w1 ⟨rfl,hb1⟩;obtain⟨hc1,bC,hz1⟩:=bk hb1;(try simp at hz1)
      have bA:w.heap.size<w1.heap.size:=(by omega);rw[a7.out];go_wp2;go_roundw
      case rel=>exact⟨k+1,by omega,by go_num,HG,by rw[hc1 _ _ (by omega)];exact z1,by rw[hc1 _ _ (by omega)];exact z2,by omega,a6.tr hb1⟩
      case measure=>simp[intOf];omega
    . obtain⟨sx,sy,hs⟩:∃sx sy,sec (dx,dy,dn)=(sx,sy):=⟨_,_,rfl⟩;have hh:mF (dx,dy,dn) (x,y)=(decide ((dx,dy)=(x,y))||decide ((sx,sy)=(x,y))):=by unfold mF;rw[a8,hs];rfl
      have a7:=TY a8;have bF:=TY hd;have Hs:=TY hs;have Hh:=TY hh;have HG:=TY hg;clear a8 hd hs hh hg;go_wp2_with fail
      refine(dC dx dy dn _).mono ?_;rintro e w1 ⟨rfl,hb1⟩;obtain⟨hc1,bC,hz1⟩:=bk hb1;(try simp at hz1)
      have bA:w.heap.size<w1.heap.size:=(by omega);have bD:b<w1.heap.size:=(by omega);rw[a7.out];go_wp2_with fail
      refine(jP dx dy dn _ a7.out).mono ?_;rintro e w2 ⟨rfl,hb2⟩;obtain⟨hc2,hf2,hz2⟩:=bk hb2;(try simp at hz2)
      have bE:w.heap.size<w2.heap.size:=(by omega);rw[Hs.out];go_wp2
      all_goals
        have B2:=(a6.tr hb1).tr hb2;have bK:w2.cell? ⟨w.heap.size,0,none⟩=some (.int .i64 x):=by rw[hc2 _ _ (by omega),hc1 _ _ (by omega)];exact z1
        have bL:w2.cell? ⟨w.heap.size,1,none⟩=some (.int .i64 y):=by rw[hc2 _ _ (by omega),hc1 _ _ (by omega)];exact z2
        have hgo:iG (x,y) ((dx,dy,dn)::List.drop (k+1) l) k=if mF (dx,dy,dn) (x,y)=true then(k:Int)else iG (x,y) (l.drop (k+1)) (k+1):=rfl
        rw[HG.out]at hgo;have bN:w.heap.size≠w2.heap.size:=(by omega);have bO:w.heap.size≠w2.heap.size+1:=(by omega);clear hc1 bC hc2 hf2 z1 z2 q1 q2 q3 HD Hg
        first
          | (go_ret
             rw[if_pos (by rw[Hh.out];simp[*])]at hgo;exact⟨F8 hgo.symm,(B2.al _).al _⟩)
          | (rw [if_neg (by rw [Hh.out]; simp [*])] at hgo
             go_roundw
             case rel=>exact⟨k+1,by omega,by go_num,TY hgo.symm,by go_simp,by go_simp,by simp;omega,(B2.al _).al _⟩
             case measure=>simp[intOf];omega)
  . obtain rfl : k = l.length := by omega
    have hg:=Hg.out;rw[TZ (Ud _)]at hg;have HG:Hid ((-1:Int)=D):=TY hg;clear hg;go_wp2;go_ret;exact⟨F8 HG.out,a6⟩
theorem pR:∀x:Bool,(KY x).length=1:=fun _=>rfl
theorem MM:Row prog 175 4 (.bool false) 1 1:=⟨Tryz.underlying175,by kernel_rfl,rfl,by decide⟩
theorem gH (x y:Int) (I:Nat) (w:World) (hc:bM (x,y)=true) (hI:I=(dJ (x,y)).toNat):Calls prog 176 #[.agg #[.int .i64 x,.int .i64 y]] w (Ret (.int .i64 I) w):=by
 have:=Dv x y w hc;have k:=(dO hc).2.1;rw[show dJ (x,y)=(I:Int) by omega]at this;exact this
theorem iL (v:Value) (rows:List Int) (x y:Int) (s I:Nat) (w:World) (h:Rd 1 bG w v rows) (hc:bM (x,y)=true) (a6:Hid (dY rows)) (Hs:Hid (s=setOf rows)) (hI:I=(dJ (x,y)).toNat):Calls prog 175 #[.agg #[v],.agg #[.int .i64 x,.int .i64 y]] w (Ret (.bool (s.testBit I)) w):=by
 have:=qD v rows x y w h hc;have e:jZ rows (x,y)=s.testBit I:=by unfold jZ;rw[aN.2 a6.out,hc,hI,Hs.out];simp
 rw[e]at this;exact this
theorem Cc (v:Value) (rows:List Int) (x y:Int) (w:World) (h:Rd 1 bG w v rows) (hc:bM (x,y)=true) (hr:bQ rows=false):Calls prog 175 #[.agg #[v],.agg #[.int .i64 x,.int .i64 y]] w (Ret (.bool false) w):=by
 have:=qD v rows x y w h hc;have e:jZ rows (x,y)=false:=by unfold jZ;rw[hr];rfl
 rw[e]at this;exact this
theorem xX {left:Nat} {d:Dm} (hl:left<U64) (h:aI d=true):decide (left&&&aG d=aG d)=(left.testBit (eY d)&&left.testBit (jG d)):=by
 rw[Bool.eq_iff_iff,decide_eq_true_iff,Uh];constructor
 . intro e;exact⟨qW e _ (by rw[aV h];simp),qW e _ (by rw[aV h];simp)⟩
 . rintro⟨h1,h2⟩;apply Nat.eq_of_testBit_eq;intro i;rw[Nat.testBit_and,aV h];by_cases e1:eY d=i
   . rw[<-e1,h1];simp
   . by_cases e2:jG d=i
     . rw[<-e2,h2];simp
     . simp[e1,e2]
def sH (s left:Nat) (u:List Bool):Prop:=u.length=64/\(∀i,left.testBit i=true->s.testBit i=true)/\∀i,∀h:i<u.length,u[i]=(s.testBit i&& !left.testBit i)
theorem sH.start (s:Nat):sH s s (List.replicate 64 false):=⟨by simp,fun i h=>h,fun i h=>by rw[List.getElem_replicate];simp⟩
theorem sH.step {s left:Nat} {u:List Bool} {d:Dm} (h:sH s left u) (hl:left<U64) (hd:aI d=true) (h1:left.testBit (eY d)=true) (h2:left.testBit (jG d)=true):sH s (dE left (aG d)) ((u.set (eY d) true).set (jG d) true):=by
 refine⟨by simp[h.1],fun i hi=>h.2.1 i ?_,fun i hi=> ?_⟩
 . rw[jL hl (dP hd),Uh]at hi;exact hi.1
 . rw[jL hl (dP hd),aV hd,List.getElem_set,List.getElem_set];by_cases e2:jG d=i
   . rw[if_pos e2];subst e2;rw[h.2.1 _ h2];simp
   . rw[if_neg e2];by_cases e1:eY d=i
     . rw[if_pos e1];subst e1;rw[h.2.1 _ h1];simp
     . rw[if_neg e1,h.2.2 i (by simpa using hi)];simp[e1,e2]
theorem sH.bit {s left : Nat} {u : List Bool} (h : sH s left u) {i : Nat} (hi : i < 64) (hs : s.testBit i = true) : u[i]'(by rw [h.1]; exact hi) = !left.testBit i := by
 rw[h.2.2 i (by rw[h.1];exact hi),hs];rfl
theorem sH.out {s left:Nat} {u:List Bool} (h:sH s left u) {i:Nat} (hs:s.testBit i=false):left.testBit i=false:=by
 rcases e:left.testBit i with _|_
 . rfl
 . rw[h.2.1 i e]at hs;exact hs
theorem NM (v u:Value) (rows:List Int) (l:List Dm) (w:World) (h:Rd 1 bG w v rows) (h2:Rd 3 aU w u l) (cF:Hid (dY rows)):Calls prog 119 #[.agg #[v],u] w (Ret (.bool (isPartial rows l)) w):=by
 obtain⟨A,c,rfl,hc,hm⟩:=h.form;obtain⟨A2,c2,rfl,hc2,l9⟩:=h2.form;have hA:=((Below.refl w.heap.size w).al (.cells #[.slice A rows.length c] 26));have hx:=Blk.aZ w 26 #[.slice A rows.length c];have h9:Hid ((64:Int)=((64:Nat):Int)):=TY rfl;have e:isPartial rows l=kK (setOf rows) none l:=by unfold isPartial;rw[aN.2 cF.out];rfl
 obtain⟨R,hR⟩:=TV (isPartial rows l);rw[<-hR]at e⊢;have HR:=TY e;clear e hR;have hs:=dW cF.out;obtain⟨s,fS⟩:=TV (setOf rows);rw[<-fS]at hs;have HR:Hid (kK s none l=R):=TY (by rw[HR.out,fS]);have fW:=TY fS;clear fS;go_enter func119,ntmps119
 go_wp2_with (at_make;go_must (refine mM (enc:=KY) (z0:=false) MM rfl hA 64 (by decide) (by decide) _ h9.out rfl _ _ rfl rfl rfl ?_);intro w1 hown1 hb1 hg1)
 have hx1:=hx.grown hg1 (by simp);go_loopw [6] (fun s6 wr=>∃(k left:Nat) (q:List Bool),k<=l.length/\s6= .int .i64 k/\left<U64/\Hid (kK left (Aj l k) (l.drop k)=R)/\Hid (∀e,Aj l k=some e->aI e=true)/\Hid (sH s left q)/\aD 4 1 KY w.heap.size wr (.slice (some ⟨w.heap.size+1,0,none⟩) 64 64) q/\Blk wr w.heap.size 26 #[.slice A rows.length c]/\Below w.heap.size w wr) (fun i _=>l.length-(intOf i).toNat)
 case atStart=>exact⟨0,s,_,Ua _,rfl,hs,TY HR.out,TY (fun e he=>by cases he),TY (sH.start s),by simpa using hown1,hx1,hb1⟩
 case round=>
  obtain⟨k,left,q,hk,rfl,bA,Hg,Hp,Hu,hown,bR,bJ⟩:=hrel;have z1:=bR.c1;clear hx hx1 hb1 hg1 hown1;have mA:w.heap.size+1<wr.heap.size:=hown.at_.2.2;by_cases hlt:k<l.length
  . obtain⟨b,off,rfl,hb,q1,q2,q3⟩:=(h2.TW bJ).jT hlt;have hg:=Hg.out;rw[List.drop_eq_getElem_cons hlt,rV]at hg;obtain⟨d,hd⟩:=TV (l[k]);rw[<-hd]at q1 q2 q3 hg;obtain⟨x,y,dn⟩:=d;simp only at q1 q2 q3;have fX:(k:Int)<(l.length:Int):=(by omega);have j0:(0:Int)<=(k:Int):=(by omega);have Bw:Below wr.heap.size wr wr.drew:=(Below.refl _ _).drew;have hz:wr.heap.size<=wr.drew.heap.size:=(by simp);rcases cA:aI (x,y,dn)with _|_
    . rw[cA]at hg;simp only[Bool.false_and]at hg;have HG:=TY hg;have cG:=TY hd;have a6:=TY cA;clear hg hd cA;go_wp2_with fail
      refine rB (fun w'=>w'.cell? ⟨b,off+k*3,none⟩=some (.int .i64 x)/\w'.cell? ⟨b,off+k*3+1,none⟩=some (.int .i64 y)/\w'.cell? ⟨b,off+k*3+2,none⟩=some (.bool dn)) fun hHeld=>(tW 0)<|(tW 1)<|(tW 2)<|(tW 3)<|(tR [4])<|tL fun K hK=>?_
      go_simp
      (first|(go_at_call 172;go_must (refine(dC x y dn _).mono ?_;rintro e wX ⟨rfl,a7⟩;rw[a6.out];obtain⟨b5,b6,bB⟩:=bkn a7 wr.heap.size hz;have hz:=bB;have Bw:=Bw.tr a7);(try go_wp2_with fail)))
      refine tK hK fun hHeld=>?_
      clear hK K;refine(tW 5)<|(tW 6)<|(tU 7)<|(tU 8)<|(tU 9)<|(tU 10)<|(tU 11)<|(tU 12)<|(tU 13)<|(tU 14)<|(tU 15)<|(tU 16)<|(tU 17)<|(tU 18)<|(tU 19)<|(tU 20)<|(tU 21)<|(tW 22)<|tD ?_;go_wp2;go_ret;exact⟨lF HG.out,bJ.tr Bw⟩
    . rw[cA]at hg;simp only[Bool.true_and]at hg;rcases Nat.eq_zero_or_pos k with rfl|mB
      . rw[Cb]at hg;simp only[rG,Bool.and_true]at hg;have a6:=TY cA;have cG:=TY hd;have fY:=TY hg;clear cA hd hg;simp only[Ub,Uc]at q1 q2 q3;go_wp2_with fail
        refine rB (fun w'=>w'.cell? ⟨b,off,none⟩=some (.int .i64 x)/\w'.cell? ⟨b,off+1,none⟩=some (.int .i64 y)/\w'.cell? ⟨b,off+2,none⟩=some (.bool dn)) fun hHeld=>(tW 0)<|(tW 1)<|(tW 2)<|(tW 3)<|(tR [4])<|tL fun K hK=>?_
        go_simp
        (first|(go_at_call 172;go_must (refine(dC x y dn _).mono ?_;rintro e wX ⟨rfl,a7⟩;rw[a6.out];obtain⟨b5,b6,bB⟩:=bkn a7 wr.heap.size hz;have hz:=bB;have Bw:=Bw.tr a7);(try go_wp2_with fail)))
        refine tK hK fun hHeld=>?_
        clear hK K;refine(tW 5)<|(tW 6)<|(tW 7)<|(tW 8)<|(tW 9)<|(tU 10)<|(tU 11)<|(tU 12)<|(tU 13)<|(tU 14)<|(tU 15)<|(tU 16)<|(tU 17)<|(tU 18)<|(tU 19)<|(tU 20)<|(tW 21)<|(tW 22)<|tD ?_;have bL:=hown.below Bw;have BA:=bJ.tr Bw;have zA:wX.cell? ⟨w.heap.size,0,none⟩=some (.slice A rows.length c):=(Bw.cell (p:=⟨w.heap.size,0,none⟩) (by show w.heap.size<wr.heap.size;omega)).trans z1;have j1:w.heap.size+1<wX.heap.size:=by have:=Bw.size;omega
        have j2:b<wX.heap.size:=by have:=Bw.size;omega
        have gA:w.heap.size<wX.heap.size:=(by omega);have eL:w.heap.size≠w.heap.size+1:=(by omega);have r1:=hHeld.1;have r2:=hHeld.2.1;have r3:=(by first|exact hHeld.2.2|exact hHeld.2.2.1:wX.cell? _=some (.bool dn));clear b5 b6 q1 q2 q3 z1;obtain⟨sx,sy,bC⟩:∃sx sy,sec (x,y,dn)=(sx,sy):=⟨_,_,rfl⟩;obtain⟨cH,cI⟩:=dR a6.out;have b7:=xX bA a6.out;obtain⟨bN,bO⟩:=AX a6.out;have cJ:eY (x,y,dn)=(dJ (x,y)).toNat:=rfl;have cK:jG (x,y,dn)=(dJ (sx,sy)).toNat:=by unfold jG;rw[bC]
        rw[bC]at cI;simp only at cH;have hstep:=fun h1 h2=>Hu.out.step bA a6.out h1 h2
        have hg2:=fY.out;rw[b7]at hg2;obtain⟨D,hD⟩:=TV (aG (x,y,dn));obtain⟨I,hI⟩:=TV (eY (x,y,dn));obtain⟨J,hJ⟩:=TV (jG (x,y,dn));rw[<-hI]at bN cJ hg2 hstep;rw[<-hJ]at bO cK hg2 hstep;rw[<-hD]at hg2 hstep;have eM:I<q.length:=by rw[Hu.out.1];exact bN
        have cL:J<q.length:=by rw[Hu.out.1];exact bO
        have zI:wX.cell? ⟨w.heap.size+1,I,none⟩=some (.bool q[I]):=by
         have:=bL.slot pR Ue eM 0 (.bool q[I]) rfl;rwa [Uf,Uc]at this
        have zJ:wX.cell? ⟨w.heap.size+1,J,none⟩=some (.bool q[J]):=by
         have:=bL.slot pR Ue cL 0 (.bool q[J]) rfl;rwa [Uf,Uc]at this
        have cM:=fun hh=>Hu.out.bit bN (i:=I) hh
        have cN:=fun hh=>Hu.out.bit bO (i:=J) hh
        have eN:=fun hh=>Hu.out.out (i:=I) hh
        have eP:=fun hh=>Hu.out.out (i:=J) hh
        obtain⟨qI,bU⟩:=TV (q[I]);obtain⟨qJ,bW⟩:=TV (q[J]);rw[<-bU]at zI cM;rw[<-bW]at zJ cN;have gB:=TY cM;have gC:=TY cN;have gD:=TY eN;have gF:=TY eP;have b8:=TY hg2;have HST:=TY hstep;have cP:=TY cH;have cQ:=TY cI;have cR:=TY cJ;have cS:=TY cK;have cT:=TY bC;have HI:=TY hI;have HJ:=TY hJ;have HD:=TY hD;have j3:=TY bU;have j4:=TY bW;clear cM cN eN eP hg2 hstep cH cI cJ cK bC b7 hI hJ hD bU bW;have j5:(0:Int)<=(I:Int):=(by omega);have j6:(0:Int)<=(J:Int):=(by omega);have j7:(I:Int)<64:=(by omega);have j8:(J:Int)<64:=(by omega);go_wp2_with fail
        refine(jP x y dn _ a6.out).mono ?_;rintro e w7 ⟨rfl,cB⟩;obtain⟨gK,gL,gM⟩:=bk cB;(try simp at gM)
        have eR:w.heap.size<w7.heap.size:=(by omega);have eW:w.heap.size+1<w7.heap.size:=(by omega);have e5:b<w7.heap.size:=(by omega);rw[cT.out];have B7:=BA.tr cB;have gN:w7.heap.size+1+1<=((w7.alloc (.cells #[.int .i64 x,.int .i64 y] 83)).alloc (.cells #[.int .i64 sx,.int .i64 sy] 83)).heap.size:=(by simp);have j9:w.heap.size<w7.heap.size+1+1:=(by omega);have kA:w.heap.size+1<w7.heap.size+1+1:=(by omega);have kB:w7.heap.size<w7.heap.size+1+1:=(by omega);have kO:w7.heap.size+1<w7.heap.size+1+1:=(by omega);have k0:w.heap.size≠w7.heap.size:=(by omega);have k5:w.heap.size≠w7.heap.size+1:=(by omega);have k6:w.heap.size+1≠w7.heap.size:=(by omega);have k7:w7.heap.size≠w.heap.size+1:=(by omega);have k8:w7.heap.size≠w.heap.size:=(by omega);have k9:w.heap.size+1≠w7.heap.size+1:=(by omega);have lA:w7.heap.size+1≠w.heap.size+1:=(by omega);have e6:=(B7.al (.cells #[.int .i64 x,.int .i64 y] 83)).al (.cells #[.int .i64 sx,.int .i64 sy] 83);have cU:=((bL.below cB).alloc (.cells #[.int .i64 x,.int .i64 y] 83)).alloc (.cells #[.int .i64 sx,.int .i64 sy] 83);go_wp2_with fail
        refine(iL _ rows x y s I _ (h.TW e6) cP.out cF fW cR.out).mono ?_;rintro e w8 ⟨rfl,cC⟩;obtain⟨gO,gP,gQ⟩:=bkn cC _ gN;have B8:=e6.tr cC;rcases e1:s.testBit I with _|_
        . go_wp2;go_ret;exact⟨lF (by have:=b8.out;rw[gD.out e1]at this;simpa using this),B8⟩
        . go_wp2_with fail
          refine(iL _ rows sx sy s J _ (h.TW B8) cQ.out cF fW cS.out).mono ?_;rintro e w9 ⟨rfl,cD⟩;obtain⟨gR,gS,gT⟩:=bkn cD _ gQ;have B9:=B8.tr cD;rcases e2:s.testBit J with _|_
          . go_wp2;go_ret;exact⟨lF (by have:=b8.out;rw[gF.out e2]at this;simpa using this),B9⟩
          . have e7:=TY (gB.out e1);have e8:=TY (gC.out e2);go_wp2_with fail
            refine(gH x y I _ cP.out cR.out).mono ?_;rintro e lB ⟨rfl,bD⟩;obtain⟨cV,cW,cX⟩:=bkn bD _ gT;have e9:=B9.tr bD;rcases qI with _|_
            . go_wp2_with fail
              refine(gH sx sy J _ cQ.out cS.out).mono ?_;rintro e lO ⟨rfl,bE⟩;obtain⟨cY,dL,dT⟩:=bkn bE _ cX;have fD:=e9.tr bE;rcases qJ with _|_
              . go_wp2_with fail
                refine(gH x y I _ cP.out cR.out).mono ?_;rintro e lR ⟨rfl,bF⟩;obtain⟨eA,eC,gW⟩:=bkn bF _ dT;have bK:=((((cU.below cC).below cD).below bD).below bE).below bF;have eE:=((((((((bR.bl Bw).bl cB).alloc (.cells #[.int .i64 x,.int .i64 y] 83)).alloc (.cells #[.int .i64 sx,.int .i64 sy] 83)).bl cC).bl cD).bl bD).bl bE).bl bF;have gX:=fD.tr bF;have b9:=bK.free;have bX:=bK.iZ pR eM (y:=true) rfl;have fL:Hid (left.testBit I=true):=TY (by have k:=e7.out;simpa using k);have fN:Hid (left.testBit J=true):=TY (by have k:=e8.out;simpa using k);clear gL gP gS cW dL eC;go_wp2_with fail
                refine(gH sx sy J _ cQ.out cS.out).mono ?_;rintro e l4 ⟨rfl,bY⟩;have a8:=bX.below bY;have eI:=(eE.far eL _).bl bY;have gY:=(gX.st ⟨w.heap.size+1,I,none⟩ (.bool true) (Ug _)).tr bY;obtain⟨l5,l6⟩:=a8.DI pR (k:=J) (by rw[T9];exact cL);have fO:=a8.free;clear gK gO gR cV cY eA zI zJ zA b9;go_wp2;go_roundw
                case rel=>exact⟨0+1,dE left D,(q.set I true).set J true,by omega,by go_num,eD bA,by rw[fT l _ hlt,<-cG.out];exact TY (by have:=b8.out;rw[fL.out,fN.out]at this;simpa using this),TY (fun e he=>by rw[fT l _ hlt,<-cG.out]at he;injection he with he;rw[<-he];exact a6.out),TY (HST.out fL.out fN.out),a8.iZ pR (by rw[T9];exact cL) rfl,eI.far eL _,gY.st _ _ (Ug _)⟩
                case measure=>simp[intOf];omega
              . go_wp2;go_ret;exact⟨lF (by have:=b8.out;have k:=e8.out;rw[show left.testBit J=false by simpa using k]at this;simpa using this),fD⟩
            . go_wp2;go_ret;exact⟨lF (by have:=b8.out;have k:=e7.out;rw[show left.testBit I=false by simpa using k]at this;simpa using this),e9⟩
      . obtain ⟨j, rfl⟩ : ∃ j, k = j + 1 := ⟨k - 1, by omega⟩;have hj:j<l.length:=(by omega);rw[fT l j hj]at hg;have eJ:=Hp.out l[j] (fT l j hj);obtain⟨b',l7,e',hb',p1,p2,p3⟩:=(h2.TW bJ).jT hj;injection e' with e';injection e' with e1 e2 e3;subst e1;subst e2;simp only[rG]at hg;obtain⟨dp,hE⟩:=TV (l[j]);rw[<-hE]at p1 p2 p3 hg eJ;obtain⟨px,py,pd⟩:=dp;simp only at p1 p2 p3;have cE:=TY eJ;have mC:=TY hE;clear eJ hE e3;have mL:IntKind.i64.wrap (j:Int)=(j:Int):=IntWalk.i64_in _ (by omega);have mN:(0:Int)<=(j:Int):=(by omega);have mS:(j:Int)<(l.length:Int):=(by omega);have l8:(0:Int)<=(j:Int)+1:=(by omega);have hP:(j:Int)+1<(l.length:Int):=(by omega);clear j0 fX;rcases eK:decide (aT (px,py,pd)<aT (x,y,dn))with _|_
        . rw[eK]at hg;simp only[Bool.and_false,Bool.false_and]at hg;have a6:=TY cA;have cG:=TY hd;have HG:=TY hg;have fR:=TY eK;clear cA hd hg eK;go_wp2_with fail
          refine rB (fun w'=>w'.cell? ⟨b,off+(j+1)*3,none⟩=some (.int .i64 x)/\w'.cell? ⟨b,off+(j+1)*3+1,none⟩=some (.int .i64 y)/\w'.cell? ⟨b,off+(j+1)*3+2,none⟩=some (.bool dn)/\w'.cell? ⟨b,off+j*3,none⟩=some (.int .i64 px)/\w'.cell? ⟨b,off+j*3+1,none⟩=some (.int .i64 py)/\w'.cell? ⟨b,off+j*3+2,none⟩=some (.bool pd)) fun hHeld=>(tW 0)<|(tW 1)<|(tW 2)<|(tW 3)<|(tR [4])<|tL fun K hK=>?_
          go_simp
          (first|(go_at_call 172;go_must (refine(dC x y dn _).mono ?_;rintro e wX ⟨rfl,a7⟩;rw[a6.out];obtain⟨b5,b6,bB⟩:=bkn a7 wr.heap.size hz;have hz:=bB;have Bw:=Bw.tr a7);(try go_wp2_with fail))|(go_at_call 173;go_must (refine(pG px py pd x y dn _ cE.out a6.out).mono ?_;rintro e wX ⟨rfl,a7⟩;rw[fR.out];obtain⟨b5,b6,bB⟩:=bkn a7 wr.heap.size hz;have hz:=bB;have Bw:=Bw.tr a7);(try go_wp2_with fail)))
          refine tK hK fun hHeld=>?_
          clear hK K;refine(tW 5)<|(tW 6)<|(tW 7)<|(tW 8)<|(tW 9)<|(tW 10)<|(tW 11)<|(tW 12)<|(tW 13)<|(tW 14)<|(tW 15)<|(tW 16)<|(tW 17)<|(tW 18)<|(tR [19])<|tL fun K hK=>?_
          go_simp
          (first|(go_at_call 172;go_must (refine(dC x y dn _).mono ?_;rintro e wX ⟨rfl,a7⟩;rw[a6.out];obtain⟨b5,b6,bB⟩:=bkn a7 wr.heap.size hz;have hz:=bB;have Bw:=Bw.tr a7);(try go_wp2_with fail))|(go_at_call 173;go_must (refine(pG px py pd x y dn _ cE.out a6.out).mono ?_;rintro e wX ⟨rfl,a7⟩;rw[fR.out];obtain⟨b5,b6,bB⟩:=bkn a7 wr.heap.size hz;have hz:=bB;have Bw:=Bw.tr a7);(try go_wp2_with fail)))
          refine tK hK fun hHeld=>?_
          clear hK K;refine(tW 20)<|(tW 21)<|(tW 22)<|tD ?_;go_wp2;go_ret;exact⟨lF HG.out,bJ.tr Bw⟩
        . rw[eK]at hg;simp only[Bool.and_true]at hg;have a6:=TY cA;have cG:=TY hd;have fY:=TY hg;have fR:=TY eK;clear cA hd hg eK;go_wp2_with fail
          refine rB (fun w'=>w'.cell? ⟨b,off+(j+1)*3,none⟩=some (.int .i64 x)/\w'.cell? ⟨b,off+(j+1)*3+1,none⟩=some (.int .i64 y)/\w'.cell? ⟨b,off+(j+1)*3+2,none⟩=some (.bool dn)/\w'.cell? ⟨b,off+j*3,none⟩=some (.int .i64 px)/\w'.cell? ⟨b,off+j*3+1,none⟩=some (.int .i64 py)/\w'.cell? ⟨b,off+j*3+2,none⟩=some (.bool pd)) fun hHeld=>(tW 0)<|(tW 1)<|(tW 2)<|(tW 3)<|(tR [4])<|tL fun K hK=>?_
          go_simp
          (first|(go_at_call 172;go_must (refine(dC x y dn _).mono ?_;rintro e wX ⟨rfl,a7⟩;rw[a6.out];obtain⟨b5,b6,bB⟩:=bkn a7 wr.heap.size hz;have hz:=bB;have Bw:=Bw.tr a7);(try go_wp2_with fail))|(go_at_call 173;go_must (refine(pG px py pd x y dn _ cE.out a6.out).mono ?_;rintro e wX ⟨rfl,a7⟩;rw[fR.out];obtain⟨b5,b6,bB⟩:=bkn a7 wr.heap.size hz;have hz:=bB;have Bw:=Bw.tr a7);(try go_wp2_with fail)))
          refine tK hK fun hHeld=>?_
          clear hK K;refine(tW 5)<|(tW 6)<|(tW 7)<|(tW 8)<|(tW 9)<|(tW 10)<|(tW 11)<|(tW 12)<|(tW 13)<|(tW 14)<|(tW 15)<|(tW 16)<|(tW 17)<|(tW 18)<|(tR [19])<|tL fun K hK=>?_
          go_simp
          (first|(go_at_call 172;go_must (refine(dC x y dn _).mono ?_;rintro e wX ⟨rfl,a7⟩;rw[a6.out];obtain⟨b5,b6,bB⟩:=bkn a7 wr.heap.size hz;have hz:=bB;have Bw:=Bw.tr a7);(try go_wp2_with fail))|(go_at_call 173;go_must (refine(pG px py pd x y dn _ cE.out a6.out).mono ?_;rintro e wX ⟨rfl,a7⟩;rw[fR.out];obtain⟨b5,b6,bB⟩:=bkn a7 wr.heap.size hz;have hz:=bB;have Bw:=Bw.tr a7);(try go_wp2_with fail)))
          refine tK hK fun hHeld=>?_
          clear hK K;refine(tW 20)<|(tW 21)<|(tW 22)<|tD ?_;have bL:=hown.below Bw;have BA:=bJ.tr Bw;have zA:wX.cell? ⟨w.heap.size,0,none⟩=some (.slice A rows.length c):=(Bw.cell (p:=⟨w.heap.size,0,none⟩) (by show w.heap.size<wr.heap.size;omega)).trans z1;have j1:w.heap.size+1<wX.heap.size:=by have:=Bw.size;omega
          have j2:b<wX.heap.size:=by have:=Bw.size;omega
          have gA:w.heap.size<wX.heap.size:=(by omega);have eL:w.heap.size≠w.heap.size+1:=(by omega);have r1:=hHeld.1;have r2:=hHeld.2.1;have r3:=(by first|exact hHeld.2.2|exact hHeld.2.2.1:wX.cell? _=some (.bool dn));clear b5 b6 q1 q2 q3 z1;obtain⟨sx,sy,bC⟩:∃sx sy,sec (x,y,dn)=(sx,sy):=⟨_,_,rfl⟩;obtain⟨cH,cI⟩:=dR a6.out;have b7:=xX bA a6.out;obtain⟨bN,bO⟩:=AX a6.out;have cJ:eY (x,y,dn)=(dJ (x,y)).toNat:=rfl;have cK:jG (x,y,dn)=(dJ (sx,sy)).toNat:=by unfold jG;rw[bC]
          rw[bC]at cI;simp only at cH;have hstep:=fun h1 h2=>Hu.out.step bA a6.out h1 h2
          have hg2:=fY.out;rw[b7]at hg2;obtain⟨D,hD⟩:=TV (aG (x,y,dn));obtain⟨I,hI⟩:=TV (eY (x,y,dn));obtain⟨J,hJ⟩:=TV (jG (x,y,dn));rw[<-hI]at bN cJ hg2 hstep;rw[<-hJ]at bO cK hg2 hstep;rw[<-hD]at hg2 hstep;have eM:I<q.length:=by rw[Hu.out.1];exact bN
          have cL:J<q.length:=by rw[Hu.out.1];exact bO
          have zI:wX.cell? ⟨w.heap.size+1,I,none⟩=some (.bool q[I]):=by
           have:=bL.slot pR Ue eM 0 (.bool q[I]) rfl;rwa [Uf,Uc]at this
          have zJ:wX.cell? ⟨w.heap.size+1,J,none⟩=some (.bool q[J]):=by
           have:=bL.slot pR Ue cL 0 (.bool q[J]) rfl;rwa [Uf,Uc]at this
          have cM:=fun hh=>Hu.out.bit bN (i:=I) hh
          have cN:=fun hh=>Hu.out.bit bO (i:=J) hh
          have eN:=fun hh=>Hu.out.out (i:=I) hh
          have eP:=fun hh=>Hu.out.out (i:=J) hh
          obtain⟨qI,bU⟩:=TV (q[I]);obtain⟨qJ,bW⟩:=TV (q[J]);rw[<-bU]at zI cM;rw[<-bW]at zJ cN;have gB:=TY cM;have gC:=TY cN;have gD:=TY eN;have gF:=TY eP;have b8:=TY hg2;have HST:=TY hstep;have cP:=TY cH;have cQ:=TY cI;have cR:=TY cJ;have cS:=TY cK;have cT:=TY bC;have HI:=TY hI;have HJ:=TY hJ;have HD:=TY hD;have j3:=TY bU;have j4:=TY bW;clear cM cN eN eP hg2 hstep cH cI cJ cK bC b7 hI hJ hD bU bW;have j5:(0:Int)<=(I:Int):=(by omega);have j6:(0:Int)<=(J:Int):=(by omega);have j7:(I:Int)<64:=(by omega);have j8:(J:Int)<64:=(by omega);go_wp2_with fail
          refine(jP x y dn _ a6.out).mono ?_;rintro e w7 ⟨rfl,cB⟩;obtain⟨gK,gL,gM⟩:=bk cB;(try simp at gM)
          have eR:w.heap.size<w7.heap.size:=(by omega);have eW:w.heap.size+1<w7.heap.size:=(by omega);have e5:b<w7.heap.size:=(by omega);rw[cT.out];have B7:=BA.tr cB;have gN:w7.heap.size+1+1<=((w7.alloc (.cells #[.int .i64 x,.int .i64 y] 83)).alloc (.cells #[.int .i64 sx,.int .i64 sy] 83)).heap.size:=(by simp);have j9:w.heap.size<w7.heap.size+1+1:=(by omega);have kA:w.heap.size+1<w7.heap.size+1+1:=(by omega);have kB:w7.heap.size<w7.heap.size+1+1:=(by omega);have kO:w7.heap.size+1<w7.heap.size+1+1:=(by omega);have k0:w.heap.size≠w7.heap.size:=(by omega);have k5:w.heap.size≠w7.heap.size+1:=(by omega);have k6:w.heap.size+1≠w7.heap.size:=(by omega);have k7:w7.heap.size≠w.heap.size+1:=(by omega);have k8:w7.heap.size≠w.heap.size:=(by omega);have k9:w.heap.size+1≠w7.heap.size+1:=(by omega);have lA:w7.heap.size+1≠w.heap.size+1:=(by omega);have e6:=(B7.al (.cells #[.int .i64 x,.int .i64 y] 83)).al (.cells #[.int .i64 sx,.int .i64 sy] 83);have cU:=((bL.below cB).alloc (.cells #[.int .i64 x,.int .i64 y] 83)).alloc (.cells #[.int .i64 sx,.int .i64 sy] 83);go_wp2_with fail
          refine(iL _ rows x y s I _ (h.TW e6) cP.out cF fW cR.out).mono ?_;rintro e w8 ⟨rfl,cC⟩;obtain⟨gO,gP,gQ⟩:=bkn cC _ gN;have B8:=e6.tr cC;rcases e1:s.testBit I with _|_
          . go_wp2;go_ret;exact⟨lF (by have:=b8.out;rw[gD.out e1]at this;simpa using this),B8⟩
          . go_wp2_with fail
            refine(iL _ rows sx sy s J _ (h.TW B8) cQ.out cF fW cS.out).mono ?_;rintro e w9 ⟨rfl,cD⟩;obtain⟨gR,gS,gT⟩:=bkn cD _ gQ;have B9:=B8.tr cD;rcases e2:s.testBit J with _|_
            . go_wp2;go_ret;exact⟨lF (by have:=b8.out;rw[gF.out e2]at this;simpa using this),B9⟩
            . have e7:=TY (gB.out e1);have e8:=TY (gC.out e2);go_wp2_with fail
              refine(gH x y I _ cP.out cR.out).mono ?_;rintro e lB ⟨rfl,bD⟩;obtain⟨cV,cW,cX⟩:=bkn bD _ gT;have e9:=B9.tr bD;rcases qI with _|_
              . go_wp2_with fail
                refine(gH sx sy J _ cQ.out cS.out).mono ?_;rintro e lO ⟨rfl,bE⟩;obtain⟨cY,dL,dT⟩:=bkn bE _ cX;have fD:=e9.tr bE;rcases qJ with _|_
                . go_wp2_with fail
                  refine(gH x y I _ cP.out cR.out).mono ?_;rintro e lR ⟨rfl,bF⟩;obtain⟨eA,eC,gW⟩:=bkn bF _ dT;have bK:=((((cU.below cC).below cD).below bD).below bE).below bF;have eE:=((((((((bR.bl Bw).bl cB).alloc (.cells #[.int .i64 x,.int .i64 y] 83)).alloc (.cells #[.int .i64 sx,.int .i64 sy] 83)).bl cC).bl cD).bl bD).bl bE).bl bF;have gX:=fD.tr bF;have b9:=bK.free;have bX:=bK.iZ pR eM (y:=true) rfl;have fL:Hid (left.testBit I=true):=TY (by have k:=e7.out;simpa using k);have fN:Hid (left.testBit J=true):=TY (by have k:=e8.out;simpa using k);clear gL gP gS cW dL eC;go_wp2_with fail
                  refine(gH sx sy J _ cQ.out cS.out).mono ?_;rintro e l4 ⟨rfl,bY⟩;have a8:=bX.below bY;have eI:=(eE.far eL _).bl bY;have gY:=(gX.st ⟨w.heap.size+1,I,none⟩ (.bool true) (Ug _)).tr bY;obtain⟨l5,l6⟩:=a8.DI pR (k:=J) (by rw[T9];exact cL);have fO:=a8.free;clear gK gO gR cV cY eA zI zJ zA b9;go_wp2;go_roundw
                  case rel=>exact⟨(j+1)+1,dE left D,(q.set I true).set J true,by omega,by go_num,eD bA,by rw[fT l _ hlt,<-cG.out];exact TY (by have:=b8.out;rw[fL.out,fN.out]at this;simpa using this),TY (fun e he=>by rw[fT l _ hlt,<-cG.out]at he;injection he with he;rw[<-he];exact a6.out),TY (HST.out fL.out fN.out),a8.iZ pR (by rw[T9];exact cL) rfl,eI.far eL _,gY.st _ _ (Ug _)⟩
                  case measure=>simp[intOf];omega
                . go_wp2;go_ret;exact⟨lF (by have:=b8.out;have k:=e8.out;rw[show left.testBit J=false by simpa using k]at this;simpa using this),fD⟩
              . go_wp2;go_ret;exact⟨lF (by have:=b8.out;have k:=e7.out;rw[show left.testBit I=false by simpa using k]at this;simpa using this),e9⟩
  . obtain rfl : k = l.length := by omega
    have hg:=Hg.out;rw[TZ (Ud _)]at hg;have HG:=TY hg;clear hg;go_wp2_with fail
    refine(dZ _ rows _ (h.TW bJ)).mono ?_;rintro e w1 ⟨rfl,hb1⟩;obtain⟨hc1,nB,hz1⟩:=bk hb1;(try simp at hz1)
    have hZ:w.heap.size<w1.heap.size:=(by omega);rw[aN.2 cF.out];go_wp2;go_ret;exact⟨lF HG.out,bJ.tr hb1⟩
theorem Pf (v u:Value) (rows:List Int) (l:List Dm) (w:World) (h:Rd 1 bG w v rows) (h2:Rd 3 aU w u l) (hr:bQ rows=false):Calls prog 119 #[.agg #[v],u] w (Ret (.bool false) w):=by
 obtain⟨A,c,rfl,hc,hm⟩:=h.form;obtain⟨A2,c2,rfl,hc2,b8⟩:=h2.form;have hA:=((Below.refl w.heap.size w).al (.cells #[.slice A rows.length c] 26));have hx:=Blk.aZ w 26 #[.slice A rows.length c];have bU:Hid ((64:Int)=((64:Nat):Int)):=TY rfl;have Hr:=TY hr;clear hr;go_enter func119,ntmps119
 go_wp2_with (at_make;go_must (refine mM (enc:=KY) (z0:=false) MM rfl hA 64 (by decide) (by decide) _ bU.out rfl _ _ rfl rfl rfl ?_);intro w1 hown1 hb1 hg1)
 have hx1:=hx.grown hg1 (by simp);have z1:=hx1.c1;have b9:=hx1.lt;have hb:∀b,b<w.heap.size->b<w1.heap.size:=fun b hb=>by omega
 refine wp_loop_rounds 1 ?_;rw[rounds_succ];by_cases hl:0<l.length
 . obtain⟨b,off,rfl,hb,q1,q2,q3⟩:=(h2.TW hb1).jT hl;simp only[Ub,Uc]at q1 q2 q3;obtain⟨d,hd⟩:=TV (l[0]);rw[<-hd]at q1 q2 q3;obtain⟨x,y,dn⟩:=d;simp only at q1 q2 q3;have bW:((0:Nat):Int)<(l.length:Int):=(by omega);have bE:(0:Int)<(l.length:Int):=(by omega);obtain⟨wr,hwr⟩:=TV w1;subst hwr;have Bw:Below wr.heap.size wr wr.drew:=(Below.refl _ _).drew;have hz:wr.heap.size<=wr.drew.heap.size:=(by simp);clear hd;rcases bA:aI (x,y,dn)with _|_
   . have a6:=TY bA;clear bA;go_wp2_with fail
     refine rB (fun w'=>w'.cell? ⟨b,off,none⟩=some (.int .i64 x)/\w'.cell? ⟨b,off+1,none⟩=some (.int .i64 y)/\w'.cell? ⟨b,off+2,none⟩=some (.bool dn)) fun hHeld=>(tW 0)<|(tW 1)<|(tW 2)<|(tW 3)<|(tR [4])<|tL fun K hK=>?_
     go_simp
     (first|(go_at_call 172;go_must (refine(dC x y dn _).mono ?_;rintro e wX ⟨rfl,a7⟩;rw[a6.out];obtain⟨bF,bJ,bB⟩:=bkn a7 wr.heap.size hz;have hz:=bB;have Bw:=Bw.tr a7);(try go_wp2_with fail)))
     refine tK hK fun hHeld=>?_
     clear hK K;refine(tW 5)<|(tW 6)<|(tU 7)<|(tU 8)<|(tU 9)<|(tU 10)<|(tU 11)<|(tU 12)<|(tU 13)<|(tU 14)<|(tU 15)<|(tU 16)<|(tU 17)<|(tU 18)<|(tU 19)<|(tU 20)<|(tU 21)<|(tW 22)<|tD ?_;go_wp2;go_ret;exact⟨rfl,hb1.tr Bw⟩
   . have a6:=TY bA;clear bA;go_wp2_with fail
     refine rB (fun w'=>w'.cell? ⟨b,off,none⟩=some (.int .i64 x)/\w'.cell? ⟨b,off+1,none⟩=some (.int .i64 y)/\w'.cell? ⟨b,off+2,none⟩=some (.bool dn)) fun hHeld=>(tW 0)<|(tW 1)<|(tW 2)<|(tW 3)<|(tR [4])<|tL fun K hK=>?_
     go_simp
     (first|(go_at_call 172;go_must (refine(dC x y dn _).mono ?_;rintro e wX ⟨rfl,a7⟩;rw[a6.out];obtain⟨bF,bJ,bB⟩:=bkn a7 wr.heap.size hz;have hz:=bB;have Bw:=Bw.tr a7);(try go_wp2_with fail)))
     refine tK hK fun hHeld=>?_
     clear hK K;refine(tW 5)<|(tW 6)<|(tW 7)<|(tW 8)<|(tW 9)<|(tU 10)<|(tU 11)<|(tU 12)<|(tU 13)<|(tU 14)<|(tU 15)<|(tU 16)<|(tU 17)<|(tU 18)<|(tU 19)<|(tU 20)<|(tW 21)<|(tW 22)<|tD ?_;have r1:=hHeld.1;have r2:=hHeld.2.1;have r3:=hHeld.2.2;have BA:=hb1.tr Bw;have zA:wX.cell? ⟨w.heap.size,0,none⟩=some (.slice A rows.length c):=(Bw.cell (p:=⟨w.heap.size,0,none⟩) (by show w.heap.size<wr.heap.size;omega)).trans z1;have cA:b<wX.heap.size:=by have:=Bw.size;omega
     have bX:w.heap.size<wX.heap.size:=by have:=Bw.size;omega
     clear bF bJ q1 q2 q3 z1;obtain⟨bC,bY⟩:=dR a6.out;obtain⟨sx,sy,a8⟩:∃sx sy,sec (x,y,dn)=(sx,sy):=⟨_,_,rfl⟩;simp only at bC;have b5:=TY bC;have bD:=TY a8;clear bC bY a8;go_wp2_with fail
     refine(jP x y dn _ a6.out).mono ?_;rintro e w7 ⟨rfl,bK⟩;obtain⟨cB,cC,b6⟩:=bk bK;(try simp at b6)
     have bL:w.heap.size<w7.heap.size:=(by omega);have bN:b<w7.heap.size:=(by omega);rw[bD.out];have B7:=BA.tr bK;have cD:w.heap.size<w7.heap.size+1+1:=(by omega);have cE:w.heap.size≠w7.heap.size:=(by omega);have cF:w.heap.size≠w7.heap.size+1:=(by omega);have bO:=(B7.al (.cells #[.int .i64 x,.int .i64 y] 83)).al (.cells #[.int .i64 sx,.int .i64 sy] 83);go_wp2_with fail
     refine(Cc _ rows x y _ (h.TW bO) b5.out Hr.out).mono ?_;rintro e w8 ⟨rfl,b7⟩;go_wp2;go_ret;exact⟨rfl,bO.tr b7⟩
 . have hl0 : l.length = 0 := by omega
   obtain rfl:l=[]:=List.length_eq_zero_iff.1 hl0;clear hl0 hl hb;go_wp2_with fail
   refine(dZ _ rows _ (h.TW hb1)).mono ?_;rintro e w2 ⟨rfl,hb2⟩;obtain⟨hc2,hf2,hz2⟩:=bk hb2;(try simp at hz2)
   have bR:w.heap.size<w2.heap.size:=(by omega);rw[Hr.out];go_wp2;go_ret;exact⟨rfl,hb1.tr hb2⟩
theorem Gn (v u:Value) (rows:List Int) (l:List Dm) (w:World) (h:Rd 1 bG w v rows) (h2:Rd 3 aU w u l):Calls prog 119 #[.agg #[v],u] w (Ret (.bool (isPartial rows l)) w):=by
 rcases hr:bQ rows with _|_
 . have e : isPartial rows l = false := by unfold isPartial; rw [hr]; rfl
   rw[e];exact Pf v u rows l w h h2 hr
 . exact NM v u rows l w h h2 (TY (aN.1 hr))
end Go.Proofs.YtjijonhkofhikaaGreatDoor
