import Derived.Test.YtjijonhkofhikaaGreatDoorFK3
import Derived.Deep.DeepCutAuto
open _root_.List renaming drop_of_length_le->Tm,length_set->Tn
open _root_.Nat renaming zero_le->Tp,zero_mul->Tq,add_zero->Tt,le_refl->Tu,one_pos->Tv,mul_one->Tw,le_succ->Tx
open _root_.Bool renaming and_eq_true->Ty
open _root_.Go.Proofs.Tryz (prog func163 ntmps163 func60 ntmps60 func121 ntmps121 func175 ntmps175 func119 ntmps119)
set_option linter.unusedVariables false
set_option maxHeartbeats 4000000
set_option maxRecDepth 100000
set_option linter.unusedSimpArgs false
namespace Go.Proofs.YtjijonhkofhikaaGreatDoor
open Go.ChangeShapes Go.WideShapes Go.ChangeAt Go.RowKit
def aS (d:Dm):Int:=2*(d.2.1*8+d.1)+if d.2.2 then 1 else 0
def fC (d:Dm):Nat:=(dJ (d.1,d.2.1)).toNat
def jL (d:Dm):Nat:=(dJ (sec d)).toNat
def aG (d:Dm):Nat:=uY (uY 0 (fC d)) (jL d)
theorem AL {d:Dm} (h:aI d=true):fC d<64/\jL d<64:=by
 have h1:bH (d.1,d.2.1)=true:=by unfold aI at h;rw[Ty]at h;exact h.1
 have h2:bH (sec d)=true:=by unfold aI at h;rw[Ty]at h;exact h.2
 have a:=dP h1;have b:=dP h2;unfold fC jL;omega
theorem pO:0<U64:=by unfold U64;decide
theorem dQ {d:Dm} (h:aI d=true):aG d<U64:=by
 obtain⟨a,b⟩:=AL h;exact EW (EW pO a) b
theorem DJ (x y:Int) (d:Bool) (w:World) (hd:aI (x,y,d)=true):Calls prog 163 #[.agg #[.int .i64 x,.int .i64 y,.bool d]] w (Ret (.int .i64 (aS (x,y,d))) w):=by
 have D1:=nC hd;simp only at D1;obtain⟨⟨x1,x2⟩,y1,y2⟩:=D1;have hc:bH (x,y)=true:=by unfold aI at hd;rw[Ty]at hd;exact hd.1
 have e:=(dP hc).1;simp only at e;have He:=Tk e;clear e hc;cases d
 . go_enter func163,ntmps163
   go_wp2_with fail
   refine(nH x y _).mono ?_;rintro e w1 ⟨rfl,hb1⟩;obtain⟨hc1,a7,hz1⟩:=bk hb1;(try simp at hz1)
   have a6:w.heap.size<w1.heap.size:=(by omega);rw[He.out];go_wp2;go_ret;exact⟨FQ (by simp[aS]),((Below.refl _ _).al _).tr hb1⟩
 . go_enter func163,ntmps163
   go_wp2_with fail
   refine(nH x y _).mono ?_;rintro e w1 ⟨rfl,hb1⟩;obtain⟨hc1,a7,hz1⟩:=bk hb1;(try simp at hz1)
   have a6:w.heap.size<w1.heap.size:=(by omega);rw[He.out];go_wp2;go_ret;exact⟨FQ (by simp[aS]),((Below.refl _ _).al _).tr hb1⟩
theorem Nw {d:Dm} (h:aI d=true):0<=aS d/\aS d<=127:=by
 have D1:=nC h;unfold aS;split<;>omega
theorem Bf (x y:Int) (d:Bool) (w:World) (hd:aI (x,y,d)=true):Calls prog 105 #[.agg #[.int .i64 x,.int .i64 y,.bool d]] w (Ret (.bool true) w):=by
 have:=aO x y d w;rw[hd]at this;exact this
theorem BK (x y:Int) (d:Bool) (x' y':Int) (d':Bool) (w:World) (hd:aI (x,y,d)=true) (bA:aI (x',y',d')=true):
 Calls prog 107 #[.agg #[.int .i64 x,.int .i64 y,.bool d],.agg #[.int .i64 x',.int .i64 y',.bool d']] w (Ret (.bool (decide (aS (x,y,d)<aS (x',y',d')))) w):=by
 have hA:=((Below.refl w.heap.size w).al (.cells #[.int .i64 x,.int .i64 y,.bool d] 99)).al (.cells #[.int .i64 x',.int .i64 y',.bool d'] 99);have hz:w.heap.size+1+1<=((w.alloc (.cells #[.int .i64 x,.int .i64 y,.bool d] 99)).alloc (.cells #[.int .i64 x',.int .i64 y',.bool d'] 99)).drew.heap.size:=(by simp);have a6:=hA.drew;have Hd:=Tk hd;have bB:=Tk bA;clear hd bA;have bE:w.heap.size<w.heap.size+1+1:=(by omega);have bF:w.heap.size+1<w.heap.size+1+1:=(by omega);go_enter Tryz.func107,Tryz.ntmps107
 go_wp2_with fail
 go_region_held3 (fun w'=>w'.cell? ⟨w.heap.size,0,none⟩=some (.int .i64 x)/\w'.cell? ⟨w.heap.size,1,none⟩=some (.int .i64 y)/\w'.cell? ⟨w.heap.size,2,none⟩=some (.bool d)/\w'.cell? ⟨w.heap.size+1,0,none⟩=some (.int .i64 x')/\w'.cell? ⟨w.heap.size+1,1,none⟩=some (.int .i64 y')/\w'.cell? ⟨w.heap.size+1,2,none⟩=some (.bool d')) (go_keep) (first|(go_at_call 105;go_must (refine(Bf _ _ _ _ (by first|exact Hd.out|exact bB.out)).mono ?_;rintro e wX ⟨rfl,a7⟩;obtain⟨bC,bD,a8⟩:=bkn a7 (w.heap.size+1+1) hz;have hz:=a8;have a6:=a6.tr a7))|(go_at_call 163;go_must (refine(DJ _ _ _ _ (by first|exact Hd.out|exact bB.out)).mono ?_;rintro e wX ⟨rfl,a7⟩;obtain⟨bC,bD,a8⟩:=bkn a7 (w.heap.size+1+1) hz;have hz:=a8;have a6:=a6.tr a7)))
 go_wp2;go_ret;exact⟨rfl,a6⟩
theorem Ny (S:Int) (s:Nat) (x y:Int) (w:World) (hS:S=(s:Int)) (hs:s<U64) (hc:bH (x,y)=true):Calls prog 162 #[.int .u64 S,.agg #[.int .i64 x,.int .i64 y]] w (Ret (.int .u64 (uY s (dJ (x,y)).toNat:Nat)) w):=by
 subst hS;exact Nq s x y w hs hc
theorem dA (x y:Int) (d:Bool) (w:World) (hd:aI (x,y,d)=true):Calls prog 106 #[.agg #[.int .i64 x,.int .i64 y,.bool d]] w (Ret (.int .u64 (aG (x,y,d):Nat)) w):=by
 have h1:bH (x,y)=true:=by unfold aI at hd;rw[Ty]at hd;exact hd.1
 have h2:bH (sec (x,y,d))=true:=by unfold aI at hd;rw[Ty]at hd;exact hd.2
 have hI:=(AL hd).1;have hs1:uY 0 (fC (x,y,d))<U64:=EW pO hI;have e:aG (x,y,d)=uY (uY 0 (dJ (x,y)).toNat) (dJ (sec (x,y,d))).toNat:=rfl;have a7:uY 0 (dJ (x,y)).toNat<U64:=hs1;obtain⟨s,hs⟩:=Ti (sec (x,y,d));rw[<-hs]at h2 e;obtain⟨sx,sy⟩:=s;obtain⟨D,hD⟩:=Ti (aG (x,y,d));rw[<-hD]at e⊢;have H1:=Tk h1;have H2:=Tk h2;have Hs:=Tk hs;have He:=Tk e;have bB:=Tk a7;clear h1 h2 hs e hs1 a7 hI hD hd;go_enter Tryz.func106,Tryz.ntmps106
 go_wp2_with fail
 refine(mE x y d _).mono ?_;rintro e w1 ⟨rfl,hb1⟩;obtain⟨hc1,bD,hz1⟩:=bk hb1;(try simp at hz1)
 have a8:w.heap.size<w1.heap.size:=(by omega);rw[<-Hs.out];have hA:=((((Below.refl _ _).al _).tr hb1).al (.cells #[.int .i64 x,.int .i64 y] 83)).al (.cells #[.int .i64 sx,.int .i64 sy] 83);have hz:w1.heap.size+1+1<=((w1.alloc (.cells #[.int .i64 x,.int .i64 y] 83)).alloc (.cells #[.int .i64 sx,.int .i64 sy] 83)).drew.heap.size:=(by simp);have a6:=hA.drew;have bE:w1.heap.size<w1.heap.size+1+1:=(by omega);have bF:w1.heap.size+1<w1.heap.size+1+1:=(by omega);go_wp2_with fail
 go_region_held3 (fun w'=>w'.cell? ⟨w1.heap.size,0,none⟩=some (.int .i64 x)/\w'.cell? ⟨w1.heap.size,1,none⟩=some (.int .i64 y)/\w'.cell? ⟨w1.heap.size+1,0,none⟩=some (.int .i64 sx)/\w'.cell? ⟨w1.heap.size+1,1,none⟩=some (.int .i64 sy)) (go_keep) (first|(go_at_call 162;go_must (refine(Ny _ _ _ _ _ (by first|exact(rfl:(0:Int)=((0:Nat):Int))|rfl) (by first|exact pO|exact bB.out) (by first|exact H1.out|exact H2.out)).mono ?_;rintro e wX ⟨rfl,bA⟩;obtain⟨bJ,bK,bC⟩:=bkn bA (w1.heap.size+1+1) hz;have hz:=bC;have a6:=a6.tr bA)))
 go_wp2;go_ret;exact⟨SF (by rw[He.out]),a6⟩
def kS (left:Nat):Option Dm->List Dm->Bool
  |_,[]=>true
  |p,d::r=>aI d&&decide (left&&&aG d=aG d)&&(match p with|none=>true|some e=>decide (aS e<aS d))&&kS (dE left (aG d)) (some d) r
def isPartial (rows:List Int) (l:List Dm):Bool:=bW rows&&kS (setOf rows) none l
end Go.Proofs.YtjijonhkofhikaaGreatDoor
namespace Go.Proofs.YtjijonhkofhikaaGreatDoor
open Go.ChangeShapes Go.WideShapes Go.ChangeAt Go.RowKit
def Ae (l:List Dm) (k:Nat):Option Dm:=if k=0 then none else l[k-1]?
theorem BL (l:List Dm):Ae l 0=none:=rfl
theorem gU (l:List Dm) (k:Nat) (h:k<l.length):Ae l (k+1)=some l[k]:=by
 unfold Ae;rw[if_neg (by omega)];simp[h]
def rF (p:Option Dm) (d:Dm):Bool:=match p with|none=>true|some e=>decide (aS e<aS d)
theorem rU (left:Nat) (p:Option Dm) (d:Dm) (r:List Dm):kS left p (d::r)=(aI d&&decide (left&&&aG d=aG d)&&rF p d&&kS (dE left (aG d)) (some d) r):=rfl
theorem uD {a b:Nat} (ha:a<U64) (hb:b<U64):bits .and .u64 (a:Int) (b:Int)=((a&&&b:Nat):Int)/\bits .andNot .u64 (a:Int) (b:Int)=((dE a b:Nat):Int):=by
 unfold U64 at ha hb;exact⟨u64_and_nat a b ha hb,u64_andNot_nat a b ha hb⟩
theorem SQ {a b:Nat} (h:a=b):Value.int .u64 a=Value.int .u64 b:=by rw[h]
theorem qL (v u:Value) (rows:List Int) (l:List Dm) (w:World) (h:Rd 1 aZ w v rows) (h2:Rd 3 aQ w u l):Calls prog 60 #[.agg #[v],u] w (Ret (.bool (isPartial rows l)) w):=by
 obtain⟨A,c,rfl,hc,hm⟩:=h.form;obtain⟨A2,c2,rfl,hc2,cA⟩:=h2.form;have hA:=((Below.refl w.heap.size w).al (.cells #[.slice A rows.length c] 26));have h':=h.Tj hA;rcases hr:bW rows with _|_
 . have e : isPartial rows l = false := by unfold isPartial; rw [hr]; rfl
   rw[e];go_enter func60,ntmps60
   go_wp2_with fail
   refine(nV _ rows _ h').mono ?_;rintro e w1 ⟨rfl,hb1⟩;obtain⟨hc1,bY,hz1⟩:=bk hb1;(try simp at hz1)
   have bK:w.heap.size<w1.heap.size:=(by omega);rw[hr];go_wp2;go_ret;exact⟨rfl,hA.tr hb1⟩
 . have e : isPartial rows l = kS (setOf rows) none l := by unfold isPartial; rw [hr]; rfl
   rw[e];have bE:=aR.1 hr;have hs:=dW bE;have b5:=Tk bE;clear bE e;go_enter func60,ntmps60
   go_wp2_with fail
   refine(nV _ rows _ h').mono ?_;rintro e w1 ⟨rfl,hb1⟩;obtain⟨hc1,bY,hz1⟩:=bk hb1;(try simp at hz1)
   have bK:w.heap.size<w1.heap.size:=(by omega);rw[hr];go_wp2_with fail
   refine(pV _ rows _ (h'.Tj hb1) b5).mono ?_;rintro e w2 ⟨rfl,hb2⟩;obtain⟨s,bR⟩:=Ti (setOf rows);rw[<-bR]at hs⊢;have bP:=Tk bR;clear bR hr;have B2:=(hA.tr hb1).tr hb2;clear hc1 bY hz1 bK hb1 hb2 h';go_wp2;go_loopw [5,15] (fun s5 b6 wr=>∃k left:Nat,k<=l.length/\b6= .int .i64 k/\s5= .int .u64 left/\left<U64/\Hid (kS left (Ae l k) (l.drop k)=kS s none l)/\Hid (∀e,Ae l k=some e->aI e=true)/\Below w.heap.size w wr) (fun _ i _=>l.length-(intOf i).toNat)
   case atStart=>exact⟨0,s,Tp _,rfl,rfl,hs,Tk rfl,Tk (fun e he=>by cases he),B2⟩
   case round=>
    obtain⟨k,left,hk,rfl,rfl,bF,Hg,Hp,bJ⟩:=hrel;clear B2;by_cases hlt:k<l.length
    . obtain⟨b,off,rfl,hb,q1,q2,q3⟩:=(h2.Tj bJ).kE hlt;have hg:=Hg.out;rw[List.drop_eq_getElem_cons hlt,rU]at hg;obtain⟨d,hd⟩:=Ti (l[k]);rw[<-hd]at q1 q2 q3 hg;obtain⟨x,y,dn⟩:=d;simp only at q1 q2 q3;have b7:=bJ.al (.cells #[.int .i64 x,.int .i64 y,.bool dn] 99);have a6:=b7.drew;have hz:wr.heap.size+1<=(wr.alloc (.cells #[.int .i64 x,.int .i64 y,.bool dn] 99)).drew.heap.size:=(by simp);have cB:wr.heap.size<wr.heap.size+1:=(by omega);rcases bE:aI (x,y,dn)with _|_
      . rw[bE]at hg;simp only[Bool.false_and]at hg;have HG:=Tk hg;have bN:=Tk hd;have a8:=Tk bE;clear hg hd bE;go_wp2_with fail
        refine rB (fun w'=>w'.cell? ⟨wr.heap.size,0,none⟩=some (.int .i64 x)/\w'.cell? ⟨wr.heap.size,1,none⟩=some (.int .i64 y)/\w'.cell? ⟨wr.heap.size,2,none⟩=some (.bool dn)) fun hHeld=>(tW 0)<|(tR [1])<|tL fun K hK=>?_
        go_simp
        (first|(go_at_call 105;go_must (refine(aO x y dn _).mono ?_;rintro e wX ⟨rfl,a7⟩;rw[a8.out];obtain⟨bB,bC,bA⟩:=bkn a7 (wr.heap.size+1) hz;have hz:=bA;have a6:=a6.tr a7);(try go_wp2_with fail)))
        refine tK hK fun hHeld=>?_
        clear hK K;refine(tW 2)<|(tW 3)<|(tU 4)<|(tU 5)<|(tU 6)<|(tU 7)<|(tU 8)<|(tU 9)<|(tU 10)<|(tW 11)<|(tW 12)<|(tU 13)<|(tU 14)<|(tU 15)<|(tU 16)<|(tU 17)<|(tU 18)<|(tU 19)<|(tU 20)<|(tU 21)<|(tU 22)<|(tU 23)<|(tU 24)<|(tW 25)<|tD ?_
        all_goals
          go_wp2;go_ret;exact⟨lJ (by have:=HG.out;rw[bP.out]at this;exact this),a6⟩
      . rw[bE]at hg;simp only[Bool.true_and]at hg;have hDlt:=dQ bE;obtain⟨D,hD⟩:=Ti (aG (x,y,dn));rw[<-hD]at hg hDlt;obtain⟨hand,b8⟩:=uD bF hDlt;have HD:=Tk hD;have a8:=Tk bE;have bN:=Tk hd;clear hD bE hd;rcases bD:decide (left&&&D=D)with _|_
        . rw[bD]at hg;simp only[Bool.false_and]at hg
          have hne:(((left&&&D:Nat):Int) !=(D:Int))=true:=by
           rw[decide_eq_false_iff_not]at bD;rw[bne_iff_ne];omega
          have HG:=Tk hg;clear hg bD;go_wp2_with fail
          refine rB (fun w'=>w'.cell? ⟨wr.heap.size,0,none⟩=some (.int .i64 x)/\w'.cell? ⟨wr.heap.size,1,none⟩=some (.int .i64 y)/\w'.cell? ⟨wr.heap.size,2,none⟩=some (.bool dn)) fun hHeld=>(tW 0)<|(tR [1])<|tL fun K hK=>?_
          go_simp
          (first|(go_at_call 105;go_must (refine(aO x y dn _).mono ?_;rintro e wX ⟨rfl,a7⟩;rw[a8.out];obtain⟨bB,bC,bA⟩:=bkn a7 (wr.heap.size+1) hz;have hz:=bA;have a6:=a6.tr a7);(try go_wp2_with fail))|(go_at_call 106;go_must (refine(dA x y dn _ a8.out).mono ?_;rintro e wX ⟨rfl,a7⟩;rw[<-HD.out];obtain⟨bB,bC,bA⟩:=bkn a7 (wr.heap.size+1) hz;have hz:=bA;have a6:=a6.tr a7);(try go_wp2_with fail)))
          refine tK hK fun hHeld=>?_
          clear hK K;refine(tW 2)<|(tW 3)<|(tW 4)<|(tW 5)<|(tW 8)<|(tR [6])<|tL fun K hK=>?_
          go_simp
          (first|(go_at_call 105;go_must (refine(aO x y dn _).mono ?_;rintro e wX ⟨rfl,a7⟩;rw[a8.out];obtain⟨bB,bC,bA⟩:=bkn a7 (wr.heap.size+1) hz;have hz:=bA;have a6:=a6.tr a7);(try go_wp2_with fail))|(go_at_call 106;go_must (refine(dA x y dn _ a8.out).mono ?_;rintro e wX ⟨rfl,a7⟩;rw[<-HD.out];obtain⟨bB,bC,bA⟩:=bkn a7 (wr.heap.size+1) hz;have hz:=bA;have a6:=a6.tr a7);(try go_wp2_with fail)))
          refine tK hK fun hHeld=>?_
          clear hK K;refine(tW 7)<|(tR [9])<|tL fun K hK=>?_
          go_simp
          (first|(go_at_call 105;go_must (refine(aO x y dn _).mono ?_;rintro e wX ⟨rfl,a7⟩;rw[a8.out];obtain⟨bB,bC,bA⟩:=bkn a7 (wr.heap.size+1) hz;have hz:=bA;have a6:=a6.tr a7);(try go_wp2_with fail))|(go_at_call 106;go_must (refine(dA x y dn _ a8.out).mono ?_;rintro e wX ⟨rfl,a7⟩;rw[<-HD.out];obtain⟨bB,bC,bA⟩:=bkn a7 (wr.heap.size+1) hz;have hz:=bA;have a6:=a6.tr a7);(try go_wp2_with fail)))
          refine tK hK fun hHeld=>?_
          clear hK K;refine(tW 10)<|(tW 11)<|(tW 12)<|(tU 13)<|(tU 14)<|(tU 15)<|(tU 16)<|(tU 17)<|(tU 18)<|(tU 19)<|(tU 20)<|(tU 21)<|(tU 22)<|(tU 23)<|(tU 24)<|(tW 25)<|tD ?_
          all_goals
            go_wp2;go_ret;exact⟨lJ (by have:=HG.out;rw[bP.out]at this;exact this),a6⟩
        . rw[bD]at hg;simp only[Bool.true_and]at hg
          have hne:(((left&&&D:Nat):Int) !=(D:Int))=false:=by
           rw[decide_eq_true_iff]at bD;rw[bne_eq_false_iff_eq];omega
          clear bD;rcases Nat.eq_zero_or_pos k with rfl|cC
          . rw[BL]at hg;simp only[rF,Bool.true_and]at hg;have HG:=Tk hg;clear hg;simp only[Tq,Tt]at q1 q2 q3;go_wp2_with fail
            refine rB (fun w'=>w'.cell? ⟨wr.heap.size,0,none⟩=some (.int .i64 x)/\w'.cell? ⟨wr.heap.size,1,none⟩=some (.int .i64 y)/\w'.cell? ⟨wr.heap.size,2,none⟩=some (.bool dn)) fun hHeld=>(tW 0)<|(tR [1])<|tL fun K hK=>?_
            go_simp
            (first|(go_at_call 105;go_must (refine(aO x y dn _).mono ?_;rintro e wX ⟨rfl,a7⟩;rw[a8.out];obtain⟨bB,bC,bA⟩:=bkn a7 (wr.heap.size+1) hz;have hz:=bA;have a6:=a6.tr a7);(try go_wp2_with fail))|(go_at_call 106;go_must (refine(dA x y dn _ a8.out).mono ?_;rintro e wX ⟨rfl,a7⟩;rw[<-HD.out];obtain⟨bB,bC,bA⟩:=bkn a7 (wr.heap.size+1) hz;have hz:=bA;have a6:=a6.tr a7);(try go_wp2_with fail)))
            refine tK hK fun hHeld=>?_
            clear hK K;refine(tW 2)<|(tW 3)<|(tW 4)<|(tW 5)<|(tW 8)<|(tR [6])<|tL fun K hK=>?_
            go_simp
            (first|(go_at_call 105;go_must (refine(aO x y dn _).mono ?_;rintro e wX ⟨rfl,a7⟩;rw[a8.out];obtain⟨bB,bC,bA⟩:=bkn a7 (wr.heap.size+1) hz;have hz:=bA;have a6:=a6.tr a7);(try go_wp2_with fail))|(go_at_call 106;go_must (refine(dA x y dn _ a8.out).mono ?_;rintro e wX ⟨rfl,a7⟩;rw[<-HD.out];obtain⟨bB,bC,bA⟩:=bkn a7 (wr.heap.size+1) hz;have hz:=bA;have a6:=a6.tr a7);(try go_wp2_with fail)))
            refine tK hK fun hHeld=>?_
            clear hK K;refine(tW 7)<|(tR [9])<|tL fun K hK=>?_
            go_simp
            (first|(go_at_call 105;go_must (refine(aO x y dn _).mono ?_;rintro e wX ⟨rfl,a7⟩;rw[a8.out];obtain⟨bB,bC,bA⟩:=bkn a7 (wr.heap.size+1) hz;have hz:=bA;have a6:=a6.tr a7);(try go_wp2_with fail))|(go_at_call 106;go_must (refine(dA x y dn _ a8.out).mono ?_;rintro e wX ⟨rfl,a7⟩;rw[<-HD.out];obtain⟨bB,bC,bA⟩:=bkn a7 (wr.heap.size+1) hz;have hz:=bA;have a6:=a6.tr a7);(try go_wp2_with fail)))
            refine tK hK fun hHeld=>?_
            clear hK K;refine(tW 10)<|(tW 11)<|(tW 12)<|(tW 13)<|(tW 14)<|(tW 15)<|(tU 16)<|(tU 17)<|(tU 18)<|(tU 19)<|(tU 20)<|(tU 21)<|(tU 22)<|(tU 23)<|(tW 24)<|(tW 25)<|tD ?_;go_wp2_with fail
            refine(dA x y dn _ a8.out).mono ?_;rintro e w9 ⟨rfl,bS⟩;rw[<-HD.out];go_wp2;go_roundw
            case rel=>exact⟨_,dE left D,hlt,by go_num,rfl,eD bF,by rw[gU l _ hlt,<-bN.out];exact HG,Tk (fun e he=>by rw[gU l _ hlt,<-bN.out]at he;injection he with he;rw[<-he];exact a8.out),a6.tr bS⟩
            case measure=>simp[intOf];omega
          . obtain ⟨j, rfl⟩ : ∃ j, k = j + 1 := ⟨k - 1, by omega⟩;have hj:j<l.length:=(by omega);rw[gU l j hj]at hg;have bL:=Hp.out l[j] (gU l j hj);obtain⟨b',b9,e',hb',p1,p2,p3⟩:=(h2.Tj bJ).kE hj;injection e' with e';injection e' with e1 e2 e3;subst e1;subst e2;simp only[rF]at hg;obtain⟨dp,bU⟩:=Ti (l[j]);rw[<-bU]at p1 p2 p3 hg bL;obtain⟨px,py,pd⟩:=dp;simp only at p1 p2 p3;have bO:=Tk bL;have cD:=Tk bU;clear bL bU e3;have cE:b<wr.heap.size+1:=(by omega);have cF:IntKind.i64.wrap (j:Int)=(j:Int):=IntWalk.i64_in _ (by omega);have cG:(0:Int)<=(j:Int):=(by omega);have cH:(j:Int)<(l.length:Int):=(by omega);rcases bM:decide (aS (px,py,pd)<aS (x,y,dn))with _|_
            . rw[bM]at hg;simp only[Bool.false_and]at hg;have HG:=Tk hg;have bX:=Tk bM;clear hg bM;go_wp2_with fail
              go_region_held3 (fun w'=>w'.cell? ⟨wr.heap.size,0,none⟩=some (.int .i64 x)/\w'.cell? ⟨wr.heap.size,1,none⟩=some (.int .i64 y)/\w'.cell? ⟨wr.heap.size,2,none⟩=some (.bool dn)/\w'.cell? ⟨b,off+j*3,none⟩=some (.int .i64 px)/\w'.cell? ⟨b,off+j*3+1,none⟩=some (.int .i64 py)/\w'.cell? ⟨b,off+j*3+2,none⟩=some (.bool pd)) (go_keep) (first|(go_at_call 105;go_must (refine(aO x y dn _).mono ?_;rintro e wX ⟨rfl,a7⟩;rw[a8.out];obtain⟨bB,bC,bA⟩:=bkn a7 (wr.heap.size+1) hz;have hz:=bA;have a6:=a6.tr a7);(try go_wp2_with fail))|(go_at_call 106;go_must (refine(dA x y dn _ a8.out).mono ?_;rintro e wX ⟨rfl,a7⟩;rw[<-HD.out];obtain⟨bB,bC,bA⟩:=bkn a7 (wr.heap.size+1) hz;have hz:=bA;have a6:=a6.tr a7);(try go_wp2_with fail))|(go_at_call 107;go_must (refine(BK px py pd x y dn _ bO.out a8.out).mono ?_;rintro e wX ⟨rfl,a7⟩;rw[bX.out];obtain⟨bB,bC,bA⟩:=bkn a7 (wr.heap.size+1) hz;have hz:=bA;have a6:=a6.tr a7);(try go_wp2_with fail)))
              all_goals
                go_wp2;go_ret;exact⟨lJ (by have:=HG.out;rw[bP.out]at this;exact this),a6⟩
            . rw[bM]at hg;simp only[Bool.true_and]at hg;have HG:=Tk hg;have bX:=Tk bM;clear hg bM;go_wp2_with fail
              go_region_held3 (fun w'=>w'.cell? ⟨wr.heap.size,0,none⟩=some (.int .i64 x)/\w'.cell? ⟨wr.heap.size,1,none⟩=some (.int .i64 y)/\w'.cell? ⟨wr.heap.size,2,none⟩=some (.bool dn)/\w'.cell? ⟨b,off+j*3,none⟩=some (.int .i64 px)/\w'.cell? ⟨b,off+j*3+1,none⟩=some (.int .i64 py)/\w'.cell? ⟨b,off+j*3+2,none⟩=some (.bool pd)) (go_keep) (first|(go_at_call 105;go_must (refine(aO x y dn _).mono ?_;rintro e wX ⟨rfl,a7⟩;rw[a8.out];obtain⟨bB,bC,bA⟩:=bkn a7 (wr.heap.size+1) hz;have hz:=bA;have a6:=a6.tr a7);(try go_wp2_with fail))|(go_at_call 106;go_must (refine(dA x y dn _ a8.out).mono ?_;rintro e wX ⟨rfl,a7⟩;rw[<-HD.out];obtain⟨bB,bC,bA⟩:=bkn a7 (wr.heap.size+1) hz;have hz:=bA;have a6:=a6.tr a7);(try go_wp2_with fail))|(go_at_call 107;go_must (refine(BK px py pd x y dn _ bO.out a8.out).mono ?_;rintro e wX ⟨rfl,a7⟩;rw[bX.out];obtain⟨bB,bC,bA⟩:=bkn a7 (wr.heap.size+1) hz;have hz:=bA;have a6:=a6.tr a7);(try go_wp2_with fail)))
              go_wp2_with fail
              refine(dA x y dn _ a8.out).mono ?_;rintro e w9 ⟨rfl,bS⟩;rw[<-HD.out];go_wp2;go_roundw
              case rel=>exact⟨_,dE left D,hlt,by go_num,rfl,eD bF,by rw[gU l _ hlt,<-bN.out];exact HG,Tk (fun e he=>by rw[gU l _ hlt,<-bN.out]at he;injection he with he;rw[<-he];exact a8.out),a6.tr bS⟩
              case measure=>simp[intOf];omega
    . obtain rfl : k = l.length := by omega
      have hg:=Hg.out;rw[Tm (Tu _)]at hg;have HG:=Tk hg;clear hg;go_wp2;go_ret;exact⟨lJ (by have:=HG.out;rw[bP.out]at this;exact this),bJ⟩
end Go.Proofs.YtjijonhkofhikaaGreatDoor
namespace Go.Proofs.YtjijonhkofhikaaGreatDoor
open Go.ChangeShapes Go.WideShapes Go.ChangeAt Go.RowKit
def mJ (d:Dm) (c:Cl):Bool:=aI d&&(decide ((d.1,d.2.1)=c)||decide (sec d=c))
def qG (l:List Dm) (c:Cl):Option Dm:=l.find? (mJ · c)
def iQ (c:Cl):List Dm->Nat->Int
  |[],_=> -1
  |d::r,k=>if mJ d c then(k:Int)else iQ c r (k+1)
def nW (l:List Dm) (c:Cl):Int:=iQ c l 0
theorem G8 (c:Cl):∀(l:List Dm) (k:Nat),(iQ c l k= -1/\qG l c=none)∨∃j,∃h:j<l.length,iQ c l k=((k+j:Nat):Int)/\qG l c=some l[j]:=by
 intro l;induction l with
 |nil=>intro k;exact .inl ⟨rfl,rfl⟩
 |cons d r ih=>
  intro k;by_cases hd:mJ d c=true
  . refine .inr ⟨0, by simp, ?_, ?_⟩
    . simp[iQ,hd]
    . simp[qG,hd]
  . have hf : qG (d :: r) c = qG r c := by simp [qG, hd]
    have hg:iQ c (d::r) k=iQ c r (k+1):=(by simp[iQ,hd]);rw[hf,hg];rcases ih (k+1)with h|⟨j,hj,h1,h2⟩
    . exact .inl h
    . exact .inr ⟨j+1,by simpa using hj,by rw[h1];congr 1;omega,by rw[h2];simp⟩
theorem yO (l:List Dm) (c:Cl):(nW l c= -1/\qG l c=none)∨∃j,∃h:j<l.length,nW l c=(j:Int)/\qG l c=some l[j]:=by
 rcases G8 c l 0 with h|⟨j,hj,h1,h2⟩
 . exact .inl h
 . exact .inr ⟨j,hj,by unfold nW;rw[h1];congr 1;omega,h2⟩
theorem yP {a b:Cl} (ha:bH a=true) (hb:bH b=true) (h:(dJ a).toNat=(dJ b).toNat):a=b:=by
 have h1:=dP ha;have h2:=dP hb;have k1:=dC.1 ha;have k2:=dC.1 hb;obtain⟨a1,a2⟩:=a;obtain⟨b1,b2⟩:=b;simp only at h1 h2 k1 k2;have:a2=b2:=(by omega);have:a1=b1:=(by omega);simp_all
theorem dR {d:Dm} (h:aI d=true):bH (d.1,d.2.1)=true/\bH (sec d)=true:=by
 unfold aI at h;rw[Ty]at h;exact h
theorem aT {d:Dm} (h:aI d=true) (j:Nat):(aG d).testBit j=(decide (fC d=j)||decide (jL d=j)):=by
 unfold aG;rw[sG,sG,Nat.zero_testBit,Bool.false_or]
theorem yQ {d:Dm} (h:aI d=true) (c:Cl):(bH c&&(aG d).testBit (dJ c).toNat)=mJ d c:=by
 obtain⟨h1,h2⟩:=dR h;unfold mJ;rw[h,Bool.true_and,aT h];rw[Bool.eq_iff_iff];simp only[Ty,Bool.or_eq_true,decide_eq_true_eq];unfold fC jL;constructor
 . rintro⟨hc,e|e⟩
   . exact .inl (yP h1 hc e)
   . exact .inr (yP h2 hc e)
 . rintro(e|e)
   . exact⟨e▸h1,.inl (by rw[e])⟩
   . exact⟨e▸h2,.inr (by rw[e])⟩
theorem Bg {d:Dm} (h:aI d=false) (c:Cl):mJ d c=false:=by unfold mJ;rw[h];rfl
theorem qV {a b:Nat} (h:a&&&b=b) (j:Nat) (hb:b.testBit j=true):a.testBit j=true:=by
 have:=congrArg (·.testBit j) h;simp only[Nat.testBit_and]at this;rw[hb]at this;simpa using this
theorem uO {left:Nat} {p:Option Dm} {d:Dm} {r:List Dm} (h:kS left p (d::r)=true):aI d=true/\left&&&aG d=aG d/\kS (dE left (aG d)) (some d) r=true:=by
 simp only[kS,Ty,decide_eq_true_eq]at h;exact⟨h.1.1.1,h.1.1.2,h.2⟩
theorem jQ {a b:Nat} (ha:a<U64) (hb:b<U64) (j:Nat):(dE a b).testBit j=(a.testBit j&& !b.testBit j):=kQ hb ha
theorem DK:∀(l:List Dm) (left:Nat) (p:Option Dm),left<U64->kS left p l=true->∀d∈l,aI d=true/\∀j,(aG d).testBit j=true->left.testBit j=true:=by
 intro l;induction l with
 |nil=>intro left p _ _ d hd;cases hd
 |cons e r ih=>
  intro left p hl h d hd;obtain⟨h1,h2,h3⟩:=uO h;rcases List.mem_cons.1 hd with rfl|hd
  . exact⟨h1,fun j hj=>qV h2 j hj⟩
  . obtain⟨k1,k2⟩:=ih _ _ (eD hl) h3 d hd;refine⟨k1,fun j hj=> ?_⟩;have:=k2 j hj;rw[jQ hl (dQ h1)]at this;rw[Ty]at this;exact this.1
theorem iW {rows:List Int} {l:List Dm} (h:isPartial rows l=true):dX rows/\kS (setOf rows) none l=true:=by
 unfold isPartial at h;rw[Ty]at h;exact⟨aR.1 h.1,h.2⟩
theorem Ms {rows:List Int} {l:List Dm} (h:isPartial rows l=true) {c:Cl} {d:Dm} (hc:qG l c=some d):mJ d c=true/\d∈l/\(setOf rows).testBit (dJ c).toNat=true:=by
 obtain⟨ho,hp⟩:=iW h;have h1:mJ d c=true:=List.find?_some (p:=fun e=>mJ e c) hc;have h2:d∈l:=List.mem_of_find?_eq_some hc;refine⟨h1,h2,?_⟩;obtain⟨k1,k2⟩:=DK l _ _ (dW ho) hp d h2;apply k2;have:=yQ k1 c;rw[h1,Ty]at this;exact this.2
def nX (d:Dm) (c:Cl):UInt8:=if d.2.2 then(if(d.1,d.2.1)=c then 94 else 118)else(if(d.1,d.2.1)=c then 60 else 62)
def sgn (s:Nat) (l:List Dm) (x y:Nat):UInt8:=if s.testBit (8*y+x)then(match qG l ((x:Int),(y:Int))with|none=>63|some d=>nX d ((x:Int),(y:Int)))else 46
def FN (s:Nat) (l:List Dm) (y k:Nat):List UInt8:=(List.range k).map fun x=>sgn s l x y
def AO (s:Nat) (l:List Dm) (y k:Nat):ByteArray:=⟨(FN s l y k).toArray⟩
def pU (s:Nat) (l:List Dm) (n:Nat):List ByteArray:=(List.range n).map fun y=>AO s l y 8
def eQ (rows:List Int) (l:List Dm):List ByteArray:=if isPartial rows l then pU (setOf rows) l rows.length else[]
theorem DN (s:Nat) (l:List Dm) (y k:Nat):FN s l y (k+1)=FN s l y k++[sgn s l k y]:=by simp[FN,List.range_succ]
theorem Nz (s:Nat) (l:List Dm) (y k:Nat):(AO s l y k).size=k:=by simp[AO,ByteArray.size,FN]
theorem NA (s:Nat) (l:List Dm) (y k:Nat):AO s l y k++(⟨#[sgn s l k y]⟩:ByteArray)=AO s l y (k+1):=by
 have e:AO s l y k++(⟨#[sgn s l k y]⟩:ByteArray)=(AO s l y k).push (sgn s l k y):=by
  apply ByteArray.ext;rw[ByteArray.data_append];simp[ByteArray.push]
 rw[e];unfold AO ByteArray.push;congr 1
 simp[DN]
theorem DU (s:Nat) (l:List Dm) (n:Nat):pU s l (n+1)=pU s l n++[AO s l n 8]:=by simp[pU,List.range_succ]
theorem nD (s:Nat) (l:List Dm) (n:Nat):(pU s l n).length=n:=by simp[pU]
end Go.Proofs.YtjijonhkofhikaaGreatDoor
namespace Go.Proofs.YtjijonhkofhikaaGreatDoor
open Go.ChangeShapes Go.WideShapes Go.ChangeAt Go.RowKit
theorem lL (v:Value) (l:List Dm) (x y:Int) (w:World) (h:Rd 3 aQ w v l):Calls prog 63 #[v,.agg #[.int .i64 x,.int .i64 y]] w (Ret (.int .i64 (nW l (x,y))) w):=by
 obtain⟨A,c,rfl,hc,hm⟩:=h.form;have hA:=((Below.refl w.heap.size w).al (.cells #[.int .i64 x,.int .i64 y] 83));have hx:=Blk.aX w 83 #[.int .i64 x,.int .i64 y];have hD:nW l (x,y)=iQ (x,y) l 0:=rfl;obtain⟨D,bK⟩:=Ti (nW l (x,y));rw[<-bK]at hD⊢;have HD:=Tk hD;clear hD bK;go_enter Tryz.func63,Tryz.ntmps63
 go_wp2;go_loopw [9] (fun s9 wr=>∃k:Nat,k<=l.length/\s9= .int .i64 k/\Hid (iQ (x,y) (l.drop k) k=D)/\wr.cell? ⟨w.heap.size,0,none⟩=some (.int .i64 x)/\wr.cell? ⟨w.heap.size,1,none⟩=some (.int .i64 y)/\w.heap.size<wr.heap.size/\Below w.heap.size w wr) (fun i _=>l.length-(intOf i).toNat)
 case atStart=>exact⟨0,Tp _,rfl,Tk HD.out.symm,hx.cell 0,hx.cell 1,hx.lt,hA⟩
 case round=>
  obtain⟨k,hk,rfl,Hg,z1,z2,bN,bF⟩:=hrel;clear hx hA;by_cases hlt:k<l.length
  . obtain⟨b,off,rfl,hb,q1,q2,q3⟩:=(h.Tj bF).kE hlt;have hg:=Hg.out;rw[List.drop_eq_getElem_cons hlt]at hg;obtain⟨d,hd⟩:=Ti (l[k]);rw[<-hd]at q1 q2 q3 hg;obtain⟨dx,dy,dn⟩:=d;simp only at q1 q2 q3;have bL:=bF.al (.cells #[.int .i64 dx,.int .i64 dy,.bool dn] 99);have a6:=bL.drew;have hz:wr.heap.size+1<=(wr.alloc (.cells #[.int .i64 dx,.int .i64 dy,.bool dn] 99)).drew.heap.size:=(by simp);have bO:wr.heap.size<wr.heap.size+1:=(by omega);have bP:w.heap.size<wr.heap.size+1:=(by omega);have bR:w.heap.size≠wr.heap.size:=(by omega);rcases bJ:aI (dx,dy,dn)with _|_
    . have hg2 : iQ (x, y) (l.drop (k + 1)) (k + 1) = D := by rw [<- hg]; simp only [iQ]; rw [if_neg (by rw [Bg bJ]; simp)]
      have HG:=Tk hg2;have bA:=Tk bJ;have bM:=Tk hd;clear hg hg2 bJ hd;go_wp2_with fail
      refine rB (fun w'=>w'.cell? ⟨wr.heap.size,0,none⟩=some (.int .i64 dx)/\w'.cell? ⟨wr.heap.size,1,none⟩=some (.int .i64 dy)/\w'.cell? ⟨wr.heap.size,2,none⟩=some (.bool dn)/\w'.cell? ⟨w.heap.size,0,none⟩=some (.int .i64 x)/\w'.cell? ⟨w.heap.size,1,none⟩=some (.int .i64 y)) fun hHeld=>(tW 0)<|(tR [1])<|tL fun K hK=>?_
      go_simp
      (first|(go_at_call 105;go_must (refine(aO dx dy dn _).mono ?_;rintro e wX ⟨rfl,a7⟩;rw[bA.out];obtain⟨bB,bC,a8⟩:=bkn a7 (wr.heap.size+1) hz;have hz:=a8;have a6:=a6.tr a7);(try go_wp2_with fail)))
      refine tK hK fun hHeld=>?_
      clear hK K;refine(tW 2)<|(tU 3)<|(tU 4)<|(tU 5)<|(tU 6)<|(tW 7)<|tD ?_;go_wp2;go_roundw
      case rel=>exact⟨k+1,by omega,by go_num,HG,hHeld.2.2.2.1,hHeld.2.2.2.2,by omega,a6⟩
      case measure=>simp[intOf];omega
    . have hDlt:=dQ bJ;have bE:=yQ bJ (x,y);have bA:=Tk bJ;have bM:=Tk hd;clear bJ hd;rcases hh:mJ (dx,dy,dn) (x,y)with _|_
      . have hg2 : iQ (x, y) (l.drop (k + 1)) (k + 1) = D := by rw [<- hg]; simp only [iQ]; rw [if_neg (by rw [hh]; simp)]
        rw[hh]at bE;have HG:=Tk hg2;have bD:=Tk bE;clear hg hg2 hh bE;go_wp2_with fail
        refine rB (fun w'=>w'.cell? ⟨wr.heap.size,0,none⟩=some (.int .i64 dx)/\w'.cell? ⟨wr.heap.size,1,none⟩=some (.int .i64 dy)/\w'.cell? ⟨wr.heap.size,2,none⟩=some (.bool dn)/\w'.cell? ⟨w.heap.size,0,none⟩=some (.int .i64 x)/\w'.cell? ⟨w.heap.size,1,none⟩=some (.int .i64 y)) fun hHeld=>(tW 0)<|(tR [1])<|tL fun K hK=>?_
        go_simp
        (first|(go_at_call 105;go_must (refine(aO dx dy dn _).mono ?_;rintro e wX ⟨rfl,a7⟩;rw[bA.out];obtain⟨bB,bC,a8⟩:=bkn a7 (wr.heap.size+1) hz;have hz:=a8;have a6:=a6.tr a7);(try go_wp2_with fail))|(go_at_call 106;go_must (refine(dA dx dy dn _ bA.out).mono ?_;rintro e wX ⟨rfl,a7⟩;obtain⟨bB,bC,a8⟩:=bkn a7 (wr.heap.size+1) hz;have hz:=a8;have a6:=a6.tr a7);(try go_wp2_with fail))|(go_at_call 62;go_must (refine(iP (aG (dx,dy,dn)) x y _ hDlt).mono ?_;rintro e wX ⟨rfl,a7⟩;rw[bD.out];obtain⟨bB,bC,a8⟩:=bkn a7 (wr.heap.size+1) hz;have hz:=a8;have a6:=a6.tr a7);(try go_wp2_with fail)))
        refine tK hK fun hHeld=>?_
        clear hK K;refine(tW 2)<|(tW 3)<|(tW 5)<|(tR [4])<|tL fun K hK=>?_
        go_simp
        (first|(go_at_call 105;go_must (refine(aO dx dy dn _).mono ?_;rintro e wX ⟨rfl,a7⟩;rw[bA.out];obtain⟨bB,bC,a8⟩:=bkn a7 (wr.heap.size+1) hz;have hz:=a8;have a6:=a6.tr a7);(try go_wp2_with fail))|(go_at_call 106;go_must (refine(dA dx dy dn _ bA.out).mono ?_;rintro e wX ⟨rfl,a7⟩;obtain⟨bB,bC,a8⟩:=bkn a7 (wr.heap.size+1) hz;have hz:=a8;have a6:=a6.tr a7);(try go_wp2_with fail))|(go_at_call 62;go_must (refine(iP (aG (dx,dy,dn)) x y _ hDlt).mono ?_;rintro e wX ⟨rfl,a7⟩;rw[bD.out];obtain⟨bB,bC,a8⟩:=bkn a7 (wr.heap.size+1) hz;have hz:=a8;have a6:=a6.tr a7);(try go_wp2_with fail)))
        refine tK hK fun hHeld=>?_
        clear hK K;refine(tR [6])<|tL fun K hK=>?_
        go_simp
        (first|(go_at_call 105;go_must (refine(aO dx dy dn _).mono ?_;rintro e wX ⟨rfl,a7⟩;rw[bA.out];obtain⟨bB,bC,a8⟩:=bkn a7 (wr.heap.size+1) hz;have hz:=a8;have a6:=a6.tr a7);(try go_wp2_with fail))|(go_at_call 106;go_must (refine(dA dx dy dn _ bA.out).mono ?_;rintro e wX ⟨rfl,a7⟩;obtain⟨bB,bC,a8⟩:=bkn a7 (wr.heap.size+1) hz;have hz:=a8;have a6:=a6.tr a7);(try go_wp2_with fail))|(go_at_call 62;go_must (refine(iP (aG (dx,dy,dn)) x y _ hDlt).mono ?_;rintro e wX ⟨rfl,a7⟩;rw[bD.out];obtain⟨bB,bC,a8⟩:=bkn a7 (wr.heap.size+1) hz;have hz:=a8;have a6:=a6.tr a7);(try go_wp2_with fail)))
        refine tK hK fun hHeld=>?_
        clear hK K;refine(tW 7)<|tD ?_;go_wp2;go_roundw
        case rel=>exact⟨k+1,by omega,by go_num,HG,hHeld.2.2.2.1,hHeld.2.2.2.2,by omega,a6⟩
        case measure=>simp[intOf];omega
      . have hg2 : (k : Int) = D := by rw [<- hg]; simp only [iQ]; rw [if_pos hh]
        rw[hh]at bE;have HG:=Tk hg2;have bD:=Tk bE;clear hg hg2 hh bE;go_wp2_with fail
        refine rB (fun w'=>w'.cell? ⟨wr.heap.size,0,none⟩=some (.int .i64 dx)/\w'.cell? ⟨wr.heap.size,1,none⟩=some (.int .i64 dy)/\w'.cell? ⟨wr.heap.size,2,none⟩=some (.bool dn)/\w'.cell? ⟨w.heap.size,0,none⟩=some (.int .i64 x)/\w'.cell? ⟨w.heap.size,1,none⟩=some (.int .i64 y)) fun hHeld=>(tW 0)<|(tR [1])<|tL fun K hK=>?_
        go_simp
        (first|(go_at_call 105;go_must (refine(aO dx dy dn _).mono ?_;rintro e wX ⟨rfl,a7⟩;rw[bA.out];obtain⟨bB,bC,a8⟩:=bkn a7 (wr.heap.size+1) hz;have hz:=a8;have a6:=a6.tr a7);(try go_wp2_with fail))|(go_at_call 106;go_must (refine(dA dx dy dn _ bA.out).mono ?_;rintro e wX ⟨rfl,a7⟩;obtain⟨bB,bC,a8⟩:=bkn a7 (wr.heap.size+1) hz;have hz:=a8;have a6:=a6.tr a7);(try go_wp2_with fail))|(go_at_call 62;go_must (refine(iP (aG (dx,dy,dn)) x y _ hDlt).mono ?_;rintro e wX ⟨rfl,a7⟩;rw[bD.out];obtain⟨bB,bC,a8⟩:=bkn a7 (wr.heap.size+1) hz;have hz:=a8;have a6:=a6.tr a7);(try go_wp2_with fail)))
        refine tK hK fun hHeld=>?_
        clear hK K;refine(tW 2)<|(tW 3)<|(tW 5)<|(tR [4])<|tL fun K hK=>?_
        go_simp
        (first|(go_at_call 105;go_must (refine(aO dx dy dn _).mono ?_;rintro e wX ⟨rfl,a7⟩;rw[bA.out];obtain⟨bB,bC,a8⟩:=bkn a7 (wr.heap.size+1) hz;have hz:=a8;have a6:=a6.tr a7);(try go_wp2_with fail))|(go_at_call 106;go_must (refine(dA dx dy dn _ bA.out).mono ?_;rintro e wX ⟨rfl,a7⟩;obtain⟨bB,bC,a8⟩:=bkn a7 (wr.heap.size+1) hz;have hz:=a8;have a6:=a6.tr a7);(try go_wp2_with fail))|(go_at_call 62;go_must (refine(iP (aG (dx,dy,dn)) x y _ hDlt).mono ?_;rintro e wX ⟨rfl,a7⟩;rw[bD.out];obtain⟨bB,bC,a8⟩:=bkn a7 (wr.heap.size+1) hz;have hz:=a8;have a6:=a6.tr a7);(try go_wp2_with fail)))
        refine tK hK fun hHeld=>?_
        clear hK K;refine(tR [6])<|tL fun K hK=>?_
        go_simp
        (first|(go_at_call 105;go_must (refine(aO dx dy dn _).mono ?_;rintro e wX ⟨rfl,a7⟩;rw[bA.out];obtain⟨bB,bC,a8⟩:=bkn a7 (wr.heap.size+1) hz;have hz:=a8;have a6:=a6.tr a7);(try go_wp2_with fail))|(go_at_call 106;go_must (refine(dA dx dy dn _ bA.out).mono ?_;rintro e wX ⟨rfl,a7⟩;obtain⟨bB,bC,a8⟩:=bkn a7 (wr.heap.size+1) hz;have hz:=a8;have a6:=a6.tr a7);(try go_wp2_with fail))|(go_at_call 62;go_must (refine(iP (aG (dx,dy,dn)) x y _ hDlt).mono ?_;rintro e wX ⟨rfl,a7⟩;rw[bD.out];obtain⟨bB,bC,a8⟩:=bkn a7 (wr.heap.size+1) hz;have hz:=a8;have a6:=a6.tr a7);(try go_wp2_with fail)))
        refine tK hK fun hHeld=>?_
        clear hK K;refine(tW 7)<|tD ?_;go_wp2;go_ret;exact⟨FQ HG.out,a6⟩
  . obtain rfl : k = l.length := by omega
    have hg:=Hg.out;rw[Tm (Tu _)]at hg;have HG:Hid ((-1:Int)=D):=Tk hg;clear hg;go_wp2;go_ret;exact⟨FQ HG.out,bF⟩
theorem Iq {r:Int} {x:Nat} (h0:0<=r) (h1:r<=255) (hx:x<8):(bits .and .i64 (r/2^x) 1==1)=r.toNat.testBit x:=by
 obtain⟨n,rfl⟩:=Int.eq_ofNat_of_zero_le h0;rw[J2];have e:((n:Int)/2^x)%2=((n/2^x%2:Nat):Int):=(by simp);rw[e,Int.toNat_natCast,Nat.testBit_eq_decide_div_mod_eq];rw[Bool.eq_iff_iff,beq_iff_eq,decide_eq_true_iff];omega
theorem eO (v:Value) (rows:List Int) (x y:Nat) (w:World) (h:Rd 1 aZ w v rows) (a8:Hid (dX rows)) (hx:x<8) (hy:y<8):Calls prog 121 #[.agg #[v],.agg #[.int .i64 x,.int .i64 y]] w (Ret (.bool ((setOf rows).testBit (8*y+x))) w):=by
 obtain⟨A,c,rfl,hc,hm⟩:=h.form;have hA:=((Below.refl w.heap.size w).al (.cells #[.slice A rows.length c] 26)).al (.cells #[.int .i64 x,.int .i64 y] 83);have a6:=xE a8.out (8*y+x);rw[show(8*y+x)/8=y by omega,show(8*y+x)%8=x by omega]at a6;obtain⟨B,hB⟩:=Ti ((setOf rows).testBit (8*y+x));rw[<-hB]at a6⊢;clear hB;by_cases hlt:y<rows.length
 . obtain⟨b,off,rfl,hb,q1⟩:=h.uX hlt;rw[List.getD_eq_getElem?_getD,List.getElem?_eq_getElem hlt,Option.getD_some]at a6;obtain⟨k0,k1⟩:=a8.out.2 rows[y] (List.getElem_mem _);obtain⟨r,hr⟩:=Ti (rows[y]);rw[<-hr]at q1 a6 k0 k1;have e1:=Iq k0 k1 hx;rw[<-a6]at e1;have a7:(y:Int)<(rows.length:Int):=(by omega);have bB:b≠w.heap.size:=(by omega);have bC:b≠w.heap.size+1:=(by omega);clear a6 hr;go_enter func121,ntmps121
   go_wp2_with fail
   go_quiet (fail)
   go_wp2;go_ret;exact⟨rfl,below_drewN hA _⟩
 . have bA : B = false := by rw [a6, List.getD_eq_getElem?_getD, List.getElem?_eq_none (by omega)]; simp
   have bD:decide (y<rows.length)=false:=(by simpa using hlt);have a7:decide ((y:Int)<(rows.length:Int))=false:=(by simpa using hlt);have bE:=Tk bA;clear bA a6 hlt;go_enter func121,ntmps121
   go_wp2_with fail
   go_quiet (fail)
   go_wp2;go_ret;exact⟨lJ bE.out.symm,below_drewN hA _⟩
theorem Dc (x y:Int) (w:World) (hc:bH (x,y)=true):Calls prog 176 #[.agg #[.int .i64 x,.int .i64 y]] w (Ret (.int .i64 (dJ (x,y))) w):=by
 obtain⟨⟨x1,x2⟩,y1,y2⟩:=dC.1 hc;have e:=(dP hc).1;simp only at e x1 x2 y1 y2;have He:=Tk e;have Hc:=Tk hc;clear e hc;go_enter Tryz.func176,Tryz.ntmps176
 go_wp2_with fail
 refine(iV x y _).mono ?_;rintro e w1 ⟨rfl,hb1⟩;obtain⟨hc1,a7,hz1⟩:=bk hb1;(try simp at hz1)
 have a6:w.heap.size<w1.heap.size:=(by omega);rw[Hc.out];go_wp2;go_ret;exact⟨FQ (by rw[He.out]),((Below.refl _ _).al _).tr hb1⟩
def kJ (rows:List Int) (c:Cl):Bool:=bW rows&&(bH c&&(setOf rows).testBit (dJ c).toNat)
theorem qH (v:Value) (rows:List Int) (x y:Int) (w:World) (h:Rd 1 aZ w v rows) (hc:bH (x,y)=true):Calls prog 175 #[.agg #[v],.agg #[.int .i64 x,.int .i64 y]] w (Ret (.bool (kJ rows (x,y))) w):=by
 obtain⟨A,c,rfl,hc',hm⟩:=h.form;have hA:=((Below.refl w.heap.size w).al (.cells #[.slice A rows.length c] 26)).al (.cells #[.int .i64 x,.int .i64 y] 83);rcases hr:bW rows with _|_
 . have e : kJ rows (x, y) = false := by unfold kJ; rw [hr]; rfl
   rw[e];go_enter func175,ntmps175
   go_wp2_with fail
   refine(fB _ rows _ (h.Tj hA)).mono ?_;rintro e w1 ⟨rfl,hb1⟩;obtain⟨hc1,bC,hz1⟩:=bk hb1;(try simp at hz1)
   have a6:w.heap.size<w1.heap.size:=(by omega);have a7:w.heap.size+1<w1.heap.size:=(by omega);rw[hr];go_wp2;go_ret;exact⟨rfl,hA.tr hb1⟩
 . have a8:=aR.1 hr;obtain⟨⟨x1,x2⟩,y1,y2⟩:=dC.1 hc;simp only at x1 x2 y1 y2;have e:kJ rows (x,y)=(setOf rows).testBit (dJ (x,y)).toNat:=by unfold kJ;rw[hr,hc];simp
   rw[(dP hc).1]at e;obtain⟨x,rfl⟩:=Int.eq_ofNat_of_zero_le x1;obtain⟨y,rfl⟩:=Int.eq_ofNat_of_zero_le y1;rw[show((y:Int)*8+(x:Int)).toNat=8*y+x by omega]at e;rw[e];have bD:=Tk a8;have Hc:=Tk hc;clear a8 e hc;go_enter func175,ntmps175
   go_wp2_with fail
   refine(fB _ rows _ (h.Tj hA)).mono ?_;rintro e w1 ⟨rfl,hb1⟩;obtain⟨hc1,bC,hz1⟩:=bk hb1;(try simp at hz1)
   have a6:w.heap.size<w1.heap.size:=(by omega);have a7:w.heap.size+1<w1.heap.size:=(by omega);rw[hr];go_wp2_with fail
   refine(iV x y _).mono ?_;rintro e w2 ⟨rfl,hb2⟩;obtain⟨hc2,hf2,hz2⟩:=bk hb2;(try simp at hz2)
   have bA:w.heap.size<w2.heap.size:=(by omega);have bB:w.heap.size+1<w2.heap.size:=(by omega);rw[Hc.out];have B2:=(hA.tr hb1).tr hb2;go_wp2_with fail
   refine(eO _ rows x y _ (h.Tj B2) bD (by omega) (by omega)).mono ?_;rintro e w3 ⟨rfl,hb3⟩;go_wp2;go_ret;exact⟨rfl,B2.tr hb3⟩
theorem pQ (x y:Int) (d:Bool) (x' y':Int) (d':Bool) (w:World) (hd:aI (x,y,d)=true) (a6:aI (x',y',d')=true):
 Calls prog 173 #[.agg #[.int .i64 x,.int .i64 y,.bool d],.agg #[.int .i64 x',.int .i64 y',.bool d']] w (Ret (.bool (decide (aS (x,y,d)<aS (x',y',d')))) w):=by
 have D1:=nC hd;have D2:=nC a6;simp only at D1 D2;obtain⟨⟨x1,x2⟩,y1,y2⟩:=D1;obtain⟨⟨u1,u2⟩,v1,v2⟩:=D2;have hA:=((Below.refl w.heap.size w).al (.cells #[.int .i64 x,.int .i64 y,.bool d] 99)).al (.cells #[.int .i64 x',.int .i64 y',.bool d'] 99);obtain⟨B,hB⟩:∃B,B=decide (aS (x,y,d)<aS (x',y',d')):=⟨_,rfl⟩;rw[<-hB];have HB:=Tk hB;have Hd:=Tk hd;have bC:=Tk a6;clear hB hd a6;rcases d with _|_<;>rcases d' with _|_
 all_goals
   go_enter Tryz.func173,Tryz.ntmps173
   go_wp2_with fail
   refine(dD x y _ _).mono ?_;rintro e w1 ⟨rfl,hb1⟩;obtain⟨hc1,bD,hz1⟩:=bk hb1;(try simp at hz1)
   have a7:w.heap.size<w1.heap.size:=(by omega);have a8:w.heap.size+1<w1.heap.size:=(by omega);rw[Hd.out];go_wp2_with fail
   refine(dD x' y' _ _).mono ?_;rintro e w2 ⟨rfl,hb2⟩;obtain⟨hc2,hf2,hz2⟩:=bk hb2;(try simp at hz2)
   have bA:w.heap.size<w2.heap.size:=(by omega);have bB:w.heap.size+1<w2.heap.size:=(by omega);rw[bC.out];go_wp2
   all_goals
     go_ret;refine⟨lJ ?_,(hA.tr hb1).tr hb2⟩;rw[HB.out,Bool.eq_iff_iff];simp[aS];try omega
theorem jG (v:Value) (l:List Dm) (x y:Int) (w:World) (h:Rd 3 aQ w v l):Calls prog 120 #[v,.agg #[.int .i64 x,.int .i64 y]] w (Ret (.int .i64 (nW l (x,y))) w):=by
 obtain⟨A,c,rfl,hc,hm⟩:=h.form;have hA:=((Below.refl w.heap.size w).al (.cells #[.int .i64 x,.int .i64 y] 83));have hx:=Blk.aX w 83 #[.int .i64 x,.int .i64 y];have hD:nW l (x,y)=iQ (x,y) l 0:=rfl;obtain⟨D,bB⟩:=Ti (nW l (x,y));rw[<-bB]at hD⊢;have HD:=Tk hD;clear hD bB;go_enter Tryz.func120,Tryz.ntmps120
 go_wp2;go_loopw [5] (fun s9 wr=>∃k:Nat,k<=l.length/\s9= .int .i64 k/\Hid (iQ (x,y) (l.drop k) k=D)/\wr.cell? ⟨w.heap.size,0,none⟩=some (.int .i64 x)/\wr.cell? ⟨w.heap.size,1,none⟩=some (.int .i64 y)/\w.heap.size<wr.heap.size/\Below w.heap.size w wr) (fun i _=>l.length-(intOf i).toNat)
 case atStart=>exact⟨0,Tp _,rfl,Tk HD.out.symm,hx.cell 0,hx.cell 1,hx.lt,hA⟩
 case round=>
  obtain⟨k,hk,rfl,Hg,z1,z2,bJ,a6⟩:=hrel;clear hx hA;by_cases hlt:k<l.length
  . obtain⟨b,off,rfl,hb,q1,q2,q3⟩:=(h.Tj a6).kE hlt;have hg:=Hg.out;rw[List.drop_eq_getElem_cons hlt]at hg;obtain⟨d,hd⟩:=Ti (l[k]);rw[<-hd]at q1 q2 q3 hg;obtain⟨dx,dy,dn⟩:=d;simp only at q1 q2 q3;rcases a8:aI (dx,dy,dn)with _|_
    . have hg2 : iQ (x, y) (l.drop (k + 1)) (k + 1) = D := by rw [<- hg]; simp only [iQ]; rw [if_neg (by rw [Bg a8]; simp)]
      have HG:=Tk hg2;have a7:=Tk a8;have bF:=Tk hd;clear hg hg2 a8 hd;go_wp2_with fail
      refine(dD dx dy dn _).mono ?_;rintro e w1 ⟨rfl,hb1⟩;obtain⟨hc1,bC,hz1⟩:=bk hb1;(try simp at hz1)
      have bA:w.heap.size<w1.heap.size:=(by omega);rw[a7.out];go_wp2;go_roundw
      case rel=>exact⟨k+1,by omega,by go_num,HG,by rw[hc1 _ _ (by omega)];exact z1,by rw[hc1 _ _ (by omega)];exact z2,by omega,a6.tr hb1⟩
      case measure=>simp[intOf];omega
    . obtain⟨sx,sy,hs⟩:∃sx sy,sec (dx,dy,dn)=(sx,sy):=⟨_,_,rfl⟩;have hh:mJ (dx,dy,dn) (x,y)=(decide ((dx,dy)=(x,y))||decide ((sx,sy)=(x,y))):=by unfold mJ;rw[a8,hs];rfl
      have a7:=Tk a8;have bF:=Tk hd;have Hs:=Tk hs;have Hh:=Tk hh;have HG:=Tk hg;clear a8 hd hs hh hg;go_wp2_with fail
      refine(dD dx dy dn _).mono ?_;rintro e w1 ⟨rfl,hb1⟩;obtain⟨hc1,bC,hz1⟩:=bk hb1;(try simp at hz1)
      have bA:w.heap.size<w1.heap.size:=(by omega);have bD:b<w1.heap.size:=(by omega);rw[a7.out];go_wp2_with fail
      refine(jX dx dy dn _ a7.out).mono ?_;rintro e w2 ⟨rfl,hb2⟩;obtain⟨hc2,hf2,hz2⟩:=bk hb2;(try simp at hz2)
      have bE:w.heap.size<w2.heap.size:=(by omega);rw[Hs.out];go_wp2
      all_goals
        have B2:=(a6.tr hb1).tr hb2;have bK:w2.cell? ⟨w.heap.size,0,none⟩=some (.int .i64 x):=by rw[hc2 _ _ (by omega),hc1 _ _ (by omega)];exact z1
        have bL:w2.cell? ⟨w.heap.size,1,none⟩=some (.int .i64 y):=by rw[hc2 _ _ (by omega),hc1 _ _ (by omega)];exact z2
        have hgo:iQ (x,y) ((dx,dy,dn)::List.drop (k+1) l) k=if mJ (dx,dy,dn) (x,y)=true then(k:Int)else iQ (x,y) (l.drop (k+1)) (k+1):=rfl
        rw[HG.out]at hgo;have bM:w.heap.size≠w2.heap.size:=(by omega);have bN:w.heap.size≠w2.heap.size+1:=(by omega);clear hc1 bC hc2 hf2 z1 z2 q1 q2 q3 HD Hg
        first
          | (go_ret
             rw[if_pos (by rw[Hh.out];simp[*])]at hgo;exact⟨FQ hgo.symm,(B2.al _).al _⟩)
          | (rw [if_neg (by rw [Hh.out]; simp [*])] at hgo
             go_roundw
             case rel=>exact⟨k+1,by omega,by go_num,Tk hgo.symm,by go_simp,by go_simp,by simp;omega,(B2.al _).al _⟩
             case measure=>simp[intOf];omega)
  . obtain rfl : k = l.length := by omega
    have hg:=Hg.out;rw[Tm (Tu _)]at hg;have HG:Hid ((-1:Int)=D):=Tk hg;clear hg;go_wp2;go_ret;exact⟨FQ HG.out,a6⟩
theorem pX:∀x:Bool,(OD x).length=1:=fun _=>rfl
theorem Mt:Row prog 175 4 (.bool false) 1 1:=⟨Tryz.underlying175,by kernel_rfl,rfl,by decide⟩
theorem iE (x y:Int) (I:Nat) (w:World) (hc:bH (x,y)=true) (hI:I=(dJ (x,y)).toNat):Calls prog 176 #[.agg #[.int .i64 x,.int .i64 y]] w (Ret (.int .i64 I) w):=by
 have:=Dc x y w hc;have k:=(dP hc).2.1;rw[show dJ (x,y)=(I:Int) by omega]at this;exact this
theorem iX (v:Value) (rows:List Int) (x y:Int) (s I:Nat) (w:World) (h:Rd 1 aZ w v rows) (hc:bH (x,y)=true) (a6:Hid (dX rows)) (Hs:Hid (s=setOf rows)) (hI:I=(dJ (x,y)).toNat):Calls prog 175 #[.agg #[v],.agg #[.int .i64 x,.int .i64 y]] w (Ret (.bool (s.testBit I)) w):=by
 have:=qH v rows x y w h hc;have e:kJ rows (x,y)=s.testBit I:=by unfold kJ;rw[aR.2 a6.out,hc,hI,Hs.out];simp
 rw[e]at this;exact this
theorem BN (v:Value) (rows:List Int) (x y:Int) (w:World) (h:Rd 1 aZ w v rows) (hc:bH (x,y)=true) (hr:bW rows=false):Calls prog 175 #[.agg #[v],.agg #[.int .i64 x,.int .i64 y]] w (Ret (.bool false) w):=by
 have:=qH v rows x y w h hc;have e:kJ rows (x,y)=false:=by unfold kJ;rw[hr];rfl
 rw[e]at this;exact this
theorem xX {left:Nat} {d:Dm} (hl:left<U64) (h:aI d=true):decide (left&&&aG d=aG d)=(left.testBit (fC d)&&left.testBit (jL d)):=by
 rw[Bool.eq_iff_iff,decide_eq_true_iff,Ty];constructor
 . intro e;exact⟨qV e _ (by rw[aT h];simp),qV e _ (by rw[aT h];simp)⟩
 . rintro⟨h1,h2⟩;apply Nat.eq_of_testBit_eq;intro i;rw[Nat.testBit_and,aT h];by_cases e1:fC d=i
   . rw[<-e1,h1];simp
   . by_cases e2:jL d=i
     . rw[<-e2,h2];simp
     . simp[e1,e2]
def sH (s left:Nat) (u:List Bool):Prop:=u.length=64/\(∀i,left.testBit i=true->s.testBit i=true)/\∀i,∀h:i<u.length,u[i]=(s.testBit i&& !left.testBit i)
theorem sH.start (s:Nat):sH s s (List.replicate 64 false):=⟨by simp,fun i h=>h,fun i h=>by rw[List.getElem_replicate];simp⟩
theorem sH.step {s left:Nat} {u:List Bool} {d:Dm} (h:sH s left u) (hl:left<U64) (hd:aI d=true) (h1:left.testBit (fC d)=true) (h2:left.testBit (jL d)=true):sH s (dE left (aG d)) ((u.set (fC d) true).set (jL d) true):=by
 refine⟨by simp[h.1],fun i hi=>h.2.1 i ?_,fun i hi=> ?_⟩
 . rw[jQ hl (dQ hd),Ty]at hi;exact hi.1
 . rw[jQ hl (dQ hd),aT hd,List.getElem_set,List.getElem_set];by_cases e2:jL d=i
   . rw[if_pos e2];subst e2;rw[h.2.1 _ h2];simp
   . rw[if_neg e2];by_cases e1:fC d=i
     . rw[if_pos e1];subst e1;rw[h.2.1 _ h1];simp
     . rw[if_neg e1,h.2.2 i (by simpa using hi)];simp[e1,e2]
theorem sH.bit {s left : Nat} {u : List Bool} (h : sH s left u) {i : Nat} (hi : i < 64) (hs : s.testBit i = true) : u[i]'(by rw [h.1]; exact hi) = !left.testBit i := by
 rw[h.2.2 i (by rw[h.1];exact hi),hs];rfl
theorem sH.out {s left:Nat} {u:List Bool} (h:sH s left u) {i:Nat} (hs:s.testBit i=false):left.testBit i=false:=by
 rcases e:left.testBit i with _|_
 . rfl
 . rw[h.2.1 i e]at hs;exact hs
theorem NB (v u:Value) (rows:List Int) (l:List Dm) (w:World) (h:Rd 1 aZ w v rows) (h2:Rd 3 aQ w u l) (cD:Hid (dX rows)):Calls prog 119 #[.agg #[v],u] w (Ret (.bool (isPartial rows l)) w):=by
 obtain⟨A,c,rfl,hc,hm⟩:=h.form;obtain⟨A2,c2,rfl,hc2,l7⟩:=h2.form;have hA:=((Below.refl w.heap.size w).al (.cells #[.slice A rows.length c] 26));have hx:=Blk.aX w 26 #[.slice A rows.length c];have hP:Hid ((64:Int)=((64:Nat):Int)):=Tk rfl;have e:isPartial rows l=kS (setOf rows) none l:=by unfold isPartial;rw[aR.2 cD.out];rfl
 obtain⟨R,hR⟩:=Ti (isPartial rows l);rw[<-hR]at e⊢;have HR:=Tk e;clear e hR;have hs:=dW cD.out;obtain⟨s,fO⟩:=Ti (setOf rows);rw[<-fO]at hs;have HR:Hid (kS s none l=R):=Tk (by rw[HR.out,fO]);have fR:=Tk fO;clear fO;go_enter func119,ntmps119
 go_wp2_with (at_make;go_must (refine mQ (enc:=OD) (z0:=false) Mt rfl hA 64 (by decide) (by decide) _ hP.out rfl _ _ rfl rfl rfl ?_);intro w1 hown1 hb1 hg1)
 have hx1:=hx.grown hg1 (by simp);go_loopw [6] (fun s6 wr=>∃(k left:Nat) (q:List Bool),k<=l.length/\s6= .int .i64 k/\left<U64/\Hid (kS left (Ae l k) (l.drop k)=R)/\Hid (∀e,Ae l k=some e->aI e=true)/\Hid (sH s left q)/\aD 4 1 OD w.heap.size wr (.slice (some ⟨w.heap.size+1,0,none⟩) 64 64) q/\Blk wr w.heap.size 26 #[.slice A rows.length c]/\Below w.heap.size w wr) (fun i _=>l.length-(intOf i).toNat)
 case atStart=>exact⟨0,s,_,Tp _,rfl,hs,Tk HR.out,Tk (fun e he=>by cases he),Tk (sH.start s),by simpa using hown1,hx1,hb1⟩
 case round=>
  obtain⟨k,left,q,hk,rfl,bA,Hg,Hp,Hu,hown,bR,bJ⟩:=hrel;have z1:=bR.c1;clear hx hx1 hb1 hg1 hown1;have l8:w.heap.size+1<wr.heap.size:=hown.at_.2.2;by_cases hlt:k<l.length
  . obtain⟨b,off,rfl,hb,q1,q2,q3⟩:=(h2.Tj bJ).kE hlt;have hg:=Hg.out;rw[List.drop_eq_getElem_cons hlt,rU]at hg;obtain⟨d,hd⟩:=Ti (l[k]);rw[<-hd]at q1 q2 q3 hg;obtain⟨x,y,dn⟩:=d;simp only at q1 q2 q3;have fS:(k:Int)<(l.length:Int):=(by omega);have hZ:(0:Int)<=(k:Int):=(by omega);have Bw:Below wr.heap.size wr wr.drew:=(Below.refl _ _).drew;have hz:wr.heap.size<=wr.drew.heap.size:=(by simp);rcases b8:aI (x,y,dn)with _|_
    . rw[b8]at hg;simp only[Bool.false_and]at hg;have HG:=Tk hg;have cE:=Tk hd;have a6:=Tk b8;clear hg hd b8;go_wp2_with fail
      refine rB (fun w'=>w'.cell? ⟨b,off+k*3,none⟩=some (.int .i64 x)/\w'.cell? ⟨b,off+k*3+1,none⟩=some (.int .i64 y)/\w'.cell? ⟨b,off+k*3+2,none⟩=some (.bool dn)) fun hHeld=>(tW 0)<|(tW 1)<|(tW 2)<|(tW 3)<|(tR [4])<|tL fun K hK=>?_
      go_simp
      (first|(go_at_call 172;go_must (refine(dD x y dn _).mono ?_;rintro e wX ⟨rfl,a7⟩;rw[a6.out];obtain⟨bX,bY,bB⟩:=bkn a7 wr.heap.size hz;have hz:=bB;have Bw:=Bw.tr a7);(try go_wp2_with fail)))
      refine tK hK fun hHeld=>?_
      clear hK K;refine(tW 5)<|(tW 6)<|(tU 7)<|(tU 8)<|(tU 9)<|(tU 10)<|(tU 11)<|(tU 12)<|(tU 13)<|(tU 14)<|(tU 15)<|(tU 16)<|(tU 17)<|(tU 18)<|(tU 19)<|(tU 20)<|(tU 21)<|(tW 22)<|tD ?_;go_wp2;go_ret;exact⟨lJ HG.out,bJ.tr Bw⟩
    . rw[b8]at hg;simp only[Bool.true_and]at hg;rcases Nat.eq_zero_or_pos k with rfl|l9
      . rw[BL]at hg;simp only[rF,Bool.and_true]at hg;have a6:=Tk b8;have cE:=Tk hd;have fW:=Tk hg;clear b8 hd hg;simp only[Tq,Tt]at q1 q2 q3;go_wp2_with fail
        refine rB (fun w'=>w'.cell? ⟨b,off,none⟩=some (.int .i64 x)/\w'.cell? ⟨b,off+1,none⟩=some (.int .i64 y)/\w'.cell? ⟨b,off+2,none⟩=some (.bool dn)) fun hHeld=>(tW 0)<|(tW 1)<|(tW 2)<|(tW 3)<|(tR [4])<|tL fun K hK=>?_
        go_simp
        (first|(go_at_call 172;go_must (refine(dD x y dn _).mono ?_;rintro e wX ⟨rfl,a7⟩;rw[a6.out];obtain⟨bX,bY,bB⟩:=bkn a7 wr.heap.size hz;have hz:=bB;have Bw:=Bw.tr a7);(try go_wp2_with fail)))
        refine tK hK fun hHeld=>?_
        clear hK K;refine(tW 5)<|(tW 6)<|(tW 7)<|(tW 8)<|(tW 9)<|(tU 10)<|(tU 11)<|(tU 12)<|(tU 13)<|(tU 14)<|(tU 15)<|(tU 16)<|(tU 17)<|(tU 18)<|(tU 19)<|(tU 20)<|(tW 21)<|(tW 22)<|tD ?_;have bL:=hown.below Bw;have BA:=bJ.tr Bw;have zA:wX.cell? ⟨w.heap.size,0,none⟩=some (.slice A rows.length c):=(Bw.cell (p:=⟨w.heap.size,0,none⟩) (by show w.heap.size<wr.heap.size;omega)).trans z1;have h9:w.heap.size+1<wX.heap.size:=by have:=Bw.size;omega
        have j0:b<wX.heap.size:=by have:=Bw.size;omega
        have fX:w.heap.size<wX.heap.size:=(by omega);have eJ:w.heap.size≠w.heap.size+1:=(by omega);have r1:=hHeld.1;have r2:=hHeld.2.1;have r3:=(by first|exact hHeld.2.2|exact hHeld.2.2.1:wX.cell? _=some (.bool dn));clear bX bY q1 q2 q3 z1;obtain⟨sx,sy,bC⟩:∃sx sy,sec (x,y,dn)=(sx,sy):=⟨_,_,rfl⟩;obtain⟨cF,cG⟩:=dR a6.out;have b5:=xX bA a6.out;obtain⟨bM,bN⟩:=AL a6.out;have cH:fC (x,y,dn)=(dJ (x,y)).toNat:=rfl;have cI:jL (x,y,dn)=(dJ (sx,sy)).toNat:=by unfold jL;rw[bC]
        rw[bC]at cG;simp only at cF;have hstep:=fun h1 h2=>Hu.out.step bA a6.out h1 h2
        have hg2:=fW.out;rw[b5]at hg2;obtain⟨D,hD⟩:=Ti (aG (x,y,dn));obtain⟨I,hI⟩:=Ti (fC (x,y,dn));obtain⟨J,hJ⟩:=Ti (jL (x,y,dn));rw[<-hI]at bM cH hg2 hstep;rw[<-hJ]at bN cI hg2 hstep;rw[<-hD]at hg2 hstep;have eK:I<q.length:=by rw[Hu.out.1];exact bM
        have cJ:J<q.length:=by rw[Hu.out.1];exact bN
        have zI:wX.cell? ⟨w.heap.size+1,I,none⟩=some (.bool q[I]):=by
         have:=bL.slot pX Tv eK 0 (.bool q[I]) rfl;rwa [Tw,Tt]at this
        have zJ:wX.cell? ⟨w.heap.size+1,J,none⟩=some (.bool q[J]):=by
         have:=bL.slot pX Tv cJ 0 (.bool q[J]) rfl;rwa [Tw,Tt]at this
        have cK:=fun hh=>Hu.out.bit bM (i:=I) hh
        have cL:=fun hh=>Hu.out.bit bN (i:=J) hh
        have eL:=fun hh=>Hu.out.out (i:=I) hh
        have eM:=fun hh=>Hu.out.out (i:=J) hh
        obtain⟨qI,bO⟩:=Ti (q[I]);obtain⟨qJ,bP⟩:=Ti (q[J]);rw[<-bO]at zI cK;rw[<-bP]at zJ cL;have fY:=Tk cK;have gA:=Tk cL;have gB:=Tk eL;have gC:=Tk eM;have b6:=Tk hg2;have HST:=Tk hstep;have cM:=Tk cF;have cN:=Tk cG;have cP:=Tk cH;have cQ:=Tk cI;have cR:=Tk bC;have HI:=Tk hI;have HJ:=Tk hJ;have HD:=Tk hD;have j1:=Tk bO;have j2:=Tk bP;clear cK cL eL eM hg2 hstep cF cG cH cI bC b5 hI hJ hD bO bP;have j3:(0:Int)<=(I:Int):=(by omega);have j4:(0:Int)<=(J:Int):=(by omega);have j5:(I:Int)<64:=(by omega);have j6:(J:Int)<64:=(by omega);go_wp2_with fail
        refine(jX x y dn _ a6.out).mono ?_;rintro e w7 ⟨rfl,b9⟩;obtain⟨gD,gF,gK⟩:=bk b9;(try simp at gK)
        have eN:w.heap.size<w7.heap.size:=(by omega);have eP:w.heap.size+1<w7.heap.size:=(by omega);have eR:b<w7.heap.size:=(by omega);rw[cR.out];have B7:=BA.tr b9;have gL:w7.heap.size+1+1<=((w7.alloc (.cells #[.int .i64 x,.int .i64 y] 83)).alloc (.cells #[.int .i64 sx,.int .i64 sy] 83)).heap.size:=(by simp);have j7:w.heap.size<w7.heap.size+1+1:=(by omega);have j8:w.heap.size+1<w7.heap.size+1+1:=(by omega);have j9:w7.heap.size<w7.heap.size+1+1:=(by omega);have kA:w7.heap.size+1<w7.heap.size+1+1:=(by omega);have kB:w.heap.size≠w7.heap.size:=(by omega);have kO:w.heap.size≠w7.heap.size+1:=(by omega);have k0:w.heap.size+1≠w7.heap.size:=(by omega);have k5:w7.heap.size≠w.heap.size+1:=(by omega);have k6:w7.heap.size≠w.heap.size:=(by omega);have k7:w.heap.size+1≠w7.heap.size+1:=(by omega);have k8:w7.heap.size+1≠w.heap.size+1:=(by omega);have eW:=(B7.al (.cells #[.int .i64 x,.int .i64 y] 83)).al (.cells #[.int .i64 sx,.int .i64 sy] 83);have cS:=((bL.below b9).alloc (.cells #[.int .i64 x,.int .i64 y] 83)).alloc (.cells #[.int .i64 sx,.int .i64 sy] 83);go_wp2_with fail
        refine(iX _ rows x y s I _ (h.Tj eW) cM.out cD fR cP.out).mono ?_;rintro e w8 ⟨rfl,cA⟩;obtain⟨gM,gN,gO⟩:=bkn cA _ gL;have B8:=eW.tr cA;rcases e1:s.testBit I with _|_
        . go_wp2;go_ret;exact⟨lJ (by have:=b6.out;rw[gB.out e1]at this;simpa using this),B8⟩
        . go_wp2_with fail
          refine(iX _ rows sx sy s J _ (h.Tj B8) cN.out cD fR cQ.out).mono ?_;rintro e w9 ⟨rfl,cB⟩;obtain⟨gP,gQ,gR⟩:=bkn cB _ gO;have B9:=B8.tr cB;rcases e2:s.testBit J with _|_
          . go_wp2;go_ret;exact⟨lJ (by have:=b6.out;rw[gC.out e2]at this;simpa using this),B9⟩
          . have e5:=Tk (fY.out e1);have e6:=Tk (gA.out e2);go_wp2_with fail
            refine(iE x y I _ cM.out cP.out).mono ?_;rintro e k9 ⟨rfl,bD⟩;obtain⟨cT,cU,cV⟩:=bkn bD _ gR;have e7:=B9.tr bD;rcases qI with _|_
            . go_wp2_with fail
              refine(iE sx sy J _ cN.out cQ.out).mono ?_;rintro e lA ⟨rfl,bE⟩;obtain⟨cW,cX,cY⟩:=bkn bE _ cV;have e8:=e7.tr bE;rcases qJ with _|_
              . go_wp2_with fail
                refine(iE x y I _ cM.out cP.out).mono ?_;rintro e lB ⟨rfl,bF⟩;obtain⟨dL,dT,gS⟩:=bkn bF _ cY;have bK:=((((cS.below cA).below cB).below bD).below bE).below bF;have eA:=((((((((bR.bl Bw).bl b9).alloc (.cells #[.int .i64 x,.int .i64 y] 83)).alloc (.cells #[.int .i64 sx,.int .i64 sy] 83)).bl cA).bl cB).bl bD).bl bE).bl bF;have gT:=e8.tr bF;have b7:=bK.free;have bS:=bK.kI pX eK (y:=true) rfl;have e9:Hid (left.testBit I=true):=Tk (by have k:=e5.out;simpa using k);have fD:Hid (left.testBit J=true):=Tk (by have k:=e6.out;simpa using k);clear gF gN gQ cU cX dT;go_wp2_with fail
                refine(iE sx sy J _ cN.out cQ.out).mono ?_;rintro e lO ⟨rfl,bU⟩;have a8:=bS.below bU;have eC:=(eA.far eJ _).bl bU;have gW:=(gT.st ⟨w.heap.size+1,I,none⟩ (.bool true) (Tx _)).tr bU;obtain⟨lR,l4⟩:=a8.Cv pX (k:=J) (by rw[Tn];exact cJ);have fL:=a8.free;clear gD gM gP cT cW dL zI zJ zA b7;go_wp2;go_roundw
                case rel=>exact⟨0+1,dE left D,(q.set I true).set J true,by omega,by go_num,eD bA,by rw[gU l _ hlt,<-cE.out];exact Tk (by have:=b6.out;rw[e9.out,fD.out]at this;simpa using this),Tk (fun e he=>by rw[gU l _ hlt,<-cE.out]at he;injection he with he;rw[<-he];exact a6.out),Tk (HST.out e9.out fD.out),a8.kI pX (by rw[Tn];exact cJ) rfl,eC.far eJ _,gW.st _ _ (Tx _)⟩
                case measure=>simp[intOf];omega
              . go_wp2;go_ret;exact⟨lJ (by have:=b6.out;have k:=e6.out;rw[show left.testBit J=false by simpa using k]at this;simpa using this),e8⟩
            . go_wp2;go_ret;exact⟨lJ (by have:=b6.out;have k:=e5.out;rw[show left.testBit I=false by simpa using k]at this;simpa using this),e7⟩
      . obtain ⟨j, rfl⟩ : ∃ j, k = j + 1 := ⟨k - 1, by omega⟩;have hj:j<l.length:=(by omega);rw[gU l j hj]at hg;have eE:=Hp.out l[j] (gU l j hj);obtain⟨b',l5,e',hb',p1,p2,p3⟩:=(h2.Tj bJ).kE hj;injection e' with e';injection e' with e1 e2 e3;subst e1;subst e2;simp only[rF]at hg;obtain⟨dp,gX⟩:=Ti (l[j]);rw[<-gX]at p1 p2 p3 hg eE;obtain⟨px,py,pd⟩:=dp;simp only at p1 p2 p3;have cC:=Tk eE;have mA:=Tk gX;clear eE gX e3;have mB:IntKind.i64.wrap (j:Int)=(j:Int):=IntWalk.i64_in _ (by omega);have mC:(0:Int)<=(j:Int):=(by omega);have mL:(j:Int)<(l.length:Int):=(by omega);have l6:(0:Int)<=(j:Int)+1:=(by omega);have gY:(j:Int)+1<(l.length:Int):=(by omega);clear hZ fS;rcases eI:decide (aS (px,py,pd)<aS (x,y,dn))with _|_
        . rw[eI]at hg;simp only[Bool.and_false,Bool.false_and]at hg;have a6:=Tk b8;have cE:=Tk hd;have HG:=Tk hg;have fN:=Tk eI;clear b8 hd hg eI;go_wp2_with fail
          refine rB (fun w'=>w'.cell? ⟨b,off+(j+1)*3,none⟩=some (.int .i64 x)/\w'.cell? ⟨b,off+(j+1)*3+1,none⟩=some (.int .i64 y)/\w'.cell? ⟨b,off+(j+1)*3+2,none⟩=some (.bool dn)/\w'.cell? ⟨b,off+j*3,none⟩=some (.int .i64 px)/\w'.cell? ⟨b,off+j*3+1,none⟩=some (.int .i64 py)/\w'.cell? ⟨b,off+j*3+2,none⟩=some (.bool pd)) fun hHeld=>(tW 0)<|(tW 1)<|(tW 2)<|(tW 3)<|(tR [4])<|tL fun K hK=>?_
          go_simp
          (first|(go_at_call 172;go_must (refine(dD x y dn _).mono ?_;rintro e wX ⟨rfl,a7⟩;rw[a6.out];obtain⟨bX,bY,bB⟩:=bkn a7 wr.heap.size hz;have hz:=bB;have Bw:=Bw.tr a7);(try go_wp2_with fail))|(go_at_call 173;go_must (refine(pQ px py pd x y dn _ cC.out a6.out).mono ?_;rintro e wX ⟨rfl,a7⟩;rw[fN.out];obtain⟨bX,bY,bB⟩:=bkn a7 wr.heap.size hz;have hz:=bB;have Bw:=Bw.tr a7);(try go_wp2_with fail)))
          refine tK hK fun hHeld=>?_
          clear hK K;refine(tW 5)<|(tW 6)<|(tW 7)<|(tW 8)<|(tW 9)<|(tW 10)<|(tW 11)<|(tW 12)<|(tW 13)<|(tW 14)<|(tW 15)<|(tW 16)<|(tW 17)<|(tW 18)<|(tR [19])<|tL fun K hK=>?_
          go_simp
          (first|(go_at_call 172;go_must (refine(dD x y dn _).mono ?_;rintro e wX ⟨rfl,a7⟩;rw[a6.out];obtain⟨bX,bY,bB⟩:=bkn a7 wr.heap.size hz;have hz:=bB;have Bw:=Bw.tr a7);(try go_wp2_with fail))|(go_at_call 173;go_must (refine(pQ px py pd x y dn _ cC.out a6.out).mono ?_;rintro e wX ⟨rfl,a7⟩;rw[fN.out];obtain⟨bX,bY,bB⟩:=bkn a7 wr.heap.size hz;have hz:=bB;have Bw:=Bw.tr a7);(try go_wp2_with fail)))
          refine tK hK fun hHeld=>?_
          clear hK K;refine(tW 20)<|(tW 21)<|(tW 22)<|tD ?_;go_wp2;go_ret;exact⟨lJ HG.out,bJ.tr Bw⟩
        . rw[eI]at hg;simp only[Bool.and_true]at hg;have a6:=Tk b8;have cE:=Tk hd;have fW:=Tk hg;have fN:=Tk eI;clear b8 hd hg eI;go_wp2_with fail
          refine rB (fun w'=>w'.cell? ⟨b,off+(j+1)*3,none⟩=some (.int .i64 x)/\w'.cell? ⟨b,off+(j+1)*3+1,none⟩=some (.int .i64 y)/\w'.cell? ⟨b,off+(j+1)*3+2,none⟩=some (.bool dn)/\w'.cell? ⟨b,off+j*3,none⟩=some (.int .i64 px)/\w'.cell? ⟨b,off+j*3+1,none⟩=some (.int .i64 py)/\w'.cell? ⟨b,off+j*3+2,none⟩=some (.bool pd)) fun hHeld=>(tW 0)<|(tW 1)<|(tW 2)<|(tW 3)<|(tR [4])<|tL fun K hK=>?_
          go_simp
          (first|(go_at_call 172;go_must (refine(dD x y dn _).mono ?_;rintro e wX ⟨rfl,a7⟩;rw[a6.out];obtain⟨bX,bY,bB⟩:=bkn a7 wr.heap.size hz;have hz:=bB;have Bw:=Bw.tr a7);(try go_wp2_with fail))|(go_at_call 173;go_must (refine(pQ px py pd x y dn _ cC.out a6.out).mono ?_;rintro e wX ⟨rfl,a7⟩;rw[fN.out];obtain⟨bX,bY,bB⟩:=bkn a7 wr.heap.size hz;have hz:=bB;have Bw:=Bw.tr a7);(try go_wp2_with fail)))
          refine tK hK fun hHeld=>?_
          clear hK K;refine(tW 5)<|(tW 6)<|(tW 7)<|(tW 8)<|(tW 9)<|(tW 10)<|(tW 11)<|(tW 12)<|(tW 13)<|(tW 14)<|(tW 15)<|(tW 16)<|(tW 17)<|(tW 18)<|(tR [19])<|tL fun K hK=>?_
          go_simp
          (first|(go_at_call 172;go_must (refine(dD x y dn _).mono ?_;rintro e wX ⟨rfl,a7⟩;rw[a6.out];obtain⟨bX,bY,bB⟩:=bkn a7 wr.heap.size hz;have hz:=bB;have Bw:=Bw.tr a7);(try go_wp2_with fail))|(go_at_call 173;go_must (refine(pQ px py pd x y dn _ cC.out a6.out).mono ?_;rintro e wX ⟨rfl,a7⟩;rw[fN.out];obtain⟨bX,bY,bB⟩:=bkn a7 wr.heap.size hz;have hz:=bB;have Bw:=Bw.tr a7);(try go_wp2_with fail)))
          refine tK hK fun hHeld=>?_
          clear hK K;refine(tW 20)<|(tW 21)<|(tW 22)<|tD ?_;have bL:=hown.below Bw;have BA:=bJ.tr Bw;have zA:wX.cell? ⟨w.heap.size,0,none⟩=some (.slice A rows.length c):=(Bw.cell (p:=⟨w.heap.size,0,none⟩) (by show w.heap.size<wr.heap.size;omega)).trans z1;have h9:w.heap.size+1<wX.heap.size:=by have:=Bw.size;omega
          have j0:b<wX.heap.size:=by have:=Bw.size;omega
          have fX:w.heap.size<wX.heap.size:=(by omega);have eJ:w.heap.size≠w.heap.size+1:=(by omega);have r1:=hHeld.1;have r2:=hHeld.2.1;have r3:=(by first|exact hHeld.2.2|exact hHeld.2.2.1:wX.cell? _=some (.bool dn));clear bX bY q1 q2 q3 z1;obtain⟨sx,sy,bC⟩:∃sx sy,sec (x,y,dn)=(sx,sy):=⟨_,_,rfl⟩;obtain⟨cF,cG⟩:=dR a6.out;have b5:=xX bA a6.out;obtain⟨bM,bN⟩:=AL a6.out;have cH:fC (x,y,dn)=(dJ (x,y)).toNat:=rfl;have cI:jL (x,y,dn)=(dJ (sx,sy)).toNat:=by unfold jL;rw[bC]
          rw[bC]at cG;simp only at cF;have hstep:=fun h1 h2=>Hu.out.step bA a6.out h1 h2
          have hg2:=fW.out;rw[b5]at hg2;obtain⟨D,hD⟩:=Ti (aG (x,y,dn));obtain⟨I,hI⟩:=Ti (fC (x,y,dn));obtain⟨J,hJ⟩:=Ti (jL (x,y,dn));rw[<-hI]at bM cH hg2 hstep;rw[<-hJ]at bN cI hg2 hstep;rw[<-hD]at hg2 hstep;have eK:I<q.length:=by rw[Hu.out.1];exact bM
          have cJ:J<q.length:=by rw[Hu.out.1];exact bN
          have zI:wX.cell? ⟨w.heap.size+1,I,none⟩=some (.bool q[I]):=by
           have:=bL.slot pX Tv eK 0 (.bool q[I]) rfl;rwa [Tw,Tt]at this
          have zJ:wX.cell? ⟨w.heap.size+1,J,none⟩=some (.bool q[J]):=by
           have:=bL.slot pX Tv cJ 0 (.bool q[J]) rfl;rwa [Tw,Tt]at this
          have cK:=fun hh=>Hu.out.bit bM (i:=I) hh
          have cL:=fun hh=>Hu.out.bit bN (i:=J) hh
          have eL:=fun hh=>Hu.out.out (i:=I) hh
          have eM:=fun hh=>Hu.out.out (i:=J) hh
          obtain⟨qI,bO⟩:=Ti (q[I]);obtain⟨qJ,bP⟩:=Ti (q[J]);rw[<-bO]at zI cK;rw[<-bP]at zJ cL;have fY:=Tk cK;have gA:=Tk cL;have gB:=Tk eL;have gC:=Tk eM;have b6:=Tk hg2;have HST:=Tk hstep;have cM:=Tk cF;have cN:=Tk cG;have cP:=Tk cH;have cQ:=Tk cI;have cR:=Tk bC;have HI:=Tk hI;have HJ:=Tk hJ;have HD:=Tk hD;have j1:=Tk bO;have j2:=Tk bP;clear cK cL eL eM hg2 hstep cF cG cH cI bC b5 hI hJ hD bO bP;have j3:(0:Int)<=(I:Int):=(by omega);have j4:(0:Int)<=(J:Int):=(by omega);have j5:(I:Int)<64:=(by omega);have j6:(J:Int)<64:=(by omega);go_wp2_with fail
          refine(jX x y dn _ a6.out).mono ?_;rintro e w7 ⟨rfl,b9⟩;obtain⟨gD,gF,gK⟩:=bk b9;(try simp at gK)
          have eN:w.heap.size<w7.heap.size:=(by omega);have eP:w.heap.size+1<w7.heap.size:=(by omega);have eR:b<w7.heap.size:=(by omega);rw[cR.out];have B7:=BA.tr b9;have gL:w7.heap.size+1+1<=((w7.alloc (.cells #[.int .i64 x,.int .i64 y] 83)).alloc (.cells #[.int .i64 sx,.int .i64 sy] 83)).heap.size:=(by simp);have j7:w.heap.size<w7.heap.size+1+1:=(by omega);have j8:w.heap.size+1<w7.heap.size+1+1:=(by omega);have j9:w7.heap.size<w7.heap.size+1+1:=(by omega);have kA:w7.heap.size+1<w7.heap.size+1+1:=(by omega);have kB:w.heap.size≠w7.heap.size:=(by omega);have kO:w.heap.size≠w7.heap.size+1:=(by omega);have k0:w.heap.size+1≠w7.heap.size:=(by omega);have k5:w7.heap.size≠w.heap.size+1:=(by omega);have k6:w7.heap.size≠w.heap.size:=(by omega);have k7:w.heap.size+1≠w7.heap.size+1:=(by omega);have k8:w7.heap.size+1≠w.heap.size+1:=(by omega);have eW:=(B7.al (.cells #[.int .i64 x,.int .i64 y] 83)).al (.cells #[.int .i64 sx,.int .i64 sy] 83);have cS:=((bL.below b9).alloc (.cells #[.int .i64 x,.int .i64 y] 83)).alloc (.cells #[.int .i64 sx,.int .i64 sy] 83);go_wp2_with fail
          refine(iX _ rows x y s I _ (h.Tj eW) cM.out cD fR cP.out).mono ?_;rintro e w8 ⟨rfl,cA⟩;obtain⟨gM,gN,gO⟩:=bkn cA _ gL;have B8:=eW.tr cA;rcases e1:s.testBit I with _|_
          . go_wp2;go_ret;exact⟨lJ (by have:=b6.out;rw[gB.out e1]at this;simpa using this),B8⟩
          . go_wp2_with fail
            refine(iX _ rows sx sy s J _ (h.Tj B8) cN.out cD fR cQ.out).mono ?_;rintro e w9 ⟨rfl,cB⟩;obtain⟨gP,gQ,gR⟩:=bkn cB _ gO;have B9:=B8.tr cB;rcases e2:s.testBit J with _|_
            . go_wp2;go_ret;exact⟨lJ (by have:=b6.out;rw[gC.out e2]at this;simpa using this),B9⟩
            . have e5:=Tk (fY.out e1);have e6:=Tk (gA.out e2);go_wp2_with fail
              refine(iE x y I _ cM.out cP.out).mono ?_;rintro e k9 ⟨rfl,bD⟩;obtain⟨cT,cU,cV⟩:=bkn bD _ gR;have e7:=B9.tr bD;rcases qI with _|_
              . go_wp2_with fail
                refine(iE sx sy J _ cN.out cQ.out).mono ?_;rintro e lA ⟨rfl,bE⟩;obtain⟨cW,cX,cY⟩:=bkn bE _ cV;have e8:=e7.tr bE;rcases qJ with _|_
                . go_wp2_with fail
                  refine(iE x y I _ cM.out cP.out).mono ?_;rintro e lB ⟨rfl,bF⟩;obtain⟨dL,dT,gS⟩:=bkn bF _ cY;have bK:=((((cS.below cA).below cB).below bD).below bE).below bF;have eA:=((((((((bR.bl Bw).bl b9).alloc (.cells #[.int .i64 x,.int .i64 y] 83)).alloc (.cells #[.int .i64 sx,.int .i64 sy] 83)).bl cA).bl cB).bl bD).bl bE).bl bF;have gT:=e8.tr bF;have b7:=bK.free;have bS:=bK.kI pX eK (y:=true) rfl;have e9:Hid (left.testBit I=true):=Tk (by have k:=e5.out;simpa using k);have fD:Hid (left.testBit J=true):=Tk (by have k:=e6.out;simpa using k);clear gF gN gQ cU cX dT;go_wp2_with fail
                  refine(iE sx sy J _ cN.out cQ.out).mono ?_;rintro e lO ⟨rfl,bU⟩;have a8:=bS.below bU;have eC:=(eA.far eJ _).bl bU;have gW:=(gT.st ⟨w.heap.size+1,I,none⟩ (.bool true) (Tx _)).tr bU;obtain⟨lR,l4⟩:=a8.Cv pX (k:=J) (by rw[Tn];exact cJ);have fL:=a8.free;clear gD gM gP cT cW dL zI zJ zA b7;go_wp2;go_roundw
                  case rel=>exact⟨(j+1)+1,dE left D,(q.set I true).set J true,by omega,by go_num,eD bA,by rw[gU l _ hlt,<-cE.out];exact Tk (by have:=b6.out;rw[e9.out,fD.out]at this;simpa using this),Tk (fun e he=>by rw[gU l _ hlt,<-cE.out]at he;injection he with he;rw[<-he];exact a6.out),Tk (HST.out e9.out fD.out),a8.kI pX (by rw[Tn];exact cJ) rfl,eC.far eJ _,gW.st _ _ (Tx _)⟩
                  case measure=>simp[intOf];omega
                . go_wp2;go_ret;exact⟨lJ (by have:=b6.out;have k:=e6.out;rw[show left.testBit J=false by simpa using k]at this;simpa using this),e8⟩
              . go_wp2;go_ret;exact⟨lJ (by have:=b6.out;have k:=e5.out;rw[show left.testBit I=false by simpa using k]at this;simpa using this),e7⟩
  . obtain rfl : k = l.length := by omega
    have hg:=Hg.out;rw[Tm (Tu _)]at hg;have HG:=Tk hg;clear hg;go_wp2_with fail
    refine(fB _ rows _ (h.Tj bJ)).mono ?_;rintro e w1 ⟨rfl,hb1⟩;obtain⟨hc1,mN,hz1⟩:=bk hb1;(try simp at hz1)
    have hE:w.heap.size<w1.heap.size:=(by omega);rw[aR.2 cD.out];go_wp2;go_ret;exact⟨lJ HG.out,bJ.tr hb1⟩
theorem O5 (v u:Value) (rows:List Int) (l:List Dm) (w:World) (h:Rd 1 aZ w v rows) (h2:Rd 3 aQ w u l) (hr:bW rows=false):Calls prog 119 #[.agg #[v],u] w (Ret (.bool false) w):=by
 obtain⟨A,c,rfl,hc,hm⟩:=h.form;obtain⟨A2,c2,rfl,hc2,b6⟩:=h2.form;have hA:=((Below.refl w.heap.size w).al (.cells #[.slice A rows.length c] 26));have hx:=Blk.aX w 26 #[.slice A rows.length c];have bP:Hid ((64:Int)=((64:Nat):Int)):=Tk rfl;have Hr:=Tk hr;clear hr;go_enter func119,ntmps119
 go_wp2_with (at_make;go_must (refine mQ (enc:=OD) (z0:=false) Mt rfl hA 64 (by decide) (by decide) _ bP.out rfl _ _ rfl rfl rfl ?_);intro w1 hown1 hb1 hg1)
 have hx1:=hx.grown hg1 (by simp);have z1:=hx1.c1;have b7:=hx1.lt;have hb:∀b,b<w.heap.size->b<w1.heap.size:=fun b hb=>by omega
 refine wp_loop_rounds 1 ?_;rw[rounds_succ];by_cases hl:0<l.length
 . obtain⟨b,off,rfl,hb,q1,q2,q3⟩:=(h2.Tj hb1).kE hl;simp only[Tq,Tt]at q1 q2 q3;obtain⟨d,hd⟩:=Ti (l[0]);rw[<-hd]at q1 q2 q3;obtain⟨x,y,dn⟩:=d;simp only at q1 q2 q3;have bR:((0:Nat):Int)<(l.length:Int):=(by omega);have bE:(0:Int)<(l.length:Int):=(by omega);obtain⟨wr,hwr⟩:=Ti w1;subst hwr;have Bw:Below wr.heap.size wr wr.drew:=(Below.refl _ _).drew;have hz:wr.heap.size<=wr.drew.heap.size:=(by simp);clear hd;rcases bA:aI (x,y,dn)with _|_
   . have a6:=Tk bA;clear bA;go_wp2_with fail
     refine rB (fun w'=>w'.cell? ⟨b,off,none⟩=some (.int .i64 x)/\w'.cell? ⟨b,off+1,none⟩=some (.int .i64 y)/\w'.cell? ⟨b,off+2,none⟩=some (.bool dn)) fun hHeld=>(tW 0)<|(tW 1)<|(tW 2)<|(tW 3)<|(tR [4])<|tL fun K hK=>?_
     go_simp
     (first|(go_at_call 172;go_must (refine(dD x y dn _).mono ?_;rintro e wX ⟨rfl,a7⟩;rw[a6.out];obtain⟨bF,bJ,bB⟩:=bkn a7 wr.heap.size hz;have hz:=bB;have Bw:=Bw.tr a7);(try go_wp2_with fail)))
     refine tK hK fun hHeld=>?_
     clear hK K;refine(tW 5)<|(tW 6)<|(tU 7)<|(tU 8)<|(tU 9)<|(tU 10)<|(tU 11)<|(tU 12)<|(tU 13)<|(tU 14)<|(tU 15)<|(tU 16)<|(tU 17)<|(tU 18)<|(tU 19)<|(tU 20)<|(tU 21)<|(tW 22)<|tD ?_;go_wp2;go_ret;exact⟨rfl,hb1.tr Bw⟩
   . have a6:=Tk bA;clear bA;go_wp2_with fail
     refine rB (fun w'=>w'.cell? ⟨b,off,none⟩=some (.int .i64 x)/\w'.cell? ⟨b,off+1,none⟩=some (.int .i64 y)/\w'.cell? ⟨b,off+2,none⟩=some (.bool dn)) fun hHeld=>(tW 0)<|(tW 1)<|(tW 2)<|(tW 3)<|(tR [4])<|tL fun K hK=>?_
     go_simp
     (first|(go_at_call 172;go_must (refine(dD x y dn _).mono ?_;rintro e wX ⟨rfl,a7⟩;rw[a6.out];obtain⟨bF,bJ,bB⟩:=bkn a7 wr.heap.size hz;have hz:=bB;have Bw:=Bw.tr a7);(try go_wp2_with fail)))
     refine tK hK fun hHeld=>?_
     clear hK K;refine(tW 5)<|(tW 6)<|(tW 7)<|(tW 8)<|(tW 9)<|(tU 10)<|(tU 11)<|(tU 12)<|(tU 13)<|(tU 14)<|(tU 15)<|(tU 16)<|(tU 17)<|(tU 18)<|(tU 19)<|(tU 20)<|(tW 21)<|(tW 22)<|tD ?_;have r1:=hHeld.1;have r2:=hHeld.2.1;have r3:=hHeld.2.2;have BA:=hb1.tr Bw;have zA:wX.cell? ⟨w.heap.size,0,none⟩=some (.slice A rows.length c):=(Bw.cell (p:=⟨w.heap.size,0,none⟩) (by show w.heap.size<wr.heap.size;omega)).trans z1;have b8:b<wX.heap.size:=by have:=Bw.size;omega
     have bS:w.heap.size<wX.heap.size:=by have:=Bw.size;omega
     clear bF bJ q1 q2 q3 z1;obtain⟨bC,bU⟩:=dR a6.out;obtain⟨sx,sy,a8⟩:∃sx sy,sec (x,y,dn)=(sx,sy):=⟨_,_,rfl⟩;simp only at bC;have bX:=Tk bC;have bD:=Tk a8;clear bC bU a8;go_wp2_with fail
     refine(jX x y dn _ a6.out).mono ?_;rintro e w7 ⟨rfl,bK⟩;obtain⟨b9,cA,bY⟩:=bk bK;(try simp at bY)
     have bL:w.heap.size<w7.heap.size:=(by omega);have bM:b<w7.heap.size:=(by omega);rw[bD.out];have B7:=BA.tr bK;have cB:w.heap.size<w7.heap.size+1+1:=(by omega);have cC:w.heap.size≠w7.heap.size:=(by omega);have cD:w.heap.size≠w7.heap.size+1:=(by omega);have bN:=(B7.al (.cells #[.int .i64 x,.int .i64 y] 83)).al (.cells #[.int .i64 sx,.int .i64 sy] 83);go_wp2_with fail
     refine(BN _ rows x y _ (h.Tj bN) bX.out Hr.out).mono ?_;rintro e w8 ⟨rfl,b5⟩;go_wp2;go_ret;exact⟨rfl,bN.tr b5⟩
 . have hl0 : l.length = 0 := by omega
   obtain rfl:l=[]:=List.length_eq_zero_iff.1 hl0;clear hl0 hl hb;go_wp2_with fail
   refine(fB _ rows _ (h.Tj hb1)).mono ?_;rintro e w2 ⟨rfl,hb2⟩;obtain⟨hc2,hf2,hz2⟩:=bk hb2;(try simp at hz2)
   have bO:w.heap.size<w2.heap.size:=(by omega);rw[Hr.out];go_wp2;go_ret;exact⟨rfl,hb1.tr hb2⟩
theorem xI (v u:Value) (rows:List Int) (l:List Dm) (w:World) (h:Rd 1 aZ w v rows) (h2:Rd 3 aQ w u l):Calls prog 119 #[.agg #[v],u] w (Ret (.bool (isPartial rows l)) w):=by
 rcases hr:bW rows with _|_
 . have e : isPartial rows l = false := by unfold isPartial; rw [hr]; rfl
   rw[e];exact O5 v u rows l w h h2 hr
 . exact NB v u rows l w h h2 (Tk (aR.1 hr))
end Go.Proofs.YtjijonhkofhikaaGreatDoor
