/- Dominoes as sets and in order; IsPartial of the program: the walks. Conditions: valid dominoes where said. IsPartial of the program: the walk. No conditions but sizes. What a floor's lines show: plain laws of dominoes over cells and of partial coverings. DominoAt of both sides; HasCell, CellIndex, IsDominoBefore of the reference: the walks. No conditions but sizes and validity where said. CellIndex, HasCell, IsDominoBefore, DominoAt of the reference: the walks. No conditions but sizes and validity where said. IsPartial of the reference: the walk. No conditions but sizes. IsPartial of the reference at any region. No conditions but sizes.. Conditions, where there are any, stand in the statements. -/
import Derived.Test.YtljfoohaapckeaaGreatDoorDK3
import Derived.Test.YtljfoohaapckeaaGreatDoorDK2
import Derived.Deep.RegionHeld3
import Derived.Deep.DeepCutAuto
open _root_.Nat (zero_le zero_mul add_zero le_refl one_pos mul_one le_succ)
open _root_.Bool (and_eq_true)
open _root_.Go.Proofs.Tryz (prog func194 ntmps194 func108 ntmps108 func164 ntmps164 func161 ntmps161 func104 ntmps104)
namespace Go.Proofs.YtljfoohaapckeaaGreatDoor
open Go.ChangeShapes Go.WideShapes Go.ChangeAt Go.RowKit
set_option linter.unusedVariables false
set_option maxHeartbeats 4000000
set_option maxRecDepth 100000
def aP (d:Dm):Int:=2*(d.2.1*8+d.1)+if d.2.2 then 1 else 0
def dM (d:Dm):Nat:=(cO (d.1,d.2.1)).toNat
def fU (d:Dm):Nat:=(cO (sec d)).toNat
def aK (d:Dm):Nat:=rD (rD 0 (dM d)) (fU d)
theorem rT {d:Dm} (h:aH d=true):dM d<64/\fU d<64:=by
 have h1:aV (d.1,d.2.1)=true:=by unfold aH at h;rw[and_eq_true]at h;exact h.1
 have h2:aV (sec d)=true:=by unfold aH at h;rw[and_eq_true]at h;exact h.2
 have a:=dG h1;have b:=dG h2;unfold dM fU;omega
theorem mH:0<U64:=by unfold U64;decide
theorem eB {d:Dm} (h:aH d=true):aK d<U64:=by
 obtain⟨a,b⟩:=rT h;exact Cj (Cj mH a) b
theorem AY (x y:Int) (d:Bool) (w:World) (hd:aH (x,y,d)=true):Calls prog 194 #[.agg #[.int .i64 x,.int .i64 y,.bool d]] w (Ret (.int .i64 (aP (x,y,d))) w):=by
 have D1:=lC hd;simp only at D1;obtain⟨⟨x1,x2⟩,y1,y2⟩:=D1;have hc:aV (x,y)=true:=by unfold aH at hd;rw[and_eq_true]at hd;exact hd.1
 have e:=(dG hc).1;simp only at e;have He:=OA e;clear e hc;cases d
 . go_enter func194,ntmps194
   go_wp2_with fail
   refine(lF x y _).mono ?_;rintro e w1 ⟨rfl,hb1⟩;obtain⟨hc1,hf1,hz1⟩:=bk hb1;(try simp at hz1)
   have hy1_0:w.heap.size<w1.heap.size:=(by omega);rw[He.out];go_wp2;go_ret;exact⟨Gb (by simp[aP]),((Below.refl _ _).al _).tr hb1⟩
 . go_enter func194,ntmps194
   go_wp2_with fail
   refine(lF x y _).mono ?_;rintro e w1 ⟨rfl,hb1⟩;obtain⟨hc1,hf1,hz1⟩:=bk hb1;(try simp at hz1)
   have hy1_0:w.heap.size<w1.heap.size:=(by omega);rw[He.out];go_wp2;go_ret;exact⟨Gb (by simp[aP]),((Below.refl _ _).al _).tr hb1⟩
theorem J4 {d:Dm} (h:aH d=true):0<=aP d/\aP d<=127:=by
 have D1:=lC h;unfold aP;split<;>omega
theorem yE (x y:Int) (d:Bool) (w:World) (hd:aH (x,y,d)=true):Calls prog 142 #[.agg #[.int .i64 x,.int .i64 y,.bool d]] w (Ret (.bool true) w):=by
 have:=aW x y d w;rw[hd]at this;exact this
theorem yU (x y:Int) (d:Bool) (x' y':Int) (d':Bool) (w:World) (hd:aH (x,y,d)=true) (hd':aH (x',y',d')=true):
 Calls prog 166 #[.agg #[.int .i64 x,.int .i64 y,.bool d],.agg #[.int .i64 x',.int .i64 y',.bool d']] w (Ret (.bool (decide (aP (x,y,d)<aP (x',y',d')))) w):=by
 have hA:=((Below.refl w.heap.size w).al (.cells #[.int .i64 x,.int .i64 y,.bool d] 60)).al (.cells #[.int .i64 x',.int .i64 y',.bool d'] 60);have hz:w.heap.size+1+1<=((w.alloc (.cells #[.int .i64 x,.int .i64 y,.bool d] 60)).alloc (.cells #[.int .i64 x',.int .i64 y',.bool d'] 60)).drew.heap.size:=(by simp);have Bacc:=hA.drew;have Hd:=OA hd;have Hd':=OA hd';clear hd hd';have hp0:w.heap.size<w.heap.size+1+1:=(by omega);have hp1:w.heap.size+1<w.heap.size+1+1:=(by omega);go_enter Tryz.func166,Tryz.ntmps166
 go_wp2_with fail
 go_region_held3 (fun w'=>w'.cell? ⟨w.heap.size,0,none⟩=some (.int .i64 x)/\w'.cell? ⟨w.heap.size,1,none⟩=some (.int .i64 y)/\w'.cell? ⟨w.heap.size,2,none⟩=some (.bool d)/\w'.cell? ⟨w.heap.size+1,0,none⟩=some (.int .i64 x')/\w'.cell? ⟨w.heap.size+1,1,none⟩=some (.int .i64 y')/\w'.cell? ⟨w.heap.size+1,2,none⟩=some (.bool d')) (go_keep) (first|(go_at_call 142;go_must (refine(yE _ _ _ _ (by first|exact Hd.out|exact Hd'.out)).mono ?_;rintro e wX ⟨rfl,hbX⟩;obtain⟨hcX,hfX,hzX⟩:=bkn hbX (w.heap.size+1+1) hz;have hz:=hzX;have Bacc:=Bacc.tr hbX))|(go_at_call 194;go_must (refine(AY _ _ _ _ (by first|exact Hd.out|exact Hd'.out)).mono ?_;rintro e wX ⟨rfl,hbX⟩;obtain⟨hcX,hfX,hzX⟩:=bkn hbX (w.heap.size+1+1) hz;have hz:=hzX;have Bacc:=Bacc.tr hbX)))
 go_wp2;go_ret;exact⟨rfl,Bacc⟩
theorem J5 (S:Int) (s:Nat) (x y:Int) (w:World) (hS:S=(s:Int)) (hs:s<U64) (hc:aV (x,y)=true):Calls prog 190 #[.int .u64 S,.agg #[.int .i64 x,.int .i64 y]] w (Ret (.int .u64 (rD s (cO (x,y)).toNat:Nat)) w):=by
 subst hS;exact J2 s x y w hs hc
theorem eG (x y:Int) (d:Bool) (w:World) (hd:aH (x,y,d)=true):Calls prog 143 #[.agg #[.int .i64 x,.int .i64 y,.bool d]] w (Ret (.int .u64 (aK (x,y,d):Nat)) w):=by
 have h1:aV (x,y)=true:=by unfold aH at hd;rw[and_eq_true]at hd;exact hd.1
 have h2:aV (sec (x,y,d))=true:=by unfold aH at hd;rw[and_eq_true]at hd;exact hd.2
 have hI:=(rT hd).1;have hs1:rD 0 (dM (x,y,d))<U64:=Cj mH hI;have e:aK (x,y,d)=rD (rD 0 (cO (x,y)).toNat) (cO (sec (x,y,d))).toNat:=rfl;have hs1':rD 0 (cO (x,y)).toNat<U64:=hs1;obtain⟨s,hs⟩:=Oy (sec (x,y,d));rw[<-hs]at h2 e;obtain⟨sx,sy⟩:=s;obtain⟨D,hD⟩:=Oy (aK (x,y,d));rw[<-hD]at e⊢;have H1:=OA h1;have H2:=OA h2;have Hs:=OA hs;have He:=OA e;have Hs1:=OA hs1';clear h1 h2 hs e hs1 hs1' hI hD hd;go_enter Tryz.func143,Tryz.ntmps143
 go_wp2_with fail
 refine(yC x y d _).mono ?_;rintro e w1 ⟨rfl,hb1⟩;obtain⟨hc1,hf1,hz1⟩:=bk hb1;(try simp at hz1)
 have hy1_0:w.heap.size<w1.heap.size:=(by omega);rw[<-Hs.out];have hA:=((((Below.refl _ _).al _).tr hb1).al (.cells #[.int .i64 x,.int .i64 y] 70)).al (.cells #[.int .i64 sx,.int .i64 sy] 70);have hz:w1.heap.size+1+1<=((w1.alloc (.cells #[.int .i64 x,.int .i64 y] 70)).alloc (.cells #[.int .i64 sx,.int .i64 sy] 70)).drew.heap.size:=(by simp);have Bacc:=hA.drew;have hp0:w1.heap.size<w1.heap.size+1+1:=(by omega);have hp1:w1.heap.size+1<w1.heap.size+1+1:=(by omega);go_wp2_with fail
 go_region_held3 (fun w'=>w'.cell? ⟨w1.heap.size,0,none⟩=some (.int .i64 x)/\w'.cell? ⟨w1.heap.size,1,none⟩=some (.int .i64 y)/\w'.cell? ⟨w1.heap.size+1,0,none⟩=some (.int .i64 sx)/\w'.cell? ⟨w1.heap.size+1,1,none⟩=some (.int .i64 sy)) (go_keep) (first|(go_at_call 190;go_must (refine(J5 _ _ _ _ _ (by first|exact(rfl:(0:Int)=((0:Nat):Int))|rfl) (by first|exact mH|exact Hs1.out) (by first|exact H1.out|exact H2.out)).mono ?_;rintro e wX ⟨rfl,hbX⟩;obtain⟨hcX,hfX,hzX⟩:=bkn hbX (w1.heap.size+1+1) hz;have hz:=hzX;have Bacc:=Bacc.tr hbX)))
 go_wp2;go_ret;exact⟨Oi (by rw[He.out]),Bacc⟩
def jN (left:Nat):Option Dm->List Dm->Bool
  |_,[]=>true
  |p,d::r=>aH d&&decide (left&&&aK d=aK d)&&(match p with|none=>true|some e=>decide (aP e<aP d))&&jN (dN left (aK d)) (some d) r
def isPartial (rows:List Int) (l:List Dm):Bool:=aZ rows&&jN (setOf rows) none l
end Go.Proofs.YtljfoohaapckeaaGreatDoor
namespace Go.Proofs.YtljfoohaapckeaaGreatDoor
open Go.ChangeShapes Go.WideShapes Go.ChangeAt Go.RowKit
set_option linter.unusedVariables false
set_option linter.unusedSimpArgs false
set_option maxHeartbeats 4000000
set_option maxRecDepth 100000
def wN (l:List Dm) (k:Nat):Option Dm:=if k=0 then none else l[k-1]?
theorem yV (l:List Dm):wN l 0=none:=rfl
theorem fC (l:List Dm) (k:Nat) (h:k<l.length):wN l (k+1)=some l[k]:=by
 unfold wN;rw[if_neg (by omega)];simp[h]
def nW (p:Option Dm) (d:Dm):Bool:=match p with|none=>true|some e=>decide (aP e<aP d)
theorem oJ (left:Nat) (p:Option Dm) (d:Dm) (r:List Dm):jN left p (d::r)=(aH d&&decide (left&&&aK d=aK d)&&nW p d&&jN (dN left (aK d)) (some d) r):=rfl
theorem Cn {a b:Nat} (ha:a<U64) (hb:b<U64):bits .and .u64 (a:Int) (b:Int)=((a&&&b:Nat):Int)/\bits .andNot .u64 (a:Int) (b:Int)=((dN a b:Nat):Int):=by
 unfold U64 at ha hb;exact⟨u64_and_nat a b ha hb,u64_andNot_nat a b ha hb⟩
theorem Ol {a b:Nat} (h:a=b):Value.int .u64 a=Value.int .u64 b:=by rw[h]
theorem uJ (v u:Value) (rows:List Int) (l:List Dm) (w:World) (h:Rd 1 bH w v rows) (h2:Rd 3 aU w u l):Calls prog 108 #[.agg #[v],u] w (Ret (.bool (isPartial rows l)) w):=by
 obtain⟨A,c,rfl,hc,hm⟩:=h.form;obtain⟨A2,c2,rfl,hc2,hm2⟩:=h2.form;have hA:=((Below.refl w.heap.size w).al (.cells #[.slice A rows.length c] 26));have h':=h.Oz hA;rcases hr:aZ rows with _|_
 . have e : isPartial rows l = false := by unfold isPartial; rw [hr]; rfl
   rw[e];go_enter func108,ntmps108
   go_wp2_with fail
   refine(lS _ rows _ h').mono ?_;rintro e w1 ⟨rfl,hb1⟩;obtain⟨hc1,hf1,hz1⟩:=bk hb1;(try simp at hz1)
   have hy1_0:w.heap.size<w1.heap.size:=(by omega);rw[hr];go_wp2;go_ret;exact⟨rfl,hA.tr hb1⟩
 . have e : isPartial rows l = jN (setOf rows) none l := by unfold isPartial; rw [hr]; rfl
   rw[e];have hok:=aN.1 hr;have hs:=dX hok;have Hok:=OA hok;clear hok e;go_enter func108,ntmps108
   go_wp2_with fail
   refine(lS _ rows _ h').mono ?_;rintro e w1 ⟨rfl,hb1⟩;obtain⟨hc1,hf1,hz1⟩:=bk hb1;(try simp at hz1)
   have hy1_0:w.heap.size<w1.heap.size:=(by omega);rw[hr];go_wp2_with fail
   refine(qD _ rows _ (h'.Oz hb1) Hok).mono ?_;rintro e w2 ⟨rfl,hb2⟩;obtain⟨s,hse⟩:=Oy (setOf rows);rw[<-hse]at hs⊢;have Hse:=OA hse;clear hse hr;have B2:=(hA.tr hb1).tr hb2;clear hc1 hf1 hz1 hy1_0 hb1 hb2 h';go_wp2;go_loopw [5,15] (fun s5 s15 wr=>∃k left:Nat,k<=l.length/\s15= .int .i64 k/\s5= .int .u64 left/\left<U64/\Hid (jN left (wN l k) (l.drop k)=jN s none l)/\Hid (∀e,wN l k=some e->aH e=true)/\Below w.heap.size w wr) (fun _ i _=>l.length-(intOf i).toNat)
   case atStart=>exact⟨0,s,zero_le _,rfl,rfl,hs,OA rfl,OA (fun e he=>by cases he),B2⟩
   case round=>
    obtain⟨k,left,hk,rfl,rfl,hleft,Hg,Hp,hbel⟩:=hrel;clear B2;by_cases hlt:k<l.length
    . obtain⟨b,off,rfl,hb,q1,q2,q3⟩:=(h2.Oz hbel).jJ hlt;have hg:=Hg.out;rw[List.drop_eq_getElem_cons hlt,oJ]at hg;obtain⟨d,hd⟩:=Oy (l[k]);rw[<-hd]at q1 q2 q3 hg;obtain⟨x,y,dn⟩:=d;simp only at q1 q2 q3;have hbz:=hbel.al (.cells #[.int .i64 x,.int .i64 y,.bool dn] 60);have Bacc:=hbz.drew;have hz:wr.heap.size+1<=(wr.alloc (.cells #[.int .i64 x,.int .i64 y,.bool dn] 60)).drew.heap.size:=(by simp);have hp0:wr.heap.size<wr.heap.size+1:=(by omega);rcases hok:aH (x,y,dn)with _|_
      . rw[hok]at hg;simp only[Bool.false_and]at hg;have HG:=OA hg;have Hdd:=OA hd;have Hok2:=OA hok;clear hg hd hok;go_wp2_with fail
        refine rB (fun w'=>w'.cell? ⟨wr.heap.size,0,none⟩=some (.int .i64 x)/\w'.cell? ⟨wr.heap.size,1,none⟩=some (.int .i64 y)/\w'.cell? ⟨wr.heap.size,2,none⟩=some (.bool dn)) fun hHeld=>(tW 0)<|(tR [1])<|tL fun K hK=>?_
        go_simp
        (first|(go_at_call 142;go_must (refine(aW x y dn _).mono ?_;rintro e wX ⟨rfl,hbX⟩;rw[Hok2.out];obtain⟨hcX,hfX,hzX⟩:=bkn hbX (wr.heap.size+1) hz;have hz:=hzX;have Bacc:=Bacc.tr hbX);(try go_wp2_with fail)))
        refine tK hK fun hHeld=>?_
        clear hK K;refine(tW 2)<|(tW 3)<|(tU 4)<|(tU 5)<|(tU 6)<|(tU 7)<|(tU 8)<|(tU 9)<|(tU 10)<|(tW 11)<|(tW 12)<|(tU 13)<|(tU 14)<|(tU 15)<|(tU 16)<|(tU 17)<|(tU 18)<|(tU 19)<|(tU 20)<|(tU 21)<|(tU 22)<|(tU 23)<|(tU 24)<|(tW 25)<|tD ?_
        all_goals
          go_wp2;go_ret;exact⟨kN (by have:=HG.out;rw[Hse.out]at this;exact this),Bacc⟩
      . rw[hok]at hg;simp only[Bool.true_and]at hg;have hDlt:=eB hok;obtain⟨D,hD⟩:=Oy (aK (x,y,dn));rw[<-hD]at hg hDlt;obtain⟨hand,hnot⟩:=Cn hleft hDlt;have HD:=OA hD;have Hok2:=OA hok;have Hdd:=OA hd;clear hD hok hd;rcases hsub:decide (left&&&D=D)with _|_
        . rw[hsub]at hg;simp only[Bool.false_and]at hg
          have hne:(((left&&&D:Nat):Int) !=(D:Int))=true:=by
           rw[decide_eq_false_iff_not]at hsub;rw[bne_iff_ne];omega
          have HG:=OA hg;clear hg hsub;go_wp2_with fail
          refine rB (fun w'=>w'.cell? ⟨wr.heap.size,0,none⟩=some (.int .i64 x)/\w'.cell? ⟨wr.heap.size,1,none⟩=some (.int .i64 y)/\w'.cell? ⟨wr.heap.size,2,none⟩=some (.bool dn)) fun hHeld=>(tW 0)<|(tR [1])<|tL fun K hK=>?_
          go_simp
          (first|(go_at_call 142;go_must (refine(aW x y dn _).mono ?_;rintro e wX ⟨rfl,hbX⟩;rw[Hok2.out];obtain⟨hcX,hfX,hzX⟩:=bkn hbX (wr.heap.size+1) hz;have hz:=hzX;have Bacc:=Bacc.tr hbX);(try go_wp2_with fail))|(go_at_call 143;go_must (refine(eG x y dn _ Hok2.out).mono ?_;rintro e wX ⟨rfl,hbX⟩;rw[<-HD.out];obtain⟨hcX,hfX,hzX⟩:=bkn hbX (wr.heap.size+1) hz;have hz:=hzX;have Bacc:=Bacc.tr hbX);(try go_wp2_with fail)))
          refine tK hK fun hHeld=>?_
          clear hK K;refine(tW 2)<|(tW 3)<|(tW 4)<|(tW 5)<|(tW 8)<|(tR [6])<|tL fun K hK=>?_
          go_simp
          (first|(go_at_call 142;go_must (refine(aW x y dn _).mono ?_;rintro e wX ⟨rfl,hbX⟩;rw[Hok2.out];obtain⟨hcX,hfX,hzX⟩:=bkn hbX (wr.heap.size+1) hz;have hz:=hzX;have Bacc:=Bacc.tr hbX);(try go_wp2_with fail))|(go_at_call 143;go_must (refine(eG x y dn _ Hok2.out).mono ?_;rintro e wX ⟨rfl,hbX⟩;rw[<-HD.out];obtain⟨hcX,hfX,hzX⟩:=bkn hbX (wr.heap.size+1) hz;have hz:=hzX;have Bacc:=Bacc.tr hbX);(try go_wp2_with fail)))
          refine tK hK fun hHeld=>?_
          clear hK K;refine(tW 7)<|(tR [9])<|tL fun K hK=>?_
          go_simp
          (first|(go_at_call 142;go_must (refine(aW x y dn _).mono ?_;rintro e wX ⟨rfl,hbX⟩;rw[Hok2.out];obtain⟨hcX,hfX,hzX⟩:=bkn hbX (wr.heap.size+1) hz;have hz:=hzX;have Bacc:=Bacc.tr hbX);(try go_wp2_with fail))|(go_at_call 143;go_must (refine(eG x y dn _ Hok2.out).mono ?_;rintro e wX ⟨rfl,hbX⟩;rw[<-HD.out];obtain⟨hcX,hfX,hzX⟩:=bkn hbX (wr.heap.size+1) hz;have hz:=hzX;have Bacc:=Bacc.tr hbX);(try go_wp2_with fail)))
          refine tK hK fun hHeld=>?_
          clear hK K;refine(tW 10)<|(tW 11)<|(tW 12)<|(tU 13)<|(tU 14)<|(tU 15)<|(tU 16)<|(tU 17)<|(tU 18)<|(tU 19)<|(tU 20)<|(tU 21)<|(tU 22)<|(tU 23)<|(tU 24)<|(tW 25)<|tD ?_
          all_goals
            go_wp2;go_ret;exact⟨kN (by have:=HG.out;rw[Hse.out]at this;exact this),Bacc⟩
        . rw[hsub]at hg;simp only[Bool.true_and]at hg
          have hne:(((left&&&D:Nat):Int) !=(D:Int))=false:=by
           rw[decide_eq_true_iff]at hsub;rw[bne_eq_false_iff_eq];omega
          clear hsub;rcases Nat.eq_zero_or_pos k with rfl|hkp
          . rw[yV]at hg;simp only[nW,Bool.true_and]at hg;have HG:=OA hg;clear hg;simp only[zero_mul,add_zero]at q1 q2 q3;go_wp2_with fail
            refine rB (fun w'=>w'.cell? ⟨wr.heap.size,0,none⟩=some (.int .i64 x)/\w'.cell? ⟨wr.heap.size,1,none⟩=some (.int .i64 y)/\w'.cell? ⟨wr.heap.size,2,none⟩=some (.bool dn)) fun hHeld=>(tW 0)<|(tR [1])<|tL fun K hK=>?_
            go_simp
            (first|(go_at_call 142;go_must (refine(aW x y dn _).mono ?_;rintro e wX ⟨rfl,hbX⟩;rw[Hok2.out];obtain⟨hcX,hfX,hzX⟩:=bkn hbX (wr.heap.size+1) hz;have hz:=hzX;have Bacc:=Bacc.tr hbX);(try go_wp2_with fail))|(go_at_call 143;go_must (refine(eG x y dn _ Hok2.out).mono ?_;rintro e wX ⟨rfl,hbX⟩;rw[<-HD.out];obtain⟨hcX,hfX,hzX⟩:=bkn hbX (wr.heap.size+1) hz;have hz:=hzX;have Bacc:=Bacc.tr hbX);(try go_wp2_with fail)))
            refine tK hK fun hHeld=>?_
            clear hK K;refine(tW 2)<|(tW 3)<|(tW 4)<|(tW 5)<|(tW 8)<|(tR [6])<|tL fun K hK=>?_
            go_simp
            (first|(go_at_call 142;go_must (refine(aW x y dn _).mono ?_;rintro e wX ⟨rfl,hbX⟩;rw[Hok2.out];obtain⟨hcX,hfX,hzX⟩:=bkn hbX (wr.heap.size+1) hz;have hz:=hzX;have Bacc:=Bacc.tr hbX);(try go_wp2_with fail))|(go_at_call 143;go_must (refine(eG x y dn _ Hok2.out).mono ?_;rintro e wX ⟨rfl,hbX⟩;rw[<-HD.out];obtain⟨hcX,hfX,hzX⟩:=bkn hbX (wr.heap.size+1) hz;have hz:=hzX;have Bacc:=Bacc.tr hbX);(try go_wp2_with fail)))
            refine tK hK fun hHeld=>?_
            clear hK K;refine(tW 7)<|(tR [9])<|tL fun K hK=>?_
            go_simp
            (first|(go_at_call 142;go_must (refine(aW x y dn _).mono ?_;rintro e wX ⟨rfl,hbX⟩;rw[Hok2.out];obtain⟨hcX,hfX,hzX⟩:=bkn hbX (wr.heap.size+1) hz;have hz:=hzX;have Bacc:=Bacc.tr hbX);(try go_wp2_with fail))|(go_at_call 143;go_must (refine(eG x y dn _ Hok2.out).mono ?_;rintro e wX ⟨rfl,hbX⟩;rw[<-HD.out];obtain⟨hcX,hfX,hzX⟩:=bkn hbX (wr.heap.size+1) hz;have hz:=hzX;have Bacc:=Bacc.tr hbX);(try go_wp2_with fail)))
            refine tK hK fun hHeld=>?_
            clear hK K;refine(tW 10)<|(tW 11)<|(tW 12)<|(tW 13)<|(tW 14)<|(tW 15)<|(tU 16)<|(tU 17)<|(tU 18)<|(tU 19)<|(tU 20)<|(tU 21)<|(tU 22)<|(tU 23)<|(tW 24)<|(tW 25)<|tD ?_;go_wp2_with fail
            refine(eG x y dn _ Hok2.out).mono ?_;rintro e w9 ⟨rfl,hb9⟩;rw[<-HD.out];go_wp2;go_roundw
            case rel=>exact⟨_,dN left D,hlt,by go_num,rfl,eQ hleft,by rw[fC l _ hlt,<-Hdd.out];exact HG,OA (fun e he=>by rw[fC l _ hlt,<-Hdd.out]at he;injection he with he;rw[<-he];exact Hok2.out),Bacc.tr hb9⟩
            case measure=>simp[intOf];omega
          . obtain ⟨j, rfl⟩ : ∃ j, k = j + 1 := ⟨k - 1, by omega⟩;have hj:j<l.length:=(by omega);rw[fC l j hj]at hg;have hpok:=Hp.out l[j] (fC l j hj);obtain⟨b',off',e',hb',p1,p2,p3⟩:=(h2.Oz hbel).jJ hj;injection e' with e';injection e' with e1 e2 e3;subst e1;subst e2;simp only[nW]at hg;obtain⟨dp,hdp⟩:=Oy (l[j]);rw[<-hdp]at p1 p2 p3 hg hpok;obtain⟨px,py,pd⟩:=dp;simp only at p1 p2 p3;have Hpok:=OA hpok;have Hdp:=OA hdp;clear hpok hdp e3;have hp1:b<wr.heap.size+1:=(by omega);have hwj:IntKind.i64.wrap (j:Int)=(j:Int):=IntWalk.i64_in _ (by omega);have hj0:(0:Int)<=(j:Int):=(by omega);have hjI:(j:Int)<(l.length:Int):=(by omega);rcases hbf:decide (aP (px,py,pd)<aP (x,y,dn))with _|_
            . rw[hbf]at hg;simp only[Bool.false_and]at hg;have HG:=OA hg;have Hbf:=OA hbf;clear hg hbf;go_wp2_with fail
              go_region_held3 (fun w'=>w'.cell? ⟨wr.heap.size,0,none⟩=some (.int .i64 x)/\w'.cell? ⟨wr.heap.size,1,none⟩=some (.int .i64 y)/\w'.cell? ⟨wr.heap.size,2,none⟩=some (.bool dn)/\w'.cell? ⟨b,off+j*3,none⟩=some (.int .i64 px)/\w'.cell? ⟨b,off+j*3+1,none⟩=some (.int .i64 py)/\w'.cell? ⟨b,off+j*3+2,none⟩=some (.bool pd)) (go_keep) (first|(go_at_call 142;go_must (refine(aW x y dn _).mono ?_;rintro e wX ⟨rfl,hbX⟩;rw[Hok2.out];obtain⟨hcX,hfX,hzX⟩:=bkn hbX (wr.heap.size+1) hz;have hz:=hzX;have Bacc:=Bacc.tr hbX);(try go_wp2_with fail))|(go_at_call 143;go_must (refine(eG x y dn _ Hok2.out).mono ?_;rintro e wX ⟨rfl,hbX⟩;rw[<-HD.out];obtain⟨hcX,hfX,hzX⟩:=bkn hbX (wr.heap.size+1) hz;have hz:=hzX;have Bacc:=Bacc.tr hbX);(try go_wp2_with fail))|(go_at_call 166;go_must (refine(yU px py pd x y dn _ Hpok.out Hok2.out).mono ?_;rintro e wX ⟨rfl,hbX⟩;rw[Hbf.out];obtain⟨hcX,hfX,hzX⟩:=bkn hbX (wr.heap.size+1) hz;have hz:=hzX;have Bacc:=Bacc.tr hbX);(try go_wp2_with fail)))
              all_goals
                go_wp2;go_ret;exact⟨kN (by have:=HG.out;rw[Hse.out]at this;exact this),Bacc⟩
            . rw[hbf]at hg;simp only[Bool.true_and]at hg;have HG:=OA hg;have Hbf:=OA hbf;clear hg hbf;go_wp2_with fail
              go_region_held3 (fun w'=>w'.cell? ⟨wr.heap.size,0,none⟩=some (.int .i64 x)/\w'.cell? ⟨wr.heap.size,1,none⟩=some (.int .i64 y)/\w'.cell? ⟨wr.heap.size,2,none⟩=some (.bool dn)/\w'.cell? ⟨b,off+j*3,none⟩=some (.int .i64 px)/\w'.cell? ⟨b,off+j*3+1,none⟩=some (.int .i64 py)/\w'.cell? ⟨b,off+j*3+2,none⟩=some (.bool pd)) (go_keep) (first|(go_at_call 142;go_must (refine(aW x y dn _).mono ?_;rintro e wX ⟨rfl,hbX⟩;rw[Hok2.out];obtain⟨hcX,hfX,hzX⟩:=bkn hbX (wr.heap.size+1) hz;have hz:=hzX;have Bacc:=Bacc.tr hbX);(try go_wp2_with fail))|(go_at_call 143;go_must (refine(eG x y dn _ Hok2.out).mono ?_;rintro e wX ⟨rfl,hbX⟩;rw[<-HD.out];obtain⟨hcX,hfX,hzX⟩:=bkn hbX (wr.heap.size+1) hz;have hz:=hzX;have Bacc:=Bacc.tr hbX);(try go_wp2_with fail))|(go_at_call 166;go_must (refine(yU px py pd x y dn _ Hpok.out Hok2.out).mono ?_;rintro e wX ⟨rfl,hbX⟩;rw[Hbf.out];obtain⟨hcX,hfX,hzX⟩:=bkn hbX (wr.heap.size+1) hz;have hz:=hzX;have Bacc:=Bacc.tr hbX);(try go_wp2_with fail)))
              go_wp2_with fail
              refine(eG x y dn _ Hok2.out).mono ?_;rintro e w9 ⟨rfl,hb9⟩;rw[<-HD.out];go_wp2;go_roundw
              case rel=>exact⟨_,dN left D,hlt,by go_num,rfl,eQ hleft,by rw[fC l _ hlt,<-Hdd.out];exact HG,OA (fun e he=>by rw[fC l _ hlt,<-Hdd.out]at he;injection he with he;rw[<-he];exact Hok2.out),Bacc.tr hb9⟩
              case measure=>simp[intOf];omega
    . obtain rfl : k = l.length := by omega
      have hg:=Hg.out;rw[List.drop_of_length_le (le_refl _)]at hg;have HG:=OA hg;clear hg;go_wp2;go_ret;exact⟨kN (by have:=HG.out;rw[Hse.out]at this;exact this),hbel⟩
end Go.Proofs.YtljfoohaapckeaaGreatDoor
namespace Go.Proofs.YtljfoohaapckeaaGreatDoor
open Go.ChangeShapes Go.WideShapes Go.ChangeAt Go.RowKit
set_option linter.unusedVariables false
set_option maxHeartbeats 4000000
set_option maxRecDepth 100000
def nA (d:Dm) (c:Cl):Bool:=aH d&&(decide ((d.1,d.2.1)=c)||decide (sec d=c))
def wV (l:List Dm) (c:Cl):Option Dm:=l.find? (nA · c)
def jY (c:Cl):List Dm->Nat->Int
  |[],_=> -1
  |d::r,k=>if nA d c then(k:Int)else jY c r (k+1)
def pO (l:List Dm) (c:Cl):Int:=jY c l 0
theorem EJ (c:Cl):∀(l:List Dm) (k:Nat),(jY c l k= -1/\wV l c=none)∨∃j,∃h:j<l.length,jY c l k=((k+j:Nat):Int)/\wV l c=some l[j]:=by
 intro l;induction l with
 |nil=>intro k;exact .inl ⟨rfl,rfl⟩
 |cons d r ih=>
  intro k;by_cases hd:nA d c=true
  . refine .inr ⟨0, by simp, ?_, ?_⟩
    . simp[jY,hd]
    . simp[wV,hd]
  . have hf : wV (d :: r) c = wV r c := by simp [wV, hd]
    have hg:jY c (d::r) k=jY c r (k+1):=(by simp[jY,hd]);rw[hf,hg];rcases ih (k+1)with h|⟨j,hj,h1,h2⟩
    . exact .inl h
    . exact .inr ⟨j+1,by simpa using hj,by rw[h1];congr 1;omega,by rw[h2];simp⟩
theorem Ha (l:List Dm) (c:Cl):(pO l c= -1/\wV l c=none)∨∃j,∃h:j<l.length,pO l c=(j:Int)/\wV l c=some l[j]:=by
 rcases EJ c l 0 with h|⟨j,hj,h1,h2⟩
 . exact .inl h
 . exact .inr ⟨j,hj,by unfold pO;rw[h1];congr 1;omega,h2⟩
theorem vL {a b:Cl} (ha:aV a=true) (hb:aV b=true) (h:(cO a).toNat=(cO b).toNat):a=b:=by
 have h1:=dG ha;have h2:=dG hb;have k1:=bQ.1 ha;have k2:=bQ.1 hb;obtain⟨a1,a2⟩:=a;obtain⟨b1,b2⟩:=b;simp only at h1 h2 k1 k2;have:a2=b2:=(by omega);have:a1=b1:=(by omega);simp_all
theorem dC {d:Dm} (h:aH d=true):aV (d.1,d.2.1)=true/\aV (sec d)=true:=by
 unfold aH at h;rw[and_eq_true]at h;exact h
theorem aR {d:Dm} (h:aH d=true) (j:Nat):(aK d).testBit j=(decide (dM d=j)||decide (fU d=j)):=by
 unfold aK;rw[pE,pE,Nat.zero_testBit,Bool.false_or]
theorem HV {d:Dm} (h:aH d=true) (c:Cl):(aV c&&(aK d).testBit (cO c).toNat)=nA d c:=by
 obtain⟨h1,h2⟩:=dC h;unfold nA;rw[h,Bool.true_and,aR h];rw[Bool.eq_iff_iff];simp only[and_eq_true,Bool.or_eq_true,decide_eq_true_eq];unfold dM fU;constructor
 . rintro⟨hc,e|e⟩
   . exact .inl (vL h1 hc e)
   . exact .inr (vL h2 hc e)
 . rintro(e|e)
   . exact⟨e▸h1,.inl (by rw[e])⟩
   . exact⟨e▸h2,.inr (by rw[e])⟩
theorem DC {d:Dm} (h:aH d=false) (c:Cl):nA d c=false:=by unfold nA;rw[h];rfl
theorem nP {a b:Nat} (h:a&&&b=b) (j:Nat) (hb:b.testBit j=true):a.testBit j=true:=by
 have:=congrArg (·.testBit j) h;simp only[Nat.testBit_and]at this;rw[hb]at this;simpa using this
theorem qP {left:Nat} {p:Option Dm} {d:Dm} {r:List Dm} (h:jN left p (d::r)=true):aH d=true/\left&&&aK d=aK d/\jN (dN left (aK d)) (some d) r=true:=by
 simp only[jN,and_eq_true,decide_eq_true_eq]at h;exact⟨h.1.1.1,h.1.1.2,h.2⟩
theorem iQ {a b:Nat} (ha:a<U64) (hb:b<U64) (j:Nat):(dN a b).testBit j=(a.testBit j&& !b.testBit j):=kP hb ha
theorem H5:∀(l:List Dm) (left:Nat) (p:Option Dm),left<U64->jN left p l=true->∀d∈l,aH d=true/\∀j,(aK d).testBit j=true->left.testBit j=true:=by
 intro l;induction l with
 |nil=>intro left p _ _ d hd;cases hd
 |cons e r ih=>
  intro left p hl h d hd;obtain⟨h1,h2,h3⟩:=qP h;rcases List.mem_cons.1 hd with rfl|hd
  . exact⟨h1,fun j hj=>nP h2 j hj⟩
  . obtain⟨k1,k2⟩:=ih _ _ (eQ hl) h3 d hd;refine⟨k1,fun j hj=> ?_⟩;have:=k2 j hj;rw[iQ hl (eB h1)]at this;rw[and_eq_true]at this;exact this.1
theorem lG {rows:List Int} {l:List Dm} (h:isPartial rows l=true):dJ rows/\jN (setOf rows) none l=true:=by
 unfold isPartial at h;rw[and_eq_true]at h;exact⟨aN.1 h.1,h.2⟩
end Go.Proofs.YtljfoohaapckeaaGreatDoor
namespace Go.Proofs.YtljfoohaapckeaaGreatDoor
open Go.ChangeShapes Go.WideShapes Go.ChangeAt Go.RowKit
set_option linter.unusedVariables false
set_option linter.unusedSimpArgs false
set_option maxHeartbeats 4000000
set_option maxRecDepth 100000
theorem EX {r:Int} {x:Nat} (h0:0<=r) (h1:r<=255) (hx:x<8):(bits .and .i64 (r/2^x) 1==1)=r.toNat.testBit x:=by
 obtain⟨n,rfl⟩:=Int.eq_ofNat_of_zero_le h0;rw[wR];have e:((n:Int)/2^x)%2=((n/2^x%2:Nat):Int):=(by simp);rw[e,Int.toNat_natCast,Nat.testBit_eq_decide_div_mod_eq];rw[Bool.eq_iff_iff,beq_iff_eq,decide_eq_true_iff];omega
theorem jW (v:Value) (rows:List Int) (x y:Nat) (w:World) (h:Rd 1 bH w v rows) (Hok:Hid (dJ rows)) (hx:x<8) (hy:y<8):Calls prog 164 #[.agg #[v],.agg #[.int .i64 x,.int .i64 y]] w (Ret (.bool ((setOf rows).testBit (8*y+x))) w):=by
 obtain⟨A,c,rfl,hc,hm⟩:=h.form;have hA:=((Below.refl w.heap.size w).al (.cells #[.slice A rows.length c] 26)).al (.cells #[.int .i64 x,.int .i64 y] 70);have hbit:=uG Hok.out (8*y+x);rw[show(8*y+x)/8=y by omega,show(8*y+x)%8=x by omega]at hbit;obtain⟨B,hB⟩:=Oy ((setOf rows).testBit (8*y+x));rw[<-hB]at hbit⊢;clear hB;by_cases hlt:y<rows.length
 . obtain⟨b,off,rfl,hb,q1⟩:=h.uE hlt;rw[List.getD_eq_getElem?_getD,List.getElem?_eq_getElem hlt,Option.getD_some]at hbit;obtain⟨k0,k1⟩:=Hok.out.2 rows[y] (List.getElem_mem _);obtain⟨r,hr⟩:=Oy (rows[y]);rw[<-hr]at q1 hbit k0 k1;have e1:=EX k0 k1 hx;rw[<-hbit]at e1;have hltI:(y:Int)<(rows.length:Int):=(by omega);have hbn1:b≠w.heap.size:=(by omega);have hbn2:b≠w.heap.size+1:=(by omega);clear hbit hr;go_enter func164,ntmps164
   go_wp2_with fail
   go_quiet (fail)
   go_wp2;go_ret;exact⟨rfl,below_drewN hA _⟩
 . have hB0 : B = false := by rw [hbit, List.getD_eq_getElem?_getD, List.getElem?_eq_none (by omega)]; simp
   have hltD:decide (y<rows.length)=false:=(by simpa using hlt);have hltI:decide ((y:Int)<(rows.length:Int))=false:=(by simpa using hlt);have HB0:=OA hB0;clear hB0 hbit hlt;go_enter func164,ntmps164
   go_wp2_with fail
   go_quiet (fail)
   go_wp2;go_ret;exact⟨kN HB0.out.symm,below_drewN hA _⟩
theorem Au (x y:Int) (w:World) (hc:aV (x,y)=true):Calls prog 162 #[.agg #[.int .i64 x,.int .i64 y]] w (Ret (.int .i64 (cO (x,y))) w):=by
 obtain⟨⟨x1,x2⟩,y1,y2⟩:=bQ.1 hc;have e:=(dG hc).1;simp only at e x1 x2 y1 y2;have He:=OA e;have Hc:=OA hc;clear e hc;go_enter Tryz.func162,Tryz.ntmps162
 go_wp2_with fail
 refine(gJ x y _).mono ?_;rintro e w1 ⟨rfl,hb1⟩;obtain⟨hc1,hf1,hz1⟩:=bk hb1;(try simp at hz1)
 have hy1_0:w.heap.size<w1.heap.size:=(by omega);rw[Hc.out];go_wp2;go_ret;exact⟨Gb (by rw[He.out]),((Below.refl _ _).al _).tr hb1⟩
def jF (rows:List Int) (c:Cl):Bool:=aZ rows&&(aV c&&(setOf rows).testBit (cO c).toNat)
theorem nE (v:Value) (rows:List Int) (x y:Int) (w:World) (h:Rd 1 bH w v rows) (hc:aV (x,y)=true):Calls prog 161 #[.agg #[v],.agg #[.int .i64 x,.int .i64 y]] w (Ret (.bool (jF rows (x,y))) w):=by
 obtain⟨A,c,rfl,hc',hm⟩:=h.form;have hA:=((Below.refl w.heap.size w).al (.cells #[.slice A rows.length c] 26)).al (.cells #[.int .i64 x,.int .i64 y] 70);rcases hr:aZ rows with _|_
 . have e : jF rows (x, y) = false := by unfold jF; rw [hr]; rfl
   rw[e];go_enter func161,ntmps161
   go_wp2_with fail
   refine(dK _ rows _ (h.Oz hA)).mono ?_;rintro e w1 ⟨rfl,hb1⟩;obtain⟨hc1,hf1,hz1⟩:=bk hb1;(try simp at hz1)
   have hy1_0:w.heap.size<w1.heap.size:=(by omega);have hy1_1:w.heap.size+1<w1.heap.size:=(by omega);rw[hr];go_wp2;go_ret;exact⟨rfl,hA.tr hb1⟩
 . have hok:=aN.1 hr;obtain⟨⟨x1,x2⟩,y1,y2⟩:=bQ.1 hc;simp only at x1 x2 y1 y2;have e:jF rows (x,y)=(setOf rows).testBit (cO (x,y)).toNat:=by unfold jF;rw[hr,hc];simp
   rw[(dG hc).1]at e;obtain⟨x,rfl⟩:=Int.eq_ofNat_of_zero_le x1;obtain⟨y,rfl⟩:=Int.eq_ofNat_of_zero_le y1;rw[show((y:Int)*8+(x:Int)).toNat=8*y+x by omega]at e;rw[e];have Hok:=OA hok;have Hc:=OA hc;clear hok e hc;go_enter func161,ntmps161
   go_wp2_with fail
   refine(dK _ rows _ (h.Oz hA)).mono ?_;rintro e w1 ⟨rfl,hb1⟩;obtain⟨hc1,hf1,hz1⟩:=bk hb1;(try simp at hz1)
   have hy1_0:w.heap.size<w1.heap.size:=(by omega);have hy1_1:w.heap.size+1<w1.heap.size:=(by omega);rw[hr];go_wp2_with fail
   refine(gJ x y _).mono ?_;rintro e w2 ⟨rfl,hb2⟩;obtain⟨hc2,hf2,hz2⟩:=bk hb2;(try simp at hz2)
   have hy2_0:w.heap.size<w2.heap.size:=(by omega);have hy2_1:w.heap.size+1<w2.heap.size:=(by omega);rw[Hc.out];have B2:=(hA.tr hb1).tr hb2;go_wp2_with fail
   refine(jW _ rows x y _ (h.Oz B2) Hok (by omega) (by omega)).mono ?_;rintro e w3 ⟨rfl,hb3⟩;go_wp2;go_ret;exact⟨rfl,B2.tr hb3⟩
theorem mI (x y:Int) (d:Bool) (x' y':Int) (d':Bool) (w:World) (hd:aH (x,y,d)=true) (hd':aH (x',y',d')=true):
 Calls prog 159 #[.agg #[.int .i64 x,.int .i64 y,.bool d],.agg #[.int .i64 x',.int .i64 y',.bool d']] w (Ret (.bool (decide (aP (x,y,d)<aP (x',y',d')))) w):=by
 have D1:=lC hd;have D2:=lC hd';simp only at D1 D2;obtain⟨⟨x1,x2⟩,y1,y2⟩:=D1;obtain⟨⟨u1,u2⟩,v1,v2⟩:=D2;have hA:=((Below.refl w.heap.size w).al (.cells #[.int .i64 x,.int .i64 y,.bool d] 60)).al (.cells #[.int .i64 x',.int .i64 y',.bool d'] 60);obtain⟨B,hB⟩:∃B,B=decide (aP (x,y,d)<aP (x',y',d')):=⟨_,rfl⟩;rw[<-hB];have HB:=OA hB;have Hd:=OA hd;have Hd':=OA hd';clear hB hd hd';rcases d with _|_<;>rcases d' with _|_
 all_goals
   go_enter Tryz.func159,Tryz.ntmps159
   go_wp2_with fail
   refine(bM x y _ _).mono ?_;rintro e w1 ⟨rfl,hb1⟩;obtain⟨hc1,hf1,hz1⟩:=bk hb1;(try simp at hz1)
   have hy1_0:w.heap.size<w1.heap.size:=(by omega);have hy1_1:w.heap.size+1<w1.heap.size:=(by omega);rw[Hd.out];go_wp2_with fail
   refine(bM x' y' _ _).mono ?_;rintro e w2 ⟨rfl,hb2⟩;obtain⟨hc2,hf2,hz2⟩:=bk hb2;(try simp at hz2)
   have hy2_0:w.heap.size<w2.heap.size:=(by omega);have hy2_1:w.heap.size+1<w2.heap.size:=(by omega);rw[Hd'.out];go_wp2
   all_goals
     go_ret;refine⟨kN ?_,(hA.tr hb1).tr hb2⟩;rw[HB.out,Bool.eq_iff_iff];simp[aP];try omega
theorem vM (v:Value) (l:List Dm) (x y:Int) (w:World) (h:Rd 3 aU w v l):Calls prog 213 #[v,.agg #[.int .i64 x,.int .i64 y]] w (Ret (.int .i64 (pO l (x,y))) w):=by
 obtain⟨A,c,rfl,hc,hm⟩:=h.form;have hA:=((Below.refl w.heap.size w).al (.cells #[.int .i64 x,.int .i64 y] 70));have hx:=Blk.bK w 70 #[.int .i64 x,.int .i64 y];have hD:pO l (x,y)=jY (x,y) l 0:=rfl;obtain⟨D,hDD⟩:=Oy (pO l (x,y));rw[<-hDD]at hD⊢;have HD:=OA hD;clear hD hDD;go_enter Tryz.func213,Tryz.ntmps213
 go_wp2;go_loopw [5] (fun s9 wr=>∃k:Nat,k<=l.length/\s9= .int .i64 k/\Hid (jY (x,y) (l.drop k) k=D)/\wr.cell? ⟨w.heap.size,0,none⟩=some (.int .i64 x)/\wr.cell? ⟨w.heap.size,1,none⟩=some (.int .i64 y)/\w.heap.size<wr.heap.size/\Below w.heap.size w wr) (fun i _=>l.length-(intOf i).toNat)
 case atStart=>exact⟨0,zero_le _,rfl,OA HD.out.symm,hx.cell 0,hx.cell 1,hx.lt,hA⟩
 case round=>
  obtain⟨k,hk,rfl,Hg,z1,z2,hwl,hbel⟩:=hrel;clear hx hA;by_cases hlt:k<l.length
  . obtain⟨b,off,rfl,hb,q1,q2,q3⟩:=(h.Oz hbel).jJ hlt;have hg:=Hg.out;rw[List.drop_eq_getElem_cons hlt]at hg;obtain⟨d,hd⟩:=Oy (l[k]);rw[<-hd]at q1 q2 q3 hg;obtain⟨dx,dy,dn⟩:=d;simp only at q1 q2 q3;rcases hok:aH (dx,dy,dn)with _|_
    . have hg2 : jY (x, y) (l.drop (k + 1)) (k + 1) = D := by rw [<- hg]; simp only [jY]; rw [if_neg (by rw [DC hok]; simp)]
      have HG:=OA hg2;have Hok2:=OA hok;have Hdd:=OA hd;clear hg hg2 hok hd;go_wp2_with fail
      refine(bM dx dy dn _).mono ?_;rintro e w1 ⟨rfl,hb1⟩;obtain⟨hc1,hf1,hz1⟩:=bk hb1;(try simp at hz1)
      have hy1_0:w.heap.size<w1.heap.size:=(by omega);rw[Hok2.out];go_wp2;go_roundw
      case rel=>exact⟨k+1,by omega,by go_num,HG,by rw[hc1 _ _ (by omega)];exact z1,by rw[hc1 _ _ (by omega)];exact z2,by omega,hbel.tr hb1⟩
      case measure=>simp[intOf];omega
    . obtain⟨sx,sy,hs⟩:∃sx sy,sec (dx,dy,dn)=(sx,sy):=⟨_,_,rfl⟩;have hh:nA (dx,dy,dn) (x,y)=(decide ((dx,dy)=(x,y))||decide ((sx,sy)=(x,y))):=by unfold nA;rw[hok,hs];rfl
      have Hok2:=OA hok;have Hdd:=OA hd;have Hs:=OA hs;have Hh:=OA hh;have HG:=OA hg;clear hok hd hs hh hg;go_wp2_with fail
      refine(bM dx dy dn _).mono ?_;rintro e w1 ⟨rfl,hb1⟩;obtain⟨hc1,hf1,hz1⟩:=bk hb1;(try simp at hz1)
      have hy1_0:w.heap.size<w1.heap.size:=(by omega);have hy1_1:b<w1.heap.size:=(by omega);rw[Hok2.out];go_wp2_with fail
      refine(iU dx dy dn _ Hok2.out).mono ?_;rintro e w2 ⟨rfl,hb2⟩;obtain⟨hc2,hf2,hz2⟩:=bk hb2;(try simp at hz2)
      have hy2_0:w.heap.size<w2.heap.size:=(by omega);rw[Hs.out];go_wp2
      all_goals
        have B2:=(hbel.tr hb1).tr hb2;have zz1:w2.cell? ⟨w.heap.size,0,none⟩=some (.int .i64 x):=by rw[hc2 _ _ (by omega),hc1 _ _ (by omega)];exact z1
        have zz2:w2.cell? ⟨w.heap.size,1,none⟩=some (.int .i64 y):=by rw[hc2 _ _ (by omega),hc1 _ _ (by omega)];exact z2
        have hgo:jY (x,y) ((dx,dy,dn)::List.drop (k+1) l) k=if nA (dx,dy,dn) (x,y)=true then(k:Int)else jY (x,y) (l.drop (k+1)) (k+1):=rfl
        rw[HG.out]at hgo;have hn1:w.heap.size≠w2.heap.size:=(by omega);have hn2:w.heap.size≠w2.heap.size+1:=(by omega);clear hc1 hf1 hc2 hf2 z1 z2 q1 q2 q3 HD Hg
        first
          | (go_ret
             rw[if_pos (by rw[Hh.out];simp[*])]at hgo;exact⟨Gb hgo.symm,(B2.al _).al _⟩)
          | (rw [if_neg (by rw [Hh.out]; simp [*])] at hgo
             go_roundw
             case rel=>exact⟨k+1,by omega,by go_num,OA hgo.symm,by go_simp,by go_simp,by simp;omega,(B2.al _).al _⟩
             case measure=>simp[intOf];omega)
  . obtain rfl : k = l.length := by omega
    have hg:=Hg.out;rw[List.drop_of_length_le (le_refl _)]at hg;have HG:Hid ((-1:Int)=D):=OA hg;clear hg;go_wp2;go_ret;exact⟨Gb HG.out,hbel⟩
theorem mP:∀x:Bool,(G8 x).length=1:=fun _=>rfl
theorem Jj:Row prog 160 4 (.bool false) 1 1:=⟨Tryz.underlying160,by kernel_rfl,rfl,by decide⟩
theorem fM (x y:Int) (I:Nat) (w:World) (hc:aV (x,y)=true) (hI:I=(cO (x,y)).toNat):Calls prog 162 #[.agg #[.int .i64 x,.int .i64 y]] w (Ret (.int .i64 I) w):=by
 have:=Au x y w hc;have k:=(dG hc).2.1;rw[show cO (x,y)=(I:Int) by omega]at this;exact this
theorem gK (v:Value) (rows:List Int) (x y:Int) (s I:Nat) (w:World) (h:Rd 1 bH w v rows) (hc:aV (x,y)=true) (Hok:Hid (dJ rows)) (Hs:Hid (s=setOf rows)) (hI:I=(cO (x,y)).toNat):Calls prog 161 #[.agg #[v],.agg #[.int .i64 x,.int .i64 y]] w (Ret (.bool (s.testBit I)) w):=by
 have:=nE v rows x y w h hc;have e:jF rows (x,y)=s.testBit I:=by unfold jF;rw[aN.2 Hok.out,hc,hI,Hs.out];simp
 rw[e]at this;exact this
theorem yX (v:Value) (rows:List Int) (x y:Int) (w:World) (h:Rd 1 bH w v rows) (hc:aV (x,y)=true) (hr:aZ rows=false):Calls prog 161 #[.agg #[v],.agg #[.int .i64 x,.int .i64 y]] w (Ret (.bool false) w):=by
 have:=nE v rows x y w h hc;have e:jF rows (x,y)=false:=by unfold jF;rw[hr];rfl
 rw[e]at this;exact this
theorem xL {left:Nat} {d:Dm} (hl:left<U64) (h:aH d=true):decide (left&&&aK d=aK d)=(left.testBit (dM d)&&left.testBit (fU d)):=by
 rw[Bool.eq_iff_iff,decide_eq_true_iff,and_eq_true];constructor
 . intro e;exact⟨nP e _ (by rw[aR h];simp),nP e _ (by rw[aR h];simp)⟩
 . rintro⟨h1,h2⟩;apply Nat.eq_of_testBit_eq;intro i;rw[Nat.testBit_and,aR h];by_cases e1:dM d=i
   . rw[<-e1,h1];simp
   . by_cases e2:fU d=i
     . rw[<-e2,h2];simp
     . simp[e1,e2]
def pF (s left:Nat) (u:List Bool):Prop:=u.length=64/\(∀i,left.testBit i=true->s.testBit i=true)/\∀i,∀h:i<u.length,u[i]=(s.testBit i&& !left.testBit i)
theorem pF.start (s:Nat):pF s s (List.replicate 64 false):=⟨by simp,fun i h=>h,fun i h=>by rw[List.getElem_replicate];simp⟩
theorem pF.step {s left:Nat} {u:List Bool} {d:Dm} (h:pF s left u) (hl:left<U64) (hd:aH d=true) (h1:left.testBit (dM d)=true) (h2:left.testBit (fU d)=true):pF s (dN left (aK d)) ((u.set (dM d) true).set (fU d) true):=by
 refine⟨by simp[h.1],fun i hi=>h.2.1 i ?_,fun i hi=> ?_⟩
 . rw[iQ hl (eB hd),and_eq_true]at hi;exact hi.1
 . rw[iQ hl (eB hd),aR hd,List.getElem_set,List.getElem_set];by_cases e2:fU d=i
   . rw[if_pos e2];subst e2;rw[h.2.1 _ h2];simp
   . rw[if_neg e2];by_cases e1:dM d=i
     . rw[if_pos e1];subst e1;rw[h.2.1 _ h1];simp
     . rw[if_neg e1,h.2.2 i (by simpa using hi)];simp[e1,e2]
theorem pF.bit {s left : Nat} {u : List Bool} (h : pF s left u) {i : Nat} (hi : i < 64) (hs : s.testBit i = true) : u[i]'(by rw [h.1]; exact hi) = !left.testBit i := by
 rw[h.2.2 i (by rw[h.1];exact hi),hs];rfl
theorem pF.out {s left:Nat} {u:List Bool} (h:pF s left u) {i:Nat} (hs:s.testBit i=false):left.testBit i=false:=by
 rcases e:left.testBit i with _|_
 . rfl
 . rw[h.2.1 i e]at hs;exact hs
theorem J6 (v u:Value) (rows:List Int) (l:List Dm) (w:World) (h:Rd 1 bH w v rows) (h2:Rd 3 aU w u l) (Hok:Hid (dJ rows)):Calls prog 104 #[.agg #[v],u] w (Ret (.bool (isPartial rows l)) w):=by
 obtain⟨A,c,rfl,hc,hm⟩:=h.form;obtain⟨A2,c2,rfl,hc2,hm2⟩:=h2.form;have hA:=((Below.refl w.heap.size w).al (.cells #[.slice A rows.length c] 26));have hx:=Blk.bK w 26 #[.slice A rows.length c];have h64:Hid ((64:Int)=((64:Nat):Int)):=OA rfl;have e:isPartial rows l=jN (setOf rows) none l:=by unfold isPartial;rw[aN.2 Hok.out];rfl
 obtain⟨R,hR⟩:=Oy (isPartial rows l);rw[<-hR]at e⊢;have HR:=OA e;clear e hR;have hs:=dX Hok.out;obtain⟨s,hse⟩:=Oy (setOf rows);rw[<-hse]at hs;have HR:Hid (jN s none l=R):=OA (by rw[HR.out,hse]);have Hse:=OA hse;clear hse;go_enter func104,ntmps104
 go_wp2_with (at_make;go_must (refine kS (enc:=G8) (z0:=false) Jj rfl hA 64 (by decide) (by decide) _ h64.out rfl _ _ rfl rfl rfl ?_);intro w1 hown1 hb1 hg1)
 have hx1:=hx.grown hg1 (by simp);go_loopw [6] (fun s6 wr=>∃(k left:Nat) (q:List Bool),k<=l.length/\s6= .int .i64 k/\left<U64/\Hid (jN left (wN l k) (l.drop k)=R)/\Hid (∀e,wN l k=some e->aH e=true)/\Hid (pF s left q)/\aC 4 1 G8 w.heap.size wr (.slice (some ⟨w.heap.size+1,0,none⟩) 64 64) q/\Blk wr w.heap.size 26 #[.slice A rows.length c]/\Below w.heap.size w wr) (fun i _=>l.length-(intOf i).toNat)
 case atStart=>exact⟨0,s,_,zero_le _,rfl,hs,OA HR.out,OA (fun e he=>by cases he),OA (pF.start s),by simpa using hown1,hx1,hb1⟩
 case round=>
  obtain⟨k,left,q,hk,rfl,hleft,Hg,Hp,Hu,hown,bR,hbel⟩:=hrel;have z1:=bR.c1;clear hx hx1 hb1 hg1 hown1;have hgl:w.heap.size+1<wr.heap.size:=hown.at_.2.2;by_cases hlt:k<l.length
  . obtain⟨b,off,rfl,hb,q1,q2,q3⟩:=(h2.Oz hbel).jJ hlt;have hg:=Hg.out;rw[List.drop_eq_getElem_cons hlt,oJ]at hg;obtain⟨d,hd⟩:=Oy (l[k]);rw[<-hd]at q1 q2 q3 hg;obtain⟨x,y,dn⟩:=d;simp only at q1 q2 q3;have hltI:(k:Int)<(l.length:Int):=(by omega);have hk0:(0:Int)<=(k:Int):=(by omega);have Bw:Below wr.heap.size wr wr.drew:=(Below.refl _ _).drew;have hz:wr.heap.size<=wr.drew.heap.size:=(by simp);rcases hok:aH (x,y,dn)with _|_
    . rw[hok]at hg;simp only[Bool.false_and]at hg;have HG:=OA hg;have Hdd:=OA hd;have Hok2:=OA hok;clear hg hd hok;go_wp2_with fail
      refine rB (fun w'=>w'.cell? ⟨b,off+k*3,none⟩=some (.int .i64 x)/\w'.cell? ⟨b,off+k*3+1,none⟩=some (.int .i64 y)/\w'.cell? ⟨b,off+k*3+2,none⟩=some (.bool dn)) fun hHeld=>(tW 0)<|(tW 1)<|(tW 2)<|(tW 3)<|(tR [4])<|tL fun K hK=>?_
      go_simp
      (first|(go_at_call 158;go_must (refine(bM x y dn _).mono ?_;rintro e wX ⟨rfl,hbX⟩;rw[Hok2.out];obtain⟨hcX,hfX,hzX⟩:=bkn hbX wr.heap.size hz;have hz:=hzX;have Bw:=Bw.tr hbX);(try go_wp2_with fail)))
      refine tK hK fun hHeld=>?_
      clear hK K;refine(tW 5)<|(tW 6)<|(tU 7)<|(tU 8)<|(tU 9)<|(tU 10)<|(tU 11)<|(tU 12)<|(tU 13)<|(tU 14)<|(tU 15)<|(tU 16)<|(tU 17)<|(tU 18)<|(tU 19)<|(tU 20)<|(tU 21)<|(tW 22)<|tD ?_;go_wp2;go_ret;exact⟨kN HG.out,hbel.tr Bw⟩
    . rw[hok]at hg;simp only[Bool.true_and]at hg;rcases Nat.eq_zero_or_pos k with rfl|hkp
      . rw[yV]at hg;simp only[nW,Bool.and_true]at hg;have Hok2:=OA hok;have Hdd:=OA hd;have Hg2:=OA hg;clear hok hd hg;simp only[zero_mul,add_zero]at q1 q2 q3;go_wp2_with fail
        refine rB (fun w'=>w'.cell? ⟨b,off,none⟩=some (.int .i64 x)/\w'.cell? ⟨b,off+1,none⟩=some (.int .i64 y)/\w'.cell? ⟨b,off+2,none⟩=some (.bool dn)) fun hHeld=>(tW 0)<|(tW 1)<|(tW 2)<|(tW 3)<|(tR [4])<|tL fun K hK=>?_
        go_simp
        (first|(go_at_call 158;go_must (refine(bM x y dn _).mono ?_;rintro e wX ⟨rfl,hbX⟩;rw[Hok2.out];obtain⟨hcX,hfX,hzX⟩:=bkn hbX wr.heap.size hz;have hz:=hzX;have Bw:=Bw.tr hbX);(try go_wp2_with fail)))
        refine tK hK fun hHeld=>?_
        clear hK K;refine(tW 5)<|(tW 6)<|(tW 7)<|(tW 8)<|(tW 9)<|(tU 10)<|(tU 11)<|(tU 12)<|(tU 13)<|(tU 14)<|(tU 15)<|(tU 16)<|(tU 17)<|(tU 18)<|(tU 19)<|(tU 20)<|(tW 21)<|(tW 22)<|tD ?_;have ownA:=hown.below Bw;have BA:=hbel.tr Bw;have zA:wX.cell? ⟨w.heap.size,0,none⟩=some (.slice A rows.length c):=(Bw.cell (p:=⟨w.heap.size,0,none⟩) (by show w.heap.size<wr.heap.size;omega)).trans z1;have hgA:w.heap.size+1<wX.heap.size:=by have:=Bw.size;omega
        have hbA:b<wX.heap.size:=by have:=Bw.size;omega
        have hgA0:w.heap.size<wX.heap.size:=(by omega);have hn0:w.heap.size≠w.heap.size+1:=(by omega);have r1:=hHeld.1;have r2:=hHeld.2.1;have r3:=(by first|exact hHeld.2.2|exact hHeld.2.2.1:wX.cell? _=some (.bool dn));clear hcX hfX q1 q2 q3 z1;obtain⟨sx,sy,hsec⟩:∃sx sy,sec (x,y,dn)=(sx,sy):=⟨_,_,rfl⟩;obtain⟨hcI,hcJ⟩:=dC Hok2.out;have hsub:=xL hleft Hok2.out;obtain⟨hI64,hJ64⟩:=rT Hok2.out;have hIe:dM (x,y,dn)=(cO (x,y)).toNat:=rfl;have hJe:fU (x,y,dn)=(cO (sx,sy)).toNat:=by unfold fU;rw[hsec]
        rw[hsec]at hcJ;simp only at hcI;have hstep:=fun h1 h2=>Hu.out.step hleft Hok2.out h1 h2
        have hg2:=Hg2.out;rw[hsub]at hg2;obtain⟨D,hD⟩:=Oy (aK (x,y,dn));obtain⟨I,hI⟩:=Oy (dM (x,y,dn));obtain⟨J,hJ⟩:=Oy (fU (x,y,dn));rw[<-hI]at hI64 hIe hg2 hstep;rw[<-hJ]at hJ64 hJe hg2 hstep;rw[<-hD]at hg2 hstep;have hqI:I<q.length:=by rw[Hu.out.1];exact hI64
        have hqJ:J<q.length:=by rw[Hu.out.1];exact hJ64
        have zI:wX.cell? ⟨w.heap.size+1,I,none⟩=some (.bool q[I]):=by
         have:=ownA.slot mP one_pos hqI 0 (.bool q[I]) rfl;rwa [mul_one,add_zero]at this
        have zJ:wX.cell? ⟨w.heap.size+1,J,none⟩=some (.bool q[J]):=by
         have:=ownA.slot mP one_pos hqJ 0 (.bool q[J]) rfl;rwa [mul_one,add_zero]at this
        have hbI:=fun hh=>Hu.out.bit hI64 (i:=I) hh
        have hbJ:=fun hh=>Hu.out.bit hJ64 (i:=J) hh
        have hoI:=fun hh=>Hu.out.out (i:=I) hh
        have hoJ:=fun hh=>Hu.out.out (i:=J) hh
        obtain⟨qI,hqIe⟩:=Oy (q[I]);obtain⟨qJ,hqJe⟩:=Oy (q[J]);rw[<-hqIe]at zI hbI;rw[<-hqJe]at zJ hbJ;have HbI:=OA hbI;have HbJ:=OA hbJ;have HoI:=OA hoI;have HoJ:=OA hoJ;have HG3:=OA hg2;have HST:=OA hstep;have HcI:=OA hcI;have HcJ:=OA hcJ;have HIe:=OA hIe;have HJe:=OA hJe;have Hsec:=OA hsec;have HI:=OA hI;have HJ:=OA hJ;have HD:=OA hD;have HqI:=OA hqIe;have HqJ:=OA hqJe;clear hbI hbJ hoI hoJ hg2 hstep hcI hcJ hIe hJe hsec hsub hI hJ hD hqIe hqJe;have hI0:(0:Int)<=(I:Int):=(by omega);have hJ0:(0:Int)<=(J:Int):=(by omega);have hI6:(I:Int)<64:=(by omega);have hJ6:(J:Int)<64:=(by omega);go_wp2_with fail
        refine(iU x y dn _ Hok2.out).mono ?_;rintro e w7 ⟨rfl,hb7⟩;obtain⟨hc7,hf7,hz7⟩:=bk hb7;(try simp at hz7)
        have hy7_0:w.heap.size<w7.heap.size:=(by omega);have hy7_1:w.heap.size+1<w7.heap.size:=(by omega);have hy7_2:b<w7.heap.size:=(by omega);rw[Hsec.out];have B7:=BA.tr hb7;have hN0:w7.heap.size+1+1<=((w7.alloc (.cells #[.int .i64 x,.int .i64 y] 70)).alloc (.cells #[.int .i64 sx,.int .i64 sy] 70)).heap.size:=(by simp);have hp1:w.heap.size<w7.heap.size+1+1:=(by omega);have hp2:w.heap.size+1<w7.heap.size+1+1:=(by omega);have hp3:w7.heap.size<w7.heap.size+1+1:=(by omega);have hp4:w7.heap.size+1<w7.heap.size+1+1:=(by omega);have hn1:w.heap.size≠w7.heap.size:=(by omega);have hn2:w.heap.size≠w7.heap.size+1:=(by omega);have hn3:w.heap.size+1≠w7.heap.size:=(by omega);have hn4:w7.heap.size≠w.heap.size+1:=(by omega);have hn5:w7.heap.size≠w.heap.size:=(by omega);have hn6:w.heap.size+1≠w7.heap.size+1:=(by omega);have hn7:w7.heap.size+1≠w.heap.size+1:=(by omega);have B7a:=(B7.al (.cells #[.int .i64 x,.int .i64 y] 70)).al (.cells #[.int .i64 sx,.int .i64 sy] 70);have own7:=((ownA.below hb7).alloc (.cells #[.int .i64 x,.int .i64 y] 70)).alloc (.cells #[.int .i64 sx,.int .i64 sy] 70);go_wp2_with fail
        refine(gK _ rows x y s I _ (h.Oz B7a) HcI.out Hok Hse HIe.out).mono ?_;rintro e w8 ⟨rfl,hb8⟩;obtain⟨hc8,hf8,hz8⟩:=bkn hb8 _ hN0;have B8:=B7a.tr hb8;rcases e1:s.testBit I with _|_
        . go_wp2;go_ret;exact⟨kN (by have:=HG3.out;rw[HoI.out e1]at this;simpa using this),B8⟩
        . go_wp2_with fail
          refine(gK _ rows sx sy s J _ (h.Oz B8) HcJ.out Hok Hse HJe.out).mono ?_;rintro e w9 ⟨rfl,hb9⟩;obtain⟨hc9,hf9,hz9⟩:=bkn hb9 _ hz8;have B9:=B8.tr hb9;rcases e2:s.testBit J with _|_
          . go_wp2;go_ret;exact⟨kN (by have:=HG3.out;rw[HoJ.out e2]at this;simpa using this),B9⟩
          . have HvI:=OA (HbI.out e1);have HvJ:=OA (HbJ.out e2);go_wp2_with fail
            refine(fM x y I _ HcI.out HIe.out).mono ?_;rintro e w10 ⟨rfl,hb10⟩;obtain⟨hc10,hf10,hz10⟩:=bkn hb10 _ hz9;have B10:=B9.tr hb10;rcases qI with _|_
            . go_wp2_with fail
              refine(fM sx sy J _ HcJ.out HJe.out).mono ?_;rintro e w11 ⟨rfl,hb11⟩;obtain⟨hc11,hf11,hz11⟩:=bkn hb11 _ hz10;have B11:=B10.tr hb11;rcases qJ with _|_
              . go_wp2_with fail
                refine(fM x y I _ HcI.out HIe.out).mono ?_;rintro e w12 ⟨rfl,hb12⟩;obtain⟨hc12,hf12,hz12⟩:=bkn hb12 _ hz11;have own12:=((((own7.below hb8).below hb9).below hb10).below hb11).below hb12;have bR12:=((((((((bR.bl Bw).bl hb7).alloc (.cells #[.int .i64 x,.int .i64 y] 70)).alloc (.cells #[.int .i64 sx,.int .i64 sy] 70)).bl hb8).bl hb9).bl hb10).bl hb11).bl hb12;have B12:=B11.tr hb12;have hsf12:=own12.free;have own12s:=own12.iJ mP hqI (y:=true) rfl;have HlI:Hid (left.testBit I=true):=OA (by have k:=HvI.out;simpa using k);have HlJ:Hid (left.testBit J=true):=OA (by have k:=HvJ.out;simpa using k);clear hf7 hf8 hf9 hf10 hf11 hf12;go_wp2_with fail
                refine(fM sx sy J _ HcJ.out HJe.out).mono ?_;rintro e w13 ⟨rfl,hb13⟩;have own13:=own12s.below hb13;have bR13:=(bR12.far hn0 _).bl hb13;have B13:=(B12.st ⟨w.heap.size+1,I,none⟩ (.bool true) (le_succ _)).tr hb13;obtain⟨u13,s13⟩:=own13.Az mP (k:=J) (by rw[List.length_set];exact hqJ);have hsf13:=own13.free;clear hc7 hc8 hc9 hc10 hc11 hc12 zI zJ zA hsf12;go_wp2;go_roundw
                case rel=>exact⟨0+1,dN left D,(q.set I true).set J true,by omega,by go_num,eQ hleft,by rw[fC l _ hlt,<-Hdd.out];exact OA (by have:=HG3.out;rw[HlI.out,HlJ.out]at this;simpa using this),OA (fun e he=>by rw[fC l _ hlt,<-Hdd.out]at he;injection he with he;rw[<-he];exact Hok2.out),OA (HST.out HlI.out HlJ.out),own13.iJ mP (by rw[List.length_set];exact hqJ) rfl,bR13.far hn0 _,B13.st _ _ (le_succ _)⟩
                case measure=>simp[intOf];omega
              . go_wp2;go_ret;exact⟨kN (by have:=HG3.out;have k:=HvJ.out;rw[show left.testBit J=false by simpa using k]at this;simpa using this),B11⟩
            . go_wp2;go_ret;exact⟨kN (by have:=HG3.out;have k:=HvI.out;rw[show left.testBit I=false by simpa using k]at this;simpa using this),B10⟩
      . obtain ⟨j, rfl⟩ : ∃ j, k = j + 1 := ⟨k - 1, by omega⟩;have hj:j<l.length:=(by omega);rw[fC l j hj]at hg;have hpok:=Hp.out l[j] (fC l j hj);obtain⟨b',off',e',hb',p1,p2,p3⟩:=(h2.Oz hbel).jJ hj;injection e' with e';injection e' with e1 e2 e3;subst e1;subst e2;simp only[nW]at hg;obtain⟨dp,hdp⟩:=Oy (l[j]);rw[<-hdp]at p1 p2 p3 hg hpok;obtain⟨px,py,pd⟩:=dp;simp only at p1 p2 p3;have Hpok:=OA hpok;have Hdp:=OA hdp;clear hpok hdp e3;have hwj:IntKind.i64.wrap (j:Int)=(j:Int):=IntWalk.i64_in _ (by omega);have hj0:(0:Int)<=(j:Int):=(by omega);have hjI:(j:Int)<(l.length:Int):=(by omega);have hk01:(0:Int)<=(j:Int)+1:=(by omega);have hltI1:(j:Int)+1<(l.length:Int):=(by omega);clear hk0 hltI;rcases hbf:decide (aP (px,py,pd)<aP (x,y,dn))with _|_
        . rw[hbf]at hg;simp only[Bool.and_false,Bool.false_and]at hg;have Hok2:=OA hok;have Hdd:=OA hd;have HG:=OA hg;have Hbf:=OA hbf;clear hok hd hg hbf;go_wp2_with fail
          refine rB (fun w'=>w'.cell? ⟨b,off+(j+1)*3,none⟩=some (.int .i64 x)/\w'.cell? ⟨b,off+(j+1)*3+1,none⟩=some (.int .i64 y)/\w'.cell? ⟨b,off+(j+1)*3+2,none⟩=some (.bool dn)/\w'.cell? ⟨b,off+j*3,none⟩=some (.int .i64 px)/\w'.cell? ⟨b,off+j*3+1,none⟩=some (.int .i64 py)/\w'.cell? ⟨b,off+j*3+2,none⟩=some (.bool pd)) fun hHeld=>(tW 0)<|(tW 1)<|(tW 2)<|(tW 3)<|(tR [4])<|tL fun K hK=>?_
          go_simp
          (first|(go_at_call 158;go_must (refine(bM x y dn _).mono ?_;rintro e wX ⟨rfl,hbX⟩;rw[Hok2.out];obtain⟨hcX,hfX,hzX⟩:=bkn hbX wr.heap.size hz;have hz:=hzX;have Bw:=Bw.tr hbX);(try go_wp2_with fail))|(go_at_call 159;go_must (refine(mI px py pd x y dn _ Hpok.out Hok2.out).mono ?_;rintro e wX ⟨rfl,hbX⟩;rw[Hbf.out];obtain⟨hcX,hfX,hzX⟩:=bkn hbX wr.heap.size hz;have hz:=hzX;have Bw:=Bw.tr hbX);(try go_wp2_with fail)))
          refine tK hK fun hHeld=>?_
          clear hK K;refine(tW 5)<|(tW 6)<|(tW 7)<|(tW 8)<|(tW 9)<|(tW 10)<|(tW 11)<|(tW 12)<|(tW 13)<|(tW 14)<|(tW 15)<|(tW 16)<|(tW 17)<|(tW 18)<|(tR [19])<|tL fun K hK=>?_
          go_simp
          (first|(go_at_call 158;go_must (refine(bM x y dn _).mono ?_;rintro e wX ⟨rfl,hbX⟩;rw[Hok2.out];obtain⟨hcX,hfX,hzX⟩:=bkn hbX wr.heap.size hz;have hz:=hzX;have Bw:=Bw.tr hbX);(try go_wp2_with fail))|(go_at_call 159;go_must (refine(mI px py pd x y dn _ Hpok.out Hok2.out).mono ?_;rintro e wX ⟨rfl,hbX⟩;rw[Hbf.out];obtain⟨hcX,hfX,hzX⟩:=bkn hbX wr.heap.size hz;have hz:=hzX;have Bw:=Bw.tr hbX);(try go_wp2_with fail)))
          refine tK hK fun hHeld=>?_
          clear hK K;refine(tW 20)<|(tW 21)<|(tW 22)<|tD ?_;go_wp2;go_ret;exact⟨kN HG.out,hbel.tr Bw⟩
        . rw[hbf]at hg;simp only[Bool.and_true]at hg;have Hok2:=OA hok;have Hdd:=OA hd;have Hg2:=OA hg;have Hbf:=OA hbf;clear hok hd hg hbf;go_wp2_with fail
          refine rB (fun w'=>w'.cell? ⟨b,off+(j+1)*3,none⟩=some (.int .i64 x)/\w'.cell? ⟨b,off+(j+1)*3+1,none⟩=some (.int .i64 y)/\w'.cell? ⟨b,off+(j+1)*3+2,none⟩=some (.bool dn)/\w'.cell? ⟨b,off+j*3,none⟩=some (.int .i64 px)/\w'.cell? ⟨b,off+j*3+1,none⟩=some (.int .i64 py)/\w'.cell? ⟨b,off+j*3+2,none⟩=some (.bool pd)) fun hHeld=>(tW 0)<|(tW 1)<|(tW 2)<|(tW 3)<|(tR [4])<|tL fun K hK=>?_
          go_simp
          (first|(go_at_call 158;go_must (refine(bM x y dn _).mono ?_;rintro e wX ⟨rfl,hbX⟩;rw[Hok2.out];obtain⟨hcX,hfX,hzX⟩:=bkn hbX wr.heap.size hz;have hz:=hzX;have Bw:=Bw.tr hbX);(try go_wp2_with fail))|(go_at_call 159;go_must (refine(mI px py pd x y dn _ Hpok.out Hok2.out).mono ?_;rintro e wX ⟨rfl,hbX⟩;rw[Hbf.out];obtain⟨hcX,hfX,hzX⟩:=bkn hbX wr.heap.size hz;have hz:=hzX;have Bw:=Bw.tr hbX);(try go_wp2_with fail)))
          refine tK hK fun hHeld=>?_
          clear hK K;refine(tW 5)<|(tW 6)<|(tW 7)<|(tW 8)<|(tW 9)<|(tW 10)<|(tW 11)<|(tW 12)<|(tW 13)<|(tW 14)<|(tW 15)<|(tW 16)<|(tW 17)<|(tW 18)<|(tR [19])<|tL fun K hK=>?_
          go_simp
          (first|(go_at_call 158;go_must (refine(bM x y dn _).mono ?_;rintro e wX ⟨rfl,hbX⟩;rw[Hok2.out];obtain⟨hcX,hfX,hzX⟩:=bkn hbX wr.heap.size hz;have hz:=hzX;have Bw:=Bw.tr hbX);(try go_wp2_with fail))|(go_at_call 159;go_must (refine(mI px py pd x y dn _ Hpok.out Hok2.out).mono ?_;rintro e wX ⟨rfl,hbX⟩;rw[Hbf.out];obtain⟨hcX,hfX,hzX⟩:=bkn hbX wr.heap.size hz;have hz:=hzX;have Bw:=Bw.tr hbX);(try go_wp2_with fail)))
          refine tK hK fun hHeld=>?_
          clear hK K;refine(tW 20)<|(tW 21)<|(tW 22)<|tD ?_;have ownA:=hown.below Bw;have BA:=hbel.tr Bw;have zA:wX.cell? ⟨w.heap.size,0,none⟩=some (.slice A rows.length c):=(Bw.cell (p:=⟨w.heap.size,0,none⟩) (by show w.heap.size<wr.heap.size;omega)).trans z1;have hgA:w.heap.size+1<wX.heap.size:=by have:=Bw.size;omega
          have hbA:b<wX.heap.size:=by have:=Bw.size;omega
          have hgA0:w.heap.size<wX.heap.size:=(by omega);have hn0:w.heap.size≠w.heap.size+1:=(by omega);have r1:=hHeld.1;have r2:=hHeld.2.1;have r3:=(by first|exact hHeld.2.2|exact hHeld.2.2.1:wX.cell? _=some (.bool dn));clear hcX hfX q1 q2 q3 z1;obtain⟨sx,sy,hsec⟩:∃sx sy,sec (x,y,dn)=(sx,sy):=⟨_,_,rfl⟩;obtain⟨hcI,hcJ⟩:=dC Hok2.out;have hsub:=xL hleft Hok2.out;obtain⟨hI64,hJ64⟩:=rT Hok2.out;have hIe:dM (x,y,dn)=(cO (x,y)).toNat:=rfl;have hJe:fU (x,y,dn)=(cO (sx,sy)).toNat:=by unfold fU;rw[hsec]
          rw[hsec]at hcJ;simp only at hcI;have hstep:=fun h1 h2=>Hu.out.step hleft Hok2.out h1 h2
          have hg2:=Hg2.out;rw[hsub]at hg2;obtain⟨D,hD⟩:=Oy (aK (x,y,dn));obtain⟨I,hI⟩:=Oy (dM (x,y,dn));obtain⟨J,hJ⟩:=Oy (fU (x,y,dn));rw[<-hI]at hI64 hIe hg2 hstep;rw[<-hJ]at hJ64 hJe hg2 hstep;rw[<-hD]at hg2 hstep;have hqI:I<q.length:=by rw[Hu.out.1];exact hI64
          have hqJ:J<q.length:=by rw[Hu.out.1];exact hJ64
          have zI:wX.cell? ⟨w.heap.size+1,I,none⟩=some (.bool q[I]):=by
           have:=ownA.slot mP one_pos hqI 0 (.bool q[I]) rfl;rwa [mul_one,add_zero]at this
          have zJ:wX.cell? ⟨w.heap.size+1,J,none⟩=some (.bool q[J]):=by
           have:=ownA.slot mP one_pos hqJ 0 (.bool q[J]) rfl;rwa [mul_one,add_zero]at this
          have hbI:=fun hh=>Hu.out.bit hI64 (i:=I) hh
          have hbJ:=fun hh=>Hu.out.bit hJ64 (i:=J) hh
          have hoI:=fun hh=>Hu.out.out (i:=I) hh
          have hoJ:=fun hh=>Hu.out.out (i:=J) hh
          obtain⟨qI,hqIe⟩:=Oy (q[I]);obtain⟨qJ,hqJe⟩:=Oy (q[J]);rw[<-hqIe]at zI hbI;rw[<-hqJe]at zJ hbJ;have HbI:=OA hbI;have HbJ:=OA hbJ;have HoI:=OA hoI;have HoJ:=OA hoJ;have HG3:=OA hg2;have HST:=OA hstep;have HcI:=OA hcI;have HcJ:=OA hcJ;have HIe:=OA hIe;have HJe:=OA hJe;have Hsec:=OA hsec;have HI:=OA hI;have HJ:=OA hJ;have HD:=OA hD;have HqI:=OA hqIe;have HqJ:=OA hqJe;clear hbI hbJ hoI hoJ hg2 hstep hcI hcJ hIe hJe hsec hsub hI hJ hD hqIe hqJe;have hI0:(0:Int)<=(I:Int):=(by omega);have hJ0:(0:Int)<=(J:Int):=(by omega);have hI6:(I:Int)<64:=(by omega);have hJ6:(J:Int)<64:=(by omega);go_wp2_with fail
          refine(iU x y dn _ Hok2.out).mono ?_;rintro e w7 ⟨rfl,hb7⟩;obtain⟨hc7,hf7,hz7⟩:=bk hb7;(try simp at hz7)
          have hy7_0:w.heap.size<w7.heap.size:=(by omega);have hy7_1:w.heap.size+1<w7.heap.size:=(by omega);have hy7_2:b<w7.heap.size:=(by omega);rw[Hsec.out];have B7:=BA.tr hb7;have hN0:w7.heap.size+1+1<=((w7.alloc (.cells #[.int .i64 x,.int .i64 y] 70)).alloc (.cells #[.int .i64 sx,.int .i64 sy] 70)).heap.size:=(by simp);have hp1:w.heap.size<w7.heap.size+1+1:=(by omega);have hp2:w.heap.size+1<w7.heap.size+1+1:=(by omega);have hp3:w7.heap.size<w7.heap.size+1+1:=(by omega);have hp4:w7.heap.size+1<w7.heap.size+1+1:=(by omega);have hn1:w.heap.size≠w7.heap.size:=(by omega);have hn2:w.heap.size≠w7.heap.size+1:=(by omega);have hn3:w.heap.size+1≠w7.heap.size:=(by omega);have hn4:w7.heap.size≠w.heap.size+1:=(by omega);have hn5:w7.heap.size≠w.heap.size:=(by omega);have hn6:w.heap.size+1≠w7.heap.size+1:=(by omega);have hn7:w7.heap.size+1≠w.heap.size+1:=(by omega);have B7a:=(B7.al (.cells #[.int .i64 x,.int .i64 y] 70)).al (.cells #[.int .i64 sx,.int .i64 sy] 70);have own7:=((ownA.below hb7).alloc (.cells #[.int .i64 x,.int .i64 y] 70)).alloc (.cells #[.int .i64 sx,.int .i64 sy] 70);go_wp2_with fail
          refine(gK _ rows x y s I _ (h.Oz B7a) HcI.out Hok Hse HIe.out).mono ?_;rintro e w8 ⟨rfl,hb8⟩;obtain⟨hc8,hf8,hz8⟩:=bkn hb8 _ hN0;have B8:=B7a.tr hb8;rcases e1:s.testBit I with _|_
          . go_wp2;go_ret;exact⟨kN (by have:=HG3.out;rw[HoI.out e1]at this;simpa using this),B8⟩
          . go_wp2_with fail
            refine(gK _ rows sx sy s J _ (h.Oz B8) HcJ.out Hok Hse HJe.out).mono ?_;rintro e w9 ⟨rfl,hb9⟩;obtain⟨hc9,hf9,hz9⟩:=bkn hb9 _ hz8;have B9:=B8.tr hb9;rcases e2:s.testBit J with _|_
            . go_wp2;go_ret;exact⟨kN (by have:=HG3.out;rw[HoJ.out e2]at this;simpa using this),B9⟩
            . have HvI:=OA (HbI.out e1);have HvJ:=OA (HbJ.out e2);go_wp2_with fail
              refine(fM x y I _ HcI.out HIe.out).mono ?_;rintro e w10 ⟨rfl,hb10⟩;obtain⟨hc10,hf10,hz10⟩:=bkn hb10 _ hz9;have B10:=B9.tr hb10;rcases qI with _|_
              . go_wp2_with fail
                refine(fM sx sy J _ HcJ.out HJe.out).mono ?_;rintro e w11 ⟨rfl,hb11⟩;obtain⟨hc11,hf11,hz11⟩:=bkn hb11 _ hz10;have B11:=B10.tr hb11;rcases qJ with _|_
                . go_wp2_with fail
                  refine(fM x y I _ HcI.out HIe.out).mono ?_;rintro e w12 ⟨rfl,hb12⟩;obtain⟨hc12,hf12,hz12⟩:=bkn hb12 _ hz11;have own12:=((((own7.below hb8).below hb9).below hb10).below hb11).below hb12;have bR12:=((((((((bR.bl Bw).bl hb7).alloc (.cells #[.int .i64 x,.int .i64 y] 70)).alloc (.cells #[.int .i64 sx,.int .i64 sy] 70)).bl hb8).bl hb9).bl hb10).bl hb11).bl hb12;have B12:=B11.tr hb12;have hsf12:=own12.free;have own12s:=own12.iJ mP hqI (y:=true) rfl;have HlI:Hid (left.testBit I=true):=OA (by have k:=HvI.out;simpa using k);have HlJ:Hid (left.testBit J=true):=OA (by have k:=HvJ.out;simpa using k);clear hf7 hf8 hf9 hf10 hf11 hf12;go_wp2_with fail
                  refine(fM sx sy J _ HcJ.out HJe.out).mono ?_;rintro e w13 ⟨rfl,hb13⟩;have own13:=own12s.below hb13;have bR13:=(bR12.far hn0 _).bl hb13;have B13:=(B12.st ⟨w.heap.size+1,I,none⟩ (.bool true) (le_succ _)).tr hb13;obtain⟨u13,s13⟩:=own13.Az mP (k:=J) (by rw[List.length_set];exact hqJ);have hsf13:=own13.free;clear hc7 hc8 hc9 hc10 hc11 hc12 zI zJ zA hsf12;go_wp2;go_roundw
                  case rel=>exact⟨(j+1)+1,dN left D,(q.set I true).set J true,by omega,by go_num,eQ hleft,by rw[fC l _ hlt,<-Hdd.out];exact OA (by have:=HG3.out;rw[HlI.out,HlJ.out]at this;simpa using this),OA (fun e he=>by rw[fC l _ hlt,<-Hdd.out]at he;injection he with he;rw[<-he];exact Hok2.out),OA (HST.out HlI.out HlJ.out),own13.iJ mP (by rw[List.length_set];exact hqJ) rfl,bR13.far hn0 _,B13.st _ _ (le_succ _)⟩
                  case measure=>simp[intOf];omega
                . go_wp2;go_ret;exact⟨kN (by have:=HG3.out;have k:=HvJ.out;rw[show left.testBit J=false by simpa using k]at this;simpa using this),B11⟩
              . go_wp2;go_ret;exact⟨kN (by have:=HG3.out;have k:=HvI.out;rw[show left.testBit I=false by simpa using k]at this;simpa using this),B10⟩
  . obtain rfl : k = l.length := by omega
    have hg:=Hg.out;rw[List.drop_of_length_le (le_refl _)]at hg;have HG:=OA hg;clear hg;go_wp2_with fail
    refine(dK _ rows _ (h.Oz hbel)).mono ?_;rintro e w1 ⟨rfl,hb1⟩;obtain⟨hc1,hf1,hz1⟩:=bk hb1;(try simp at hz1)
    have hy1_0:w.heap.size<w1.heap.size:=(by omega);rw[aN.2 Hok.out];go_wp2;go_ret;exact⟨kN HG.out,hbel.tr hb1⟩
theorem KU (v u:Value) (rows:List Int) (l:List Dm) (w:World) (h:Rd 1 bH w v rows) (h2:Rd 3 aU w u l) (hr:aZ rows=false):Calls prog 104 #[.agg #[v],u] w (Ret (.bool false) w):=by
 obtain⟨A,c,rfl,hc,hm⟩:=h.form;obtain⟨A2,c2,rfl,hc2,hm2⟩:=h2.form;have hA:=((Below.refl w.heap.size w).al (.cells #[.slice A rows.length c] 26));have hx:=Blk.bK w 26 #[.slice A rows.length c];have h64:Hid ((64:Int)=((64:Nat):Int)):=OA rfl;have Hr:=OA hr;clear hr;go_enter func104,ntmps104
 go_wp2_with (at_make;go_must (refine kS (enc:=G8) (z0:=false) Jj rfl hA 64 (by decide) (by decide) _ h64.out rfl _ _ rfl rfl rfl ?_);intro w1 hown1 hb1 hg1)
 have hx1:=hx.grown hg1 (by simp);have z1:=hx1.c1;have hgl:=hx1.lt;have hb:∀b,b<w.heap.size->b<w1.heap.size:=fun b hb=>by omega
 refine wp_loop_rounds 1 ?_;rw[rounds_succ];by_cases hl:0<l.length
 . obtain⟨b,off,rfl,hb,q1,q2,q3⟩:=(h2.Oz hb1).jJ hl;simp only[zero_mul,add_zero]at q1 q2 q3;obtain⟨d,hd⟩:=Oy (l[0]);rw[<-hd]at q1 q2 q3;obtain⟨x,y,dn⟩:=d;simp only at q1 q2 q3;have hltI:((0:Nat):Int)<(l.length:Int):=(by omega);have hltI0:(0:Int)<(l.length:Int):=(by omega);obtain⟨wr,hwr⟩:=Oy w1;subst hwr;have Bw:Below wr.heap.size wr wr.drew:=(Below.refl _ _).drew;have hz:wr.heap.size<=wr.drew.heap.size:=(by simp);clear hd;rcases hok:aH (x,y,dn)with _|_
   . have Hok2:=OA hok;clear hok;go_wp2_with fail
     refine rB (fun w'=>w'.cell? ⟨b,off,none⟩=some (.int .i64 x)/\w'.cell? ⟨b,off+1,none⟩=some (.int .i64 y)/\w'.cell? ⟨b,off+2,none⟩=some (.bool dn)) fun hHeld=>(tW 0)<|(tW 1)<|(tW 2)<|(tW 3)<|(tR [4])<|tL fun K hK=>?_
     go_simp
     (first|(go_at_call 158;go_must (refine(bM x y dn _).mono ?_;rintro e wX ⟨rfl,hbX⟩;rw[Hok2.out];obtain⟨hcX,hfX,hzX⟩:=bkn hbX wr.heap.size hz;have hz:=hzX;have Bw:=Bw.tr hbX);(try go_wp2_with fail)))
     refine tK hK fun hHeld=>?_
     clear hK K;refine(tW 5)<|(tW 6)<|(tU 7)<|(tU 8)<|(tU 9)<|(tU 10)<|(tU 11)<|(tU 12)<|(tU 13)<|(tU 14)<|(tU 15)<|(tU 16)<|(tU 17)<|(tU 18)<|(tU 19)<|(tU 20)<|(tU 21)<|(tW 22)<|tD ?_;go_wp2;go_ret;exact⟨rfl,hb1.tr Bw⟩
   . have Hok2:=OA hok;clear hok;go_wp2_with fail
     refine rB (fun w'=>w'.cell? ⟨b,off,none⟩=some (.int .i64 x)/\w'.cell? ⟨b,off+1,none⟩=some (.int .i64 y)/\w'.cell? ⟨b,off+2,none⟩=some (.bool dn)) fun hHeld=>(tW 0)<|(tW 1)<|(tW 2)<|(tW 3)<|(tR [4])<|tL fun K hK=>?_
     go_simp
     (first|(go_at_call 158;go_must (refine(bM x y dn _).mono ?_;rintro e wX ⟨rfl,hbX⟩;rw[Hok2.out];obtain⟨hcX,hfX,hzX⟩:=bkn hbX wr.heap.size hz;have hz:=hzX;have Bw:=Bw.tr hbX);(try go_wp2_with fail)))
     refine tK hK fun hHeld=>?_
     clear hK K;refine(tW 5)<|(tW 6)<|(tW 7)<|(tW 8)<|(tW 9)<|(tU 10)<|(tU 11)<|(tU 12)<|(tU 13)<|(tU 14)<|(tU 15)<|(tU 16)<|(tU 17)<|(tU 18)<|(tU 19)<|(tU 20)<|(tW 21)<|(tW 22)<|tD ?_;have r1:=hHeld.1;have r2:=hHeld.2.1;have r3:=hHeld.2.2;have BA:=hb1.tr Bw;have zA:wX.cell? ⟨w.heap.size,0,none⟩=some (.slice A rows.length c):=(Bw.cell (p:=⟨w.heap.size,0,none⟩) (by show w.heap.size<wr.heap.size;omega)).trans z1;have hbA:b<wX.heap.size:=by have:=Bw.size;omega
     have hgA0:w.heap.size<wX.heap.size:=by have:=Bw.size;omega
     clear hcX hfX q1 q2 q3 z1;obtain⟨hcI,hcJ⟩:=dC Hok2.out;obtain⟨sx,sy,hsec⟩:∃sx sy,sec (x,y,dn)=(sx,sy):=⟨_,_,rfl⟩;simp only at hcI;have HcI:=OA hcI;have Hsec:=OA hsec;clear hcI hcJ hsec;go_wp2_with fail
     refine(iU x y dn _ Hok2.out).mono ?_;rintro e w7 ⟨rfl,hb7⟩;obtain⟨hc7,hf7,hz7⟩:=bk hb7;(try simp at hz7)
     have hy7_0:w.heap.size<w7.heap.size:=(by omega);have hy7_1:b<w7.heap.size:=(by omega);rw[Hsec.out];have B7:=BA.tr hb7;have hp1:w.heap.size<w7.heap.size+1+1:=(by omega);have hn1:w.heap.size≠w7.heap.size:=(by omega);have hn2:w.heap.size≠w7.heap.size+1:=(by omega);have B7a:=(B7.al (.cells #[.int .i64 x,.int .i64 y] 70)).al (.cells #[.int .i64 sx,.int .i64 sy] 70);go_wp2_with fail
     refine(yX _ rows x y _ (h.Oz B7a) HcI.out Hr.out).mono ?_;rintro e w8 ⟨rfl,hb8⟩;go_wp2;go_ret;exact⟨rfl,B7a.tr hb8⟩
 . have hl0 : l.length = 0 := by omega
   obtain rfl:l=[]:=List.length_eq_zero_iff.1 hl0;clear hl0 hl hb;go_wp2_with fail
   refine(dK _ rows _ (h.Oz hb1)).mono ?_;rintro e w2 ⟨rfl,hb2⟩;obtain⟨hc2,hf2,hz2⟩:=bk hb2;(try simp at hz2)
   have hy2_0:w.heap.size<w2.heap.size:=(by omega);rw[Hr.out];go_wp2;go_ret;exact⟨rfl,hb1.tr hb2⟩
theorem DD (v u:Value) (rows:List Int) (l:List Dm) (w:World) (h:Rd 1 bH w v rows) (h2:Rd 3 aU w u l):Calls prog 104 #[.agg #[v],u] w (Ret (.bool (isPartial rows l)) w):=by
 rcases hr:aZ rows with _|_
 . have e : isPartial rows l = false := by unfold isPartial; rw [hr]; rfl
   rw[e];exact KU v u rows l w h h2 hr
 . exact J6 v u rows l w h h2 (OA (aN.1 hr))
end Go.Proofs.YtljfoohaapckeaaGreatDoor
