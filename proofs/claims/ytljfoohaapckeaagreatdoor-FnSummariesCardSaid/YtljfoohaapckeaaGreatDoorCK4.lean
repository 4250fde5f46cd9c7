/- Dominoes as sets and in order; IsPartial of the program: the walks. Conditions: valid dominoes where said. IsPartial of the program: the walk. No conditions but sizes. What a floor's lines show: plain laws of dominoes over cells and of partial coverings. DominoAt of both sides; HasCell, CellIndex, IsDominoBefore of the reference: the walks. No conditions but sizes and validity where said. CellIndex, HasCell, IsDominoBefore, DominoAt of the reference: the walks. No conditions but sizes and validity where said. IsPartial of the reference: the walk. No conditions but sizes. IsPartial of the reference at any region. No conditions but sizes.. Conditions, where there are any, stand in the statements. -/
import Derived.Test.YtljfoohaapckeaaGreatDoorCK3
import Derived.Test.YtljfoohaapckeaaGreatDoorCK2
import Derived.Deep.RegionHeld3
import Derived.Deep.DeepCutAuto
open _root_.Nat (zero_le zero_mul add_zero le_refl one_pos mul_one le_succ)
open _root_.Bool (and_eq_true)
open _root_.Go.Proofs.Tryz (prog func194 ntmps194 func108 ntmps108 func164 ntmps164 func161 ntmps161 func104 ntmps104)
namespace Go.Proofs.YtljfoohaapckeaaGreatDoor
open Go.ChangeShapes Go.WideShapes Go.ChangeAt Go.RowKit
set_option linter.unusedVariables false
set_option maxHeartbeats 4000000
set_option maxRecDepth 100000
def aS (d:Dm):Int:=2*(d.2.1*8+d.1)+if d.2.2 then 1 else 0
def eZ (d:Dm):Nat:=(dF (d.1,d.2.1)).toNat
def iZ (d:Dm):Nat:=(dF (sec d)).toNat
def aG (d:Dm):Nat:=uF (uF 0 (eZ d)) (iZ d)
theorem Aq {d:Dm} (h:aJ d=true):eZ d<64/\iZ d<64:=by
 have h1:aX (d.1,d.2.1)=true:=by unfold aJ at h;rw[and_eq_true]at h;exact h.1
 have h2:aX (sec d)=true:=by unfold aJ at h;rw[and_eq_true]at h;exact h.2
 have a:=dQ h1;have b:=dQ h2;unfold eZ iZ;omega
theorem nR:0<U64:=by unfold U64;decide
theorem dJ {d:Dm} (h:aJ d=true):aG d<U64:=by
 obtain⟨a,b⟩:=Aq h;exact EC (EC nR a) b
theorem Dp (x y:Int) (d:Bool) (w:World) (hd:aJ (x,y,d)=true):Calls prog 194 #[.agg #[.int .i64 x,.int .i64 y,.bool d]] w (Ret (.int .i64 (aS (x,y,d))) w):=by
 have D1:=mO hd;simp only at D1;obtain⟨⟨x1,x2⟩,y1,y2⟩:=D1;have hc:aX (x,y)=true:=by unfold aJ at hd;rw[and_eq_true]at hd;exact hd.1
 have e:=(dQ hc).1;simp only at e;have He:=SQ e;clear e hc;cases d
 . go_enter func194,ntmps194
   go_wp2_with fail
   refine(mQ x y _).mono ?_;rintro e w1 ⟨rfl,hb1⟩;obtain⟨hc1,hf1,hz1⟩:=bk hb1;(try simp at hz1)
   have hy1_0:w.heap.size<w1.heap.size:=(by omega);rw[He.out];go_wp2;go_ret;exact⟨FC (by simp[aS]),((Below.refl _ _).al _).tr hb1⟩
 . go_enter func194,ntmps194
   go_wp2_with fail
   refine(mQ x y _).mono ?_;rintro e w1 ⟨rfl,hb1⟩;obtain⟨hc1,hf1,hz1⟩:=bk hb1;(try simp at hz1)
   have hy1_0:w.heap.size<w1.heap.size:=(by omega);rw[He.out];go_wp2;go_ret;exact⟨FC (by simp[aS]),((Below.refl _ _).al _).tr hb1⟩
theorem MP {d:Dm} (h:aJ d=true):0<=aS d/\aS d<=127:=by
 have D1:=mO h;unfold aS;split<;>omega
theorem AY (x y:Int) (d:Bool) (w:World) (hd:aJ (x,y,d)=true):Calls prog 142 #[.agg #[.int .i64 x,.int .i64 y,.bool d]] w (Ret (.bool true) w):=by
 have:=aP x y d w;rw[hd]at this;exact this
theorem Bv (x y:Int) (d:Bool) (x' y':Int) (d':Bool) (w:World) (hd:aJ (x,y,d)=true) (hd':aJ (x',y',d')=true):
 Calls prog 166 #[.agg #[.int .i64 x,.int .i64 y,.bool d],.agg #[.int .i64 x',.int .i64 y',.bool d']] w (Ret (.bool (decide (aS (x,y,d)<aS (x',y',d')))) w):=by
 have hA:=((Below.refl w.heap.size w).al (.cells #[.int .i64 x,.int .i64 y,.bool d] 60)).al (.cells #[.int .i64 x',.int .i64 y',.bool d'] 60);have hz:w.heap.size+1+1<=((w.alloc (.cells #[.int .i64 x,.int .i64 y,.bool d] 60)).alloc (.cells #[.int .i64 x',.int .i64 y',.bool d'] 60)).drew.heap.size:=(by simp);have Bacc:=hA.drew;have Hd:=SQ hd;have Hd':=SQ hd';clear hd hd';have hp0:w.heap.size<w.heap.size+1+1:=(by omega);have hp1:w.heap.size+1<w.heap.size+1+1:=(by omega);go_enter Tryz.func166,Tryz.ntmps166
 go_wp2_with fail
 go_region_held3 (fun w'=>w'.cell? ⟨w.heap.size,0,none⟩=some (.int .i64 x)/\w'.cell? ⟨w.heap.size,1,none⟩=some (.int .i64 y)/\w'.cell? ⟨w.heap.size,2,none⟩=some (.bool d)/\w'.cell? ⟨w.heap.size+1,0,none⟩=some (.int .i64 x')/\w'.cell? ⟨w.heap.size+1,1,none⟩=some (.int .i64 y')/\w'.cell? ⟨w.heap.size+1,2,none⟩=some (.bool d')) (go_keep) (first|(go_at_call 142;go_must (refine(AY _ _ _ _ (by first|exact Hd.out|exact Hd'.out)).mono ?_;rintro e wX ⟨rfl,hbX⟩;obtain⟨hcX,hfX,hzX⟩:=bkn hbX (w.heap.size+1+1) hz;have hz:=hzX;have Bacc:=Bacc.tr hbX))|(go_at_call 194;go_must (refine(Dp _ _ _ _ (by first|exact Hd.out|exact Hd'.out)).mono ?_;rintro e wX ⟨rfl,hbX⟩;obtain⟨hcX,hfX,hzX⟩:=bkn hbX (w.heap.size+1+1) hz;have hz:=hzX;have Bacc:=Bacc.tr hbX)))
 go_wp2;go_ret;exact⟨rfl,Bacc⟩
theorem MQ (S:Int) (s:Nat) (x y:Int) (w:World) (hS:S=(s:Int)) (hs:s<U64) (hc:aX (x,y)=true):Calls prog 190 #[.int .u64 S,.agg #[.int .i64 x,.int .i64 y]] w (Ret (.int .u64 (uF s (dF (x,y)).toNat:Nat)) w):=by
 subst hS;exact MN s x y w hs hc
theorem cO (x y:Int) (d:Bool) (w:World) (hd:aJ (x,y,d)=true):Calls prog 143 #[.agg #[.int .i64 x,.int .i64 y,.bool d]] w (Ret (.int .u64 (aG (x,y,d):Nat)) w):=by
 have h1:aX (x,y)=true:=by unfold aJ at hd;rw[and_eq_true]at hd;exact hd.1
 have h2:aX (sec (x,y,d))=true:=by unfold aJ at hd;rw[and_eq_true]at hd;exact hd.2
 have hI:=(Aq hd).1;have hs1:uF 0 (eZ (x,y,d))<U64:=EC nR hI;have e:aG (x,y,d)=uF (uF 0 (dF (x,y)).toNat) (dF (sec (x,y,d))).toNat:=rfl;have hs1':uF 0 (dF (x,y)).toNat<U64:=hs1;obtain⟨s,hs⟩:=SL (sec (x,y,d));rw[<-hs]at h2 e;obtain⟨sx,sy⟩:=s;obtain⟨D,hD⟩:=SL (aG (x,y,d));rw[<-hD]at e⊢;have H1:=SQ h1;have H2:=SQ h2;have Hs:=SQ hs;have He:=SQ e;have Hs1:=SQ hs1';clear h1 h2 hs e hs1 hs1' hI hD hd;go_enter Tryz.func143,Tryz.ntmps143
 go_wp2_with fail
 refine(lW x y d _).mono ?_;rintro e w1 ⟨rfl,hb1⟩;obtain⟨hc1,hf1,hz1⟩:=bk hb1;(try simp at hz1)
 have hy1_0:w.heap.size<w1.heap.size:=(by omega);rw[<-Hs.out];have hA:=((((Below.refl _ _).al _).tr hb1).al (.cells #[.int .i64 x,.int .i64 y] 70)).al (.cells #[.int .i64 sx,.int .i64 sy] 70);have hz:w1.heap.size+1+1<=((w1.alloc (.cells #[.int .i64 x,.int .i64 y] 70)).alloc (.cells #[.int .i64 sx,.int .i64 sy] 70)).drew.heap.size:=(by simp);have Bacc:=hA.drew;have hp0:w1.heap.size<w1.heap.size+1+1:=(by omega);have hp1:w1.heap.size+1<w1.heap.size+1+1:=(by omega);go_wp2_with fail
 go_region_held3 (fun w'=>w'.cell? ⟨w1.heap.size,0,none⟩=some (.int .i64 x)/\w'.cell? ⟨w1.heap.size,1,none⟩=some (.int .i64 y)/\w'.cell? ⟨w1.heap.size+1,0,none⟩=some (.int .i64 sx)/\w'.cell? ⟨w1.heap.size+1,1,none⟩=some (.int .i64 sy)) (go_keep) (first|(go_at_call 190;go_must (refine(MQ _ _ _ _ _ (by first|exact(rfl:(0:Int)=((0:Nat):Int))|rfl) (by first|exact nR|exact Hs1.out) (by first|exact H1.out|exact H2.out)).mono ?_;rintro e wX ⟨rfl,hbX⟩;obtain⟨hcX,hfX,hzX⟩:=bkn hbX (w1.heap.size+1+1) hz;have hz:=hzX;have Bacc:=Bacc.tr hbX)))
 go_wp2;go_ret;exact⟨Sv (by rw[He.out]),Bacc⟩
def kJ (left:Nat):Option Dm->List Dm->Bool
  |_,[]=>true
  |p,d::r=>aJ d&&decide (left&&&aG d=aG d)&&(match p with|none=>true|some e=>decide (aS e<aS d))&&kJ (dB left (aG d)) (some d) r
def isPartial (rows:List Int) (l:List Dm):Bool:=aZ rows&&kJ (setOf rows) none l
end Go.Proofs.YtljfoohaapckeaaGreatDoor
namespace Go.Proofs.YtljfoohaapckeaaGreatDoor
open Go.ChangeShapes Go.WideShapes Go.ChangeAt Go.RowKit
set_option linter.unusedVariables false
set_option linter.unusedSimpArgs false
set_option maxHeartbeats 4000000
set_option maxRecDepth 100000
def zW (l:List Dm) (k:Nat):Option Dm:=if k=0 then none else l[k-1]?
theorem Bz (l:List Dm):zW l 0=none:=rfl
theorem fP (l:List Dm) (k:Nat) (h:k<l.length):zW l (k+1)=some l[k]:=by
 unfold zW;rw[if_neg (by omega)];simp[h]
def qO (p:Option Dm) (d:Dm):Bool:=match p with|none=>true|some e=>decide (aS e<aS d)
theorem rA (left:Nat) (p:Option Dm) (d:Dm) (r:List Dm):kJ left p (d::r)=(aJ d&&decide (left&&&aG d=aG d)&&qO p d&&kJ (dB left (aG d)) (some d) r):=rfl
theorem sU {a b:Nat} (ha:a<U64) (hb:b<U64):bits .and .u64 (a:Int) (b:Int)=((a&&&b:Nat):Int)/\bits .andNot .u64 (a:Int) (b:Int)=((dB a b:Nat):Int):=by
 unfold U64 at ha hb;exact⟨u64_and_nat a b ha hb,u64_andNot_nat a b ha hb⟩
theorem SA {a b:Nat} (h:a=b):Value.int .u64 a=Value.int .u64 b:=by rw[h]
theorem pK (v u:Value) (rows:List Int) (l:List Dm) (w:World) (h:Rd 1 bV w v rows) (h2:Rd 3 bG w u l):Calls prog 108 #[.agg #[v],u] w (Ret (.bool (isPartial rows l)) w):=by
 obtain⟨A,c,rfl,hc,hm⟩:=h.form;obtain⟨A2,c2,rfl,hc2,hm2⟩:=h2.form;have hA:=((Below.refl w.heap.size w).al (.cells #[.slice A rows.length c] 26));have h':=h.SN hA;rcases hr:aZ rows with _|_
 . have e : isPartial rows l = false := by unfold isPartial; rw [hr]; rfl
   rw[e];go_enter func108,ntmps108
   go_wp2_with fail
   refine(nE _ rows _ h').mono ?_;rintro e w1 ⟨rfl,hb1⟩;obtain⟨hc1,hf1,hz1⟩:=bk hb1;(try simp at hz1)
   have hy1_0:w.heap.size<w1.heap.size:=(by omega);rw[hr];go_wp2;go_ret;exact⟨rfl,hA.tr hb1⟩
 . have e : isPartial rows l = kJ (setOf rows) none l := by unfold isPartial; rw [hr]; rfl
   rw[e];have hok:=aO.1 hr;have hs:=dM hok;have Hok:=SQ hok;clear hok e;go_enter func108,ntmps108
   go_wp2_with fail
   refine(nE _ rows _ h').mono ?_;rintro e w1 ⟨rfl,hb1⟩;obtain⟨hc1,hf1,hz1⟩:=bk hb1;(try simp at hz1)
   have hy1_0:w.heap.size<w1.heap.size:=(by omega);rw[hr];go_wp2_with fail
   refine(nW _ rows _ (h'.SN hb1) Hok).mono ?_;rintro e w2 ⟨rfl,hb2⟩;obtain⟨s,hse⟩:=SL (setOf rows);rw[<-hse]at hs⊢;have Hse:=SQ hse;clear hse hr;have B2:=(hA.tr hb1).tr hb2;clear hc1 hf1 hz1 hy1_0 hb1 hb2 h';go_wp2;go_loopw [5,15] (fun s5 s15 wr=>∃k left:Nat,k<=l.length/\s15= .int .i64 k/\s5= .int .u64 left/\left<U64/\Hid (kJ left (zW l k) (l.drop k)=kJ s none l)/\Hid (∀e,zW l k=some e->aJ e=true)/\Below w.heap.size w wr) (fun _ i _=>l.length-(intOf i).toNat)
   case atStart=>exact⟨0,s,zero_le _,rfl,rfl,hs,SQ rfl,SQ (fun e he=>by cases he),B2⟩
   case round=>
    obtain⟨k,left,hk,rfl,rfl,hleft,Hg,Hp,hbel⟩:=hrel;clear B2;by_cases hlt:k<l.length
    . obtain⟨b,off,rfl,hb,q1,q2,q3⟩:=(h2.SN hbel).kN hlt;have hg:=Hg.out;rw[List.drop_eq_getElem_cons hlt,rA]at hg;obtain⟨d,hd⟩:=SL (l[k]);rw[<-hd]at q1 q2 q3 hg;obtain⟨x,y,dn⟩:=d;simp only at q1 q2 q3;have hbz:=hbel.al (.cells #[.int .i64 x,.int .i64 y,.bool dn] 60);have Bacc:=hbz.drew;have hz:wr.heap.size+1<=(wr.alloc (.cells #[.int .i64 x,.int .i64 y,.bool dn] 60)).drew.heap.size:=(by simp);have hp0:wr.heap.size<wr.heap.size+1:=(by omega);rcases hok:aJ (x,y,dn)with _|_
      . rw[hok]at hg;simp only[Bool.false_and]at hg;have HG:=SQ hg;have Hdd:=SQ hd;have Hok2:=SQ hok;clear hg hd hok;go_wp2_with fail
        refine rB (fun w'=>w'.cell? ⟨wr.heap.size,0,none⟩=some (.int .i64 x)/\w'.cell? ⟨wr.heap.size,1,none⟩=some (.int .i64 y)/\w'.cell? ⟨wr.heap.size,2,none⟩=some (.bool dn)) fun hHeld=>(tW 0)<|(tR [1])<|tL fun K hK=>?_
        go_simp
        (first|(go_at_call 142;go_must (refine(aP x y dn _).mono ?_;rintro e wX ⟨rfl,hbX⟩;rw[Hok2.out];obtain⟨hcX,hfX,hzX⟩:=bkn hbX (wr.heap.size+1) hz;have hz:=hzX;have Bacc:=Bacc.tr hbX);(try go_wp2_with fail)))
        refine tK hK fun hHeld=>?_
        clear hK K;refine(tW 2)<|(tW 3)<|(tU 4)<|(tU 5)<|(tU 6)<|(tU 7)<|(tU 8)<|(tU 9)<|(tU 10)<|(tW 11)<|(tW 12)<|(tU 13)<|(tU 14)<|(tU 15)<|(tU 16)<|(tU 17)<|(tU 18)<|(tU 19)<|(tU 20)<|(tU 21)<|(tU 22)<|(tU 23)<|(tU 24)<|(tW 25)<|tD ?_
        all_goals
          go_wp2;go_ret;exact⟨lD (by have:=HG.out;rw[Hse.out]at this;exact this),Bacc⟩
      . rw[hok]at hg;simp only[Bool.true_and]at hg;have hDlt:=dJ hok;obtain⟨D,hD⟩:=SL (aG (x,y,dn));rw[<-hD]at hg hDlt;obtain⟨hand,hnot⟩:=sU hleft hDlt;have HD:=SQ hD;have Hok2:=SQ hok;have Hdd:=SQ hd;clear hD hok hd;rcases hsub:decide (left&&&D=D)with _|_
        . rw[hsub]at hg;simp only[Bool.false_and]at hg
          have hne:(((left&&&D:Nat):Int) !=(D:Int))=true:=by
           rw[decide_eq_false_iff_not]at hsub;rw[bne_iff_ne];omega
          have HG:=SQ hg;clear hg hsub;go_wp2_with fail
          refine rB (fun w'=>w'.cell? ⟨wr.heap.size,0,none⟩=some (.int .i64 x)/\w'.cell? ⟨wr.heap.size,1,none⟩=some (.int .i64 y)/\w'.cell? ⟨wr.heap.size,2,none⟩=some (.bool dn)) fun hHeld=>(tW 0)<|(tR [1])<|tL fun K hK=>?_
          go_simp
          (first|(go_at_call 142;go_must (refine(aP x y dn _).mono ?_;rintro e wX ⟨rfl,hbX⟩;rw[Hok2.out];obtain⟨hcX,hfX,hzX⟩:=bkn hbX (wr.heap.size+1) hz;have hz:=hzX;have Bacc:=Bacc.tr hbX);(try go_wp2_with fail))|(go_at_call 143;go_must (refine(cO x y dn _ Hok2.out).mono ?_;rintro e wX ⟨rfl,hbX⟩;rw[<-HD.out];obtain⟨hcX,hfX,hzX⟩:=bkn hbX (wr.heap.size+1) hz;have hz:=hzX;have Bacc:=Bacc.tr hbX);(try go_wp2_with fail)))
          refine tK hK fun hHeld=>?_
          clear hK K;refine(tW 2)<|(tW 3)<|(tW 4)<|(tW 5)<|(tW 8)<|(tR [6])<|tL fun K hK=>?_
          go_simp
          (first|(go_at_call 142;go_must (refine(aP x y dn _).mono ?_;rintro e wX ⟨rfl,hbX⟩;rw[Hok2.out];obtain⟨hcX,hfX,hzX⟩:=bkn hbX (wr.heap.size+1) hz;have hz:=hzX;have Bacc:=Bacc.tr hbX);(try go_wp2_with fail))|(go_at_call 143;go_must (refine(cO x y dn _ Hok2.out).mono ?_;rintro e wX ⟨rfl,hbX⟩;rw[<-HD.out];obtain⟨hcX,hfX,hzX⟩:=bkn hbX (wr.heap.size+1) hz;have hz:=hzX;have Bacc:=Bacc.tr hbX);(try go_wp2_with fail)))
          refine tK hK fun hHeld=>?_
          clear hK K;refine(tW 7)<|(tR [9])<|tL fun K hK=>?_
          go_simp
          (first|(go_at_call 142;go_must (refine(aP x y dn _).mono ?_;rintro e wX ⟨rfl,hbX⟩;rw[Hok2.out];obtain⟨hcX,hfX,hzX⟩:=bkn hbX (wr.heap.size+1) hz;have hz:=hzX;have Bacc:=Bacc.tr hbX);(try go_wp2_with fail))|(go_at_call 143;go_must (refine(cO x y dn _ Hok2.out).mono ?_;rintro e wX ⟨rfl,hbX⟩;rw[<-HD.out];obtain⟨hcX,hfX,hzX⟩:=bkn hbX (wr.heap.size+1) hz;have hz:=hzX;have Bacc:=Bacc.tr hbX);(try go_wp2_with fail)))
          refine tK hK fun hHeld=>?_
          clear hK K;refine(tW 10)<|(tW 11)<|(tW 12)<|(tU 13)<|(tU 14)<|(tU 15)<|(tU 16)<|(tU 17)<|(tU 18)<|(tU 19)<|(tU 20)<|(tU 21)<|(tU 22)<|(tU 23)<|(tU 24)<|(tW 25)<|tD ?_
          all_goals
            go_wp2;go_ret;exact⟨lD (by have:=HG.out;rw[Hse.out]at this;exact this),Bacc⟩
        . rw[hsub]at hg;simp only[Bool.true_and]at hg
          have hne:(((left&&&D:Nat):Int) !=(D:Int))=false:=by
           rw[decide_eq_true_iff]at hsub;rw[bne_eq_false_iff_eq];omega
          clear hsub;rcases Nat.eq_zero_or_pos k with rfl|hkp
          . rw[Bz]at hg;simp only[qO,Bool.true_and]at hg;have HG:=SQ hg;clear hg;simp only[zero_mul,add_zero]at q1 q2 q3;go_wp2_with fail
            refine rB (fun w'=>w'.cell? ⟨wr.heap.size,0,none⟩=some (.int .i64 x)/\w'.cell? ⟨wr.heap.size,1,none⟩=some (.int .i64 y)/\w'.cell? ⟨wr.heap.size,2,none⟩=some (.bool dn)) fun hHeld=>(tW 0)<|(tR [1])<|tL fun K hK=>?_
            go_simp
            (first|(go_at_call 142;go_must (refine(aP x y dn _).mono ?_;rintro e wX ⟨rfl,hbX⟩;rw[Hok2.out];obtain⟨hcX,hfX,hzX⟩:=bkn hbX (wr.heap.size+1) hz;have hz:=hzX;have Bacc:=Bacc.tr hbX);(try go_wp2_with fail))|(go_at_call 143;go_must (refine(cO x y dn _ Hok2.out).mono ?_;rintro e wX ⟨rfl,hbX⟩;rw[<-HD.out];obtain⟨hcX,hfX,hzX⟩:=bkn hbX (wr.heap.size+1) hz;have hz:=hzX;have Bacc:=Bacc.tr hbX);(try go_wp2_with fail)))
            refine tK hK fun hHeld=>?_
            clear hK K;refine(tW 2)<|(tW 3)<|(tW 4)<|(tW 5)<|(tW 8)<|(tR [6])<|tL fun K hK=>?_
            go_simp
            (first|(go_at_call 142;go_must (refine(aP x y dn _).mono ?_;rintro e wX ⟨rfl,hbX⟩;rw[Hok2.out];obtain⟨hcX,hfX,hzX⟩:=bkn hbX (wr.heap.size+1) hz;have hz:=hzX;have Bacc:=Bacc.tr hbX);(try go_wp2_with fail))|(go_at_call 143;go_must (refine(cO x y dn _ Hok2.out).mono ?_;rintro e wX ⟨rfl,hbX⟩;rw[<-HD.out];obtain⟨hcX,hfX,hzX⟩:=bkn hbX (wr.heap.size+1) hz;have hz:=hzX;have Bacc:=Bacc.tr hbX);(try go_wp2_with fail)))
            refine tK hK fun hHeld=>?_
            clear hK K;refine(tW 7)<|(tR [9])<|tL fun K hK=>?_
            go_simp
            (first|(go_at_call 142;go_must (refine(aP x y dn _).mono ?_;rintro e wX ⟨rfl,hbX⟩;rw[Hok2.out];obtain⟨hcX,hfX,hzX⟩:=bkn hbX (wr.heap.size+1) hz;have hz:=hzX;have Bacc:=Bacc.tr hbX);(try go_wp2_with fail))|(go_at_call 143;go_must (refine(cO x y dn _ Hok2.out).mono ?_;rintro e wX ⟨rfl,hbX⟩;rw[<-HD.out];obtain⟨hcX,hfX,hzX⟩:=bkn hbX (wr.heap.size+1) hz;have hz:=hzX;have Bacc:=Bacc.tr hbX);(try go_wp2_with fail)))
            refine tK hK fun hHeld=>?_
            clear hK K;refine(tW 10)<|(tW 11)<|(tW 12)<|(tW 13)<|(tW 14)<|(tW 15)<|(tU 16)<|(tU 17)<|(tU 18)<|(tU 19)<|(tU 20)<|(tU 21)<|(tU 22)<|(tU 23)<|(tW 24)<|(tW 25)<|tD ?_;go_wp2_with fail
            refine(cO x y dn _ Hok2.out).mono ?_;rintro e w9 ⟨rfl,hb9⟩;rw[<-HD.out];go_wp2;go_roundw
            case rel=>exact⟨_,dB left D,hlt,by go_num,rfl,eB hleft,by rw[fP l _ hlt,<-Hdd.out];exact HG,SQ (fun e he=>by rw[fP l _ hlt,<-Hdd.out]at he;injection he with he;rw[<-he];exact Hok2.out),Bacc.tr hb9⟩
            case measure=>simp[intOf];omega
          . obtain ⟨j, rfl⟩ : ∃ j, k = j + 1 := ⟨k - 1, by omega⟩;have hj:j<l.length:=(by omega);rw[fP l j hj]at hg;have hpok:=Hp.out l[j] (fP l j hj);obtain⟨b',off',e',hb',p1,p2,p3⟩:=(h2.SN hbel).kN hj;injection e' with e';injection e' with e1 e2 e3;subst e1;subst e2;simp only[qO]at hg;obtain⟨dp,hdp⟩:=SL (l[j]);rw[<-hdp]at p1 p2 p3 hg hpok;obtain⟨px,py,pd⟩:=dp;simp only at p1 p2 p3;have Hpok:=SQ hpok;have Hdp:=SQ hdp;clear hpok hdp e3;have hp1:b<wr.heap.size+1:=(by omega);have hwj:IntKind.i64.wrap (j:Int)=(j:Int):=IntWalk.i64_in _ (by omega);have hj0:(0:Int)<=(j:Int):=(by omega);have hjI:(j:Int)<(l.length:Int):=(by omega);rcases hbf:decide (aS (px,py,pd)<aS (x,y,dn))with _|_
            . rw[hbf]at hg;simp only[Bool.false_and]at hg;have HG:=SQ hg;have Hbf:=SQ hbf;clear hg hbf;go_wp2_with fail
              go_region_held3 (fun w'=>w'.cell? ⟨wr.heap.size,0,none⟩=some (.int .i64 x)/\w'.cell? ⟨wr.heap.size,1,none⟩=some (.int .i64 y)/\w'.cell? ⟨wr.heap.size,2,none⟩=some (.bool dn)/\w'.cell? ⟨b,off+j*3,none⟩=some (.int .i64 px)/\w'.cell? ⟨b,off+j*3+1,none⟩=some (.int .i64 py)/\w'.cell? ⟨b,off+j*3+2,none⟩=some (.bool pd)) (go_keep) (first|(go_at_call 142;go_must (refine(aP x y dn _).mono ?_;rintro e wX ⟨rfl,hbX⟩;rw[Hok2.out];obtain⟨hcX,hfX,hzX⟩:=bkn hbX (wr.heap.size+1) hz;have hz:=hzX;have Bacc:=Bacc.tr hbX);(try go_wp2_with fail))|(go_at_call 143;go_must (refine(cO x y dn _ Hok2.out).mono ?_;rintro e wX ⟨rfl,hbX⟩;rw[<-HD.out];obtain⟨hcX,hfX,hzX⟩:=bkn hbX (wr.heap.size+1) hz;have hz:=hzX;have Bacc:=Bacc.tr hbX);(try go_wp2_with fail))|(go_at_call 166;go_must (refine(Bv px py pd x y dn _ Hpok.out Hok2.out).mono ?_;rintro e wX ⟨rfl,hbX⟩;rw[Hbf.out];obtain⟨hcX,hfX,hzX⟩:=bkn hbX (wr.heap.size+1) hz;have hz:=hzX;have Bacc:=Bacc.tr hbX);(try go_wp2_with fail)))
              all_goals
                go_wp2;go_ret;exact⟨lD (by have:=HG.out;rw[Hse.out]at this;exact this),Bacc⟩
            . rw[hbf]at hg;simp only[Bool.true_and]at hg;have HG:=SQ hg;have Hbf:=SQ hbf;clear hg hbf;go_wp2_with fail
              go_region_held3 (fun w'=>w'.cell? ⟨wr.heap.size,0,none⟩=some (.int .i64 x)/\w'.cell? ⟨wr.heap.size,1,none⟩=some (.int .i64 y)/\w'.cell? ⟨wr.heap.size,2,none⟩=some (.bool dn)/\w'.cell? ⟨b,off+j*3,none⟩=some (.int .i64 px)/\w'.cell? ⟨b,off+j*3+1,none⟩=some (.int .i64 py)/\w'.cell? ⟨b,off+j*3+2,none⟩=some (.bool pd)) (go_keep) (first|(go_at_call 142;go_must (refine(aP x y dn _).mono ?_;rintro e wX ⟨rfl,hbX⟩;rw[Hok2.out];obtain⟨hcX,hfX,hzX⟩:=bkn hbX (wr.heap.size+1) hz;have hz:=hzX;have Bacc:=Bacc.tr hbX);(try go_wp2_with fail))|(go_at_call 143;go_must (refine(cO x y dn _ Hok2.out).mono ?_;rintro e wX ⟨rfl,hbX⟩;rw[<-HD.out];obtain⟨hcX,hfX,hzX⟩:=bkn hbX (wr.heap.size+1) hz;have hz:=hzX;have Bacc:=Bacc.tr hbX);(try go_wp2_with fail))|(go_at_call 166;go_must (refine(Bv px py pd x y dn _ Hpok.out Hok2.out).mono ?_;rintro e wX ⟨rfl,hbX⟩;rw[Hbf.out];obtain⟨hcX,hfX,hzX⟩:=bkn hbX (wr.heap.size+1) hz;have hz:=hzX;have Bacc:=Bacc.tr hbX);(try go_wp2_with fail)))
              go_wp2_with fail
              refine(cO x y dn _ Hok2.out).mono ?_;rintro e w9 ⟨rfl,hb9⟩;rw[<-HD.out];go_wp2;go_roundw
              case rel=>exact⟨_,dB left D,hlt,by go_num,rfl,eB hleft,by rw[fP l _ hlt,<-Hdd.out];exact HG,SQ (fun e he=>by rw[fP l _ hlt,<-Hdd.out]at he;injection he with he;rw[<-he];exact Hok2.out),Bacc.tr hb9⟩
              case measure=>simp[intOf];omega
    . obtain rfl : k = l.length := by omega
      have hg:=Hg.out;rw[List.drop_of_length_le (le_refl _)]at hg;have HG:=SQ hg;clear hg;go_wp2;go_ret;exact⟨lD (by have:=HG.out;rw[Hse.out]at this;exact this),hbel⟩
end Go.Proofs.YtljfoohaapckeaaGreatDoor
namespace Go.Proofs.YtljfoohaapckeaaGreatDoor
open Go.ChangeShapes Go.WideShapes Go.ChangeAt Go.RowKit
set_option linter.unusedVariables false
set_option maxHeartbeats 4000000
set_option maxRecDepth 100000
def mD (d:Dm) (c:Cl):Bool:=aJ d&&(decide ((d.1,d.2.1)=c)||decide (sec d=c))
def rC (l:List Dm) (c:Cl):Option Dm:=l.find? (mD · c)
def iD (c:Cl):List Dm->Nat->Int
  |[],_=> -1
  |d::r,k=>if mD d c then(k:Int)else iD c r (k+1)
def pE (l:List Dm) (c:Cl):Int:=iD c l 0
theorem Gv (c:Cl):∀(l:List Dm) (k:Nat),(iD c l k= -1/\rC l c=none)∨∃j,∃h:j<l.length,iD c l k=((k+j:Nat):Int)/\rC l c=some l[j]:=by
 intro l;induction l with
 |nil=>intro k;exact .inl ⟨rfl,rfl⟩
 |cons d r ih=>
  intro k;by_cases hd:mD d c=true
  . refine .inr ⟨0, by simp, ?_, ?_⟩
    . simp[iD,hd]
    . simp[rC,hd]
  . have hf : rC (d :: r) c = rC r c := by simp [rC, hd]
    have hg:iD c (d::r) k=iD c r (k+1):=(by simp[iD,hd]);rw[hf,hg];rcases ih (k+1)with h|⟨j,hj,h1,h2⟩
    . exact .inl h
    . exact .inr ⟨j+1,by simpa using hj,by rw[h1];congr 1;omega,by rw[h2];simp⟩
theorem Dq (l:List Dm) (c:Cl):(pE l c= -1/\rC l c=none)∨∃j,∃h:j<l.length,pE l c=(j:Int)/\rC l c=some l[j]:=by
 rcases Gv c l 0 with h|⟨j,hj,h1,h2⟩
 . exact .inl h
 . exact .inr ⟨j,hj,by unfold pE;rw[h1];congr 1;omega,h2⟩
theorem yB {a b:Cl} (ha:aX a=true) (hb:aX b=true) (h:(dF a).toNat=(dF b).toNat):a=b:=by
 have h1:=dQ ha;have h2:=dQ hb;have k1:=cZ.1 ha;have k2:=cZ.1 hb;obtain⟨a1,a2⟩:=a;obtain⟨b1,b2⟩:=b;simp only at h1 h2 k1 k2;have:a2=b2:=(by omega);have:a1=b1:=(by omega);simp_all
theorem dU {d:Dm} (h:aJ d=true):aX (d.1,d.2.1)=true/\aX (sec d)=true:=by
 unfold aJ at h;rw[and_eq_true]at h;exact h
theorem aT {d:Dm} (h:aJ d=true) (j:Nat):(aG d).testBit j=(decide (eZ d=j)||decide (iZ d=j)):=by
 unfold aG;rw[rP,rP,Nat.zero_testBit,Bool.false_or]
theorem yC {d:Dm} (h:aJ d=true) (c:Cl):(aX c&&(aG d).testBit (dF c).toNat)=mD d c:=by
 obtain⟨h1,h2⟩:=dU h;unfold mD;rw[h,Bool.true_and,aT h];rw[Bool.eq_iff_iff];simp only[and_eq_true,Bool.or_eq_true,decide_eq_true_eq];unfold eZ iZ;constructor
 . rintro⟨hc,e|e⟩
   . exact .inl (yB h1 hc e)
   . exact .inr (yB h2 hc e)
 . rintro(e|e)
   . exact⟨e▸h1,.inl (by rw[e])⟩
   . exact⟨e▸h2,.inr (by rw[e])⟩
theorem AZ {d:Dm} (h:aJ d=false) (c:Cl):mD d c=false:=by unfold mD;rw[h];rfl
theorem qC {a b:Nat} (h:a&&&b=b) (j:Nat) (hb:b.testBit j=true):a.testBit j=true:=by
 have:=congrArg (·.testBit j) h;simp only[Nat.testBit_and]at this;rw[hb]at this;simpa using this
theorem tT {left:Nat} {p:Option Dm} {d:Dm} {r:List Dm} (h:kJ left p (d::r)=true):aJ d=true/\left&&&aG d=aG d/\kJ (dB left (aG d)) (some d) r=true:=by
 simp only[kJ,and_eq_true,decide_eq_true_eq]at h;exact⟨h.1.1.1,h.1.1.2,h.2⟩
theorem jJ {a b:Nat} (ha:a<U64) (hb:b<U64) (j:Nat):(dB a b).testBit j=(a.testBit j&& !b.testBit j):=kH hb ha
theorem Dr:∀(l:List Dm) (left:Nat) (p:Option Dm),left<U64->kJ left p l=true->∀d∈l,aJ d=true/\∀j,(aG d).testBit j=true->left.testBit j=true:=by
 intro l;induction l with
 |nil=>intro left p _ _ d hd;cases hd
 |cons e r ih=>
  intro left p hl h d hd;obtain⟨h1,h2,h3⟩:=tT h;rcases List.mem_cons.1 hd with rfl|hd
  . exact⟨h1,fun j hj=>qC h2 j hj⟩
  . obtain⟨k1,k2⟩:=ih _ _ (eB hl) h3 d hd;refine⟨k1,fun j hj=> ?_⟩;have:=k2 j hj;rw[jJ hl (dJ h1)]at this;rw[and_eq_true]at this;exact this.1
theorem jA {rows:List Int} {l:List Dm} (h:isPartial rows l=true):dK rows/\kJ (setOf rows) none l=true:=by
 unfold isPartial at h;rw[and_eq_true]at h;exact⟨aO.1 h.1,h.2⟩
theorem Qq {rows:List Int} {l:List Dm} (h:isPartial rows l=true) {c:Cl} {d:Dm} (hc:rC l c=some d):mD d c=true/\d∈l/\(setOf rows).testBit (dF c).toNat=true:=by
 obtain⟨ho,hp⟩:=jA h;have h1:mD d c=true:=List.find?_some (p:=fun e=>mD e c) hc;have h2:d∈l:=List.mem_of_find?_eq_some hc;refine⟨h1,h2,?_⟩;obtain⟨k1,k2⟩:=Dr l _ _ (dM ho) hp d h2;apply k2;have:=yC k1 c;rw[h1,and_eq_true]at this;exact this.2
def xC (d:Dm) (c:Cl):UInt8:=if d.2.2 then(if(d.1,d.2.1)=c then 94 else 118)else(if(d.1,d.2.1)=c then 60 else 62)
def sgn (s:Nat) (l:List Dm) (x y:Nat):UInt8:=if s.testBit (8*y+x)then(match rC l ((x:Int),(y:Int))with|none=>63|some d=>xC d ((x:Int),(y:Int)))else 46
def Ij (s:Nat) (l:List Dm) (y k:Nat):List UInt8:=(List.range k).map fun x=>sgn s l x y
def PN (s:Nat) (l:List Dm) (y k:Nat):ByteArray:=⟨(Ij s l y k).toArray⟩
def uX (s:Nat) (l:List Dm) (n:Nat):List ByteArray:=(List.range n).map fun y=>PN s l y 8
def fC (rows:List Int) (l:List Dm):List ByteArray:=if isPartial rows l then uX (setOf rows) l rows.length else[]
theorem Kj (s:Nat) (l:List Dm) (y k:Nat):Ij s l y (k+1)=Ij s l y k++[sgn s l k y]:=by simp[Ij,List.range_succ]
theorem Kk (s:Nat) (l:List Dm) (n:Nat):uX s l (n+1)=uX s l n++[PN s l n 8]:=by simp[uX,List.range_succ]
theorem sI (s:Nat) (l:List Dm) (n:Nat):(uX s l n).length=n:=by simp[uX]
end Go.Proofs.YtljfoohaapckeaaGreatDoor
namespace Go.Proofs.YtljfoohaapckeaaGreatDoor
open Go.ChangeShapes Go.WideShapes Go.ChangeAt Go.RowKit
set_option linter.unusedVariables false
set_option linter.unusedSimpArgs false
set_option maxHeartbeats 4000000
set_option maxRecDepth 100000
theorem lH (v:Value) (l:List Dm) (x y:Int) (w:World) (h:Rd 3 bG w v l):Calls prog 111 #[v,.agg #[.int .i64 x,.int .i64 y]] w (Ret (.int .i64 (pE l (x,y))) w):=by
 obtain⟨A,c,rfl,hc,hm⟩:=h.form;have hA:=((Below.refl w.heap.size w).al (.cells #[.int .i64 x,.int .i64 y] 70));have hx:=Blk.aY w 70 #[.int .i64 x,.int .i64 y];have hD:pE l (x,y)=iD (x,y) l 0:=rfl;obtain⟨D,hDD⟩:=SL (pE l (x,y));rw[<-hDD]at hD⊢;have HD:=SQ hD;clear hD hDD;go_enter Tryz.func111,Tryz.ntmps111
 go_wp2;go_loopw [9] (fun s9 wr=>∃k:Nat,k<=l.length/\s9= .int .i64 k/\Hid (iD (x,y) (l.drop k) k=D)/\wr.cell? ⟨w.heap.size,0,none⟩=some (.int .i64 x)/\wr.cell? ⟨w.heap.size,1,none⟩=some (.int .i64 y)/\w.heap.size<wr.heap.size/\Below w.heap.size w wr) (fun i _=>l.length-(intOf i).toNat)
 case atStart=>exact⟨0,zero_le _,rfl,SQ HD.out.symm,hx.cell 0,hx.cell 1,hx.lt,hA⟩
 case round=>
  obtain⟨k,hk,rfl,Hg,z1,z2,hwl,hbel⟩:=hrel;clear hx hA;by_cases hlt:k<l.length
  . obtain⟨b,off,rfl,hb,q1,q2,q3⟩:=(h.SN hbel).kN hlt;have hg:=Hg.out;rw[List.drop_eq_getElem_cons hlt]at hg;obtain⟨d,hd⟩:=SL (l[k]);rw[<-hd]at q1 q2 q3 hg;obtain⟨dx,dy,dn⟩:=d;simp only at q1 q2 q3;have hbz:=hbel.al (.cells #[.int .i64 dx,.int .i64 dy,.bool dn] 60);have Bacc:=hbz.drew;have hz:wr.heap.size+1<=(wr.alloc (.cells #[.int .i64 dx,.int .i64 dy,.bool dn] 60)).drew.heap.size:=(by simp);have hp0:wr.heap.size<wr.heap.size+1:=(by omega);have hp1:w.heap.size<wr.heap.size+1:=(by omega);have hn1:w.heap.size≠wr.heap.size:=(by omega);rcases hok:aJ (dx,dy,dn)with _|_
    . have hg2 : iD (x, y) (l.drop (k + 1)) (k + 1) = D := by rw [<- hg]; simp only [iD]; rw [if_neg (by rw [AZ hok]; simp)]
      have HG:=SQ hg2;have Hok2:=SQ hok;have Hdd:=SQ hd;clear hg hg2 hok hd;go_wp2_with fail
      refine rB (fun w'=>w'.cell? ⟨wr.heap.size,0,none⟩=some (.int .i64 dx)/\w'.cell? ⟨wr.heap.size,1,none⟩=some (.int .i64 dy)/\w'.cell? ⟨wr.heap.size,2,none⟩=some (.bool dn)/\w'.cell? ⟨w.heap.size,0,none⟩=some (.int .i64 x)/\w'.cell? ⟨w.heap.size,1,none⟩=some (.int .i64 y)) fun hHeld=>(tW 0)<|(tR [1])<|tL fun K hK=>?_
      go_simp
      (first|(go_at_call 142;go_must (refine(aP dx dy dn _).mono ?_;rintro e wX ⟨rfl,hbX⟩;rw[Hok2.out];obtain⟨hcX,hfX,hzX⟩:=bkn hbX (wr.heap.size+1) hz;have hz:=hzX;have Bacc:=Bacc.tr hbX);(try go_wp2_with fail)))
      refine tK hK fun hHeld=>?_
      clear hK K;refine(tW 2)<|(tU 3)<|(tU 4)<|(tU 5)<|(tU 6)<|(tW 7)<|tD ?_;go_wp2;go_roundw
      case rel=>exact⟨k+1,by omega,by go_num,HG,hHeld.2.2.2.1,hHeld.2.2.2.2,by omega,Bacc⟩
      case measure=>simp[intOf];omega
    . have hDlt:=dJ hok;have hbit:=yC hok (x,y);have Hok2:=SQ hok;have Hdd:=SQ hd;clear hok hd;rcases hh:mD (dx,dy,dn) (x,y)with _|_
      . have hg2 : iD (x, y) (l.drop (k + 1)) (k + 1) = D := by rw [<- hg]; simp only [iD]; rw [if_neg (by rw [hh]; simp)]
        rw[hh]at hbit;have HG:=SQ hg2;have Hbit:=SQ hbit;clear hg hg2 hh hbit;go_wp2_with fail
        refine rB (fun w'=>w'.cell? ⟨wr.heap.size,0,none⟩=some (.int .i64 dx)/\w'.cell? ⟨wr.heap.size,1,none⟩=some (.int .i64 dy)/\w'.cell? ⟨wr.heap.size,2,none⟩=some (.bool dn)/\w'.cell? ⟨w.heap.size,0,none⟩=some (.int .i64 x)/\w'.cell? ⟨w.heap.size,1,none⟩=some (.int .i64 y)) fun hHeld=>(tW 0)<|(tR [1])<|tL fun K hK=>?_
        go_simp
        (first|(go_at_call 142;go_must (refine(aP dx dy dn _).mono ?_;rintro e wX ⟨rfl,hbX⟩;rw[Hok2.out];obtain⟨hcX,hfX,hzX⟩:=bkn hbX (wr.heap.size+1) hz;have hz:=hzX;have Bacc:=Bacc.tr hbX);(try go_wp2_with fail))|(go_at_call 143;go_must (refine(cO dx dy dn _ Hok2.out).mono ?_;rintro e wX ⟨rfl,hbX⟩;obtain⟨hcX,hfX,hzX⟩:=bkn hbX (wr.heap.size+1) hz;have hz:=hzX;have Bacc:=Bacc.tr hbX);(try go_wp2_with fail))|(go_at_call 110;go_must (refine(iC (aG (dx,dy,dn)) x y _ hDlt).mono ?_;rintro e wX ⟨rfl,hbX⟩;rw[Hbit.out];obtain⟨hcX,hfX,hzX⟩:=bkn hbX (wr.heap.size+1) hz;have hz:=hzX;have Bacc:=Bacc.tr hbX);(try go_wp2_with fail)))
        refine tK hK fun hHeld=>?_
        clear hK K;refine(tW 2)<|(tW 3)<|(tW 5)<|(tR [4])<|tL fun K hK=>?_
        go_simp
        (first|(go_at_call 142;go_must (refine(aP dx dy dn _).mono ?_;rintro e wX ⟨rfl,hbX⟩;rw[Hok2.out];obtain⟨hcX,hfX,hzX⟩:=bkn hbX (wr.heap.size+1) hz;have hz:=hzX;have Bacc:=Bacc.tr hbX);(try go_wp2_with fail))|(go_at_call 143;go_must (refine(cO dx dy dn _ Hok2.out).mono ?_;rintro e wX ⟨rfl,hbX⟩;obtain⟨hcX,hfX,hzX⟩:=bkn hbX (wr.heap.size+1) hz;have hz:=hzX;have Bacc:=Bacc.tr hbX);(try go_wp2_with fail))|(go_at_call 110;go_must (refine(iC (aG (dx,dy,dn)) x y _ hDlt).mono ?_;rintro e wX ⟨rfl,hbX⟩;rw[Hbit.out];obtain⟨hcX,hfX,hzX⟩:=bkn hbX (wr.heap.size+1) hz;have hz:=hzX;have Bacc:=Bacc.tr hbX);(try go_wp2_with fail)))
        refine tK hK fun hHeld=>?_
        clear hK K;refine(tR [6])<|tL fun K hK=>?_
        go_simp
        (first|(go_at_call 142;go_must (refine(aP dx dy dn _).mono ?_;rintro e wX ⟨rfl,hbX⟩;rw[Hok2.out];obtain⟨hcX,hfX,hzX⟩:=bkn hbX (wr.heap.size+1) hz;have hz:=hzX;have Bacc:=Bacc.tr hbX);(try go_wp2_with fail))|(go_at_call 143;go_must (refine(cO dx dy dn _ Hok2.out).mono ?_;rintro e wX ⟨rfl,hbX⟩;obtain⟨hcX,hfX,hzX⟩:=bkn hbX (wr.heap.size+1) hz;have hz:=hzX;have Bacc:=Bacc.tr hbX);(try go_wp2_with fail))|(go_at_call 110;go_must (refine(iC (aG (dx,dy,dn)) x y _ hDlt).mono ?_;rintro e wX ⟨rfl,hbX⟩;rw[Hbit.out];obtain⟨hcX,hfX,hzX⟩:=bkn hbX (wr.heap.size+1) hz;have hz:=hzX;have Bacc:=Bacc.tr hbX);(try go_wp2_with fail)))
        refine tK hK fun hHeld=>?_
        clear hK K;refine(tW 7)<|tD ?_;go_wp2;go_roundw
        case rel=>exact⟨k+1,by omega,by go_num,HG,hHeld.2.2.2.1,hHeld.2.2.2.2,by omega,Bacc⟩
        case measure=>simp[intOf];omega
      . have hg2 : (k : Int) = D := by rw [<- hg]; simp only [iD]; rw [if_pos hh]
        rw[hh]at hbit;have HG:=SQ hg2;have Hbit:=SQ hbit;clear hg hg2 hh hbit;go_wp2_with fail
        refine rB (fun w'=>w'.cell? ⟨wr.heap.size,0,none⟩=some (.int .i64 dx)/\w'.cell? ⟨wr.heap.size,1,none⟩=some (.int .i64 dy)/\w'.cell? ⟨wr.heap.size,2,none⟩=some (.bool dn)/\w'.cell? ⟨w.heap.size,0,none⟩=some (.int .i64 x)/\w'.cell? ⟨w.heap.size,1,none⟩=some (.int .i64 y)) fun hHeld=>(tW 0)<|(tR [1])<|tL fun K hK=>?_
        go_simp
        (first|(go_at_call 142;go_must (refine(aP dx dy dn _).mono ?_;rintro e wX ⟨rfl,hbX⟩;rw[Hok2.out];obtain⟨hcX,hfX,hzX⟩:=bkn hbX (wr.heap.size+1) hz;have hz:=hzX;have Bacc:=Bacc.tr hbX);(try go_wp2_with fail))|(go_at_call 143;go_must (refine(cO dx dy dn _ Hok2.out).mono ?_;rintro e wX ⟨rfl,hbX⟩;obtain⟨hcX,hfX,hzX⟩:=bkn hbX (wr.heap.size+1) hz;have hz:=hzX;have Bacc:=Bacc.tr hbX);(try go_wp2_with fail))|(go_at_call 110;go_must (refine(iC (aG (dx,dy,dn)) x y _ hDlt).mono ?_;rintro e wX ⟨rfl,hbX⟩;rw[Hbit.out];obtain⟨hcX,hfX,hzX⟩:=bkn hbX (wr.heap.size+1) hz;have hz:=hzX;have Bacc:=Bacc.tr hbX);(try go_wp2_with fail)))
        refine tK hK fun hHeld=>?_
        clear hK K;refine(tW 2)<|(tW 3)<|(tW 5)<|(tR [4])<|tL fun K hK=>?_
        go_simp
        (first|(go_at_call 142;go_must (refine(aP dx dy dn _).mono ?_;rintro e wX ⟨rfl,hbX⟩;rw[Hok2.out];obtain⟨hcX,hfX,hzX⟩:=bkn hbX (wr.heap.size+1) hz;have hz:=hzX;have Bacc:=Bacc.tr hbX);(try go_wp2_with fail))|(go_at_call 143;go_must (refine(cO dx dy dn _ Hok2.out).mono ?_;rintro e wX ⟨rfl,hbX⟩;obtain⟨hcX,hfX,hzX⟩:=bkn hbX (wr.heap.size+1) hz;have hz:=hzX;have Bacc:=Bacc.tr hbX);(try go_wp2_with fail))|(go_at_call 110;go_must (refine(iC (aG (dx,dy,dn)) x y _ hDlt).mono ?_;rintro e wX ⟨rfl,hbX⟩;rw[Hbit.out];obtain⟨hcX,hfX,hzX⟩:=bkn hbX (wr.heap.size+1) hz;have hz:=hzX;have Bacc:=Bacc.tr hbX);(try go_wp2_with fail)))
        refine tK hK fun hHeld=>?_
        clear hK K;refine(tR [6])<|tL fun K hK=>?_
        go_simp
        (first|(go_at_call 142;go_must (refine(aP dx dy dn _).mono ?_;rintro e wX ⟨rfl,hbX⟩;rw[Hok2.out];obtain⟨hcX,hfX,hzX⟩:=bkn hbX (wr.heap.size+1) hz;have hz:=hzX;have Bacc:=Bacc.tr hbX);(try go_wp2_with fail))|(go_at_call 143;go_must (refine(cO dx dy dn _ Hok2.out).mono ?_;rintro e wX ⟨rfl,hbX⟩;obtain⟨hcX,hfX,hzX⟩:=bkn hbX (wr.heap.size+1) hz;have hz:=hzX;have Bacc:=Bacc.tr hbX);(try go_wp2_with fail))|(go_at_call 110;go_must (refine(iC (aG (dx,dy,dn)) x y _ hDlt).mono ?_;rintro e wX ⟨rfl,hbX⟩;rw[Hbit.out];obtain⟨hcX,hfX,hzX⟩:=bkn hbX (wr.heap.size+1) hz;have hz:=hzX;have Bacc:=Bacc.tr hbX);(try go_wp2_with fail)))
        refine tK hK fun hHeld=>?_
        clear hK K;refine(tW 7)<|tD ?_;go_wp2;go_ret;exact⟨FC HG.out,Bacc⟩
  . obtain rfl : k = l.length := by omega
    have hg:=Hg.out;rw[List.drop_of_length_le (le_refl _)]at hg;have HG:Hid ((-1:Int)=D):=SQ hg;clear hg;go_wp2;go_ret;exact⟨FC HG.out,hbel⟩
theorem GX {r:Int} {x:Nat} (h0:0<=r) (h1:r<=255) (hx:x<8):(bits .and .i64 (r/2^x) 1==1)=r.toNat.testBit x:=by
 obtain⟨n,rfl⟩:=Int.eq_ofNat_of_zero_le h0;rw[zY];have e:((n:Int)/2^x)%2=((n/2^x%2:Nat):Int):=(by simp);rw[e,Int.toNat_natCast,Nat.testBit_eq_decide_div_mod_eq];rw[Bool.eq_iff_iff,beq_iff_eq,decide_eq_true_iff];omega
theorem kY (v:Value) (rows:List Int) (x y:Nat) (w:World) (h:Rd 1 bV w v rows) (Hok:Hid (dK rows)) (hx:x<8) (hy:y<8):Calls prog 164 #[.agg #[v],.agg #[.int .i64 x,.int .i64 y]] w (Ret (.bool ((setOf rows).testBit (8*y+x))) w):=by
 obtain⟨A,c,rfl,hc,hm⟩:=h.form;have hA:=((Below.refl w.heap.size w).al (.cells #[.slice A rows.length c] 26)).al (.cells #[.int .i64 x,.int .i64 y] 70);have hbit:=wM Hok.out (8*y+x);rw[show(8*y+x)/8=y by omega,show(8*y+x)%8=x by omega]at hbit;obtain⟨B,hB⟩:=SL ((setOf rows).testBit (8*y+x));rw[<-hB]at hbit⊢;clear hB;by_cases hlt:y<rows.length
 . obtain⟨b,off,rfl,hb,q1⟩:=h.wL hlt;rw[List.getD_eq_getElem?_getD,List.getElem?_eq_getElem hlt,Option.getD_some]at hbit;obtain⟨k0,k1⟩:=Hok.out.2 rows[y] (List.getElem_mem _);obtain⟨r,hr⟩:=SL (rows[y]);rw[<-hr]at q1 hbit k0 k1;have e1:=GX k0 k1 hx;rw[<-hbit]at e1;have hltI:(y:Int)<(rows.length:Int):=(by omega);have hbn1:b≠w.heap.size:=(by omega);have hbn2:b≠w.heap.size+1:=(by omega);clear hbit hr;go_enter func164,ntmps164
   go_wp2_with fail
   go_quiet (fail)
   go_wp2;go_ret;exact⟨rfl,below_drewN hA _⟩
 . have hB0 : B = false := by rw [hbit, List.getD_eq_getElem?_getD, List.getElem?_eq_none (by omega)]; simp
   have hltD:decide (y<rows.length)=false:=(by simpa using hlt);have hltI:decide ((y:Int)<(rows.length:Int))=false:=(by simpa using hlt);have HB0:=SQ hB0;clear hB0 hbit hlt;go_enter func164,ntmps164
   go_wp2_with fail
   go_quiet (fail)
   go_wp2;go_ret;exact⟨lD HB0.out.symm,below_drewN hA _⟩
theorem CV (x y:Int) (w:World) (hc:aX (x,y)=true):Calls prog 162 #[.agg #[.int .i64 x,.int .i64 y]] w (Ret (.int .i64 (dF (x,y))) w):=by
 obtain⟨⟨x1,x2⟩,y1,y2⟩:=cZ.1 hc;have e:=(dQ hc).1;simp only at e x1 x2 y1 y2;have He:=SQ e;have Hc:=SQ hc;clear e hc;go_enter Tryz.func162,Tryz.ntmps162
 go_wp2_with fail
 refine(iF x y _).mono ?_;rintro e w1 ⟨rfl,hb1⟩;obtain⟨hc1,hf1,hz1⟩:=bk hb1;(try simp at hz1)
 have hy1_0:w.heap.size<w1.heap.size:=(by omega);rw[Hc.out];go_wp2;go_ret;exact⟨FC (by rw[He.out]),((Below.refl _ _).al _).tr hb1⟩
def jX (rows:List Int) (c:Cl):Bool:=aZ rows&&(aX c&&(setOf rows).testBit (dF c).toNat)
theorem pF (v:Value) (rows:List Int) (x y:Int) (w:World) (h:Rd 1 bV w v rows) (hc:aX (x,y)=true):Calls prog 161 #[.agg #[v],.agg #[.int .i64 x,.int .i64 y]] w (Ret (.bool (jX rows (x,y))) w):=by
 obtain⟨A,c,rfl,hc',hm⟩:=h.form;have hA:=((Below.refl w.heap.size w).al (.cells #[.slice A rows.length c] 26)).al (.cells #[.int .i64 x,.int .i64 y] 70);rcases hr:aZ rows with _|_
 . have e : jX rows (x, y) = false := by unfold jX; rw [hr]; rfl
   rw[e];go_enter func161,ntmps161
   go_wp2_with fail
   refine(dS _ rows _ (h.SN hA)).mono ?_;rintro e w1 ⟨rfl,hb1⟩;obtain⟨hc1,hf1,hz1⟩:=bk hb1;(try simp at hz1)
   have hy1_0:w.heap.size<w1.heap.size:=(by omega);have hy1_1:w.heap.size+1<w1.heap.size:=(by omega);rw[hr];go_wp2;go_ret;exact⟨rfl,hA.tr hb1⟩
 . have hok:=aO.1 hr;obtain⟨⟨x1,x2⟩,y1,y2⟩:=cZ.1 hc;simp only at x1 x2 y1 y2;have e:jX rows (x,y)=(setOf rows).testBit (dF (x,y)).toNat:=by unfold jX;rw[hr,hc];simp
   rw[(dQ hc).1]at e;obtain⟨x,rfl⟩:=Int.eq_ofNat_of_zero_le x1;obtain⟨y,rfl⟩:=Int.eq_ofNat_of_zero_le y1;rw[show((y:Int)*8+(x:Int)).toNat=8*y+x by omega]at e;rw[e];have Hok:=SQ hok;have Hc:=SQ hc;clear hok e hc;go_enter func161,ntmps161
   go_wp2_with fail
   refine(dS _ rows _ (h.SN hA)).mono ?_;rintro e w1 ⟨rfl,hb1⟩;obtain⟨hc1,hf1,hz1⟩:=bk hb1;(try simp at hz1)
   have hy1_0:w.heap.size<w1.heap.size:=(by omega);have hy1_1:w.heap.size+1<w1.heap.size:=(by omega);rw[hr];go_wp2_with fail
   refine(iF x y _).mono ?_;rintro e w2 ⟨rfl,hb2⟩;obtain⟨hc2,hf2,hz2⟩:=bk hb2;(try simp at hz2)
   have hy2_0:w.heap.size<w2.heap.size:=(by omega);have hy2_1:w.heap.size+1<w2.heap.size:=(by omega);rw[Hc.out];have B2:=(hA.tr hb1).tr hb2;go_wp2_with fail
   refine(kY _ rows x y _ (h.SN B2) Hok (by omega) (by omega)).mono ?_;rintro e w3 ⟨rfl,hb3⟩;go_wp2;go_ret;exact⟨rfl,B2.tr hb3⟩
theorem nS (x y:Int) (d:Bool) (x' y':Int) (d':Bool) (w:World) (hd:aJ (x,y,d)=true) (hd':aJ (x',y',d')=true):
 Calls prog 159 #[.agg #[.int .i64 x,.int .i64 y,.bool d],.agg #[.int .i64 x',.int .i64 y',.bool d']] w (Ret (.bool (decide (aS (x,y,d)<aS (x',y',d')))) w):=by
 have D1:=mO hd;have D2:=mO hd';simp only at D1 D2;obtain⟨⟨x1,x2⟩,y1,y2⟩:=D1;obtain⟨⟨u1,u2⟩,v1,v2⟩:=D2;have hA:=((Below.refl w.heap.size w).al (.cells #[.int .i64 x,.int .i64 y,.bool d] 60)).al (.cells #[.int .i64 x',.int .i64 y',.bool d'] 60);obtain⟨B,hB⟩:∃B,B=decide (aS (x,y,d)<aS (x',y',d')):=⟨_,rfl⟩;rw[<-hB];have HB:=SQ hB;have Hd:=SQ hd;have Hd':=SQ hd';clear hB hd hd';rcases d with _|_<;>rcases d' with _|_
 all_goals
   go_enter Tryz.func159,Tryz.ntmps159
   go_wp2_with fail
   refine(dA x y _ _).mono ?_;rintro e w1 ⟨rfl,hb1⟩;obtain⟨hc1,hf1,hz1⟩:=bk hb1;(try simp at hz1)
   have hy1_0:w.heap.size<w1.heap.size:=(by omega);have hy1_1:w.heap.size+1<w1.heap.size:=(by omega);rw[Hd.out];go_wp2_with fail
   refine(dA x' y' _ _).mono ?_;rintro e w2 ⟨rfl,hb2⟩;obtain⟨hc2,hf2,hz2⟩:=bk hb2;(try simp at hz2)
   have hy2_0:w.heap.size<w2.heap.size:=(by omega);have hy2_1:w.heap.size+1<w2.heap.size:=(by omega);rw[Hd'.out];go_wp2
   all_goals
     go_ret;refine⟨lD ?_,(hA.tr hb1).tr hb2⟩;rw[HB.out,Bool.eq_iff_iff];simp[aS];try omega
theorem yD (v:Value) (l:List Dm) (x y:Int) (w:World) (h:Rd 3 bG w v l):Calls prog 213 #[v,.agg #[.int .i64 x,.int .i64 y]] w (Ret (.int .i64 (pE l (x,y))) w):=by
 obtain⟨A,c,rfl,hc,hm⟩:=h.form;have hA:=((Below.refl w.heap.size w).al (.cells #[.int .i64 x,.int .i64 y] 70));have hx:=Blk.aY w 70 #[.int .i64 x,.int .i64 y];have hD:pE l (x,y)=iD (x,y) l 0:=rfl;obtain⟨D,hDD⟩:=SL (pE l (x,y));rw[<-hDD]at hD⊢;have HD:=SQ hD;clear hD hDD;go_enter Tryz.func213,Tryz.ntmps213
 go_wp2;go_loopw [5] (fun s9 wr=>∃k:Nat,k<=l.length/\s9= .int .i64 k/\Hid (iD (x,y) (l.drop k) k=D)/\wr.cell? ⟨w.heap.size,0,none⟩=some (.int .i64 x)/\wr.cell? ⟨w.heap.size,1,none⟩=some (.int .i64 y)/\w.heap.size<wr.heap.size/\Below w.heap.size w wr) (fun i _=>l.length-(intOf i).toNat)
 case atStart=>exact⟨0,zero_le _,rfl,SQ HD.out.symm,hx.cell 0,hx.cell 1,hx.lt,hA⟩
 case round=>
  obtain⟨k,hk,rfl,Hg,z1,z2,hwl,hbel⟩:=hrel;clear hx hA;by_cases hlt:k<l.length
  . obtain⟨b,off,rfl,hb,q1,q2,q3⟩:=(h.SN hbel).kN hlt;have hg:=Hg.out;rw[List.drop_eq_getElem_cons hlt]at hg;obtain⟨d,hd⟩:=SL (l[k]);rw[<-hd]at q1 q2 q3 hg;obtain⟨dx,dy,dn⟩:=d;simp only at q1 q2 q3;rcases hok:aJ (dx,dy,dn)with _|_
    . have hg2 : iD (x, y) (l.drop (k + 1)) (k + 1) = D := by rw [<- hg]; simp only [iD]; rw [if_neg (by rw [AZ hok]; simp)]
      have HG:=SQ hg2;have Hok2:=SQ hok;have Hdd:=SQ hd;clear hg hg2 hok hd;go_wp2_with fail
      refine(dA dx dy dn _).mono ?_;rintro e w1 ⟨rfl,hb1⟩;obtain⟨hc1,hf1,hz1⟩:=bk hb1;(try simp at hz1)
      have hy1_0:w.heap.size<w1.heap.size:=(by omega);rw[Hok2.out];go_wp2;go_roundw
      case rel=>exact⟨k+1,by omega,by go_num,HG,by rw[hc1 _ _ (by omega)];exact z1,by rw[hc1 _ _ (by omega)];exact z2,by omega,hbel.tr hb1⟩
      case measure=>simp[intOf];omega
    . obtain⟨sx,sy,hs⟩:∃sx sy,sec (dx,dy,dn)=(sx,sy):=⟨_,_,rfl⟩;have hh:mD (dx,dy,dn) (x,y)=(decide ((dx,dy)=(x,y))||decide ((sx,sy)=(x,y))):=by unfold mD;rw[hok,hs];rfl
      have Hok2:=SQ hok;have Hdd:=SQ hd;have Hs:=SQ hs;have Hh:=SQ hh;have HG:=SQ hg;clear hok hd hs hh hg;go_wp2_with fail
      refine(dA dx dy dn _).mono ?_;rintro e w1 ⟨rfl,hb1⟩;obtain⟨hc1,hf1,hz1⟩:=bk hb1;(try simp at hz1)
      have hy1_0:w.heap.size<w1.heap.size:=(by omega);have hy1_1:b<w1.heap.size:=(by omega);rw[Hok2.out];go_wp2_with fail
      refine(jM dx dy dn _ Hok2.out).mono ?_;rintro e w2 ⟨rfl,hb2⟩;obtain⟨hc2,hf2,hz2⟩:=bk hb2;(try simp at hz2)
      have hy2_0:w.heap.size<w2.heap.size:=(by omega);rw[Hs.out];go_wp2
      all_goals
        have B2:=(hbel.tr hb1).tr hb2;have zz1:w2.cell? ⟨w.heap.size,0,none⟩=some (.int .i64 x):=by rw[hc2 _ _ (by omega),hc1 _ _ (by omega)];exact z1
        have zz2:w2.cell? ⟨w.heap.size,1,none⟩=some (.int .i64 y):=by rw[hc2 _ _ (by omega),hc1 _ _ (by omega)];exact z2
        have hgo:iD (x,y) ((dx,dy,dn)::List.drop (k+1) l) k=if mD (dx,dy,dn) (x,y)=true then(k:Int)else iD (x,y) (l.drop (k+1)) (k+1):=rfl
        rw[HG.out]at hgo;have hn1:w.heap.size≠w2.heap.size:=(by omega);have hn2:w.heap.size≠w2.heap.size+1:=(by omega);clear hc1 hf1 hc2 hf2 z1 z2 q1 q2 q3 HD Hg
        first
          | (go_ret
             rw[if_pos (by rw[Hh.out];simp[*])]at hgo;exact⟨FC hgo.symm,(B2.al _).al _⟩)
          | (rw [if_neg (by rw [Hh.out]; simp [*])] at hgo
             go_roundw
             case rel=>exact⟨k+1,by omega,by go_num,SQ hgo.symm,by go_simp,by go_simp,by simp;omega,(B2.al _).al _⟩
             case measure=>simp[intOf];omega)
  . obtain rfl : k = l.length := by omega
    have hg:=Hg.out;rw[List.drop_of_length_le (le_refl _)]at hg;have HG:Hid ((-1:Int)=D):=SQ hg;clear hg;go_wp2;go_ret;exact⟨FC HG.out,hbel⟩
theorem nX:∀x:Bool,(Kg x).length=1:=fun _=>rfl
theorem LH:Row prog 160 4 (.bool false) 1 1:=⟨Tryz.underlying160,by kernel_rfl,rfl,by decide⟩
theorem gG (x y:Int) (I:Nat) (w:World) (hc:aX (x,y)=true) (hI:I=(dF (x,y)).toNat):Calls prog 162 #[.agg #[.int .i64 x,.int .i64 y]] w (Ret (.int .i64 I) w):=by
 have:=CV x y w hc;have k:=(dQ hc).2.1;rw[show dF (x,y)=(I:Int) by omega]at this;exact this
theorem iG (v:Value) (rows:List Int) (x y:Int) (s I:Nat) (w:World) (h:Rd 1 bV w v rows) (hc:aX (x,y)=true) (Hok:Hid (dK rows)) (Hs:Hid (s=setOf rows)) (hI:I=(dF (x,y)).toNat):Calls prog 161 #[.agg #[v],.agg #[.int .i64 x,.int .i64 y]] w (Ret (.bool (s.testBit I)) w):=by
 have:=pF v rows x y w h hc;have e:jX rows (x,y)=s.testBit I:=by unfold jX;rw[aO.2 Hok.out,hc,hI,Hs.out];simp
 rw[e]at this;exact this
theorem BB (v:Value) (rows:List Int) (x y:Int) (w:World) (h:Rd 1 bV w v rows) (hc:aX (x,y)=true) (hr:aZ rows=false):Calls prog 161 #[.agg #[v],.agg #[.int .i64 x,.int .i64 y]] w (Ret (.bool false) w):=by
 have:=pF v rows x y w h hc;have e:jX rows (x,y)=false:=by unfold jX;rw[hr];rfl
 rw[e]at this;exact this
theorem xD {left:Nat} {d:Dm} (hl:left<U64) (h:aJ d=true):decide (left&&&aG d=aG d)=(left.testBit (eZ d)&&left.testBit (iZ d)):=by
 rw[Bool.eq_iff_iff,decide_eq_true_iff,and_eq_true];constructor
 . intro e;exact⟨qC e _ (by rw[aT h];simp),qC e _ (by rw[aT h];simp)⟩
 . rintro⟨h1,h2⟩;apply Nat.eq_of_testBit_eq;intro i;rw[Nat.testBit_and,aT h];by_cases e1:eZ d=i
   . rw[<-e1,h1];simp
   . by_cases e2:iZ d=i
     . rw[<-e2,h2];simp
     . simp[e1,e2]
def rQ (s left:Nat) (u:List Bool):Prop:=u.length=64/\(∀i,left.testBit i=true->s.testBit i=true)/\∀i,∀h:i<u.length,u[i]=(s.testBit i&& !left.testBit i)
theorem rQ.start (s:Nat):rQ s s (List.replicate 64 false):=⟨by simp,fun i h=>h,fun i h=>by rw[List.getElem_replicate];simp⟩
theorem rQ.step {s left:Nat} {u:List Bool} {d:Dm} (h:rQ s left u) (hl:left<U64) (hd:aJ d=true) (h1:left.testBit (eZ d)=true) (h2:left.testBit (iZ d)=true):rQ s (dB left (aG d)) ((u.set (eZ d) true).set (iZ d) true):=by
 refine⟨by simp[h.1],fun i hi=>h.2.1 i ?_,fun i hi=> ?_⟩
 . rw[jJ hl (dJ hd),and_eq_true]at hi;exact hi.1
 . rw[jJ hl (dJ hd),aT hd,List.getElem_set,List.getElem_set];by_cases e2:iZ d=i
   . rw[if_pos e2];subst e2;rw[h.2.1 _ h2];simp
   . rw[if_neg e2];by_cases e1:eZ d=i
     . rw[if_pos e1];subst e1;rw[h.2.1 _ h1];simp
     . rw[if_neg e1,h.2.2 i (by simpa using hi)];simp[e1,e2]
theorem rQ.bit {s left : Nat} {u : List Bool} (h : rQ s left u) {i : Nat} (hi : i < 64) (hs : s.testBit i = true) : u[i]'(by rw [h.1]; exact hi) = !left.testBit i := by
 rw[h.2.2 i (by rw[h.1];exact hi),hs];rfl
theorem rQ.out {s left:Nat} {u:List Bool} (h:rQ s left u) {i:Nat} (hs:s.testBit i=false):left.testBit i=false:=by
 rcases e:left.testBit i with _|_
 . rfl
 . rw[h.2.1 i e]at hs;exact hs
theorem MR (v u:Value) (rows:List Int) (l:List Dm) (w:World) (h:Rd 1 bV w v rows) (h2:Rd 3 bG w u l) (Hok:Hid (dK rows)):Calls prog 104 #[.agg #[v],u] w (Ret (.bool (isPartial rows l)) w):=by
 obtain⟨A,c,rfl,hc,hm⟩:=h.form;obtain⟨A2,c2,rfl,hc2,hm2⟩:=h2.form;have hA:=((Below.refl w.heap.size w).al (.cells #[.slice A rows.length c] 26));have hx:=Blk.aY w 26 #[.slice A rows.length c];have h64:Hid ((64:Int)=((64:Nat):Int)):=SQ rfl;have e:isPartial rows l=kJ (setOf rows) none l:=by unfold isPartial;rw[aO.2 Hok.out];rfl
 obtain⟨R,hR⟩:=SL (isPartial rows l);rw[<-hR]at e⊢;have HR:=SQ e;clear e hR;have hs:=dM Hok.out;obtain⟨s,hse⟩:=SL (setOf rows);rw[<-hse]at hs;have HR:Hid (kJ s none l=R):=SQ (by rw[HR.out,hse]);have Hse:=SQ hse;clear hse;go_enter func104,ntmps104
 go_wp2_with (at_make;go_must (refine mI (enc:=Kg) (z0:=false) LH rfl hA 64 (by decide) (by decide) _ h64.out rfl _ _ rfl rfl rfl ?_);intro w1 hown1 hb1 hg1)
 have hx1:=hx.grown hg1 (by simp);go_loopw [6] (fun s6 wr=>∃(k left:Nat) (q:List Bool),k<=l.length/\s6= .int .i64 k/\left<U64/\Hid (kJ left (zW l k) (l.drop k)=R)/\Hid (∀e,zW l k=some e->aJ e=true)/\Hid (rQ s left q)/\aC 4 1 Kg w.heap.size wr (.slice (some ⟨w.heap.size+1,0,none⟩) 64 64) q/\Blk wr w.heap.size 26 #[.slice A rows.length c]/\Below w.heap.size w wr) (fun i _=>l.length-(intOf i).toNat)
 case atStart=>exact⟨0,s,_,zero_le _,rfl,hs,SQ HR.out,SQ (fun e he=>by cases he),SQ (rQ.start s),by simpa using hown1,hx1,hb1⟩
 case round=>
  obtain⟨k,left,q,hk,rfl,hleft,Hg,Hp,Hu,hown,bR,hbel⟩:=hrel;have z1:=bR.c1;clear hx hx1 hb1 hg1 hown1;have hgl:w.heap.size+1<wr.heap.size:=hown.at_.2.2;by_cases hlt:k<l.length
  . obtain⟨b,off,rfl,hb,q1,q2,q3⟩:=(h2.SN hbel).kN hlt;have hg:=Hg.out;rw[List.drop_eq_getElem_cons hlt,rA]at hg;obtain⟨d,hd⟩:=SL (l[k]);rw[<-hd]at q1 q2 q3 hg;obtain⟨x,y,dn⟩:=d;simp only at q1 q2 q3;have hltI:(k:Int)<(l.length:Int):=(by omega);have hk0:(0:Int)<=(k:Int):=(by omega);have Bw:Below wr.heap.size wr wr.drew:=(Below.refl _ _).drew;have hz:wr.heap.size<=wr.drew.heap.size:=(by simp);rcases hok:aJ (x,y,dn)with _|_
    . rw[hok]at hg;simp only[Bool.false_and]at hg;have HG:=SQ hg;have Hdd:=SQ hd;have Hok2:=SQ hok;clear hg hd hok;go_wp2_with fail
      refine rB (fun w'=>w'.cell? ⟨b,off+k*3,none⟩=some (.int .i64 x)/\w'.cell? ⟨b,off+k*3+1,none⟩=some (.int .i64 y)/\w'.cell? ⟨b,off+k*3+2,none⟩=some (.bool dn)) fun hHeld=>(tW 0)<|(tW 1)<|(tW 2)<|(tW 3)<|(tR [4])<|tL fun K hK=>?_
      go_simp
      (first|(go_at_call 158;go_must (refine(dA x y dn _).mono ?_;rintro e wX ⟨rfl,hbX⟩;rw[Hok2.out];obtain⟨hcX,hfX,hzX⟩:=bkn hbX wr.heap.size hz;have hz:=hzX;have Bw:=Bw.tr hbX);(try go_wp2_with fail)))
      refine tK hK fun hHeld=>?_
      clear hK K;refine(tW 5)<|(tW 6)<|(tU 7)<|(tU 8)<|(tU 9)<|(tU 10)<|(tU 11)<|(tU 12)<|(tU 13)<|(tU 14)<|(tU 15)<|(tU 16)<|(tU 17)<|(tU 18)<|(tU 19)<|(tU 20)<|(tU 21)<|(tW 22)<|tD ?_;go_wp2;go_ret;exact⟨lD HG.out,hbel.tr Bw⟩
    . rw[hok]at hg;simp only[Bool.true_and]at hg;rcases Nat.eq_zero_or_pos k with rfl|hkp
      . rw[Bz]at hg;simp only[qO,Bool.and_true]at hg;have Hok2:=SQ hok;have Hdd:=SQ hd;have Hg2:=SQ hg;clear hok hd hg;simp only[zero_mul,add_zero]at q1 q2 q3;go_wp2_with fail
        refine rB (fun w'=>w'.cell? ⟨b,off,none⟩=some (.int .i64 x)/\w'.cell? ⟨b,off+1,none⟩=some (.int .i64 y)/\w'.cell? ⟨b,off+2,none⟩=some (.bool dn)) fun hHeld=>(tW 0)<|(tW 1)<|(tW 2)<|(tW 3)<|(tR [4])<|tL fun K hK=>?_
        go_simp
        (first|(go_at_call 158;go_must (refine(dA x y dn _).mono ?_;rintro e wX ⟨rfl,hbX⟩;rw[Hok2.out];obtain⟨hcX,hfX,hzX⟩:=bkn hbX wr.heap.size hz;have hz:=hzX;have Bw:=Bw.tr hbX);(try go_wp2_with fail)))
        refine tK hK fun hHeld=>?_
        clear hK K;refine(tW 5)<|(tW 6)<|(tW 7)<|(tW 8)<|(tW 9)<|(tU 10)<|(tU 11)<|(tU 12)<|(tU 13)<|(tU 14)<|(tU 15)<|(tU 16)<|(tU 17)<|(tU 18)<|(tU 19)<|(tU 20)<|(tW 21)<|(tW 22)<|tD ?_;have ownA:=hown.below Bw;have BA:=hbel.tr Bw;have zA:wX.cell? ⟨w.heap.size,0,none⟩=some (.slice A rows.length c):=(Bw.cell (p:=⟨w.heap.size,0,none⟩) (by show w.heap.size<wr.heap.size;omega)).trans z1;have hgA:w.heap.size+1<wX.heap.size:=by have:=Bw.size;omega
        have hbA:b<wX.heap.size:=by have:=Bw.size;omega
        have hgA0:w.heap.size<wX.heap.size:=(by omega);have hn0:w.heap.size≠w.heap.size+1:=(by omega);have r1:=hHeld.1;have r2:=hHeld.2.1;have r3:=(by first|exact hHeld.2.2|exact hHeld.2.2.1:wX.cell? _=some (.bool dn));clear hcX hfX q1 q2 q3 z1;obtain⟨sx,sy,hsec⟩:∃sx sy,sec (x,y,dn)=(sx,sy):=⟨_,_,rfl⟩;obtain⟨hcI,hcJ⟩:=dU Hok2.out;have hsub:=xD hleft Hok2.out;obtain⟨hI64,hJ64⟩:=Aq Hok2.out;have hIe:eZ (x,y,dn)=(dF (x,y)).toNat:=rfl;have hJe:iZ (x,y,dn)=(dF (sx,sy)).toNat:=by unfold iZ;rw[hsec]
        rw[hsec]at hcJ;simp only at hcI;have hstep:=fun h1 h2=>Hu.out.step hleft Hok2.out h1 h2
        have hg2:=Hg2.out;rw[hsub]at hg2;obtain⟨D,hD⟩:=SL (aG (x,y,dn));obtain⟨I,hI⟩:=SL (eZ (x,y,dn));obtain⟨J,hJ⟩:=SL (iZ (x,y,dn));rw[<-hI]at hI64 hIe hg2 hstep;rw[<-hJ]at hJ64 hJe hg2 hstep;rw[<-hD]at hg2 hstep;have hqI:I<q.length:=by rw[Hu.out.1];exact hI64
        have hqJ:J<q.length:=by rw[Hu.out.1];exact hJ64
        have zI:wX.cell? ⟨w.heap.size+1,I,none⟩=some (.bool q[I]):=by
         have:=ownA.slot nX one_pos hqI 0 (.bool q[I]) rfl;rwa [mul_one,add_zero]at this
        have zJ:wX.cell? ⟨w.heap.size+1,J,none⟩=some (.bool q[J]):=by
         have:=ownA.slot nX one_pos hqJ 0 (.bool q[J]) rfl;rwa [mul_one,add_zero]at this
        have hbI:=fun hh=>Hu.out.bit hI64 (i:=I) hh
        have hbJ:=fun hh=>Hu.out.bit hJ64 (i:=J) hh
        have hoI:=fun hh=>Hu.out.out (i:=I) hh
        have hoJ:=fun hh=>Hu.out.out (i:=J) hh
        obtain⟨qI,hqIe⟩:=SL (q[I]);obtain⟨qJ,hqJe⟩:=SL (q[J]);rw[<-hqIe]at zI hbI;rw[<-hqJe]at zJ hbJ;have HbI:=SQ hbI;have HbJ:=SQ hbJ;have HoI:=SQ hoI;have HoJ:=SQ hoJ;have HG3:=SQ hg2;have HST:=SQ hstep;have HcI:=SQ hcI;have HcJ:=SQ hcJ;have HIe:=SQ hIe;have HJe:=SQ hJe;have Hsec:=SQ hsec;have HI:=SQ hI;have HJ:=SQ hJ;have HD:=SQ hD;have HqI:=SQ hqIe;have HqJ:=SQ hqJe;clear hbI hbJ hoI hoJ hg2 hstep hcI hcJ hIe hJe hsec hsub hI hJ hD hqIe hqJe;have hI0:(0:Int)<=(I:Int):=(by omega);have hJ0:(0:Int)<=(J:Int):=(by omega);have hI6:(I:Int)<64:=(by omega);have hJ6:(J:Int)<64:=(by omega);go_wp2_with fail
        refine(jM x y dn _ Hok2.out).mono ?_;rintro e w7 ⟨rfl,hb7⟩;obtain⟨hc7,hf7,hz7⟩:=bk hb7;(try simp at hz7)
        have hy7_0:w.heap.size<w7.heap.size:=(by omega);have hy7_1:w.heap.size+1<w7.heap.size:=(by omega);have hy7_2:b<w7.heap.size:=(by omega);rw[Hsec.out];have B7:=BA.tr hb7;have hN0:w7.heap.size+1+1<=((w7.alloc (.cells #[.int .i64 x,.int .i64 y] 70)).alloc (.cells #[.int .i64 sx,.int .i64 sy] 70)).heap.size:=(by simp);have hp1:w.heap.size<w7.heap.size+1+1:=(by omega);have hp2:w.heap.size+1<w7.heap.size+1+1:=(by omega);have hp3:w7.heap.size<w7.heap.size+1+1:=(by omega);have hp4:w7.heap.size+1<w7.heap.size+1+1:=(by omega);have hn1:w.heap.size≠w7.heap.size:=(by omega);have hn2:w.heap.size≠w7.heap.size+1:=(by omega);have hn3:w.heap.size+1≠w7.heap.size:=(by omega);have hn4:w7.heap.size≠w.heap.size+1:=(by omega);have hn5:w7.heap.size≠w.heap.size:=(by omega);have hn6:w.heap.size+1≠w7.heap.size+1:=(by omega);have hn7:w7.heap.size+1≠w.heap.size+1:=(by omega);have B7a:=(B7.al (.cells #[.int .i64 x,.int .i64 y] 70)).al (.cells #[.int .i64 sx,.int .i64 sy] 70);have own7:=((ownA.below hb7).alloc (.cells #[.int .i64 x,.int .i64 y] 70)).alloc (.cells #[.int .i64 sx,.int .i64 sy] 70);go_wp2_with fail
        refine(iG _ rows x y s I _ (h.SN B7a) HcI.out Hok Hse HIe.out).mono ?_;rintro e w8 ⟨rfl,hb8⟩;obtain⟨hc8,hf8,hz8⟩:=bkn hb8 _ hN0;have B8:=B7a.tr hb8;rcases e1:s.testBit I with _|_
        . go_wp2;go_ret;exact⟨lD (by have:=HG3.out;rw[HoI.out e1]at this;simpa using this),B8⟩
        . go_wp2_with fail
          refine(iG _ rows sx sy s J _ (h.SN B8) HcJ.out Hok Hse HJe.out).mono ?_;rintro e w9 ⟨rfl,hb9⟩;obtain⟨hc9,hf9,hz9⟩:=bkn hb9 _ hz8;have B9:=B8.tr hb9;rcases e2:s.testBit J with _|_
          . go_wp2;go_ret;exact⟨lD (by have:=HG3.out;rw[HoJ.out e2]at this;simpa using this),B9⟩
          . have HvI:=SQ (HbI.out e1);have HvJ:=SQ (HbJ.out e2);go_wp2_with fail
            refine(gG x y I _ HcI.out HIe.out).mono ?_;rintro e w10 ⟨rfl,hb10⟩;obtain⟨hc10,hf10,hz10⟩:=bkn hb10 _ hz9;have B10:=B9.tr hb10;rcases qI with _|_
            . go_wp2_with fail
              refine(gG sx sy J _ HcJ.out HJe.out).mono ?_;rintro e w11 ⟨rfl,hb11⟩;obtain⟨hc11,hf11,hz11⟩:=bkn hb11 _ hz10;have B11:=B10.tr hb11;rcases qJ with _|_
              . go_wp2_with fail
                refine(gG x y I _ HcI.out HIe.out).mono ?_;rintro e w12 ⟨rfl,hb12⟩;obtain⟨hc12,hf12,hz12⟩:=bkn hb12 _ hz11;have own12:=((((own7.below hb8).below hb9).below hb10).below hb11).below hb12;have bR12:=((((((((bR.bl Bw).bl hb7).alloc (.cells #[.int .i64 x,.int .i64 y] 70)).alloc (.cells #[.int .i64 sx,.int .i64 sy] 70)).bl hb8).bl hb9).bl hb10).bl hb11).bl hb12;have B12:=B11.tr hb12;have hsf12:=own12.free;have own12s:=own12.iU nX hqI (y:=true) rfl;have HlI:Hid (left.testBit I=true):=SQ (by have k:=HvI.out;simpa using k);have HlJ:Hid (left.testBit J=true):=SQ (by have k:=HvJ.out;simpa using k);clear hf7 hf8 hf9 hf10 hf11 hf12;go_wp2_with fail
                refine(gG sx sy J _ HcJ.out HJe.out).mono ?_;rintro e w13 ⟨rfl,hb13⟩;have own13:=own12s.below hb13;have bR13:=(bR12.far hn0 _).bl hb13;have B13:=(B12.st ⟨w.heap.size+1,I,none⟩ (.bool true) (le_succ _)).tr hb13;obtain⟨u13,s13⟩:=own13.Dc nX (k:=J) (by rw[List.length_set];exact hqJ);have hsf13:=own13.free;clear hc7 hc8 hc9 hc10 hc11 hc12 zI zJ zA hsf12;go_wp2;go_roundw
                case rel=>exact⟨0+1,dB left D,(q.set I true).set J true,by omega,by go_num,eB hleft,by rw[fP l _ hlt,<-Hdd.out];exact SQ (by have:=HG3.out;rw[HlI.out,HlJ.out]at this;simpa using this),SQ (fun e he=>by rw[fP l _ hlt,<-Hdd.out]at he;injection he with he;rw[<-he];exact Hok2.out),SQ (HST.out HlI.out HlJ.out),own13.iU nX (by rw[List.length_set];exact hqJ) rfl,bR13.far hn0 _,B13.st _ _ (le_succ _)⟩
                case measure=>simp[intOf];omega
              . go_wp2;go_ret;exact⟨lD (by have:=HG3.out;have k:=HvJ.out;rw[show left.testBit J=false by simpa using k]at this;simpa using this),B11⟩
            . go_wp2;go_ret;exact⟨lD (by have:=HG3.out;have k:=HvI.out;rw[show left.testBit I=false by simpa using k]at this;simpa using this),B10⟩
      . obtain ⟨j, rfl⟩ : ∃ j, k = j + 1 := ⟨k - 1, by omega⟩;have hj:j<l.length:=(by omega);rw[fP l j hj]at hg;have hpok:=Hp.out l[j] (fP l j hj);obtain⟨b',off',e',hb',p1,p2,p3⟩:=(h2.SN hbel).kN hj;injection e' with e';injection e' with e1 e2 e3;subst e1;subst e2;simp only[qO]at hg;obtain⟨dp,hdp⟩:=SL (l[j]);rw[<-hdp]at p1 p2 p3 hg hpok;obtain⟨px,py,pd⟩:=dp;simp only at p1 p2 p3;have Hpok:=SQ hpok;have Hdp:=SQ hdp;clear hpok hdp e3;have hwj:IntKind.i64.wrap (j:Int)=(j:Int):=IntWalk.i64_in _ (by omega);have hj0:(0:Int)<=(j:Int):=(by omega);have hjI:(j:Int)<(l.length:Int):=(by omega);have hk01:(0:Int)<=(j:Int)+1:=(by omega);have hltI1:(j:Int)+1<(l.length:Int):=(by omega);clear hk0 hltI;rcases hbf:decide (aS (px,py,pd)<aS (x,y,dn))with _|_
        . rw[hbf]at hg;simp only[Bool.and_false,Bool.false_and]at hg;have Hok2:=SQ hok;have Hdd:=SQ hd;have HG:=SQ hg;have Hbf:=SQ hbf;clear hok hd hg hbf;go_wp2_with fail
          refine rB (fun w'=>w'.cell? ⟨b,off+(j+1)*3,none⟩=some (.int .i64 x)/\w'.cell? ⟨b,off+(j+1)*3+1,none⟩=some (.int .i64 y)/\w'.cell? ⟨b,off+(j+1)*3+2,none⟩=some (.bool dn)/\w'.cell? ⟨b,off+j*3,none⟩=some (.int .i64 px)/\w'.cell? ⟨b,off+j*3+1,none⟩=some (.int .i64 py)/\w'.cell? ⟨b,off+j*3+2,none⟩=some (.bool pd)) fun hHeld=>(tW 0)<|(tW 1)<|(tW 2)<|(tW 3)<|(tR [4])<|tL fun K hK=>?_
          go_simp
          (first|(go_at_call 158;go_must (refine(dA x y dn _).mono ?_;rintro e wX ⟨rfl,hbX⟩;rw[Hok2.out];obtain⟨hcX,hfX,hzX⟩:=bkn hbX wr.heap.size hz;have hz:=hzX;have Bw:=Bw.tr hbX);(try go_wp2_with fail))|(go_at_call 159;go_must (refine(nS px py pd x y dn _ Hpok.out Hok2.out).mono ?_;rintro e wX ⟨rfl,hbX⟩;rw[Hbf.out];obtain⟨hcX,hfX,hzX⟩:=bkn hbX wr.heap.size hz;have hz:=hzX;have Bw:=Bw.tr hbX);(try go_wp2_with fail)))
          refine tK hK fun hHeld=>?_
          clear hK K;refine(tW 5)<|(tW 6)<|(tW 7)<|(tW 8)<|(tW 9)<|(tW 10)<|(tW 11)<|(tW 12)<|(tW 13)<|(tW 14)<|(tW 15)<|(tW 16)<|(tW 17)<|(tW 18)<|(tR [19])<|tL fun K hK=>?_
          go_simp
          (first|(go_at_call 158;go_must (refine(dA x y dn _).mono ?_;rintro e wX ⟨rfl,hbX⟩;rw[Hok2.out];obtain⟨hcX,hfX,hzX⟩:=bkn hbX wr.heap.size hz;have hz:=hzX;have Bw:=Bw.tr hbX);(try go_wp2_with fail))|(go_at_call 159;go_must (refine(nS px py pd x y dn _ Hpok.out Hok2.out).mono ?_;rintro e wX ⟨rfl,hbX⟩;rw[Hbf.out];obtain⟨hcX,hfX,hzX⟩:=bkn hbX wr.heap.size hz;have hz:=hzX;have Bw:=Bw.tr hbX);(try go_wp2_with fail)))
          refine tK hK fun hHeld=>?_
          clear hK K;refine(tW 20)<|(tW 21)<|(tW 22)<|tD ?_;go_wp2;go_ret;exact⟨lD HG.out,hbel.tr Bw⟩
        . rw[hbf]at hg;simp only[Bool.and_true]at hg;have Hok2:=SQ hok;have Hdd:=SQ hd;have Hg2:=SQ hg;have Hbf:=SQ hbf;clear hok hd hg hbf;go_wp2_with fail
          refine rB (fun w'=>w'.cell? ⟨b,off+(j+1)*3,none⟩=some (.int .i64 x)/\w'.cell? ⟨b,off+(j+1)*3+1,none⟩=some (.int .i64 y)/\w'.cell? ⟨b,off+(j+1)*3+2,none⟩=some (.bool dn)/\w'.cell? ⟨b,off+j*3,none⟩=some (.int .i64 px)/\w'.cell? ⟨b,off+j*3+1,none⟩=some (.int .i64 py)/\w'.cell? ⟨b,off+j*3+2,none⟩=some (.bool pd)) fun hHeld=>(tW 0)<|(tW 1)<|(tW 2)<|(tW 3)<|(tR [4])<|tL fun K hK=>?_
          go_simp
          (first|(go_at_call 158;go_must (refine(dA x y dn _).mono ?_;rintro e wX ⟨rfl,hbX⟩;rw[Hok2.out];obtain⟨hcX,hfX,hzX⟩:=bkn hbX wr.heap.size hz;have hz:=hzX;have Bw:=Bw.tr hbX);(try go_wp2_with fail))|(go_at_call 159;go_must (refine(nS px py pd x y dn _ Hpok.out Hok2.out).mono ?_;rintro e wX ⟨rfl,hbX⟩;rw[Hbf.out];obtain⟨hcX,hfX,hzX⟩:=bkn hbX wr.heap.size hz;have hz:=hzX;have Bw:=Bw.tr hbX);(try go_wp2_with fail)))
          refine tK hK fun hHeld=>?_
          clear hK K;refine(tW 5)<|(tW 6)<|(tW 7)<|(tW 8)<|(tW 9)<|(tW 10)<|(tW 11)<|(tW 12)<|(tW 13)<|(tW 14)<|(tW 15)<|(tW 16)<|(tW 17)<|(tW 18)<|(tR [19])<|tL fun K hK=>?_
          go_simp
          (first|(go_at_call 158;go_must (refine(dA x y dn _).mono ?_;rintro e wX ⟨rfl,hbX⟩;rw[Hok2.out];obtain⟨hcX,hfX,hzX⟩:=bkn hbX wr.heap.size hz;have hz:=hzX;have Bw:=Bw.tr hbX);(try go_wp2_with fail))|(go_at_call 159;go_must (refine(nS px py pd x y dn _ Hpok.out Hok2.out).mono ?_;rintro e wX ⟨rfl,hbX⟩;rw[Hbf.out];obtain⟨hcX,hfX,hzX⟩:=bkn hbX wr.heap.size hz;have hz:=hzX;have Bw:=Bw.tr hbX);(try go_wp2_with fail)))
          refine tK hK fun hHeld=>?_
          clear hK K;refine(tW 20)<|(tW 21)<|(tW 22)<|tD ?_;have ownA:=hown.below Bw;have BA:=hbel.tr Bw;have zA:wX.cell? ⟨w.heap.size,0,none⟩=some (.slice A rows.length c):=(Bw.cell (p:=⟨w.heap.size,0,none⟩) (by show w.heap.size<wr.heap.size;omega)).trans z1;have hgA:w.heap.size+1<wX.heap.size:=by have:=Bw.size;omega
          have hbA:b<wX.heap.size:=by have:=Bw.size;omega
          have hgA0:w.heap.size<wX.heap.size:=(by omega);have hn0:w.heap.size≠w.heap.size+1:=(by omega);have r1:=hHeld.1;have r2:=hHeld.2.1;have r3:=(by first|exact hHeld.2.2|exact hHeld.2.2.1:wX.cell? _=some (.bool dn));clear hcX hfX q1 q2 q3 z1;obtain⟨sx,sy,hsec⟩:∃sx sy,sec (x,y,dn)=(sx,sy):=⟨_,_,rfl⟩;obtain⟨hcI,hcJ⟩:=dU Hok2.out;have hsub:=xD hleft Hok2.out;obtain⟨hI64,hJ64⟩:=Aq Hok2.out;have hIe:eZ (x,y,dn)=(dF (x,y)).toNat:=rfl;have hJe:iZ (x,y,dn)=(dF (sx,sy)).toNat:=by unfold iZ;rw[hsec]
          rw[hsec]at hcJ;simp only at hcI;have hstep:=fun h1 h2=>Hu.out.step hleft Hok2.out h1 h2
          have hg2:=Hg2.out;rw[hsub]at hg2;obtain⟨D,hD⟩:=SL (aG (x,y,dn));obtain⟨I,hI⟩:=SL (eZ (x,y,dn));obtain⟨J,hJ⟩:=SL (iZ (x,y,dn));rw[<-hI]at hI64 hIe hg2 hstep;rw[<-hJ]at hJ64 hJe hg2 hstep;rw[<-hD]at hg2 hstep;have hqI:I<q.length:=by rw[Hu.out.1];exact hI64
          have hqJ:J<q.length:=by rw[Hu.out.1];exact hJ64
          have zI:wX.cell? ⟨w.heap.size+1,I,none⟩=some (.bool q[I]):=by
           have:=ownA.slot nX one_pos hqI 0 (.bool q[I]) rfl;rwa [mul_one,add_zero]at this
          have zJ:wX.cell? ⟨w.heap.size+1,J,none⟩=some (.bool q[J]):=by
           have:=ownA.slot nX one_pos hqJ 0 (.bool q[J]) rfl;rwa [mul_one,add_zero]at this
          have hbI:=fun hh=>Hu.out.bit hI64 (i:=I) hh
          have hbJ:=fun hh=>Hu.out.bit hJ64 (i:=J) hh
          have hoI:=fun hh=>Hu.out.out (i:=I) hh
          have hoJ:=fun hh=>Hu.out.out (i:=J) hh
          obtain⟨qI,hqIe⟩:=SL (q[I]);obtain⟨qJ,hqJe⟩:=SL (q[J]);rw[<-hqIe]at zI hbI;rw[<-hqJe]at zJ hbJ;have HbI:=SQ hbI;have HbJ:=SQ hbJ;have HoI:=SQ hoI;have HoJ:=SQ hoJ;have HG3:=SQ hg2;have HST:=SQ hstep;have HcI:=SQ hcI;have HcJ:=SQ hcJ;have HIe:=SQ hIe;have HJe:=SQ hJe;have Hsec:=SQ hsec;have HI:=SQ hI;have HJ:=SQ hJ;have HD:=SQ hD;have HqI:=SQ hqIe;have HqJ:=SQ hqJe;clear hbI hbJ hoI hoJ hg2 hstep hcI hcJ hIe hJe hsec hsub hI hJ hD hqIe hqJe;have hI0:(0:Int)<=(I:Int):=(by omega);have hJ0:(0:Int)<=(J:Int):=(by omega);have hI6:(I:Int)<64:=(by omega);have hJ6:(J:Int)<64:=(by omega);go_wp2_with fail
          refine(jM x y dn _ Hok2.out).mono ?_;rintro e w7 ⟨rfl,hb7⟩;obtain⟨hc7,hf7,hz7⟩:=bk hb7;(try simp at hz7)
          have hy7_0:w.heap.size<w7.heap.size:=(by omega);have hy7_1:w.heap.size+1<w7.heap.size:=(by omega);have hy7_2:b<w7.heap.size:=(by omega);rw[Hsec.out];have B7:=BA.tr hb7;have hN0:w7.heap.size+1+1<=((w7.alloc (.cells #[.int .i64 x,.int .i64 y] 70)).alloc (.cells #[.int .i64 sx,.int .i64 sy] 70)).heap.size:=(by simp);have hp1:w.heap.size<w7.heap.size+1+1:=(by omega);have hp2:w.heap.size+1<w7.heap.size+1+1:=(by omega);have hp3:w7.heap.size<w7.heap.size+1+1:=(by omega);have hp4:w7.heap.size+1<w7.heap.size+1+1:=(by omega);have hn1:w.heap.size≠w7.heap.size:=(by omega);have hn2:w.heap.size≠w7.heap.size+1:=(by omega);have hn3:w.heap.size+1≠w7.heap.size:=(by omega);have hn4:w7.heap.size≠w.heap.size+1:=(by omega);have hn5:w7.heap.size≠w.heap.size:=(by omega);have hn6:w.heap.size+1≠w7.heap.size+1:=(by omega);have hn7:w7.heap.size+1≠w.heap.size+1:=(by omega);have B7a:=(B7.al (.cells #[.int .i64 x,.int .i64 y] 70)).al (.cells #[.int .i64 sx,.int .i64 sy] 70);have own7:=((ownA.below hb7).alloc (.cells #[.int .i64 x,.int .i64 y] 70)).alloc (.cells #[.int .i64 sx,.int .i64 sy] 70);go_wp2_with fail
          refine(iG _ rows x y s I _ (h.SN B7a) HcI.out Hok Hse HIe.out).mono ?_;rintro e w8 ⟨rfl,hb8⟩;obtain⟨hc8,hf8,hz8⟩:=bkn hb8 _ hN0;have B8:=B7a.tr hb8;rcases e1:s.testBit I with _|_
          . go_wp2;go_ret;exact⟨lD (by have:=HG3.out;rw[HoI.out e1]at this;simpa using this),B8⟩
          . go_wp2_with fail
            refine(iG _ rows sx sy s J _ (h.SN B8) HcJ.out Hok Hse HJe.out).mono ?_;rintro e w9 ⟨rfl,hb9⟩;obtain⟨hc9,hf9,hz9⟩:=bkn hb9 _ hz8;have B9:=B8.tr hb9;rcases e2:s.testBit J with _|_
            . go_wp2;go_ret;exact⟨lD (by have:=HG3.out;rw[HoJ.out e2]at this;simpa using this),B9⟩
            . have HvI:=SQ (HbI.out e1);have HvJ:=SQ (HbJ.out e2);go_wp2_with fail
              refine(gG x y I _ HcI.out HIe.out).mono ?_;rintro e w10 ⟨rfl,hb10⟩;obtain⟨hc10,hf10,hz10⟩:=bkn hb10 _ hz9;have B10:=B9.tr hb10;rcases qI with _|_
              . go_wp2_with fail
                refine(gG sx sy J _ HcJ.out HJe.out).mono ?_;rintro e w11 ⟨rfl,hb11⟩;obtain⟨hc11,hf11,hz11⟩:=bkn hb11 _ hz10;have B11:=B10.tr hb11;rcases qJ with _|_
                . go_wp2_with fail
                  refine(gG x y I _ HcI.out HIe.out).mono ?_;rintro e w12 ⟨rfl,hb12⟩;obtain⟨hc12,hf12,hz12⟩:=bkn hb12 _ hz11;have own12:=((((own7.below hb8).below hb9).below hb10).below hb11).below hb12;have bR12:=((((((((bR.bl Bw).bl hb7).alloc (.cells #[.int .i64 x,.int .i64 y] 70)).alloc (.cells #[.int .i64 sx,.int .i64 sy] 70)).bl hb8).bl hb9).bl hb10).bl hb11).bl hb12;have B12:=B11.tr hb12;have hsf12:=own12.free;have own12s:=own12.iU nX hqI (y:=true) rfl;have HlI:Hid (left.testBit I=true):=SQ (by have k:=HvI.out;simpa using k);have HlJ:Hid (left.testBit J=true):=SQ (by have k:=HvJ.out;simpa using k);clear hf7 hf8 hf9 hf10 hf11 hf12;go_wp2_with fail
                  refine(gG sx sy J _ HcJ.out HJe.out).mono ?_;rintro e w13 ⟨rfl,hb13⟩;have own13:=own12s.below hb13;have bR13:=(bR12.far hn0 _).bl hb13;have B13:=(B12.st ⟨w.heap.size+1,I,none⟩ (.bool true) (le_succ _)).tr hb13;obtain⟨u13,s13⟩:=own13.Dc nX (k:=J) (by rw[List.length_set];exact hqJ);have hsf13:=own13.free;clear hc7 hc8 hc9 hc10 hc11 hc12 zI zJ zA hsf12;go_wp2;go_roundw
                  case rel=>exact⟨(j+1)+1,dB left D,(q.set I true).set J true,by omega,by go_num,eB hleft,by rw[fP l _ hlt,<-Hdd.out];exact SQ (by have:=HG3.out;rw[HlI.out,HlJ.out]at this;simpa using this),SQ (fun e he=>by rw[fP l _ hlt,<-Hdd.out]at he;injection he with he;rw[<-he];exact Hok2.out),SQ (HST.out HlI.out HlJ.out),own13.iU nX (by rw[List.length_set];exact hqJ) rfl,bR13.far hn0 _,B13.st _ _ (le_succ _)⟩
                  case measure=>simp[intOf];omega
                . go_wp2;go_ret;exact⟨lD (by have:=HG3.out;have k:=HvJ.out;rw[show left.testBit J=false by simpa using k]at this;simpa using this),B11⟩
              . go_wp2;go_ret;exact⟨lD (by have:=HG3.out;have k:=HvI.out;rw[show left.testBit I=false by simpa using k]at this;simpa using this),B10⟩
  . obtain rfl : k = l.length := by omega
    have hg:=Hg.out;rw[List.drop_of_length_le (le_refl _)]at hg;have HG:=SQ hg;clear hg;go_wp2_with fail
    refine(dS _ rows _ (h.SN hbel)).mono ?_;rintro e w1 ⟨rfl,hb1⟩;obtain⟨hc1,hf1,hz1⟩:=bk hb1;(try simp at hz1)
    have hy1_0:w.heap.size<w1.heap.size:=(by omega);rw[aO.2 Hok.out];go_wp2;go_ret;exact⟨lD HG.out,hbel.tr hb1⟩
theorem NY (v u:Value) (rows:List Int) (l:List Dm) (w:World) (h:Rd 1 bV w v rows) (h2:Rd 3 bG w u l) (hr:aZ rows=false):Calls prog 104 #[.agg #[v],u] w (Ret (.bool false) w):=by
 obtain⟨A,c,rfl,hc,hm⟩:=h.form;obtain⟨A2,c2,rfl,hc2,hm2⟩:=h2.form;have hA:=((Below.refl w.heap.size w).al (.cells #[.slice A rows.length c] 26));have hx:=Blk.aY w 26 #[.slice A rows.length c];have h64:Hid ((64:Int)=((64:Nat):Int)):=SQ rfl;have Hr:=SQ hr;clear hr;go_enter func104,ntmps104
 go_wp2_with (at_make;go_must (refine mI (enc:=Kg) (z0:=false) LH rfl hA 64 (by decide) (by decide) _ h64.out rfl _ _ rfl rfl rfl ?_);intro w1 hown1 hb1 hg1)
 have hx1:=hx.grown hg1 (by simp);have z1:=hx1.c1;have hgl:=hx1.lt;have hb:∀b,b<w.heap.size->b<w1.heap.size:=fun b hb=>by omega
 refine wp_loop_rounds 1 ?_;rw[rounds_succ];by_cases hl:0<l.length
 . obtain⟨b,off,rfl,hb,q1,q2,q3⟩:=(h2.SN hb1).kN hl;simp only[zero_mul,add_zero]at q1 q2 q3;obtain⟨d,hd⟩:=SL (l[0]);rw[<-hd]at q1 q2 q3;obtain⟨x,y,dn⟩:=d;simp only at q1 q2 q3;have hltI:((0:Nat):Int)<(l.length:Int):=(by omega);have hltI0:(0:Int)<(l.length:Int):=(by omega);obtain⟨wr,hwr⟩:=SL w1;subst hwr;have Bw:Below wr.heap.size wr wr.drew:=(Below.refl _ _).drew;have hz:wr.heap.size<=wr.drew.heap.size:=(by simp);clear hd;rcases hok:aJ (x,y,dn)with _|_
   . have Hok2:=SQ hok;clear hok;go_wp2_with fail
     refine rB (fun w'=>w'.cell? ⟨b,off,none⟩=some (.int .i64 x)/\w'.cell? ⟨b,off+1,none⟩=some (.int .i64 y)/\w'.cell? ⟨b,off+2,none⟩=some (.bool dn)) fun hHeld=>(tW 0)<|(tW 1)<|(tW 2)<|(tW 3)<|(tR [4])<|tL fun K hK=>?_
     go_simp
     (first|(go_at_call 158;go_must (refine(dA x y dn _).mono ?_;rintro e wX ⟨rfl,hbX⟩;rw[Hok2.out];obtain⟨hcX,hfX,hzX⟩:=bkn hbX wr.heap.size hz;have hz:=hzX;have Bw:=Bw.tr hbX);(try go_wp2_with fail)))
     refine tK hK fun hHeld=>?_
     clear hK K;refine(tW 5)<|(tW 6)<|(tU 7)<|(tU 8)<|(tU 9)<|(tU 10)<|(tU 11)<|(tU 12)<|(tU 13)<|(tU 14)<|(tU 15)<|(tU 16)<|(tU 17)<|(tU 18)<|(tU 19)<|(tU 20)<|(tU 21)<|(tW 22)<|tD ?_;go_wp2;go_ret;exact⟨rfl,hb1.tr Bw⟩
   . have Hok2:=SQ hok;clear hok;go_wp2_with fail
     refine rB (fun w'=>w'.cell? ⟨b,off,none⟩=some (.int .i64 x)/\w'.cell? ⟨b,off+1,none⟩=some (.int .i64 y)/\w'.cell? ⟨b,off+2,none⟩=some (.bool dn)) fun hHeld=>(tW 0)<|(tW 1)<|(tW 2)<|(tW 3)<|(tR [4])<|tL fun K hK=>?_
     go_simp
     (first|(go_at_call 158;go_must (refine(dA x y dn _).mono ?_;rintro e wX ⟨rfl,hbX⟩;rw[Hok2.out];obtain⟨hcX,hfX,hzX⟩:=bkn hbX wr.heap.size hz;have hz:=hzX;have Bw:=Bw.tr hbX);(try go_wp2_with fail)))
     refine tK hK fun hHeld=>?_
     clear hK K;refine(tW 5)<|(tW 6)<|(tW 7)<|(tW 8)<|(tW 9)<|(tU 10)<|(tU 11)<|(tU 12)<|(tU 13)<|(tU 14)<|(tU 15)<|(tU 16)<|(tU 17)<|(tU 18)<|(tU 19)<|(tU 20)<|(tW 21)<|(tW 22)<|tD ?_;have r1:=hHeld.1;have r2:=hHeld.2.1;have r3:=hHeld.2.2;have BA:=hb1.tr Bw;have zA:wX.cell? ⟨w.heap.size,0,none⟩=some (.slice A rows.length c):=(Bw.cell (p:=⟨w.heap.size,0,none⟩) (by show w.heap.size<wr.heap.size;omega)).trans z1;have hbA:b<wX.heap.size:=by have:=Bw.size;omega
     have hgA0:w.heap.size<wX.heap.size:=by have:=Bw.size;omega
     clear hcX hfX q1 q2 q3 z1;obtain⟨hcI,hcJ⟩:=dU Hok2.out;obtain⟨sx,sy,hsec⟩:∃sx sy,sec (x,y,dn)=(sx,sy):=⟨_,_,rfl⟩;simp only at hcI;have HcI:=SQ hcI;have Hsec:=SQ hsec;clear hcI hcJ hsec;go_wp2_with fail
     refine(jM x y dn _ Hok2.out).mono ?_;rintro e w7 ⟨rfl,hb7⟩;obtain⟨hc7,hf7,hz7⟩:=bk hb7;(try simp at hz7)
     have hy7_0:w.heap.size<w7.heap.size:=(by omega);have hy7_1:b<w7.heap.size:=(by omega);rw[Hsec.out];have B7:=BA.tr hb7;have hp1:w.heap.size<w7.heap.size+1+1:=(by omega);have hn1:w.heap.size≠w7.heap.size:=(by omega);have hn2:w.heap.size≠w7.heap.size+1:=(by omega);have B7a:=(B7.al (.cells #[.int .i64 x,.int .i64 y] 70)).al (.cells #[.int .i64 sx,.int .i64 sy] 70);go_wp2_with fail
     refine(BB _ rows x y _ (h.SN B7a) HcI.out Hr.out).mono ?_;rintro e w8 ⟨rfl,hb8⟩;go_wp2;go_ret;exact⟨rfl,B7a.tr hb8⟩
 . have hl0 : l.length = 0 := by omega
   obtain rfl:l=[]:=List.length_eq_zero_iff.1 hl0;clear hl0 hl hb;go_wp2_with fail
   refine(dS _ rows _ (h.SN hb1)).mono ?_;rintro e w2 ⟨rfl,hb2⟩;obtain⟨hc2,hf2,hz2⟩:=bk hb2;(try simp at hz2)
   have hy2_0:w.heap.size<w2.heap.size:=(by omega);rw[Hr.out];go_wp2;go_ret;exact⟨rfl,hb1.tr hb2⟩
theorem FJ (v u:Value) (rows:List Int) (l:List Dm) (w:World) (h:Rd 1 bV w v rows) (h2:Rd 3 bG w u l):Calls prog 104 #[.agg #[v],u] w (Ret (.bool (isPartial rows l)) w):=by
 rcases hr:aZ rows with _|_
 . have e : isPartial rows l = false := by unfold isPartial; rw [hr]; rfl
   rw[e];exact NY v u rows l w h h2 hr
 . exact MR v u rows l w h h2 (SQ (aO.1 hr))
end Go.Proofs.YtljfoohaapckeaaGreatDoor
