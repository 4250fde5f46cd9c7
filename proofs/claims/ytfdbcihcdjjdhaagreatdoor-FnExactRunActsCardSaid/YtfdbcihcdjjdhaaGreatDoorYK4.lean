/- Dominoes as sets and in order; IsPartial of the program: the walks. Conditions: valid dominoes where said. IsPartial of the program: the walk. No conditions but sizes. What a floor's lines show: plain laws of dominoes over cells and of partial coverings. DominoAt of both sides; HasCell, CellIndex, IsDominoBefore of the reference: the walks. No conditions but sizes and validity where said. CellIndex, HasCell, IsDominoBefore, DominoAt of the reference: the walks. No conditions but sizes and validity where said. IsPartial of the reference: the walk. No conditions but sizes. IsPartial of the reference at any region. No conditions but sizes.. Conditions, where there are any, stand in the statements. -/
import Derived.Test.YtfdbcihcdjjdhaaGreatDoorYK3
import Derived.Test.YtfdbcihcdjjdhaaGreatDoorYK2
import Derived.Deep.RegionHeld3
import Derived.Deep.DeepCutAuto
namespace Go.Proofs.YtfdbcihcdjjdhaaGreatDoor
open Go.ChangeShapes Go.WideShapes Go.ChangeAt Go.RowKit
set_option linter.unusedVariables false
set_option maxHeartbeats 4000000
set_option maxRecDepth 100000
def domOrd (d:Dm):Int:=2*(d.2.1*8+d.1)+if d.2.2 then 1 else 0
def domI (d:Dm):Nat:=(cellIx (d.1,d.2.1)).toNat
def domJ (d:Dm):Nat:=(cellIx (sec d)).toNat
def domSet (d:Dm):Nat:=sWith (sWith 0 (domI d)) (domJ d)
theorem domI_lt {d:Dm} (h:domOk d=true):domI d<64∧domJ d<64:=by
 have h1:cellOk (d.1,d.2.1)=true:=by unfold domOk at h;rw[Bool.and_eq_true]at h;exact h.1
 have h2:cellOk (sec d)=true:=by unfold domOk at h;rw[Bool.and_eq_true]at h;exact h.2
 have a:=cellIx_in h1;have b:=cellIx_in h2;unfold domI domJ;omega
theorem zero_lt_U64:0<U64:=by unfold U64;decide
theorem domSet_lt {d:Dm} (h:domOk d=true):domSet d<U64:=by
 obtain⟨a,b⟩:=domI_lt h;exact sWith_lt (sWith_lt zero_lt_U64 a) b
theorem orderI_yes (x y:Int) (d:Bool) (w:World) (hd:domOk (x,y,d)=true):Calls Tryz.prog 250 #[.agg #[.int .i64 x,.int .i64 y,.bool d]] w (Ret (.int .i64 (domOrd (x,y,d))) w):=by
 have D1:=domOk_fst hd;simp only at D1;obtain⟨⟨x1,x2⟩,y1,y2⟩:=D1;have hc:cellOk (x,y)=true:=by unfold domOk at hd;rw[Bool.and_eq_true]at hd;exact hd.1
 have e:=(cellIx_in hc).1;simp only at e;have He:=Lib.hid e;clear e hc;cases d
 · go_enter Tryz.func250,Tryz.ntmps250
   go_wp2_with fail
   refine(cellIndexI_any x y _).mono ?_;rintro e w1 ⟨rfl,hb1⟩;obtain⟨hc1,hf1,hz1⟩:=bk hb1;(try simp at hz1)
   have hy1_0:w.heap.size<w1.heap.size:=(by omega);rw[He.out];go_wp2;go_ret;exact⟨retI (by simp[domOrd]),((Below.refl _ _).al _).tr hb1⟩
 · go_enter Tryz.func250,Tryz.ntmps250
   go_wp2_with fail
   refine(cellIndexI_any x y _).mono ?_;rintro e w1 ⟨rfl,hb1⟩;obtain⟨hc1,hf1,hz1⟩:=bk hb1;(try simp at hz1)
   have hy1_0:w.heap.size<w1.heap.size:=(by omega);rw[He.out];go_wp2;go_ret;exact⟨retI (by simp[domOrd]),((Below.refl _ _).al _).tr hb1⟩
theorem domOrd_in {d:Dm} (h:domOk d=true):0≤domOrd d∧domOrd d≤127:=by
 have D1:=domOk_fst h;unfold domOrd;split<;>omega
theorem domOkI_of (x y:Int) (d:Bool) (w:World) (hd:domOk (x,y,d)=true):Calls Tryz.prog 191 #[.agg #[.int .i64 x,.int .i64 y,.bool d]] w (Ret (.bool true) w):=by
 have:=domOkI_any x y d w;rw[hd]at this;exact this
theorem beforeI_yes (x y:Int) (d:Bool) (x' y':Int) (d':Bool) (w:World) (hd:domOk (x,y,d)=true) (hd':domOk (x',y',d')=true):
 Calls Tryz.prog 212 #[.agg #[.int .i64 x,.int .i64 y,.bool d],.agg #[.int .i64 x',.int .i64 y',.bool d']] w (Ret (.bool (decide (domOrd (x,y,d)<domOrd (x',y',d')))) w):=by
 have hA:=((Below.refl w.heap.size w).al (.cells #[.int .i64 x,.int .i64 y,.bool d] 90)).al (.cells #[.int .i64 x',.int .i64 y',.bool d'] 90);have hz:w.heap.size+1+1≤((w.alloc (.cells #[.int .i64 x,.int .i64 y,.bool d] 90)).alloc (.cells #[.int .i64 x',.int .i64 y',.bool d'] 90)).drew.heap.size:=(by simp);have Bacc:=hA.drew;have Hd:=Lib.hid hd;have Hd':=Lib.hid hd';clear hd hd';have hp0:w.heap.size<w.heap.size+1+1:=(by omega);have hp1:w.heap.size+1<w.heap.size+1+1:=(by omega);go_enter Tryz.func212,Tryz.ntmps212
 go_wp2_with fail
 go_region_held3 (fun w'=>w'.cell? ⟨w.heap.size,0,none⟩=some (.int .i64 x)∧w'.cell? ⟨w.heap.size,1,none⟩=some (.int .i64 y)∧w'.cell? ⟨w.heap.size,2,none⟩=some (.bool d)∧w'.cell? ⟨w.heap.size+1,0,none⟩=some (.int .i64 x')∧w'.cell? ⟨w.heap.size+1,1,none⟩=some (.int .i64 y')∧w'.cell? ⟨w.heap.size+1,2,none⟩=some (.bool d')) (go_keep) (first|(go_at_call 191;go_must (refine(domOkI_of _ _ _ _ (by first|exact Hd.out|exact Hd'.out)).mono ?_;rintro e wX ⟨rfl,hbX⟩;obtain⟨hcX,hfX,hzX⟩:=bkn hbX (w.heap.size+1+1) hz;have hz:=hzX;have Bacc:=Bacc.tr hbX))|(go_at_call 250;go_must (refine(orderI_yes _ _ _ _ (by first|exact Hd.out|exact Hd'.out)).mono ?_;rintro e wX ⟨rfl,hbX⟩;obtain⟨hcX,hfX,hzX⟩:=bkn hbX (w.heap.size+1+1) hz;have hz:=hzX;have Bacc:=Bacc.tr hbX)))
 go_wp2;go_ret;exact⟨rfl,Bacc⟩
theorem withI_int (S:Int) (s:Nat) (x y:Int) (w:World) (hS:S=(s:Int)) (hs:s<U64) (hc:cellOk (x,y)=true):Calls Tryz.prog 246 #[.int .u64 S,.agg #[.int .i64 x,.int .i64 y]] w (Ret (.int .u64 (sWith s (cellIx (x,y)).toNat:Nat)) w):=by
 subst hS;exact withI_any s x y w hs hc
theorem domSetI_yes (x y:Int) (d:Bool) (w:World) (hd:domOk (x,y,d)=true):Calls Tryz.prog 192 #[.agg #[.int .i64 x,.int .i64 y,.bool d]] w (Ret (.int .u64 (domSet (x,y,d):Nat)) w):=by
 have h1:cellOk (x,y)=true:=by unfold domOk at hd;rw[Bool.and_eq_true]at hd;exact hd.1
 have h2:cellOk (sec (x,y,d))=true:=by unfold domOk at hd;rw[Bool.and_eq_true]at hd;exact hd.2
 have hI:=(domI_lt hd).1;have hs1:sWith 0 (domI (x,y,d))<U64:=sWith_lt zero_lt_U64 hI;have e:domSet (x,y,d)=sWith (sWith 0 (cellIx (x,y)).toNat) (cellIx (sec (x,y,d))).toNat:=rfl;have hs1':sWith 0 (cellIx (x,y)).toNat<U64:=hs1;obtain⟨s,hs⟩:∃s,s=sec (x,y,d):=⟨_,rfl⟩;rw[←hs]at h2 e;obtain⟨sx,sy⟩:=s;obtain⟨D,hD⟩:∃D,D=domSet (x,y,d):=⟨_,rfl⟩;rw[←hD]at e⊢;have H1:=Lib.hid h1;have H2:=Lib.hid h2;have Hs:=Lib.hid hs;have He:=Lib.hid e;have Hs1:=Lib.hid hs1';clear h1 h2 hs e hs1 hs1' hI hD hd;go_enter Tryz.func192,Tryz.ntmps192
 go_wp2_with fail
 refine(endsI_any x y d _).mono ?_;rintro e w1 ⟨rfl,hb1⟩;obtain⟨hc1,hf1,hz1⟩:=bk hb1;(try simp at hz1)
 have hy1_0:w.heap.size<w1.heap.size:=(by omega);rw[←Hs.out];have hA:=((((Below.refl _ _).al _).tr hb1).al (.cells #[.int .i64 x,.int .i64 y] 77)).al (.cells #[.int .i64 sx,.int .i64 sy] 77);have hz:w1.heap.size+1+1≤((w1.alloc (.cells #[.int .i64 x,.int .i64 y] 77)).alloc (.cells #[.int .i64 sx,.int .i64 sy] 77)).drew.heap.size:=(by simp);have Bacc:=hA.drew;have hp0:w1.heap.size<w1.heap.size+1+1:=(by omega);have hp1:w1.heap.size+1<w1.heap.size+1+1:=(by omega);go_wp2_with fail
 go_region_held3 (fun w'=>w'.cell? ⟨w1.heap.size,0,none⟩=some (.int .i64 x)∧w'.cell? ⟨w1.heap.size,1,none⟩=some (.int .i64 y)∧w'.cell? ⟨w1.heap.size+1,0,none⟩=some (.int .i64 sx)∧w'.cell? ⟨w1.heap.size+1,1,none⟩=some (.int .i64 sy)) (go_keep) (first|(go_at_call 246;go_must (refine(withI_int _ _ _ _ _ (by first|exact(rfl:(0:Int)=((0:Nat):Int))|rfl) (by first|exact zero_lt_U64|exact Hs1.out) (by first|exact H1.out|exact H2.out)).mono ?_;rintro e wX ⟨rfl,hbX⟩;obtain⟨hcX,hfX,hzX⟩:=bkn hbX (w1.heap.size+1+1) hz;have hz:=hzX;have Bacc:=Bacc.tr hbX)))
 go_wp2;go_ret;exact⟨retU (by rw[He.out]),Bacc⟩
def partGo (left:Nat):Option Dm→List Dm→Bool
  |_,[]=>true
  |p,d::r=>domOk d&&decide (left&&&domSet d=domSet d)&&(match p with|none=>true|some e=>decide (domOrd e<domOrd d))&&partGo (sDiff left (domSet d)) (some d) r
def isPartial (rows:List Int) (l:List Dm):Bool:=regionOk rows&&partGo (setOf rows) none l
end Go.Proofs.YtfdbcihcdjjdhaaGreatDoor
namespace Go.Proofs.YtfdbcihcdjjdhaaGreatDoor
open Go.ChangeShapes Go.WideShapes Go.ChangeAt Go.RowKit
set_option linter.unusedVariables false
set_option linter.unusedSimpArgs false
set_option maxHeartbeats 4000000
set_option maxRecDepth 100000
def prevOf (l:List Dm) (k:Nat):Option Dm:=if k=0 then none else l[k-1]?
theorem prevOf_zero (l:List Dm):prevOf l 0=none:=rfl
theorem prevOf_succ (l:List Dm) (k:Nat) (h:k<l.length):prevOf l (k+1)=some l[k]:=by
 unfold prevOf;rw[if_neg (by omega)];simp[h]
def goodPrev (p:Option Dm) (d:Dm):Bool:=match p with|none=>true|some e=>decide (domOrd e<domOrd d)
theorem partGo_cons (left:Nat) (p:Option Dm) (d:Dm) (r:List Dm):partGo left p (d::r)=(domOk d&&decide (left&&&domSet d=domSet d)&&goodPrev p d&&partGo (sDiff left (domSet d)) (some d) r):=rfl
theorem u64_bits {a b:Nat} (ha:a<U64) (hb:b<U64):bits .and .u64 (a:Int) (b:Int)=((a&&&b:Nat):Int)∧bits .andNot .u64 (a:Int) (b:Int)=((sDiff a b:Nat):Int):=by
 unfold U64 at ha hb;exact⟨u64_and_nat a b ha hb,u64_andNot_nat a b ha hb⟩
theorem retU' {a b:Nat} (h:a=b):Value.int .u64 a=Value.int .u64 b:=by rw[h]
theorem partI_any (v u:Value) (rows:List Int) (l:List Dm) (w:World) (h:Rd 1 RInt w v rows) (h2:Rd 3 RDom w u l):Calls Tryz.prog 137 #[.agg #[v],u] w (Ret (.bool (isPartial rows l)) w):=by
 obtain⟨A,c,rfl,hc,hm⟩:=h.form;obtain⟨A2,c2,rfl,hc2,hm2⟩:=h2.form;have hA:=((Below.refl w.heap.size w).al (.cells #[.slice A rows.length c] 32));have h':=h.below RE.stays hA;rcases hr:regionOk rows with _|_
 · have e : isPartial rows l = false := by unfold isPartial; rw [hr]; rfl
   rw[e];go_enter Tryz.func137,Tryz.ntmps137
   go_wp2_with fail
   refine(regionOkI_any _ rows _ h').mono ?_;rintro e w1 ⟨rfl,hb1⟩;obtain⟨hc1,hf1,hz1⟩:=bk hb1;(try simp at hz1)
   have hy1_0:w.heap.size<w1.heap.size:=(by omega);rw[hr];go_wp2;go_ret;exact⟨rfl,hA.tr hb1⟩
 · have e : isPartial rows l = partGo (setOf rows) none l := by unfold isPartial; rw [hr]; rfl
   rw[e];have hok:=regionOk_iff.1 hr;have hs:=setOf_lt hok;have Hok:=Lib.hid hok;clear hok e;go_enter Tryz.func137,Tryz.ntmps137
   go_wp2_with fail
   refine(regionOkI_any _ rows _ h').mono ?_;rintro e w1 ⟨rfl,hb1⟩;obtain⟨hc1,hf1,hz1⟩:=bk hb1;(try simp at hz1)
   have hy1_0:w.heap.size<w1.heap.size:=(by omega);rw[hr];go_wp2_with fail
   refine(setI_any _ rows _ (h'.below RE.stays hb1) Hok).mono ?_;rintro e w2 ⟨rfl,hb2⟩;obtain⟨s,hse⟩:∃s,s=setOf rows:=⟨_,rfl⟩;rw[←hse]at hs⊢;have Hse:=Lib.hid hse;clear hse hr;have B2:=(hA.tr hb1).tr hb2;clear hc1 hf1 hz1 hy1_0 hb1 hb2 h';go_wp2;go_loopw [5,15] (fun s5 s15 wr=>∃k left:Nat,k≤l.length∧s15= .int .i64 k∧s5= .int .u64 left∧left<U64∧Hid (partGo left (prevOf l k) (l.drop k)=partGo s none l)∧Hid (∀e,prevOf l k=some e→domOk e=true)∧Below w.heap.size w wr) (fun _ i _=>l.length-(intOf i).toNat)
   case atStart=>exact⟨0,s,Nat.zero_le _,rfl,rfl,hs,Lib.hid rfl,Lib.hid (fun e he=>by cases he),B2⟩
   case round=>
    obtain⟨k,left,hk,rfl,rfl,hleft,Hg,Hp,hbel⟩:=hrel;clear B2;by_cases hlt:k<l.length
    · obtain⟨b,off,rfl,hb,q1,q2,q3⟩:=(h2.below RE.stays hbel).atDom hlt;have hg:=Hg.out;rw[List.drop_eq_getElem_cons hlt,partGo_cons]at hg;obtain⟨d,hd⟩:∃d,d=l[k]:=⟨_,rfl⟩;rw[←hd]at q1 q2 q3 hg;obtain⟨x,y,dn⟩:=d;simp only at q1 q2 q3;have hbz:=hbel.al (.cells #[.int .i64 x,.int .i64 y,.bool dn] 90);have Bacc:=hbz.drew;have hz:wr.heap.size+1≤(wr.alloc (.cells #[.int .i64 x,.int .i64 y,.bool dn] 90)).drew.heap.size:=(by simp);have hp0:wr.heap.size<wr.heap.size+1:=(by omega);rcases hok:domOk (x,y,dn)with _|_
      · rw[hok]at hg;simp only[Bool.false_and]at hg;have HG:=Lib.hid hg;have Hdd:=Lib.hid hd;have Hok2:=Lib.hid hok;clear hg hd hok;go_wp2_with fail
        refine rB (fun w'=>w'.cell? ⟨wr.heap.size,0,none⟩=some (.int .i64 x)∧w'.cell? ⟨wr.heap.size,1,none⟩=some (.int .i64 y)∧w'.cell? ⟨wr.heap.size,2,none⟩=some (.bool dn)) fun hHeld=>(tW 0)<|(tR [1])<|tL fun K hK=>?_
        go_simp
        (first|(go_at_call 191;go_must (refine(domOkI_any x y dn _).mono ?_;rintro e wX ⟨rfl,hbX⟩;rw[Hok2.out];obtain⟨hcX,hfX,hzX⟩:=bkn hbX (wr.heap.size+1) hz;have hz:=hzX;have Bacc:=Bacc.tr hbX);(try go_wp2_with fail)))
        refine tK hK fun hHeld=>?_
        clear hK K;refine(tW 2)<|(tW 3)<|(tU 4)<|(tU 5)<|(tU 6)<|(tU 7)<|(tU 8)<|(tU 9)<|(tU 10)<|(tW 11)<|(tW 12)<|(tU 13)<|(tU 14)<|(tU 15)<|(tU 16)<|(tU 17)<|(tU 18)<|(tU 19)<|(tU 20)<|(tU 21)<|(tU 22)<|(tU 23)<|(tU 24)<|(tW 25)<|tD ?_
        all_goals
          go_wp2;go_ret;exact⟨retB (by have:=HG.out;rw[Hse.out]at this;exact this),Bacc⟩
      · rw[hok]at hg;simp only[Bool.true_and]at hg;have hDlt:=domSet_lt hok;obtain⟨D,hD⟩:∃D,D=domSet (x,y,dn):=⟨_,rfl⟩;rw[←hD]at hg hDlt;obtain⟨hand,hnot⟩:=u64_bits hleft hDlt;have HD:=Lib.hid hD;have Hok2:=Lib.hid hok;have Hdd:=Lib.hid hd;clear hD hok hd;rcases hsub:decide (left&&&D=D)with _|_
        · rw[hsub]at hg;simp only[Bool.false_and]at hg
          have hne:(((left&&&D:Nat):Int) !=(D:Int))=true:=by
           rw[decide_eq_false_iff_not]at hsub;rw[bne_iff_ne];omega
          have HG:=Lib.hid hg;clear hg hsub;go_wp2_with fail
          refine rB (fun w'=>w'.cell? ⟨wr.heap.size,0,none⟩=some (.int .i64 x)∧w'.cell? ⟨wr.heap.size,1,none⟩=some (.int .i64 y)∧w'.cell? ⟨wr.heap.size,2,none⟩=some (.bool dn)) fun hHeld=>(tW 0)<|(tR [1])<|tL fun K hK=>?_
          go_simp
          (first|(go_at_call 191;go_must (refine(domOkI_any x y dn _).mono ?_;rintro e wX ⟨rfl,hbX⟩;rw[Hok2.out];obtain⟨hcX,hfX,hzX⟩:=bkn hbX (wr.heap.size+1) hz;have hz:=hzX;have Bacc:=Bacc.tr hbX);(try go_wp2_with fail))|(go_at_call 192;go_must (refine(domSetI_yes x y dn _ Hok2.out).mono ?_;rintro e wX ⟨rfl,hbX⟩;rw[←HD.out];obtain⟨hcX,hfX,hzX⟩:=bkn hbX (wr.heap.size+1) hz;have hz:=hzX;have Bacc:=Bacc.tr hbX);(try go_wp2_with fail)))
          refine tK hK fun hHeld=>?_
          clear hK K;refine(tW 2)<|(tW 3)<|(tW 4)<|(tW 5)<|(tW 8)<|(tR [6])<|tL fun K hK=>?_
          go_simp
          (first|(go_at_call 191;go_must (refine(domOkI_any x y dn _).mono ?_;rintro e wX ⟨rfl,hbX⟩;rw[Hok2.out];obtain⟨hcX,hfX,hzX⟩:=bkn hbX (wr.heap.size+1) hz;have hz:=hzX;have Bacc:=Bacc.tr hbX);(try go_wp2_with fail))|(go_at_call 192;go_must (refine(domSetI_yes x y dn _ Hok2.out).mono ?_;rintro e wX ⟨rfl,hbX⟩;rw[←HD.out];obtain⟨hcX,hfX,hzX⟩:=bkn hbX (wr.heap.size+1) hz;have hz:=hzX;have Bacc:=Bacc.tr hbX);(try go_wp2_with fail)))
          refine tK hK fun hHeld=>?_
          clear hK K;refine(tW 7)<|(tR [9])<|tL fun K hK=>?_
          go_simp
          (first|(go_at_call 191;go_must (refine(domOkI_any x y dn _).mono ?_;rintro e wX ⟨rfl,hbX⟩;rw[Hok2.out];obtain⟨hcX,hfX,hzX⟩:=bkn hbX (wr.heap.size+1) hz;have hz:=hzX;have Bacc:=Bacc.tr hbX);(try go_wp2_with fail))|(go_at_call 192;go_must (refine(domSetI_yes x y dn _ Hok2.out).mono ?_;rintro e wX ⟨rfl,hbX⟩;rw[←HD.out];obtain⟨hcX,hfX,hzX⟩:=bkn hbX (wr.heap.size+1) hz;have hz:=hzX;have Bacc:=Bacc.tr hbX);(try go_wp2_with fail)))
          refine tK hK fun hHeld=>?_
          clear hK K;refine(tW 10)<|(tW 11)<|(tW 12)<|(tU 13)<|(tU 14)<|(tU 15)<|(tU 16)<|(tU 17)<|(tU 18)<|(tU 19)<|(tU 20)<|(tU 21)<|(tU 22)<|(tU 23)<|(tU 24)<|(tW 25)<|tD ?_
          all_goals
            go_wp2;go_ret;exact⟨retB (by have:=HG.out;rw[Hse.out]at this;exact this),Bacc⟩
        · rw[hsub]at hg;simp only[Bool.true_and]at hg
          have hne:(((left&&&D:Nat):Int) !=(D:Int))=false:=by
           rw[decide_eq_true_iff]at hsub;rw[bne_eq_false_iff_eq];omega
          clear hsub;rcases Nat.eq_zero_or_pos k with rfl|hkp
          · rw[prevOf_zero]at hg;simp only[goodPrev,Bool.true_and]at hg;have HG:=Lib.hid hg;clear hg;simp only[Nat.zero_mul,Nat.add_zero]at q1 q2 q3;go_wp2_with fail
            refine rB (fun w'=>w'.cell? ⟨wr.heap.size,0,none⟩=some (.int .i64 x)∧w'.cell? ⟨wr.heap.size,1,none⟩=some (.int .i64 y)∧w'.cell? ⟨wr.heap.size,2,none⟩=some (.bool dn)) fun hHeld=>(tW 0)<|(tR [1])<|tL fun K hK=>?_
            go_simp
            (first|(go_at_call 191;go_must (refine(domOkI_any x y dn _).mono ?_;rintro e wX ⟨rfl,hbX⟩;rw[Hok2.out];obtain⟨hcX,hfX,hzX⟩:=bkn hbX (wr.heap.size+1) hz;have hz:=hzX;have Bacc:=Bacc.tr hbX);(try go_wp2_with fail))|(go_at_call 192;go_must (refine(domSetI_yes x y dn _ Hok2.out).mono ?_;rintro e wX ⟨rfl,hbX⟩;rw[←HD.out];obtain⟨hcX,hfX,hzX⟩:=bkn hbX (wr.heap.size+1) hz;have hz:=hzX;have Bacc:=Bacc.tr hbX);(try go_wp2_with fail)))
            refine tK hK fun hHeld=>?_
            clear hK K;refine(tW 2)<|(tW 3)<|(tW 4)<|(tW 5)<|(tW 8)<|(tR [6])<|tL fun K hK=>?_
            go_simp
            (first|(go_at_call 191;go_must (refine(domOkI_any x y dn _).mono ?_;rintro e wX ⟨rfl,hbX⟩;rw[Hok2.out];obtain⟨hcX,hfX,hzX⟩:=bkn hbX (wr.heap.size+1) hz;have hz:=hzX;have Bacc:=Bacc.tr hbX);(try go_wp2_with fail))|(go_at_call 192;go_must (refine(domSetI_yes x y dn _ Hok2.out).mono ?_;rintro e wX ⟨rfl,hbX⟩;rw[←HD.out];obtain⟨hcX,hfX,hzX⟩:=bkn hbX (wr.heap.size+1) hz;have hz:=hzX;have Bacc:=Bacc.tr hbX);(try go_wp2_with fail)))
            refine tK hK fun hHeld=>?_
            clear hK K;refine(tW 7)<|(tR [9])<|tL fun K hK=>?_
            go_simp
            (first|(go_at_call 191;go_must (refine(domOkI_any x y dn _).mono ?_;rintro e wX ⟨rfl,hbX⟩;rw[Hok2.out];obtain⟨hcX,hfX,hzX⟩:=bkn hbX (wr.heap.size+1) hz;have hz:=hzX;have Bacc:=Bacc.tr hbX);(try go_wp2_with fail))|(go_at_call 192;go_must (refine(domSetI_yes x y dn _ Hok2.out).mono ?_;rintro e wX ⟨rfl,hbX⟩;rw[←HD.out];obtain⟨hcX,hfX,hzX⟩:=bkn hbX (wr.heap.size+1) hz;have hz:=hzX;have Bacc:=Bacc.tr hbX);(try go_wp2_with fail)))
            refine tK hK fun hHeld=>?_
            clear hK K;refine(tW 10)<|(tW 11)<|(tW 12)<|(tW 13)<|(tW 14)<|(tW 15)<|(tU 16)<|(tU 17)<|(tU 18)<|(tU 19)<|(tU 20)<|(tU 21)<|(tU 22)<|(tU 23)<|(tW 24)<|(tW 25)<|tD ?_;go_wp2_with fail
            refine(domSetI_yes x y dn _ Hok2.out).mono ?_;rintro e w9 ⟨rfl,hb9⟩;rw[←HD.out];go_wp2;go_roundw
            case rel=>exact⟨_,sDiff left D,hlt,by go_num,rfl,sDiff_lt hleft,by rw[prevOf_succ l _ hlt,←Hdd.out];exact HG,Lib.hid (fun e he=>by rw[prevOf_succ l _ hlt,←Hdd.out]at he;injection he with he;rw[←he];exact Hok2.out),Bacc.tr hb9⟩
            case measure=>simp[intOf];omega
          · obtain ⟨j, rfl⟩ : ∃ j, k = j + 1 := ⟨k - 1, by omega⟩;have hj:j<l.length:=(by omega);rw[prevOf_succ l j hj]at hg;have hpok:=Hp.out l[j] (prevOf_succ l j hj);obtain⟨b',off',e',hb',p1,p2,p3⟩:=(h2.below RE.stays hbel).atDom hj;injection e' with e';injection e' with e1 e2 e3;subst e1;subst e2;simp only[goodPrev]at hg;obtain⟨dp,hdp⟩:∃dp,dp=l[j]:=⟨_,rfl⟩;rw[←hdp]at p1 p2 p3 hg hpok;obtain⟨px,py,pd⟩:=dp;simp only at p1 p2 p3;have Hpok:=Lib.hid hpok;have Hdp:=Lib.hid hdp;clear hpok hdp e3;have hp1:b<wr.heap.size+1:=(by omega);have hwj:IntKind.i64.wrap (j:Int)=(j:Int):=IntWalk.i64_in _ (by omega);have hj0:(0:Int)≤(j:Int):=(by omega);have hjI:(j:Int)<(l.length:Int):=(by omega);rcases hbf:decide (domOrd (px,py,pd)<domOrd (x,y,dn))with _|_
            · rw[hbf]at hg;simp only[Bool.false_and]at hg;have HG:=Lib.hid hg;have Hbf:=Lib.hid hbf;clear hg hbf;go_wp2_with fail
              go_region_held3 (fun w'=>w'.cell? ⟨wr.heap.size,0,none⟩=some (.int .i64 x)∧w'.cell? ⟨wr.heap.size,1,none⟩=some (.int .i64 y)∧w'.cell? ⟨wr.heap.size,2,none⟩=some (.bool dn)∧w'.cell? ⟨b,off+j*3,none⟩=some (.int .i64 px)∧w'.cell? ⟨b,off+j*3+1,none⟩=some (.int .i64 py)∧w'.cell? ⟨b,off+j*3+2,none⟩=some (.bool pd)) (go_keep) (first|(go_at_call 191;go_must (refine(domOkI_any x y dn _).mono ?_;rintro e wX ⟨rfl,hbX⟩;rw[Hok2.out];obtain⟨hcX,hfX,hzX⟩:=bkn hbX (wr.heap.size+1) hz;have hz:=hzX;have Bacc:=Bacc.tr hbX);(try go_wp2_with fail))|(go_at_call 192;go_must (refine(domSetI_yes x y dn _ Hok2.out).mono ?_;rintro e wX ⟨rfl,hbX⟩;rw[←HD.out];obtain⟨hcX,hfX,hzX⟩:=bkn hbX (wr.heap.size+1) hz;have hz:=hzX;have Bacc:=Bacc.tr hbX);(try go_wp2_with fail))|(go_at_call 212;go_must (refine(beforeI_yes px py pd x y dn _ Hpok.out Hok2.out).mono ?_;rintro e wX ⟨rfl,hbX⟩;rw[Hbf.out];obtain⟨hcX,hfX,hzX⟩:=bkn hbX (wr.heap.size+1) hz;have hz:=hzX;have Bacc:=Bacc.tr hbX);(try go_wp2_with fail)))
              all_goals
                go_wp2;go_ret;exact⟨retB (by have:=HG.out;rw[Hse.out]at this;exact this),Bacc⟩
            · rw[hbf]at hg;simp only[Bool.true_and]at hg;have HG:=Lib.hid hg;have Hbf:=Lib.hid hbf;clear hg hbf;go_wp2_with fail
              go_region_held3 (fun w'=>w'.cell? ⟨wr.heap.size,0,none⟩=some (.int .i64 x)∧w'.cell? ⟨wr.heap.size,1,none⟩=some (.int .i64 y)∧w'.cell? ⟨wr.heap.size,2,none⟩=some (.bool dn)∧w'.cell? ⟨b,off+j*3,none⟩=some (.int .i64 px)∧w'.cell? ⟨b,off+j*3+1,none⟩=some (.int .i64 py)∧w'.cell? ⟨b,off+j*3+2,none⟩=some (.bool pd)) (go_keep) (first|(go_at_call 191;go_must (refine(domOkI_any x y dn _).mono ?_;rintro e wX ⟨rfl,hbX⟩;rw[Hok2.out];obtain⟨hcX,hfX,hzX⟩:=bkn hbX (wr.heap.size+1) hz;have hz:=hzX;have Bacc:=Bacc.tr hbX);(try go_wp2_with fail))|(go_at_call 192;go_must (refine(domSetI_yes x y dn _ Hok2.out).mono ?_;rintro e wX ⟨rfl,hbX⟩;rw[←HD.out];obtain⟨hcX,hfX,hzX⟩:=bkn hbX (wr.heap.size+1) hz;have hz:=hzX;have Bacc:=Bacc.tr hbX);(try go_wp2_with fail))|(go_at_call 212;go_must (refine(beforeI_yes px py pd x y dn _ Hpok.out Hok2.out).mono ?_;rintro e wX ⟨rfl,hbX⟩;rw[Hbf.out];obtain⟨hcX,hfX,hzX⟩:=bkn hbX (wr.heap.size+1) hz;have hz:=hzX;have Bacc:=Bacc.tr hbX);(try go_wp2_with fail)))
              go_wp2_with fail
              refine(domSetI_yes x y dn _ Hok2.out).mono ?_;rintro e w9 ⟨rfl,hb9⟩;rw[←HD.out];go_wp2;go_roundw
              case rel=>exact⟨_,sDiff left D,hlt,by go_num,rfl,sDiff_lt hleft,by rw[prevOf_succ l _ hlt,←Hdd.out];exact HG,Lib.hid (fun e he=>by rw[prevOf_succ l _ hlt,←Hdd.out]at he;injection he with he;rw[←he];exact Hok2.out),Bacc.tr hb9⟩
              case measure=>simp[intOf];omega
    · obtain rfl : k = l.length := by omega
      have hg:=Hg.out;rw[List.drop_of_length_le (Nat.le_refl _)]at hg;have HG:=Lib.hid hg;clear hg;go_wp2;go_ret;exact⟨retB (by have:=HG.out;rw[Hse.out]at this;exact this),hbel⟩
end Go.Proofs.YtfdbcihcdjjdhaaGreatDoor
namespace Go.Proofs.YtfdbcihcdjjdhaaGreatDoor
open Go.ChangeShapes Go.WideShapes Go.ChangeAt Go.RowKit
set_option linter.unusedVariables false
set_option maxHeartbeats 4000000
set_option maxRecDepth 100000
def domHas (d:Dm) (c:Cl):Bool:=domOk d&&(decide ((d.1,d.2.1)=c)||decide (sec d=c))
def covOf (l:List Dm) (c:Cl):Option Dm:=l.find? (domHas · c)
def domAtGo (c:Cl):List Dm→Nat→Int
  |[],_=> -1
  |d::r,k=>if domHas d c then(k:Int)else domAtGo c r (k+1)
def domAt (l:List Dm) (c:Cl):Int:=domAtGo c l 0
theorem domAtGo_spec (c:Cl):∀(l:List Dm) (k:Nat),(domAtGo c l k= -1∧covOf l c=none)∨∃j,∃h:j<l.length,domAtGo c l k=((k+j:Nat):Int)∧covOf l c=some l[j]:=by
 intro l;induction l with
 |nil=>intro k;exact .inl ⟨rfl,rfl⟩
 |cons d r ih=>
  intro k;by_cases hd:domHas d c=true
  · refine .inr ⟨0, by simp, ?_, ?_⟩
    · simp[domAtGo,hd]
    · simp[covOf,hd]
  · have hf : covOf (d :: r) c = covOf r c := by simp [covOf, hd]
    have hg:domAtGo c (d::r) k=domAtGo c r (k+1):=(by simp[domAtGo,hd]);rw[hf,hg];rcases ih (k+1)with h|⟨j,hj,h1,h2⟩
    · exact .inl h
    · exact .inr ⟨j+1,by simpa using hj,by rw[h1];congr 1;omega,by rw[h2];simp⟩
theorem domAt_spec (l:List Dm) (c:Cl):(domAt l c= -1∧covOf l c=none)∨∃j,∃h:j<l.length,domAt l c=(j:Int)∧covOf l c=some l[j]:=by
 rcases domAtGo_spec c l 0 with h|⟨j,hj,h1,h2⟩
 · exact .inl h
 · exact .inr ⟨j,hj,by unfold domAt;rw[h1];congr 1;omega,h2⟩
theorem cellIx_inj {a b:Cl} (ha:cellOk a=true) (hb:cellOk b=true) (h:(cellIx a).toNat=(cellIx b).toNat):a=b:=by
 have h1:=cellIx_in ha;have h2:=cellIx_in hb;have k1:=cellOk_iff.1 ha;have k2:=cellOk_iff.1 hb;obtain⟨a1,a2⟩:=a;obtain⟨b1,b2⟩:=b;simp only at h1 h2 k1 k2;have:a2=b2:=(by omega);have:a1=b1:=(by omega);simp_all
theorem domOk_cells {d:Dm} (h:domOk d=true):cellOk (d.1,d.2.1)=true∧cellOk (sec d)=true:=by
 unfold domOk at h;rw[Bool.and_eq_true]at h;exact h
theorem domSet_bit {d:Dm} (h:domOk d=true) (j:Nat):(domSet d).testBit j=(decide (domI d=j)||decide (domJ d=j)):=by
 unfold domSet;rw[testBit_sWith,testBit_sWith,Nat.zero_testBit,Bool.false_or]
theorem domHas_bit {d:Dm} (h:domOk d=true) (c:Cl):(cellOk c&&(domSet d).testBit (cellIx c).toNat)=domHas d c:=by
 obtain⟨h1,h2⟩:=domOk_cells h;unfold domHas;rw[h,Bool.true_and,domSet_bit h];rw[Bool.eq_iff_iff];simp only[Bool.and_eq_true,Bool.or_eq_true,decide_eq_true_eq];unfold domI domJ;constructor
 · rintro⟨hc,e|e⟩
   · exact .inl (cellIx_inj h1 hc e)
   · exact .inr (cellIx_inj h2 hc e)
 · rintro(e|e)
   · exact⟨e▸h1,.inl (by rw[e])⟩
   · exact⟨e▸h2,.inr (by rw[e])⟩
theorem domHas_no {d:Dm} (h:domOk d=false) (c:Cl):domHas d c=false:=by unfold domHas;rw[h];rfl
theorem and_sub {a b:Nat} (h:a&&&b=b) (j:Nat) (hb:b.testBit j=true):a.testBit j=true:=by
 have:=congrArg (·.testBit j) h;simp only[Nat.testBit_and]at this;rw[hb]at this;simpa using this
theorem partGo_split {left:Nat} {p:Option Dm} {d:Dm} {r:List Dm} (h:partGo left p (d::r)=true):domOk d=true∧left&&&domSet d=domSet d∧partGo (sDiff left (domSet d)) (some d) r=true:=by
 simp only[partGo,Bool.and_eq_true,decide_eq_true_eq]at h;exact⟨h.1.1.1,h.1.1.2,h.2⟩
theorem sDiff_bit {a b:Nat} (ha:a<U64) (hb:b<U64) (j:Nat):(sDiff a b).testBit j=(a.testBit j&& !b.testBit j):=testBit_sDiff hb ha
theorem partGo_mem:∀(l:List Dm) (left:Nat) (p:Option Dm),left<U64→partGo left p l=true→∀d∈l,domOk d=true∧∀j,(domSet d).testBit j=true→left.testBit j=true:=by
 intro l;induction l with
 |nil=>intro left p _ _ d hd;cases hd
 |cons e r ih=>
  intro left p hl h d hd;obtain⟨h1,h2,h3⟩:=partGo_split h;rcases List.mem_cons.1 hd with rfl|hd
  · exact⟨h1,fun j hj=>and_sub h2 j hj⟩
  · obtain⟨k1,k2⟩:=ih _ _ (sDiff_lt hl) h3 d hd;refine⟨k1,fun j hj=> ?_⟩;have:=k2 j hj;rw[sDiff_bit hl (domSet_lt h1)]at this;rw[Bool.and_eq_true]at this;exact this.1
theorem isPartial_ok {rows:List Int} {l:List Dm} (h:isPartial rows l=true):RowsOk rows∧partGo (setOf rows) none l=true:=by
 unfold isPartial at h;rw[Bool.and_eq_true]at h;exact⟨regionOk_iff.1 h.1,h.2⟩
end Go.Proofs.YtfdbcihcdjjdhaaGreatDoor
namespace Go.Proofs.YtfdbcihcdjjdhaaGreatDoor
open Go.ChangeShapes Go.WideShapes Go.ChangeAt Go.RowKit
set_option linter.unusedVariables false
set_option linter.unusedSimpArgs false
set_option maxHeartbeats 4000000
set_option maxRecDepth 100000
theorem i64_bit {r:Int} {x:Nat} (h0:0≤r) (h1:r≤255) (hx:x<8):(bits .and .i64 (r/2^x) 1==1)=r.toNat.testBit x:=by
 obtain⟨n,rfl⟩:=Int.eq_ofNat_of_zero_le h0;rw[i64_and1];have e:((n:Int)/2^x)%2=((n/2^x%2:Nat):Int):=(by simp);rw[e,Int.toNat_natCast,Nat.testBit_eq_decide_div_mod_eq];rw[Bool.eq_iff_iff,beq_iff_eq,decide_eq_true_iff];omega
theorem l03HasS_yes (v:Value) (rows:List Int) (x y:Nat) (w:World) (h:Rd 1 RInt w v rows) (Hok:Hid (RowsOk rows)) (hx:x<8) (hy:y<8):Calls Tryz.prog 209 #[.agg #[v],.agg #[.int .i64 x,.int .i64 y]] w (Ret (.bool ((setOf rows).testBit (8*y+x))) w):=by
 obtain⟨A,c,rfl,hc,hm⟩:=h.form;have hA:=((Below.refl w.heap.size w).al (.cells #[.slice A rows.length c] 32)).al (.cells #[.int .i64 x,.int .i64 y] 77);have hbit:=setOf_bit Hok.out (8*y+x);rw[show(8*y+x)/8=y by omega,show(8*y+x)%8=x by omega]at hbit;obtain⟨B,hB⟩:∃B,B=(setOf rows).testBit (8*y+x):=⟨_,rfl⟩;rw[←hB]at hbit⊢;clear hB;by_cases hlt:y<rows.length
 · obtain⟨b,off,rfl,hb,q1⟩:=h.atInt hlt;rw[List.getD_eq_getElem?_getD,List.getElem?_eq_getElem hlt,Option.getD_some]at hbit;obtain⟨k0,k1⟩:=Hok.out.2 rows[y] (List.getElem_mem _);obtain⟨r,hr⟩:∃r,r=rows[y]:=⟨_,rfl⟩;rw[←hr]at q1 hbit k0 k1;have e1:=i64_bit k0 k1 hx;rw[←hbit]at e1;have hltI:(y:Int)<(rows.length:Int):=(by omega);have hbn1:b≠w.heap.size:=(by omega);have hbn2:b≠w.heap.size+1:=(by omega);clear hbit hr;go_enter Tryz.func209,Tryz.ntmps209
   go_wp2_with fail
   go_quiet (fail)
   go_wp2;go_ret;exact⟨rfl,below_drewN hA _⟩
 · have hB0 : B = false := by rw [hbit, List.getD_eq_getElem?_getD, List.getElem?_eq_none (by omega)]; simp
   have hltD:decide (y<rows.length)=false:=(by simpa using hlt);have hltI:decide ((y:Int)<(rows.length:Int))=false:=(by simpa using hlt);have HB0:=Lib.hid hB0;clear hB0 hbit hlt;go_enter Tryz.func209,Tryz.ntmps209
   go_wp2_with fail
   go_quiet (fail)
   go_wp2;go_ret;exact⟨retB HB0.out.symm,below_drewN hA _⟩
theorem cellIndexS_yes (x y:Int) (w:World) (hc:cellOk (x,y)=true):Calls Tryz.prog 207 #[.agg #[.int .i64 x,.int .i64 y]] w (Ret (.int .i64 (cellIx (x,y))) w):=by
 obtain⟨⟨x1,x2⟩,y1,y2⟩:=cellOk_iff.1 hc;have e:=(cellIx_in hc).1;simp only at e x1 x2 y1 y2;have He:=Lib.hid e;have Hc:=Lib.hid hc;clear e hc;go_enter Tryz.func207,Tryz.ntmps207
 go_wp2_with fail
 refine(cellOkS_cl x y _).mono ?_;rintro e w1 ⟨rfl,hb1⟩;obtain⟨hc1,hf1,hz1⟩:=bk hb1;(try simp at hz1)
 have hy1_0:w.heap.size<w1.heap.size:=(by omega);rw[Hc.out];go_wp2;go_ret;exact⟨retI (by rw[He.out]),((Below.refl _ _).al _).tr hb1⟩
def hasCellP (rows:List Int) (c:Cl):Bool:=regionOk rows&&(cellOk c&&(setOf rows).testBit (cellIx c).toNat)
theorem hasCellS_any (v:Value) (rows:List Int) (x y:Int) (w:World) (h:Rd 1 RInt w v rows) (hc:cellOk (x,y)=true):Calls Tryz.prog 206 #[.agg #[v],.agg #[.int .i64 x,.int .i64 y]] w (Ret (.bool (hasCellP rows (x,y))) w):=by
 obtain⟨A,c,rfl,hc',hm⟩:=h.form;have hA:=((Below.refl w.heap.size w).al (.cells #[.slice A rows.length c] 32)).al (.cells #[.int .i64 x,.int .i64 y] 77);rcases hr:regionOk rows with _|_
 · have e : hasCellP rows (x, y) = false := by unfold hasCellP; rw [hr]; rfl
   rw[e];go_enter Tryz.func206,Tryz.ntmps206
   go_wp2_with fail
   refine(regionOkS_any _ rows _ (h.below RE.stays hA)).mono ?_;rintro e w1 ⟨rfl,hb1⟩;obtain⟨hc1,hf1,hz1⟩:=bk hb1;(try simp at hz1)
   have hy1_0:w.heap.size<w1.heap.size:=(by omega);have hy1_1:w.heap.size+1<w1.heap.size:=(by omega);rw[hr];go_wp2;go_ret;exact⟨rfl,hA.tr hb1⟩
 · have hok:=regionOk_iff.1 hr;obtain⟨⟨x1,x2⟩,y1,y2⟩:=cellOk_iff.1 hc;simp only at x1 x2 y1 y2;have e:hasCellP rows (x,y)=(setOf rows).testBit (cellIx (x,y)).toNat:=by unfold hasCellP;rw[hr,hc];simp
   rw[(cellIx_in hc).1]at e;obtain⟨x,rfl⟩:=Int.eq_ofNat_of_zero_le x1;obtain⟨y,rfl⟩:=Int.eq_ofNat_of_zero_le y1;rw[show((y:Int)*8+(x:Int)).toNat=8*y+x by omega]at e;rw[e];have Hok:=Lib.hid hok;have Hc:=Lib.hid hc;clear hok e hc;go_enter Tryz.func206,Tryz.ntmps206
   go_wp2_with fail
   refine(regionOkS_any _ rows _ (h.below RE.stays hA)).mono ?_;rintro e w1 ⟨rfl,hb1⟩;obtain⟨hc1,hf1,hz1⟩:=bk hb1;(try simp at hz1)
   have hy1_0:w.heap.size<w1.heap.size:=(by omega);have hy1_1:w.heap.size+1<w1.heap.size:=(by omega);rw[hr];go_wp2_with fail
   refine(cellOkS_cl x y _).mono ?_;rintro e w2 ⟨rfl,hb2⟩;obtain⟨hc2,hf2,hz2⟩:=bk hb2;(try simp at hz2)
   have hy2_0:w.heap.size<w2.heap.size:=(by omega);have hy2_1:w.heap.size+1<w2.heap.size:=(by omega);rw[Hc.out];have B2:=(hA.tr hb1).tr hb2;go_wp2_with fail
   refine(l03HasS_yes _ rows x y _ (h.below RE.stays B2) Hok (by omega) (by omega)).mono ?_;rintro e w3 ⟨rfl,hb3⟩;go_wp2;go_ret;exact⟨rfl,B2.tr hb3⟩
theorem beforeS_yes (x y:Int) (d:Bool) (x' y':Int) (d':Bool) (w:World) (hd:domOk (x,y,d)=true) (hd':domOk (x',y',d')=true):
 Calls Tryz.prog 204 #[.agg #[.int .i64 x,.int .i64 y,.bool d],.agg #[.int .i64 x',.int .i64 y',.bool d']] w (Ret (.bool (decide (domOrd (x,y,d)<domOrd (x',y',d')))) w):=by
 have D1:=domOk_fst hd;have D2:=domOk_fst hd';simp only at D1 D2;obtain⟨⟨x1,x2⟩,y1,y2⟩:=D1;obtain⟨⟨u1,u2⟩,v1,v2⟩:=D2;have hA:=((Below.refl w.heap.size w).al (.cells #[.int .i64 x,.int .i64 y,.bool d] 90)).al (.cells #[.int .i64 x',.int .i64 y',.bool d'] 90);obtain⟨B,hB⟩:∃B,B=decide (domOrd (x,y,d)<domOrd (x',y',d')):=⟨_,rfl⟩;rw[←hB];have HB:=Lib.hid hB;have Hd:=Lib.hid hd;have Hd':=Lib.hid hd';clear hB hd hd';rcases d with _|_<;>rcases d' with _|_
 all_goals
   go_enter Tryz.func204,Tryz.ntmps204
   go_wp2_with fail
   refine(domOkS_any x y _ _).mono ?_;rintro e w1 ⟨rfl,hb1⟩;obtain⟨hc1,hf1,hz1⟩:=bk hb1;(try simp at hz1)
   have hy1_0:w.heap.size<w1.heap.size:=(by omega);have hy1_1:w.heap.size+1<w1.heap.size:=(by omega);rw[Hd.out];go_wp2_with fail
   refine(domOkS_any x' y' _ _).mono ?_;rintro e w2 ⟨rfl,hb2⟩;obtain⟨hc2,hf2,hz2⟩:=bk hb2;(try simp at hz2)
   have hy2_0:w.heap.size<w2.heap.size:=(by omega);have hy2_1:w.heap.size+1<w2.heap.size:=(by omega);rw[Hd'.out];go_wp2
   all_goals
     go_ret;refine⟨retB ?_,(hA.tr hb1).tr hb2⟩;rw[HB.out,Bool.eq_iff_iff];simp[domOrd];try omega
theorem domAtS_any (v:Value) (l:List Dm) (x y:Int) (w:World) (h:Rd 3 RDom w v l):Calls Tryz.prog 261 #[v,.agg #[.int .i64 x,.int .i64 y]] w (Ret (.int .i64 (domAt l (x,y))) w):=by
 obtain⟨A,c,rfl,hc,hm⟩:=h.form;have hA:=((Below.refl w.heap.size w).al (.cells #[.int .i64 x,.int .i64 y] 77));have hx:=Blk.new_ w 77 #[.int .i64 x,.int .i64 y];have hD:domAt l (x,y)=domAtGo (x,y) l 0:=rfl;obtain⟨D,hDD⟩:∃D,D=domAt l (x,y):=⟨_,rfl⟩;rw[←hDD]at hD⊢;have HD:=Lib.hid hD;clear hD hDD;go_enter Tryz.func261,Tryz.ntmps261
 go_wp2;go_loopw [5] (fun s9 wr=>∃k:Nat,k≤l.length∧s9= .int .i64 k∧Hid (domAtGo (x,y) (l.drop k) k=D)∧wr.cell? ⟨w.heap.size,0,none⟩=some (.int .i64 x)∧wr.cell? ⟨w.heap.size,1,none⟩=some (.int .i64 y)∧w.heap.size<wr.heap.size∧Below w.heap.size w wr) (fun i _=>l.length-(intOf i).toNat)
 case atStart=>exact⟨0,Nat.zero_le _,rfl,Lib.hid HD.out.symm,hx.cell 0,hx.cell 1,hx.lt,hA⟩
 case round=>
  obtain⟨k,hk,rfl,Hg,z1,z2,hwl,hbel⟩:=hrel;clear hx hA;by_cases hlt:k<l.length
  · obtain⟨b,off,rfl,hb,q1,q2,q3⟩:=(h.below RE.stays hbel).atDom hlt;have hg:=Hg.out;rw[List.drop_eq_getElem_cons hlt]at hg;obtain⟨d,hd⟩:∃d,d=l[k]:=⟨_,rfl⟩;rw[←hd]at q1 q2 q3 hg;obtain⟨dx,dy,dn⟩:=d;simp only at q1 q2 q3;rcases hok:domOk (dx,dy,dn)with _|_
    · have hg2 : domAtGo (x, y) (l.drop (k + 1)) (k + 1) = D := by rw [← hg]; simp only [domAtGo]; rw [if_neg (by rw [domHas_no hok]; simp)]
      have HG:=Lib.hid hg2;have Hok2:=Lib.hid hok;have Hdd:=Lib.hid hd;clear hg hg2 hok hd;go_wp2_with fail
      refine(domOkS_any dx dy dn _).mono ?_;rintro e w1 ⟨rfl,hb1⟩;obtain⟨hc1,hf1,hz1⟩:=bk hb1;(try simp at hz1)
      have hy1_0:w.heap.size<w1.heap.size:=(by omega);rw[Hok2.out];go_wp2;go_roundw
      case rel=>exact⟨k+1,by omega,by go_num,HG,by rw[hc1 _ _ (by omega)];exact z1,by rw[hc1 _ _ (by omega)];exact z2,by omega,hbel.tr hb1⟩
      case measure=>simp[intOf];omega
    · obtain⟨sx,sy,hs⟩:∃sx sy,sec (dx,dy,dn)=(sx,sy):=⟨_,_,rfl⟩;have hh:domHas (dx,dy,dn) (x,y)=(decide ((dx,dy)=(x,y))||decide ((sx,sy)=(x,y))):=by unfold domHas;rw[hok,hs];rfl
      have Hok2:=Lib.hid hok;have Hdd:=Lib.hid hd;have Hs:=Lib.hid hs;have Hh:=Lib.hid hh;have HG:=Lib.hid hg;clear hok hd hs hh hg;go_wp2_with fail
      refine(domOkS_any dx dy dn _).mono ?_;rintro e w1 ⟨rfl,hb1⟩;obtain⟨hc1,hf1,hz1⟩:=bk hb1;(try simp at hz1)
      have hy1_0:w.heap.size<w1.heap.size:=(by omega);have hy1_1:b<w1.heap.size:=(by omega);rw[Hok2.out];go_wp2_with fail
      refine(underS_any dx dy dn _ Hok2.out).mono ?_;rintro e w2 ⟨rfl,hb2⟩;obtain⟨hc2,hf2,hz2⟩:=bk hb2;(try simp at hz2)
      have hy2_0:w.heap.size<w2.heap.size:=(by omega);rw[Hs.out];go_wp2
      all_goals
        have B2:=(hbel.tr hb1).tr hb2;have zz1:w2.cell? ⟨w.heap.size,0,none⟩=some (.int .i64 x):=by rw[hc2 _ _ (by omega),hc1 _ _ (by omega)];exact z1
        have zz2:w2.cell? ⟨w.heap.size,1,none⟩=some (.int .i64 y):=by rw[hc2 _ _ (by omega),hc1 _ _ (by omega)];exact z2
        have hgo:domAtGo (x,y) ((dx,dy,dn)::List.drop (k+1) l) k=if domHas (dx,dy,dn) (x,y)=true then(k:Int)else domAtGo (x,y) (l.drop (k+1)) (k+1):=rfl
        rw[HG.out]at hgo;have hn1:w.heap.size≠w2.heap.size:=(by omega);have hn2:w.heap.size≠w2.heap.size+1:=(by omega);clear hc1 hf1 hc2 hf2 z1 z2 q1 q2 q3 HD Hg
        first
          | (go_ret
             rw[if_pos (by rw[Hh.out];simp[*])]at hgo;exact⟨retI hgo.symm,(B2.al _).al _⟩)
          | (rw [if_neg (by rw [Hh.out]; simp [*])] at hgo
             go_roundw
             case rel=>exact⟨k+1,by omega,by go_num,Lib.hid hgo.symm,by go_simp,by go_simp,by simp;omega,(B2.al _).al _⟩
             case measure=>simp[intOf];omega)
  · obtain rfl : k = l.length := by omega
    have hg:=Hg.out;rw[List.drop_of_length_le (Nat.le_refl _)]at hg;have HG:Hid ((-1:Int)=D):=Lib.hid hg;clear hg;go_wp2;go_ret;exact⟨retI HG.out,hbel⟩
theorem lenBool:∀x:Bool,(eBool x).length=1:=fun _=>rfl
theorem rowBool:Row Tryz.prog 200 4 (.bool false) 1 1:=⟨Tryz.underlying200,by kernel_rfl,rfl,by decide⟩
theorem cellIndexS_nat (x y:Int) (I:Nat) (w:World) (hc:cellOk (x,y)=true) (hI:I=(cellIx (x,y)).toNat):Calls Tryz.prog 207 #[.agg #[.int .i64 x,.int .i64 y]] w (Ret (.int .i64 I) w):=by
 have:=cellIndexS_yes x y w hc;have k:=(cellIx_in hc).2.1;rw[show cellIx (x,y)=(I:Int) by omega]at this;exact this
theorem hasCellS_yes (v:Value) (rows:List Int) (x y:Int) (s I:Nat) (w:World) (h:Rd 1 RInt w v rows) (hc:cellOk (x,y)=true) (Hok:Hid (RowsOk rows)) (Hs:Hid (s=setOf rows)) (hI:I=(cellIx (x,y)).toNat):Calls Tryz.prog 206 #[.agg #[v],.agg #[.int .i64 x,.int .i64 y]] w (Ret (.bool (s.testBit I)) w):=by
 have:=hasCellS_any v rows x y w h hc;have e:hasCellP rows (x,y)=s.testBit I:=by unfold hasCellP;rw[regionOk_iff.2 Hok.out,hc,hI,Hs.out];simp
 rw[e]at this;exact this
theorem hasCellS_no (v:Value) (rows:List Int) (x y:Int) (w:World) (h:Rd 1 RInt w v rows) (hc:cellOk (x,y)=true) (hr:regionOk rows=false):Calls Tryz.prog 206 #[.agg #[v],.agg #[.int .i64 x,.int .i64 y]] w (Ret (.bool false) w):=by
 have:=hasCellS_any v rows x y w h hc;have e:hasCellP rows (x,y)=false:=by unfold hasCellP;rw[hr];rfl
 rw[e]at this;exact this
theorem sub_iff {left:Nat} {d:Dm} (hl:left<U64) (h:domOk d=true):decide (left&&&domSet d=domSet d)=(left.testBit (domI d)&&left.testBit (domJ d)):=by
 rw[Bool.eq_iff_iff,decide_eq_true_iff,Bool.and_eq_true];constructor
 · intro e;exact⟨and_sub e _ (by rw[domSet_bit h];simp),and_sub e _ (by rw[domSet_bit h];simp)⟩
 · rintro⟨h1,h2⟩;apply Nat.eq_of_testBit_eq;intro i;rw[Nat.testBit_and,domSet_bit h];by_cases e1:domI d=i
   · rw[←e1,h1];simp
   · by_cases e2:domJ d=i
     · rw[←e2,h2];simp
     · simp[e1,e2]
def UsedOk (s left:Nat) (u:List Bool):Prop:=u.length=64∧(∀i,left.testBit i=true→s.testBit i=true)∧∀i,∀h:i<u.length,u[i]=(s.testBit i&& !left.testBit i)
theorem UsedOk.start (s:Nat):UsedOk s s (List.replicate 64 false):=⟨by simp,fun i h=>h,fun i h=>by rw[List.getElem_replicate];simp⟩
theorem UsedOk.step {s left:Nat} {u:List Bool} {d:Dm} (h:UsedOk s left u) (hl:left<U64) (hd:domOk d=true) (h1:left.testBit (domI d)=true) (h2:left.testBit (domJ d)=true):UsedOk s (sDiff left (domSet d)) ((u.set (domI d) true).set (domJ d) true):=by
 refine⟨by simp[h.1],fun i hi=>h.2.1 i ?_,fun i hi=> ?_⟩
 · rw[sDiff_bit hl (domSet_lt hd),Bool.and_eq_true]at hi;exact hi.1
 · rw[sDiff_bit hl (domSet_lt hd),domSet_bit hd,List.getElem_set,List.getElem_set];by_cases e2:domJ d=i
   · rw[if_pos e2];subst e2;rw[h.2.1 _ h2];simp
   · rw[if_neg e2];by_cases e1:domI d=i
     · rw[if_pos e1];subst e1;rw[h.2.1 _ h1];simp
     · rw[if_neg e1,h.2.2 i (by simpa using hi)];simp[e1,e2]
theorem UsedOk.bit {s left : Nat} {u : List Bool} (h : UsedOk s left u) {i : Nat} (hi : i < 64) (hs : s.testBit i = true) : u[i]'(by rw [h.1]; exact hi) = !left.testBit i := by
 rw[h.2.2 i (by rw[h.1];exact hi),hs];rfl
theorem UsedOk.out {s left:Nat} {u:List Bool} (h:UsedOk s left u) {i:Nat} (hs:s.testBit i=false):left.testBit i=false:=by
 rcases e:left.testBit i with _|_
 · rfl
 · rw[h.2.1 i e]at hs;exact hs
theorem partS_yes (v u:Value) (rows:List Int) (l:List Dm) (w:World) (h:Rd 1 RInt w v rows) (h2:Rd 3 RDom w u l) (Hok:Hid (RowsOk rows)):Calls Tryz.prog 129 #[.agg #[v],u] w (Ret (.bool (isPartial rows l)) w):=by
 obtain⟨A,c,rfl,hc,hm⟩:=h.form;obtain⟨A2,c2,rfl,hc2,hm2⟩:=h2.form;have hA:=((Below.refl w.heap.size w).al (.cells #[.slice A rows.length c] 32));have hx:=Blk.new_ w 32 #[.slice A rows.length c];have h64:Hid ((64:Int)=((64:Nat):Int)):=Lib.hid rfl;have e:isPartial rows l=partGo (setOf rows) none l:=by unfold isPartial;rw[regionOk_iff.2 Hok.out];rfl
 obtain⟨R,hR⟩:∃R,R=isPartial rows l:=⟨_,rfl⟩;rw[←hR]at e⊢;have HR:=Lib.hid e;clear e hR;have hs:=setOf_lt Hok.out;obtain⟨s,hse⟩:∃s,s=setOf rows:=⟨_,rfl⟩;rw[←hse]at hs;have HR:Hid (partGo s none l=R):=Lib.hid (by rw[HR.out,hse]);have Hse:=Lib.hid hse;clear hse;go_enter Tryz.func129,Tryz.ntmps129
 go_wp2_with (at_make;go_must (refine wpList_mk' (enc:=eBool) (z0:=false) rowBool rfl hA 64 (by decide) (by decide) _ h64.out rfl _ _ rfl rfl rfl ?_);intro w1 hown1 hb1 hg1)
 have hx1:=hx.grown hg1 (by simp);go_loopw [6] (fun s6 wr=>∃(k left:Nat) (q:List Bool),k≤l.length∧s6= .int .i64 k∧left<U64∧Hid (partGo left (prevOf l k) (l.drop k)=R)∧Hid (∀e,prevOf l k=some e→domOk e=true)∧Hid (UsedOk s left q)∧OwnL 4 1 eBool w.heap.size wr (.slice (some ⟨w.heap.size+1,0,none⟩) 64 64) q∧Blk wr w.heap.size 32 #[.slice A rows.length c]∧Below w.heap.size w wr) (fun i _=>l.length-(intOf i).toNat)
 case atStart=>exact⟨0,s,_,Nat.zero_le _,rfl,hs,Lib.hid HR.out,Lib.hid (fun e he=>by cases he),Lib.hid (UsedOk.start s),by simpa using hown1,hx1,hb1⟩
 case round=>
  obtain⟨k,left,q,hk,rfl,hleft,Hg,Hp,Hu,hown,bR,hbel⟩:=hrel;have z1:=bR.c1;clear hx hx1 hb1 hg1 hown1;have hgl:w.heap.size+1<wr.heap.size:=hown.at_.2.2;by_cases hlt:k<l.length
  · obtain⟨b,off,rfl,hb,q1,q2,q3⟩:=(h2.below RE.stays hbel).atDom hlt;have hg:=Hg.out;rw[List.drop_eq_getElem_cons hlt,partGo_cons]at hg;obtain⟨d,hd⟩:∃d,d=l[k]:=⟨_,rfl⟩;rw[←hd]at q1 q2 q3 hg;obtain⟨x,y,dn⟩:=d;simp only at q1 q2 q3;have hltI:(k:Int)<(l.length:Int):=(by omega);have hk0:(0:Int)≤(k:Int):=(by omega);have Bw:Below wr.heap.size wr wr.drew:=(Below.refl _ _).drew;have hz:wr.heap.size≤wr.drew.heap.size:=(by simp);rcases hok:domOk (x,y,dn)with _|_
    · rw[hok]at hg;simp only[Bool.false_and]at hg;have HG:=Lib.hid hg;have Hdd:=Lib.hid hd;have Hok2:=Lib.hid hok;clear hg hd hok;go_wp2_with fail
      refine rB (fun w'=>w'.cell? ⟨b,off+k*3,none⟩=some (.int .i64 x)∧w'.cell? ⟨b,off+k*3+1,none⟩=some (.int .i64 y)∧w'.cell? ⟨b,off+k*3+2,none⟩=some (.bool dn)) fun hHeld=>(tW 0)<|(tW 1)<|(tW 2)<|(tW 3)<|(tR [4])<|tL fun K hK=>?_
      go_simp
      (first|(go_at_call 203;go_must (refine(domOkS_any x y dn _).mono ?_;rintro e wX ⟨rfl,hbX⟩;rw[Hok2.out];obtain⟨hcX,hfX,hzX⟩:=bkn hbX wr.heap.size hz;have hz:=hzX;have Bw:=Bw.tr hbX);(try go_wp2_with fail)))
      refine tK hK fun hHeld=>?_
      clear hK K;refine(tW 5)<|(tW 6)<|(tU 7)<|(tU 8)<|(tU 9)<|(tU 10)<|(tU 11)<|(tU 12)<|(tU 13)<|(tU 14)<|(tU 15)<|(tU 16)<|(tU 17)<|(tU 18)<|(tU 19)<|(tU 20)<|(tU 21)<|(tW 22)<|tD ?_;go_wp2;go_ret;exact⟨retB HG.out,hbel.tr Bw⟩
    · rw[hok]at hg;simp only[Bool.true_and]at hg;rcases Nat.eq_zero_or_pos k with rfl|hkp
      · rw[prevOf_zero]at hg;simp only[goodPrev,Bool.and_true]at hg;have Hok2:=Lib.hid hok;have Hdd:=Lib.hid hd;have Hg2:=Lib.hid hg;clear hok hd hg;simp only[Nat.zero_mul,Nat.add_zero]at q1 q2 q3;go_wp2_with fail
        refine rB (fun w'=>w'.cell? ⟨b,off,none⟩=some (.int .i64 x)∧w'.cell? ⟨b,off+1,none⟩=some (.int .i64 y)∧w'.cell? ⟨b,off+2,none⟩=some (.bool dn)) fun hHeld=>(tW 0)<|(tW 1)<|(tW 2)<|(tW 3)<|(tR [4])<|tL fun K hK=>?_
        go_simp
        (first|(go_at_call 203;go_must (refine(domOkS_any x y dn _).mono ?_;rintro e wX ⟨rfl,hbX⟩;rw[Hok2.out];obtain⟨hcX,hfX,hzX⟩:=bkn hbX wr.heap.size hz;have hz:=hzX;have Bw:=Bw.tr hbX);(try go_wp2_with fail)))
        refine tK hK fun hHeld=>?_
        clear hK K;refine(tW 5)<|(tW 6)<|(tW 7)<|(tW 8)<|(tW 9)<|(tU 10)<|(tU 11)<|(tU 12)<|(tU 13)<|(tU 14)<|(tU 15)<|(tU 16)<|(tU 17)<|(tU 18)<|(tU 19)<|(tU 20)<|(tW 21)<|(tW 22)<|tD ?_;have ownA:=hown.below Bw;have BA:=hbel.tr Bw;have zA:wX.cell? ⟨w.heap.size,0,none⟩=some (.slice A rows.length c):=(Bw.cell (p:=⟨w.heap.size,0,none⟩) (by show w.heap.size<wr.heap.size;omega)).trans z1;have hgA:w.heap.size+1<wX.heap.size:=by have:=Bw.size;omega
        have hbA:b<wX.heap.size:=by have:=Bw.size;omega
        have hgA0:w.heap.size<wX.heap.size:=(by omega);have hn0:w.heap.size≠w.heap.size+1:=(by omega);have r1:=hHeld.1;have r2:=hHeld.2.1;have r3:=(by first|exact hHeld.2.2|exact hHeld.2.2.1:wX.cell? _=some (.bool dn));clear hcX hfX q1 q2 q3 z1;obtain⟨sx,sy,hsec⟩:∃sx sy,sec (x,y,dn)=(sx,sy):=⟨_,_,rfl⟩;obtain⟨hcI,hcJ⟩:=domOk_cells Hok2.out;have hsub:=sub_iff hleft Hok2.out;obtain⟨hI64,hJ64⟩:=domI_lt Hok2.out;have hIe:domI (x,y,dn)=(cellIx (x,y)).toNat:=rfl;have hJe:domJ (x,y,dn)=(cellIx (sx,sy)).toNat:=by unfold domJ;rw[hsec]
        rw[hsec]at hcJ;simp only at hcI;have hstep:=fun h1 h2=>Hu.out.step hleft Hok2.out h1 h2
        have hg2:=Hg2.out;rw[hsub]at hg2;obtain⟨D,hD⟩:∃D,D=domSet (x,y,dn):=⟨_,rfl⟩;obtain⟨I,hI⟩:∃I,I=domI (x,y,dn):=⟨_,rfl⟩;obtain⟨J,hJ⟩:∃J,J=domJ (x,y,dn):=⟨_,rfl⟩;rw[←hI]at hI64 hIe hg2 hstep;rw[←hJ]at hJ64 hJe hg2 hstep;rw[←hD]at hg2 hstep;have hqI:I<q.length:=by rw[Hu.out.1];exact hI64
        have hqJ:J<q.length:=by rw[Hu.out.1];exact hJ64
        have zI:wX.cell? ⟨w.heap.size+1,I,none⟩=some (.bool q[I]):=by
         have:=ownA.slot lenBool Nat.one_pos hqI 0 (.bool q[I]) rfl;rwa [Nat.mul_one,Nat.add_zero]at this
        have zJ:wX.cell? ⟨w.heap.size+1,J,none⟩=some (.bool q[J]):=by
         have:=ownA.slot lenBool Nat.one_pos hqJ 0 (.bool q[J]) rfl;rwa [Nat.mul_one,Nat.add_zero]at this
        have hbI:=fun hh=>Hu.out.bit hI64 (i:=I) hh
        have hbJ:=fun hh=>Hu.out.bit hJ64 (i:=J) hh
        have hoI:=fun hh=>Hu.out.out (i:=I) hh
        have hoJ:=fun hh=>Hu.out.out (i:=J) hh
        obtain⟨qI,hqIe⟩:∃qI,qI=q[I]:=⟨_,rfl⟩;obtain⟨qJ,hqJe⟩:∃qJ,qJ=q[J]:=⟨_,rfl⟩;rw[←hqIe]at zI hbI;rw[←hqJe]at zJ hbJ;have HbI:=Lib.hid hbI;have HbJ:=Lib.hid hbJ;have HoI:=Lib.hid hoI;have HoJ:=Lib.hid hoJ;have HG3:=Lib.hid hg2;have HST:=Lib.hid hstep;have HcI:=Lib.hid hcI;have HcJ:=Lib.hid hcJ;have HIe:=Lib.hid hIe;have HJe:=Lib.hid hJe;have Hsec:=Lib.hid hsec;have HI:=Lib.hid hI;have HJ:=Lib.hid hJ;have HD:=Lib.hid hD;have HqI:=Lib.hid hqIe;have HqJ:=Lib.hid hqJe;clear hbI hbJ hoI hoJ hg2 hstep hcI hcJ hIe hJe hsec hsub hI hJ hD hqIe hqJe;have hI0:(0:Int)≤(I:Int):=(by omega);have hJ0:(0:Int)≤(J:Int):=(by omega);have hI6:(I:Int)<64:=(by omega);have hJ6:(J:Int)<64:=(by omega);go_wp2_with fail
        refine(underS_any x y dn _ Hok2.out).mono ?_;rintro e w7 ⟨rfl,hb7⟩;obtain⟨hc7,hf7,hz7⟩:=bk hb7;(try simp at hz7)
        have hy7_0:w.heap.size<w7.heap.size:=(by omega);have hy7_1:w.heap.size+1<w7.heap.size:=(by omega);have hy7_2:b<w7.heap.size:=(by omega);rw[Hsec.out];have B7:=BA.tr hb7;have hN0:w7.heap.size+1+1≤((w7.alloc (.cells #[.int .i64 x,.int .i64 y] 77)).alloc (.cells #[.int .i64 sx,.int .i64 sy] 77)).heap.size:=(by simp);have hp1:w.heap.size<w7.heap.size+1+1:=(by omega);have hp2:w.heap.size+1<w7.heap.size+1+1:=(by omega);have hp3:w7.heap.size<w7.heap.size+1+1:=(by omega);have hp4:w7.heap.size+1<w7.heap.size+1+1:=(by omega);have hn1:w.heap.size≠w7.heap.size:=(by omega);have hn2:w.heap.size≠w7.heap.size+1:=(by omega);have hn3:w.heap.size+1≠w7.heap.size:=(by omega);have hn4:w7.heap.size≠w.heap.size+1:=(by omega);have hn5:w7.heap.size≠w.heap.size:=(by omega);have hn6:w.heap.size+1≠w7.heap.size+1:=(by omega);have hn7:w7.heap.size+1≠w.heap.size+1:=(by omega);have B7a:=(B7.al (.cells #[.int .i64 x,.int .i64 y] 77)).al (.cells #[.int .i64 sx,.int .i64 sy] 77);have own7:=((ownA.below hb7).alloc (.cells #[.int .i64 x,.int .i64 y] 77)).alloc (.cells #[.int .i64 sx,.int .i64 sy] 77);go_wp2_with fail
        refine(hasCellS_yes _ rows x y s I _ (h.below RE.stays B7a) HcI.out Hok Hse HIe.out).mono ?_;rintro e w8 ⟨rfl,hb8⟩;obtain⟨hc8,hf8,hz8⟩:=bkn hb8 _ hN0;have B8:=B7a.tr hb8;rcases e1:s.testBit I with _|_
        · go_wp2;go_ret;exact⟨retB (by have:=HG3.out;rw[HoI.out e1]at this;simpa using this),B8⟩
        · go_wp2_with fail
          refine(hasCellS_yes _ rows sx sy s J _ (h.below RE.stays B8) HcJ.out Hok Hse HJe.out).mono ?_;rintro e w9 ⟨rfl,hb9⟩;obtain⟨hc9,hf9,hz9⟩:=bkn hb9 _ hz8;have B9:=B8.tr hb9;rcases e2:s.testBit J with _|_
          · go_wp2;go_ret;exact⟨retB (by have:=HG3.out;rw[HoJ.out e2]at this;simpa using this),B9⟩
          · have HvI:=Lib.hid (HbI.out e1);have HvJ:=Lib.hid (HbJ.out e2);go_wp2_with fail
            refine(cellIndexS_nat x y I _ HcI.out HIe.out).mono ?_;rintro e w10 ⟨rfl,hb10⟩;obtain⟨hc10,hf10,hz10⟩:=bkn hb10 _ hz9;have B10:=B9.tr hb10;rcases qI with _|_
            · go_wp2_with fail
              refine(cellIndexS_nat sx sy J _ HcJ.out HJe.out).mono ?_;rintro e w11 ⟨rfl,hb11⟩;obtain⟨hc11,hf11,hz11⟩:=bkn hb11 _ hz10;have B11:=B10.tr hb11;rcases qJ with _|_
              · go_wp2_with fail
                refine(cellIndexS_nat x y I _ HcI.out HIe.out).mono ?_;rintro e w12 ⟨rfl,hb12⟩;obtain⟨hc12,hf12,hz12⟩:=bkn hb12 _ hz11;have own12:=((((own7.below hb8).below hb9).below hb10).below hb11).below hb12;have bR12:=((((((((bR.bl Bw).bl hb7).alloc (.cells #[.int .i64 x,.int .i64 y] 77)).alloc (.cells #[.int .i64 sx,.int .i64 sy] 77)).bl hb8).bl hb9).bl hb10).bl hb11).bl hb12;have B12:=B11.tr hb12;have hsf12:=own12.free;have own12s:=own12.store1 lenBool hqI (y:=true) rfl;have HlI:Hid (left.testBit I=true):=Lib.hid (by have k:=HvI.out;simpa using k);have HlJ:Hid (left.testBit J=true):=Lib.hid (by have k:=HvJ.out;simpa using k);clear hf7 hf8 hf9 hf10 hf11 hf12;go_wp2_with fail
                refine(cellIndexS_nat sx sy J _ HcJ.out HJe.out).mono ?_;rintro e w13 ⟨rfl,hb13⟩;have own13:=own12s.below hb13;have bR13:=(bR12.far hn0 _).bl hb13;have B13:=(B12.st ⟨w.heap.size+1,I,none⟩ (.bool true) (Nat.le_succ _)).tr hb13;obtain⟨u13,s13⟩:=own13.slot1 lenBool (k:=J) (by rw[List.length_set];exact hqJ);have hsf13:=own13.free;clear hc7 hc8 hc9 hc10 hc11 hc12 zI zJ zA hsf12;go_wp2;go_roundw
                case rel=>exact⟨0+1,sDiff left D,(q.set I true).set J true,by omega,by go_num,sDiff_lt hleft,by rw[prevOf_succ l _ hlt,←Hdd.out];exact Lib.hid (by have:=HG3.out;rw[HlI.out,HlJ.out]at this;simpa using this),Lib.hid (fun e he=>by rw[prevOf_succ l _ hlt,←Hdd.out]at he;injection he with he;rw[←he];exact Hok2.out),Lib.hid (HST.out HlI.out HlJ.out),own13.store1 lenBool (by rw[List.length_set];exact hqJ) rfl,bR13.far hn0 _,B13.st _ _ (Nat.le_succ _)⟩
                case measure=>simp[intOf];omega
              · go_wp2;go_ret;exact⟨retB (by have:=HG3.out;have k:=HvJ.out;rw[show left.testBit J=false by simpa using k]at this;simpa using this),B11⟩
            · go_wp2;go_ret;exact⟨retB (by have:=HG3.out;have k:=HvI.out;rw[show left.testBit I=false by simpa using k]at this;simpa using this),B10⟩
      · obtain ⟨j, rfl⟩ : ∃ j, k = j + 1 := ⟨k - 1, by omega⟩;have hj:j<l.length:=(by omega);rw[prevOf_succ l j hj]at hg;have hpok:=Hp.out l[j] (prevOf_succ l j hj);obtain⟨b',off',e',hb',p1,p2,p3⟩:=(h2.below RE.stays hbel).atDom hj;injection e' with e';injection e' with e1 e2 e3;subst e1;subst e2;simp only[goodPrev]at hg;obtain⟨dp,hdp⟩:∃dp,dp=l[j]:=⟨_,rfl⟩;rw[←hdp]at p1 p2 p3 hg hpok;obtain⟨px,py,pd⟩:=dp;simp only at p1 p2 p3;have Hpok:=Lib.hid hpok;have Hdp:=Lib.hid hdp;clear hpok hdp e3;have hwj:IntKind.i64.wrap (j:Int)=(j:Int):=IntWalk.i64_in _ (by omega);have hj0:(0:Int)≤(j:Int):=(by omega);have hjI:(j:Int)<(l.length:Int):=(by omega);have hk01:(0:Int)≤(j:Int)+1:=(by omega);have hltI1:(j:Int)+1<(l.length:Int):=(by omega);clear hk0 hltI;rcases hbf:decide (domOrd (px,py,pd)<domOrd (x,y,dn))with _|_
        · rw[hbf]at hg;simp only[Bool.and_false,Bool.false_and]at hg;have Hok2:=Lib.hid hok;have Hdd:=Lib.hid hd;have HG:=Lib.hid hg;have Hbf:=Lib.hid hbf;clear hok hd hg hbf;go_wp2_with fail
          refine rB (fun w'=>w'.cell? ⟨b,off+(j+1)*3,none⟩=some (.int .i64 x)∧w'.cell? ⟨b,off+(j+1)*3+1,none⟩=some (.int .i64 y)∧w'.cell? ⟨b,off+(j+1)*3+2,none⟩=some (.bool dn)∧w'.cell? ⟨b,off+j*3,none⟩=some (.int .i64 px)∧w'.cell? ⟨b,off+j*3+1,none⟩=some (.int .i64 py)∧w'.cell? ⟨b,off+j*3+2,none⟩=some (.bool pd)) fun hHeld=>(tW 0)<|(tW 1)<|(tW 2)<|(tW 3)<|(tR [4])<|tL fun K hK=>?_
          go_simp
          (first|(go_at_call 203;go_must (refine(domOkS_any x y dn _).mono ?_;rintro e wX ⟨rfl,hbX⟩;rw[Hok2.out];obtain⟨hcX,hfX,hzX⟩:=bkn hbX wr.heap.size hz;have hz:=hzX;have Bw:=Bw.tr hbX);(try go_wp2_with fail))|(go_at_call 204;go_must (refine(beforeS_yes px py pd x y dn _ Hpok.out Hok2.out).mono ?_;rintro e wX ⟨rfl,hbX⟩;rw[Hbf.out];obtain⟨hcX,hfX,hzX⟩:=bkn hbX wr.heap.size hz;have hz:=hzX;have Bw:=Bw.tr hbX);(try go_wp2_with fail)))
          refine tK hK fun hHeld=>?_
          clear hK K;refine(tW 5)<|(tW 6)<|(tW 7)<|(tW 8)<|(tW 9)<|(tW 10)<|(tW 11)<|(tW 12)<|(tW 13)<|(tW 14)<|(tW 15)<|(tW 16)<|(tW 17)<|(tW 18)<|(tR [19])<|tL fun K hK=>?_
          go_simp
          (first|(go_at_call 203;go_must (refine(domOkS_any x y dn _).mono ?_;rintro e wX ⟨rfl,hbX⟩;rw[Hok2.out];obtain⟨hcX,hfX,hzX⟩:=bkn hbX wr.heap.size hz;have hz:=hzX;have Bw:=Bw.tr hbX);(try go_wp2_with fail))|(go_at_call 204;go_must (refine(beforeS_yes px py pd x y dn _ Hpok.out Hok2.out).mono ?_;rintro e wX ⟨rfl,hbX⟩;rw[Hbf.out];obtain⟨hcX,hfX,hzX⟩:=bkn hbX wr.heap.size hz;have hz:=hzX;have Bw:=Bw.tr hbX);(try go_wp2_with fail)))
          refine tK hK fun hHeld=>?_
          clear hK K;refine(tW 20)<|(tW 21)<|(tW 22)<|tD ?_;go_wp2;go_ret;exact⟨retB HG.out,hbel.tr Bw⟩
        · rw[hbf]at hg;simp only[Bool.and_true]at hg;have Hok2:=Lib.hid hok;have Hdd:=Lib.hid hd;have Hg2:=Lib.hid hg;have Hbf:=Lib.hid hbf;clear hok hd hg hbf;go_wp2_with fail
          refine rB (fun w'=>w'.cell? ⟨b,off+(j+1)*3,none⟩=some (.int .i64 x)∧w'.cell? ⟨b,off+(j+1)*3+1,none⟩=some (.int .i64 y)∧w'.cell? ⟨b,off+(j+1)*3+2,none⟩=some (.bool dn)∧w'.cell? ⟨b,off+j*3,none⟩=some (.int .i64 px)∧w'.cell? ⟨b,off+j*3+1,none⟩=some (.int .i64 py)∧w'.cell? ⟨b,off+j*3+2,none⟩=some (.bool pd)) fun hHeld=>(tW 0)<|(tW 1)<|(tW 2)<|(tW 3)<|(tR [4])<|tL fun K hK=>?_
          go_simp
          (first|(go_at_call 203;go_must (refine(domOkS_any x y dn _).mono ?_;rintro e wX ⟨rfl,hbX⟩;rw[Hok2.out];obtain⟨hcX,hfX,hzX⟩:=bkn hbX wr.heap.size hz;have hz:=hzX;have Bw:=Bw.tr hbX);(try go_wp2_with fail))|(go_at_call 204;go_must (refine(beforeS_yes px py pd x y dn _ Hpok.out Hok2.out).mono ?_;rintro e wX ⟨rfl,hbX⟩;rw[Hbf.out];obtain⟨hcX,hfX,hzX⟩:=bkn hbX wr.heap.size hz;have hz:=hzX;have Bw:=Bw.tr hbX);(try go_wp2_with fail)))
          refine tK hK fun hHeld=>?_
          clear hK K;refine(tW 5)<|(tW 6)<|(tW 7)<|(tW 8)<|(tW 9)<|(tW 10)<|(tW 11)<|(tW 12)<|(tW 13)<|(tW 14)<|(tW 15)<|(tW 16)<|(tW 17)<|(tW 18)<|(tR [19])<|tL fun K hK=>?_
          go_simp
          (first|(go_at_call 203;go_must (refine(domOkS_any x y dn _).mono ?_;rintro e wX ⟨rfl,hbX⟩;rw[Hok2.out];obtain⟨hcX,hfX,hzX⟩:=bkn hbX wr.heap.size hz;have hz:=hzX;have Bw:=Bw.tr hbX);(try go_wp2_with fail))|(go_at_call 204;go_must (refine(beforeS_yes px py pd x y dn _ Hpok.out Hok2.out).mono ?_;rintro e wX ⟨rfl,hbX⟩;rw[Hbf.out];obtain⟨hcX,hfX,hzX⟩:=bkn hbX wr.heap.size hz;have hz:=hzX;have Bw:=Bw.tr hbX);(try go_wp2_with fail)))
          refine tK hK fun hHeld=>?_
          clear hK K;refine(tW 20)<|(tW 21)<|(tW 22)<|tD ?_;have ownA:=hown.below Bw;have BA:=hbel.tr Bw;have zA:wX.cell? ⟨w.heap.size,0,none⟩=some (.slice A rows.length c):=(Bw.cell (p:=⟨w.heap.size,0,none⟩) (by show w.heap.size<wr.heap.size;omega)).trans z1;have hgA:w.heap.size+1<wX.heap.size:=by have:=Bw.size;omega
          have hbA:b<wX.heap.size:=by have:=Bw.size;omega
          have hgA0:w.heap.size<wX.heap.size:=(by omega);have hn0:w.heap.size≠w.heap.size+1:=(by omega);have r1:=hHeld.1;have r2:=hHeld.2.1;have r3:=(by first|exact hHeld.2.2|exact hHeld.2.2.1:wX.cell? _=some (.bool dn));clear hcX hfX q1 q2 q3 z1;obtain⟨sx,sy,hsec⟩:∃sx sy,sec (x,y,dn)=(sx,sy):=⟨_,_,rfl⟩;obtain⟨hcI,hcJ⟩:=domOk_cells Hok2.out;have hsub:=sub_iff hleft Hok2.out;obtain⟨hI64,hJ64⟩:=domI_lt Hok2.out;have hIe:domI (x,y,dn)=(cellIx (x,y)).toNat:=rfl;have hJe:domJ (x,y,dn)=(cellIx (sx,sy)).toNat:=by unfold domJ;rw[hsec]
          rw[hsec]at hcJ;simp only at hcI;have hstep:=fun h1 h2=>Hu.out.step hleft Hok2.out h1 h2
          have hg2:=Hg2.out;rw[hsub]at hg2;obtain⟨D,hD⟩:∃D,D=domSet (x,y,dn):=⟨_,rfl⟩;obtain⟨I,hI⟩:∃I,I=domI (x,y,dn):=⟨_,rfl⟩;obtain⟨J,hJ⟩:∃J,J=domJ (x,y,dn):=⟨_,rfl⟩;rw[←hI]at hI64 hIe hg2 hstep;rw[←hJ]at hJ64 hJe hg2 hstep;rw[←hD]at hg2 hstep;have hqI:I<q.length:=by rw[Hu.out.1];exact hI64
          have hqJ:J<q.length:=by rw[Hu.out.1];exact hJ64
          have zI:wX.cell? ⟨w.heap.size+1,I,none⟩=some (.bool q[I]):=by
           have:=ownA.slot lenBool Nat.one_pos hqI 0 (.bool q[I]) rfl;rwa [Nat.mul_one,Nat.add_zero]at this
          have zJ:wX.cell? ⟨w.heap.size+1,J,none⟩=some (.bool q[J]):=by
           have:=ownA.slot lenBool Nat.one_pos hqJ 0 (.bool q[J]) rfl;rwa [Nat.mul_one,Nat.add_zero]at this
          have hbI:=fun hh=>Hu.out.bit hI64 (i:=I) hh
          have hbJ:=fun hh=>Hu.out.bit hJ64 (i:=J) hh
          have hoI:=fun hh=>Hu.out.out (i:=I) hh
          have hoJ:=fun hh=>Hu.out.out (i:=J) hh
          obtain⟨qI,hqIe⟩:∃qI,qI=q[I]:=⟨_,rfl⟩;obtain⟨qJ,hqJe⟩:∃qJ,qJ=q[J]:=⟨_,rfl⟩;rw[←hqIe]at zI hbI;rw[←hqJe]at zJ hbJ;have HbI:=Lib.hid hbI;have HbJ:=Lib.hid hbJ;have HoI:=Lib.hid hoI;have HoJ:=Lib.hid hoJ;have HG3:=Lib.hid hg2;have HST:=Lib.hid hstep;have HcI:=Lib.hid hcI;have HcJ:=Lib.hid hcJ;have HIe:=Lib.hid hIe;have HJe:=Lib.hid hJe;have Hsec:=Lib.hid hsec;have HI:=Lib.hid hI;have HJ:=Lib.hid hJ;have HD:=Lib.hid hD;have HqI:=Lib.hid hqIe;have HqJ:=Lib.hid hqJe;clear hbI hbJ hoI hoJ hg2 hstep hcI hcJ hIe hJe hsec hsub hI hJ hD hqIe hqJe;have hI0:(0:Int)≤(I:Int):=(by omega);have hJ0:(0:Int)≤(J:Int):=(by omega);have hI6:(I:Int)<64:=(by omega);have hJ6:(J:Int)<64:=(by omega);go_wp2_with fail
          refine(underS_any x y dn _ Hok2.out).mono ?_;rintro e w7 ⟨rfl,hb7⟩;obtain⟨hc7,hf7,hz7⟩:=bk hb7;(try simp at hz7)
          have hy7_0:w.heap.size<w7.heap.size:=(by omega);have hy7_1:w.heap.size+1<w7.heap.size:=(by omega);have hy7_2:b<w7.heap.size:=(by omega);rw[Hsec.out];have B7:=BA.tr hb7;have hN0:w7.heap.size+1+1≤((w7.alloc (.cells #[.int .i64 x,.int .i64 y] 77)).alloc (.cells #[.int .i64 sx,.int .i64 sy] 77)).heap.size:=(by simp);have hp1:w.heap.size<w7.heap.size+1+1:=(by omega);have hp2:w.heap.size+1<w7.heap.size+1+1:=(by omega);have hp3:w7.heap.size<w7.heap.size+1+1:=(by omega);have hp4:w7.heap.size+1<w7.heap.size+1+1:=(by omega);have hn1:w.heap.size≠w7.heap.size:=(by omega);have hn2:w.heap.size≠w7.heap.size+1:=(by omega);have hn3:w.heap.size+1≠w7.heap.size:=(by omega);have hn4:w7.heap.size≠w.heap.size+1:=(by omega);have hn5:w7.heap.size≠w.heap.size:=(by omega);have hn6:w.heap.size+1≠w7.heap.size+1:=(by omega);have hn7:w7.heap.size+1≠w.heap.size+1:=(by omega);have B7a:=(B7.al (.cells #[.int .i64 x,.int .i64 y] 77)).al (.cells #[.int .i64 sx,.int .i64 sy] 77);have own7:=((ownA.below hb7).alloc (.cells #[.int .i64 x,.int .i64 y] 77)).alloc (.cells #[.int .i64 sx,.int .i64 sy] 77);go_wp2_with fail
          refine(hasCellS_yes _ rows x y s I _ (h.below RE.stays B7a) HcI.out Hok Hse HIe.out).mono ?_;rintro e w8 ⟨rfl,hb8⟩;obtain⟨hc8,hf8,hz8⟩:=bkn hb8 _ hN0;have B8:=B7a.tr hb8;rcases e1:s.testBit I with _|_
          · go_wp2;go_ret;exact⟨retB (by have:=HG3.out;rw[HoI.out e1]at this;simpa using this),B8⟩
          · go_wp2_with fail
            refine(hasCellS_yes _ rows sx sy s J _ (h.below RE.stays B8) HcJ.out Hok Hse HJe.out).mono ?_;rintro e w9 ⟨rfl,hb9⟩;obtain⟨hc9,hf9,hz9⟩:=bkn hb9 _ hz8;have B9:=B8.tr hb9;rcases e2:s.testBit J with _|_
            · go_wp2;go_ret;exact⟨retB (by have:=HG3.out;rw[HoJ.out e2]at this;simpa using this),B9⟩
            · have HvI:=Lib.hid (HbI.out e1);have HvJ:=Lib.hid (HbJ.out e2);go_wp2_with fail
              refine(cellIndexS_nat x y I _ HcI.out HIe.out).mono ?_;rintro e w10 ⟨rfl,hb10⟩;obtain⟨hc10,hf10,hz10⟩:=bkn hb10 _ hz9;have B10:=B9.tr hb10;rcases qI with _|_
              · go_wp2_with fail
                refine(cellIndexS_nat sx sy J _ HcJ.out HJe.out).mono ?_;rintro e w11 ⟨rfl,hb11⟩;obtain⟨hc11,hf11,hz11⟩:=bkn hb11 _ hz10;have B11:=B10.tr hb11;rcases qJ with _|_
                · go_wp2_with fail
                  refine(cellIndexS_nat x y I _ HcI.out HIe.out).mono ?_;rintro e w12 ⟨rfl,hb12⟩;obtain⟨hc12,hf12,hz12⟩:=bkn hb12 _ hz11;have own12:=((((own7.below hb8).below hb9).below hb10).below hb11).below hb12;have bR12:=((((((((bR.bl Bw).bl hb7).alloc (.cells #[.int .i64 x,.int .i64 y] 77)).alloc (.cells #[.int .i64 sx,.int .i64 sy] 77)).bl hb8).bl hb9).bl hb10).bl hb11).bl hb12;have B12:=B11.tr hb12;have hsf12:=own12.free;have own12s:=own12.store1 lenBool hqI (y:=true) rfl;have HlI:Hid (left.testBit I=true):=Lib.hid (by have k:=HvI.out;simpa using k);have HlJ:Hid (left.testBit J=true):=Lib.hid (by have k:=HvJ.out;simpa using k);clear hf7 hf8 hf9 hf10 hf11 hf12;go_wp2_with fail
                  refine(cellIndexS_nat sx sy J _ HcJ.out HJe.out).mono ?_;rintro e w13 ⟨rfl,hb13⟩;have own13:=own12s.below hb13;have bR13:=(bR12.far hn0 _).bl hb13;have B13:=(B12.st ⟨w.heap.size+1,I,none⟩ (.bool true) (Nat.le_succ _)).tr hb13;obtain⟨u13,s13⟩:=own13.slot1 lenBool (k:=J) (by rw[List.length_set];exact hqJ);have hsf13:=own13.free;clear hc7 hc8 hc9 hc10 hc11 hc12 zI zJ zA hsf12;go_wp2;go_roundw
                  case rel=>exact⟨(j+1)+1,sDiff left D,(q.set I true).set J true,by omega,by go_num,sDiff_lt hleft,by rw[prevOf_succ l _ hlt,←Hdd.out];exact Lib.hid (by have:=HG3.out;rw[HlI.out,HlJ.out]at this;simpa using this),Lib.hid (fun e he=>by rw[prevOf_succ l _ hlt,←Hdd.out]at he;injection he with he;rw[←he];exact Hok2.out),Lib.hid (HST.out HlI.out HlJ.out),own13.store1 lenBool (by rw[List.length_set];exact hqJ) rfl,bR13.far hn0 _,B13.st _ _ (Nat.le_succ _)⟩
                  case measure=>simp[intOf];omega
                · go_wp2;go_ret;exact⟨retB (by have:=HG3.out;have k:=HvJ.out;rw[show left.testBit J=false by simpa using k]at this;simpa using this),B11⟩
              · go_wp2;go_ret;exact⟨retB (by have:=HG3.out;have k:=HvI.out;rw[show left.testBit I=false by simpa using k]at this;simpa using this),B10⟩
  · obtain rfl : k = l.length := by omega
    have hg:=Hg.out;rw[List.drop_of_length_le (Nat.le_refl _)]at hg;have HG:=Lib.hid hg;clear hg;go_wp2_with fail
    refine(regionOkS_any _ rows _ (h.below RE.stays hbel)).mono ?_;rintro e w1 ⟨rfl,hb1⟩;obtain⟨hc1,hf1,hz1⟩:=bk hb1;(try simp at hz1)
    have hy1_0:w.heap.size<w1.heap.size:=(by omega);rw[regionOk_iff.2 Hok.out];go_wp2;go_ret;exact⟨retB HG.out,hbel.tr hb1⟩
theorem partS_no (v u:Value) (rows:List Int) (l:List Dm) (w:World) (h:Rd 1 RInt w v rows) (h2:Rd 3 RDom w u l) (hr:regionOk rows=false):Calls Tryz.prog 129 #[.agg #[v],u] w (Ret (.bool false) w):=by
 obtain⟨A,c,rfl,hc,hm⟩:=h.form;obtain⟨A2,c2,rfl,hc2,hm2⟩:=h2.form;have hA:=((Below.refl w.heap.size w).al (.cells #[.slice A rows.length c] 32));have hx:=Blk.new_ w 32 #[.slice A rows.length c];have h64:Hid ((64:Int)=((64:Nat):Int)):=Lib.hid rfl;have Hr:=Lib.hid hr;clear hr;go_enter Tryz.func129,Tryz.ntmps129
 go_wp2_with (at_make;go_must (refine wpList_mk' (enc:=eBool) (z0:=false) rowBool rfl hA 64 (by decide) (by decide) _ h64.out rfl _ _ rfl rfl rfl ?_);intro w1 hown1 hb1 hg1)
 have hx1:=hx.grown hg1 (by simp);have z1:=hx1.c1;have hgl:=hx1.lt;have hb:∀b,b<w.heap.size→b<w1.heap.size:=fun b hb=>by omega
 refine wp_loop_rounds 1 ?_;rw[rounds_succ];by_cases hl:0<l.length
 · obtain⟨b,off,rfl,hb,q1,q2,q3⟩:=(h2.below RE.stays hb1).atDom hl;simp only[Nat.zero_mul,Nat.add_zero]at q1 q2 q3;obtain⟨d,hd⟩:∃d,d=l[0]:=⟨_,rfl⟩;rw[←hd]at q1 q2 q3;obtain⟨x,y,dn⟩:=d;simp only at q1 q2 q3;have hltI:((0:Nat):Int)<(l.length:Int):=(by omega);have hltI0:(0:Int)<(l.length:Int):=(by omega);obtain⟨wr,hwr⟩:∃wr,wr=w1:=⟨_,rfl⟩;subst hwr;have Bw:Below wr.heap.size wr wr.drew:=(Below.refl _ _).drew;have hz:wr.heap.size≤wr.drew.heap.size:=(by simp);clear hd;rcases hok:domOk (x,y,dn)with _|_
   · have Hok2:=Lib.hid hok;clear hok;go_wp2_with fail
     refine rB (fun w'=>w'.cell? ⟨b,off,none⟩=some (.int .i64 x)∧w'.cell? ⟨b,off+1,none⟩=some (.int .i64 y)∧w'.cell? ⟨b,off+2,none⟩=some (.bool dn)) fun hHeld=>(tW 0)<|(tW 1)<|(tW 2)<|(tW 3)<|(tR [4])<|tL fun K hK=>?_
     go_simp
     (first|(go_at_call 203;go_must (refine(domOkS_any x y dn _).mono ?_;rintro e wX ⟨rfl,hbX⟩;rw[Hok2.out];obtain⟨hcX,hfX,hzX⟩:=bkn hbX wr.heap.size hz;have hz:=hzX;have Bw:=Bw.tr hbX);(try go_wp2_with fail)))
     refine tK hK fun hHeld=>?_
     clear hK K;refine(tW 5)<|(tW 6)<|(tU 7)<|(tU 8)<|(tU 9)<|(tU 10)<|(tU 11)<|(tU 12)<|(tU 13)<|(tU 14)<|(tU 15)<|(tU 16)<|(tU 17)<|(tU 18)<|(tU 19)<|(tU 20)<|(tU 21)<|(tW 22)<|tD ?_;go_wp2;go_ret;exact⟨rfl,hb1.tr Bw⟩
   · have Hok2:=Lib.hid hok;clear hok;go_wp2_with fail
     refine rB (fun w'=>w'.cell? ⟨b,off,none⟩=some (.int .i64 x)∧w'.cell? ⟨b,off+1,none⟩=some (.int .i64 y)∧w'.cell? ⟨b,off+2,none⟩=some (.bool dn)) fun hHeld=>(tW 0)<|(tW 1)<|(tW 2)<|(tW 3)<|(tR [4])<|tL fun K hK=>?_
     go_simp
     (first|(go_at_call 203;go_must (refine(domOkS_any x y dn _).mono ?_;rintro e wX ⟨rfl,hbX⟩;rw[Hok2.out];obtain⟨hcX,hfX,hzX⟩:=bkn hbX wr.heap.size hz;have hz:=hzX;have Bw:=Bw.tr hbX);(try go_wp2_with fail)))
     refine tK hK fun hHeld=>?_
     clear hK K;refine(tW 5)<|(tW 6)<|(tW 7)<|(tW 8)<|(tW 9)<|(tU 10)<|(tU 11)<|(tU 12)<|(tU 13)<|(tU 14)<|(tU 15)<|(tU 16)<|(tU 17)<|(tU 18)<|(tU 19)<|(tU 20)<|(tW 21)<|(tW 22)<|tD ?_;have r1:=hHeld.1;have r2:=hHeld.2.1;have r3:=hHeld.2.2;have BA:=hb1.tr Bw;have zA:wX.cell? ⟨w.heap.size,0,none⟩=some (.slice A rows.length c):=(Bw.cell (p:=⟨w.heap.size,0,none⟩) (by show w.heap.size<wr.heap.size;omega)).trans z1;have hbA:b<wX.heap.size:=by have:=Bw.size;omega
     have hgA0:w.heap.size<wX.heap.size:=by have:=Bw.size;omega
     clear hcX hfX q1 q2 q3 z1;obtain⟨hcI,hcJ⟩:=domOk_cells Hok2.out;obtain⟨sx,sy,hsec⟩:∃sx sy,sec (x,y,dn)=(sx,sy):=⟨_,_,rfl⟩;simp only at hcI;have HcI:=Lib.hid hcI;have Hsec:=Lib.hid hsec;clear hcI hcJ hsec;go_wp2_with fail
     refine(underS_any x y dn _ Hok2.out).mono ?_;rintro e w7 ⟨rfl,hb7⟩;obtain⟨hc7,hf7,hz7⟩:=bk hb7;(try simp at hz7)
     have hy7_0:w.heap.size<w7.heap.size:=(by omega);have hy7_1:b<w7.heap.size:=(by omega);rw[Hsec.out];have B7:=BA.tr hb7;have hp1:w.heap.size<w7.heap.size+1+1:=(by omega);have hn1:w.heap.size≠w7.heap.size:=(by omega);have hn2:w.heap.size≠w7.heap.size+1:=(by omega);have B7a:=(B7.al (.cells #[.int .i64 x,.int .i64 y] 77)).al (.cells #[.int .i64 sx,.int .i64 sy] 77);go_wp2_with fail
     refine(hasCellS_no _ rows x y _ (h.below RE.stays B7a) HcI.out Hr.out).mono ?_;rintro e w8 ⟨rfl,hb8⟩;go_wp2;go_ret;exact⟨rfl,B7a.tr hb8⟩
 · have hl0 : l.length = 0 := by omega
   obtain rfl:l=[]:=List.length_eq_zero_iff.1 hl0;clear hl0 hl hb;go_wp2_with fail
   refine(regionOkS_any _ rows _ (h.below RE.stays hb1)).mono ?_;rintro e w2 ⟨rfl,hb2⟩;obtain⟨hc2,hf2,hz2⟩:=bk hb2;(try simp at hz2)
   have hy2_0:w.heap.size<w2.heap.size:=(by omega);rw[Hr.out];go_wp2;go_ret;exact⟨rfl,hb1.tr hb2⟩
theorem partS_any (v u:Value) (rows:List Int) (l:List Dm) (w:World) (h:Rd 1 RInt w v rows) (h2:Rd 3 RDom w u l):Calls Tryz.prog 129 #[.agg #[v],u] w (Ret (.bool (isPartial rows l)) w):=by
 rcases hr:regionOk rows with _|_
 · have e : isPartial rows l = false := by unfold isPartial; rw [hr]; rfl
   rw[e];exact partS_no v u rows l w h h2 hr
 · exact partS_yes v u rows l w h h2 (Lib.hid (regionOk_iff.1 hr))
end Go.Proofs.YtfdbcihcdjjdhaaGreatDoor
