/- Tilings: a partial covering covers all cells if and only if it has half as many dominoes as there are cells. Plain laws. IsTiling of both sides; the cells of a region as the reference lists them: the walks. No conditions but sizes. Sorted dominoes and flips: the functions and their plain laws. Partial coverings as a property: valid dominoes in order that share no cell. Plain laws. A flip of a partial covering is one, and the same flip again takes it back. Plain laws. Floors whose flips are made and taken back. Plain laws.. Conditions, where there are any, stand in the statements. -/
import Derived.Test.YtfdbcihcdjjdhaaGreatDoorYK4
import Derived.Test.YtfdbcihcdjjdhaaGreatDoorYK3
import Derived.IntWalk
namespace Go.Proofs.YtfdbcihcdjjdhaaGreatDoor
open Go.ChangeShapes Go.WideShapes Go.ChangeAt Go.RowKit
set_option linter.unusedVariables false
set_option maxHeartbeats 4000000
set_option maxRecDepth 100000
def cntF (f:Nat→Bool):Nat→Nat
  |0=>0
  |k+1=>cntF f k+(f k).toNat
theorem cntF_succ (f:Nat→Bool) (k:Nat):cntF f (k+1)=cntF f k+(f k).toNat:=rfl
theorem cntF_cells (s:Nat):∀k,(cellsTo s k).length=cntF s.testBit k
  |0=>by simp[cellsTo,cntF]
  | k + 1 => by
   rw[cellsTo_succ,List.length_append,cntF_cells s k];rw[cntF_succ];cases s.testBit k<;>simp
theorem cntF_del {f g:Nat→Bool} {i:Nat} (hne:∀j,j≠i→f j=g j) (hf:f i=true) (hg:g i=false):∀k,cntF f k=cntF g k+(if i<k then 1 else 0)
  |0=>by simp[cntF]
  | k + 1 => by
   have ih:=cntF_del hne hf hg k;rw[cntF_succ,cntF_succ];by_cases e:k=i
   · subst e;rw[if_neg (by omega)]at ih;rw[if_pos (by omega),ih,hf,hg];simp
   · rw[ih,hne k e];by_cases h:i<k
     · rw[if_pos h,if_pos (by omega)];omega
     · rw[if_neg h,if_neg (by omega)];omega
theorem cntF_zero {f:Nat→Bool}:∀k,cntF f k=0→∀j,j<k→f j=false
  |0,_,j,hj=>by omega
  | k + 1, h, j, hj => by
   rw[cntF_succ]at h;by_cases e:j=k
   · subst e;rcases q:f j with _|_
     · rfl
     · rw[q]at h;simp at h
   · exact cntF_zero k (by omega) j (by omega)
theorem cntF_none {f:Nat→Bool}:∀k,(∀j,j<k→f j=false)→cntF f k=0
  |0,_=>rfl
  | k + 1, h => by
   rw[cntF_succ,cntF_none k (fun j hj=>h j (by omega)),h k (by omega)];rfl
theorem dom_ne {d:Dm} (h:domOk d=true):domI d≠domJ d:=by
 intro e;obtain⟨h1,h2⟩:=domOk_cells h;have:=cellIx_inj h1 h2 e;have D:=domOk_fst h;unfold sec at this;split at this
 · simp only[Prod.mk.injEq]at this;have k:=this.2;unfold wrap64 at k;omega
 · simp only[Prod.mk.injEq]at this;have k:=this.1;unfold wrap64 at k;omega
theorem cnt_step {left:Nat} {d:Dm} (hl:left<U64) (hd:domOk d=true) (hs:left&&&domSet d=domSet d):cntF left.testBit 64=cntF (sDiff left (domSet d)).testBit 64+2:=by
 obtain⟨hi,hj⟩:=domI_lt hd;have hne:=dom_ne hd;have bI:left.testBit (domI d)=true:=and_sub hs _ (by rw[domSet_bit hd];simp);have bJ:left.testBit (domJ d)=true:=and_sub hs _ (by rw[domSet_bit hd];simp)
 have h1 := cntF_del (f := left.testBit) (g := fun k => left.testBit k && !decide (domI d = k)) (i := domI d) (fun j hj => by
  have:decide (domI d=j)=false:=by simp;omega
  simp only[this,Bool.not_false,Bool.and_true]) bI (by simp) 64
 have h2 := cntF_del (f := fun k => left.testBit k && !decide (domI d = k)) (g := (sDiff left (domSet d)).testBit) (i := domJ d) (fun j hj => by
  have:decide (domJ d=j)=false:=by simp;omega
  simp only[sDiff_bit hl (domSet_lt hd),domSet_bit hd,this,Bool.or_false]) (by
  have:decide (domI d=domJ d)=false:=by simp;omega
  simp only[this,bJ];rfl) (by rw[sDiff_bit hl (domSet_lt hd),domSet_bit hd];simp) 64
 rw[if_pos hi]at h1;rw[if_pos hj]at h2;omega
def leftOf (left:Nat):List Dm→Nat
  |[]=>left
  |d::r=>leftOf (sDiff left (domSet d)) r
def coverGo (s:Nat):List Dm→Nat
  |[]=>s
  |d::r=>coverGo (if domOk d then s|||domSet d else s) r
theorem or_U64 {a b:Nat} (ha:a<U64) (hb:b<U64):a|||b<U64:=by
 unfold U64 at*;exact Nat.or_lt_two_pow (n:=64) ha hb
theorem cover_next {s:Nat} (hs:s<U64) (d:Dm):(if domOk d then s|||domSet d else s)<U64:=by
 split
 · rename_i h;exact or_U64 hs (domSet_lt h)
 · exact hs
theorem coverGo_lt:∀(l:List Dm) (s:Nat),s<U64→coverGo s l<U64
  |[],s,h=>h
  |d::r,s,h=>coverGo_lt r _ (cover_next h d)
theorem coverGo_bit (j : Nat) : ∀ (l : List Dm) (s : Nat), (coverGo s l).testBit j = (s.testBit j || l.any fun d => domOk d && (domSet d).testBit j)
  |[],s=>by simp[coverGo]
  | d :: r, s => by
   unfold coverGo;rw[coverGo_bit j r];rcases h:domOk d with _|_
   · rw[if_neg (by simp)];simp[h]
   · rw[if_pos rfl,Nat.testBit_or];simp[h,Bool.or_assoc]
theorem partGo_left : ∀ (l : List Dm) (left : Nat) (p : Option Dm), left < U64 → partGo left p l = true → leftOf left l < U64 ∧ cntF left.testBit 64 = cntF (leftOf left l).testBit 64 + 2 * l.length ∧ ∀ j, (leftOf left l).testBit j = (left.testBit j && !l.any fun d => domOk d && (domSet d).testBit j)
  |[],left,p,hl,h=>⟨hl,by simp[leftOf],fun j=>by simp[leftOf]⟩
  | d :: r, left, p, hl, h => by
   obtain⟨h1,h2,h3⟩:=partGo_split h;obtain⟨a,b,c⟩:=partGo_left r _ _ (sDiff_lt hl) h3;have:=cnt_step hl h1 h2;refine⟨a,?_,fun j=> ?_⟩
   · show cntF left.testBit 64=cntF (leftOf (sDiff left (domSet d)) r).testBit 64+2*(d::r).length;rw[List.length_cons];omega
   · show(leftOf (sDiff left (domSet d)) r).testBit j=_;rw[c,sDiff_bit hl (domSet_lt h1),List.any_cons,h1,Bool.true_and,Bool.not_or,Bool.and_assoc]
theorem cover_iff {left:Nat} {p:Option Dm} {l:List Dm} (hl:left<U64) (h:partGo left p l=true):coverGo 0 l=left↔2*l.length=cntF left.testBit 64:=by
 obtain⟨a,b,c⟩:=partGo_left l left p hl h;have hc:∀j,(coverGo 0 l).testBit j=l.any fun d=>domOk d&&(domSet d).testBit j:=fun j=>by rw[coverGo_bit];simp
 constructor
 · intro e;have:cntF (leftOf left l).testBit 64=0:=cntF_none 64 (fun j _=>by rw[c,←hc,e];simp);omega
 · intro e;have hz:cntF (leftOf left l).testBit 64=0:=(by omega);refine set_ext (coverGo_lt l 0 zero_lt_U64) hl (fun j hj=> ?_);have h0:=cntF_zero 64 hz j hj;rw[c,←hc]at h0;rcases q:(coverGo 0 l).testBit j with _|_
   · rw[q]at h0;rcases r:left.testBit j with _|_
     · rfl
     · rw[r]at h0;cases h0
   · rw[hc,List.any_eq_true]at q;obtain⟨d,hd,hb⟩:=q;rw[Bool.and_eq_true]at hb;exact((partGo_mem l left p hl h d hd).2 j hb.2).symm
def isTiling (rows:List Int) (l:List Dm):Bool:=isPartial rows l&&decide (2*l.length=(regCells rows).length)
theorem isTiling_cover {rows:List Int} {l:List Dm} (h:isPartial rows l=true):isTiling rows l=decide (coverGo 0 l=setOf rows):=by
 obtain⟨ho,hp⟩:=isPartial_ok h;unfold isTiling regCells;rw[h,Bool.true_and,if_pos (regionOk_iff.2 ho),cntF_cells,decide_eq_decide];exact(cover_iff (setOf_lt ho) hp).symm
theorem partGo_len {left:Nat} {p:Option Dm} {l:List Dm} (hl:left<U64) (h:partGo left p l=true):l.length≤32:=by
 obtain⟨a,b,c⟩:=partGo_left l left p hl h
 have:∀(f:Nat→Bool) k,cntF f k≤k:=by
  intro f k;induction k with
  |zero=>simp[cntF]
  |succ k ih=>rw[cntF_succ];have:(f k).toNat≤1:=Bool.toNat_le _;omega
 have:=this left.testBit 64;omega
end Go.Proofs.YtfdbcihcdjjdhaaGreatDoor
namespace Go.Proofs.YtfdbcihcdjjdhaaGreatDoor
open Go.ChangeShapes Go.WideShapes Go.ChangeAt Go.RowKit
set_option linter.unusedVariables false
set_option linter.unusedSimpArgs false
set_option maxHeartbeats 4000000
set_option maxRecDepth 100000
theorem cellAtS_n2 (i x y:Nat) (w:World) (hi:i<64) (hx:x=i%8) (hy:y=i/8):Calls Tryz.prog 110 #[.int .i64 i] w (Ret (.tuple #[.agg #[.int .i64 x,.int .i64 y],.bool true]) w):=by
 have:=cellAtS_yes i w hi;rw[hx,hy];simpa using this
theorem coverGo_cons (s:Nat) (d:Dm) (r:List Dm):coverGo s (d::r)=coverGo (if domOk d then s|||domSet d else s) r:=rfl
theorem coveredI_any (v:Value) (l:List Dm) (w:World) (h:Rd 3 RDom w v l):Calls Tryz.prog 195 #[v] w (Ret (.int .u64 (coverGo 0 l:Nat)) w):=by
 obtain⟨A,c,rfl,hc,hm⟩:=h.form;go_enter Tryz.func195,Tryz.ntmps195
 go_wp2;go_loopw [3,8] (fun s3 s8 wr=>∃k S:Nat,k≤l.length∧s8= .int .i64 k∧s3= .int .u64 S∧S<U64∧Hid (coverGo S (l.drop k)=coverGo 0 l)∧Below w.heap.size w wr) (fun _ i _=>l.length-(intOf i).toNat)
 case atStart=>exact⟨0,0,Nat.zero_le _,rfl,rfl,zero_lt_U64,Lib.hid rfl,Below.refl _ _⟩
 case round=>
  obtain⟨k,S,hk,rfl,rfl,hS,Hg,hbel⟩:=hrel;by_cases hlt:k<l.length
  · obtain⟨b,off,rfl,hb,q1,q2,q3⟩:=(h.below RE.stays hbel).atDom hlt;have hg:=Hg.out;rw[List.drop_eq_getElem_cons hlt,coverGo_cons]at hg;obtain⟨d,hd⟩:∃d,d=l[k]:=⟨_,rfl⟩;rw[←hd]at q1 q2 q3 hg;obtain⟨x,y,dn⟩:=d;simp only at q1 q2 q3;have bD:=Blk.new_ wr 90 #[.int .i64 x,.int .i64 y,.bool dn];rcases hok:domOk (x,y,dn)with _|_
    · rw [hok, if_neg (by simp)] at hg;have Hg2:=Lib.hid hg;have Hok:=Lib.hid hok;clear hg hok hd;go_wp2_with fail
      refine(domOkI_any x y dn _).mono ?_;rintro e w1 ⟨rfl,hb1⟩;rw[Hok.out];go_wp2;go_roundw
      case rel=>exact⟨k+1,S,by omega,by go_num,rfl,hS,Hg2,(hbel.al _).tr hb1⟩
      case measure=>simp[intOf];omega
    · rw[hok,if_pos rfl]at hg;have hDlt:=domSet_lt hok;have Hok:=Lib.hid hok;clear hok hd;go_wp2_with fail
      refine(domOkI_any x y dn _).mono ?_;rintro e w1 ⟨rfl,hb1⟩;rw[Hok.out];have bD1:=bD.bl hb1;have z0:=bD1.cell 0;have z1:=bD1.cell 1;have z2:=bD1.cell 2;simp only[List.getElem?_toArray,List.getElem?_cons_zero,List.getElem?_cons_succ]at z0 z1 z2;obtain⟨D,hD⟩:∃D,D=domSet (x,y,dn):=⟨_,rfl⟩
      have hor:bits .or .u64 (S:Int) (D:Int)=((S|||D:Nat):Int):=by
       rw[←hD]at hDlt;unfold U64 at hS hDlt;exact u64_or_nat S D hS hDlt
      have hlt2:S|||D<U64:=by rw[hD];exact or_U64 hS hDlt
      rw[←hD]at hg;have Hg2:=Lib.hid hg;clear hg;have HD:=Lib.hid hD;clear hD;go_wp2_with fail
      refine(domSetI_yes x y dn _ Hok.out).mono ?_;rintro e w2 ⟨rfl,hb2⟩;rw[←HD.out];go_wp2;go_roundw
      case rel=>exact⟨k+1,S|||D,by omega,by go_num,rfl,hlt2,Hg2,((hbel.al _).tr hb1).tr hb2⟩
      case measure=>simp[intOf];omega
  · obtain rfl : k = l.length := by omega
    have hg:=Hg.out;rw[List.drop_of_length_le (Nat.le_refl _)]at hg;have hg2:S=coverGo 0 l:=hg;have HG:=Lib.hid hg2;clear hg hg2;go_wp2;go_ret;exact⟨congrArg Ending.returned (retU' HG.out),hbel⟩
theorem tilingI_any (v u:Value) (rows:List Int) (l:List Dm) (w:World) (h:Rd 1 RInt w v rows) (h2:Rd 3 RDom w u l):Calls Tryz.prog 115 #[.agg #[v],u] w (Ret (.bool (isTiling rows l)) w):=by
 obtain⟨A,c,rfl,hc,hm⟩:=h.form;obtain⟨A2,c2,rfl,hc2,hm2⟩:=h2.form;have hA:=((Below.refl w.heap.size w).al (.cells #[.slice A rows.length c] 32));have hz:w.heap.size+1≤(w.alloc (.cells #[.slice A rows.length c] 32)).drew.heap.size:=(by simp);have hp0:w.heap.size<w.heap.size+1:=(by omega);have Bacc:=hA.drew;have HR:=Lib.hid h;have HL:=Lib.hid h2;clear h h2;rcases hpt:isPartial rows l with _|_
 · have e : isTiling rows l = false := by unfold isTiling; rw [hpt]; rfl
   rw[e];have Hpt:=Lib.hid hpt;clear hpt e;go_enter Tryz.func115,Tryz.ntmps115
   go_wp2_with fail
   refine rB (fun w'=>w'.cell? ⟨w.heap.size,0,none⟩=some (.slice A rows.length c)) fun hHeld=>(tW 0)<|(tW 1)<|(tR [2])<|tL fun K hK=>?_
   go_simp
   (first|(go_at_call 137;go_must (refine(partI_any _ _ rows l _ (HR.out.below RE.stays Bacc) (HL.out.below RE.stays Bacc)).mono ?_;rintro e wX ⟨rfl,hbX⟩;rw[Hpt.out];obtain⟨hcX,hfX,hzX⟩:=bkn hbX (w.heap.size+1) hz;have hz:=hzX;have Bacc:=Bacc.tr hbX);(try go_wp2_with fail)))
   refine tK hK fun hHeld=>?_
   clear hK K;refine(tW 3)<|(tU 4)<|(tU 5)<|(tU 6)<|(tU 7)<|(tU 8)<|(tW 9)<|(tW 10)<|tD ?_;go_wp2;go_ret;exact⟨rfl,Bacc⟩
 · have ho:=(isPartial_ok hpt).1;have hs:=setOf_lt ho;have e:=isTiling_cover hpt
   have e2:(((coverGo 0 l:Nat):Int)==((setOf rows:Nat):Int))=isTiling rows l:=by
    rw[e,Bool.eq_iff_iff,beq_iff_eq,decide_eq_true_iff];omega
   obtain⟨R,hR⟩:∃R,R=isTiling rows l:=⟨_,rfl⟩;obtain⟨S,hS⟩:∃S,S=coverGo 0 l:=⟨_,rfl⟩;obtain⟨T,hT⟩:∃T,T=setOf rows:=⟨_,rfl⟩;rw[←hR,←hS,←hT]at e2;rw[←hR];have Hok:=Lib.hid ho;have Hpt:=Lib.hid hpt;have HS:=Lib.hid hS;have HT:=Lib.hid hT;clear ho hpt e hR hS hT hs;go_enter Tryz.func115,Tryz.ntmps115
   go_wp2_with fail
   refine rB (fun w'=>w'.cell? ⟨w.heap.size,0,none⟩=some (.slice A rows.length c)) fun hHeld=>(tW 0)<|(tW 1)<|(tR [2])<|tL fun K hK=>?_
   go_simp
   (first|(go_at_call 137;go_must (refine(partI_any _ _ rows l _ (HR.out.below RE.stays Bacc) (HL.out.below RE.stays Bacc)).mono ?_;rintro e wX ⟨rfl,hbX⟩;rw[Hpt.out];obtain⟨hcX,hfX,hzX⟩:=bkn hbX (w.heap.size+1) hz;have hz:=hzX;have Bacc:=Bacc.tr hbX);(try go_wp2_with fail))|(go_at_call 195;go_must (refine(coveredI_any _ l _ (HL.out.below RE.stays Bacc)).mono ?_;rintro e wX ⟨rfl,hbX⟩;rw[←HS.out];obtain⟨hcX,hfX,hzX⟩:=bkn hbX (w.heap.size+1) hz;have hz:=hzX;have Bacc:=Bacc.tr hbX);(try go_wp2_with fail))|(go_at_call 138;go_must (refine(setI_any _ rows _ (HR.out.below RE.stays Bacc) Hok).mono ?_;rintro e wX ⟨rfl,hbX⟩;rw[←HT.out];obtain⟨hcX,hfX,hzX⟩:=bkn hbX (w.heap.size+1) hz;have hz:=hzX;have Bacc:=Bacc.tr hbX);(try go_wp2_with fail)))
   refine tK hK fun hHeld=>?_
   clear hK K;refine(tW 3)<|(tW 4)<|(tW 6)<|(tR [5])<|tL fun K hK=>?_
   go_simp
   (first|(go_at_call 137;go_must (refine(partI_any _ _ rows l _ (HR.out.below RE.stays Bacc) (HL.out.below RE.stays Bacc)).mono ?_;rintro e wX ⟨rfl,hbX⟩;rw[Hpt.out];obtain⟨hcX,hfX,hzX⟩:=bkn hbX (w.heap.size+1) hz;have hz:=hzX;have Bacc:=Bacc.tr hbX);(try go_wp2_with fail))|(go_at_call 195;go_must (refine(coveredI_any _ l _ (HL.out.below RE.stays Bacc)).mono ?_;rintro e wX ⟨rfl,hbX⟩;rw[←HS.out];obtain⟨hcX,hfX,hzX⟩:=bkn hbX (w.heap.size+1) hz;have hz:=hzX;have Bacc:=Bacc.tr hbX);(try go_wp2_with fail))|(go_at_call 138;go_must (refine(setI_any _ rows _ (HR.out.below RE.stays Bacc) Hok).mono ?_;rintro e wX ⟨rfl,hbX⟩;rw[←HT.out];obtain⟨hcX,hfX,hzX⟩:=bkn hbX (w.heap.size+1) hz;have hz:=hzX;have Bacc:=Bacc.tr hbX);(try go_wp2_with fail)))
   refine tK hK fun hHeld=>?_
   clear hK K;refine(tR [7])<|tL fun K hK=>?_
   go_simp
   (first|(go_at_call 137;go_must (refine(partI_any _ _ rows l _ (HR.out.below RE.stays Bacc) (HL.out.below RE.stays Bacc)).mono ?_;rintro e wX ⟨rfl,hbX⟩;rw[Hpt.out];obtain⟨hcX,hfX,hzX⟩:=bkn hbX (w.heap.size+1) hz;have hz:=hzX;have Bacc:=Bacc.tr hbX);(try go_wp2_with fail))|(go_at_call 195;go_must (refine(coveredI_any _ l _ (HL.out.below RE.stays Bacc)).mono ?_;rintro e wX ⟨rfl,hbX⟩;rw[←HS.out];obtain⟨hcX,hfX,hzX⟩:=bkn hbX (w.heap.size+1) hz;have hz:=hzX;have Bacc:=Bacc.tr hbX);(try go_wp2_with fail))|(go_at_call 138;go_must (refine(setI_any _ rows _ (HR.out.below RE.stays Bacc) Hok).mono ?_;rintro e wX ⟨rfl,hbX⟩;rw[←HT.out];obtain⟨hcX,hfX,hzX⟩:=bkn hbX (w.heap.size+1) hz;have hz:=hzX;have Bacc:=Bacc.tr hbX);(try go_wp2_with fail)))
   refine tK hK fun hHeld=>?_
   clear hK K;refine(tW 8)<|(tW 9)<|(tW 10)<|tD ?_
   all_goals
     go_wp2;go_ret;exact⟨retB (by first|exact e2|(simp;done)|simpa using e2),Bacc⟩
theorem cellsOfS_any (v:Value) (rows:List Int) (w:World) (h:Rd 1 RInt w v rows):Calls Tryz.prog 132 #[.agg #[v]] w (RetOwn 77 2 ePair (regCells rows) w):=by
 obtain⟨A,c,rfl,hc,hm⟩:=h.form;have hA:=(Below.refl w.heap.size w).al (.cells #[.slice A rows.length c] 32);have bX:=Blk.new_ w 32 #[.slice A rows.length c];have h':=h.below RE.stays hA;rcases hr:regionOk rows with _|_
 · have e : regCells rows = [] := by unfold regCells; rw [hr]; rfl
   rw[e];go_enter Tryz.func132,Tryz.ntmps132
   go_wp2;go_loopw [3,4] (fun s3 s4 wr=>s4= .int .i64 0∧s3= .slice (some ⟨w.heap.size+1,0,none⟩) 0 0∧OwnL 77 2 ePair w.heap.size wr (.slice (some ⟨w.heap.size+1,0,none⟩) 0 0) ([]:List Cl)∧Below (w.alloc (.cells #[.slice A rows.length c] 32)).heap.size (w.alloc (.cells #[.slice A rows.length c] 32)) wr) (fun _ _ _=>0)
   case atStart=>exact⟨rfl,rfl,own_mt (w.alloc (.cells #[.slice A rows.length c] 32)) (w.heap.size+1) (by simp) _ (by simp),(Below.refl _ _).al _⟩
   case round=>
    obtain⟨rfl,rfl,hown,hbel⟩:=hrel;have zx:=(bX.bl hbel).c1;go_wp2_with fail
    refine(regionOkS_any _ rows _ (h'.below RE.stays hbel)).mono ?_;rintro e w1 ⟨rfl,hb1⟩;rw[hr];go_wp2;go_ret;exact⟨_,_,rfl,hown.below hb1,(hA.tr hbel).tr hb1⟩
 · have e : regCells rows = cellsTo (setOf rows) 64 := by unfold regCells; rw [hr]; rfl
   rw[e];have hok:=regionOk_iff.1 hr;have Hok:=Lib.hid hok;have Hr:=Lib.hid hr;clear hok e hr;obtain⟨s,hse⟩:∃s,s=setOf rows:=⟨_,rfl⟩;rw[←hse];have Hse:=Lib.hid hse;clear hse;go_enter Tryz.func132,Tryz.ntmps132
   go_wp2;go_loopw [3,4] (fun s3 s4 wr=>∃(k:Nat) (A3:Option Addr) (c3:Nat),k≤64∧s4= .int .i64 k∧s3= .slice A3 (cellsTo s k).length c3∧OwnL 77 2 ePair (w.alloc (.cells #[.slice A rows.length c] 32)).heap.size wr (.slice A3 (cellsTo s k).length c3) (cellsTo s k)∧Below (w.alloc (.cells #[.slice A rows.length c] 32)).heap.size (w.alloc (.cells #[.slice A rows.length c] 32)) wr) (fun _ i _=>64-(intOf i).toNat)
   case atStart=>exact⟨0,_,_,by omega,rfl,rfl,own_mt (w.alloc (.cells #[.slice A rows.length c] 32)) (w.heap.size+1) (by simp) _ (Nat.le_refl _),(Below.refl _ _).al _⟩
   case round=>
    obtain⟨k,A3,c3,hk,rfl,rfl,hown,hbel⟩:=hrel;have zx:=(bX.bl hbel).c1;by_cases hlt:k<64
    · have hle:=cellsTo_le s k;have hsucc:=cellsTo_succ s k;obtain⟨x,hx⟩:∃x,x=k%8:=⟨_,rfl⟩;obtain⟨y,hy⟩:∃y,y=k/8:=⟨_,rfl⟩;have hx8:x<8:=(by omega);have hy8:y<8:=(by omega);have hk8:8*y+x=k:=(by omega);have hix:ixCell k=((x:Int),(y:Int)):=by unfold ixCell;simp only[Prod.mk.injEq];omega
      obtain⟨cs,hcs⟩:∃cs,cs=cellsTo s k:=⟨_,rfl⟩;rw[←hcs]at hle hsucc hown⊢;rw[hix]at hsucc;have H8:Hid ((cs.length+1)*16≤140737488355328):=Lib.hid (by omega);have HM:Hid (cs.length+1≤maxLen):=Lib.hid (by unfold maxLen;omega);have Hk8:=Lib.hid hk8;have Hx:=Lib.hid hx;have Hy:=Lib.hid hy;have Hsucc:=Lib.hid hsucc;have Hcs:=Lib.hid hcs;clear hsucc hcs hx hy hix hk8;go_wp2_with fail
      refine(regionOkS_any _ rows _ (h'.below RE.stays hbel)).mono ?_;rintro e w1 ⟨rfl,hb1⟩;rw[Hr.out];go_wp2_with fail
      refine(cellAtS_n2 k x y _ hlt Hx.out Hy.out).mono ?_;rintro e w2 ⟨rfl,hb2⟩;have B2:=((hbel.tr hb1).tr hb2).al (.cells #[.int .i64 x,.int .i64 y] 77);have bC:=Blk.new_ w2 77 #[.int .i64 x,.int .i64 y];have own2:=((hown.below hb1).below hb2).alloc (.cells #[.int .i64 x,.int .i64 y] 77);clear zx;have zx:=(bX.bl B2).c1;have zc0:=bC.cell 0;have zc1:=bC.cell 1;simp only[List.getElem?_toArray,List.getElem?_cons_zero,List.getElem?_cons_succ]at zc0 zc1;go_wp2_with fail
      refine(l03HasS_yes _ rows x y _ (h'.below RE.stays B2) Hok hx8 hy8).mono ?_;rintro e w3 ⟨rfl,hb3⟩;rw[←Hse.out,Hk8.out];have bC3:=bC.bl hb3;have B3:=B2.tr hb3;have own3:=own2.below hb3;rcases hb:s.testBit k with _|_
      · have e : cellsTo s (k + 1) = cs := by rw [Hsucc.out, if_neg (by rw [hb]; simp)]; simp
        have E:=Lib.hid e;have Hb:=Lib.hid hb;clear e hb;go_wp2;go_roundw
        case rel=>exact⟨k+1,A3,c3,by omega,by go_num,by rw[E.out],by rw[E.out];exact own3,B3⟩
        case measure=>simp[intOf];omega
      · have e : cellsTo s (k + 1) = cs ++ [((x : Int), (y : Int))] := by rw [Hsucc.out, if_pos hb]
        have E:=Lib.hid e;have Hb:=Lib.hid hb;clear e hb;clear zc0 zc1;have zc0:=bC3.cell 0;have zc1:=bC3.cell 1;simp only[List.getElem?_toArray,List.getElem?_cons_zero,List.getElem?_cons_succ]at zc0 zc1;go_wp2_with (at_builtin;go_must (refine wpList_app1 (enc:=ePair) rowCell lenCell oneCell B3 own3 (((x:Int),(y:Int)):Cl) H8.out HM.out rfl _ _ rfl rfl rfl ?_);intro v4 w4 own4 hb4 hg4 hd4;obtain⟨A4,c4,rfl,hc4,hm4⟩:=own4.form)
        go_roundw
        case rel=>exact⟨k+1,A4,c4,by omega,by go_num,by rw[E.out];simp,by rw[E.out];exact own4,hb4⟩
        case measure=>simp[intOf];omega
    · obtain rfl : k = 64 := by omega
      go_wp2;go_ret;exact⟨A3,c3,rfl,hown.mono hA.size,hA.tr hbel⟩
theorem countCellsS_any (v:Value) (rows:List Int) (w:World) (h:Rd 1 RInt w v rows):Calls Tryz.prog 63 #[.agg #[v]] w (Ret (.int .i64 (regCells rows).length) w):=by
 obtain⟨A,c,rfl,hc,hm⟩:=h.form;have hA:=(Below.refl w.heap.size w).al (.cells #[.slice A rows.length c] 32);go_enter Tryz.func63,Tryz.ntmps63
 go_wp2_with fail
 refine(cellsOfS_any _ rows _ (h.below RE.stays hA)).mono ?_;rintro e w1 ⟨A1,c1,rfl,own1,hb1⟩;go_wp2;go_ret;exact⟨rfl,hA.tr hb1⟩
theorem tilingS_any (v u:Value) (rows:List Int) (l:List Dm) (w:World) (h:Rd 1 RInt w v rows) (h2:Rd 3 RDom w u l):Calls Tryz.prog 59 #[.agg #[v],u] w (Ret (.bool (isTiling rows l)) w):=by
 obtain⟨A,c,rfl,hc,hm⟩:=h.form;obtain⟨A2,c2,rfl,hc2,hm2⟩:=h2.form;have hA:=((Below.refl w.heap.size w).al (.cells #[.slice A rows.length c] 32));have bX:=Blk.new_ w 32 #[.slice A rows.length c];rcases hpt:isPartial rows l with _|_
 · have e : isTiling rows l = false := by unfold isTiling; rw [hpt]; rfl
   rw[e];have Hpt:=Lib.hid hpt;clear hpt e;go_enter Tryz.func59,Tryz.ntmps59
   go_wp2_with fail
   refine(partS_any _ _ rows l _ (h.below RE.stays hA) (h2.below RE.stays hA)).mono ?_;rintro e w1 ⟨rfl,hb1⟩;rw[Hpt.out];go_wp2;go_ret;exact⟨rfl,hA.tr hb1⟩
 · have ho:=(isPartial_ok hpt).1;have hlen:=partGo_len (setOf_lt ho) (isPartial_ok hpt).2;have hle:=regCells_le rows
   have e:isTiling rows l=((2*(l.length:Int))==((regCells rows).length:Int)):=by
    unfold isTiling;rw[hpt,Bool.true_and,Bool.eq_iff_iff,beq_iff_eq,decide_eq_true_iff];omega
   obtain⟨N,hN⟩:∃N,N=(regCells rows).length:=⟨_,rfl⟩;rw[←hN]at e hle;rw[e];have Hpt:=Lib.hid hpt;have HN:=Lib.hid hN;clear hpt e hN ho;have hw2:IntKind.i64.wrap (2*(l.length:Int))=2*(l.length:Int):=IntWalk.i64_in _ (by omega);go_enter Tryz.func59,Tryz.ntmps59
   go_wp2_with fail
   refine(partS_any _ _ rows l _ (h.below RE.stays hA) (h2.below RE.stays hA)).mono ?_;rintro e w1 ⟨rfl,hb1⟩;rw[Hpt.out];have zx:=(bX.bl hb1).c1;go_wp2_with fail
   refine(countCellsS_any _ rows _ ((h.below RE.stays hA).below RE.stays hb1)).mono ?_;rintro e w2 ⟨rfl,hb2⟩;rw[←HN.out];go_wp2;go_ret;exact⟨rfl,(hA.tr hb1).tr hb2⟩
end Go.Proofs.YtfdbcihcdjjdhaaGreatDoor
namespace Go.Proofs.YtfdbcihcdjjdhaaGreatDoor
open Go.ChangeShapes Go.WideShapes Go.ChangeAt Go.RowKit
set_option linter.unusedVariables false
set_option maxHeartbeats 4000000
set_option maxRecDepth 100000
def insD (d:Dm):List Dm→List Dm
  |[]=>[d]
  |e::r=>if domOrd e<domOrd d then e::insD d r else if e=d then e::r else d::e::r
def sortStep (out:List Dm) (d:Dm):List Dm:=if domOk d then insD d out else out
def sortGo (out l:List Dm):List Dm:=l.foldl sortStep out
def sortD (l:List Dm):List Dm:=sortGo [] l
def Sorted (l:List Dm):Prop:=(∀d∈l,domOk d=true)∧l.Pairwise fun a b=>domOrd a<domOrd b
theorem domOrd_inj {a b:Dm} (ha:domOk a=true) (hb:domOk b=true) (h:domOrd a=domOrd b):a=b:=by
 obtain⟨a1,a2,a3⟩:=a;obtain⟨b1,b2,b3⟩:=b;have A:=domOk_fst ha;have B:=domOk_fst hb;simp only at A B;unfold domOrd at h;simp only at h
 have e3:a3=b3:=by
  cases a3<;>cases b3<;>simp at h⊢<;>omega
 subst e3;have e2:a2=b2:=(by omega);subst e2;have e1:a1=b1:=(by omega);subst e1;rfl
def posD (d:Dm) (l:List Dm):Nat:=(l.takeWhile fun e=>decide (domOrd e<domOrd d)).length
theorem posD_le (d:Dm):∀l:List Dm,posD d l≤l.length
  |[]=>by simp[posD]
  | e :: r => by
   have:=posD_le d r;unfold posD at*;rw[List.takeWhile_cons];split<;>simp<;>omega
theorem posD_cons (d e:Dm) (r:List Dm):posD d (e::r)=if domOrd e<domOrd d then posD d r+1 else 0:=by
 unfold posD;rw[List.takeWhile_cons];by_cases h:domOrd e<domOrd d<;>simp[h]
theorem posD_lt (d:Dm):∀(l:List Dm) (k:Nat) (h:k<l.length),k<posD d l→domOrd l[k]<domOrd d
  |[],k,h,_=>by simp at h
  | e :: r, k, h, hk => by
   rw[posD_cons]at hk;split at hk
   · cases k with
     |zero=>simpa
     |succ k=>simp only[List.getElem_cons_succ];exact posD_lt d r k (by simpa using h) (by omega)
   · omega
theorem posD_at (d:Dm):∀(l:List Dm) (h:posD d l<l.length),¬domOrd l[posD d l]<domOrd d
  |[],h=>by simp at h
  | e :: r, h => by
   by_cases q:domOrd e<domOrd d
   · have e1 : posD d (e :: r) = posD d r + 1 := by rw [posD_cons, if_pos q]
     simp only[e1,List.getElem_cons_succ];exact posD_at d r (by rw[e1]at h;simpa using h)
   · have e1 : posD d (e :: r) = 0 := by rw [posD_cons, if_neg q]
     simp only[e1,List.getElem_cons_zero];exact q
theorem insD_pos (d:Dm):∀l:List Dm,insD d l=if l[posD d l]? =some d then l else l.take (posD d l)++d::l.drop (posD d l)
  |[]=>by simp[insD,posD]
  | e :: r => by
   unfold insD;by_cases q:domOrd e<domOrd d
   · rw[if_pos q,posD_cons,if_pos q,insD_pos d r];simp only[List.getElem?_cons_succ,List.take_succ_cons,List.drop_succ_cons];split<;>rfl
   · rw[if_neg q,posD_cons,if_neg q];simp only[List.getElem?_cons_zero,List.take_zero,List.drop_zero,List.nil_append,Option.some.injEq]
theorem insD_mem (d:Dm):∀(l:List Dm) (x:Dm),x∈insD d l↔x=d∨x∈l
  |[],x=>by simp[insD]
  | e :: r, x => by
   unfold insD;split
   · rw[List.mem_cons,insD_mem d r,List.mem_cons];constructor<;>rintro(h|h|h)<;>simp[h]
   · split
     · rename_i h;subst h;simp
     · simp
theorem sorted_ins {d:Dm} (hd:domOk d=true):∀{l:List Dm},Sorted l→Sorted (insD d l)
  |[],h=>⟨fun x hx=>by simp[insD]at hx;rw[hx];exact hd,by simp[insD]⟩
  | e :: r, h => by
   have hr:Sorted r:=⟨fun x hx=>h.1 x (List.mem_cons_of_mem _ hx),(List.pairwise_cons.1 h.2).2⟩;have he:=h.1 e (List.mem_cons_self ..);have hep:=(List.pairwise_cons.1 h.2).1;have ih:=sorted_ins hd hr;unfold insD;split
   · rename_i q;refine⟨fun x hx=> ?_,List.pairwise_cons.2 ⟨fun x hx=> ?_,ih.2⟩⟩
     · rcases List.mem_cons.1 hx with rfl|hx
       · exact he
       · exact ih.1 x hx
     · rcases(insD_mem d r x).1 hx with rfl|hx
       · exact q
       · exact hep x hx
   · rename_i q;split
     · exact h
     · rename_i q2;have hne:domOrd e≠domOrd d:=fun h'=>q2 (domOrd_inj he hd h')
       refine⟨fun x hx=> ?_,List.pairwise_cons.2 ⟨fun x hx=> ?_,h.2⟩⟩
       · rcases List.mem_cons.1 hx with rfl|hx
         · exact hd
         · exact h.1 x hx
       · rcases List.mem_cons.1 hx with rfl|hx
         · omega
         · have:=hep x hx;omega
theorem sorted_step {out:List Dm} (h:Sorted out) (d:Dm):Sorted (sortStep out d):=by
 unfold sortStep;split
 · rename_i q;exact sorted_ins q h
 · exact h
theorem sorted_go:∀(l:List Dm) {out:List Dm},Sorted out→Sorted (sortGo out l)
  |[],out,h=>h
  |d::r,out,h=>sorted_go r (sorted_step h d)
theorem sorted_nil:Sorted []:=⟨by simp,List.Pairwise.nil⟩
theorem sorted_sortD (l:List Dm):Sorted (sortD l):=sorted_go l sorted_nil
theorem len_pairwise:∀(l:List Int) (n:Nat),l.Pairwise (· <·)→(∀x∈l,(128:Int)-n≤x∧x<128)→l.length≤n
  |[],n,_,_=>by simp
  | x :: r, n, hp, hb => by
   have h1:=hb x (List.mem_cons_self ..);cases n with
   |zero=>omega
   |succ n=>
    have := len_pairwise r n (List.pairwise_cons.1 hp).2 (fun y hy => by
     have h2:=hb y (List.mem_cons_of_mem _ hy);have h3:=(List.pairwise_cons.1 hp).1 y hy;omega)
    simp;omega
theorem sorted_len {l:List Dm} (h:Sorted l):l.length≤128:=by
 have := len_pairwise (l.map domOrd) 128 (List.pairwise_map.2 h.2) (fun x hx => by
  obtain⟨d,hd,rfl⟩:=List.mem_map.1 hx;have:=domOrd_in (h.1 d hd);omega)
 simpa using this
theorem sorted_pos {l:List Dm} (h:Sorted l) {d:Dm} {k:Nat} (hk:k<l.length):domOrd l[k]<domOrd d↔k<posD d l:=by
 constructor
 · intro q;by_cases hn:k<posD d l
   · exact hn
   · exfalso;have hp:posD d l<l.length:=(by omega);have:=posD_at d l hp;by_cases e:posD d l=k
     · subst e;exact this q
     · have:=List.pairwise_iff_getElem.1 h.2 _ _ hp hk (by omega);omega
 · exact posD_lt d l k hk
theorem sorted_back {l:List Dm} (h:Sorted l) {d:Dm} (hd:domOk d=true) {k:Nat} (hk:k<l.length):(domOrd l[k]>domOrd d)↔(if l[posD d l]? =some d then posD d l+1 else posD d l)≤k:=by
 by_cases q:l[posD d l]? =some d
 · rw[if_pos q];obtain⟨hp,e⟩:=List.getElem?_eq_some_iff.1 q;constructor
   · intro hgt;by_cases hn:posD d l+1≤k
     · exact hn
     · exfalso;by_cases e2:k=posD d l
       · subst e2;rw[e]at hgt;omega
       · have:=posD_lt d l k hk (by omega);omega
   · intro hle;have:=List.pairwise_iff_getElem.1 h.2 _ _ hp hk (by omega);rw[e]at this;omega
 · rw[if_neg q];constructor
   · intro hgt;by_cases hn:posD d l≤k
     · exact hn
     · have:=posD_lt d l k hk (by omega);omega
   · intro hle;have hp:posD d l<l.length:=(by omega);have h1:=posD_at d l hp
     have hne:domOrd l[posD d l]≠domOrd d:=by
      intro e;apply q;rw[List.getElem?_eq_getElem hp,domOrd_inj (h.1 _ (List.getElem_mem hp)) hd e]
     by_cases e2:k=posD d l
     · subst e2;omega
     · have:=List.pairwise_iff_getElem.1 h.2 _ _ hp hk (by omega);omega
def accOf (c:Cl):Dm×Dm:=((c.1,c.2,false),(c.1,c.2+1,false))
def dwnOf (c:Cl):Dm×Dm:=((c.1,c.2,true),(c.1+1,c.2,true))
def inFlip (c:Cl):Bool:=decide (0≤c.1∧c.1≤6)&&decide (0≤c.2∧c.2≤6)
def hasBoth (l:List Dm) (p:Dm×Dm):Bool:=l.contains p.1&&l.contains p.2
def kindOf (l:List Dm) (c:Cl):Nat:=if inFlip c then(if hasBoth l (accOf c)then 1 else if hasBoth l (dwnOf c)then 2 else 0)else 0
def goneOf (k:Nat) (c:Cl):Dm×Dm:=if k=1 then accOf c else dwnOf c
def nextOf (k:Nat) (c:Cl):Dm×Dm:=if k=1 then dwnOf c else accOf c
def keepD (g:Dm×Dm) (d:Dm):Bool:= !(decide (d=g.1)||decide (d=g.2))
def flipPre (l:List Dm) (g n:Dm×Dm):List Dm:=[n.1,n.2]++l.filter (keepD g)
def flipTo (l:List Dm) (c:Cl):List Dm:=sortD (flipPre l (goneOf (kindOf l c) c) (nextOf (kindOf l c) c))
def flipAt (l:List Dm) (c:Cl):List Dm×Bool:=if kindOf l c=0 then(l,false)else(flipTo l c,true)
theorem kindOf_le (l:List Dm) (c:Cl):kindOf l c≤2:=by unfold kindOf;split<;>(try split)<;>(try split)<;>omega
theorem flipTo_len (l:List Dm) (c:Cl):(flipTo l c).length≤128:=sorted_len (sorted_sortD _)
def flipGo (l:List Dm):List Cl→Option (List Dm)
  |[]=>some l
  |c::r=>if kindOf l c=0 then none else flipGo (flipTo l c) r
def flipAll (l:List Dm) (cs:List Cl):List Dm×Bool:=if cs.length>200 then(l,false)else match flipGo l cs with|none=>(l,false)|some m=>(m,true)
def floorOk (rows:List Int) (f n:List Dm) (cs:List Cl):Bool:=isTiling rows f&&decide (cs.length≤60)&&(flipAll f cs).2&&decide ((flipAll f cs).1=n)
def Apart (a b:Dm):Prop:=∀j,(domSet a).testBit j=true→(domSet b).testBit j=false
def In (s:Nat) (d:Dm):Prop:=domOk d=true∧∀j,(domSet d).testBit j=true→s.testBit j=true
def PartOk (s:Nat) (l:List Dm):Prop:=(∀d∈l,In s d)∧(l.Pairwise fun a b=>domOrd a<domOrd b)∧l.Pairwise Apart
theorem PartOk.tail {s:Nat} {d:Dm} {l:List Dm} (h:PartOk s (d::l)):PartOk s l:=
 ⟨fun e he=>h.1 e (List.mem_cons_of_mem _ he),(List.pairwise_cons.1 h.2.1).2,(List.pairwise_cons.1 h.2.2).2⟩
theorem and_eq_of_sub {a b:Nat} (h:∀j,b.testBit j=true→a.testBit j=true):a&&&b=b:=by
 apply Nat.eq_of_testBit_eq;intro j;rw[Nat.testBit_and];rcases q:b.testBit j with _|_
 · simp
 · rw[h j q];rfl
theorem PartOk.less {s:Nat} (hs:s<U64) {d:Dm} {l:List Dm} (h:PartOk s (d::l)):PartOk (sDiff s (domSet d)) l:=by
 refine⟨fun e he=> ?_,h.tail.2⟩;obtain⟨e1,e2⟩:=h.tail.1 e he;refine⟨e1,fun j hj=> ?_⟩;rw[sDiff_bit hs (domSet_lt (h.1 d (List.mem_cons_self ..)).1),e2 j hj,Bool.true_and,Bool.not_eq_true'];rcases q:(domSet d).testBit j with _|_
 · rfl
 · have:=(List.pairwise_cons.1 h.2.2).1 e he j q;rw[hj]at this;cases this
theorem partGo_of:∀{l:List Dm} {s:Nat} {p:Option Dm},s<U64→PartOk s l→(∀e,p=some e→∀d,l.head? =some d→domOrd e<domOrd d)→partGo s p l=true
  |[],s,p,_,_,_=>rfl
  | d :: r, s, p, hs, h, hp => by
   obtain⟨d1,d2⟩:=h.1 d (List.mem_cons_self ..)
   have ih := partGo_of (p := some d) (sDiff_lt hs) (h.less hs) (fun e he d' hd' => by
    cases he;cases r with
    |nil=>cases hd'
    |cons x y=>injection hd' with hd';subst hd';exact(List.pairwise_cons.1 h.2.1).1 _ (List.mem_cons_self ..))
   rw[partGo_cons,d1,ih,decide_eq_true (and_eq_of_sub d2)];cases p with
   |none=>rfl
   |some e=>simp only[goodPrev,Bool.true_and,Bool.and_true,decide_eq_true_eq];exact hp e rfl d rfl
theorem partGo_to:∀{l:List Dm} {s:Nat} {p:Option Dm},s<U64→partGo s p l=true→PartOk s l∧∀e,p=some e→∀d∈l,domOrd e<domOrd d
  |[],s,p,_,_=>⟨⟨by simp,List.Pairwise.nil,List.Pairwise.nil⟩,by simp⟩
  | d :: r, s, p, hs, h => by
   obtain⟨d1,d2,d3⟩:=partGo_split h;obtain⟨⟨a,b,c⟩,f⟩:=partGo_to (sDiff_lt hs) d3;have hd:=domSet_lt d1;refine⟨⟨fun e he=> ?_,List.pairwise_cons.2 ⟨fun e he=>f d rfl e he,b⟩,List.pairwise_cons.2 ⟨fun e he j hj=> ?_,c⟩⟩,?_⟩
   · rcases List.mem_cons.1 he with rfl|he
     · exact⟨d1,fun j hj=>and_sub d2 j hj⟩
     · refine ⟨(a e he).1, fun j hj => ?_⟩;have:=(a e he).2 j hj;rw[sDiff_bit hs hd,Bool.and_eq_true]at this;exact this.1
   · rcases q:(domSet e).testBit j with _|_
     · rfl
     · have:=(a e he).2 j q;rw[sDiff_bit hs hd,hj]at this;simp at this
   · intro e he x hx;subst he;rw[partGo_cons]at h;simp only[Bool.and_eq_true,goodPrev,decide_eq_true_eq]at h;have h1:=h.1.2;rcases List.mem_cons.1 hx with rfl|hx
     · exact h1
     · have:=f d rfl x hx;omega
theorem isPartial_iff {rows:List Int} {l:List Dm}:isPartial rows l=true↔RowsOk rows∧PartOk (setOf rows) l:=by
 constructor
 · intro h;obtain⟨a,b⟩:=isPartial_ok h;exact⟨a,(partGo_to (setOf_lt a) b).1⟩
 · rintro⟨a,b⟩;unfold isPartial;rw[regionOk_iff.2 a,partGo_of (setOf_lt a) b (by simp)];rfl
theorem sorted_eq : ∀ {l m : List Dm}, l.Pairwise (fun a b => domOrd a < domOrd b) → m.Pairwise (fun a b => domOrd a < domOrd b) → (∀ d, d ∈ l ↔ d ∈ m) → l = m
  |[],[],_,_,_=>rfl
  |[],d::m,_,_,h=>by have:=(h d).2 (List.mem_cons_self ..);cases this
  |d::l,[],_,_,h=>by have:=(h d).1 (List.mem_cons_self ..);cases this
  | d :: l, e :: m, hl, hm, h => by
   have hl2:=List.pairwise_cons.1 hl;have hm2:=List.pairwise_cons.1 hm
   have hde:d=e:=by
    rcases List.mem_cons.1 ((h d).1 (List.mem_cons_self ..))with q|q
    · exact q
    · rcases List.mem_cons.1 ((h e).2 (List.mem_cons_self ..))with r|r
      · exact r.symm
      · have a:=hm2.1 d q;have b:=hl2.1 e r;omega
   subst hde;congr 1
   refine sorted_eq hl2.2 hm2.2 (fun x=> ?_);have hx:=h x;rw[List.mem_cons,List.mem_cons]at hx;constructor
   · intro q;rcases hx.1 (.inr q)with r|r
     · subst r;have:=hl2.1 x q;omega
     · exact r
   · intro q;rcases hx.2 (.inr q)with r|r
     · subst r;have:=hm2.1 x q;omega
     · exact r
theorem in_iff {s:Nat} {d:Dm}:In s d↔domOk d=true∧s.testBit (domI d)=true∧s.testBit (domJ d)=true:=by
 constructor
 · rintro⟨a,b⟩;exact⟨a,b _ (by rw[domSet_bit a];simp),b _ (by rw[domSet_bit a];simp)⟩
 · rintro⟨a,b,c⟩;refine⟨a,fun j hj=> ?_⟩;rw[domSet_bit a,Bool.or_eq_true,decide_eq_true_eq,decide_eq_true_eq]at hj;rcases hj with rfl|rfl
   · exact b
   · exact c
theorem apart_comm {a b : Dm} (h : Apart a b) : Apart b a := fun j hj => by
 rcases q:(domSet a).testBit j with _|_
 · rfl
 · rw[h j q]at hj;cases hj
theorem PartOk.apart {s:Nat} {l:List Dm} (h:PartOk s l) {a b:Dm} (ha:a∈l) (hb:b∈l) (hne:a≠b):Apart a b:=by
 have:∀{m:List Dm},m.Pairwise Apart→a∈m→b∈m→Apart a b:=by
  intro m;induction m with
  |nil=>intro _ h;cases h
  |cons x m ih=>
   intro hp h1 h2;obtain⟨p1,p2⟩:=List.pairwise_cons.1 hp;rcases List.mem_cons.1 h1 with e1|h1'
   · rcases List.mem_cons.1 h2 with e|h2'
     · exact absurd (e1.trans e.symm) hne
     · rw[e1];exact p1 b h2'
   · rcases List.mem_cons.1 h2 with e|h2'
     · rw[e];exact apart_comm (p1 a h1')
     · exact ih p2 h1' h2'
 exact this h.2.2 ha hb
theorem sortGo_mem:∀(l out:List Dm) (x:Dm),x∈sortGo out l↔x∈out∨(x∈l∧domOk x=true)
  |[],out,x=>by simp[sortGo]
  | d :: r, out, x => by
   have e:sortGo out (d::r)=sortGo (sortStep out d) r:=rfl;rw[e,sortGo_mem r];unfold sortStep;by_cases q:domOk d=true
   · rw[if_pos q,insD_mem];constructor
     · rintro((rfl|h)|⟨h,k⟩)
       · exact .inr ⟨List.mem_cons_self ..,q⟩
       · exact .inl h
       · exact .inr ⟨List.mem_cons_of_mem _ h,k⟩
     · rintro(h|⟨h,k⟩)
       · exact .inl (.inr h)
       · rcases List.mem_cons.1 h with rfl|h
         · exact .inl (.inl rfl)
         · exact .inr ⟨h,k⟩
   · rw[if_neg q];constructor
     · rintro(h|⟨h,k⟩)
       · exact .inl h
       · exact .inr ⟨List.mem_cons_of_mem _ h,k⟩
     · rintro(h|⟨h,k⟩)
       · exact .inl h
       · rcases List.mem_cons.1 h with rfl|h
         · exact absurd k q
         · exact .inr ⟨h,k⟩
theorem sortD_mem (l:List Dm) (x:Dm):x∈sortD l↔x∈l∧domOk x=true:=by unfold sortD;rw[sortGo_mem];simp
theorem flipPre_mem (l:List Dm) (g n:Dm×Dm) (x:Dm):x∈flipPre l g n↔x=n.1∨x=n.2∨(x∈l∧x≠g.1∧x≠g.2):=by
 unfold flipPre keepD;simp[List.mem_filter]
structure Sq (g n:Dm×Dm):Prop where
  ok:domOk g.1=true∧domOk g.2=true∧domOk n.1=true∧domOk n.2=true
  same:∀j,((domSet g.1).testBit j||(domSet g.2).testBit j)=((domSet n.1).testBit j||(domSet n.2).testBit j)
  apart:Apart g.1 g.2∧Apart n.1 n.2
  meet:¬Apart g.1 n.1∧¬Apart g.1 n.2
  meet':¬Apart g.2 n.1∧¬Apart g.2 n.2
  ne:g.1≠n.1∧g.1≠n.2∧g.2≠n.1∧g.2≠n.2
theorem Sq.symm {g n:Dm×Dm} (h:Sq g n):Sq n g:=
 ⟨⟨h.ok.2.2.1, h.ok.2.2.2, h.ok.1, h.ok.2.1⟩, fun j => (h.same j).symm, ⟨h.apart.2, h.apart.1⟩,
   ⟨fun q=>h.meet.1 (apart_comm q),fun q=>h.meet'.1 (apart_comm q)⟩,⟨fun q=>h.meet.2 (apart_comm q),fun q=>h.meet'.2 (apart_comm q)⟩,
   ⟨h.ne.1.symm,h.ne.2.2.1.symm,h.ne.2.1.symm,h.ne.2.2.2.symm⟩⟩
theorem cov_sq {g n:Dm×Dm} (h:Sq g n) {j:Nat}:((domSet n.1).testBit j=true∨(domSet n.2).testBit j=true)→((domSet g.1).testBit j=true∨(domSet g.2).testBit j=true):=by
 have:=h.same j;rw[←Bool.or_eq_true,←Bool.or_eq_true,this];exact id
theorem flip_sq {s:Nat} {l:List Dm} {g n:Dm×Dm} (h:PartOk s l) (hs:Sq g n) (h1:g.1∈l) (h2:g.2∈l):
 PartOk s (sortD (flipPre l g n))∧(∀x,x∈sortD (flipPre l g n)↔x=n.1∨x=n.2∨(x∈l∧x≠g.1∧x≠g.2))∧n.1∉l∧n.2∉l:=by
 have hm : ∀ x, x ∈ sortD (flipPre l g n) ↔ x = n.1 ∨ x = n.2 ∨ (x ∈ l ∧ x ≠ g.1 ∧ x ≠ g.2) := fun x => by
  rw[sortD_mem,flipPre_mem];constructor
  · exact fun q=>q.1
  · intro q;refine⟨q,?_⟩;rcases q with rfl|rfl|⟨q,_⟩
    · exact hs.ok.2.2.1
    · exact hs.ok.2.2.2
    · exact(h.1 x q).1
 have hsort:=sorted_sortD (flipPre l g n);have hg1:=h.1 _ h1;have hg2:=h.1 _ h2
 have hin : ∀ j, ((domSet n.1).testBit j = true ∨ (domSet n.2).testBit j = true) → s.testBit j = true := fun j hj => by
  rcases cov_sq hs hj with q|q
  · exact hg1.2 j q
  · exact hg2.2 j q
 have hold : ∀ x ∈ l, x ≠ g.1 → x ≠ g.2 → Apart n.1 x ∧ Apart n.2 x := fun x hx e1 e2 => by
  have a1:=h.apart h1 hx (Ne.symm e1);have a2:=h.apart h2 hx (Ne.symm e2);refine⟨fun j hj=> ?_,fun j hj=> ?_⟩
  · rcases cov_sq hs (.inl hj)with q|q
    · exact a1 j q
    · exact a2 j q
  · rcases cov_sq hs (.inr hj)with q|q
    · exact a1 j q
    · exact a2 j q
 have hall:∀x,x∈sortD (flipPre l g n)→∀y,y∈sortD (flipPre l g n)→x≠y→Apart x y:=by
  intro x hx y hy hne;rcases(hm x).1 hx with rfl|rfl|⟨qx,qx1,qx2⟩<;>rcases(hm y).1 hy with rfl|rfl|⟨qy,qy1,qy2⟩
  · exact absurd rfl hne
  · exact hs.apart.2
  · exact(hold y qy qy1 qy2).1
  · exact apart_comm hs.apart.2
  · exact absurd rfl hne
  · exact(hold y qy qy1 qy2).2
  · exact apart_comm (hold x qx qx1 qx2).1
  · exact apart_comm (hold x qx qx1 qx2).2
  · exact h.apart qx qy hne
 refine⟨⟨fun x hx=> ?_,hsort.2,?_⟩,hm,?_,?_⟩
 · rcases(hm x).1 hx with rfl|rfl|⟨q,_⟩
   · exact⟨hs.ok.2.2.1,fun j hj=>hin j (.inl hj)⟩
   · exact⟨hs.ok.2.2.2,fun j hj=>hin j (.inr hj)⟩
   · exact h.1 x q
 · refine List.Pairwise.imp_of_mem (fun {a b} ha hb hab => ?_) hsort.2;exact hall a ha b hb (fun e=>by subst e;omega)
 · intro q;exact hs.meet.1 (h.apart h1 q hs.ne.1)
 · intro q;exact hs.meet.2 (h.apart h1 q hs.ne.2.1)
theorem flip_back {s:Nat} {l:List Dm} {g n:Dm×Dm} (h:PartOk s l) (hs:Sq g n) (h1:g.1∈l) (h2:g.2∈l):
 sortD (flipPre (sortD (flipPre l g n)) n g)=l:=by
 obtain⟨a,b,c,d⟩:=flip_sq h hs h1 h2;obtain⟨a',b',_,_⟩:=flip_sq a hs.symm ((b _).2 (.inl rfl)) ((b _).2 (.inr (.inl rfl)));refine sorted_eq a'.2.1 h.2.1 (fun x=> ?_);rw[b',b];constructor
 · rintro(rfl|rfl|⟨q,q1,q2⟩)
   · exact h1
   · exact h2
   · rcases q with q|q|q
     · exact absurd q q1
     · exact absurd q q2
     · exact q.1
 · intro q;by_cases e1:x=g.1
   · exact .inl e1
   · by_cases e2:x=g.2
     · exact .inr (.inl e2)
     · exact .inr (.inr ⟨.inr (.inr ⟨q,e1,e2⟩),fun e=>c (e▸q),fun e=>d (e▸q)⟩)
theorem ix_of {x y:Int} (h:cellOk (x,y)=true):(cellIx (x,y)).toNat=(y*8+x).toNat:=by rw[(cellIx_in h).1]
theorem sq_acc {c:Cl} (hc:inFlip c=true):Sq (accOf c) (dwnOf c):=by
 obtain⟨x,y⟩:=c;unfold inFlip at hc;rw[Bool.and_eq_true,decide_eq_true_eq,decide_eq_true_eq]at hc;simp only at hc;obtain⟨⟨x0,x1⟩,y0,y1⟩:=hc;have w1:wrap64 (x+1)=x+1:=by unfold wrap64;omega
 have w2:wrap64 (y+1)=y+1:=by unfold wrap64;omega
 have s1:sec (x,y,false)=(x+1,y):=by unfold sec;simp[w1]
 have s2:sec (x,y+1,false)=(x+1,y+1):=by unfold sec;simp[w1]
 have s3:sec (x,y,true)=(x,y+1):=by unfold sec;simp[w2]
 have s4:sec (x+1,y,true)=(x+1,y+1):=by unfold sec;simp[w2]
 have c1:cellOk (x,y)=true:=cellOk_iff.2 (by simp only;omega);have c2:cellOk (x+1,y)=true:=cellOk_iff.2 (by simp only;omega);have c3:cellOk (x,y+1)=true:=cellOk_iff.2 (by simp only;omega);have c4:cellOk (x+1,y+1)=true:=cellOk_iff.2 (by simp only;omega);have d1:domOk (x,y,false)=true:=by unfold domOk;rw[s1];simp[c1,c2]
 have d2:domOk (x,y+1,false)=true:=by unfold domOk;rw[s2];simp[c3,c4]
 have d3:domOk (x,y,true)=true:=by unfold domOk;rw[s3];simp[c1,c3]
 have d4:domOk (x+1,y,true)=true:=by unfold domOk;rw[s4];simp[c2,c4]
 have b1 : ∀ j, (domSet (x, y, false)).testBit j = (decide ((y * 8 + x).toNat = j) || decide ((y * 8 + (x + 1)).toNat = j)) := fun j => by
  rw[domSet_bit d1];unfold domI domJ;rw[s1];simp only;rw[ix_of c1,ix_of c2]
 have b2 : ∀ j, (domSet (x, y + 1, false)).testBit j = (decide (((y + 1) * 8 + x).toNat = j) || decide (((y + 1) * 8 + (x + 1)).toNat = j)) := fun j => by
  rw[domSet_bit d2];unfold domI domJ;rw[s2];simp only;rw[ix_of c3,ix_of c4]
 have b3 : ∀ j, (domSet (x, y, true)).testBit j = (decide ((y * 8 + x).toNat = j) || decide (((y + 1) * 8 + x).toNat = j)) := fun j => by
  rw[domSet_bit d3];unfold domI domJ;rw[s3];simp only;rw[ix_of c1,ix_of c3]
 have b4 : ∀ j, (domSet (x + 1, y, true)).testBit j = (decide ((y * 8 + (x + 1)).toNat = j) || decide (((y + 1) * 8 + (x + 1)).toNat = j)) := fun j => by
  rw[domSet_bit d4];unfold domI domJ;rw[s4];simp only;rw[ix_of c2,ix_of c4]
 have no:∀{a b:Dm} (j:Nat),(domSet a).testBit j=true→(domSet b).testBit j=true→¬Apart a b:=fun j h1 h2 h=>by rw[h j h1]at h2;cases h2
 unfold accOf dwnOf;refine⟨⟨d1,d2,d3,d4⟩,fun j=> ?_,⟨fun j hj=> ?_,fun j hj=> ?_⟩,⟨?_,?_⟩,⟨?_,?_⟩,?_⟩
 · simp only;rw[b1,b2,b3,b4,Bool.eq_iff_iff];simp only[Bool.or_eq_true,decide_eq_true_eq];constructor<;>rintro((h|h)|h|h)<;>simp[h]
 · simp only at hj⊢;rw[b1,Bool.or_eq_true,decide_eq_true_eq,decide_eq_true_eq]at hj;rw[b2,Bool.or_eq_false_iff,decide_eq_false_iff_not,decide_eq_false_iff_not];omega
 · simp only at hj⊢;rw[b3,Bool.or_eq_true,decide_eq_true_eq,decide_eq_true_eq]at hj;rw[b4,Bool.or_eq_false_iff,decide_eq_false_iff_not,decide_eq_false_iff_not];omega
 · exact no (y*8+x).toNat (by rw[b1];simp) (by rw[b3];simp)
 · exact no (y*8+(x+1)).toNat (by rw[b1];simp) (by rw[b4];simp)
 · exact no ((y+1)*8+x).toNat (by rw[b2];simp) (by rw[b3];simp)
 · exact no ((y+1)*8+(x+1)).toNat (by rw[b2];simp) (by rw[b4];simp)
 · simp
theorem kind_in {l:List Dm} {c:Cl} (h:kindOf l c≠0):inFlip c=true:=by
 unfold kindOf at h;rcases q:inFlip c with _|_
 · rw[q]at h;simp at h
 · rfl
theorem kind_sq {l:List Dm} {c:Cl} (h:kindOf l c≠0):Sq (goneOf (kindOf l c) c) (nextOf (kindOf l c) c)∧(goneOf (kindOf l c) c).1∈l∧(goneOf (kindOf l c) c).2∈l:=by
 have hin:=kind_in h;have hsq:=sq_acc hin;have hk:kindOf l c=if hasBoth l (accOf c)then 1 else if hasBoth l (dwnOf c)then 2 else 0:=by unfold kindOf;rw[hin];rfl
 by_cases q:hasBoth l (accOf c)=true
 · rw[if_pos q]at hk;rw[hk];unfold hasBoth at q;rw[Bool.and_eq_true,List.contains_iff_mem,List.contains_iff_mem]at q;exact⟨hsq,q⟩
 · rw[if_neg q]at hk;by_cases r:hasBoth l (dwnOf c)=true
   · rw[if_pos r]at hk;rw[hk];unfold hasBoth at r;rw[Bool.and_eq_true,List.contains_iff_mem,List.contains_iff_mem]at r;exact⟨hsq.symm,r⟩
   · rw[if_neg r]at hk;exact absurd hk h
theorem flip_ok {s:Nat} {l:List Dm} {c:Cl} (h:PartOk s l) (hk:kindOf l c≠0):PartOk s (flipTo l c)∧kindOf (flipTo l c) c≠0∧flipTo (flipTo l c) c=l:=by
 obtain⟨hsq,h1,h2⟩:=kind_sq hk;have hin:=kind_in hk;obtain⟨a,b,_,_⟩:=flip_sq h hsq h1 h2;have hback:=flip_back h hsq h1 h2;have e:flipTo l c=sortD (flipPre l (goneOf (kindOf l c) c) (nextOf (kindOf l c) c)):=rfl;rw[←e]at a b hback;have hkk:kindOf l c=1∨kindOf l c=2:=by have:=kindOf_le l c;omega
 have hk2:kindOf (flipTo l c) c=3-kindOf l c:=by
  have hk':kindOf (flipTo l c) c=if hasBoth (flipTo l c) (accOf c)then 1 else if hasBoth (flipTo l c) (dwnOf c)then 2 else 0:=by conv=>lhs;unfold kindOf;rw[hin,if_pos rfl]
  rw[hk'];rcases hkk with q|q
  · rw[q]at b hsq⊢
    have b1:hasBoth (flipTo l c) (accOf c)=false:=by
     unfold hasBoth;rw[Bool.and_eq_false_iff];left;rcases r:(flipTo l c).contains (accOf c).1 with _|_
     · rfl
     · rw[List.contains_iff_mem,b]at r;rcases r with r|r|r
       · exact absurd r hsq.ne.1
       · exact absurd r hsq.ne.2.1
       · exact absurd rfl r.2.1
    have b2:hasBoth (flipTo l c) (dwnOf c)=true:=by
     unfold hasBoth;rw[Bool.and_eq_true,List.contains_iff_mem,List.contains_iff_mem,b,b];exact⟨.inl rfl,.inr (.inl rfl)⟩
    rw[b1,b2];rfl
  · rw[q]at b hsq⊢
    have b2:hasBoth (flipTo l c) (accOf c)=true:=by
     unfold hasBoth;rw[Bool.and_eq_true,List.contains_iff_mem,List.contains_iff_mem,b,b];exact⟨.inl rfl,.inr (.inl rfl)⟩
    rw[b2];rfl
 refine⟨a,by omega,?_⟩;have e2:flipTo (flipTo l c) c=sortD (flipPre (flipTo l c) (goneOf (kindOf (flipTo l c) c) c) (nextOf (kindOf (flipTo l c) c) c)):=rfl;rw[e2,hk2];rcases hkk with q|q
 · rw[q]at hback⊢;exact hback
 · rw[q]at hback⊢;exact hback
theorem flipGo_snoc : ∀ (cs : List Cl) (l : List Dm) (c : Cl), flipGo l (cs ++ [c]) = (flipGo l cs).bind fun m => if kindOf m c = 0 then none else some (flipTo m c)
  |[],l,c=>by simp[flipGo]
  | d :: r, l, c => by
   simp only[List.cons_append,flipGo];split
   · rfl
   · exact flipGo_snoc r _ c
theorem flipGo_ok {s:Nat}:∀(cs:List Cl) {l m:List Dm},PartOk s l→flipGo l cs=some m→PartOk s m
  |[],l,m,h,e=>by simp[flipGo]at e;exact e▸h
  | c :: r, l, m, h, e => by
   unfold flipGo at e;split at e
   · cases e
   · rename_i q;exact flipGo_ok r (flip_ok h q).1 e
theorem undo_flip {s:Nat} {l m:List Dm} {cs:List Cl} {c:Cl} (h:PartOk s l) (e:flipGo l (cs++[c])=some m):∃k,flipGo l cs=some k∧flipAt m c=(k,true):=by
 rw[flipGo_snoc]at e;rcases q:flipGo l cs with _|k
 · rw[q]at e;cases e
 · refine⟨k,rfl,?_⟩;rw[q]at e;simp only[Option.bind_some]at e;split at e
   · cases e
   · rename_i hk;injection e with e;subst e;obtain⟨_,k2,k3⟩:=flip_ok (flipGo_ok cs h q) hk;unfold flipAt;rw[if_neg k2,k3]
abbrev Fl:=List Int×List Dm×List Dm×List Cl
def flSt (x:Fl) (j:Nat):Fl:=(x.1,x.2.1,(flipAll x.2.1 (x.2.2.2.take j)).1,x.2.2.2.take j)
def flOk (x:Fl):Bool:=floorOk x.1 x.2.1 x.2.2.1 x.2.2.2
def doFl (x:Fl) (c:Cl):Fl×Bool:=if flOk x=true∧x.2.2.2.length≠60∧kindOf x.2.2.1 c≠0 then((x.1,x.2.1,flipTo x.2.2.1 c,x.2.2.2++[c]),true)else(x,false)
def undoFl (x:Fl):Fl×Bool:=if flOk x=true∧x.2.2.2.length≠0 then(flSt x (x.2.2.2.length-1),true)else(x,false)
def undoAllFl (x:Fl):Fl:=if flOk x=true then flSt x 0 else x
theorem flipGo_take:∀(cs:List Cl) {l m:List Dm} (j:Nat),flipGo l cs=some m→∃k,flipGo l (cs.take j)=some k
  |[],l,m,j,h=>⟨l,by simp[flipGo]⟩
  |c::r,l,m,0,h=>⟨l,by simp[flipGo]⟩
  | c :: r, l, m, j + 1, h => by
   unfold flipGo at h;split at h
   · cases h
   · rename_i q;obtain⟨k,hk⟩:=flipGo_take r j h;exact⟨k,by rw[List.take_succ_cons];unfold flipGo;rw[if_neg q];exact hk⟩
theorem flOk_iff {x:Fl}:flOk x=true↔isTiling x.1 x.2.1=true∧x.2.2.2.length≤60∧flipGo x.2.1 x.2.2.2=some x.2.2.1:=by
 unfold flOk floorOk;rw[Bool.and_eq_true,Bool.and_eq_true,Bool.and_eq_true,decide_eq_true_eq,decide_eq_true_eq];constructor
 · rintro⟨⟨⟨h1,h2⟩,h3⟩,h4⟩;refine⟨h1,h2,?_⟩;unfold flipAll at h3 h4;rw[if_neg (by omega)]at h3 h4;split at h3
   · cases h3
   · rename_i m q;rw[q]at h4⊢;exact congrArg some h4
 · rintro⟨h1,h2,h3⟩;unfold flipAll;rw[if_neg (by omega),h3];exact⟨⟨⟨h1,h2⟩,rfl⟩,rfl⟩
theorem tiling_part {rows:List Int} {f:List Dm} (h:isTiling rows f=true):RowsOk rows∧PartOk (setOf rows) f:=by
 unfold isTiling at h;rw[Bool.and_eq_true]at h;exact isPartial_iff.1 h.1
theorem flSt_go {x:Fl} (h:flOk x=true) (j:Nat):flipGo x.2.1 (x.2.2.2.take j)=some (flSt x j).2.2.1:=by
 obtain⟨h1,h2,h3⟩:=flOk_iff.1 h;obtain⟨k,hk⟩:=flipGo_take _ j h3;rw[hk];unfold flSt flipAll;simp only;rw[if_neg (by rw[List.length_take];omega),hk]
theorem flSt_ok {x:Fl} (h:flOk x=true) (j:Nat):flOk (flSt x j)=true:=by
 obtain⟨h1,h2,h3⟩:=flOk_iff.1 h;exact flOk_iff.2 ⟨h1,by show(x.2.2.2.take j).length≤60;rw[List.length_take];omega,flSt_go h j⟩
theorem flSt_self {x:Fl} (h:flOk x=true):flSt x x.2.2.2.length=x:=by
 obtain⟨h1,h2,h3⟩:=flOk_iff.1 h;have:=flSt_go h x.2.2.2.length;rw[List.take_length,h3]at this;injection this with this;obtain⟨a,b,c,d⟩:=x;unfold flSt at this⊢;simp only[List.take_length]at this⊢;rw[←this]
theorem flSt_st (x:Fl) {i j:Nat} (h:i≤j):flSt (flSt x j) i=flSt x i:=by
 unfold flSt;simp only[List.take_take];rw[Nat.min_eq_left h]
theorem flSt_len {x:Fl} {j:Nat} (h:j≤x.2.2.2.length):(flSt x j).2.2.2.length=j:=by
 unfold flSt;simp only[List.length_take];omega
theorem flSt_flip {x:Fl} (h:flOk x=true) (hn:x.2.2.2.length≠0) (c:Cl) (hc:x.2.2.2[x.2.2.2.length-1]? =some c):kindOf x.2.2.1 c≠0∧flipTo x.2.2.1 c=(flSt x (x.2.2.2.length-1)).2.2.1:=by
 obtain⟨h1,h2,h3⟩:=flOk_iff.1 h
 have e:x.2.2.2=x.2.2.2.take (x.2.2.2.length-1)++[c]:=by
  have:=List.take_add_one (l:=x.2.2.2) (i:=x.2.2.2.length-1);rw[hc,show x.2.2.2.length-1+1=x.2.2.2.length by omega,List.take_length]at this;simpa using this
 rw[e]at h3;obtain⟨k,hk,hf⟩:=undo_flip (tiling_part h1).2 h3;have g:=flSt_go h (x.2.2.2.length-1);rw[hk]at g;injection g with g;unfold flipAt at hf;split at hf
 · cases hf
 · rename_i q;exact⟨q,by rw[←g];exact(Prod.mk.inj hf).1⟩
theorem flOk_flips {x:Fl} (h:flOk x=true):x.2.2.2.length≤60:=(flOk_iff.1 h).2.1
end Go.Proofs.YtfdbcihcdjjdhaaGreatDoor
