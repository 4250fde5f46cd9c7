/- Tilings: a partial covering covers all cells if and only if it has half as many dominoes as there are cells. Plain laws. IsTiling of both sides; the cells of a region as the reference lists them: the walks. No conditions but sizes. Sorted dominoes and flips: the functions and their plain laws. Partial coverings as a property: valid dominoes in order that share no cell. Plain laws. A flip of a partial covering is one, and the same flip again takes it back. Plain laws. Floors whose flips are made and taken back. Plain laws.. Conditions, where there are any, stand in the statements. -/
import Derived.Test.YtljfoohaapckeaaGreatDoorAK4
import Derived.Test.YtljfoohaapckeaaGreatDoorAK3
import Derived.IntWalk
open _root_.List (getElem?_cons_zero getElem?_cons_succ mem_cons mem_cons_of_mem mem_cons_self contains_iff_mem length_take take_length)
open _root_.Bool (and_eq_true or_eq_true)
open _root_.Go.Proofs.Tryz (prog func89 ntmps89 func107 ntmps107 func43 ntmps43)
namespace Go.Proofs.YtljfoohaapckeaaGreatDoor
open Go.ChangeShapes Go.WideShapes Go.ChangeAt Go.RowKit
set_option linter.unusedVariables false
set_option maxHeartbeats 4000000
set_option maxRecDepth 100000
def cntF (f:Nat->Bool):Nat->Nat
  |0=>0
  |k+1=>cntF f k+(f k).toNat
theorem iL (f:Nat->Bool) (k:Nat):cntF f (k+1)=cntF f k+(f k).toNat:=rfl
theorem vU (s:Nat):∀k,(dZ s k).length=cntF s.testBit k
  |0=>by simp[dZ,cntF]
  | k + 1 => by
   rw[wK,List.length_append,vU s k];rw[iL];cases s.testBit k<;>simp
theorem Cr {f g:Nat->Bool} {i:Nat} (hne:∀j,j≠i->f j=g j) (hf:f i=true) (hg:g i=false):∀k,cntF f k=cntF g k+(if i<k then 1 else 0)
  |0=>by simp[cntF]
  | k + 1 => by
   have ih:=Cr hne hf hg k;rw[iL,iL];by_cases e:k=i
   . subst e;rw[if_neg (by omega)]at ih;rw[if_pos (by omega),ih,hf,hg];simp
   . rw[ih,hne k e];by_cases h:i<k
     . rw[if_pos h,if_pos (by omega)];omega
     . rw[if_neg h,if_neg (by omega)];omega
theorem DC {f:Nat->Bool}:∀k,cntF f k=0->∀j,j<k->f j=false
  |0,_,j,hj=>by omega
  | k + 1, h, j, hj => by
   rw[iL]at h;by_cases e:j=k
   . subst e;rcases q:f j with _|_
     . rfl
     . rw[q]at h;simp at h
   . exact DC k (by omega) j (by omega)
theorem DD {f:Nat->Bool}:∀k,(∀j,j<k->f j=false)->cntF f k=0
  |0,_=>rfl
  | k + 1, h => by
   rw[iL,DD k (fun j hj=>h j (by omega)),h k (by omega)];rfl
theorem OA {d:Dm} (h:aI d=true):eO d≠iX d:=by
 intro e;obtain⟨h1,h2⟩:=dJ h;have:=vS h1 h2 e;have D:=lV h;unfold sec at this;split at this
 . simp only[Prod.mk.injEq]at this;have k:=this.2;unfold wrap64 at k;omega
 . simp only[Prod.mk.injEq]at this;have k:=this.1;unfold wrap64 at k;omega
theorem Li {left:Nat} {d:Dm} (hl:left<U64) (hd:aI d=true) (hs:left&&&aL d=aL d):cntF left.testBit 64=cntF (dR left (aL d)).testBit 64+2:=by
 obtain⟨hi,hj⟩:=xX hd;have hne:=OA hd;have bI:left.testBit (eO d)=true:=oK hs _ (by rw[aT hd];simp);have bJ:left.testBit (iX d)=true:=oK hs _ (by rw[aT hd];simp)
 have h1 := Cr (f := left.testBit) (g := fun k => left.testBit k && !decide (eO d = k)) (i := eO d) (fun j hj => by
  have:decide (eO d=j)=false:=by simp;omega
  simp only[this,Bool.not_false,Bool.and_true]) bI (by simp) 64
 have h2 := Cr (f := fun k => left.testBit k && !decide (eO d = k)) (g := (dR left (aL d)).testBit) (i := iX d) (fun j hj => by
  have:decide (iX d=j)=false:=by simp;omega
  simp only[jB hl (eQ hd),aT hd,this,Bool.or_false]) (by
  have:decide (eO d=iX d)=false:=by simp;omega
  simp only[this,bJ];rfl) (by rw[jB hl (eQ hd),aT hd];simp) 64
 rw[if_pos hi]at h1;rw[if_pos hj]at h2;omega
def leftOf (left:Nat):List Dm->Nat
  |[]=>left
  |d::r=>leftOf (dR left (aL d)) r
def fZ (s:Nat):List Dm->Nat
  |[]=>s
  |d::r=>fZ (if aI d then s|||aL d else s) r
theorem MI {a b:Nat} (ha:a<U64) (hb:b<U64):a|||b<U64:=by
 unfold U64 at*;exact Nat.or_lt_two_pow (n:=64) ha hb
theorem Il {s:Nat} (hs:s<U64) (d:Dm):(if aI d then s|||aL d else s)<U64:=by
 split
 . rename_i h;exact MI hs (eQ h)
 . exact hs
theorem vV:∀(l:List Dm) (s:Nat),s<U64->fZ s l<U64
  |[],s,h=>h
  |d::r,s,h=>vV r _ (Il h d)
theorem tO (j : Nat) : ∀ (l : List Dm) (s : Nat), (fZ s l).testBit j = (s.testBit j || l.any fun d => aI d && (aL d).testBit j)
  |[],s=>by simp[fZ]
  | d :: r, s => by
   unfold fZ;rw[tO j r];rcases h:aI d with _|_
   . rw[if_neg (by simp)];simp[h]
   . rw[if_pos rfl,Nat.testBit_or];simp[h,Bool.or_assoc]
theorem tT : ∀ (l : List Dm) (left : Nat) (p : Option Dm), left < U64 -> jW left p l = true -> leftOf left l < U64 /\ cntF left.testBit 64 = cntF (leftOf left l).testBit 64 + 2 * l.length /\ ∀ j, (leftOf left l).testBit j = (left.testBit j && !l.any fun d => aI d && (aL d).testBit j)
  |[],left,p,hl,h=>⟨hl,by simp[leftOf],fun j=>by simp[leftOf]⟩
  | d :: r, left, p, hl, h => by
   obtain⟨h1,h2,h3⟩:=rO h;obtain⟨a,b,c⟩:=tT r _ _ (eZ hl) h3;have:=Li hl h1 h2;refine⟨a,?_,fun j=> ?_⟩
   . show cntF left.testBit 64=cntF (leftOf (dR left (aL d)) r).testBit 64+2*(d::r).length;rw[List.length_cons];omega
   . show(leftOf (dR left (aL d)) r).testBit j=_;rw[c,jB hl (eQ h1),List.any_cons,h1,Bool.true_and,Bool.not_or,Bool.and_assoc]
theorem Kv {left:Nat} {p:Option Dm} {l:List Dm} (hl:left<U64) (h:jW left p l=true):fZ 0 l=left↔2*l.length=cntF left.testBit 64:=by
 obtain⟨a,b,c⟩:=tT l left p hl h;have hc:∀j,(fZ 0 l).testBit j=l.any fun d=>aI d&&(aL d).testBit j:=fun j=>by rw[tO];simp
 constructor
 . intro e;have:cntF (leftOf left l).testBit 64=0:=DD 64 (fun j _=>by rw[c,<-hc,e];simp);omega
 . intro e;have hz:cntF (leftOf left l).testBit 64=0:=(by omega);refine JA (vV l 0 nC) hl (fun j hj=> ?_);have h0:=DC 64 hz j hj;rw[c,<-hc]at h0;rcases q:(fZ 0 l).testBit j with _|_
   . rw[q]at h0;rcases r:left.testBit j with _|_
     . rfl
     . rw[r]at h0;cases h0
   . rw[hc,List.any_eq_true]at q;obtain⟨d,hd,hb⟩:=q;rw[and_eq_true]at hb;exact((Ik l left p hl h d hd).2 j hb.2).symm
def dI (rows:List Int) (l:List Dm):Bool:=isPartial rows l&&decide (2*l.length=(dW rows).length)
theorem nU {rows:List Int} {l:List Dm} (h:isPartial rows l=true):dI rows l=decide (fZ 0 l=setOf rows):=by
 obtain⟨ho,hp⟩:=lY h;unfold dI dW;rw[h,Bool.true_and,if_pos (aN.2 ho),vU,decide_eq_decide];exact(Kv (dY ho) hp).symm
theorem Im {left:Nat} {p:Option Dm} {l:List Dm} (hl:left<U64) (h:jW left p l=true):l.length<=32:=by
 obtain⟨a,b,c⟩:=tT l left p hl h
 have:∀(f:Nat->Bool) k,cntF f k<=k:=by
  intro f k;induction k with
  |zero=>simp[cntF]
  |succ k ih=>rw[iL];have:(f k).toNat<=1:=Bool.toNat_le _;omega
 have:=this left.testBit 64;omega
end Go.Proofs.YtljfoohaapckeaaGreatDoor
namespace Go.Proofs.YtljfoohaapckeaaGreatDoor
open Go.ChangeShapes Go.WideShapes Go.ChangeAt Go.RowKit
set_option linter.unusedVariables false
set_option linter.unusedSimpArgs false
set_option maxHeartbeats 4000000
set_option maxRecDepth 100000
theorem Io (i x y:Nat) (w:World) (hi:i<64) (hx:x=i%8) (hy:y=i/8):Calls prog 84 #[.int .i64 i] w (Ret (.tuple #[.agg #[.int .i64 x,.int .i64 y],.bool true]) w):=by
 have:=tH i w hi;rw[hx,hy];simpa using this
theorem EI (s:Nat) (d:Dm) (r:List Dm):fZ s (d::r)=fZ (if aI d then s|||aL d else s) r:=rfl
theorem rP (v:Value) (l:List Dm) (w:World) (h:Rd 3 aQ w v l):Calls prog 146 #[v] w (Ret (.int .u64 (fZ 0 l:Nat)) w):=by
 obtain⟨A,c,rfl,hc,hm⟩:=h.form;go_enter Tryz.func146,Tryz.ntmps146
 go_wp2;go_loopw [3,8] (fun s3 s8 wr=>∃k S:Nat,k<=l.length/\s8= .int .i64 k/\s3= .int .u64 S/\S<U64/\Hid (fZ S (l.drop k)=fZ 0 l)/\Below w.heap.size w wr) (fun _ i _=>l.length-(intOf i).toNat)
 case atStart=>exact⟨0,0,Nat.zero_le _,rfl,rfl,nC,Pm rfl,Below.refl _ _⟩
 case round=>
  obtain⟨k,S,hk,rfl,rfl,hS,Hg,hbel⟩:=hrel;by_cases hlt:k<l.length
  . obtain⟨b,off,rfl,hb,q1,q2,q3⟩:=(h.Pk hbel).jZ hlt;have hg:=Hg.out;rw[List.drop_eq_getElem_cons hlt,EI]at hg;obtain⟨d,hd⟩:=Pj (l[k]);rw[<-hd]at q1 q2 q3 hg;obtain⟨x,y,dn⟩:=d;simp only at q1 q2 q3;have bD:=Blk.aW wr 60 #[.int .i64 x,.int .i64 y,.bool dn];rcases hok:aI (x,y,dn)with _|_
    . rw [hok, if_neg (by simp)] at hg;have Hg2:=Pm hg;have Hok:=Pm hok;clear hg hok hd;go_wp2_with fail
      refine(aZ x y dn _).mono ?_;rintro e w1 ⟨rfl,hb1⟩;rw[Hok.out];go_wp2;go_roundw
      case rel=>exact⟨k+1,S,by omega,by go_num,rfl,hS,Hg2,(hbel.al _).tr hb1⟩
      case measure=>simp[intOf];omega
    . rw[hok,if_pos rfl]at hg;have hDlt:=eQ hok;have Hok:=Pm hok;clear hok hd;go_wp2_with fail
      refine(aZ x y dn _).mono ?_;rintro e w1 ⟨rfl,hb1⟩;rw[Hok.out];have bD1:=bD.bl hb1;have z0:=bD1.cell 0;have z1:=bD1.cell 1;have z2:=bD1.cell 2;simp only[List.getElem?_toArray,getElem?_cons_zero,getElem?_cons_succ]at z0 z1 z2;obtain⟨D,hD⟩:=Pj (aL (x,y,dn))
      have hor:bits .or .u64 (S:Int) (D:Int)=((S|||D:Nat):Int):=by
       rw[<-hD]at hDlt;unfold U64 at hS hDlt;exact u64_or_nat S D hS hDlt
      have hlt2:S|||D<U64:=by rw[hD];exact MI hS hDlt
      rw[<-hD]at hg;have Hg2:=Pm hg;clear hg;have HD:=Pm hD;clear hD;go_wp2_with fail
      refine(eU x y dn _ Hok.out).mono ?_;rintro e w2 ⟨rfl,hb2⟩;rw[<-HD.out];go_wp2;go_roundw
      case rel=>exact⟨k+1,S|||D,by omega,by go_num,rfl,hlt2,Hg2,((hbel.al _).tr hb1).tr hb2⟩
      case measure=>simp[intOf];omega
  . obtain rfl : k = l.length := by omega
    have hg:=Hg.out;rw[List.drop_of_length_le (Nat.le_refl _)]at hg;have hg2:S=fZ 0 l:=hg;have HG:=Pm hg2;clear hg hg2;go_wp2;go_ret;exact⟨congrArg Ending.returned (O8 HG.out),hbel⟩
theorem tV (v u:Value) (rows:List Int) (l:List Dm) (w:World) (h:Rd 1 aX w v rows) (h2:Rd 3 aQ w u l):Calls prog 89 #[.agg #[v],u] w (Ret (.bool (dI rows l)) w):=by
 obtain⟨A,c,rfl,hc,hm⟩:=h.form;obtain⟨A2,c2,rfl,hc2,hm2⟩:=h2.form;have hA:=((Below.refl w.heap.size w).al (.cells #[.slice A rows.length c] 26));have hz:w.heap.size+1<=(w.alloc (.cells #[.slice A rows.length c] 26)).drew.heap.size:=(by simp);have hp0:w.heap.size<w.heap.size+1:=(by omega);have Bacc:=hA.drew;have HR:=Pm h;have HL:=Pm h2;clear h h2;rcases hpt:isPartial rows l with _|_
 . have e : dI rows l = false := by unfold dI; rw [hpt]; rfl
   rw[e];have Hpt:=Pm hpt;clear hpt e;go_enter func89,ntmps89
   go_wp2_with fail
   refine rB (fun w'=>w'.cell? ⟨w.heap.size,0,none⟩=some (.slice A rows.length c)) fun hHeld=>(tW 0)<|(tW 1)<|(tR [2])<|tL fun K hK=>?_
   go_simp
   (first|(go_at_call 108;go_must (refine(uU _ _ rows l _ (HR.out.Pk Bacc) (HL.out.Pk Bacc)).mono ?_;rintro e wX ⟨rfl,hbX⟩;rw[Hpt.out];obtain⟨hcX,hfX,hzX⟩:=bkn hbX (w.heap.size+1) hz;have hz:=hzX;have Bacc:=Bacc.tr hbX);(try go_wp2_with fail)))
   refine tK hK fun hHeld=>?_
   clear hK K;refine(tW 3)<|(tU 4)<|(tU 5)<|(tU 6)<|(tU 7)<|(tU 8)<|(tW 9)<|(tW 10)<|tD ?_;go_wp2;go_ret;exact⟨rfl,Bacc⟩
 . have ho:=(lY hpt).1;have hs:=dY ho;have e:=nU hpt
   have e2:(((fZ 0 l:Nat):Int)==((setOf rows:Nat):Int))=dI rows l:=by
    rw[e,Bool.eq_iff_iff,beq_iff_eq,decide_eq_true_iff];omega
   obtain⟨R,hR⟩:=Pj (dI rows l);obtain⟨S,hS⟩:=Pj (fZ 0 l);obtain⟨T,hT⟩:=Pj (setOf rows);rw[<-hR,<-hS,<-hT]at e2;rw[<-hR];have Hok:=Pm ho;have Hpt:=Pm hpt;have HS:=Pm hS;have HT:=Pm hT;clear ho hpt e hR hS hT hs;go_enter func89,ntmps89
   go_wp2_with fail
   refine rB (fun w'=>w'.cell? ⟨w.heap.size,0,none⟩=some (.slice A rows.length c)) fun hHeld=>(tW 0)<|(tW 1)<|(tR [2])<|tL fun K hK=>?_
   go_simp
   (first|(go_at_call 108;go_must (refine(uU _ _ rows l _ (HR.out.Pk Bacc) (HL.out.Pk Bacc)).mono ?_;rintro e wX ⟨rfl,hbX⟩;rw[Hpt.out];obtain⟨hcX,hfX,hzX⟩:=bkn hbX (w.heap.size+1) hz;have hz:=hzX;have Bacc:=Bacc.tr hbX);(try go_wp2_with fail))|(go_at_call 146;go_must (refine(rP _ l _ (HL.out.Pk Bacc)).mono ?_;rintro e wX ⟨rfl,hbX⟩;rw[<-HS.out];obtain⟨hcX,hfX,hzX⟩:=bkn hbX (w.heap.size+1) hz;have hz:=hzX;have Bacc:=Bacc.tr hbX);(try go_wp2_with fail))|(go_at_call 109;go_must (refine(rA _ rows _ (HR.out.Pk Bacc) Hok).mono ?_;rintro e wX ⟨rfl,hbX⟩;rw[<-HT.out];obtain⟨hcX,hfX,hzX⟩:=bkn hbX (w.heap.size+1) hz;have hz:=hzX;have Bacc:=Bacc.tr hbX);(try go_wp2_with fail)))
   refine tK hK fun hHeld=>?_
   clear hK K;refine(tW 3)<|(tW 4)<|(tW 6)<|(tR [5])<|tL fun K hK=>?_
   go_simp
   (first|(go_at_call 108;go_must (refine(uU _ _ rows l _ (HR.out.Pk Bacc) (HL.out.Pk Bacc)).mono ?_;rintro e wX ⟨rfl,hbX⟩;rw[Hpt.out];obtain⟨hcX,hfX,hzX⟩:=bkn hbX (w.heap.size+1) hz;have hz:=hzX;have Bacc:=Bacc.tr hbX);(try go_wp2_with fail))|(go_at_call 146;go_must (refine(rP _ l _ (HL.out.Pk Bacc)).mono ?_;rintro e wX ⟨rfl,hbX⟩;rw[<-HS.out];obtain⟨hcX,hfX,hzX⟩:=bkn hbX (w.heap.size+1) hz;have hz:=hzX;have Bacc:=Bacc.tr hbX);(try go_wp2_with fail))|(go_at_call 109;go_must (refine(rA _ rows _ (HR.out.Pk Bacc) Hok).mono ?_;rintro e wX ⟨rfl,hbX⟩;rw[<-HT.out];obtain⟨hcX,hfX,hzX⟩:=bkn hbX (w.heap.size+1) hz;have hz:=hzX;have Bacc:=Bacc.tr hbX);(try go_wp2_with fail)))
   refine tK hK fun hHeld=>?_
   clear hK K;refine(tR [7])<|tL fun K hK=>?_
   go_simp
   (first|(go_at_call 108;go_must (refine(uU _ _ rows l _ (HR.out.Pk Bacc) (HL.out.Pk Bacc)).mono ?_;rintro e wX ⟨rfl,hbX⟩;rw[Hpt.out];obtain⟨hcX,hfX,hzX⟩:=bkn hbX (w.heap.size+1) hz;have hz:=hzX;have Bacc:=Bacc.tr hbX);(try go_wp2_with fail))|(go_at_call 146;go_must (refine(rP _ l _ (HL.out.Pk Bacc)).mono ?_;rintro e wX ⟨rfl,hbX⟩;rw[<-HS.out];obtain⟨hcX,hfX,hzX⟩:=bkn hbX (w.heap.size+1) hz;have hz:=hzX;have Bacc:=Bacc.tr hbX);(try go_wp2_with fail))|(go_at_call 109;go_must (refine(rA _ rows _ (HR.out.Pk Bacc) Hok).mono ?_;rintro e wX ⟨rfl,hbX⟩;rw[<-HT.out];obtain⟨hcX,hfX,hzX⟩:=bkn hbX (w.heap.size+1) hz;have hz:=hzX;have Bacc:=Bacc.tr hbX);(try go_wp2_with fail)))
   refine tK hK fun hHeld=>?_
   clear hK K;refine(tW 8)<|(tW 9)<|(tW 10)<|tD ?_
   all_goals
     go_wp2;go_ret;exact⟨lH (by first|exact e2|(simp;done)|simpa using e2),Bacc⟩
theorem rQ (v:Value) (rows:List Int) (w:World) (h:Rd 1 aX w v rows):Calls prog 107 #[.agg #[v]] w (iB 70 2 dD (dW rows) w):=by
 obtain⟨A,c,rfl,hc,hm⟩:=h.form;have hA:=(Below.refl w.heap.size w).al (.cells #[.slice A rows.length c] 26);have bX:=Blk.aW w 26 #[.slice A rows.length c];have h':=h.Pk hA;rcases hr:bV rows with _|_
 . have e : dW rows = [] := by unfold dW; rw [hr]; rfl
   rw[e];go_enter func107,ntmps107
   go_wp2;go_loopw [3,4] (fun s3 s4 wr=>s4= .int .i64 0/\s3= .slice (some ⟨w.heap.size+1,0,none⟩) 0 0/\aD 70 2 dD w.heap.size wr (.slice (some ⟨w.heap.size+1,0,none⟩) 0 0) ([]:List Cl)/\Below (w.alloc (.cells #[.slice A rows.length c] 26)).heap.size (w.alloc (.cells #[.slice A rows.length c] 26)) wr) (fun _ _ _=>0)
   case atStart=>exact⟨rfl,rfl,iK (w.alloc (.cells #[.slice A rows.length c] 26)) (w.heap.size+1) (by simp) _ (by simp),(Below.refl _ _).al _⟩
   case round=>
    obtain⟨rfl,rfl,hown,hbel⟩:=hrel;have zx:=(bX.bl hbel).c1;go_wp2_with fail
    refine(dQ _ rows _ (h'.Pk hbel)).mono ?_;rintro e w1 ⟨rfl,hb1⟩;rw[hr];go_wp2;go_ret;exact⟨_,_,rfl,hown.below hb1,(hA.tr hbel).tr hb1⟩
 . have e : dW rows = dZ (setOf rows) 64 := by unfold dW; rw [hr]; rfl
   rw[e];have hok:=aN.1 hr;have Hok:=Pm hok;have Hr:=Pm hr;clear hok e hr;obtain⟨s,hse⟩:=Pj (setOf rows);rw[<-hse];have Hse:=Pm hse;clear hse;go_enter func107,ntmps107
   go_wp2;go_loopw [3,4] (fun s3 s4 wr=>∃(k:Nat) (A3:Option Addr) (c3:Nat),k<=64/\s4= .int .i64 k/\s3= .slice A3 (dZ s k).length c3/\aD 70 2 dD (w.alloc (.cells #[.slice A rows.length c] 26)).heap.size wr (.slice A3 (dZ s k).length c3) (dZ s k)/\Below (w.alloc (.cells #[.slice A rows.length c] 26)).heap.size (w.alloc (.cells #[.slice A rows.length c] 26)) wr) (fun _ i _=>64-(intOf i).toNat)
   case atStart=>exact⟨0,_,_,by omega,rfl,rfl,iK (w.alloc (.cells #[.slice A rows.length c] 26)) (w.heap.size+1) (by simp) _ (Nat.le_refl _),(Below.refl _ _).al _⟩
   case round=>
    obtain⟨k,A3,c3,hk,rfl,rfl,hown,hbel⟩:=hrel;have zx:=(bX.bl hbel).c1;by_cases hlt:k<64
    . have hle:=rZ s k;have hsucc:=wK s k;obtain⟨x,hx⟩:=Pj (k%8);obtain⟨y,hy⟩:=Pj (k/8);have hx8:x<8:=(by omega);have hy8:y<8:=(by omega);have hk8:8*y+x=k:=(by omega);have hix:iC k=((x:Int),(y:Int)):=by unfold iC;simp only[Prod.mk.injEq];omega
      obtain⟨cs,hcs⟩:=Pj (dZ s k);rw[<-hcs]at hle hsucc hown⊢;rw[hix]at hsucc;have H8:Hid ((cs.length+1)*16<=140737488355328):=Pm (by omega);have HM:Hid (cs.length+1<=maxLen):=Pm (by unfold maxLen;omega);have Hk8:=Pm hk8;have Hx:=Pm hx;have Hy:=Pm hy;have Hsucc:=Pm hsucc;have Hcs:=Pm hcs;clear hsucc hcs hx hy hix hk8;go_wp2_with fail
      refine(dQ _ rows _ (h'.Pk hbel)).mono ?_;rintro e w1 ⟨rfl,hb1⟩;rw[Hr.out];go_wp2_with fail
      refine(Io k x y _ hlt Hx.out Hy.out).mono ?_;rintro e w2 ⟨rfl,hb2⟩;have B2:=((hbel.tr hb1).tr hb2).al (.cells #[.int .i64 x,.int .i64 y] 70);have bC:=Blk.aW w2 70 #[.int .i64 x,.int .i64 y];have own2:=((hown.below hb1).below hb2).alloc (.cells #[.int .i64 x,.int .i64 y] 70);clear zx;have zx:=(bX.bl B2).c1;have zc0:=bC.cell 0;have zc1:=bC.cell 1;simp only[List.getElem?_toArray,getElem?_cons_zero,getElem?_cons_succ]at zc0 zc1;go_wp2_with fail
      refine(kL _ rows x y _ (h'.Pk B2) Hok hx8 hy8).mono ?_;rintro e w3 ⟨rfl,hb3⟩;rw[<-Hse.out,Hk8.out];have bC3:=bC.bl hb3;have B3:=B2.tr hb3;have own3:=own2.below hb3;rcases hb:s.testBit k with _|_
      . have e : dZ s (k + 1) = cs := by rw [Hsucc.out, if_neg (by rw [hb]; simp)]; simp
        have E:=Pm e;have Hb:=Pm hb;clear e hb;go_wp2;go_roundw
        case rel=>exact⟨k+1,A3,c3,by omega,by go_num,by rw[E.out],by rw[E.out];exact own3,B3⟩
        case measure=>simp[intOf];omega
      . have e : dZ s (k + 1) = cs ++ [((x : Int), (y : Int))] := by rw [Hsucc.out, if_pos hb]
        have E:=Pm e;have Hb:=Pm hb;clear e hb;clear zc0 zc1;have zc0:=bC3.cell 0;have zc1:=bC3.cell 1;simp only[List.getElem?_toArray,getElem?_cons_zero,getElem?_cons_succ]at zc0 zc1;go_wp2_with (at_builtin;go_must (refine aH (enc:=dD) iW dU oneCell B3 own3 (((x:Int),(y:Int)):Cl) H8.out HM.out rfl _ _ rfl rfl rfl ?_);intro v4 w4 own4 hb4 hg4 hd4;obtain⟨A4,c4,rfl,hc4,hm4⟩:=own4.form)
        go_roundw
        case rel=>exact⟨k+1,A4,c4,by omega,by go_num,by rw[E.out];simp,by rw[E.out];exact own4,hb4⟩
        case measure=>simp[intOf];omega
    . obtain rfl : k = 64 := by omega
      go_wp2;go_ret;exact⟨A3,c3,rfl,hown.mono hA.size,hA.tr hbel⟩
theorem nI (v:Value) (rows:List Int) (w:World) (h:Rd 1 aX w v rows):Calls prog 47 #[.agg #[v]] w (Ret (.int .i64 (dW rows).length) w):=by
 obtain⟨A,c,rfl,hc,hm⟩:=h.form;have hA:=(Below.refl w.heap.size w).al (.cells #[.slice A rows.length c] 26);go_enter Tryz.func47,Tryz.ntmps47
 go_wp2_with fail
 refine(rQ _ rows _ (h.Pk hA)).mono ?_;rintro e w1 ⟨A1,c1,rfl,own1,hb1⟩;go_wp2;go_ret;exact⟨rfl,hA.tr hb1⟩
theorem pV (v u:Value) (rows:List Int) (l:List Dm) (w:World) (h:Rd 1 aX w v rows) (h2:Rd 3 aQ w u l):Calls prog 43 #[.agg #[v],u] w (Ret (.bool (dI rows l)) w):=by
 obtain⟨A,c,rfl,hc,hm⟩:=h.form;obtain⟨A2,c2,rfl,hc2,hm2⟩:=h2.form;have hA:=((Below.refl w.heap.size w).al (.cells #[.slice A rows.length c] 26));have bX:=Blk.aW w 26 #[.slice A rows.length c];rcases hpt:isPartial rows l with _|_
 . have e : dI rows l = false := by unfold dI; rw [hpt]; rfl
   rw[e];have Hpt:=Pm hpt;clear hpt e;go_enter func43,ntmps43
   go_wp2_with fail
   refine(Dz _ _ rows l _ (h.Pk hA) (h2.Pk hA)).mono ?_;rintro e w1 ⟨rfl,hb1⟩;rw[Hpt.out];go_wp2;go_ret;exact⟨rfl,hA.tr hb1⟩
 . have ho:=(lY hpt).1;have hlen:=Im (dY ho) (lY hpt).2;have hle:=tJ rows
   have e:dI rows l=((2*(l.length:Int))==((dW rows).length:Int)):=by
    unfold dI;rw[hpt,Bool.true_and,Bool.eq_iff_iff,beq_iff_eq,decide_eq_true_iff];omega
   obtain⟨N,hN⟩:=Pj ((dW rows).length);rw[<-hN]at e hle;rw[e];have Hpt:=Pm hpt;have HN:=Pm hN;clear hpt e hN ho;have hw2:IntKind.i64.wrap (2*(l.length:Int))=2*(l.length:Int):=IntWalk.i64_in _ (by omega);go_enter func43,ntmps43
   go_wp2_with fail
   refine(Dz _ _ rows l _ (h.Pk hA) (h2.Pk hA)).mono ?_;rintro e w1 ⟨rfl,hb1⟩;rw[Hpt.out];have zx:=(bX.bl hb1).c1;go_wp2_with fail
   refine(nI _ rows _ ((h.Pk hA).Pk hb1)).mono ?_;rintro e w2 ⟨rfl,hb2⟩;rw[<-HN.out];go_wp2;go_ret;exact⟨rfl,(hA.tr hb1).tr hb2⟩
end Go.Proofs.YtljfoohaapckeaaGreatDoor
namespace Go.Proofs.YtljfoohaapckeaaGreatDoor
open Go.ChangeShapes Go.WideShapes Go.ChangeAt Go.RowKit
set_option linter.unusedVariables false
set_option maxHeartbeats 4000000
set_option maxRecDepth 100000
def DF (d:Dm):List Dm->List Dm
  |[]=>[d]
  |e::r=>if aR e<aR d then e::DF d r else if e=d then e::r else d::e::r
def kD (out:List Dm) (d:Dm):List Dm:=if aI d then DF d out else out
def jX (out l:List Dm):List Dm:=l.foldl kD out
def iU (l:List Dm):List Dm:=jX [] l
def Sorted (l:List Dm):Prop:=(∀d∈l,aI d=true)/\l.Pairwise fun a b=>aR a<aR b
theorem Bd {a b:Dm} (ha:aI a=true) (hb:aI b=true) (h:aR a=aR b):a=b:=by
 obtain⟨a1,a2,a3⟩:=a;obtain⟨b1,b2,b3⟩:=b;have A:=lV ha;have B:=lV hb;simp only at A B;unfold aR at h;simp only at h
 have e3:a3=b3:=by
  cases a3<;>cases b3<;>simp at h⊢<;>omega
 subst e3;have e2:a2=b2:=(by omega);subst e2;have e1:a1=b1:=(by omega);subst e1;rfl
def mH (d:Dm) (l:List Dm):Nat:=(l.takeWhile fun e=>decide (aR e<aR d)).length
theorem E8 (d:Dm):∀l:List Dm,mH d l<=l.length
  |[]=>by simp[mH]
  | e :: r => by
   have:=E8 d r;unfold mH at*;rw[List.takeWhile_cons];split<;>simp<;>omega
theorem qN (d e:Dm) (r:List Dm):mH d (e::r)=if aR e<aR d then mH d r+1 else 0:=by
 unfold mH;rw[List.takeWhile_cons];by_cases h:aR e<aR d<;>simp[h]
theorem xZ (d:Dm):∀(l:List Dm) (k:Nat) (h:k<l.length),k<mH d l->aR l[k]<aR d
  |[],k,h,_=>by simp at h
  | e :: r, k, h, hk => by
   rw[qN]at hk;split at hk
   . cases k with
     |zero=>simpa
     |succ k=>simp only[List.getElem_cons_succ];exact xZ d r k (by simpa using h) (by omega)
   . omega
theorem E9 (d:Dm):∀(l:List Dm) (h:mH d l<l.length),¬aR l[mH d l]<aR d
  |[],h=>by simp at h
  | e :: r, h => by
   by_cases q:aR e<aR d
   . have e1 : mH d (e :: r) = mH d r + 1 := by rw [qN, if_pos q]
     simp only[e1,List.getElem_cons_succ];exact E9 d r (by rw[e1]at h;simpa using h)
   . have e1 : mH d (e :: r) = 0 := by rw [qN, if_neg q]
     simp only[e1,List.getElem_cons_zero];exact q
theorem Gr (d:Dm):∀l:List Dm,DF d l=if l[mH d l]? =some d then l else l.take (mH d l)++d::l.drop (mH d l)
  |[]=>by simp[DF,mH]
  | e :: r => by
   unfold DF;by_cases q:aR e<aR d
   . rw[if_pos q,qN,if_pos q,Gr d r];simp only[getElem?_cons_succ,List.take_succ_cons,List.drop_succ_cons];split<;>rfl
   . rw[if_neg q,qN,if_neg q];simp only[getElem?_cons_zero,List.take_zero,List.drop_zero,List.nil_append,Option.some.injEq]
theorem Cs (d:Dm):∀(l:List Dm) (x:Dm),x∈DF d l↔x=d∨x∈l
  |[],x=>by simp[DF]
  | e :: r, x => by
   unfold DF;split
   . rw[mem_cons,Cs d r,mem_cons];constructor<;>rintro(h|h|h)<;>simp[h]
   . split
     . rename_i h;subst h;simp
     . simp
theorem Be {d:Dm} (hd:aI d=true):∀{l:List Dm},Sorted l->Sorted (DF d l)
  |[],h=>⟨fun x hx=>by simp[DF]at hx;rw[hx];exact hd,by simp[DF]⟩
  | e :: r, h => by
   have hr:Sorted r:=⟨fun x hx=>h.1 x (mem_cons_of_mem _ hx),(List.pairwise_cons.1 h.2).2⟩;have he:=h.1 e (mem_cons_self ..);have hep:=(List.pairwise_cons.1 h.2).1;have ih:=Be hd hr;unfold DF;split
   . rename_i q;refine⟨fun x hx=> ?_,List.pairwise_cons.2 ⟨fun x hx=> ?_,ih.2⟩⟩
     . rcases List.mem_cons.1 hx with rfl|hx
       . exact he
       . exact ih.1 x hx
     . rcases(Cs d r x).1 hx with rfl|hx
       . exact q
       . exact hep x hx
   . rename_i q;split
     . exact h
     . rename_i q2;have hne:aR e≠aR d:=fun h'=>q2 (Bd he hd h')
       refine⟨fun x hx=> ?_,List.pairwise_cons.2 ⟨fun x hx=> ?_,h.2⟩⟩
       . rcases List.mem_cons.1 hx with rfl|hx
         . exact hd
         . exact h.1 x hx
       . rcases List.mem_cons.1 hx with rfl|hx
         . omega
         . have:=hep x hx;omega
theorem iZ {out:List Dm} (h:Sorted out) (d:Dm):Sorted (kD out d):=by
 unfold kD;split
 . rename_i q;exact Be q h
 . exact h
theorem DI:∀(l:List Dm) {out:List Dm},Sorted out->Sorted (jX out l)
  |[],out,h=>h
  |d::r,out,h=>DI r (iZ h d)
theorem vW:Sorted []:=⟨by simp,List.Pairwise.nil⟩
theorem wL (l:List Dm):Sorted (iU l):=DI l vW
theorem wM:∀(l:List Int) (n:Nat),l.Pairwise (· <·)->(∀x∈l,(128:Int)-n<=x/\x<128)->l.length<=n
  |[],n,_,_=>by simp
  | x :: r, n, hp, hb => by
   have h1:=hb x (mem_cons_self ..);cases n with
   |zero=>omega
   |succ n=>
    have := wM r n (List.pairwise_cons.1 hp).2 (fun y hy => by
     have h2:=hb y (mem_cons_of_mem _ hy);have h3:=(List.pairwise_cons.1 hp).1 y hy;omega)
    simp;omega
theorem vX {l:List Dm} (h:Sorted l):l.length<=128:=by
 have := wM (l.map aR) 128 (List.pairwise_map.2 h.2) (fun x hx => by
  obtain⟨d,hd,rfl⟩:=List.mem_map.1 hx;have:=Kr (h.1 d hd);omega)
 simpa using this
theorem Ip {l:List Dm} (h:Sorted l) {d:Dm} {k:Nat} (hk:k<l.length):aR l[k]<aR d↔k<mH d l:=by
 constructor
 . intro q;by_cases hn:k<mH d l
   . exact hn
   . exfalso;have hp:mH d l<l.length:=(by omega);have:=E9 d l hp;by_cases e:mH d l=k
     . subst e;exact this q
     . have:=List.pairwise_iff_getElem.1 h.2 _ _ hp hk (by omega);omega
 . exact xZ d l k hk
theorem FT {l:List Dm} (h:Sorted l) {d:Dm} (hd:aI d=true) {k:Nat} (hk:k<l.length):(aR l[k]>aR d)↔(if l[mH d l]? =some d then mH d l+1 else mH d l)<=k:=by
 by_cases q:l[mH d l]? =some d
 . rw[if_pos q];obtain⟨hp,e⟩:=List.getElem?_eq_some_iff.1 q;constructor
   . intro hgt;by_cases hn:mH d l+1<=k
     . exact hn
     . exfalso;by_cases e2:k=mH d l
       . subst e2;rw[e]at hgt;omega
       . have:=xZ d l k hk (by omega);omega
   . intro hle;have:=List.pairwise_iff_getElem.1 h.2 _ _ hp hk (by omega);rw[e]at this;omega
 . rw[if_neg q];constructor
   . intro hgt;by_cases hn:mH d l<=k
     . exact hn
     . have:=xZ d l k hk (by omega);omega
   . intro hle;have hp:mH d l<l.length:=(by omega);have h1:=E9 d l hp
     have hne:aR l[mH d l]≠aR d:=by
      intro e;apply q;rw[List.getElem?_eq_getElem hp,Bd (h.1 _ (List.getElem_mem hp)) hd e]
     by_cases e2:k=mH d l
     . subst e2;omega
     . have:=List.pairwise_iff_getElem.1 h.2 _ _ hp hk (by omega);omega
def oV (c:Cl):Dm×Dm:=((c.1,c.2,false),(c.1,c.2+1,false))
def sD (c:Cl):Dm×Dm:=((c.1,c.2,true),(c.1+1,c.2,true))
def jY (c:Cl):Bool:=decide (0<=c.1/\c.1<=6)&&decide (0<=c.2/\c.2<=6)
def eX (l:List Dm) (p:Dm×Dm):Bool:=l.contains p.1&&l.contains p.2
def kindOf (l:List Dm) (c:Cl):Nat:=if jY c then(if eX l (oV c)then 1 else if eX l (sD c)then 2 else 0)else 0
def mM (k:Nat) (c:Cl):Dm×Dm:=if k=1 then oV c else sD c
def nV (k:Nat) (c:Cl):Dm×Dm:=if k=1 then sD c else oV c
def keepD (g:Dm×Dm) (d:Dm):Bool:= !(decide (d=g.1)||decide (d=g.2))
def iQ (l:List Dm) (g n:Dm×Dm):List Dm:=[n.1,n.2]++l.filter (keepD g)
def aS (l:List Dm) (c:Cl):List Dm:=iU (iQ l (mM (kindOf l c) c) (nV (kindOf l c) c))
def eG (l:List Dm) (c:Cl):List Dm×Bool:=if kindOf l c=0 then(l,false)else(aS l c,true)
theorem DJ (l:List Dm) (c:Cl):kindOf l c<=2:=by unfold kindOf;split<;>(try split)<;>(try split)<;>omega
theorem Bf (l:List Dm) (c:Cl):(aS l c).length<=128:=vX (wL _)
def eH (l:List Dm):List Cl->Option (List Dm)
  |[]=>some l
  |c::r=>if kindOf l c=0 then none else eH (aS l c) r
def dK (l:List Dm) (cs:List Cl):List Dm×Bool:=if cs.length>200 then(l,false)else match eH l cs with|none=>(l,false)|some m=>(m,true)
def dE (rows:List Int) (f n:List Dm) (cs:List Cl):Bool:=dI rows f&&decide (cs.length<=60)&&(dK f cs).2&&decide ((dK f cs).1=n)
def Apart (a b:Dm):Prop:=∀j,(aL a).testBit j=true->(aL b).testBit j=false
def In (s:Nat) (d:Dm):Prop:=aI d=true/\∀j,(aL d).testBit j=true->s.testBit j=true
def jE (s:Nat) (l:List Dm):Prop:=(∀d∈l,In s d)/\(l.Pairwise fun a b=>aR a<aR b)/\l.Pairwise Apart
theorem jE.tail {s:Nat} {d:Dm} {l:List Dm} (h:jE s (d::l)):jE s l:=
 ⟨fun e he=>h.1 e (mem_cons_of_mem _ he),(List.pairwise_cons.1 h.2.1).2,(List.pairwise_cons.1 h.2.2).2⟩
theorem vD {a b:Nat} (h:∀j,b.testBit j=true->a.testBit j=true):a&&&b=b:=by
 apply Nat.eq_of_testBit_eq;intro j;rw[Nat.testBit_and];rcases q:b.testBit j with _|_
 . simp
 . rw[h j q];rfl
theorem jE.less {s:Nat} (hs:s<U64) {d:Dm} {l:List Dm} (h:jE s (d::l)):jE (dR s (aL d)) l:=by
 refine⟨fun e he=> ?_,h.tail.2⟩;obtain⟨e1,e2⟩:=h.tail.1 e he;refine⟨e1,fun j hj=> ?_⟩;rw[jB hs (eQ (h.1 d (mem_cons_self ..)).1),e2 j hj,Bool.true_and,Bool.not_eq_true'];rcases q:(aL d).testBit j with _|_
 . rfl
 . have:=(List.pairwise_cons.1 h.2.2).1 e he j q;rw[hj]at this;cases this
theorem DK:∀{l:List Dm} {s:Nat} {p:Option Dm},s<U64->jE s l->(∀e,p=some e->∀d,l.head? =some d->aR e<aR d)->jW s p l=true
  |[],s,p,_,_,_=>rfl
  | d :: r, s, p, hs, h, hp => by
   obtain⟨d1,d2⟩:=h.1 d (mem_cons_self ..)
   have ih := DK (p := some d) (eZ hs) (h.less hs) (fun e he d' hd' => by
    cases he;cases r with
    |nil=>cases hd'
    |cons x y=>injection hd' with hd';subst hd';exact(List.pairwise_cons.1 h.2.1).1 _ (mem_cons_self ..))
   rw[pU,d1,ih,decide_eq_true (vD d2)];cases p with
   |none=>rfl
   |some e=>simp only[pG,Bool.true_and,Bool.and_true,decide_eq_true_eq];exact hp e rfl d rfl
theorem DN:∀{l:List Dm} {s:Nat} {p:Option Dm},s<U64->jW s p l=true->jE s l/\∀e,p=some e->∀d∈l,aR e<aR d
  |[],s,p,_,_=>⟨⟨by simp,List.Pairwise.nil,List.Pairwise.nil⟩,by simp⟩
  | d :: r, s, p, hs, h => by
   obtain⟨d1,d2,d3⟩:=rO h;obtain⟨⟨a,b,c⟩,f⟩:=DN (eZ hs) d3;have hd:=eQ d1;refine⟨⟨fun e he=> ?_,List.pairwise_cons.2 ⟨fun e he=>f d rfl e he,b⟩,List.pairwise_cons.2 ⟨fun e he j hj=> ?_,c⟩⟩,?_⟩
   . rcases List.mem_cons.1 he with rfl|he
     . exact⟨d1,fun j hj=>oK d2 j hj⟩
     . refine ⟨(a e he).1, fun j hj => ?_⟩;have:=(a e he).2 j hj;rw[jB hs hd,and_eq_true]at this;exact this.1
   . rcases q:(aL e).testBit j with _|_
     . rfl
     . have:=(a e he).2 j q;rw[jB hs hd,hj]at this;simp at this
   . intro e he x hx;subst he;rw[pU]at h;simp only[and_eq_true,pG,decide_eq_true_eq]at h;have h1:=h.1.2;rcases List.mem_cons.1 hx with rfl|hx
     . exact h1
     . have:=f d rfl x hx;omega
theorem qD {rows:List Int} {l:List Dm}:isPartial rows l=true↔dM rows/\jE (setOf rows) l:=by
 constructor
 . intro h;obtain⟨a,b⟩:=lY h;exact⟨a,(DN (dY a) b).1⟩
 . rintro⟨a,b⟩;unfold isPartial;rw[aN.2 a,DK (dY a) b (by simp)];rfl
theorem DU : ∀ {l m : List Dm}, l.Pairwise (fun a b => aR a < aR b) -> m.Pairwise (fun a b => aR a < aR b) -> (∀ d, d ∈ l ↔ d ∈ m) -> l = m
  |[],[],_,_,_=>rfl
  |[],d::m,_,_,h=>by have:=(h d).2 (mem_cons_self ..);cases this
  |d::l,[],_,_,h=>by have:=(h d).1 (mem_cons_self ..);cases this
  | d :: l, e :: m, hl, hm, h => by
   have hl2:=List.pairwise_cons.1 hl;have hm2:=List.pairwise_cons.1 hm
   have hde:d=e:=by
    rcases List.mem_cons.1 ((h d).1 (mem_cons_self ..))with q|q
    . exact q
    . rcases List.mem_cons.1 ((h e).2 (mem_cons_self ..))with r|r
      . exact r.symm
      . have a:=hm2.1 d q;have b:=hl2.1 e r;omega
   subst hde;congr 1
   refine DU hl2.2 hm2.2 (fun x=> ?_);have hx:=h x;rw[mem_cons,mem_cons]at hx;constructor
   . intro q;rcases hx.1 (.inr q)with r|r
     . subst r;have:=hl2.1 x q;omega
     . exact r
   . intro q;rcases hx.2 (.inr q)with r|r
     . subst r;have:=hm2.1 x q;omega
     . exact r
theorem Ap {s:Nat} {d:Dm}:In s d↔aI d=true/\s.testBit (eO d)=true/\s.testBit (iX d)=true:=by
 constructor
 . rintro⟨a,b⟩;exact⟨a,b _ (by rw[aT a];simp),b _ (by rw[aT a];simp)⟩
 . rintro⟨a,b,c⟩;refine⟨a,fun j hj=> ?_⟩;rw[aT a,or_eq_true,decide_eq_true_eq,decide_eq_true_eq]at hj;rcases hj with rfl|rfl
   . exact b
   . exact c
theorem kQ {a b : Dm} (h : Apart a b) : Apart b a := fun j hj => by
 rcases q:(aL a).testBit j with _|_
 . rfl
 . rw[h j q]at hj;cases hj
theorem jE.apart {s:Nat} {l:List Dm} (h:jE s l) {a b:Dm} (ha:a∈l) (hb:b∈l) (hne:a≠b):Apart a b:=by
 have:∀{m:List Dm},m.Pairwise Apart->a∈m->b∈m->Apart a b:=by
  intro m;induction m with
  |nil=>intro _ h;cases h
  |cons x m ih=>
   intro hp h1 h2;obtain⟨p1,p2⟩:=List.pairwise_cons.1 hp;rcases List.mem_cons.1 h1 with e1|h1'
   . rcases List.mem_cons.1 h2 with e|h2'
     . exact absurd (e1.trans e.symm) hne
     . rw[e1];exact p1 b h2'
   . rcases List.mem_cons.1 h2 with e|h2'
     . rw[e];exact kQ (p1 a h1')
     . exact ih p2 h1' h2'
 exact this h.2.2 ha hb
theorem Bg:∀(l out:List Dm) (x:Dm),x∈jX out l↔x∈out∨(x∈l/\aI x=true)
  |[],out,x=>by simp[jX]
  | d :: r, out, x => by
   have e:jX out (d::r)=jX (kD out d) r:=rfl;rw[e,Bg r];unfold kD;by_cases q:aI d=true
   . rw[if_pos q,Cs];constructor
     . rintro((rfl|h)|⟨h,k⟩)
       . exact .inr ⟨mem_cons_self ..,q⟩
       . exact .inl h
       . exact .inr ⟨mem_cons_of_mem _ h,k⟩
     . rintro(h|⟨h,k⟩)
       . exact .inl (.inr h)
       . rcases List.mem_cons.1 h with rfl|h
         . exact .inl (.inl rfl)
         . exact .inr ⟨h,k⟩
   . rw[if_neg q];constructor
     . rintro(h|⟨h,k⟩)
       . exact .inl h
       . exact .inr ⟨mem_cons_of_mem _ h,k⟩
     . rintro(h|⟨h,k⟩)
       . exact .inl h
       . rcases List.mem_cons.1 h with rfl|h
         . exact absurd k q
         . exact .inr ⟨h,k⟩
theorem DV (l:List Dm) (x:Dm):x∈iU l↔x∈l/\aI x=true:=by unfold iU;rw[Bg];simp
theorem tY (l:List Dm) (g n:Dm×Dm) (x:Dm):x∈iQ l g n↔x=n.1∨x=n.2∨(x∈l/\x≠g.1/\x≠g.2):=by
 unfold iQ keepD;simp[List.mem_filter]
structure Sq (g n:Dm×Dm):Prop where
  ok:aI g.1=true/\aI g.2=true/\aI n.1=true/\aI n.2=true
  same:∀j,((aL g.1).testBit j||(aL g.2).testBit j)=((aL n.1).testBit j||(aL n.2).testBit j)
  apart:Apart g.1 g.2/\Apart n.1 n.2
  meet:¬Apart g.1 n.1/\¬Apart g.1 n.2
  Om:¬Apart g.2 n.1/\¬Apart g.2 n.2
  ne:g.1≠n.1/\g.1≠n.2/\g.2≠n.1/\g.2≠n.2
theorem Sq.symm {g n:Dm×Dm} (h:Sq g n):Sq n g:=
 ⟨⟨h.ok.2.2.1, h.ok.2.2.2, h.ok.1, h.ok.2.1⟩, fun j => (h.same j).symm, ⟨h.apart.2, h.apart.1⟩,
   ⟨fun q=>h.meet.1 (kQ q),fun q=>h.Om.1 (kQ q)⟩,⟨fun q=>h.meet.2 (kQ q),fun q=>h.Om.2 (kQ q)⟩,
   ⟨h.ne.1.symm,h.ne.2.2.1.symm,h.ne.2.1.symm,h.ne.2.2.2.symm⟩⟩
theorem Dc {g n:Dm×Dm} (h:Sq g n) {j:Nat}:((aL n.1).testBit j=true∨(aL n.2).testBit j=true)->((aL g.1).testBit j=true∨(aL g.2).testBit j=true):=by
 have:=h.same j;rw[<-or_eq_true,<-or_eq_true,this];exact id
theorem Fa {s:Nat} {l:List Dm} {g n:Dm×Dm} (h:jE s l) (hs:Sq g n) (h1:g.1∈l) (h2:g.2∈l):
 jE s (iU (iQ l g n))/\(∀x,x∈iU (iQ l g n)↔x=n.1∨x=n.2∨(x∈l/\x≠g.1/\x≠g.2))/\n.1∉l/\n.2∉l:=by
 have hm : ∀ x, x ∈ iU (iQ l g n) ↔ x = n.1 ∨ x = n.2 ∨ (x ∈ l /\ x ≠ g.1 /\ x ≠ g.2) := fun x => by
  rw[DV,tY];constructor
  . exact fun q=>q.1
  . intro q;refine⟨q,?_⟩;rcases q with rfl|rfl|⟨q,_⟩
    . exact hs.ok.2.2.1
    . exact hs.ok.2.2.2
    . exact(h.1 x q).1
 have hsort:=wL (iQ l g n);have hg1:=h.1 _ h1;have hg2:=h.1 _ h2
 have hin : ∀ j, ((aL n.1).testBit j = true ∨ (aL n.2).testBit j = true) -> s.testBit j = true := fun j hj => by
  rcases Dc hs hj with q|q
  . exact hg1.2 j q
  . exact hg2.2 j q
 have hold : ∀ x ∈ l, x ≠ g.1 -> x ≠ g.2 -> Apart n.1 x /\ Apart n.2 x := fun x hx e1 e2 => by
  have a1:=h.apart h1 hx (Ne.symm e1);have a2:=h.apart h2 hx (Ne.symm e2);refine⟨fun j hj=> ?_,fun j hj=> ?_⟩
  . rcases Dc hs (.inl hj)with q|q
    . exact a1 j q
    . exact a2 j q
  . rcases Dc hs (.inr hj)with q|q
    . exact a1 j q
    . exact a2 j q
 have hall:∀x,x∈iU (iQ l g n)->∀y,y∈iU (iQ l g n)->x≠y->Apart x y:=by
  intro x hx y hy hne;rcases(hm x).1 hx with rfl|rfl|⟨qx,qx1,qx2⟩<;>rcases(hm y).1 hy with rfl|rfl|⟨qy,qy1,qy2⟩
  . exact absurd rfl hne
  . exact hs.apart.2
  . exact(hold y qy qy1 qy2).1
  . exact kQ hs.apart.2
  . exact absurd rfl hne
  . exact(hold y qy qy1 qy2).2
  . exact kQ (hold x qx qx1 qx2).1
  . exact kQ (hold x qx qx1 qx2).2
  . exact h.apart qx qy hne
 refine⟨⟨fun x hx=> ?_,hsort.2,?_⟩,hm,?_,?_⟩
 . rcases(hm x).1 hx with rfl|rfl|⟨q,_⟩
   . exact⟨hs.ok.2.2.1,fun j hj=>hin j (.inl hj)⟩
   . exact⟨hs.ok.2.2.2,fun j hj=>hin j (.inr hj)⟩
   . exact h.1 x q
 . refine List.Pairwise.imp_of_mem (fun {a b} ha hb hab => ?_) hsort.2;exact hall a ha b hb (fun e=>by subst e;omega)
 . intro q;exact hs.meet.1 (h.apart h1 q hs.ne.1)
 . intro q;exact hs.meet.2 (h.apart h1 q hs.ne.2.1)
theorem Kw {s:Nat} {l:List Dm} {g n:Dm×Dm} (h:jE s l) (hs:Sq g n) (h1:g.1∈l) (h2:g.2∈l):
 iU (iQ (iU (iQ l g n)) n g)=l:=by
 obtain⟨a,b,c,d⟩:=Fa h hs h1 h2;obtain⟨a',b',_,_⟩:=Fa a hs.symm ((b _).2 (.inl rfl)) ((b _).2 (.inr (.inl rfl)));refine DU a'.2.1 h.2.1 (fun x=> ?_);rw[b',b];constructor
 . rintro(rfl|rfl|⟨q,q1,q2⟩)
   . exact h1
   . exact h2
   . rcases q with q|q|q
     . exact absurd q q1
     . exact absurd q q2
     . exact q.1
 . intro q;by_cases e1:x=g.1
   . exact .inl e1
   . by_cases e2:x=g.2
     . exact .inr (.inl e2)
     . exact .inr (.inr ⟨.inr (.inr ⟨q,e1,e2⟩),fun e=>c (e▸q),fun e=>d (e▸q)⟩)
theorem Bh {x y:Int} (h:aY (x,y)=true):(dF (x,y)).toNat=(y*8+x).toNat:=by rw[(dO h).1]
theorem OB {c:Cl} (hc:jY c=true):Sq (oV c) (sD c):=by
 obtain⟨x,y⟩:=c;unfold jY at hc;rw[and_eq_true,decide_eq_true_eq,decide_eq_true_eq]at hc;simp only at hc;obtain⟨⟨x0,x1⟩,y0,y1⟩:=hc;have w1:wrap64 (x+1)=x+1:=by unfold wrap64;omega
 have w2:wrap64 (y+1)=y+1:=by unfold wrap64;omega
 have s1:sec (x,y,false)=(x+1,y):=by unfold sec;simp[w1]
 have s2:sec (x,y+1,false)=(x+1,y+1):=by unfold sec;simp[w1]
 have s3:sec (x,y,true)=(x,y+1):=by unfold sec;simp[w2]
 have s4:sec (x+1,y,true)=(x+1,y+1):=by unfold sec;simp[w2]
 have c1:aY (x,y)=true:=dB.2 (by simp only;omega);have c2:aY (x+1,y)=true:=dB.2 (by simp only;omega);have c3:aY (x,y+1)=true:=dB.2 (by simp only;omega);have c4:aY (x+1,y+1)=true:=dB.2 (by simp only;omega);have d1:aI (x,y,false)=true:=by unfold aI;rw[s1];simp[c1,c2]
 have d2:aI (x,y+1,false)=true:=by unfold aI;rw[s2];simp[c3,c4]
 have d3:aI (x,y,true)=true:=by unfold aI;rw[s3];simp[c1,c3]
 have d4:aI (x+1,y,true)=true:=by unfold aI;rw[s4];simp[c2,c4]
 have b1 : ∀ j, (aL (x, y, false)).testBit j = (decide ((y * 8 + x).toNat = j) || decide ((y * 8 + (x + 1)).toNat = j)) := fun j => by
  rw[aT d1];unfold eO iX;rw[s1];simp only;rw[Bh c1,Bh c2]
 have b2 : ∀ j, (aL (x, y + 1, false)).testBit j = (decide (((y + 1) * 8 + x).toNat = j) || decide (((y + 1) * 8 + (x + 1)).toNat = j)) := fun j => by
  rw[aT d2];unfold eO iX;rw[s2];simp only;rw[Bh c3,Bh c4]
 have b3 : ∀ j, (aL (x, y, true)).testBit j = (decide ((y * 8 + x).toNat = j) || decide (((y + 1) * 8 + x).toNat = j)) := fun j => by
  rw[aT d3];unfold eO iX;rw[s3];simp only;rw[Bh c1,Bh c3]
 have b4 : ∀ j, (aL (x + 1, y, true)).testBit j = (decide ((y * 8 + (x + 1)).toNat = j) || decide (((y + 1) * 8 + (x + 1)).toNat = j)) := fun j => by
  rw[aT d4];unfold eO iX;rw[s4];simp only;rw[Bh c2,Bh c4]
 have no:∀{a b:Dm} (j:Nat),(aL a).testBit j=true->(aL b).testBit j=true->¬Apart a b:=fun j h1 h2 h=>by rw[h j h1]at h2;cases h2
 unfold oV sD;refine⟨⟨d1,d2,d3,d4⟩,fun j=> ?_,⟨fun j hj=> ?_,fun j hj=> ?_⟩,⟨?_,?_⟩,⟨?_,?_⟩,?_⟩
 . simp only;rw[b1,b2,b3,b4,Bool.eq_iff_iff];simp only[or_eq_true,decide_eq_true_eq];constructor<;>rintro((h|h)|h|h)<;>simp[h]
 . simp only at hj⊢;rw[b1,or_eq_true,decide_eq_true_eq,decide_eq_true_eq]at hj;rw[b2,Bool.or_eq_false_iff,decide_eq_false_iff_not,decide_eq_false_iff_not];omega
 . simp only at hj⊢;rw[b3,or_eq_true,decide_eq_true_eq,decide_eq_true_eq]at hj;rw[b4,Bool.or_eq_false_iff,decide_eq_false_iff_not,decide_eq_false_iff_not];omega
 . exact no (y*8+x).toNat (by rw[b1];simp) (by rw[b3];simp)
 . exact no (y*8+(x+1)).toNat (by rw[b1];simp) (by rw[b4];simp)
 . exact no ((y+1)*8+x).toNat (by rw[b2];simp) (by rw[b3];simp)
 . exact no ((y+1)*8+(x+1)).toNat (by rw[b2];simp) (by rw[b4];simp)
 . simp
theorem Fb {l:List Dm} {c:Cl} (h:kindOf l c≠0):jY c=true:=by
 unfold kindOf at h;rcases q:jY c with _|_
 . rw[q]at h;simp at h
 . rfl
theorem JE {l:List Dm} {c:Cl} (h:kindOf l c≠0):Sq (mM (kindOf l c) c) (nV (kindOf l c) c)/\(mM (kindOf l c) c).1∈l/\(mM (kindOf l c) c).2∈l:=by
 have hin:=Fb h;have hsq:=OB hin;have hk:kindOf l c=if eX l (oV c)then 1 else if eX l (sD c)then 2 else 0:=by unfold kindOf;rw[hin];rfl
 by_cases q:eX l (oV c)=true
 . rw[if_pos q]at hk;rw[hk];unfold eX at q;rw[and_eq_true,contains_iff_mem,contains_iff_mem]at q;exact⟨hsq,q⟩
 . rw[if_neg q]at hk;by_cases r:eX l (sD c)=true
   . rw[if_pos r]at hk;rw[hk];unfold eX at r;rw[and_eq_true,contains_iff_mem,contains_iff_mem]at r;exact⟨hsq.symm,r⟩
   . rw[if_neg r]at hk;exact absurd hk h
theorem Bi {s:Nat} {l:List Dm} {c:Cl} (h:jE s l) (hk:kindOf l c≠0):jE s (aS l c)/\kindOf (aS l c) c≠0/\aS (aS l c) c=l:=by
 obtain⟨hsq,h1,h2⟩:=JE hk;have hin:=Fb hk;obtain⟨a,b,_,_⟩:=Fa h hsq h1 h2;have hback:=Kw h hsq h1 h2;have e:aS l c=iU (iQ l (mM (kindOf l c) c) (nV (kindOf l c) c)):=rfl;rw[<-e]at a b hback;have hkk:kindOf l c=1∨kindOf l c=2:=by have:=DJ l c;omega
 have hk2:kindOf (aS l c) c=3-kindOf l c:=by
  have hk':kindOf (aS l c) c=if eX (aS l c) (oV c)then 1 else if eX (aS l c) (sD c)then 2 else 0:=by conv=>lhs;unfold kindOf;rw[hin,if_pos rfl]
  rw[hk'];rcases hkk with q|q
  . rw[q]at b hsq⊢
    have b1:eX (aS l c) (oV c)=false:=by
     unfold eX;rw[Bool.and_eq_false_iff];left;rcases r:(aS l c).contains (oV c).1 with _|_
     . rfl
     . rw[contains_iff_mem,b]at r;rcases r with r|r|r
       . exact absurd r hsq.ne.1
       . exact absurd r hsq.ne.2.1
       . exact absurd rfl r.2.1
    have b2:eX (aS l c) (sD c)=true:=by
     unfold eX;rw[and_eq_true,contains_iff_mem,contains_iff_mem,b,b];exact⟨.inl rfl,.inr (.inl rfl)⟩
    rw[b1,b2];rfl
  . rw[q]at b hsq⊢
    have b2:eX (aS l c) (oV c)=true:=by
     unfold eX;rw[and_eq_true,contains_iff_mem,contains_iff_mem,b,b];exact⟨.inl rfl,.inr (.inl rfl)⟩
    rw[b2];rfl
 refine⟨a,by omega,?_⟩;have e2:aS (aS l c) c=iU (iQ (aS l c) (mM (kindOf (aS l c) c) c) (nV (kindOf (aS l c) c) c)):=rfl;rw[e2,hk2];rcases hkk with q|q
 . rw[q]at hback⊢;exact hback
 . rw[q]at hback⊢;exact hback
theorem tZ : ∀ (cs : List Cl) (l : List Dm) (c : Cl), eH l (cs ++ [c]) = (eH l cs).bind fun m => if kindOf m c = 0 then none else some (aS m c)
  |[],l,c=>by simp[eH]
  | d :: r, l, c => by
   simp only[List.cons_append,eH];split
   . rfl
   . exact tZ r _ c
theorem DW {s:Nat}:∀(cs:List Cl) {l m:List Dm},jE s l->eH l cs=some m->jE s m
  |[],l,m,h,e=>by simp[eH]at e;exact e▸h
  | c :: r, l, m, h, e => by
   unfold eH at e;split at e
   . cases e
   . rename_i q;exact DW r (Bi h q).1 e
theorem Ky {s:Nat} {l m:List Dm} {cs:List Cl} {c:Cl} (h:jE s l) (e:eH l (cs++[c])=some m):∃k,eH l cs=some k/\eG m c=(k,true):=by
 rw[tZ]at e;rcases q:eH l cs with _|k
 . rw[q]at e;cases e
 . refine⟨k,rfl,?_⟩;rw[q]at e;simp only[Option.bind_some]at e;split at e
   . cases e
   . rename_i hk;injection e with e;subst e;obtain⟨_,k2,k3⟩:=Bi (DW cs h q) hk;unfold eG;rw[if_neg k2,k3]
abbrev Fl:=List Int×List Dm×List Dm×List Cl
def vE (x:Fl) (j:Nat):Fl:=(x.1,x.2.1,(dK x.2.1 (x.2.2.2.take j)).1,x.2.2.2.take j)
def jG (x:Fl):Bool:=dE x.1 x.2.1 x.2.2.1 x.2.2.2
def yA (x:Fl) (c:Cl):Fl×Bool:=if jG x=true/\x.2.2.2.length≠60/\kindOf x.2.2.1 c≠0 then((x.1,x.2.1,aS x.2.2.1 c,x.2.2.2++[c]),true)else(x,false)
def fF (x:Fl):Fl×Bool:=if jG x=true/\x.2.2.2.length≠0 then(vE x (x.2.2.2.length-1),true)else(x,false)
def eB (x:Fl):Fl:=if jG x=true then vE x 0 else x
theorem zP:∀(cs:List Cl) {l m:List Dm} (j:Nat),eH l cs=some m->∃k,eH l (cs.take j)=some k
  |[],l,m,j,h=>⟨l,by simp[eH]⟩
  |c::r,l,m,0,h=>⟨l,by simp[eH]⟩
  | c :: r, l, m, j + 1, h => by
   unfold eH at h;split at h
   . cases h
   . rename_i q;obtain⟨k,hk⟩:=zP r j h;exact⟨k,by rw[List.take_succ_cons];unfold eH;rw[if_neg q];exact hk⟩
theorem lC {x:Fl}:jG x=true↔dI x.1 x.2.1=true/\x.2.2.2.length<=60/\eH x.2.1 x.2.2.2=some x.2.2.1:=by
 unfold jG dE;rw[and_eq_true,and_eq_true,and_eq_true,decide_eq_true_eq,decide_eq_true_eq];constructor
 . rintro⟨⟨⟨h1,h2⟩,h3⟩,h4⟩;refine⟨h1,h2,?_⟩;unfold dK at h3 h4;rw[if_neg (by omega)]at h3 h4;split at h3
   . cases h3
   . rename_i m q;rw[q]at h4⊢;exact congrArg some h4
 . rintro⟨h1,h2,h3⟩;unfold dK;rw[if_neg (by omega),h3];exact⟨⟨⟨h1,h2⟩,rfl⟩,rfl⟩
theorem zQ {rows:List Int} {f:List Dm} (h:dI rows f=true):dM rows/\jE (setOf rows) f:=by
 unfold dI at h;rw[and_eq_true]at h;exact qD.1 h.1
theorem Bj {x:Fl} (h:jG x=true) (j:Nat):eH x.2.1 (x.2.2.2.take j)=some (vE x j).2.2.1:=by
 obtain⟨h1,h2,h3⟩:=lC.1 h;obtain⟨k,hk⟩:=zP _ j h3;rw[hk];unfold vE dK;simp only;rw[if_neg (by rw[length_take];omega),hk]
theorem JF {x:Fl} (h:jG x=true) (j:Nat):jG (vE x j)=true:=by
 obtain⟨h1,h2,h3⟩:=lC.1 h;exact lC.2 ⟨h1,by show(x.2.2.2.take j).length<=60;rw[length_take];omega,Bj h j⟩
theorem Kz {x:Fl} (h:jG x=true):vE x x.2.2.2.length=x:=by
 obtain⟨h1,h2,h3⟩:=lC.1 h;have:=Bj h x.2.2.2.length;rw[take_length,h3]at this;injection this with this;obtain⟨a,b,c,d⟩:=x;unfold vE at this⊢;simp only[take_length]at this⊢;rw[<-this]
theorem Ni (x:Fl) {i j:Nat} (h:i<=j):vE (vE x j) i=vE x i:=by
 unfold vE;simp only[List.take_take];rw[Nat.min_eq_left h]
theorem Lj {x:Fl} {j:Nat} (h:j<=x.2.2.2.length):(vE x j).2.2.2.length=j:=by
 unfold vE;simp only[length_take];omega
theorem KA {x:Fl} (h:jG x=true) (hn:x.2.2.2.length≠0) (c:Cl) (hc:x.2.2.2[x.2.2.2.length-1]? =some c):kindOf x.2.2.1 c≠0/\aS x.2.2.1 c=(vE x (x.2.2.2.length-1)).2.2.1:=by
 obtain⟨h1,h2,h3⟩:=lC.1 h
 have e:x.2.2.2=x.2.2.2.take (x.2.2.2.length-1)++[c]:=by
  have:=List.take_add_one (l:=x.2.2.2) (i:=x.2.2.2.length-1);rw[hc,show x.2.2.2.length-1+1=x.2.2.2.length by omega,take_length]at this;simpa using this
 rw[e]at h3;obtain⟨k,hk,hf⟩:=Ky (zQ h1).2 h3;have g:=Bj h (x.2.2.2.length-1);rw[hk]at g;injection g with g;unfold eG at hf;split at hf
 . cases hf
 . rename_i q;exact⟨q,by rw[<-g];exact(Prod.mk.inj hf).1⟩
theorem vY {x:Fl} (h:jG x=true):x.2.2.2.length<=60:=(lC.1 h).2.1
end Go.Proofs.YtljfoohaapckeaaGreatDoor
