/- Tilings: a partial covering covers all cells if and only if it has half as many dominoes as there are cells. Plain laws. IsTiling of both sides; the cells of a region as the reference lists them: the walks. No conditions but sizes. Sorted dominoes and flips: the functions and their plain laws. Partial coverings as a property: valid dominoes in order that share no cell. Plain laws. A flip of a partial covering is one, and the same flip again takes it back. Plain laws. Floors whose flips are made and taken back. Plain laws.. Conditions, where there are any, stand in the statements. -/
import Derived.Test.YtljfoohaapckeaaGreatDoorDK4
import Derived.Test.YtljfoohaapckeaaGreatDoorDK3
import Derived.IntWalk
open _root_.List (getElem?_cons_zero getElem?_cons_succ mem_cons mem_cons_of_mem mem_cons_self contains_iff_mem length_take)
open _root_.Bool (and_eq_true or_eq_true)
open _root_.Go.Proofs.Tryz (prog func89 ntmps89 func107 ntmps107 func43 ntmps43)
namespace Go.Proofs.YtljfoohaapckeaaGreatDoor
open Go.ChangeShapes Go.WideShapes Go.ChangeAt Go.RowKit
set_option linter.unusedVariables false
set_option maxHeartbeats 4000000
set_option maxRecDepth 100000
def cntF (f:Nat->Bool):Nat->Nat
  |0=>0
  |k+1=>cntF f k+(f k).toNat
theorem iA (f:Nat->Bool) (k:Nat):cntF f (k+1)=cntF f k+(f k).toNat:=rfl
theorem vN (s:Nat):∀k,(dU s k).length=cntF s.testBit k
  |0=>by simp[dU,cntF]
  | k + 1 => by
   rw[vY,List.length_append,vN s k];rw[iA];cases s.testBit k<;>simp
theorem Co {f g:Nat->Bool} {i:Nat} (hne:∀j,j≠i->f j=g j) (hf:f i=true) (hg:g i=false):∀k,cntF f k=cntF g k+(if i<k then 1 else 0)
  |0=>by simp[cntF]
  | k + 1 => by
   have ih:=Co hne hf hg k;rw[iA,iA];by_cases e:k=i
   . subst e;rw[if_neg (by omega)]at ih;rw[if_pos (by omega),ih,hf,hg];simp
   . rw[ih,hne k e];by_cases h:i<k
     . rw[if_pos h,if_pos (by omega)];omega
     . rw[if_neg h,if_neg (by omega)];omega
theorem DF {f:Nat->Bool}:∀k,cntF f k=0->∀j,j<k->f j=false
  |0,_,j,hj=>by omega
  | k + 1, h, j, hj => by
   rw[iA]at h;by_cases e:j=k
   . subst e;rcases q:f j with _|_
     . rfl
     . rw[q]at h;simp at h
   . exact DF k (by omega) j (by omega)
theorem DI {f:Nat->Bool}:∀k,(∀j,j<k->f j=false)->cntF f k=0
  |0,_=>rfl
  | k + 1, h => by
   rw[iA,DI k (fun j hj=>h j (by omega)),h k (by omega)];rfl
theorem NL {d:Dm} (h:aH d=true):dM d≠fU d:=by
 intro e;obtain⟨h1,h2⟩:=dC h;have:=vL h1 h2 e;have D:=lC h;unfold sec at this;split at this
 . simp only[Prod.mk.injEq]at this;have k:=this.2;unfold wrap64 at k;omega
 . simp only[Prod.mk.injEq]at this;have k:=this.1;unfold wrap64 at k;omega
theorem KV {left:Nat} {d:Dm} (hl:left<U64) (hd:aH d=true) (hs:left&&&aK d=aK d):cntF left.testBit 64=cntF (dN left (aK d)).testBit 64+2:=by
 obtain⟨hi,hj⟩:=rT hd;have hne:=NL hd;have bI:left.testBit (dM d)=true:=nP hs _ (by rw[aR hd];simp);have bJ:left.testBit (fU d)=true:=nP hs _ (by rw[aR hd];simp)
 have h1 := Co (f := left.testBit) (g := fun k => left.testBit k && !decide (dM d = k)) (i := dM d) (fun j hj => by
  have:decide (dM d=j)=false:=by simp;omega
  simp only[this,Bool.not_false,Bool.and_true]) bI (by simp) 64
 have h2 := Co (f := fun k => left.testBit k && !decide (dM d = k)) (g := (dN left (aK d)).testBit) (i := fU d) (fun j hj => by
  have:decide (fU d=j)=false:=by simp;omega
  simp only[iQ hl (eB hd),aR hd,this,Bool.or_false]) (by
  have:decide (dM d=fU d)=false:=by simp;omega
  simp only[this,bJ];rfl) (by rw[iQ hl (eB hd),aR hd];simp) 64
 rw[if_pos hi]at h1;rw[if_pos hj]at h2;omega
def leftOf (left:Nat):List Dm->Nat
  |[]=>left
  |d::r=>leftOf (dN left (aK d)) r
def fP (s:Nat):List Dm->Nat
  |[]=>s
  |d::r=>fP (if aH d then s|||aK d else s) r
theorem Mg {a b:Nat} (ha:a<U64) (hb:b<U64):a|||b<U64:=by
 unfold U64 at*;exact Nat.or_lt_two_pow (n:=64) ha hb
theorem H6 {s:Nat} (hs:s<U64) (d:Dm):(if aH d then s|||aK d else s)<U64:=by
 split
 . rename_i h;exact Mg hs (eB h)
 . exact hs
theorem vO:∀(l:List Dm) (s:Nat),s<U64->fP s l<U64
  |[],s,h=>h
  |d::r,s,h=>vO r _ (H6 h d)
theorem sN (j : Nat) : ∀ (l : List Dm) (s : Nat), (fP s l).testBit j = (s.testBit j || l.any fun d => aH d && (aK d).testBit j)
  |[],s=>by simp[fP]
  | d :: r, s => by
   unfold fP;rw[sN j r];rcases h:aH d with _|_
   . rw[if_neg (by simp)];simp[h]
   . rw[if_pos rfl,Nat.testBit_or];simp[h,Bool.or_assoc]
theorem sO : ∀ (l : List Dm) (left : Nat) (p : Option Dm), left < U64 -> jN left p l = true -> leftOf left l < U64 /\ cntF left.testBit 64 = cntF (leftOf left l).testBit 64 + 2 * l.length /\ ∀ j, (leftOf left l).testBit j = (left.testBit j && !l.any fun d => aH d && (aK d).testBit j)
  |[],left,p,hl,h=>⟨hl,by simp[leftOf],fun j=>by simp[leftOf]⟩
  | d :: r, left, p, hl, h => by
   obtain⟨h1,h2,h3⟩:=qP h;obtain⟨a,b,c⟩:=sO r _ _ (eQ hl) h3;have:=KV hl h1 h2;refine⟨a,?_,fun j=> ?_⟩
   . show cntF left.testBit 64=cntF (leftOf (dN left (aK d)) r).testBit 64+2*(d::r).length;rw[List.length_cons];omega
   . show(leftOf (dN left (aK d)) r).testBit j=_;rw[c,iQ hl (eB h1),List.any_cons,h1,Bool.true_and,Bool.not_or,Bool.and_assoc]
theorem J7 {left:Nat} {p:Option Dm} {l:List Dm} (hl:left<U64) (h:jN left p l=true):fP 0 l=left↔2*l.length=cntF left.testBit 64:=by
 obtain⟨a,b,c⟩:=sO l left p hl h;have hc:∀j,(fP 0 l).testBit j=l.any fun d=>aH d&&(aK d).testBit j:=fun j=>by rw[sN];simp
 constructor
 . intro e;have:cntF (leftOf left l).testBit 64=0:=DI 64 (fun j _=>by rw[c,<-hc,e];simp);omega
 . intro e;have hz:cntF (leftOf left l).testBit 64=0:=(by omega);refine Jh (vO l 0 mH) hl (fun j hj=> ?_);have h0:=DF 64 hz j hj;rw[c,<-hc]at h0;rcases q:(fP 0 l).testBit j with _|_
   . rw[q]at h0;rcases r:left.testBit j with _|_
     . rfl
     . rw[r]at h0;cases h0
   . rw[hc,List.any_eq_true]at q;obtain⟨d,hd,hb⟩:=q;rw[and_eq_true]at hb;exact((H5 l left p hl h d hd).2 j hb.2).symm
def dP (rows:List Int) (l:List Dm):Bool:=isPartial rows l&&decide (2*l.length=(fF rows).length)
theorem nI {rows:List Int} {l:List Dm} (h:isPartial rows l=true):dP rows l=decide (fP 0 l=setOf rows):=by
 obtain⟨ho,hp⟩:=lG h;unfold dP fF;rw[h,Bool.true_and,if_pos (aN.2 ho),vN,decide_eq_decide];exact(J7 (dX ho) hp).symm
theorem H7 {left:Nat} {p:Option Dm} {l:List Dm} (hl:left<U64) (h:jN left p l=true):l.length<=32:=by
 obtain⟨a,b,c⟩:=sO l left p hl h
 have:∀(f:Nat->Bool) k,cntF f k<=k:=by
  intro f k;induction k with
  |zero=>simp[cntF]
  |succ k ih=>rw[iA];have:(f k).toNat<=1:=Bool.toNat_le _;omega
 have:=this left.testBit 64;omega
end Go.Proofs.YtljfoohaapckeaaGreatDoor
namespace Go.Proofs.YtljfoohaapckeaaGreatDoor
open Go.ChangeShapes Go.WideShapes Go.ChangeAt Go.RowKit
set_option linter.unusedVariables false
set_option linter.unusedSimpArgs false
set_option maxHeartbeats 4000000
set_option maxRecDepth 100000
theorem H9 (i x y:Nat) (w:World) (hi:i<64) (hx:x=i%8) (hy:y=i/8):Calls prog 84 #[.int .i64 i] w (Ret (.tuple #[.agg #[.int .i64 x,.int .i64 y],.bool true]) w):=by
 have:=sM i w hi;rw[hx,hy];simpa using this
theorem EK (s:Nat) (d:Dm) (r:List Dm):fP s (d::r)=fP (if aH d then s|||aK d else s) r:=rfl
theorem qQ (v:Value) (l:List Dm) (w:World) (h:Rd 3 aU w v l):Calls prog 146 #[v] w (Ret (.int .u64 (fP 0 l:Nat)) w):=by
 obtain⟨A,c,rfl,hc,hm⟩:=h.form;go_enter Tryz.func146,Tryz.ntmps146
 go_wp2;go_loopw [3,8] (fun s3 s8 wr=>∃k S:Nat,k<=l.length/\s8= .int .i64 k/\s3= .int .u64 S/\S<U64/\Hid (fP S (l.drop k)=fP 0 l)/\Below w.heap.size w wr) (fun _ i _=>l.length-(intOf i).toNat)
 case atStart=>exact⟨0,0,Nat.zero_le _,rfl,rfl,mH,OA rfl,Below.refl _ _⟩
 case round=>
  obtain⟨k,S,hk,rfl,rfl,hS,Hg,hbel⟩:=hrel;by_cases hlt:k<l.length
  . obtain⟨b,off,rfl,hb,q1,q2,q3⟩:=(h.Oz hbel).jJ hlt;have hg:=Hg.out;rw[List.drop_eq_getElem_cons hlt,EK]at hg;obtain⟨d,hd⟩:=Oy (l[k]);rw[<-hd]at q1 q2 q3 hg;obtain⟨x,y,dn⟩:=d;simp only at q1 q2 q3;have bD:=Blk.bK wr 60 #[.int .i64 x,.int .i64 y,.bool dn];rcases hok:aH (x,y,dn)with _|_
    . rw [hok, if_neg (by simp)] at hg;have Hg2:=OA hg;have Hok:=OA hok;clear hg hok hd;go_wp2_with fail
      refine(aW x y dn _).mono ?_;rintro e w1 ⟨rfl,hb1⟩;rw[Hok.out];go_wp2;go_roundw
      case rel=>exact⟨k+1,S,by omega,by go_num,rfl,hS,Hg2,(hbel.al _).tr hb1⟩
      case measure=>simp[intOf];omega
    . rw[hok,if_pos rfl]at hg;have hDlt:=eB hok;have Hok:=OA hok;clear hok hd;go_wp2_with fail
      refine(aW x y dn _).mono ?_;rintro e w1 ⟨rfl,hb1⟩;rw[Hok.out];have bD1:=bD.bl hb1;have z0:=bD1.cell 0;have z1:=bD1.cell 1;have z2:=bD1.cell 2;simp only[List.getElem?_toArray,getElem?_cons_zero,getElem?_cons_succ]at z0 z1 z2;obtain⟨D,hD⟩:=Oy (aK (x,y,dn))
      have hor:bits .or .u64 (S:Int) (D:Int)=((S|||D:Nat):Int):=by
       rw[<-hD]at hDlt;unfold U64 at hS hDlt;exact u64_or_nat S D hS hDlt
      have hlt2:S|||D<U64:=by rw[hD];exact Mg hS hDlt
      rw[<-hD]at hg;have Hg2:=OA hg;clear hg;have HD:=OA hD;clear hD;go_wp2_with fail
      refine(eG x y dn _ Hok.out).mono ?_;rintro e w2 ⟨rfl,hb2⟩;rw[<-HD.out];go_wp2;go_roundw
      case rel=>exact⟨k+1,S|||D,by omega,by go_num,rfl,hlt2,Hg2,((hbel.al _).tr hb1).tr hb2⟩
      case measure=>simp[intOf];omega
  . obtain rfl : k = l.length := by omega
    have hg:=Hg.out;rw[List.drop_of_length_le (Nat.le_refl _)]at hg;have hg2:S=fP 0 l:=hg;have HG:=OA hg2;clear hg hg2;go_wp2;go_ret;exact⟨congrArg Ending.returned (Ol HG.out),hbel⟩
theorem sP (v u:Value) (rows:List Int) (l:List Dm) (w:World) (h:Rd 1 bH w v rows) (h2:Rd 3 aU w u l):Calls prog 89 #[.agg #[v],u] w (Ret (.bool (dP rows l)) w):=by
 obtain⟨A,c,rfl,hc,hm⟩:=h.form;obtain⟨A2,c2,rfl,hc2,hm2⟩:=h2.form;have hA:=((Below.refl w.heap.size w).al (.cells #[.slice A rows.length c] 26));have hz:w.heap.size+1<=(w.alloc (.cells #[.slice A rows.length c] 26)).drew.heap.size:=(by simp);have hp0:w.heap.size<w.heap.size+1:=(by omega);have Bacc:=hA.drew;have HR:=OA h;have HL:=OA h2;clear h h2;rcases hpt:isPartial rows l with _|_
 . have e : dP rows l = false := by unfold dP; rw [hpt]; rfl
   rw[e];have Hpt:=OA hpt;clear hpt e;go_enter func89,ntmps89
   go_wp2_with fail
   refine rB (fun w'=>w'.cell? ⟨w.heap.size,0,none⟩=some (.slice A rows.length c)) fun hHeld=>(tW 0)<|(tW 1)<|(tR [2])<|tL fun K hK=>?_
   go_simp
   (first|(go_at_call 108;go_must (refine(uJ _ _ rows l _ (HR.out.Oz Bacc) (HL.out.Oz Bacc)).mono ?_;rintro e wX ⟨rfl,hbX⟩;rw[Hpt.out];obtain⟨hcX,hfX,hzX⟩:=bkn hbX (w.heap.size+1) hz;have hz:=hzX;have Bacc:=Bacc.tr hbX);(try go_wp2_with fail)))
   refine tK hK fun hHeld=>?_
   clear hK K;refine(tW 3)<|(tU 4)<|(tU 5)<|(tU 6)<|(tU 7)<|(tU 8)<|(tW 9)<|(tW 10)<|tD ?_;go_wp2;go_ret;exact⟨rfl,Bacc⟩
 . have ho:=(lG hpt).1;have hs:=dX ho;have e:=nI hpt
   have e2:(((fP 0 l:Nat):Int)==((setOf rows:Nat):Int))=dP rows l:=by
    rw[e,Bool.eq_iff_iff,beq_iff_eq,decide_eq_true_iff];omega
   obtain⟨R,hR⟩:=Oy (dP rows l);obtain⟨S,hS⟩:=Oy (fP 0 l);obtain⟨T,hT⟩:=Oy (setOf rows);rw[<-hR,<-hS,<-hT]at e2;rw[<-hR];have Hok:=OA ho;have Hpt:=OA hpt;have HS:=OA hS;have HT:=OA hT;clear ho hpt e hR hS hT hs;go_enter func89,ntmps89
   go_wp2_with fail
   refine rB (fun w'=>w'.cell? ⟨w.heap.size,0,none⟩=some (.slice A rows.length c)) fun hHeld=>(tW 0)<|(tW 1)<|(tR [2])<|tL fun K hK=>?_
   go_simp
   (first|(go_at_call 108;go_must (refine(uJ _ _ rows l _ (HR.out.Oz Bacc) (HL.out.Oz Bacc)).mono ?_;rintro e wX ⟨rfl,hbX⟩;rw[Hpt.out];obtain⟨hcX,hfX,hzX⟩:=bkn hbX (w.heap.size+1) hz;have hz:=hzX;have Bacc:=Bacc.tr hbX);(try go_wp2_with fail))|(go_at_call 146;go_must (refine(qQ _ l _ (HL.out.Oz Bacc)).mono ?_;rintro e wX ⟨rfl,hbX⟩;rw[<-HS.out];obtain⟨hcX,hfX,hzX⟩:=bkn hbX (w.heap.size+1) hz;have hz:=hzX;have Bacc:=Bacc.tr hbX);(try go_wp2_with fail))|(go_at_call 109;go_must (refine(qD _ rows _ (HR.out.Oz Bacc) Hok).mono ?_;rintro e wX ⟨rfl,hbX⟩;rw[<-HT.out];obtain⟨hcX,hfX,hzX⟩:=bkn hbX (w.heap.size+1) hz;have hz:=hzX;have Bacc:=Bacc.tr hbX);(try go_wp2_with fail)))
   refine tK hK fun hHeld=>?_
   clear hK K;refine(tW 3)<|(tW 4)<|(tW 6)<|(tR [5])<|tL fun K hK=>?_
   go_simp
   (first|(go_at_call 108;go_must (refine(uJ _ _ rows l _ (HR.out.Oz Bacc) (HL.out.Oz Bacc)).mono ?_;rintro e wX ⟨rfl,hbX⟩;rw[Hpt.out];obtain⟨hcX,hfX,hzX⟩:=bkn hbX (w.heap.size+1) hz;have hz:=hzX;have Bacc:=Bacc.tr hbX);(try go_wp2_with fail))|(go_at_call 146;go_must (refine(qQ _ l _ (HL.out.Oz Bacc)).mono ?_;rintro e wX ⟨rfl,hbX⟩;rw[<-HS.out];obtain⟨hcX,hfX,hzX⟩:=bkn hbX (w.heap.size+1) hz;have hz:=hzX;have Bacc:=Bacc.tr hbX);(try go_wp2_with fail))|(go_at_call 109;go_must (refine(qD _ rows _ (HR.out.Oz Bacc) Hok).mono ?_;rintro e wX ⟨rfl,hbX⟩;rw[<-HT.out];obtain⟨hcX,hfX,hzX⟩:=bkn hbX (w.heap.size+1) hz;have hz:=hzX;have Bacc:=Bacc.tr hbX);(try go_wp2_with fail)))
   refine tK hK fun hHeld=>?_
   clear hK K;refine(tR [7])<|tL fun K hK=>?_
   go_simp
   (first|(go_at_call 108;go_must (refine(uJ _ _ rows l _ (HR.out.Oz Bacc) (HL.out.Oz Bacc)).mono ?_;rintro e wX ⟨rfl,hbX⟩;rw[Hpt.out];obtain⟨hcX,hfX,hzX⟩:=bkn hbX (w.heap.size+1) hz;have hz:=hzX;have Bacc:=Bacc.tr hbX);(try go_wp2_with fail))|(go_at_call 146;go_must (refine(qQ _ l _ (HL.out.Oz Bacc)).mono ?_;rintro e wX ⟨rfl,hbX⟩;rw[<-HS.out];obtain⟨hcX,hfX,hzX⟩:=bkn hbX (w.heap.size+1) hz;have hz:=hzX;have Bacc:=Bacc.tr hbX);(try go_wp2_with fail))|(go_at_call 109;go_must (refine(qD _ rows _ (HR.out.Oz Bacc) Hok).mono ?_;rintro e wX ⟨rfl,hbX⟩;rw[<-HT.out];obtain⟨hcX,hfX,hzX⟩:=bkn hbX (w.heap.size+1) hz;have hz:=hzX;have Bacc:=Bacc.tr hbX);(try go_wp2_with fail)))
   refine tK hK fun hHeld=>?_
   clear hK K;refine(tW 8)<|(tW 9)<|(tW 10)<|tD ?_
   all_goals
     go_wp2;go_ret;exact⟨kN (by first|exact e2|(simp;done)|simpa using e2),Bacc⟩
theorem qR (v:Value) (rows:List Int) (w:World) (h:Rd 1 bH w v rows):Calls prog 107 #[.agg #[v]] w (jA 70 2 dE (fF rows) w):=by
 obtain⟨A,c,rfl,hc,hm⟩:=h.form;have hA:=(Below.refl w.heap.size w).al (.cells #[.slice A rows.length c] 26);have bX:=Blk.bK w 26 #[.slice A rows.length c];have h':=h.Oz hA;rcases hr:aZ rows with _|_
 . have e : fF rows = [] := by unfold fF; rw [hr]; rfl
   rw[e];go_enter func107,ntmps107
   go_wp2;go_loopw [3,4] (fun s3 s4 wr=>s4= .int .i64 0/\s3= .slice (some ⟨w.heap.size+1,0,none⟩) 0 0/\aC 70 2 dE w.heap.size wr (.slice (some ⟨w.heap.size+1,0,none⟩) 0 0) ([]:List Cl)/\Below (w.alloc (.cells #[.slice A rows.length c] 26)).heap.size (w.alloc (.cells #[.slice A rows.length c] 26)) wr) (fun _ _ _=>0)
   case atStart=>exact⟨rfl,rfl,iK (w.alloc (.cells #[.slice A rows.length c] 26)) (w.heap.size+1) (by simp) _ (by simp),(Below.refl _ _).al _⟩
   case round=>
    obtain⟨rfl,rfl,hown,hbel⟩:=hrel;have zx:=(bX.bl hbel).c1;go_wp2_with fail
    refine(dK _ rows _ (h'.Oz hbel)).mono ?_;rintro e w1 ⟨rfl,hb1⟩;rw[hr];go_wp2;go_ret;exact⟨_,_,rfl,hown.below hb1,(hA.tr hbel).tr hb1⟩
 . have e : fF rows = dU (setOf rows) 64 := by unfold fF; rw [hr]; rfl
   rw[e];have hok:=aN.1 hr;have Hok:=OA hok;have Hr:=OA hr;clear hok e hr;obtain⟨s,hse⟩:=Oy (setOf rows);rw[<-hse];have Hse:=OA hse;clear hse;go_enter func107,ntmps107
   go_wp2;go_loopw [3,4] (fun s3 s4 wr=>∃(k:Nat) (A3:Option Addr) (c3:Nat),k<=64/\s4= .int .i64 k/\s3= .slice A3 (dU s k).length c3/\aC 70 2 dE (w.alloc (.cells #[.slice A rows.length c] 26)).heap.size wr (.slice A3 (dU s k).length c3) (dU s k)/\Below (w.alloc (.cells #[.slice A rows.length c] 26)).heap.size (w.alloc (.cells #[.slice A rows.length c] 26)) wr) (fun _ i _=>64-(intOf i).toNat)
   case atStart=>exact⟨0,_,_,by omega,rfl,rfl,iK (w.alloc (.cells #[.slice A rows.length c] 26)) (w.heap.size+1) (by simp) _ (Nat.le_refl _),(Below.refl _ _).al _⟩
   case round=>
    obtain⟨k,A3,c3,hk,rfl,rfl,hown,hbel⟩:=hrel;have zx:=(bX.bl hbel).c1;by_cases hlt:k<64
    . have hle:=rF s k;have hsucc:=vY s k;obtain⟨x,hx⟩:=Oy (k%8);obtain⟨y,hy⟩:=Oy (k/8);have hx8:x<8:=(by omega);have hy8:y<8:=(by omega);have hk8:8*y+x=k:=(by omega);have hix:gI k=((x:Int),(y:Int)):=by unfold gI;simp only[Prod.mk.injEq];omega
      obtain⟨cs,hcs⟩:=Oy (dU s k);rw[<-hcs]at hle hsucc hown⊢;rw[hix]at hsucc;have H8:Hid ((cs.length+1)*16<=140737488355328):=OA (by omega);have HM:Hid (cs.length+1<=maxLen):=OA (by unfold maxLen;omega);have Hk8:=OA hk8;have Hx:=OA hx;have Hy:=OA hy;have Hsucc:=OA hsucc;have Hcs:=OA hcs;clear hsucc hcs hx hy hix hk8;go_wp2_with fail
      refine(dK _ rows _ (h'.Oz hbel)).mono ?_;rintro e w1 ⟨rfl,hb1⟩;rw[Hr.out];go_wp2_with fail
      refine(H9 k x y _ hlt Hx.out Hy.out).mono ?_;rintro e w2 ⟨rfl,hb2⟩;have B2:=((hbel.tr hb1).tr hb2).al (.cells #[.int .i64 x,.int .i64 y] 70);have bC:=Blk.bK w2 70 #[.int .i64 x,.int .i64 y];have own2:=((hown.below hb1).below hb2).alloc (.cells #[.int .i64 x,.int .i64 y] 70);clear zx;have zx:=(bX.bl B2).c1;have zc0:=bC.cell 0;have zc1:=bC.cell 1;simp only[List.getElem?_toArray,getElem?_cons_zero,getElem?_cons_succ]at zc0 zc1;go_wp2_with fail
      refine(jW _ rows x y _ (h'.Oz B2) Hok hx8 hy8).mono ?_;rintro e w3 ⟨rfl,hb3⟩;rw[<-Hse.out,Hk8.out];have bC3:=bC.bl hb3;have B3:=B2.tr hb3;have own3:=own2.below hb3;rcases hb:s.testBit k with _|_
      . have e : dU s (k + 1) = cs := by rw [Hsucc.out, if_neg (by rw [hb]; simp)]; simp
        have E:=OA e;have Hb:=OA hb;clear e hb;go_wp2;go_roundw
        case rel=>exact⟨k+1,A3,c3,by omega,by go_num,by rw[E.out],by rw[E.out];exact own3,B3⟩
        case measure=>simp[intOf];omega
      . have e : dU s (k + 1) = cs ++ [((x : Int), (y : Int))] := by rw [Hsucc.out, if_pos hb]
        have E:=OA e;have Hb:=OA hb;clear e hb;clear zc0 zc1;have zc0:=bC3.cell 0;have zc1:=bC3.cell 1;simp only[List.getElem?_toArray,getElem?_cons_zero,getElem?_cons_succ]at zc0 zc1;go_wp2_with (at_builtin;go_must (refine aG (enc:=dE) iY dS oneCell B3 own3 (((x:Int),(y:Int)):Cl) H8.out HM.out rfl _ _ rfl rfl rfl ?_);intro v4 w4 own4 hb4 hg4 hd4;obtain⟨A4,c4,rfl,hc4,hm4⟩:=own4.form)
        go_roundw
        case rel=>exact⟨k+1,A4,c4,by omega,by go_num,by rw[E.out];simp,by rw[E.out];exact own4,hb4⟩
        case measure=>simp[intOf];omega
    . obtain rfl : k = 64 := by omega
      go_wp2;go_ret;exact⟨A3,c3,rfl,hown.mono hA.size,hA.tr hbel⟩
theorem rH (v:Value) (rows:List Int) (w:World) (h:Rd 1 bH w v rows):Calls prog 47 #[.agg #[v]] w (Ret (.int .i64 (fF rows).length) w):=by
 obtain⟨A,c,rfl,hc,hm⟩:=h.form;have hA:=(Below.refl w.heap.size w).al (.cells #[.slice A rows.length c] 26);go_enter Tryz.func47,Tryz.ntmps47
 go_wp2_with fail
 refine(qR _ rows _ (h.Oz hA)).mono ?_;rintro e w1 ⟨A1,c1,rfl,own1,hb1⟩;go_wp2;go_ret;exact⟨rfl,hA.tr hb1⟩
theorem sQ (v u:Value) (rows:List Int) (l:List Dm) (w:World) (h:Rd 1 bH w v rows) (h2:Rd 3 aU w u l):Calls prog 43 #[.agg #[v],u] w (Ret (.bool (dP rows l)) w):=by
 obtain⟨A,c,rfl,hc,hm⟩:=h.form;obtain⟨A2,c2,rfl,hc2,hm2⟩:=h2.form;have hA:=((Below.refl w.heap.size w).al (.cells #[.slice A rows.length c] 26));have bX:=Blk.bK w 26 #[.slice A rows.length c];rcases hpt:isPartial rows l with _|_
 . have e : dP rows l = false := by unfold dP; rw [hpt]; rfl
   rw[e];have Hpt:=OA hpt;clear hpt e;go_enter func43,ntmps43
   go_wp2_with fail
   refine(DD _ _ rows l _ (h.Oz hA) (h2.Oz hA)).mono ?_;rintro e w1 ⟨rfl,hb1⟩;rw[Hpt.out];go_wp2;go_ret;exact⟨rfl,hA.tr hb1⟩
 . have ho:=(lG hpt).1;have hlen:=H7 (dX ho) (lG hpt).2;have hle:=yT rows
   have e:dP rows l=((2*(l.length:Int))==((fF rows).length:Int)):=by
    unfold dP;rw[hpt,Bool.true_and,Bool.eq_iff_iff,beq_iff_eq,decide_eq_true_iff];omega
   obtain⟨N,hN⟩:=Oy ((fF rows).length);rw[<-hN]at e hle;rw[e];have Hpt:=OA hpt;have HN:=OA hN;clear hpt e hN ho;have hw2:IntKind.i64.wrap (2*(l.length:Int))=2*(l.length:Int):=IntWalk.i64_in _ (by omega);go_enter func43,ntmps43
   go_wp2_with fail
   refine(DD _ _ rows l _ (h.Oz hA) (h2.Oz hA)).mono ?_;rintro e w1 ⟨rfl,hb1⟩;rw[Hpt.out];have zx:=(bX.bl hb1).c1;go_wp2_with fail
   refine(rH _ rows _ ((h.Oz hA).Oz hb1)).mono ?_;rintro e w2 ⟨rfl,hb2⟩;rw[<-HN.out];go_wp2;go_ret;exact⟨rfl,(hA.tr hb1).tr hb2⟩
end Go.Proofs.YtljfoohaapckeaaGreatDoor
namespace Go.Proofs.YtljfoohaapckeaaGreatDoor
open Go.ChangeShapes Go.WideShapes Go.ChangeAt Go.RowKit
set_option linter.unusedVariables false
set_option maxHeartbeats 4000000
set_option maxRecDepth 100000
def DJ (d:Dm):List Dm->List Dm
  |[]=>[d]
  |e::r=>if aP e<aP d then e::DJ d r else if e=d then e::r else d::e::r
def jR (out:List Dm) (d:Dm):List Dm:=if aH d then DJ d out else out
def jO (out l:List Dm):List Dm:=l.foldl jR out
def iL (l:List Dm):List Dm:=jO [] l
def Sorted (l:List Dm):Prop:=(∀d∈l,aH d=true)/\l.Pairwise fun a b=>aP a<aP b
theorem AZ {a b:Dm} (ha:aH a=true) (hb:aH b=true) (h:aP a=aP b):a=b:=by
 obtain⟨a1,a2,a3⟩:=a;obtain⟨b1,b2,b3⟩:=b;have A:=lC ha;have B:=lC hb;simp only at A B;unfold aP at h;simp only at h
 have e3:a3=b3:=by
  cases a3<;>cases b3<;>simp at h⊢<;>omega
 subst e3;have e2:a2=b2:=(by omega);subst e2;have e1:a1=b1:=(by omega);subst e1;rfl
def lN (d:Dm) (l:List Dm):Nat:=(l.takeWhile fun e=>decide (aP e<aP d)).length
theorem EY (d:Dm):∀l:List Dm,lN d l<=l.length
  |[]=>by simp[lN]
  | e :: r => by
   have:=EY d r;unfold lN at*;rw[List.takeWhile_cons];split<;>simp<;>omega
theorem pR (d e:Dm) (r:List Dm):lN d (e::r)=if aP e<aP d then lN d r+1 else 0:=by
 unfold lN;rw[List.takeWhile_cons];by_cases h:aP e<aP d<;>simp[h]
theorem xM (d:Dm):∀(l:List Dm) (k:Nat) (h:k<l.length),k<lN d l->aP l[k]<aP d
  |[],k,h,_=>by simp at h
  | e :: r, k, h, hk => by
   rw[pR]at hk;split at hk
   . cases k with
     |zero=>simpa
     |succ k=>simp only[List.getElem_cons_succ];exact xM d r k (by simpa using h) (by omega)
   . omega
theorem EZ (d:Dm):∀(l:List Dm) (h:lN d l<l.length),¬aP l[lN d l]<aP d
  |[],h=>by simp at h
  | e :: r, h => by
   by_cases q:aP e<aP d
   . have e1 : lN d (e :: r) = lN d r + 1 := by rw [pR, if_pos q]
     simp only[e1,List.getElem_cons_succ];exact EZ d r (by rw[e1]at h;simpa using h)
   . have e1 : lN d (e :: r) = 0 := by rw [pR, if_neg q]
     simp only[e1,List.getElem_cons_zero];exact q
theorem Gf (d:Dm):∀l:List Dm,DJ d l=if l[lN d l]? =some d then l else l.take (lN d l)++d::l.drop (lN d l)
  |[]=>by simp[DJ,lN]
  | e :: r => by
   unfold DJ;by_cases q:aP e<aP d
   . rw[if_pos q,pR,if_pos q,Gf d r];simp only[getElem?_cons_succ,List.take_succ_cons,List.drop_succ_cons];split<;>rfl
   . rw[if_neg q,pR,if_neg q];simp only[getElem?_cons_zero,List.take_zero,List.drop_zero,List.nil_append,Option.some.injEq]
theorem Cq (d:Dm):∀(l:List Dm) (x:Dm),x∈DJ d l↔x=d∨x∈l
  |[],x=>by simp[DJ]
  | e :: r, x => by
   unfold DJ;split
   . rw[mem_cons,Cq d r,mem_cons];constructor<;>rintro(h|h|h)<;>simp[h]
   . split
     . rename_i h;subst h;simp
     . simp
theorem Bb {d:Dm} (hd:aH d=true):∀{l:List Dm},Sorted l->Sorted (DJ d l)
  |[],h=>⟨fun x hx=>by simp[DJ]at hx;rw[hx];exact hd,by simp[DJ]⟩
  | e :: r, h => by
   have hr:Sorted r:=⟨fun x hx=>h.1 x (mem_cons_of_mem _ hx),(List.pairwise_cons.1 h.2).2⟩;have he:=h.1 e (mem_cons_self ..);have hep:=(List.pairwise_cons.1 h.2).1;have ih:=Bb hd hr;unfold DJ;split
   . rename_i q;refine⟨fun x hx=> ?_,List.pairwise_cons.2 ⟨fun x hx=> ?_,ih.2⟩⟩
     . rcases List.mem_cons.1 hx with rfl|hx
       . exact he
       . exact ih.1 x hx
     . rcases(Cq d r x).1 hx with rfl|hx
       . exact q
       . exact hep x hx
   . rename_i q;split
     . exact h
     . rename_i q2;have hne:aP e≠aP d:=fun h'=>q2 (AZ he hd h')
       refine⟨fun x hx=> ?_,List.pairwise_cons.2 ⟨fun x hx=> ?_,h.2⟩⟩
       . rcases List.mem_cons.1 hx with rfl|hx
         . exact hd
         . exact h.1 x hx
       . rcases List.mem_cons.1 hx with rfl|hx
         . omega
         . have:=hep x hx;omega
theorem iO {out:List Dm} (h:Sorted out) (d:Dm):Sorted (jR out d):=by
 unfold jR;split
 . rename_i q;exact Bb q h
 . exact h
theorem DK:∀(l:List Dm) {out:List Dm},Sorted out->Sorted (jO out l)
  |[],out,h=>h
  |d::r,out,h=>DK r (iO h d)
theorem vP:Sorted []:=⟨by simp,List.Pairwise.nil⟩
theorem vZ (l:List Dm):Sorted (iL l):=DK l vP
theorem wC:∀(l:List Int) (n:Nat),l.Pairwise (· <·)->(∀x∈l,(128:Int)-n<=x/\x<128)->l.length<=n
  |[],n,_,_=>by simp
  | x :: r, n, hp, hb => by
   have h1:=hb x (mem_cons_self ..);cases n with
   |zero=>omega
   |succ n=>
    have := wC r n (List.pairwise_cons.1 hp).2 (fun y hy => by
     have h2:=hb y (mem_cons_of_mem _ hy);have h3:=(List.pairwise_cons.1 hp).1 y hy;omega)
    simp;omega
theorem vQ {l:List Dm} (h:Sorted l):l.length<=128:=by
 have := wC (l.map aP) 128 (List.pairwise_map.2 h.2) (fun x hx => by
  obtain⟨d,hd,rfl⟩:=List.mem_map.1 hx;have:=J4 (h.1 d hd);omega)
 simpa using this
theorem Ia {l:List Dm} (h:Sorted l) {d:Dm} {k:Nat} (hk:k<l.length):aP l[k]<aP d↔k<lN d l:=by
 constructor
 . intro q;by_cases hn:k<lN d l
   . exact hn
   . exfalso;have hp:lN d l<l.length:=(by omega);have:=EZ d l hp;by_cases e:lN d l=k
     . subst e;exact this q
     . have:=List.pairwise_iff_getElem.1 h.2 _ _ hp hk (by omega);omega
 . exact xM d l k hk
theorem FJ {l:List Dm} (h:Sorted l) {d:Dm} (hd:aH d=true) {k:Nat} (hk:k<l.length):(aP l[k]>aP d)↔(if l[lN d l]? =some d then lN d l+1 else lN d l)<=k:=by
 by_cases q:l[lN d l]? =some d
 . rw[if_pos q];obtain⟨hp,e⟩:=List.getElem?_eq_some_iff.1 q;constructor
   . intro hgt;by_cases hn:lN d l+1<=k
     . exact hn
     . exfalso;by_cases e2:k=lN d l
       . subst e2;rw[e]at hgt;omega
       . have:=xM d l k hk (by omega);omega
   . intro hle;have:=List.pairwise_iff_getElem.1 h.2 _ _ hp hk (by omega);rw[e]at this;omega
 . rw[if_neg q];constructor
   . intro hgt;by_cases hn:lN d l<=k
     . exact hn
     . have:=xM d l k hk (by omega);omega
   . intro hle;have hp:lN d l<l.length:=(by omega);have h1:=EZ d l hp
     have hne:aP l[lN d l]≠aP d:=by
      intro e;apply q;rw[List.getElem?_eq_getElem hp,AZ (h.1 _ (List.getElem_mem hp)) hd e]
     by_cases e2:k=lN d l
     . subst e2;omega
     . have:=List.pairwise_iff_getElem.1 h.2 _ _ hp hk (by omega);omega
def nQ (c:Cl):Dm×Dm:=((c.1,c.2,false),(c.1,c.2+1,false))
def rJ (c:Cl):Dm×Dm:=((c.1,c.2,true),(c.1+1,c.2,true))
def jP (c:Cl):Bool:=decide (0<=c.1/\c.1<=6)&&decide (0<=c.2/\c.2<=6)
def eO (l:List Dm) (p:Dm×Dm):Bool:=l.contains p.1&&l.contains p.2
def kindOf (l:List Dm) (c:Cl):Nat:=if jP c then(if eO l (nQ c)then 1 else if eO l (rJ c)then 2 else 0)else 0
def lT (k:Nat) (c:Cl):Dm×Dm:=if k=1 then nQ c else rJ c
def nJ (k:Nat) (c:Cl):Dm×Dm:=if k=1 then rJ c else nQ c
def keepD (g:Dm×Dm) (d:Dm):Bool:= !(decide (d=g.1)||decide (d=g.2))
def iF (l:List Dm) (g n:Dm×Dm):List Dm:=[n.1,n.2]++l.filter (keepD g)
def aS (l:List Dm) (c:Cl):List Dm:=iL (iF l (lT (kindOf l c) c) (nJ (kindOf l c) c))
def iM (l:List Dm) (c:Cl):List Dm×Bool:=if kindOf l c=0 then(l,false)else(aS l c,true)
theorem DN (l:List Dm) (c:Cl):kindOf l c<=2:=by unfold kindOf;split<;>(try split)<;>(try split)<;>omega
theorem Bc (l:List Dm) (c:Cl):(aS l c).length<=128:=vQ (vZ _)
def fJ (l:List Dm):List Cl->Option (List Dm)
  |[]=>some l
  |c::r=>if kindOf l c=0 then none else fJ (aS l c) r
def dD (l:List Dm) (cs:List Cl):List Dm×Bool:=if cs.length>200 then(l,false)else match fJ l cs with|none=>(l,false)|some m=>(m,true)
def dV (rows:List Int) (f n:List Dm) (cs:List Cl):Bool:=dP rows f&&decide (cs.length<=60)&&(dD f cs).2&&decide ((dD f cs).1=n)
def Apart (a b:Dm):Prop:=∀j,(aK a).testBit j=true->(aK b).testBit j=false
def In (s:Nat) (d:Dm):Prop:=aH d=true/\∀j,(aK d).testBit j=true->s.testBit j=true
def jQ (s:Nat) (l:List Dm):Prop:=(∀d∈l,In s d)/\(l.Pairwise fun a b=>aP a<aP b)/\l.Pairwise Apart
theorem jQ.tail {s:Nat} {d:Dm} {l:List Dm} (h:jQ s (d::l)):jQ s l:=
 ⟨fun e he=>h.1 e (mem_cons_of_mem _ he),(List.pairwise_cons.1 h.2.1).2,(List.pairwise_cons.1 h.2.2).2⟩
theorem uU {a b:Nat} (h:∀j,b.testBit j=true->a.testBit j=true):a&&&b=b:=by
 apply Nat.eq_of_testBit_eq;intro j;rw[Nat.testBit_and];rcases q:b.testBit j with _|_
 . simp
 . rw[h j q];rfl
theorem jQ.less {s:Nat} (hs:s<U64) {d:Dm} {l:List Dm} (h:jQ s (d::l)):jQ (dN s (aK d)) l:=by
 refine⟨fun e he=> ?_,h.tail.2⟩;obtain⟨e1,e2⟩:=h.tail.1 e he;refine⟨e1,fun j hj=> ?_⟩;rw[iQ hs (eB (h.1 d (mem_cons_self ..)).1),e2 j hj,Bool.true_and,Bool.not_eq_true'];rcases q:(aK d).testBit j with _|_
 . rfl
 . have:=(List.pairwise_cons.1 h.2.2).1 e he j q;rw[hj]at this;cases this
theorem DU:∀{l:List Dm} {s:Nat} {p:Option Dm},s<U64->jQ s l->(∀e,p=some e->∀d,l.head? =some d->aP e<aP d)->jN s p l=true
  |[],s,p,_,_,_=>rfl
  | d :: r, s, p, hs, h, hp => by
   obtain⟨d1,d2⟩:=h.1 d (mem_cons_self ..)
   have ih := DU (p := some d) (eQ hs) (h.less hs) (fun e he d' hd' => by
    cases he;cases r with
    |nil=>cases hd'
    |cons x y=>injection hd' with hd';subst hd';exact(List.pairwise_cons.1 h.2.1).1 _ (mem_cons_self ..))
   rw[oJ,d1,ih,decide_eq_true (uU d2)];cases p with
   |none=>rfl
   |some e=>simp only[nW,Bool.true_and,Bool.and_true,decide_eq_true_eq];exact hp e rfl d rfl
theorem DV:∀{l:List Dm} {s:Nat} {p:Option Dm},s<U64->jN s p l=true->jQ s l/\∀e,p=some e->∀d∈l,aP e<aP d
  |[],s,p,_,_=>⟨⟨by simp,List.Pairwise.nil,List.Pairwise.nil⟩,by simp⟩
  | d :: r, s, p, hs, h => by
   obtain⟨d1,d2,d3⟩:=qP h;obtain⟨⟨a,b,c⟩,f⟩:=DV (eQ hs) d3;have hd:=eB d1;refine⟨⟨fun e he=> ?_,List.pairwise_cons.2 ⟨fun e he=>f d rfl e he,b⟩,List.pairwise_cons.2 ⟨fun e he j hj=> ?_,c⟩⟩,?_⟩
   . rcases List.mem_cons.1 he with rfl|he
     . exact⟨d1,fun j hj=>nP d2 j hj⟩
     . refine ⟨(a e he).1, fun j hj => ?_⟩;have:=(a e he).2 j hj;rw[iQ hs hd,and_eq_true]at this;exact this.1
   . rcases q:(aK e).testBit j with _|_
     . rfl
     . have:=(a e he).2 j q;rw[iQ hs hd,hj]at this;simp at this
   . intro e he x hx;subst he;rw[oJ]at h;simp only[and_eq_true,nW,decide_eq_true_eq]at h;have h1:=h.1.2;rcases List.mem_cons.1 hx with rfl|hx
     . exact h1
     . have:=f d rfl x hx;omega
theorem pG {rows:List Int} {l:List Dm}:isPartial rows l=true↔dJ rows/\jQ (setOf rows) l:=by
 constructor
 . intro h;obtain⟨a,b⟩:=lG h;exact⟨a,(DV (dX a) b).1⟩
 . rintro⟨a,b⟩;unfold isPartial;rw[aN.2 a,DU (dX a) b (by simp)];rfl
theorem DW : ∀ {l m : List Dm}, l.Pairwise (fun a b => aP a < aP b) -> m.Pairwise (fun a b => aP a < aP b) -> (∀ d, d ∈ l ↔ d ∈ m) -> l = m
  |[],[],_,_,_=>rfl
  |[],d::m,_,_,h=>by have:=(h d).2 (mem_cons_self ..);cases this
  |d::l,[],_,_,h=>by have:=(h d).1 (mem_cons_self ..);cases this
  | d :: l, e :: m, hl, hm, h => by
   have hl2:=List.pairwise_cons.1 hl;have hm2:=List.pairwise_cons.1 hm
   have hde:d=e:=by
    rcases List.mem_cons.1 ((h d).1 (mem_cons_self ..))with q|q
    . exact q
    . rcases List.mem_cons.1 ((h e).2 (mem_cons_self ..))with r|r
      . exact r.symm
      . have a:=hm2.1 d q;have b:=hl2.1 e r;omega
   subst hde;congr 1
   refine DW hl2.2 hm2.2 (fun x=> ?_);have hx:=h x;rw[mem_cons,mem_cons]at hx;constructor
   . intro q;rcases hx.1 (.inr q)with r|r
     . subst r;have:=hl2.1 x q;omega
     . exact r
   . intro q;rcases hx.2 (.inr q)with r|r
     . subst r;have:=hm2.1 x q;omega
     . exact r
theorem Ai {s:Nat} {d:Dm}:In s d↔aH d=true/\s.testBit (dM d)=true/\s.testBit (fU d)=true:=by
 constructor
 . rintro⟨a,b⟩;exact⟨a,b _ (by rw[aR a];simp),b _ (by rw[aR a];simp)⟩
 . rintro⟨a,b,c⟩;refine⟨a,fun j hj=> ?_⟩;rw[aR a,or_eq_true,decide_eq_true_eq,decide_eq_true_eq]at hj;rcases hj with rfl|rfl
   . exact b
   . exact c
theorem jZ {a b : Dm} (h : Apart a b) : Apart b a := fun j hj => by
 rcases q:(aK a).testBit j with _|_
 . rfl
 . rw[h j q]at hj;cases hj
theorem jQ.apart {s:Nat} {l:List Dm} (h:jQ s l) {a b:Dm} (ha:a∈l) (hb:b∈l) (hne:a≠b):Apart a b:=by
 have:∀{m:List Dm},m.Pairwise Apart->a∈m->b∈m->Apart a b:=by
  intro m;induction m with
  |nil=>intro _ h;cases h
  |cons x m ih=>
   intro hp h1 h2;obtain⟨p1,p2⟩:=List.pairwise_cons.1 hp;rcases List.mem_cons.1 h1 with e1|h1'
   . rcases List.mem_cons.1 h2 with e|h2'
     . exact absurd (e1.trans e.symm) hne
     . rw[e1];exact p1 b h2'
   . rcases List.mem_cons.1 h2 with e|h2'
     . rw[e];exact jZ (p1 a h1')
     . exact ih p2 h1' h2'
 exact this h.2.2 ha hb
theorem Bd:∀(l out:List Dm) (x:Dm),x∈jO out l↔x∈out∨(x∈l/\aH x=true)
  |[],out,x=>by simp[jO]
  | d :: r, out, x => by
   have e:jO out (d::r)=jO (jR out d) r:=rfl;rw[e,Bd r];unfold jR;by_cases q:aH d=true
   . rw[if_pos q,Cq];constructor
     . rintro((rfl|h)|⟨h,k⟩)
       . exact .inr ⟨mem_cons_self ..,q⟩
       . exact .inl h
       . exact .inr ⟨mem_cons_of_mem _ h,k⟩
     . rintro(h|⟨h,k⟩)
       . exact .inl (.inr h)
       . rcases List.mem_cons.1 h with rfl|h
         . exact .inl (.inl rfl)
         . exact .inr ⟨h,k⟩
   . rw[if_neg q];constructor
     . rintro(h|⟨h,k⟩)
       . exact .inl h
       . exact .inr ⟨mem_cons_of_mem _ h,k⟩
     . rintro(h|⟨h,k⟩)
       . exact .inl h
       . rcases List.mem_cons.1 h with rfl|h
         . exact absurd k q
         . exact .inr ⟨h,k⟩
theorem DX (l:List Dm) (x:Dm):x∈iL l↔x∈l/\aH x=true:=by unfold iL;rw[Bd];simp
theorem sS (l:List Dm) (g n:Dm×Dm) (x:Dm):x∈iF l g n↔x=n.1∨x=n.2∨(x∈l/\x≠g.1/\x≠g.2):=by
 unfold iF keepD;simp[List.mem_filter]
structure Sq (g n:Dm×Dm):Prop where
  ok:aH g.1=true/\aH g.2=true/\aH n.1=true/\aH n.2=true
  same:∀j,((aK g.1).testBit j||(aK g.2).testBit j)=((aK n.1).testBit j||(aK n.2).testBit j)
  apart:Apart g.1 g.2/\Apart n.1 n.2
  meet:¬Apart g.1 n.1/\¬Apart g.1 n.2
  NC:¬Apart g.2 n.1/\¬Apart g.2 n.2
  ne:g.1≠n.1/\g.1≠n.2/\g.2≠n.1/\g.2≠n.2
theorem Sq.symm {g n:Dm×Dm} (h:Sq g n):Sq n g:=
 ⟨⟨h.ok.2.2.1, h.ok.2.2.2, h.ok.1, h.ok.2.1⟩, fun j => (h.same j).symm, ⟨h.apart.2, h.apart.1⟩,
   ⟨fun q=>h.meet.1 (jZ q),fun q=>h.NC.1 (jZ q)⟩,⟨fun q=>h.meet.2 (jZ q),fun q=>h.NC.2 (jZ q)⟩,
   ⟨h.ne.1.symm,h.ne.2.2.1.symm,h.ne.2.1.symm,h.ne.2.2.2.symm⟩⟩
theorem Da {g n:Dm×Dm} (h:Sq g n) {j:Nat}:((aK n.1).testBit j=true∨(aK n.2).testBit j=true)->((aK g.1).testBit j=true∨(aK g.2).testBit j=true):=by
 have:=h.same j;rw[<-or_eq_true,<-or_eq_true,this];exact id
theorem E5 {s:Nat} {l:List Dm} {g n:Dm×Dm} (h:jQ s l) (hs:Sq g n) (h1:g.1∈l) (h2:g.2∈l):
 jQ s (iL (iF l g n))/\(∀x,x∈iL (iF l g n)↔x=n.1∨x=n.2∨(x∈l/\x≠g.1/\x≠g.2))/\n.1∉l/\n.2∉l:=by
 have hm : ∀ x, x ∈ iL (iF l g n) ↔ x = n.1 ∨ x = n.2 ∨ (x ∈ l /\ x ≠ g.1 /\ x ≠ g.2) := fun x => by
  rw[DX,sS];constructor
  . exact fun q=>q.1
  . intro q;refine⟨q,?_⟩;rcases q with rfl|rfl|⟨q,_⟩
    . exact hs.ok.2.2.1
    . exact hs.ok.2.2.2
    . exact(h.1 x q).1
 have hsort:=vZ (iF l g n);have hg1:=h.1 _ h1;have hg2:=h.1 _ h2
 have hin : ∀ j, ((aK n.1).testBit j = true ∨ (aK n.2).testBit j = true) -> s.testBit j = true := fun j hj => by
  rcases Da hs hj with q|q
  . exact hg1.2 j q
  . exact hg2.2 j q
 have hold : ∀ x ∈ l, x ≠ g.1 -> x ≠ g.2 -> Apart n.1 x /\ Apart n.2 x := fun x hx e1 e2 => by
  have a1:=h.apart h1 hx (Ne.symm e1);have a2:=h.apart h2 hx (Ne.symm e2);refine⟨fun j hj=> ?_,fun j hj=> ?_⟩
  . rcases Da hs (.inl hj)with q|q
    . exact a1 j q
    . exact a2 j q
  . rcases Da hs (.inr hj)with q|q
    . exact a1 j q
    . exact a2 j q
 have hall:∀x,x∈iL (iF l g n)->∀y,y∈iL (iF l g n)->x≠y->Apart x y:=by
  intro x hx y hy hne;rcases(hm x).1 hx with rfl|rfl|⟨qx,qx1,qx2⟩<;>rcases(hm y).1 hy with rfl|rfl|⟨qy,qy1,qy2⟩
  . exact absurd rfl hne
  . exact hs.apart.2
  . exact(hold y qy qy1 qy2).1
  . exact jZ hs.apart.2
  . exact absurd rfl hne
  . exact(hold y qy qy1 qy2).2
  . exact jZ (hold x qx qx1 qx2).1
  . exact jZ (hold x qx qx1 qx2).2
  . exact h.apart qx qy hne
 refine⟨⟨fun x hx=> ?_,hsort.2,?_⟩,hm,?_,?_⟩
 . rcases(hm x).1 hx with rfl|rfl|⟨q,_⟩
   . exact⟨hs.ok.2.2.1,fun j hj=>hin j (.inl hj)⟩
   . exact⟨hs.ok.2.2.2,fun j hj=>hin j (.inr hj)⟩
   . exact h.1 x q
 . refine List.Pairwise.imp_of_mem (fun {a b} ha hb hab => ?_) hsort.2;exact hall a ha b hb (fun e=>by subst e;omega)
 . intro q;exact hs.meet.1 (h.apart h1 q hs.ne.1)
 . intro q;exact hs.meet.2 (h.apart h1 q hs.ne.2.1)
theorem J8 {s:Nat} {l:List Dm} {g n:Dm×Dm} (h:jQ s l) (hs:Sq g n) (h1:g.1∈l) (h2:g.2∈l):
 iL (iF (iL (iF l g n)) n g)=l:=by
 obtain⟨a,b,c,d⟩:=E5 h hs h1 h2;obtain⟨a',b',_,_⟩:=E5 a hs.symm ((b _).2 (.inl rfl)) ((b _).2 (.inr (.inl rfl)));refine DW a'.2.1 h.2.1 (fun x=> ?_);rw[b',b];constructor
 . rintro(rfl|rfl|⟨q,q1,q2⟩)
   . exact h1
   . exact h2
   . rcases q with q|q|q
     . exact absurd q q1
     . exact absurd q q2
     . exact q.1
 . intro q;by_cases e1:x=g.1
   . exact .inl e1
   . by_cases e2:x=g.2
     . exact .inr (.inl e2)
     . exact .inr (.inr ⟨.inr (.inr ⟨q,e1,e2⟩),fun e=>c (e▸q),fun e=>d (e▸q)⟩)
theorem Be {x y:Int} (h:aV (x,y)=true):(cO (x,y)).toNat=(y*8+x).toNat:=by rw[(dG h).1]
theorem NM {c:Cl} (hc:jP c=true):Sq (nQ c) (rJ c):=by
 obtain⟨x,y⟩:=c;unfold jP at hc;rw[and_eq_true,decide_eq_true_eq,decide_eq_true_eq]at hc;simp only at hc;obtain⟨⟨x0,x1⟩,y0,y1⟩:=hc;have w1:wrap64 (x+1)=x+1:=by unfold wrap64;omega
 have w2:wrap64 (y+1)=y+1:=by unfold wrap64;omega
 have s1:sec (x,y,false)=(x+1,y):=by unfold sec;simp[w1]
 have s2:sec (x,y+1,false)=(x+1,y+1):=by unfold sec;simp[w1]
 have s3:sec (x,y,true)=(x,y+1):=by unfold sec;simp[w2]
 have s4:sec (x+1,y,true)=(x+1,y+1):=by unfold sec;simp[w2]
 have c1:aV (x,y)=true:=bQ.2 (by simp only;omega);have c2:aV (x+1,y)=true:=bQ.2 (by simp only;omega);have c3:aV (x,y+1)=true:=bQ.2 (by simp only;omega);have c4:aV (x+1,y+1)=true:=bQ.2 (by simp only;omega);have d1:aH (x,y,false)=true:=by unfold aH;rw[s1];simp[c1,c2]
 have d2:aH (x,y+1,false)=true:=by unfold aH;rw[s2];simp[c3,c4]
 have d3:aH (x,y,true)=true:=by unfold aH;rw[s3];simp[c1,c3]
 have d4:aH (x+1,y,true)=true:=by unfold aH;rw[s4];simp[c2,c4]
 have b1 : ∀ j, (aK (x, y, false)).testBit j = (decide ((y * 8 + x).toNat = j) || decide ((y * 8 + (x + 1)).toNat = j)) := fun j => by
  rw[aR d1];unfold dM fU;rw[s1];simp only;rw[Be c1,Be c2]
 have b2 : ∀ j, (aK (x, y + 1, false)).testBit j = (decide (((y + 1) * 8 + x).toNat = j) || decide (((y + 1) * 8 + (x + 1)).toNat = j)) := fun j => by
  rw[aR d2];unfold dM fU;rw[s2];simp only;rw[Be c3,Be c4]
 have b3 : ∀ j, (aK (x, y, true)).testBit j = (decide ((y * 8 + x).toNat = j) || decide (((y + 1) * 8 + x).toNat = j)) := fun j => by
  rw[aR d3];unfold dM fU;rw[s3];simp only;rw[Be c1,Be c3]
 have b4 : ∀ j, (aK (x + 1, y, true)).testBit j = (decide ((y * 8 + (x + 1)).toNat = j) || decide (((y + 1) * 8 + (x + 1)).toNat = j)) := fun j => by
  rw[aR d4];unfold dM fU;rw[s4];simp only;rw[Be c2,Be c4]
 have no:∀{a b:Dm} (j:Nat),(aK a).testBit j=true->(aK b).testBit j=true->¬Apart a b:=fun j h1 h2 h=>by rw[h j h1]at h2;cases h2
 unfold nQ rJ;refine⟨⟨d1,d2,d3,d4⟩,fun j=> ?_,⟨fun j hj=> ?_,fun j hj=> ?_⟩,⟨?_,?_⟩,⟨?_,?_⟩,?_⟩
 . simp only;rw[b1,b2,b3,b4,Bool.eq_iff_iff];simp only[or_eq_true,decide_eq_true_eq];constructor<;>rintro((h|h)|h|h)<;>simp[h]
 . simp only at hj⊢;rw[b1,or_eq_true,decide_eq_true_eq,decide_eq_true_eq]at hj;rw[b2,Bool.or_eq_false_iff,decide_eq_false_iff_not,decide_eq_false_iff_not];omega
 . simp only at hj⊢;rw[b3,or_eq_true,decide_eq_true_eq,decide_eq_true_eq]at hj;rw[b4,Bool.or_eq_false_iff,decide_eq_false_iff_not,decide_eq_false_iff_not];omega
 . exact no (y*8+x).toNat (by rw[b1];simp) (by rw[b3];simp)
 . exact no (y*8+(x+1)).toNat (by rw[b1];simp) (by rw[b4];simp)
 . exact no ((y+1)*8+x).toNat (by rw[b2];simp) (by rw[b3];simp)
 . exact no ((y+1)*8+(x+1)).toNat (by rw[b2];simp) (by rw[b4];simp)
 . simp
theorem E8 {l:List Dm} {c:Cl} (h:kindOf l c≠0):jP c=true:=by
 unfold kindOf at h;rcases q:jP c with _|_
 . rw[q]at h;simp at h
 . rfl
theorem Jk {l:List Dm} {c:Cl} (h:kindOf l c≠0):Sq (lT (kindOf l c) c) (nJ (kindOf l c) c)/\(lT (kindOf l c) c).1∈l/\(lT (kindOf l c) c).2∈l:=by
 have hin:=E8 h;have hsq:=NM hin;have hk:kindOf l c=if eO l (nQ c)then 1 else if eO l (rJ c)then 2 else 0:=by unfold kindOf;rw[hin];rfl
 by_cases q:eO l (nQ c)=true
 . rw[if_pos q]at hk;rw[hk];unfold eO at q;rw[and_eq_true,contains_iff_mem,contains_iff_mem]at q;exact⟨hsq,q⟩
 . rw[if_neg q]at hk;by_cases r:eO l (rJ c)=true
   . rw[if_pos r]at hk;rw[hk];unfold eO at r;rw[and_eq_true,contains_iff_mem,contains_iff_mem]at r;exact⟨hsq.symm,r⟩
   . rw[if_neg r]at hk;exact absurd hk h
theorem Jl {s:Nat} {l:List Dm} {c:Cl} (h:jQ s l) (hk:kindOf l c≠0):jQ s (aS l c)/\kindOf (aS l c) c≠0/\aS (aS l c) c=l:=by
 obtain⟨hsq,h1,h2⟩:=Jk hk;have hin:=E8 hk;obtain⟨a,b,_,_⟩:=E5 h hsq h1 h2;have hback:=J8 h hsq h1 h2;have e:aS l c=iL (iF l (lT (kindOf l c) c) (nJ (kindOf l c) c)):=rfl;rw[<-e]at a b hback;have hkk:kindOf l c=1∨kindOf l c=2:=by have:=DN l c;omega
 have hk2:kindOf (aS l c) c=3-kindOf l c:=by
  have hk':kindOf (aS l c) c=if eO (aS l c) (nQ c)then 1 else if eO (aS l c) (rJ c)then 2 else 0:=by conv=>lhs;unfold kindOf;rw[hin,if_pos rfl]
  rw[hk'];rcases hkk with q|q
  . rw[q]at b hsq⊢
    have b1:eO (aS l c) (nQ c)=false:=by
     unfold eO;rw[Bool.and_eq_false_iff];left;rcases r:(aS l c).contains (nQ c).1 with _|_
     . rfl
     . rw[contains_iff_mem,b]at r;rcases r with r|r|r
       . exact absurd r hsq.ne.1
       . exact absurd r hsq.ne.2.1
       . exact absurd rfl r.2.1
    have b2:eO (aS l c) (rJ c)=true:=by
     unfold eO;rw[and_eq_true,contains_iff_mem,contains_iff_mem,b,b];exact⟨.inl rfl,.inr (.inl rfl)⟩
    rw[b1,b2];rfl
  . rw[q]at b hsq⊢
    have b2:eO (aS l c) (nQ c)=true:=by
     unfold eO;rw[and_eq_true,contains_iff_mem,contains_iff_mem,b,b];exact⟨.inl rfl,.inr (.inl rfl)⟩
    rw[b2];rfl
 refine⟨a,by omega,?_⟩;have e2:aS (aS l c) c=iL (iF (aS l c) (lT (kindOf (aS l c) c) c) (nJ (kindOf (aS l c) c) c)):=rfl;rw[e2,hk2];rcases hkk with q|q
 . rw[q]at hback⊢;exact hback
 . rw[q]at hback⊢;exact hback
theorem yY : ∀ (cs : List Cl) (l : List Dm) (c : Cl), fJ l (cs ++ [c]) = (fJ l cs).bind fun m => if kindOf m c = 0 then none else some (aS m c)
  |[],l,c=>by simp[fJ]
  | d :: r, l, c => by
   simp only[List.cons_append,fJ];split
   . rfl
   . exact yY r _ c
abbrev Fl:=List Int×List Dm×List Dm×List Cl
def xN (x:Fl) (j:Nat):Fl:=(x.1,x.2.1,(dD x.2.1 (x.2.2.2.take j)).1,x.2.2.2.take j)
def lH (x:Fl):Bool:=dV x.1 x.2.1 x.2.2.1 x.2.2.2
def E9 (x:Fl) (c:Cl):Fl×Bool:=if lH x=true/\x.2.2.2.length≠60/\kindOf x.2.2.1 c≠0 then((x.1,x.2.1,aS x.2.2.1 c,x.2.2.2++[c]),true)else(x,false)
def uV (x:Fl):Fl×Bool:=if lH x=true/\x.2.2.2.length≠0 then(xN x (x.2.2.2.length-1),true)else(x,false)
def iB (x:Fl):Fl:=if lH x=true then xN x 0 else x
theorem yZ:∀(cs:List Cl) {l m:List Dm} (j:Nat),fJ l cs=some m->∃k,fJ l (cs.take j)=some k
  |[],l,m,j,h=>⟨l,by simp[fJ]⟩
  |c::r,l,m,0,h=>⟨l,by simp[fJ]⟩
  | c :: r, l, m, j + 1, h => by
   unfold fJ at h;split at h
   . cases h
   . rename_i q;obtain⟨k,hk⟩:=yZ r j h;exact⟨k,by rw[List.take_succ_cons];unfold fJ;rw[if_neg q];exact hk⟩
theorem lI {x:Fl}:lH x=true↔dP x.1 x.2.1=true/\x.2.2.2.length<=60/\fJ x.2.1 x.2.2.2=some x.2.2.1:=by
 unfold lH dV;rw[and_eq_true,and_eq_true,and_eq_true,decide_eq_true_eq,decide_eq_true_eq];constructor
 . rintro⟨⟨⟨h1,h2⟩,h3⟩,h4⟩;refine⟨h1,h2,?_⟩;unfold dD at h3 h4;rw[if_neg (by omega)]at h3 h4;split at h3
   . cases h3
   . rename_i m q;rw[q]at h4⊢;exact congrArg some h4
 . rintro⟨h1,h2,h3⟩;unfold dD;rw[if_neg (by omega),h3];exact⟨⟨⟨h1,h2⟩,rfl⟩,rfl⟩
theorem FK {rows:List Int} {f:List Dm} (h:dP rows f=true):dJ rows/\jQ (setOf rows) f:=by
 unfold dP at h;rw[and_eq_true]at h;exact pG.1 h.1
theorem Fa {x:Fl} (h:lH x=true) (j:Nat):fJ x.2.1 (x.2.2.2.take j)=some (xN x j).2.2.1:=by
 obtain⟨h1,h2,h3⟩:=lI.1 h;obtain⟨k,hk⟩:=yZ _ j h3;rw[hk];unfold xN dD;simp only;rw[if_neg (by rw[length_take];omega),hk]
theorem MH {x:Fl} (h:lH x=true) (j:Nat):lH (xN x j)=true:=by
 obtain⟨h1,h2,h3⟩:=lI.1 h;exact lI.2 ⟨h1,by show(x.2.2.2.take j).length<=60;rw[length_take];omega,Fa h j⟩
theorem J9 {x:Fl} (h:lH x=true):xN x x.2.2.2.length=x:=by
 obtain⟨h1,h2,h3⟩:=lI.1 h;have:=Fa h x.2.2.2.length;rw[List.take_length,h3]at this;injection this with this;obtain⟨a,b,c,d⟩:=x;unfold xN at this⊢;simp only[List.take_length]at this⊢;rw[<-this]
theorem MI (x:Fl) {i j:Nat} (h:i<=j):xN (xN x j) i=xN x i:=by
 unfold xN;simp only[List.take_take];rw[Nat.min_eq_left h]
theorem KW {x:Fl} {j:Nat} (h:j<=x.2.2.2.length):(xN x j).2.2.2.length=j:=by
 unfold xN;simp only[length_take];omega
theorem Bf {x:Fl} (h:lH x=true):x.2.2.2.length<=60:=(lI.1 h).2.1
end Go.Proofs.YtljfoohaapckeaaGreatDoor
