/- Tilings: a partial covering covers all cells if and only if it has half as many dominoes as there are cells. Plain laws. IsTiling of both sides; the cells of a region as the reference lists them: the walks. No conditions but sizes. Sorted dominoes and flips: the functions and their plain laws. Partial coverings as a property: valid dominoes in order that share no cell. Plain laws. A flip of a partial covering is one, and the same flip again takes it back. Plain laws. Floors whose flips are made and taken back. Plain laws.. Conditions, where there are any, stand in the statements. -/
import Derived.Test.YtljfoohaapckeaaGreatDoorBK4
import Derived.Test.YtljfoohaapckeaaGreatDoorBK3
import Derived.IntWalk
open _root_.List (getElem?_cons_zero getElem?_cons_succ mem_cons mem_cons_of_mem mem_cons_self contains_iff_mem length_take)
open _root_.Bool (and_eq_true or_eq_true)
open _root_.Go.Proofs.Tryz (prog func89 ntmps89 func107 ntmps107 func43 ntmps43)
namespace Go.Proofs.YtljfoohaapckeaaGreatDoor
open Go.ChangeShapes Go.WideShapes Go.ChangeAt Go.RowKit
set_option linter.unusedVariables false
set_option maxHeartbeats 4000000
set_option maxRecDepth 100000
def cntF (f:Nat->Bool):Nat->Nat
  |0=>0
  |k+1=>cntF f k+(f k).toNat
theorem iK (f:Nat->Bool) (k:Nat):cntF f (k+1)=cntF f k+(f k).toNat:=rfl
theorem wK (s:Nat):∀k,(dY s k).length=cntF s.testBit k
  |0=>by simp[dY,cntF]
  | k + 1 => by
   rw[xB,List.length_append,wK s k];rw[iK];cases s.testBit k<;>simp
theorem Df {f g:Nat->Bool} {i:Nat} (hne:∀j,j≠i->f j=g j) (hf:f i=true) (hg:g i=false):∀k,cntF f k=cntF g k+(if i<k then 1 else 0)
  |0=>by simp[cntF]
  | k + 1 => by
   have ih:=Df hne hf hg k;rw[iK,iK];by_cases e:k=i
   . subst e;rw[if_neg (by omega)]at ih;rw[if_pos (by omega),ih,hf,hg];simp
   . rw[ih,hne k e];by_cases h:i<k
     . rw[if_pos h,if_pos (by omega)];omega
     . rw[if_neg h,if_neg (by omega)];omega
theorem Er {f:Nat->Bool}:∀k,cntF f k=0->∀j,j<k->f j=false
  |0,_,j,hj=>by omega
  | k + 1, h, j, hj => by
   rw[iK]at h;by_cases e:j=k
   . subst e;rcases q:f j with _|_
     . rfl
     . rw[q]at h;simp at h
   . exact Er k (by omega) j (by omega)
theorem Es {f:Nat->Bool}:∀k,(∀j,j<k->f j=false)->cntF f k=0
  |0,_=>rfl
  | k + 1, h => by
   rw[iK,Es k (fun j hj=>h j (by omega)),h k (by omega)];rfl
theorem Pt {d:Dm} (h:aJ d=true):eO d≠iZ d:=by
 intro e;obtain⟨h1,h2⟩:=dK h;have:=wH h1 h2 e;have D:=lV h;unfold sec at this;split at this
 . simp only[Prod.mk.injEq]at this;have k:=this.2;unfold wrap64 at k;omega
 . simp only[Prod.mk.injEq]at this;have k:=this.1;unfold wrap64 at k;omega
theorem Ml {left:Nat} {d:Dm} (hl:left<U64) (hd:aJ d=true) (hs:left&&&aK d=aK d):cntF left.testBit 64=cntF (dQ left (aK d)).testBit 64+2:=by
 obtain⟨hi,hj⟩:=yI hd;have hne:=Pt hd;have bI:left.testBit (eO d)=true:=oV hs _ (by rw[aU hd];simp);have bJ:left.testBit (iZ d)=true:=oV hs _ (by rw[aU hd];simp)
 have h1 := Df (f := left.testBit) (g := fun k => left.testBit k && !decide (eO d = k)) (i := eO d) (fun j hj => by
  have:decide (eO d=j)=false:=by simp;omega
  simp only[this,Bool.not_false,Bool.and_true]) bI (by simp) 64
 have h2 := Df (f := fun k => left.testBit k && !decide (eO d = k)) (g := (dQ left (aK d)).testBit) (i := iZ d) (fun j hj => by
  have:decide (iZ d=j)=false:=by simp;omega
  simp only[jE hl (dZ hd),aU hd,this,Bool.or_false]) (by
  have:decide (eO d=iZ d)=false:=by simp;omega
  simp only[this,bJ];rfl) (by rw[jE hl (dZ hd),aU hd];simp) 64
 rw[if_pos hi]at h1;rw[if_pos hj]at h2;omega
def leftOf (left:Nat):List Dm->Nat
  |[]=>left
  |d::r=>leftOf (dQ left (aK d)) r
def fT (s:Nat):List Dm->Nat
  |[]=>s
  |d::r=>fT (if aJ d then s|||aK d else s) r
theorem NB {a b:Nat} (ha:a<U64) (hb:b<U64):a|||b<U64:=by
 unfold U64 at*;exact Nat.or_lt_two_pow (n:=64) ha hb
theorem I7 {s:Nat} (hs:s<U64) (d:Dm):(if aJ d then s|||aK d else s)<U64:=by
 split
 . rename_i h;exact NB hs (dZ h)
 . exact hs
theorem wL:∀(l:List Dm) (s:Nat),s<U64->fT s l<U64
  |[],s,h=>h
  |d::r,s,h=>wL r _ (I7 h d)
theorem uJ (j : Nat) : ∀ (l : List Dm) (s : Nat), (fT s l).testBit j = (s.testBit j || l.any fun d => aJ d && (aK d).testBit j)
  |[],s=>by simp[fT]
  | d :: r, s => by
   unfold fT;rw[uJ j r];rcases h:aJ d with _|_
   . rw[if_neg (by simp)];simp[h]
   . rw[if_pos rfl,Nat.testBit_or];simp[h,Bool.or_assoc]
theorem uK : ∀ (l : List Dm) (left : Nat) (p : Option Dm), left < U64 -> jW left p l = true -> leftOf left l < U64 /\ cntF left.testBit 64 = cntF (leftOf left l).testBit 64 + 2 * l.length /\ ∀ j, (leftOf left l).testBit j = (left.testBit j && !l.any fun d => aJ d && (aK d).testBit j)
  |[],left,p,hl,h=>⟨hl,by simp[leftOf],fun j=>by simp[leftOf]⟩
  | d :: r, left, p, hl, h => by
   obtain⟨h1,h2,h3⟩:=rZ h;obtain⟨a,b,c⟩:=uK r _ _ (eU hl) h3;have:=Ml hl h1 h2;refine⟨a,?_,fun j=> ?_⟩
   . show cntF left.testBit 64=cntF (leftOf (dQ left (aK d)) r).testBit 64+2*(d::r).length;rw[List.length_cons];omega
   . show(leftOf (dQ left (aK d)) r).testBit j=_;rw[c,jE hl (dZ h1),List.any_cons,h1,Bool.true_and,Bool.not_or,Bool.and_assoc]
theorem Lh {left:Nat} {p:Option Dm} {l:List Dm} (hl:left<U64) (h:jW left p l=true):fT 0 l=left↔2*l.length=cntF left.testBit 64:=by
 obtain⟨a,b,c⟩:=uK l left p hl h;have hc:∀j,(fT 0 l).testBit j=l.any fun d=>aJ d&&(aK d).testBit j:=fun j=>by rw[uJ];simp
 constructor
 . intro e;have:cntF (leftOf left l).testBit 64=0:=Es 64 (fun j _=>by rw[c,<-hc,e];simp);omega
 . intro e;have hz:cntF (leftOf left l).testBit 64=0:=(by omega);refine Kg (wL l 0 nH) hl (fun j hj=> ?_);have h0:=Er 64 hz j hj;rw[c,<-hc]at h0;rcases q:(fT 0 l).testBit j with _|_
   . rw[q]at h0;rcases r:left.testBit j with _|_
     . rfl
     . rw[r]at h0;cases h0
   . rw[hc,List.any_eq_true]at q;obtain⟨d,hd,hb⟩:=q;rw[and_eq_true]at hb;exact((BL l left p hl h d hd).2 j hb.2).symm
def eG (rows:List Int) (l:List Dm):Bool:=isPartial rows l&&decide (2*l.length=(eF rows).length)
theorem uF {rows:List Int} {l:List Dm} (h:isPartial rows l=true):eG rows l=decide (fT 0 l=setOf rows):=by
 obtain⟨ho,hp⟩:=jA h;unfold eG eF;rw[h,Bool.true_and,if_pos (aN.2 ho),wK,decide_eq_decide];exact(Lh (dU ho) hp).symm
theorem I8 {left:Nat} {p:Option Dm} {l:List Dm} (hl:left<U64) (h:jW left p l=true):l.length<=32:=by
 obtain⟨a,b,c⟩:=uK l left p hl h
 have:∀(f:Nat->Bool) k,cntF f k<=k:=by
  intro f k;induction k with
  |zero=>simp[cntF]
  |succ k ih=>rw[iK];have:(f k).toNat<=1:=Bool.toNat_le _;omega
 have:=this left.testBit 64;omega
end Go.Proofs.YtljfoohaapckeaaGreatDoor
namespace Go.Proofs.YtljfoohaapckeaaGreatDoor
open Go.ChangeShapes Go.WideShapes Go.ChangeAt Go.RowKit
set_option linter.unusedVariables false
set_option linter.unusedSimpArgs false
set_option maxHeartbeats 4000000
set_option maxRecDepth 100000
theorem I9 (i x y:Nat) (w:World) (hi:i<64) (hx:x=i%8) (hy:y=i/8):Calls prog 84 #[.int .i64 i] w (Ret (.tuple #[.agg #[.int .i64 x,.int .i64 y],.bool true]) w):=by
 have:=uI i w hi;rw[hx,hy];simpa using this
theorem Fu (s:Nat) (d:Dm) (r:List Dm):fT s (d::r)=fT (if aJ d then s|||aK d else s) r:=rfl
theorem sD (v:Value) (l:List Dm) (w:World) (h:Rd 3 aT w v l):Calls prog 146 #[v] w (Ret (.int .u64 (fT 0 l:Nat)) w):=by
 obtain⟨A,c,rfl,hc,hm⟩:=h.form;go_enter Tryz.func146,Tryz.ntmps146
 go_wp2;go_loopw [3,8] (fun s3 s8 wr=>∃k S:Nat,k<=l.length/\s8= .int .i64 k/\s3= .int .u64 S/\S<U64/\Hid (fT S (l.drop k)=fT 0 l)/\Below w.heap.size w wr) (fun _ i _=>l.length-(intOf i).toNat)
 case atStart=>exact⟨0,0,Nat.zero_le _,rfl,rfl,nH,Qk rfl,Below.refl _ _⟩
 case round=>
  obtain⟨k,S,hk,rfl,rfl,hS,Hg,hbel⟩:=hrel;by_cases hlt:k<l.length
  . obtain⟨b,off,rfl,hb,q1,q2,q3⟩:=(h.Qj hbel).jL hlt;have hg:=Hg.out;rw[List.drop_eq_getElem_cons hlt,Fu]at hg;obtain⟨d,hd⟩:=Qi (l[k]);rw[<-hd]at q1 q2 q3 hg;obtain⟨x,y,dn⟩:=d;simp only at q1 q2 q3;have bD:=Blk.aZ wr 60 #[.int .i64 x,.int .i64 y,.bool dn];rcases hok:aJ (x,y,dn)with _|_
    . rw [hok, if_neg (by simp)] at hg;have Hg2:=Qk hg;have Hok:=Qk hok;clear hg hok hd;go_wp2_with fail
      refine(aR x y dn _).mono ?_;rintro e w1 ⟨rfl,hb1⟩;rw[Hok.out];go_wp2;go_roundw
      case rel=>exact⟨k+1,S,by omega,by go_num,rfl,hS,Hg2,(hbel.al _).tr hb1⟩
      case measure=>simp[intOf];omega
    . rw[hok,if_pos rfl]at hg;have hDlt:=dZ hok;have Hok:=Qk hok;clear hok hd;go_wp2_with fail
      refine(aR x y dn _).mono ?_;rintro e w1 ⟨rfl,hb1⟩;rw[Hok.out];have bD1:=bD.bl hb1;have z0:=bD1.cell 0;have z1:=bD1.cell 1;have z2:=bD1.cell 2;simp only[List.getElem?_toArray,getElem?_cons_zero,getElem?_cons_succ]at z0 z1 z2;obtain⟨D,hD⟩:=Qi (aK (x,y,dn))
      have hor:bits .or .u64 (S:Int) (D:Int)=((S|||D:Nat):Int):=by
       rw[<-hD]at hDlt;unfold U64 at hS hDlt;exact u64_or_nat S D hS hDlt
      have hlt2:S|||D<U64:=by rw[hD];exact NB hS hDlt
      rw[<-hD]at hg;have Hg2:=Qk hg;clear hg;have HD:=Qk hD;clear hD;go_wp2_with fail
      refine(dD x y dn _ Hok.out).mono ?_;rintro e w2 ⟨rfl,hb2⟩;rw[<-HD.out];go_wp2;go_roundw
      case rel=>exact⟨k+1,S|||D,by omega,by go_num,rfl,hlt2,Hg2,((hbel.al _).tr hb1).tr hb2⟩
      case measure=>simp[intOf];omega
  . obtain rfl : k = l.length := by omega
    have hg:=Hg.out;rw[List.drop_of_length_le (Nat.le_refl _)]at hg;have hg2:S=fT 0 l:=hg;have HG:=Qk hg2;clear hg hg2;go_wp2;go_ret;exact⟨congrArg Ending.returned (P6 HG.out),hbel⟩
theorem uL (v u:Value) (rows:List Int) (l:List Dm) (w:World) (h:Rd 1 bH w v rows) (h2:Rd 3 aT w u l):Calls prog 89 #[.agg #[v],u] w (Ret (.bool (eG rows l)) w):=by
 obtain⟨A,c,rfl,hc,hm⟩:=h.form;obtain⟨A2,c2,rfl,hc2,hm2⟩:=h2.form;have hA:=((Below.refl w.heap.size w).al (.cells #[.slice A rows.length c] 26));have hz:w.heap.size+1<=(w.alloc (.cells #[.slice A rows.length c] 26)).drew.heap.size:=(by simp);have hp0:w.heap.size<w.heap.size+1:=(by omega);have Bacc:=hA.drew;have HR:=Qk h;have HL:=Qk h2;clear h h2;rcases hpt:isPartial rows l with _|_
 . have e : eG rows l = false := by unfold eG; rw [hpt]; rfl
   rw[e];have Hpt:=Qk hpt;clear hpt e;go_enter func89,ntmps89
   go_wp2_with fail
   refine rB (fun w'=>w'.cell? ⟨w.heap.size,0,none⟩=some (.slice A rows.length c)) fun hHeld=>(tW 0)<|(tW 1)<|(tR [2])<|tL fun K hK=>?_
   go_simp
   (first|(go_at_call 108;go_must (refine(nV _ _ rows l _ (HR.out.Qj Bacc) (HL.out.Qj Bacc)).mono ?_;rintro e wX ⟨rfl,hbX⟩;rw[Hpt.out];obtain⟨hcX,hfX,hzX⟩:=bkn hbX (w.heap.size+1) hz;have hz:=hzX;have Bacc:=Bacc.tr hbX);(try go_wp2_with fail)))
   refine tK hK fun hHeld=>?_
   clear hK K;refine(tW 3)<|(tU 4)<|(tU 5)<|(tU 6)<|(tU 7)<|(tU 8)<|(tW 9)<|(tW 10)<|tD ?_;go_wp2;go_ret;exact⟨rfl,Bacc⟩
 . have ho:=(jA hpt).1;have hs:=dU ho;have e:=uF hpt
   have e2:(((fT 0 l:Nat):Int)==((setOf rows:Nat):Int))=eG rows l:=by
    rw[e,Bool.eq_iff_iff,beq_iff_eq,decide_eq_true_iff];omega
   obtain⟨R,hR⟩:=Qi (eG rows l);obtain⟨S,hS⟩:=Qi (fT 0 l);obtain⟨T,hT⟩:=Qi (setOf rows);rw[<-hR,<-hS,<-hT]at e2;rw[<-hR];have Hok:=Qk ho;have Hpt:=Qk hpt;have HS:=Qk hS;have HT:=Qk hT;clear ho hpt e hR hS hT hs;go_enter func89,ntmps89
   go_wp2_with fail
   refine rB (fun w'=>w'.cell? ⟨w.heap.size,0,none⟩=some (.slice A rows.length c)) fun hHeld=>(tW 0)<|(tW 1)<|(tR [2])<|tL fun K hK=>?_
   go_simp
   (first|(go_at_call 108;go_must (refine(nV _ _ rows l _ (HR.out.Qj Bacc) (HL.out.Qj Bacc)).mono ?_;rintro e wX ⟨rfl,hbX⟩;rw[Hpt.out];obtain⟨hcX,hfX,hzX⟩:=bkn hbX (w.heap.size+1) hz;have hz:=hzX;have Bacc:=Bacc.tr hbX);(try go_wp2_with fail))|(go_at_call 146;go_must (refine(sD _ l _ (HL.out.Qj Bacc)).mono ?_;rintro e wX ⟨rfl,hbX⟩;rw[<-HS.out];obtain⟨hcX,hfX,hzX⟩:=bkn hbX (w.heap.size+1) hz;have hz:=hzX;have Bacc:=Bacc.tr hbX);(try go_wp2_with fail))|(go_at_call 109;go_must (refine(pM _ rows _ (HR.out.Qj Bacc) Hok).mono ?_;rintro e wX ⟨rfl,hbX⟩;rw[<-HT.out];obtain⟨hcX,hfX,hzX⟩:=bkn hbX (w.heap.size+1) hz;have hz:=hzX;have Bacc:=Bacc.tr hbX);(try go_wp2_with fail)))
   refine tK hK fun hHeld=>?_
   clear hK K;refine(tW 3)<|(tW 4)<|(tW 6)<|(tR [5])<|tL fun K hK=>?_
   go_simp
   (first|(go_at_call 108;go_must (refine(nV _ _ rows l _ (HR.out.Qj Bacc) (HL.out.Qj Bacc)).mono ?_;rintro e wX ⟨rfl,hbX⟩;rw[Hpt.out];obtain⟨hcX,hfX,hzX⟩:=bkn hbX (w.heap.size+1) hz;have hz:=hzX;have Bacc:=Bacc.tr hbX);(try go_wp2_with fail))|(go_at_call 146;go_must (refine(sD _ l _ (HL.out.Qj Bacc)).mono ?_;rintro e wX ⟨rfl,hbX⟩;rw[<-HS.out];obtain⟨hcX,hfX,hzX⟩:=bkn hbX (w.heap.size+1) hz;have hz:=hzX;have Bacc:=Bacc.tr hbX);(try go_wp2_with fail))|(go_at_call 109;go_must (refine(pM _ rows _ (HR.out.Qj Bacc) Hok).mono ?_;rintro e wX ⟨rfl,hbX⟩;rw[<-HT.out];obtain⟨hcX,hfX,hzX⟩:=bkn hbX (w.heap.size+1) hz;have hz:=hzX;have Bacc:=Bacc.tr hbX);(try go_wp2_with fail)))
   refine tK hK fun hHeld=>?_
   clear hK K;refine(tR [7])<|tL fun K hK=>?_
   go_simp
   (first|(go_at_call 108;go_must (refine(nV _ _ rows l _ (HR.out.Qj Bacc) (HL.out.Qj Bacc)).mono ?_;rintro e wX ⟨rfl,hbX⟩;rw[Hpt.out];obtain⟨hcX,hfX,hzX⟩:=bkn hbX (w.heap.size+1) hz;have hz:=hzX;have Bacc:=Bacc.tr hbX);(try go_wp2_with fail))|(go_at_call 146;go_must (refine(sD _ l _ (HL.out.Qj Bacc)).mono ?_;rintro e wX ⟨rfl,hbX⟩;rw[<-HS.out];obtain⟨hcX,hfX,hzX⟩:=bkn hbX (w.heap.size+1) hz;have hz:=hzX;have Bacc:=Bacc.tr hbX);(try go_wp2_with fail))|(go_at_call 109;go_must (refine(pM _ rows _ (HR.out.Qj Bacc) Hok).mono ?_;rintro e wX ⟨rfl,hbX⟩;rw[<-HT.out];obtain⟨hcX,hfX,hzX⟩:=bkn hbX (w.heap.size+1) hz;have hz:=hzX;have Bacc:=Bacc.tr hbX);(try go_wp2_with fail)))
   refine tK hK fun hHeld=>?_
   clear hK K;refine(tW 8)<|(tW 9)<|(tW 10)<|tD ?_
   all_goals
     go_wp2;go_ret;exact⟨kC (by first|exact e2|(simp;done)|simpa using e2),Bacc⟩
theorem sF (v:Value) (rows:List Int) (w:World) (h:Rd 1 bH w v rows):Calls prog 107 #[.agg #[v]] w (gH 70 2 dE (eF rows) w):=by
 obtain⟨A,c,rfl,hc,hm⟩:=h.form;have hA:=(Below.refl w.heap.size w).al (.cells #[.slice A rows.length c] 26);have bX:=Blk.aZ w 26 #[.slice A rows.length c];have h':=h.Qj hA;rcases hr:bT rows with _|_
 . have e : eF rows = [] := by unfold eF; rw [hr]; rfl
   rw[e];go_enter func107,ntmps107
   go_wp2;go_loopw [3,4] (fun s3 s4 wr=>s4= .int .i64 0/\s3= .slice (some ⟨w.heap.size+1,0,none⟩) 0 0/\aD 70 2 dE w.heap.size wr (.slice (some ⟨w.heap.size+1,0,none⟩) 0 0) ([]:List Cl)/\Below (w.alloc (.cells #[.slice A rows.length c] 26)).heap.size (w.alloc (.cells #[.slice A rows.length c] 26)) wr) (fun _ _ _=>0)
   case atStart=>exact⟨rfl,rfl,fK (w.alloc (.cells #[.slice A rows.length c] 26)) (w.heap.size+1) (by simp) _ (by simp),(Below.refl _ _).al _⟩
   case round=>
    obtain⟨rfl,rfl,hown,hbel⟩:=hrel;have zx:=(bX.bl hbel).c1;go_wp2_with fail
    refine(dP _ rows _ (h'.Qj hbel)).mono ?_;rintro e w1 ⟨rfl,hb1⟩;rw[hr];go_wp2;go_ret;exact⟨_,_,rfl,hown.below hb1,(hA.tr hbel).tr hb1⟩
 . have e : eF rows = dY (setOf rows) 64 := by unfold eF; rw [hr]; rfl
   rw[e];have hok:=aN.1 hr;have Hok:=Qk hok;have Hr:=Qk hr;clear hok e hr;obtain⟨s,hse⟩:=Qi (setOf rows);rw[<-hse];have Hse:=Qk hse;clear hse;go_enter func107,ntmps107
   go_wp2;go_loopw [3,4] (fun s3 s4 wr=>∃(k:Nat) (A3:Option Addr) (c3:Nat),k<=64/\s4= .int .i64 k/\s3= .slice A3 (dY s k).length c3/\aD 70 2 dE (w.alloc (.cells #[.slice A rows.length c] 26)).heap.size wr (.slice A3 (dY s k).length c3) (dY s k)/\Below (w.alloc (.cells #[.slice A rows.length c] 26)).heap.size (w.alloc (.cells #[.slice A rows.length c] 26)) wr) (fun _ i _=>64-(intOf i).toNat)
   case atStart=>exact⟨0,_,_,by omega,rfl,rfl,fK (w.alloc (.cells #[.slice A rows.length c] 26)) (w.heap.size+1) (by simp) _ (Nat.le_refl _),(Below.refl _ _).al _⟩
   case round=>
    obtain⟨k,A3,c3,hk,rfl,rfl,hown,hbel⟩:=hrel;have zx:=(bX.bl hbel).c1;by_cases hlt:k<64
    . have hle:=sQ s k;have hsucc:=xB s k;obtain⟨x,hx⟩:=Qi (k%8);obtain⟨y,hy⟩:=Qi (k/8);have hx8:x<8:=(by omega);have hy8:y<8:=(by omega);have hk8:8*y+x=k:=(by omega);have hix:gW k=((x:Int),(y:Int)):=by unfold gW;simp only[Prod.mk.injEq];omega
      obtain⟨cs,hcs⟩:=Qi (dY s k);rw[<-hcs]at hle hsucc hown⊢;rw[hix]at hsucc;have H8:Hid ((cs.length+1)*16<=140737488355328):=Qk (by omega);have HM:Hid (cs.length+1<=maxLen):=Qk (by unfold maxLen;omega);have Hk8:=Qk hk8;have Hx:=Qk hx;have Hy:=Qk hy;have Hsucc:=Qk hsucc;have Hcs:=Qk hcs;clear hsucc hcs hx hy hix hk8;go_wp2_with fail
      refine(dP _ rows _ (h'.Qj hbel)).mono ?_;rintro e w1 ⟨rfl,hb1⟩;rw[Hr.out];go_wp2_with fail
      refine(I9 k x y _ hlt Hx.out Hy.out).mono ?_;rintro e w2 ⟨rfl,hb2⟩;have B2:=((hbel.tr hb1).tr hb2).al (.cells #[.int .i64 x,.int .i64 y] 70);have bC:=Blk.aZ w2 70 #[.int .i64 x,.int .i64 y];have own2:=((hown.below hb1).below hb2).alloc (.cells #[.int .i64 x,.int .i64 y] 70);clear zx;have zx:=(bX.bl B2).c1;have zc0:=bC.cell 0;have zc1:=bC.cell 1;simp only[List.getElem?_toArray,getElem?_cons_zero,getElem?_cons_succ]at zc0 zc1;go_wp2_with fail
      refine(kK _ rows x y _ (h'.Qj B2) Hok hx8 hy8).mono ?_;rintro e w3 ⟨rfl,hb3⟩;rw[<-Hse.out,Hk8.out];have bC3:=bC.bl hb3;have B3:=B2.tr hb3;have own3:=own2.below hb3;rcases hb:s.testBit k with _|_
      . have e : dY s (k + 1) = cs := by rw [Hsucc.out, if_neg (by rw [hb]; simp)]; simp
        have E:=Qk e;have Hb:=Qk hb;clear e hb;go_wp2;go_roundw
        case rel=>exact⟨k+1,A3,c3,by omega,by go_num,by rw[E.out],by rw[E.out];exact own3,B3⟩
        case measure=>simp[intOf];omega
      . have e : dY s (k + 1) = cs ++ [((x : Int), (y : Int))] := by rw [Hsucc.out, if_pos hb]
        have E:=Qk e;have Hb:=Qk hb;clear e hb;clear zc0 zc1;have zc0:=bC3.cell 0;have zc1:=bC3.cell 1;simp only[List.getElem?_toArray,getElem?_cons_zero,getElem?_cons_succ]at zc0 zc1;go_wp2_with (at_builtin;go_must (refine aF (enc:=dE) iY dX oneCell B3 own3 (((x:Int),(y:Int)):Cl) H8.out HM.out rfl _ _ rfl rfl rfl ?_);intro v4 w4 own4 hb4 hg4 hd4;obtain⟨A4,c4,rfl,hc4,hm4⟩:=own4.form)
        go_roundw
        case rel=>exact⟨k+1,A4,c4,by omega,by go_num,by rw[E.out];simp,by rw[E.out];exact own4,hb4⟩
        case measure=>simp[intOf];omega
    . obtain rfl : k = 64 := by omega
      go_wp2;go_ret;exact⟨A3,c3,rfl,hown.mono hA.size,hA.tr hbel⟩
theorem sU (v:Value) (rows:List Int) (w:World) (h:Rd 1 bH w v rows):Calls prog 47 #[.agg #[v]] w (Ret (.int .i64 (eF rows).length) w):=by
 obtain⟨A,c,rfl,hc,hm⟩:=h.form;have hA:=(Below.refl w.heap.size w).al (.cells #[.slice A rows.length c] 26);go_enter Tryz.func47,Tryz.ntmps47
 go_wp2_with fail
 refine(sF _ rows _ (h.Qj hA)).mono ?_;rintro e w1 ⟨A1,c1,rfl,own1,hb1⟩;go_wp2;go_ret;exact⟨rfl,hA.tr hb1⟩
theorem uM (v u:Value) (rows:List Int) (l:List Dm) (w:World) (h:Rd 1 bH w v rows) (h2:Rd 3 aT w u l):Calls prog 43 #[.agg #[v],u] w (Ret (.bool (eG rows l)) w):=by
 obtain⟨A,c,rfl,hc,hm⟩:=h.form;obtain⟨A2,c2,rfl,hc2,hm2⟩:=h2.form;have hA:=((Below.refl w.heap.size w).al (.cells #[.slice A rows.length c] 26));have bX:=Blk.aZ w 26 #[.slice A rows.length c];rcases hpt:isPartial rows l with _|_
 . have e : eG rows l = false := by unfold eG; rw [hpt]; rfl
   rw[e];have Hpt:=Qk hpt;clear hpt e;go_enter func43,ntmps43
   go_wp2_with fail
   refine(Ep _ _ rows l _ (h.Qj hA) (h2.Qj hA)).mono ?_;rintro e w1 ⟨rfl,hb1⟩;rw[Hpt.out];go_wp2;go_ret;exact⟨rfl,hA.tr hb1⟩
 . have ho:=(jA hpt).1;have hlen:=I8 (dU ho) (jA hpt).2;have hle:=zY rows
   have e:eG rows l=((2*(l.length:Int))==((eF rows).length:Int)):=by
    unfold eG;rw[hpt,Bool.true_and,Bool.eq_iff_iff,beq_iff_eq,decide_eq_true_iff];omega
   obtain⟨N,hN⟩:=Qi ((eF rows).length);rw[<-hN]at e hle;rw[e];have Hpt:=Qk hpt;have HN:=Qk hN;clear hpt e hN ho;have hw2:IntKind.i64.wrap (2*(l.length:Int))=2*(l.length:Int):=IntWalk.i64_in _ (by omega);go_enter func43,ntmps43
   go_wp2_with fail
   refine(Ep _ _ rows l _ (h.Qj hA) (h2.Qj hA)).mono ?_;rintro e w1 ⟨rfl,hb1⟩;rw[Hpt.out];have zx:=(bX.bl hb1).c1;go_wp2_with fail
   refine(sU _ rows _ ((h.Qj hA).Qj hb1)).mono ?_;rintro e w2 ⟨rfl,hb2⟩;rw[<-HN.out];go_wp2;go_ret;exact⟨rfl,(hA.tr hb1).tr hb2⟩
end Go.Proofs.YtljfoohaapckeaaGreatDoor
namespace Go.Proofs.YtljfoohaapckeaaGreatDoor
open Go.ChangeShapes Go.WideShapes Go.ChangeAt Go.RowKit
set_option linter.unusedVariables false
set_option maxHeartbeats 4000000
set_option maxRecDepth 100000
def Et (d:Dm):List Dm->List Dm
  |[]=>[d]
  |e::r=>if aQ e<aQ d then e::Et d r else if e=d then e::r else d::e::r
def kD (out:List Dm) (d:Dm):List Dm:=if aJ d then Et d out else out
def jX (out l:List Dm):List Dm:=l.foldl kD out
def iW (l:List Dm):List Dm:=jX [] l
def Sorted (l:List Dm):Prop:=(∀d∈l,aJ d=true)/\l.Pairwise fun a b=>aQ a<aQ b
theorem BN {a b:Dm} (ha:aJ a=true) (hb:aJ b=true) (h:aQ a=aQ b):a=b:=by
 obtain⟨a1,a2,a3⟩:=a;obtain⟨b1,b2,b3⟩:=b;have A:=lV ha;have B:=lV hb;simp only at A B;unfold aQ at h;simp only at h
 have e3:a3=b3:=by
  cases a3<;>cases b3<;>simp at h⊢<;>omega
 subst e3;have e2:a2=b2:=(by omega);subst e2;have e1:a1=b1:=(by omega);subst e1;rfl
def mJ (d:Dm) (l:List Dm):Nat:=(l.takeWhile fun e=>decide (aQ e<aQ d)).length
theorem FN (d:Dm):∀l:List Dm,mJ d l<=l.length
  |[]=>by simp[mJ]
  | e :: r => by
   have:=FN d r;unfold mJ at*;rw[List.takeWhile_cons];split<;>simp<;>omega
theorem rA (d e:Dm) (r:List Dm):mJ d (e::r)=if aQ e<aQ d then mJ d r+1 else 0:=by
 unfold mJ;rw[List.takeWhile_cons];by_cases h:aQ e<aQ d<;>simp[h]
theorem yK (d:Dm):∀(l:List Dm) (k:Nat) (h:k<l.length),k<mJ d l->aQ l[k]<aQ d
  |[],k,h,_=>by simp at h
  | e :: r, k, h, hk => by
   rw[rA]at hk;split at hk
   . cases k with
     |zero=>simpa
     |succ k=>simp only[List.getElem_cons_succ];exact yK d r k (by simpa using h) (by omega)
   . omega
theorem FO (d:Dm):∀(l:List Dm) (h:mJ d l<l.length),¬aQ l[mJ d l]<aQ d
  |[],h=>by simp at h
  | e :: r, h => by
   by_cases q:aQ e<aQ d
   . have e1 : mJ d (e :: r) = mJ d r + 1 := by rw [rA, if_pos q]
     simp only[e1,List.getElem_cons_succ];exact FO d r (by rw[e1]at h;simpa using h)
   . have e1 : mJ d (e :: r) = 0 := by rw [rA, if_neg q]
     simp only[e1,List.getElem_cons_zero];exact q
theorem H7 (d:Dm):∀l:List Dm,Et d l=if l[mJ d l]? =some d then l else l.take (mJ d l)++d::l.drop (mJ d l)
  |[]=>by simp[Et,mJ]
  | e :: r => by
   unfold Et;by_cases q:aQ e<aQ d
   . rw[if_pos q,rA,if_pos q,H7 d r];simp only[getElem?_cons_succ,List.take_succ_cons,List.drop_succ_cons];split<;>rfl
   . rw[if_neg q,rA,if_neg q];simp only[getElem?_cons_zero,List.take_zero,List.drop_zero,List.nil_append,Option.some.injEq]
theorem Dh (d:Dm):∀(l:List Dm) (x:Dm),x∈Et d l↔x=d∨x∈l
  |[],x=>by simp[Et]
  | e :: r, x => by
   unfold Et;split
   . rw[mem_cons,Dh d r,mem_cons];constructor<;>rintro(h|h|h)<;>simp[h]
   . split
     . rename_i h;subst h;simp
     . simp
theorem BP {d:Dm} (hd:aJ d=true):∀{l:List Dm},Sorted l->Sorted (Et d l)
  |[],h=>⟨fun x hx=>by simp[Et]at hx;rw[hx];exact hd,by simp[Et]⟩
  | e :: r, h => by
   have hr:Sorted r:=⟨fun x hx=>h.1 x (mem_cons_of_mem _ hx),(List.pairwise_cons.1 h.2).2⟩;have he:=h.1 e (mem_cons_self ..);have hep:=(List.pairwise_cons.1 h.2).1;have ih:=BP hd hr;unfold Et;split
   . rename_i q;refine⟨fun x hx=> ?_,List.pairwise_cons.2 ⟨fun x hx=> ?_,ih.2⟩⟩
     . rcases List.mem_cons.1 hx with rfl|hx
       . exact he
       . exact ih.1 x hx
     . rcases(Dh d r x).1 hx with rfl|hx
       . exact q
       . exact hep x hx
   . rename_i q;split
     . exact h
     . rename_i q2;have hne:aQ e≠aQ d:=fun h'=>q2 (BN he hd h')
       refine⟨fun x hx=> ?_,List.pairwise_cons.2 ⟨fun x hx=> ?_,h.2⟩⟩
       . rcases List.mem_cons.1 hx with rfl|hx
         . exact hd
         . exact h.1 x hx
       . rcases List.mem_cons.1 hx with rfl|hx
         . omega
         . have:=hep x hx;omega
theorem jC {out:List Dm} (h:Sorted out) (d:Dm):Sorted (kD out d):=by
 unfold kD;split
 . rename_i q;exact BP q h
 . exact h
theorem Eu:∀(l:List Dm) {out:List Dm},Sorted out->Sorted (jX out l)
  |[],out,h=>h
  |d::r,out,h=>Eu r (jC h d)
theorem wM:Sorted []:=⟨by simp,List.Pairwise.nil⟩
theorem xC (l:List Dm):Sorted (iW l):=Eu l wM
theorem xD:∀(l:List Int) (n:Nat),l.Pairwise (· <·)->(∀x∈l,(128:Int)-n<=x/\x<128)->l.length<=n
  |[],n,_,_=>by simp
  | x :: r, n, hp, hb => by
   have h1:=hb x (mem_cons_self ..);cases n with
   |zero=>omega
   |succ n=>
    have := xD r n (List.pairwise_cons.1 hp).2 (fun y hy => by
     have h2:=hb y (mem_cons_of_mem _ hy);have h3:=(List.pairwise_cons.1 hp).1 y hy;omega)
    simp;omega
theorem wN {l:List Dm} (h:Sorted l):l.length<=128:=by
 have := xD (l.map aQ) 128 (List.pairwise_map.2 h.2) (fun x hx => by
  obtain⟨d,hd,rfl⟩:=List.mem_map.1 hx;have:=Le (h.1 d hd);omega)
 simpa using this
theorem Ja {l:List Dm} (h:Sorted l) {d:Dm} {k:Nat} (hk:k<l.length):aQ l[k]<aQ d↔k<mJ d l:=by
 constructor
 . intro q;by_cases hn:k<mJ d l
   . exact hn
   . exfalso;have hp:mJ d l<l.length:=(by omega);have:=FO d l hp;by_cases e:mJ d l=k
     . subst e;exact this q
     . have:=List.pairwise_iff_getElem.1 h.2 _ _ hp hk (by omega);omega
 . exact yK d l k hk
theorem Gx {l:List Dm} (h:Sorted l) {d:Dm} (hd:aJ d=true) {k:Nat} (hk:k<l.length):(aQ l[k]>aQ d)↔(if l[mJ d l]? =some d then mJ d l+1 else mJ d l)<=k:=by
 by_cases q:l[mJ d l]? =some d
 . rw[if_pos q];obtain⟨hp,e⟩:=List.getElem?_eq_some_iff.1 q;constructor
   . intro hgt;by_cases hn:mJ d l+1<=k
     . exact hn
     . exfalso;by_cases e2:k=mJ d l
       . subst e2;rw[e]at hgt;omega
       . have:=yK d l k hk (by omega);omega
   . intro hle;have:=List.pairwise_iff_getElem.1 h.2 _ _ hp hk (by omega);rw[e]at this;omega
 . rw[if_neg q];constructor
   . intro hgt;by_cases hn:mJ d l<=k
     . exact hn
     . have:=yK d l k hk (by omega);omega
   . intro hle;have hp:mJ d l<l.length:=(by omega);have h1:=FO d l hp
     have hne:aQ l[mJ d l]≠aQ d:=by
      intro e;apply q;rw[List.getElem?_eq_getElem hp,BN (h.1 _ (List.getElem_mem hp)) hd e]
     by_cases e2:k=mJ d l
     . subst e2;omega
     . have:=List.pairwise_iff_getElem.1 h.2 _ _ hp hk (by omega);omega
def oZ (c:Cl):Dm×Dm:=((c.1,c.2,false),(c.1,c.2+1,false))
def sV (c:Cl):Dm×Dm:=((c.1,c.2,true),(c.1+1,c.2,true))
def jY (c:Cl):Bool:=decide (0<=c.1/\c.1<=6)&&decide (0<=c.2/\c.2<=6)
def eT (l:List Dm) (p:Dm×Dm):Bool:=l.contains p.1&&l.contains p.2
def kindOf (l:List Dm) (c:Cl):Nat:=if jY c then(if eT l (oZ c)then 1 else if eT l (sV c)then 2 else 0)else 0
def mP (k:Nat) (c:Cl):Dm×Dm:=if k=1 then oZ c else sV c
def nW (k:Nat) (c:Cl):Dm×Dm:=if k=1 then sV c else oZ c
def keepD (g:Dm×Dm) (d:Dm):Bool:= !(decide (d=g.1)||decide (d=g.2))
def iQ (l:List Dm) (g n:Dm×Dm):List Dm:=[n.1,n.2]++l.filter (keepD g)
def aS (l:List Dm) (c:Cl):List Dm:=iW (iQ l (mP (kindOf l c) c) (nW (kindOf l c) c))
def eX (l:List Dm) (c:Cl):List Dm×Bool:=if kindOf l c=0 then(l,false)else(aS l c,true)
theorem Ev (l:List Dm) (c:Cl):kindOf l c<=2:=by unfold kindOf;split<;>(try split)<;>(try split)<;>omega
theorem BQ (l:List Dm) (c:Cl):(aS l c).length<=128:=wN (xC _)
def iA (l:List Dm):List Cl->Option (List Dm)
  |[]=>some l
  |c::r=>if kindOf l c=0 then none else iA (aS l c) r
def dM (l:List Dm) (cs:List Cl):List Dm×Bool:=if cs.length>200 then(l,false)else match iA l cs with|none=>(l,false)|some m=>(m,true)
def dG (rows:List Int) (f n:List Dm) (cs:List Cl):Bool:=eG rows f&&decide (cs.length<=60)&&(dM f cs).2&&decide ((dM f cs).1=n)
def Apart (a b:Dm):Prop:=∀j,(aK a).testBit j=true->(aK b).testBit j=false
def In (s:Nat) (d:Dm):Prop:=aJ d=true/\∀j,(aK d).testBit j=true->s.testBit j=true
def kG (s:Nat) (l:List Dm):Prop:=(∀d∈l,In s d)/\(l.Pairwise fun a b=>aQ a<aQ b)/\l.Pairwise Apart
theorem kG.tail {s:Nat} {d:Dm} {l:List Dm} (h:kG s (d::l)):kG s l:=
 ⟨fun e he=>h.1 e (mem_cons_of_mem _ he),(List.pairwise_cons.1 h.2.1).2,(List.pairwise_cons.1 h.2.2).2⟩
theorem vS {a b:Nat} (h:∀j,b.testBit j=true->a.testBit j=true):a&&&b=b:=by
 apply Nat.eq_of_testBit_eq;intro j;rw[Nat.testBit_and];rcases q:b.testBit j with _|_
 . simp
 . rw[h j q];rfl
theorem kG.less {s:Nat} (hs:s<U64) {d:Dm} {l:List Dm} (h:kG s (d::l)):kG (dQ s (aK d)) l:=by
 refine⟨fun e he=> ?_,h.tail.2⟩;obtain⟨e1,e2⟩:=h.tail.1 e he;refine⟨e1,fun j hj=> ?_⟩;rw[jE hs (dZ (h.1 d (mem_cons_self ..)).1),e2 j hj,Bool.true_and,Bool.not_eq_true'];rcases q:(aK d).testBit j with _|_
 . rfl
 . have:=(List.pairwise_cons.1 h.2.2).1 e he j q;rw[hj]at this;cases this
theorem Ew:∀{l:List Dm} {s:Nat} {p:Option Dm},s<U64->kG s l->(∀e,p=some e->∀d,l.head? =some d->aQ e<aQ d)->jW s p l=true
  |[],s,p,_,_,_=>rfl
  | d :: r, s, p, hs, h, hp => by
   obtain⟨d1,d2⟩:=h.1 d (mem_cons_self ..)
   have ih := Ew (p := some d) (eU hs) (h.less hs) (fun e he d' hd' => by
    cases he;cases r with
    |nil=>cases hd'
    |cons x y=>injection hd' with hd';subst hd';exact(List.pairwise_cons.1 h.2.1).1 _ (mem_cons_self ..))
   rw[qD,d1,ih,decide_eq_true (vS d2)];cases p with
   |none=>rfl
   |some e=>simp only[pO,Bool.true_and,Bool.and_true,decide_eq_true_eq];exact hp e rfl d rfl
theorem Ex:∀{l:List Dm} {s:Nat} {p:Option Dm},s<U64->jW s p l=true->kG s l/\∀e,p=some e->∀d∈l,aQ e<aQ d
  |[],s,p,_,_=>⟨⟨by simp,List.Pairwise.nil,List.Pairwise.nil⟩,by simp⟩
  | d :: r, s, p, hs, h => by
   obtain⟨d1,d2,d3⟩:=rZ h;obtain⟨⟨a,b,c⟩,f⟩:=Ex (eU hs) d3;have hd:=dZ d1;refine⟨⟨fun e he=> ?_,List.pairwise_cons.2 ⟨fun e he=>f d rfl e he,b⟩,List.pairwise_cons.2 ⟨fun e he j hj=> ?_,c⟩⟩,?_⟩
   . rcases List.mem_cons.1 he with rfl|he
     . exact⟨d1,fun j hj=>oV d2 j hj⟩
     . refine ⟨(a e he).1, fun j hj => ?_⟩;have:=(a e he).2 j hj;rw[jE hs hd,and_eq_true]at this;exact this.1
   . rcases q:(aK e).testBit j with _|_
     . rfl
     . have:=(a e he).2 j q;rw[jE hs hd,hj]at this;simp at this
   . intro e he x hx;subst he;rw[qD]at h;simp only[and_eq_true,pO,decide_eq_true_eq]at h;have h1:=h.1.2;rcases List.mem_cons.1 hx with rfl|hx
     . exact h1
     . have:=f d rfl x hx;omega
theorem DV {rows:List Int} {l:List Dm}:isPartial rows l=true↔dS rows/\kG (setOf rows) l:=by
 constructor
 . intro h;obtain⟨a,b⟩:=jA h;exact⟨a,(Ex (dU a) b).1⟩
 . rintro⟨a,b⟩;unfold isPartial;rw[aN.2 a,Ew (dU a) b (by simp)];rfl
theorem Ey : ∀ {l m : List Dm}, l.Pairwise (fun a b => aQ a < aQ b) -> m.Pairwise (fun a b => aQ a < aQ b) -> (∀ d, d ∈ l ↔ d ∈ m) -> l = m
  |[],[],_,_,_=>rfl
  |[],d::m,_,_,h=>by have:=(h d).2 (mem_cons_self ..);cases this
  |d::l,[],_,_,h=>by have:=(h d).1 (mem_cons_self ..);cases this
  | d :: l, e :: m, hl, hm, h => by
   have hl2:=List.pairwise_cons.1 hl;have hm2:=List.pairwise_cons.1 hm
   have hde:d=e:=by
    rcases List.mem_cons.1 ((h d).1 (mem_cons_self ..))with q|q
    . exact q
    . rcases List.mem_cons.1 ((h e).2 (mem_cons_self ..))with r|r
      . exact r.symm
      . have a:=hm2.1 d q;have b:=hl2.1 e r;omega
   subst hde;congr 1
   refine Ey hl2.2 hm2.2 (fun x=> ?_);have hx:=h x;rw[mem_cons,mem_cons]at hx;constructor
   . intro q;rcases hx.1 (.inr q)with r|r
     . subst r;have:=hl2.1 x q;omega
     . exact r
   . intro q;rcases hx.2 (.inr q)with r|r
     . subst r;have:=hm2.1 x q;omega
     . exact r
theorem AY {s:Nat} {d:Dm}:In s d↔aJ d=true/\s.testBit (eO d)=true/\s.testBit (iZ d)=true:=by
 constructor
 . rintro⟨a,b⟩;exact⟨a,b _ (by rw[aU a];simp),b _ (by rw[aU a];simp)⟩
 . rintro⟨a,b,c⟩;refine⟨a,fun j hj=> ?_⟩;rw[aU a,or_eq_true,decide_eq_true_eq,decide_eq_true_eq]at hj;rcases hj with rfl|rfl
   . exact b
   . exact c
theorem kR {a b : Dm} (h : Apart a b) : Apart b a := fun j hj => by
 rcases q:(aK a).testBit j with _|_
 . rfl
 . rw[h j q]at hj;cases hj
theorem kG.apart {s:Nat} {l:List Dm} (h:kG s l) {a b:Dm} (ha:a∈l) (hb:b∈l) (hne:a≠b):Apart a b:=by
 have:∀{m:List Dm},m.Pairwise Apart->a∈m->b∈m->Apart a b:=by
  intro m;induction m with
  |nil=>intro _ h;cases h
  |cons x m ih=>
   intro hp h1 h2;obtain⟨p1,p2⟩:=List.pairwise_cons.1 hp;rcases List.mem_cons.1 h1 with e1|h1'
   . rcases List.mem_cons.1 h2 with e|h2'
     . exact absurd (e1.trans e.symm) hne
     . rw[e1];exact p1 b h2'
   . rcases List.mem_cons.1 h2 with e|h2'
     . rw[e];exact kR (p1 a h1')
     . exact ih p2 h1' h2'
 exact this h.2.2 ha hb
theorem BR:∀(l out:List Dm) (x:Dm),x∈jX out l↔x∈out∨(x∈l/\aJ x=true)
  |[],out,x=>by simp[jX]
  | d :: r, out, x => by
   have e:jX out (d::r)=jX (kD out d) r:=rfl;rw[e,BR r];unfold kD;by_cases q:aJ d=true
   . rw[if_pos q,Dh];constructor
     . rintro((rfl|h)|⟨h,k⟩)
       . exact .inr ⟨mem_cons_self ..,q⟩
       . exact .inl h
       . exact .inr ⟨mem_cons_of_mem _ h,k⟩
     . rintro(h|⟨h,k⟩)
       . exact .inl (.inr h)
       . rcases List.mem_cons.1 h with rfl|h
         . exact .inl (.inl rfl)
         . exact .inr ⟨h,k⟩
   . rw[if_neg q];constructor
     . rintro(h|⟨h,k⟩)
       . exact .inl h
       . exact .inr ⟨mem_cons_of_mem _ h,k⟩
     . rintro(h|⟨h,k⟩)
       . exact .inl h
       . rcases List.mem_cons.1 h with rfl|h
         . exact absurd k q
         . exact .inr ⟨h,k⟩
theorem Ez (l:List Dm) (x:Dm):x∈iW l↔x∈l/\aJ x=true:=by unfold iW;rw[BR];simp
theorem uN (l:List Dm) (g n:Dm×Dm) (x:Dm):x∈iQ l g n↔x=n.1∨x=n.2∨(x∈l/\x≠g.1/\x≠g.2):=by
 unfold iQ keepD;simp[List.mem_filter]
structure Sq (g n:Dm×Dm):Prop where
  ok:aJ g.1=true/\aJ g.2=true/\aJ n.1=true/\aJ n.2=true
  same:∀j,((aK g.1).testBit j||(aK g.2).testBit j)=((aK n.1).testBit j||(aK n.2).testBit j)
  apart:Apart g.1 g.2/\Apart n.1 n.2
  meet:¬Apart g.1 n.1/\¬Apart g.1 n.2
  Ph:¬Apart g.2 n.1/\¬Apart g.2 n.2
  ne:g.1≠n.1/\g.1≠n.2/\g.2≠n.1/\g.2≠n.2
theorem Sq.symm {g n:Dm×Dm} (h:Sq g n):Sq n g:=
 ⟨⟨h.ok.2.2.1, h.ok.2.2.2, h.ok.1, h.ok.2.1⟩, fun j => (h.same j).symm, ⟨h.apart.2, h.apart.1⟩,
   ⟨fun q=>h.meet.1 (kR q),fun q=>h.Ph.1 (kR q)⟩,⟨fun q=>h.meet.2 (kR q),fun q=>h.Ph.2 (kR q)⟩,
   ⟨h.ne.1.symm,h.ne.2.2.1.symm,h.ne.2.1.symm,h.ne.2.2.2.symm⟩⟩
theorem DW {g n:Dm×Dm} (h:Sq g n) {j:Nat}:((aK n.1).testBit j=true∨(aK n.2).testBit j=true)->((aK g.1).testBit j=true∨(aK g.2).testBit j=true):=by
 have:=h.same j;rw[<-or_eq_true,<-or_eq_true,this];exact id
theorem FP {s:Nat} {l:List Dm} {g n:Dm×Dm} (h:kG s l) (hs:Sq g n) (h1:g.1∈l) (h2:g.2∈l):
 kG s (iW (iQ l g n))/\(∀x,x∈iW (iQ l g n)↔x=n.1∨x=n.2∨(x∈l/\x≠g.1/\x≠g.2))/\n.1∉l/\n.2∉l:=by
 have hm : ∀ x, x ∈ iW (iQ l g n) ↔ x = n.1 ∨ x = n.2 ∨ (x ∈ l /\ x ≠ g.1 /\ x ≠ g.2) := fun x => by
  rw[Ez,uN];constructor
  . exact fun q=>q.1
  . intro q;refine⟨q,?_⟩;rcases q with rfl|rfl|⟨q,_⟩
    . exact hs.ok.2.2.1
    . exact hs.ok.2.2.2
    . exact(h.1 x q).1
 have hsort:=xC (iQ l g n);have hg1:=h.1 _ h1;have hg2:=h.1 _ h2
 have hin : ∀ j, ((aK n.1).testBit j = true ∨ (aK n.2).testBit j = true) -> s.testBit j = true := fun j hj => by
  rcases DW hs hj with q|q
  . exact hg1.2 j q
  . exact hg2.2 j q
 have hold : ∀ x ∈ l, x ≠ g.1 -> x ≠ g.2 -> Apart n.1 x /\ Apart n.2 x := fun x hx e1 e2 => by
  have a1:=h.apart h1 hx (Ne.symm e1);have a2:=h.apart h2 hx (Ne.symm e2);refine⟨fun j hj=> ?_,fun j hj=> ?_⟩
  . rcases DW hs (.inl hj)with q|q
    . exact a1 j q
    . exact a2 j q
  . rcases DW hs (.inr hj)with q|q
    . exact a1 j q
    . exact a2 j q
 have hall:∀x,x∈iW (iQ l g n)->∀y,y∈iW (iQ l g n)->x≠y->Apart x y:=by
  intro x hx y hy hne;rcases(hm x).1 hx with rfl|rfl|⟨qx,qx1,qx2⟩<;>rcases(hm y).1 hy with rfl|rfl|⟨qy,qy1,qy2⟩
  . exact absurd rfl hne
  . exact hs.apart.2
  . exact(hold y qy qy1 qy2).1
  . exact kR hs.apart.2
  . exact absurd rfl hne
  . exact(hold y qy qy1 qy2).2
  . exact kR (hold x qx qx1 qx2).1
  . exact kR (hold x qx qx1 qx2).2
  . exact h.apart qx qy hne
 refine⟨⟨fun x hx=> ?_,hsort.2,?_⟩,hm,?_,?_⟩
 . rcases(hm x).1 hx with rfl|rfl|⟨q,_⟩
   . exact⟨hs.ok.2.2.1,fun j hj=>hin j (.inl hj)⟩
   . exact⟨hs.ok.2.2.2,fun j hj=>hin j (.inr hj)⟩
   . exact h.1 x q
 . refine List.Pairwise.imp_of_mem (fun {a b} ha hb hab => ?_) hsort.2;exact hall a ha b hb (fun e=>by subst e;omega)
 . intro q;exact hs.meet.1 (h.apart h1 q hs.ne.1)
 . intro q;exact hs.meet.2 (h.apart h1 q hs.ne.2.1)
theorem Li {s:Nat} {l:List Dm} {g n:Dm×Dm} (h:kG s l) (hs:Sq g n) (h1:g.1∈l) (h2:g.2∈l):
 iW (iQ (iW (iQ l g n)) n g)=l:=by
 obtain⟨a,b,c,d⟩:=FP h hs h1 h2;obtain⟨a',b',_,_⟩:=FP a hs.symm ((b _).2 (.inl rfl)) ((b _).2 (.inr (.inl rfl)));refine Ey a'.2.1 h.2.1 (fun x=> ?_);rw[b',b];constructor
 . rintro(rfl|rfl|⟨q,q1,q2⟩)
   . exact h1
   . exact h2
   . rcases q with q|q|q
     . exact absurd q q1
     . exact absurd q q2
     . exact q.1
 . intro q;by_cases e1:x=g.1
   . exact .inl e1
   . by_cases e2:x=g.2
     . exact .inr (.inl e2)
     . exact .inr (.inr ⟨.inr (.inr ⟨q,e1,e2⟩),fun e=>c (e▸q),fun e=>d (e▸q)⟩)
theorem BV {x y:Int} (h:bG (x,y)=true):(dF (x,y)).toNat=(y*8+x).toNat:=by rw[(dJ h).1]
theorem Pv {c:Cl} (hc:jY c=true):Sq (oZ c) (sV c):=by
 obtain⟨x,y⟩:=c;unfold jY at hc;rw[and_eq_true,decide_eq_true_eq,decide_eq_true_eq]at hc;simp only at hc;obtain⟨⟨x0,x1⟩,y0,y1⟩:=hc;have w1:wrap64 (x+1)=x+1:=by unfold wrap64;omega
 have w2:wrap64 (y+1)=y+1:=by unfold wrap64;omega
 have s1:sec (x,y,false)=(x+1,y):=by unfold sec;simp[w1]
 have s2:sec (x,y+1,false)=(x+1,y+1):=by unfold sec;simp[w1]
 have s3:sec (x,y,true)=(x,y+1):=by unfold sec;simp[w2]
 have s4:sec (x+1,y,true)=(x+1,y+1):=by unfold sec;simp[w2]
 have c1:bG (x,y)=true:=bZ.2 (by simp only;omega);have c2:bG (x+1,y)=true:=bZ.2 (by simp only;omega);have c3:bG (x,y+1)=true:=bZ.2 (by simp only;omega);have c4:bG (x+1,y+1)=true:=bZ.2 (by simp only;omega);have d1:aJ (x,y,false)=true:=by unfold aJ;rw[s1];simp[c1,c2]
 have d2:aJ (x,y+1,false)=true:=by unfold aJ;rw[s2];simp[c3,c4]
 have d3:aJ (x,y,true)=true:=by unfold aJ;rw[s3];simp[c1,c3]
 have d4:aJ (x+1,y,true)=true:=by unfold aJ;rw[s4];simp[c2,c4]
 have b1 : ∀ j, (aK (x, y, false)).testBit j = (decide ((y * 8 + x).toNat = j) || decide ((y * 8 + (x + 1)).toNat = j)) := fun j => by
  rw[aU d1];unfold eO iZ;rw[s1];simp only;rw[BV c1,BV c2]
 have b2 : ∀ j, (aK (x, y + 1, false)).testBit j = (decide (((y + 1) * 8 + x).toNat = j) || decide (((y + 1) * 8 + (x + 1)).toNat = j)) := fun j => by
  rw[aU d2];unfold eO iZ;rw[s2];simp only;rw[BV c3,BV c4]
 have b3 : ∀ j, (aK (x, y, true)).testBit j = (decide ((y * 8 + x).toNat = j) || decide (((y + 1) * 8 + x).toNat = j)) := fun j => by
  rw[aU d3];unfold eO iZ;rw[s3];simp only;rw[BV c1,BV c3]
 have b4 : ∀ j, (aK (x + 1, y, true)).testBit j = (decide ((y * 8 + (x + 1)).toNat = j) || decide (((y + 1) * 8 + (x + 1)).toNat = j)) := fun j => by
  rw[aU d4];unfold eO iZ;rw[s4];simp only;rw[BV c2,BV c4]
 have no:∀{a b:Dm} (j:Nat),(aK a).testBit j=true->(aK b).testBit j=true->¬Apart a b:=fun j h1 h2 h=>by rw[h j h1]at h2;cases h2
 unfold oZ sV;refine⟨⟨d1,d2,d3,d4⟩,fun j=> ?_,⟨fun j hj=> ?_,fun j hj=> ?_⟩,⟨?_,?_⟩,⟨?_,?_⟩,?_⟩
 . simp only;rw[b1,b2,b3,b4,Bool.eq_iff_iff];simp only[or_eq_true,decide_eq_true_eq];constructor<;>rintro((h|h)|h|h)<;>simp[h]
 . simp only at hj⊢;rw[b1,or_eq_true,decide_eq_true_eq,decide_eq_true_eq]at hj;rw[b2,Bool.or_eq_false_iff,decide_eq_false_iff_not,decide_eq_false_iff_not];omega
 . simp only at hj⊢;rw[b3,or_eq_true,decide_eq_true_eq,decide_eq_true_eq]at hj;rw[b4,Bool.or_eq_false_iff,decide_eq_false_iff_not,decide_eq_false_iff_not];omega
 . exact no (y*8+x).toNat (by rw[b1];simp) (by rw[b3];simp)
 . exact no (y*8+(x+1)).toNat (by rw[b1];simp) (by rw[b4];simp)
 . exact no ((y+1)*8+x).toNat (by rw[b2];simp) (by rw[b3];simp)
 . exact no ((y+1)*8+(x+1)).toNat (by rw[b2];simp) (by rw[b4];simp)
 . simp
theorem FQ {l:List Dm} {c:Cl} (h:kindOf l c≠0):jY c=true:=by
 unfold kindOf at h;rcases q:jY c with _|_
 . rw[q]at h;simp at h
 . rfl
theorem Ki {l:List Dm} {c:Cl} (h:kindOf l c≠0):Sq (mP (kindOf l c) c) (nW (kindOf l c) c)/\(mP (kindOf l c) c).1∈l/\(mP (kindOf l c) c).2∈l:=by
 have hin:=FQ h;have hsq:=Pv hin;have hk:kindOf l c=if eT l (oZ c)then 1 else if eT l (sV c)then 2 else 0:=by unfold kindOf;rw[hin];rfl
 by_cases q:eT l (oZ c)=true
 . rw[if_pos q]at hk;rw[hk];unfold eT at q;rw[and_eq_true,contains_iff_mem,contains_iff_mem]at q;exact⟨hsq,q⟩
 . rw[if_neg q]at hk;by_cases r:eT l (sV c)=true
   . rw[if_pos r]at hk;rw[hk];unfold eT at r;rw[and_eq_true,contains_iff_mem,contains_iff_mem]at r;exact⟨hsq.symm,r⟩
   . rw[if_neg r]at hk;exact absurd hk h
theorem Kj {s:Nat} {l:List Dm} {c:Cl} (h:kG s l) (hk:kindOf l c≠0):kG s (aS l c)/\kindOf (aS l c) c≠0/\aS (aS l c) c=l:=by
 obtain⟨hsq,h1,h2⟩:=Ki hk;have hin:=FQ hk;obtain⟨a,b,_,_⟩:=FP h hsq h1 h2;have hback:=Li h hsq h1 h2;have e:aS l c=iW (iQ l (mP (kindOf l c) c) (nW (kindOf l c) c)):=rfl;rw[<-e]at a b hback;have hkk:kindOf l c=1∨kindOf l c=2:=by have:=Ev l c;omega
 have hk2:kindOf (aS l c) c=3-kindOf l c:=by
  have hk':kindOf (aS l c) c=if eT (aS l c) (oZ c)then 1 else if eT (aS l c) (sV c)then 2 else 0:=by conv=>lhs;unfold kindOf;rw[hin,if_pos rfl]
  rw[hk'];rcases hkk with q|q
  . rw[q]at b hsq⊢
    have b1:eT (aS l c) (oZ c)=false:=by
     unfold eT;rw[Bool.and_eq_false_iff];left;rcases r:(aS l c).contains (oZ c).1 with _|_
     . rfl
     . rw[contains_iff_mem,b]at r;rcases r with r|r|r
       . exact absurd r hsq.ne.1
       . exact absurd r hsq.ne.2.1
       . exact absurd rfl r.2.1
    have b2:eT (aS l c) (sV c)=true:=by
     unfold eT;rw[and_eq_true,contains_iff_mem,contains_iff_mem,b,b];exact⟨.inl rfl,.inr (.inl rfl)⟩
    rw[b1,b2];rfl
  . rw[q]at b hsq⊢
    have b2:eT (aS l c) (oZ c)=true:=by
     unfold eT;rw[and_eq_true,contains_iff_mem,contains_iff_mem,b,b];exact⟨.inl rfl,.inr (.inl rfl)⟩
    rw[b2];rfl
 refine⟨a,by omega,?_⟩;have e2:aS (aS l c) c=iW (iQ (aS l c) (mP (kindOf (aS l c) c) c) (nW (kindOf (aS l c) c) c)):=rfl;rw[e2,hk2];rcases hkk with q|q
 . rw[q]at hback⊢;exact hback
 . rw[q]at hback⊢;exact hback
theorem Af : ∀ (cs : List Cl) (l : List Dm) (c : Cl), iA l (cs ++ [c]) = (iA l cs).bind fun m => if kindOf m c = 0 then none else some (aS m c)
  |[],l,c=>by simp[iA]
  | d :: r, l, c => by
   simp only[List.cons_append,iA];split
   . rfl
   . exact Af r _ c
abbrev Fl:=List Int×List Dm×List Dm×List Cl
def yL (x:Fl) (j:Nat):Fl:=(x.1,x.2.1,(dM x.2.1 (x.2.2.2.take j)).1,x.2.2.2.take j)
def lG (x:Fl):Bool:=dG x.1 x.2.1 x.2.2.1 x.2.2.2
def Bg (x:Fl) (c:Cl):Fl×Bool:=if lG x=true/\x.2.2.2.length≠60/\kindOf x.2.2.1 c≠0 then((x.1,x.2.1,aS x.2.2.1 c,x.2.2.2++[c]),true)else(x,false)
def jP (x:Fl):Fl×Bool:=if lG x=true/\x.2.2.2.length≠0 then(yL x (x.2.2.2.length-1),true)else(x,false)
def iL (x:Fl):Fl:=if lG x=true then yL x 0 else x
theorem Ag:∀(cs:List Cl) {l m:List Dm} (j:Nat),iA l cs=some m->∃k,iA l (cs.take j)=some k
  |[],l,m,j,h=>⟨l,by simp[iA]⟩
  |c::r,l,m,0,h=>⟨l,by simp[iA]⟩
  | c :: r, l, m, j + 1, h => by
   unfold iA at h;split at h
   . cases h
   . rename_i q;obtain⟨k,hk⟩:=Ag r j h;exact⟨k,by rw[List.take_succ_cons];unfold iA;rw[if_neg q];exact hk⟩
theorem nM {x:Fl}:lG x=true↔eG x.1 x.2.1=true/\x.2.2.2.length<=60/\iA x.2.1 x.2.2.2=some x.2.2.1:=by
 unfold lG dG;rw[and_eq_true,and_eq_true,and_eq_true,decide_eq_true_eq,decide_eq_true_eq];constructor
 . rintro⟨⟨⟨h1,h2⟩,h3⟩,h4⟩;refine⟨h1,h2,?_⟩;unfold dM at h3 h4;rw[if_neg (by omega)]at h3 h4;split at h3
   . cases h3
   . rename_i m q;rw[q]at h4⊢;exact congrArg some h4
 . rintro⟨h1,h2,h3⟩;unfold dM;rw[if_neg (by omega),h3];exact⟨⟨⟨h1,h2⟩,rfl⟩,rfl⟩
theorem FR {x:Fl} (h:lG x=true) (j:Nat):iA x.2.1 (x.2.2.2.take j)=some (yL x j).2.2.1:=by
 obtain⟨h1,h2,h3⟩:=nM.1 h;obtain⟨k,hk⟩:=Ag _ j h3;rw[hk];unfold yL dM;simp only;rw[if_neg (by rw[length_take];omega),hk]
theorem Kk {x:Fl} (h:lG x=true) (j:Nat):lG (yL x j)=true:=by
 obtain⟨h1,h2,h3⟩:=nM.1 h;exact nM.2 ⟨h1,by show(x.2.2.2.take j).length<=60;rw[length_take];omega,FR h j⟩
theorem Lj {x:Fl} (h:lG x=true):yL x x.2.2.2.length=x:=by
 obtain⟨h1,h2,h3⟩:=nM.1 h;have:=FR h x.2.2.2.length;rw[List.take_length,h3]at this;injection this with this;obtain⟨a,b,c,d⟩:=x;unfold yL at this⊢;simp only[List.take_length]at this⊢;rw[<-this]
theorem Oe (x:Fl) {i j:Nat} (h:i<=j):yL (yL x j) i=yL x i:=by
 unfold yL;simp only[List.take_take];rw[Nat.min_eq_left h]
theorem Mm {x:Fl} {j:Nat} (h:j<=x.2.2.2.length):(yL x j).2.2.2.length=j:=by
 unfold yL;simp only[length_take];omega
theorem wO {x:Fl} (h:lG x=true):x.2.2.2.length<=60:=(nM.1 h).2.1
end Go.Proofs.YtljfoohaapckeaaGreatDoor
