import Derived.Test.YtjijonhkofhikaaGreatDoorFK4
open _root_.List renaming getElem?_cons_zero->Tm,getElem?_cons_succ->Tn,mem_cons->Tp,mem_cons_of_mem->Tq,mem_cons_self->Tt,contains_iff_mem->Tu,length_take->Tv,take_length->Tw
open _root_.Bool renaming and_eq_true->Tx,or_eq_true->Ty
open _root_.Go.Proofs.Tryz (prog func91 ntmps91 func220 ntmps220 func166 ntmps166)
set_option linter.unusedVariables false
set_option maxHeartbeats 4000000
set_option maxRecDepth 100000
set_option linter.unusedSimpArgs false
namespace Go.Proofs.YtjijonhkofhikaaGreatDoor
open Go.ChangeShapes Go.WideShapes Go.ChangeAt Go.RowKit
def cntF (f:Nat->Bool):Nat->Nat
  |0=>0
  |k+1=>cntF f k+(f k).toNat
theorem jC (f:Nat->Bool) (k:Nat):cntF f (k+1)=cntF f k+(f k).toNat:=rfl
theorem yR (s:Nat):∀k,(eX s k).length=cntF s.testBit k
  |0=>by simp[eX,cntF]
  | k + 1 => by
   rw[zG,List.length_append,yR s k];rw[jC];cases s.testBit k<;>simp
theorem E8 {f g:Nat->Bool} {i:Nat} (hne:∀j,j≠i->f j=g j) (hf:f i=true) (hg:g i=false):∀k,cntF f k=cntF g k+(if i<k then 1 else 0)
  |0=>by simp[cntF]
  | k + 1 => by
   have ih:=E8 hne hf hg k;rw[jC,jC];by_cases e:k=i
   . subst e;rw[if_neg (by omega)]at ih;rw[if_pos (by omega),ih,hf,hg];simp
   . rw[ih,hne k e];by_cases h:i<k
     . rw[if_pos h,if_pos (by omega)];omega
     . rw[if_neg h,if_neg (by omega)];omega
theorem F5 {f:Nat->Bool}:∀k,cntF f k=0->∀j,j<k->f j=false
  |0,_,j,hj=>by omega
  | k + 1, h, j, hj => by
   rw[jC]at h;by_cases e:j=k
   . subst e;rcases q:f j with _|_
     . rfl
     . rw[q]at h;simp at h
   . exact F5 k (by omega) j (by omega)
theorem F6 {f:Nat->Bool}:∀k,(∀j,j<k->f j=false)->cntF f k=0
  |0,_=>rfl
  | k + 1, h => by
   rw[jC,F6 k (fun j hj=>h j (by omega)),h k (by omega)];rfl
theorem Sb {d:Dm} (h:aI d=true):fC d≠jL d:=by
 intro e;obtain⟨h1,h2⟩:=dR h;have:=yP h1 h2 e;have D:=nC h;unfold sec at this;split at this
 . simp only[Prod.mk.injEq]at this;have k:=this.2;unfold wrap64 at k;omega
 . simp only[Prod.mk.injEq]at this;have k:=this.1;unfold wrap64 at k;omega
theorem O6 {left:Nat} {d:Dm} (hl:left<U64) (hd:aI d=true) (hs:left&&&aG d=aG d):cntF left.testBit 64=cntF (dE left (aG d)).testBit 64+2:=by
 obtain⟨hi,hj⟩:=AL hd;have hne:=Sb hd;have bI:left.testBit (fC d)=true:=qV hs _ (by rw[aT hd];simp);have bJ:left.testBit (jL d)=true:=qV hs _ (by rw[aT hd];simp)
 have h1 := E8 (f := left.testBit) (g := fun k => left.testBit k && !decide (fC d = k)) (i := fC d) (fun j hj => by
  have:decide (fC d=j)=false:=by simp;omega
  simp only[this,Bool.not_false,Bool.and_true]) bI (by simp) 64
 have h2 := E8 (f := fun k => left.testBit k && !decide (fC d = k)) (g := (dE left (aG d)).testBit) (i := jL d) (fun j hj => by
  have:decide (jL d=j)=false:=by simp;omega
  simp only[jQ hl (dQ hd),aT hd,this,Bool.or_false]) (by
  have:decide (fC d=jL d)=false:=by simp;omega
  simp only[this,bJ];rfl) (by rw[jQ hl (dQ hd),aT hd];simp) 64
 rw[if_pos hi]at h1;rw[if_pos hj]at h2;omega
def leftOf (left:Nat):List Dm->Nat
  |[]=>left
  |d::r=>leftOf (dE left (aG d)) r
def iF (s:Nat):List Dm->Nat
  |[]=>s
  |d::r=>iF (if aI d then s|||aG d else s) r
theorem Qx {a b:Nat} (ha:a<U64) (hb:b<U64):a|||b<U64:=by
 unfold U64 at*;exact Nat.or_lt_two_pow (n:=64) ha hb
theorem KZ {s:Nat} (hs:s<U64) (d:Dm):(if aI d then s|||aG d else s)<U64:=by
 split
 . rename_i h;exact Qx hs (dQ h)
 . exact hs
theorem yS:∀(l:List Dm) (s:Nat),s<U64->iF s l<U64
  |[],s,h=>h
  |d::r,s,h=>yS r _ (KZ h d)
theorem wG (j : Nat) : ∀ (l : List Dm) (s : Nat), (iF s l).testBit j = (s.testBit j || l.any fun d => aI d && (aG d).testBit j)
  |[],s=>by simp[iF]
  | d :: r, s => by
   unfold iF;rw[wG j r];rcases h:aI d with _|_
   . rw[if_neg (by simp)];simp[h]
   . rw[if_pos rfl,Nat.testBit_or];simp[h,Bool.or_assoc]
theorem wH : ∀ (l : List Dm) (left : Nat) (p : Option Dm), left < U64 -> kS left p l = true -> leftOf left l < U64 /\ cntF left.testBit 64 = cntF (leftOf left l).testBit 64 + 2 * l.length /\ ∀ j, (leftOf left l).testBit j = (left.testBit j && !l.any fun d => aI d && (aG d).testBit j)
  |[],left,p,hl,h=>⟨hl,by simp[leftOf],fun j=>by simp[leftOf]⟩
  | d :: r, left, p, hl, h => by
   obtain⟨h1,h2,h3⟩:=uO h;obtain⟨a,b,c⟩:=wH r _ _ (eD hl) h3;have:=O6 hl h1 h2;refine⟨a,?_,fun j=> ?_⟩
   . show cntF left.testBit 64=cntF (leftOf (dE left (aG d)) r).testBit 64+2*(d::r).length;rw[List.length_cons];omega
   . show(leftOf (dE left (aG d)) r).testBit j=_;rw[c,jQ hl (dQ h1),List.any_cons,h1,Bool.true_and,Bool.not_or,Bool.and_assoc]
theorem NC {left:Nat} {p:Option Dm} {l:List Dm} (hl:left<U64) (h:kS left p l=true):iF 0 l=left↔2*l.length=cntF left.testBit 64:=by
 obtain⟨a,b,c⟩:=wH l left p hl h;have hc:∀j,(iF 0 l).testBit j=l.any fun d=>aI d&&(aG d).testBit j:=fun j=>by rw[wG];simp
 constructor
 . intro e;have:cntF (leftOf left l).testBit 64=0:=F6 64 (fun j _=>by rw[c,<-hc,e];simp);omega
 . intro e;have hz:cntF (leftOf left l).testBit 64=0:=(by omega);refine Mg (yS l 0 pO) hl (fun j hj=> ?_);have h0:=F5 64 hz j hj;rw[c,<-hc]at h0;rcases q:(iF 0 l).testBit j with _|_
   . rw[q]at h0;rcases r:left.testBit j with _|_
     . rfl
     . rw[r]at h0;cases h0
   . rw[hc,List.any_eq_true]at q;obtain⟨d,hd,hb⟩:=q;rw[Tx]at hb;exact((DK l left p hl h d hd).2 j hb.2).symm
def eF (rows:List Int) (l:List Dm):Bool:=isPartial rows l&&decide (2*l.length=(eU rows).length)
theorem wC {rows:List Int} {l:List Dm} (h:isPartial rows l=true):eF rows l=decide (iF 0 l=setOf rows):=by
 obtain⟨ho,hp⟩:=iW h;unfold eF eU;rw[h,Bool.true_and,if_pos (aR.2 ho),yR,decide_eq_decide];exact(NC (dW ho) hp).symm
theorem K3 {left:Nat} {p:Option Dm} {l:List Dm} (hl:left<U64) (h:kS left p l=true):l.length<=32:=by
 obtain⟨a,b,c⟩:=wH l left p hl h
 have:∀(f:Nat->Bool) k,cntF f k<=k:=by
  intro f k;induction k with
  |zero=>simp[cntF]
  |succ k ih=>rw[jC];have:(f k).toNat<=1:=Bool.toNat_le _;omega
 have:=this left.testBit 64;omega
end Go.Proofs.YtjijonhkofhikaaGreatDoor
namespace Go.Proofs.YtjijonhkofhikaaGreatDoor
open Go.ChangeShapes Go.WideShapes Go.ChangeAt Go.RowKit
theorem K4 (i x y:Nat) (w:World) (hi:i<64) (hx:x=i%8) (hy:y=i/8):Calls prog 132 #[.int .i64 i] w (Ret (.tuple #[.agg #[.int .i64 x,.int .i64 y],.bool true]) w):=by
 have:=wF i w hi;rw[hx,hy];simpa using this
theorem G9 (s:Nat) (d:Dm) (r:List Dm):iF s (d::r)=iF (if aI d then s|||aG d else s) r:=rfl
theorem uP (v:Value) (l:List Dm) (w:World) (h:Rd 3 aQ w v l):Calls prog 144 #[v] w (Ret (.int .u64 (iF 0 l:Nat)) w):=by
 obtain⟨A,c,rfl,hc,hm⟩:=h.form;go_enter Tryz.func144,Tryz.ntmps144
 go_wp2;go_loopw [3,8] (fun s3 s8 wr=>∃k S:Nat,k<=l.length/\s8= .int .i64 k/\s3= .int .u64 S/\S<U64/\Hid (iF S (l.drop k)=iF 0 l)/\Below w.heap.size w wr) (fun _ i _=>l.length-(intOf i).toNat)
 case atStart=>exact⟨0,0,Nat.zero_le _,rfl,rfl,pO,Tk rfl,Below.refl _ _⟩
 case round=>
  obtain⟨k,S,hk,rfl,rfl,hS,Hg,a6⟩:=hrel;by_cases hlt:k<l.length
  . obtain⟨b,off,rfl,hb,q1,q2,q3⟩:=(h.Tj a6).kE hlt;have hg:=Hg.out;rw[List.drop_eq_getElem_cons hlt,G9]at hg;obtain⟨d,hd⟩:=Ti (l[k]);rw[<-hd]at q1 q2 q3 hg;obtain⟨x,y,dn⟩:=d;simp only at q1 q2 q3;have bD:=Blk.aX wr 99 #[.int .i64 x,.int .i64 y,.bool dn];rcases a7:aI (x,y,dn)with _|_
    . rw [a7, if_neg (by simp)] at hg;have bA:=Tk hg;have a8:=Tk a7;clear hg a7 hd;go_wp2_with fail
      refine(aO x y dn _).mono ?_;rintro e w1 ⟨rfl,hb1⟩;rw[a8.out];go_wp2;go_roundw
      case rel=>exact⟨k+1,S,by omega,by go_num,rfl,hS,bA,(a6.al _).tr hb1⟩
      case measure=>simp[intOf];omega
    . rw[a7,if_pos rfl]at hg;have hDlt:=dQ a7;have a8:=Tk a7;clear a7 hd;go_wp2_with fail
      refine(aO x y dn _).mono ?_;rintro e w1 ⟨rfl,hb1⟩;rw[a8.out];have bB:=bD.bl hb1;have z0:=bB.cell 0;have z1:=bB.cell 1;have z2:=bB.cell 2;simp only[List.getElem?_toArray,Tm,Tn]at z0 z1 z2;obtain⟨D,hD⟩:=Ti (aG (x,y,dn))
      have bE:bits .or .u64 (S:Int) (D:Int)=((S|||D:Nat):Int):=by
       rw[<-hD]at hDlt;unfold U64 at hS hDlt;exact u64_or_nat S D hS hDlt
      have bC:S|||D<U64:=by rw[hD];exact Qx hS hDlt
      rw[<-hD]at hg;have bA:=Tk hg;clear hg;have HD:=Tk hD;clear hD;go_wp2_with fail
      refine(dA x y dn _ a8.out).mono ?_;rintro e w2 ⟨rfl,hb2⟩;rw[<-HD.out];go_wp2;go_roundw
      case rel=>exact⟨k+1,S|||D,by omega,by go_num,rfl,bC,bA,((a6.al _).tr hb1).tr hb2⟩
      case measure=>simp[intOf];omega
  . obtain rfl : k = l.length := by omega
    have hg:=Hg.out;rw[List.drop_of_length_le (Nat.le_refl _)]at hg;have hg2:S=iF 0 l:=hg;have HG:=Tk hg2;clear hg hg2;go_wp2;go_ret;exact⟨congrArg Ending.returned (SQ HG.out),a6⟩
theorem wI (v u:Value) (rows:List Int) (l:List Dm) (w:World) (h:Rd 1 aZ w v rows) (h2:Rd 3 aQ w u l):Calls prog 91 #[.agg #[v],u] w (Ret (.bool (eF rows l)) w):=by
 obtain⟨A,c,rfl,hc,hm⟩:=h.form;obtain⟨A2,c2,rfl,hc2,bF⟩:=h2.form;have hA:=((Below.refl w.heap.size w).al (.cells #[.slice A rows.length c] 26));have hz:w.heap.size+1<=(w.alloc (.cells #[.slice A rows.length c] 26)).drew.heap.size:=(by simp);have bJ:w.heap.size<w.heap.size+1:=(by omega);have a6:=hA.drew;have HR:=Tk h;have HL:=Tk h2;clear h h2;rcases bC:isPartial rows l with _|_
 . have e : eF rows l = false := by unfold eF; rw [bC]; rfl
   rw[e];have bD:=Tk bC;clear bC e;go_enter func91,ntmps91
   go_wp2_with fail
   refine rB (fun w'=>w'.cell? ⟨w.heap.size,0,none⟩=some (.slice A rows.length c)) fun hHeld=>(tW 0)<|(tW 1)<|(tR [2])<|tL fun K hK=>?_
   go_simp
   (first|(go_at_call 60;go_must (refine(qL _ _ rows l _ (HR.out.Tj a6) (HL.out.Tj a6)).mono ?_;rintro e wX ⟨rfl,a7⟩;rw[bD.out];obtain⟨bA,bB,a8⟩:=bkn a7 (w.heap.size+1) hz;have hz:=a8;have a6:=a6.tr a7);(try go_wp2_with fail)))
   refine tK hK fun hHeld=>?_
   clear hK K;refine(tW 3)<|(tU 4)<|(tU 5)<|(tU 6)<|(tU 7)<|(tU 8)<|(tW 9)<|(tW 10)<|tD ?_;go_wp2;go_ret;exact⟨rfl,a6⟩
 . have ho:=(iW bC).1;have hs:=dW ho;have e:=wC bC
   have e2:(((iF 0 l:Nat):Int)==((setOf rows:Nat):Int))=eF rows l:=by
    rw[e,Bool.eq_iff_iff,beq_iff_eq,decide_eq_true_iff];omega
   obtain⟨R,hR⟩:=Ti (eF rows l);obtain⟨S,hS⟩:=Ti (iF 0 l);obtain⟨T,hT⟩:=Ti (setOf rows);rw[<-hR,<-hS,<-hT]at e2;rw[<-hR];have bE:=Tk ho;have bD:=Tk bC;have HS:=Tk hS;have HT:=Tk hT;clear ho bC e hR hS hT hs;go_enter func91,ntmps91
   go_wp2_with fail
   refine rB (fun w'=>w'.cell? ⟨w.heap.size,0,none⟩=some (.slice A rows.length c)) fun hHeld=>(tW 0)<|(tW 1)<|(tR [2])<|tL fun K hK=>?_
   go_simp
   (first|(go_at_call 60;go_must (refine(qL _ _ rows l _ (HR.out.Tj a6) (HL.out.Tj a6)).mono ?_;rintro e wX ⟨rfl,a7⟩;rw[bD.out];obtain⟨bA,bB,a8⟩:=bkn a7 (w.heap.size+1) hz;have hz:=a8;have a6:=a6.tr a7);(try go_wp2_with fail))|(go_at_call 144;go_must (refine(uP _ l _ (HL.out.Tj a6)).mono ?_;rintro e wX ⟨rfl,a7⟩;rw[<-HS.out];obtain⟨bA,bB,a8⟩:=bkn a7 (w.heap.size+1) hz;have hz:=a8;have a6:=a6.tr a7);(try go_wp2_with fail))|(go_at_call 61;go_must (refine(pV _ rows _ (HR.out.Tj a6) bE).mono ?_;rintro e wX ⟨rfl,a7⟩;rw[<-HT.out];obtain⟨bA,bB,a8⟩:=bkn a7 (w.heap.size+1) hz;have hz:=a8;have a6:=a6.tr a7);(try go_wp2_with fail)))
   refine tK hK fun hHeld=>?_
   clear hK K;refine(tW 3)<|(tW 4)<|(tW 6)<|(tR [5])<|tL fun K hK=>?_
   go_simp
   (first|(go_at_call 60;go_must (refine(qL _ _ rows l _ (HR.out.Tj a6) (HL.out.Tj a6)).mono ?_;rintro e wX ⟨rfl,a7⟩;rw[bD.out];obtain⟨bA,bB,a8⟩:=bkn a7 (w.heap.size+1) hz;have hz:=a8;have a6:=a6.tr a7);(try go_wp2_with fail))|(go_at_call 144;go_must (refine(uP _ l _ (HL.out.Tj a6)).mono ?_;rintro e wX ⟨rfl,a7⟩;rw[<-HS.out];obtain⟨bA,bB,a8⟩:=bkn a7 (w.heap.size+1) hz;have hz:=a8;have a6:=a6.tr a7);(try go_wp2_with fail))|(go_at_call 61;go_must (refine(pV _ rows _ (HR.out.Tj a6) bE).mono ?_;rintro e wX ⟨rfl,a7⟩;rw[<-HT.out];obtain⟨bA,bB,a8⟩:=bkn a7 (w.heap.size+1) hz;have hz:=a8;have a6:=a6.tr a7);(try go_wp2_with fail)))
   refine tK hK fun hHeld=>?_
   clear hK K;refine(tR [7])<|tL fun K hK=>?_
   go_simp
   (first|(go_at_call 60;go_must (refine(qL _ _ rows l _ (HR.out.Tj a6) (HL.out.Tj a6)).mono ?_;rintro e wX ⟨rfl,a7⟩;rw[bD.out];obtain⟨bA,bB,a8⟩:=bkn a7 (w.heap.size+1) hz;have hz:=a8;have a6:=a6.tr a7);(try go_wp2_with fail))|(go_at_call 144;go_must (refine(uP _ l _ (HL.out.Tj a6)).mono ?_;rintro e wX ⟨rfl,a7⟩;rw[<-HS.out];obtain⟨bA,bB,a8⟩:=bkn a7 (w.heap.size+1) hz;have hz:=a8;have a6:=a6.tr a7);(try go_wp2_with fail))|(go_at_call 61;go_must (refine(pV _ rows _ (HR.out.Tj a6) bE).mono ?_;rintro e wX ⟨rfl,a7⟩;rw[<-HT.out];obtain⟨bA,bB,a8⟩:=bkn a7 (w.heap.size+1) hz;have hz:=a8;have a6:=a6.tr a7);(try go_wp2_with fail)))
   refine tK hK fun hHeld=>?_
   clear hK K;refine(tW 8)<|(tW 9)<|(tW 10)<|tD ?_
   all_goals
     go_wp2;go_ret;exact⟨lJ (by first|exact e2|(simp;done)|simpa using e2),a6⟩
theorem uQ (v:Value) (rows:List Int) (w:World) (h:Rd 1 aZ w v rows):Calls prog 220 #[.agg #[v]] w (fM 83 2 dM (eU rows) w):=by
 obtain⟨A,c,rfl,hc,hm⟩:=h.form;have hA:=(Below.refl w.heap.size w).al (.cells #[.slice A rows.length c] 26);have bX:=Blk.aX w 26 #[.slice A rows.length c];have h':=h.Tj hA;rcases hr:bW rows with _|_
 . have e : eU rows = [] := by unfold eU; rw [hr]; rfl
   rw[e];go_enter func220,ntmps220
   go_wp2;go_loopw [3,4] (fun s3 s4 wr=>s4= .int .i64 0/\s3= .slice (some ⟨w.heap.size+1,0,none⟩) 0 0/\aD 83 2 dM w.heap.size wr (.slice (some ⟨w.heap.size+1,0,none⟩) 0 0) ([]:List Cl)/\Below (w.alloc (.cells #[.slice A rows.length c] 26)).heap.size (w.alloc (.cells #[.slice A rows.length c] 26)) wr) (fun _ _ _=>0)
   case atStart=>exact⟨rfl,rfl,eG (w.alloc (.cells #[.slice A rows.length c] 26)) (w.heap.size+1) (by simp) _ (by simp),(Below.refl _ _).al _⟩
   case round=>
    obtain⟨rfl,rfl,hown,a6⟩:=hrel;have zx:=(bX.bl a6).c1;go_wp2_with fail
    refine(fB _ rows _ (h'.Tj a6)).mono ?_;rintro e w1 ⟨rfl,hb1⟩;rw[hr];go_wp2;go_ret;exact⟨_,_,rfl,hown.below hb1,(hA.tr a6).tr hb1⟩
 . have e : eU rows = eX (setOf rows) 64 := by unfold eU; rw [hr]; rfl
   rw[e];have bK:=aR.1 hr;have bO:=Tk bK;have Hr:=Tk hr;clear bK e hr;obtain⟨s,bF⟩:=Ti (setOf rows);rw[<-bF];have bP:=Tk bF;clear bF;go_enter func220,ntmps220
   go_wp2;go_loopw [3,4] (fun s3 s4 wr=>∃(k:Nat) (A3:Option Addr) (c3:Nat),k<=64/\s4= .int .i64 k/\s3= .slice A3 (eX s k).length c3/\aD 83 2 dM (w.alloc (.cells #[.slice A rows.length c] 26)).heap.size wr (.slice A3 (eX s k).length c3) (eX s k)/\Below (w.alloc (.cells #[.slice A rows.length c] 26)).heap.size (w.alloc (.cells #[.slice A rows.length c] 26)) wr) (fun _ i _=>64-(intOf i).toNat)
   case atStart=>exact⟨0,_,_,by omega,rfl,rfl,eG (w.alloc (.cells #[.slice A rows.length c] 26)) (w.heap.size+1) (by simp) _ (Nat.le_refl _),(Below.refl _ _).al _⟩
   case round=>
    obtain⟨k,A3,c3,hk,rfl,rfl,hown,a6⟩:=hrel;have zx:=(bX.bl a6).c1;by_cases hlt:k<64
    . have hle:=vC s k;have a7:=zG s k;obtain⟨x,hx⟩:=Ti (k%8);obtain⟨y,hy⟩:=Ti (k/8);have bR:x<8:=(by omega);have bS:y<8:=(by omega);have bL:8*y+x=k:=(by omega);have bM:iT k=((x:Int),(y:Int)):=by unfold iT;simp only[Prod.mk.injEq];omega
      obtain⟨cs,hcs⟩:=Ti (eX s k);rw[<-hcs]at hle a7 hown⊢;rw[bM]at a7;have H8:Hid ((cs.length+1)*16<=140737488355328):=Tk (by omega);have HM:Hid (cs.length+1<=maxLen):=Tk (by unfold maxLen;omega);have bU:=Tk bL;have Hx:=Tk hx;have Hy:=Tk hy;have a8:=Tk a7;have bY:=Tk hcs;clear a7 hcs hx hy bM bL;go_wp2_with fail
      refine(fB _ rows _ (h'.Tj a6)).mono ?_;rintro e w1 ⟨rfl,hb1⟩;rw[Hr.out];go_wp2_with fail
      refine(K4 k x y _ hlt Hx.out Hy.out).mono ?_;rintro e w2 ⟨rfl,hb2⟩;have B2:=((a6.tr hb1).tr hb2).al (.cells #[.int .i64 x,.int .i64 y] 83);have bC:=Blk.aX w2 83 #[.int .i64 x,.int .i64 y];have bJ:=((hown.below hb1).below hb2).alloc (.cells #[.int .i64 x,.int .i64 y] 83);clear zx;have zx:=(bX.bl B2).c1;have bD:=bC.cell 0;have bE:=bC.cell 1;simp only[List.getElem?_toArray,Tm,Tn]at bD bE;go_wp2_with fail
      refine(eO _ rows x y _ (h'.Tj B2) bO bR bS).mono ?_;rintro e w3 ⟨rfl,hb3⟩;rw[<-bP.out,bU.out];have bN:=bC.bl hb3;have B3:=B2.tr hb3;have bA:=bJ.below hb3;rcases hb:s.testBit k with _|_
      . have e : eX s (k + 1) = cs := by rw [a8.out, if_neg (by rw [hb]; simp)]; simp
        have E:=Tk e;have Hb:=Tk hb;clear e hb;go_wp2;go_roundw
        case rel=>exact⟨k+1,A3,c3,by omega,by go_num,by rw[E.out],by rw[E.out];exact bA,B3⟩
        case measure=>simp[intOf];omega
      . have e : eX s (k + 1) = cs ++ [((x : Int), (y : Int))] := by rw [a8.out, if_pos hb]
        have E:=Tk e;have Hb:=Tk hb;clear e hb;clear bD bE;have bD:=bN.cell 0;have bE:=bN.cell 1;simp only[List.getElem?_toArray,Tm,Tn]at bD bE;go_wp2_with (at_builtin;go_must (refine aF (enc:=dM) jK eB oneCell B3 bA (((x:Int),(y:Int)):Cl) H8.out HM.out rfl _ _ rfl rfl rfl ?_);intro v4 w4 bB hb4 hg4 b5;obtain⟨A4,c4,rfl,b6,b7⟩:=bB.form)
        go_roundw
        case rel=>exact⟨k+1,A4,c4,by omega,by go_num,by rw[E.out];simp,by rw[E.out];exact bB,hb4⟩
        case measure=>simp[intOf];omega
    . obtain rfl : k = 64 := by omega
      go_wp2;go_ret;exact⟨A3,c3,rfl,hown.mono hA.size,hA.tr a6⟩
theorem vE (v:Value) (rows:List Int) (w:World) (h:Rd 1 aZ w v rows):Calls prog 217 #[.agg #[v]] w (Ret (.int .i64 (eU rows).length) w):=by
 obtain⟨A,c,rfl,hc,hm⟩:=h.form;have hA:=(Below.refl w.heap.size w).al (.cells #[.slice A rows.length c] 26);go_enter Tryz.func217,Tryz.ntmps217
 go_wp2_with fail
 refine(uQ _ rows _ (h.Tj hA)).mono ?_;rintro e w1 ⟨A1,c1,rfl,a6,hb1⟩;go_wp2;go_ret;exact⟨rfl,hA.tr hb1⟩
theorem wJ (v u:Value) (rows:List Int) (l:List Dm) (w:World) (h:Rd 1 aZ w v rows) (h2:Rd 3 aQ w u l):Calls prog 166 #[.agg #[v],u] w (Ret (.bool (eF rows l)) w):=by
 obtain⟨A,c,rfl,hc,hm⟩:=h.form;obtain⟨A2,c2,rfl,hc2,a8⟩:=h2.form;have hA:=((Below.refl w.heap.size w).al (.cells #[.slice A rows.length c] 26));have bX:=Blk.aX w 26 #[.slice A rows.length c];rcases a6:isPartial rows l with _|_
 . have e : eF rows l = false := by unfold eF; rw [a6]; rfl
   rw[e];have a7:=Tk a6;clear a6 e;go_enter func166,ntmps166
   go_wp2_with fail
   refine(xI _ _ rows l _ (h.Tj hA) (h2.Tj hA)).mono ?_;rintro e w1 ⟨rfl,hb1⟩;rw[a7.out];go_wp2;go_ret;exact⟨rfl,hA.tr hb1⟩
 . have ho:=(iW a6).1;have hlen:=K3 (dW ho) (iW a6).2;have hle:=BH rows
   have e:eF rows l=((2*(l.length:Int))==((eU rows).length:Int)):=by
    unfold eF;rw[a6,Bool.true_and,Bool.eq_iff_iff,beq_iff_eq,decide_eq_true_iff];omega
   obtain⟨N,hN⟩:=Ti ((eU rows).length);rw[<-hN]at e hle;rw[e];have a7:=Tk a6;have HN:=Tk hN;clear a6 e hN ho;have hw2:IntKind.i64.wrap (2*(l.length:Int))=2*(l.length:Int):=IntWalk.i64_in _ (by omega);go_enter func166,ntmps166
   go_wp2_with fail
   refine(xI _ _ rows l _ (h.Tj hA) (h2.Tj hA)).mono ?_;rintro e w1 ⟨rfl,hb1⟩;rw[a7.out];have zx:=(bX.bl hb1).c1;go_wp2_with fail
   refine(vE _ rows _ ((h.Tj hA).Tj hb1)).mono ?_;rintro e w2 ⟨rfl,hb2⟩;rw[<-HN.out];go_wp2;go_ret;exact⟨rfl,(hA.tr hb1).tr hb2⟩
end Go.Proofs.YtjijonhkofhikaaGreatDoor
namespace Go.Proofs.YtjijonhkofhikaaGreatDoor
open Go.ChangeShapes Go.WideShapes Go.ChangeAt Go.RowKit
def F7 (d:Dm):List Dm->List Dm
  |[]=>[d]
  |e::r=>if aS e<aS d then e::F7 d r else if e=d then e::r else d::e::r
def kX (out:List Dm) (d:Dm):List Dm:=if aI d then F7 d out else out
def kT (out l:List Dm):List Dm:=l.foldl kX out
def jI (l:List Dm):List Dm:=kT [] l
def Sorted (l:List Dm):Prop:=(∀d∈l,aI d=true)/\l.Pairwise fun a b=>aS a<aS b
theorem DV {a b:Dm} (ha:aI a=true) (hb:aI b=true) (h:aS a=aS b):a=b:=by
 obtain⟨a1,a2,a3⟩:=a;obtain⟨b1,b2,b3⟩:=b;have A:=nC ha;have B:=nC hb;simp only at A B;unfold aS at h;simp only at h
 have e3:a3=b3:=by
  cases a3<;>cases b3<;>simp at h⊢<;>omega
 subst e3;have e2:a2=b2:=(by omega);subst e2;have e1:a1=b1:=(by omega);subst e1;rfl
def nT (d:Dm) (l:List Dm):Nat:=(l.takeWhile fun e=>decide (aS e<aS d)).length
theorem Ir (d:Dm):∀l:List Dm,nT d l<=l.length
  |[]=>by simp[nT]
  | e :: r => by
   have:=Ir d r;unfold nT at*;rw[List.takeWhile_cons];split<;>simp<;>omega
theorem tO (d e:Dm) (r:List Dm):nT d (e::r)=if aS e<aS d then nT d r+1 else 0:=by
 unfold nT;rw[List.takeWhile_cons];by_cases h:aS e<aS d<;>simp[h]
theorem AP (d:Dm):∀(l:List Dm) (k:Nat) (h:k<l.length),k<nT d l->aS l[k]<aS d
  |[],k,h,_=>by simp at h
  | e :: r, k, h, hk => by
   rw[tO]at hk;split at hk
   . cases k with
     |zero=>simpa
     |succ k=>simp only[List.getElem_cons_succ];exact AP d r k (by simpa using h) (by omega)
   . omega
theorem Iu (d:Dm):∀(l:List Dm) (h:nT d l<l.length),¬aS l[nT d l]<aS d
  |[],h=>by simp at h
  | e :: r, h => by
   by_cases q:aS e<aS d
   . have e1 : nT d (e :: r) = nT d r + 1 := by rw [tO, if_pos q]
     simp only[e1,List.getElem_cons_succ];exact Iu d r (by rw[e1]at h;simpa using h)
   . have e1 : nT d (e :: r) = 0 := by rw [tO, if_neg q]
     simp only[e1,List.getElem_cons_zero];exact q
theorem J6 (d:Dm):∀l:List Dm,F7 d l=if l[nT d l]? =some d then l else l.take (nT d l)++d::l.drop (nT d l)
  |[]=>by simp[F7,nT]
  | e :: r => by
   unfold F7;by_cases q:aS e<aS d
   . rw[if_pos q,tO,if_pos q,J6 d r];simp only[Tn,List.take_succ_cons,List.drop_succ_cons];split<;>rfl
   . rw[if_neg q,tO,if_neg q];simp only[Tm,List.take_zero,List.drop_zero,List.nil_append,Option.some.injEq]
theorem E9 (d:Dm):∀(l:List Dm) (x:Dm),x∈F7 d l↔x=d∨x∈l
  |[],x=>by simp[F7]
  | e :: r, x => by
   unfold F7;split
   . rw[Tp,E9 d r,Tp];constructor<;>rintro(h|h|h)<;>simp[h]
   . split
     . rename_i h;subst h;simp
     . simp
theorem DW {d:Dm} (hd:aI d=true):∀{l:List Dm},Sorted l->Sorted (F7 d l)
  |[],h=>⟨fun x hx=>by simp[F7]at hx;rw[hx];exact hd,by simp[F7]⟩
  | e :: r, h => by
   have hr:Sorted r:=⟨fun x hx=>h.1 x (Tq _ hx),(List.pairwise_cons.1 h.2).2⟩;have he:=h.1 e (Tt ..);have a6:=(List.pairwise_cons.1 h.2).1;have ih:=DW hd hr;unfold F7;split
   . rename_i q;refine⟨fun x hx=> ?_,List.pairwise_cons.2 ⟨fun x hx=> ?_,ih.2⟩⟩
     . rcases List.mem_cons.1 hx with rfl|hx
       . exact he
       . exact ih.1 x hx
     . rcases(E9 d r x).1 hx with rfl|hx
       . exact q
       . exact a6 x hx
   . rename_i q;split
     . exact h
     . rename_i q2;have hne:aS e≠aS d:=fun h'=>q2 (DV he hd h')
       refine⟨fun x hx=> ?_,List.pairwise_cons.2 ⟨fun x hx=> ?_,h.2⟩⟩
       . rcases List.mem_cons.1 hx with rfl|hx
         . exact hd
         . exact h.1 x hx
       . rcases List.mem_cons.1 hx with rfl|hx
         . omega
         . have:=a6 x hx;omega
theorem jO {out:List Dm} (h:Sorted out) (d:Dm):Sorted (kX out d):=by
 unfold kX;split
 . rename_i q;exact DW q h
 . exact h
theorem F8:∀(l:List Dm) {out:List Dm},Sorted out->Sorted (kT out l)
  |[],out,h=>h
  |d::r,out,h=>F8 r (jO h d)
theorem yT:Sorted []:=⟨by simp,List.Pairwise.nil⟩
theorem zH (l:List Dm):Sorted (jI l):=F8 l yT
theorem zL:∀(l:List Int) (n:Nat),l.Pairwise (· <·)->(∀x∈l,(128:Int)-n<=x/\x<128)->l.length<=n
  |[],n,_,_=>by simp
  | x :: r, n, hp, hb => by
   have h1:=hb x (Tt ..);cases n with
   |zero=>omega
   |succ n=>
    have := zL r n (List.pairwise_cons.1 hp).2 (fun y hy => by
     have h2:=hb y (Tq _ hy);have h3:=(List.pairwise_cons.1 hp).1 y hy;omega)
    simp;omega
theorem yU {l:List Dm} (h:Sorted l):l.length<=128:=by
 have := zL (l.map aS) 128 (List.pairwise_map.2 h.2) (fun x hx => by
  obtain⟨d,hd,rfl⟩:=List.mem_map.1 hx;have:=Nw (h.1 d hd);omega)
 simpa using this
theorem K5 {l:List Dm} (h:Sorted l) {d:Dm} {k:Nat} (hk:k<l.length):aS l[k]<aS d↔k<nT d l:=by
 constructor
 . intro q;by_cases hn:k<nT d l
   . exact hn
   . exfalso;have hp:nT d l<l.length:=(by omega);have:=Iu d l hp;by_cases e:nT d l=k
     . subst e;exact this q
     . have:=List.pairwise_iff_getElem.1 h.2 _ _ hp hk (by omega);omega
 . exact AP d l k hk
theorem Ju {l:List Dm} (h:Sorted l) {d:Dm} (hd:aI d=true) {k:Nat} (hk:k<l.length):(aS l[k]>aS d)↔(if l[nT d l]? =some d then nT d l+1 else nT d l)<=k:=by
 by_cases q:l[nT d l]? =some d
 . rw[if_pos q];obtain⟨hp,e⟩:=List.getElem?_eq_some_iff.1 q;constructor
   . intro a6;by_cases hn:nT d l+1<=k
     . exact hn
     . exfalso;by_cases e2:k=nT d l
       . subst e2;rw[e]at a6;omega
       . have:=AP d l k hk (by omega);omega
   . intro hle;have:=List.pairwise_iff_getElem.1 h.2 _ _ hp hk (by omega);rw[e]at this;omega
 . rw[if_neg q];constructor
   . intro a6;by_cases hn:nT d l<=k
     . exact hn
     . have:=AP d l k hk (by omega);omega
   . intro hle;have hp:nT d l<l.length:=(by omega);have h1:=Iu d l hp
     have hne:aS l[nT d l]≠aS d:=by
      intro e;apply q;rw[List.getElem?_eq_getElem hp,DV (h.1 _ (List.getElem_mem hp)) hd e]
     by_cases e2:k=nT d l
     . subst e2;omega
     . have:=List.pairwise_iff_getElem.1 h.2 _ _ hp hk (by omega);omega
def qW (c:Cl):Dm×Dm:=((c.1,c.2,false),(c.1,c.2+1,false))
def vG (c:Cl):Dm×Dm:=((c.1,c.2,true),(c.1+1,c.2,true))
def kU (c:Cl):Bool:=decide (0<=c.1/\c.1<=6)&&decide (0<=c.2/\c.2<=6)
def fK (l:List Dm) (p:Dm×Dm):Bool:=l.contains p.1&&l.contains p.2
def kindOf (l:List Dm) (c:Cl):Nat:=if kU c then(if fK l (qW c)then 1 else if fK l (vG c)then 2 else 0)else 0
def nY (k:Nat) (c:Cl):Dm×Dm:=if k=1 then qW c else vG c
def qM (k:Nat) (c:Cl):Dm×Dm:=if k=1 then vG c else qW c
def keepD (g:Dm×Dm) (d:Dm):Bool:= !(decide (d=g.1)||decide (d=g.2))
def jH (l:List Dm) (g n:Dm×Dm):List Dm:=[n.1,n.2]++l.filter (keepD g)
def aU (l:List Dm) (c:Cl):List Dm:=jI (jH l (nY (kindOf l c) c) (qM (kindOf l c) c))
def fE (l:List Dm) (c:Cl):List Dm×Bool:=if kindOf l c=0 then(l,false)else(aU l c,true)
theorem F9 (l:List Dm) (c:Cl):kindOf l c<=2:=by unfold kindOf;split<;>(try split)<;>(try split)<;>omega
theorem DX (l:List Dm) (c:Cl):(aU l c).length<=128:=yU (zH _)
def fQ (l:List Dm):List Cl->Option (List Dm)
  |[]=>some l
  |c::r=>if kindOf l c=0 then none else fQ (aU l c) r
def dS (l:List Dm) (cs:List Cl):List Dm×Bool:=if cs.length>200 then(l,false)else match fQ l cs with|none=>(l,false)|some m=>(m,true)
def dG (rows:List Int) (f n:List Dm) (cs:List Cl):Bool:=eF rows f&&decide (cs.length<=60)&&(dS f cs).2&&decide ((dS f cs).1=n)
def Apart (a b:Dm):Prop:=∀j,(aG a).testBit j=true->(aG b).testBit j=false
def In (s:Nat) (d:Dm):Prop:=aI d=true/\∀j,(aG d).testBit j=true->s.testBit j=true
def jU (s:Nat) (l:List Dm):Prop:=(∀d∈l,In s d)/\(l.Pairwise fun a b=>aS a<aS b)/\l.Pairwise Apart
theorem jU.tail {s:Nat} {d:Dm} {l:List Dm} (h:jU s (d::l)):jU s l:=
 ⟨fun e he=>h.1 e (Tq _ he),(List.pairwise_cons.1 h.2.1).2,(List.pairwise_cons.1 h.2.2).2⟩
theorem xY {a b:Nat} (h:∀j,b.testBit j=true->a.testBit j=true):a&&&b=b:=by
 apply Nat.eq_of_testBit_eq;intro j;rw[Nat.testBit_and];rcases q:b.testBit j with _|_
 . simp
 . rw[h j q];rfl
theorem jU.less {s:Nat} (hs:s<U64) {d:Dm} {l:List Dm} (h:jU s (d::l)):jU (dE s (aG d)) l:=by
 refine⟨fun e he=> ?_,h.tail.2⟩;obtain⟨e1,e2⟩:=h.tail.1 e he;refine⟨e1,fun j hj=> ?_⟩;rw[jQ hs (dQ (h.1 d (Tt ..)).1),e2 j hj,Bool.true_and,Bool.not_eq_true'];rcases q:(aG d).testBit j with _|_
 . rfl
 . have:=(List.pairwise_cons.1 h.2.2).1 e he j q;rw[hj]at this;cases this
theorem Ga:∀{l:List Dm} {s:Nat} {p:Option Dm},s<U64->jU s l->(∀e,p=some e->∀d,l.head? =some d->aS e<aS d)->kS s p l=true
  |[],s,p,_,_,_=>rfl
  | d :: r, s, p, hs, h, hp => by
   obtain⟨d1,d2⟩:=h.1 d (Tt ..)
   have ih := Ga (p := some d) (eD hs) (h.less hs) (fun e he d' a6 => by
    cases he;cases r with
    |nil=>cases a6
    |cons x y=>injection a6 with a6;subst a6;exact(List.pairwise_cons.1 h.2.1).1 _ (Tt ..))
   rw[rU,d1,ih,decide_eq_true (xY d2)];cases p with
   |none=>rfl
   |some e=>simp only[rF,Bool.true_and,Bool.and_true,decide_eq_true_eq];exact hp e rfl d rfl
theorem Gb:∀{l:List Dm} {s:Nat} {p:Option Dm},s<U64->kS s p l=true->jU s l/\∀e,p=some e->∀d∈l,aS e<aS d
  |[],s,p,_,_=>⟨⟨by simp,List.Pairwise.nil,List.Pairwise.nil⟩,by simp⟩
  | d :: r, s, p, hs, h => by
   obtain⟨d1,d2,d3⟩:=uO h;obtain⟨⟨a,b,c⟩,f⟩:=Gb (eD hs) d3;have hd:=dQ d1;refine⟨⟨fun e he=> ?_,List.pairwise_cons.2 ⟨fun e he=>f d rfl e he,b⟩,List.pairwise_cons.2 ⟨fun e he j hj=> ?_,c⟩⟩,?_⟩
   . rcases List.mem_cons.1 he with rfl|he
     . exact⟨d1,fun j hj=>qV d2 j hj⟩
     . refine ⟨(a e he).1, fun j hj => ?_⟩;have:=(a e he).2 j hj;rw[jQ hs hd,Tx]at this;exact this.1
   . rcases q:(aG e).testBit j with _|_
     . rfl
     . have:=(a e he).2 j q;rw[jQ hs hd,hj]at this;simp at this
   . intro e he x hx;subst he;rw[rU]at h;simp only[Tx,rF,decide_eq_true_eq]at h;have h1:=h.1.2;rcases List.mem_cons.1 hx with rfl|hx
     . exact h1
     . have:=f d rfl x hx;omega
theorem xZ {rows:List Int} {l:List Dm}:isPartial rows l=true↔dX rows/\jU (setOf rows) l:=by
 constructor
 . intro h;obtain⟨a,b⟩:=iW h;exact⟨a,(Gb (dW a) b).1⟩
 . rintro⟨a,b⟩;unfold isPartial;rw[aR.2 a,Ga (dW a) b (by simp)];rfl
theorem Gc : ∀ {l m : List Dm}, l.Pairwise (fun a b => aS a < aS b) -> m.Pairwise (fun a b => aS a < aS b) -> (∀ d, d ∈ l ↔ d ∈ m) -> l = m
  |[],[],_,_,_=>rfl
  |[],d::m,_,_,h=>by have:=(h d).2 (Tt ..);cases this
  |d::l,[],_,_,h=>by have:=(h d).1 (Tt ..);cases this
  | d :: l, e :: m, hl, hm, h => by
   have hl2:=List.pairwise_cons.1 hl;have a6:=List.pairwise_cons.1 hm
   have a7:d=e:=by
    rcases List.mem_cons.1 ((h d).1 (Tt ..))with q|q
    . exact q
    . rcases List.mem_cons.1 ((h e).2 (Tt ..))with r|r
      . exact r.symm
      . have a:=a6.1 d q;have b:=hl2.1 e r;omega
   subst a7;congr 1
   refine Gc hl2.2 a6.2 (fun x=> ?_);have hx:=h x;rw[Tp,Tp]at hx;constructor
   . intro q;rcases hx.1 (.inr q)with r|r
     . subst r;have:=hl2.1 x q;omega
     . exact r
   . intro q;rcases hx.2 (.inr q)with r|r
     . subst r;have:=a6.1 x q;omega
     . exact r
theorem CV {s:Nat} {d:Dm}:In s d↔aI d=true/\s.testBit (fC d)=true/\s.testBit (jL d)=true:=by
 constructor
 . rintro⟨a,b⟩;exact⟨a,b _ (by rw[aT a];simp),b _ (by rw[aT a];simp)⟩
 . rintro⟨a,b,c⟩;refine⟨a,fun j hj=> ?_⟩;rw[aT a,Ty,decide_eq_true_eq,decide_eq_true_eq]at hj;rcases hj with rfl|rfl
   . exact b
   . exact c
theorem lM {a b : Dm} (h : Apart a b) : Apart b a := fun j hj => by
 rcases q:(aG a).testBit j with _|_
 . rfl
 . rw[h j q]at hj;cases hj
theorem jU.apart {s:Nat} {l:List Dm} (h:jU s l) {a b:Dm} (ha:a∈l) (hb:b∈l) (hne:a≠b):Apart a b:=by
 have:∀{m:List Dm},m.Pairwise Apart->a∈m->b∈m->Apart a b:=by
  intro m;induction m with
  |nil=>intro _ h;cases h
  |cons x m ih=>
   intro hp h1 h2;obtain⟨p1,p2⟩:=List.pairwise_cons.1 hp;rcases List.mem_cons.1 h1 with e1|a7
   . rcases List.mem_cons.1 h2 with e|a6
     . exact absurd (e1.trans e.symm) hne
     . rw[e1];exact p1 b a6
   . rcases List.mem_cons.1 h2 with e|a6
     . rw[e];exact lM (p1 a a7)
     . exact ih p2 a7 a6
 exact this h.2.2 ha hb
theorem DY:∀(l out:List Dm) (x:Dm),x∈kT out l↔x∈out∨(x∈l/\aI x=true)
  |[],out,x=>by simp[kT]
  | d :: r, out, x => by
   have e:kT out (d::r)=kT (kX out d) r:=rfl;rw[e,DY r];unfold kX;by_cases q:aI d=true
   . rw[if_pos q,E9];constructor
     . rintro((rfl|h)|⟨h,k⟩)
       . exact .inr ⟨Tt ..,q⟩
       . exact .inl h
       . exact .inr ⟨Tq _ h,k⟩
     . rintro(h|⟨h,k⟩)
       . exact .inl (.inr h)
       . rcases List.mem_cons.1 h with rfl|h
         . exact .inl (.inl rfl)
         . exact .inr ⟨h,k⟩
   . rw[if_neg q];constructor
     . rintro(h|⟨h,k⟩)
       . exact .inl h
       . exact .inr ⟨Tq _ h,k⟩
     . rintro(h|⟨h,k⟩)
       . exact .inl h
       . rcases List.mem_cons.1 h with rfl|h
         . exact absurd k q
         . exact .inr ⟨h,k⟩
theorem Gd (l:List Dm) (x:Dm):x∈jI l↔x∈l/\aI x=true:=by unfold jI;rw[DY];simp
theorem wK (l:List Dm) (g n:Dm×Dm) (x:Dm):x∈jH l g n↔x=n.1∨x=n.2∨(x∈l/\x≠g.1/\x≠g.2):=by
 unfold jH keepD;simp[List.mem_filter]
structure Sq (g n:Dm×Dm):Prop where
  ok:aI g.1=true/\aI g.2=true/\aI n.1=true/\aI n.2=true
  same:∀j,((aG g.1).testBit j||(aG g.2).testBit j)=((aG n.1).testBit j||(aG n.2).testBit j)
  apart:Apart g.1 g.2/\Apart n.1 n.2
  meet:¬Apart g.1 n.1/\¬Apart g.1 n.2
  R6:¬Apart g.2 n.1/\¬Apart g.2 n.2
  ne:g.1≠n.1/\g.1≠n.2/\g.2≠n.1/\g.2≠n.2
theorem Sq.symm {g n:Dm×Dm} (h:Sq g n):Sq n g:=
 ⟨⟨h.ok.2.2.1, h.ok.2.2.2, h.ok.1, h.ok.2.1⟩, fun j => (h.same j).symm, ⟨h.apart.2, h.apart.1⟩,
   ⟨fun q=>h.meet.1 (lM q),fun q=>h.R6.1 (lM q)⟩,⟨fun q=>h.meet.2 (lM q),fun q=>h.R6.2 (lM q)⟩,
   ⟨h.ne.1.symm,h.ne.2.2.1.symm,h.ne.2.1.symm,h.ne.2.2.2.symm⟩⟩
theorem Fz {g n:Dm×Dm} (h:Sq g n) {j:Nat}:((aG n.1).testBit j=true∨(aG n.2).testBit j=true)->((aG g.1).testBit j=true∨(aG g.2).testBit j=true):=by
 have:=h.same j;rw[<-Ty,<-Ty,this];exact id
theorem Iw {s:Nat} {l:List Dm} {g n:Dm×Dm} (h:jU s l) (hs:Sq g n) (h1:g.1∈l) (h2:g.2∈l):
 jU s (jI (jH l g n))/\(∀x,x∈jI (jH l g n)↔x=n.1∨x=n.2∨(x∈l/\x≠g.1/\x≠g.2))/\n.1∉l/\n.2∉l:=by
 have hm : ∀ x, x ∈ jI (jH l g n) ↔ x = n.1 ∨ x = n.2 ∨ (x ∈ l /\ x ≠ g.1 /\ x ≠ g.2) := fun x => by
  rw[Gd,wK];constructor
  . exact fun q=>q.1
  . intro q;refine⟨q,?_⟩;rcases q with rfl|rfl|⟨q,_⟩
    . exact hs.ok.2.2.1
    . exact hs.ok.2.2.2
    . exact(h.1 x q).1
 have a6:=zH (jH l g n);have hg1:=h.1 _ h1;have hg2:=h.1 _ h2
 have a7 : ∀ j, ((aG n.1).testBit j = true ∨ (aG n.2).testBit j = true) -> s.testBit j = true := fun j hj => by
  rcases Fz hs hj with q|q
  . exact hg1.2 j q
  . exact hg2.2 j q
 have hold : ∀ x ∈ l, x ≠ g.1 -> x ≠ g.2 -> Apart n.1 x /\ Apart n.2 x := fun x hx e1 e2 => by
  have a1:=h.apart h1 hx (Ne.symm e1);have a2:=h.apart h2 hx (Ne.symm e2);refine⟨fun j hj=> ?_,fun j hj=> ?_⟩
  . rcases Fz hs (.inl hj)with q|q
    . exact a1 j q
    . exact a2 j q
  . rcases Fz hs (.inr hj)with q|q
    . exact a1 j q
    . exact a2 j q
 have hall:∀x,x∈jI (jH l g n)->∀y,y∈jI (jH l g n)->x≠y->Apart x y:=by
  intro x hx y hy hne;rcases(hm x).1 hx with rfl|rfl|⟨qx,a8,bA⟩<;>rcases(hm y).1 hy with rfl|rfl|⟨qy,bB,bC⟩
  . exact absurd rfl hne
  . exact hs.apart.2
  . exact(hold y qy bB bC).1
  . exact lM hs.apart.2
  . exact absurd rfl hne
  . exact(hold y qy bB bC).2
  . exact lM (hold x qx a8 bA).1
  . exact lM (hold x qx a8 bA).2
  . exact h.apart qx qy hne
 refine⟨⟨fun x hx=> ?_,a6.2,?_⟩,hm,?_,?_⟩
 . rcases(hm x).1 hx with rfl|rfl|⟨q,_⟩
   . exact⟨hs.ok.2.2.1,fun j hj=>a7 j (.inl hj)⟩
   . exact⟨hs.ok.2.2.2,fun j hj=>a7 j (.inr hj)⟩
   . exact h.1 x q
 . refine List.Pairwise.imp_of_mem (fun {a b} ha hb hab => ?_) a6.2;exact hall a ha b hb (fun e=>by subst e;omega)
 . intro q;exact hs.meet.1 (h.apart h1 q hs.ne.1)
 . intro q;exact hs.meet.2 (h.apart h1 q hs.ne.2.1)
theorem ND {s:Nat} {l:List Dm} {g n:Dm×Dm} (h:jU s l) (hs:Sq g n) (h1:g.1∈l) (h2:g.2∈l):
 jI (jH (jI (jH l g n)) n g)=l:=by
 obtain⟨a,b,c,d⟩:=Iw h hs h1 h2;obtain⟨a',b',_,_⟩:=Iw a hs.symm ((b _).2 (.inl rfl)) ((b _).2 (.inr (.inl rfl)));refine Gc a'.2.1 h.2.1 (fun x=> ?_);rw[b',b];constructor
 . rintro(rfl|rfl|⟨q,q1,q2⟩)
   . exact h1
   . exact h2
   . rcases q with q|q|q
     . exact absurd q q1
     . exact absurd q q2
     . exact q.1
 . intro q;by_cases e1:x=g.1
   . exact .inl e1
   . by_cases e2:x=g.2
     . exact .inr (.inl e2)
     . exact .inr (.inr ⟨.inr (.inr ⟨q,e1,e2⟩),fun e=>c (e▸q),fun e=>d (e▸q)⟩)
theorem DZ {x y:Int} (h:bH (x,y)=true):(dJ (x,y)).toNat=(y*8+x).toNat:=by rw[(dP h).1]
theorem Sc {c:Cl} (hc:kU c=true):Sq (qW c) (vG c):=by
 obtain⟨x,y⟩:=c;unfold kU at hc;rw[Tx,decide_eq_true_eq,decide_eq_true_eq]at hc;simp only at hc;obtain⟨⟨x0,x1⟩,y0,y1⟩:=hc;have w1:wrap64 (x+1)=x+1:=by unfold wrap64;omega
 have w2:wrap64 (y+1)=y+1:=by unfold wrap64;omega
 have s1:sec (x,y,false)=(x+1,y):=by unfold sec;simp[w1]
 have s2:sec (x,y+1,false)=(x+1,y+1):=by unfold sec;simp[w1]
 have s3:sec (x,y,true)=(x,y+1):=by unfold sec;simp[w2]
 have s4:sec (x+1,y,true)=(x+1,y+1):=by unfold sec;simp[w2]
 have c1:bH (x,y)=true:=dC.2 (by simp only;omega);have c2:bH (x+1,y)=true:=dC.2 (by simp only;omega);have c3:bH (x,y+1)=true:=dC.2 (by simp only;omega);have c4:bH (x+1,y+1)=true:=dC.2 (by simp only;omega);have d1:aI (x,y,false)=true:=by unfold aI;rw[s1];simp[c1,c2]
 have d2:aI (x,y+1,false)=true:=by unfold aI;rw[s2];simp[c3,c4]
 have d3:aI (x,y,true)=true:=by unfold aI;rw[s3];simp[c1,c3]
 have d4:aI (x+1,y,true)=true:=by unfold aI;rw[s4];simp[c2,c4]
 have b1 : ∀ j, (aG (x, y, false)).testBit j = (decide ((y * 8 + x).toNat = j) || decide ((y * 8 + (x + 1)).toNat = j)) := fun j => by
  rw[aT d1];unfold fC jL;rw[s1];simp only;rw[DZ c1,DZ c2]
 have b2 : ∀ j, (aG (x, y + 1, false)).testBit j = (decide (((y + 1) * 8 + x).toNat = j) || decide (((y + 1) * 8 + (x + 1)).toNat = j)) := fun j => by
  rw[aT d2];unfold fC jL;rw[s2];simp only;rw[DZ c3,DZ c4]
 have b3 : ∀ j, (aG (x, y, true)).testBit j = (decide ((y * 8 + x).toNat = j) || decide (((y + 1) * 8 + x).toNat = j)) := fun j => by
  rw[aT d3];unfold fC jL;rw[s3];simp only;rw[DZ c1,DZ c3]
 have b4 : ∀ j, (aG (x + 1, y, true)).testBit j = (decide ((y * 8 + (x + 1)).toNat = j) || decide (((y + 1) * 8 + (x + 1)).toNat = j)) := fun j => by
  rw[aT d4];unfold fC jL;rw[s4];simp only;rw[DZ c2,DZ c4]
 have no:∀{a b:Dm} (j:Nat),(aG a).testBit j=true->(aG b).testBit j=true->¬Apart a b:=fun j h1 h2 h=>by rw[h j h1]at h2;cases h2
 unfold qW vG;refine⟨⟨d1,d2,d3,d4⟩,fun j=> ?_,⟨fun j hj=> ?_,fun j hj=> ?_⟩,⟨?_,?_⟩,⟨?_,?_⟩,?_⟩
 . simp only;rw[b1,b2,b3,b4,Bool.eq_iff_iff];simp only[Ty,decide_eq_true_eq];constructor<;>rintro((h|h)|h|h)<;>simp[h]
 . simp only at hj⊢;rw[b1,Ty,decide_eq_true_eq,decide_eq_true_eq]at hj;rw[b2,Bool.or_eq_false_iff,decide_eq_false_iff_not,decide_eq_false_iff_not];omega
 . simp only at hj⊢;rw[b3,Ty,decide_eq_true_eq,decide_eq_true_eq]at hj;rw[b4,Bool.or_eq_false_iff,decide_eq_false_iff_not,decide_eq_false_iff_not];omega
 . exact no (y*8+x).toNat (by rw[b1];simp) (by rw[b3];simp)
 . exact no (y*8+(x+1)).toNat (by rw[b1];simp) (by rw[b4];simp)
 . exact no ((y+1)*8+x).toNat (by rw[b2];simp) (by rw[b3];simp)
 . exact no ((y+1)*8+(x+1)).toNat (by rw[b2];simp) (by rw[b4];simp)
 . simp
theorem Iy {l:List Dm} {c:Cl} (h:kindOf l c≠0):kU c=true:=by
 unfold kindOf at h;rcases q:kU c with _|_
 . rw[q]at h;simp at h
 . rfl
theorem Mv {l:List Dm} {c:Cl} (h:kindOf l c≠0):Sq (nY (kindOf l c) c) (qM (kindOf l c) c)/\(nY (kindOf l c) c).1∈l/\(nY (kindOf l c) c).2∈l:=by
 have a6:=Iy h;have a7:=Sc a6;have hk:kindOf l c=if fK l (qW c)then 1 else if fK l (vG c)then 2 else 0:=by unfold kindOf;rw[a6];rfl
 by_cases q:fK l (qW c)=true
 . rw[if_pos q]at hk;rw[hk];unfold fK at q;rw[Tx,Tu,Tu]at q;exact⟨a7,q⟩
 . rw[if_neg q]at hk;by_cases r:fK l (vG c)=true
   . rw[if_pos r]at hk;rw[hk];unfold fK at r;rw[Tx,Tu,Tu]at r;exact⟨a7.symm,r⟩
   . rw[if_neg r]at hk;exact absurd hk h
theorem D8 {s:Nat} {l:List Dm} {c:Cl} (h:jU s l) (hk:kindOf l c≠0):jU s (aU l c)/\kindOf (aU l c) c≠0/\aU (aU l c) c=l:=by
 obtain⟨a6,h1,h2⟩:=Mv hk;have a8:=Iy hk;obtain⟨a,b,_,_⟩:=Iw h a6 h1 h2;have hback:=ND h a6 h1 h2;have e:aU l c=jI (jH l (nY (kindOf l c) c) (qM (kindOf l c) c)):=rfl;rw[<-e]at a b hback;have a7:kindOf l c=1∨kindOf l c=2:=by have:=F9 l c;omega
 have hk2:kindOf (aU l c) c=3-kindOf l c:=by
  have bA:kindOf (aU l c) c=if fK (aU l c) (qW c)then 1 else if fK (aU l c) (vG c)then 2 else 0:=by conv=>lhs;unfold kindOf;rw[a8,if_pos rfl]
  rw[bA];rcases a7 with q|q
  . rw[q]at b a6⊢
    have b1:fK (aU l c) (qW c)=false:=by
     unfold fK;rw[Bool.and_eq_false_iff];left;rcases r:(aU l c).contains (qW c).1 with _|_
     . rfl
     . rw[Tu,b]at r;rcases r with r|r|r
       . exact absurd r a6.ne.1
       . exact absurd r a6.ne.2.1
       . exact absurd rfl r.2.1
    have b2:fK (aU l c) (vG c)=true:=by
     unfold fK;rw[Tx,Tu,Tu,b,b];exact⟨.inl rfl,.inr (.inl rfl)⟩
    rw[b1,b2];rfl
  . rw[q]at b a6⊢
    have b2:fK (aU l c) (qW c)=true:=by
     unfold fK;rw[Tx,Tu,Tu,b,b];exact⟨.inl rfl,.inr (.inl rfl)⟩
    rw[b2];rfl
 refine⟨a,by omega,?_⟩;have e2:aU (aU l c) c=jI (jH (aU l c) (nY (kindOf (aU l c) c) c) (qM (kindOf (aU l c) c) c)):=rfl;rw[e2,hk2];rcases a7 with q|q
 . rw[q]at hback⊢;exact hback
 . rw[q]at hback⊢;exact hback
theorem BP : ∀ (cs : List Cl) (l : List Dm) (c : Cl), fQ l (cs ++ [c]) = (fQ l cs).bind fun m => if kindOf m c = 0 then none else some (aU m c)
  |[],l,c=>by simp[fQ]
  | d :: r, l, c => by
   simp only[List.cons_append,fQ];split
   . rfl
   . exact BP r _ c
theorem Gf {s:Nat}:∀(cs:List Cl) {l m:List Dm},jU s l->fQ l cs=some m->jU s m
  |[],l,m,h,e=>by simp[fQ]at e;exact e▸h
  | c :: r, l, m, h, e => by
   unfold fQ at e;split at e
   . cases e
   . rename_i q;exact Gf r (D8 h q).1 e
theorem NF {s:Nat} {l m:List Dm} {cs:List Cl} {c:Cl} (h:jU s l) (e:fQ l (cs++[c])=some m):∃k,fQ l cs=some k/\fE m c=(k,true):=by
 rw[BP]at e;rcases q:fQ l cs with _|k
 . rw[q]at e;cases e
 . refine⟨k,rfl,?_⟩;rw[q]at e;simp only[Option.bind_some]at e;split at e
   . cases e
   . rename_i hk;injection e with e;subst e;obtain⟨_,k2,k3⟩:=D8 (Gf cs h q) hk;unfold fE;rw[if_neg k2,k3]
abbrev Fl:=List Int×List Dm×List Dm×List Cl
def yA (x:Fl) (j:Nat):Fl:=(x.1,x.2.1,(dS x.2.1 (x.2.2.2.take j)).1,x.2.2.2.take j)
def kV (x:Fl):Bool:=dG x.1 x.2.1 x.2.2.1 x.2.2.2
def FB (x:Fl) (c:Cl):Fl×Bool:=if kV x=true/\x.2.2.2.length≠60/\kindOf x.2.2.1 c≠0 then((x.1,x.2.1,aU x.2.2.1 c,x.2.2.2++[c]),true)else(x,false)
def iU (x:Fl):Fl×Bool:=if kV x=true/\x.2.2.2.length≠0 then(yA x (x.2.2.2.length-1),true)else(x,false)
def fG (x:Fl):Fl:=if kV x=true then yA x 0 else x
theorem BQ:∀(cs:List Cl) {l m:List Dm} (j:Nat),fQ l cs=some m->∃k,fQ l (cs.take j)=some k
  |[],l,m,j,h=>⟨l,by simp[fQ]⟩
  |c::r,l,m,0,h=>⟨l,by simp[fQ]⟩
  | c :: r, l, m, j + 1, h => by
   unfold fQ at h;split at h
   . cases h
   . rename_i q;obtain⟨k,hk⟩:=BQ r j h;exact⟨k,by rw[List.take_succ_cons];unfold fQ;rw[if_neg q];exact hk⟩
theorem rG {x:Fl}:kV x=true↔eF x.1 x.2.1=true/\x.2.2.2.length<=60/\fQ x.2.1 x.2.2.2=some x.2.2.1:=by
 unfold kV dG;rw[Tx,Tx,Tx,decide_eq_true_eq,decide_eq_true_eq];constructor
 . rintro⟨⟨⟨h1,h2⟩,h3⟩,h4⟩;refine⟨h1,h2,?_⟩;unfold dS at h3 h4;rw[if_neg (by omega)]at h3 h4;split at h3
   . cases h3
   . rename_i m q;rw[q]at h4⊢;exact congrArg some h4
 . rintro⟨h1,h2,h3⟩;unfold dS;rw[if_neg (by omega),h3];exact⟨⟨⟨h1,h2⟩,rfl⟩,rfl⟩
theorem Jv {rows:List Int} {f:List Dm} (h:eF rows f=true):dX rows/\jU (setOf rows) f:=by
 unfold eF at h;rw[Tx]at h;exact xZ.1 h.1
theorem Ea {x:Fl} (h:kV x=true) (j:Nat):fQ x.2.1 (x.2.2.2.take j)=some (yA x j).2.2.1:=by
 obtain⟨h1,h2,h3⟩:=rG.1 h;obtain⟨k,hk⟩:=BQ _ j h3;rw[hk];unfold yA dS;simp only;rw[if_neg (by rw[Tv];omega),hk]
theorem Rc {x:Fl} (h:kV x=true) (j:Nat):kV (yA x j)=true:=by
 obtain⟨h1,h2,h3⟩:=rG.1 h;exact rG.2 ⟨h1,by show(x.2.2.2.take j).length<=60;rw[Tv];omega,Ea h j⟩
theorem NG {x:Fl} (h:kV x=true):yA x x.2.2.2.length=x:=by
 obtain⟨h1,h2,h3⟩:=rG.1 h;have:=Ea h x.2.2.2.length;rw[Tw,h3]at this;injection this with this;obtain⟨a,b,c,d⟩:=x;unfold yA at this⊢;simp only[Tw]at this⊢;rw[<-this]
theorem Re (x:Fl) {i j:Nat} (h:i<=j):yA (yA x j) i=yA x i:=by
 unfold yA;simp only[List.take_take];rw[Nat.min_eq_left h]
theorem O7 {x:Fl} {j:Nat} (h:j<=x.2.2.2.length):(yA x j).2.2.2.length=j:=by
 unfold yA;simp only[Tv];omega
theorem NH {x:Fl} (h:kV x=true) (hn:x.2.2.2.length≠0) (c:Cl) (hc:x.2.2.2[x.2.2.2.length-1]? =some c):kindOf x.2.2.1 c≠0/\aU x.2.2.1 c=(yA x (x.2.2.2.length-1)).2.2.1:=by
 obtain⟨h1,h2,h3⟩:=rG.1 h
 have e:x.2.2.2=x.2.2.2.take (x.2.2.2.length-1)++[c]:=by
  have:=List.take_add_one (l:=x.2.2.2) (i:=x.2.2.2.length-1);rw[hc,show x.2.2.2.length-1+1=x.2.2.2.length by omega,Tw]at this;simpa using this
 rw[e]at h3;obtain⟨k,hk,hf⟩:=NF (Jv h1).2 h3;have g:=Ea h (x.2.2.2.length-1);rw[hk]at g;injection g with g;unfold fE at hf;split at hf
 . cases hf
 . rename_i q;exact⟨q,by rw[<-g];exact(Prod.mk.inj hf).1⟩
theorem yV {x:Fl} (h:kV x=true):x.2.2.2.length<=60:=(rG.1 h).2.1
end Go.Proofs.YtjijonhkofhikaaGreatDoor
