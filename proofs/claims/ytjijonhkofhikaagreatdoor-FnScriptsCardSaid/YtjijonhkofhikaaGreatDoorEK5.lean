import Derived.Test.YtjijonhkofhikaaGreatDoorEK4
open _root_.List renaming getElem?_cons_zero->TZ,getElem?_cons_succ->T9,mem_cons->Ua,mem_cons_of_mem->Ub,mem_cons_self->Uc,contains_iff_mem->Ud,length_take->Ue
open _root_.Bool renaming and_eq_true->Uf,or_eq_true->Ug
open _root_.Go.Proofs.Tryz (prog func91 ntmps91 func220 ntmps220 func166 ntmps166)
set_option linter.unusedVariables false
set_option maxHeartbeats 4000000
set_option maxRecDepth 100000
set_option linter.unusedSimpArgs false
namespace Go.Proofs.YtjijonhkofhikaaGreatDoor
open Go.ChangeShapes Go.WideShapes Go.ChangeAt Go.RowKit
def cntF (f:Nat->Bool):Nat->Nat
  |0=>0
  |k+1=>cntF f k+(f k).toNat
theorem iQ (f:Nat->Bool) (k:Nat):cntF f (k+1)=cntF f k+(f k).toNat:=rfl
theorem yT (s:Nat):∀k,(eT s k).length=cntF s.testBit k
  |0=>by simp[eT,cntF]
  | k + 1 => by
   rw[zP,List.length_append,yT s k];rw[iQ];cases s.testBit k<;>simp
theorem Fp {f g:Nat->Bool} {i:Nat} (hne:∀j,j≠i->f j=g j) (hf:f i=true) (hg:g i=false):∀k,cntF f k=cntF g k+(if i<k then 1 else 0)
  |0=>by simp[cntF]
  | k + 1 => by
   have ih:=Fp hne hf hg k;rw[iQ,iQ];by_cases e:k=i
   . subst e;rw[if_neg (by omega)]at ih;rw[if_pos (by omega),ih,hf,hg];simp
   . rw[ih,hne k e];by_cases h:i<k
     . rw[if_pos h,if_pos (by omega)];omega
     . rw[if_neg h,if_neg (by omega)];omega
theorem Gp {f:Nat->Bool}:∀k,cntF f k=0->∀j,j<k->f j=false
  |0,_,j,hj=>by omega
  | k + 1, h, j, hj => by
   rw[iQ]at h;by_cases e:j=k
   . subst e;rcases q:f j with _|_
     . rfl
     . rw[q]at h;simp at h
   . exact Gp k (by omega) j (by omega)
theorem Gq {f:Nat->Bool}:∀k,(∀j,j<k->f j=false)->cntF f k=0
  |0,_=>rfl
  | k + 1, h => by
   rw[iQ,Gq k (fun j hj=>h j (by omega)),h k (by omega)];rfl
theorem SX {d:Dm} (h:aI d=true):eY d≠jG d:=by
 intro e;obtain⟨h1,h2⟩:=dR h;have:=yQ h1 h2 e;have D:=mW h;unfold sec at this;split at this
 . simp only[Prod.mk.injEq]at this;have k:=this.2;unfold wrap64 at k;omega
 . simp only[Prod.mk.injEq]at this;have k:=this.1;unfold wrap64 at k;omega
theorem Pg {left:Nat} {d:Dm} (hl:left<U64) (hd:aI d=true) (hs:left&&&aG d=aG d):cntF left.testBit 64=cntF (dE left (aG d)).testBit 64+2:=by
 obtain⟨hi,hj⟩:=AX hd;have hne:=SX hd;have bI:left.testBit (eY d)=true:=qW hs _ (by rw[aV hd];simp);have bJ:left.testBit (jG d)=true:=qW hs _ (by rw[aV hd];simp)
 have h1 := Fp (f := left.testBit) (g := fun k => left.testBit k && !decide (eY d = k)) (i := eY d) (fun j hj => by
  have:decide (eY d=j)=false:=by simp;omega
  simp only[this,Bool.not_false,Bool.and_true]) bI (by simp) 64
 have h2 := Fp (f := fun k => left.testBit k && !decide (eY d = k)) (g := (dE left (aG d)).testBit) (i := jG d) (fun j hj => by
  have:decide (jG d=j)=false:=by simp;omega
  simp only[jL hl (dP hd),aV hd,this,Bool.or_false]) (by
  have:decide (eY d=jG d)=false:=by simp;omega
  simp only[this,bJ];rfl) (by rw[jL hl (dP hd),aV hd];simp) 64
 rw[if_pos hi]at h1;rw[if_pos hj]at h2;omega
def leftOf (left:Nat):List Dm->Nat
  |[]=>left
  |d::r=>leftOf (dE left (aG d)) r
def gI (s:Nat):List Dm->Nat
  |[]=>s
  |d::r=>gI (if aI d then s|||aG d else s) r
theorem QK {a b:Nat} (ha:a<U64) (hb:b<U64):a|||b<U64:=by
 unfold U64 at*;exact Nat.or_lt_two_pow (n:=64) ha hb
theorem Ld {s:Nat} (hs:s<U64) (d:Dm):(if aI d then s|||aG d else s)<U64:=by
 split
 . rename_i h;exact QK hs (dP h)
 . exact hs
theorem yU:∀(l:List Dm) (s:Nat),s<U64->gI s l<U64
  |[],s,h=>h
  |d::r,s,h=>yU r _ (Ld h d)
theorem vZ (j : Nat) : ∀ (l : List Dm) (s : Nat), (gI s l).testBit j = (s.testBit j || l.any fun d => aI d && (aG d).testBit j)
  |[],s=>by simp[gI]
  | d :: r, s => by
   unfold gI;rw[vZ j r];rcases h:aI d with _|_
   . rw[if_neg (by simp)];simp[h]
   . rw[if_pos rfl,Nat.testBit_or];simp[h,Bool.or_assoc]
theorem wC : ∀ (l : List Dm) (left : Nat) (p : Option Dm), left < U64 -> kK left p l = true -> leftOf left l < U64 /\ cntF left.testBit 64 = cntF (leftOf left l).testBit 64 + 2 * l.length /\ ∀ j, (leftOf left l).testBit j = (left.testBit j && !l.any fun d => aI d && (aG d).testBit j)
  |[],left,p,hl,h=>⟨hl,by simp[leftOf],fun j=>by simp[leftOf]⟩
  | d :: r, left, p, hl, h => by
   obtain⟨h1,h2,h3⟩:=uK h;obtain⟨a,b,c⟩:=wC r _ _ (eD hl) h3;have:=Pg hl h1 h2;refine⟨a,?_,fun j=> ?_⟩
   . show cntF left.testBit 64=cntF (leftOf (dE left (aG d)) r).testBit 64+2*(d::r).length;rw[List.length_cons];omega
   . show(leftOf (dE left (aG d)) r).testBit j=_;rw[c,jL hl (dP h1),List.any_cons,h1,Bool.true_and,Bool.not_or,Bool.and_assoc]
theorem NN {left:Nat} {p:Option Dm} {l:List Dm} (hl:left<U64) (h:kK left p l=true):gI 0 l=left↔2*l.length=cntF left.testBit 64:=by
 obtain⟨a,b,c⟩:=wC l left p hl h;have hc:∀j,(gI 0 l).testBit j=l.any fun d=>aI d&&(aG d).testBit j:=fun j=>by rw[vZ];simp
 constructor
 . intro e;have:cntF (leftOf left l).testBit 64=0:=Gq 64 (fun j _=>by rw[c,<-hc,e];simp);omega
 . intro e;have hz:cntF (leftOf left l).testBit 64=0:=(by omega);refine MB (yU l 0 pF) hl (fun j hj=> ?_);have h0:=Gp 64 hz j hj;rw[c,<-hc]at h0;rcases q:(gI 0 l).testBit j with _|_
   . rw[q]at h0;rcases r:left.testBit j with _|_
     . rfl
     . rw[r]at h0;cases h0
   . rw[hc,List.any_eq_true]at q;obtain⟨d,hd,hb⟩:=q;rw[Uf]at hb;exact((Ei l left p hl h d hd).2 j hb.2).symm
def eX (rows:List Int) (l:List Dm):Bool:=isPartial rows l&&decide (2*l.length=(eF rows).length)
theorem vU {rows:List Int} {l:List Dm} (h:isPartial rows l=true):eX rows l=decide (gI 0 l=setOf rows):=by
 obtain⟨ho,hp⟩:=jH h;unfold eX eF;rw[h,Bool.true_and,if_pos (aN.2 ho),yT,decide_eq_decide];exact(NN (dW ho) hp).symm
theorem Le {left:Nat} {p:Option Dm} {l:List Dm} (hl:left<U64) (h:kK left p l=true):l.length<=32:=by
 obtain⟨a,b,c⟩:=wC l left p hl h
 have:∀(f:Nat->Bool) k,cntF f k<=k:=by
  intro f k;induction k with
  |zero=>simp[cntF]
  |succ k ih=>rw[iQ];have:(f k).toNat<=1:=Bool.toNat_le _;omega
 have:=this left.testBit 64;omega
end Go.Proofs.YtjijonhkofhikaaGreatDoor
namespace Go.Proofs.YtjijonhkofhikaaGreatDoor
open Go.ChangeShapes Go.WideShapes Go.ChangeAt Go.RowKit
theorem Lf (i x y:Nat) (w:World) (hi:i<64) (hx:x=i%8) (hy:y=i/8):Calls prog 132 #[.int .i64 i] w (Ret (.tuple #[.agg #[.int .i64 x,.int .i64 y],.bool true]) w):=by
 have:=vY i w hi;rw[hx,hy];simpa using this
theorem Io (s:Nat) (d:Dm) (r:List Dm):gI s (d::r)=gI (if aI d then s|||aG d else s) r:=rfl
theorem uL (v:Value) (l:List Dm) (w:World) (h:Rd 3 aU w v l):Calls prog 144 #[v] w (Ret (.int .u64 (gI 0 l:Nat)) w):=by
 obtain⟨A,c,rfl,hc,hm⟩:=h.form;go_enter Tryz.func144,Tryz.ntmps144
 go_wp2;go_loopw [3,8] (fun s3 s8 wr=>∃k S:Nat,k<=l.length/\s8= .int .i64 k/\s3= .int .u64 S/\S<U64/\Hid (gI S (l.drop k)=gI 0 l)/\Below w.heap.size w wr) (fun _ i _=>l.length-(intOf i).toNat)
 case atStart=>exact⟨0,0,Nat.zero_le _,rfl,rfl,pF,TY rfl,Below.refl _ _⟩
 case round=>
  obtain⟨k,S,hk,rfl,rfl,hS,Hg,a6⟩:=hrel;by_cases hlt:k<l.length
  . obtain⟨b,off,rfl,hb,q1,q2,q3⟩:=(h.TW a6).jT hlt;have hg:=Hg.out;rw[List.drop_eq_getElem_cons hlt,Io]at hg;obtain⟨d,hd⟩:=TV (l[k]);rw[<-hd]at q1 q2 q3 hg;obtain⟨x,y,dn⟩:=d;simp only at q1 q2 q3;have bD:=Blk.aZ wr 99 #[.int .i64 x,.int .i64 y,.bool dn];rcases a7:aI (x,y,dn)with _|_
    . rw [a7, if_neg (by simp)] at hg;have bA:=TY hg;have a8:=TY a7;clear hg a7 hd;go_wp2_with fail
      refine(aR x y dn _).mono ?_;rintro e w1 ⟨rfl,hb1⟩;rw[a8.out];go_wp2;go_roundw
      case rel=>exact⟨k+1,S,by omega,by go_num,rfl,hS,bA,(a6.al _).tr hb1⟩
      case measure=>simp[intOf];omega
    . rw[a7,if_pos rfl]at hg;have hDlt:=dP a7;have a8:=TY a7;clear a7 hd;go_wp2_with fail
      refine(aR x y dn _).mono ?_;rintro e w1 ⟨rfl,hb1⟩;rw[a8.out];have bB:=bD.bl hb1;have z0:=bB.cell 0;have z1:=bB.cell 1;have z2:=bB.cell 2;simp only[List.getElem?_toArray,TZ,T9]at z0 z1 z2;obtain⟨D,hD⟩:=TV (aG (x,y,dn))
      have bE:bits .or .u64 (S:Int) (D:Int)=((S|||D:Nat):Int):=by
       rw[<-hD]at hDlt;unfold U64 at hS hDlt;exact u64_or_nat S D hS hDlt
      have bC:S|||D<U64:=by rw[hD];exact QK hS hDlt
      rw[<-hD]at hg;have bA:=TY hg;clear hg;have HD:=TY hD;clear hD;go_wp2_with fail
      refine(cZ x y dn _ a8.out).mono ?_;rintro e w2 ⟨rfl,hb2⟩;rw[<-HD.out];go_wp2;go_roundw
      case rel=>exact⟨k+1,S|||D,by omega,by go_num,rfl,bC,bA,((a6.al _).tr hb1).tr hb2⟩
      case measure=>simp[intOf];omega
  . obtain rfl : k = l.length := by omega
    have hg:=Hg.out;rw[List.drop_of_length_le (Nat.le_refl _)]at hg;have hg2:S=gI 0 l:=hg;have HG:=TY hg2;clear hg hg2;go_wp2;go_ret;exact⟨congrArg Ending.returned (TI HG.out),a6⟩
theorem wD (v u:Value) (rows:List Int) (l:List Dm) (w:World) (h:Rd 1 bG w v rows) (h2:Rd 3 aU w u l):Calls prog 91 #[.agg #[v],u] w (Ret (.bool (eX rows l)) w):=by
 obtain⟨A,c,rfl,hc,hm⟩:=h.form;obtain⟨A2,c2,rfl,hc2,bF⟩:=h2.form;have hA:=((Below.refl w.heap.size w).al (.cells #[.slice A rows.length c] 26));have hz:w.heap.size+1<=(w.alloc (.cells #[.slice A rows.length c] 26)).drew.heap.size:=(by simp);have bJ:w.heap.size<w.heap.size+1:=(by omega);have a6:=hA.drew;have HR:=TY h;have HL:=TY h2;clear h h2;rcases bC:isPartial rows l with _|_
 . have e : eX rows l = false := by unfold eX; rw [bC]; rfl
   rw[e];have bD:=TY bC;clear bC e;go_enter func91,ntmps91
   go_wp2_with fail
   refine rB (fun w'=>w'.cell? ⟨w.heap.size,0,none⟩=some (.slice A rows.length c)) fun hHeld=>(tW 0)<|(tW 1)<|(tR [2])<|tL fun K hK=>?_
   go_simp
   (first|(go_at_call 60;go_must (refine(qK _ _ rows l _ (HR.out.TW a6) (HL.out.TW a6)).mono ?_;rintro e wX ⟨rfl,a7⟩;rw[bD.out];obtain⟨bA,bB,a8⟩:=bkn a7 (w.heap.size+1) hz;have hz:=a8;have a6:=a6.tr a7);(try go_wp2_with fail)))
   refine tK hK fun hHeld=>?_
   clear hK K;refine(tW 3)<|(tU 4)<|(tU 5)<|(tU 6)<|(tU 7)<|(tU 8)<|(tW 9)<|(tW 10)<|tD ?_;go_wp2;go_ret;exact⟨rfl,a6⟩
 . have ho:=(jH bC).1;have hs:=dW ho;have e:=vU bC
   have e2:(((gI 0 l:Nat):Int)==((setOf rows:Nat):Int))=eX rows l:=by
    rw[e,Bool.eq_iff_iff,beq_iff_eq,decide_eq_true_iff];omega
   obtain⟨R,hR⟩:=TV (eX rows l);obtain⟨S,hS⟩:=TV (gI 0 l);obtain⟨T,hT⟩:=TV (setOf rows);rw[<-hR,<-hS,<-hT]at e2;rw[<-hR];have bE:=TY ho;have bD:=TY bC;have HS:=TY hS;have HT:=TY hT;clear ho bC e hR hS hT hs;go_enter func91,ntmps91
   go_wp2_with fail
   refine rB (fun w'=>w'.cell? ⟨w.heap.size,0,none⟩=some (.slice A rows.length c)) fun hHeld=>(tW 0)<|(tW 1)<|(tR [2])<|tL fun K hK=>?_
   go_simp
   (first|(go_at_call 60;go_must (refine(qK _ _ rows l _ (HR.out.TW a6) (HL.out.TW a6)).mono ?_;rintro e wX ⟨rfl,a7⟩;rw[bD.out];obtain⟨bA,bB,a8⟩:=bkn a7 (w.heap.size+1) hz;have hz:=a8;have a6:=a6.tr a7);(try go_wp2_with fail))|(go_at_call 144;go_must (refine(uL _ l _ (HL.out.TW a6)).mono ?_;rintro e wX ⟨rfl,a7⟩;rw[<-HS.out];obtain⟨bA,bB,a8⟩:=bkn a7 (w.heap.size+1) hz;have hz:=a8;have a6:=a6.tr a7);(try go_wp2_with fail))|(go_at_call 61;go_must (refine(pM _ rows _ (HR.out.TW a6) bE).mono ?_;rintro e wX ⟨rfl,a7⟩;rw[<-HT.out];obtain⟨bA,bB,a8⟩:=bkn a7 (w.heap.size+1) hz;have hz:=a8;have a6:=a6.tr a7);(try go_wp2_with fail)))
   refine tK hK fun hHeld=>?_
   clear hK K;refine(tW 3)<|(tW 4)<|(tW 6)<|(tR [5])<|tL fun K hK=>?_
   go_simp
   (first|(go_at_call 60;go_must (refine(qK _ _ rows l _ (HR.out.TW a6) (HL.out.TW a6)).mono ?_;rintro e wX ⟨rfl,a7⟩;rw[bD.out];obtain⟨bA,bB,a8⟩:=bkn a7 (w.heap.size+1) hz;have hz:=a8;have a6:=a6.tr a7);(try go_wp2_with fail))|(go_at_call 144;go_must (refine(uL _ l _ (HL.out.TW a6)).mono ?_;rintro e wX ⟨rfl,a7⟩;rw[<-HS.out];obtain⟨bA,bB,a8⟩:=bkn a7 (w.heap.size+1) hz;have hz:=a8;have a6:=a6.tr a7);(try go_wp2_with fail))|(go_at_call 61;go_must (refine(pM _ rows _ (HR.out.TW a6) bE).mono ?_;rintro e wX ⟨rfl,a7⟩;rw[<-HT.out];obtain⟨bA,bB,a8⟩:=bkn a7 (w.heap.size+1) hz;have hz:=a8;have a6:=a6.tr a7);(try go_wp2_with fail)))
   refine tK hK fun hHeld=>?_
   clear hK K;refine(tR [7])<|tL fun K hK=>?_
   go_simp
   (first|(go_at_call 60;go_must (refine(qK _ _ rows l _ (HR.out.TW a6) (HL.out.TW a6)).mono ?_;rintro e wX ⟨rfl,a7⟩;rw[bD.out];obtain⟨bA,bB,a8⟩:=bkn a7 (w.heap.size+1) hz;have hz:=a8;have a6:=a6.tr a7);(try go_wp2_with fail))|(go_at_call 144;go_must (refine(uL _ l _ (HL.out.TW a6)).mono ?_;rintro e wX ⟨rfl,a7⟩;rw[<-HS.out];obtain⟨bA,bB,a8⟩:=bkn a7 (w.heap.size+1) hz;have hz:=a8;have a6:=a6.tr a7);(try go_wp2_with fail))|(go_at_call 61;go_must (refine(pM _ rows _ (HR.out.TW a6) bE).mono ?_;rintro e wX ⟨rfl,a7⟩;rw[<-HT.out];obtain⟨bA,bB,a8⟩:=bkn a7 (w.heap.size+1) hz;have hz:=a8;have a6:=a6.tr a7);(try go_wp2_with fail)))
   refine tK hK fun hHeld=>?_
   clear hK K;refine(tW 8)<|(tW 9)<|(tW 10)<|tD ?_
   all_goals
     go_wp2;go_ret;exact⟨lF (by first|exact e2|(simp;done)|simpa using e2),a6⟩
theorem uM (v:Value) (rows:List Int) (w:World) (h:Rd 1 bG w v rows):Calls prog 220 #[.agg #[v]] w (iH 83 2 dH (eF rows) w):=by
 obtain⟨A,c,rfl,hc,hm⟩:=h.form;have hA:=(Below.refl w.heap.size w).al (.cells #[.slice A rows.length c] 26);have bX:=Blk.aZ w 26 #[.slice A rows.length c];have h':=h.TW hA;rcases hr:bQ rows with _|_
 . have e : eF rows = [] := by unfold eF; rw [hr]; rfl
   rw[e];go_enter func220,ntmps220
   go_wp2;go_loopw [3,4] (fun s3 s4 wr=>s4= .int .i64 0/\s3= .slice (some ⟨w.heap.size+1,0,none⟩) 0 0/\aD 83 2 dH w.heap.size wr (.slice (some ⟨w.heap.size+1,0,none⟩) 0 0) ([]:List Cl)/\Below (w.alloc (.cells #[.slice A rows.length c] 26)).heap.size (w.alloc (.cells #[.slice A rows.length c] 26)) wr) (fun _ _ _=>0)
   case atStart=>exact⟨rfl,rfl,fI (w.alloc (.cells #[.slice A rows.length c] 26)) (w.heap.size+1) (by simp) _ (by simp),(Below.refl _ _).al _⟩
   case round=>
    obtain⟨rfl,rfl,hown,a6⟩:=hrel;have zx:=(bX.bl a6).c1;go_wp2_with fail
    refine(dZ _ rows _ (h'.TW a6)).mono ?_;rintro e w1 ⟨rfl,hb1⟩;rw[hr];go_wp2;go_ret;exact⟨_,_,rfl,hown.below hb1,(hA.tr a6).tr hb1⟩
 . have e : eF rows = eT (setOf rows) 64 := by unfold eF; rw [hr]; rfl
   rw[e];have bK:=aN.1 hr;have bR:=TY bK;have Hr:=TY hr;clear bK e hr;obtain⟨s,bF⟩:=TV (setOf rows);rw[<-bF];have bU:=TY bF;clear bF;go_enter func220,ntmps220
   go_wp2;go_loopw [3,4] (fun s3 s4 wr=>∃(k:Nat) (A3:Option Addr) (c3:Nat),k<=64/\s4= .int .i64 k/\s3= .slice A3 (eT s k).length c3/\aD 83 2 dH (w.alloc (.cells #[.slice A rows.length c] 26)).heap.size wr (.slice A3 (eT s k).length c3) (eT s k)/\Below (w.alloc (.cells #[.slice A rows.length c] 26)).heap.size (w.alloc (.cells #[.slice A rows.length c] 26)) wr) (fun _ i _=>64-(intOf i).toNat)
   case atStart=>exact⟨0,_,_,by omega,rfl,rfl,fI (w.alloc (.cells #[.slice A rows.length c] 26)) (w.heap.size+1) (by simp) _ (Nat.le_refl _),(Below.refl _ _).al _⟩
   case round=>
    obtain⟨k,A3,c3,hk,rfl,rfl,hown,a6⟩:=hrel;have zx:=(bX.bl a6).c1;by_cases hlt:k<64
    . have hle:=uY s k;have a7:=zP s k;obtain⟨x,hx⟩:=TV (k%8);obtain⟨y,hy⟩:=TV (k/8);have bW:x<8:=(by omega);have bY:y<8:=(by omega);have bL:8*y+x=k:=(by omega);have bN:iI k=((x:Int),(y:Int)):=by unfold iI;simp only[Prod.mk.injEq];omega
      obtain⟨cs,hcs⟩:=TV (eT s k);rw[<-hcs]at hle a7 hown⊢;rw[bN]at a7;have H8:Hid ((cs.length+1)*16<=140737488355328):=TY (by omega);have HM:Hid (cs.length+1<=maxLen):=TY (by unfold maxLen;omega);have b5:=TY bL;have Hx:=TY hx;have Hy:=TY hy;have a8:=TY a7;have b6:=TY hcs;clear a7 hcs hx hy bN bL;go_wp2_with fail
      refine(dZ _ rows _ (h'.TW a6)).mono ?_;rintro e w1 ⟨rfl,hb1⟩;rw[Hr.out];go_wp2_with fail
      refine(Lf k x y _ hlt Hx.out Hy.out).mono ?_;rintro e w2 ⟨rfl,hb2⟩;have B2:=((a6.tr hb1).tr hb2).al (.cells #[.int .i64 x,.int .i64 y] 83);have bC:=Blk.aZ w2 83 #[.int .i64 x,.int .i64 y];have bJ:=((hown.below hb1).below hb2).alloc (.cells #[.int .i64 x,.int .i64 y] 83);clear zx;have zx:=(bX.bl B2).c1;have bD:=bC.cell 0;have bE:=bC.cell 1;simp only[List.getElem?_toArray,TZ,T9]at bD bE;go_wp2_with fail
      refine(kY _ rows x y _ (h'.TW B2) bR bW bY).mono ?_;rintro e w3 ⟨rfl,hb3⟩;rw[<-bU.out,b5.out];have bO:=bC.bl hb3;have B3:=B2.tr hb3;have bA:=bJ.below hb3;rcases hb:s.testBit k with _|_
      . have e : eT s (k + 1) = cs := by rw [a8.out, if_neg (by rw [hb]; simp)]; simp
        have E:=TY e;have Hb:=TY hb;clear e hb;go_wp2;go_roundw
        case rel=>exact⟨k+1,A3,c3,by omega,by go_num,by rw[E.out],by rw[E.out];exact bA,B3⟩
        case measure=>simp[intOf];omega
      . have e : eT s (k + 1) = cs ++ [((x : Int), (y : Int))] := by rw [a8.out, if_pos hb]
        have E:=TY e;have Hb:=TY hb;clear e hb;clear bD bE;have bD:=bO.cell 0;have bE:=bO.cell 1;simp only[List.getElem?_toArray,TZ,T9]at bD bE;go_wp2_with (at_builtin;go_must (refine aF (enc:=dH) jE eG oneCell B3 bA (((x:Int),(y:Int)):Cl) H8.out HM.out rfl _ _ rfl rfl rfl ?_);intro v4 w4 bB hb4 hg4 b7;obtain⟨A4,c4,rfl,b8,b9⟩:=bB.form)
        go_roundw
        case rel=>exact⟨k+1,A4,c4,by omega,by go_num,by rw[E.out];simp,by rw[E.out];exact bB,hb4⟩
        case measure=>simp[intOf];omega
    . obtain rfl : k = 64 := by omega
      go_wp2;go_ret;exact⟨A3,c3,rfl,hown.mono hA.size,hA.tr a6⟩
theorem vC (v:Value) (rows:List Int) (w:World) (h:Rd 1 bG w v rows):Calls prog 217 #[.agg #[v]] w (Ret (.int .i64 (eF rows).length) w):=by
 obtain⟨A,c,rfl,hc,hm⟩:=h.form;have hA:=(Below.refl w.heap.size w).al (.cells #[.slice A rows.length c] 26);go_enter Tryz.func217,Tryz.ntmps217
 go_wp2_with fail
 refine(uM _ rows _ (h.TW hA)).mono ?_;rintro e w1 ⟨A1,c1,rfl,a6,hb1⟩;go_wp2;go_ret;exact⟨rfl,hA.tr hb1⟩
theorem wF (v u:Value) (rows:List Int) (l:List Dm) (w:World) (h:Rd 1 bG w v rows) (h2:Rd 3 aU w u l):Calls prog 166 #[.agg #[v],u] w (Ret (.bool (eX rows l)) w):=by
 obtain⟨A,c,rfl,hc,hm⟩:=h.form;obtain⟨A2,c2,rfl,hc2,a8⟩:=h2.form;have hA:=((Below.refl w.heap.size w).al (.cells #[.slice A rows.length c] 26));have bX:=Blk.aZ w 26 #[.slice A rows.length c];rcases a6:isPartial rows l with _|_
 . have e : eX rows l = false := by unfold eX; rw [a6]; rfl
   rw[e];have a7:=TY a6;clear a6 e;go_enter func166,ntmps166
   go_wp2_with fail
   refine(Gn _ _ rows l _ (h.TW hA) (h2.TW hA)).mono ?_;rintro e w1 ⟨rfl,hb1⟩;rw[a7.out];go_wp2;go_ret;exact⟨rfl,hA.tr hb1⟩
 . have ho:=(jH a6).1;have hlen:=Le (dW ho) (jH a6).2;have hle:=BV rows
   have e:eX rows l=((2*(l.length:Int))==((eF rows).length:Int)):=by
    unfold eX;rw[a6,Bool.true_and,Bool.eq_iff_iff,beq_iff_eq,decide_eq_true_iff];omega
   obtain⟨N,hN⟩:=TV ((eF rows).length);rw[<-hN]at e hle;rw[e];have a7:=TY a6;have HN:=TY hN;clear a6 e hN ho;have hw2:IntKind.i64.wrap (2*(l.length:Int))=2*(l.length:Int):=IntWalk.i64_in _ (by omega);go_enter func166,ntmps166
   go_wp2_with fail
   refine(Gn _ _ rows l _ (h.TW hA) (h2.TW hA)).mono ?_;rintro e w1 ⟨rfl,hb1⟩;rw[a7.out];have zx:=(bX.bl hb1).c1;go_wp2_with fail
   refine(vC _ rows _ ((h.TW hA).TW hb1)).mono ?_;rintro e w2 ⟨rfl,hb2⟩;rw[<-HN.out];go_wp2;go_ret;exact⟨rfl,(hA.tr hb1).tr hb2⟩
end Go.Proofs.YtjijonhkofhikaaGreatDoor
namespace Go.Proofs.YtjijonhkofhikaaGreatDoor
open Go.ChangeShapes Go.WideShapes Go.ChangeAt Go.RowKit
def Gr (d:Dm):List Dm->List Dm
  |[]=>[d]
  |e::r=>if aT e<aT d then e::Gr d r else if e=d then e::r else d::e::r
def kP (out:List Dm) (d:Dm):List Dm:=if aI d then Gr d out else out
def kL (out l:List Dm):List Dm:=l.foldl kP out
def jB (l:List Dm):List Dm:=kL [] l
def Sorted (l:List Dm):Prop:=(∀d∈l,aI d=true)/\l.Pairwise fun a b=>aT a<aT b
theorem Ej {a b:Dm} (ha:aI a=true) (hb:aI b=true) (h:aT a=aT b):a=b:=by
 obtain⟨a1,a2,a3⟩:=a;obtain⟨b1,b2,b3⟩:=b;have A:=mW ha;have B:=mW hb;simp only at A B;unfold aT at h;simp only at h
 have e3:a3=b3:=by
  cases a3<;>cases b3<;>simp at h⊢<;>omega
 subst e3;have e2:a2=b2:=(by omega);subst e2;have e1:a1=b1:=(by omega);subst e1;rfl
def nO (d:Dm) (l:List Dm):Nat:=(l.takeWhile fun e=>decide (aT e<aT d)).length
theorem IQ (d:Dm):∀l:List Dm,nO d l<=l.length
  |[]=>by simp[nO]
  | e :: r => by
   have:=IQ d r;unfold nO at*;rw[List.takeWhile_cons];split<;>simp<;>omega
theorem sW (d e:Dm) (r:List Dm):nO d (e::r)=if aT e<aT d then nO d r+1 else 0:=by
 unfold nO;rw[List.takeWhile_cons];by_cases h:aT e<aT d<;>simp[h]
theorem AY (d:Dm):∀(l:List Dm) (k:Nat) (h:k<l.length),k<nO d l->aT l[k]<aT d
  |[],k,h,_=>by simp at h
  | e :: r, k, h, hk => by
   rw[sW]at hk;split at hk
   . cases k with
     |zero=>simpa
     |succ k=>simp only[List.getElem_cons_succ];exact AY d r k (by simpa using h) (by omega)
   . omega
theorem IU (d:Dm):∀(l:List Dm) (h:nO d l<l.length),¬aT l[nO d l]<aT d
  |[],h=>by simp at h
  | e :: r, h => by
   by_cases q:aT e<aT d
   . have e1 : nO d (e :: r) = nO d r + 1 := by rw [sW, if_pos q]
     simp only[e1,List.getElem_cons_succ];exact IU d r (by rw[e1]at h;simpa using h)
   . have e1 : nO d (e :: r) = 0 := by rw [sW, if_neg q]
     simp only[e1,List.getElem_cons_zero];exact q
theorem Kj (d:Dm):∀l:List Dm,Gr d l=if l[nO d l]? =some d then l else l.take (nO d l)++d::l.drop (nO d l)
  |[]=>by simp[Gr,nO]
  | e :: r => by
   unfold Gr;by_cases q:aT e<aT d
   . rw[if_pos q,sW,if_pos q,Kj d r];simp only[T9,List.take_succ_cons,List.drop_succ_cons];split<;>rfl
   . rw[if_neg q,sW,if_neg q];simp only[TZ,List.take_zero,List.drop_zero,List.nil_append,Option.some.injEq]
theorem Fq (d:Dm):∀(l:List Dm) (x:Dm),x∈Gr d l↔x=d∨x∈l
  |[],x=>by simp[Gr]
  | e :: r, x => by
   unfold Gr;split
   . rw[Ua,Fq d r,Ua];constructor<;>rintro(h|h|h)<;>simp[h]
   . split
     . rename_i h;subst h;simp
     . simp
theorem El {d:Dm} (hd:aI d=true):∀{l:List Dm},Sorted l->Sorted (Gr d l)
  |[],h=>⟨fun x hx=>by simp[Gr]at hx;rw[hx];exact hd,by simp[Gr]⟩
  | e :: r, h => by
   have hr:Sorted r:=⟨fun x hx=>h.1 x (Ub _ hx),(List.pairwise_cons.1 h.2).2⟩;have he:=h.1 e (Uc ..);have a6:=(List.pairwise_cons.1 h.2).1;have ih:=El hd hr;unfold Gr;split
   . rename_i q;refine⟨fun x hx=> ?_,List.pairwise_cons.2 ⟨fun x hx=> ?_,ih.2⟩⟩
     . rcases List.mem_cons.1 hx with rfl|hx
       . exact he
       . exact ih.1 x hx
     . rcases(Fq d r x).1 hx with rfl|hx
       . exact q
       . exact a6 x hx
   . rename_i q;split
     . exact h
     . rename_i q2;have hne:aT e≠aT d:=fun h'=>q2 (Ej he hd h')
       refine⟨fun x hx=> ?_,List.pairwise_cons.2 ⟨fun x hx=> ?_,h.2⟩⟩
       . rcases List.mem_cons.1 hx with rfl|hx
         . exact hd
         . exact h.1 x hx
       . rcases List.mem_cons.1 hx with rfl|hx
         . omega
         . have:=a6 x hx;omega
theorem jJ {out:List Dm} (h:Sorted out) (d:Dm):Sorted (kP out d):=by
 unfold kP;split
 . rename_i q;exact El q h
 . exact h
theorem Gs:∀(l:List Dm) {out:List Dm},Sorted out->Sorted (kL out l)
  |[],out,h=>h
  |d::r,out,h=>Gs r (jJ h d)
theorem yV:Sorted []:=⟨by simp,List.Pairwise.nil⟩
theorem zQ (l:List Dm):Sorted (jB l):=Gs l yV
theorem zS:∀(l:List Int) (n:Nat),l.Pairwise (· <·)->(∀x∈l,(128:Int)-n<=x/\x<128)->l.length<=n
  |[],n,_,_=>by simp
  | x :: r, n, hp, hb => by
   have h1:=hb x (Uc ..);cases n with
   |zero=>omega
   |succ n=>
    have := zS r n (List.pairwise_cons.1 hp).2 (fun y hy => by
     have h2:=hb y (Ub _ hy);have h3:=(List.pairwise_cons.1 hp).1 y hy;omega)
    simp;omega
theorem yX {l:List Dm} (h:Sorted l):l.length<=128:=by
 have := zS (l.map aT) 128 (List.pairwise_map.2 h.2) (fun x hx => by
  obtain⟨d,hd,rfl⟩:=List.mem_map.1 hx;have:=NK (h.1 d hd);omega)
 simpa using this
theorem Lg {l:List Dm} (h:Sorted l) {d:Dm} {k:Nat} (hk:k<l.length):aT l[k]<aT d↔k<nO d l:=by
 constructor
 . intro q;by_cases hn:k<nO d l
   . exact hn
   . exfalso;have hp:nO d l<l.length:=(by omega);have:=IU d l hp;by_cases e:nO d l=k
     . subst e;exact this q
     . have:=List.pairwise_iff_getElem.1 h.2 _ _ hp hk (by omega);omega
 . exact AY d l k hk
theorem JF {l:List Dm} (h:Sorted l) {d:Dm} (hd:aI d=true) {k:Nat} (hk:k<l.length):(aT l[k]>aT d)↔(if l[nO d l]? =some d then nO d l+1 else nO d l)<=k:=by
 by_cases q:l[nO d l]? =some d
 . rw[if_pos q];obtain⟨hp,e⟩:=List.getElem?_eq_some_iff.1 q;constructor
   . intro a6;by_cases hn:nO d l+1<=k
     . exact hn
     . exfalso;by_cases e2:k=nO d l
       . subst e2;rw[e]at a6;omega
       . have:=AY d l k hk (by omega);omega
   . intro hle;have:=List.pairwise_iff_getElem.1 h.2 _ _ hp hk (by omega);rw[e]at this;omega
 . rw[if_neg q];constructor
   . intro a6;by_cases hn:nO d l<=k
     . exact hn
     . have:=AY d l k hk (by omega);omega
   . intro hle;have hp:nO d l<l.length:=(by omega);have h1:=IU d l hp
     have hne:aT l[nO d l]≠aT d:=by
      intro e;apply q;rw[List.getElem?_eq_getElem hp,Ej (h.1 _ (List.getElem_mem hp)) hd e]
     by_cases e2:k=nO d l
     . subst e2;omega
     . have:=List.pairwise_iff_getElem.1 h.2 _ _ hp hk (by omega);omega
def qX (c:Cl):Dm×Dm:=((c.1,c.2,false),(c.1,c.2+1,false))
def vD (c:Cl):Dm×Dm:=((c.1,c.2,true),(c.1+1,c.2,true))
def kM (c:Cl):Bool:=decide (0<=c.1/\c.1<=6)&&decide (0<=c.2/\c.2<=6)
def fH (l:List Dm) (p:Dm×Dm):Bool:=l.contains p.1&&l.contains p.2
def kindOf (l:List Dm) (c:Cl):Nat:=if kM c then(if fH l (qX c)then 1 else if fH l (vD c)then 2 else 0)else 0
def nV (k:Nat) (c:Cl):Dm×Dm:=if k=1 then qX c else vD c
def qL (k:Nat) (c:Cl):Dm×Dm:=if k=1 then vD c else qX c
def keepD (g:Dm×Dm) (d:Dm):Bool:= !(decide (d=g.1)||decide (d=g.2))
def iW (l:List Dm) (g n:Dm×Dm):List Dm:=[n.1,n.2]++l.filter (keepD g)
def aW (l:List Dm) (c:Cl):List Dm:=jB (iW l (nV (kindOf l c) c) (qL (kindOf l c) c))
def fJ (l:List Dm) (c:Cl):List Dm×Bool:=if kindOf l c=0 then(l,false)else(aW l c,true)
theorem Gt (l:List Dm) (c:Cl):kindOf l c<=2:=by unfold kindOf;split<;>(try split)<;>(try split)<;>omega
theorem Em (l:List Dm) (c:Cl):(aW l c).length<=128:=yX (zQ _)
def iJ (l:List Dm):List Cl->Option (List Dm)
  |[]=>some l
  |c::r=>if kindOf l c=0 then none else iJ (aW l c) r
def dS (l:List Dm) (cs:List Cl):List Dm×Bool:=if cs.length>200 then(l,false)else match iJ l cs with|none=>(l,false)|some m=>(m,true)
def dM (rows:List Int) (f n:List Dm) (cs:List Cl):Bool:=eX rows f&&decide (cs.length<=60)&&(dS f cs).2&&decide ((dS f cs).1=n)
def Apart (a b:Dm):Prop:=∀j,(aG a).testBit j=true->(aG b).testBit j=false
def In (s:Nat) (d:Dm):Prop:=aI d=true/\∀j,(aG d).testBit j=true->s.testBit j=true
def kS (s:Nat) (l:List Dm):Prop:=(∀d∈l,In s d)/\(l.Pairwise fun a b=>aT a<aT b)/\l.Pairwise Apart
theorem kS.tail {s:Nat} {d:Dm} {l:List Dm} (h:kS s (d::l)):kS s l:=
 ⟨fun e he=>h.1 e (Ub _ he),(List.pairwise_cons.1 h.2.1).2,(List.pairwise_cons.1 h.2.2).2⟩
theorem xY {a b:Nat} (h:∀j,b.testBit j=true->a.testBit j=true):a&&&b=b:=by
 apply Nat.eq_of_testBit_eq;intro j;rw[Nat.testBit_and];rcases q:b.testBit j with _|_
 . simp
 . rw[h j q];rfl
theorem kS.less {s:Nat} (hs:s<U64) {d:Dm} {l:List Dm} (h:kS s (d::l)):kS (dE s (aG d)) l:=by
 refine⟨fun e he=> ?_,h.tail.2⟩;obtain⟨e1,e2⟩:=h.tail.1 e he;refine⟨e1,fun j hj=> ?_⟩;rw[jL hs (dP (h.1 d (Uc ..)).1),e2 j hj,Bool.true_and,Bool.not_eq_true'];rcases q:(aG d).testBit j with _|_
 . rfl
 . have:=(List.pairwise_cons.1 h.2.2).1 e he j q;rw[hj]at this;cases this
theorem Gu:∀{l:List Dm} {s:Nat} {p:Option Dm},s<U64->kS s l->(∀e,p=some e->∀d,l.head? =some d->aT e<aT d)->kK s p l=true
  |[],s,p,_,_,_=>rfl
  | d :: r, s, p, hs, h, hp => by
   obtain⟨d1,d2⟩:=h.1 d (Uc ..)
   have ih := Gu (p := some d) (eD hs) (h.less hs) (fun e he d' a6 => by
    cases he;cases r with
    |nil=>cases a6
    |cons x y=>injection a6 with a6;subst a6;exact(List.pairwise_cons.1 h.2.1).1 _ (Uc ..))
   rw[rV,d1,ih,decide_eq_true (xY d2)];cases p with
   |none=>rfl
   |some e=>simp only[rG,Bool.true_and,Bool.and_true,decide_eq_true_eq];exact hp e rfl d rfl
theorem Gv:∀{l:List Dm} {s:Nat} {p:Option Dm},s<U64->kK s p l=true->kS s l/\∀e,p=some e->∀d∈l,aT e<aT d
  |[],s,p,_,_=>⟨⟨by simp,List.Pairwise.nil,List.Pairwise.nil⟩,by simp⟩
  | d :: r, s, p, hs, h => by
   obtain⟨d1,d2,d3⟩:=uK h;obtain⟨⟨a,b,c⟩,f⟩:=Gv (eD hs) d3;have hd:=dP d1;refine⟨⟨fun e he=> ?_,List.pairwise_cons.2 ⟨fun e he=>f d rfl e he,b⟩,List.pairwise_cons.2 ⟨fun e he j hj=> ?_,c⟩⟩,?_⟩
   . rcases List.mem_cons.1 he with rfl|he
     . exact⟨d1,fun j hj=>qW d2 j hj⟩
     . refine ⟨(a e he).1, fun j hj => ?_⟩;have:=(a e he).2 j hj;rw[jL hs hd,Uf]at this;exact this.1
   . rcases q:(aG e).testBit j with _|_
     . rfl
     . have:=(a e he).2 j q;rw[jL hs hd,hj]at this;simp at this
   . intro e he x hx;subst he;rw[rV]at h;simp only[Uf,rG,decide_eq_true_eq]at h;have h1:=h.1.2;rcases List.mem_cons.1 hx with rfl|hx
     . exact h1
     . have:=f d rfl x hx;omega
theorem FP {rows:List Int} {l:List Dm}:isPartial rows l=true↔dY rows/\kS (setOf rows) l:=by
 constructor
 . intro h;obtain⟨a,b⟩:=jH h;exact⟨a,(Gv (dW a) b).1⟩
 . rintro⟨a,b⟩;unfold isPartial;rw[aN.2 a,Gu (dW a) b (by simp)];rfl
theorem Gw : ∀ {l m : List Dm}, l.Pairwise (fun a b => aT a < aT b) -> m.Pairwise (fun a b => aT a < aT b) -> (∀ d, d ∈ l ↔ d ∈ m) -> l = m
  |[],[],_,_,_=>rfl
  |[],d::m,_,_,h=>by have:=(h d).2 (Uc ..);cases this
  |d::l,[],_,_,h=>by have:=(h d).1 (Uc ..);cases this
  | d :: l, e :: m, hl, hm, h => by
   have hl2:=List.pairwise_cons.1 hl;have a6:=List.pairwise_cons.1 hm
   have a7:d=e:=by
    rcases List.mem_cons.1 ((h d).1 (Uc ..))with q|q
    . exact q
    . rcases List.mem_cons.1 ((h e).2 (Uc ..))with r|r
      . exact r.symm
      . have a:=a6.1 d q;have b:=hl2.1 e r;omega
   subst a7;congr 1
   refine Gw hl2.2 a6.2 (fun x=> ?_);have hx:=h x;rw[Ua,Ua]at hx;constructor
   . intro q;rcases hx.1 (.inr q)with r|r
     . subst r;have:=hl2.1 x q;omega
     . exact r
   . intro q;rcases hx.2 (.inr q)with r|r
     . subst r;have:=a6.1 x q;omega
     . exact r
theorem Db {s:Nat} {d:Dm}:In s d↔aI d=true/\s.testBit (eY d)=true/\s.testBit (jG d)=true:=by
 constructor
 . rintro⟨a,b⟩;exact⟨a,b _ (by rw[aV a];simp),b _ (by rw[aV a];simp)⟩
 . rintro⟨a,b,c⟩;refine⟨a,fun j hj=> ?_⟩;rw[aV a,Ug,decide_eq_true_eq,decide_eq_true_eq]at hj;rcases hj with rfl|rfl
   . exact b
   . exact c
theorem lI {a b : Dm} (h : Apart a b) : Apart b a := fun j hj => by
 rcases q:(aG a).testBit j with _|_
 . rfl
 . rw[h j q]at hj;cases hj
theorem kS.apart {s:Nat} {l:List Dm} (h:kS s l) {a b:Dm} (ha:a∈l) (hb:b∈l) (hne:a≠b):Apart a b:=by
 have:∀{m:List Dm},m.Pairwise Apart->a∈m->b∈m->Apart a b:=by
  intro m;induction m with
  |nil=>intro _ h;cases h
  |cons x m ih=>
   intro hp h1 h2;obtain⟨p1,p2⟩:=List.pairwise_cons.1 hp;rcases List.mem_cons.1 h1 with e1|a7
   . rcases List.mem_cons.1 h2 with e|a6
     . exact absurd (e1.trans e.symm) hne
     . rw[e1];exact p1 b a6
   . rcases List.mem_cons.1 h2 with e|a6
     . rw[e];exact lI (p1 a a7)
     . exact ih p2 a7 a6
 exact this h.2.2 ha hb
theorem En:∀(l out:List Dm) (x:Dm),x∈kL out l↔x∈out∨(x∈l/\aI x=true)
  |[],out,x=>by simp[kL]
  | d :: r, out, x => by
   have e:kL out (d::r)=kL (kP out d) r:=rfl;rw[e,En r];unfold kP;by_cases q:aI d=true
   . rw[if_pos q,Fq];constructor
     . rintro((rfl|h)|⟨h,k⟩)
       . exact .inr ⟨Uc ..,q⟩
       . exact .inl h
       . exact .inr ⟨Ub _ h,k⟩
     . rintro(h|⟨h,k⟩)
       . exact .inl (.inr h)
       . rcases List.mem_cons.1 h with rfl|h
         . exact .inl (.inl rfl)
         . exact .inr ⟨h,k⟩
   . rw[if_neg q];constructor
     . rintro(h|⟨h,k⟩)
       . exact .inl h
       . exact .inr ⟨Ub _ h,k⟩
     . rintro(h|⟨h,k⟩)
       . exact .inl h
       . rcases List.mem_cons.1 h with rfl|h
         . exact absurd k q
         . exact .inr ⟨h,k⟩
theorem Gx (l:List Dm) (x:Dm):x∈jB l↔x∈l/\aI x=true:=by unfold jB;rw[En];simp
theorem wG (l:List Dm) (g n:Dm×Dm) (x:Dm):x∈iW l g n↔x=n.1∨x=n.2∨(x∈l/\x≠g.1/\x≠g.2):=by
 unfold iW keepD;simp[List.mem_filter]
structure Sq (g n:Dm×Dm):Prop where
  ok:aI g.1=true/\aI g.2=true/\aI n.1=true/\aI n.2=true
  same:∀j,((aG g.1).testBit j||(aG g.2).testBit j)=((aG n.1).testBit j||(aG n.2).testBit j)
  apart:Apart g.1 g.2/\Apart n.1 n.2
  meet:¬Apart g.1 n.1/\¬Apart g.1 n.2
  SE:¬Apart g.2 n.1/\¬Apart g.2 n.2
  ne:g.1≠n.1/\g.1≠n.2/\g.2≠n.1/\g.2≠n.2
theorem Sq.symm {g n:Dm×Dm} (h:Sq g n):Sq n g:=
 ⟨⟨h.ok.2.2.1, h.ok.2.2.2, h.ok.1, h.ok.2.1⟩, fun j => (h.same j).symm, ⟨h.apart.2, h.apart.1⟩,
   ⟨fun q=>h.meet.1 (lI q),fun q=>h.SE.1 (lI q)⟩,⟨fun q=>h.meet.2 (lI q),fun q=>h.SE.2 (lI q)⟩,
   ⟨h.ne.1.symm,h.ne.2.2.1.symm,h.ne.2.1.symm,h.ne.2.2.2.symm⟩⟩
theorem FQ {g n:Dm×Dm} (h:Sq g n) {j:Nat}:((aG n.1).testBit j=true∨(aG n.2).testBit j=true)->((aG g.1).testBit j=true∨(aG g.2).testBit j=true):=by
 have:=h.same j;rw[<-Ug,<-Ug,this];exact id
theorem IV {s:Nat} {l:List Dm} {g n:Dm×Dm} (h:kS s l) (hs:Sq g n) (h1:g.1∈l) (h2:g.2∈l):
 kS s (jB (iW l g n))/\(∀x,x∈jB (iW l g n)↔x=n.1∨x=n.2∨(x∈l/\x≠g.1/\x≠g.2))/\n.1∉l/\n.2∉l:=by
 have hm : ∀ x, x ∈ jB (iW l g n) ↔ x = n.1 ∨ x = n.2 ∨ (x ∈ l /\ x ≠ g.1 /\ x ≠ g.2) := fun x => by
  rw[Gx,wG];constructor
  . exact fun q=>q.1
  . intro q;refine⟨q,?_⟩;rcases q with rfl|rfl|⟨q,_⟩
    . exact hs.ok.2.2.1
    . exact hs.ok.2.2.2
    . exact(h.1 x q).1
 have a6:=zQ (iW l g n);have hg1:=h.1 _ h1;have hg2:=h.1 _ h2
 have a7 : ∀ j, ((aG n.1).testBit j = true ∨ (aG n.2).testBit j = true) -> s.testBit j = true := fun j hj => by
  rcases FQ hs hj with q|q
  . exact hg1.2 j q
  . exact hg2.2 j q
 have hold : ∀ x ∈ l, x ≠ g.1 -> x ≠ g.2 -> Apart n.1 x /\ Apart n.2 x := fun x hx e1 e2 => by
  have a1:=h.apart h1 hx (Ne.symm e1);have a2:=h.apart h2 hx (Ne.symm e2);refine⟨fun j hj=> ?_,fun j hj=> ?_⟩
  . rcases FQ hs (.inl hj)with q|q
    . exact a1 j q
    . exact a2 j q
  . rcases FQ hs (.inr hj)with q|q
    . exact a1 j q
    . exact a2 j q
 have hall:∀x,x∈jB (iW l g n)->∀y,y∈jB (iW l g n)->x≠y->Apart x y:=by
  intro x hx y hy hne;rcases(hm x).1 hx with rfl|rfl|⟨qx,a8,bA⟩<;>rcases(hm y).1 hy with rfl|rfl|⟨qy,bB,bC⟩
  . exact absurd rfl hne
  . exact hs.apart.2
  . exact(hold y qy bB bC).1
  . exact lI hs.apart.2
  . exact absurd rfl hne
  . exact(hold y qy bB bC).2
  . exact lI (hold x qx a8 bA).1
  . exact lI (hold x qx a8 bA).2
  . exact h.apart qx qy hne
 refine⟨⟨fun x hx=> ?_,a6.2,?_⟩,hm,?_,?_⟩
 . rcases(hm x).1 hx with rfl|rfl|⟨q,_⟩
   . exact⟨hs.ok.2.2.1,fun j hj=>a7 j (.inl hj)⟩
   . exact⟨hs.ok.2.2.2,fun j hj=>a7 j (.inr hj)⟩
   . exact h.1 x q
 . refine List.Pairwise.imp_of_mem (fun {a b} ha hb hab => ?_) a6.2;exact hall a ha b hb (fun e=>by subst e;omega)
 . intro q;exact hs.meet.1 (h.apart h1 q hs.ne.1)
 . intro q;exact hs.meet.2 (h.apart h1 q hs.ne.2.1)
theorem NP {s:Nat} {l:List Dm} {g n:Dm×Dm} (h:kS s l) (hs:Sq g n) (h1:g.1∈l) (h2:g.2∈l):
 jB (iW (jB (iW l g n)) n g)=l:=by
 obtain⟨a,b,c,d⟩:=IV h hs h1 h2;obtain⟨a',b',_,_⟩:=IV a hs.symm ((b _).2 (.inl rfl)) ((b _).2 (.inr (.inl rfl)));refine Gw a'.2.1 h.2.1 (fun x=> ?_);rw[b',b];constructor
 . rintro(rfl|rfl|⟨q,q1,q2⟩)
   . exact h1
   . exact h2
   . rcases q with q|q|q
     . exact absurd q q1
     . exact absurd q q2
     . exact q.1
 . intro q;by_cases e1:x=g.1
   . exact .inl e1
   . by_cases e2:x=g.2
     . exact .inr (.inl e2)
     . exact .inr (.inr ⟨.inr (.inr ⟨q,e1,e2⟩),fun e=>c (e▸q),fun e=>d (e▸q)⟩)
theorem Eo {x y:Int} (h:bM (x,y)=true):(dJ (x,y)).toNat=(y*8+x).toNat:=by rw[(dO h).1]
theorem SY {c:Cl} (hc:kM c=true):Sq (qX c) (vD c):=by
 obtain⟨x,y⟩:=c;unfold kM at hc;rw[Uf,decide_eq_true_eq,decide_eq_true_eq]at hc;simp only at hc;obtain⟨⟨x0,x1⟩,y0,y1⟩:=hc;have w1:wrap64 (x+1)=x+1:=by unfold wrap64;omega
 have w2:wrap64 (y+1)=y+1:=by unfold wrap64;omega
 have s1:sec (x,y,false)=(x+1,y):=by unfold sec;simp[w1]
 have s2:sec (x,y+1,false)=(x+1,y+1):=by unfold sec;simp[w1]
 have s3:sec (x,y,true)=(x,y+1):=by unfold sec;simp[w2]
 have s4:sec (x+1,y,true)=(x+1,y+1):=by unfold sec;simp[w2]
 have c1:bM (x,y)=true:=dB.2 (by simp only;omega);have c2:bM (x+1,y)=true:=dB.2 (by simp only;omega);have c3:bM (x,y+1)=true:=dB.2 (by simp only;omega);have c4:bM (x+1,y+1)=true:=dB.2 (by simp only;omega);have d1:aI (x,y,false)=true:=by unfold aI;rw[s1];simp[c1,c2]
 have d2:aI (x,y+1,false)=true:=by unfold aI;rw[s2];simp[c3,c4]
 have d3:aI (x,y,true)=true:=by unfold aI;rw[s3];simp[c1,c3]
 have d4:aI (x+1,y,true)=true:=by unfold aI;rw[s4];simp[c2,c4]
 have b1 : ∀ j, (aG (x, y, false)).testBit j = (decide ((y * 8 + x).toNat = j) || decide ((y * 8 + (x + 1)).toNat = j)) := fun j => by
  rw[aV d1];unfold eY jG;rw[s1];simp only;rw[Eo c1,Eo c2]
 have b2 : ∀ j, (aG (x, y + 1, false)).testBit j = (decide (((y + 1) * 8 + x).toNat = j) || decide (((y + 1) * 8 + (x + 1)).toNat = j)) := fun j => by
  rw[aV d2];unfold eY jG;rw[s2];simp only;rw[Eo c3,Eo c4]
 have b3 : ∀ j, (aG (x, y, true)).testBit j = (decide ((y * 8 + x).toNat = j) || decide (((y + 1) * 8 + x).toNat = j)) := fun j => by
  rw[aV d3];unfold eY jG;rw[s3];simp only;rw[Eo c1,Eo c3]
 have b4 : ∀ j, (aG (x + 1, y, true)).testBit j = (decide ((y * 8 + (x + 1)).toNat = j) || decide (((y + 1) * 8 + (x + 1)).toNat = j)) := fun j => by
  rw[aV d4];unfold eY jG;rw[s4];simp only;rw[Eo c2,Eo c4]
 have no:∀{a b:Dm} (j:Nat),(aG a).testBit j=true->(aG b).testBit j=true->¬Apart a b:=fun j h1 h2 h=>by rw[h j h1]at h2;cases h2
 unfold qX vD;refine⟨⟨d1,d2,d3,d4⟩,fun j=> ?_,⟨fun j hj=> ?_,fun j hj=> ?_⟩,⟨?_,?_⟩,⟨?_,?_⟩,?_⟩
 . simp only;rw[b1,b2,b3,b4,Bool.eq_iff_iff];simp only[Ug,decide_eq_true_eq];constructor<;>rintro((h|h)|h|h)<;>simp[h]
 . simp only at hj⊢;rw[b1,Ug,decide_eq_true_eq,decide_eq_true_eq]at hj;rw[b2,Bool.or_eq_false_iff,decide_eq_false_iff_not,decide_eq_false_iff_not];omega
 . simp only at hj⊢;rw[b3,Ug,decide_eq_true_eq,decide_eq_true_eq]at hj;rw[b4,Bool.or_eq_false_iff,decide_eq_false_iff_not,decide_eq_false_iff_not];omega
 . exact no (y*8+x).toNat (by rw[b1];simp) (by rw[b3];simp)
 . exact no (y*8+(x+1)).toNat (by rw[b1];simp) (by rw[b4];simp)
 . exact no ((y+1)*8+x).toNat (by rw[b2];simp) (by rw[b3];simp)
 . exact no ((y+1)*8+(x+1)).toNat (by rw[b2];simp) (by rw[b4];simp)
 . simp
theorem IW {l:List Dm} {c:Cl} (h:kindOf l c≠0):kM c=true:=by
 unfold kindOf at h;rcases q:kM c with _|_
 . rw[q]at h;simp at h
 . rfl
theorem MN {l:List Dm} {c:Cl} (h:kindOf l c≠0):Sq (nV (kindOf l c) c) (qL (kindOf l c) c)/\(nV (kindOf l c) c).1∈l/\(nV (kindOf l c) c).2∈l:=by
 have a6:=IW h;have a7:=SY a6;have hk:kindOf l c=if fH l (qX c)then 1 else if fH l (vD c)then 2 else 0:=by unfold kindOf;rw[a6];rfl
 by_cases q:fH l (qX c)=true
 . rw[if_pos q]at hk;rw[hk];unfold fH at q;rw[Uf,Ud,Ud]at q;exact⟨a7,q⟩
 . rw[if_neg q]at hk;by_cases r:fH l (vD c)=true
   . rw[if_pos r]at hk;rw[hk];unfold fH at r;rw[Uf,Ud,Ud]at r;exact⟨a7.symm,r⟩
   . rw[if_neg r]at hk;exact absurd hk h
theorem MO {s:Nat} {l:List Dm} {c:Cl} (h:kS s l) (hk:kindOf l c≠0):kS s (aW l c)/\kindOf (aW l c) c≠0/\aW (aW l c) c=l:=by
 obtain⟨a6,h1,h2⟩:=MN hk;have a8:=IW hk;obtain⟨a,b,_,_⟩:=IV h a6 h1 h2;have hback:=NP h a6 h1 h2;have e:aW l c=jB (iW l (nV (kindOf l c) c) (qL (kindOf l c) c)):=rfl;rw[<-e]at a b hback;have a7:kindOf l c=1∨kindOf l c=2:=by have:=Gt l c;omega
 have hk2:kindOf (aW l c) c=3-kindOf l c:=by
  have bA:kindOf (aW l c) c=if fH (aW l c) (qX c)then 1 else if fH (aW l c) (vD c)then 2 else 0:=by conv=>lhs;unfold kindOf;rw[a8,if_pos rfl]
  rw[bA];rcases a7 with q|q
  . rw[q]at b a6⊢
    have b1:fH (aW l c) (qX c)=false:=by
     unfold fH;rw[Bool.and_eq_false_iff];left;rcases r:(aW l c).contains (qX c).1 with _|_
     . rfl
     . rw[Ud,b]at r;rcases r with r|r|r
       . exact absurd r a6.ne.1
       . exact absurd r a6.ne.2.1
       . exact absurd rfl r.2.1
    have b2:fH (aW l c) (vD c)=true:=by
     unfold fH;rw[Uf,Ud,Ud,b,b];exact⟨.inl rfl,.inr (.inl rfl)⟩
    rw[b1,b2];rfl
  . rw[q]at b a6⊢
    have b2:fH (aW l c) (qX c)=true:=by
     unfold fH;rw[Uf,Ud,Ud,b,b];exact⟨.inl rfl,.inr (.inl rfl)⟩
    rw[b2];rfl
 refine⟨a,by omega,?_⟩;have e2:aW (aW l c) c=jB (iW (aW l c) (nV (kindOf (aW l c) c) c) (qL (kindOf (aW l c) c) c)):=rfl;rw[e2,hk2];rcases a7 with q|q
 . rw[q]at hback⊢;exact hback
 . rw[q]at hback⊢;exact hback
theorem Ce : ∀ (cs : List Cl) (l : List Dm) (c : Cl), iJ l (cs ++ [c]) = (iJ l cs).bind fun m => if kindOf m c = 0 then none else some (aW m c)
  |[],l,c=>by simp[iJ]
  | d :: r, l, c => by
   simp only[List.cons_append,iJ];split
   . rfl
   . exact Ce r _ c
abbrev Fl:=List Int×List Dm×List Dm×List Cl
def AZ (x:Fl) (j:Nat):Fl:=(x.1,x.2.1,(dS x.2.1 (x.2.2.2.take j)).1,x.2.2.2.take j)
def mG (x:Fl):Bool:=dM x.1 x.2.1 x.2.2.1 x.2.2.2
def Dr (x:Fl) (c:Cl):Fl×Bool:=if mG x=true/\x.2.2.2.length≠60/\kindOf x.2.2.1 c≠0 then((x.1,x.2.1,aW x.2.2.1 c,x.2.2.2++[c]),true)else(x,false)
def kT (x:Fl):Fl×Bool:=if mG x=true/\x.2.2.2.length≠0 then(AZ x (x.2.2.2.length-1),true)else(x,false)
def iR (x:Fl):Fl:=if mG x=true then AZ x 0 else x
theorem Cf:∀(cs:List Cl) {l m:List Dm} (j:Nat),iJ l cs=some m->∃k,iJ l (cs.take j)=some k
  |[],l,m,j,h=>⟨l,by simp[iJ]⟩
  |c::r,l,m,0,h=>⟨l,by simp[iJ]⟩
  | c :: r, l, m, j + 1, h => by
   unfold iJ at h;split at h
   . cases h
   . rename_i q;obtain⟨k,hk⟩:=Cf r j h;exact⟨k,by rw[List.take_succ_cons];unfold iJ;rw[if_neg q];exact hk⟩
theorem pU {x:Fl}:mG x=true↔eX x.1 x.2.1=true/\x.2.2.2.length<=60/\iJ x.2.1 x.2.2.2=some x.2.2.1:=by
 unfold mG dM;rw[Uf,Uf,Uf,decide_eq_true_eq,decide_eq_true_eq];constructor
 . rintro⟨⟨⟨h1,h2⟩,h3⟩,h4⟩;refine⟨h1,h2,?_⟩;unfold dS at h3 h4;rw[if_neg (by omega)]at h3 h4;split at h3
   . cases h3
   . rename_i m q;rw[q]at h4⊢;exact congrArg some h4
 . rintro⟨h1,h2,h3⟩;unfold dS;rw[if_neg (by omega),h3];exact⟨⟨⟨h1,h2⟩,rfl⟩,rfl⟩
theorem IX {x:Fl} (h:mG x=true) (j:Nat):iJ x.2.1 (x.2.2.2.take j)=some (AZ x j).2.2.1:=by
 obtain⟨h1,h2,h3⟩:=pU.1 h;obtain⟨k,hk⟩:=Cf _ j h3;rw[hk];unfold AZ dS;simp only;rw[if_neg (by rw[Ue];omega),hk]
theorem Rw {x:Fl} (h:mG x=true) (j:Nat):mG (AZ x j)=true:=by
 obtain⟨h1,h2,h3⟩:=pU.1 h;exact pU.2 ⟨h1,by show(x.2.2.2.take j).length<=60;rw[Ue];omega,IX h j⟩
theorem NQ {x:Fl} (h:mG x=true):AZ x x.2.2.2.length=x:=by
 obtain⟨h1,h2,h3⟩:=pU.1 h;have:=IX h x.2.2.2.length;rw[List.take_length,h3]at this;injection this with this;obtain⟨a,b,c,d⟩:=x;unfold AZ at this⊢;simp only[List.take_length]at this⊢;rw[<-this]
theorem Rx (x:Fl) {i j:Nat} (h:i<=j):AZ (AZ x j) i=AZ x i:=by
 unfold AZ;simp only[List.take_take];rw[Nat.min_eq_left h]
theorem Ph {x:Fl} {j:Nat} (h:j<=x.2.2.2.length):(AZ x j).2.2.2.length=j:=by
 unfold AZ;simp only[Ue];omega
theorem yY {x:Fl} (h:mG x=true):x.2.2.2.length<=60:=(pU.1 h).2.1
end Go.Proofs.YtjijonhkofhikaaGreatDoor
