import Derived.Test.YtjijonhkofhikaaGreatDoorFK2
import Derived.Test.YtjijonhkofhikaaGreatDoorFFmtW
open _root_.List renaming getElem?_toArray->Tm,getElem?_cons_succ->Tn,getElem?_cons_zero->Tp,getElem_mem->Tq,mem_of_mem_take->Tt,length_take->Tu
open _root_.Nat renaming zero_le->Tv,mul_one->Tw,add_zero->Tx
open _root_.ByteArray renaming size_append->Ty
open _root_.Go.Proofs.Tryz renaming func21->Tz,ntmps21->TA,results21->TB,func67->TC,ntmps67->TD,results67->TE
set_option linter.unusedVariables false
set_option linter.unusedSimpArgs false
set_option maxHeartbeats 4000000
set_option maxRecDepth 100000
namespace Go.Proofs.YtjijonhkofhikaaGreatDoor
open Go.ChangeShapes Go.WideShapes Go.ChangeAt Go.RowKit
theorem Ad {α:Type} {E:TypeId} {enc:α->List Value} (w:World) (x y:α) {u v:Value} (h:enc x=[u]) (h':enc y=[v]):aD E 1 enc w.heap.size (w.alloc (.cells #[u,v] E)) (.slice (some ⟨w.heap.size,0,none⟩) 2 2) [x,y]:=by
 have e:[x,y].flatMap enc=[u,v]:=(by simp[h,h']);unfold aD;rw[e];exact⟨by simp,.inr ⟨w.heap.size,2,#[u,v],rfl,Nat.le_refl _,heap_alloc_new w _,by simp,by simp[maxLen],by simp,by simp⟩⟩
def mF:ByteArray:=⟨#[102,108,105,112]⟩
def jB:ByteArray:=⟨#[98,114,101,97,107]⟩
def tJ:ByteArray:=⟨#[98,117,121]⟩
def nI:ByteArray:=⟨#[117,110,100,111]⟩
def kD:ByteArray:=⟨#[97,117,100,105,116]⟩
def sV (k a b:Int):ByteArray:=
 if k=1 then iA mF [a,b]else if k=2 then iA jB [a]else if k=3 then iA tJ [a]else if k=4 then nI else kD
def iZ (k a b:Int):ByteArray:=if jW k a b=true then sV k a b else ByteArray.empty
theorem mY {k a b:Int} (h:jW k a b=true):(k=1/\0<=a/\a<=7/\0<=b/\b<=7)∨(k=2/\0<=a/\a<=31/\b=0)∨(k=3/\1<=a/\a<=100/\b=0)∨(k=4/\a=0/\b=0)∨(k=5/\a=0/\b=0):=by
 unfold jW inB at h;by_cases h1:k=1
 . subst h1;simp at h;omega
 . by_cases h2:k=2
   . subst h2;simp at h;omega
   . by_cases h3:k=3
     . subst h3;simp at h;omega
     . simp[h1,h2,h3]at h;omega
theorem Jr (k a b:Int) (w:World) (ht:Tab w):Calls Tryz.prog 21 #[.agg #[.int .i64 k,.int .i64 a,.int .i64 b]] w (Ret (.tuple #[.string (iZ k a b),.bool (jW k a b)]) w):=by
 have hA:=(Below.refl w.heap.size w).al (.cells #[.int .i64 k,.int .i64 a,.int .i64 b] 54);have HT:=Tk ht;clear ht;rcases bA:jW k a b with _|_
 . have e : iZ k a b = ByteArray.empty := by unfold iZ; rw [bA]; rfl
   rw[e];have a8:=Tk bA;clear bA e;go_enter Tz,TA
   go_wp2_with fail
   refine(mR _ _ _ _).mono ?_;rintro e w1 ⟨rfl,hb1⟩;obtain⟨hc1,bB,hz1⟩:=bk hb1;(try simp at hz1)
   have a6:w.heap.size<w1.heap.size:=(by omega);rw[a8.out];go_wp2;refine bodyPost_ret (v:= .tuple #[.string (⟨#[]⟩:ByteArray),.bool false]) (by simp[results,TB,go_sem]) rfl ⟨rfl,hA.tr hb1⟩
 . have e : iZ k a b = sV k a b := by unfold iZ; rw [bA]; rfl
   rw[e];have a8:=Tk bA;have hx:=Blk.aX w 54 #[.int .i64 k,.int .i64 a,.int .i64 b];rcases mY bA with⟨rfl,h1,h2,h3,h4⟩|⟨rfl,h1,h2,rfl⟩|⟨rfl,h1,h2,rfl⟩|⟨rfl,rfl,rfl⟩|⟨rfl,rfl,rfl⟩
   . skip;go_enter Tz,TA
     go_wp2_with fail
     refine(mR _ _ _ _).mono ?_;rintro e w1 ⟨rfl,hb1⟩;obtain⟨hc1,bB,hz1⟩:=bk hb1;(try simp at hz1)
     have a6:w.heap.size<w1.heap.size:=(by omega);rw[a8.out];have hx1:=hx.below hb1 hx.lt;have q0:w1.cell? ⟨w.heap.size,0,none⟩=some (.int .i64 1):=hx1.cell 0;have q1:=hx1.cell 1;have q2:=hx1.cell 2;simp only[Tm,Tn,Tp]at q1 q2;have a7:=Ad (E:=3) (enc:=aW) w1 a b rfl rfl;have B1:=(hA.tr hb1).al (.cells ([a,b].map fun x=>Value.int .i64 x).toArray 3);go_wp2_with fail
     refine(rR mF _ [a,b] _ (a7.rd aM (by decide)) (by decide) (by simp) (Tk (by simp<;>omega)) (HT.out.below B1)).mono ?_;rintro e w2 ⟨rfl,hb2⟩;go_wp2;refine bodyPost_ret (v:= .tuple #[.string (iA mF [a,b]),.bool true]) (by simp[results,TB,go_sem]) rfl ⟨rfl,B1.tr hb2⟩
   . skip;go_enter Tz,TA
     go_wp2_with fail
     refine(mR _ _ _ _).mono ?_;rintro e w1 ⟨rfl,hb1⟩;obtain⟨hc1,bB,hz1⟩:=bk hb1;(try simp at hz1)
     have a6:w.heap.size<w1.heap.size:=(by omega);rw[a8.out];have hx1:=hx.below hb1 hx.lt;have q0:w1.cell? ⟨w.heap.size,0,none⟩=some (.int .i64 2):=hx1.cell 0;have q1:=hx1.cell 1;have q2:=hx1.cell 2;simp only[Tm,Tn,Tp]at q1 q2;have a7:=AJ (E:=3) (enc:=aW) w1 a rfl;have B1:=(hA.tr hb1).al (.cells ([a].map fun x=>Value.int .i64 x).toArray 3);go_wp2_with fail
     refine(rR jB _ [a] _ (a7.rd aM (by decide)) (by decide) (by simp) (Tk (by simp<;>omega)) (HT.out.below B1)).mono ?_;rintro e w2 ⟨rfl,hb2⟩;go_wp2;refine bodyPost_ret (v:= .tuple #[.string (iA jB [a]),.bool true]) (by simp[results,TB,go_sem]) rfl ⟨rfl,B1.tr hb2⟩
   . skip;go_enter Tz,TA
     go_wp2_with fail
     refine(mR _ _ _ _).mono ?_;rintro e w1 ⟨rfl,hb1⟩;obtain⟨hc1,bB,hz1⟩:=bk hb1;(try simp at hz1)
     have a6:w.heap.size<w1.heap.size:=(by omega);rw[a8.out];have hx1:=hx.below hb1 hx.lt;have q0:w1.cell? ⟨w.heap.size,0,none⟩=some (.int .i64 3):=hx1.cell 0;have q1:=hx1.cell 1;have q2:=hx1.cell 2;simp only[Tm,Tn,Tp]at q1 q2;have a7:=AJ (E:=3) (enc:=aW) w1 a rfl;have B1:=(hA.tr hb1).al (.cells ([a].map fun x=>Value.int .i64 x).toArray 3);go_wp2_with fail
     refine(rR tJ _ [a] _ (a7.rd aM (by decide)) (by decide) (by simp) (Tk (by simp<;>omega)) (HT.out.below B1)).mono ?_;rintro e w2 ⟨rfl,hb2⟩;go_wp2;refine bodyPost_ret (v:= .tuple #[.string (iA tJ [a]),.bool true]) (by simp[results,TB,go_sem]) rfl ⟨rfl,B1.tr hb2⟩
   . skip;go_enter Tz,TA
     go_wp2_with fail
     refine(mR _ _ _ _).mono ?_;rintro e w1 ⟨rfl,hb1⟩;obtain⟨hc1,bB,hz1⟩:=bk hb1;(try simp at hz1)
     have a6:w.heap.size<w1.heap.size:=(by omega);rw[a8.out];have hx1:=hx.below hb1 hx.lt;have q0:=hx1.cell 0;simp only[Tm,Tn,Tp]at q0;go_wp2;refine bodyPost_ret (v:= .tuple #[.string nI,.bool true]) (by simp[results,TB,go_sem,nI]) rfl ⟨rfl,hA.tr hb1⟩
   . skip;go_enter Tz,TA
     go_wp2_with fail
     refine(mR _ _ _ _).mono ?_;rintro e w1 ⟨rfl,hb1⟩;obtain⟨hc1,bB,hz1⟩:=bk hb1;(try simp at hz1)
     have a6:w.heap.size<w1.heap.size:=(by omega);rw[a8.out];have hx1:=hx.below hb1 hx.lt;have q0:=hx1.cell 0;simp only[Tm,Tn,Tp]at q0;go_wp2;refine bodyPost_ret (v:= .tuple #[.string kD,.bool true]) (by simp[results,TB,go_sem,kD]) rfl ⟨rfl,hA.tr hb1⟩
theorem yM {word:ByteArray} {l:List Int} {j:Nat} (h:j<l.length):iA word (l.take j)++(⟨#[32]⟩:ByteArray)++iJ l[j]=iA word (l.take (j+1)):=by
 unfold iA;rw[List.take_succ_eq_append_getElem h,List.foldl_append];rfl
theorem BC (k a b:Int) (w:World):Calls Tryz.prog 67 #[.agg #[.int .i64 k,.int .i64 a,.int .i64 b]] w (Ret (.tuple #[.string (iZ k a b),.bool (jW k a b)]) w):=by
 have hA:=(Below.refl w.heap.size w).al (.cells #[.int .i64 k,.int .i64 a,.int .i64 b] 54);rcases bE:jW k a b with _|_
 . have e : iZ k a b = ByteArray.empty := by unfold iZ; rw [bE]; rfl
   rw[e];have bD:=Tk bE;clear bE e;go_enter TC,TD
   go_wp2_with fail
   refine(mU _ _ _ _).mono ?_;rintro e w1 ⟨rfl,hb1⟩;obtain⟨hc1,bF,hz1⟩:=bk hb1;(try simp at hz1)
   have bB:w.heap.size<w1.heap.size:=(by omega);rw[bD.out];go_wp2;refine bodyPost_ret (v:= .tuple #[.string (⟨#[]⟩:ByteArray),.bool false]) (by simp[results,TE,go_sem]) rfl ⟨rfl,hA.tr hb1⟩
 . have e : iZ k a b = sV k a b := by unfold iZ; rw [bE]; rfl
   rw[e];have bD:=Tk bE;have hx:=Blk.aX w 54 #[.int .i64 k,.int .i64 a,.int .i64 b];rcases mY bE with⟨rfl,h1,h2,h3,h4⟩|⟨rfl,h1,h2,rfl⟩|⟨rfl,h1,h2,rfl⟩|⟨rfl,rfl,rfl⟩|⟨rfl,rfl,rfl⟩
   . skip;go_enter TC,TD
     go_wp2_with fail
     refine(mU _ _ _ _).mono ?_;rintro e w1 ⟨rfl,hb1⟩;obtain⟨hc1,bF,hz1⟩:=bk hb1;(try simp at hz1)
     have bB:w.heap.size<w1.heap.size:=(by omega);rw[bD.out];have hx1:=hx.below hb1 hx.lt;have q0:w1.cell? ⟨w.heap.size,0,none⟩=some (.int .i64 1):=hx1.cell 0;have q1:w1.cell? ⟨w.heap.size,1,none⟩=some (.int .i64 a):=hx1.cell 1;have q2:w1.cell? ⟨w.heap.size,2,none⟩=some (.int .i64 b):=hx1.cell 2;have hz1:=hx1.lt;have B1:=hA.tr hb1;obtain⟨xs,a6⟩:∃xs:List Int,xs=[a,b]:=⟨_,rfl⟩;have bL:xs.length=2:=by rw[a6];rfl
     have Hp:Hid (∀x∈xs,0<=x/\x<=100):=Tk (by rw[a6];simp<;>omega);have HE:Hid (iA mF (xs.take 2)=sV 1 a b):=Tk (by rw[a6];rfl);have a7:∀W:World,aD 3 1 aW W.heap.size (W.alloc (.cells #[.int .i64 a,.int .i64 b] 3)) (.slice (some ⟨W.heap.size,0,none⟩) 2 2) xs:=fun W=>by rw[a6];exact Ad W _ _ rfl rfl
     have a8 : ∀ o1 o2 : Obj, aD 3 1 aW w.heap.size (((w1.alloc o1).alloc o2).alloc (.cells #[.int .i64 a, .int .i64 b] 3)) (.slice (some ⟨w1.heap.size + 1 + 1, 0, none⟩) 2 2) xs := fun o1 o2 => by
      have h:=(a7 ((w1.alloc o1).alloc o2)).mono (B':=w.heap.size) (by simp;omega);simpa using h
     have bM:=Tk a6;clear a6 a7;go_wp2;go_loopw [4,7] (fun s4 s7 wr=>∃j:Nat,j<=2/\s7= .int .i64 j/\s4= .string (iA mF (xs.take j))/\aD 3 1 aW w.heap.size wr (.slice (some ⟨w1.heap.size+1+1,0,none⟩) 2 2) xs/\Below w.heap.size w wr) (fun _ i _=>2-(intOf i).toNat)
     case atStart=>exact⟨0,Tv _,rfl,rfl,a8 _ _,((B1.al _).al _).al _⟩
     case round=>
      obtain⟨j,hj,rfl,rfl,hown,bA⟩:=hrel;clear a8;by_cases hlt:j<2
      . have bJ : (j : Int) < 2 := by omega
        obtain⟨_,bN,bO⟩:=hown.at_;have bC:j<xs.length:=(by omega);have k1:=hown.slot aM (by decide) bC 0 (.int .i64 xs[j]) rfl;simp only[Tw,Tx]at k1;have hp:=Hp.out xs[j] (Tq bC);have hs1:=qR (xs.take j) mF (fun y hy=>⟨(Hp.out y (Tt hy)).1,by have:=(Hp.out y (Tt hy)).2;omega⟩);have hst:=yM (word:=mF) bC;rw[Tu]at hs1;obtain⟨x,hx⟩:=Ti (xs[j]);rw[<-hx]at k1 hp hst;obtain⟨S,hS⟩:=Ti (iA mF (xs.take j));rw[<-hS]at hs1 hst⊢;have hw0:(mF).size<=5:=(by decide);have bP:S.size<=60:=(by omega);have hnz:=tH hp.1 (show x<=9223372036854775807 by omega);have hS1:(S++(⟨#[32]⟩:ByteArray)).size=S.size+1:=by rw[Ty];rfl
        have HH:=Tk hp;have HX:=Tk hx;have bK:=Tk hst;have HS:=Tk hS;clear hp hst hS hx hs1;go_wp2_with fail
        refine(nN x _ HH.out.1 (by have:=HH.out.2;omega)).mono ?_;rintro e w2 ⟨rfl,hb2⟩;go_wp2;go_roundw
        case rel=>exact⟨j+1,by omega,by go_num,by rw[<-bK.out],hown.below hb2,bA.tr hb2⟩
        case measure=>simp[intOf];omega
      . obtain rfl : j = 2 := by omega
        go_wp2;refine bodyPost_ret (v:= .tuple #[.string (iA mF (xs.take 2)),.bool true]) (by simp[results,TE,go_sem]) rfl ⟨by rw[HE.out],bA⟩
   . skip;go_enter TC,TD
     go_wp2_with fail
     refine(mU _ _ _ _).mono ?_;rintro e w1 ⟨rfl,hb1⟩;obtain⟨hc1,bF,hz1⟩:=bk hb1;(try simp at hz1)
     have bB:w.heap.size<w1.heap.size:=(by omega);rw[bD.out];have hx1:=hx.below hb1 hx.lt;have q0:w1.cell? ⟨w.heap.size,0,none⟩=some (.int .i64 2):=hx1.cell 0;have q1:w1.cell? ⟨w.heap.size,1,none⟩=some (.int .i64 a):=hx1.cell 1;have q2:w1.cell? ⟨w.heap.size,2,none⟩=some (.int .i64 0):=hx1.cell 2;have hz1:=hx1.lt;have B1:=hA.tr hb1;obtain⟨xs,a6⟩:∃xs:List Int,xs=[a,0]:=⟨_,rfl⟩;have bL:xs.length=2:=by rw[a6];rfl
     have Hp:Hid (∀x∈xs,0<=x/\x<=100):=Tk (by rw[a6];simp<;>omega);have HE:Hid (iA jB (xs.take 1)=sV 2 a 0):=Tk (by rw[a6];rfl);have a7:∀W:World,aD 3 1 aW W.heap.size (W.alloc (.cells #[.int .i64 a,.int .i64 0] 3)) (.slice (some ⟨W.heap.size,0,none⟩) 2 2) xs:=fun W=>by rw[a6];exact Ad W _ _ rfl rfl
     have a8 : ∀ o1 o2 : Obj, aD 3 1 aW w.heap.size (((w1.alloc o1).alloc o2).alloc (.cells #[.int .i64 a, .int .i64 0] 3)) (.slice (some ⟨w1.heap.size + 1 + 1, 0, none⟩) 2 2) xs := fun o1 o2 => by
      have h:=(a7 ((w1.alloc o1).alloc o2)).mono (B':=w.heap.size) (by simp;omega);simpa using h
     have bM:=Tk a6;clear a6 a7;go_wp2;go_loopw [4,7] (fun s4 s7 wr=>∃j:Nat,j<=1/\s7= .int .i64 j/\s4= .string (iA jB (xs.take j))/\aD 3 1 aW w.heap.size wr (.slice (some ⟨w1.heap.size+1+1,0,none⟩) 2 2) xs/\Below w.heap.size w wr) (fun _ i _=>1-(intOf i).toNat)
     case atStart=>exact⟨0,Tv _,rfl,rfl,a8 _ _,((B1.al _).al _).al _⟩
     case round=>
      obtain⟨j,hj,rfl,rfl,hown,bA⟩:=hrel;clear a8;by_cases hlt:j<1
      . have bJ : (j : Int) < 1 := by omega
        obtain⟨_,bN,bO⟩:=hown.at_;have bC:j<xs.length:=(by omega);have k1:=hown.slot aM (by decide) bC 0 (.int .i64 xs[j]) rfl;simp only[Tw,Tx]at k1;have hp:=Hp.out xs[j] (Tq bC);have hs1:=qR (xs.take j) jB (fun y hy=>⟨(Hp.out y (Tt hy)).1,by have:=(Hp.out y (Tt hy)).2;omega⟩);have hst:=yM (word:=jB) bC;rw[Tu]at hs1;obtain⟨x,hx⟩:=Ti (xs[j]);rw[<-hx]at k1 hp hst;obtain⟨S,hS⟩:=Ti (iA jB (xs.take j));rw[<-hS]at hs1 hst⊢;have hw0:(jB).size<=5:=(by decide);have bP:S.size<=60:=(by omega);have hnz:=tH hp.1 (show x<=9223372036854775807 by omega);have hS1:(S++(⟨#[32]⟩:ByteArray)).size=S.size+1:=by rw[Ty];rfl
        have HH:=Tk hp;have HX:=Tk hx;have bK:=Tk hst;have HS:=Tk hS;clear hp hst hS hx hs1;go_wp2_with fail
        refine(nN x _ HH.out.1 (by have:=HH.out.2;omega)).mono ?_;rintro e w2 ⟨rfl,hb2⟩;go_wp2;go_roundw
        case rel=>exact⟨j+1,by omega,by go_num,by rw[<-bK.out],hown.below hb2,bA.tr hb2⟩
        case measure=>simp[intOf];omega
      . obtain rfl : j = 1 := by omega
        go_wp2;refine bodyPost_ret (v:= .tuple #[.string (iA jB (xs.take 1)),.bool true]) (by simp[results,TE,go_sem]) rfl ⟨by rw[HE.out],bA⟩
   . skip;go_enter TC,TD
     go_wp2_with fail
     refine(mU _ _ _ _).mono ?_;rintro e w1 ⟨rfl,hb1⟩;obtain⟨hc1,bF,hz1⟩:=bk hb1;(try simp at hz1)
     have bB:w.heap.size<w1.heap.size:=(by omega);rw[bD.out];have hx1:=hx.below hb1 hx.lt;have q0:w1.cell? ⟨w.heap.size,0,none⟩=some (.int .i64 3):=hx1.cell 0;have q1:w1.cell? ⟨w.heap.size,1,none⟩=some (.int .i64 a):=hx1.cell 1;have q2:w1.cell? ⟨w.heap.size,2,none⟩=some (.int .i64 0):=hx1.cell 2;have hz1:=hx1.lt;have B1:=hA.tr hb1;obtain⟨xs,a6⟩:∃xs:List Int,xs=[a,0]:=⟨_,rfl⟩;have bL:xs.length=2:=by rw[a6];rfl
     have Hp:Hid (∀x∈xs,0<=x/\x<=100):=Tk (by rw[a6];simp<;>omega);have HE:Hid (iA tJ (xs.take 1)=sV 3 a 0):=Tk (by rw[a6];rfl);have a7:∀W:World,aD 3 1 aW W.heap.size (W.alloc (.cells #[.int .i64 a,.int .i64 0] 3)) (.slice (some ⟨W.heap.size,0,none⟩) 2 2) xs:=fun W=>by rw[a6];exact Ad W _ _ rfl rfl
     have a8 : ∀ o1 o2 : Obj, aD 3 1 aW w.heap.size (((w1.alloc o1).alloc o2).alloc (.cells #[.int .i64 a, .int .i64 0] 3)) (.slice (some ⟨w1.heap.size + 1 + 1, 0, none⟩) 2 2) xs := fun o1 o2 => by
      have h:=(a7 ((w1.alloc o1).alloc o2)).mono (B':=w.heap.size) (by simp;omega);simpa using h
     have bM:=Tk a6;clear a6 a7;go_wp2;go_loopw [4,7] (fun s4 s7 wr=>∃j:Nat,j<=1/\s7= .int .i64 j/\s4= .string (iA tJ (xs.take j))/\aD 3 1 aW w.heap.size wr (.slice (some ⟨w1.heap.size+1+1,0,none⟩) 2 2) xs/\Below w.heap.size w wr) (fun _ i _=>1-(intOf i).toNat)
     case atStart=>exact⟨0,Tv _,rfl,rfl,a8 _ _,((B1.al _).al _).al _⟩
     case round=>
      obtain⟨j,hj,rfl,rfl,hown,bA⟩:=hrel;clear a8;by_cases hlt:j<1
      . have bJ : (j : Int) < 1 := by omega
        obtain⟨_,bN,bO⟩:=hown.at_;have bC:j<xs.length:=(by omega);have k1:=hown.slot aM (by decide) bC 0 (.int .i64 xs[j]) rfl;simp only[Tw,Tx]at k1;have hp:=Hp.out xs[j] (Tq bC);have hs1:=qR (xs.take j) tJ (fun y hy=>⟨(Hp.out y (Tt hy)).1,by have:=(Hp.out y (Tt hy)).2;omega⟩);have hst:=yM (word:=tJ) bC;rw[Tu]at hs1;obtain⟨x,hx⟩:=Ti (xs[j]);rw[<-hx]at k1 hp hst;obtain⟨S,hS⟩:=Ti (iA tJ (xs.take j));rw[<-hS]at hs1 hst⊢;have hw0:(tJ).size<=5:=(by decide);have bP:S.size<=60:=(by omega);have hnz:=tH hp.1 (show x<=9223372036854775807 by omega);have hS1:(S++(⟨#[32]⟩:ByteArray)).size=S.size+1:=by rw[Ty];rfl
        have HH:=Tk hp;have HX:=Tk hx;have bK:=Tk hst;have HS:=Tk hS;clear hp hst hS hx hs1;go_wp2_with fail
        refine(nN x _ HH.out.1 (by have:=HH.out.2;omega)).mono ?_;rintro e w2 ⟨rfl,hb2⟩;go_wp2;go_roundw
        case rel=>exact⟨j+1,by omega,by go_num,by rw[<-bK.out],hown.below hb2,bA.tr hb2⟩
        case measure=>simp[intOf];omega
      . obtain rfl : j = 1 := by omega
        go_wp2;refine bodyPost_ret (v:= .tuple #[.string (iA tJ (xs.take 1)),.bool true]) (by simp[results,TE,go_sem]) rfl ⟨by rw[HE.out],bA⟩
   . skip;go_enter TC,TD
     go_wp2_with fail
     refine(mU _ _ _ _).mono ?_;rintro e w1 ⟨rfl,hb1⟩;obtain⟨hc1,bF,hz1⟩:=bk hb1;(try simp at hz1)
     have bB:w.heap.size<w1.heap.size:=(by omega);rw[bD.out];have hx1:=hx.below hb1 hx.lt;have q0:w1.cell? ⟨w.heap.size,0,none⟩=some (.int .i64 4):=hx1.cell 0;have q1:w1.cell? ⟨w.heap.size,1,none⟩=some (.int .i64 0):=hx1.cell 1;have q2:w1.cell? ⟨w.heap.size,2,none⟩=some (.int .i64 0):=hx1.cell 2;have hz1:=hx1.lt;have B1:=hA.tr hb1;obtain⟨xs,a6⟩:∃xs:List Int,xs=[0,0]:=⟨_,rfl⟩;have bL:xs.length=2:=by rw[a6];rfl
     have Hp:Hid (∀x∈xs,0<=x/\x<=100):=Tk (by rw[a6];simp<;>omega);have HE:Hid (iA nI (xs.take 0)=sV 4 0 0):=Tk (by rw[a6];rfl);have a7:∀W:World,aD 3 1 aW W.heap.size (W.alloc (.cells #[.int .i64 0,.int .i64 0] 3)) (.slice (some ⟨W.heap.size,0,none⟩) 2 2) xs:=fun W=>by rw[a6];exact Ad W _ _ rfl rfl
     have a8 : ∀ o1 o2 : Obj, aD 3 1 aW w.heap.size (((w1.alloc o1).alloc o2).alloc (.cells #[.int .i64 0, .int .i64 0] 3)) (.slice (some ⟨w1.heap.size + 1 + 1, 0, none⟩) 2 2) xs := fun o1 o2 => by
      have h:=(a7 ((w1.alloc o1).alloc o2)).mono (B':=w.heap.size) (by simp;omega);simpa using h
     have bM:=Tk a6;clear a6 a7;go_wp2;go_loopw [4,7] (fun s4 s7 wr=>∃j:Nat,j<=0/\s7= .int .i64 j/\s4= .string (iA nI (xs.take j))/\aD 3 1 aW w.heap.size wr (.slice (some ⟨w1.heap.size+1+1,0,none⟩) 2 2) xs/\Below w.heap.size w wr) (fun _ i _=>0-(intOf i).toNat)
     case atStart=>exact⟨0,Tv _,rfl,rfl,a8 _ _,((B1.al _).al _).al _⟩
     case round=>
      obtain⟨j,hj,rfl,rfl,hown,bA⟩:=hrel;clear a8;obtain rfl:j=0:=by omega
      go_wp2;refine bodyPost_ret (v:= .tuple #[.string (iA nI (xs.take 0)),.bool true]) (by simp[results,TE,go_sem]) rfl ⟨by rw[HE.out],bA⟩
   . skip;go_enter TC,TD
     go_wp2_with fail
     refine(mU _ _ _ _).mono ?_;rintro e w1 ⟨rfl,hb1⟩;obtain⟨hc1,bF,hz1⟩:=bk hb1;(try simp at hz1)
     have bB:w.heap.size<w1.heap.size:=(by omega);rw[bD.out];have hx1:=hx.below hb1 hx.lt;have q0:w1.cell? ⟨w.heap.size,0,none⟩=some (.int .i64 5):=hx1.cell 0;have q1:w1.cell? ⟨w.heap.size,1,none⟩=some (.int .i64 0):=hx1.cell 1;have q2:w1.cell? ⟨w.heap.size,2,none⟩=some (.int .i64 0):=hx1.cell 2;have hz1:=hx1.lt;have B1:=hA.tr hb1;obtain⟨xs,a6⟩:∃xs:List Int,xs=[0,0]:=⟨_,rfl⟩;have bL:xs.length=2:=by rw[a6];rfl
     have Hp:Hid (∀x∈xs,0<=x/\x<=100):=Tk (by rw[a6];simp<;>omega);have HE:Hid (iA kD (xs.take 0)=sV 5 0 0):=Tk (by rw[a6];rfl);have a7:∀W:World,aD 3 1 aW W.heap.size (W.alloc (.cells #[.int .i64 0,.int .i64 0] 3)) (.slice (some ⟨W.heap.size,0,none⟩) 2 2) xs:=fun W=>by rw[a6];exact Ad W _ _ rfl rfl
     have a8 : ∀ o1 o2 : Obj, aD 3 1 aW w.heap.size (((w1.alloc o1).alloc o2).alloc (.cells #[.int .i64 0, .int .i64 0] 3)) (.slice (some ⟨w1.heap.size + 1 + 1, 0, none⟩) 2 2) xs := fun o1 o2 => by
      have h:=(a7 ((w1.alloc o1).alloc o2)).mono (B':=w.heap.size) (by simp;omega);simpa using h
     have bM:=Tk a6;clear a6 a7;go_wp2;go_loopw [4,7] (fun s4 s7 wr=>∃j:Nat,j<=0/\s7= .int .i64 j/\s4= .string (iA kD (xs.take j))/\aD 3 1 aW w.heap.size wr (.slice (some ⟨w1.heap.size+1+1,0,none⟩) 2 2) xs/\Below w.heap.size w wr) (fun _ i _=>0-(intOf i).toNat)
     case atStart=>exact⟨0,Tv _,rfl,rfl,a8 _ _,((B1.al _).al _).al _⟩
     case round=>
      obtain⟨j,hj,rfl,rfl,hown,bA⟩:=hrel;clear a8;obtain rfl:j=0:=by omega
      go_wp2;refine bodyPost_ret (v:= .tuple #[.string (iA kD (xs.take 0)),.bool true]) (by simp[results,TE,go_sem]) rfl ⟨by rw[HE.out],bA⟩
end Go.Proofs.YtjijonhkofhikaaGreatDoor
