import Derived.Test.YtjijonhkofhikaaGreatDoorFK1
import Derived.Deep.RegionLaw
open _root_.List renaming mem_cons_self->Tm,getElem?_eq_getElem->Tn,getD_eq_getElem?_getD->Tp,getElem_mem->Tq,length_append->Tt
open _root_.Nat renaming le_refl->Tu,zero_le->Tv,one_pos->Tw,mul_one->Tx,add_zero->Ty,testBit_lt_two_pow->Tz,lt_of_lt_of_le->TA,pow_le_pow_right->TB
open _root_.Bool renaming and_eq_true->TC
open _root_.Int renaming toNat_natCast->TD
open _root_.Option renaming getD_some->TE
open _root_.Go.IntWalk renaming i64_in->TF
open _root_.Go.Proofs.Tryz (prog func98 func223 ntmps223 func64 ntmps64 func172 ntmps172 func105 ntmps105 func109 ntmps109 func62 ntmps62 func104 ntmps104)
open _root_.Go.Proofs.Tryz renaming ntmps98->TG,func126->TH,ntmps126->TI,func99->TJ,ntmps99->TL,func127->TM,ntmps127->TN
set_option linter.unusedVariables false
set_option maxHeartbeats 4000000
set_option maxRecDepth 100000
namespace Go.Proofs.YtjijonhkofhikaaGreatDoor
open Go.ChangeShapes Go.WideShapes Go.ChangeAt Go.RowKit
def jT (out:List Int) (m:Int):List (Int×Int)->Int->Int
  |[],gZ=>gZ
  |b::r,gZ=>jT out m r (if gZ<0∨out.getD (m-b.1).toNat 0+b.2<gZ then out.getD (m-b.1).toNat 0+b.2 else gZ)
def iO (l:List (Int×Int)):Nat->List Int->List Int
  |0,out=>out
  |j+1,out=>iO l j (out++[jT out out.length l (-1)])
def least (l:List (Int×Int)) (n:Nat):List Int:=iO l n [0]
def uA (out:List Int):Prop:=∀(i:Nat) (p:Int),out[i]? =some p->-1<=p/\p<=1000*i
theorem Ni {out:List Int} (hp:uA out) (m:Nat) (hm:m=out.length) (a6:1<=m):∀(r:List (Int×Int)) (gZ:Int),(∀x∈r,jJ x)->-1<=gZ->gZ<=1000*m->-1<=jT out m r gZ/\jT out m r gZ<=1000*m:=by
 intro r;induction r with
 |nil=>intro gZ _ h1 h2;exact⟨h1,h2⟩
 |cons x r ih=>
  intro gZ hx h1 h2;unfold jT;have F:=hx x (Tm);unfold jJ at F;have hi:((m:Int)-x.1).toNat<out.length:=(by omega);have hq:=hp _ _ (Tn hi);rw[Tp,Tn hi,TE];have hb:(((m:Int)-x.1).toNat:Int)<=m-1:=(by omega);apply ih
  . exact fun y hy=>hx y (List.mem_cons_of_mem _ hy)
  . split<;>omega
  . split<;>omega
theorem uA.push {out:List Int} (hp:uA out) {p:Int} (h1: -1<=p) (h2:p<=1000*out.length):uA (out++[p]):=by
 intro i q h;by_cases hi:i<out.length
 . rw[List.getElem?_append_left hi]at h;exact hp i q h
 . have : i = out.length := by have := (List.getElem?_eq_some_iff.1 h).1; simp at this; omega
   subst this;simp at h;subst h;exact⟨h1,h2⟩
theorem uN:uA [0]:=by
 intro i q h;have:i=0:=by have:=(List.getElem?_eq_some_iff.1 h).1;simpa using this
 subst this;simp at h;subst h;omega
theorem Jn (l:List (Int×Int)):∀(j:Nat) (out:List Int),(iO l j out).length=out.length+j:=by
 intro j;induction j with
 |zero=>intro out;rfl
 |succ j ih=>intro out;rw[iO,ih];simp;omega
theorem gJ (l:List (Int×Int)) (n:Nat):(least l n).length=n+1:=by unfold least;rw[Jn];simp;omega
theorem Db (l:List (Int×Int)) (hl:∀x∈l,jJ x):∀(j:Nat) (out:List Int),1<=out.length->uA out->uA (iO l j out):=by
 intro j;induction j with
 |zero=>intro out _ h;exact h
 |succ j ih=>
  intro out h1 h;rw[iO];have b:=Ni h out.length rfl h1 l (-1) hl (by omega) (by omega);exact ih _ (by simp) (h.push b.1 b.2)
theorem FT {out:List Int} {m:Int} {l:List (Int×Int)} {k:Nat} {gZ R:Int} (H:Hid (jT out m (l.drop k) gZ=R)) (h:k<l.length):
 Hid (jT out m (l.drop (k+1)) (if gZ<0∨out.getD (m-l[k].1).toNat 0+l[k].2<gZ then out.getD (m-l[k].1).toNat 0+l[k].2 else gZ)=R):=by
 have:=H.out;rw[List.drop_eq_getElem_cons h,jT]at this;exact this
theorem Dn {out:List Int} {m:Int} {l:List (Int×Int)} {k:Nat} {gZ R:Int} (H:Hid (jT out m (l.drop k) gZ=R)) (h:l.length<=k):R=gZ:=by
 have:=H.out;rw[List.drop_of_length_le h,jT]at this;exact this.symm
theorem Dp (v:Value) (l:List (Int×Int)) (n:Nat) (w:World) (h:Rd 2 bT w v l) (bA:Hid (∀x∈l,jJ x)) (hn:n<=500) (bL:l.length<=1048576):
 Calls prog 154 #[v,.int .i64 n] w (fM 3 1 aW (least l n) w):=by
 obtain⟨A,c,rfl,hc,hm⟩:=h.form;go_enter Tryz.func154,Tryz.ntmps154
 go_wp2;go_loopw [5,6] (fun o i wr=>∃(out:List Int) (A':Option Addr) (c':Nat),1<=out.length/\out.length<=n+1/\i= .int .i64 out.length/\o= .slice A' out.length c'/\Hid (uA out)/\Hid (iO l (n+1-out.length) out=least l n)/\aD 3 1 aW w.heap.size wr (.slice A' out.length c') out/\Below w.heap.size w wr) (fun _ i _=>n+1-(intOf i).toNat)
 case atStart=>exact⟨[0],_,_,by decide,by simp,rfl,rfl,Tk uN,Tk rfl,World.ownsRow_lit w #[.int .i64 0] 1 (Tu _) (by simp[maxLen]) rfl,(Below.refl _ _).al _⟩
 case round=>
  obtain⟨out,A',c',bM,bN,rfl,rfl,Hp,Hg,hown,a6⟩:=hrel;by_cases hlt:out.length<=n
  . have bF : (out.length : Int) <= n := by omega
    go_wp2;obtain⟨wo,rfl⟩:∃wo:World,wo=wr:=⟨_,rfl⟩;go_loopw [7,19] (fun q i wi=>∃(k:Nat) (gZ:Int),k<=l.length/\i= .int .i64 k/\q= .int .i64 gZ/\-1<=gZ/\gZ<=1000*out.length/\Hid (jT out out.length (l.drop k) gZ=jT out out.length l (-1))/\aD 3 1 aW w.heap.size wi (.slice A' out.length c') out/\Below w.heap.size w wi) (fun _ i _=>l.length-(intOf i).toNat)
    case atStart=>exact⟨0,-1,Tv _,rfl,rfl,by omega,by omega,Tk rfl,hown,a6⟩
    case round=>
     obtain⟨k,gZ,hk,rfl,rfl,hb1,hb2,Hb,hown,a6⟩:=hrel;by_cases bB:k<l.length
     . obtain⟨b,off,rfl,hb,h1,h2⟩:=(h.Tj a6).iR bB;have F:=bA.out l[k] (Tq bB);have F1:=F.1;have F2:=F.2.1;have F3:=F.2.2.1;have F4:=F.2.2.2;clear F;obtain⟨s,hs⟩:=Ti (l[k].1);obtain⟨p,hp⟩:=Ti (l[k].2);rw[<-hs]at h1 F1 F2;rw[<-hp]at h2 F3 F4;obtain⟨i,hi⟩:∃i:Nat,i=((out.length:Int)-s).toNat:=⟨_,rfl⟩;have a8:i<out.length:=(by omega);obtain⟨q,hq⟩:=Ti (out[i]);have bC:=Hp.out i q (by rw[hq];exact Tn a8);have bO: -1<=q:=bC.1;have bP:q+1000<=1000*out.length:=by have:=bC.2;omega
       obtain⟨g,hA,hB,bR⟩:=hown.split a8;have hs1:=hown.alloc (.cells #[.int .i64 s,.int .i64 p] 134);subst hA;have hcell:=hs1.slot aM Tw a8 0 _ rfl;rw[Tx,Ty,<-hq]at hcell;have bD:max ((out.length:Int)-s) 0=(i:Int):=(by omega);have hG:=FT Hb bB;rw[<-hs,<-hp,<-hi,Tp,Tn a8,TE,<-hq]at hG;have Hs:=Tk hs;have bS:=Tk hp;have Hi:=Tk hi;have Hq:=Tk hq;clear hs hp hi hq bC hs1
       have e2:(if IntKind.i64.wrap ((out.length:Int)-s)<0 then(0:Int)else IntKind.i64.wrap ((out.length:Int)-s))=(i:Int):=by
        rw[TF _ (by omega)];have:=Hi.out;split<;>omega
       have e3:IntKind.i64.wrap (q+p)=q+p:=TF _ (by omega);have bJ:(i:Int)<out.length:=(by omega);clear bD;go_wp2_with fail
       go_quiet (fail)
       clear e2 e3;go_wp2
       all_goals
         go_roundw
         case rel=>exact⟨k+1,_,by omega,by go_num,rfl,by omega,by omega,by first|(rw[if_pos (by omega)]at hG;exact hG)|(rw[if_neg (by omega)]at hG;exact hG),(hown.alloc _).drewN _,below_drewN (a6.al _) _⟩
         case measure=>simp[intOf];omega
     . have bE := Dn Hb (by omega)
       have HG:Hid (iO l (n+1-(out++[gZ]).length) (out++[gZ])=least l n):=by
        have:=Hg.out;rw[show n+1-out.length=(n+1-(out++[gZ]).length)+1 by simp;omega,iO,bE]at this;exact this
       clear bE Hb;go_wp2_with (at_builtin;go_must (refine aF (enc:=aW) fP aM jS a6 hown gZ (by omega) (by unfold maxLen;omega) rfl _ _ rfl rfl rfl ?_);intro v1 w1 a7 bK hg1 bU;obtain⟨A1,c1,rfl,hc1,bX⟩:=a7.form)
       go_roundw
       case rel=>exact⟨out++[gZ],A1,c1,by simp,by simp;omega,by simp,by simp,Tk (Hp.out.push hb1 hb2),HG,a7,bK⟩
       case measure=>simp[intOf];omega
  . go_wp2;go_ret;have e:n+1-out.length=0:=(by omega);have G:=Hg.out;rw[e,iO]at G;rw[<-G];exact⟨_,_,rfl,hown,a6⟩
theorem Dq (v:Value) (l:List (Int×Int)) (n:Nat) (w:World) (h:Rd 2 bT w v l) (bD:Hid (∀x∈l,jJ x)) (hn:n<=500) (b9:l.length<=1048576):
 Calls prog 179 #[v,.int .i64 n] w (fM 3 1 aW (least l n) w):=by
 obtain⟨A,c,rfl,hc,hm⟩:=h.form;go_enter Tryz.func179,Tryz.ntmps179
 have bN:8*(n+1)<=281474976710656:=(by omega);have bO:n+1<=maxLen:=by unfold maxLen;omega
 have hL:(n:Int)+1=((n+1:Nat):Int):=(by omega);have bR:=Tk bN;have bS:=Tk bO;have HL:=Tk hL;clear bN bO hL;go_wp2_with (at_make;go_must (refine mQ (enc:=aW) (z0:=(0:Int)) fP rfl (Below.refl _ w) (n+1) bR.out bS.out _ HL.out rfl _ _ rfl rfl rfl ?_);intro w1 hown1 hb1 hg1)
 go_loopw [6] (fun i wr=>∃(x:Nat) (arr:List Int),1<=x/\x<=n+1/\i= .int .i64 x/\arr.length=n+1/\Hid (uA (arr.take x))/\Hid (iO l (n+1-x) (arr.take x)=least l n)/\aD 3 1 aW w.heap.size wr (.slice (some ⟨w.heap.size,0,none⟩) (n+1) (n+1)) arr/\Below w.heap.size w wr) (fun i _=>n+1-(intOf i).toNat)
 case atStart=>exact⟨1,List.replicate (n+1) 0,by decide,by omega,rfl,by simp,Tk (by simpa using uN),Tk (by simp[least]),hown1,hb1⟩
 case round=>
  obtain⟨x,arr,hx1,hx2,rfl,bC,Hp,Hg,hown,a6⟩:=hrel;have a7:=Tk bC;clear bC hown1 hb1 hg1;by_cases hlt:x<=n
  . have bU : (x : Int) <= n := by omega
    obtain⟨u,hs1⟩:=hown.Cv aM (k:=x) (by rw[a7.out];omega);have bX:=hown.free;go_wp2;obtain⟨wo,rfl⟩:∃wo:World,wo=wr:=⟨_,rfl⟩;have a8:=hown.kI aM (k:=x) (y:= -1) (by rw[a7.out];omega) rfl;have bA:=a6.st ⟨w.heap.size,x,none⟩ (.int .i64 (-1)) (Tu _);go_loopw [7] (fun i wi=>∃(k:Nat) (gZ:Int),k<=l.length/\i= .int .i64 k/\-1<=gZ/\gZ<=1000*x/\Hid (jT (arr.take x) x (l.drop k) gZ=jT (arr.take x) x l (-1))/\aD 3 1 aW w.heap.size wi (.slice (some ⟨w.heap.size,0,none⟩) (n+1) (n+1)) (arr.set x gZ)/\Below w.heap.size w wi) (fun i _=>l.length-(intOf i).toNat)
    case atStart=>exact⟨0,-1,Tv _,rfl,by omega,by omega,Tk rfl,a8,bA⟩
    case round=>
     clear hown a6 hs1 bX a8 bA;obtain⟨k,gZ,hk,rfl,hb1,hb2,Hb,hown,a6⟩:=hrel;have bC:(arr.set x gZ).length=n+1:=by rw[List.length_set];exact a7.out
     by_cases bE:k<l.length
     . obtain⟨b,off,rfl,hb,h1,h2⟩:=(h.Tj a6).iR bE;have F:=bD.out l[k] (Tq bE);have F1:=F.1;have F2:=F.2.1;have F3:=F.2.2.1;have F4:=F.2.2.2;clear F;obtain⟨s,hs⟩:=Ti (l[k].1);obtain⟨p,hp⟩:=Ti (l[k].2);rw[<-hs]at h1 F1 F2;rw[<-hp]at h2 F3 F4;obtain⟨i,hi⟩:∃i:Nat,i=((x:Int)-s).toNat:=⟨_,rfl⟩;have bY:i<x:=(by omega);have b5:i<arr.length:=by rw[a7.out];omega
       obtain⟨q,hq⟩:=Ti (arr[i]);have bF:(arr.take x)[i]? =some q:=by rw[List.getElem?_take_of_lt bY,hq];exact Tn b5
       have bJ:=Hp.out i q bF;have cA: -1<=q:=bJ.1;have cB:q+1000<=1000*x:=by have:=bJ.2;omega
       have hcell:=hown.slot aM Tw (k:=i) (by omega) 0 (.int .i64 q) (by rw[List.getElem_set_ne (by omega),<-hq];rfl);have bB:=hown.slot aM Tw (k:=x) (by omega) 0 (.int .i64 gZ) (by rw[List.getElem_set_self];rfl);have cC:=hown.free;rw[Tx,Ty]at hcell bB;have hG:=FT Hb bE;rw[<-hs,<-hp,<-hi,Tp,bF,TE,Int.add_comm q p]at hG;have Hs:=Tk hs;have cD:=Tk hp;have Hi:=Tk hi;have Hq:=Tk hq;have b6:=Tk bC;clear hs hp hi hq bJ bF bC
       have e2:(if(0:Int)<IntKind.i64.wrap ((x:Int)-s)then IntKind.i64.wrap ((x:Int)-s)else(0:Int))=(i:Int):=by
        rw[TF _ (by omega)];have:=Hi.out;split<;>omega
       have b7:(if IntKind.i64.wrap ((x:Int)-s)<(0:Int)then(0:Int)else IntKind.i64.wrap ((x:Int)-s))=(i:Int):=by
        rw[TF _ (by omega)];have:=Hi.out;split<;>omega
       have bK:(if IntKind.i64.wrap ((x:Int)-s)<=(0:Int)then(0:Int)else IntKind.i64.wrap ((x:Int)-s))=(i:Int):=by
        rw[TF _ (by omega)];have:=Hi.out;split<;>omega
       have e3:IntKind.i64.wrap (p+q)=p+q:=TF _ (by omega);have b8:(i:Int)<n+1:=(by omega);go_wp2_with fail
       go_quiet (fail)
       clear e2 b7 bK e3;go_wp2
       all_goals
         go_roundw
         case rel=>
          first
          |exact⟨k+1,p+q,by omega,by go_num,by omega,by omega,by rw[if_pos (by omega)]at hG;exact hG,(hown.drewN _).QU aM (by rw[a7.out];omega) rfl,Below.st (below_drewN a6 _) _ _ (Tu _)⟩
          |exact⟨k+1,gZ,by omega,by go_num,by omega,by omega,by rw[if_neg (by omega)]at hG;exact hG,hown.drewN _,below_drewN a6 _⟩
         case measure=>simp[intOf];omega
     . have bP := Dn Hb (by omega);have bL:x<arr.length:=by rw[a7.out];omega
       have bM:(arr.take x).length=x:=by rw[List.length_take];omega
       have HG:Hid (iO l (n+1-(x+1)) ((arr.set x gZ).take (x+1))=least l n):=by
        have:=Hg.out;rw[show n+1-x=(n+1-(x+1))+1 by omega,iO,bM,bP,<-take_set _ bL]at this;exact this
       have HP:Hid (uA ((arr.set x gZ).take (x+1))):=Tk (by rw[take_set _ bL];exact Hp.out.push hb1 (by rw[bM];exact hb2));clear bP Hb bL bM;go_wp2;go_roundw
       case rel=>exact⟨x+1,arr.set x gZ,by omega,by omega,by go_num,bC,HP,HG,hown,a6⟩
       case measure=>simp[intOf];omega
  . go_wp2;go_ret;have G:=Hg.out;rw[show n+1-x=0 by omega,iO,List.take_of_length_le (by rw[a7.out];omega)]at G;rw[<-G];have e:arr.length=n+1:=a7.out;rw[<-e]at hown⊢;exact⟨_,_,rfl,hown,a6⟩
def cheapest (l:List (Int×Int)) (n:Int):Int:=if dV l l.length&&inB n 0 500 then(least l n.toNat).getD n.toNat 0 else-1
theorem pM {l : List (Int × Int)} (h : dV l l.length = true) {n : Nat} (hn : n <= 500) : cheapest l n = (least l n)[n]'(by rw [gJ]; omega) := by
 have hi:inB (n:Int) 0 500=true:=by simp[inB];omega
 unfold cheapest;rw[h,hi,if_pos (by rfl),TD,Tp,Tn (by rw[gJ];omega)];rfl
theorem yH (v:Value) (l:List (Int×Int)) (n:Int) (w:World) (h:Rd 2 bT w v l):Calls prog 98 #[v,.int .i64 n] w (Ret (.int .i64 (cheapest l n)) w):=by
 rcases a6:dV l l.length with _|_
 . have hr : cheapest l n = -1 := by unfold cheapest; rw [a6]; rfl
   rw[hr];go_enter func98,TG
   go_wp2_with fail
   refine(kM _ l _ h).mono ?_;rintro e w1 ⟨rfl,hb1⟩;rw[a6];go_wp2;go_ret;exact⟨rfl,hb1⟩
 . rcases a8:inB n 0 500 with _|_
   . have hr : cheapest l n = -1 := by unfold cheapest; rw [a6, a8]; rfl
     rw[hr];go_enter func98,TG
     go_wp2_with fail
     refine(kM _ l _ h).mono ?_;rintro e w1 ⟨rfl,hb1⟩;rw[a6];go_wp2_with fail
     refine(dI _ _ _ _).mono ?_;rintro e w2 ⟨rfl,rfl⟩;rw[a8];go_wp2;go_ret;exact⟨rfl,hb1⟩
   . obtain⟨hall,h1,h5⟩:=lD _ _ a6;have bC:0<=n/\n<=500:=(by simpa[inB]using a8);obtain⟨n,rfl⟩:=Int.eq_ofNat_of_zero_le bC.1;have hn:n<=500:=(by omega);have bD:l.length<=1048576:=(by omega);have bB:n<(least l n).length:=by rw[gJ];omega
     have bE:(n:Int)<(least l n).length:=(by omega);obtain⟨r,hr⟩:=Ti ((least l n)[n]);have hc:cheapest l n=r:=(by rw[pM a6 hn,hr]);rw[hc];have Hr:=Tk hr;have bA:=Tk hall;clear hc hr hall;go_enter func98,TG
     go_wp2_with fail
     refine(kM _ l _ h).mono ?_;rintro e w1 ⟨rfl,hb1⟩;rw[a6];go_wp2_with fail
     refine(dI _ _ _ _).mono ?_;rintro e w2 ⟨rfl,rfl⟩;rw[a8];go_wp2_with fail
     refine(Dp _ l n _ (h.Tj hb1) bA hn bD).mono ?_;rintro e w3 ⟨A3,c3,rfl,a7,hb3⟩;obtain⟨g,rfl,hB,hg⟩:=a7.split bB;have hcell:=a7.slot aM Tw bB 0 (.int .i64 r) (by rw[Hr.out];rfl);rw[Tx,Ty]at hcell;go_wp2;go_ret;exact⟨rfl,Below.tr (hb1) hb3⟩
theorem yI (v:Value) (l:List (Int×Int)) (n:Int) (w:World) (h:Rd 2 bT w v l):Calls prog 126 #[v,.int .i64 n] w (Ret (.int .i64 (cheapest l n)) w):=by
 rcases a6:dV l l.length with _|_
 . have hr : cheapest l n = -1 := by unfold cheapest; rw [a6]; rfl
   rw[hr];go_enter TH,TI
   go_wp2_with fail
   refine(lT _ l _ h).mono ?_;rintro e w1 ⟨rfl,rfl⟩;rw[a6];go_wp2;go_ret;exact⟨rfl,Below.refl _ _⟩
 . rcases a8:inB n 0 500 with _|_
   . have hr : cheapest l n = -1 := by unfold cheapest; rw [a6, a8]; rfl
     rw[hr];go_enter TH,TI
     go_wp2_with fail
     refine(lT _ l _ h).mono ?_;rintro e w1 ⟨rfl,rfl⟩;rw[a6];go_wp2_with fail
     refine(iY _ _ _ _).mono ?_;rintro e w2 ⟨rfl,rfl⟩;rw[a8];go_wp2;go_ret;exact⟨rfl,Below.refl _ _⟩
   . obtain⟨hall,h1,h5⟩:=lD _ _ a6;have bC:0<=n/\n<=500:=(by simpa[inB]using a8);obtain⟨n,rfl⟩:=Int.eq_ofNat_of_zero_le bC.1;have hn:n<=500:=(by omega);have bD:l.length<=1048576:=(by omega);have bB:n<(least l n).length:=by rw[gJ];omega
     have bE:(n:Int)<(least l n).length:=(by omega);obtain⟨r,hr⟩:=Ti ((least l n)[n]);have hc:cheapest l n=r:=(by rw[pM a6 hn,hr]);rw[hc];have Hr:=Tk hr;have bA:=Tk hall;clear hc hr hall;go_enter TH,TI
     go_wp2_with fail
     refine(lT _ l _ h).mono ?_;rintro e w1 ⟨rfl,rfl⟩;rw[a6];go_wp2_with fail
     refine(iY _ _ _ _).mono ?_;rintro e w2 ⟨rfl,rfl⟩;rw[a8];go_wp2_with fail
     refine(Dq _ l n _ h bA hn bD).mono ?_;rintro e w3 ⟨A3,c3,rfl,a7,hb3⟩;obtain⟨g,rfl,hB,hg⟩:=a7.split bB;have hcell:=a7.slot aM Tw bB 0 (.int .i64 r) (by rw[Hr.out];rfl);rw[Tx,Ty]at hcell;go_wp2;go_ret;exact⟨rfl,Below.tr (Below.refl _ _) hb3⟩
def allIn (a b:Int):List Int->Bool
  |[]=>true
  |n::r=>inB n a b&&allIn a b r
theorem ES {a b:Int} {l:List Int} {k:Nat} {r:Bool} (H:Hid (allIn a b (l.drop k)=r)) (h:k<l.length) (e:inB l[k] a b=true):Hid (allIn a b (l.drop (k+1))=r):=by
 have:=H.out;rw[List.drop_eq_getElem_cons h,allIn,e,Bool.true_and]at this;exact this
theorem ET {a b:Int} {l:List Int} {k:Nat} {r:Bool} (H:Hid (allIn a b (l.drop k)=r)) (h:k<l.length) (e:inB l[k] a b=false):r=false:=by
 have:=H.out;rw[List.drop_eq_getElem_cons h,allIn,e,Bool.false_and]at this;exact this.symm
theorem Bc {a b:Int} {l:List Int} {k:Nat} {r:Bool} (H:Hid (allIn a b (l.drop k)=r)) (h:l.length<=k):r=true:=by
 have:=H.out;rw[List.drop_of_length_le h,allIn]at this;exact this.symm
theorem FU {a b:Int} {l:List Int}:allIn a b l=true↔∀x∈l,a<=x/\x<=b:=by
 induction l with
 |nil=>simp[allIn]
 |cons x r ih=>simp[allIn,ih,inB]
theorem nU (v:Value) (l:List Int) (a b:Int) (w:World) (h:Rd 1 aZ w v l):
 Calls prog 51 #[v,.int .i64 a,.int .i64 b] w (Pure (.bool (allIn a b l)) w):=by
 obtain⟨A,c,rfl,hc,hm⟩:=h.form;go_enter Tryz.func51,Tryz.ntmps51
 go_wp2;go_loop [11] (fun i=>∃k:Nat,k<=l.length/\i= .int .i64 k/\Hid (allIn a b (l.drop k)=allIn a b l)) (fun i=>l.length-(intOf i).toNat)
 case atStart=>exact⟨0,Tv _,rfl,Tk rfl⟩
 case round=>
  obtain⟨k,hk,rfl,Hg⟩:=hrel;by_cases hlt:k<l.length
  . obtain⟨b,off,rfl,hb,h1⟩:=h.uX hlt;go_wp2_with (go_at_call 46;(with_reducible refine(dI _ _ _ _).mono ?_);rintro e w' ⟨rfl,rfl⟩)
    all_goals first
      | (go_round
         case rel=>exact⟨k+1,by omega,by go_num,ES Hg hlt (by rename_i hx;simpa using hx)⟩
         case measure=>simp[intOf];omega)
      | (go_ret
         exact⟨lJ (ET Hg hlt (by rename_i hx;simpa using hx)).symm,rfl⟩)
  . go_wp2;go_ret;exact⟨lJ (Bc Hg (by omega)).symm,rfl⟩
def Mc (l:List (Int×Int)) (c:List Int) (k:Nat):Int:=((List.range k).map fun i=>c.getD i 0*(l.getD i (0,0)).1).sum
def Md (l:List (Int×Int)) (c:List Int) (k:Nat):Int:=((List.range k).map fun i=>c.getD i 0*(l.getD i (0,0)).2).sum
theorem Nj (l:List (Int×Int)) (c:List Int) (k:Nat) (h:k<l.length) (h':k<c.length):Mc l c (k+1)=Mc l c k+c[k]*l[k].1:=by
 simp[Mc,List.range_succ,Tp,Tn h,Tn h']
theorem Nk (l:List (Int×Int)) (c:List Int) (k:Nat) (h:k<l.length) (h':k<c.length):Md l c (k+1)=Md l c k+c[k]*l[k].2:=by
 simp[Md,List.range_succ,Tp,Tn h,Tn h']
theorem uB {a b m:Int} (ha:0<=a) (ha':a<=500) (hb:1<=b) (hb':b<=m):0<=a*b/\a*b<=500*m:=by
 refine⟨Int.mul_nonneg ha (by omega),?_⟩;exact Int.mul_le_mul ha' hb' (by omega) (by omega)
def hold (l:List (Int×Int)) (c:List Int):Int×Int:=if dV l l.length&&(c.length==l.length)&&allIn 0 500 c then(Mc l c l.length,Md l c l.length)else(0,0)
def QV (l:List (Int×Int)) (c:List Int) (k:Nat) (t p:Int):Prop:=t=Mc l c k/\p=Md l c k/\0<=t/\t<=25000*k/\0<=p/\p<=500000*k
theorem QV.step {l:List (Int×Int)} {c:List Int} {k:Nat} {t p:Int} (H:QV l c k t p) (h:k<l.length) (h':k<c.length) (hc:0<=c[k]/\c[k]<=500) (hx:jJ l[k]):QV l c (k+1) (t+c[k]*l[k].1) (p+c[k]*l[k].2):=by
 obtain⟨h1,h2,h3,h4,h5,h6⟩:=H;obtain⟨x1,x2,x3,x4⟩:=hx;have m1:=uB hc.1 hc.2 x1 x2;have m2:=uB hc.1 hc.2 x3 x4;refine⟨by rw[Nj l c k h h',h1],by rw[Nk l c k h h',h2],?_,?_,?_,?_⟩<;>omega
theorem Nl (u v:Value) (l:List (Int×Int)) (cs:List Int) (w:World) (h:Rd 2 bT w u l) (hv:Rd 1 aZ w v cs) (bB:dV l l.length=true) (hlen:cs.length=l.length) (bC:allIn 0 500 cs=true):
 Calls prog 99 #[u,v] w (Ret (.tuple #[.int .i64 (Mc l cs l.length),.int .i64 (Md l cs l.length)]) w):=by
 obtain⟨A,c,rfl,hc,hm⟩:=h.form;obtain⟨A',c',rfl,hc',bK⟩:=hv.form;obtain⟨hall,h1,h5⟩:=lD _ _ bB;have hne:((cs.length:Int) !=(l.length:Int))=false:=(by simp[hlen]);have bD:=FU.1 bC;have a8:=Tk hall;have bA:=Tk hlen;have bE:=Tk bD;clear hall hlen bD;go_enter TJ,TL
 go_wp2_with fail
 refine(kM _ l _ h).mono ?_;rintro e w1 ⟨rfl,hb1⟩;rw[bB];go_wp2_with fail
 refine(nU _ cs _ _ _ (hv.Tj hb1)).mono ?_;rintro e w2 ⟨rfl,rfl⟩;rw[bC];go_wp2;go_loopw [6,7,27] (fun a b i wr=>∃(k:Nat) (t p:Int),k<=l.length/\i= .int .i64 k/\a= .int .i64 t/\b= .int .i64 p/\Hid (QV l cs k t p)/\Below w.heap.size w wr) (fun _ _ i _=>l.length-(intOf i).toNat)
 case atStart=>exact⟨0,0,0,Tv _,rfl,rfl,rfl,Tk ⟨rfl,rfl,by omega,by omega,by omega,by omega⟩,hb1⟩
 case round=>
  obtain⟨k,t,p,hk,rfl,rfl,rfl,Hs,a6⟩:=hrel;clear hb1;by_cases hlt:k<l.length
  . have a7 : k < cs.length := by have := bA.out; omega
    obtain⟨b,off,rfl,hb,q1,q2⟩:=(h.Tj a6).iR hlt;obtain⟨b',bF,rfl,hb',q3⟩:=(hv.Tj a6).uX a7;have C:=bE.out cs[k] (Tq a7);have F:=a8.out l[k] (Tq hlt);have HS:=Tk (Hs.out.step hlt a7 C F);obtain⟨s1,s2,s3,s4,s5,s6⟩:=Hs.out;have m1:=uB C.1 C.2 F.1 F.2.1;have m2:=uB C.1 C.2 F.2.2.1 F.2.2.2;have e1:IntKind.i64.wrap (cs[k]*l[k].1)=cs[k]*l[k].1:=TF _ (by omega);have e2:IntKind.i64.wrap (cs[k]*l[k].2)=cs[k]*l[k].2:=TF _ (by omega);have e3:IntKind.i64.wrap (t+cs[k]*l[k].1)=t+cs[k]*l[k].1:=TF _ (by omega);have e4:IntKind.i64.wrap (p+cs[k]*l[k].2)=p+cs[k]*l[k].2:=TF _ (by omega);have bJ:(k:Int)<cs.length:=(by omega);clear s1 s2 C F;go_wp2_with fail
    go_quiet (fail)
    go_wp2_with fail
    go_quiet (fail)
    clear e1 e2 e3 e4;go_wp2;go_roundw
    case rel=>exact⟨k+1,_,_,by omega,by go_num,rfl,rfl,HS,below_drewN (a6.al _) _⟩
    case measure=>simp[intOf];omega
  . go_wp2;go_ret2
    obtain rfl:k=l.length:=by omega
    obtain⟨s1,s2,_⟩:=Hs.out;exact⟨S9 s1 s2,a6⟩
theorem OO (u v:Value) (l:List (Int×Int)) (cs:List Int) (w:World) (h:Rd 2 bT w u l) (hv:Rd 1 aZ w v cs) (hno:(dV l l.length&&(cs.length==l.length)&&allIn 0 500 cs)=false):
 Calls prog 99 #[u,v] w (Ret (.tuple #[.int .i64 0,.int .i64 0]) w):=by
 obtain⟨A,c,rfl,hc,hm⟩:=h.form;obtain⟨A',c',rfl,hc',bA⟩:=hv.form;rcases a6:dV l l.length with _|_
 . go_enter TJ,TL
   go_wp2_with fail
   refine(kM _ l _ h).mono ?_;rintro e w1 ⟨rfl,hb1⟩;rw[a6];go_wp2;go_ret2
   exact⟨rfl,hb1⟩
 . by_cases hlen:cs.length=l.length
   . have hne : ((cs.length : Int) != (l.length : Int)) = false := by simp [hlen]
     have a7:allIn 0 500 cs=false:=(by simpa[a6,hlen]using hno);have a8:=Tk hlen;clear hlen hno;go_enter TJ,TL
     go_wp2_with fail
     refine(kM _ l _ h).mono ?_;rintro e w1 ⟨rfl,hb1⟩;rw[a6];go_wp2_with fail
     refine(nU _ cs _ _ _ (hv.Tj hb1)).mono ?_;rintro e w2 ⟨rfl,rfl⟩;rw[a7];go_wp2;go_ret2
     exact⟨rfl,hb1⟩
   . have hne : ((cs.length : Int) != (l.length : Int)) = true := by simp; omega
     clear hno;go_enter TJ,TL
     go_wp2_with fail
     refine(kM _ l _ h).mono ?_;rintro e w1 ⟨rfl,hb1⟩;rw[a6];go_wp2;go_ret2
     exact⟨rfl,hb1⟩
theorem Nn (u v:Value) (l:List (Int×Int)) (cs:List Int) (w:World) (h:Rd 2 bT w u l) (hv:Rd 1 aZ w v cs):
 Calls prog 99 #[u,v] w (Ret (.tuple #[.int .i64 (hold l cs).1,.int .i64 (hold l cs).2]) w):=by
 rcases hc:(dV l l.length&&(cs.length==l.length)&&allIn 0 500 cs)with _|_
 . have e : hold l cs = (0, 0) := by unfold hold; rw [hc]; rfl
   rw[e];exact OO u v l cs w h hv hc
 . have e : hold l cs = (Mc l cs l.length, Md l cs l.length) := by unfold hold; rw [hc]; rfl
   rw[e];simp only[TC,beq_iff_eq]at hc;exact Nl u v l cs w h hv hc.1.1 hc.1.2 hc.2
theorem Np (u v:Value) (l:List (Int×Int)) (cs:List Int) (w:World) (h:Rd 2 bT w u l) (hv:Rd 1 aZ w v cs):
 Calls prog 127 #[u,v] w (Ret (.tuple #[.int .i64 (hold l cs).1,.int .i64 (hold l cs).2]) w):=by
 obtain⟨A,c,rfl,hc,hm⟩:=h.form;obtain⟨A',c',rfl,hc',bN⟩:=hv.form;rcases bB:dV l l.length with _|_
 . have e : hold l cs = (0, 0) := by unfold hold; rw [bB]; rfl
   rw[e];go_enter TM,TN
   go_wp2_with fail
   refine(lT _ l _ h).mono ?_;rintro e w1 ⟨rfl,rfl⟩;rw[bB];go_wp2;go_ret2
   exact⟨rfl,Below.refl _ _⟩
 . by_cases hlen:cs.length=l.length
   . have hne : ((cs.length : Int) != (l.length : Int)) = false := by simp [hlen]
     obtain⟨hall,h1,h5⟩:=lD _ _ bB;have a8:allIn 0 500 cs=true->hold l cs=(Mc l cs l.length,Md l cs l.length):=fun bC=>by unfold hold;rw[bB,bC];simp[hlen]
     have bA:allIn 0 500 cs=false->hold l cs=(0,0):=fun bC=>by unfold hold;rw[bC];simp
     have bF:=Tk hall;have bD:=Tk hlen;have H1:=Tk a8;have H2:=Tk bA;clear hall hlen a8 bA;go_enter TM,TN
     go_wp2_with fail
     refine(lT _ l _ h).mono ?_;rintro e w1 ⟨rfl,rfl⟩;rw[bB];go_wp2;go_loopw [6,7,8] (fun a b i wr=>∃(k:Nat) (t p:Int),k<=cs.length/\i= .int .i64 k/\a= .int .i64 t/\b= .int .i64 p/\Hid (QV l cs k t p)/\Hid (allIn 0 500 (cs.drop k)=allIn 0 500 cs)/\Below w.heap.size w wr) (fun _ _ i _=>cs.length-(intOf i).toNat)
     case atStart=>exact⟨0,0,0,Tv _,rfl,rfl,rfl,Tk ⟨rfl,rfl,by omega,by omega,by omega,by omega⟩,Tk rfl,Below.refl _ _⟩
     case round=>
      obtain⟨k,t,p,hk,rfl,rfl,rfl,Hs,Hg,a6⟩:=hrel;by_cases a7:k<cs.length
      . have hlt : k < l.length := by have := bD.out; omega
        obtain⟨b,off,rfl,hb,q1,q2⟩:=(h.Tj a6).iR hlt;obtain⟨b',bL,rfl,hb',q3⟩:=(hv.Tj a6).uX a7;rcases bE:inB cs[k] 0 500 with _|_
        . have e2:=H2.out (ET Hg a7 bE);have E2:=Tk e2;clear e2;go_wp2_with fail
          refine(iY _ _ _ _).mono ?_;rintro e w5 ⟨rfl,rfl⟩;rw[bE];go_wp2;go_ret2
          rw[E2.out];exact⟨rfl,a6⟩
        . have C : 0 <= cs[k] /\ cs[k] <= 500 := by simpa [inB] using bE
          have F:=bF.out l[k] (Tq hlt);have HS:=Tk (Hs.out.step hlt a7 C F);have HG:=ES Hg a7 bE;obtain⟨s1,s2,s3,s4,s5,s6⟩:=Hs.out;have m1:=uB C.1 C.2 F.1 F.2.1;have m2:=uB C.1 C.2 F.2.2.1 F.2.2.2;have e1:IntKind.i64.wrap (cs[k]*l[k].1)=cs[k]*l[k].1:=TF _ (by omega);have e2:IntKind.i64.wrap (cs[k]*l[k].2)=cs[k]*l[k].2:=TF _ (by omega);have e3:IntKind.i64.wrap (t+cs[k]*l[k].1)=t+cs[k]*l[k].1:=TF _ (by omega);have e4:IntKind.i64.wrap (p+cs[k]*l[k].2)=p+cs[k]*l[k].2:=TF _ (by omega);have bM:(k:Int)<l.length:=(by omega);clear s1 s2 C F Hg;go_wp2_with fail
          refine(iY _ _ _ _).mono ?_;rintro e w5 ⟨rfl,rfl⟩;rw[bE];go_wp2_with fail
          go_quiet (fail)
          go_wp2_with fail
          go_quiet (fail)
          clear e1 e2 e3 e4;go_wp2;go_roundw
          case rel=>exact⟨k+1,_,_,by omega,by go_num,rfl,rfl,HS,HG,below_drewN a6 _⟩
          case measure=>simp[intOf];omega
      . have bC := Bc Hg (by omega);have e1:=H1.out bC;have bJ:k=l.length:=by have:=bD.out;omega
        have E1:=Tk e1;have bK:=Tk bJ;clear e1 bJ bC;go_wp2;go_ret2
        obtain⟨s1,s2,_⟩:=Hs.out;rw[E1.out];exact⟨S9 (by rw[s1,bK.out]) (by rw[s2,bK.out]),a6⟩
   . have hne : ((cs.length : Int) != (l.length : Int)) = true := by simp; omega
     have e:hold l cs=(0,0):=by unfold hold;rw[beq_eq_false_iff_ne.2 hlen];simp
     rw[e];go_enter TM,TN
     go_wp2_with fail
     refine(lT _ l _ h).mono ?_;rintro e w1 ⟨rfl,rfl⟩;rw[bB];go_wp2;go_ret2
     exact⟨rfl,Below.refl _ _⟩
end Go.Proofs.YtjijonhkofhikaaGreatDoor
namespace Go.Proofs.YtjijonhkofhikaaGreatDoor
open Go.RowKit
def Blk (w:World) (g:Nat) (t:TypeId) (cs:Array Value):Prop:=w.heap[g]? =some (.cells cs t (0,0))
section
variable {w w' : World} {g : Nat} {t : TypeId} {cs : Array Value}
theorem Blk.lt (h:Blk w g t cs):g<w.heap.size:=by
 rcases Nat.lt_or_ge g w.heap.size with hlt|a6
 . exact hlt
 . unfold Blk at h;rw[Array.getElem?_eq_none a6]at h;cases h
theorem Blk.cell (h:Blk w g t cs) (i:Nat):w.cell? ⟨g,i,none⟩=cs[i]? :=cell_of_row w g i cs t (0,0) h
theorem Blk.frozen (h:Blk w g t cs) (i:Nat):w.frozen? ⟨g,i,none⟩=false:=by
 unfold Blk at h;simp[World.frozen?,h]
theorem Blk.aX (w:World) (t:TypeId) (cs:Array Value):Blk (w.alloc (.cells cs t)) w.heap.size t cs:=heap_alloc_new w _
theorem Blk.drewN (h:Blk w g t cs) (n:Nat):Blk (w.drewN n) g t cs:=h
theorem Blk.alloc (h:Blk w g t cs) (o:Obj):Blk (w.alloc o) g t cs:=(Below.heap_alloc w o g h.lt).trans h
theorem Blk.Ij (h:Blk w g t cs) (i:Nat) (u:Value):Blk (w.setCell ⟨g,i,none⟩ u) g t (cs.setIfInBounds i u):=by
 unfold Blk at h⊢;simp[World.setCell,Array.getElem?_modify,h]
theorem Blk.far (h:Blk w g t cs) {p:Addr} (hp:g≠p.block) (u:Value):Blk (w.setCell p u) g t cs:=(Below.heap_setCell w p u g hp).trans h
theorem Blk.below {B:Nat} (h:Blk w g t cs) (hb:Below B w w') (hg:g<B):Blk w' g t cs:=(hb.block g hg).trans h
theorem Blk.grown {row:Option Nat} (h:Blk w g t cs) (hb:w.grownBy w' row) (hg:some g≠row):Blk w' g t cs:=(hb.block g h.lt hg).trans h
theorem Blk.c1 {v:Value} (h:Blk w g t #[v]):w.cell? ⟨g,0,none⟩=some v:=h.cell 0
theorem Blk.n2 {v0 v1:Value} (h:Blk w g t #[v0,v1]):w.cell? ⟨g,0,none⟩=some v0/\w.cell? ⟨g,1,none⟩=some v1:=⟨h.cell 0,h.cell 1⟩
theorem Blk.n3 {v0 v1 v2:Value} (h:Blk w g t #[v0,v1,v2]):w.cell? ⟨g,0,none⟩=some v0/\w.cell? ⟨g,1,none⟩=some v1/\w.cell? ⟨g,2,none⟩=some v2:=⟨h.cell 0,h.cell 1,h.cell 2⟩
theorem Blk.n4 {v0 v1 v2 v3:Value} (h:Blk w g t #[v0,v1,v2,v3]):w.cell? ⟨g,0,none⟩=some v0/\w.cell? ⟨g,1,none⟩=some v1/\w.cell? ⟨g,2,none⟩=some v2/\w.cell? ⟨g,3,none⟩=some v3:=⟨h.cell 0,h.cell 1,h.cell 2,h.cell 3⟩
theorem Blk.n6 {v0 v1 v2 v3 v4 v5:Value} (h:Blk w g t #[v0,v1,v2,v3,v4,v5]):w.cell? ⟨g,0,none⟩=some v0/\w.cell? ⟨g,1,none⟩=some v1/\w.cell? ⟨g,2,none⟩=some v2/\w.cell? ⟨g,3,none⟩=some v3/\w.cell? ⟨g,4,none⟩=some v4/\w.cell? ⟨g,5,none⟩=some v5:=⟨h.cell 0,h.cell 1,h.cell 2,h.cell 3,h.cell 4,h.cell 5⟩
theorem Blk.n7 {v0 v1 v2 v3 v4 v5 v6:Value} (h:Blk w g t #[v0,v1,v2,v3,v4,v5,v6]):w.cell? ⟨g,0,none⟩=some v0/\w.cell? ⟨g,1,none⟩=some v1/\w.cell? ⟨g,2,none⟩=some v2/\w.cell? ⟨g,3,none⟩=some v3/\w.cell? ⟨g,4,none⟩=some v4/\w.cell? ⟨g,5,none⟩=some v5/\w.cell? ⟨g,6,none⟩=some v6:=⟨h.cell 0,h.cell 1,h.cell 2,h.cell 3,h.cell 4,h.cell 5,h.cell 6⟩
end
theorem aD.apart {α:Type} {E:TypeId} {size:Nat} {enc:α->List Value} {B:Nat} {w:World} {v:Value} {l:List α} {g:Nat} {t:TypeId} {cs:Array Value} (h:aD E size enc B w v l) (hb:Blk w g t cs) (hne:E≠t):v.ownBlock≠some g:=by
 rcases h.2 with⟨rfl,_⟩|⟨g',cap,cur,rfl,_,hh,_⟩
 . simp[Value.ownBlock]
 . intro he;have:g'=g:=(by simpa[Value.ownBlock]using he);subst this;unfold Blk at hb;rw[hh]at hb;injection hb with hb;injection hb with _ ht;exact hne ht
theorem Below.app {α:Type} {E:TypeId} {size:Nat} {enc:α->List Value} {B:Nat} {W0 w w':World} {v:Value} {l:List α} (h:Below W0.heap.size W0 w) (hown:aD E size enc B w v l) (hB:W0.heap.size<=B) (hg:w.grownBy w' v.ownBlock):Below W0.heap.size W0 w':=
 h.grown hg h.size (fun k hk=>Nat.le_trans hB (World.ownsRow.lt hown k hk).1)
section
variable {P : Program} {α : Type} {t E : TypeId} {z : Value} {size bytes : Nat} {enc : α -> List Value}
theorem Me {o:Oper} {a:Act} {K:Act->World->Prop} {Q:Exit->Act->World->Prop} (R:Row P t E z size bytes)
    (a6:∀x,(enc x).length=size) (h1:∀x,∀u∈enc x,u.oneCell'=true)
    {B:Nat} {wa:World} (w:World) (hB:B<=w.heap.size) {v:Value} {l:List α} (hown:aD E size enc B w v l) (y:α) (bA:wa=w.alloc (.cells (enc y).toArray E))
    (hlen:(l.length+1)*bytes<=140737488355328) (a7:l.length+1<=maxLen)
    (s x:Operand) (ho:o.op= .call {callee:= .builtin .append,args:= #[s,x],argTypes:= #[t,t]})
    (hs:a.eval s=v) (hx:a.eval x= .slice (some ⟨w.heap.size,0,none⟩) 1 1)
    (h:∀v' w',aD E size enc B w' v' (l++[y])->w.grownBy w' v.ownBlock->(∃A c,v'= .slice A (l.length+1) c)->K (a.put o.dst v') w'):
    o.wp P a wa K Q:=by
 subst bA;obtain⟨ht,a8,hzs,hsz⟩:=R;obtain⟨i0,hi,hz0,hz1,hz2⟩:=info_parts a8
 obtain⟨v',w',hrun,h2,h3,_,h5⟩:=run_append_own_at (P:=P) (w.alloc (.cells (enc y).toArray E)) B t o.type E i0 z size bytes ht hi hz0 hz1 hz2 hzs hsz v l.length (l.flatMap enc) (World.ownsRow.alloc hown _)
   ⟨w.heap.size, 0, none⟩ 1 1 (enc y) (by rw [a6]; omega) (fun j u hj => by
    have hb:=World.ownsRow.cells (w:=w.alloc (.cells (enc y).toArray E)) (base:=0) (e:=E) (size:=size) (v:= .slice (some ⟨w.heap.size,0,none⟩) 1 1) (n:=1) (xs:=enc y)
      ⟨by rw[a6];omega,.inr ⟨w.heap.size,1,(enc y).toArray,rfl,by omega,heap_alloc_new w _,by omega,by simp[maxLen],by simp[a6],by simp[a6,List.take_of_length_le]⟩⟩ (g:=w.heap.size) rfl
    exact hb j u hj) (h1 y) a7 hlen (by simp;omega)
 unfold Oper.wp execOp;simp only[ho,resolve,invoke,builtin,Sem.run_bind,Sem.run_pure,Result.andThen_ok,List.map_toArray,List.map_cons,List.map_nil,hs,hx,hrun]
 have hO:aD E size enc B w' v' (l++[y]):=by
  unfold aD;rw[Tt,List.flatMap_append,List.length_singleton];simpa using h2
 refine h v' w' hO ?_ ?_
 . refine⟨h3.os,h3.tape,h3.output,Nat.le_trans (by simp) h3.size,fun k hk hne=>(h3.block k (by simp;omega) hne).trans (Below.heap_alloc w _ k hk)⟩
 . obtain⟨A,c,e,_⟩:=hO.form;exact⟨A,c,by rw[e,Tt];rfl⟩
theorem jN {ops:Array Oper} {rest:List Oper} {o:Oper} {a:Act} {Q:Exit->Act->World->Prop} (R:Row P t E z size bytes)
    (a7:∀x,(enc x).length=size) (h1:∀x,∀u∈enc x,u.oneCell'=true)
    {B:Nat} {wa:World} (w:World) (hB:B<=w.heap.size) {v:Value} {l:List α} (hown:aD E size enc B w v l) (y:α) (a8:wa=w.alloc (.cells (enc y).toArray E))
    (hlen:(l.length+1)*bytes<=140737488355328) (a6:l.length+1<=maxLen) (hgd:o.guard=none)
    (s x:Operand) (ho:o.op= .call {callee:= .builtin .append,args:= #[s,x],argTypes:= #[t,t]})
    (hs:a.eval s=v) (hx:a.eval x= .slice (some ⟨w.heap.size,0,none⟩) 1 1)
    (h:∀v' w',aD E size enc B w' v' (l++[y])->w.grownBy w' v.ownBlock->(∃A c,v'= .slice A (l.length+1) c)->wpList P ops Q rest (a.put o.dst v') w'):
    wpList P ops Q (o::rest) a wa:=
 wpList_plain hgd fun _ hK=>Me R a7 h1 w hB hown y a8 hlen a6 s x ho hs hx fun v' w' k1 k2 k3=>hK _ _ (h v' w' k1 k2 k3)
theorem FV {ops:Array Oper} {o:Oper} {a:Act} {K:Act->World->Prop} {Q:Exit->Act->World->Prop} {E':Prop} (R:Row P t E z size bytes)
    (a7:∀x,(enc x).length=size) (h1:∀x,∀u∈enc x,u.oneCell'=true)
    {B:Nat} {wa:World} (w:World) (hB:B<=w.heap.size) {v:Value} {l:List α} (hown:aD E size enc B w v l) (y:α) (a8:wa=w.alloc (.cells (enc y).toArray E))
    (hlen:(l.length+1)*bytes<=140737488355328) (a6:l.length+1<=maxLen) (hgd:o.guard=none)
    (s x:Operand) (ho:o.op= .call {callee:= .builtin .append,args:= #[s,x],argTypes:= #[t,t]})
    (hs:a.eval s=v) (hx:a.eval x= .slice (some ⟨w.heap.size,0,none⟩) 1 1)
    (h:∀v' w',aD E size enc B w' v' (l++[y])->w.grownBy w' v.ownBlock->(∃A c,v'= .slice A (l.length+1) c)->K (a.put o.dst v') w'):
    if Region.wanted o (yielded ops a.tmps)=true then Oper.wp P o a wa K Q else E':=by
 have hw:Region.wanted o (yielded ops a.tmps)=true:=(by simp[Region.wanted,hgd]);rw[if_pos hw];exact Me R a7 h1 w hB hown y a8 hlen a6 s x ho hs hx h
end
theorem EU {α:Type} {enc:α->List Value} {size:Nat} (a6:∀x,(enc x).length=size):∀(l:List α) (j:Nat) (u:Value),(l.flatMap enc)[j]? =some u->∃i x r,l[i]? =some x/\(enc x)[r]? =some u/\j=i*size+r:=by
 intro l;induction l with
 |nil=>intro j u h;simp at h
 |cons y l ih=>
  intro j u h;rw[List.flatMap_cons]at h;by_cases hj:j<size
  . rw [List.getElem?_append_left (by rw [a6]; exact hj)] at h;exact⟨0,y,j,rfl,h,by omega⟩
  . rw [List.getElem?_append_right (by rw [a6]; omega), a6] at h;obtain⟨i,x,r,h1,h2,h3⟩:=ih _ _ h;exact⟨i+1,x,r,by simpa using h1,h2,by rw[Nat.add_mul];omega⟩
theorem dN {P:Program} {ops:Array Oper} {rest:List Oper} {o:Oper} {a:Act} {Q:Exit->Act->World->Prop} {α:Type} {t E:TypeId} {z:Value} {size bytes:Nat} (R:Row P t E z size bytes)
    {enc:α->List Value} (a7:∀x,(enc x).length=size) (h1:∀x,∀u∈enc x,u.oneCell'=true)
    {B:Nat} {w:World} (hB:B<=w.heap.size) {v:Value} {l:List α} (hown:aD E size enc B w v l) {A:Option Addr} {c:Nat} {m:List α} (hm:Rd size (RE enc) w (.slice A m.length c) m)
    (hlen:(l.length+m.length)*bytes<=140737488355328) (a8:l.length+m.length<=maxLen) (hgd:o.guard=none)
    (s x:Operand) (ho:o.op= .call {callee:= .builtin .append,args:= #[s,x],argTypes:= #[t,t]})
    (hs:a.eval s=v) (hx:a.eval x= .slice A m.length c)
    (h:∀v' w',aD E size enc B w' v' (l++m)->Below B w w'->(∃A' c',v'= .slice A' (l.length+m.length) c')->wpList P ops Q rest (a.put o.dst v') w'):
    wpList P ops Q (o::rest) a w:=by
 obtain⟨ht,bA,hzs,hsz⟩:=R;obtain⟨i0,hi,hz0,hz1,hz2⟩:=info_parts bA
 have key:∃v' w',(Builtin.append_ #[t,t] o.type #[v,.slice A m.length c]).run P w= .ok v' w'/\aD E size enc B w' v' (l++m)/\Below B w w':=by
  by_cases hA:A=none
  . subst hA
    have bB:m=[]:=by
     obtain⟨A',c',e,_,_,h3⟩:=hm;injection e with e1 e2 e3;rcases Nat.eq_zero_or_pos m.length with h0|h0
     . exact List.eq_nil_of_length_eq_zero h0
     . obtain⟨b,off,e4,_⟩:=h3 h0;rw[e4]at e1;cases e1
    subst bB;refine⟨v,w,?_,by simpa using hown,Below.refl _ _⟩;rcases hown.2 with⟨rfl,hn⟩|⟨g,cap,cur,rfl,_,_,bC,_⟩
    . simp[Builtin.append_,run_underlying ht,sizeOf,typeInfo,hi,Builtin.lenOf,Builtin.firstCells]
    . simp[Builtin.append_,run_underlying ht,sizeOf,typeInfo,hi,Builtin.lenOf,Builtin.firstCells,bC,storeCells]
  . obtain ⟨ad, rfl⟩ : ∃ ad, A = some ad := by cases A with
     |none=>exact absurd rfl hA
     |some ad=>exact⟨ad,rfl⟩
    have a6:∀j u,(m.flatMap enc)[j]? =some u->w.cell? (ad.add j)=some u:=by
     intro j u hj;obtain⟨i,x,r,k1,k2,k3⟩:=EU a7 m j u hj;have hi':i<m.length:=(List.getElem?_eq_some_iff.1 k1).1;obtain⟨b,off,e,_,hc⟩:=hm.at_ hi';injection e with e;subst e;have hx:m[i]=x:=by rw[Tn hi']at k1;injection k1
     have:=hc r u (by rw[hx];exact k2)
     have e:(Addr.mk b off none).add j=⟨b,off+i*size+r,none⟩:=by
      unfold Addr.add;split
      . simp_all
      . simp[k3,Nat.add_assoc]
     rw[e];exact this
    obtain⟨v',w',hrun,h2,h3,_,h5⟩:=run_append_own_at (P:=P) w B t o.type E i0 z size bytes ht hi hz0 hz1 hz2 hzs hsz v l.length (l.flatMap enc) hown
      ad m.length c (m.flatMap enc) (iB a7 m) a6 (IL h1 m) a8 hlen hB
    refine⟨v',w',hrun,?_,(Below.refl _ _).grown h3 hB (fun k hk=>(World.ownsRow.lt hown k hk).1)⟩;unfold aD;rw[Tt,List.flatMap_append];exact h2
 obtain⟨v',w',hrun,hO,hb⟩:=key;refine wpList_plain hgd fun _ hK=> ?_
 unfold Oper.wp execOp;simp only[ho,resolve,invoke,builtin,Sem.run_bind,Sem.run_pure,Result.andThen_ok,List.map_toArray,List.map_cons,List.map_nil,hs,hx,hrun];refine hK _ _ (h v' w' hO hb ?_);obtain⟨A',c',e,_⟩:=hO.form;exact⟨A',c',by rw[e,Tt]⟩
theorem Rd.tailA {α:Type} {size:Nat} {R:World->List Value->α->Prop} {w:World} {A:Option Addr} {n c:Nat} {l:List α} (h:Rd size R w (.slice A n c) l) {j:Nat} (hj:j<=n):∃A' c',sliced A j n c size= .slice A' (n-j) c'/\Rd size R w (.slice A' (n-j) c') (l.drop j):=by
 obtain⟨A0,c',e,h1,h2,h3⟩:=h;injection e with e1 e2 e3;subst e1 e2 e3;refine⟨_,_,rfl,_,_,by rw[List.length_drop],by simp;omega,by omega,fun hn=> ?_⟩;simp only[List.length_drop]at hn;obtain⟨b,off,rfl,hb,hc⟩:=h3 (by omega);refine⟨b,off+j*size,?_,hb,fun i x hx=> ?_⟩
 . rw [if_neg (by omega)];simp only[Option.map_some];unfold Addr.add;split
   . simp_all
   . simp
 . rw[List.getElem?_drop]at hx;obtain⟨cs,k1,k2,k3⟩:=hc _ x hx;refine⟨cs,k1,k2,?_⟩;rw[show off+j*size+i*size=off+(j+i)*size by rw[Nat.add_mul];omega];exact k3
theorem mX {P:Program} {ops:Array Oper} {rest:List Oper} {o:Oper} {a:Act} {Q:Exit->Act->World->Prop} {α:Type} {t E:TypeId} {z:Value} {size bytes:Nat} (R:Row P t E z size bytes)
    {RR:World->List Value->α->Prop} {w:World} {A:Option Addr} {n c:Nat} {l:List α} (h:Rd size RR w (.slice A n c) l) (j:Nat) (hj:j<=n) {J:Int} (hJ:J=j)
    (hgd:o.guard=none) (s x:Operand) (hop:o.op=Op.slice t s (some x) none none) (hs:a.eval s= .slice A n c) (hx:a.eval x= .int .i64 J)
    (hK:∀A' c',Rd size RR w (.slice A' (n-j) c') (l.drop j)->wpList P ops Q rest (a.put o.dst (.slice A' (n-j) c')) w):
    wpList P ops Q (o::rest) a w:=by
 subst hJ;obtain⟨ht,a6,hzs,hsz⟩:=R;obtain⟨i0,hi,hz0,hz1,hz2⟩:=info_parts a6;obtain⟨A',c',e,hr⟩:=h.tailA hj;have he:P.elem t=E:=(by simp[Program.elem,ht]);have a7:P.underlying t=some (.slice (P.elem t)):=by rw[he];exact ht
 have hrun:(Instr.sliceAt t (.slice A n c) (some (.int .i64 j)) none none).run P w= .ok (.slice A' (n-j) c') w:=by
  rw[run_sliceAt_slice w t _ _ _ _ a7,run_slice_l w t A n c a7 .i64 j (by omega) (by omega),he,<-e];simp[sizeOf,typeInfo,hi,hz1,Result.andThen]
 refine wpList_plain hgd fun K hK'=> ?_
 unfold Oper.wp;simp[execOp,hop,hs,hx,hrun,Result.andThen];exact hK' _ _ (hK A' c' hr)
end Go.Proofs.YtjijonhkofhikaaGreatDoor
namespace Go.Proofs.YtjijonhkofhikaaGreatDoor
def U64:Nat:=2^64
def dE (a b:Nat):Nat:=a&&&(U64-1-b)
def uY (a i:Nat):Nat:=a|||2^i
def jA (a i:Nat):Nat:=dE a (2^i)
theorem kQ {a b i:Nat} (hb:b<U64) (ha:a<U64):(dE a b).testBit i=(a.testBit i&& !b.testBit i):=by
 unfold dE;rw[Nat.testBit_and];by_cases hi:i<64
 . have : U64 - 1 - b = 2 ^ 64 - (b + 1) := by unfold U64; omega
   rw[this,Nat.testBit_two_pow_sub_succ (by unfold U64 at hb;exact hb)];simp[hi]
 . have : a.testBit i = false := Tz (TA ha (by unfold U64; exact TB (by decide) (by omega)));rw[this];simp
theorem eD {a b:Nat} (ha:a<U64):dE a b<U64:=Nat.lt_of_le_of_lt Nat.and_le_left ha
theorem EW {a i:Nat} (ha:a<U64) (hi:i<64):uY a i<U64:=by
 unfold uY U64 at*;exact Nat.or_lt_two_pow ha (Nat.pow_lt_pow_right (by decide) hi)
theorem yJ {i:Nat} (hi:i<64):2^i<U64:=by unfold U64;exact Nat.pow_lt_pow_right (by decide) hi
theorem sG (a i j:Nat):(uY a i).testBit j=(a.testBit j||decide (i=j)):=by
 unfold uY;rw[Nat.testBit_or,Nat.testBit_two_pow]
theorem lK {a i:Nat} (ha:a<U64) (hi:i<64) (j:Nat):(jA a i).testBit j=(a.testBit j&& !decide (i=j)):=by
 unfold jA;rw[kQ (yJ hi) ha,Nat.testBit_two_pow]
def lZ (s y:Nat):List Int->Nat
  |[]=>s
  |r::rs=>lZ (s|||r.toNat<<<(8*y)) (y+1) rs
def setOf (rows:List Int):Nat:=lZ 0 0 rows
def dX (rows:List Int):Prop:=rows.length<=8/\∀r∈rows,0<=r/\r<=255
theorem GZ:∀(rows:List Int) (s y i:Nat),(∀r∈rows,0<=r/\r<=255)->(lZ s y rows).testBit i=(s.testBit i||(decide (8*y<=i)&&(rows.getD (i/8-y) 0).toNat.testBit (i%8))):=by
 intro rows;induction rows with
 |nil=>intro s y i _;simp[lZ]
 |cons r rs ih=>
  intro s y i h;have hr:=h r Tm;have h':∀x∈rs,0<=x/\x<=255:=fun x hx=>h x (List.mem_cons_of_mem _ hx)
  rw[lZ,ih _ _ _ h',Nat.testBit_or,Nat.testBit_shiftLeft];by_cases h1:8*y<=i
  . by_cases h2:8*(y+1)<=i
    . have e1 : i / 8 - y = (i / 8 - (y + 1)) + 1 := by omega
      have e2:r.toNat.testBit (i-8*y)=false:=Tz (TA (by omega:r.toNat<2^8) (TB (by decide) (by omega)));rw[e1,List.getD_cons_succ,e2];simp[h1,h2]
    . have e1 : i / 8 - y = 0 := by omega
      have e2:i-8*y=i%8:=(by omega);rw[e1,e2];simp[h1,h2]
  . have h2 : ¬ 8 * (y + 1) <= i := by omega
    simp[h1,h2]
theorem xE {rows:List Int} (h:dX rows) (i:Nat):(setOf rows).testBit i=(rows.getD (i/8) 0).toNat.testBit (i%8):=by
 unfold setOf;rw[GZ rows 0 0 i h.2];simp
theorem Jo:∀(rows:List Int) (s y:Nat),s<U64->y+rows.length<=8->(∀r∈rows,0<=r/\r<=255)->lZ s y rows<U64:=by
 intro rows;induction rows with
 |nil=>intro s y h _ _;exact h
 |cons r rs ih=>
  intro s y h hy hr;have h1:=hr r Tm;rw[lZ];simp only[List.length_cons]at hy;refine ih _ _ ?_ (by omega) fun x hx=>hr x (List.mem_cons_of_mem _ hx)
  unfold U64 at*;refine Nat.or_lt_two_pow h ?_;rw[Nat.shiftLeft_eq];have h2:r.toNat<2^8:=by omega
  calc r.toNat * 2 ^ (8 * y) < 2 ^ 8 * 2 ^ (8 * y) := Nat.mul_lt_mul_of_pos_right h2 (Nat.pow_pos (by decide))
    _=2^(8+8*y):=by rw[Nat.pow_add]
    _<=2^64:=TB (by decide) (by omega)
theorem dW {rows:List Int} (h:dX rows):setOf rows<U64:=Jo rows 0 0 (by unfold U64;decide) (by have:=h.1;omega) h.2
def rowsOf (s n:Nat):List Int:=(List.range n).map fun y=>(((s>>>(8*y))&&&255:Nat):Int)
theorem Qp (a:Nat):a&&&255=a%256:=Nat.and_two_pow_sub_one_eq_mod a 8
theorem FW (s n y:Nat) (h:y<n):(rowsOf s n).getD y 0=(((s>>>(8*y))%256:Nat):Int):=by
 unfold rowsOf;rw[Tp,List.getElem?_map,List.getElem?_range h];simp[Qp]
theorem fV (s n:Nat):(rowsOf s n).length=n:=by simp[rowsOf]
theorem Mf (s y x:Nat) (hx:x<8):((s>>>(8*y))%256).testBit x=s.testBit (8*y+x):=by
 rw[show(256:Nat)=2^8 from rfl,Nat.testBit_mod_two_pow,Nat.testBit_shiftRight];simp[hx]
theorem nA (s n:Nat) (hn:n<=8):dX (rowsOf s n):=by
 refine⟨by rw[fV];exact hn,fun r hr=> ?_⟩;unfold rowsOf at hr;obtain⟨y,_,rfl⟩:=List.mem_map.1 hr;rw[Qp];have:=Nat.mod_lt (s>>>(8*y)) (show 0<256 by decide);omega
theorem QW {a b:Nat} (ha:a<256) (hb:b<256) (h:∀x,x<8->a.testBit x=b.testBit x):a=b:=by
 refine Nat.eq_of_testBit_eq fun i=> ?_
 by_cases hi:i<8
 . exact h i hi
 . rw[Tz (TA ha (TB (n:=2) (by decide) (show 8<=i by omega))),Tz (TA hb (TB (n:=2) (by decide) (show 8<=i by omega)))]
theorem Mg {a b:Nat} (ha:a<U64) (hb:b<U64) (h:∀i,i<64->a.testBit i=b.testBit i):a=b:=by
 refine Nat.eq_of_testBit_eq fun i=> ?_
 by_cases hi:i<64
 . exact h i hi
 . unfold U64 at*;rw[Tz (TA ha (TB (by decide) (by omega))),Tz (TA hb (TB (by decide) (by omega)))]
theorem lU {s:Nat} (hs:s<U64):setOf (rowsOf s 8)=s:=by
 refine Mg (dW (nA s 8 (by decide))) hs fun i hi=> ?_
 rw[xE (nA s 8 (by decide)),FW _ _ _ (by omega),TD,Mf _ _ _ (by omega)];congr 1;omega
end Go.Proofs.YtjijonhkofhikaaGreatDoor
namespace Go.Proofs.YtjijonhkofhikaaGreatDoor
open Go.ChangeShapes Go.WideShapes Go.ChangeAt Go.RowKit
abbrev Dm:=Int×Int×Bool
abbrev Cl:=Int×Int
def bH (c:Cl):Bool:=inB c.1 0 7&&inB c.2 0 7
def sec (d:Dm):Cl:=if d.2.2 then(d.1,wrap64 (d.2.1+1))else(wrap64 (d.1+1),d.2.1)
def aI (d:Dm):Bool:=bH (d.1,d.2.1)&&bH (sec d)
abbrev IP (c:Cl):Value:= .agg #[.int .i64 c.1,.int .i64 c.2]
theorem dC {c:Cl}:bH c=true↔(0<=c.1/\c.1<=7)/\(0<=c.2/\c.2<=7):=by simp[bH,inB]
theorem nC {d:Dm} (h:aI d=true):(0<=d.1/\d.1<=7)/\(0<=d.2.1/\d.2.1<=7):=by
 unfold aI at h;rw[TC]at h;exact dC.1 h.1
theorem Bd {d:Dm} (h:aI d=true):(0<=(sec d).1/\(sec d).1<=7)/\(0<=(sec d).2/\(sec d).2<=7):=by
 unfold aI at h;rw[TC]at h;exact dC.1 h.2
theorem lF (a b:Int) (w:World):Calls prog 108 #[.agg #[.int .i64 a,.int .i64 b]] w (Ret (.bool (bH (a,b))) w):=by
 go_enter Tryz.func108,Tryz.ntmps108
 go_wp2_with (go_at_call 46;(with_reducible refine(dI _ _ _ _).mono ?_);rintro e w' ⟨rfl,rfl⟩)
 all_goals go_ret
 all_goals exact⟨by simp_all [bH],(Below.refl _ _).al _⟩
theorem iV (a b:Int) (w:World):Calls prog 164 #[.agg #[.int .i64 a,.int .i64 b]] w (Ret (.bool (bH (a,b))) w):=by
 go_enter Tryz.func164,Tryz.ntmps164
 go_wp2_with (go_at_call 65;(with_reducible refine(iY _ _ _ _).mono ?_);rintro e w' ⟨rfl,rfl⟩)
 all_goals go_ret
 all_goals exact⟨by simp_all [bH],(Below.refl _ _).al _⟩
theorem Bz (x y:Int) (d:Bool) (w:World):Calls prog 223 #[.agg #[.int .i64 x,.int .i64 y,.bool d]] w (Ret (IP (sec (x,y,d))) w):=by
 cases d
 . go_enter func223,ntmps223
   go_wp2;refine bodyPost_ret (v:= .agg #[.int .i64 (wrap64 (x+1)),.int .i64 y]) (by simp[results,Tryz.results223,go_sem]) rfl ⟨rfl,?_⟩;exact((Below.refl _ _).al _).al _
 . go_enter func223,ntmps223
   go_wp2;refine bodyPost_ret (v:= .agg #[.int .i64 x,.int .i64 (wrap64 (y+1))]) (by simp[results,Tryz.results223,go_sem]) rfl ⟨rfl,?_⟩;exact((Below.refl _ _).al _).al _
theorem mE (x y:Int) (d:Bool) (w:World):Calls prog 64 #[.agg #[.int .i64 x,.int .i64 y,.bool d]] w (Ret (.tuple #[.agg #[.int .i64 x,.int .i64 y],IP (sec (x,y,d))]) w):=by
 cases d
 . go_enter func64,ntmps64
   go_wp2_with fail
   go_region
   go_wp2;refine bodyPost_ret (v:= .tuple #[.agg #[.int .i64 x,.int .i64 y],.agg #[.int .i64 (wrap64 (x+1)),.int .i64 y]]) (by simp[results,Tryz.results64,go_sem]) rfl ⟨rfl,?_⟩;exact((((Below.refl _ _).al _).al _).al _).drew
 . go_enter func64,ntmps64
   go_wp2_with fail
   go_region
   go_wp2;refine bodyPost_ret (v:= .tuple #[.agg #[.int .i64 x,.int .i64 y],.agg #[.int .i64 x,.int .i64 (wrap64 (y+1))]]) (by simp[results,Tryz.results64,go_sem]) rfl ⟨rfl,?_⟩;exact((((Below.refl _ _).al _).al _).al _).drew
theorem dD (x y:Int) (d:Bool) (w:World):Calls prog 172 #[.agg #[.int .i64 x,.int .i64 y,.bool d]] w (Ret (.bool (aI (x,y,d))) w):=by
 rcases hc:bH (x,y)with _|_
 . go_enter func172,ntmps172
   go_wp2_with fail
   refine(iV x y _).mono ?_;rintro e w1 ⟨rfl,hb1⟩;rw[hc];go_wp2;go_ret;exact⟨by simp[aI,hc],((Below.refl _ _).al _).tr hb1⟩
 . go_enter func172,ntmps172
   go_wp2_with fail
   refine(iV x y _).mono ?_;rintro e w1 ⟨rfl,hb1⟩;rw[hc];obtain⟨hc1,a6,hz1⟩:=bk hb1;simp at hz1;have a7:w.heap.size<w1.heap.size:=by omega
   go_wp2_with fail
   refine(Bz x y d _).mono ?_;rintro e w2 ⟨rfl,hb2⟩;go_wp2_with fail
   refine(iV _ _ _).mono ?_;rintro e w3 ⟨rfl,hb3⟩;go_wp2;go_ret;exact⟨by simp[aI,hc],((((Below.refl _ _).al _).tr hb1).tr hb2).tr hb3⟩
theorem aO (x y:Int) (d:Bool) (w:World):Calls prog 105 #[.agg #[.int .i64 x,.int .i64 y,.bool d]] w (Ret (.bool (aI (x,y,d))) w):=by
 obtain⟨s,hs⟩:=Ti (sec (x,y,d));have e:aI (x,y,d)=(bH (x,y)&&bH s):=by rw[hs];rfl
 rw[e];have Hs:=Tk hs;clear hs e;rcases hc:bH (x,y)with _|_
 . go_enter func105,ntmps105
   go_wp2_with fail
   refine(mE x y d _).mono ?_;rintro e w1 ⟨rfl,hb1⟩;obtain⟨hc1,bA,hz1⟩:=bk hb1;(try simp at hz1)
   have a6:w.heap.size<w1.heap.size:=(by omega);rw[<-Hs.out];go_wp2_with fail
   refine(lF _ _ _).mono ?_;rintro e w2 ⟨rfl,hb2⟩;rw[hc];go_wp2;go_ret;exact⟨rfl,(((((Below.refl _ _).al _).tr hb1).al _).al _).tr hb2⟩
 . go_enter func105,ntmps105
   go_wp2_with fail
   refine(mE x y d _).mono ?_;rintro e w1 ⟨rfl,hb1⟩;obtain⟨hc1,bA,hz1⟩:=bk hb1;(try simp at hz1)
   have a6:w.heap.size<w1.heap.size:=(by omega);rw[<-Hs.out];go_wp2_with fail
   refine(lF _ _ _).mono ?_;rintro e w2 ⟨rfl,hb2⟩;obtain⟨hc2,hf2,hz2⟩:=bk hb2;(try simp at hz2)
   have a7:w1.heap.size<w2.heap.size:=(by omega);have a8:w1.heap.size+1<w2.heap.size:=(by omega);rw[hc];go_wp2_with fail
   refine(lF _ _ _).mono ?_;rintro e w3 ⟨rfl,hb3⟩;go_wp2;go_ret;exact⟨rfl,((((((Below.refl _ _).al _).tr hb1).al _).al _).tr hb2).tr hb3⟩
theorem yK (x y:Int) (d:Bool) (sx sy:Int) (Hs:Hid (sec (x,y,d)=(sx,sy))) (w:World):Calls prog 223 #[.agg #[.int .i64 x,.int .i64 y,.bool d]] w (Ret (.agg #[.int .i64 sx,.int .i64 sy]) w):=by
 have:=Bz x y d w;rw[Hs.out]at this;exact this
theorem jX (x y:Int) (d:Bool) (w:World) (hd:aI (x,y,d)=true):Calls prog 174 #[.agg #[.int .i64 x,.int .i64 y,.bool d]] w (Ret (.tuple #[.agg #[.int .i64 x,.int .i64 y],IP (sec (x,y,d))]) w):=by
 obtain⟨sx,sy,hs⟩:∃sx sy,sec (x,y,d)=(sx,sy):=⟨_,_,rfl⟩;rw[hs];have Hs:=Tk hs;clear hs;go_enter Tryz.func174,Tryz.ntmps174
 go_wp2_with fail
 refine(dD x y d _).mono ?_;rintro e w1 ⟨rfl,hb1⟩;obtain⟨hc1,bD,hz1⟩:=bk hb1;(try simp at hz1)
 have a6:w.heap.size<w1.heap.size:=(by omega);have a7:w.heap.size+1<w1.heap.size:=(by omega);have a8:w.heap.size+1+1<w1.heap.size:=(by omega);rw[hd];go_wp2_with fail
 go_region_with (go_at_call 223;go_must (refine(yK x y d sx sy Hs _).mono ?_;rintro e w2 ⟨rfl,hb2⟩;obtain⟨hc2,hf2,hz2⟩:=bkn hb2 (w.heap.size+3) (by first|(simp;done)|(simp;omega));have bA:w.heap.size<w2.heap.size:=(by omega);have bB:w.heap.size+1<w2.heap.size:=(by omega);have bC:w.heap.size+1+1<w2.heap.size:=(by omega);clear hz2))
 all_goals go_wp2
 all_goals
   refine bodyPost_ret (v:= .tuple #[.agg #[.int .i64 x,.int .i64 y],.agg #[.int .i64 sx,.int .i64 sy]]) (by simp[results,Tryz.results174,go_sem, *]) rfl ⟨rfl,?_⟩;have B1:Below w.heap.size w w1:=((((Below.refl _ _).al _).al _).al _).tr hb1;repeat (first|(with_reducible exact B1)|(with_reducible refine Below.tr ?_ hb2)|(with_reducible refine Below.drew ?_)|(with_reducible refine Below.st ?_ _ _ ?_)|exact Nat.le_succ _|exact Nat.le_add_right _ 2)
def dJ (c:Cl):Int:=if bH c then c.2*8+c.1 else-1
theorem dP {c:Cl} (h:bH c=true):dJ c=c.2*8+c.1/\0<=dJ c/\dJ c<=63:=by
 have:=dC.1 h;unfold dJ;rw[if_pos h];omega
theorem QX {s i:Nat} (hs:s<U64):(bits .and .u64 ((s:Int)/2^i) 1==1)=s.testBit i:=by
 have e:(s:Int)/2^i=((s/2^i:Nat):Int):=(by simp);have h1:s/2^i<18446744073709551616:=Nat.lt_of_le_of_lt (Nat.div_le_self _ _) (by unfold U64 at hs;exact hs);have h2:=u64_and_nat (s/2^i) 1 h1 (by decide);rw[e,show(1:Int)=((1:Nat):Int) from rfl,h2,nat_mask1,Nat.testBit_eq_decide_div_mod_eq];rw[Bool.eq_iff_iff,beq_iff_eq,decide_eq_true_iff];omega
theorem OP {i:Nat} (hi:i<=63):IntKind.u64.wrap (2^i)=((2^i:Nat):Int):=by
 have h:=yJ (i:=i) (by omega);unfold U64 at h;have e:(2:Int)^i=((2^i:Nat):Int):=(by simp);rw[e];generalize 2^i=n at h⊢
 exact IntWalk.u64_in _ (by omega)
theorem OQ {s i:Nat} (hs:s<U64) (hi:i<=63):bits .or .u64 (s:Int) (IntKind.u64.wrap (2^i))=((uY s i:Nat):Int):=by
 rw[OP hi];exact u64_or_nat s (2^i) (by unfold U64 at hs;exact hs) (by have h:=yJ (i:=i) (by omega);unfold U64 at h;exact h)
theorem SF {a b:Int} (h:a=b):Ending.returned (.int .u64 a)=Ending.returned (.int .u64 b):=by rw[h]
theorem nH (x y:Int) (w:World):Calls prog 109 #[.agg #[.int .i64 x,.int .i64 y]] w (Ret (.int .i64 (dJ (x,y))) w):=by
 rcases hc:bH (x,y)with _|_
 . have e : dJ (x, y) = -1 := by unfold dJ; rw [hc]; rfl
   rw[e];go_enter func109,ntmps109
   go_wp2_with fail
   refine(lF x y _).mono ?_;rintro e w1 ⟨rfl,hb1⟩;rw[hc];go_wp2;go_ret;exact⟨rfl,((Below.refl _ _).al _).tr hb1⟩
 . have e:=(dP hc).1;simp only at e;rw[e];have C:=dC.1 hc;simp only at C;obtain⟨⟨x1,x2⟩,y1,y2⟩:=C;go_enter func109,ntmps109
   go_wp2_with fail
   refine(lF x y _).mono ?_;rintro e w1 ⟨rfl,hb1⟩;obtain⟨hc1,a7,hz1⟩:=bk hb1;(try simp at hz1)
   have a6:w.heap.size<w1.heap.size:=(by omega);rw[hc];go_wp2;go_ret;exact⟨rfl,((Below.refl _ _).al _).tr hb1⟩
theorem iP (s:Nat) (x y:Int) (w:World) (hs:s<U64):Calls prog 62 #[.int .u64 s,.agg #[.int .i64 x,.int .i64 y]] w (Ret (.bool (bH (x,y)&&s.testBit (dJ (x,y)).toNat)) w):=by
 rcases hc:bH (x,y)with _|_
 . rw[Bool.false_and];go_enter func62,ntmps62
   go_wp2_with fail
   refine(lF x y _).mono ?_;rintro e w1 ⟨rfl,hb1⟩;rw[hc];go_wp2;go_ret;exact⟨rfl,((Below.refl _ _).al _).tr hb1⟩
 . rw[Bool.true_and];obtain⟨e,h0,h63⟩:=dP hc;obtain⟨i,hi⟩:=Int.eq_ofNat_of_zero_le h0;rw[hi,TD];have Hi:=Tk hi;have a7:i<=63:=(by omega);clear e h0 h63 hi;go_enter func62,ntmps62
   go_wp2_with fail
   refine(lF x y _).mono ?_;rintro e w1 ⟨rfl,hb1⟩;obtain⟨hc1,a8,hz1⟩:=bk hb1;(try simp at hz1)
   have a6:w.heap.size<w1.heap.size:=(by omega);rw[hc];go_wp2_with fail
   refine(nH x y _).mono ?_;rintro e w2 ⟨rfl,hb2⟩;rw[Hi.out];go_wp2;go_ret;exact⟨lJ (QX hs),(((Below.refl _ _).al _).tr hb1).tr hb2⟩
theorem Nq (s:Nat) (x y:Int) (w:World) (hs:s<U64) (hc:bH (x,y)=true):Calls prog 162 #[.int .u64 s,.agg #[.int .i64 x,.int .i64 y]] w (Ret (.int .u64 (uY s (dJ (x,y)).toNat:Nat)) w):=by
 obtain⟨e,h0,h63⟩:=dP hc;obtain⟨i,hi⟩:=Int.eq_ofNat_of_zero_le h0;rw[hi,TD];have Hi:=Tk hi;have a6:i<=63:=(by omega);clear e h0 h63 hi;go_enter Tryz.func162,Tryz.ntmps162
 go_wp2_with fail
 refine(nH x y _).mono ?_;rintro e w2 ⟨rfl,hb2⟩;rw[Hi.out];go_wp2;go_ret;exact⟨SF (OQ hs a6),((Below.refl _ _).al _).tr hb2⟩
def bW (rows:List Int):Bool:=decide (rows.length<=8)&&allIn 0 255 rows
theorem aR {rows:List Int}:bW rows=true↔dX rows:=by
 unfold bW dX;rw[TC,decide_eq_true_iff,FU]
theorem nV (v:Value) (rows:List Int) (w:World) (h:Rd 1 aZ w v rows):Calls prog 104 #[.agg #[v]] w (Ret (.bool (bW rows)) w):=by
 obtain⟨A,c,rfl,hc,hm⟩:=h.form;have h':=h.Tj ((Below.refl _ _).al (.cells #[.slice A rows.length c] 26));unfold bW;by_cases h8:(rows.length:Int)<=8
 . have e : decide (rows.length <= 8) = true := by simp; omega
   rw[e,Bool.true_and];go_enter func104,ntmps104
   go_wp2_with fail
   refine(nU _ rows _ _ _ h').mono ?_;rintro e w1 ⟨rfl,rfl⟩;go_wp2;go_ret;exact⟨rfl,(Below.refl _ _).al _⟩
 . have e : decide (rows.length <= 8) = false := by simp; omega
   rw[e,Bool.false_and];go_enter func104,ntmps104
   go_wp2;go_ret;exact⟨rfl,(Below.refl _ _).al _⟩
theorem QY {r:Int} {y:Nat} (h0:0<=r) (h1:r<=255) (hy:y<8):IntKind.u64.wrap (r*2^(8*y))=((r.toNat<<<(8*y):Nat):Int)/\r.toNat<<<(8*y)<U64:=by
 obtain⟨n,rfl⟩:=Int.eq_ofNat_of_zero_le h0;have hn:n<2^8:=by omega
 have hlt : n * 2 ^ (8 * y) < 2 ^ 64 := calc n * 2 ^ (8 * y) < 2 ^ 8 * 2 ^ (8 * y) := Nat.mul_lt_mul_of_pos_right hn (Nat.pow_pos (by decide))
     _=2^(8+8*y):=by rw[Nat.pow_add]
     _<=2^64:=TB (by decide) (by omega)
 rw[TD,Nat.shiftLeft_eq];refine⟨?_,hlt⟩;have e:(n:Int)*2^(8*y)=((n*2^(8*y):Nat):Int):=(by simp);rw[e];generalize n*2^(8*y)=m at hlt⊢
 exact IntWalk.u64_in _ (by omega)
theorem R8 {s:Nat} {r:Int} {y:Nat} (hs:s<U64) (h0:0<=r) (h1:r<=255) (hy:y<8):bits .or .u64 (s:Int) (IntKind.u64.wrap (r*2^(8*y)))=((s|||r.toNat<<<(8*y):Nat):Int)/\s|||r.toNat<<<(8*y)<U64:=by
 obtain⟨e,hl⟩:=QY h0 h1 hy;rw[e];generalize r.toNat<<<(8*y)=m at hl⊢
 unfold U64 at*;exact⟨u64_or_nat s m hs hl,Nat.or_lt_two_pow hs hl⟩
theorem pV (v:Value) (rows:List Int) (w:World) (h:Rd 1 aZ w v rows) (a6:Hid (dX rows)):Calls prog 61 #[.agg #[v]] w (Ret (.int .u64 (setOf rows:Nat)) w):=by
 obtain⟨A,c,rfl,hc,hm⟩:=h.form;have h':=h.Tj ((Below.refl _ _).al (.cells #[.slice A rows.length c] 26));have h8:rows.length<=8:=a6.out.1;go_enter Tryz.func61,Tryz.ntmps61
 go_wp2;go_loopw [3,9] (fun q i wr=>∃(k s:Nat),k<=rows.length/\i= .int .i64 k/\q= .int .u64 s/\Hid (s<U64/\lZ s k (rows.drop k)=setOf rows)/\wr=w.alloc (.cells #[.slice A rows.length c] 26)) (fun _ i _=>rows.length-(intOf i).toNat)
 case atStart=>exact⟨0,0,Tv _,rfl,rfl,Tk ⟨by unfold U64;decide,rfl⟩,rfl⟩
 case round=>
  obtain⟨k,s,hk,rfl,rfl,Hg,rfl⟩:=hrel;by_cases hlt:k<rows.length
  . obtain⟨b,off,rfl,hb,q1⟩:=h'.uX hlt;have hr:=a6.out.2 rows[k] (Tq hlt);obtain⟨e1,e2⟩:=R8 Hg.out.1 hr.1 hr.2 (y:=k) (by omega)
    have HG:Hid (s|||rows[k].toNat<<<(8*k)<U64/\lZ (s|||rows[k].toNat<<<(8*k)) (k+1) (rows.drop (k+1))=setOf rows):=by
     have G:=Hg.out.2;rw[List.drop_eq_getElem_cons hlt,lZ]at G;exact Tk ⟨e2,G⟩
    have E1:=Tk e1;clear e1 e2;go_wp2;go_roundw
    case rel=>exact⟨k+1,_,by omega,by go_num,by rw[E1.out],HG,trivial⟩
    case measure=>simp[intOf];omega
  . go_wp2;go_ret;have G:=Hg.out.2;rw[List.drop_of_length_le (by omega),lZ]at G;exact⟨SF (by rw[G]),(Below.refl _ _).al _⟩
theorem fF (w:World) {E:TypeId} {α:Type} {size:Nat} {enc:α->List Value}:aD E size enc w.heap.size (w.alloc (.cells #[] E)) (.slice (some ⟨w.heap.size,0,none⟩) 0 0) ([]:List α):=by
 have:=World.ownsRow_lit (e:=E) (size:=size) w #[] 0 (Tu _) (by simp[maxLen]) (by simp);exact this
theorem KU (v:Value) (l:List Int) (w:World) (h:Rd 1 aZ w v l) (hl:Small l.length):Calls prog 143 #[v] w (fM 3 1 aW l w):=by
 obtain⟨A,c,rfl,hc,hm⟩:=h.form;have h':=h.Tj ((Below.refl _ _).al (.cells #[] 3));have a7:(0+l.length)*8<=140737488355328:=by unfold Small at hl;omega
 have hsm:0+l.length<=maxLen:=by have:=hl.max;omega
 have H8:=Tk a7;have HM:=Tk hsm;clear a7 hsm;go_enter Tryz.func143,Tryz.ntmps143
 go_wp2_with (at_builtin;go_must (refine dN (enc:=aW) fP aM jS (B:=w.heap.size) (by simp) (fF w) h' H8.out HM.out rfl _ _ rfl rfl rfl ?_);intro v1 w1 a6 hb1 a8;obtain⟨A1,c1,rfl⟩:=a8;simp only[List.nil_append,List.length_nil,Nat.zero_add]at a6)
 go_wp2;go_ret;exact⟨A1,c1,rfl,a6,((Below.refl _ _).al _).trans hb1⟩
def CJ (l:List Int) (w:World) (e:Ending) (w':World):Prop:=∃A c,e= .returned (.agg #[.slice A l.length c])/\aD 3 1 aW w.heap.size w' (.slice A l.length c) l/\Below w.heap.size w w'
theorem aD.low {α:Type} {E:TypeId} {size:Nat} {enc:α->List Value} {B:Nat} {w:World} {v:Value} {l:List α} (h:aD E size enc B w v l) {p:Addr} (hp:p.block<B) (u:Value):aD E size enc B (w.setCell p u) v l:=ownsRow_setCell_below h hp u
theorem yL (v:Value) (l:List Int) (w:World) (h:Rd 1 aZ w v l) (hl:Small l.length):Calls prog 89 #[.agg #[v]] w (CJ l w):=by
 obtain⟨A,c,rfl,hc,hm⟩:=h.form;have h':=h.Tj (((Below.refl _ _).al (.cells #[.slice A l.length c] 26)).al (.cells #[.slice none 0 0] 26));go_enter Tryz.func89,Tryz.ntmps89
 go_wp2_with fail
 refine(KU _ l _ h' hl).mono ?_;rintro e w1 ⟨A1,c1,rfl,a6,hb1⟩;obtain⟨hc1,bA,hz1⟩:=bk hb1;(try simp at hz1)
 have a7:w.heap.size<w1.heap.size:=(by omega);have a8:w.heap.size+1<w1.heap.size:=(by omega);go_wp2;refine bodyPost_ret (v:= .agg #[.slice A1 l.length c1]) (by simp[results,Tryz.results89,go_sem,hc1]) rfl ⟨A1,c1,rfl,(a6.low (by simp) _).mono (by simp;omega),?_⟩;exact((((Below.refl _ _).al _).al _).tr hb1).st _ _ (Nat.le_succ _)
end Go.Proofs.YtjijonhkofhikaaGreatDoor
