/- leastPrices of the program, l35Least of the reference: both return the same list. Conditions: valid boxes, at most 500 tiles. l35Least of the reference: it returns the list that leastPrices returns. Conditions: valid boxes, at most 500 tiles. CheapestBoxes and BoxesHold: the walks and the laws. For all arguments the laws return true. No conditions. BoxesHold: the walks and the law. For all arguments the law returns true. No conditions. append to a list of the call's own, in plain and in drawn regions; a slice variable in a box. Plain lemmas; no conditions but sizes. A slice without its head, as a step of a walk: it reads as the list without its head. Plain lemmas; no conditions. Sets of cells as numbers: bits, rows, cells. Plain lemmas on numbers and lists; no program in sight; no conditions but sizes. Cells and dominoes: validity, ends, order, prices: the walks of the program and of the reference. No conditions but that numbers are ints. CellsUnder of the reference. No conditions but a valid domino. Sets and regions: the walks of the program. No conditions but that a set is a number below 2^64. Copies, rows of a set, WithCell of the program. No conditions but sizes.. Conditions, where there are any, stand in the statements. -/
import Derived.Test.YtljfoohaapckeaaGreatDoorDK1
import Derived.RegionTactic
import Derived.Deep.AppendLies
import Derived.Laws.BitsAllLaws
import Derived.ChangeAlike
import Derived.BigRegion
import Derived.Deep.DeepMust
import Derived.Deep.RegionLaw
open _root_.List (mem_cons_self getElem?_eq_getElem getD_eq_getElem?_getD getElem_mem range map_cons map_nil length_append)
open _root_.Nat (le_refl zero_le one_pos mul_one add_zero testBit_lt_two_pow lt_of_lt_of_le pow_le_pow_right)
open _root_.Go.IntWalk (i64_in u64_in)
open _root_.Go.Proofs.Tryz (prog func71 ntmps71 func74 ntmps74 func44 ntmps44 func27 ntmps27 func203 ntmps203 func112 ntmps112 func158 ntmps158 func142 ntmps142 func168 ntmps168 func110 ntmps110 func165 ntmps165)
namespace Go.Proofs.YtljfoohaapckeaaGreatDoor
open Go.ChangeShapes Go.WideShapes Go.ChangeAt Go.RowKit
set_option linter.unusedVariables false
set_option maxHeartbeats 4000000
set_option maxRecDepth 100000
def iT (out:List Int) (m:Int):List (Int×Int)->Int->Int
  |[],fH=>fH
  |b::r,fH=>iT out m r (if fH<0∨out.getD (m-b.1).toNat 0+b.2<fH then out.getD (m-b.1).toNat 0+b.2 else fH)
def gH (l:List (Int×Int)):Nat->List Int->List Int
  |0,out=>out
  |j+1,out=>gH l j (out++[iT out out.length l (-1)])
def least (l:List (Int×Int)) (n:Nat):List Int:=gH l n [0]
def qB (out:List Int):Prop:=∀(i:Nat) (p:Int),out[i]? =some p->-1<=p/\p<=1000*i
theorem JW {out:List Int} (hp:qB out) (m:Nat) (hm:m=out.length) (hm1:1<=m):∀(r:List (Int×Int)) (fH:Int),(∀x∈r,eU x)->-1<=fH->fH<=1000*m->-1<=iT out m r fH/\iT out m r fH<=1000*m:=by
 intro r;induction r with
 |nil=>intro fH _ h1 h2;exact⟨h1,h2⟩
 |cons x r ih=>
  intro fH hx h1 h2;unfold iT;have F:=hx x (mem_cons_self);unfold eU at F;have hi:((m:Int)-x.1).toNat<out.length:=(by omega);have hq:=hp _ _ (getElem?_eq_getElem hi);rw[getD_eq_getElem?_getD,getElem?_eq_getElem hi,Option.getD_some];have hb:(((m:Int)-x.1).toNat:Int)<=m-1:=(by omega);apply ih
  . exact fun y hy=>hx y (List.mem_cons_of_mem _ hy)
  . split<;>omega
  . split<;>omega
theorem qB.push {out:List Int} (hp:qB out) {p:Int} (h1: -1<=p) (h2:p<=1000*out.length):qB (out++[p]):=by
 intro i q h;by_cases hi:i<out.length
 . rw[List.getElem?_append_left hi]at h;exact hp i q h
 . have : i = out.length := by have := (List.getElem?_eq_some_iff.1 h).1; simp at this; omega
   subst this;simp at h;subst h;exact⟨h1,h2⟩
theorem qO:qB [0]:=by
 intro i q h;have:i=0:=by have:=(List.getElem?_eq_some_iff.1 h).1;simpa using this
 subst this;simp at h;subst h;omega
theorem FD (l:List (Int×Int)):∀(j:Nat) (out:List Int),(gH l j out).length=out.length+j:=by
 intro j;induction j with
 |zero=>intro out;rfl
 |succ j ih=>intro out;rw[gH,ih];simp;omega
theorem eH (l:List (Int×Int)) (n:Nat):(least l n).length=n+1:=by unfold least;rw[FD];simp;omega
theorem Ar (l:List (Int×Int)) (hl:∀x∈l,eU x):∀(j:Nat) (out:List Int),1<=out.length->qB out->qB (gH l j out):=by
 intro j;induction j with
 |zero=>intro out _ h;exact h
 |succ j ih=>
  intro out h1 h;rw[gH];have b:=JW h out.length rfl h1 l (-1) hl (by omega) (by omega);exact ih _ (by simp) (h.push b.1 b.2)
theorem Dr {out:List Int} {m:Int} {l:List (Int×Int)} {k:Nat} {fH R:Int} (H:Hid (iT out m (l.drop k) fH=R)) (h:k<l.length):
 Hid (iT out m (l.drop (k+1)) (if fH<0∨out.getD (m-l[k].1).toNat 0+l[k].2<fH then out.getD (m-l[k].1).toNat 0+l[k].2 else fH)=R):=by
 have:=H.out;rw[List.drop_eq_getElem_cons h,iT]at this;exact this
theorem AJ {out:List Int} {m:Int} {l:List (Int×Int)} {k:Nat} {fH R:Int} (H:Hid (iT out m (l.drop k) fH=R)) (h:l.length<=k):R=fH:=by
 have:=H.out;rw[List.drop_of_length_le h,iT]at this;exact this.symm
theorem AL (v:Value) (l:List (Int×Int)) (n:Nat) (w:World) (h:Rd 2 bT w v l) (Hall:Hid (∀x∈l,eU x)) (hn:n<=500) (hl5:l.length<=1048576):
 Calls prog 106 #[v,.int .i64 n] w (jA 3 1 aY (least l n) w):=by
 obtain⟨A,c,rfl,hc,hm⟩:=h.form;go_enter Tryz.func106,Tryz.ntmps106
 go_wp2;go_loopw [5,6] (fun o i wr=>∃(out:List Int) (A':Option Addr) (c':Nat),1<=out.length/\out.length<=n+1/\i= .int .i64 out.length/\o= .slice A' out.length c'/\Hid (qB out)/\Hid (gH l (n+1-out.length) out=least l n)/\aC 3 1 aY w.heap.size wr (.slice A' out.length c') out/\Below w.heap.size w wr) (fun _ i _=>n+1-(intOf i).toNat)
 case atStart=>exact⟨[0],_,_,by decide,by simp,rfl,rfl,OA qO,OA rfl,World.ownsRow_lit w #[.int .i64 0] 1 (le_refl _) (by simp[maxLen]) rfl,(Below.refl _ _).al _⟩
 case round=>
  obtain⟨out,A',c',ho1,ho2,rfl,rfl,Hp,Hg,hown,hbel⟩:=hrel;by_cases hlt:out.length<=n
  . have hltI : (out.length : Int) <= n := by omega
    go_wp2;obtain⟨wo,rfl⟩:∃wo:World,wo=wr:=⟨_,rfl⟩;go_loopw [7,19] (fun q i wi=>∃(k:Nat) (fH:Int),k<=l.length/\i= .int .i64 k/\q= .int .i64 fH/\-1<=fH/\fH<=1000*out.length/\Hid (iT out out.length (l.drop k) fH=iT out out.length l (-1))/\aC 3 1 aY w.heap.size wi (.slice A' out.length c') out/\Below w.heap.size w wi) (fun _ i _=>l.length-(intOf i).toNat)
    case atStart=>exact⟨0,-1,zero_le _,rfl,rfl,by omega,by omega,OA rfl,hown,hbel⟩
    case round=>
     obtain⟨k,fH,hk,rfl,rfl,hb1,hb2,Hb,hown,hbel⟩:=hrel;by_cases hkl:k<l.length
     . obtain⟨b,off,rfl,hb,h1,h2⟩:=(h.Oz hbel).eZ hkl;have F:=Hall.out l[k] (getElem_mem hkl);have F1:=F.1;have F2:=F.2.1;have F3:=F.2.2.1;have F4:=F.2.2.2;clear F;obtain⟨s,hs⟩:=Oy (l[k].1);obtain⟨p,hp⟩:=Oy (l[k].2);rw[<-hs]at h1 F1 F2;rw[<-hp]at h2 F3 F4;obtain⟨i,hi⟩:∃i:Nat,i=((out.length:Int)-s).toNat:=⟨_,rfl⟩;have hio:i<out.length:=(by omega);obtain⟨q,hq⟩:=Oy (out[i]);have hq2:=Hp.out i q (by rw[hq];exact getElem?_eq_getElem hio);have hq3: -1<=q:=hq2.1;have hq4:q+1000<=1000*out.length:=by have:=hq2.2;omega
       obtain⟨g,hA,hB,hgl⟩:=hown.split hio;have hs1:=hown.alloc (.cells #[.int .i64 s,.int .i64 p] 102);subst hA;have hcell:=hs1.slot aL one_pos hio 0 _ rfl;rw[mul_one,add_zero,<-hq]at hcell;have hmax:max ((out.length:Int)-s) 0=(i:Int):=(by omega);have hG:=Dr Hb hkl;rw[<-hs,<-hp,<-hi,getD_eq_getElem?_getD,getElem?_eq_getElem hio,Option.getD_some,<-hq]at hG;have Hs:=OA hs;have Hpp:=OA hp;have Hi:=OA hi;have Hq:=OA hq;clear hs hp hi hq hq2 hs1
       have e2:(if IntKind.i64.wrap ((out.length:Int)-s)<0 then(0:Int)else IntKind.i64.wrap ((out.length:Int)-s))=(i:Int):=by
        rw[i64_in _ (by omega)];have:=Hi.out;split<;>omega
       have e3:IntKind.i64.wrap (q+p)=q+p:=i64_in _ (by omega);have hioI:(i:Int)<out.length:=(by omega);clear hmax;go_wp2_with fail
       go_quiet (fail)
       clear e2 e3;go_wp2
       all_goals
         go_roundw
         case rel=>exact⟨k+1,_,by omega,by go_num,rfl,by omega,by omega,by first|(rw[if_pos (by omega)]at hG;exact hG)|(rw[if_neg (by omega)]at hG;exact hG),(hown.alloc _).drewN _,below_drewN (hbel.al _) _⟩
         case measure=>simp[intOf];omega
     . have hbe := AJ Hb (by omega)
       have HG:Hid (gH l (n+1-(out++[fH]).length) (out++[fH])=least l n):=by
        have:=Hg.out;rw[show n+1-out.length=(n+1-(out++[fH]).length)+1 by simp;omega,gH,hbe]at this;exact this
       clear hbe Hb;go_wp2_with (at_builtin;go_must (refine aG (enc:=aY) fA aL jD hbel hown fH (by omega) (by unfold maxLen;omega) rfl _ _ rfl rfl rfl ?_);intro v1 w1 own1 hbA hg1 hd1;obtain⟨A1,c1,rfl,hc1,hm1⟩:=own1.form)
       go_roundw
       case rel=>exact⟨out++[fH],A1,c1,by simp,by simp;omega,by simp,by simp,OA (Hp.out.push hb1 hb2),HG,own1,hbA⟩
       case measure=>simp[intOf];omega
  . go_wp2;go_ret;have e:n+1-out.length=0:=(by omega);have G:=Hg.out;rw[e,gH]at G;rw[<-G];exact⟨_,_,rfl,hown,hbel⟩
theorem AO (v:Value) (l:List (Int×Int)) (n:Nat) (w:World) (h:Rd 2 bT w v l) (Hall:Hid (∀x∈l,eU x)) (hn:n<=500) (hl5:l.length<=1048576):
 Calls prog 75 #[v,.int .i64 n] w (jA 3 1 aY (least l n) w):=by
 obtain⟨A,c,rfl,hc,hm⟩:=h.form;go_enter Tryz.func75,Tryz.ntmps75
 have hn1:8*(n+1)<=281474976710656:=(by omega);have hn2:n+1<=maxLen:=by unfold maxLen;omega
 have hL:(n:Int)+1=((n+1:Nat):Int):=(by omega);have Hn1:=OA hn1;have Hn2:=OA hn2;have HL:=OA hL;clear hn1 hn2 hL;go_wp2_with (at_make;go_must (refine kS (enc:=aY) (z0:=(0:Int)) fA rfl (Below.refl _ w) (n+1) Hn1.out Hn2.out _ HL.out rfl _ _ rfl rfl rfl ?_);intro w1 hown1 hb1 hg1)
 go_loopw [6] (fun i wr=>∃(x:Nat) (arr:List Int),1<=x/\x<=n+1/\i= .int .i64 x/\arr.length=n+1/\Hid (qB (arr.take x))/\Hid (gH l (n+1-x) (arr.take x)=least l n)/\aC 3 1 aY w.heap.size wr (.slice (some ⟨w.heap.size,0,none⟩) (n+1) (n+1)) arr/\Below w.heap.size w wr) (fun i _=>n+1-(intOf i).toNat)
 case atStart=>exact⟨1,List.replicate (n+1) 0,by decide,by omega,rfl,by simp,OA (by simpa using qO),OA (by simp[least]),hown1,hb1⟩
 case round=>
  obtain⟨x,arr,hx1,hx2,rfl,hal,Hp,Hg,hown,hbel⟩:=hrel;have Hal:=OA hal;clear hal hown1 hb1 hg1;by_cases hlt:x<=n
  . have hltI : (x : Int) <= n := by omega
    obtain⟨u,hs1⟩:=hown.Az aL (k:=x) (by rw[Hal.out];omega);have hsf:=hown.free;go_wp2;obtain⟨wo,rfl⟩:∃wo:World,wo=wr:=⟨_,rfl⟩;have hown0:=hown.iJ aL (k:=x) (y:= -1) (by rw[Hal.out];omega) rfl;have hbel0:=hbel.st ⟨w.heap.size,x,none⟩ (.int .i64 (-1)) (le_refl _);go_loopw [7] (fun i wi=>∃(k:Nat) (fH:Int),k<=l.length/\i= .int .i64 k/\-1<=fH/\fH<=1000*x/\Hid (iT (arr.take x) x (l.drop k) fH=iT (arr.take x) x l (-1))/\aC 3 1 aY w.heap.size wi (.slice (some ⟨w.heap.size,0,none⟩) (n+1) (n+1)) (arr.set x fH)/\Below w.heap.size w wi) (fun i _=>l.length-(intOf i).toNat)
    case atStart=>exact⟨0,-1,zero_le _,rfl,by omega,by omega,OA rfl,hown0,hbel0⟩
    case round=>
     clear hown hbel hs1 hsf hown0 hbel0;obtain⟨k,fH,hk,rfl,hb1,hb2,Hb,hown,hbel⟩:=hrel;have hal:(arr.set x fH).length=n+1:=by rw[List.length_set];exact Hal.out
     by_cases hkl:k<l.length
     . obtain⟨b,off,rfl,hb,h1,h2⟩:=(h.Oz hbel).eZ hkl;have F:=Hall.out l[k] (getElem_mem hkl);have F1:=F.1;have F2:=F.2.1;have F3:=F.2.2.1;have F4:=F.2.2.2;clear F;obtain⟨s,hs⟩:=Oy (l[k].1);obtain⟨p,hp⟩:=Oy (l[k].2);rw[<-hs]at h1 F1 F2;rw[<-hp]at h2 F3 F4;obtain⟨i,hi⟩:∃i:Nat,i=((x:Int)-s).toNat:=⟨_,rfl⟩;have hix:i<x:=(by omega);have hio:i<arr.length:=by rw[Hal.out];omega
       obtain⟨q,hq⟩:=Oy (arr[i]);have hqt:(arr.take x)[i]? =some q:=by rw[List.getElem?_take_of_lt hix,hq];exact getElem?_eq_getElem hio
       have hq2:=Hp.out i q hqt;have hq3: -1<=q:=hq2.1;have hq4:q+1000<=1000*x:=by have:=hq2.2;omega
       have hcell:=hown.slot aL one_pos (k:=i) (by omega) 0 (.int .i64 q) (by rw[List.getElem_set_ne (by omega),<-hq];rfl);have hcellx:=hown.slot aL one_pos (k:=x) (by omega) 0 (.int .i64 fH) (by rw[List.getElem_set_self];rfl);have hfx:=hown.free;rw[mul_one,add_zero]at hcell hcellx;have hG:=Dr Hb hkl;rw[<-hs,<-hp,<-hi,getD_eq_getElem?_getD,hqt,Option.getD_some,Int.add_comm q p]at hG;have Hs:=OA hs;have Hpp:=OA hp;have Hi:=OA hi;have Hq:=OA hq;have Hhal:=OA hal;clear hs hp hi hq hq2 hqt hal
       have e2:(if(0:Int)<IntKind.i64.wrap ((x:Int)-s)then IntKind.i64.wrap ((x:Int)-s)else(0:Int))=(i:Int):=by
        rw[i64_in _ (by omega)];have:=Hi.out;split<;>omega
       have e2':(if IntKind.i64.wrap ((x:Int)-s)<(0:Int)then(0:Int)else IntKind.i64.wrap ((x:Int)-s))=(i:Int):=by
        rw[i64_in _ (by omega)];have:=Hi.out;split<;>omega
       have e2'':(if IntKind.i64.wrap ((x:Int)-s)<=(0:Int)then(0:Int)else IntKind.i64.wrap ((x:Int)-s))=(i:Int):=by
        rw[i64_in _ (by omega)];have:=Hi.out;split<;>omega
       have e3:IntKind.i64.wrap (p+q)=p+q:=i64_in _ (by omega);have hioI:(i:Int)<n+1:=(by omega);go_wp2_with fail
       go_quiet (fail)
       clear e2 e2' e2'' e3;go_wp2
       all_goals
         go_roundw
         case rel=>
          first
          |exact⟨k+1,p+q,by omega,by go_num,by omega,by omega,by rw[if_pos (by omega)]at hG;exact hG,(hown.drewN _).MB aL (by rw[Hal.out];omega) rfl,Below.st (below_drewN hbel _) _ _ (le_refl _)⟩
          |exact⟨k+1,fH,by omega,by go_num,by omega,by omega,by rw[if_neg (by omega)]at hG;exact hG,hown.drewN _,below_drewN hbel _⟩
         case measure=>simp[intOf];omega
     . have hbe := AJ Hb (by omega);have hxl:x<arr.length:=by rw[Hal.out];omega
       have htk:(arr.take x).length=x:=by rw[List.length_take];omega
       have HG:Hid (gH l (n+1-(x+1)) ((arr.set x fH).take (x+1))=least l n):=by
        have:=Hg.out;rw[show n+1-x=(n+1-(x+1))+1 by omega,gH,htk,hbe,<-take_set _ hxl]at this;exact this
       have HP:Hid (qB ((arr.set x fH).take (x+1))):=OA (by rw[take_set _ hxl];exact Hp.out.push hb1 (by rw[htk];exact hb2));clear hbe Hb hxl htk;go_wp2;go_roundw
       case rel=>exact⟨x+1,arr.set x fH,by omega,by omega,by go_num,hal,HP,HG,hown,hbel⟩
       case measure=>simp[intOf];omega
  . go_wp2;go_ret;have G:=Hg.out;rw[show n+1-x=0 by omega,gH,List.take_of_length_le (by rw[Hal.out];omega)]at G;rw[<-G];have e:arr.length=n+1:=Hal.out;rw[<-e]at hown⊢;exact⟨_,_,rfl,hown,hbel⟩
def cheapest (l:List (Int×Int)) (n:Int):Int:=if bV l l.length&&inB n 0 500 then(least l n.toNat).getD n.toNat 0 else-1
theorem kT {l : List (Int × Int)} (h : bV l l.length = true) {n : Nat} (hn : n <= 500) : cheapest l n = (least l n)[n]'(by rw [eH]; omega) := by
 have hi:inB (n:Int) 0 500=true:=by simp[inB];omega
 unfold cheapest;rw[h,hi,if_pos (by rfl),Int.toNat_natCast,getD_eq_getElem?_getD,getElem?_eq_getElem (by rw[eH];omega)];rfl
theorem vG (v:Value) (l:List (Int×Int)) (n:Int) (w:World) (h:Rd 2 bT w v l):Calls prog 71 #[v,.int .i64 n] w (Ret (.int .i64 (cheapest l n)) w):=by
 rcases hok:bV l l.length with _|_
 . have hr : cheapest l n = -1 := by unfold cheapest; rw [hok]; rfl
   rw[hr];go_enter func71,ntmps71
   go_wp2_with fail
   refine(jH _ l _ h).mono ?_;rintro e w1 ⟨rfl,hb1⟩;rw[hok];go_wp2;go_ret;exact⟨rfl,hb1⟩
 . rcases hin:inB n 0 500 with _|_
   . have hr : cheapest l n = -1 := by unfold cheapest; rw [hok, hin]; rfl
     rw[hr];go_enter func71,ntmps71
     go_wp2_with fail
     refine(jH _ l _ h).mono ?_;rintro e w1 ⟨rfl,hb1⟩;rw[hok];go_wp2_with fail
     refine(fI _ _ _ _).mono ?_;rintro e w2 ⟨rfl,rfl⟩;rw[hin];go_wp2;go_ret;exact⟨rfl,hb1⟩
   . obtain⟨hall,h1,h5⟩:=jG _ _ hok;have hn0:0<=n/\n<=500:=(by simpa[inB]using hin);obtain⟨n,rfl⟩:=Int.eq_ofNat_of_zero_le hn0.1;have hn:n<=500:=(by omega);have hl5:l.length<=1048576:=(by omega);have hnl:n<(least l n).length:=by rw[eH];omega
     have hnI:(n:Int)<(least l n).length:=(by omega);obtain⟨r,hr⟩:=Oy ((least l n)[n]);have hc:cheapest l n=r:=(by rw[kT hok hn,hr]);rw[hc];have Hr:=OA hr;have Hall:=OA hall;clear hc hr hall;go_enter func71,ntmps71
     go_wp2_with fail
     refine(jH _ l _ h).mono ?_;rintro e w1 ⟨rfl,hb1⟩;rw[hok];go_wp2_with fail
     refine(fI _ _ _ _).mono ?_;rintro e w2 ⟨rfl,rfl⟩;rw[hin];go_wp2_with fail
     refine(AL _ l n _ (h.Oz hb1) Hall hn hl5).mono ?_;rintro e w3 ⟨A3,c3,rfl,own3,hb3⟩;obtain⟨g,rfl,hB,hg⟩:=own3.split hnl;have hcell:=own3.slot aL one_pos hnl 0 (.int .i64 r) (by rw[Hr.out];rfl);rw[mul_one,add_zero]at hcell;go_wp2;go_ret;exact⟨rfl,Below.tr (hb1) hb3⟩
theorem vH (v:Value) (l:List (Int×Int)) (n:Int) (w:World) (h:Rd 2 bT w v l):Calls prog 74 #[v,.int .i64 n] w (Ret (.int .i64 (cheapest l n)) w):=by
 rcases hok:bV l l.length with _|_
 . have hr : cheapest l n = -1 := by unfold cheapest; rw [hok]; rfl
   rw[hr];go_enter func74,ntmps74
   go_wp2_with fail
   refine(kE _ l _ h).mono ?_;rintro e w1 ⟨rfl,rfl⟩;rw[hok];go_wp2;go_ret;exact⟨rfl,Below.refl _ _⟩
 . rcases hin:inB n 0 500 with _|_
   . have hr : cheapest l n = -1 := by unfold cheapest; rw [hok, hin]; rfl
     rw[hr];go_enter func74,ntmps74
     go_wp2_with fail
     refine(kE _ l _ h).mono ?_;rintro e w1 ⟨rfl,rfl⟩;rw[hok];go_wp2_with fail
     refine(iI _ _ _ _).mono ?_;rintro e w2 ⟨rfl,rfl⟩;rw[hin];go_wp2;go_ret;exact⟨rfl,Below.refl _ _⟩
   . obtain⟨hall,h1,h5⟩:=jG _ _ hok;have hn0:0<=n/\n<=500:=(by simpa[inB]using hin);obtain⟨n,rfl⟩:=Int.eq_ofNat_of_zero_le hn0.1;have hn:n<=500:=(by omega);have hl5:l.length<=1048576:=(by omega);have hnl:n<(least l n).length:=by rw[eH];omega
     have hnI:(n:Int)<(least l n).length:=(by omega);obtain⟨r,hr⟩:=Oy ((least l n)[n]);have hc:cheapest l n=r:=(by rw[kT hok hn,hr]);rw[hc];have Hr:=OA hr;have Hall:=OA hall;clear hc hr hall;go_enter func74,ntmps74
     go_wp2_with fail
     refine(kE _ l _ h).mono ?_;rintro e w1 ⟨rfl,rfl⟩;rw[hok];go_wp2_with fail
     refine(iI _ _ _ _).mono ?_;rintro e w2 ⟨rfl,rfl⟩;rw[hin];go_wp2_with fail
     refine(AO _ l n _ h Hall hn hl5).mono ?_;rintro e w3 ⟨A3,c3,rfl,own3,hb3⟩;obtain⟨g,rfl,hB,hg⟩:=own3.split hnl;have hcell:=own3.slot aL one_pos hnl 0 (.int .i64 r) (by rw[Hr.out];rfl);rw[mul_one,add_zero]at hcell;go_wp2;go_ret;exact⟨rfl,Below.tr (Below.refl _ _) hb3⟩
def allIn (a b:Int):List Int->Bool
  |[]=>true
  |n::r=>inB n a b&&allIn a b r
theorem Cg {a b:Int} {l:List Int} {k:Nat} {r:Bool} (H:Hid (allIn a b (l.drop k)=r)) (h:k<l.length) (e:inB l[k] a b=true):Hid (allIn a b (l.drop (k+1))=r):=by
 have:=H.out;rw[List.drop_eq_getElem_cons h,allIn,e,Bool.true_and]at this;exact this
theorem Ch {a b:Int} {l:List Int} {k:Nat} {r:Bool} (H:Hid (allIn a b (l.drop k)=r)) (h:k<l.length) (e:inB l[k] a b=false):r=false:=by
 have:=H.out;rw[List.drop_eq_getElem_cons h,allIn,e,Bool.false_and]at this;exact this.symm
theorem yA {a b:Int} {l:List Int} {k:Nat} {r:Bool} (H:Hid (allIn a b (l.drop k)=r)) (h:l.length<=k):r=true:=by
 have:=H.out;rw[List.drop_of_length_le h,allIn]at this;exact this.symm
theorem uF {a b:Int} {l:List Int}:allIn a b l=true↔∀x∈l,a<=x/\x<=b:=by
 induction l with
 |nil=>simp[allIn]
 |cons x r ih=>simp[allIn,ih,inB]
theorem lQ (v:Value) (l:List Int) (a b:Int) (w:World) (h:Rd 1 bH w v l):
 Calls prog 63 #[v,.int .i64 a,.int .i64 b] w (Pure (.bool (allIn a b l)) w):=by
 obtain⟨A,c,rfl,hc,hm⟩:=h.form;go_enter Tryz.func63,Tryz.ntmps63
 go_wp2;go_loop [11] (fun i=>∃k:Nat,k<=l.length/\i= .int .i64 k/\Hid (allIn a b (l.drop k)=allIn a b l)) (fun i=>l.length-(intOf i).toNat)
 case atStart=>exact⟨0,zero_le _,rfl,OA rfl⟩
 case round=>
  obtain⟨k,hk,rfl,Hg⟩:=hrel;by_cases hlt:k<l.length
  . obtain⟨b,off,rfl,hb,h1⟩:=h.uE hlt;go_wp2_with (go_at_call 76;(with_reducible refine(fI _ _ _ _).mono ?_);rintro e w' ⟨rfl,rfl⟩)
    all_goals first
      | (go_round
         case rel=>exact⟨k+1,by omega,by go_num,Cg Hg hlt (by rename_i hx;simpa using hx)⟩
         case measure=>simp[intOf];omega)
      | (go_ret
         exact⟨kN (Ch Hg hlt (by rename_i hx;simpa using hx)).symm,rfl⟩)
  . go_wp2;go_ret;exact⟨kN (yA Hg (by omega)).symm,rfl⟩
def Dt (l:List (Int×Int)) (c:List Int) (k:Nat):Int:=((range k).map fun i=>c.getD i 0*(l.getD i (0,0)).1).sum
def Du (l:List (Int×Int)) (c:List Int) (k:Nat):Int:=((range k).map fun i=>c.getD i 0*(l.getD i (0,0)).2).sum
theorem Dv (l:List (Int×Int)) (c:List Int) (k:Nat) (h:k<l.length) (h':k<c.length):Dt l c (k+1)=Dt l c k+c[k]*l[k].1:=by
 simp[Dt,List.range_succ,getD_eq_getElem?_getD,getElem?_eq_getElem h,getElem?_eq_getElem h']
theorem Dw (l:List (Int×Int)) (c:List Int) (k:Nat) (h:k<l.length) (h':k<c.length):Du l c (k+1)=Du l c k+c[k]*l[k].2:=by
 simp[Du,List.range_succ,getD_eq_getElem?_getD,getElem?_eq_getElem h,getElem?_eq_getElem h']
theorem qC {a b m:Int} (ha:0<=a) (ha':a<=500) (hb:1<=b) (hb':b<=m):0<=a*b/\a*b<=500*m:=by
 refine⟨Int.mul_nonneg ha (by omega),?_⟩;exact Int.mul_le_mul ha' hb' (by omega) (by omega)
def hold (l:List (Int×Int)) (c:List Int):Int×Int:=if bV l l.length&&(c.length==l.length)&&allIn 0 500 c then(Dt l c l.length,Du l c l.length)else(0,0)
def MC (l:List (Int×Int)) (c:List Int) (k:Nat) (t p:Int):Prop:=t=Dt l c k/\p=Du l c k/\0<=t/\t<=25000*k/\0<=p/\p<=500000*k
theorem MC.step {l:List (Int×Int)} {c:List Int} {k:Nat} {t p:Int} (H:MC l c k t p) (h:k<l.length) (h':k<c.length) (hc:0<=c[k]/\c[k]<=500) (hx:eU l[k]):MC l c (k+1) (t+c[k]*l[k].1) (p+c[k]*l[k].2):=by
 obtain⟨h1,h2,h3,h4,h5,h6⟩:=H;obtain⟨x1,x2,x3,x4⟩:=hx;have m1:=qC hc.1 hc.2 x1 x2;have m2:=qC hc.1 hc.2 x3 x4;refine⟨by rw[Dv l c k h h',h1],by rw[Dw l c k h h',h2],?_,?_,?_,?_⟩<;>omega
theorem JX (u v:Value) (l:List (Int×Int)) (cs:List Int) (w:World) (h:Rd 2 bT w u l) (hv:Rd 1 bH w v cs) (hok:bV l l.length=true) (hlen:cs.length=l.length) (hin:allIn 0 500 cs=true):
 Calls prog 44 #[u,v] w (Ret (.tuple #[.int .i64 (Dt l cs l.length),.int .i64 (Du l cs l.length)]) w):=by
 obtain⟨A,c,rfl,hc,hm⟩:=h.form;obtain⟨A',c',rfl,hc',hm'⟩:=hv.form;obtain⟨hall,h1,h5⟩:=jG _ _ hok;have hne:((cs.length:Int) !=(l.length:Int))=false:=(by simp[hlen]);have hci:=uF.1 hin;have Hall:=OA hall;have Hlen:=OA hlen;have Hci:=OA hci;clear hall hlen hci;go_enter func44,ntmps44
 go_wp2_with fail
 refine(jH _ l _ h).mono ?_;rintro e w1 ⟨rfl,hb1⟩;rw[hok];go_wp2_with fail
 refine(lQ _ cs _ _ _ (hv.Oz hb1)).mono ?_;rintro e w2 ⟨rfl,rfl⟩;rw[hin];go_wp2;go_loopw [6,7,27] (fun a b i wr=>∃(k:Nat) (t p:Int),k<=l.length/\i= .int .i64 k/\a= .int .i64 t/\b= .int .i64 p/\Hid (MC l cs k t p)/\Below w.heap.size w wr) (fun _ _ i _=>l.length-(intOf i).toNat)
 case atStart=>exact⟨0,0,0,zero_le _,rfl,rfl,rfl,OA ⟨rfl,rfl,by omega,by omega,by omega,by omega⟩,hb1⟩
 case round=>
  obtain⟨k,t,p,hk,rfl,rfl,rfl,Hs,hbel⟩:=hrel;clear hb1;by_cases hlt:k<l.length
  . have hltc : k < cs.length := by have := Hlen.out; omega
    obtain⟨b,off,rfl,hb,q1,q2⟩:=(h.Oz hbel).eZ hlt;obtain⟨b',off',rfl,hb',q3⟩:=(hv.Oz hbel).uE hltc;have C:=Hci.out cs[k] (getElem_mem hltc);have F:=Hall.out l[k] (getElem_mem hlt);have HS:=OA (Hs.out.step hlt hltc C F);obtain⟨s1,s2,s3,s4,s5,s6⟩:=Hs.out;have m1:=qC C.1 C.2 F.1 F.2.1;have m2:=qC C.1 C.2 F.2.2.1 F.2.2.2;have e1:IntKind.i64.wrap (cs[k]*l[k].1)=cs[k]*l[k].1:=i64_in _ (by omega);have e2:IntKind.i64.wrap (cs[k]*l[k].2)=cs[k]*l[k].2:=i64_in _ (by omega);have e3:IntKind.i64.wrap (t+cs[k]*l[k].1)=t+cs[k]*l[k].1:=i64_in _ (by omega);have e4:IntKind.i64.wrap (p+cs[k]*l[k].2)=p+cs[k]*l[k].2:=i64_in _ (by omega);have hltI:(k:Int)<cs.length:=(by omega);clear s1 s2 C F;go_wp2_with fail
    go_quiet (fail)
    go_wp2_with fail
    go_quiet (fail)
    clear e1 e2 e3 e4;go_wp2;go_roundw
    case rel=>exact⟨k+1,_,_,by omega,by go_num,rfl,rfl,HS,below_drewN (hbel.al _) _⟩
    case measure=>simp[intOf];omega
  . go_wp2;go_ret2
    obtain rfl:k=l.length:=by omega
    obtain⟨s1,s2,_⟩:=Hs.out;exact⟨Oq s1 s2,hbel⟩
theorem KP (u v:Value) (l:List (Int×Int)) (cs:List Int) (w:World) (h:Rd 2 bT w u l) (hv:Rd 1 bH w v cs) (hno:(bV l l.length&&(cs.length==l.length)&&allIn 0 500 cs)=false):
 Calls prog 44 #[u,v] w (Ret (.tuple #[.int .i64 0,.int .i64 0]) w):=by
 obtain⟨A,c,rfl,hc,hm⟩:=h.form;obtain⟨A',c',rfl,hc',hm'⟩:=hv.form;rcases hok:bV l l.length with _|_
 . go_enter func44,ntmps44
   go_wp2_with fail
   refine(jH _ l _ h).mono ?_;rintro e w1 ⟨rfl,hb1⟩;rw[hok];go_wp2;go_ret2
   exact⟨rfl,hb1⟩
 . by_cases hlen:cs.length=l.length
   . have hne : ((cs.length : Int) != (l.length : Int)) = false := by simp [hlen]
     have hin:allIn 0 500 cs=false:=(by simpa[hok,hlen]using hno);have Hlen:=OA hlen;clear hlen hno;go_enter func44,ntmps44
     go_wp2_with fail
     refine(jH _ l _ h).mono ?_;rintro e w1 ⟨rfl,hb1⟩;rw[hok];go_wp2_with fail
     refine(lQ _ cs _ _ _ (hv.Oz hb1)).mono ?_;rintro e w2 ⟨rfl,rfl⟩;rw[hin];go_wp2;go_ret2
     exact⟨rfl,hb1⟩
   . have hne : ((cs.length : Int) != (l.length : Int)) = true := by simp; omega
     clear hno;go_enter func44,ntmps44
     go_wp2_with fail
     refine(jH _ l _ h).mono ?_;rintro e w1 ⟨rfl,hb1⟩;rw[hok];go_wp2;go_ret2
     exact⟨rfl,hb1⟩
theorem JY (u v:Value) (l:List (Int×Int)) (cs:List Int) (w:World) (h:Rd 2 bT w u l) (hv:Rd 1 bH w v cs):
 Calls prog 44 #[u,v] w (Ret (.tuple #[.int .i64 (hold l cs).1,.int .i64 (hold l cs).2]) w):=by
 rcases hc:(bV l l.length&&(cs.length==l.length)&&allIn 0 500 cs)with _|_
 . have e : hold l cs = (0, 0) := by unfold hold; rw [hc]; rfl
   rw[e];exact KP u v l cs w h hv hc
 . have e : hold l cs = (Dt l cs l.length, Du l cs l.length) := by unfold hold; rw [hc]; rfl
   rw[e];simp only[Bool.and_eq_true,beq_iff_eq]at hc;exact JX u v l cs w h hv hc.1.1 hc.1.2 hc.2
theorem Dx (u v:Value) (l:List (Int×Int)) (cs:List Int) (w:World) (h:Rd 2 bT w u l) (hv:Rd 1 bH w v cs):
 Calls prog 27 #[u,v] w (Ret (.tuple #[.int .i64 (hold l cs).1,.int .i64 (hold l cs).2]) w):=by
 obtain⟨A,c,rfl,hc,hm⟩:=h.form;obtain⟨A',c',rfl,hc',hm'⟩:=hv.form;rcases hok:bV l l.length with _|_
 . have e : hold l cs = (0, 0) := by unfold hold; rw [hok]; rfl
   rw[e];go_enter func27,ntmps27
   go_wp2_with fail
   refine(kE _ l _ h).mono ?_;rintro e w1 ⟨rfl,rfl⟩;rw[hok];go_wp2;go_ret2
   exact⟨rfl,Below.refl _ _⟩
 . by_cases hlen:cs.length=l.length
   . have hne : ((cs.length : Int) != (l.length : Int)) = false := by simp [hlen]
     obtain⟨hall,h1,h5⟩:=jG _ _ hok;have hold1:allIn 0 500 cs=true->hold l cs=(Dt l cs l.length,Du l cs l.length):=fun hin=>by unfold hold;rw[hok,hin];simp[hlen]
     have hold2:allIn 0 500 cs=false->hold l cs=(0,0):=fun hin=>by unfold hold;rw[hin];simp
     have Hall:=OA hall;have Hlen:=OA hlen;have H1:=OA hold1;have H2:=OA hold2;clear hall hlen hold1 hold2;go_enter func27,ntmps27
     go_wp2_with fail
     refine(kE _ l _ h).mono ?_;rintro e w1 ⟨rfl,rfl⟩;rw[hok];go_wp2;go_loopw [6,7,8] (fun a b i wr=>∃(k:Nat) (t p:Int),k<=cs.length/\i= .int .i64 k/\a= .int .i64 t/\b= .int .i64 p/\Hid (MC l cs k t p)/\Hid (allIn 0 500 (cs.drop k)=allIn 0 500 cs)/\Below w.heap.size w wr) (fun _ _ i _=>cs.length-(intOf i).toNat)
     case atStart=>exact⟨0,0,0,zero_le _,rfl,rfl,rfl,OA ⟨rfl,rfl,by omega,by omega,by omega,by omega⟩,OA rfl,Below.refl _ _⟩
     case round=>
      obtain⟨k,t,p,hk,rfl,rfl,rfl,Hs,Hg,hbel⟩:=hrel;by_cases hltc:k<cs.length
      . have hlt : k < l.length := by have := Hlen.out; omega
        obtain⟨b,off,rfl,hb,q1,q2⟩:=(h.Oz hbel).eZ hlt;obtain⟨b',off',rfl,hb',q3⟩:=(hv.Oz hbel).uE hltc;rcases hck:inB cs[k] 0 500 with _|_
        . have e2:=H2.out (Ch Hg hltc hck);have E2:=OA e2;clear e2;go_wp2_with fail
          refine(iI _ _ _ _).mono ?_;rintro e w5 ⟨rfl,rfl⟩;rw[hck];go_wp2;go_ret2
          rw[E2.out];exact⟨rfl,hbel⟩
        . have C : 0 <= cs[k] /\ cs[k] <= 500 := by simpa [inB] using hck
          have F:=Hall.out l[k] (getElem_mem hlt);have HS:=OA (Hs.out.step hlt hltc C F);have HG:=Cg Hg hltc hck;obtain⟨s1,s2,s3,s4,s5,s6⟩:=Hs.out;have m1:=qC C.1 C.2 F.1 F.2.1;have m2:=qC C.1 C.2 F.2.2.1 F.2.2.2;have e1:IntKind.i64.wrap (cs[k]*l[k].1)=cs[k]*l[k].1:=i64_in _ (by omega);have e2:IntKind.i64.wrap (cs[k]*l[k].2)=cs[k]*l[k].2:=i64_in _ (by omega);have e3:IntKind.i64.wrap (t+cs[k]*l[k].1)=t+cs[k]*l[k].1:=i64_in _ (by omega);have e4:IntKind.i64.wrap (p+cs[k]*l[k].2)=p+cs[k]*l[k].2:=i64_in _ (by omega);have hltI:(k:Int)<l.length:=(by omega);clear s1 s2 C F Hg;go_wp2_with fail
          refine(iI _ _ _ _).mono ?_;rintro e w5 ⟨rfl,rfl⟩;rw[hck];go_wp2_with fail
          go_quiet (fail)
          go_wp2_with fail
          go_quiet (fail)
          clear e1 e2 e3 e4;go_wp2;go_roundw
          case rel=>exact⟨k+1,_,_,by omega,by go_num,rfl,rfl,HS,HG,below_drewN hbel _⟩
          case measure=>simp[intOf];omega
      . have hin := yA Hg (by omega);have e1:=H1.out hin;have hkl:k=l.length:=by have:=Hlen.out;omega
        have E1:=OA e1;have Hkl:=OA hkl;clear e1 hkl hin;go_wp2;go_ret2
        obtain⟨s1,s2,_⟩:=Hs.out;rw[E1.out];exact⟨Oq (by rw[s1,Hkl.out]) (by rw[s2,Hkl.out]),hbel⟩
   . have hne : ((cs.length : Int) != (l.length : Int)) = true := by simp; omega
     have e:hold l cs=(0,0):=by unfold hold;rw[beq_eq_false_iff_ne.2 hlen];simp
     rw[e];go_enter func27,ntmps27
     go_wp2_with fail
     refine(kE _ l _ h).mono ?_;rintro e w1 ⟨rfl,rfl⟩;rw[hok];go_wp2;go_ret2
     exact⟨rfl,Below.refl _ _⟩
end Go.Proofs.YtljfoohaapckeaaGreatDoor
namespace Go.Proofs.YtljfoohaapckeaaGreatDoor
open Go.RowKit
set_option linter.unusedVariables false
set_option maxHeartbeats 4000000
set_option maxRecDepth 100000
def Blk (w:World) (g:Nat) (t:TypeId) (cs:Array Value):Prop:=w.heap[g]? =some (.cells cs t (0,0))
section
variable {w w' : World} {g : Nat} {t : TypeId} {cs : Array Value}
theorem Blk.lt (h:Blk w g t cs):g<w.heap.size:=by
 rcases Nat.lt_or_ge g w.heap.size with hlt|hge
 . exact hlt
 . unfold Blk at h;rw[Array.getElem?_eq_none hge]at h;cases h
theorem Blk.cell (h:Blk w g t cs) (i:Nat):w.cell? ⟨g,i,none⟩=cs[i]? :=cell_of_row w g i cs t (0,0) h
theorem Blk.frozen (h:Blk w g t cs) (i:Nat):w.frozen? ⟨g,i,none⟩=false:=by
 unfold Blk at h;simp[World.frozen?,h]
theorem Blk.bK (w:World) (t:TypeId) (cs:Array Value):Blk (w.alloc (.cells cs t)) w.heap.size t cs:=heap_alloc_new w _
theorem Blk.drewN (h:Blk w g t cs) (n:Nat):Blk (w.drewN n) g t cs:=h
theorem Blk.alloc (h:Blk w g t cs) (o:Obj):Blk (w.alloc o) g t cs:=(Below.heap_alloc w o g h.lt).trans h
theorem Blk.CY (h:Blk w g t cs) (i:Nat) (u:Value):Blk (w.setCell ⟨g,i,none⟩ u) g t (cs.setIfInBounds i u):=by
 unfold Blk at h⊢;simp[World.setCell,Array.getElem?_modify,h]
theorem Blk.far (h:Blk w g t cs) {p:Addr} (hp:g≠p.block) (u:Value):Blk (w.setCell p u) g t cs:=(Below.heap_setCell w p u g hp).trans h
theorem Blk.below {B:Nat} (h:Blk w g t cs) (hb:Below B w w') (hg:g<B):Blk w' g t cs:=(hb.block g hg).trans h
theorem Blk.grown {row:Option Nat} (h:Blk w g t cs) (hb:w.grownBy w' row) (hg:some g≠row):Blk w' g t cs:=(hb.block g h.lt hg).trans h
theorem Blk.c1 {v:Value} (h:Blk w g t #[v]):w.cell? ⟨g,0,none⟩=some v:=h.cell 0
theorem Blk.n2 {v0 v1:Value} (h:Blk w g t #[v0,v1]):w.cell? ⟨g,0,none⟩=some v0/\w.cell? ⟨g,1,none⟩=some v1:=⟨h.cell 0,h.cell 1⟩
theorem Blk.n3 {v0 v1 v2:Value} (h:Blk w g t #[v0,v1,v2]):w.cell? ⟨g,0,none⟩=some v0/\w.cell? ⟨g,1,none⟩=some v1/\w.cell? ⟨g,2,none⟩=some v2:=⟨h.cell 0,h.cell 1,h.cell 2⟩
theorem Blk.n4 {v0 v1 v2 v3:Value} (h:Blk w g t #[v0,v1,v2,v3]):w.cell? ⟨g,0,none⟩=some v0/\w.cell? ⟨g,1,none⟩=some v1/\w.cell? ⟨g,2,none⟩=some v2/\w.cell? ⟨g,3,none⟩=some v3:=⟨h.cell 0,h.cell 1,h.cell 2,h.cell 3⟩
theorem Blk.n6 {v0 v1 v2 v3 v4 v5:Value} (h:Blk w g t #[v0,v1,v2,v3,v4,v5]):w.cell? ⟨g,0,none⟩=some v0/\w.cell? ⟨g,1,none⟩=some v1/\w.cell? ⟨g,2,none⟩=some v2/\w.cell? ⟨g,3,none⟩=some v3/\w.cell? ⟨g,4,none⟩=some v4/\w.cell? ⟨g,5,none⟩=some v5:=⟨h.cell 0,h.cell 1,h.cell 2,h.cell 3,h.cell 4,h.cell 5⟩
theorem Blk.n7 {v0 v1 v2 v3 v4 v5 v6:Value} (h:Blk w g t #[v0,v1,v2,v3,v4,v5,v6]):w.cell? ⟨g,0,none⟩=some v0/\w.cell? ⟨g,1,none⟩=some v1/\w.cell? ⟨g,2,none⟩=some v2/\w.cell? ⟨g,3,none⟩=some v3/\w.cell? ⟨g,4,none⟩=some v4/\w.cell? ⟨g,5,none⟩=some v5/\w.cell? ⟨g,6,none⟩=some v6:=⟨h.cell 0,h.cell 1,h.cell 2,h.cell 3,h.cell 4,h.cell 5,h.cell 6⟩
end
theorem aC.apart {α:Type} {E:TypeId} {size:Nat} {enc:α->List Value} {B:Nat} {w:World} {v:Value} {l:List α} {g:Nat} {t:TypeId} {cs:Array Value} (h:aC E size enc B w v l) (hb:Blk w g t cs) (hne:E≠t):v.ownBlock≠some g:=by
 rcases h.2 with⟨rfl,_⟩|⟨g',cap,cur,rfl,_,hh,_⟩
 . simp[Value.ownBlock]
 . intro he;have:g'=g:=(by simpa[Value.ownBlock]using he);subst this;unfold Blk at hb;rw[hh]at hb;injection hb with hb;injection hb with _ ht;exact hne ht
theorem Below.app {α:Type} {E:TypeId} {size:Nat} {enc:α->List Value} {B:Nat} {W0 w w':World} {v:Value} {l:List α} (h:Below W0.heap.size W0 w) (hown:aC E size enc B w v l) (hB:W0.heap.size<=B) (hg:w.grownBy w' v.ownBlock):Below W0.heap.size W0 w':=
 h.grown hg h.size (fun k hk=>Nat.le_trans hB (World.ownsRow.lt hown k hk).1)
section
variable {P : Program} {α : Type} {t E : TypeId} {z : Value} {size bytes : Nat} {enc : α -> List Value}
theorem Jf {o:Oper} {a:Act} {K:Act->World->Prop} {Q:Exit->Act->World->Prop} (R:Row P t E z size bytes)
    (henc:∀x,(enc x).length=size) (h1:∀x,∀u∈enc x,u.oneCell'=true)
    {B:Nat} {wa:World} (w:World) (hB:B<=w.heap.size) {v:Value} {l:List α} (hown:aC E size enc B w v l) (y:α) (hwa:wa=w.alloc (.cells (enc y).toArray E))
    (hlen:(l.length+1)*bytes<=140737488355328) (hlen2:l.length+1<=maxLen)
    (s x:Operand) (ho:o.op= .call {callee:= .builtin .append,args:= #[s,x],argTypes:= #[t,t]})
    (hs:a.eval s=v) (hx:a.eval x= .slice (some ⟨w.heap.size,0,none⟩) 1 1)
    (h:∀v' w',aC E size enc B w' v' (l++[y])->w.grownBy w' v.ownBlock->(∃A c,v'= .slice A (l.length+1) c)->K (a.put o.dst v') w'):
    o.wp P a wa K Q:=by
 subst hwa;obtain⟨ht,hinfo,hzs,hsz⟩:=R;obtain⟨i0,hi,hz0,hz1,hz2⟩:=info_parts hinfo
 obtain⟨v',w',hrun,h2,h3,_,h5⟩:=run_append_own_at (P:=P) (w.alloc (.cells (enc y).toArray E)) B t o.type E i0 z size bytes ht hi hz0 hz1 hz2 hzs hsz v l.length (l.flatMap enc) (World.ownsRow.alloc hown _)
   ⟨w.heap.size, 0, none⟩ 1 1 (enc y) (by rw [henc]; omega) (fun j u hj => by
    have hb:=World.ownsRow.cells (w:=w.alloc (.cells (enc y).toArray E)) (base:=0) (e:=E) (size:=size) (v:= .slice (some ⟨w.heap.size,0,none⟩) 1 1) (n:=1) (xs:=enc y)
      ⟨by rw[henc];omega,.inr ⟨w.heap.size,1,(enc y).toArray,rfl,by omega,heap_alloc_new w _,by omega,by simp[maxLen],by simp[henc],by simp[henc,List.take_of_length_le]⟩⟩ (g:=w.heap.size) rfl
    exact hb j u hj) (h1 y) hlen2 hlen (by simp;omega)
 unfold Oper.wp execOp;simp only[ho,resolve,invoke,builtin,Sem.run_bind,Sem.run_pure,Result.andThen_ok,List.map_toArray,map_cons,map_nil,hs,hx,hrun]
 have hO:aC E size enc B w' v' (l++[y]):=by
  unfold aC;rw[length_append,List.flatMap_append,List.length_singleton];simpa using h2
 refine h v' w' hO ?_ ?_
 . refine⟨h3.os,h3.tape,h3.output,Nat.le_trans (by simp) h3.size,fun k hk hne=>(h3.block k (by simp;omega) hne).trans (Below.heap_alloc w _ k hk)⟩
 . obtain⟨A,c,e,_⟩:=hO.form;exact⟨A,c,by rw[e,length_append];rfl⟩
theorem yP {ops:Array Oper} {rest:List Oper} {o:Oper} {a:Act} {Q:Exit->Act->World->Prop} (R:Row P t E z size bytes)
    (henc:∀x,(enc x).length=size) (h1:∀x,∀u∈enc x,u.oneCell'=true)
    {B:Nat} {wa:World} (w:World) (hB:B<=w.heap.size) {v:Value} {l:List α} (hown:aC E size enc B w v l) (y:α) (hwa:wa=w.alloc (.cells (enc y).toArray E))
    (hlen:(l.length+1)*bytes<=140737488355328) (hlen2:l.length+1<=maxLen) (hgd:o.guard=none)
    (s x:Operand) (ho:o.op= .call {callee:= .builtin .append,args:= #[s,x],argTypes:= #[t,t]})
    (hs:a.eval s=v) (hx:a.eval x= .slice (some ⟨w.heap.size,0,none⟩) 1 1)
    (h:∀v' w',aC E size enc B w' v' (l++[y])->w.grownBy w' v.ownBlock->(∃A c,v'= .slice A (l.length+1) c)->wpList P ops Q rest (a.put o.dst v') w'):
    wpList P ops Q (o::rest) a wa:=
 wpList_plain hgd fun _ hK=>Jf R henc h1 w hB hown y hwa hlen hlen2 s x ho hs hx fun v' w' k1 k2 k3=>hK _ _ (h v' w' k1 k2 k3)
theorem JZ {ops:Array Oper} {o:Oper} {a:Act} {K:Act->World->Prop} {Q:Exit->Act->World->Prop} {E':Prop} (R:Row P t E z size bytes)
    (henc:∀x,(enc x).length=size) (h1:∀x,∀u∈enc x,u.oneCell'=true)
    {B:Nat} {wa:World} (w:World) (hB:B<=w.heap.size) {v:Value} {l:List α} (hown:aC E size enc B w v l) (y:α) (hwa:wa=w.alloc (.cells (enc y).toArray E))
    (hlen:(l.length+1)*bytes<=140737488355328) (hlen2:l.length+1<=maxLen) (hgd:o.guard=none)
    (s x:Operand) (ho:o.op= .call {callee:= .builtin .append,args:= #[s,x],argTypes:= #[t,t]})
    (hs:a.eval s=v) (hx:a.eval x= .slice (some ⟨w.heap.size,0,none⟩) 1 1)
    (h:∀v' w',aC E size enc B w' v' (l++[y])->w.grownBy w' v.ownBlock->(∃A c,v'= .slice A (l.length+1) c)->K (a.put o.dst v') w'):
    if Region.wanted o (yielded ops a.tmps)=true then Oper.wp P o a wa K Q else E':=by
 have hw:Region.wanted o (yielded ops a.tmps)=true:=(by simp[Region.wanted,hgd]);rw[if_pos hw];exact Jf R henc h1 w hB hown y hwa hlen hlen2 s x ho hs hx h
end
theorem Ci {α:Type} {enc:α->List Value} {size:Nat} (henc:∀x,(enc x).length=size):∀(l:List α) (j:Nat) (u:Value),(l.flatMap enc)[j]? =some u->∃i x r,l[i]? =some x/\(enc x)[r]? =some u/\j=i*size+r:=by
 intro l;induction l with
 |nil=>intro j u h;simp at h
 |cons y l ih=>
  intro j u h;rw[List.flatMap_cons]at h;by_cases hj:j<size
  . rw [List.getElem?_append_left (by rw [henc]; exact hj)] at h;exact⟨0,y,j,rfl,h,by omega⟩
  . rw [List.getElem?_append_right (by rw [henc]; omega), henc] at h;obtain⟨i,x,r,h1,h2,h3⟩:=ih _ _ h;exact⟨i+1,x,r,by simpa using h1,h2,by rw[Nat.add_mul];omega⟩
theorem dY {P:Program} {ops:Array Oper} {rest:List Oper} {o:Oper} {a:Act} {Q:Exit->Act->World->Prop} {α:Type} {t E:TypeId} {z:Value} {size bytes:Nat} (R:Row P t E z size bytes)
    {enc:α->List Value} (henc:∀x,(enc x).length=size) (h1:∀x,∀u∈enc x,u.oneCell'=true)
    {B:Nat} {w:World} (hB:B<=w.heap.size) {v:Value} {l:List α} (hown:aC E size enc B w v l) {A:Option Addr} {c:Nat} {m:List α} (hm:Rd size (RE enc) w (.slice A m.length c) m)
    (hlen:(l.length+m.length)*bytes<=140737488355328) (hlen2:l.length+m.length<=maxLen) (hgd:o.guard=none)
    (s x:Operand) (ho:o.op= .call {callee:= .builtin .append,args:= #[s,x],argTypes:= #[t,t]})
    (hs:a.eval s=v) (hx:a.eval x= .slice A m.length c)
    (h:∀v' w',aC E size enc B w' v' (l++m)->Below B w w'->(∃A' c',v'= .slice A' (l.length+m.length) c')->wpList P ops Q rest (a.put o.dst v') w'):
    wpList P ops Q (o::rest) a w:=by
 obtain⟨ht,hinfo,hzs,hsz⟩:=R;obtain⟨i0,hi,hz0,hz1,hz2⟩:=info_parts hinfo
 have key:∃v' w',(Builtin.append_ #[t,t] o.type #[v,.slice A m.length c]).run P w= .ok v' w'/\aC E size enc B w' v' (l++m)/\Below B w w':=by
  by_cases hA:A=none
  . subst hA
    have hm0:m=[]:=by
     obtain⟨A',c',e,_,_,h3⟩:=hm;injection e with e1 e2 e3;rcases Nat.eq_zero_or_pos m.length with h0|h0
     . exact List.eq_nil_of_length_eq_zero h0
     . obtain⟨b,off,e4,_⟩:=h3 h0;rw[e4]at e1;cases e1
    subst hm0;refine⟨v,w,?_,by simpa using hown,Below.refl _ _⟩;rcases hown.2 with⟨rfl,hn⟩|⟨g,cap,cur,rfl,_,_,hnc,_⟩
    . simp[Builtin.append_,run_underlying ht,sizeOf,typeInfo,hi,Builtin.lenOf,Builtin.firstCells]
    . simp[Builtin.append_,run_underlying ht,sizeOf,typeInfo,hi,Builtin.lenOf,Builtin.firstCells,hnc,storeCells]
  . obtain ⟨ad, rfl⟩ : ∃ ad, A = some ad := by cases A with
     |none=>exact absurd rfl hA
     |some ad=>exact⟨ad,rfl⟩
    have hcells:∀j u,(m.flatMap enc)[j]? =some u->w.cell? (ad.add j)=some u:=by
     intro j u hj;obtain⟨i,x,r,k1,k2,k3⟩:=Ci henc m j u hj;have hi':i<m.length:=(List.getElem?_eq_some_iff.1 k1).1;obtain⟨b,off,e,_,hc⟩:=hm.at_ hi';injection e with e;subst e;have hx:m[i]=x:=by rw[getElem?_eq_getElem hi']at k1;injection k1
     have:=hc r u (by rw[hx];exact k2)
     have e:(Addr.mk b off none).add j=⟨b,off+i*size+r,none⟩:=by
      unfold Addr.add;split
      . simp_all
      . simp[k3,Nat.add_assoc]
     rw[e];exact this
    obtain⟨v',w',hrun,h2,h3,_,h5⟩:=run_append_own_at (P:=P) w B t o.type E i0 z size bytes ht hi hz0 hz1 hz2 hzs hsz v l.length (l.flatMap enc) hown
      ad m.length c (m.flatMap enc) (gW henc m) hcells (IX h1 m) hlen2 hlen hB
    refine⟨v',w',hrun,?_,(Below.refl _ _).grown h3 hB (fun k hk=>(World.ownsRow.lt hown k hk).1)⟩;unfold aC;rw[length_append,List.flatMap_append];exact h2
 obtain⟨v',w',hrun,hO,hb⟩:=key;refine wpList_plain hgd fun _ hK=> ?_
 unfold Oper.wp execOp;simp only[ho,resolve,invoke,builtin,Sem.run_bind,Sem.run_pure,Result.andThen_ok,List.map_toArray,map_cons,map_nil,hs,hx,hrun];refine hK _ _ (h v' w' hO hb ?_);obtain⟨A',c',e,_⟩:=hO.form;exact⟨A',c',by rw[e,length_append]⟩
theorem Rd.tailA {α:Type} {size:Nat} {R:World->List Value->α->Prop} {w:World} {A:Option Addr} {n c:Nat} {l:List α} (h:Rd size R w (.slice A n c) l) {j:Nat} (hj:j<=n):∃A' c',sliced A j n c size= .slice A' (n-j) c'/\Rd size R w (.slice A' (n-j) c') (l.drop j):=by
 obtain⟨A0,c',e,h1,h2,h3⟩:=h;injection e with e1 e2 e3;subst e1 e2 e3;refine⟨_,_,rfl,_,_,by rw[List.length_drop],by simp;omega,by omega,fun hn=> ?_⟩;simp only[List.length_drop]at hn;obtain⟨b,off,rfl,hb,hc⟩:=h3 (by omega);refine⟨b,off+j*size,?_,hb,fun i x hx=> ?_⟩
 . rw [if_neg (by omega)];simp only[Option.map_some];unfold Addr.add;split
   . simp_all
   . simp
 . rw[List.getElem?_drop]at hx;obtain⟨cs,k1,k2,k3⟩:=hc _ x hx;refine⟨cs,k1,k2,?_⟩;rw[show off+j*size+i*size=off+(j+i)*size by rw[Nat.add_mul];omega];exact k3
theorem kU {P:Program} {ops:Array Oper} {rest:List Oper} {o:Oper} {a:Act} {Q:Exit->Act->World->Prop} {α:Type} {t E:TypeId} {z:Value} {size bytes:Nat} (R:Row P t E z size bytes)
    {RR:World->List Value->α->Prop} {w:World} {A:Option Addr} {n c:Nat} {l:List α} (h:Rd size RR w (.slice A n c) l) (j:Nat) (hj:j<=n) {J:Int} (hJ:J=j)
    (hgd:o.guard=none) (s x:Operand) (hop:o.op=Op.slice t s (some x) none none) (hs:a.eval s= .slice A n c) (hx:a.eval x= .int .i64 J)
    (hK:∀A' c',Rd size RR w (.slice A' (n-j) c') (l.drop j)->wpList P ops Q rest (a.put o.dst (.slice A' (n-j) c')) w):
    wpList P ops Q (o::rest) a w:=by
 subst hJ;obtain⟨ht,hinfo,hzs,hsz⟩:=R;obtain⟨i0,hi,hz0,hz1,hz2⟩:=info_parts hinfo;obtain⟨A',c',e,hr⟩:=h.tailA hj;have he:P.elem t=E:=(by simp[Program.elem,ht]);have ht':P.underlying t=some (.slice (P.elem t)):=by rw[he];exact ht
 have hrun:(Instr.sliceAt t (.slice A n c) (some (.int .i64 j)) none none).run P w= .ok (.slice A' (n-j) c') w:=by
  rw[run_sliceAt_slice w t _ _ _ _ ht',run_slice_l w t A n c ht' .i64 j (by omega) (by omega),he,<-e];simp[sizeOf,typeInfo,hi,hz1,Result.andThen]
 refine wpList_plain hgd fun K hK'=> ?_
 unfold Oper.wp;simp[execOp,hop,hs,hx,hrun,Result.andThen];exact hK' _ _ (hK A' c' hr)
end Go.Proofs.YtljfoohaapckeaaGreatDoor
namespace Go.Proofs.YtljfoohaapckeaaGreatDoor
set_option linter.unusedVariables false
set_option maxHeartbeats 4000000
set_option maxRecDepth 100000
def U64:Nat:=2^64
def dN (a b:Nat):Nat:=a&&&(U64-1-b)
def rD (a i:Nat):Nat:=a|||2^i
def gZ (a i:Nat):Nat:=dN a (2^i)
theorem kP {a b i:Nat} (hb:b<U64) (ha:a<U64):(dN a b).testBit i=(a.testBit i&& !b.testBit i):=by
 unfold dN;rw[Nat.testBit_and];by_cases hi:i<64
 . have : U64 - 1 - b = 2 ^ 64 - (b + 1) := by unfold U64; omega
   rw[this,Nat.testBit_two_pow_sub_succ (by unfold U64 at hb;exact hb)];simp[hi]
 . have : a.testBit i = false := testBit_lt_two_pow (lt_of_lt_of_le ha (by unfold U64; exact pow_le_pow_right (by decide) (by omega)));rw[this];simp
theorem eQ {a b:Nat} (ha:a<U64):dN a b<U64:=Nat.lt_of_le_of_lt Nat.and_le_left ha
theorem Cj {a i:Nat} (ha:a<U64) (hi:i<64):rD a i<U64:=by
 unfold rD U64 at*;exact Nat.or_lt_two_pow ha (Nat.pow_lt_pow_right (by decide) hi)
theorem vI {i:Nat} (hi:i<64):2^i<U64:=by unfold U64;exact Nat.pow_lt_pow_right (by decide) hi
theorem pE (a i j:Nat):(rD a i).testBit j=(a.testBit j||decide (i=j)):=by
 unfold rD;rw[Nat.testBit_or,Nat.testBit_two_pow]
theorem jX {a i:Nat} (ha:a<U64) (hi:i<64) (j:Nat):(gZ a i).testBit j=(a.testBit j&& !decide (i=j)):=by
 unfold gZ;rw[kP (vI hi) ha,Nat.testBit_two_pow]
def kI (s y:Nat):List Int->Nat
  |[]=>s
  |r::rs=>kI (s|||r.toNat<<<(8*y)) (y+1) rs
def setOf (rows:List Int):Nat:=kI 0 0 rows
def dJ (rows:List Int):Prop:=rows.length<=8/\∀r∈rows,0<=r/\r<=255
theorem EG:∀(rows:List Int) (s y i:Nat),(∀r∈rows,0<=r/\r<=255)->(kI s y rows).testBit i=(s.testBit i||(decide (8*y<=i)&&(rows.getD (i/8-y) 0).toNat.testBit (i%8))):=by
 intro rows;induction rows with
 |nil=>intro s y i _;simp[kI]
 |cons r rs ih=>
  intro s y i h;have hr:=h r mem_cons_self;have h':∀x∈rs,0<=x/\x<=255:=fun x hx=>h x (List.mem_cons_of_mem _ hx)
  rw[kI,ih _ _ _ h',Nat.testBit_or,Nat.testBit_shiftLeft];by_cases h1:8*y<=i
  . by_cases h2:8*(y+1)<=i
    . have e1 : i / 8 - y = (i / 8 - (y + 1)) + 1 := by omega
      have e2:r.toNat.testBit (i-8*y)=false:=testBit_lt_two_pow (lt_of_lt_of_le (by omega:r.toNat<2^8) (pow_le_pow_right (by decide) (by omega)));rw[e1,List.getD_cons_succ,e2];simp[h1,h2]
    . have e1 : i / 8 - y = 0 := by omega
      have e2:i-8*y=i%8:=(by omega);rw[e1,e2];simp[h1,h2]
  . have h2 : ¬ 8 * (y + 1) <= i := by omega
    simp[h1,h2]
theorem uG {rows:List Int} (h:dJ rows) (i:Nat):(setOf rows).testBit i=(rows.getD (i/8) 0).toNat.testBit (i%8):=by
 unfold setOf;rw[EG rows 0 0 i h.2];simp
theorem FE:∀(rows:List Int) (s y:Nat),s<U64->y+rows.length<=8->(∀r∈rows,0<=r/\r<=255)->kI s y rows<U64:=by
 intro rows;induction rows with
 |nil=>intro s y h _ _;exact h
 |cons r rs ih=>
  intro s y h hy hr;have h1:=hr r mem_cons_self;rw[kI];simp only[List.length_cons]at hy;refine ih _ _ ?_ (by omega) fun x hx=>hr x (List.mem_cons_of_mem _ hx)
  unfold U64 at*;refine Nat.or_lt_two_pow h ?_;rw[Nat.shiftLeft_eq];have h2:r.toNat<2^8:=by omega
  calc r.toNat * 2 ^ (8 * y) < 2 ^ 8 * 2 ^ (8 * y) := Nat.mul_lt_mul_of_pos_right h2 (Nat.pow_pos (by decide))
    _=2^(8+8*y):=by rw[Nat.pow_add]
    _<=2^64:=pow_le_pow_right (by decide) (by omega)
theorem dX {rows:List Int} (h:dJ rows):setOf rows<U64:=FE rows 0 0 (by unfold U64;decide) (by have:=h.1;omega) h.2
def rowsOf (s n:Nat):List Int:=(range n).map fun y=>(((s>>>(8*y))&&&255:Nat):Int)
theorem Me (a:Nat):a&&&255=a%256:=Nat.and_two_pow_sub_one_eq_mod a 8
theorem Dy (s n y:Nat) (h:y<n):(rowsOf s n).getD y 0=(((s>>>(8*y))%256:Nat):Int):=by
 unfold rowsOf;rw[getD_eq_getElem?_getD,List.getElem?_map,List.getElem?_range h];simp[Me]
theorem eX (s n:Nat):(rowsOf s n).length=n:=by simp[rowsOf]
theorem Jg (s y x:Nat) (hx:x<8):((s>>>(8*y))%256).testBit x=s.testBit (8*y+x):=by
 rw[show(256:Nat)=2^8 from rfl,Nat.testBit_mod_two_pow,Nat.testBit_shiftRight];simp[hx]
theorem kZ (s n:Nat) (hn:n<=8):dJ (rowsOf s n):=by
 refine⟨by rw[eX];exact hn,fun r hr=> ?_⟩;unfold rowsOf at hr;obtain⟨y,_,rfl⟩:=List.mem_map.1 hr;rw[Me];have:=Nat.mod_lt (s>>>(8*y)) (show 0<256 by decide);omega
theorem ME {a b:Nat} (ha:a<256) (hb:b<256) (h:∀x,x<8->a.testBit x=b.testBit x):a=b:=by
 refine Nat.eq_of_testBit_eq fun i=> ?_
 by_cases hi:i<8
 . exact h i hi
 . rw[testBit_lt_two_pow (lt_of_lt_of_le ha (pow_le_pow_right (n:=2) (by decide) (show 8<=i by omega))),testBit_lt_two_pow (lt_of_lt_of_le hb (pow_le_pow_right (n:=2) (by decide) (show 8<=i by omega)))]
theorem Jh {a b:Nat} (ha:a<U64) (hb:b<U64) (h:∀i,i<64->a.testBit i=b.testBit i):a=b:=by
 refine Nat.eq_of_testBit_eq fun i=> ?_
 by_cases hi:i<64
 . exact h i hi
 . unfold U64 at*;rw[testBit_lt_two_pow (lt_of_lt_of_le ha (pow_le_pow_right (by decide) (by omega))),testBit_lt_two_pow (lt_of_lt_of_le hb (pow_le_pow_right (by decide) (by omega)))]
theorem kF {s:Nat} (hs:s<U64):setOf (rowsOf s 8)=s:=by
 refine Jh (dX (kZ s 8 (by decide))) hs fun i hi=> ?_
 rw[uG (kZ s 8 (by decide)),Dy _ _ _ (by omega),Int.toNat_natCast,Jg _ _ _ (by omega)];congr 1;omega
end Go.Proofs.YtljfoohaapckeaaGreatDoor
namespace Go.Proofs.YtljfoohaapckeaaGreatDoor
open Go.ChangeShapes Go.WideShapes Go.ChangeAt Go.RowKit
set_option linter.unusedVariables false
set_option maxHeartbeats 4000000
set_option maxRecDepth 100000
abbrev Dm:=Int×Int×Bool
abbrev Cl:=Int×Int
def aV (c:Cl):Bool:=inB c.1 0 7&&inB c.2 0 7
def sec (d:Dm):Cl:=if d.2.2 then(d.1,wrap64 (d.2.1+1))else(wrap64 (d.1+1),d.2.1)
def aH (d:Dm):Bool:=aV (d.1,d.2.1)&&aV (sec d)
abbrev Fp (c:Cl):Value:= .agg #[.int .i64 c.1,.int .i64 c.2]
theorem bQ {c:Cl}:aV c=true↔(0<=c.1/\c.1<=7)/\(0<=c.2/\c.2<=7):=by simp[aV,inB]
theorem lC {d:Dm} (h:aH d=true):(0<=d.1/\d.1<=7)/\(0<=d.2.1/\d.2.1<=7):=by
 unfold aH at h;rw[Bool.and_eq_true]at h;exact bQ.1 h.1
theorem yB {d:Dm} (h:aH d=true):(0<=(sec d).1/\(sec d).1<=7)/\(0<=(sec d).2/\(sec d).2<=7):=by
 unfold aH at h;rw[Bool.and_eq_true]at h;exact bQ.1 h.2
theorem jV (a b:Int) (w:World):Calls prog 167 #[.agg #[.int .i64 a,.int .i64 b]] w (Ret (.bool (aV (a,b))) w):=by
 go_enter Tryz.func167,Tryz.ntmps167
 go_wp2_with (go_at_call 76;(with_reducible refine(fI _ _ _ _).mono ?_);rintro e w' ⟨rfl,rfl⟩)
 all_goals go_ret
 all_goals exact⟨by simp_all [aV],(Below.refl _ _).al _⟩
theorem gJ (a b:Int) (w:World):Calls prog 153 #[.agg #[.int .i64 a,.int .i64 b]] w (Ret (.bool (aV (a,b))) w):=by
 go_enter Tryz.func153,Tryz.ntmps153
 go_wp2_with (go_at_call 73;(with_reducible refine(iI _ _ _ _).mono ?_);rintro e w' ⟨rfl,rfl⟩)
 all_goals go_ret
 all_goals exact⟨by simp_all [aV],(Below.refl _ _).al _⟩
theorem yQ (x y:Int) (d:Bool) (w:World):Calls prog 203 #[.agg #[.int .i64 x,.int .i64 y,.bool d]] w (Ret (Fp (sec (x,y,d))) w):=by
 cases d
 . go_enter func203,ntmps203
   go_wp2;refine bodyPost_ret (v:= .agg #[.int .i64 (wrap64 (x+1)),.int .i64 y]) (by simp[results,Tryz.results203,go_sem]) rfl ⟨rfl,?_⟩;exact((Below.refl _ _).al _).al _
 . go_enter func203,ntmps203
   go_wp2;refine bodyPost_ret (v:= .agg #[.int .i64 x,.int .i64 (wrap64 (y+1))]) (by simp[results,Tryz.results203,go_sem]) rfl ⟨rfl,?_⟩;exact((Below.refl _ _).al _).al _
theorem yC (x y:Int) (d:Bool) (w:World):Calls prog 112 #[.agg #[.int .i64 x,.int .i64 y,.bool d]] w (Ret (.tuple #[.agg #[.int .i64 x,.int .i64 y],Fp (sec (x,y,d))]) w):=by
 cases d
 . go_enter func112,ntmps112
   go_wp2_with fail
   go_region
   go_wp2;refine bodyPost_ret (v:= .tuple #[.agg #[.int .i64 x,.int .i64 y],.agg #[.int .i64 (wrap64 (x+1)),.int .i64 y]]) (by simp[results,Tryz.results112,go_sem]) rfl ⟨rfl,?_⟩;exact((((Below.refl _ _).al _).al _).al _).drew
 . go_enter func112,ntmps112
   go_wp2_with fail
   go_region
   go_wp2;refine bodyPost_ret (v:= .tuple #[.agg #[.int .i64 x,.int .i64 y],.agg #[.int .i64 x,.int .i64 (wrap64 (y+1))]]) (by simp[results,Tryz.results112,go_sem]) rfl ⟨rfl,?_⟩;exact((((Below.refl _ _).al _).al _).al _).drew
theorem bM (x y:Int) (d:Bool) (w:World):Calls prog 158 #[.agg #[.int .i64 x,.int .i64 y,.bool d]] w (Ret (.bool (aH (x,y,d))) w):=by
 rcases hc:aV (x,y)with _|_
 . go_enter func158,ntmps158
   go_wp2_with fail
   refine(gJ x y _).mono ?_;rintro e w1 ⟨rfl,hb1⟩;rw[hc];go_wp2;go_ret;exact⟨by simp[aH,hc],((Below.refl _ _).al _).tr hb1⟩
 . go_enter func158,ntmps158
   go_wp2_with fail
   refine(gJ x y _).mono ?_;rintro e w1 ⟨rfl,hb1⟩;rw[hc];obtain⟨hc1,hf1,hz1⟩:=bk hb1;simp at hz1;have hy1:w.heap.size<w1.heap.size:=by omega
   go_wp2_with fail
   refine(yQ x y d _).mono ?_;rintro e w2 ⟨rfl,hb2⟩;go_wp2_with fail
   refine(gJ _ _ _).mono ?_;rintro e w3 ⟨rfl,hb3⟩;go_wp2;go_ret;exact⟨by simp[aH,hc],((((Below.refl _ _).al _).tr hb1).tr hb2).tr hb3⟩
theorem aW (x y:Int) (d:Bool) (w:World):Calls prog 142 #[.agg #[.int .i64 x,.int .i64 y,.bool d]] w (Ret (.bool (aH (x,y,d))) w):=by
 obtain⟨s,hs⟩:=Oy (sec (x,y,d));have e:aH (x,y,d)=(aV (x,y)&&aV s):=by rw[hs];rfl
 rw[e];have Hs:=OA hs;clear hs e;rcases hc:aV (x,y)with _|_
 . go_enter func142,ntmps142
   go_wp2_with fail
   refine(yC x y d _).mono ?_;rintro e w1 ⟨rfl,hb1⟩;obtain⟨hc1,hf1,hz1⟩:=bk hb1;(try simp at hz1)
   have hy1_0:w.heap.size<w1.heap.size:=(by omega);rw[<-Hs.out];go_wp2_with fail
   refine(jV _ _ _).mono ?_;rintro e w2 ⟨rfl,hb2⟩;rw[hc];go_wp2;go_ret;exact⟨rfl,(((((Below.refl _ _).al _).tr hb1).al _).al _).tr hb2⟩
 . go_enter func142,ntmps142
   go_wp2_with fail
   refine(yC x y d _).mono ?_;rintro e w1 ⟨rfl,hb1⟩;obtain⟨hc1,hf1,hz1⟩:=bk hb1;(try simp at hz1)
   have hy1_0:w.heap.size<w1.heap.size:=(by omega);rw[<-Hs.out];go_wp2_with fail
   refine(jV _ _ _).mono ?_;rintro e w2 ⟨rfl,hb2⟩;obtain⟨hc2,hf2,hz2⟩:=bk hb2;(try simp at hz2)
   have hy2_0:w1.heap.size<w2.heap.size:=(by omega);have hy2_1:w1.heap.size+1<w2.heap.size:=(by omega);rw[hc];go_wp2_with fail
   refine(jV _ _ _).mono ?_;rintro e w3 ⟨rfl,hb3⟩;go_wp2;go_ret;exact⟨rfl,((((((Below.refl _ _).al _).tr hb1).al _).al _).tr hb2).tr hb3⟩
theorem vJ (x y:Int) (d:Bool) (sx sy:Int) (Hs:Hid (sec (x,y,d)=(sx,sy))) (w:World):Calls prog 203 #[.agg #[.int .i64 x,.int .i64 y,.bool d]] w (Ret (.agg #[.int .i64 sx,.int .i64 sy]) w):=by
 have:=yQ x y d w;rw[Hs.out]at this;exact this
theorem iU (x y:Int) (d:Bool) (w:World) (hd:aH (x,y,d)=true):Calls prog 160 #[.agg #[.int .i64 x,.int .i64 y,.bool d]] w (Ret (.tuple #[.agg #[.int .i64 x,.int .i64 y],Fp (sec (x,y,d))]) w):=by
 obtain⟨sx,sy,hs⟩:∃sx sy,sec (x,y,d)=(sx,sy):=⟨_,_,rfl⟩;rw[hs];have Hs:=OA hs;clear hs;go_enter Tryz.func160,Tryz.ntmps160
 go_wp2_with fail
 refine(bM x y d _).mono ?_;rintro e w1 ⟨rfl,hb1⟩;obtain⟨hc1,hf1,hz1⟩:=bk hb1;(try simp at hz1)
 have hy1_0:w.heap.size<w1.heap.size:=(by omega);have hy1_1:w.heap.size+1<w1.heap.size:=(by omega);have hy1_2:w.heap.size+1+1<w1.heap.size:=(by omega);rw[hd];go_wp2_with fail
 go_region_with (go_at_call 203;go_must (refine(vJ x y d sx sy Hs _).mono ?_;rintro e w2 ⟨rfl,hb2⟩;obtain⟨hc2,hf2,hz2⟩:=bkn hb2 (w.heap.size+3) (by first|(simp;done)|(simp;omega));have hy2_0:w.heap.size<w2.heap.size:=(by omega);have hy2_1:w.heap.size+1<w2.heap.size:=(by omega);have hy2_2:w.heap.size+1+1<w2.heap.size:=(by omega);clear hz2))
 all_goals go_wp2
 all_goals
   refine bodyPost_ret (v:= .tuple #[.agg #[.int .i64 x,.int .i64 y],.agg #[.int .i64 sx,.int .i64 sy]]) (by simp[results,Tryz.results160,go_sem, *]) rfl ⟨rfl,?_⟩;have B1:Below w.heap.size w w1:=((((Below.refl _ _).al _).al _).al _).tr hb1;repeat (first|(with_reducible exact B1)|(with_reducible refine Below.tr ?_ hb2)|(with_reducible refine Below.drew ?_)|(with_reducible refine Below.st ?_ _ _ ?_)|exact Nat.le_succ _|exact Nat.le_add_right _ 2)
def cO (c:Cl):Int:=if aV c then c.2*8+c.1 else-1
theorem dG {c:Cl} (h:aV c=true):cO c=c.2*8+c.1/\0<=cO c/\cO c<=63:=by
 have:=bQ.1 h;unfold cO;rw[if_pos h];omega
theorem MF {s i:Nat} (hs:s<U64):(bits .and .u64 ((s:Int)/2^i) 1==1)=s.testBit i:=by
 have e:(s:Int)/2^i=((s/2^i:Nat):Int):=(by simp);have h1:s/2^i<18446744073709551616:=Nat.lt_of_le_of_lt (Nat.div_le_self _ _) (by unfold U64 at hs;exact hs);have h2:=u64_and_nat (s/2^i) 1 h1 (by decide);rw[e,show(1:Int)=((1:Nat):Int) from rfl,h2,nat_mask1,Nat.testBit_eq_decide_div_mod_eq];rw[Bool.eq_iff_iff,beq_iff_eq,decide_eq_true_iff];omega
theorem KQ {i:Nat} (hi:i<=63):IntKind.u64.wrap (2^i)=((2^i:Nat):Int):=by
 have h:=vI (i:=i) (by omega);unfold U64 at h;have e:(2:Int)^i=((2^i:Nat):Int):=(by simp);rw[e];generalize 2^i=n at h⊢
 exact u64_in _ (by omega)
theorem KR {s i:Nat} (hs:s<U64) (hi:i<=63):bits .or .u64 (s:Int) (IntKind.u64.wrap (2^i))=((rD s i:Nat):Int):=by
 rw[KQ hi];exact u64_or_nat s (2^i) (by unfold U64 at hs;exact hs) (by have h:=vI (i:=i) (by omega);unfold U64 at h;exact h)
theorem Oi {a b:Int} (h:a=b):Ending.returned (.int .u64 a)=Ending.returned (.int .u64 b):=by rw[h]
theorem lF (x y:Int) (w:World):Calls prog 168 #[.agg #[.int .i64 x,.int .i64 y]] w (Ret (.int .i64 (cO (x,y))) w):=by
 rcases hc:aV (x,y)with _|_
 . have e : cO (x, y) = -1 := by unfold cO; rw [hc]; rfl
   rw[e];go_enter func168,ntmps168
   go_wp2_with fail
   refine(jV x y _).mono ?_;rintro e w1 ⟨rfl,hb1⟩;rw[hc];go_wp2;go_ret;exact⟨rfl,((Below.refl _ _).al _).tr hb1⟩
 . have e:=(dG hc).1;simp only at e;rw[e];have C:=bQ.1 hc;simp only at C;obtain⟨⟨x1,x2⟩,y1,y2⟩:=C;go_enter func168,ntmps168
   go_wp2_with fail
   refine(jV x y _).mono ?_;rintro e w1 ⟨rfl,hb1⟩;obtain⟨hc1,hf1,hz1⟩:=bk hb1;(try simp at hz1)
   have hy1_0:w.heap.size<w1.heap.size:=(by omega);rw[hc];go_wp2;go_ret;exact⟨rfl,((Below.refl _ _).al _).tr hb1⟩
theorem Ck (s:Nat) (x y:Int) (w:World) (hs:s<U64):Calls prog 110 #[.int .u64 s,.agg #[.int .i64 x,.int .i64 y]] w (Ret (.bool (aV (x,y)&&s.testBit (cO (x,y)).toNat)) w):=by
 rcases hc:aV (x,y)with _|_
 . rw[Bool.false_and];go_enter func110,ntmps110
   go_wp2_with fail
   refine(jV x y _).mono ?_;rintro e w1 ⟨rfl,hb1⟩;rw[hc];go_wp2;go_ret;exact⟨rfl,((Below.refl _ _).al _).tr hb1⟩
 . rw[Bool.true_and];obtain⟨e,h0,h63⟩:=dG hc;obtain⟨i,hi⟩:=Int.eq_ofNat_of_zero_le h0;rw[hi,Int.toNat_natCast];have Hi:=OA hi;have hi63:i<=63:=(by omega);clear e h0 h63 hi;go_enter func110,ntmps110
   go_wp2_with fail
   refine(jV x y _).mono ?_;rintro e w1 ⟨rfl,hb1⟩;obtain⟨hc1,hf1,hz1⟩:=bk hb1;(try simp at hz1)
   have hy1_0:w.heap.size<w1.heap.size:=(by omega);rw[hc];go_wp2_with fail
   refine(lF x y _).mono ?_;rintro e w2 ⟨rfl,hb2⟩;rw[Hi.out];go_wp2;go_ret;exact⟨kN (MF hs),(((Below.refl _ _).al _).tr hb1).tr hb2⟩
theorem J2 (s:Nat) (x y:Int) (w:World) (hs:s<U64) (hc:aV (x,y)=true):Calls prog 190 #[.int .u64 s,.agg #[.int .i64 x,.int .i64 y]] w (Ret (.int .u64 (rD s (cO (x,y)).toNat:Nat)) w):=by
 obtain⟨e,h0,h63⟩:=dG hc;obtain⟨i,hi⟩:=Int.eq_ofNat_of_zero_le h0;rw[hi,Int.toNat_natCast];have Hi:=OA hi;have hi63:i<=63:=(by omega);clear e h0 h63 hi;go_enter Tryz.func190,Tryz.ntmps190
 go_wp2_with fail
 refine(lF x y _).mono ?_;rintro e w2 ⟨rfl,hb2⟩;rw[Hi.out];go_wp2;go_ret;exact⟨Oi (KR hs hi63),((Below.refl _ _).al _).tr hb2⟩
def aZ (rows:List Int):Bool:=decide (rows.length<=8)&&allIn 0 255 rows
theorem aN {rows:List Int}:aZ rows=true↔dJ rows:=by
 unfold aZ dJ;rw[Bool.and_eq_true,decide_eq_true_iff,uF]
theorem lS (v:Value) (rows:List Int) (w:World) (h:Rd 1 bH w v rows):Calls prog 165 #[.agg #[v]] w (Ret (.bool (aZ rows)) w):=by
 obtain⟨A,c,rfl,hc,hm⟩:=h.form;have h':=h.Oz ((Below.refl _ _).al (.cells #[.slice A rows.length c] 26));unfold aZ;by_cases h8:(rows.length:Int)<=8
 . have e : decide (rows.length <= 8) = true := by simp; omega
   rw[e,Bool.true_and];go_enter func165,ntmps165
   go_wp2_with fail
   refine(lQ _ rows _ _ _ h').mono ?_;rintro e w1 ⟨rfl,rfl⟩;go_wp2;go_ret;exact⟨rfl,(Below.refl _ _).al _⟩
 . have e : decide (rows.length <= 8) = false := by simp; omega
   rw[e,Bool.false_and];go_enter func165,ntmps165
   go_wp2;go_ret;exact⟨rfl,(Below.refl _ _).al _⟩
theorem MG {r:Int} {y:Nat} (h0:0<=r) (h1:r<=255) (hy:y<8):IntKind.u64.wrap (r*2^(8*y))=((r.toNat<<<(8*y):Nat):Int)/\r.toNat<<<(8*y)<U64:=by
 obtain⟨n,rfl⟩:=Int.eq_ofNat_of_zero_le h0;have hn:n<2^8:=by omega
 have hlt : n * 2 ^ (8 * y) < 2 ^ 64 := calc n * 2 ^ (8 * y) < 2 ^ 8 * 2 ^ (8 * y) := Nat.mul_lt_mul_of_pos_right hn (Nat.pow_pos (by decide))
     _=2^(8+8*y):=by rw[Nat.pow_add]
     _<=2^64:=pow_le_pow_right (by decide) (by omega)
 rw[Int.toNat_natCast,Nat.shiftLeft_eq];refine⟨?_,hlt⟩;have e:(n:Int)*2^(8*y)=((n*2^(8*y):Nat):Int):=(by simp);rw[e];generalize n*2^(8*y)=m at hlt⊢
 exact u64_in _ (by omega)
theorem NH {s:Nat} {r:Int} {y:Nat} (hs:s<U64) (h0:0<=r) (h1:r<=255) (hy:y<8):bits .or .u64 (s:Int) (IntKind.u64.wrap (r*2^(8*y)))=((s|||r.toNat<<<(8*y):Nat):Int)/\s|||r.toNat<<<(8*y)<U64:=by
 obtain⟨e,hl⟩:=MG h0 h1 hy;rw[e];generalize r.toNat<<<(8*y)=m at hl⊢
 unfold U64 at*;exact⟨u64_or_nat s m hs hl,Nat.or_lt_two_pow hs hl⟩
theorem qD (v:Value) (rows:List Int) (w:World) (h:Rd 1 bH w v rows) (Hok:Hid (dJ rows)):Calls prog 109 #[.agg #[v]] w (Ret (.int .u64 (setOf rows:Nat)) w):=by
 obtain⟨A,c,rfl,hc,hm⟩:=h.form;have h':=h.Oz ((Below.refl _ _).al (.cells #[.slice A rows.length c] 26));have h8:rows.length<=8:=Hok.out.1;go_enter Tryz.func109,Tryz.ntmps109
 go_wp2;go_loopw [3,9] (fun q i wr=>∃(k s:Nat),k<=rows.length/\i= .int .i64 k/\q= .int .u64 s/\Hid (s<U64/\kI s k (rows.drop k)=setOf rows)/\wr=w.alloc (.cells #[.slice A rows.length c] 26)) (fun _ i _=>rows.length-(intOf i).toNat)
 case atStart=>exact⟨0,0,zero_le _,rfl,rfl,OA ⟨by unfold U64;decide,rfl⟩,rfl⟩
 case round=>
  obtain⟨k,s,hk,rfl,rfl,Hg,rfl⟩:=hrel;by_cases hlt:k<rows.length
  . obtain⟨b,off,rfl,hb,q1⟩:=h'.uE hlt;have hr:=Hok.out.2 rows[k] (getElem_mem hlt);obtain⟨e1,e2⟩:=NH Hg.out.1 hr.1 hr.2 (y:=k) (by omega)
    have HG:Hid (s|||rows[k].toNat<<<(8*k)<U64/\kI (s|||rows[k].toNat<<<(8*k)) (k+1) (rows.drop (k+1))=setOf rows):=by
     have G:=Hg.out.2;rw[List.drop_eq_getElem_cons hlt,kI]at G;exact OA ⟨e2,G⟩
    have E1:=OA e1;clear e1 e2;go_wp2;go_roundw
    case rel=>exact⟨k+1,_,by omega,by go_num,by rw[E1.out],HG,trivial⟩
    case measure=>simp[intOf];omega
  . go_wp2;go_ret;have G:=Hg.out.2;rw[List.drop_of_length_le (by omega),kI]at G;exact⟨Oi (by rw[G]),(Below.refl _ _).al _⟩
theorem fB (w:World) {E:TypeId} {α:Type} {size:Nat} {enc:α->List Value}:aC E size enc w.heap.size (w.alloc (.cells #[] E)) (.slice (some ⟨w.heap.size,0,none⟩) 0 0) ([]:List α):=by
 have:=World.ownsRow_lit (e:=E) (size:=size) w #[] 0 (le_refl _) (by simp[maxLen]) (by simp);exact this
theorem G9 (v:Value) (l:List Int) (w:World) (h:Rd 1 bH w v l) (hl:Small l.length):Calls prog 145 #[v] w (jA 3 1 aY l w):=by
 obtain⟨A,c,rfl,hc,hm⟩:=h.form;have h':=h.Oz ((Below.refl _ _).al (.cells #[] 3));have hs8:(0+l.length)*8<=140737488355328:=by unfold Small at hl;omega
 have hsm:0+l.length<=maxLen:=by have:=hl.max;omega
 have H8:=OA hs8;have HM:=OA hsm;clear hs8 hsm;go_enter Tryz.func145,Tryz.ntmps145
 go_wp2_with (at_builtin;go_must (refine dY (enc:=aY) fA aL jD (B:=w.heap.size) (by simp) (fB w) h' H8.out HM.out rfl _ _ rfl rfl rfl ?_);intro v1 w1 own1 hb1 hv1;obtain⟨A1,c1,rfl⟩:=hv1;simp only[List.nil_append,List.length_nil,Nat.zero_add]at own1)
 go_wp2;go_ret;exact⟨A1,c1,rfl,own1,((Below.refl _ _).al _).trans hb1⟩
def IZ (l:List Int) (w:World) (e:Ending) (w':World):Prop:=∃A c,e= .returned (.agg #[.slice A l.length c])/\aC 3 1 aY w.heap.size w' (.slice A l.length c) l/\Below w.heap.size w w'
theorem aC.low {α:Type} {E:TypeId} {size:Nat} {enc:α->List Value} {B:Nat} {w:World} {v:Value} {l:List α} (h:aC E size enc B w v l) {p:Addr} (hp:p.block<B) (u:Value):aC E size enc B (w.setCell p u) v l:=ownsRow_setCell_below h hp u
theorem AP (v:Value) (l:List Int) (w:World) (h:Rd 1 bH w v l) (hl:Small l.length):Calls prog 87 #[.agg #[v]] w (IZ l w):=by
 obtain⟨A,c,rfl,hc,hm⟩:=h.form;have h':=h.Oz (((Below.refl _ _).al (.cells #[.slice A l.length c] 26)).al (.cells #[.slice none 0 0] 26));go_enter Tryz.func87,Tryz.ntmps87
 go_wp2_with fail
 refine(G9 _ l _ h' hl).mono ?_;rintro e w1 ⟨A1,c1,rfl,own1,hb1⟩;obtain⟨hc1,hf1,hz1⟩:=bk hb1;(try simp at hz1)
 have hy1_0:w.heap.size<w1.heap.size:=(by omega);have hy1_1:w.heap.size+1<w1.heap.size:=(by omega);go_wp2;refine bodyPost_ret (v:= .agg #[.slice A1 l.length c1]) (by simp[results,Tryz.results87,go_sem,hc1]) rfl ⟨A1,c1,rfl,(own1.low (by simp) _).mono (by simp;omega),?_⟩;exact((((Below.refl _ _).al _).al _).tr hb1).st _ _ (Nat.le_succ _)
end Go.Proofs.YtljfoohaapckeaaGreatDoor
