/- Dominoes and tilings as text: the walks. Conditions: the library's table of powers, as its text lays it. The links of the tilings, of the program: the walk. Conditions: the library's table of powers, as its text lays it. IndexOf and the links of the tilings, of the reference: the walks. No conditions. The program's counts, its forced dominoes and the region without them: the walks. Conditions: sizes. -/
import Derived.Test.YtljfoohaapckeaaGreatDoorCG27
import Derived.Test.YtljfoohaapckeaaGreatDoorCK6
import Derived.Test.YtljfoohaapckeaaGreatDoorCG28
import Derived.Maps.Own
import Derived.Maps.OwnOps
import Derived.Test.YtljfoohaapckeaaGreatDoorCListS
import Derived.Test.YtljfoohaapckeaaGreatDoorCK10
import Derived.Test.YtljfoohaapckeaaGreatDoorCK9
import Derived.Test.YtljfoohaapckeaaGreatDoorCK5
import Derived.Test.YtljfoohaapckeaaGreatDoorCK3
import Derived.Test.YtljfoohaapckeaaGreatDoorCG6
open _root_.List (map_cons length_cons length_append getElem_mem)
open _root_.Nat (le_refl zero_le)
open _root_.Go.Proofs.Tryz (prog underlying9 func183 ntmps183 func140 ntmps140)
namespace Go.Proofs.YtljfoohaapckeaaGreatDoor
open Go.ChangeShapes Go.WideShapes Go.ChangeAt Go.RowKit
set_option linter.unusedVariables false
set_option linter.unusedSimpArgs false
set_option maxHeartbeats 4000000
set_option maxRecDepth 100000
theorem R5 (x y:Int):jE x++(⟨#[44]⟩:ByteArray)++jE y++(⟨#[114]⟩:ByteArray)=qK (x,y,false):=by
 apply ByteArray.ext;apply Array.toList_inj.1;unfold qK;rw[wI];simp[ByteArray.data_append,jE,Fq]
theorem R6 (x y:Int):jE x++(⟨#[44]⟩:ByteArray)++jE y++(⟨#[100]⟩:ByteArray)=qK (x,y,true):=by
 apply ByteArray.ext;apply Array.toList_inj.1;unfold qK;rw[wI];simp[ByteArray.data_append,jE,Fq]
theorem JN {x:Int} (h0:0<=x) (h1:x<=7):(jE x).size=1:=by
 unfold jE;rw[Lib.decDigits_one (by omega)];rfl
theorem GH (x y:Int) (d:Bool) (w:World) (hd:aJ (x,y,d)=true) (ht:Tab w):Calls prog 216 #[.agg #[.int .i64 x,.int .i64 y,.bool d]] w (Ret (.string (qK (x,y,d))) w):=by
 have hin:=Fs hd;have Hx0:0<=x:=hin.1.1;have Hx1:x<=9223372036854775807:=by have:=hin.1.2;simp only at this;omega
 have Hy0:0<=y:=hin.2.1;have Hy1:y<=9223372036854775807:=by have:=hin.2.2;simp only at this;omega
 have sX:=JN Hx0 hin.1.2;have sY:=JN Hy0 hin.2.2;have HT:=SQ ht;clear ht hin;have B0:=(Below.refl w.heap.size w).al (.cells #[.int .i64 x,.int .i64 y,.bool d] 60);have bP:=Blk.aY w 60 #[.int .i64 x,.int .i64 y,.bool d];go_enter Tryz.func216,Tryz.ntmps216
 go_wp2_with fail
 refine(AY x y d _ hd).mono ?_;rintro e w1 ⟨rfl,hb1⟩;have B1:=B0.tr hb1;have bP1:=bP.bl hb1;have hg:=bP1.lt;obtain⟨y_0,y_1,y_2⟩:=bP1.n3;have Bw:Below w1.heap.size w1 w1:=Below.refl _ _;have hz:w1.heap.size<=w1.heap.size:=le_refl _;cases d
 . have HE:=SQ (R5 x y);go_wp2_with fail
   have Bw:Below w1.heap.size w1 w1.drew:=Bw.drew;have hz:w1.heap.size<=w1.drew.heap.size:=Bw.size;refine rB (fun w'=>w'.cell? ⟨w.heap.size,0,none⟩=some (.int .i64 x)/\w'.cell? ⟨w.heap.size,1,none⟩=some (.int .i64 y)) fun hHeld=>(tW 0)<|(tW 1)<|(tW 4)<|(tW 5)<|(tR [2])<|tL fun K hK=>?_
   go_simp
   (go_at_call 50;go_must (refine(qV _ _ (by first|exact Hx0|exact Hy0) (by first|exact Hx1|exact Hy1) (HT.out.below (B1.tr Bw))).mono ?_;rintro e wX ⟨rfl,hbX⟩;obtain⟨hcX,hfX,hzX⟩:=bkn hbX w1.heap.size hz;have hz:=hzX;have Bw:=Bw.tr hbX);(try go_wp2_with fail))
   refine tK hK fun hHeld=>?_
   clear hK K;refine(tW 3)<|(tR [6])<|tL fun K hK=>?_
   go_simp
   (go_at_call 50;go_must (refine(qV _ _ (by first|exact Hx0|exact Hy0) (by first|exact Hx1|exact Hy1) (HT.out.below (B1.tr Bw))).mono ?_;rintro e wX ⟨rfl,hbX⟩;obtain⟨hcX,hfX,hzX⟩:=bkn hbX w1.heap.size hz;have hz:=hzX;have Bw:=Bw.tr hbX);(try go_wp2_with fail))
   refine tK hK fun hHeld=>?_
   clear hK K;refine(tW 7)<|(tW 8)<|(tW 9)<|tD ?_
   all_goals
     go_wp2;go_ret;exact⟨congrArg _ (congrArg _ HE.out),B1.tr Bw⟩
 . have HE:=SQ (R6 x y);go_wp2_with fail
   have Bw:Below w1.heap.size w1 w1.drew:=Bw.drew;have hz:w1.heap.size<=w1.drew.heap.size:=Bw.size;refine rB (fun w'=>w'.cell? ⟨w.heap.size,0,none⟩=some (.int .i64 x)/\w'.cell? ⟨w.heap.size,1,none⟩=some (.int .i64 y)) fun hHeld=>(tW 0)<|(tW 1)<|(tW 4)<|(tW 5)<|(tR [2])<|tL fun K hK=>?_
   go_simp
   (go_at_call 50;go_must (refine(qV _ _ (by first|exact Hx0|exact Hy0) (by first|exact Hx1|exact Hy1) (HT.out.below (B1.tr Bw))).mono ?_;rintro e wX ⟨rfl,hbX⟩;obtain⟨hcX,hfX,hzX⟩:=bkn hbX w1.heap.size hz;have hz:=hzX;have Bw:=Bw.tr hbX);(try go_wp2_with fail))
   refine tK hK fun hHeld=>?_
   clear hK K;refine(tW 3)<|(tR [6])<|tL fun K hK=>?_
   go_simp
   (go_at_call 50;go_must (refine(qV _ _ (by first|exact Hx0|exact Hy0) (by first|exact Hx1|exact Hy1) (HT.out.below (B1.tr Bw))).mono ?_;rintro e wX ⟨rfl,hbX⟩;obtain⟨hcX,hfX,hzX⟩:=bkn hbX w1.heap.size hz;have hz:=hzX;have Bw:=Bw.tr hbX);(try go_wp2_with fail))
   refine tK hK fun hHeld=>?_
   clear hK K;refine(tW 7)<|(tW 8)<|(tW 9)<|tD ?_
   all_goals
     go_wp2;go_ret;exact⟨congrArg _ (congrArg _ HE.out),B1.tr Bw⟩
theorem Gj (l : List Dm) : toB (Lib.join ((l.map qK).map fun x => x.data.toList) [32]) = JH l := by
 unfold JH;congr 2
 rw[List.map_map];exact List.map_congr_left fun d _=>rfl
theorem Gl {l : List Dm} (hl : ∀ d ∈ l, aJ d = true) (h64 : l.length <= 64) : (Lib.join ((l.map qK).map fun x => x.data.toList) [32]).length <= 1000 := by
 have key : ∀ m : List Dm, (∀ d ∈ m, aJ d = true) -> (Lib.joinTail [32] ((m.map qK).map fun x => x.data.toList)).length = 5 * m.length := by
  intro m;induction m with
  |nil=>intro _;simp[Lib.joinTail]
  |cons d m ih=>
   intro hm;have e:∀(x:Bs) (zs:List Bs),Lib.joinTail [32] (x::zs)=32::(x++Lib.joinTail [32] zs):=fun x zs=>by simp[Lib.joinTail]
   rw[map_cons,map_cons,e,length_cons,length_append,ih (fun d hd=>hm d (List.mem_cons_of_mem _ hd)),length_cons]
   have:(qK d).data.toList.length=4:=by
    have:=Gh (hm d List.mem_cons_self);have e2:(qK d).size=(qK d).data.toList.length:=by rw[Array.length_toList];rfl
    omega
   omega
 cases l with
 |nil=>exact zero_le _
 |cons d l=>
  rw[map_cons,map_cons,Lib.join_cons,length_append,key l (fun d hd=>hl d (List.mem_cons_of_mem _ hd))]
  have:(qK d).data.toList.length=4:=by
   have:=Gh (hl d List.mem_cons_self);have e2:(qK d).size=(qK d).data.toList.length:=by rw[Array.length_toList];rfl
   omega
  rw[length_cons]at h64;omega
theorem Jb {l:List Dm} {k:Nat} (h:k<l.length):(l.take k).map qK++[qK l[k]]=(l.take (k+1)).map qK:=by
 rw[List.take_succ_eq_append_getElem h,List.map_append];rfl
theorem KS {l:List Dm} {k:Nat} (h:k<=l.length):((l.take k).map qK).length=k:=by rw[List.length_map,List.length_take];omega
theorem Ni {B g c : Nat} {w : World} {F : List ByteArray} (h : aC 9 1 kP B w (.slice (some ⟨g, 0, none⟩) F.length c) F) (hg : g < w.heap.size) (hF : F.length <= 100) (hs : (Lib.join (F.map fun x => x.data.toList) [32]).length <= 1000) :
 Calls prog 116 #[.slice (some ⟨g,0,none⟩) F.length c,.string ⟨#[32]⟩] w (Ret (.string (toB (Lib.join (F.map fun x=>x.data.toList) [32]))) w):=by
 obtain⟨A',c',e,h1,h2⟩:=h.form;injection e with e1 e2 e3;subst e3
 have hcl := Tryz.strings_Join g 0 c F (⟨#[32]⟩ : ByteArray) w (fun j x hj => by
  have hjl:=(List.getElem?_eq_some_iff.1 hj).1;have:=h.slot kG (by decide) hjl 0 (.string F[j]) rfl;rw[(List.getElem?_eq_some_iff.1 hj).2]at this;simpa using this) hg (by omega) h1 (Nat.le_trans hs (by decide))
 refine hcl.mono ?_;rintro e w' ⟨rfl,hb⟩;exact⟨rfl,hb⟩
theorem zQ (v:Value) (l:List Dm) (w:World) (h:Rd 3 bG w v l) (hl:∀d∈l,aJ d=true) (h64:l.length<=64) (ht:Tab w):Calls prog 186 #[v] w (Ret (.string (JH l)) w):=by
 obtain⟨A,c,rfl,hc,hm⟩:=h.form;have own0:=iA w (E:=9) (size:=1) (enc:=kP) w.heap.size rfl w.heap.size (le_refl _);have HT:=SQ ht;have HOK:=SQ hl;clear ht hl;go_enter Tryz.func186,Tryz.ntmps186
 go_wp2;go_loopw [3,5,9] (fun s3 s5 s9 wr=>∃(k:Nat) (D:Option Addr) (d:Nat) (z:Value),s5=z/\k<=l.length/\s9= .int .i64 k/\s3= .slice D k d/\aC 9 1 kP w.heap.size wr (.slice D k d) ((l.take k).map qK)/\Below w.heap.size w wr) (fun _ _ i _=>l.length-(intOf i).toNat)
 case atStart=>exact⟨0,_,_,_,rfl,zero_le _,rfl,rfl,own0,(Below.refl _ _).al _⟩
 case round=>
  obtain⟨k,D,d,z,rfl,hk,rfl,rfl,hown,hbel⟩:=hrel;clear own0;by_cases hlt:k<l.length
  . obtain⟨b,off,rfl,hb,k0,k1,k2⟩:=(h.SN hbel).kN hlt;have hki:(k:Int)<(l.length:Int):=(by omega);have hok:=HOK.out l[k] (getElem_mem hlt);have hts:=Jb hlt;obtain⟨x,hx⟩:=SL (l[k]);rw[<-hx]at k0 k1 k2 hok hts;obtain⟨x,y,s⟩:=x;simp only at k0 k1 k2;have Hts:=SQ hts;have Hok:=SQ hok;have HtL:=SQ (KS (l:=l) (k:=k) hk);have H8:Hid ((((l.take k).map qK).length+1)*16<=140737488355328):=SQ (by rw[HtL.out];omega);have HM:Hid (((l.take k).map qK).length+1<=maxLen):=SQ (by rw[HtL.out];unfold maxLen;omega);clear hx hts hok;have B1:=hbel.al (.cells #[.int .i64 x,.int .i64 y,.bool s] 60);have b1:=Blk.aY wr 60 #[.int .i64 x,.int .i64 y,.bool s];have own1:=hown.alloc (.cells #[.int .i64 x,.int .i64 y,.bool s] 60);go_wp2_with fail
    refine(AY x y s _ Hok.out).mono ?_;rintro e w2 ⟨rfl,hb2⟩;have B2:=B1.tr hb2;have b2:=b1.bl hb2;have own2:=own1.below hb2;obtain⟨q_0,q_1,q_2⟩:=b2.n3;go_wp2_with fail
    refine(GH x y s _ Hok.out (HT.out.below B2)).mono ?_;rintro e w3 ⟨rfl,hb3⟩;have B3:=B2.tr hb3;have own3:=own2.below hb3;obtain⟨S,hS⟩:=SL (qK (x,y,s));rw[<-hS];have HS:=SQ hS;clear hS;go_wp2_with (at_builtin;go_must (refine aH (enc:=kP) xA kG zU B3 own3 S H8.out HM.out rfl _ _ rfl rfl rfl ?_);intro v4 w4 own4 hb4 hg4 hd4;obtain⟨A4,c4,rfl,hc4,hm4⟩:=own4.form)
    have own5:aC 9 1 kP w.heap.size w4 (.slice A4 (k+1) c4) ((l.take (k+1)).map qK):=by
     have e:((l.take k).map qK++[S]).length=k+1:=by rw[length_append,HtL.out];rfl
     rw[<-Hts.out,<-HS.out,<-e];exact own4
    go_roundw
    case rel=>exact⟨k+1,A4,c4,_,rfl,by omega,by go_num,by simp[HtL.out],own5,hb4⟩
    case measure=>simp[intOf];omega
  . obtain rfl : k = l.length := by omega
    rcases Nat.eq_zero_or_pos l.length with h0|hp
    . have hl0:l=[]:=List.length_eq_zero_iff.1 h0;have hT0:Hid (JH l=(⟨#[]⟩:ByteArray)):=SQ (by rw[hl0];rfl);have H0:=SQ h0;clear hl0;rw[h0];clear h0;go_wp2_with fail
      refine(Tryz.strings_Join_none D d (⟨#[32]⟩:ByteArray) _).mono ?_;rintro e w5 ⟨rfl,rfl⟩;go_wp2;go_ret;exact⟨by rw[hT0.out];rfl,hbel⟩
    . skip;rw[List.take_length]at hown;have e2:(l.map qK).length=l.length:=List.length_map ..;obtain⟨g,rfl,hB,hgl⟩:=hown.split (k:=0) (by rw[e2];omega);have hown':aC 9 1 kP w.heap.size wr (.slice (some ⟨g,0,none⟩) (l.map qK).length d) (l.map qK):=by rw[e2];exact hown
      have hcl:=Ni hown' hgl (by rw[e2];omega) (Gl HOK.out h64);rw[e2,Gj]at hcl;clear hown';go_wp2_with fail
      refine hcl.mono ?_;rintro e w5 ⟨rfl,hb5⟩;go_wp2;go_ret;exact⟨rfl,hbel.tr hb5⟩
end Go.Proofs.YtljfoohaapckeaaGreatDoor
namespace Go.Proofs.YtljfoohaapckeaaGreatDoor
open Go.ChangeShapes Go.WideShapes Go.ChangeAt Go.RowKit Go.WideMaps Go.Maps
set_option linter.unusedVariables false
set_option linter.unusedSimpArgs false
set_option maxHeartbeats 4000000
set_option maxRecDepth 100000
theorem Mk:Row prog 145 24 (.slice none 0 0) 1 24:=⟨Tryz.underlying145,by kernel_rfl,rfl,by decide⟩
theorem SG:Keyed prog 9:=string_keyed underlying9
theorem QQ (w:World):(zeroValue 3).run prog w= .ok (.int .i64 0) w:=by kernel_rfl
theorem QR {T:List (List Dm)} (hT:jR T) (hok:∀t∈T,∀d∈t,aJ d=true) {j:Nat} (hj:j<T.length) {c:Cl} (hc:c∈dP (til T j)) (z:DataW Unit):(JL T T.length).atKey (H9 (aR (til T j) c)) z= .lit (.int .i64 (vD T j c)):=by
 have hm:=hT.cl _ (getElem_mem hj) c (by rw[<-fI hj];exact jS.1 hc);rw[fI hj];obtain⟨h1,h2⟩:=mF hm.1;have h3:=Mi hT.nd hok (i:=ix T (aR T[j] c)) z T.length (le_refl _) h1;rw[fI h1,h2]at h3;unfold vD;rw[fI hj];exact h3
theorem Ml {l:List Dm} (hl:∀d∈l,aJ d=true) (h64:l.length<=64):(JH l).size<=maxLen:=by
 have h1:=Gl hl h64;rw[<-Gj];have e:∀x:Bs,(toB x).size=x.length:=fun x=>rfl
 rw[e];unfold maxLen;omega
theorem KT {w w':World} (hb:Below w.heap.size w w'):w.grownBy w' none:=⟨hb.os,hb.tape,hb.output,hb.size,fun k hk _=>hb.block k hk⟩
theorem Nj {B:Nat} (v:Value) (T:List (List Dm)) (w:World) (h:dR 27 60 3 aV B w v T) (hT:jR T) (hok:∀t∈T,(∀d∈t,aJ d=true)/\t.length<=64) (ht:Tab w):
 Calls prog 134 #[v] w (fun e w'=>∃A c,e= .returned (.slice A T.length c)/\dR 24 3 1 bT w.heap.size w' (.slice A T.length c) (pU T T.length)/\Below w.heap.size w w'):=by
 obtain⟨A,c,rfl,hc,hm⟩:=h.form;have hsm:=hT.sm;have hmm:= @run_makeMap prog;have HT:=SQ ht;have HF:=SQ hT;have HK:=SQ hok;clear ht hT hok hc hm;obtain⟨gM,hgM⟩:=SL w.heap.size;have hM0:=World.ownsMap_made (H:=Unit) w prog 9 (plainElem (H:=Unit) prog 3);have HGM:=SQ hgM;rw[<-hgM]at hM0;go_enter Tryz.func134,Tryz.ntmps134
 rw[<-hgM];clear hgM;go_wp2;go_loopw [4,5,17] (fun s4 s5 s17 wr=>∃(k:Nat) (z4 z5:Value),s4=z4/\s5=z5/\k<=T.length/\s17= .int .i64 k/\wr.ownsMap prog 9 (plainElem (H:=Unit) prog 3) gM k (JL T k)/\Below w.heap.size w wr) (fun _ _ i _=>T.length-(intOf i).toNat)
 case atStart=>exact⟨0,_,_,rfl,rfl,zero_le _,rfl,hM0,(Below.refl _ _).al _⟩
 case round=>
  obtain⟨k,z4,z5,rfl,rfl,hk,rfl,hown,hbel⟩:=hrel;clear hM0;by_cases hlt:k<T.length
  . obtain⟨g,D,d,rfl,hg1,hg2,c1,tk⟩:=(h.below hbel).pick hlt;have hki:(k:Int)<(T.length:Int):=(by omega);obtain⟨l,hl⟩:=SL (T[k]);have hlo:(∀d∈l,aJ d=true)/\l.length<=64:=by rw[hl];exact HK.out _ (getElem_mem hlt)
    have hnx:(JL T k).put (H9 l) (.lit (.int .i64 (k:Int)))=JL T (k+1):=(by rw[Bo,fI hlt,hl]);rw[<-hl]at c1 tk;have HL:=SQ hl;have HLO:=SQ hlo;have HNX:=SQ hnx;have hkey:keyOf prog 9 (.string (JH l))=some (H9 l):=keyOf_string_mk underlying9 (Ml hlo.1 hlo.2);have HKey:=SQ hkey;clear hl hlo hnx hkey;go_wp2_with fail
    refine(zQ _ l _ (tk.rd aB (by decide)) HLO.out.1 HLO.out.2 (HT.out.below hbel)).mono ?_;rintro e w1 ⟨rfl,hb1⟩;have B1:=hbel.tr hb1;have own1:=hown.kept (KT hb1) (by simp);have hmx:k<maxLen:=by unfold maxLen;omega
    go_wp2_with (at_mapUpdate;go_must (refine wpList_mapUpdate_own _ rfl _ _ _ 181 rfl 9 3 SG Tryz.underlying181 _ w.heap.size k _ rfl (by rw[<-HGM.out];exact own1) hmx _ _ _ rfl rfl HKey.out _ [] (plainElem_int Tryz.underlying3 (WalkArith.wf_i64 (by omega))) ?_);intro w2 own2 hg2)
    rw[HNX.out,<-HGM.out]at own2;have B2:=B1.grown hg2 B1.size (fun j hj=>by injection hj with hj;subst hj;exact le_refl _);go_roundw
    case rel=>exact⟨k+1,_,_,rfl,rfl,by omega,by go_num,own2,B2⟩
    case measure=>simp[intOf];omega
  . obtain rfl : k = T.length := by omega
    have hgM:gM+1<=wr.heap.size:=by have:=hown.lt;omega
    have oo:=iA wr (E:=24) (size:=1) (enc:=eV) wr.heap.size rfl (gM+1) hgM;have oLL:dR 24 3 1 bT (gM+1) (wr.alloc (.cells #[] 24)) (.slice (some ⟨wr.heap.size,0,none⟩) 0 0) (pU T 0):=⟨[],oo,rfl,fun k u x hu=>by simp at hu⟩;have hown2:=hown.alloc (.cells #[] 24);have B2:=hbel.al (.cells #[] 24);clear oo;go_wp2;go_loopw [6,8,9,11,12,13,30] (fun s6 s8 s9 s11 s12 s13 s30 wr=>∃(k:Nat) (D:Option Addr) (d:Nat) (z8 z9 z11 z12 z13:Value),s8=z8/\s9=z9/\s11=z11/\s12=z12/\s13=z13/\k<=T.length/\s30= .int .i64 k/\s6= .slice D k d/\dR 24 3 1 bT (gM+1) wr (.slice D k d) (pU T k)/\wr.ownsMap prog 9 (plainElem (H:=Unit) prog 3) gM T.length (JL T T.length)/\Below w.heap.size w wr) (fun _ _ _ _ _ _ i _=>T.length-(intOf i).toNat)
    case atStart=>exact⟨0,_,_,_,_,_,_,_,rfl,rfl,rfl,rfl,rfl,zero_le _,rfl,rfl,oLL,hown2,B2⟩
    case round=>
     clear oLL hown2 B2 hgM hown hbel;obtain⟨k,D,d,z8,z9,z11,z12,z13,rfl,rfl,rfl,rfl,rfl,hk,rfl,rfl,oLL,hown,hbel⟩:=hrel;by_cases hlt:k<T.length
     . obtain⟨g,D1,d1,rfl,hg1,hg2,c1,tk⟩:=(h.below hbel).pick hlt;have hki:(k:Int)<(T.length:Int):=(by omega);obtain⟨l,hl⟩:=SL (T[k]);have hlo:(∀d∈l,aJ d=true)/\l.length<=64:=by rw[hl];exact HK.out _ (getElem_mem hlt)
       have htil:til T k=l:=(by rw[fI hlt,hl]);rw[<-hl]at c1 tk;have HLO:=SQ hlo;have HTL:=SQ htil;have HLt:=SQ hlt;have hsl:Small l.length:=by have:=hlo.2;unfold Small;omega
       clear hl hlo htil;have hgM:gM+1<=wr.heap.size:=by have:=hown.lt;omega
       have oi:=iA wr (E:=3) (size:=1) (enc:=bT) wr.heap.size rfl (gM+1) hgM;have tk2:=tk.alloc (.cells #[] 3);go_wp2_with fail
       refine(En _ l _ (tk2.rd aB (by decide))).mono ?_;rintro e w1 ⟨A6,c6,rfl,oF,hb1⟩;have oi1:=oi.below hb1;have tk1:=tk2.below hb1;have oLL1:=(oLL.alloc (.cells #[] 3)).below hb1;have own1:=(hown.alloc (.cells #[] 3)).kept (KT hb1) (by simp);have B1:=(hbel.al (.cells #[] 3)).tr hb1;have hfl:=wV l;obtain⟨F,hF⟩:=SL (dP l);rw[<-hF]at oF hfl⊢;have HF2:=SQ hF;clear hF oi tk2 oLL hown hbel hb1 tk c1;have hn0:Hid (nM T k 0=[]):=SQ rfl;go_wp2;go_loopw [9,11,12,13,38] (fun s9 s11 s12 s13 s38 wr=>∃(t:Nat) (D:Option Addr) (d:Nat) (z11 z12 z13:Value),s11=z11/\s12=z12/\s13=z13/\t<=F.length/\s38= .int .i64 t/\s9= .slice D t d/\aC 3 1 bT (gM+1) wr (.slice D t d) (nM T k t)/\Below w1.heap.size w1 wr) (fun _ _ _ _ i _=>F.length-(intOf i).toNat)
       case atStart=>exact⟨0,_,_,_,_,_,rfl,rfl,rfl,zero_le _,rfl,rfl,oi1,Below.refl _ _⟩
       case round=>
        clear oi1;obtain⟨t,D2,d2,z11,z12,z13,rfl,rfl,rfl,ht,rfl,rfl,hown,hbel⟩:=hrel;by_cases hlt2:t<F.length
        . have oF2:=oF.below hbel;obtain⟨b,off,rfl,hb,q0,q1⟩:=(oF2.rd dY (by decide)).fE hlt2;obtain⟨xy,hxy⟩:=SL (F[t]);have hmem:xy∈dP l:=by rw[hxy,<-HF2.out];exact getElem_mem hlt2
          rw[<-hxy]at q0 q1;obtain⟨x,y⟩:=xy;simp only at q0 q1;have hkd:¬kindOf l (x,y)=0:=jS.1 hmem;have hnT:=(HF.out.cl _ (getElem_mem HLt.out) (x,y) (by rw[<-fI HLt.out,HTL.out];exact hkd)).1;rw[<-fI HLt.out,HTL.out]at hnT;have hno:=HK.out _ hnT;have hlk:=fun z=>QR HF.out (fun t ht=>(HK.out t ht).1) HLt.out (c:=(x,y)) (by rw[HTL.out];exact hmem) z
          rw[HTL.out]at hlk;have hkey:keyOf prog 9 (.string (JH (aR l (x,y))))=some (H9 (aR l (x,y))):=keyOf_string_mk underlying9 (Ml hno.1 hno.2)
          have hnx:nM T k (t+1)=uT (vD T k (x,y)) (nM T k t):=by
           have hlt3:t<(dP (til T k)).length:=by rw[HTL.out,<-HF2.out];exact hlt2
           rw[Cb hlt3];congr 1
           congr 1
           rw[hxy];congr 1
           . rw[HF2.out,HTL.out]
          have hnl:(nM T k t).length=t:=El t (by rw[HTL.out,<-HF2.out];omega);have HNX:=SQ hnx;have HNL:=SQ hnl;have HKey:=SQ hkey;have HLK:=SQ hlk;have HNO:=SQ hno;have HKD:=SQ hkd;clear hnx hnl hkey hlk hno hkd hmem hxy hnT oF2;have hti:(t:Int)<(F.length:Int):=(by omega);have B2:=hbel.al (.cells #[.int .i64 x,.int .i64 y] 70);have b2:=Blk.aY wr 70 #[.int .i64 x,.int .i64 y];have own2:=hown.alloc (.cells #[.int .i64 x,.int .i64 y] 70);have tk2:=tk1.below B2;go_wp2_with fail
          refine(vO _ l x y _ (tk2.rd aB (by decide)) hsl HKD.out).mono ?_;rintro e w2 ⟨A7,c7,rfl,oN,hb2⟩;have B3:=B2.tr hb2;have own3:=own2.below hb2;have oM3:=own1.kept (KT B3) (by simp);obtain⟨N,hN⟩:=SL (aR l (x,y));rw[<-hN]at oN HKey HLK HNO⊢;have HN2:=SQ hN;clear hN;go_wp2_with fail
          refine(zQ _ N _ (oN.rd aB (by decide)) HNO.out.1 HNO.out.2 (HT.out.below (B1.tr B3))).mono ?_;rintro e w3 ⟨rfl,hb3⟩;have B4:=B3.tr hb3;have own4:=own3.below hb3;have oM4:=own1.kept (KT B4) (by simp);go_wp2_with (at_lookup;go_must (refine wpList_lookup_own_int _ rfl _ _ 181 rfl 9 3 .i64 SG Tryz.underlying181 Tryz.underlying3 (QQ _) w.heap.size T.length _ rfl (by rw[<-HGM.out];exact oM4) _ _ rfl HKey.out ?_);intro cc hat hwc)
          have hcc:cc=vD T k (x,y):=by
           rw[HLK.out]at hat;injection hat with hat;injection hat with _ hat;exact hat.symm
          subst hcc;refine(OO _ (nM T k t) _ _ (own4.rd aN (by decide)) (by rw[HNL.out];omega)).mono ?_;rintro e w5 ⟨A8,c8,rfl,oP,hb5⟩;have B5:=B4.tr hb5;have hpl:(uT (vD T k (x,y)) (nM T k t)).length=t+1:=(by rw[EU,HNL.out]);rw[hpl]at oP⊢;rw[<-HNX.out]at oP;have hgs:gM+1<=w3.heap.size:=by have:=oM4.lt;omega
          go_wp2;go_roundw
          case rel=>exact⟨t+1,A8,c8,_,_,_,rfl,rfl,rfl,by omega,by go_num,rfl,oP.mono hgs,B5⟩
          case measure=>simp[intOf];omega
        . obtain rfl : t = F.length := by omega
          have hnl:nM T k F.length=IB T k:=by unfold IB;rw[HTL.out,<-HF2.out]
          rw[hnl]at hown;obtain⟨us,h1,h2,h3⟩:=oLL1.below hbel;have huk:us.length=k:=by rw[h2];exact qL T k
          have oM2:=own1.kept (KT hbel) (by simp);have B2:=B1.tr hbel;have H8:Hid ((us.length+1)*24<=140737488355328):=SQ (by rw[huk];omega);have HM:Hid (us.length+1<=maxLen):=SQ (by rw[huk];unfold maxLen;omega);have hsz:gM+1<=wr.heap.size:=by have:=oM2.lt;omega
          have hrow:∀j,(Value.slice D k d).ownBlock=some j->gM+1<=j:=fun j hj=>(World.ownsRow.lt h1 j hj).1
          have HUK:=SQ huk;have HNL:=SQ (I8 T k);have HRow:=SQ hrow;clear huk hnl hrow oLL1 own1 B1;go_wp2_with (at_builtin;go_must (refine nT (enc:=eV) Mk BH wr hsz h1 (.slice D2 F.length d2) (by simp[eV,Value.oneCell']) rfl H8.out HM.out rfl _ _ rfl rfl rfl ?_);intro A5 c5 w5 o5 g5 hd5)
          have oN5:=dR.snoc (by decide) h1 h2 h3 hown o5 g5;rw[HNL.out,HUK.out]at oN5;have oM5:=oM2.kept g5 (fun e=>by have:=HRow.out gM e.symm;omega);have B5:=B2.grown g5 B2.size (fun j hj=>by have:=HRow.out j hj;rw[HGM.out]at this;omega);go_roundw
          case rel=>exact⟨k+1,A5,c5,_,_,_,_,_,rfl,rfl,rfl,rfl,rfl,by omega,by go_num,by rw[qL],oN5,oM5,B5⟩
          case measure=>simp[intOf];omega
     . obtain rfl : k = T.length := by omega
       go_wp2;go_ret;exact⟨_,_,rfl,oLL.mono (by omega),by rw[HGM.out];exact hbel⟩
end Go.Proofs.YtljfoohaapckeaaGreatDoor
namespace Go.Proofs.YtljfoohaapckeaaGreatDoor
open Go.ChangeShapes Go.WideShapes Go.ChangeAt Go.RowKit
set_option linter.unusedVariables false
set_option linter.unusedSimpArgs false
set_option maxHeartbeats 4000000
set_option maxRecDepth 100000
theorem Eo (v u:Value) (rows:List Int) (m:List Dm) (w:World) (h:Rd 1 bV w v rows) (h':Rd 3 bG w u m):Calls prog 197 #[.agg #[v],u] w (Ret (.int .i64 (nK (aD rows) m)) w):=by
 have B0:=(Below.refl w.heap.size w).al (.cells #[v] 26);obtain⟨T,hT⟩:=SL (aD rows);have cL:∀(W:World),Rd 1 bV W v rows->Calls prog 198 #[.agg #[v]] W (Fy T W):=fun W hW=>by rw[hT];exact uD v rows W hW
 rw[<-hT];have HCL:=SQ cL;clear hT cL;go_enter Tryz.func197,Tryz.ntmps197
 go_wp2_with fail
 refine(HCL.out _ (h.SN B0)).mono ?_;rintro e w1 ⟨A,c,rfl,oT,hb1⟩;have B1:=B0.tr hb1
 have hTm:T.length<=9223372036854775807:=by
  obtain⟨_,_,e,h1,h2⟩:=oT.form;unfold maxLen at h2;omega
 clear hb1 B0;go_wp2;go_loopw [6] (fun s6 wr=>∃(k:Nat),k<=T.length/\s6= .int .i64 k/\Hid (∀j (hj:j<k) (h:j<T.length),T[j]≠m)/\Below w1.heap.size w1 wr) (fun i _=>T.length-(intOf i).toNat)
 case atStart=>exact⟨0,zero_le _,rfl,SQ (fun j hj=>by omega),Below.refl _ _⟩
 case round=>
  obtain⟨k,hk,rfl,Hg,hbel⟩:=hrel;by_cases hlt:k<T.length
  . obtain⟨g,D,d,rfl,hg1,hg2,c1,ownk⟩:=(oT.below hbel).pick hlt;have hki:(k:Int)<(T.length:Int):=(by omega);obtain⟨t,ht⟩:=SL (T[k]);rw[<-ht]at c1 ownk;have HT:=SQ ht;clear ht;have B2:=B1.tr hbel;go_wp2_with fail
    refine(pG _ _ t m _ (ownk.rd aB (by decide)) (h'.SN B2)).mono ?_;rintro e w2 ⟨rfl,hb2⟩;by_cases he:t=m
    . rw[decide_eq_true he];have HI:Hid (nK T m=(k:Int)):=SQ (index_hit hlt (fun j hj=>Hg.out j hj (by omega)) (by rw[<-HT.out];exact he));clear he;go_wp2;go_ret;exact⟨by rw[HI.out];rfl,B2.tr hb2⟩
    . rw[decide_eq_false he]
      have HN : Hid (∀ j (hj : j < k + 1) (h : j < T.length), T[j] ≠ m) := SQ (fun j hj h q => by
       rcases(by omega:j<k∨j=k)with h1|h1
       . exact Hg.out j h1 h q
       . subst h1;rw[<-HT.out]at q;exact he q)
      clear he;go_wp2;go_roundw
      case rel=>exact⟨k+1,by omega,by go_num,HN,hbel.tr hb2⟩
      case measure=>simp[intOf];omega
  . obtain rfl : k = T.length := by omega
    have HI:Hid (nK T m= -1):=SQ (Ed (fun j hj=>Hg.out j hj hj));go_wp2;go_ret;exact⟨by rw[HI.out];rfl,B1.tr hbel⟩
def seen (p j:Nat):List Int:=if p<j then[(p:Int)]else[]
theorem OP {p:Nat}:seen p p++[(p:Int)]=seen p (p+1):=by unfold seen;rw[if_neg (by omega),if_pos (by omega)];rfl
theorem QS {p j:Nat} (h:p≠j):seen p (j+1)=seen p j:=by
 unfold seen;by_cases q:p<j
 . rw[if_pos (by omega),if_pos q]
 . rw[if_neg (by omega),if_neg q]
theorem JO (p j:Nat):(seen p j).length<=1:=by unfold seen;split<;>simp
def lnk (l:List Int) (p j:Nat):List Int:=l++seen p j
theorem JP (l:List Int) (p:Nat):lnk l p 0=l:=by unfold lnk seen;rw[if_neg (by omega),List.append_nil]
theorem QT (l:List Int) (p:Nat):lnk l p p++[(p:Int)]=lnk l p (p+1):=by unfold lnk;rw[List.append_assoc,OP]
theorem R7 (l:List Int) {p j:Nat} (h:p≠j):lnk l p (j+1)=lnk l p j:=by unfold lnk;rw[QS h]
theorem QU (l:List Int) (p j:Nat):(lnk l p j).length<=l.length+1:=by unfold lnk;rw[length_append];have:=JO p j;omega
theorem QV (l:List Int) {p n:Nat} (h:p<n):lnk l p n=l++[(p:Int)]:=by unfold lnk seen;rw[if_pos h]
theorem KU {B:Nat} (v:Value) (T:List (List Dm)) (w:World) (h:dR 27 60 3 aV B w v T) (hT:jR T) (hok:∀t∈T,t.length<=64):
 Calls prog 200 #[v] w (fun e w'=>∃A c,e= .returned (.slice A T.length c)/\dR 24 3 1 bT w.heap.size w' (.slice A T.length c) (mK T T.length)/\Below w.heap.size w w'):=by
 obtain⟨A,c,rfl,hc,hm⟩:=h.form;have hsm:=hT.sm;have HF:=SQ hT;have HK:=SQ hok;have oo:=iA w (E:=24) (size:=1) (enc:=eV) w.heap.size rfl w.heap.size (le_refl _);have oLL:dR 24 3 1 bT w.heap.size (w.alloc (.cells #[] 24)) (.slice (some ⟨w.heap.size,0,none⟩) 0 0) (mK T 0):=⟨[],oo,rfl,fun k u x hu=>by simp at hu⟩;clear hT hok hc hm oo;go_enter Tryz.func200,Tryz.ntmps200
 go_wp2;go_loopw [3,4] (fun s3 s4 wr=>∃(k:Nat) (D:Option Addr) (d:Nat),k<=T.length/\s4= .int .i64 k/\s3= .slice D k d/\dR 24 3 1 bT w.heap.size wr (.slice D k d) (mK T k)/\Below w.heap.size w wr) (fun _ i _=>T.length-(intOf i).toNat)
 case atStart=>exact⟨0,_,_,zero_le _,rfl,rfl,oLL,(Below.refl _ _).al _⟩
 case round=>
  clear oLL;obtain⟨k,D,d,hk,rfl,rfl,oLL,hbel⟩:=hrel;by_cases hlt:k<T.length
  . obtain⟨g,D1,d1,rfl,hg1,hg2,c1,tk⟩:=(h.below hbel).pick hlt;have hki:(k:Int)<(T.length:Int):=(by omega);obtain⟨l,hl⟩:=SL (T[k]);have hlo:l.length<=64:=by rw[hl];exact HK.out _ (getElem_mem hlt)
    have htil:til T k=l:=(by rw[fI hlt,hl]);rw[<-hl]at c1 tk;have HTL:=SQ htil;have HLt:=SQ hlt;have hsl:Small l.length:=by unfold Small;omega
    clear hl htil;go_wp2_with fail
    refine(qM _ l _ (tk.rd aB (by decide))).mono ?_;rintro e w1 ⟨A6,c6,rfl,oF,hb1⟩;have hfl:=wV l;obtain⟨F,hF⟩:=SL (dP l);rw[<-hF]at oF hfl⊢;have HF2:=SQ hF;have B1:=hbel.tr hb1;have tk1:=tk.below hb1;have oLL1:=oLL.below hb1;have cK:w1.cell? ⟨g,k,none⟩=some (.slice D1 l.length d1):=(hb1.cell (p:=⟨g,k,none⟩) hg2).trans c1;have hgk1:g<w1.heap.size:=Nat.lt_of_lt_of_le hg2 hb1.size;have oi:=iA w1 (E:=3) (size:=1) (enc:=bT) w1.heap.size rfl w1.heap.size (le_refl _);clear hF oLL hbel hb1 tk c1;go_wp2;go_loopw [6,7] (fun s6 s7 wr=>∃(t:Nat) (D:Option Addr) (d:Nat),t<=F.length/\s7= .int .i64 t/\s6= .slice D t d/\aC 3 1 bT w1.heap.size wr (.slice D t d) (iB T k t)/\Below w1.heap.size w1 wr) (fun _ i _=>F.length-(intOf i).toNat)
    case atStart=>exact⟨0,_,_,zero_le _,rfl,rfl,oi,(Below.refl _ _).al _⟩
    case round=>
     clear oi;obtain⟨t,D2,d2,ht,rfl,rfl,hown,hbel⟩:=hrel;by_cases hlt2:t<F.length
     . have oF2:=oF.below hbel;obtain⟨b,off,rfl,hb,q0,q1⟩:=(oF2.rd dY (by decide)).fE hlt2;have cK2:=(hbel.cell (p:=⟨g,k,none⟩) hgk1).trans cK;obtain⟨xy,hxy⟩:=SL (F[t]);have hmem:xy∈dP l:=by rw[hxy,<-HF2.out];exact getElem_mem hlt2
       rw[<-hxy]at q0 q1;obtain⟨x,y⟩:=xy;simp only at q0 q1;have hkd:¬kindOf l (x,y)=0:=jS.1 hmem;have hnT:=(HF.out.cl _ (getElem_mem HLt.out) (x,y) (by rw[<-fI HLt.out,HTL.out];exact hkd)).1;rw[<-fI HLt.out,HTL.out]at hnT;obtain⟨hat,hat2⟩:=mF hnT;obtain⟨p,hp⟩:=SL (ix T (aR l (x,y)))
       have hnx:iB T k t++[(p:Int)]=iB T k (t+1):=by
        have hlt3:t<(dP (til T k)).length:=by rw[HTL.out,<-HF2.out];exact hlt2
        rw[<-I7 hlt3];congr 2
        have e:(dP (til T k))[t]=(x,y):=by
         have:∀(G:List Cl),G=F->∀h:t<G.length,G[t]=(x,y):=fun G e h=>by subst e;exact hxy.symm
         exact this _ (by rw[HTL.out,<-HF2.out]) hlt3
        unfold vD;rw[e,HTL.out,hp]
       have hnl:(iB T k t).length=t:=KP (by rw[HTL.out,<-HF2.out];omega)
       have hTp : ∀ j (h : j < T.length), T[j] = aR l (x, y) ↔ j = p := fun j h => by
        constructor
        . intro e;rw[hp,<-e];exact(Ru HF.out.nd h).symm
        . intro e;subst e;have:=hat2;simp only[<-hp]at this;exact this
       rw[<-hp]at hat;have HNX:=SQ hnx;have HNL:=SQ hnl;have HKD:=SQ hkd;have HTp:=SQ hTp;clear hnx hnl hkd hmem hxy hnT oF2 hat2 hp hTp;have hti:(t:Int)<(F.length:Int):=(by omega);obtain⟨W,hW⟩:=SL wr;rw[<-hW]at hbel hown q0 q1 cK2 hb⊢;clear hW;have hgW:g<W.heap.size:=Nat.lt_of_lt_of_le hgk1 hbel.size;have Bw:Below W.heap.size W W.drew:=(Below.refl _ _).drew;have hz:W.heap.size<=W.drew.heap.size:=(by simp);go_wp2_with fail
       refine rB (fun w'=>w'.cell? ⟨g,k,none⟩=some (.slice D1 l.length d1)/\w'.cell? ⟨b,off+t*2,none⟩=some (.int .i64 x)/\w'.cell? ⟨b,off+t*2+1,none⟩=some (.int .i64 y)) fun hHeld=>(tW 0)<|(tW 1)<|(tW 2)<|(tW 3)<|(tW 4)<|(tW 5)<|(tW 6)<|(tW 7)<|(tR [8])<|tL fun K hK=>?_
       go_simp
       (go_at_call 156;go_must (refine(vT _ l x y _ ((tk1.below (hbel.tr Bw)).rd aB (by decide)) hsl HKD.out).mono ?_;rintro e wX ⟨A7,c7,rfl,oN,hbX⟩;obtain⟨hcX,hfX,hzX⟩:=bkn hbX W.heap.size hz;have hz:=hzX;have Bw:=Bw.tr hbX);(try go_wp2_with fail))
       refine tK hK fun hHeld=>?_
       clear hK K;refine(tW 9)<|(tW 10)<|(tW 11)<|(tW 12)<|(tW 13)<|tD ?_
       all_goals
         have B2:=hbel.tr Bw;have own2:=hown.below Bw;have oNs:=le_refl wX.heap.size
       obtain⟨V,hV⟩:=SL wX;rw[<-hV]at B2 own2 oN Bw⊢;clear hV;obtain⟨N,hN⟩:=SL (aR l (x,y));rw[<-hN]at oN HTp⊢;clear hN;go_wp2;go_loopw [6,10] (fun s6 s10 wr=>∃(j:Nat) (D:Option Addr) (d:Nat),j<=T.length/\s10= .int .i64 j/\s6= .slice D (lnk (iB T k t) p j).length d/\aC 3 1 bT w1.heap.size wr (.slice D (lnk (iB T k t) p j).length d) (lnk (iB T k t) p j)/\Below w1.heap.size w1 wr/\aC 60 3 aV w1.heap.size wr (.slice A7 N.length c7) N) (fun _ i _=>T.length-(intOf i).toNat)
       case atStart => exact ⟨0, _, _, zero_le _, rfl, by rw [JP, HNL.out], by
        rw[JP,HNL.out];exact own2,B2,oN.mono (by first|exact hbel.size|simpa using hbel.size)⟩
       case round=>
        clear own2 B2 oN;obtain⟨j,D3,d3,hj,rfl,rfl,hown,hbelj,oN⟩:=hrel;by_cases hlj:j<T.length
        . obtain⟨g2,Dj,dj,hge,_,_,cj,tj⟩:=(h.below (B1.tr hbelj)).pick hlj;injection hge with hge;injection hge with hge _;subst hge;have hji:(j:Int)<(T.length:Int):=(by omega);have hiff:=HTp.out j hlj;obtain⟨u,hu⟩:=SL (T[j]);rw[<-hu]at cj tj hiff;have HIff:=SQ hiff;have hsl2:=JO p j;clear hu hiff;go_wp2_with fail
          refine(pG _ _ u N _ (tj.rd aB (by decide)) (oN.rd aB (by decide))).mono ?_;rintro e w5 ⟨rfl,hb5⟩;have own5:=hown.below hb5;have B5:=hbelj.tr hb5;have oN5:=oN.below hb5;by_cases hjp:j=p
          . rw[decide_eq_true (HIff.out.2 hjp)];have HS:Hid ((lnk (iB T k t) p j)++[(j:Int)]=lnk (iB T k t) p (j+1)):=SQ (by rw[hjp];exact QT _ _);have HL2:Hid ((lnk (iB T k t) p j).length<=100):=SQ (by have:=QU (iB T k t) p j;rw[HNL.out]at this;omega);have H8:Hid (((lnk (iB T k t) p j).length+1)*8<=140737488355328):=SQ (by have:=HL2.out;omega);have HM:Hid ((lnk (iB T k t) p j).length+1<=maxLen):=SQ (by have:=HL2.out;unfold maxLen;omega);have HLn:Hid ((lnk (iB T k t) p (j+1)).length=(lnk (iB T k t) p j).length+1):=SQ (by rw[<-HS.out,length_append];rfl);clear hjp hsl2;go_wp2_with (at_builtin;go_must (refine aH (enc:=bT) fU aN kU B5 own5 (j:Int) H8.out HM.out rfl _ _ rfl rfl rfl ?_);intro v6 w6 own6 hb6 hg6 hd6;rw[HS.out]at own6;obtain⟨A8,c8,rfl,hc8,hm8⟩:=own6.form)
            have oN6:=aC.lX (oN5.alloc (.cells (bT (j:Int)).toArray 3)) (own5.alloc (.cells (bT (j:Int)).toArray 3)) (by decide) hg6;go_roundw
            case rel=>exact⟨j+1,A8,c8,by omega,by go_num,by first|rfl|rw[HLn.out],own6,hb6,oN6⟩
            case measure=>simp[intOf];omega
          . rw [decide_eq_false (fun e => hjp (HIff.out.1 e))];have HS:Hid (lnk (iB T k t) p (j+1)=lnk (iB T k t) p j):=SQ (R7 _ (fun e=>hjp e.symm));clear hjp hsl2;go_wp2;go_roundw
            case rel=>exact⟨j+1,D3,d3,by omega,by go_num,by rw[HS.out],by rw[HS.out];exact own5,B5,oN5⟩
            case measure=>simp[intOf];omega
        . obtain rfl : j = T.length := by omega
          have HS : Hid (lnk (iB T k t) p T.length = iB T k (t + 1)) := SQ (by
           rw[QV _ hat];exact HNX.out)
          have HLn:Hid ((iB T k (t+1)).length=t+1):=SQ (by rw[<-HNX.out,length_append,HNL.out];rfl);rw[HS.out,HLn.out]at hown;rw[HS.out,HLn.out];go_wp2;go_roundw
          case rel=>exact⟨t+1,D3,d3,by omega,by go_num,rfl,hown,hbelj⟩
          case measure=>simp[intOf];omega
     . obtain rfl : t = F.length := by omega
       have hnl:iB T k F.length=sF T k:=(by rw[<-KQ,HTL.out,<-HF2.out]);rw[hnl]at hown;obtain⟨us,h1,h2,h3⟩:=oLL1.below hbel;have huk:us.length=k:=by rw[h2];exact nN T k
       have B2:=B1.tr hbel;have H8:Hid ((us.length+1)*24<=140737488355328):=SQ (by rw[huk];omega);have HM:Hid (us.length+1<=maxLen):=SQ (by rw[huk];unfold maxLen;omega);have hrow:∀j,(Value.slice D k d).ownBlock=some j->w.heap.size<=j:=fun j hj=>(World.ownsRow.lt h1 j hj).1
       have HUK:=SQ huk;have HNL:=SQ (I9 T k);have HRow:=SQ hrow;have hown':=hown.mono B1.size;clear huk hnl hrow oLL1 B1;go_wp2_with (at_builtin;go_must (refine nT (enc:=eV) Mk BH wr B2.size h1 (.slice D2 F.length d2) (by simp[eV,Value.oneCell']) rfl H8.out HM.out rfl _ _ rfl rfl rfl ?_);intro A5 c5 w5 o5 g5 hd5)
       have oN5:=dR.snoc (by decide) h1 h2 h3 hown' o5 g5;rw[HNL.out,HUK.out]at oN5;have B5:=B2.grown g5 B2.size (fun j hj=>HRow.out j hj);go_roundw
       case rel=>exact⟨k+1,A5,c5,by omega,by go_num,by rw[nN],oN5,B5⟩
       case measure=>simp[intOf];omega
  . obtain rfl : k = T.length := by omega
    go_wp2;go_ret;exact⟨_,_,rfl,oLL,hbel⟩
theorem EW (s:Nat) (w:World) (hs:s<U64):Calls prog 144 #[.int .u64 s] w (Ret (.int .i64 (fF s)) w):=by
 obtain⟨R,hR⟩:=SL (fF s);have C:Calls prog 191 #[.int .u64 s,.int .i64 0,.func (.func 192) #[] #[],.func (.func 193) #[] #[]] w (Ret (.int .i64 R) w):=by rw[hR];exact M5 s w hs
 rw[<-hR];clear hR;go_enter Tryz.func144,Tryz.ntmps144
 go_wp2_with fail
 refine C.mono ?_;rintro e w1 ⟨rfl,hb1⟩;go_wp2;go_ret;exact⟨rfl,hb1⟩
theorem Cf (v:Value) (rows:List Int) (w:World) (h:Rd 1 bV w v rows):Calls prog 183 #[.agg #[v]] w (Ret (.int .i64 (aU rows)) w):=by
 obtain⟨A,c,rfl,hc,hm⟩:=h.form;have hA:=(Below.refl w.heap.size w).al (.cells #[.slice A rows.length c] 26);have bX:=Blk.aY w 26 #[.slice A rows.length c];rcases hk:aZ rows with _|_
 . have e : aU rows = 0 := by unfold aU; rw [hk]; rfl
   rw[e];have Hk:=SQ hk;clear hk e;go_enter func183,ntmps183
   go_wp2_with fail
   refine(nE _ rows _ (h.SN hA)).mono ?_;rintro e w1 ⟨rfl,hb1⟩;rw[Hk.out];go_wp2;go_ret;exact⟨rfl,hA.tr hb1⟩
 . have e : aU rows = fF (setOf rows) := by unfold aU; rw [if_pos hk]
   rw[e];have Hok:Hid (dK rows):=SQ (aO.1 hk);have Hk:=SQ hk;clear hk e;go_enter func183,ntmps183
   go_wp2_with fail
   refine(nE _ rows _ (h.SN hA)).mono ?_;rintro e w1 ⟨rfl,hb1⟩;rw[Hk.out];have z1:=(bX.bl hb1).c1;go_wp2_with fail
   refine(nW _ rows _ ((h.SN hA).SN hb1) Hok).mono ?_;rintro e w2 ⟨rfl,hb2⟩;go_wp2_with fail
   refine(EW _ _ (dM Hok.out)).mono ?_;rintro e w3 ⟨rfl,hb3⟩;go_wp2;go_ret;exact⟨rfl,((hA.tr hb1).tr hb2).tr hb3⟩
theorem Cg (v:Value) (rows:List Int) (b:Bool) (w:World) (h:Rd 1 bV w v rows) (hb:(aU rows=0/\b=false)∨(aU rows≠0/\b=true)):Calls prog 140 #[.agg #[v]] w (Ret (.bool b) w):=by
 obtain⟨A,c,rfl,hc,hm⟩:=h.form;have hA:=(Below.refl w.heap.size w).al (.cells #[.slice A rows.length c] 26);have hin:=Kw rows;obtain⟨k,hk⟩:=SL (aU rows);have C:∀(u:Value) (w:World),Rd 1 bV w u rows->Calls prog 183 #[.agg #[u]] w (Ret (.int .i64 k) w):=fun u w k1=>by rw[hk];exact Cf u rows w k1
 rw[<-hk]at hin hb;clear hk;rcases hb with⟨h0,rfl⟩|⟨h0,rfl⟩
 . subst h0;go_enter func140,ntmps140
   go_wp2_with fail
   refine(C _ _ (h.SN hA)).mono ?_;rintro e w1 ⟨rfl,hb1⟩;go_wp2;go_ret;exact⟨rfl,hA.tr hb1⟩
 . have hp : 0 < k := by omega
   have hp2:decide (0<k)=true:=decide_eq_true hp;clear h0;go_enter func140,ntmps140
   go_wp2_with fail
   refine(C _ _ (h.SN hA)).mono ?_;rintro e w1 ⟨rfl,hb1⟩;go_wp2;go_ret;exact⟨by first|rfl|(rw[hp2])|simp[hp],hA.tr hb1⟩
end Go.Proofs.YtljfoohaapckeaaGreatDoor
