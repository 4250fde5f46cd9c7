/- Dominoes and tilings as text: the walks. Conditions: the library's table of powers, as its text lays it. The links of the tilings, of the program: the walk. Conditions: the library's table of powers, as its text lays it. -/
import Derived.Test.YtljfoohaapckeaaGreatDoorAG20
import Derived.Test.YtljfoohaapckeaaGreatDoorAK6
import Derived.Test.YtljfoohaapckeaaGreatDoorAG21
import Derived.Maps.Own
import Derived.Maps.OwnOps
open _root_.List (map_cons length_cons length_append getElem_mem)
open _root_.Nat (le_refl zero_le)
open _root_.Go.Proofs.Tryz (prog underlying9)
namespace Go.Proofs.YtljfoohaapckeaaGreatDoor
open Go.ChangeShapes Go.WideShapes Go.ChangeAt Go.RowKit
set_option linter.unusedVariables false
set_option linter.unusedSimpArgs false
set_option maxHeartbeats 4000000
set_option maxRecDepth 100000
theorem OI (x y:Int):GK x++(⟨#[44]⟩:ByteArray)++GK y++(⟨#[114]⟩:ByteArray)=pE (x,y,false):=by
 apply ByteArray.ext;apply Array.toList_inj.1;unfold pE;rw[GL];simp[ByteArray.data_append,GK,Dl]
theorem OJ (x y:Int):GK x++(⟨#[44]⟩:ByteArray)++GK y++(⟨#[100]⟩:ByteArray)=pE (x,y,true):=by
 apply ByteArray.ext;apply Array.toList_inj.1;unfold pE;rw[GL];simp[ByteArray.data_append,GK,Dl]
theorem GX {x:Int} (h0:0<=x) (h1:x<=7):(GK x).size=1:=by
 unfold GK;rw[Lib.decDigits_one (by omega)];rfl
theorem EM (x y:Int) (d:Bool) (w:World) (hd:aI (x,y,d)=true) (ht:Tab w):Calls prog 216 #[.agg #[.int .i64 x,.int .i64 y,.bool d]] w (Ret (.string (pE (x,y,d))) w):=by
 have hin:=Dn hd;have Hx0:0<=x:=hin.1.1;have Hx1:x<=9223372036854775807:=by have:=hin.1.2;simp only at this;omega
 have Hy0:0<=y:=hin.2.1;have Hy1:y<=9223372036854775807:=by have:=hin.2.2;simp only at this;omega
 have sX:=GX Hx0 hin.1.2;have sY:=GX Hy0 hin.2.2;have HT:=Pm ht;clear ht hin;have B0:=(Below.refl w.heap.size w).al (.cells #[.int .i64 x,.int .i64 y,.bool d] 60);have bP:=Blk.aW w 60 #[.int .i64 x,.int .i64 y,.bool d];go_enter Tryz.func216,Tryz.ntmps216
 go_wp2_with fail
 refine(yL x y d _ hd).mono ?_;rintro e w1 ⟨rfl,hb1⟩;have B1:=B0.tr hb1;have bP1:=bP.bl hb1;have hg:=bP1.lt;obtain⟨y_0,y_1,y_2⟩:=bP1.n3;have Bw:Below w1.heap.size w1 w1:=Below.refl _ _;have hz:w1.heap.size<=w1.heap.size:=le_refl _;cases d
 . have HE:=Pm (OI x y);go_wp2_with fail
   have Bw:Below w1.heap.size w1 w1.drew:=Bw.drew;have hz:w1.heap.size<=w1.drew.heap.size:=Bw.size;refine rB (fun w'=>w'.cell? ⟨w.heap.size,0,none⟩=some (.int .i64 x)/\w'.cell? ⟨w.heap.size,1,none⟩=some (.int .i64 y)) fun hHeld=>(tW 0)<|(tW 1)<|(tW 4)<|(tW 5)<|(tR [2])<|tL fun K hK=>?_
   go_simp
   (go_at_call 50;go_must (refine(xR _ _ (by first|exact Hx0|exact Hy0) (by first|exact Hx1|exact Hy1) (HT.out.below (B1.tr Bw))).mono ?_;rintro e wX ⟨rfl,hbX⟩;obtain⟨hcX,hfX,hzX⟩:=bkn hbX w1.heap.size hz;have hz:=hzX;have Bw:=Bw.tr hbX);(try go_wp2_with fail))
   refine tK hK fun hHeld=>?_
   clear hK K;refine(tW 3)<|(tR [6])<|tL fun K hK=>?_
   go_simp
   (go_at_call 50;go_must (refine(xR _ _ (by first|exact Hx0|exact Hy0) (by first|exact Hx1|exact Hy1) (HT.out.below (B1.tr Bw))).mono ?_;rintro e wX ⟨rfl,hbX⟩;obtain⟨hcX,hfX,hzX⟩:=bkn hbX w1.heap.size hz;have hz:=hzX;have Bw:=Bw.tr hbX);(try go_wp2_with fail))
   refine tK hK fun hHeld=>?_
   clear hK K;refine(tW 7)<|(tW 8)<|(tW 9)<|tD ?_
   all_goals
     go_wp2;go_ret;exact⟨congrArg _ (congrArg _ HE.out),B1.tr Bw⟩
 . have HE:=Pm (OJ x y);go_wp2_with fail
   have Bw:Below w1.heap.size w1 w1.drew:=Bw.drew;have hz:w1.heap.size<=w1.drew.heap.size:=Bw.size;refine rB (fun w'=>w'.cell? ⟨w.heap.size,0,none⟩=some (.int .i64 x)/\w'.cell? ⟨w.heap.size,1,none⟩=some (.int .i64 y)) fun hHeld=>(tW 0)<|(tW 1)<|(tW 4)<|(tW 5)<|(tR [2])<|tL fun K hK=>?_
   go_simp
   (go_at_call 50;go_must (refine(xR _ _ (by first|exact Hx0|exact Hy0) (by first|exact Hx1|exact Hy1) (HT.out.below (B1.tr Bw))).mono ?_;rintro e wX ⟨rfl,hbX⟩;obtain⟨hcX,hfX,hzX⟩:=bkn hbX w1.heap.size hz;have hz:=hzX;have Bw:=Bw.tr hbX);(try go_wp2_with fail))
   refine tK hK fun hHeld=>?_
   clear hK K;refine(tW 3)<|(tR [6])<|tL fun K hK=>?_
   go_simp
   (go_at_call 50;go_must (refine(xR _ _ (by first|exact Hx0|exact Hy0) (by first|exact Hx1|exact Hy1) (HT.out.below (B1.tr Bw))).mono ?_;rintro e wX ⟨rfl,hbX⟩;obtain⟨hcX,hfX,hzX⟩:=bkn hbX w1.heap.size hz;have hz:=hzX;have Bw:=Bw.tr hbX);(try go_wp2_with fail))
   refine tK hK fun hHeld=>?_
   clear hK K;refine(tW 7)<|(tW 8)<|(tW 9)<|tD ?_
   all_goals
     go_wp2;go_ret;exact⟨congrArg _ (congrArg _ HE.out),B1.tr Bw⟩
theorem Es (l : List Dm) : toB (Lib.join ((l.map pE).map fun x => x.data.toList) [32]) = GM l := by
 unfold GM;congr 2
 rw[List.map_map];exact List.map_congr_left fun d _=>rfl
theorem Et {l : List Dm} (hl : ∀ d ∈ l, aI d = true) (h64 : l.length <= 64) : (Lib.join ((l.map pE).map fun x => x.data.toList) [32]).length <= 1000 := by
 have key : ∀ m : List Dm, (∀ d ∈ m, aI d = true) -> (Lib.joinTail [32] ((m.map pE).map fun x => x.data.toList)).length = 5 * m.length := by
  intro m;induction m with
  |nil=>intro _;simp[Lib.joinTail]
  |cons d m ih=>
   intro hm;have e:∀(x:Bs) (zs:List Bs),Lib.joinTail [32] (x::zs)=32::(x++Lib.joinTail [32] zs):=fun x zs=>by simp[Lib.joinTail]
   rw[map_cons,map_cons,e,length_cons,length_append,ih (fun d hd=>hm d (List.mem_cons_of_mem _ hd)),length_cons]
   have:(pE d).data.toList.length=4:=by
    have:=Ep (hm d List.mem_cons_self);have e2:(pE d).size=(pE d).data.toList.length:=by rw[Array.length_toList];rfl
    omega
   omega
 cases l with
 |nil=>exact zero_le _
 |cons d l=>
  rw[map_cons,map_cons,Lib.join_cons,length_append,key l (fun d hd=>hl d (List.mem_cons_of_mem _ hd))]
  have:(pE d).data.toList.length=4:=by
   have:=Ep (hl d List.mem_cons_self);have e2:(pE d).size=(pE d).data.toList.length:=by rw[Array.length_toList];rfl
   omega
  rw[length_cons]at h64;omega
theorem F5 {l:List Dm} {k:Nat} (h:k<l.length):(l.take k).map pE++[pE l[k]]=(l.take (k+1)).map pE:=by
 rw[List.take_succ_eq_append_getElem h,List.map_append];rfl
theorem IU {l:List Dm} {k:Nat} (h:k<=l.length):((l.take k).map pE).length=k:=by rw[List.length_map,List.length_take];omega
theorem KN {B g c : Nat} {w : World} {F : List ByteArray} (h : aD 9 1 Ib B w (.slice (some ⟨g, 0, none⟩) F.length c) F) (hg : g < w.heap.size) (hF : F.length <= 100) (hs : (Lib.join (F.map fun x => x.data.toList) [32]).length <= 1000) :
 Calls prog 116 #[.slice (some ⟨g,0,none⟩) F.length c,.string ⟨#[32]⟩] w (Ret (.string (toB (Lib.join (F.map fun x=>x.data.toList) [32]))) w):=by
 obtain⟨A',c',e,h1,h2⟩:=h.form;injection e with e1 e2 e3;subst e3
 have hcl := Tryz.strings_Join g 0 c F (⟨#[32]⟩ : ByteArray) w (fun j x hj => by
  have hjl:=(List.getElem?_eq_some_iff.1 hj).1;have:=h.slot MF (by decide) hjl 0 (.string F[j]) rfl;rw[(List.getElem?_eq_some_iff.1 hj).2]at this;simpa using this) hg (by omega) h1 (Nat.le_trans hs (by decide))
 refine hcl.mono ?_;rintro e w' ⟨rfl,hb⟩;exact⟨rfl,hb⟩
theorem wY (v:Value) (l:List Dm) (w:World) (h:Rd 3 aQ w v l) (hl:∀d∈l,aI d=true) (h64:l.length<=64) (ht:Tab w):Calls prog 186 #[v] w (Ret (.string (GM l)) w):=by
 obtain⟨A,c,rfl,hc,hm⟩:=h.form;have own0:=iK w (E:=9) (size:=1) (enc:=Ib) w.heap.size rfl w.heap.size (le_refl _);have HT:=Pm ht;have HOK:=Pm hl;clear ht hl;go_enter Tryz.func186,Tryz.ntmps186
 go_wp2;go_loopw [3,5,9] (fun s3 s5 s9 wr=>∃(k:Nat) (D:Option Addr) (d:Nat) (z:Value),s5=z/\k<=l.length/\s9= .int .i64 k/\s3= .slice D k d/\aD 9 1 Ib w.heap.size wr (.slice D k d) ((l.take k).map pE)/\Below w.heap.size w wr) (fun _ _ i _=>l.length-(intOf i).toNat)
 case atStart=>exact⟨0,_,_,_,rfl,zero_le _,rfl,rfl,own0,(Below.refl _ _).al _⟩
 case round=>
  obtain⟨k,D,d,z,rfl,hk,rfl,rfl,hown,hbel⟩:=hrel;clear own0;by_cases hlt:k<l.length
  . obtain⟨b,off,rfl,hb,k0,k1,k2⟩:=(h.Pk hbel).jZ hlt;have hki:(k:Int)<(l.length:Int):=(by omega);have hok:=HOK.out l[k] (getElem_mem hlt);have hts:=F5 hlt;obtain⟨x,hx⟩:=Pj (l[k]);rw[<-hx]at k0 k1 k2 hok hts;obtain⟨x,y,s⟩:=x;simp only at k0 k1 k2;have Hts:=Pm hts;have Hok:=Pm hok;have HtL:=Pm (IU (l:=l) (k:=k) hk);have H8:Hid ((((l.take k).map pE).length+1)*16<=140737488355328):=Pm (by rw[HtL.out];omega);have HM:Hid (((l.take k).map pE).length+1<=maxLen):=Pm (by rw[HtL.out];unfold maxLen;omega);clear hx hts hok;have B1:=hbel.al (.cells #[.int .i64 x,.int .i64 y,.bool s] 60);have b1:=Blk.aW wr 60 #[.int .i64 x,.int .i64 y,.bool s];have own1:=hown.alloc (.cells #[.int .i64 x,.int .i64 y,.bool s] 60);go_wp2_with fail
    refine(yL x y s _ Hok.out).mono ?_;rintro e w2 ⟨rfl,hb2⟩;have B2:=B1.tr hb2;have b2:=b1.bl hb2;have own2:=own1.below hb2;obtain⟨q_0,q_1,q_2⟩:=b2.n3;go_wp2_with fail
    refine(EM x y s _ Hok.out (HT.out.below B2)).mono ?_;rintro e w3 ⟨rfl,hb3⟩;have B3:=B2.tr hb3;have own3:=own2.below hb3;obtain⟨S,hS⟩:=Pj (pE (x,y,s));rw[<-hS];have HS:=Pm hS;clear hS;go_wp2_with (at_builtin;go_must (refine aH (enc:=Ib) Ot MF Oq B3 own3 S H8.out HM.out rfl _ _ rfl rfl rfl ?_);intro v4 w4 own4 hb4 hg4 hd4;obtain⟨A4,c4,rfl,hc4,hm4⟩:=own4.form)
    have own5:aD 9 1 Ib w.heap.size w4 (.slice A4 (k+1) c4) ((l.take (k+1)).map pE):=by
     have e:((l.take k).map pE++[S]).length=k+1:=by rw[length_append,HtL.out];rfl
     rw[<-Hts.out,<-HS.out,<-e];exact own4
    go_roundw
    case rel=>exact⟨k+1,A4,c4,_,rfl,by omega,by go_num,by simp[HtL.out],own5,hb4⟩
    case measure=>simp[intOf];omega
  . obtain rfl : k = l.length := by omega
    rcases Nat.eq_zero_or_pos l.length with h0|hp
    . have hl0:l=[]:=List.length_eq_zero_iff.1 h0;have hT0:Hid (GM l=(⟨#[]⟩:ByteArray)):=Pm (by rw[hl0];rfl);have H0:=Pm h0;clear hl0;rw[h0];clear h0;go_wp2_with fail
      refine(Tryz.strings_Join_none D d (⟨#[32]⟩:ByteArray) _).mono ?_;rintro e w5 ⟨rfl,rfl⟩;go_wp2;go_ret;exact⟨by rw[hT0.out];rfl,hbel⟩
    . skip;rw[List.take_length]at hown;have e2:(l.map pE).length=l.length:=List.length_map ..;obtain⟨g,rfl,hB,hgl⟩:=hown.split (k:=0) (by rw[e2];omega);have hown':aD 9 1 Ib w.heap.size wr (.slice (some ⟨g,0,none⟩) (l.map pE).length d) (l.map pE):=by rw[e2];exact hown
      have hcl:=KN hown' hgl (by rw[e2];omega) (Et HOK.out h64);rw[e2,Es]at hcl;clear hown';go_wp2_with fail
      refine hcl.mono ?_;rintro e w5 ⟨rfl,hb5⟩;go_wp2;go_ret;exact⟨rfl,hbel.tr hb5⟩
end Go.Proofs.YtljfoohaapckeaaGreatDoor
namespace Go.Proofs.YtljfoohaapckeaaGreatDoor
open Go.ChangeShapes Go.WideShapes Go.ChangeAt Go.RowKit Go.WideMaps Go.Maps
set_option linter.unusedVariables false
set_option linter.unusedSimpArgs false
set_option maxHeartbeats 4000000
set_option maxRecDepth 100000
theorem J2:Row prog 145 24 (.slice none 0 0) 1 24:=⟨Tryz.underlying145,by kernel_rfl,rfl,by decide⟩
theorem Pg:Keyed prog 9:=string_keyed underlying9
theorem NI (w:World):(zeroValue 3).run prog w= .ok (.int .i64 0) w:=by kernel_rfl
theorem NJ {T:List (List Dm)} (hT:nN T) (hok:∀t∈T,∀d∈t,aI d=true) {j:Nat} (hj:j<T.length) {c:Cl} (hc:c∈dX (til T j)) (z:DataW Unit):(GU T T.length).atKey (Fj (aS (til T j) c)) z= .lit (.int .i64 (sU T j c)):=by
 have hm:=hT.cl _ (getElem_mem hj) c (by rw[<-iO hj];exact lG.1 hc);rw[iO hj];obtain⟨h1,h2⟩:=mR hm.1;have h3:=JY hT.nd hok (i:=ix T (aS T[j] c)) z T.length (le_refl _) h1;rw[iO h1,h2]at h3;unfold sU;rw[iO hj];exact h3
theorem J3 {l:List Dm} (hl:∀d∈l,aI d=true) (h64:l.length<=64):(GM l).size<=maxLen:=by
 have h1:=Et hl h64;rw[<-Es];have e:∀x:Bs,(toB x).size=x.length:=fun x=>rfl
 rw[e];unfold maxLen;omega
theorem IV {w w':World} (hb:Below w.heap.size w w'):w.grownBy w' none:=⟨hb.os,hb.tape,hb.output,hb.size,fun k hk _=>hb.block k hk⟩
theorem KO {B:Nat} (v:Value) (T:List (List Dm)) (w:World) (h:dN 27 60 3 aU B w v T) (hT:nN T) (hok:∀t∈T,(∀d∈t,aI d=true)/\t.length<=64) (ht:Tab w):
 Calls prog 134 #[v] w (fun e w'=>∃A c,e= .returned (.slice A T.length c)/\dN 24 3 1 bQ w.heap.size w' (.slice A T.length c) (nY T T.length)/\Below w.heap.size w w'):=by
 obtain⟨A,c,rfl,hc,hm⟩:=h.form;have hsm:=hT.sm;have hmm:= @run_makeMap prog;have HT:=Pm ht;have HF:=Pm hT;have HK:=Pm hok;clear ht hT hok hc hm;obtain⟨gM,hgM⟩:=Pj w.heap.size;have hM0:=World.ownsMap_made (H:=Unit) w prog 9 (plainElem (H:=Unit) prog 3);have HGM:=Pm hgM;rw[<-hgM]at hM0;go_enter Tryz.func134,Tryz.ntmps134
 rw[<-hgM];clear hgM;go_wp2;go_loopw [4,5,17] (fun s4 s5 s17 wr=>∃(k:Nat) (z4 z5:Value),s4=z4/\s5=z5/\k<=T.length/\s17= .int .i64 k/\wr.ownsMap prog 9 (plainElem (H:=Unit) prog 3) gM k (GU T k)/\Below w.heap.size w wr) (fun _ _ i _=>T.length-(intOf i).toNat)
 case atStart=>exact⟨0,_,_,rfl,rfl,zero_le _,rfl,hM0,(Below.refl _ _).al _⟩
 case round=>
  obtain⟨k,z4,z5,rfl,rfl,hk,rfl,hown,hbel⟩:=hrel;clear hM0;by_cases hlt:k<T.length
  . obtain⟨g,D,d,rfl,hg1,hg2,c1,tk⟩:=(h.below hbel).pick hlt;have hki:(k:Int)<(T.length:Int):=(by omega);obtain⟨l,hl⟩:=Pj (T[k]);have hlo:(∀d∈l,aI d=true)/\l.length<=64:=by rw[hl];exact HK.out _ (getElem_mem hlt)
    have hnx:(GU T k).put (Fj l) (.lit (.int .i64 (k:Int)))=GU T (k+1):=(by rw[yV,iO hlt,hl]);rw[<-hl]at c1 tk;have HL:=Pm hl;have HLO:=Pm hlo;have HNX:=Pm hnx;have hkey:keyOf prog 9 (.string (GM l))=some (Fj l):=keyOf_string_mk underlying9 (J3 hlo.1 hlo.2);have HKey:=Pm hkey;clear hl hlo hnx hkey;go_wp2_with fail
    refine(wY _ l _ (tk.rd aC (by decide)) HLO.out.1 HLO.out.2 (HT.out.below hbel)).mono ?_;rintro e w1 ⟨rfl,hb1⟩;have B1:=hbel.tr hb1;have own1:=hown.kept (IV hb1) (by simp);have hmx:k<maxLen:=by unfold maxLen;omega
    go_wp2_with (at_mapUpdate;go_must (refine wpList_mapUpdate_own _ rfl _ _ _ 181 rfl 9 3 Pg Tryz.underlying181 _ w.heap.size k _ rfl (by rw[<-HGM.out];exact own1) hmx _ _ _ rfl rfl HKey.out _ [] (plainElem_int Tryz.underlying3 (WalkArith.wf_i64 (by omega))) ?_);intro w2 own2 hg2)
    rw[HNX.out,<-HGM.out]at own2;have B2:=B1.grown hg2 B1.size (fun j hj=>by injection hj with hj;subst hj;exact le_refl _);go_roundw
    case rel=>exact⟨k+1,_,_,rfl,rfl,by omega,by go_num,own2,B2⟩
    case measure=>simp[intOf];omega
  . obtain rfl : k = T.length := by omega
    have hgM:gM+1<=wr.heap.size:=by have:=hown.lt;omega
    have oo:=iK wr (E:=24) (size:=1) (enc:=eV) wr.heap.size rfl (gM+1) hgM;have oLL:dN 24 3 1 bQ (gM+1) (wr.alloc (.cells #[] 24)) (.slice (some ⟨wr.heap.size,0,none⟩) 0 0) (nY T 0):=⟨[],oo,rfl,fun k u x hu=>by simp at hu⟩;have hown2:=hown.alloc (.cells #[] 24);have B2:=hbel.al (.cells #[] 24);clear oo;go_wp2;go_loopw [6,8,9,11,12,13,30] (fun s6 s8 s9 s11 s12 s13 s30 wr=>∃(k:Nat) (D:Option Addr) (d:Nat) (z8 z9 z11 z12 z13:Value),s8=z8/\s9=z9/\s11=z11/\s12=z12/\s13=z13/\k<=T.length/\s30= .int .i64 k/\s6= .slice D k d/\dN 24 3 1 bQ (gM+1) wr (.slice D k d) (nY T k)/\wr.ownsMap prog 9 (plainElem (H:=Unit) prog 3) gM T.length (GU T T.length)/\Below w.heap.size w wr) (fun _ _ _ _ _ _ i _=>T.length-(intOf i).toNat)
    case atStart=>exact⟨0,_,_,_,_,_,_,_,rfl,rfl,rfl,rfl,rfl,zero_le _,rfl,rfl,oLL,hown2,B2⟩
    case round=>
     clear oLL hown2 B2 hgM hown hbel;obtain⟨k,D,d,z8,z9,z11,z12,z13,rfl,rfl,rfl,rfl,rfl,hk,rfl,rfl,oLL,hown,hbel⟩:=hrel;by_cases hlt:k<T.length
     . obtain⟨g,D1,d1,rfl,hg1,hg2,c1,tk⟩:=(h.below hbel).pick hlt;have hki:(k:Int)<(T.length:Int):=(by omega);obtain⟨l,hl⟩:=Pj (T[k]);have hlo:(∀d∈l,aI d=true)/\l.length<=64:=by rw[hl];exact HK.out _ (getElem_mem hlt)
       have htil:til T k=l:=(by rw[iO hlt,hl]);rw[<-hl]at c1 tk;have HLO:=Pm hlo;have HTL:=Pm htil;have HLt:=Pm hlt;have hsl:Small l.length:=by have:=hlo.2;unfold Small;omega
       clear hl hlo htil;have hgM:gM+1<=wr.heap.size:=by have:=hown.lt;omega
       have oi:=iK wr (E:=3) (size:=1) (enc:=bQ) wr.heap.size rfl (gM+1) hgM;have tk2:=tk.alloc (.cells #[] 3);go_wp2_with fail
       refine(BN _ l _ (tk2.rd aC (by decide))).mono ?_;rintro e w1 ⟨A6,c6,rfl,oF,hb1⟩;have oi1:=oi.below hb1;have tk1:=tk2.below hb1;have oLL1:=(oLL.alloc (.cells #[] 3)).below hb1;have own1:=(hown.alloc (.cells #[] 3)).kept (IV hb1) (by simp);have B1:=(hbel.al (.cells #[] 3)).tr hb1;have hfl:=uX l;obtain⟨F,hF⟩:=Pj (dX l);rw[<-hF]at oF hfl⊢;have HF2:=Pm hF;clear hF oi tk2 oLL hown hbel hb1 tk c1;have hn0:Hid (mV T k 0=[]):=Pm rfl;go_wp2;go_loopw [9,11,12,13,38] (fun s9 s11 s12 s13 s38 wr=>∃(t:Nat) (D:Option Addr) (d:Nat) (z11 z12 z13:Value),s11=z11/\s12=z12/\s13=z13/\t<=F.length/\s38= .int .i64 t/\s9= .slice D t d/\aD 3 1 bQ (gM+1) wr (.slice D t d) (mV T k t)/\Below w1.heap.size w1 wr) (fun _ _ _ _ i _=>F.length-(intOf i).toNat)
       case atStart=>exact⟨0,_,_,_,_,_,rfl,rfl,rfl,zero_le _,rfl,rfl,oi1,Below.refl _ _⟩
       case round=>
        clear oi1;obtain⟨t,D2,d2,z11,z12,z13,rfl,rfl,rfl,ht,rfl,rfl,hown,hbel⟩:=hrel;by_cases hlt2:t<F.length
        . have oF2:=oF.below hbel;obtain⟨b,off,rfl,hb,q0,q1⟩:=(oF2.rd dU (by decide)).eY hlt2;obtain⟨xy,hxy⟩:=Pj (F[t]);have hmem:xy∈dX l:=by rw[hxy,<-HF2.out];exact getElem_mem hlt2
          rw[<-hxy]at q0 q1;obtain⟨x,y⟩:=xy;simp only at q0 q1;have hkd:¬kindOf l (x,y)=0:=lG.1 hmem;have hnT:=(HF.out.cl _ (getElem_mem HLt.out) (x,y) (by rw[<-iO HLt.out,HTL.out];exact hkd)).1;rw[<-iO HLt.out,HTL.out]at hnT;have hno:=HK.out _ hnT;have hlk:=fun z=>NJ HF.out (fun t ht=>(HK.out t ht).1) HLt.out (c:=(x,y)) (by rw[HTL.out];exact hmem) z
          rw[HTL.out]at hlk;have hkey:keyOf prog 9 (.string (GM (aS l (x,y))))=some (Fj (aS l (x,y))):=keyOf_string_mk underlying9 (J3 hno.1 hno.2)
          have hnx:mV T k (t+1)=sN (sU T k (x,y)) (mV T k t):=by
           have hlt3:t<(dX (til T k)).length:=by rw[HTL.out,<-HF2.out];exact hlt2
           rw[Ae hlt3];congr 1
           congr 1
           rw[hxy];congr 1
           . rw[HF2.out,HTL.out]
          have hnl:(mV T k t).length=t:=BK t (by rw[HTL.out,<-HF2.out];omega);have HNX:=Pm hnx;have HNL:=Pm hnl;have HKey:=Pm hkey;have HLK:=Pm hlk;have HNO:=Pm hno;have HKD:=Pm hkd;clear hnx hnl hkey hlk hno hkd hmem hxy hnT oF2;have hti:(t:Int)<(F.length:Int):=(by omega);have B2:=hbel.al (.cells #[.int .i64 x,.int .i64 y] 70);have b2:=Blk.aW wr 70 #[.int .i64 x,.int .i64 y];have own2:=hown.alloc (.cells #[.int .i64 x,.int .i64 y] 70);have tk2:=tk1.below B2;go_wp2_with fail
          refine(uA _ l x y _ (tk2.rd aC (by decide)) hsl HKD.out).mono ?_;rintro e w2 ⟨A7,c7,rfl,oN,hb2⟩;have B3:=B2.tr hb2;have own3:=own2.below hb2;have oM3:=own1.kept (IV B3) (by simp);obtain⟨N,hN⟩:=Pj (aS l (x,y));rw[<-hN]at oN HKey HLK HNO⊢;have HN2:=Pm hN;clear hN;go_wp2_with fail
          refine(wY _ N _ (oN.rd aC (by decide)) HNO.out.1 HNO.out.2 (HT.out.below (B1.tr B3))).mono ?_;rintro e w3 ⟨rfl,hb3⟩;have B4:=B3.tr hb3;have own4:=own3.below hb3;have oM4:=own1.kept (IV B4) (by simp);go_wp2_with (at_lookup;go_must (refine wpList_lookup_own_int _ rfl _ _ 181 rfl 9 3 .i64 Pg Tryz.underlying181 Tryz.underlying3 (NI _) w.heap.size T.length _ rfl (by rw[<-HGM.out];exact oM4) _ _ rfl HKey.out ?_);intro cc hat hwc)
          have hcc:cc=sU T k (x,y):=by
           rw[HLK.out]at hat;injection hat with hat;injection hat with _ hat;exact hat.symm
          subst hcc;refine(LU _ (mV T k t) _ _ (own4.rd aJ (by decide)) (by rw[HNL.out];omega)).mono ?_;rintro e w5 ⟨A8,c8,rfl,oP,hb5⟩;have B5:=B4.tr hb5;have hpl:(sN (sU T k (x,y)) (mV T k t)).length=t+1:=(by rw[CE,HNL.out]);rw[hpl]at oP⊢;rw[<-HNX.out]at oP;have hgs:gM+1<=w3.heap.size:=by have:=oM4.lt;omega
          go_wp2;go_roundw
          case rel=>exact⟨t+1,A8,c8,_,_,_,rfl,rfl,rfl,by omega,by go_num,rfl,oP.mono hgs,B5⟩
          case measure=>simp[intOf];omega
        . obtain rfl : t = F.length := by omega
          have hnl:mV T k F.length=FE T k:=by unfold FE;rw[HTL.out,<-HF2.out]
          rw[hnl]at hown;obtain⟨us,h1,h2,h3⟩:=oLL1.below hbel;have huk:us.length=k:=by rw[h2];exact pF T k
          have oM2:=own1.kept (IV hbel) (by simp);have B2:=B1.tr hbel;have H8:Hid ((us.length+1)*24<=140737488355328):=Pm (by rw[huk];omega);have HM:Hid (us.length+1<=maxLen):=Pm (by rw[huk];unfold maxLen;omega);have hsz:gM+1<=wr.heap.size:=by have:=oM2.lt;omega
          have hrow:∀j,(Value.slice D k d).ownBlock=some j->gM+1<=j:=fun j hj=>(World.ownsRow.lt h1 j hj).1
          have HUK:=Pm huk;have HNL:=Pm (FX T k);have HRow:=Pm hrow;clear huk hnl hrow oLL1 own1 B1;go_wp2_with (at_builtin;go_must (refine nE (enc:=eV) J2 zX wr hsz h1 (.slice D2 F.length d2) (by simp[eV,Value.oneCell']) rfl H8.out HM.out rfl _ _ rfl rfl rfl ?_);intro A5 c5 w5 o5 g5 hd5)
          have oN5:=dN.snoc (by decide) h1 h2 h3 hown o5 g5;rw[HNL.out,HUK.out]at oN5;have oM5:=oM2.kept g5 (fun e=>by have:=HRow.out gM e.symm;omega);have B5:=B2.grown g5 B2.size (fun j hj=>by have:=HRow.out j hj;rw[HGM.out]at this;omega);go_roundw
          case rel=>exact⟨k+1,A5,c5,_,_,_,_,_,rfl,rfl,rfl,rfl,rfl,by omega,by go_num,by rw[pF],oN5,oM5,B5⟩
          case measure=>simp[intOf];omega
     . obtain rfl : k = T.length := by omega
       go_wp2;go_ret;exact⟨_,_,rfl,oLL.mono (by omega),by rw[HGM.out];exact hbel⟩
end Go.Proofs.YtljfoohaapckeaaGreatDoor
