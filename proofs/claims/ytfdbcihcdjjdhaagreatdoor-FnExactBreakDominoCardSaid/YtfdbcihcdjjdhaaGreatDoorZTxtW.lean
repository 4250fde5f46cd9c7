/- Dominoes and tilings as text: the walks. Conditions: the library's table of powers, as its text lays it. -/
import Derived.Test.YtfdbcihcdjjdhaaGreatDoorZTxtPl
import Derived.Test.YtfdbcihcdjjdhaaGreatDoorZFmtW
import Derived.Test.YtfdbcihcdjjdhaaGreatDoorZK6
namespace Go.Proofs.YtfdbcihcdjjdhaaGreatDoor
open Go.ChangeShapes Go.WideShapes Go.ChangeAt Go.RowKit
set_option linter.unusedVariables false
set_option linter.unusedSimpArgs false
theorem domT_r (x y:Int):numB x++(⟨#[44]⟩:ByteArray)++numB y++(⟨#[114]⟩:ByteArray)=domT (x,y,false):=by
 apply ByteArray.ext
 apply Array.toList_inj.1
 unfold domT
 rw[toB_data]
 simp[ByteArray.data_append,numB,domW]
theorem domT_d (x y:Int):numB x++(⟨#[44]⟩:ByteArray)++numB y++(⟨#[100]⟩:ByteArray)=domT (x,y,true):=by
 apply ByteArray.ext
 apply Array.toList_inj.1
 unfold domT
 rw[toB_data]
 simp[ByteArray.data_append,numB,domW]
theorem numB_one {x:Int} (h0:0≤x) (h1:x≤7):(numB x).size=1:=by
 unfold numB
 rw[Lib.decDigits_one (by omega)]
 rfl
theorem domTextI_any (x y:Int) (d:Bool) (w:World) (hd:domOk (x,y,d)=true) (ht:Tab w):Calls Tryz.prog 264 #[.agg #[.int .i64 x,.int .i64 y,.bool d]] w (Ret (.string (domT (x,y,d))) w):=by
 have hin:=dom_in hd
 have Hx0:0≤x:=hin.1.1
 have Hx1:x≤9223372036854775807:=by have:=hin.1.2;simp only at this;omega
 have Hy0:0≤y:=hin.2.1
 have Hy1:y≤9223372036854775807:=by have:=hin.2.2;simp only at this;omega
 have sX:=numB_one Hx0 hin.1.2
 have sY:=numB_one Hy0 hin.2.2
 have HT:=Lib.hid ht;clear ht hin
 have B0:=(Below.refl w.heap.size w).al (.cells #[.int .i64 x,.int .i64 y,.bool d] 90)
 have bP:=Blk.new_ w 90 #[.int .i64 x,.int .i64 y,.bool d]
 go_enter Tryz.func264,Tryz.ntmps264
 go_wp2_with fail
 refine(domOkI_of x y d _ hd).mono ?_
 rintro e w1 ⟨rfl,hb1⟩
 have B1:=B0.tr hb1
 have bP1:=bP.bl hb1
 have hg:=bP1.lt
 obtain⟨y_0,y_1,y_2⟩:=bP1.n3
 have Bw:Below w1.heap.size w1 w1:=Below.refl _ _
 have hz:w1.heap.size≤w1.heap.size:=Nat.le_refl _
 cases d
 · have HE:=Lib.hid (domT_r x y)
   go_wp2_with fail
   have Bw:Below w1.heap.size w1 w1.drew:=Bw.drew
   have hz:w1.heap.size≤w1.drew.heap.size:=Bw.size
   refine rB (fun w'=>w'.cell? ⟨w.heap.size,0,none⟩=some (.int .i64 x)∧w'.cell? ⟨w.heap.size,1,none⟩=some (.int .i64 y)) fun hHeld=>(tW 0)<|(tW 1)<|(tW 4)<|(tW 5)<|(tR [2])<|tL fun K hK=>?_
   go_simp
   (go_at_call 71;go_must (refine(fmtI_any _ _ (by first|exact Hx0|exact Hy0) (by first|exact Hx1|exact Hy1) (HT.out.below (B1.tr Bw))).mono ?_;rintro e wX ⟨rfl,hbX⟩;obtain⟨hcX,hfX,hzX⟩:=bkn hbX w1.heap.size hz;have hz:=hzX;have Bw:=Bw.tr hbX);(try go_wp2_with fail))
   refine tK hK fun hHeld=>?_
   clear hK K
   refine(tW 3)<|(tR [6])<|tL fun K hK=>?_
   go_simp
   (go_at_call 71;go_must (refine(fmtI_any _ _ (by first|exact Hx0|exact Hy0) (by first|exact Hx1|exact Hy1) (HT.out.below (B1.tr Bw))).mono ?_;rintro e wX ⟨rfl,hbX⟩;obtain⟨hcX,hfX,hzX⟩:=bkn hbX w1.heap.size hz;have hz:=hzX;have Bw:=Bw.tr hbX);(try go_wp2_with fail))
   refine tK hK fun hHeld=>?_
   clear hK K
   refine(tW 7)<|(tW 8)<|(tW 9)<|tD ?_
   all_goals
     go_wp2
     go_ret
     exact⟨congrArg _ (congrArg _ HE.out),B1.tr Bw⟩
 · have HE:=Lib.hid (domT_d x y)
   go_wp2_with fail
   have Bw:Below w1.heap.size w1 w1.drew:=Bw.drew
   have hz:w1.heap.size≤w1.drew.heap.size:=Bw.size
   refine rB (fun w'=>w'.cell? ⟨w.heap.size,0,none⟩=some (.int .i64 x)∧w'.cell? ⟨w.heap.size,1,none⟩=some (.int .i64 y)) fun hHeld=>(tW 0)<|(tW 1)<|(tW 4)<|(tW 5)<|(tR [2])<|tL fun K hK=>?_
   go_simp
   (go_at_call 71;go_must (refine(fmtI_any _ _ (by first|exact Hx0|exact Hy0) (by first|exact Hx1|exact Hy1) (HT.out.below (B1.tr Bw))).mono ?_;rintro e wX ⟨rfl,hbX⟩;obtain⟨hcX,hfX,hzX⟩:=bkn hbX w1.heap.size hz;have hz:=hzX;have Bw:=Bw.tr hbX);(try go_wp2_with fail))
   refine tK hK fun hHeld=>?_
   clear hK K
   refine(tW 3)<|(tR [6])<|tL fun K hK=>?_
   go_simp
   (go_at_call 71;go_must (refine(fmtI_any _ _ (by first|exact Hx0|exact Hy0) (by first|exact Hx1|exact Hy1) (HT.out.below (B1.tr Bw))).mono ?_;rintro e wX ⟨rfl,hbX⟩;obtain⟨hcX,hfX,hzX⟩:=bkn hbX w1.heap.size hz;have hz:=hzX;have Bw:=Bw.tr hbX);(try go_wp2_with fail))
   refine tK hK fun hHeld=>?_
   clear hK K
   refine(tW 7)<|(tW 8)<|(tW 9)<|tD ?_
   all_goals
     go_wp2
     go_ret
     exact⟨congrArg _ (congrArg _ HE.out),B1.tr Bw⟩
theorem tilT_join (l : List Dm) : toB (Lib.join ((l.map domT).map fun x => x.data.toList) [32]) = tilT l := by
 unfold tilT
 congr 2
 rw[List.map_map]
 exact List.map_congr_left fun d _=>rfl
theorem tilT_size {l : List Dm} (hl : ∀ d ∈ l, domOk d = true) (h64 : l.length ≤ 64) : (Lib.join ((l.map domT).map fun x => x.data.toList) [32]).length ≤ 1000 := by
 have key : ∀ m : List Dm, (∀ d ∈ m, domOk d = true) → (Lib.joinTail [32] ((m.map domT).map fun x => x.data.toList)).length = 5 * m.length := by
  intro m
  induction m with
  |nil=>intro _;simp[Lib.joinTail]
  |cons d m ih=>
   intro hm
   have e:∀(x:Bs) (zs:List Bs),Lib.joinTail [32] (x::zs)=32::(x++Lib.joinTail [32] zs):=fun x zs=>by simp[Lib.joinTail]
   rw[List.map_cons,List.map_cons,e,List.length_cons,List.length_append,ih (fun d hd=>hm d (List.mem_cons_of_mem _ hd)),List.length_cons]
   have:(domT d).data.toList.length=4:=by
    have:=domT_size (hm d List.mem_cons_self)
    have e2:(domT d).size=(domT d).data.toList.length:=by rw[Array.length_toList];rfl
    omega
   omega
 cases l with
 |nil=>exact Nat.zero_le _
 |cons d l=>
  rw[List.map_cons,List.map_cons,Lib.join_cons,List.length_append,key l (fun d hd=>hl d (List.mem_cons_of_mem _ hd))]
  have:(domT d).data.toList.length=4:=by
   have:=domT_size (hl d List.mem_cons_self)
   have e2:(domT d).size=(domT d).data.toList.length:=by rw[Array.length_toList];rfl
   omega
  rw[List.length_cons]at h64
  omega
theorem textTo_succ {l:List Dm} {k:Nat} (h:k<l.length):(l.take k).map domT++[domT l[k]]=(l.take (k+1)).map domT:=by
 rw[List.take_succ_eq_append_getElem h,List.map_append];rfl
theorem textTo_len {l:List Dm} {k:Nat} (h:k≤l.length):((l.take k).map domT).length=k:=by rw[List.length_map,List.length_take];omega
theorem join_strs {B g c : Nat} {w : World} {F : List ByteArray} (h : OwnL 9 1 eStr B w (.slice (some ⟨g, 0, none⟩) F.length c) F) (hg : g < w.heap.size) (hF : F.length ≤ 100) (hs : (Lib.join (F.map fun x => x.data.toList) [32]).length ≤ 1000) :
 Calls Tryz.prog 145 #[.slice (some ⟨g,0,none⟩) F.length c,.string ⟨#[32]⟩] w (Ret (.string (toB (Lib.join (F.map fun x=>x.data.toList) [32]))) w):=by
 obtain⟨A',c',e,h1,h2⟩:=h.form
 injection e with e1 e2 e3
 subst e3
 have hcl := Tryz.strings_Join g 0 c F (⟨#[32]⟩ : ByteArray) w (fun j x hj => by
  have hjl:=(List.getElem?_eq_some_iff.1 hj).1
  have:=h.slot lenStr (by decide) hjl 0 (.string F[j]) rfl
  rw[(List.getElem?_eq_some_iff.1 hj).2]at this
  simpa using this) hg (by omega) h1 (Nat.le_trans hs (by decide))
 refine hcl.mono ?_
 rintro e w' ⟨rfl,hb⟩
 exact⟨rfl,hb⟩
set_option maxHeartbeats 4000000 in
set_option maxRecDepth 100000 in
theorem tilTextI_any (v:Value) (l:List Dm) (w:World) (h:Rd 3 RDom w v l) (hl:∀d∈l,domOk d=true) (h64:l.length≤64) (ht:Tab w):Calls Tryz.prog 236 #[v] w (Ret (.string (tilT l)) w):=by
 obtain⟨A,c,rfl,hc,hm⟩:=h.form
 have own0:=own_mt w (E:=9) (size:=1) (enc:=eStr) w.heap.size rfl w.heap.size (Nat.le_refl _)
 have HT:=Lib.hid ht;have HOK:=Lib.hid hl;clear ht hl
 go_enter Tryz.func236,Tryz.ntmps236
 go_wp2
 go_loopw [3,5,9] (fun s3 s5 s9 wr=>∃(k:Nat) (D:Option Addr) (d:Nat) (z:Value),s5=z∧k≤l.length∧s9= .int .i64 k∧s3= .slice D k d∧OwnL 9 1 eStr w.heap.size wr (.slice D k d) ((l.take k).map domT)∧Below w.heap.size w wr) (fun _ _ i _=>l.length-(intOf i).toNat)
 case atStart=>exact⟨0,_,_,_,rfl,Nat.zero_le _,rfl,rfl,own0,(Below.refl _ _).al _⟩
 case round=>
  obtain⟨k,D,d,z,rfl,hk,rfl,rfl,hown,hbel⟩:=hrel
  clear own0
  by_cases hlt:k<l.length
  · obtain⟨b,off,rfl,hb,k0,k1,k2⟩:=(h.below RE.stays hbel).atDom hlt
    have hki:(k:Int)<(l.length:Int):=by omega
    have hok:=HOK.out l[k] (List.getElem_mem hlt)
    have hts:=textTo_succ hlt
    obtain⟨x,hx⟩:∃x,x=l[k]:=⟨_,rfl⟩
    rw[←hx]at k0 k1 k2 hok hts
    obtain⟨x,y,s⟩:=x
    simp only at k0 k1 k2
    have Hts:=Lib.hid hts;have Hok:=Lib.hid hok;have HtL:=Lib.hid (textTo_len (l:=l) (k:=k) hk)
    have H8:Hid ((((l.take k).map domT).length+1)*16≤140737488355328):=Lib.hid (by rw[HtL.out];omega)
    have HM:Hid (((l.take k).map domT).length+1≤maxLen):=Lib.hid (by rw[HtL.out];unfold maxLen;omega)
    clear hx hts hok
    have B1:=hbel.al (.cells #[.int .i64 x,.int .i64 y,.bool s] 90)
    have b1:=Blk.new_ wr 90 #[.int .i64 x,.int .i64 y,.bool s]
    have own1:=hown.alloc (.cells #[.int .i64 x,.int .i64 y,.bool s] 90)
    go_wp2_with fail
    refine(domOkI_of x y s _ Hok.out).mono ?_
    rintro e w2 ⟨rfl,hb2⟩
    have B2:=B1.tr hb2
    have b2:=b1.bl hb2
    have own2:=own1.below hb2
    obtain⟨q_0,q_1,q_2⟩:=b2.n3
    go_wp2_with fail
    refine(domTextI_any x y s _ Hok.out (HT.out.below B2)).mono ?_
    rintro e w3 ⟨rfl,hb3⟩
    have B3:=B2.tr hb3
    have own3:=own2.below hb3
    obtain⟨S,hS⟩:∃S,S=domT (x,y,s):=⟨_,rfl⟩
    rw[←hS]
    have HS:=Lib.hid hS;clear hS
    go_wp2_with (at_builtin;go_must (refine wpList_app1 (enc:=eStr) rowStr lenStr oneStr B3 own3 S H8.out HM.out rfl _ _ rfl rfl rfl ?_);intro v4 w4 own4 hb4 hg4 hd4;obtain⟨A4,c4,rfl,hc4,hm4⟩:=own4.form)
    have own5:OwnL 9 1 eStr w.heap.size w4 (.slice A4 (k+1) c4) ((l.take (k+1)).map domT):=by
     have e:((l.take k).map domT++[S]).length=k+1:=by rw[List.length_append,HtL.out];rfl
     rw[←Hts.out,←HS.out,←e];exact own4
    go_roundw
    case rel=>exact⟨k+1,A4,c4,_,rfl,by omega,by go_num,by simp[HtL.out],own5,hb4⟩
    case measure=>simp[intOf];omega
  · obtain rfl : k = l.length := by omega
    rcases Nat.eq_zero_or_pos l.length with h0|hp
    · have hl0:l=[]:=List.length_eq_zero_iff.1 h0
      have hT0:Hid (tilT l=(⟨#[]⟩:ByteArray)):=Lib.hid (by rw[hl0];rfl)
      have H0:=Lib.hid h0
      clear hl0
      rw[h0]
      clear h0
      go_wp2_with fail
      refine(Tryz.strings_Join_none D d (⟨#[32]⟩:ByteArray) _).mono ?_
      rintro e w5 ⟨rfl,rfl⟩
      go_wp2
      go_ret
      exact⟨by rw[hT0.out];rfl,hbel⟩
    · skip
      rw[List.take_length]at hown
      have e2:(l.map domT).length=l.length:=List.length_map ..
      obtain⟨g,rfl,hB,hgl⟩:=hown.split (k:=0) (by rw[e2];omega)
      have hown':OwnL 9 1 eStr w.heap.size wr (.slice (some ⟨g,0,none⟩) (l.map domT).length d) (l.map domT):=by rw[e2];exact hown
      have hcl:=join_strs hown' hgl (by rw[e2];omega) (tilT_size HOK.out h64)
      rw[e2,tilT_join]at hcl
      clear hown'
      go_wp2_with fail
      refine hcl.mono ?_
      rintro e w5 ⟨rfl,hb5⟩
      go_wp2
      go_ret
      exact⟨rfl,hbel.tr hb5⟩
end Go.Proofs.YtfdbcihcdjjdhaaGreatDoor
