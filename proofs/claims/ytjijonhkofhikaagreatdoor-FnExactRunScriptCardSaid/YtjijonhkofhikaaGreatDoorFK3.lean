import Derived.Test.YtjijonhkofhikaaGreatDoorFK2
import Derived.Deep.RegionHeld3
open _root_.List renaming replicate->Tm,getD_eq_getElem?_getD->Tn,getElem?_eq_none->Tp,getElem?_eq_getElem->Tq,length_set->Tt
open _root_.Nat renaming zero_le->Tu,le_refl->Tv
open _root_.Option renaming getD_some->Tw
open _root_.Go.IntKind renaming wrap_i64->Tx
open _root_.Go.IntWalk renaming i64_in->Ty
open _root_.Go.Proofs.Tryz (prog)
open _root_.Go.Proofs.Tryz renaming func222->Tz,ntmps222->TA,results222->TB
set_option linter.unusedVariables false
set_option maxHeartbeats 4000000
set_option maxRecDepth 100000
namespace Go.Proofs.YtjijonhkofhikaaGreatDoor
open Go.ChangeShapes Go.WideShapes Go.ChangeAt Go.RowKit
def qU (l:List Int) (b:Bool) (w:World) (e:Ending) (w':World):Prop:=∃A c,e= .returned (.tuple #[.agg #[.slice A l.length c],.bool b])/\aD 3 1 aW w.heap.size w' (.slice A l.length c) l/\Below w.heap.size w w'
def nQ (s i:Nat) (on:Bool):Nat:=if on then uY (jA s i) i else jA s i
def mP (rows:List Int) (c:Cl) (on:Bool):List Int×Bool:=if bW rows&&bH c then(rowsOf (nQ (setOf rows) (dJ c).toNat on) 8,true)else(rows,false)
theorem Blk.bl {w w':World} {g:Nat} {t:TypeId} {cs:Array Value} (h:Blk w g t cs) (hb:Below w.heap.size w w'):Blk w' g t cs:=h.below hb h.lt
theorem Blk.set1 {w:World} {g:Nat} {t:TypeId} {v:Value} (h:Blk w g t #[v]) (u:Value):Blk (w.setCell ⟨g,0,none⟩ u) g t #[u]:=h.Ij 0 u
theorem Blk.gI (w:World) (t:TypeId) (cs:Array Value) (g:Nat) (hg:g=w.heap.size):Blk (w.alloc (.cells cs t)) g t cs:=by subst hg;exact Blk.aX w t cs
def nR (r x:Nat) (on:Bool):Nat:=if on then r|||2^x else(r|||2^x)-2^x
theorem G6:∀r<256,∀x<8,∀j<8,(nR r x true).testBit j=(r.testBit j||decide (x=j))/\(nR r x false).testBit j=(r.testBit j&& !decide (x=j)):=by
 decide+kernel
theorem DC:∀r<256,∀x<8,nR r x true<256/\nR r x false<256:=by
 decide+kernel
def DD (rows:List Int):List Int:=rows++Tm (8-rows.length) 0
theorem wY {rows:List Int} (h:rows.length<=8):(DD rows).length=8:=by simp[DD];omega
theorem FY (rows:List Int) (i:Nat):(DD rows).getD i 0=rows.getD i 0:=by
 unfold DD;rw[Tn,Tn];by_cases h:i<rows.length
 . rw[List.getElem?_append_left h]
 . rw [List.getElem?_append_right (by omega), Tp (l := rows) (by omega), List.getElem?_replicate];split<;>rfl
theorem getD_in {rows:List Int} (h:dX rows) (i:Nat):0<=rows.getD i 0/\rows.getD i 0<=255:=by
 rw[Tn];by_cases hi:i<rows.length
 . rw[Tq hi,Tw];exact h.2 _ (List.getElem_mem hi)
 . rw[Tp (by omega)];decide
theorem BD {s i:Nat} (hs:s<U64) (hi:i<64) (on:Bool) (j:Nat):(nQ s i on).testBit j=if on then(s.testBit j||decide (i=j))else(s.testBit j&& !decide (i=j)):=by
 unfold nQ;cases on
 . simp only[Bool.false_eq_true,if_false];exact lK hs hi j
 . simp only[if_true];rw[sG,lK hs hi];cases s.testBit j<;>cases hd:decide (i=j)<;>rfl
theorem OZ {rows:List Int} (h:dX rows) {x y:Nat} (hx:x<8) (hy:y<8) (on:Bool):
 (DD rows).set y (nR (rows.getD y 0).toNat x on:Nat)=rowsOf (nQ (setOf rows) (8*y+x) on) 8:=by
 have hi:8*y+x<64:=(by omega);refine List.ext_getElem? fun k=> ?_
 by_cases hk:k<8
 . have hr:=getD_in h k
   have hrow:(rowsOf (nQ (setOf rows) (8*y+x) on) 8)[k]? =some ((((nQ (setOf rows) (8*y+x) on)>>>(8*k))%256:Nat):Int):=by
    have:=FW (nQ (setOf rows) (8*y+x) on) 8 k hk;rw[Tn,Tq (by rw[fV];exact hk),Tw]at this;rw[Tq (by rw[fV];exact hk),this]
   rw[hrow]
   have hval:∀v:Nat,v<256->(∀j,j<8->v.testBit j=(nQ (setOf rows) (8*y+x) on).testBit (8*k+j))->some (v:Int)=some ((((nQ (setOf rows) (8*y+x) on)>>>(8*k))%256:Nat):Int):=by
    intro v hv hb;have:v=((nQ (setOf rows) (8*y+x) on)>>>(8*k))%256:=QW hv (Nat.mod_lt _ (by decide)) fun j hj=>by rw[Mf _ _ _ hj];exact hb j hj
    rw[<-this]
   have a6:∀j,j<8->(setOf rows).testBit (8*k+j)=(rows.getD k 0).toNat.testBit j:=by
    intro j hj;rw[xE h,show(8*k+j)/8=k by omega,show(8*k+j)%8=j by omega]
   by_cases e:y=k
   . subst e;rw[List.getElem?_set_self (by rw[wY h.1];exact hk)];have hr2:(rows.getD y 0).toNat<256:=(by omega);have hl:=DC _ hr2 x hx
     have hl':nR (rows.getD y 0).toNat x on<256:=by
      cases on
      . exact hl.2
      . exact hl.1
     refine hval _ hl' fun j hj=> ?_
     rw[BD (dW h) hi,a6 j hj];have hb:=G6 _ hr2 x hx j hj;have hd:decide (8*y+x=8*y+j)=decide (x=j):=by rw[decide_eq_decide];omega
     rw[hd];cases on
     . simp only[Bool.false_eq_true,if_false];exact hb.2
     . simp only[if_true];exact hb.1
   . rw[List.getElem?_set_ne e];have hp:=FY rows k;rw[Tn,Tq (by rw[wY h.1];exact hk),Tw]at hp;rw[Tq (by rw[wY h.1];exact hk),hp];have a7:rows.getD k 0=(((rows.getD k 0).toNat:Nat):Int):=(by omega);rw[a7];refine hval _ (by omega) fun j hj=> ?_
     rw[BD (dW h) hi,a6 j hj];have hd:decide (8*y+x=8*k+j)=false:=by rw[decide_eq_false_iff_not];omega
     rw[hd];cases on<;>simp
 . rw[Tp (by rw[Tt,wY h.1];omega),Tp (by rw[fV];omega)]
theorem xG (a:Nat) (ha:a<18446744073709551616):(BitVec.ofInt 64 (a:Int)).toNat=a:=by
 rw[BitVec.ofInt_natCast,BitVec.toNat_ofNat];exact Nat.mod_eq_of_lt (by omega)
theorem DF (a b:Nat) (ha:a<4294967296) (hb:b<4294967296):bits .or .i64 (a:Int) (b:Int)=((a|||b:Nat):Int):=by
 have hx:a|||b<2^32:=Nat.or_lt_two_pow (by omega) (by omega);show IntKind.i64.wrap ((BitVec.ofInt 64 (a:Int)|||BitVec.ofInt 64 (b:Int)).toNat:Int)=_;rw[BitVec.toNat_or,xG a (by omega),xG b (by omega),Tx];omega
theorem Jt (a b:Nat) (ha:a<4294967296) (hb:b<4294967296):bits .and .i64 (a:Int) (b:Int)=((a&&&b:Nat):Int):=by
 have hx:a&&&b<2^32:=Nat.and_lt_two_pow _ (by omega);show IntKind.i64.wrap ((BitVec.ofInt 64 (a:Int)&&&BitVec.ofInt 64 (b:Int)).toNat:Int)=_;rw[BitVec.toNat_and,xG a (by omega),xG b (by omega),Tx];omega
theorem fB (v:Value) (rows:List Int) (w:World) (h:Rd 1 aZ w v rows):Calls prog 124 #[.agg #[v]] w (Ret (.bool (bW rows)) w):=by
 obtain⟨A,c,rfl,hc,hm⟩:=h.form;have h':=h.Tj ((Below.refl _ _).al (.cells #[.slice A rows.length c] 26))
 have e0:bW rows=(allIn 0 255 rows&&decide ((rows.length:Int)<=8)):=by
  unfold bW;rw[Bool.and_comm];congr 1;rw[decide_eq_decide];omega
 rw[e0];go_enter Tryz.func124,Tryz.ntmps124
 go_wp2;go_loop [3] (fun i=>∃k:Nat,k<=rows.length/\i= .int .i64 k/\Hid (allIn 0 255 (rows.drop k)=allIn 0 255 rows)) (fun i=>rows.length-(intOf i).toNat)
 case atStart=>exact⟨0,Tu _,rfl,Tk rfl⟩
 case round=>
  obtain⟨k,hk,rfl,Hg⟩:=hrel;by_cases hlt:k<rows.length
  . obtain⟨b,off,rfl,hb,h1⟩:=h'.uX hlt;go_wp2_with (go_at_call 65;(with_reducible refine(iY _ _ _ _).mono ?_);rintro e w' ⟨rfl,rfl⟩)
    all_goals first
      | (go_round
         case rel=>exact⟨k+1,by omega,by go_num,ES Hg hlt (by rename_i hx;simpa using hx)⟩
         case measure=>simp[intOf];omega)
      | (go_ret
         exact⟨lJ (by rw[ET Hg hlt (by rename_i hx;simpa using hx)];rfl),(Below.refl _ _).al _⟩)
  . go_wp2;go_ret;exact⟨lJ (by rw[Bc Hg (by omega),Bool.true_and]),(Below.refl _ _).al _⟩
theorem xH (v:Value) (l:List Int) (w:World) (h:Rd 1 aZ w v l) (hl:Small l.length):Calls prog 165 #[.agg #[v]] w (CJ l w):=by
 obtain⟨A,c,rfl,hc,hm⟩:=h.form;have hA:=(((Below.refl w.heap.size w).al (.cells #[.slice A l.length c] 26)).al (.cells #[.slice none 0 0] 26)).al (.cells #[] 3);have h':=h.Tj hA;have a7:(0+l.length)*8<=140737488355328:=by unfold Small at hl;omega
 have hsm:0+l.length<=maxLen:=by have:=hl.max;omega
 have hB:w.heap.size+1+1<=(((w.alloc (.cells #[.slice A l.length c] 26)).alloc (.cells #[.slice none 0 0] 26)).alloc (.cells #[] 3)).heap.size:=by simp
 have hE:aD 3 1 aW (w.heap.size+1+1) (((w.alloc (.cells #[.slice A l.length c] 26)).alloc (.cells #[.slice none 0 0] 26)).alloc (.cells #[] 3)) (.slice (some ⟨w.heap.size+1+1,0,none⟩) 0 0) ([]:List Int):=by
  have:=fF (E:=3) (size:=1) (enc:=aW) ((w.alloc (.cells #[.slice A l.length c] 26)).alloc (.cells #[.slice none 0 0] 26));simpa using this
 have hx:=(Blk.gI (w.alloc (.cells #[.slice A l.length c] 26)) 26 #[.slice none 0 0] (w.heap.size+1) (by simp)).alloc (.cells #[] 3);have H8:=Tk a7;have HM:=Tk hsm;have HB:=Tk hB;clear a7 hsm hB;go_enter Tryz.func165,Tryz.ntmps165
 go_wp2_with (at_builtin;go_must (refine dN (enc:=aW) fP aM jS HB.out hE h' H8.out HM.out rfl _ _ rfl rfl rfl ?_);intro v1 w1 a6 hb1 a8;obtain⟨A1,c1,rfl⟩:=a8;simp only[List.nil_append,List.length_nil,Nat.zero_add]at a6;have hx1:=hx.below hb1 (Nat.lt_succ_self _);have q1:=hx1.c1;have q2:=hx1.frozen 0;have q3:=hx1.lt)
 have q5:=(hx1.set1 (.slice A1 l.length c1)).c1;refine bodyPost_ret (v:= .agg #[.slice A1 l.length c1]) (by simp[results,Tryz.results165,go_sem,q5]) rfl ⟨A1,c1,rfl,(a6.low (Nat.lt_succ_self _) _).mono (by omega),?_⟩;exact(hA.trans (hb1.mono (by omega))).st _ _ (Nat.le_succ _)
theorem G7 (v:Value) (rows:List Int) (x y:Int) (on:Bool) (w:World) (h:Rd 1 aZ w v rows) (hl:Small rows.length) (hno:(bW rows&&bH (x,y))=false):
 Calls prog 222 #[.agg #[v],.agg #[.int .i64 x,.int .i64 y],.bool on] w (qU rows false w):=by
 obtain⟨A,c,rfl,hc,hm⟩:=h.form;have hA:=(((Below.refl w.heap.size w).al (.cells #[.slice A rows.length c] 26)).al (.cells #[.int .i64 x,.int .i64 y] 83)).al (.cells #[.slice none 0 0] 26);have h':=h.Tj hA;have hx:=Blk.gI ((w.alloc (.cells #[.slice A rows.length c] 26)).alloc (.cells #[.int .i64 x,.int .i64 y] 83)) 26 #[.slice none 0 0] (w.heap.size+1+1) (by simp);rcases hr:bW rows with _|_
 . go_enter Tz,TA
   go_wp2_with fail
   refine(xH _ rows _ h' hl).mono ?_;rintro e w1 ⟨A1,c1,rfl,a6,hb1⟩;obtain⟨hc1,bO,hz1⟩:=bk hb1;(try simp at hz1)
   have a8:w.heap.size<w1.heap.size:=(by omega);have bA:w.heap.size+1<w1.heap.size:=(by omega);have bB:w.heap.size+1+1<w1.heap.size:=(by omega);have hx1:=(hx.bl hb1).alloc (.cells #[.slice A1 rows.length c1] 26);have bJ:=Blk.aX w1 26 #[.slice A1 rows.length c1];go_wp2_with fail
   refine(fB _ rows _ ((h'.Tj hb1).Tj ((Below.refl _ _).al _))).mono ?_;rintro e w2 ⟨rfl,hb2⟩;obtain⟨hc2,hf2,hz2⟩:=bk hb2;(try simp at hz2)
   have bC:w.heap.size<w2.heap.size:=(by omega);have bD:w.heap.size+1<w2.heap.size:=(by omega);have bE:w.heap.size+1+1<w2.heap.size:=(by omega);have bF:w1.heap.size<w2.heap.size:=(by omega);rw[hr];have q1:=(bJ.bl hb2).c1;have q5:=((hx1.bl hb2).set1 (.slice A1 rows.length c1)).c1;have B2:=((hA.tr hb1).al (.cells #[.slice A1 rows.length c1] 26)).tr hb2;have a7:=(a6.alloc (.cells #[.slice A1 rows.length c1] 26)).below hb2;go_wp2;refine bodyPost_ret (v:= .tuple #[.agg #[.slice A1 rows.length c1],.bool false]) (by simp[results,TB,go_sem,q5]) rfl ⟨A1,c1,rfl,(a7.low (by simp) _).mono (by simp;omega),B2.st _ _ (by simp;omega)⟩
 . rw[hr,Bool.true_and]at hno;go_enter Tz,TA
   go_wp2_with fail
   refine(xH _ rows _ h' hl).mono ?_;rintro e w1 ⟨A1,c1,rfl,a6,hb1⟩;obtain⟨hc1,bO,hz1⟩:=bk hb1;(try simp at hz1)
   have a8:w.heap.size<w1.heap.size:=(by omega);have bA:w.heap.size+1<w1.heap.size:=(by omega);have bB:w.heap.size+1+1<w1.heap.size:=(by omega);have hx1:=(hx.bl hb1).alloc (.cells #[.slice A1 rows.length c1] 26);have bJ:=Blk.aX w1 26 #[.slice A1 rows.length c1];go_wp2_with fail
   refine(fB _ rows _ ((h'.Tj hb1).Tj ((Below.refl _ _).al _))).mono ?_;rintro e w2 ⟨rfl,hb2⟩;obtain⟨hc2,hf2,hz2⟩:=bk hb2;(try simp at hz2)
   have bC:w.heap.size<w2.heap.size:=(by omega);have bD:w.heap.size+1<w2.heap.size:=(by omega);have bE:w.heap.size+1+1<w2.heap.size:=(by omega);have bF:w1.heap.size<w2.heap.size:=(by omega);rw[hr];go_wp2_with fail
   refine(iV x y _).mono ?_;rintro e w3 ⟨rfl,hb3⟩;obtain⟨hc3,hf3,hz3⟩:=bk hb3;(try simp at hz3)
   have bK:w.heap.size<w3.heap.size:=(by omega);have bL:w.heap.size+1<w3.heap.size:=(by omega);have bM:w.heap.size+1+1<w3.heap.size:=(by omega);have bN:w1.heap.size<w3.heap.size:=(by omega);rw[hno];have q1:=((bJ.bl hb2).bl hb3).c1;have q5:=(((hx1.bl hb2).bl hb3).set1 (.slice A1 rows.length c1)).c1;have B2:=(((hA.tr hb1).al (.cells #[.slice A1 rows.length c1] 26)).tr hb2).tr hb3;have a7:=((a6.alloc (.cells #[.slice A1 rows.length c1] 26)).below hb2).below hb3;go_wp2;refine bodyPost_ret (v:= .tuple #[.agg #[.slice A1 rows.length c1],.bool false]) (by simp[results,TB,go_sem,q5]) rfl ⟨A1,c1,rfl,(a7.low (by simp) _).mono (by simp;omega),B2.st _ _ (by simp;omega)⟩
def Im (w:World) (b:Nat):Nat:=match w.cell? ⟨b,0,none⟩with|some (.slice _ n _)=>n|_=>0
theorem Blk.len_ {w:World} {g:Nat} {t:TypeId} {A:Option Addr} {n c:Nat} (h:Blk w g t #[.slice A n c]):Im w g=n:=by unfold Im;rw[h.c1]
theorem Fy (v:Value) (rows:List Int) (x y:Nat) (on:Bool) (w:World) (h:Rd 1 aZ w v rows) (hl:Small rows.length) (hr:bW rows=true) (cU:x<8) (eE:y<8):
 Calls prog 222 #[.agg #[v],.agg #[.int .i64 x,.int .i64 y],.bool on] w (qU ((DD rows).set y (nR (rows.getD y 0).toNat x on:Nat)) true w):=by
 obtain⟨A,c,rfl,hc,hm⟩:=h.form;have hA:=(((Below.refl w.heap.size w).al (.cells #[.slice A rows.length c] 26)).al (.cells #[.int .i64 x,.int .i64 y] 83)).al (.cells #[.slice none 0 0] 26);have h':=h.Tj hA;have hx:=Blk.gI ((w.alloc (.cells #[.slice A rows.length c] 26)).alloc (.cells #[.int .i64 x,.int .i64 y] 83)) 26 #[.slice none 0 0] (w.heap.size+1+1) (by simp);have hcb:=(Blk.gI (w.alloc (.cells #[.slice A rows.length c] 26)) 83 #[.int .i64 x,.int .i64 y] (w.heap.size+1) (by simp)).alloc (.cells #[.slice none 0 0] 26);have hcell:bH ((x:Int),(y:Int))=true:=dC.2 ⟨⟨by omega,by omega⟩,by omega,by omega⟩;have bC:=Tk (aR.1 hr);have h8:=bC.out.1;go_enter Tz,TA
 go_wp2_with fail
 refine(xH _ rows _ h' hl).mono ?_;rintro e w1 ⟨A1,c1,rfl,a6,hb1⟩;obtain⟨hc1,eI,hz1⟩:=bk hb1;(try simp at hz1)
 have bP:w.heap.size<w1.heap.size:=(by omega);have bR:w.heap.size+1<w1.heap.size:=(by omega);have bS:w.heap.size+1+1<w1.heap.size:=(by omega);have hx1:=(hx.bl hb1).alloc (.cells #[.slice A1 rows.length c1] 26);have bU:=(hcb.bl hb1).alloc (.cells #[.slice A1 rows.length c1] 26);have cV:=Blk.aX w1 26 #[.slice A1 rows.length c1];go_wp2_with fail
 refine(fB _ rows _ ((h'.Tj hb1).Tj ((Below.refl _ _).al _))).mono ?_;rintro e w2 ⟨rfl,hb2⟩;obtain⟨hc2,hf2,hz2⟩:=bk hb2;(try simp at hz2)
 have bX:w.heap.size<w2.heap.size:=(by omega);have bY:w.heap.size+1<w2.heap.size:=(by omega);have b5:w.heap.size+1+1<w2.heap.size:=(by omega);have bD:w1.heap.size<w2.heap.size:=(by omega);rw[hr];go_wp2_with fail
 refine(iV x y _).mono ?_;rintro e w3 ⟨rfl,hb3⟩;obtain⟨hc3,hf3,hz3⟩:=bk hb3;(try simp at hz3)
 have b6:w.heap.size<w3.heap.size:=(by omega);have b7:w.heap.size+1<w3.heap.size:=(by omega);have b8:w.heap.size+1+1<w3.heap.size:=(by omega);have b9:w1.heap.size<w3.heap.size:=(by omega);rw[hcell];have hx3:=(hx1.bl hb2).bl hb3;have cA:=(bU.bl hb2).bl hb3;have cK:=(cV.bl hb2).bl hb3;have B3:=(((hA.tr hb1).al (.cells #[.slice A1 rows.length c1] 26)).tr hb2).tr hb3;have cB:=(((a6.alloc (.cells #[.slice A1 rows.length c1] 26)).below hb2).below hb3).mono (B':=w.heap.size+3) (by simp);obtain⟨bo,cL⟩:=Ti w1.heap.size;rw[<-cL]at cK bD b9;have eJ:w.heap.size+3<=bo:=(by omega);have q1:=cK.c1;rw[<-cL];clear hc1 eI hz1 hc2 hf2 hz2 hc3 hf3 hz3 hx hcb hx1 bU cV hb1 hb2 hb3 a6 hA cL bP bR bS bX bY b5 bD b6 b7 b8;go_wp2;go_loopw [20] (fun _ wr=>∃(j:Nat) (A':Option Addr) (c':Nat),rows.length+j<=8/\Blk wr bo 26 #[.slice A' (rows.length+j) c']/\aD 3 1 aW (w.heap.size+3) wr (.slice A' (rows.length+j) c') (rows++Tm j 0)/\Blk wr (w.heap.size+1+1) 26 #[.slice none 0 0]/\Blk wr (w.heap.size+1) 83 #[.int .i64 x,.int .i64 y]/\Below w.heap.size w wr) (fun _ wr=>8-Im wr bo)
 case atStart=>exact⟨0,A1,c1,by omega,cK,by simpa using cB,hx3,cA,B3⟩
 case round=>
  obtain⟨j,A',c',hj,a7,hown,hbr,bO,bE⟩:=hrel;clear cK cB hx3 cA B3 q1;have q1:=a7.c1;have q2:=a7.frozen 0;have hz:=a7.lt;by_cases hlt:rows.length+j<8
  . have eK : ((rows.length : Int) + j) < 8 := by omega
    have hlen:(rows++Tm j (0:Int)).length=rows.length+j:=(by simp);have HB:Hid (w.heap.size+3<=wr.heap.size):=Tk (by omega);have H8:Hid (((rows++Tm j (0:Int)).length+1)*8<=140737488355328):=Tk (by rw[hlen];omega);have HM:Hid ((rows++Tm j (0:Int)).length+1<=maxLen):=Tk (by rw[hlen];unfold maxLen;omega);have cM:=Tk hlen;clear hlen;go_wp2_with (at_builtin;go_must (refine jN (enc:=aW) fP aM jS (B:=w.heap.size+3) wr HB.out hown 0 rfl H8.out HM.out rfl _ _ rfl rfl rfl ?_);intro v1 w1 a6 hg1 cW;rw[cM.out]at cW;obtain⟨A1,c1,rfl⟩:=cW;have a8:=a7.grown hg1 (fun e=>(hown.apart a7 (by decide)) e.symm);have q3:=a8.c1;have q4:=a8.frozen 0)
    have cC:=a8.set1 (.slice A1 (rows.length+j+1) c1);have cN:=(hbr.grown hg1 (fun e=>(hown.apart hbr (by decide)) e.symm)).far (p:=⟨bo,0,none⟩) (by simp;omega) (.slice A1 (rows.length+j+1) c1);have cP:=(bO.grown hg1 (fun e=>(hown.apart bO (by decide)) e.symm)).far (p:=⟨bo,0,none⟩) (by simp;omega) (.slice A1 (rows.length+j+1) c1);have cD:=a6.far (a:=⟨bo,0,none⟩) (a6.apart a8 (by decide)) (.slice A1 (rows.length+j+1) c1);rw[List.append_assoc,show Tm j (0:Int)++[0]=Tm (j+1) 0 by rw[List.replicate_succ']]at cD;have B2:=(Below.app bE hown (by omega) hg1).st ⟨bo,0,none⟩ (.slice A1 (rows.length+j+1) c1) (by simp;omega);have e1:=a7.len_;have e2:=cC.len_;go_roundw
    case rel=>exact⟨j+1,A1,c1,by omega,cC,cD,cN,cP,B2⟩
    case measure=>rw[e1,e2];omega
  . obtain rfl : j = 8 - rows.length := by omega
    have cX:rows.length+(8-rows.length)=8:=(by omega);rw[cX]at hown a7 q1;change aD _ _ _ _ _ _ (DD rows)at hown;have hpl:(DD rows).length=8:=wY h8;obtain⟨r,cQ⟩:∃r:Nat,r=(rows.getD y 0).toNat:=⟨_,rfl⟩;have hgr:=getD_in bC.out y;have cE:r<256:=by omega
    have cY : (DD rows)[y]'(by omega) = (r : Int) := by
     have:=FY rows y;rw[Tn,Tq (by omega),Tw]at this;rw[this];omega
    obtain⟨g,rfl,eM,eN⟩:=hown.split (k:=y) (by omega);have s1:=hown.slot aM Nat.one_pos (k:=y) (by omega) 0 (.int .i64 r) (by rw[cY];rfl);have s2:=hown.free y;rw[Nat.mul_one,Nat.add_zero]at s1;have z0:=bO.cell 0;have z1:=bO.cell 1;have hgo:g≠bo:=fun e=>(hown.apart a7 (by decide)) (by rw[e];rfl)
    have c1:=hbr.c1;have c2:=hbr.frozen 0;have dL:=hbr.lt;have eP:(y:Int)<8:=(by omega);rw[<-cQ];have hx2:(2:Int)^x=((2^x:Nat):Int):=(by simp);have dT:2^x<256:=Nat.lt_of_lt_of_le (Nat.pow_lt_pow_right (by decide) cU) (by decide)
    have e1:bits .or .i64 (r:Int) (IntKind.i64.wrap (2^x))=((r|||2^x:Nat):Int):=by
     rw[hx2];generalize 2^x=q at dT⊢;rw[Ty _ (by omega)];exact DF r q (by omega) (by omega)
    have hle:2^x<=r|||2^x:=Nat.right_le_or;have eL:r|||2^x<256:=(DC r cE x cU).1
    have e2:IntKind.i64.wrap (((r|||2^x:Nat):Int)-IntKind.i64.wrap (2^x))=(((r|||2^x)-2^x:Nat):Int):=by
     rw[hx2];generalize r|||2^x=m at hle eL⊢;generalize 2^x=q at dT hle⊢;rw[Ty (q:Int) (by omega),Ty _ (by omega)];omega
    have E2:=Tk e2;clear e2;have eA:=Tk cQ;have cR:=Tk hpl;clear cQ cY hpl hx2 cX hgr;simp only[List.getElem?_toArray,List.getElem?_cons_zero,List.getElem?_cons_succ]at z0 z1;have eC:y<(DD rows).length:=by rw[cR.out];exact eE
    have bF:=a7.far (p:=⟨g,y,none⟩) (fun e=>hgo e.symm) (.int .i64 ((r|||2^x:Nat):Int));have bJ:=hbr.far (p:=⟨g,y,none⟩) (by simp;omega) (.int .i64 ((r|||2^x:Nat):Int));have cF:=bO.far (p:=⟨g,y,none⟩) (by simp;omega) (.int .i64 ((r|||2^x:Nat):Int));have bK:=hown.kI aM (y:=((r|||2^x:Nat):Int)) eC rfl;have B4:=bE.st ⟨g,y,none⟩ (.int .i64 ((r|||2^x:Nat):Int)) (by simp;omega);have HT:Hid (nR (rows.getD y 0).toNat x true=r|||2^x):=Tk (by rw[<-eA.out];rfl);have HF:Hid (nR (rows.getD y 0).toNat x false=(r|||2^x)-2^x):=Tk (by rw[<-eA.out];rfl);cases on
    . go_wp2_with fail
      go_still_tail 15,(by kernel_rfl)
      change wpList _ _ _ _ _ wr.drew;clear e1;go_wp2_with fail
      obtain⟨W4,bL⟩:∃W4:World,W4=(wr.setCell ⟨g,y,none⟩ (.int .i64 ((r|||2^x:Nat):Int))).drew:=⟨_,rfl⟩;rw[<-bL];have bA:Blk W4 bo 26 #[.slice (some ⟨g,0,none⟩) 8 c']:=by rw[bL];exact bF
      have bB:Blk W4 (w.heap.size+1+1) 26 #[.slice none 0 0]:=by rw[bL];exact bJ
      have cG:Blk W4 (w.heap.size+1) 83 #[.int .i64 x,.int .i64 y]:=by rw[bL];exact cF
      have bM:aD 3 1 aW (w.heap.size+3) W4 (.slice (some ⟨g,0,none⟩) 8 c') ((DD rows).set y ((r|||2^x:Nat):Int)):=by
       rw[bL];exact bK.drewN 1
      have B5:Below w.heap.size w W4:=by rw[bL];exact B4.drew
      clear a7 hbr bO hown bE bF bJ cF bK B4 s1 s2 q1 q2 hz z0 z1 c1 c2 dL bL;have q1:=bA.c1;have q2:=bA.frozen 0;have hz:=bA.lt;have c1:=bB.c1;have c2:=bB.frozen 0;have dL:=bB.lt;have z0:=cG.cell 0;have z1:=cG.cell 1;simp only[List.getElem?_toArray,List.getElem?_cons_zero,List.getElem?_cons_succ]at z0 z1;have bN:y<((DD rows).set y ((r|||2^x:Nat):Int)).length:=by rw[Tt];exact eC
      have s1:=bM.slot aM Nat.one_pos (k:=y) bN 0 (.int .i64 ((r|||2^x:Nat):Int)) (by rw[List.getElem_set_self];rfl);have s2:=bM.free y;rw[Nat.mul_one,Nat.add_zero]at s1;have cH:=bM.kI aM (y:=(((r|||2^x)-2^x:Nat):Int)) bN rfl;rw[List.set_set]at cH;have cS:=bB.far (p:=⟨g,y,none⟩) (by simp;omega) (.int .i64 (((r|||2^x)-2^x:Nat):Int));have cT:=bA.far (p:=⟨g,y,none⟩) (fun e=>hgo e.symm) (.int .i64 (((r|||2^x)-2^x:Nat):Int));have B6:=B5.st ⟨g,y,none⟩ (.int .i64 (((r|||2^x)-2^x:Nat):Int)) (by simp;omega);have q5:=(cS.set1 (.slice (some ⟨g,0,none⟩) 8 c')).c1;have q6:=cT.c1;have e2:=E2.out;have cI:((DD rows).set y (nR (rows.getD y 0).toNat x false:Nat)).length=8:=by rw[Tt];exact cR.out
      have cJ:=Tk cI;clear cI bN;go_still_tail 15,(by kernel_rfl)
      change wpList _ _ _ _ _ W4.drew;go_wp2;refine bodyPost_ret (v:= .tuple #[.agg #[.slice (some ⟨g,0,none⟩) 8 c'],.bool true]) (by simp[results,TB,go_sem,q5]) rfl ⟨some ⟨g,0,none⟩,c',by rw[cJ.out],?_,(B6.drew.st ⟨w.heap.size+1+1,0,none⟩ _ (by simp;omega))⟩;rw[cJ.out,HF.out];exact((cH.low (p:=⟨w.heap.size+1+1,0,none⟩) (by simp) _).mono (by omega)).drewN 1
    . have q5:=(bJ.set1 (.slice (some ⟨g,0,none⟩) 8 c')).c1;have q6:=bF.c1;have cI:((DD rows).set y (nR (rows.getD y 0).toNat x true:Nat)).length=8:=by rw[Tt];exact cR.out
      have cJ:=Tk cI;clear cI;go_wp2_with fail
      go_still_tail 15,(by kernel_rfl)
      change wpList _ _ _ _ _ wr.drew;go_wp2;refine bodyPost_ret (v:= .tuple #[.agg #[.slice (some ⟨g,0,none⟩) 8 c'],.bool true]) (by simp[results,TB,go_sem,q5]) rfl ⟨some ⟨g,0,none⟩,c',by rw[cJ.out],?_,(B4.drew.st ⟨w.heap.size+1+1,0,none⟩ _ (by simp;omega))⟩;rw[cJ.out,HT.out];exact((bK.low (p:=⟨w.heap.size+1+1,0,none⟩) (by simp) _).mono (by omega)).drewN 1
theorem kR (v:Value) (rows:List Int) (x y:Int) (on:Bool) (w:World) (h:Rd 1 aZ w v rows) (hl:Small rows.length):
 Calls prog 222 #[.agg #[v],.agg #[.int .i64 x,.int .i64 y],.bool on] w (qU (mP rows (x,y) on).1 (mP rows (x,y) on).2 w):=by
 by_cases hb:(bW rows&&bH (x,y))=true
 . have hb':=hb;rw[Bool.and_eq_true]at hb';have hc:=dC.1 hb'.2;simp only at hc;obtain⟨a,rfl⟩:=Int.eq_ofNat_of_zero_le hc.1.1;obtain⟨b,rfl⟩:=Int.eq_ofNat_of_zero_le hc.2.1;have ha:a<8:=(by omega);have a6:b<8:=(by omega);have e:=Fy v rows a b on w h hl hb'.1 ha a6;rw[OZ (aR.1 hb'.1) ha a6 on]at e;have hi:(dJ ((a:Int),(b:Int))).toNat=8*b+a:=by rw[(dP hb'.2).1];simp only;omega
   have hw:mP rows ((a:Int),(b:Int)) on=(rowsOf (nQ (setOf rows) (8*b+a) on) 8,true):=by unfold mP;rw[if_pos hb,hi]
   rw[hw];exact e
 . have hw : mP rows (x, y) on = (rows, false) := by unfold mP; rw [if_neg hb]
   rw[hw];exact G7 v rows x y on w h hl (by simpa using hb)
theorem Blk.st {w:World} {g:Nat} {t:TypeId} {cs:Array Value} (h:Blk w g t cs) (i:Nat) (u:Value) (ds:Array Value) (e:cs.setIfInBounds i u=ds):Blk (w.setCell ⟨g,i,none⟩ u) g t ds:=e▸h.Ij i u
theorem nS (w:World) {E:TypeId} {α:Type} {size:Nat} {enc:α->List Value} {B:Nat}:aD E size enc B w (.slice none 0 0) ([]:List α):=⟨by simp,.inl ⟨rfl,rfl⟩⟩
theorem eG (w:World) {E:TypeId} {α:Type} {size:Nat} {enc:α->List Value} (g:Nat) (hg:g=w.heap.size) (B:Nat) (hB:B<=w.heap.size):aD E size enc B (w.alloc (.cells #[] E)) (.slice (some ⟨g,0,none⟩) 0 0) ([]:List α):=by
 subst hg;have:=World.ownsRow_lit (e:=E) (size:=size) w #[] 0 (Tv _) (by simp[maxLen]) (by simp);exact aD.mono (B':=B) this hB
theorem EZ {w w':World} {r:Option Nat} (h:w.grownBy w' r) (n:Nat):w.grownBy (w'.drewN n) r:=
 ⟨h.os,h.tape,h.output,h.size,h.block⟩
theorem O0 {w w1 w2:World} {r:Option Nat} (h:w.grownBy w1 r) (k:w1.grownBy w2 r):w.grownBy w2 r:=
 ⟨k.os.trans h.os,k.tape.trans h.tape,k.output.trans h.output,Nat.le_trans h.size k.size,fun b hb hne=>(k.block b (Nat.lt_of_lt_of_le hb h.size) hne).trans (h.block b hb hne)⟩
def bZ (w h:Nat):List Int:=Tm h ((2:Int)^w-1)
theorem xV (w k:Nat):bZ w (k+1)=bZ w k++[(2:Int)^w-1]:=by unfold bZ;rw[List.replicate_succ']
theorem Qs {w:Nat} (hw:w<=8):1<=(2:Int)^w/\(2:Int)^w<=256:=by
 have h1:2^w<=2^8:=Nat.pow_le_pow_right (by decide) hw;have h2:=Nat.pow_pos (n:=w) (show 0<2 by decide);have e:(2:Int)^w=((2^w:Nat):Int):=(by simp);rw[e];omega
theorem Nt (a b:Nat) (w:World) (ha:1<=a/\a<=8) (hb:1<=b/\b<=8):Calls prog 29 #[.int .i64 a,.int .i64 b] w (CJ (bZ a b) w):=by
 have h1:inB (a:Int) 1 8=true:=by simp[inB];omega
 have h2:inB (b:Int) 1 8=true:=by simp[inB];omega
 have hp:=Qs ha.2;obtain⟨P,hP⟩:=Ti ((2:Int)^a);rw[<-hP]at hp;have e1:IntKind.i64.wrap ((2:Int)^a)=P:=by rw[<-hP];exact Ty _ (by omega)
 have e2:IntKind.i64.wrap (P-1)=P-1:=Ty _ (by omega);have H1:=Tk h1;have H2:=Tk h2;have HP:=Tk hP;have E1:=Tk e1;have E2:=Tk e2;clear h1 h2 hP e1 e2;go_enter Tryz.func29,Tryz.ntmps29
 go_wp2_with fail
 refine(dI _ _ _ _).mono ?_;rintro e w1 ⟨rfl,rfl⟩;rw[H1.out];go_wp2_with fail
 refine(dI _ _ _ _).mono ?_;rintro e w1 ⟨rfl,rfl⟩;rw[H2.out];go_wp2;go_loopw [17] (fun i wr=>∃(k:Nat) (A:Option Addr) (c:Nat),k<=b/\i= .int .i64 k/\Blk wr (w.heap.size+1) 26 #[.slice A k c]/\Blk wr w.heap.size 26 #[.slice none 0 0]/\aD 3 1 aW (w.heap.size+1+1) wr (.slice A k c) (bZ a k)/\Below w.heap.size w wr) (fun i _=>b-(intOf i).toNat)
 case atStart=>
  refine⟨0,none,0,Tu _,rfl,?_,?_,?_,((Below.refl _ _).al _).al _⟩
  . have:=Blk.aX (w.alloc (.cells #[.slice none 0 0] 26)) 26 #[.slice none 0 0];simpa using this
  . exact(Blk.aX w 26 #[.slice none 0 0]).alloc _
  . exact nS _
 case round=>
  obtain⟨k,A,c,hk,rfl,a8,hbr,hown,bA⟩:=hrel;have q1:=a8.c1;have q2:=a8.frozen 0;have hz:=a8.lt;by_cases hlt:k<b
  . have hne := hown.apart a8 (by decide);have hlen:(bZ a k).length=k:=(by simp[bZ]);have HB:Hid (w.heap.size+1+1<=wr.drew.heap.size):=Tk (show w.heap.size+1+1<=wr.heap.size by omega);have H8:Hid (((bZ a k).length+1)*8<=140737488355328):=Tk (by rw[hlen];omega);have HM:Hid ((bZ a k).length+1<=maxLen):=Tk (by rw[hlen];unfold maxLen;omega);have bD:=Tk hlen;clear hlen;have e1:=E1.out;have e2:=E2.out;go_wp2_with fail
    go_region_law (go_must (refine FV (enc:=aW) fP aM jS (B:=w.heap.size+1+1) wr.drew HB.out hown (P-1) rfl H8.out HM.out rfl _ _ rfl rfl rfl ?_);intro v1 w1 bB hg1 bL;rw[bD.out]at bL;obtain⟨A1,c1,rfl⟩:=bL;have a6:=Blk.grown (w:=wr.drew) a8 hg1 (fun e=>hne e.symm);have q3:=a6.c1;have q4:=a6.frozen 0;have hz1:=a6.lt)
    all_goals
      have bC:=Blk.grown (w:=wr.drew) hbr hg1 (fun e=>(hown.apart hbr (by decide)) e.symm);have B1:=Below.app bA.drew (w:=wr.drew) hown (by omega) hg1;have a7:aD 3 1 aW (w.heap.size+1+1) w1 (.slice A1 (k+1) c1) (bZ a (k+1)):=by rw[xV,<-HP.out];exact bB
      have bE:=a7.far (a:=⟨w.heap.size+1,0,none⟩) (a7.apart a6 (by decide)) (.slice A1 (k+1) c1);have bF:=a6.Ij 0 (.slice A1 (k+1) c1);have bJ:=bC.far (p:=⟨w.heap.size+1,0,none⟩) (by simp) (.slice A1 (k+1) c1);have B2:=B1.st ⟨w.heap.size+1,0,none⟩ (.slice A1 (k+1) c1) (by simp);clear bB a7 a8 a6 hbr bC q1 q2 q3 q4 B1 hg1 hown e1 e2;go_wp2;go_roundw
      case rel=>exact⟨k+1,A1,c1,by omega,by go_num,bF,bJ,bE,B2⟩
      case measure=>simp[intOf];omega
  . have q3:=hbr.c1;have q4:=hbr.frozen 0;have hz2:=hbr.lt;obtain rfl:k=b:=by omega
    have bK:Blk (wr.setCell ⟨w.heap.size,0,none⟩ (.slice A k c)) w.heap.size 26 #[.slice A k c]:=hbr.Ij 0 _;have q5:=bK.c1;have hlen:(bZ a k).length=k:=(by simp[bZ]);go_wp2;refine bodyPost_ret (v:= .agg #[.slice A k c]) (by simp[results,Tryz.results29,go_sem,q5]) rfl ⟨A,c,by rw[hlen],?_,?_⟩
    . rw[hlen];exact(hown.low (p:=⟨w.heap.size,0,none⟩) (by simp;omega) _).mono (by omega)
    . exact bA.st _ _ (Tv _)
theorem Nu (a b:Nat) (w:World) (ha:1<=a/\a<=8) (hb:1<=b/\b<=8):Calls prog 72 #[.int .i64 a,.int .i64 b] w (CJ (bZ a b) w):=by
 have h1:inB (a:Int) 1 8=true:=by simp[inB];omega
 have h2:inB (b:Int) 1 8=true:=by simp[inB];omega
 have hp:=Qs ha.2;obtain⟨P,hP⟩:=Ti ((2:Int)^a);rw[<-hP]at hp;have e1:IntKind.i64.wrap ((2:Int)^a)=P:=by rw[<-hP];exact Ty _ (by omega)
 have e2:IntKind.i64.wrap (P-1)=P-1:=Ty _ (by omega);have H1:=Tk h1;have H2:=Tk h2;have HP:=Tk hP;have E1:=Tk e1;have E2:=Tk e2;clear h1 h2 hP e1 e2;go_enter Tryz.func72,Tryz.ntmps72
 go_wp2;go_loopw [6] (fun i wr=>∃(k:Nat) (A:Option Addr) (c:Nat),k<=b/\i= .int .i64 k/\Blk wr (w.heap.size+1) 26 #[.slice A k c]/\Blk wr w.heap.size 26 #[.slice none 0 0]/\aD 3 1 aW (w.heap.size+1+1) wr (.slice A k c) (bZ a k)/\Below w.heap.size w wr) (fun i _=>b-(intOf i).toNat)
 case atStart=>
  refine⟨0,none,0,Tu _,rfl,?_,?_,?_,?_⟩
  . have:=Blk.aX (w.alloc (.cells #[.slice none 0 0] 26)) 26 #[.slice none 0 0];simpa using this
  . exact(Blk.aX w 26 #[.slice none 0 0]).alloc _
  . exact nS _
  . exact((Below.refl _ _).al _).al _
 case round=>
  obtain⟨k,A,c,hk,rfl,a8,hbr,hown,bA⟩:=hrel;have q1:=a8.c1;have q2:=a8.frozen 0;have hz:=a8.lt;by_cases hlt:k<b
  . have hne := hown.apart a8 (by decide);have hlen:(bZ a k).length=k:=(by simp[bZ]);have HB:Hid (w.heap.size+1+1<=wr.drew.heap.size):=Tk (show w.heap.size+1+1<=wr.heap.size by omega);have H8:Hid (((bZ a k).length+1)*8<=140737488355328):=Tk (by rw[hlen];omega);have HM:Hid ((bZ a k).length+1<=maxLen):=Tk (by rw[hlen];unfold maxLen;omega);have bD:=Tk hlen;clear hlen;go_wp2_with fail
    refine(iY _ _ _ _).mono ?_;rintro e w5 ⟨rfl,rfl⟩;rw[H1.out];go_wp2_with fail
    refine(iY _ _ _ _).mono ?_;rintro e w5 ⟨rfl,rfl⟩;rw[H2.out];have e1:=E1.out;have e2:=E2.out;go_wp2_with fail
    go_region_law (go_must (refine FV (enc:=aW) fP aM jS (B:=w.heap.size+1+1) wr.drew HB.out hown (P-1) rfl H8.out HM.out rfl _ _ rfl rfl rfl ?_);intro v1 w1 bB hg1 bL;rw[bD.out]at bL;obtain⟨A1,c1,rfl⟩:=bL;have a6:=Blk.grown (w:=wr.drew) a8 hg1 (fun e=>hne e.symm);have q3:=a6.c1;have q4:=a6.frozen 0;have hz1:=a6.lt)
    all_goals
      have bC:=Blk.grown (w:=wr.drew) hbr hg1 (fun e=>(hown.apart hbr (by decide)) e.symm);have B1:=Below.app bA.drew (w:=wr.drew) hown (by omega) hg1;have a7:aD 3 1 aW (w.heap.size+1+1) w1 (.slice A1 (k+1) c1) (bZ a (k+1)):=by rw[xV,<-HP.out];exact bB
      have bE:=a7.far (a:=⟨w.heap.size+1,0,none⟩) (a7.apart a6 (by decide)) (.slice A1 (k+1) c1);have bF:=a6.Ij 0 (.slice A1 (k+1) c1);have bJ:=bC.far (p:=⟨w.heap.size+1,0,none⟩) (by simp) (.slice A1 (k+1) c1);have B2:=B1.st ⟨w.heap.size+1,0,none⟩ (.slice A1 (k+1) c1) (by simp);clear bB a7 a8 a6 hbr bC q1 q2 q3 q4 B1 hg1 hown e1 e2;go_wp2;go_roundw
      case rel=>exact⟨k+1,A1,c1,by omega,by go_num,bF,bJ,bE,B2⟩
      case measure=>simp[intOf];omega
  . have q3:=hbr.c1;have q4:=hbr.frozen 0;have hz2:=hbr.lt;obtain rfl:k=b:=by omega
    have bK:Blk (wr.setCell ⟨w.heap.size,0,none⟩ (.slice A k c)) w.heap.size 26 #[.slice A k c]:=hbr.Ij 0 _;have q5:=bK.c1;have hlen:(bZ a k).length=k:=(by simp[bZ]);go_wp2;refine bodyPost_ret (v:= .agg #[.slice A k c]) (by simp[results,Tryz.results72,go_sem,q5]) rfl ⟨A,c,by rw[hlen],?_,?_⟩
    . rw[hlen];exact(hown.low (p:=⟨w.heap.size,0,none⟩) (by simp;omega) _).mono (by omega)
    . exact bA.st _ _ (Tv _)
theorem wF (i:Nat) (w:World) (hi:i<64):Calls prog 132 #[.int .i64 i] w (Ret (.tuple #[.agg #[.int .i64 ((i:Int)%8),.int .i64 ((i:Int)/8)],.bool true]) w):=by
 have h1:inB (i:Int) 0 63=true:=by simp[inB];omega
 go_enter Tryz.func132,Tryz.ntmps132
 go_wp2_with fail
 refine(iY _ _ _ _).mono ?_;rintro e w5 ⟨rfl,rfl⟩;rw[h1];go_wp2;refine bodyPost_ret (v:= .tuple #[.agg #[.int .i64 ((i:Int)%8),.int .i64 ((i:Int)/8)],.bool true]) (by simp[results,Tryz.results132,go_sem]) rfl ⟨rfl,?_⟩;exact((Below.refl _ _).al _)
theorem J2 (n:Int):bits .and .i64 n 1=n%2:=by
 have a6:(BitVec.ofInt 64 1).toNat=2^1-1:=by decide
 have key:(BitVec.ofInt 64 n&&&BitVec.ofInt 64 1).toNat=(n%((2^64:Nat):Int)).toNat%2^1:=by
  rw[BitVec.toNat_and,BitVec.toNat_ofInt,a6,Nat.and_two_pow_sub_one_eq_mod]
 show IntKind.i64.wrap ((BitVec.ofInt 64 n&&&BitVec.ofInt 64 1).toNat:Nat)=n%2;rw[key,Tx];omega
def iT (i:Nat):Cl:=((i:Int)%8,(i:Int)/8)
def eX (s k:Nat):List Cl:=((List.range k).filter fun i=>s.testBit i).map iT
theorem zG (s k:Nat):eX s (k+1)=eX s k++if s.testBit k then[iT k]else[]:=by
 unfold eX;rw[List.range_succ,List.filter_append,List.map_append];by_cases h:s.testBit k=true
 . rw[if_pos h];simp[h]
 . rw[if_neg h];simp[h]
theorem vC (s k:Nat):(eX s k).length<=k:=by
 unfold eX;rw[List.length_map];exact Nat.le_trans (List.length_filter_le _ _) (by simp)
theorem BG (i:Nat) (w:World) (hi:i<=64):Calls prog 208 #[.int .i64 i] w (Ret (IP (iT i)) w):=by
 go_enter Tryz.func208,Tryz.ntmps208
 go_wp2;refine bodyPost_ret (v:=IP (iT i)) (by simp[results,Tryz.results208,go_sem,iT]) rfl ⟨rfl,?_⟩;exact((Below.refl _ _).al _)
def eU (rows:List Int):List Cl:=if bW rows then eX (setOf rows) 64 else[]
theorem BH (rows:List Int):(eU rows).length<=64:=by
 unfold eU;split
 . exact vC _ _
 . simp
end Go.Proofs.YtjijonhkofhikaaGreatDoor
