import Derived.Test.YtjijonhkofhikaaGreatDoorEK2
import Derived.Deep.RegionHeld3
open _root_.List renaming replicate->TZ,getD_eq_getElem?_getD->T9,getElem?_eq_none->Ua,getElem?_eq_getElem->Ub,getElem_mem->Uc,length_set->Ud,getElem?_toArray->Ue,getElem?_cons_zero->Uf,getElem?_cons_succ->Ug
open _root_.Nat renaming zero_le->Uh,le_refl->Ui
open _root_.Option renaming getD_some->Uj
open _root_.Go.IntKind renaming wrap_i64->Uk
open _root_.Go.IntWalk renaming i64_in->Ul
open _root_.Go.Proofs.Tryz (prog func42)
open _root_.Go.Proofs.Tryz renaming func222->Um,ntmps222->Un,results222->Uo,ntmps42->Uq
set_option linter.unusedVariables false
set_option maxHeartbeats 4000000
set_option maxRecDepth 100000
namespace Go.Proofs.YtjijonhkofhikaaGreatDoor
open Go.ChangeShapes Go.WideShapes Go.ChangeAt Go.RowKit
def qV (l:List Int) (b:Bool) (w:World) (e:Ending) (w':World):Prop:=∃A c,e= .returned (.tuple #[.agg #[.slice A l.length c],.bool b])/\aD 3 1 bH w.heap.size w' (.slice A l.length c) l/\Below w.heap.size w w'
def nL (s i:Nat) (on:Bool):Nat:=if on then uV (iO s i) i else iO s i
def mK (rows:List Int) (c:Cl) (on:Bool):List Int×Bool:=if bQ rows&&bM c then(rowsOf (nL (setOf rows) (dJ c).toNat on) 8,true)else(rows,false)
theorem Blk.bl {w w':World} {g:Nat} {t:TypeId} {cs:Array Value} (h:Blk w g t cs) (hb:Below w.heap.size w w'):Blk w' g t cs:=h.below hb h.lt
theorem Blk.set1 {w:World} {g:Nat} {t:TypeId} {v:Value} (h:Blk w g t #[v]) (u:Value):Blk (w.setCell ⟨g,0,none⟩ u) g t #[u]:=h.Dq 0 u
theorem Blk.gZ (w:World) (t:TypeId) (cs:Array Value) (g:Nat) (hg:g=w.heap.size):Blk (w.alloc (.cells cs t)) g t cs:=by subst hg;exact Blk.aZ w t cs
def nM (r x:Nat) (on:Bool):Nat:=if on then r|||2^x else(r|||2^x)-2^x
theorem Ik:∀r<256,∀x<8,∀j<8,(nM r x true).testBit j=(r.testBit j||decide (x=j))/\(nM r x false).testBit j=(r.testBit j&& !decide (x=j)):=by
 decide+kernel
theorem Eb:∀r<256,∀x<8,nM r x true<256/\nM r x false<256:=by
 decide+kernel
def Ec (rows:List Int):List Int:=rows++TZ (8-rows.length) 0
theorem wR {rows:List Int} (h:rows.length<=8):(Ec rows).length=8:=by simp[Ec];omega
theorem Gj (rows:List Int) (i:Nat):(Ec rows).getD i 0=rows.getD i 0:=by
 unfold Ec;rw[T9,T9];by_cases h:i<rows.length
 . rw[List.getElem?_append_left h]
 . rw [List.getElem?_append_right (by omega), Ua (l := rows) (by omega), List.getElem?_replicate];split<;>rfl
theorem getD_in {rows:List Int} (h:dY rows) (i:Nat):0<=rows.getD i 0/\rows.getD i 0<=255:=by
 rw[T9];by_cases hi:i<rows.length
 . rw[Ub hi,Uj];exact h.2 _ (Uc hi)
 . rw[Ua (by omega)];decide
theorem BQ {s i:Nat} (hs:s<U64) (hi:i<64) (on:Bool) (j:Nat):(nL s i on).testBit j=if on then(s.testBit j||decide (i=j))else(s.testBit j&& !decide (i=j)):=by
 unfold nL;cases on
 . simp only[Bool.false_eq_true,if_false];exact lG hs hi j
 . simp only[if_true];rw[sG,lG hs hi];cases s.testBit j<;>cases hd:decide (i=j)<;>rfl
theorem O6 {rows:List Int} (h:dY rows) {x y:Nat} (hx:x<8) (hy:y<8) (on:Bool):
 (Ec rows).set y (nM (rows.getD y 0).toNat x on:Nat)=rowsOf (nL (setOf rows) (8*y+x) on) 8:=by
 have hi:8*y+x<64:=(by omega);refine List.ext_getElem? fun k=> ?_
 by_cases hk:k<8
 . have hr:=getD_in h k
   have hrow:(rowsOf (nL (setOf rows) (8*y+x) on) 8)[k]? =some ((((nL (setOf rows) (8*y+x) on)>>>(8*k))%256:Nat):Int):=by
    have:=Gh (nL (setOf rows) (8*y+x) on) 8 k hk;rw[T9,Ub (by rw[fP];exact hk),Uj]at this;rw[Ub (by rw[fP];exact hk),this]
   rw[hrow]
   have hval:∀v:Nat,v<256->(∀j,j<8->v.testBit j=(nL (setOf rows) (8*y+x) on).testBit (8*k+j))->some (v:Int)=some ((((nL (setOf rows) (8*y+x) on)>>>(8*k))%256:Nat):Int):=by
    intro v hv hb;have:v=((nL (setOf rows) (8*y+x) on)>>>(8*k))%256:=Ra hv (Nat.mod_lt _ (by decide)) fun j hj=>by rw[Mx _ _ _ hj];exact hb j hj
    rw[<-this]
   have a6:∀j,j<8->(setOf rows).testBit (8*k+j)=(rows.getD k 0).toNat.testBit j:=by
    intro j hj;rw[xG h,show(8*k+j)/8=k by omega,show(8*k+j)%8=j by omega]
   by_cases e:y=k
   . subst e;rw[List.getElem?_set_self (by rw[wR h.1];exact hk)];have hr2:(rows.getD y 0).toNat<256:=(by omega);have hl:=Eb _ hr2 x hx
     have hl':nM (rows.getD y 0).toNat x on<256:=by
      cases on
      . exact hl.2
      . exact hl.1
     refine hval _ hl' fun j hj=> ?_
     rw[BQ (dW h) hi,a6 j hj];have hb:=Ik _ hr2 x hx j hj;have hd:decide (8*y+x=8*y+j)=decide (x=j):=by rw[decide_eq_decide];omega
     rw[hd];cases on
     . simp only[Bool.false_eq_true,if_false];exact hb.2
     . simp only[if_true];exact hb.1
   . rw[List.getElem?_set_ne e];have hp:=Gj rows k;rw[T9,Ub (by rw[wR h.1];exact hk),Uj]at hp;rw[Ub (by rw[wR h.1];exact hk),hp];have a7:rows.getD k 0=(((rows.getD k 0).toNat:Nat):Int):=(by omega);rw[a7];refine hval _ (by omega) fun j hj=> ?_
     rw[BQ (dW h) hi,a6 j hj];have hd:decide (8*y+x=8*k+j)=false:=by rw[decide_eq_false_iff_not];omega
     rw[hd];cases on<;>simp
 . rw[Ua (by rw[Ud,wR h.1];omega),Ua (by rw[fP];omega)]
theorem xH (a:Nat) (ha:a<18446744073709551616):(BitVec.ofInt 64 (a:Int)).toNat=a:=by
 rw[BitVec.ofInt_natCast,BitVec.toNat_ofNat];exact Nat.mod_eq_of_lt (by omega)
theorem yO (a b:Nat) (ha:a<4294967296) (hb:b<4294967296):bits .or .i64 (a:Int) (b:Int)=((a|||b:Nat):Int):=by
 have hx:a|||b<2^32:=Nat.or_lt_two_pow (by omega) (by omega);show IntKind.i64.wrap ((BitVec.ofInt 64 (a:Int)|||BitVec.ofInt 64 (b:Int)).toNat:Int)=_;rw[BitVec.toNat_or,xH a (by omega),xH b (by omega),Uk];omega
theorem JC (a b:Nat) (ha:a<4294967296) (hb:b<4294967296):bits .and .i64 (a:Int) (b:Int)=((a&&&b:Nat):Int):=by
 have hx:a&&&b<2^32:=Nat.and_lt_two_pow _ (by omega);show IntKind.i64.wrap ((BitVec.ofInt 64 (a:Int)&&&BitVec.ofInt 64 (b:Int)).toNat:Int)=_;rw[BitVec.toNat_and,xH a (by omega),xH b (by omega),Uk];omega
theorem dZ (v:Value) (rows:List Int) (w:World) (h:Rd 1 bG w v rows):Calls prog 124 #[.agg #[v]] w (Ret (.bool (bQ rows)) w):=by
 obtain⟨A,c,rfl,hc,hm⟩:=h.form;have h':=h.TW ((Below.refl _ _).al (.cells #[.slice A rows.length c] 26))
 have e0:bQ rows=(allIn 0 255 rows&&decide ((rows.length:Int)<=8)):=by
  unfold bQ;rw[Bool.and_comm];congr 1;rw[decide_eq_decide];omega
 rw[e0];go_enter Tryz.func124,Tryz.ntmps124
 go_wp2;go_loop [3] (fun i=>∃k:Nat,k<=rows.length/\i= .int .i64 k/\Hid (allIn 0 255 (rows.drop k)=allIn 0 255 rows)) (fun i=>rows.length-(intOf i).toNat)
 case atStart=>exact⟨0,Uh _,rfl,TY rfl⟩
 case round=>
  obtain⟨k,hk,rfl,Hg⟩:=hrel;by_cases hlt:k<rows.length
  . obtain⟨b,off,rfl,hb,h1⟩:=h'.sP hlt;go_wp2_with (go_at_call 65;(with_reducible refine(iY _ _ _ _).mono ?_);rintro e w' ⟨rfl,rfl⟩)
    all_goals first
      | (go_round
         case rel=>exact⟨k+1,by omega,by go_num,E5 Hg hlt (by rename_i hx;simpa using hx)⟩
         case measure=>simp[intOf];omega)
      | (go_ret
         exact⟨lF (by rw[E8 Hg hlt (by rename_i hx;simpa using hx)];rfl),(Below.refl _ _).al _⟩)
  . go_wp2;go_ret;exact⟨lF (by rw[Bn Hg (by omega),Bool.true_and]),(Below.refl _ _).al _⟩
theorem xI (v:Value) (l:List Int) (w:World) (h:Rd 1 bG w v l) (hl:Small l.length):Calls prog 165 #[.agg #[v]] w (C8 l w):=by
 obtain⟨A,c,rfl,hc,hm⟩:=h.form;have hA:=(((Below.refl w.heap.size w).al (.cells #[.slice A l.length c] 26)).al (.cells #[.slice none 0 0] 26)).al (.cells #[] 3);have h':=h.TW hA;have a7:(0+l.length)*8<=140737488355328:=by unfold Small at hl;omega
 have hsm:0+l.length<=maxLen:=by have:=hl.max;omega
 have hB:w.heap.size+1+1<=(((w.alloc (.cells #[.slice A l.length c] 26)).alloc (.cells #[.slice none 0 0] 26)).alloc (.cells #[] 3)).heap.size:=by simp
 have hE:aD 3 1 bH (w.heap.size+1+1) (((w.alloc (.cells #[.slice A l.length c] 26)).alloc (.cells #[.slice none 0 0] 26)).alloc (.cells #[] 3)) (.slice (some ⟨w.heap.size+1+1,0,none⟩) 0 0) ([]:List Int):=by
  have:=eZ (E:=3) (size:=1) (enc:=bH) ((w.alloc (.cells #[.slice A l.length c] 26)).alloc (.cells #[.slice none 0 0] 26));simpa using this
 have hx:=(Blk.gZ (w.alloc (.cells #[.slice A l.length c] 26)) 26 #[.slice none 0 0] (w.heap.size+1) (by simp)).alloc (.cells #[] 3);have H8:=TY a7;have HM:=TY hsm;have HB:=TY hB;clear a7 hsm hB;go_enter Tryz.func165,Tryz.ntmps165
 go_wp2_with (at_builtin;go_must (refine dX (enc:=bH) fE aJ jN HB.out hE h' H8.out HM.out rfl _ _ rfl rfl rfl ?_);intro v1 w1 a6 hb1 a8;obtain⟨A1,c1,rfl⟩:=a8;simp only[List.nil_append,List.length_nil,Nat.zero_add]at a6;have hx1:=hx.below hb1 (Nat.lt_succ_self _);have q1:=hx1.c1;have q2:=hx1.frozen 0;have q3:=hx1.lt)
 have q5:=(hx1.set1 (.slice A1 l.length c1)).c1;refine bodyPost_ret (v:= .agg #[.slice A1 l.length c1]) (by simp[results,Tryz.results165,go_sem,q5]) rfl ⟨A1,c1,rfl,(a6.low (Nat.lt_succ_self _) _).mono (by omega),?_⟩;exact(hA.trans (hb1.mono (by omega))).st _ _ (Nat.le_succ _)
theorem Il (v:Value) (rows:List Int) (x y:Int) (on:Bool) (w:World) (h:Rd 1 bG w v rows) (hl:Small rows.length) (hno:(bQ rows&&bM (x,y))=false):
 Calls prog 222 #[.agg #[v],.agg #[.int .i64 x,.int .i64 y],.bool on] w (qV rows false w):=by
 obtain⟨A,c,rfl,hc,hm⟩:=h.form;have hA:=(((Below.refl w.heap.size w).al (.cells #[.slice A rows.length c] 26)).al (.cells #[.int .i64 x,.int .i64 y] 83)).al (.cells #[.slice none 0 0] 26);have h':=h.TW hA;have hx:=Blk.gZ ((w.alloc (.cells #[.slice A rows.length c] 26)).alloc (.cells #[.int .i64 x,.int .i64 y] 83)) 26 #[.slice none 0 0] (w.heap.size+1+1) (by simp);rcases hr:bQ rows with _|_
 . go_enter Um,Un
   go_wp2_with fail
   refine(xI _ rows _ h' hl).mono ?_;rintro e w1 ⟨A1,c1,rfl,a6,hb1⟩;obtain⟨hc1,bR,hz1⟩:=bk hb1;(try simp at hz1)
   have a8:w.heap.size<w1.heap.size:=(by omega);have bA:w.heap.size+1<w1.heap.size:=(by omega);have bB:w.heap.size+1+1<w1.heap.size:=(by omega);have hx1:=(hx.bl hb1).alloc (.cells #[.slice A1 rows.length c1] 26);have bJ:=Blk.aZ w1 26 #[.slice A1 rows.length c1];go_wp2_with fail
   refine(dZ _ rows _ ((h'.TW hb1).TW ((Below.refl _ _).al _))).mono ?_;rintro e w2 ⟨rfl,hb2⟩;obtain⟨hc2,hf2,hz2⟩:=bk hb2;(try simp at hz2)
   have bC:w.heap.size<w2.heap.size:=(by omega);have bD:w.heap.size+1<w2.heap.size:=(by omega);have bE:w.heap.size+1+1<w2.heap.size:=(by omega);have bF:w1.heap.size<w2.heap.size:=(by omega);rw[hr];have q1:=(bJ.bl hb2).c1;have q5:=((hx1.bl hb2).set1 (.slice A1 rows.length c1)).c1;have B2:=((hA.tr hb1).al (.cells #[.slice A1 rows.length c1] 26)).tr hb2;have a7:=(a6.alloc (.cells #[.slice A1 rows.length c1] 26)).below hb2;go_wp2;refine bodyPost_ret (v:= .tuple #[.agg #[.slice A1 rows.length c1],.bool false]) (by simp[results,Uo,go_sem,q5]) rfl ⟨A1,c1,rfl,(a7.low (by simp) _).mono (by simp;omega),B2.st _ _ (by simp;omega)⟩
 . rw[hr,Bool.true_and]at hno;go_enter Um,Un
   go_wp2_with fail
   refine(xI _ rows _ h' hl).mono ?_;rintro e w1 ⟨A1,c1,rfl,a6,hb1⟩;obtain⟨hc1,bR,hz1⟩:=bk hb1;(try simp at hz1)
   have a8:w.heap.size<w1.heap.size:=(by omega);have bA:w.heap.size+1<w1.heap.size:=(by omega);have bB:w.heap.size+1+1<w1.heap.size:=(by omega);have hx1:=(hx.bl hb1).alloc (.cells #[.slice A1 rows.length c1] 26);have bJ:=Blk.aZ w1 26 #[.slice A1 rows.length c1];go_wp2_with fail
   refine(dZ _ rows _ ((h'.TW hb1).TW ((Below.refl _ _).al _))).mono ?_;rintro e w2 ⟨rfl,hb2⟩;obtain⟨hc2,hf2,hz2⟩:=bk hb2;(try simp at hz2)
   have bC:w.heap.size<w2.heap.size:=(by omega);have bD:w.heap.size+1<w2.heap.size:=(by omega);have bE:w.heap.size+1+1<w2.heap.size:=(by omega);have bF:w1.heap.size<w2.heap.size:=(by omega);rw[hr];go_wp2_with fail
   refine(iK x y _).mono ?_;rintro e w3 ⟨rfl,hb3⟩;obtain⟨hc3,hf3,hz3⟩:=bk hb3;(try simp at hz3)
   have bK:w.heap.size<w3.heap.size:=(by omega);have bL:w.heap.size+1<w3.heap.size:=(by omega);have bN:w.heap.size+1+1<w3.heap.size:=(by omega);have bO:w1.heap.size<w3.heap.size:=(by omega);rw[hno];have q1:=((bJ.bl hb2).bl hb3).c1;have q5:=(((hx1.bl hb2).bl hb3).set1 (.slice A1 rows.length c1)).c1;have B2:=(((hA.tr hb1).al (.cells #[.slice A1 rows.length c1] 26)).tr hb2).tr hb3;have a7:=((a6.alloc (.cells #[.slice A1 rows.length c1] 26)).below hb2).below hb3;go_wp2;refine bodyPost_ret (v:= .tuple #[.agg #[.slice A1 rows.length c1],.bool false]) (by simp[results,Uo,go_sem,q5]) rfl ⟨A1,c1,rfl,(a7.low (by simp) _).mono (by simp;omega),B2.st _ _ (by simp;omega)⟩
def Ed (w:World) (b:Nat):Nat:=match w.cell? ⟨b,0,none⟩with|some (.slice _ n _)=>n|_=>0
theorem Blk.len_ {w:World} {g:Nat} {t:TypeId} {A:Option Addr} {n c:Nat} (h:Blk w g t #[.slice A n c]):Ed w g=n:=by unfold Ed;rw[h.c1]
theorem FL (v:Value) (rows:List Int) (x y:Nat) (on:Bool) (w:World) (h:Rd 1 bG w v rows) (hl:Small rows.length) (hr:bQ rows=true) (cW:x<8) (eJ:y<8):
 Calls prog 222 #[.agg #[v],.agg #[.int .i64 x,.int .i64 y],.bool on] w (qV ((Ec rows).set y (nM (rows.getD y 0).toNat x on:Nat)) true w):=by
 obtain⟨A,c,rfl,hc,hm⟩:=h.form;have hA:=(((Below.refl w.heap.size w).al (.cells #[.slice A rows.length c] 26)).al (.cells #[.int .i64 x,.int .i64 y] 83)).al (.cells #[.slice none 0 0] 26);have h':=h.TW hA;have hx:=Blk.gZ ((w.alloc (.cells #[.slice A rows.length c] 26)).alloc (.cells #[.int .i64 x,.int .i64 y] 83)) 26 #[.slice none 0 0] (w.heap.size+1+1) (by simp);have hcb:=(Blk.gZ (w.alloc (.cells #[.slice A rows.length c] 26)) 83 #[.int .i64 x,.int .i64 y] (w.heap.size+1) (by simp)).alloc (.cells #[.slice none 0 0] 26);have hcell:bM ((x:Int),(y:Int))=true:=dB.2 ⟨⟨by omega,by omega⟩,by omega,by omega⟩;have bC:=TY (aN.1 hr);have h8:=bC.out.1;go_enter Um,Un
 go_wp2_with fail
 refine(xI _ rows _ h' hl).mono ?_;rintro e w1 ⟨A1,c1,rfl,a6,hb1⟩;obtain⟨hc1,eK,hz1⟩:=bk hb1;(try simp at hz1)
 have bU:w.heap.size<w1.heap.size:=(by omega);have bW:w.heap.size+1<w1.heap.size:=(by omega);have bX:w.heap.size+1+1<w1.heap.size:=(by omega);have hx1:=(hx.bl hb1).alloc (.cells #[.slice A1 rows.length c1] 26);have bY:=(hcb.bl hb1).alloc (.cells #[.slice A1 rows.length c1] 26);have cX:=Blk.aZ w1 26 #[.slice A1 rows.length c1];go_wp2_with fail
 refine(dZ _ rows _ ((h'.TW hb1).TW ((Below.refl _ _).al _))).mono ?_;rintro e w2 ⟨rfl,hb2⟩;obtain⟨hc2,hf2,hz2⟩:=bk hb2;(try simp at hz2)
 have b5:w.heap.size<w2.heap.size:=(by omega);have b6:w.heap.size+1<w2.heap.size:=(by omega);have b7:w.heap.size+1+1<w2.heap.size:=(by omega);have bD:w1.heap.size<w2.heap.size:=(by omega);rw[hr];go_wp2_with fail
 refine(iK x y _).mono ?_;rintro e w3 ⟨rfl,hb3⟩;obtain⟨hc3,hf3,hz3⟩:=bk hb3;(try simp at hz3)
 have b8:w.heap.size<w3.heap.size:=(by omega);have b9:w.heap.size+1<w3.heap.size:=(by omega);have cA:w.heap.size+1+1<w3.heap.size:=(by omega);have cB:w1.heap.size<w3.heap.size:=(by omega);rw[hcell];have hx3:=(hx1.bl hb2).bl hb3;have cC:=(bY.bl hb2).bl hb3;have cM:=(cX.bl hb2).bl hb3;have B3:=(((hA.tr hb1).al (.cells #[.slice A1 rows.length c1] 26)).tr hb2).tr hb3;have cD:=(((a6.alloc (.cells #[.slice A1 rows.length c1] 26)).below hb2).below hb3).mono (B':=w.heap.size+3) (by simp);obtain⟨bo,cN⟩:=TV w1.heap.size;rw[<-cN]at cM bD cB;have eL:w.heap.size+3<=bo:=(by omega);have q1:=cM.c1;rw[<-cN];clear hc1 eK hz1 hc2 hf2 hz2 hc3 hf3 hz3 hx hcb hx1 bY cX hb1 hb2 hb3 a6 hA cN bU bW bX b5 b6 b7 bD b8 b9 cA;go_wp2;go_loopw [20] (fun _ wr=>∃(j:Nat) (A':Option Addr) (c':Nat),rows.length+j<=8/\Blk wr bo 26 #[.slice A' (rows.length+j) c']/\aD 3 1 bH (w.heap.size+3) wr (.slice A' (rows.length+j) c') (rows++TZ j 0)/\Blk wr (w.heap.size+1+1) 26 #[.slice none 0 0]/\Blk wr (w.heap.size+1) 83 #[.int .i64 x,.int .i64 y]/\Below w.heap.size w wr) (fun _ wr=>8-Ed wr bo)
 case atStart=>exact⟨0,A1,c1,by omega,cM,by simpa using cD,hx3,cC,B3⟩
 case round=>
  obtain⟨j,A',c',hj,a7,hown,hbr,bR,bE⟩:=hrel;clear cM cD hx3 cC B3 q1;have q1:=a7.c1;have q2:=a7.frozen 0;have hz:=a7.lt;by_cases hlt:rows.length+j<8
  . have eM : ((rows.length : Int) + j) < 8 := by omega
    have hlen:(rows++TZ j (0:Int)).length=rows.length+j:=(by simp);have HB:Hid (w.heap.size+3<=wr.heap.size):=TY (by omega);have H8:Hid (((rows++TZ j (0:Int)).length+1)*8<=140737488355328):=TY (by rw[hlen];omega);have HM:Hid ((rows++TZ j (0:Int)).length+1<=maxLen):=TY (by rw[hlen];unfold maxLen;omega);have cP:=TY hlen;clear hlen;go_wp2_with (at_builtin;go_must (refine kW (enc:=bH) fE aJ jN (B:=w.heap.size+3) wr HB.out hown 0 rfl H8.out HM.out rfl _ _ rfl rfl rfl ?_);intro v1 w1 a6 hg1 cY;rw[cP.out]at cY;obtain⟨A1,c1,rfl⟩:=cY;have a8:=a7.grown hg1 (fun e=>(hown.apart a7 (by decide)) e.symm);have q3:=a8.c1;have q4:=a8.frozen 0)
    have cE:=a8.set1 (.slice A1 (rows.length+j+1) c1);have cQ:=(hbr.grown hg1 (fun e=>(hown.apart hbr (by decide)) e.symm)).far (p:=⟨bo,0,none⟩) (by simp;omega) (.slice A1 (rows.length+j+1) c1);have cR:=(bR.grown hg1 (fun e=>(hown.apart bR (by decide)) e.symm)).far (p:=⟨bo,0,none⟩) (by simp;omega) (.slice A1 (rows.length+j+1) c1);have cF:=a6.far (a:=⟨bo,0,none⟩) (a6.apart a8 (by decide)) (.slice A1 (rows.length+j+1) c1);rw[List.append_assoc,show TZ j (0:Int)++[0]=TZ (j+1) 0 by rw[List.replicate_succ']]at cF;have B2:=(Below.app bE hown (by omega) hg1).st ⟨bo,0,none⟩ (.slice A1 (rows.length+j+1) c1) (by simp;omega);have e1:=a7.len_;have e2:=cE.len_;go_roundw
    case rel=>exact⟨j+1,A1,c1,by omega,cE,cF,cQ,cR,B2⟩
    case measure=>rw[e1,e2];omega
  . obtain rfl : j = 8 - rows.length := by omega
    have dL:rows.length+(8-rows.length)=8:=(by omega);rw[dL]at hown a7 q1;change aD _ _ _ _ _ _ (Ec rows)at hown;have hpl:(Ec rows).length=8:=wR h8;obtain⟨r,cS⟩:∃r:Nat,r=(rows.getD y 0).toNat:=⟨_,rfl⟩;have hgr:=getD_in bC.out y;have cG:r<256:=by omega
    have dT : (Ec rows)[y]'(by omega) = (r : Int) := by
     have:=Gj rows y;rw[T9,Ub (by omega),Uj]at this;rw[this];omega
    obtain⟨g,rfl,eP,eR⟩:=hown.split (k:=y) (by omega);have s1:=hown.slot aJ Nat.one_pos (k:=y) (by omega) 0 (.int .i64 r) (by rw[dT];rfl);have s2:=hown.free y;rw[Nat.mul_one,Nat.add_zero]at s1;have z0:=bR.cell 0;have z1:=bR.cell 1;have hgo:g≠bo:=fun e=>(hown.apart a7 (by decide)) (by rw[e];rfl)
    have c1:=hbr.c1;have c2:=hbr.frozen 0;have eA:=hbr.lt;have eW:(y:Int)<8:=(by omega);rw[<-cS];have hx2:(2:Int)^x=((2^x:Nat):Int):=(by simp);have eC:2^x<256:=Nat.lt_of_lt_of_le (Nat.pow_lt_pow_right (by decide) cW) (by decide)
    have e1:bits .or .i64 (r:Int) (IntKind.i64.wrap (2^x))=((r|||2^x:Nat):Int):=by
     rw[hx2];generalize 2^x=q at eC⊢;rw[Ul _ (by omega)];exact yO r q (by omega) (by omega)
    have hle:2^x<=r|||2^x:=Nat.right_le_or;have eN:r|||2^x<256:=(Eb r cG x cW).1
    have e2:IntKind.i64.wrap (((r|||2^x:Nat):Int)-IntKind.i64.wrap (2^x))=(((r|||2^x)-2^x:Nat):Int):=by
     rw[hx2];generalize r|||2^x=m at hle eN⊢;generalize 2^x=q at eC hle⊢;rw[Ul (q:Int) (by omega),Ul _ (by omega)];omega
    have E2:=TY e2;clear e2;have eE:=TY cS;have cT:=TY hpl;clear cS dT hpl hx2 dL hgr;simp only[Ue,Uf,Ug]at z0 z1;have eI:y<(Ec rows).length:=by rw[cT.out];exact eJ
    have bF:=a7.far (p:=⟨g,y,none⟩) (fun e=>hgo e.symm) (.int .i64 ((r|||2^x:Nat):Int));have bJ:=hbr.far (p:=⟨g,y,none⟩) (by simp;omega) (.int .i64 ((r|||2^x:Nat):Int));have cH:=bR.far (p:=⟨g,y,none⟩) (by simp;omega) (.int .i64 ((r|||2^x:Nat):Int));have bK:=hown.iZ aJ (y:=((r|||2^x:Nat):Int)) eI rfl;have B4:=bE.st ⟨g,y,none⟩ (.int .i64 ((r|||2^x:Nat):Int)) (by simp;omega);have HT:Hid (nM (rows.getD y 0).toNat x true=r|||2^x):=TY (by rw[<-eE.out];rfl);have HF:Hid (nM (rows.getD y 0).toNat x false=(r|||2^x)-2^x):=TY (by rw[<-eE.out];rfl);cases on
    . go_wp2_with fail
      go_still_tail 15,(by kernel_rfl)
      change wpList _ _ _ _ _ wr.drew;clear e1;go_wp2_with fail
      obtain⟨W4,bL⟩:∃W4:World,W4=(wr.setCell ⟨g,y,none⟩ (.int .i64 ((r|||2^x:Nat):Int))).drew:=⟨_,rfl⟩;rw[<-bL];have bA:Blk W4 bo 26 #[.slice (some ⟨g,0,none⟩) 8 c']:=by rw[bL];exact bF
      have bB:Blk W4 (w.heap.size+1+1) 26 #[.slice none 0 0]:=by rw[bL];exact bJ
      have cI:Blk W4 (w.heap.size+1) 83 #[.int .i64 x,.int .i64 y]:=by rw[bL];exact cH
      have bN:aD 3 1 bH (w.heap.size+3) W4 (.slice (some ⟨g,0,none⟩) 8 c') ((Ec rows).set y ((r|||2^x:Nat):Int)):=by
       rw[bL];exact bK.drewN 1
      have B5:Below w.heap.size w W4:=by rw[bL];exact B4.drew
      clear a7 hbr bR hown bE bF bJ cH bK B4 s1 s2 q1 q2 hz z0 z1 c1 c2 eA bL;have q1:=bA.c1;have q2:=bA.frozen 0;have hz:=bA.lt;have c1:=bB.c1;have c2:=bB.frozen 0;have eA:=bB.lt;have z0:=cI.cell 0;have z1:=cI.cell 1;simp only[Ue,Uf,Ug]at z0 z1;have bO:y<((Ec rows).set y ((r|||2^x:Nat):Int)).length:=by rw[Ud];exact eI
      have s1:=bN.slot aJ Nat.one_pos (k:=y) bO 0 (.int .i64 ((r|||2^x:Nat):Int)) (by rw[List.getElem_set_self];rfl);have s2:=bN.free y;rw[Nat.mul_one,Nat.add_zero]at s1;have cJ:=bN.iZ aJ (y:=(((r|||2^x)-2^x:Nat):Int)) bO rfl;rw[List.set_set]at cJ;have cU:=bB.far (p:=⟨g,y,none⟩) (by simp;omega) (.int .i64 (((r|||2^x)-2^x:Nat):Int));have cV:=bA.far (p:=⟨g,y,none⟩) (fun e=>hgo e.symm) (.int .i64 (((r|||2^x)-2^x:Nat):Int));have B6:=B5.st ⟨g,y,none⟩ (.int .i64 (((r|||2^x)-2^x:Nat):Int)) (by simp;omega);have q5:=(cU.set1 (.slice (some ⟨g,0,none⟩) 8 c')).c1;have q6:=cV.c1;have e2:=E2.out;have cK:((Ec rows).set y (nM (rows.getD y 0).toNat x false:Nat)).length=8:=by rw[Ud];exact cT.out
      have cL:=TY cK;clear cK bO;go_still_tail 15,(by kernel_rfl)
      change wpList _ _ _ _ _ W4.drew;go_wp2;refine bodyPost_ret (v:= .tuple #[.agg #[.slice (some ⟨g,0,none⟩) 8 c'],.bool true]) (by simp[results,Uo,go_sem,q5]) rfl ⟨some ⟨g,0,none⟩,c',by rw[cL.out],?_,(B6.drew.st ⟨w.heap.size+1+1,0,none⟩ _ (by simp;omega))⟩;rw[cL.out,HF.out];exact((cJ.low (p:=⟨w.heap.size+1+1,0,none⟩) (by simp) _).mono (by omega)).drewN 1
    . have q5:=(bJ.set1 (.slice (some ⟨g,0,none⟩) 8 c')).c1;have q6:=bF.c1;have cK:((Ec rows).set y (nM (rows.getD y 0).toNat x true:Nat)).length=8:=by rw[Ud];exact cT.out
      have cL:=TY cK;clear cK;go_wp2_with fail
      go_still_tail 15,(by kernel_rfl)
      change wpList _ _ _ _ _ wr.drew;go_wp2;refine bodyPost_ret (v:= .tuple #[.agg #[.slice (some ⟨g,0,none⟩) 8 c'],.bool true]) (by simp[results,Uo,go_sem,q5]) rfl ⟨some ⟨g,0,none⟩,c',by rw[cL.out],?_,(B4.drew.st ⟨w.heap.size+1+1,0,none⟩ _ (by simp;omega))⟩;rw[cL.out,HT.out];exact((bK.low (p:=⟨w.heap.size+1+1,0,none⟩) (by simp) _).mono (by omega)).drewN 1
theorem kJ (v:Value) (rows:List Int) (x y:Int) (on:Bool) (w:World) (h:Rd 1 bG w v rows) (hl:Small rows.length):
 Calls prog 222 #[.agg #[v],.agg #[.int .i64 x,.int .i64 y],.bool on] w (qV (mK rows (x,y) on).1 (mK rows (x,y) on).2 w):=by
 by_cases hb:(bQ rows&&bM (x,y))=true
 . have hb':=hb;rw[Bool.and_eq_true]at hb';have hc:=dB.1 hb'.2;simp only at hc;obtain⟨a,rfl⟩:=Int.eq_ofNat_of_zero_le hc.1.1;obtain⟨b,rfl⟩:=Int.eq_ofNat_of_zero_le hc.2.1;have ha:a<8:=(by omega);have a6:b<8:=(by omega);have e:=FL v rows a b on w h hl hb'.1 ha a6;rw[O6 (aN.1 hb'.1) ha a6 on]at e;have hi:(dJ ((a:Int),(b:Int))).toNat=8*b+a:=by rw[(dO hb'.2).1];simp only;omega
   have hw:mK rows ((a:Int),(b:Int)) on=(rowsOf (nL (setOf rows) (8*b+a) on) 8,true):=by unfold mK;rw[if_pos hb,hi]
   rw[hw];exact e
 . have hw : mK rows (x, y) on = (rows, false) := by unfold mK; rw [if_neg hb]
   rw[hw];exact Il v rows x y on w h hl (by simpa using hb)
theorem Ee (n:Int):bits .and .i64 n 255=n%256:=by
 have a6:(BitVec.ofInt 64 255).toNat=2^8-1:=by decide
 have key:(BitVec.ofInt 64 n&&&BitVec.ofInt 64 255).toNat=(n%((2^64:Nat):Int)).toNat%2^8:=by
  rw[BitVec.toNat_and,BitVec.toNat_ofInt,a6,Nat.and_two_pow_sub_one_eq_mod]
 show IntKind.i64.wrap ((BitVec.ofInt 64 n&&&BitVec.ofInt 64 255).toNat:Nat)=n%256;rw[key,Uk];omega
theorem NG (n:Int):bits .and .i64 n 1073741823=n%1073741824:=by
 have a6:(BitVec.ofInt 64 1073741823).toNat=2^30-1:=by decide
 have key:(BitVec.ofInt 64 n&&&BitVec.ofInt 64 1073741823).toNat=(n%((2^64:Nat):Int)).toNat%2^30:=by
  rw[BitVec.toNat_and,BitVec.toNat_ofInt,a6,Nat.and_two_pow_sub_one_eq_mod]
 show IntKind.i64.wrap ((BitVec.ofInt 64 n&&&BitVec.ofInt 64 1073741823).toNat:Nat)=n%1073741824;rw[key,Uk];omega
theorem Blk.st {w:World} {g:Nat} {t:TypeId} {cs:Array Value} (h:Blk w g t cs) (i:Nat) (u:Value) (ds:Array Value) (e:cs.setIfInBounds i u=ds):Blk (w.setCell ⟨g,i,none⟩ u) g t ds:=e▸h.Dq i u
theorem nN (w:World) {E:TypeId} {α:Type} {size:Nat} {enc:α->List Value} {B:Nat}:aD E size enc B w (.slice none 0 0) ([]:List α):=⟨by simp,.inl ⟨rfl,rfl⟩⟩
theorem fI (w:World) {E:TypeId} {α:Type} {size:Nat} {enc:α->List Value} (g:Nat) (hg:g=w.heap.size) (B:Nat) (hB:B<=w.heap.size):aD E size enc B (w.alloc (.cells #[] E)) (.slice (some ⟨g,0,none⟩) 0 0) ([]:List α):=by
 subst hg;have:=World.ownsRow_lit (e:=E) (size:=size) w #[] 0 (Ui _) (by simp[maxLen]) (by simp);exact aD.mono (B':=B) this hB
def Cur (w:World) (g:Nat) (v:Value) (n:Nat):Prop:=∃(i:Nat) (h:Int),i<=n/\Blk w g 68 #[v,.int .i64 i,.int .i64 h]
def OG (W:World) (g:Nat) (v:Value) (n:Nat) (P:Int->Prop) (w:World) (e:Ending) (w':World):Prop:=∃x,e= .returned (.int .i64 x)/\P x/\Cur w' g v n/\Below W.heap.size W w'/\w.grownBy w' (some g)
def SL (v:Value) (n:Nat) (w:World) (e:Ending) (w':World):Prop:=∃g,e= .returned (.pointer (some ⟨g,0,none⟩))/\w.heap.size<=g/\Cur w' g v n/\Below w.heap.size w w'
def dQ (n x:Int):Prop:=(n<=0/\x=0)∨(0<=x/\x<n)
def SN (x:Int):Prop:=0<=x/\x<=255
theorem MI (v : Value) (l : List Int) (w : World) (h : Rd 1 nG w v l) (ok : nR (fun x => 0 <= x /\ x <= 255) l) (hl : l.length <= 1048576) :
 Calls prog 18 #[v] w (SL v l.length w):=by
 obtain⟨A,c,rfl,hc,hm⟩:=h.form;have a7:=TY ok;clear ok;go_enter Tryz.func18,Tryz.ntmps18
 go_wp2;go_loop [3,4] (fun q i=>∃(k:Nat) (x:Int),k<=l.length/\i= .int .i64 k/\q= .int .i64 x/\0<=x/\x<=1073741823) (fun _ i=>l.length-(intOf i).toNat)
 case atStart=>exact⟨0,_,Uh _,rfl,rfl,by omega,by omega⟩
 case round=>
  obtain⟨k,x,hk,rfl,rfl,hx1,hx2⟩:=hrel;by_cases hlt:k<l.length
  . by_cases h4:k<4000
    . have a8 : (k : Int) < 4000 := by omega
      obtain⟨b,off,rfl,hb,h1⟩:=h.QA hlt;have a6:=a7.out l[k] (Uc hlt);have bA:=a6.1;have bB:=a6.2;clear a6;obtain⟨y,hy⟩:=TV (l[k]);rw[<-hy]at h1 bA bB;have Hy:=TY hy;clear hy;have e1:=NG (x*131+y+7);go_wp2;go_round
      case rel=>exact⟨k+1,(x*131+y+7)%1073741824,by omega,by go_num,rfl,by omega,by omega⟩
      case measure=>simp[intOf];omega
    . have a8 : ¬ (k : Int) < 4000 := by omega
      go_wp2;go_ret;exact⟨w.heap.size,rfl,Ui _,⟨0,x,Uh _,Blk.aZ _ _ _⟩,(Below.refl _ _).al _⟩
  . go_wp2;go_ret;exact⟨w.heap.size,rfl,Ui _,⟨0,x,Uh _,Blk.aZ _ _ _⟩,(Below.refl _ _).al _⟩
theorem wV {w w':World} {r:Option Nat} (h:w.grownBy w' r) (n:Nat):w.grownBy (w'.drewN n) r:=
 ⟨h.os,h.tape,h.output,h.size,h.block⟩
theorem wW (W : World) (g : Nat) (v : Value) (l : List Int) (w : World) (h : Rd 1 nG W v l) (bD : Hid (nR (fun x => 0 <= x /\ x <= 255) l)) (hg : W.heap.size <= g) (a8 : Below W.heap.size W w) (bA : Cur w g v l.length) :
 Calls prog 81 #[.pointer (some ⟨g,0,none⟩)] w (OG W g v l.length SN w):=by
 obtain⟨A,c,rfl,hc,hm⟩:=h.form;obtain⟨i,hh,hi,hblk⟩:=bA;have q0:=hblk.cell 0;have q1:=hblk.cell 1;have q2:=hblk.cell 2;have qf:=hblk.frozen;simp only[Ue,Uf,Ug]at q0 q1 q2;go_enter Tryz.func81,Tryz.ntmps81
 go_wp2_with fail
 obtain⟨H,hH⟩:=TV (wrap64 (wrap64 (hh*6364136223846793005)+1442695040888963407));rw[<-hH];obtain⟨W1,hW1⟩:=TV (w.setCell ⟨g,2,none⟩ (.int .i64 H));rw[<-hW1];have a6:Blk W1 g 68 #[.slice A l.length c,.int .i64 i,.int .i64 H]:=by rw[hW1];exact hblk.Dq 2 _
 have bC:w.grownBy W1 (some g):=by rw[hW1];exact dA (World.grownBy.refl _ _) _ _
 have B1:Below W.heap.size W W1:=by rw[hW1];exact a8.st _ _ hg
 clear hH hW1 q0 q1 q2 qf hblk;have q0:=a6.cell 0;have q1:=a6.cell 1;have q2:=a6.cell 2;have qf:=a6.frozen;simp only[Ue,Uf,Ug]at q0 q1 q2;go_quiet (fail)
 go_wp2_with fail
 rw[Ee];obtain⟨x,hx⟩:=TV (bits .xor .i64 (H/8589934592) (H/35184372088832)%256);have hx0:0<=x:=(by omega);have hx1:x<=255:=(by omega);rw[<-hx];clear hx;by_cases hlt:i<l.length
 . have bB : (i : Int) < l.length := by omega
   obtain⟨b,off,rfl,hb,h1⟩:=(h.TW B1).QA hlt;have a7:=bD.out l[i] (Uc hlt);have bE:=a7.1;have bF:=a7.2;clear a7;obtain⟨y,hy⟩:=TV (l[i]);rw[<-hy]at h1 bE bF;have Hy:=TY hy;clear hy;have e1:IntKind.i64.wrap (x+y)=x+y:=Ul _ (by omega);have e2:=Ee (x+y);go_quiet (fail)
   go_wp2_with fail
   go_quiet (fail)
   clear e1 e2;go_wp2;go_ret;exact⟨(x+y)%256,rfl,⟨by omega,by omega⟩,⟨i+1,H,hlt,(a6.drewN _).st 1 _ _ (by simp)⟩,((below_drewN B1 _).st _ _ hg),dA (wV bC _) _ _⟩
 . have bB : ¬ (i : Int) < l.length := by omega
   go_quiet (fail)
   go_wp2;go_ret;exact⟨x,rfl,⟨hx0,hx1⟩,⟨i,H,hi,a6.drewN _⟩,below_drewN B1 _,wV bC _⟩
theorem OG.split {W:World} {g:Nat} {v:Value} {n:Nat} {P:Int->Prop} {w:World} {e:Ending} {w':World} (h:OG W g v n P w e w'):∃x,e= .returned (.int .i64 x)/\P x/\Cur w' g v n/\Below W.heap.size W w'/\w.grownBy w' (some g):=h
theorem wY {w w1 w2:World} {r:Option Nat} (h:w.grownBy w1 r) (k:w1.grownBy w2 r):w.grownBy w2 r:=
 ⟨k.os.trans h.os,k.tape.trans h.tape,k.output.trans h.output,Nat.le_trans h.size k.size,fun b hb hne=>(k.block b (Nat.lt_of_lt_of_le hb h.size) hne).trans (h.block b hb hne)⟩
theorem aQ (n : Int) (W : World) (g : Nat) (v : Value) (l : List Int) (w : World) (h : Rd 1 nG W v l) (a8 : Hid (nR (fun x => 0 <= x /\ x <= 255) l)) (hg : W.heap.size <= g) (a7 : Below W.heap.size W w) (bA : Cur w g v l.length) (hn : n <= 9223372036854775807) :
 Calls prog 42 #[.pointer (some ⟨g,0,none⟩),.int .i64 n] w (OG W g v l.length (dQ n) w):=by
 have hcw:=bA;obtain⟨i,hh,hi,hblk⟩:=bA;by_cases h0:n<=0
 . go_enter func42,Uq
   go_wp2;go_ret;exact⟨0,rfl,.inl ⟨h0,rfl⟩,hcw,a7,World.grownBy.refl _ _⟩
 . by_cases h2:n<=256
   . go_enter func42,Uq
     go_wp2_with fail
     refine(wW W g v l _ h a8 hg a7 hcw).mono ?_;rintro e w1 ⟨x,rfl,⟨hx0,hx1⟩,a6,hb1,hg1⟩;go_wp2;go_ret;exact⟨x%n,rfl,.inr ⟨Int.emod_nonneg _ (by omega),Int.emod_lt_of_pos _ (by omega)⟩,a6,hb1,hg1⟩
   . go_enter func42,Uq
     go_wp2_with fail
     refine(wW W g v l _ h a8 hg a7 hcw).mono ?_;rintro e w1 ⟨x,rfl,⟨hx0,hx1⟩,a6,hb1,hg1⟩;go_wp2_with fail
     refine(wW W g v l _ h a8 hg hb1 a6).mono ?_;rintro e w2 ⟨y,rfl,⟨bE,bF⟩,bB,hb2,hg2⟩;go_wp2_with fail
     refine(wW W g v l _ h a8 hg hb2 bB).mono ?_;rintro e w3 ⟨z,rfl,⟨hz0,hz1⟩,bC,hb3,hg3⟩;go_wp2_with fail
     refine(wW W g v l _ h a8 hg hb3 bC).mono ?_;rintro e w4 ⟨t,rfl,⟨bJ,bK⟩,bD,hb4,hg4⟩;go_wp2;go_ret;exact⟨(x*16777216+y*65536+z*256+t)%n,rfl,.inr ⟨Int.emod_nonneg _ (by omega),Int.emod_lt_of_pos _ (by omega)⟩,bD,hb4,wY (wY (wY hg1 hg2) hg3) hg4⟩
section
variable {α : Type} {E : TypeId} {size : Nat} {enc : α -> List Value} {B : Nat} {w w' : World} {v : Value} {l : List α} {g : Nat} {u : Value} {n : Nat}
theorem aD.cur (h:aD E size enc B w v l) (hc:Cur w g u n) (hne:E≠68) (hg:w.grownBy w' (some g)):aD E size enc B w' v l:=by
 obtain⟨i,x,_,hb⟩:=hc;exact World.ownsRow.kept h hg (.inr (h.apart hb hne))
theorem Cur.app {row:Option Nat} (hc:Cur w g u n) (o:Obj) (hg:(w.alloc o).grownBy w' row) (hne:row≠some g):Cur w' g u n:=by
 obtain⟨i,x,hi,hb⟩:=hc;exact⟨i,x,hi,(hb.alloc o).grown hg (fun e=>hne e.symm)⟩
theorem Cur.apart (h:aD E size enc B w v l) (hc:Cur w g u n) (hne:E≠68):v.ownBlock≠some g:=by
 obtain⟨i,x,_,hb⟩:=hc;exact h.apart hb hne
theorem Cur.bl (hc:Cur w g u n) (hb:Below w.heap.size w w'):Cur w' g u n:=by
 obtain⟨i,x,hi,hk⟩:=hc;exact⟨i,x,hi,hk.below hb hk.lt⟩
theorem Cur.alloc (hc:Cur w g u n) (o:Obj):Cur (w.alloc o) g u n:=by
 obtain⟨i,x,hi,hk⟩:=hc;exact⟨i,x,hi,hk.alloc o⟩
theorem Cur.drewN (hc:Cur w g u n) (k:Nat):Cur (w.drewN k) g u n:=by
 obtain⟨i,x,hi,hk⟩:=hc;exact⟨i,x,hi,hk.drewN k⟩
end
def lV (x:Int×Int):Prop:=1<=x.1/\x.1<=12/\x.1+1<=x.2/\x.2<=x.1+9
theorem lV.fine {x:Int×Int} (h:lV x):fM x:=by unfold lV at h;unfold fM;omega
def aP (w h:Nat):List Int:=TZ h ((2:Int)^w-1)
theorem xU (w k:Nat):aP w (k+1)=aP w k++[(2:Int)^w-1]:=by unfold aP;rw[List.replicate_succ']
theorem C9 {w:Nat} (hw:w<=8):1<=(2:Int)^w/\(2:Int)^w<=256:=by
 have h1:2^w<=2^8:=Nat.pow_le_pow_right (by decide) hw;have h2:=Nat.pow_pos (n:=w) (show 0<2 by decide);have e:(2:Int)^w=((2^w:Nat):Int):=(by simp);rw[e];omega
theorem NH (a b:Nat) (w:World) (ha:1<=a/\a<=8) (hb:1<=b/\b<=8):Calls prog 29 #[.int .i64 a,.int .i64 b] w (C8 (aP a b) w):=by
 have h1:inB (a:Int) 1 8=true:=by simp[inB];omega
 have h2:inB (b:Int) 1 8=true:=by simp[inB];omega
 have hp:=C9 ha.2;obtain⟨P,hP⟩:=TV ((2:Int)^a);rw[<-hP]at hp;have e1:IntKind.i64.wrap ((2:Int)^a)=P:=by rw[<-hP];exact Ul _ (by omega)
 have e2:IntKind.i64.wrap (P-1)=P-1:=Ul _ (by omega);have H1:=TY h1;have H2:=TY h2;have HP:=TY hP;have E1:=TY e1;have E2:=TY e2;clear h1 h2 hP e1 e2;go_enter Tryz.func29,Tryz.ntmps29
 go_wp2_with fail
 refine(dI _ _ _ _).mono ?_;rintro e w1 ⟨rfl,rfl⟩;rw[H1.out];go_wp2_with fail
 refine(dI _ _ _ _).mono ?_;rintro e w1 ⟨rfl,rfl⟩;rw[H2.out];go_wp2;go_loopw [17] (fun i wr=>∃(k:Nat) (A:Option Addr) (c:Nat),k<=b/\i= .int .i64 k/\Blk wr (w.heap.size+1) 26 #[.slice A k c]/\Blk wr w.heap.size 26 #[.slice none 0 0]/\aD 3 1 bH (w.heap.size+1+1) wr (.slice A k c) (aP a k)/\Below w.heap.size w wr) (fun i _=>b-(intOf i).toNat)
 case atStart=>
  refine⟨0,none,0,Uh _,rfl,?_,?_,?_,((Below.refl _ _).al _).al _⟩
  . have:=Blk.aZ (w.alloc (.cells #[.slice none 0 0] 26)) 26 #[.slice none 0 0];simpa using this
  . exact(Blk.aZ w 26 #[.slice none 0 0]).alloc _
  . exact nN _
 case round=>
  obtain⟨k,A,c,hk,rfl,a8,hbr,hown,bA⟩:=hrel;have q1:=a8.c1;have q2:=a8.frozen 0;have hz:=a8.lt;by_cases hlt:k<b
  . have hne := hown.apart a8 (by decide);have hlen:(aP a k).length=k:=(by simp[aP]);have HB:Hid (w.heap.size+1+1<=wr.drew.heap.size):=TY (show w.heap.size+1+1<=wr.heap.size by omega);have H8:Hid (((aP a k).length+1)*8<=140737488355328):=TY (by rw[hlen];omega);have HM:Hid ((aP a k).length+1<=maxLen):=TY (by rw[hlen];unfold maxLen;omega);have bD:=TY hlen;clear hlen;have e1:=E1.out;have e2:=E2.out;go_wp2_with fail
    go_region_law (go_must (refine Gg (enc:=bH) fE aJ jN (B:=w.heap.size+1+1) wr.drew HB.out hown (P-1) rfl H8.out HM.out rfl _ _ rfl rfl rfl ?_);intro v1 w1 bB hg1 bL;rw[bD.out]at bL;obtain⟨A1,c1,rfl⟩:=bL;have a6:=Blk.grown (w:=wr.drew) a8 hg1 (fun e=>hne e.symm);have q3:=a6.c1;have q4:=a6.frozen 0;have hz1:=a6.lt)
    all_goals
      have bC:=Blk.grown (w:=wr.drew) hbr hg1 (fun e=>(hown.apart hbr (by decide)) e.symm);have B1:=Below.app bA.drew (w:=wr.drew) hown (by omega) hg1;have a7:aD 3 1 bH (w.heap.size+1+1) w1 (.slice A1 (k+1) c1) (aP a (k+1)):=by rw[xU,<-HP.out];exact bB
      have bE:=a7.far (a:=⟨w.heap.size+1,0,none⟩) (a7.apart a6 (by decide)) (.slice A1 (k+1) c1);have bF:=a6.Dq 0 (.slice A1 (k+1) c1);have bJ:=bC.far (p:=⟨w.heap.size+1,0,none⟩) (by simp) (.slice A1 (k+1) c1);have B2:=B1.st ⟨w.heap.size+1,0,none⟩ (.slice A1 (k+1) c1) (by simp);clear bB a7 a8 a6 hbr bC q1 q2 q3 q4 B1 hg1 hown e1 e2;go_wp2;go_roundw
      case rel=>exact⟨k+1,A1,c1,by omega,by go_num,bF,bJ,bE,B2⟩
      case measure=>simp[intOf];omega
  . have q3:=hbr.c1;have q4:=hbr.frozen 0;have hz2:=hbr.lt;obtain rfl:k=b:=by omega
    have bK:Blk (wr.setCell ⟨w.heap.size,0,none⟩ (.slice A k c)) w.heap.size 26 #[.slice A k c]:=hbr.Dq 0 _;have q5:=bK.c1;have hlen:(aP a k).length=k:=(by simp[aP]);go_wp2;refine bodyPost_ret (v:= .agg #[.slice A k c]) (by simp[results,Tryz.results29,go_sem,q5]) rfl ⟨A,c,by rw[hlen],?_,?_⟩
    . rw[hlen];exact(hown.low (p:=⟨w.heap.size,0,none⟩) (by simp;omega) _).mono (by omega)
    . exact bA.st _ _ (Ui _)
theorem xJ (a b:Nat) (w:World) (ha:1<=a/\a<=8) (hb:1<=b/\b<=8):Calls prog 72 #[.int .i64 a,.int .i64 b] w (C8 (aP a b) w):=by
 have h1:inB (a:Int) 1 8=true:=by simp[inB];omega
 have h2:inB (b:Int) 1 8=true:=by simp[inB];omega
 have hp:=C9 ha.2;obtain⟨P,hP⟩:=TV ((2:Int)^a);rw[<-hP]at hp;have e1:IntKind.i64.wrap ((2:Int)^a)=P:=by rw[<-hP];exact Ul _ (by omega)
 have e2:IntKind.i64.wrap (P-1)=P-1:=Ul _ (by omega);have H1:=TY h1;have H2:=TY h2;have HP:=TY hP;have E1:=TY e1;have E2:=TY e2;clear h1 h2 hP e1 e2;go_enter Tryz.func72,Tryz.ntmps72
 go_wp2;go_loopw [6] (fun i wr=>∃(k:Nat) (A:Option Addr) (c:Nat),k<=b/\i= .int .i64 k/\Blk wr (w.heap.size+1) 26 #[.slice A k c]/\Blk wr w.heap.size 26 #[.slice none 0 0]/\aD 3 1 bH (w.heap.size+1+1) wr (.slice A k c) (aP a k)/\Below w.heap.size w wr) (fun i _=>b-(intOf i).toNat)
 case atStart=>
  refine⟨0,none,0,Uh _,rfl,?_,?_,?_,?_⟩
  . have:=Blk.aZ (w.alloc (.cells #[.slice none 0 0] 26)) 26 #[.slice none 0 0];simpa using this
  . exact(Blk.aZ w 26 #[.slice none 0 0]).alloc _
  . exact nN _
  . exact((Below.refl _ _).al _).al _
 case round=>
  obtain⟨k,A,c,hk,rfl,a8,hbr,hown,bA⟩:=hrel;have q1:=a8.c1;have q2:=a8.frozen 0;have hz:=a8.lt;by_cases hlt:k<b
  . have hne := hown.apart a8 (by decide);have hlen:(aP a k).length=k:=(by simp[aP]);have HB:Hid (w.heap.size+1+1<=wr.drew.heap.size):=TY (show w.heap.size+1+1<=wr.heap.size by omega);have H8:Hid (((aP a k).length+1)*8<=140737488355328):=TY (by rw[hlen];omega);have HM:Hid ((aP a k).length+1<=maxLen):=TY (by rw[hlen];unfold maxLen;omega);have bD:=TY hlen;clear hlen;go_wp2_with fail
    refine(iY _ _ _ _).mono ?_;rintro e w5 ⟨rfl,rfl⟩;rw[H1.out];go_wp2_with fail
    refine(iY _ _ _ _).mono ?_;rintro e w5 ⟨rfl,rfl⟩;rw[H2.out];have e1:=E1.out;have e2:=E2.out;go_wp2_with fail
    go_region_law (go_must (refine Gg (enc:=bH) fE aJ jN (B:=w.heap.size+1+1) wr.drew HB.out hown (P-1) rfl H8.out HM.out rfl _ _ rfl rfl rfl ?_);intro v1 w1 bB hg1 bL;rw[bD.out]at bL;obtain⟨A1,c1,rfl⟩:=bL;have a6:=Blk.grown (w:=wr.drew) a8 hg1 (fun e=>hne e.symm);have q3:=a6.c1;have q4:=a6.frozen 0;have hz1:=a6.lt)
    all_goals
      have bC:=Blk.grown (w:=wr.drew) hbr hg1 (fun e=>(hown.apart hbr (by decide)) e.symm);have B1:=Below.app bA.drew (w:=wr.drew) hown (by omega) hg1;have a7:aD 3 1 bH (w.heap.size+1+1) w1 (.slice A1 (k+1) c1) (aP a (k+1)):=by rw[xU,<-HP.out];exact bB
      have bE:=a7.far (a:=⟨w.heap.size+1,0,none⟩) (a7.apart a6 (by decide)) (.slice A1 (k+1) c1);have bF:=a6.Dq 0 (.slice A1 (k+1) c1);have bJ:=bC.far (p:=⟨w.heap.size+1,0,none⟩) (by simp) (.slice A1 (k+1) c1);have B2:=B1.st ⟨w.heap.size+1,0,none⟩ (.slice A1 (k+1) c1) (by simp);clear bB a7 a8 a6 hbr bC q1 q2 q3 q4 B1 hg1 hown e1 e2;go_wp2;go_roundw
      case rel=>exact⟨k+1,A1,c1,by omega,by go_num,bF,bJ,bE,B2⟩
      case measure=>simp[intOf];omega
  . have q3:=hbr.c1;have q4:=hbr.frozen 0;have hz2:=hbr.lt;obtain rfl:k=b:=by omega
    have bK:Blk (wr.setCell ⟨w.heap.size,0,none⟩ (.slice A k c)) w.heap.size 26 #[.slice A k c]:=hbr.Dq 0 _;have q5:=bK.c1;have hlen:(aP a k).length=k:=(by simp[aP]);go_wp2;refine bodyPost_ret (v:= .agg #[.slice A k c]) (by simp[results,Tryz.results72,go_sem,q5]) rfl ⟨A,c,by rw[hlen],?_,?_⟩
    . rw[hlen];exact(hown.low (p:=⟨w.heap.size,0,none⟩) (by simp;omega) _).mono (by omega)
    . exact bA.st _ _ (Ui _)
theorem vY (i:Nat) (w:World) (hi:i<64):Calls prog 132 #[.int .i64 i] w (Ret (.tuple #[.agg #[.int .i64 ((i:Int)%8),.int .i64 ((i:Int)/8)],.bool true]) w):=by
 have h1:inB (i:Int) 0 63=true:=by simp[inB];omega
 go_enter Tryz.func132,Tryz.ntmps132
 go_wp2_with fail
 refine(iY _ _ _ _).mono ?_;rintro e w5 ⟨rfl,rfl⟩;rw[h1];go_wp2;refine bodyPost_ret (v:= .tuple #[.agg #[.int .i64 ((i:Int)%8),.int .i64 ((i:Int)/8)],.bool true]) (by simp[results,Tryz.results132,go_sem]) rfl ⟨rfl,?_⟩;exact((Below.refl _ _).al _)
theorem Ap (n:Int):bits .and .i64 n 1=n%2:=by
 have a6:(BitVec.ofInt 64 1).toNat=2^1-1:=by decide
 have key:(BitVec.ofInt 64 n&&&BitVec.ofInt 64 1).toNat=(n%((2^64:Nat):Int)).toNat%2^1:=by
  rw[BitVec.toNat_and,BitVec.toNat_ofInt,a6,Nat.and_two_pow_sub_one_eq_mod]
 show IntKind.i64.wrap ((BitVec.ofInt 64 n&&&BitVec.ofInt 64 1).toNat:Nat)=n%2;rw[key,Uk];omega
section
variable {w w' : World} {g : Nat} {u : Value} {n : Nat} {br : Nat} {t : TypeId} {cs : Array Value}
theorem Cur.ne (hc:Cur w g u n) (hb:Blk w br t cs) (ht:t≠68):br≠g:=by
 rintro rfl;obtain⟨i,x,_,hk⟩:=hc;unfold Blk at hb hk;rw[hb]at hk;injection hk with hk;injection hk with _ hk;exact ht hk
theorem Blk.cur (hb:Blk w br t cs) (hc:Cur w g u n) (ht:t≠68) (hg:w.grownBy w' (some g)):Blk w' br t cs:=
 hb.grown hg fun e=>hc.ne hb ht (by injection e)
theorem Cur.far (hc:Cur w g u n) {p:Addr} (hp:g≠p.block) (x:Value):Cur (w.setCell p x) g u n:=by
 obtain⟨i,y,hi,hk⟩:=hc;exact⟨i,y,hi,hk.far hp x⟩
end
theorem QG {r P:Int} (h:(r/P)%2=1) (h0:0<=r) (hP:1<=P):P<=r:=by
 rcases Int.lt_or_le r P with hlt|a6
 . rw[Int.ediv_eq_zero_of_lt h0 hlt]at h;omega
 . exact a6
theorem O7 {r:Int} {a:Nat} (h0:0<=r) (h1:r<=255) (ha:a<6):∃V:Int,bits .or .i64 r (IntKind.i64.wrap (3*(2:Int)^a))=V/\0<=V/\V<=255:=by
 obtain⟨n,rfl⟩:=Int.eq_ofNat_of_zero_le h0;have h2:2^a<=2^5:=Nat.pow_le_pow_right (by decide) (by omega);obtain⟨m,hm⟩:∃m:Nat,m=3*2^a:=⟨_,rfl⟩;have e:(3:Int)*2^a=(m:Int):=by rw[hm];simp
 have a6:m<=96:=(by omega);clear hm;rw[e,Ul _ (by omega),yO n m (by omega) (by omega)];have:=Nat.or_lt_two_pow (n:=8) (show n<2^8 by omega) (show m<2^8 by omega);exact⟨_,rfl,by omega,by omega⟩
def SQ (W:World) (g:Nat) (v:Value) (n:Nat) (w:World) (e:Ending) (w':World):Prop:=∃b,e= .returned (.bool b)/\Cur w' g v n/\Below W.heap.size W w'/\w.grownBy w' (some g)
theorem Aq (n : Int) (W : World) (g : Nat) (v : Value) (l : List Int) (w : World) (h : Rd 1 nG W v l) (bA : Hid (nR (fun x => 0 <= x /\ x <= 255) l)) (hg : W.heap.size <= g) (a7 : Below W.heap.size W w) (a8 : Cur w g v l.length) (hn : n <= 9223372036854775807) :
 Calls prog 40 #[.pointer (some ⟨g,0,none⟩),.int .i64 n] w (SQ W g v l.length w):=by
 go_enter Tryz.func40,Tryz.ntmps40
 go_wp2_with fail
 refine(aQ n W g v l _ h bA hg a7 a8 hn).mono ?_;rintro e w1 ⟨x,rfl,hx,a6,hb1,hg1⟩;go_wp2;go_ret;exact⟨x==0,rfl,a6,hb1,hg1⟩
def iI (i:Nat):Cl:=((i:Int)%8,(i:Int)/8)
def eT (s k:Nat):List Cl:=((List.range k).filter fun i=>s.testBit i).map iI
theorem zP (s k:Nat):eT s (k+1)=eT s k++if s.testBit k then[iI k]else[]:=by
 unfold eT;rw[List.range_succ,List.filter_append,List.map_append];by_cases h:s.testBit k=true
 . rw[if_pos h];simp[h]
 . rw[if_neg h];simp[h]
theorem uY (s k:Nat):(eT s k).length<=k:=by
 unfold eT;rw[List.length_map];exact Nat.le_trans (List.length_filter_le _ _) (by simp)
theorem BR (i:Nat) (w:World) (hi:i<=64):Calls prog 208 #[.int .i64 i] w (Ret (I9 (iI i)) w):=by
 go_enter Tryz.func208,Tryz.ntmps208
 go_wp2;refine bodyPost_ret (v:=I9 (iI i)) (by simp[results,Tryz.results208,go_sem,iI]) rfl ⟨rfl,?_⟩;exact((Below.refl _ _).al _)
def eF (rows:List Int):List Cl:=if bQ rows then eT (setOf rows) 64 else[]
theorem BV (rows:List Int):(eF rows).length<=64:=by
 unfold eF;split
 . exact uY _ _
 . simp
end Go.Proofs.YtjijonhkofhikaaGreatDoor
