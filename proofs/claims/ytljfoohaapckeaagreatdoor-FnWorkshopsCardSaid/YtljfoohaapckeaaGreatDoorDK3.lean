/- WithCell of the program. No conditions but sizes. WithCell of the reference: the plain law that its rows are those of the set, and the walks. No conditions but sizes. WithCell of the reference: the walk. No conditions but sizes. WithCell of the reference where the region and the cell are valid: the walk. The laws' copying, comparing, marking and holding of regions, and WithCell of both sides as one function. No conditions but sizes. The reference's drawing of numbers from bytes: l01New, l01Byte, l01Below. Conditions: the bytes read as a list; numbers are ints. The boxes that the reference draws: valid ones, one to four kinds. Conditions: the bytes read as a list. Rectangle of the program and of the reference, CellAt of the reference: the walks. Conditions: valid sizes. The regions that the reference draws: valid ones, of one to five rows. Conditions: the bytes read as a list. The cells of a set and of a region; HasCell, SameCells of the program: the walks. No conditions but sizes.. Conditions, where there are any, stand in the statements. -/
import Derived.Test.YtljfoohaapckeaaGreatDoorDK2
import Derived.Test.YtljfoohaapckeaaGreatDoorDK1
import Derived.IntWalk
import Derived.Laws.BitsLemmas
import Derived.Deep.RegionHeld3
open _root_.List (replicate getD_eq_getElem?_getD getElem?_eq_none getElem?_eq_getElem getElem_mem length_set getElem?_toArray getElem?_cons_zero getElem?_cons_succ)
open _root_.Nat (zero_le le_refl)
open _root_.Go.IntKind (wrap_i64)
open _root_.Go.IntWalk (i64_in)
open _root_.Go.Proofs.Tryz (prog func219 ntmps219 results219 func67 ntmps67)
namespace Go.Proofs.YtljfoohaapckeaaGreatDoor
open Go.ChangeShapes Go.WideShapes Go.ChangeAt Go.RowKit
set_option linter.unusedVariables false
set_option maxHeartbeats 4000000
set_option maxRecDepth 100000
def nO (l:List Int) (b:Bool) (w:World) (e:Ending) (w':World):Prop:=∃A c,e= .returned (.tuple #[.agg #[.slice A l.length c],.bool b])/\aC 3 1 aY w.heap.size w' (.slice A l.length c) l/\Below w.heap.size w w'
def lL (s i:Nat) (on:Bool):Nat:=if on then rD (gZ s i) i else gZ s i
def kR (rows:List Int) (c:Cl) (on:Bool):List Int×Bool:=if aZ rows&&aV c then(rowsOf (lL (setOf rows) (cO c).toNat on) 8,true)else(rows,false)
theorem Blk.bl {w w':World} {g:Nat} {t:TypeId} {cs:Array Value} (h:Blk w g t cs) (hb:Below w.heap.size w w'):Blk w' g t cs:=h.below hb h.lt
theorem Blk.set1 {w:World} {g:Nat} {t:TypeId} {v:Value} (h:Blk w g t #[v]) (u:Value):Blk (w.setCell ⟨g,0,none⟩ u) g t #[u]:=h.CY 0 u
theorem Blk.iV (w:World) (t:TypeId) (cs:Array Value) (g:Nat) (hg:g=w.heap.size):Blk (w.alloc (.cells cs t)) g t cs:=by subst hg;exact Blk.bK w t cs
def lM (r x:Nat) (on:Bool):Nat:=if on then r|||2^x else(r|||2^x)-2^x
theorem EH:∀r<256,∀x<8,∀j<8,(lM r x true).testBit j=(r.testBit j||decide (x=j))/\(lM r x false).testBit j=(r.testBit j&& !decide (x=j)):=by
 decide+kernel
theorem AQ:∀r<256,∀x<8,lM r x true<256/\lM r x false<256:=by
 decide+kernel
def AR (rows:List Int):List Int:=rows++replicate (8-rows.length) 0
theorem tT {rows:List Int} (h:rows.length<=8):(AR rows).length=8:=by simp[AR];omega
theorem Dz (rows:List Int) (i:Nat):(AR rows).getD i 0=rows.getD i 0:=by
 unfold AR;rw[getD_eq_getElem?_getD,getD_eq_getElem?_getD];by_cases h:i<rows.length
 . rw[List.getElem?_append_left h]
 . rw [List.getElem?_append_right (by omega), getElem?_eq_none (l := rows) (by omega), List.getElem?_replicate];split<;>rfl
theorem getD_in {rows:List Int} (h:dJ rows) (i:Nat):0<=rows.getD i 0/\rows.getD i 0<=255:=by
 rw[getD_eq_getElem?_getD];by_cases hi:i<rows.length
 . rw[getElem?_eq_getElem hi,Option.getD_some];exact h.2 _ (getElem_mem hi)
 . rw[getElem?_eq_none (by omega)];decide
theorem yR {s i:Nat} (hs:s<U64) (hi:i<64) (on:Bool) (j:Nat):(lL s i on).testBit j=if on then(s.testBit j||decide (i=j))else(s.testBit j&& !decide (i=j)):=by
 unfold lL;cases on
 . simp only[Bool.false_eq_true,if_false];exact jX hs hi j
 . simp only[if_true];rw[pE,jX hs hi];cases s.testBit j<;>cases hd:decide (i=j)<;>rfl
theorem KS {rows:List Int} (h:dJ rows) {x y:Nat} (hx:x<8) (hy:y<8) (on:Bool):
 (AR rows).set y (lM (rows.getD y 0).toNat x on:Nat)=rowsOf (lL (setOf rows) (8*y+x) on) 8:=by
 have hi:8*y+x<64:=(by omega);refine List.ext_getElem? fun k=> ?_
 by_cases hk:k<8
 . have hr:=getD_in h k
   have hrow:(rowsOf (lL (setOf rows) (8*y+x) on) 8)[k]? =some ((((lL (setOf rows) (8*y+x) on)>>>(8*k))%256:Nat):Int):=by
    have:=Dy (lL (setOf rows) (8*y+x) on) 8 k hk;rw[getD_eq_getElem?_getD,getElem?_eq_getElem (by rw[eX];exact hk),Option.getD_some]at this;rw[getElem?_eq_getElem (by rw[eX];exact hk),this]
   rw[hrow]
   have hval:∀v:Nat,v<256->(∀j,j<8->v.testBit j=(lL (setOf rows) (8*y+x) on).testBit (8*k+j))->some (v:Int)=some ((((lL (setOf rows) (8*y+x) on)>>>(8*k))%256:Nat):Int):=by
    intro v hv hb;have:v=((lL (setOf rows) (8*y+x) on)>>>(8*k))%256:=ME hv (Nat.mod_lt _ (by decide)) fun j hj=>by rw[Jg _ _ _ hj];exact hb j hj
    rw[<-this]
   have hset:∀j,j<8->(setOf rows).testBit (8*k+j)=(rows.getD k 0).toNat.testBit j:=by
    intro j hj;rw[uG h,show(8*k+j)/8=k by omega,show(8*k+j)%8=j by omega]
   by_cases e:y=k
   . subst e;rw[List.getElem?_set_self (by rw[tT h.1];exact hk)];have hr2:(rows.getD y 0).toNat<256:=(by omega);have hl:=AQ _ hr2 x hx
     have hl':lM (rows.getD y 0).toNat x on<256:=by
      cases on
      . exact hl.2
      . exact hl.1
     refine hval _ hl' fun j hj=> ?_
     rw[yR (dX h) hi,hset j hj];have hb:=EH _ hr2 x hx j hj;have hd:decide (8*y+x=8*y+j)=decide (x=j):=by rw[decide_eq_decide];omega
     rw[hd];cases on
     . simp only[Bool.false_eq_true,if_false];exact hb.2
     . simp only[if_true];exact hb.1
   . rw[List.getElem?_set_ne e];have hp:=Dz rows k;rw[getD_eq_getElem?_getD,getElem?_eq_getElem (by rw[tT h.1];exact hk),Option.getD_some]at hp;rw[getElem?_eq_getElem (by rw[tT h.1];exact hk),hp];have hnn:rows.getD k 0=(((rows.getD k 0).toNat:Nat):Int):=(by omega);rw[hnn];refine hval _ (by omega) fun j hj=> ?_
     rw[yR (dX h) hi,hset j hj];have hd:decide (8*y+x=8*k+j)=false:=by rw[decide_eq_false_iff_not];omega
     rw[hd];cases on<;>simp
 . rw[getElem?_eq_none (by rw[length_set,tT h.1];omega),getElem?_eq_none (by rw[eX];omega)]
theorem uH (a:Nat) (ha:a<18446744073709551616):(BitVec.ofInt 64 (a:Int)).toNat=a:=by
 rw[BitVec.ofInt_natCast,BitVec.toNat_ofNat];exact Nat.mod_eq_of_lt (by omega)
theorem vK (a b:Nat) (ha:a<4294967296) (hb:b<4294967296):bits .or .i64 (a:Int) (b:Int)=((a|||b:Nat):Int):=by
 have hx:a|||b<2^32:=Nat.or_lt_two_pow (by omega) (by omega);show IntKind.i64.wrap ((BitVec.ofInt 64 (a:Int)|||BitVec.ofInt 64 (b:Int)).toNat:Int)=_;rw[BitVec.toNat_or,uH a (by omega),uH b (by omega),wrap_i64];omega
theorem FH (a b:Nat) (ha:a<4294967296) (hb:b<4294967296):bits .and .i64 (a:Int) (b:Int)=((a&&&b:Nat):Int):=by
 have hx:a&&&b<2^32:=Nat.and_lt_two_pow _ (by omega);show IntKind.i64.wrap ((BitVec.ofInt 64 (a:Int)&&&BitVec.ofInt 64 (b:Int)).toNat:Int)=_;rw[BitVec.toNat_and,uH a (by omega),uH b (by omega),wrap_i64];omega
theorem dK (v:Value) (rows:List Int) (w:World) (h:Rd 1 bH w v rows):Calls prog 163 #[.agg #[v]] w (Ret (.bool (aZ rows)) w):=by
 obtain⟨A,c,rfl,hc,hm⟩:=h.form;have h':=h.Oz ((Below.refl _ _).al (.cells #[.slice A rows.length c] 26))
 have e0:aZ rows=(allIn 0 255 rows&&decide ((rows.length:Int)<=8)):=by
  unfold aZ;rw[Bool.and_comm];congr 1;rw[decide_eq_decide];omega
 rw[e0];go_enter Tryz.func163,Tryz.ntmps163
 go_wp2;go_loop [3] (fun i=>∃k:Nat,k<=rows.length/\i= .int .i64 k/\Hid (allIn 0 255 (rows.drop k)=allIn 0 255 rows)) (fun i=>rows.length-(intOf i).toNat)
 case atStart=>exact⟨0,zero_le _,rfl,OA rfl⟩
 case round=>
  obtain⟨k,hk,rfl,Hg⟩:=hrel;by_cases hlt:k<rows.length
  . obtain⟨b,off,rfl,hb,h1⟩:=h'.uE hlt;go_wp2_with (go_at_call 73;(with_reducible refine(iI _ _ _ _).mono ?_);rintro e w' ⟨rfl,rfl⟩)
    all_goals first
      | (go_round
         case rel=>exact⟨k+1,by omega,by go_num,Cg Hg hlt (by rename_i hx;simpa using hx)⟩
         case measure=>simp[intOf];omega)
      | (go_ret
         exact⟨kN (by rw[Ch Hg hlt (by rename_i hx;simpa using hx)];rfl),(Below.refl _ _).al _⟩)
  . go_wp2;go_ret;exact⟨kN (by rw[yA Hg (by omega),Bool.true_and]),(Below.refl _ _).al _⟩
theorem uI (v:Value) (l:List Int) (w:World) (h:Rd 1 bH w v l) (hl:Small l.length):Calls prog 195 #[.agg #[v]] w (IZ l w):=by
 obtain⟨A,c,rfl,hc,hm⟩:=h.form;have hA:=(((Below.refl w.heap.size w).al (.cells #[.slice A l.length c] 26)).al (.cells #[.slice none 0 0] 26)).al (.cells #[] 3);have h':=h.Oz hA;have hs8:(0+l.length)*8<=140737488355328:=by unfold Small at hl;omega
 have hsm:0+l.length<=maxLen:=by have:=hl.max;omega
 have hB:w.heap.size+1+1<=(((w.alloc (.cells #[.slice A l.length c] 26)).alloc (.cells #[.slice none 0 0] 26)).alloc (.cells #[] 3)).heap.size:=by simp
 have hE:aC 3 1 aY (w.heap.size+1+1) (((w.alloc (.cells #[.slice A l.length c] 26)).alloc (.cells #[.slice none 0 0] 26)).alloc (.cells #[] 3)) (.slice (some ⟨w.heap.size+1+1,0,none⟩) 0 0) ([]:List Int):=by
  have:=fB (E:=3) (size:=1) (enc:=aY) ((w.alloc (.cells #[.slice A l.length c] 26)).alloc (.cells #[.slice none 0 0] 26));simpa using this
 have hx:=(Blk.iV (w.alloc (.cells #[.slice A l.length c] 26)) 26 #[.slice none 0 0] (w.heap.size+1) (by simp)).alloc (.cells #[] 3);have H8:=OA hs8;have HM:=OA hsm;have HB:=OA hB;clear hs8 hsm hB;go_enter Tryz.func195,Tryz.ntmps195
 go_wp2_with (at_builtin;go_must (refine dY (enc:=aY) fA aL jD HB.out hE h' H8.out HM.out rfl _ _ rfl rfl rfl ?_);intro v1 w1 own1 hb1 hv1;obtain⟨A1,c1,rfl⟩:=hv1;simp only[List.nil_append,List.length_nil,Nat.zero_add]at own1;have hx1:=hx.below hb1 (Nat.lt_succ_self _);have q1:=hx1.c1;have q2:=hx1.frozen 0;have q3:=hx1.lt)
 have q5:=(hx1.set1 (.slice A1 l.length c1)).c1;refine bodyPost_ret (v:= .agg #[.slice A1 l.length c1]) (by simp[results,Tryz.results195,go_sem,q5]) rfl ⟨A1,c1,rfl,(own1.low (Nat.lt_succ_self _) _).mono (by omega),?_⟩;exact(hA.trans (hb1.mono (by omega))).st _ _ (Nat.le_succ _)
theorem EI (v:Value) (rows:List Int) (x y:Int) (on:Bool) (w:World) (h:Rd 1 bH w v rows) (hl:Small rows.length) (hno:(aZ rows&&aV (x,y))=false):
 Calls prog 219 #[.agg #[v],.agg #[.int .i64 x,.int .i64 y],.bool on] w (nO rows false w):=by
 obtain⟨A,c,rfl,hc,hm⟩:=h.form;have hA:=(((Below.refl w.heap.size w).al (.cells #[.slice A rows.length c] 26)).al (.cells #[.int .i64 x,.int .i64 y] 70)).al (.cells #[.slice none 0 0] 26);have h':=h.Oz hA;have hx:=Blk.iV ((w.alloc (.cells #[.slice A rows.length c] 26)).alloc (.cells #[.int .i64 x,.int .i64 y] 70)) 26 #[.slice none 0 0] (w.heap.size+1+1) (by simp);rcases hr:aZ rows with _|_
 . go_enter func219,ntmps219
   go_wp2_with fail
   refine(uI _ rows _ h' hl).mono ?_;rintro e w1 ⟨A1,c1,rfl,own1,hb1⟩;obtain⟨hc1,hf1,hz1⟩:=bk hb1;(try simp at hz1)
   have hy1_0:w.heap.size<w1.heap.size:=(by omega);have hy1_1:w.heap.size+1<w1.heap.size:=(by omega);have hy1_2:w.heap.size+1+1<w1.heap.size:=(by omega);have hx1:=(hx.bl hb1).alloc (.cells #[.slice A1 rows.length c1] 26);have ho1:=Blk.bK w1 26 #[.slice A1 rows.length c1];go_wp2_with fail
   refine(dK _ rows _ ((h'.Oz hb1).Oz ((Below.refl _ _).al _))).mono ?_;rintro e w2 ⟨rfl,hb2⟩;obtain⟨hc2,hf2,hz2⟩:=bk hb2;(try simp at hz2)
   have hy2_0:w.heap.size<w2.heap.size:=(by omega);have hy2_1:w.heap.size+1<w2.heap.size:=(by omega);have hy2_2:w.heap.size+1+1<w2.heap.size:=(by omega);have hy2_3:w1.heap.size<w2.heap.size:=(by omega);rw[hr];have q1:=(ho1.bl hb2).c1;have q5:=((hx1.bl hb2).set1 (.slice A1 rows.length c1)).c1;have B2:=((hA.tr hb1).al (.cells #[.slice A1 rows.length c1] 26)).tr hb2;have own2:=(own1.alloc (.cells #[.slice A1 rows.length c1] 26)).below hb2;go_wp2;refine bodyPost_ret (v:= .tuple #[.agg #[.slice A1 rows.length c1],.bool false]) (by simp[results,results219,go_sem,q5]) rfl ⟨A1,c1,rfl,(own2.low (by simp) _).mono (by simp;omega),B2.st _ _ (by simp;omega)⟩
 . rw[hr,Bool.true_and]at hno;go_enter func219,ntmps219
   go_wp2_with fail
   refine(uI _ rows _ h' hl).mono ?_;rintro e w1 ⟨A1,c1,rfl,own1,hb1⟩;obtain⟨hc1,hf1,hz1⟩:=bk hb1;(try simp at hz1)
   have hy1_0:w.heap.size<w1.heap.size:=(by omega);have hy1_1:w.heap.size+1<w1.heap.size:=(by omega);have hy1_2:w.heap.size+1+1<w1.heap.size:=(by omega);have hx1:=(hx.bl hb1).alloc (.cells #[.slice A1 rows.length c1] 26);have ho1:=Blk.bK w1 26 #[.slice A1 rows.length c1];go_wp2_with fail
   refine(dK _ rows _ ((h'.Oz hb1).Oz ((Below.refl _ _).al _))).mono ?_;rintro e w2 ⟨rfl,hb2⟩;obtain⟨hc2,hf2,hz2⟩:=bk hb2;(try simp at hz2)
   have hy2_0:w.heap.size<w2.heap.size:=(by omega);have hy2_1:w.heap.size+1<w2.heap.size:=(by omega);have hy2_2:w.heap.size+1+1<w2.heap.size:=(by omega);have hy2_3:w1.heap.size<w2.heap.size:=(by omega);rw[hr];go_wp2_with fail
   refine(gJ x y _).mono ?_;rintro e w3 ⟨rfl,hb3⟩;obtain⟨hc3,hf3,hz3⟩:=bk hb3;(try simp at hz3)
   have hy3_0:w.heap.size<w3.heap.size:=(by omega);have hy3_1:w.heap.size+1<w3.heap.size:=(by omega);have hy3_2:w.heap.size+1+1<w3.heap.size:=(by omega);have hy3_3:w1.heap.size<w3.heap.size:=(by omega);rw[hno];have q1:=((ho1.bl hb2).bl hb3).c1;have q5:=(((hx1.bl hb2).bl hb3).set1 (.slice A1 rows.length c1)).c1;have B2:=(((hA.tr hb1).al (.cells #[.slice A1 rows.length c1] 26)).tr hb2).tr hb3;have own2:=((own1.alloc (.cells #[.slice A1 rows.length c1] 26)).below hb2).below hb3;go_wp2;refine bodyPost_ret (v:= .tuple #[.agg #[.slice A1 rows.length c1],.bool false]) (by simp[results,results219,go_sem,q5]) rfl ⟨A1,c1,rfl,(own2.low (by simp) _).mono (by simp;omega),B2.st _ _ (by simp;omega)⟩
def AV (w:World) (b:Nat):Nat:=match w.cell? ⟨b,0,none⟩with|some (.slice _ n _)=>n|_=>0
theorem Blk.len_ {w:World} {g:Nat} {t:TypeId} {A:Option Addr} {n c:Nat} (h:Blk w g t #[.slice A n c]):AV w g=n:=by unfold AV;rw[h.c1]
theorem CZ (v:Value) (rows:List Int) (x y:Nat) (on:Bool) (w:World) (h:Rd 1 bH w v rows) (hl:Small rows.length) (hr:aZ rows=true) (hx8:x<8) (hy8:y<8):
 Calls prog 219 #[.agg #[v],.agg #[.int .i64 x,.int .i64 y],.bool on] w (nO ((AR rows).set y (lM (rows.getD y 0).toNat x on:Nat)) true w):=by
 obtain⟨A,c,rfl,hc,hm⟩:=h.form;have hA:=(((Below.refl w.heap.size w).al (.cells #[.slice A rows.length c] 26)).al (.cells #[.int .i64 x,.int .i64 y] 70)).al (.cells #[.slice none 0 0] 26);have h':=h.Oz hA;have hx:=Blk.iV ((w.alloc (.cells #[.slice A rows.length c] 26)).alloc (.cells #[.int .i64 x,.int .i64 y] 70)) 26 #[.slice none 0 0] (w.heap.size+1+1) (by simp);have hcb:=(Blk.iV (w.alloc (.cells #[.slice A rows.length c] 26)) 70 #[.int .i64 x,.int .i64 y] (w.heap.size+1) (by simp)).alloc (.cells #[.slice none 0 0] 26);have hcell:aV ((x:Int),(y:Int))=true:=bQ.2 ⟨⟨by omega,by omega⟩,by omega,by omega⟩;have Hrows:=OA (aN.1 hr);have h8:=Hrows.out.1;go_enter func219,ntmps219
 go_wp2_with fail
 refine(uI _ rows _ h' hl).mono ?_;rintro e w1 ⟨A1,c1,rfl,own1,hb1⟩;obtain⟨hc1,hf1,hz1⟩:=bk hb1;(try simp at hz1)
 have hy1_0:w.heap.size<w1.heap.size:=(by omega);have hy1_1:w.heap.size+1<w1.heap.size:=(by omega);have hy1_2:w.heap.size+1+1<w1.heap.size:=(by omega);have hx1:=(hx.bl hb1).alloc (.cells #[.slice A1 rows.length c1] 26);have hcb1:=(hcb.bl hb1).alloc (.cells #[.slice A1 rows.length c1] 26);have ho1:=Blk.bK w1 26 #[.slice A1 rows.length c1];go_wp2_with fail
 refine(dK _ rows _ ((h'.Oz hb1).Oz ((Below.refl _ _).al _))).mono ?_;rintro e w2 ⟨rfl,hb2⟩;obtain⟨hc2,hf2,hz2⟩:=bk hb2;(try simp at hz2)
 have hy2_0:w.heap.size<w2.heap.size:=(by omega);have hy2_1:w.heap.size+1<w2.heap.size:=(by omega);have hy2_2:w.heap.size+1+1<w2.heap.size:=(by omega);have hy2_3:w1.heap.size<w2.heap.size:=(by omega);rw[hr];go_wp2_with fail
 refine(gJ x y _).mono ?_;rintro e w3 ⟨rfl,hb3⟩;obtain⟨hc3,hf3,hz3⟩:=bk hb3;(try simp at hz3)
 have hy3_0:w.heap.size<w3.heap.size:=(by omega);have hy3_1:w.heap.size+1<w3.heap.size:=(by omega);have hy3_2:w.heap.size+1+1<w3.heap.size:=(by omega);have hy3_3:w1.heap.size<w3.heap.size:=(by omega);rw[hcell];have hx3:=(hx1.bl hb2).bl hb3;have hcb3:=(hcb1.bl hb2).bl hb3;have ho3:=(ho1.bl hb2).bl hb3;have B3:=(((hA.tr hb1).al (.cells #[.slice A1 rows.length c1] 26)).tr hb2).tr hb3;have own3:=(((own1.alloc (.cells #[.slice A1 rows.length c1] 26)).below hb2).below hb3).mono (B':=w.heap.size+3) (by simp);obtain⟨bo,hbo⟩:=Oy w1.heap.size;rw[<-hbo]at ho3 hy2_3 hy3_3;have hbo2:w.heap.size+3<=bo:=(by omega);have q1:=ho3.c1;rw[<-hbo];clear hc1 hf1 hz1 hc2 hf2 hz2 hc3 hf3 hz3 hx hcb hx1 hcb1 ho1 hb1 hb2 hb3 own1 hA hbo hy1_0 hy1_1 hy1_2 hy2_0 hy2_1 hy2_2 hy2_3 hy3_0 hy3_1 hy3_2;go_wp2;go_loopw [20] (fun _ wr=>∃(j:Nat) (A':Option Addr) (c':Nat),rows.length+j<=8/\Blk wr bo 26 #[.slice A' (rows.length+j) c']/\aC 3 1 aY (w.heap.size+3) wr (.slice A' (rows.length+j) c') (rows++replicate j 0)/\Blk wr (w.heap.size+1+1) 26 #[.slice none 0 0]/\Blk wr (w.heap.size+1) 70 #[.int .i64 x,.int .i64 y]/\Below w.heap.size w wr) (fun _ wr=>8-AV wr bo)
 case atStart=>exact⟨0,A1,c1,by omega,ho3,by simpa using own3,hx3,hcb3,B3⟩
 case round=>
  obtain⟨j,A',c',hj,hbx,hown,hbr,hbc,hbel⟩:=hrel;clear ho3 own3 hx3 hcb3 B3 q1;have q1:=hbx.c1;have q2:=hbx.frozen 0;have hz:=hbx.lt;by_cases hlt:rows.length+j<8
  . have hltI : ((rows.length : Int) + j) < 8 := by omega
    have hlen:(rows++replicate j (0:Int)).length=rows.length+j:=(by simp);have HB:Hid (w.heap.size+3<=wr.heap.size):=OA (by omega);have H8:Hid (((rows++replicate j (0:Int)).length+1)*8<=140737488355328):=OA (by rw[hlen];omega);have HM:Hid ((rows++replicate j (0:Int)).length+1<=maxLen):=OA (by rw[hlen];unfold maxLen;omega);have Hlen:=OA hlen;clear hlen;go_wp2_with (at_builtin;go_must (refine yP (enc:=aY) fA aL jD (B:=w.heap.size+3) wr HB.out hown 0 rfl H8.out HM.out rfl _ _ rfl rfl rfl ?_);intro v1 w1 own1 hg1 hv1;rw[Hlen.out]at hv1;obtain⟨A1,c1,rfl⟩:=hv1;have hbx1:=hbx.grown hg1 (fun e=>(hown.apart hbx (by decide)) e.symm);have q3:=hbx1.c1;have q4:=hbx1.frozen 0)
    have hbx2:=hbx1.set1 (.slice A1 (rows.length+j+1) c1);have hbr2:=(hbr.grown hg1 (fun e=>(hown.apart hbr (by decide)) e.symm)).far (p:=⟨bo,0,none⟩) (by simp;omega) (.slice A1 (rows.length+j+1) c1);have hbc2:=(hbc.grown hg1 (fun e=>(hown.apart hbc (by decide)) e.symm)).far (p:=⟨bo,0,none⟩) (by simp;omega) (.slice A1 (rows.length+j+1) c1);have own2:=own1.far (a:=⟨bo,0,none⟩) (own1.apart hbx1 (by decide)) (.slice A1 (rows.length+j+1) c1);rw[List.append_assoc,show replicate j (0:Int)++[0]=replicate (j+1) 0 by rw[List.replicate_succ']]at own2;have B2:=(Below.app hbel hown (by omega) hg1).st ⟨bo,0,none⟩ (.slice A1 (rows.length+j+1) c1) (by simp;omega);have e1:=hbx.len_;have e2:=hbx2.len_;go_roundw
    case rel=>exact⟨j+1,A1,c1,by omega,hbx2,own2,hbr2,hbc2,B2⟩
    case measure=>rw[e1,e2];omega
  . obtain rfl : j = 8 - rows.length := by omega
    have hl8:rows.length+(8-rows.length)=8:=(by omega);rw[hl8]at hown hbx q1;change aC _ _ _ _ _ _ (AR rows)at hown;have hpl:(AR rows).length=8:=tT h8;obtain⟨r,hre⟩:∃r:Nat,r=(rows.getD y 0).toNat:=⟨_,rfl⟩;have hgr:=getD_in Hrows.out y;have hr256:r<256:=by omega
    have hpy : (AR rows)[y]'(by omega) = (r : Int) := by
     have:=Dz rows y;rw[getD_eq_getElem?_getD,getElem?_eq_getElem (by omega),Option.getD_some]at this;rw[this];omega
    obtain⟨g,rfl,hBg,hgl⟩:=hown.split (k:=y) (by omega);have s1:=hown.slot aL Nat.one_pos (k:=y) (by omega) 0 (.int .i64 r) (by rw[hpy];rfl);have s2:=hown.free y;rw[Nat.mul_one,Nat.add_zero]at s1;have z0:=hbc.cell 0;have z1:=hbc.cell 1;have hgo:g≠bo:=fun e=>(hown.apart hbx (by decide)) (by rw[e];rfl)
    have c1:=hbr.c1;have c2:=hbr.frozen 0;have hzr:=hbr.lt;have hyI:(y:Int)<8:=(by omega);rw[<-hre];have hx2:(2:Int)^x=((2^x:Nat):Int):=(by simp);have hp2:2^x<256:=Nat.lt_of_lt_of_le (Nat.pow_lt_pow_right (by decide) hx8) (by decide)
    have e1:bits .or .i64 (r:Int) (IntKind.i64.wrap (2^x))=((r|||2^x:Nat):Int):=by
     rw[hx2];generalize 2^x=q at hp2⊢;rw[i64_in _ (by omega)];exact vK r q (by omega) (by omega)
    have hle:2^x<=r|||2^x:=Nat.right_le_or;have hor:r|||2^x<256:=(AQ r hr256 x hx8).1
    have e2:IntKind.i64.wrap (((r|||2^x:Nat):Int)-IntKind.i64.wrap (2^x))=(((r|||2^x)-2^x:Nat):Int):=by
     rw[hx2];generalize r|||2^x=m at hle hor⊢;generalize 2^x=q at hp2 hle⊢;rw[i64_in (q:Int) (by omega),i64_in _ (by omega)];omega
    have E2:=OA e2;clear e2;have Hre:=OA hre;have Hpl:=OA hpl;clear hre hpy hpl hx2 hl8 hgr;simp only[getElem?_toArray,getElem?_cons_zero,getElem?_cons_succ]at z0 z1;have hyg:y<(AR rows).length:=by rw[Hpl.out];exact hy8
    have hbx4:=hbx.far (p:=⟨g,y,none⟩) (fun e=>hgo e.symm) (.int .i64 ((r|||2^x:Nat):Int));have hbr4:=hbr.far (p:=⟨g,y,none⟩) (by simp;omega) (.int .i64 ((r|||2^x:Nat):Int));have hbc4:=hbc.far (p:=⟨g,y,none⟩) (by simp;omega) (.int .i64 ((r|||2^x:Nat):Int));have own4:=hown.iJ aL (y:=((r|||2^x:Nat):Int)) hyg rfl;have B4:=hbel.st ⟨g,y,none⟩ (.int .i64 ((r|||2^x:Nat):Int)) (by simp;omega);have HT:Hid (lM (rows.getD y 0).toNat x true=r|||2^x):=OA (by rw[<-Hre.out];rfl);have HF:Hid (lM (rows.getD y 0).toNat x false=(r|||2^x)-2^x):=OA (by rw[<-Hre.out];rfl);cases on
    . go_wp2_with fail
      go_still_tail 15,(by kernel_rfl)
      change wpList _ _ _ _ _ wr.drew;clear e1;go_wp2_with fail
      obtain⟨W4,hW4⟩:∃W4:World,W4=(wr.setCell ⟨g,y,none⟩ (.int .i64 ((r|||2^x:Nat):Int))).drew:=⟨_,rfl⟩;rw[<-hW4];have hbx5:Blk W4 bo 26 #[.slice (some ⟨g,0,none⟩) 8 c']:=by rw[hW4];exact hbx4
      have hbr5:Blk W4 (w.heap.size+1+1) 26 #[.slice none 0 0]:=by rw[hW4];exact hbr4
      have hbc5:Blk W4 (w.heap.size+1) 70 #[.int .i64 x,.int .i64 y]:=by rw[hW4];exact hbc4
      have own5:aC 3 1 aY (w.heap.size+3) W4 (.slice (some ⟨g,0,none⟩) 8 c') ((AR rows).set y ((r|||2^x:Nat):Int)):=by
       rw[hW4];exact own4.drewN 1
      have B5:Below w.heap.size w W4:=by rw[hW4];exact B4.drew
      clear hbx hbr hbc hown hbel hbx4 hbr4 hbc4 own4 B4 s1 s2 q1 q2 hz z0 z1 c1 c2 hzr hW4;have q1:=hbx5.c1;have q2:=hbx5.frozen 0;have hz:=hbx5.lt;have c1:=hbr5.c1;have c2:=hbr5.frozen 0;have hzr:=hbr5.lt;have z0:=hbc5.cell 0;have z1:=hbc5.cell 1;simp only[getElem?_toArray,getElem?_cons_zero,getElem?_cons_succ]at z0 z1;have hyg2:y<((AR rows).set y ((r|||2^x:Nat):Int)).length:=by rw[length_set];exact hyg
      have s1:=own5.slot aL Nat.one_pos (k:=y) hyg2 0 (.int .i64 ((r|||2^x:Nat):Int)) (by rw[List.getElem_set_self];rfl);have s2:=own5.free y;rw[Nat.mul_one,Nat.add_zero]at s1;have own6:=own5.iJ aL (y:=(((r|||2^x)-2^x:Nat):Int)) hyg2 rfl;rw[List.set_set]at own6;have hbr6:=hbr5.far (p:=⟨g,y,none⟩) (by simp;omega) (.int .i64 (((r|||2^x)-2^x:Nat):Int));have hbx6:=hbx5.far (p:=⟨g,y,none⟩) (fun e=>hgo e.symm) (.int .i64 (((r|||2^x)-2^x:Nat):Int));have B6:=B5.st ⟨g,y,none⟩ (.int .i64 (((r|||2^x)-2^x:Nat):Int)) (by simp;omega);have q5:=(hbr6.set1 (.slice (some ⟨g,0,none⟩) 8 c')).c1;have q6:=hbx6.c1;have e2:=E2.out;have hps:((AR rows).set y (lM (rows.getD y 0).toNat x false:Nat)).length=8:=by rw[length_set];exact Hpl.out
      have Hps:=OA hps;clear hps hyg2;go_still_tail 15,(by kernel_rfl)
      change wpList _ _ _ _ _ W4.drew;go_wp2;refine bodyPost_ret (v:= .tuple #[.agg #[.slice (some ⟨g,0,none⟩) 8 c'],.bool true]) (by simp[results,results219,go_sem,q5]) rfl ⟨some ⟨g,0,none⟩,c',by rw[Hps.out],?_,(B6.drew.st ⟨w.heap.size+1+1,0,none⟩ _ (by simp;omega))⟩;rw[Hps.out,HF.out];exact((own6.low (p:=⟨w.heap.size+1+1,0,none⟩) (by simp) _).mono (by omega)).drewN 1
    . have q5:=(hbr4.set1 (.slice (some ⟨g,0,none⟩) 8 c')).c1;have q6:=hbx4.c1;have hps:((AR rows).set y (lM (rows.getD y 0).toNat x true:Nat)).length=8:=by rw[length_set];exact Hpl.out
      have Hps:=OA hps;clear hps;go_wp2_with fail
      go_still_tail 15,(by kernel_rfl)
      change wpList _ _ _ _ _ wr.drew;go_wp2;refine bodyPost_ret (v:= .tuple #[.agg #[.slice (some ⟨g,0,none⟩) 8 c'],.bool true]) (by simp[results,results219,go_sem,q5]) rfl ⟨some ⟨g,0,none⟩,c',by rw[Hps.out],?_,(B4.drew.st ⟨w.heap.size+1+1,0,none⟩ _ (by simp;omega))⟩;rw[Hps.out,HT.out];exact((own4.low (p:=⟨w.heap.size+1+1,0,none⟩) (by simp) _).mono (by omega)).drewN 1
theorem jM (v:Value) (rows:List Int) (x y:Int) (on:Bool) (w:World) (h:Rd 1 bH w v rows) (hl:Small rows.length):
 Calls prog 219 #[.agg #[v],.agg #[.int .i64 x,.int .i64 y],.bool on] w (nO (kR rows (x,y) on).1 (kR rows (x,y) on).2 w):=by
 by_cases hb:(aZ rows&&aV (x,y))=true
 . have hb':=hb;rw[Bool.and_eq_true]at hb';have hc:=bQ.1 hb'.2;simp only at hc;obtain⟨a,rfl⟩:=Int.eq_ofNat_of_zero_le hc.1.1;obtain⟨b,rfl⟩:=Int.eq_ofNat_of_zero_le hc.2.1;have ha:a<8:=(by omega);have hbb:b<8:=(by omega);have e:=CZ v rows a b on w h hl hb'.1 ha hbb;rw[KS (aN.1 hb'.1) ha hbb on]at e;have hi:(cO ((a:Int),(b:Int))).toNat=8*b+a:=by rw[(dG hb'.2).1];simp only;omega
   have hw:kR rows ((a:Int),(b:Int)) on=(rowsOf (lL (setOf rows) (8*b+a) on) 8,true):=by unfold kR;rw[if_pos hb,hi]
   rw[hw];exact e
 . have hw : kR rows (x, y) on = (rows, false) := by unfold kR; rw [if_neg hb]
   rw[hw];exact EI v rows x y on w h hl (by simpa using hb)
theorem AX (n:Int):bits .and .i64 n 255=n%256:=by
 have h127:(BitVec.ofInt 64 255).toNat=2^8-1:=by decide
 have key:(BitVec.ofInt 64 n&&&BitVec.ofInt 64 255).toNat=(n%((2^64:Nat):Int)).toNat%2^8:=by
  rw[BitVec.toNat_and,BitVec.toNat_ofInt,h127,Nat.and_two_pow_sub_one_eq_mod]
 show IntKind.i64.wrap ((BitVec.ofInt 64 n&&&BitVec.ofInt 64 255).toNat:Nat)=n%256;rw[key,wrap_i64];omega
theorem J3 (n:Int):bits .and .i64 n 1073741823=n%1073741824:=by
 have h127:(BitVec.ofInt 64 1073741823).toNat=2^30-1:=by decide
 have key:(BitVec.ofInt 64 n&&&BitVec.ofInt 64 1073741823).toNat=(n%((2^64:Nat):Int)).toNat%2^30:=by
  rw[BitVec.toNat_and,BitVec.toNat_ofInt,h127,Nat.and_two_pow_sub_one_eq_mod]
 show IntKind.i64.wrap ((BitVec.ofInt 64 n&&&BitVec.ofInt 64 1073741823).toNat:Nat)=n%1073741824;rw[key,wrap_i64];omega
theorem Blk.st {w:World} {g:Nat} {t:TypeId} {cs:Array Value} (h:Blk w g t cs) (i:Nat) (u:Value) (ds:Array Value) (e:cs.setIfInBounds i u=ds):Blk (w.setCell ⟨g,i,none⟩ u) g t ds:=e▸h.CY i u
theorem Ji (w:World) {E:TypeId} {α:Type} {size:Nat} {enc:α->List Value} {B:Nat}:aC E size enc B w (.slice none 0 0) ([]:List α):=⟨by simp,.inl ⟨rfl,rfl⟩⟩
theorem iK (w:World) {E:TypeId} {α:Type} {size:Nat} {enc:α->List Value} (g:Nat) (hg:g=w.heap.size) (B:Nat) (hB:B<=w.heap.size):aC E size enc B (w.alloc (.cells #[] E)) (.slice (some ⟨g,0,none⟩) 0 0) ([]:List α):=by
 subst hg;have:=World.ownsRow_lit (e:=E) (size:=size) w #[] 0 (le_refl _) (by simp[maxLen]) (by simp);exact aC.mono (B':=B) this hB
def Cur (w:World) (g:Nat) (v:Value) (n:Nat):Prop:=∃(i:Nat) (h:Int),i<=n/\Blk w g 135 #[v,.int .i64 i,.int .i64 h]
def KH (W:World) (g:Nat) (v:Value) (n:Nat) (P:Int->Prop) (w:World) (e:Ending) (w':World):Prop:=∃x,e= .returned (.int .i64 x)/\P x/\Cur w' g v n/\Below W.heap.size W w'/\w.grownBy w' (some g)
def NI (v:Value) (n:Nat) (w:World) (e:Ending) (w':World):Prop:=∃g,e= .returned (.pointer (some ⟨g,0,none⟩))/\w.heap.size<=g/\Cur w' g v n/\Below w.heap.size w w'
def dR (n x:Int):Prop:=(n<=0/\x=0)∨(0<=x/\x<n)
def NJ (x:Int):Prop:=0<=x/\x<=255
theorem EW (v : Value) (l : List Int) (w : World) (h : Rd 1 mM w v l) (ok : mO (fun x => 0 <= x /\ x <= 255) l) (hl : l.length <= 1048576) :
 Calls prog 59 #[v] w (NI v l.length w):=by
 obtain⟨A,c,rfl,hc,hm⟩:=h.form;have Hok:=OA ok;clear ok;go_enter Tryz.func59,Tryz.ntmps59
 go_wp2;go_loop [3,4] (fun q i=>∃(k:Nat) (x:Int),k<=l.length/\i= .int .i64 k/\q= .int .i64 x/\0<=x/\x<=1073741823) (fun _ i=>l.length-(intOf i).toNat)
 case atStart=>exact⟨0,_,zero_le _,rfl,rfl,by omega,by omega⟩
 case round=>
  obtain⟨k,x,hk,rfl,rfl,hx1,hx2⟩:=hrel;by_cases hlt:k<l.length
  . by_cases h4:k<4000
    . have h4I : (k : Int) < 4000 := by omega
      obtain⟨b,off,rfl,hb,h1⟩:=h.IW hlt;have hbyte:=Hok.out l[k] (getElem_mem hlt);have hy1:=hbyte.1;have hy2:=hbyte.2;clear hbyte;obtain⟨y,hy⟩:=Oy (l[k]);rw[<-hy]at h1 hy1 hy2;have Hy:=OA hy;clear hy;have e1:=J3 (x*131+y+7);go_wp2;go_round
      case rel=>exact⟨k+1,(x*131+y+7)%1073741824,by omega,by go_num,rfl,by omega,by omega⟩
      case measure=>simp[intOf];omega
    . have h4I : ¬ (k : Int) < 4000 := by omega
      go_wp2;go_ret;exact⟨w.heap.size,rfl,le_refl _,⟨0,x,zero_le _,Blk.bK _ _ _⟩,(Below.refl _ _).al _⟩
  . go_wp2;go_ret;exact⟨w.heap.size,rfl,le_refl _,⟨0,x,zero_le _,Blk.bK _ _ _⟩,(Below.refl _ _).al _⟩
theorem tV {w w':World} {r:Option Nat} (h:w.grownBy w' r) (n:Nat):w.grownBy (w'.drewN n) r:=
 ⟨h.os,h.tape,h.output,h.size,h.block⟩
theorem tY (W : World) (g : Nat) (v : Value) (l : List Int) (w : World) (h : Rd 1 mM W v l) (Hok : Hid (mO (fun x => 0 <= x /\ x <= 255) l)) (hg : W.heap.size <= g) (hbel : Below W.heap.size W w) (hcur : Cur w g v l.length) :
 Calls prog 127 #[.pointer (some ⟨g,0,none⟩)] w (KH W g v l.length NJ w):=by
 obtain⟨A,c,rfl,hc,hm⟩:=h.form;obtain⟨i,hh,hi,hblk⟩:=hcur;have q0:=hblk.cell 0;have q1:=hblk.cell 1;have q2:=hblk.cell 2;have qf:=hblk.frozen;simp only[getElem?_toArray,getElem?_cons_zero,getElem?_cons_succ]at q0 q1 q2;go_enter Tryz.func127,Tryz.ntmps127
 go_wp2_with fail
 obtain⟨H,hH⟩:=Oy (wrap64 (wrap64 (hh*6364136223846793005)+1442695040888963407));rw[<-hH];obtain⟨W1,hW1⟩:=Oy (w.setCell ⟨g,2,none⟩ (.int .i64 H));rw[<-hW1];have blk1:Blk W1 g 135 #[.slice A l.length c,.int .i64 i,.int .i64 H]:=by rw[hW1];exact hblk.CY 2 _
 have gr1:w.grownBy W1 (some g):=by rw[hW1];exact dI (World.grownBy.refl _ _) _ _
 have B1:Below W.heap.size W W1:=by rw[hW1];exact hbel.st _ _ hg
 clear hH hW1 q0 q1 q2 qf hblk;have q0:=blk1.cell 0;have q1:=blk1.cell 1;have q2:=blk1.cell 2;have qf:=blk1.frozen;simp only[getElem?_toArray,getElem?_cons_zero,getElem?_cons_succ]at q0 q1 q2;go_quiet (fail)
 go_wp2_with fail
 rw[AX];obtain⟨x,hx⟩:=Oy (bits .xor .i64 (H/8589934592) (H/35184372088832)%256);have hx0:0<=x:=(by omega);have hx1:x<=255:=(by omega);rw[<-hx];clear hx;by_cases hlt:i<l.length
 . have hltI : (i : Int) < l.length := by omega
   obtain⟨b,off,rfl,hb,h1⟩:=(h.Oz B1).IW hlt;have hbyte:=Hok.out l[i] (getElem_mem hlt);have hy1:=hbyte.1;have hy2:=hbyte.2;clear hbyte;obtain⟨y,hy⟩:=Oy (l[i]);rw[<-hy]at h1 hy1 hy2;have Hy:=OA hy;clear hy;have e1:IntKind.i64.wrap (x+y)=x+y:=i64_in _ (by omega);have e2:=AX (x+y);go_quiet (fail)
   go_wp2_with fail
   go_quiet (fail)
   clear e1 e2;go_wp2;go_ret;exact⟨(x+y)%256,rfl,⟨by omega,by omega⟩,⟨i+1,H,hlt,(blk1.drewN _).st 1 _ _ (by simp)⟩,((below_drewN B1 _).st _ _ hg),dI (tV gr1 _) _ _⟩
 . have hltI : ¬ (i : Int) < l.length := by omega
   go_quiet (fail)
   go_wp2;go_ret;exact⟨x,rfl,⟨hx0,hx1⟩,⟨i,H,hi,blk1.drewN _⟩,below_drewN B1 _,tV gr1 _⟩
theorem KH.split {W:World} {g:Nat} {v:Value} {n:Nat} {P:Int->Prop} {w:World} {e:Ending} {w':World} (h:KH W g v n P w e w'):∃x,e= .returned (.int .i64 x)/\P x/\Cur w' g v n/\Below W.heap.size W w'/\w.grownBy w' (some g):=h
theorem tZ {w w1 w2:World} {r:Option Nat} (h:w.grownBy w1 r) (k:w1.grownBy w2 r):w.grownBy w2 r:=
 ⟨k.os.trans h.os,k.tape.trans h.tape,k.output.trans h.output,Nat.le_trans h.size k.size,fun b hb hne=>(k.block b (Nat.lt_of_lt_of_le hb h.size) hne).trans (h.block b hb hne)⟩
theorem aQ (n : Int) (W : World) (g : Nat) (v : Value) (l : List Int) (w : World) (h : Rd 1 mM W v l) (Hok : Hid (mO (fun x => 0 <= x /\ x <= 255) l)) (hg : W.heap.size <= g) (hbel : Below W.heap.size W w) (hcur : Cur w g v l.length) (hn : n <= 9223372036854775807) :
 Calls prog 67 #[.pointer (some ⟨g,0,none⟩),.int .i64 n] w (KH W g v l.length (dR n) w):=by
 have hcw:=hcur;obtain⟨i,hh,hi,hblk⟩:=hcur;by_cases h0:n<=0
 . go_enter func67,ntmps67
   go_wp2;go_ret;exact⟨0,rfl,.inl ⟨h0,rfl⟩,hcw,hbel,World.grownBy.refl _ _⟩
 . by_cases h2:n<=256
   . go_enter func67,ntmps67
     go_wp2_with fail
     refine(tY W g v l _ h Hok hg hbel hcw).mono ?_;rintro e w1 ⟨x,rfl,⟨hx0,hx1⟩,hcur1,hb1,hg1⟩;go_wp2;go_ret;exact⟨x%n,rfl,.inr ⟨Int.emod_nonneg _ (by omega),Int.emod_lt_of_pos _ (by omega)⟩,hcur1,hb1,hg1⟩
   . go_enter func67,ntmps67
     go_wp2_with fail
     refine(tY W g v l _ h Hok hg hbel hcw).mono ?_;rintro e w1 ⟨x,rfl,⟨hx0,hx1⟩,hcur1,hb1,hg1⟩;go_wp2_with fail
     refine(tY W g v l _ h Hok hg hb1 hcur1).mono ?_;rintro e w2 ⟨y,rfl,⟨hy0,hy1⟩,hcur2,hb2,hg2⟩;go_wp2_with fail
     refine(tY W g v l _ h Hok hg hb2 hcur2).mono ?_;rintro e w3 ⟨z,rfl,⟨hz0,hz1⟩,hcur3,hb3,hg3⟩;go_wp2_with fail
     refine(tY W g v l _ h Hok hg hb3 hcur3).mono ?_;rintro e w4 ⟨t,rfl,⟨ht0,ht1⟩,hcur4,hb4,hg4⟩;go_wp2;go_ret;exact⟨(x*16777216+y*65536+z*256+t)%n,rfl,.inr ⟨Int.emod_nonneg _ (by omega),Int.emod_lt_of_pos _ (by omega)⟩,hcur4,hb4,tZ (tZ (tZ hg1 hg2) hg3) hg4⟩
section
variable {α : Type} {E : TypeId} {size : Nat} {enc : α -> List Value} {B : Nat} {w w' : World} {v : Value} {l : List α} {g : Nat} {u : Value} {n : Nat}
theorem aC.cur (h:aC E size enc B w v l) (hc:Cur w g u n) (hne:E≠135) (hg:w.grownBy w' (some g)):aC E size enc B w' v l:=by
 obtain⟨i,x,_,hb⟩:=hc;exact World.ownsRow.kept h hg (.inr (h.apart hb hne))
theorem Cur.app {row:Option Nat} (hc:Cur w g u n) (o:Obj) (hg:(w.alloc o).grownBy w' row) (hne:row≠some g):Cur w' g u n:=by
 obtain⟨i,x,hi,hb⟩:=hc;exact⟨i,x,hi,(hb.alloc o).grown hg (fun e=>hne e.symm)⟩
theorem Cur.apart (h:aC E size enc B w v l) (hc:Cur w g u n) (hne:E≠135):v.ownBlock≠some g:=by
 obtain⟨i,x,_,hb⟩:=hc;exact h.apart hb hne
theorem Cur.bl (hc:Cur w g u n) (hb:Below w.heap.size w w'):Cur w' g u n:=by
 obtain⟨i,x,hi,hk⟩:=hc;exact⟨i,x,hi,hk.below hb hk.lt⟩
theorem Cur.alloc (hc:Cur w g u n) (o:Obj):Cur (w.alloc o) g u n:=by
 obtain⟨i,x,hi,hk⟩:=hc;exact⟨i,x,hi,hk.alloc o⟩
theorem Cur.drewN (hc:Cur w g u n) (k:Nat):Cur (w.drewN k) g u n:=by
 obtain⟨i,x,hi,hk⟩:=hc;exact⟨i,x,hi,hk.drewN k⟩
end
def jE (x:Int×Int):Prop:=1<=x.1/\x.1<=12/\x.1+1<=x.2/\x.2<=x.1+9
theorem jE.fine {x:Int×Int} (h:jE x):eU x:=by unfold jE at h;unfold eU;omega
def bZ (w h:Nat):List Int:=replicate h ((2:Int)^w-1)
theorem C8 (w k:Nat):bZ w (k+1)=bZ w k++[(2:Int)^w-1]:=by unfold bZ;rw[List.replicate_succ']
theorem C9 {w:Nat} (hw:w<=8):1<=(2:Int)^w/\(2:Int)^w<=256:=by
 have h1:2^w<=2^8:=Nat.pow_le_pow_right (by decide) hw;have h2:=Nat.pow_pos (n:=w) (show 0<2 by decide);have e:(2:Int)^w=((2^w:Nat):Int):=(by simp);rw[e];omega
theorem yD (a b:Nat) (w:World) (ha:1<=a/\a<=8) (hb:1<=b/\b<=8):Calls prog 177 #[.int .i64 a,.int .i64 b] w (IZ (bZ a b) w):=by
 have h1:inB (a:Int) 1 8=true:=by simp[inB];omega
 have h2:inB (b:Int) 1 8=true:=by simp[inB];omega
 have hp:=C9 ha.2;obtain⟨P,hP⟩:=Oy ((2:Int)^a);rw[<-hP]at hp;have e1:IntKind.i64.wrap ((2:Int)^a)=P:=by rw[<-hP];exact i64_in _ (by omega)
 have e2:IntKind.i64.wrap (P-1)=P-1:=i64_in _ (by omega);have H1:=OA h1;have H2:=OA h2;have HP:=OA hP;have E1:=OA e1;have E2:=OA e2;clear h1 h2 hP e1 e2;go_enter Tryz.func177,Tryz.ntmps177
 go_wp2;go_loopw [6] (fun i wr=>∃(k:Nat) (A:Option Addr) (c:Nat),k<=b/\i= .int .i64 k/\Blk wr (w.heap.size+1) 26 #[.slice A k c]/\Blk wr w.heap.size 26 #[.slice none 0 0]/\aC 3 1 aY (w.heap.size+1+1) wr (.slice A k c) (bZ a k)/\Below w.heap.size w wr) (fun i _=>b-(intOf i).toNat)
 case atStart=>
  refine⟨0,none,0,zero_le _,rfl,?_,?_,?_,?_⟩
  . have:=Blk.bK (w.alloc (.cells #[.slice none 0 0] 26)) 26 #[.slice none 0 0];simpa using this
  . exact(Blk.bK w 26 #[.slice none 0 0]).alloc _
  . exact Ji _
  . exact((Below.refl _ _).al _).al _
 case round=>
  obtain⟨k,A,c,hk,rfl,hbx,hbr,hown,hbel⟩:=hrel;have q1:=hbx.c1;have q2:=hbx.frozen 0;have hz:=hbx.lt;by_cases hlt:k<b
  . have hne := hown.apart hbx (by decide);have hlen:(bZ a k).length=k:=(by simp[bZ]);have HB:Hid (w.heap.size+1+1<=wr.drew.heap.size):=OA (show w.heap.size+1+1<=wr.heap.size by omega);have H8:Hid (((bZ a k).length+1)*8<=140737488355328):=OA (by rw[hlen];omega);have HM:Hid ((bZ a k).length+1<=maxLen):=OA (by rw[hlen];unfold maxLen;omega);have Hlen:=OA hlen;clear hlen;go_wp2_with fail
    refine(iI _ _ _ _).mono ?_;rintro e w5 ⟨rfl,rfl⟩;rw[H1.out];go_wp2_with fail
    refine(iI _ _ _ _).mono ?_;rintro e w5 ⟨rfl,rfl⟩;rw[H2.out];have e1:=E1.out;have e2:=E2.out;go_wp2_with fail
    go_region_law (go_must (refine JZ (enc:=aY) fA aL jD (B:=w.heap.size+1+1) wr.drew HB.out hown (P-1) rfl H8.out HM.out rfl _ _ rfl rfl rfl ?_);intro v1 w1 own1 hg1 hv1;rw[Hlen.out]at hv1;obtain⟨A1,c1,rfl⟩:=hv1;have hbx1:=Blk.grown (w:=wr.drew) hbx hg1 (fun e=>hne e.symm);have q3:=hbx1.c1;have q4:=hbx1.frozen 0;have hz1:=hbx1.lt)
    all_goals
      have hbr1:=Blk.grown (w:=wr.drew) hbr hg1 (fun e=>(hown.apart hbr (by decide)) e.symm);have B1:=Below.app hbel.drew (w:=wr.drew) hown (by omega) hg1;have own2:aC 3 1 aY (w.heap.size+1+1) w1 (.slice A1 (k+1) c1) (bZ a (k+1)):=by rw[C8,<-HP.out];exact own1
      have own3:=own2.far (a:=⟨w.heap.size+1,0,none⟩) (own2.apart hbx1 (by decide)) (.slice A1 (k+1) c1);have hbx2:=hbx1.CY 0 (.slice A1 (k+1) c1);have hbr2:=hbr1.far (p:=⟨w.heap.size+1,0,none⟩) (by simp) (.slice A1 (k+1) c1);have B2:=B1.st ⟨w.heap.size+1,0,none⟩ (.slice A1 (k+1) c1) (by simp);clear own1 own2 hbx hbx1 hbr hbr1 q1 q2 q3 q4 B1 hg1 hown e1 e2;go_wp2;go_roundw
      case rel=>exact⟨k+1,A1,c1,by omega,by go_num,hbx2,hbr2,own3,B2⟩
      case measure=>simp[intOf];omega
  . have q3:=hbr.c1;have q4:=hbr.frozen 0;have hz2:=hbr.lt;obtain rfl:k=b:=by omega
    have hbr5:Blk (wr.setCell ⟨w.heap.size,0,none⟩ (.slice A k c)) w.heap.size 26 #[.slice A k c]:=hbr.CY 0 _;have q5:=hbr5.c1;have hlen:(bZ a k).length=k:=(by simp[bZ]);go_wp2;refine bodyPost_ret (v:= .agg #[.slice A k c]) (by simp[results,Tryz.results177,go_sem,q5]) rfl ⟨A,c,by rw[hlen],?_,?_⟩
    . rw[hlen];exact(hown.low (p:=⟨w.heap.size,0,none⟩) (by simp;omega) _).mono (by omega)
    . exact hbel.st _ _ (le_refl _)
theorem sM (i:Nat) (w:World) (hi:i<64):Calls prog 84 #[.int .i64 i] w (Ret (.tuple #[.agg #[.int .i64 ((i:Int)%8),.int .i64 ((i:Int)/8)],.bool true]) w):=by
 have h1:inB (i:Int) 0 63=true:=by simp[inB];omega
 go_enter Tryz.func84,Tryz.ntmps84
 go_wp2_with fail
 refine(iI _ _ _ _).mono ?_;rintro e w5 ⟨rfl,rfl⟩;rw[h1];go_wp2;refine bodyPost_ret (v:= .tuple #[.agg #[.int .i64 ((i:Int)%8),.int .i64 ((i:Int)/8)],.bool true]) (by simp[results,Tryz.results84,go_sem]) rfl ⟨rfl,?_⟩;exact((Below.refl _ _).al _)
theorem wR (n:Int):bits .and .i64 n 1=n%2:=by
 have h127:(BitVec.ofInt 64 1).toNat=2^1-1:=by decide
 have key:(BitVec.ofInt 64 n&&&BitVec.ofInt 64 1).toNat=(n%((2^64:Nat):Int)).toNat%2^1:=by
  rw[BitVec.toNat_and,BitVec.toNat_ofInt,h127,Nat.and_two_pow_sub_one_eq_mod]
 show IntKind.i64.wrap ((BitVec.ofInt 64 n&&&BitVec.ofInt 64 1).toNat:Nat)=n%2;rw[key,wrap_i64];omega
section
variable {w w' : World} {g : Nat} {u : Value} {n : Nat} {br : Nat} {t : TypeId} {cs : Array Value}
theorem Cur.ne (hc:Cur w g u n) (hb:Blk w br t cs) (ht:t≠135):br≠g:=by
 rintro rfl;obtain⟨i,x,_,hk⟩:=hc;unfold Blk at hb hk;rw[hb]at hk;injection hk with hk;injection hk with _ hk;exact ht hk
theorem Blk.cur (hb:Blk w br t cs) (hc:Cur w g u n) (ht:t≠135) (hg:w.grownBy w' (some g)):Blk w' br t cs:=
 hb.grown hg fun e=>hc.ne hb ht (by injection e)
theorem Cur.far (hc:Cur w g u n) {p:Addr} (hp:g≠p.block) (x:Value):Cur (w.setCell p x) g u n:=by
 obtain⟨i,y,hi,hk⟩:=hc;exact⟨i,y,hi,hk.far hp x⟩
end
theorem Mf {r P:Int} (h:(r/P)%2=1) (h0:0<=r) (hP:1<=P):P<=r:=by
 rcases Int.lt_or_le r P with hlt|hge
 . rw[Int.ediv_eq_zero_of_lt h0 hlt]at h;omega
 . exact hge
theorem KT {r:Int} {a:Nat} (h0:0<=r) (h1:r<=255) (ha:a<6):∃V:Int,bits .or .i64 r (IntKind.i64.wrap (3*(2:Int)^a))=V/\0<=V/\V<=255:=by
 obtain⟨n,rfl⟩:=Int.eq_ofNat_of_zero_le h0;have h2:2^a<=2^5:=Nat.pow_le_pow_right (by decide) (by omega);obtain⟨m,hm⟩:∃m:Nat,m=3*2^a:=⟨_,rfl⟩;have e:(3:Int)*2^a=(m:Int):=by rw[hm];simp
 have hm2:m<=96:=(by omega);clear hm;rw[e,i64_in _ (by omega),vK n m (by omega) (by omega)];have:=Nat.or_lt_two_pow (n:=8) (show n<2^8 by omega) (show m<2^8 by omega);exact⟨_,rfl,by omega,by omega⟩
def NK (W:World) (g:Nat) (v:Value) (n:Nat) (w:World) (e:Ending) (w':World):Prop:=∃b,e= .returned (.bool b)/\Cur w' g v n/\Below W.heap.size W w'/\w.grownBy w' (some g)
theorem Cm (n : Int) (W : World) (g : Nat) (v : Value) (l : List Int) (w : World) (h : Rd 1 mM W v l) (Hok : Hid (mO (fun x => 0 <= x /\ x <= 255) l)) (hg : W.heap.size <= g) (hbel : Below W.heap.size W w) (hcur : Cur w g v l.length) (hn : n <= 9223372036854775807) :
 Calls prog 125 #[.pointer (some ⟨g,0,none⟩),.int .i64 n] w (NK W g v l.length w):=by
 go_enter Tryz.func125,Tryz.ntmps125
 go_wp2_with fail
 refine(aQ n W g v l _ h Hok hg hbel hcur hn).mono ?_;rintro e w1 ⟨x,rfl,hx,hcur1,hb1,hg1⟩;go_wp2;go_ret;exact⟨x==0,rfl,hcur1,hb1,hg1⟩
def gI (i:Nat):Cl:=((i:Int)%8,(i:Int)/8)
def dU (s k:Nat):List Cl:=((List.range k).filter fun i=>s.testBit i).map gI
theorem vY (s k:Nat):dU s (k+1)=dU s k++if s.testBit k then[gI k]else[]:=by
 unfold dU;rw[List.range_succ,List.filter_append,List.map_append];by_cases h:s.testBit k=true
 . rw[if_pos h];simp[h]
 . rw[if_neg h];simp[h]
theorem rF (s k:Nat):(dU s k).length<=k:=by
 unfold dU;rw[List.length_map];exact Nat.le_trans (List.length_filter_le _ _) (by simp)
theorem yS (i:Nat) (w:World) (hi:i<=64):Calls prog 188 #[.int .i64 i] w (Ret (Fp (gI i)) w):=by
 go_enter Tryz.func188,Tryz.ntmps188
 go_wp2;refine bodyPost_ret (v:=Fp (gI i)) (by simp[results,Tryz.results188,go_sem,gI]) rfl ⟨rfl,?_⟩;exact((Below.refl _ _).al _)
def fF (rows:List Int):List Cl:=if aZ rows then dU (setOf rows) 64 else[]
theorem yT (rows:List Int):(fF rows).length<=64:=by
 unfold fF;split
 . exact rF _ _
 . simp
end Go.Proofs.YtljfoohaapckeaaGreatDoor
