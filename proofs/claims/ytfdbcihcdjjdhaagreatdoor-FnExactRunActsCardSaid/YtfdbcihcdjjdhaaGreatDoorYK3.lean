/- WithCell of the program. No conditions but sizes. WithCell of the reference: the plain law that its rows are those of the set, and the walks. No conditions but sizes. WithCell of the reference: the walk. No conditions but sizes. WithCell of the reference where the region and the cell are valid: the walk. The laws' copying, comparing, marking and holding of regions, and WithCell of both sides as one function. No conditions but sizes. The reference's drawing of numbers from bytes: l01New, l01Byte, l01Below. Conditions: the bytes read as a list; numbers are ints. The boxes that the reference draws: valid ones, one to four kinds. Conditions: the bytes read as a list. Rectangle of the program and of the reference, CellAt of the reference: the walks. Conditions: valid sizes. The regions that the reference draws: valid ones, of one to five rows. Conditions: the bytes read as a list. The cells of a set and of a region; HasCell, SameCells of the program: the walks. No conditions but sizes.. Conditions, where there are any, stand in the statements. -/
import Derived.Test.YtfdbcihcdjjdhaaGreatDoorYK2
import Derived.Test.YtfdbcihcdjjdhaaGreatDoorYK1
import Derived.IntWalk
import Derived.Laws.BitsLemmas
import Derived.Deep.RegionHeld3
namespace Go.Proofs.YtfdbcihcdjjdhaaGreatDoor
open Go.ChangeShapes Go.WideShapes Go.ChangeAt Go.RowKit
set_option linter.unusedVariables false
set_option maxHeartbeats 4000000
set_option maxRecDepth 100000
theorem Blk.bl {w w':World} {g:Nat} {t:TypeId} {cs:Array Value} (h:Blk w g t cs) (hb:Below w.heap.size w w'):Blk w' g t cs:=h.below hb h.lt
theorem Blk.set1 {w:World} {g:Nat} {t:TypeId} {v:Value} (h:Blk w g t #[v]) (u:Value):Blk (w.setCell ⟨g,0,none⟩ u) g t #[u]:=h.set_ 0 u
theorem Blk.new2 (w:World) (t:TypeId) (cs:Array Value) (g:Nat) (hg:g=w.heap.size):Blk (w.alloc (.cells cs t)) g t cs:=by subst hg;exact Blk.new_ w t cs
theorem ofInt_i64 (a:Nat) (ha:a<18446744073709551616):(BitVec.ofInt 64 (a:Int)).toNat=a:=by
 rw[BitVec.ofInt_natCast,BitVec.toNat_ofNat];exact Nat.mod_eq_of_lt (by omega)
theorem i64_or_nat (a b:Nat) (ha:a<4294967296) (hb:b<4294967296):bits .or .i64 (a:Int) (b:Int)=((a|||b:Nat):Int):=by
 have hx:a|||b<2^32:=Nat.or_lt_two_pow (by omega) (by omega);show IntKind.i64.wrap ((BitVec.ofInt 64 (a:Int)|||BitVec.ofInt 64 (b:Int)).toNat:Int)=_;rw[BitVec.toNat_or,ofInt_i64 a (by omega),ofInt_i64 b (by omega),IntKind.wrap_i64];omega
theorem i64_and_nat (a b:Nat) (ha:a<4294967296) (hb:b<4294967296):bits .and .i64 (a:Int) (b:Int)=((a&&&b:Nat):Int):=by
 have hx:a&&&b<2^32:=Nat.and_lt_two_pow _ (by omega);show IntKind.i64.wrap ((BitVec.ofInt 64 (a:Int)&&&BitVec.ofInt 64 (b:Int)).toNat:Int)=_;rw[BitVec.toNat_and,ofInt_i64 a (by omega),ofInt_i64 b (by omega),IntKind.wrap_i64];omega
theorem regionOkS_any (v:Value) (rows:List Int) (w:World) (h:Rd 1 RInt w v rows):Calls Tryz.prog 208 #[.agg #[v]] w (Ret (.bool (regionOk rows)) w):=by
 obtain⟨A,c,rfl,hc,hm⟩:=h.form;have h':=h.below RE.stays ((Below.refl _ _).al (.cells #[.slice A rows.length c] 32))
 have e0:regionOk rows=(allIn 0 255 rows&&decide ((rows.length:Int)≤8)):=by
  unfold regionOk;rw[Bool.and_comm];congr 1;rw[decide_eq_decide];omega
 rw[e0];go_enter Tryz.func208,Tryz.ntmps208
 go_wp2;go_loop [3] (fun i=>∃k:Nat,k≤rows.length∧i= .int .i64 k∧Hid (allIn 0 255 (rows.drop k)=allIn 0 255 rows)) (fun i=>rows.length-(intOf i).toNat)
 case atStart=>exact⟨0,Nat.zero_le _,rfl,Lib.hid rfl⟩
 case round=>
  obtain⟨k,hk,rfl,Hg⟩:=hrel;by_cases hlt:k<rows.length
  · obtain⟨b,off,rfl,hb,h1⟩:=h'.atInt hlt;go_wp2_with (go_at_call 83;(with_reducible refine(in_any _ _ _ _).mono ?_);rintro e w' ⟨rfl,rfl⟩)
    all_goals first
      | (go_round
         case rel=>exact⟨k+1,by omega,by go_num,allIn_go Hg hlt (by rename_i hx;simpa using hx)⟩
         case measure=>simp[intOf];omega)
      | (go_ret
         exact⟨retB (by rw[allIn_no Hg hlt (by rename_i hx;simpa using hx)];rfl),(Below.refl _ _).al _⟩)
  · go_wp2;go_ret;exact⟨retB (by rw[allIn_end Hg (by omega),Bool.true_and]),(Below.refl _ _).al _⟩
theorem copyS_any (v:Value) (l:List Int) (w:World) (h:Rd 1 RInt w v l) (hl:Small l.length):Calls Tryz.prog 227 #[.agg #[v]] w (RetReg l w):=by
 obtain⟨A,c,rfl,hc,hm⟩:=h.form;have hA:=(((Below.refl w.heap.size w).al (.cells #[.slice A l.length c] 32)).al (.cells #[.slice none 0 0] 32)).al (.cells #[] 3);have h':=h.below RE.stays hA;have hs8:(0+l.length)*8≤140737488355328:=by unfold Small at hl;omega
 have hsm:0+l.length≤maxLen:=by have:=hl.max;omega
 have hB:w.heap.size+1+1≤(((w.alloc (.cells #[.slice A l.length c] 32)).alloc (.cells #[.slice none 0 0] 32)).alloc (.cells #[] 3)).heap.size:=by simp
 have hE:OwnL 3 1 eInt (w.heap.size+1+1) (((w.alloc (.cells #[.slice A l.length c] 32)).alloc (.cells #[.slice none 0 0] 32)).alloc (.cells #[] 3)) (.slice (some ⟨w.heap.size+1+1,0,none⟩) 0 0) ([]:List Int):=by
  have:=own_empty (E:=3) (size:=1) (enc:=eInt) ((w.alloc (.cells #[.slice A l.length c] 32)).alloc (.cells #[.slice none 0 0] 32));simpa using this
 have hx:=(Blk.new2 (w.alloc (.cells #[.slice A l.length c] 32)) 32 #[.slice none 0 0] (w.heap.size+1) (by simp)).alloc (.cells #[] 3);have H8:=Lib.hid hs8;have HM:=Lib.hid hsm;have HB:=Lib.hid hB;clear hs8 hsm hB;go_enter Tryz.func227,Tryz.ntmps227
 go_wp2_with (at_builtin;go_must (refine wpList_appAll (enc:=eInt) rowInt lenInt oneInt HB.out hE h' H8.out HM.out rfl _ _ rfl rfl rfl ?_);intro v1 w1 own1 hb1 hv1;obtain⟨A1,c1,rfl⟩:=hv1;simp only[List.nil_append,List.length_nil,Nat.zero_add]at own1;have hx1:=hx.below hb1 (Nat.lt_succ_self _);have q1:=hx1.c1;have q2:=hx1.frozen 0;have q3:=hx1.lt)
 have q5:=(hx1.set1 (.slice A1 l.length c1)).c1;refine bodyPost_ret (v:= .agg #[.slice A1 l.length c1]) (by simp[results,Tryz.results227,go_sem,q5]) rfl ⟨A1,c1,rfl,(own1.low (Nat.lt_succ_self _) _).mono (by omega),?_⟩;exact(hA.trans (hb1.mono (by omega))).st _ _ (Nat.le_succ _)
theorem toRegion_any (v:Value) (l:List Int) (w:World) (h:Rd 1 RInt w v l) (hl:Small l.length):Calls Tryz.prog 163 #[.agg #[v]] w (RetReg l w):=by
 obtain⟨A,c,rfl,hc,hm⟩:=h.form;have hA:=(((Below.refl w.heap.size w).al (.cells #[.slice A l.length c] 24)).al (.cells #[.slice none 0 0] 32)).al (.cells #[.slice none 0 0] 32);have h':=h.below RE.stays hA;have hx:=Blk.new2 (((w.alloc (.cells #[.slice A l.length c] 24)).alloc (.cells #[.slice none 0 0] 32))) 32 #[.slice none 0 0] (w.heap.size+1+1) (by simp);have hr:=(Blk.new2 (w.alloc (.cells #[.slice A l.length c] 24)) 32 #[.slice none 0 0] (w.heap.size+1) (by simp)).alloc (.cells #[.slice none 0 0] 32);go_enter Tryz.func163,Tryz.ntmps163
 go_wp2_with fail
 refine(toInts_any _ l _ h' hl).mono ?_;rintro e w1 ⟨A1,c1,rfl,own1,hb1⟩;obtain⟨hc1,hf1,hz1⟩:=bk hb1;(try simp at hz1)
 have hy1_0:w.heap.size<w1.heap.size:=(by omega);have hy1_1:w.heap.size+1<w1.heap.size:=(by omega);have hy1_2:w.heap.size+1+1<w1.heap.size:=(by omega);have hx1:=(hx.bl hb1).set1 (.slice A1 l.length c1);have hr1:=((hr.bl hb1).far (p:=⟨w.heap.size+1+1,0,none⟩) (by simp) (.slice A1 l.length c1)).set1 (.slice A1 l.length c1);have q5:=hx1.c1;have q6:=hr1.c1;have q7:=((hr.bl hb1).far (p:=⟨w.heap.size+1+1,0,none⟩) (by simp) (.slice A1 l.length c1)).frozen 0;go_wp2;refine bodyPost_ret (v:= .agg #[.slice A1 l.length c1]) (by simp[results,Tryz.results163,go_sem,q6]) rfl ⟨A1,c1,rfl,(((own1.low (by simp) _).low (by simp) _).mono hA.size),?_⟩;exact((hA.tr hb1).st _ _ (by simp;omega)).st _ _ (by simp)
theorem szRegion_any (v:Value) (l:List Int) (left:Int) (w:World) (h:Rd 1 RInt w v l) (h0:0≤left) (h1:left≤1048576):Calls Tryz.prog 153 #[.agg #[v],.int .i64 left] w (Ret (.int .i64 (szOf left l.length)) w):=by
 obtain⟨A,c,rfl,hc,hm⟩:=h.form;have h':=h.below RE.stays ((Below.refl _ _).al (.cells #[.slice A l.length c] 24));by_cases hn:(l.length:Int)≤left
 · have hn2 : ¬ (left - (l.length : Int) < 0) := by omega
   rw[szOf_ok hn];have Hs:=Lib.hid (szOf_ok hn);go_enter Tryz.func153,Tryz.ntmps153
   go_wp2_with fail
   refine(szInts_any _ l _ _ h' h0 h1).mono ?_;rintro e w1 ⟨rfl,rfl⟩;rw[Hs.out];go_wp2;go_ret;exact⟨rfl,(Below.refl _ _).al _⟩
 · rw[szOf_no hn];have Hs:=Lib.hid (szOf_no hn);go_enter Tryz.func153,Tryz.ntmps153
   go_wp2_with fail
   refine(szInts_any _ l _ _ h' h0 h1).mono ?_;rintro e w1 ⟨rfl,rfl⟩;rw[Hs.out];go_wp2;go_ret;exact⟨rfl,(Below.refl _ _).al _⟩
theorem eqRegion_any (u v:Value) (l m:List Int) (w:World) (h:Rd 1 RInt w u l) (h':Rd 1 RInt w v m):Calls Tryz.prog 173 #[.agg #[u],.agg #[v]] w (Ret (.bool (l==m)) w):=by
 obtain⟨A,c,rfl,hc,hm⟩:=h.form;obtain⟨A',c',rfl,hc',hm'⟩:=h'.form;have hA:=((Below.refl w.heap.size w).al (.cells #[.slice A l.length c] 32)).al (.cells #[.slice A' m.length c'] 32);have g:=h.below RE.stays hA;have g':=h'.below RE.stays hA;obtain⟨r,hr⟩:∃r,r=(l==m):=⟨_,rfl⟩;rw[←hr];have Hr:=Lib.hid hr;clear hr;go_enter Tryz.func173,Tryz.ntmps173
 go_wp2_with fail
 refine(eqInts_any _ _ l m _ g g').mono ?_;rintro e w1 ⟨rfl,hb1⟩;obtain⟨hc1,hf1,hz1⟩:=bk hb1;(try simp at hz1)
 have hy1_0:w.heap.size<w1.heap.size:=(by omega);have hy1_1:w.heap.size+1<w1.heap.size:=(by omega);rw[←Hr.out];cases r
 · go_wp2;go_ret;exact⟨rfl,hA.tr hb1⟩
 · go_wp2;go_ret;exact⟨rfl,hA.tr hb1⟩
theorem markRegion_any (v:Value) (l:List Int) (k:Int) (B:Nat) (w:World) (h:OwnL 3 1 eInt B w v l) (h0:0≤k) (h1:k≤67108864) (hl:l.length≤1048576):
 Calls Tryz.prog 176 #[.agg #[v],.int .i64 k] w (Marked (.int .i64 (k+l.length)) v (fun w'=>OwnL 3 1 eInt B w' v (marksInt k l.length)) w):=by
 obtain⟨A,c,rfl,hc,hm⟩:=h.form;have h':=h.alloc (.cells #[.slice A l.length c] 32);go_enter Tryz.func176,Tryz.ntmps176
 go_wp2_with fail
 refine(markInts_any _ l k B _ h' h0 h1 hl).mono ?_;rintro e w1 ⟨rfl,own1,hg1⟩;go_wp2;go_ret;exact⟨rfl,own1,⟨hg1.os,hg1.tape,hg1.output,Nat.le_trans (by simp) hg1.size,fun j hj hne=>(hg1.block j (by simp;omega) hne).trans (Below.heap_alloc w _ j hj)⟩⟩
theorem heldRegion_any (v:Value) (k:Int) (n:Nat) (w:World) (h:Rd 1 RInt w v (marksInt k n)) (h0:0≤k) (h1:k≤67108864) (hl:n≤1048576):
 Calls Tryz.prog 179 #[.agg #[v],.int .i64 k] w (Ret (.int .i64 (k+n)) w):=by
 obtain⟨A,c,rfl,hc,hm⟩:=h.form;have h':=h.below RE.stays ((Below.refl _ _).al (.cells #[.slice A (marksInt k n).length c] 32));have hn2:¬(k+(n:Int)<0):=(by omega);go_enter Tryz.func179,Tryz.ntmps179
 go_wp2_with fail
 refine(heldInts_any _ k n _ h' h0 h1 hl).mono ?_;rintro e w1 ⟨rfl,rfl⟩;go_wp2;go_ret;exact⟨rfl,(Below.refl _ _).al _⟩
theorem Blk.st {w:World} {g:Nat} {t:TypeId} {cs:Array Value} (h:Blk w g t cs) (i:Nat) (u:Value) (ds:Array Value) (e:cs.setIfInBounds i u=ds):Blk (w.setCell ⟨g,i,none⟩ u) g t ds:=e▸h.set_ i u
theorem own_nil (w:World) {E:TypeId} {α:Type} {size:Nat} {enc:α→List Value} {B:Nat}:OwnL E size enc B w (.slice none 0 0) ([]:List α):=⟨by simp,.inl ⟨rfl,rfl⟩⟩
theorem own_mt (w:World) {E:TypeId} {α:Type} {size:Nat} {enc:α→List Value} (g:Nat) (hg:g=w.heap.size) (B:Nat) (hB:B≤w.heap.size):OwnL E size enc B (w.alloc (.cells #[] E)) (.slice (some ⟨g,0,none⟩) 0 0) ([]:List α):=by
 subst hg;have:=World.ownsRow_lit (e:=E) (size:=size) w #[] 0 (Nat.le_refl _) (by simp[maxLen]) (by simp);exact OwnL.mono (B':=B) this hB
def Cur (w:World) (g:Nat) (v:Value) (n:Nat):Prop:=∃(i:Nat) (h:Int),i≤n∧Blk w g 185 #[v,.int .i64 i,.int .i64 h]
def Drawn (W:World) (g:Nat) (v:Value) (n:Nat) (P:Int→Prop) (w:World) (e:Ending) (w':World):Prop:=∃x,e= .returned (.int .i64 x)∧P x∧Cur w' g v n∧Below W.heap.size W w'∧w.grownBy w' (some g)
theorem gr_drewN {w w':World} {r:Option Nat} (h:w.grownBy w' r) (n:Nat):w.grownBy (w'.drewN n) r:=
 ⟨h.os,h.tape,h.output,h.size,h.block⟩
theorem Drawn.split {W:World} {g:Nat} {v:Value} {n:Nat} {P:Int→Prop} {w:World} {e:Ending} {w':World} (h:Drawn W g v n P w e w'):∃x,e= .returned (.int .i64 x)∧P x∧Cur w' g v n∧Below W.heap.size W w'∧w.grownBy w' (some g):=h
section
variable {α : Type} {E : TypeId} {size : Nat} {enc : α → List Value} {B : Nat} {w w' : World} {v : Value} {l : List α} {g : Nat} {u : Value} {n : Nat}
theorem OwnL.cur (h:OwnL E size enc B w v l) (hc:Cur w g u n) (hne:E≠185) (hg:w.grownBy w' (some g)):OwnL E size enc B w' v l:=by
 obtain⟨i,x,_,hb⟩:=hc;exact World.ownsRow.kept h hg (.inr (h.apart hb hne))
theorem Cur.app {row:Option Nat} (hc:Cur w g u n) (o:Obj) (hg:(w.alloc o).grownBy w' row) (hne:row≠some g):Cur w' g u n:=by
 obtain⟨i,x,hi,hb⟩:=hc;exact⟨i,x,hi,(hb.alloc o).grown hg (fun e=>hne e.symm)⟩
theorem Cur.apart (h:OwnL E size enc B w v l) (hc:Cur w g u n) (hne:E≠185):v.ownBlock≠some g:=by
 obtain⟨i,x,_,hb⟩:=hc;exact h.apart hb hne
theorem Cur.bl (hc:Cur w g u n) (hb:Below w.heap.size w w'):Cur w' g u n:=by
 obtain⟨i,x,hi,hk⟩:=hc;exact⟨i,x,hi,hk.below hb hk.lt⟩
theorem Cur.alloc (hc:Cur w g u n) (o:Obj):Cur (w.alloc o) g u n:=by
 obtain⟨i,x,hi,hk⟩:=hc;exact⟨i,x,hi,hk.alloc o⟩
theorem Cur.drewN (hc:Cur w g u n) (k:Nat):Cur (w.drewN k) g u n:=by
 obtain⟨i,x,hi,hk⟩:=hc;exact⟨i,x,hi,hk.drewN k⟩
end
theorem cellAtS_yes (i:Nat) (w:World) (hi:i<64):Calls Tryz.prog 110 #[.int .i64 i] w (Ret (.tuple #[.agg #[.int .i64 ((i:Int)%8),.int .i64 ((i:Int)/8)],.bool true]) w):=by
 have h1:inB (i:Int) 0 63=true:=by simp[inB];omega
 go_enter Tryz.func110,Tryz.ntmps110
 go_wp2_with fail
 refine(in_any _ _ _ _).mono ?_;rintro e w5 ⟨rfl,rfl⟩;rw[h1];go_wp2;refine bodyPost_ret (v:= .tuple #[.agg #[.int .i64 ((i:Int)%8),.int .i64 ((i:Int)/8)],.bool true]) (by simp[results,Tryz.results110,go_sem]) rfl ⟨rfl,?_⟩;exact((Below.refl _ _).al _)
theorem i64_and1 (n:Int):bits .and .i64 n 1=n%2:=by
 have h127:(BitVec.ofInt 64 1).toNat=2^1-1:=by decide
 have key:(BitVec.ofInt 64 n&&&BitVec.ofInt 64 1).toNat=(n%((2^64:Nat):Int)).toNat%2^1:=by
  rw[BitVec.toNat_and,BitVec.toNat_ofInt,h127,Nat.and_two_pow_sub_one_eq_mod]
 show IntKind.i64.wrap ((BitVec.ofInt 64 n&&&BitVec.ofInt 64 1).toNat:Nat)=n%2;rw[key,IntKind.wrap_i64];omega
section
variable {w w' : World} {g : Nat} {u : Value} {n : Nat} {br : Nat} {t : TypeId} {cs : Array Value}
theorem Cur.ne (hc:Cur w g u n) (hb:Blk w br t cs) (ht:t≠185):br≠g:=by
 rintro rfl;obtain⟨i,x,_,hk⟩:=hc;unfold Blk at hb hk;rw[hb]at hk;injection hk with hk;injection hk with _ hk;exact ht hk
theorem Blk.cur (hb:Blk w br t cs) (hc:Cur w g u n) (ht:t≠185) (hg:w.grownBy w' (some g)):Blk w' br t cs:=
 hb.grown hg fun e=>hc.ne hb ht (by injection e)
theorem Cur.far (hc:Cur w g u n) {p:Addr} (hp:g≠p.block) (x:Value):Cur (w.setCell p x) g u n:=by
 obtain⟨i,y,hi,hk⟩:=hc;exact⟨i,y,hi,hk.far hp x⟩
end
def ixCell (i:Nat):Cl:=((i:Int)%8,(i:Int)/8)
def cellsTo (s k:Nat):List Cl:=((List.range k).filter fun i=>s.testBit i).map ixCell
theorem cellsTo_succ (s k:Nat):cellsTo s (k+1)=cellsTo s k++if s.testBit k then[ixCell k]else[]:=by
 unfold cellsTo;rw[List.range_succ,List.filter_append,List.map_append];by_cases h:s.testBit k=true
 · rw[if_pos h];simp[h]
 · rw[if_neg h];simp[h]
theorem cellsTo_le (s k:Nat):(cellsTo s k).length≤k:=by
 unfold cellsTo;rw[List.length_map];exact Nat.le_trans (List.length_filter_le _ _) (by simp)
theorem cellAtI_any (i:Nat) (w:World) (hi:i≤64):Calls Tryz.prog 238 #[.int .i64 i] w (Ret (aCell (ixCell i)) w):=by
 go_enter Tryz.func238,Tryz.ntmps238
 go_wp2;refine bodyPost_ret (v:=aCell (ixCell i)) (by simp[results,Tryz.results238,go_sem,ixCell]) rfl ⟨rfl,?_⟩;exact((Below.refl _ _).al _)
def regCells (rows:List Int):List Cl:=if regionOk rows then cellsTo (setOf rows) 64 else[]
theorem regCells_le (rows:List Int):(regCells rows).length≤64:=by
 unfold regCells;split
 · exact cellsTo_le _ _
 · simp
end Go.Proofs.YtfdbcihcdjjdhaaGreatDoor
