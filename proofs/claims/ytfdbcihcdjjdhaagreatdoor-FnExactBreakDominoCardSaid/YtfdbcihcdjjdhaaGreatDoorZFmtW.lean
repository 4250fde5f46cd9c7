/- Numbers and lines as texts: FormatInt of both sides, lineOf. Conditions: numbers from 0 on; the library's table of powers, as its text lays it. -/
import Derived.Test.YtfdbcihcdjjdhaaGreatDoorZK1
import Derived.Test.YtfdbcihcdjjdhaaGreatDoorZShelf
import Derived.Laws.BytesArg
import Derived.Lib.ItoaLen
import Derived.Lib.Join
import Derived.Lib.AppendIntMem
namespace Go.Proofs.YtfdbcihcdjjdhaaGreatDoor
open Go.ChangeShapes Go.WideShapes Go.ChangeAt Go.RowKit
set_option linter.unusedVariables false
set_option linter.unusedSimpArgs false
def Tab (w:World):Prop:=Lib.TabIs Tryz.prog w "internal/strconv.uint64pow10" .u64 Lib.pow10Tab
theorem Tab.below {w w':World} (h:Tab w) (hb:Below w.heap.size w w'):Tab w':=by
 unfold Tab Lib.TabIs World.var? at h⊢
 have hg:Tryz.prog.globalNamed "internal/strconv.uint64pow10" =some 0:=by kernel_rfl
 rw[hg]at h⊢
 simp only[Option.bind_some]at h⊢
 have hlt:0<w.heap.size:=by
  rcases Nat.lt_or_ge 0 w.heap.size with h'|h'
  · exact h'
  · rw[Array.getElem?_eq_none h']at h;cases h
 rw[hb.block 0 hlt]
 exact h
def numB (n:Int):ByteArray:=⟨(Lib.decDigits n.toNat).toArray⟩
theorem itoa_pos {n:Int} (h:0≤n):Lib.itoa n=Lib.decDigits n.toNat:=by unfold Lib.itoa;rw[if_neg (by omega)]
theorem grow_below (w:World) (k:Nat) (os:Array Obj):Below w.heap.size w (Sort.grow (w.drewN k) os):=Lib.below_grow w.heap.size w (Nat.le_refl _) k os
theorem itoa_any (n:Int) (w:World) (h0:0≤n) (h1:n≤9223372036854775807) (ht:Tab w):Calls Tryz.prog 142 #[.int .i64 n] w (Ret (.string (numB n)) w):=by
 refine(Tryz.strconv_Itoa n (by omega) h1 w ht).mono ?_
 rintro e w' ⟨rfl,k,os,rfl⟩
 exact⟨by rw[itoa_pos h0];rfl,grow_below w k os⟩
theorem fmtI_any (n:Int) (w:World) (h0:0≤n) (h1:n≤9223372036854775807) (ht:Tab w):Calls Tryz.prog 71 #[.int .i64 n] w (Ret (.string (numB n)) w):=by
 go_enter Tryz.func71,Tryz.ntmps71
 go_wp2_with fail
 refine(itoa_any n _ h0 h1 ht).mono ?_
 rintro e w1 ⟨rfl,hb1⟩
 go_wp2
 go_ret
 exact⟨rfl,hb1⟩
theorem own_one {α:Type} {E:TypeId} {enc:α→List Value} (w:World) (x:α) {u:Value} (h:enc x=[u]):OwnL E 1 enc w.heap.size (w.alloc (.cells #[u] E)) (.slice (some ⟨w.heap.size,0,none⟩) 1 1) [x]:=by
 have e:[x].flatMap enc=[u]:=by simp[h]
 unfold OwnL
 rw[e]
 exact⟨by simp,.inr ⟨w.heap.size,1,#[u],rfl,Nat.le_refl _,heap_alloc_new w _,by simp,by simp[maxLen],by simp,by simp⟩⟩
end Go.Proofs.YtfdbcihcdjjdhaaGreatDoor
